/- Clone and Split. -/
import Derived.Test.YtfgpcmphcnhbiaaDoorK3
namespace Go.Proofs.YtfgpcmphcnhbiaaDoor
open Go Go.RowKit
set_option linter.unusedVariables false
set_option linter.unusedSimpArgs false
theorem build_none (w : World) : (Instr.buildSlice 25 0 ([] : List (Nat × Value)).toArray).run Tryd.prog w = .ok (.slice (some ⟨w.heap.size, 0, none⟩) 0 0) (w.alloc (.cells ([] : List Value).toArray 5)) := by kernel_rfl

/-- slices.Clone[[]byte,byte] -/
theorem clone_c (b0 o0 c lo hi : Nat) (n : Nat) (bs : List UInt8) (w : World) (hn : n = bs.length) (hlen : n ≤ 100000000) (hr : Rd w lo hi 1 (some ⟨b0, o0, none⟩) n (bcells bs)) :
    Ret Tryd.prog 39 [.slice (some ⟨b0, o0, none⟩) n c] w fun v w' => (∃ B d, v = .slice B n d ∧ Own w' w.heap.size 5 1 B n d (bcells bs)) ∧ Ext w w' := by
  have K0 : Ext w w := Keep.refl _ _
  refine ret_of Tryd.func39 rfl rfl ?_
  refine w_seq ?_
  refine w_region ?_
  refine sv rfl rfl rfl (ex_assign rfl rfl) ?_
  refine w_nil (qe_next ?_)
  refine w_seq ?_
  refine w_seq ?_
  refine w_region ?_
  refine sv rfl rfl rfl (ex_move rfl rfl) ?_
  refine sv rfl rfl rfl (ex_sliceNil Tryd.underlying25 rfl rfl rfl) ?_
  refine w_nil (qe_next ?_)
  refine w_cond_f rfl ?_
  refine w_skip (qe_next ?_)
  refine w_seq ?_
  refine w_region ?_
  refine st rfl rfl rfl (ex_buildSlice (cs := []) rfl rfl build_none) ?_
  rintro _ w1 ⟨g, rfl, hg0, E5, hb5, hs5⟩
  replace K0 := K0.ext E5
  refine sv rfl rfl rfl (ex_move rfl rfl) ?_
  have hsz := K0.size
  have hown := Own.of_blk (lo := w.heap.size) (n := 0) (c := 0) (size := 1) hb5 (by omega) (by omega) (by decide) (by simp)
  refine st rfl rfl rfl (ex_append Tryd.underlying25 z5.1 rfl (by decide) rfl rfl rfl hown (hr.ext K0) (bcells_one _) (by omega) (by omega) (by omega)) ?_
  rintro _ w2 ⟨B1, d1, rfl, hown1, K1, hB1⟩
  replace K0 := K0.trans K1 (fun j hj _ => hown.fresh hj)
  refine sv rfl rfl rfl (ex_assign rfl rfl) ?_
  refine w_nil (qe_next ?_)
  refine w_ret (qe_ret1 rfl rfl ?_)
  exact ⟨⟨B1, d1, by rw [Nat.zero_add], by rw [Nat.zero_add] at hown1; simpa using hown1⟩, K0⟩

/-- Split's own memory between two rounds -/
def ISpl (w : World) (b3 b7 b8 n0 : Nat) (s3 : Sl) (bs : List UInt8) (pre : List Nat) (W : World) : Prop :=
  (∃ B d sl, Blk W b3 25 [slv s3] ∧ Blk W b7 32 [.slice B pre.length d] ∧ Blk W b8 3 [.int .i64 (lastD 0 pre : Int)] ∧ Own W n0 25 1 B pre.length d (sl.map slv) ∧ Owns W n0 sl (pieces bs 0 pre)) ∧ Ext w W ∧ n0 ≤ W.heap.size
theorem ISpl.st {w : World} {b3 b7 b8 n0 n1 : Nat} {s3 : Sl} {bs : List UInt8} {s : List Nat} {a b : World} (h : ISpl w b3 b7 b8 n0 s3 bs s a) (hw : w.heap.size ≤ n1) (k : St16 n1 a b) : ISpl w b3 b7 b8 n0 s3 bs s b := by
  obtain ⟨⟨B, d, sl, h0, h1, h2, h3, h4⟩, h5, h6⟩ := h
  have hT : ∀ (t g : Nat) (cs : List Value), t ≠ 62 → t ≠ 86 → Blk a g t cs → ¬ (n1 ≤ g ∧ ((∃ cs, Blk a g 62 cs) ∨ ∃ cs, Blk a g 86 cs)) := by
    rintro t g cs hne1 hne2 hg ⟨_, ⟨cs', hc⟩ | ⟨cs', hc⟩⟩
    · exact hg.ne hc hne1 rfl
    · exact hg.ne hc hne2 rfl
  exact ⟨⟨B, d, sl, h0.keep k (hT _ _ _ (by decide) (by decide) h0), h1.keep k (hT _ _ _ (by decide) (by decide) h1), h2.keep k (hT _ _ _ (by decide) (by decide) h2), h3.keepT k (fun g cs _ hg => hT _ _ _ (by decide) (by decide) hg), h4.keepB k (fun g cs _ hg => hT _ _ _ (by decide) (by decide) hg)⟩, h5.trans k (fun j hj _ hh => by omega), Nat.le_trans h6 k.size⟩
theorem ISpl.put {w : World} {b3 b7 b8 n0 n1 : Nat} {s3 : Sl} {bs : List UInt8} {s : List Nat} {W : World} (h : ISpl w b3 b7 b8 n0 s3 bs s W) (hw : w.heap.size ≤ n1) {k : Nat} {o : Obj} (o' : Obj) (hn : n1 ≤ k) (hk : W.heap[k]? = some o) (ho : o.isCells = false) : ISpl w b3 b7 b8 n0 s3 bs s (W.putObj k o') := by
  obtain ⟨⟨B, d, sl, h0, h1, h2, h3, h4⟩, h5, h6⟩ := h
  have K := Keep.putObj (S := fun j => j ≠ k) W k o' (fun h => h rfl)
  exact ⟨⟨B, d, sl, h0.keep K (h0.nc hk ho).symm, h1.keep K (h1.nc hk ho).symm, h2.keep K (h2.nc hk ho).symm, h3.keepT K (fun g cs _ hg => (hg.nc hk ho).symm), h4.keepB K (fun g cs _ hg => (hg.nc hk ho).symm)⟩, h5.trans K (fun j hj _ => by omega), Nat.le_trans h6 K.size⟩
theorem ISpl.two {w W : World} {b3 b7 b8 n0 : Nat} {s3 : Sl} {bs : List UInt8} {s : List Nat} (h : ISpl w b3 b7 b8 n0 s3 bs s W) (o1 o2 : Obj) : ISpl w b3 b7 b8 n0 s3 bs s ((W.alloc o1).alloc o2) := by
  obtain ⟨⟨B, d, sl, h0, h1, h2, h3, h4⟩, h5, h6⟩ := h
  have K : Ext W ((W.alloc o1).alloc o2) := (Keep.alloc W o1).trans (Keep.alloc _ o2) fun _ _ _ => trivial
  exact ⟨⟨B, d, sl, h0.ext K, h1.ext K, h2.ext K, h3.ext K, h4.ext K⟩, h5.ext K, Nat.le_trans h6 K.size⟩
theorem ISpl.zero {w W : World} {b3 b7 b8 n0 : Nat} {s3 : Sl} {bs : List UInt8} (h3 : Blk W b3 25 [slv s3]) (h7 : Blk W b7 32 [.slice none 0 0]) (h8 : Blk W b8 3 [.int .i64 0]) (h5 : Ext w W) (h6 : n0 ≤ W.heap.size) : ISpl w b3 b7 b8 n0 s3 bs [] W :=
  ⟨⟨none, 0, [], h3, h7, h8, Own.nil _ _ _ _, trivial⟩, h5, h6⟩

/-- kinkeep/chunker.Split -/
theorem split_c (q : Vut) (A : Option Addr) (c lo hi : Nat) (bs : List UInt8) (w : World) (hr : Rd w lo hi 1 A bs.length (bcells bs)) (hhi : hi ≤ w.heap.size) (hT : TabAt w) (hlen : bs.length ≤ 1000000) (hmc : bs.length ≤ c) :
    Ret Tryd.prog 22 [q.cut.val, .slice A bs.length c] w fun v w' => ∃ B d sl, v = .tuple #[.slice B (ecuts q bs bs.length).1.length d, .int .i64 0] ∧ Own w' w.heap.size 25 1 B (ecuts q bs bs.length).1.length d (sl.map slv) ∧ Owns w' w.heap.size sl (pieces bs 0 (ecuts q bs bs.length).1) ∧ Ext w w' := by
  have K0 : Ext w w := Keep.refl _ _
  refine ret_ofM Tryd.func22 rfl rfl ?_
  refine w_seq ?_
  refine w_region ?_
  refine st rfl rfl rfl (ex_box (cs := q.cut.cells) rfl rfl rfl) ?_
  rintro _ w1 ⟨b, rfl, hb0, E0, hb, hs0⟩
  replace K0 := K0.ext E0
  have hsz3 := K0.size
  refine st rfl rfl rfl (ex_box (cs := [slv (A, bs.length, c)]) rfl rfl rfl) ?_
  rintro _ w2 ⟨b3, rfl, h30, E3, h3, hs3⟩
  replace K0 := K0.ext E3
  replace hb := hb.ext E3
  refine sv rfl rfl rfl (ex_assign rfl rfl) ?_
  refine sv rfl rfl rfl (ex_assign rfl rfl) ?_
  refine w_nil (qe_next ?_)
  refine w_seq ?_
  refine w_seq ?_
  refine w_region ?_
  refine sv rfl rfl rfl (ex_load_agg (cs := q.cut.cells) agg24 rfl rfl (by intro j u hu; rw [Nat.zero_add]; exact hb.cell hu)) ?_
  refine sv rfl rfl rfl (ex_load (v := .slice A bs.length c) one25 rfl rfl (h3.cell rfl)) ?_
  refine st rfl rfl rfl (ex_buildSlice (cs := [slv (A, bs.length, c)]) rfl rfl (build_bs1 (A, bs.length, c))) ?_
  rintro _ w3 ⟨g, rfl, hg0, E1, hb7, hs7⟩
  replace K0 := K0.ext E1
  replace hb := hb.ext E1
  replace h3 := h3.ext E1
  refine st rfl rfl rfl (ex_call call33 rfl rfl (checked_c q.cut _ 1 1 _ _ [(A, bs.length, c)] _ rfl (by omega) (Rd.of_blk (size := 1) hb7 rfl) (by intro x hx; simp at hx; subst hx; simp only; omega) q.ok)) ?_
  rintro _ w4 ⟨rfl, E2⟩
  replace K0 := K0.ext E2
  replace hb := hb.ext E2
  replace h3 := h3.ext E2
  refine sv rfl rfl rfl (ex_assign rfl rfl) ?_
  refine w_nil (qe_next ?_)
  refine w_seq ?_
  refine w_region ?_
  refine sv rfl rfl rfl (ex_move rfl rfl) ?_
  refine sv rfl rfl rfl (ex_cmp rfl rfl rfl (congrArg some (decide_eq_false (not_not_intro rfl)))) ?_
  refine w_nil (qe_next ?_)
  refine w_cond_f rfl ?_
  refine w_skip (qe_next ?_)
  refine w_seq ?_
  refine w_region ?_
  have hsz4 := K0.size
  refine st rfl rfl rfl (ex_alloc (z := .slice none 0 0) (by kernel_rfl) (cs := [.slice none 0 0]) rfl rfl) ?_
  rintro _ w5 ⟨b7, rfl, h70, E7, h7, hs7⟩
  replace K0 := K0.ext E7
  replace hb := hb.ext E7
  replace h3 := h3.ext E7
  refine w_nil (qe_next ?_)
  refine w_seq ?_
  refine w_region ?_
  have h7b := h7.lt
  have hsz5 := K0.size
  refine st rfl rfl rfl (ex_alloc (z := .int .i64 0) (by kernel_rfl) (cs := [.int .i64 0]) rfl rfl) ?_
  rintro _ w6 ⟨b8, rfl, h80, E8, h8, hs8⟩
  replace K0 := K0.ext E8
  replace hb := hb.ext E8
  replace h3 := h3.ext E8
  replace h7 := h7.ext E8
  refine st0 rfl rfl (ex_store_blk sz3 rfl rfl rfl rfl h8 (by simp)) ?_
  rintro _ w7 ⟨K9, h81, hs9⟩
  replace hb := hb.keep K9 (hb.ne h8 (by decide))
  replace h3 := h3.keep K9 (h3.ne h8 (by decide))
  replace h7 := h7.keep K9 (h7.ne h8 (by decide))
  replace K0 := K0.trans K9 (fun j hj _ => by omega)
  clear h8
  have h8 := h81
  clear h81 K9
  refine w_nil (qe_next ?_)
  refine w_seq ?_
  refine w_seq ?_
  refine w_region ?_
  refine sv rfl rfl rfl (ex_load_agg (cs := q.cut.cells) agg24 rfl rfl (by intro j u hu; rw [Nat.zero_add]; exact hb.cell hu)) ?_
  refine sv rfl rfl rfl (ex_load (v := .slice A bs.length c) one25 rfl rfl (h3.cell rfl)) ?_
  refine st rfl rfl rfl (ex_call call38 rfl rfl (ends_c q A bs.length c _)) ?_
  rintro _ w8 ⟨bA, bD, rfl, hA, hD, E4⟩
  replace K0 := K0.ext E4
  replace hb := hb.ext E4
  replace h3 := h3.ext E4
  replace h7 := h7.ext E4
  replace h8 := h8.ext E4
  refine w_nil (qe_next ?_)
  refine w_block ?_
  have hG := (hT.ext K0).pos
  have hGw := hT.pos
  have hys := (ecuts_inc q bs bs.length).length
  have hinc := ecuts_inc q bs bs.length
  have hA1 := hA.lt
  have hD1 := hD.lt
  have hA7 : bA ≠ b7 := hA.ne h7 (by decide)
  have hA8 : bA ≠ b8 := hA.ne h8 (by decide)
  have hD7 : bD ≠ b7 := hD.ne h7 (by decide)
  have hD8 : bD ≠ b8 := hD.ne h8 (by decide)
  obtain ⟨n0, hn0, hn1⟩ := K0.n
  have h71 := h7.lt
  have h81 := h8.lt
  have h31 := h3.lt
  refine w_range (lb := [.pointer (some ⟨bA, 0, none⟩), .pointer (some ⟨bD, 0, none⟩)]) rfl call49 (ends_seq q bA bD A c lo hi bs _ hA hD (hr.ext K0) (by omega) (hT.ext K0) hG (by omega) (fun k => k < n0 ∧ k ≠ b7 ∧ k ≠ b8) ⟨by omega, hA7, hA8⟩ ⟨by omega, hD7, hD8⟩ (fun b h1 h2 => ⟨by omega, by omega, by omega⟩) ⟨by omega, by omega, by omega⟩ (fun k hk => by have := hk.1; omega) _ (Keep.refl _ _)) rfl (fun _ _ h => h.nc) (fun _ _ _ => Rk16.trans) (fun W k o o' hn hk ho => Rk16.put (n1 := n0) (fun _ h => h.1) W k o o' (by omega) hk ho) (ISpl w b3 b7 b8 n0 (A, bs.length, c) bs) (fun s a b h k => h.st (by omega) k) (fun s W k o o' h hn hk ho => h.put (n1 := n0) (by omega) o' (by omega) hk ho) (fun o1 o2 => ISpl.two (ISpl.zero h3 h7 h8 K0 (by omega)) o1 o2) (fun x => [(3, .pointer (some ⟨b3, 0, none⟩)), (7, .pointer (some ⟨b7, 0, none⟩)), (8, .pointer (some ⟨b8, 0, none⟩)), (9, .int .i64 (x : Int))]) ?_ ?_ ?_
  · intro k x W1
    refine w_region ?_
    refine sv rfl rfl rfl (ex_assign rfl rfl) ?_
    refine w_nil (qe_meet (()) ⟨rfl, rfl, rfl, rfl, trivial⟩ ?_)
    exact rfl
  · rintro k pre x W1 hpre ⟨⟨B, d, sl, h3, h7, h8, hown, hso⟩, hK, hnW⟩
    have hlen2 := hpre.length_le
    rw [List.length_append, List.length_singleton] at hlen2
    obtain ⟨fr, hfr⟩ : ∃ fr, fr = lastD 0 pre := ⟨_, rfl⟩
    obtain ⟨hfx, hxn⟩ := hinc.at_ hpre
    rw [← hfr] at hfx h8
    obtain ⟨bb, oo, rfl, hb1, hb2, hcc⟩ := hr.2 (by omega)
    have hs1 := hK.size
    have hcut := (hr.ext hK).cut (l := fr) (hh := x) (m := c) (by omega) hxn hmc
    rw [if_neg (by omega), Option.map_some, add_lit', show List.take ((x - fr) * 1) (List.drop (fr * 1) (bcells bs)) = bcells ((bs.drop fr).take (x - fr)) from by simp [bcells]] at hcut
    have KK := Keep.refl (fun j => j ≠ b7 ∧ j ≠ b8 ∧ ∀ o, B ≠ some ⟨j, o, none⟩) W1
    have n7 : ∀ k o, W1.heap[k]? = some o → o.isCells = false → k ≠ b7 := fun k o hk ho => h7.nc hk ho
    have n8 : ∀ k o, W1.heap[k]? = some o → o.isCells = false → k ≠ b8 := fun k o hk ho => h8.nc hk ho
    have non : ∀ k ob, W1.heap[k]? = some ob → ob.isCells = false → ∀ o, B ≠ some ⟨k, o, none⟩ := fun k ob hk ho => hown.nc hk ho
    have t7 : ∀ t cs, Blk W1 b7 t cs → t ≠ 32 → False := fun t cs h hne => h.ne h7 hne rfl
    have t8 : ∀ t cs, Blk W1 b8 t cs → t ≠ 3 → False := fun t cs h hne => h.ne h8 hne rfl
    have tO : ∀ t cs (b : Nat), Blk W1 b t cs → 25 ≠ t → ∀ g o, B = some ⟨g, o, none⟩ → g ≠ b := fun t cs b h hne g o e => hown.ne_blk h hne g o e
    have lO : ∀ g o, B = some ⟨g, o, none⟩ → n0 ≤ g := fun g o e => (hown.lt e).1
    have hsll := hso.length
    refine w_block ?_
    refine w_seq ?_
    refine w_draw mixed (fun w9 _ Ew9 => ?_)
    replace h3 := h3.ext Ew9
    replace h7 := h7.ext Ew9
    replace h8 := h8.ext Ew9
    replace hown := hown.ext Ew9
    replace hso := hso.ext Ew9
    replace hK := hK.ext Ew9
    replace KK := KK.ext Ew9
    replace hcut := hcut.ext Ew9
    refine wd_free 7 _ rfl rfl rfl rfl ?_
    refine fd [] rfl rfl rfl rfl rfl rfl rfl (fun w' E => ex_load one32 rfl rfl (E.cell trivial (h7.cell rfl))) ?_
    refine fd [] rfl rfl rfl rfl rfl rfl rfl (fun w' E => ex_load (v := .slice (some ⟨bb, oo, none⟩) bs.length c) one25 rfl rfl (E.cell trivial (h3.cell rfl))) ?_
    refine fd [] rfl rfl rfl rfl rfl rfl rfl (fun w' E => ex_load one3 rfl rfl (E.cell trivial (h8.cell rfl))) ?_
    refine fd [] rfl rfl rfl rfl rfl rfl rfl (fun w' E => ex_move rfl rfl) ?_
    refine fd [1, 2, 3] rfl rfl rfl rfl rfl rfl rfl (fun w' E => ex_slice_in Tryd.underlying25 sz5 fr x rfl rfl (.inr ⟨_, _, _, rfl, rfl, rfl⟩) (.inr ⟨_, _, _, rfl, rfl, rfl⟩) (by omega) (by omega) (by omega)) ?_
    refine fx [4] (Φ := fun v' w' => ∃ B2 d2, v' = .slice B2 (x - fr) d2 ∧ Own w' n0 5 1 B2 (x - fr) d2 (bcells ((bs.drop fr).take (x - fr)))) rfl rfl rfl rfl rfl rfl rfl (fun _ _ _ k ⟨B2, d2, h1, h2⟩ => ⟨B2, d2, h1, h2.ext k⟩) (fun w' E => ex_call call39 rfl rfl ((clone_c bb (oo + fr * 1) (c - fr) lo hi (x - fr) ((bs.drop fr).take (x - fr)) _ (by simp; omega) (by omega) (hcut.ext E)).mono fun v' w' ⟨⟨B2, d2, h1, h2⟩, h3⟩ => ⟨⟨B2, d2, h1, h2.lower (by have := E.size; have := KK.size; omega)⟩, h3⟩)) ?_
    refine .cons (.ex (fun v' w' => ∃ g1 B2 d2, v' = .slice (some ⟨g1, 0, none⟩) 1 1 ∧ Blk w' g1 25 [.slice B2 (x - fr) d2] ∧ Own w' n0 5 1 B2 (x - fr) d2 (bcells ((bs.drop fr).take (x - fr))))) [5] rfl rfl rfl rfl rfl (fun _ _ _ k ⟨g1, B2, d2, h1, h2, h3⟩ => ⟨g1, B2, d2, h1, h2.ext k, h3.ext k⟩) (fun v5 w' E H => .inl ⟨rfl, ?_⟩) ?_
    · obtain ⟨⟨B2, d2, rfl, ho2⟩, -⟩ := H
      exact (ex_buildSlice (cs := [slv (B2, x - fr, d2)]) rfl rfl (build_bs1 (B2, x - fr, d2))).mono fun v' w'' ⟨g1, h1, _, h2, h3, _⟩ => ⟨⟨g1, B2, d2, h1, h3, ho2.ext h2⟩, h2⟩
    refine .nil (fun _ _ w10 Ew10 HF => ?_)
    replace h3 := h3.ext Ew10
    replace h7 := h7.ext Ew10
    replace h8 := h8.ext Ew10
    replace hown := hown.ext Ew10
    replace hso := hso.ext Ew10
    replace hK := hK.ext Ew10
    replace KK := KK.ext Ew10
    replace hcut := hcut.ext Ew10
    obtain ⟨⟨_, _, rfl, -⟩, ⟨g1, B2, d2, rfl, hg1, ho2⟩, -⟩ := HF
    have hsA := hK.size
    have hsB := KK.size
    refine wd_one rfl rfl (by kernel_rfl) rfl rfl rfl (ex_append Tryd.underlying32 z25.1 rfl (by decide) rfl rfl rfl hown (Rd.of_blk (size := 1) hg1 rfl) (by simp [Value.oneCell']) (by omega) (by omega) (by omega)) ?_
    rintro _ w11 ⟨B1, d1, rfl, hown1, K3, hB1⟩
    have h72 := h7.keep K3 (fun o e => hown.ne_blk h7 (by decide) b7 o e rfl)
    have h82 := h8.keep K3 (fun o e => hown.ne_blk h8 (by decide) b8 o e rfl)
    replace h3 := h3.keep K3 (fun o e => by have := (hown.lt e).1; omega)
    replace hso := hso.keepB K3 (fun g cs _ hg o e => hown.ne_blk hg (by decide) g o e rfl)
    replace ho2 := ho2.keepT K3 (fun g cs _ hg o e => hown.ne_blk hg (by decide) g o e rfl)
    replace hK := hK.trans K3 (fun j hj _ => hown.fresh (by omega))
    replace KK := KK.trans K3 (fun j _ hj => hj.2.2)
    clear h7 h8
    refine wd_one0 rfl rfl (by kernel_rfl) rfl rfl (ex_store_blk sz32 rfl rfl rfl rfl h72 (by simp)) ?_
    rintro _ w12 ⟨K4, h7, hsC⟩
    have h8 := h82.keep K4 (h82.ne h72 (by decide))
    replace h3 := h3.keep K4 (h3.ne h72 (by decide))
    replace hso := hso.keepB K4 (fun g cs _ hg => hg.ne h72 (by decide))
    replace ho2 := ho2.keepT K4 (fun g cs _ hg => hg.ne h72 (by decide))
    have hown2 := hown1.keepT K4 (fun g cs _ hg => hg.ne h72 (by decide))
    replace hK := hK.trans K4 (fun j hj _ => by omega)
    replace KK := KK.trans K4 (fun j _ hj => hj.1)
    clear h82 h72 hown1
    refine wd_nil (by decide) rfl ?_
    refine qe_next ?_
    refine w_region ?_
    refine sv rfl rfl rfl (ex_move rfl rfl) ?_
    refine st0 rfl rfl (ex_store_blk sz3 rfl rfl rfl rfl h8 (by simp)) ?_
    rintro _ w13 ⟨K5, h83, hsD⟩
    replace h7 := h7.keep K5 (h7.ne h8 (by decide))
    replace h3 := h3.keep K5 (h3.ne h8 (by decide))
    replace hso := hso.keepB K5 (fun g cs _ hg => hg.ne h8 (by decide))
    replace ho2 := ho2.keepT K5 (fun g cs _ hg => hg.ne h8 (by decide))
    replace hown2 := hown2.keepT K5 (fun g cs _ hg => hg.ne h8 (by decide))
    replace hK := hK.trans K5 (fun j hj _ => by omega)
    replace KK := KK.trans K5 (fun j _ hj => hj.2.1)
    refine w_nil (qe_in_normal (qe_meet (()) trivial ?_))
    refine ⟨KK.nc _ (fun k o hk ho => ⟨n7 k o hk ho, n8 k o hk ho, non k o hk ho⟩), Keep.mono KK (fun j hj hS => ?_), ⟨⟨B1, d1, sl ++ [(B2, x - fr, d2)], h3, ?_, ?_, ?_, ?_⟩, hK, ?_⟩⟩
    · rcases hS with hS | ⟨cs, hb⟩ | ⟨cs, hb⟩ | ⟨cs, hb⟩
      · exact ⟨hS.2.1, hS.2.2, fun o e => by have := lO j o e; have := hS.1; omega⟩
      all_goals exact ⟨fun e => by subst e; exact t7 _ _ hb (by decide), fun e => by subst e; exact t8 _ _ hb (by decide), fun o e => tO _ _ _ hb (by decide) j o e rfl⟩
    · rw [List.length_append, List.length_singleton]; exact h7
    · rw [lastD_snoc]; exact h83
    · rw [List.length_append, List.length_singleton, List.map_append]; exact hown2
    · rw [pieces_snoc, ← hfr]
      exact hso.snoc (by simp; omega) ho2
    · have := KK.size; omega
  · rintro D W' hD ⟨⟨B, d, sl, h3, h7, h8, hown, hso⟩, hK, hnW⟩ hDD
    refine qe_in_normal (qe_next ?_)
    refine w_seq ?_
    refine w_region ?_
    refine sv rfl rfl rfl (ex_load one32 rfl rfl (h7.cell rfl)) ?_
    refine sv rfl rfl rfl (ex_assign rfl rfl) ?_
    refine sv rfl rfl rfl (ex_assign rfl rfl) ?_
    refine w_nil (qe_next ?_)
    refine w_ret (qeM_ret2 rfl rfl rfl hDD ?_)
    have KP := Keep.putObj (S := fun j => j ≠ D) W' D (.deferred none) (fun h => h rfl)
    exact ⟨B, d, sl, rfl, (hown.keepT KP (fun g cs _ hg => (hg.nc hDD rfl).symm)).lower (by omega), (hso.keepB KP (fun g cs _ hg => (hg.nc hDD rfl).symm)).lower (by omega), hK.trans KP (fun j hj _ => by omega)⟩
end Go.Proofs.YtfgpcmphcnhbiaaDoor

/- Cuts and Primary. -/
import Derived.Test.YtfgpcmphcnhbiaaDoorK2
namespace Go.Proofs.YtfgpcmphcnhbiaaDoor
open Go Go.RowKit
set_option linter.unusedVariables false
set_option linter.unusedSimpArgs false
theorem build_bs1 (x : Sl) (w : World) : (Instr.buildSlice 32 1 [(0, slv x)].toArray).run Tryd.prog w = .ok (.slice (some ⟨w.heap.size, 0, none⟩) 1 1) (w.alloc (.cells [slv x].toArray 25)) := by kernel_rfl
theorem build_bs2 (x y : Sl) (w : World) : (Instr.buildSlice 32 2 [(0, slv x), (1, slv y)].toArray).run Tryd.prog w = .ok (.slice (some ⟨w.heap.size, 0, none⟩) 2 2) (w.alloc (.cells [slv x, slv y].toArray 25)) := by kernel_rfl
theorem build_bs3 (x y z : Sl) (w : World) : (Instr.buildSlice 32 3 [(0, slv x), (1, slv y), (2, slv z)].toArray).run Tryd.prog w = .ok (.slice (some ⟨w.heap.size, 0, none⟩) 3 3) (w.alloc (.cells [slv x, slv y, slv z].toArray 25)) := by kernel_rfl

/-- kinkeep/chunker.ends -/
theorem ends_c (q : Vut) (A : Option Addr) (n c : Nat) (w : World) :
    Ret Tryd.prog 38 [q.cut.val, .slice A n c] w fun v w' => ∃ bA bD, v = .func (.func 49) #[] [.pointer (some ⟨bA, 0, none⟩), .pointer (some ⟨bD, 0, none⟩)].toArray ∧ Blk w' bA 24 q.cut.cells ∧ Blk w' bD 25 [.slice A n c] ∧ Ext w w' := by
  have K0 : Ext w w := Keep.refl _ _
  refine ret_of Tryd.func38 rfl rfl ?_
  refine w_seq ?_
  refine w_region ?_
  refine st rfl rfl rfl (ex_box (cs := q.cut.cells) rfl rfl rfl) ?_
  rintro _ w1 ⟨bA, rfl, hA0, E0, hA, hs0⟩
  replace K0 := K0.ext E0
  refine st rfl rfl rfl (ex_box (cs := [.slice A n c]) rfl rfl rfl) ?_
  rintro _ w2 ⟨bD, rfl, hD0, E1, hD, hs1⟩
  replace K0 := K0.ext E1
  replace hA := hA.ext E1
  refine sv rfl rfl rfl (ex_assign rfl rfl) ?_
  refine w_nil (qe_next ?_)
  refine w_seq ?_
  refine w_region ?_
  refine sv rfl rfl rfl (ex_makeFunc (vs := []) rfl rfl rfl) ?_
  refine sv rfl rfl rfl (ex_assign rfl rfl) ?_
  refine w_nil (qe_next ?_)
  refine w_ret (qe_ret1 rfl rfl ?_)
  exact ⟨bA, bD, rfl, hA, hD, K0⟩

/-- the iterator's contract, as a range over it wants it -/
theorem ends_seq (q : Vut) (bA bD : Nat) (A : Option Addr) (c lo hi : Nat) (bs : List UInt8) (w0 : World) (hw : Blk w0 bA 24 q.cut.cells) (hD : Blk w0 bD 25 [.slice A bs.length c]) (hr : Rd w0 lo hi 1 A bs.length (bcells bs)) (hhi : hi ≤ w0.heap.size) (hT : TabAt w0) (hG : 0 < w0.heap.size) (hlen : bs.length ≤ 100000000) (S0 : Nat → Prop) (hS1 : S0 bA) (hS2 : S0 bD) (hS3 : ∀ b, lo ≤ b → b < hi → S0 b) (hS4 : S0 0) (hS5 : ∀ k, S0 k → k < w0.heap.size) :
    ∀ w1, Ext w0 w1 → Seq Tryd.prog 49 [.pointer (some ⟨bA, 0, none⟩), .pointer (some ⟨bD, 0, none⟩)] (fun x : Nat => .int .i64 (x : Int)) (ecuts q bs bs.length).1 (St16 w1.heap.size) (Rk16 S0) w1 := by
  intro w1 E1 l J W E2 hst hrd hJ
  have E := E1.ext E2
  exact ends1_c q bA bD A c lo hi bs w1.heap.size S0 l J W (hw.ext E) (hD.ext E) (hr.ext E) (hT.ext E) hS1 hS2 hS3 hS4 (fun k hk => Nat.lt_of_lt_of_le (hS5 k hk) E1.size) E2.size hlen hst hrd hJ

/-- slices.Collect[int] -/
theorem collect_c (gf : FuncId) (lb : List Value) (ys : List Nat) (w : World) (hcl : Callable Tryd.prog gf) (hys : ys.length ≤ 100000000) (hseq : ∀ w1, Ext w w1 → Seq Tryd.prog gf lb (fun x : Nat => .int .i64 (x : Int)) ys (St16 w1.heap.size) (Rk16 fun k => k < w.heap.size) w1) :
    Ret Tryd.prog 37 [.func (.func gf) #[] lb.toArray] w fun v w' => ∃ B d, v = .slice B ys.length d ∧ Own w' w.heap.size 3 1 B ys.length d (ys.map fun x : Nat => Value.int .i64 (x : Int)) ∧ Ext w w' := by
  refine ret_of Tryd.func37 rfl rfl ?_
  refine w_seq ?_
  refine w_region ?_
  refine sv rfl rfl rfl (ex_assign rfl rfl) ?_
  refine w_nil (qe_next ?_)
  refine w_seq ?_
  refine w_region ?_
  refine sv rfl rfl rfl (ex_move rfl rfl) ?_
  refine st rfl rfl rfl (ex_call call48 rfl rfl (appendSeq_c gf lb ys _ hcl hys hseq)) ?_
  rintro _ w1 ⟨B, d, rfl, hown, E1⟩
  refine sv rfl rfl rfl (ex_assign rfl rfl) ?_
  refine w_nil (qe_next ?_)
  refine w_ret (qe_ret1 rfl rfl ?_)
  exact ⟨B, d, rfl, hown, E1⟩

theorem TabAt.pos {w : World} (h : TabAt w) : 0 < w.heap.size := World.block_lt_of_cell? w _ (h 0 (by decide))

/-- kinkeep/chunker.Cuts -/
theorem cuts_c (q : Vut) (A : Option Addr) (c lo hi : Nat) (bs : List UInt8) (w : World) (hr : Rd w lo hi 1 A bs.length (bcells bs)) (hhi : hi ≤ w.heap.size) (hT : TabAt w) (hlen : bs.length ≤ 1000000) :
    Ret Tryd.prog 21 [q.cut.val, .slice A bs.length c] w fun v w' => ∃ B d, v = .tuple #[.slice B (ecuts q bs bs.length).1.length d, .int .i64 0] ∧ Own w' w.heap.size 3 1 B (ecuts q bs bs.length).1.length d ((ecuts q bs bs.length).1.map fun x : Nat => Value.int .i64 (x : Int)) ∧ Ext w w' := by
  have K0 : Ext w w := Keep.refl _ _
  refine ret_of Tryd.func21 rfl rfl ?_
  refine w_seq ?_
  refine w_region ?_
  refine st rfl rfl rfl (ex_box (cs := q.cut.cells) rfl rfl rfl) ?_
  rintro _ w1 ⟨b, rfl, hb0, E0, hb, hs0⟩
  replace K0 := K0.ext E0
  refine sv rfl rfl rfl (ex_assign rfl rfl) ?_
  refine sv rfl rfl rfl (ex_assign rfl rfl) ?_
  refine w_nil (qe_next ?_)
  refine w_seq ?_
  refine w_seq ?_
  refine w_region ?_
  refine sv rfl rfl rfl (ex_load_agg (cs := q.cut.cells) agg24 rfl rfl (by intro j u hu; rw [Nat.zero_add]; exact hb.cell hu)) ?_
  refine sv rfl rfl rfl (ex_move rfl rfl) ?_
  refine st rfl rfl rfl (ex_buildSlice (cs := [slv (A, bs.length, c)]) rfl rfl (build_bs1 (A, bs.length, c))) ?_
  rintro _ w2 ⟨g, rfl, hg0, E1, hb7, hs7⟩
  replace K0 := K0.ext E1
  replace hb := hb.ext E1
  refine st rfl rfl rfl (ex_call call33 rfl rfl (checked_c q.cut _ 1 1 _ _ [(A, bs.length, c)] _ rfl (by omega) (Rd.of_blk (size := 1) hb7 rfl) (by intro x hx; simp at hx; subst hx; simp only; omega) q.ok)) ?_
  rintro _ w3 ⟨rfl, E2⟩
  replace K0 := K0.ext E2
  replace hb := hb.ext E2
  refine sv rfl rfl rfl (ex_assign rfl rfl) ?_
  refine w_nil (qe_next ?_)
  refine w_seq ?_
  refine w_region ?_
  refine sv rfl rfl rfl (ex_move rfl rfl) ?_
  refine sv rfl rfl rfl (ex_cmp rfl rfl rfl (congrArg some (decide_eq_false (not_not_intro rfl)))) ?_
  refine w_nil (qe_next ?_)
  refine w_cond_f rfl ?_
  refine w_skip (qe_next ?_)
  refine w_seq ?_
  refine w_region ?_
  refine sv rfl rfl rfl (ex_load_agg (cs := q.cut.cells) agg24 rfl rfl (by intro j u hu; rw [Nat.zero_add]; exact hb.cell hu)) ?_
  refine sv rfl rfl rfl (ex_move rfl rfl) ?_
  refine st rfl rfl rfl (ex_call call38 rfl rfl (ends_c q A bs.length c _)) ?_
  rintro _ w4 ⟨bA, bD, rfl, hA, hD, E3⟩
  replace K0 := K0.ext E3
  replace hb := hb.ext E3
  have hsz := K0.size
  have hG := (hT.ext K0).pos
  have hys := (ecuts_inc q bs bs.length).length
  have hA1 := hA.lt
  have hD1 := hD.lt
  refine st rfl rfl rfl (ex_call call37 rfl rfl (collect_c 49 [.pointer (some ⟨bA, 0, none⟩), .pointer (some ⟨bD, 0, none⟩)] _ _ call49 (by omega) (ends_seq q bA bD A c lo hi bs _ hA hD (hr.ext K0) (by omega) (hT.ext K0) hG (by omega) _ hA1 hD1 (fun b h1 h2 => by omega) hG (fun k hk => hk)))) ?_
  rintro _ w5 ⟨B, d, rfl, hown, E4⟩
  replace K0 := K0.ext E4
  replace hb := hb.ext E4
  replace hA := hA.ext E4
  replace hD := hD.ext E4
  refine sv rfl rfl rfl (ex_assign rfl rfl) ?_
  refine sv rfl rfl rfl (ex_assign rfl rfl) ?_
  refine w_nil (qe_next ?_)
  refine w_ret (qe_ret2 rfl rfl rfl ?_)
  exact ⟨B, d, rfl, hown.lower hsz, K0⟩

/-- kinkeep/chunker.Cuts -/
theorem cutsBad_c (c0 : Cut) (A : Option Addr) (n c : Nat) (w : World) (h : ¬ c0.ok) :
    Ret Tryd.prog 21 [c0.val, .slice A n c] w fun v w' => v = .tuple #[.slice none 0 0, .int .i64 1] ∧ Ext w w' := by
  have K0 : Ext w w := Keep.refl _ _
  refine ret_of Tryd.func21 rfl rfl ?_
  refine w_seq ?_
  refine w_region ?_
  refine st rfl rfl rfl (ex_box (cs := c0.cells) rfl rfl rfl) ?_
  rintro _ w1 ⟨b, rfl, hb0, E0, hb, hs0⟩
  replace K0 := K0.ext E0
  refine sv rfl rfl rfl (ex_assign rfl rfl) ?_
  refine sv rfl rfl rfl (ex_assign rfl rfl) ?_
  refine w_nil (qe_next ?_)
  refine w_seq ?_
  refine w_seq ?_
  refine w_region ?_
  refine sv rfl rfl rfl (ex_load_agg (cs := c0.cells) agg24 rfl rfl (by intro j u hu; rw [Nat.zero_add]; exact hb.cell hu)) ?_
  refine sv rfl rfl rfl (ex_move rfl rfl) ?_
  refine st rfl rfl rfl (ex_buildSlice (cs := [slv (A, n, c)]) rfl rfl (build_bs1 (A, n, c))) ?_
  rintro _ w2 ⟨g, rfl, hg0, E1, hb7, hs7⟩
  replace K0 := K0.ext E1
  replace hb := hb.ext E1
  refine st rfl rfl rfl (ex_call call33 rfl rfl (checkedBad_c c0 _ 1 1 _ h)) ?_
  rintro _ w3 ⟨rfl, E2⟩
  replace K0 := K0.ext E2
  replace hb := hb.ext E2
  refine sv rfl rfl rfl (ex_assign rfl rfl) ?_
  refine w_nil (qe_next ?_)
  refine w_seq ?_
  refine w_region ?_
  refine sv rfl rfl rfl (ex_move rfl rfl) ?_
  refine sv rfl rfl rfl (ex_cmp rfl rfl rfl (congrArg some (decide_eq_true (by omega)))) ?_
  refine w_nil (qe_next ?_)
  refine w_cond_t rfl ?_
  refine w_seq ?_
  refine w_region ?_
  refine sv rfl rfl rfl (ex_move rfl rfl) ?_
  refine sv rfl rfl rfl (ex_assign rfl rfl) ?_
  refine sv rfl rfl rfl (ex_assign rfl rfl) ?_
  refine w_nil (qe_next ?_)
  refine w_ret (qe_then_ret (qe_ret2 rfl rfl rfl ?_))
  exact ⟨rfl, K0⟩

/-- kinkeep/chunker.Primary -/
theorem primaryBad_c (c0 : Cut) (A : Option Addr) (n c : Nat) (w : World) (h : ¬ c0.ok) :
    Ret Tryd.prog 20 [c0.val, .slice A n c] w fun v w' => v = .tuple #[.slice none 0 0, .int .i64 1] ∧ Ext w w' := by
  have K0 : Ext w w := Keep.refl _ _
  refine ret_of Tryd.func20 rfl rfl ?_
  refine w_seq ?_
  refine w_region ?_
  refine st rfl rfl rfl (ex_box (cs := c0.cells) rfl rfl rfl) ?_
  rintro _ w1 ⟨b, rfl, hb0, E0, hb, hs0⟩
  replace K0 := K0.ext E0
  refine sv rfl rfl rfl (ex_assign rfl rfl) ?_
  refine sv rfl rfl rfl (ex_assign rfl rfl) ?_
  refine w_nil (qe_next ?_)
  refine w_seq ?_
  refine w_seq ?_
  refine w_region ?_
  refine sv rfl rfl rfl (ex_load_agg (cs := c0.cells) agg24 rfl rfl (by intro j u hu; rw [Nat.zero_add]; exact hb.cell hu)) ?_
  refine sv rfl rfl rfl (ex_move rfl rfl) ?_
  refine st rfl rfl rfl (ex_buildSlice (cs := [slv (A, n, c)]) rfl rfl (build_bs1 (A, n, c))) ?_
  rintro _ w2 ⟨g, rfl, hg0, E1, hb7, hs7⟩
  replace K0 := K0.ext E1
  replace hb := hb.ext E1
  refine st rfl rfl rfl (ex_call call33 rfl rfl (checkedBad_c c0 _ 1 1 _ h)) ?_
  rintro _ w3 ⟨rfl, E2⟩
  replace K0 := K0.ext E2
  replace hb := hb.ext E2
  refine sv rfl rfl rfl (ex_assign rfl rfl) ?_
  refine w_nil (qe_next ?_)
  refine w_seq ?_
  refine w_region ?_
  refine sv rfl rfl rfl (ex_move rfl rfl) ?_
  refine sv rfl rfl rfl (ex_cmp rfl rfl rfl (congrArg some (decide_eq_true (by omega)))) ?_
  refine w_nil (qe_next ?_)
  refine w_cond_t rfl ?_
  refine w_seq ?_
  refine w_region ?_
  refine sv rfl rfl rfl (ex_move rfl rfl) ?_
  refine sv rfl rfl rfl (ex_assign rfl rfl) ?_
  refine sv rfl rfl rfl (ex_assign rfl rfl) ?_
  refine w_nil (qe_next ?_)
  refine w_ret (qe_then_ret (qe_ret2 rfl rfl rfl ?_))
  exact ⟨rfl, K0⟩

/-- the primary cuts up to k -/
def prims (q : Vut) (bs : List UInt8) (k : Nat) : List Nat := ((List.range k).map (· + 1)).filter (prim q bs)
theorem prims_succ (q : Vut) (bs : List UInt8) (k : Nat) : prims q bs (k + 1) = if prim q bs (k + 1) = true then prims q bs k ++ [k + 1] else prims q bs k := by
  unfold prims
  rw [List.range_succ, List.map_append, List.filter_append]
  split
  · rename_i h; simp [h]
  · rename_i h; simp [h]
theorem prims_length (q : Vut) (bs : List UInt8) (k : Nat) : (prims q bs k).length ≤ k := by
  unfold prims
  refine Nat.le_trans (List.length_filter_le _ _) ?_
  simp

/-- kinkeep/chunker.Primary -/
theorem primary_c (q : Vut) (A : Option Addr) (c lo hi : Nat) (bs : List UInt8) (w : World) (hr : Rd w lo hi 1 A bs.length (bcells bs)) (hhi : hi ≤ w.heap.size) (hT : TabAt w) (hlen : bs.length ≤ 1000000) :
    Ret Tryd.prog 20 [q.cut.val, .slice A bs.length c] w fun v w' => ∃ B d, v = .tuple #[.slice B (prims q bs bs.length).length d, .int .i64 0] ∧ Own w' w.heap.size 3 1 B (prims q bs bs.length).length d ((prims q bs bs.length).map fun x : Nat => Value.int .i64 (x : Int)) ∧ Ext w w' := by
  have K0 : Ext w w := Keep.refl _ _
  refine ret_of Tryd.func20 rfl rfl ?_
  refine w_seq ?_
  refine w_region ?_
  refine st rfl rfl rfl (ex_box (cs := q.cut.cells) rfl rfl rfl) ?_
  rintro _ w1 ⟨b, rfl, hb0, E0, hb, hs0⟩
  replace K0 := K0.ext E0
  refine sv rfl rfl rfl (ex_assign rfl rfl) ?_
  refine sv rfl rfl rfl (ex_assign rfl rfl) ?_
  refine w_nil (qe_next ?_)
  refine w_seq ?_
  refine w_seq ?_
  refine w_region ?_
  refine sv rfl rfl rfl (ex_load_agg (cs := q.cut.cells) agg24 rfl rfl (by intro j u hu; rw [Nat.zero_add]; exact hb.cell hu)) ?_
  refine sv rfl rfl rfl (ex_move rfl rfl) ?_
  refine st rfl rfl rfl (ex_buildSlice (cs := [slv (A, bs.length, c)]) rfl rfl (build_bs1 (A, bs.length, c))) ?_
  rintro _ w2 ⟨g, rfl, hg0, E1, hb7, hs7⟩
  replace K0 := K0.ext E1
  replace hb := hb.ext E1
  refine st rfl rfl rfl (ex_call call33 rfl rfl (checked_c q.cut _ 1 1 _ _ [(A, bs.length, c)] _ rfl (by omega) (Rd.of_blk (size := 1) hb7 rfl) (by intro x hx; simp at hx; subst hx; simp only; omega) q.ok)) ?_
  rintro _ w3 ⟨rfl, E2⟩
  replace K0 := K0.ext E2
  replace hb := hb.ext E2
  refine sv rfl rfl rfl (ex_assign rfl rfl) ?_
  refine w_nil (qe_next ?_)
  refine w_seq ?_
  refine w_region ?_
  refine sv rfl rfl rfl (ex_move rfl rfl) ?_
  refine sv rfl rfl rfl (ex_cmp rfl rfl rfl (congrArg some (decide_eq_false (not_not_intro rfl)))) ?_
  refine w_nil (qe_next ?_)
  refine w_cond_f rfl ?_
  refine w_skip (qe_next ?_)
  refine w_seq ?_
  refine w_region ?_
  refine sv rfl rfl rfl (ex_assign rfl rfl) ?_
  refine w_nil (qe_next ?_)
  refine w_seq ?_
  refine w_region ?_
  refine sv rfl rfl rfl (ex_load_agg (cs := q.cut.cells) agg24 rfl rfl (by intro j u hu; rw [Nat.zero_add]; exact hb.cell hu)) ?_
  have hsz := K0.size
  have hG := (hT.ext K0).pos
  refine st rfl rfl rfl (ex_call call35 rfl rfl (newMarker_c q _ hG)) ?_
  rintro _ w4 ⟨m, r, rfl, hM, hm0, hr0, E3⟩
  replace K0 := K0.ext E3
  replace hb := hb.ext E3
  refine sv rfl rfl rfl (ex_assign rfl rfl) ?_
  refine w_nil (qe_next ?_)
  refine w_seq ?_
  refine w_seq ?_
  refine w_region ?_
  refine sv rfl rfl rfl (ex_move rfl rfl) ?_
  refine sv rfl rfl rfl (ex_len Tryd.underlying25 rfl rfl) ?_
  refine sv rfl rfl rfl (ex_move rfl rfl) ?_
  refine w_nil (qe_next ?_)
  refine w_block ?_
  refine w_loop (ι := Nat × Nat × Option Addr × Nat) (fun i => [(7, .slice i.2.2.1 i.2.1 i.2.2.2), (8, .pointer (some ⟨m, 0, none⟩)), (20, .slice A bs.length c), (21, .int .i64 (bs.length : Int)), (22, .int .i64 (i.1 : Int))]) (fun i w1 => i.1 ≤ bs.length ∧ i.2.1 = (prims q bs i.1).length ∧ MarkAt w1 m r q (bs.take i.1) ∧ Own w1 w.heap.size 3 1 i.2.2.1 i.2.1 i.2.2.2 ((prims q bs i.1).map fun x : Nat => Value.int .i64 (x : Int)) ∧ Ext w w1) (fun i => bs.length - i.1) ((0, 0, none, 0)) ⟨rfl, rfl, rfl, rfl, rfl, trivial⟩ ?_ ?_
  · exact ⟨Nat.zero_le _, rfl, by rw [List.take_zero]; exact hM, Own.nil _ _ _ _, K0⟩
  · clear hM K0
    rintro ⟨k, n, B, d⟩ w1 ⟨hk, hn, hM, hown, K0⟩
    simp only at hk hn hM hown
    have hnl := prims_length q bs k
    refine w_seq ?_
    refine w_region ?_
    refine sv rfl rfl rfl (ex_cmp rfl rfl rfl rfl) ?_
    refine w_nil (qe_next ?_)
    refine w_seq ?_
    refine w_if rfl (fun hk2 => ?_) (fun hk2 => ?_)
    · skip
      replace hk2 : k < bs.length := by simp only at hk2; omega
      obtain ⟨bb, oo, rfl, hc2⟩ := (hr.ext K0).byte hk2
      refine w_skip (qe_next ?_)
      refine w_seq ?_
      refine w_block ?_
      refine w_seq ?_
      refine w_region ?_
      refine sv rfl rfl rfl (ex_index Tryd.underlying25 sz5 _ rfl rfl rfl rfl (by omega)) ?_
      refine sv rfl rfl rfl (ex_load one5 rfl rfl hc2) ?_
      refine sv rfl rfl rfl (ex_assign rfl rfl) ?_
      refine w_nil (qe_next ?_)
      refine w_seq ?_
      refine w_region ?_
      refine sv rfl rfl rfl (ex_move rfl rfl) ?_
      refine sv rfl rfl rfl (ex_move rfl rfl) ?_
      refine st rfl rfl rfl (ex_call call36 rfl rfl (step_k q m r bs k _ hk2 hM (hT.ext K0) (by omega))) ?_
      rintro _ w5 ⟨rfl, hM1, K1⟩
      replace hown := hown.keepT K1 (fun g cs _ hg => ⟨hg.ne hM.1 (by decide), by obtain ⟨cs2, h2⟩ := hM.roll; exact hg.ne h2 (by decide)⟩)
      replace K0 := K0.trans K1 (fun j hj _ => by omega)
      clear hM K1
      have hM := hM1
      clear hM1
      cases hpr : prim q bs (k + 1)
      · skip
        refine w_nil (qe_next ?_)
        refine w_cond_f rfl ?_
        refine w_skip (qe_in_normal (qe_next ?_))
        refine w_region ?_
        refine sv rfl rfl rfl (ex_add rfl rfl rfl (i64_in (by omega) (by omega))) ?_
        refine sv rfl rfl rfl (ex_move rfl rfl) ?_
        refine w_nil (qe_round ((k + 1, n, B, d)) ⟨rfl, rfl, rfl, rfl, rfl, trivial⟩ ?_ ?_)
        · have hps := prims_succ q bs k
          rw [hpr, if_neg (by simp)] at hps
          exact ⟨by simp only; omega, by simp only; rw [hps, hn], hM, by simp only; rw [hps]; exact hown, K0⟩
        · simp only; omega
      · skip
        refine w_nil (qe_next ?_)
        refine w_cond_t rfl ?_
        refine w_region ?_
        refine sv rfl rfl rfl (ex_move rfl rfl) ?_
        refine sv rfl rfl rfl (ex_move rfl rfl) ?_
        refine sv rfl rfl rfl (ex_nil rfl rfl) ?_
        refine sv rfl rfl rfl (ex_fieldAddr fld62_2 rfl rfl) ?_
        refine sv rfl rfl rfl (ex_load (v := .int .i64 ((k + 1 : Nat) : Int)) one3 rfl rfl (by have h := hM.1.cell (i := 6) (v := .int .i64 ((bs.take (k + 1)).length : Int)) rfl; rw [show (bs.take (k + 1)).length = k + 1 by simp; omega] at h; exact h)) ?_
        refine st rfl rfl rfl (ex_buildSlice (cs := [.int .i64 ((k + 1 : Nat) : Int)]) rfl rfl (build_int _)) ?_
        rintro _ w6 ⟨g1, rfl, hg1, E7, hb7, hs7⟩
        replace hM := hM.ext E7
        replace hown := hown.ext E7
        replace K0 := K0.ext E7
        have hs8 := K0.size
        refine st rfl rfl rfl (ex_append Tryd.underlying35 z3.1 rfl (by decide) rfl rfl rfl hown (Rd.of_blk (size := 1) hb7 rfl) (by simp [Value.oneCell']) (by simp only; omega) (by simp only; omega) (by omega)) ?_
        rintro _ w7 ⟨B1, d1, rfl, hown1, K3, hB1⟩
        replace hM := hM.keep K3 (fun o e => hown.ne_blk hM.1 (by decide) m o e rfl) (fun o e => by obtain ⟨cs2, h2⟩ := hM.roll; exact hown.ne_blk h2 (by decide) r o e rfl) (fun g _ hg o e => hown.ne_blk hg (by decide) g o e rfl)
        replace K0 := K0.trans K3 (fun j hj _ => hown.fresh hj)
        clear hown
        have hown := hown1
        clear hown1
        refine sv rfl rfl rfl (ex_assign rfl rfl) ?_
        refine w_nil (qe_in_normal (qe_next ?_))
        refine w_region ?_
        refine sv rfl rfl rfl (ex_add rfl rfl rfl (i64_in (by omega) (by omega))) ?_
        refine sv rfl rfl rfl (ex_move rfl rfl) ?_
        refine w_nil (qe_round ((k + 1, n + 1, B1, d1)) ⟨rfl, rfl, rfl, rfl, rfl, trivial⟩ ?_ ?_)
        · have hps := prims_succ q bs k
          rw [hpr, if_pos rfl] at hps
          exact ⟨by simp only; omega, by simp only; rw [hps, List.length_append, List.length_singleton, hn], hM, by simp only; rw [hps, List.map_append]; exact hown, K0⟩
        · simp only; omega
    · skip
      replace hk2 : k = bs.length := by simp only at hk2; omega
      subst hk2
      subst hn
      refine w_exit (qe_then_exit (qe_then_exit (qe_in_exit (qe_next ?_))))
      refine w_seq ?_
      refine w_region ?_
      refine sv rfl rfl rfl (ex_move rfl rfl) ?_
      refine sv rfl rfl rfl (ex_assign rfl rfl) ?_
      refine sv rfl rfl rfl (ex_assign rfl rfl) ?_
      refine w_nil (qe_next ?_)
      refine w_ret (qe_ret2 rfl rfl rfl ?_)
      exact ⟨B, d, rfl, hown, K0⟩
end Go.Proofs.YtfgpcmphcnhbiaaDoor

/- The Chunker: New, Held. -/
import Derived.Test.YtfgpcmphcnhbiaaDoorK4
namespace Go.Proofs.YtfgpcmphcnhbiaaDoor
open Go Go.RowKit
set_option linter.unusedVariables false
set_option linter.unusedSimpArgs false
/-- block k is a Chunker that has met bs and holds 'held', in a row from lo on -/
def ChunkAt (w : World) (k m r : Nat) (q : Vut) (bs : List UInt8) (lo : Nat) (B : Option Addr) (d : Nat) (held : List UInt8) : Prop :=
  Blk w k 69 [.pointer (some ⟨m, 0, none⟩), .slice B held.length d] ∧ MarkAt w m r q bs ∧ Own w lo 5 1 B held.length d (bcells held) ∧ 0 < k ∧ lo ≤ w.heap.size
theorem ChunkAt.ext {w w' : World} {k m r lo d : Nat} {q : Vut} {bs held : List UInt8} {B : Option Addr} (h : ChunkAt w k m r q bs lo B d held) (K : Ext w w') : ChunkAt w' k m r q bs lo B d held :=
  ⟨h.1.ext K, h.2.1.ext K, h.2.2.1.ext K, h.2.2.2.1, Nat.le_trans h.2.2.2.2 K.size⟩
/-- what a stream yields: after i bytes of xs -/
def fed (q : Vut) (bs held xs : List UInt8) : Nat → List (List UInt8) × List UInt8
  | 0 => ([], held)
  | i + 1 => if prim q (bs ++ xs) (bs.length + i + 1) = true ∨ ((fed q bs held xs i).2 ++ [xs.getD i 0]).length = q.mx then ((fed q bs held xs i).1 ++ [(fed q bs held xs i).2 ++ [xs.getD i 0]], []) else ((fed q bs held xs i).1, (fed q bs held xs i).2 ++ [xs.getD i 0])
theorem fed_yes {q : Vut} {bs held xs : List UInt8} {i : Nat} {dn : List (List UInt8)} {h : List UInt8} (he : fed q bs held xs i = (dn, h)) (hc : prim q (bs ++ xs) (bs.length + i + 1) = true ∨ (h ++ [xs.getD i 0]).length = q.mx) : fed q bs held xs (i + 1) = (dn ++ [h ++ [xs.getD i 0]], []) := by
  unfold fed
  rw [he]
  exact if_pos hc
theorem fed_no {q : Vut} {bs held xs : List UInt8} {i : Nat} {dn : List (List UInt8)} {h : List UInt8} (he : fed q bs held xs i = (dn, h)) (hc : ¬ (prim q (bs ++ xs) (bs.length + i + 1) = true ∨ (h ++ [xs.getD i 0]).length = q.mx)) : fed q bs held xs (i + 1) = (dn, h ++ [xs.getD i 0]) := by
  unfold fed
  rw [he]
  exact if_neg hc
theorem fed_len (q : Vut) (bs held xs : List UInt8) : ∀ i, (fed q bs held xs i).1.length ≤ i ∧ (fed q bs held xs i).2.length ≤ held.length + i
  | 0 => ⟨Nat.le_refl _, Nat.le_refl _⟩
  | i + 1 => by
    have ih := fed_len q bs held xs i
    unfold fed
    split
    · simp; omega
    · simp; omega
theorem step_i (q : Vut) (m r : Nat) (bs xs : List UInt8) (i : Nat) (w : World) (hi : i < xs.length) (hM : MarkAt w m r q ((bs ++ xs).take (bs.length + i))) (hT : TabAt w) (hlen : (bs ++ xs).length ≤ 100000000) :
    Ret Tryd.prog 36 [.pointer (some ⟨m, 0, none⟩), bv (xs.getD i 0)] w fun v w' => v = .bool (prim q (bs ++ xs) (bs.length + i + 1)) ∧ MarkAt w' m r q ((bs ++ xs).take (bs.length + (i + 1))) ∧ Keep (fun k => k ≠ m ∧ k ≠ r) w w' := by
  have := step_k q m r (bs ++ xs) (bs.length + i) w (by simp; omega) hM hT hlen
  rw [show (bs ++ xs).getD (bs.length + i) 0 = xs.getD i 0 by simp only [List.getD_eq_getElem?_getD]; rw [List.getElem?_append_right (by omega), Nat.add_sub_cancel_left]] at this
  exact this
theorem build_byte (x : UInt8) (w : World) : (Instr.buildSlice 25 1 [(0, bv x)].toArray).run Tryd.prog w = .ok (.slice (some ⟨w.heap.size, 0, none⟩) 1 1) (w.alloc (.cells [bv x].toArray 5)) := by unfold bv; kernel_rfl

/-- kinkeep/chunker.New -/
theorem chunkNew_c (q : Vut) (w : World) (hG : 0 < w.heap.size) :
    Ret Tryd.prog 23 [q.cut.val] w fun v w' => ∃ k m r, v = .tuple #[.pointer (some ⟨k, 0, none⟩), .int .i64 0] ∧ ChunkAt w' k m r q [] w'.heap.size none 0 [] ∧ w.heap.size ≤ k ∧ w.heap.size ≤ m ∧ w.heap.size ≤ r ∧ Ext w w' := by
  have K0 : Ext w w := Keep.refl _ _
  refine ret_of Tryd.func23 rfl rfl ?_
  refine w_seq ?_
  refine w_region ?_
  refine st rfl rfl rfl (ex_box (cs := q.cut.cells) rfl rfl rfl) ?_
  rintro _ w1 ⟨b, rfl, hb0, E0, hb, hs0⟩
  replace K0 := K0.ext E0
  refine sv rfl rfl rfl (ex_assign rfl rfl) ?_
  refine sv rfl rfl rfl (ex_assign rfl rfl) ?_
  refine w_nil (qe_next ?_)
  refine w_seq ?_
  refine w_seq ?_
  refine w_region ?_
  refine sv rfl rfl rfl (ex_load_agg (cs := q.cut.cells) agg24 rfl rfl (by intro j u hu; rw [Nat.zero_add]; exact hb.cell hu)) ?_
  refine st rfl rfl rfl (ex_call call25 rfl rfl ((valid_c q.cut _).mono (R' := fun v w' => v = .bool true ∧ Ext _ w') fun v w' h' => ⟨by rw [h'.1, decide_eq_true (q.ok)], h'.2⟩)) ?_
  rintro _ w2 ⟨rfl, E1⟩
  replace K0 := K0.ext E1
  replace hb := hb.ext E1
  refine sv rfl rfl rfl (ex_not rfl rfl) ?_
  refine w_nil (qe_next ?_)
  refine w_cond_f rfl ?_
  refine w_skip (qe_next ?_)
  refine w_seq ?_
  refine w_region ?_
  refine sv rfl rfl rfl (ex_load_agg (cs := q.cut.cells) agg24 rfl rfl (by intro j u hu; rw [Nat.zero_add]; exact hb.cell hu)) ?_
  have hsz := K0.size
  refine st rfl rfl rfl (ex_call call35 rfl rfl (newMarker_c q _ (by omega))) ?_
  rintro _ w3 ⟨m, r, rfl, hM, hm0, hr0, E2⟩
  replace K0 := K0.ext E2
  replace hb := hb.ext E2
  refine sv rfl rfl rfl (ex_build rfl rfl (build_chunker m)) ?_
  have hsz3 := K0.size
  refine st rfl rfl rfl (ex_box (cs := [.pointer (some ⟨m, 0, none⟩), .slice none 0 0]) rfl rfl rfl) ?_
  rintro _ w4 ⟨k, rfl, hk0, E3, hk, hs3⟩
  replace K0 := K0.ext E3
  replace hb := hb.ext E3
  replace hM := hM.ext E3
  refine sv rfl rfl rfl (ex_assign rfl rfl) ?_
  refine sv rfl rfl rfl (ex_assign rfl rfl) ?_
  refine w_nil (qe_next ?_)
  refine w_ret (qe_ret2 rfl rfl rfl ?_)
  exact ⟨k, m, r, rfl, ⟨hk, hM, Own.nil _ _ _ _, by omega, Nat.le_refl _⟩, by omega, by omega, by omega, K0⟩

/-- kinkeep/chunker.New -/
theorem chunkNewBad_c (c0 : Cut) (w : World) (h : ¬ c0.ok) :
    Ret Tryd.prog 23 [c0.val] w fun v w' => v = .tuple #[.pointer none, .int .i64 1] ∧ Ext w w' := by
  have K0 : Ext w w := Keep.refl _ _
  refine ret_of Tryd.func23 rfl rfl ?_
  refine w_seq ?_
  refine w_region ?_
  refine st rfl rfl rfl (ex_box (cs := c0.cells) rfl rfl rfl) ?_
  rintro _ w1 ⟨b, rfl, hb0, E0, hb, hs0⟩
  replace K0 := K0.ext E0
  refine sv rfl rfl rfl (ex_assign rfl rfl) ?_
  refine sv rfl rfl rfl (ex_assign rfl rfl) ?_
  refine w_nil (qe_next ?_)
  refine w_seq ?_
  refine w_seq ?_
  refine w_region ?_
  refine sv rfl rfl rfl (ex_load_agg (cs := c0.cells) agg24 rfl rfl (by intro j u hu; rw [Nat.zero_add]; exact hb.cell hu)) ?_
  refine st rfl rfl rfl (ex_call call25 rfl rfl ((valid_c c0 _).mono (R' := fun v w' => v = .bool false ∧ Ext _ w') fun v w' h' => ⟨by rw [h'.1, decide_eq_false (h)], h'.2⟩)) ?_
  rintro _ w2 ⟨rfl, E1⟩
  replace K0 := K0.ext E1
  replace hb := hb.ext E1
  refine sv rfl rfl rfl (ex_not rfl rfl) ?_
  refine w_nil (qe_next ?_)
  refine w_cond_t rfl ?_
  refine w_seq ?_
  refine w_region ?_
  refine sv rfl rfl rfl (ex_assign rfl rfl) ?_
  refine sv rfl rfl rfl (ex_assign rfl rfl) ?_
  refine w_nil (qe_next ?_)
  refine w_ret (qe_then_ret (qe_ret2 rfl rfl rfl ?_))
  exact ⟨rfl, K0⟩

/-- (*kinkeep/chunker.Chunker).Held -/
theorem held_c (k m r lo d : Nat) (q : Vut) (bs held : List UInt8) (B : Option Addr) (w : World) (hC : ChunkAt w k m r q bs lo B d held) :
    Ret Tryd.prog 31 [.pointer (some ⟨k, 0, none⟩)] w fun v w' => Dv (.int .i64 (held.length : Int)) w v w' := by
  refine ret_of Tryd.func31 rfl rfl ?_
  refine w_seq ?_
  refine w_region ?_
  refine sv rfl rfl rfl (ex_assign rfl rfl) ?_
  refine w_nil (qe_next ?_)
  refine w_seq ?_
  refine w_region ?_
  refine sv rfl rfl rfl (ex_move rfl rfl) ?_
  refine sv rfl rfl rfl (ex_nil rfl rfl) ?_
  refine sv rfl rfl rfl (ex_fieldAddr fld69_1 rfl rfl) ?_
  refine sv rfl rfl rfl (ex_load (v := .slice B held.length d) one25 rfl rfl (hC.1.cell rfl)) ?_
  refine sv rfl rfl rfl (ex_len Tryd.underlying25 rfl rfl) ?_
  refine sv rfl rfl rfl (ex_assign rfl rfl) ?_
  refine w_nil (qe_next ?_)
  refine w_ret (qe_ret1 rfl rfl ?_)
  exact ⟨rfl, rfl⟩

/-- (*kinkeep/chunker.Chunker).Push -/
theorem chunkPush_c (k m r lo d : Nat) (q : Vut) (bs held : List UInt8) (B0 : Option Addr) (A : Option Addr) (c dl dh : Nat) (xs : List UInt8) (w : World) (hC : ChunkAt w k m r q bs lo B0 d held) (hT : TabAt w) (hr : Rd w dl dh 1 A xs.length (bcells xs)) (hdh : ∀ b, dl ≤ b → b < dh → b ≠ k ∧ b ≠ m ∧ b ≠ r ∧ ∀ o, B0 ≠ some ⟨b, o, none⟩) (hTB : ∀ o, B0 ≠ some ⟨0, o, none⟩) (hdw : dh ≤ w.heap.size) (hlen : (bs ++ xs).length ≤ 1000000) (hheld : held.length ≤ 1000000) :
    Ret Tryd.prog 26 [.pointer (some ⟨k, 0, none⟩), .slice A xs.length c] w fun v w' => ∃ O no dd sl B d' lo', v = .slice O no dd ∧ no = (fed q bs held xs xs.length).1.length ∧ ChunkAt w' k m r q (bs ++ xs) lo' B d' (fed q bs held xs xs.length).2 ∧ Own w' w.heap.size 25 1 O no dd (sl.map slv) ∧ Owns w' lo sl (fed q bs held xs xs.length).1 ∧ (∀ s ∈ sl, ∀ g o, s.1 = some ⟨g, o, none⟩ → g < lo') ∧ lo ≤ lo' ∧ (B = B0 ∨ ∀ g o, B = some ⟨g, o, none⟩ → w.heap.size ≤ g) ∧ Keep (fun j => j ≠ k ∧ j ≠ m ∧ j ≠ r ∧ ∀ o, B0 ≠ some ⟨j, o, none⟩) w w' := by
  have hq0 : q.cut.mn = (q.mn : Int) := rfl
  have hq1 : q.cut.mx = (q.mx : Int) := rfl
  have hq2 : q.cut.wi = (q.wi : Int) := rfl
  have hq3 : q.cut.bi = (q.bi : Int) := rfl
  have hv1 := q.h1
  have hv2 := q.h2
  have hv3 := q.h3
  have hv4 := q.h4
  have hv5 := q.h5
  have hv6 := q.h6
  refine ret_of Tryd.func26 rfl rfl ?_
  refine w_seq ?_
  refine w_region ?_
  refine sv rfl rfl rfl (ex_assign rfl rfl) ?_
  refine w_nil (qe_next ?_)
  refine w_seq ?_
  refine w_region ?_
  refine sv rfl rfl rfl (ex_assign rfl rfl) ?_
  refine w_nil (qe_next ?_)
  refine w_seq ?_
  refine w_seq ?_
  refine w_region ?_
  refine sv rfl rfl rfl (ex_move rfl rfl) ?_
  refine sv rfl rfl rfl (ex_len Tryd.underlying25 rfl rfl) ?_
  refine sv rfl rfl rfl (ex_move rfl rfl) ?_
  refine w_nil (qe_next ?_)
  refine w_block ?_
  refine w_loop (ι := Nat × Nat × Option Addr × Nat) (fun i => [(0, .pointer (some ⟨k, 0, none⟩)), (5, .slice i.2.2.1 i.2.1 i.2.2.2), (8, .slice A xs.length c), (9, .int .i64 (xs.length : Int)), (10, .int .i64 (i.1 : Int))]) (fun i w1 => i.1 ≤ xs.length ∧ ∃ dn h sl B d' lo', fed q bs held xs i.1 = (dn, h) ∧ i.2.1 = dn.length ∧ ChunkAt w1 k m r q ((bs ++ xs).take (bs.length + i.1)) lo' B d' h ∧ Own w1 w.heap.size 25 1 i.2.2.1 i.2.1 i.2.2.2 (sl.map slv) ∧ Owns w1 lo sl dn ∧ (∀ s ∈ sl, ∀ g o, s.1 = some ⟨g, o, none⟩ → g < lo') ∧ lo ≤ lo' ∧ (B = B0 ∨ ∀ g o, B = some ⟨g, o, none⟩ → w.heap.size ≤ g) ∧ Keep (fun j => j ≠ k ∧ j ≠ m ∧ j ≠ r ∧ ∀ o, B0 ≠ some ⟨j, o, none⟩) w w1) (fun i => xs.length - i.1) ((0, 0, none, 0)) ⟨rfl, rfl, rfl, rfl, rfl, trivial⟩ ?_ ?_
  · exact ⟨Nat.zero_le _, [], held, [], B0, d, lo, rfl, rfl, by rw [show (bs ++ xs).take (bs.length + 0) = bs by simp]; exact hC, Own.nil _ _ _ _, trivial, (fun s hs => by cases hs), Nat.le_refl _, .inl rfl, Keep.refl _ _⟩
  · rintro ⟨i, no, O, dd⟩ w1 ⟨hi, dn, h, sl, B, d', lo', hfe, hno, ⟨hk, hM, hown, hGk, hlo'⟩, hout, hso, hap, hll, hB, KK⟩
    simp only at hi hfe hno hM hout
    have hfl := fed_len q bs held xs i
    rw [hfe] at hfl
    simp only at hfl
    have hsz := KK.size
    have hL : bs.length + xs.length ≤ 1000000 := by simpa using hlen
    have hGm := hM.2.2.2
    have hGr := hM.2.2.1
    obtain ⟨csr, hrr⟩ := hM.roll
    have hkm : k ≠ m := hk.ne hM.1 (by decide)
    have hkr : k ≠ r := hk.ne hrr (by decide)
    have hCB := hC.2.2.1
    have KL := Keep.refl (fun _ => False) w1
    refine w_seq ?_
    refine w_region ?_
    refine sv rfl rfl rfl (ex_cmp rfl rfl rfl rfl) ?_
    refine w_nil (qe_next ?_)
    refine w_seq ?_
    refine w_if rfl (fun hi2 => ?_) (fun hi2 => ?_)
    · skip
      replace hi2 : i < xs.length := by simp only at hi2; omega
      obtain ⟨bb, oo, rfl, hc2⟩ := (hr.keep KK hdh).byte hi2
      refine w_skip (qe_next ?_)
      refine w_seq ?_
      refine w_block ?_
      refine w_seq ?_
      refine w_region ?_
      refine sv rfl rfl rfl (ex_index Tryd.underlying25 sz5 _ rfl rfl rfl rfl (by omega)) ?_
      refine sv rfl rfl rfl (ex_load one5 rfl rfl hc2) ?_
      refine sv rfl rfl rfl (ex_assign rfl rfl) ?_
      refine w_nil (qe_next ?_)
      refine w_seq ?_
      refine w_region ?_
      refine sv rfl rfl rfl (ex_move rfl rfl) ?_
      refine sv rfl rfl rfl (ex_move rfl rfl) ?_
      refine sv rfl rfl rfl (ex_nil rfl rfl) ?_
      refine sv rfl rfl rfl (ex_fieldAddr fld69_1 rfl rfl) ?_
      refine sv rfl rfl rfl (ex_load (v := .slice B h.length d') one25 rfl rfl (hk.cell rfl)) ?_
      refine sv rfl rfl rfl (ex_move rfl rfl) ?_
      refine st rfl rfl rfl (ex_buildSlice (cs := [bv (xs.getD i 0)]) rfl rfl (build_byte _)) ?_
      rintro _ w1 ⟨g1, rfl, hg1, E7, hb7, hs7⟩
      replace hk := hk.ext E7
      replace hM := hM.ext E7
      replace hown := hown.ext E7
      replace hout := hout.ext E7
      replace hso := hso.ext E7
      replace KK := KK.ext E7
      replace KL := KL.ext E7
      have hszL := KL.size
      refine st rfl rfl rfl (ex_append Tryd.underlying25 z5.1 rfl (by decide) rfl rfl rfl hown (Rd.of_blk (size := 1) hb7 rfl) (by simp [bv, Value.oneCell']) (by omega) (by omega) (by omega)) ?_
      rintro _ w2 ⟨B1, d1, rfl, hown1, K3, hB1⟩
      have hk2 := hk.keep K3 (fun o e => hown.ne_blk hk (by decide) k o e rfl)
      replace hM := hM.keep K3 (fun o e => hown.ne_blk hM.1 (by decide) m o e rfl) (fun o e => by obtain ⟨cs2, h2⟩ := hM.roll; exact hown.ne_blk h2 (by decide) r o e rfl) (fun g _ hg o e => hown.ne_blk hg (by decide) g o e rfl)
      replace hout := hout.keepT K3 (fun g cs _ hg o e => hown.ne_blk hg (by decide) g o e rfl)
      replace hso := Owns.keepS K3 hso (fun s hs g o e o' e' => by have h1 := hap s hs g o e; have h2 := (hown.lt e').1; omega)
      replace KL := KL.trans K3 (fun _ _ h => h.elim)
      have hBB : B1 = B0 ∨ ∀ g o, B1 = some ⟨g, o, none⟩ → w.heap.size ≤ g := by
        rcases hB1 with e | e
        · rw [e]; exact hB
        · refine .inr fun g o e' => ?_
          rw [e] at e'
          injection e' with e'
          injection e' with e'
          omega
      replace KK := KK.trans K3 (fun j hj hS o e => by
        rcases hB with hB | hB
        · exact hS.2.2.2 o (hB ▸ e)
        · have := hB j o e; omega)
      rw [show bcells h ++ [bv (xs.getD i 0)] = bcells (h ++ [xs.getD i 0]) from by simp [bcells]] at hown1
      clear hk hown
      have hown := hown1
      clear hown1
      refine sv rfl rfl rfl (ex_nil rfl rfl) ?_
      refine sv rfl rfl rfl (ex_fieldAddr fld69_1 rfl rfl) ?_
      refine st0 rfl rfl (ex_store_blk sz25 rfl rfl rfl rfl hk2 (by simp)) ?_
      rintro _ w3 ⟨K4, hk, hs9⟩
      replace hM := hM.keep K4 hkm.symm hkr.symm (fun g _ hg => hg.ne hk2 (by decide))
      replace hown := hown.keepT K4 (fun g cs _ hg => hg.ne hk2 (by decide))
      replace hout := hout.keepT K4 (fun g cs _ hg => hg.ne hk2 (by decide))
      replace hso := hso.keepB K4 (fun g cs _ hg => hg.ne hk2 (by decide))
      replace KK := KK.trans K4 (fun j _ hj => hj.1)
      replace KL := KL.trans K4 (fun _ _ h => h.elim)
      clear hk2
      refine w_nil (qe_next ?_)
      refine w_seq ?_
      refine w_draw mixed (fun w4 _ Ew4 => ?_)
      replace hk := hk.ext Ew4
      replace hM := hM.ext Ew4
      replace hown := hown.ext Ew4
      replace hout := hout.ext Ew4
      replace hso := hso.ext Ew4
      replace KK := KK.ext Ew4
      replace KL := KL.ext Ew4
      refine wd_free 5 _ rfl rfl rfl rfl ?_
      refine fd [] rfl rfl rfl rfl rfl rfl rfl (fun w' E => ex_move rfl rfl) ?_
      refine fd [0] rfl rfl rfl rfl rfl rfl rfl (fun w' E => ex_nil rfl rfl) ?_
      refine fd [1] rfl rfl rfl rfl rfl rfl rfl (fun w' E => ex_fieldAddr fld69_0 rfl rfl) ?_
      refine fd [2] rfl rfl rfl rfl rfl rfl rfl (fun w' E => ex_load one57 rfl rfl (E.cell trivial (hk.cell rfl))) ?_
      refine fd [] rfl rfl rfl rfl rfl rfl rfl (fun w' E => ex_move rfl rfl) ?_
      refine .nil (fun w5 Ew5 _ => ?_)
      replace hk := hk.ext Ew5
      replace hM := hM.ext Ew5
      replace hown := hown.ext Ew5
      replace hout := hout.ext Ew5
      replace hso := hso.ext Ew5
      replace KK := KK.ext Ew5
      replace KL := KL.ext Ew5
      refine wd_one rfl rfl (by kernel_rfl) rfl rfl rfl (ex_call call36 rfl rfl (step_i q m r bs xs i _ hi2 hM (hT.keep KK ⟨by omega, by omega, by omega, hTB⟩) (by omega))) ?_
      rintro _ w6 ⟨rfl, hM1, K5⟩
      have hty : ∀ (t g : Nat) (cs : List Value), t ≠ 62 → t ≠ 86 → Blk _ g t cs → g ≠ m ∧ g ≠ r := fun t g cs h1 h2 hg => ⟨hg.ne hM.1 h1, by obtain ⟨cs2, h3⟩ := hM.roll; exact hg.ne h3 h2⟩
      replace hk := hk.keep K5 ⟨hkm, hkr⟩
      replace hown := hown.keepT K5 (fun g cs _ hg => hty _ _ _ (by decide) (by decide) hg)
      replace hout := hout.keepT K5 (fun g cs _ hg => hty _ _ _ (by decide) (by decide) hg)
      replace hso := hso.keepB K5 (fun g cs _ hg => hty _ _ _ (by decide) (by decide) hg)
      replace KK := KK.trans K5 (fun j _ hj => ⟨hj.2.1, hj.2.2.1⟩)
      replace KL := KL.trans K5 (fun _ _ h => h.elim)
      clear hM hty
      have hM := hM1
      clear hM1
      cases hpr : prim q (bs ++ xs) (bs.length + i + 1)
      · skip
        refine wd_v rfl rfl (by kernel_rfl) rfl rfl rfl (ex_move rfl rfl) ?_
        refine wd_free 13 _ rfl rfl rfl rfl ?_
        first | refine fsk [] rfl rfl rfl rfl rfl rfl rfl ?_ | refine fd [] rfl rfl rfl rfl rfl rfl rfl (fun w' E => ex_move rfl rfl) ?_
        first | refine fsk [7] rfl rfl rfl rfl rfl rfl rfl ?_ | refine fd [7] rfl rfl rfl rfl rfl rfl rfl (fun w' E => ex_nil rfl rfl) ?_
        first | refine fsk [8] rfl rfl rfl rfl rfl rfl rfl ?_ | refine fd [8] rfl rfl rfl rfl rfl rfl rfl (fun w' E => ex_fieldAddr fld69_1 rfl rfl) ?_
        first | refine fsk [9] rfl rfl rfl rfl rfl rfl rfl ?_ | refine fd [9] rfl rfl rfl rfl rfl rfl rfl (fun w' E => ex_load (v := .slice B1 (h.length + 1) d1) one25 rfl rfl (E.cell trivial (hk.cell rfl))) ?_
        first | refine fsk [10] rfl rfl rfl rfl rfl rfl rfl ?_ | refine fd [10] rfl rfl rfl rfl rfl rfl rfl (fun w' E => ex_len Tryd.underlying25 rfl rfl) ?_
        first | refine fsk [] rfl rfl rfl rfl rfl rfl rfl ?_ | refine fd [] rfl rfl rfl rfl rfl rfl rfl (fun w' E => ex_move rfl rfl) ?_
        first | refine fsk [12] rfl rfl rfl rfl rfl rfl rfl ?_ | refine fd [12] rfl rfl rfl rfl rfl rfl rfl (fun w' E => ex_nil rfl rfl) ?_
        first | refine fsk [13] rfl rfl rfl rfl rfl rfl rfl ?_ | refine fd [13] rfl rfl rfl rfl rfl rfl rfl (fun w' E => ex_fieldAddr fld69_0 rfl rfl) ?_
        first | refine fsk [14] rfl rfl rfl rfl rfl rfl rfl ?_ | refine fd [14] rfl rfl rfl rfl rfl rfl rfl (fun w' E => ex_load one57 rfl rfl (E.cell trivial (hk.cell rfl))) ?_
        first | refine fsk [15] rfl rfl rfl rfl rfl rfl rfl ?_ | refine fd [15] rfl rfl rfl rfl rfl rfl rfl (fun w' E => ex_nil rfl rfl) ?_
        first | refine fsk [16] rfl rfl rfl rfl rfl rfl rfl ?_ | refine fd [16] rfl rfl rfl rfl rfl rfl rfl (fun w' E => ex_fieldAddr fld62_1 rfl rfl) ?_
        first | refine fsk [17] rfl rfl rfl rfl rfl rfl rfl ?_ | refine fd [17] rfl rfl rfl rfl rfl rfl rfl (fun w' E => ex_fieldAddr fld24_1 rfl rfl) ?_
        first | refine fsk [18] rfl rfl rfl rfl rfl rfl rfl ?_ | refine fd [18] rfl rfl rfl rfl rfl rfl rfl (fun w' E => ex_load one3 rfl rfl (E.cell trivial (hM.1.cell rfl))) ?_
        refine .nil (fun w7 Ew7 _ => ?_)
        replace hk := hk.ext Ew7
        replace hM := hM.ext Ew7
        replace hown := hown.ext Ew7
        replace hout := hout.ext Ew7
        replace hso := hso.ext Ew7
        replace KK := KK.ext Ew7
        replace KL := KL.ext Ew7
        first | refine wd_skip rfl rfl (by kernel_rfl) rfl rfl rfl ?_ | refine wd_v rfl rfl (by kernel_rfl) rfl rfl rfl (ex_cmp rfl rfl rfl rfl) ?_
        first | refine wd_v rfl rfl (by kernel_rfl) rfl rfl rfl (ex_pick_t rfl rfl rfl) ?_ | refine wd_v rfl rfl (by kernel_rfl) rfl rfl rfl (ex_pick_f rfl rfl rfl) ?_
        refine wd_nil (by decide) rfl ?_
        refine qe_next ?_
        refine w_if rfl (fun hmx => ?_) (fun hmx => ?_)
        · skip
          refine w_seq ?_
          refine w_region ?_
          refine sv rfl rfl rfl (ex_move rfl rfl) ?_
          refine sv rfl rfl rfl (ex_move rfl rfl) ?_
          refine sv rfl rfl rfl (ex_nil rfl rfl) ?_
          refine sv rfl rfl rfl (ex_fieldAddr fld69_1 rfl rfl) ?_
          refine sv rfl rfl rfl (ex_load (v := .slice B1 (h.length + 1) d1) one25 rfl rfl (hk.cell rfl)) ?_
          refine st rfl rfl rfl (ex_buildSlice (cs := [slv (B1, h.length + 1, d1)]) rfl rfl (build_bs1 (B1, h.length + 1, d1))) ?_
          rintro _ w8 ⟨g2, rfl, hg2, E8, hb8, hs8⟩
          replace hk := hk.ext E8
          replace hM := hM.ext E8
          replace hown := hown.ext E8
          replace hout := hout.ext E8
          replace hso := hso.ext E8
          replace KK := KK.ext E8
          replace KL := KL.ext E8
          have hszK := KK.size
          refine st rfl rfl rfl (ex_append Tryd.underlying32 z25.1 rfl (by decide) rfl rfl rfl hout (Rd.of_blk (size := 1) hb8 rfl) (by simp [slv, Value.oneCell']) (by simp only; omega) (by simp only; omega) (by omega)) ?_
          rintro _ w9 ⟨O1, dd1, rfl, hout1, K6, hO1⟩
          have hk2 := hk.keep K6 (fun o e => hout.ne_blk hk (by decide) k o e rfl)
          replace hM := hM.keep K6 (fun o e => hout.ne_blk hM.1 (by decide) m o e rfl) (fun o e => by obtain ⟨cs2, h2⟩ := hM.roll; exact hout.ne_blk h2 (by decide) r o e rfl) (fun g _ hg o e => hout.ne_blk hg (by decide) g o e rfl)
          replace hown := hown.keepT K6 (fun g cs _ hg o e => hout.ne_blk hg (by decide) g o e rfl)
          replace hso := hso.keepB K6 (fun g cs _ hg o e => hout.ne_blk hg (by decide) g o e rfl)
          replace KK := KK.trans K6 (fun j hj _ => hout.fresh hj)
          replace KL := KL.trans K6 (fun _ _ h => h.elim)
          clear hk hout
          have hout := hout1
          clear hout1
          refine sv rfl rfl rfl (ex_assign rfl rfl) ?_
          refine w_nil (qe_next ?_)
          refine w_region ?_
          refine sv rfl rfl rfl (ex_move rfl rfl) ?_
          refine sv rfl rfl rfl (ex_nil rfl rfl) ?_
          refine sv rfl rfl rfl (ex_fieldAddr fld69_1 rfl rfl) ?_
          refine st0 rfl rfl (ex_store_blk sz25 rfl rfl rfl rfl hk2 (by simp)) ?_
          rintro _ w10 ⟨K9, hk, hs9⟩
          replace hM := hM.keep K9 hkm.symm hkr.symm (fun g _ hg => hg.ne hk2 (by decide))
          replace hown := hown.keepT K9 (fun g cs _ hg => hg.ne hk2 (by decide))
          replace hout := hout.keepT K9 (fun g cs _ hg => hg.ne hk2 (by decide))
          replace hso := hso.keepB K9 (fun g cs _ hg => hg.ne hk2 (by decide))
          replace KK := KK.trans K9 (fun j _ hj => hj.1)
          replace KL := KL.trans K9 (fun _ _ h => h.elim)
          clear hk2
          have hszZ := KL.size
          refine w_nil (qe_in_normal (qe_next ?_))
          refine w_region ?_
          refine sv rfl rfl rfl (ex_add rfl rfl rfl (i64_in (by omega) (by omega))) ?_
          refine sv rfl rfl rfl (ex_move rfl rfl) ?_
          refine w_nil (qe_round ((i + 1, no + 1, O1, dd1)) ⟨rfl, rfl, rfl, rfl, rfl, trivial⟩ ?_ ?_)
          · exact ⟨by simp only; omega, dn ++ [h ++ [xs.getD i 0]], [], sl ++ [(B1, h.length + 1, d1)], none, 0, _, fed_yes hfe (by first | exact .inl hpr | exact .inr (by rw [List.length_append, List.length_singleton]; omega)), by simp only [List.length_append, List.length_singleton]; omega, ⟨hk, hM, Own.nil _ _ _ _, hGk, Nat.le_refl _⟩, by simp only; rw [List.map_append]; exact hout, hso.snoc (by simp) (hown.lower hll), (fun s hs g o e => by
              rcases List.mem_append.1 hs with hs | hs
              · have := hap s hs g o e; omega
              · rw [List.mem_singleton.1 hs] at e; exact (hown.lt e).2), by omega, .inr (fun g o e => by cases e), KK⟩
          · simp only; omega
        · skip
          refine w_skip (qe_in_normal (qe_next ?_))
          refine w_region ?_
          refine sv rfl rfl rfl (ex_add rfl rfl rfl (i64_in (by omega) (by omega))) ?_
          refine sv rfl rfl rfl (ex_move rfl rfl) ?_
          have hszZ := KL.size
          refine w_nil (qe_round ((i + 1, no, O, dd)) ⟨rfl, rfl, rfl, rfl, rfl, trivial⟩ ?_ ?_)
          · exact ⟨by simp only; omega, dn, h ++ [xs.getD i 0], sl, B1, d1, lo', fed_no hfe (by rw [hpr]; simp only [Bool.false_eq_true, false_or, List.length_append, List.length_singleton]; omega), hno, ⟨by rw [List.length_append, List.length_singleton]; exact hk, hM, by rw [List.length_append, List.length_singleton]; exact hown, hGk, by omega⟩, hout, hso, hap, hll, hBB, KK⟩
          · simp only; omega
      · skip
        refine wd_v rfl rfl (by kernel_rfl) rfl rfl rfl (ex_move rfl rfl) ?_
        refine wd_free 13 _ rfl rfl rfl rfl ?_
        first | refine fsk [] rfl rfl rfl rfl rfl rfl rfl ?_ | refine fd [] rfl rfl rfl rfl rfl rfl rfl (fun w' E => ex_move rfl rfl) ?_
        first | refine fsk [7] rfl rfl rfl rfl rfl rfl rfl ?_ | refine fd [7] rfl rfl rfl rfl rfl rfl rfl (fun w' E => ex_nil rfl rfl) ?_
        first | refine fsk [8] rfl rfl rfl rfl rfl rfl rfl ?_ | refine fd [8] rfl rfl rfl rfl rfl rfl rfl (fun w' E => ex_fieldAddr fld69_1 rfl rfl) ?_
        first | refine fsk [9] rfl rfl rfl rfl rfl rfl rfl ?_ | refine fd [9] rfl rfl rfl rfl rfl rfl rfl (fun w' E => ex_load (v := .slice B1 (h.length + 1) d1) one25 rfl rfl (E.cell trivial (hk.cell rfl))) ?_
        first | refine fsk [10] rfl rfl rfl rfl rfl rfl rfl ?_ | refine fd [10] rfl rfl rfl rfl rfl rfl rfl (fun w' E => ex_len Tryd.underlying25 rfl rfl) ?_
        first | refine fsk [] rfl rfl rfl rfl rfl rfl rfl ?_ | refine fd [] rfl rfl rfl rfl rfl rfl rfl (fun w' E => ex_move rfl rfl) ?_
        first | refine fsk [12] rfl rfl rfl rfl rfl rfl rfl ?_ | refine fd [12] rfl rfl rfl rfl rfl rfl rfl (fun w' E => ex_nil rfl rfl) ?_
        first | refine fsk [13] rfl rfl rfl rfl rfl rfl rfl ?_ | refine fd [13] rfl rfl rfl rfl rfl rfl rfl (fun w' E => ex_fieldAddr fld69_0 rfl rfl) ?_
        first | refine fsk [14] rfl rfl rfl rfl rfl rfl rfl ?_ | refine fd [14] rfl rfl rfl rfl rfl rfl rfl (fun w' E => ex_load one57 rfl rfl (E.cell trivial (hk.cell rfl))) ?_
        first | refine fsk [15] rfl rfl rfl rfl rfl rfl rfl ?_ | refine fd [15] rfl rfl rfl rfl rfl rfl rfl (fun w' E => ex_nil rfl rfl) ?_
        first | refine fsk [16] rfl rfl rfl rfl rfl rfl rfl ?_ | refine fd [16] rfl rfl rfl rfl rfl rfl rfl (fun w' E => ex_fieldAddr fld62_1 rfl rfl) ?_
        first | refine fsk [17] rfl rfl rfl rfl rfl rfl rfl ?_ | refine fd [17] rfl rfl rfl rfl rfl rfl rfl (fun w' E => ex_fieldAddr fld24_1 rfl rfl) ?_
        first | refine fsk [18] rfl rfl rfl rfl rfl rfl rfl ?_ | refine fd [18] rfl rfl rfl rfl rfl rfl rfl (fun w' E => ex_load one3 rfl rfl (E.cell trivial (hM.1.cell rfl))) ?_
        refine .nil (fun w11 Ew11 _ => ?_)
        replace hk := hk.ext Ew11
        replace hM := hM.ext Ew11
        replace hown := hown.ext Ew11
        replace hout := hout.ext Ew11
        replace hso := hso.ext Ew11
        replace KK := KK.ext Ew11
        replace KL := KL.ext Ew11
        first | refine wd_skip rfl rfl (by kernel_rfl) rfl rfl rfl ?_ | refine wd_v rfl rfl (by kernel_rfl) rfl rfl rfl (ex_cmp rfl rfl rfl rfl) ?_
        first | refine wd_v rfl rfl (by kernel_rfl) rfl rfl rfl (ex_pick_t rfl rfl rfl) ?_ | refine wd_v rfl rfl (by kernel_rfl) rfl rfl rfl (ex_pick_f rfl rfl rfl) ?_
        refine wd_nil (by decide) rfl ?_
        refine qe_next ?_
        refine w_cond_t rfl ?_
        refine w_seq ?_
        refine w_region ?_
        refine sv rfl rfl rfl (ex_move rfl rfl) ?_
        refine sv rfl rfl rfl (ex_move rfl rfl) ?_
        refine sv rfl rfl rfl (ex_nil rfl rfl) ?_
        refine sv rfl rfl rfl (ex_fieldAddr fld69_1 rfl rfl) ?_
        refine sv rfl rfl rfl (ex_load (v := .slice B1 (h.length + 1) d1) one25 rfl rfl (hk.cell rfl)) ?_
        refine st rfl rfl rfl (ex_buildSlice (cs := [slv (B1, h.length + 1, d1)]) rfl rfl (build_bs1 (B1, h.length + 1, d1))) ?_
        rintro _ w12 ⟨g2, rfl, hg2, E8, hb8, hs8⟩
        replace hk := hk.ext E8
        replace hM := hM.ext E8
        replace hown := hown.ext E8
        replace hout := hout.ext E8
        replace hso := hso.ext E8
        replace KK := KK.ext E8
        replace KL := KL.ext E8
        have hszK := KK.size
        refine st rfl rfl rfl (ex_append Tryd.underlying32 z25.1 rfl (by decide) rfl rfl rfl hout (Rd.of_blk (size := 1) hb8 rfl) (by simp [slv, Value.oneCell']) (by simp only; omega) (by simp only; omega) (by omega)) ?_
        rintro _ w13 ⟨O1, dd1, rfl, hout1, K6, hO1⟩
        have hk2 := hk.keep K6 (fun o e => hout.ne_blk hk (by decide) k o e rfl)
        replace hM := hM.keep K6 (fun o e => hout.ne_blk hM.1 (by decide) m o e rfl) (fun o e => by obtain ⟨cs2, h2⟩ := hM.roll; exact hout.ne_blk h2 (by decide) r o e rfl) (fun g _ hg o e => hout.ne_blk hg (by decide) g o e rfl)
        replace hown := hown.keepT K6 (fun g cs _ hg o e => hout.ne_blk hg (by decide) g o e rfl)
        replace hso := hso.keepB K6 (fun g cs _ hg o e => hout.ne_blk hg (by decide) g o e rfl)
        replace KK := KK.trans K6 (fun j hj _ => hout.fresh hj)
        replace KL := KL.trans K6 (fun _ _ h => h.elim)
        clear hk hout
        have hout := hout1
        clear hout1
        refine sv rfl rfl rfl (ex_assign rfl rfl) ?_
        refine w_nil (qe_next ?_)
        refine w_region ?_
        refine sv rfl rfl rfl (ex_move rfl rfl) ?_
        refine sv rfl rfl rfl (ex_nil rfl rfl) ?_
        refine sv rfl rfl rfl (ex_fieldAddr fld69_1 rfl rfl) ?_
        refine st0 rfl rfl (ex_store_blk sz25 rfl rfl rfl rfl hk2 (by simp)) ?_
        rintro _ w14 ⟨K9, hk, hs9⟩
        replace hM := hM.keep K9 hkm.symm hkr.symm (fun g _ hg => hg.ne hk2 (by decide))
        replace hown := hown.keepT K9 (fun g cs _ hg => hg.ne hk2 (by decide))
        replace hout := hout.keepT K9 (fun g cs _ hg => hg.ne hk2 (by decide))
        replace hso := hso.keepB K9 (fun g cs _ hg => hg.ne hk2 (by decide))
        replace KK := KK.trans K9 (fun j _ hj => hj.1)
        replace KL := KL.trans K9 (fun _ _ h => h.elim)
        clear hk2
        have hszZ := KL.size
        refine w_nil (qe_in_normal (qe_next ?_))
        refine w_region ?_
        refine sv rfl rfl rfl (ex_add rfl rfl rfl (i64_in (by omega) (by omega))) ?_
        refine sv rfl rfl rfl (ex_move rfl rfl) ?_
        refine w_nil (qe_round ((i + 1, no + 1, O1, dd1)) ⟨rfl, rfl, rfl, rfl, rfl, trivial⟩ ?_ ?_)
        · exact ⟨by simp only; omega, dn ++ [h ++ [xs.getD i 0]], [], sl ++ [(B1, h.length + 1, d1)], none, 0, _, fed_yes hfe (by first | exact .inl hpr | exact .inr (by rw [List.length_append, List.length_singleton]; omega)), by simp only [List.length_append, List.length_singleton]; omega, ⟨hk, hM, Own.nil _ _ _ _, hGk, Nat.le_refl _⟩, by simp only; rw [List.map_append]; exact hout, hso.snoc (by simp) (hown.lower hll), (fun s hs g o e => by
            rcases List.mem_append.1 hs with hs | hs
            · have := hap s hs g o e; omega
            · rw [List.mem_singleton.1 hs] at e; exact (hown.lt e).2), by omega, .inr (fun g o e => by cases e), KK⟩
        · simp only; omega
    · skip
      replace hi2 : i = xs.length := by simp only at hi2; omega
      subst hi2
      subst hno
      refine w_exit (qe_then_exit (qe_then_exit (qe_in_exit (qe_next ?_))))
      refine w_seq ?_
      refine w_region ?_
      refine sv rfl rfl rfl (ex_move rfl rfl) ?_
      refine sv rfl rfl rfl (ex_assign rfl rfl) ?_
      refine w_nil (qe_next ?_)
      refine w_ret (qe_ret1 rfl rfl ?_)
      rw [List.take_of_length_le (by rw [List.length_append]; exact Nat.le_refl _)] at hM
      rw [hfe]
      exact ⟨O, dn.length, dd, sl, B, d', lo', rfl, rfl, ⟨hk, hM, hown, hGk, hlo'⟩, hout, hso, hap, hll, hB, KK⟩
end Go.Proofs.YtfgpcmphcnhbiaaDoor

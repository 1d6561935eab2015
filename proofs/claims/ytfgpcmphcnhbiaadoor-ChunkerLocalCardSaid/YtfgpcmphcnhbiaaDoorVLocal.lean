/- The law ChunkerLocal, walked. -/
import Derived.Test.YtfgpcmphcnhbiaaDoorP5
namespace Go.Proofs.YtfgpcmphcnhbiaaDoor
open Go Go.RowKit
set_option linter.unusedVariables false
set_option linter.unusedSimpArgs false
/-- kinkeep/kinkeeplaw16.ChunkerLocal -/
theorem local_bad1 (c0 : Cut) (A1 : Option Addr) (c1 lo1 hi1 : Nat) (bs1 : List UInt8) (m : Int) (A2 : Option Addr) (c2 lo2 hi2 : Nat) (bs2 : List UInt8) (w : World) (hr1 : Rd w lo1 hi1 1 A1 bs1.length (bcells bs1)) (hhi1 : hi1 ≤ w.heap.size) (hmc1 : bs1.length ≤ c1) (hr2 : Rd w lo2 hi2 1 A2 bs2.length (bcells bs2)) (hhi2 : hi2 ≤ w.heap.size) (h : ¬ c0.ok) (hT : TabAt w) :
    Ret Tryd.prog 8 [c0.val, .slice A1 bs1.length c1, .int .i64 m, .slice A2 bs2.length c2] w fun v w' => v = .bool true ∧ Ext w w' := by
  have K0 : Ext w w := Keep.refl _ _
  refine ret_of Tryd.func8 rfl rfl ?_
  refine w_seq ?_
  refine w_region ?_
  refine st rfl rfl rfl (ex_box (cs := c0.cells) rfl rfl rfl) ?_
  rintro _ w1 ⟨b1, rfl, hb0, E0, hb, hs0⟩
  replace K0 := K0.ext E0
  refine sv rfl rfl rfl (ex_assign rfl rfl) ?_
  refine w_nil (qe_next ?_)
  refine w_seq ?_
  refine w_seq ?_
  refine w_region ?_
  refine sv rfl rfl rfl (ex_load_agg (cs := c0.cells) agg24 rfl rfl (by intro j u hu; rw [Nat.zero_add]; exact hb.cell hu)) ?_
  refine st rfl rfl rfl (ex_call call19 rfl rfl ((refValid_c c0 _).mono (R' := fun v w' => v = .bool false ∧ Ext _ w') fun v w' h' => ⟨by rw [h'.1, decide_eq_false (h)], h'.2⟩)) ?_
  rintro _ w2 ⟨rfl, E1⟩
  replace K0 := K0.ext E1
  replace hb := hb.ext E1
  refine sv rfl rfl rfl (ex_not rfl rfl) ?_
  refine sv rfl rfl rfl (ex_move rfl rfl) ?_
  first | refine sk rfl rfl rfl ?_ | refine sv rfl rfl rfl (ex_move rfl rfl) ?_
  first | refine sk rfl rfl rfl ?_ | refine sv rfl rfl rfl (ex_move rfl rfl) ?_
  refine sk rfl rfl rfl ?_
  refine sk rfl rfl rfl ?_
  refine sk rfl rfl rfl ?_
  first | refine sv rfl rfl rfl (ex_pick_t rfl rfl rfl) ?_ | refine sv rfl rfl rfl (ex_pick_f rfl rfl rfl) ?_
  refine sv rfl rfl rfl (ex_move rfl rfl) ?_
  first | refine sk rfl rfl rfl ?_ | refine sv rfl rfl rfl (ex_move rfl rfl) ?_
  refine sk rfl rfl rfl ?_
  refine sk rfl rfl rfl ?_
  first | refine sv rfl rfl rfl (ex_pick_t rfl rfl rfl) ?_ | refine sv rfl rfl rfl (ex_pick_f rfl rfl rfl) ?_
  refine sv rfl rfl rfl (ex_move rfl rfl) ?_
  first | refine sk rfl rfl rfl ?_ | refine sv rfl rfl rfl (ex_move rfl rfl) ?_
  refine sk rfl rfl rfl ?_
  first | refine sv rfl rfl rfl (ex_pick_t rfl rfl rfl) ?_ | refine sv rfl rfl rfl (ex_pick_f rfl rfl rfl) ?_
  refine sv rfl rfl rfl (ex_move rfl rfl) ?_
  first | refine sk rfl rfl rfl ?_ | refine sv rfl rfl rfl (ex_move rfl rfl) ?_
  first | refine sk rfl rfl rfl ?_ | refine sv rfl rfl rfl (ex_move rfl rfl) ?_
  refine sk rfl rfl rfl ?_
  first | refine sk rfl rfl rfl ?_ | refine sv rfl rfl rfl (ex_move rfl rfl) ?_
  refine sk rfl rfl rfl ?_
  refine sk rfl rfl rfl ?_
  refine sk rfl rfl rfl ?_
  first | refine sv rfl rfl rfl (ex_pick_t rfl rfl rfl) ?_ | refine sv rfl rfl rfl (ex_pick_f rfl rfl rfl) ?_
  refine w_nil (qe_next ?_)
  refine w_cond_t rfl ?_
  refine w_seq ?_
  refine w_region ?_
  refine st rfl rfl rfl (ex_call call16 rfl rfl (awake16_c _ (hT.ext K0))) ?_
  rintro _ w3 ⟨rfl, E9⟩
  replace K0 := K0.ext E9
  replace hb := hb.ext E9
  refine sv rfl rfl rfl (ex_assign rfl rfl) ?_
  refine w_nil (qe_next ?_)
  refine w_ret (qe_then_ret (qe_ret1 rfl rfl ?_))
  exact ⟨rfl, K0⟩
/-- kinkeep/kinkeeplaw16.ChunkerLocal -/
theorem local_bad2 (c0 : Cut) (A1 : Option Addr) (c1 lo1 hi1 : Nat) (bs1 : List UInt8) (m : Int) (A2 : Option Addr) (c2 lo2 hi2 : Nat) (bs2 : List UInt8) (w : World) (hr1 : Rd w lo1 hi1 1 A1 bs1.length (bcells bs1)) (hhi1 : hi1 ≤ w.heap.size) (hmc1 : bs1.length ≤ c1) (hr2 : Rd w lo2 hi2 1 A2 bs2.length (bcells bs2)) (hhi2 : hi2 ≤ w.heap.size) (h : c0.ok) (h3 : ¬ (bs1.length ≤ 300 ∧ bs2.length ≤ 300)) (hT : TabAt w) :
    Ret Tryd.prog 8 [c0.val, .slice A1 bs1.length c1, .int .i64 m, .slice A2 bs2.length c2] w fun v w' => v = .bool true ∧ Ext w w' := by
  have K0 : Ext w w := Keep.refl _ _
  refine ret_of Tryd.func8 rfl rfl ?_
  refine w_seq ?_
  refine w_region ?_
  refine st rfl rfl rfl (ex_box (cs := c0.cells) rfl rfl rfl) ?_
  rintro _ w1 ⟨b1, rfl, hb0, E0, hb, hs0⟩
  replace K0 := K0.ext E0
  refine sv rfl rfl rfl (ex_assign rfl rfl) ?_
  refine w_nil (qe_next ?_)
  refine w_seq ?_
  refine w_seq ?_
  refine w_region ?_
  refine sv rfl rfl rfl (ex_load_agg (cs := c0.cells) agg24 rfl rfl (by intro j u hu; rw [Nat.zero_add]; exact hb.cell hu)) ?_
  refine st rfl rfl rfl (ex_call call19 rfl rfl ((refValid_c c0 _).mono (R' := fun v w' => v = .bool true ∧ Ext _ w') fun v w' h' => ⟨by rw [h'.1, decide_eq_true (h)], h'.2⟩)) ?_
  rintro _ w2 ⟨rfl, E1⟩
  replace K0 := K0.ext E1
  replace hb := hb.ext E1
  refine sv rfl rfl rfl (ex_not rfl rfl) ?_
  refine sv rfl rfl rfl (ex_move rfl rfl) ?_
  first | refine sk rfl rfl rfl ?_ | refine sv rfl rfl rfl (ex_move rfl rfl) ?_
  first | refine sk rfl rfl rfl ?_ | refine sv rfl rfl rfl (ex_move rfl rfl) ?_
  refine st rfl rfl rfl (ex_buildSlice (cs := [slv (A1, bs1.length, c1), slv (A2, bs2.length, c2)]) rfl rfl (build_bs2 (A1, bs1.length, c1) (A2, bs2.length, c2))) ?_
  rintro _ w3 ⟨g, rfl, hg0, E3, hb7, hs7⟩
  replace K0 := K0.ext E3
  replace hb := hb.ext E3
  refine st rfl rfl rfl (ex_call call15 rfl rfl ((few_c (some ⟨g, 0, none⟩) 2 2 _ _ [(A1, bs1.length, c1), (A2, bs2.length, c2)] _ rfl (by decide) (Rd.of_blk (size := 1) hb7 rfl)).mono (R' := fun v w' => v = .bool false ∧ w' = _) fun v w' h' => ⟨by rw [h'.1, decide_eq_false (fun hh => h3 ⟨hh (A1, bs1.length, c1) (by simp), hh (A2, bs2.length, c2) (by simp)⟩)], h'.2⟩)) ?_
  rintro _ w4 ⟨rfl, hwe⟩
  obtain rfl := hwe.symm
  first | refine sk rfl rfl rfl ?_ | refine sv rfl rfl rfl (ex_not rfl rfl) ?_
  first | refine sv rfl rfl rfl (ex_pick_t rfl rfl rfl) ?_ | refine sv rfl rfl rfl (ex_pick_f rfl rfl rfl) ?_
  refine sv rfl rfl rfl (ex_move rfl rfl) ?_
  first | refine sk rfl rfl rfl ?_ | refine sv rfl rfl rfl (ex_move rfl rfl) ?_
  refine sk rfl rfl rfl ?_
  refine sk rfl rfl rfl ?_
  first | refine sv rfl rfl rfl (ex_pick_t rfl rfl rfl) ?_ | refine sv rfl rfl rfl (ex_pick_f rfl rfl rfl) ?_
  refine sv rfl rfl rfl (ex_move rfl rfl) ?_
  first | refine sk rfl rfl rfl ?_ | refine sv rfl rfl rfl (ex_move rfl rfl) ?_
  refine sk rfl rfl rfl ?_
  first | refine sv rfl rfl rfl (ex_pick_t rfl rfl rfl) ?_ | refine sv rfl rfl rfl (ex_pick_f rfl rfl rfl) ?_
  refine sv rfl rfl rfl (ex_move rfl rfl) ?_
  first | refine sk rfl rfl rfl ?_ | refine sv rfl rfl rfl (ex_move rfl rfl) ?_
  first | refine sk rfl rfl rfl ?_ | refine sv rfl rfl rfl (ex_move rfl rfl) ?_
  refine sk rfl rfl rfl ?_
  first | refine sk rfl rfl rfl ?_ | refine sv rfl rfl rfl (ex_move rfl rfl) ?_
  refine sk rfl rfl rfl ?_
  refine sk rfl rfl rfl ?_
  refine sk rfl rfl rfl ?_
  first | refine sv rfl rfl rfl (ex_pick_t rfl rfl rfl) ?_ | refine sv rfl rfl rfl (ex_pick_f rfl rfl rfl) ?_
  refine w_nil (qe_next ?_)
  refine w_cond_t rfl ?_
  refine w_seq ?_
  refine w_region ?_
  refine st rfl rfl rfl (ex_call call16 rfl rfl (awake16_c _ (hT.ext K0))) ?_
  rintro _ w5 ⟨rfl, E9⟩
  replace K0 := K0.ext E9
  replace hb := hb.ext E9
  refine sv rfl rfl rfl (ex_assign rfl rfl) ?_
  refine w_nil (qe_next ?_)
  refine w_ret (qe_then_ret (qe_ret1 rfl rfl ?_))
  exact ⟨rfl, K0⟩
/-- kinkeep/kinkeeplaw16.ChunkerLocal -/
theorem local_bad3 (c0 : Cut) (A1 : Option Addr) (c1 lo1 hi1 : Nat) (bs1 : List UInt8) (m : Int) (A2 : Option Addr) (c2 lo2 hi2 : Nat) (bs2 : List UInt8) (w : World) (hr1 : Rd w lo1 hi1 1 A1 bs1.length (bcells bs1)) (hhi1 : hi1 ≤ w.heap.size) (hmc1 : bs1.length ≤ c1) (hr2 : Rd w lo2 hi2 1 A2 bs2.length (bcells bs2)) (hhi2 : hi2 ≤ w.heap.size) (h : c0.ok) (h3 : bs1.length ≤ 300 ∧ bs2.length ≤ 300) (h4 : ¬ (bs2.length ≠ 0 ∧ 0 ≤ m ∧ m + bs2.length ≤ bs1.length)) (hT : TabAt w) :
    Ret Tryd.prog 8 [c0.val, .slice A1 bs1.length c1, .int .i64 m, .slice A2 bs2.length c2] w fun v w' => v = .bool true ∧ Ext w w' := by
  have K0 : Ext w w := Keep.refl _ _
  refine ret_of Tryd.func8 rfl rfl ?_
  refine w_seq ?_
  refine w_region ?_
  refine st rfl rfl rfl (ex_box (cs := c0.cells) rfl rfl rfl) ?_
  rintro _ w1 ⟨b1, rfl, hb0, E0, hb, hs0⟩
  replace K0 := K0.ext E0
  refine sv rfl rfl rfl (ex_assign rfl rfl) ?_
  refine w_nil (qe_next ?_)
  refine w_seq ?_
  refine w_seq ?_
  refine w_region ?_
  refine sv rfl rfl rfl (ex_load_agg (cs := c0.cells) agg24 rfl rfl (by intro j u hu; rw [Nat.zero_add]; exact hb.cell hu)) ?_
  refine st rfl rfl rfl (ex_call call19 rfl rfl ((refValid_c c0 _).mono (R' := fun v w' => v = .bool true ∧ Ext _ w') fun v w' h' => ⟨by rw [h'.1, decide_eq_true (h)], h'.2⟩)) ?_
  rintro _ w2 ⟨rfl, E1⟩
  replace K0 := K0.ext E1
  replace hb := hb.ext E1
  refine sv rfl rfl rfl (ex_not rfl rfl) ?_
  refine sv rfl rfl rfl (ex_move rfl rfl) ?_
  first | refine sk rfl rfl rfl ?_ | refine sv rfl rfl rfl (ex_move rfl rfl) ?_
  first | refine sk rfl rfl rfl ?_ | refine sv rfl rfl rfl (ex_move rfl rfl) ?_
  refine st rfl rfl rfl (ex_buildSlice (cs := [slv (A1, bs1.length, c1), slv (A2, bs2.length, c2)]) rfl rfl (build_bs2 (A1, bs1.length, c1) (A2, bs2.length, c2))) ?_
  rintro _ w3 ⟨g, rfl, hg0, E3, hb7, hs7⟩
  replace K0 := K0.ext E3
  replace hb := hb.ext E3
  refine st rfl rfl rfl (ex_call call15 rfl rfl ((few_c (some ⟨g, 0, none⟩) 2 2 _ _ [(A1, bs1.length, c1), (A2, bs2.length, c2)] _ rfl (by decide) (Rd.of_blk (size := 1) hb7 rfl)).mono (R' := fun v w' => v = .bool true ∧ w' = _) fun v w' h' => ⟨by rw [h'.1, decide_eq_true (by intro x hx; simp at hx; rcases hx with rfl | rfl <;> simp only <;> omega)], h'.2⟩)) ?_
  rintro _ w4 ⟨rfl, hwe⟩
  obtain rfl := hwe.symm
  first | refine sk rfl rfl rfl ?_ | refine sv rfl rfl rfl (ex_not rfl rfl) ?_
  first | refine sv rfl rfl rfl (ex_pick_t rfl rfl rfl) ?_ | refine sv rfl rfl rfl (ex_pick_f rfl rfl rfl) ?_
  refine sv rfl rfl rfl (ex_move rfl rfl) ?_
  first | refine sk rfl rfl rfl ?_ | refine sv rfl rfl rfl (ex_move rfl rfl) ?_
  first | refine sk rfl rfl rfl ?_ | refine sv rfl rfl rfl (ex_len Tryd.underlying25 rfl rfl) ?_
  refine sv_if rfl rfl rfl (ex_cmp rfl rfl rfl rfl) (fun ha => ?_) (fun ha => ?_)
  · skip
    first | refine sv rfl rfl rfl (ex_pick_t rfl rfl rfl) ?_ | refine sv rfl rfl rfl (ex_pick_f rfl rfl rfl) ?_
    refine sv rfl rfl rfl (ex_move rfl rfl) ?_
    first | refine sk rfl rfl rfl ?_ | refine sv rfl rfl rfl (ex_move rfl rfl) ?_
    refine sk rfl rfl rfl ?_
    first | refine sv rfl rfl rfl (ex_pick_t rfl rfl rfl) ?_ | refine sv rfl rfl rfl (ex_pick_f rfl rfl rfl) ?_
    refine sv rfl rfl rfl (ex_move rfl rfl) ?_
    first | refine sk rfl rfl rfl ?_ | refine sv rfl rfl rfl (ex_move rfl rfl) ?_
    first | refine sk rfl rfl rfl ?_ | refine sv rfl rfl rfl (ex_move rfl rfl) ?_
    refine sk rfl rfl rfl ?_
    first | refine sk rfl rfl rfl ?_ | refine sv rfl rfl rfl (ex_move rfl rfl) ?_
    refine sk rfl rfl rfl ?_
    refine sk rfl rfl rfl ?_
    refine sk rfl rfl rfl ?_
    first | refine sv rfl rfl rfl (ex_pick_t rfl rfl rfl) ?_ | refine sv rfl rfl rfl (ex_pick_f rfl rfl rfl) ?_
    refine w_nil (qe_next ?_)
    refine w_cond_t rfl ?_
    refine w_seq ?_
    refine w_region ?_
    refine st rfl rfl rfl (ex_call call16 rfl rfl (awake16_c _ (hT.ext K0))) ?_
    rintro _ w5 ⟨rfl, E9⟩
    replace K0 := K0.ext E9
    replace hb := hb.ext E9
    refine sv rfl rfl rfl (ex_assign rfl rfl) ?_
    refine w_nil (qe_next ?_)
    refine w_ret (qe_then_ret (qe_ret1 rfl rfl ?_))
    exact ⟨rfl, K0⟩
  · skip
    first | refine sv rfl rfl rfl (ex_pick_t rfl rfl rfl) ?_ | refine sv rfl rfl rfl (ex_pick_f rfl rfl rfl) ?_
    refine sv rfl rfl rfl (ex_move rfl rfl) ?_
    first | refine sk rfl rfl rfl ?_ | refine sv rfl rfl rfl (ex_move rfl rfl) ?_
    refine sv_if rfl rfl rfl (ex_cmp rfl rfl rfl rfl) (fun hb1 => ?_) (fun hb1 => ?_)
    · skip
      first | refine sv rfl rfl rfl (ex_pick_t rfl rfl rfl) ?_ | refine sv rfl rfl rfl (ex_pick_f rfl rfl rfl) ?_
      refine sv rfl rfl rfl (ex_move rfl rfl) ?_
      first | refine sk rfl rfl rfl ?_ | refine sv rfl rfl rfl (ex_move rfl rfl) ?_
      first | refine sk rfl rfl rfl ?_ | refine sv rfl rfl rfl (ex_move rfl rfl) ?_
      refine sk rfl rfl rfl ?_
      first | refine sk rfl rfl rfl ?_ | refine sv rfl rfl rfl (ex_move rfl rfl) ?_
      refine sk rfl rfl rfl ?_
      refine sk rfl rfl rfl ?_
      refine sk rfl rfl rfl ?_
      first | refine sv rfl rfl rfl (ex_pick_t rfl rfl rfl) ?_ | refine sv rfl rfl rfl (ex_pick_f rfl rfl rfl) ?_
      refine w_nil (qe_next ?_)
      refine w_cond_t rfl ?_
      refine w_seq ?_
      refine w_region ?_
      refine st rfl rfl rfl (ex_call call16 rfl rfl (awake16_c _ (hT.ext K0))) ?_
      rintro _ w6 ⟨rfl, E9⟩
      replace K0 := K0.ext E9
      replace hb := hb.ext E9
      refine sv rfl rfl rfl (ex_assign rfl rfl) ?_
      refine w_nil (qe_next ?_)
      refine w_ret (qe_then_ret (qe_ret1 rfl rfl ?_))
      exact ⟨rfl, K0⟩
    · skip
      first | refine sv rfl rfl rfl (ex_pick_t rfl rfl rfl) ?_ | refine sv rfl rfl rfl (ex_pick_f rfl rfl rfl) ?_
      refine sv rfl rfl rfl (ex_move rfl rfl) ?_
      first | refine sk rfl rfl rfl ?_ | refine sv rfl rfl rfl (ex_move rfl rfl) ?_
      first | refine sk rfl rfl rfl ?_ | refine sv rfl rfl rfl (ex_move rfl rfl) ?_
      first | refine sk rfl rfl rfl ?_ | refine sv rfl rfl rfl (ex_len Tryd.underlying25 rfl rfl) ?_
      first | refine sk rfl rfl rfl ?_ | refine sv rfl rfl rfl (ex_move rfl rfl) ?_
      first | refine sk rfl rfl rfl ?_ | refine sv rfl rfl rfl (ex_len Tryd.underlying25 rfl rfl) ?_
      first | refine sk rfl rfl rfl ?_ | refine sv rfl rfl rfl (ex_sub rfl rfl rfl (i64_in (by omega) (by omega))) ?_
      first | refine sk rfl rfl rfl ?_ | refine sv rfl rfl rfl (ex_cmp rfl rfl rfl (congrArg some (decide_eq_true (by omega)))) ?_
      first | refine sv rfl rfl rfl (ex_pick_t rfl rfl rfl) ?_ | refine sv rfl rfl rfl (ex_pick_f rfl rfl rfl) ?_
      refine w_nil (qe_next ?_)
      refine w_cond_t rfl ?_
      refine w_seq ?_
      refine w_region ?_
      refine st rfl rfl rfl (ex_call call16 rfl rfl (awake16_c _ (hT.ext K0))) ?_
      rintro _ w7 ⟨rfl, E9⟩
      replace K0 := K0.ext E9
      replace hb := hb.ext E9
      refine sv rfl rfl rfl (ex_assign rfl rfl) ?_
      refine w_nil (qe_next ?_)
      refine w_ret (qe_then_ret (qe_ret1 rfl rfl ?_))
      exact ⟨rfl, K0⟩
/-- kinkeep/kinkeeplaw16.ChunkerLocal -/
theorem local_good (q : Vut) (A1 : Option Addr) (c1 lo1 hi1 : Nat) (bs1 : List UInt8) (n : Nat) (A2 : Option Addr) (c2 lo2 hi2 : Nat) (bs2 : List UInt8) (w : World) (hr1 : Rd w lo1 hi1 1 A1 bs1.length (bcells bs1)) (hhi1 : hi1 ≤ w.heap.size) (hmc1 : bs1.length ≤ c1) (hr2 : Rd w lo2 hi2 1 A2 bs2.length (bcells bs2)) (hhi2 : hi2 ≤ w.heap.size) (h3 : bs1.length ≤ 300 ∧ bs2.length ≤ 300) (h4 : bs2.length ≠ 0) (h5 : n + bs2.length ≤ bs1.length) (hT : TabAt w) :
    Ret Tryd.prog 8 [q.cut.val, .slice A1 bs1.length c1, .int .i64 (n : Int), .slice A2 bs2.length c2] w fun v w' => v = .bool true ∧ Ext w w' := by
  have K0 : Ext w w := Keep.refl _ _
  obtain ⟨h31, h32⟩ := h3
  have hq0 : q.cut.mn = (q.mn : Int) := rfl
  have hq1 : q.cut.mx = (q.mx : Int) := rfl
  have hq2 : q.cut.wi = (q.wi : Int) := rfl
  have hq3 : q.cut.bi = (q.bi : Int) := rfl
  have hv1 := q.h1
  have hv2 := q.h2
  have hv3 := q.h3
  have hv4 := q.h4
  have hv5 := q.h5
  have hv6 := q.h6
  refine ret_of Tryd.func8 rfl rfl ?_
  refine w_seq ?_
  refine w_region ?_
  refine st rfl rfl rfl (ex_box (cs := q.cut.cells) rfl rfl rfl) ?_
  rintro _ w1 ⟨b1, rfl, hb0, E0, hb, hs0⟩
  replace K0 := K0.ext E0
  refine sv rfl rfl rfl (ex_assign rfl rfl) ?_
  refine w_nil (qe_next ?_)
  refine w_seq ?_
  refine w_seq ?_
  refine w_region ?_
  refine sv rfl rfl rfl (ex_load_agg (cs := q.cut.cells) agg24 rfl rfl (by intro j u hu; rw [Nat.zero_add]; exact hb.cell hu)) ?_
  refine st rfl rfl rfl (ex_call call19 rfl rfl ((refValid_c q.cut _).mono (R' := fun v w' => v = .bool true ∧ Ext _ w') fun v w' h' => ⟨by rw [h'.1, decide_eq_true (q.ok)], h'.2⟩)) ?_
  rintro _ w2 ⟨rfl, E1⟩
  replace K0 := K0.ext E1
  replace hb := hb.ext E1
  refine sv rfl rfl rfl (ex_not rfl rfl) ?_
  refine sv rfl rfl rfl (ex_move rfl rfl) ?_
  first | refine sk rfl rfl rfl ?_ | refine sv rfl rfl rfl (ex_move rfl rfl) ?_
  first | refine sk rfl rfl rfl ?_ | refine sv rfl rfl rfl (ex_move rfl rfl) ?_
  refine st rfl rfl rfl (ex_buildSlice (cs := [slv (A1, bs1.length, c1), slv (A2, bs2.length, c2)]) rfl rfl (build_bs2 (A1, bs1.length, c1) (A2, bs2.length, c2))) ?_
  rintro _ w3 ⟨g, rfl, hg0, E3, hb7, hs7⟩
  replace K0 := K0.ext E3
  replace hb := hb.ext E3
  refine st rfl rfl rfl (ex_call call15 rfl rfl ((few_c (some ⟨g, 0, none⟩) 2 2 _ _ [(A1, bs1.length, c1), (A2, bs2.length, c2)] _ rfl (by decide) (Rd.of_blk (size := 1) hb7 rfl)).mono (R' := fun v w' => v = .bool true ∧ w' = _) fun v w' h' => ⟨by rw [h'.1, decide_eq_true (by intro x hx; simp at hx; rcases hx with rfl | rfl <;> simp only <;> omega)], h'.2⟩)) ?_
  rintro _ w4 ⟨rfl, hwe⟩
  obtain rfl := hwe.symm
  first | refine sk rfl rfl rfl ?_ | refine sv rfl rfl rfl (ex_not rfl rfl) ?_
  first | refine sv rfl rfl rfl (ex_pick_t rfl rfl rfl) ?_ | refine sv rfl rfl rfl (ex_pick_f rfl rfl rfl) ?_
  refine sv rfl rfl rfl (ex_move rfl rfl) ?_
  first | refine sk rfl rfl rfl ?_ | refine sv rfl rfl rfl (ex_move rfl rfl) ?_
  first | refine sk rfl rfl rfl ?_ | refine sv rfl rfl rfl (ex_len Tryd.underlying25 rfl rfl) ?_
  first | refine sk rfl rfl rfl ?_ | refine sv rfl rfl rfl (ex_cmp rfl rfl rfl (congrArg some (decide_eq_false (by omega)))) ?_
  first | refine sv rfl rfl rfl (ex_pick_t rfl rfl rfl) ?_ | refine sv rfl rfl rfl (ex_pick_f rfl rfl rfl) ?_
  refine sv rfl rfl rfl (ex_move rfl rfl) ?_
  first | refine sk rfl rfl rfl ?_ | refine sv rfl rfl rfl (ex_move rfl rfl) ?_
  first | refine sk rfl rfl rfl ?_ | refine sv rfl rfl rfl (ex_cmp rfl rfl rfl (congrArg some (decide_eq_false (by omega)))) ?_
  first | refine sv rfl rfl rfl (ex_pick_t rfl rfl rfl) ?_ | refine sv rfl rfl rfl (ex_pick_f rfl rfl rfl) ?_
  refine sv rfl rfl rfl (ex_move rfl rfl) ?_
  first | refine sk rfl rfl rfl ?_ | refine sv rfl rfl rfl (ex_move rfl rfl) ?_
  first | refine sk rfl rfl rfl ?_ | refine sv rfl rfl rfl (ex_move rfl rfl) ?_
  first | refine sk rfl rfl rfl ?_ | refine sv rfl rfl rfl (ex_len Tryd.underlying25 rfl rfl) ?_
  first | refine sk rfl rfl rfl ?_ | refine sv rfl rfl rfl (ex_move rfl rfl) ?_
  first | refine sk rfl rfl rfl ?_ | refine sv rfl rfl rfl (ex_len Tryd.underlying25 rfl rfl) ?_
  first | refine sk rfl rfl rfl ?_ | refine sv rfl rfl rfl (ex_sub rfl rfl rfl (i64_in (by omega) (by omega))) ?_
  first | refine sk rfl rfl rfl ?_ | refine sv rfl rfl rfl (ex_cmp rfl rfl rfl (congrArg some (decide_eq_false (by omega)))) ?_
  first | refine sv rfl rfl rfl (ex_pick_t rfl rfl rfl) ?_ | refine sv rfl rfl rfl (ex_pick_f rfl rfl rfl) ?_
  refine w_nil (qe_next ?_)
  refine w_cond_f rfl ?_
  refine w_skip (qe_next ?_)
  refine w_seq ?_
  refine w_region ?_
  refine sv rfl rfl rfl (ex_move rfl rfl) ?_
  refine sv rfl rfl rfl (ex_move rfl rfl) ?_
  refine sv rfl rfl rfl (ex_len Tryd.underlying25 rfl rfl) ?_
  refine sv rfl rfl rfl (ex_add rfl rfl rfl (i64_in (by omega) (by omega))) ?_
  refine sv rfl rfl rfl (ex_assign rfl rfl) ?_
  refine w_nil (qe_next ?_)
  refine w_seq ?_
  refine w_draw mixed (fun w5 _ Ew5 => ?_)
  replace K0 := K0.ext Ew5
  replace hb := hb.ext Ew5
  have hcut1 := (hr1.ext K0).cut (l := 0) (hh := n) (m := c1) (Nat.zero_le _) (by omega) hmc1
  rw [show List.take ((n - 0) * 1) (List.drop (0 * 1) (bcells bs1)) = bcells (bs1.take n) from by simp [bcells]] at hcut1
  have hszW := K0.size
  refine wd_chain 10 _ (fun _ => True) (trivial) rfl rfl rfl rfl ?_
  refine cfst (fun v' w' => ∃ g, v' = .slice (some ⟨g, 0, none⟩) 0 0 ∧ Own w' w5.heap.size 5 1 (some ⟨g, 0, none⟩) 0 0 (List.take (0 * 1) ([] : List Value)) ∧ Ext w5 w') [] [] rfl rfl rfl rfl rfl ((ex_buildSlice (cs := []) rfl rfl build_none).mono fun v' w'' ⟨g, h1, hg, hE, hb, hs⟩ => ⟨g, h1, Own.of_blk (lo := w5.heap.size) (n := 0) (c := 0) (size := 1) hb (by omega) (by omega) (by decide) (by simp), hE⟩) (fun _ _ _ => trivial) ?_
  refine cpur [1] [] rfl rfl rfl rfl rfl (fun w' hR => ex_move rfl rfl) ?_
  refine cpur [2] [] rfl rfl rfl rfl rfl (fun w' hR => ex_move rfl rfl) ?_
  refine cpur [] [1, 2] rfl rfl rfl rfl rfl (fun w' hR => ex_slice Tryd.underlying25 sz5 0 n rfl rfl (.inl ⟨rfl, rfl⟩) (.inr ⟨_, _, _, rfl, rfl, rfl⟩) (Nat.zero_le _) (by omega)) ?_
  refine cnxt (fun v' w' => ∃ B d, v' = .slice B (0 + (n - 0)) d ∧ Own w' w5.heap.size 5 1 B (0 + (n - 0)) d (bcells (bs1.take n)) ∧ Ext w5 w') [] [3] rfl rfl rfl rfl rfl (fun _ => rfl) (fun v w' ⟨g, hv, ho, hE⟩ => by subst hv; have hz := hE.size; exact (ex_append Tryd.underlying25 z5.1 rfl (by decide) rfl rfl rfl ho (hcut1.ext hE) (bcells_one _) (by omega) (by omega) (by omega)).mono fun v' w'' ⟨B, d, h1, h2, h3, h4⟩ => ⟨B, d, h1, by simpa using h2, hE.trans h3 (fun j hj _ => ho.fresh hj)⟩) (fun _ _ _ => trivial) ?_
  refine cpur [3] [] rfl rfl rfl rfl rfl (fun w' hR => ex_move rfl rfl) ?_
  refine cnxt (fun v' w' => ∃ B d, v' = .slice B (0 + (n - 0) + bs2.length) d ∧ Own w' w5.heap.size 5 1 B (0 + (n - 0) + bs2.length) d (bcells (bs1.take n) ++ bcells bs2) ∧ Ext w5 w') [] [5] rfl rfl rfl rfl rfl (fun _ => rfl) (fun v w' ⟨B, d, hv, ho, hE⟩ => by subst hv; have hz := hE.size; exact (ex_append Tryd.underlying25 z5.1 rfl (by decide) rfl rfl rfl ho ((hr2.ext K0).ext hE) (bcells_one _) (by omega) (by omega) (by omega)).mono fun v' w'' ⟨B, d, h1, h2, h3, h4⟩ => ⟨B, d, h1, h2, hE.trans h3 (fun j hj _ => ho.fresh hj)⟩) (fun _ _ _ => trivial) ?_
  refine cpur [1] [] rfl rfl rfl rfl rfl (fun w' hR => ex_move rfl rfl) ?_
  refine cpur [9] [] rfl rfl rfl rfl rfl (fun w' hR => ex_move rfl rfl) ?_
  refine cpur [] [7, 8] rfl rfl rfl rfl rfl (fun w' hR => ex_slice Tryd.underlying25 sz5 (n + bs2.length) bs1.length rfl rfl (.inr ⟨_, _, _, rfl, rfl, by omega⟩) (.inl ⟨rfl, rfl⟩) (by omega) (by omega)) ?_
  refine .nil ⟨rfl, rfl, ?_⟩
  rintro _ w6 ⟨B, dB, rfl, ho, hE⟩
  replace K0 := K0.ext hE
  replace hb := hb.ext hE
  show Wd _ _ _ _ _ _ _ _
  have hcut2 := (hr1.ext K0).cut (l := n + bs2.length) (hh := bs1.length) (m := c1) (by omega) (Nat.le_refl _) hmc1
  rw [show List.take ((bs1.length - (n + bs2.length)) * 1) (List.drop ((n + bs2.length) * 1) (bcells bs1)) = bcells (bs1.drop (n + bs2.length)) from by rw [Nat.mul_one, Nat.mul_one]; simp only [bcells, ← List.map_drop]; rw [List.take_of_length_le (by simp)]] at hcut2
  have hszX := hE.size
  refine wd_one rfl rfl (by kernel_rfl) rfl rfl rfl (ex_append Tryd.underlying25 z5.1 rfl (by decide) rfl rfl rfl ho hcut2 (bcells_one _) (by first | omega | (simp only; omega)) (by first | omega | (simp only; omega)) (by omega)) ?_
  rintro _ w7 ⟨O, dO, rfl, hO, KO, hOB⟩
  replace K0 := K0.trans KO (fun j hj _ => ho.fresh (by omega))
  replace hb := hb.keep KO (fun o e => ho.ne_blk hb (by decide) b1 o e rfl)
  replace hO := hO.lower (lo' := w.heap.size) hszW
  rw [show bcells (bs1.take n) ++ bcells bs2 ++ bcells (bs1.drop (n + bs2.length)) = bcells (changed bs1 n bs2) from by simp [changed, bcells]] at hO
  have hcl := changed_length h5
  refine wd_v rfl rfl (by kernel_rfl) rfl rfl rfl (ex_assign rfl rfl) ?_
  refine wd_nil (by decide) rfl ?_
  refine qe_next ?_
  refine w_seq ?_
  refine w_region ?_
  refine sv rfl rfl rfl (ex_load_agg (cs := q.cut.cells) agg24 rfl rfl (by intro j u hu; rw [Nat.zero_add]; exact hb.cell hu)) ?_
  refine sv rfl rfl rfl (ex_move rfl rfl) ?_
  refine sv rfl rfl rfl (ex_move rfl rfl) ?_
  refine st rfl rfl rfl (ex_call call24 rfl rfl (reach_c q.cut n (n + bs2.length) _ ⟨q.ok, by omega, by omega, by omega⟩)) ?_
  rintro _ w8 ⟨rfl, E2⟩
  replace K0 := K0.ext E2
  replace hb := hb.ext E2
  replace hO := hO.ext E2
  refine sv rfl rfl rfl (ex_move rfl rfl) ?_
  refine sv rfl rfl rfl (ex_extract rfl rfl rfl) ?_
  refine sv rfl rfl rfl (ex_extract rfl rfl rfl) ?_
  refine sv rfl rfl rfl (ex_extract rfl rfl rfl) ?_
  refine sv rfl rfl rfl (ex_assign rfl rfl) ?_
  refine sv rfl rfl rfl (ex_assign rfl rfl) ?_
  refine sv rfl rfl rfl (ex_assign rfl rfl) ?_
  refine w_nil (qe_next ?_)
  refine w_seq ?_
  refine w_region ?_
  refine sv rfl rfl rfl (ex_load_agg (cs := q.cut.cells) agg24 rfl rfl (by intro j u hu; rw [Nat.zero_add]; exact hb.cell hu)) ?_
  refine sv rfl rfl rfl (ex_move rfl rfl) ?_
  have hsz7 := K0.size
  refine st rfl rfl rfl (ex_call call20 rfl rfl (primary_c q A1 c1 lo1 hi1 bs1 _ (hr1.ext K0) (by omega) (hT.ext K0) (by omega))) ?_
  rintro _ w9 ⟨P, dP, rfl, hp, E8⟩
  replace K0 := K0.ext E8
  replace hb := hb.ext E8
  replace hO := hO.ext E8
  replace hp := hp.lower hsz7
  refine sv rfl rfl rfl (ex_move rfl rfl) ?_
  refine sv rfl rfl rfl (ex_extract rfl rfl rfl) ?_
  refine sv rfl rfl rfl (ex_extract rfl rfl rfl) ?_
  refine sv rfl rfl rfl (ex_assign rfl rfl) ?_
  refine sv rfl rfl rfl (ex_assign rfl rfl) ?_
  refine w_nil (qe_next ?_)
  refine w_seq ?_
  refine w_region ?_
  refine sv rfl rfl rfl (ex_load_agg (cs := q.cut.cells) agg24 rfl rfl (by intro j u hu; rw [Nat.zero_add]; exact hb.cell hu)) ?_
  refine sv rfl rfl rfl (ex_move rfl rfl) ?_
  have hsz8 := K0.size
  refine st rfl rfl rfl (ex_call call20 rfl rfl (primary_m q O _ dO _ _ (changed bs1 n bs2) _ (by omega) hO.rd (Nat.le_refl _) (hT.ext K0) (by omega))) ?_
  rintro _ w10 ⟨Q, dQ, rfl, hq, E9⟩
  replace K0 := K0.ext E9
  replace hb := hb.ext E9
  replace hO := hO.ext E9
  replace hp := hp.ext E9
  replace hq := hq.lower hsz8
  refine sv rfl rfl rfl (ex_move rfl rfl) ?_
  refine sv rfl rfl rfl (ex_extract rfl rfl rfl) ?_
  refine sv rfl rfl rfl (ex_extract rfl rfl rfl) ?_
  refine sv rfl rfl rfl (ex_assign rfl rfl) ?_
  refine sv rfl rfl rfl (ex_assign rfl rfl) ?_
  refine w_nil (qe_next ?_)
  refine w_seq ?_
  refine w_seq ?_
  refine w_region ?_
  refine sv rfl rfl rfl (ex_move rfl rfl) ?_
  refine sv rfl rfl rfl (ex_cmp rfl rfl rfl (congrArg some (decide_eq_false (not_not_intro rfl)))) ?_
  refine sv rfl rfl rfl (ex_move rfl rfl) ?_
  first | refine sk rfl rfl rfl ?_ | refine sv rfl rfl rfl (ex_move rfl rfl) ?_
  first | refine sk rfl rfl rfl ?_ | refine sv rfl rfl rfl (ex_cmp rfl rfl rfl (congrArg some (decide_eq_false (not_not_intro rfl)))) ?_
  first | refine sv rfl rfl rfl (ex_pick_t rfl rfl rfl) ?_ | refine sv rfl rfl rfl (ex_pick_f rfl rfl rfl) ?_
  refine sv rfl rfl rfl (ex_move rfl rfl) ?_
  first | refine sk rfl rfl rfl ?_ | refine sv rfl rfl rfl (ex_move rfl rfl) ?_
  first | refine sk rfl rfl rfl ?_ | refine sv rfl rfl rfl (ex_cmp rfl rfl rfl (congrArg some (decide_eq_false (not_not_intro rfl)))) ?_
  first | refine sv rfl rfl rfl (ex_pick_t rfl rfl rfl) ?_ | refine sv rfl rfl rfl (ex_pick_f rfl rfl rfl) ?_
  refine w_nil (qe_next ?_)
  refine w_cond_f rfl ?_
  refine w_skip (qe_next ?_)
  refine w_seq ?_
  refine w_region ?_
  have hsz9 := K0.size
  have sp_hp := Sep.new hp (Nat.le_refl _)
  have sp_hq := Sep.new hq (Nat.le_refl _)
  refine st rfl rfl rfl (ex_buildSlice (cs := []) rfl rfl build_ints0) ?_
  rintro _ w11 ⟨gs, rfl, hgs, E5, hb5, hs5⟩
  replace K0 := K0.ext E5
  replace hp := hp.ext E5
  replace hq := hq.ext E5
  rw [← hgs] at sp_hp sp_hq
  have hsz10 := K0.size
  have hs := Own.of_blk (lo := w.heap.size) (n := 0) (c := 0) (size := 1) hb5 (by omega) (by omega) (by decide) (by simp)
  have ts := Sep.new hs (Nat.le_refl _)
  have tq := Sep.new hq (Nat.le_refl _)
  refine st rfl rfl rfl (ex_buildSlice (cs := []) rfl rfl build_ints0) ?_
  rintro _ w12 ⟨gt, rfl, hgt, E6, hb6, hs6⟩
  replace K0 := K0.ext E6
  replace hp := hp.ext E6
  replace hq := hq.ext E6
  rw [← hgt] at ts tq
  have sp_ht := ts.symm
  replace hs := hs.ext E6
  have hsz11 := K0.size
  have ht := Own.of_blk (lo := w.heap.size) (n := 0) (c := 0) (size := 1) hb6 (by omega) (by omega) (by decide) (by simp)
  refine sv rfl rfl rfl (ex_assign rfl rfl) ?_
  refine sv rfl rfl rfl (ex_assign rfl rfl) ?_
  refine w_nil (qe_next ?_)
  refine w_seq ?_
  refine w_seq ?_
  refine w_region ?_
  refine sv rfl rfl rfl (ex_assign rfl rfl) ?_
  refine w_nil (qe_next ?_)
  refine w_block ?_
  refine w_loop (ι := Nat × Nat × Option Addr × Nat) (fun i => [(11, .int .i64 ((n : Int) + 1)), (12, .int .i64 ((n : Int) + (bs2.length : Int) + q.wi + q.mn - 2)), (14, .slice P (prims q bs1 bs1.length).length dP), (16, .slice Q (prims q (changed bs1 n bs2) (changed bs1 n bs2).length).length dQ), (18, .slice i.2.2.1 i.2.1 i.2.2.2), (19, .slice (some ⟨gt, 0, none⟩) 0 0), (20, .int .i64 (i.1 : Int))]) (fun i w1 => i.1 ≤ (prims q bs1 bs1.length).length ∧ i.2.1 = (outs ((n : Int) + 1) ((n : Int) + (bs2.length : Int) + q.wi + q.mn - 2) ((prims q bs1 bs1.length).take i.1)).length ∧ Own w1 w.heap.size 3 1 i.2.2.1 i.2.1 i.2.2.2 ((outs ((n : Int) + 1) ((n : Int) + (bs2.length : Int) + q.wi + q.mn - 2) ((prims q bs1 bs1.length).take i.1)).map fun x : Nat => Value.int .i64 (x : Int)) ∧ Own w1 w.heap.size 3 1 P (prims q bs1 bs1.length).length dP ((prims q bs1 bs1.length).map fun x : Nat => Value.int .i64 (x : Int)) ∧ Own w1 w.heap.size 3 1 Q (prims q (changed bs1 n bs2) (changed bs1 n bs2).length).length dQ ((prims q (changed bs1 n bs2) (changed bs1 n bs2).length).map fun x : Nat => Value.int .i64 (x : Int)) ∧ Own w1 w.heap.size 3 1 (some ⟨gt, 0, none⟩) 0 0 (List.take (0 * 1) ([] : List Value)) ∧ Sep i.2.2.1 P ∧ Sep i.2.2.1 Q ∧ Sep i.2.2.1 (some ⟨gt, 0, none⟩) ∧ Ext w w1) (fun i => (prims q bs1 bs1.length).length - i.1) ((0, 0, _, _)) ⟨rfl, rfl, rfl, rfl, rfl, rfl, rfl, trivial⟩ ?_ ?_
  · exact ⟨Nat.zero_le _, rfl, hs, hp, hq, ht, sp_hp, sp_hq, sp_ht, K0⟩
  · clear hs hp hq ht sp_hp sp_hq sp_ht K0
    rintro ⟨k, m, B, d⟩ w1 ⟨hk, hn, hs, hp, hq, ht, sp_hp, sp_hq, sp_ht, K0⟩
    simp only at hk hn hs
    have hpl := prims_length q bs1 bs1.length
    have hnl := outs_length ((n : Int) + 1) ((n : Int) + (bs2.length : Int) + q.wi + q.mn - 2) ((prims q bs1 bs1.length).take k)
    rw [List.length_take] at hnl
    refine w_seq ?_
    refine w_seq ?_
    refine w_region ?_
    refine sv rfl rfl rfl (ex_move rfl rfl) ?_
    refine sv rfl rfl rfl (ex_move rfl rfl) ?_
    refine sv rfl rfl rfl (ex_len Tryd.underlying35 rfl rfl) ?_
    refine sv rfl rfl rfl (ex_cmp rfl rfl rfl rfl) ?_
    refine w_nil (qe_next ?_)
    refine w_if rfl (fun hk2 => ?_) (fun hk2 => ?_)
    · skip
      replace hk2 : k < (prims q bs1 bs1.length).length := by simp only at hk2; omega
      obtain ⟨bb, oo, u, rfl, _, _, hu, hcell⟩ := hp.rd.at_ hk2
      rw [List.getElem?_map] at hu
      obtain ⟨x, hx, rfl⟩ := Option.map_eq_some_iff.1 hu
      have htk : (prims q bs1 bs1.length).take (k + 1) = (prims q bs1 bs1.length).take k ++ [x] := by rw [List.take_add_one, hx]; rfl
      refine w_skip (qe_next ?_)
      refine w_seq ?_
      refine w_block ?_
      refine w_seq ?_
      refine w_region ?_
      refine sv rfl rfl rfl (ex_move rfl rfl) ?_
      refine sv rfl rfl rfl (ex_move rfl rfl) ?_
      refine sv rfl rfl rfl (ex_index Tryd.underlying35 sz3 k rfl rfl rfl rfl (by omega)) ?_
      refine sv rfl rfl rfl (ex_load one3 rfl rfl hcell) ?_
      refine sv rfl rfl rfl (ex_move rfl rfl) ?_
      refine sv_if rfl rfl rfl (ex_cmp rfl rfl rfl rfl) (fun h1 => ?_) (fun h1 => ?_)
      · skip
        refine sv rfl rfl rfl (ex_move rfl rfl) ?_
        first | refine sk rfl rfl rfl ?_ | refine sv rfl rfl rfl (ex_move rfl rfl) ?_
        first | refine sk rfl rfl rfl ?_ | refine sv rfl rfl rfl (ex_move rfl rfl) ?_
        refine sk rfl rfl rfl ?_
        refine sk rfl rfl rfl ?_
        first | refine sk rfl rfl rfl ?_ | refine sv rfl rfl rfl (ex_move rfl rfl) ?_
        refine sk rfl rfl rfl ?_
        first | refine sv rfl rfl rfl (ex_pick_t rfl rfl rfl) ?_ | refine sv rfl rfl rfl (ex_pick_f rfl rfl rfl) ?_
        refine w_nil (qe_next ?_)
        refine w_cond_t rfl ?_
        refine w_region ?_
        refine sv rfl rfl rfl (ex_move rfl rfl) ?_
        refine sv rfl rfl rfl (ex_move rfl rfl) ?_
        refine sv rfl rfl rfl (ex_move rfl rfl) ?_
        refine sv rfl rfl rfl (ex_index Tryd.underlying35 sz3 k rfl rfl rfl rfl (by omega)) ?_
        refine sv rfl rfl rfl (ex_load one3 rfl rfl hcell) ?_
        refine st rfl rfl rfl (ex_buildSlice (cs := [.int .i64 (x : Int)]) rfl rfl (build_int _)) ?_
        rintro _ w13 ⟨g1, rfl, hg1, E7, hb7, hs7⟩
        replace hs := hs.ext E7
        replace hp := hp.ext E7
        replace hq := hq.ext E7
        replace ht := ht.ext E7
        replace K0 := K0.ext E7
        have hs8 := K0.size
        refine st rfl rfl rfl (ex_append Tryd.underlying35 z3.1 rfl (by decide) rfl rfl rfl hs (Rd.of_blk (size := 1) hb7 rfl) (by simp [Value.oneCell']) (by first | omega | (simp only; omega)) (by first | omega | (simp only; omega)) (by omega)) ?_
        rintro _ w14 ⟨B1, d1, rfl, hown1, K3, hB1⟩
        have xhp := Sep.app sp_hp hp hB1
        replace hp := Sep.keep sp_hp hp K3
        have xhq := Sep.app sp_hq hq hB1
        replace hq := Sep.keep sp_hq hq K3
        have xht := Sep.app sp_ht ht hB1
        replace ht := Sep.keep sp_ht ht K3
        replace K0 := K0.trans K3 (fun j hj _ => hs.fresh hj)
        refine sv rfl rfl rfl (ex_assign rfl rfl) ?_
        refine w_nil (qe_in_normal (qe_next ?_))
        refine w_region ?_
        refine sv rfl rfl rfl (ex_move rfl rfl) ?_
        refine sv rfl rfl rfl (ex_add rfl rfl rfl (i64_in (by omega) (by omega))) ?_
        refine sv rfl rfl rfl (ex_assign rfl rfl) ?_
        have hyes : (x : Int) < ((n : Int) + 1) ∨ ((n : Int) + (bs2.length : Int) + q.wi + q.mn - 2) < (x : Int) := by first | exact .inl (by omega) | exact .inr (by omega)
        refine w_nil (qe_round ((k + 1, m + 1, B1, d1)) ⟨rfl, rfl, rfl, rfl, rfl, rfl, rfl, trivial⟩ ?_ ?_)
        · exact ⟨by simp only; omega, by simp only; rw [htk, outs_snoc_yes hyes, List.length_append, List.length_singleton, hn], by simp only; rw [htk, outs_snoc_yes hyes, List.map_append]; exact hown1, hp, hq, ht, xhp, xhq, xht, K0⟩
        · simp only; omega
      · skip
        refine sv rfl rfl rfl (ex_move rfl rfl) ?_
        first | refine sk rfl rfl rfl ?_ | refine sv rfl rfl rfl (ex_move rfl rfl) ?_
        first | refine sk rfl rfl rfl ?_ | refine sv rfl rfl rfl (ex_move rfl rfl) ?_
        first | refine sk rfl rfl rfl ?_ | refine sv rfl rfl rfl (ex_index Tryd.underlying35 sz3 k rfl rfl rfl rfl (by omega)) ?_
        first | refine sk rfl rfl rfl ?_ | refine sv rfl rfl rfl (ex_load one3 rfl rfl hcell) ?_
        first | refine sk rfl rfl rfl ?_ | refine sv rfl rfl rfl (ex_move rfl rfl) ?_
        first | refine sk rfl rfl rfl ?_ | refine sv rfl rfl rfl (ex_cmp rfl rfl rfl rfl) ?_
        first | refine sv rfl rfl rfl (ex_pick_t rfl rfl rfl) ?_ | refine sv rfl rfl rfl (ex_pick_f rfl rfl rfl) ?_
        refine w_nil (qe_next ?_)
        refine w_if rfl (fun h2 => ?_) (fun h2 => ?_)
        · skip
          refine w_region ?_
          refine sv rfl rfl rfl (ex_move rfl rfl) ?_
          refine sv rfl rfl rfl (ex_move rfl rfl) ?_
          refine sv rfl rfl rfl (ex_move rfl rfl) ?_
          refine sv rfl rfl rfl (ex_index Tryd.underlying35 sz3 k rfl rfl rfl rfl (by omega)) ?_
          refine sv rfl rfl rfl (ex_load one3 rfl rfl hcell) ?_
          refine st rfl rfl rfl (ex_buildSlice (cs := [.int .i64 (x : Int)]) rfl rfl (build_int _)) ?_
          rintro _ w15 ⟨g1, rfl, hg1, E7, hb7, hs7⟩
          replace hs := hs.ext E7
          replace hp := hp.ext E7
          replace hq := hq.ext E7
          replace ht := ht.ext E7
          replace K0 := K0.ext E7
          have hs8 := K0.size
          refine st rfl rfl rfl (ex_append Tryd.underlying35 z3.1 rfl (by decide) rfl rfl rfl hs (Rd.of_blk (size := 1) hb7 rfl) (by simp [Value.oneCell']) (by first | omega | (simp only; omega)) (by first | omega | (simp only; omega)) (by omega)) ?_
          rintro _ w16 ⟨B1, d1, rfl, hown1, K3, hB1⟩
          have xhp := Sep.app sp_hp hp hB1
          replace hp := Sep.keep sp_hp hp K3
          have xhq := Sep.app sp_hq hq hB1
          replace hq := Sep.keep sp_hq hq K3
          have xht := Sep.app sp_ht ht hB1
          replace ht := Sep.keep sp_ht ht K3
          replace K0 := K0.trans K3 (fun j hj _ => hs.fresh hj)
          refine sv rfl rfl rfl (ex_assign rfl rfl) ?_
          refine w_nil (qe_in_normal (qe_next ?_))
          refine w_region ?_
          refine sv rfl rfl rfl (ex_move rfl rfl) ?_
          refine sv rfl rfl rfl (ex_add rfl rfl rfl (i64_in (by omega) (by omega))) ?_
          refine sv rfl rfl rfl (ex_assign rfl rfl) ?_
          have hyes : (x : Int) < ((n : Int) + 1) ∨ ((n : Int) + (bs2.length : Int) + q.wi + q.mn - 2) < (x : Int) := by first | exact .inl (by omega) | exact .inr (by omega)
          refine w_nil (qe_round ((k + 1, m + 1, B1, d1)) ⟨rfl, rfl, rfl, rfl, rfl, rfl, rfl, trivial⟩ ?_ ?_)
          · exact ⟨by simp only; omega, by simp only; rw [htk, outs_snoc_yes hyes, List.length_append, List.length_singleton, hn], by simp only; rw [htk, outs_snoc_yes hyes, List.map_append]; exact hown1, hp, hq, ht, xhp, xhq, xht, K0⟩
          · simp only; omega
        · skip
          refine w_skip (qe_in_normal (qe_next ?_))
          refine w_region ?_
          refine sv rfl rfl rfl (ex_move rfl rfl) ?_
          refine sv rfl rfl rfl (ex_add rfl rfl rfl (i64_in (by omega) (by omega))) ?_
          refine sv rfl rfl rfl (ex_assign rfl rfl) ?_
          have hno : ¬ ((x : Int) < ((n : Int) + 1) ∨ ((n : Int) + (bs2.length : Int) + q.wi + q.mn - 2) < (x : Int)) := by omega
          refine w_nil (qe_round ((k + 1, m, B, d)) ⟨rfl, rfl, rfl, rfl, rfl, rfl, rfl, trivial⟩ ?_ ?_)
          · exact ⟨by simp only; omega, by simp only; rw [htk, outs_snoc_no hno]; exact hn, by simp only; rw [htk, outs_snoc_no hno]; exact hs, hp, hq, ht, sp_hp, sp_hq, sp_ht, K0⟩
          · simp only; omega
    · skip
      replace hk2 : k = (prims q bs1 bs1.length).length := by simp only at hk2; omega
      subst hk2
      rw [List.take_length] at hs hn
      subst hn
      refine w_exit (qe_then_exit (qe_then_exit (qe_in_exit (qe_next ?_))))
      refine w_seq ?_
      refine w_seq ?_
      replace sp_hq := tq
      have sp_hs := sp_ht.symm
      refine w_region ?_
      refine sv rfl rfl rfl (ex_assign rfl rfl) ?_
      refine w_nil (qe_next ?_)
      refine w_block ?_
      refine w_loop (ι := Nat × Nat × Option Addr × Nat) (fun i => [(11, .int .i64 ((n : Int) + 1)), (12, .int .i64 ((n : Int) + (bs2.length : Int) + q.wi + q.mn - 2)), (16, .slice Q (prims q (changed bs1 n bs2) (changed bs1 n bs2).length).length dQ), (18, .slice B (outs ((n : Int) + 1) ((n : Int) + (bs2.length : Int) + q.wi + q.mn - 2) (prims q bs1 bs1.length)).length d), (19, .slice i.2.2.1 i.2.1 i.2.2.2), (21, .int .i64 (i.1 : Int))]) (fun i w1 => i.1 ≤ (prims q (changed bs1 n bs2) (changed bs1 n bs2).length).length ∧ i.2.1 = (outs ((n : Int) + 1) ((n : Int) + (bs2.length : Int) + q.wi + q.mn - 2) ((prims q (changed bs1 n bs2) (changed bs1 n bs2).length).take i.1)).length ∧ Own w1 w.heap.size 3 1 i.2.2.1 i.2.1 i.2.2.2 ((outs ((n : Int) + 1) ((n : Int) + (bs2.length : Int) + q.wi + q.mn - 2) ((prims q (changed bs1 n bs2) (changed bs1 n bs2).length).take i.1)).map fun x : Nat => Value.int .i64 (x : Int)) ∧ Own w1 w.heap.size 3 1 Q (prims q (changed bs1 n bs2) (changed bs1 n bs2).length).length dQ ((prims q (changed bs1 n bs2) (changed bs1 n bs2).length).map fun x : Nat => Value.int .i64 (x : Int)) ∧ Own w1 w.heap.size 3 1 B (outs ((n : Int) + 1) ((n : Int) + (bs2.length : Int) + q.wi + q.mn - 2) (prims q bs1 bs1.length)).length d ((outs ((n : Int) + 1) ((n : Int) + (bs2.length : Int) + q.wi + q.mn - 2) (prims q bs1 bs1.length)).map fun x : Nat => Value.int .i64 (x : Int)) ∧ Sep i.2.2.1 Q ∧ Sep i.2.2.1 B ∧ Ext w w1) (fun i => (prims q (changed bs1 n bs2) (changed bs1 n bs2).length).length - i.1) ((0, 0, _, _)) ⟨rfl, rfl, rfl, rfl, rfl, rfl, trivial⟩ ?_ ?_
      · exact ⟨Nat.zero_le _, rfl, ht, hq, hs, sp_hq, sp_hs, K0⟩
      · clear ht hq hs sp_hq sp_hs K0
        rintro ⟨k, m, B, d⟩ w1 ⟨hk, hn, ht, hq, hs, sp_hq, sp_hs, K0⟩
        simp only at hk hn ht
        have hpl := prims_length q (changed bs1 n bs2) (changed bs1 n bs2).length
        have hnl := outs_length ((n : Int) + 1) ((n : Int) + (bs2.length : Int) + q.wi + q.mn - 2) ((prims q (changed bs1 n bs2) (changed bs1 n bs2).length).take k)
        rw [List.length_take] at hnl
        refine w_seq ?_
        refine w_seq ?_
        refine w_region ?_
        refine sv rfl rfl rfl (ex_move rfl rfl) ?_
        refine sv rfl rfl rfl (ex_move rfl rfl) ?_
        refine sv rfl rfl rfl (ex_len Tryd.underlying35 rfl rfl) ?_
        refine sv rfl rfl rfl (ex_cmp rfl rfl rfl rfl) ?_
        refine w_nil (qe_next ?_)
        refine w_if rfl (fun hk2 => ?_) (fun hk2 => ?_)
        · skip
          replace hk2 : k < (prims q (changed bs1 n bs2) (changed bs1 n bs2).length).length := by simp only at hk2; omega
          obtain ⟨bb, oo, u, rfl, _, _, hu, hcell⟩ := hq.rd.at_ hk2
          rw [List.getElem?_map] at hu
          obtain ⟨x, hx, rfl⟩ := Option.map_eq_some_iff.1 hu
          have htk : (prims q (changed bs1 n bs2) (changed bs1 n bs2).length).take (k + 1) = (prims q (changed bs1 n bs2) (changed bs1 n bs2).length).take k ++ [x] := by rw [List.take_add_one, hx]; rfl
          refine w_skip (qe_next ?_)
          refine w_seq ?_
          refine w_block ?_
          refine w_seq ?_
          refine w_region ?_
          refine sv rfl rfl rfl (ex_move rfl rfl) ?_
          refine sv rfl rfl rfl (ex_move rfl rfl) ?_
          refine sv rfl rfl rfl (ex_index Tryd.underlying35 sz3 k rfl rfl rfl rfl (by omega)) ?_
          refine sv rfl rfl rfl (ex_load one3 rfl rfl hcell) ?_
          refine sv rfl rfl rfl (ex_move rfl rfl) ?_
          refine sv_if rfl rfl rfl (ex_cmp rfl rfl rfl rfl) (fun h1 => ?_) (fun h1 => ?_)
          · skip
            refine sv rfl rfl rfl (ex_move rfl rfl) ?_
            first | refine sk rfl rfl rfl ?_ | refine sv rfl rfl rfl (ex_move rfl rfl) ?_
            first | refine sk rfl rfl rfl ?_ | refine sv rfl rfl rfl (ex_move rfl rfl) ?_
            refine sk rfl rfl rfl ?_
            refine sk rfl rfl rfl ?_
            first | refine sk rfl rfl rfl ?_ | refine sv rfl rfl rfl (ex_move rfl rfl) ?_
            refine sk rfl rfl rfl ?_
            first | refine sv rfl rfl rfl (ex_pick_t rfl rfl rfl) ?_ | refine sv rfl rfl rfl (ex_pick_f rfl rfl rfl) ?_
            refine w_nil (qe_next ?_)
            refine w_cond_t rfl ?_
            refine w_region ?_
            refine sv rfl rfl rfl (ex_move rfl rfl) ?_
            refine sv rfl rfl rfl (ex_move rfl rfl) ?_
            refine sv rfl rfl rfl (ex_move rfl rfl) ?_
            refine sv rfl rfl rfl (ex_index Tryd.underlying35 sz3 k rfl rfl rfl rfl (by omega)) ?_
            refine sv rfl rfl rfl (ex_load one3 rfl rfl hcell) ?_
            refine st rfl rfl rfl (ex_buildSlice (cs := [.int .i64 (x : Int)]) rfl rfl (build_int _)) ?_
            rintro _ w17 ⟨g1, rfl, hg1, E7, hb7, hs7⟩
            replace ht := ht.ext E7
            replace hq := hq.ext E7
            replace hs := hs.ext E7
            replace K0 := K0.ext E7
            have hs8 := K0.size
            refine st rfl rfl rfl (ex_append Tryd.underlying35 z3.1 rfl (by decide) rfl rfl rfl ht (Rd.of_blk (size := 1) hb7 rfl) (by simp [Value.oneCell']) (by first | omega | (simp only; omega)) (by first | omega | (simp only; omega)) (by omega)) ?_
            rintro _ w18 ⟨B1, d1, rfl, hown1, K3, hB1⟩
            have xhq := Sep.app sp_hq hq hB1
            replace hq := Sep.keep sp_hq hq K3
            have xhs := Sep.app sp_hs hs hB1
            replace hs := Sep.keep sp_hs hs K3
            replace K0 := K0.trans K3 (fun j hj _ => ht.fresh hj)
            refine sv rfl rfl rfl (ex_assign rfl rfl) ?_
            refine w_nil (qe_in_normal (qe_next ?_))
            refine w_region ?_
            refine sv rfl rfl rfl (ex_move rfl rfl) ?_
            refine sv rfl rfl rfl (ex_add rfl rfl rfl (i64_in (by omega) (by omega))) ?_
            refine sv rfl rfl rfl (ex_assign rfl rfl) ?_
            have hyes : (x : Int) < ((n : Int) + 1) ∨ ((n : Int) + (bs2.length : Int) + q.wi + q.mn - 2) < (x : Int) := by first | exact .inl (by omega) | exact .inr (by omega)
            refine w_nil (qe_round ((k + 1, m + 1, B1, d1)) ⟨rfl, rfl, rfl, rfl, rfl, rfl, trivial⟩ ?_ ?_)
            · exact ⟨by simp only; omega, by simp only; rw [htk, outs_snoc_yes hyes, List.length_append, List.length_singleton, hn], by simp only; rw [htk, outs_snoc_yes hyes, List.map_append]; exact hown1, hq, hs, xhq, xhs, K0⟩
            · simp only; omega
          · skip
            refine sv rfl rfl rfl (ex_move rfl rfl) ?_
            first | refine sk rfl rfl rfl ?_ | refine sv rfl rfl rfl (ex_move rfl rfl) ?_
            first | refine sk rfl rfl rfl ?_ | refine sv rfl rfl rfl (ex_move rfl rfl) ?_
            first | refine sk rfl rfl rfl ?_ | refine sv rfl rfl rfl (ex_index Tryd.underlying35 sz3 k rfl rfl rfl rfl (by omega)) ?_
            first | refine sk rfl rfl rfl ?_ | refine sv rfl rfl rfl (ex_load one3 rfl rfl hcell) ?_
            first | refine sk rfl rfl rfl ?_ | refine sv rfl rfl rfl (ex_move rfl rfl) ?_
            first | refine sk rfl rfl rfl ?_ | refine sv rfl rfl rfl (ex_cmp rfl rfl rfl rfl) ?_
            first | refine sv rfl rfl rfl (ex_pick_t rfl rfl rfl) ?_ | refine sv rfl rfl rfl (ex_pick_f rfl rfl rfl) ?_
            refine w_nil (qe_next ?_)
            refine w_if rfl (fun h2 => ?_) (fun h2 => ?_)
            · skip
              refine w_region ?_
              refine sv rfl rfl rfl (ex_move rfl rfl) ?_
              refine sv rfl rfl rfl (ex_move rfl rfl) ?_
              refine sv rfl rfl rfl (ex_move rfl rfl) ?_
              refine sv rfl rfl rfl (ex_index Tryd.underlying35 sz3 k rfl rfl rfl rfl (by omega)) ?_
              refine sv rfl rfl rfl (ex_load one3 rfl rfl hcell) ?_
              refine st rfl rfl rfl (ex_buildSlice (cs := [.int .i64 (x : Int)]) rfl rfl (build_int _)) ?_
              rintro _ w19 ⟨g1, rfl, hg1, E7, hb7, hs7⟩
              replace ht := ht.ext E7
              replace hq := hq.ext E7
              replace hs := hs.ext E7
              replace K0 := K0.ext E7
              have hs8 := K0.size
              refine st rfl rfl rfl (ex_append Tryd.underlying35 z3.1 rfl (by decide) rfl rfl rfl ht (Rd.of_blk (size := 1) hb7 rfl) (by simp [Value.oneCell']) (by first | omega | (simp only; omega)) (by first | omega | (simp only; omega)) (by omega)) ?_
              rintro _ w20 ⟨B1, d1, rfl, hown1, K3, hB1⟩
              have xhq := Sep.app sp_hq hq hB1
              replace hq := Sep.keep sp_hq hq K3
              have xhs := Sep.app sp_hs hs hB1
              replace hs := Sep.keep sp_hs hs K3
              replace K0 := K0.trans K3 (fun j hj _ => ht.fresh hj)
              refine sv rfl rfl rfl (ex_assign rfl rfl) ?_
              refine w_nil (qe_in_normal (qe_next ?_))
              refine w_region ?_
              refine sv rfl rfl rfl (ex_move rfl rfl) ?_
              refine sv rfl rfl rfl (ex_add rfl rfl rfl (i64_in (by omega) (by omega))) ?_
              refine sv rfl rfl rfl (ex_assign rfl rfl) ?_
              have hyes : (x : Int) < ((n : Int) + 1) ∨ ((n : Int) + (bs2.length : Int) + q.wi + q.mn - 2) < (x : Int) := by first | exact .inl (by omega) | exact .inr (by omega)
              refine w_nil (qe_round ((k + 1, m + 1, B1, d1)) ⟨rfl, rfl, rfl, rfl, rfl, rfl, trivial⟩ ?_ ?_)
              · exact ⟨by simp only; omega, by simp only; rw [htk, outs_snoc_yes hyes, List.length_append, List.length_singleton, hn], by simp only; rw [htk, outs_snoc_yes hyes, List.map_append]; exact hown1, hq, hs, xhq, xhs, K0⟩
              · simp only; omega
            · skip
              refine w_skip (qe_in_normal (qe_next ?_))
              refine w_region ?_
              refine sv rfl rfl rfl (ex_move rfl rfl) ?_
              refine sv rfl rfl rfl (ex_add rfl rfl rfl (i64_in (by omega) (by omega))) ?_
              refine sv rfl rfl rfl (ex_assign rfl rfl) ?_
              have hno : ¬ ((x : Int) < ((n : Int) + 1) ∨ ((n : Int) + (bs2.length : Int) + q.wi + q.mn - 2) < (x : Int)) := by omega
              refine w_nil (qe_round ((k + 1, m, B, d)) ⟨rfl, rfl, rfl, rfl, rfl, rfl, trivial⟩ ?_ ?_)
              · exact ⟨by simp only; omega, by simp only; rw [htk, outs_snoc_no hno]; exact hn, by simp only; rw [htk, outs_snoc_no hno]; exact ht, hq, hs, sp_hq, sp_hs, K0⟩
              · simp only; omega
        · skip
          replace hk2 : k = (prims q (changed bs1 n bs2) (changed bs1 n bs2).length).length := by simp only at hk2; omega
          subst hk2
          rw [List.take_length] at ht hn
          subst hn
          refine w_exit (qe_then_exit (qe_then_exit (qe_in_exit (qe_next ?_))))
          refine w_seq ?_
          refine w_region ?_
          refine st rfl rfl rfl (ex_call call16 rfl rfl (awake16_c _ (hT.ext K0))) ?_
          rintro _ w21 ⟨rfl, E9⟩
          replace ht := ht.ext E9
          replace hq := hq.ext E9
          replace hs := hs.ext E9
          replace K0 := K0.ext E9
          refine sv rfl rfl rfl (ex_move rfl rfl) ?_
          first | refine sk rfl rfl rfl ?_ | refine sv rfl rfl rfl (ex_move rfl rfl) ?_
          first | refine sk rfl rfl rfl ?_ | refine sv rfl rfl rfl (ex_move rfl rfl) ?_
          refine st rfl rfl rfl (ex_call call29 rfl rfl (ints_n _ _ _ _ _ _ _ _ _ _ (outs ((n : Int) + 1) ((n : Int) + (bs2.length : Int) + q.wi + q.mn - 2) (prims q bs1 bs1.length)) (outs ((n : Int) + 1) ((n : Int) + (bs2.length : Int) + q.wi + q.mn - 2) (prims q (changed bs1 n bs2) (changed bs1 n bs2).length)) _ rfl rfl hs.rd ht.rd (by have := outs_length ((n : Int) + 1) ((n : Int) + (bs2.length : Int) + q.wi + q.mn - 2) (prims q bs1 bs1.length); have := prims_length q bs1 bs1.length; omega) (outs_eq q bs1 bs2 n h5))) ?_
          rintro _ w22 ⟨rfl, E7⟩
          replace ht := ht.ext E7
          replace hq := hq.ext E7
          replace hs := hs.ext E7
          replace K0 := K0.ext E7
          first | refine sv rfl rfl rfl (ex_pick_t rfl rfl rfl) ?_ | refine sv rfl rfl rfl (ex_pick_f rfl rfl rfl) ?_
          refine sv rfl rfl rfl (ex_assign rfl rfl) ?_
          refine w_nil (qe_next ?_)
          refine w_ret (qe_ret1 rfl rfl ?_)
          exact ⟨rfl, K0⟩
theorem local_law (c0 : Cut) (A1 : Option Addr) (c1 lo1 hi1 : Nat) (bs1 : List UInt8) (m : Int) (A2 : Option Addr) (c2 lo2 hi2 : Nat) (bs2 : List UInt8) (w : World) (hr1 : Rd w lo1 hi1 1 A1 bs1.length (bcells bs1)) (hhi1 : hi1 ≤ w.heap.size) (hmc1 : bs1.length ≤ c1) (hr2 : Rd w lo2 hi2 1 A2 bs2.length (bcells bs2)) (hhi2 : hi2 ≤ w.heap.size) (hT : TabAt w) : Ret Tryd.prog 8 [c0.val, .slice A1 bs1.length c1, .int .i64 m, .slice A2 bs2.length c2] w fun v w' => v = .bool true ∧ Ext w w' := by
  by_cases h : c0.ok
  · by_cases h3 : bs1.length ≤ 300 ∧ bs2.length ≤ 300
    · by_cases h4 : bs2.length ≠ 0 ∧ 0 ≤ m ∧ m + bs2.length ≤ bs1.length
      · obtain ⟨q, rfl⟩ := h.vut
        obtain ⟨n, rfl⟩ : ∃ n : Nat, m = (n : Int) := ⟨m.toNat, by omega⟩
        exact local_good q A1 c1 lo1 hi1 bs1 n A2 c2 lo2 hi2 bs2 w hr1 hhi1 hmc1 hr2 hhi2 h3 h4.1 (by omega) hT
      · exact local_bad3 c0 A1 c1 lo1 hi1 bs1 m A2 c2 lo2 hi2 bs2 w hr1 hhi1 hmc1 hr2 hhi2 h h3 h4 hT
    · exact local_bad2 c0 A1 c1 lo1 hi1 bs1 m A2 c2 lo2 hi2 bs2 w hr1 hhi1 hmc1 hr2 hhi2 h h3 hT
  · exact local_bad1 c0 A1 c1 lo1 hi1 bs1 m A2 c2 lo2 hi2 bs2 w hr1 hhi1 hmc1 hr2 hhi2 h hT
end Go.Proofs.YtfgpcmphcnhbiaaDoor

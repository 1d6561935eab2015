/- The law ChunkerValid, walked. -/
import Derived.Test.YtfgpcmphcnhbiaaDoorP4
namespace Go.Proofs.YtfgpcmphcnhbiaaDoor
open Go Go.RowKit
set_option linter.unusedVariables false
set_option linter.unusedSimpArgs false
/-- kinkeep/kinkeeplaw16.ChunkerValid -/
theorem valid_few (c0 : Cut) (A : Option Addr) (c lo hi : Nat) (bs : List UInt8) (w : World) (hr : Rd w lo hi 1 A bs.length (bcells bs)) (hhi : hi ≤ w.heap.size) (hmc : bs.length ≤ c) (h3 : ¬ bs.length ≤ 300) (hT : TabAt w) :
    Ret Tryd.prog 4 [c0.val, .slice A bs.length c] w fun v w' => v = .bool true ∧ Ext w w' := by
  have K0 : Ext w w := Keep.refl _ _
  refine ret_of Tryd.func4 rfl rfl ?_
  refine w_seq ?_
  refine w_region ?_
  refine st rfl rfl rfl (ex_box (cs := c0.cells) rfl rfl rfl) ?_
  rintro _ w1 ⟨b1, rfl, hb0, E0, hb, hs0⟩
  replace K0 := K0.ext E0
  refine sv rfl rfl rfl (ex_assign rfl rfl) ?_
  refine w_nil (qe_next ?_)
  refine w_seq ?_
  refine w_seq ?_
  refine w_region ?_
  refine sv rfl rfl rfl (ex_move rfl rfl) ?_
  refine st rfl rfl rfl (ex_buildSlice (cs := [slv (A, bs.length, c)]) rfl rfl (build_bs1 (A, bs.length, c))) ?_
  rintro _ w2 ⟨g, rfl, hg0, E3, hb7, hs7⟩
  replace K0 := K0.ext E3
  replace hb := hb.ext E3
  refine st rfl rfl rfl (ex_call call15 rfl rfl ((few_c (some ⟨g, 0, none⟩) 1 1 _ _ [(A, bs.length, c)] _ rfl (by decide) (Rd.of_blk (size := 1) hb7 rfl)).mono (R' := fun v w' => v = .bool false ∧ w' = _) fun v w' h' => ⟨by rw [h'.1, decide_eq_false (fun hh => h3 (hh _ List.mem_cons_self))], h'.2⟩)) ?_
  rintro _ w3 ⟨rfl, hwe⟩
  obtain rfl := hwe.symm
  refine sv rfl rfl rfl (ex_not rfl rfl) ?_
  refine w_nil (qe_next ?_)
  refine w_cond_t rfl ?_
  refine w_seq ?_
  refine w_region ?_
  refine st rfl rfl rfl (ex_call call16 rfl rfl (awake16_c _ (hT.ext K0))) ?_
  rintro _ w4 ⟨rfl, E9⟩
  replace K0 := K0.ext E9
  replace hb := hb.ext E9
  refine sv rfl rfl rfl (ex_assign rfl rfl) ?_
  refine w_nil (qe_next ?_)
  refine w_ret (qe_then_ret (qe_ret1 rfl rfl ?_))
  exact ⟨rfl, K0⟩
/-- kinkeep/kinkeeplaw16.ChunkerValid -/
theorem valid_bad (c0 : Cut) (A : Option Addr) (c lo hi : Nat) (bs : List UInt8) (w : World) (hr : Rd w lo hi 1 A bs.length (bcells bs)) (hhi : hi ≤ w.heap.size) (hmc : bs.length ≤ c) (h3 : bs.length ≤ 300) (h : ¬ c0.ok) (hT : TabAt w) :
    Ret Tryd.prog 4 [c0.val, .slice A bs.length c] w fun v w' => v = .bool true ∧ Ext w w' := by
  have K0 : Ext w w := Keep.refl _ _
  refine ret_of Tryd.func4 rfl rfl ?_
  refine w_seq ?_
  refine w_region ?_
  refine st rfl rfl rfl (ex_box (cs := c0.cells) rfl rfl rfl) ?_
  rintro _ w1 ⟨b1, rfl, hb0, E0, hb, hs0⟩
  replace K0 := K0.ext E0
  refine sv rfl rfl rfl (ex_assign rfl rfl) ?_
  refine w_nil (qe_next ?_)
  refine w_seq ?_
  refine w_seq ?_
  refine w_region ?_
  refine sv rfl rfl rfl (ex_move rfl rfl) ?_
  refine st rfl rfl rfl (ex_buildSlice (cs := [slv (A, bs.length, c)]) rfl rfl (build_bs1 (A, bs.length, c))) ?_
  rintro _ w2 ⟨g, rfl, hg0, E3, hb7, hs7⟩
  replace K0 := K0.ext E3
  replace hb := hb.ext E3
  refine st rfl rfl rfl (ex_call call15 rfl rfl ((few_c (some ⟨g, 0, none⟩) 1 1 _ _ [(A, bs.length, c)] _ rfl (by decide) (Rd.of_blk (size := 1) hb7 rfl)).mono (R' := fun v w' => v = .bool true ∧ w' = _) fun v w' h' => ⟨by rw [h'.1, decide_eq_true (by intro x hx; rw [List.mem_singleton.1 hx]; exact h3)], h'.2⟩)) ?_
  rintro _ w3 ⟨rfl, hwe⟩
  obtain rfl := hwe.symm
  refine sv rfl rfl rfl (ex_not rfl rfl) ?_
  refine w_nil (qe_next ?_)
  refine w_cond_f rfl ?_
  refine w_skip (qe_next ?_)
  refine w_seq ?_
  refine w_region ?_
  refine sv rfl rfl rfl (ex_load_agg (cs := c0.cells) agg24 rfl rfl (by intro j u hu; rw [Nat.zero_add]; exact hb.cell hu)) ?_
  refine st rfl rfl rfl (ex_call call19 rfl rfl ((refValid_c c0 _).mono (R' := fun v w' => v = .bool false ∧ Ext _ w') fun v w' h' => ⟨by rw [h'.1, decide_eq_false (h)], h'.2⟩)) ?_
  rintro _ w4 ⟨rfl, E1⟩
  replace K0 := K0.ext E1
  replace hb := hb.ext E1
  refine sv rfl rfl rfl (ex_assign rfl rfl) ?_
  refine w_nil (qe_next ?_)
  refine w_seq ?_
  refine w_region ?_
  refine sv rfl rfl rfl (ex_load_agg (cs := c0.cells) agg24 rfl rfl (by intro j u hu; rw [Nat.zero_add]; exact hb.cell hu)) ?_
  refine sv rfl rfl rfl (ex_move rfl rfl) ?_
  refine st rfl rfl rfl (ex_call call20 rfl rfl (primaryBad_c c0 A _ c _ h)) ?_
  rintro _ w5 ⟨rfl, E2⟩
  replace K0 := K0.ext E2
  replace hb := hb.ext E2
  refine sv rfl rfl rfl (ex_move rfl rfl) ?_
  refine sv rfl rfl rfl (ex_extract rfl rfl rfl) ?_
  refine sv rfl rfl rfl (ex_extract rfl rfl rfl) ?_
  refine sv rfl rfl rfl (ex_assign rfl rfl) ?_
  refine sv rfl rfl rfl (ex_assign rfl rfl) ?_
  refine w_nil (qe_next ?_)
  refine w_seq ?_
  refine w_region ?_
  refine sv rfl rfl rfl (ex_load_agg (cs := c0.cells) agg24 rfl rfl (by intro j u hu; rw [Nat.zero_add]; exact hb.cell hu)) ?_
  refine sv rfl rfl rfl (ex_move rfl rfl) ?_
  refine st rfl rfl rfl (ex_call call21 rfl rfl (cutsBad_c c0 A _ c _ h)) ?_
  rintro _ w6 ⟨rfl, E2⟩
  replace K0 := K0.ext E2
  replace hb := hb.ext E2
  refine sv rfl rfl rfl (ex_move rfl rfl) ?_
  refine sv rfl rfl rfl (ex_extract rfl rfl rfl) ?_
  refine sv rfl rfl rfl (ex_extract rfl rfl rfl) ?_
  refine sv rfl rfl rfl (ex_assign rfl rfl) ?_
  refine sv rfl rfl rfl (ex_assign rfl rfl) ?_
  refine w_nil (qe_next ?_)
  refine w_seq ?_
  refine w_region ?_
  refine sv rfl rfl rfl (ex_load_agg (cs := c0.cells) agg24 rfl rfl (by intro j u hu; rw [Nat.zero_add]; exact hb.cell hu)) ?_
  refine sv rfl rfl rfl (ex_move rfl rfl) ?_
  refine st rfl rfl rfl (ex_call call22 rfl rfl (splitBad_c c0 A _ c _ h)) ?_
  rintro _ w7 ⟨rfl, E2⟩
  replace K0 := K0.ext E2
  replace hb := hb.ext E2
  refine sv rfl rfl rfl (ex_move rfl rfl) ?_
  refine sv rfl rfl rfl (ex_extract rfl rfl rfl) ?_
  refine sv rfl rfl rfl (ex_extract rfl rfl rfl) ?_
  refine sv rfl rfl rfl (ex_assign rfl rfl) ?_
  refine sv rfl rfl rfl (ex_assign rfl rfl) ?_
  refine w_nil (qe_next ?_)
  refine w_seq ?_
  refine w_region ?_
  refine sv rfl rfl rfl (ex_load_agg (cs := c0.cells) agg24 rfl rfl (by intro j u hu; rw [Nat.zero_add]; exact hb.cell hu)) ?_
  refine st rfl rfl rfl (ex_call call23 rfl rfl (chunkNewBad_c c0 _ h)) ?_
  rintro _ w8 ⟨rfl, E2⟩
  replace K0 := K0.ext E2
  replace hb := hb.ext E2
  refine sv rfl rfl rfl (ex_move rfl rfl) ?_
  refine sv rfl rfl rfl (ex_extract rfl rfl rfl) ?_
  refine sv rfl rfl rfl (ex_extract rfl rfl rfl) ?_
  refine sv rfl rfl rfl (ex_assign rfl rfl) ?_
  refine sv rfl rfl rfl (ex_assign rfl rfl) ?_
  refine w_nil (qe_next ?_)
  refine w_seq ?_
  refine w_region ?_
  refine sv rfl rfl rfl (ex_load_agg (cs := c0.cells) agg24 rfl rfl (by intro j u hu; rw [Nat.zero_add]; exact hb.cell hu)) ?_
  refine st rfl rfl rfl (ex_call call24 rfl rfl (reachBad_c c0 0 1 _ (fun h2 => h h2.1))) ?_
  rintro _ w9 ⟨rfl, E2⟩
  replace K0 := K0.ext E2
  replace hb := hb.ext E2
  refine sv rfl rfl rfl (ex_move rfl rfl) ?_
  refine sv rfl rfl rfl (ex_extract rfl rfl rfl) ?_
  refine sv rfl rfl rfl (ex_extract rfl rfl rfl) ?_
  refine sv rfl rfl rfl (ex_extract rfl rfl rfl) ?_
  refine sv rfl rfl rfl (ex_assign rfl rfl) ?_
  refine sv rfl rfl rfl (ex_assign rfl rfl) ?_
  refine sv rfl rfl rfl (ex_assign rfl rfl) ?_
  refine w_nil (qe_next ?_)
  refine w_seq ?_
  refine w_region ?_
  refine sv rfl rfl rfl (ex_load_agg (cs := c0.cells) agg24 rfl rfl (by intro j u hu; rw [Nat.zero_add]; exact hb.cell hu)) ?_
  refine sv rfl rfl rfl (ex_move rfl rfl) ?_
  refine sv rfl rfl rfl (ex_move rfl rfl) ?_
  refine st rfl rfl rfl (ex_call call17 rfl rfl (commonBad_c c0 A _ c A _ c _ h)) ?_
  rintro _ w10 ⟨rfl, E2⟩
  replace K0 := K0.ext E2
  replace hb := hb.ext E2
  refine sv rfl rfl rfl (ex_move rfl rfl) ?_
  refine sv rfl rfl rfl (ex_extract rfl rfl rfl) ?_
  refine sv rfl rfl rfl (ex_extract rfl rfl rfl) ?_
  refine sv rfl rfl rfl (ex_extract rfl rfl rfl) ?_
  refine sv rfl rfl rfl (ex_assign rfl rfl) ?_
  refine sv rfl rfl rfl (ex_assign rfl rfl) ?_
  refine sv rfl rfl rfl (ex_assign rfl rfl) ?_
  refine w_nil (qe_next ?_)
  refine w_seq ?_
  refine w_seq ?_
  refine w_region ?_
  refine sv rfl rfl rfl (ex_move rfl rfl) ?_
  refine w_nil (qe_next ?_)
  refine w_cond_f rfl ?_
  refine w_skip (qe_next ?_)
  refine w_seq ?_
  refine w_region ?_
  refine st rfl rfl rfl (ex_call call16 rfl rfl (awake16_c _ (hT.ext K0))) ?_
  rintro _ w11 ⟨rfl, E9⟩
  replace K0 := K0.ext E9
  replace hb := hb.ext E9
  refine sv rfl rfl rfl (ex_move rfl rfl) ?_
  first | refine sk rfl rfl rfl ?_ | refine sv rfl rfl rfl (ex_load_agg (cs := c0.cells) agg24 rfl rfl (by intro j u hu; rw [Nat.zero_add]; exact hb.cell hu)) ?_
  refine st rfl rfl rfl (ex_call call25 rfl rfl ((valid_c c0 _).mono (R' := fun v w' => v = .bool false ∧ Ext _ w') fun v w' h' => ⟨by rw [h'.1, decide_eq_false (h)], h'.2⟩)) ?_
  rintro _ w12 ⟨rfl, E1⟩
  replace K0 := K0.ext E1
  replace hb := hb.ext E1
  first | refine sk rfl rfl rfl ?_ | refine sv rfl rfl rfl (ex_not rfl rfl) ?_
  first | refine sv rfl rfl rfl (ex_pick_t rfl rfl rfl) ?_ | refine sv rfl rfl rfl (ex_pick_f rfl rfl rfl) ?_
  refine sv rfl rfl rfl (ex_move rfl rfl) ?_
  first | refine sk rfl rfl rfl ?_ | refine sv rfl rfl rfl (ex_move rfl rfl) ?_
  first | refine sk rfl rfl rfl ?_ | refine sv rfl rfl rfl (ex_cmp rfl rfl rfl (congrArg some (decide_eq_true (rfl)))) ?_
  first | refine sv rfl rfl rfl (ex_pick_t rfl rfl rfl) ?_ | refine sv rfl rfl rfl (ex_pick_f rfl rfl rfl) ?_
  refine sv rfl rfl rfl (ex_move rfl rfl) ?_
  first | refine sk rfl rfl rfl ?_ | refine sv rfl rfl rfl (ex_move rfl rfl) ?_
  first | refine sk rfl rfl rfl ?_ | refine sv rfl rfl rfl (ex_cmp rfl rfl rfl (congrArg some (decide_eq_true (rfl)))) ?_
  first | refine sv rfl rfl rfl (ex_pick_t rfl rfl rfl) ?_ | refine sv rfl rfl rfl (ex_pick_f rfl rfl rfl) ?_
  refine sv rfl rfl rfl (ex_move rfl rfl) ?_
  first | refine sk rfl rfl rfl ?_ | refine sv rfl rfl rfl (ex_move rfl rfl) ?_
  first | refine sk rfl rfl rfl ?_ | refine sv rfl rfl rfl (ex_cmp rfl rfl rfl (congrArg some (decide_eq_true (rfl)))) ?_
  first | refine sv rfl rfl rfl (ex_pick_t rfl rfl rfl) ?_ | refine sv rfl rfl rfl (ex_pick_f rfl rfl rfl) ?_
  refine sv rfl rfl rfl (ex_move rfl rfl) ?_
  first | refine sk rfl rfl rfl ?_ | refine sv rfl rfl rfl (ex_move rfl rfl) ?_
  first | refine sk rfl rfl rfl ?_ | refine sv rfl rfl rfl (ex_cmp rfl rfl rfl (congrArg some (decide_eq_true (rfl)))) ?_
  first | refine sv rfl rfl rfl (ex_pick_t rfl rfl rfl) ?_ | refine sv rfl rfl rfl (ex_pick_f rfl rfl rfl) ?_
  refine sv rfl rfl rfl (ex_move rfl rfl) ?_
  first | refine sk rfl rfl rfl ?_ | refine sv rfl rfl rfl (ex_move rfl rfl) ?_
  first | refine sk rfl rfl rfl ?_ | refine sv rfl rfl rfl (ex_cmp rfl rfl rfl (congrArg some (decide_eq_true (rfl)))) ?_
  first | refine sv rfl rfl rfl (ex_pick_t rfl rfl rfl) ?_ | refine sv rfl rfl rfl (ex_pick_f rfl rfl rfl) ?_
  refine sv rfl rfl rfl (ex_move rfl rfl) ?_
  first | refine sk rfl rfl rfl ?_ | refine sv rfl rfl rfl (ex_move rfl rfl) ?_
  first | refine sk rfl rfl rfl ?_ | refine sv rfl rfl rfl (ex_cmp rfl rfl rfl (congrArg some (decide_eq_true (rfl)))) ?_
  first | refine sv rfl rfl rfl (ex_pick_t rfl rfl rfl) ?_ | refine sv rfl rfl rfl (ex_pick_f rfl rfl rfl) ?_
  refine sv rfl rfl rfl (ex_move rfl rfl) ?_
  first | refine sk rfl rfl rfl ?_ | refine sv rfl rfl rfl (ex_move rfl rfl) ?_
  first | refine sk rfl rfl rfl ?_ | refine sv rfl rfl rfl (ex_ptrNil Tryd.underlying40 rfl rfl rfl) ?_
  first | refine sv rfl rfl rfl (ex_pick_t rfl rfl rfl) ?_ | refine sv rfl rfl rfl (ex_pick_f rfl rfl rfl) ?_
  refine sv rfl rfl rfl (ex_move rfl rfl) ?_
  first | refine sk rfl rfl rfl ?_ | refine sv rfl rfl rfl (ex_move rfl rfl) ?_
  first | refine sk rfl rfl rfl ?_ | refine sv rfl rfl rfl (ex_len Tryd.underlying35 rfl rfl) ?_
  first | refine sk rfl rfl rfl ?_ | refine sv rfl rfl rfl (ex_cmp rfl rfl rfl (congrArg some (decide_eq_true (rfl)))) ?_
  first | refine sv rfl rfl rfl (ex_pick_t rfl rfl rfl) ?_ | refine sv rfl rfl rfl (ex_pick_f rfl rfl rfl) ?_
  refine sv rfl rfl rfl (ex_move rfl rfl) ?_
  first | refine sk rfl rfl rfl ?_ | refine sv rfl rfl rfl (ex_move rfl rfl) ?_
  first | refine sk rfl rfl rfl ?_ | refine sv rfl rfl rfl (ex_len Tryd.underlying35 rfl rfl) ?_
  first | refine sk rfl rfl rfl ?_ | refine sv rfl rfl rfl (ex_cmp rfl rfl rfl (congrArg some (decide_eq_true (rfl)))) ?_
  first | refine sv rfl rfl rfl (ex_pick_t rfl rfl rfl) ?_ | refine sv rfl rfl rfl (ex_pick_f rfl rfl rfl) ?_
  refine sv rfl rfl rfl (ex_move rfl rfl) ?_
  first | refine sk rfl rfl rfl ?_ | refine sv rfl rfl rfl (ex_move rfl rfl) ?_
  first | refine sk rfl rfl rfl ?_ | refine sv rfl rfl rfl (ex_len Tryd.underlying32 rfl rfl) ?_
  first | refine sk rfl rfl rfl ?_ | refine sv rfl rfl rfl (ex_cmp rfl rfl rfl (congrArg some (decide_eq_true (rfl)))) ?_
  first | refine sv rfl rfl rfl (ex_pick_t rfl rfl rfl) ?_ | refine sv rfl rfl rfl (ex_pick_f rfl rfl rfl) ?_
  refine sv rfl rfl rfl (ex_assign rfl rfl) ?_
  refine w_nil (qe_next ?_)
  refine w_ret (qe_ret1 rfl rfl ?_)
  exact ⟨rfl, K0⟩
/-- kinkeep/kinkeeplaw16.ChunkerValid -/
theorem valid_good (q : Vut) (A : Option Addr) (c lo hi : Nat) (bs : List UInt8) (w : World) (hr : Rd w lo hi 1 A bs.length (bcells bs)) (hhi : hi ≤ w.heap.size) (hmc : bs.length ≤ c) (h3 : bs.length ≤ 300) (hT : TabAt w) :
    Ret Tryd.prog 4 [q.cut.val, .slice A bs.length c] w fun v w' => v = .bool true ∧ Ext w w' := by
  have K0 : Ext w w := Keep.refl _ _
  refine ret_of Tryd.func4 rfl rfl ?_
  refine w_seq ?_
  refine w_region ?_
  refine st rfl rfl rfl (ex_box (cs := q.cut.cells) rfl rfl rfl) ?_
  rintro _ w1 ⟨b1, rfl, hb0, E0, hb, hs0⟩
  replace K0 := K0.ext E0
  refine sv rfl rfl rfl (ex_assign rfl rfl) ?_
  refine w_nil (qe_next ?_)
  refine w_seq ?_
  refine w_seq ?_
  refine w_region ?_
  refine sv rfl rfl rfl (ex_move rfl rfl) ?_
  refine st rfl rfl rfl (ex_buildSlice (cs := [slv (A, bs.length, c)]) rfl rfl (build_bs1 (A, bs.length, c))) ?_
  rintro _ w2 ⟨g, rfl, hg0, E3, hb7, hs7⟩
  replace K0 := K0.ext E3
  replace hb := hb.ext E3
  refine st rfl rfl rfl (ex_call call15 rfl rfl ((few_c (some ⟨g, 0, none⟩) 1 1 _ _ [(A, bs.length, c)] _ rfl (by decide) (Rd.of_blk (size := 1) hb7 rfl)).mono (R' := fun v w' => v = .bool true ∧ w' = _) fun v w' h' => ⟨by rw [h'.1, decide_eq_true (by intro x hx; rw [List.mem_singleton.1 hx]; exact h3)], h'.2⟩)) ?_
  rintro _ w3 ⟨rfl, hwe⟩
  obtain rfl := hwe.symm
  refine sv rfl rfl rfl (ex_not rfl rfl) ?_
  refine w_nil (qe_next ?_)
  refine w_cond_f rfl ?_
  refine w_skip (qe_next ?_)
  refine w_seq ?_
  refine w_region ?_
  refine sv rfl rfl rfl (ex_load_agg (cs := q.cut.cells) agg24 rfl rfl (by intro j u hu; rw [Nat.zero_add]; exact hb.cell hu)) ?_
  refine st rfl rfl rfl (ex_call call19 rfl rfl ((refValid_c q.cut _).mono (R' := fun v w' => v = .bool true ∧ Ext _ w') fun v w' h' => ⟨by rw [h'.1, decide_eq_true (q.ok)], h'.2⟩)) ?_
  rintro _ w4 ⟨rfl, E1⟩
  replace K0 := K0.ext E1
  replace hb := hb.ext E1
  refine sv rfl rfl rfl (ex_assign rfl rfl) ?_
  refine w_nil (qe_next ?_)
  refine w_seq ?_
  refine w_region ?_
  refine sv rfl rfl rfl (ex_load_agg (cs := q.cut.cells) agg24 rfl rfl (by intro j u hu; rw [Nat.zero_add]; exact hb.cell hu)) ?_
  refine sv rfl rfl rfl (ex_move rfl rfl) ?_
  have hsz0 := K0.size
  refine st rfl rfl rfl (ex_call call20 rfl rfl (primary_c q A c lo hi bs _ (hr.ext K0) (by omega) (hT.ext K0) (by omega))) ?_
  rintro _ w5 ⟨P1, dP1, rfl, _, E2⟩
  replace K0 := K0.ext E2
  replace hb := hb.ext E2
  refine sv rfl rfl rfl (ex_move rfl rfl) ?_
  refine sv rfl rfl rfl (ex_extract rfl rfl rfl) ?_
  refine sv rfl rfl rfl (ex_extract rfl rfl rfl) ?_
  refine sv rfl rfl rfl (ex_assign rfl rfl) ?_
  refine sv rfl rfl rfl (ex_assign rfl rfl) ?_
  refine w_nil (qe_next ?_)
  refine w_seq ?_
  refine w_region ?_
  refine sv rfl rfl rfl (ex_load_agg (cs := q.cut.cells) agg24 rfl rfl (by intro j u hu; rw [Nat.zero_add]; exact hb.cell hu)) ?_
  refine sv rfl rfl rfl (ex_move rfl rfl) ?_
  have hsz1 := K0.size
  refine st rfl rfl rfl (ex_call call21 rfl rfl (cuts_c q A c lo hi bs _ (hr.ext K0) (by omega) (hT.ext K0) (by omega))) ?_
  rintro _ w6 ⟨P2, dP2, rfl, _, E2⟩
  replace K0 := K0.ext E2
  replace hb := hb.ext E2
  refine sv rfl rfl rfl (ex_move rfl rfl) ?_
  refine sv rfl rfl rfl (ex_extract rfl rfl rfl) ?_
  refine sv rfl rfl rfl (ex_extract rfl rfl rfl) ?_
  refine sv rfl rfl rfl (ex_assign rfl rfl) ?_
  refine sv rfl rfl rfl (ex_assign rfl rfl) ?_
  refine w_nil (qe_next ?_)
  refine w_seq ?_
  refine w_region ?_
  refine sv rfl rfl rfl (ex_load_agg (cs := q.cut.cells) agg24 rfl rfl (by intro j u hu; rw [Nat.zero_add]; exact hb.cell hu)) ?_
  refine sv rfl rfl rfl (ex_move rfl rfl) ?_
  have hsz2 := K0.size
  refine st rfl rfl rfl (ex_call call22 rfl rfl (split_c q A c lo hi bs _ (hr.ext K0) (by omega) (hT.ext K0) (by omega) hmc)) ?_
  rintro _ w7 ⟨P3, dP3, sl3, rfl, _, _, E2⟩
  replace K0 := K0.ext E2
  replace hb := hb.ext E2
  refine sv rfl rfl rfl (ex_move rfl rfl) ?_
  refine sv rfl rfl rfl (ex_extract rfl rfl rfl) ?_
  refine sv rfl rfl rfl (ex_extract rfl rfl rfl) ?_
  refine sv rfl rfl rfl (ex_assign rfl rfl) ?_
  refine sv rfl rfl rfl (ex_assign rfl rfl) ?_
  refine w_nil (qe_next ?_)
  refine w_seq ?_
  refine w_region ?_
  refine sv rfl rfl rfl (ex_load_agg (cs := q.cut.cells) agg24 rfl rfl (by intro j u hu; rw [Nat.zero_add]; exact hb.cell hu)) ?_
  refine st rfl rfl rfl (ex_call call23 rfl rfl (chunkNew_c q _ (hT.ext K0).pos)) ?_
  rintro _ w8 ⟨kk, mm, rr, rfl, _, _, _, _, E2⟩
  replace K0 := K0.ext E2
  replace hb := hb.ext E2
  refine sv rfl rfl rfl (ex_move rfl rfl) ?_
  refine sv rfl rfl rfl (ex_extract rfl rfl rfl) ?_
  refine sv rfl rfl rfl (ex_extract rfl rfl rfl) ?_
  refine sv rfl rfl rfl (ex_assign rfl rfl) ?_
  refine sv rfl rfl rfl (ex_assign rfl rfl) ?_
  refine w_nil (qe_next ?_)
  refine w_seq ?_
  refine w_region ?_
  refine sv rfl rfl rfl (ex_load_agg (cs := q.cut.cells) agg24 rfl rfl (by intro j u hu; rw [Nat.zero_add]; exact hb.cell hu)) ?_
  refine st rfl rfl rfl (ex_call call24 rfl rfl (reach_c q.cut 0 1 _ ⟨q.ok, by omega, by omega, by omega⟩)) ?_
  rintro _ w9 ⟨rfl, E2⟩
  replace K0 := K0.ext E2
  replace hb := hb.ext E2
  refine sv rfl rfl rfl (ex_move rfl rfl) ?_
  refine sv rfl rfl rfl (ex_extract rfl rfl rfl) ?_
  refine sv rfl rfl rfl (ex_extract rfl rfl rfl) ?_
  refine sv rfl rfl rfl (ex_extract rfl rfl rfl) ?_
  refine sv rfl rfl rfl (ex_assign rfl rfl) ?_
  refine sv rfl rfl rfl (ex_assign rfl rfl) ?_
  refine sv rfl rfl rfl (ex_assign rfl rfl) ?_
  refine w_nil (qe_next ?_)
  refine w_seq ?_
  refine w_region ?_
  refine sv rfl rfl rfl (ex_load_agg (cs := q.cut.cells) agg24 rfl rfl (by intro j u hu; rw [Nat.zero_add]; exact hb.cell hu)) ?_
  refine sv rfl rfl rfl (ex_move rfl rfl) ?_
  refine sv rfl rfl rfl (ex_move rfl rfl) ?_
  have hsz3 := K0.size
  refine st rfl rfl rfl (ex_call call17 rfl rfl (common_c q A c lo hi bs A c lo hi bs _ (hr.ext K0) (by omega) hmc (by omega) (hr.ext K0) (by omega) hmc (by omega) (hT.ext K0))) ?_
  rintro _ w10 ⟨nn, nm, rfl, _, _, E2⟩
  replace K0 := K0.ext E2
  replace hb := hb.ext E2
  refine sv rfl rfl rfl (ex_move rfl rfl) ?_
  refine sv rfl rfl rfl (ex_extract rfl rfl rfl) ?_
  refine sv rfl rfl rfl (ex_extract rfl rfl rfl) ?_
  refine sv rfl rfl rfl (ex_extract rfl rfl rfl) ?_
  refine sv rfl rfl rfl (ex_assign rfl rfl) ?_
  refine sv rfl rfl rfl (ex_assign rfl rfl) ?_
  refine sv rfl rfl rfl (ex_assign rfl rfl) ?_
  refine w_nil (qe_next ?_)
  refine w_seq ?_
  refine w_seq ?_
  refine w_region ?_
  refine sv rfl rfl rfl (ex_move rfl rfl) ?_
  refine w_nil (qe_next ?_)
  refine w_cond_t rfl ?_
  refine w_seq ?_
  refine w_region ?_
  refine st rfl rfl rfl (ex_call call16 rfl rfl (awake16_c _ (hT.ext K0))) ?_
  rintro _ w11 ⟨rfl, E9⟩
  replace K0 := K0.ext E9
  replace hb := hb.ext E9
  refine sv rfl rfl rfl (ex_move rfl rfl) ?_
  first | refine sk rfl rfl rfl ?_ | refine sv rfl rfl rfl (ex_load_agg (cs := q.cut.cells) agg24 rfl rfl (by intro j u hu; rw [Nat.zero_add]; exact hb.cell hu)) ?_
  refine st rfl rfl rfl (ex_call call25 rfl rfl ((valid_c q.cut _).mono (R' := fun v w' => v = .bool true ∧ Ext _ w') fun v w' h' => ⟨by rw [h'.1, decide_eq_true (q.ok)], h'.2⟩)) ?_
  rintro _ w12 ⟨rfl, E1⟩
  replace K0 := K0.ext E1
  replace hb := hb.ext E1
  first | refine sv rfl rfl rfl (ex_pick_t rfl rfl rfl) ?_ | refine sv rfl rfl rfl (ex_pick_f rfl rfl rfl) ?_
  refine sv rfl rfl rfl (ex_move rfl rfl) ?_
  first | refine sk rfl rfl rfl ?_ | refine sv rfl rfl rfl (ex_move rfl rfl) ?_
  first | refine sk rfl rfl rfl ?_ | refine sv rfl rfl rfl (ex_cmp rfl rfl rfl (congrArg some (decide_eq_true (rfl)))) ?_
  first | refine sv rfl rfl rfl (ex_pick_t rfl rfl rfl) ?_ | refine sv rfl rfl rfl (ex_pick_f rfl rfl rfl) ?_
  refine sv rfl rfl rfl (ex_move rfl rfl) ?_
  first | refine sk rfl rfl rfl ?_ | refine sv rfl rfl rfl (ex_move rfl rfl) ?_
  first | refine sk rfl rfl rfl ?_ | refine sv rfl rfl rfl (ex_cmp rfl rfl rfl (congrArg some (decide_eq_true (rfl)))) ?_
  first | refine sv rfl rfl rfl (ex_pick_t rfl rfl rfl) ?_ | refine sv rfl rfl rfl (ex_pick_f rfl rfl rfl) ?_
  refine sv rfl rfl rfl (ex_move rfl rfl) ?_
  first | refine sk rfl rfl rfl ?_ | refine sv rfl rfl rfl (ex_move rfl rfl) ?_
  first | refine sk rfl rfl rfl ?_ | refine sv rfl rfl rfl (ex_cmp rfl rfl rfl (congrArg some (decide_eq_true (rfl)))) ?_
  first | refine sv rfl rfl rfl (ex_pick_t rfl rfl rfl) ?_ | refine sv rfl rfl rfl (ex_pick_f rfl rfl rfl) ?_
  refine sv rfl rfl rfl (ex_move rfl rfl) ?_
  first | refine sk rfl rfl rfl ?_ | refine sv rfl rfl rfl (ex_move rfl rfl) ?_
  first | refine sk rfl rfl rfl ?_ | refine sv rfl rfl rfl (ex_cmp rfl rfl rfl (congrArg some (decide_eq_true (rfl)))) ?_
  first | refine sv rfl rfl rfl (ex_pick_t rfl rfl rfl) ?_ | refine sv rfl rfl rfl (ex_pick_f rfl rfl rfl) ?_
  refine sv rfl rfl rfl (ex_move rfl rfl) ?_
  first | refine sk rfl rfl rfl ?_ | refine sv rfl rfl rfl (ex_move rfl rfl) ?_
  first | refine sk rfl rfl rfl ?_ | refine sv rfl rfl rfl (ex_cmp rfl rfl rfl (congrArg some (decide_eq_true (rfl)))) ?_
  first | refine sv rfl rfl rfl (ex_pick_t rfl rfl rfl) ?_ | refine sv rfl rfl rfl (ex_pick_f rfl rfl rfl) ?_
  refine sv rfl rfl rfl (ex_move rfl rfl) ?_
  first | refine sk rfl rfl rfl ?_ | refine sv rfl rfl rfl (ex_move rfl rfl) ?_
  first | refine sk rfl rfl rfl ?_ | refine sv rfl rfl rfl (ex_cmp rfl rfl rfl (congrArg some (decide_eq_true (rfl)))) ?_
  first | refine sv rfl rfl rfl (ex_pick_t rfl rfl rfl) ?_ | refine sv rfl rfl rfl (ex_pick_f rfl rfl rfl) ?_
  refine sv rfl rfl rfl (ex_move rfl rfl) ?_
  first | refine sk rfl rfl rfl ?_ | refine sv rfl rfl rfl (ex_move rfl rfl) ?_
  first | refine sk rfl rfl rfl ?_ | refine sv rfl rfl rfl (ex_ptrNotNil Tryd.underlying40 rfl rfl rfl) ?_
  first | refine sv rfl rfl rfl (ex_pick_t rfl rfl rfl) ?_ | refine sv rfl rfl rfl (ex_pick_f rfl rfl rfl) ?_
  refine sv rfl rfl rfl (ex_assign rfl rfl) ?_
  refine w_nil (qe_next ?_)
  refine w_ret (qe_then_ret (qe_ret1 rfl rfl ?_))
  exact ⟨rfl, K0⟩
theorem valid_law (c0 : Cut) (A : Option Addr) (c lo hi : Nat) (bs : List UInt8) (w : World) (hr : Rd w lo hi 1 A bs.length (bcells bs)) (hhi : hi ≤ w.heap.size) (hmc : bs.length ≤ c) (hT : TabAt w) : Ret Tryd.prog 4 [c0.val, .slice A bs.length c] w fun v w' => v = .bool true ∧ Ext w w' := by
  by_cases h3 : bs.length ≤ 300
  · by_cases h : c0.ok
    · obtain ⟨q, rfl⟩ := h.vut
      exact valid_good q A c lo hi bs w hr hhi hmc h3 hT
    · exact valid_bad c0 A c lo hi bs w hr hhi hmc h3 h hT
  · exact valid_few c0 A c lo hi bs w hr hhi hmc h3 hT
end Go.Proofs.YtfgpcmphcnhbiaaDoor

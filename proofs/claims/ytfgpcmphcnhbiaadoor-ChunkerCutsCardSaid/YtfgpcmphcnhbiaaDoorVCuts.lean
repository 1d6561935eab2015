/- The law ChunkerCuts, walked. -/
import Derived.Test.YtfgpcmphcnhbiaaDoorP2
namespace Go.Proofs.YtfgpcmphcnhbiaaDoor
open Go Go.RowKit
set_option linter.unusedVariables false
set_option linter.unusedSimpArgs false
/-- kinkeep/kinkeeplaw16.ChunkerCuts -/
theorem cuts_bad1 (c0 : Cut) (A : Option Addr) (c lo hi : Nat) (bs : List UInt8) (w : World) (hr : Rd w lo hi 1 A bs.length (bcells bs)) (hhi : hi ≤ w.heap.size) (hmc : bs.length ≤ c) (h : ¬ (c0.ok ∧ c0.mn ≤ 40)) (hT : TabAt w) :
    Ret Tryd.prog 11 [c0.val, .slice A bs.length c] w fun v w' => v = .bool true ∧ Ext w w' := by
  have K0 : Ext w w := Keep.refl _ _
  refine ret_of Tryd.func11 rfl rfl ?_
  refine w_seq ?_
  refine w_region ?_
  refine st rfl rfl rfl (ex_box (cs := c0.cells) rfl rfl rfl) ?_
  rintro _ w1 ⟨b1, rfl, hb0, E0, hb, hs0⟩
  replace K0 := K0.ext E0
  refine sv rfl rfl rfl (ex_assign rfl rfl) ?_
  refine w_nil (qe_next ?_)
  refine w_seq ?_
  refine w_seq ?_
  refine w_region ?_
  refine sv rfl rfl rfl (ex_load_agg (cs := c0.cells) agg24 rfl rfl (by intro j u hu; rw [Nat.zero_add]; exact hb.cell hu)) ?_
  refine st rfl rfl rfl (ex_call call14 rfl rfl ((small_c c0 _).mono (R' := fun v w' => v = .bool false ∧ Ext _ w') fun v w' h' => ⟨by rw [h'.1, decide_eq_false (h)], h'.2⟩)) ?_
  rintro _ w2 ⟨rfl, E1⟩
  replace K0 := K0.ext E1
  replace hb := hb.ext E1
  refine sv rfl rfl rfl (ex_not rfl rfl) ?_
  refine sv rfl rfl rfl (ex_move rfl rfl) ?_
  first | refine sk rfl rfl rfl ?_ | refine sv rfl rfl rfl (ex_move rfl rfl) ?_
  refine sk rfl rfl rfl ?_
  refine sk rfl rfl rfl ?_
  refine sk rfl rfl rfl ?_
  first | refine sv rfl rfl rfl (ex_pick_t rfl rfl rfl) ?_ | refine sv rfl rfl rfl (ex_pick_f rfl rfl rfl) ?_
  refine w_nil (qe_next ?_)
  refine w_cond_t rfl ?_
  refine w_seq ?_
  refine w_region ?_
  refine st rfl rfl rfl (ex_call call16 rfl rfl (awake16_c _ (hT.ext K0))) ?_
  rintro _ w3 ⟨rfl, E9⟩
  replace K0 := K0.ext E9
  replace hb := hb.ext E9
  refine sv rfl rfl rfl (ex_assign rfl rfl) ?_
  refine w_nil (qe_next ?_)
  refine w_ret (qe_then_ret (qe_ret1 rfl rfl ?_))
  exact ⟨rfl, K0⟩
/-- kinkeep/kinkeeplaw16.ChunkerCuts -/
theorem cuts_bad2 (c0 : Cut) (A : Option Addr) (c lo hi : Nat) (bs : List UInt8) (w : World) (hr : Rd w lo hi 1 A bs.length (bcells bs)) (hhi : hi ≤ w.heap.size) (hmc : bs.length ≤ c) (h : c0.ok ∧ c0.mn ≤ 40) (h3 : ¬ bs.length ≤ 300) (hT : TabAt w) :
    Ret Tryd.prog 11 [c0.val, .slice A bs.length c] w fun v w' => v = .bool true ∧ Ext w w' := by
  have K0 : Ext w w := Keep.refl _ _
  refine ret_of Tryd.func11 rfl rfl ?_
  refine w_seq ?_
  refine w_region ?_
  refine st rfl rfl rfl (ex_box (cs := c0.cells) rfl rfl rfl) ?_
  rintro _ w1 ⟨b1, rfl, hb0, E0, hb, hs0⟩
  replace K0 := K0.ext E0
  refine sv rfl rfl rfl (ex_assign rfl rfl) ?_
  refine w_nil (qe_next ?_)
  refine w_seq ?_
  refine w_seq ?_
  refine w_region ?_
  refine sv rfl rfl rfl (ex_load_agg (cs := c0.cells) agg24 rfl rfl (by intro j u hu; rw [Nat.zero_add]; exact hb.cell hu)) ?_
  refine st rfl rfl rfl (ex_call call14 rfl rfl ((small_c c0 _).mono (R' := fun v w' => v = .bool true ∧ Ext _ w') fun v w' h' => ⟨by rw [h'.1, decide_eq_true (h)], h'.2⟩)) ?_
  rintro _ w2 ⟨rfl, E1⟩
  replace K0 := K0.ext E1
  replace hb := hb.ext E1
  refine sv rfl rfl rfl (ex_not rfl rfl) ?_
  refine sv rfl rfl rfl (ex_move rfl rfl) ?_
  first | refine sk rfl rfl rfl ?_ | refine sv rfl rfl rfl (ex_move rfl rfl) ?_
  refine st rfl rfl rfl (ex_buildSlice (cs := [slv (A, bs.length, c)]) rfl rfl (build_bs1 (A, bs.length, c))) ?_
  rintro _ w3 ⟨g, rfl, hg0, E3, hb7, hs7⟩
  replace K0 := K0.ext E3
  replace hb := hb.ext E3
  refine st rfl rfl rfl (ex_call call15 rfl rfl ((few_c (some ⟨g, 0, none⟩) 1 1 _ _ [(A, bs.length, c)] _ rfl (by decide) (Rd.of_blk (size := 1) hb7 rfl)).mono (R' := fun v w' => v = .bool false ∧ w' = _) fun v w' h' => ⟨by rw [h'.1, decide_eq_false (fun hh => h3 (hh _ List.mem_cons_self))], h'.2⟩)) ?_
  rintro _ w4 ⟨rfl, hwe⟩
  obtain rfl := hwe.symm
  first | refine sk rfl rfl rfl ?_ | refine sv rfl rfl rfl (ex_not rfl rfl) ?_
  first | refine sv rfl rfl rfl (ex_pick_t rfl rfl rfl) ?_ | refine sv rfl rfl rfl (ex_pick_f rfl rfl rfl) ?_
  refine w_nil (qe_next ?_)
  refine w_cond_t rfl ?_
  refine w_seq ?_
  refine w_region ?_
  refine st rfl rfl rfl (ex_call call16 rfl rfl (awake16_c _ (hT.ext K0))) ?_
  rintro _ w5 ⟨rfl, E9⟩
  replace K0 := K0.ext E9
  replace hb := hb.ext E9
  refine sv rfl rfl rfl (ex_assign rfl rfl) ?_
  refine w_nil (qe_next ?_)
  refine w_ret (qe_then_ret (qe_ret1 rfl rfl ?_))
  exact ⟨rfl, K0⟩
/-- kinkeep/kinkeeplaw16.ChunkerCuts -/
theorem cuts_good (q : Vut) (A : Option Addr) (c lo hi : Nat) (bs : List UInt8) (w : World) (hr : Rd w lo hi 1 A bs.length (bcells bs)) (hhi : hi ≤ w.heap.size) (hmc : bs.length ≤ c) (h : q.cut.ok ∧ q.cut.mn ≤ 40) (h3 : bs.length ≤ 300) (hT : TabAt w) :
    Ret Tryd.prog 11 [q.cut.val, .slice A bs.length c] w fun v w' => v = .bool true ∧ Ext w w' := by
  have K0 : Ext w w := Keep.refl _ _
  skip
  refine ret_of Tryd.func11 rfl rfl ?_
  refine w_seq ?_
  refine w_region ?_
  refine st rfl rfl rfl (ex_box (cs := q.cut.cells) rfl rfl rfl) ?_
  rintro _ w1 ⟨b1, rfl, hb0, E0, hb, hs0⟩
  replace K0 := K0.ext E0
  refine sv rfl rfl rfl (ex_assign rfl rfl) ?_
  refine w_nil (qe_next ?_)
  refine w_seq ?_
  refine w_seq ?_
  refine w_region ?_
  refine sv rfl rfl rfl (ex_load_agg (cs := q.cut.cells) agg24 rfl rfl (by intro j u hu; rw [Nat.zero_add]; exact hb.cell hu)) ?_
  refine st rfl rfl rfl (ex_call call14 rfl rfl ((small_c q.cut _).mono (R' := fun v w' => v = .bool true ∧ Ext _ w') fun v w' h' => ⟨by rw [h'.1, decide_eq_true (h)], h'.2⟩)) ?_
  rintro _ w2 ⟨rfl, E1⟩
  replace K0 := K0.ext E1
  replace hb := hb.ext E1
  refine sv rfl rfl rfl (ex_not rfl rfl) ?_
  refine sv rfl rfl rfl (ex_move rfl rfl) ?_
  first | refine sk rfl rfl rfl ?_ | refine sv rfl rfl rfl (ex_move rfl rfl) ?_
  refine st rfl rfl rfl (ex_buildSlice (cs := [slv (A, bs.length, c)]) rfl rfl (build_bs1 (A, bs.length, c))) ?_
  rintro _ w3 ⟨g, rfl, hg0, E3, hb7, hs7⟩
  replace K0 := K0.ext E3
  replace hb := hb.ext E3
  refine st rfl rfl rfl (ex_call call15 rfl rfl ((few_c (some ⟨g, 0, none⟩) 1 1 _ _ [(A, bs.length, c)] _ rfl (by decide) (Rd.of_blk (size := 1) hb7 rfl)).mono (R' := fun v w' => v = .bool true ∧ w' = _) fun v w' h' => ⟨by rw [h'.1, decide_eq_true (by intro x hx; rw [List.mem_singleton.1 hx]; exact h3)], h'.2⟩)) ?_
  rintro _ w4 ⟨rfl, hwe⟩
  obtain rfl := hwe.symm
  first | refine sk rfl rfl rfl ?_ | refine sv rfl rfl rfl (ex_not rfl rfl) ?_
  first | refine sv rfl rfl rfl (ex_pick_t rfl rfl rfl) ?_ | refine sv rfl rfl rfl (ex_pick_f rfl rfl rfl) ?_
  refine w_nil (qe_next ?_)
  refine w_cond_f rfl ?_
  refine w_skip (qe_next ?_)
  refine w_seq ?_
  refine w_region ?_
  refine sv rfl rfl rfl (ex_load_agg (cs := q.cut.cells) agg24 rfl rfl (by intro j u hu; rw [Nat.zero_add]; exact hb.cell hu)) ?_
  refine sv rfl rfl rfl (ex_move rfl rfl) ?_
  have hsz := K0.size
  refine st rfl rfl rfl (ex_call call21 rfl rfl (cuts_c q A c lo hi bs _ (hr.ext K0) (by omega) (hT.ext K0) (by omega))) ?_
  rintro _ w5 ⟨B, d, rfl, hown, E4⟩
  replace K0 := K0.ext E4
  replace hb := hb.ext E4
  refine sv rfl rfl rfl (ex_move rfl rfl) ?_
  refine sv rfl rfl rfl (ex_extract rfl rfl rfl) ?_
  refine sv rfl rfl rfl (ex_extract rfl rfl rfl) ?_
  refine sv rfl rfl rfl (ex_assign rfl rfl) ?_
  refine sv rfl rfl rfl (ex_assign rfl rfl) ?_
  refine w_nil (qe_next ?_)
  refine w_seq ?_
  refine w_region ?_
  refine sv rfl rfl rfl (ex_load_agg (cs := q.cut.cells) agg24 rfl rfl (by intro j u hu; rw [Nat.zero_add]; exact hb.cell hu)) ?_
  refine sv rfl rfl rfl (ex_move rfl rfl) ?_
  have hsz2 := K0.size
  refine st rfl rfl rfl (ex_call call22 rfl rfl (split_c q A c lo hi bs _ (hr.ext K0) (by omega) (hT.ext K0) (by omega) hmc)) ?_
  rintro _ w6 ⟨B2, d2, sl2, rfl, hs2, hso2, E5⟩
  replace K0 := K0.ext E5
  replace hb := hb.ext E5
  replace hown := hown.ext E5
  refine sv rfl rfl rfl (ex_move rfl rfl) ?_
  refine sv rfl rfl rfl (ex_extract rfl rfl rfl) ?_
  refine sv rfl rfl rfl (ex_extract rfl rfl rfl) ?_
  refine sv rfl rfl rfl (ex_assign rfl rfl) ?_
  refine sv rfl rfl rfl (ex_assign rfl rfl) ?_
  refine w_nil (qe_next ?_)
  refine w_seq ?_
  refine w_region ?_
  refine st rfl rfl rfl (ex_call call16 rfl rfl (awake16_c _ (hT.ext K0))) ?_
  rintro _ w7 ⟨rfl, E9⟩
  replace K0 := K0.ext E9
  replace hb := hb.ext E9
  replace hown := hown.ext E9
  replace hs2 := hs2.ext E9
  replace hso2 := hso2.ext E9
  refine sv rfl rfl rfl (ex_move rfl rfl) ?_
  first | refine sk rfl rfl rfl ?_ | refine sv rfl rfl rfl (ex_move rfl rfl) ?_
  first | refine sk rfl rfl rfl ?_ | refine sv rfl rfl rfl (ex_cmp rfl rfl rfl (congrArg some (decide_eq_true (rfl)))) ?_
  first | refine sv rfl rfl rfl (ex_pick_t rfl rfl rfl) ?_ | refine sv rfl rfl rfl (ex_pick_f rfl rfl rfl) ?_
  refine sv rfl rfl rfl (ex_move rfl rfl) ?_
  first | refine sk rfl rfl rfl ?_ | refine sv rfl rfl rfl (ex_move rfl rfl) ?_
  first | refine sk rfl rfl rfl ?_ | refine sv rfl rfl rfl (ex_cmp rfl rfl rfl (congrArg some (decide_eq_true (rfl)))) ?_
  first | refine sv rfl rfl rfl (ex_pick_t rfl rfl rfl) ?_ | refine sv rfl rfl rfl (ex_pick_f rfl rfl rfl) ?_
  refine sv rfl rfl rfl (ex_move rfl rfl) ?_
  first | refine sk rfl rfl rfl ?_ | refine sv rfl rfl rfl (ex_move rfl rfl) ?_
  first | refine sk rfl rfl rfl ?_ | refine sv rfl rfl rfl (ex_load_agg (cs := q.cut.cells) agg24 rfl rfl (by intro j u hu; rw [Nat.zero_add]; exact hb.cell hu)) ?_
  first | refine sk rfl rfl rfl ?_ | refine sv rfl rfl rfl (ex_move rfl rfl) ?_
  refine st rfl rfl rfl (ex_call call30 rfl rfl (refCuts_c q A c lo hi bs _ (hr.ext K0) hmc (by omega))) ?_
  rintro _ w8 ⟨B3, d3, rfl, hown3, E6⟩
  replace K0 := K0.ext E6
  replace hb := hb.ext E6
  replace hown := hown.ext E6
  replace hs2 := hs2.ext E6
  replace hso2 := hso2.ext E6
  have hel := (ecuts_inc q bs bs.length).length
  refine st rfl rfl rfl (ex_call call29 rfl rfl (ints_n B B3 _ _ d d3 _ _ _ _ (ecuts q bs bs.length).1 (ecuts q bs bs.length).1 _ rfl rfl hown.rd hown3.rd (by omega) rfl)) ?_
  rintro _ w9 ⟨rfl, E7⟩
  replace K0 := K0.ext E7
  replace hb := hb.ext E7
  replace hown := hown.ext E7
  replace hs2 := hs2.ext E7
  replace hso2 := hso2.ext E7
  replace hown3 := hown3.ext E7
  first | refine sv rfl rfl rfl (ex_pick_t rfl rfl rfl) ?_ | refine sv rfl rfl rfl (ex_pick_f rfl rfl rfl) ?_
  refine sv rfl rfl rfl (ex_move rfl rfl) ?_
  first | refine sk rfl rfl rfl ?_ | refine sv rfl rfl rfl (ex_move rfl rfl) ?_
  first | refine sk rfl rfl rfl ?_ | refine sv rfl rfl rfl (ex_load_agg (cs := q.cut.cells) agg24 rfl rfl (by intro j u hu; rw [Nat.zero_add]; exact hb.cell hu)) ?_
  first | refine sk rfl rfl rfl ?_ | refine sv rfl rfl rfl (ex_move rfl rfl) ?_
  refine st rfl rfl rfl (ex_call call18 rfl rfl (refSplit_c q A c lo hi bs _ (hr.ext K0) hmc (by omega))) ?_
  rintro _ w10 ⟨B4, d4, sl4, rfl, hs4, hso4, E8⟩
  replace K0 := K0.ext E8
  replace hb := hb.ext E8
  replace hown := hown.ext E8
  replace hs2 := hs2.ext E8
  replace hso2 := hso2.ext E8
  replace hown3 := hown3.ext E8
  have e2 := hso2.length
  have e4 := hso4.length
  have e5 := pieces_length bs (ecuts q bs bs.length).1 0
  refine st rfl rfl rfl (ex_call call28 rfl rfl (same_c B2 B4 _ _ d2 d4 _ _ _ _ sl2 sl4 (pieces bs 0 (ecuts q bs bs.length).1) _ (by omega) (by omega) (by omega) hs2.rd hs4.rd hso2.rds hso4.rds)) ?_
  rintro _ w11 ⟨rfl, E3⟩
  replace K0 := K0.ext E3
  replace hb := hb.ext E3
  replace hown := hown.ext E3
  replace hs2 := hs2.ext E3
  replace hso2 := hso2.ext E3
  replace hown3 := hown3.ext E3
  replace hs4 := hs4.ext E3
  replace hso4 := hso4.ext E3
  first | refine sv rfl rfl rfl (ex_pick_t rfl rfl rfl) ?_ | refine sv rfl rfl rfl (ex_pick_f rfl rfl rfl) ?_
  refine sv rfl rfl rfl (ex_assign rfl rfl) ?_
  refine w_nil (qe_next ?_)
  refine w_ret (qe_ret1 rfl rfl ?_)
  exact ⟨rfl, K0⟩
theorem cuts_law (c0 : Cut) (A : Option Addr) (c lo hi : Nat) (bs : List UInt8) (w : World) (hr : Rd w lo hi 1 A bs.length (bcells bs)) (hhi : hi ≤ w.heap.size) (hmc : bs.length ≤ c) (hT : TabAt w) : Ret Tryd.prog 11 [c0.val, .slice A bs.length c] w fun v w' => v = .bool true ∧ Ext w w' := by
  by_cases h : c0.ok ∧ c0.mn ≤ 40
  · by_cases h3 : bs.length ≤ 300
    · obtain ⟨q, rfl⟩ := h.1.vut
      exact cuts_good q A c lo hi bs w hr hhi hmc h h3 hT
    · exact cuts_bad2 c0 A c lo hi bs w hr hhi hmc h h3 hT
  · exact cuts_bad1 c0 A c lo hi bs w hr hhi hmc h hT
end Go.Proofs.YtfgpcmphcnhbiaaDoor

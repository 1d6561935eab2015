/- Contracts of the chunker. -/
import Derived.Test.YtfgpcmphcnhbiaaDoorH
namespace Go.Proofs.YtfgpcmphcnhbiaaDoor
open Go Go.RowKit
set_option linter.unusedVariables false
set_option linter.unusedSimpArgs false
/-- kinkeep/chunker.Valid -/
theorem valid_c (c : Cut) (w : World) :
    Ret Tryd.prog 25 [c.val] w fun v w' => v = .bool (decide c.ok) ∧ Ext w w' := by
  have K0 : Ext w w := Keep.refl _ _
  refine ret_of Tryd.func25 rfl rfl ?_
  refine w_seq ?_
  refine w_region ?_
  refine st rfl rfl rfl (ex_box (cs := c.cells) rfl rfl rfl) ?_
  rintro _ w1 ⟨b, rfl, hb0, E0, hb, hs0⟩
  replace K0 := K0.ext E0
  refine sv rfl rfl rfl (ex_assign rfl rfl) ?_
  refine w_nil (qe_next ?_)
  refine w_seq ?_
  refine w_region ?_
  refine sv rfl rfl rfl (ex_fieldAddr fld24_2 rfl rfl) ?_
  refine sv rfl rfl rfl (ex_load one3 rfl rfl (hb.cell rfl)) ?_
  refine sv_if rfl rfl rfl (ex_cmp rfl rfl rfl rfl) (fun h1_2 => ?_) (fun h1_2 => ?_)
  · skip
    refine sv rfl rfl rfl (ex_move rfl rfl) ?_
    first | refine sk rfl rfl rfl ?_ | refine sv rfl rfl rfl (ex_fieldAddr fld24_2 rfl rfl) ?_
    first | refine sk rfl rfl rfl ?_ | refine sv rfl rfl rfl (ex_load one3 rfl rfl (hb.cell rfl)) ?_
    refine sv_if rfl rfl rfl (ex_cmp rfl rfl rfl rfl) (fun h1_6 => ?_) (fun h1_6 => ?_)
    · skip
      first | refine sv rfl rfl rfl (ex_pick_t rfl rfl rfl) ?_ | refine sv rfl rfl rfl (ex_pick_f rfl rfl rfl) ?_
      refine sv rfl rfl rfl (ex_move rfl rfl) ?_
      first | refine sk rfl rfl rfl ?_ | refine sv rfl rfl rfl (ex_fieldAddr fld24_0 rfl rfl) ?_
      first | refine sk rfl rfl rfl ?_ | refine sv rfl rfl rfl (ex_load one3 rfl rfl (hb.cell rfl)) ?_
      first | refine sk rfl rfl rfl ?_ | refine sv rfl rfl rfl (ex_fieldAddr fld24_2 rfl rfl) ?_
      first | refine sk rfl rfl rfl ?_ | refine sv rfl rfl rfl (ex_load one3 rfl rfl (hb.cell rfl)) ?_
      refine sv_if rfl rfl rfl (ex_cmp rfl rfl rfl rfl) (fun h1_13 => ?_) (fun h1_13 => ?_)
      · skip
        first | refine sv rfl rfl rfl (ex_pick_t rfl rfl rfl) ?_ | refine sv rfl rfl rfl (ex_pick_f rfl rfl rfl) ?_
        refine sv rfl rfl rfl (ex_move rfl rfl) ?_
        first | refine sk rfl rfl rfl ?_ | refine sv rfl rfl rfl (ex_fieldAddr fld24_0 rfl rfl) ?_
        first | refine sk rfl rfl rfl ?_ | refine sv rfl rfl rfl (ex_load one3 rfl rfl (hb.cell rfl)) ?_
        first | refine sk rfl rfl rfl ?_ | refine sv rfl rfl rfl (ex_fieldAddr fld24_1 rfl rfl) ?_
        first | refine sk rfl rfl rfl ?_ | refine sv rfl rfl rfl (ex_load one3 rfl rfl (hb.cell rfl)) ?_
        refine sv_if rfl rfl rfl (ex_cmp rfl rfl rfl rfl) (fun h1_20 => ?_) (fun h1_20 => ?_)
        · skip
          first | refine sv rfl rfl rfl (ex_pick_t rfl rfl rfl) ?_ | refine sv rfl rfl rfl (ex_pick_f rfl rfl rfl) ?_
          refine sv rfl rfl rfl (ex_move rfl rfl) ?_
          first | refine sk rfl rfl rfl ?_ | refine sv rfl rfl rfl (ex_fieldAddr fld24_1 rfl rfl) ?_
          first | refine sk rfl rfl rfl ?_ | refine sv rfl rfl rfl (ex_load one3 rfl rfl (hb.cell rfl)) ?_
          refine sv_if rfl rfl rfl (ex_cmp rfl rfl rfl rfl) (fun h1_25 => ?_) (fun h1_25 => ?_)
          · skip
            first | refine sv rfl rfl rfl (ex_pick_t rfl rfl rfl) ?_ | refine sv rfl rfl rfl (ex_pick_f rfl rfl rfl) ?_
            refine sv rfl rfl rfl (ex_move rfl rfl) ?_
            first | refine sk rfl rfl rfl ?_ | refine sv rfl rfl rfl (ex_fieldAddr fld24_3 rfl rfl) ?_
            first | refine sk rfl rfl rfl ?_ | refine sv rfl rfl rfl (ex_load one3 rfl rfl (hb.cell rfl)) ?_
            refine sv_if rfl rfl rfl (ex_cmp rfl rfl rfl rfl) (fun h1_30 => ?_) (fun h1_30 => ?_)
            · skip
              first | refine sv rfl rfl rfl (ex_pick_t rfl rfl rfl) ?_ | refine sv rfl rfl rfl (ex_pick_f rfl rfl rfl) ?_
              refine sv rfl rfl rfl (ex_move rfl rfl) ?_
              first | refine sk rfl rfl rfl ?_ | refine sv rfl rfl rfl (ex_fieldAddr fld24_3 rfl rfl) ?_
              first | refine sk rfl rfl rfl ?_ | refine sv rfl rfl rfl (ex_load one3 rfl rfl (hb.cell rfl)) ?_
              first | refine sk rfl rfl rfl ?_ | refine sv rfl rfl rfl (ex_cmp rfl rfl rfl rfl) ?_
              first | refine sv rfl rfl rfl (ex_pick_t rfl rfl rfl) ?_ | refine sv rfl rfl rfl (ex_pick_f rfl rfl rfl) ?_
              refine sv rfl rfl rfl (ex_assign rfl rfl) ?_
              refine w_nil (qe_next ?_)
              refine w_ret (qe_ret1 rfl rfl ?_)
              exact ⟨congrArg Value.bool (by first | exact (decide_eq_true (by unfold Cut.ok; omega)).symm | exact (decide_eq_false (by unfold Cut.ok; omega)).symm | exact decide_eq_decide.2 (by unfold Cut.ok; omega)), K0⟩
            · skip
              first | refine sv rfl rfl rfl (ex_pick_t rfl rfl rfl) ?_ | refine sv rfl rfl rfl (ex_pick_f rfl rfl rfl) ?_
              refine sv rfl rfl rfl (ex_move rfl rfl) ?_
              first | refine sk rfl rfl rfl ?_ | refine sv rfl rfl rfl (ex_fieldAddr fld24_3 rfl rfl) ?_
              first | refine sk rfl rfl rfl ?_ | refine sv rfl rfl rfl (ex_load one3 rfl rfl (hb.cell rfl)) ?_
              first | refine sk rfl rfl rfl ?_ | refine sv rfl rfl rfl (ex_cmp rfl rfl rfl rfl) ?_
              first | refine sv rfl rfl rfl (ex_pick_t rfl rfl rfl) ?_ | refine sv rfl rfl rfl (ex_pick_f rfl rfl rfl) ?_
              refine sv rfl rfl rfl (ex_assign rfl rfl) ?_
              refine w_nil (qe_next ?_)
              refine w_ret (qe_ret1 rfl rfl ?_)
              exact ⟨congrArg Value.bool (by first | exact (decide_eq_true (by unfold Cut.ok; omega)).symm | exact (decide_eq_false (by unfold Cut.ok; omega)).symm | exact decide_eq_decide.2 (by unfold Cut.ok; omega)), K0⟩
          · skip
            first | refine sv rfl rfl rfl (ex_pick_t rfl rfl rfl) ?_ | refine sv rfl rfl rfl (ex_pick_f rfl rfl rfl) ?_
            refine sv rfl rfl rfl (ex_move rfl rfl) ?_
            first | refine sk rfl rfl rfl ?_ | refine sv rfl rfl rfl (ex_fieldAddr fld24_3 rfl rfl) ?_
            first | refine sk rfl rfl rfl ?_ | refine sv rfl rfl rfl (ex_load one3 rfl rfl (hb.cell rfl)) ?_
            refine sk rfl rfl rfl ?_
            first | refine sv rfl rfl rfl (ex_pick_t rfl rfl rfl) ?_ | refine sv rfl rfl rfl (ex_pick_f rfl rfl rfl) ?_
            refine sv rfl rfl rfl (ex_move rfl rfl) ?_
            first | refine sk rfl rfl rfl ?_ | refine sv rfl rfl rfl (ex_fieldAddr fld24_3 rfl rfl) ?_
            first | refine sk rfl rfl rfl ?_ | refine sv rfl rfl rfl (ex_load one3 rfl rfl (hb.cell rfl)) ?_
            first | refine sk rfl rfl rfl ?_ | refine sv rfl rfl rfl (ex_cmp rfl rfl rfl rfl) ?_
            first | refine sv rfl rfl rfl (ex_pick_t rfl rfl rfl) ?_ | refine sv rfl rfl rfl (ex_pick_f rfl rfl rfl) ?_
            refine sv rfl rfl rfl (ex_assign rfl rfl) ?_
            refine w_nil (qe_next ?_)
            refine w_ret (qe_ret1 rfl rfl ?_)
            exact ⟨congrArg Value.bool (by first | exact (decide_eq_true (by unfold Cut.ok; omega)).symm | exact (decide_eq_false (by unfold Cut.ok; omega)).symm | exact decide_eq_decide.2 (by unfold Cut.ok; omega)), K0⟩
        · skip
          first | refine sv rfl rfl rfl (ex_pick_t rfl rfl rfl) ?_ | refine sv rfl rfl rfl (ex_pick_f rfl rfl rfl) ?_
          refine sv rfl rfl rfl (ex_move rfl rfl) ?_
          first | refine sk rfl rfl rfl ?_ | refine sv rfl rfl rfl (ex_fieldAddr fld24_1 rfl rfl) ?_
          first | refine sk rfl rfl rfl ?_ | refine sv rfl rfl rfl (ex_load one3 rfl rfl (hb.cell rfl)) ?_
          refine sk rfl rfl rfl ?_
          first | refine sv rfl rfl rfl (ex_pick_t rfl rfl rfl) ?_ | refine sv rfl rfl rfl (ex_pick_f rfl rfl rfl) ?_
          refine sv rfl rfl rfl (ex_move rfl rfl) ?_
          first | refine sk rfl rfl rfl ?_ | refine sv rfl rfl rfl (ex_fieldAddr fld24_3 rfl rfl) ?_
          first | refine sk rfl rfl rfl ?_ | refine sv rfl rfl rfl (ex_load one3 rfl rfl (hb.cell rfl)) ?_
          refine sk rfl rfl rfl ?_
          first | refine sv rfl rfl rfl (ex_pick_t rfl rfl rfl) ?_ | refine sv rfl rfl rfl (ex_pick_f rfl rfl rfl) ?_
          refine sv rfl rfl rfl (ex_move rfl rfl) ?_
          first | refine sk rfl rfl rfl ?_ | refine sv rfl rfl rfl (ex_fieldAddr fld24_3 rfl rfl) ?_
          first | refine sk rfl rfl rfl ?_ | refine sv rfl rfl rfl (ex_load one3 rfl rfl (hb.cell rfl)) ?_
          first | refine sk rfl rfl rfl ?_ | refine sv rfl rfl rfl (ex_cmp rfl rfl rfl rfl) ?_
          first | refine sv rfl rfl rfl (ex_pick_t rfl rfl rfl) ?_ | refine sv rfl rfl rfl (ex_pick_f rfl rfl rfl) ?_
          refine sv rfl rfl rfl (ex_assign rfl rfl) ?_
          refine w_nil (qe_next ?_)
          refine w_ret (qe_ret1 rfl rfl ?_)
          exact ⟨congrArg Value.bool (by first | exact (decide_eq_true (by unfold Cut.ok; omega)).symm | exact (decide_eq_false (by unfold Cut.ok; omega)).symm | exact decide_eq_decide.2 (by unfold Cut.ok; omega)), K0⟩
      · skip
        first | refine sv rfl rfl rfl (ex_pick_t rfl rfl rfl) ?_ | refine sv rfl rfl rfl (ex_pick_f rfl rfl rfl) ?_
        refine sv rfl rfl rfl (ex_move rfl rfl) ?_
        first | refine sk rfl rfl rfl ?_ | refine sv rfl rfl rfl (ex_fieldAddr fld24_0 rfl rfl) ?_
        first | refine sk rfl rfl rfl ?_ | refine sv rfl rfl rfl (ex_load one3 rfl rfl (hb.cell rfl)) ?_
        first | refine sk rfl rfl rfl ?_ | refine sv rfl rfl rfl (ex_fieldAddr fld24_1 rfl rfl) ?_
        first | refine sk rfl rfl rfl ?_ | refine sv rfl rfl rfl (ex_load one3 rfl rfl (hb.cell rfl)) ?_
        refine sk rfl rfl rfl ?_
        first | refine sv rfl rfl rfl (ex_pick_t rfl rfl rfl) ?_ | refine sv rfl rfl rfl (ex_pick_f rfl rfl rfl) ?_
        refine sv rfl rfl rfl (ex_move rfl rfl) ?_
        first | refine sk rfl rfl rfl ?_ | refine sv rfl rfl rfl (ex_fieldAddr fld24_1 rfl rfl) ?_
        first | refine sk rfl rfl rfl ?_ | refine sv rfl rfl rfl (ex_load one3 rfl rfl (hb.cell rfl)) ?_
        refine sk rfl rfl rfl ?_
        first | refine sv rfl rfl rfl (ex_pick_t rfl rfl rfl) ?_ | refine sv rfl rfl rfl (ex_pick_f rfl rfl rfl) ?_
        refine sv rfl rfl rfl (ex_move rfl rfl) ?_
        first | refine sk rfl rfl rfl ?_ | refine sv rfl rfl rfl (ex_fieldAddr fld24_3 rfl rfl) ?_
        first | refine sk rfl rfl rfl ?_ | refine sv rfl rfl rfl (ex_load one3 rfl rfl (hb.cell rfl)) ?_
        refine sk rfl rfl rfl ?_
        first | refine sv rfl rfl rfl (ex_pick_t rfl rfl rfl) ?_ | refine sv rfl rfl rfl (ex_pick_f rfl rfl rfl) ?_
        refine sv rfl rfl rfl (ex_move rfl rfl) ?_
        first | refine sk rfl rfl rfl ?_ | refine sv rfl rfl rfl (ex_fieldAddr fld24_3 rfl rfl) ?_
        first | refine sk rfl rfl rfl ?_ | refine sv rfl rfl rfl (ex_load one3 rfl rfl (hb.cell rfl)) ?_
        first | refine sk rfl rfl rfl ?_ | refine sv rfl rfl rfl (ex_cmp rfl rfl rfl rfl) ?_
        first | refine sv rfl rfl rfl (ex_pick_t rfl rfl rfl) ?_ | refine sv rfl rfl rfl (ex_pick_f rfl rfl rfl) ?_
        refine sv rfl rfl rfl (ex_assign rfl rfl) ?_
        refine w_nil (qe_next ?_)
        refine w_ret (qe_ret1 rfl rfl ?_)
        exact ⟨congrArg Value.bool (by first | exact (decide_eq_true (by unfold Cut.ok; omega)).symm | exact (decide_eq_false (by unfold Cut.ok; omega)).symm | exact decide_eq_decide.2 (by unfold Cut.ok; omega)), K0⟩
    · skip
      first | refine sv rfl rfl rfl (ex_pick_t rfl rfl rfl) ?_ | refine sv rfl rfl rfl (ex_pick_f rfl rfl rfl) ?_
      refine sv rfl rfl rfl (ex_move rfl rfl) ?_
      first | refine sk rfl rfl rfl ?_ | refine sv rfl rfl rfl (ex_fieldAddr fld24_0 rfl rfl) ?_
      first | refine sk rfl rfl rfl ?_ | refine sv rfl rfl rfl (ex_load one3 rfl rfl (hb.cell rfl)) ?_
      first | refine sk rfl rfl rfl ?_ | refine sv rfl rfl rfl (ex_fieldAddr fld24_2 rfl rfl) ?_
      first | refine sk rfl rfl rfl ?_ | refine sv rfl rfl rfl (ex_load one3 rfl rfl (hb.cell rfl)) ?_
      refine sk rfl rfl rfl ?_
      first | refine sv rfl rfl rfl (ex_pick_t rfl rfl rfl) ?_ | refine sv rfl rfl rfl (ex_pick_f rfl rfl rfl) ?_
      refine sv rfl rfl rfl (ex_move rfl rfl) ?_
      first | refine sk rfl rfl rfl ?_ | refine sv rfl rfl rfl (ex_fieldAddr fld24_0 rfl rfl) ?_
      first | refine sk rfl rfl rfl ?_ | refine sv rfl rfl rfl (ex_load one3 rfl rfl (hb.cell rfl)) ?_
      first | refine sk rfl rfl rfl ?_ | refine sv rfl rfl rfl (ex_fieldAddr fld24_1 rfl rfl) ?_
      first | refine sk rfl rfl rfl ?_ | refine sv rfl rfl rfl (ex_load one3 rfl rfl (hb.cell rfl)) ?_
      refine sk rfl rfl rfl ?_
      first | refine sv rfl rfl rfl (ex_pick_t rfl rfl rfl) ?_ | refine sv rfl rfl rfl (ex_pick_f rfl rfl rfl) ?_
      refine sv rfl rfl rfl (ex_move rfl rfl) ?_
      first | refine sk rfl rfl rfl ?_ | refine sv rfl rfl rfl (ex_fieldAddr fld24_1 rfl rfl) ?_
      first | refine sk rfl rfl rfl ?_ | refine sv rfl rfl rfl (ex_load one3 rfl rfl (hb.cell rfl)) ?_
      refine sk rfl rfl rfl ?_
      first | refine sv rfl rfl rfl (ex_pick_t rfl rfl rfl) ?_ | refine sv rfl rfl rfl (ex_pick_f rfl rfl rfl) ?_
      refine sv rfl rfl rfl (ex_move rfl rfl) ?_
      first | refine sk rfl rfl rfl ?_ | refine sv rfl rfl rfl (ex_fieldAddr fld24_3 rfl rfl) ?_
      first | refine sk rfl rfl rfl ?_ | refine sv rfl rfl rfl (ex_load one3 rfl rfl (hb.cell rfl)) ?_
      refine sk rfl rfl rfl ?_
      first | refine sv rfl rfl rfl (ex_pick_t rfl rfl rfl) ?_ | refine sv rfl rfl rfl (ex_pick_f rfl rfl rfl) ?_
      refine sv rfl rfl rfl (ex_move rfl rfl) ?_
      first | refine sk rfl rfl rfl ?_ | refine sv rfl rfl rfl (ex_fieldAddr fld24_3 rfl rfl) ?_
      first | refine sk rfl rfl rfl ?_ | refine sv rfl rfl rfl (ex_load one3 rfl rfl (hb.cell rfl)) ?_
      first | refine sk rfl rfl rfl ?_ | refine sv rfl rfl rfl (ex_cmp rfl rfl rfl rfl) ?_
      first | refine sv rfl rfl rfl (ex_pick_t rfl rfl rfl) ?_ | refine sv rfl rfl rfl (ex_pick_f rfl rfl rfl) ?_
      refine sv rfl rfl rfl (ex_assign rfl rfl) ?_
      refine w_nil (qe_next ?_)
      refine w_ret (qe_ret1 rfl rfl ?_)
      exact ⟨congrArg Value.bool (by first | exact (decide_eq_true (by unfold Cut.ok; omega)).symm | exact (decide_eq_false (by unfold Cut.ok; omega)).symm | exact decide_eq_decide.2 (by unfold Cut.ok; omega)), K0⟩
  · skip
    refine sv rfl rfl rfl (ex_move rfl rfl) ?_
    first | refine sk rfl rfl rfl ?_ | refine sv rfl rfl rfl (ex_fieldAddr fld24_2 rfl rfl) ?_
    first | refine sk rfl rfl rfl ?_ | refine sv rfl rfl rfl (ex_load one3 rfl rfl (hb.cell rfl)) ?_
    refine sk rfl rfl rfl ?_
    first | refine sv rfl rfl rfl (ex_pick_t rfl rfl rfl) ?_ | refine sv rfl rfl rfl (ex_pick_f rfl rfl rfl) ?_
    refine sv rfl rfl rfl (ex_move rfl rfl) ?_
    first | refine sk rfl rfl rfl ?_ | refine sv rfl rfl rfl (ex_fieldAddr fld24_0 rfl rfl) ?_
    first | refine sk rfl rfl rfl ?_ | refine sv rfl rfl rfl (ex_load one3 rfl rfl (hb.cell rfl)) ?_
    first | refine sk rfl rfl rfl ?_ | refine sv rfl rfl rfl (ex_fieldAddr fld24_2 rfl rfl) ?_
    first | refine sk rfl rfl rfl ?_ | refine sv rfl rfl rfl (ex_load one3 rfl rfl (hb.cell rfl)) ?_
    refine sk rfl rfl rfl ?_
    first | refine sv rfl rfl rfl (ex_pick_t rfl rfl rfl) ?_ | refine sv rfl rfl rfl (ex_pick_f rfl rfl rfl) ?_
    refine sv rfl rfl rfl (ex_move rfl rfl) ?_
    first | refine sk rfl rfl rfl ?_ | refine sv rfl rfl rfl (ex_fieldAddr fld24_0 rfl rfl) ?_
    first | refine sk rfl rfl rfl ?_ | refine sv rfl rfl rfl (ex_load one3 rfl rfl (hb.cell rfl)) ?_
    first | refine sk rfl rfl rfl ?_ | refine sv rfl rfl rfl (ex_fieldAddr fld24_1 rfl rfl) ?_
    first | refine sk rfl rfl rfl ?_ | refine sv rfl rfl rfl (ex_load one3 rfl rfl (hb.cell rfl)) ?_
    refine sk rfl rfl rfl ?_
    first | refine sv rfl rfl rfl (ex_pick_t rfl rfl rfl) ?_ | refine sv rfl rfl rfl (ex_pick_f rfl rfl rfl) ?_
    refine sv rfl rfl rfl (ex_move rfl rfl) ?_
    first | refine sk rfl rfl rfl ?_ | refine sv rfl rfl rfl (ex_fieldAddr fld24_1 rfl rfl) ?_
    first | refine sk rfl rfl rfl ?_ | refine sv rfl rfl rfl (ex_load one3 rfl rfl (hb.cell rfl)) ?_
    refine sk rfl rfl rfl ?_
    first | refine sv rfl rfl rfl (ex_pick_t rfl rfl rfl) ?_ | refine sv rfl rfl rfl (ex_pick_f rfl rfl rfl) ?_
    refine sv rfl rfl rfl (ex_move rfl rfl) ?_
    first | refine sk rfl rfl rfl ?_ | refine sv rfl rfl rfl (ex_fieldAddr fld24_3 rfl rfl) ?_
    first | refine sk rfl rfl rfl ?_ | refine sv rfl rfl rfl (ex_load one3 rfl rfl (hb.cell rfl)) ?_
    refine sk rfl rfl rfl ?_
    first | refine sv rfl rfl rfl (ex_pick_t rfl rfl rfl) ?_ | refine sv rfl rfl rfl (ex_pick_f rfl rfl rfl) ?_
    refine sv rfl rfl rfl (ex_move rfl rfl) ?_
    first | refine sk rfl rfl rfl ?_ | refine sv rfl rfl rfl (ex_fieldAddr fld24_3 rfl rfl) ?_
    first | refine sk rfl rfl rfl ?_ | refine sv rfl rfl rfl (ex_load one3 rfl rfl (hb.cell rfl)) ?_
    first | refine sk rfl rfl rfl ?_ | refine sv rfl rfl rfl (ex_cmp rfl rfl rfl rfl) ?_
    first | refine sv rfl rfl rfl (ex_pick_t rfl rfl rfl) ?_ | refine sv rfl rfl rfl (ex_pick_f rfl rfl rfl) ?_
    refine sv rfl rfl rfl (ex_assign rfl rfl) ?_
    refine w_nil (qe_next ?_)
    refine w_ret (qe_ret1 rfl rfl ?_)
    exact ⟨congrArg Value.bool (by first | exact (decide_eq_true (by unfold Cut.ok; omega)).symm | exact (decide_eq_false (by unfold Cut.ok; omega)).symm | exact decide_eq_decide.2 (by unfold Cut.ok; omega)), K0⟩

/-- kinkeep/kinkeepref16.Valid -/
theorem refValid_c (c : Cut) (w : World) :
    Ret Tryd.prog 19 [c.val] w fun v w' => v = .bool (decide c.ok) ∧ Ext w w' := by
  have K0 : Ext w w := Keep.refl _ _
  refine ret_of Tryd.func19 rfl rfl ?_
  refine w_seq ?_
  refine w_region ?_
  refine st rfl rfl rfl (ex_box (cs := c.cells) rfl rfl rfl) ?_
  rintro _ w1 ⟨b, rfl, hb0, E0, hb, hs0⟩
  replace K0 := K0.ext E0
  refine sv rfl rfl rfl (ex_assign rfl rfl) ?_
  refine w_nil (qe_next ?_)
  refine w_seq ?_
  refine w_region ?_
  refine sv rfl rfl rfl (ex_fieldAddr fld24_2 rfl rfl) ?_
  refine sv rfl rfl rfl (ex_load one3 rfl rfl (hb.cell rfl)) ?_
  refine sv_if rfl rfl rfl (ex_cmp rfl rfl rfl rfl) (fun h1_2 => ?_) (fun h1_2 => ?_)
  · skip
    refine sv rfl rfl rfl (ex_move rfl rfl) ?_
    first | refine sk rfl rfl rfl ?_ | refine sv rfl rfl rfl (ex_fieldAddr fld24_2 rfl rfl) ?_
    first | refine sk rfl rfl rfl ?_ | refine sv rfl rfl rfl (ex_load one3 rfl rfl (hb.cell rfl)) ?_
    refine sv_if rfl rfl rfl (ex_cmp rfl rfl rfl rfl) (fun h1_6 => ?_) (fun h1_6 => ?_)
    · skip
      first | refine sv rfl rfl rfl (ex_pick_t rfl rfl rfl) ?_ | refine sv rfl rfl rfl (ex_pick_f rfl rfl rfl) ?_
      refine sv rfl rfl rfl (ex_move rfl rfl) ?_
      first | refine sk rfl rfl rfl ?_ | refine sv rfl rfl rfl (ex_fieldAddr fld24_0 rfl rfl) ?_
      first | refine sk rfl rfl rfl ?_ | refine sv rfl rfl rfl (ex_load one3 rfl rfl (hb.cell rfl)) ?_
      first | refine sk rfl rfl rfl ?_ | refine sv rfl rfl rfl (ex_fieldAddr fld24_2 rfl rfl) ?_
      first | refine sk rfl rfl rfl ?_ | refine sv rfl rfl rfl (ex_load one3 rfl rfl (hb.cell rfl)) ?_
      refine sv_if rfl rfl rfl (ex_cmp rfl rfl rfl rfl) (fun h1_13 => ?_) (fun h1_13 => ?_)
      · skip
        first | refine sv rfl rfl rfl (ex_pick_t rfl rfl rfl) ?_ | refine sv rfl rfl rfl (ex_pick_f rfl rfl rfl) ?_
        refine sv rfl rfl rfl (ex_move rfl rfl) ?_
        first | refine sk rfl rfl rfl ?_ | refine sv rfl rfl rfl (ex_fieldAddr fld24_1 rfl rfl) ?_
        first | refine sk rfl rfl rfl ?_ | refine sv rfl rfl rfl (ex_load one3 rfl rfl (hb.cell rfl)) ?_
        first | refine sk rfl rfl rfl ?_ | refine sv rfl rfl rfl (ex_fieldAddr fld24_0 rfl rfl) ?_
        first | refine sk rfl rfl rfl ?_ | refine sv rfl rfl rfl (ex_load one3 rfl rfl (hb.cell rfl)) ?_
        refine sv_if rfl rfl rfl (ex_cmp rfl rfl rfl rfl) (fun h1_20 => ?_) (fun h1_20 => ?_)
        · skip
          first | refine sv rfl rfl rfl (ex_pick_t rfl rfl rfl) ?_ | refine sv rfl rfl rfl (ex_pick_f rfl rfl rfl) ?_
          refine sv rfl rfl rfl (ex_move rfl rfl) ?_
          first | refine sk rfl rfl rfl ?_ | refine sv rfl rfl rfl (ex_fieldAddr fld24_1 rfl rfl) ?_
          first | refine sk rfl rfl rfl ?_ | refine sv rfl rfl rfl (ex_load one3 rfl rfl (hb.cell rfl)) ?_
          refine sv_if rfl rfl rfl (ex_cmp rfl rfl rfl rfl) (fun h1_25 => ?_) (fun h1_25 => ?_)
          · skip
            first | refine sv rfl rfl rfl (ex_pick_t rfl rfl rfl) ?_ | refine sv rfl rfl rfl (ex_pick_f rfl rfl rfl) ?_
            refine sv rfl rfl rfl (ex_move rfl rfl) ?_
            first | refine sk rfl rfl rfl ?_ | refine sv rfl rfl rfl (ex_fieldAddr fld24_3 rfl rfl) ?_
            first | refine sk rfl rfl rfl ?_ | refine sv rfl rfl rfl (ex_load one3 rfl rfl (hb.cell rfl)) ?_
            refine sv_if rfl rfl rfl (ex_cmp rfl rfl rfl rfl) (fun h1_30 => ?_) (fun h1_30 => ?_)
            · skip
              first | refine sv rfl rfl rfl (ex_pick_t rfl rfl rfl) ?_ | refine sv rfl rfl rfl (ex_pick_f rfl rfl rfl) ?_
              refine sv rfl rfl rfl (ex_move rfl rfl) ?_
              first | refine sk rfl rfl rfl ?_ | refine sv rfl rfl rfl (ex_fieldAddr fld24_3 rfl rfl) ?_
              first | refine sk rfl rfl rfl ?_ | refine sv rfl rfl rfl (ex_load one3 rfl rfl (hb.cell rfl)) ?_
              first | refine sk rfl rfl rfl ?_ | refine sv rfl rfl rfl (ex_cmp rfl rfl rfl rfl) ?_
              first | refine sv rfl rfl rfl (ex_pick_t rfl rfl rfl) ?_ | refine sv rfl rfl rfl (ex_pick_f rfl rfl rfl) ?_
              refine sv rfl rfl rfl (ex_assign rfl rfl) ?_
              refine w_nil (qe_next ?_)
              refine w_ret (qe_ret1 rfl rfl ?_)
              exact ⟨congrArg Value.bool (by first | exact (decide_eq_true (by unfold Cut.ok; omega)).symm | exact (decide_eq_false (by unfold Cut.ok; omega)).symm | exact decide_eq_decide.2 (by unfold Cut.ok; omega)), K0⟩
            · skip
              first | refine sv rfl rfl rfl (ex_pick_t rfl rfl rfl) ?_ | refine sv rfl rfl rfl (ex_pick_f rfl rfl rfl) ?_
              refine sv rfl rfl rfl (ex_move rfl rfl) ?_
              first | refine sk rfl rfl rfl ?_ | refine sv rfl rfl rfl (ex_fieldAddr fld24_3 rfl rfl) ?_
              first | refine sk rfl rfl rfl ?_ | refine sv rfl rfl rfl (ex_load one3 rfl rfl (hb.cell rfl)) ?_
              first | refine sk rfl rfl rfl ?_ | refine sv rfl rfl rfl (ex_cmp rfl rfl rfl rfl) ?_
              first | refine sv rfl rfl rfl (ex_pick_t rfl rfl rfl) ?_ | refine sv rfl rfl rfl (ex_pick_f rfl rfl rfl) ?_
              refine sv rfl rfl rfl (ex_assign rfl rfl) ?_
              refine w_nil (qe_next ?_)
              refine w_ret (qe_ret1 rfl rfl ?_)
              exact ⟨congrArg Value.bool (by first | exact (decide_eq_true (by unfold Cut.ok; omega)).symm | exact (decide_eq_false (by unfold Cut.ok; omega)).symm | exact decide_eq_decide.2 (by unfold Cut.ok; omega)), K0⟩
          · skip
            first | refine sv rfl rfl rfl (ex_pick_t rfl rfl rfl) ?_ | refine sv rfl rfl rfl (ex_pick_f rfl rfl rfl) ?_
            refine sv rfl rfl rfl (ex_move rfl rfl) ?_
            first | refine sk rfl rfl rfl ?_ | refine sv rfl rfl rfl (ex_fieldAddr fld24_3 rfl rfl) ?_
            first | refine sk rfl rfl rfl ?_ | refine sv rfl rfl rfl (ex_load one3 rfl rfl (hb.cell rfl)) ?_
            refine sk rfl rfl rfl ?_
            first | refine sv rfl rfl rfl (ex_pick_t rfl rfl rfl) ?_ | refine sv rfl rfl rfl (ex_pick_f rfl rfl rfl) ?_
            refine sv rfl rfl rfl (ex_move rfl rfl) ?_
            first | refine sk rfl rfl rfl ?_ | refine sv rfl rfl rfl (ex_fieldAddr fld24_3 rfl rfl) ?_
            first | refine sk rfl rfl rfl ?_ | refine sv rfl rfl rfl (ex_load one3 rfl rfl (hb.cell rfl)) ?_
            first | refine sk rfl rfl rfl ?_ | refine sv rfl rfl rfl (ex_cmp rfl rfl rfl rfl) ?_
            first | refine sv rfl rfl rfl (ex_pick_t rfl rfl rfl) ?_ | refine sv rfl rfl rfl (ex_pick_f rfl rfl rfl) ?_
            refine sv rfl rfl rfl (ex_assign rfl rfl) ?_
            refine w_nil (qe_next ?_)
            refine w_ret (qe_ret1 rfl rfl ?_)
            exact ⟨congrArg Value.bool (by first | exact (decide_eq_true (by unfold Cut.ok; omega)).symm | exact (decide_eq_false (by unfold Cut.ok; omega)).symm | exact decide_eq_decide.2 (by unfold Cut.ok; omega)), K0⟩
        · skip
          first | refine sv rfl rfl rfl (ex_pick_t rfl rfl rfl) ?_ | refine sv rfl rfl rfl (ex_pick_f rfl rfl rfl) ?_
          refine sv rfl rfl rfl (ex_move rfl rfl) ?_
          first | refine sk rfl rfl rfl ?_ | refine sv rfl rfl rfl (ex_fieldAddr fld24_1 rfl rfl) ?_
          first | refine sk rfl rfl rfl ?_ | refine sv rfl rfl rfl (ex_load one3 rfl rfl (hb.cell rfl)) ?_
          refine sk rfl rfl rfl ?_
          first | refine sv rfl rfl rfl (ex_pick_t rfl rfl rfl) ?_ | refine sv rfl rfl rfl (ex_pick_f rfl rfl rfl) ?_
          refine sv rfl rfl rfl (ex_move rfl rfl) ?_
          first | refine sk rfl rfl rfl ?_ | refine sv rfl rfl rfl (ex_fieldAddr fld24_3 rfl rfl) ?_
          first | refine sk rfl rfl rfl ?_ | refine sv rfl rfl rfl (ex_load one3 rfl rfl (hb.cell rfl)) ?_
          refine sk rfl rfl rfl ?_
          first | refine sv rfl rfl rfl (ex_pick_t rfl rfl rfl) ?_ | refine sv rfl rfl rfl (ex_pick_f rfl rfl rfl) ?_
          refine sv rfl rfl rfl (ex_move rfl rfl) ?_
          first | refine sk rfl rfl rfl ?_ | refine sv rfl rfl rfl (ex_fieldAddr fld24_3 rfl rfl) ?_
          first | refine sk rfl rfl rfl ?_ | refine sv rfl rfl rfl (ex_load one3 rfl rfl (hb.cell rfl)) ?_
          first | refine sk rfl rfl rfl ?_ | refine sv rfl rfl rfl (ex_cmp rfl rfl rfl rfl) ?_
          first | refine sv rfl rfl rfl (ex_pick_t rfl rfl rfl) ?_ | refine sv rfl rfl rfl (ex_pick_f rfl rfl rfl) ?_
          refine sv rfl rfl rfl (ex_assign rfl rfl) ?_
          refine w_nil (qe_next ?_)
          refine w_ret (qe_ret1 rfl rfl ?_)
          exact ⟨congrArg Value.bool (by first | exact (decide_eq_true (by unfold Cut.ok; omega)).symm | exact (decide_eq_false (by unfold Cut.ok; omega)).symm | exact decide_eq_decide.2 (by unfold Cut.ok; omega)), K0⟩
      · skip
        first | refine sv rfl rfl rfl (ex_pick_t rfl rfl rfl) ?_ | refine sv rfl rfl rfl (ex_pick_f rfl rfl rfl) ?_
        refine sv rfl rfl rfl (ex_move rfl rfl) ?_
        first | refine sk rfl rfl rfl ?_ | refine sv rfl rfl rfl (ex_fieldAddr fld24_1 rfl rfl) ?_
        first | refine sk rfl rfl rfl ?_ | refine sv rfl rfl rfl (ex_load one3 rfl rfl (hb.cell rfl)) ?_
        first | refine sk rfl rfl rfl ?_ | refine sv rfl rfl rfl (ex_fieldAddr fld24_0 rfl rfl) ?_
        first | refine sk rfl rfl rfl ?_ | refine sv rfl rfl rfl (ex_load one3 rfl rfl (hb.cell rfl)) ?_
        refine sk rfl rfl rfl ?_
        first | refine sv rfl rfl rfl (ex_pick_t rfl rfl rfl) ?_ | refine sv rfl rfl rfl (ex_pick_f rfl rfl rfl) ?_
        refine sv rfl rfl rfl (ex_move rfl rfl) ?_
        first | refine sk rfl rfl rfl ?_ | refine sv rfl rfl rfl (ex_fieldAddr fld24_1 rfl rfl) ?_
        first | refine sk rfl rfl rfl ?_ | refine sv rfl rfl rfl (ex_load one3 rfl rfl (hb.cell rfl)) ?_
        refine sk rfl rfl rfl ?_
        first | refine sv rfl rfl rfl (ex_pick_t rfl rfl rfl) ?_ | refine sv rfl rfl rfl (ex_pick_f rfl rfl rfl) ?_
        refine sv rfl rfl rfl (ex_move rfl rfl) ?_
        first | refine sk rfl rfl rfl ?_ | refine sv rfl rfl rfl (ex_fieldAddr fld24_3 rfl rfl) ?_
        first | refine sk rfl rfl rfl ?_ | refine sv rfl rfl rfl (ex_load one3 rfl rfl (hb.cell rfl)) ?_
        refine sk rfl rfl rfl ?_
        first | refine sv rfl rfl rfl (ex_pick_t rfl rfl rfl) ?_ | refine sv rfl rfl rfl (ex_pick_f rfl rfl rfl) ?_
        refine sv rfl rfl rfl (ex_move rfl rfl) ?_
        first | refine sk rfl rfl rfl ?_ | refine sv rfl rfl rfl (ex_fieldAddr fld24_3 rfl rfl) ?_
        first | refine sk rfl rfl rfl ?_ | refine sv rfl rfl rfl (ex_load one3 rfl rfl (hb.cell rfl)) ?_
        first | refine sk rfl rfl rfl ?_ | refine sv rfl rfl rfl (ex_cmp rfl rfl rfl rfl) ?_
        first | refine sv rfl rfl rfl (ex_pick_t rfl rfl rfl) ?_ | refine sv rfl rfl rfl (ex_pick_f rfl rfl rfl) ?_
        refine sv rfl rfl rfl (ex_assign rfl rfl) ?_
        refine w_nil (qe_next ?_)
        refine w_ret (qe_ret1 rfl rfl ?_)
        exact ⟨congrArg Value.bool (by first | exact (decide_eq_true (by unfold Cut.ok; omega)).symm | exact (decide_eq_false (by unfold Cut.ok; omega)).symm | exact decide_eq_decide.2 (by unfold Cut.ok; omega)), K0⟩
    · skip
      first | refine sv rfl rfl rfl (ex_pick_t rfl rfl rfl) ?_ | refine sv rfl rfl rfl (ex_pick_f rfl rfl rfl) ?_
      refine sv rfl rfl rfl (ex_move rfl rfl) ?_
      first | refine sk rfl rfl rfl ?_ | refine sv rfl rfl rfl (ex_fieldAddr fld24_0 rfl rfl) ?_
      first | refine sk rfl rfl rfl ?_ | refine sv rfl rfl rfl (ex_load one3 rfl rfl (hb.cell rfl)) ?_
      first | refine sk rfl rfl rfl ?_ | refine sv rfl rfl rfl (ex_fieldAddr fld24_2 rfl rfl) ?_
      first | refine sk rfl rfl rfl ?_ | refine sv rfl rfl rfl (ex_load one3 rfl rfl (hb.cell rfl)) ?_
      refine sk rfl rfl rfl ?_
      first | refine sv rfl rfl rfl (ex_pick_t rfl rfl rfl) ?_ | refine sv rfl rfl rfl (ex_pick_f rfl rfl rfl) ?_
      refine sv rfl rfl rfl (ex_move rfl rfl) ?_
      first | refine sk rfl rfl rfl ?_ | refine sv rfl rfl rfl (ex_fieldAddr fld24_1 rfl rfl) ?_
      first | refine sk rfl rfl rfl ?_ | refine sv rfl rfl rfl (ex_load one3 rfl rfl (hb.cell rfl)) ?_
      first | refine sk rfl rfl rfl ?_ | refine sv rfl rfl rfl (ex_fieldAddr fld24_0 rfl rfl) ?_
      first | refine sk rfl rfl rfl ?_ | refine sv rfl rfl rfl (ex_load one3 rfl rfl (hb.cell rfl)) ?_
      refine sk rfl rfl rfl ?_
      first | refine sv rfl rfl rfl (ex_pick_t rfl rfl rfl) ?_ | refine sv rfl rfl rfl (ex_pick_f rfl rfl rfl) ?_
      refine sv rfl rfl rfl (ex_move rfl rfl) ?_
      first | refine sk rfl rfl rfl ?_ | refine sv rfl rfl rfl (ex_fieldAddr fld24_1 rfl rfl) ?_
      first | refine sk rfl rfl rfl ?_ | refine sv rfl rfl rfl (ex_load one3 rfl rfl (hb.cell rfl)) ?_
      refine sk rfl rfl rfl ?_
      first | refine sv rfl rfl rfl (ex_pick_t rfl rfl rfl) ?_ | refine sv rfl rfl rfl (ex_pick_f rfl rfl rfl) ?_
      refine sv rfl rfl rfl (ex_move rfl rfl) ?_
      first | refine sk rfl rfl rfl ?_ | refine sv rfl rfl rfl (ex_fieldAddr fld24_3 rfl rfl) ?_
      first | refine sk rfl rfl rfl ?_ | refine sv rfl rfl rfl (ex_load one3 rfl rfl (hb.cell rfl)) ?_
      refine sk rfl rfl rfl ?_
      first | refine sv rfl rfl rfl (ex_pick_t rfl rfl rfl) ?_ | refine sv rfl rfl rfl (ex_pick_f rfl rfl rfl) ?_
      refine sv rfl rfl rfl (ex_move rfl rfl) ?_
      first | refine sk rfl rfl rfl ?_ | refine sv rfl rfl rfl (ex_fieldAddr fld24_3 rfl rfl) ?_
      first | refine sk rfl rfl rfl ?_ | refine sv rfl rfl rfl (ex_load one3 rfl rfl (hb.cell rfl)) ?_
      first | refine sk rfl rfl rfl ?_ | refine sv rfl rfl rfl (ex_cmp rfl rfl rfl rfl) ?_
      first | refine sv rfl rfl rfl (ex_pick_t rfl rfl rfl) ?_ | refine sv rfl rfl rfl (ex_pick_f rfl rfl rfl) ?_
      refine sv rfl rfl rfl (ex_assign rfl rfl) ?_
      refine w_nil (qe_next ?_)
      refine w_ret (qe_ret1 rfl rfl ?_)
      exact ⟨congrArg Value.bool (by first | exact (decide_eq_true (by unfold Cut.ok; omega)).symm | exact (decide_eq_false (by unfold Cut.ok; omega)).symm | exact decide_eq_decide.2 (by unfold Cut.ok; omega)), K0⟩
  · skip
    refine sv rfl rfl rfl (ex_move rfl rfl) ?_
    first | refine sk rfl rfl rfl ?_ | refine sv rfl rfl rfl (ex_fieldAddr fld24_2 rfl rfl) ?_
    first | refine sk rfl rfl rfl ?_ | refine sv rfl rfl rfl (ex_load one3 rfl rfl (hb.cell rfl)) ?_
    refine sk rfl rfl rfl ?_
    first | refine sv rfl rfl rfl (ex_pick_t rfl rfl rfl) ?_ | refine sv rfl rfl rfl (ex_pick_f rfl rfl rfl) ?_
    refine sv rfl rfl rfl (ex_move rfl rfl) ?_
    first | refine sk rfl rfl rfl ?_ | refine sv rfl rfl rfl (ex_fieldAddr fld24_0 rfl rfl) ?_
    first | refine sk rfl rfl rfl ?_ | refine sv rfl rfl rfl (ex_load one3 rfl rfl (hb.cell rfl)) ?_
    first | refine sk rfl rfl rfl ?_ | refine sv rfl rfl rfl (ex_fieldAddr fld24_2 rfl rfl) ?_
    first | refine sk rfl rfl rfl ?_ | refine sv rfl rfl rfl (ex_load one3 rfl rfl (hb.cell rfl)) ?_
    refine sk rfl rfl rfl ?_
    first | refine sv rfl rfl rfl (ex_pick_t rfl rfl rfl) ?_ | refine sv rfl rfl rfl (ex_pick_f rfl rfl rfl) ?_
    refine sv rfl rfl rfl (ex_move rfl rfl) ?_
    first | refine sk rfl rfl rfl ?_ | refine sv rfl rfl rfl (ex_fieldAddr fld24_1 rfl rfl) ?_
    first | refine sk rfl rfl rfl ?_ | refine sv rfl rfl rfl (ex_load one3 rfl rfl (hb.cell rfl)) ?_
    first | refine sk rfl rfl rfl ?_ | refine sv rfl rfl rfl (ex_fieldAddr fld24_0 rfl rfl) ?_
    first | refine sk rfl rfl rfl ?_ | refine sv rfl rfl rfl (ex_load one3 rfl rfl (hb.cell rfl)) ?_
    refine sk rfl rfl rfl ?_
    first | refine sv rfl rfl rfl (ex_pick_t rfl rfl rfl) ?_ | refine sv rfl rfl rfl (ex_pick_f rfl rfl rfl) ?_
    refine sv rfl rfl rfl (ex_move rfl rfl) ?_
    first | refine sk rfl rfl rfl ?_ | refine sv rfl rfl rfl (ex_fieldAddr fld24_1 rfl rfl) ?_
    first | refine sk rfl rfl rfl ?_ | refine sv rfl rfl rfl (ex_load one3 rfl rfl (hb.cell rfl)) ?_
    refine sk rfl rfl rfl ?_
    first | refine sv rfl rfl rfl (ex_pick_t rfl rfl rfl) ?_ | refine sv rfl rfl rfl (ex_pick_f rfl rfl rfl) ?_
    refine sv rfl rfl rfl (ex_move rfl rfl) ?_
    first | refine sk rfl rfl rfl ?_ | refine sv rfl rfl rfl (ex_fieldAddr fld24_3 rfl rfl) ?_
    first | refine sk rfl rfl rfl ?_ | refine sv rfl rfl rfl (ex_load one3 rfl rfl (hb.cell rfl)) ?_
    refine sk rfl rfl rfl ?_
    first | refine sv rfl rfl rfl (ex_pick_t rfl rfl rfl) ?_ | refine sv rfl rfl rfl (ex_pick_f rfl rfl rfl) ?_
    refine sv rfl rfl rfl (ex_move rfl rfl) ?_
    first | refine sk rfl rfl rfl ?_ | refine sv rfl rfl rfl (ex_fieldAddr fld24_3 rfl rfl) ?_
    first | refine sk rfl rfl rfl ?_ | refine sv rfl rfl rfl (ex_load one3 rfl rfl (hb.cell rfl)) ?_
    first | refine sk rfl rfl rfl ?_ | refine sv rfl rfl rfl (ex_cmp rfl rfl rfl rfl) ?_
    first | refine sv rfl rfl rfl (ex_pick_t rfl rfl rfl) ?_ | refine sv rfl rfl rfl (ex_pick_f rfl rfl rfl) ?_
    refine sv rfl rfl rfl (ex_assign rfl rfl) ?_
    refine w_nil (qe_next ?_)
    refine w_ret (qe_ret1 rfl rfl ?_)
    exact ⟨congrArg Value.bool (by first | exact (decide_eq_true (by unfold Cut.ok; omega)).symm | exact (decide_eq_false (by unfold Cut.ok; omega)).symm | exact decide_eq_decide.2 (by unfold Cut.ok; omega)), K0⟩

/-- kinkeep/kinkeeplaw16.small -/
theorem small_t (c : Cut) (w : World) (h : c.ok) :
    Ret Tryd.prog 14 [c.val] w fun v w' => v = .bool (decide (c.ok ∧ c.mn ≤ 40)) ∧ Ext w w' := by
  have K0 : Ext w w := Keep.refl _ _
  refine ret_of Tryd.func14 rfl rfl ?_
  refine w_seq ?_
  refine w_region ?_
  refine st rfl rfl rfl (ex_box (cs := c.cells) rfl rfl rfl) ?_
  rintro _ w1 ⟨b, rfl, hb0, E0, hb, hs0⟩
  replace K0 := K0.ext E0
  refine sv rfl rfl rfl (ex_assign rfl rfl) ?_
  refine w_nil (qe_next ?_)
  refine w_seq ?_
  refine w_region ?_
  refine sv rfl rfl rfl (ex_load_agg (cs := c.cells) agg24 rfl rfl (by intro j u hu; rw [Nat.zero_add]; exact hb.cell hu)) ?_
  refine st rfl rfl rfl (ex_call call19 rfl rfl ((refValid_c c _).mono (R' := fun v w' => v = .bool true ∧ Ext _ w') fun v w' h' => ⟨by rw [h'.1, decide_eq_true h], h'.2⟩)) ?_
  rintro _ w2 ⟨rfl, E1⟩
  replace K0 := K0.ext E1
  replace hb := hb.ext E1
  refine sv rfl rfl rfl (ex_move rfl rfl) ?_
  first | refine sk rfl rfl rfl ?_ | refine sv rfl rfl rfl (ex_fieldAddr fld24_0 rfl rfl) ?_
  first | refine sk rfl rfl rfl ?_ | refine sv rfl rfl rfl (ex_load one3 rfl rfl (hb.cell rfl)) ?_
  first | refine sk rfl rfl rfl ?_ | refine sv rfl rfl rfl (ex_cmp rfl rfl rfl rfl) ?_
  first | refine sv rfl rfl rfl (ex_pick_t rfl rfl rfl) ?_ | refine sv rfl rfl rfl (ex_pick_f rfl rfl rfl) ?_
  refine sv rfl rfl rfl (ex_assign rfl rfl) ?_
  refine w_nil (qe_next ?_)
  refine w_ret (qe_ret1 rfl rfl ?_)
  exact ⟨congrArg Value.bool (decide_eq_decide.2 ⟨fun h2 => ⟨h, h2⟩, fun h2 => h2.2⟩), K0⟩

/-- kinkeep/kinkeeplaw16.small -/
theorem small_f (c : Cut) (w : World) (h : ¬ c.ok) :
    Ret Tryd.prog 14 [c.val] w fun v w' => v = .bool (decide (c.ok ∧ c.mn ≤ 40)) ∧ Ext w w' := by
  have K0 : Ext w w := Keep.refl _ _
  refine ret_of Tryd.func14 rfl rfl ?_
  refine w_seq ?_
  refine w_region ?_
  refine st rfl rfl rfl (ex_box (cs := c.cells) rfl rfl rfl) ?_
  rintro _ w1 ⟨b, rfl, hb0, E0, hb, hs0⟩
  replace K0 := K0.ext E0
  refine sv rfl rfl rfl (ex_assign rfl rfl) ?_
  refine w_nil (qe_next ?_)
  refine w_seq ?_
  refine w_region ?_
  refine sv rfl rfl rfl (ex_load_agg (cs := c.cells) agg24 rfl rfl (by intro j u hu; rw [Nat.zero_add]; exact hb.cell hu)) ?_
  refine st rfl rfl rfl (ex_call call19 rfl rfl ((refValid_c c _).mono (R' := fun v w' => v = .bool false ∧ Ext _ w') fun v w' h' => ⟨by rw [h'.1, decide_eq_false h], h'.2⟩)) ?_
  rintro _ w2 ⟨rfl, E1⟩
  replace K0 := K0.ext E1
  replace hb := hb.ext E1
  refine sv rfl rfl rfl (ex_move rfl rfl) ?_
  first | refine sk rfl rfl rfl ?_ | refine sv rfl rfl rfl (ex_fieldAddr fld24_0 rfl rfl) ?_
  first | refine sk rfl rfl rfl ?_ | refine sv rfl rfl rfl (ex_load one3 rfl rfl (hb.cell rfl)) ?_
  refine sk rfl rfl rfl ?_
  first | refine sv rfl rfl rfl (ex_pick_t rfl rfl rfl) ?_ | refine sv rfl rfl rfl (ex_pick_f rfl rfl rfl) ?_
  refine sv rfl rfl rfl (ex_assign rfl rfl) ?_
  refine w_nil (qe_next ?_)
  refine w_ret (qe_ret1 rfl rfl ?_)
  exact ⟨congrArg Value.bool (decide_eq_false fun h2 => h h2.1).symm, K0⟩

theorem small_c (c : Cut) (w : World) : Ret Tryd.prog 14 [c.val] w fun v w' => v = .bool (decide (c.ok ∧ c.mn ≤ 40)) ∧ Ext w w' := if h : c.ok then small_t c w h else small_f c w h

/-- kinkeep/kinkeeplaw16.few -/
theorem few_c (A : Option Addr) (n c lo hi : Nat) (sl : List Sl) (w : World) (hn : n = sl.length) (hn1 : n ≤ 1000) (hr : Rd w lo hi 1 A n (sl.map slv)) :
    Ret Tryd.prog 15 [.slice A n c] w fun v w' => Dv (.bool (decide (∀ x ∈ sl, x.2.1 ≤ 300))) w v w' := by
  refine ret_of Tryd.func15 rfl rfl ?_
  refine w_seq ?_
  refine w_region ?_
  refine sv rfl rfl rfl (ex_assign rfl rfl) ?_
  refine w_nil (qe_next ?_)
  refine w_seq ?_
  refine w_seq ?_
  refine w_region ?_
  refine sv rfl rfl rfl (ex_assign rfl rfl) ?_
  refine w_nil (qe_next ?_)
  refine w_block ?_
  refine w_loop (ι := Nat) (fun k => [(0, .slice A n c), (3, .int .i64 (k : Int))]) (fun k w1 => k ≤ n ∧ (∀ j x, j < k → sl[j]? = some x → x.2.1 ≤ 300) ∧ w1 = w) (fun k => n - k) (0) ⟨rfl, rfl, trivial⟩ ?_ ?_
  · exact ⟨by omega, fun j x hj => by omega, rfl⟩
  · rintro k _ ⟨hk, hall, rfl⟩
    refine w_seq ?_
    refine w_seq ?_
    refine w_region ?_
    refine sv rfl rfl rfl (ex_move rfl rfl) ?_
    refine sv rfl rfl rfl (ex_move rfl rfl) ?_
    refine sv rfl rfl rfl (ex_len Tryd.underlying32 rfl rfl) ?_
    refine sv rfl rfl rfl (ex_cmp rfl rfl rfl rfl) ?_
    refine w_nil (qe_next ?_)
    refine w_if rfl (fun hk2 => ?_) (fun hk2 => ?_)
    · skip
      replace hk2 : k < n := by omega
      obtain ⟨bb, oo, u, rfl, _, _, hu, hcell⟩ := hr.at_ hk2
      rw [List.getElem?_map] at hu
      obtain ⟨s, hsl, rfl⟩ := Option.map_eq_some_iff.1 hu
      refine w_skip (qe_next ?_)
      refine w_seq ?_
      refine w_block ?_
      refine w_seq ?_
      refine w_region ?_
      refine sv rfl rfl rfl (ex_move rfl rfl) ?_
      refine sv rfl rfl rfl (ex_move rfl rfl) ?_
      refine sv rfl rfl rfl (ex_index Tryd.underlying32 sz25 _ rfl rfl rfl rfl (by omega)) ?_
      refine sv rfl rfl rfl (ex_load one25 rfl rfl (v := .slice s.1 s.2.1 s.2.2) hcell) ?_
      refine sv rfl rfl rfl (ex_len Tryd.underlying25 rfl rfl) ?_
      refine sv rfl rfl rfl (ex_cmp rfl rfl rfl rfl) ?_
      refine w_nil (qe_next ?_)
      refine w_if rfl (fun h4 => ?_) (fun h4 => ?_)
      · skip
        refine w_seq ?_
        refine w_region ?_
        refine sv rfl rfl rfl (ex_assign rfl rfl) ?_
        refine w_nil (qe_next ?_)
        refine w_ret (qe_in_ret (qe_then_ret (qe_then_ret (qe_in_ret (qe_then_ret (qe_ret1 rfl rfl ?_))))))
        exact ⟨congrArg Value.bool (decide_eq_false fun h => by have := h s (List.mem_of_getElem? hsl); omega).symm, rfl⟩
      · skip
        refine w_skip (qe_in_normal (qe_next ?_))
        refine w_region ?_
        refine sv rfl rfl rfl (ex_move rfl rfl) ?_
        refine sv rfl rfl rfl (ex_add rfl rfl rfl (i64_in (by omega) (by omega))) ?_
        refine sv rfl rfl rfl (ex_assign rfl rfl) ?_
        refine w_nil (qe_round (k + 1) ⟨rfl, rfl, trivial⟩ ?_ ?_)
        · refine ⟨by omega, fun j x hj hx => ?_, rfl⟩
          by_cases e : j = k
          · subst e; rw [hsl] at hx; cases hx; omega
          · exact hall j x (by omega) hx
        · omega
    · skip
      replace hk2 : k = n := by omega
      subst hk2
      refine w_exit (qe_then_exit (qe_then_exit (qe_in_exit (qe_next ?_))))
      refine w_seq ?_
      refine w_region ?_
      refine sv rfl rfl rfl (ex_assign rfl rfl) ?_
      refine w_nil (qe_next ?_)
      refine w_ret (qe_ret1 rfl rfl ?_)
      exact ⟨congrArg Value.bool (decide_eq_true fun x hx => by obtain ⟨j, hj⟩ := List.getElem?_of_mem hx; exact hall j x (by have := (List.getElem?_eq_some_iff.1 hj).1; omega) hj).symm, rfl⟩

/-- kinkeep/chunker.checked$1 -/
theorem checked1_c (A : Option Addr) (n c : Nat) (w : World) :
    Ret Tryd.prog 42 [.slice A n c] w fun v w' => Dv (.bool (decide (1048576 < (n : Int)))) w v w' := by
  refine ret_of Tryd.func42 rfl rfl ?_
  refine w_seq ?_
  refine w_region ?_
  refine sv rfl rfl rfl (ex_assign rfl rfl) ?_
  refine w_nil (qe_next ?_)
  refine w_seq ?_
  refine w_region ?_
  refine sv rfl rfl rfl (ex_move rfl rfl) ?_
  refine sv rfl rfl rfl (ex_len Tryd.underlying25 rfl rfl) ?_
  refine sv rfl rfl rfl (ex_cmp rfl rfl rfl rfl) ?_
  refine sv rfl rfl rfl (ex_assign rfl rfl) ?_
  refine w_nil (qe_next ?_)
  refine w_ret (qe_ret1 rfl rfl ?_)
  exact ⟨rfl, rfl⟩

/-- slices.IndexFunc[[][]byte,[]byte] -/
theorem index_c (A : Option Addr) (n c lo hi : Nat) (sl : List Sl) (w : World) (hn : n = sl.length) (hn1 : n ≤ 1000) (hr : Rd w lo hi 1 A n (sl.map slv)) (hall : ∀ x ∈ sl, x.2.1 ≤ 1048576) :
    Ret Tryd.prog 52 [.slice A n c, .func (.func 42) #[] #[]] w fun v w' => Dv (.int .i64 (-1)) w v w' := by
  refine ret_of Tryd.func52 rfl rfl ?_
  refine w_seq ?_
  refine w_region ?_
  refine sv rfl rfl rfl (ex_assign rfl rfl) ?_
  refine w_nil (qe_next ?_)
  refine w_seq ?_
  refine w_seq ?_
  refine w_region ?_
  refine sv rfl rfl rfl (ex_move rfl rfl) ?_
  refine sv rfl rfl rfl (ex_len Tryd.underlying32 rfl rfl) ?_
  refine sv rfl rfl rfl (ex_move rfl rfl) ?_
  refine w_nil (qe_next ?_)
  refine w_block ?_
  refine w_loop (ι := Nat) (fun k => [(0, .slice A n c), (1, .func (.func 42) #[] #[]), (7, .int .i64 (n : Int)), (8, .int .i64 (k : Int))]) (fun k w1 => k ≤ n ∧ w1 = w) (fun k => n - k) (0) ⟨rfl, rfl, rfl, rfl, trivial⟩ ?_ ?_
  · exact ⟨by omega, rfl⟩
  · rintro k _ ⟨hk, rfl⟩
    refine w_seq ?_
    refine w_region ?_
    refine sv rfl rfl rfl (ex_cmp rfl rfl rfl rfl) ?_
    refine w_nil (qe_next ?_)
    refine w_seq ?_
    refine w_if rfl (fun hk2 => ?_) (fun hk2 => ?_)
    · skip
      replace hk2 : k < n := by omega
      obtain ⟨bb, oo, u, rfl, _, _, hu, hcell⟩ := hr.at_ hk2
      rw [List.getElem?_map] at hu
      obtain ⟨s, hsl, rfl⟩ := Option.map_eq_some_iff.1 hu
      have hs := hall s (List.mem_of_getElem? hsl)
      refine w_skip (qe_next ?_)
      refine w_seq ?_
      refine w_block ?_
      refine w_seq ?_
      refine w_region ?_
      refine sv rfl rfl rfl (ex_move rfl rfl) ?_
      refine sv rfl rfl rfl (ex_assign rfl rfl) ?_
      refine w_nil (qe_next ?_)
      refine w_seq ?_
      refine w_region ?_
      refine sv rfl rfl rfl (ex_move rfl rfl) ?_
      refine sv rfl rfl rfl (ex_move rfl rfl) ?_
      refine sv rfl rfl rfl (ex_move rfl rfl) ?_
      refine sv rfl rfl rfl (ex_index Tryd.underlying32 sz25 _ rfl rfl rfl rfl (by omega)) ?_
      refine sv rfl rfl rfl (ex_load one25 rfl rfl (v := .slice s.1 s.2.1 s.2.2) hcell) ?_
      refine st rfl rfl rfl (ex_callv call42 rfl rfl (vs := [.slice s.1 s.2.1 s.2.2]) (lb := []) rfl ((checked1_c s.1 s.2.1 s.2.2 _).mono (R' := fun v' w' => v' = .bool false ∧ w' = _) fun v' w' h' => ⟨by rw [h'.1, decide_eq_false (by omega)], h'.2⟩)) ?_
      rintro _ w1 ⟨rfl, rfl⟩
      refine w_nil (qe_next ?_)
      refine w_cond_f rfl ?_
      refine w_skip (qe_in_normal (qe_next ?_))
      refine w_region ?_
      refine sv rfl rfl rfl (ex_add rfl rfl rfl (i64_in (by omega) (by omega))) ?_
      refine sv rfl rfl rfl (ex_move rfl rfl) ?_
      refine w_nil (qe_round (k + 1) ⟨rfl, rfl, rfl, rfl, trivial⟩ ?_ ?_)
      · exact ⟨by omega, rfl⟩
      · omega
    · skip
      refine w_exit (qe_then_exit (qe_then_exit (qe_in_exit (qe_next ?_))))
      refine w_seq ?_
      refine w_region ?_
      refine sv rfl rfl rfl (ex_assign rfl rfl) ?_
      refine w_nil (qe_next ?_)
      refine w_ret (qe_ret1 rfl rfl ?_)
      exact ⟨rfl, rfl⟩

/-- slices.ContainsFunc[[][]byte,[]byte] -/
theorem contains_c (A : Option Addr) (n c lo hi : Nat) (sl : List Sl) (w : World) (hn : n = sl.length) (hn1 : n ≤ 1000) (hr : Rd w lo hi 1 A n (sl.map slv)) (hall : ∀ x ∈ sl, x.2.1 ≤ 1048576) :
    Ret Tryd.prog 41 [.slice A n c, .func (.func 42) #[] #[]] w fun v w' => Dv (.bool false) w v w' := by
  refine ret_of Tryd.func41 rfl rfl ?_
  refine w_seq ?_
  refine w_region ?_
  refine sv rfl rfl rfl (ex_assign rfl rfl) ?_
  refine w_nil (qe_next ?_)
  refine w_seq ?_
  refine w_region ?_
  refine sv rfl rfl rfl (ex_move rfl rfl) ?_
  refine sv rfl rfl rfl (ex_move rfl rfl) ?_
  refine st rfl rfl rfl (ex_call call52 rfl rfl (index_c A n c lo hi sl _ hn hn1 hr hall)) ?_
  rintro _ w1 ⟨rfl, hwe⟩
  obtain rfl := hwe.symm
  refine sv rfl rfl rfl (ex_cmp rfl rfl rfl (congrArg some (decide_eq_false (by omega)))) ?_
  refine sv rfl rfl rfl (ex_assign rfl rfl) ?_
  refine w_nil (qe_next ?_)
  refine w_ret (qe_ret1 rfl rfl ?_)
  exact ⟨rfl, rfl⟩

/-- kinkeep/chunker.checked -/
theorem checked_c (q : Cut) (A : Option Addr) (n c lo hi : Nat) (sl : List Sl) (w : World) (hn : n = sl.length) (hn1 : n ≤ 1000) (hr : Rd w lo hi 1 A n (sl.map slv)) (hall : ∀ x ∈ sl, x.2.1 ≤ 1048576) (h : q.ok) :
    Ret Tryd.prog 33 [q.val, .slice A n c] w fun v w' => v = .int .i64 0 ∧ Ext w w' := by
  have K0 : Ext w w := Keep.refl _ _
  refine ret_of Tryd.func33 rfl rfl ?_
  refine w_seq ?_
  refine w_region ?_
  refine st rfl rfl rfl (ex_box (cs := q.cells) rfl rfl rfl) ?_
  rintro _ w1 ⟨b, rfl, hb0, E0, hb, hs0⟩
  replace K0 := K0.ext E0
  refine sv rfl rfl rfl (ex_assign rfl rfl) ?_
  refine w_nil (qe_next ?_)
  refine w_seq ?_
  refine w_seq ?_
  refine w_region ?_
  refine sv rfl rfl rfl (ex_load_agg (cs := q.cells) agg24 rfl rfl (by intro j u hu; rw [Nat.zero_add]; exact hb.cell hu)) ?_
  refine st rfl rfl rfl (ex_call call25 rfl rfl ((valid_c q _).mono (R' := fun v w' => v = .bool true ∧ Ext _ w') fun v w' h' => ⟨by rw [h'.1, decide_eq_true h], h'.2⟩)) ?_
  rintro _ w2 ⟨rfl, E1⟩
  replace K0 := K0.ext E1
  replace hb := hb.ext E1
  refine sv rfl rfl rfl (ex_not rfl rfl) ?_
  refine w_nil (qe_next ?_)
  refine w_cond_f rfl ?_
  refine w_skip (qe_next ?_)
  refine w_seq ?_
  refine w_seq ?_
  refine w_region ?_
  refine sv rfl rfl rfl (ex_move rfl rfl) ?_
  refine st rfl rfl rfl (ex_call call41 rfl rfl (contains_c A n c lo hi sl _ hn hn1 (hr.ext K0) hall)) ?_
  rintro _ w3 ⟨rfl, hwe⟩
  obtain rfl := hwe.symm
  refine w_nil (qe_next ?_)
  refine w_cond_f rfl ?_
  refine w_skip (qe_next ?_)
  refine w_seq ?_
  refine w_region ?_
  refine sv rfl rfl rfl (ex_assign rfl rfl) ?_
  refine w_nil (qe_next ?_)
  refine w_ret (qe_ret1 rfl rfl ?_)
  exact ⟨rfl, K0⟩

/-- kinkeep/chunker.checked -/
theorem checkedBad_c (q : Cut) (A : Option Addr) (n c : Nat) (w : World) (h : ¬ q.ok) :
    Ret Tryd.prog 33 [q.val, .slice A n c] w fun v w' => v = .int .i64 1 ∧ Ext w w' := by
  have K0 : Ext w w := Keep.refl _ _
  refine ret_of Tryd.func33 rfl rfl ?_
  refine w_seq ?_
  refine w_region ?_
  refine st rfl rfl rfl (ex_box (cs := q.cells) rfl rfl rfl) ?_
  rintro _ w1 ⟨b, rfl, hb0, E0, hb, hs0⟩
  replace K0 := K0.ext E0
  refine sv rfl rfl rfl (ex_assign rfl rfl) ?_
  refine w_nil (qe_next ?_)
  refine w_seq ?_
  refine w_seq ?_
  refine w_region ?_
  refine sv rfl rfl rfl (ex_load_agg (cs := q.cells) agg24 rfl rfl (by intro j u hu; rw [Nat.zero_add]; exact hb.cell hu)) ?_
  refine st rfl rfl rfl (ex_call call25 rfl rfl ((valid_c q _).mono (R' := fun v w' => v = .bool false ∧ Ext _ w') fun v w' h' => ⟨by rw [h'.1, decide_eq_false h], h'.2⟩)) ?_
  rintro _ w2 ⟨rfl, E1⟩
  replace K0 := K0.ext E1
  replace hb := hb.ext E1
  refine sv rfl rfl rfl (ex_not rfl rfl) ?_
  refine w_nil (qe_next ?_)
  refine w_cond_t rfl ?_
  refine w_seq ?_
  refine w_region ?_
  refine sv rfl rfl rfl (ex_assign rfl rfl) ?_
  refine w_nil (qe_next ?_)
  refine w_ret (qe_then_ret (qe_ret1 rfl rfl ?_))
  exact ⟨rfl, K0⟩

/-- kinkeep/chunker.newMarker -/
theorem newMarker_c (q : Vut) (w : World) (hG : 0 < w.heap.size) :
    Ret Tryd.prog 35 [q.cut.val] w fun v w' => ∃ m r, v = .pointer (some ⟨m, 0, none⟩) ∧ MarkAt w' m r q [] ∧ w.heap.size ≤ m ∧ w.heap.size ≤ r ∧ Ext w w' := by
  have K0 : Ext w w := Keep.refl _ _
  refine ret_of Tryd.func35 rfl rfl ?_
  refine w_seq ?_
  refine w_region ?_
  refine st rfl rfl rfl (ex_box (cs := q.cut.cells) rfl rfl rfl) ?_
  rintro _ w1 ⟨b, rfl, hb0, E0, hb, hs0⟩
  replace K0 := K0.ext E0
  refine sv rfl rfl rfl (ex_assign rfl rfl) ?_
  refine w_nil (qe_next ?_)
  refine w_seq ?_
  refine w_draw mixed (fun w2 _ Ew2 => ?_)
  replace K0 := K0.ext Ew2
  replace hb := hb.ext Ew2
  refine wd_free 6 _ rfl rfl rfl rfl ?_
  refine fd [] rfl rfl rfl rfl rfl rfl rfl (fun w' E => ex_fieldAddr fld24_4 rfl rfl) ?_
  refine fd [0] rfl rfl rfl rfl rfl rfl rfl (fun w' E => ex_load one22 rfl rfl (E.cell trivial (hb.cell rfl))) ?_
  refine fd [] rfl rfl rfl rfl rfl rfl rfl (fun w' E => ex_fieldAddr fld24_2 rfl rfl) ?_
  refine fd [2] rfl rfl rfl rfl rfl rfl rfl (fun w' E => ex_load one3 rfl rfl (E.cell trivial (hb.cell rfl))) ?_
  refine fx [1, 3] (Φ := fun v' w' => ∃ r, v' = .pointer (some ⟨r, 0, none⟩) ∧ w.heap.size ≤ r ∧ RollAt w' r q.seed q.wi []) rfl rfl rfl rfl rfl rfl rfl (fun _ _ _ k ⟨r, h1, h2, h3⟩ => ⟨r, h1, h2, h3.ext k⟩) (fun w' E => ex_call call43 rfl rfl ((new_c q.seed q.wi _).mono (R' := fun v' w'' => (∃ r, v' = .pointer (some ⟨r, 0, none⟩) ∧ w.heap.size ≤ r ∧ RollAt w'' r q.seed q.wi []) ∧ Ext _ w'') fun v' w'' ⟨r, h1, h2, h3, h4⟩ => ⟨⟨r, h1, by have := (K0.ext E).size; omega, by rw [winOf_vut] at h3; exact h3⟩, h4⟩)) ?_
  refine fd [] rfl rfl rfl rfl rfl rfl rfl (fun w' E => ex_load_agg (cs := q.cut.cells) agg24 rfl rfl (by intro j u hu; rw [Nat.zero_add]; exact E.cell trivial (hb.cell hu))) ?_
  refine .nil (fun _ w3 Ew3 HF => ?_)
  replace K0 := K0.ext Ew3
  replace hb := hb.ext Ew3
  obtain ⟨⟨r, rfl, hr0, hR⟩, -⟩ := HF
  have hs9 := K0.size
  refine wd_v rfl rfl (by kernel_rfl) rfl rfl rfl (ex_build rfl rfl (build_marker r q)) ?_
  have hs3 := K0.size
  refine wd_one rfl rfl (by kernel_rfl) rfl rfl rfl (ex_box (cs := mcells r q 0 0) rfl rfl rfl) ?_
  rintro _ w4 ⟨m, rfl, hm0, E2, hm, hs2⟩
  replace K0 := K0.ext E2
  replace hb := hb.ext E2
  replace hR := hR.ext E2
  refine wd_v rfl rfl (by kernel_rfl) rfl rfl rfl (ex_assign rfl rfl) ?_
  refine wd_nil (by decide) rfl ?_
  refine qe_next ?_
  refine w_ret (qe_ret1 rfl rfl ?_)
  exact ⟨m, r, rfl, ⟨hm, by rw [lastN_nil]; exact hR, by omega, by omega⟩, by omega, by omega, K0⟩

/-- (*kinkeep/chunker.marker).step -/
theorem step_c (q : Vut) (m r : Nat) (bs : List UInt8) (x : UInt8) (w : World) (hM : MarkAt w m r q bs) (hT : TabAt w) (hlen : bs.length ≤ 100000000) :
    Ret Tryd.prog 36 [.pointer (some ⟨m, 0, none⟩), bv x] w fun v w' => v = .bool (prim q (bs ++ [x]) (bs.length + 1)) ∧ MarkAt w' m r q (bs ++ [x]) ∧ Keep (fun k => k ≠ m ∧ k ≠ r) w w' := by
  obtain ⟨hm, hR, hG1, hG2⟩ := hM
  have hmr := hR.ne hm (by decide)
  have K0 := Keep.refl (fun k => k ≠ m ∧ k ≠ r) w
  have hlm := lm_le q bs bs.length
  have hq0 : q.cut.mn = (q.mn : Int) := rfl
  have hq1 : q.cut.mx = (q.mx : Int) := rfl
  have hq2 : q.cut.wi = (q.wi : Int) := rfl
  have hq3 : q.cut.bi = (q.bi : Int) := rfl
  have hv1 := q.h1
  have hv2 := q.h2
  have hv3 := q.h3
  have hv4 := q.h4
  have hv5 := q.h5
  have hv6 := q.h6
  refine ret_of Tryd.func36 rfl rfl ?_
  refine w_seq ?_
  refine w_region ?_
  refine sv rfl rfl rfl (ex_assign rfl rfl) ?_
  refine w_nil (qe_next ?_)
  refine w_seq ?_
  refine w_region ?_
  refine sv rfl rfl rfl (ex_move rfl rfl) ?_
  refine sv rfl rfl rfl (ex_nil rfl rfl) ?_
  refine sv rfl rfl rfl (ex_fieldAddr fld62_0 rfl rfl) ?_
  refine sv rfl rfl rfl (ex_load one60 rfl rfl (hm.cell rfl)) ?_
  refine sv rfl rfl rfl (ex_move rfl rfl) ?_
  refine st rfl rfl rfl (ex_call call44 rfl rfl (push_c r q.seed q.wi (lastN q.wi bs) x _ hR)) ?_
  rintro _ w1 ⟨rfl, hR1, K1⟩
  rw [lastN_snoc] at hR1
  clear hR
  have hR := hR1
  clear hR1
  replace hm := hm.keep K1 hmr
  replace hT := hT.keep K1 (by omega)
  replace K0 := K0.trans K1 (fun j _ hj => hj.2)
  clear K1
  refine w_nil (qe_next ?_)
  refine w_seq ?_
  refine w_region ?_
  refine sv rfl rfl rfl (ex_move rfl rfl) ?_
  refine sv rfl rfl rfl (ex_nil rfl rfl) ?_
  refine sv rfl rfl rfl (ex_fieldAddr fld62_2 rfl rfl) ?_
  refine sv rfl rfl rfl (ex_load one3 rfl rfl (hm.cell rfl)) ?_
  refine sv rfl rfl rfl (ex_add rfl rfl rfl (i64_in (by omega) (by omega))) ?_
  refine sv rfl rfl rfl (ex_nil rfl rfl) ?_
  refine sv rfl rfl rfl (ex_fieldAddr fld62_2 rfl rfl) ?_
  refine st0 rfl rfl (ex_store_blk sz3 rfl rfl rfl rfl hm (by simp [mcells, Cut.cells])) ?_
  rintro _ w2 ⟨K2, hm1, _⟩
  have hm2 : Blk _ m 62 (mcells r q (bs.length + 1) (lm q bs bs.length)) := hm1
  replace hR := hR.keep K2 hmr.symm (fun g _ hg => hg.ne hm (by decide))
  replace hT := hT.keep K2 (by omega)
  replace K0 := K0.trans K2 (fun j _ hj => hj.1)
  clear hm hm1 K2
  have hm := hm2
  clear hm2
  refine w_nil (qe_next ?_)
  refine w_seq ?_
  refine w_seq ?_
  refine w_draw mixed (fun w3 _ Ew3 => ?_)
  replace hm := hm.ext Ew3
  replace hR := hR.ext Ew3
  replace hT := hT.ext Ew3
  replace K0 := K0.ext Ew3
  refine wd_free 10 _ rfl rfl rfl rfl ?_
  refine fd [] rfl rfl rfl rfl rfl rfl rfl (fun w' E => ex_move rfl rfl) ?_
  refine fd [0] rfl rfl rfl rfl rfl rfl rfl (fun w' E => ex_nil rfl rfl) ?_
  refine fd [1] rfl rfl rfl rfl rfl rfl rfl (fun w' E => ex_fieldAddr fld62_0 rfl rfl) ?_
  refine fd [2] rfl rfl rfl rfl rfl rfl rfl (fun w' E => ex_load one60 rfl rfl (E.cell trivial (hm.cell rfl))) ?_
  refine fe [3] rfl rfl rfl rfl rfl rfl rfl (fun w' E => ex_call call45 rfl rfl ((len_c r q.seed q.wi _ _ (hR.ext E)).ext)) ?_
  refine fd [] rfl rfl rfl rfl rfl rfl rfl (fun w' E => ex_move rfl rfl) ?_
  refine fd [5] rfl rfl rfl rfl rfl rfl rfl (fun w' E => ex_nil rfl rfl) ?_
  refine fd [6] rfl rfl rfl rfl rfl rfl rfl (fun w' E => ex_fieldAddr fld62_1 rfl rfl) ?_
  refine fd [7] rfl rfl rfl rfl rfl rfl rfl (fun w' E => ex_fieldAddr fld24_2 rfl rfl) ?_
  refine fd [8] rfl rfl rfl rfl rfl rfl rfl (fun w' E => ex_load one3 rfl rfl (E.cell trivial (hm.cell rfl))) ?_
  refine .nil (fun w4 Ew4 _ => ?_)
  replace hm := hm.ext Ew4
  replace hR := hR.ext Ew4
  replace hT := hT.ext Ew4
  replace K0 := K0.ext Ew4
  refine wd_if rfl rfl (by kernel_rfl) rfl rfl rfl (ex_cmp rfl rfl rfl rfl) (fun hsh => ?_) (fun hsh => ?_)
  · skip
    rw [lastN_length, List.length_append, List.length_singleton] at hsh
    have hmk : mkd q (bs ++ [x]) (bs.length + 1) = false := by rw [mkd_snoc, decide_eq_false (by omega), Bool.false_and]
    refine wd_v rfl rfl (by kernel_rfl) rfl rfl rfl (ex_move rfl rfl) ?_
    refine wd_free 11 _ rfl rfl rfl rfl ?_
    first | refine fsk [] rfl rfl rfl rfl rfl rfl rfl ?_ | refine fd [] rfl rfl rfl rfl rfl rfl rfl (fun w' E => ex_move rfl rfl) ?_
    first | refine fsk [12] rfl rfl rfl rfl rfl rfl rfl ?_ | refine fd [12] rfl rfl rfl rfl rfl rfl rfl (fun w' E => ex_nil rfl rfl) ?_
    first | refine fsk [13] rfl rfl rfl rfl rfl rfl rfl ?_ | refine fd [13] rfl rfl rfl rfl rfl rfl rfl (fun w' E => ex_fieldAddr fld62_0 rfl rfl) ?_
    first | refine fsk [14] rfl rfl rfl rfl rfl rfl rfl ?_ | refine fd [14] rfl rfl rfl rfl rfl rfl rfl (fun w' E => ex_load one60 rfl rfl (E.cell trivial (hm.cell rfl))) ?_
    first | refine fsk [15] rfl rfl rfl rfl rfl rfl rfl ?_ | refine fe [15] rfl rfl rfl rfl rfl rfl rfl (fun w' E => ex_call call47 rfl rfl ((sum_c r q.seed q.wi _ _ (hR.ext E)).ext)) ?_
    first | refine fsk [16] rfl rfl rfl rfl rfl rfl rfl ?_ | refine fe [16] rfl rfl rfl rfl rfl rfl rfl (fun w' E => ex_call call46 rfl rfl ((zeros_c _ _ (hT.ext E)).ext)) ?_
    first | refine fsk [] rfl rfl rfl rfl rfl rfl rfl ?_ | refine fd [] rfl rfl rfl rfl rfl rfl rfl (fun w' E => ex_move rfl rfl) ?_
    first | refine fsk [18] rfl rfl rfl rfl rfl rfl rfl ?_ | refine fd [18] rfl rfl rfl rfl rfl rfl rfl (fun w' E => ex_nil rfl rfl) ?_
    first | refine fsk [19] rfl rfl rfl rfl rfl rfl rfl ?_ | refine fd [19] rfl rfl rfl rfl rfl rfl rfl (fun w' E => ex_fieldAddr fld62_1 rfl rfl) ?_
    first | refine fsk [20] rfl rfl rfl rfl rfl rfl rfl ?_ | refine fd [20] rfl rfl rfl rfl rfl rfl rfl (fun w' E => ex_fieldAddr fld24_3 rfl rfl) ?_
    first | refine fsk [21] rfl rfl rfl rfl rfl rfl rfl ?_ | refine fd [21] rfl rfl rfl rfl rfl rfl rfl (fun w' E => ex_load one3 rfl rfl (E.cell trivial (hm.cell rfl))) ?_
    refine .nil (fun w5 Ew5 _ => ?_)
    replace hm := hm.ext Ew5
    replace hR := hR.ext Ew5
    replace hT := hT.ext Ew5
    replace K0 := K0.ext Ew5
    first | refine wd_skip rfl rfl (by kernel_rfl) rfl rfl rfl ?_ | refine wd_v rfl rfl (by kernel_rfl) rfl rfl rfl (ex_cmp rfl rfl rfl rfl) ?_
    first | refine wd_v rfl rfl (by kernel_rfl) rfl rfl rfl (ex_pick_t rfl rfl rfl) ?_ | refine wd_v rfl rfl (by kernel_rfl) rfl rfl rfl (ex_pick_f rfl rfl rfl) ?_
    refine wd_nil (by decide) rfl ?_
    refine qe_next ?_
    refine w_cond_t rfl ?_
    refine w_seq ?_
    refine w_region ?_
    refine sv rfl rfl rfl (ex_assign rfl rfl) ?_
    refine w_nil (qe_next ?_)
    refine w_ret (qe_then_ret (qe_ret1 rfl rfl ?_))
    refine ⟨congrArg Value.bool (prim_no hmk).symm, ⟨?_, hR, hG1, hG2⟩, K0⟩
    rw [lm_snoc_no hmk, List.length_append, List.length_singleton]
    exact hm
  · skip
    rw [lastN_length, List.length_append, List.length_singleton] at hsh
    refine wd_v rfl rfl (by kernel_rfl) rfl rfl rfl (ex_move rfl rfl) ?_
    refine wd_free 11 _ rfl rfl rfl rfl ?_
    first | refine fsk [] rfl rfl rfl rfl rfl rfl rfl ?_ | refine fd [] rfl rfl rfl rfl rfl rfl rfl (fun w' E => ex_move rfl rfl) ?_
    first | refine fsk [12] rfl rfl rfl rfl rfl rfl rfl ?_ | refine fd [12] rfl rfl rfl rfl rfl rfl rfl (fun w' E => ex_nil rfl rfl) ?_
    first | refine fsk [13] rfl rfl rfl rfl rfl rfl rfl ?_ | refine fd [13] rfl rfl rfl rfl rfl rfl rfl (fun w' E => ex_fieldAddr fld62_0 rfl rfl) ?_
    first | refine fsk [14] rfl rfl rfl rfl rfl rfl rfl ?_ | refine fd [14] rfl rfl rfl rfl rfl rfl rfl (fun w' E => ex_load one60 rfl rfl (E.cell trivial (hm.cell rfl))) ?_
    first | refine fsk [15] rfl rfl rfl rfl rfl rfl rfl ?_ | refine fe [15] rfl rfl rfl rfl rfl rfl rfl (fun w' E => ex_call call47 rfl rfl ((sum_c r q.seed q.wi _ _ (hR.ext E)).ext)) ?_
    first | refine fsk [16] rfl rfl rfl rfl rfl rfl rfl ?_ | refine fe [16] rfl rfl rfl rfl rfl rfl rfl (fun w' E => ex_call call46 rfl rfl ((zeros_c _ _ (hT.ext E)).ext)) ?_
    first | refine fsk [] rfl rfl rfl rfl rfl rfl rfl ?_ | refine fd [] rfl rfl rfl rfl rfl rfl rfl (fun w' E => ex_move rfl rfl) ?_
    first | refine fsk [18] rfl rfl rfl rfl rfl rfl rfl ?_ | refine fd [18] rfl rfl rfl rfl rfl rfl rfl (fun w' E => ex_nil rfl rfl) ?_
    first | refine fsk [19] rfl rfl rfl rfl rfl rfl rfl ?_ | refine fd [19] rfl rfl rfl rfl rfl rfl rfl (fun w' E => ex_fieldAddr fld62_1 rfl rfl) ?_
    first | refine fsk [20] rfl rfl rfl rfl rfl rfl rfl ?_ | refine fd [20] rfl rfl rfl rfl rfl rfl rfl (fun w' E => ex_fieldAddr fld24_3 rfl rfl) ?_
    first | refine fsk [21] rfl rfl rfl rfl rfl rfl rfl ?_ | refine fd [21] rfl rfl rfl rfl rfl rfl rfl (fun w' E => ex_load one3 rfl rfl (E.cell trivial (hm.cell rfl))) ?_
    refine .nil (fun w6 Ew6 _ => ?_)
    replace hm := hm.ext Ew6
    replace hR := hR.ext Ew6
    replace hT := hT.ext Ew6
    replace K0 := K0.ext Ew6
    first | refine wd_skip rfl rfl (by kernel_rfl) rfl rfl rfl ?_ | refine wd_v rfl rfl (by kernel_rfl) rfl rfl rfl (ex_cmp rfl rfl rfl rfl) ?_
    first | refine wd_v rfl rfl (by kernel_rfl) rfl rfl rfl (ex_pick_t rfl rfl rfl) ?_ | refine wd_v rfl rfl (by kernel_rfl) rfl rfl rfl (ex_pick_f rfl rfl rfl) ?_
    refine wd_nil (by decide) rfl ?_
    refine qe_next ?_
    refine w_if rfl (fun hz => ?_) (fun hz => ?_)
    · skip
      have hmk : mkd q (bs ++ [x]) (bs.length + 1) = false := by rw [mkd_snoc, decide_eq_false (p := q.bi ≤ _) (by omega), Bool.and_false]
      refine w_seq ?_
      refine w_region ?_
      refine sv rfl rfl rfl (ex_assign rfl rfl) ?_
      refine w_nil (qe_next ?_)
      refine w_ret (qe_then_ret (qe_ret1 rfl rfl ?_))
      refine ⟨congrArg Value.bool (prim_no hmk).symm, ⟨?_, hR, hG1, hG2⟩, K0⟩
      rw [lm_snoc_no hmk, List.length_append, List.length_singleton]
      exact hm
    · skip
      have hmk : mkd q (bs ++ [x]) (bs.length + 1) = true := by rw [mkd_snoc, decide_eq_true (by omega), decide_eq_true (p := q.bi ≤ _) (by omega), Bool.true_and]
      refine w_skip (qe_next ?_)
      refine w_seq ?_
      refine w_draw mixed (fun w7 _ Ew7 => ?_)
      replace hm := hm.ext Ew7
      replace hR := hR.ext Ew7
      replace hT := hT.ext Ew7
      replace K0 := K0.ext Ew7
      refine wd_v rfl rfl (by kernel_rfl) rfl rfl rfl (ex_move rfl rfl) ?_
      refine wd_v rfl rfl (by kernel_rfl) rfl rfl rfl (ex_nil rfl rfl) ?_
      refine wd_v rfl rfl (by kernel_rfl) rfl rfl rfl (ex_fieldAddr fld62_3 rfl rfl) ?_
      refine wd_v rfl rfl (by kernel_rfl) rfl rfl rfl (ex_load one3 rfl rfl (hm.cell rfl)) ?_
      refine wd_if rfl rfl (by kernel_rfl) rfl rfl rfl (ex_cmp rfl rfl rfl rfl) (fun h0 => ?_) (fun h0 => ?_)
      · skip
        refine wd_v rfl rfl (by kernel_rfl) rfl rfl rfl (ex_move rfl rfl) ?_
        refine wd_free 14 _ rfl rfl rfl rfl ?_
        first | refine fsk [] rfl rfl rfl rfl rfl rfl rfl ?_ | refine fd [] rfl rfl rfl rfl rfl rfl rfl (fun w' E => ex_move rfl rfl) ?_
        first | refine fsk [6] rfl rfl rfl rfl rfl rfl rfl ?_ | refine fd [6] rfl rfl rfl rfl rfl rfl rfl (fun w' E => ex_nil rfl rfl) ?_
        first | refine fsk [7] rfl rfl rfl rfl rfl rfl rfl ?_ | refine fd [7] rfl rfl rfl rfl rfl rfl rfl (fun w' E => ex_fieldAddr fld62_2 rfl rfl) ?_
        first | refine fsk [8] rfl rfl rfl rfl rfl rfl rfl ?_ | refine fd [8] rfl rfl rfl rfl rfl rfl rfl (fun w' E => ex_load one3 rfl rfl (E.cell trivial (hm.cell rfl))) ?_
        first | refine fsk [] rfl rfl rfl rfl rfl rfl rfl ?_ | refine fd [] rfl rfl rfl rfl rfl rfl rfl (fun w' E => ex_move rfl rfl) ?_
        first | refine fsk [10] rfl rfl rfl rfl rfl rfl rfl ?_ | refine fd [10] rfl rfl rfl rfl rfl rfl rfl (fun w' E => ex_nil rfl rfl) ?_
        first | refine fsk [11] rfl rfl rfl rfl rfl rfl rfl ?_ | refine fd [11] rfl rfl rfl rfl rfl rfl rfl (fun w' E => ex_fieldAddr fld62_3 rfl rfl) ?_
        first | refine fsk [12] rfl rfl rfl rfl rfl rfl rfl ?_ | refine fd [12] rfl rfl rfl rfl rfl rfl rfl (fun w' E => ex_load one3 rfl rfl (E.cell trivial (hm.cell rfl))) ?_
        first | refine fsk [9, 13] rfl rfl rfl rfl rfl rfl rfl ?_ | refine fd [9, 13] rfl rfl rfl rfl rfl rfl rfl (fun w' E => ex_sub rfl rfl rfl (i64_in (by omega) (by omega))) ?_
        first | refine fsk [] rfl rfl rfl rfl rfl rfl rfl ?_ | refine fd [] rfl rfl rfl rfl rfl rfl rfl (fun w' E => ex_move rfl rfl) ?_
        first | refine fsk [15] rfl rfl rfl rfl rfl rfl rfl ?_ | refine fd [15] rfl rfl rfl rfl rfl rfl rfl (fun w' E => ex_nil rfl rfl) ?_
        first | refine fsk [16] rfl rfl rfl rfl rfl rfl rfl ?_ | refine fd [16] rfl rfl rfl rfl rfl rfl rfl (fun w' E => ex_fieldAddr fld62_1 rfl rfl) ?_
        first | refine fsk [17] rfl rfl rfl rfl rfl rfl rfl ?_ | refine fd [17] rfl rfl rfl rfl rfl rfl rfl (fun w' E => ex_fieldAddr fld24_0 rfl rfl) ?_
        first | refine fsk [18] rfl rfl rfl rfl rfl rfl rfl ?_ | refine fd [18] rfl rfl rfl rfl rfl rfl rfl (fun w' E => ex_load one3 rfl rfl (E.cell trivial (hm.cell rfl))) ?_
        refine .nil (fun w8 Ew8 _ => ?_)
        replace hm := hm.ext Ew8
        replace hR := hR.ext Ew8
        replace hT := hT.ext Ew8
        replace K0 := K0.ext Ew8
        first | refine wd_skip rfl rfl (by kernel_rfl) rfl rfl rfl ?_ | refine wd_v rfl rfl (by kernel_rfl) rfl rfl rfl (ex_cmp rfl rfl rfl rfl) ?_
        first | refine wd_v rfl rfl (by kernel_rfl) rfl rfl rfl (ex_pick_t rfl rfl rfl) ?_ | refine wd_v rfl rfl (by kernel_rfl) rfl rfl rfl (ex_pick_f rfl rfl rfl) ?_
        refine wd_v rfl rfl (by kernel_rfl) rfl rfl rfl (ex_assign rfl rfl) ?_
        refine wd_nil (by decide) rfl ?_
        refine qe_next ?_
        refine w_seq ?_
        refine w_region ?_
        refine sv rfl rfl rfl (ex_move rfl rfl) ?_
        refine sv rfl rfl rfl (ex_move rfl rfl) ?_
        refine sv rfl rfl rfl (ex_nil rfl rfl) ?_
        refine sv rfl rfl rfl (ex_fieldAddr fld62_2 rfl rfl) ?_
        refine sv rfl rfl rfl (ex_load one3 rfl rfl (hm.cell rfl)) ?_
        refine sv rfl rfl rfl (ex_nil rfl rfl) ?_
        refine sv rfl rfl rfl (ex_fieldAddr fld62_3 rfl rfl) ?_
        refine st0 rfl rfl (ex_store_blk sz3 rfl rfl rfl rfl hm (by simp [mcells, Cut.cells])) ?_
        rintro _ w9 ⟨K3, hm1, _⟩
        have hm2 : Blk _ m 62 (mcells r q (bs.length + 1) (bs.length + 1)) := hm1
        replace hR := hR.keep K3 hmr.symm (fun g _ hg => hg.ne hm (by decide))
        replace K0 := K0.trans K3 (fun j _ hj => hj.1)
        clear hm hm1 K3
        have hm := hm2
        clear hm2
        refine w_nil (qe_next ?_)
        refine w_seq ?_
        refine w_region ?_
        refine sv rfl rfl rfl (ex_move rfl rfl) ?_
        refine sv rfl rfl rfl (ex_assign rfl rfl) ?_
        refine w_nil (qe_next ?_)
        refine w_ret (qe_ret1 rfl rfl ?_)
        refine ⟨congrArg Value.bool ?_, ⟨?_, hR, hG1, hG2⟩, K0⟩
        · rw [prim_yes hmk]
          first | rw [decide_eq_true (p := lm q bs bs.length = 0) (by omega), Bool.true_or] | (rw [decide_eq_false (p := lm q bs bs.length = 0) (by omega), Bool.false_or]; exact decide_eq_decide.2 (by omega))
        · rw [lm_snoc_yes hmk, List.length_append, List.length_singleton]
          exact hm
      · skip
        refine wd_v rfl rfl (by kernel_rfl) rfl rfl rfl (ex_move rfl rfl) ?_
        refine wd_free 14 _ rfl rfl rfl rfl ?_
        first | refine fsk [] rfl rfl rfl rfl rfl rfl rfl ?_ | refine fd [] rfl rfl rfl rfl rfl rfl rfl (fun w' E => ex_move rfl rfl) ?_
        first | refine fsk [6] rfl rfl rfl rfl rfl rfl rfl ?_ | refine fd [6] rfl rfl rfl rfl rfl rfl rfl (fun w' E => ex_nil rfl rfl) ?_
        first | refine fsk [7] rfl rfl rfl rfl rfl rfl rfl ?_ | refine fd [7] rfl rfl rfl rfl rfl rfl rfl (fun w' E => ex_fieldAddr fld62_2 rfl rfl) ?_
        first | refine fsk [8] rfl rfl rfl rfl rfl rfl rfl ?_ | refine fd [8] rfl rfl rfl rfl rfl rfl rfl (fun w' E => ex_load one3 rfl rfl (E.cell trivial (hm.cell rfl))) ?_
        first | refine fsk [] rfl rfl rfl rfl rfl rfl rfl ?_ | refine fd [] rfl rfl rfl rfl rfl rfl rfl (fun w' E => ex_move rfl rfl) ?_
        first | refine fsk [10] rfl rfl rfl rfl rfl rfl rfl ?_ | refine fd [10] rfl rfl rfl rfl rfl rfl rfl (fun w' E => ex_nil rfl rfl) ?_
        first | refine fsk [11] rfl rfl rfl rfl rfl rfl rfl ?_ | refine fd [11] rfl rfl rfl rfl rfl rfl rfl (fun w' E => ex_fieldAddr fld62_3 rfl rfl) ?_
        first | refine fsk [12] rfl rfl rfl rfl rfl rfl rfl ?_ | refine fd [12] rfl rfl rfl rfl rfl rfl rfl (fun w' E => ex_load one3 rfl rfl (E.cell trivial (hm.cell rfl))) ?_
        first | refine fsk [9, 13] rfl rfl rfl rfl rfl rfl rfl ?_ | refine fd [9, 13] rfl rfl rfl rfl rfl rfl rfl (fun w' E => ex_sub rfl rfl rfl (i64_in (by omega) (by omega))) ?_
        first | refine fsk [] rfl rfl rfl rfl rfl rfl rfl ?_ | refine fd [] rfl rfl rfl rfl rfl rfl rfl (fun w' E => ex_move rfl rfl) ?_
        first | refine fsk [15] rfl rfl rfl rfl rfl rfl rfl ?_ | refine fd [15] rfl rfl rfl rfl rfl rfl rfl (fun w' E => ex_nil rfl rfl) ?_
        first | refine fsk [16] rfl rfl rfl rfl rfl rfl rfl ?_ | refine fd [16] rfl rfl rfl rfl rfl rfl rfl (fun w' E => ex_fieldAddr fld62_1 rfl rfl) ?_
        first | refine fsk [17] rfl rfl rfl rfl rfl rfl rfl ?_ | refine fd [17] rfl rfl rfl rfl rfl rfl rfl (fun w' E => ex_fieldAddr fld24_0 rfl rfl) ?_
        first | refine fsk [18] rfl rfl rfl rfl rfl rfl rfl ?_ | refine fd [18] rfl rfl rfl rfl rfl rfl rfl (fun w' E => ex_load one3 rfl rfl (E.cell trivial (hm.cell rfl))) ?_
        refine .nil (fun w10 Ew10 _ => ?_)
        replace hm := hm.ext Ew10
        replace hR := hR.ext Ew10
        replace hT := hT.ext Ew10
        replace K0 := K0.ext Ew10
        first | refine wd_skip rfl rfl (by kernel_rfl) rfl rfl rfl ?_ | refine wd_v rfl rfl (by kernel_rfl) rfl rfl rfl (ex_cmp rfl rfl rfl rfl) ?_
        first | refine wd_v rfl rfl (by kernel_rfl) rfl rfl rfl (ex_pick_t rfl rfl rfl) ?_ | refine wd_v rfl rfl (by kernel_rfl) rfl rfl rfl (ex_pick_f rfl rfl rfl) ?_
        refine wd_v rfl rfl (by kernel_rfl) rfl rfl rfl (ex_assign rfl rfl) ?_
        refine wd_nil (by decide) rfl ?_
        refine qe_next ?_
        refine w_seq ?_
        refine w_region ?_
        refine sv rfl rfl rfl (ex_move rfl rfl) ?_
        refine sv rfl rfl rfl (ex_move rfl rfl) ?_
        refine sv rfl rfl rfl (ex_nil rfl rfl) ?_
        refine sv rfl rfl rfl (ex_fieldAddr fld62_2 rfl rfl) ?_
        refine sv rfl rfl rfl (ex_load one3 rfl rfl (hm.cell rfl)) ?_
        refine sv rfl rfl rfl (ex_nil rfl rfl) ?_
        refine sv rfl rfl rfl (ex_fieldAddr fld62_3 rfl rfl) ?_
        refine st0 rfl rfl (ex_store_blk sz3 rfl rfl rfl rfl hm (by simp [mcells, Cut.cells])) ?_
        rintro _ w11 ⟨K3, hm1, _⟩
        have hm2 : Blk _ m 62 (mcells r q (bs.length + 1) (bs.length + 1)) := hm1
        replace hR := hR.keep K3 hmr.symm (fun g _ hg => hg.ne hm (by decide))
        replace K0 := K0.trans K3 (fun j _ hj => hj.1)
        clear hm hm1 K3
        have hm := hm2
        clear hm2
        refine w_nil (qe_next ?_)
        refine w_seq ?_
        refine w_region ?_
        refine sv rfl rfl rfl (ex_move rfl rfl) ?_
        refine sv rfl rfl rfl (ex_assign rfl rfl) ?_
        refine w_nil (qe_next ?_)
        refine w_ret (qe_ret1 rfl rfl ?_)
        refine ⟨congrArg Value.bool ?_, ⟨?_, hR, hG1, hG2⟩, K0⟩
        · rw [prim_yes hmk]
          first | rw [decide_eq_true (p := lm q bs bs.length = 0) (by omega), Bool.true_or] | (rw [decide_eq_false (p := lm q bs bs.length = 0) (by omega), Bool.false_or]; exact decide_eq_decide.2 (by omega))
        · rw [lm_snoc_yes hmk, List.length_append, List.length_singleton]
          exact hm

theorem step_k (q : Vut) (m r : Nat) (bs : List UInt8) (k : Nat) (w : World) (hk : k < bs.length) (hM : MarkAt w m r q (bs.take k)) (hT : TabAt w) (hlen : bs.length ≤ 100000000) :
    Ret Tryd.prog 36 [.pointer (some ⟨m, 0, none⟩), bv (bs.getD k 0)] w fun v w' => v = .bool (prim q bs (k + 1)) ∧ MarkAt w' m r q (bs.take (k + 1)) ∧ Keep (fun k => k ≠ m ∧ k ≠ r) w w' := by
  refine (step_c q m r (bs.take k) (bs.getD k 0) w hM hT (by simp; omega)).mono fun v w' ⟨h1, h2, h3⟩ => ?_
  rw [← take_snoc hk] at h1 h2
  rw [show (bs.take k).length + 1 = k + 1 by simp; omega, prim_take hk] at h1
  exact ⟨h1, h2, h3⟩
theorem MarkAt.roll {w : World} {m r : Nat} {q : Vut} {bs : List UInt8} (h : MarkAt w m r q bs) : ∃ cs, Blk w r 86 cs := by
  obtain ⟨_, ⟨g, ring, next, _, hb, _⟩, _⟩ := h
  exact ⟨_, hb⟩
theorem MarkAt.st {w w' : World} {m r n1 : Nat} {q : Vut} {bs : List UInt8} (h : MarkAt w m r q bs) (k : Keep (fun k => k ≠ m ∧ k ≠ r) w w') (hm : n1 ≤ m) (hr : n1 ≤ r) : St16 n1 w w' := by
  refine Keep.mono k fun j _ hj => ⟨fun e => ?_, fun e => ?_⟩
  · subst e; exact hj ⟨hm, .inl ⟨_, h.1⟩⟩
  · subst e; exact hj ⟨hr, .inr h.roll⟩
theorem MarkAt.rk {S0 : Nat → Prop} {w w' : World} {m r : Nat} {q : Vut} {bs : List UInt8} (h : MarkAt w m r q bs) (k : Rk16 S0 w w') : MarkAt w' m r q bs :=
  h.keep k (.inr (.inl ⟨_, h.1⟩)) (.inr (.inr (.inl h.roll))) fun g _ hg => .inr (.inr (.inr ⟨_, hg⟩))
end Go.Proofs.YtfgpcmphcnhbiaaDoor

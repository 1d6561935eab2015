/- The law RollinghashZeros, walked. -/
import Derived.Test.YtjdjplfkfpfifaaDoorP
namespace Go.Proofs.YtjdjplfkfpfifaaDoor
open Go Go.RowKit
set_option linter.unusedVariables false
set_option linter.unusedSimpArgs false
/-- kinkeep/kinkeeplaw14.RollinghashZeros -/
theorem zeros_law (x : B64) (w : World) (hT : TabAt w) :
    Ret Tryd.prog 5 [U x] w fun v w' => v = .bool true ∧ Ext w w' := by
  have K0 : Ext w w := Keep.refl _ _
  refine ret_of Tryd.func5 rfl rfl ?_
  refine w_seq ?_
  refine w_region ?_
  refine sv rfl rfl rfl (ex_assign rfl rfl) ?_
  refine w_nil (qe_next ?_)
  refine w_seq ?_
  refine w_region ?_
  refine st rfl rfl rfl (ex_call call13 rfl rfl (awake_c _ (hT.ext K0) (Nat.lt_of_lt_of_le hT.pos K0.size))) ?_
  rintro _ w1 ⟨rfl, E9⟩
  replace K0 := K0.ext E9
  refine sv rfl rfl rfl (ex_move rfl rfl) ?_
  first | refine sk rfl rfl rfl ?_ | refine sv rfl rfl rfl (ex_move rfl rfl) ?_
  refine st rfl rfl rfl (ex_call call21 rfl rfl (zeros_c x _ (hT.ext K0))) ?_
  rintro _ w2 ⟨rfl, hwe⟩
  obtain rfl := hwe.symm
  first | refine sk rfl rfl rfl ?_ | refine sv rfl rfl rfl (ex_move rfl rfl) ?_
  refine st rfl rfl rfl (ex_call call22 rfl rfl (refZeros_c x _)) ?_
  rintro _ w3 ⟨rfl, hwe⟩
  obtain rfl := hwe.symm
  first | refine sk rfl rfl rfl ?_ | refine sv rfl rfl rfl (ex_cmp rfl rfl rfl (congrArg some (decide_eq_true (rfl)))) ?_
  first | refine sv rfl rfl rfl (ex_pick_t rfl rfl rfl) ?_ | refine sv rfl rfl rfl (ex_pick_f rfl rfl rfl) ?_
  refine sv rfl rfl rfl (ex_assign rfl rfl) ?_
  refine w_nil (qe_next ?_)
  refine w_ret (qe_ret1 rfl rfl ?_)
  exact ⟨rfl, K0⟩
end Go.Proofs.YtjdjplfkfpfifaaDoor

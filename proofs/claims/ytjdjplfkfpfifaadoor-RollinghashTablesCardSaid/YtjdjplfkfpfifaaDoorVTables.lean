/- The law RollinghashTables, walked. -/
import Derived.Test.YtjdjplfkfpfifaaDoorP
namespace Go.Proofs.YtjdjplfkfpfifaaDoor
open Go Go.RowKit
set_option linter.unusedVariables false
set_option linter.unusedSimpArgs false
/-- kinkeep/kinkeeplaw14.RollinghashTables -/
theorem tables_law (seed : B64) (w : World) (hT : TabAt w) :
    Ret Tryd.prog 3 [U seed] w fun v w' => v = .bool true ∧ Ext w w' := by
  have K0 : Ext w w := Keep.refl _ _
  refine ret_of Tryd.func3 rfl rfl ?_
  refine w_seq ?_
  refine w_region ?_
  refine sv rfl rfl rfl (ex_assign rfl rfl) ?_
  refine w_nil (qe_next ?_)
  refine w_seq ?_
  refine w_region ?_
  refine sv rfl rfl rfl (ex_move rfl rfl) ?_
  refine st rfl rfl rfl (ex_call call11 rfl rfl (table_c seed _)) ?_
  rintro _ w1 ⟨g, rfl, hg0, hg, E1⟩
  replace K0 := K0.ext E1
  refine sv rfl rfl rfl (ex_assign rfl rfl) ?_
  refine w_nil (qe_next ?_)
  refine w_seq ?_
  refine w_seq ?_
  refine w_region ?_
  refine sv rfl rfl rfl (ex_move rfl rfl) ?_
  refine sv rfl rfl rfl (ex_len Tryd.underlying23 rfl rfl) ?_
  refine sv rfl rfl rfl (ex_cmp rfl rfl rfl (congrArg some (decide_eq_false (by omega)))) ?_
  refine w_nil (qe_next ?_)
  refine w_cond_f rfl ?_
  refine w_skip (qe_next ?_)
  refine w_seq ?_
  refine w_seq ?_
  refine w_region ?_
  refine sv rfl rfl rfl (ex_assign rfl rfl) ?_
  refine w_nil (qe_next ?_)
  refine w_block ?_
  refine w_loop (ι := Nat) (fun k => [(0, U seed), (3, .slice (some ⟨g, 0, none⟩) 256 256), (4, .int .i64 (k : Int))]) (fun k w1 => k ≤ 256 ∧ Blk w1 g 22 (tcells seed) ∧ Ext w w1) (fun k => 256 - k) (0) ⟨rfl, rfl, rfl, trivial⟩ ?_ ?_
  · exact ⟨by omega, hg, K0⟩
  · clear hg K0 hg0
    rintro k w1 ⟨hk, hg, K0⟩
    refine w_seq ?_
    refine w_seq ?_
    refine w_region ?_
    refine sv rfl rfl rfl (ex_move rfl rfl) ?_
    refine sv rfl rfl rfl (ex_cmp rfl rfl rfl rfl) ?_
    refine w_nil (qe_next ?_)
    refine w_if rfl (fun hk2 => ?_) (fun hk2 => ?_)
    · skip
      replace hk2 : k < 256 := by omega
      refine w_skip (qe_next ?_)
      refine w_seq ?_
      refine w_block ?_
      refine w_seq ?_
      refine w_draw mixed (fun w2 _ Ew2 => ?_)
      replace hg := hg.ext Ew2
      replace K0 := K0.ext Ew2
      refine wd_free 7 _ rfl rfl rfl rfl ?_
      refine fd [] rfl rfl rfl rfl rfl rfl rfl (fun w' E => ex_move rfl rfl) ?_
      refine fd [] rfl rfl rfl rfl rfl rfl rfl (fun w' E => ex_move rfl rfl) ?_
      refine fd [0, 1] rfl rfl rfl rfl rfl rfl rfl (fun w' E => ex_index Tryd.underlying23 sz22 k rfl rfl rfl rfl (by omega)) ?_
      refine fd [2] rfl rfl rfl rfl rfl rfl rfl (fun w' E => ex_load one22 rfl rfl (by simp only [Nat.zero_add]; exact E.cell trivial (hg.cell (tcells_get _ (by omega : k < 256))))) ?_
      refine fd [] rfl rfl rfl rfl rfl rfl rfl (fun w' E => ex_move rfl rfl) ?_
      refine fd [] rfl rfl rfl rfl rfl rfl rfl (fun w' E => ex_move rfl rfl) ?_
      refine fe [4, 5] rfl rfl rfl rfl rfl rfl rfl (fun w' E => ex_call call12 rfl rfl ((refNum_c seed k _ (by omega)).ext)) ?_
      refine .nil (fun w3 Ew3 _ => ?_)
      replace hg := hg.ext Ew3
      replace K0 := K0.ext Ew3
      refine wd_v rfl rfl (by kernel_rfl) rfl rfl rfl (ex_cmp rfl rfl rfl (congrArg some (decide_eq_false (not_not_intro rfl)))) ?_
      refine wd_nil (by decide) rfl ?_
      refine qe_next ?_
      refine w_cond_f rfl ?_
      refine w_skip (qe_in_normal (qe_next ?_))
      refine w_region ?_
      refine sv rfl rfl rfl (ex_move rfl rfl) ?_
      refine sv rfl rfl rfl (ex_add rfl rfl rfl (i64_in (by omega) (by omega))) ?_
      refine sv rfl rfl rfl (ex_assign rfl rfl) ?_
      refine w_nil (qe_round (k + 1) ⟨rfl, rfl, rfl, trivial⟩ ?_ ?_)
      · exact ⟨by omega, hg, K0⟩
      · omega
    · skip
      refine w_exit (qe_then_exit (qe_then_exit (qe_in_exit (qe_next ?_))))
      refine w_seq ?_
      refine w_region ?_
      refine st rfl rfl rfl (ex_call call13 rfl rfl (awake_c _ (hT.ext K0) (Nat.lt_of_lt_of_le hT.pos K0.size))) ?_
      rintro _ w4 ⟨rfl, E9⟩
      replace hg := hg.ext E9
      replace K0 := K0.ext E9
      refine sv rfl rfl rfl (ex_assign rfl rfl) ?_
      refine w_nil (qe_next ?_)
      refine w_ret (qe_ret1 rfl rfl ?_)
      exact ⟨rfl, K0⟩
end Go.Proofs.YtjdjplfkfpfifaaDoor

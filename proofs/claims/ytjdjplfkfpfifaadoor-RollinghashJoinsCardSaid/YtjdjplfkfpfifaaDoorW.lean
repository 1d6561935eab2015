/- The examples of the chapter, walked. -/
import Derived.Test.YtjdjplfkfpfifaaDoorC
namespace Go.Proofs.YtjdjplfkfpfifaaDoor
open Go Go.RowKit
set_option linter.unusedVariables false
set_option linter.unusedSimpArgs false

theorem num00 : u64 (num 0#64 0) = 16294208416658607535 := by decide
theorem awake_sum : hash 0#64 [2, 3] = (num 0#64 2 <<< 1 ||| num 0#64 2 >>> 63) ^^^ num 0#64 3 := by decide
/-- kinkeep/kinkeeplaw14.awake -/
theorem awake_c (w : World) (hT : TabAt w) (hG : 0 < w.heap.size) :
    Ret Tryd.prog 13 [] w fun v w' => v = .bool true ∧ Ext w w' := by
  have K0 : Ext w w := Keep.refl _ _
  refine ret_of Tryd.func13 rfl rfl ?_
  refine w_seq ?_
  refine w_region ?_
  refine sv rfl rfl rfl (ex_assign rfl rfl) ?_
  refine w_nil (qe_next ?_)
  refine w_seq ?_
  refine w_region ?_
  refine st rfl rfl rfl (ex_call call11 rfl rfl (table_c 0#64 _)) ?_
  rintro _ w1 ⟨g, rfl, hg0, hg, E1⟩
  replace hT := hT.ext E1
  replace K0 := K0.ext E1
  refine sv rfl rfl rfl (ex_assign rfl rfl) ?_
  have hg1 := Blk.lt hg
  have hs1 := K0.size
  refine w_nil (qe_next ?_)
  refine w_seq ?_
  refine w_region ?_
  refine st rfl rfl rfl (ex_call call14 rfl rfl (new_c 0#64 2 _)) ?_
  rintro _ w2 ⟨b, rfl, hb0, hR, E2⟩
  replace hT := hT.ext E2
  replace K0 := K0.ext E2
  replace hg := hg.ext E2
  refine sv rfl rfl rfl (ex_assign rfl rfl) ?_
  have hs2 := E2.size
  rw [show winOf 2 = 2 from by decide] at hR
  refine w_nil (qe_next ?_)
  refine w_seq ?_
  refine w_seq ?_
  refine w_region ?_
  refine sv rfl rfl rfl (ex_move rfl rfl) ?_
  refine sv rfl rfl rfl (ex_len Tryd.underlying23 rfl rfl) ?_
  refine sv rfl rfl rfl (ex_cmp rfl rfl rfl (congrArg some (decide_eq_false (by omega)))) ?_
  refine sv rfl rfl rfl (ex_move rfl rfl) ?_
  first | refine sk rfl rfl rfl ?_ | refine sv rfl rfl rfl (ex_move rfl rfl) ?_
  first | refine sk rfl rfl rfl ?_ | refine sv rfl rfl rfl (ex_index Tryd.underlying23 sz22 0 rfl rfl rfl rfl (by omega)) ?_
  first | refine sk rfl rfl rfl ?_ | refine sv rfl rfl rfl (ex_load one22 rfl rfl (by simp only [Nat.zero_add]; exact hg.cell (tcells_get _ (by omega : 0 < 256)))) ?_
  first | refine sk rfl rfl rfl ?_ | refine sv rfl rfl rfl (ex_cmp rfl rfl rfl (congrArg some (decide_eq_false (not_not_intro num00)))) ?_
  first | refine sv rfl rfl rfl (ex_pick_t rfl rfl rfl) ?_ | refine sv rfl rfl rfl (ex_pick_f rfl rfl rfl) ?_
  refine sv rfl rfl rfl (ex_move rfl rfl) ?_
  first | refine sk rfl rfl rfl ?_ | refine sv rfl rfl rfl (ex_move rfl rfl) ?_
  first | refine sk rfl rfl rfl ?_ | refine sv rfl rfl rfl (ex_ptrNil Tryd.underlying29 rfl rfl rfl) ?_
  first | refine sv rfl rfl rfl (ex_pick_t rfl rfl rfl) ?_ | refine sv rfl rfl rfl (ex_pick_f rfl rfl rfl) ?_
  refine w_nil (qe_next ?_)
  refine w_cond_f rfl ?_
  refine w_skip (qe_next ?_)
  refine w_seq ?_
  refine w_region ?_
  refine sv rfl rfl rfl (ex_move rfl rfl) ?_
  refine st rfl rfl rfl (ex_call call17 rfl rfl (push_c b 0#64 2 ([]) 1 _ hR)) ?_
  rintro _ w3 ⟨rfl, hR1, K1⟩
  clear hR
  have hR : RollAt _ b 0#64 2 ([1]) := hR1
  have hgb := Blk.lt hg
  replace hg := hg.keep K1 (by omega)
  replace hT := hT.keep K1 (by omega)
  have K0 := K0.trans K1 (fun j hj _ => by omega)
  clear K1 hR1
  refine w_nil (qe_next ?_)
  refine w_seq ?_
  refine w_region ?_
  refine sv rfl rfl rfl (ex_move rfl rfl) ?_
  refine st rfl rfl rfl (ex_call call17 rfl rfl (push_c b 0#64 2 ([1]) 2 _ hR)) ?_
  rintro _ w4 ⟨rfl, hR1, K1⟩
  clear hR
  have hR : RollAt _ b 0#64 2 ([1, 2]) := hR1
  have hgb := Blk.lt hg
  replace hg := hg.keep K1 (by omega)
  replace hT := hT.keep K1 (by omega)
  have K0 := K0.trans K1 (fun j hj _ => by omega)
  clear K1 hR1
  refine w_nil (qe_next ?_)
  refine w_seq ?_
  refine w_region ?_
  refine sv rfl rfl rfl (ex_move rfl rfl) ?_
  refine st rfl rfl rfl (ex_call call17 rfl rfl (push_c b 0#64 2 ([1, 2]) 3 _ hR)) ?_
  rintro _ w5 ⟨rfl, hR1, K1⟩
  clear hR
  have hR : RollAt _ b 0#64 2 ([2, 3]) := hR1
  have hgb := Blk.lt hg
  replace hg := hg.keep K1 (by omega)
  replace hT := hT.keep K1 (by omega)
  have K0 := K0.trans K1 (fun j hj _ => by omega)
  clear K1 hR1
  refine w_nil (qe_next ?_)
  refine w_seq ?_
  refine w_draw mixed (fun w6 _ Ew6 => ?_)
  replace hT := hT.ext Ew6
  replace K0 := K0.ext Ew6
  replace hg := hg.ext Ew6
  replace hR := hR.ext Ew6
  refine wd_v rfl rfl (by kernel_rfl) rfl rfl rfl (ex_move rfl rfl) ?_
  refine wd_one rfl rfl (by kernel_rfl) rfl rfl rfl (ex_call call15 rfl rfl ((len_c b 0#64 2 [2, 3] _ (hR)).ext)) ?_
  rintro _ w7 ⟨rfl, Ew7⟩
  replace hT := hT.ext Ew7
  replace K0 := K0.ext Ew7
  replace hg := hg.ext Ew7
  replace hR := hR.ext Ew7
  refine wd_v rfl rfl (by kernel_rfl) rfl rfl rfl (ex_cmp rfl rfl rfl (congrArg some (decide_eq_true (rfl)))) ?_
  refine wd_v rfl rfl (by kernel_rfl) rfl rfl rfl (ex_move rfl rfl) ?_
  refine wd_free 15 _ rfl rfl rfl rfl ?_
  first | refine fsk [] rfl rfl rfl rfl rfl rfl rfl ?_ | refine fd [] rfl rfl rfl rfl rfl rfl rfl (fun w' E => ex_move rfl rfl) ?_
  first | refine fsk [4] rfl rfl rfl rfl rfl rfl rfl ?_ | refine fe [4] rfl rfl rfl rfl rfl rfl rfl (fun w' E => ex_call call16 rfl rfl ((sum_c b 0#64 2 [2, 3] _ (hR.ext E)).ext)) ?_
  first | refine fsk [] rfl rfl rfl rfl rfl rfl rfl ?_ | refine fd [] rfl rfl rfl rfl rfl rfl rfl (fun w' E => ex_move rfl rfl) ?_
  first | refine fsk [6] rfl rfl rfl rfl rfl rfl rfl ?_ | refine fd [6] rfl rfl rfl rfl rfl rfl rfl (fun w' E => ex_index Tryd.underlying23 sz22 2 rfl rfl rfl rfl (by omega)) ?_
  first | refine fsk [7] rfl rfl rfl rfl rfl rfl rfl ?_ | refine fd [7] rfl rfl rfl rfl rfl rfl rfl (fun w' E => ex_load one22 rfl rfl (by simp only [Nat.zero_add]; exact E.cell trivial (hg.cell (tcells_get _ (by omega : 2 < 256))))) ?_
  first | refine fsk [8] rfl rfl rfl rfl rfl rfl rfl ?_ | refine fd [8] rfl rfl rfl rfl rfl rfl rfl (fun w' E => ex_shl rfl rfl rfl (by omega) (u_shl _ 1 (by omega))) ?_
  first | refine fsk [] rfl rfl rfl rfl rfl rfl rfl ?_ | refine fd [] rfl rfl rfl rfl rfl rfl rfl (fun w' E => ex_move rfl rfl) ?_
  first | refine fsk [10] rfl rfl rfl rfl rfl rfl rfl ?_ | refine fd [10] rfl rfl rfl rfl rfl rfl rfl (fun w' E => ex_index Tryd.underlying23 sz22 2 rfl rfl rfl rfl (by omega)) ?_
  first | refine fsk [11] rfl rfl rfl rfl rfl rfl rfl ?_ | refine fd [11] rfl rfl rfl rfl rfl rfl rfl (fun w' E => ex_load one22 rfl rfl (by simp only [Nat.zero_add]; exact E.cell trivial (hg.cell (tcells_get _ (by omega : 2 < 256))))) ?_
  first | refine fsk [12] rfl rfl rfl rfl rfl rfl rfl ?_ | refine fd [12] rfl rfl rfl rfl rfl rfl rfl (fun w' E => ex_shr rfl rfl rfl (by omega) (u_shr _ 63 (by omega))) ?_
  first | refine fsk [9, 13] rfl rfl rfl rfl rfl rfl rfl ?_ | refine fd [9, 13] rfl rfl rfl rfl rfl rfl rfl (fun w' E => ex_bits rfl (by simp) rfl rfl (u_or _ _)) ?_
  first | refine fsk [] rfl rfl rfl rfl rfl rfl rfl ?_ | refine fd [] rfl rfl rfl rfl rfl rfl rfl (fun w' E => ex_move rfl rfl) ?_
  first | refine fsk [15] rfl rfl rfl rfl rfl rfl rfl ?_ | refine fd [15] rfl rfl rfl rfl rfl rfl rfl (fun w' E => ex_index Tryd.underlying23 sz22 3 rfl rfl rfl rfl (by omega)) ?_
  first | refine fsk [16] rfl rfl rfl rfl rfl rfl rfl ?_ | refine fd [16] rfl rfl rfl rfl rfl rfl rfl (fun w' E => ex_load one22 rfl rfl (by simp only [Nat.zero_add]; exact E.cell trivial (hg.cell (tcells_get _ (by omega : 3 < 256))))) ?_
  first | refine fsk [14, 17] rfl rfl rfl rfl rfl rfl rfl ?_ | refine fd [14, 17] rfl rfl rfl rfl rfl rfl rfl (fun w' E => ex_bits rfl (by simp) rfl rfl (u_xor _ _)) ?_
  refine .nil (fun w8 Ew8 _ => ?_)
  replace hT := hT.ext Ew8
  replace K0 := K0.ext Ew8
  replace hg := hg.ext Ew8
  replace hR := hR.ext Ew8
  first | refine wd_skip rfl rfl (by kernel_rfl) rfl rfl rfl ?_ | refine wd_v rfl rfl (by kernel_rfl) rfl rfl rfl (ex_cmp rfl rfl rfl (congrArg some (decide_eq_true (congrArg u64 awake_sum)))) ?_
  first | refine wd_v rfl rfl (by kernel_rfl) rfl rfl rfl (ex_pick_t rfl rfl rfl) ?_ | refine wd_v rfl rfl (by kernel_rfl) rfl rfl rfl (ex_pick_f rfl rfl rfl) ?_
  refine wd_v rfl rfl (by kernel_rfl) rfl rfl rfl (ex_move rfl rfl) ?_
  refine wd_one rfl rfl (by kernel_rfl) rfl rfl rfl (ex_call call21 rfl rfl ((zeros_c 40#64 _ (hT)).ext)) ?_
  rintro _ w9 ⟨rfl, Ew9⟩
  replace hT := hT.ext Ew9
  replace K0 := K0.ext Ew9
  replace hg := hg.ext Ew9
  replace hR := hR.ext Ew9
  first | refine wd_skip rfl rfl (by kernel_rfl) rfl rfl rfl ?_ | refine wd_v rfl rfl (by kernel_rfl) rfl rfl rfl (ex_cmp rfl rfl rfl (congrArg some (decide_eq_true (by decide)))) ?_
  first | refine wd_v rfl rfl (by kernel_rfl) rfl rfl rfl (ex_pick_t rfl rfl rfl) ?_ | refine wd_v rfl rfl (by kernel_rfl) rfl rfl rfl (ex_pick_f rfl rfl rfl) ?_
  refine wd_v rfl rfl (by kernel_rfl) rfl rfl rfl (ex_assign rfl rfl) ?_
  refine wd_nil (by decide) rfl ?_
  refine qe_next ?_
  refine w_ret (qe_ret1 rfl rfl ?_)
  exact ⟨rfl, K0⟩
end Go.Proofs.YtjdjplfkfpfifaaDoor

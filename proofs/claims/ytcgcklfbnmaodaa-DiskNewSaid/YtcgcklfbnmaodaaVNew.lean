/- The law DiskNew, walked. -/
import Derived.Test.YtcgcklfbnmaodaaD17
namespace Go.Proofs.Ytcgcklfbnmaodaa
open Go Go.RowKit
set_option linter.unusedVariables false
set_option linter.unusedSimpArgs false
theorem numbers_t (z1 z2 : Int) (w : World) (h : 1 ≤ z1 ∧ z1 ≤ 65536 ∧ 1 ≤ z2 ∧ z2 ≤ 4096) : Ret Try.prog 18 [.int .i64 z1, .int .i64 z2] w fun v w' => Dv (.bool true) w v w' :=
  (numbers_c z1 z2 w).mono fun v w' h' => ⟨by rw [h'.1, decide_eq_true h], h'.2⟩
theorem numbers_f (z1 z2 : Int) (w : World) (h : ¬ (1 ≤ z1 ∧ z1 ≤ 65536 ∧ 1 ≤ z2 ∧ z2 ≤ 4096)) : Ret Try.prog 18 [.int .i64 z1, .int .i64 z2] w fun v w' => Dv (.bool false) w v w' :=
  (numbers_c z1 z2 w).mono fun v w' h' => ⟨by rw [h'.1, decide_eq_false h], h'.2⟩
/-- kinkeep/kinkeeplaw15.DiskNew -/
theorem new_no (z1 z2 : Int) (w : World) (h : ¬ (1 ≤ z1 ∧ z1 ≤ 65536 ∧ 1 ≤ z2 ∧ z2 ≤ 4096)) :
    Ret Try.prog 4 [.int .i64 z1, .int .i64 z2] w fun v w' => v = .bool true ∧ Ext w w' := by
  have K0 : Ext w w := Keep.refl _ _
  refine ret_of Try.func4 rfl rfl ?_
  refine w_seq ?_
  refine w_region ?_
  refine sv rfl rfl rfl (ex_assign rfl rfl) ?_
  refine w_nil (qe_next ?_)
  refine w_seq ?_
  refine w_seq ?_
  refine w_region ?_
  refine st rfl rfl rfl (ex_call call11 rfl rfl (awake_c _)) ?_
  rintro _ w1 ⟨rfl, E9⟩
  replace K0 := K0.ext E9
  refine sv rfl rfl rfl (ex_not rfl rfl) ?_
  refine w_nil (qe_next ?_)
  refine w_cond_f rfl ?_
  refine w_skip (qe_next ?_)
  refine w_seq ?_
  refine w_seq ?_
  refine w_region ?_
  refine sv rfl rfl rfl (ex_move rfl rfl) ?_
  refine sv rfl rfl rfl (ex_move rfl rfl) ?_
  refine st rfl rfl rfl (ex_call call18 rfl rfl (numbers_f _ _ _ h)) ?_
  rintro _ w2 ⟨rfl, hwe⟩
  obtain rfl := hwe.symm
  refine sv rfl rfl rfl (ex_move rfl rfl) ?_
  first | refine sk rfl rfl rfl ?_ | refine sku rfl rfl rfl ?_ | refine sv rfl rfl rfl (ex_move rfl rfl) ?_
  first | refine sk rfl rfl rfl ?_ | refine sku rfl rfl rfl ?_
  first | refine sk rfl rfl rfl ?_ | refine sku rfl rfl rfl ?_ | refine sv rfl rfl rfl (ex_move rfl rfl) ?_
  first | refine sk rfl rfl rfl ?_ | refine sku rfl rfl rfl ?_ | refine sv rfl rfl rfl (ex_move rfl rfl) ?_
  first | refine sk rfl rfl rfl ?_ | refine sku rfl rfl rfl ?_
  first | refine sk rfl rfl rfl ?_ | refine sku rfl rfl rfl ?_ | first | refine sv rfl rfl rfl (ex_pick_t rfl rfl rfl) ?_ | refine sv rfl rfl rfl (ex_pick_f rfl rfl rfl) ?_
  first | refine sv rfl rfl rfl (ex_pick_t rfl rfl rfl) ?_ | refine sv rfl rfl rfl (ex_pick_f rfl rfl rfl) ?_
  refine w_nil (qe_next ?_)
  refine w_cond_f rfl ?_
  refine w_skip (qe_next ?_)
  refine w_seq ?_
  refine w_region ?_
  refine sv rfl rfl rfl (ex_move rfl rfl) ?_
  refine sv rfl rfl rfl (ex_move rfl rfl) ?_
  refine st rfl rfl rfl (ex_call call12 rfl rfl (newBad_c z1 z2 _ h)) ?_
  rintro _ w3 ⟨rfl, hwe⟩
  obtain rfl := hwe.symm
  refine sv rfl rfl rfl (ex_move rfl rfl) ?_
  refine sv rfl rfl rfl (ex_extract rfl rfl rfl) ?_
  refine sv rfl rfl rfl (ex_extract rfl rfl rfl) ?_
  refine sv rfl rfl rfl (ex_assign rfl rfl) ?_
  refine sv rfl rfl rfl (ex_assign rfl rfl) ?_
  refine w_nil (qe_next ?_)
  refine w_seq ?_
  refine w_seq ?_
  refine w_region ?_
  refine sv rfl rfl rfl (ex_move rfl rfl) ?_
  refine sv rfl rfl rfl (ex_move rfl rfl) ?_
  refine st rfl rfl rfl (ex_call call18 rfl rfl (numbers_f _ _ _ h)) ?_
  rintro _ w4 ⟨rfl, hwe⟩
  obtain rfl := hwe.symm
  refine sv rfl rfl rfl (ex_not rfl rfl) ?_
  refine w_nil (qe_next ?_)
  refine w_cond_t rfl ?_
  refine w_seq ?_
  refine w_region ?_
  refine sv rfl rfl rfl (ex_move rfl rfl) ?_
  refine sv rfl rfl rfl (ex_cmp rfl rfl rfl (congrArg some (decide_eq_true (rfl)))) ?_
  refine sv rfl rfl rfl (ex_assign rfl rfl) ?_
  refine w_nil (qe_next ?_)
  refine w_ret (qe_then_ret (qe_ret1 rfl rfl ?_))
  exact ⟨rfl, K0⟩
/-- kinkeep/kinkeeplaw15.DiskNew -/
theorem new_big (z1 z2 : Int) (w : World) (h : 1 ≤ z1 ∧ z1 ≤ 65536 ∧ 1 ≤ z2 ∧ z2 ≤ 4096) (h2 : ¬ (z1 ≤ 100 ∧ z2 ≤ 100)) :
    Ret Try.prog 4 [.int .i64 z1, .int .i64 z2] w fun v w' => v = .bool true ∧ Ext w w' := by
  have K0 : Ext w w := Keep.refl _ _
  refine ret_of Try.func4 rfl rfl ?_
  refine w_seq ?_
  refine w_region ?_
  refine sv rfl rfl rfl (ex_assign rfl rfl) ?_
  refine w_nil (qe_next ?_)
  refine w_seq ?_
  refine w_seq ?_
  refine w_region ?_
  refine st rfl rfl rfl (ex_call call11 rfl rfl (awake_c _)) ?_
  rintro _ w1 ⟨rfl, E9⟩
  replace K0 := K0.ext E9
  refine sv rfl rfl rfl (ex_not rfl rfl) ?_
  refine w_nil (qe_next ?_)
  refine w_cond_f rfl ?_
  refine w_skip (qe_next ?_)
  refine w_seq ?_
  refine w_seq ?_
  refine w_region ?_
  refine sv rfl rfl rfl (ex_move rfl rfl) ?_
  refine sv rfl rfl rfl (ex_move rfl rfl) ?_
  refine st rfl rfl rfl (ex_call call18 rfl rfl (numbers_t _ _ _ h)) ?_
  rintro _ w2 ⟨rfl, hwe⟩
  obtain rfl := hwe.symm
  refine sv rfl rfl rfl (ex_move rfl rfl) ?_
  first | refine sk rfl rfl rfl ?_ | refine sku rfl rfl rfl ?_ | refine sv rfl rfl rfl (ex_move rfl rfl) ?_
  refine sv_if rfl rfl rfl (ex_cmp rfl rfl rfl rfl) (fun h5 => ?_) (fun h5 => ?_)
  · skip
    first | refine sk rfl rfl rfl ?_ | refine sku rfl rfl rfl ?_ | refine sv rfl rfl rfl (ex_move rfl rfl) ?_
    first | refine sk rfl rfl rfl ?_ | refine sku rfl rfl rfl ?_ | refine sv rfl rfl rfl (ex_move rfl rfl) ?_
    first | refine sk rfl rfl rfl ?_ | refine sku rfl rfl rfl ?_
    first | refine sk rfl rfl rfl ?_ | refine sku rfl rfl rfl ?_ | first | refine sv rfl rfl rfl (ex_pick_t rfl rfl rfl) ?_ | refine sv rfl rfl rfl (ex_pick_f rfl rfl rfl) ?_
    first | refine sv rfl rfl rfl (ex_pick_t rfl rfl rfl) ?_ | refine sv rfl rfl rfl (ex_pick_f rfl rfl rfl) ?_
    refine w_nil (qe_next ?_)
    refine w_cond_t rfl ?_
    refine w_seq ?_
    refine w_region ?_
    refine sv rfl rfl rfl (ex_assign rfl rfl) ?_
    refine w_nil (qe_next ?_)
    refine w_ret (qe_then_ret (qe_ret1 rfl rfl ?_))
    exact ⟨rfl, K0⟩
  · skip
    first | refine sk rfl rfl rfl ?_ | refine sku rfl rfl rfl ?_ | refine sv rfl rfl rfl (ex_move rfl rfl) ?_
    first | refine sk rfl rfl rfl ?_ | refine sku rfl rfl rfl ?_ | refine sv rfl rfl rfl (ex_move rfl rfl) ?_
    first | refine sk rfl rfl rfl ?_ | refine sku rfl rfl rfl ?_ | refine sv rfl rfl rfl (ex_cmp rfl rfl rfl (congrArg some (decide_eq_true (by omega)))) ?_
    first | refine sk rfl rfl rfl ?_ | refine sku rfl rfl rfl ?_ | first | refine sv rfl rfl rfl (ex_pick_t rfl rfl rfl) ?_ | refine sv rfl rfl rfl (ex_pick_f rfl rfl rfl) ?_
    first | refine sv rfl rfl rfl (ex_pick_t rfl rfl rfl) ?_ | refine sv rfl rfl rfl (ex_pick_f rfl rfl rfl) ?_
    refine w_nil (qe_next ?_)
    refine w_cond_t rfl ?_
    refine w_seq ?_
    refine w_region ?_
    refine sv rfl rfl rfl (ex_assign rfl rfl) ?_
    refine w_nil (qe_next ?_)
    refine w_ret (qe_then_ret (qe_ret1 rfl rfl ?_))
    exact ⟨rfl, K0⟩
/-- kinkeep/kinkeeplaw15.DiskNew -/
theorem new_good (k n : Nat) (w : World) (k1 : 1 ≤ k) (k8 : k ≤ 100) (n1 : 1 ≤ n) (n8 : n ≤ 100) :
    Ret Try.prog 4 [.int .i64 (k : Int), .int .i64 (n : Int)] w fun v w' => v = .bool true ∧ Ext w w' := by
  have K0 : Ext w w := Keep.refl _ _
  refine ret_of Try.func4 rfl rfl ?_
  refine w_seq ?_
  refine w_region ?_
  refine sv rfl rfl rfl (ex_assign rfl rfl) ?_
  refine w_nil (qe_next ?_)
  refine w_seq ?_
  refine w_seq ?_
  refine w_region ?_
  refine st rfl rfl rfl (ex_call call11 rfl rfl (awake_c _)) ?_
  rintro _ w1 ⟨rfl, E9⟩
  replace K0 := K0.ext E9
  refine sv rfl rfl rfl (ex_not rfl rfl) ?_
  refine w_nil (qe_next ?_)
  refine w_cond_f rfl ?_
  refine w_skip (qe_next ?_)
  refine w_seq ?_
  refine w_seq ?_
  refine w_region ?_
  refine sv rfl rfl rfl (ex_move rfl rfl) ?_
  refine sv rfl rfl rfl (ex_move rfl rfl) ?_
  refine st rfl rfl rfl (ex_call call18 rfl rfl (numbers_t _ _ _ (by omega))) ?_
  rintro _ w2 ⟨rfl, hwe⟩
  obtain rfl := hwe.symm
  refine sv rfl rfl rfl (ex_move rfl rfl) ?_
  first | refine sk rfl rfl rfl ?_ | refine sv rfl rfl rfl (ex_move rfl rfl) ?_
  first | refine sk rfl rfl rfl ?_ | refine sv rfl rfl rfl (ex_cmp rfl rfl rfl (congrArg some (decide_eq_false (by omega)))) ?_
  first | refine sk rfl rfl rfl ?_ | refine sv rfl rfl rfl (ex_move rfl rfl) ?_
  first | refine sk rfl rfl rfl ?_ | refine sv rfl rfl rfl (ex_move rfl rfl) ?_
  first | refine sk rfl rfl rfl ?_ | refine sv rfl rfl rfl (ex_cmp rfl rfl rfl (congrArg some (decide_eq_false (by omega)))) ?_
  first | refine sk rfl rfl rfl ?_ | first | refine sv rfl rfl rfl (ex_pick_t rfl rfl rfl) ?_ | refine sv rfl rfl rfl (ex_pick_f rfl rfl rfl) ?_
  first | refine sv rfl rfl rfl (ex_pick_t rfl rfl rfl) ?_ | refine sv rfl rfl rfl (ex_pick_f rfl rfl rfl) ?_
  refine w_nil (qe_next ?_)
  refine w_cond_f rfl ?_
  refine w_skip (qe_next ?_)
  refine w_seq ?_
  refine w_region ?_
  refine sv rfl rfl rfl (ex_move rfl rfl) ?_
  refine sv rfl rfl rfl (ex_move rfl rfl) ?_
  refine st rfl rfl rfl (ex_call call12 rfl rfl (new_c k n _ k1 (by omega) n1 (by omega))) ?_
  rintro _ w3 ⟨kd, F, rfl, hD, hFn, E1⟩
  replace K0 := K0.ext E1
  refine sv rfl rfl rfl (ex_move rfl rfl) ?_
  refine sv rfl rfl rfl (ex_extract rfl rfl rfl) ?_
  refine sv rfl rfl rfl (ex_extract rfl rfl rfl) ?_
  refine sv rfl rfl rfl (ex_assign rfl rfl) ?_
  refine sv rfl rfl rfl (ex_assign rfl rfl) ?_
  refine w_nil (qe_next ?_)
  refine w_seq ?_
  refine w_seq ?_
  refine w_region ?_
  refine sv rfl rfl rfl (ex_move rfl rfl) ?_
  refine sv rfl rfl rfl (ex_move rfl rfl) ?_
  refine st rfl rfl rfl (ex_call call18 rfl rfl (numbers_t _ _ _ (by omega))) ?_
  rintro _ w4 ⟨rfl, hwe⟩
  obtain rfl := hwe.symm
  refine sv rfl rfl rfl (ex_not rfl rfl) ?_
  refine w_nil (qe_next ?_)
  refine w_cond_f rfl ?_
  refine w_skip (qe_next ?_)
  refine w_seq ?_
  refine w_region ?_
  refine sv rfl rfl rfl (ex_move rfl rfl) ?_
  refine sv rfl rfl rfl (ex_cmp rfl rfl rfl (congrArg some (decide_eq_true (rfl)))) ?_
  refine sv rfl rfl rfl (ex_move rfl rfl) ?_
  first | refine sk rfl rfl rfl ?_ | refine sv rfl rfl rfl (ex_move rfl rfl) ?_
  refine st rfl rfl rfl (ex_call call19 rfl rfl (sectors_c F kd _ _ hD)) ?_
  rintro _ w5 ⟨rfl, hwe⟩
  obtain rfl := hwe.symm
  first | refine sk rfl rfl rfl ?_ | refine sv rfl rfl rfl (ex_move rfl rfl) ?_
  first | refine sk rfl rfl rfl ?_ | refine sv rfl rfl rfl (ex_cmp rfl rfl rfl (congrArg some (decide_eq_true (by simp [fresh])))) ?_
  first | refine sv rfl rfl rfl (ex_pick_t rfl rfl rfl) ?_ | refine sv rfl rfl rfl (ex_pick_f rfl rfl rfl) ?_
  refine sv rfl rfl rfl (ex_move rfl rfl) ?_
  first | refine sk rfl rfl rfl ?_ | refine sv rfl rfl rfl (ex_move rfl rfl) ?_
  refine st rfl rfl rfl (ex_call call20 rfl rfl (size_c F kd _ _ hD)) ?_
  rintro _ w6 ⟨rfl, hwe⟩
  obtain rfl := hwe.symm
  first | refine sk rfl rfl rfl ?_ | refine sv rfl rfl rfl (ex_move rfl rfl) ?_
  first | refine sk rfl rfl rfl ?_ | refine sv rfl rfl rfl (ex_cmp rfl rfl rfl (congrArg some (decide_eq_true (rfl)))) ?_
  first | refine sv rfl rfl rfl (ex_pick_t rfl rfl rfl) ?_ | refine sv rfl rfl rfl (ex_pick_f rfl rfl rfl) ?_
  refine sv rfl rfl rfl (ex_move rfl rfl) ?_
  first | refine sk rfl rfl rfl ?_ | refine sv rfl rfl rfl (ex_move rfl rfl) ?_
  refine st rfl rfl rfl (ex_call call21 rfl rfl (down_b false F kd _ _ hD rfl)) ?_
  rintro _ w7 ⟨rfl, hwe⟩
  obtain rfl := hwe.symm
  first | refine sk rfl rfl rfl ?_ | refine sv rfl rfl rfl (ex_not rfl rfl) ?_
  first | refine sv rfl rfl rfl (ex_pick_t rfl rfl rfl) ?_ | refine sv rfl rfl rfl (ex_pick_f rfl rfl rfl) ?_
  refine sv rfl rfl rfl (ex_move rfl rfl) ?_
  first | refine sk rfl rfl rfl ?_ | refine sv rfl rfl rfl (ex_move rfl rfl) ?_
  refine st rfl rfl rfl (ex_call call22 rfl rfl (pending_c F kd _ _ hD)) ?_
  rintro _ w8 ⟨rfl, hwe⟩
  obtain rfl := hwe.symm
  first | refine sk rfl rfl rfl ?_ | refine sv rfl rfl rfl (ex_cmp rfl rfl rfl (congrArg some (decide_eq_true (rfl)))) ?_
  first | refine sv rfl rfl rfl (ex_pick_t rfl rfl rfl) ?_ | refine sv rfl rfl rfl (ex_pick_f rfl rfl rfl) ?_
  refine sv rfl rfl rfl (ex_move rfl rfl) ?_
  first | refine sk rfl rfl rfl ?_ | refine sv rfl rfl rfl (ex_move rfl rfl) ?_
  refine st rfl rfl rfl (ex_call call17 rfl rfl (image_c F kd _ _ hD)) ?_
  rintro _ w9 ⟨gi, sl, rfl, hi, hso, E5⟩
  replace K0 := K0.ext E5
  replace hD := hD.ext E5
  first | refine sk rfl rfl rfl ?_ | refine sv rfl rfl rfl (ex_move rfl rfl) ?_
  first | refine sk rfl rfl rfl ?_ | refine sv rfl rfl rfl (ex_move rfl rfl) ?_
  refine st rfl rfl rfl (ex_call call24 rfl rfl (rnew_c k n _ (by omega) n1 (by omega))) ?_
  rintro _ w10 ⟨kr, Fr, rfl, hR, hRn, E6⟩
  replace K0 := K0.ext E6
  replace hD := hD.ext E6
  replace hi := hi.ext E6
  replace hso := hso.ext E6
  obtain ⟨r, lf, hbR, hmR, _⟩ := id hR
  first | refine sk rfl rfl rfl ?_ | refine sv rfl rfl rfl (ex_nil rfl rfl) ?_
  first | refine sk rfl rfl rfl ?_ | refine sv rfl rfl rfl (ex_fieldAddr fld41_1 rfl rfl) ?_
  first | refine sk rfl rfl rfl ?_ | refine sv rfl rfl rfl (ex_load one33 rfl rfl (hbR.cell rfl)) ?_
  refine st rfl rfl rfl (ex_call call23 rfl rfl (sameAll_c _ _ _ _ _ _ _ _ _ _ sl r.dsl (fresh n k).du _ hso.length.symm hmR.dat.length.symm (by simp [fresh]; omega) hi.rd hmR.own.rd hso.rds hmR.dat.rds)) ?_
  rintro _ w11 ⟨rfl, E7⟩
  replace K0 := K0.ext E7
  replace hD := hD.ext E7
  replace hi := hi.ext E7
  replace hso := hso.ext E7
  first | refine sv rfl rfl rfl (ex_pick_t rfl rfl rfl) ?_ | refine sv rfl rfl rfl (ex_pick_f rfl rfl rfl) ?_
  refine sv rfl rfl rfl (ex_assign rfl rfl) ?_
  refine w_nil (qe_next ?_)
  refine w_ret (qe_ret1 rfl rfl ?_)
  exact ⟨rfl, K0⟩
theorem new_law (z1 z2 : Int) (w : World) : Ret Try.prog 4 [.int .i64 z1, .int .i64 z2] w fun v w' => v = .bool true ∧ Ext w w' := by
  by_cases h : 1 ≤ z1 ∧ z1 ≤ 65536 ∧ 1 ≤ z2 ∧ z2 ≤ 4096
  · by_cases h2 : z1 ≤ 100 ∧ z2 ≤ 100
    · obtain ⟨k, rfl⟩ : ∃ k : Nat, z1 = (k : Int) := ⟨z1.toNat, by omega⟩
      obtain ⟨n, rfl⟩ : ∃ n : Nat, z2 = (n : Int) := ⟨z2.toNat, by omega⟩
      exact new_good k n w (by omega) (by omega) (by omega) (by omega)
    · exact new_big z1 z2 w h h2
  · exact new_no z1 z2 w h
end Go.Proofs.Ytcgcklfbnmaodaa

/- The law RollinghashPushes, walked. -/
import Derived.Test.YtjdjplfkfpfifaaDoorP
namespace Go.Proofs.YtjdjplfkfpfifaaDoor
open Go Go.RowKit
set_option linter.unusedVariables false
set_option linter.unusedSimpArgs false
/-- kinkeep/kinkeeplaw14.RollinghashPushes -/
theorem pushes_law (seed : B64) (n : Int) (A : Option Addr) (c lo hi : Nat) (bs : List UInt8) (w : World) (hm : bs.length ≤ c) (hc : c ≤ 140737488351232) (hr : Rd w lo hi 1 A bs.length (bcells bs)) (hT : TabAt w) :
    Ret Tryd.prog 4 [U seed, .int .i64 n, .slice A bs.length c] w fun v w' => v = .bool true ∧ Ext w w' := by
  have K0 : Ext w w := Keep.refl _ _
  refine ret_of Tryd.func4 rfl rfl ?_
  refine w_seq ?_
  refine w_region ?_
  refine sv rfl rfl rfl (ex_assign rfl rfl) ?_
  refine w_nil (qe_next ?_)
  refine w_seq ?_
  refine w_seq ?_
  refine w_region ?_
  refine sv rfl rfl rfl (ex_move rfl rfl) ?_
  refine sv rfl rfl rfl (ex_len Tryd.underlying28 rfl rfl) ?_
  refine sv rfl rfl rfl (ex_cmp rfl rfl rfl rfl) ?_
  refine w_nil (qe_next ?_)
  refine w_if rfl (fun h150 => ?_) (fun h150 => ?_)
  · skip
    refine w_seq ?_
    refine w_region ?_
    refine st rfl rfl rfl (ex_call call13 rfl rfl (awake_c _ (hT.ext K0) (Nat.lt_of_lt_of_le hT.pos K0.size))) ?_
    rintro _ w1 ⟨rfl, E9⟩
    replace K0 := K0.ext E9
    refine sv rfl rfl rfl (ex_assign rfl rfl) ?_
    refine w_nil (qe_next ?_)
    refine w_ret (qe_then_ret (qe_ret1 rfl rfl ?_))
    exact ⟨rfl, K0⟩
  · skip
    refine w_skip (qe_next ?_)
    refine w_seq ?_
    refine w_region ?_
    refine sv rfl rfl rfl (ex_move rfl rfl) ?_
    refine sv rfl rfl rfl (ex_move rfl rfl) ?_
    refine st rfl rfl rfl (ex_call call14 rfl rfl (new_c seed n _)) ?_
    rintro _ w2 ⟨b, rfl, hb0, hRb, E_b⟩
    replace K0 := K0.ext E_b
    refine sv rfl rfl rfl (ex_assign rfl rfl) ?_
    refine w_nil (qe_next ?_)
    refine w_seq ?_
    refine w_seq ?_
    refine w_region ?_
    refine sv rfl rfl rfl (ex_move rfl rfl) ?_
    refine sv rfl rfl rfl (ex_ptrNil Tryd.underlying29 rfl rfl rfl) ?_
    refine sv rfl rfl rfl (ex_move rfl rfl) ?_
    first | refine sk rfl rfl rfl ?_ | refine sv rfl rfl rfl (ex_move rfl rfl) ?_
    refine st rfl rfl rfl (ex_call call15 rfl rfl (len_c b seed (winOf n) [] _ hRb)) ?_
    rintro _ w3 ⟨rfl, hwe⟩
    obtain rfl := hwe.symm
    first | refine sk rfl rfl rfl ?_ | refine sv rfl rfl rfl (ex_cmp rfl rfl rfl (congrArg some (decide_eq_false (by simp)))) ?_
    first | refine sv rfl rfl rfl (ex_pick_t rfl rfl rfl) ?_ | refine sv rfl rfl rfl (ex_pick_f rfl rfl rfl) ?_
    refine sv rfl rfl rfl (ex_move rfl rfl) ?_
    first | refine sk rfl rfl rfl ?_ | refine sv rfl rfl rfl (ex_move rfl rfl) ?_
    refine st rfl rfl rfl (ex_call call16 rfl rfl (sum_c b seed (winOf n) [] _ hRb)) ?_
    rintro _ w4 ⟨rfl, hwe⟩
    obtain rfl := hwe.symm
    first | refine sk rfl rfl rfl ?_ | refine sv rfl rfl rfl (ex_cmp rfl rfl rfl (congrArg some (decide_eq_false (not_not_intro rfl)))) ?_
    first | refine sv rfl rfl rfl (ex_pick_t rfl rfl rfl) ?_ | refine sv rfl rfl rfl (ex_pick_f rfl rfl rfl) ?_
    refine w_nil (qe_next ?_)
    refine w_cond_f rfl ?_
    refine w_skip (qe_next ?_)
    refine w_seq ?_
    refine w_seq ?_
    refine w_region ?_
    refine sv rfl rfl rfl (ex_assign rfl rfl) ?_
    refine w_nil (qe_next ?_)
    refine w_block ?_
    refine w_loop (ι := Nat) (fun k => [(0, U seed), (1, .int .i64 n), (2, .slice A bs.length c), (7, .pointer (some ⟨b, 0, none⟩)), (8, .int .i64 (k : Int))]) (fun k w1 => k ≤ bs.length ∧ RollAt w1 b seed (winOf n) (lastN (winOf n) (bs.take k)) ∧ Ext w w1) (fun k => bs.length - k) (0) ⟨rfl, rfl, rfl, rfl, rfl, trivial⟩ ?_ ?_
    · exact ⟨by omega, by rw [List.take_zero, lastN_nil]; exact hRb, K0⟩
    · clear hRb K0
      rintro k w1 ⟨hk, hRb, K0⟩
      have hwin := winOf_bd n
      refine w_seq ?_
      refine w_seq ?_
      refine w_region ?_
      refine sv rfl rfl rfl (ex_move rfl rfl) ?_
      refine sv rfl rfl rfl (ex_move rfl rfl) ?_
      refine sv rfl rfl rfl (ex_len Tryd.underlying28 rfl rfl) ?_
      refine sv rfl rfl rfl (ex_cmp rfl rfl rfl rfl) ?_
      refine w_nil (qe_next ?_)
      refine w_if rfl (fun hk2 => ?_) (fun hk2 => ?_)
      · skip
        replace hk2 : k < bs.length := by omega
        obtain ⟨bb, oo, rfl, hc2⟩ := (hr.ext K0).byte hk2
        refine w_skip (qe_next ?_)
        refine w_seq ?_
        refine w_block ?_
        refine w_seq ?_
        refine w_region ?_
        refine sv rfl rfl rfl (ex_move rfl rfl) ?_
        refine sv rfl rfl rfl (ex_move rfl rfl) ?_
        refine sv rfl rfl rfl (ex_move rfl rfl) ?_
        refine sv rfl rfl rfl (ex_index Tryd.underlying28 sz5 _ rfl rfl rfl rfl (by omega)) ?_
        refine sv rfl rfl rfl (ex_load one5 rfl rfl (by assumption)) ?_
        refine st rfl rfl rfl (ex_call call17 rfl rfl (push_c b seed (winOf n) (lastN (winOf n) (bs.take k)) (bs.getD k 0) _ hRb)) ?_
        rintro _ w5 ⟨rfl, hR1, K1⟩
        have hn := hR1
        rw [lastN_take hk2] at hn
        clear hRb
        have hRb := hn
        clear hn hR1
        replace K0 := K0.trans K1 (fun j hj _ => by omega)
        clear K1
        refine w_nil (qe_next ?_)
        refine w_seq ?_
        refine w_draw mixed (fun w6 _ Ew6 => ?_)
        replace hRb := hRb.ext Ew6
        replace K0 := K0.ext Ew6
        refine wd_free 6 _ rfl rfl rfl rfl ?_
        refine fd [] rfl rfl rfl rfl rfl rfl rfl (fun w' E => ex_move rfl rfl) ?_
        refine fd [] rfl rfl rfl rfl rfl rfl rfl (fun w' E => ex_move rfl rfl) ?_
        refine fd [1] rfl rfl rfl rfl rfl rfl rfl (fun w' E => ex_add rfl rfl rfl (i64_in (by omega) (by omega))) ?_
        refine fd [0, 2] rfl rfl rfl rfl rfl rfl rfl (fun w' E => ex_slice Tryd.underlying28 sz5 0 (k + 1) rfl rfl (.inl ⟨rfl, rfl⟩) (.inr ⟨_, _, _, rfl, rfl, by omega⟩) (by omega) (by omega)) ?_
        refine fd [] rfl rfl rfl rfl rfl rfl rfl (fun w' E => ex_move rfl rfl) ?_
        refine fe [4] rfl rfl rfl rfl rfl rfl rfl (fun w' E => ex_call call19 rfl rfl ((refWin_c n _).ext)) ?_
        refine .nil (fun w7 Ew7 _ => ?_)
        replace hRb := hRb.ext Ew7
        replace K0 := K0.ext Ew7
        refine wd_one rfl rfl (by kernel_rfl) rfl rfl rfl (ex_call call18 rfl rfl ((refLast_c _ (k + 1 - 0) (c - 0) (winOf n) _ (by omega) (by omega) (by omega)).ext)) ?_
        rintro _ w8 ⟨rfl, Ew8⟩
        replace hRb := hRb.ext Ew8
        replace K0 := K0.ext Ew8
        refine wd_v rfl rfl (by kernel_rfl) rfl rfl rfl (ex_assign rfl rfl) ?_
        refine wd_nil (by decide) rfl ?_
        refine qe_next ?_
        refine w_seq ?_
        have hcut := ((hr.ext K0).cut (l := 0) (hh := k + 1) (m := c) (by omega) (by omega) hm)
        rw [show List.take ((k + 1 - 0) * 1) (List.drop (0 * 1) (bcells bs)) = bcells (bs.take (k + 1)) from by simp [bcells]] at hcut
        have hlast := hcut.last (c := c - 0) (win := winOf n) (by omega)
        refine w_region ?_
        refine sv rfl rfl rfl (ex_move rfl rfl) ?_
        refine st rfl rfl rfl (ex_call call15 rfl rfl (len_c b seed (winOf n) _ _ hRb)) ?_
        rintro _ w9 ⟨rfl, hwe⟩
        obtain rfl := hwe.symm
        refine sv rfl rfl rfl (ex_move rfl rfl) ?_
        refine sv rfl rfl rfl (ex_len Tryd.underlying28 rfl rfl) ?_
        refine sv rfl rfl rfl (ex_cmp rfl rfl rfl (congrArg some (decide_eq_false (by simp only [lastN_length, List.length_take]; omega)))) ?_
        refine sv rfl rfl rfl (ex_move rfl rfl) ?_
        first | refine sk rfl rfl rfl ?_ | refine sv rfl rfl rfl (ex_move rfl rfl) ?_
        refine st rfl rfl rfl (ex_call call16 rfl rfl (sum_c b seed (winOf n) _ _ hRb)) ?_
        rintro _ w10 ⟨rfl, hwe⟩
        obtain rfl := hwe.symm
        first | refine sk rfl rfl rfl ?_ | refine sv rfl rfl rfl (ex_move rfl rfl) ?_
        first | refine sk rfl rfl rfl ?_ | refine sv rfl rfl rfl (ex_move rfl rfl) ?_
        refine st rfl rfl rfl (ex_call call20 rfl rfl (refHash_m seed _ _ _ _ _ (lastN (winOf n) (bs.take (k + 1))) _ (by simp only [lastN_length, List.length_take]; omega) (by simp only [lastN_length, List.length_take]; omega) hlast)) ?_
        rintro _ w11 ⟨rfl, hwe⟩
        obtain rfl := hwe.symm
        first | refine sk rfl rfl rfl ?_ | refine sv rfl rfl rfl (ex_cmp rfl rfl rfl (congrArg some (decide_eq_false (not_not_intro rfl)))) ?_
        first | refine sv rfl rfl rfl (ex_pick_t rfl rfl rfl) ?_ | refine sv rfl rfl rfl (ex_pick_f rfl rfl rfl) ?_
        refine w_nil (qe_next ?_)
        refine w_cond_f rfl ?_
        refine w_skip (qe_in_normal (qe_next ?_))
        refine w_region ?_
        refine sv rfl rfl rfl (ex_move rfl rfl) ?_
        refine sv rfl rfl rfl (ex_add rfl rfl rfl (i64_in (by omega) (by omega))) ?_
        refine sv rfl rfl rfl (ex_assign rfl rfl) ?_
        refine w_nil (qe_round (k + 1) ⟨rfl, rfl, rfl, rfl, rfl, trivial⟩ ?_ ?_)
        · exact ⟨by omega, hRb, K0⟩
        · omega
      · skip
        refine w_exit (qe_then_exit (qe_then_exit (qe_in_exit (qe_next ?_))))
        refine w_seq ?_
        refine w_region ?_
        refine st rfl rfl rfl (ex_call call13 rfl rfl (awake_c _ (hT.ext K0) (Nat.lt_of_lt_of_le hT.pos K0.size))) ?_
        rintro _ w12 ⟨rfl, E9⟩
        replace hRb := hRb.ext E9
        replace K0 := K0.ext E9
        refine sv rfl rfl rfl (ex_assign rfl rfl) ?_
        refine w_nil (qe_next ?_)
        refine w_ret (qe_ret1 rfl rfl ?_)
        exact ⟨rfl, K0⟩
end Go.Proofs.YtjdjplfkfpfifaaDoor

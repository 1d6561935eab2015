/- The law RollinghashForgets, walked. -/
import Derived.Test.YtjdjplfkfpfifaaDoorP
namespace Go.Proofs.YtjdjplfkfpfifaaDoor
open Go Go.RowKit
set_option linter.unusedVariables false
set_option linter.unusedSimpArgs false
/-- kinkeep/kinkeeplaw14.RollinghashForgets -/
theorem forgets_law (seed : B64) (n : Int) (A B : Option Addr) (c d0 lo hi lo2 hi2 : Nat) (bs ts : List UInt8) (w : World) (hr : Rd w lo hi 1 A bs.length (bcells bs)) (hr2 : Rd w lo2 hi2 1 B ts.length (bcells ts)) (hm : ts.length ≤ d0) (hc : d0 ≤ 140737488351232) (hT : TabAt w) :
    Ret Tryd.prog 8 [U seed, .int .i64 n, .slice A bs.length c, .slice B ts.length d0] w fun v w' => v = .bool true ∧ Ext w w' := by
  have K0 : Ext w w := Keep.refl _ _
  refine ret_of Tryd.func8 rfl rfl ?_
  refine w_seq ?_
  refine w_region ?_
  refine sv rfl rfl rfl (ex_assign rfl rfl) ?_
  refine w_nil (qe_next ?_)
  refine w_seq ?_
  refine w_seq ?_
  refine w_region ?_
  refine sv rfl rfl rfl (ex_move rfl rfl) ?_
  refine sv rfl rfl rfl (ex_len Tryd.underlying28 rfl rfl) ?_
  refine sv_if rfl rfl rfl (ex_cmp rfl rfl rfl rfl) (fun h1 => ?_) (fun h1 => ?_)
  · skip
    refine sv rfl rfl rfl (ex_move rfl rfl) ?_
    first | refine sk rfl rfl rfl ?_ | refine sv rfl rfl rfl (ex_move rfl rfl) ?_
    first | refine sk rfl rfl rfl ?_ | refine sv rfl rfl rfl (ex_len Tryd.underlying28 rfl rfl) ?_
    refine sk rfl rfl rfl ?_
    first | refine sv rfl rfl rfl (ex_pick_t rfl rfl rfl) ?_ | refine sv rfl rfl rfl (ex_pick_f rfl rfl rfl) ?_
    refine sv rfl rfl rfl (ex_move rfl rfl) ?_
    first | refine sk rfl rfl rfl ?_ | refine sv rfl rfl rfl (ex_move rfl rfl) ?_
    first | refine sk rfl rfl rfl ?_ | refine sv rfl rfl rfl (ex_len Tryd.underlying28 rfl rfl) ?_
    first | refine sk rfl rfl rfl ?_ | refine sv rfl rfl rfl (ex_move rfl rfl) ?_
    refine sk rfl rfl rfl ?_
    refine sk rfl rfl rfl ?_
    first | refine sv rfl rfl rfl (ex_pick_t rfl rfl rfl) ?_ | refine sv rfl rfl rfl (ex_pick_f rfl rfl rfl) ?_
    refine w_nil (qe_next ?_)
    refine w_cond_t rfl ?_
    refine w_seq ?_
    refine w_region ?_
    refine st rfl rfl rfl (ex_call call13 rfl rfl (awake_c _ (hT.ext K0) (Nat.lt_of_lt_of_le hT.pos K0.size))) ?_
    rintro _ w1 ⟨rfl, E9⟩
    replace K0 := K0.ext E9
    refine sv rfl rfl rfl (ex_assign rfl rfl) ?_
    refine w_nil (qe_next ?_)
    refine w_ret (qe_then_ret (qe_ret1 rfl rfl ?_))
    exact ⟨rfl, K0⟩
  · skip
    refine sv rfl rfl rfl (ex_move rfl rfl) ?_
    first | refine sk rfl rfl rfl ?_ | refine sv rfl rfl rfl (ex_move rfl rfl) ?_
    first | refine sk rfl rfl rfl ?_ | refine sv rfl rfl rfl (ex_len Tryd.underlying28 rfl rfl) ?_
    refine sv_if rfl rfl rfl (ex_cmp rfl rfl rfl rfl) (fun h2 => ?_) (fun h2 => ?_)
    · skip
      first | refine sv rfl rfl rfl (ex_pick_t rfl rfl rfl) ?_ | refine sv rfl rfl rfl (ex_pick_f rfl rfl rfl) ?_
      refine sv rfl rfl rfl (ex_move rfl rfl) ?_
      first | refine sk rfl rfl rfl ?_ | refine sv rfl rfl rfl (ex_move rfl rfl) ?_
      first | refine sk rfl rfl rfl ?_ | refine sv rfl rfl rfl (ex_len Tryd.underlying28 rfl rfl) ?_
      first | refine sk rfl rfl rfl ?_ | refine sv rfl rfl rfl (ex_move rfl rfl) ?_
      refine sk rfl rfl rfl ?_
      refine sk rfl rfl rfl ?_
      first | refine sv rfl rfl rfl (ex_pick_t rfl rfl rfl) ?_ | refine sv rfl rfl rfl (ex_pick_f rfl rfl rfl) ?_
      refine w_nil (qe_next ?_)
      refine w_cond_t rfl ?_
      refine w_seq ?_
      refine w_region ?_
      refine st rfl rfl rfl (ex_call call13 rfl rfl (awake_c _ (hT.ext K0) (Nat.lt_of_lt_of_le hT.pos K0.size))) ?_
      rintro _ w2 ⟨rfl, E9⟩
      replace K0 := K0.ext E9
      refine sv rfl rfl rfl (ex_assign rfl rfl) ?_
      refine w_nil (qe_next ?_)
      refine w_ret (qe_then_ret (qe_ret1 rfl rfl ?_))
      exact ⟨rfl, K0⟩
    · skip
      first | refine sv rfl rfl rfl (ex_pick_t rfl rfl rfl) ?_ | refine sv rfl rfl rfl (ex_pick_f rfl rfl rfl) ?_
      refine sv rfl rfl rfl (ex_move rfl rfl) ?_
      first | refine sk rfl rfl rfl ?_ | refine sv rfl rfl rfl (ex_move rfl rfl) ?_
      first | refine sk rfl rfl rfl ?_ | refine sv rfl rfl rfl (ex_len Tryd.underlying28 rfl rfl) ?_
      first | refine sk rfl rfl rfl ?_ | refine sv rfl rfl rfl (ex_move rfl rfl) ?_
      refine st rfl rfl rfl (ex_call call19 rfl rfl (refWin_c n _)) ?_
      rintro _ w3 ⟨rfl, hwe⟩
      obtain rfl := hwe.symm
      refine sv_if rfl rfl rfl (ex_cmp rfl rfl rfl rfl) (fun h3 => ?_) (fun h3 => ?_)
      · skip
        first | refine sv rfl rfl rfl (ex_pick_t rfl rfl rfl) ?_ | refine sv rfl rfl rfl (ex_pick_f rfl rfl rfl) ?_
        refine w_nil (qe_next ?_)
        refine w_cond_t rfl ?_
        refine w_seq ?_
        refine w_region ?_
        refine st rfl rfl rfl (ex_call call13 rfl rfl (awake_c _ (hT.ext K0) (Nat.lt_of_lt_of_le hT.pos K0.size))) ?_
        rintro _ w4 ⟨rfl, E9⟩
        replace K0 := K0.ext E9
        refine sv rfl rfl rfl (ex_assign rfl rfl) ?_
        refine w_nil (qe_next ?_)
        refine w_ret (qe_then_ret (qe_ret1 rfl rfl ?_))
        exact ⟨rfl, K0⟩
      · skip
        first | refine sv rfl rfl rfl (ex_pick_t rfl rfl rfl) ?_ | refine sv rfl rfl rfl (ex_pick_f rfl rfl rfl) ?_
        refine w_nil (qe_next ?_)
        refine w_cond_f rfl ?_
        refine w_skip (qe_next ?_)
        refine w_seq ?_
        have hwin := winOf_bd n
        replace h3 : winOf n ≤ ts.length := by omega
        refine w_region ?_
        refine sv rfl rfl rfl (ex_move rfl rfl) ?_
        refine sv rfl rfl rfl (ex_move rfl rfl) ?_
        refine st rfl rfl rfl (ex_call call14 rfl rfl (new_c seed n _)) ?_
        rintro _ w5 ⟨b, rfl, hb0, hRb, E_b⟩
        replace K0 := K0.ext E_b
        have hbd := hRb.lt
        refine sv rfl rfl rfl (ex_move rfl rfl) ?_
        refine sv rfl rfl rfl (ex_move rfl rfl) ?_
        have hs2 := K0.size
        refine st rfl rfl rfl (ex_call call14 rfl rfl (new_c seed n _)) ?_
        rintro _ w6 ⟨d, rfl, hd0, hRd, E_d⟩
        replace K0 := K0.ext E_d
        replace hRb := hRb.ext E_d
        refine sv rfl rfl rfl (ex_assign rfl rfl) ?_
        refine sv rfl rfl rfl (ex_assign rfl rfl) ?_
        refine w_nil (qe_next ?_)
        refine w_seq ?_
        refine w_seq ?_
        refine w_region ?_
        refine sv rfl rfl rfl (ex_move rfl rfl) ?_
        refine sv rfl rfl rfl (ex_ptrNil Tryd.underlying29 rfl rfl rfl) ?_
        refine sv rfl rfl rfl (ex_move rfl rfl) ?_
        first | refine sk rfl rfl rfl ?_ | refine sv rfl rfl rfl (ex_move rfl rfl) ?_
        first | refine sk rfl rfl rfl ?_ | refine sv rfl rfl rfl (ex_ptrNil Tryd.underlying29 rfl rfl rfl) ?_
        first | refine sv rfl rfl rfl (ex_pick_t rfl rfl rfl) ?_ | refine sv rfl rfl rfl (ex_pick_f rfl rfl rfl) ?_
        refine w_nil (qe_next ?_)
        refine w_cond_f rfl ?_
        refine w_skip (qe_next ?_)
        refine w_seq ?_
        refine w_seq ?_
        refine w_region ?_
        refine sv rfl rfl rfl (ex_assign rfl rfl) ?_
        refine w_nil (qe_next ?_)
        refine w_block ?_
        refine w_loop (ι := Nat) (fun k => [(0, U seed), (1, .int .i64 n), (2, .slice A bs.length c), (3, .slice B ts.length d0), (9, .pointer (some ⟨b, 0, none⟩)), (10, .pointer (some ⟨d, 0, none⟩)), (11, .int .i64 (k : Int))]) (fun k w1 => k ≤ bs.length ∧ RollAt w1 b seed (winOf n) (lastN (winOf n) (bs.take k)) ∧ RollAt w1 d seed (winOf n) [] ∧ Ext w w1) (fun k => bs.length - k) (0) ⟨rfl, rfl, rfl, rfl, rfl, rfl, rfl, trivial⟩ ?_ ?_
        · exact ⟨by omega, by rw [List.take_zero, lastN_nil]; exact hRb, hRd, K0⟩
        · clear hRb hRd K0
          rintro k w1 ⟨hk, hRb, hRd, K0⟩
          refine w_seq ?_
          refine w_seq ?_
          refine w_region ?_
          refine sv rfl rfl rfl (ex_move rfl rfl) ?_
          refine sv rfl rfl rfl (ex_move rfl rfl) ?_
          refine sv rfl rfl rfl (ex_len Tryd.underlying28 rfl rfl) ?_
          refine sv rfl rfl rfl (ex_cmp rfl rfl rfl rfl) ?_
          refine w_nil (qe_next ?_)
          refine w_if rfl (fun hk2 => ?_) (fun hk2 => ?_)
          · skip
            replace hk2 : k < bs.length := by omega
            obtain ⟨bb, oo, rfl, hc2⟩ := (hr.ext K0).byte hk2
            refine w_skip (qe_next ?_)
            refine w_seq ?_
            refine w_block ?_
            refine w_region ?_
            refine sv rfl rfl rfl (ex_move rfl rfl) ?_
            refine sv rfl rfl rfl (ex_move rfl rfl) ?_
            refine sv rfl rfl rfl (ex_move rfl rfl) ?_
            refine sv rfl rfl rfl (ex_index Tryd.underlying28 sz5 _ rfl rfl rfl rfl (by omega)) ?_
            refine sv rfl rfl rfl (ex_load one5 rfl rfl (by assumption)) ?_
            refine st rfl rfl rfl (ex_call call17 rfl rfl (push_c b seed (winOf n) (lastN (winOf n) (bs.take k)) (bs.getD k 0) _ hRb)) ?_
            rintro _ w7 ⟨rfl, hR1, K1⟩
            have hn := hR1
            rw [lastN_take hk2] at hn
            replace hRd := hRd.other hRb K1 (by omega)
            clear hRb
            have hRb := hn
            clear hn hR1
            replace K0 := K0.trans K1 (fun j hj _ => by omega)
            clear K1
            refine w_nil (qe_in_normal (qe_next ?_))
            refine w_region ?_
            refine sv rfl rfl rfl (ex_move rfl rfl) ?_
            refine sv rfl rfl rfl (ex_add rfl rfl rfl (i64_in (by omega) (by omega))) ?_
            refine sv rfl rfl rfl (ex_assign rfl rfl) ?_
            refine w_nil (qe_round (k + 1) ⟨rfl, rfl, rfl, rfl, rfl, rfl, rfl, trivial⟩ ?_ ?_)
            · exact ⟨by omega, hRb, hRd, K0⟩
            · omega
          · skip
            replace hk2 : k = bs.length := by omega
            subst hk2
            rw [List.take_length] at hRb
            refine w_exit (qe_then_exit (qe_then_exit (qe_in_exit (qe_next ?_))))
            refine w_seq ?_
            refine w_seq ?_
            refine w_region ?_
            refine sv rfl rfl rfl (ex_assign rfl rfl) ?_
            refine w_nil (qe_next ?_)
            refine w_block ?_
            refine w_loop (ι := Nat) (fun k => [(0, U seed), (1, .int .i64 n), (2, .slice A bs.length c), (3, .slice B ts.length d0), (9, .pointer (some ⟨b, 0, none⟩)), (10, .pointer (some ⟨d, 0, none⟩)), (12, .int .i64 (k : Int))]) (fun k w1 => k ≤ ts.length ∧ RollAt w1 b seed (winOf n) (lastN (winOf n) (bs ++ ts.take k)) ∧ RollAt w1 d seed (winOf n) (lastN (winOf n) (ts.take k)) ∧ Ext w w1) (fun k => ts.length - k) (0) ⟨rfl, rfl, rfl, rfl, rfl, rfl, rfl, trivial⟩ ?_ ?_
            · exact ⟨by omega, by rw [List.take_zero, List.append_nil]; exact hRb, by rw [List.take_zero, lastN_nil]; exact hRd, K0⟩
            · clear hRb hRd K0
              rintro k w1 ⟨hk, hRb, hRd, K0⟩
              refine w_seq ?_
              refine w_seq ?_
              refine w_region ?_
              refine sv rfl rfl rfl (ex_move rfl rfl) ?_
              refine sv rfl rfl rfl (ex_move rfl rfl) ?_
              refine sv rfl rfl rfl (ex_len Tryd.underlying28 rfl rfl) ?_
              refine sv rfl rfl rfl (ex_cmp rfl rfl rfl rfl) ?_
              refine w_nil (qe_next ?_)
              refine w_if rfl (fun hk2 => ?_) (fun hk2 => ?_)
              · skip
                replace hk2 : k < ts.length := by omega
                obtain ⟨bb, oo, rfl, hc2⟩ := (hr2.ext K0).byte hk2
                refine w_skip (qe_next ?_)
                refine w_seq ?_
                refine w_block ?_
                refine w_seq ?_
                refine w_region ?_
                refine sv rfl rfl rfl (ex_move rfl rfl) ?_
                refine sv rfl rfl rfl (ex_move rfl rfl) ?_
                refine sv rfl rfl rfl (ex_move rfl rfl) ?_
                refine sv rfl rfl rfl (ex_index Tryd.underlying28 sz5 _ rfl rfl rfl rfl (by omega)) ?_
                refine sv rfl rfl rfl (ex_load one5 rfl rfl (by assumption)) ?_
                refine st rfl rfl rfl (ex_call call17 rfl rfl (push_c b seed (winOf n) (lastN (winOf n) (bs ++ ts.take k)) (ts.getD k 0) _ hRb)) ?_
                rintro _ w8 ⟨rfl, hR1, K1⟩
                have hn := hR1
                rw [lastN_take' hk2] at hn
                replace hRd := hRd.other hRb K1 (by omega)
                clear hRb
                have hRb := hn
                clear hn hR1
                replace K0 := K0.trans K1 (fun j hj _ => by omega)
                clear K1
                refine w_nil (qe_next ?_)
                obtain ⟨bb, oo, hAA, hc2⟩ := (hr2.ext K0).byte hk2
                cases hAA
                refine w_region ?_
                refine sv rfl rfl rfl (ex_move rfl rfl) ?_
                refine sv rfl rfl rfl (ex_move rfl rfl) ?_
                refine sv rfl rfl rfl (ex_move rfl rfl) ?_
                refine sv rfl rfl rfl (ex_index Tryd.underlying28 sz5 _ rfl rfl rfl rfl (by omega)) ?_
                refine sv rfl rfl rfl (ex_load one5 rfl rfl (by assumption)) ?_
                refine st rfl rfl rfl (ex_call call17 rfl rfl (push_c d seed (winOf n) (lastN (winOf n) (ts.take k)) (ts.getD k 0) _ hRd)) ?_
                rintro _ w9 ⟨rfl, hR1, K1⟩
                have hn := hR1
                rw [lastN_take hk2] at hn
                replace hRb := hRb.other hRd K1 (by omega)
                clear hRd
                have hRd := hn
                clear hn hR1
                replace K0 := K0.trans K1 (fun j hj _ => by omega)
                clear K1
                refine w_nil (qe_in_normal (qe_next ?_))
                refine w_region ?_
                refine sv rfl rfl rfl (ex_move rfl rfl) ?_
                refine sv rfl rfl rfl (ex_add rfl rfl rfl (i64_in (by omega) (by omega))) ?_
                refine sv rfl rfl rfl (ex_assign rfl rfl) ?_
                refine w_nil (qe_round (k + 1) ⟨rfl, rfl, rfl, rfl, rfl, rfl, rfl, trivial⟩ ?_ ?_)
                · exact ⟨by omega, hRb, hRd, K0⟩
                · omega
              · skip
                replace hk2 : k = ts.length := by omega
                subst hk2
                rw [List.take_length, lastN_append (winOf n) bs ts h3] at hRb
                rw [List.take_length] at hRd
                refine w_exit (qe_then_exit (qe_then_exit (qe_in_exit (qe_next ?_))))
                refine w_seq ?_
                refine w_region ?_
                refine sv rfl rfl rfl (ex_move rfl rfl) ?_
                refine sv rfl rfl rfl (ex_move rfl rfl) ?_
                refine sv rfl rfl rfl (ex_move rfl rfl) ?_
                refine st rfl rfl rfl (ex_call call19 rfl rfl (refWin_c n _)) ?_
                rintro _ w10 ⟨rfl, hwe⟩
                obtain rfl := hwe.symm
                refine st rfl rfl rfl (ex_call call18 rfl rfl (refLast_c B ts.length d0 (winOf n) _ hm hc (by omega))) ?_
                rintro _ w11 ⟨rfl, hwe⟩
                obtain rfl := hwe.symm
                refine st rfl rfl rfl (ex_call call24 rfl rfl (of_c seed _ _ _ lo2 hi2 (lastN (winOf n) ts) _ (lastN_length _ _).symm ((hr2.ext K0).last hm) (by rw [lastN_length]; omega))) ?_
                rintro _ w12 ⟨rfl, E5⟩
                replace hRb := hRb.ext E5
                replace hRd := hRd.ext E5
                replace K0 := K0.ext E5
                refine sv rfl rfl rfl (ex_move rfl rfl) ?_
                refine sv rfl rfl rfl (ex_extract rfl rfl rfl) ?_
                refine sv rfl rfl rfl (ex_extract rfl rfl rfl) ?_
                refine sv rfl rfl rfl (ex_assign rfl rfl) ?_
                refine sv rfl rfl rfl (ex_assign rfl rfl) ?_
                refine w_nil (qe_next ?_)
                refine w_seq ?_
                refine w_region ?_
                refine st rfl rfl rfl (ex_call call13 rfl rfl (awake_c _ (hT.ext K0) (Nat.lt_of_lt_of_le hT.pos K0.size))) ?_
                rintro _ w13 ⟨rfl, E9⟩
                replace hRb := hRb.ext E9
                replace hRd := hRd.ext E9
                replace K0 := K0.ext E9
                refine sv rfl rfl rfl (ex_move rfl rfl) ?_
                first | refine sk rfl rfl rfl ?_ | refine sv rfl rfl rfl (ex_move rfl rfl) ?_
                refine st rfl rfl rfl (ex_call call16 rfl rfl (sum_c b seed (winOf n) _ _ hRb)) ?_
                rintro _ w14 ⟨rfl, hwe⟩
                obtain rfl := hwe.symm
                first | refine sk rfl rfl rfl ?_ | refine sv rfl rfl rfl (ex_move rfl rfl) ?_
                refine st rfl rfl rfl (ex_call call16 rfl rfl (sum_c d seed (winOf n) _ _ hRd)) ?_
                rintro _ w15 ⟨rfl, hwe⟩
                obtain rfl := hwe.symm
                first | refine sk rfl rfl rfl ?_ | refine sv rfl rfl rfl (ex_cmp rfl rfl rfl (congrArg some (decide_eq_true (rfl)))) ?_
                first | refine sv rfl rfl rfl (ex_pick_t rfl rfl rfl) ?_ | refine sv rfl rfl rfl (ex_pick_f rfl rfl rfl) ?_
                refine sv rfl rfl rfl (ex_move rfl rfl) ?_
                first | refine sk rfl rfl rfl ?_ | refine sv rfl rfl rfl (ex_move rfl rfl) ?_
                first | refine sk rfl rfl rfl ?_ | refine sv rfl rfl rfl (ex_cmp rfl rfl rfl (congrArg some (decide_eq_true (rfl)))) ?_
                first | refine sv rfl rfl rfl (ex_pick_t rfl rfl rfl) ?_ | refine sv rfl rfl rfl (ex_pick_f rfl rfl rfl) ?_
                refine sv rfl rfl rfl (ex_move rfl rfl) ?_
                first | refine sk rfl rfl rfl ?_ | refine sv rfl rfl rfl (ex_move rfl rfl) ?_
                refine st rfl rfl rfl (ex_call call16 rfl rfl (sum_c b seed (winOf n) _ _ hRb)) ?_
                rintro _ w16 ⟨rfl, hwe⟩
                obtain rfl := hwe.symm
                first | refine sk rfl rfl rfl ?_ | refine sv rfl rfl rfl (ex_move rfl rfl) ?_
                first | refine sk rfl rfl rfl ?_ | refine sv rfl rfl rfl (ex_cmp rfl rfl rfl (congrArg some (decide_eq_true (rfl)))) ?_
                first | refine sv rfl rfl rfl (ex_pick_t rfl rfl rfl) ?_ | refine sv rfl rfl rfl (ex_pick_f rfl rfl rfl) ?_
                refine sv rfl rfl rfl (ex_assign rfl rfl) ?_
                refine w_nil (qe_next ?_)
                refine w_ret (qe_ret1 rfl rfl ?_)
                exact ⟨rfl, K0⟩
end Go.Proofs.YtjdjplfkfpfifaaDoor

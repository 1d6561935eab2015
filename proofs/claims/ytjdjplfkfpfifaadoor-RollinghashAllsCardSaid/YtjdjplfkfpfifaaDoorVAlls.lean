/- The law RollinghashAlls, walked. -/
import Derived.Test.YtjdjplfkfpfifaaDoorQ
namespace Go.Proofs.YtjdjplfkfpfifaaDoor
open Go Go.RowKit
set_option linter.unusedVariables false
set_option linter.unusedSimpArgs false
/-- kinkeep/kinkeeplaw14.RollinghashAlls -/
theorem alls_bad (seed : B64) (A : Option Addr) (c lo hi : Nat) (bs : List UInt8) (w : World) (hr : Rd w lo hi 1 A bs.length (bcells bs)) (hm : bs.length ≤ c) (hc : c ≤ 140737488351232) (hT : TabAt w) (n : Int) (h : n < 1 ∨ 64 < n) :
    Ret Tryd.prog 10 [U seed, .int .i64 n, .slice A bs.length c] w fun v w' => v = .bool true ∧ Ext w w' := by
  have K0 : Ext w w := Keep.refl _ _
  refine ret_of Tryd.func10 rfl rfl ?_
  refine w_seq ?_
  refine w_region ?_
  refine sv rfl rfl rfl (ex_assign rfl rfl) ?_
  refine w_nil (qe_next ?_)
  refine w_seq ?_
  refine w_seq ?_
  refine w_region ?_
  refine sv rfl rfl rfl (ex_move rfl rfl) ?_
  refine sv rfl rfl rfl (ex_len Tryd.underlying28 rfl rfl) ?_
  refine sv rfl rfl rfl (ex_cmp rfl rfl rfl rfl) ?_
  refine w_nil (qe_next ?_)
  refine w_if rfl (fun h200 => ?_) (fun h200 => ?_)
  · skip
    refine w_seq ?_
    refine w_region ?_
    refine st rfl rfl rfl (ex_call call13 rfl rfl (awake_c _ (hT.ext K0) (Nat.lt_of_lt_of_le hT.pos K0.size))) ?_
    rintro _ w1 ⟨rfl, E9⟩
    replace K0 := K0.ext E9
    refine sv rfl rfl rfl (ex_assign rfl rfl) ?_
    refine w_nil (qe_next ?_)
    refine w_ret (qe_then_ret (qe_ret1 rfl rfl ?_))
    exact ⟨rfl, K0⟩
  · skip
    refine w_skip (qe_next ?_)
    refine w_seq ?_
    refine w_region ?_
    refine sv rfl rfl rfl (ex_move rfl rfl) ?_
    refine sv rfl rfl rfl (ex_move rfl rfl) ?_
    refine sv rfl rfl rfl (ex_move rfl rfl) ?_
    refine st rfl rfl rfl (ex_call call26 rfl rfl (allBad_c seed n A bs.length c _ h)) ?_
    rintro _ w2 ⟨rfl, E3⟩
    replace K0 := K0.ext E3
    refine sv rfl rfl rfl (ex_move rfl rfl) ?_
    refine sv rfl rfl rfl (ex_extract rfl rfl rfl) ?_
    refine sv rfl rfl rfl (ex_extract rfl rfl rfl) ?_
    refine sv rfl rfl rfl (ex_assign rfl rfl) ?_
    refine sv rfl rfl rfl (ex_assign rfl rfl) ?_
    refine w_nil (qe_next ?_)
    refine w_seq ?_
    refine w_seq ?_
    refine w_region ?_
    refine sv rfl rfl rfl (ex_move rfl rfl) ?_
    refine sv_if rfl rfl rfl (ex_cmp rfl rfl rfl rfl) (fun h1 => ?_) (fun h1 => ?_)
    · skip
      refine sv rfl rfl rfl (ex_move rfl rfl) ?_
      first | refine sk rfl rfl rfl ?_ | refine sv rfl rfl rfl (ex_move rfl rfl) ?_
      first | refine sk rfl rfl rfl ?_ | refine sv rfl rfl rfl (ex_cmp rfl rfl rfl (congrArg some (decide_eq_true (by omega)))) ?_
      first | refine sv rfl rfl rfl (ex_pick_t rfl rfl rfl) ?_ | refine sv rfl rfl rfl (ex_pick_f rfl rfl rfl) ?_
      refine w_nil (qe_next ?_)
      refine w_cond_t rfl ?_
      refine w_seq ?_
      refine w_region ?_
      refine st rfl rfl rfl (ex_call call13 rfl rfl (awake_c _ (hT.ext K0) (Nat.lt_of_lt_of_le hT.pos K0.size))) ?_
      rintro _ w3 ⟨rfl, E9⟩
      replace K0 := K0.ext E9
      refine sv rfl rfl rfl (ex_move rfl rfl) ?_
      first | refine sk rfl rfl rfl ?_ | refine sv rfl rfl rfl (ex_move rfl rfl) ?_
      first | refine sk rfl rfl rfl ?_ | refine sv rfl rfl rfl (ex_cmp rfl rfl rfl (congrArg some (decide_eq_true (rfl)))) ?_
      first | refine sv rfl rfl rfl (ex_pick_t rfl rfl rfl) ?_ | refine sv rfl rfl rfl (ex_pick_f rfl rfl rfl) ?_
      refine sv rfl rfl rfl (ex_move rfl rfl) ?_
      first | refine sk rfl rfl rfl ?_ | refine sv rfl rfl rfl (ex_move rfl rfl) ?_
      first | refine sk rfl rfl rfl ?_ | refine sv rfl rfl rfl (ex_len Tryd.underlying23 rfl rfl) ?_
      first | refine sk rfl rfl rfl ?_ | refine sv rfl rfl rfl (ex_cmp rfl rfl rfl (congrArg some (decide_eq_true (rfl)))) ?_
      first | refine sv rfl rfl rfl (ex_pick_t rfl rfl rfl) ?_ | refine sv rfl rfl rfl (ex_pick_f rfl rfl rfl) ?_
      refine sv rfl rfl rfl (ex_assign rfl rfl) ?_
      refine w_nil (qe_next ?_)
      refine w_ret (qe_then_ret (qe_ret1 rfl rfl ?_))
      exact ⟨rfl, K0⟩
    · skip
      refine sv rfl rfl rfl (ex_move rfl rfl) ?_
      first | refine sk rfl rfl rfl ?_ | refine sv rfl rfl rfl (ex_move rfl rfl) ?_
      first | refine sk rfl rfl rfl ?_ | refine sv rfl rfl rfl (ex_cmp rfl rfl rfl (congrArg some (decide_eq_true (by omega)))) ?_
      first | refine sv rfl rfl rfl (ex_pick_t rfl rfl rfl) ?_ | refine sv rfl rfl rfl (ex_pick_f rfl rfl rfl) ?_
      refine w_nil (qe_next ?_)
      refine w_cond_t rfl ?_
      refine w_seq ?_
      refine w_region ?_
      refine st rfl rfl rfl (ex_call call13 rfl rfl (awake_c _ (hT.ext K0) (Nat.lt_of_lt_of_le hT.pos K0.size))) ?_
      rintro _ w4 ⟨rfl, E9⟩
      replace K0 := K0.ext E9
      refine sv rfl rfl rfl (ex_move rfl rfl) ?_
      first | refine sk rfl rfl rfl ?_ | refine sv rfl rfl rfl (ex_move rfl rfl) ?_
      first | refine sk rfl rfl rfl ?_ | refine sv rfl rfl rfl (ex_cmp rfl rfl rfl (congrArg some (decide_eq_true (rfl)))) ?_
      first | refine sv rfl rfl rfl (ex_pick_t rfl rfl rfl) ?_ | refine sv rfl rfl rfl (ex_pick_f rfl rfl rfl) ?_
      refine sv rfl rfl rfl (ex_move rfl rfl) ?_
      first | refine sk rfl rfl rfl ?_ | refine sv rfl rfl rfl (ex_move rfl rfl) ?_
      first | refine sk rfl rfl rfl ?_ | refine sv rfl rfl rfl (ex_len Tryd.underlying23 rfl rfl) ?_
      first | refine sk rfl rfl rfl ?_ | refine sv rfl rfl rfl (ex_cmp rfl rfl rfl (congrArg some (decide_eq_true (rfl)))) ?_
      first | refine sv rfl rfl rfl (ex_pick_t rfl rfl rfl) ?_ | refine sv rfl rfl rfl (ex_pick_f rfl rfl rfl) ?_
      refine sv rfl rfl rfl (ex_assign rfl rfl) ?_
      refine w_nil (qe_next ?_)
      refine w_ret (qe_then_ret (qe_ret1 rfl rfl ?_))
      exact ⟨rfl, K0⟩
/-- kinkeep/kinkeeplaw14.RollinghashAlls -/
theorem alls_good (seed : B64) (A : Option Addr) (c lo hi : Nat) (bs : List UInt8) (w : World) (hr : Rd w lo hi 1 A bs.length (bcells bs)) (hm : bs.length ≤ c) (hc : c ≤ 140737488351232) (hT : TabAt w) (win : Nat) (h1 : 1 ≤ win) (h2 : win ≤ 64) :
    Ret Tryd.prog 10 [U seed, .int .i64 (win : Int), .slice A bs.length c] w fun v w' => v = .bool true ∧ Ext w w' := by
  have K0 : Ext w w := Keep.refl _ _
  refine ret_of Tryd.func10 rfl rfl ?_
  refine w_seq ?_
  refine w_region ?_
  refine sv rfl rfl rfl (ex_assign rfl rfl) ?_
  refine w_nil (qe_next ?_)
  refine w_seq ?_
  refine w_seq ?_
  refine w_region ?_
  refine sv rfl rfl rfl (ex_move rfl rfl) ?_
  refine sv rfl rfl rfl (ex_len Tryd.underlying28 rfl rfl) ?_
  refine sv rfl rfl rfl (ex_cmp rfl rfl rfl rfl) ?_
  refine w_nil (qe_next ?_)
  refine w_if rfl (fun h200 => ?_) (fun h200 => ?_)
  · skip
    refine w_seq ?_
    refine w_region ?_
    refine st rfl rfl rfl (ex_call call13 rfl rfl (awake_c _ (hT.ext K0) (Nat.lt_of_lt_of_le hT.pos K0.size))) ?_
    rintro _ w1 ⟨rfl, E9⟩
    replace K0 := K0.ext E9
    refine sv rfl rfl rfl (ex_assign rfl rfl) ?_
    refine w_nil (qe_next ?_)
    refine w_ret (qe_then_ret (qe_ret1 rfl rfl ?_))
    exact ⟨rfl, K0⟩
  · skip
    refine w_skip (qe_next ?_)
    refine w_seq ?_
    refine w_region ?_
    refine sv rfl rfl rfl (ex_move rfl rfl) ?_
    refine sv rfl rfl rfl (ex_move rfl rfl) ?_
    refine sv rfl rfl rfl (ex_move rfl rfl) ?_
    refine st rfl rfl rfl (ex_call call26 rfl rfl (all_c seed win A c lo hi bs _ h1 h2 (by omega) (hr.ext K0))) ?_
    rintro _ w2 ⟨B, d, rfl, hall, E3⟩
    replace K0 := K0.ext E3
    refine sv rfl rfl rfl (ex_move rfl rfl) ?_
    refine sv rfl rfl rfl (ex_extract rfl rfl rfl) ?_
    refine sv rfl rfl rfl (ex_extract rfl rfl rfl) ?_
    refine sv rfl rfl rfl (ex_assign rfl rfl) ?_
    refine sv rfl rfl rfl (ex_assign rfl rfl) ?_
    refine w_nil (qe_next ?_)
    refine w_seq ?_
    refine w_seq ?_
    have hlo := K0.size
    refine w_region ?_
    refine sv rfl rfl rfl (ex_move rfl rfl) ?_
    refine sv rfl rfl rfl (ex_cmp rfl rfl rfl (congrArg some (decide_eq_false (by omega)))) ?_
    refine sv rfl rfl rfl (ex_move rfl rfl) ?_
    first | refine sk rfl rfl rfl ?_ | refine sv rfl rfl rfl (ex_move rfl rfl) ?_
    first | refine sk rfl rfl rfl ?_ | refine sv rfl rfl rfl (ex_cmp rfl rfl rfl (congrArg some (decide_eq_false (by omega)))) ?_
    first | refine sv rfl rfl rfl (ex_pick_t rfl rfl rfl) ?_ | refine sv rfl rfl rfl (ex_pick_f rfl rfl rfl) ?_
    refine w_nil (qe_next ?_)
    refine w_cond_f rfl ?_
    refine w_skip (qe_next ?_)
    refine w_seq ?_
    refine w_seq ?_
    refine w_region ?_
    refine sv rfl rfl rfl (ex_move rfl rfl) ?_
    refine sv rfl rfl rfl (ex_len Tryd.underlying28 rfl rfl) ?_
    refine sv rfl rfl rfl (ex_move rfl rfl) ?_
    refine sv rfl rfl rfl (ex_cmp rfl rfl rfl rfl) ?_
    refine w_nil (qe_next ?_)
    refine w_if rfl (fun h6 => ?_) (fun h6 => ?_)
    · skip
      refine w_seq ?_
      refine w_region ?_
      refine st rfl rfl rfl (ex_call call13 rfl rfl (awake_c _ (hT.ext K0) (Nat.lt_of_lt_of_le hT.pos K0.size))) ?_
      rintro _ w3 ⟨rfl, E9⟩
      replace K0 := K0.ext E9
      replace hall := hall.ext E9
      refine sv rfl rfl rfl (ex_move rfl rfl) ?_
      first | refine sk rfl rfl rfl ?_ | refine sv rfl rfl rfl (ex_move rfl rfl) ?_
      first | refine sk rfl rfl rfl ?_ | refine sv rfl rfl rfl (ex_cmp rfl rfl rfl (congrArg some (decide_eq_true (rfl)))) ?_
      first | refine sv rfl rfl rfl (ex_pick_t rfl rfl rfl) ?_ | refine sv rfl rfl rfl (ex_pick_f rfl rfl rfl) ?_
      refine sv rfl rfl rfl (ex_move rfl rfl) ?_
      first | refine sk rfl rfl rfl ?_ | refine sv rfl rfl rfl (ex_move rfl rfl) ?_
      first | refine sk rfl rfl rfl ?_ | refine sv rfl rfl rfl (ex_len Tryd.underlying23 rfl rfl) ?_
      first | refine sk rfl rfl rfl ?_ | refine sv rfl rfl rfl (ex_cmp rfl rfl rfl (congrArg some (decide_eq_true (by omega)))) ?_
      first | refine sv rfl rfl rfl (ex_pick_t rfl rfl rfl) ?_ | refine sv rfl rfl rfl (ex_pick_f rfl rfl rfl) ?_
      refine sv rfl rfl rfl (ex_assign rfl rfl) ?_
      refine w_nil (qe_next ?_)
      refine w_ret (qe_then_ret (qe_ret1 rfl rfl ?_))
      exact ⟨rfl, K0⟩
    · skip
      refine w_skip (qe_next ?_)
      refine w_seq ?_
      refine w_seq ?_
      refine w_region ?_
      refine sv rfl rfl rfl (ex_move rfl rfl) ?_
      refine sv rfl rfl rfl (ex_cmp rfl rfl rfl (congrArg some (decide_eq_false (by omega)))) ?_
      refine sv rfl rfl rfl (ex_move rfl rfl) ?_
      first | refine sk rfl rfl rfl ?_ | refine sv rfl rfl rfl (ex_move rfl rfl) ?_
      first | refine sk rfl rfl rfl ?_ | refine sv rfl rfl rfl (ex_len Tryd.underlying23 rfl rfl) ?_
      first | refine sk rfl rfl rfl ?_ | refine sv rfl rfl rfl (ex_move rfl rfl) ?_
      first | refine sk rfl rfl rfl ?_ | refine sv rfl rfl rfl (ex_len Tryd.underlying28 rfl rfl) ?_
      first | refine sk rfl rfl rfl ?_ | refine sv rfl rfl rfl (ex_move rfl rfl) ?_
      first | refine sk rfl rfl rfl ?_ | refine sv rfl rfl rfl (ex_sub rfl rfl rfl (i64_in (by omega) (by omega))) ?_
      first | refine sk rfl rfl rfl ?_ | refine sv rfl rfl rfl (ex_add rfl rfl rfl (i64_in (by omega) (by omega))) ?_
      first | refine sk rfl rfl rfl ?_ | refine sv rfl rfl rfl (ex_cmp rfl rfl rfl (congrArg some (decide_eq_false (by omega)))) ?_
      first | refine sv rfl rfl rfl (ex_pick_t rfl rfl rfl) ?_ | refine sv rfl rfl rfl (ex_pick_f rfl rfl rfl) ?_
      refine w_nil (qe_next ?_)
      refine w_cond_f rfl ?_
      refine w_skip (qe_next ?_)
      refine w_seq ?_
      refine w_seq ?_
      obtain ⟨hiB, hallB⟩ : ∃ x, Rd _ w.heap.size x 1 B (bs.length + 1 - win) (allS seed win bs bs.length) := ⟨_, hall⟩
      refine w_region ?_
      refine sv rfl rfl rfl (ex_assign rfl rfl) ?_
      refine w_nil (qe_next ?_)
      refine w_block ?_
      refine w_loop (ι := Nat) (fun k => [(0, U seed), (1, .int .i64 (win : Int)), (2, .slice A bs.length c), (7, .slice B (bs.length + 1 - win) d), (9, .int .i64 (k : Int))]) (fun k w1 => k ≤ bs.length + 1 - win ∧ Rd w1 w.heap.size hiB 1 B (bs.length + 1 - win) (allS seed win bs bs.length) ∧ Ext w w1) (fun k => bs.length + 1 - win - k) (0) ⟨rfl, rfl, rfl, rfl, rfl, trivial⟩ ?_ ?_
      · exact ⟨by omega, hallB, K0⟩
      · clear hall hallB K0
        rintro k w1 ⟨hk, hall, K0⟩
        refine w_seq ?_
        refine w_seq ?_
        refine w_region ?_
        refine sv rfl rfl rfl (ex_move rfl rfl) ?_
        refine sv rfl rfl rfl (ex_move rfl rfl) ?_
        refine sv rfl rfl rfl (ex_len Tryd.underlying23 rfl rfl) ?_
        refine sv rfl rfl rfl (ex_cmp rfl rfl rfl rfl) ?_
        refine w_nil (qe_next ?_)
        refine w_if rfl (fun hk2 => ?_) (fun hk2 => ?_)
        · skip
          replace hk2 : k < bs.length + 1 - win := by omega
          refine w_skip (qe_next ?_)
          refine w_seq ?_
          refine w_block ?_
          refine w_seq ?_
          refine w_draw mixed (fun w4 _ Ew4 => ?_)
          replace hall := hall.ext Ew4
          replace K0 := K0.ext Ew4
          obtain ⟨ba, oa, ua, rfl, _, _, hu, hcell⟩ := hall.at_ hk2
          rw [allS_get seed win bs hk2] at hu
          cases hu
          have hcut := (hr.ext K0).cut (l := k) (hh := k + win) (m := c) (by omega) (by omega) hm
          rw [show List.take ((k + win - k) * 1) (List.drop (k * 1) (bcells bs)) = bcells ((bs.drop k).take win) from by simp [bcells, show k + win - k = win by omega]] at hcut
          refine wd_free 12 _ rfl rfl rfl rfl ?_
          refine fd [] rfl rfl rfl rfl rfl rfl rfl (fun w' E => ex_move rfl rfl) ?_
          refine fd [] rfl rfl rfl rfl rfl rfl rfl (fun w' E => ex_move rfl rfl) ?_
          refine fd [0, 1] rfl rfl rfl rfl rfl rfl rfl (fun w' E => ex_index Tryd.underlying23 sz22 _ rfl rfl rfl rfl (by omega)) ?_
          refine fd [2] rfl rfl rfl rfl rfl rfl rfl (fun w' E => ex_load one22 rfl rfl (E.cell trivial (by assumption))) ?_
          refine fd [] rfl rfl rfl rfl rfl rfl rfl (fun w' E => ex_move rfl rfl) ?_
          refine fd [] rfl rfl rfl rfl rfl rfl rfl (fun w' E => ex_move rfl rfl) ?_
          refine fd [] rfl rfl rfl rfl rfl rfl rfl (fun w' E => ex_move rfl rfl) ?_
          refine fd [] rfl rfl rfl rfl rfl rfl rfl (fun w' E => ex_move rfl rfl) ?_
          refine fd [] rfl rfl rfl rfl rfl rfl rfl (fun w' E => ex_move rfl rfl) ?_
          refine fd [7, 8] rfl rfl rfl rfl rfl rfl rfl (fun w' E => ex_add rfl rfl rfl (i64_in (by omega) (by omega))) ?_
          refine fd [5, 6, 9] rfl rfl rfl rfl rfl rfl rfl (fun w' E => ex_slice Tryd.underlying28 sz5 k (k + win) rfl rfl (.inr ⟨_, _, _, rfl, rfl, rfl⟩) (.inr ⟨_, _, _, rfl, rfl, by omega⟩) (by omega) (by omega)) ?_
          refine fe [4, 10] rfl rfl rfl rfl rfl rfl rfl (fun w' E => ex_call call20 rfl rfl ((refHash_m seed _ _ _ _ _ ((bs.drop k).take win) _ (by simp; omega) (by simp; omega) (hcut.ext E)).ext)) ?_
          refine .nil (fun w5 Ew5 _ => ?_)
          replace hall := hall.ext Ew5
          replace K0 := K0.ext Ew5
          refine wd_v rfl rfl (by kernel_rfl) rfl rfl rfl (ex_cmp rfl rfl rfl (congrArg some (decide_eq_false (not_not_intro rfl)))) ?_
          refine wd_nil (by decide) rfl ?_
          refine qe_next ?_
          refine w_cond_f rfl ?_
          refine w_skip (qe_in_normal (qe_next ?_))
          refine w_region ?_
          refine sv rfl rfl rfl (ex_move rfl rfl) ?_
          refine sv rfl rfl rfl (ex_add rfl rfl rfl (i64_in (by omega) (by omega))) ?_
          refine sv rfl rfl rfl (ex_assign rfl rfl) ?_
          refine w_nil (qe_round (k + 1) ⟨rfl, rfl, rfl, rfl, rfl, trivial⟩ ?_ ?_)
          · exact ⟨by omega, hall, K0⟩
          · omega
        · skip
          refine w_exit (qe_then_exit (qe_then_exit (qe_in_exit (qe_next ?_))))
          refine w_seq ?_
          refine w_region ?_
          refine st rfl rfl rfl (ex_call call13 rfl rfl (awake_c _ (hT.ext K0) (Nat.lt_of_lt_of_le hT.pos K0.size))) ?_
          rintro _ w6 ⟨rfl, E9⟩
          replace hall := hall.ext E9
          replace K0 := K0.ext E9
          refine sv rfl rfl rfl (ex_assign rfl rfl) ?_
          refine w_nil (qe_next ?_)
          refine w_ret (qe_ret1 rfl rfl ?_)
          exact ⟨rfl, K0⟩
theorem alls_law (seed : B64) (A : Option Addr) (c lo hi : Nat) (bs : List UInt8) (w : World) (hr : Rd w lo hi 1 A bs.length (bcells bs)) (hm : bs.length ≤ c) (hc : c ≤ 140737488351232) (hT : TabAt w) (n : Int) : Ret Tryd.prog 10 [U seed, .int .i64 n, .slice A bs.length c] w fun v w' => v = .bool true ∧ Ext w w' := by
  rcases Int.lt_or_le n 1 with h | h
  · exact alls_bad seed A c lo hi bs w hr hm hc hT n (.inl h)
  · rcases Int.lt_or_le 64 n with h' | h'
    · exact alls_bad seed A c lo hi bs w hr hm hc hT n (.inr h')
    · obtain ⟨k, rfl⟩ := Int.eq_ofNat_of_zero_le (show 0 ≤ n by omega)
      exact alls_good seed A c lo hi bs w hr hm hc hT k (by omega) (by omega)
end Go.Proofs.YtjdjplfkfpfifaaDoor

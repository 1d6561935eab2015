/- Ints; the example of the chapter in plain Lean. -/
import Derived.Test.YtfgpcmphcnhbiaaDoorK5
namespace Go.Proofs.YtfgpcmphcnhbiaaDoor
open Go Go.RowKit
set_option linter.unusedVariables false
set_option linter.unusedSimpArgs false
theorem take_step {α : Type} {xs ys : List α} {k : Nat} {x y : α} (h : xs.take k = ys.take k) (hx : xs[k]? = some x) (hy : ys[k]? = some y) (e : x = y) : xs.take (k + 1) = ys.take (k + 1) := by
  rw [List.take_add_one, List.take_add_one, h, hx, hy, e]
theorem take_full {α : Type} {xs ys : List α} (hl : xs.length = ys.length) (h : xs.take xs.length = ys.take xs.length) : xs = ys := by
  rw [List.take_length, hl, List.take_length] at h
  exact h

/-- kinkeep/kinkeepref04.Ints -/
theorem ints_c (A B : Option Addr) (c d lo hi lo2 hi2 : Nat) (xs ys : List Int) (w : World) (hr : Rd w lo hi 1 A xs.length (xs.map fun x => Value.int .i64 x)) (hr2 : Rd w lo2 hi2 1 B ys.length (ys.map fun x => Value.int .i64 x)) (hlen : xs.length ≤ 1000000000) :
    Ret Tryd.prog 29 [.slice A xs.length c, .slice B ys.length d] w fun v w' => v = .bool (decide (xs = ys)) ∧ Ext w w' := by
  have K0 : Ext w w := Keep.refl _ _
  refine ret_of Tryd.func29 rfl rfl ?_
  refine w_seq ?_
  refine w_region ?_
  refine sv rfl rfl rfl (ex_assign rfl rfl) ?_
  refine w_nil (qe_next ?_)
  refine w_seq ?_
  refine w_seq ?_
  refine w_region ?_
  refine sv rfl rfl rfl (ex_move rfl rfl) ?_
  refine sv rfl rfl rfl (ex_len Tryd.underlying35 rfl rfl) ?_
  refine sv rfl rfl rfl (ex_move rfl rfl) ?_
  refine sv rfl rfl rfl (ex_len Tryd.underlying35 rfl rfl) ?_
  refine sv rfl rfl rfl (ex_cmp rfl rfl rfl rfl) ?_
  refine w_nil (qe_next ?_)
  refine w_if rfl (fun hl => ?_) (fun hl => ?_)
  · skip
    replace hl : xs.length ≠ ys.length := by omega
    refine w_seq ?_
    refine w_region ?_
    refine sv rfl rfl rfl (ex_assign rfl rfl) ?_
    refine w_nil (qe_next ?_)
    refine w_ret (qe_then_ret (qe_ret1 rfl rfl ?_))
    exact ⟨congrArg Value.bool (decide_eq_false fun e => hl (by rw [e])).symm, K0⟩
  · skip
    replace hl : xs.length = ys.length := by omega
    refine w_skip (qe_next ?_)
    refine w_seq ?_
    refine w_seq ?_
    refine w_region ?_
    refine sv rfl rfl rfl (ex_assign rfl rfl) ?_
    refine w_nil (qe_next ?_)
    refine w_block ?_
    refine w_loop (ι := Nat) (fun k => [(0, .slice A xs.length c), (1, .slice B ys.length d), (5, .int .i64 (k : Int))]) (fun k w1 => k ≤ xs.length ∧ xs.take k = ys.take k ∧ Ext w w1) (fun k => xs.length - k) (0) ⟨rfl, rfl, rfl, trivial⟩ ?_ ?_
    · exact ⟨Nat.zero_le _, rfl, K0⟩
    · clear K0
      rintro k w1 ⟨hk, htk, K0⟩
      refine w_seq ?_
      refine w_seq ?_
      refine w_region ?_
      refine sv rfl rfl rfl (ex_move rfl rfl) ?_
      refine sv rfl rfl rfl (ex_move rfl rfl) ?_
      refine sv rfl rfl rfl (ex_len Tryd.underlying35 rfl rfl) ?_
      refine sv rfl rfl rfl (ex_cmp rfl rfl rfl rfl) ?_
      refine w_nil (qe_next ?_)
      refine w_if rfl (fun hk2 => ?_) (fun hk2 => ?_)
      · skip
        replace hk2 : k < xs.length := by omega
        refine w_skip (qe_next ?_)
        refine w_seq ?_
        refine w_block ?_
        refine w_seq ?_
        refine w_draw mixed (fun w1 _ Ew1 => ?_)
        replace K0 := K0.ext Ew1
        obtain ⟨b1, o1, u1, rfl, _, _, hu1, hc1⟩ := (hr.ext K0).at_ hk2
        obtain ⟨b2, o2, u2, rfl, _, _, hu2, hc2⟩ := (hr2.ext K0).at_ (hl ▸ hk2)
        rw [List.getElem?_map] at hu1 hu2
        obtain ⟨x1, hx1, rfl⟩ := Option.map_eq_some_iff.1 hu1
        obtain ⟨x2, hx2, rfl⟩ := Option.map_eq_some_iff.1 hu2
        refine wd_free 8 _ rfl rfl rfl rfl ?_
        refine fd [] rfl rfl rfl rfl rfl rfl rfl (fun w' E => ex_move rfl rfl) ?_
        refine fd [] rfl rfl rfl rfl rfl rfl rfl (fun w' E => ex_move rfl rfl) ?_
        refine fd [0, 1] rfl rfl rfl rfl rfl rfl rfl (fun w' E => ex_index Tryd.underlying35 sz3 _ rfl rfl rfl rfl (by omega)) ?_
        refine fd [2] rfl rfl rfl rfl rfl rfl rfl (fun w' E => ex_load one3 rfl rfl (E.cell trivial hc1)) ?_
        refine fd [] rfl rfl rfl rfl rfl rfl rfl (fun w' E => ex_move rfl rfl) ?_
        refine fd [] rfl rfl rfl rfl rfl rfl rfl (fun w' E => ex_move rfl rfl) ?_
        refine fd [4, 5] rfl rfl rfl rfl rfl rfl rfl (fun w' E => ex_index Tryd.underlying35 sz3 _ rfl rfl rfl rfl (by omega)) ?_
        refine fd [6] rfl rfl rfl rfl rfl rfl rfl (fun w' E => ex_load one3 rfl rfl (E.cell trivial hc2)) ?_
        refine .nil (fun w2 Ew2 _ => ?_)
        replace K0 := K0.ext Ew2
        refine wd_v rfl rfl (by kernel_rfl) rfl rfl rfl (ex_cmp rfl rfl rfl rfl) ?_
        refine wd_nil (by decide) rfl ?_
        refine qe_next ?_
        refine w_if rfl (fun hne => ?_) (fun hne => ?_)
        · skip
          refine w_seq ?_
          refine w_region ?_
          refine sv rfl rfl rfl (ex_assign rfl rfl) ?_
          refine w_nil (qe_next ?_)
          refine w_ret (qe_in_ret (qe_then_ret (qe_then_ret (qe_in_ret (qe_then_ret (qe_ret1 rfl rfl ?_))))))
          exact ⟨congrArg Value.bool (decide_eq_false fun e => hne (by rw [e, hx2] at hx1; injection hx1 with h; exact h.symm)).symm, K0⟩
        · skip
          refine w_skip (qe_in_normal (qe_next ?_))
          refine w_region ?_
          refine sv rfl rfl rfl (ex_move rfl rfl) ?_
          refine sv rfl rfl rfl (ex_add rfl rfl rfl (i64_in (by omega) (by omega))) ?_
          refine sv rfl rfl rfl (ex_assign rfl rfl) ?_
          refine w_nil (qe_round (k + 1) ⟨rfl, rfl, rfl, trivial⟩ ?_ ?_)
          · exact ⟨by omega, take_step htk hx1 hx2 (by simpa using hne), K0⟩
          · omega
      · skip
        replace hk2 : k = xs.length := by omega
        subst hk2
        refine w_exit (qe_then_exit (qe_then_exit (qe_in_exit (qe_next ?_))))
        refine w_seq ?_
        refine w_region ?_
        refine sv rfl rfl rfl (ex_assign rfl rfl) ?_
        refine w_nil (qe_next ?_)
        refine w_ret (qe_ret1 rfl rfl ?_)
        exact ⟨congrArg Value.bool (decide_eq_true (take_full hl htk)).symm, K0⟩

/-- a valid cutting that marks every position -/
theorem mkd_all {q : Vut} (h0 : q.bi = 0) (h1 : q.wi = 1) (bs : List UInt8) (k : Nat) : mkd q bs (k + 1) = true := by
  unfold mkd
  rw [h0, h1, decide_eq_true (by omega), decide_eq_true (Nat.zero_le _)]
  rfl
theorem lm_all {q : Vut} (h0 : q.bi = 0) (h1 : q.wi = 1) (bs : List UInt8) : ∀ k, lm q bs k = k
  | 0 => rfl
  | k + 1 => by unfold lm; rw [mkd_all h0 h1]; rfl
theorem prim_all {q : Vut} (h0 : q.bi = 0) (h1 : q.wi = 1) (h2 : q.mn = 2) (bs : List UInt8) (k : Nat) : prim q bs (k + 1) = decide (k = 0) := by
  unfold prim
  rw [mkd_all h0 h1, Nat.add_sub_cancel, lm_all h0 h1, h2, Bool.true_and, decide_eq_false (p := 2 ≤ k + 1 - k) (by omega), Bool.or_false]
def qA : Vut := ⟨2, 3, 1, 0, 0#64, by decide, by decide, by decide, by decide, by decide, by decide⟩
theorem ecuts_A (bs : List UInt8) (hl : bs.length = 8) : (ecuts qA bs bs.length).1 = [1, 4, 7, 8] := by
  have hp := fun k => prim_all (q := qA) rfl rfl rfl bs k
  have e0 : ecuts qA bs 0 = ([], 0) := rfl
  have e1 := ecuts_yes e0 (.inl (by rw [hp]; rfl))
  have e2 := ecuts_no e1 (by rw [hp, hl]; decide)
  have e3 := ecuts_no e2 (by rw [hp, hl]; decide)
  have e4 := ecuts_yes e3 (.inr (.inl rfl))
  have e5 := ecuts_no e4 (by rw [hp, hl]; decide)
  have e6 := ecuts_no e5 (by rw [hp, hl]; decide)
  have e7 := ecuts_yes e6 (.inr (.inl rfl))
  have e8 := ecuts_yes e7 (.inr (.inr (by rw [hl])))
  rw [hl, e8]
  rfl
theorem fed_A (xs : List UInt8) (hl : xs.length = 5) : ((fed qA [] [] xs xs.length).1.map List.length, (fed qA [] [] xs xs.length).2.length) = ([1, 3], 1) := by
  have hp : ∀ k, prim qA ([] ++ xs) (([] : List UInt8).length + k + 1) = decide (k = 0) := fun k => by
    rw [List.length_nil, Nat.zero_add]
    exact prim_all (q := qA) rfl rfl rfl _ k
  have e0 : fed qA [] [] xs 0 = ([], []) := rfl
  have e1 := fed_yes e0 (.inl ((hp 0).trans rfl))
  have e2 := fed_no e1 (fun h => h.elim (fun h => by have := (hp 1).symm.trans h; cases this) (fun h => absurd h (by show ¬ (1 = 3); decide)))
  have e3 := fed_no e2 (fun h => h.elim (fun h => by have := (hp 2).symm.trans h; cases this) (fun h => absurd h (by show ¬ (2 = 3); decide)))
  have e4 := fed_yes e3 (.inr rfl)
  have e5 := fed_no e4 (fun h => h.elim (fun h => by have := (hp 4).symm.trans h; cases this) (fun h => absurd h (by show ¬ (1 = 3); decide)))
  rw [hl, e5]
  rfl
end Go.Proofs.YtfgpcmphcnhbiaaDoor

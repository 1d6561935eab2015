/- The hashes of all windows. -/
import Derived.Test.YtjdjplfkfpfifaaDoorP
namespace Go.Proofs.YtjdjplfkfpfifaaDoor
open Go Go.RowKit
set_option linter.unusedVariables false
set_option linter.unusedSimpArgs false

theorem winOf_nat {n : Nat} (h1 : 1 ≤ n) (h2 : n ≤ 64) : winOf (n : Int) = n := by unfold winOf; omega
/-- the hashes of the windows that lie within the first k bytes -/
def allS (seed : B64) (win : Nat) (bs : List UInt8) (k : Nat) : List Value := (List.range (k + 1 - win)).map fun i => U (hash seed ((bs.drop i).take win))
theorem allS_length (seed : B64) (win : Nat) (bs : List UInt8) (k : Nat) : (allS seed win bs k).length = k + 1 - win := by simp [allS]
theorem allS_get (seed : B64) (win : Nat) (bs : List UInt8) {k i : Nat} (h : i < k + 1 - win) : (allS seed win bs k)[i]? = some (U (hash seed ((bs.drop i).take win))) := by simp [allS, h]
theorem allS_nil (seed : B64) (win : Nat) (bs : List UInt8) {k : Nat} (h : k < win) : allS seed win bs k = [] := by
  unfold allS
  rw [show k + 1 - win = 0 by omega]
  rfl
theorem allS_snoc (seed : B64) (win : Nat) (bs : List UInt8) {k : Nat} (h : win ≤ k + 1) (hk : k < bs.length) : allS seed win bs k ++ [U (hash seed (lastN win (bs.take (k + 1))))] = allS seed win bs (k + 1) := by
  unfold allS
  rw [show k + 1 + 1 - win = (k + 1 - win) + 1 by omega, List.range_succ, List.map_append]
  congr 2
  unfold lastN
  rw [List.drop_take, List.length_take, show min (k + 1) bs.length = k + 1 by omega, show k + 1 - (k + 1 - win) = win by omega]
theorem build_one (x : B64) (w : World) : (Instr.buildSlice 23 1 [(0, U x)].toArray).run Tryd.prog w = .ok (.slice (some ⟨w.heap.size, 0, none⟩) 1 1) (w.alloc (.cells [U x].toArray 22)) := by kernel_rfl
/-- kinkeep/rollinghash.All -/
theorem all_c (seed : B64) (win : Nat) (A : Option Addr) (c lo hi : Nat) (bs : List UInt8) (w : World) (h1 : 1 ≤ win) (h2 : win ≤ 64) (hl : bs.length ≤ 1000) (hr : Rd w lo hi 1 A bs.length (bcells bs)) :
    Ret Tryd.prog 26 [U seed, .int .i64 (win : Int), .slice A bs.length c] w fun v w' => ∃ B d, v = .tuple #[.slice B (bs.length + 1 - win) d, .int .i64 0] ∧ Rd w' w.heap.size w'.heap.size 1 B (bs.length + 1 - win) (allS seed win bs bs.length) ∧ Ext w w' := by
  have K0 : Ext w w := Keep.refl _ _
  refine ret_of Tryd.func26 rfl rfl ?_
  refine w_seq ?_
  refine w_region ?_
  refine sv rfl rfl rfl (ex_assign rfl rfl) ?_
  refine sv rfl rfl rfl (ex_assign rfl rfl) ?_
  refine w_nil (qe_next ?_)
  refine w_seq ?_
  refine w_seq ?_
  refine w_region ?_
  refine sv rfl rfl rfl (ex_move rfl rfl) ?_
  refine sv rfl rfl rfl (ex_cmp rfl rfl rfl (congrArg some (decide_eq_false (by omega)))) ?_
  refine sv rfl rfl rfl (ex_move rfl rfl) ?_
  first | refine sk rfl rfl rfl ?_ | refine sv rfl rfl rfl (ex_move rfl rfl) ?_
  first | refine sk rfl rfl rfl ?_ | refine sv rfl rfl rfl (ex_cmp rfl rfl rfl (congrArg some (decide_eq_false (by omega)))) ?_
  first | refine sv rfl rfl rfl (ex_pick_t rfl rfl rfl) ?_ | refine sv rfl rfl rfl (ex_pick_f rfl rfl rfl) ?_
  refine w_nil (qe_next ?_)
  refine w_cond_f rfl ?_
  refine w_skip (qe_next ?_)
  refine w_seq ?_
  refine w_region ?_
  refine sv rfl rfl rfl (ex_assign rfl rfl) ?_
  refine w_nil (qe_next ?_)
  refine w_seq ?_
  refine w_region ?_
  refine sv rfl rfl rfl (ex_move rfl rfl) ?_
  refine sv rfl rfl rfl (ex_move rfl rfl) ?_
  refine st rfl rfl rfl (ex_call call14 rfl rfl (new_c seed win _)) ?_
  rintro _ w1 ⟨b, rfl, hb0, hR, E1⟩
  replace K0 := K0.ext E1
  rw [winOf_nat h1 h2] at hR
  refine sv rfl rfl rfl (ex_assign rfl rfl) ?_
  refine w_nil (qe_next ?_)
  refine w_seq ?_
  refine w_seq ?_
  refine w_region ?_
  refine sv rfl rfl rfl (ex_move rfl rfl) ?_
  refine sv rfl rfl rfl (ex_len Tryd.underlying28 rfl rfl) ?_
  refine sv rfl rfl rfl (ex_move rfl rfl) ?_
  refine w_nil (qe_next ?_)
  refine w_block ?_
  refine w_loop (ι := Nat × Nat × Option Addr × Nat) (fun i => [(1, .int .i64 (win : Int)), (8, .slice i.2.2.1 i.2.1 i.2.2.2), (9, .pointer (some ⟨b, 0, none⟩)), (21, .slice A bs.length c), (22, .int .i64 (bs.length : Int)), (23, .int .i64 (i.1 : Int))]) (fun i w1 => i.1 ≤ bs.length ∧ i.2.1 = i.1 + 1 - win ∧ RollAt w1 b seed win (lastN win (bs.take i.1)) ∧ Own w1 (b + 1) 22 1 i.2.2.1 i.2.1 i.2.2.2 (allS seed win bs i.1) ∧ Ext w w1) (fun i => bs.length - i.1) ((0, 0, none, 0)) ⟨rfl, rfl, rfl, rfl, rfl, rfl, trivial⟩ ?_ ?_
  · exact ⟨by simp, by simp; omega, by rw [List.take_zero, lastN_nil]; exact hR, by rw [allS_nil _ _ _ (by simp; omega)]; exact Own.nil _ _ _ _, K0⟩
  · clear hR K0
    rintro ⟨k, m, B, d⟩ w1 ⟨hk, hm, hR, hown, K0⟩
    simp only at hk hm hR hown
    refine w_seq ?_
    refine w_region ?_
    refine sv rfl rfl rfl (ex_cmp rfl rfl rfl rfl) ?_
    refine w_nil (qe_next ?_)
    refine w_seq ?_
    refine w_if rfl (fun hk2 => ?_) (fun hk2 => ?_)
    · skip
      replace hk2 : k < bs.length := by omega
      obtain ⟨bb, oo, rfl, hc⟩ := (hr.ext K0).byte hk2
      refine w_skip (qe_next ?_)
      refine w_seq ?_
      refine w_block ?_
      refine w_seq ?_
      refine w_region ?_
      refine sv rfl rfl rfl (ex_index Tryd.underlying28 sz5 _ rfl rfl rfl rfl (by omega)) ?_
      refine sv rfl rfl rfl (ex_load one5 rfl rfl (by assumption)) ?_
      refine sv rfl rfl rfl (ex_assign rfl rfl) ?_
      refine w_nil (qe_next ?_)
      refine w_seq ?_
      refine w_region ?_
      refine sv rfl rfl rfl (ex_move rfl rfl) ?_
      refine sv rfl rfl rfl (ex_move rfl rfl) ?_
      refine st rfl rfl rfl (ex_call call17 rfl rfl (push_c b seed win (lastN win (bs.take k)) (bs.getD k 0) _ hR)) ?_
      rintro _ w2 ⟨rfl, hR1, K1⟩
      rw [lastN_take hk2] at hR1
      clear hR
      have hR := hR1
      clear hR1
      replace hown := hown.keep K1 (fun g o e => by have := (hown.lt e).1; omega)
      replace K0 := K0.trans K1 (fun j hj _ => by omega)
      clear K1
      refine w_nil (qe_next ?_)
      refine w_seq ?_
      refine w_region ?_
      refine sv rfl rfl rfl (ex_move rfl rfl) ?_
      refine st rfl rfl rfl (ex_call call15 rfl rfl (len_c b seed win _ _ hR)) ?_
      rintro _ w3 ⟨rfl, hwe⟩
      obtain rfl := hwe.symm
      refine sv rfl rfl rfl (ex_move rfl rfl) ?_
      refine sv rfl rfl rfl (ex_cmp rfl rfl rfl rfl) ?_
      refine w_nil (qe_next ?_)
      refine w_if rfl (fun hfull => ?_) (fun hfull => ?_)
      · skip
        rw [lastN_length, List.length_take] at hfull
        replace hfull : win ≤ k + 1 := by omega
        refine w_region ?_
        refine sv rfl rfl rfl (ex_move rfl rfl) ?_
        refine sv rfl rfl rfl (ex_move rfl rfl) ?_
        refine st rfl rfl rfl (ex_call call16 rfl rfl (sum_c b seed win _ _ hR)) ?_
        rintro _ w4 ⟨rfl, hwe⟩
        obtain rfl := hwe.symm
        refine st rfl rfl rfl (ex_buildSlice (cs := [U (hash seed (lastN win (bs.take (k + 1))))]) rfl rfl (build_one _)) ?_
        rintro _ w5 ⟨g1, rfl, hg1, E7, hb7, hs7⟩
        replace hR := hR.ext E7
        replace hown := hown.ext E7
        replace K0 := K0.ext E7
        have hlt := hR.lt
        refine st rfl rfl rfl (ex_append Tryd.underlying23 z22.1 rfl (by decide) rfl rfl rfl hown (Rd.of_blk (size := 1) hb7 rfl) (by simp [U, Value.oneCell']) (by simp only; omega) (by simp only; omega) (by omega)) ?_
        rintro _ w6 ⟨B1, d1, rfl, hown1, K3, hB1⟩
        replace hR := hR.behind K3 (fun j hj => hown.fresh (by omega))
        replace K0 := K0.trans K3 (fun j hj _ => hown.fresh (by omega))
        rw [allS_snoc seed win bs hfull hk2] at hown1
        clear hown
        have hown := hown1
        clear hown1
        refine sv rfl rfl rfl (ex_assign rfl rfl) ?_
        refine w_nil (qe_in_normal (qe_next ?_))
        refine w_region ?_
        refine sv rfl rfl rfl (ex_add rfl rfl rfl (i64_in (by omega) (by omega))) ?_
        refine sv rfl rfl rfl (ex_move rfl rfl) ?_
        refine w_nil (qe_round ((k + 1, m + 1, B1, d1)) ⟨rfl, rfl, rfl, rfl, rfl, rfl, trivial⟩ ?_ ?_)
        · exact ⟨by simp only; omega, by simp only; omega, hR, hown, K0⟩
        · simp only; omega
      · skip
        rw [lastN_length, List.length_take] at hfull
        replace hfull : k + 1 < win := by omega
        refine w_skip (qe_in_normal (qe_next ?_))
        refine w_region ?_
        refine sv rfl rfl rfl (ex_add rfl rfl rfl (i64_in (by omega) (by omega))) ?_
        refine sv rfl rfl rfl (ex_move rfl rfl) ?_
        refine w_nil (qe_round ((k + 1, m, B, d)) ⟨rfl, rfl, rfl, rfl, rfl, rfl, trivial⟩ ?_ ?_)
        · exact ⟨by simp only; omega, by simp only; omega, hR, by rw [allS_nil _ _ _ (by simp only; omega), ← allS_nil seed win bs (k := k) (by omega)]; exact hown, K0⟩
        · simp only; omega
    · skip
      replace hk2 : k = bs.length := by omega
      subst hk2
      subst hm
      refine w_exit (qe_then_exit (qe_then_exit (qe_in_exit (qe_next ?_))))
      refine w_seq ?_
      refine w_region ?_
      refine sv rfl rfl rfl (ex_move rfl rfl) ?_
      refine sv rfl rfl rfl (ex_assign rfl rfl) ?_
      refine sv rfl rfl rfl (ex_assign rfl rfl) ?_
      refine w_nil (qe_next ?_)
      refine w_ret (qe_ret2 rfl rfl rfl ?_)
      exact ⟨B, d, rfl, (hown.rd).more (by omega) (Nat.le_refl _), K0⟩

/-- kinkeep/rollinghash.All -/
theorem allBad_c (seed : B64) (n : Int) (A : Option Addr) (m c : Nat) (w : World) (h : n < 1 ∨ 64 < n) :
    Ret Tryd.prog 26 [U seed, .int .i64 n, .slice A m c] w fun v w' => v = .tuple #[.slice none 0 0, .int .i64 1] ∧ Ext w w' := by
  refine ret_of Tryd.func26 rfl rfl ?_
  refine w_seq ?_
  refine w_region ?_
  refine sv rfl rfl rfl (ex_assign rfl rfl) ?_
  refine sv rfl rfl rfl (ex_assign rfl rfl) ?_
  refine w_nil (qe_next ?_)
  refine w_seq ?_
  refine w_seq ?_
  refine w_region ?_
  refine sv rfl rfl rfl (ex_move rfl rfl) ?_
  refine sv_if rfl rfl rfl (ex_cmp rfl rfl rfl rfl) (fun h1 => ?_) (fun h1 => ?_)
  · skip
    refine sv rfl rfl rfl (ex_move rfl rfl) ?_
    first | refine sk rfl rfl rfl ?_ | refine sv rfl rfl rfl (ex_move rfl rfl) ?_
    first | refine sk rfl rfl rfl ?_ | refine sv rfl rfl rfl (ex_cmp rfl rfl rfl (congrArg some (decide_eq_true (by omega)))) ?_
    first | refine sv rfl rfl rfl (ex_pick_t rfl rfl rfl) ?_ | refine sv rfl rfl rfl (ex_pick_f rfl rfl rfl) ?_
    refine w_nil (qe_next ?_)
    refine w_cond_t rfl ?_
    refine w_seq ?_
    refine w_region ?_
    refine sv rfl rfl rfl (ex_assign rfl rfl) ?_
    refine sv rfl rfl rfl (ex_assign rfl rfl) ?_
    refine w_nil (qe_next ?_)
    refine w_ret (qe_then_ret (qe_ret2 rfl rfl rfl ?_))
    exact ⟨rfl, Keep.refl _ _⟩
  · skip
    refine sv rfl rfl rfl (ex_move rfl rfl) ?_
    first | refine sk rfl rfl rfl ?_ | refine sv rfl rfl rfl (ex_move rfl rfl) ?_
    first | refine sk rfl rfl rfl ?_ | refine sv rfl rfl rfl (ex_cmp rfl rfl rfl (congrArg some (decide_eq_true (by omega)))) ?_
    first | refine sv rfl rfl rfl (ex_pick_t rfl rfl rfl) ?_ | refine sv rfl rfl rfl (ex_pick_f rfl rfl rfl) ?_
    refine w_nil (qe_next ?_)
    refine w_cond_t rfl ?_
    refine w_seq ?_
    refine w_region ?_
    refine sv rfl rfl rfl (ex_assign rfl rfl) ?_
    refine sv rfl rfl rfl (ex_assign rfl rfl) ?_
    refine w_nil (qe_next ?_)
    refine w_ret (qe_then_ret (qe_ret2 rfl rfl rfl ?_))
    exact ⟨rfl, Keep.refl _ _⟩
end Go.Proofs.YtjdjplfkfpfifaaDoor

/- The law DiskSpoils, walked. -/
import Derived.Test.YtcgcklfbnmaodaaD14
namespace Go.Proofs.Ytcgcklfbnmaodaa
open Go Go.RowKit
set_option linter.unusedVariables false
set_option linter.unusedSimpArgs false
theorem spoil_no {s : St} {z o : Int} (x : UInt8) (h : ¬ (s.In z ∧ 0 ≤ o ∧ o < (s.n : Int))) : s.spoil z o x = (1, s) := by
  unfold St.spoil
  rw [if_pos h]
theorem spoil_law {s : St} (hw : s.Wf) {i j : Nat} (hi : i < s.du.length) (hj : j < s.n) (x : UInt8) : ∃ s2 : St, s.spoil (i : Int) (j : Int) x = (0, s2) ∧ s2.spoil (i : Int) (j : Int) x = (0, s) ∧ s2.n = s.n ∧ s2.pd = s.pd ∧ s2.du.length = s.du.length ∧
    ∀ (p q : Nat) (ya yb : List UInt8) (a b : UInt8), s.du[p]? = some ya → s2.du[p]? = some yb → ya[q]? = some a → yb[q]? = some b → b = if p = i ∧ q = j then a ^^^ x else a := by
  have hyl : (s.du.getD i []).length = s.n := hw.du _ (getD_mem hi)
  have hIn : s.In (i : Int) := ⟨by omega, by omega⟩
  obtain ⟨y, hy⟩ : ∃ y, s.du.getD i [] = y := ⟨_, rfl⟩
  rw [hy] at hyl
  have hg : s.du[i]? = some y := by rw [← hy, List.getD_eq_getElem?_getD, List.getElem?_eq_getElem hi]; rfl
  obtain ⟨a, ha⟩ : ∃ a, y[j]? = some a := ⟨_, List.getElem?_eq_getElem (by omega)⟩
  have hga : y.getD j 0 = a := by rw [List.getD_eq_getElem?_getD, ha]; rfl
  refine ⟨{ s with du := s.du.set i (y.set j (a ^^^ x)) }, ?_, ?_, rfl, rfl, by simp, ?_⟩
  · unfold St.spoil
    rw [if_neg (fun h => h ⟨hIn, by omega, by omega⟩)]
    simp only [Int.toNat_natCast]
    rw [hy, hga]
  · unfold St.spoil
    have hIn2 : ({ s with du := s.du.set i (y.set j (a ^^^ x)) } : St).In (i : Int) := ⟨by omega, by simp only [List.length_set]; omega⟩
    rw [if_neg (fun h => h ⟨hIn2, by omega, by simp only; omega⟩)]
    simp only [Int.toNat_natCast]
    have e1 : (s.du.set i (y.set j (a ^^^ x))).getD i [] = y.set j (a ^^^ x) := by rw [List.getD_eq_getElem?_getD, List.getElem?_set_self hi]; rfl
    have e2 : (y.set j (a ^^^ x)).getD j 0 = a ^^^ x := by rw [List.getD_eq_getElem?_getD, List.getElem?_set_self (by omega)]; rfl
    rw [e1, e2, UInt8.xor_assoc, UInt8.xor_self, UInt8.xor_zero, List.set_set, List.set_set]
    have e3 : y.set j a = y := List.ext_getElem? fun q => by
      rw [List.getElem?_set]
      split
      · rename_i e; subst e; first | exact ha.symm | (rw [if_pos (by omega)]; exact ha.symm)
      · rfl
    have e4 : s.du.set i y = s.du := List.ext_getElem? fun q => by
      rw [List.getElem?_set]
      split
      · rename_i e; subst e; first | exact hg.symm | (rw [if_pos hi]; exact hg.symm)
      · rfl
    rw [e3, e4]
  · intro p q ya yb a2 b h1 h2 h3 h4
    simp only [List.getElem?_set] at h2
    by_cases hp : i = p
    · subst hp
      rw [if_pos rfl, if_pos hi] at h2
      injection h2 with h2
      subst h2
      rw [hg] at h1
      injection h1 with h1
      subst h1
      rw [List.getElem?_set] at h4
      by_cases hq : j = q
      · subst hq
        rw [if_pos rfl, if_pos (by omega)] at h4
        rw [ha] at h3
        injection h3 with h3
        injection h4 with h4
        rw [if_pos ⟨rfl, rfl⟩, ← h4, ← h3]
      · rw [if_neg hq, h3] at h4
        injection h4 with h4
        rw [if_neg (fun h => hq h.2.symm), h4]
    · rw [if_neg hp, h1] at h2
      injection h2 with h2
      subst h2
      rw [h3] at h4
      injection h4 with h4
      rw [if_neg (fun h => hp h.1.symm), h4]
/-- kinkeep/kinkeeplaw15.DiskSpoils -/
theorem spoils_big (z1 z2 : Int) (z o : Int) (x : UInt8) (A : Option Addr) (c hi : Nat) (os : List Op) (w : World) (hops : OpsAt w hi A os) (hhi : hi ≤ w.heap.size) (h : ¬ (1 ≤ z1 ∧ z1 ≤ 8 ∧ 1 ≤ z2 ∧ z2 ≤ 8 ∧ os.length ≤ 40)) :
    Ret Try.prog 6 [.int .i64 z1, .int .i64 z2, .slice A os.length c, .int .i64 z, .int .i64 o, bv x] w fun v w' => v = .bool true ∧ Ext w w' := by
  have K0 : Ext w w := Keep.refl _ _
  refine ret_of Try.func6 rfl rfl ?_
  refine w_seq ?_
  refine w_region ?_
  refine sv rfl rfl rfl (ex_assign rfl rfl) ?_
  refine w_nil (qe_next ?_)
  refine w_seq ?_
  refine w_seq ?_
  refine w_region ?_
  refine st rfl rfl rfl (ex_call call11 rfl rfl (awake_c _)) ?_
  rintro _ w1 ⟨rfl, E9⟩
  replace K0 := K0.ext E9
  refine sv rfl rfl rfl (ex_not rfl rfl) ?_
  refine w_nil (qe_next ?_)
  refine w_cond_f rfl ?_
  refine w_skip (qe_next ?_)
  refine w_seq ?_
  refine w_seq ?_
  refine w_region ?_
  refine sv rfl rfl rfl (ex_move rfl rfl) ?_
  refine sv rfl rfl rfl (ex_move rfl rfl) ?_
  refine sv rfl rfl rfl (ex_move rfl rfl) ?_
  refine st rfl rfl rfl (ex_call call25 rfl rfl (small_f _ _ _ _ _ _ h)) ?_
  rintro _ w2 ⟨rfl, hwe⟩
  obtain rfl := hwe.symm
  refine sv rfl rfl rfl (ex_not rfl rfl) ?_
  refine w_nil (qe_next ?_)
  refine w_cond_t rfl ?_
  refine w_seq ?_
  refine w_region ?_
  refine sv rfl rfl rfl (ex_assign rfl rfl) ?_
  refine w_nil (qe_next ?_)
  refine w_ret (qe_then_ret (qe_ret1 rfl rfl ?_))
  exact ⟨rfl, K0⟩
/-- kinkeep/kinkeeplaw15.DiskSpoils -/
theorem spoils_bad (k n : Nat) (z o : Int) (x : UInt8) (A : Option Addr) (c hi : Nat) (os : List Op) (w : World) (hops : OpsAt w hi A os) (hhi : hi ≤ w.heap.size) (k1 : 1 ≤ k) (k8 : k ≤ 8) (n1 : 1 ≤ n) (n8 : n ≤ 8) (h40 : os.length ≤ 40) (hbad : ¬ (0 ≤ z ∧ z < (k : Int) ∧ 0 ≤ o ∧ o < (n : Int))) :
    Ret Try.prog 6 [.int .i64 (k : Int), .int .i64 (n : Int), .slice A os.length c, .int .i64 z, .int .i64 o, bv x] w fun v w' => v = .bool true ∧ Ext w w' := by
  have K0 : Ext w w := Keep.refl _ _
  refine ret_of Try.func6 rfl rfl ?_
  refine w_seq ?_
  refine w_region ?_
  refine sv rfl rfl rfl (ex_assign rfl rfl) ?_
  refine w_nil (qe_next ?_)
  refine w_seq ?_
  refine w_seq ?_
  refine w_region ?_
  refine st rfl rfl rfl (ex_call call11 rfl rfl (awake_c _)) ?_
  rintro _ w1 ⟨rfl, E9⟩
  replace K0 := K0.ext E9
  refine sv rfl rfl rfl (ex_not rfl rfl) ?_
  refine w_nil (qe_next ?_)
  refine w_cond_f rfl ?_
  refine w_skip (qe_next ?_)
  refine w_seq ?_
  refine w_seq ?_
  refine w_region ?_
  refine sv rfl rfl rfl (ex_move rfl rfl) ?_
  refine sv rfl rfl rfl (ex_move rfl rfl) ?_
  refine sv rfl rfl rfl (ex_move rfl rfl) ?_
  refine st rfl rfl rfl (ex_call call25 rfl rfl (small_t _ _ _ _ _ _ ⟨by omega, by omega, by omega, by omega, h40⟩)) ?_
  rintro _ w2 ⟨rfl, hwe⟩
  obtain rfl := hwe.symm
  refine sv rfl rfl rfl (ex_not rfl rfl) ?_
  refine w_nil (qe_next ?_)
  refine w_cond_f rfl ?_
  refine w_skip (qe_next ?_)
  refine w_seq ?_
  refine w_region ?_
  refine sv rfl rfl rfl (ex_move rfl rfl) ?_
  refine sv rfl rfl rfl (ex_move rfl rfl) ?_
  have hz0 := K0.size
  refine st rfl rfl rfl (ex_call call12 rfl rfl (new_c k n _ k1 (by omega) n1 (by omega))) ?_
  rintro _ w3 ⟨kd, F, rfl, hD, hFn, E1⟩
  replace K0 := K0.ext E1
  have hP := Playing.start hD hFn hz0 K0
  clear hD hFn K0
  refine sv rfl rfl rfl (ex_move rfl rfl) ?_
  refine sv rfl rfl rfl (ex_extract rfl rfl rfl) ?_
  refine sv rfl rfl rfl (ex_extract rfl rfl rfl) ?_
  refine sv rfl rfl rfl (ex_assign rfl rfl) ?_
  refine sv rfl rfl rfl (ex_assign rfl rfl) ?_
  refine w_nil (qe_next ?_)
  refine w_seq ?_
  refine w_seq ?_
  refine w_region ?_
  refine sv rfl rfl rfl (ex_assign rfl rfl) ?_
  refine w_nil (qe_next ?_)
  refine w_block ?_
  refine w_loop (ι := Nat) (fun i => [(0, .int .i64 (k : Int)), (1, .int .i64 (n : Int)), (2, .slice A os.length c), (3, .int .i64 z), (4, .int .i64 o), (5, bv x), (13, .pointer (some ⟨kd, 0, none⟩)), (15, .int .i64 (i : Int))]) (fun i wL => i ≤ os.length ∧ ∃ s F, Playing w wL kd n k (os.take i) s F) (fun i => os.length - i) (0) ⟨rfl, rfl, rfl, rfl, rfl, rfl, rfl, rfl, trivial⟩ ?_ ?_
  · exact ⟨Nat.zero_le _, _, F, hP⟩
  · clear hP
    rintro i wL ⟨hi1, s, F, hP⟩
    refine w_seq ?_
    refine w_seq ?_
    refine w_region ?_
    refine sv rfl rfl rfl (ex_move rfl rfl) ?_
    refine sv rfl rfl rfl (ex_move rfl rfl) ?_
    refine sv rfl rfl rfl (ex_len Try.underlying44 rfl rfl) ?_
    refine sv rfl rfl rfl (ex_cmp rfl rfl rfl rfl) ?_
    refine w_nil (qe_next ?_)
    refine w_if rfl (fun hi2 => ?_) (fun hi2 => ?_)
    · skip
      replace hi2 : i < os.length := by omega
      obtain ⟨o1, bo, off, hog, rfl, hok, hoc⟩ := (hops.ext hP.k).at_ hi2
      refine w_skip (qe_next ?_)
      refine w_seq ?_
      refine w_block ?_
      refine w_region ?_
      refine sv rfl rfl rfl (ex_move rfl rfl) ?_
      refine sv rfl rfl rfl (ex_move rfl rfl) ?_
      refine sv rfl rfl rfl (ex_move rfl rfl) ?_
      refine sv rfl rfl rfl (ex_indexN Try.underlying44 sz50 i rfl rfl rfl (by first | rfl | omega) (by omega)) ?_
      refine sv rfl rfl rfl (ex_load_agg (cs := o1.cells) agg50 rfl rfl (fun q u hu => hoc q u hu)) ?_
      refine st rfl rfl rfl (ex_call call26 rfl rfl (play_p hP o1 hok hhi (by rw [List.length_take]; omega))) ?_
      rintro _ w4 ⟨B9, d9, F9, rfl, hP9, _, _⟩
      refine w_nil (qe_in_normal (qe_next ?_))
      refine w_region ?_
      refine sv rfl rfl rfl (ex_move rfl rfl) ?_
      refine sv rfl rfl rfl (ex_add rfl rfl rfl (i64_in (by omega) (by omega))) ?_
      refine sv rfl rfl rfl (ex_assign rfl rfl) ?_
      refine w_nil (qe_round (i + 1) ⟨rfl, rfl, rfl, rfl, rfl, rfl, rfl, rfl, trivial⟩ ?_ ?_)
      · exact ⟨by omega, _, F9, by rw [take_snoc hog]; exact hP9⟩
      · omega
    · skip
      replace hi2 : i = os.length := by omega
      subst hi2
      rw [List.take_length] at hP
      refine w_exit (qe_then_exit (qe_then_exit (qe_in_exit (qe_next ?_))))
      refine w_seq ?_
      have hd := hP.du
      have hsn := hP.sn
      have hD := hP.at_
      have hFl := hD.lt
      have hFn := hP.new
      have K0 := hP.k
      refine w_region ?_
      refine sv rfl rfl rfl (ex_move rfl rfl) ?_
      refine st rfl rfl rfl (ex_call call17 rfl rfl (image_c F kd s _ hD)) ?_
      rintro _ w5 ⟨gi, sl, rfl, hi3, hso, E2⟩
      replace hD := hD.ext E2
      replace K0 := K0.ext E2
      have hbad2 : ¬ (s.In z ∧ 0 ≤ o ∧ o < (s.n : Int)) := fun h => hbad (by have h1 := h.1; unfold St.In at h1; omega)
      refine sv rfl rfl rfl (ex_move rfl rfl) ?_
      refine st rfl rfl rfl (ex_call call22 rfl rfl (pending_c F kd s _ hD)) ?_
      rintro _ w6 ⟨rfl, hwe⟩
      obtain rfl := hwe.symm
      refine sv rfl rfl rfl (ex_assign rfl rfl) ?_
      refine sv rfl rfl rfl (ex_assign rfl rfl) ?_
      refine w_nil (qe_next ?_)
      refine w_seq ?_
      refine w_region ?_
      refine sv rfl rfl rfl (ex_move rfl rfl) ?_
      refine sv rfl rfl rfl (ex_move rfl rfl) ?_
      refine sv rfl rfl rfl (ex_move rfl rfl) ?_
      refine sv rfl rfl rfl (ex_move rfl rfl) ?_
      have hzI := K0.size
      refine st rfl rfl rfl (ex_call call28 rfl rfl (spoil_e z o 1 x s F kd s _ hD (spoil_no x hbad2))) ?_
      rintro _ w7 ⟨F2, rfl, hD2, hG2, _, K2⟩
      replace hi3 := hi3.keepF K2 (fun j hj hF => by have := hFl j hF; omega)
      replace hso := hso.keepF K2 (fun j hj hF => by have := hFl j hF; omega)
      replace K0 := K0.trans K2 (fun j hj _ hF => by have := hFn j hF; omega)
      have hFn2 : ∀ j, F2 j → w.heap.size ≤ j := fun j hj => (hG2 j hj).elim (hFn j) (fun h => by omega)
      have hFl2 := hD2.lt
      refine sv rfl rfl rfl (ex_assign rfl rfl) ?_
      refine w_nil (qe_next ?_)
      refine w_seq ?_
      refine w_region ?_
      refine sv rfl rfl rfl (ex_move rfl rfl) ?_
      refine st rfl rfl rfl (ex_call call17 rfl rfl (image_c F2 kd _ _ hD2)) ?_
      rintro _ w8 ⟨gj, sl2, rfl, hi4, hso2, E3⟩
      replace hD2 := hD2.ext E3
      replace K0 := K0.ext E3
      replace hi3 := hi3.ext E3
      replace hso := hso.ext E3
      refine sv rfl rfl rfl (ex_assign rfl rfl) ?_
      refine w_nil (qe_next ?_)
      refine w_seq ?_
      refine w_seq ?_
      refine w_region ?_
      refine sv rfl rfl rfl (ex_move rfl rfl) ?_
      refine sv_if rfl rfl rfl (ex_cmp rfl rfl rfl rfl) (fun d1 => ?_) (fun d1 => ?_)
      · skip
        refine sv rfl rfl rfl (ex_move rfl rfl) ?_
        first | refine sk rfl rfl rfl ?_ | refine sv rfl rfl rfl (ex_move rfl rfl) ?_
        first | refine sk rfl rfl rfl ?_ | refine sv rfl rfl rfl (ex_move rfl rfl) ?_
        refine sk rfl rfl rfl ?_
        first | refine sv rfl rfl rfl (ex_pick_t rfl rfl rfl) ?_ | refine sv rfl rfl rfl (ex_pick_f rfl rfl rfl) ?_
        refine sv rfl rfl rfl (ex_move rfl rfl) ?_
        first | refine sk rfl rfl rfl ?_ | refine sv rfl rfl rfl (ex_move rfl rfl) ?_
        refine sk rfl rfl rfl ?_
        first | refine sv rfl rfl rfl (ex_pick_t rfl rfl rfl) ?_ | refine sv rfl rfl rfl (ex_pick_f rfl rfl rfl) ?_
        refine sv rfl rfl rfl (ex_move rfl rfl) ?_
        first | refine sk rfl rfl rfl ?_ | refine sv rfl rfl rfl (ex_move rfl rfl) ?_
        first | refine sk rfl rfl rfl ?_ | refine sv rfl rfl rfl (ex_move rfl rfl) ?_
        refine sk rfl rfl rfl ?_
        first | refine sv rfl rfl rfl (ex_pick_t rfl rfl rfl) ?_ | refine sv rfl rfl rfl (ex_pick_f rfl rfl rfl) ?_
        refine w_nil (qe_next ?_)
        refine w_cond_t rfl ?_
        refine w_seq ?_
        refine w_region ?_
        refine sv rfl rfl rfl (ex_move rfl rfl) ?_
        refine sv rfl rfl rfl (ex_cmp rfl rfl rfl (congrArg some (decide_eq_true (rfl)))) ?_
        refine sv rfl rfl rfl (ex_move rfl rfl) ?_
        first | refine sk rfl rfl rfl ?_ | refine sv rfl rfl rfl (ex_move rfl rfl) ?_
        first | refine sk rfl rfl rfl ?_ | refine sv rfl rfl rfl (ex_move rfl rfl) ?_
        refine st rfl rfl rfl (ex_call call23 rfl rfl (sameAll_c _ _ _ _ _ _ _ _ _ _ sl sl2 s.du _ hso.length.symm hso2.length.symm (by omega) hi3.rd hi4.rd hso.rds hso2.rds)) ?_
        rintro _ w9 ⟨rfl, E8⟩
        replace K0 := K0.ext E8
        first | refine sv rfl rfl rfl (ex_pick_t rfl rfl rfl) ?_ | refine sv rfl rfl rfl (ex_pick_f rfl rfl rfl) ?_
        refine sv rfl rfl rfl (ex_assign rfl rfl) ?_
        refine w_nil (qe_next ?_)
        refine w_ret (qe_then_ret (qe_ret1 rfl rfl ?_))
        exact ⟨rfl, K0⟩
      · skip
        refine sv rfl rfl rfl (ex_move rfl rfl) ?_
        first | refine sk rfl rfl rfl ?_ | refine sv rfl rfl rfl (ex_move rfl rfl) ?_
        first | refine sk rfl rfl rfl ?_ | refine sv rfl rfl rfl (ex_move rfl rfl) ?_
        refine sv_if rfl rfl rfl (ex_cmp rfl rfl rfl rfl) (fun d2 => ?_) (fun d2 => ?_)
        · skip
          first | refine sv rfl rfl rfl (ex_pick_t rfl rfl rfl) ?_ | refine sv rfl rfl rfl (ex_pick_f rfl rfl rfl) ?_
          refine sv rfl rfl rfl (ex_move rfl rfl) ?_
          first | refine sk rfl rfl rfl ?_ | refine sv rfl rfl rfl (ex_move rfl rfl) ?_
          refine sk rfl rfl rfl ?_
          first | refine sv rfl rfl rfl (ex_pick_t rfl rfl rfl) ?_ | refine sv rfl rfl rfl (ex_pick_f rfl rfl rfl) ?_
          refine sv rfl rfl rfl (ex_move rfl rfl) ?_
          first | refine sk rfl rfl rfl ?_ | refine sv rfl rfl rfl (ex_move rfl rfl) ?_
          first | refine sk rfl rfl rfl ?_ | refine sv rfl rfl rfl (ex_move rfl rfl) ?_
          refine sk rfl rfl rfl ?_
          first | refine sv rfl rfl rfl (ex_pick_t rfl rfl rfl) ?_ | refine sv rfl rfl rfl (ex_pick_f rfl rfl rfl) ?_
          refine w_nil (qe_next ?_)
          refine w_cond_t rfl ?_
          refine w_seq ?_
          refine w_region ?_
          refine sv rfl rfl rfl (ex_move rfl rfl) ?_
          refine sv rfl rfl rfl (ex_cmp rfl rfl rfl (congrArg some (decide_eq_true (rfl)))) ?_
          refine sv rfl rfl rfl (ex_move rfl rfl) ?_
          first | refine sk rfl rfl rfl ?_ | refine sv rfl rfl rfl (ex_move rfl rfl) ?_
          first | refine sk rfl rfl rfl ?_ | refine sv rfl rfl rfl (ex_move rfl rfl) ?_
          refine st rfl rfl rfl (ex_call call23 rfl rfl (sameAll_c _ _ _ _ _ _ _ _ _ _ sl sl2 s.du _ hso.length.symm hso2.length.symm (by omega) hi3.rd hi4.rd hso.rds hso2.rds)) ?_
          rintro _ w10 ⟨rfl, E8⟩
          replace K0 := K0.ext E8
          first | refine sv rfl rfl rfl (ex_pick_t rfl rfl rfl) ?_ | refine sv rfl rfl rfl (ex_pick_f rfl rfl rfl) ?_
          refine sv rfl rfl rfl (ex_assign rfl rfl) ?_
          refine w_nil (qe_next ?_)
          refine w_ret (qe_then_ret (qe_ret1 rfl rfl ?_))
          exact ⟨rfl, K0⟩
        · skip
          first | refine sv rfl rfl rfl (ex_pick_t rfl rfl rfl) ?_ | refine sv rfl rfl rfl (ex_pick_f rfl rfl rfl) ?_
          refine sv rfl rfl rfl (ex_move rfl rfl) ?_
          first | refine sk rfl rfl rfl ?_ | refine sv rfl rfl rfl (ex_move rfl rfl) ?_
          refine sv_if rfl rfl rfl (ex_cmp rfl rfl rfl rfl) (fun d3 => ?_) (fun d3 => ?_)
          · skip
            first | refine sv rfl rfl rfl (ex_pick_t rfl rfl rfl) ?_ | refine sv rfl rfl rfl (ex_pick_f rfl rfl rfl) ?_
            refine sv rfl rfl rfl (ex_move rfl rfl) ?_
            first | refine sk rfl rfl rfl ?_ | refine sv rfl rfl rfl (ex_move rfl rfl) ?_
            first | refine sk rfl rfl rfl ?_ | refine sv rfl rfl rfl (ex_move rfl rfl) ?_
            refine sk rfl rfl rfl ?_
            first | refine sv rfl rfl rfl (ex_pick_t rfl rfl rfl) ?_ | refine sv rfl rfl rfl (ex_pick_f rfl rfl rfl) ?_
            refine w_nil (qe_next ?_)
            refine w_cond_t rfl ?_
            refine w_seq ?_
            refine w_region ?_
            refine sv rfl rfl rfl (ex_move rfl rfl) ?_
            refine sv rfl rfl rfl (ex_cmp rfl rfl rfl (congrArg some (decide_eq_true (rfl)))) ?_
            refine sv rfl rfl rfl (ex_move rfl rfl) ?_
            first | refine sk rfl rfl rfl ?_ | refine sv rfl rfl rfl (ex_move rfl rfl) ?_
            first | refine sk rfl rfl rfl ?_ | refine sv rfl rfl rfl (ex_move rfl rfl) ?_
            refine st rfl rfl rfl (ex_call call23 rfl rfl (sameAll_c _ _ _ _ _ _ _ _ _ _ sl sl2 s.du _ hso.length.symm hso2.length.symm (by omega) hi3.rd hi4.rd hso.rds hso2.rds)) ?_
            rintro _ w11 ⟨rfl, E8⟩
            replace K0 := K0.ext E8
            first | refine sv rfl rfl rfl (ex_pick_t rfl rfl rfl) ?_ | refine sv rfl rfl rfl (ex_pick_f rfl rfl rfl) ?_
            refine sv rfl rfl rfl (ex_assign rfl rfl) ?_
            refine w_nil (qe_next ?_)
            refine w_ret (qe_then_ret (qe_ret1 rfl rfl ?_))
            exact ⟨rfl, K0⟩
          · skip
            first | refine sv rfl rfl rfl (ex_pick_t rfl rfl rfl) ?_ | refine sv rfl rfl rfl (ex_pick_f rfl rfl rfl) ?_
            refine sv rfl rfl rfl (ex_move rfl rfl) ?_
            first | refine sk rfl rfl rfl ?_ | refine sv rfl rfl rfl (ex_move rfl rfl) ?_
            first | refine sk rfl rfl rfl ?_ | refine sv rfl rfl rfl (ex_move rfl rfl) ?_
            first | refine sk rfl rfl rfl ?_ | refine sv rfl rfl rfl (ex_cmp rfl rfl rfl (congrArg some (decide_eq_true (by omega)))) ?_
            first | refine sv rfl rfl rfl (ex_pick_t rfl rfl rfl) ?_ | refine sv rfl rfl rfl (ex_pick_f rfl rfl rfl) ?_
            refine w_nil (qe_next ?_)
            refine w_cond_t rfl ?_
            refine w_seq ?_
            refine w_region ?_
            refine sv rfl rfl rfl (ex_move rfl rfl) ?_
            refine sv rfl rfl rfl (ex_cmp rfl rfl rfl (congrArg some (decide_eq_true (rfl)))) ?_
            refine sv rfl rfl rfl (ex_move rfl rfl) ?_
            first | refine sk rfl rfl rfl ?_ | refine sv rfl rfl rfl (ex_move rfl rfl) ?_
            first | refine sk rfl rfl rfl ?_ | refine sv rfl rfl rfl (ex_move rfl rfl) ?_
            refine st rfl rfl rfl (ex_call call23 rfl rfl (sameAll_c _ _ _ _ _ _ _ _ _ _ sl sl2 s.du _ hso.length.symm hso2.length.symm (by omega) hi3.rd hi4.rd hso.rds hso2.rds)) ?_
            rintro _ w12 ⟨rfl, E8⟩
            replace K0 := K0.ext E8
            first | refine sv rfl rfl rfl (ex_pick_t rfl rfl rfl) ?_ | refine sv rfl rfl rfl (ex_pick_f rfl rfl rfl) ?_
            refine sv rfl rfl rfl (ex_assign rfl rfl) ?_
            refine w_nil (qe_next ?_)
            refine w_ret (qe_then_ret (qe_ret1 rfl rfl ?_))
            exact ⟨rfl, K0⟩
/-- kinkeep/kinkeeplaw15.DiskSpoils -/
theorem spoils_good (k n : Nat) (zi oj : Nat) (x : UInt8) (A : Option Addr) (c hi : Nat) (os : List Op) (w : World) (hops : OpsAt w hi A os) (hhi : hi ≤ w.heap.size) (k1 : 1 ≤ k) (k8 : k ≤ 8) (n1 : 1 ≤ n) (n8 : n ≤ 8) (h40 : os.length ≤ 40) (hz : zi < k) (hoj : oj < n) :
    Ret Try.prog 6 [.int .i64 (k : Int), .int .i64 (n : Int), .slice A os.length c, .int .i64 (zi : Int), .int .i64 (oj : Int), bv x] w fun v w' => v = .bool true ∧ Ext w w' := by
  have K0 : Ext w w := Keep.refl _ _
  refine ret_of Try.func6 rfl rfl ?_
  refine w_seq ?_
  refine w_region ?_
  refine sv rfl rfl rfl (ex_assign rfl rfl) ?_
  refine w_nil (qe_next ?_)
  refine w_seq ?_
  refine w_seq ?_
  refine w_region ?_
  refine st rfl rfl rfl (ex_call call11 rfl rfl (awake_c _)) ?_
  rintro _ w1 ⟨rfl, E9⟩
  replace K0 := K0.ext E9
  refine sv rfl rfl rfl (ex_not rfl rfl) ?_
  refine w_nil (qe_next ?_)
  refine w_cond_f rfl ?_
  refine w_skip (qe_next ?_)
  refine w_seq ?_
  refine w_seq ?_
  refine w_region ?_
  refine sv rfl rfl rfl (ex_move rfl rfl) ?_
  refine sv rfl rfl rfl (ex_move rfl rfl) ?_
  refine sv rfl rfl rfl (ex_move rfl rfl) ?_
  refine st rfl rfl rfl (ex_call call25 rfl rfl (small_t _ _ _ _ _ _ ⟨by omega, by omega, by omega, by omega, h40⟩)) ?_
  rintro _ w2 ⟨rfl, hwe⟩
  obtain rfl := hwe.symm
  refine sv rfl rfl rfl (ex_not rfl rfl) ?_
  refine w_nil (qe_next ?_)
  refine w_cond_f rfl ?_
  refine w_skip (qe_next ?_)
  refine w_seq ?_
  refine w_region ?_
  refine sv rfl rfl rfl (ex_move rfl rfl) ?_
  refine sv rfl rfl rfl (ex_move rfl rfl) ?_
  have hz0 := K0.size
  refine st rfl rfl rfl (ex_call call12 rfl rfl (new_c k n _ k1 (by omega) n1 (by omega))) ?_
  rintro _ w3 ⟨kd, F, rfl, hD, hFn, E1⟩
  replace K0 := K0.ext E1
  have hP := Playing.start hD hFn hz0 K0
  clear hD hFn K0
  refine sv rfl rfl rfl (ex_move rfl rfl) ?_
  refine sv rfl rfl rfl (ex_extract rfl rfl rfl) ?_
  refine sv rfl rfl rfl (ex_extract rfl rfl rfl) ?_
  refine sv rfl rfl rfl (ex_assign rfl rfl) ?_
  refine sv rfl rfl rfl (ex_assign rfl rfl) ?_
  refine w_nil (qe_next ?_)
  refine w_seq ?_
  refine w_seq ?_
  refine w_region ?_
  refine sv rfl rfl rfl (ex_assign rfl rfl) ?_
  refine w_nil (qe_next ?_)
  refine w_block ?_
  refine w_loop (ι := Nat) (fun i => [(0, .int .i64 (k : Int)), (1, .int .i64 (n : Int)), (2, .slice A os.length c), (3, .int .i64 (zi : Int)), (4, .int .i64 (oj : Int)), (5, bv x), (13, .pointer (some ⟨kd, 0, none⟩)), (15, .int .i64 (i : Int))]) (fun i wL => i ≤ os.length ∧ ∃ s F, Playing w wL kd n k (os.take i) s F) (fun i => os.length - i) (0) ⟨rfl, rfl, rfl, rfl, rfl, rfl, rfl, rfl, trivial⟩ ?_ ?_
  · exact ⟨Nat.zero_le _, _, F, hP⟩
  · clear hP
    rintro i wL ⟨hi1, s, F, hP⟩
    refine w_seq ?_
    refine w_seq ?_
    refine w_region ?_
    refine sv rfl rfl rfl (ex_move rfl rfl) ?_
    refine sv rfl rfl rfl (ex_move rfl rfl) ?_
    refine sv rfl rfl rfl (ex_len Try.underlying44 rfl rfl) ?_
    refine sv rfl rfl rfl (ex_cmp rfl rfl rfl rfl) ?_
    refine w_nil (qe_next ?_)
    refine w_if rfl (fun hi2 => ?_) (fun hi2 => ?_)
    · skip
      replace hi2 : i < os.length := by omega
      obtain ⟨o1, bo, off, hog, rfl, hok, hoc⟩ := (hops.ext hP.k).at_ hi2
      refine w_skip (qe_next ?_)
      refine w_seq ?_
      refine w_block ?_
      refine w_region ?_
      refine sv rfl rfl rfl (ex_move rfl rfl) ?_
      refine sv rfl rfl rfl (ex_move rfl rfl) ?_
      refine sv rfl rfl rfl (ex_move rfl rfl) ?_
      refine sv rfl rfl rfl (ex_indexN Try.underlying44 sz50 i rfl rfl rfl (by first | rfl | omega) (by omega)) ?_
      refine sv rfl rfl rfl (ex_load_agg (cs := o1.cells) agg50 rfl rfl (fun q u hu => hoc q u hu)) ?_
      refine st rfl rfl rfl (ex_call call26 rfl rfl (play_p hP o1 hok hhi (by rw [List.length_take]; omega))) ?_
      rintro _ w4 ⟨B9, d9, F9, rfl, hP9, _, _⟩
      refine w_nil (qe_in_normal (qe_next ?_))
      refine w_region ?_
      refine sv rfl rfl rfl (ex_move rfl rfl) ?_
      refine sv rfl rfl rfl (ex_add rfl rfl rfl (i64_in (by omega) (by omega))) ?_
      refine sv rfl rfl rfl (ex_assign rfl rfl) ?_
      refine w_nil (qe_round (i + 1) ⟨rfl, rfl, rfl, rfl, rfl, rfl, rfl, rfl, trivial⟩ ?_ ?_)
      · exact ⟨by omega, _, F9, by rw [take_snoc hog]; exact hP9⟩
      · omega
    · skip
      replace hi2 : i = os.length := by omega
      subst hi2
      rw [List.take_length] at hP
      refine w_exit (qe_then_exit (qe_then_exit (qe_in_exit (qe_next ?_))))
      refine w_seq ?_
      have hd := hP.du
      have hsn := hP.sn
      have hD := hP.at_
      have hFl := hD.lt
      have hFn := hP.new
      have K0 := hP.k
      refine w_region ?_
      refine sv rfl rfl rfl (ex_move rfl rfl) ?_
      refine st rfl rfl rfl (ex_call call17 rfl rfl (image_c F kd s _ hD)) ?_
      rintro _ w5 ⟨gi, sl, rfl, hi3, hso, E2⟩
      replace hD := hD.ext E2
      replace K0 := K0.ext E2
      obtain ⟨s2, hsp, hsp2, hn2, hpd2, hdl2, hby⟩ := spoil_law hD.wf (i := zi) (j := oj) (by omega) (by omega) x
      have hwd := hD.wf.du
      refine sv rfl rfl rfl (ex_move rfl rfl) ?_
      refine st rfl rfl rfl (ex_call call22 rfl rfl (pending_c F kd s _ hD)) ?_
      rintro _ w6 ⟨rfl, hwe⟩
      obtain rfl := hwe.symm
      refine sv rfl rfl rfl (ex_assign rfl rfl) ?_
      refine sv rfl rfl rfl (ex_assign rfl rfl) ?_
      refine w_nil (qe_next ?_)
      refine w_seq ?_
      refine w_region ?_
      refine sv rfl rfl rfl (ex_move rfl rfl) ?_
      refine sv rfl rfl rfl (ex_move rfl rfl) ?_
      refine sv rfl rfl rfl (ex_move rfl rfl) ?_
      refine sv rfl rfl rfl (ex_move rfl rfl) ?_
      have hzI := K0.size
      refine st rfl rfl rfl (ex_call call28 rfl rfl (spoil_e (zi : Int) (oj : Int) 0 x s2 F kd s _ hD hsp)) ?_
      rintro _ w7 ⟨F2, rfl, hD2, hG2, _, K2⟩
      have hi3b := hi3
      have hsob := hso
      replace hi3 := hi3.keepF K2 (fun j hj hF => by have := hFl j hF; omega)
      replace hso := hso.keepF K2 (fun j hj hF => by have := hFl j hF; omega)
      replace K0 := K0.trans K2 (fun j hj _ hF => by have := hFn j hF; omega)
      have hFn2 : ∀ j, F2 j → w.heap.size ≤ j := fun j hj => (hG2 j hj).elim (hFn j) (fun h => by omega)
      have hFl2 := hD2.lt
      have hgF : ∀ g o1, (some (⟨gi, 0, none⟩ : Addr)) = some ⟨g, o1, none⟩ → ¬ F2 g := fun g o1 e hF => by
        have h1 := hi3b.lt e
        rcases hG2 g hF with h | h
        · have := hFl g h; omega
        · omega
      have hslF : ∀ t ∈ sl, ∀ g o1, t.1 = some ⟨g, o1, none⟩ → ¬ F2 g := fun t ht g o1 e hF => by
        have h1 := hsob.lt t ht g o1 e
        rcases hG2 g hF with h | h
        · have := hFl g h; omega
        · omega
      refine sv rfl rfl rfl (ex_assign rfl rfl) ?_
      refine w_nil (qe_next ?_)
      refine w_seq ?_
      refine w_region ?_
      refine sv rfl rfl rfl (ex_move rfl rfl) ?_
      refine st rfl rfl rfl (ex_call call17 rfl rfl (image_c F2 kd _ _ hD2)) ?_
      rintro _ w8 ⟨gj, sl2, rfl, hi4, hso2, E3⟩
      replace hD2 := hD2.ext E3
      replace K0 := K0.ext E3
      replace hi3 := hi3.ext E3
      replace hso := hso.ext E3
      refine sv rfl rfl rfl (ex_assign rfl rfl) ?_
      refine w_nil (qe_next ?_)
      refine w_seq ?_
      refine w_seq ?_
      refine w_region ?_
      refine sv rfl rfl rfl (ex_move rfl rfl) ?_
      refine sv rfl rfl rfl (ex_cmp rfl rfl rfl (congrArg some (decide_eq_false (by omega)))) ?_
      refine sv rfl rfl rfl (ex_move rfl rfl) ?_
      first | refine sk rfl rfl rfl ?_ | refine sv rfl rfl rfl (ex_move rfl rfl) ?_
      first | refine sk rfl rfl rfl ?_ | refine sv rfl rfl rfl (ex_move rfl rfl) ?_
      first | refine sk rfl rfl rfl ?_ | refine sv rfl rfl rfl (ex_cmp rfl rfl rfl (congrArg some (decide_eq_false (by omega)))) ?_
      first | refine sv rfl rfl rfl (ex_pick_t rfl rfl rfl) ?_ | refine sv rfl rfl rfl (ex_pick_f rfl rfl rfl) ?_
      refine sv rfl rfl rfl (ex_move rfl rfl) ?_
      first | refine sk rfl rfl rfl ?_ | refine sv rfl rfl rfl (ex_move rfl rfl) ?_
      first | refine sk rfl rfl rfl ?_ | refine sv rfl rfl rfl (ex_cmp rfl rfl rfl (congrArg some (decide_eq_false (by omega)))) ?_
      first | refine sv rfl rfl rfl (ex_pick_t rfl rfl rfl) ?_ | refine sv rfl rfl rfl (ex_pick_f rfl rfl rfl) ?_
      refine sv rfl rfl rfl (ex_move rfl rfl) ?_
      first | refine sk rfl rfl rfl ?_ | refine sv rfl rfl rfl (ex_move rfl rfl) ?_
      first | refine sk rfl rfl rfl ?_ | refine sv rfl rfl rfl (ex_move rfl rfl) ?_
      first | refine sk rfl rfl rfl ?_ | refine sv rfl rfl rfl (ex_cmp rfl rfl rfl (congrArg some (decide_eq_false (by omega)))) ?_
      first | refine sv rfl rfl rfl (ex_pick_t rfl rfl rfl) ?_ | refine sv rfl rfl rfl (ex_pick_f rfl rfl rfl) ?_
      refine w_nil (qe_next ?_)
      refine w_cond_f rfl ?_
      refine w_skip (qe_next ?_)
      refine w_seq ?_
      refine w_seq ?_
      refine w_region ?_
      refine sv rfl rfl rfl (ex_move rfl rfl) ?_
      refine sv rfl rfl rfl (ex_cmp rfl rfl rfl (congrArg some (decide_eq_false (not_not_intro rfl)))) ?_
      refine sv rfl rfl rfl (ex_move rfl rfl) ?_
      first | refine sk rfl rfl rfl ?_ | refine sv rfl rfl rfl (ex_move rfl rfl) ?_
      refine st rfl rfl rfl (ex_call call22 rfl rfl (pending_c F2 kd s2 _ hD2)) ?_
      rintro _ w9 ⟨rfl, hwe⟩
      obtain rfl := hwe.symm
      first | refine sk rfl rfl rfl ?_ | refine sv rfl rfl rfl (ex_move rfl rfl) ?_
      first | refine sk rfl rfl rfl ?_ | refine sv rfl rfl rfl (ex_cmp rfl rfl rfl (congrArg some (decide_eq_false (by rw [hpd2]; omega)))) ?_
      first | refine sv rfl rfl rfl (ex_pick_t rfl rfl rfl) ?_ | refine sv rfl rfl rfl (ex_pick_f rfl rfl rfl) ?_
      refine sv rfl rfl rfl (ex_move rfl rfl) ?_
      first | refine sk rfl rfl rfl ?_ | refine sv rfl rfl rfl (ex_move rfl rfl) ?_
      first | refine sk rfl rfl rfl ?_ | refine sv rfl rfl rfl (ex_len Try.underlying33 rfl rfl) ?_
      first | refine sk rfl rfl rfl ?_ | refine sv rfl rfl rfl (ex_move rfl rfl) ?_
      first | refine sk rfl rfl rfl ?_ | refine sv rfl rfl rfl (ex_cmp rfl rfl rfl (congrArg some (decide_eq_false (by omega)))) ?_
      first | refine sv rfl rfl rfl (ex_pick_t rfl rfl rfl) ?_ | refine sv rfl rfl rfl (ex_pick_f rfl rfl rfl) ?_
      refine sv rfl rfl rfl (ex_move rfl rfl) ?_
      first | refine sk rfl rfl rfl ?_ | refine sv rfl rfl rfl (ex_move rfl rfl) ?_
      first | refine sk rfl rfl rfl ?_ | refine sv rfl rfl rfl (ex_len Try.underlying33 rfl rfl) ?_
      first | refine sk rfl rfl rfl ?_ | refine sv rfl rfl rfl (ex_move rfl rfl) ?_
      first | refine sk rfl rfl rfl ?_ | refine sv rfl rfl rfl (ex_cmp rfl rfl rfl (congrArg some (decide_eq_false (by omega)))) ?_
      first | refine sv rfl rfl rfl (ex_pick_t rfl rfl rfl) ?_ | refine sv rfl rfl rfl (ex_pick_f rfl rfl rfl) ?_
      refine w_nil (qe_next ?_)
      refine w_cond_f rfl ?_
      refine w_skip (qe_next ?_)
      refine w_seq ?_
      refine w_seq ?_
      obtain ⟨m1, hm1⟩ : ∃ m, m = gi := ⟨_, rfl⟩
      obtain ⟨m1, hi3, hso⟩ : ∃ m1, Own _ m1 22 1 (some ⟨gi, 0, none⟩) s.du.length s.du.length (sl.map slv) ∧ Owns _ m1 sl s.du := ⟨_, hi3, hso⟩
      obtain ⟨m2, hi4, hso2⟩ : ∃ m2, Own _ m2 22 1 (some ⟨gj, 0, none⟩) s2.du.length s2.du.length (sl2.map slv) ∧ Owns _ m2 sl2 s2.du := ⟨_, hi4, hso2⟩
      have hwd2 := hD2.wf.du
      refine w_region ?_
      refine sv rfl rfl rfl (ex_assign rfl rfl) ?_
      refine w_nil (qe_next ?_)
      refine w_block ?_
      refine w_loop (ι := Nat) (fun i => [(0, .int .i64 (k : Int)), (1, .int .i64 (n : Int)), (2, .slice A os.length c), (3, .int .i64 (zi : Int)), (4, .int .i64 (oj : Int)), (5, bv x), (13, .pointer (some ⟨kd, 0, none⟩)), (16, .slice (some ⟨gi, 0, none⟩) s.du.length s.du.length), (19, .slice (some ⟨gj, 0, none⟩) s2.du.length s2.du.length), (20, .int .i64 (i : Int))]) (fun i wL => i ≤ k ∧ Own wL m1 22 1 (some ⟨gi, 0, none⟩) s.du.length s.du.length (sl.map slv) ∧ Owns wL m1 sl s.du ∧ Own wL m2 22 1 (some ⟨gj, 0, none⟩) s2.du.length s2.du.length (sl2.map slv) ∧ Owns wL m2 sl2 s2.du ∧ DiskAt wL F2 kd s2 ∧ Ext w wL) (fun i => k - i) (0) ⟨rfl, rfl, rfl, rfl, rfl, rfl, rfl, rfl, rfl, rfl, trivial⟩ ?_ ?_
      · exact ⟨Nat.zero_le _, hi3, hso, hi4, hso2, hD2, K0⟩
      · clear hi3 hso hi4 hso2 hD2 K0
        rintro i wL ⟨hk3, hi3, hso, hi4, hso2, hD2, K0⟩
        refine w_seq ?_
        refine w_seq ?_
        refine w_region ?_
        refine sv rfl rfl rfl (ex_move rfl rfl) ?_
        refine sv rfl rfl rfl (ex_move rfl rfl) ?_
        refine sv rfl rfl rfl (ex_cmp rfl rfl rfl rfl) ?_
        refine w_nil (qe_next ?_)
        refine w_if rfl (fun hk4 => ?_) (fun hk4 => ?_)
        · skip
          replace hk4 : i < k := by omega
          refine w_skip (qe_next ?_)
          refine w_seq ?_
          refine w_block ?_
          refine w_seq ?_
          refine w_region ?_
          refine sv rfl rfl rfl (ex_assign rfl rfl) ?_
          refine w_nil (qe_next ?_)
          refine w_block ?_
          refine w_loop (ι := Nat) (fun j => [(0, .int .i64 (k : Int)), (1, .int .i64 (n : Int)), (2, .slice A os.length c), (3, .int .i64 (zi : Int)), (4, .int .i64 (oj : Int)), (5, bv x), (13, .pointer (some ⟨kd, 0, none⟩)), (16, .slice (some ⟨gi, 0, none⟩) s.du.length s.du.length), (19, .slice (some ⟨gj, 0, none⟩) s2.du.length s2.du.length), (20, .int .i64 (i : Int)), (21, .int .i64 (j : Int))]) (fun j wL => j ≤ n ∧ Own wL m1 22 1 (some ⟨gi, 0, none⟩) s.du.length s.du.length (sl.map slv) ∧ Owns wL m1 sl s.du ∧ Own wL m2 22 1 (some ⟨gj, 0, none⟩) s2.du.length s2.du.length (sl2.map slv) ∧ Owns wL m2 sl2 s2.du ∧ DiskAt wL F2 kd s2 ∧ Ext w wL) (fun j => n - j) (0) ⟨rfl, rfl, rfl, rfl, rfl, rfl, rfl, rfl, rfl, rfl, rfl, trivial⟩ ?_ ?_
          · exact ⟨Nat.zero_le _, hi3, hso, hi4, hso2, hD2, K0⟩
          · clear hi3 hso hi4 hso2 hD2 K0
            rintro j wL ⟨hn3, hi3, hso, hi4, hso2, hD2, K0⟩
            refine w_seq ?_
            refine w_seq ?_
            refine w_region ?_
            refine sv rfl rfl rfl (ex_move rfl rfl) ?_
            refine sv rfl rfl rfl (ex_move rfl rfl) ?_
            refine sv rfl rfl rfl (ex_cmp rfl rfl rfl rfl) ?_
            refine w_nil (qe_next ?_)
            refine w_if rfl (fun hn4 => ?_) (fun hn4 => ?_)
            · skip
              replace hn4 : j < n := by omega
              obtain ⟨b1, o1, u1, he1, _, _, hu1, hc1⟩ := hi3.rd.at_ (k := i) (by omega)
              cases he1
              rw [List.getElem?_map] at hu1
              obtain ⟨s1, hs1, rfl⟩ := Option.map_eq_some_iff.1 hu1
              obtain ⟨y1, hy1, hl1, ho1⟩ := hso.get hs1
              obtain ⟨b2, o2, u2, he2, _, _, hu2, hc2⟩ := hi4.rd.at_ (k := i) (by omega)
              cases he2
              rw [List.getElem?_map] at hu2
              obtain ⟨s2, hs2, rfl⟩ := Option.map_eq_some_iff.1 hu2
              obtain ⟨y2, hy2, hl2, ho2⟩ := hso2.get hs2
              have hyl1 := hwd _ (List.mem_of_getElem? hy1)
              have hyl2 := hwd2 _ (List.mem_of_getElem? hy2)
              obtain ⟨p1, q1, v1, ha1, _, _, hv1, hd1⟩ := ho1.rd.at_ (k := j) (by omega)
              rw [bcells_get] at hv1
              obtain ⟨x1, hx1, rfl⟩ := Option.map_eq_some_iff.1 hv1
              obtain ⟨p2, q2, v2, ha2, _, _, hv2, hd2⟩ := ho2.rd.at_ (k := j) (by omega)
              rw [bcells_get] at hv2
              obtain ⟨x2, hx2, rfl⟩ := Option.map_eq_some_iff.1 hv2
              have hxx := hby i j _ _ _ _ hy1 hy2 hx1 hx2
              refine w_skip (qe_next ?_)
              refine w_seq ?_
              refine w_block ?_
              refine w_seq ?_
              refine w_seq ?_
              refine w_region ?_
              refine sv rfl rfl rfl (ex_move rfl rfl) ?_
              refine sv rfl rfl rfl (ex_move rfl rfl) ?_
              refine sv rfl rfl rfl (ex_index Try.underlying33 sz22 (i) rfl rfl rfl (by first | rfl | omega) (by omega)) ?_
              refine sv rfl rfl rfl (ex_load (v := .slice (some ⟨p2, q2, none⟩) s2.2.1 s2.2.2) one22 rfl rfl (by rw [← ha2]; exact hc2)) ?_
              refine sv rfl rfl rfl (ex_len Try.underlying22 rfl rfl) ?_
              refine sv rfl rfl rfl (ex_move rfl rfl) ?_
              refine sv rfl rfl rfl (ex_cmp rfl rfl rfl (congrArg some (decide_eq_false (by omega)))) ?_
              refine sv rfl rfl rfl (ex_move rfl rfl) ?_
              first | refine sk rfl rfl rfl ?_ | refine sv rfl rfl rfl (ex_move rfl rfl) ?_
              first | refine sk rfl rfl rfl ?_ | refine sv rfl rfl rfl (ex_move rfl rfl) ?_
              first | refine sk rfl rfl rfl ?_ | refine sv rfl rfl rfl (ex_index Try.underlying33 sz22 (i) rfl rfl rfl (by first | rfl | omega) (by omega)) ?_
              first | refine sk rfl rfl rfl ?_ | refine sv rfl rfl rfl (ex_load (v := .slice (some ⟨p1, q1, none⟩) s1.2.1 s1.2.2) one22 rfl rfl (by rw [← ha1]; exact hc1)) ?_
              first | refine sk rfl rfl rfl ?_ | refine sv rfl rfl rfl (ex_len Try.underlying22 rfl rfl) ?_
              first | refine sk rfl rfl rfl ?_ | refine sv rfl rfl rfl (ex_move rfl rfl) ?_
              first | refine sk rfl rfl rfl ?_ | refine sv rfl rfl rfl (ex_cmp rfl rfl rfl (congrArg some (decide_eq_false (by omega)))) ?_
              first | refine sv rfl rfl rfl (ex_pick_t rfl rfl rfl) ?_ | refine sv rfl rfl rfl (ex_pick_f rfl rfl rfl) ?_
              refine w_nil (qe_next ?_)
              refine w_cond_f rfl ?_
              refine w_skip (qe_next ?_)
              refine w_seq ?_
              refine w_region ?_
              refine sv rfl rfl rfl (ex_move rfl rfl) ?_
              refine sv rfl rfl rfl (ex_move rfl rfl) ?_
              refine sv rfl rfl rfl (ex_index Try.underlying33 sz22 (i) rfl rfl rfl (by first | rfl | omega) (by omega)) ?_
              refine sv rfl rfl rfl (ex_load (v := .slice (some ⟨p1, q1, none⟩) s1.2.1 s1.2.2) one22 rfl rfl (by rw [← ha1]; exact hc1)) ?_
              refine sv rfl rfl rfl (ex_move rfl rfl) ?_
              refine sv rfl rfl rfl (ex_index Try.underlying22 sz5 (j) rfl rfl rfl (by first | rfl | omega) (by omega)) ?_
              refine sv rfl rfl rfl (ex_load one5 rfl rfl hd1) ?_
              refine sv rfl rfl rfl (ex_assign rfl rfl) ?_
              refine w_nil (qe_next ?_)
              refine w_seq ?_
              refine w_seq ?_
              refine w_region ?_
              refine sv rfl rfl rfl (ex_move rfl rfl) ?_
              refine sv rfl rfl rfl (ex_move rfl rfl) ?_
              refine sv_if rfl rfl rfl (ex_cmp rfl rfl rfl rfl) (fun e1 => ?_) (fun e1 => ?_)
              · skip
                refine sv rfl rfl rfl (ex_move rfl rfl) ?_
                first | refine sk rfl rfl rfl ?_ | refine sv rfl rfl rfl (ex_move rfl rfl) ?_
                first | refine sk rfl rfl rfl ?_ | refine sv rfl rfl rfl (ex_move rfl rfl) ?_
                refine sv_if rfl rfl rfl (ex_cmp rfl rfl rfl rfl) (fun e2 => ?_) (fun e2 => ?_)
                · skip
                  first | refine sv rfl rfl rfl (ex_pick_t rfl rfl rfl) ?_ | refine sv rfl rfl rfl (ex_pick_f rfl rfl rfl) ?_
                  refine w_nil (qe_next ?_)
                  refine w_cond_t rfl ?_
                  refine w_region ?_
                  refine sv rfl rfl rfl (ex_move rfl rfl) ?_
                  refine sv rfl rfl rfl (ex_move rfl rfl) ?_
                  refine sv rfl rfl rfl (ex_bits rfl (by simp) rfl rfl (bits_xor8 x1 x)) ?_
                  refine sv rfl rfl rfl (ex_assign rfl rfl) ?_
                  refine w_nil (qe_next ?_)
                  refine w_seq ?_
                  refine w_region ?_
                  refine sv rfl rfl rfl (ex_move rfl rfl) ?_
                  refine sv rfl rfl rfl (ex_move rfl rfl) ?_
                  refine sv rfl rfl rfl (ex_index Try.underlying33 sz22 (i) rfl rfl rfl (by first | rfl | omega) (by omega)) ?_
                  refine sv rfl rfl rfl (ex_load (v := .slice (some ⟨p2, q2, none⟩) s2.2.1 s2.2.2) one22 rfl rfl (by rw [← ha2]; exact hc2)) ?_
                  refine sv rfl rfl rfl (ex_move rfl rfl) ?_
                  refine sv rfl rfl rfl (ex_index Try.underlying22 sz5 (j) rfl rfl rfl (by first | rfl | omega) (by omega)) ?_
                  refine sv rfl rfl rfl (ex_load one5 rfl rfl hd2) ?_
                  refine sv rfl rfl rfl (ex_move rfl rfl) ?_
                  refine sv rfl rfl rfl (ex_cmp rfl rfl rfl (congrArg some (decide_eq_false (not_not_intro (by rw [hxx, if_pos ⟨by omega, by omega⟩]))))) ?_
                  refine w_nil (qe_next ?_)
                  refine w_cond_f rfl ?_
                  refine w_skip (qe_in_normal (qe_next ?_))
                  refine w_region ?_
                  refine sv rfl rfl rfl (ex_move rfl rfl) ?_
                  refine sv rfl rfl rfl (ex_add rfl rfl rfl (i64_in (by omega) (by omega))) ?_
                  refine sv rfl rfl rfl (ex_assign rfl rfl) ?_
                  refine w_nil (qe_round (j + 1) ⟨rfl, rfl, rfl, rfl, rfl, rfl, rfl, rfl, rfl, rfl, rfl, trivial⟩ ?_ ?_)
                  · exact ⟨by omega, hi3, hso, hi4, hso2, hD2, K0⟩
                  · omega
                · skip
                  first | refine sv rfl rfl rfl (ex_pick_t rfl rfl rfl) ?_ | refine sv rfl rfl rfl (ex_pick_f rfl rfl rfl) ?_
                  refine w_nil (qe_next ?_)
                  refine w_cond_f rfl ?_
                  refine w_skip (qe_next ?_)
                  refine w_seq ?_
                  refine w_region ?_
                  refine sv rfl rfl rfl (ex_move rfl rfl) ?_
                  refine sv rfl rfl rfl (ex_move rfl rfl) ?_
                  refine sv rfl rfl rfl (ex_index Try.underlying33 sz22 (i) rfl rfl rfl (by first | rfl | omega) (by omega)) ?_
                  refine sv rfl rfl rfl (ex_load (v := .slice (some ⟨p2, q2, none⟩) s2.2.1 s2.2.2) one22 rfl rfl (by rw [← ha2]; exact hc2)) ?_
                  refine sv rfl rfl rfl (ex_move rfl rfl) ?_
                  refine sv rfl rfl rfl (ex_index Try.underlying22 sz5 (j) rfl rfl rfl (by first | rfl | omega) (by omega)) ?_
                  refine sv rfl rfl rfl (ex_load one5 rfl rfl hd2) ?_
                  refine sv rfl rfl rfl (ex_move rfl rfl) ?_
                  refine sv rfl rfl rfl (ex_cmp rfl rfl rfl (congrArg some (decide_eq_false (not_not_intro (by rw [hxx, if_neg (fun h => by omega)]))))) ?_
                  refine w_nil (qe_next ?_)
                  refine w_cond_f rfl ?_
                  refine w_skip (qe_in_normal (qe_next ?_))
                  refine w_region ?_
                  refine sv rfl rfl rfl (ex_move rfl rfl) ?_
                  refine sv rfl rfl rfl (ex_add rfl rfl rfl (i64_in (by omega) (by omega))) ?_
                  refine sv rfl rfl rfl (ex_assign rfl rfl) ?_
                  refine w_nil (qe_round (j + 1) ⟨rfl, rfl, rfl, rfl, rfl, rfl, rfl, rfl, rfl, rfl, rfl, trivial⟩ ?_ ?_)
                  · exact ⟨by omega, hi3, hso, hi4, hso2, hD2, K0⟩
                  · omega
              · skip
                refine sv rfl rfl rfl (ex_move rfl rfl) ?_
                first | refine sk rfl rfl rfl ?_ | refine sv rfl rfl rfl (ex_move rfl rfl) ?_
                first | refine sk rfl rfl rfl ?_ | refine sv rfl rfl rfl (ex_move rfl rfl) ?_
                refine sk rfl rfl rfl ?_
                first | refine sv rfl rfl rfl (ex_pick_t rfl rfl rfl) ?_ | refine sv rfl rfl rfl (ex_pick_f rfl rfl rfl) ?_
                refine w_nil (qe_next ?_)
                refine w_cond_f rfl ?_
                refine w_skip (qe_next ?_)
                refine w_seq ?_
                refine w_region ?_
                refine sv rfl rfl rfl (ex_move rfl rfl) ?_
                refine sv rfl rfl rfl (ex_move rfl rfl) ?_
                refine sv rfl rfl rfl (ex_index Try.underlying33 sz22 (i) rfl rfl rfl (by first | rfl | omega) (by omega)) ?_
                refine sv rfl rfl rfl (ex_load (v := .slice (some ⟨p2, q2, none⟩) s2.2.1 s2.2.2) one22 rfl rfl (by rw [← ha2]; exact hc2)) ?_
                refine sv rfl rfl rfl (ex_move rfl rfl) ?_
                refine sv rfl rfl rfl (ex_index Try.underlying22 sz5 (j) rfl rfl rfl (by first | rfl | omega) (by omega)) ?_
                refine sv rfl rfl rfl (ex_load one5 rfl rfl hd2) ?_
                refine sv rfl rfl rfl (ex_move rfl rfl) ?_
                refine sv rfl rfl rfl (ex_cmp rfl rfl rfl (congrArg some (decide_eq_false (not_not_intro (by rw [hxx, if_neg (fun h => by omega)]))))) ?_
                refine w_nil (qe_next ?_)
                refine w_cond_f rfl ?_
                refine w_skip (qe_in_normal (qe_next ?_))
                refine w_region ?_
                refine sv rfl rfl rfl (ex_move rfl rfl) ?_
                refine sv rfl rfl rfl (ex_add rfl rfl rfl (i64_in (by omega) (by omega))) ?_
                refine sv rfl rfl rfl (ex_assign rfl rfl) ?_
                refine w_nil (qe_round (j + 1) ⟨rfl, rfl, rfl, rfl, rfl, rfl, rfl, rfl, rfl, rfl, rfl, trivial⟩ ?_ ?_)
                · exact ⟨by omega, hi3, hso, hi4, hso2, hD2, K0⟩
                · omega
            · skip
              refine w_exit (qe_then_exit (qe_then_exit (qe_in_exit (qe_in_normal (qe_next ?_)))))
              refine w_region ?_
              refine sv rfl rfl rfl (ex_move rfl rfl) ?_
              refine sv rfl rfl rfl (ex_add rfl rfl rfl (i64_in (by omega) (by omega))) ?_
              refine sv rfl rfl rfl (ex_assign rfl rfl) ?_
              refine w_nil (qe_round (i + 1) ⟨rfl, rfl, rfl, rfl, rfl, rfl, rfl, rfl, rfl, rfl, trivial⟩ ?_ ?_)
              · exact ⟨by omega, hi3, hso, hi4, hso2, hD2, K0⟩
              · omega
        · skip
          refine w_exit (qe_then_exit (qe_then_exit (qe_in_exit (qe_next ?_))))
          refine w_seq ?_
          refine w_region ?_
          refine sv rfl rfl rfl (ex_move rfl rfl) ?_
          refine sv rfl rfl rfl (ex_move rfl rfl) ?_
          refine sv rfl rfl rfl (ex_move rfl rfl) ?_
          refine sv rfl rfl rfl (ex_move rfl rfl) ?_
          have hFl4 := hD2.lt
          have hz9 := K0.size
          have hlo3 := hi3
          refine st rfl rfl rfl (ex_call call28 rfl rfl (spoil_e (zi : Int) (oj : Int) 0 x s F2 kd s2 _ hD2 hsp2)) ?_
          rintro _ w10 ⟨F5, rfl, hD5, hG5, _, K5⟩
          replace hi3 := hi3.keep K5 (fun g o1 e hF => hgF g o1 e hF)
          replace hso := Owns.keepS K5 hso (fun t ht g o1 e hF => hslF t ht g o1 e hF)
          replace K0 := K0.trans K5 (fun j hj _ hF => by have := hFn2 j hF; omega)
          refine sv rfl rfl rfl (ex_cmp rfl rfl rfl (congrArg some (decide_eq_true (rfl)))) ?_
          refine sv rfl rfl rfl (ex_move rfl rfl) ?_
          first | refine sk rfl rfl rfl ?_ | refine sv rfl rfl rfl (ex_move rfl rfl) ?_
          first | refine sk rfl rfl rfl ?_ | refine sv rfl rfl rfl (ex_move rfl rfl) ?_
          refine st rfl rfl rfl (ex_call call17 rfl rfl (image_c F5 kd s _ hD5)) ?_
          rintro _ w11 ⟨gk, sl5, rfl, hi5, hso5, E5⟩
          replace hi3 := hi3.ext E5
          replace hso := hso.ext E5
          replace K0 := K0.ext E5
          refine st rfl rfl rfl (ex_call call23 rfl rfl (sameAll_c _ _ _ _ _ _ _ _ _ _ sl sl5 s.du _ hso.length.symm hso5.length.symm (by omega) hi3.rd hi5.rd hso.rds hso5.rds)) ?_
          rintro _ w12 ⟨rfl, E6⟩
          replace K0 := K0.ext E6
          first | refine sv rfl rfl rfl (ex_pick_t rfl rfl rfl) ?_ | refine sv rfl rfl rfl (ex_pick_f rfl rfl rfl) ?_
          refine sv rfl rfl rfl (ex_assign rfl rfl) ?_
          refine w_nil (qe_next ?_)
          refine w_ret (qe_ret1 rfl rfl ?_)
          exact ⟨rfl, K0⟩
theorem spoils_law (z1 z2 z o : Int) (x : UInt8) (A : Option Addr) (c hi : Nat) (os : List Op) (w : World) (hops : OpsAt w hi A os) (hhi : hi ≤ w.heap.size) : Ret Try.prog 6 [.int .i64 z1, .int .i64 z2, .slice A os.length c, .int .i64 z, .int .i64 o, bv x] w fun v w' => v = .bool true ∧ Ext w w' := by
  by_cases h : 1 ≤ z1 ∧ z1 ≤ 8 ∧ 1 ≤ z2 ∧ z2 ≤ 8 ∧ os.length ≤ 40
  · obtain ⟨k, rfl⟩ : ∃ k : Nat, z1 = (k : Int) := ⟨z1.toNat, by omega⟩
    obtain ⟨n, rfl⟩ : ∃ n : Nat, z2 = (n : Int) := ⟨z2.toNat, by omega⟩
    by_cases hb : 0 ≤ z ∧ z < (k : Int) ∧ 0 ≤ o ∧ o < (n : Int)
    · obtain ⟨zi, rfl⟩ : ∃ m : Nat, z = (m : Int) := ⟨z.toNat, by omega⟩
      obtain ⟨oj, rfl⟩ : ∃ m : Nat, o = (m : Int) := ⟨o.toNat, by omega⟩
      exact spoils_good k n zi oj x A c hi os w hops hhi (by omega) (by omega) (by omega) (by omega) (by omega) (by omega) (by omega)
    · exact spoils_bad k n z o x A c hi os w hops hhi (by omega) (by omega) (by omega) (by omega) (by omega) hb
  · exact spoils_big z1 z2 z o x A c hi os w hops hhi h
end Go.Proofs.Ytcgcklfbnmaodaa

/- The law DiskReads, walked. -/
import Derived.Test.YtcgcklfbnmaodaaD14
namespace Go.Proofs.Ytcgcklfbnmaodaa
open Go Go.RowKit
set_option linter.unusedVariables false
set_option linter.unusedSimpArgs false
theorem look_snoc (pd : List (Nat × List UInt8)) (p : Nat × List UInt8) (i : Nat) (d : List UInt8) : look (pd ++ [p]) i d = if p.1 = i then p.2 else look pd i d := by
  unfold look
  rw [List.foldl_append]
  rfl
theorem fails_off (s : St) : (s.fails.1 = true → s.fails.2.off = true) ∧ (s.fails.1 = false → s.fails.2.off = s.off) := by
  unfold St.fails
  split
  · exact ⟨fun _ => rfl, (fun h => by cases h)⟩
  · split
    · exact ⟨(fun h => by cases h), fun _ => rfl⟩
    · exact ⟨(fun h => by cases h), fun _ => rfl⟩
theorem putd_get {n : Nat} {du : List (List UInt8)} (h : ∀ y ∈ du, y.length = n) {j i : Nat} {d : List UInt8} (hd : d.length = n) (hi : i < du.length) : (putd du j d).getD i [] = if j = i then d else du.getD i [] := by
  unfold putd
  rw [List.getD_eq_getElem?_getD, List.getElem?_set]
  by_cases e : j = i
  · subst e
    rw [if_pos rfl, if_pos hi, if_pos rfl, List.drop_of_length_le (by rw [h _ (getD_mem hi)]; omega), List.append_nil]
    rfl
  · rw [if_neg e, if_neg e, List.getD_eq_getElem?_getD]
theorem flush_look {n i : Nat} : ∀ (pd : List (Nat × List UInt8)) (du : List (List UInt8)), (∀ y ∈ du, y.length = n) → (∀ p ∈ pd, p.2.length = n) → i < du.length → (pd.foldl (fun du p => putd du p.1 p.2) du).getD i [] = look pd i (du.getD i [])
  | [], _, _, _, _ => rfl
  | p :: pd, du, h, hp, hi => by
    have hl := hp p List.mem_cons_self
    have := flush_look (n := n) (i := i) pd (putd du p.1 p.2) (putd_all h (Nat.le_of_eq hl)) (fun p' h' => hp p' (List.mem_cons_of_mem _ h')) (by rw [putd_length]; exact hi)
    rw [List.foldl_cons, this, putd_get h hl hi]
    unfold look
    rw [List.foldl_cons]
theorem write_ok {s : St} {z : Int} {d : List UInt8} (h : (s.write z d).1 = 0) : ∃ i : Nat, z = (i : Int) ∧ i < s.du.length ∧ look (s.write z d).2.pd i ((s.write z d).2.du.getD i []) = d := by
  unfold St.write at h ⊢
  by_cases h1 : s.off = true
  · rw [if_pos h1] at h; cases h
  · by_cases h2 : s.In z ∧ d.length = s.n
    · have hin := h2.1
      unfold St.In at hin
      refine ⟨z.toNat, by omega, by omega, ?_⟩
      rw [if_neg h1, if_neg (fun hh => hh h2)]
      simp only
      have hf := St.fails_pd ({ s with pd := s.pd ++ [(z.toNat, d)] } : St)
      rw [hf.1, look_snoc, if_pos rfl]
    · rw [if_neg h1, if_pos h2] at h; cases h
theorem read_off {s : St} (h : s.off = true) (z : Int) : s.read z = ([], 8) := by
  unfold St.read
  rw [if_pos h]
theorem read_on {s : St} (h : s.off = false) {i : Nat} (hi : i < s.du.length) : s.read (i : Int) = (look s.pd i (s.du.getD i []), 0) := by
  unfold St.read
  rw [if_neg (by rw [h]; simp), if_neg (fun h => h ⟨by omega, by omega⟩)]
  rfl
theorem rinv_play {s : St} {o : Op} {i : Nat} {ds : List UInt8} (hw : s.Wf) (hi : i < s.du.length) (h : s.off = true ∨ look s.pd i (s.du.getD i []) = ds) (hc : (o.k = 0 ∧ o.z ≠ (i : Int)) ∨ o.k = 1 ∨ o.k = 2) : (s.play o).2.off = true ∨ look (s.play o).2.pd i ((s.play o).2.du.getD i []) = ds := by
  rcases hc with ⟨h0, hz⟩ | h0 | h0
  · unfold St.play
    rw [if_pos h0]
    simp only
    unfold St.write
    split
    · exact h
    · rename_i hoff
      split
      · exact h
      · rename_i hv
        have hv : s.In o.z ∧ o.bs.length = s.n := Classical.byContradiction hv
        have hin := hv.1
        unfold St.In at hin
        simp only
        have hf := St.fails_pd ({ s with pd := s.pd ++ [(o.z.toNat, o.bs)] } : St)
        rw [hf.1, hf.2.1, look_snoc, if_neg (by simp only; omega)]
        exact .inr (h.resolve_left hoff)
  · unfold St.play
    rw [if_neg (by omega), if_pos h0]
    exact h
  · unfold St.play
    rw [if_neg (by omega), if_neg (by omega), if_pos h0]
    simp only
    unfold St.sync
    split
    · exact h
    · rename_i hoff
      split
      · rename_i hf
        exact .inl ((fails_off s).1 hf)
      · have hf := s.fails_pd
        refine .inr ?_
        show look [] i (s.fails.2.flush.getD i []) = ds
        unfold St.flush
        rw [hf.1, hf.2.1, flush_look (n := s.n) _ _ hw.du (fun p hp => (hw.pd p hp).2) hi]
        exact h.resolve_left hoff
/-- kinkeep/kinkeeplaw15.DiskReads -/
theorem reads_big (z1 z2 : Int) (z : Int) (Ad : Option Addr) (cd : Nat) (ds : List UInt8) (A2 : Option Addr) (c2 : Nat) (os2 : List Op) (A : Option Addr) (c hi : Nat) (os : List Op) (w : World) (hops : OpsAt w hi A os) (hhi : hi ≤ w.heap.size) (hrd : Rd w 0 hi 1 Ad ds.length (bcells ds)) (hops2 : OpsAt w hi A2 os2) (h : ¬ (1 ≤ z1 ∧ z1 ≤ 8 ∧ 1 ≤ z2 ∧ z2 ≤ 8 ∧ os.length ≤ 40)) :
    Ret Try.prog 8 [.int .i64 z1, .int .i64 z2, .slice A os.length c, .int .i64 z, .slice Ad ds.length cd, .slice A2 os2.length c2] w fun v w' => v = .bool true ∧ Ext w w' := by
  have K0 : Ext w w := Keep.refl _ _
  refine ret_of Try.func8 rfl rfl ?_
  refine w_seq ?_
  refine w_region ?_
  refine sv rfl rfl rfl (ex_assign rfl rfl) ?_
  refine w_nil (qe_next ?_)
  refine w_seq ?_
  refine w_seq ?_
  refine w_region ?_
  refine st rfl rfl rfl (ex_call call11 rfl rfl (awake_c _)) ?_
  rintro _ w1 ⟨rfl, E9⟩
  replace K0 := K0.ext E9
  refine sv rfl rfl rfl (ex_not rfl rfl) ?_
  refine w_nil (qe_next ?_)
  refine w_cond_f rfl ?_
  refine w_skip (qe_next ?_)
  refine w_seq ?_
  refine w_seq ?_
  refine w_region ?_
  refine sv rfl rfl rfl (ex_move rfl rfl) ?_
  refine sv rfl rfl rfl (ex_move rfl rfl) ?_
  refine sv rfl rfl rfl (ex_move rfl rfl) ?_
  refine st rfl rfl rfl (ex_call call25 rfl rfl (small_f _ _ _ _ _ _ h)) ?_
  rintro _ w2 ⟨rfl, hwe⟩
  obtain rfl := hwe.symm
  refine sv rfl rfl rfl (ex_not rfl rfl) ?_
  refine sv rfl rfl rfl (ex_move rfl rfl) ?_
  first | refine sk rfl rfl rfl ?_ | refine sv rfl rfl rfl (ex_move rfl rfl) ?_
  first | refine sk rfl rfl rfl ?_ | refine sv rfl rfl rfl (ex_len Try.underlying44 rfl rfl) ?_
  refine sk rfl rfl rfl ?_
  first | refine sv rfl rfl rfl (ex_pick_t rfl rfl rfl) ?_ | refine sv rfl rfl rfl (ex_pick_f rfl rfl rfl) ?_
  refine w_nil (qe_next ?_)
  refine w_cond_t rfl ?_
  refine w_seq ?_
  refine w_region ?_
  refine sv rfl rfl rfl (ex_assign rfl rfl) ?_
  refine w_nil (qe_next ?_)
  refine w_ret (qe_then_ret (qe_ret1 rfl rfl ?_))
  exact ⟨rfl, K0⟩
/-- kinkeep/kinkeeplaw15.DiskReads -/
theorem reads_long (k n : Nat) (z : Int) (Ad : Option Addr) (cd : Nat) (ds : List UInt8) (A2 : Option Addr) (c2 : Nat) (os2 : List Op) (A : Option Addr) (c hi : Nat) (os : List Op) (w : World) (hops : OpsAt w hi A os) (hhi : hi ≤ w.heap.size) (hrd : Rd w 0 hi 1 Ad ds.length (bcells ds)) (hops2 : OpsAt w hi A2 os2) (k1 : 1 ≤ k) (k8 : k ≤ 8) (n1 : 1 ≤ n) (n8 : n ≤ 8) (h40 : os.length ≤ 40) (h20 : ¬ os2.length ≤ 20) :
    Ret Try.prog 8 [.int .i64 (k : Int), .int .i64 (n : Int), .slice A os.length c, .int .i64 z, .slice Ad ds.length cd, .slice A2 os2.length c2] w fun v w' => v = .bool true ∧ Ext w w' := by
  have K0 : Ext w w := Keep.refl _ _
  refine ret_of Try.func8 rfl rfl ?_
  refine w_seq ?_
  refine w_region ?_
  refine sv rfl rfl rfl (ex_assign rfl rfl) ?_
  refine w_nil (qe_next ?_)
  refine w_seq ?_
  refine w_seq ?_
  refine w_region ?_
  refine st rfl rfl rfl (ex_call call11 rfl rfl (awake_c _)) ?_
  rintro _ w1 ⟨rfl, E9⟩
  replace K0 := K0.ext E9
  refine sv rfl rfl rfl (ex_not rfl rfl) ?_
  refine w_nil (qe_next ?_)
  refine w_cond_f rfl ?_
  refine w_skip (qe_next ?_)
  refine w_seq ?_
  refine w_seq ?_
  refine w_region ?_
  refine sv rfl rfl rfl (ex_move rfl rfl) ?_
  refine sv rfl rfl rfl (ex_move rfl rfl) ?_
  refine sv rfl rfl rfl (ex_move rfl rfl) ?_
  refine st rfl rfl rfl (ex_call call25 rfl rfl (small_t _ _ _ _ _ _ ⟨by omega, by omega, by omega, by omega, h40⟩)) ?_
  rintro _ w2 ⟨rfl, hwe⟩
  obtain rfl := hwe.symm
  refine sv rfl rfl rfl (ex_not rfl rfl) ?_
  refine sv rfl rfl rfl (ex_move rfl rfl) ?_
  first | refine sk rfl rfl rfl ?_ | refine sv rfl rfl rfl (ex_move rfl rfl) ?_
  first | refine sk rfl rfl rfl ?_ | refine sv rfl rfl rfl (ex_len Try.underlying44 rfl rfl) ?_
  first | refine sk rfl rfl rfl ?_ | refine sv rfl rfl rfl (ex_cmp rfl rfl rfl (congrArg some (decide_eq_true (by omega)))) ?_
  first | refine sv rfl rfl rfl (ex_pick_t rfl rfl rfl) ?_ | refine sv rfl rfl rfl (ex_pick_f rfl rfl rfl) ?_
  refine w_nil (qe_next ?_)
  refine w_cond_t rfl ?_
  refine w_seq ?_
  refine w_region ?_
  refine sv rfl rfl rfl (ex_assign rfl rfl) ?_
  refine w_nil (qe_next ?_)
  refine w_ret (qe_then_ret (qe_ret1 rfl rfl ?_))
  exact ⟨rfl, K0⟩
/-- kinkeep/kinkeeplaw15.DiskReads -/
theorem reads_good (k n : Nat) (z : Int) (Ad : Option Addr) (cd : Nat) (ds : List UInt8) (A2 : Option Addr) (c2 : Nat) (os2 : List Op) (A : Option Addr) (c hi : Nat) (os : List Op) (w : World) (hops : OpsAt w hi A os) (hhi : hi ≤ w.heap.size) (hrd : Rd w 0 hi 1 Ad ds.length (bcells ds)) (hops2 : OpsAt w hi A2 os2) (k1 : 1 ≤ k) (k8 : k ≤ 8) (n1 : 1 ≤ n) (n8 : n ≤ 8) (h40 : os.length ≤ 40) (h20 : os2.length ≤ 20) :
    Ret Try.prog 8 [.int .i64 (k : Int), .int .i64 (n : Int), .slice A os.length c, .int .i64 z, .slice Ad ds.length cd, .slice A2 os2.length c2] w fun v w' => v = .bool true ∧ Ext w w' := by
  have K0 : Ext w w := Keep.refl _ _
  refine ret_of Try.func8 rfl rfl ?_
  refine w_seq ?_
  refine w_region ?_
  refine sv rfl rfl rfl (ex_assign rfl rfl) ?_
  refine w_nil (qe_next ?_)
  refine w_seq ?_
  refine w_seq ?_
  refine w_region ?_
  refine st rfl rfl rfl (ex_call call11 rfl rfl (awake_c _)) ?_
  rintro _ w1 ⟨rfl, E9⟩
  replace K0 := K0.ext E9
  refine sv rfl rfl rfl (ex_not rfl rfl) ?_
  refine w_nil (qe_next ?_)
  refine w_cond_f rfl ?_
  refine w_skip (qe_next ?_)
  refine w_seq ?_
  refine w_seq ?_
  refine w_region ?_
  refine sv rfl rfl rfl (ex_move rfl rfl) ?_
  refine sv rfl rfl rfl (ex_move rfl rfl) ?_
  refine sv rfl rfl rfl (ex_move rfl rfl) ?_
  refine st rfl rfl rfl (ex_call call25 rfl rfl (small_t _ _ _ _ _ _ ⟨by omega, by omega, by omega, by omega, h40⟩)) ?_
  rintro _ w2 ⟨rfl, hwe⟩
  obtain rfl := hwe.symm
  refine sv rfl rfl rfl (ex_not rfl rfl) ?_
  refine sv rfl rfl rfl (ex_move rfl rfl) ?_
  first | refine sk rfl rfl rfl ?_ | refine sv rfl rfl rfl (ex_move rfl rfl) ?_
  first | refine sk rfl rfl rfl ?_ | refine sv rfl rfl rfl (ex_len Try.underlying44 rfl rfl) ?_
  first | refine sk rfl rfl rfl ?_ | refine sv rfl rfl rfl (ex_cmp rfl rfl rfl (congrArg some (decide_eq_false (by omega)))) ?_
  first | refine sv rfl rfl rfl (ex_pick_t rfl rfl rfl) ?_ | refine sv rfl rfl rfl (ex_pick_f rfl rfl rfl) ?_
  refine w_nil (qe_next ?_)
  refine w_cond_f rfl ?_
  refine w_skip (qe_next ?_)
  refine w_seq ?_
  refine w_region ?_
  refine sv rfl rfl rfl (ex_move rfl rfl) ?_
  refine sv rfl rfl rfl (ex_move rfl rfl) ?_
  have hz0 := K0.size
  refine st rfl rfl rfl (ex_call call12 rfl rfl (new_c k n _ k1 (by omega) n1 (by omega))) ?_
  rintro _ w3 ⟨kd, F, rfl, hD, hFn, E1⟩
  replace K0 := K0.ext E1
  have hP := Playing.start hD hFn hz0 K0
  clear hD hFn K0
  refine sv rfl rfl rfl (ex_move rfl rfl) ?_
  refine sv rfl rfl rfl (ex_extract rfl rfl rfl) ?_
  refine sv rfl rfl rfl (ex_extract rfl rfl rfl) ?_
  refine sv rfl rfl rfl (ex_assign rfl rfl) ?_
  refine sv rfl rfl rfl (ex_assign rfl rfl) ?_
  refine w_nil (qe_next ?_)
  refine w_seq ?_
  refine w_seq ?_
  refine w_region ?_
  refine sv rfl rfl rfl (ex_assign rfl rfl) ?_
  refine w_nil (qe_next ?_)
  refine w_block ?_
  refine w_loop (ι := Nat) (fun i => [(0, .int .i64 (k : Int)), (1, .int .i64 (n : Int)), (2, .slice A os.length c), (3, .int .i64 z), (4, .slice Ad ds.length cd), (5, .slice A2 os2.length c2), (13, .pointer (some ⟨kd, 0, none⟩)), (15, .int .i64 (i : Int))]) (fun i wL => i ≤ os.length ∧ ∃ s F, Playing w wL kd n k (os.take i) s F) (fun i => os.length - i) (0) ⟨rfl, rfl, rfl, rfl, rfl, rfl, rfl, rfl, trivial⟩ ?_ ?_
  · exact ⟨Nat.zero_le _, _, F, hP⟩
  · clear hP
    rintro i wL ⟨hi1, s, F, hP⟩
    refine w_seq ?_
    refine w_seq ?_
    refine w_region ?_
    refine sv rfl rfl rfl (ex_move rfl rfl) ?_
    refine sv rfl rfl rfl (ex_move rfl rfl) ?_
    refine sv rfl rfl rfl (ex_len Try.underlying44 rfl rfl) ?_
    refine sv rfl rfl rfl (ex_cmp rfl rfl rfl rfl) ?_
    refine w_nil (qe_next ?_)
    refine w_if rfl (fun hi2 => ?_) (fun hi2 => ?_)
    · skip
      replace hi2 : i < os.length := by omega
      obtain ⟨o1, bo, off, hog, rfl, hok, hoc⟩ := (hops.ext hP.k).at_ hi2
      refine w_skip (qe_next ?_)
      refine w_seq ?_
      refine w_block ?_
      refine w_region ?_
      refine sv rfl rfl rfl (ex_move rfl rfl) ?_
      refine sv rfl rfl rfl (ex_move rfl rfl) ?_
      refine sv rfl rfl rfl (ex_move rfl rfl) ?_
      refine sv rfl rfl rfl (ex_indexN Try.underlying44 sz50 i rfl rfl rfl (by first | rfl | omega) (by omega)) ?_
      refine sv rfl rfl rfl (ex_load_agg (cs := o1.cells) agg50 rfl rfl (fun q u hu => hoc q u hu)) ?_
      refine st rfl rfl rfl (ex_call call26 rfl rfl (play_p hP o1 hok hhi (by rw [List.length_take]; omega))) ?_
      rintro _ w4 ⟨B9, d9, F9, rfl, hP9, _, _⟩
      refine w_nil (qe_in_normal (qe_next ?_))
      refine w_region ?_
      refine sv rfl rfl rfl (ex_move rfl rfl) ?_
      refine sv rfl rfl rfl (ex_add rfl rfl rfl (i64_in (by omega) (by omega))) ?_
      refine sv rfl rfl rfl (ex_assign rfl rfl) ?_
      refine w_nil (qe_round (i + 1) ⟨rfl, rfl, rfl, rfl, rfl, rfl, rfl, rfl, trivial⟩ ?_ ?_)
      · exact ⟨by omega, _, F9, by rw [take_snoc hog]; exact hP9⟩
      · omega
    · skip
      replace hi2 : i = os.length := by omega
      subst hi2
      rw [List.take_length] at hP
      refine w_exit (qe_then_exit (qe_then_exit (qe_in_exit (qe_next ?_))))
      refine w_seq ?_
      refine w_seq ?_
      have hd := hP.du
      have hsn := hP.sn
      have hD := hP.at_
      have hFn := hP.new
      have K0 := hP.k
      have hpl := hP.pl
      refine w_region ?_
      refine sv rfl rfl rfl (ex_move rfl rfl) ?_
      refine sv rfl rfl rfl (ex_move rfl rfl) ?_
      refine sv rfl rfl rfl (ex_move rfl rfl) ?_
      refine st rfl rfl rfl (ex_call call13 rfl rfl (write_e z (s.write z ds).1 Ad cd 0 hi ds (s.write z ds).2 F kd s _ hD (hrd.ext K0) (by omega) rfl)) ?_
      rintro _ w5 ⟨F2, rfl, hD2, hG2, _, K2⟩
      have hzS := K0.size
      replace K0 := K0.trans K2 (fun j hj _ hF => by have := hFn j hF; omega)
      have hFn2 : ∀ j, F2 j → w.heap.size ≤ j := fun j hj => (hG2 j hj).elim (hFn j) (fun h => by omega)
      refine sv rfl rfl rfl (ex_cmp rfl rfl rfl rfl) ?_
      refine w_nil (qe_next ?_)
      refine w_if rfl (fun he => ?_) (fun he => ?_)
      · skip
        refine w_seq ?_
        refine w_region ?_
        refine sv rfl rfl rfl (ex_assign rfl rfl) ?_
        refine w_nil (qe_next ?_)
        refine w_ret (qe_then_ret (qe_ret1 rfl rfl ?_))
        exact ⟨rfl, K0⟩
      · skip
        replace he : (s.write z ds).1 = 0 := by omega
        obtain ⟨i0, rfl, hi0, hlk⟩ := write_ok he
        have hwl := s.write_len (i0 : Int) ds
        obtain ⟨s2, hs2⟩ : ∃ s2, s2 = (s.write (i0 : Int) ds).2 := ⟨_, rfl⟩
        rw [← hs2] at hD2 hlk hwl
        have hdl2 : s2.du.length = k := by rw [hwl.2.2]; exact hd
        have hpl2 : s2.pd.length ≤ 41 + 0 := by omega
        clear hs2
        refine w_skip (qe_next ?_)
        refine w_seq ?_
        refine w_seq ?_
        refine w_region ?_
        refine sv rfl rfl rfl (ex_assign rfl rfl) ?_
        refine w_nil (qe_next ?_)
        refine w_block ?_
        refine w_loop (ι := Nat) (fun i => [(0, .int .i64 (k : Int)), (1, .int .i64 (n : Int)), (2, .slice A os.length c), (3, .int .i64 (i0 : Int)), (4, .slice Ad ds.length cd), (5, .slice A2 os2.length c2), (13, .pointer (some ⟨kd, 0, none⟩)), (16, .int .i64 (i : Int))]) (fun i wL => i ≤ os2.length ∧ ∃ s F, DiskAt wL F kd s ∧ (∀ j, F j → w.heap.size ≤ j) ∧ (s.off = true ∨ look s.pd i0 (s.du.getD i0 []) = ds) ∧ s.du.length = k ∧ s.pd.length ≤ 41 + i ∧ Ext w wL) (fun i => os2.length - i) (0) ⟨rfl, rfl, rfl, rfl, rfl, rfl, rfl, rfl, trivial⟩ ?_ ?_
        · exact ⟨Nat.zero_le _, s2, F2, hD2, hFn2, .inr hlk, hdl2, hpl2, K0⟩
        · clear hD2 hFn2 hG2 K2 hlk hdl2 hpl2 K0 hD hP hpl hFn
          rintro i wL ⟨hi1, s3, F3, hD3, hFn3, hlk, hdl3, hpl3, K0⟩
          refine w_seq ?_
          refine w_seq ?_
          refine w_region ?_
          refine sv rfl rfl rfl (ex_move rfl rfl) ?_
          refine sv rfl rfl rfl (ex_move rfl rfl) ?_
          refine sv rfl rfl rfl (ex_len Try.underlying44 rfl rfl) ?_
          refine sv rfl rfl rfl (ex_cmp rfl rfl rfl rfl) ?_
          refine w_nil (qe_next ?_)
          refine w_if rfl (fun hi2 => ?_) (fun hi2 => ?_)
          · skip
            replace hi2 : i < os2.length := by omega
            obtain ⟨o1, bo, off, hog, rfl, hok, hoc⟩ := (hops2.ext K0).at_ hi2
            refine w_skip (qe_next ?_)
            refine w_seq ?_
            refine w_block ?_
            refine w_seq ?_
            refine w_region ?_
            refine sv rfl rfl rfl (ex_move rfl rfl) ?_
            refine sv rfl rfl rfl (ex_move rfl rfl) ?_
            refine sv rfl rfl rfl (ex_indexN Try.underlying44 sz50 i rfl rfl rfl (by first | rfl | omega) (by omega)) ?_
            refine sv rfl rfl rfl (ex_fieldAddr fld50_0 rfl rfl) ?_
            refine sv rfl rfl rfl (ex_load one3 rfl rfl (hoc 0 _ rfl)) ?_
            refine sv_if rfl rfl rfl (ex_cmp rfl rfl rfl rfl) (fun e0 => ?_) (fun e0 => ?_)
            · skip
              refine sv rfl rfl rfl (ex_move rfl rfl) ?_
              first | refine sk rfl rfl rfl ?_ | refine sv rfl rfl rfl (ex_move rfl rfl) ?_
              first | refine sk rfl rfl rfl ?_ | refine sv rfl rfl rfl (ex_move rfl rfl) ?_
              first | refine sk rfl rfl rfl ?_ | refine sv rfl rfl rfl (ex_indexN Try.underlying44 sz50 i rfl rfl rfl (by first | rfl | omega) (by omega)) ?_
              first | refine sk rfl rfl rfl ?_ | refine sv rfl rfl rfl (ex_fieldAddr fld50_1 rfl rfl) ?_
              first | refine sk rfl rfl rfl ?_ | refine sv rfl rfl rfl (ex_load one3 rfl rfl (hoc 1 _ rfl)) ?_
              first | refine sk rfl rfl rfl ?_ | refine sv rfl rfl rfl (ex_move rfl rfl) ?_
              refine sv_if rfl rfl rfl (ex_cmp rfl rfl rfl rfl) (fun e1 => ?_) (fun e1 => ?_)
              · skip
                first | refine sv rfl rfl rfl (ex_pick_t rfl rfl rfl) ?_ | refine sv rfl rfl rfl (ex_pick_f rfl rfl rfl) ?_
                refine sv rfl rfl rfl (ex_move rfl rfl) ?_
                first | refine sk rfl rfl rfl ?_ | refine sv rfl rfl rfl (ex_move rfl rfl) ?_
                first | refine sk rfl rfl rfl ?_ | refine sv rfl rfl rfl (ex_move rfl rfl) ?_
                first | refine sk rfl rfl rfl ?_ | refine sv rfl rfl rfl (ex_indexN Try.underlying44 sz50 i rfl rfl rfl (by first | rfl | omega) (by omega)) ?_
                first | refine sk rfl rfl rfl ?_ | refine sv rfl rfl rfl (ex_fieldAddr fld50_0 rfl rfl) ?_
                first | refine sk rfl rfl rfl ?_ | refine sv rfl rfl rfl (ex_load one3 rfl rfl (hoc 0 _ rfl)) ?_
                refine sk rfl rfl rfl ?_
                first | refine sv rfl rfl rfl (ex_pick_t rfl rfl rfl) ?_ | refine sv rfl rfl rfl (ex_pick_f rfl rfl rfl) ?_
                refine sv rfl rfl rfl (ex_move rfl rfl) ?_
                first | refine sk rfl rfl rfl ?_ | refine sv rfl rfl rfl (ex_move rfl rfl) ?_
                first | refine sk rfl rfl rfl ?_ | refine sv rfl rfl rfl (ex_move rfl rfl) ?_
                first | refine sk rfl rfl rfl ?_ | refine sv rfl rfl rfl (ex_indexN Try.underlying44 sz50 i rfl rfl rfl (by first | rfl | omega) (by omega)) ?_
                first | refine sk rfl rfl rfl ?_ | refine sv rfl rfl rfl (ex_fieldAddr fld50_0 rfl rfl) ?_
                first | refine sk rfl rfl rfl ?_ | refine sv rfl rfl rfl (ex_load one3 rfl rfl (hoc 0 _ rfl)) ?_
                refine sk rfl rfl rfl ?_
                first | refine sv rfl rfl rfl (ex_pick_t rfl rfl rfl) ?_ | refine sv rfl rfl rfl (ex_pick_f rfl rfl rfl) ?_
                refine w_nil (qe_next ?_)
                refine w_cond_t rfl ?_
                refine w_region ?_
                refine sv rfl rfl rfl (ex_move rfl rfl) ?_
                refine sv rfl rfl rfl (ex_move rfl rfl) ?_
                refine sv rfl rfl rfl (ex_move rfl rfl) ?_
                refine sv rfl rfl rfl (ex_indexN Try.underlying44 sz50 i rfl rfl rfl (by first | rfl | omega) (by omega)) ?_
                refine sv rfl rfl rfl (ex_load_agg (cs := o1.cells) agg50 rfl rfl (fun q u hu => hoc q u hu)) ?_
                refine st rfl rfl rfl (ex_call call26 rfl rfl (play_c o1 hi F3 kd s3 _ hD3 hok (fun j hj => Nat.le_trans hhi (hFn3 j hj)) (by omega))) ?_
                rintro _ w6 ⟨B9, d9, F9, rfl, hD9, hG9, _, _, K9⟩
                refine w_nil (qe_in_normal (qe_next ?_))
                refine w_region ?_
                refine sv rfl rfl rfl (ex_move rfl rfl) ?_
                refine sv rfl rfl rfl (ex_add rfl rfl rfl (i64_in (by omega) (by omega))) ?_
                refine sv rfl rfl rfl (ex_assign rfl rfl) ?_
                refine w_nil (qe_round (i + 1) ⟨rfl, rfl, rfl, rfl, rfl, rfl, rfl, rfl, trivial⟩ ?_ ?_)
                · have hln := s3.play_len o1
                  exact ⟨by omega, _, F9, hD9, fun j hj => (hG9 j hj).elim (hFn3 j) (fun h => by have := K0.size; omega), rinv_play hD3.wf (by omega) hlk (by omega), by rw [hln.2.2 hD3.wf]; exact hdl3, by omega, K0.trans K9 (fun j hj _ hF => by have := hFn3 j hF; omega)⟩
                · omega
              · skip
                first | refine sv rfl rfl rfl (ex_pick_t rfl rfl rfl) ?_ | refine sv rfl rfl rfl (ex_pick_f rfl rfl rfl) ?_
                refine sv rfl rfl rfl (ex_move rfl rfl) ?_
                first | refine sk rfl rfl rfl ?_ | refine sv rfl rfl rfl (ex_move rfl rfl) ?_
                first | refine sk rfl rfl rfl ?_ | refine sv rfl rfl rfl (ex_move rfl rfl) ?_
                first | refine sk rfl rfl rfl ?_ | refine sv rfl rfl rfl (ex_indexN Try.underlying44 sz50 i rfl rfl rfl (by first | rfl | omega) (by omega)) ?_
                first | refine sk rfl rfl rfl ?_ | refine sv rfl rfl rfl (ex_fieldAddr fld50_0 rfl rfl) ?_
                first | refine sk rfl rfl rfl ?_ | refine sv rfl rfl rfl (ex_load one3 rfl rfl (hoc 0 _ rfl)) ?_
                first | refine sk rfl rfl rfl ?_ | refine sv rfl rfl rfl (ex_cmp rfl rfl rfl (congrArg some (decide_eq_false (by omega)))) ?_
                first | refine sv rfl rfl rfl (ex_pick_t rfl rfl rfl) ?_ | refine sv rfl rfl rfl (ex_pick_f rfl rfl rfl) ?_
                refine sv rfl rfl rfl (ex_move rfl rfl) ?_
                first | refine sk rfl rfl rfl ?_ | refine sv rfl rfl rfl (ex_move rfl rfl) ?_
                first | refine sk rfl rfl rfl ?_ | refine sv rfl rfl rfl (ex_move rfl rfl) ?_
                first | refine sk rfl rfl rfl ?_ | refine sv rfl rfl rfl (ex_indexN Try.underlying44 sz50 i rfl rfl rfl (by first | rfl | omega) (by omega)) ?_
                first | refine sk rfl rfl rfl ?_ | refine sv rfl rfl rfl (ex_fieldAddr fld50_0 rfl rfl) ?_
                first | refine sk rfl rfl rfl ?_ | refine sv rfl rfl rfl (ex_load one3 rfl rfl (hoc 0 _ rfl)) ?_
                first | refine sk rfl rfl rfl ?_ | refine sv rfl rfl rfl (ex_cmp rfl rfl rfl (congrArg some (decide_eq_false (by omega)))) ?_
                first | refine sv rfl rfl rfl (ex_pick_t rfl rfl rfl) ?_ | refine sv rfl rfl rfl (ex_pick_f rfl rfl rfl) ?_
                refine w_nil (qe_next ?_)
                refine w_cond_f rfl ?_
                refine w_skip (qe_in_normal (qe_next ?_))
                refine w_region ?_
                refine sv rfl rfl rfl (ex_move rfl rfl) ?_
                refine sv rfl rfl rfl (ex_add rfl rfl rfl (i64_in (by omega) (by omega))) ?_
                refine sv rfl rfl rfl (ex_assign rfl rfl) ?_
                refine w_nil (qe_round (i + 1) ⟨rfl, rfl, rfl, rfl, rfl, rfl, rfl, rfl, trivial⟩ ?_ ?_)
                · exact ⟨by omega, s3, F3, hD3, hFn3, hlk, hdl3, by omega, K0⟩
                · omega
            · skip
              refine sv rfl rfl rfl (ex_move rfl rfl) ?_
              first | refine sk rfl rfl rfl ?_ | refine sv rfl rfl rfl (ex_move rfl rfl) ?_
              first | refine sk rfl rfl rfl ?_ | refine sv rfl rfl rfl (ex_move rfl rfl) ?_
              first | refine sk rfl rfl rfl ?_ | refine sv rfl rfl rfl (ex_indexN Try.underlying44 sz50 i rfl rfl rfl (by first | rfl | omega) (by omega)) ?_
              first | refine sk rfl rfl rfl ?_ | refine sv rfl rfl rfl (ex_fieldAddr fld50_1 rfl rfl) ?_
              first | refine sk rfl rfl rfl ?_ | refine sv rfl rfl rfl (ex_load one3 rfl rfl (hoc 1 _ rfl)) ?_
              first | refine sk rfl rfl rfl ?_ | refine sv rfl rfl rfl (ex_move rfl rfl) ?_
              refine sk rfl rfl rfl ?_
              first | refine sv rfl rfl rfl (ex_pick_t rfl rfl rfl) ?_ | refine sv rfl rfl rfl (ex_pick_f rfl rfl rfl) ?_
              refine sv rfl rfl rfl (ex_move rfl rfl) ?_
              first | refine sk rfl rfl rfl ?_ | refine sv rfl rfl rfl (ex_move rfl rfl) ?_
              first | refine sk rfl rfl rfl ?_ | refine sv rfl rfl rfl (ex_move rfl rfl) ?_
              first | refine sk rfl rfl rfl ?_ | refine sv rfl rfl rfl (ex_indexN Try.underlying44 sz50 i rfl rfl rfl (by first | rfl | omega) (by omega)) ?_
              first | refine sk rfl rfl rfl ?_ | refine sv rfl rfl rfl (ex_fieldAddr fld50_0 rfl rfl) ?_
              first | refine sk rfl rfl rfl ?_ | refine sv rfl rfl rfl (ex_load one3 rfl rfl (hoc 0 _ rfl)) ?_
              refine sv_if rfl rfl rfl (ex_cmp rfl rfl rfl rfl) (fun e2 => ?_) (fun e2 => ?_)
              · skip
                first | refine sv rfl rfl rfl (ex_pick_t rfl rfl rfl) ?_ | refine sv rfl rfl rfl (ex_pick_f rfl rfl rfl) ?_
                refine sv rfl rfl rfl (ex_move rfl rfl) ?_
                first | refine sk rfl rfl rfl ?_ | refine sv rfl rfl rfl (ex_move rfl rfl) ?_
                first | refine sk rfl rfl rfl ?_ | refine sv rfl rfl rfl (ex_move rfl rfl) ?_
                first | refine sk rfl rfl rfl ?_ | refine sv rfl rfl rfl (ex_indexN Try.underlying44 sz50 i rfl rfl rfl (by first | rfl | omega) (by omega)) ?_
                first | refine sk rfl rfl rfl ?_ | refine sv rfl rfl rfl (ex_fieldAddr fld50_0 rfl rfl) ?_
                first | refine sk rfl rfl rfl ?_ | refine sv rfl rfl rfl (ex_load one3 rfl rfl (hoc 0 _ rfl)) ?_
                refine sk rfl rfl rfl ?_
                first | refine sv rfl rfl rfl (ex_pick_t rfl rfl rfl) ?_ | refine sv rfl rfl rfl (ex_pick_f rfl rfl rfl) ?_
                refine w_nil (qe_next ?_)
                refine w_cond_t rfl ?_
                refine w_region ?_
                refine sv rfl rfl rfl (ex_move rfl rfl) ?_
                refine sv rfl rfl rfl (ex_move rfl rfl) ?_
                refine sv rfl rfl rfl (ex_move rfl rfl) ?_
                refine sv rfl rfl rfl (ex_indexN Try.underlying44 sz50 i rfl rfl rfl (by first | rfl | omega) (by omega)) ?_
                refine sv rfl rfl rfl (ex_load_agg (cs := o1.cells) agg50 rfl rfl (fun q u hu => hoc q u hu)) ?_
                refine st rfl rfl rfl (ex_call call26 rfl rfl (play_c o1 hi F3 kd s3 _ hD3 hok (fun j hj => Nat.le_trans hhi (hFn3 j hj)) (by omega))) ?_
                rintro _ w7 ⟨B9, d9, F9, rfl, hD9, hG9, _, _, K9⟩
                refine w_nil (qe_in_normal (qe_next ?_))
                refine w_region ?_
                refine sv rfl rfl rfl (ex_move rfl rfl) ?_
                refine sv rfl rfl rfl (ex_add rfl rfl rfl (i64_in (by omega) (by omega))) ?_
                refine sv rfl rfl rfl (ex_assign rfl rfl) ?_
                refine w_nil (qe_round (i + 1) ⟨rfl, rfl, rfl, rfl, rfl, rfl, rfl, rfl, trivial⟩ ?_ ?_)
                · have hln := s3.play_len o1
                  exact ⟨by omega, _, F9, hD9, fun j hj => (hG9 j hj).elim (hFn3 j) (fun h => by have := K0.size; omega), rinv_play hD3.wf (by omega) hlk (by omega), by rw [hln.2.2 hD3.wf]; exact hdl3, by omega, K0.trans K9 (fun j hj _ hF => by have := hFn3 j hF; omega)⟩
                · omega
              · skip
                first | refine sv rfl rfl rfl (ex_pick_t rfl rfl rfl) ?_ | refine sv rfl rfl rfl (ex_pick_f rfl rfl rfl) ?_
                refine sv rfl rfl rfl (ex_move rfl rfl) ?_
                first | refine sk rfl rfl rfl ?_ | refine sv rfl rfl rfl (ex_move rfl rfl) ?_
                first | refine sk rfl rfl rfl ?_ | refine sv rfl rfl rfl (ex_move rfl rfl) ?_
                first | refine sk rfl rfl rfl ?_ | refine sv rfl rfl rfl (ex_indexN Try.underlying44 sz50 i rfl rfl rfl (by first | rfl | omega) (by omega)) ?_
                first | refine sk rfl rfl rfl ?_ | refine sv rfl rfl rfl (ex_fieldAddr fld50_0 rfl rfl) ?_
                first | refine sk rfl rfl rfl ?_ | refine sv rfl rfl rfl (ex_load one3 rfl rfl (hoc 0 _ rfl)) ?_
                refine sv_if rfl rfl rfl (ex_cmp rfl rfl rfl rfl) (fun e3 => ?_) (fun e3 => ?_)
                · skip
                  first | refine sv rfl rfl rfl (ex_pick_t rfl rfl rfl) ?_ | refine sv rfl rfl rfl (ex_pick_f rfl rfl rfl) ?_
                  refine w_nil (qe_next ?_)
                  refine w_cond_t rfl ?_
                  refine w_region ?_
                  refine sv rfl rfl rfl (ex_move rfl rfl) ?_
                  refine sv rfl rfl rfl (ex_move rfl rfl) ?_
                  refine sv rfl rfl rfl (ex_move rfl rfl) ?_
                  refine sv rfl rfl rfl (ex_indexN Try.underlying44 sz50 i rfl rfl rfl (by first | rfl | omega) (by omega)) ?_
                  refine sv rfl rfl rfl (ex_load_agg (cs := o1.cells) agg50 rfl rfl (fun q u hu => hoc q u hu)) ?_
                  refine st rfl rfl rfl (ex_call call26 rfl rfl (play_c o1 hi F3 kd s3 _ hD3 hok (fun j hj => Nat.le_trans hhi (hFn3 j hj)) (by omega))) ?_
                  rintro _ w8 ⟨B9, d9, F9, rfl, hD9, hG9, _, _, K9⟩
                  refine w_nil (qe_in_normal (qe_next ?_))
                  refine w_region ?_
                  refine sv rfl rfl rfl (ex_move rfl rfl) ?_
                  refine sv rfl rfl rfl (ex_add rfl rfl rfl (i64_in (by omega) (by omega))) ?_
                  refine sv rfl rfl rfl (ex_assign rfl rfl) ?_
                  refine w_nil (qe_round (i + 1) ⟨rfl, rfl, rfl, rfl, rfl, rfl, rfl, rfl, trivial⟩ ?_ ?_)
                  · have hln := s3.play_len o1
                    exact ⟨by omega, _, F9, hD9, fun j hj => (hG9 j hj).elim (hFn3 j) (fun h => by have := K0.size; omega), rinv_play hD3.wf (by omega) hlk (by omega), by rw [hln.2.2 hD3.wf]; exact hdl3, by omega, K0.trans K9 (fun j hj _ hF => by have := hFn3 j hF; omega)⟩
                  · omega
                · skip
                  first | refine sv rfl rfl rfl (ex_pick_t rfl rfl rfl) ?_ | refine sv rfl rfl rfl (ex_pick_f rfl rfl rfl) ?_
                  refine w_nil (qe_next ?_)
                  refine w_cond_f rfl ?_
                  refine w_skip (qe_in_normal (qe_next ?_))
                  refine w_region ?_
                  refine sv rfl rfl rfl (ex_move rfl rfl) ?_
                  refine sv rfl rfl rfl (ex_add rfl rfl rfl (i64_in (by omega) (by omega))) ?_
                  refine sv rfl rfl rfl (ex_assign rfl rfl) ?_
                  refine w_nil (qe_round (i + 1) ⟨rfl, rfl, rfl, rfl, rfl, rfl, rfl, rfl, trivial⟩ ?_ ?_)
                  · exact ⟨by omega, s3, F3, hD3, hFn3, hlk, hdl3, by omega, K0⟩
                  · omega
          · skip
            refine w_exit (qe_then_exit (qe_then_exit (qe_in_exit (qe_next ?_))))
            refine w_seq ?_
            refine w_region ?_
            refine sv rfl rfl rfl (ex_move rfl rfl) ?_
            refine sv rfl rfl rfl (ex_move rfl rfl) ?_
            refine st rfl rfl rfl (ex_call call14 rfl rfl (read_e (i0 : Int) (s3.read (i0 : Int)).2 (s3.read (i0 : Int)).1 F3 kd s3 _ hD3 (by omega) rfl)) ?_
            rintro _ w9 ⟨B, d, rfl, hB, E4⟩
            replace hD3 := hD3.ext E4
            replace K0 := K0.ext E4
            refine sv rfl rfl rfl (ex_move rfl rfl) ?_
            refine sv rfl rfl rfl (ex_extract rfl rfl rfl) ?_
            refine sv rfl rfl rfl (ex_extract rfl rfl rfl) ?_
            refine sv rfl rfl rfl (ex_assign rfl rfl) ?_
            refine sv rfl rfl rfl (ex_assign rfl rfl) ?_
            refine w_nil (qe_next ?_)
            refine w_seq ?_
            refine w_seq ?_
            refine w_region ?_
            refine sv rfl rfl rfl (ex_move rfl rfl) ?_
            refine st rfl rfl rfl (ex_call call21 rfl rfl (down_c F3 kd s3 _ hD3)) ?_
            rintro _ w10 ⟨rfl, hwe⟩
            obtain rfl := hwe.symm
            refine w_nil (qe_next ?_)
            refine w_cond rfl (fun hoff => ?_) (fun hoff => ?_)
            · skip
              refine w_seq ?_
              refine w_region ?_
              refine sv rfl rfl rfl (ex_move rfl rfl) ?_
              refine sv rfl rfl rfl (ex_cmp rfl rfl rfl (congrArg some (decide_eq_true (by rw [read_off hoff])))) ?_
              refine sv rfl rfl rfl (ex_move rfl rfl) ?_
              first | refine sk rfl rfl rfl ?_ | refine sv rfl rfl rfl (ex_move rfl rfl) ?_
              first | refine sk rfl rfl rfl ?_ | refine sv rfl rfl rfl (ex_len Try.underlying22 rfl rfl) ?_
              first | refine sk rfl rfl rfl ?_ | refine sv rfl rfl rfl (ex_cmp rfl rfl rfl (congrArg some (decide_eq_true (by rw [read_off hoff]; rfl)))) ?_
              first | refine sv rfl rfl rfl (ex_pick_t rfl rfl rfl) ?_ | refine sv rfl rfl rfl (ex_pick_f rfl rfl rfl) ?_
              refine sv rfl rfl rfl (ex_assign rfl rfl) ?_
              refine w_nil (qe_next ?_)
              refine w_ret (qe_then_ret (qe_ret1 rfl rfl ?_))
              exact ⟨rfl, K0⟩
            · skip
              refine w_skip (qe_next ?_)
              refine w_seq ?_
              refine w_region ?_
              refine sv rfl rfl rfl (ex_move rfl rfl) ?_
              refine sv rfl rfl rfl (ex_cmp rfl rfl rfl (congrArg some (decide_eq_true (by rw [read_on hoff (by omega)])))) ?_
              refine sv rfl rfl rfl (ex_move rfl rfl) ?_
              first | refine sk rfl rfl rfl ?_ | refine sv rfl rfl rfl (ex_move rfl rfl) ?_
              first | refine sk rfl rfl rfl ?_ | refine sv rfl rfl rfl (ex_move rfl rfl) ?_
              refine st rfl rfl rfl (ex_call call15 rfl rfl (same_te _ _ _ _ _ _ _ _ _ _ _ ds _ rfl rfl hB.rd (hrd.ext K0) (by rw [read_on hoff (by omega)]; exact hlk.resolve_left (by rw [hoff]; simp)))) ?_
              rintro _ w11 ⟨rfl, E5⟩
              replace K0 := K0.ext E5
              first | refine sv rfl rfl rfl (ex_pick_t rfl rfl rfl) ?_ | refine sv rfl rfl rfl (ex_pick_f rfl rfl rfl) ?_
              refine sv rfl rfl rfl (ex_assign rfl rfl) ?_
              refine w_nil (qe_next ?_)
              refine w_ret (qe_ret1 rfl rfl ?_)
              exact ⟨rfl, K0⟩
theorem reads_law (z1 z2 z : Int) (Ad : Option Addr) (cd : Nat) (ds : List UInt8) (A2 : Option Addr) (c2 : Nat) (os2 : List Op) (A : Option Addr) (c hi : Nat) (os : List Op) (w : World) (hops : OpsAt w hi A os) (hhi : hi ≤ w.heap.size) (hrd : Rd w 0 hi 1 Ad ds.length (bcells ds)) (hops2 : OpsAt w hi A2 os2) : Ret Try.prog 8 [.int .i64 z1, .int .i64 z2, .slice A os.length c, .int .i64 z, .slice Ad ds.length cd, .slice A2 os2.length c2] w fun v w' => v = .bool true ∧ Ext w w' := by
  by_cases h : 1 ≤ z1 ∧ z1 ≤ 8 ∧ 1 ≤ z2 ∧ z2 ≤ 8 ∧ os.length ≤ 40
  · obtain ⟨k, rfl⟩ : ∃ k : Nat, z1 = (k : Int) := ⟨z1.toNat, by omega⟩
    obtain ⟨n, rfl⟩ : ∃ n : Nat, z2 = (n : Int) := ⟨z2.toNat, by omega⟩
    by_cases h20 : os2.length ≤ 20
    · exact reads_good k n z Ad cd ds A2 c2 os2 A c hi os w hops hhi hrd hops2 (by omega) (by omega) (by omega) (by omega) (by omega) h20
    · exact reads_long k n z Ad cd ds A2 c2 os2 A c hi os w hops hhi hrd hops2 (by omega) (by omega) (by omega) (by omega) (by omega) h20
  · exact reads_big z1 z2 z Ad cd ds A2 c2 os2 A c hi os w hops hhi hrd hops2 h
end Go.Proofs.Ytcgcklfbnmaodaa

/- The law DiskKeeps, walked. -/
import Derived.Test.YtcgcklfbnmaodaaD14
namespace Go.Proofs.Ytcgcklfbnmaodaa
open Go Go.RowKit
set_option linter.unusedVariables false
set_option linter.unusedSimpArgs false
theorem sync_down {s : St} (h : s.sync.1 ≠ 0) : s.sync.2.off = true := by
  unfold St.sync at h ⊢
  split
  · assumption
  · split
    · rename_i h1 h2
      unfold St.fails at h2 ⊢
      split
      · rfl
      · rename_i h3
        rw [if_neg h3] at h2
        split at h2 <;> cases h2
    · rename_i h1 h2
      rw [if_neg h1, if_neg h2] at h
      exact absurd rfl h
theorem sync_up {s : St} (h : s.sync.1 = 0) : s.sync.2.off = false ∧ s.sync.2.pd = [] ∧ s.sync.2.du = s.flush := by
  have hf := s.fails_pd
  unfold St.sync at h ⊢
  split
  · rename_i h1; rw [if_pos h1] at h; cases h
  · split
    · rename_i h1 h2; rw [if_neg h1, if_pos h2] at h; cases h
    · rename_i h1 h2
      refine ⟨?_, rfl, ?_⟩
      · unfold St.fails at h2 ⊢
        split
        · rename_i h3; rw [if_pos h3] at h2; exact absurd rfl h2
        · split <;> simpa using h1
      · show s.fails.2.flush = _
        unfold St.flush
        rw [hf.1, hf.2.1]
theorem read_none {s : St} (h1 : s.off = false) (h2 : s.pd = []) {i : Nat} (hi : i < s.du.length) : s.read (i : Int) = (s.du.getD i [], 0) := by
  unfold St.read
  rw [if_neg (by rw [h1]; simp), if_neg (fun h => h ⟨by omega, by omega⟩), h2]
  rfl
theorem build_bs1 (B : Option Addr) (m d : Nat) (w : World) : (Instr.buildSlice 33 1 [(0, Value.slice B m d)].toArray).run Try.prog w = .ok (.slice (some ⟨w.heap.size, 0, none⟩) 1 1) (w.alloc (.cells [Value.slice B m d].toArray 22)) := by kernel_rfl
theorem build_none2 (w : World) : (Instr.buildSlice 33 0 ([] : List (Nat × Value)).toArray).run Try.prog w = .ok (.slice (some ⟨w.heap.size, 0, none⟩) 0 0) (w.alloc (.cells ([] : List Value).toArray 22)) := by kernel_rfl
/-- kinkeep/kinkeeplaw15.DiskKeeps -/
theorem keeps_big (z1 z2 : Int) (z : Int) (Ak : Option Addr) (ck : Nat) (kb : List Bool) (A : Option Addr) (c hi : Nat) (os : List Op) (w : World) (hops : OpsAt w hi A os) (hhi : hi ≤ w.heap.size) (hrk : Rd w 0 hi 1 Ak kb.length (kb.map Value.bool)) (hkq : kb.length ≤ 9223372036854775807) (h : ¬ (1 ≤ z1 ∧ z1 ≤ 8 ∧ 1 ≤ z2 ∧ z2 ≤ 8 ∧ os.length ≤ 40)) :
    Ret Try.prog 9 [.int .i64 z1, .int .i64 z2, .slice A os.length c, .slice Ak kb.length ck, .int .i64 z] w fun v w' => v = .bool true ∧ Ext w w' := by
  have K0 : Ext w w := Keep.refl _ _
  refine ret_of Try.func9 rfl rfl ?_
  refine w_seq ?_
  refine w_region ?_
  refine sv rfl rfl rfl (ex_assign rfl rfl) ?_
  refine w_nil (qe_next ?_)
  refine w_seq ?_
  refine w_seq ?_
  refine w_region ?_
  refine st rfl rfl rfl (ex_call call11 rfl rfl (awake_c _)) ?_
  rintro _ w1 ⟨rfl, E9⟩
  replace K0 := K0.ext E9
  refine sv rfl rfl rfl (ex_not rfl rfl) ?_
  refine w_nil (qe_next ?_)
  refine w_cond_f rfl ?_
  refine w_skip (qe_next ?_)
  refine w_seq ?_
  refine w_seq ?_
  refine w_region ?_
  refine sv rfl rfl rfl (ex_move rfl rfl) ?_
  refine sv rfl rfl rfl (ex_move rfl rfl) ?_
  refine sv rfl rfl rfl (ex_move rfl rfl) ?_
  refine st rfl rfl rfl (ex_call call25 rfl rfl (small_f _ _ _ _ _ _ h)) ?_
  rintro _ w2 ⟨rfl, hwe⟩
  obtain rfl := hwe.symm
  refine sv rfl rfl rfl (ex_not rfl rfl) ?_
  refine w_nil (qe_next ?_)
  refine w_cond_t rfl ?_
  refine w_seq ?_
  refine w_region ?_
  refine sv rfl rfl rfl (ex_assign rfl rfl) ?_
  refine w_nil (qe_next ?_)
  refine w_ret (qe_then_ret (qe_ret1 rfl rfl ?_))
  exact ⟨rfl, K0⟩
/-- kinkeep/kinkeeplaw15.DiskKeeps -/
theorem keeps_good (k n : Nat) (z : Int) (Ak : Option Addr) (ck : Nat) (kb : List Bool) (A : Option Addr) (c hi : Nat) (os : List Op) (w : World) (hops : OpsAt w hi A os) (hhi : hi ≤ w.heap.size) (hrk : Rd w 0 hi 1 Ak kb.length (kb.map Value.bool)) (hkq : kb.length ≤ 9223372036854775807) (k1 : 1 ≤ k) (k8 : k ≤ 8) (n1 : 1 ≤ n) (n8 : n ≤ 8) (h40 : os.length ≤ 40) :
    Ret Try.prog 9 [.int .i64 (k : Int), .int .i64 (n : Int), .slice A os.length c, .slice Ak kb.length ck, .int .i64 z] w fun v w' => v = .bool true ∧ Ext w w' := by
  have K0 : Ext w w := Keep.refl _ _
  refine ret_of Try.func9 rfl rfl ?_
  refine w_seq ?_
  refine w_region ?_
  refine sv rfl rfl rfl (ex_assign rfl rfl) ?_
  refine w_nil (qe_next ?_)
  refine w_seq ?_
  refine w_seq ?_
  refine w_region ?_
  refine st rfl rfl rfl (ex_call call11 rfl rfl (awake_c _)) ?_
  rintro _ w1 ⟨rfl, E9⟩
  replace K0 := K0.ext E9
  refine sv rfl rfl rfl (ex_not rfl rfl) ?_
  refine w_nil (qe_next ?_)
  refine w_cond_f rfl ?_
  refine w_skip (qe_next ?_)
  refine w_seq ?_
  refine w_seq ?_
  refine w_region ?_
  refine sv rfl rfl rfl (ex_move rfl rfl) ?_
  refine sv rfl rfl rfl (ex_move rfl rfl) ?_
  refine sv rfl rfl rfl (ex_move rfl rfl) ?_
  refine st rfl rfl rfl (ex_call call25 rfl rfl (small_t _ _ _ _ _ _ ⟨by omega, by omega, by omega, by omega, h40⟩)) ?_
  rintro _ w2 ⟨rfl, hwe⟩
  obtain rfl := hwe.symm
  refine sv rfl rfl rfl (ex_not rfl rfl) ?_
  refine w_nil (qe_next ?_)
  refine w_cond_f rfl ?_
  refine w_skip (qe_next ?_)
  refine w_seq ?_
  refine w_region ?_
  refine sv rfl rfl rfl (ex_move rfl rfl) ?_
  refine sv rfl rfl rfl (ex_move rfl rfl) ?_
  have hz0 := K0.size
  refine st rfl rfl rfl (ex_call call12 rfl rfl (new_c k n _ k1 (by omega) n1 (by omega))) ?_
  rintro _ w3 ⟨kd, F, rfl, hD, hFn, E1⟩
  replace K0 := K0.ext E1
  have hP := Playing.start hD hFn hz0 K0
  clear hD hFn K0
  refine sv rfl rfl rfl (ex_move rfl rfl) ?_
  refine sv rfl rfl rfl (ex_extract rfl rfl rfl) ?_
  refine sv rfl rfl rfl (ex_extract rfl rfl rfl) ?_
  refine sv rfl rfl rfl (ex_assign rfl rfl) ?_
  refine sv rfl rfl rfl (ex_assign rfl rfl) ?_
  refine w_nil (qe_next ?_)
  refine w_seq ?_
  refine w_seq ?_
  refine w_region ?_
  refine sv rfl rfl rfl (ex_assign rfl rfl) ?_
  refine w_nil (qe_next ?_)
  refine w_block ?_
  refine w_loop (ι := Nat) (fun i => [(0, .int .i64 (k : Int)), (1, .int .i64 (n : Int)), (2, .slice A os.length c), (3, .slice Ak kb.length ck), (4, .int .i64 z), (11, .pointer (some ⟨kd, 0, none⟩)), (13, .int .i64 (i : Int))]) (fun i wL => i ≤ os.length ∧ ∃ s F, Playing w wL kd n k (os.take i) s F) (fun i => os.length - i) (0) ⟨rfl, rfl, rfl, rfl, rfl, rfl, rfl, trivial⟩ ?_ ?_
  · exact ⟨Nat.zero_le _, _, F, hP⟩
  · clear hP
    rintro i wL ⟨hi1, s, F, hP⟩
    refine w_seq ?_
    refine w_seq ?_
    refine w_region ?_
    refine sv rfl rfl rfl (ex_move rfl rfl) ?_
    refine sv rfl rfl rfl (ex_move rfl rfl) ?_
    refine sv rfl rfl rfl (ex_len Try.underlying44 rfl rfl) ?_
    refine sv rfl rfl rfl (ex_cmp rfl rfl rfl rfl) ?_
    refine w_nil (qe_next ?_)
    refine w_if rfl (fun hi2 => ?_) (fun hi2 => ?_)
    · skip
      replace hi2 : i < os.length := by omega
      obtain ⟨o1, bo, off, hog, rfl, hok, hoc⟩ := (hops.ext hP.k).at_ hi2
      refine w_skip (qe_next ?_)
      refine w_seq ?_
      refine w_block ?_
      refine w_region ?_
      refine sv rfl rfl rfl (ex_move rfl rfl) ?_
      refine sv rfl rfl rfl (ex_move rfl rfl) ?_
      refine sv rfl rfl rfl (ex_move rfl rfl) ?_
      refine sv rfl rfl rfl (ex_indexN Try.underlying44 sz50 i rfl rfl rfl (by first | rfl | omega) (by omega)) ?_
      refine sv rfl rfl rfl (ex_load_agg (cs := o1.cells) agg50 rfl rfl (fun q u hu => hoc q u hu)) ?_
      refine st rfl rfl rfl (ex_call call26 rfl rfl (play_p hP o1 hok hhi (by rw [List.length_take]; omega))) ?_
      rintro _ w4 ⟨B9, d9, F9, rfl, hP9, _, _⟩
      refine w_nil (qe_in_normal (qe_next ?_))
      refine w_region ?_
      refine sv rfl rfl rfl (ex_move rfl rfl) ?_
      refine sv rfl rfl rfl (ex_add rfl rfl rfl (i64_in (by omega) (by omega))) ?_
      refine sv rfl rfl rfl (ex_assign rfl rfl) ?_
      refine w_nil (qe_round (i + 1) ⟨rfl, rfl, rfl, rfl, rfl, rfl, rfl, trivial⟩ ?_ ?_)
      · exact ⟨by omega, _, F9, by rw [take_snoc hog]; exact hP9⟩
      · omega
    · skip
      replace hi2 : i = os.length := by omega
      subst hi2
      rw [List.take_length] at hP
      refine w_exit (qe_then_exit (qe_then_exit (qe_in_exit (qe_next ?_))))
      refine w_seq ?_
      refine w_seq ?_
      have hd := hP.du
      have hsn := hP.sn
      have hD := hP.at_
      have hFn := hP.new
      have K0 := hP.k
      have hpl := hP.pl
      refine w_region ?_
      refine sv rfl rfl rfl (ex_move rfl rfl) ?_
      refine st rfl rfl rfl (ex_call call16 rfl rfl (sync_e s.sync.1 s.sync.2 F kd s _ hD (by omega) rfl)) ?_
      rintro _ w5 ⟨F2, rfl, hD2, hG2, _, K2⟩
      have hzS := K0.size
      replace K0 := K0.trans K2 (fun j hj _ hF => by have := hFn j hF; omega)
      have hFn2 : ∀ j, F2 j → w.heap.size ≤ j := fun j hj => (hG2 j hj).elim (hFn j) (fun h => by omega)
      have hFl2 := hD2.lt
      refine sv rfl rfl rfl (ex_cmp rfl rfl rfl rfl) ?_
      refine w_nil (qe_next ?_)
      refine w_if rfl (fun he => ?_) (fun he => ?_)
      · skip
        refine w_seq ?_
        refine w_region ?_
        refine sv rfl rfl rfl (ex_move rfl rfl) ?_
        refine st rfl rfl rfl (ex_call call21 rfl rfl (down_c F2 kd _ _ hD2)) ?_
        rintro _ w6 ⟨rfl, hwe⟩
        obtain rfl := hwe.symm
        refine sv rfl rfl rfl (ex_assign rfl rfl) ?_
        refine w_nil (qe_next ?_)
        refine w_ret (qe_then_ret (qe_ret1 rfl rfl ?_))
        exact ⟨by rw [sync_down he], K0⟩
      · skip
        replace he : s.sync.1 = 0 := by omega
        obtain ⟨s2, hs2⟩ : ∃ s2, s2 = s.sync.2 := ⟨_, rfl⟩
        obtain ⟨hoff, hpd, _⟩ := sync_up he
        have hdl2 := s.sync_len.2.2 hD.wf
        rw [← hs2] at hD2 hoff hpd hdl2
        have hwd := hD2.wf.du
        clear hs2
        refine w_skip (qe_next ?_)
        refine w_seq ?_
        refine w_region ?_
        have hzG := K0.size
        refine st rfl rfl rfl (ex_buildSlice (cs := []) rfl rfl build_none2) ?_
        rintro _ w7 ⟨g0, rfl, hg0, E3, hb0, hs0⟩
        have hG := Own.of_blk (lo := g0) (n := 0) (c := 0) (size := 1) hb0 (Nat.le_refl _) (by omega) (by decide) (by simp)
        replace hD2 := hD2.ext E3
        replace K0 := K0.ext E3
        have hFg : ∀ j, F2 j → j < g0 := fun j hj => by have := hFl2 j hj; omega
        have hwg : w.heap.size ≤ g0 := by omega
        have hgl := hb0.lt
        replace hG : Own _ g0 22 1 (some ⟨g0, 0, none⟩) 0 0 (([] : List Sl).map slv) := hG
        have hso : ∀ w : World, Owns w g0 [] (s2.du.take 0) := fun w => by rw [List.take_zero]; trivial
        refine sv rfl rfl rfl (ex_assign rfl rfl) ?_
        refine w_nil (qe_next ?_)
        refine w_seq ?_
        refine w_seq ?_
        refine w_region ?_
        refine sv rfl rfl rfl (ex_assign rfl rfl) ?_
        refine w_nil (qe_next ?_)
        refine w_block ?_
        refine w_loop (ι := Nat × (Option Addr × Nat)) (fun i => [(0, .int .i64 (k : Int)), (1, .int .i64 (n : Int)), (2, .slice A os.length c), (3, .slice Ak kb.length ck), (4, .int .i64 z), (11, .pointer (some ⟨kd, 0, none⟩)), (14, .slice i.2.1 i.1 i.2.2), (15, .int .i64 (i.1 : Int))]) (fun i wL => i.1 ≤ k ∧ (∃ sl : List Sl, Own wL g0 22 1 i.2.1 i.1 i.2.2 (sl.map slv) ∧ Owns wL g0 sl (s2.du.take i.1)) ∧ DiskAt wL F2 kd s2 ∧ g0 < wL.heap.size ∧ Ext w wL) (fun i => k - i.1) ((0, some ⟨g0, 0, none⟩, 0)) ⟨rfl, rfl, rfl, rfl, rfl, rfl, rfl, rfl, trivial⟩ ?_ ?_
        · exact ⟨Nat.zero_le _, ⟨[], hG, hso _⟩, hD2, hgl, K0⟩
        · clear hG hso hD2 hgl K0
          rintro ⟨i, G, cG⟩ wL ⟨hi1, ⟨sl, hG, hso⟩, hD2, hgl, K0⟩
          simp only at hi1 hG hso
          refine w_seq ?_
          refine w_seq ?_
          refine w_region ?_
          refine sv rfl rfl rfl (ex_move rfl rfl) ?_
          refine sv rfl rfl rfl (ex_move rfl rfl) ?_
          refine sv rfl rfl rfl (ex_cmp rfl rfl rfl rfl) ?_
          refine w_nil (qe_next ?_)
          refine w_if rfl (fun hi2 => ?_) (fun hi2 => ?_)
          · skip
            replace hi2 : i < k := by first | omega | (simp only at hi2; omega)
            have hi3 : i < s2.du.length := by omega
            refine w_skip (qe_next ?_)
            refine w_seq ?_
            refine w_block ?_
            refine w_seq ?_
            refine w_region ?_
            refine sv rfl rfl rfl (ex_move rfl rfl) ?_
            refine sv rfl rfl rfl (ex_move rfl rfl) ?_
            have hzR := hgl
            refine st rfl rfl rfl (ex_call call14 rfl rfl (read_e (i : Int) 0 (s2.du.getD i []) F2 kd s2 _ hD2 (by rw [hpd]; simp) (read_none hoff hpd hi3))) ?_
            rintro _ w8 ⟨B, d, rfl, hB, E4⟩
            replace hG := hG.ext E4
            replace hso := hso.ext E4
            replace hD2 := hD2.ext E4
            replace K0 := K0.ext E4
            replace hB := hB.lower (Nat.le_of_lt hgl)
            replace hgl := Nat.lt_of_lt_of_le hgl E4.size
            refine sv rfl rfl rfl (ex_move rfl rfl) ?_
            refine sv rfl rfl rfl (ex_extract rfl rfl rfl) ?_
            refine sv rfl rfl rfl (ex_extract rfl rfl rfl) ?_
            refine sv rfl rfl rfl (ex_assign rfl rfl) ?_
            refine sv rfl rfl rfl (ex_assign rfl rfl) ?_
            refine w_nil (qe_next ?_)
            refine w_seq ?_
            refine w_seq ?_
            refine w_region ?_
            refine sv rfl rfl rfl (ex_move rfl rfl) ?_
            refine sv rfl rfl rfl (ex_cmp rfl rfl rfl (congrArg some (decide_eq_false (not_not_intro rfl)))) ?_
            refine w_nil (qe_next ?_)
            refine w_cond_f rfl ?_
            refine w_skip (qe_next ?_)
            refine w_region ?_
            refine sv rfl rfl rfl (ex_move rfl rfl) ?_
            refine sv rfl rfl rfl (ex_move rfl rfl) ?_
            refine st rfl rfl rfl (ex_buildSlice (cs := [.slice B (s2.du.getD i []).length d]) rfl rfl (build_bs1 B _ d)) ?_
            rintro _ w9 ⟨g1, rfl, hg1, E5, hb5, hs5⟩
            replace hG := hG.ext E5
            replace hso := hso.ext E5
            replace hD2 := hD2.ext E5
            replace K0 := K0.ext E5
            replace hB := hB.ext E5
            replace hgl := Nat.lt_of_lt_of_le hgl E5.size
            refine st rfl rfl rfl (ex_append Try.underlying33 z22.1 rfl (by decide) rfl rfl rfl hG (Rd.of_blk (size := 1) hb5 rfl) (by intro u hu; simp at hu; subst hu; rfl) (by omega) (by omega) (by omega)) ?_
            rintro _ w10 ⟨G2, c2, rfl, hG2, K3, hG3⟩
            replace hso := hso.keepB K3 (fun g2 cs _ hg2 o e => hG.ne_blk hg2 (by decide) g2 o e rfl)
            replace hB := hB.keepT K3 (fun g2 cs _ hg2 o e => hG.ne_blk hg2 (by decide) g2 o e rfl)
            replace hD2 := hD2.keep K3 (fun j hj o e => by have := (hG.lt e).1; have := hFg j hj; omega)
            replace K0 := K0.trans K3 (fun j hj _ o e => by have := (hG.lt e).1; omega)
            have hz3 := K3.size
            refine sv rfl rfl rfl (ex_assign rfl rfl) ?_
            refine w_nil (qe_in_normal (qe_next ?_))
            refine w_region ?_
            refine sv rfl rfl rfl (ex_move rfl rfl) ?_
            refine sv rfl rfl rfl (ex_add rfl rfl rfl (i64_in (by omega) (by omega))) ?_
            refine sv rfl rfl rfl (ex_assign rfl rfl) ?_
            refine w_nil (qe_round ((i + 1, G2, c2)) ⟨rfl, rfl, rfl, rfl, rfl, rfl, rfl, rfl, trivial⟩ ?_ ?_)
            · exact ⟨by simp only; omega, ⟨sl ++ [(B, (s2.du.getD i []).length, d)], by rw [List.map_append]; exact hG2, by rw [show s2.du.take (i + 1) = s2.du.take i ++ [s2.du.getD i []] from by rw [List.take_add_one, List.getD_eq_getElem?_getD, List.getElem?_eq_getElem hi3]; rfl]; exact hso.snoc rfl hB⟩, hD2, by omega, K0⟩
            · simp only; omega
          · skip
            replace hi2 : i = k := by first | omega | (simp only at hi2; omega)
            subst hi2
            rw [List.take_of_length_le (by omega)] at hso
            refine w_exit (qe_then_exit (qe_then_exit (qe_in_exit (qe_next ?_))))
            refine w_seq ?_
            refine w_seq ?_
            refine w_region ?_
            refine sv rfl rfl rfl (ex_move rfl rfl) ?_
            refine sv rfl rfl rfl (ex_move rfl rfl) ?_
            refine st rfl rfl rfl (ex_call call17 rfl rfl (image_c F2 kd s2 _ hD2)) ?_
            rintro _ w11 ⟨gi, sl2, rfl, hi4, hso2, E6⟩
            replace hG := hG.ext E6
            replace hso := hso.ext E6
            replace hD2 := hD2.ext E6
            replace K0 := K0.ext E6
            refine st rfl rfl rfl (ex_call call23 rfl rfl (sameAll_c _ _ _ _ _ _ _ _ _ _ sl sl2 s2.du _ (by rw [hso.length]; omega) hso2.length.symm (by omega) hG.rd hi4.rd hso.rds hso2.rds)) ?_
            rintro _ w12 ⟨rfl, E7⟩
            replace hG := hG.ext E7
            replace hso := hso.ext E7
            replace hD2 := hD2.ext E7
            replace K0 := K0.ext E7
            refine sv rfl rfl rfl (ex_not rfl rfl) ?_
            refine w_nil (qe_next ?_)
            refine w_cond_f rfl ?_
            refine w_skip (qe_next ?_)
            refine w_seq ?_
            refine w_region ?_
            refine sv rfl rfl rfl (ex_move rfl rfl) ?_
            refine sv rfl rfl rfl (ex_move rfl rfl) ?_
            refine sv rfl rfl rfl (ex_move rfl rfl) ?_
            refine st rfl rfl rfl (ex_call call27 rfl rfl (crash_e kb z Ak kb.length ck 0 hi _ F2 kd s2 _ hD2 rfl (hrk.ext K0) (fun g q e hq hg => by
              obtain ⟨b, o2, e2, _, h, _⟩ := hrk.addr hq
              rw [e] at e2
              injection e2 with e2
              injection e2 with e2
              have := hFn2 g hg
              omega) (by rw [hpd]; simp) hkq rfl)) ?_
            rintro _ w13 ⟨F3, rfl, hD3, hG3, _, K6⟩
            replace hG := hG.keepF K6 (fun j hj hF => by have := hFg j hF; omega)
            replace hso := hso.keepF K6 (fun j hj hF => by have := hFg j hF; omega)
            replace K0 := K0.trans K6 (fun j hj _ hF => by have := hFn2 j hF; omega)
            have hdu3 : (s2.crash kb z).du = s2.du := by unfold St.crash; rw [hpd]; rfl
            refine w_nil (qe_next ?_)
            refine w_seq ?_
            refine w_region ?_
            refine sv rfl rfl rfl (ex_move rfl rfl) ?_
            refine sv rfl rfl rfl (ex_move rfl rfl) ?_
            refine st rfl rfl rfl (ex_call call17 rfl rfl (image_c F3 kd _ _ hD3)) ?_
            rintro _ w14 ⟨gj, sl3, rfl, hi5, hso3, E8⟩
            replace hD3 := hD3.ext E8
            replace hG := hG.ext E8
            replace hso := hso.ext E8
            replace K0 := K0.ext E8
            rw [hdu3] at hso3
            refine st rfl rfl rfl (ex_call call23 rfl rfl (sameAll_c _ _ _ _ _ _ _ _ _ _ sl sl3 s2.du _ (by rw [hso.length]; omega) (by rw [hso3.length, hdu3]) (by omega) hG.rd hi5.rd hso.rds hso3.rds)) ?_
            rintro _ w15 ⟨rfl, E10⟩
            replace K0 := K0.ext E10
            replace hD3 := hD3.ext E10
            refine sv rfl rfl rfl (ex_move rfl rfl) ?_
            first | refine sk rfl rfl rfl ?_ | refine sv rfl rfl rfl (ex_move rfl rfl) ?_
            refine st rfl rfl rfl (ex_call call21 rfl rfl (down_c F3 kd _ _ hD3)) ?_
            rintro _ w16 ⟨rfl, hwe⟩
            obtain rfl := hwe.symm
            first | refine sk rfl rfl rfl ?_ | refine sv rfl rfl rfl (ex_not rfl rfl) ?_
            first | refine sv rfl rfl rfl (ex_pick_t rfl rfl rfl) ?_ | refine sv rfl rfl rfl (ex_pick_f rfl rfl rfl) ?_
            refine sv rfl rfl rfl (ex_assign rfl rfl) ?_
            refine w_nil (qe_next ?_)
            refine w_ret (qe_ret1 rfl rfl ?_)
            exact ⟨rfl, K0⟩
theorem keeps_law (z1 z2 z : Int) (Ak : Option Addr) (ck : Nat) (kb : List Bool) (A : Option Addr) (c hi : Nat) (os : List Op) (w : World) (hops : OpsAt w hi A os) (hhi : hi ≤ w.heap.size) (hrk : Rd w 0 hi 1 Ak kb.length (kb.map Value.bool)) (hkq : kb.length ≤ 9223372036854775807) : Ret Try.prog 9 [.int .i64 z1, .int .i64 z2, .slice A os.length c, .slice Ak kb.length ck, .int .i64 z] w fun v w' => v = .bool true ∧ Ext w w' := by
  by_cases h : 1 ≤ z1 ∧ z1 ≤ 8 ∧ 1 ≤ z2 ∧ z2 ≤ 8 ∧ os.length ≤ 40
  · obtain ⟨k, rfl⟩ : ∃ k : Nat, z1 = (k : Int) := ⟨z1.toNat, by omega⟩
    obtain ⟨n, rfl⟩ : ∃ n : Nat, z2 = (n : Int) := ⟨z2.toNat, by omega⟩
    exact keeps_good k n z Ak ck kb A c hi os w hops hhi hrk hkq (by omega) (by omega) (by omega) (by omega) (by omega)
  · exact keeps_big z1 z2 z Ak ck kb A c hi os w hops hhi hrk hkq h
end Go.Proofs.Ytcgcklfbnmaodaa

/- The law DiskPlays, walked. -/
import Derived.Test.YtcgcklfbnmaodaaD23
namespace Go.Proofs.Ytcgcklfbnmaodaa
open Go Go.RowKit
set_option linter.unusedVariables false
set_option linter.unusedSimpArgs false
set_option maxHeartbeats 2000000
/-- kinkeep/kinkeeplaw15.DiskPlays -/
theorem plays_big (z1 z2 : Int) (A : Option Addr) (c hi : Nat) (os : List Op) (w : World) (hops : OpsAt w hi A os) (hhi : hi ≤ w.heap.size) (h : ¬ (1 ≤ z1 ∧ z1 ≤ 8 ∧ 1 ≤ z2 ∧ z2 ≤ 8 ∧ os.length ≤ 40)) :
    Ret Try.prog 7 [.int .i64 z1, .int .i64 z2, .slice A os.length c] w fun v w' => v = .bool true ∧ Ext w w' := by
  have K0 : Ext w w := Keep.refl _ _
  refine ret_of Try.func7 rfl rfl ?_
  refine w_seq ?_
  refine w_region ?_
  refine sv rfl rfl rfl (ex_assign rfl rfl) ?_
  refine w_nil (qe_next ?_)
  refine w_seq ?_
  refine w_seq ?_
  refine w_region ?_
  refine st rfl rfl rfl (ex_call call11 rfl rfl (awake_c _)) ?_
  rintro _ w1 ⟨rfl, E9⟩
  replace K0 := K0.ext E9
  refine sv rfl rfl rfl (ex_not rfl rfl) ?_
  refine w_nil (qe_next ?_)
  refine w_cond_f rfl ?_
  refine w_skip (qe_next ?_)
  refine w_seq ?_
  refine w_seq ?_
  refine w_region ?_
  refine sv rfl rfl rfl (ex_move rfl rfl) ?_
  refine sv rfl rfl rfl (ex_move rfl rfl) ?_
  refine sv rfl rfl rfl (ex_move rfl rfl) ?_
  refine st rfl rfl rfl (ex_call call25 rfl rfl (small_f _ _ _ _ _ _ h)) ?_
  rintro _ w2 ⟨rfl, hwe⟩
  obtain rfl := hwe.symm
  refine sv rfl rfl rfl (ex_not rfl rfl) ?_
  refine w_nil (qe_next ?_)
  refine w_cond_t rfl ?_
  refine w_seq ?_
  refine w_region ?_
  refine sv rfl rfl rfl (ex_assign rfl rfl) ?_
  refine w_nil (qe_next ?_)
  refine w_ret (qe_then_ret (qe_ret1 rfl rfl ?_))
  exact ⟨rfl, K0⟩
/-- kinkeep/kinkeeplaw15.DiskPlays -/
theorem plays_good (k n : Nat) (A : Option Addr) (c hi : Nat) (os : List Op) (w : World) (hops : OpsAt w hi A os) (hhi : hi ≤ w.heap.size) (k1 : 1 ≤ k) (k8 : k ≤ 8) (n1 : 1 ≤ n) (n8 : n ≤ 8) (h40 : os.length ≤ 40) :
    Ret Try.prog 7 [.int .i64 (k : Int), .int .i64 (n : Int), .slice A os.length c] w fun v w' => v = .bool true ∧ Ext w w' := by
  have K0 : Ext w w := Keep.refl _ _
  refine ret_of Try.func7 rfl rfl ?_
  refine w_seq ?_
  refine w_region ?_
  refine sv rfl rfl rfl (ex_assign rfl rfl) ?_
  refine w_nil (qe_next ?_)
  refine w_seq ?_
  refine w_seq ?_
  refine w_region ?_
  refine st rfl rfl rfl (ex_call call11 rfl rfl (awake_c _)) ?_
  rintro _ w1 ⟨rfl, E9⟩
  replace K0 := K0.ext E9
  refine sv rfl rfl rfl (ex_not rfl rfl) ?_
  refine w_nil (qe_next ?_)
  refine w_cond_f rfl ?_
  refine w_skip (qe_next ?_)
  refine w_seq ?_
  refine w_seq ?_
  refine w_region ?_
  refine sv rfl rfl rfl (ex_move rfl rfl) ?_
  refine sv rfl rfl rfl (ex_move rfl rfl) ?_
  refine sv rfl rfl rfl (ex_move rfl rfl) ?_
  refine st rfl rfl rfl (ex_call call25 rfl rfl (small_t _ _ _ _ _ _ ⟨by omega, by omega, by omega, by omega, h40⟩)) ?_
  rintro _ w2 ⟨rfl, hwe⟩
  obtain rfl := hwe.symm
  refine sv rfl rfl rfl (ex_not rfl rfl) ?_
  refine w_nil (qe_next ?_)
  refine w_cond_f rfl ?_
  refine w_skip (qe_next ?_)
  refine w_seq ?_
  refine w_region ?_
  refine sv rfl rfl rfl (ex_move rfl rfl) ?_
  refine sv rfl rfl rfl (ex_move rfl rfl) ?_
  have hz0 := K0.size
  refine st rfl rfl rfl (ex_call call12 rfl rfl (new_c k n _ k1 (by omega) n1 (by omega))) ?_
  rintro _ w3 ⟨kd, F, rfl, hD, hFn, E1⟩
  replace K0 := K0.ext E1
  refine sv rfl rfl rfl (ex_move rfl rfl) ?_
  refine sv rfl rfl rfl (ex_extract rfl rfl rfl) ?_
  refine sv rfl rfl rfl (ex_extract rfl rfl rfl) ?_
  refine sv rfl rfl rfl (ex_assign rfl rfl) ?_
  refine sv rfl rfl rfl (ex_assign rfl rfl) ?_
  refine w_nil (qe_next ?_)
  refine w_seq ?_
  refine w_region ?_
  refine sv rfl rfl rfl (ex_move rfl rfl) ?_
  refine sv rfl rfl rfl (ex_move rfl rfl) ?_
  have hFlt := hD.lt
  have hz6 := K0.size
  refine st rfl rfl rfl (ex_call call24 rfl rfl (rnew_c k n _ (by omega) n1 (by omega))) ?_
  rintro _ w4 ⟨kr, G, rfl, hR, hRn, E6⟩
  replace K0 := K0.ext E6
  replace hD := hD.ext E6
  have hP := Playing.start hD hFn hz0 K0
  have hdis : ∀ j, F j → ¬ G j := fun j hF hG => by have h1 := hFlt j hF; have h2 := hRn j hG; omega
  replace hRn : ∀ j, G j → w.heap.size ≤ j := fun j hj => Nat.le_trans hz6 (hRn j hj)
  clear hD hFn K0 hFlt
  refine sv rfl rfl rfl (ex_assign rfl rfl) ?_
  refine w_nil (qe_next ?_)
  refine w_seq ?_
  refine w_seq ?_
  refine w_region ?_
  refine sv rfl rfl rfl (ex_assign rfl rfl) ?_
  refine w_nil (qe_next ?_)
  refine w_block ?_
  refine w_loop (ι := Nat) (fun i => [(0, .int .i64 (k : Int)), (1, .int .i64 (n : Int)), (2, .slice A os.length c), (7, .pointer (some ⟨kd, 0, none⟩)), (9, .pointer (some ⟨kr, 0, none⟩)), (10, .int .i64 (i : Int))]) (fun i wL => i ≤ os.length ∧ ∃ s F G, Playing w wL kd n k (os.take i) s F ∧ RefAt wL G kr s ∧ (∀ j, F j → ¬ G j) ∧ (∀ j, G j → w.heap.size ≤ j)) (fun i => os.length - i) (0) ⟨rfl, rfl, rfl, rfl, rfl, rfl, trivial⟩ ?_ ?_
  · exact ⟨Nat.zero_le _, _, F, G, hP, hR, hdis, hRn⟩
  · clear hP hR hdis hRn
    rintro i wL ⟨hi1, s, F, G, hP, hR, hdis, hRn⟩
    refine w_seq ?_
    refine w_seq ?_
    refine w_region ?_
    refine sv rfl rfl rfl (ex_move rfl rfl) ?_
    refine sv rfl rfl rfl (ex_move rfl rfl) ?_
    refine sv rfl rfl rfl (ex_len Try.underlying44 rfl rfl) ?_
    refine sv rfl rfl rfl (ex_cmp rfl rfl rfl rfl) ?_
    refine w_nil (qe_next ?_)
    refine w_if rfl (fun hi2 => ?_) (fun hi2 => ?_)
    · skip
      replace hi2 : i < os.length := by omega
      obtain ⟨o1, bo, off, hog, rfl, hok, hoc⟩ := (hops.ext hP.k).at_ hi2
      have hpl := hP.pl
      rw [List.length_take] at hpl
      have hzL := hP.k.size
      have hGl := hR.lt
      have hFl := hP.at_.lt
      refine w_skip (qe_next ?_)
      refine w_seq ?_
      refine w_block ?_
      refine w_seq ?_
      refine w_region ?_
      refine sv rfl rfl rfl (ex_move rfl rfl) ?_
      refine sv rfl rfl rfl (ex_move rfl rfl) ?_
      refine sv rfl rfl rfl (ex_move rfl rfl) ?_
      refine sv rfl rfl rfl (ex_indexN Try.underlying44 sz50 i rfl rfl rfl (by first | rfl | omega) (by omega)) ?_
      refine sv rfl rfl rfl (ex_load_agg (cs := o1.cells) agg50 rfl rfl (fun q u hu => hoc q u hu)) ?_
      refine st rfl rfl rfl (ex_call call26 rfl rfl (play_c o1 hi F kd s _ hP.at_ hok (fun j hj => Nat.le_trans hhi (hP.new j hj)) (by omega))) ?_
      rintro _ w5 ⟨B9, d9, F9, rfl, hD9, hG9, _, hB, K9⟩
      have hP9 := hP.step o1 hD9 hG9 K9
      replace hR := hR.keep K9 (fun j hj hF => hdis j hF hj)
      obtain ⟨o2, bo2, off2, hog2, e2, hok2, hoc2⟩ := (hops.ext hP9.k).at_ hi2
      cases e2
      obtain rfl : o1 = o2 := by rw [hog] at hog2; exact Option.some.inj hog2
      have hdis2 : ∀ j, F9 j → ¬ G j := fun j hF hG => by
        rcases hG9 j hF with h | h
        · exact hdis j h hG
        · have := hGl j hG; omega
      have hFl9 := hD9.lt
      have hzM := K9.size
      refine sv rfl rfl rfl (ex_move rfl rfl) ?_
      refine sv rfl rfl rfl (ex_extract rfl rfl rfl) ?_
      refine sv rfl rfl rfl (ex_extract rfl rfl rfl) ?_
      refine sv rfl rfl rfl (ex_assign rfl rfl) ?_
      refine sv rfl rfl rfl (ex_assign rfl rfl) ?_
      refine w_nil (qe_next ?_)
      refine w_seq ?_
      refine w_region ?_
      refine sv rfl rfl rfl (ex_move rfl rfl) ?_
      refine sv rfl rfl rfl (ex_move rfl rfl) ?_
      refine sv rfl rfl rfl (ex_move rfl rfl) ?_
      refine sv rfl rfl rfl (ex_indexN Try.underlying44 sz50 i rfl rfl rfl (by first | rfl | omega) (by omega)) ?_
      refine sv rfl rfl rfl (ex_load_agg (cs := o1.cells) agg50 rfl rfl (fun q u hu => hoc2 q u hu)) ?_
      refine st rfl rfl rfl (ex_call call29 rfl rfl (model_c o1 hi G kr s _ hR hok2 (fun j hj => Nat.le_trans hhi (hRn j hj)) (by omega))) ?_
      rintro _ w6 ⟨B8, d8, G9, rfl, hR9, hH9, _, hB2, K8⟩
      replace hB := hB.keepF K8 (fun j hj hG => by have := hGl j hG; omega)
      replace hP9 := hP9.keep K8 (fun j hj hG => hdis2 j hj hG) (fun j hj hG => by have := hRn j hG; omega)
      have hdis9 : ∀ j, F9 j → ¬ G9 j := fun j hF hG => by
        rcases hH9 j hG with h | h
        · exact hdis2 j hF h
        · have := hFl9 j hF; omega
      have hRn9 : ∀ j, G9 j → w.heap.size ≤ j := fun j hj => (hH9 j hj).elim (hRn j) (fun h => by omega)
      have hw9 := hR9.wf
      obtain ⟨s9, hs9⟩ : ∃ s9, s9 = (s.play o1).2 := ⟨_, rfl⟩
      rw [← hs9] at hP9 hR9 hw9
      clear hD9
      obtain ⟨r, lf, hbR, hmR, _, _, _⟩ := id hR9
      refine sv rfl rfl rfl (ex_move rfl rfl) ?_
      refine sv rfl rfl rfl (ex_extract rfl rfl rfl) ?_
      refine sv rfl rfl rfl (ex_extract rfl rfl rfl) ?_
      refine sv rfl rfl rfl (ex_assign rfl rfl) ?_
      refine sv rfl rfl rfl (ex_assign rfl rfl) ?_
      refine w_nil (qe_next ?_)
      refine w_seq ?_
      refine w_draw mixed (fun w7 _ Ew7 => ?_)
      replace hB := hB.ext Ew7
      replace hB2 := hB2.ext Ew7
      replace hP9 := hP9.ext Ew7
      replace hR9 := hR9.ext Ew7
      replace hbR := hbR.ext Ew7
      replace hmR := hmR.ext Ew7
      refine wd_free 2 _ rfl rfl rfl rfl ?_
      refine fd [] rfl rfl rfl rfl rfl rfl rfl (fun w' E => ex_move rfl rfl) ?_
      refine fd [] rfl rfl rfl rfl rfl rfl rfl (fun w' E => ex_move rfl rfl) ?_
      refine .nil (fun w8 Ew8 _ => ?_)
      replace hB := hB.ext Ew8
      replace hB2 := hB2.ext Ew8
      replace hP9 := hP9.ext Ew8
      replace hR9 := hR9.ext Ew8
      replace hbR := hbR.ext Ew8
      replace hmR := hmR.ext Ew8
      refine wd_one rfl rfl (by kernel_rfl) rfl rfl rfl (ex_call call15 rfl rfl (same_t _ _ _ _ _ _ _ _ _ _ (s.play o1).1.1 (s.play o1).1.1 _ rfl rfl hB.rd hB2.rd rfl)) ?_
      rintro _ w9 ⟨rfl, hwe⟩
      obtain rfl := hwe.symm
      refine wd_v rfl rfl (by kernel_rfl) rfl rfl rfl (ex_not rfl rfl) ?_
      refine wd_v rfl rfl (by kernel_rfl) rfl rfl rfl (ex_move rfl rfl) ?_
      refine wd_free 2 _ rfl rfl rfl rfl ?_
      first | refine fsk [] rfl rfl rfl rfl rfl rfl rfl ?_ | refine fd [] rfl rfl rfl rfl rfl rfl rfl (fun w' E => ex_move rfl rfl) ?_
      first | refine fsk [] rfl rfl rfl rfl rfl rfl rfl ?_ | refine fd [] rfl rfl rfl rfl rfl rfl rfl (fun w' E => ex_move rfl rfl) ?_
      refine .nil (fun w10 Ew10 _ => ?_)
      replace hB := hB.ext Ew10
      replace hB2 := hB2.ext Ew10
      replace hP9 := hP9.ext Ew10
      replace hR9 := hR9.ext Ew10
      replace hbR := hbR.ext Ew10
      replace hmR := hmR.ext Ew10
      first | refine wd_skip rfl rfl (by kernel_rfl) rfl rfl rfl ?_ | refine wd_v rfl rfl (by kernel_rfl) rfl rfl rfl (ex_cmp rfl rfl rfl (congrArg some (decide_eq_false (not_not_intro rfl)))) ?_
      first | refine wd_v rfl rfl (by kernel_rfl) rfl rfl rfl (ex_pick_t rfl rfl rfl) ?_ | refine wd_v rfl rfl (by kernel_rfl) rfl rfl rfl (ex_pick_f rfl rfl rfl) ?_
      refine wd_v rfl rfl (by kernel_rfl) rfl rfl rfl (ex_move rfl rfl) ?_
      refine wd_free 7 _ rfl rfl rfl rfl ?_
      first | refine fsk [] rfl rfl rfl rfl rfl rfl rfl ?_ | refine fd [] rfl rfl rfl rfl rfl rfl rfl (fun w' E => ex_move rfl rfl) ?_
      first | refine fsk [10] rfl rfl rfl rfl rfl rfl rfl ?_ | refine fe [10] rfl rfl rfl rfl rfl rfl rfl (fun w' E => ex_call call22 rfl rfl ((pending_c F9 kd s9 _ (hP9.at_.ext E)).ext)) ?_
      first | refine fsk [] rfl rfl rfl rfl rfl rfl rfl ?_ | refine fd [] rfl rfl rfl rfl rfl rfl rfl (fun w' E => ex_move rfl rfl) ?_
      first | refine fsk [12] rfl rfl rfl rfl rfl rfl rfl ?_ | refine fd [12] rfl rfl rfl rfl rfl rfl rfl (fun w' E => ex_nil rfl rfl) ?_
      first | refine fsk [13] rfl rfl rfl rfl rfl rfl rfl ?_ | refine fd [13] rfl rfl rfl rfl rfl rfl rfl (fun w' E => ex_fieldAddr fld41_2 rfl rfl) ?_
      first | refine fsk [14] rfl rfl rfl rfl rfl rfl rfl ?_ | refine fd [14] rfl rfl rfl rfl rfl rfl rfl (fun w' E => ex_load one39 rfl rfl (E.cell trivial (hbR.cell rfl))) ?_
      first | refine fsk [15] rfl rfl rfl rfl rfl rfl rfl ?_ | refine fd [15] rfl rfl rfl rfl rfl rfl rfl (fun w' E => ex_len Try.underlying39 rfl rfl) ?_
      refine .nil (fun w11 Ew11 _ => ?_)
      replace hB := hB.ext Ew11
      replace hB2 := hB2.ext Ew11
      replace hP9 := hP9.ext Ew11
      replace hR9 := hR9.ext Ew11
      replace hbR := hbR.ext Ew11
      replace hmR := hmR.ext Ew11
      first | refine wd_skip rfl rfl (by kernel_rfl) rfl rfl rfl ?_ | refine wd_v rfl rfl (by kernel_rfl) rfl rfl rfl (ex_cmp rfl rfl rfl (congrArg some (decide_eq_false (not_not_intro rfl)))) ?_
      first | refine wd_v rfl rfl (by kernel_rfl) rfl rfl rfl (ex_pick_t rfl rfl rfl) ?_ | refine wd_v rfl rfl (by kernel_rfl) rfl rfl rfl (ex_pick_f rfl rfl rfl) ?_
      refine wd_v rfl rfl (by kernel_rfl) rfl rfl rfl (ex_move rfl rfl) ?_
      refine wd_free 6 _ rfl rfl rfl rfl ?_
      first | refine fsk [] rfl rfl rfl rfl rfl rfl rfl ?_ | refine fd [] rfl rfl rfl rfl rfl rfl rfl (fun w' E => ex_move rfl rfl) ?_
      first | refine fsk [20] rfl rfl rfl rfl rfl rfl rfl ?_ | refine fe [20] rfl rfl rfl rfl rfl rfl rfl (fun w' E => ex_call call21 rfl rfl ((down_c F9 kd s9 _ (hP9.at_.ext E)).ext)) ?_
      first | refine fsk [] rfl rfl rfl rfl rfl rfl rfl ?_ | refine fd [] rfl rfl rfl rfl rfl rfl rfl (fun w' E => ex_move rfl rfl) ?_
      first | refine fsk [22] rfl rfl rfl rfl rfl rfl rfl ?_ | refine fd [22] rfl rfl rfl rfl rfl rfl rfl (fun w' E => ex_nil rfl rfl) ?_
      first | refine fsk [23] rfl rfl rfl rfl rfl rfl rfl ?_ | refine fd [23] rfl rfl rfl rfl rfl rfl rfl (fun w' E => ex_fieldAddr fld41_3 rfl rfl) ?_
      first | refine fsk [24] rfl rfl rfl rfl rfl rfl rfl ?_ | refine fd [24] rfl rfl rfl rfl rfl rfl rfl (fun w' E => ex_load one4 rfl rfl (E.cell trivial (hbR.cell rfl))) ?_
      refine .nil (fun w12 Ew12 _ => ?_)
      replace hB := hB.ext Ew12
      replace hB2 := hB2.ext Ew12
      replace hP9 := hP9.ext Ew12
      replace hR9 := hR9.ext Ew12
      replace hbR := hbR.ext Ew12
      replace hmR := hmR.ext Ew12
      first | refine wd_skip rfl rfl (by kernel_rfl) rfl rfl rfl ?_ | refine wd_v rfl rfl (by kernel_rfl) rfl rfl rfl (ex_bne (z := false) Try.underlying4 rfl rfl rfl (by simp)) ?_
      first | refine wd_v rfl rfl (by kernel_rfl) rfl rfl rfl (ex_pick_t rfl rfl rfl) ?_ | refine wd_v rfl rfl (by kernel_rfl) rfl rfl rfl (ex_pick_f rfl rfl rfl) ?_
      refine wd_v rfl rfl (by kernel_rfl) rfl rfl rfl (ex_move rfl rfl) ?_
      refine wd_free 6 _ rfl rfl rfl rfl ?_
      first | refine fsk [] rfl rfl rfl rfl rfl rfl rfl ?_ | refine fd [] rfl rfl rfl rfl rfl rfl rfl (fun w' E => ex_move rfl rfl) ?_
      refine fx [29] (Φ := fun v' w' => ∃ (g : Nat) (sl : List Sl), v' = .slice (some ⟨g, 0, none⟩) s9.du.length s9.du.length ∧ Own w' 0 22 1 (some ⟨g, 0, none⟩) s9.du.length s9.du.length (sl.map slv) ∧ Owns w' 0 sl s9.du) rfl rfl rfl rfl rfl rfl rfl (fun _ _ _ k ⟨g, sl, h1, h2, h3⟩ => ⟨g, sl, h1, h2.ext k, h3.ext k⟩) (fun w' E => ex_call call17 rfl rfl ((image_c F9 kd s9 _ (hP9.at_.ext E)).mono fun v' w'' ⟨g, sl, h1, h2, h3, h4⟩ => ⟨⟨g, sl, h1, h2.lower (Nat.zero_le _), h3.lower (Nat.zero_le _)⟩, h4⟩)) ?_
      first | refine fsk [] rfl rfl rfl rfl rfl rfl rfl ?_ | refine fd [] rfl rfl rfl rfl rfl rfl rfl (fun w' E => ex_move rfl rfl) ?_
      first | refine fsk [31] rfl rfl rfl rfl rfl rfl rfl ?_ | refine fd [31] rfl rfl rfl rfl rfl rfl rfl (fun w' E => ex_nil rfl rfl) ?_
      first | refine fsk [32] rfl rfl rfl rfl rfl rfl rfl ?_ | refine fd [32] rfl rfl rfl rfl rfl rfl rfl (fun w' E => ex_fieldAddr fld41_1 rfl rfl) ?_
      first | refine fsk [33] rfl rfl rfl rfl rfl rfl rfl ?_ | refine fd [33] rfl rfl rfl rfl rfl rfl rfl (fun w' E => ex_load one33 rfl rfl (E.cell trivial (hbR.cell rfl))) ?_
      refine .nil (fun _ w13 Ew13 HF => ?_)
      replace hB := hB.ext Ew13
      replace hB2 := hB2.ext Ew13
      replace hP9 := hP9.ext Ew13
      replace hR9 := hR9.ext Ew13
      replace hbR := hbR.ext Ew13
      replace hmR := hmR.ext Ew13
      obtain ⟨⟨gi, sl, rfl, hi3, hso3⟩, -⟩ := HF
      refine wd_one rfl rfl (by kernel_rfl) rfl rfl rfl (ex_call call23 rfl rfl (sameAll_c _ _ _ _ _ _ _ _ _ _ sl r.dsl s9.du _ hso3.length.symm hmR.dat.length.symm (by have := hw9.d1; omega) hi3.rd hmR.own.rd hso3.rds hmR.dat.rds)) ?_
      rintro _ w14 ⟨rfl, E7⟩
      replace hB := hB.ext E7
      replace hB2 := hB2.ext E7
      replace hP9 := hP9.ext E7
      replace hR9 := hR9.ext E7
      replace hbR := hbR.ext E7
      replace hmR := hmR.ext E7
      first | refine wd_skip rfl rfl (by kernel_rfl) rfl rfl rfl ?_ | refine wd_v rfl rfl (by kernel_rfl) rfl rfl rfl (ex_not rfl rfl) ?_
      first | refine wd_v rfl rfl (by kernel_rfl) rfl rfl rfl (ex_pick_t rfl rfl rfl) ?_ | refine wd_v rfl rfl (by kernel_rfl) rfl rfl rfl (ex_pick_f rfl rfl rfl) ?_
      refine wd_nil (by decide) rfl ?_
      refine qe_next ?_
      refine w_cond_f rfl ?_
      refine w_skip (qe_in_normal (qe_next ?_))
      refine w_region ?_
      refine sv rfl rfl rfl (ex_move rfl rfl) ?_
      refine sv rfl rfl rfl (ex_add rfl rfl rfl (i64_in (by omega) (by omega))) ?_
      refine sv rfl rfl rfl (ex_assign rfl rfl) ?_
      refine w_nil (qe_round (i + 1) ⟨rfl, rfl, rfl, rfl, rfl, rfl, trivial⟩ ?_ ?_)
      · exact ⟨by omega, _, F9, G9, by rw [take_snoc hog]; exact hP9, hR9, hdis9, hRn9⟩
      · omega
    · skip
      refine w_exit (qe_then_exit (qe_then_exit (qe_in_exit (qe_next ?_))))
      refine w_seq ?_
      refine w_region ?_
      refine sv rfl rfl rfl (ex_assign rfl rfl) ?_
      refine w_nil (qe_next ?_)
      refine w_ret (qe_ret1 rfl rfl ?_)
      exact ⟨rfl, hP.k⟩
theorem plays_law (z1 z2 : Int) (A : Option Addr) (c hi : Nat) (os : List Op) (w : World) (hops : OpsAt w hi A os) (hhi : hi ≤ w.heap.size) : Ret Try.prog 7 [.int .i64 z1, .int .i64 z2, .slice A os.length c] w fun v w' => v = .bool true ∧ Ext w w' := by
  by_cases h : 1 ≤ z1 ∧ z1 ≤ 8 ∧ 1 ≤ z2 ∧ z2 ≤ 8 ∧ os.length ≤ 40
  · obtain ⟨k, rfl⟩ : ∃ k : Nat, z1 = (k : Int) := ⟨z1.toNat, by omega⟩
    obtain ⟨n, rfl⟩ : ∃ n : Nat, z2 = (n : Int) := ⟨z2.toNat, by omega⟩
    exact plays_good k n A c hi os w hops hhi (by omega) (by omega) (by omega) (by omega) (by omega)
  · exact plays_big z1 z2 A c hi os w hops hhi h
end Go.Proofs.Ytcgcklfbnmaodaa

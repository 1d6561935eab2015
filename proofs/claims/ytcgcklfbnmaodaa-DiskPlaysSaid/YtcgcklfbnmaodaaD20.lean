/- The reference's Sync. -/
import Derived.Test.YtcgcklfbnmaodaaD19
namespace Go.Proofs.Ytcgcklfbnmaodaa
open Go Go.RowKit
set_option linter.unusedVariables false
set_option linter.unusedSimpArgs false
/-- (*kinkeep/kinkeepref15.Disk).Sync -/
theorem rsync_off (F : Nat → Prop) (k : Nat) (s : St) (w : World) (hR : RefAt w F k s) (hoff : s.off = true) :
    Ret Try.prog 39 [.pointer (some ⟨k, 0, none⟩)] w fun v w' => v = .int .i64 s.sync.1 ∧ RefAt w' (grown F w w') k s.sync.2 ∧ Keep (fun j => ¬ F j) w w' := by
  obtain ⟨⟨A, cA, dsl, P, cP, wl⟩, lf, hb, hm, hFk, hlf, hwf⟩ := id hR
  have ho : Own w 0 22 1 A s.du.length cA (dsl.map slv) := hm.own
  have hd : Owns w 0 dsl s.du := hm.dat
  have hp : Own w 0 74 2 P s.pd.length cP (wcells wl) := hm.pown
  have hFlt := hm.lt
  have n1 := hwf.n1
  have n2 := hwf.n2
  have d1 := hwf.d1
  rw [hoff] at hb
  refine ret_of Try.func39 rfl rfl ?_
  refine w_seq ?_
  refine w_region ?_
  refine sv rfl rfl rfl (ex_assign rfl rfl) ?_
  refine w_nil (qe_next ?_)
  refine w_seq ?_
  refine w_seq ?_
  refine w_region ?_
  refine sv rfl rfl rfl (ex_move rfl rfl) ?_
  refine sv rfl rfl rfl (ex_nil rfl rfl) ?_
  refine sv rfl rfl rfl (ex_fieldAddr fld41_3 rfl rfl) ?_
  refine sv rfl rfl rfl (ex_load one4 rfl rfl (hb.cell rfl)) ?_
  refine sv rfl rfl rfl (ex_move rfl rfl) ?_
  first | refine sk rfl rfl rfl ?_ | refine sv rfl rfl rfl (ex_move rfl rfl) ?_
  refine sk rfl rfl rfl ?_
  first | refine sv rfl rfl rfl (ex_pick_t rfl rfl rfl) ?_ | refine sv rfl rfl rfl (ex_pick_f rfl rfl rfl) ?_
  refine w_nil (qe_next ?_)
  refine w_cond_t rfl ?_
  refine w_seq ?_
  refine w_region ?_
  refine sv rfl rfl rfl (ex_assign rfl rfl) ?_
  refine w_nil (qe_next ?_)
  refine w_ret (qe_then_ret (qe_ret1 rfl rfl ?_))
  rw [show s.sync = (8, s) from by unfold St.sync; rw [if_pos hoff]]
  exact ⟨rfl, hR.grow (fun j hj => .inl hj) (grown.lt hR.lt (Nat.le_refl _)), Keep.refl _ _⟩

/-- (*kinkeep/kinkeepref15.Disk).Sync -/
theorem rsync_on (F : Nat → Prop) (k : Nat) (s : St) (w : World) (hR : RefAt w F k s) (hoff : s.off = false) (hpl : s.pd.length ≤ 1000) :
    Ret Try.prog 39 [.pointer (some ⟨k, 0, none⟩)] w fun v w' => v = .int .i64 s.sync.1 ∧ RefAt w' (grown F w w') k s.sync.2 ∧ Keep (fun j => ¬ F j) w w' := by
  obtain ⟨⟨A, cA, dsl, P, cP, wl⟩, lf, hb, hm, hFk, hlf, hwf⟩ := id hR
  have ho : Own w 0 22 1 A s.du.length cA (dsl.map slv) := hm.own
  have hd : Owns w 0 dsl s.du := hm.dat
  have hp : Own w 0 74 2 P s.pd.length cP (wcells wl) := hm.pown
  have hFlt := hm.lt
  have n1 := hwf.n1
  have n2 := hwf.n2
  have d1 := hwf.d1
  rw [hoff] at hb
  refine ret_of Try.func39 rfl rfl ?_
  refine w_seq ?_
  refine w_region ?_
  refine sv rfl rfl rfl (ex_assign rfl rfl) ?_
  refine w_nil (qe_next ?_)
  refine w_seq ?_
  refine w_seq ?_
  refine w_region ?_
  refine sv rfl rfl rfl (ex_move rfl rfl) ?_
  refine sv rfl rfl rfl (ex_nil rfl rfl) ?_
  refine sv rfl rfl rfl (ex_fieldAddr fld41_3 rfl rfl) ?_
  refine sv rfl rfl rfl (ex_load one4 rfl rfl (hb.cell rfl)) ?_
  refine sv rfl rfl rfl (ex_move rfl rfl) ?_
  first | refine sk rfl rfl rfl ?_ | refine sv rfl rfl rfl (ex_move rfl rfl) ?_
  refine st rfl rfl rfl (ex_call call45 rfl rfl (rfails_c F k s _ hR hoff)) ?_
  rintro _ w1 ⟨rfl, hD2, K1⟩
  cases hf : s.fails.1
  · skip
    first | refine sv rfl rfl rfl (ex_pick_t rfl rfl rfl) ?_ | refine sv rfl rfl rfl (ex_pick_f rfl rfl rfl) ?_
    refine w_nil (qe_next ?_)
    refine w_cond_f rfl ?_
    refine w_skip (qe_next ?_)
    refine w_seq ?_
    refine w_seq ?_
    have KK : Keep (fun j => ¬ F j) w _ := K1.mono (fun j _ hj e => hj (by rw [e]; exact hFk))
    obtain ⟨s2, hs2⟩ : ∃ s2, s2 = s.fails.2 := ⟨_, rfl⟩
    rw [← hs2] at hD2
    have hfp := s.fails_pd
    rw [← hs2] at hfp
    have hpl2 : s2.pd.length ≤ 1000 := by rw [hfp.1]; exact hpl
    have hwf0 := hD2.wf
    have hcur : RefAt _ (grown F w _) k { s2 with du := s2.du } := hD2.grow (fun j hj => .inl hj) (grown.lt hFlt KK.size)
    refine w_region ?_
    refine sv rfl rfl rfl (ex_assign rfl rfl) ?_
    refine w_nil (qe_next ?_)
    refine w_block ?_
    refine w_loop (ι := Nat × List (List UInt8)) (fun i => [(0, .pointer (some ⟨k, 0, none⟩)), (3, .int .i64 (i.1 : Int))]) (fun i wL => i.1 ≤ s2.pd.length ∧ i.2 = (s2.pd.take i.1).foldl (fun du p => putd du p.1 p.2) s2.du ∧ RefAt wL (grown F w wL) k { s2 with du := i.2 } ∧ Keep (fun j => ¬ F j) w wL) (fun i => s2.pd.length - i.1) ((0, s2.du)) ⟨rfl, rfl, trivial⟩ ?_ ?_
    · exact ⟨Nat.zero_le _, by simp, hcur, KK⟩
    · clear hcur KK K1 hb hm ho hd hp
      rintro ⟨j, du1⟩ wL ⟨hj, hdu1, hcur, KK⟩
      simp only at hj hdu1 hcur
      have KY : Ext wL wL := Keep.refl _ _
      obtain ⟨⟨A2, cA2, dsl2, P2, cP2, wl2⟩, lf2, hb2, hm2, hk2, hlf2, hwf2⟩ := id hcur
      dsimp only at hb2 hm2 hlf2
      refine w_seq ?_
      refine w_seq ?_
      refine w_region ?_
      refine sv rfl rfl rfl (ex_move rfl rfl) ?_
      refine sv rfl rfl rfl (ex_move rfl rfl) ?_
      refine sv rfl rfl rfl (ex_nil rfl rfl) ?_
      refine sv rfl rfl rfl (ex_fieldAddr fld41_2 rfl rfl) ?_
      refine sv rfl rfl rfl (ex_load one39 rfl rfl (hb2.cell rfl)) ?_
      refine sv rfl rfl rfl (ex_len Try.underlying39 rfl rfl) ?_
      refine sv rfl rfl rfl (ex_cmp rfl rfl rfl rfl) ?_
      refine w_nil (qe_next ?_)
      refine w_if rfl (fun hj2 => ?_) (fun hj2 => ?_)
      · skip
        replace hj2 : j < s2.pd.length := by simp only at hj2; omega
        obtain ⟨p, y, hp9, hy9, hly, hoy⟩ := pd_get hm2 hj2
        have hp9 : wl2[j]? = some p := hp9
        have hpo : Own _ 0 74 2 P2 s2.pd.length cP2 (wcells wl2) := hm2.pown
        obtain ⟨bp, op, rfl, _, _, hcp⟩ := hpo.rd.addr (by omega)
        have hg2 := wcells_get hp9
        have hpw := hwf2.pd _ (List.mem_of_getElem? hy9)
        dsimp only at hpw
        refine w_skip (qe_next ?_)
        refine w_seq ?_
        refine w_block ?_
        refine w_draw mixed (fun w2 _ Ew2 => ?_)
        replace hcur := hcur.ext Ew2
        replace KK := KK.ext Ew2
        replace KY := KY.ext Ew2
        refine wd_free 12 _ rfl rfl rfl rfl ?_
        refine fd [] rfl rfl rfl rfl rfl rfl rfl (fun w' E => ex_move rfl rfl) ?_
        refine fd [] rfl rfl rfl rfl rfl rfl rfl (fun w' E => ex_move rfl rfl) ?_
        refine fd [1] rfl rfl rfl rfl rfl rfl rfl (fun w' E => ex_nil rfl rfl) ?_
        refine fd [2] rfl rfl rfl rfl rfl rfl rfl (fun w' E => ex_fieldAddr fld41_2 rfl rfl) ?_
        refine fd [3] rfl rfl rfl rfl rfl rfl rfl (fun w' E => ex_load one39 rfl rfl ((KY.ext E).cell trivial (hb2.cell rfl))) ?_
        refine fd [] rfl rfl rfl rfl rfl rfl rfl (fun w' E => ex_move rfl rfl) ?_
        refine fd [4, 5] rfl rfl rfl rfl rfl rfl rfl (fun w' E => ex_indexN Try.underlying39 sz74 j rfl rfl rfl (by first | rfl | omega) (by omega)) ?_
        refine fd [6] rfl rfl rfl rfl rfl rfl rfl (fun w' E => ex_load_agg (cs := [.int .i64 (p.1 : Int), slv p.2]) agg74 rfl rfl (by intro q u hu; rcases q with _ | _ | q <;> simp at hu <;> subst hu <;> rw [Nat.add_assoc] <;> first | exact (KY.ext E).cell trivial (hcp _ _ hg2.1) | exact (KY.ext E).cell trivial (hcp _ _ hg2.2))) ?_
        refine fd [] rfl rfl rfl rfl rfl rfl rfl (fun w' E => ex_move rfl rfl) ?_
        refine fd [8] rfl rfl rfl rfl rfl rfl rfl (fun w' E => ex_nil rfl rfl) ?_
        refine fd [9] rfl rfl rfl rfl rfl rfl rfl (fun w' E => ex_fieldAddr fld41_0 rfl rfl) ?_
        refine fd [10] rfl rfl rfl rfl rfl rfl rfl (fun w' E => ex_load one3 rfl rfl ((KY.ext E).cell trivial (hb2.cell rfl))) ?_
        refine .nil (fun w3 Ew3 _ => ?_)
        replace hcur := hcur.ext Ew3
        replace KK := KK.ext Ew3
        replace KY := KY.ext Ew3
        replace hcur := RefAt.grow (F' := grown F w _) hcur (fun j hj => by
          have := KK.size
          rcases hj with hj | hj
          · exact .inl hj
          · exact .inr ⟨hj.1, by have := hcur.lt j (.inr hj); omega⟩) (grown.lt hFlt KK.size)
        refine wd_one rfl rfl (by kernel_rfl) rfl rfl rfl (ex_call call46 rfl rfl (rput_c p.1 s2.n _ _ p.2 y (grown F w _) k { s2 with du := du1 } _ hcur hpw.1 hly hoy.le (by omega) (Nat.le_refl _) (hoy.rd.ext KY))) ?_
        rintro _ w4 ⟨rfl, hR3, K3⟩
        dsimp only at hR3
        rw [show y.take s2.n = y from List.take_of_length_le (by omega)] at hR3
        have hR4 := (RefAt.grow (F' := grown F w _) (s := { s2 with du := putd du1 p.1 y }) hR3 (fun j hj => by
          have := KK.size
          have := K3.size
          rcases hj with (hj | hj) | hj
          · exact .inl hj
          · exact .inr ⟨hj.1, by omega⟩
          · exact .inr ⟨by omega, hj.2⟩) (grown.lt hFlt (Nat.le_trans KK.size K3.size)))
        replace KK := KK.trans K3 (fun j hj hS hg => by
          rcases hg with hg | hg
          · exact hS hg
          · omega)
        refine wd_nil (by decide) rfl ?_
        refine qe_in_normal (qe_next ?_)
        refine w_region ?_
        refine sv rfl rfl rfl (ex_move rfl rfl) ?_
        refine sv rfl rfl rfl (ex_add rfl rfl rfl (i64_in (by omega) (by omega))) ?_
        refine sv rfl rfl rfl (ex_assign rfl rfl) ?_
        refine w_nil (qe_round ((j + 1, putd du1 p.1 y)) ⟨rfl, rfl, trivial⟩ ?_ ?_)
        · exact ⟨by simp only; omega, by simp only; rw [List.take_add_one, hy9, hdu1, List.foldl_append]; rfl, hR4, KK⟩
        · simp only; omega
      · skip
        replace hj2 : j = s2.pd.length := by simp only at hj2; omega
        subst hj2
        rw [List.take_length] at hdu1
        refine w_exit (qe_then_exit (qe_then_exit (qe_in_exit (qe_next ?_))))
        refine w_seq ?_
        refine w_region ?_
        refine sv rfl rfl rfl (ex_move rfl rfl) ?_
        refine sv rfl rfl rfl (ex_nil rfl rfl) ?_
        refine sv rfl rfl rfl (ex_fieldAddr fld41_2 rfl rfl) ?_
        refine st0 rfl rfl (ex_store_blk sz39 rfl rfl rfl rfl hb2 (by simp [rcells])) ?_
        rintro _ w5 ⟨K6, hb6, hz6⟩
        refine w_nil (qe_next ?_)
        refine w_seq ?_
        refine w_region ?_
        refine sv rfl rfl rfl (ex_assign rfl rfl) ?_
        refine w_nil (qe_next ?_)
        refine w_ret (qe_ret1 rfl rfl ?_)
        have hsy : s.sync = (0, { s2 with du := s2.flush, pd := [] }) := by unfold St.sync; rw [if_neg (by rw [hoff]; simp), if_neg (by rw [hf]; simp), hs2]
        have hw9 := hwf.sync
        rw [hsy] at hw9 ⊢
        have hfl : du1 = s2.flush := hdu1
        subst hfl
        exact ⟨rfl, RefAt.intro (r := ⟨A2, cA2, dsl2, none, 0, []⟩) (lf := lf2) hb6 ((hm2.keepK hb2 (by decide) (by decide) (by decide) K6).clear.grow (fun j hj => by
          have := K6.size
          rcases hj with hj | hj
          · exact .inl hj
          · exact .inr ⟨hj.1, by omega⟩) (grown.lt hFlt (by have := KK.size; have := K6.size; omega))) (.inl hFk) hlf2 hw9, KK.trans K6 (fun j _ hj e => hj (by rw [e]; exact hFk))⟩
  · skip
    first | refine sv rfl rfl rfl (ex_pick_t rfl rfl rfl) ?_ | refine sv rfl rfl rfl (ex_pick_f rfl rfl rfl) ?_
    refine w_nil (qe_next ?_)
    refine w_cond_t rfl ?_
    refine w_seq ?_
    refine w_region ?_
    refine sv rfl rfl rfl (ex_assign rfl rfl) ?_
    refine w_nil (qe_next ?_)
    refine w_ret (qe_then_ret (qe_ret1 rfl rfl ?_))
    rw [show s.sync = (8, s.fails.2) from by unfold St.sync; rw [if_neg (by rw [hoff]; simp), if_pos hf]]
    exact ⟨rfl, hD2.grow (fun j hj => .inl hj) (grown.lt hFlt K1.size), K1.mono (fun j _ hj e => hj (by rw [e]; exact hFk))⟩
end Go.Proofs.Ytcgcklfbnmaodaa

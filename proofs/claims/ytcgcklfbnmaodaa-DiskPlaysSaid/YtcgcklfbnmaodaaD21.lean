/- The reference's Fail, Crash. -/
import Derived.Test.YtcgcklfbnmaodaaD20
namespace Go.Proofs.Ytcgcklfbnmaodaa
open Go Go.RowKit
set_option linter.unusedVariables false
set_option linter.unusedSimpArgs false
theorem rsync_c (F : Nat → Prop) (k : Nat) (s : St) (w : World) (hR : RefAt w F k s) (hpl : s.pd.length ≤ 1000) : Ret Try.prog 39 [.pointer (some ⟨k, 0, none⟩)] w fun v w' => v = .int .i64 s.sync.1 ∧ RefAt w' (grown F w w') k s.sync.2 ∧ Keep (fun j => ¬ F j) w w' := by
  cases h : s.off with
  | true => exact rsync_off F k s w hR h
  | false => exact rsync_on F k s w hR h hpl

/-- (*kinkeep/kinkeepref15.Disk).Fail -/
theorem rfail_c (z : Int) (F : Nat → Prop) (k : Nat) (s : St) (w : World) (hR : RefAt w F k s) (hz : z ≤ 9223372036854775807) :
    Ret Try.prog 40 [.pointer (some ⟨k, 0, none⟩), .int .i64 z] w fun v w' => v = .tuple #[] ∧ RefAt w' F k (s.fail z) ∧ Keep (fun j => j ≠ k) w w' := by
  obtain ⟨⟨A, cA, dsl, P, cP, wl⟩, lf, hb, hm, hFk, hlf, hwf⟩ := id hR
  have ho : Own w 0 22 1 A s.du.length cA (dsl.map slv) := hm.own
  have hd : Owns w 0 dsl s.du := hm.dat
  have hp : Own w 0 74 2 P s.pd.length cP (wcells wl) := hm.pown
  have hFlt := hm.lt
  have n1 := hwf.n1
  have n2 := hwf.n2
  have d1 := hwf.d1
  refine ret_of Try.func40 rfl rfl ?_
  refine w_seq ?_
  refine w_region ?_
  refine sv rfl rfl rfl (ex_move rfl rfl) ?_
  refine sv rfl rfl rfl (ex_nil rfl rfl) ?_
  refine sv rfl rfl rfl (ex_fieldAddr fld41_3 rfl rfl) ?_
  refine sv rfl rfl rfl (ex_load one4 rfl rfl (hb.cell rfl)) ?_
  refine sv rfl rfl rfl (ex_not rfl rfl) ?_
  refine w_nil (qe_next ?_)
  refine w_cond rfl (fun hoff => ?_) (fun hoff => ?_)
  · skip
    refine w_region ?_
    refine sv rfl rfl rfl (ex_move rfl rfl) ?_
    refine sv rfl rfl rfl (ex_move rfl rfl) ?_
    refine sv rfl rfl rfl (ex_max rfl rfl rfl rfl) ?_
    refine sv rfl rfl rfl (ex_nil rfl rfl) ?_
    refine sv rfl rfl rfl (ex_fieldAddr fld41_4 rfl rfl) ?_
    refine st0 rfl rfl (ex_store_blk sz3 rfl rfl rfl rfl hb (by simp [rcells])) ?_
    rintro _ w1 ⟨K1, hb1, hz1⟩
    refine w_nil (qe_end0 rfl ?_)
    have hw2 := hwf.fail hz
    have hfs : s.fail z = { s with left := max z (-1) } := by unfold St.fail; rw [if_neg (by simpa using hoff)]
    rw [hfs] at hw2 ⊢
    exact ⟨rfl, RefAt.intro (r := ⟨A, cA, dsl, P, cP, wl⟩) (lf := max z (-1)) hb1 (hm.keepK hb (by decide) (by decide) (by decide) K1) hFk (fun _ => rfl) hw2, K1⟩
  · skip
    refine w_skip (qe_end0 rfl ?_)
    rw [show s.fail z = s from by unfold St.fail; rw [if_pos (by simpa using hoff)]]
    exact ⟨rfl, hR, Keep.refl _ _⟩

/-- (*kinkeep/kinkeepref15.Disk).Crash -/
theorem rcrash_c (kb : List Bool) (z : Int) (Ak : Option Addr) (nk ck lo hi : Nat) (F : Nat → Prop) (k : Nat) (s : St) (w : World) (hR : RefAt w F k s) (hnk : nk = kb.length) (hrk : Rd w lo hi 1 Ak nk (kb.map Value.bool)) (hkF : ∀ g o, Ak = some ⟨g, o, none⟩ → 0 < nk → ¬ F g) (hpl : s.pd.length ≤ 1000) (hnk2 : nk ≤ 9223372036854775807) :
    Ret Try.prog 41 [.pointer (some ⟨k, 0, none⟩), .slice Ak nk ck, .int .i64 z] w fun v w' => v = .tuple #[] ∧ RefAt w' (grown F w w') k (s.crash kb z) ∧ Keep (fun j => ¬ F j) w w' := by
  obtain ⟨⟨A, cA, dsl, P, cP, wl⟩, lf, hb, hm, hFk, hlf, hwf⟩ := id hR
  have ho : Own w 0 22 1 A s.du.length cA (dsl.map slv) := hm.own
  have hd : Owns w 0 dsl s.du := hm.dat
  have hp : Own w 0 74 2 P s.pd.length cP (wcells wl) := hm.pown
  have hFlt := hm.lt
  have n1 := hwf.n1
  have n2 := hwf.n2
  have d1 := hwf.d1
  have KK := Keep.refl (fun j => ¬ F j) w
  have hcur : RefAt w (grown F w w) k { s with du := s.du } := hR.grow (fun j hj => .inl hj) (grown.lt hFlt (Nat.le_refl _))
  have hmn := tornN_le z s.n
  refine ret_of Try.func41 rfl rfl ?_
  refine w_seq ?_
  refine w_region ?_
  refine sv rfl rfl rfl (ex_assign rfl rfl) ?_
  refine w_nil (qe_next ?_)
  refine w_seq ?_
  refine w_seq ?_
  refine w_region ?_
  refine sv rfl rfl rfl (ex_assign rfl rfl) ?_
  refine w_nil (qe_next ?_)
  refine w_block ?_
  refine w_loop (ι := Nat × Bool × List (List UInt8)) (fun i => [(0, .pointer (some ⟨k, 0, none⟩)), (1, .slice Ak nk ck), (2, .int .i64 z), (6, .bool i.2.1), (7, .int .i64 (i.1 : Int))]) (fun i wL => i.1 ≤ s.pd.length ∧ crashG kb (tornN z s.n) i.1 i.2.1 (s.pd.drop i.1) i.2.2 = crashG kb (tornN z s.n) 0 true s.pd s.du ∧ i.2.2.length = s.du.length ∧ RefAt wL (grown F w wL) k { s with du := i.2.2 } ∧ Keep (fun j => ¬ F j) w wL) (fun i => s.pd.length - i.1) ((0, true, s.du)) ⟨rfl, rfl, rfl, rfl, rfl, trivial⟩ ?_ ?_
  · exact ⟨Nat.zero_le _, rfl, rfl, hcur, KK⟩
  · clear hcur KK hb hm ho hd hp
    rintro ⟨j, f, du1⟩ wL ⟨hj, hcg, hdl1, hcur, KK⟩
    simp only at hj hcg hdl1 hcur
    have KY : Ext wL wL := Keep.refl _ _
    obtain ⟨⟨A2, cA2, dsl2, P2, cP2, wl2⟩, lf2, hb2, hm2, hk2, hlf2, hwf2⟩ := id hcur
    dsimp only at hb2 hm2 hlf2
    refine w_seq ?_
    refine w_seq ?_
    refine w_region ?_
    refine sv rfl rfl rfl (ex_move rfl rfl) ?_
    refine sv rfl rfl rfl (ex_move rfl rfl) ?_
    refine sv rfl rfl rfl (ex_nil rfl rfl) ?_
    refine sv rfl rfl rfl (ex_fieldAddr fld41_2 rfl rfl) ?_
    refine sv rfl rfl rfl (ex_load one39 rfl rfl (hb2.cell rfl)) ?_
    refine sv rfl rfl rfl (ex_len Try.underlying39 rfl rfl) ?_
    refine sv rfl rfl rfl (ex_cmp rfl rfl rfl rfl) ?_
    refine w_nil (qe_next ?_)
    refine w_if rfl (fun hj2 => ?_) (fun hj2 => ?_)
    · skip
      replace hj2 : j < s.pd.length := by simp only at hj2; omega
      obtain ⟨p, y, hp9, hy9, hly, hoy⟩ := pd_get hm2 hj2
      have hp9 : wl2[j]? = some p := hp9
      have hpo : Own _ 0 74 2 P2 s.pd.length cP2 (wcells wl2) := hm2.pown
      obtain ⟨bp, op, rfl, _, _, hcp⟩ := hpo.rd.addr (by omega)
      have hg2 := wcells_get hp9
      have hpw := hwf2.pd _ (List.mem_of_getElem? hy9)
      dsimp only at hpw
      refine w_skip (qe_next ?_)
      refine w_seq ?_
      refine w_block ?_
      refine w_seq ?_
      refine w_region ?_
      refine sv rfl rfl rfl (ex_move rfl rfl) ?_
      refine sv rfl rfl rfl (ex_move rfl rfl) ?_
      refine sv rfl rfl rfl (ex_len Try.underlying46 rfl rfl) ?_
      refine sv_if rfl rfl rfl (ex_cmp rfl rfl rfl rfl) (fun hjk => ?_) (fun hjk => ?_)
      · skip
        replace hjk : j < nk := by first | omega | (simp only at hjk; omega)
        obtain ⟨bk, ok, uk, rfl, _, _, huk, hck⟩ := (hrk.keepA KK (fun g o e => hkF g o e (by omega))).at_ hjk
        rw [List.getElem?_map] at huk
        obtain ⟨bkj, hbk, rfl⟩ := Option.map_eq_some_iff.1 huk
        refine sv rfl rfl rfl (ex_move rfl rfl) ?_
        first | refine sk rfl rfl rfl ?_ | refine sv rfl rfl rfl (ex_move rfl rfl) ?_
        first | refine sk rfl rfl rfl ?_ | refine sv rfl rfl rfl (ex_move rfl rfl) ?_
        first | refine sk rfl rfl rfl ?_ | refine sv rfl rfl rfl (ex_index Try.underlying46 sz4 j rfl rfl rfl (by first | rfl | omega) (by omega)) ?_
        first | refine sk rfl rfl rfl ?_ | refine sv rfl rfl rfl (ex_load one4 rfl rfl hck) ?_
        first | refine sv rfl rfl rfl (ex_pick_t rfl rfl rfl) ?_ | refine sv rfl rfl rfl (ex_pick_f rfl rfl rfl) ?_
        refine w_nil (qe_next ?_)
        refine w_cond rfl (fun hkj => ?_) (fun hkj => ?_)
        · skip
          refine w_draw mixed (fun w1 _ Ew1 => ?_)
          replace hcur := hcur.ext Ew1
          replace KK := KK.ext Ew1
          replace KY := KY.ext Ew1
          refine wd_free 12 _ rfl rfl rfl rfl ?_
          refine fd [] rfl rfl rfl rfl rfl rfl rfl (fun w' E => ex_move rfl rfl) ?_
          refine fd [] rfl rfl rfl rfl rfl rfl rfl (fun w' E => ex_move rfl rfl) ?_
          refine fd [1] rfl rfl rfl rfl rfl rfl rfl (fun w' E => ex_nil rfl rfl) ?_
          refine fd [2] rfl rfl rfl rfl rfl rfl rfl (fun w' E => ex_fieldAddr fld41_2 rfl rfl) ?_
          refine fd [3] rfl rfl rfl rfl rfl rfl rfl (fun w' E => ex_load one39 rfl rfl ((KY.ext E).cell trivial (hb2.cell rfl))) ?_
          refine fd [] rfl rfl rfl rfl rfl rfl rfl (fun w' E => ex_move rfl rfl) ?_
          refine fd [4, 5] rfl rfl rfl rfl rfl rfl rfl (fun w' E => ex_indexN Try.underlying39 sz74 j rfl rfl rfl (by first | rfl | omega) (by omega)) ?_
          refine fd [6] rfl rfl rfl rfl rfl rfl rfl (fun w' E => ex_load_agg (cs := [.int .i64 (p.1 : Int), slv p.2]) agg74 rfl rfl (by intro q u hu; rcases q with _ | _ | q <;> simp at hu <;> subst hu <;> rw [Nat.add_assoc] <;> first | exact (KY.ext E).cell trivial (hcp _ _ hg2.1) | exact (KY.ext E).cell trivial (hcp _ _ hg2.2))) ?_
          refine fd [] rfl rfl rfl rfl rfl rfl rfl (fun w' E => ex_move rfl rfl) ?_
          refine fd [8] rfl rfl rfl rfl rfl rfl rfl (fun w' E => ex_nil rfl rfl) ?_
          refine fd [9] rfl rfl rfl rfl rfl rfl rfl (fun w' E => ex_fieldAddr fld41_0 rfl rfl) ?_
          refine fd [10] rfl rfl rfl rfl rfl rfl rfl (fun w' E => ex_load one3 rfl rfl ((KY.ext E).cell trivial (hb2.cell rfl))) ?_
          refine .nil (fun w2 Ew2 _ => ?_)
          replace hcur := hcur.ext Ew2
          replace KK := KK.ext Ew2
          replace KY := KY.ext Ew2
          replace hcur := RefAt.grow (F' := grown F w _) hcur (fun j hj => by
            have := KK.size
            rcases hj with hj | hj
            · exact .inl hj
            · exact .inr ⟨hj.1, by have := hcur.lt j (.inr hj); omega⟩) (grown.lt hFlt KK.size)
          refine wd_one rfl rfl (by kernel_rfl) rfl rfl rfl (ex_call call46 rfl rfl (rput_c p.1 s.n _ _ p.2 y (grown F w _) k { s with du := du1 } _ hcur hpw.1 hly hoy.le (by omega) (Nat.le_refl _) (hoy.rd.ext KY))) ?_
          rintro _ w3 ⟨rfl, hR3, K3⟩
          dsimp only at hR3
          rw [show y.take s.n = y from List.take_of_length_le (by omega)] at hR3
          have hR4 := (RefAt.grow (F' := grown F w _) (s := { s with du := putd du1 p.1 y }) hR3 (fun j hj => by
            have := KK.size
            have := K3.size
            rcases hj with (hj | hj) | hj
            · exact .inl hj
            · exact .inr ⟨hj.1, by omega⟩
            · exact .inr ⟨by omega, hj.2⟩) (grown.lt hFlt (Nat.le_trans KK.size K3.size)))
          replace KK := KK.trans K3 (fun j hj hS hg => by
            rcases hg with hg | hg
            · exact hS hg
            · omega)
          refine wd_nil (by decide) rfl ?_
          refine qe_in_normal (qe_next ?_)
          refine w_region ?_
          refine sv rfl rfl rfl (ex_move rfl rfl) ?_
          refine sv rfl rfl rfl (ex_add rfl rfl rfl (i64_in (by omega) (by omega))) ?_
          refine sv rfl rfl rfl (ex_assign rfl rfl) ?_
          refine w_nil (qe_round ((j + 1, f, putd du1 p.1 y)) ⟨rfl, rfl, rfl, rfl, rfl, trivial⟩ ?_ ?_)
          · exact ⟨by simp only; omega, by simp only; rw [← hcg, crash_step hy9, if_pos ⟨by omega, by rw [List.getD_eq_getElem?_getD, hbk]; exact hkj⟩], by simp only; rw [putd_length]; exact hdl1, hR4, KK⟩
          · simp only; omega
        · skip
          have hnk9 : ¬ (j < kb.length ∧ kb.getD j false = true) := fun h => by have := h.2; rw [List.getD_eq_getElem?_getD, hbk] at this; simp only [Option.getD_some] at this; rw [hkj] at this; cases this
          refine w_seq ?_
          refine w_region ?_
          refine sv rfl rfl rfl (ex_move rfl rfl) ?_
          refine w_nil (qe_next ?_)
          refine w_cond rfl (fun hff => ?_) (fun hff => ?_)
          · skip
            simp only at hff
            refine w_seq ?_
            refine w_draw mixed (fun w4 _ Ew4 => ?_)
            replace hcur := hcur.ext Ew4
            replace KK := KK.ext Ew4
            replace KY := KY.ext Ew4
            refine wd_free 15 _ rfl rfl rfl rfl ?_
            refine fd [] rfl rfl rfl rfl rfl rfl rfl (fun w' E => ex_move rfl rfl) ?_
            refine fd [] rfl rfl rfl rfl rfl rfl rfl (fun w' E => ex_move rfl rfl) ?_
            refine fd [1] rfl rfl rfl rfl rfl rfl rfl (fun w' E => ex_nil rfl rfl) ?_
            refine fd [2] rfl rfl rfl rfl rfl rfl rfl (fun w' E => ex_fieldAddr fld41_2 rfl rfl) ?_
            refine fd [3] rfl rfl rfl rfl rfl rfl rfl (fun w' E => ex_load one39 rfl rfl ((KY.ext E).cell trivial (hb2.cell rfl))) ?_
            refine fd [] rfl rfl rfl rfl rfl rfl rfl (fun w' E => ex_move rfl rfl) ?_
            refine fd [4, 5] rfl rfl rfl rfl rfl rfl rfl (fun w' E => ex_indexN Try.underlying39 sz74 j rfl rfl rfl (by first | rfl | omega) (by omega)) ?_
            refine fd [6] rfl rfl rfl rfl rfl rfl rfl (fun w' E => ex_load_agg (cs := [.int .i64 (p.1 : Int), slv p.2]) agg74 rfl rfl (by intro q u hu; rcases q with _ | _ | q <;> simp at hu <;> subst hu <;> rw [Nat.add_assoc] <;> first | exact (KY.ext E).cell trivial (hcp _ _ hg2.1) | exact (KY.ext E).cell trivial (hcp _ _ hg2.2))) ?_
            refine fd [] rfl rfl rfl rfl rfl rfl rfl (fun w' E => ex_move rfl rfl) ?_
            refine fd [8] rfl rfl rfl rfl rfl rfl rfl (fun w' E => ex_max rfl rfl rfl rfl) ?_
            refine fd [] rfl rfl rfl rfl rfl rfl rfl (fun w' E => ex_move rfl rfl) ?_
            refine fd [10] rfl rfl rfl rfl rfl rfl rfl (fun w' E => ex_nil rfl rfl) ?_
            refine fd [11] rfl rfl rfl rfl rfl rfl rfl (fun w' E => ex_fieldAddr fld41_0 rfl rfl) ?_
            refine fd [12] rfl rfl rfl rfl rfl rfl rfl (fun w' E => ex_load one3 rfl rfl ((KY.ext E).cell trivial (hb2.cell rfl))) ?_
            refine fd [9, 13] rfl rfl rfl rfl rfl rfl rfl (fun w' E => ex_min rfl rfl rfl (tornN_eq z s.n)) ?_
            refine .nil (fun w5 Ew5 _ => ?_)
            replace hcur := hcur.ext Ew5
            replace KK := KK.ext Ew5
            replace KY := KY.ext Ew5
            replace hcur := RefAt.grow (F' := grown F w _) hcur (fun j hj => by
              have := KK.size
              rcases hj with hj | hj
              · exact .inl hj
              · exact .inr ⟨hj.1, by have := hcur.lt j (.inr hj); omega⟩) (grown.lt hFlt KK.size)
            refine wd_one rfl rfl (by kernel_rfl) rfl rfl rfl (ex_call call46 rfl rfl (rput_c p.1 (tornN z s.n) _ _ p.2 y (grown F w _) k { s with du := du1 } _ hcur hpw.1 hly hoy.le (by omega) hmn (hoy.rd.ext KY))) ?_
            rintro _ w6 ⟨rfl, hR3, K3⟩
            dsimp only at hR3
            have hR4 := (RefAt.grow (F' := grown F w _) (s := { s with du := putd du1 p.1 (y.take (tornN z s.n)) }) hR3 (fun j hj => by
              have := KK.size
              have := K3.size
              rcases hj with (hj | hj) | hj
              · exact .inl hj
              · exact .inr ⟨hj.1, by omega⟩
              · exact .inr ⟨by omega, hj.2⟩) (grown.lt hFlt (Nat.le_trans KK.size K3.size)))
            replace KK := KK.trans K3 (fun j hj hS hg => by
              rcases hg with hg | hg
              · exact hS hg
              · omega)
            refine wd_nil (by decide) rfl ?_
            refine qe_next ?_
            refine w_region ?_
            refine sv rfl rfl rfl (ex_assign rfl rfl) ?_
            refine w_nil (qe_in_normal (qe_next ?_))
            refine w_region ?_
            refine sv rfl rfl rfl (ex_move rfl rfl) ?_
            refine sv rfl rfl rfl (ex_add rfl rfl rfl (i64_in (by omega) (by omega))) ?_
            refine sv rfl rfl rfl (ex_assign rfl rfl) ?_
            refine w_nil (qe_round ((j + 1, false, putd du1 p.1 (y.take (tornN z s.n)))) ⟨rfl, rfl, rfl, rfl, rfl, trivial⟩ ?_ ?_)
            · exact ⟨by simp only; omega, by simp only; rw [← hcg, crash_step hy9, if_neg hnk9, if_pos hff], by simp only; rw [putd_length]; exact hdl1, hR4, KK⟩
            · simp only; omega
          · skip
            simp only at hff
            refine w_skip (qe_in_normal (qe_next ?_))
            refine w_region ?_
            refine sv rfl rfl rfl (ex_move rfl rfl) ?_
            refine sv rfl rfl rfl (ex_add rfl rfl rfl (i64_in (by omega) (by omega))) ?_
            refine sv rfl rfl rfl (ex_assign rfl rfl) ?_
            refine w_nil (qe_round ((j + 1, f, du1)) ⟨rfl, rfl, rfl, rfl, rfl, trivial⟩ ?_ ?_)
            · exact ⟨by simp only; omega, by simp only; rw [← hcg, crash_step hy9, if_neg hnk9, if_neg (by rw [hff]; simp)], by simp only; exact hdl1, hcur, KK⟩
            · simp only; omega
      · skip
        replace hjk : ¬ j < nk := by first | omega | (simp only at hjk; omega)
        have hnk9 : ¬ (j < kb.length ∧ kb.getD j false = true) := fun h => by omega
        refine sv rfl rfl rfl (ex_move rfl rfl) ?_
        first | refine sk rfl rfl rfl ?_ | refine sv rfl rfl rfl (ex_move rfl rfl) ?_
        first | refine sk rfl rfl rfl ?_ | refine sv rfl rfl rfl (ex_move rfl rfl) ?_
        refine sk rfl rfl rfl ?_
        refine sk rfl rfl rfl ?_
        first | refine sv rfl rfl rfl (ex_pick_t rfl rfl rfl) ?_ | refine sv rfl rfl rfl (ex_pick_f rfl rfl rfl) ?_
        refine w_nil (qe_next ?_)
        refine w_cond_f rfl ?_
        refine w_seq ?_
        refine w_region ?_
        refine sv rfl rfl rfl (ex_move rfl rfl) ?_
        refine w_nil (qe_next ?_)
        refine w_cond rfl (fun hff => ?_) (fun hff => ?_)
        · skip
          simp only at hff
          refine w_seq ?_
          refine w_draw mixed (fun w7 _ Ew7 => ?_)
          replace hcur := hcur.ext Ew7
          replace KK := KK.ext Ew7
          replace KY := KY.ext Ew7
          refine wd_free 15 _ rfl rfl rfl rfl ?_
          refine fd [] rfl rfl rfl rfl rfl rfl rfl (fun w' E => ex_move rfl rfl) ?_
          refine fd [] rfl rfl rfl rfl rfl rfl rfl (fun w' E => ex_move rfl rfl) ?_
          refine fd [1] rfl rfl rfl rfl rfl rfl rfl (fun w' E => ex_nil rfl rfl) ?_
          refine fd [2] rfl rfl rfl rfl rfl rfl rfl (fun w' E => ex_fieldAddr fld41_2 rfl rfl) ?_
          refine fd [3] rfl rfl rfl rfl rfl rfl rfl (fun w' E => ex_load one39 rfl rfl ((KY.ext E).cell trivial (hb2.cell rfl))) ?_
          refine fd [] rfl rfl rfl rfl rfl rfl rfl (fun w' E => ex_move rfl rfl) ?_
          refine fd [4, 5] rfl rfl rfl rfl rfl rfl rfl (fun w' E => ex_indexN Try.underlying39 sz74 j rfl rfl rfl (by first | rfl | omega) (by omega)) ?_
          refine fd [6] rfl rfl rfl rfl rfl rfl rfl (fun w' E => ex_load_agg (cs := [.int .i64 (p.1 : Int), slv p.2]) agg74 rfl rfl (by intro q u hu; rcases q with _ | _ | q <;> simp at hu <;> subst hu <;> rw [Nat.add_assoc] <;> first | exact (KY.ext E).cell trivial (hcp _ _ hg2.1) | exact (KY.ext E).cell trivial (hcp _ _ hg2.2))) ?_
          refine fd [] rfl rfl rfl rfl rfl rfl rfl (fun w' E => ex_move rfl rfl) ?_
          refine fd [8] rfl rfl rfl rfl rfl rfl rfl (fun w' E => ex_max rfl rfl rfl rfl) ?_
          refine fd [] rfl rfl rfl rfl rfl rfl rfl (fun w' E => ex_move rfl rfl) ?_
          refine fd [10] rfl rfl rfl rfl rfl rfl rfl (fun w' E => ex_nil rfl rfl) ?_
          refine fd [11] rfl rfl rfl rfl rfl rfl rfl (fun w' E => ex_fieldAddr fld41_0 rfl rfl) ?_
          refine fd [12] rfl rfl rfl rfl rfl rfl rfl (fun w' E => ex_load one3 rfl rfl ((KY.ext E).cell trivial (hb2.cell rfl))) ?_
          refine fd [9, 13] rfl rfl rfl rfl rfl rfl rfl (fun w' E => ex_min rfl rfl rfl (tornN_eq z s.n)) ?_
          refine .nil (fun w8 Ew8 _ => ?_)
          replace hcur := hcur.ext Ew8
          replace KK := KK.ext Ew8
          replace KY := KY.ext Ew8
          replace hcur := RefAt.grow (F' := grown F w _) hcur (fun j hj => by
            have := KK.size
            rcases hj with hj | hj
            · exact .inl hj
            · exact .inr ⟨hj.1, by have := hcur.lt j (.inr hj); omega⟩) (grown.lt hFlt KK.size)
          refine wd_one rfl rfl (by kernel_rfl) rfl rfl rfl (ex_call call46 rfl rfl (rput_c p.1 (tornN z s.n) _ _ p.2 y (grown F w _) k { s with du := du1 } _ hcur hpw.1 hly hoy.le (by omega) hmn (hoy.rd.ext KY))) ?_
          rintro _ w9 ⟨rfl, hR3, K3⟩
          dsimp only at hR3
          have hR4 := (RefAt.grow (F' := grown F w _) (s := { s with du := putd du1 p.1 (y.take (tornN z s.n)) }) hR3 (fun j hj => by
            have := KK.size
            have := K3.size
            rcases hj with (hj | hj) | hj
            · exact .inl hj
            · exact .inr ⟨hj.1, by omega⟩
            · exact .inr ⟨by omega, hj.2⟩) (grown.lt hFlt (Nat.le_trans KK.size K3.size)))
          replace KK := KK.trans K3 (fun j hj hS hg => by
            rcases hg with hg | hg
            · exact hS hg
            · omega)
          refine wd_nil (by decide) rfl ?_
          refine qe_next ?_
          refine w_region ?_
          refine sv rfl rfl rfl (ex_assign rfl rfl) ?_
          refine w_nil (qe_in_normal (qe_next ?_))
          refine w_region ?_
          refine sv rfl rfl rfl (ex_move rfl rfl) ?_
          refine sv rfl rfl rfl (ex_add rfl rfl rfl (i64_in (by omega) (by omega))) ?_
          refine sv rfl rfl rfl (ex_assign rfl rfl) ?_
          refine w_nil (qe_round ((j + 1, false, putd du1 p.1 (y.take (tornN z s.n)))) ⟨rfl, rfl, rfl, rfl, rfl, trivial⟩ ?_ ?_)
          · exact ⟨by simp only; omega, by simp only; rw [← hcg, crash_step hy9, if_neg hnk9, if_pos hff], by simp only; rw [putd_length]; exact hdl1, hR4, KK⟩
          · simp only; omega
        · skip
          simp only at hff
          refine w_skip (qe_in_normal (qe_next ?_))
          refine w_region ?_
          refine sv rfl rfl rfl (ex_move rfl rfl) ?_
          refine sv rfl rfl rfl (ex_add rfl rfl rfl (i64_in (by omega) (by omega))) ?_
          refine sv rfl rfl rfl (ex_assign rfl rfl) ?_
          refine w_nil (qe_round ((j + 1, f, du1)) ⟨rfl, rfl, rfl, rfl, rfl, trivial⟩ ?_ ?_)
          · exact ⟨by simp only; omega, by simp only; rw [← hcg, crash_step hy9, if_neg hnk9, if_neg (by rw [hff]; simp)], by simp only; exact hdl1, hcur, KK⟩
          · simp only; omega
    · skip
      replace hj2 : j = s.pd.length := by simp only at hj2; omega
      subst hj2
      rw [List.drop_length] at hcg
      refine w_exit (qe_then_exit (qe_then_exit (qe_in_exit (qe_next ?_))))
      refine w_region ?_
      refine sv rfl rfl rfl (ex_move rfl rfl) ?_
      refine sv rfl rfl rfl (ex_move rfl rfl) ?_
      refine sv rfl rfl rfl (ex_move rfl rfl) ?_
      refine sv rfl rfl rfl (ex_nil rfl rfl) ?_
      refine sv rfl rfl rfl (ex_fieldAddr fld41_2 rfl rfl) ?_
      refine st0 rfl rfl (ex_store_blk sz39 rfl rfl rfl rfl hb2 (by simp [rcells])) ?_
      rintro _ w10 ⟨K6, hb6, hz6⟩
      refine sv rfl rfl rfl (ex_nil rfl rfl) ?_
      refine sv rfl rfl rfl (ex_fieldAddr fld41_3 rfl rfl) ?_
      refine st0 rfl rfl (ex_store_blk sz4 rfl rfl rfl rfl hb6 (by simp [rcells])) ?_
      rintro _ w11 ⟨K7, hb7, hz7⟩
      refine sv rfl rfl rfl (ex_nil rfl rfl) ?_
      refine sv rfl rfl rfl (ex_fieldAddr fld41_4 rfl rfl) ?_
      refine st0 rfl rfl (ex_store_blk sz3 rfl rfl rfl rfl hb7 (by simp [rcells])) ?_
      rintro _ w12 ⟨K8, hb8, hz8⟩
      refine w_nil (qe_end0 rfl ?_)
      have hw9 := hwf.crash kb z
      have KS := (K6.trans K7 (fun j _ hj => hj)).trans K8 (fun j _ hj => hj)
      have hcg2 : du1 = (s.crash kb z).du := hcg
      exact ⟨rfl, RefAt.intro (s := s.crash kb z) (r := ⟨A2, cA2, dsl2, none, 0, []⟩) (lf := -1) (by rw [← hcg2]; exact hb8) (by rw [← hcg2]; exact ((hm2.keepK hb2 (by decide) (by decide) (by decide) KS).clear.grow (fun j hj => by
        have := KS.size
        rcases hj with hj | hj
        · exact .inl hj
        · exact .inr ⟨hj.1, by omega⟩) (grown.lt hFlt (by have := KK.size; have := KS.size; omega)))) (.inl hFk) (fun _ => rfl) hw9, KK.trans KS (fun j _ hj e => hj (by rw [e]; exact hFk))⟩
end Go.Proofs.Ytcgcklfbnmaodaa

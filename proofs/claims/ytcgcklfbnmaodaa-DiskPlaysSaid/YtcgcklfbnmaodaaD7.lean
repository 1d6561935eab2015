/- Crash. -/
import Derived.Test.YtcgcklfbnmaodaaD6
namespace Go.Proofs.Ytcgcklfbnmaodaa
open Go Go.RowKit
set_option linter.unusedVariables false
set_option linter.unusedSimpArgs false
theorem crash_step {kb : List Bool} {m j : Nat} {f : Bool} {pd : List (Nat × List UInt8)} {du : List (List UInt8)} {q : Nat × List UInt8} (h : pd[j]? = some q) : crashG kb m j f (pd.drop j) du = if j < kb.length ∧ kb.getD j false = true then crashG kb m (j + 1) f (pd.drop (j + 1)) (putd du q.1 q.2)
    else if f = true then crashG kb m (j + 1) false (pd.drop (j + 1)) (putd du q.1 (q.2.take m)) else crashG kb m (j + 1) f (pd.drop (j + 1)) du := by
  obtain ⟨h1, rfl⟩ := List.getElem?_eq_some_iff.1 h
  rw [List.drop_eq_getElem_cons h1]
  rfl
theorem tornN_le (z : Int) (n : Nat) : tornN z n ≤ n := by unfold tornN; omega
theorem tornN_eq (z : Int) (n : Nat) : min (max z 0) (n : Int) = ((tornN z n : Nat) : Int) := by unfold tornN; omega

/-- (*kinkeep/disk.Disk).Crash -/
theorem crash_c (kb : List Bool) (z : Int) (Ak : Option Addr) (nk ck lo hi : Nat) (F : Nat → Prop) (k : Nat) (s : St) (w : World) (hD : DiskAt w F k s) (hnk : nk = kb.length) (hrk : Rd w lo hi 1 Ak nk (kb.map Value.bool)) (hkF : ∀ g o, Ak = some ⟨g, o, none⟩ → 0 < nk → ¬ F g) (hpl : s.pd.length ≤ 1000) (hnk2 : nk ≤ 9223372036854775807) :
    Ret Try.prog 27 [.pointer (some ⟨k, 0, none⟩), .slice Ak nk ck, .int .i64 z] w fun v w' => v = .tuple #[] ∧ DiskAt w' (grown F w w') k (s.crash kb z) ∧ Keep (fun j => ¬ F j) w w' := by
  obtain ⟨⟨A, cA, dsl, P, cP, wl⟩, rd, arm, aft, hb, hm, hFk, hdu, hrd, hnil, harm, haft, hwf⟩ := hD
  have ho : Own w 0 22 1 A rd.length cA (dsl.map slv) := hm.own
  have hd : Owns w 0 dsl rd := hm.dat
  have hp : Own w 0 66 2 P s.pd.length cP (wcells wl) := hm.pown
  have hq : Owns w 0 (wl.map (·.2)) (s.pd.map (·.2)) := hm.pdat
  have hdl : s.du.length = rd.length := by rw [hdu, List.length_map]
  have n1 := hwf.n1
  have n2 := hwf.n2
  have d1 := hwf.d1
  have hFlt := hm.lt
  have KK := Keep.refl (fun j => ¬ F j) w
  have hcur : Cur w (grown F w w) k s.n A cA P cP wl s.pd s.off arm aft s.du := Cur.grow ⟨dsl, rd, hb, hm, hnil, hrd, hdu⟩ (fun j hj => .inl hj) (grown.lt hFlt (Nat.le_refl _))
  have hmn := tornN_le z s.n
  refine ret_of Try.func27 rfl rfl ?_
  refine w_seq ?_
  refine w_region ?_
  refine sv rfl rfl rfl (ex_assign rfl rfl) ?_
  refine w_nil (qe_next ?_)
  refine w_seq ?_
  refine w_seq ?_
  refine w_region ?_
  refine sv rfl rfl rfl (ex_move rfl rfl) ?_
  refine sv rfl rfl rfl (ex_nil rfl rfl) ?_
  refine sv rfl rfl rfl (ex_fieldAddr fld62_2 rfl rfl) ?_
  refine sv rfl rfl rfl (ex_load one60 rfl rfl (hb.cell rfl)) ?_
  refine sv rfl rfl rfl (ex_len Try.underlying60 rfl rfl) ?_
  refine sv rfl rfl rfl (ex_move rfl rfl) ?_
  refine w_nil (qe_next ?_)
  refine w_block ?_
  refine w_loop (ι := Nat × Bool × List (List UInt8)) (fun i => [(0, .pointer (some ⟨k, 0, none⟩)), (1, .slice Ak nk ck), (2, .int .i64 z), (6, .bool i.2.1), (12, .slice P s.pd.length cP), (13, .int .i64 (s.pd.length : Int)), (14, .int .i64 (i.1 : Int))]) (fun i wL => i.1 ≤ s.pd.length ∧ crashG kb (tornN z s.n) i.1 i.2.1 (s.pd.drop i.1) i.2.2 = crashG kb (tornN z s.n) 0 true s.pd s.du ∧ i.2.2.length = s.du.length ∧ Cur wL (grown F w wL) k s.n A cA P cP wl s.pd s.off arm aft i.2.2 ∧ Keep (fun j => ¬ F j) w wL) (fun i => s.pd.length - i.1) ((0, true, s.du)) ⟨rfl, rfl, rfl, rfl, rfl, rfl, rfl, trivial⟩ ?_ ?_
  · exact ⟨Nat.zero_le _, rfl, rfl, hcur, KK⟩
  · clear hcur KK hb hm ho hd hp hq
    rintro ⟨j, f, du1⟩ wL ⟨hj, hcg, hdl1, hcur, KK⟩
    simp only at hj hcg hdl1 hcur
    refine w_seq ?_
    refine w_region ?_
    refine sv rfl rfl rfl (ex_cmp rfl rfl rfl rfl) ?_
    refine w_nil (qe_next ?_)
    refine w_seq ?_
    refine w_if rfl (fun hj2 => ?_) (fun hj2 => ?_)
    · skip
      replace hj2 : j < s.pd.length := by simp only at hj2; omega
      obtain ⟨dslc, rdc, hbc, hmc, hnc, hrc, hduc⟩ := id hcur
      obtain ⟨p, y, hp, hy, hly, hoy⟩ := pd_get hmc hj2
      have hp : wl[j]? = some p := hp
      have hpo : Own _ 0 66 2 P s.pd.length cP (wcells wl) := hmc.pown
      obtain ⟨bp, op, rfl, _, _, hcp⟩ := hpo.rd.addr (by omega)
      have hg2 := wcells_get hp
      have hpw := hwf.pd _ (List.mem_of_getElem? hy)
      simp only at hpw
      have hlt1 := hcur.lt
      have hszu := KK.size
      obtain ⟨u1, hu1⟩ : ∃ u1, u1 = wL := ⟨_, rfl⟩
      refine w_skip (qe_next ?_)
      refine w_seq ?_
      refine w_block ?_
      refine w_seq ?_
      refine w_region ?_
      refine sv rfl rfl rfl (ex_move rfl rfl) ?_
      refine sv rfl rfl rfl (ex_indexN Try.underlying60 sz66 j rfl rfl rfl (by first | rfl | omega) (by omega)) ?_
      refine sv rfl rfl rfl (ex_load_agg (cs := [.int .i64 (p.1 : Int), slv p.2]) agg66 rfl rfl (by intro q u hu; rcases q with _ | _ | q <;> simp at hu <;> subst hu <;> rw [Nat.add_assoc] <;> first | exact hcp _ _ hg2.1 | exact hcp _ _ hg2.2)) ?_
      refine st rfl rfl rfl (ex_alloc (z := .agg #[.int .i64 0, .slice none 0 0]) (by kernel_rfl) (cs := [.int .i64 0, .slice none 0 0]) rfl rfl) ?_
      rintro _ w1 ⟨b4, rfl, hb40, E4, hb4, hs4⟩
      replace hcur := hcur.ext E4
      replace KK := KK.ext E4
      refine sv rfl rfl rfl (ex_assign rfl rfl) ?_
      refine st0 rfl rfl (ex_store_all (cs' := [.int .i64 (p.1 : Int), slv p.2]) sz66 rfl rfl rfl (by intro v hv; simp at hv; rcases hv with rfl | rfl <;> rfl) hb4 rfl rfl) ?_
      rintro _ w2 ⟨K4, hb5, hs5⟩
      replace KK := KK.trans K4 (fun j hj hS e => by omega)
      replace hcur := hcur.local (S0 := fun _ => True) (u := wL) hFk K4 hlt1 (by omega) (by omega) hFlt KK.size
      replace hoy := (hoy.ext E4).keepT K4 (fun g cs _ hg => hg.ne hb4 (by decide))
      refine w_nil (qe_next ?_)
      refine w_block ?_
      refine w_seq ?_
      refine w_region ?_
      refine sv rfl rfl rfl (ex_move rfl rfl) ?_
      refine sv rfl rfl rfl (ex_move rfl rfl) ?_
      refine sv rfl rfl rfl (ex_len Try.underlying46 rfl rfl) ?_
      refine sv_if rfl rfl rfl (ex_cmp rfl rfl rfl rfl) (fun hjk => ?_) (fun hjk => ?_)
      · skip
        replace hjk : j < nk := by first | omega | (simp only at hjk; omega)
        obtain ⟨bk, ok, uk, rfl, _, _, huk, hck⟩ := (hrk.keepA KK (fun g o e => hkF g o e (by omega))).at_ hjk
        rw [List.getElem?_map] at huk
        obtain ⟨bkj, hbk, rfl⟩ := Option.map_eq_some_iff.1 huk
        refine sv rfl rfl rfl (ex_move rfl rfl) ?_
        first | refine sk rfl rfl rfl ?_ | refine sv rfl rfl rfl (ex_move rfl rfl) ?_
        first | refine sk rfl rfl rfl ?_ | refine sv rfl rfl rfl (ex_move rfl rfl) ?_
        first | refine sk rfl rfl rfl ?_ | refine sv rfl rfl rfl (ex_index Try.underlying46 sz4 j rfl rfl rfl (by first | rfl | omega) (by omega)) ?_
        first | refine sk rfl rfl rfl ?_ | refine sv rfl rfl rfl (ex_load one4 rfl rfl hck) ?_
        first | refine sv rfl rfl rfl (ex_pick_t rfl rfl rfl) ?_ | refine sv rfl rfl rfl (ex_pick_f rfl rfl rfl) ?_
        refine sv rfl rfl rfl (ex_assign rfl rfl) ?_
        refine w_nil (qe_next ?_)
        refine w_cond rfl (fun hkj => ?_) (fun hkj => ?_)
        · skip
          refine w_region ?_
          refine sv rfl rfl rfl (ex_move rfl rfl) ?_
          refine sv rfl rfl rfl (ex_fieldAddr fld66_0 rfl rfl) ?_
          refine sv rfl rfl rfl (ex_load one3 rfl rfl (hb5.cell rfl)) ?_
          refine sv rfl rfl rfl (ex_fieldAddr fld66_1 rfl rfl) ?_
          refine sv rfl rfl rfl (ex_load (v := .slice p.2.1 p.2.2.1 p.2.2.2) one22 rfl rfl (hb5.cell rfl)) ?_
          refine st rfl rfl rfl (ex_call call36 rfl rfl (put_cur j p.2.2.1 p.2.2.2 _ _ p.2.1 p y F k s.n A cA _ cP wl s.pd s.off arm aft du1 w _ hcur hFk hFlt KK n1 n2 (by omega) hp (by omega) hly (by omega) hoy.rd (fun g o e => ⟨o, e⟩))) ?_
          rintro _ w3 ⟨hcur2, KK2⟩
          refine w_nil (qe_in_normal (qe_in_normal (qe_next ?_)))
          refine w_region ?_
          refine sv rfl rfl rfl (ex_add rfl rfl rfl (i64_in (by omega) (by omega))) ?_
          refine sv rfl rfl rfl (ex_move rfl rfl) ?_
          refine w_nil (qe_round ((j + 1, f, putd du1 p.1 y)) ⟨rfl, rfl, rfl, rfl, rfl, rfl, rfl, trivial⟩ ?_ ?_)
          · exact ⟨by simp only; omega, by simp only; rw [← hcg, crash_step hy, if_pos ⟨by omega, by rw [List.getD_eq_getElem?_getD, hbk]; exact hkj⟩], by simp only; rw [putd_length]; exact hdl1, hcur2, KK2⟩
          · simp only; omega
        · skip
          have hnk9 : ¬ (j < kb.length ∧ kb.getD j false = true) := fun h => by have := h.2; rw [List.getD_eq_getElem?_getD, hbk] at this; simp only [Option.getD_some] at this; rw [hkj] at this; cases this
          refine w_seq ?_
          refine w_region ?_
          refine sv rfl rfl rfl (ex_move rfl rfl) ?_
          refine sv rfl rfl rfl (ex_assign rfl rfl) ?_
          refine w_nil (qe_next ?_)
          refine w_cond rfl (fun hff => ?_) (fun hff => ?_)
          · skip
            simp only at hff
            refine w_seq ?_
            refine w_draw mixed (fun w4 _ Ew4 => ?_)
            replace hcur := hcur.ext Ew4
            replace KK := KK.ext Ew4
            replace hb5 := hb5.ext Ew4
            replace hoy := hoy.ext Ew4
            obtain ⟨dslx, rdx, hbx, _⟩ := id hcur
            refine wd_free 13 _ rfl rfl rfl rfl ?_
            refine fd [] rfl rfl rfl rfl rfl rfl rfl (fun w' E => ex_move rfl rfl) ?_
            refine fd [] rfl rfl rfl rfl rfl rfl rfl (fun w' E => ex_fieldAddr fld66_0 rfl rfl) ?_
            refine fd [1] rfl rfl rfl rfl rfl rfl rfl (fun w' E => ex_load one3 rfl rfl (E.cell trivial (hb5.cell rfl))) ?_
            refine fd [] rfl rfl rfl rfl rfl rfl rfl (fun w' E => ex_fieldAddr fld66_1 rfl rfl) ?_
            refine fd [3] rfl rfl rfl rfl rfl rfl rfl (fun w' E => ex_load (v := .slice p.2.1 p.2.2.1 p.2.2.2) one22 rfl rfl (E.cell trivial (hb5.cell rfl))) ?_
            refine fd [] rfl rfl rfl rfl rfl rfl rfl (fun w' E => ex_move rfl rfl) ?_
            refine fd [5] rfl rfl rfl rfl rfl rfl rfl (fun w' E => ex_max rfl rfl rfl rfl) ?_
            refine fd [] rfl rfl rfl rfl rfl rfl rfl (fun w' E => ex_move rfl rfl) ?_
            refine fd [7] rfl rfl rfl rfl rfl rfl rfl (fun w' E => ex_nil rfl rfl) ?_
            refine fd [8] rfl rfl rfl rfl rfl rfl rfl (fun w' E => ex_fieldAddr fld62_0 rfl rfl) ?_
            refine fd [9] rfl rfl rfl rfl rfl rfl rfl (fun w' E => ex_load one3 rfl rfl (E.cell trivial (hbx.cell rfl))) ?_
            refine fd [6, 10] rfl rfl rfl rfl rfl rfl rfl (fun w' E => ex_min rfl rfl rfl (tornN_eq z s.n)) ?_
            refine fd [4, 11] rfl rfl rfl rfl rfl rfl rfl (fun w' E => ex_slice Try.underlying22 sz5 0 (tornN z s.n) rfl rfl (.inl ⟨rfl, rfl⟩) (.inr ⟨_, _, _, rfl, rfl, rfl⟩) (Nat.zero_le _) (by have := hoy.le; omega)) ?_
            refine .nil (fun w5 Ew5 _ => ?_)
            replace hcur := hcur.ext Ew5
            replace KK := KK.ext Ew5
            replace hb5 := hb5.ext Ew5
            replace hoy := hoy.ext Ew5
            have hcut := hoy.rd.cut (l := 0) (hh := tornN z s.n) (m := p.2.2.2) (Nat.zero_le _) (by omega) hoy.le
            rw [show List.take ((tornN z s.n - 0) * 1) (List.drop (0 * 1) (bcells y)) = bcells (y.take (tornN z s.n)) from by simp [bcells]] at hcut
            replace hcur := hcur.grow (F' := grown F w _) (fun j hj => by
              rcases hj with hj | hj
              · exact .inl hj
              · exact .inr ⟨hj.1, by have := hcur.lt j (.inr hj); omega⟩) (grown.lt hFlt KK.size)
            refine wd_one rfl rfl (by kernel_rfl) rfl rfl rfl (ex_call call36 rfl rfl (put_cur j (tornN z s.n - 0) (p.2.2.2 - 0) _ _ _ p (y.take (tornN z s.n)) F k s.n A cA _ cP wl s.pd s.off arm aft du1 w _ hcur hFk hFlt KK n1 n2 (by omega) hp (by omega) (by rw [List.length_take]; omega) (by omega) hcut (fun g o e => by
              cases hpa : p.2.1 with
              | none => rw [hpa] at e; split at e <;> cases e
              | some a =>
                rw [hpa] at e
                rcases hoy.form with ⟨h, _⟩ | ⟨g2, h, _⟩
                · rw [hpa] at h; cases h
                · rw [hpa] at h; injection h with h; subst h
                  refine ⟨0, ?_⟩
                  split at e
                  · injection e with e; injection e with e1 e2; subst e1; rfl
                  · rw [Option.map_some, add_lit'] at e; injection e with e; injection e with e1 e2; subst e1; rfl))) ?_
            rintro _ w6 ⟨hcur2, KK2⟩
            refine wd_nil (by decide) rfl ?_
            refine qe_next ?_
            refine w_region ?_
            refine sv rfl rfl rfl (ex_assign rfl rfl) ?_
            refine w_nil (qe_in_normal (qe_in_normal (qe_next ?_)))
            refine w_region ?_
            refine sv rfl rfl rfl (ex_add rfl rfl rfl (i64_in (by omega) (by omega))) ?_
            refine sv rfl rfl rfl (ex_move rfl rfl) ?_
            refine w_nil (qe_round ((j + 1, false, putd du1 p.1 (y.take (tornN z s.n)))) ⟨rfl, rfl, rfl, rfl, rfl, rfl, rfl, trivial⟩ ?_ ?_)
            · exact ⟨by simp only; omega, by simp only; rw [← hcg, crash_step hy, if_neg hnk9, if_pos hff], by simp only; rw [putd_length]; exact hdl1, hcur2, KK2⟩
            · simp only; omega
          · skip
            simp only at hff
            refine w_skip (qe_in_normal (qe_in_normal (qe_next ?_)))
            refine w_region ?_
            refine sv rfl rfl rfl (ex_add rfl rfl rfl (i64_in (by omega) (by omega))) ?_
            refine sv rfl rfl rfl (ex_move rfl rfl) ?_
            refine w_nil (qe_round ((j + 1, f, du1)) ⟨rfl, rfl, rfl, rfl, rfl, rfl, rfl, trivial⟩ ?_ ?_)
            · exact ⟨by simp only; omega, by simp only; rw [← hcg, crash_step hy, if_neg hnk9, if_neg (by rw [hff]; simp)], by simp only; exact hdl1, hcur, KK⟩
            · simp only; omega
      · skip
        replace hjk : ¬ j < nk := by first | omega | (simp only at hjk; omega)
        have hnk9 : ¬ (j < kb.length ∧ kb.getD j false = true) := fun h => by omega
        refine sv rfl rfl rfl (ex_move rfl rfl) ?_
        first | refine sk rfl rfl rfl ?_ | refine sv rfl rfl rfl (ex_move rfl rfl) ?_
        first | refine sk rfl rfl rfl ?_ | refine sv rfl rfl rfl (ex_move rfl rfl) ?_
        refine sk rfl rfl rfl ?_
        refine sk rfl rfl rfl ?_
        first | refine sv rfl rfl rfl (ex_pick_t rfl rfl rfl) ?_ | refine sv rfl rfl rfl (ex_pick_f rfl rfl rfl) ?_
        refine sv rfl rfl rfl (ex_assign rfl rfl) ?_
        refine w_nil (qe_next ?_)
        refine w_cond_f rfl ?_
        refine w_seq ?_
        refine w_region ?_
        refine sv rfl rfl rfl (ex_move rfl rfl) ?_
        refine sv rfl rfl rfl (ex_assign rfl rfl) ?_
        refine w_nil (qe_next ?_)
        refine w_cond rfl (fun hff => ?_) (fun hff => ?_)
        · skip
          simp only at hff
          refine w_seq ?_
          refine w_draw mixed (fun w7 _ Ew7 => ?_)
          replace hcur := hcur.ext Ew7
          replace KK := KK.ext Ew7
          replace hb5 := hb5.ext Ew7
          replace hoy := hoy.ext Ew7
          obtain ⟨dslx, rdx, hbx, _⟩ := id hcur
          refine wd_free 13 _ rfl rfl rfl rfl ?_
          refine fd [] rfl rfl rfl rfl rfl rfl rfl (fun w' E => ex_move rfl rfl) ?_
          refine fd [] rfl rfl rfl rfl rfl rfl rfl (fun w' E => ex_fieldAddr fld66_0 rfl rfl) ?_
          refine fd [1] rfl rfl rfl rfl rfl rfl rfl (fun w' E => ex_load one3 rfl rfl (E.cell trivial (hb5.cell rfl))) ?_
          refine fd [] rfl rfl rfl rfl rfl rfl rfl (fun w' E => ex_fieldAddr fld66_1 rfl rfl) ?_
          refine fd [3] rfl rfl rfl rfl rfl rfl rfl (fun w' E => ex_load (v := .slice p.2.1 p.2.2.1 p.2.2.2) one22 rfl rfl (E.cell trivial (hb5.cell rfl))) ?_
          refine fd [] rfl rfl rfl rfl rfl rfl rfl (fun w' E => ex_move rfl rfl) ?_
          refine fd [5] rfl rfl rfl rfl rfl rfl rfl (fun w' E => ex_max rfl rfl rfl rfl) ?_
          refine fd [] rfl rfl rfl rfl rfl rfl rfl (fun w' E => ex_move rfl rfl) ?_
          refine fd [7] rfl rfl rfl rfl rfl rfl rfl (fun w' E => ex_nil rfl rfl) ?_
          refine fd [8] rfl rfl rfl rfl rfl rfl rfl (fun w' E => ex_fieldAddr fld62_0 rfl rfl) ?_
          refine fd [9] rfl rfl rfl rfl rfl rfl rfl (fun w' E => ex_load one3 rfl rfl (E.cell trivial (hbx.cell rfl))) ?_
          refine fd [6, 10] rfl rfl rfl rfl rfl rfl rfl (fun w' E => ex_min rfl rfl rfl (tornN_eq z s.n)) ?_
          refine fd [4, 11] rfl rfl rfl rfl rfl rfl rfl (fun w' E => ex_slice Try.underlying22 sz5 0 (tornN z s.n) rfl rfl (.inl ⟨rfl, rfl⟩) (.inr ⟨_, _, _, rfl, rfl, rfl⟩) (Nat.zero_le _) (by have := hoy.le; omega)) ?_
          refine .nil (fun w8 Ew8 _ => ?_)
          replace hcur := hcur.ext Ew8
          replace KK := KK.ext Ew8
          replace hb5 := hb5.ext Ew8
          replace hoy := hoy.ext Ew8
          have hcut := hoy.rd.cut (l := 0) (hh := tornN z s.n) (m := p.2.2.2) (Nat.zero_le _) (by omega) hoy.le
          rw [show List.take ((tornN z s.n - 0) * 1) (List.drop (0 * 1) (bcells y)) = bcells (y.take (tornN z s.n)) from by simp [bcells]] at hcut
          replace hcur := hcur.grow (F' := grown F w _) (fun j hj => by
            rcases hj with hj | hj
            · exact .inl hj
            · exact .inr ⟨hj.1, by have := hcur.lt j (.inr hj); omega⟩) (grown.lt hFlt KK.size)
          refine wd_one rfl rfl (by kernel_rfl) rfl rfl rfl (ex_call call36 rfl rfl (put_cur j (tornN z s.n - 0) (p.2.2.2 - 0) _ _ _ p (y.take (tornN z s.n)) F k s.n A cA _ cP wl s.pd s.off arm aft du1 w _ hcur hFk hFlt KK n1 n2 (by omega) hp (by omega) (by rw [List.length_take]; omega) (by omega) hcut (fun g o e => by
            cases hpa : p.2.1 with
            | none => rw [hpa] at e; split at e <;> cases e
            | some a =>
              rw [hpa] at e
              rcases hoy.form with ⟨h, _⟩ | ⟨g2, h, _⟩
              · rw [hpa] at h; cases h
              · rw [hpa] at h; injection h with h; subst h
                refine ⟨0, ?_⟩
                split at e
                · injection e with e; injection e with e1 e2; subst e1; rfl
                · rw [Option.map_some, add_lit'] at e; injection e with e; injection e with e1 e2; subst e1; rfl))) ?_
          rintro _ w9 ⟨hcur2, KK2⟩
          refine wd_nil (by decide) rfl ?_
          refine qe_next ?_
          refine w_region ?_
          refine sv rfl rfl rfl (ex_assign rfl rfl) ?_
          refine w_nil (qe_in_normal (qe_in_normal (qe_next ?_)))
          refine w_region ?_
          refine sv rfl rfl rfl (ex_add rfl rfl rfl (i64_in (by omega) (by omega))) ?_
          refine sv rfl rfl rfl (ex_move rfl rfl) ?_
          refine w_nil (qe_round ((j + 1, false, putd du1 p.1 (y.take (tornN z s.n)))) ⟨rfl, rfl, rfl, rfl, rfl, rfl, rfl, trivial⟩ ?_ ?_)
          · exact ⟨by simp only; omega, by simp only; rw [← hcg, crash_step hy, if_neg hnk9, if_pos hff], by simp only; rw [putd_length]; exact hdl1, hcur2, KK2⟩
          · simp only; omega
        · skip
          simp only at hff
          refine w_skip (qe_in_normal (qe_in_normal (qe_next ?_)))
          refine w_region ?_
          refine sv rfl rfl rfl (ex_add rfl rfl rfl (i64_in (by omega) (by omega))) ?_
          refine sv rfl rfl rfl (ex_move rfl rfl) ?_
          refine w_nil (qe_round ((j + 1, f, du1)) ⟨rfl, rfl, rfl, rfl, rfl, rfl, rfl, trivial⟩ ?_ ?_)
          · exact ⟨by simp only; omega, by simp only; rw [← hcg, crash_step hy, if_neg hnk9, if_neg (by rw [hff]; simp)], by simp only; exact hdl1, hcur, KK⟩
          · simp only; omega
    · skip
      replace hj2 : j = s.pd.length := by simp only at hj2; omega
      subst hj2
      rw [List.drop_length] at hcg
      obtain ⟨dslc, rdc, hbc, hmc, hnc, hrc, hduc⟩ := hcur
      refine w_exit (qe_then_exit (qe_then_exit (qe_in_exit (qe_next ?_))))
      refine w_region ?_
      refine sv rfl rfl rfl (ex_move rfl rfl) ?_
      refine sv rfl rfl rfl (ex_move rfl rfl) ?_
      refine sv rfl rfl rfl (ex_move rfl rfl) ?_
      refine sv rfl rfl rfl (ex_nil rfl rfl) ?_
      refine sv rfl rfl rfl (ex_fieldAddr fld62_2 rfl rfl) ?_
      refine st0 rfl rfl (ex_store_blk sz60 rfl rfl rfl rfl hbc (by simp [dcells])) ?_
      rintro _ w10 ⟨K6, hb6, hz6⟩
      refine sv rfl rfl rfl (ex_nil rfl rfl) ?_
      refine sv rfl rfl rfl (ex_fieldAddr fld62_3 rfl rfl) ?_
      refine st0 rfl rfl (ex_store_blk sz4 rfl rfl rfl rfl hb6 (by simp [dcells])) ?_
      rintro _ w11 ⟨K7, hb7, hz7⟩
      refine sv rfl rfl rfl (ex_nil rfl rfl) ?_
      refine sv rfl rfl rfl (ex_fieldAddr fld62_4 rfl rfl) ?_
      refine st0 rfl rfl (ex_store_blk sz4 rfl rfl rfl rfl hb7 (by simp [dcells])) ?_
      rintro _ w12 ⟨K8, hb8, hz8⟩
      refine w_nil (qe_end0 rfl ?_)
      have hw9 := hwf.crash kb z
      have KS := (K6.trans K7 (fun j _ hj => hj)).trans K8 (fun j _ hj => hj)
      exact ⟨rfl, DiskAt.intro (s := s.crash kb z) (r := ⟨A, cA, dslc, none, 0, []⟩) (rd := rdc) (arm := false) (aft := aft) hb8 ((hmc.keepK hbc (by decide) (by decide) (by decide) KS).clear.grow (fun j hj => by
        have := KS.size
        rcases hj with hj | hj
        · exact .inl hj
        · exact .inr ⟨hj.1, by omega⟩) (grown.lt hFlt (by have := KK.size; have := KS.size; omega))) (.inl hFk) (by show crashG _ _ _ _ _ _ = _; rw [← hcg]; exact hduc) hrc hnc rfl (fun h => by simp [St.crash] at h) hw9, KK.trans KS (fun j _ hj e => hj (by rw [e]; exact hFk))⟩
end Go.Proofs.Ytcgcklfbnmaodaa

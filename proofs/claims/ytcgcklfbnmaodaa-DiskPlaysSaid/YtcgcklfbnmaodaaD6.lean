/- Sync. -/
import Derived.Test.YtcgcklfbnmaodaaD5
namespace Go.Proofs.Ytcgcklfbnmaodaa
open Go Go.RowKit
set_option linter.unusedVariables false
set_option linter.unusedSimpArgs false
theorem Cur.ext {w w' : World} {F : Nat → Prop} {k n cA cP : Nat} {A P : Option Addr} {wl : List (Nat × Sl)} {pd : List (Nat × List UInt8)} {off arm : Bool} {aft : Int} {du : List (List UInt8)} (h : Cur w F k n A cA P cP wl pd off arm aft du) (K : Ext w w') : Cur w' F k n A cA P cP wl pd off arm aft du := by
  obtain ⟨dsl, rd, hb, hm, rest⟩ := h
  exact ⟨dsl, rd, hb.ext K, hm.ext K, rest⟩
theorem Cur.lt {w : World} {F : Nat → Prop} {k n cA cP : Nat} {A P : Option Addr} {wl : List (Nat × Sl)} {pd : List (Nat × List UInt8)} {off arm : Bool} {aft : Int} {du : List (List UInt8)} (h : Cur w F k n A cA P cP wl pd off arm aft du) : ∀ j, F j → j < w.heap.size := by
  obtain ⟨dsl, rd, hb, hm, rest⟩ := h
  exact hm.lt
theorem Cur.grow {w : World} {F F' : Nat → Prop} {k n cA cP : Nat} {A P : Option Addr} {wl : List (Nat × Sl)} {pd : List (Nat × List UInt8)} {off arm : Bool} {aft : Int} {du : List (List UInt8)} (h : Cur w F k n A cA P cP wl pd off arm aft du) (hF : ∀ j, F j → F' j) (hl : ∀ j, F' j → j < w.heap.size) : Cur w F' k n A cA P cP wl pd off arm aft du := by
  obtain ⟨dsl, rd, hb, hm, rest⟩ := h
  exact ⟨dsl, rd, hb, hm.grow hF hl, rest⟩
/-- a fresh block of the call's own, written -/
theorem Cur.local {w0 w w' : World} {F : Nat → Prop} {k n cA cP b : Nat} {A P : Option Addr} {wl : List (Nat × Sl)} {pd : List (Nat × List UInt8)} {off arm : Bool} {aft : Int} {du : List (List UInt8)} {S0 : Nat → Prop} {u : World} (h : Cur w (grown F w0 u) k n A cA P cP wl pd off arm aft du) (hFk : F k) (K : Keep (fun j => j ≠ b) w w') (hlt : ∀ j, grown F w0 u j → j < u.heap.size) (hb : u.heap.size ≤ b) (hu : u.heap.size ≤ w.heap.size) (hF : ∀ j, F j → j < w0.heap.size) (h0 : w0.heap.size ≤ w'.heap.size) : Cur w' (grown F w0 w') k n A cA P cP wl pd off arm aft du :=
  (h.keep K (.inl hFk) fun j hj e => by have := hlt j hj; omega).grow (fun j hj => by
    have := K.size
    rcases hj with hj | hj
    · exact .inl hj
    · exact .inr ⟨hj.1, by omega⟩) (grown.lt hF h0)

/-- (*kinkeep/disk.Disk).Sync -/
theorem sync_off (F : Nat → Prop) (k : Nat) (s : St) (w : World) (hD : DiskAt w F k s) (hoff : s.off = true) :
    Ret Try.prog 16 [.pointer (some ⟨k, 0, none⟩)] w fun v w' => v = .int .i64 s.sync.1 ∧ DiskAt w' (grown F w w') k s.sync.2 ∧ Keep (fun j => ¬ F j) w w' := by
  obtain ⟨⟨A, cA, dsl, P, cP, wl⟩, rd, arm, aft, hb, hm, hFk, hdu, hrd, hnil, harm, haft, hwf⟩ := id hD
  have ho : Own w 0 22 1 A rd.length cA (dsl.map slv) := hm.own
  have hd : Owns w 0 dsl rd := hm.dat
  have hp : Own w 0 66 2 P s.pd.length cP (wcells wl) := hm.pown
  have hq : Owns w 0 (wl.map (·.2)) (s.pd.map (·.2)) := hm.pdat
  have hdl : s.du.length = rd.length := by rw [hdu, List.length_map]
  have n1 := hwf.n1
  have n2 := hwf.n2
  have d1 := hwf.d1
  rw [hoff] at hb
  refine ret_of Try.func16 rfl rfl ?_
  refine w_seq ?_
  refine w_region ?_
  refine sv rfl rfl rfl (ex_assign rfl rfl) ?_
  refine w_nil (qe_next ?_)
  refine w_seq ?_
  refine w_seq ?_
  refine w_region ?_
  refine sv rfl rfl rfl (ex_move rfl rfl) ?_
  refine sv rfl rfl rfl (ex_nil rfl rfl) ?_
  refine sv rfl rfl rfl (ex_fieldAddr fld62_3 rfl rfl) ?_
  refine sv rfl rfl rfl (ex_load one4 rfl rfl (hb.cell rfl)) ?_
  refine sv rfl rfl rfl (ex_move rfl rfl) ?_
  first | refine sk rfl rfl rfl ?_ | refine sv rfl rfl rfl (ex_move rfl rfl) ?_
  refine sk rfl rfl rfl ?_
  first | refine sv rfl rfl rfl (ex_pick_t rfl rfl rfl) ?_ | refine sv rfl rfl rfl (ex_pick_f rfl rfl rfl) ?_
  refine w_nil (qe_next ?_)
  refine w_cond_t rfl ?_
  refine w_seq ?_
  refine w_region ?_
  refine sv rfl rfl rfl (ex_assign rfl rfl) ?_
  refine w_nil (qe_next ?_)
  refine w_ret (qe_then_ret (qe_ret1 rfl rfl ?_))
  rw [show s.sync = (8, s) from by unfold St.sync; rw [if_pos hoff]]
  exact ⟨rfl, hD.grow (fun j hj => .inl hj) (grown.lt hD.lt (Nat.le_refl _)), Keep.refl _ _⟩

/-- (*kinkeep/disk.Disk).Sync -/
theorem sync_on (F : Nat → Prop) (k : Nat) (s : St) (w : World) (hD : DiskAt w F k s) (hoff : s.off = false) (hpl : s.pd.length ≤ 1000) :
    Ret Try.prog 16 [.pointer (some ⟨k, 0, none⟩)] w fun v w' => v = .int .i64 s.sync.1 ∧ DiskAt w' (grown F w w') k s.sync.2 ∧ Keep (fun j => ¬ F j) w w' := by
  obtain ⟨⟨A, cA, dsl, P, cP, wl⟩, rd, arm, aft, hb, hm, hFk, hdu, hrd, hnil, harm, haft, hwf⟩ := id hD
  have ho : Own w 0 22 1 A rd.length cA (dsl.map slv) := hm.own
  have hd : Owns w 0 dsl rd := hm.dat
  have hp : Own w 0 66 2 P s.pd.length cP (wcells wl) := hm.pown
  have hq : Owns w 0 (wl.map (·.2)) (s.pd.map (·.2)) := hm.pdat
  have hdl : s.du.length = rd.length := by rw [hdu, List.length_map]
  have n1 := hwf.n1
  have n2 := hwf.n2
  have d1 := hwf.d1
  rw [hoff] at hb
  refine ret_of Try.func16 rfl rfl ?_
  refine w_seq ?_
  refine w_region ?_
  refine sv rfl rfl rfl (ex_assign rfl rfl) ?_
  refine w_nil (qe_next ?_)
  refine w_seq ?_
  refine w_seq ?_
  refine w_region ?_
  refine sv rfl rfl rfl (ex_move rfl rfl) ?_
  refine sv rfl rfl rfl (ex_nil rfl rfl) ?_
  refine sv rfl rfl rfl (ex_fieldAddr fld62_3 rfl rfl) ?_
  refine sv rfl rfl rfl (ex_load one4 rfl rfl (hb.cell rfl)) ?_
  refine sv rfl rfl rfl (ex_move rfl rfl) ?_
  first | refine sk rfl rfl rfl ?_ | refine sv rfl rfl rfl (ex_move rfl rfl) ?_
  refine st rfl rfl rfl (ex_call call33 rfl rfl (fails_c F k s _ hD)) ?_
  rintro _ w1 ⟨rfl, hD2, K1⟩
  cases hf : s.fails.1
  · skip
    first | refine sv rfl rfl rfl (ex_pick_t rfl rfl rfl) ?_ | refine sv rfl rfl rfl (ex_pick_f rfl rfl rfl) ?_
    refine w_nil (qe_next ?_)
    refine w_cond_f rfl ?_
    refine w_skip (qe_next ?_)
    refine w_seq ?_
    refine w_seq ?_
    have KK : Keep (fun j => ¬ F j) w _ := K1.mono (fun j _ hj e => hj (by rw [e]; exact hFk))
    obtain ⟨s2, hs2⟩ : ∃ s2, s2 = s.fails.2 := ⟨_, rfl⟩
    rw [← hs2] at hD2
    have hfp := s.fails_pd
    rw [← hs2] at hfp
    obtain ⟨⟨A2, cA2, dsl2, P2, cP2, wl2⟩, rd2, arm2, aft2, hb2, hm2, _, hdu2, hrd2, hnil2, harm2, haft2, hwf2⟩ := hD2
    have hcur : Cur _ F k s2.n A2 cA2 P2 cP2 wl2 s2.pd s2.off arm2 aft2 s2.du := ⟨dsl2, rd2, hb2, hm2, hnil2, hrd2, hdu2⟩
    have hFlt := hm.lt
    replace hcur := hcur.grow (F' := grown F w _) (fun j hj => .inl hj) (grown.lt hFlt KK.size)
    have n1 := hwf2.n1
    have n2 := hwf2.n2
    have d1 := hwf2.d1
    have hpl2 : s2.pd.length ≤ 1000 := by rw [hfp.1]; exact hpl
    refine w_region ?_
    refine sv rfl rfl rfl (ex_move rfl rfl) ?_
    refine sv rfl rfl rfl (ex_nil rfl rfl) ?_
    refine sv rfl rfl rfl (ex_fieldAddr fld62_2 rfl rfl) ?_
    refine sv rfl rfl rfl (ex_load one60 rfl rfl (hb2.cell rfl)) ?_
    refine sv rfl rfl rfl (ex_len Try.underlying60 rfl rfl) ?_
    refine sv rfl rfl rfl (ex_move rfl rfl) ?_
    refine w_nil (qe_next ?_)
    refine w_block ?_
    refine w_loop (ι := Nat × List (List UInt8)) (fun i => [(0, .pointer (some ⟨k, 0, none⟩)), (16, .slice P2 s2.pd.length cP2), (17, .int .i64 (s2.pd.length : Int)), (18, .int .i64 (i.1 : Int))]) (fun i wL => i.1 ≤ s2.pd.length ∧ i.2 = (s2.pd.take i.1).foldl (fun du p => putd du p.1 p.2) s2.du ∧ Cur wL (grown F w wL) k s2.n A2 cA2 P2 cP2 wl2 s2.pd s2.off arm2 aft2 i.2 ∧ Keep (fun j => ¬ F j) w wL) (fun i => s2.pd.length - i.1) ((0, s2.du)) ⟨rfl, rfl, rfl, rfl, trivial⟩ ?_ ?_
    · exact ⟨Nat.zero_le _, by simp, hcur, KK⟩
    · clear hcur KK K1 hb2 hm2
      rintro ⟨j, du1⟩ wL ⟨hj, hdu1, hcur, KK⟩
      simp only at hj hdu1 hcur
      have hdl1 : du1.length = s2.du.length := by rw [hdu1]; exact (flushG (n := s2.n) _ _ hwf2.du (fun p hp => Nat.le_of_eq (hwf2.pd p (List.mem_of_mem_take hp)).2)).2
      refine w_seq ?_
      refine w_region ?_
      refine sv rfl rfl rfl (ex_cmp rfl rfl rfl rfl) ?_
      refine w_nil (qe_next ?_)
      refine w_seq ?_
      refine w_if rfl (fun hj2 => ?_) (fun hj2 => ?_)
      · skip
        replace hj2 : j < s2.pd.length := by simp only at hj2; omega
        obtain ⟨dslc, rdc, hbc, hmc, hnc, hrc, hduc⟩ := id hcur
        obtain ⟨p, y, hp, hy, hly, hoy⟩ := pd_get hmc hj2
        have hp : wl2[j]? = some p := hp
        have hpo : Own _ 0 66 2 P2 s2.pd.length cP2 (wcells wl2) := hmc.pown
        obtain ⟨bp, op, rfl, _, _, hcp⟩ := hpo.rd.addr (by omega)
        have hg2 := wcells_get hp
        have hpw := hwf2.pd _ (List.mem_of_getElem? hy)
        simp only at hpw
        have hlt1 := hcur.lt
        have hszu := KK.size
        obtain ⟨u1, hu1⟩ : ∃ u1, u1 = wL := ⟨_, rfl⟩
        refine w_skip (qe_next ?_)
        refine w_seq ?_
        refine w_block ?_
        refine w_seq ?_
        refine w_region ?_
        refine sv rfl rfl rfl (ex_indexN Try.underlying60 sz66 j rfl rfl rfl (by first | rfl | omega) (by omega)) ?_
        refine sv rfl rfl rfl (ex_load_agg (cs := [.int .i64 (p.1 : Int), slv p.2]) agg66 rfl rfl (by intro q u hu; rcases q with _ | _ | q <;> simp at hu <;> subst hu <;> rw [Nat.add_assoc] <;> first | exact hcp _ _ hg2.1 | exact hcp _ _ hg2.2)) ?_
        refine st rfl rfl rfl (ex_alloc (z := .agg #[.int .i64 0, .slice none 0 0]) (by kernel_rfl) (cs := [.int .i64 0, .slice none 0 0]) rfl rfl) ?_
        rintro _ w2 ⟨b4, rfl, hb40, E4, hb4, hs4⟩
        replace hcur := hcur.ext E4
        replace KK := KK.ext E4
        refine st0 rfl rfl (ex_store_all (cs' := [.int .i64 (p.1 : Int), slv p.2]) sz66 rfl rfl rfl (by intro v hv; simp at hv; rcases hv with rfl | rfl <;> rfl) hb4 rfl rfl) ?_
        rintro _ w3 ⟨K4, hb5, hs5⟩
        replace KK := KK.trans K4 (fun j hj hS e => by omega)
        replace hcur := hcur.local (S0 := fun _ => True) (u := wL) hFk K4 hlt1 (by omega) (by omega) hFlt KK.size
        replace hoy := (hoy.ext E4).keepT K4 (fun g cs _ hg => hg.ne hb4 (by decide))
        refine w_nil (qe_next ?_)
        refine w_region ?_
        refine sv rfl rfl rfl (ex_move rfl rfl) ?_
        refine sv rfl rfl rfl (ex_fieldAddr fld66_0 rfl rfl) ?_
        refine sv rfl rfl rfl (ex_load one3 rfl rfl (hb5.cell rfl)) ?_
        refine sv rfl rfl rfl (ex_fieldAddr fld66_1 rfl rfl) ?_
        refine sv rfl rfl rfl (ex_load (v := .slice p.2.1 p.2.2.1 p.2.2.2) one22 rfl rfl (hb5.cell rfl)) ?_
        refine st rfl rfl rfl (ex_call call36 rfl rfl (put_cur j p.2.2.1 p.2.2.2 _ _ p.2.1 p y F k s2.n A2 cA2 _ cP2 wl2 s2.pd s2.off arm2 aft2 du1 w _ hcur hFk hFlt KK n1 n2 (by omega) hp (by omega) hly (by omega) hoy.rd (fun g o e => ⟨o, e⟩))) ?_
        rintro _ w4 ⟨hcur2, KK2⟩
        refine w_nil (qe_in_normal (qe_next ?_))
        refine w_region ?_
        refine sv rfl rfl rfl (ex_add rfl rfl rfl (i64_in (by omega) (by omega))) ?_
        refine sv rfl rfl rfl (ex_move rfl rfl) ?_
        refine w_nil (qe_round ((j + 1, putd du1 p.1 y)) ⟨rfl, rfl, rfl, rfl, trivial⟩ ?_ ?_)
        · exact ⟨by simp only; omega, by simp only; rw [List.take_add_one, hy, hdu1, List.foldl_append]; rfl, hcur2, KK2⟩
        · simp only; omega
      · skip
        replace hj2 : j = s2.pd.length := by simp only at hj2; omega
        subst hj2
        rw [List.take_length] at hdu1
        obtain ⟨dslc, rdc, hbc, hmc, hnc, hrc, hduc⟩ := hcur
        refine w_exit (qe_then_exit (qe_then_exit (qe_in_exit (qe_next ?_))))
        refine w_seq ?_
        refine w_region ?_
        refine sv rfl rfl rfl (ex_move rfl rfl) ?_
        refine sv rfl rfl rfl (ex_nil rfl rfl) ?_
        refine sv rfl rfl rfl (ex_fieldAddr fld62_2 rfl rfl) ?_
        refine st0 rfl rfl (ex_store_blk sz60 rfl rfl rfl rfl hbc (by simp [dcells])) ?_
        rintro _ w5 ⟨K6, hb6, hz6⟩
        refine w_nil (qe_next ?_)
        refine w_seq ?_
        refine w_region ?_
        refine sv rfl rfl rfl (ex_assign rfl rfl) ?_
        refine w_nil (qe_next ?_)
        refine w_ret (qe_ret1 rfl rfl ?_)
        have hsy : s.sync = (0, { s2 with du := s2.flush, pd := [] }) := by unfold St.sync; rw [if_neg (by rw [hoff]; simp), if_neg (by rw [hf]; simp), hs2]
        have hw9 := hwf.sync
        rw [hsy] at hw9 ⊢
        exact ⟨rfl, DiskAt.intro (r := ⟨A2, cA2, dslc, none, 0, []⟩) (rd := rdc) (arm := arm2) (aft := aft2) hb6 ((hmc.keepK hbc (by decide) (by decide) (by decide) K6).clear.grow (fun j hj => by
          have := K6.size
          rcases hj with hj | hj
          · exact .inl hj
          · exact .inr ⟨hj.1, by omega⟩) (grown.lt hFlt (by have := KK.size; have := K6.size; omega))) (.inl hFk) (by rw [← hduc, hdu1]; rfl) hrc hnc harm2 haft2 hw9, KK.trans K6 (fun j _ hj e => hj (by rw [e]; exact hFk))⟩
  · skip
    first | refine sv rfl rfl rfl (ex_pick_t rfl rfl rfl) ?_ | refine sv rfl rfl rfl (ex_pick_f rfl rfl rfl) ?_
    refine w_nil (qe_next ?_)
    refine w_cond_t rfl ?_
    refine w_seq ?_
    refine w_region ?_
    refine sv rfl rfl rfl (ex_assign rfl rfl) ?_
    refine w_nil (qe_next ?_)
    refine w_ret (qe_then_ret (qe_ret1 rfl rfl ?_))
    rw [show s.sync = (8, s.fails.2) from by unfold St.sync; rw [if_neg (by rw [hoff]; simp), if_pos hf]]
    exact ⟨rfl, hD2.grow (fun j hj => .inl hj) (grown.lt hm.lt K1.size), K1.mono (fun j _ hj e => hj (by rw [e]; exact hFk))⟩

theorem sync_c (F : Nat → Prop) (k : Nat) (s : St) (w : World) (hD : DiskAt w F k s) (hpl : s.pd.length ≤ 1000) : Ret Try.prog 16 [.pointer (some ⟨k, 0, none⟩)] w fun v w' => v = .int .i64 s.sync.1 ∧ DiskAt w' (grown F w w') k s.sync.2 ∧ Keep (fun j => ¬ F j) w w' := by
  cases h : s.off with
  | true => exact sync_off F k s w hD h
  | false => exact sync_on F k s w hD h hpl
end Go.Proofs.Ytcgcklfbnmaodaa

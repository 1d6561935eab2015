/- The reference's put. -/
import Derived.Test.YtcgcklfbnmaodaaD17
namespace Go.Proofs.Ytcgcklfbnmaodaa
open Go Go.RowKit
set_option linter.unusedVariables false
set_option linter.unusedSimpArgs false
theorem St.Wf.put {s : St} (h : s.Wf) (i : Nat) {d : List UInt8} (hd : d.length ≤ s.n) : ({ s with du := putd s.du i d } : St).Wf :=
  ⟨h.n1, h.n2, by simp only [putd_length]; exact h.d1, putd_all h.du hd, fun p hp => by simp only [putd_length]; exact h.pd p hp, h.l1, h.l2, h.of⟩
theorem bcells_part (l m : Nat) (y : List UInt8) : ∀ u ∈ List.take l (List.drop m (bcells y)), u.oneCell' = true := fun u hu => bcells_one _ u (List.mem_of_mem_drop (List.mem_of_mem_take hu))
theorem bcells_tail {n m : Nat} {y : List UInt8} (h : n = y.length) : List.take ((n - m) * 1) (List.drop (m * 1) (bcells y)) = bcells (y.drop m) := by
  rw [Nat.mul_one, Nat.mul_one, List.take_of_length_le (by rw [List.length_drop, bcells_length]; omega)]
  simp [bcells]
theorem build_pn (z : Int) (B : Option Addr) (n d : Nat) (w : World) : (Instr.build 74 [(0, Value.int .i64 z), (1, Value.slice B n d)].toArray).run Try.prog w = .ok (.agg [Value.int .i64 z, Value.slice B n d].toArray) w := by kernel_rfl
theorem build_pns (z : Int) (B : Option Addr) (n d : Nat) (w : World) : (Instr.buildSlice 39 1 [(0, Value.agg [Value.int .i64 z, Value.slice B n d].toArray)].toArray).run Try.prog w = .ok (.slice (some ⟨w.heap.size, 0, none⟩) 1 1) (w.alloc (.cells [Value.int .i64 z, Value.slice B n d].toArray 74)) := by kernel_rfl
theorem zpn : (Try.prog.info? 74).map (fun i => (i.zero, i.size, i.bytes)) = some (some (.agg #[.int .i64 0, .slice none 0 0]), 2, 32) := by kernel_rfl

/-- (*kinkeep/kinkeepref15.Disk).put -/
theorem rput_c (i m lo hi : Nat) (sl : Sl) (y : List UInt8) (F : Nat → Prop) (k : Nat) (s : St) (w : World) (hR : RefAt w F k s) (hi2 : i < s.du.length) (hsy : sl.2.1 = y.length) (hcap : sl.2.1 ≤ sl.2.2) (hmy : m ≤ y.length) (hmn : m ≤ s.n) (hr : Rd w lo hi 1 sl.1 sl.2.1 (bcells y)) :
    Ret Try.prog 46 [.pointer (some ⟨k, 0, none⟩), .agg [Value.int .i64 (i : Int), slv sl].toArray, .int .i64 (m : Int)] w fun v w' => v = .tuple #[] ∧ RefAt w' (grown F w w') k { s with du := putd s.du i (y.take m) } ∧ Keep (fun j => ¬ F j) w w' := by
  obtain ⟨⟨A, cA, dsl, P, cP, wl⟩, lf, hb, hm, hFk, hlf, hwf⟩ := id hR
  have ho : Own w 0 22 1 A s.du.length cA (dsl.map slv) := hm.own
  have hd : Owns w 0 dsl s.du := hm.dat
  have hp : Own w 0 74 2 P s.pd.length cP (wcells wl) := hm.pown
  have hFlt := hm.lt
  have n1 := hwf.n1
  have n2 := hwf.n2
  have d1 := hwf.d1
  have K0 : Ext w w := Keep.refl _ _
  refine ret_of Try.func46 rfl rfl ?_
  refine w_seq ?_
  refine w_region ?_
  refine st rfl rfl rfl (ex_box (cs := [.int .i64 (i : Int), slv sl]) rfl rfl rfl) ?_
  rintro _ w1 ⟨b4, rfl, h40, E4, hb4, hs4⟩
  replace hb := hb.ext E4
  replace hm := hm.ext E4
  replace ho := ho.ext E4
  replace hd := hd.ext E4
  replace hr := hr.ext E4
  replace K0 := K0.ext E4
  refine w_nil (qe_next ?_)
  refine w_seq ?_
  refine w_draw mixed (fun w2 _ Ew2 => ?_)
  replace hb := hb.ext Ew2
  replace hm := hm.ext Ew2
  replace ho := ho.ext Ew2
  replace hd := hd.ext Ew2
  replace hr := hr.ext Ew2
  replace K0 := K0.ext Ew2
  replace hb4 := hb4.ext Ew2
  refine wd_free 6 _ rfl rfl rfl rfl ?_
  refine fd [] rfl rfl rfl rfl rfl rfl rfl (fun w' E => ex_move rfl rfl) ?_
  refine fd [0] rfl rfl rfl rfl rfl rfl rfl (fun w' E => ex_nil rfl rfl) ?_
  refine fd [1] rfl rfl rfl rfl rfl rfl rfl (fun w' E => ex_fieldAddr fld41_1 rfl rfl) ?_
  refine fd [2] rfl rfl rfl rfl rfl rfl rfl (fun w' E => ex_load one33 rfl rfl (E.cell trivial (hb.cell rfl))) ?_
  refine fd [] rfl rfl rfl rfl rfl rfl rfl (fun w' E => ex_fieldAddr fld74_0 rfl rfl) ?_
  refine fd [4] rfl rfl rfl rfl rfl rfl rfl (fun w' E => ex_load one3 rfl rfl (E.cell trivial (hb4.cell rfl))) ?_
  refine .nil (fun w3 Ew3 _ => ?_)
  replace hb := hb.ext Ew3
  replace hm := hm.ext Ew3
  replace ho := ho.ext Ew3
  replace hd := hd.ext Ew3
  replace hr := hr.ext Ew3
  replace K0 := K0.ext Ew3
  replace hb4 := hb4.ext Ew3
  obtain ⟨bb, oo, u, rfl, _, _, hu, hc⟩ := ho.rd.at_ (k := i) (by omega)
  rw [List.getElem?_map] at hu
  obtain ⟨si, hsi, rfl⟩ := Option.map_eq_some_iff.1 hu
  refine wd_v rfl rfl (by kernel_rfl) rfl rfl rfl (ex_index Try.underlying33 sz22 (i) rfl rfl rfl (by first | rfl | omega) (by omega)) ?_
  refine wd_v rfl rfl (by kernel_rfl) rfl rfl rfl (ex_load (v := .slice si.1 si.2.1 si.2.2) one22 rfl rfl hc) ?_
  refine wd_v rfl rfl (by kernel_rfl) rfl rfl rfl (ex_assign rfl rfl) ?_
  refine wd_nil (by decide) rfl ?_
  refine qe_next ?_
  refine w_draw mixed (fun w4 _ Ew4 => ?_)
  replace hb := hb.ext Ew4
  replace hm := hm.ext Ew4
  replace ho := ho.ext Ew4
  replace hd := hd.ext Ew4
  replace hr := hr.ext Ew4
  replace K0 := K0.ext Ew4
  replace hb4 := hb4.ext Ew4
  have hzW := K0.size
  obtain ⟨yi, hyi, hli, hoi⟩ := hd.get hsi
  have hyn := hwf.du yi (List.mem_of_getElem? hyi)
  refine wd_chain 16 _ (fun w' => Blk w' k 41 (rcells s.n ⟨some ⟨bb, oo, none⟩, cA, dsl, P, cP, wl⟩ s.du.length s.pd.length s.off lf) ∧ Blk w' b4 74 [.int .i64 (i : Int), slv sl]) (⟨hb, hb4⟩) rfl rfl rfl rfl ?_
  refine cpur [0] [] rfl rfl rfl rfl rfl (fun w' hR => ex_move rfl rfl) ?_
  refine cpur [] [0] rfl rfl rfl rfl rfl (fun w' hR => ex_nil rfl rfl) ?_
  refine cpur [] [1] rfl rfl rfl rfl rfl (fun w' hR => ex_fieldAddr fld41_1 rfl rfl) ?_
  refine cpur [] [2] rfl rfl rfl rfl rfl (fun w' hR => ex_load one33 rfl rfl (hR.1.cell rfl)) ?_
  refine cpur [4] [] rfl rfl rfl rfl rfl (fun w' hR => ex_fieldAddr fld74_0 rfl rfl) ?_
  refine cpur [] [4] rfl rfl rfl rfl rfl (fun w' hR => ex_load one3 rfl rfl (hR.2.cell rfl)) ?_
  refine cfst (fun v' w' => ∃ g, v' = .slice (some ⟨g, 0, none⟩) 0 0 ∧ Own w' w4.heap.size 5 1 (some ⟨g, 0, none⟩) 0 0 [] ∧ Ext w4 w') [] [] rfl rfl rfl rfl rfl ((ex_buildSlice (cs := []) rfl rfl build_none).mono fun v' w'' ⟨g, h1, h0, h2, h3, _⟩ => ⟨g, h1, Own.of_blk (lo := w4.heap.size) (n := 0) (c := 0) (size := 1) h3 (by omega) (Nat.le_refl _) (by decide) (by simp), h2⟩) (fun v w' ⟨_, _, _, hE⟩ => ⟨hb.ext hE, hb4.ext hE⟩) ?_
  refine cpur [4] [] rfl rfl rfl rfl rfl (fun w' hR => ex_fieldAddr fld74_1 rfl rfl) ?_
  refine cpur [] [7] rfl rfl rfl rfl rfl (fun w' hR => ex_load (v := .slice sl.1 sl.2.1 sl.2.2) one22 rfl rfl (hR.2.cell rfl)) ?_
  refine cpur [2] [] rfl rfl rfl rfl rfl (fun w' hR => ex_move rfl rfl) ?_
  refine cpur [] [8, 9] rfl rfl rfl rfl rfl (fun w' hR => ex_slice Try.underlying22 sz5 0 m rfl rfl (.inl ⟨rfl, rfl⟩) (.inr ⟨_, _, _, rfl, rfl, rfl⟩) (Nat.zero_le _) (by omega)) ?_
  refine cnxt (fun v' w' => ∃ B L d, v' = .slice B L d ∧ L = m ∧ Own w' w4.heap.size 5 1 B L d (bcells (y.take m)) ∧ Ext w4 w') [] [10] rfl rfl rfl rfl rfl (fun _ => rfl) (fun v w' ⟨g, hv, hg, hE⟩ => by subst hv; exact (ex_append Try.underlying22 z5.1 rfl (by decide) rfl rfl rfl hg ((hr.ext hE).cut (l := 0) (hh := m) (m := sl.2.2) (Nat.zero_le _) (by omega) hcap) (bcells_part _ _ y) (by omega) (by omega) hE.size).mono fun v' w'' ⟨B, d, h1, h2, h3, h4⟩ => ⟨B, _, d, h1, by omega, by rw [show ([] : List Value) ++ List.take ((m - 0) * 1) (List.drop (0 * 1) (bcells y)) = bcells (y.take m) from by simp [bcells]] at h2; exact h2, hE.trans h3 (fun j hj _ => hg.fresh hj)⟩) (fun v w' ⟨_, _, _, _, _, _, hE⟩ => ⟨hb.ext hE, hb4.ext hE⟩) ?_
  refine cpur [6] [] rfl rfl rfl rfl rfl (fun w' hR => ex_move rfl rfl) ?_
  refine cpur [2] [] rfl rfl rfl rfl rfl (fun w' hR => ex_move rfl rfl) ?_
  refine cpur [] [12, 13] rfl rfl rfl rfl rfl (fun w' hR => ex_slice Try.underlying22 sz5 m si.2.1 rfl rfl (.inr ⟨_, _, _, rfl, rfl, rfl⟩) (.inl ⟨rfl, rfl⟩) (by omega) hoi.le) ?_
  refine cnxt (fun v' w' => ∃ B L d, v' = .slice B L d ∧ L = s.n ∧ Own w' w4.heap.size 5 1 B L d (bcells (y.take m ++ yi.drop m)) ∧ Ext w4 w') [] [14] rfl rfl rfl rfl rfl (fun _ => rfl) (fun v w' ⟨B, L, d, hv, hL, hg, hE⟩ => by subst hv; exact (ex_append Try.underlying22 z5.1 rfl (by decide) rfl rfl rfl hg ((hoi.ext hE).rd.cut (l := m) (hh := si.2.1) (m := si.2.2) (by omega) (Nat.le_refl _) hoi.le) (bcells_part _ _ yi) (by omega) (by omega) hE.size).mono fun v' w'' ⟨B2, d2, h1, h2, h3, h4⟩ => ⟨B2, _, d2, h1, by omega, by rw [show bcells (y.take m) ++ List.take ((si.2.1 - m) * 1) (List.drop (m * 1) (bcells yi)) = bcells (y.take m ++ yi.drop m) from by rw [bcells_tail hli]; simp [bcells]] at h2; exact h2, hE.trans h3 (fun j hj _ => hg.fresh hj)⟩) (fun v w' ⟨_, _, _, _, _, _, hE⟩ => ⟨hb.ext hE, hb4.ext hE⟩) ?_
  refine .nil ⟨rfl, rfl, ?_⟩
  rintro _ w5 ⟨B2, L2, d2, rfl, hL2, hB2, E9⟩
  replace hb := hb.ext E9
  replace hm := hm.ext E9
  replace ho := ho.ext E9
  replace hd := hd.ext E9
  replace hr := hr.ext E9
  replace K0 := K0.ext E9
  replace hb4 := hb4.ext E9
  show Wd _ _ _ _ _ _ _ _
  have hszP := K0.size
  have hmlt := hm.lt
  have hbF := hm.fA bb oo rfl
  have hbw := hFlt bb hbF
  have hBw : ∀ g o, B2 = some ⟨g, o, none⟩ → w.heap.size ≤ g := fun g o e => by have := (hB2.lt e).1; omega
  refine wd_v rfl rfl (by kernel_rfl) rfl rfl rfl (ex_index Try.underlying33 sz22 (i) rfl rfl rfl (by first | rfl | omega) (by omega)) ?_
  refine wd_one0 rfl rfl (by kernel_rfl) rfl rfl (ex_store_own sz22 ho (i := i) (by omega) rfl rfl rfl rfl) ?_
  rintro _ w6 ⟨K1, ho2, hz1⟩
  refine wd_nil (by decide) rfl ?_
  refine qe_end0 rfl ?_
  have hB3 := hB2.keep K1 (fun g o e h => by have := hBw g o e; omega)
  have hB3l : ∀ g o, B2 = some ⟨g, o, none⟩ → g < _ := fun g o e => (hB3.lt e).2
  have hyl : (y.take m).length = m := by rw [List.length_take]; omega
  have hm3 := hm.setS (F' := fun j => F j ∨ (w.heap.size ≤ j ∧ j < _)) (s := (B2, L2, d2)) (y := y.take m ++ yi.drop m) (i := i) hi2 (K1.mono fun j _ hj e => hj oo (by rw [e])) ho2 (by decide) (by rw [List.length_append, hyl, List.length_drop]; simp only; omega) (hB3.lower (Nat.zero_le _)) (fun g o e => by have := hBw g o e; exact ⟨fun hh => by have := hFlt g hh; omega, .inr ⟨this, hB3l g o e⟩⟩) (fun j hj => .inl hj) (fun j hj => by
    rcases hj with hj | hj
    · have := hmlt j hj; omega
    · exact hj.2)
  have hput : putd s.du i (y.take m) = s.du.set i (y.take m ++ yi.drop m) := by
    unfold putd
    rw [hyl, show s.du.getD i [] = yi from by rw [List.getD_eq_getElem?_getD, hyi]; rfl]
  have hw9 := hwf.put i (d := y.take m) (by rw [hyl]; omega)
  rw [hput] at hw9 ⊢
  exact ⟨rfl, RefAt.intro (s := { s with du := s.du.set i (y.take m ++ yi.drop m) }) (r := ⟨some ⟨bb, oo, none⟩, cA, dsl.set i (B2, L2, d2), P, cP, wl⟩) (lf := lf) (by simp only [List.length_set]; exact hb.keep K1 (ho.ne_blk hb (by decide) bb oo rfl).symm) (hm3.grow (fun j hj => hj) (fun j hj => hm3.lt j hj)) (.inl hFk) hlf hw9, (Keep.of_ext K0 _).trans K1 (fun j _ hS e => hS (by rw [e]; exact hbF))⟩
end Go.Proofs.Ytcgcklfbnmaodaa

/- The reference's Spoil. -/
import Derived.Test.YtcgcklfbnmaodaaD21
namespace Go.Proofs.Ytcgcklfbnmaodaa
open Go Go.RowKit
set_option linter.unusedVariables false
set_option linter.unusedSimpArgs false
/-- (*kinkeep/kinkeepref15.Disk).Spoil -/
theorem rspoil_c (z o : Int) (x : UInt8) (F : Nat → Prop) (k : Nat) (s : St) (w : World) (hR : RefAt w F k s) :
    Ret Try.prog 42 [.pointer (some ⟨k, 0, none⟩), .int .i64 z, .int .i64 o, bv x] w fun v w' => v = .int .i64 (s.spoil z o x).1 ∧ RefAt w' (grown F w w') k (s.spoil z o x).2 ∧ Keep (fun j => ¬ F j) w w' := by
  obtain ⟨⟨A, cA, dsl, P, cP, wl⟩, lf, hb, hm, hFk, hlf, hwf⟩ := id hR
  have ho : Own w 0 22 1 A s.du.length cA (dsl.map slv) := hm.own
  have hd : Owns w 0 dsl s.du := hm.dat
  have hp : Own w 0 74 2 P s.pd.length cP (wcells wl) := hm.pown
  have hFlt := hm.lt
  have n1 := hwf.n1
  have n2 := hwf.n2
  have d1 := hwf.d1
  refine ret_of Try.func42 rfl rfl ?_
  refine w_seq ?_
  refine w_region ?_
  refine sv rfl rfl rfl (ex_assign rfl rfl) ?_
  refine w_nil (qe_next ?_)
  refine w_seq ?_
  refine w_seq ?_
  refine w_region ?_
  refine sv rfl rfl rfl (ex_move rfl rfl) ?_
  refine sv rfl rfl rfl (ex_move rfl rfl) ?_
  refine st rfl rfl rfl (ex_call call44 rfl rfl (rsector_c z F k s _ hR)) ?_
  rintro _ w1 ⟨rfl, hwe⟩
  obtain rfl := hwe.symm
  cases hin : decide (s.In z)
  · skip
    refine sv rfl rfl rfl (ex_not rfl rfl) ?_
    refine sv rfl rfl rfl (ex_move rfl rfl) ?_
    first | refine sk rfl rfl rfl ?_ | refine sv rfl rfl rfl (ex_move rfl rfl) ?_
    refine sk rfl rfl rfl ?_
    first | refine sv rfl rfl rfl (ex_pick_t rfl rfl rfl) ?_ | refine sv rfl rfl rfl (ex_pick_f rfl rfl rfl) ?_
    refine sv rfl rfl rfl (ex_move rfl rfl) ?_
    first | refine sk rfl rfl rfl ?_ | refine sv rfl rfl rfl (ex_move rfl rfl) ?_
    first | refine sk rfl rfl rfl ?_ | refine sv rfl rfl rfl (ex_move rfl rfl) ?_
    first | refine sk rfl rfl rfl ?_ | refine sv rfl rfl rfl (ex_nil rfl rfl) ?_
    first | refine sk rfl rfl rfl ?_ | refine sv rfl rfl rfl (ex_fieldAddr fld41_0 rfl rfl) ?_
    first | refine sk rfl rfl rfl ?_ | refine sv rfl rfl rfl (ex_load one3 rfl rfl (hb.cell rfl)) ?_
    refine sk rfl rfl rfl ?_
    first | refine sv rfl rfl rfl (ex_pick_t rfl rfl rfl) ?_ | refine sv rfl rfl rfl (ex_pick_f rfl rfl rfl) ?_
    refine w_nil (qe_next ?_)
    refine w_cond_t rfl ?_
    refine w_seq ?_
    refine w_region ?_
    refine sv rfl rfl rfl (ex_assign rfl rfl) ?_
    refine w_nil (qe_next ?_)
    refine w_ret (qe_then_ret (qe_ret1 rfl rfl ?_))
    have hnI : ¬ s.In z := of_decide_eq_false hin
    rw [show s.spoil z o x = (1, s) from by unfold St.spoil; rw [if_pos (fun h => hnI h.1)]]
    exact ⟨rfl, hR.grow (fun j hj => .inl hj) (grown.lt hFlt (Nat.le_refl _)), Keep.refl _ _⟩
  · skip
    refine sv rfl rfl rfl (ex_not rfl rfl) ?_
    refine sv rfl rfl rfl (ex_move rfl rfl) ?_
    first | refine sk rfl rfl rfl ?_ | refine sv rfl rfl rfl (ex_move rfl rfl) ?_
    refine sv_if rfl rfl rfl (ex_cmp rfl rfl rfl rfl) (fun ho0 => ?_) (fun ho0 => ?_)
    · skip
      first | refine sv rfl rfl rfl (ex_pick_t rfl rfl rfl) ?_ | refine sv rfl rfl rfl (ex_pick_f rfl rfl rfl) ?_
      refine sv rfl rfl rfl (ex_move rfl rfl) ?_
      first | refine sk rfl rfl rfl ?_ | refine sv rfl rfl rfl (ex_move rfl rfl) ?_
      first | refine sk rfl rfl rfl ?_ | refine sv rfl rfl rfl (ex_move rfl rfl) ?_
      first | refine sk rfl rfl rfl ?_ | refine sv rfl rfl rfl (ex_nil rfl rfl) ?_
      first | refine sk rfl rfl rfl ?_ | refine sv rfl rfl rfl (ex_fieldAddr fld41_0 rfl rfl) ?_
      first | refine sk rfl rfl rfl ?_ | refine sv rfl rfl rfl (ex_load one3 rfl rfl (hb.cell rfl)) ?_
      refine sk rfl rfl rfl ?_
      first | refine sv rfl rfl rfl (ex_pick_t rfl rfl rfl) ?_ | refine sv rfl rfl rfl (ex_pick_f rfl rfl rfl) ?_
      refine w_nil (qe_next ?_)
      refine w_cond_t rfl ?_
      refine w_seq ?_
      refine w_region ?_
      refine sv rfl rfl rfl (ex_assign rfl rfl) ?_
      refine w_nil (qe_next ?_)
      refine w_ret (qe_then_ret (qe_ret1 rfl rfl ?_))
      rw [show s.spoil z o x = (1, s) from by unfold St.spoil; rw [if_pos (fun h => by omega)]]
      exact ⟨rfl, hR.grow (fun j hj => .inl hj) (grown.lt hFlt (Nat.le_refl _)), Keep.refl _ _⟩
    · skip
      first | refine sv rfl rfl rfl (ex_pick_t rfl rfl rfl) ?_ | refine sv rfl rfl rfl (ex_pick_f rfl rfl rfl) ?_
      refine sv rfl rfl rfl (ex_move rfl rfl) ?_
      first | refine sk rfl rfl rfl ?_ | refine sv rfl rfl rfl (ex_move rfl rfl) ?_
      first | refine sk rfl rfl rfl ?_ | refine sv rfl rfl rfl (ex_move rfl rfl) ?_
      first | refine sk rfl rfl rfl ?_ | refine sv rfl rfl rfl (ex_nil rfl rfl) ?_
      first | refine sk rfl rfl rfl ?_ | refine sv rfl rfl rfl (ex_fieldAddr fld41_0 rfl rfl) ?_
      first | refine sk rfl rfl rfl ?_ | refine sv rfl rfl rfl (ex_load one3 rfl rfl (hb.cell rfl)) ?_
      refine sv_if rfl rfl rfl (ex_cmp rfl rfl rfl rfl) (fun ho1 => ?_) (fun ho1 => ?_)
      · skip
        first | refine sv rfl rfl rfl (ex_pick_t rfl rfl rfl) ?_ | refine sv rfl rfl rfl (ex_pick_f rfl rfl rfl) ?_
        refine w_nil (qe_next ?_)
        refine w_cond_t rfl ?_
        refine w_seq ?_
        refine w_region ?_
        refine sv rfl rfl rfl (ex_assign rfl rfl) ?_
        refine w_nil (qe_next ?_)
        refine w_ret (qe_then_ret (qe_ret1 rfl rfl ?_))
        rw [show s.spoil z o x = (1, s) from by unfold St.spoil; rw [if_pos (fun h => by omega)]]
        exact ⟨rfl, hR.grow (fun j hj => .inl hj) (grown.lt hFlt (Nat.le_refl _)), Keep.refl _ _⟩
      · skip
        first | refine sv rfl rfl rfl (ex_pick_t rfl rfl rfl) ?_ | refine sv rfl rfl rfl (ex_pick_f rfl rfl rfl) ?_
        refine w_nil (qe_next ?_)
        refine w_cond_f rfl ?_
        refine w_skip (qe_next ?_)
        refine w_seq ?_
        have hIn : s.In z := of_decide_eq_true hin
        have hIn2 := hIn
        unfold St.In at hIn2
        obtain ⟨i, rfl⟩ : ∃ i : Nat, z = (i : Int) := ⟨z.toNat, by omega⟩
        obtain ⟨j, rfl⟩ : ∃ j : Nat, o = (j : Int) := ⟨o.toNat, by omega⟩
        have hi : i < s.du.length := by omega
        have hj : j < s.n := by omega
        have K0 : Ext w w := Keep.refl _ _
        refine w_draw mixed (fun w2 _ Ew2 => ?_)
        replace hb := hb.ext Ew2
        replace hm := hm.ext Ew2
        replace ho := ho.ext Ew2
        replace hd := hd.ext Ew2
        replace K0 := K0.ext Ew2
        obtain ⟨bb, oo, u, rfl, _, _, hu, hc⟩ := ho.rd.at_ (k := i) (by omega)
        rw [List.getElem?_map] at hu
        obtain ⟨si, hsi, rfl⟩ := Option.map_eq_some_iff.1 hu
        obtain ⟨yi, hyi, hli, hoi⟩ := hd.get hsi
        have hyn := hwf.du yi (List.mem_of_getElem? hyi)
        have hgd : s.du.getD i [] = yi := by rw [List.getD_eq_getElem?_getD, hyi]; rfl
        obtain ⟨b5, o5, u5, he5, _, _, hu5, hc5⟩ := hoi.rd.at_ (k := j) (by omega)
        rw [bcells_get] at hu5
        obtain ⟨a, ha, rfl⟩ := Option.map_eq_some_iff.1 hu5
        refine wd_free 20 _ rfl rfl rfl rfl ?_
        refine fd [] rfl rfl rfl rfl rfl rfl rfl (fun w' E => ex_move rfl rfl) ?_
        refine fd [0] rfl rfl rfl rfl rfl rfl rfl (fun w' E => ex_nil rfl rfl) ?_
        refine fd [1] rfl rfl rfl rfl rfl rfl rfl (fun w' E => ex_fieldAddr fld41_1 rfl rfl) ?_
        refine fd [2] rfl rfl rfl rfl rfl rfl rfl (fun w' E => ex_load one33 rfl rfl (E.cell trivial (hb.cell rfl))) ?_
        refine fd [] rfl rfl rfl rfl rfl rfl rfl (fun w' E => ex_move rfl rfl) ?_
        refine fd [3, 4] rfl rfl rfl rfl rfl rfl rfl (fun w' E => ex_index Try.underlying33 sz22 (i) rfl rfl rfl (by first | rfl | omega) (by omega)) ?_
        refine fd [5] rfl rfl rfl rfl rfl rfl rfl (fun w' E => ex_load (v := .slice (some ⟨b5, o5, none⟩) si.2.1 si.2.2) one22 rfl rfl (by rw [← he5]; exact E.cell trivial hc)) ?_
        refine fd [] rfl rfl rfl rfl rfl rfl rfl (fun w' E => ex_move rfl rfl) ?_
        refine fd [] rfl rfl rfl rfl rfl rfl rfl (fun w' E => ex_move rfl rfl) ?_
        refine fd [8] rfl rfl rfl rfl rfl rfl rfl (fun w' E => ex_nil rfl rfl) ?_
        refine fd [9] rfl rfl rfl rfl rfl rfl rfl (fun w' E => ex_fieldAddr fld41_1 rfl rfl) ?_
        refine fd [10] rfl rfl rfl rfl rfl rfl rfl (fun w' E => ex_load one33 rfl rfl (E.cell trivial (hb.cell rfl))) ?_
        refine fd [] rfl rfl rfl rfl rfl rfl rfl (fun w' E => ex_move rfl rfl) ?_
        refine fd [11, 12] rfl rfl rfl rfl rfl rfl rfl (fun w' E => ex_index Try.underlying33 sz22 (i) rfl rfl rfl (by first | rfl | omega) (by omega)) ?_
        refine fd [13] rfl rfl rfl rfl rfl rfl rfl (fun w' E => ex_load (v := .slice (some ⟨b5, o5, none⟩) si.2.1 si.2.2) one22 rfl rfl (by rw [← he5]; exact E.cell trivial hc)) ?_
        refine fd [] rfl rfl rfl rfl rfl rfl rfl (fun w' E => ex_move rfl rfl) ?_
        refine fd [14, 15] rfl rfl rfl rfl rfl rfl rfl (fun w' E => ex_index Try.underlying22 sz5 (j) rfl rfl rfl (by first | rfl | omega) (by omega)) ?_
        refine fd [16] rfl rfl rfl rfl rfl rfl rfl (fun w' E => ex_load one5 rfl rfl (E.cell trivial hc5)) ?_
        refine fd [] rfl rfl rfl rfl rfl rfl rfl (fun w' E => ex_move rfl rfl) ?_
        refine fd [17, 18] rfl rfl rfl rfl rfl rfl rfl (fun w' E => ex_bits rfl (by simp) rfl rfl (bits_xor8 a x)) ?_
        refine .nil (fun w3 Ew3 _ => ?_)
        replace hb := hb.ext Ew3
        replace hm := hm.ext Ew3
        replace ho := ho.ext Ew3
        replace hd := hd.ext Ew3
        replace K0 := K0.ext Ew3
        obtain ⟨yj, hyj, hlj, hoj⟩ := hd.get hsi
        obtain rfl : yi = yj := by rw [hyi] at hyj; exact Option.some.inj hyj
        have hsF := hm.fd si (List.mem_append.2 (.inl (List.mem_of_getElem? hsi)))
        refine wd_v rfl rfl (by kernel_rfl) rfl rfl rfl (ex_index Try.underlying22 sz5 (j) rfl rfl rfl (by first | rfl | omega) (by omega)) ?_
        refine wd_one0 rfl rfl (by kernel_rfl) rfl rfl (ex_store_own sz5 (he5 ▸ hoj) (i := j) (by omega) rfl rfl rfl rfl) ?_
        rintro _ w4 ⟨K1, hg2, hz1⟩
        refine wd_nil (by decide) rfl ?_
        refine qe_next ?_
        refine w_seq ?_
        refine w_region ?_
        refine sv rfl rfl rfl (ex_assign rfl rfl) ?_
        refine w_nil (qe_next ?_)
        refine w_ret (qe_ret1 rfl rfl ?_)
        obtain ⟨ds, hds⟩ : ∃ ds, ds = yi.set j (a ^^^ x) := ⟨_, rfl⟩
        have hdl2 : ds.length = s.n := by rw [hds, List.length_set]; exact hyn
        rw [show (bcells yi).set j (Value.int .u8 ((a ^^^ x).toNat : Int)) = bcells ds from by rw [hds]; simp [bcells, bv, List.map_set], ← he5] at hg2
        have hsp : s.spoil (i : Int) (j : Int) x = (0, { s with du := s.du.set i ds }) := by
          unfold St.spoil
          rw [if_neg (fun h => h ⟨hIn, by omega, by omega⟩), hds]
          simp only [Int.toNat_natCast]
          rw [hgd, show yi.getD j 0 = a from by rw [List.getD_eq_getElem?_getD, ha]; rfl]
        have hw9 := hwf.spoil (i : Int) (j : Int) x
        rw [hsp] at hw9 ⊢
        have hbF := hsF b5 o5 he5
        have hm9 := hm.setB hsi (by decide) (K1.mono (fun j' _ hj' e => hj' o5 (by rw [e]; exact he5))) (by omega) hg2
        have KS := (Keep.of_ext K0 (fun j => ¬ F j)).trans K1 (fun j' _ hj' e => hj' (by rw [e]; exact hbF))
        exact ⟨rfl, RefAt.intro (s := { s with du := s.du.set i ds }) (r := ⟨some ⟨bb, oo, none⟩, cA, dsl, P, cP, wl⟩) (lf := lf) (by simp only [List.length_set]; exact hb.keep K1 (fun e => hoj.ne_blk hb (by decide) b5 o5 he5 e.symm)) (hm9.grow (fun j' hj' => .inl hj') (grown.lt hFlt KS.size)) (.inl hFk) hlf hw9, KS⟩
end Go.Proofs.Ytcgcklfbnmaodaa

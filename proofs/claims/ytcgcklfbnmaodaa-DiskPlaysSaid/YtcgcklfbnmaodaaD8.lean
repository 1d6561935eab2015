/- Spoil, Image. -/
import Derived.Test.YtcgcklfbnmaodaaD7
namespace Go.Proofs.Ytcgcklfbnmaodaa
open Go Go.RowKit
set_option linter.unusedVariables false
set_option linter.unusedSimpArgs false
theorem getD_mem {l : List (List UInt8)} {i : Nat} (h : i < l.length) : l.getD i [] ∈ l := by
  rw [List.getD_eq_getElem?_getD, List.getElem?_eq_getElem h]
  exact List.getElem_mem h

/-- (*kinkeep/disk.Disk).Spoil -/
theorem spoil_c (z o : Int) (x : UInt8) (F : Nat → Prop) (k : Nat) (s : St) (w : World) (hD : DiskAt w F k s) :
    Ret Try.prog 28 [.pointer (some ⟨k, 0, none⟩), .int .i64 z, .int .i64 o, bv x] w fun v w' => v = .int .i64 (s.spoil z o x).1 ∧ DiskAt w' (grown F w w') k (s.spoil z o x).2 ∧ Keep (fun j => ¬ F j) w w' := by
  obtain ⟨⟨A, cA, dsl, P, cP, wl⟩, rd, arm, aft, hb, hm, hFk, hdu, hrd, hnil, harm, haft, hwf⟩ := id hD
  have ho : Own w 0 22 1 A rd.length cA (dsl.map slv) := hm.own
  have hd : Owns w 0 dsl rd := hm.dat
  have hp : Own w 0 66 2 P s.pd.length cP (wcells wl) := hm.pown
  have hq : Owns w 0 (wl.map (·.2)) (s.pd.map (·.2)) := hm.pdat
  have hdl : s.du.length = rd.length := by rw [hdu, List.length_map]
  have n1 := hwf.n1
  have n2 := hwf.n2
  have d1 := hwf.d1
  have hFlt := hm.lt
  have K0 : Ext w w := Keep.refl _ _
  refine ret_of Try.func28 rfl rfl ?_
  refine w_seq ?_
  refine w_region ?_
  refine sv rfl rfl rfl (ex_assign rfl rfl) ?_
  refine w_nil (qe_next ?_)
  refine w_seq ?_
  refine w_seq ?_
  refine w_region ?_
  refine sv rfl rfl rfl (ex_move rfl rfl) ?_
  refine sv rfl rfl rfl (ex_move rfl rfl) ?_
  refine st rfl rfl rfl (ex_call call31 rfl rfl (inside_c z F k s _ hD)) ?_
  rintro _ w1 ⟨rfl, hwe⟩
  obtain rfl := hwe.symm
  cases hin : decide (s.In z)
  · skip
    refine sv rfl rfl rfl (ex_not rfl rfl) ?_
    refine sv rfl rfl rfl (ex_move rfl rfl) ?_
    first | refine sk rfl rfl rfl ?_ | refine sv rfl rfl rfl (ex_move rfl rfl) ?_
    refine sk rfl rfl rfl ?_
    first | refine sv rfl rfl rfl (ex_pick_t rfl rfl rfl) ?_ | refine sv rfl rfl rfl (ex_pick_f rfl rfl rfl) ?_
    refine sv rfl rfl rfl (ex_move rfl rfl) ?_
    first | refine sk rfl rfl rfl ?_ | refine sv rfl rfl rfl (ex_move rfl rfl) ?_
    first | refine sk rfl rfl rfl ?_ | refine sv rfl rfl rfl (ex_move rfl rfl) ?_
    refine sk rfl rfl rfl ?_
    refine sk rfl rfl rfl ?_
    refine sk rfl rfl rfl ?_
    refine sk rfl rfl rfl ?_
    first | refine sv rfl rfl rfl (ex_pick_t rfl rfl rfl) ?_ | refine sv rfl rfl rfl (ex_pick_f rfl rfl rfl) ?_
    refine w_nil (qe_next ?_)
    refine w_cond_t rfl ?_
    refine w_seq ?_
    refine w_region ?_
    refine sv rfl rfl rfl (ex_assign rfl rfl) ?_
    refine w_nil (qe_next ?_)
    refine w_ret (qe_then_ret (qe_ret1 rfl rfl ?_))
    have hnI : ¬ s.In z := of_decide_eq_false hin
    rw [show s.spoil z o x = (1, s) from by unfold St.spoil; rw [if_pos (fun h => hnI h.1)]]
    exact ⟨rfl, hD.grow (fun j hj => .inl hj) (grown.lt hFlt (Nat.le_refl _)), Keep.refl _ _⟩
  · skip
    refine sv rfl rfl rfl (ex_not rfl rfl) ?_
    refine sv rfl rfl rfl (ex_move rfl rfl) ?_
    first | refine sk rfl rfl rfl ?_ | refine sv rfl rfl rfl (ex_move rfl rfl) ?_
    refine sv_if rfl rfl rfl (ex_cmp rfl rfl rfl rfl) (fun ho0 => ?_) (fun ho0 => ?_)
    · skip
      first | refine sv rfl rfl rfl (ex_pick_t rfl rfl rfl) ?_ | refine sv rfl rfl rfl (ex_pick_f rfl rfl rfl) ?_
      refine sv rfl rfl rfl (ex_move rfl rfl) ?_
      first | refine sk rfl rfl rfl ?_ | refine sv rfl rfl rfl (ex_move rfl rfl) ?_
      first | refine sk rfl rfl rfl ?_ | refine sv rfl rfl rfl (ex_move rfl rfl) ?_
      refine sk rfl rfl rfl ?_
      refine sk rfl rfl rfl ?_
      refine sk rfl rfl rfl ?_
      refine sk rfl rfl rfl ?_
      first | refine sv rfl rfl rfl (ex_pick_t rfl rfl rfl) ?_ | refine sv rfl rfl rfl (ex_pick_f rfl rfl rfl) ?_
      refine w_nil (qe_next ?_)
      refine w_cond_t rfl ?_
      refine w_seq ?_
      refine w_region ?_
      refine sv rfl rfl rfl (ex_assign rfl rfl) ?_
      refine w_nil (qe_next ?_)
      refine w_ret (qe_then_ret (qe_ret1 rfl rfl ?_))
      rw [show s.spoil z o x = (1, s) from by unfold St.spoil; rw [if_pos (fun h => by omega)]]
      exact ⟨rfl, hD.grow (fun j hj => .inl hj) (grown.lt hFlt (Nat.le_refl _)), Keep.refl _ _⟩
    · skip
      first | refine sv rfl rfl rfl (ex_pick_t rfl rfl rfl) ?_ | refine sv rfl rfl rfl (ex_pick_f rfl rfl rfl) ?_
      refine sv rfl rfl rfl (ex_move rfl rfl) ?_
      first | refine sk rfl rfl rfl ?_ | refine sv rfl rfl rfl (ex_move rfl rfl) ?_
      first | refine sk rfl rfl rfl ?_ | refine sv rfl rfl rfl (ex_move rfl rfl) ?_
      first | refine sk rfl rfl rfl ?_ | refine sv rfl rfl rfl (ex_nil rfl rfl) ?_
      first | refine sk rfl rfl rfl ?_ | refine sv rfl rfl rfl (ex_fieldAddr fld62_0 rfl rfl) ?_
      first | refine sk rfl rfl rfl ?_ | refine sv rfl rfl rfl (ex_load one3 rfl rfl (hb.cell rfl)) ?_
      first | refine sk rfl rfl rfl ?_ | refine sv rfl rfl rfl (ex_cmp rfl rfl rfl rfl) ?_
      first | refine sv rfl rfl rfl (ex_pick_t rfl rfl rfl) ?_ | refine sv rfl rfl rfl (ex_pick_f rfl rfl rfl) ?_
      refine w_nil (qe_next ?_)
      refine w_if rfl (fun ho1 => ?_) (fun ho1 => ?_)
      · skip
        refine w_seq ?_
        refine w_region ?_
        refine sv rfl rfl rfl (ex_assign rfl rfl) ?_
        refine w_nil (qe_next ?_)
        refine w_ret (qe_then_ret (qe_ret1 rfl rfl ?_))
        rw [show s.spoil z o x = (1, s) from by unfold St.spoil; rw [if_pos (fun h => by omega)]]
        exact ⟨rfl, hD.grow (fun j hj => .inl hj) (grown.lt hFlt (Nat.le_refl _)), Keep.refl _ _⟩
      · skip
        refine w_skip (qe_next ?_)
        refine w_seq ?_
        have hIn : s.In z := of_decide_eq_true hin
        have hIn2 := hIn
        unfold St.In at hIn2
        obtain ⟨i, rfl⟩ : ∃ i : Nat, z = (i : Int) := ⟨z.toNat, by omega⟩
        obtain ⟨j, rfl⟩ : ∃ j : Nat, o = (j : Int) := ⟨o.toNat, by omega⟩
        have K0 : Ext w w := Keep.refl _ _
        have hi : i < s.du.length := by omega
        have hj : j < s.n := by omega
        have hyl := hwf.du _ (getD_mem hi)
        refine w_region ?_
        refine sv rfl rfl rfl (ex_move rfl rfl) ?_
        refine sv rfl rfl rfl (ex_move rfl rfl) ?_
        refine st rfl rfl rfl (ex_call call35 rfl rfl (contents_c i F k s _ hD hi)) ?_
        rintro _ w2 ⟨g, rfl, hg, E1⟩
        replace hb := hb.ext E1
        replace hm := hm.ext E1
        replace K0 := K0.ext E1
        refine sv rfl rfl rfl (ex_assign rfl rfl) ?_
        refine w_nil (qe_next ?_)
        refine w_seq ?_
        refine w_region ?_
        obtain ⟨b5, o5, u5, he5, _, _, hu5, hc5⟩ := hg.rd.at_ (k := j) (by omega)
        cases he5
        rw [bcells_get] at hu5
        obtain ⟨a, ha, rfl⟩ := Option.map_eq_some_iff.1 hu5
        refine sv rfl rfl rfl (ex_move rfl rfl) ?_
        refine sv rfl rfl rfl (ex_move rfl rfl) ?_
        refine sv rfl rfl rfl (ex_index Try.underlying22 sz5 j rfl rfl rfl (by first | rfl | omega) (by omega)) ?_
        refine sv rfl rfl rfl (ex_load one5 rfl rfl hc5) ?_
        refine sv rfl rfl rfl (ex_move rfl rfl) ?_
        refine sv rfl rfl rfl (ex_bits rfl (by simp) rfl rfl (bits_xor8 a x)) ?_
        refine sv rfl rfl rfl (ex_index Try.underlying22 sz5 j rfl rfl rfl (by first | rfl | omega) (by omega)) ?_
        refine st0 rfl rfl (ex_store_own sz5 hg (i := j) (by omega) rfl rfl rfl rfl) ?_
        rintro _ w3 ⟨K1, hg2, hz1⟩
        have hglo := (hg.lt rfl).1
        have hm3 := hm.keep K1 (fun j' hj' e => by have := hFlt j' hj'; omega)
        have hb3 := hb.keep K1 (fun e => by have := hFlt k hFk; omega)
        have K2 := K0.trans K1 (fun j' hj' _ e => by omega)
        obtain ⟨ds, hds⟩ : ∃ ds, ds = (s.du.getD i []).set j (a ^^^ x) := ⟨_, rfl⟩
        have hdl2 : ds.length = s.n := by rw [hds, List.length_set]; exact hyl
        rw [show (bcells (s.du.getD i [])).set j (Value.int .u8 ((a ^^^ x).toNat : Int)) = bcells ds from by rw [hds]; simp [bcells, bv, List.map_set]] at hg2
        refine w_nil (qe_next ?_)
        refine w_seq ?_
        refine w_region ?_
        refine sv rfl rfl rfl (ex_move rfl rfl) ?_
        refine sv rfl rfl rfl (ex_move rfl rfl) ?_
        refine sv rfl rfl rfl (ex_move rfl rfl) ?_
        refine st rfl rfl rfl (ex_call call36 rfl rfl (put_c i s.n s.n s.n _ _ s.pd.length (some ⟨g, 0, none⟩) ds F k A cA dsl P cP wl rd s.pd s.off arm aft _ hb3 hm3 hFk hnil hrd n1 n2 (by omega) (by omega) hdl2.symm (Nat.le_refl _) hg2.rd (fun g1 o1 o2 e e2 => by injection e2 with e2; injection e2 with e2; have := hFlt g1 (hm.fA g1 o1 e); omega))) ?_
        rintro _ w4 ⟨dsl9, hb9, hm9, hnil9, K9⟩
        refine w_nil (qe_next ?_)
        refine w_seq ?_
        refine w_region ?_
        refine sv rfl rfl rfl (ex_assign rfl rfl) ?_
        refine w_nil (qe_next ?_)
        refine w_ret (qe_ret1 rfl rfl ?_)
        have hdn : ds ++ (con s.n (rd.getD i [])).drop s.n = ds := by
          rw [List.drop_of_length_le, List.append_nil]
          rw [con_length]
          · omega
          · exact hrd _ (getD_mem (by omega))
        rw [hdn] at hm9 hnil9
        have hsp : s.spoil (i : Int) (j : Int) x = (0, { s with du := s.du.set i ds }) := by
          unfold St.spoil
          rw [if_neg (fun h => h ⟨hIn, by omega, by omega⟩), hds]
          simp only [Int.toNat_natCast]
          rw [show (s.du.getD i []).getD j 0 = a from by rw [List.getD_eq_getElem?_getD, ha]; rfl]
        have hw9 := hwf.spoil (i : Int) (j : Int) x
        rw [hsp] at hw9 ⊢
        have KS := (Keep.of_ext K2 (fun j => ¬ F j)).trans K9 (fun j _ hj => hj)
        exact ⟨rfl, DiskAt.intro (r := ⟨A, cA, dsl9, P, cP, wl⟩) (rd := rd.set i ds) (arm := arm) (aft := aft) (by rw [List.length_set]; exact hb9) (hm9.grow (fun j hj => by
          have := K2.size
          rcases hj with hj | hj
          · exact .inl hj
          · exact .inr ⟨by omega, hj.2⟩) (grown.lt hFlt KS.size)) (.inl hFk) (by rw [set_con hdl2 n1, ← hdu]) (fun y hy => by
          rcases List.mem_or_eq_of_mem_set hy with hy | rfl
          · exact hrd y hy
          · exact .inr hdl2) hnil9 harm haft hw9, KS⟩

/-- (*kinkeep/disk.Disk).Image -/
theorem image_c (F : Nat → Prop) (k : Nat) (s : St) (w : World) (hD : DiskAt w F k s) :
    Ret Try.prog 17 [.pointer (some ⟨k, 0, none⟩)] w fun v w' => ∃ (g : Nat) (sl : List Sl), v = .slice (some ⟨g, 0, none⟩) s.du.length s.du.length ∧ Own w' w.heap.size 22 1 (some ⟨g, 0, none⟩) s.du.length s.du.length (sl.map slv) ∧ Owns w' w.heap.size sl s.du ∧ Ext w w' := by
  obtain ⟨⟨A, cA, dsl, P, cP, wl⟩, rd, arm, aft, hb, hm, hFk, hdu, hrd, hnil, harm, haft, hwf⟩ := id hD
  have ho : Own w 0 22 1 A rd.length cA (dsl.map slv) := hm.own
  have hd : Owns w 0 dsl rd := hm.dat
  have hp : Own w 0 66 2 P s.pd.length cP (wcells wl) := hm.pown
  have hq : Owns w 0 (wl.map (·.2)) (s.pd.map (·.2)) := hm.pdat
  have hdl : s.du.length = rd.length := by rw [hdu, List.length_map]
  have n1 := hwf.n1
  have n2 := hwf.n2
  have d1 := hwf.d1
  have hFlt := hm.lt
  have K0 : Ext w w := Keep.refl _ _
  refine ret_of Try.func17 rfl rfl ?_
  refine w_seq ?_
  refine w_region ?_
  refine sv rfl rfl rfl (ex_assign rfl rfl) ?_
  refine w_nil (qe_next ?_)
  refine w_seq ?_
  refine w_region ?_
  refine sv rfl rfl rfl (ex_move rfl rfl) ?_
  refine sv rfl rfl rfl (ex_nil rfl rfl) ?_
  refine sv rfl rfl rfl (ex_fieldAddr fld62_1 rfl rfl) ?_
  refine sv rfl rfl rfl (ex_load one33 rfl rfl (hb.cell rfl)) ?_
  refine sv rfl rfl rfl (ex_len Try.underlying33 rfl rfl) ?_
  refine st rfl rfl rfl (ex_make Try.underlying33 z22 s.du.length rfl rfl rfl (by omega) (by omega) (by omega) (by omega)) ?_
  rintro _ w1 ⟨g, rfl, hg0, E1, hg, hs1⟩
  replace hb := hb.ext E1
  replace hD := hD.ext E1
  replace K0 := K0.ext E1
  have hG := Own.of_blk (lo := w.heap.size) (n := s.du.length) (c := s.du.length) (size := 1) hg (by omega) (Nat.le_refl _) (by unfold maxLen; omega) (by simp)
  rw [show List.take (s.du.length * 1) (List.replicate s.du.length (Value.slice none 0 0)) = ([] : List Sl).map slv ++ List.replicate (s.du.length - 0) (Value.slice none 0 0) from by simp] at hG
  refine sv rfl rfl rfl (ex_assign rfl rfl) ?_
  refine w_nil (qe_next ?_)
  refine w_seq ?_
  refine w_seq ?_
  refine w_region ?_
  refine sv rfl rfl rfl (ex_move rfl rfl) ?_
  refine sv rfl rfl rfl (ex_len Try.underlying33 rfl rfl) ?_
  refine sv rfl rfl rfl (ex_move rfl rfl) ?_
  refine w_nil (qe_next ?_)
  refine w_block ?_
  refine w_loop (ι := Nat) (fun k1 => [(0, .pointer (some ⟨k, 0, none⟩)), (3, .slice (some ⟨g, 0, none⟩) s.du.length s.du.length), (12, .int .i64 (s.du.length : Int)), (13, .int .i64 (k1 : Int))]) (fun k1 wL => k1 ≤ s.du.length ∧ DiskAt wL F k s ∧ (∃ sl : List Sl, sl.length = k1 ∧ Own wL w.heap.size 22 1 (some ⟨g, 0, none⟩) s.du.length s.du.length (sl.map slv ++ List.replicate (s.du.length - k1) (Value.slice none 0 0)) ∧ Owns wL w.heap.size sl (s.du.take k1)) ∧ Ext w wL) (fun k1 => s.du.length - k1) (0) ⟨rfl, rfl, rfl, rfl, trivial⟩ ?_ ?_
  · exact ⟨Nat.zero_le _, hD, ⟨[], rfl, hG, by rw [List.take_zero]; trivial⟩, K0⟩
  · clear hD K0 hb hG
    rintro k1 wL ⟨hk1, hD, ⟨sl, hsl, hG, hso⟩, K0⟩
    refine w_seq ?_
    refine w_region ?_
    refine sv rfl rfl rfl (ex_cmp rfl rfl rfl rfl) ?_
    refine w_nil (qe_next ?_)
    refine w_seq ?_
    refine w_if rfl (fun hk3 => ?_) (fun hk3 => ?_)
    · skip
      replace hk3 : k1 < s.du.length := by omega
      refine w_skip (qe_next ?_)
      refine w_seq ?_
      refine w_block ?_
      refine w_seq ?_
      refine w_region ?_
      refine sv rfl rfl rfl (ex_move rfl rfl) ?_
      refine sv rfl rfl rfl (ex_assign rfl rfl) ?_
      refine w_nil (qe_next ?_)
      refine w_region ?_
      refine sv rfl rfl rfl (ex_move rfl rfl) ?_
      refine sv rfl rfl rfl (ex_move rfl rfl) ?_
      refine sv rfl rfl rfl (ex_move rfl rfl) ?_
      refine sv rfl rfl rfl (ex_move rfl rfl) ?_
      have hszL := K0.size
      refine st rfl rfl rfl (ex_call call35 rfl rfl (contents_c k1 F k s _ hD hk3)) ?_
      rintro _ w2 ⟨g1, rfl, hg1, E2⟩
      replace hD := hD.ext E2
      replace hG := hG.ext E2
      replace hso := hso.ext E2
      replace K0 := K0.ext E2
      refine sv rfl rfl rfl (ex_index Try.underlying33 sz22 k1 rfl rfl rfl (by first | rfl | omega) (by omega)) ?_
      refine st0 rfl rfl (ex_store_own sz22 hG (i := k1) hk3 rfl rfl rfl rfl) ?_
      rintro _ w3 ⟨K1, hG2, hz1⟩
      have hgl := (hG.lt rfl).1
      have hD2 := hD.keep K1 (fun j hj e => by have := hFlt j hj; omega)
      have hso2 := hso.keepB K1 (fun g2 cs _ hg2 e => by subst e; exact hG.ne_blk hg2 (by decide) g2 0 rfl rfl)
      have hg5 := (hg1.keepT K1 (fun g2 cs _ hg2 e => by subst e; exact hG.ne_blk hg2 (by decide) g2 0 rfl rfl)).lower hszL
      have K3 := K0.trans K1 (fun j hj _ e => by omega)
      refine w_nil (qe_in_normal (qe_next ?_))
      refine w_region ?_
      refine sv rfl rfl rfl (ex_add rfl rfl rfl (i64_in (by omega) (by omega))) ?_
      refine sv rfl rfl rfl (ex_move rfl rfl) ?_
      refine w_nil (qe_round (k1 + 1) ⟨rfl, rfl, rfl, rfl, trivial⟩ ?_ ?_)
      · exact ⟨by omega, hD2, ⟨sl ++ [(some ⟨g1, 0, none⟩, s.n, s.n)], by simp [hsl], by rw [show (sl.map slv ++ List.replicate (s.du.length - k1) (Value.slice none 0 0)).set k1 (Value.slice (some (⟨g1, 0, none⟩ : Addr)) s.n s.n) = (sl ++ [((some (⟨g1, 0, none⟩ : Addr), s.n, s.n) : Sl)]).map slv ++ List.replicate (s.du.length - (k1 + 1)) (Value.slice none 0 0) from by rw [show s.du.length - k1 = (s.du.length - (k1 + 1)) + 1 by omega, List.replicate_succ, List.set_append_right _ _ (by simp [hsl])]; simp [hsl, slv]] at hG2; exact hG2, by rw [show s.du.take (k1 + 1) = s.du.take k1 ++ [s.du.getD k1 []] from by rw [List.take_add_one, List.getD_eq_getElem?_getD, List.getElem?_eq_getElem hk3]; rfl]; exact hso2.snoc (by simp only; exact (hwf.du _ (getD_mem hk3)).symm) hg5⟩, K3⟩
      · omega
    · skip
      replace hk3 : k1 = s.du.length := by omega
      subst hk3
      rw [Nat.sub_self, List.replicate_zero, List.append_nil] at hG
      rw [List.take_length] at hso
      refine w_exit (qe_then_exit (qe_then_exit (qe_in_exit (qe_next ?_))))
      refine w_seq ?_
      refine w_region ?_
      refine sv rfl rfl rfl (ex_move rfl rfl) ?_
      refine sv rfl rfl rfl (ex_assign rfl rfl) ?_
      refine w_nil (qe_next ?_)
      refine w_ret (qe_ret1 rfl rfl ?_)
      exact ⟨g, sl, rfl, hG, hso, K0⟩
end Go.Proofs.Ytcgcklfbnmaodaa

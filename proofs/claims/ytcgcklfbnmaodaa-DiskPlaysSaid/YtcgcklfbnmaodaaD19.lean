/- The reference's Write, Read. -/
import Derived.Test.YtcgcklfbnmaodaaD18
namespace Go.Proofs.Ytcgcklfbnmaodaa
open Go Go.RowKit
set_option linter.unusedVariables false
set_option linter.unusedSimpArgs false
/-- (*kinkeep/kinkeepref15.Disk).Write -/
theorem rwrite_c (z : Int) (Ad : Option Addr) (c lo hi : Nat) (ds : List UInt8) (F : Nat → Prop) (k : Nat) (s : St) (w : World) (hR : RefAt w F k s) (hr : Rd w lo hi 1 Ad ds.length (bcells ds)) (hpl : s.pd.length ≤ 1000) :
    Ret Try.prog 37 [.pointer (some ⟨k, 0, none⟩), .int .i64 z, .slice Ad ds.length c] w fun v w' => v = .int .i64 (s.write z ds).1 ∧ RefAt w' (grown F w w') k (s.write z ds).2 ∧ Keep (fun j => ¬ F j) w w' := by
  obtain ⟨⟨A, cA, dsl, P, cP, wl⟩, lf, hb, hm, hFk, hlf, hwf⟩ := id hR
  have ho : Own w 0 22 1 A s.du.length cA (dsl.map slv) := hm.own
  have hd : Owns w 0 dsl s.du := hm.dat
  have hp : Own w 0 74 2 P s.pd.length cP (wcells wl) := hm.pown
  have hFlt := hm.lt
  have n1 := hwf.n1
  have n2 := hwf.n2
  have d1 := hwf.d1
  refine ret_of Try.func37 rfl rfl ?_
  refine w_seq ?_
  refine w_region ?_
  refine sv rfl rfl rfl (ex_assign rfl rfl) ?_
  refine w_nil (qe_next ?_)
  refine w_seq ?_
  refine w_seq ?_
  refine w_region ?_
  refine sv rfl rfl rfl (ex_move rfl rfl) ?_
  refine sv rfl rfl rfl (ex_nil rfl rfl) ?_
  refine sv rfl rfl rfl (ex_fieldAddr fld41_3 rfl rfl) ?_
  refine sv rfl rfl rfl (ex_load one4 rfl rfl (hb.cell rfl)) ?_
  refine w_nil (qe_next ?_)
  refine w_cond rfl (fun hoff => ?_) (fun hoff => ?_)
  · skip
    refine w_seq ?_
    refine w_region ?_
    refine sv rfl rfl rfl (ex_assign rfl rfl) ?_
    refine w_nil (qe_next ?_)
    refine w_ret (qe_then_ret (qe_ret1 rfl rfl ?_))
    rw [show s.write z ds = (8, s) from by unfold St.write; rw [if_pos hoff]]
    exact ⟨rfl, hR.grow (fun j hj => .inl hj) (grown.lt hm.lt (Nat.le_refl _)), Keep.refl _ _⟩
  · skip
    refine w_skip (qe_next ?_)
    refine w_seq ?_
    refine w_seq ?_
    refine w_region ?_
    refine sv rfl rfl rfl (ex_move rfl rfl) ?_
    refine sv rfl rfl rfl (ex_move rfl rfl) ?_
    refine st rfl rfl rfl (ex_call call44 rfl rfl (rsector_c z F k s _ hR)) ?_
    rintro _ w1 ⟨rfl, hwe⟩
    obtain rfl := hwe.symm
    cases hin : decide (s.In z)
    · skip
      refine sv rfl rfl rfl (ex_not rfl rfl) ?_
      refine sv rfl rfl rfl (ex_move rfl rfl) ?_
      first | refine sk rfl rfl rfl ?_ | refine sv rfl rfl rfl (ex_move rfl rfl) ?_
      first | refine sk rfl rfl rfl ?_ | refine sv rfl rfl rfl (ex_len Try.underlying22 rfl rfl) ?_
      first | refine sk rfl rfl rfl ?_ | refine sv rfl rfl rfl (ex_move rfl rfl) ?_
      first | refine sk rfl rfl rfl ?_ | refine sv rfl rfl rfl (ex_nil rfl rfl) ?_
      first | refine sk rfl rfl rfl ?_ | refine sv rfl rfl rfl (ex_fieldAddr fld41_0 rfl rfl) ?_
      first | refine sk rfl rfl rfl ?_ | refine sv rfl rfl rfl (ex_load one3 rfl rfl (hb.cell rfl)) ?_
      refine sk rfl rfl rfl ?_
      first | refine sv rfl rfl rfl (ex_pick_t rfl rfl rfl) ?_ | refine sv rfl rfl rfl (ex_pick_f rfl rfl rfl) ?_
      refine w_nil (qe_next ?_)
      refine w_cond_t rfl ?_
      refine w_seq ?_
      refine w_region ?_
      refine sv rfl rfl rfl (ex_assign rfl rfl) ?_
      refine w_nil (qe_next ?_)
      refine w_ret (qe_then_ret (qe_ret1 rfl rfl ?_))
      have hnI : ¬ s.In z := of_decide_eq_false hin
      rw [show s.write z ds = (1, s) from by unfold St.write; rw [if_neg (by rw [hoff]; simp), if_pos (fun h => hnI h.1)]]
      exact ⟨rfl, hR.grow (fun j hj => .inl hj) (grown.lt hm.lt (Nat.le_refl _)), Keep.refl _ _⟩
    · skip
      refine sv rfl rfl rfl (ex_not rfl rfl) ?_
      refine sv rfl rfl rfl (ex_move rfl rfl) ?_
      first | refine sk rfl rfl rfl ?_ | refine sv rfl rfl rfl (ex_move rfl rfl) ?_
      first | refine sk rfl rfl rfl ?_ | refine sv rfl rfl rfl (ex_len Try.underlying22 rfl rfl) ?_
      first | refine sk rfl rfl rfl ?_ | refine sv rfl rfl rfl (ex_move rfl rfl) ?_
      first | refine sk rfl rfl rfl ?_ | refine sv rfl rfl rfl (ex_nil rfl rfl) ?_
      first | refine sk rfl rfl rfl ?_ | refine sv rfl rfl rfl (ex_fieldAddr fld41_0 rfl rfl) ?_
      first | refine sk rfl rfl rfl ?_ | refine sv rfl rfl rfl (ex_load one3 rfl rfl (hb.cell rfl)) ?_
      refine sv_if rfl rfl rfl (ex_cmp rfl rfl rfl rfl) (fun hlen => ?_) (fun hlen => ?_)
      · skip
        first | refine sv rfl rfl rfl (ex_pick_t rfl rfl rfl) ?_ | refine sv rfl rfl rfl (ex_pick_f rfl rfl rfl) ?_
        refine w_nil (qe_next ?_)
        refine w_cond_t rfl ?_
        refine w_seq ?_
        refine w_region ?_
        refine sv rfl rfl rfl (ex_assign rfl rfl) ?_
        refine w_nil (qe_next ?_)
        refine w_ret (qe_then_ret (qe_ret1 rfl rfl ?_))
        rw [show s.write z ds = (1, s) from by unfold St.write; rw [if_neg (by rw [hoff]; simp), if_pos (fun h => by have := h.2; omega)]]
        exact ⟨rfl, hR.grow (fun j hj => .inl hj) (grown.lt hm.lt (Nat.le_refl _)), Keep.refl _ _⟩
      · skip
        replace hlen : ds.length = s.n := by omega
        first | refine sv rfl rfl rfl (ex_pick_t rfl rfl rfl) ?_ | refine sv rfl rfl rfl (ex_pick_f rfl rfl rfl) ?_
        refine w_nil (qe_next ?_)
        refine w_cond_f rfl ?_
        refine w_skip (qe_next ?_)
        refine w_seq ?_
        have K0 := Keep.refl (fun _ => True) w
        have hIn : s.In z := of_decide_eq_true hin
        have hIn2 := hIn
        unfold St.In at hIn2
        refine w_draw mixed (fun w2 _ Ew2 => ?_)
        replace hb := hb.ext Ew2
        replace hm := hm.ext Ew2
        replace hp := hp.ext Ew2
        replace ho := ho.ext Ew2
        replace hd := hd.ext Ew2
        replace K0 := K0.ext Ew2
        refine wd_chain 12 _ (fun w' => Blk w' k 41 (rcells s.n ⟨A, cA, dsl, P, cP, wl⟩ s.du.length s.pd.length s.off lf)) (hb) rfl rfl rfl rfl ?_
        refine cpur [0] [] rfl rfl rfl rfl rfl (fun w' hR => ex_move rfl rfl) ?_
        refine cpur [0] [] rfl rfl rfl rfl rfl (fun w' hR => ex_move rfl rfl) ?_
        refine cpur [] [1] rfl rfl rfl rfl rfl (fun w' hR => ex_nil rfl rfl) ?_
        refine cpur [] [2] rfl rfl rfl rfl rfl (fun w' hR => ex_fieldAddr fld41_2 rfl rfl) ?_
        refine cpur [] [3] rfl rfl rfl rfl rfl (fun w' hR => ex_load one39 rfl rfl (hR.cell rfl)) ?_
        refine cpur [1] [] rfl rfl rfl rfl rfl (fun w' hR => ex_move rfl rfl) ?_
        refine cfst (fun v' w' => ∃ g, v' = .slice (some ⟨g, 0, none⟩) 0 0 ∧ Own w' w2.heap.size 5 1 (some ⟨g, 0, none⟩) 0 0 [] ∧ Ext w2 w') [] [] rfl rfl rfl rfl rfl ((ex_buildSlice (cs := []) rfl rfl build_none).mono fun v' w'' ⟨g, h1, h0, h2, h3, _⟩ => ⟨g, h1, Own.of_blk (lo := w2.heap.size) (n := 0) (c := 0) (size := 1) h3 (by omega) (Nat.le_refl _) (by decide) (by simp), h2⟩) (fun v w' ⟨_, _, _, hE⟩ => hb.ext hE) ?_
        refine cpur [2] [] rfl rfl rfl rfl rfl (fun w' hR => ex_move rfl rfl) ?_
        refine cnxt (fun v' w' => ∃ B L d, v' = .slice B L d ∧ L = s.n ∧ Own w' w2.heap.size 5 1 B L d (bcells (ds)) ∧ Ext w2 w') [] [7] rfl rfl rfl rfl rfl (fun _ => rfl) (fun v w' ⟨g, hv, hg, hE⟩ => by subst hv; exact (ex_append Try.underlying22 z5.1 rfl (by decide) rfl rfl rfl hg (hr.ext (K0.ext hE)) (bcells_one _) (by omega) (by omega) hE.size).mono fun v' w'' ⟨B, d, h1, h2, h3, h4⟩ => ⟨B, _, d, h1, by omega, h2, hE.trans h3 (fun j hj _ => hg.fresh hj)⟩) (fun v w' ⟨_, _, _, _, _, _, hE⟩ => hb.ext hE) ?_
        refine cnxt (fun v' w' => ∃ B L d, v' = .agg [Value.int .i64 z, Value.slice B L d].toArray ∧ L = s.n ∧ Own w' w2.heap.size 5 1 B L d (bcells (ds)) ∧ Ext w2 w') [] [5] rfl rfl rfl rfl rfl (fun _ => rfl) (fun v w' ⟨B, L, d, hv, hL, hg, hE⟩ => by subst hv; exact (ex_build rfl rfl (build_pn z B L d)).mono fun v' w'' ⟨h1, h2⟩ => by subst h2; exact ⟨B, L, d, h1, hL, hg, hE⟩) (fun v w' ⟨_, _, _, _, _, _, hE⟩ => hb.ext hE) ?_
        refine cnxt (fun v' w' => ∃ g B L d, v' = .slice (some ⟨g, 0, none⟩) 1 1 ∧ Blk w' g 74 [Value.int .i64 z, Value.slice B L d] ∧ L = s.n ∧ Own w' w2.heap.size 5 1 B L d (bcells (ds)) ∧ Ext w2 w') [] [] rfl rfl rfl rfl rfl (fun _ => rfl) (fun v w' ⟨B, L, d, hv, hL, hg, hE⟩ => by subst hv; exact (ex_buildSlice (cs := [Value.int .i64 z, Value.slice B L d]) rfl rfl (build_pns z B L d)).mono fun v' w'' ⟨g, h1, _, h2, h3, _⟩ => ⟨g, B, L, d, h1, h3, hL, hg.ext h2, hE.ext h2⟩) (fun v w' ⟨_, _, _, _, _, _, _, _, hE⟩ => hb.ext hE) ?_
        refine cnxt (fun v' w' => ∃ B2 d2 B L d, v' = .slice B2 (s.pd.length + 1) d2 ∧ Own w' 0 74 2 B2 (s.pd.length + 1) d2 (wcells wl ++ [Value.int .i64 z, Value.slice B L d]) ∧ L = s.n ∧ Own w' w2.heap.size 5 1 B L d (bcells (ds)) ∧ Keep (fun j => ∀ o, P ≠ some ⟨j, o, none⟩) w2 w' ∧ (B2 = P ∨ ∃ g, B2 = some ⟨g, 0, none⟩ ∧ w.heap.size ≤ g)) [] [4] rfl rfl rfl rfl rfl (fun _ => rfl) (fun v w' ⟨g, B, L, d, hv, hg, hL, ho2, hE⟩ => by subst hv; have hz := hE.size; have hz2 := K0.size; exact (ex_append Try.underlying39 zpn rfl (by decide) rfl rfl rfl (hp.ext hE) (Rd.of_blk (size := 2) hg rfl) (by intro u hu; simp at hu; rcases hu with rfl | rfl <;> rfl) (by omega) (by omega) (Nat.zero_le _)).mono fun v' w'' ⟨B2, d2, h1, h2, h3, h4⟩ => ⟨B2, d2, B, L, d, h1, h2, hL, ho2.keepT h3 (fun g cs _ hg o e => (hp.ext hE).ne_blk hg (by decide) g o e rfl), (Keep.of_ext hE _).trans h3 (fun j _ hj => hj), h4.imp id fun h => ⟨_, h, by omega⟩⟩) (fun v w' ⟨_, _, _, _, _, _, _, _, _, hK, _⟩ => hb.keep hK (fun o e => hp.ne_blk hb (by decide) k o e rfl)) ?_
        refine .nil ⟨rfl, rfl, ?_⟩
        rintro _ w3 ⟨B2, d2, B, L, d, rfl, hP2, hL, hB, K9, hB2⟩
        show Wd _ _ _ _ _ _ _ _
        have hszW := K0.size
        have hb9 := hb.keep K9 (fun o e => hp.ne_blk hb (by decide) k o e rfl)
        have K8 := (Keep.of_ext K0 (fun j => ¬ F j)).trans K9 (fun j _ hj o e => hj (hm.fP j o e))
        refine wd_v rfl rfl (by kernel_rfl) rfl rfl rfl (ex_nil rfl rfl) ?_
        refine wd_v rfl rfl (by kernel_rfl) rfl rfl rfl (ex_fieldAddr fld41_2 rfl rfl) ?_
        refine wd_one0 rfl rfl (by kernel_rfl) rfl rfl (ex_store_blk sz39 rfl rfl rfl rfl hb9 (by simp [rcells])) ?_
        rintro _ w4 ⟨K10, hb10, hz10⟩
        have hP3 := hP2.keep K10 (fun g o e => hP2.ne_blk hb9 (by decide) g o e)
        have hB3 := hB.keep K10 (fun g o e => hB.ne_blk hb9 (by decide) g o e)
        have hBl3 : ∀ g o, B = some ⟨g, o, none⟩ → w.heap.size ≤ g ∧ g < _ := fun g o e => by have h := hB3.lt e; exact ⟨Nat.le_trans hszW h.1, h.2⟩
        have hm4 := hm.push (F' := fun j => F j ∨ (w.heap.size ≤ j ∧ j < _)) (z := z.toNat) (s := (B, L, d)) (y := ds) K9 (by rw [show ((z.toNat : Nat) : Int) = z by omega]; exact hP2) (by decide) (by decide) (by rw [hlen]; exact hL) (hB.lower (Nat.zero_le _)) (fun g o e => by have := hBl3 g o e; exact ⟨fun hh => by have := hFlt g hh; omega, .inr ⟨this.1, (hB.lt e).2⟩⟩) (fun g o e => by
          rcases hB2 with h | ⟨g', h, hg'⟩
          · exact .inl (hm.fP g o (by rw [← h]; exact e))
          · exact .inr ⟨by rw [h] at e; injection e with e; injection e with e; omega, (hP2.lt e).2⟩) (fun j hj => .inl hj) (fun j hj => by
          rcases hj with hj | hj
          · have := hFlt j hj; have := K8.size; omega
          · exact hj.2)
        have hm5 := hm4.keepK hb9 (by decide) (by decide) (by decide) K10
        have K11 := K8.trans K10 (fun j _ hj e => hj (by rw [e]; exact hFk))
        obtain ⟨s1, hs1⟩ : ∃ s1, s1 = ({ s with pd := s.pd ++ [(z.toNat, ds)] } : St) := ⟨_, rfl⟩
        have hw1 : s1.Wf := by
          rw [hs1]
          refine ⟨hwf.n1, hwf.n2, hwf.d1, hwf.du, fun p hp => ?_, hwf.l1, hwf.l2, hwf.of⟩
          rcases List.mem_append.1 hp with hp | hp
          · exact hwf.pd p hp
          · rw [List.mem_singleton.1 hp]; exact ⟨by simp only; omega, hlen⟩
        have hD1 := RefAt.intro (s := s1) (r := ⟨A, cA, dsl, B2, d2, wl ++ [(z.toNat, (B, L, d))]⟩) (lf := lf) (by subst hs1; simp only; rw [List.length_append, List.length_singleton]; exact hb10) (by subst hs1; exact hm5) (by exact .inl hFk) (by subst hs1; exact hlf) hw1
        have hwr : s.write z ds = (if s1.fails.1 = true then 8 else 0, s1.fails.2) := by
          subst hs1
          unfold St.write
          rw [if_neg (by rw [hoff]; simp), if_neg (fun h => h ⟨hIn, hlen⟩)]
        refine wd_nil (by decide) rfl ?_
        refine qe_next ?_
        refine w_seq ?_
        refine w_seq ?_
        refine w_region ?_
        refine sv rfl rfl rfl (ex_move rfl rfl) ?_
        refine st rfl rfl rfl (ex_call call45 rfl rfl (rfails_c _ k s1 _ hD1 (by subst hs1; exact hoff))) ?_
        rintro _ w5 ⟨rfl, hD2, K12⟩
        cases hf : s1.fails.1
        · skip
          refine w_nil (qe_next ?_)
          refine w_cond_f rfl ?_
          refine w_skip (qe_next ?_)
          refine w_seq ?_
          refine w_region ?_
          refine sv rfl rfl rfl (ex_assign rfl rfl) ?_
          refine w_nil (qe_next ?_)
          refine w_ret (qe_ret1 rfl rfl ?_)
          rw [hwr, hf]
          exact ⟨rfl, hD2.grow (fun j hj => by
            rcases hj with hj | hj
            · exact .inl hj
            · exact .inr ⟨hj.1, by have := K12.size; omega⟩) (grown.lt hFlt (by have := K11.size; have := K12.size; omega)), K11.trans K12 (fun j _ hj e => hj (by rw [e]; exact hFk))⟩
        · skip
          refine w_nil (qe_next ?_)
          refine w_cond_t rfl ?_
          refine w_seq ?_
          refine w_region ?_
          refine sv rfl rfl rfl (ex_assign rfl rfl) ?_
          refine w_nil (qe_next ?_)
          refine w_ret (qe_then_ret (qe_ret1 rfl rfl ?_))
          rw [hwr, hf]
          exact ⟨rfl, hD2.grow (fun j hj => by
            rcases hj with hj | hj
            · exact .inl hj
            · exact .inr ⟨hj.1, by have := K12.size; omega⟩) (grown.lt hFlt (by have := K11.size; have := K12.size; omega)), K11.trans K12 (fun j _ hj e => hj (by rw [e]; exact hFk))⟩

theorem look_one (pd : List (Nat × List UInt8)) (p : Nat × List UInt8) (i : Nat) (d : List UInt8) : look (pd ++ [p]) i d = if p.1 = i then p.2 else look pd i d := by
  unfold look
  rw [List.foldl_append]
  rfl
theorem look_step {pd : List (Nat × List UInt8)} {j i : Nat} {p : Nat × List UInt8} (h : pd[j]? = some p) (d : List UInt8) : look (pd.take (j + 1)) i d = if p.1 = i then p.2 else look (pd.take j) i d := by
  rw [List.take_add_one, h]
  exact look_one _ _ _ _

/-- (*kinkeep/kinkeepref15.Disk).Read -/
theorem rread_c (z : Int) (F : Nat → Prop) (k : Nat) (s : St) (w : World) (hR : RefAt w F k s) (hpl : s.pd.length ≤ 1000) :
    Ret Try.prog 38 [.pointer (some ⟨k, 0, none⟩), .int .i64 z] w fun v w' => ∃ B d, v = .tuple #[.slice B (s.read z).1.length d, .int .i64 (s.read z).2] ∧ Own w' w.heap.size 5 1 B (s.read z).1.length d (bcells (s.read z).1) ∧ Ext w w' := by
  obtain ⟨⟨A, cA, dsl, P, cP, wl⟩, lf, hb, hm, hFk, hlf, hwf⟩ := id hR
  have ho : Own w 0 22 1 A s.du.length cA (dsl.map slv) := hm.own
  have hd : Owns w 0 dsl s.du := hm.dat
  have hp : Own w 0 74 2 P s.pd.length cP (wcells wl) := hm.pown
  have hFlt := hm.lt
  have n1 := hwf.n1
  have n2 := hwf.n2
  have d1 := hwf.d1
  refine ret_of Try.func38 rfl rfl ?_
  refine w_seq ?_
  refine w_region ?_
  refine sv rfl rfl rfl (ex_assign rfl rfl) ?_
  refine sv rfl rfl rfl (ex_assign rfl rfl) ?_
  refine w_nil (qe_next ?_)
  refine w_seq ?_
  refine w_seq ?_
  refine w_region ?_
  refine sv rfl rfl rfl (ex_move rfl rfl) ?_
  refine sv rfl rfl rfl (ex_nil rfl rfl) ?_
  refine sv rfl rfl rfl (ex_fieldAddr fld41_3 rfl rfl) ?_
  refine sv rfl rfl rfl (ex_load one4 rfl rfl (hb.cell rfl)) ?_
  refine w_nil (qe_next ?_)
  refine w_cond rfl (fun hoff => ?_) (fun hoff => ?_)
  · skip
    refine w_seq ?_
    refine w_region ?_
    refine sv rfl rfl rfl (ex_assign rfl rfl) ?_
    refine sv rfl rfl rfl (ex_assign rfl rfl) ?_
    refine w_nil (qe_next ?_)
    refine w_ret (qe_then_ret (qe_ret2 rfl rfl rfl ?_))
    rw [show s.read z = ([], 8) from by unfold St.read; rw [if_pos hoff]]
    exact ⟨none, 0, rfl, Own.nil _ _ _ _, Keep.refl _ _⟩
  · skip
    refine w_skip (qe_next ?_)
    refine w_seq ?_
    refine w_seq ?_
    refine w_region ?_
    refine sv rfl rfl rfl (ex_move rfl rfl) ?_
    refine sv rfl rfl rfl (ex_move rfl rfl) ?_
    refine st rfl rfl rfl (ex_call call44 rfl rfl (rsector_c z F k s _ hR)) ?_
    rintro _ w1 ⟨rfl, hwe⟩
    obtain rfl := hwe.symm
    cases hin : decide (s.In z)
    · skip
      refine sv rfl rfl rfl (ex_not rfl rfl) ?_
      refine w_nil (qe_next ?_)
      refine w_cond_t rfl ?_
      refine w_seq ?_
      refine w_region ?_
      refine sv rfl rfl rfl (ex_assign rfl rfl) ?_
      refine sv rfl rfl rfl (ex_assign rfl rfl) ?_
      refine w_nil (qe_next ?_)
      refine w_ret (qe_then_ret (qe_ret2 rfl rfl rfl ?_))
      have hnI : ¬ s.In z := of_decide_eq_false hin
      rw [show s.read z = ([], 1) from by unfold St.read; rw [if_neg (by rw [hoff]; simp), if_pos hnI]]
      exact ⟨none, 0, rfl, Own.nil _ _ _ _, Keep.refl _ _⟩
    · skip
      refine sv rfl rfl rfl (ex_not rfl rfl) ?_
      refine w_nil (qe_next ?_)
      refine w_cond_f rfl ?_
      refine w_skip (qe_next ?_)
      refine w_seq ?_
      have hIn : s.In z := of_decide_eq_true hin
      have hIn2 := hIn
      unfold St.In at hIn2
      obtain ⟨i, rfl⟩ : ∃ i : Nat, z = (i : Int) := ⟨z.toNat, by omega⟩
      have hi : i < s.du.length := by omega
      obtain ⟨bb, oo, u, rfl, _, _, hu, hc⟩ := ho.rd.at_ (k := i) (by omega)
      rw [List.getElem?_map] at hu
      obtain ⟨si, hsi, rfl⟩ := Option.map_eq_some_iff.1 hu
      obtain ⟨yi, hyi, hli, hoi⟩ := hd.get hsi
      have hyn := hwf.du yi (List.mem_of_getElem? hyi)
      have hgd : s.du.getD i [] = yi := by rw [List.getD_eq_getElem?_getD, hyi]; rfl
      have hrd0 : s.read (i : Int) = (look s.pd i yi, 0) := by
        unfold St.read
        rw [if_neg (by rw [hoff]; simp), if_neg (fun h => h hIn)]
        rw [← hgd]
        rfl
      refine w_region ?_
      refine sv rfl rfl rfl (ex_move rfl rfl) ?_
      refine sv rfl rfl rfl (ex_nil rfl rfl) ?_
      refine sv rfl rfl rfl (ex_fieldAddr fld41_1 rfl rfl) ?_
      refine sv rfl rfl rfl (ex_load one33 rfl rfl (hb.cell rfl)) ?_
      refine sv rfl rfl rfl (ex_move rfl rfl) ?_
      refine sv rfl rfl rfl (ex_index Try.underlying33 sz22 (i) rfl rfl rfl (by first | rfl | omega) (by omega)) ?_
      refine sv rfl rfl rfl (ex_load (v := .slice si.1 si.2.1 si.2.2) one22 rfl rfl hc) ?_
      refine sv rfl rfl rfl (ex_assign rfl rfl) ?_
      refine w_nil (qe_next ?_)
      refine w_seq ?_
      refine w_seq ?_
      refine w_region ?_
      refine sv rfl rfl rfl (ex_assign rfl rfl) ?_
      refine w_nil (qe_next ?_)
      refine w_block ?_
      refine w_loop (ι := Nat × Sl) (fun i2 => [(0, .pointer (some ⟨k, 0, none⟩)), (1, .int .i64 (i : Int)), (6, slv i2.2), (7, .int .i64 (i2.1 : Int))]) (fun i2 wL => i2.1 ≤ s.pd.length ∧ (∃ y, y = look (s.pd.take i2.1) i yi ∧ y.length = s.n ∧ i2.2.2.1 = y.length ∧ Rd w 0 w.heap.size 1 i2.2.1 i2.2.2.1 (bcells y)) ∧ wL = w) (fun i2 => s.pd.length - i2.1) ((0, si)) ⟨rfl, rfl, rfl, rfl, trivial⟩ ?_ ?_
      · exact ⟨Nat.zero_le _, ⟨yi, rfl, hyn, hli, hoi.rd⟩, rfl⟩
      · rintro ⟨j, cur⟩ wL ⟨hj, ⟨y, hy, hyn2, hcl, hcr⟩, hwL⟩
        obtain rfl := hwL.symm
        simp only at hj hy hcl hcr
        refine w_seq ?_
        refine w_seq ?_
        refine w_region ?_
        refine sv rfl rfl rfl (ex_move rfl rfl) ?_
        refine sv rfl rfl rfl (ex_move rfl rfl) ?_
        refine sv rfl rfl rfl (ex_nil rfl rfl) ?_
        refine sv rfl rfl rfl (ex_fieldAddr fld41_2 rfl rfl) ?_
        refine sv rfl rfl rfl (ex_load one39 rfl rfl (hb.cell rfl)) ?_
        refine sv rfl rfl rfl (ex_len Try.underlying39 rfl rfl) ?_
        refine sv rfl rfl rfl (ex_cmp rfl rfl rfl rfl) ?_
        refine w_nil (qe_next ?_)
        refine w_if rfl (fun hj2 => ?_) (fun hj2 => ?_)
        · skip
          replace hj2 : j < s.pd.length := by first | omega | (simp only at hj2; omega)
          obtain ⟨p, y2, hp9, hy2, hly, hoy⟩ := pd_get hm hj2
          have hp9 : wl[j]? = some p := hp9
          obtain ⟨bp, op, rfl, _, _, hcp⟩ := hp.rd.addr (by omega)
          have hg2 := wcells_get hp9
          have hy2n := (hwf.pd _ (List.mem_of_getElem? hy2)).2
          simp only at hy2n
          refine w_skip (qe_next ?_)
          refine w_seq ?_
          refine w_block ?_
          refine w_seq ?_
          refine w_region ?_
          refine sv rfl rfl rfl (ex_move rfl rfl) ?_
          refine sv rfl rfl rfl (ex_nil rfl rfl) ?_
          refine sv rfl rfl rfl (ex_fieldAddr fld41_2 rfl rfl) ?_
          refine sv rfl rfl rfl (ex_load one39 rfl rfl (hb.cell rfl)) ?_
          refine sv rfl rfl rfl (ex_move rfl rfl) ?_
          refine sv rfl rfl rfl (ex_indexN Try.underlying39 sz74 j rfl rfl rfl (by first | rfl | omega) (by omega)) ?_
          refine sv rfl rfl rfl (ex_fieldAddr fld74_0 rfl rfl) ?_
          refine sv rfl rfl rfl (ex_load one3 rfl rfl (by rw [Nat.add_assoc]; exact hcp _ _ hg2.1)) ?_
          refine sv rfl rfl rfl (ex_move rfl rfl) ?_
          refine sv rfl rfl rfl (ex_cmp rfl rfl rfl rfl) ?_
          refine w_nil (qe_next ?_)
          refine w_if rfl (fun hez => ?_) (fun hez => ?_)
          · skip
            replace hez : p.1 = i := by first | omega | (simp only at hez; omega)
            refine w_region ?_
            refine sv rfl rfl rfl (ex_move rfl rfl) ?_
            refine sv rfl rfl rfl (ex_nil rfl rfl) ?_
            refine sv rfl rfl rfl (ex_fieldAddr fld41_2 rfl rfl) ?_
            refine sv rfl rfl rfl (ex_load one39 rfl rfl (hb.cell rfl)) ?_
            refine sv rfl rfl rfl (ex_move rfl rfl) ?_
            refine sv rfl rfl rfl (ex_indexN Try.underlying39 sz74 j rfl rfl rfl (by first | rfl | omega) (by omega)) ?_
            refine sv rfl rfl rfl (ex_fieldAddr fld74_1 rfl rfl) ?_
            refine sv rfl rfl rfl (ex_load (v := slv p.2) one22 rfl rfl (by rw [Nat.add_assoc]; exact hcp _ _ hg2.2)) ?_
            refine sv rfl rfl rfl (ex_assign rfl rfl) ?_
            refine w_nil (qe_in_normal (qe_next ?_))
            refine w_region ?_
            refine sv rfl rfl rfl (ex_move rfl rfl) ?_
            refine sv rfl rfl rfl (ex_add rfl rfl rfl (i64_in (by omega) (by omega))) ?_
            refine sv rfl rfl rfl (ex_assign rfl rfl) ?_
            refine w_nil (qe_round ((j + 1, p.2)) ⟨rfl, rfl, rfl, rfl, trivial⟩ ?_ ?_)
            · exact ⟨by simp only; omega, ⟨y2, by simp only; rw [look_step hy2, if_pos (by simp only; omega)], hy2n, hly, hoy.rd⟩, rfl⟩
            · simp only; omega
          · skip
            replace hez : ¬ p.1 = i := by first | omega | (simp only at hez; omega)
            refine w_skip (qe_in_normal (qe_next ?_))
            refine w_region ?_
            refine sv rfl rfl rfl (ex_move rfl rfl) ?_
            refine sv rfl rfl rfl (ex_add rfl rfl rfl (i64_in (by omega) (by omega))) ?_
            refine sv rfl rfl rfl (ex_assign rfl rfl) ?_
            refine w_nil (qe_round ((j + 1, cur)) ⟨rfl, rfl, rfl, rfl, trivial⟩ ?_ ?_)
            · exact ⟨by simp only; omega, ⟨y, by simp only; rw [look_step hy2, if_neg (by simp only; omega)]; exact hy, hyn2, hcl, hcr⟩, rfl⟩
            · simp only; omega
        · skip
          replace hj2 : j = s.pd.length := by first | omega | (simp only at hj2; omega)
          subst hj2
          rw [List.take_length] at hy
          have K0 : Ext w w := Keep.refl _ _
          refine w_exit (qe_then_exit (qe_then_exit (qe_in_exit (qe_next ?_))))
          refine w_seq ?_
          refine w_region ?_
          refine st rfl rfl rfl (ex_buildSlice (cs := []) rfl rfl build_none) ?_
          rintro _ w2 ⟨g, rfl, hg0, E5, hb5, hs5⟩
          replace K0 := K0.ext E5
          have hown := Own.of_blk (lo := w.heap.size) (n := 0) (c := 0) (size := 1) hb5 (by omega) (by omega) (by decide) (by simp)
          have hsz := K0.size
          refine sv rfl rfl rfl (ex_move rfl rfl) ?_
          refine st rfl rfl rfl (ex_append Try.underlying22 z5.1 rfl (by decide) rfl rfl rfl hown (hcr.ext K0) (bcells_one _) (by first | omega | (simp only; omega)) (by first | omega | (simp only; omega)) (by omega)) ?_
          rintro _ w3 ⟨B1, d1, rfl, hown1, K1, hB1⟩
          replace K0 := K0.trans K1 (fun j hj _ => hown.fresh hj)
          have hlen9 : 0 + (s.pd.length, cur).2.2.1 = (look s.pd i yi).length := by simp only; rw [← hy]; omega
          refine sv rfl rfl rfl (ex_assign rfl rfl) ?_
          refine sv rfl rfl rfl (ex_assign rfl rfl) ?_
          refine w_nil (qe_next ?_)
          refine w_ret (qe_ret2 rfl rfl rfl ?_)
          rw [hlen9] at hown1 ⊢
          rw [hrd0]
          refine ⟨B1, d1, rfl, ?_, K0⟩
          rw [← hy] at hown1 ⊢
          simpa using hown1
end Go.Proofs.Ytcgcklfbnmaodaa

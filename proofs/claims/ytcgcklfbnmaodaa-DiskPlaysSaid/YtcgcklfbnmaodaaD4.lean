/- fails, Clone, Write. -/
import Derived.Test.YtcgcklfbnmaodaaD3
namespace Go.Proofs.Ytcgcklfbnmaodaa
open Go Go.RowKit
set_option linter.unusedVariables false
set_option linter.unusedSimpArgs false
theorem Mem.keepK {tw T k : Nat} {w w' : World} {F : Nat → Prop} {r : Rep} {rd : List (List UInt8)} {pd : List (Nat × List UInt8)} {cs : List Value} (h : Mem tw w F r rd pd) (hb : Blk w k T cs) (h1 : 22 ≠ T) (h2 : tw ≠ T) (h3 : 5 ≠ T) (K : Keep (fun j => j ≠ k) w w') : Mem tw w' F r rd pd :=
  ⟨h.own.keep K (fun g o e => h.own.ne_blk hb h1 g o e), h.dat.keepB K (fun g cs _ hg => hg.ne hb h3), h.pown.keep K (fun g o e => h.pown.ne_blk hb h2 g o e), h.pdat.keepB K (fun g cs _ hg => hg.ne hb h3), h.psec, h.sep, h.fA, h.fP, h.fd, fun j hj => Nat.lt_of_lt_of_le (h.lt j hj) K.size⟩
theorem build_wr (z : Int) (B : Option Addr) (n d : Nat) (w : World) : (Instr.build 66 [(0, Value.int .i64 z), (1, Value.slice B n d)].toArray).run Try.prog w = .ok (.agg [Value.int .i64 z, Value.slice B n d].toArray) w := by kernel_rfl
theorem build_wrs (z : Int) (B : Option Addr) (n d : Nat) (w : World) : (Instr.buildSlice 60 1 [(0, Value.agg [Value.int .i64 z, Value.slice B n d].toArray)].toArray).run Try.prog w = .ok (.slice (some ⟨w.heap.size, 0, none⟩) 1 1) (w.alloc (.cells [Value.int .i64 z, Value.slice B n d].toArray 66)) := by kernel_rfl
theorem zwr : (Try.prog.info? 66).map (fun i => (i.zero, i.size, i.bytes)) = some (some (.agg #[.int .i64 0, .slice none 0 0]), 2, 32) := by kernel_rfl

theorem eq_zero_of {s : St} {arm : Bool} (h : arm = decide (0 ≤ s.left)) (ha : (!arm) = true) : s.left < 0 := by
  subst h
  simpa using ha
theorem eq_nonneg_of {s : St} {arm : Bool} (h : arm = decide (0 ≤ s.left)) (ha : (!arm) = false) : 0 ≤ s.left := by
  subst h
  simpa using ha

/-- (*kinkeep/disk.Disk).fails -/
theorem fails_c (F : Nat → Prop) (k : Nat) (s : St) (w : World) (hD : DiskAt w F k s) :
    Ret Try.prog 33 [.pointer (some ⟨k, 0, none⟩)] w fun v w' => v = .bool s.fails.1 ∧ DiskAt w' F k s.fails.2 ∧ Keep (fun j => j ≠ k) w w' := by
  obtain ⟨⟨A, cA, dsl, P, cP, wl⟩, rd, arm, aft, hb, hm, hFk, hdu, hrd, hnil, harm, haft, hwf⟩ := hD
  have ho : Own w 0 22 1 A rd.length cA (dsl.map slv) := hm.own
  have hd : Owns w 0 dsl rd := hm.dat
  have hp : Own w 0 66 2 P s.pd.length cP (wcells wl) := hm.pown
  have hq : Owns w 0 (wl.map (·.2)) (s.pd.map (·.2)) := hm.pdat
  have hdl : s.du.length = rd.length := by rw [hdu, List.length_map]
  have n1 := hwf.n1
  have n2 := hwf.n2
  have d1 := hwf.d1
  have l2 := hwf.l2
  refine ret_of Try.func33 rfl rfl ?_
  refine w_seq ?_
  refine w_region ?_
  refine sv rfl rfl rfl (ex_assign rfl rfl) ?_
  refine w_nil (qe_next ?_)
  refine w_seq ?_
  refine w_seq ?_
  refine w_region ?_
  refine sv rfl rfl rfl (ex_move rfl rfl) ?_
  refine sv rfl rfl rfl (ex_nil rfl rfl) ?_
  refine sv rfl rfl rfl (ex_fieldAddr fld62_4 rfl rfl) ?_
  refine sv rfl rfl rfl (ex_load one4 rfl rfl (hb.cell rfl)) ?_
  refine sv rfl rfl rfl (ex_not rfl rfl) ?_
  refine w_nil (qe_next ?_)
  refine w_cond rfl (fun ha => ?_) (fun ha => ?_)
  · skip
    have hl := eq_zero_of harm ha
    have hfs : s.fails = (false, s) := by unfold St.fails; rw [if_neg (by omega), if_neg (by omega)]
    refine w_seq ?_
    refine w_region ?_
    refine sv rfl rfl rfl (ex_assign rfl rfl) ?_
    refine w_nil (qe_next ?_)
    refine w_ret (qe_then_ret (qe_ret1 rfl rfl ?_))
    rw [hfs]
    exact ⟨rfl, ⟨⟨A, cA, dsl, P, cP, wl⟩, rd, arm, aft, hb, hm, hFk, hdu, hrd, hnil, harm, haft, hwf⟩, Keep.refl _ _⟩
  · skip
    have hl := eq_nonneg_of harm ha
    obtain rfl := (haft hl).symm
    refine w_skip (qe_next ?_)
    refine w_seq ?_
    refine w_seq ?_
    refine w_region ?_
    refine sv rfl rfl rfl (ex_move rfl rfl) ?_
    refine sv rfl rfl rfl (ex_nil rfl rfl) ?_
    refine sv rfl rfl rfl (ex_fieldAddr fld62_5 rfl rfl) ?_
    refine sv rfl rfl rfl (ex_load one3 rfl rfl (hb.cell rfl)) ?_
    refine sv rfl rfl rfl (ex_cmp rfl rfl rfl rfl) ?_
    refine w_nil (qe_next ?_)
    refine w_if rfl (fun hg => ?_) (fun hg => ?_)
    · skip
      have hfs : s.fails = (false, { s with left := s.left - 1 }) := by unfold St.fails; rw [if_neg (by omega), if_pos (by omega)]
      refine w_seq ?_
      refine w_region ?_
      refine sv rfl rfl rfl (ex_move rfl rfl) ?_
      refine sv rfl rfl rfl (ex_nil rfl rfl) ?_
      refine sv rfl rfl rfl (ex_fieldAddr fld62_5 rfl rfl) ?_
      refine sv rfl rfl rfl (ex_load one3 rfl rfl (hb.cell rfl)) ?_
      refine sv rfl rfl rfl (ex_sub rfl rfl rfl (i64_in (by omega) (by omega))) ?_
      refine sv rfl rfl rfl (ex_nil rfl rfl) ?_
      refine sv rfl rfl rfl (ex_fieldAddr fld62_5 rfl rfl) ?_
      refine st0 rfl rfl (ex_store_blk sz3 rfl rfl rfl rfl hb (by simp [dcells])) ?_
      rintro _ w1 ⟨K1, hb1, hz1⟩
      refine w_nil (qe_next ?_)
      refine w_seq ?_
      refine w_region ?_
      refine sv rfl rfl rfl (ex_assign rfl rfl) ?_
      refine w_nil (qe_next ?_)
      refine w_ret (qe_then_ret (qe_ret1 rfl rfl ?_))
      have hw2 := hwf.fails
      rw [hfs] at hw2 ⊢
      exact ⟨rfl, ⟨⟨A, cA, dsl, P, cP, wl⟩, rd, arm, _, hb1, hm.keepK hb (by decide) (by decide) (by decide) K1, hFk, hdu, hrd, hnil, by rw [harm]; exact decide_eq_decide.2 (by simp only; omega), fun _ => rfl, hw2⟩, K1⟩
    · skip
      have hfs : s.fails = (true, { s with off := true, left := -1 }) := by unfold St.fails; rw [if_pos (by omega)]
      refine w_skip (qe_next ?_)
      refine w_seq ?_
      refine w_region ?_
      refine sv rfl rfl rfl (ex_move rfl rfl) ?_
      refine sv rfl rfl rfl (ex_move rfl rfl) ?_
      refine sv rfl rfl rfl (ex_nil rfl rfl) ?_
      refine sv rfl rfl rfl (ex_fieldAddr fld62_4 rfl rfl) ?_
      refine st0 rfl rfl (ex_store_blk sz4 rfl rfl rfl rfl hb (by simp [dcells])) ?_
      rintro _ w2 ⟨K1, hb1, hz1⟩
      refine sv rfl rfl rfl (ex_nil rfl rfl) ?_
      refine sv rfl rfl rfl (ex_fieldAddr fld62_3 rfl rfl) ?_
      refine st0 rfl rfl (ex_store_blk sz4 rfl rfl rfl rfl hb1 (by simp [dcells])) ?_
      rintro _ w3 ⟨K2, hb2, hz2⟩
      refine w_nil (qe_next ?_)
      refine w_seq ?_
      refine w_region ?_
      refine sv rfl rfl rfl (ex_assign rfl rfl) ?_
      refine w_nil (qe_next ?_)
      refine w_ret (qe_ret1 rfl rfl ?_)
      have hw2 := hwf.fails
      rw [hfs] at hw2 ⊢
      exact ⟨rfl, ⟨⟨A, cA, dsl, P, cP, wl⟩, rd, false, _, hb2, (hm.keepK hb (by decide) (by decide) (by decide) K1).keepK hb1 (by decide) (by decide) (by decide) K2, hFk, hdu, hrd, hnil, rfl, (fun h => by simp only at h; omega), hw2⟩, K1.trans K2 (fun j _ h => h)⟩

/-- slices.Clone[[]byte,byte] -/
theorem clone_c (b0 o0 c lo hi : Nat) (n : Nat) (bs : List UInt8) (w : World) (hn : n = bs.length) (hlen : n ≤ 100000000) (hr : Rd w lo hi 1 (some ⟨b0, o0, none⟩) n (bcells bs)) :
    Ret Try.prog 32 [.slice (some ⟨b0, o0, none⟩) n c] w fun v w' => (∃ B d, v = .slice B n d ∧ Own w' w.heap.size 5 1 B n d (bcells bs)) ∧ Ext w w' := by
  have K0 : Ext w w := Keep.refl _ _
  refine ret_of Try.func32 rfl rfl ?_
  refine w_seq ?_
  refine w_region ?_
  refine sv rfl rfl rfl (ex_assign rfl rfl) ?_
  refine w_nil (qe_next ?_)
  refine w_seq ?_
  refine w_seq ?_
  refine w_region ?_
  refine sv rfl rfl rfl (ex_move rfl rfl) ?_
  refine sv rfl rfl rfl (ex_sliceNil Try.underlying22 rfl rfl rfl) ?_
  refine w_nil (qe_next ?_)
  refine w_cond_f rfl ?_
  refine w_skip (qe_next ?_)
  refine w_seq ?_
  refine w_region ?_
  refine st rfl rfl rfl (ex_buildSlice (cs := []) rfl rfl build_none) ?_
  rintro _ w1 ⟨g, rfl, hg0, E5, hb5, hs5⟩
  replace K0 := K0.ext E5
  refine sv rfl rfl rfl (ex_move rfl rfl) ?_
  have hsz := K0.size
  have hown := Own.of_blk (lo := w.heap.size) (n := 0) (c := 0) (size := 1) hb5 (by omega) (by omega) (by decide) (by simp)
  refine st rfl rfl rfl (ex_append Try.underlying22 z5.1 rfl (by decide) rfl rfl rfl hown (hr.ext K0) (bcells_one _) (by omega) (by omega) (by omega)) ?_
  rintro _ w2 ⟨B1, d1, rfl, hown1, K1, hB1⟩
  replace K0 := K0.trans K1 (fun j hj _ => hown.fresh hj)
  refine sv rfl rfl rfl (ex_assign rfl rfl) ?_
  refine w_nil (qe_next ?_)
  refine w_ret (qe_ret1 rfl rfl ?_)
  exact ⟨⟨B1, d1, by rw [Nat.zero_add], by rw [Nat.zero_add] at hown1; simpa using hown1⟩, K0⟩

theorem DiskAt.intro {w : World} {F : Nat → Prop} {k : Nat} {s : St} {r : Rep} {rd : List (List UInt8)} {arm : Bool} {aft : Int} (h1 : Blk w k 62 (dcells s.n r rd.length s.pd.length s.off arm aft)) (h2 : Mem 66 w F r rd s.pd) (h3 : F k) (h4 : s.du = rd.map (con s.n)) (h5 : ∀ y ∈ rd, y = [] ∨ y.length = s.n) (h6 : NilAt r.dsl rd) (h7 : arm = decide (0 ≤ s.left)) (h8 : 0 ≤ s.left → aft = s.left) (h9 : s.Wf) : DiskAt w F k s :=
  ⟨r, rd, arm, aft, h1, h2, h3, h4, h5, h6, h7, h8, h9⟩

theorem DiskAt.grow {w : World} {F F' : Nat → Prop} {k : Nat} {s : St} (h : DiskAt w F k s) (hF : ∀ j, F j → F' j) (hl : ∀ j, F' j → j < w.heap.size) : DiskAt w F' k s := by
  obtain ⟨r, rd, arm, aft, hb, hm, hk, rest⟩ := h
  exact ⟨r, rd, arm, aft, hb, hm.grow hF hl, hF k hk, rest⟩

/-- (*kinkeep/disk.Disk).Write -/
theorem write_c (z : Int) (Ad : Option Addr) (c lo hi : Nat) (ds : List UInt8) (F : Nat → Prop) (k : Nat) (s : St) (w : World) (hD : DiskAt w F k s) (hr : Rd w lo hi 1 Ad ds.length (bcells ds)) (hpl : s.pd.length ≤ 1000) :
    Ret Try.prog 13 [.pointer (some ⟨k, 0, none⟩), .int .i64 z, .slice Ad ds.length c] w fun v w' => v = .int .i64 (s.write z ds).1 ∧ DiskAt w' (grown F w w') k (s.write z ds).2 ∧ Keep (fun j => ¬ F j) w w' := by
  obtain ⟨⟨A, cA, dsl, P, cP, wl⟩, rd, arm, aft, hb, hm, hFk, hdu, hrd, hnil, harm, haft, hwf⟩ := id hD
  have ho : Own w 0 22 1 A rd.length cA (dsl.map slv) := hm.own
  have hd : Owns w 0 dsl rd := hm.dat
  have hp : Own w 0 66 2 P s.pd.length cP (wcells wl) := hm.pown
  have hq : Owns w 0 (wl.map (·.2)) (s.pd.map (·.2)) := hm.pdat
  have hdl : s.du.length = rd.length := by rw [hdu, List.length_map]
  have n1 := hwf.n1
  have n2 := hwf.n2
  have d1 := hwf.d1
  have hFlt := hm.lt
  refine ret_of Try.func13 rfl rfl ?_
  refine w_seq ?_
  refine w_region ?_
  refine sv rfl rfl rfl (ex_assign rfl rfl) ?_
  refine w_nil (qe_next ?_)
  refine w_seq ?_
  refine w_seq ?_
  refine w_region ?_
  refine sv rfl rfl rfl (ex_move rfl rfl) ?_
  refine sv rfl rfl rfl (ex_nil rfl rfl) ?_
  refine sv rfl rfl rfl (ex_fieldAddr fld62_3 rfl rfl) ?_
  refine sv rfl rfl rfl (ex_load one4 rfl rfl (hb.cell rfl)) ?_
  refine w_nil (qe_next ?_)
  refine w_cond rfl (fun hoff => ?_) (fun hoff => ?_)
  · skip
    refine w_seq ?_
    refine w_region ?_
    refine sv rfl rfl rfl (ex_assign rfl rfl) ?_
    refine w_nil (qe_next ?_)
    refine w_ret (qe_then_ret (qe_ret1 rfl rfl ?_))
    rw [show s.write z ds = (8, s) from by unfold St.write; rw [if_pos hoff]]
    exact ⟨rfl, ⟨⟨A, cA, dsl, P, cP, wl⟩, rd, arm, aft, hb, hm.grow (fun j hj => .inl hj) (grown.lt hm.lt (Nat.le_refl _)), .inl hFk, hdu, hrd, hnil, harm, haft, hwf⟩, Keep.refl _ _⟩
  · skip
    refine w_skip (qe_next ?_)
    refine w_seq ?_
    refine w_seq ?_
    refine w_region ?_
    refine sv rfl rfl rfl (ex_move rfl rfl) ?_
    refine sv rfl rfl rfl (ex_move rfl rfl) ?_
    refine st rfl rfl rfl (ex_call call31 rfl rfl (inside_c z F k s _ hD)) ?_
    rintro _ w1 ⟨rfl, hwe⟩
    obtain rfl := hwe.symm
    cases hin : decide (s.In z)
    · skip
      refine sv rfl rfl rfl (ex_not rfl rfl) ?_
      refine sv rfl rfl rfl (ex_move rfl rfl) ?_
      first | refine sk rfl rfl rfl ?_ | refine sv rfl rfl rfl (ex_move rfl rfl) ?_
      refine sk rfl rfl rfl ?_
      first | refine sk rfl rfl rfl ?_ | refine sv rfl rfl rfl (ex_move rfl rfl) ?_
      first | refine sk rfl rfl rfl ?_ | refine sv rfl rfl rfl (ex_nil rfl rfl) ?_
      refine sk rfl rfl rfl ?_
      refine sk rfl rfl rfl ?_
      refine sk rfl rfl rfl ?_
      first | refine sv rfl rfl rfl (ex_pick_t rfl rfl rfl) ?_ | refine sv rfl rfl rfl (ex_pick_f rfl rfl rfl) ?_
      refine w_nil (qe_next ?_)
      refine w_cond_t rfl ?_
      refine w_seq ?_
      refine w_region ?_
      refine sv rfl rfl rfl (ex_assign rfl rfl) ?_
      refine w_nil (qe_next ?_)
      refine w_ret (qe_then_ret (qe_ret1 rfl rfl ?_))
      have hnI : ¬ s.In z := of_decide_eq_false hin
      rw [show s.write z ds = (1, s) from by unfold St.write; rw [if_neg (by rw [hoff]; simp), if_pos (fun h => hnI h.1)]]
      exact ⟨rfl, ⟨⟨A, cA, dsl, P, cP, wl⟩, rd, arm, aft, hb, hm.grow (fun j hj => .inl hj) (grown.lt hm.lt (Nat.le_refl _)), .inl hFk, hdu, hrd, hnil, harm, haft, hwf⟩, Keep.refl _ _⟩
    · skip
      refine sv rfl rfl rfl (ex_not rfl rfl) ?_
      refine sv rfl rfl rfl (ex_move rfl rfl) ?_
      first | refine sk rfl rfl rfl ?_ | refine sv rfl rfl rfl (ex_move rfl rfl) ?_
      first | refine sk rfl rfl rfl ?_ | refine sv rfl rfl rfl (ex_len Try.underlying22 rfl rfl) ?_
      first | refine sk rfl rfl rfl ?_ | refine sv rfl rfl rfl (ex_move rfl rfl) ?_
      first | refine sk rfl rfl rfl ?_ | refine sv rfl rfl rfl (ex_nil rfl rfl) ?_
      first | refine sk rfl rfl rfl ?_ | refine sv rfl rfl rfl (ex_fieldAddr fld62_0 rfl rfl) ?_
      first | refine sk rfl rfl rfl ?_ | refine sv rfl rfl rfl (ex_load one3 rfl rfl (hb.cell rfl)) ?_
      first | refine sk rfl rfl rfl ?_ | refine sv rfl rfl rfl (ex_cmp rfl rfl rfl rfl) ?_
      first | refine sv rfl rfl rfl (ex_pick_t rfl rfl rfl) ?_ | refine sv rfl rfl rfl (ex_pick_f rfl rfl rfl) ?_
      refine w_nil (qe_next ?_)
      refine w_if rfl (fun hlen => ?_) (fun hlen => ?_)
      · skip
        refine w_seq ?_
        refine w_region ?_
        refine sv rfl rfl rfl (ex_assign rfl rfl) ?_
        refine w_nil (qe_next ?_)
        refine w_ret (qe_then_ret (qe_ret1 rfl rfl ?_))
        rw [show s.write z ds = (1, s) from by unfold St.write; rw [if_neg (by rw [hoff]; simp), if_pos (fun h => by have := h.2; omega)]]
        exact ⟨rfl, ⟨⟨A, cA, dsl, P, cP, wl⟩, rd, arm, aft, hb, hm.grow (fun j hj => .inl hj) (grown.lt hm.lt (Nat.le_refl _)), .inl hFk, hdu, hrd, hnil, harm, haft, hwf⟩, Keep.refl _ _⟩
      · skip
        replace hlen : ds.length = s.n := by omega
        refine w_skip (qe_next ?_)
        refine w_seq ?_
        have K0 := Keep.refl (fun _ => True) w
        obtain ⟨b0, o0, rfl, _, _, _⟩ := hr.addr (by omega)
        have hIn : s.In z := of_decide_eq_true hin
        have hIn2 := hIn
        unfold St.In at hIn2
        refine w_draw mixed (fun w2 _ Ew2 => ?_)
        replace hb := hb.ext Ew2
        replace hm := hm.ext Ew2
        replace hp := hp.ext Ew2
        replace ho := ho.ext Ew2
        replace hd := hd.ext Ew2
        replace K0 := K0.ext Ew2
        refine wd_chain 11 _ (fun w' => Blk w' k 62 (dcells s.n ⟨A, cA, dsl, P, cP, wl⟩ rd.length s.pd.length s.off arm aft)) (hb) rfl rfl rfl rfl ?_
        refine cpur [0] [] rfl rfl rfl rfl rfl (fun w' hR => ex_move rfl rfl) ?_
        refine cpur [0] [] rfl rfl rfl rfl rfl (fun w' hR => ex_move rfl rfl) ?_
        refine cpur [] [1] rfl rfl rfl rfl rfl (fun w' hR => ex_nil rfl rfl) ?_
        refine cpur [] [2] rfl rfl rfl rfl rfl (fun w' hR => ex_fieldAddr fld62_2 rfl rfl) ?_
        refine cpur [] [3] rfl rfl rfl rfl rfl (fun w' hR => ex_load one60 rfl rfl (hR.cell rfl)) ?_
        refine cpur [1] [] rfl rfl rfl rfl rfl (fun w' hR => ex_move rfl rfl) ?_
        refine cpur [2] [] rfl rfl rfl rfl rfl (fun w' hR => ex_move rfl rfl) ?_
        refine cfst (fun v' w' => ∃ B d, v' = .slice B s.n d ∧ Own w' w.heap.size 5 1 B s.n d (bcells ds) ∧ Ext w2 w') [] [6] rfl rfl rfl rfl rfl ((ex_call call32 rfl rfl (clone_c b0 o0 c lo hi ds.length ds _ rfl (by omega) (hr.ext K0))).mono fun v' w'' ⟨⟨B, d, h1, h2⟩, h3⟩ => ⟨B, d, by rw [← hlen]; exact h1, by rw [← hlen]; exact h2.lower K0.size, h3⟩) (fun v w' ⟨_, _, _, _, hE⟩ => hb.ext hE) ?_
        refine cnxt (fun v' w' => ∃ B d, v' = .agg [Value.int .i64 z, Value.slice B s.n d].toArray ∧ Own w' w.heap.size 5 1 B s.n d (bcells ds) ∧ Ext w2 w') [] [5] rfl rfl rfl rfl rfl (fun _ => rfl) (fun v w' ⟨B, d, hv, ho2, hE⟩ => by subst hv; exact (ex_build rfl rfl (build_wr z B s.n d)).mono fun v' w'' ⟨h1, h2⟩ => by subst h2; exact ⟨B, d, h1, ho2, hE⟩) (fun v w' ⟨_, _, _, _, hE⟩ => hb.ext hE) ?_
        refine cnxt (fun v' w' => ∃ g B d, v' = .slice (some ⟨g, 0, none⟩) 1 1 ∧ Blk w' g 66 [Value.int .i64 z, Value.slice B s.n d] ∧ Own w' w.heap.size 5 1 B s.n d (bcells ds) ∧ Ext w2 w') [] [] rfl rfl rfl rfl rfl (fun _ => rfl) (fun v w' ⟨B, d, hv, ho2, hE⟩ => by subst hv; exact (ex_buildSlice (cs := [Value.int .i64 z, Value.slice B s.n d]) rfl rfl (build_wrs z B s.n d)).mono fun v' w'' ⟨g, h1, _, h2, h3, _⟩ => ⟨g, B, d, h1, h3, ho2.ext h2, hE.ext h2⟩) (fun v w' ⟨_, _, _, _, _, _, hE⟩ => hb.ext hE) ?_
        refine cnxt (fun v' w' => ∃ B2 d2 B d, v' = .slice B2 (s.pd.length + 1) d2 ∧ Own w' 0 66 2 B2 (s.pd.length + 1) d2 (wcells wl ++ [Value.int .i64 z, Value.slice B s.n d]) ∧ Own w' w.heap.size 5 1 B s.n d (bcells ds) ∧ Keep (fun j => ∀ o, P ≠ some ⟨j, o, none⟩) w2 w' ∧ (B2 = P ∨ ∃ g, B2 = some ⟨g, 0, none⟩ ∧ w.heap.size ≤ g)) [] [4] rfl rfl rfl rfl rfl (fun _ => rfl) (fun v w' ⟨g, B, d, hv, hg, ho2, hE⟩ => by subst hv; have hz := hE.size; exact (ex_append Try.underlying60 zwr rfl (by decide) rfl rfl rfl (hp.ext hE) (Rd.of_blk (size := 2) hg rfl) (by intro u hu; simp at hu; rcases hu with rfl | rfl <;> rfl) (by omega) (by omega) (Nat.zero_le _)).mono fun v' w'' ⟨B2, d2, h1, h2, h3, h4⟩ => ⟨B2, d2, B, d, h1, h2, ho2.keepT h3 (fun g cs _ hg o e => (hp.ext hE).ne_blk hg (by decide) g o e rfl), (Keep.of_ext hE _).trans h3 (fun j _ hj => hj), h4.imp id fun h => ⟨_, h, by have := K0.size; omega⟩⟩) (fun v w' ⟨_, _, _, _, _, _, _, hK, _⟩ => hb.keep hK (fun o e => hp.ne_blk hb (by decide) k o e rfl)) ?_
        refine .nil ⟨rfl, rfl, ?_⟩
        rintro _ w3 ⟨B2, d2, B, d, rfl, hP2, hB, K9, hB2⟩
        show Wd _ _ _ _ _ _ _ _
        have hszW := K0.size
        have hb9 := hb.keep K9 (fun o e => hp.ne_blk hb (by decide) k o e rfl)
        have K8 := (Keep.of_ext K0 (fun j => ¬ F j)).trans K9 (fun j _ hj o e => hj (hm.fP j o e))
        refine wd_v rfl rfl (by kernel_rfl) rfl rfl rfl (ex_nil rfl rfl) ?_
        refine wd_v rfl rfl (by kernel_rfl) rfl rfl rfl (ex_fieldAddr fld62_2 rfl rfl) ?_
        refine wd_one0 rfl rfl (by kernel_rfl) rfl rfl (ex_store_blk sz60 rfl rfl rfl rfl hb9 (by simp [dcells])) ?_
        rintro _ w4 ⟨K10, hb10, hz10⟩
        have hP3 := hP2.keep K10 (fun g o e => hP2.ne_blk hb9 (by decide) g o e)
        have hB3 := hB.keep K10 (fun g o e => hB.ne_blk hb9 (by decide) g o e)
        have hPl3 : ∀ g o, B2 = some ⟨g, o, none⟩ → g < _ := fun g o e => (hP3.lt e).2
        have hBl3 : ∀ g o, B = some ⟨g, o, none⟩ → w.heap.size ≤ g ∧ g < _ := fun g o e => hB3.lt e
        have hm4 := hm.push (F' := fun j => F j ∨ (w.heap.size ≤ j ∧ j < _)) (z := z.toNat) (s := (B, s.n, d)) (y := ds) K9 (by rw [show ((z.toNat : Nat) : Int) = z by omega]; exact hP2) (by decide) (by decide) (by rw [hlen]) (hB.lower (Nat.zero_le _)) (fun g o e => by have := hBl3 g o e; exact ⟨fun hh => by have := hFlt g hh; omega, .inr ⟨this.1, (hB.lt e).2⟩⟩) (fun g o e => by
          rcases hB2 with h | ⟨g', h, hg'⟩
          · exact .inl (hm.fP g o (by rw [← h]; exact e))
          · exact .inr ⟨by rw [h] at e; injection e with e; injection e with e; omega, (hP2.lt e).2⟩) (fun j hj => .inl hj) (fun j hj => by
          rcases hj with hj | hj
          · have := hFlt j hj; have := K8.size; omega
          · exact hj.2)
        have hm5 := hm4.keepK hb9 (by decide) (by decide) (by decide) K10
        have K11 := K8.trans K10 (fun j _ hj e => hj (by rw [e]; exact hFk))
        obtain ⟨s1, hs1⟩ : ∃ s1, s1 = ({ s with pd := s.pd ++ [(z.toNat, ds)] } : St) := ⟨_, rfl⟩
        have hw1 : s1.Wf := by
          rw [hs1]
          refine ⟨hwf.n1, hwf.n2, hwf.d1, hwf.du, fun p hp => ?_, hwf.l1, hwf.l2, hwf.of⟩
          rcases List.mem_append.1 hp with hp | hp
          · exact hwf.pd p hp
          · rw [List.mem_singleton.1 hp]; exact ⟨by simp only; omega, hlen⟩
        have hD1 := DiskAt.intro (s := s1) (r := ⟨A, cA, dsl, B2, d2, wl ++ [(z.toNat, (B, s.n, d))]⟩) (rd := rd) (arm := arm) (aft := aft) (by subst hs1; simp only; rw [List.length_append, List.length_singleton]; exact hb10) (by subst hs1; exact hm5) (by exact .inl hFk) (by subst hs1; exact hdu) (by subst hs1; exact hrd) hnil (by subst hs1; exact harm) (by subst hs1; exact haft) hw1
        have hwr : s.write z ds = (if s1.fails.1 = true then 8 else 0, s1.fails.2) := by
          subst hs1
          unfold St.write
          rw [if_neg (by rw [hoff]; simp), if_neg (fun h => h ⟨hIn, hlen⟩)]
        refine wd_nil (by decide) rfl ?_
        refine qe_next ?_
        refine w_seq ?_
        refine w_seq ?_
        refine w_region ?_
        refine sv rfl rfl rfl (ex_move rfl rfl) ?_
        refine st rfl rfl rfl (ex_call call33 rfl rfl (fails_c _ k s1 _ hD1)) ?_
        rintro _ w5 ⟨rfl, hD2, K12⟩
        cases hf : s1.fails.1
        · skip
          refine w_nil (qe_next ?_)
          refine w_cond_f rfl ?_
          refine w_skip (qe_next ?_)
          refine w_seq ?_
          refine w_region ?_
          refine sv rfl rfl rfl (ex_assign rfl rfl) ?_
          refine w_nil (qe_next ?_)
          refine w_ret (qe_ret1 rfl rfl ?_)
          rw [hwr, hf]
          exact ⟨rfl, hD2.grow (fun j hj => by
            rcases hj with hj | hj
            · exact .inl hj
            · exact .inr ⟨hj.1, by have := K12.size; omega⟩) (grown.lt hFlt (by have := K11.size; have := K12.size; omega)), K11.trans K12 (fun j _ hj e => hj (by rw [e]; exact hFk))⟩
        · skip
          refine w_nil (qe_next ?_)
          refine w_cond_t rfl ?_
          refine w_seq ?_
          refine w_region ?_
          refine sv rfl rfl rfl (ex_assign rfl rfl) ?_
          refine w_nil (qe_next ?_)
          refine w_ret (qe_then_ret (qe_ret1 rfl rfl ?_))
          rw [hwr, hf]
          exact ⟨rfl, hD2.grow (fun j hj => by
            rcases hj with hj | hj
            · exact .inl hj
            · exact .inr ⟨hj.1, by have := K12.size; omega⟩) (grown.lt hFlt (by have := K11.size; have := K12.size; omega)), K11.trans K12 (fun j _ hj e => hj (by rw [e]; exact hFk))⟩
end Go.Proofs.Ytcgcklfbnmaodaa

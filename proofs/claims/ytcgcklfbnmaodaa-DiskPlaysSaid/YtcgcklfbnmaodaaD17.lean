/- The reference's disk; New. -/
import Derived.Test.YtcgcklfbnmaodaaD16
namespace Go.Proofs.Ytcgcklfbnmaodaa
open Go Go.RowKit
set_option linter.unusedVariables false
set_option linter.unusedSimpArgs false
def rcells (n : Nat) (r : Rep) (rl pl : Nat) (off : Bool) (lf : Int) : List Value := [.int .i64 (n : Int), .slice r.A rl r.cA, .slice r.P pl r.cP, .bool off, .int .i64 lf]
/-- a disk of the reference's -/
def RefAt (w : World) (F : Nat → Prop) (k : Nat) (s : St) : Prop := ∃ (r : Rep) (lf : Int), Blk w k 41 (rcells s.n r s.du.length s.pd.length s.off lf) ∧ Mem 74 w F r s.du s.pd ∧ F k ∧ (s.off = false → lf = s.left) ∧ s.Wf
theorem RefAt.keep {w w' : World} {S F : Nat → Prop} {k : Nat} {s : St} (h : RefAt w F k s) (K : Keep S w w') (hS : ∀ j, F j → S j) : RefAt w' F k s := by
  obtain ⟨r, lf, hb, hm, hk, rest⟩ := h
  exact ⟨r, lf, hb.keep K (hS k hk), hm.keep K hS, hk, rest⟩
theorem RefAt.ext {w w' : World} {F : Nat → Prop} {k : Nat} {s : St} (h : RefAt w F k s) (K : Ext w w') : RefAt w' F k s := h.keep K fun _ _ => trivial
theorem RefAt.wf {w : World} {F : Nat → Prop} {k : Nat} {s : St} (h : RefAt w F k s) : s.Wf := by obtain ⟨_, _, _, _, _, _, h⟩ := h; exact h
theorem RefAt.lt {w : World} {F : Nat → Prop} {k : Nat} {s : St} (h : RefAt w F k s) : ∀ j, F j → j < w.heap.size := by obtain ⟨_, _, _, hm, _⟩ := h; exact hm.lt
theorem RefAt.grow {w : World} {F F' : Nat → Prop} {k : Nat} {s : St} (h : RefAt w F k s) (hF : ∀ j, F j → F' j) (hl : ∀ j, F' j → j < w.heap.size) : RefAt w F' k s := by
  obtain ⟨r, lf, hb, hm, hk, rest⟩ := h
  exact ⟨r, lf, hb, hm.grow hF hl, hF k hk, rest⟩
theorem RefAt.intro {w : World} {F : Nat → Prop} {k : Nat} {s : St} {r : Rep} {lf : Int} (h1 : Blk w k 41 (rcells s.n r s.du.length s.pd.length s.off lf)) (h2 : Mem 74 w F r s.du s.pd) (h3 : F k) (h4 : s.off = false → lf = s.left) (h5 : s.Wf) : RefAt w F k s := ⟨r, lf, h1, h2, h3, h4, h5⟩
/-- one sector more -/
theorem Mem.sector {tw : Nat} {w w' : World} {F F' : Nat → Prop} {A B : Option Addr} {cA d : Nat} {dsl : List Sl} {rd : List (List UInt8)} (h : Mem tw w F ⟨A, cA, dsl, none, 0, []⟩ rd []) {s : Sl} {y : List UInt8}
    (k : Keep (fun j => ∀ o, A ≠ some ⟨j, o, none⟩) w w') (hA : Own w' 0 22 1 B (rd.length + 1) d (dsl.map slv ++ [slv s])) (h1 : s.2.1 = y.length) (h2 : Own w' 0 5 1 s.1 s.2.1 s.2.2 (bcells y))
    (hn : ∀ g o, s.1 = some ⟨g, o, none⟩ → ¬ F g ∧ F' g) (hB : ∀ g o, B = some ⟨g, o, none⟩ → F' g) (hF : ∀ j, F j → F' j) (hl : ∀ j, F' j → j < w'.heap.size) : Mem tw w' F' ⟨B, d, dsl ++ [s], none, 0, []⟩ (rd ++ [y]) [] := by
  have hsep : dsl.Pairwise fun s t => Sep s.1 t.1 := by simpa using h.sep
  have hfd : ∀ t ∈ dsl, ∀ g o, t.1 = some ⟨g, o, none⟩ → F g := fun t ht => h.fd t (List.mem_append.2 (.inl ht))
  have hown : Own w 0 22 1 A rd.length cA (dsl.map slv) := h.own
  have hdat : Owns w 0 dsl rd := h.dat
  refine ⟨by rw [List.length_append, List.length_singleton]; show Own w' 0 _ 1 B _ d ((dsl ++ [s]).map slv); rw [List.map_append]; exact hA, (hdat.keepT k (fun g cs _ hg o e => hown.ne_blk hg (by decide) g o e rfl)).snoc h1 h2, Own.nil _ _ _ _, trivial, rfl, ?_, hB, (fun g o e => by cases e), ?_, hl⟩
  · show ((dsl ++ [s]) ++ []).Pairwise _
    rw [List.append_nil, List.pairwise_append]
    refine ⟨hsep, List.pairwise_singleton _ _, fun a ha b hb => ?_⟩
    simp at hb
    subst hb
    exact fun g o o' e e' => (hn g o' e').1 (hfd a ha g o e)
  · intro t ht g o e
    rw [show (dsl ++ [s]) ++ (([] : List (Nat × Sl)).map (·.2)) = dsl ++ [s] by simp] at ht
    rcases List.mem_append.1 ht with ht | ht
    · exact hF g (hfd t ht g o e)
    · rw [List.mem_singleton.1 ht] at e
      exact (hn g o e).2
theorem Mem.empty {tw T k : Nat} {w : World} {cs : List Value} (m : Nat) (h : Blk w k T cs) : Mem tw w (fun j => m ≤ j ∧ j < w.heap.size) ⟨none, 0, [], none, 0, []⟩ [] [] :=
  ⟨Own.nil _ _ _ _, trivial, Own.nil _ _ _ _, trivial, rfl, List.Pairwise.nil, (fun g o e => by cases e), (fun g o e => by cases e), (fun s hs => by simp at hs), fun j hj => hj.2⟩
theorem build_rd (n : Nat) (w : World) : (Instr.build 41 [(0, Value.int .i64 (n : Int)), (4, Value.int .i64 (-1))].toArray).run Try.prog w = .ok (.agg (rcells n ⟨none, 0, [], none, 0, []⟩ 0 0 false (-1)).toArray) w := by kernel_rfl
theorem build_b1 (B : Option Addr) (m d : Nat) (w : World) : (Instr.buildSlice 33 1 [(0, Value.slice B m d)].toArray).run Try.prog w = .ok (.slice (some ⟨w.heap.size, 0, none⟩) 1 1) (w.alloc (.cells [Value.slice B m d].toArray 22)) := by kernel_rfl

/-- (*kinkeep/kinkeepref15.Disk).sector -/
theorem rsector_c (z : Int) (F : Nat → Prop) (k : Nat) (s : St) (w : World) (hR : RefAt w F k s) :
    Ret Try.prog 44 [.pointer (some ⟨k, 0, none⟩), .int .i64 z] w fun v w' => Dv (.bool (decide (s.In z))) w v w' := by
  obtain ⟨⟨A, cA, dsl, P, cP, wl⟩, lf, hb, hm, hFk, hlf, hwf⟩ := id hR
  have ho : Own w 0 22 1 A s.du.length cA (dsl.map slv) := hm.own
  have hd : Owns w 0 dsl s.du := hm.dat
  have hp : Own w 0 74 2 P s.pd.length cP (wcells wl) := hm.pown
  have hFlt := hm.lt
  have n1 := hwf.n1
  have n2 := hwf.n2
  have d1 := hwf.d1
  refine ret_of Try.func44 rfl rfl ?_
  refine w_seq ?_
  refine w_region ?_
  refine sv rfl rfl rfl (ex_assign rfl rfl) ?_
  refine w_nil (qe_next ?_)
  refine w_seq ?_
  refine w_region ?_
  refine sv rfl rfl rfl (ex_move rfl rfl) ?_
  refine sv_if rfl rfl rfl (ex_cmp rfl rfl rfl rfl) (fun hz => ?_) (fun hz => ?_)
  · skip
    refine sv rfl rfl rfl (ex_move rfl rfl) ?_
    first | refine sk rfl rfl rfl ?_ | refine sv rfl rfl rfl (ex_move rfl rfl) ?_
    first | refine sk rfl rfl rfl ?_ | refine sv rfl rfl rfl (ex_move rfl rfl) ?_
    first | refine sk rfl rfl rfl ?_ | refine sv rfl rfl rfl (ex_nil rfl rfl) ?_
    first | refine sk rfl rfl rfl ?_ | refine sv rfl rfl rfl (ex_fieldAddr fld41_1 rfl rfl) ?_
    first | refine sk rfl rfl rfl ?_ | refine sv rfl rfl rfl (ex_load one33 rfl rfl (hb.cell rfl)) ?_
    first | refine sk rfl rfl rfl ?_ | refine sv rfl rfl rfl (ex_len Try.underlying33 rfl rfl) ?_
    first | refine sk rfl rfl rfl ?_ | refine sv rfl rfl rfl (ex_cmp rfl rfl rfl rfl) ?_
    first | refine sv rfl rfl rfl (ex_pick_t rfl rfl rfl) ?_ | refine sv rfl rfl rfl (ex_pick_f rfl rfl rfl) ?_
    refine sv rfl rfl rfl (ex_assign rfl rfl) ?_
    refine w_nil (qe_next ?_)
    refine w_ret (qe_ret1 rfl rfl ?_)
    exact ⟨congrArg Value.bool (by first | exact decide_eq_decide.2 (by unfold St.In; omega) | exact (decide_eq_false (by unfold St.In; omega)).symm), rfl⟩
  · skip
    refine sv rfl rfl rfl (ex_move rfl rfl) ?_
    first | refine sk rfl rfl rfl ?_ | refine sv rfl rfl rfl (ex_move rfl rfl) ?_
    first | refine sk rfl rfl rfl ?_ | refine sv rfl rfl rfl (ex_move rfl rfl) ?_
    first | refine sk rfl rfl rfl ?_ | refine sv rfl rfl rfl (ex_nil rfl rfl) ?_
    first | refine sk rfl rfl rfl ?_ | refine sv rfl rfl rfl (ex_fieldAddr fld41_1 rfl rfl) ?_
    first | refine sk rfl rfl rfl ?_ | refine sv rfl rfl rfl (ex_load one33 rfl rfl (hb.cell rfl)) ?_
    first | refine sk rfl rfl rfl ?_ | refine sv rfl rfl rfl (ex_len Try.underlying33 rfl rfl) ?_
    refine sk rfl rfl rfl ?_
    first | refine sv rfl rfl rfl (ex_pick_t rfl rfl rfl) ?_ | refine sv rfl rfl rfl (ex_pick_f rfl rfl rfl) ?_
    refine sv rfl rfl rfl (ex_assign rfl rfl) ?_
    refine w_nil (qe_next ?_)
    refine w_ret (qe_ret1 rfl rfl ?_)
    exact ⟨congrArg Value.bool (by first | exact decide_eq_decide.2 (by unfold St.In; omega) | exact (decide_eq_false (by unfold St.In; omega)).symm), rfl⟩

/-- (*kinkeep/kinkeepref15.Disk).fails -/
theorem rfails_c (F : Nat → Prop) (k : Nat) (s : St) (w : World) (hR : RefAt w F k s) (hoff : s.off = false) :
    Ret Try.prog 45 [.pointer (some ⟨k, 0, none⟩)] w fun v w' => v = .bool s.fails.1 ∧ RefAt w' F k s.fails.2 ∧ Keep (fun j => j ≠ k) w w' := by
  obtain ⟨⟨A, cA, dsl, P, cP, wl⟩, lf, hb, hm, hFk, hlf, hwf⟩ := id hR
  have ho : Own w 0 22 1 A s.du.length cA (dsl.map slv) := hm.own
  have hd : Owns w 0 dsl s.du := hm.dat
  have hp : Own w 0 74 2 P s.pd.length cP (wcells wl) := hm.pown
  have hFlt := hm.lt
  have n1 := hwf.n1
  have n2 := hwf.n2
  have d1 := hwf.d1
  have hll := hlf hoff
  have l2 := hwf.l2
  have l1 := hwf.l1
  refine ret_of Try.func45 rfl rfl ?_
  refine w_seq ?_
  refine w_region ?_
  refine sv rfl rfl rfl (ex_assign rfl rfl) ?_
  refine w_nil (qe_next ?_)
  refine w_seq ?_
  refine w_seq ?_
  refine w_region ?_
  refine sv rfl rfl rfl (ex_move rfl rfl) ?_
  refine sv rfl rfl rfl (ex_nil rfl rfl) ?_
  refine sv rfl rfl rfl (ex_fieldAddr fld41_4 rfl rfl) ?_
  refine sv rfl rfl rfl (ex_load one3 rfl rfl (hb.cell rfl)) ?_
  refine sv rfl rfl rfl (ex_cmp rfl rfl rfl rfl) ?_
  refine w_nil (qe_next ?_)
  refine w_if rfl (fun hl => ?_) (fun hl => ?_)
  · skip
    have hfs : s.fails = (true, { s with off := true, left := -1 }) := by unfold St.fails; rw [if_pos (by omega)]
    refine w_seq ?_
    refine w_region ?_
    refine sv rfl rfl rfl (ex_move rfl rfl) ?_
    refine sv rfl rfl rfl (ex_nil rfl rfl) ?_
    refine sv rfl rfl rfl (ex_fieldAddr fld41_3 rfl rfl) ?_
    refine st0 rfl rfl (ex_store_blk sz4 rfl rfl rfl rfl hb (by simp [rcells])) ?_
    rintro _ w1 ⟨K1, hb1, hz1⟩
    refine w_nil (qe_next ?_)
    refine w_seq ?_
    refine w_region ?_
    refine sv rfl rfl rfl (ex_assign rfl rfl) ?_
    refine w_nil (qe_next ?_)
    refine w_ret (qe_then_ret (qe_ret1 rfl rfl ?_))
    have hw2 := hwf.fails
    rw [hfs] at hw2 ⊢
    exact ⟨rfl, RefAt.intro (r := ⟨A, cA, dsl, P, cP, wl⟩) (lf := lf) hb1 (hm.keepK hb (by decide) (by decide) (by decide) K1) hFk (fun h => by cases h) hw2, K1⟩
  · skip
    refine w_skip (qe_next ?_)
    refine w_seq ?_
    refine w_seq ?_
    refine w_region ?_
    refine sv rfl rfl rfl (ex_move rfl rfl) ?_
    refine sv rfl rfl rfl (ex_nil rfl rfl) ?_
    refine sv rfl rfl rfl (ex_fieldAddr fld41_4 rfl rfl) ?_
    refine sv rfl rfl rfl (ex_load one3 rfl rfl (hb.cell rfl)) ?_
    refine sv rfl rfl rfl (ex_cmp rfl rfl rfl rfl) ?_
    refine w_nil (qe_next ?_)
    refine w_if rfl (fun hg => ?_) (fun hg => ?_)
    · skip
      have hfs : s.fails = (false, { s with left := s.left - 1 }) := by unfold St.fails; rw [if_neg (by omega), if_pos (by omega)]
      refine w_region ?_
      refine sv rfl rfl rfl (ex_move rfl rfl) ?_
      refine sv rfl rfl rfl (ex_nil rfl rfl) ?_
      refine sv rfl rfl rfl (ex_fieldAddr fld41_4 rfl rfl) ?_
      refine sv rfl rfl rfl (ex_load one3 rfl rfl (hb.cell rfl)) ?_
      refine sv rfl rfl rfl (ex_sub rfl rfl rfl (i64_in (by omega) (by omega))) ?_
      refine sv rfl rfl rfl (ex_nil rfl rfl) ?_
      refine sv rfl rfl rfl (ex_fieldAddr fld41_4 rfl rfl) ?_
      refine st0 rfl rfl (ex_store_blk sz3 rfl rfl rfl rfl hb (by simp [rcells])) ?_
      rintro _ w2 ⟨K1, hb1, hz1⟩
      refine w_nil (qe_next ?_)
      refine w_seq ?_
      refine w_region ?_
      refine sv rfl rfl rfl (ex_assign rfl rfl) ?_
      refine w_nil (qe_next ?_)
      refine w_ret (qe_ret1 rfl rfl ?_)
      have hw2 := hwf.fails
      rw [hfs] at hw2 ⊢
      exact ⟨rfl, RefAt.intro (r := ⟨A, cA, dsl, P, cP, wl⟩) (lf := lf - 1) hb1 (hm.keepK hb (by decide) (by decide) (by decide) K1) hFk (fun h => by simp only; omega) hw2, K1⟩
    · skip
      have hfs : s.fails = (false, s) := by unfold St.fails; rw [if_neg (by omega), if_neg (by omega)]
      refine w_skip (qe_next ?_)
      refine w_seq ?_
      refine w_region ?_
      refine sv rfl rfl rfl (ex_assign rfl rfl) ?_
      refine w_nil (qe_next ?_)
      refine w_ret (qe_ret1 rfl rfl ?_)
      rw [hfs]
      exact ⟨rfl, hR, Keep.refl _ _⟩

/-- kinkeep/kinkeepref15.New -/
theorem rnew_c (k n : Nat) (w : World) (k1 : k ≤ 65536) (n1 : 1 ≤ n) (n2 : n ≤ 4096) :
    Ret Try.prog 24 [.int .i64 (k : Int), .int .i64 (n : Int)] w fun v w' => ∃ (kr : Nat) (F : Nat → Prop), v = .pointer (some ⟨kr, 0, none⟩) ∧ RefAt w' F kr (fresh n k) ∧ (∀ j, F j → w.heap.size ≤ j) ∧ Ext w w' := by
  have K0 : Ext w w := Keep.refl _ _
  refine ret_of Try.func24 rfl rfl ?_
  refine w_seq ?_
  refine w_region ?_
  refine sv rfl rfl rfl (ex_assign rfl rfl) ?_
  refine w_nil (qe_next ?_)
  refine w_seq ?_
  refine w_region ?_
  refine sv rfl rfl rfl (ex_move rfl rfl) ?_
  refine sv rfl rfl rfl (ex_build rfl rfl (build_rd n)) ?_
  refine st rfl rfl rfl (ex_box (cs := rcells n ⟨none, 0, [], none, 0, []⟩ 0 0 false (-1)) rfl rfl rfl) ?_
  rintro _ w1 ⟨kr, rfl, hk0, E2, hb, hs2⟩
  replace K0 := K0.ext E2
  have hkl := hb.lt
  have hm := Mem.empty (tw := 74) w.heap.size hb
  have hkw : w.heap.size ≤ kr := by omega
  refine sv rfl rfl rfl (ex_assign rfl rfl) ?_
  refine w_nil (qe_next ?_)
  refine w_seq ?_
  refine w_seq ?_
  refine w_region ?_
  refine sv rfl rfl rfl (ex_assign rfl rfl) ?_
  refine w_nil (qe_next ?_)
  refine w_block ?_
  refine w_loop (ι := Nat) (fun i => [(0, .int .i64 (k : Int)), (1, .int .i64 (n : Int)), (5, .pointer (some ⟨kr, 0, none⟩)), (6, .int .i64 (i : Int))]) (fun i wL => i ≤ k ∧ kr < wL.heap.size ∧ (∃ A cA sl, Blk wL kr 41 (rcells n ⟨A, cA, sl, none, 0, []⟩ i 0 false (-1)) ∧ Mem 74 wL (fun j => w.heap.size ≤ j ∧ j < wL.heap.size) ⟨A, cA, sl, none, 0, []⟩ (List.replicate i (List.replicate n 0)) []) ∧ Ext w wL) (fun i => k - i) (0) ⟨rfl, rfl, rfl, rfl, trivial⟩ ?_ ?_
  · exact ⟨Nat.zero_le _, hkl, ⟨none, 0, [], hb, hm⟩, K0⟩
  · clear hb hm hkl K0
    rintro i wL ⟨hi1, hkl, ⟨A, cA, sl, hb, hm⟩, K0⟩
    have ho : Own wL 0 22 1 A i cA (sl.map slv) := by have := hm.own; rw [List.length_replicate] at this; exact this
    refine w_seq ?_
    refine w_seq ?_
    refine w_region ?_
    refine sv rfl rfl rfl (ex_move rfl rfl) ?_
    refine sv rfl rfl rfl (ex_move rfl rfl) ?_
    refine sv rfl rfl rfl (ex_cmp rfl rfl rfl rfl) ?_
    refine w_nil (qe_next ?_)
    refine w_if rfl (fun hi2 => ?_) (fun hi2 => ?_)
    · skip
      replace hi2 : i < k := by omega
      refine w_skip (qe_next ?_)
      refine w_seq ?_
      refine w_block ?_
      refine w_draw mixed (fun w2 _ Ew2 => ?_)
      replace hb := hb.ext Ew2
      replace hm := hm.ext Ew2
      replace ho := ho.ext Ew2
      replace K0 := K0.ext Ew2
      refine wd_chain 9 _ (fun w' => Blk w' kr 41 (rcells n ⟨A, cA, sl, none, 0, []⟩ i 0 false (-1))) (hb) rfl rfl rfl rfl ?_
      refine cpur [5] [] rfl rfl rfl rfl rfl (fun w' hR => ex_move rfl rfl) ?_
      refine cpur [5] [] rfl rfl rfl rfl rfl (fun w' hR => ex_move rfl rfl) ?_
      refine cpur [] [1] rfl rfl rfl rfl rfl (fun w' hR => ex_nil rfl rfl) ?_
      refine cpur [] [2] rfl rfl rfl rfl rfl (fun w' hR => ex_fieldAddr fld41_1 rfl rfl) ?_
      refine cpur [] [3] rfl rfl rfl rfl rfl (fun w' hR => ex_load one33 rfl rfl (hR.cell rfl)) ?_
      refine cpur [1] [] rfl rfl rfl rfl rfl (fun w' hR => ex_move rfl rfl) ?_
      refine cfst (fun v' w' => ∃ g, v' = .slice (some ⟨g, 0, none⟩) n n ∧ Own w' w2.heap.size 5 1 (some ⟨g, 0, none⟩) n n (bcells (List.replicate n 0)) ∧ Ext w2 w') [] [5] rfl rfl rfl rfl rfl ((ex_make Try.underlying22 z5 n rfl rfl rfl rfl rfl (by omega) (by omega)).mono fun v' w'' ⟨g, h1, h0, h2, h3, _⟩ => ⟨g, h1, by have := Own.of_blk (lo := w2.heap.size) (n := n) (c := n) (size := 1) h3 (by omega) (Nat.le_refl _) (by unfold maxLen; omega) (by simp); rw [show List.take (n * 1) (List.replicate n (Value.int .u8 0)) = (bcells (List.replicate n 0)) from by simp [bcells, bv]] at this; exact this, h2⟩) (fun v w' ⟨_, _, _, hE⟩ => hb.ext hE) ?_
      refine cnxt (fun v' w' => ∃ g1 g, v' = .slice (some ⟨g1, 0, none⟩) 1 1 ∧ Blk w' g1 22 [.slice (some ⟨g, 0, none⟩) n n] ∧ Own w' w2.heap.size 5 1 (some ⟨g, 0, none⟩) n n (bcells (List.replicate n 0)) ∧ Ext w2 w') [] [] rfl rfl rfl rfl rfl (fun _ => rfl) (fun v w' ⟨g, hv, ho2, hE⟩ => by subst hv; exact (ex_buildSlice (cs := [.slice (some ⟨g, 0, none⟩) n n]) rfl rfl (build_b1 (some ⟨g, 0, none⟩) n n)).mono fun v' w'' ⟨g1, h1, _, h2, h3, _⟩ => ⟨g1, g, h1, h3, ho2.ext h2, hE.ext h2⟩) (fun v w' ⟨_, _, _, _, _, hE⟩ => hb.ext hE) ?_
      refine cnxt (fun v' w' => ∃ B2 d2 g, v' = .slice B2 (i + 1) d2 ∧ Own w' 0 22 1 B2 (i + 1) d2 (sl.map slv ++ [.slice (some ⟨g, 0, none⟩) n n]) ∧ Own w' w2.heap.size 5 1 (some ⟨g, 0, none⟩) n n (bcells (List.replicate n 0)) ∧ Keep (fun j => ∀ o, A ≠ some ⟨j, o, none⟩) w2 w' ∧ (B2 = A ∨ ∃ g, B2 = some ⟨g, 0, none⟩ ∧ w2.heap.size ≤ g)) [] [4] rfl rfl rfl rfl rfl (fun _ => rfl) (fun v w' ⟨g1, g, hv, hg, ho2, hE⟩ => by subst hv; have hz := hE.size; exact (ex_append Try.underlying33 z22.1 rfl (by decide) rfl rfl rfl (ho.ext hE) (Rd.of_blk (size := 1) hg rfl) (by intro u hu; simp at hu; subst hu; rfl) (by omega) (by omega) (Nat.zero_le _)).mono fun v' w'' ⟨B2, d2, h1, h2, h3, h4⟩ => ⟨B2, d2, g, h1, h2, ho2.keepT h3 (fun g cs _ hg o e => (ho.ext hE).ne_blk hg (by decide) g o e rfl), (Keep.of_ext hE _).trans h3 (fun j _ hj => hj), h4.imp id fun h => ⟨_, h, hz⟩⟩) (fun v w' ⟨_, _, _, _, _, _, hK, _⟩ => hb.keep hK (fun o e => ho.ne_blk hb (by decide) kr o e rfl)) ?_
      refine .nil ⟨rfl, rfl, ?_⟩
      rintro _ w3 ⟨B2, d2, g, rfl, hA2, hg, K9, hB2⟩
      show Wd _ _ _ _ _ _ _ _
      have hAF := hm.fA
      have hzW := K0.size
      have hb9 := hb.keep K9 (fun o e => ho.ne_blk hb (by decide) kr o e rfl)
      have hgl := hg.lt rfl
      have hm9 := hm.sector (F' := fun j => w.heap.size ≤ j ∧ j < _) (s := (some ⟨g, 0, none⟩, n, n)) (y := List.replicate n 0) K9 (by rw [List.length_replicate]; exact hA2) (by simp) (hg.lower (Nat.zero_le _)) (fun g' o e => by
        injection e with e
        injection e with e
        subst e
        exact ⟨fun hh => by have := hm.lt _ hh; omega, by omega, hgl.2⟩) (fun g' o e => by
        have hl := (hA2.lt e).2
        rcases hB2 with h | ⟨g2, h, hg2⟩
        · have := hAF g' o (by rw [← h]; exact e); exact ⟨this.1, hl⟩
        · rw [h] at e; injection e with e; injection e with e; subst e; exact ⟨by omega, hl⟩) (fun j hj => ⟨hj.1, Nat.lt_of_lt_of_le (hm.lt j hj) K9.size⟩) (fun j hj => hj.2)
      rw [show List.replicate i (List.replicate n (0 : UInt8)) ++ [List.replicate n 0] = List.replicate (i + 1) (List.replicate n 0) from by rw [List.replicate_succ']] at hm9
      replace K0 := K0.trans K9 (fun j hj _ o e => by have := (hAF j o e).1; omega)
      refine wd_v rfl rfl (by kernel_rfl) rfl rfl rfl (ex_nil rfl rfl) ?_
      refine wd_v rfl rfl (by kernel_rfl) rfl rfl rfl (ex_fieldAddr fld41_1 rfl rfl) ?_
      refine wd_one0 rfl rfl (by kernel_rfl) rfl rfl (ex_store_blk sz33 rfl rfl rfl rfl hb9 (by simp [rcells])) ?_
      rintro _ w4 ⟨K10, hb10, hz10⟩
      have hkl9 := hb10.lt
      have hm10 := hm9.keepK hb9 (by decide) (by decide) (by decide) K10
      replace hm10 := hm10.grow (F' := fun j => w.heap.size ≤ j ∧ j < _) (fun j hj => ⟨hj.1, Nat.lt_of_lt_of_le hj.2 K10.size⟩) (fun j hj => hj.2)
      replace K10 := K0.trans K10 (fun j hj _ e => by omega)
      refine wd_nil (by decide) rfl ?_
      refine qe_in_normal (qe_next ?_)
      refine w_region ?_
      refine sv rfl rfl rfl (ex_move rfl rfl) ?_
      refine sv rfl rfl rfl (ex_add rfl rfl rfl (i64_in (by omega) (by omega))) ?_
      refine sv rfl rfl rfl (ex_assign rfl rfl) ?_
      refine w_nil (qe_round (i + 1) ⟨rfl, rfl, rfl, rfl, trivial⟩ ?_ ?_)
      · exact ⟨by omega, hkl9, ⟨B2, d2, _, hb10, hm10⟩, K10⟩
      · omega
    · skip
      replace hi2 : i = k := by omega
      subst hi2
      refine w_exit (qe_then_exit (qe_then_exit (qe_in_exit (qe_next ?_))))
      refine w_seq ?_
      refine w_region ?_
      refine sv rfl rfl rfl (ex_move rfl rfl) ?_
      refine sv rfl rfl rfl (ex_assign rfl rfl) ?_
      refine w_nil (qe_next ?_)
      refine w_ret (qe_ret1 rfl rfl ?_)
      exact ⟨kr, _, rfl, RefAt.intro (s := fresh n i) (r := ⟨A, cA, sl, none, 0, []⟩) (lf := -1) (by simp only [fresh, List.length_replicate]; exact hb) hm ⟨hkw, hkl⟩ (fun _ => rfl) (fresh_wf n1 n2 k1), fun j hj => hj.1, K0⟩
end Go.Proofs.Ytcgcklfbnmaodaa

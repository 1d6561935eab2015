/- Close. -/
import Derived.Test.YtfgpcmphcnhbiaaDoorP5
namespace Go.Proofs.YtfgpcmphcnhbiaaDoor
open Go Go.RowKit
set_option linter.unusedVariables false
set_option linter.unusedSimpArgs false
theorem mcells_cut {r a b : Nat} {q : Vut} {j : Nat} {u : Value} (h : q.cut.cells[j]? = some u) : (mcells r q a b)[0 + 1 + j]? = some u := by
  unfold mcells
  rw [show 0 + 1 + j = j + 1 by omega, List.getElem?_cons_succ, List.getElem?_append_left (List.getElem?_eq_some_iff.1 h).1]
  exact h
theorem ChunkAt.keepO {w w' : World} {k m r lo d lo2 n c : Nat} {q : Vut} {bs held : List UInt8} {B G : Option Addr} {xs : List Value} (h : ChunkAt w k m r q bs lo B d held) (hG : Own w lo2 25 1 G n c xs) (K : Keep (fun j => ∀ o, G ≠ some ⟨j, o, none⟩) w w') : ChunkAt w' k m r q bs lo B d held :=
  ⟨h.1.keep K (fun o e => hG.ne_blk h.1 (by decide) k o e rfl), h.2.1.keep K (fun o e => hG.ne_blk h.2.1.1 (by decide) m o e rfl) (fun o e => by obtain ⟨cs2, h2⟩ := h.2.1.roll; exact hG.ne_blk h2 (by decide) r o e rfl) (fun g _ hg o e => hG.ne_blk hg (by decide) g o e rfl), h.2.2.1.keepT K (fun g cs _ hg o e => hG.ne_blk hg (by decide) g o e rfl), h.2.2.2.1, Nat.le_trans h.2.2.2.2 K.size⟩
theorem chunkPush_m (k m r lo d : Nat) (q : Vut) (bs held : List UInt8) (B0 : Option Addr) (A : Option Addr) (n c dl dh : Nat) (xs : List UInt8) (w : World) (hn : n = xs.length) (hC : ChunkAt w k m r q bs lo B0 d held) (hT : TabAt w) (hr : Rd w dl dh 1 A n (bcells xs)) (hdh : ∀ b, dl ≤ b → b < dh → b ≠ k ∧ b ≠ m ∧ b ≠ r ∧ ∀ o, B0 ≠ some ⟨b, o, none⟩) (hTB : ∀ o, B0 ≠ some ⟨0, o, none⟩) (hdw : dh ≤ w.heap.size) (hlen : (bs ++ xs).length ≤ 1000000) (hheld : held.length ≤ 1000000) :
    Ret Tryd.prog 26 [.pointer (some ⟨k, 0, none⟩), .slice A n c] w fun v w' => ∃ O no dd sl B d' lo', v = .slice O no dd ∧ no = (fed q bs held xs xs.length).1.length ∧ ChunkAt w' k m r q (bs ++ xs) lo' B d' (fed q bs held xs xs.length).2 ∧ Own w' w.heap.size 25 1 O no dd (sl.map slv) ∧ Owns w' lo sl (fed q bs held xs xs.length).1 ∧ (∀ s ∈ sl, ∀ g o, s.1 = some ⟨g, o, none⟩ → g < lo') ∧ lo ≤ lo' ∧ (B = B0 ∨ ∀ g o, B = some ⟨g, o, none⟩ → w.heap.size ≤ g) ∧ Keep (fun j => j ≠ k ∧ j ≠ m ∧ j ≠ r ∧ ∀ o, B0 ≠ some ⟨j, o, none⟩) w w' := by
  subst hn
  exact chunkPush_c k m r lo d q bs held B0 A c dl dh xs w hC hT hr hdh hTB hdw hlen hheld

/-- (*kinkeep/chunker.Chunker).Close -/
theorem close_c (k m r lo d : Nat) (q : Vut) (bs held : List UInt8) (B : Option Addr) (w : World) (hC : ChunkAt w k m r q bs lo B d held) (hG : 0 < w.heap.size) (hlen : held.length ≤ 1000000) :
    Ret Tryd.prog 32 [.pointer (some ⟨k, 0, none⟩)] w fun v w' => ∃ O no dd sl m2 r2, v = .slice O no dd ∧ sl = (if held = [] then [] else [(B, held.length, d)]) ∧ no = sl.length ∧ ChunkAt w' k m2 r2 q [] w'.heap.size none 0 [] ∧ Own w' w.heap.size 25 1 O no dd (sl.map slv) ∧ w.heap.size ≤ m2 ∧ w.heap.size ≤ r2 ∧ Keep (fun j => j ≠ k) w w' := by
  obtain ⟨hk, hM, hown, hGk, hlo⟩ := hC
  have K0 := Keep.refl (fun j => j ≠ k) w
  refine ret_of Tryd.func32 rfl rfl ?_
  refine w_seq ?_
  refine w_region ?_
  refine sv rfl rfl rfl (ex_assign rfl rfl) ?_
  refine w_nil (qe_next ?_)
  refine w_seq ?_
  refine w_region ?_
  refine sv rfl rfl rfl (ex_assign rfl rfl) ?_
  refine w_nil (qe_next ?_)
  refine w_seq ?_
  refine w_seq ?_
  refine w_region ?_
  refine sv rfl rfl rfl (ex_move rfl rfl) ?_
  refine sv rfl rfl rfl (ex_nil rfl rfl) ?_
  refine sv rfl rfl rfl (ex_fieldAddr fld69_1 rfl rfl) ?_
  refine sv rfl rfl rfl (ex_load (v := .slice B held.length d) one25 rfl rfl (hk.cell rfl)) ?_
  refine sv rfl rfl rfl (ex_len Tryd.underlying25 rfl rfl) ?_
  refine sv rfl rfl rfl (ex_cmp rfl rfl rfl rfl) ?_
  refine w_nil (qe_next ?_)
  refine w_if rfl (fun hh => ?_) (fun hh => ?_)
  · skip
    have hne : held ≠ [] := fun e => by rw [e] at hh; simp at hh
    refine w_region ?_
    refine sv rfl rfl rfl (ex_move rfl rfl) ?_
    refine sv rfl rfl rfl (ex_move rfl rfl) ?_
    refine sv rfl rfl rfl (ex_nil rfl rfl) ?_
    refine sv rfl rfl rfl (ex_fieldAddr fld69_1 rfl rfl) ?_
    refine sv rfl rfl rfl (ex_load (v := .slice B held.length d) one25 rfl rfl (hk.cell rfl)) ?_
    refine st rfl rfl rfl (ex_buildSlice (cs := [slv (B, held.length, d)]) rfl rfl (build_bs1 (B, held.length, d))) ?_
    rintro _ w1 ⟨g1, rfl, hg1, E7, hb7, hs7⟩
    replace hk := hk.ext E7
    replace hM := hM.ext E7
    replace K0 := K0.ext E7
    have hs8 := K0.size
    refine st rfl rfl rfl (ex_append Tryd.underlying32 z25.1 rfl (by decide) rfl rfl rfl (Own.nil _ w.heap.size _ _) (Rd.of_blk (size := 1) hb7 rfl) (by simp [slv, Value.oneCell']) (by first | omega | (simp only; omega)) (by first | omega | (simp only; omega)) (by omega)) ?_
    rintro _ w2 ⟨O, dd, rfl, hO, KO, hOB⟩
    replace hk := hk.keep KO (fun o e => by cases e)
    replace hM := hM.keep KO (fun o e => by cases e) (fun o e => by cases e) (fun g _ hg o e => by cases e)
    replace K0 := K0.trans KO (fun j _ _ o e => by cases e)
    refine sv rfl rfl rfl (ex_assign rfl rfl) ?_
    refine w_nil (qe_next ?_)
    refine w_seq ?_
    refine w_region ?_
    refine sv rfl rfl rfl (ex_move rfl rfl) ?_
    refine sv rfl rfl rfl (ex_nil rfl rfl) ?_
    refine sv rfl rfl rfl (ex_fieldAddr fld69_1 rfl rfl) ?_
    refine st0 rfl rfl (ex_store_blk sz25 rfl rfl rfl rfl hk (by simp)) ?_
    rintro _ w3 ⟨K4, hk1, hs9⟩
    have hmk := hM.1.ne hk (by decide)
    have hrk : r ≠ k := by obtain ⟨cs2, h2⟩ := hM.roll; exact h2.ne hk (by decide)
    replace hM := hM.keep K4 hmk hrk (fun g _ hg => hg.ne hk (by decide))
    replace K0 := K0.trans K4 (fun j _ hj => hj)
    replace hO := hO.keepT K4 (fun g cs _ hg => hg.ne hk (by decide))
    clear hk
    have hsz := K0.size
    refine w_nil (qe_next ?_)
    refine w_seq ?_
    refine w_region ?_
    refine sv rfl rfl rfl (ex_move rfl rfl) ?_
    refine sv rfl rfl rfl (ex_move rfl rfl) ?_
    refine sv rfl rfl rfl (ex_nil rfl rfl) ?_
    refine sv rfl rfl rfl (ex_fieldAddr fld69_0 rfl rfl) ?_
    refine sv rfl rfl rfl (ex_load (v := .pointer (some ⟨m, 0, none⟩)) one57 rfl rfl (hk1.cell rfl)) ?_
    refine sv rfl rfl rfl (ex_nil rfl rfl) ?_
    refine sv rfl rfl rfl (ex_fieldAddr fld62_1 rfl rfl) ?_
    refine sv rfl rfl rfl (ex_load_agg (cs := q.cut.cells) agg24 rfl rfl (by intro j u hu; exact hM.1.cell (mcells_cut hu))) ?_
    refine st rfl rfl rfl (ex_call call35 rfl rfl (newMarker_c q _ (by omega))) ?_
    rintro _ w4 ⟨m2, r2, rfl, hM2, hm2, hr2, E2⟩
    replace hM := hM.ext E2
    replace K0 := K0.ext E2
    replace hO := hO.ext E2
    replace hk1 := hk1.ext E2
    refine sv rfl rfl rfl (ex_nil rfl rfl) ?_
    refine sv rfl rfl rfl (ex_fieldAddr fld69_0 rfl rfl) ?_
    refine st0 rfl rfl (ex_store_blk sz57 rfl rfl rfl rfl hk1 (by simp)) ?_
    rintro _ w5 ⟨K5, hk2, hs10⟩
    have hmk2 := hM2.1.ne hk1 (by decide)
    have hrk2 : r2 ≠ k := by obtain ⟨cs2, h2⟩ := hM2.roll; exact h2.ne hk1 (by decide)
    replace hM2 := hM2.keep K5 hmk2 hrk2 (fun g _ hg => hg.ne hk1 (by decide))
    replace K0 := K0.trans K5 (fun j _ hj => hj)
    replace hO := hO.keepT K5 (fun g cs _ hg => hg.ne hk1 (by decide))
    refine w_nil (qe_next ?_)
    refine w_seq ?_
    refine w_region ?_
    refine sv rfl rfl rfl (ex_move rfl rfl) ?_
    refine sv rfl rfl rfl (ex_assign rfl rfl) ?_
    refine w_nil (qe_next ?_)
    refine w_ret (qe_ret1 rfl rfl ?_)
    exact ⟨O, _, dd, [(B, held.length, d)], m2, r2, rfl, by rw [if_neg hne], rfl, ⟨hk2, hM2, Own.nil _ _ _ _, hGk, Nat.le_refl _⟩, hO, by omega, by omega, K0⟩
  · skip
    have hne : held = [] := List.eq_nil_of_length_eq_zero (by omega)
    refine w_skip (qe_next ?_)
    refine w_seq ?_
    refine w_region ?_
    refine sv rfl rfl rfl (ex_move rfl rfl) ?_
    refine sv rfl rfl rfl (ex_nil rfl rfl) ?_
    refine sv rfl rfl rfl (ex_fieldAddr fld69_1 rfl rfl) ?_
    refine st0 rfl rfl (ex_store_blk sz25 rfl rfl rfl rfl hk (by simp)) ?_
    rintro _ w6 ⟨K4, hk1, hs9⟩
    have hmk := hM.1.ne hk (by decide)
    have hrk : r ≠ k := by obtain ⟨cs2, h2⟩ := hM.roll; exact h2.ne hk (by decide)
    replace hM := hM.keep K4 hmk hrk (fun g _ hg => hg.ne hk (by decide))
    replace K0 := K0.trans K4 (fun j _ hj => hj)
    clear hk
    have hsz := K0.size
    refine w_nil (qe_next ?_)
    refine w_seq ?_
    refine w_region ?_
    refine sv rfl rfl rfl (ex_move rfl rfl) ?_
    refine sv rfl rfl rfl (ex_move rfl rfl) ?_
    refine sv rfl rfl rfl (ex_nil rfl rfl) ?_
    refine sv rfl rfl rfl (ex_fieldAddr fld69_0 rfl rfl) ?_
    refine sv rfl rfl rfl (ex_load (v := .pointer (some ⟨m, 0, none⟩)) one57 rfl rfl (hk1.cell rfl)) ?_
    refine sv rfl rfl rfl (ex_nil rfl rfl) ?_
    refine sv rfl rfl rfl (ex_fieldAddr fld62_1 rfl rfl) ?_
    refine sv rfl rfl rfl (ex_load_agg (cs := q.cut.cells) agg24 rfl rfl (by intro j u hu; exact hM.1.cell (mcells_cut hu))) ?_
    refine st rfl rfl rfl (ex_call call35 rfl rfl (newMarker_c q _ (by omega))) ?_
    rintro _ w7 ⟨m2, r2, rfl, hM2, hm2, hr2, E2⟩
    replace hM := hM.ext E2
    replace K0 := K0.ext E2
    replace hk1 := hk1.ext E2
    refine sv rfl rfl rfl (ex_nil rfl rfl) ?_
    refine sv rfl rfl rfl (ex_fieldAddr fld69_0 rfl rfl) ?_
    refine st0 rfl rfl (ex_store_blk sz57 rfl rfl rfl rfl hk1 (by simp)) ?_
    rintro _ w8 ⟨K5, hk2, hs10⟩
    have hmk2 := hM2.1.ne hk1 (by decide)
    have hrk2 : r2 ≠ k := by obtain ⟨cs2, h2⟩ := hM2.roll; exact h2.ne hk1 (by decide)
    replace hM2 := hM2.keep K5 hmk2 hrk2 (fun g _ hg => hg.ne hk1 (by decide))
    replace K0 := K0.trans K5 (fun j _ hj => hj)
    refine w_nil (qe_next ?_)
    refine w_seq ?_
    refine w_region ?_
    refine sv rfl rfl rfl (ex_move rfl rfl) ?_
    refine sv rfl rfl rfl (ex_assign rfl rfl) ?_
    refine w_nil (qe_next ?_)
    refine w_ret (qe_ret1 rfl rfl ?_)
    exact ⟨none, 0, 0, [], m2, r2, rfl, by rw [if_pos hne], rfl, ⟨hk2, hM2, Own.nil _ _ _ _, hGk, Nat.le_refl _⟩, Own.nil _ _ _ _, by omega, by omega, K0⟩
end Go.Proofs.YtfgpcmphcnhbiaaDoor

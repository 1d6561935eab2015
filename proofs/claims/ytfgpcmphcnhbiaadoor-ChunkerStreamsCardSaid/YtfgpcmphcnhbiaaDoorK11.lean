/- The reference: Primary. -/
import Derived.Test.YtfgpcmphcnhbiaaDoorK10
namespace Go.Proofs.YtfgpcmphcnhbiaaDoor
open Go Go.RowKit
set_option linter.unusedVariables false
set_option linter.unusedSimpArgs false
theorem build_ints0 (w : World) : (Instr.buildSlice 35 0 ([] : List (Nat × Value)).toArray).run Tryd.prog w = .ok (.slice (some ⟨w.heap.size, 0, none⟩) 0 0) (w.alloc (.cells ([] : List Value).toArray 3)) := by kernel_rfl
/-- no mark from z on is near before p -/
def far (q : Vut) (bs : List UInt8) (p : Nat) (z : Int) : Prop := mkd q bs p = true ∧ ∀ r : Nat, z < (r : Int) → r < p → p < r + q.mn → mkd q bs r = false
theorem mkd_zero (q : Vut) (bs : List UInt8) : mkd q bs 0 = false := by
  have := q.h1
  unfold mkd
  rw [decide_eq_false (p := q.wi ≤ 0) (by omega), Bool.false_and]
theorem lm_last (q : Vut) (bs : List UInt8) : ∀ (k r : Nat), lm q bs k < r → r ≤ k → mkd q bs r = false
  | 0, r, h1, h2 => by omega
  | k + 1, r, h1, h2 => by
    unfold lm at h1
    split at h1
    · omega
    · rename_i h
      by_cases e : r = k + 1
      · subst e; simpa using h
      · exact lm_last q bs k r h1 (by omega)
theorem lm_mkd (q : Vut) (bs : List UInt8) : ∀ (k : Nat), lm q bs k ≠ 0 → mkd q bs (lm q bs k) = true
  | 0, h => (h rfl).elim
  | k + 1, h => by
    unfold lm at h ⊢
    split
    · rename_i h'; exact h'
    · rename_i h'; rw [if_neg h'] at h; exact lm_mkd q bs k h
theorem far_prim {q : Vut} {bs : List UInt8} {p : Nat} {z : Int} {b : Bool} (hb : b = true ↔ far q bs p z) (hp : 1 ≤ p) (hz : z < 1 ∨ z + q.mn ≤ p) : b = prim q bs p := by
  have hlm := lm_le q bs (p - 1)
  rw [Bool.eq_iff_iff, hb]
  unfold far prim
  rw [Bool.and_eq_true, Bool.or_eq_true, decide_eq_true_iff, decide_eq_true_iff]
  refine and_congr_right fun _ => ⟨fun h => ?_, fun h r h1 h2 h3 => ?_⟩
  · by_cases h0 : lm q bs (p - 1) = 0
    · exact .inl h0
    · refine .inr ?_
      apply Classical.byContradiction
      intro hn
      have h4 := h (lm q bs (p - 1)) (by omega) (by omega) (by omega)
      rw [lm_mkd q bs (p - 1) h0] at h4
      cases h4
  · by_cases h4 : lm q bs (p - 1) < r
    · exact lm_last q bs (p - 1) r h4 (by omega)
    · rcases h with h | h
      · have : r = 0 := by omega
        subst this
        exact mkd_zero q bs
      · omega

/-- kinkeep/kinkeepref16.Primary -/
theorem refPrimary_c (q : Vut) (A : Option Addr) (c lo hi : Nat) (bs : List UInt8) (w : World) (hr : Rd w lo hi 1 A bs.length (bcells bs)) (hmc : bs.length ≤ c) (hlen : bs.length ≤ 1000000) :
    Ret Tryd.prog 27 [q.cut.val, .slice A bs.length c] w fun v w' => ∃ B d, v = .slice B (prims q bs bs.length).length d ∧ Own w' w.heap.size 3 1 B (prims q bs bs.length).length d ((prims q bs bs.length).map fun x : Nat => Value.int .i64 (x : Int)) ∧ Ext w w' := by
  have K0 : Ext w w := Keep.refl _ _
  have hq0 : q.cut.mn = (q.mn : Int) := rfl
  have hq1 : q.cut.mx = (q.mx : Int) := rfl
  have hq2 : q.cut.wi = (q.wi : Int) := rfl
  have hq3 : q.cut.bi = (q.bi : Int) := rfl
  have hv1 := q.h1
  have hv2 := q.h2
  have hv3 := q.h3
  have hv4 := q.h4
  have hv5 := q.h5
  have hv6 := q.h6
  refine ret_of Tryd.func27 rfl rfl ?_
  refine w_seq ?_
  refine w_region ?_
  refine st rfl rfl rfl (ex_box (cs := q.cut.cells) rfl rfl rfl) ?_
  rintro _ w1 ⟨b, rfl, hb0, E0, hb, hs0⟩
  replace K0 := K0.ext E0
  refine sv rfl rfl rfl (ex_assign rfl rfl) ?_
  refine w_nil (qe_next ?_)
  refine w_seq ?_
  refine w_region ?_
  refine sv rfl rfl rfl (ex_load_agg (cs := q.cut.cells) agg24 rfl rfl (by intro j u hu; rw [Nat.zero_add]; exact hb.cell hu)) ?_
  refine sv rfl rfl rfl (ex_move rfl rfl) ?_
  refine st rfl rfl rfl (ex_call call40 rfl rfl (refMarked_c q A c lo hi bs _ (hr.ext K0) hmc hlen)) ?_
  rintro _ w2 ⟨g, rfl, hg, E1⟩
  replace K0 := K0.ext E1
  replace hb := hb.ext E1
  refine sv rfl rfl rfl (ex_assign rfl rfl) ?_
  refine w_nil (qe_next ?_)
  refine w_seq ?_
  refine w_region ?_
  have hsz := K0.size
  refine st rfl rfl rfl (ex_buildSlice (cs := []) rfl rfl build_ints0) ?_
  rintro _ w3 ⟨g0, rfl, hg0, E2, hb2, hs2⟩
  replace K0 := K0.ext E2
  replace hb := hb.ext E2
  replace hg := hg.ext E2
  have hown := Own.of_blk (lo := w.heap.size) (n := 0) (c := 0) (size := 1) hb2 (by omega) (by omega) (by decide) (by simp)
  rw [show List.take (0 * 1) ([] : List Value) = (prims q bs 0).map (fun x : Nat => Value.int .i64 (x : Int)) from rfl] at hown
  refine sv rfl rfl rfl (ex_assign rfl rfl) ?_
  refine w_nil (qe_next ?_)
  refine w_seq ?_
  refine w_seq ?_
  refine w_region ?_
  refine sv rfl rfl rfl (ex_assign rfl rfl) ?_
  refine w_nil (qe_next ?_)
  refine w_block ?_
  refine w_loop (ι := Nat × Nat × Option Addr × Nat) (fun i => [(1, .slice A bs.length c), (2, .pointer (some ⟨b, 0, none⟩)), (5, .slice (some ⟨g, 0, none⟩) (bs.length + 1) (bs.length + 1)), (6, .slice i.2.2.1 i.2.1 i.2.2.2), (7, .int .i64 ((i.1 + 1 : Nat) : Int))]) (fun i w1 => i.1 ≤ bs.length ∧ i.2.1 = (prims q bs i.1).length ∧ Blk w1 b 24 q.cut.cells ∧ Blk w1 g 4 (mcl q bs (bs.length + 1)) ∧ Own w1 w.heap.size 3 1 i.2.2.1 i.2.1 i.2.2.2 ((prims q bs i.1).map fun x : Nat => Value.int .i64 (x : Int)) ∧ Ext w w1) (fun i => bs.length - i.1) ((0, 0, _, _)) ⟨rfl, rfl, rfl, rfl, rfl, trivial⟩ ?_ ?_
  · exact ⟨Nat.zero_le _, rfl, hb, hg, hown, K0⟩
  · clear hb hg K0 hown
    rintro ⟨k, n, B, d⟩ w1 ⟨hk, hn, hb, hg, hown, K0⟩
    simp only at hk hn hown
    have hnl := prims_length q bs k
    refine w_seq ?_
    refine w_seq ?_
    refine w_region ?_
    refine sv rfl rfl rfl (ex_move rfl rfl) ?_
    refine sv rfl rfl rfl (ex_move rfl rfl) ?_
    refine sv rfl rfl rfl (ex_len Tryd.underlying25 rfl rfl) ?_
    refine sv rfl rfl rfl (ex_cmp rfl rfl rfl rfl) ?_
    refine w_nil (qe_next ?_)
    refine w_if rfl (fun hk2 => ?_) (fun hk2 => ?_)
    · skip
      replace hk2 : k + 1 ≤ bs.length := by simp only at hk2; omega
      refine w_skip (qe_next ?_)
      refine w_seq ?_
      refine w_block ?_
      refine w_seq ?_
      refine w_region ?_
      refine sv rfl rfl rfl (ex_move rfl rfl) ?_
      refine sv rfl rfl rfl (ex_move rfl rfl) ?_
      refine sv rfl rfl rfl (ex_index Tryd.underlying70 sz4 (k + 1) rfl rfl rfl rfl (by omega)) ?_
      refine sv rfl rfl rfl (ex_load one4 rfl rfl (by simp only [Nat.zero_add]; exact hg.cell (mcl_get q bs hk2 (by omega)))) ?_
      refine sv rfl rfl rfl (ex_assign rfl rfl) ?_
      refine w_nil (qe_next ?_)
      refine w_seq ?_
      refine w_seq ?_
      refine w_region ?_
      refine sv rfl rfl rfl (ex_move rfl rfl) ?_
      refine sv rfl rfl rfl (ex_sub rfl rfl rfl (i64_in (by first | omega | (simp only; omega)) (by first | omega | (simp only; omega)))) ?_
      refine sv rfl rfl rfl (ex_assign rfl rfl) ?_
      refine w_nil (qe_next ?_)
      refine w_block ?_
      refine w_loop (ι := Int × Bool) (fun u => [(1, .slice A bs.length c), (2, .pointer (some ⟨b, 0, none⟩)), (5, .slice (some ⟨g, 0, none⟩) (bs.length + 1) (bs.length + 1)), (6, .slice B n d), (7, .int .i64 ((k + 1 : Nat) : Int)), (8, .bool u.2), (9, .int .i64 u.1)]) (fun u w2 => 0 ≤ u.1 ∧ u.1 < ((k + 1 : Nat) : Int) ∧ (u.2 = true ↔ far q bs (k + 1) u.1) ∧ Blk w2 b 24 q.cut.cells ∧ Blk w2 g 4 (mcl q bs (bs.length + 1)) ∧ Own w2 w.heap.size 3 1 B n d ((prims q bs k).map fun x : Nat => Value.int .i64 (x : Int)) ∧ Ext w w2) (fun u => u.1.toNat) ((_, _)) ⟨rfl, rfl, rfl, rfl, rfl, rfl, rfl, trivial⟩ ?_ ?_
      · exact ⟨by simp only; omega, by simp only; omega, ⟨fun h => ⟨h, fun r h1 h2 => by first | omega | (simp only at h1; omega)⟩, fun h => h.1⟩, hb, hg, hown, K0⟩
      · clear hb hg hown K0
        rintro ⟨z, b8⟩ w2 ⟨hz0, hz1, hfar, hb, hg, hown, K0⟩
        simp only at hz0 hz1 hfar
        refine w_seq ?_
        refine w_seq ?_
        refine w_region ?_
        refine sv rfl rfl rfl (ex_move rfl rfl) ?_
        refine sv_if rfl rfl rfl (ex_cmp rfl rfl rfl rfl) (fun hj => ?_) (fun hj => ?_)
        · skip
          replace hj : 1 ≤ z := by simp only at hj; omega
          refine sv rfl rfl rfl (ex_move rfl rfl) ?_
          first | refine sk rfl rfl rfl ?_ | refine sv rfl rfl rfl (ex_move rfl rfl) ?_
          first | refine sk rfl rfl rfl ?_ | refine sv rfl rfl rfl (ex_move rfl rfl) ?_
          first | refine sk rfl rfl rfl ?_ | refine sv rfl rfl rfl (ex_fieldAddr fld24_0 rfl rfl) ?_
          first | refine sk rfl rfl rfl ?_ | refine sv rfl rfl rfl (ex_load one3 rfl rfl (hb.cell rfl)) ?_
          first | refine sk rfl rfl rfl ?_ | refine sv rfl rfl rfl (ex_sub rfl rfl rfl (i64_in (by first | omega | (simp only; omega)) (by first | omega | (simp only; omega)))) ?_
          first | refine sk rfl rfl rfl ?_ | refine sv rfl rfl rfl (ex_cmp rfl rfl rfl rfl) ?_
          first | refine sv rfl rfl rfl (ex_pick_t rfl rfl rfl) ?_ | refine sv rfl rfl rfl (ex_pick_f rfl rfl rfl) ?_
          refine w_nil (qe_next ?_)
          refine w_if rfl (fun hjm => ?_) (fun hjm => ?_)
          · skip
            replace hjm : ((k + 1 : Nat) : Int) < z + q.mn := by simp only at hjm; omega
            refine w_skip (qe_next ?_)
            refine w_seq ?_
            refine w_block ?_
            refine w_seq ?_
            refine w_region ?_
            refine sv rfl rfl rfl (ex_move rfl rfl) ?_
            refine sv rfl rfl rfl (ex_move rfl rfl) ?_
            refine sv rfl rfl rfl (ex_index Tryd.underlying70 sz4 z.toNat rfl rfl rfl (by first | omega | (simp only; omega)) (by first | omega | (simp only; omega))) ?_
            refine sv rfl rfl rfl (ex_load one4 rfl rfl (by simp only [Nat.zero_add]; exact hg.cell (mcl_get q bs (by omega) (by omega)))) ?_
            refine w_nil (qe_next ?_)
            refine w_cond rfl (fun hmz => ?_) (fun hmz => ?_)
            · skip
              refine w_region ?_
              refine sv rfl rfl rfl (ex_assign rfl rfl) ?_
              refine w_nil (qe_in_normal (qe_next ?_))
              refine w_region ?_
              refine sv rfl rfl rfl (ex_move rfl rfl) ?_
              refine sv rfl rfl rfl (ex_sub rfl rfl rfl (i64_in (by omega) (by omega))) ?_
              refine sv rfl rfl rfl (ex_assign rfl rfl) ?_
              refine w_nil (qe_round ((z - 1, false)) ⟨rfl, rfl, rfl, rfl, rfl, rfl, rfl, trivial⟩ ?_ ?_)
              · refine ⟨by simp only; omega, by simp only; omega, ⟨(fun h => by cases h), fun h => ?_⟩, hb, hg, hown, K0⟩
                have := h.2 z.toNat (by simp only; omega) (by omega) (by omega)
                rw [hmz] at this
                cases this
              · simp only; omega
            · skip
              refine w_skip (qe_in_normal (qe_next ?_))
              refine w_region ?_
              refine sv rfl rfl rfl (ex_move rfl rfl) ?_
              refine sv rfl rfl rfl (ex_sub rfl rfl rfl (i64_in (by omega) (by omega))) ?_
              refine sv rfl rfl rfl (ex_assign rfl rfl) ?_
              refine w_nil (qe_round ((z - 1, b8)) ⟨rfl, rfl, rfl, rfl, rfl, rfl, rfl, trivial⟩ ?_ ?_)
              · refine ⟨by simp only; omega, by simp only; omega, hfar.trans ⟨fun h => ⟨h.1, fun r h1 h2 h3 => ?_⟩, fun h => ⟨h.1, fun r h1 h2 h3 => h.2 r (by simp only; omega) h2 h3⟩⟩, hb, hg, hown, K0⟩
                by_cases e : z < (r : Int)
                · exact h.2 r e h2 h3
                · have e2 : r = z.toNat := by simp only at h1; omega
                  rw [e2]; exact hmz
              · simp only; omega
          · skip
            replace hjm : z + q.mn ≤ ((k + 1 : Nat) : Int) := by simp only at hjm; omega
            have hfp := far_prim hfar (by omega) (.inr hjm)
            refine w_exit (qe_then_exit (qe_then_exit (qe_in_exit (qe_next ?_))))
            refine w_seq ?_
            first | skip | skip
            refine w_region ?_
            refine sv rfl rfl rfl (ex_move rfl rfl) ?_
            refine w_nil (qe_next ?_)
            refine w_cond rfl (fun hb8 => ?_) (fun hb8 => ?_)
            · skip
              have hfp := far_prim hfar (by omega) (by omega)
              simp only at hb8
              rw [hb8] at hfp
              refine w_region ?_
              refine sv rfl rfl rfl (ex_move rfl rfl) ?_
              refine sv rfl rfl rfl (ex_move rfl rfl) ?_
              refine st rfl rfl rfl (ex_buildSlice (cs := [.int .i64 ((k + 1 : Nat) : Int)]) rfl rfl (build_int _)) ?_
              rintro _ w4 ⟨g1, rfl, hg1, E7, hb7, hs7⟩
              replace hb := hb.ext E7
              replace hg := hg.ext E7
              replace hown := hown.ext E7
              replace K0 := K0.ext E7
              have hs8 := K0.size
              refine st rfl rfl rfl (ex_append Tryd.underlying35 z3.1 rfl (by decide) rfl rfl rfl hown (Rd.of_blk (size := 1) hb7 rfl) (by simp [Value.oneCell']) (by first | omega | (simp only; omega)) (by first | omega | (simp only; omega)) (by omega)) ?_
              rintro _ w5 ⟨B1, d1, rfl, hown1, K3, hB1⟩
              replace hb := hb.keep K3 (fun o e => hown.ne_blk hb (by decide) b o e rfl)
              replace hg := hg.keep K3 (fun o e => hown.ne_blk hg (by decide) g o e rfl)
              replace K0 := K0.trans K3 (fun j hj _ => hown.fresh hj)
              refine sv rfl rfl rfl (ex_assign rfl rfl) ?_
              refine w_nil (qe_in_normal (qe_next ?_))
              refine w_region ?_
              refine sv rfl rfl rfl (ex_move rfl rfl) ?_
              refine sv rfl rfl rfl (ex_add rfl rfl rfl (i64_in (by omega) (by omega))) ?_
              refine sv rfl rfl rfl (ex_assign rfl rfl) ?_
              have hps := prims_succ q bs k
              rw [← hfp, if_pos rfl] at hps
              refine w_nil (qe_round ((k + 1, n + 1, B1, d1)) ⟨rfl, rfl, rfl, rfl, rfl, trivial⟩ ?_ ?_)
              · exact ⟨by simp only; omega, by simp only; rw [hps, List.length_append, List.length_singleton, hn], hb, hg, by simp only; rw [hps, List.map_append]; exact hown1, K0⟩
              · simp only; omega
            · skip
              have hfp := far_prim hfar (by omega) (by omega)
              simp only at hb8
              rw [hb8] at hfp
              refine w_skip (qe_in_normal (qe_next ?_))
              refine w_region ?_
              refine sv rfl rfl rfl (ex_move rfl rfl) ?_
              refine sv rfl rfl rfl (ex_add rfl rfl rfl (i64_in (by omega) (by omega))) ?_
              refine sv rfl rfl rfl (ex_assign rfl rfl) ?_
              have hps := prims_succ q bs k
              rw [← hfp, if_neg (by simp)] at hps
              refine w_nil (qe_round ((k + 1, n, B, d)) ⟨rfl, rfl, rfl, rfl, rfl, trivial⟩ ?_ ?_)
              · exact ⟨by simp only; omega, by simp only; rw [hps, hn], hb, hg, by simp only; rw [hps]; exact hown, K0⟩
              · simp only; omega
        · skip
          replace hj : z < 1 := by simp only at hj; omega
          refine sv rfl rfl rfl (ex_move rfl rfl) ?_
          first | refine sk rfl rfl rfl ?_ | refine sv rfl rfl rfl (ex_move rfl rfl) ?_
          first | refine sk rfl rfl rfl ?_ | refine sv rfl rfl rfl (ex_move rfl rfl) ?_
          first | refine sk rfl rfl rfl ?_ | refine sv rfl rfl rfl (ex_fieldAddr fld24_0 rfl rfl) ?_
          first | refine sk rfl rfl rfl ?_ | refine sv rfl rfl rfl (ex_load one3 rfl rfl (hb.cell rfl)) ?_
          first | refine sk rfl rfl rfl ?_ | refine sv rfl rfl rfl (ex_sub rfl rfl rfl (i64_in (by first | omega | (simp only; omega)) (by first | omega | (simp only; omega)))) ?_
          first | refine sk rfl rfl rfl ?_ | refine sv rfl rfl rfl (ex_cmp rfl rfl rfl rfl) ?_
          first | refine sv rfl rfl rfl (ex_pick_t rfl rfl rfl) ?_ | refine sv rfl rfl rfl (ex_pick_f rfl rfl rfl) ?_
          refine w_nil (qe_next ?_)
          refine w_cond_f rfl ?_
          refine w_exit (qe_then_exit (qe_then_exit (qe_in_exit (qe_next ?_))))
          refine w_seq ?_
          first | skip | skip
          refine w_region ?_
          refine sv rfl rfl rfl (ex_move rfl rfl) ?_
          refine w_nil (qe_next ?_)
          refine w_cond rfl (fun hb8 => ?_) (fun hb8 => ?_)
          · skip
            have hfp := far_prim hfar (by omega) (by omega)
            simp only at hb8
            rw [hb8] at hfp
            refine w_region ?_
            refine sv rfl rfl rfl (ex_move rfl rfl) ?_
            refine sv rfl rfl rfl (ex_move rfl rfl) ?_
            refine st rfl rfl rfl (ex_buildSlice (cs := [.int .i64 ((k + 1 : Nat) : Int)]) rfl rfl (build_int _)) ?_
            rintro _ w6 ⟨g1, rfl, hg1, E7, hb7, hs7⟩
            replace hb := hb.ext E7
            replace hg := hg.ext E7
            replace hown := hown.ext E7
            replace K0 := K0.ext E7
            have hs8 := K0.size
            refine st rfl rfl rfl (ex_append Tryd.underlying35 z3.1 rfl (by decide) rfl rfl rfl hown (Rd.of_blk (size := 1) hb7 rfl) (by simp [Value.oneCell']) (by first | omega | (simp only; omega)) (by first | omega | (simp only; omega)) (by omega)) ?_
            rintro _ w7 ⟨B1, d1, rfl, hown1, K3, hB1⟩
            replace hb := hb.keep K3 (fun o e => hown.ne_blk hb (by decide) b o e rfl)
            replace hg := hg.keep K3 (fun o e => hown.ne_blk hg (by decide) g o e rfl)
            replace K0 := K0.trans K3 (fun j hj _ => hown.fresh hj)
            refine sv rfl rfl rfl (ex_assign rfl rfl) ?_
            refine w_nil (qe_in_normal (qe_next ?_))
            refine w_region ?_
            refine sv rfl rfl rfl (ex_move rfl rfl) ?_
            refine sv rfl rfl rfl (ex_add rfl rfl rfl (i64_in (by omega) (by omega))) ?_
            refine sv rfl rfl rfl (ex_assign rfl rfl) ?_
            have hps := prims_succ q bs k
            rw [← hfp, if_pos rfl] at hps
            refine w_nil (qe_round ((k + 1, n + 1, B1, d1)) ⟨rfl, rfl, rfl, rfl, rfl, trivial⟩ ?_ ?_)
            · exact ⟨by simp only; omega, by simp only; rw [hps, List.length_append, List.length_singleton, hn], hb, hg, by simp only; rw [hps, List.map_append]; exact hown1, K0⟩
            · simp only; omega
          · skip
            have hfp := far_prim hfar (by omega) (by omega)
            simp only at hb8
            rw [hb8] at hfp
            refine w_skip (qe_in_normal (qe_next ?_))
            refine w_region ?_
            refine sv rfl rfl rfl (ex_move rfl rfl) ?_
            refine sv rfl rfl rfl (ex_add rfl rfl rfl (i64_in (by omega) (by omega))) ?_
            refine sv rfl rfl rfl (ex_assign rfl rfl) ?_
            have hps := prims_succ q bs k
            rw [← hfp, if_neg (by simp)] at hps
            refine w_nil (qe_round ((k + 1, n, B, d)) ⟨rfl, rfl, rfl, rfl, rfl, trivial⟩ ?_ ?_)
            · exact ⟨by simp only; omega, by simp only; rw [hps, hn], hb, hg, by simp only; rw [hps]; exact hown, K0⟩
            · simp only; omega
    · skip
      replace hk2 : k = bs.length := by simp only at hk2; omega
      subst hk2
      subst hn
      refine w_exit (qe_then_exit (qe_then_exit (qe_in_exit (qe_next ?_))))
      refine w_seq ?_
      refine w_region ?_
      refine sv rfl rfl rfl (ex_move rfl rfl) ?_
      refine sv rfl rfl rfl (ex_assign rfl rfl) ?_
      refine w_nil (qe_next ?_)
      refine w_ret (qe_ret1 rfl rfl ?_)
      exact ⟨B, d, rfl, hown, K0⟩
end Go.Proofs.YtfgpcmphcnhbiaaDoor

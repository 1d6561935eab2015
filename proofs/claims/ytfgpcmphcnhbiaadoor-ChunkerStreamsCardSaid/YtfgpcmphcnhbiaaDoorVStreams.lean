/- The law ChunkerStreams, walked. -/
import Derived.Test.YtfgpcmphcnhbiaaDoorP7
namespace Go.Proofs.YtfgpcmphcnhbiaaDoor
open Go Go.RowKit
set_option linter.unusedVariables false
set_option linter.unusedSimpArgs false
/-- kinkeep/kinkeeplaw16.ChunkerStreams -/
theorem streams_bad1 (c0 : Cut) (A1 : Option Addr) (c1 lo1 hi1 : Nat) (bs1 : List UInt8) (A2 : Option Addr) (c2 lo2 hi2 : Nat) (bs2 : List UInt8) (w : World) (hr1 : Rd w lo1 hi1 1 A1 bs1.length (bcells bs1)) (hhi1 : hi1 ≤ w.heap.size) (hmc1 : bs1.length ≤ c1) (hr2 : Rd w lo2 hi2 1 A2 bs2.length (bcells bs2)) (hhi2 : hi2 ≤ w.heap.size) (h : ¬ c0.ok) (hT : TabAt w) :
    Ret Tryd.prog 12 [c0.val, .slice A1 bs1.length c1, .slice A2 bs2.length c2] w fun v w' => v = .bool true ∧ Ext w w' := by
  have K0 : Ext w w := Keep.refl _ _
  refine ret_of Tryd.func12 rfl rfl ?_
  refine w_seq ?_
  refine w_region ?_
  refine st rfl rfl rfl (ex_box (cs := c0.cells) rfl rfl rfl) ?_
  rintro _ w1 ⟨b1, rfl, hb0, E0, hb, hs0⟩
  replace K0 := K0.ext E0
  refine sv rfl rfl rfl (ex_assign rfl rfl) ?_
  refine w_nil (qe_next ?_)
  refine w_seq ?_
  refine w_seq ?_
  refine w_region ?_
  refine sv rfl rfl rfl (ex_load_agg (cs := c0.cells) agg24 rfl rfl (by intro j u hu; rw [Nat.zero_add]; exact hb.cell hu)) ?_
  refine st rfl rfl rfl (ex_call call19 rfl rfl ((refValid_c c0 _).mono (R' := fun v w' => v = .bool false ∧ Ext _ w') fun v w' h' => ⟨by rw [h'.1, decide_eq_false (h)], h'.2⟩)) ?_
  rintro _ w2 ⟨rfl, E1⟩
  replace K0 := K0.ext E1
  replace hb := hb.ext E1
  refine sv rfl rfl rfl (ex_not rfl rfl) ?_
  refine sv rfl rfl rfl (ex_move rfl rfl) ?_
  first | refine sk rfl rfl rfl ?_ | refine sv rfl rfl rfl (ex_move rfl rfl) ?_
  refine sk rfl rfl rfl ?_
  refine sk rfl rfl rfl ?_
  refine sk rfl rfl rfl ?_
  first | refine sv rfl rfl rfl (ex_pick_t rfl rfl rfl) ?_ | refine sv rfl rfl rfl (ex_pick_f rfl rfl rfl) ?_
  refine sv rfl rfl rfl (ex_move rfl rfl) ?_
  first | refine sk rfl rfl rfl ?_ | refine sv rfl rfl rfl (ex_move rfl rfl) ?_
  refine sk rfl rfl rfl ?_
  refine sk rfl rfl rfl ?_
  first | refine sv rfl rfl rfl (ex_pick_t rfl rfl rfl) ?_ | refine sv rfl rfl rfl (ex_pick_f rfl rfl rfl) ?_
  refine w_nil (qe_next ?_)
  refine w_cond_t rfl ?_
  refine w_seq ?_
  refine w_region ?_
  refine st rfl rfl rfl (ex_call call16 rfl rfl (awake16_c _ (hT.ext K0))) ?_
  rintro _ w3 ⟨rfl, E9⟩
  replace K0 := K0.ext E9
  replace hb := hb.ext E9
  refine sv rfl rfl rfl (ex_assign rfl rfl) ?_
  refine w_nil (qe_next ?_)
  refine w_ret (qe_then_ret (qe_ret1 rfl rfl ?_))
  exact ⟨rfl, K0⟩
/-- kinkeep/kinkeeplaw16.ChunkerStreams -/
theorem streams_bad2 (c0 : Cut) (A1 : Option Addr) (c1 lo1 hi1 : Nat) (bs1 : List UInt8) (A2 : Option Addr) (c2 lo2 hi2 : Nat) (bs2 : List UInt8) (w : World) (hr1 : Rd w lo1 hi1 1 A1 bs1.length (bcells bs1)) (hhi1 : hi1 ≤ w.heap.size) (hmc1 : bs1.length ≤ c1) (hr2 : Rd w lo2 hi2 1 A2 bs2.length (bcells bs2)) (hhi2 : hi2 ≤ w.heap.size) (h : c0.ok) (h3 : ¬ bs1.length ≤ 300) (hT : TabAt w) :
    Ret Tryd.prog 12 [c0.val, .slice A1 bs1.length c1, .slice A2 bs2.length c2] w fun v w' => v = .bool true ∧ Ext w w' := by
  have K0 : Ext w w := Keep.refl _ _
  refine ret_of Tryd.func12 rfl rfl ?_
  refine w_seq ?_
  refine w_region ?_
  refine st rfl rfl rfl (ex_box (cs := c0.cells) rfl rfl rfl) ?_
  rintro _ w1 ⟨b1, rfl, hb0, E0, hb, hs0⟩
  replace K0 := K0.ext E0
  refine sv rfl rfl rfl (ex_assign rfl rfl) ?_
  refine w_nil (qe_next ?_)
  refine w_seq ?_
  refine w_seq ?_
  refine w_region ?_
  refine sv rfl rfl rfl (ex_load_agg (cs := c0.cells) agg24 rfl rfl (by intro j u hu; rw [Nat.zero_add]; exact hb.cell hu)) ?_
  refine st rfl rfl rfl (ex_call call19 rfl rfl ((refValid_c c0 _).mono (R' := fun v w' => v = .bool true ∧ Ext _ w') fun v w' h' => ⟨by rw [h'.1, decide_eq_true (h)], h'.2⟩)) ?_
  rintro _ w2 ⟨rfl, E1⟩
  replace K0 := K0.ext E1
  replace hb := hb.ext E1
  refine sv rfl rfl rfl (ex_not rfl rfl) ?_
  refine sv rfl rfl rfl (ex_move rfl rfl) ?_
  first | refine sk rfl rfl rfl ?_ | refine sv rfl rfl rfl (ex_move rfl rfl) ?_
  refine st rfl rfl rfl (ex_buildSlice (cs := [slv (A1, bs1.length, c1)]) rfl rfl (build_bs1 (A1, bs1.length, c1))) ?_
  rintro _ w3 ⟨g, rfl, hg0, E3, hb7, hs7⟩
  replace K0 := K0.ext E3
  replace hb := hb.ext E3
  refine st rfl rfl rfl (ex_call call15 rfl rfl ((few_c (some ⟨g, 0, none⟩) 1 1 _ _ [(A1, bs1.length, c1)] _ rfl (by decide) (Rd.of_blk (size := 1) hb7 rfl)).mono (R' := fun v w' => v = .bool false ∧ w' = _) fun v w' h' => ⟨by rw [h'.1, decide_eq_false (fun hh => h3 (hh _ List.mem_cons_self))], h'.2⟩)) ?_
  rintro _ w4 ⟨rfl, hwe⟩
  obtain rfl := hwe.symm
  first | refine sk rfl rfl rfl ?_ | refine sv rfl rfl rfl (ex_not rfl rfl) ?_
  first | refine sv rfl rfl rfl (ex_pick_t rfl rfl rfl) ?_ | refine sv rfl rfl rfl (ex_pick_f rfl rfl rfl) ?_
  refine sv rfl rfl rfl (ex_move rfl rfl) ?_
  first | refine sk rfl rfl rfl ?_ | refine sv rfl rfl rfl (ex_move rfl rfl) ?_
  refine sk rfl rfl rfl ?_
  refine sk rfl rfl rfl ?_
  first | refine sv rfl rfl rfl (ex_pick_t rfl rfl rfl) ?_ | refine sv rfl rfl rfl (ex_pick_f rfl rfl rfl) ?_
  refine w_nil (qe_next ?_)
  refine w_cond_t rfl ?_
  refine w_seq ?_
  refine w_region ?_
  refine st rfl rfl rfl (ex_call call16 rfl rfl (awake16_c _ (hT.ext K0))) ?_
  rintro _ w5 ⟨rfl, E9⟩
  replace K0 := K0.ext E9
  replace hb := hb.ext E9
  refine sv rfl rfl rfl (ex_assign rfl rfl) ?_
  refine w_nil (qe_next ?_)
  refine w_ret (qe_then_ret (qe_ret1 rfl rfl ?_))
  exact ⟨rfl, K0⟩
/-- kinkeep/kinkeeplaw16.ChunkerStreams -/
theorem streams_bad3 (c0 : Cut) (A1 : Option Addr) (c1 lo1 hi1 : Nat) (bs1 : List UInt8) (A2 : Option Addr) (c2 lo2 hi2 : Nat) (bs2 : List UInt8) (w : World) (hr1 : Rd w lo1 hi1 1 A1 bs1.length (bcells bs1)) (hhi1 : hi1 ≤ w.heap.size) (hmc1 : bs1.length ≤ c1) (hr2 : Rd w lo2 hi2 1 A2 bs2.length (bcells bs2)) (hhi2 : hi2 ≤ w.heap.size) (h : c0.ok) (h3 : bs1.length ≤ 300) (h4 : ¬ bs2.length ≤ 40) (hT : TabAt w) :
    Ret Tryd.prog 12 [c0.val, .slice A1 bs1.length c1, .slice A2 bs2.length c2] w fun v w' => v = .bool true ∧ Ext w w' := by
  have K0 : Ext w w := Keep.refl _ _
  refine ret_of Tryd.func12 rfl rfl ?_
  refine w_seq ?_
  refine w_region ?_
  refine st rfl rfl rfl (ex_box (cs := c0.cells) rfl rfl rfl) ?_
  rintro _ w1 ⟨b1, rfl, hb0, E0, hb, hs0⟩
  replace K0 := K0.ext E0
  refine sv rfl rfl rfl (ex_assign rfl rfl) ?_
  refine w_nil (qe_next ?_)
  refine w_seq ?_
  refine w_seq ?_
  refine w_region ?_
  refine sv rfl rfl rfl (ex_load_agg (cs := c0.cells) agg24 rfl rfl (by intro j u hu; rw [Nat.zero_add]; exact hb.cell hu)) ?_
  refine st rfl rfl rfl (ex_call call19 rfl rfl ((refValid_c c0 _).mono (R' := fun v w' => v = .bool true ∧ Ext _ w') fun v w' h' => ⟨by rw [h'.1, decide_eq_true (h)], h'.2⟩)) ?_
  rintro _ w2 ⟨rfl, E1⟩
  replace K0 := K0.ext E1
  replace hb := hb.ext E1
  refine sv rfl rfl rfl (ex_not rfl rfl) ?_
  refine sv rfl rfl rfl (ex_move rfl rfl) ?_
  first | refine sk rfl rfl rfl ?_ | refine sv rfl rfl rfl (ex_move rfl rfl) ?_
  refine st rfl rfl rfl (ex_buildSlice (cs := [slv (A1, bs1.length, c1)]) rfl rfl (build_bs1 (A1, bs1.length, c1))) ?_
  rintro _ w3 ⟨g, rfl, hg0, E3, hb7, hs7⟩
  replace K0 := K0.ext E3
  replace hb := hb.ext E3
  refine st rfl rfl rfl (ex_call call15 rfl rfl ((few_c (some ⟨g, 0, none⟩) 1 1 _ _ [(A1, bs1.length, c1)] _ rfl (by decide) (Rd.of_blk (size := 1) hb7 rfl)).mono (R' := fun v w' => v = .bool true ∧ w' = _) fun v w' h' => ⟨by rw [h'.1, decide_eq_true (by intro x hx; rw [List.mem_singleton.1 hx]; exact h3)], h'.2⟩)) ?_
  rintro _ w4 ⟨rfl, hwe⟩
  obtain rfl := hwe.symm
  first | refine sk rfl rfl rfl ?_ | refine sv rfl rfl rfl (ex_not rfl rfl) ?_
  first | refine sv rfl rfl rfl (ex_pick_t rfl rfl rfl) ?_ | refine sv rfl rfl rfl (ex_pick_f rfl rfl rfl) ?_
  refine sv rfl rfl rfl (ex_move rfl rfl) ?_
  first | refine sk rfl rfl rfl ?_ | refine sv rfl rfl rfl (ex_move rfl rfl) ?_
  first | refine sk rfl rfl rfl ?_ | refine sv rfl rfl rfl (ex_len Tryd.underlying25 rfl rfl) ?_
  first | refine sk rfl rfl rfl ?_ | refine sv rfl rfl rfl (ex_cmp rfl rfl rfl (congrArg some (decide_eq_true (by omega)))) ?_
  first | refine sv rfl rfl rfl (ex_pick_t rfl rfl rfl) ?_ | refine sv rfl rfl rfl (ex_pick_f rfl rfl rfl) ?_
  refine w_nil (qe_next ?_)
  refine w_cond_t rfl ?_
  refine w_seq ?_
  refine w_region ?_
  refine st rfl rfl rfl (ex_call call16 rfl rfl (awake16_c _ (hT.ext K0))) ?_
  rintro _ w5 ⟨rfl, E9⟩
  replace K0 := K0.ext E9
  replace hb := hb.ext E9
  refine sv rfl rfl rfl (ex_assign rfl rfl) ?_
  refine w_nil (qe_next ?_)
  refine w_ret (qe_then_ret (qe_ret1 rfl rfl ?_))
  exact ⟨rfl, K0⟩
/-- kinkeep/kinkeeplaw16.ChunkerStreams -/
theorem streams_good (q : Vut) (A1 : Option Addr) (c1 lo1 hi1 : Nat) (bs1 : List UInt8) (A2 : Option Addr) (c2 lo2 hi2 : Nat) (bs2 : List UInt8) (w : World) (hr1 : Rd w lo1 hi1 1 A1 bs1.length (bcells bs1)) (hhi1 : hi1 ≤ w.heap.size) (hmc1 : bs1.length ≤ c1) (hr2 : Rd w lo2 hi2 1 A2 bs2.length (bcells bs2)) (hhi2 : hi2 ≤ w.heap.size) (h3 : bs1.length ≤ 300) (h4 : bs2.length ≤ 40) (hT : TabAt w) :
    Ret Tryd.prog 12 [q.cut.val, .slice A1 bs1.length c1, .slice A2 bs2.length c2] w fun v w' => v = .bool true ∧ Ext w w' := by
  have K0 : Ext w w := Keep.refl _ _
  skip
  have hq0 : q.cut.mn = (q.mn : Int) := rfl
  have hq1 : q.cut.mx = (q.mx : Int) := rfl
  have hq2 : q.cut.wi = (q.wi : Int) := rfl
  have hq3 : q.cut.bi = (q.bi : Int) := rfl
  have hv1 := q.h1
  have hv2 := q.h2
  have hv3 := q.h3
  have hv4 := q.h4
  have hv5 := q.h5
  have hv6 := q.h6
  refine ret_of Tryd.func12 rfl rfl ?_
  refine w_seq ?_
  refine w_region ?_
  refine st rfl rfl rfl (ex_box (cs := q.cut.cells) rfl rfl rfl) ?_
  rintro _ w1 ⟨b1, rfl, hb0, E0, hb, hs0⟩
  replace K0 := K0.ext E0
  refine sv rfl rfl rfl (ex_assign rfl rfl) ?_
  refine w_nil (qe_next ?_)
  refine w_seq ?_
  refine w_seq ?_
  refine w_region ?_
  refine sv rfl rfl rfl (ex_load_agg (cs := q.cut.cells) agg24 rfl rfl (by intro j u hu; rw [Nat.zero_add]; exact hb.cell hu)) ?_
  refine st rfl rfl rfl (ex_call call19 rfl rfl ((refValid_c q.cut _).mono (R' := fun v w' => v = .bool true ∧ Ext _ w') fun v w' h' => ⟨by rw [h'.1, decide_eq_true (q.ok)], h'.2⟩)) ?_
  rintro _ w2 ⟨rfl, E1⟩
  replace K0 := K0.ext E1
  replace hb := hb.ext E1
  refine sv rfl rfl rfl (ex_not rfl rfl) ?_
  refine sv rfl rfl rfl (ex_move rfl rfl) ?_
  first | refine sk rfl rfl rfl ?_ | refine sv rfl rfl rfl (ex_move rfl rfl) ?_
  refine st rfl rfl rfl (ex_buildSlice (cs := [slv (A1, bs1.length, c1)]) rfl rfl (build_bs1 (A1, bs1.length, c1))) ?_
  rintro _ w3 ⟨g, rfl, hg0, E3, hb7, hs7⟩
  replace K0 := K0.ext E3
  replace hb := hb.ext E3
  refine st rfl rfl rfl (ex_call call15 rfl rfl ((few_c (some ⟨g, 0, none⟩) 1 1 _ _ [(A1, bs1.length, c1)] _ rfl (by decide) (Rd.of_blk (size := 1) hb7 rfl)).mono (R' := fun v w' => v = .bool true ∧ w' = _) fun v w' h' => ⟨by rw [h'.1, decide_eq_true (by intro x hx; rw [List.mem_singleton.1 hx]; exact h3)], h'.2⟩)) ?_
  rintro _ w4 ⟨rfl, hwe⟩
  obtain rfl := hwe.symm
  first | refine sk rfl rfl rfl ?_ | refine sv rfl rfl rfl (ex_not rfl rfl) ?_
  first | refine sv rfl rfl rfl (ex_pick_t rfl rfl rfl) ?_ | refine sv rfl rfl rfl (ex_pick_f rfl rfl rfl) ?_
  refine sv rfl rfl rfl (ex_move rfl rfl) ?_
  first | refine sk rfl rfl rfl ?_ | refine sv rfl rfl rfl (ex_move rfl rfl) ?_
  first | refine sk rfl rfl rfl ?_ | refine sv rfl rfl rfl (ex_len Tryd.underlying25 rfl rfl) ?_
  first | refine sk rfl rfl rfl ?_ | refine sv rfl rfl rfl (ex_cmp rfl rfl rfl (congrArg some (decide_eq_false (by omega)))) ?_
  first | refine sv rfl rfl rfl (ex_pick_t rfl rfl rfl) ?_ | refine sv rfl rfl rfl (ex_pick_f rfl rfl rfl) ?_
  refine w_nil (qe_next ?_)
  refine w_cond_f rfl ?_
  refine w_skip (qe_next ?_)
  refine w_seq ?_
  refine w_region ?_
  refine sv rfl rfl rfl (ex_load_agg (cs := q.cut.cells) agg24 rfl rfl (by intro j u hu; rw [Nat.zero_add]; exact hb.cell hu)) ?_
  have hsz := K0.size
  refine st rfl rfl rfl (ex_call call23 rfl rfl (chunkNew_c q _ (hT.ext K0).pos)) ?_
  rintro _ w5 ⟨k, m0, r0, rfl, hC, hk0, hm0, hr0, E5⟩
  replace K0 := K0.ext E5
  replace hb := hb.ext E5
  obtain ⟨l0, hl0, hsz2⟩ := K0.n
  rw [← hl0] at hC
  have hT0 := hT.pos
  have hkw : w.heap.size ≤ k := by omega
  refine sv rfl rfl rfl (ex_move rfl rfl) ?_
  refine sv rfl rfl rfl (ex_extract rfl rfl rfl) ?_
  refine sv rfl rfl rfl (ex_extract rfl rfl rfl) ?_
  refine sv rfl rfl rfl (ex_assign rfl rfl) ?_
  refine sv rfl rfl rfl (ex_assign rfl rfl) ?_
  refine w_nil (qe_next ?_)
  refine w_seq ?_
  refine w_seq ?_
  refine w_region ?_
  refine sv rfl rfl rfl (ex_move rfl rfl) ?_
  refine sv rfl rfl rfl (ex_cmp rfl rfl rfl (congrArg some (decide_eq_false (not_not_intro rfl)))) ?_
  refine sv rfl rfl rfl (ex_move rfl rfl) ?_
  first | refine sk rfl rfl rfl ?_ | refine sv rfl rfl rfl (ex_move rfl rfl) ?_
  first | refine sk rfl rfl rfl ?_ | refine sv rfl rfl rfl (ex_ptrNil Tryd.underlying40 rfl rfl rfl) ?_
  first | refine sv rfl rfl rfl (ex_pick_t rfl rfl rfl) ?_ | refine sv rfl rfl rfl (ex_pick_f rfl rfl rfl) ?_
  refine w_nil (qe_next ?_)
  refine w_cond_f rfl ?_
  refine w_skip (qe_next ?_)
  refine w_seq ?_
  refine w_seq ?_
  refine w_region ?_
  refine sv rfl rfl rfl (ex_assign rfl rfl) ?_
  refine w_nil (qe_next ?_)
  refine w_block ?_
  refine w_loop (ι := Nat × Nat × Nat × Nat) (fun i => [(1, .slice A1 bs1.length c1), (2, .slice A2 bs2.length c2), (3, .pointer (some ⟨b1, 0, none⟩)), (7, .pointer (some ⟨k, 0, none⟩)), (9, .int .i64 (i.1 : Int))]) (fun i w1 => i.1 ≤ 2 ∧ ChunkAt w1 k i.2.1 i.2.2.1 q [] i.2.2.2 none 0 [] ∧ w.heap.size ≤ i.2.1 ∧ w.heap.size ≤ i.2.2.1 ∧ w.heap.size ≤ i.2.2.2 ∧ Blk w1 b1 24 q.cut.cells ∧ Ext w w1) (fun i => 2 - i.1) ((0, m0, r0, l0)) ⟨rfl, rfl, rfl, rfl, rfl, trivial⟩ ?_ ?_
  · exact ⟨by simp only; omega, hC, by simp only; omega, by simp only; omega, hsz2, hb, K0⟩
  · clear hC hb K0 hsz2 hm0 hr0 hl0
    rintro ⟨g9, m, r, lo⟩ w1 ⟨hg9, hC, hm0, hr0, hlo, hb, K0⟩
    simp only at hg9 hC hm0 hr0 hlo
    refine w_seq ?_
    refine w_seq ?_
    refine w_region ?_
    refine sv rfl rfl rfl (ex_move rfl rfl) ?_
    refine sv rfl rfl rfl (ex_cmp rfl rfl rfl rfl) ?_
    refine w_nil (qe_next ?_)
    refine w_if rfl (fun hg2 => ?_) (fun hg2 => ?_)
    · skip
      replace hg2 : g9 < 2 := by first | omega | (simp only at hg2; omega)
      refine w_skip (qe_next ?_)
      refine w_seq ?_
      refine w_block ?_
      refine w_seq ?_
      refine w_region ?_
      have hsz3 := K0.size
      refine st rfl rfl rfl (ex_buildSlice (cs := []) rfl rfl build_bs0) ?_
      rintro _ w6 ⟨gg, rfl, hgg, E6, hb6, hs6⟩
      replace hC := hC.ext E6
      replace hb := hb.ext E6
      replace K0 := K0.ext E6
      have hsz4 := K0.size
      have hG := Own.of_blk (lo := w.heap.size) (n := 0) (c := 0) (size := 1) hb6 (by omega) (by omega) (by decide) (by simp)
      refine sv rfl rfl rfl (ex_assign rfl rfl) ?_
      refine w_nil (qe_next ?_)
      refine w_seq ?_
      refine w_region ?_
      refine sv rfl rfl rfl (ex_assign rfl rfl) ?_
      refine sv rfl rfl rfl (ex_assign rfl rfl) ?_
      refine w_nil (qe_next ?_)
      refine w_seq ?_
      refine w_seq ?_
      refine w_region ?_
      refine sv rfl rfl rfl (ex_assign rfl rfl) ?_
      refine w_nil (qe_next ?_)
      refine w_block ?_
      refine w_loop (ι := Nat × Nat × Nat × Option Addr × Nat × Nat × Option Addr × Nat × Nat) (fun u => [(1, .slice A1 bs1.length c1), (2, .slice A2 bs2.length c2), (3, .pointer (some ⟨b1, 0, none⟩)), (7, .pointer (some ⟨k, 0, none⟩)), (9, .int .i64 (g9 : Int)), (10, .slice u.2.2.2.2.2.2.1 u.2.2.2.2.2.1 u.2.2.2.2.2.2.2.1), (11, .int .i64 (u.2.1 : Int)), (12, .int .i64 (u.2.2.2.2.2.2.2.2 : Int)), (13, .int .i64 (u.1 : Int))]) (fun u w2 => u.1 ≤ bs2.length + 1 ∧ u.2.1 ≤ bs1.length ∧ (bs2.length < u.1 → u.2.1 = bs1.length) ∧ u.2.2.2.2.2.1 = (icuts q bs1 u.2.1).1.length ∧ u.2.2.2.2.2.2.2.2 = (icuts q bs1 u.2.1).2 ∧ ChunkAt w2 k m r q (bs1.take u.2.1) u.2.2.1 u.2.2.2.1 u.2.2.2.2.1 (hld q bs1 u.2.1) ∧ w.heap.size ≤ u.2.2.1 ∧ (∃ sl : List Sl, Own w2 w.heap.size 25 1 u.2.2.2.2.2.2.1 u.2.2.2.2.2.1 u.2.2.2.2.2.2.2.1 (sl.map slv) ∧ Owns w2 w.heap.size sl (pieces bs1 0 (icuts q bs1 u.2.1).1) ∧ ∀ s ∈ sl, ∀ g o, s.1 = some ⟨g, o, none⟩ → g < u.2.2.1) ∧ Blk w2 b1 24 q.cut.cells ∧ Ext w w2) (fun u => bs2.length + 1 - u.1) ((0, 0, lo, none, 0, 0, _, _, 0)) ⟨rfl, rfl, rfl, rfl, rfl, rfl, rfl, rfl, rfl, trivial⟩ ?_ ?_
      · exact ⟨Nat.zero_le _, Nat.zero_le _, (fun hh => by simp only at hh; omega), rfl, rfl, hC, hlo, ⟨[], hG, trivial, fun s hs => by cases hs⟩, hb, K0⟩
      · clear hC hG hb K0 hlo
        rintro ⟨i, f, lo, B, d, nG, G, dG, t⟩ w2 ⟨hi, hf, hfe, hnG, ht, hC, hlo, ⟨sl, hG, hso, hsl⟩, hb, K0⟩
        simp only at hi hf hfe hnG ht hC hlo hG hso hsl
        refine w_seq ?_
        refine w_seq ?_
        refine w_region ?_
        refine sv rfl rfl rfl (ex_move rfl rfl) ?_
        refine sv rfl rfl rfl (ex_move rfl rfl) ?_
        refine sv rfl rfl rfl (ex_len Tryd.underlying25 rfl rfl) ?_
        refine sv rfl rfl rfl (ex_cmp rfl rfl rfl rfl) ?_
        refine w_nil (qe_next ?_)
        refine w_if rfl (fun hi2 => ?_) (fun hi2 => ?_)
        · skip
          replace hi2 : i ≤ bs2.length := by first | omega | (simp only at hi2; omega)
          refine w_skip (qe_next ?_)
          refine w_seq ?_
          refine w_block ?_
          refine w_seq ?_
          refine w_region ?_
          refine sv rfl rfl rfl (ex_move rfl rfl) ?_
          refine sv rfl rfl rfl (ex_len Tryd.underlying25 rfl rfl) ?_
          refine sv rfl rfl rfl (ex_assign rfl rfl) ?_
          refine w_nil (qe_next ?_)
          refine w_cut (ι := Nat) (fun to => [(1, .slice A1 bs1.length c1), (2, .slice A2 bs2.length c2), (3, .pointer (some ⟨b1, 0, none⟩)), (7, .pointer (some ⟨k, 0, none⟩)), (9, .int .i64 (g9 : Int)), (10, .slice G nG dG), (11, .int .i64 (f : Int)), (12, .int .i64 (t : Int)), (13, .int .i64 (i : Int)), (14, .int .i64 (to : Int))]) (fun to w3 => to ≤ bs1.length ∧ f ≤ to ∧ (i < bs2.length ∨ to = bs1.length) ∧ ChunkAt w3 k m r q (bs1.take f) lo B d (hld q bs1 f) ∧ Own w3 w.heap.size 25 1 G nG dG (sl.map slv) ∧ Owns w3 w.heap.size sl (pieces bs1 0 (icuts q bs1 f).1) ∧ Blk w3 b1 24 q.cut.cells ∧ Ext w w3) ?_ ?_
          · skip
            refine w_seq ?_
            refine w_region ?_
            refine sv rfl rfl rfl (ex_move rfl rfl) ?_
            refine sv rfl rfl rfl (ex_move rfl rfl) ?_
            refine sv rfl rfl rfl (ex_len Tryd.underlying25 rfl rfl) ?_
            refine sv rfl rfl rfl (ex_cmp rfl rfl rfl rfl) ?_
            refine w_nil (qe_next ?_)
            refine w_if rfl (fun hi3 => ?_) (fun hi3 => ?_)
            · skip
              replace hi3 : i < bs2.length := by first | omega | (simp only at hi3; omega)
              obtain ⟨bb, oo, rfl, hc2⟩ := (hr2.ext K0).byte hi3
              have hu8 : (bs2.getD i 0).toNat < 256 := UInt8.toNat_lt _
              refine w_region ?_
              refine sv rfl rfl rfl (ex_move rfl rfl) ?_
              refine sv rfl rfl rfl (ex_move rfl rfl) ?_
              refine sv rfl rfl rfl (ex_move rfl rfl) ?_
              refine sv rfl rfl rfl (ex_index Tryd.underlying25 sz5 i rfl rfl rfl (by first | rfl | omega | (simp only; omega)) (by omega)) ?_
              refine sv rfl rfl rfl (ex_load one5 rfl rfl hc2) ?_
              refine sv rfl rfl rfl (ex_conv Tryd.underlying5 (by simp) Tryd.underlying3 rfl rfl (i64_in (by omega) (by omega))) ?_
              refine sv rfl rfl rfl (ex_add rfl rfl rfl (i64_in (by first | omega | (simp only; omega)) (by first | omega | (simp only; omega)))) ?_
              refine sv rfl rfl rfl (ex_move rfl rfl) ?_
              refine sv rfl rfl rfl (ex_len Tryd.underlying25 rfl rfl) ?_
              refine sv rfl rfl rfl (ex_min (z := ((min (f + (bs2.getD i 0).toNat) bs1.length : Nat) : Int)) rfl rfl rfl (by first | omega | (simp only; omega))) ?_
              refine sv rfl rfl rfl (ex_assign rfl rfl) ?_
              refine w_nil (qe_meet (min (f + (bs2.getD i 0).toNat) bs1.length) ⟨rfl, rfl, rfl, rfl, rfl, rfl, rfl, rfl, rfl, rfl, trivial⟩ ?_)
              exact ⟨by omega, by omega, .inl hi3, hC, hG, hso, hb, K0⟩
            · skip
              refine w_skip (qe_meet (bs1.length) ⟨rfl, rfl, rfl, rfl, rfl, rfl, rfl, rfl, rfl, rfl, trivial⟩ ?_)
              exact ⟨Nat.le_refl _, hf, .inr rfl, hC, hG, hso, hb, K0⟩
          · clear hC hG hso hb K0
            rintro to w3 ⟨hto, hft, hte, hC, hG, hso, hb, K0⟩
            refine w_seq ?_
            refine w_region ?_
            refine sv rfl rfl rfl (ex_move rfl rfl) ?_
            refine sv rfl rfl rfl (ex_move rfl rfl) ?_
            refine sv rfl rfl rfl (ex_move rfl rfl) ?_
            refine sv rfl rfl rfl (ex_move rfl rfl) ?_
            refine sv rfl rfl rfl (ex_slice Tryd.underlying25 sz5 f to rfl rfl (.inr ⟨_, _, _, rfl, rfl, rfl⟩) (.inr ⟨_, _, _, rfl, rfl, rfl⟩) (by omega) (by omega)) ?_
            have hcut := (hr1.ext K0).cut (l := f) (hh := to) (m := c1) (by omega) hto hmc1
            rw [show List.take ((to - f) * 1) (List.drop (f * 1) (bcells bs1)) = bcells ((bs1.drop f).take (to - f)) from by simp [bcells]] at hcut
            have hszP := K0.size
            have hla := icuts_last q bs1 f
            have hhl := hld_length (q := q) hf
            refine st rfl rfl rfl (ex_call call26 rfl rfl (chunkPush_m k m r lo d q (bs1.take f) (hld q bs1 f) B _ (to - f) (c1 - f) lo1 hi1 ((bs1.drop f).take (to - f)) _ (by simp; omega) hC (hT.ext K0) hcut (fun b h1 h2 => ⟨by omega, by omega, by omega, fun o e => by have := (hC.2.2.1.lt e).1; omega⟩) (fun o e => by have := (hC.2.2.1.lt e).1; omega) (by omega) (by simp; omega) (by omega))) ?_
            rintro _ w7 ⟨O, no, dd, sl2, B2, d2, l9, rfl, hno, hC2, hout, hso2, hap, hll, hBB, K9⟩
            have spO := Sep.lo hout hG (Nat.le_refl _)
            replace hG := hG.keepT K9 (fun g cs _ hg => ⟨hg.ne hC.1 (by decide), hg.ne hC.2.1.1 (by decide), (by obtain ⟨cs2, h2⟩ := hC.2.1.roll; exact hg.ne h2 (by decide)), fun o e => hC.2.2.1.ne_blk hg (by decide) _ o e rfl⟩)
            replace hso := Owns.keepS K9 hso (fun s hs g o e => by
              obtain ⟨cs, hg⟩ := hso.blkOf hs e
              exact ⟨hg.ne hC.1 (by decide), hg.ne hC.2.1.1 (by decide), (by obtain ⟨cs2, h2⟩ := hC.2.1.roll; exact hg.ne h2 (by decide)), fun o' e' => by have := hsl s hs g o e; have := (hC.2.2.1.lt e').1; omega⟩)
            replace hb := hb.keep K9 ⟨hb.ne hC.1 (by decide), hb.ne hC.2.1.1 (by decide), (by obtain ⟨cs2, h2⟩ := hC.2.1.roll; exact hb.ne h2 (by decide)), fun o e => hC.2.2.1.ne_blk hb (by decide) _ o e rfl⟩
            replace K0 := K0.trans K9 (fun j hj _ => ⟨by omega, by omega, by omega, fun o e => by have := (hC.2.2.1.lt e).1; omega⟩)
            replace hout := hout.lower hszP
            have hxl : ((bs1.drop f).take (to - f)).length = to - f := by simp; omega
            rw [hxl] at hno hC2 hso2
            obtain ⟨hf1, hf2⟩ := fed_part q bs1 f to hft hto
            rw [hf2, show bs1.take f ++ (bs1.drop f).take (to - f) = bs1.take to from by rw [← List.take_add, show f + (to - f) = to by omega]] at hC2
            obtain ⟨ys, hys⟩ : ∃ ys, ys = (fed q (bs1.take f) (hld q bs1 f) ((bs1.drop f).take (to - f)) (to - f)).1 := ⟨_, rfl⟩
            rw [← hys] at hno hso2 hf1
            subst hno
            have hsl2 := hso2.length
            have hla2 := icuts_last q bs1 to
            have hhl2 := hld_length (q := q) hto
            have hn9 : nG + ys.length = (icuts q bs1 to).1.length := by
              have := congrArg List.length hf1
              rw [List.length_append, pieces_length, pieces_length] at this
              omega
            have hin := (icuts_inc q bs1 to).length
            have htl : ∀ j, (pieces bs1 0 (icuts q bs1 f).1 ++ ys.take j).flatten.length ≤ (icuts q bs1 to).2 := fun j => by
              rw [← flat_length hto, ← hf1, List.flatten_append, List.flatten_append, List.length_append, List.length_append]
              have : (ys.take j).flatten.length ≤ ys.flatten.length := by
                conv => rhs; rw [← List.take_append_drop j ys, List.flatten_append, List.length_append]
                omega
              omega
            clear hC K9
            refine sv rfl rfl rfl (ex_assign rfl rfl) ?_
            refine w_nil (qe_next ?_)
            refine w_seq ?_
            refine w_seq ?_
            refine w_region ?_
            refine sv rfl rfl rfl (ex_assign rfl rfl) ?_
            refine w_nil (qe_next ?_)
            refine w_block ?_
            refine w_loop (ι := Nat × Nat × Option Addr × Nat) (fun v => [(1, .slice A1 bs1.length c1), (2, .slice A2 bs2.length c2), (3, .pointer (some ⟨b1, 0, none⟩)), (7, .pointer (some ⟨k, 0, none⟩)), (9, .int .i64 (g9 : Int)), (10, .slice v.2.2.1 (nG + v.1) v.2.2.2), (11, .int .i64 (f : Int)), (12, .int .i64 (v.2.1 : Int)), (13, .int .i64 (i : Int)), (14, .int .i64 (to : Int)), (15, .slice O ys.length dd), (16, .int .i64 (v.1 : Int))]) (fun v w4 => v.1 ≤ ys.length ∧ v.2.1 = (pieces bs1 0 (icuts q bs1 f).1 ++ ys.take v.1).flatten.length ∧ ChunkAt w4 k m r q (bs1.take to) l9 B2 d2 (hld q bs1 to) ∧ Own w4 w.heap.size 25 1 v.2.2.1 (nG + v.1) v.2.2.2 ((sl ++ sl2.take v.1).map slv) ∧ Owns w4 w.heap.size sl (pieces bs1 0 (icuts q bs1 f).1) ∧ Own w4 w.heap.size 25 1 O ys.length dd (sl2.map slv) ∧ Owns w4 lo sl2 ys ∧ Sep v.2.2.1 O ∧ Blk w4 b1 24 q.cut.cells ∧ Ext w w4) (fun v => ys.length - v.1) ((0, t, G, dG)) ⟨rfl, rfl, rfl, rfl, rfl, rfl, rfl, rfl, rfl, rfl, rfl, rfl, trivial⟩ ?_ ?_
            · exact ⟨Nat.zero_le _, by simp only [List.take_zero, List.append_nil]; rw [flat_length hf]; exact ht, hC2, by simp only [List.take_zero, List.append_nil, Nat.add_zero]; exact hG, hso, hout, hso2, spO.symm, hb, K0⟩
            · clear hC2 hG hso hout hso2 hb K0 spO
              rintro ⟨j, t, G, dG⟩ w4 ⟨hj, ht, hC2, hG, hso, hout, hso2, spG, hb, K0⟩
              simp only at hj ht hG spG
              have htl1 := htl j
              refine w_seq ?_
              refine w_seq ?_
              refine w_region ?_
              refine sv rfl rfl rfl (ex_move rfl rfl) ?_
              refine sv rfl rfl rfl (ex_move rfl rfl) ?_
              refine sv rfl rfl rfl (ex_len Tryd.underlying32 rfl rfl) ?_
              refine sv rfl rfl rfl (ex_cmp rfl rfl rfl rfl) ?_
              refine w_nil (qe_next ?_)
              refine w_if rfl (fun hj2 => ?_) (fun hj2 => ?_)
              · skip
                replace hj2 : j < ys.length := by first | omega | (simp only at hj2; omega)
                obtain ⟨b5, o5, u5, rfl, _, _, hu5, hc5⟩ := hout.rd.at_ hj2
                rw [List.getElem?_map] at hu5
                obtain ⟨s, hs, rfl⟩ := Option.map_eq_some_iff.1 hu5
                obtain ⟨y, hy, hl1, _⟩ := hso2.get hs
                have hyk : ys.take (j + 1) = ys.take j ++ [y] := by rw [List.take_add_one, hy]; rfl
                have hsk : sl2.take (j + 1) = sl2.take j ++ [s] := by rw [List.take_add_one, hs]; rfl
                have htl2 := htl (j + 1)
                have hyl : (pieces bs1 0 (icuts q bs1 f).1 ++ ys.take (j + 1)).flatten.length = t + y.length := by rw [hyk, ht]; simp [List.flatten_append]; omega
                refine w_skip (qe_next ?_)
                refine w_seq ?_
                refine w_block ?_
                refine w_seq ?_
                refine w_region ?_
                refine sv rfl rfl rfl (ex_move rfl rfl) ?_
                refine sv rfl rfl rfl (ex_move rfl rfl) ?_
                refine sv rfl rfl rfl (ex_move rfl rfl) ?_
                refine sv rfl rfl rfl (ex_index Tryd.underlying32 sz25 j rfl rfl rfl (by first | rfl | omega | (simp only; omega)) (by omega)) ?_
                refine sv rfl rfl rfl (ex_load (v := .slice s.1 s.2.1 s.2.2) one25 rfl rfl hc5) ?_
                refine st rfl rfl rfl (ex_buildSlice (cs := [slv s]) rfl rfl (build_bs1 s)) ?_
                rintro _ w8 ⟨g1, rfl, hg1, E7, hb7, hs7⟩
                replace hC2 := hC2.ext E7
                replace hG := hG.ext E7
                replace hso := hso.ext E7
                replace hout := hout.ext E7
                replace hso2 := hso2.ext E7
                replace hb := hb.ext E7
                replace K0 := K0.ext E7
                have hs8 := K0.size
                refine st rfl rfl rfl (ex_append Tryd.underlying32 z25.1 rfl (by decide) rfl rfl rfl hG (Rd.of_blk (size := 1) hb7 rfl) (by simp [slv, Value.oneCell']) (by first | omega | (simp only; omega)) (by first | omega | (simp only; omega)) (by omega)) ?_
                rintro _ w9 ⟨G1, dG1, rfl, hG1, K3, hB1⟩
                have spN := Sep.app spG hout hB1
                replace hout := Sep.keep spG hout K3
                replace hC2 := hC2.keepO hG K3
                replace hso := hso.keepB K3 (fun g cs _ hg o e => hG.ne_blk hg (by decide) g o e rfl)
                replace hso2 := hso2.keepB K3 (fun g cs _ hg o e => hG.ne_blk hg (by decide) g o e rfl)
                replace hb := hb.keep K3 (fun o e => hG.ne_blk hb (by decide) b1 o e rfl)
                replace K0 := K0.trans K3 (fun j hj _ => hG.fresh hj)
                obtain ⟨b6, o6, u6, he6, _, _, hu6, hc6⟩ := hout.rd.at_ hj2
                cases he6
                rw [List.getElem?_map, hs] at hu6
                cases hu6
                refine sv rfl rfl rfl (ex_assign rfl rfl) ?_
                refine w_nil (qe_next ?_)
                refine w_region ?_
                refine sv rfl rfl rfl (ex_move rfl rfl) ?_
                refine sv rfl rfl rfl (ex_move rfl rfl) ?_
                refine sv rfl rfl rfl (ex_move rfl rfl) ?_
                refine sv rfl rfl rfl (ex_index Tryd.underlying32 sz25 j rfl rfl rfl (by first | rfl | omega | (simp only; omega)) (by omega)) ?_
                refine sv rfl rfl rfl (ex_load (v := .slice s.1 s.2.1 s.2.2) one25 rfl rfl hc6) ?_
                refine sv rfl rfl rfl (ex_len Tryd.underlying25 rfl rfl) ?_
                refine sv rfl rfl rfl (ex_add rfl rfl rfl (i64_in (by first | omega | (simp only; omega)) (by first | omega | (simp only; omega)))) ?_
                refine sv rfl rfl rfl (ex_assign rfl rfl) ?_
                refine w_nil (qe_in_normal (qe_next ?_))
                refine w_region ?_
                refine sv rfl rfl rfl (ex_move rfl rfl) ?_
                refine sv rfl rfl rfl (ex_add rfl rfl rfl (i64_in (by omega) (by omega))) ?_
                refine sv rfl rfl rfl (ex_assign rfl rfl) ?_
                refine w_nil (qe_round ((j + 1, t + s.2.1, G1, dG1)) ⟨rfl, rfl, rfl, rfl, rfl, rfl, rfl, rfl, rfl, rfl, rfl, rfl, trivial⟩ ?_ ?_)
                · exact ⟨by simp only; omega, by simp only; rw [hyk, hl1, ht]; simp [List.flatten_append]; omega, hC2, by simp only; rw [hsk, ← List.append_assoc, List.map_append]; exact hG1, hso, hout, hso2, spN, hb, K0⟩
                · simp only; omega
              · skip
                replace hj2 : j = ys.length := by first | omega | (simp only at hj2; omega)
                subst hj2
                rw [List.take_of_length_le (by omega : sl2.length ≤ ys.length)] at hG
                rw [List.take_length, hf1] at ht
                have ht9 : t = (icuts q bs1 to).2 := by rw [ht]; exact flat_length hto
                refine w_exit (qe_then_exit (qe_then_exit (qe_in_exit (qe_next ?_))))
                refine w_seq ?_
                refine w_region ?_
                refine sv rfl rfl rfl (ex_move rfl rfl) ?_
                refine sv rfl rfl rfl (ex_assign rfl rfl) ?_
                refine w_nil (qe_next ?_)
                refine w_seq ?_
                refine w_draw mixed (fun w10 _ Ew10 => ?_)
                replace hC2 := hC2.ext Ew10
                replace hG := hG.ext Ew10
                replace hso := hso.ext Ew10
                replace hout := hout.ext Ew10
                replace hso2 := hso2.ext Ew10
                replace hb := hb.ext Ew10
                replace K0 := K0.ext Ew10
                refine wd_free 5 _ rfl rfl rfl rfl ?_
                refine fd [] rfl rfl rfl rfl rfl rfl rfl (fun w' E => ex_move rfl rfl) ?_
                refine fe [0] rfl rfl rfl rfl rfl rfl rfl (fun w' E => ex_call call31 rfl rfl ((held_c k m r l9 d2 q _ _ B2 _ (hC2.ext E)).ext)) ?_
                refine fd [] rfl rfl rfl rfl rfl rfl rfl (fun w' E => ex_move rfl rfl) ?_
                refine fd [] rfl rfl rfl rfl rfl rfl rfl (fun w' E => ex_move rfl rfl) ?_
                refine fd [2, 3] rfl rfl rfl rfl rfl rfl rfl (fun w' E => ex_sub rfl rfl rfl (i64_in (by first | omega | (simp only; omega)) (by first | omega | (simp only; omega)))) ?_
                refine .nil (fun w11 Ew11 _ => ?_)
                replace hC2 := hC2.ext Ew11
                replace hG := hG.ext Ew11
                replace hso := hso.ext Ew11
                replace hout := hout.ext Ew11
                replace hso2 := hso2.ext Ew11
                replace hb := hb.ext Ew11
                replace K0 := K0.ext Ew11
                refine wd_v rfl rfl (by kernel_rfl) rfl rfl rfl (ex_cmp rfl rfl rfl (congrArg some (decide_eq_false (by first | omega | (simp only; omega))))) ?_
                refine wd_v rfl rfl (by kernel_rfl) rfl rfl rfl (ex_move rfl rfl) ?_
                refine wd_free 4 _ rfl rfl rfl rfl ?_
                first | refine fsk [] rfl rfl rfl rfl rfl rfl rfl ?_ | refine fd [] rfl rfl rfl rfl rfl rfl rfl (fun w' E => ex_move rfl rfl) ?_
                first | refine fsk [7] rfl rfl rfl rfl rfl rfl rfl ?_ | refine fe [7] rfl rfl rfl rfl rfl rfl rfl (fun w' E => ex_call call31 rfl rfl ((held_c k m r l9 d2 q _ _ B2 _ (hC2.ext E)).ext)) ?_
                first | refine fsk [] rfl rfl rfl rfl rfl rfl rfl ?_ | refine fd [] rfl rfl rfl rfl rfl rfl rfl (fun w' E => ex_fieldAddr fld24_1 rfl rfl) ?_
                first | refine fsk [9] rfl rfl rfl rfl rfl rfl rfl ?_ | refine fd [9] rfl rfl rfl rfl rfl rfl rfl (fun w' E => ex_load one3 rfl rfl (E.cell trivial (hb.cell rfl))) ?_
                refine .nil (fun w12 Ew12 _ => ?_)
                replace hC2 := hC2.ext Ew12
                replace hG := hG.ext Ew12
                replace hso := hso.ext Ew12
                replace hout := hout.ext Ew12
                replace hso2 := hso2.ext Ew12
                replace hb := hb.ext Ew12
                replace K0 := K0.ext Ew12
                first | refine wd_skip rfl rfl (by kernel_rfl) rfl rfl rfl ?_ | refine wd_v rfl rfl (by kernel_rfl) rfl rfl rfl (ex_cmp rfl rfl rfl (congrArg some (decide_eq_false (by first | omega | (simp only; omega))))) ?_
                first | refine wd_v rfl rfl (by kernel_rfl) rfl rfl rfl (ex_pick_t rfl rfl rfl) ?_ | refine wd_v rfl rfl (by kernel_rfl) rfl rfl rfl (ex_pick_f rfl rfl rfl) ?_
                refine wd_nil (by decide) rfl ?_
                refine qe_next ?_
                refine w_cond_f rfl ?_
                refine w_skip (qe_in_normal (qe_next ?_))
                refine w_region ?_
                refine sv rfl rfl rfl (ex_move rfl rfl) ?_
                refine sv rfl rfl rfl (ex_add rfl rfl rfl (i64_in (by omega) (by omega))) ?_
                refine sv rfl rfl rfl (ex_assign rfl rfl) ?_
                refine w_nil (qe_round ((i + 1, to, l9, B2, d2, nG + ys.length, G, dG, t)) ⟨rfl, rfl, rfl, rfl, rfl, rfl, rfl, rfl, rfl, trivial⟩ ?_ ?_)
                · exact ⟨by simp only; omega, hto, (fun hh => by simp only at hh ⊢; omega), hn9, ht9, hC2, by simp only; omega, ⟨sl ++ sl2, by simp only; exact hG, by simp only; rw [← hf1]; exact Owns.app (hso2.lower hlo) hso, fun s hs g o e => by
                    rcases List.mem_append.1 hs with hs | hs
                    · have := hsl s hs g o e; simp only; omega
                    · exact hap s hs g o e⟩, hb, K0⟩
                · simp only; omega
        · skip
          replace hi2 : i = bs2.length + 1 := by first | omega | (simp only at hi2; omega)
          obtain rfl := hfe (by omega)
          refine w_exit (qe_then_exit (qe_then_exit (qe_in_exit (qe_next ?_))))
          refine w_seq ?_
          refine w_region ?_
          refine sv rfl rfl rfl (ex_move rfl rfl) ?_
          refine sv rfl rfl rfl (ex_move rfl rfl) ?_
          have hszQ := K0.size
          have hhl := hld_length (q := q) (D := bs1) (Nat.le_refl _)
          refine st rfl rfl rfl (ex_call call32 rfl rfl (close_c k m r lo d q _ (hld q bs1 bs1.length) B _ hC (hT.ext K0).pos (by omega))) ?_
          rintro _ w13 ⟨Oc, nc, dc, slc, mB, rB, rfl, hslc, hnc, hC2, hOc, hmB, hrB, K7⟩
          have spc := (Sep.lo hOc hG (Nat.le_refl _)).symm
          have hhd := hC.2.2.1.keepT K7 (fun g cs _ hg => hg.ne hC.1 (by decide))
          replace hhd := hhd.lower hlo
          replace hG := hG.keepT K7 (fun g cs _ hg => hg.ne hC.1 (by decide))
          replace hso := hso.keepB K7 (fun g cs _ hg => hg.ne hC.1 (by decide))
          replace hb := hb.keep K7 (hb.ne hC.1 (by decide))
          replace K0 := K0.trans K7 (fun j hj _ => by omega)
          have hszR := K0.size
          have hlc : slc.length ≤ 1 := by rw [hslc]; split <;> simp
          have hin := (icuts_inc q bs1 bs1.length).length
          subst hnc
          refine st rfl rfl rfl (ex_append Tryd.underlying32 z25.1 rfl (by decide) rfl rfl rfl hG hOc.rd (by intro u hu; obtain ⟨s, _, rfl⟩ := List.mem_map.1 hu; rfl) (by first | omega | (simp only; omega)) (by first | omega | (simp only; omega)) (by omega)) ?_
          rintro _ w14 ⟨G1, dG1, rfl, hG1, K8, hGB⟩
          replace hC2 := hC2.keepO hG K8
          replace hso := hso.keepB K8 (fun g cs _ hg o e => hG.ne_blk hg (by decide) g o e rfl)
          replace hhd := hhd.keepT K8 (fun g cs _ hg o e => hG.ne_blk hg (by decide) g o e rfl)
          replace hb := hb.keep K8 (fun o e => hG.ne_blk hb (by decide) b1 o e rfl)
          replace K0 := K0.trans K8 (fun j hj _ => hG.fresh hj)
          rw [← List.map_append] at hG1
          refine sv rfl rfl rfl (ex_assign rfl rfl) ?_
          refine w_nil (qe_next ?_)
          refine w_seq ?_
          refine w_region ?_
          refine sv rfl rfl rfl (ex_load_agg (cs := q.cut.cells) agg24 rfl rfl (by intro j u hu; rw [Nat.zero_add]; exact hb.cell hu)) ?_
          refine sv rfl rfl rfl (ex_move rfl rfl) ?_
          have hszS := K0.size
          refine st rfl rfl rfl (ex_call call22 rfl rfl (split_c q A1 c1 lo1 hi1 bs1 _ (hr1.ext K0) (by omega) (hT.ext K0) (by omega) hmc1)) ?_
          rintro _ w15 ⟨Wt, dW, slw, rfl, hw, hwo, E8⟩
          replace K0 := K0.ext E8
          replace hC2 := hC2.ext E8
          replace hso := hso.ext E8
          replace hb := hb.ext E8
          replace hhd := hhd.ext E8
          replace hG1 := hG1.ext E8
          refine sv rfl rfl rfl (ex_move rfl rfl) ?_
          refine sv rfl rfl rfl (ex_extract rfl rfl rfl) ?_
          refine sv rfl rfl rfl (ex_extract rfl rfl rfl) ?_
          refine sv rfl rfl rfl (ex_assign rfl rfl) ?_
          refine sv rfl rfl rfl (ex_assign rfl rfl) ?_
          refine w_nil (qe_next ?_)
          refine w_seq ?_
          refine w_region ?_
          refine sv rfl rfl rfl (ex_move rfl rfl) ?_
          refine sv rfl rfl rfl (ex_cmp rfl rfl rfl (congrArg some (decide_eq_false (not_not_intro rfl)))) ?_
          refine sv rfl rfl rfl (ex_move rfl rfl) ?_
          first | refine sk rfl rfl rfl ?_ | refine sv rfl rfl rfl (ex_move rfl rfl) ?_
          first | refine sk rfl rfl rfl ?_ | refine sv rfl rfl rfl (ex_move rfl rfl) ?_
          have hoa := Owns.app (owns_held hhd) hso
          rw [← held_end, ← hslc] at hoa
          have hol := hoa.length
          have hwl := hwo.length
          have hpl := pieces_length bs1 (ecuts q bs1 bs1.length).1 0
          have hei := (ecuts_inc q bs1 bs1.length).length
          have hsl3 := hso.length
          rw [pieces_length] at hsl3
          rw [List.length_append] at hol
          refine st rfl rfl rfl (ex_call call28 rfl rfl (same_c G1 Wt _ _ dG1 dW _ _ _ _ (sl ++ slc) slw (pieces bs1 0 (ecuts q bs1 bs1.length).1) _ (by rw [List.length_append]; first | omega | (simp only; omega)) (by omega) (by omega) hG1.rd hw.rd hoa.rds hwo.rds)) ?_
          rintro _ w16 ⟨rfl, E9⟩
          replace K0 := K0.ext E9
          replace hC2 := hC2.ext E9
          replace hso := hso.ext E9
          replace hb := hb.ext E9
          replace hhd := hhd.ext E9
          replace hG1 := hG1.ext E9
          replace hw := hw.ext E9
          replace hwo := hwo.ext E9
          first | refine sk rfl rfl rfl ?_ | refine sv rfl rfl rfl (ex_not rfl rfl) ?_
          first | refine sv rfl rfl rfl (ex_pick_t rfl rfl rfl) ?_ | refine sv rfl rfl rfl (ex_pick_f rfl rfl rfl) ?_
          refine sv rfl rfl rfl (ex_move rfl rfl) ?_
          first | refine sk rfl rfl rfl ?_ | refine sv rfl rfl rfl (ex_move rfl rfl) ?_
          refine st rfl rfl rfl (ex_call call31 rfl rfl (held_c k mB rB _ 0 q [] [] none _ hC2)) ?_
          rintro _ w17 ⟨rfl, hwe⟩
          obtain rfl := hwe.symm
          first | refine sk rfl rfl rfl ?_ | refine sv rfl rfl rfl (ex_cmp rfl rfl rfl (congrArg some (decide_eq_false (not_not_intro rfl)))) ?_
          first | refine sv rfl rfl rfl (ex_pick_t rfl rfl rfl) ?_ | refine sv rfl rfl rfl (ex_pick_f rfl rfl rfl) ?_
          refine sv rfl rfl rfl (ex_move rfl rfl) ?_
          first | refine sk rfl rfl rfl ?_ | refine sv rfl rfl rfl (ex_move rfl rfl) ?_
          have hszT := K0.size
          refine st rfl rfl rfl (ex_call call32 rfl rfl (close_c k mB rB _ 0 q [] [] none _ hC2 (hT.ext K0).pos (by simp))) ?_
          rintro _ w18 ⟨Od, nd, dd2, sld, mC, rC, rfl, hsld, hnd, hC3, hOd, hmC, hrC, K6⟩
          replace hb := hb.keep K6 (hb.ne hC2.1 (by decide))
          replace K0 := K0.trans K6 (fun j hj _ => by omega)
          rw [if_pos rfl] at hsld
          subst hsld
          subst hnd
          obtain ⟨l3, hl3, hl4⟩ := K0.n
          rw [← hl3] at hC3
          first | refine sk rfl rfl rfl ?_ | refine sv rfl rfl rfl (ex_len Tryd.underlying32 rfl rfl) ?_
          first | refine sk rfl rfl rfl ?_ | refine sv rfl rfl rfl (ex_cmp rfl rfl rfl (congrArg some (decide_eq_false (not_not_intro rfl)))) ?_
          first | refine sv rfl rfl rfl (ex_pick_t rfl rfl rfl) ?_ | refine sv rfl rfl rfl (ex_pick_f rfl rfl rfl) ?_
          refine w_nil (qe_next ?_)
          refine w_cond_f rfl ?_
          refine w_skip (qe_in_normal (qe_next ?_))
          refine w_region ?_
          refine sv rfl rfl rfl (ex_move rfl rfl) ?_
          refine sv rfl rfl rfl (ex_add rfl rfl rfl (i64_in (by omega) (by omega))) ?_
          refine sv rfl rfl rfl (ex_assign rfl rfl) ?_
          refine w_nil (qe_round ((g9 + 1, mC, rC, l3)) ⟨rfl, rfl, rfl, rfl, rfl, trivial⟩ ?_ ?_)
          · exact ⟨by simp only; omega, hC3, by simp only; omega, by simp only; omega, hl4, hb, K0⟩
          · simp only; omega
    · skip
      refine w_exit (qe_then_exit (qe_then_exit (qe_in_exit (qe_next ?_))))
      refine w_seq ?_
      refine w_region ?_
      refine st rfl rfl rfl (ex_call call16 rfl rfl (awake16_c _ (hT.ext K0))) ?_
      rintro _ w19 ⟨rfl, E9⟩
      replace hC := hC.ext E9
      replace hb := hb.ext E9
      replace K0 := K0.ext E9
      refine sv rfl rfl rfl (ex_assign rfl rfl) ?_
      refine w_nil (qe_next ?_)
      refine w_ret (qe_ret1 rfl rfl ?_)
      exact ⟨rfl, K0⟩
theorem streams_law (c0 : Cut) (A1 : Option Addr) (c1 lo1 hi1 : Nat) (bs1 : List UInt8) (A2 : Option Addr) (c2 lo2 hi2 : Nat) (bs2 : List UInt8) (w : World) (hr1 : Rd w lo1 hi1 1 A1 bs1.length (bcells bs1)) (hhi1 : hi1 ≤ w.heap.size) (hmc1 : bs1.length ≤ c1) (hr2 : Rd w lo2 hi2 1 A2 bs2.length (bcells bs2)) (hhi2 : hi2 ≤ w.heap.size) (hT : TabAt w) : Ret Tryd.prog 12 [c0.val, .slice A1 bs1.length c1, .slice A2 bs2.length c2] w fun v w' => v = .bool true ∧ Ext w w' := by
  by_cases h : c0.ok
  · by_cases h3 : bs1.length ≤ 300
    · by_cases h4 : bs2.length ≤ 40
      · obtain ⟨q, rfl⟩ := h.vut
        exact streams_good q A1 c1 lo1 hi1 bs1 A2 c2 lo2 hi2 bs2 w hr1 hhi1 hmc1 hr2 hhi2 h3 h4 hT
      · exact streams_bad3 c0 A1 c1 lo1 hi1 bs1 A2 c2 lo2 hi2 bs2 w hr1 hhi1 hmc1 hr2 hhi2 h h3 h4 hT
    · exact streams_bad2 c0 A1 c1 lo1 hi1 bs1 A2 c2 lo2 hi2 bs2 w hr1 hhi1 hmc1 hr2 hhi2 h h3 hT
  · exact streams_bad1 c0 A1 c1 lo1 hi1 bs1 A2 c2 lo2 hi2 bs2 w hr1 hhi1 hmc1 hr2 hhi2 h hT
end Go.Proofs.YtfgpcmphcnhbiaaDoor

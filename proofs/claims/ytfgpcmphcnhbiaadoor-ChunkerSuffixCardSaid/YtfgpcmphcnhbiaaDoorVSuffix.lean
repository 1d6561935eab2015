/- The law ChunkerSuffix, walked. -/
import Derived.Test.YtfgpcmphcnhbiaaDoorP
namespace Go.Proofs.YtfgpcmphcnhbiaaDoor
open Go Go.RowKit
set_option linter.unusedVariables false
set_option linter.unusedSimpArgs false
/-- kinkeep/kinkeeplaw16.ChunkerSuffix -/
theorem suffix_bad1 (c0 : Cut) (A1 : Option Addr) (c1 lo1 hi1 : Nat) (bs1 : List UInt8) (A2 : Option Addr) (c2 lo2 hi2 : Nat) (bs2 : List UInt8) (A3 : Option Addr) (c3 lo3 hi3 : Nat) (bs3 : List UInt8) (w : World) (hr1 : Rd w lo1 hi1 1 A1 bs1.length (bcells bs1)) (hhi1 : hi1 ≤ w.heap.size) (hr2 : Rd w lo2 hi2 1 A2 bs2.length (bcells bs2)) (hhi2 : hi2 ≤ w.heap.size) (hr3 : Rd w lo3 hi3 1 A3 bs3.length (bcells bs3)) (hhi3 : hi3 ≤ w.heap.size) (h : ¬ c0.ok) (hT : TabAt w) :
    Ret Tryd.prog 10 [c0.val, .slice A1 bs1.length c1, .slice A2 bs2.length c2, .slice A3 bs3.length c3] w fun v w' => v = .bool true ∧ Ext w w' := by
  have K0 : Ext w w := Keep.refl _ _
  refine ret_of Tryd.func10 rfl rfl ?_
  refine w_seq ?_
  refine w_region ?_
  refine st rfl rfl rfl (ex_box (cs := c0.cells) rfl rfl rfl) ?_
  rintro _ w1 ⟨b1, rfl, hb0, E0, hb, hs0⟩
  replace K0 := K0.ext E0
  refine sv rfl rfl rfl (ex_assign rfl rfl) ?_
  refine w_nil (qe_next ?_)
  refine w_seq ?_
  refine w_seq ?_
  refine w_region ?_
  refine sv rfl rfl rfl (ex_load_agg (cs := c0.cells) agg24 rfl rfl (by intro j u hu; rw [Nat.zero_add]; exact hb.cell hu)) ?_
  refine st rfl rfl rfl (ex_call call19 rfl rfl ((refValid_c c0 _).mono (R' := fun v w' => v = .bool false ∧ Ext _ w') fun v w' h' => ⟨by rw [h'.1, decide_eq_false (h)], h'.2⟩)) ?_
  rintro _ w2 ⟨rfl, E1⟩
  replace K0 := K0.ext E1
  replace hb := hb.ext E1
  refine sv rfl rfl rfl (ex_not rfl rfl) ?_
  refine sv rfl rfl rfl (ex_move rfl rfl) ?_
  first | refine sk rfl rfl rfl ?_ | refine sv rfl rfl rfl (ex_move rfl rfl) ?_
  first | refine sk rfl rfl rfl ?_ | refine sv rfl rfl rfl (ex_move rfl rfl) ?_
  first | refine sk rfl rfl rfl ?_ | refine sv rfl rfl rfl (ex_move rfl rfl) ?_
  refine sk rfl rfl rfl ?_
  refine sk rfl rfl rfl ?_
  refine sk rfl rfl rfl ?_
  first | refine sv rfl rfl rfl (ex_pick_t rfl rfl rfl) ?_ | refine sv rfl rfl rfl (ex_pick_f rfl rfl rfl) ?_
  refine w_nil (qe_next ?_)
  refine w_cond_t rfl ?_
  refine w_seq ?_
  refine w_region ?_
  refine st rfl rfl rfl (ex_call call16 rfl rfl (awake16_c _ (hT.ext K0))) ?_
  rintro _ w3 ⟨rfl, E9⟩
  replace K0 := K0.ext E9
  replace hb := hb.ext E9
  refine sv rfl rfl rfl (ex_assign rfl rfl) ?_
  refine w_nil (qe_next ?_)
  refine w_ret (qe_then_ret (qe_ret1 rfl rfl ?_))
  exact ⟨rfl, K0⟩
/-- kinkeep/kinkeeplaw16.ChunkerSuffix -/
theorem suffix_bad2 (c0 : Cut) (A1 : Option Addr) (c1 lo1 hi1 : Nat) (bs1 : List UInt8) (A2 : Option Addr) (c2 lo2 hi2 : Nat) (bs2 : List UInt8) (A3 : Option Addr) (c3 lo3 hi3 : Nat) (bs3 : List UInt8) (w : World) (hr1 : Rd w lo1 hi1 1 A1 bs1.length (bcells bs1)) (hhi1 : hi1 ≤ w.heap.size) (hr2 : Rd w lo2 hi2 1 A2 bs2.length (bcells bs2)) (hhi2 : hi2 ≤ w.heap.size) (hr3 : Rd w lo3 hi3 1 A3 bs3.length (bcells bs3)) (hhi3 : hi3 ≤ w.heap.size) (h : c0.ok) (h3 : ¬ (bs1.length ≤ 300 ∧ bs2.length ≤ 300 ∧ bs3.length ≤ 300)) (hT : TabAt w) :
    Ret Tryd.prog 10 [c0.val, .slice A1 bs1.length c1, .slice A2 bs2.length c2, .slice A3 bs3.length c3] w fun v w' => v = .bool true ∧ Ext w w' := by
  have K0 : Ext w w := Keep.refl _ _
  refine ret_of Tryd.func10 rfl rfl ?_
  refine w_seq ?_
  refine w_region ?_
  refine st rfl rfl rfl (ex_box (cs := c0.cells) rfl rfl rfl) ?_
  rintro _ w1 ⟨b1, rfl, hb0, E0, hb, hs0⟩
  replace K0 := K0.ext E0
  refine sv rfl rfl rfl (ex_assign rfl rfl) ?_
  refine w_nil (qe_next ?_)
  refine w_seq ?_
  refine w_seq ?_
  refine w_region ?_
  refine sv rfl rfl rfl (ex_load_agg (cs := c0.cells) agg24 rfl rfl (by intro j u hu; rw [Nat.zero_add]; exact hb.cell hu)) ?_
  refine st rfl rfl rfl (ex_call call19 rfl rfl ((refValid_c c0 _).mono (R' := fun v w' => v = .bool true ∧ Ext _ w') fun v w' h' => ⟨by rw [h'.1, decide_eq_true (h)], h'.2⟩)) ?_
  rintro _ w2 ⟨rfl, E1⟩
  replace K0 := K0.ext E1
  replace hb := hb.ext E1
  refine sv rfl rfl rfl (ex_not rfl rfl) ?_
  refine sv rfl rfl rfl (ex_move rfl rfl) ?_
  first | refine sk rfl rfl rfl ?_ | refine sv rfl rfl rfl (ex_move rfl rfl) ?_
  first | refine sk rfl rfl rfl ?_ | refine sv rfl rfl rfl (ex_move rfl rfl) ?_
  first | refine sk rfl rfl rfl ?_ | refine sv rfl rfl rfl (ex_move rfl rfl) ?_
  refine st rfl rfl rfl (ex_buildSlice (cs := [slv (A1, bs1.length, c1), slv (A2, bs2.length, c2), slv (A3, bs3.length, c3)]) rfl rfl (build_bs3 (A1, bs1.length, c1) (A2, bs2.length, c2) (A3, bs3.length, c3))) ?_
  rintro _ w3 ⟨g, rfl, hg0, E3, hb7, hs7⟩
  replace K0 := K0.ext E3
  replace hb := hb.ext E3
  refine st rfl rfl rfl (ex_call call15 rfl rfl ((few_c (some ⟨g, 0, none⟩) 3 3 _ _ [(A1, bs1.length, c1), (A2, bs2.length, c2), (A3, bs3.length, c3)] _ rfl (by decide) (Rd.of_blk (size := 1) hb7 rfl)).mono (R' := fun v w' => v = .bool false ∧ w' = _) fun v w' h' => ⟨by rw [h'.1, decide_eq_false (fun hh => h3 ⟨hh (A1, bs1.length, c1) (by simp), hh (A2, bs2.length, c2) (by simp), hh (A3, bs3.length, c3) (by simp)⟩)], h'.2⟩)) ?_
  rintro _ w4 ⟨rfl, hwe⟩
  obtain rfl := hwe.symm
  first | refine sk rfl rfl rfl ?_ | refine sv rfl rfl rfl (ex_not rfl rfl) ?_
  first | refine sv rfl rfl rfl (ex_pick_t rfl rfl rfl) ?_ | refine sv rfl rfl rfl (ex_pick_f rfl rfl rfl) ?_
  refine w_nil (qe_next ?_)
  refine w_cond_t rfl ?_
  refine w_seq ?_
  refine w_region ?_
  refine st rfl rfl rfl (ex_call call16 rfl rfl (awake16_c _ (hT.ext K0))) ?_
  rintro _ w5 ⟨rfl, E9⟩
  replace K0 := K0.ext E9
  replace hb := hb.ext E9
  refine sv rfl rfl rfl (ex_assign rfl rfl) ?_
  refine w_nil (qe_next ?_)
  refine w_ret (qe_then_ret (qe_ret1 rfl rfl ?_))
  exact ⟨rfl, K0⟩
/-- kinkeep/kinkeeplaw16.ChunkerSuffix -/
theorem suffix_good (q : Vut) (A1 : Option Addr) (c1 lo1 hi1 : Nat) (bs1 : List UInt8) (A2 : Option Addr) (c2 lo2 hi2 : Nat) (bs2 : List UInt8) (A3 : Option Addr) (c3 lo3 hi3 : Nat) (bs3 : List UInt8) (w : World) (hr1 : Rd w lo1 hi1 1 A1 bs1.length (bcells bs1)) (hhi1 : hi1 ≤ w.heap.size) (hr2 : Rd w lo2 hi2 1 A2 bs2.length (bcells bs2)) (hhi2 : hi2 ≤ w.heap.size) (hr3 : Rd w lo3 hi3 1 A3 bs3.length (bcells bs3)) (hhi3 : hi3 ≤ w.heap.size) (h3 : bs1.length ≤ 300 ∧ bs2.length ≤ 300 ∧ bs3.length ≤ 300) (hT : TabAt w) :
    Ret Tryd.prog 10 [q.cut.val, .slice A1 bs1.length c1, .slice A2 bs2.length c2, .slice A3 bs3.length c3] w fun v w' => v = .bool true ∧ Ext w w' := by
  have K0 : Ext w w := Keep.refl _ _
  obtain ⟨h31, h32, h33⟩ := h3
  have hq0 : q.cut.mn = (q.mn : Int) := rfl
  have hq1 : q.cut.mx = (q.mx : Int) := rfl
  have hq2 : q.cut.wi = (q.wi : Int) := rfl
  have hq3 : q.cut.bi = (q.bi : Int) := rfl
  have hv1 := q.h1
  have hv2 := q.h2
  have hv3 := q.h3
  have hv4 := q.h4
  have hv5 := q.h5
  have hv6 := q.h6
  refine ret_of Tryd.func10 rfl rfl ?_
  refine w_seq ?_
  refine w_region ?_
  refine st rfl rfl rfl (ex_box (cs := q.cut.cells) rfl rfl rfl) ?_
  rintro _ w1 ⟨b1, rfl, hb0, E0, hb, hs0⟩
  replace K0 := K0.ext E0
  refine sv rfl rfl rfl (ex_assign rfl rfl) ?_
  refine w_nil (qe_next ?_)
  refine w_seq ?_
  refine w_seq ?_
  refine w_region ?_
  refine sv rfl rfl rfl (ex_load_agg (cs := q.cut.cells) agg24 rfl rfl (by intro j u hu; rw [Nat.zero_add]; exact hb.cell hu)) ?_
  refine st rfl rfl rfl (ex_call call19 rfl rfl ((refValid_c q.cut _).mono (R' := fun v w' => v = .bool true ∧ Ext _ w') fun v w' h' => ⟨by rw [h'.1, decide_eq_true (q.ok)], h'.2⟩)) ?_
  rintro _ w2 ⟨rfl, E1⟩
  replace K0 := K0.ext E1
  replace hb := hb.ext E1
  refine sv rfl rfl rfl (ex_not rfl rfl) ?_
  refine sv rfl rfl rfl (ex_move rfl rfl) ?_
  first | refine sk rfl rfl rfl ?_ | refine sv rfl rfl rfl (ex_move rfl rfl) ?_
  first | refine sk rfl rfl rfl ?_ | refine sv rfl rfl rfl (ex_move rfl rfl) ?_
  first | refine sk rfl rfl rfl ?_ | refine sv rfl rfl rfl (ex_move rfl rfl) ?_
  refine st rfl rfl rfl (ex_buildSlice (cs := [slv (A1, bs1.length, c1), slv (A2, bs2.length, c2), slv (A3, bs3.length, c3)]) rfl rfl (build_bs3 (A1, bs1.length, c1) (A2, bs2.length, c2) (A3, bs3.length, c3))) ?_
  rintro _ w3 ⟨g, rfl, hg0, E3, hb7, hs7⟩
  replace K0 := K0.ext E3
  replace hb := hb.ext E3
  refine st rfl rfl rfl (ex_call call15 rfl rfl ((few_c (some ⟨g, 0, none⟩) 3 3 _ _ [(A1, bs1.length, c1), (A2, bs2.length, c2), (A3, bs3.length, c3)] _ rfl (by decide) (Rd.of_blk (size := 1) hb7 rfl)).mono (R' := fun v w' => v = .bool true ∧ w' = _) fun v w' h' => ⟨by rw [h'.1, decide_eq_true (by intro x hx; simp at hx; rcases hx with rfl | rfl | rfl <;> simp only <;> omega)], h'.2⟩)) ?_
  rintro _ w4 ⟨rfl, hwe⟩
  obtain rfl := hwe.symm
  first | refine sk rfl rfl rfl ?_ | refine sv rfl rfl rfl (ex_not rfl rfl) ?_
  first | refine sv rfl rfl rfl (ex_pick_t rfl rfl rfl) ?_ | refine sv rfl rfl rfl (ex_pick_f rfl rfl rfl) ?_
  refine w_nil (qe_next ?_)
  refine w_cond_f rfl ?_
  refine w_skip (qe_next ?_)
  refine w_seq ?_
  refine w_region ?_
  have hsz0 := K0.size
  refine st rfl rfl rfl (ex_buildSlice (cs := []) rfl rfl build_none) ?_
  rintro _ w5 ⟨g1, rfl, hg1, E5, hb5, hs5⟩
  replace K0 := K0.ext E5
  replace hb := hb.ext E5
  refine sv rfl rfl rfl (ex_move rfl rfl) ?_
  have hsz1 := K0.size
  have hx0 := Own.of_blk (lo := w.heap.size) (n := 0) (c := 0) (size := 1) hb5 (by omega) (by omega) (by decide) (by simp)
  refine st rfl rfl rfl (ex_append Tryd.underlying25 z5.1 rfl (by decide) rfl rfl rfl hx0 (hr1.ext K0) (bcells_one _) (by first | omega | (simp only; omega)) (by first | omega | (simp only; omega)) (by omega)) ?_
  rintro _ w6 ⟨X1, dX1, rfl, hx1, KA, hXA⟩
  replace K0 := K0.trans KA (fun j hj _ => hx0.fresh hj)
  replace hb := hb.keep KA (fun o e => hx0.ne_blk hb (by decide) b1 o e rfl)
  have hsz2 := K0.size
  refine sv rfl rfl rfl (ex_move rfl rfl) ?_
  refine st rfl rfl rfl (ex_append Tryd.underlying25 z5.1 rfl (by decide) rfl rfl rfl hx1 (hr3.ext K0) (bcells_one _) (by first | omega | (simp only; omega)) (by first | omega | (simp only; omega)) (by omega)) ?_
  rintro _ w7 ⟨X, dX, rfl, hx, KB, hXB⟩
  replace K0 := K0.trans KB (fun j hj _ => hx1.fresh hj)
  replace hb := hb.keep KB (fun o e => hx1.ne_blk hb (by decide) b1 o e rfl)
  have hsz3 := K0.size
  rw [show List.take (0 * 1) ([] : List Value) ++ bcells bs1 ++ bcells bs3 = bcells (bs1 ++ bs3) from by simp [bcells]] at hx
  have sp0 := Sep.new hx (Nat.le_refl _)
  refine st rfl rfl rfl (ex_buildSlice (cs := []) rfl rfl build_none) ?_
  rintro _ w8 ⟨g2, rfl, hg2, E6, hb6, hs6⟩
  replace K0 := K0.ext E6
  replace hb := hb.ext E6
  rw [← hg2] at sp0
  have hsz4 := K0.size
  replace hx := hx.ext E6
  have hy0 := Own.of_blk (lo := w.heap.size) (n := 0) (c := 0) (size := 1) hb6 (by omega) (by omega) (by decide) (by simp)
  refine sv rfl rfl rfl (ex_move rfl rfl) ?_
  refine st rfl rfl rfl (ex_append Tryd.underlying25 z5.1 rfl (by decide) rfl rfl rfl hy0 (hr2.ext K0) (bcells_one _) (by first | omega | (simp only; omega)) (by first | omega | (simp only; omega)) (by omega)) ?_
  rintro _ w9 ⟨Y1, dY1, rfl, hy1, KC, hYA⟩
  have sp1 := Sep.app sp0 hx hYA
  replace hx := Sep.keep sp0 hx KC
  replace K0 := K0.trans KC (fun j hj _ => hy0.fresh hj)
  replace hb := hb.keep KC (fun o e => hy0.ne_blk hb (by decide) b1 o e rfl)
  have hsz5 := K0.size
  refine sv rfl rfl rfl (ex_move rfl rfl) ?_
  refine st rfl rfl rfl (ex_append Tryd.underlying25 z5.1 rfl (by decide) rfl rfl rfl hy1 (hr3.ext K0) (bcells_one _) (by first | omega | (simp only; omega)) (by first | omega | (simp only; omega)) (by omega)) ?_
  rintro _ w10 ⟨Y, dY, rfl, hy, KD, hYB⟩
  replace hx := Sep.keep sp1 hx KD
  replace K0 := K0.trans KD (fun j hj _ => hy1.fresh hj)
  replace hb := hb.keep KD (fun o e => hy1.ne_blk hb (by decide) b1 o e rfl)
  have hsz6 := K0.size
  rw [show List.take (0 * 1) ([] : List Value) ++ bcells bs2 ++ bcells bs3 = bcells (bs2 ++ bs3) from by simp [bcells]] at hy
  refine sv rfl rfl rfl (ex_assign rfl rfl) ?_
  refine sv rfl rfl rfl (ex_assign rfl rfl) ?_
  refine w_nil (qe_next ?_)
  refine w_seq ?_
  refine w_region ?_
  refine sv rfl rfl rfl (ex_load_agg (cs := q.cut.cells) agg24 rfl rfl (by intro j u hu; rw [Nat.zero_add]; exact hb.cell hu)) ?_
  refine sv rfl rfl rfl (ex_move rfl rfl) ?_
  have hsz7 := K0.size
  refine st rfl rfl rfl (ex_call call20 rfl rfl (primary_m q X _ dX _ _ (bs1 ++ bs3) _ (by simp) hx.rd (Nat.le_refl _) (hT.ext K0) (by simp; omega))) ?_
  rintro _ w11 ⟨P, dP, rfl, hp, E8⟩
  replace K0 := K0.ext E8
  replace hb := hb.ext E8
  replace hx := hx.ext E8
  replace hy := hy.ext E8
  replace hp := hp.lower hsz7
  refine sv rfl rfl rfl (ex_move rfl rfl) ?_
  refine sv rfl rfl rfl (ex_extract rfl rfl rfl) ?_
  refine sv rfl rfl rfl (ex_extract rfl rfl rfl) ?_
  refine sv rfl rfl rfl (ex_assign rfl rfl) ?_
  refine sv rfl rfl rfl (ex_assign rfl rfl) ?_
  refine w_nil (qe_next ?_)
  refine w_seq ?_
  refine w_region ?_
  refine sv rfl rfl rfl (ex_load_agg (cs := q.cut.cells) agg24 rfl rfl (by intro j u hu; rw [Nat.zero_add]; exact hb.cell hu)) ?_
  refine sv rfl rfl rfl (ex_move rfl rfl) ?_
  have hsz8 := K0.size
  refine st rfl rfl rfl (ex_call call20 rfl rfl (primary_m q Y _ dY _ _ (bs2 ++ bs3) _ (by simp) hy.rd (Nat.le_refl _) (hT.ext K0) (by simp; omega))) ?_
  rintro _ w12 ⟨Q, dQ, rfl, hq, E9⟩
  replace K0 := K0.ext E9
  replace hb := hb.ext E9
  replace hx := hx.ext E9
  replace hy := hy.ext E9
  replace hp := hp.ext E9
  replace hq := hq.lower hsz8
  refine sv rfl rfl rfl (ex_move rfl rfl) ?_
  refine sv rfl rfl rfl (ex_extract rfl rfl rfl) ?_
  refine sv rfl rfl rfl (ex_extract rfl rfl rfl) ?_
  refine sv rfl rfl rfl (ex_assign rfl rfl) ?_
  refine sv rfl rfl rfl (ex_assign rfl rfl) ?_
  refine w_nil (qe_next ?_)
  refine w_seq ?_
  refine w_seq ?_
  refine w_region ?_
  refine sv rfl rfl rfl (ex_move rfl rfl) ?_
  refine sv rfl rfl rfl (ex_cmp rfl rfl rfl (congrArg some (decide_eq_false (not_not_intro rfl)))) ?_
  refine sv rfl rfl rfl (ex_move rfl rfl) ?_
  first | refine sk rfl rfl rfl ?_ | refine sv rfl rfl rfl (ex_move rfl rfl) ?_
  first | refine sk rfl rfl rfl ?_ | refine sv rfl rfl rfl (ex_cmp rfl rfl rfl (congrArg some (decide_eq_false (not_not_intro rfl)))) ?_
  first | refine sv rfl rfl rfl (ex_pick_t rfl rfl rfl) ?_ | refine sv rfl rfl rfl (ex_pick_f rfl rfl rfl) ?_
  refine w_nil (qe_next ?_)
  refine w_cond_f rfl ?_
  refine w_skip (qe_next ?_)
  refine w_seq ?_
  refine w_region ?_
  refine sv rfl rfl rfl (ex_move rfl rfl) ?_
  refine sv rfl rfl rfl (ex_len Tryd.underlying25 rfl rfl) ?_
  refine sv rfl rfl rfl (ex_fieldAddr fld24_2 rfl rfl) ?_
  refine sv rfl rfl rfl (ex_load one3 rfl rfl (hb.cell rfl)) ?_
  refine sv rfl rfl rfl (ex_sub rfl rfl rfl (i64_in (by omega) (by omega))) ?_
  refine sv rfl rfl rfl (ex_fieldAddr fld24_0 rfl rfl) ?_
  refine sv rfl rfl rfl (ex_load one3 rfl rfl (hb.cell rfl)) ?_
  refine sv rfl rfl rfl (ex_sub rfl rfl rfl (i64_in (by omega) (by omega))) ?_
  refine sv rfl rfl rfl (ex_add rfl rfl rfl (i64_in (by omega) (by omega))) ?_
  refine sv rfl rfl rfl (ex_assign rfl rfl) ?_
  refine w_nil (qe_next ?_)
  refine w_seq ?_
  refine w_region ?_
  have hsz9 := K0.size
  have sp_hp := Sep.new hp (Nat.le_refl _)
  have sp_hq := Sep.new hq (Nat.le_refl _)
  refine st rfl rfl rfl (ex_buildSlice (cs := []) rfl rfl build_ints0) ?_
  rintro _ w13 ⟨gs, rfl, hgs, E5, hb5, hs5⟩
  replace K0 := K0.ext E5
  replace hp := hp.ext E5
  replace hq := hq.ext E5
  rw [← hgs] at sp_hp sp_hq
  have hsz10 := K0.size
  have hs := Own.of_blk (lo := w.heap.size) (n := 0) (c := 0) (size := 1) hb5 (by omega) (by omega) (by decide) (by simp)
  have ts := Sep.new hs (Nat.le_refl _)
  have tq := Sep.new hq (Nat.le_refl _)
  refine st rfl rfl rfl (ex_buildSlice (cs := []) rfl rfl build_ints0) ?_
  rintro _ w14 ⟨gt, rfl, hgt, E6, hb6, hs6⟩
  replace K0 := K0.ext E6
  replace hp := hp.ext E6
  replace hq := hq.ext E6
  rw [← hgt] at ts tq
  have sp_ht := ts.symm
  replace hs := hs.ext E6
  have hsz11 := K0.size
  have ht := Own.of_blk (lo := w.heap.size) (n := 0) (c := 0) (size := 1) hb6 (by omega) (by omega) (by decide) (by simp)
  refine sv rfl rfl rfl (ex_assign rfl rfl) ?_
  refine sv rfl rfl rfl (ex_assign rfl rfl) ?_
  refine w_nil (qe_next ?_)
  refine w_seq ?_
  refine w_seq ?_
  refine w_region ?_
  refine sv rfl rfl rfl (ex_assign rfl rfl) ?_
  refine w_nil (qe_next ?_)
  refine w_block ?_
  refine w_loop (ι := Nat × Nat × Option Addr × Nat) (fun i => [(9, .slice X (0 + bs1.length + bs3.length) dX), (10, .slice Y (0 + bs2.length + bs3.length) dY), (11, .slice P (prims q (bs1 ++ bs3) (bs1 ++ bs3).length).length dP), (13, .slice Q (prims q (bs2 ++ bs3) (bs2 ++ bs3).length).length dQ), (15, .int .i64 ((bs3.length : Int) - q.wi - q.mn + 2)), (16, .slice i.2.2.1 i.2.1 i.2.2.2), (17, .slice (some ⟨gt, 0, none⟩) 0 0), (18, .int .i64 (i.1 : Int))]) (fun i w1 => i.1 ≤ (prims q (bs1 ++ bs3) (bs1 ++ bs3).length).length ∧ i.2.1 = (nearq (bs1 ++ bs3).length ((bs3.length : Int) - q.wi - q.mn + 2) ((prims q (bs1 ++ bs3) (bs1 ++ bs3).length).take i.1)).length ∧ Own w1 w.heap.size 3 1 i.2.2.1 i.2.1 i.2.2.2 ((nearq (bs1 ++ bs3).length ((bs3.length : Int) - q.wi - q.mn + 2) ((prims q (bs1 ++ bs3) (bs1 ++ bs3).length).take i.1)).map fun x : Int => Value.int .i64 x) ∧ Own w1 w.heap.size 3 1 P (prims q (bs1 ++ bs3) (bs1 ++ bs3).length).length dP ((prims q (bs1 ++ bs3) (bs1 ++ bs3).length).map fun x : Nat => Value.int .i64 (x : Int)) ∧ Own w1 w.heap.size 3 1 Q (prims q (bs2 ++ bs3) (bs2 ++ bs3).length).length dQ ((prims q (bs2 ++ bs3) (bs2 ++ bs3).length).map fun x : Nat => Value.int .i64 (x : Int)) ∧ Own w1 w.heap.size 3 1 (some ⟨gt, 0, none⟩) 0 0 (List.take (0 * 1) ([] : List Value)) ∧ Sep i.2.2.1 P ∧ Sep i.2.2.1 Q ∧ Sep i.2.2.1 (some ⟨gt, 0, none⟩) ∧ Ext w w1) (fun i => (prims q (bs1 ++ bs3) (bs1 ++ bs3).length).length - i.1) ((0, 0, _, _)) ⟨rfl, rfl, rfl, rfl, rfl, rfl, rfl, rfl, trivial⟩ ?_ ?_
  · exact ⟨Nat.zero_le _, rfl, hs, hp, hq, ht, sp_hp, sp_hq, sp_ht, K0⟩
  · clear hs hp hq ht sp_hp sp_hq sp_ht K0
    rintro ⟨k, n, B, d⟩ w1 ⟨hk, hn, hs, hp, hq, ht, sp_hp, sp_hq, sp_ht, K0⟩
    simp only at hk hn hs
    have hpl := prims_length q (bs1 ++ bs3) (bs1 ++ bs3).length
    have hnl : (nearq (bs1 ++ bs3).length ((bs3.length : Int) - q.wi - q.mn + 2) ((prims q (bs1 ++ bs3) (bs1 ++ bs3).length).take k)).length ≤ k := by
      unfold nearq
      rw [List.length_map]
      exact Nat.le_trans (List.length_filter_le _ _) (by simp; omega)
    refine w_seq ?_
    refine w_seq ?_
    refine w_region ?_
    refine sv rfl rfl rfl (ex_move rfl rfl) ?_
    refine sv rfl rfl rfl (ex_move rfl rfl) ?_
    refine sv rfl rfl rfl (ex_len Tryd.underlying35 rfl rfl) ?_
    refine sv rfl rfl rfl (ex_cmp rfl rfl rfl rfl) ?_
    refine w_nil (qe_next ?_)
    refine w_if rfl (fun hk2 => ?_) (fun hk2 => ?_)
    · skip
      replace hk2 : k < (prims q (bs1 ++ bs3) (bs1 ++ bs3).length).length := by simp only at hk2; omega
      obtain ⟨bb, oo, u, rfl, _, _, hu, hcell⟩ := hp.rd.at_ hk2
      rw [List.getElem?_map] at hu
      obtain ⟨x, hx, rfl⟩ := Option.map_eq_some_iff.1 hu
      have hxm := (mem_prims.1 (List.mem_of_getElem? hx)).2.1
      have htk : (prims q (bs1 ++ bs3) (bs1 ++ bs3).length).take (k + 1) = (prims q (bs1 ++ bs3) (bs1 ++ bs3).length).take k ++ [x] := by rw [List.take_add_one, hx]; rfl
      have hxe : (((0 + bs1.length + bs3.length : Nat) : Int) - (x : Int)) = ((((bs1 ++ bs3)).length : Nat) : Int) - (x : Int) := by rw [List.length_append]; omega
      rw [List.length_append] at hxm
      refine w_skip (qe_next ?_)
      refine w_seq ?_
      refine w_block ?_
      refine w_seq ?_
      refine w_region ?_
      refine sv rfl rfl rfl (ex_move rfl rfl) ?_
      refine sv rfl rfl rfl (ex_len Tryd.underlying25 rfl rfl) ?_
      refine sv rfl rfl rfl (ex_move rfl rfl) ?_
      refine sv rfl rfl rfl (ex_move rfl rfl) ?_
      refine sv rfl rfl rfl (ex_index Tryd.underlying35 sz3 k rfl rfl rfl rfl (by omega)) ?_
      refine sv rfl rfl rfl (ex_load one3 rfl rfl hcell) ?_
      refine sv rfl rfl rfl (ex_sub rfl rfl rfl (i64_in (by omega) (by omega))) ?_
      refine sv rfl rfl rfl (ex_move rfl rfl) ?_
      refine sv rfl rfl rfl (ex_cmp rfl rfl rfl rfl) ?_
      refine w_nil (qe_next ?_)
      refine w_if rfl (fun hnr => ?_) (fun hnr => ?_)
      · skip
        replace hnr : (((bs1 ++ bs3)).length : Int) - (x : Int) < ((bs3.length : Int) - q.wi - q.mn + 2) := by omega
        refine w_region ?_
        refine sv rfl rfl rfl (ex_move rfl rfl) ?_
        refine sv rfl rfl rfl (ex_move rfl rfl) ?_
        refine sv rfl rfl rfl (ex_len Tryd.underlying25 rfl rfl) ?_
        refine sv rfl rfl rfl (ex_move rfl rfl) ?_
        refine sv rfl rfl rfl (ex_move rfl rfl) ?_
        refine sv rfl rfl rfl (ex_index Tryd.underlying35 sz3 k rfl rfl rfl rfl (by omega)) ?_
        refine sv rfl rfl rfl (ex_load one3 rfl rfl hcell) ?_
        refine sv rfl rfl rfl (ex_sub rfl rfl rfl (i64_in (by omega) (by omega))) ?_
        refine st rfl rfl rfl (ex_buildSlice (cs := [.int .i64 (((0 + bs1.length + bs3.length : Nat) : Int) - (x : Int))]) rfl rfl (build_int _)) ?_
        rintro _ w15 ⟨g1, rfl, hg1, E7, hb7, hs7⟩
        replace hs := hs.ext E7
        replace hp := hp.ext E7
        replace hq := hq.ext E7
        replace ht := ht.ext E7
        replace K0 := K0.ext E7
        have hs8 := K0.size
        refine st rfl rfl rfl (ex_append Tryd.underlying35 z3.1 rfl (by decide) rfl rfl rfl hs (Rd.of_blk (size := 1) hb7 rfl) (by simp [Value.oneCell']) (by first | omega | (simp only; omega)) (by first | omega | (simp only; omega)) (by omega)) ?_
        rintro _ w16 ⟨B1, d1, rfl, hown1, K3, hB1⟩
        have xhp := Sep.app sp_hp hp hB1
        replace hp := Sep.keep sp_hp hp K3
        have xhq := Sep.app sp_hq hq hB1
        replace hq := Sep.keep sp_hq hq K3
        have xht := Sep.app sp_ht ht hB1
        replace ht := Sep.keep sp_ht ht K3
        replace K0 := K0.trans K3 (fun j hj _ => hs.fresh hj)
        refine sv rfl rfl rfl (ex_assign rfl rfl) ?_
        refine w_nil (qe_in_normal (qe_next ?_))
        refine w_region ?_
        refine sv rfl rfl rfl (ex_move rfl rfl) ?_
        refine sv rfl rfl rfl (ex_add rfl rfl rfl (i64_in (by omega) (by omega))) ?_
        refine sv rfl rfl rfl (ex_assign rfl rfl) ?_
        refine w_nil (qe_round ((k + 1, n + 1, B1, d1)) ⟨rfl, rfl, rfl, rfl, rfl, rfl, rfl, rfl, trivial⟩ ?_ ?_)
        · exact ⟨by simp only; omega, by simp only; rw [htk, nearq_snoc_yes hnr, List.length_append, List.length_singleton, hn], by simp only; rw [htk, nearq_snoc_yes hnr, List.map_append, List.map_cons, List.map_nil, ← hxe]; exact hown1, hp, hq, ht, xhp, xhq, xht, K0⟩
        · simp only; omega
      · skip
        replace hnr : ¬ (((bs1 ++ bs3)).length : Int) - (x : Int) < ((bs3.length : Int) - q.wi - q.mn + 2) := by omega
        refine w_skip (qe_in_normal (qe_next ?_))
        refine w_region ?_
        refine sv rfl rfl rfl (ex_move rfl rfl) ?_
        refine sv rfl rfl rfl (ex_add rfl rfl rfl (i64_in (by omega) (by omega))) ?_
        refine sv rfl rfl rfl (ex_assign rfl rfl) ?_
        refine w_nil (qe_round ((k + 1, n, B, d)) ⟨rfl, rfl, rfl, rfl, rfl, rfl, rfl, rfl, trivial⟩ ?_ ?_)
        · exact ⟨by simp only; omega, by simp only; rw [htk, nearq_snoc_no hnr]; exact hn, by simp only; rw [htk, nearq_snoc_no hnr]; exact hs, hp, hq, ht, sp_hp, sp_hq, sp_ht, K0⟩
        · simp only; omega
    · skip
      replace hk2 : k = (prims q (bs1 ++ bs3) (bs1 ++ bs3).length).length := by simp only at hk2; omega
      subst hk2
      rw [List.take_length] at hs hn
      subst hn
      refine w_exit (qe_then_exit (qe_then_exit (qe_in_exit (qe_next ?_))))
      refine w_seq ?_
      refine w_seq ?_
      replace sp_hq := tq
      have sp_hs := sp_ht.symm
      refine w_region ?_
      refine sv rfl rfl rfl (ex_assign rfl rfl) ?_
      refine w_nil (qe_next ?_)
      refine w_block ?_
      refine w_loop (ι := Nat × Nat × Option Addr × Nat) (fun i => [(10, .slice Y (0 + bs2.length + bs3.length) dY), (13, .slice Q (prims q (bs2 ++ bs3) (bs2 ++ bs3).length).length dQ), (15, .int .i64 ((bs3.length : Int) - q.wi - q.mn + 2)), (16, .slice B (nearq (bs1 ++ bs3).length ((bs3.length : Int) - q.wi - q.mn + 2) (prims q (bs1 ++ bs3) (bs1 ++ bs3).length)).length d), (17, .slice i.2.2.1 i.2.1 i.2.2.2), (19, .int .i64 (i.1 : Int))]) (fun i w1 => i.1 ≤ (prims q (bs2 ++ bs3) (bs2 ++ bs3).length).length ∧ i.2.1 = (nearq (bs2 ++ bs3).length ((bs3.length : Int) - q.wi - q.mn + 2) ((prims q (bs2 ++ bs3) (bs2 ++ bs3).length).take i.1)).length ∧ Own w1 w.heap.size 3 1 i.2.2.1 i.2.1 i.2.2.2 ((nearq (bs2 ++ bs3).length ((bs3.length : Int) - q.wi - q.mn + 2) ((prims q (bs2 ++ bs3) (bs2 ++ bs3).length).take i.1)).map fun x : Int => Value.int .i64 x) ∧ Own w1 w.heap.size 3 1 Q (prims q (bs2 ++ bs3) (bs2 ++ bs3).length).length dQ ((prims q (bs2 ++ bs3) (bs2 ++ bs3).length).map fun x : Nat => Value.int .i64 (x : Int)) ∧ Own w1 w.heap.size 3 1 B (nearq (bs1 ++ bs3).length ((bs3.length : Int) - q.wi - q.mn + 2) (prims q (bs1 ++ bs3) (bs1 ++ bs3).length)).length d ((nearq (bs1 ++ bs3).length ((bs3.length : Int) - q.wi - q.mn + 2) (prims q (bs1 ++ bs3) (bs1 ++ bs3).length)).map fun x : Int => Value.int .i64 x) ∧ Sep i.2.2.1 Q ∧ Sep i.2.2.1 B ∧ Ext w w1) (fun i => (prims q (bs2 ++ bs3) (bs2 ++ bs3).length).length - i.1) ((0, 0, _, _)) ⟨rfl, rfl, rfl, rfl, rfl, rfl, trivial⟩ ?_ ?_
      · exact ⟨Nat.zero_le _, rfl, ht, hq, hs, sp_hq, sp_hs, K0⟩
      · clear ht hq hs sp_hq sp_hs K0
        rintro ⟨k, n, B, d⟩ w1 ⟨hk, hn, ht, hq, hs, sp_hq, sp_hs, K0⟩
        simp only at hk hn ht
        have hpl := prims_length q (bs2 ++ bs3) (bs2 ++ bs3).length
        have hnl : (nearq (bs2 ++ bs3).length ((bs3.length : Int) - q.wi - q.mn + 2) ((prims q (bs2 ++ bs3) (bs2 ++ bs3).length).take k)).length ≤ k := by
          unfold nearq
          rw [List.length_map]
          exact Nat.le_trans (List.length_filter_le _ _) (by simp; omega)
        refine w_seq ?_
        refine w_seq ?_
        refine w_region ?_
        refine sv rfl rfl rfl (ex_move rfl rfl) ?_
        refine sv rfl rfl rfl (ex_move rfl rfl) ?_
        refine sv rfl rfl rfl (ex_len Tryd.underlying35 rfl rfl) ?_
        refine sv rfl rfl rfl (ex_cmp rfl rfl rfl rfl) ?_
        refine w_nil (qe_next ?_)
        refine w_if rfl (fun hk2 => ?_) (fun hk2 => ?_)
        · skip
          replace hk2 : k < (prims q (bs2 ++ bs3) (bs2 ++ bs3).length).length := by simp only at hk2; omega
          obtain ⟨bb, oo, u, rfl, _, _, hu, hcell⟩ := hq.rd.at_ hk2
          rw [List.getElem?_map] at hu
          obtain ⟨x, hx, rfl⟩ := Option.map_eq_some_iff.1 hu
          have hxm := (mem_prims.1 (List.mem_of_getElem? hx)).2.1
          have htk : (prims q (bs2 ++ bs3) (bs2 ++ bs3).length).take (k + 1) = (prims q (bs2 ++ bs3) (bs2 ++ bs3).length).take k ++ [x] := by rw [List.take_add_one, hx]; rfl
          have hxe : (((0 + bs2.length + bs3.length : Nat) : Int) - (x : Int)) = ((((bs2 ++ bs3)).length : Nat) : Int) - (x : Int) := by rw [List.length_append]; omega
          rw [List.length_append] at hxm
          refine w_skip (qe_next ?_)
          refine w_seq ?_
          refine w_block ?_
          refine w_seq ?_
          refine w_region ?_
          refine sv rfl rfl rfl (ex_move rfl rfl) ?_
          refine sv rfl rfl rfl (ex_len Tryd.underlying25 rfl rfl) ?_
          refine sv rfl rfl rfl (ex_move rfl rfl) ?_
          refine sv rfl rfl rfl (ex_move rfl rfl) ?_
          refine sv rfl rfl rfl (ex_index Tryd.underlying35 sz3 k rfl rfl rfl rfl (by omega)) ?_
          refine sv rfl rfl rfl (ex_load one3 rfl rfl hcell) ?_
          refine sv rfl rfl rfl (ex_sub rfl rfl rfl (i64_in (by omega) (by omega))) ?_
          refine sv rfl rfl rfl (ex_move rfl rfl) ?_
          refine sv rfl rfl rfl (ex_cmp rfl rfl rfl rfl) ?_
          refine w_nil (qe_next ?_)
          refine w_if rfl (fun hnr => ?_) (fun hnr => ?_)
          · skip
            replace hnr : (((bs2 ++ bs3)).length : Int) - (x : Int) < ((bs3.length : Int) - q.wi - q.mn + 2) := by omega
            refine w_region ?_
            refine sv rfl rfl rfl (ex_move rfl rfl) ?_
            refine sv rfl rfl rfl (ex_move rfl rfl) ?_
            refine sv rfl rfl rfl (ex_len Tryd.underlying25 rfl rfl) ?_
            refine sv rfl rfl rfl (ex_move rfl rfl) ?_
            refine sv rfl rfl rfl (ex_move rfl rfl) ?_
            refine sv rfl rfl rfl (ex_index Tryd.underlying35 sz3 k rfl rfl rfl rfl (by omega)) ?_
            refine sv rfl rfl rfl (ex_load one3 rfl rfl hcell) ?_
            refine sv rfl rfl rfl (ex_sub rfl rfl rfl (i64_in (by omega) (by omega))) ?_
            refine st rfl rfl rfl (ex_buildSlice (cs := [.int .i64 (((0 + bs2.length + bs3.length : Nat) : Int) - (x : Int))]) rfl rfl (build_int _)) ?_
            rintro _ w17 ⟨g1, rfl, hg1, E7, hb7, hs7⟩
            replace ht := ht.ext E7
            replace hq := hq.ext E7
            replace hs := hs.ext E7
            replace K0 := K0.ext E7
            have hs8 := K0.size
            refine st rfl rfl rfl (ex_append Tryd.underlying35 z3.1 rfl (by decide) rfl rfl rfl ht (Rd.of_blk (size := 1) hb7 rfl) (by simp [Value.oneCell']) (by first | omega | (simp only; omega)) (by first | omega | (simp only; omega)) (by omega)) ?_
            rintro _ w18 ⟨B1, d1, rfl, hown1, K3, hB1⟩
            have xhq := Sep.app sp_hq hq hB1
            replace hq := Sep.keep sp_hq hq K3
            have xhs := Sep.app sp_hs hs hB1
            replace hs := Sep.keep sp_hs hs K3
            replace K0 := K0.trans K3 (fun j hj _ => ht.fresh hj)
            refine sv rfl rfl rfl (ex_assign rfl rfl) ?_
            refine w_nil (qe_in_normal (qe_next ?_))
            refine w_region ?_
            refine sv rfl rfl rfl (ex_move rfl rfl) ?_
            refine sv rfl rfl rfl (ex_add rfl rfl rfl (i64_in (by omega) (by omega))) ?_
            refine sv rfl rfl rfl (ex_assign rfl rfl) ?_
            refine w_nil (qe_round ((k + 1, n + 1, B1, d1)) ⟨rfl, rfl, rfl, rfl, rfl, rfl, trivial⟩ ?_ ?_)
            · exact ⟨by simp only; omega, by simp only; rw [htk, nearq_snoc_yes hnr, List.length_append, List.length_singleton, hn], by simp only; rw [htk, nearq_snoc_yes hnr, List.map_append, List.map_cons, List.map_nil, ← hxe]; exact hown1, hq, hs, xhq, xhs, K0⟩
            · simp only; omega
          · skip
            replace hnr : ¬ (((bs2 ++ bs3)).length : Int) - (x : Int) < ((bs3.length : Int) - q.wi - q.mn + 2) := by omega
            refine w_skip (qe_in_normal (qe_next ?_))
            refine w_region ?_
            refine sv rfl rfl rfl (ex_move rfl rfl) ?_
            refine sv rfl rfl rfl (ex_add rfl rfl rfl (i64_in (by omega) (by omega))) ?_
            refine sv rfl rfl rfl (ex_assign rfl rfl) ?_
            refine w_nil (qe_round ((k + 1, n, B, d)) ⟨rfl, rfl, rfl, rfl, rfl, rfl, trivial⟩ ?_ ?_)
            · exact ⟨by simp only; omega, by simp only; rw [htk, nearq_snoc_no hnr]; exact hn, by simp only; rw [htk, nearq_snoc_no hnr]; exact ht, hq, hs, sp_hq, sp_hs, K0⟩
            · simp only; omega
        · skip
          replace hk2 : k = (prims q (bs2 ++ bs3) (bs2 ++ bs3).length).length := by simp only at hk2; omega
          subst hk2
          rw [List.take_length] at ht hn
          subst hn
          refine w_exit (qe_then_exit (qe_then_exit (qe_in_exit (qe_next ?_))))
          refine w_seq ?_
          refine w_region ?_
          refine st rfl rfl rfl (ex_call call16 rfl rfl (awake16_c _ (hT.ext K0))) ?_
          rintro _ w19 ⟨rfl, E9⟩
          replace ht := ht.ext E9
          replace hq := hq.ext E9
          replace hs := hs.ext E9
          replace K0 := K0.ext E9
          refine sv rfl rfl rfl (ex_move rfl rfl) ?_
          first | refine sk rfl rfl rfl ?_ | refine sv rfl rfl rfl (ex_move rfl rfl) ?_
          first | refine sk rfl rfl rfl ?_ | refine sv rfl rfl rfl (ex_move rfl rfl) ?_
          refine st rfl rfl rfl (ex_call call29 rfl rfl (ints_i _ _ _ _ _ _ _ _ _ _ (nearq (bs1 ++ bs3).length ((bs3.length : Int) - q.wi - q.mn + 2) (prims q (bs1 ++ bs3) (bs1 ++ bs3).length)) (nearq (bs2 ++ bs3).length ((bs3.length : Int) - q.wi - q.mn + 2) (prims q (bs2 ++ bs3) (bs2 ++ bs3).length)) _ rfl rfl hs.rd ht.rd (by have := nearq_length (bs1 ++ bs3).length ((bs3.length : Int) - q.wi - q.mn + 2) (prims q (bs1 ++ bs3) (bs1 ++ bs3).length); have := prims_length q (bs1 ++ bs3) (bs1 ++ bs3).length; have : (bs1 ++ bs3).length = bs1.length + bs3.length := List.length_append; omega) (suffix_eq q bs1 bs2 bs3))) ?_
          rintro _ w20 ⟨rfl, E7⟩
          replace ht := ht.ext E7
          replace hq := hq.ext E7
          replace hs := hs.ext E7
          replace K0 := K0.ext E7
          first | refine sv rfl rfl rfl (ex_pick_t rfl rfl rfl) ?_ | refine sv rfl rfl rfl (ex_pick_f rfl rfl rfl) ?_
          refine sv rfl rfl rfl (ex_assign rfl rfl) ?_
          refine w_nil (qe_next ?_)
          refine w_ret (qe_ret1 rfl rfl ?_)
          exact ⟨rfl, K0⟩
theorem suffix_law (c0 : Cut) (A1 : Option Addr) (c1 lo1 hi1 : Nat) (bs1 : List UInt8) (A2 : Option Addr) (c2 lo2 hi2 : Nat) (bs2 : List UInt8) (A3 : Option Addr) (c3 lo3 hi3 : Nat) (bs3 : List UInt8) (w : World) (hr1 : Rd w lo1 hi1 1 A1 bs1.length (bcells bs1)) (hhi1 : hi1 ≤ w.heap.size) (hr2 : Rd w lo2 hi2 1 A2 bs2.length (bcells bs2)) (hhi2 : hi2 ≤ w.heap.size) (hr3 : Rd w lo3 hi3 1 A3 bs3.length (bcells bs3)) (hhi3 : hi3 ≤ w.heap.size) (hT : TabAt w) : Ret Tryd.prog 10 [c0.val, .slice A1 bs1.length c1, .slice A2 bs2.length c2, .slice A3 bs3.length c3] w fun v w' => v = .bool true ∧ Ext w w' := by
  by_cases h : c0.ok
  · by_cases h3 : bs1.length ≤ 300 ∧ bs2.length ≤ 300 ∧ bs3.length ≤ 300
    · obtain ⟨q, rfl⟩ := h.vut
      exact suffix_good q A1 c1 lo1 hi1 bs1 A2 c2 lo2 hi2 bs2 A3 c3 lo3 hi3 bs3 w hr1 hhi1 hr2 hhi2 hr3 hhi3 h3 hT
    · exact suffix_bad2 c0 A1 c1 lo1 hi1 bs1 A2 c2 lo2 hi2 bs2 A3 c3 lo3 hi3 bs3 w hr1 hhi1 hr2 hhi2 hr3 hhi3 h h3 hT
  · exact suffix_bad1 c0 A1 c1 lo1 hi1 bs1 A2 c2 lo2 hi2 bs2 A3 c3 lo3 hi3 bs3 w hr1 hhi1 hr2 hhi2 hr3 hhi3 h hT
end Go.Proofs.YtfgpcmphcnhbiaaDoor

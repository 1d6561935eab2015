/- The law ChunkerCommon, walked. -/
import Derived.Test.YtfgpcmphcnhbiaaDoorP4
namespace Go.Proofs.YtfgpcmphcnhbiaaDoor
open Go Go.RowKit
set_option linter.unusedVariables false
set_option linter.unusedSimpArgs false
/-- kinkeep/kinkeeplaw16.ChunkerCommon -/
theorem common_bad1 (c0 : Cut) (A1 : Option Addr) (c1 lo1 hi1 : Nat) (bs1 : List UInt8) (A2 : Option Addr) (c2 lo2 hi2 : Nat) (bs2 : List UInt8) (w : World) (hr1 : Rd w lo1 hi1 1 A1 bs1.length (bcells bs1)) (hhi1 : hi1 ≤ w.heap.size) (hmc1 : bs1.length ≤ c1) (hr2 : Rd w lo2 hi2 1 A2 bs2.length (bcells bs2)) (hhi2 : hi2 ≤ w.heap.size) (hmc2 : bs2.length ≤ c2) (h : ¬ (c0.ok ∧ c0.mn ≤ 40)) (hT : TabAt w) :
    Ret Tryd.prog 3 [c0.val, .slice A1 bs1.length c1, .slice A2 bs2.length c2] w fun v w' => v = .bool true ∧ Ext w w' := by
  have K0 : Ext w w := Keep.refl _ _
  refine ret_of Tryd.func3 rfl rfl ?_
  refine w_seq ?_
  refine w_region ?_
  refine st rfl rfl rfl (ex_box (cs := c0.cells) rfl rfl rfl) ?_
  rintro _ w1 ⟨b1, rfl, hb0, E0, hb, hs0⟩
  replace K0 := K0.ext E0
  refine sv rfl rfl rfl (ex_assign rfl rfl) ?_
  refine w_nil (qe_next ?_)
  refine w_seq ?_
  refine w_seq ?_
  refine w_region ?_
  refine sv rfl rfl rfl (ex_load_agg (cs := c0.cells) agg24 rfl rfl (by intro j u hu; rw [Nat.zero_add]; exact hb.cell hu)) ?_
  refine st rfl rfl rfl (ex_call call14 rfl rfl ((small_c c0 _).mono (R' := fun v w' => v = .bool false ∧ Ext _ w') fun v w' h' => ⟨by rw [h'.1, decide_eq_false (h)], h'.2⟩)) ?_
  rintro _ w2 ⟨rfl, E1⟩
  replace K0 := K0.ext E1
  replace hb := hb.ext E1
  refine sv rfl rfl rfl (ex_not rfl rfl) ?_
  refine sv rfl rfl rfl (ex_move rfl rfl) ?_
  first | refine sk rfl rfl rfl ?_ | refine sv rfl rfl rfl (ex_move rfl rfl) ?_
  first | refine sk rfl rfl rfl ?_ | refine sv rfl rfl rfl (ex_move rfl rfl) ?_
  refine sk rfl rfl rfl ?_
  refine sk rfl rfl rfl ?_
  refine sk rfl rfl rfl ?_
  first | refine sv rfl rfl rfl (ex_pick_t rfl rfl rfl) ?_ | refine sv rfl rfl rfl (ex_pick_f rfl rfl rfl) ?_
  refine w_nil (qe_next ?_)
  refine w_cond_t rfl ?_
  refine w_seq ?_
  refine w_region ?_
  refine st rfl rfl rfl (ex_call call16 rfl rfl (awake16_c _ (hT.ext K0))) ?_
  rintro _ w3 ⟨rfl, E9⟩
  replace K0 := K0.ext E9
  replace hb := hb.ext E9
  refine sv rfl rfl rfl (ex_assign rfl rfl) ?_
  refine w_nil (qe_next ?_)
  refine w_ret (qe_then_ret (qe_ret1 rfl rfl ?_))
  exact ⟨rfl, K0⟩
/-- kinkeep/kinkeeplaw16.ChunkerCommon -/
theorem common_bad2 (c0 : Cut) (A1 : Option Addr) (c1 lo1 hi1 : Nat) (bs1 : List UInt8) (A2 : Option Addr) (c2 lo2 hi2 : Nat) (bs2 : List UInt8) (w : World) (hr1 : Rd w lo1 hi1 1 A1 bs1.length (bcells bs1)) (hhi1 : hi1 ≤ w.heap.size) (hmc1 : bs1.length ≤ c1) (hr2 : Rd w lo2 hi2 1 A2 bs2.length (bcells bs2)) (hhi2 : hi2 ≤ w.heap.size) (hmc2 : bs2.length ≤ c2) (h : c0.ok ∧ c0.mn ≤ 40) (h3 : ¬ (bs1.length ≤ 300 ∧ bs2.length ≤ 300)) (hT : TabAt w) :
    Ret Tryd.prog 3 [c0.val, .slice A1 bs1.length c1, .slice A2 bs2.length c2] w fun v w' => v = .bool true ∧ Ext w w' := by
  have K0 : Ext w w := Keep.refl _ _
  refine ret_of Tryd.func3 rfl rfl ?_
  refine w_seq ?_
  refine w_region ?_
  refine st rfl rfl rfl (ex_box (cs := c0.cells) rfl rfl rfl) ?_
  rintro _ w1 ⟨b1, rfl, hb0, E0, hb, hs0⟩
  replace K0 := K0.ext E0
  refine sv rfl rfl rfl (ex_assign rfl rfl) ?_
  refine w_nil (qe_next ?_)
  refine w_seq ?_
  refine w_seq ?_
  refine w_region ?_
  refine sv rfl rfl rfl (ex_load_agg (cs := c0.cells) agg24 rfl rfl (by intro j u hu; rw [Nat.zero_add]; exact hb.cell hu)) ?_
  refine st rfl rfl rfl (ex_call call14 rfl rfl ((small_c c0 _).mono (R' := fun v w' => v = .bool true ∧ Ext _ w') fun v w' h' => ⟨by rw [h'.1, decide_eq_true (h)], h'.2⟩)) ?_
  rintro _ w2 ⟨rfl, E1⟩
  replace K0 := K0.ext E1
  replace hb := hb.ext E1
  refine sv rfl rfl rfl (ex_not rfl rfl) ?_
  refine sv rfl rfl rfl (ex_move rfl rfl) ?_
  first | refine sk rfl rfl rfl ?_ | refine sv rfl rfl rfl (ex_move rfl rfl) ?_
  first | refine sk rfl rfl rfl ?_ | refine sv rfl rfl rfl (ex_move rfl rfl) ?_
  refine st rfl rfl rfl (ex_buildSlice (cs := [slv (A1, bs1.length, c1), slv (A2, bs2.length, c2)]) rfl rfl (build_bs2 (A1, bs1.length, c1) (A2, bs2.length, c2))) ?_
  rintro _ w3 ⟨g, rfl, hg0, E3, hb7, hs7⟩
  replace K0 := K0.ext E3
  replace hb := hb.ext E3
  refine st rfl rfl rfl (ex_call call15 rfl rfl ((few_c (some ⟨g, 0, none⟩) 2 2 _ _ [(A1, bs1.length, c1), (A2, bs2.length, c2)] _ rfl (by decide) (Rd.of_blk (size := 1) hb7 rfl)).mono (R' := fun v w' => v = .bool false ∧ w' = _) fun v w' h' => ⟨by rw [h'.1, decide_eq_false (fun hh => h3 ⟨hh (A1, bs1.length, c1) (by simp), hh (A2, bs2.length, c2) (by simp)⟩)], h'.2⟩)) ?_
  rintro _ w4 ⟨rfl, hwe⟩
  obtain rfl := hwe.symm
  first | refine sk rfl rfl rfl ?_ | refine sv rfl rfl rfl (ex_not rfl rfl) ?_
  first | refine sv rfl rfl rfl (ex_pick_t rfl rfl rfl) ?_ | refine sv rfl rfl rfl (ex_pick_f rfl rfl rfl) ?_
  refine w_nil (qe_next ?_)
  refine w_cond_t rfl ?_
  refine w_seq ?_
  refine w_region ?_
  refine st rfl rfl rfl (ex_call call16 rfl rfl (awake16_c _ (hT.ext K0))) ?_
  rintro _ w5 ⟨rfl, E9⟩
  replace K0 := K0.ext E9
  replace hb := hb.ext E9
  refine sv rfl rfl rfl (ex_assign rfl rfl) ?_
  refine w_nil (qe_next ?_)
  refine w_ret (qe_then_ret (qe_ret1 rfl rfl ?_))
  exact ⟨rfl, K0⟩
/-- kinkeep/kinkeeplaw16.ChunkerCommon -/
theorem common_good (q : Vut) (A1 : Option Addr) (c1 lo1 hi1 : Nat) (bs1 : List UInt8) (A2 : Option Addr) (c2 lo2 hi2 : Nat) (bs2 : List UInt8) (w : World) (hr1 : Rd w lo1 hi1 1 A1 bs1.length (bcells bs1)) (hhi1 : hi1 ≤ w.heap.size) (hmc1 : bs1.length ≤ c1) (hr2 : Rd w lo2 hi2 1 A2 bs2.length (bcells bs2)) (hhi2 : hi2 ≤ w.heap.size) (hmc2 : bs2.length ≤ c2) (h : q.cut.ok ∧ q.cut.mn ≤ 40) (h3 : bs1.length ≤ 300 ∧ bs2.length ≤ 300) (hT : TabAt w) :
    Ret Tryd.prog 3 [q.cut.val, .slice A1 bs1.length c1, .slice A2 bs2.length c2] w fun v w' => v = .bool true ∧ Ext w w' := by
  have K0 : Ext w w := Keep.refl _ _
  skip
  have hq0 : q.cut.mn = (q.mn : Int) := rfl
  have hq1 : q.cut.mx = (q.mx : Int) := rfl
  have hq2 : q.cut.wi = (q.wi : Int) := rfl
  have hq3 : q.cut.bi = (q.bi : Int) := rfl
  have hv1 := q.h1
  have hv2 := q.h2
  have hv3 := q.h3
  have hv4 := q.h4
  have hv5 := q.h5
  have hv6 := q.h6
  refine ret_of Tryd.func3 rfl rfl ?_
  refine w_seq ?_
  refine w_region ?_
  refine st rfl rfl rfl (ex_box (cs := q.cut.cells) rfl rfl rfl) ?_
  rintro _ w1 ⟨b1, rfl, hb0, E0, hb, hs0⟩
  replace K0 := K0.ext E0
  refine sv rfl rfl rfl (ex_assign rfl rfl) ?_
  refine w_nil (qe_next ?_)
  refine w_seq ?_
  refine w_seq ?_
  refine w_region ?_
  refine sv rfl rfl rfl (ex_load_agg (cs := q.cut.cells) agg24 rfl rfl (by intro j u hu; rw [Nat.zero_add]; exact hb.cell hu)) ?_
  refine st rfl rfl rfl (ex_call call14 rfl rfl ((small_c q.cut _).mono (R' := fun v w' => v = .bool true ∧ Ext _ w') fun v w' h' => ⟨by rw [h'.1, decide_eq_true (h)], h'.2⟩)) ?_
  rintro _ w2 ⟨rfl, E1⟩
  replace K0 := K0.ext E1
  replace hb := hb.ext E1
  refine sv rfl rfl rfl (ex_not rfl rfl) ?_
  refine sv rfl rfl rfl (ex_move rfl rfl) ?_
  first | refine sk rfl rfl rfl ?_ | refine sv rfl rfl rfl (ex_move rfl rfl) ?_
  first | refine sk rfl rfl rfl ?_ | refine sv rfl rfl rfl (ex_move rfl rfl) ?_
  refine st rfl rfl rfl (ex_buildSlice (cs := [slv (A1, bs1.length, c1), slv (A2, bs2.length, c2)]) rfl rfl (build_bs2 (A1, bs1.length, c1) (A2, bs2.length, c2))) ?_
  rintro _ w3 ⟨g, rfl, hg0, E3, hb7, hs7⟩
  replace K0 := K0.ext E3
  replace hb := hb.ext E3
  refine st rfl rfl rfl (ex_call call15 rfl rfl ((few_c (some ⟨g, 0, none⟩) 2 2 _ _ [(A1, bs1.length, c1), (A2, bs2.length, c2)] _ rfl (by decide) (Rd.of_blk (size := 1) hb7 rfl)).mono (R' := fun v w' => v = .bool true ∧ w' = _) fun v w' h' => ⟨by rw [h'.1, decide_eq_true (by intro x hx; simp at hx; rcases hx with rfl | rfl <;> simp only <;> omega)], h'.2⟩)) ?_
  rintro _ w4 ⟨rfl, hwe⟩
  obtain rfl := hwe.symm
  first | refine sk rfl rfl rfl ?_ | refine sv rfl rfl rfl (ex_not rfl rfl) ?_
  first | refine sv rfl rfl rfl (ex_pick_t rfl rfl rfl) ?_ | refine sv rfl rfl rfl (ex_pick_f rfl rfl rfl) ?_
  refine w_nil (qe_next ?_)
  refine w_cond_f rfl ?_
  refine w_skip (qe_next ?_)
  refine w_seq ?_
  refine w_region ?_
  refine sv rfl rfl rfl (ex_load_agg (cs := q.cut.cells) agg24 rfl rfl (by intro j u hu; rw [Nat.zero_add]; exact hb.cell hu)) ?_
  refine sv rfl rfl rfl (ex_move rfl rfl) ?_
  refine sv rfl rfl rfl (ex_move rfl rfl) ?_
  have hsz0 := K0.size
  refine st rfl rfl rfl (ex_call call17 rfl rfl (common_c q A1 c1 lo1 hi1 bs1 A2 c2 lo2 hi2 bs2 _ (hr1.ext K0) (by omega) hmc1 (by omega) (hr2.ext K0) (by omega) hmc2 (by omega) (hT.ext K0))) ?_
  rintro _ w5 ⟨n, m, rfl, hF, hB, E4⟩
  replace K0 := K0.ext E4
  replace hb := hb.ext E4
  refine sv rfl rfl rfl (ex_move rfl rfl) ?_
  refine sv rfl rfl rfl (ex_extract rfl rfl rfl) ?_
  refine sv rfl rfl rfl (ex_extract rfl rfl rfl) ?_
  refine sv rfl rfl rfl (ex_extract rfl rfl rfl) ?_
  refine sv rfl rfl rfl (ex_assign rfl rfl) ?_
  refine sv rfl rfl rfl (ex_assign rfl rfl) ?_
  refine sv rfl rfl rfl (ex_assign rfl rfl) ?_
  refine w_nil (qe_next ?_)
  refine w_seq ?_
  refine w_draw mixed (fun w6 _ Ew6 => ?_)
  replace K0 := K0.ext Ew6
  replace hb := hb.ext Ew6
  refine wd_free 5 _ rfl rfl rfl rfl ?_
  refine fd [] rfl rfl rfl rfl rfl rfl rfl (fun w' E => ex_load_agg (cs := q.cut.cells) agg24 rfl rfl (by intro j u hu; rw [Nat.zero_add]; exact E.cell trivial (hb.cell hu))) ?_
  refine fd [] rfl rfl rfl rfl rfl rfl rfl (fun w' E => ex_move rfl rfl) ?_
  refine fx [0, 1] (Φ := fun v' w' => ∃ (B : Option Addr) (d : Nat) (sl : List Sl), v' = .slice B (ecuts q bs1 bs1.length).1.length d ∧ Own w' w.heap.size 25 1 B (ecuts q bs1 bs1.length).1.length d (sl.map slv) ∧ Owns w' w.heap.size sl (pieces bs1 0 (ecuts q bs1 bs1.length).1)) rfl rfl rfl rfl rfl rfl rfl (fun _ _ _ k ⟨B, d, sl, h1, h2, h3⟩ => ⟨B, d, sl, h1, h2.ext k, h3.ext k⟩) (fun w' E => ex_call call18 rfl rfl ((refSplit_c q A1 c1 lo1 hi1 bs1 _ ((hr1.ext K0).ext E) hmc1 (by omega)).mono fun v' w'' ⟨B, d, sl, h1, h2, h3, h4⟩ => ⟨⟨B, d, sl, h1, h2.lower (K0.ext E).size, h3.lower (K0.ext E).size⟩, h4⟩)) ?_
  refine fd [] rfl rfl rfl rfl rfl rfl rfl (fun w' E => ex_load_agg (cs := q.cut.cells) agg24 rfl rfl (by intro j u hu; rw [Nat.zero_add]; exact E.cell trivial (hb.cell hu))) ?_
  refine fd [] rfl rfl rfl rfl rfl rfl rfl (fun w' E => ex_move rfl rfl) ?_
  refine .nil (fun _ w7 Ew7 HF => ?_)
  replace K0 := K0.ext Ew7
  replace hb := hb.ext Ew7
  obtain ⟨⟨X, dX, sl1, rfl, hx, hxo⟩, -⟩ := HF
  have hsz2 := K0.size
  refine wd_one rfl rfl (by kernel_rfl) rfl rfl rfl (ex_call call18 rfl rfl (refSplit_c q A2 c2 lo2 hi2 bs2 _ (hr2.ext K0) hmc2 (by omega))) ?_
  rintro _ w8 ⟨Y, dY, sl2, rfl, hy, hyo, E5⟩
  replace K0 := K0.ext E5
  replace hb := hb.ext E5
  replace hx := hx.ext E5
  replace hxo := hxo.ext E5
  replace hy := hy.lower hsz2
  replace hyo := hyo.lower hsz2
  have hL1 := Sl.len_le (q := q) (bs := bs1) (by omega)
  have hL2 := Sl.len_le (q := q) (bs := bs2) (by omega)
  have hM1 := pieces_length bs1 (ecuts q bs1 bs1.length).1 0
  have hM2 := pieces_length bs2 (ecuts q bs2 bs2.length).1 0
  clear hb
  refine wd_v rfl rfl (by kernel_rfl) rfl rfl rfl (ex_assign rfl rfl) ?_
  refine wd_v rfl rfl (by kernel_rfl) rfl rfl rfl (ex_assign rfl rfl) ?_
  refine wd_nil (by decide) rfl ?_
  refine qe_next ?_
  refine w_seq ?_
  refine w_region ?_
  refine sv rfl rfl rfl (ex_assign rfl rfl) ?_
  refine sv rfl rfl rfl (ex_assign rfl rfl) ?_
  refine w_nil (qe_next ?_)
  refine w_cut (ι := Nat) (fun f => [(7, .int .i64 (n : Int)), (8, .int .i64 (m : Int)), (9, .int .i64 0), (10, .slice X (ecuts q bs1 bs1.length).1.length dX), (11, .slice Y (ecuts q bs2 bs2.length).1.length dY), (12, .int .i64 (f : Int)), (13, .int .i64 0)]) (fun f w1 => IsFront (pieces bs1 0 (ecuts q bs1 bs1.length).1) (pieces bs2 0 (ecuts q bs2 bs2.length).1) f ∧ Own w1 w.heap.size 25 1 X (ecuts q bs1 bs1.length).1.length dX (sl1.map slv) ∧ Owns w1 w.heap.size sl1 (pieces bs1 0 (ecuts q bs1 bs1.length).1) ∧ Own w1 w.heap.size 25 1 Y (ecuts q bs2 bs2.length).1.length dY (sl2.map slv) ∧ Owns w1 w.heap.size sl2 (pieces bs2 0 (ecuts q bs2 bs2.length).1) ∧ Ext w w1) ?_ ?_
  · skip
    refine w_block ?_
    refine w_loop (ι := Nat) (fun k => [(7, .int .i64 (n : Int)), (8, .int .i64 (m : Int)), (9, .int .i64 0), (10, .slice X (ecuts q bs1 bs1.length).1.length dX), (11, .slice Y (ecuts q bs2 bs2.length).1.length dY), (12, .int .i64 (k : Int)), (13, .int .i64 0)]) (fun k w1 => k ≤ (pieces bs1 0 (ecuts q bs1 bs1.length).1).length ∧ k ≤ (pieces bs2 0 (ecuts q bs2 bs2.length).1).length ∧ (∀ j, j < k → (pieces bs1 0 (ecuts q bs1 bs1.length).1)[j]? = (pieces bs2 0 (ecuts q bs2 bs2.length).1)[j]?) ∧ Own w1 w.heap.size 25 1 X (ecuts q bs1 bs1.length).1.length dX (sl1.map slv) ∧ Owns w1 w.heap.size sl1 (pieces bs1 0 (ecuts q bs1 bs1.length).1) ∧ Own w1 w.heap.size 25 1 Y (ecuts q bs2 bs2.length).1.length dY (sl2.map slv) ∧ Owns w1 w.heap.size sl2 (pieces bs2 0 (ecuts q bs2 bs2.length).1) ∧ Ext w w1) (fun k => (pieces bs1 0 (ecuts q bs1 bs1.length).1).length - k) (0) ⟨rfl, rfl, rfl, rfl, rfl, rfl, rfl, trivial⟩ ?_ ?_
    · exact ⟨Nat.zero_le _, Nat.zero_le _, fun j hj => by omega, hx, hxo, hy, hyo, K0⟩
    · clear hx hxo hy hyo K0
      rintro k w1 ⟨hk1, hk2, hpre, hx, hxo, hy, hyo, K0⟩
      refine w_seq ?_
      refine w_seq ?_
      refine w_draw mixed (fun w9 _ Ew9 => ?_)
      replace hx := hx.ext Ew9
      replace hxo := hxo.ext Ew9
      replace hy := hy.ext Ew9
      replace hyo := hyo.ext Ew9
      replace K0 := K0.ext Ew9
      refine wd_free 3 _ rfl rfl rfl rfl ?_
      refine fd [] rfl rfl rfl rfl rfl rfl rfl (fun w' E => ex_move rfl rfl) ?_
      refine fd [] rfl rfl rfl rfl rfl rfl rfl (fun w' E => ex_move rfl rfl) ?_
      refine fd [1] rfl rfl rfl rfl rfl rfl rfl (fun w' E => ex_len Tryd.underlying32 rfl rfl) ?_
      refine .nil (fun w10 Ew10 _ => ?_)
      replace hx := hx.ext Ew10
      replace hxo := hxo.ext Ew10
      replace hy := hy.ext Ew10
      replace hyo := hyo.ext Ew10
      replace K0 := K0.ext Ew10
      refine wd_if rfl rfl (by kernel_rfl) rfl rfl rfl (ex_cmp rfl rfl rfl rfl) (fun h1 => ?_) (fun h1 => ?_)
      · skip
        replace h1 : k < (ecuts q bs1 bs1.length).1.length := by omega
        refine wd_v rfl rfl (by kernel_rfl) rfl rfl rfl (ex_move rfl rfl) ?_
        refine wd_free 3 _ rfl rfl rfl rfl ?_
        first | refine fsk [] rfl rfl rfl rfl rfl rfl rfl ?_ | refine fd [] rfl rfl rfl rfl rfl rfl rfl (fun w' E => ex_move rfl rfl) ?_
        first | refine fsk [] rfl rfl rfl rfl rfl rfl rfl ?_ | refine fd [] rfl rfl rfl rfl rfl rfl rfl (fun w' E => ex_move rfl rfl) ?_
        first | refine fsk [6] rfl rfl rfl rfl rfl rfl rfl ?_ | refine fd [6] rfl rfl rfl rfl rfl rfl rfl (fun w' E => ex_len Tryd.underlying32 rfl rfl) ?_
        refine .nil (fun w11 Ew11 _ => ?_)
        replace hx := hx.ext Ew11
        replace hxo := hxo.ext Ew11
        replace hy := hy.ext Ew11
        replace hyo := hyo.ext Ew11
        replace K0 := K0.ext Ew11
        refine wd_if rfl rfl (by kernel_rfl) rfl rfl rfl (ex_cmp rfl rfl rfl rfl) (fun h2 => ?_) (fun h2 => ?_)
        · skip
          replace h2 : k < (ecuts q bs2 bs2.length).1.length := by omega
          first | refine wd_v rfl rfl (by kernel_rfl) rfl rfl rfl (ex_pick_t rfl rfl rfl) ?_ | refine wd_v rfl rfl (by kernel_rfl) rfl rfl rfl (ex_pick_f rfl rfl rfl) ?_
          refine wd_v rfl rfl (by kernel_rfl) rfl rfl rfl (ex_move rfl rfl) ?_
          obtain ⟨b1, o1, u1, rfl, _, _, hu1, hc1⟩ := hx.rd.at_ (k := k) (by omega)
          rw [List.getElem?_map] at hu1
          obtain ⟨s1, hs1, rfl⟩ := Option.map_eq_some_iff.1 hu1
          obtain ⟨y1, hy1, hl1, hd1⟩ := hxo.get hs1
          obtain ⟨b2, o2, u2, rfl, _, _, hu2, hc2⟩ := hy.rd.at_ (k := k) (by omega)
          rw [List.getElem?_map] at hu2
          obtain ⟨s2, hs2, rfl⟩ := Option.map_eq_some_iff.1 hu2
          obtain ⟨y2, hy2, hl2, hd2⟩ := hyo.get hs2
          refine wd_free 10 _ rfl rfl rfl rfl ?_
          first | refine fsk [] rfl rfl rfl rfl rfl rfl rfl ?_ | refine fd [] rfl rfl rfl rfl rfl rfl rfl (fun w' E => ex_move rfl rfl) ?_
          first | refine fsk [] rfl rfl rfl rfl rfl rfl rfl ?_ | refine fd [] rfl rfl rfl rfl rfl rfl rfl (fun w' E => ex_move rfl rfl) ?_
          first | refine fsk [11, 12] rfl rfl rfl rfl rfl rfl rfl ?_ | refine fd [11, 12] rfl rfl rfl rfl rfl rfl rfl (fun w' E => ex_index Tryd.underlying32 sz25 (k) rfl rfl rfl (by omega) (by omega)) ?_
          first | refine fsk [13] rfl rfl rfl rfl rfl rfl rfl ?_ | refine fd [13] rfl rfl rfl rfl rfl rfl rfl (fun w' E => ex_load (v := .slice s1.1 s1.2.1 s1.2.2) one25 rfl rfl (E.cell trivial hc1)) ?_
          first | refine fsk [14] rfl rfl rfl rfl rfl rfl rfl ?_ | refine fd [14] rfl rfl rfl rfl rfl rfl rfl (fun w' E => ex_strm hl1 Tryd.underlying25 Tryd.underlying5 Tryd.underlying9 rfl rfl (hd1.rd.ext E)) ?_
          first | refine fsk [] rfl rfl rfl rfl rfl rfl rfl ?_ | refine fd [] rfl rfl rfl rfl rfl rfl rfl (fun w' E => ex_move rfl rfl) ?_
          first | refine fsk [] rfl rfl rfl rfl rfl rfl rfl ?_ | refine fd [] rfl rfl rfl rfl rfl rfl rfl (fun w' E => ex_move rfl rfl) ?_
          first | refine fsk [16, 17] rfl rfl rfl rfl rfl rfl rfl ?_ | refine fd [16, 17] rfl rfl rfl rfl rfl rfl rfl (fun w' E => ex_index Tryd.underlying32 sz25 (k) rfl rfl rfl (by omega) (by omega)) ?_
          first | refine fsk [18] rfl rfl rfl rfl rfl rfl rfl ?_ | refine fd [18] rfl rfl rfl rfl rfl rfl rfl (fun w' E => ex_load (v := .slice s2.1 s2.2.1 s2.2.2) one25 rfl rfl (E.cell trivial hc2)) ?_
          first | refine fsk [19] rfl rfl rfl rfl rfl rfl rfl ?_ | refine fd [19] rfl rfl rfl rfl rfl rfl rfl (fun w' E => ex_strm hl2 Tryd.underlying25 Tryd.underlying5 Tryd.underlying9 rfl rfl (hd2.rd.ext E)) ?_
          refine .nil (fun w12 Ew12 _ => ?_)
          replace hx := hx.ext Ew12
          replace hxo := hxo.ext Ew12
          replace hy := hy.ext Ew12
          replace hyo := hyo.ext Ew12
          replace K0 := K0.ext Ew12
          first | refine wd_skip rfl rfl (by kernel_rfl) rfl rfl rfl ?_ | refine wd_v rfl rfl (by kernel_rfl) rfl rfl rfl (ex_streq rfl rfl rfl) ?_
          first | refine wd_v rfl rfl (by kernel_rfl) rfl rfl rfl (ex_pick_t rfl rfl rfl) ?_ | refine wd_v rfl rfl (by kernel_rfl) rfl rfl rfl (ex_pick_f rfl rfl rfl) ?_
          refine wd_nil (by decide) rfl ?_
          refine qe_next ?_
          refine w_if rfl (fun heq => ?_) (fun heq => ?_)
          · skip
            refine w_skip (qe_next ?_)
            refine w_block ?_
            refine w_region ?_
            refine sv rfl rfl rfl (ex_move rfl rfl) ?_
            refine sv rfl rfl rfl (ex_add rfl rfl rfl (i64_in (by omega) (by omega))) ?_
            refine sv rfl rfl rfl (ex_assign rfl rfl) ?_
            refine w_nil (qe_in_normal (qe_round (k + 1) ⟨rfl, rfl, rfl, rfl, rfl, rfl, rfl, trivial⟩ ?_ ?_))
            · exact ⟨by omega, by omega, (fun j hj => by
                by_cases e : j = k
                · subst e; rw [hy1, hy2, heq]
                · exact hpre j (by omega)), hx, hxo, hy, hyo, K0⟩
            · omega
          · skip
            refine w_exit (qe_then_exit (qe_then_exit (qe_in_exit (qe_meet (k) ⟨rfl, rfl, rfl, rfl, rfl, rfl, rfl, trivial⟩ ?_))))
            exact ⟨⟨by omega, by omega, hpre, fun hh => by have := hh.2.2; rw [hy1, hy2] at this; exact heq (Option.some.inj this)⟩, hx, hxo, hy, hyo, K0⟩
        · skip
          replace h2 : ¬ k < (ecuts q bs2 bs2.length).1.length := by omega
          first | refine wd_v rfl rfl (by kernel_rfl) rfl rfl rfl (ex_pick_t rfl rfl rfl) ?_ | refine wd_v rfl rfl (by kernel_rfl) rfl rfl rfl (ex_pick_f rfl rfl rfl) ?_
          refine wd_v rfl rfl (by kernel_rfl) rfl rfl rfl (ex_move rfl rfl) ?_
          refine wd_free 10 _ rfl rfl rfl rfl ?_
          first | refine fsk [] rfl rfl rfl rfl rfl rfl rfl ?_ | refine fd [] rfl rfl rfl rfl rfl rfl rfl (fun w' E => ex_move rfl rfl) ?_
          first | refine fsk [] rfl rfl rfl rfl rfl rfl rfl ?_ | refine fd [] rfl rfl rfl rfl rfl rfl rfl (fun w' E => ex_move rfl rfl) ?_
          refine fsk [11, 12] rfl rfl rfl rfl rfl rfl rfl ?_
          refine fsk [13] rfl rfl rfl rfl rfl rfl rfl ?_
          refine fsk [14] rfl rfl rfl rfl rfl rfl rfl ?_
          first | refine fsk [] rfl rfl rfl rfl rfl rfl rfl ?_ | refine fd [] rfl rfl rfl rfl rfl rfl rfl (fun w' E => ex_move rfl rfl) ?_
          first | refine fsk [] rfl rfl rfl rfl rfl rfl rfl ?_ | refine fd [] rfl rfl rfl rfl rfl rfl rfl (fun w' E => ex_move rfl rfl) ?_
          refine fsk [16, 17] rfl rfl rfl rfl rfl rfl rfl ?_
          refine fsk [18] rfl rfl rfl rfl rfl rfl rfl ?_
          refine fsk [19] rfl rfl rfl rfl rfl rfl rfl ?_
          refine .nil (fun w13 Ew13 _ => ?_)
          replace hx := hx.ext Ew13
          replace hxo := hxo.ext Ew13
          replace hy := hy.ext Ew13
          replace hyo := hyo.ext Ew13
          replace K0 := K0.ext Ew13
          refine wd_skip rfl rfl (by kernel_rfl) rfl rfl rfl ?_
          first | refine wd_v rfl rfl (by kernel_rfl) rfl rfl rfl (ex_pick_t rfl rfl rfl) ?_ | refine wd_v rfl rfl (by kernel_rfl) rfl rfl rfl (ex_pick_f rfl rfl rfl) ?_
          refine wd_nil (by decide) rfl ?_
          refine qe_next ?_
          refine w_cond_f rfl ?_
          refine w_exit (qe_then_exit (qe_then_exit (qe_in_exit (qe_meet (k) ⟨rfl, rfl, rfl, rfl, rfl, rfl, rfl, trivial⟩ ?_))))
          exact ⟨⟨by omega, by omega, hpre, fun hh => by have := hh.1; have := hh.2.1; omega⟩, hx, hxo, hy, hyo, K0⟩
      · skip
        replace h1 : ¬ k < (ecuts q bs1 bs1.length).1.length := by omega
        refine wd_v rfl rfl (by kernel_rfl) rfl rfl rfl (ex_move rfl rfl) ?_
        refine wd_free 3 _ rfl rfl rfl rfl ?_
        first | refine fsk [] rfl rfl rfl rfl rfl rfl rfl ?_ | refine fd [] rfl rfl rfl rfl rfl rfl rfl (fun w' E => ex_move rfl rfl) ?_
        first | refine fsk [] rfl rfl rfl rfl rfl rfl rfl ?_ | refine fd [] rfl rfl rfl rfl rfl rfl rfl (fun w' E => ex_move rfl rfl) ?_
        refine fsk [6] rfl rfl rfl rfl rfl rfl rfl ?_
        refine .nil (fun w14 Ew14 _ => ?_)
        replace hx := hx.ext Ew14
        replace hxo := hxo.ext Ew14
        replace hy := hy.ext Ew14
        replace hyo := hyo.ext Ew14
        replace K0 := K0.ext Ew14
        refine wd_skip rfl rfl (by kernel_rfl) rfl rfl rfl ?_
        first | refine wd_v rfl rfl (by kernel_rfl) rfl rfl rfl (ex_pick_t rfl rfl rfl) ?_ | refine wd_v rfl rfl (by kernel_rfl) rfl rfl rfl (ex_pick_f rfl rfl rfl) ?_
        refine wd_v rfl rfl (by kernel_rfl) rfl rfl rfl (ex_move rfl rfl) ?_
        refine wd_free 10 _ rfl rfl rfl rfl ?_
        first | refine fsk [] rfl rfl rfl rfl rfl rfl rfl ?_ | refine fd [] rfl rfl rfl rfl rfl rfl rfl (fun w' E => ex_move rfl rfl) ?_
        first | refine fsk [] rfl rfl rfl rfl rfl rfl rfl ?_ | refine fd [] rfl rfl rfl rfl rfl rfl rfl (fun w' E => ex_move rfl rfl) ?_
        refine fsk [11, 12] rfl rfl rfl rfl rfl rfl rfl ?_
        refine fsk [13] rfl rfl rfl rfl rfl rfl rfl ?_
        refine fsk [14] rfl rfl rfl rfl rfl rfl rfl ?_
        first | refine fsk [] rfl rfl rfl rfl rfl rfl rfl ?_ | refine fd [] rfl rfl rfl rfl rfl rfl rfl (fun w' E => ex_move rfl rfl) ?_
        first | refine fsk [] rfl rfl rfl rfl rfl rfl rfl ?_ | refine fd [] rfl rfl rfl rfl rfl rfl rfl (fun w' E => ex_move rfl rfl) ?_
        refine fsk [16, 17] rfl rfl rfl rfl rfl rfl rfl ?_
        refine fsk [18] rfl rfl rfl rfl rfl rfl rfl ?_
        refine fsk [19] rfl rfl rfl rfl rfl rfl rfl ?_
        refine .nil (fun w15 Ew15 _ => ?_)
        replace hx := hx.ext Ew15
        replace hxo := hxo.ext Ew15
        replace hy := hy.ext Ew15
        replace hyo := hyo.ext Ew15
        replace K0 := K0.ext Ew15
        refine wd_skip rfl rfl (by kernel_rfl) rfl rfl rfl ?_
        first | refine wd_v rfl rfl (by kernel_rfl) rfl rfl rfl (ex_pick_t rfl rfl rfl) ?_ | refine wd_v rfl rfl (by kernel_rfl) rfl rfl rfl (ex_pick_f rfl rfl rfl) ?_
        refine wd_nil (by decide) rfl ?_
        refine qe_next ?_
        refine w_cond_f rfl ?_
        refine w_exit (qe_then_exit (qe_then_exit (qe_in_exit (qe_meet (k) ⟨rfl, rfl, rfl, rfl, rfl, rfl, rfl, trivial⟩ ?_))))
        exact ⟨⟨by omega, by omega, hpre, fun hh => by have := hh.1; have := hh.2.1; omega⟩, hx, hxo, hy, hyo, K0⟩
  · clear hx hxo hy hyo K0
    rintro f w1 ⟨hF3, hx, hxo, hy, hyo, K0⟩
    obtain ⟨hF1, hF2, _, _⟩ := id hF3
    obtain rfl := hF.uniq hF3
    refine w_cut (ι := Nat) (fun mm => [(7, .int .i64 (n : Int)), (8, .int .i64 (m : Int)), (9, .int .i64 0), (12, .int .i64 (n : Int)), (13, .int .i64 (mm : Int))]) (fun mm w1 => IsBack (pieces bs1 0 (ecuts q bs1 bs1.length).1) (pieces bs2 0 (ecuts q bs2 bs2.length).1) n mm ∧ Ext w w1) ?_ ?_
    · skip
      refine w_block ?_
      refine w_loop (ι := Nat) (fun k => [(7, .int .i64 (n : Int)), (8, .int .i64 (m : Int)), (9, .int .i64 0), (10, .slice X (ecuts q bs1 bs1.length).1.length dX), (11, .slice Y (ecuts q bs2 bs2.length).1.length dY), (12, .int .i64 (n : Int)), (13, .int .i64 (k : Int))]) (fun k w1 => n + k ≤ (pieces bs1 0 (ecuts q bs1 bs1.length).1).length ∧ n + k ≤ (pieces bs2 0 (ecuts q bs2 bs2.length).1).length ∧ (∀ j, j < k → (pieces bs1 0 (ecuts q bs1 bs1.length).1)[(pieces bs1 0 (ecuts q bs1 bs1.length).1).length - 1 - j]? = (pieces bs2 0 (ecuts q bs2 bs2.length).1)[(pieces bs2 0 (ecuts q bs2 bs2.length).1).length - 1 - j]?) ∧ Own w1 w.heap.size 25 1 X (ecuts q bs1 bs1.length).1.length dX (sl1.map slv) ∧ Owns w1 w.heap.size sl1 (pieces bs1 0 (ecuts q bs1 bs1.length).1) ∧ Own w1 w.heap.size 25 1 Y (ecuts q bs2 bs2.length).1.length dY (sl2.map slv) ∧ Owns w1 w.heap.size sl2 (pieces bs2 0 (ecuts q bs2 bs2.length).1) ∧ Ext w w1) (fun k => (pieces bs1 0 (ecuts q bs1 bs1.length).1).length - k) (0) ⟨rfl, rfl, rfl, rfl, rfl, rfl, rfl, trivial⟩ ?_ ?_
      · exact ⟨by omega, by omega, fun j hj => by omega, hx, hxo, hy, hyo, K0⟩
      · clear hx hxo hy hyo K0
        rintro k w1 ⟨hk1, hk2, hpre, hx, hxo, hy, hyo, K0⟩
        refine w_seq ?_
        refine w_seq ?_
        refine w_draw mixed (fun w16 _ Ew16 => ?_)
        replace hx := hx.ext Ew16
        replace hxo := hxo.ext Ew16
        replace hy := hy.ext Ew16
        replace hyo := hyo.ext Ew16
        replace K0 := K0.ext Ew16
        refine wd_free 5 _ rfl rfl rfl rfl ?_
        refine fd [] rfl rfl rfl rfl rfl rfl rfl (fun w' E => ex_move rfl rfl) ?_
        refine fd [] rfl rfl rfl rfl rfl rfl rfl (fun w' E => ex_move rfl rfl) ?_
        refine fd [1] rfl rfl rfl rfl rfl rfl rfl (fun w' E => ex_len Tryd.underlying32 rfl rfl) ?_
        refine fd [] rfl rfl rfl rfl rfl rfl rfl (fun w' E => ex_move rfl rfl) ?_
        refine fd [2, 3] rfl rfl rfl rfl rfl rfl rfl (fun w' E => ex_sub rfl rfl rfl (i64_in (by omega) (by omega))) ?_
        refine .nil (fun w17 Ew17 _ => ?_)
        replace hx := hx.ext Ew17
        replace hxo := hxo.ext Ew17
        replace hy := hy.ext Ew17
        replace hyo := hyo.ext Ew17
        replace K0 := K0.ext Ew17
        refine wd_if rfl rfl (by kernel_rfl) rfl rfl rfl (ex_cmp rfl rfl rfl rfl) (fun h1 => ?_) (fun h1 => ?_)
        · skip
          replace h1 : n + k < (ecuts q bs1 bs1.length).1.length := by omega
          refine wd_v rfl rfl (by kernel_rfl) rfl rfl rfl (ex_move rfl rfl) ?_
          refine wd_free 5 _ rfl rfl rfl rfl ?_
          first | refine fsk [] rfl rfl rfl rfl rfl rfl rfl ?_ | refine fd [] rfl rfl rfl rfl rfl rfl rfl (fun w' E => ex_move rfl rfl) ?_
          first | refine fsk [] rfl rfl rfl rfl rfl rfl rfl ?_ | refine fd [] rfl rfl rfl rfl rfl rfl rfl (fun w' E => ex_move rfl rfl) ?_
          first | refine fsk [8] rfl rfl rfl rfl rfl rfl rfl ?_ | refine fd [8] rfl rfl rfl rfl rfl rfl rfl (fun w' E => ex_len Tryd.underlying32 rfl rfl) ?_
          first | refine fsk [] rfl rfl rfl rfl rfl rfl rfl ?_ | refine fd [] rfl rfl rfl rfl rfl rfl rfl (fun w' E => ex_move rfl rfl) ?_
          first | refine fsk [9, 10] rfl rfl rfl rfl rfl rfl rfl ?_ | refine fd [9, 10] rfl rfl rfl rfl rfl rfl rfl (fun w' E => ex_sub rfl rfl rfl (i64_in (by omega) (by omega))) ?_
          refine .nil (fun w18 Ew18 _ => ?_)
          replace hx := hx.ext Ew18
          replace hxo := hxo.ext Ew18
          replace hy := hy.ext Ew18
          replace hyo := hyo.ext Ew18
          replace K0 := K0.ext Ew18
          refine wd_if rfl rfl (by kernel_rfl) rfl rfl rfl (ex_cmp rfl rfl rfl rfl) (fun h2 => ?_) (fun h2 => ?_)
          · skip
            replace h2 : n + k < (ecuts q bs2 bs2.length).1.length := by omega
            first | refine wd_v rfl rfl (by kernel_rfl) rfl rfl rfl (ex_pick_t rfl rfl rfl) ?_ | refine wd_v rfl rfl (by kernel_rfl) rfl rfl rfl (ex_pick_f rfl rfl rfl) ?_
            refine wd_v rfl rfl (by kernel_rfl) rfl rfl rfl (ex_move rfl rfl) ?_
            obtain ⟨b1, o1, u1, rfl, _, _, hu1, hc1⟩ := hx.rd.at_ (k := (pieces bs1 0 (ecuts q bs1 bs1.length).1).length - 1 - k) (by omega)
            rw [List.getElem?_map] at hu1
            obtain ⟨s1, hs1, rfl⟩ := Option.map_eq_some_iff.1 hu1
            obtain ⟨y1, hy1, hl1, hd1⟩ := hxo.get hs1
            obtain ⟨b2, o2, u2, rfl, _, _, hu2, hc2⟩ := hy.rd.at_ (k := (pieces bs2 0 (ecuts q bs2 bs2.length).1).length - 1 - k) (by omega)
            rw [List.getElem?_map] at hu2
            obtain ⟨s2, hs2, rfl⟩ := Option.map_eq_some_iff.1 hu2
            obtain ⟨y2, hy2, hl2, hd2⟩ := hyo.get hs2
            rw [hM1] at hc1
            rw [hM2] at hc2
            refine wd_free 18 _ rfl rfl rfl rfl ?_
            first | refine fsk [] rfl rfl rfl rfl rfl rfl rfl ?_ | refine fd [] rfl rfl rfl rfl rfl rfl rfl (fun w' E => ex_move rfl rfl) ?_
            first | refine fsk [] rfl rfl rfl rfl rfl rfl rfl ?_ | refine fd [] rfl rfl rfl rfl rfl rfl rfl (fun w' E => ex_move rfl rfl) ?_
            first | refine fsk [16] rfl rfl rfl rfl rfl rfl rfl ?_ | refine fd [16] rfl rfl rfl rfl rfl rfl rfl (fun w' E => ex_len Tryd.underlying32 rfl rfl) ?_
            first | refine fsk [17] rfl rfl rfl rfl rfl rfl rfl ?_ | refine fd [17] rfl rfl rfl rfl rfl rfl rfl (fun w' E => ex_sub rfl rfl rfl (i64_in (by omega) (by omega))) ?_
            first | refine fsk [] rfl rfl rfl rfl rfl rfl rfl ?_ | refine fd [] rfl rfl rfl rfl rfl rfl rfl (fun w' E => ex_move rfl rfl) ?_
            first | refine fsk [18, 19] rfl rfl rfl rfl rfl rfl rfl ?_ | refine fd [18, 19] rfl rfl rfl rfl rfl rfl rfl (fun w' E => ex_sub rfl rfl rfl (i64_in (by omega) (by omega))) ?_
            first | refine fsk [15, 20] rfl rfl rfl rfl rfl rfl rfl ?_ | refine fd [15, 20] rfl rfl rfl rfl rfl rfl rfl (fun w' E => ex_index Tryd.underlying32 sz25 ((ecuts q bs1 bs1.length).1.length - 1 - k) rfl rfl rfl (by omega) (by omega)) ?_
            first | refine fsk [21] rfl rfl rfl rfl rfl rfl rfl ?_ | refine fd [21] rfl rfl rfl rfl rfl rfl rfl (fun w' E => ex_load (v := .slice s1.1 s1.2.1 s1.2.2) one25 rfl rfl (E.cell trivial hc1)) ?_
            first | refine fsk [22] rfl rfl rfl rfl rfl rfl rfl ?_ | refine fd [22] rfl rfl rfl rfl rfl rfl rfl (fun w' E => ex_strm hl1 Tryd.underlying25 Tryd.underlying5 Tryd.underlying9 rfl rfl (hd1.rd.ext E)) ?_
            first | refine fsk [] rfl rfl rfl rfl rfl rfl rfl ?_ | refine fd [] rfl rfl rfl rfl rfl rfl rfl (fun w' E => ex_move rfl rfl) ?_
            first | refine fsk [] rfl rfl rfl rfl rfl rfl rfl ?_ | refine fd [] rfl rfl rfl rfl rfl rfl rfl (fun w' E => ex_move rfl rfl) ?_
            first | refine fsk [25] rfl rfl rfl rfl rfl rfl rfl ?_ | refine fd [25] rfl rfl rfl rfl rfl rfl rfl (fun w' E => ex_len Tryd.underlying32 rfl rfl) ?_
            first | refine fsk [26] rfl rfl rfl rfl rfl rfl rfl ?_ | refine fd [26] rfl rfl rfl rfl rfl rfl rfl (fun w' E => ex_sub rfl rfl rfl (i64_in (by omega) (by omega))) ?_
            first | refine fsk [] rfl rfl rfl rfl rfl rfl rfl ?_ | refine fd [] rfl rfl rfl rfl rfl rfl rfl (fun w' E => ex_move rfl rfl) ?_
            first | refine fsk [27, 28] rfl rfl rfl rfl rfl rfl rfl ?_ | refine fd [27, 28] rfl rfl rfl rfl rfl rfl rfl (fun w' E => ex_sub rfl rfl rfl (i64_in (by omega) (by omega))) ?_
            first | refine fsk [24, 29] rfl rfl rfl rfl rfl rfl rfl ?_ | refine fd [24, 29] rfl rfl rfl rfl rfl rfl rfl (fun w' E => ex_index Tryd.underlying32 sz25 ((ecuts q bs2 bs2.length).1.length - 1 - k) rfl rfl rfl (by omega) (by omega)) ?_
            first | refine fsk [30] rfl rfl rfl rfl rfl rfl rfl ?_ | refine fd [30] rfl rfl rfl rfl rfl rfl rfl (fun w' E => ex_load (v := .slice s2.1 s2.2.1 s2.2.2) one25 rfl rfl (E.cell trivial hc2)) ?_
            first | refine fsk [31] rfl rfl rfl rfl rfl rfl rfl ?_ | refine fd [31] rfl rfl rfl rfl rfl rfl rfl (fun w' E => ex_strm hl2 Tryd.underlying25 Tryd.underlying5 Tryd.underlying9 rfl rfl (hd2.rd.ext E)) ?_
            refine .nil (fun w19 Ew19 _ => ?_)
            replace hx := hx.ext Ew19
            replace hxo := hxo.ext Ew19
            replace hy := hy.ext Ew19
            replace hyo := hyo.ext Ew19
            replace K0 := K0.ext Ew19
            first | refine wd_skip rfl rfl (by kernel_rfl) rfl rfl rfl ?_ | refine wd_v rfl rfl (by kernel_rfl) rfl rfl rfl (ex_streq rfl rfl rfl) ?_
            first | refine wd_v rfl rfl (by kernel_rfl) rfl rfl rfl (ex_pick_t rfl rfl rfl) ?_ | refine wd_v rfl rfl (by kernel_rfl) rfl rfl rfl (ex_pick_f rfl rfl rfl) ?_
            refine wd_nil (by decide) rfl ?_
            refine qe_next ?_
            refine w_if rfl (fun heq => ?_) (fun heq => ?_)
            · skip
              refine w_skip (qe_next ?_)
              refine w_block ?_
              refine w_region ?_
              refine sv rfl rfl rfl (ex_move rfl rfl) ?_
              refine sv rfl rfl rfl (ex_add rfl rfl rfl (i64_in (by omega) (by omega))) ?_
              refine sv rfl rfl rfl (ex_assign rfl rfl) ?_
              refine w_nil (qe_in_normal (qe_round (k + 1) ⟨rfl, rfl, rfl, rfl, rfl, rfl, rfl, trivial⟩ ?_ ?_))
              · exact ⟨by omega, by omega, (fun j hj => by
                  by_cases e : j = k
                  · subst e; rw [hy1, hy2, heq]
                  · exact hpre j (by omega)), hx, hxo, hy, hyo, K0⟩
              · omega
            · skip
              refine w_exit (qe_then_exit (qe_then_exit (qe_in_exit (qe_meet (k) ⟨rfl, rfl, rfl, rfl, rfl, trivial⟩ ?_))))
              exact ⟨⟨by omega, by omega, hpre, fun hh => by have := hh.2.2; rw [hy1, hy2] at this; exact heq (Option.some.inj this)⟩, K0⟩
          · skip
            replace h2 : ¬ n + k < (ecuts q bs2 bs2.length).1.length := by omega
            first | refine wd_v rfl rfl (by kernel_rfl) rfl rfl rfl (ex_pick_t rfl rfl rfl) ?_ | refine wd_v rfl rfl (by kernel_rfl) rfl rfl rfl (ex_pick_f rfl rfl rfl) ?_
            refine wd_v rfl rfl (by kernel_rfl) rfl rfl rfl (ex_move rfl rfl) ?_
            refine wd_free 18 _ rfl rfl rfl rfl ?_
            first | refine fsk [] rfl rfl rfl rfl rfl rfl rfl ?_ | refine fd [] rfl rfl rfl rfl rfl rfl rfl (fun w' E => ex_move rfl rfl) ?_
            first | refine fsk [] rfl rfl rfl rfl rfl rfl rfl ?_ | refine fd [] rfl rfl rfl rfl rfl rfl rfl (fun w' E => ex_move rfl rfl) ?_
            refine fsk [16] rfl rfl rfl rfl rfl rfl rfl ?_
            refine fsk [17] rfl rfl rfl rfl rfl rfl rfl ?_
            first | refine fsk [] rfl rfl rfl rfl rfl rfl rfl ?_ | refine fd [] rfl rfl rfl rfl rfl rfl rfl (fun w' E => ex_move rfl rfl) ?_
            refine fsk [18, 19] rfl rfl rfl rfl rfl rfl rfl ?_
            refine fsk [15, 20] rfl rfl rfl rfl rfl rfl rfl ?_
            refine fsk [21] rfl rfl rfl rfl rfl rfl rfl ?_
            refine fsk [22] rfl rfl rfl rfl rfl rfl rfl ?_
            first | refine fsk [] rfl rfl rfl rfl rfl rfl rfl ?_ | refine fd [] rfl rfl rfl rfl rfl rfl rfl (fun w' E => ex_move rfl rfl) ?_
            first | refine fsk [] rfl rfl rfl rfl rfl rfl rfl ?_ | refine fd [] rfl rfl rfl rfl rfl rfl rfl (fun w' E => ex_move rfl rfl) ?_
            refine fsk [25] rfl rfl rfl rfl rfl rfl rfl ?_
            refine fsk [26] rfl rfl rfl rfl rfl rfl rfl ?_
            first | refine fsk [] rfl rfl rfl rfl rfl rfl rfl ?_ | refine fd [] rfl rfl rfl rfl rfl rfl rfl (fun w' E => ex_move rfl rfl) ?_
            refine fsk [27, 28] rfl rfl rfl rfl rfl rfl rfl ?_
            refine fsk [24, 29] rfl rfl rfl rfl rfl rfl rfl ?_
            refine fsk [30] rfl rfl rfl rfl rfl rfl rfl ?_
            refine fsk [31] rfl rfl rfl rfl rfl rfl rfl ?_
            refine .nil (fun w20 Ew20 _ => ?_)
            replace hx := hx.ext Ew20
            replace hxo := hxo.ext Ew20
            replace hy := hy.ext Ew20
            replace hyo := hyo.ext Ew20
            replace K0 := K0.ext Ew20
            refine wd_skip rfl rfl (by kernel_rfl) rfl rfl rfl ?_
            first | refine wd_v rfl rfl (by kernel_rfl) rfl rfl rfl (ex_pick_t rfl rfl rfl) ?_ | refine wd_v rfl rfl (by kernel_rfl) rfl rfl rfl (ex_pick_f rfl rfl rfl) ?_
            refine wd_nil (by decide) rfl ?_
            refine qe_next ?_
            refine w_cond_f rfl ?_
            refine w_exit (qe_then_exit (qe_then_exit (qe_in_exit (qe_meet (k) ⟨rfl, rfl, rfl, rfl, rfl, trivial⟩ ?_))))
            exact ⟨⟨by omega, by omega, hpre, fun hh => by have := hh.1; have := hh.2.1; omega⟩, K0⟩
        · skip
          replace h1 : ¬ n + k < (ecuts q bs1 bs1.length).1.length := by omega
          refine wd_v rfl rfl (by kernel_rfl) rfl rfl rfl (ex_move rfl rfl) ?_
          refine wd_free 5 _ rfl rfl rfl rfl ?_
          first | refine fsk [] rfl rfl rfl rfl rfl rfl rfl ?_ | refine fd [] rfl rfl rfl rfl rfl rfl rfl (fun w' E => ex_move rfl rfl) ?_
          first | refine fsk [] rfl rfl rfl rfl rfl rfl rfl ?_ | refine fd [] rfl rfl rfl rfl rfl rfl rfl (fun w' E => ex_move rfl rfl) ?_
          refine fsk [8] rfl rfl rfl rfl rfl rfl rfl ?_
          first | refine fsk [] rfl rfl rfl rfl rfl rfl rfl ?_ | refine fd [] rfl rfl rfl rfl rfl rfl rfl (fun w' E => ex_move rfl rfl) ?_
          refine fsk [9, 10] rfl rfl rfl rfl rfl rfl rfl ?_
          refine .nil (fun w21 Ew21 _ => ?_)
          replace hx := hx.ext Ew21
          replace hxo := hxo.ext Ew21
          replace hy := hy.ext Ew21
          replace hyo := hyo.ext Ew21
          replace K0 := K0.ext Ew21
          refine wd_skip rfl rfl (by kernel_rfl) rfl rfl rfl ?_
          first | refine wd_v rfl rfl (by kernel_rfl) rfl rfl rfl (ex_pick_t rfl rfl rfl) ?_ | refine wd_v rfl rfl (by kernel_rfl) rfl rfl rfl (ex_pick_f rfl rfl rfl) ?_
          refine wd_v rfl rfl (by kernel_rfl) rfl rfl rfl (ex_move rfl rfl) ?_
          refine wd_free 18 _ rfl rfl rfl rfl ?_
          first | refine fsk [] rfl rfl rfl rfl rfl rfl rfl ?_ | refine fd [] rfl rfl rfl rfl rfl rfl rfl (fun w' E => ex_move rfl rfl) ?_
          first | refine fsk [] rfl rfl rfl rfl rfl rfl rfl ?_ | refine fd [] rfl rfl rfl rfl rfl rfl rfl (fun w' E => ex_move rfl rfl) ?_
          refine fsk [16] rfl rfl rfl rfl rfl rfl rfl ?_
          refine fsk [17] rfl rfl rfl rfl rfl rfl rfl ?_
          first | refine fsk [] rfl rfl rfl rfl rfl rfl rfl ?_ | refine fd [] rfl rfl rfl rfl rfl rfl rfl (fun w' E => ex_move rfl rfl) ?_
          refine fsk [18, 19] rfl rfl rfl rfl rfl rfl rfl ?_
          refine fsk [15, 20] rfl rfl rfl rfl rfl rfl rfl ?_
          refine fsk [21] rfl rfl rfl rfl rfl rfl rfl ?_
          refine fsk [22] rfl rfl rfl rfl rfl rfl rfl ?_
          first | refine fsk [] rfl rfl rfl rfl rfl rfl rfl ?_ | refine fd [] rfl rfl rfl rfl rfl rfl rfl (fun w' E => ex_move rfl rfl) ?_
          first | refine fsk [] rfl rfl rfl rfl rfl rfl rfl ?_ | refine fd [] rfl rfl rfl rfl rfl rfl rfl (fun w' E => ex_move rfl rfl) ?_
          refine fsk [25] rfl rfl rfl rfl rfl rfl rfl ?_
          refine fsk [26] rfl rfl rfl rfl rfl rfl rfl ?_
          first | refine fsk [] rfl rfl rfl rfl rfl rfl rfl ?_ | refine fd [] rfl rfl rfl rfl rfl rfl rfl (fun w' E => ex_move rfl rfl) ?_
          refine fsk [27, 28] rfl rfl rfl rfl rfl rfl rfl ?_
          refine fsk [24, 29] rfl rfl rfl rfl rfl rfl rfl ?_
          refine fsk [30] rfl rfl rfl rfl rfl rfl rfl ?_
          refine fsk [31] rfl rfl rfl rfl rfl rfl rfl ?_
          refine .nil (fun w22 Ew22 _ => ?_)
          replace hx := hx.ext Ew22
          replace hxo := hxo.ext Ew22
          replace hy := hy.ext Ew22
          replace hyo := hyo.ext Ew22
          replace K0 := K0.ext Ew22
          refine wd_skip rfl rfl (by kernel_rfl) rfl rfl rfl ?_
          first | refine wd_v rfl rfl (by kernel_rfl) rfl rfl rfl (ex_pick_t rfl rfl rfl) ?_ | refine wd_v rfl rfl (by kernel_rfl) rfl rfl rfl (ex_pick_f rfl rfl rfl) ?_
          refine wd_nil (by decide) rfl ?_
          refine qe_next ?_
          refine w_cond_f rfl ?_
          refine w_exit (qe_then_exit (qe_then_exit (qe_in_exit (qe_meet (k) ⟨rfl, rfl, rfl, rfl, rfl, trivial⟩ ?_))))
          exact ⟨⟨by omega, by omega, hpre, fun hh => by have := hh.1; have := hh.2.1; omega⟩, K0⟩
    · clear hx hxo hy hyo K0
      rintro mm w1 ⟨hB3, K0⟩
      obtain rfl := hB.uniq hB3
      refine w_seq ?_
      refine w_region ?_
      refine st rfl rfl rfl (ex_call call16 rfl rfl (awake16_c _ (hT.ext K0))) ?_
      rintro _ w23 ⟨rfl, E9⟩
      replace K0 := K0.ext E9
      refine sv rfl rfl rfl (ex_move rfl rfl) ?_
      first | refine sk rfl rfl rfl ?_ | refine sv rfl rfl rfl (ex_move rfl rfl) ?_
      first | refine sk rfl rfl rfl ?_ | refine sv rfl rfl rfl (ex_cmp rfl rfl rfl (congrArg some (decide_eq_true (rfl)))) ?_
      first | refine sv rfl rfl rfl (ex_pick_t rfl rfl rfl) ?_ | refine sv rfl rfl rfl (ex_pick_f rfl rfl rfl) ?_
      refine sv rfl rfl rfl (ex_move rfl rfl) ?_
      first | refine sk rfl rfl rfl ?_ | refine sv rfl rfl rfl (ex_move rfl rfl) ?_
      first | refine sk rfl rfl rfl ?_ | refine sv rfl rfl rfl (ex_move rfl rfl) ?_
      first | refine sk rfl rfl rfl ?_ | refine sv rfl rfl rfl (ex_cmp rfl rfl rfl (congrArg some (decide_eq_true (rfl)))) ?_
      first | refine sv rfl rfl rfl (ex_pick_t rfl rfl rfl) ?_ | refine sv rfl rfl rfl (ex_pick_f rfl rfl rfl) ?_
      refine sv rfl rfl rfl (ex_move rfl rfl) ?_
      first | refine sk rfl rfl rfl ?_ | refine sv rfl rfl rfl (ex_move rfl rfl) ?_
      first | refine sk rfl rfl rfl ?_ | refine sv rfl rfl rfl (ex_move rfl rfl) ?_
      first | refine sk rfl rfl rfl ?_ | refine sv rfl rfl rfl (ex_cmp rfl rfl rfl (congrArg some (decide_eq_true (rfl)))) ?_
      first | refine sv rfl rfl rfl (ex_pick_t rfl rfl rfl) ?_ | refine sv rfl rfl rfl (ex_pick_f rfl rfl rfl) ?_
      refine sv rfl rfl rfl (ex_assign rfl rfl) ?_
      refine w_nil (qe_next ?_)
      refine w_ret (qe_ret1 rfl rfl ?_)
      exact ⟨rfl, K0⟩
theorem common_law (c0 : Cut) (A1 : Option Addr) (c1 lo1 hi1 : Nat) (bs1 : List UInt8) (A2 : Option Addr) (c2 lo2 hi2 : Nat) (bs2 : List UInt8) (w : World) (hr1 : Rd w lo1 hi1 1 A1 bs1.length (bcells bs1)) (hhi1 : hi1 ≤ w.heap.size) (hmc1 : bs1.length ≤ c1) (hr2 : Rd w lo2 hi2 1 A2 bs2.length (bcells bs2)) (hhi2 : hi2 ≤ w.heap.size) (hmc2 : bs2.length ≤ c2) (hT : TabAt w) : Ret Tryd.prog 3 [c0.val, .slice A1 bs1.length c1, .slice A2 bs2.length c2] w fun v w' => v = .bool true ∧ Ext w w' := by
  by_cases h : c0.ok ∧ c0.mn ≤ 40
  · by_cases h3 : bs1.length ≤ 300 ∧ bs2.length ≤ 300
    · obtain ⟨q, rfl⟩ := h.1.vut
      exact common_good q A1 c1 lo1 hi1 bs1 A2 c2 lo2 hi2 bs2 w hr1 hhi1 hmc1 hr2 hhi2 hmc2 h h3 hT
    · exact common_bad2 c0 A1 c1 lo1 hi1 bs1 A2 c2 lo2 hi2 bs2 w hr1 hhi1 hmc1 hr2 hhi2 hmc2 h h3 hT
  · exact common_bad1 c0 A1 c1 lo1 hi1 bs1 A2 c2 lo2 hi2 bs2 w hr1 hhi1 hmc1 hr2 hhi2 hmc2 h hT
end Go.Proofs.YtfgpcmphcnhbiaaDoor

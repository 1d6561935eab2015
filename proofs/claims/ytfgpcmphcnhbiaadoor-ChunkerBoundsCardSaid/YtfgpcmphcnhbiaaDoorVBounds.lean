/- The law ChunkerBounds, walked. -/
import Derived.Test.YtfgpcmphcnhbiaaDoorP3
namespace Go.Proofs.YtfgpcmphcnhbiaaDoor
open Go Go.RowKit
set_option linter.unusedVariables false
set_option linter.unusedSimpArgs false
/-- kinkeep/kinkeeplaw16.ChunkerBounds -/
theorem bounds_bad1 (c0 : Cut) (A : Option Addr) (c lo hi : Nat) (bs : List UInt8) (w : World) (hr : Rd w lo hi 1 A bs.length (bcells bs)) (hhi : hi ≤ w.heap.size) (hmc : bs.length ≤ c) (h : ¬ c0.ok) (hT : TabAt w) :
    Ret Tryd.prog 13 [c0.val, .slice A bs.length c] w fun v w' => v = .bool true ∧ Ext w w' := by
  have K0 : Ext w w := Keep.refl _ _
  refine ret_of Tryd.func13 rfl rfl ?_
  refine w_seq ?_
  refine w_region ?_
  refine st rfl rfl rfl (ex_box (cs := c0.cells) rfl rfl rfl) ?_
  rintro _ w1 ⟨b1, rfl, hb0, E0, hb, hs0⟩
  replace K0 := K0.ext E0
  refine sv rfl rfl rfl (ex_assign rfl rfl) ?_
  refine w_nil (qe_next ?_)
  refine w_seq ?_
  refine w_seq ?_
  refine w_region ?_
  refine sv rfl rfl rfl (ex_load_agg (cs := c0.cells) agg24 rfl rfl (by intro j u hu; rw [Nat.zero_add]; exact hb.cell hu)) ?_
  refine st rfl rfl rfl (ex_call call19 rfl rfl ((refValid_c c0 _).mono (R' := fun v w' => v = .bool false ∧ Ext _ w') fun v w' h' => ⟨by rw [h'.1, decide_eq_false (h)], h'.2⟩)) ?_
  rintro _ w2 ⟨rfl, E1⟩
  replace K0 := K0.ext E1
  replace hb := hb.ext E1
  refine sv rfl rfl rfl (ex_not rfl rfl) ?_
  refine sv rfl rfl rfl (ex_move rfl rfl) ?_
  first | refine sk rfl rfl rfl ?_ | refine sv rfl rfl rfl (ex_move rfl rfl) ?_
  refine sk rfl rfl rfl ?_
  refine sk rfl rfl rfl ?_
  refine sk rfl rfl rfl ?_
  first | refine sv rfl rfl rfl (ex_pick_t rfl rfl rfl) ?_ | refine sv rfl rfl rfl (ex_pick_f rfl rfl rfl) ?_
  refine w_nil (qe_next ?_)
  refine w_cond_t rfl ?_
  refine w_seq ?_
  refine w_region ?_
  refine st rfl rfl rfl (ex_call call16 rfl rfl (awake16_c _ (hT.ext K0))) ?_
  rintro _ w3 ⟨rfl, E9⟩
  replace K0 := K0.ext E9
  replace hb := hb.ext E9
  refine sv rfl rfl rfl (ex_assign rfl rfl) ?_
  refine w_nil (qe_next ?_)
  refine w_ret (qe_then_ret (qe_ret1 rfl rfl ?_))
  exact ⟨rfl, K0⟩
/-- kinkeep/kinkeeplaw16.ChunkerBounds -/
theorem bounds_bad2 (c0 : Cut) (A : Option Addr) (c lo hi : Nat) (bs : List UInt8) (w : World) (hr : Rd w lo hi 1 A bs.length (bcells bs)) (hhi : hi ≤ w.heap.size) (hmc : bs.length ≤ c) (h : c0.ok) (h3 : ¬ bs.length ≤ 300) (hT : TabAt w) :
    Ret Tryd.prog 13 [c0.val, .slice A bs.length c] w fun v w' => v = .bool true ∧ Ext w w' := by
  have K0 : Ext w w := Keep.refl _ _
  refine ret_of Tryd.func13 rfl rfl ?_
  refine w_seq ?_
  refine w_region ?_
  refine st rfl rfl rfl (ex_box (cs := c0.cells) rfl rfl rfl) ?_
  rintro _ w1 ⟨b1, rfl, hb0, E0, hb, hs0⟩
  replace K0 := K0.ext E0
  refine sv rfl rfl rfl (ex_assign rfl rfl) ?_
  refine w_nil (qe_next ?_)
  refine w_seq ?_
  refine w_seq ?_
  refine w_region ?_
  refine sv rfl rfl rfl (ex_load_agg (cs := c0.cells) agg24 rfl rfl (by intro j u hu; rw [Nat.zero_add]; exact hb.cell hu)) ?_
  refine st rfl rfl rfl (ex_call call19 rfl rfl ((refValid_c c0 _).mono (R' := fun v w' => v = .bool true ∧ Ext _ w') fun v w' h' => ⟨by rw [h'.1, decide_eq_true (h)], h'.2⟩)) ?_
  rintro _ w2 ⟨rfl, E1⟩
  replace K0 := K0.ext E1
  replace hb := hb.ext E1
  refine sv rfl rfl rfl (ex_not rfl rfl) ?_
  refine sv rfl rfl rfl (ex_move rfl rfl) ?_
  first | refine sk rfl rfl rfl ?_ | refine sv rfl rfl rfl (ex_move rfl rfl) ?_
  refine st rfl rfl rfl (ex_buildSlice (cs := [slv (A, bs.length, c)]) rfl rfl (build_bs1 (A, bs.length, c))) ?_
  rintro _ w3 ⟨g, rfl, hg0, E3, hb7, hs7⟩
  replace K0 := K0.ext E3
  replace hb := hb.ext E3
  refine st rfl rfl rfl (ex_call call15 rfl rfl ((few_c (some ⟨g, 0, none⟩) 1 1 _ _ [(A, bs.length, c)] _ rfl (by decide) (Rd.of_blk (size := 1) hb7 rfl)).mono (R' := fun v w' => v = .bool false ∧ w' = _) fun v w' h' => ⟨by rw [h'.1, decide_eq_false (fun hh => h3 (hh _ List.mem_cons_self))], h'.2⟩)) ?_
  rintro _ w4 ⟨rfl, hwe⟩
  obtain rfl := hwe.symm
  first | refine sk rfl rfl rfl ?_ | refine sv rfl rfl rfl (ex_not rfl rfl) ?_
  first | refine sv rfl rfl rfl (ex_pick_t rfl rfl rfl) ?_ | refine sv rfl rfl rfl (ex_pick_f rfl rfl rfl) ?_
  refine w_nil (qe_next ?_)
  refine w_cond_t rfl ?_
  refine w_seq ?_
  refine w_region ?_
  refine st rfl rfl rfl (ex_call call16 rfl rfl (awake16_c _ (hT.ext K0))) ?_
  rintro _ w5 ⟨rfl, E9⟩
  replace K0 := K0.ext E9
  replace hb := hb.ext E9
  refine sv rfl rfl rfl (ex_assign rfl rfl) ?_
  refine w_nil (qe_next ?_)
  refine w_ret (qe_then_ret (qe_ret1 rfl rfl ?_))
  exact ⟨rfl, K0⟩
/-- kinkeep/kinkeeplaw16.ChunkerBounds -/
theorem bounds_good (q : Vut) (A : Option Addr) (c lo hi : Nat) (bs : List UInt8) (w : World) (hr : Rd w lo hi 1 A bs.length (bcells bs)) (hhi : hi ≤ w.heap.size) (hmc : bs.length ≤ c) (h : q.cut.ok) (h3 : bs.length ≤ 300) (hT : TabAt w) :
    Ret Tryd.prog 13 [q.cut.val, .slice A bs.length c] w fun v w' => v = .bool true ∧ Ext w w' := by
  have K0 : Ext w w := Keep.refl _ _
  skip
  have hq0 : q.cut.mn = (q.mn : Int) := rfl
  have hq1 : q.cut.mx = (q.mx : Int) := rfl
  have hq2 : q.cut.wi = (q.wi : Int) := rfl
  have hq3 : q.cut.bi = (q.bi : Int) := rfl
  have hv1 := q.h1
  have hv2 := q.h2
  have hv3 := q.h3
  have hv4 := q.h4
  have hv5 := q.h5
  have hv6 := q.h6
  refine ret_of Tryd.func13 rfl rfl ?_
  refine w_seq ?_
  refine w_region ?_
  refine st rfl rfl rfl (ex_box (cs := q.cut.cells) rfl rfl rfl) ?_
  rintro _ w1 ⟨b1, rfl, hb0, E0, hb, hs0⟩
  replace K0 := K0.ext E0
  refine sv rfl rfl rfl (ex_assign rfl rfl) ?_
  refine w_nil (qe_next ?_)
  refine w_seq ?_
  refine w_seq ?_
  refine w_region ?_
  refine sv rfl rfl rfl (ex_load_agg (cs := q.cut.cells) agg24 rfl rfl (by intro j u hu; rw [Nat.zero_add]; exact hb.cell hu)) ?_
  refine st rfl rfl rfl (ex_call call19 rfl rfl ((refValid_c q.cut _).mono (R' := fun v w' => v = .bool true ∧ Ext _ w') fun v w' h' => ⟨by rw [h'.1, decide_eq_true (h)], h'.2⟩)) ?_
  rintro _ w2 ⟨rfl, E1⟩
  replace K0 := K0.ext E1
  replace hb := hb.ext E1
  refine sv rfl rfl rfl (ex_not rfl rfl) ?_
  refine sv rfl rfl rfl (ex_move rfl rfl) ?_
  first | refine sk rfl rfl rfl ?_ | refine sv rfl rfl rfl (ex_move rfl rfl) ?_
  refine st rfl rfl rfl (ex_buildSlice (cs := [slv (A, bs.length, c)]) rfl rfl (build_bs1 (A, bs.length, c))) ?_
  rintro _ w3 ⟨g, rfl, hg0, E3, hb7, hs7⟩
  replace K0 := K0.ext E3
  replace hb := hb.ext E3
  refine st rfl rfl rfl (ex_call call15 rfl rfl ((few_c (some ⟨g, 0, none⟩) 1 1 _ _ [(A, bs.length, c)] _ rfl (by decide) (Rd.of_blk (size := 1) hb7 rfl)).mono (R' := fun v w' => v = .bool true ∧ w' = _) fun v w' h' => ⟨by rw [h'.1, decide_eq_true (by intro x hx; rw [List.mem_singleton.1 hx]; exact h3)], h'.2⟩)) ?_
  rintro _ w4 ⟨rfl, hwe⟩
  obtain rfl := hwe.symm
  first | refine sk rfl rfl rfl ?_ | refine sv rfl rfl rfl (ex_not rfl rfl) ?_
  first | refine sv rfl rfl rfl (ex_pick_t rfl rfl rfl) ?_ | refine sv rfl rfl rfl (ex_pick_f rfl rfl rfl) ?_
  refine w_nil (qe_next ?_)
  refine w_cond_f rfl ?_
  refine w_skip (qe_next ?_)
  refine w_seq ?_
  refine w_region ?_
  refine sv rfl rfl rfl (ex_load_agg (cs := q.cut.cells) agg24 rfl rfl (by intro j u hu; rw [Nat.zero_add]; exact hb.cell hu)) ?_
  refine sv rfl rfl rfl (ex_move rfl rfl) ?_
  have hsz2 := K0.size
  refine st rfl rfl rfl (ex_call call22 rfl rfl (split_c q A c lo hi bs _ (hr.ext K0) (by omega) (hT.ext K0) (by omega) hmc)) ?_
  rintro _ w5 ⟨B, d, sl, rfl, hs, hso, E5⟩
  replace K0 := K0.ext E5
  replace hb := hb.ext E5
  refine sv rfl rfl rfl (ex_move rfl rfl) ?_
  refine sv rfl rfl rfl (ex_extract rfl rfl rfl) ?_
  refine sv rfl rfl rfl (ex_extract rfl rfl rfl) ?_
  refine sv rfl rfl rfl (ex_assign rfl rfl) ?_
  refine sv rfl rfl rfl (ex_assign rfl rfl) ?_
  refine w_nil (qe_next ?_)
  refine w_seq ?_
  refine w_region ?_
  refine sv rfl rfl rfl (ex_load_agg (cs := q.cut.cells) agg24 rfl rfl (by intro j u hu; rw [Nat.zero_add]; exact hb.cell hu)) ?_
  refine sv rfl rfl rfl (ex_move rfl rfl) ?_
  have hsz3 := K0.size
  refine st rfl rfl rfl (ex_call call20 rfl rfl (primary_c q A c lo hi bs _ (hr.ext K0) (by omega) (hT.ext K0) (by omega))) ?_
  rintro _ w6 ⟨P, dP, rfl, hp, E4⟩
  replace K0 := K0.ext E4
  replace hb := hb.ext E4
  replace hs := hs.ext E4
  replace hso := hso.ext E4
  refine sv rfl rfl rfl (ex_move rfl rfl) ?_
  refine sv rfl rfl rfl (ex_extract rfl rfl rfl) ?_
  refine sv rfl rfl rfl (ex_extract rfl rfl rfl) ?_
  refine sv rfl rfl rfl (ex_assign rfl rfl) ?_
  refine sv rfl rfl rfl (ex_assign rfl rfl) ?_
  refine w_nil (qe_next ?_)
  refine w_seq ?_
  refine w_seq ?_
  refine w_region ?_
  refine sv rfl rfl rfl (ex_move rfl rfl) ?_
  refine sv rfl rfl rfl (ex_cmp rfl rfl rfl (congrArg some (decide_eq_false (not_not_intro rfl)))) ?_
  refine sv rfl rfl rfl (ex_move rfl rfl) ?_
  first | refine sk rfl rfl rfl ?_ | refine sv rfl rfl rfl (ex_move rfl rfl) ?_
  first | refine sk rfl rfl rfl ?_ | refine sv rfl rfl rfl (ex_cmp rfl rfl rfl (congrArg some (decide_eq_false (not_not_intro rfl)))) ?_
  first | refine sv rfl rfl rfl (ex_pick_t rfl rfl rfl) ?_ | refine sv rfl rfl rfl (ex_pick_f rfl rfl rfl) ?_
  refine w_nil (qe_next ?_)
  refine w_cond_f rfl ?_
  refine w_skip (qe_next ?_)
  refine w_seq ?_
  refine w_region ?_
  have hsz4 := K0.size
  obtain ⟨n0, hn0, hn01⟩ := K0.n
  have hsl : ∀ s ∈ sl, ∀ g o, s.1 = some ⟨g, o, none⟩ → g < n0 := fun s hs g o e => by have := (hso.lt s hs g o e).2; omega
  have hel := (ecuts_inc q bs bs.length).length
  have hinc := ecuts_inc q bs bs.length
  have hpl := prims_length q bs bs.length
  have hpc := pieces_length bs (ecuts q bs bs.length).1 0
  have hsll := hso.length
  refine st rfl rfl rfl (ex_buildSlice (cs := []) rfl rfl build_none) ?_
  rintro _ w7 ⟨gw, rfl, hgw, E6, hb6, hs6⟩
  replace K0 := K0.ext E6
  replace hb := hb.ext E6
  replace hs := hs.ext E6
  replace hso := hso.ext E6
  replace hp := hp.ext E6
  have hsz5 := K0.size
  have hw := Own.of_blk (lo := n0) (n := 0) (c := 0) (size := 1) hb6 (by omega) (by omega) (by decide) (by simp)
  rw [show List.take (0 * 1) ([] : List Value) = bcells (bs.take 0) from by simp [bcells]] at hw
  refine sv rfl rfl rfl (ex_assign rfl rfl) ?_
  refine w_nil (qe_next ?_)
  refine w_seq ?_
  refine w_region ?_
  refine sv rfl rfl rfl (ex_assign rfl rfl) ?_
  refine w_nil (qe_next ?_)
  refine w_seq ?_
  refine w_seq ?_
  refine w_region ?_
  refine sv rfl rfl rfl (ex_assign rfl rfl) ?_
  refine w_nil (qe_next ?_)
  refine w_block ?_
  refine w_loop (ι := Nat × Nat × Nat × Option Addr × Nat) (fun i => [(1, .slice A bs.length c), (2, .pointer (some ⟨b1, 0, none⟩)), (5, .slice B (ecuts q bs bs.length).1.length d), (7, .slice P (prims q bs bs.length).length dP), (9, .slice i.2.2.2.1 i.2.2.1 i.2.2.2.2), (10, .int .i64 (i.2.1 : Int)), (11, .int .i64 (i.1 : Int))]) (fun i w1 => i.1 ≤ (ecuts q bs bs.length).1.length ∧ i.2.2.1 = lastD 0 ((ecuts q bs bs.length).1.take i.1) ∧ AtN q bs i.2.2.1 i.2.1 ∧ Own w1 n0 5 1 i.2.2.2.1 i.2.2.1 i.2.2.2.2 (bcells (bs.take i.2.2.1)) ∧ Own w1 w.heap.size 25 1 B (ecuts q bs bs.length).1.length d (sl.map slv) ∧ Owns w1 w.heap.size sl (pieces bs 0 (ecuts q bs bs.length).1) ∧ Own w1 w.heap.size 3 1 P (prims q bs bs.length).length dP ((prims q bs bs.length).map fun x : Nat => Value.int .i64 (x : Int)) ∧ Blk w1 b1 24 q.cut.cells ∧ n0 ≤ w1.heap.size ∧ Ext w w1) (fun i => (ecuts q bs bs.length).1.length - i.1) ((0, 0, 0, _, _)) ⟨rfl, rfl, rfl, rfl, rfl, rfl, rfl, trivial⟩ ?_ ?_
  · exact ⟨Nat.zero_le _, rfl, AtN.zero q bs, hw, hs.lower (by omega), hso.lower (by omega), hp.lower (by omega), hb, by omega, K0⟩
  · clear hw hs hso hp hb K0
    rintro ⟨j, a, n, W, dw⟩ w1 ⟨hj, hn, hat, hw, hs, hso, hp, hb, hn1, K0⟩
    simp only at hj hn hat hw
    have haa := hat.1
    have KL := Keep.refl (fun _ => False) w1
    refine w_seq ?_
    refine w_seq ?_
    refine w_region ?_
    refine sv rfl rfl rfl (ex_move rfl rfl) ?_
    refine sv rfl rfl rfl (ex_move rfl rfl) ?_
    refine sv rfl rfl rfl (ex_len Tryd.underlying32 rfl rfl) ?_
    refine sv rfl rfl rfl (ex_cmp rfl rfl rfl rfl) ?_
    refine w_nil (qe_next ?_)
    refine w_if rfl (fun hk2 => ?_) (fun hk2 => ?_)
    · skip
      replace hk2 : j < (ecuts q bs bs.length).1.length := by simp only at hk2; omega
      obtain ⟨x, hx⟩ : ∃ x, (ecuts q bs bs.length).1[j]? = some x := ⟨_, List.getElem?_eq_getElem hk2⟩
      have htk : (ecuts q bs bs.length).1.take (j + 1) = (ecuts q bs bs.length).1.take j ++ [x] := by rw [List.take_add_one, hx]; rfl
      have hpre : (ecuts q bs bs.length).1.take j ++ [x] <+: (ecuts q bs bs.length).1 := by rw [← htk]; exact List.take_prefix _ _
      obtain ⟨hfx, hxn⟩ := hinc.at_ hpre
      have hnx := fun p hp => Inc.next (p := p) hpre hinc hp
      rw [← hn] at hfx hnx
      obtain ⟨b1_, o1_, u1, rfl, _, _, hu1, hc1⟩ := hs.rd.at_ hk2
      rw [List.getElem?_map] at hu1
      obtain ⟨s1, hs1, rfl⟩ := Option.map_eq_some_iff.1 hu1
      obtain ⟨y1, hy1, hl1, hd1⟩ := hso.get hs1
      have hye := pieces_get (bs := bs) (f := 0) hx
      rw [hy1, ← hn] at hye
      obtain rfl := Option.some.inj hye
      have hgap := ecuts_gap q bs _ (List.mem_of_getElem? hy1)
      have hxe : n + s1.2.1 = x := by rw [hl1]; simp; omega
      clear hc1 hd1
      refine w_skip (qe_next ?_)
      refine w_seq ?_
      refine w_block ?_
      refine w_seq ?_
      refine w_seq ?_
      refine w_draw mixed (fun w8 _ Ew8 => ?_)
      replace hw := hw.ext Ew8
      replace hs := hs.ext Ew8
      replace hso := hso.ext Ew8
      replace hp := hp.ext Ew8
      replace hb := hb.ext Ew8
      replace K0 := K0.ext Ew8
      replace KL := KL.ext Ew8
      refine wd_free 2 _ rfl rfl rfl rfl ?_
      refine fd [] rfl rfl rfl rfl rfl rfl rfl (fun w' E => ex_move rfl rfl) ?_
      refine fd [] rfl rfl rfl rfl rfl rfl rfl (fun w' E => ex_move rfl rfl) ?_
      refine .nil (fun w9 Ew9 _ => ?_)
      replace hw := hw.ext Ew9
      replace hs := hs.ext Ew9
      replace hso := hso.ext Ew9
      replace hp := hp.ext Ew9
      replace hb := hb.ext Ew9
      replace K0 := K0.ext Ew9
      replace KL := KL.ext Ew9
      obtain ⟨b1_, o1_, u1, he1, _, _, hu1, hc1⟩ := hs.rd.at_ hk2
      cases he1
      rw [List.getElem?_map, hs1] at hu1
      cases hu1
      obtain ⟨y2, hy2, hl2, hd1⟩ := hso.get hs1
      rw [hy1] at hy2
      cases hy2
      refine wd_v rfl rfl (by kernel_rfl) rfl rfl rfl (ex_index Tryd.underlying32 sz25 j rfl rfl rfl rfl (by omega)) ?_
      refine wd_v rfl rfl (by kernel_rfl) rfl rfl rfl (ex_load (v := .slice s1.1 s1.2.1 s1.2.2) one25 rfl rfl hc1) ?_
      refine wd_v rfl rfl (by kernel_rfl) rfl rfl rfl (ex_len Tryd.underlying25 rfl rfl) ?_
      refine wd_v rfl rfl (by kernel_rfl) rfl rfl rfl (ex_cmp rfl rfl rfl (congrArg some (decide_eq_false (by omega)))) ?_
      refine wd_v rfl rfl (by kernel_rfl) rfl rfl rfl (ex_move rfl rfl) ?_
      refine wd_free 7 _ rfl rfl rfl rfl ?_
      first | refine fsk [] rfl rfl rfl rfl rfl rfl rfl ?_ | refine fd [] rfl rfl rfl rfl rfl rfl rfl (fun w' E => ex_move rfl rfl) ?_
      first | refine fsk [] rfl rfl rfl rfl rfl rfl rfl ?_ | refine fd [] rfl rfl rfl rfl rfl rfl rfl (fun w' E => ex_move rfl rfl) ?_
      first | refine fsk [7, 8] rfl rfl rfl rfl rfl rfl rfl ?_ | refine fd [7, 8] rfl rfl rfl rfl rfl rfl rfl (fun w' E => ex_index Tryd.underlying32 sz25 j rfl rfl rfl rfl (by omega)) ?_
      first | refine fsk [9] rfl rfl rfl rfl rfl rfl rfl ?_ | refine fd [9] rfl rfl rfl rfl rfl rfl rfl (fun w' E => ex_load (v := .slice s1.1 s1.2.1 s1.2.2) one25 rfl rfl (E.cell trivial hc1)) ?_
      first | refine fsk [10] rfl rfl rfl rfl rfl rfl rfl ?_ | refine fd [10] rfl rfl rfl rfl rfl rfl rfl (fun w' E => ex_len Tryd.underlying25 rfl rfl) ?_
      first | refine fsk [] rfl rfl rfl rfl rfl rfl rfl ?_ | refine fd [] rfl rfl rfl rfl rfl rfl rfl (fun w' E => ex_fieldAddr fld24_1 rfl rfl) ?_
      first | refine fsk [12] rfl rfl rfl rfl rfl rfl rfl ?_ | refine fd [12] rfl rfl rfl rfl rfl rfl rfl (fun w' E => ex_load one3 rfl rfl (E.cell trivial (hb.cell rfl))) ?_
      refine .nil (fun w10 Ew10 _ => ?_)
      replace hw := hw.ext Ew10
      replace hs := hs.ext Ew10
      replace hso := hso.ext Ew10
      replace hp := hp.ext Ew10
      replace hb := hb.ext Ew10
      replace K0 := K0.ext Ew10
      replace KL := KL.ext Ew10
      first | refine wd_skip rfl rfl (by kernel_rfl) rfl rfl rfl ?_ | refine wd_v rfl rfl (by kernel_rfl) rfl rfl rfl (ex_cmp rfl rfl rfl (congrArg some (decide_eq_false (by rw [← hl1] at hgap; omega)))) ?_
      first | refine wd_v rfl rfl (by kernel_rfl) rfl rfl rfl (ex_pick_t rfl rfl rfl) ?_ | refine wd_v rfl rfl (by kernel_rfl) rfl rfl rfl (ex_pick_f rfl rfl rfl) ?_
      refine wd_nil (by decide) rfl ?_
      clear hc1 hd1
      refine qe_next ?_
      refine w_cond_f rfl ?_
      refine w_skip (qe_next ?_)
      refine w_seq ?_
      refine w_region ?_
      obtain ⟨b1_, o1_, u1, he1, _, _, hu1, hc1⟩ := hs.rd.at_ hk2
      cases he1
      rw [List.getElem?_map, hs1] at hu1
      cases hu1
      obtain ⟨y2, hy2, hl2, hd1⟩ := hso.get hs1
      rw [hy1] at hy2
      cases hy2
      refine sv rfl rfl rfl (ex_move rfl rfl) ?_
      refine sv rfl rfl rfl (ex_move rfl rfl) ?_
      refine sv rfl rfl rfl (ex_move rfl rfl) ?_
      refine sv rfl rfl rfl (ex_index Tryd.underlying32 sz25 j rfl rfl rfl rfl (by omega)) ?_
      refine sv rfl rfl rfl (ex_load (v := .slice s1.1 s1.2.1 s1.2.2) one25 rfl rfl hc1) ?_
      have hn3 := KL.size
      refine st rfl rfl rfl (ex_append Tryd.underlying25 z5.1 rfl (by decide) rfl rfl rfl hw hd1.rd (bcells_one _) (by first | omega | (simp only; omega)) (by first | omega | (simp only; omega)) (by omega)) ?_
      rintro _ w11 ⟨W1, dw1, rfl, hw1, KA, hWA⟩
      replace KL := KL.trans KA (fun _ _ h => h.elim)
      replace hso := Owns.keepS KA hso (fun s hs g o e o' e' => by have := hsl s hs g o e; have := (hw.lt e').1; omega)
      replace hs := hs.keepT KA (fun g cs _ hg o e => hw.ne_blk hg (by decide) g o e rfl)
      replace hp := hp.keepT KA (fun g cs _ hg o e => hw.ne_blk hg (by decide) g o e rfl)
      replace hb := hb.keep KA (fun o e => hw.ne_blk hb (by decide) b1 o e rfl)
      replace K0 := K0.trans KA (fun j hj _ => hw.fresh (by omega))
      rw [show bcells (bs.take n) ++ bcells ((bs.drop n).take (x - n)) = bcells (bs.take x) from by rw [show bs.take x = bs.take n ++ (bs.drop n).take (x - n) from by rw [← List.take_add]; congr 1; omega]; simp [bcells], hxe] at hw1
      clear hw hc1 hd1
      refine sv rfl rfl rfl (ex_assign rfl rfl) ?_
      refine w_nil (qe_next ?_)
      refine w_seq ?_
      refine w_seq ?_
      refine w_region ?_
      refine sv rfl rfl rfl (ex_move rfl rfl) ?_
      refine sv rfl rfl rfl (ex_move rfl rfl) ?_
      refine sv rfl rfl rfl (ex_len Tryd.underlying35 rfl rfl) ?_
      refine sv_if rfl rfl rfl (ex_cmp rfl rfl rfl rfl) (fun ha => ?_) (fun ha => ?_)
      · skip
        replace ha : a < (prims q bs bs.length).length := by first | omega | (simp only at ha; omega)
        obtain ⟨px, hpx⟩ : ∃ px, (prims q bs bs.length)[a]? = some px := ⟨_, List.getElem?_eq_getElem ha⟩
        have hpm := mem_prims.1 (List.mem_of_getElem? hpx)
        have hpf : n < px := by have := hat.2 a px hpx; omega
        have hpg := hnx px (ecuts_prim hpm.1 hpm.2.1 hpm.2.2) hpf
        obtain ⟨bp, op, up, rfl, _, _, hup, hcp⟩ := hp.rd.at_ (k := a) (by omega)
        rw [List.getElem?_map, hpx] at hup
        cases hup
        refine sv rfl rfl rfl (ex_move rfl rfl) ?_
        first | refine sk rfl rfl rfl ?_ | refine sv rfl rfl rfl (ex_move rfl rfl) ?_
        first | refine sk rfl rfl rfl ?_ | refine sv rfl rfl rfl (ex_move rfl rfl) ?_
        first | refine sk rfl rfl rfl ?_ | refine sv rfl rfl rfl (ex_index Tryd.underlying35 sz3 (a) rfl rfl rfl (by first | rfl | omega | (simp only; omega)) (by first | omega | (simp only; omega))) ?_
        first | refine sk rfl rfl rfl ?_ | refine sv rfl rfl rfl (ex_load one3 rfl rfl hcp) ?_
        first | refine sk rfl rfl rfl ?_ | refine sv rfl rfl rfl (ex_move rfl rfl) ?_
        first | refine sk rfl rfl rfl ?_ | refine sv rfl rfl rfl (ex_len Tryd.underlying25 rfl rfl) ?_
        first | refine sk rfl rfl rfl ?_ | refine sv rfl rfl rfl (ex_cmp rfl rfl rfl (congrArg some (decide_eq_false (by first | omega | (simp only; omega))))) ?_
        first | refine sv rfl rfl rfl (ex_pick_t rfl rfl rfl) ?_ | refine sv rfl rfl rfl (ex_pick_f rfl rfl rfl) ?_
        refine w_nil (qe_next ?_)
        refine w_cond_f rfl ?_
        refine w_skip (qe_next ?_)
        refine w_seq ?_
        refine w_region ?_
        refine sv rfl rfl rfl (ex_move rfl rfl) ?_
        refine sv rfl rfl rfl (ex_move rfl rfl) ?_
        refine sv rfl rfl rfl (ex_len Tryd.underlying35 rfl rfl) ?_
        refine sv rfl rfl rfl (ex_cmp rfl rfl rfl (congrArg some (decide_eq_true (by first | omega | (simp only; omega))))) ?_
        refine sv rfl rfl rfl (ex_move rfl rfl) ?_
        first | refine sk rfl rfl rfl ?_ | refine sv rfl rfl rfl (ex_move rfl rfl) ?_
        first | refine sk rfl rfl rfl ?_ | refine sv rfl rfl rfl (ex_move rfl rfl) ?_
        first | refine sk rfl rfl rfl ?_ | refine sv rfl rfl rfl (ex_index Tryd.underlying35 sz3 (a) rfl rfl rfl (by first | rfl | omega | (simp only; omega)) (by first | omega | (simp only; omega))) ?_
        first | refine sk rfl rfl rfl ?_ | refine sv rfl rfl rfl (ex_load one3 rfl rfl hcp) ?_
        first | refine sk rfl rfl rfl ?_ | refine sv rfl rfl rfl (ex_move rfl rfl) ?_
        first | refine sk rfl rfl rfl ?_ | refine sv rfl rfl rfl (ex_len Tryd.underlying25 rfl rfl) ?_
        first | refine sk rfl rfl rfl ?_ | refine sv rfl rfl rfl (ex_cmp rfl rfl rfl rfl) ?_
        first | refine sv rfl rfl rfl (ex_pick_t rfl rfl rfl) ?_ | refine sv rfl rfl rfl (ex_pick_f rfl rfl rfl) ?_
        refine w_nil (qe_next ?_)
        refine w_if rfl (fun heq => ?_) (fun heq => ?_)
        · skip
          replace heq : px = x := by first | omega | (simp only at heq; omega)
          refine w_seq ?_
          refine w_seq ?_
          refine w_draw mixed (fun w12 _ Ew12 => ?_)
          replace hs := hs.ext Ew12
          replace hso := hso.ext Ew12
          replace hp := hp.ext Ew12
          replace hb := hb.ext Ew12
          replace K0 := K0.ext Ew12
          replace KL := KL.ext Ew12
          replace hw1 := hw1.ext Ew12
          refine wd_v rfl rfl (by kernel_rfl) rfl rfl rfl (ex_move rfl rfl) ?_
          refine wd_if rfl rfl (by kernel_rfl) rfl rfl rfl (ex_cmp rfl rfl rfl rfl) (fun ha0 => ?_) (fun ha0 => ?_)
          · skip
            replace ha0 : 0 < a := by first | omega | (simp only at ha0; omega)
            refine wd_v rfl rfl (by kernel_rfl) rfl rfl rfl (ex_move rfl rfl) ?_
            obtain ⟨py, hpy⟩ : ∃ py, (prims q bs bs.length)[a - 1]? = some py := ⟨_, List.getElem?_eq_getElem (by omega)⟩
            have hpym := mem_prims.1 (List.mem_of_getElem? hpy)
            have hpyx := prims_lt hpy hpx (by omega)
            have hap := prims_apart hpym.1 hpyx hpym.2.2 hpm.2.2
            obtain ⟨bpx, opx, upx, hepx, _, _, hupx, hcpx⟩ := hp.rd.at_ (k := a) (by omega)
            cases hepx
            rw [List.getElem?_map, hpx] at hupx
            cases hupx
            obtain ⟨bpy, opy, upy, hepy, _, _, hupy, hcpy⟩ := hp.rd.at_ (k := a - 1) (by omega)
            cases hepy
            rw [List.getElem?_map, hpy] at hupy
            cases hupy
            refine wd_free 12 _ rfl rfl rfl rfl ?_
            first | refine fsk [] rfl rfl rfl rfl rfl rfl rfl ?_ | refine fd [] rfl rfl rfl rfl rfl rfl rfl (fun w' E => ex_move rfl rfl) ?_
            first | refine fsk [] rfl rfl rfl rfl rfl rfl rfl ?_ | refine fd [] rfl rfl rfl rfl rfl rfl rfl (fun w' E => ex_move rfl rfl) ?_
            first | refine fsk [3, 4] rfl rfl rfl rfl rfl rfl rfl ?_ | refine fd [3, 4] rfl rfl rfl rfl rfl rfl rfl (fun w' E => ex_index Tryd.underlying35 sz3 (a) rfl rfl rfl (by first | rfl | omega | (simp only; omega)) (by first | omega | (simp only; omega))) ?_
            first | refine fsk [5] rfl rfl rfl rfl rfl rfl rfl ?_ | refine fd [5] rfl rfl rfl rfl rfl rfl rfl (fun w' E => ex_load one3 rfl rfl (E.cell trivial hcpx)) ?_
            first | refine fsk [] rfl rfl rfl rfl rfl rfl rfl ?_ | refine fd [] rfl rfl rfl rfl rfl rfl rfl (fun w' E => ex_move rfl rfl) ?_
            first | refine fsk [] rfl rfl rfl rfl rfl rfl rfl ?_ | refine fd [] rfl rfl rfl rfl rfl rfl rfl (fun w' E => ex_move rfl rfl) ?_
            first | refine fsk [8] rfl rfl rfl rfl rfl rfl rfl ?_ | refine fd [8] rfl rfl rfl rfl rfl rfl rfl (fun w' E => ex_sub rfl rfl rfl (i64_in (by first | omega | (simp only; omega)) (by first | omega | (simp only; omega)))) ?_
            first | refine fsk [7, 9] rfl rfl rfl rfl rfl rfl rfl ?_ | refine fd [7, 9] rfl rfl rfl rfl rfl rfl rfl (fun w' E => ex_index Tryd.underlying35 sz3 (a - 1) rfl rfl rfl (by first | rfl | omega | (simp only; omega)) (by first | omega | (simp only; omega))) ?_
            first | refine fsk [10] rfl rfl rfl rfl rfl rfl rfl ?_ | refine fd [10] rfl rfl rfl rfl rfl rfl rfl (fun w' E => ex_load one3 rfl rfl (E.cell trivial hcpy)) ?_
            first | refine fsk [6, 11] rfl rfl rfl rfl rfl rfl rfl ?_ | refine fd [6, 11] rfl rfl rfl rfl rfl rfl rfl (fun w' E => ex_sub rfl rfl rfl (i64_in (by omega) (by omega))) ?_
            first | refine fsk [] rfl rfl rfl rfl rfl rfl rfl ?_ | refine fd [] rfl rfl rfl rfl rfl rfl rfl (fun w' E => ex_fieldAddr fld24_0 rfl rfl) ?_
            first | refine fsk [13] rfl rfl rfl rfl rfl rfl rfl ?_ | refine fd [13] rfl rfl rfl rfl rfl rfl rfl (fun w' E => ex_load one3 rfl rfl (E.cell trivial (hb.cell rfl))) ?_
            refine .nil (fun w13 Ew13 _ => ?_)
            replace hs := hs.ext Ew13
            replace hso := hso.ext Ew13
            replace hp := hp.ext Ew13
            replace hb := hb.ext Ew13
            replace K0 := K0.ext Ew13
            replace KL := KL.ext Ew13
            replace hw1 := hw1.ext Ew13
            first | refine wd_skip rfl rfl (by kernel_rfl) rfl rfl rfl ?_ | refine wd_v rfl rfl (by kernel_rfl) rfl rfl rfl (ex_cmp rfl rfl rfl (congrArg some (decide_eq_false (by first | omega | (simp only; omega))))) ?_
            first | refine wd_v rfl rfl (by kernel_rfl) rfl rfl rfl (ex_pick_t rfl rfl rfl) ?_ | refine wd_v rfl rfl (by kernel_rfl) rfl rfl rfl (ex_pick_f rfl rfl rfl) ?_
            refine wd_nil (by decide) rfl ?_
            refine qe_next ?_
            refine w_cond_f rfl ?_
            refine w_skip (qe_next ?_)
            refine w_region ?_
            refine sv rfl rfl rfl (ex_move rfl rfl) ?_
            refine sv rfl rfl rfl (ex_add rfl rfl rfl (i64_in (by first | omega | (simp only; omega)) (by first | omega | (simp only; omega)))) ?_
            refine sv rfl rfl rfl (ex_assign rfl rfl) ?_
            refine w_nil (qe_in_normal (qe_next ?_))
            refine w_region ?_
            refine sv rfl rfl rfl (ex_move rfl rfl) ?_
            refine sv rfl rfl rfl (ex_add rfl rfl rfl (i64_in (by omega) (by omega))) ?_
            refine sv rfl rfl rfl (ex_assign rfl rfl) ?_
            refine w_nil (qe_round ((j + 1, a + 1, n + s1.2.1, W1, dw1)) ⟨rfl, rfl, rfl, rfl, rfl, rfl, rfl, trivial⟩ ?_ ?_)
            · exact ⟨by simp only; omega, by simp only; rw [htk, lastD_snoc]; omega, by simp only; rw [hxe]; exact hat.step hpx (by omega) hfx, by simp only; rw [hxe]; exact hw1, hs, hso, hp, hb, (by have := KL.size; omega), K0⟩
            · simp only; omega
          · skip
            refine wd_v rfl rfl (by kernel_rfl) rfl rfl rfl (ex_move rfl rfl) ?_
            refine wd_free 12 _ rfl rfl rfl rfl ?_
            first | refine fsk [] rfl rfl rfl rfl rfl rfl rfl ?_ | refine fd [] rfl rfl rfl rfl rfl rfl rfl (fun w' E => ex_move rfl rfl) ?_
            first | refine fsk [] rfl rfl rfl rfl rfl rfl rfl ?_ | refine fd [] rfl rfl rfl rfl rfl rfl rfl (fun w' E => ex_move rfl rfl) ?_
            refine fsk [3, 4] rfl rfl rfl rfl rfl rfl rfl ?_
            refine fsk [5] rfl rfl rfl rfl rfl rfl rfl ?_
            first | refine fsk [] rfl rfl rfl rfl rfl rfl rfl ?_ | refine fd [] rfl rfl rfl rfl rfl rfl rfl (fun w' E => ex_move rfl rfl) ?_
            first | refine fsk [] rfl rfl rfl rfl rfl rfl rfl ?_ | refine fd [] rfl rfl rfl rfl rfl rfl rfl (fun w' E => ex_move rfl rfl) ?_
            refine fsk [8] rfl rfl rfl rfl rfl rfl rfl ?_
            refine fsk [7, 9] rfl rfl rfl rfl rfl rfl rfl ?_
            refine fsk [10] rfl rfl rfl rfl rfl rfl rfl ?_
            refine fsk [6, 11] rfl rfl rfl rfl rfl rfl rfl ?_
            refine fsk [] rfl rfl rfl rfl rfl rfl rfl ?_
            refine fsk [13] rfl rfl rfl rfl rfl rfl rfl ?_
            refine .nil (fun w14 Ew14 _ => ?_)
            replace hs := hs.ext Ew14
            replace hso := hso.ext Ew14
            replace hp := hp.ext Ew14
            replace hb := hb.ext Ew14
            replace K0 := K0.ext Ew14
            replace KL := KL.ext Ew14
            replace hw1 := hw1.ext Ew14
            refine wd_skip rfl rfl (by kernel_rfl) rfl rfl rfl ?_
            first | refine wd_v rfl rfl (by kernel_rfl) rfl rfl rfl (ex_pick_t rfl rfl rfl) ?_ | refine wd_v rfl rfl (by kernel_rfl) rfl rfl rfl (ex_pick_f rfl rfl rfl) ?_
            refine wd_nil (by decide) rfl ?_
            refine qe_next ?_
            refine w_cond_f rfl ?_
            refine w_skip (qe_next ?_)
            refine w_region ?_
            refine sv rfl rfl rfl (ex_move rfl rfl) ?_
            refine sv rfl rfl rfl (ex_add rfl rfl rfl (i64_in (by first | omega | (simp only; omega)) (by first | omega | (simp only; omega)))) ?_
            refine sv rfl rfl rfl (ex_assign rfl rfl) ?_
            refine w_nil (qe_in_normal (qe_next ?_))
            refine w_region ?_
            refine sv rfl rfl rfl (ex_move rfl rfl) ?_
            refine sv rfl rfl rfl (ex_add rfl rfl rfl (i64_in (by omega) (by omega))) ?_
            refine sv rfl rfl rfl (ex_assign rfl rfl) ?_
            refine w_nil (qe_round ((j + 1, a + 1, n + s1.2.1, W1, dw1)) ⟨rfl, rfl, rfl, rfl, rfl, rfl, rfl, trivial⟩ ?_ ?_)
            · exact ⟨by simp only; omega, by simp only; rw [htk, lastD_snoc]; omega, by simp only; rw [hxe]; exact hat.step hpx (by omega) hfx, by simp only; rw [hxe]; exact hw1, hs, hso, hp, hb, (by have := KL.size; omega), K0⟩
            · simp only; omega
        · skip
          replace heq : px ≠ x := by first | omega | (simp only at heq; omega)
          refine w_skip (qe_in_normal (qe_next ?_))
          refine w_region ?_
          refine sv rfl rfl rfl (ex_move rfl rfl) ?_
          refine sv rfl rfl rfl (ex_add rfl rfl rfl (i64_in (by omega) (by omega))) ?_
          refine sv rfl rfl rfl (ex_assign rfl rfl) ?_
          refine w_nil (qe_round ((j + 1, a, n + s1.2.1, W1, dw1)) ⟨rfl, rfl, rfl, rfl, rfl, rfl, rfl, trivial⟩ ?_ ?_)
          · exact ⟨by simp only; omega, by simp only; rw [htk, lastD_snoc]; omega, by simp only; rw [hxe]; exact hat.stay hpx (by omega) hfx, by simp only; rw [hxe]; exact hw1, hs, hso, hp, hb, (by have := KL.size; omega), K0⟩
          · simp only; omega
      · skip
        replace ha : a = (prims q bs bs.length).length := by first | omega | (simp only at ha; omega)
        refine sv rfl rfl rfl (ex_move rfl rfl) ?_
        first | refine sk rfl rfl rfl ?_ | refine sv rfl rfl rfl (ex_move rfl rfl) ?_
        first | refine sk rfl rfl rfl ?_ | refine sv rfl rfl rfl (ex_move rfl rfl) ?_
        refine sk rfl rfl rfl ?_
        refine sk rfl rfl rfl ?_
        first | refine sk rfl rfl rfl ?_ | refine sv rfl rfl rfl (ex_move rfl rfl) ?_
        refine sk rfl rfl rfl ?_
        refine sk rfl rfl rfl ?_
        first | refine sv rfl rfl rfl (ex_pick_t rfl rfl rfl) ?_ | refine sv rfl rfl rfl (ex_pick_f rfl rfl rfl) ?_
        refine w_nil (qe_next ?_)
        refine w_cond_f rfl ?_
        refine w_skip (qe_next ?_)
        refine w_seq ?_
        refine w_region ?_
        refine sv rfl rfl rfl (ex_move rfl rfl) ?_
        refine sv rfl rfl rfl (ex_move rfl rfl) ?_
        refine sv rfl rfl rfl (ex_len Tryd.underlying35 rfl rfl) ?_
        refine sv rfl rfl rfl (ex_cmp rfl rfl rfl (congrArg some (decide_eq_false (by first | omega | (simp only; omega))))) ?_
        refine sv rfl rfl rfl (ex_move rfl rfl) ?_
        first | refine sk rfl rfl rfl ?_ | refine sv rfl rfl rfl (ex_move rfl rfl) ?_
        first | refine sk rfl rfl rfl ?_ | refine sv rfl rfl rfl (ex_move rfl rfl) ?_
        refine sk rfl rfl rfl ?_
        refine sk rfl rfl rfl ?_
        first | refine sk rfl rfl rfl ?_ | refine sv rfl rfl rfl (ex_move rfl rfl) ?_
        refine sk rfl rfl rfl ?_
        refine sk rfl rfl rfl ?_
        first | refine sv rfl rfl rfl (ex_pick_t rfl rfl rfl) ?_ | refine sv rfl rfl rfl (ex_pick_f rfl rfl rfl) ?_
        refine w_nil (qe_next ?_)
        refine w_cond_f rfl ?_
        refine w_skip (qe_in_normal (qe_next ?_))
        refine w_region ?_
        refine sv rfl rfl rfl (ex_move rfl rfl) ?_
        refine sv rfl rfl rfl (ex_add rfl rfl rfl (i64_in (by omega) (by omega))) ?_
        refine sv rfl rfl rfl (ex_assign rfl rfl) ?_
        refine w_nil (qe_round ((j + 1, a, n + s1.2.1, W1, dw1)) ⟨rfl, rfl, rfl, rfl, rfl, rfl, rfl, trivial⟩ ?_ ?_)
        · exact ⟨by simp only; omega, by simp only; rw [htk, lastD_snoc]; omega, by simp only; rw [hxe]; exact hat.full (by omega) hfx, by simp only; rw [hxe]; exact hw1, hs, hso, hp, hb, (by have := KL.size; omega), K0⟩
        · simp only; omega
    · skip
      replace hk2 : j = (ecuts q bs bs.length).1.length := by simp only at hk2; omega
      subst hk2
      rw [List.take_length, ecuts_lastD] at hn
      subst hn
      have had := hat.done
      refine w_exit (qe_then_exit (qe_then_exit (qe_in_exit (qe_next ?_))))
      refine w_seq ?_
      refine w_region ?_
      refine st rfl rfl rfl (ex_call call16 rfl rfl (awake16_c _ (hT.ext K0))) ?_
      rintro _ w15 ⟨rfl, E9⟩
      replace hw := hw.ext E9
      replace hs := hs.ext E9
      replace hso := hso.ext E9
      replace hp := hp.ext E9
      replace hb := hb.ext E9
      replace K0 := K0.ext E9
      replace KL := KL.ext E9
      refine sv rfl rfl rfl (ex_move rfl rfl) ?_
      first | refine sk rfl rfl rfl ?_ | refine sv rfl rfl rfl (ex_move rfl rfl) ?_
      first | refine sk rfl rfl rfl ?_ | refine sv rfl rfl rfl (ex_strm (by simp) Tryd.underlying25 Tryd.underlying5 Tryd.underlying9 rfl rfl hw.rd) ?_
      first | refine sk rfl rfl rfl ?_ | refine sv rfl rfl rfl (ex_move rfl rfl) ?_
      first | refine sk rfl rfl rfl ?_ | refine sv rfl rfl rfl (ex_strm rfl Tryd.underlying25 Tryd.underlying5 Tryd.underlying9 rfl rfl (hr.ext K0)) ?_
      first | refine sk rfl rfl rfl ?_ | refine sv rfl rfl rfl (ex_streqT (List.take_length) rfl rfl rfl) ?_
      first | refine sv rfl rfl rfl (ex_pick_t rfl rfl rfl) ?_ | refine sv rfl rfl rfl (ex_pick_f rfl rfl rfl) ?_
      refine sv rfl rfl rfl (ex_move rfl rfl) ?_
      first | refine sk rfl rfl rfl ?_ | refine sv rfl rfl rfl (ex_move rfl rfl) ?_
      first | refine sk rfl rfl rfl ?_ | refine sv rfl rfl rfl (ex_move rfl rfl) ?_
      first | refine sk rfl rfl rfl ?_ | refine sv rfl rfl rfl (ex_len Tryd.underlying35 rfl rfl) ?_
      first | refine sk rfl rfl rfl ?_ | refine sv rfl rfl rfl (ex_cmp rfl rfl rfl (congrArg some (decide_eq_true (by first | omega | (simp only; omega))))) ?_
      first | refine sv rfl rfl rfl (ex_pick_t rfl rfl rfl) ?_ | refine sv rfl rfl rfl (ex_pick_f rfl rfl rfl) ?_
      refine sv rfl rfl rfl (ex_assign rfl rfl) ?_
      refine w_nil (qe_next ?_)
      refine w_ret (qe_ret1 rfl rfl ?_)
      exact ⟨rfl, K0⟩
theorem bounds_law (c0 : Cut) (A : Option Addr) (c lo hi : Nat) (bs : List UInt8) (w : World) (hr : Rd w lo hi 1 A bs.length (bcells bs)) (hhi : hi ≤ w.heap.size) (hmc : bs.length ≤ c) (hT : TabAt w) : Ret Tryd.prog 13 [c0.val, .slice A bs.length c] w fun v w' => v = .bool true ∧ Ext w w' := by
  by_cases h : c0.ok
  · by_cases h3 : bs.length ≤ 300
    · obtain ⟨q, rfl⟩ := h.vut
      exact bounds_good q A c lo hi bs w hr hhi hmc h h3 hT
    · exact bounds_bad2 c0 A c lo hi bs w hr hhi hmc h h3 hT
  · exact bounds_bad1 c0 A c lo hi bs w hr hhi hmc h hT
end Go.Proofs.YtfgpcmphcnhbiaaDoor

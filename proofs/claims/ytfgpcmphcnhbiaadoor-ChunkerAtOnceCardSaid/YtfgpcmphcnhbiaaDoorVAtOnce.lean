/- The law ChunkerAtOnce, walked. -/
import Derived.Test.YtfgpcmphcnhbiaaDoorP3
namespace Go.Proofs.YtfgpcmphcnhbiaaDoor
open Go Go.RowKit
set_option linter.unusedVariables false
set_option linter.unusedSimpArgs false
/-- kinkeep/kinkeeplaw16.ChunkerAtOnce -/
theorem atonce_bad1 (c0 : Cut) (A : Option Addr) (c lo hi : Nat) (bs : List UInt8) (w : World) (hr : Rd w lo hi 1 A bs.length (bcells bs)) (hhi : hi ≤ w.heap.size) (hmc : bs.length ≤ c) (h : ¬ (c0.ok ∧ c0.mn ≤ 40)) (hT : TabAt w) :
    Ret Tryd.prog 5 [c0.val, .slice A bs.length c] w fun v w' => v = .bool true ∧ Ext w w' := by
  have K0 : Ext w w := Keep.refl _ _
  refine ret_of Tryd.func5 rfl rfl ?_
  refine w_seq ?_
  refine w_region ?_
  refine st rfl rfl rfl (ex_box (cs := c0.cells) rfl rfl rfl) ?_
  rintro _ w1 ⟨b1, rfl, hb0, E0, hb, hs0⟩
  replace K0 := K0.ext E0
  refine sv rfl rfl rfl (ex_assign rfl rfl) ?_
  refine w_nil (qe_next ?_)
  refine w_seq ?_
  refine w_seq ?_
  refine w_region ?_
  refine sv rfl rfl rfl (ex_load_agg (cs := c0.cells) agg24 rfl rfl (by intro j u hu; rw [Nat.zero_add]; exact hb.cell hu)) ?_
  refine st rfl rfl rfl (ex_call call14 rfl rfl ((small_c c0 _).mono (R' := fun v w' => v = .bool false ∧ Ext _ w') fun v w' h' => ⟨by rw [h'.1, decide_eq_false (h)], h'.2⟩)) ?_
  rintro _ w2 ⟨rfl, E1⟩
  replace K0 := K0.ext E1
  replace hb := hb.ext E1
  refine sv rfl rfl rfl (ex_not rfl rfl) ?_
  refine sv rfl rfl rfl (ex_move rfl rfl) ?_
  first | refine sk rfl rfl rfl ?_ | refine sv rfl rfl rfl (ex_move rfl rfl) ?_
  refine sk rfl rfl rfl ?_
  refine sk rfl rfl rfl ?_
  refine sk rfl rfl rfl ?_
  first | refine sv rfl rfl rfl (ex_pick_t rfl rfl rfl) ?_ | refine sv rfl rfl rfl (ex_pick_f rfl rfl rfl) ?_
  refine w_nil (qe_next ?_)
  refine w_cond_t rfl ?_
  refine w_seq ?_
  refine w_region ?_
  refine st rfl rfl rfl (ex_call call16 rfl rfl (awake16_c _ (hT.ext K0))) ?_
  rintro _ w3 ⟨rfl, E9⟩
  replace K0 := K0.ext E9
  replace hb := hb.ext E9
  refine sv rfl rfl rfl (ex_assign rfl rfl) ?_
  refine w_nil (qe_next ?_)
  refine w_ret (qe_then_ret (qe_ret1 rfl rfl ?_))
  exact ⟨rfl, K0⟩
/-- kinkeep/kinkeeplaw16.ChunkerAtOnce -/
theorem atonce_bad2 (c0 : Cut) (A : Option Addr) (c lo hi : Nat) (bs : List UInt8) (w : World) (hr : Rd w lo hi 1 A bs.length (bcells bs)) (hhi : hi ≤ w.heap.size) (hmc : bs.length ≤ c) (h : c0.ok ∧ c0.mn ≤ 40) (h3 : ¬ bs.length ≤ 300) (hT : TabAt w) :
    Ret Tryd.prog 5 [c0.val, .slice A bs.length c] w fun v w' => v = .bool true ∧ Ext w w' := by
  have K0 : Ext w w := Keep.refl _ _
  refine ret_of Tryd.func5 rfl rfl ?_
  refine w_seq ?_
  refine w_region ?_
  refine st rfl rfl rfl (ex_box (cs := c0.cells) rfl rfl rfl) ?_
  rintro _ w1 ⟨b1, rfl, hb0, E0, hb, hs0⟩
  replace K0 := K0.ext E0
  refine sv rfl rfl rfl (ex_assign rfl rfl) ?_
  refine w_nil (qe_next ?_)
  refine w_seq ?_
  refine w_seq ?_
  refine w_region ?_
  refine sv rfl rfl rfl (ex_load_agg (cs := c0.cells) agg24 rfl rfl (by intro j u hu; rw [Nat.zero_add]; exact hb.cell hu)) ?_
  refine st rfl rfl rfl (ex_call call14 rfl rfl ((small_c c0 _).mono (R' := fun v w' => v = .bool true ∧ Ext _ w') fun v w' h' => ⟨by rw [h'.1, decide_eq_true (h)], h'.2⟩)) ?_
  rintro _ w2 ⟨rfl, E1⟩
  replace K0 := K0.ext E1
  replace hb := hb.ext E1
  refine sv rfl rfl rfl (ex_not rfl rfl) ?_
  refine sv rfl rfl rfl (ex_move rfl rfl) ?_
  first | refine sk rfl rfl rfl ?_ | refine sv rfl rfl rfl (ex_move rfl rfl) ?_
  refine st rfl rfl rfl (ex_buildSlice (cs := [slv (A, bs.length, c)]) rfl rfl (build_bs1 (A, bs.length, c))) ?_
  rintro _ w3 ⟨g, rfl, hg0, E3, hb7, hs7⟩
  replace K0 := K0.ext E3
  replace hb := hb.ext E3
  refine st rfl rfl rfl (ex_call call15 rfl rfl ((few_c (some ⟨g, 0, none⟩) 1 1 _ _ [(A, bs.length, c)] _ rfl (by decide) (Rd.of_blk (size := 1) hb7 rfl)).mono (R' := fun v w' => v = .bool false ∧ w' = _) fun v w' h' => ⟨by rw [h'.1, decide_eq_false (fun hh => h3 (hh _ List.mem_cons_self))], h'.2⟩)) ?_
  rintro _ w4 ⟨rfl, hwe⟩
  obtain rfl := hwe.symm
  first | refine sk rfl rfl rfl ?_ | refine sv rfl rfl rfl (ex_not rfl rfl) ?_
  first | refine sv rfl rfl rfl (ex_pick_t rfl rfl rfl) ?_ | refine sv rfl rfl rfl (ex_pick_f rfl rfl rfl) ?_
  refine w_nil (qe_next ?_)
  refine w_cond_t rfl ?_
  refine w_seq ?_
  refine w_region ?_
  refine st rfl rfl rfl (ex_call call16 rfl rfl (awake16_c _ (hT.ext K0))) ?_
  rintro _ w5 ⟨rfl, E9⟩
  replace K0 := K0.ext E9
  replace hb := hb.ext E9
  refine sv rfl rfl rfl (ex_assign rfl rfl) ?_
  refine w_nil (qe_next ?_)
  refine w_ret (qe_then_ret (qe_ret1 rfl rfl ?_))
  exact ⟨rfl, K0⟩
/-- kinkeep/kinkeeplaw16.ChunkerAtOnce -/
theorem atonce_good (q : Vut) (A : Option Addr) (c lo hi : Nat) (bs : List UInt8) (w : World) (hr : Rd w lo hi 1 A bs.length (bcells bs)) (hhi : hi ≤ w.heap.size) (hmc : bs.length ≤ c) (h : q.cut.ok ∧ q.cut.mn ≤ 40) (h3 : bs.length ≤ 300) (hT : TabAt w) :
    Ret Tryd.prog 5 [q.cut.val, .slice A bs.length c] w fun v w' => v = .bool true ∧ Ext w w' := by
  have K0 : Ext w w := Keep.refl _ _
  skip
  have hq0 : q.cut.mn = (q.mn : Int) := rfl
  have hq1 : q.cut.mx = (q.mx : Int) := rfl
  have hq2 : q.cut.wi = (q.wi : Int) := rfl
  have hq3 : q.cut.bi = (q.bi : Int) := rfl
  have hv1 := q.h1
  have hv2 := q.h2
  have hv3 := q.h3
  have hv4 := q.h4
  have hv5 := q.h5
  have hv6 := q.h6
  refine ret_of Tryd.func5 rfl rfl ?_
  refine w_seq ?_
  refine w_region ?_
  refine st rfl rfl rfl (ex_box (cs := q.cut.cells) rfl rfl rfl) ?_
  rintro _ w1 ⟨b1, rfl, hb0, E0, hb, hs0⟩
  replace K0 := K0.ext E0
  refine sv rfl rfl rfl (ex_assign rfl rfl) ?_
  refine w_nil (qe_next ?_)
  refine w_seq ?_
  refine w_seq ?_
  refine w_region ?_
  refine sv rfl rfl rfl (ex_load_agg (cs := q.cut.cells) agg24 rfl rfl (by intro j u hu; rw [Nat.zero_add]; exact hb.cell hu)) ?_
  refine st rfl rfl rfl (ex_call call14 rfl rfl ((small_c q.cut _).mono (R' := fun v w' => v = .bool true ∧ Ext _ w') fun v w' h' => ⟨by rw [h'.1, decide_eq_true (h)], h'.2⟩)) ?_
  rintro _ w2 ⟨rfl, E1⟩
  replace K0 := K0.ext E1
  replace hb := hb.ext E1
  refine sv rfl rfl rfl (ex_not rfl rfl) ?_
  refine sv rfl rfl rfl (ex_move rfl rfl) ?_
  first | refine sk rfl rfl rfl ?_ | refine sv rfl rfl rfl (ex_move rfl rfl) ?_
  refine st rfl rfl rfl (ex_buildSlice (cs := [slv (A, bs.length, c)]) rfl rfl (build_bs1 (A, bs.length, c))) ?_
  rintro _ w3 ⟨g, rfl, hg0, E3, hb7, hs7⟩
  replace K0 := K0.ext E3
  replace hb := hb.ext E3
  refine st rfl rfl rfl (ex_call call15 rfl rfl ((few_c (some ⟨g, 0, none⟩) 1 1 _ _ [(A, bs.length, c)] _ rfl (by decide) (Rd.of_blk (size := 1) hb7 rfl)).mono (R' := fun v w' => v = .bool true ∧ w' = _) fun v w' h' => ⟨by rw [h'.1, decide_eq_true (by intro x hx; rw [List.mem_singleton.1 hx]; exact h3)], h'.2⟩)) ?_
  rintro _ w4 ⟨rfl, hwe⟩
  obtain rfl := hwe.symm
  first | refine sk rfl rfl rfl ?_ | refine sv rfl rfl rfl (ex_not rfl rfl) ?_
  first | refine sv rfl rfl rfl (ex_pick_t rfl rfl rfl) ?_ | refine sv rfl rfl rfl (ex_pick_f rfl rfl rfl) ?_
  refine w_nil (qe_next ?_)
  refine w_cond_f rfl ?_
  refine w_skip (qe_next ?_)
  refine w_seq ?_
  refine w_region ?_
  refine sv rfl rfl rfl (ex_load_agg (cs := q.cut.cells) agg24 rfl rfl (by intro j u hu; rw [Nat.zero_add]; exact hb.cell hu)) ?_
  have hsz := K0.size
  have hbl := hb.lt
  refine st rfl rfl rfl (ex_call call23 rfl rfl (chunkNew_c q _ (hT.ext K0).pos)) ?_
  rintro _ w5 ⟨k, m, r, rfl, hC, hk0, hm0, hr0, E5⟩
  replace K0 := K0.ext E5
  replace hb := hb.ext E5
  refine sv rfl rfl rfl (ex_move rfl rfl) ?_
  refine sv rfl rfl rfl (ex_extract rfl rfl rfl) ?_
  refine sv rfl rfl rfl (ex_extract rfl rfl rfl) ?_
  refine sv rfl rfl rfl (ex_assign rfl rfl) ?_
  refine sv rfl rfl rfl (ex_assign rfl rfl) ?_
  refine w_nil (qe_next ?_)
  refine w_seq ?_
  refine w_seq ?_
  refine w_region ?_
  refine sv rfl rfl rfl (ex_move rfl rfl) ?_
  refine sv rfl rfl rfl (ex_cmp rfl rfl rfl (congrArg some (decide_eq_false (not_not_intro rfl)))) ?_
  refine sv rfl rfl rfl (ex_move rfl rfl) ?_
  first | refine sk rfl rfl rfl ?_ | refine sv rfl rfl rfl (ex_move rfl rfl) ?_
  first | refine sk rfl rfl rfl ?_ | refine sv rfl rfl rfl (ex_ptrNil Tryd.underlying40 rfl rfl rfl) ?_
  first | refine sv rfl rfl rfl (ex_pick_t rfl rfl rfl) ?_ | refine sv rfl rfl rfl (ex_pick_f rfl rfl rfl) ?_
  refine w_nil (qe_next ?_)
  refine w_cond_f rfl ?_
  refine w_skip (qe_next ?_)
  refine w_seq ?_
  refine w_region ?_
  refine sv rfl rfl rfl (ex_move rfl rfl) ?_
  refine sv rfl rfl rfl (ex_move rfl rfl) ?_
  have hsz7 := K0.size
  have hkl := hC.1.lt
  have hml := hC.2.1.1.lt
  have hrl := hC.2.1.2.1.lt
  have hT0 := hT.pos
  refine st rfl rfl rfl (ex_call call26 rfl rfl (chunkPush_c k m r _ 0 q [] [] none A c lo hi bs _ hC (hT.ext K0) (hr.ext K0) (fun b h1 h2 => ⟨by omega, by omega, by omega, fun o e => by cases e⟩) (fun o e => by cases e) (by omega) (by simp; omega) (by simp))) ?_
  rintro _ w6 ⟨O, no, dd, sl, B9, d9, lo9, rfl, hno, hC2, hout, hso, hap, hll, hBB, K9⟩
  replace K0 := K0.trans K9 (fun j hj _ => ⟨by omega, by omega, by omega, fun o e => by cases e⟩)
  replace hb := hb.keep K9 ⟨by omega, by omega, by omega, fun o e => by cases e⟩
  rw [fed_all] at hno hso
  have hsl := hso.length
  refine sv rfl rfl rfl (ex_assign rfl rfl) ?_
  refine w_nil (qe_next ?_)
  refine w_seq ?_
  refine w_region ?_
  refine sv rfl rfl rfl (ex_load_agg (cs := q.cut.cells) agg24 rfl rfl (by intro j u hu; rw [Nat.zero_add]; exact hb.cell hu)) ?_
  refine sv rfl rfl rfl (ex_move rfl rfl) ?_
  refine st rfl rfl rfl (ex_call call18 rfl rfl (refSplit_c q A c lo hi bs _ (hr.ext K0) hmc (by omega))) ?_
  rintro _ w7 ⟨O4, d4, sl4, rfl, hs4, hso4, E8⟩
  replace K0 := K0.ext E8
  replace hb := hb.ext E8
  replace hout := hout.ext E8
  replace hso := hso.ext E8
  have hel := (ecuts_inc q bs bs.length).length
  have hpl0 := pieces_length bs (ecuts q bs bs.length).1 0
  have hsl4 := hso4.length
  have hpi := pieces_length bs (icuts q bs bs.length).1 0
  refine sv rfl rfl rfl (ex_assign rfl rfl) ?_
  refine w_nil (qe_next ?_)
  refine w_seq ?_
  refine w_seq ?_
  refine w_region ?_
  refine sv rfl rfl rfl (ex_move rfl rfl) ?_
  refine sv rfl rfl rfl (ex_len Tryd.underlying32 rfl rfl) ?_
  refine sv rfl rfl rfl (ex_assign rfl rfl) ?_
  refine w_nil (qe_next ?_)
  refine w_seq ?_
  refine w_draw mixed (fun w8 _ Ew8 => ?_)
  replace K0 := K0.ext Ew8
  replace hb := hb.ext Ew8
  replace hout := hout.ext Ew8
  replace hso := hso.ext Ew8
  replace hs4 := hs4.ext Ew8
  replace hso4 := hso4.ext Ew8
  refine wd_v rfl rfl (by kernel_rfl) rfl rfl rfl (ex_move rfl rfl) ?_
  refine wd_if rfl rfl (by kernel_rfl) rfl rfl rfl (ex_cmp rfl rfl rfl rfl) (fun hn => ?_) (fun hn => ?_)
  · skip
    replace hn : 0 < (ecuts q bs bs.length).1.length := by omega
    have hbp := pieces_pos hn
    refine wd_v rfl rfl (by kernel_rfl) rfl rfl rfl (ex_move rfl rfl) ?_
    obtain ⟨b1, o1, u1, rfl, _, _, hu1, hc1⟩ := hs4.rd.at_ (k := (ecuts q bs bs.length).1.length - 1) (by omega)
    rw [List.getElem?_map] at hu1
    obtain ⟨s1, hs1, rfl⟩ := Option.map_eq_some_iff.1 hu1
    obtain ⟨y1, hy1, hl1, _⟩ := hso4.get hs1
    refine wd_free 8 _ rfl rfl rfl rfl ?_
    first | refine fsk [] rfl rfl rfl rfl rfl rfl rfl ?_ | refine fd [] rfl rfl rfl rfl rfl rfl rfl (fun w' E => ex_move rfl rfl) ?_
    first | refine fsk [] rfl rfl rfl rfl rfl rfl rfl ?_ | refine fd [] rfl rfl rfl rfl rfl rfl rfl (fun w' E => ex_move rfl rfl) ?_
    first | refine fsk [4] rfl rfl rfl rfl rfl rfl rfl ?_ | refine fd [4] rfl rfl rfl rfl rfl rfl rfl (fun w' E => ex_sub rfl rfl rfl (i64_in (by omega) (by omega))) ?_
    first | refine fsk [3, 5] rfl rfl rfl rfl rfl rfl rfl ?_ | refine fd [3, 5] rfl rfl rfl rfl rfl rfl rfl (fun w' E => ex_index Tryd.underlying32 sz25 ((ecuts q bs bs.length).1.length - 1) rfl rfl rfl (by omega) (by omega)) ?_
    first | refine fsk [6] rfl rfl rfl rfl rfl rfl rfl ?_ | refine fd [6] rfl rfl rfl rfl rfl rfl rfl (fun w' E => ex_load (v := .slice s1.1 s1.2.1 s1.2.2) one25 rfl rfl (E.cell trivial hc1)) ?_
    first | refine fsk [7] rfl rfl rfl rfl rfl rfl rfl ?_ | refine fd [7] rfl rfl rfl rfl rfl rfl rfl (fun w' E => ex_len Tryd.underlying25 rfl rfl) ?_
    first | refine fsk [] rfl rfl rfl rfl rfl rfl rfl ?_ | refine fd [] rfl rfl rfl rfl rfl rfl rfl (fun w' E => ex_fieldAddr fld24_1 rfl rfl) ?_
    first | refine fsk [9] rfl rfl rfl rfl rfl rfl rfl ?_ | refine fd [9] rfl rfl rfl rfl rfl rfl rfl (fun w' E => ex_load one3 rfl rfl (E.cell trivial (hb.cell rfl))) ?_
    refine .nil (fun w9 Ew9 _ => ?_)
    replace K0 := K0.ext Ew9
    replace hb := hb.ext Ew9
    replace hout := hout.ext Ew9
    replace hso := hso.ext Ew9
    replace hs4 := hs4.ext Ew9
    replace hso4 := hso4.ext Ew9
    first | refine wd_skip rfl rfl (by kernel_rfl) rfl rfl rfl ?_ | refine wd_v rfl rfl (by kernel_rfl) rfl rfl rfl (ex_cmp rfl rfl rfl rfl) ?_
    first | refine wd_v rfl rfl (by kernel_rfl) rfl rfl rfl (ex_pick_t rfl rfl rfl) ?_ | refine wd_v rfl rfl (by kernel_rfl) rfl rfl rfl (ex_pick_f rfl rfl rfl) ?_
    refine wd_nil (by decide) rfl ?_
    refine qe_next ?_
    refine w_if rfl (fun hmx => ?_) (fun hmx => ?_)
    · skip
      refine w_seq ?_
      refine w_region ?_
      refine sv rfl rfl rfl (ex_load_agg (cs := q.cut.cells) agg24 rfl rfl (by intro j u hu; rw [Nat.zero_add]; exact hb.cell hu)) ?_
      refine sv rfl rfl rfl (ex_move rfl rfl) ?_
      refine st rfl rfl rfl (ex_call call27 rfl rfl (refPrimary_c q A c lo hi bs _ (hr.ext K0) hmc (by omega))) ?_
      rintro _ w10 ⟨Pp, dP, rfl, hp, E6⟩
      replace K0 := K0.ext E6
      replace hb := hb.ext E6
      replace hout := hout.ext E6
      replace hso := hso.ext E6
      replace hs4 := hs4.ext E6
      replace hso4 := hso4.ext E6
      have hpp := prims_length q bs bs.length
      refine sv rfl rfl rfl (ex_assign rfl rfl) ?_
      refine w_nil (qe_next ?_)
      refine w_seq ?_
      refine w_region ?_
      refine sv rfl rfl rfl (ex_move rfl rfl) ?_
      refine sv rfl rfl rfl (ex_len Tryd.underlying35 rfl rfl) ?_
      refine sv_if rfl rfl rfl (ex_cmp rfl rfl rfl rfl) (fun hp0 => ?_) (fun hp0 => ?_)
      · skip
        refine sv rfl rfl rfl (ex_move rfl rfl) ?_
        first | refine sk rfl rfl rfl ?_ | refine sv rfl rfl rfl (ex_move rfl rfl) ?_
        first | refine sk rfl rfl rfl ?_ | refine sv rfl rfl rfl (ex_move rfl rfl) ?_
        first | refine sk rfl rfl rfl ?_ | refine sv rfl rfl rfl (ex_len Tryd.underlying35 rfl rfl) ?_
        refine sk rfl rfl rfl ?_
        refine sk rfl rfl rfl ?_
        refine sk rfl rfl rfl ?_
        first | refine sk rfl rfl rfl ?_ | refine sv rfl rfl rfl (ex_move rfl rfl) ?_
        refine sk rfl rfl rfl ?_
        refine sk rfl rfl rfl ?_
        first | refine sv rfl rfl rfl (ex_pick_t rfl rfl rfl) ?_ | refine sv rfl rfl rfl (ex_pick_f rfl rfl rfl) ?_
        refine w_nil (qe_next ?_)
        refine w_cond_t rfl ?_
        refine w_region ?_
        refine sv rfl rfl rfl (ex_move rfl rfl) ?_
        refine sv rfl rfl rfl (ex_move rfl rfl) ?_
        refine sv rfl rfl rfl (ex_sub rfl rfl rfl (i64_in (by omega) (by omega))) ?_
        refine sv rfl rfl rfl (ex_slice Tryd.underlying32 sz25 0 ((ecuts q bs bs.length).1.length - 1) rfl rfl (.inl ⟨rfl, rfl⟩) (.inr ⟨_, _, _, rfl, rfl, by omega⟩) (Nat.zero_le _) (by have := hs4.le; omega)) ?_
        refine sv rfl rfl rfl (ex_assign rfl rfl) ?_
        refine w_nil (qe_next ?_)
        refine w_seq ?_
        refine w_region ?_
        refine st rfl rfl rfl (ex_call call16 rfl rfl (awake16_c _ (hT.ext K0))) ?_
        rintro _ w11 ⟨rfl, E9⟩
        replace K0 := K0.ext E9
        replace hb := hb.ext E9
        replace hout := hout.ext E9
        replace hso := hso.ext E9
        replace hs4 := hs4.ext E9
        replace hso4 := hso4.ext E9
        replace hp := hp.ext E9
        have hpl : pieces bs 0 (icuts q bs bs.length).1 = (pieces bs 0 (ecuts q bs bs.length).1).take ((ecuts q bs bs.length).1.length - 1) := atonce_cut hy1 (prims_no hbp (by omega)) (by rw [← hl1]; omega)
        have hcut := hs4.rd.cut (l := 0) (hh := (ecuts q bs bs.length).1.length - 1) (m := d4) (Nat.zero_le _) (by omega) hs4.le
        rw [show List.take (((ecuts q bs bs.length).1.length - 1 - 0) * 1) (List.drop (0 * 1) (sl4.map slv)) = (sl4.take ((ecuts q bs bs.length).1.length - 1)).map slv from by simp [List.map_take]] at hcut
        refine sv rfl rfl rfl (ex_move rfl rfl) ?_
        first | refine sk rfl rfl rfl ?_ | refine sv rfl rfl rfl (ex_move rfl rfl) ?_
        first | refine sk rfl rfl rfl ?_ | refine sv rfl rfl rfl (ex_move rfl rfl) ?_
        refine st rfl rfl rfl (ex_call call28 rfl rfl (same_c O _ _ _ dd _ _ _ _ _ sl (sl4.take ((ecuts q bs bs.length).1.length - 1)) (pieces bs 0 (icuts q bs bs.length).1) _ (by omega) (by rw [List.length_take]; omega) (by rw [pieces_length]; have := (icuts_inc q bs bs.length).length; omega) hout.rd hcut hso.rds (by rw [hpl]; exact Rds.take hso4.rds _))) ?_
        rintro _ w12 ⟨rfl, E7⟩
        replace K0 := K0.ext E7
        replace hb := hb.ext E7
        replace hout := hout.ext E7
        replace hso := hso.ext E7
        replace hs4 := hs4.ext E7
        replace hso4 := hso4.ext E7
        replace hp := hp.ext E7
        first | refine sv rfl rfl rfl (ex_pick_t rfl rfl rfl) ?_ | refine sv rfl rfl rfl (ex_pick_f rfl rfl rfl) ?_
        refine sv rfl rfl rfl (ex_assign rfl rfl) ?_
        refine w_nil (qe_next ?_)
        refine w_ret (qe_ret1 rfl rfl ?_)
        exact ⟨rfl, K0⟩
      · skip
        replace hp0 : 0 < (prims q bs bs.length).length := by omega
        obtain ⟨b2, o2, u2, rfl, _, _, hu2, hc2⟩ := hp.rd.at_ (k := (prims q bs bs.length).length - 1) (by omega)
        rw [List.getElem?_map] at hu2
        obtain ⟨px, hpx, rfl⟩ := Option.map_eq_some_iff.1 hu2
        refine sv rfl rfl rfl (ex_move rfl rfl) ?_
        first | refine sk rfl rfl rfl ?_ | refine sv rfl rfl rfl (ex_move rfl rfl) ?_
        first | refine sk rfl rfl rfl ?_ | refine sv rfl rfl rfl (ex_move rfl rfl) ?_
        first | refine sk rfl rfl rfl ?_ | refine sv rfl rfl rfl (ex_len Tryd.underlying35 rfl rfl) ?_
        first | refine sk rfl rfl rfl ?_ | refine sv rfl rfl rfl (ex_sub rfl rfl rfl (i64_in (by omega) (by omega))) ?_
        first | refine sk rfl rfl rfl ?_ | refine sv rfl rfl rfl (ex_index Tryd.underlying35 sz3 ((prims q bs bs.length).length - 1) rfl rfl rfl (by omega) (by omega)) ?_
        first | refine sk rfl rfl rfl ?_ | refine sv rfl rfl rfl (ex_load one3 rfl rfl hc2) ?_
        first | refine sk rfl rfl rfl ?_ | refine sv rfl rfl rfl (ex_move rfl rfl) ?_
        first | refine sk rfl rfl rfl ?_ | refine sv rfl rfl rfl (ex_len Tryd.underlying25 rfl rfl) ?_
        first | refine sk rfl rfl rfl ?_ | refine sv rfl rfl rfl (ex_cmp rfl rfl rfl rfl) ?_
        first | refine sv rfl rfl rfl (ex_pick_t rfl rfl rfl) ?_ | refine sv rfl rfl rfl (ex_pick_f rfl rfl rfl) ?_
        refine w_nil (qe_next ?_)
        refine w_if rfl (fun hpe => ?_) (fun hpe => ?_)
        · skip
          refine w_region ?_
          refine sv rfl rfl rfl (ex_move rfl rfl) ?_
          refine sv rfl rfl rfl (ex_move rfl rfl) ?_
          refine sv rfl rfl rfl (ex_sub rfl rfl rfl (i64_in (by omega) (by omega))) ?_
          refine sv rfl rfl rfl (ex_slice Tryd.underlying32 sz25 0 ((ecuts q bs bs.length).1.length - 1) rfl rfl (.inl ⟨rfl, rfl⟩) (.inr ⟨_, _, _, rfl, rfl, by omega⟩) (Nat.zero_le _) (by have := hs4.le; omega)) ?_
          refine sv rfl rfl rfl (ex_assign rfl rfl) ?_
          refine w_nil (qe_next ?_)
          refine w_seq ?_
          refine w_region ?_
          refine st rfl rfl rfl (ex_call call16 rfl rfl (awake16_c _ (hT.ext K0))) ?_
          rintro _ w13 ⟨rfl, E9⟩
          replace K0 := K0.ext E9
          replace hb := hb.ext E9
          replace hout := hout.ext E9
          replace hso := hso.ext E9
          replace hs4 := hs4.ext E9
          replace hso4 := hso4.ext E9
          replace hp := hp.ext E9
          have hpl : pieces bs 0 (icuts q bs bs.length).1 = (pieces bs 0 (ecuts q bs bs.length).1).take ((ecuts q bs bs.length).1.length - 1) := atonce_cut hy1 (by cases hq : prim q bs bs.length with | false => rfl | true => exact absurd ((prims_last hbp hpx).2 hq) (by omega)) (by rw [← hl1]; omega)
          have hcut := hs4.rd.cut (l := 0) (hh := (ecuts q bs bs.length).1.length - 1) (m := d4) (Nat.zero_le _) (by omega) hs4.le
          rw [show List.take (((ecuts q bs bs.length).1.length - 1 - 0) * 1) (List.drop (0 * 1) (sl4.map slv)) = (sl4.take ((ecuts q bs bs.length).1.length - 1)).map slv from by simp [List.map_take]] at hcut
          refine sv rfl rfl rfl (ex_move rfl rfl) ?_
          first | refine sk rfl rfl rfl ?_ | refine sv rfl rfl rfl (ex_move rfl rfl) ?_
          first | refine sk rfl rfl rfl ?_ | refine sv rfl rfl rfl (ex_move rfl rfl) ?_
          refine st rfl rfl rfl (ex_call call28 rfl rfl (same_c O _ _ _ dd _ _ _ _ _ sl (sl4.take ((ecuts q bs bs.length).1.length - 1)) (pieces bs 0 (icuts q bs bs.length).1) _ (by omega) (by rw [List.length_take]; omega) (by rw [pieces_length]; have := (icuts_inc q bs bs.length).length; omega) hout.rd hcut hso.rds (by rw [hpl]; exact Rds.take hso4.rds _))) ?_
          rintro _ w14 ⟨rfl, E7⟩
          replace K0 := K0.ext E7
          replace hb := hb.ext E7
          replace hout := hout.ext E7
          replace hso := hso.ext E7
          replace hs4 := hs4.ext E7
          replace hso4 := hso4.ext E7
          replace hp := hp.ext E7
          first | refine sv rfl rfl rfl (ex_pick_t rfl rfl rfl) ?_ | refine sv rfl rfl rfl (ex_pick_f rfl rfl rfl) ?_
          refine sv rfl rfl rfl (ex_assign rfl rfl) ?_
          refine w_nil (qe_next ?_)
          refine w_ret (qe_ret1 rfl rfl ?_)
          exact ⟨rfl, K0⟩
        · skip
          refine w_skip (qe_next ?_)
          refine w_seq ?_
          refine w_region ?_
          refine st rfl rfl rfl (ex_call call16 rfl rfl (awake16_c _ (hT.ext K0))) ?_
          rintro _ w15 ⟨rfl, E9⟩
          replace K0 := K0.ext E9
          replace hb := hb.ext E9
          replace hout := hout.ext E9
          replace hso := hso.ext E9
          replace hs4 := hs4.ext E9
          replace hso4 := hso4.ext E9
          replace hp := hp.ext E9
          have hpl : pieces bs 0 (icuts q bs bs.length).1 = pieces bs 0 (ecuts q bs bs.length).1 := atonce_keep hy1 (.inl ((prims_last hbp hpx).1 (by omega)))
          refine sv rfl rfl rfl (ex_move rfl rfl) ?_
          first | refine sk rfl rfl rfl ?_ | refine sv rfl rfl rfl (ex_move rfl rfl) ?_
          first | refine sk rfl rfl rfl ?_ | refine sv rfl rfl rfl (ex_move rfl rfl) ?_
          refine st rfl rfl rfl (ex_call call28 rfl rfl (same_c O _ _ _ dd d4 _ _ _ _ sl sl4 (pieces bs 0 (icuts q bs bs.length).1) _ (by omega) (by omega) (by rw [pieces_length]; have := (icuts_inc q bs bs.length).length; omega) hout.rd hs4.rd hso.rds (by rw [hpl]; exact hso4.rds))) ?_
          rintro _ w16 ⟨rfl, E7⟩
          replace K0 := K0.ext E7
          replace hb := hb.ext E7
          replace hout := hout.ext E7
          replace hso := hso.ext E7
          replace hs4 := hs4.ext E7
          replace hso4 := hso4.ext E7
          replace hp := hp.ext E7
          first | refine sv rfl rfl rfl (ex_pick_t rfl rfl rfl) ?_ | refine sv rfl rfl rfl (ex_pick_f rfl rfl rfl) ?_
          refine sv rfl rfl rfl (ex_assign rfl rfl) ?_
          refine w_nil (qe_next ?_)
          refine w_ret (qe_ret1 rfl rfl ?_)
          exact ⟨rfl, K0⟩
    · skip
      refine w_skip (qe_next ?_)
      refine w_seq ?_
      refine w_region ?_
      refine st rfl rfl rfl (ex_call call16 rfl rfl (awake16_c _ (hT.ext K0))) ?_
      rintro _ w17 ⟨rfl, E9⟩
      replace K0 := K0.ext E9
      replace hb := hb.ext E9
      replace hout := hout.ext E9
      replace hso := hso.ext E9
      replace hs4 := hs4.ext E9
      replace hso4 := hso4.ext E9
      have hpl : pieces bs 0 (icuts q bs bs.length).1 = pieces bs 0 (ecuts q bs bs.length).1 := atonce_keep hy1 (.inr (by rw [← hl1]; omega))
      refine sv rfl rfl rfl (ex_move rfl rfl) ?_
      first | refine sk rfl rfl rfl ?_ | refine sv rfl rfl rfl (ex_move rfl rfl) ?_
      first | refine sk rfl rfl rfl ?_ | refine sv rfl rfl rfl (ex_move rfl rfl) ?_
      refine st rfl rfl rfl (ex_call call28 rfl rfl (same_c O _ _ _ dd d4 _ _ _ _ sl sl4 (pieces bs 0 (icuts q bs bs.length).1) _ (by omega) (by omega) (by rw [pieces_length]; have := (icuts_inc q bs bs.length).length; omega) hout.rd hs4.rd hso.rds (by rw [hpl]; exact hso4.rds))) ?_
      rintro _ w18 ⟨rfl, E7⟩
      replace K0 := K0.ext E7
      replace hb := hb.ext E7
      replace hout := hout.ext E7
      replace hso := hso.ext E7
      replace hs4 := hs4.ext E7
      replace hso4 := hso4.ext E7
      first | refine sv rfl rfl rfl (ex_pick_t rfl rfl rfl) ?_ | refine sv rfl rfl rfl (ex_pick_f rfl rfl rfl) ?_
      refine sv rfl rfl rfl (ex_assign rfl rfl) ?_
      refine w_nil (qe_next ?_)
      refine w_ret (qe_ret1 rfl rfl ?_)
      exact ⟨rfl, K0⟩
  · skip
    replace hn : (ecuts q bs bs.length).1.length = 0 := by omega
    refine wd_v rfl rfl (by kernel_rfl) rfl rfl rfl (ex_move rfl rfl) ?_
    refine wd_free 8 _ rfl rfl rfl rfl ?_
    first | refine fsk [] rfl rfl rfl rfl rfl rfl rfl ?_ | refine fd [] rfl rfl rfl rfl rfl rfl rfl (fun w' E => ex_move rfl rfl) ?_
    first | refine fsk [] rfl rfl rfl rfl rfl rfl rfl ?_ | refine fd [] rfl rfl rfl rfl rfl rfl rfl (fun w' E => ex_move rfl rfl) ?_
    refine fsk [4] rfl rfl rfl rfl rfl rfl rfl ?_
    refine fsk [3, 5] rfl rfl rfl rfl rfl rfl rfl ?_
    refine fsk [6] rfl rfl rfl rfl rfl rfl rfl ?_
    refine fsk [7] rfl rfl rfl rfl rfl rfl rfl ?_
    refine fsk [] rfl rfl rfl rfl rfl rfl rfl ?_
    refine fsk [9] rfl rfl rfl rfl rfl rfl rfl ?_
    refine .nil (fun w19 Ew19 _ => ?_)
    replace K0 := K0.ext Ew19
    replace hb := hb.ext Ew19
    replace hout := hout.ext Ew19
    replace hso := hso.ext Ew19
    replace hs4 := hs4.ext Ew19
    replace hso4 := hso4.ext Ew19
    refine wd_skip rfl rfl (by kernel_rfl) rfl rfl rfl ?_
    first | refine wd_v rfl rfl (by kernel_rfl) rfl rfl rfl (ex_pick_t rfl rfl rfl) ?_ | refine wd_v rfl rfl (by kernel_rfl) rfl rfl rfl (ex_pick_f rfl rfl rfl) ?_
    refine wd_nil (by decide) rfl ?_
    refine qe_next ?_
    refine w_cond_f rfl ?_
    refine w_skip (qe_next ?_)
    refine w_seq ?_
    refine w_region ?_
    refine st rfl rfl rfl (ex_call call16 rfl rfl (awake16_c _ (hT.ext K0))) ?_
    rintro _ w20 ⟨rfl, E9⟩
    replace K0 := K0.ext E9
    replace hb := hb.ext E9
    replace hout := hout.ext E9
    replace hso := hso.ext E9
    replace hs4 := hs4.ext E9
    replace hso4 := hso4.ext E9
    have hpl : pieces bs 0 (icuts q bs bs.length).1 = pieces bs 0 (ecuts q bs bs.length).1 := ecuts_none (by omega)
    refine sv rfl rfl rfl (ex_move rfl rfl) ?_
    first | refine sk rfl rfl rfl ?_ | refine sv rfl rfl rfl (ex_move rfl rfl) ?_
    first | refine sk rfl rfl rfl ?_ | refine sv rfl rfl rfl (ex_move rfl rfl) ?_
    refine st rfl rfl rfl (ex_call call28 rfl rfl (same_c O _ _ _ dd d4 _ _ _ _ sl sl4 (pieces bs 0 (icuts q bs bs.length).1) _ (by omega) (by omega) (by rw [pieces_length]; have := (icuts_inc q bs bs.length).length; omega) hout.rd hs4.rd hso.rds (by rw [hpl]; exact hso4.rds))) ?_
    rintro _ w21 ⟨rfl, E7⟩
    replace K0 := K0.ext E7
    replace hb := hb.ext E7
    replace hout := hout.ext E7
    replace hso := hso.ext E7
    replace hs4 := hs4.ext E7
    replace hso4 := hso4.ext E7
    first | refine sv rfl rfl rfl (ex_pick_t rfl rfl rfl) ?_ | refine sv rfl rfl rfl (ex_pick_f rfl rfl rfl) ?_
    refine sv rfl rfl rfl (ex_assign rfl rfl) ?_
    refine w_nil (qe_next ?_)
    refine w_ret (qe_ret1 rfl rfl ?_)
    exact ⟨rfl, K0⟩
theorem atonce_law (c0 : Cut) (A : Option Addr) (c lo hi : Nat) (bs : List UInt8) (w : World) (hr : Rd w lo hi 1 A bs.length (bcells bs)) (hhi : hi ≤ w.heap.size) (hmc : bs.length ≤ c) (hT : TabAt w) : Ret Tryd.prog 5 [c0.val, .slice A bs.length c] w fun v w' => v = .bool true ∧ Ext w w' := by
  by_cases h : c0.ok ∧ c0.mn ≤ 40
  · by_cases h3 : bs.length ≤ 300
    · obtain ⟨q, rfl⟩ := h.1.vut
      exact atonce_good q A c lo hi bs w hr hhi hmc h h3 hT
    · exact atonce_bad2 c0 A c lo hi bs w hr hhi hmc h h3 hT
  · exact atonce_bad1 c0 A c lo hi bs w hr hhi hmc h hT
end Go.Proofs.YtfgpcmphcnhbiaaDoor

/- Reach; the examples of the chapter, walked. -/
import Derived.Test.YtfgpcmphcnhbiaaDoorK6
namespace Go.Proofs.YtfgpcmphcnhbiaaDoor
open Go Go.RowKit
set_option linter.unusedVariables false
set_option linter.unusedSimpArgs false
theorem build_A (w : World) : (Instr.build 24 [(0, Value.int .i64 2), (1, Value.int .i64 3), (2, Value.int .i64 1)].toArray).run Tryd.prog w = .ok (.agg qA.cut.cells.toArray) w := by kernel_rfl
theorem build_A4 (w : World) : (Instr.buildSlice 35 4 [(0, Value.int .i64 1), (1, Value.int .i64 4), (2, Value.int .i64 7), (3, Value.int .i64 8)].toArray).run Tryd.prog w = .ok (.slice (some ⟨w.heap.size, 0, none⟩) 4 4) (w.alloc (.cells [Value.int .i64 1, Value.int .i64 4, Value.int .i64 7, Value.int .i64 8].toArray 3)) := by kernel_rfl
def Reachable (c : Cut) (a b : Int) : Prop := c.ok ∧ 0 ≤ a ∧ a < b ∧ b ≤ 1048576

/-- kinkeep/chunker.Reach -/
theorem reach_c (c0 : Cut) (a b : Int) (w : World) (h : Reachable c0 a b) :
    Ret Tryd.prog 24 [c0.val, .int .i64 a, .int .i64 b] w fun v w' => v = .tuple #[.int .i64 (a + 1), .int .i64 (b + c0.wi + c0.mn - 2), .int .i64 0] ∧ Ext w w' := by
  have K0 : Ext w w := Keep.refl _ _
  obtain ⟨h1, h2, h3, h4⟩ := h
  have h5 := h1
  unfold Cut.ok at h5
  refine ret_of Tryd.func24 rfl rfl ?_
  refine w_seq ?_
  refine w_region ?_
  refine st rfl rfl rfl (ex_box (cs := c0.cells) rfl rfl rfl) ?_
  rintro _ w1 ⟨b1, rfl, hb0, E0, hb, hs0⟩
  replace K0 := K0.ext E0
  refine sv rfl rfl rfl (ex_assign rfl rfl) ?_
  refine sv rfl rfl rfl (ex_assign rfl rfl) ?_
  refine sv rfl rfl rfl (ex_assign rfl rfl) ?_
  refine w_nil (qe_next ?_)
  refine w_seq ?_
  refine w_seq ?_
  refine w_region ?_
  refine sv rfl rfl rfl (ex_load_agg (cs := c0.cells) agg24 rfl rfl (by intro j u hu; rw [Nat.zero_add]; exact hb.cell hu)) ?_
  refine st rfl rfl rfl (ex_call call25 rfl rfl ((valid_c c0 _).mono (R' := fun v w' => v = .bool true ∧ Ext _ w') fun v w' h' => ⟨by rw [h'.1, decide_eq_true (h1)], h'.2⟩)) ?_
  rintro _ w2 ⟨rfl, E1⟩
  replace K0 := K0.ext E1
  replace hb := hb.ext E1
  refine sv rfl rfl rfl (ex_not rfl rfl) ?_
  refine sv rfl rfl rfl (ex_move rfl rfl) ?_
  first | refine sk rfl rfl rfl ?_ | refine sv rfl rfl rfl (ex_move rfl rfl) ?_
  first | refine sk rfl rfl rfl ?_ | refine sv rfl rfl rfl (ex_cmp rfl rfl rfl (congrArg some (decide_eq_false (by omega)))) ?_
  first | refine sv rfl rfl rfl (ex_pick_t rfl rfl rfl) ?_ | refine sv rfl rfl rfl (ex_pick_f rfl rfl rfl) ?_
  refine sv rfl rfl rfl (ex_move rfl rfl) ?_
  first | refine sk rfl rfl rfl ?_ | refine sv rfl rfl rfl (ex_move rfl rfl) ?_
  first | refine sk rfl rfl rfl ?_ | refine sv rfl rfl rfl (ex_move rfl rfl) ?_
  first | refine sk rfl rfl rfl ?_ | refine sv rfl rfl rfl (ex_cmp rfl rfl rfl (congrArg some (decide_eq_false (by omega)))) ?_
  first | refine sv rfl rfl rfl (ex_pick_t rfl rfl rfl) ?_ | refine sv rfl rfl rfl (ex_pick_f rfl rfl rfl) ?_
  refine sv rfl rfl rfl (ex_move rfl rfl) ?_
  first | refine sk rfl rfl rfl ?_ | refine sv rfl rfl rfl (ex_move rfl rfl) ?_
  first | refine sk rfl rfl rfl ?_ | refine sv rfl rfl rfl (ex_cmp rfl rfl rfl (congrArg some (decide_eq_false (by omega)))) ?_
  first | refine sv rfl rfl rfl (ex_pick_t rfl rfl rfl) ?_ | refine sv rfl rfl rfl (ex_pick_f rfl rfl rfl) ?_
  refine w_nil (qe_next ?_)
  refine w_cond_f rfl ?_
  refine w_skip (qe_next ?_)
  refine w_seq ?_
  refine w_sub [(1, .int .i64 a), (2, .int .i64 b), (3, .pointer (some ⟨b1, 0, none⟩))] ⟨rfl, rfl, rfl, trivial⟩ ?_
  refine w_draw mixed (fun w3 _ Ew3 => ?_)
  replace K0 := K0.ext Ew3
  replace hb := hb.ext Ew3
  refine wd_free 11 _ rfl rfl rfl rfl ?_
  refine fd [] rfl rfl rfl rfl rfl rfl rfl (fun w' E => ex_move rfl rfl) ?_
  refine fd [0] rfl rfl rfl rfl rfl rfl rfl (fun w' E => ex_add rfl rfl rfl (i64_in (by omega) (by omega))) ?_
  refine fd [] rfl rfl rfl rfl rfl rfl rfl (fun w' E => ex_move rfl rfl) ?_
  refine fd [] rfl rfl rfl rfl rfl rfl rfl (fun w' E => ex_fieldAddr fld24_2 rfl rfl) ?_
  refine fd [3] rfl rfl rfl rfl rfl rfl rfl (fun w' E => ex_load one3 rfl rfl (E.cell trivial (hb.cell rfl))) ?_
  refine fd [2, 4] rfl rfl rfl rfl rfl rfl rfl (fun w' E => ex_add rfl rfl rfl (i64_in (by omega) (by omega))) ?_
  refine fd [] rfl rfl rfl rfl rfl rfl rfl (fun w' E => ex_fieldAddr fld24_0 rfl rfl) ?_
  refine fd [6] rfl rfl rfl rfl rfl rfl rfl (fun w' E => ex_load one3 rfl rfl (E.cell trivial (hb.cell rfl))) ?_
  refine fd [5, 7] rfl rfl rfl rfl rfl rfl rfl (fun w' E => ex_add rfl rfl rfl (i64_in (by omega) (by omega))) ?_
  refine fd [8] rfl rfl rfl rfl rfl rfl rfl (fun w' E => ex_sub rfl rfl rfl (i64_in (by omega) (by omega))) ?_
  refine fd [1] rfl rfl rfl rfl rfl rfl rfl (fun w' E => ex_assign rfl rfl) ?_
  refine .nil (fun w4 Ew4 _ => ?_)
  replace K0 := K0.ext Ew4
  replace hb := hb.ext Ew4
  refine wd_v rfl rfl (by kernel_rfl) rfl rfl rfl (ex_assign rfl rfl) ?_
  refine wd_v rfl rfl (by kernel_rfl) rfl rfl rfl (ex_assign rfl rfl) ?_
  refine wd_nil (by decide) rfl ?_
  refine qe_next ?_
  refine w_ret (qe_ret3 rfl rfl rfl rfl ?_)
  exact ⟨rfl, K0⟩

theorem cutsA_c (A : Option Addr) (c lo hi : Nat) (bs : List UInt8) (hl : bs.length = 8) (w : World) (hr : Rd w lo hi 1 A bs.length (bcells bs)) (hhi : hi ≤ w.heap.size) (hT : TabAt w) :
    Ret Tryd.prog 21 [qA.cut.val, .slice A bs.length c] w fun v w' => ∃ B d, v = .tuple #[.slice B 4 d, .int .i64 0] ∧ Own w' w.heap.size 3 1 B 4 d (([1, 4, 7, 8] : List Int).map fun x => Value.int .i64 x) ∧ Ext w w' := by
  have := cuts_c qA A c lo hi bs w hr hhi hT (by omega)
  rw [ecuts_A bs hl] at this
  exact this
theorem Rd.of_blk1 {w : World} {b t size n : Nat} {cs : List Value} (h : Blk w b t cs) (hcs : cs.length = n * size) : Rd w b (b + 1) size (some ⟨b, 0, none⟩) n cs :=
  ⟨hcs, fun _ => ⟨b, 0, rfl, Nat.le_refl _, Nat.lt_succ_self _, fun j u hu => by rw [Nat.zero_add]; exact h.cell hu⟩⟩
theorem fed_A2 (xs : List UInt8) (hl : xs.length = 5) : ∃ y0 y1, (fed qA [] [] xs xs.length).1 = [y0, y1] ∧ y0.length = 1 ∧ y1.length = 3 ∧ (fed qA [] [] xs xs.length).2.length = 1 := by
  have h := fed_A xs hl
  simp only [Prod.mk.injEq] at h
  obtain ⟨h1, h2⟩ := h
  rcases hf : (fed qA [] [] xs xs.length).1 with _ | ⟨y0, _ | ⟨y1, _ | ⟨y2, l⟩⟩⟩ <;> rw [hf] at h1 <;> simp at h1
  exact ⟨y0, y1, rfl, h1.1, h1.2, h2⟩

/-- kinkeep/kinkeeplaw16.awake -/
theorem awake16_c (w : World) (hT : TabAt w) :
    Ret Tryd.prog 16 [] w fun v w' => v = .bool true ∧ Ext w w' := by
  have K0 : Ext w w := Keep.refl _ _
  refine ret_of Tryd.func16 rfl rfl ?_
  refine w_seq ?_
  refine w_region ?_
  refine sv rfl rfl rfl (ex_assign rfl rfl) ?_
  refine w_nil (qe_next ?_)
  refine w_seq ?_
  refine w_region ?_
  refine sv rfl rfl rfl (ex_build rfl rfl build_A) ?_
  refine st rfl rfl rfl (ex_alloc (z := .agg #[.int .i64 0, .int .i64 0, .int .i64 0, .int .i64 0, .int .u64 0]) (by kernel_rfl) (cs := [.int .i64 0, .int .i64 0, .int .i64 0, .int .i64 0, .int .u64 0]) rfl rfl) ?_
  rintro _ w1 ⟨b, rfl, hb0, E0, hb, hs0⟩
  replace K0 := K0.ext E0
  refine st0 rfl rfl (ex_store_all (cs' := qA.cut.cells) sz24 rfl rfl rfl (by intro v hv; simp [Cut.cells, Vut.cut] at hv; rcases hv with rfl | rfl | rfl | rfl | rfl <;> rfl) hb rfl rfl) ?_
  rintro _ w2 ⟨K1, hb1, hs1⟩
  replace K0 := K0.trans K1 (fun j hj _ => by omega)
  clear hb K1
  have hb := hb1
  clear hb1
  refine w_nil (qe_next ?_)
  refine w_seq ?_
  refine w_draw mixed (fun w3 _ Ew3 => ?_)
  replace K0 := K0.ext Ew3
  replace hb := hb.ext Ew3
  refine wd_free 2 _ rfl rfl rfl rfl ?_
  refine fd [] rfl rfl rfl rfl rfl rfl rfl (fun w' E => ex_load_agg (cs := qA.cut.cells) agg24 rfl rfl (by intro j u hu; rw [Nat.zero_add]; exact E.cell trivial (hb.cell hu))) ?_
  refine fx [] (Φ := fun v' w' => ∃ g, v' = .slice (some ⟨g, 0, none⟩) 8 8 ∧ Blk w' g 5 (List.replicate 8 (.int .u8 0))) rfl rfl rfl rfl rfl rfl rfl (fun _ _ _ k ⟨g, h1, h2⟩ => ⟨g, h1, h2.ext k⟩) (fun w' E => (ex_make Tryd.underlying25 z5 8 rfl rfl rfl rfl rfl (by decide) (by decide)).mono fun v' w'' ⟨g, h1, _, h2, h3, _⟩ => ⟨⟨g, h1, h3⟩, h2⟩) ?_
  refine .nil (fun _ w4 Ew4 HF => ?_)
  replace K0 := K0.ext Ew4
  replace hb := hb.ext Ew4
  obtain ⟨⟨g8, rfl, hg8⟩, -⟩ := HF
  refine wd_one rfl rfl (by kernel_rfl) rfl rfl rfl (ex_call call21 rfl rfl (cutsA_c (some ⟨g8, 0, none⟩) 8 0 _ (List.replicate 8 0) rfl _ (Rd.of_blk (size := 1) hg8 rfl) (Nat.le_refl _) (hT.ext K0))) ?_
  rintro _ w5 ⟨B, d, rfl, hl, E3⟩
  replace K0 := K0.ext E3
  replace hb := hb.ext E3
  refine wd_v rfl rfl (by kernel_rfl) rfl rfl rfl (ex_move rfl rfl) ?_
  refine wd_free 3 _ rfl rfl rfl rfl ?_
  refine fd [] rfl rfl rfl rfl rfl rfl rfl (fun w' E => ex_extract rfl rfl rfl) ?_
  refine fd [] rfl rfl rfl rfl rfl rfl rfl (fun w' E => ex_extract rfl rfl rfl) ?_
  refine fd [4] rfl rfl rfl rfl rfl rfl rfl (fun w' E => ex_assign rfl rfl) ?_
  refine .nil (fun w6 Ew6 _ => ?_)
  replace K0 := K0.ext Ew6
  replace hb := hb.ext Ew6
  replace hl := hl.ext Ew6
  refine wd_v rfl rfl (by kernel_rfl) rfl rfl rfl (ex_assign rfl rfl) ?_
  refine wd_nil (by decide) rfl ?_
  refine qe_next ?_
  refine w_seq ?_
  refine w_region ?_
  refine sv rfl rfl rfl (ex_load_agg (cs := qA.cut.cells) agg24 rfl rfl (by intro j u hu; rw [Nat.zero_add]; exact hb.cell hu)) ?_
  refine st rfl rfl rfl (ex_call call24 rfl rfl (reach_c qA.cut 5 6 _ ⟨qA.ok, by omega, by omega, by omega⟩)) ?_
  rintro _ w7 ⟨rfl, E4⟩
  replace K0 := K0.ext E4
  replace hb := hb.ext E4
  replace hl := hl.ext E4
  refine sv rfl rfl rfl (ex_move rfl rfl) ?_
  refine sv rfl rfl rfl (ex_extract rfl rfl rfl) ?_
  refine sv rfl rfl rfl (ex_extract rfl rfl rfl) ?_
  refine sv rfl rfl rfl (ex_extract rfl rfl rfl) ?_
  refine sv rfl rfl rfl (ex_assign rfl rfl) ?_
  refine sv rfl rfl rfl (ex_assign rfl rfl) ?_
  refine sv rfl rfl rfl (ex_assign rfl rfl) ?_
  refine w_nil (qe_next ?_)
  refine w_seq ?_
  refine w_region ?_
  refine sv rfl rfl rfl (ex_load_agg (cs := qA.cut.cells) agg24 rfl rfl (by intro j u hu; rw [Nat.zero_add]; exact hb.cell hu)) ?_
  have hsz4 := K0.size
  refine st rfl rfl rfl (ex_call call23 rfl rfl (chunkNew_c qA _ (hT.ext K0).pos)) ?_
  rintro _ w8 ⟨k, m, r, rfl, hC, hk0, hm0, hr0, E5⟩
  replace K0 := K0.ext E5
  replace hb := hb.ext E5
  replace hl := hl.ext E5
  refine sv rfl rfl rfl (ex_move rfl rfl) ?_
  refine sv rfl rfl rfl (ex_extract rfl rfl rfl) ?_
  refine sv rfl rfl rfl (ex_extract rfl rfl rfl) ?_
  refine sv rfl rfl rfl (ex_assign rfl rfl) ?_
  refine sv rfl rfl rfl (ex_assign rfl rfl) ?_
  refine w_nil (qe_next ?_)
  refine w_seq ?_
  refine w_seq ?_
  refine w_region ?_
  refine sv rfl rfl rfl (ex_move rfl rfl) ?_
  refine sv rfl rfl rfl (ex_cmp rfl rfl rfl (congrArg some (decide_eq_false (not_not_intro rfl)))) ?_
  refine sv rfl rfl rfl (ex_move rfl rfl) ?_
  first | refine sk rfl rfl rfl ?_ | refine sv rfl rfl rfl (ex_move rfl rfl) ?_
  first | refine sk rfl rfl rfl ?_ | refine sv rfl rfl rfl (ex_cmp rfl rfl rfl (congrArg some (decide_eq_false (not_not_intro rfl)))) ?_
  first | refine sv rfl rfl rfl (ex_pick_t rfl rfl rfl) ?_ | refine sv rfl rfl rfl (ex_pick_f rfl rfl rfl) ?_
  refine sv rfl rfl rfl (ex_move rfl rfl) ?_
  first | refine sk rfl rfl rfl ?_ | refine sv rfl rfl rfl (ex_move rfl rfl) ?_
  first | refine sk rfl rfl rfl ?_ | refine sv rfl rfl rfl (ex_cmp rfl rfl rfl (congrArg some (decide_eq_false (not_not_intro rfl)))) ?_
  first | refine sv rfl rfl rfl (ex_pick_t rfl rfl rfl) ?_ | refine sv rfl rfl rfl (ex_pick_f rfl rfl rfl) ?_
  refine sv rfl rfl rfl (ex_move rfl rfl) ?_
  first | refine sk rfl rfl rfl ?_ | refine sv rfl rfl rfl (ex_move rfl rfl) ?_
  first | refine sk rfl rfl rfl ?_ | refine sv rfl rfl rfl (ex_ptrNil Tryd.underlying40 rfl rfl rfl) ?_
  first | refine sv rfl rfl rfl (ex_pick_t rfl rfl rfl) ?_ | refine sv rfl rfl rfl (ex_pick_f rfl rfl rfl) ?_
  refine sv rfl rfl rfl (ex_move rfl rfl) ?_
  first | refine sk rfl rfl rfl ?_ | refine sv rfl rfl rfl (ex_move rfl rfl) ?_
  first | refine sk rfl rfl rfl ?_ | refine sv rfl rfl rfl (ex_cmp rfl rfl rfl (congrArg some (decide_eq_false (by decide)))) ?_
  first | refine sv rfl rfl rfl (ex_pick_t rfl rfl rfl) ?_ | refine sv rfl rfl rfl (ex_pick_f rfl rfl rfl) ?_
  refine sv rfl rfl rfl (ex_move rfl rfl) ?_
  first | refine sk rfl rfl rfl ?_ | refine sv rfl rfl rfl (ex_move rfl rfl) ?_
  first | refine sk rfl rfl rfl ?_ | refine sv rfl rfl rfl (ex_cmp rfl rfl rfl (congrArg some (decide_eq_false (by decide)))) ?_
  first | refine sv rfl rfl rfl (ex_pick_t rfl rfl rfl) ?_ | refine sv rfl rfl rfl (ex_pick_f rfl rfl rfl) ?_
  refine sv rfl rfl rfl (ex_move rfl rfl) ?_
  first | refine sk rfl rfl rfl ?_ | refine sv rfl rfl rfl (ex_move rfl rfl) ?_
  refine st rfl rfl rfl (ex_buildSlice (cs := [Value.int .i64 1, Value.int .i64 4, Value.int .i64 7, Value.int .i64 8]) rfl rfl build_A4) ?_
  rintro _ w9 ⟨g4, rfl, hg4, E6, hb4, hs4⟩
  replace K0 := K0.ext E6
  replace hb := hb.ext E6
  replace hl := hl.ext E6
  replace hC := hC.ext E6
  refine st rfl rfl rfl (ex_call call29 rfl rfl ((ints_c B (some ⟨g4, 0, none⟩) d 4 _ _ 0 _ [1, 4, 7, 8] [1, 4, 7, 8] _ hl.rd (Rd.of_blk (size := 1) hb4 rfl) (by decide)).mono (R' := fun v w' => v = .bool true ∧ Ext _ w') fun v w' h => ⟨by rw [h.1]; rfl, h.2⟩)) ?_
  rintro _ w10 ⟨rfl, E7⟩
  replace K0 := K0.ext E7
  replace hb := hb.ext E7
  replace hl := hl.ext E7
  replace hC := hC.ext E7
  first | refine sk rfl rfl rfl ?_ | refine sv rfl rfl rfl (ex_not rfl rfl) ?_
  first | refine sv rfl rfl rfl (ex_pick_t rfl rfl rfl) ?_ | refine sv rfl rfl rfl (ex_pick_f rfl rfl rfl) ?_
  refine w_nil (qe_next ?_)
  refine w_cond_f rfl ?_
  refine w_skip (qe_next ?_)
  refine w_seq ?_
  have hsz7 := K0.size
  have hkl := hC.1.lt
  have hml := hC.2.1.1.lt
  have hrl := hC.2.1.2.1.lt
  have hT0 := hT.pos
  refine w_region ?_
  refine sv rfl rfl rfl (ex_move rfl rfl) ?_
  refine st rfl rfl rfl (ex_make Tryd.underlying25 z5 5 rfl rfl rfl rfl rfl (by decide) (by decide)) ?_
  rintro _ w11 ⟨g5, rfl, hg5, E8, hb5, hs5⟩
  replace K0 := K0.ext E8
  replace hb := hb.ext E8
  replace hl := hl.ext E8
  replace hC := hC.ext E8
  refine st rfl rfl rfl (ex_call call26 rfl rfl (chunkPush_c k m r _ 0 qA [] [] none (some ⟨g5, 0, none⟩) 5 g5 (g5 + 1) (List.replicate 5 0) _ hC (hT.ext K0) (Rd.of_blk1 (size := 1) hb5 rfl) (fun b h1 h2 => ⟨by omega, by omega, by omega, fun o e => by cases e⟩) (fun o e => by cases e) (by omega) (by decide) (by decide))) ?_
  rintro _ w12 ⟨O, no, dd, sl, B9, d9, lo9, rfl, hno, hC2, hout, hso, hap, hll, hBB, K9⟩
  replace K0 := K0.trans K9 (fun j hj _ => ⟨by omega, by omega, by omega, fun o e => by cases e⟩)
  obtain ⟨y0, y1, hy, hy0, hy1, hy2⟩ := fed_A2 (List.replicate 5 0) rfl
  rw [hy] at hno hso
  obtain rfl : no = 2 := hno
  refine sv rfl rfl rfl (ex_assign rfl rfl) ?_
  refine w_nil (qe_next ?_)
  refine w_seq ?_
  obtain ⟨b1, o1, u1, rfl, _, _, hu1, hc1⟩ := hout.rd.at_ (k := 0) (by decide)
  obtain ⟨b2, o2, u2, he, _, _, hu2, hc2⟩ := hout.rd.at_ (k := 1) (by decide)
  cases he
  rw [List.getElem?_map] at hu1 hu2
  obtain ⟨s1, hx1, rfl⟩ := Option.map_eq_some_iff.1 hu1
  obtain ⟨s2, hx2, rfl⟩ := Option.map_eq_some_iff.1 hu2
  obtain ⟨z1, hz1, hl1, _⟩ := hso.get hx1
  obtain ⟨z2, hz2, hl2, _⟩ := hso.get hx2
  cases hz1
  cases hz2
  refine w_region ?_
  refine sv rfl rfl rfl (ex_move rfl rfl) ?_
  refine sv rfl rfl rfl (ex_len Tryd.underlying32 rfl rfl) ?_
  refine sv rfl rfl rfl (ex_cmp rfl rfl rfl (congrArg some (decide_eq_true (rfl)))) ?_
  refine sv rfl rfl rfl (ex_move rfl rfl) ?_
  first | refine sk rfl rfl rfl ?_ | refine sv rfl rfl rfl (ex_move rfl rfl) ?_
  first | refine sk rfl rfl rfl ?_ | refine sv rfl rfl rfl (ex_index Tryd.underlying32 sz25 0 rfl rfl rfl rfl (by decide)) ?_
  first | refine sk rfl rfl rfl ?_ | refine sv rfl rfl rfl (ex_load (v := slv s1) one25 rfl rfl hc1) ?_
  first | refine sk rfl rfl rfl ?_ | refine sv rfl rfl rfl (ex_len Tryd.underlying25 rfl rfl) ?_
  first | refine sk rfl rfl rfl ?_ | refine sv rfl rfl rfl (ex_cmp rfl rfl rfl (congrArg some (decide_eq_true (by rw [hl1, hy0]; rfl)))) ?_
  first | refine sv rfl rfl rfl (ex_pick_t rfl rfl rfl) ?_ | refine sv rfl rfl rfl (ex_pick_f rfl rfl rfl) ?_
  refine sv rfl rfl rfl (ex_move rfl rfl) ?_
  first | refine sk rfl rfl rfl ?_ | refine sv rfl rfl rfl (ex_move rfl rfl) ?_
  first | refine sk rfl rfl rfl ?_ | refine sv rfl rfl rfl (ex_index Tryd.underlying32 sz25 1 rfl rfl rfl rfl (by decide)) ?_
  first | refine sk rfl rfl rfl ?_ | refine sv rfl rfl rfl (ex_load (v := slv s2) one25 rfl rfl hc2) ?_
  first | refine sk rfl rfl rfl ?_ | refine sv rfl rfl rfl (ex_len Tryd.underlying25 rfl rfl) ?_
  first | refine sk rfl rfl rfl ?_ | refine sv rfl rfl rfl (ex_cmp rfl rfl rfl (congrArg some (decide_eq_true (by rw [hl2, hy1]; rfl)))) ?_
  first | refine sv rfl rfl rfl (ex_pick_t rfl rfl rfl) ?_ | refine sv rfl rfl rfl (ex_pick_f rfl rfl rfl) ?_
  refine sv rfl rfl rfl (ex_move rfl rfl) ?_
  first | refine sk rfl rfl rfl ?_ | refine sv rfl rfl rfl (ex_move rfl rfl) ?_
  refine st rfl rfl rfl (ex_call call31 rfl rfl (held_c k m r lo9 d9 qA _ _ B9 _ hC2)) ?_
  rintro _ w13 ⟨rfl, hwe⟩
  obtain rfl := hwe.symm
  first | refine sk rfl rfl rfl ?_ | refine sv rfl rfl rfl (ex_cmp rfl rfl rfl (congrArg some (decide_eq_true (by rw [hy2]; rfl)))) ?_
  first | refine sv rfl rfl rfl (ex_pick_t rfl rfl rfl) ?_ | refine sv rfl rfl rfl (ex_pick_f rfl rfl rfl) ?_
  refine sv rfl rfl rfl (ex_assign rfl rfl) ?_
  refine w_nil (qe_next ?_)
  refine w_ret (qe_ret1 rfl rfl ?_)
  exact ⟨rfl, K0⟩
end Go.Proofs.YtfgpcmphcnhbiaaDoor

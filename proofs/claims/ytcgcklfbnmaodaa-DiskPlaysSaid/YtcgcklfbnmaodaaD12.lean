/- The examples of the chapter, walked. -/
import Derived.Test.YtcgcklfbnmaodaaD11
namespace Go.Proofs.Ytcgcklfbnmaodaa
open Go Go.RowKit
set_option linter.unusedVariables false
set_option linter.unusedSimpArgs false
/-- kinkeep/kinkeeplaw15.awake -/
theorem awake_c (w : World) :
    Ret Try.prog 11 [] w fun v w' => v = .bool true ∧ Ext w w' := by
  have K0 : Ext w w := Keep.refl _ _
  refine ret_of Try.func11 rfl rfl ?_
  refine w_seq ?_
  refine w_region ?_
  refine sv rfl rfl rfl (ex_assign rfl rfl) ?_
  refine w_nil (qe_next ?_)
  refine w_seq ?_
  refine w_region ?_
  refine st rfl rfl rfl (ex_call call12 rfl rfl (new_c 2 3 _ (by decide) (by decide) (by decide) (by decide))) ?_
  rintro _ w1 ⟨kd, F, rfl, hD, hFn, E1⟩
  replace K0 := K0.ext E1
  refine sv rfl rfl rfl (ex_move rfl rfl) ?_
  refine sv rfl rfl rfl (ex_extract rfl rfl rfl) ?_
  refine sv rfl rfl rfl (ex_extract rfl rfl rfl) ?_
  refine sv rfl rfl rfl (ex_assign rfl rfl) ?_
  refine sv rfl rfl rfl (ex_assign rfl rfl) ?_
  refine w_nil (qe_next ?_)
  refine w_seq ?_
  refine w_seq ?_
  refine w_region ?_
  refine sv rfl rfl rfl (ex_move rfl rfl) ?_
  refine sv rfl rfl rfl (ex_cmp rfl rfl rfl (congrArg some (decide_eq_false (not_not_intro rfl)))) ?_
  refine sv rfl rfl rfl (ex_move rfl rfl) ?_
  first | refine sk rfl rfl rfl ?_ | refine sv rfl rfl rfl (ex_move rfl rfl) ?_
  refine st rfl rfl rfl (ex_buildSlice (cs := [bv 97, bv 98, bv 99]) rfl rfl (build_3 97 98 99)) ?_
  rintro _ w2 ⟨g3, rfl, hg30, Eg3, hbg3, hsg3⟩
  refine st rfl rfl rfl (ex_lit Try.underlying22 Try.underlying5 rfl rfl hbg3) ?_
  rintro _ w3 ⟨rfl, KLg3, hcg3, hzg3⟩
  have ELg3 := Eg3.trans KLg3 (fun j hj _ e => by omega)
  replace hD := hD.ext ELg3
  replace K0 := K0.ext ELg3
  have hrg3 : Rd _ 0 (g3 + 1) 1 (some ⟨g3, 0, none⟩) 3 (bcells [97, 98, 99]) := ⟨rfl, fun _ => ⟨g3, 0, rfl, Nat.zero_le _, Nat.lt_succ_self _, fun j u hu => by rw [Nat.zero_add]; exact hcg3 j u hu⟩⟩
  have hszX := K0.size
  refine st rfl rfl rfl (ex_call call13 rfl rfl (write_e 0 0 (some ⟨g3, 0, none⟩) 3 0 (g3 + 1) [97, 98, 99] ⟨3, [[0, 0, 0], [0, 0, 0]], [(0, [97, 98, 99])], false, -1⟩ F kd (fresh 3 2) _ hD hrg3 (by decide) (by first | rfl | kernel_rfl))) ?_
  rintro _ w4 ⟨F2, rfl, hD2, hG2, _, K2⟩
  replace K0 := K0.trans K2 (fun j hj _ hF => by have := hFn j hF; omega)
  have hFn2 : ∀ j, F2 j → w.heap.size ≤ j := fun j hj => (hG2 j hj).elim (hFn j) (fun h => by omega)
  first | refine sk rfl rfl rfl ?_ | refine sv rfl rfl rfl (ex_cmp rfl rfl rfl (congrArg some (decide_eq_false (not_not_intro rfl)))) ?_
  first | refine sv rfl rfl rfl (ex_pick_t rfl rfl rfl) ?_ | refine sv rfl rfl rfl (ex_pick_f rfl rfl rfl) ?_
  refine w_nil (qe_next ?_)
  refine w_cond_f rfl ?_
  refine w_skip (qe_next ?_)
  refine w_seq ?_
  refine w_region ?_
  refine sv rfl rfl rfl (ex_move rfl rfl) ?_
  refine st rfl rfl rfl (ex_call call14 rfl rfl (read_e 0 0 [97, 98, 99] F2 kd _ _ hD2 (by decide) (by first | rfl | kernel_rfl))) ?_
  rintro _ w5 ⟨B, d, rfl, hB, E4⟩
  replace hD2 := hD2.ext E4
  replace K0 := K0.ext E4
  refine sv rfl rfl rfl (ex_move rfl rfl) ?_
  refine sv rfl rfl rfl (ex_extract rfl rfl rfl) ?_
  refine sv rfl rfl rfl (ex_extract rfl rfl rfl) ?_
  refine sv rfl rfl rfl (ex_assign rfl rfl) ?_
  refine sv rfl rfl rfl (ex_assign rfl rfl) ?_
  refine w_nil (qe_next ?_)
  refine w_seq ?_
  refine w_region ?_
  refine sv rfl rfl rfl (ex_move rfl rfl) ?_
  refine st rfl rfl rfl (ex_call call17 rfl rfl (image_c F2 kd _ _ hD2)) ?_
  rintro _ w6 ⟨gi, sl, rfl, hi, hso, E5⟩
  replace hD2 := hD2.ext E5
  replace K0 := K0.ext E5
  replace hB := hB.ext E5
  refine sv rfl rfl rfl (ex_assign rfl rfl) ?_
  refine w_nil (qe_next ?_)
  refine w_seq ?_
  refine w_seq ?_
  refine w_region ?_
  refine sv rfl rfl rfl (ex_move rfl rfl) ?_
  refine st rfl rfl rfl (ex_buildSlice (cs := [bv 97, bv 98, bv 99]) rfl rfl (build_3 97 98 99)) ?_
  rintro _ w7 ⟨g5, rfl, hg50, Eg5, hbg5, hsg5⟩
  refine st rfl rfl rfl (ex_lit Try.underlying22 Try.underlying5 rfl rfl hbg5) ?_
  rintro _ w8 ⟨rfl, KLg5, hcg5, hzg5⟩
  have ELg5 := Eg5.trans KLg5 (fun j hj _ e => by omega)
  replace hD2 := hD2.ext ELg5
  replace K0 := K0.ext ELg5
  replace hB := hB.ext ELg5
  replace hi := hi.ext ELg5
  replace hso := hso.ext ELg5
  have hrg5 : Rd _ 0 (g5 + 1) 1 (some ⟨g5, 0, none⟩) 3 (bcells [97, 98, 99]) := ⟨rfl, fun _ => ⟨g5, 0, rfl, Nat.zero_le _, Nat.lt_succ_self _, fun j u hu => by rw [Nat.zero_add]; exact hcg5 j u hu⟩⟩
  refine st rfl rfl rfl (ex_call call15 rfl rfl (same_t _ _ _ _ _ _ _ _ _ _ [97, 98, 99] [97, 98, 99] _ rfl rfl hB.rd hrg5 rfl)) ?_
  rintro _ w9 ⟨rfl, hwe⟩
  obtain rfl := hwe.symm
  refine sv rfl rfl rfl (ex_not rfl rfl) ?_
  refine sv rfl rfl rfl (ex_move rfl rfl) ?_
  first | refine sk rfl rfl rfl ?_ | refine sv rfl rfl rfl (ex_move rfl rfl) ?_
  first | refine sk rfl rfl rfl ?_ | refine sv rfl rfl rfl (ex_cmp rfl rfl rfl (congrArg some (decide_eq_false (not_not_intro rfl)))) ?_
  first | refine sv rfl rfl rfl (ex_pick_t rfl rfl rfl) ?_ | refine sv rfl rfl rfl (ex_pick_f rfl rfl rfl) ?_
  refine sv rfl rfl rfl (ex_move rfl rfl) ?_
  first | refine sk rfl rfl rfl ?_ | refine sv rfl rfl rfl (ex_move rfl rfl) ?_
  first | refine sk rfl rfl rfl ?_ | refine sv rfl rfl rfl (ex_len Try.underlying33 rfl rfl) ?_
  first | refine sk rfl rfl rfl ?_ | refine sv rfl rfl rfl (ex_cmp rfl rfl rfl (congrArg some (decide_eq_false (not_not_intro rfl)))) ?_
  first | refine sv rfl rfl rfl (ex_pick_t rfl rfl rfl) ?_ | refine sv rfl rfl rfl (ex_pick_f rfl rfl rfl) ?_
  refine sv rfl rfl rfl (ex_move rfl rfl) ?_
  obtain ⟨b1, o1, u1, he1, _, _, hu1, hc1⟩ := hi.rd.at_ (k := 0) (by decide)
  cases he1
  rw [List.getElem?_map] at hu1
  obtain ⟨s1, hs1, rfl⟩ := Option.map_eq_some_iff.1 hu1
  obtain ⟨y1, hy1, hl1, ho1⟩ := hso.get hs1
  obtain rfl : [0, 0, 0] = y1 := Option.some.inj hy1
  first | refine sk rfl rfl rfl ?_ | refine sv rfl rfl rfl (ex_move rfl rfl) ?_
  first | refine sk rfl rfl rfl ?_ | refine sv rfl rfl rfl (ex_index Try.underlying33 sz22 0 rfl rfl rfl rfl (by decide)) ?_
  first | refine sk rfl rfl rfl ?_ | refine sv rfl rfl rfl (ex_load (v := .slice s1.1 s1.2.1 s1.2.2) one22 rfl rfl hc1) ?_
  refine st rfl rfl rfl (ex_buildSlice (cs := [bv 0, bv 0, bv 0]) rfl rfl (build_3 0 0 0)) ?_
  rintro _ w10 ⟨g6, rfl, hg6, E6, hb6, hs6⟩
  replace hD2 := hD2.ext E6
  replace K0 := K0.ext E6
  replace hB := hB.ext E6
  replace hi := hi.ext E6
  replace hso := hso.ext E6
  replace ho1 := ho1.ext E6
  refine st rfl rfl rfl (ex_call call15 rfl rfl (same_t _ _ _ _ _ _ _ _ _ _ [0, 0, 0] [0, 0, 0] _ hl1 rfl ho1.rd (Rd.of_blk (size := 1) hb6 rfl) rfl)) ?_
  rintro _ w11 ⟨rfl, hwe⟩
  obtain rfl := hwe.symm
  first | refine sk rfl rfl rfl ?_ | refine sv rfl rfl rfl (ex_not rfl rfl) ?_
  first | refine sv rfl rfl rfl (ex_pick_t rfl rfl rfl) ?_ | refine sv rfl rfl rfl (ex_pick_f rfl rfl rfl) ?_
  refine sv rfl rfl rfl (ex_move rfl rfl) ?_
  first | refine sk rfl rfl rfl ?_ | refine sv rfl rfl rfl (ex_move rfl rfl) ?_
  refine st rfl rfl rfl (ex_call call22 rfl rfl (pending_c F2 kd _ _ hD2)) ?_
  rintro _ w12 ⟨rfl, hwe⟩
  obtain rfl := hwe.symm
  first | refine sk rfl rfl rfl ?_ | refine sv rfl rfl rfl (ex_cmp rfl rfl rfl (congrArg some (decide_eq_false (not_not_intro rfl)))) ?_
  first | refine sv rfl rfl rfl (ex_pick_t rfl rfl rfl) ?_ | refine sv rfl rfl rfl (ex_pick_f rfl rfl rfl) ?_
  refine w_nil (qe_next ?_)
  refine w_cond_f rfl ?_
  refine w_skip (qe_next ?_)
  refine w_seq ?_
  refine w_region ?_
  refine sv rfl rfl rfl (ex_move rfl rfl) ?_
  have hszY := K0.size
  refine st rfl rfl rfl (ex_call call27 rfl rfl (crash_e [] 2 none 0 0 0 0 ⟨3, [[97, 98, 0], [0, 0, 0]], [], false, -1⟩ F2 kd _ _ hD2 rfl Rd.nil (fun g o e _ => by cases e) (by decide) (by decide) (by first | rfl | kernel_rfl))) ?_
  rintro _ w13 ⟨F3, rfl, hD3, hG3, _, K3⟩
  replace K0 := K0.trans K3 (fun j hj _ hF => by have := hFn2 j hF; omega)
  have hFn3 : ∀ j, F3 j → w.heap.size ≤ j := fun j hj => (hG3 j hj).elim (hFn2 j) (fun h => by omega)
  refine w_nil (qe_next ?_)
  refine w_seq ?_
  refine w_region ?_
  refine sv rfl rfl rfl (ex_move rfl rfl) ?_
  refine st rfl rfl rfl (ex_call call17 rfl rfl (image_c F3 kd _ _ hD3)) ?_
  rintro _ w14 ⟨gj, sl9, rfl, hj, hsp, E9⟩
  replace hD3 := hD3.ext E9
  replace K0 := K0.ext E9
  refine sv rfl rfl rfl (ex_assign rfl rfl) ?_
  refine w_nil (qe_next ?_)
  refine w_seq ?_
  refine w_region ?_
  refine sv rfl rfl rfl (ex_move rfl rfl) ?_
  refine sv rfl rfl rfl (ex_len Try.underlying33 rfl rfl) ?_
  refine sv rfl rfl rfl (ex_cmp rfl rfl rfl (congrArg some (decide_eq_true (rfl)))) ?_
  refine sv rfl rfl rfl (ex_move rfl rfl) ?_
  obtain ⟨b7, o7, u7, he7, _, _, hu7, hc7⟩ := hj.rd.at_ (k := 0) (by decide)
  cases he7
  rw [List.getElem?_map] at hu7
  obtain ⟨s7, hs7, rfl⟩ := Option.map_eq_some_iff.1 hu7
  obtain ⟨y7, hy7, hl7, ho7⟩ := hsp.get hs7
  obtain rfl : [97, 98, 0] = y7 := Option.some.inj hy7
  first | refine sk rfl rfl rfl ?_ | refine sv rfl rfl rfl (ex_move rfl rfl) ?_
  first | refine sk rfl rfl rfl ?_ | refine sv rfl rfl rfl (ex_index Try.underlying33 sz22 0 rfl rfl rfl rfl (by decide)) ?_
  first | refine sk rfl rfl rfl ?_ | refine sv rfl rfl rfl (ex_load (v := .slice s7.1 s7.2.1 s7.2.2) one22 rfl rfl hc7) ?_
  refine st rfl rfl rfl (ex_buildSlice (cs := [bv 97, bv 98, bv 0]) rfl rfl (build_3 97 98 0)) ?_
  rintro _ w15 ⟨g8, rfl, hg8, E8, hb8, hs8⟩
  replace hD3 := hD3.ext E8
  replace K0 := K0.ext E8
  replace hj := hj.ext E8
  replace hsp := hsp.ext E8
  replace ho7 := ho7.ext E8
  refine st rfl rfl rfl (ex_call call15 rfl rfl (same_t _ _ _ _ _ _ _ _ _ _ [97, 98, 0] [97, 98, 0] _ hl7 rfl ho7.rd (Rd.of_blk (size := 1) hb8 rfl) rfl)) ?_
  rintro _ w16 ⟨rfl, hwe⟩
  obtain rfl := hwe.symm
  first | refine sv rfl rfl rfl (ex_pick_t rfl rfl rfl) ?_ | refine sv rfl rfl rfl (ex_pick_f rfl rfl rfl) ?_
  refine sv rfl rfl rfl (ex_move rfl rfl) ?_
  first | refine sk rfl rfl rfl ?_ | refine sv rfl rfl rfl (ex_move rfl rfl) ?_
  refine st rfl rfl rfl (ex_call call22 rfl rfl (pending_c F3 kd _ _ hD3)) ?_
  rintro _ w17 ⟨rfl, hwe⟩
  obtain rfl := hwe.symm
  first | refine sk rfl rfl rfl ?_ | refine sv rfl rfl rfl (ex_cmp rfl rfl rfl (congrArg some (decide_eq_true (rfl)))) ?_
  first | refine sv rfl rfl rfl (ex_pick_t rfl rfl rfl) ?_ | refine sv rfl rfl rfl (ex_pick_f rfl rfl rfl) ?_
  refine sv rfl rfl rfl (ex_move rfl rfl) ?_
  first | refine sk rfl rfl rfl ?_ | refine sv rfl rfl rfl (ex_move rfl rfl) ?_
  have hszZ := K0.size
  refine st rfl rfl rfl (ex_call call16 rfl rfl (sync_e 0 ⟨3, [[97, 98, 0], [0, 0, 0]], [], false, -1⟩ F3 kd _ _ hD3 (by decide) (by first | rfl | kernel_rfl))) ?_
  rintro _ w18 ⟨F4, rfl, hD4, hG4, _, K4⟩
  replace K0 := K0.trans K4 (fun j hj _ hF => by have := hFn3 j hF; omega)
  first | refine sk rfl rfl rfl ?_ | refine sv rfl rfl rfl (ex_cmp rfl rfl rfl (congrArg some (decide_eq_true (rfl)))) ?_
  first | refine sv rfl rfl rfl (ex_pick_t rfl rfl rfl) ?_ | refine sv rfl rfl rfl (ex_pick_f rfl rfl rfl) ?_
  refine sv rfl rfl rfl (ex_assign rfl rfl) ?_
  refine w_nil (qe_next ?_)
  refine w_ret (qe_ret1 rfl rfl ?_)
  exact ⟨rfl, K0⟩
end Go.Proofs.Ytcgcklfbnmaodaa

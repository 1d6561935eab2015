/- The law DiskCopies, walked. -/
import Derived.Test.YtcgcklfbnmaodaaD12
namespace Go.Proofs.Ytcgcklfbnmaodaa
open Go Go.RowKit
set_option linter.unusedVariables false
set_option linter.unusedSimpArgs false
theorem cp_write (bs : List UInt8) : (fresh bs.length 1).write 0 bs = (0, ⟨bs.length, [List.replicate bs.length 0], [(0, bs)], false, -1⟩) := by
  simp [St.write, fresh, St.In, St.fails]
theorem cp_sync (bs : List UInt8) : (⟨bs.length, [List.replicate bs.length 0], [(0, bs)], false, -1⟩ : St).sync = (0, ⟨bs.length, [bs], [], false, -1⟩) := by
  simp [St.sync, St.fails, St.flush, putd]
/-- kinkeep/kinkeeplaw15.DiskCopies -/
theorem copies_bad (A : Option Addr) (c lo hi : Nat) (bs : List UInt8) (w : World) (hr : Rd w lo hi 1 A bs.length (bcells bs)) (hhi : hi ≤ w.heap.size) (h : ¬ (1 ≤ bs.length ∧ bs.length ≤ 8)) :
    Ret Try.prog 3 [.slice A bs.length c] w fun v w' => v = .bool true ∧ Ext w w' := by
  have K0 : Ext w w := Keep.refl _ _
  refine ret_of Try.func3 rfl rfl ?_
  refine w_seq ?_
  refine w_region ?_
  refine sv rfl rfl rfl (ex_assign rfl rfl) ?_
  refine w_nil (qe_next ?_)
  refine w_seq ?_
  refine w_seq ?_
  refine w_region ?_
  refine st rfl rfl rfl (ex_call call11 rfl rfl (awake_c _)) ?_
  rintro _ w1 ⟨rfl, E9⟩
  replace K0 := K0.ext E9
  refine sv rfl rfl rfl (ex_not rfl rfl) ?_
  refine w_nil (qe_next ?_)
  refine w_cond_f rfl ?_
  refine w_skip (qe_next ?_)
  refine w_seq ?_
  refine w_seq ?_
  refine w_region ?_
  refine sv rfl rfl rfl (ex_move rfl rfl) ?_
  refine sv rfl rfl rfl (ex_len Try.underlying22 rfl rfl) ?_
  refine sv_if rfl rfl rfl (ex_cmp rfl rfl rfl rfl) (fun h1 => ?_) (fun h1 => ?_)
  · skip
    refine sv rfl rfl rfl (ex_move rfl rfl) ?_
    first | refine sk rfl rfl rfl ?_ | refine sv rfl rfl rfl (ex_move rfl rfl) ?_
    refine sk rfl rfl rfl ?_
    refine sk rfl rfl rfl ?_
    first | refine sv rfl rfl rfl (ex_pick_t rfl rfl rfl) ?_ | refine sv rfl rfl rfl (ex_pick_f rfl rfl rfl) ?_
    refine w_nil (qe_next ?_)
    refine w_cond_t rfl ?_
    refine w_seq ?_
    refine w_region ?_
    refine sv rfl rfl rfl (ex_assign rfl rfl) ?_
    refine w_nil (qe_next ?_)
    refine w_ret (qe_then_ret (qe_ret1 rfl rfl ?_))
    exact ⟨rfl, K0⟩
  · skip
    refine sv rfl rfl rfl (ex_move rfl rfl) ?_
    first | refine sk rfl rfl rfl ?_ | refine sv rfl rfl rfl (ex_move rfl rfl) ?_
    first | refine sk rfl rfl rfl ?_ | refine sv rfl rfl rfl (ex_len Try.underlying22 rfl rfl) ?_
    first | refine sk rfl rfl rfl ?_ | refine sv rfl rfl rfl (ex_cmp rfl rfl rfl (congrArg some (decide_eq_true (by omega)))) ?_
    first | refine sv rfl rfl rfl (ex_pick_t rfl rfl rfl) ?_ | refine sv rfl rfl rfl (ex_pick_f rfl rfl rfl) ?_
    refine w_nil (qe_next ?_)
    refine w_cond_t rfl ?_
    refine w_seq ?_
    refine w_region ?_
    refine sv rfl rfl rfl (ex_assign rfl rfl) ?_
    refine w_nil (qe_next ?_)
    refine w_ret (qe_then_ret (qe_ret1 rfl rfl ?_))
    exact ⟨rfl, K0⟩
/-- kinkeep/kinkeeplaw15.DiskCopies -/
theorem copies_good (A : Option Addr) (c lo hi : Nat) (bs : List UInt8) (w : World) (hr : Rd w lo hi 1 A bs.length (bcells bs)) (hhi : hi ≤ w.heap.size) (h1 : 1 ≤ bs.length) (h8 : bs.length ≤ 8) :
    Ret Try.prog 3 [.slice A bs.length c] w fun v w' => v = .bool true ∧ Ext w w' := by
  have K0 : Ext w w := Keep.refl _ _
  refine ret_of Try.func3 rfl rfl ?_
  refine w_seq ?_
  refine w_region ?_
  refine sv rfl rfl rfl (ex_assign rfl rfl) ?_
  refine w_nil (qe_next ?_)
  refine w_seq ?_
  refine w_seq ?_
  refine w_region ?_
  refine st rfl rfl rfl (ex_call call11 rfl rfl (awake_c _)) ?_
  rintro _ w1 ⟨rfl, E9⟩
  replace K0 := K0.ext E9
  refine sv rfl rfl rfl (ex_not rfl rfl) ?_
  refine w_nil (qe_next ?_)
  refine w_cond_f rfl ?_
  refine w_skip (qe_next ?_)
  refine w_seq ?_
  refine w_seq ?_
  refine w_region ?_
  refine sv rfl rfl rfl (ex_move rfl rfl) ?_
  refine sv rfl rfl rfl (ex_len Try.underlying22 rfl rfl) ?_
  refine sv rfl rfl rfl (ex_cmp rfl rfl rfl (congrArg some (decide_eq_false (by omega)))) ?_
  refine sv rfl rfl rfl (ex_move rfl rfl) ?_
  first | refine sk rfl rfl rfl ?_ | refine sv rfl rfl rfl (ex_move rfl rfl) ?_
  first | refine sk rfl rfl rfl ?_ | refine sv rfl rfl rfl (ex_len Try.underlying22 rfl rfl) ?_
  first | refine sk rfl rfl rfl ?_ | refine sv rfl rfl rfl (ex_cmp rfl rfl rfl (congrArg some (decide_eq_false (by omega)))) ?_
  first | refine sv rfl rfl rfl (ex_pick_t rfl rfl rfl) ?_ | refine sv rfl rfl rfl (ex_pick_f rfl rfl rfl) ?_
  refine w_nil (qe_next ?_)
  refine w_cond_f rfl ?_
  refine w_skip (qe_next ?_)
  refine w_seq ?_
  refine w_region ?_
  refine sv rfl rfl rfl (ex_move rfl rfl) ?_
  refine sv rfl rfl rfl (ex_len Try.underlying22 rfl rfl) ?_
  have hz0 := K0.size
  refine st rfl rfl rfl (ex_call call12 rfl rfl (new_c 1 bs.length _ (by decide) (by decide) (by omega) (by omega))) ?_
  rintro _ w2 ⟨kd, F, rfl, hD, hFn, E1⟩
  replace K0 := K0.ext E1
  refine sv rfl rfl rfl (ex_move rfl rfl) ?_
  refine sv rfl rfl rfl (ex_extract rfl rfl rfl) ?_
  refine sv rfl rfl rfl (ex_extract rfl rfl rfl) ?_
  refine sv rfl rfl rfl (ex_assign rfl rfl) ?_
  refine sv rfl rfl rfl (ex_assign rfl rfl) ?_
  refine w_nil (qe_next ?_)
  refine w_seq ?_
  refine w_region ?_
  replace hFn := fun j (hj : F j) => Nat.le_trans hz0 (hFn j hj)
  have hz1 := K0.size
  have hFl := hD.lt
  refine st rfl rfl rfl (ex_buildSlice (cs := []) rfl rfl build_none) ?_
  rintro _ w3 ⟨g0, rfl, hg0, E2, hb2, hs2⟩
  replace K0 := K0.ext E2
  replace hD := hD.ext E2
  have hin0 := Own.of_blk (lo := g0) (n := 0) (c := 0) (size := 1) hb2 (Nat.le_refl _) (by omega) (by decide) (by simp)
  have hz2 := K0.size
  refine sv rfl rfl rfl (ex_move rfl rfl) ?_
  refine st rfl rfl rfl (ex_append Try.underlying22 z5.1 rfl (by decide) rfl rfl rfl hin0 (hr.ext K0) (bcells_one _) (by omega) (by omega) (by omega)) ?_
  rintro _ w4 ⟨In, cIn, rfl, hin, KA, hIn⟩
  replace K0 := K0.trans KA (fun j hj _ => hin0.fresh (by omega))
  replace hD := hD.keep KA (fun j hj => hin0.fresh (by have := hFl j hj; omega))
  rw [show List.take (0 * 1) ([] : List Value) ++ bcells bs = bcells bs from by simp, Nat.zero_add] at hin
  rw [Nat.zero_add]
  have hz3 := K0.size
  refine sv rfl rfl rfl (ex_assign rfl rfl) ?_
  refine w_nil (qe_next ?_)
  refine w_seq ?_
  refine w_seq ?_
  refine w_region ?_
  refine sv rfl rfl rfl (ex_move rfl rfl) ?_
  refine sv rfl rfl rfl (ex_move rfl rfl) ?_
  refine st rfl rfl rfl (ex_call call13 rfl rfl (write_e 0 0 In cIn _ _ bs ⟨bs.length, [List.replicate bs.length 0], [(0, bs)], false, -1⟩ F kd _ _ hD hin.rd (by simp [fresh]) (cp_write bs))) ?_
  rintro _ w5 ⟨F2, rfl, hD2, hG2, _, K2⟩
  replace K0 := K0.trans K2 (fun j hj _ hF => by have := hFn j hF; omega)
  have hinl : ∀ g o, In = some ⟨g, o, none⟩ → g0 ≤ g ∧ ¬ F2 g := fun g o e => by
    have h1 := hin.lt e
    refine ⟨h1.1, fun hh => ?_⟩
    rcases hG2 g hh with h | h
    · have := hFl g h; omega
    · omega
  replace hin := hin.keep K2 (fun g o e hF => by have := (hin.lt e).1; have := hFl g hF; omega)
  have hFn2 : ∀ j, F2 j → w.heap.size ≤ j := fun j hj => (hG2 j hj).elim (hFn j) (fun h => by omega)
  obtain ⟨b1, o1, u1, rfl, _, _, hu1, hc1⟩ := hin.rd.at_ (k := 0) (by omega)
  rw [bcells_get] at hu1
  obtain ⟨x1, hx1, rfl⟩ := Option.map_eq_some_iff.1 hu1
  have hl1 := hin.lt rfl
  have hnF := (hinl b1 o1 rfl).2
  refine sv rfl rfl rfl (ex_cmp rfl rfl rfl (congrArg some (decide_eq_false (not_not_intro rfl)))) ?_
  refine w_nil (qe_next ?_)
  refine w_cond_f rfl ?_
  refine w_skip (qe_next ?_)
  refine w_seq ?_
  refine w_region ?_
  refine sv rfl rfl rfl (ex_move rfl rfl) ?_
  refine sv rfl rfl rfl (ex_index Try.underlying22 sz5 0 rfl rfl rfl rfl (by omega)) ?_
  refine sv rfl rfl rfl (ex_load one5 rfl rfl hc1) ?_
  refine sv rfl rfl rfl (ex_add rfl rfl rfl rfl) ?_
  refine sv rfl rfl rfl (ex_index Try.underlying22 sz5 0 rfl rfl rfl rfl (by omega)) ?_
  refine st0 rfl rfl (ex_store_own sz5 hin (i := 0) (by omega) rfl rfl rfl rfl) ?_
  rintro _ w6 ⟨KB1, _, _⟩
  replace hD2 := hD2.keep KB1 (fun j hj e => hnF (e ▸ hj))
  replace K0 := K0.trans KB1 (fun j hj _ e => by omega)
  have hFl2 := hD2.lt
  have hz4 := K0.size
  refine w_nil (qe_next ?_)
  refine w_seq ?_
  refine w_region ?_
  refine sv rfl rfl rfl (ex_move rfl rfl) ?_
  refine st rfl rfl rfl (ex_call call14 rfl rfl (read_e 0 0 bs F2 kd _ _ hD2 (by simp) rfl)) ?_
  rintro _ w7 ⟨B, dB, rfl, hB, E3⟩
  replace K0 := K0.ext E3
  replace hD2 := hD2.ext E3
  obtain ⟨b2, o2, u2, rfl, _, _, hu2, hc2⟩ := hB.rd.at_ (k := 0) (by omega)
  rw [bcells_get] at hu2
  obtain ⟨x2, hx2, rfl⟩ := Option.map_eq_some_iff.1 hu2
  have hl2 := hB.lt rfl
  refine sv rfl rfl rfl (ex_move rfl rfl) ?_
  refine sv rfl rfl rfl (ex_extract rfl rfl rfl) ?_
  refine sv rfl rfl rfl (ex_extract rfl rfl rfl) ?_
  refine sv rfl rfl rfl (ex_assign rfl rfl) ?_
  refine sv rfl rfl rfl (ex_assign rfl rfl) ?_
  refine w_nil (qe_next ?_)
  refine w_seq ?_
  refine w_seq ?_
  refine w_region ?_
  refine sv rfl rfl rfl (ex_move rfl rfl) ?_
  refine sv rfl rfl rfl (ex_move rfl rfl) ?_
  refine st rfl rfl rfl (ex_call call15 rfl rfl (same_t _ _ _ _ _ _ _ _ _ _ bs bs _ rfl rfl hB.rd (hr.ext K0) rfl)) ?_
  rintro _ w8 ⟨rfl, hwe⟩
  obtain rfl := hwe.symm
  refine sv rfl rfl rfl (ex_not rfl rfl) ?_
  refine w_nil (qe_next ?_)
  refine w_cond_f rfl ?_
  refine w_skip (qe_next ?_)
  refine w_seq ?_
  refine w_region ?_
  refine sv rfl rfl rfl (ex_move rfl rfl) ?_
  refine sv rfl rfl rfl (ex_index Try.underlying22 sz5 0 rfl rfl rfl rfl (by omega)) ?_
  refine sv rfl rfl rfl (ex_load one5 rfl rfl hc2) ?_
  refine sv rfl rfl rfl (ex_add rfl rfl rfl rfl) ?_
  refine sv rfl rfl rfl (ex_index Try.underlying22 sz5 0 rfl rfl rfl rfl (by omega)) ?_
  refine st0 rfl rfl (ex_store_own sz5 hB (i := 0) (by omega) rfl rfl rfl rfl) ?_
  rintro _ w9 ⟨KB2, _, _⟩
  replace hD2 := hD2.keep KB2 (fun j hj e => by have := hFl2 j hj; omega)
  replace K0 := K0.trans KB2 (fun j hj _ e => by omega)
  have hz5 := K0.size
  refine w_nil (qe_next ?_)
  refine w_seq ?_
  refine w_seq ?_
  refine w_region ?_
  refine sv rfl rfl rfl (ex_move rfl rfl) ?_
  refine st rfl rfl rfl (ex_call call16 rfl rfl (sync_e 0 ⟨bs.length, [bs], [], false, -1⟩ F2 kd _ _ hD2 (by simp) (cp_sync bs))) ?_
  rintro _ w10 ⟨F3, rfl, hD3, hG3, _, K3⟩
  replace K0 := K0.trans K3 (fun j hj _ hF => by have := hFn2 j hF; omega)
  have hFl3 := hD3.lt
  have hz6 := K0.size
  refine sv rfl rfl rfl (ex_cmp rfl rfl rfl (congrArg some (decide_eq_false (not_not_intro rfl)))) ?_
  refine w_nil (qe_next ?_)
  refine w_cond_f rfl ?_
  refine w_skip (qe_next ?_)
  refine w_seq ?_
  refine w_region ?_
  refine sv rfl rfl rfl (ex_move rfl rfl) ?_
  refine st rfl rfl rfl (ex_call call17 rfl rfl (image_c F3 kd _ _ hD3)) ?_
  rintro _ w11 ⟨gi, sl, rfl, hi, hso, E5⟩
  replace K0 := K0.ext E5
  replace hD3 := hD3.ext E5
  obtain ⟨b3, o3, u3, he3, _, _, hu3, hc3⟩ := hi.rd.at_ (k := 0) (by simp)
  cases he3
  rw [List.getElem?_map] at hu3
  obtain ⟨s3, hs3, rfl⟩ := Option.map_eq_some_iff.1 hu3
  obtain ⟨y3, hy3, hl3, ho3⟩ := hso.get hs3
  obtain rfl : bs = y3 := Option.some.inj hy3
  have h3 := ho3
  rw [hl3] at h3
  obtain ⟨b4, o4, u4, he4, _, _, hu4, hc4⟩ := h3.rd.at_ (k := 0) (by omega)
  rw [bcells_get] at hu4
  obtain ⟨x4, hx4, rfl⟩ := Option.map_eq_some_iff.1 hu4
  have hl4 := ho3.lt he4
  refine sv rfl rfl rfl (ex_assign rfl rfl) ?_
  refine w_nil (qe_next ?_)
  refine w_seq ?_
  refine w_seq ?_
  refine w_region ?_
  refine sv rfl rfl rfl (ex_move rfl rfl) ?_
  refine sv rfl rfl rfl (ex_len Try.underlying33 rfl rfl) ?_
  refine sv rfl rfl rfl (ex_cmp rfl rfl rfl (congrArg some (decide_eq_false (not_not_intro rfl)))) ?_
  refine sv rfl rfl rfl (ex_move rfl rfl) ?_
  first | refine sk rfl rfl rfl ?_ | refine sv rfl rfl rfl (ex_move rfl rfl) ?_
  first | refine sk rfl rfl rfl ?_ | refine sv rfl rfl rfl (ex_index Try.underlying33 sz22 0 rfl rfl rfl rfl (by simp)) ?_
  first | refine sk rfl rfl rfl ?_ | refine sv rfl rfl rfl (ex_load (v := .slice s3.1 s3.2.1 s3.2.2) one22 rfl rfl hc3) ?_
  first | refine sk rfl rfl rfl ?_ | refine sv rfl rfl rfl (ex_move rfl rfl) ?_
  refine st rfl rfl rfl (ex_call call15 rfl rfl (same_t _ _ _ _ _ _ _ _ _ _ bs bs _ hl3 rfl ho3.rd (hr.ext K0) rfl)) ?_
  rintro _ w12 ⟨rfl, hwe⟩
  obtain rfl := hwe.symm
  first | refine sk rfl rfl rfl ?_ | refine sv rfl rfl rfl (ex_not rfl rfl) ?_
  first | refine sv rfl rfl rfl (ex_pick_t rfl rfl rfl) ?_ | refine sv rfl rfl rfl (ex_pick_f rfl rfl rfl) ?_
  refine w_nil (qe_next ?_)
  refine w_cond_f rfl ?_
  refine w_skip (qe_next ?_)
  refine w_seq ?_
  refine w_region ?_
  refine sv rfl rfl rfl (ex_move rfl rfl) ?_
  refine sv rfl rfl rfl (ex_index Try.underlying33 sz22 0 rfl rfl rfl rfl (by simp)) ?_
  refine sv rfl rfl rfl (ex_load (v := .slice (some ⟨b4, o4, none⟩) s3.2.1 s3.2.2) one22 rfl rfl (by rw [← he4]; exact hc3)) ?_
  refine sv rfl rfl rfl (ex_index Try.underlying22 sz5 0 rfl rfl rfl rfl (by omega)) ?_
  refine sv rfl rfl rfl (ex_load one5 rfl rfl hc4) ?_
  refine sv rfl rfl rfl (ex_add rfl rfl rfl rfl) ?_
  refine sv rfl rfl rfl (ex_index Try.underlying22 sz5 0 rfl rfl rfl rfl (by omega)) ?_
  refine st0 rfl rfl (ex_store_own sz5 (he4 ▸ ho3) (i := 0) (by omega) rfl rfl rfl rfl) ?_
  rintro _ w13 ⟨KB4, _, _⟩
  replace hD3 := hD3.keep KB4 (fun j hj e => by have := hFl3 j hj; omega)
  replace K0 := K0.trans KB4 (fun j hj _ e => by omega)
  refine w_nil (qe_next ?_)
  refine w_seq ?_
  refine w_region ?_
  refine sv rfl rfl rfl (ex_move rfl rfl) ?_
  refine st rfl rfl rfl (ex_call call14 rfl rfl (read_e 0 0 bs F3 kd _ _ hD3 (by simp) rfl)) ?_
  rintro _ w14 ⟨B9, dB9, rfl, hB9, E7⟩
  replace K0 := K0.ext E7
  refine sv rfl rfl rfl (ex_move rfl rfl) ?_
  refine sv rfl rfl rfl (ex_extract rfl rfl rfl) ?_
  refine sv rfl rfl rfl (ex_extract rfl rfl rfl) ?_
  refine sv rfl rfl rfl (ex_assign rfl rfl) ?_
  refine sv rfl rfl rfl (ex_assign rfl rfl) ?_
  refine w_nil (qe_next ?_)
  refine w_seq ?_
  refine w_region ?_
  refine sv rfl rfl rfl (ex_move rfl rfl) ?_
  refine sv rfl rfl rfl (ex_move rfl rfl) ?_
  refine st rfl rfl rfl (ex_call call15 rfl rfl (same_t _ _ _ _ _ _ _ _ _ _ bs bs _ rfl rfl hB9.rd (hr.ext K0) rfl)) ?_
  rintro _ w15 ⟨rfl, hwe⟩
  obtain rfl := hwe.symm
  refine sv rfl rfl rfl (ex_assign rfl rfl) ?_
  refine w_nil (qe_next ?_)
  refine w_ret (qe_ret1 rfl rfl ?_)
  exact ⟨rfl, K0⟩
theorem copies_law (A : Option Addr) (c lo hi : Nat) (bs : List UInt8) (w : World) (hr : Rd w lo hi 1 A bs.length (bcells bs)) (hhi : hi ≤ w.heap.size) : Ret Try.prog 3 [.slice A bs.length c] w fun v w' => v = .bool true ∧ Ext w w' := by
  by_cases h : 1 ≤ bs.length ∧ bs.length ≤ 8
  · exact copies_good A c lo hi bs w hr hhi h.1 h.2
  · exact copies_bad A c lo hi bs w hr hhi h
end Go.Proofs.Ytcgcklfbnmaodaa

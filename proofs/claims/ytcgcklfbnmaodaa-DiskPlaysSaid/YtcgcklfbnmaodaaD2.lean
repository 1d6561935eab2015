/- The disk's small functions. -/
import Derived.Test.YtcgcklfbnmaodaaD1
namespace Go.Proofs.Ytcgcklfbnmaodaa
open Go Go.RowKit
set_option linter.unusedVariables false
set_option linter.unusedSimpArgs false
def dcells (n : Nat) (r : Rep) (rl pl : Nat) (off arm : Bool) (aft : Int) : List Value := [.int .i64 (n : Int), .slice r.A rl r.cA, .slice r.P pl r.cP, .bool off, .bool arm, .int .i64 aft]
def NilAt (dsl : List Sl) (rd : List (List UInt8)) : Prop := ∀ (j : Nat) (sj : Sl), dsl[j]? = some sj → rd[j]? = some [] → sj.1 = none
/-- a disk of the program's -/
def DiskAt (w : World) (F : Nat → Prop) (k : Nat) (s : St) : Prop := ∃ (r : Rep) (rd : List (List UInt8)) (arm : Bool) (aft : Int), Blk w k 62 (dcells s.n r rd.length s.pd.length s.off arm aft) ∧ Mem 66 w F r rd s.pd ∧ F k ∧ s.du = rd.map (con s.n) ∧ (∀ y ∈ rd, y = [] ∨ y.length = s.n) ∧ NilAt r.dsl rd ∧ arm = decide (0 ≤ s.left) ∧ (0 ≤ s.left → aft = s.left) ∧ s.Wf
theorem DiskAt.keep {w w' : World} {S F : Nat → Prop} {k : Nat} {s : St} (h : DiskAt w F k s) (K : Keep S w w') (hS : ∀ j, F j → S j) : DiskAt w' F k s := by
  obtain ⟨r, rd, arm, aft, hb, hm, hk, rest⟩ := h
  exact ⟨r, rd, arm, aft, hb.keep K (hS k hk), hm.keep K hS, hk, rest⟩
theorem DiskAt.ext {w w' : World} {F : Nat → Prop} {k : Nat} {s : St} (h : DiskAt w F k s) (K : Ext w w') : DiskAt w' F k s := h.keep K fun _ _ => trivial
theorem DiskAt.wf {w : World} {F : Nat → Prop} {k : Nat} {s : St} (h : DiskAt w F k s) : s.Wf := by obtain ⟨_, _, _, _, _, _, _, _, _, _, _, _, h⟩ := h; exact h
theorem DiskAt.lt {w : World} {F : Nat → Prop} {k : Nat} {s : St} (h : DiskAt w F k s) : ∀ j, F j → j < w.heap.size := by obtain ⟨_, _, _, _, _, hm, _⟩ := h; exact hm.lt
theorem con_cells {n : Nat} {y : List UInt8} (h : y = [] ∨ y.length = n) : (bcells y).take n ++ (List.take (n * 1) (List.replicate n (Value.int .u8 0))).drop y.length = bcells (con n y) := by
  unfold con
  rcases h with rfl | h
  · simp [bcells, bv]
  · by_cases h0 : y = []
    · subst h0
      simp [bcells, bv]
    · rw [if_neg h0, h, List.take_of_length_le (by simp; omega), List.drop_of_length_le (by simp), List.append_nil]
theorem build_none (w : World) : (Instr.buildSlice 22 0 ([] : List (Nat × Value)).toArray).run Try.prog w = .ok (.slice (some ⟨w.heap.size, 0, none⟩) 0 0) (w.alloc (.cells ([] : List Value).toArray 5)) := by kernel_rfl

/-- (*kinkeep/disk.Disk).inside -/
theorem inside_c (z : Int) (F : Nat → Prop) (k : Nat) (s : St) (w : World) (hD : DiskAt w F k s) :
    Ret Try.prog 31 [.pointer (some ⟨k, 0, none⟩), .int .i64 z] w fun v w' => Dv (.bool (decide (s.In z))) w v w' := by
  obtain ⟨⟨A, cA, dsl, P, cP, wl⟩, rd, arm, aft, hb, hm, hFk, hdu, hrd, hnil, harm, haft, hwf⟩ := hD
  have ho : Own w 0 22 1 A rd.length cA (dsl.map slv) := hm.own
  have hd : Owns w 0 dsl rd := hm.dat
  have hp : Own w 0 66 2 P s.pd.length cP (wcells wl) := hm.pown
  have hq : Owns w 0 (wl.map (·.2)) (s.pd.map (·.2)) := hm.pdat
  have hdl : s.du.length = rd.length := by rw [hdu, List.length_map]
  have n1 := hwf.n1
  have n2 := hwf.n2
  have d1 := hwf.d1
  refine ret_of Try.func31 rfl rfl ?_
  refine w_seq ?_
  refine w_region ?_
  refine sv rfl rfl rfl (ex_assign rfl rfl) ?_
  refine w_nil (qe_next ?_)
  refine w_seq ?_
  refine w_region ?_
  refine sv rfl rfl rfl (ex_move rfl rfl) ?_
  refine sv_if rfl rfl rfl (ex_cmp rfl rfl rfl rfl) (fun hz => ?_) (fun hz => ?_)
  · skip
    refine sv rfl rfl rfl (ex_move rfl rfl) ?_
    first | refine sk rfl rfl rfl ?_ | refine sv rfl rfl rfl (ex_move rfl rfl) ?_
    first | refine sk rfl rfl rfl ?_ | refine sv rfl rfl rfl (ex_move rfl rfl) ?_
    first | refine sk rfl rfl rfl ?_ | refine sv rfl rfl rfl (ex_nil rfl rfl) ?_
    first | refine sk rfl rfl rfl ?_ | refine sv rfl rfl rfl (ex_fieldAddr fld62_1 rfl rfl) ?_
    first | refine sk rfl rfl rfl ?_ | refine sv rfl rfl rfl (ex_load one33 rfl rfl (hb.cell rfl)) ?_
    first | refine sk rfl rfl rfl ?_ | refine sv rfl rfl rfl (ex_len Try.underlying33 rfl rfl) ?_
    first | refine sk rfl rfl rfl ?_ | refine sv rfl rfl rfl (ex_cmp rfl rfl rfl rfl) ?_
    first | refine sv rfl rfl rfl (ex_pick_t rfl rfl rfl) ?_ | refine sv rfl rfl rfl (ex_pick_f rfl rfl rfl) ?_
    refine sv rfl rfl rfl (ex_assign rfl rfl) ?_
    refine w_nil (qe_next ?_)
    refine w_ret (qe_ret1 rfl rfl ?_)
    exact ⟨congrArg Value.bool (by first | exact decide_eq_decide.2 (by unfold St.In; omega) | exact (decide_eq_false (by unfold St.In; omega)).symm), rfl⟩
  · skip
    refine sv rfl rfl rfl (ex_move rfl rfl) ?_
    first | refine sk rfl rfl rfl ?_ | refine sv rfl rfl rfl (ex_move rfl rfl) ?_
    first | refine sk rfl rfl rfl ?_ | refine sv rfl rfl rfl (ex_move rfl rfl) ?_
    first | refine sk rfl rfl rfl ?_ | refine sv rfl rfl rfl (ex_nil rfl rfl) ?_
    first | refine sk rfl rfl rfl ?_ | refine sv rfl rfl rfl (ex_fieldAddr fld62_1 rfl rfl) ?_
    first | refine sk rfl rfl rfl ?_ | refine sv rfl rfl rfl (ex_load one33 rfl rfl (hb.cell rfl)) ?_
    refine sk rfl rfl rfl ?_
    refine sk rfl rfl rfl ?_
    first | refine sv rfl rfl rfl (ex_pick_t rfl rfl rfl) ?_ | refine sv rfl rfl rfl (ex_pick_f rfl rfl rfl) ?_
    refine sv rfl rfl rfl (ex_assign rfl rfl) ?_
    refine w_nil (qe_next ?_)
    refine w_ret (qe_ret1 rfl rfl ?_)
    exact ⟨congrArg Value.bool (by first | exact decide_eq_decide.2 (by unfold St.In; omega) | exact (decide_eq_false (by unfold St.In; omega)).symm), rfl⟩

/-- (*kinkeep/disk.Disk).Sectors -/
theorem sectors_c (F : Nat → Prop) (k : Nat) (s : St) (w : World) (hD : DiskAt w F k s) :
    Ret Try.prog 19 [.pointer (some ⟨k, 0, none⟩)] w fun v w' => Dv (.int .i64 (s.du.length : Int)) w v w' := by
  obtain ⟨⟨A, cA, dsl, P, cP, wl⟩, rd, arm, aft, hb, hm, hFk, hdu, hrd, hnil, harm, haft, hwf⟩ := hD
  have ho : Own w 0 22 1 A rd.length cA (dsl.map slv) := hm.own
  have hd : Owns w 0 dsl rd := hm.dat
  have hp : Own w 0 66 2 P s.pd.length cP (wcells wl) := hm.pown
  have hq : Owns w 0 (wl.map (·.2)) (s.pd.map (·.2)) := hm.pdat
  have hdl : s.du.length = rd.length := by rw [hdu, List.length_map]
  have n1 := hwf.n1
  have n2 := hwf.n2
  have d1 := hwf.d1
  refine ret_of Try.func19 rfl rfl ?_
  refine w_seq ?_
  refine w_region ?_
  refine sv rfl rfl rfl (ex_assign rfl rfl) ?_
  refine w_nil (qe_next ?_)
  refine w_seq ?_
  refine w_region ?_
  refine sv rfl rfl rfl (ex_move rfl rfl) ?_
  refine sv rfl rfl rfl (ex_nil rfl rfl) ?_
  refine sv rfl rfl rfl (ex_fieldAddr fld62_1 rfl rfl) ?_
  refine sv rfl rfl rfl (ex_load one33 rfl rfl (hb.cell rfl)) ?_
  refine sv rfl rfl rfl (ex_len Try.underlying33 rfl rfl) ?_
  refine sv rfl rfl rfl (ex_assign rfl rfl) ?_
  refine w_nil (qe_next ?_)
  refine w_ret (qe_ret1 rfl rfl ?_)
  exact ⟨by rw [hdl], rfl⟩

/-- (*kinkeep/disk.Disk).Size -/
theorem size_c (F : Nat → Prop) (k : Nat) (s : St) (w : World) (hD : DiskAt w F k s) :
    Ret Try.prog 20 [.pointer (some ⟨k, 0, none⟩)] w fun v w' => Dv (.int .i64 (s.n : Int)) w v w' := by
  obtain ⟨⟨A, cA, dsl, P, cP, wl⟩, rd, arm, aft, hb, hm, hFk, hdu, hrd, hnil, harm, haft, hwf⟩ := hD
  have ho : Own w 0 22 1 A rd.length cA (dsl.map slv) := hm.own
  have hd : Owns w 0 dsl rd := hm.dat
  have hp : Own w 0 66 2 P s.pd.length cP (wcells wl) := hm.pown
  have hq : Owns w 0 (wl.map (·.2)) (s.pd.map (·.2)) := hm.pdat
  have hdl : s.du.length = rd.length := by rw [hdu, List.length_map]
  have n1 := hwf.n1
  have n2 := hwf.n2
  have d1 := hwf.d1
  refine ret_of Try.func20 rfl rfl ?_
  refine w_seq ?_
  refine w_region ?_
  refine sv rfl rfl rfl (ex_assign rfl rfl) ?_
  refine w_nil (qe_next ?_)
  refine w_seq ?_
  refine w_region ?_
  refine sv rfl rfl rfl (ex_move rfl rfl) ?_
  refine sv rfl rfl rfl (ex_nil rfl rfl) ?_
  refine sv rfl rfl rfl (ex_fieldAddr fld62_0 rfl rfl) ?_
  refine sv rfl rfl rfl (ex_load one3 rfl rfl (hb.cell rfl)) ?_
  refine sv rfl rfl rfl (ex_assign rfl rfl) ?_
  refine w_nil (qe_next ?_)
  refine w_ret (qe_ret1 rfl rfl ?_)
  exact ⟨rfl, rfl⟩

/-- (*kinkeep/disk.Disk).Down -/
theorem down_c (F : Nat → Prop) (k : Nat) (s : St) (w : World) (hD : DiskAt w F k s) :
    Ret Try.prog 21 [.pointer (some ⟨k, 0, none⟩)] w fun v w' => Dv (.bool s.off) w v w' := by
  obtain ⟨⟨A, cA, dsl, P, cP, wl⟩, rd, arm, aft, hb, hm, hFk, hdu, hrd, hnil, harm, haft, hwf⟩ := hD
  have ho : Own w 0 22 1 A rd.length cA (dsl.map slv) := hm.own
  have hd : Owns w 0 dsl rd := hm.dat
  have hp : Own w 0 66 2 P s.pd.length cP (wcells wl) := hm.pown
  have hq : Owns w 0 (wl.map (·.2)) (s.pd.map (·.2)) := hm.pdat
  have hdl : s.du.length = rd.length := by rw [hdu, List.length_map]
  have n1 := hwf.n1
  have n2 := hwf.n2
  have d1 := hwf.d1
  refine ret_of Try.func21 rfl rfl ?_
  refine w_seq ?_
  refine w_region ?_
  refine sv rfl rfl rfl (ex_assign rfl rfl) ?_
  refine w_nil (qe_next ?_)
  refine w_seq ?_
  refine w_region ?_
  refine sv rfl rfl rfl (ex_move rfl rfl) ?_
  refine sv rfl rfl rfl (ex_nil rfl rfl) ?_
  refine sv rfl rfl rfl (ex_fieldAddr fld62_3 rfl rfl) ?_
  refine sv rfl rfl rfl (ex_load one4 rfl rfl (hb.cell rfl)) ?_
  refine sv rfl rfl rfl (ex_assign rfl rfl) ?_
  refine w_nil (qe_next ?_)
  refine w_ret (qe_ret1 rfl rfl ?_)
  exact ⟨rfl, rfl⟩

/-- (*kinkeep/disk.Disk).Pending -/
theorem pending_c (F : Nat → Prop) (k : Nat) (s : St) (w : World) (hD : DiskAt w F k s) :
    Ret Try.prog 22 [.pointer (some ⟨k, 0, none⟩)] w fun v w' => Dv (.int .i64 (s.pd.length : Int)) w v w' := by
  obtain ⟨⟨A, cA, dsl, P, cP, wl⟩, rd, arm, aft, hb, hm, hFk, hdu, hrd, hnil, harm, haft, hwf⟩ := hD
  have ho : Own w 0 22 1 A rd.length cA (dsl.map slv) := hm.own
  have hd : Owns w 0 dsl rd := hm.dat
  have hp : Own w 0 66 2 P s.pd.length cP (wcells wl) := hm.pown
  have hq : Owns w 0 (wl.map (·.2)) (s.pd.map (·.2)) := hm.pdat
  have hdl : s.du.length = rd.length := by rw [hdu, List.length_map]
  have n1 := hwf.n1
  have n2 := hwf.n2
  have d1 := hwf.d1
  refine ret_of Try.func22 rfl rfl ?_
  refine w_seq ?_
  refine w_region ?_
  refine sv rfl rfl rfl (ex_assign rfl rfl) ?_
  refine w_nil (qe_next ?_)
  refine w_seq ?_
  refine w_region ?_
  refine sv rfl rfl rfl (ex_move rfl rfl) ?_
  refine sv rfl rfl rfl (ex_nil rfl rfl) ?_
  refine sv rfl rfl rfl (ex_fieldAddr fld62_2 rfl rfl) ?_
  refine sv rfl rfl rfl (ex_load one60 rfl rfl (hb.cell rfl)) ?_
  refine sv rfl rfl rfl (ex_len Try.underlying60 rfl rfl) ?_
  refine sv rfl rfl rfl (ex_assign rfl rfl) ?_
  refine w_nil (qe_next ?_)
  refine w_ret (qe_ret1 rfl rfl ?_)
  exact ⟨rfl, rfl⟩

/-- (*kinkeep/disk.Disk).contents -/
theorem contents_c (i : Nat) (F : Nat → Prop) (k : Nat) (s : St) (w : World) (hD : DiskAt w F k s) (hi : i < s.du.length) :
    Ret Try.prog 35 [.pointer (some ⟨k, 0, none⟩), .int .i64 (i : Int)] w fun v w' => ∃ g, v = .slice (some ⟨g, 0, none⟩) s.n s.n ∧ Own w' w.heap.size 5 1 (some ⟨g, 0, none⟩) s.n s.n (bcells (s.du.getD i [])) ∧ Ext w w' := by
  obtain ⟨⟨A, cA, dsl, P, cP, wl⟩, rd, arm, aft, hb, hm, hFk, hdu, hrd, hnil, harm, haft, hwf⟩ := hD
  have ho : Own w 0 22 1 A rd.length cA (dsl.map slv) := hm.own
  have hd : Owns w 0 dsl rd := hm.dat
  have hp : Own w 0 66 2 P s.pd.length cP (wcells wl) := hm.pown
  have hq : Owns w 0 (wl.map (·.2)) (s.pd.map (·.2)) := hm.pdat
  have hdl : s.du.length = rd.length := by rw [hdu, List.length_map]
  have n1 := hwf.n1
  have n2 := hwf.n2
  have d1 := hwf.d1
  have K0 : Ext w w := Keep.refl _ _
  refine ret_of Try.func35 rfl rfl ?_
  refine w_seq ?_
  refine w_region ?_
  refine sv rfl rfl rfl (ex_assign rfl rfl) ?_
  refine w_nil (qe_next ?_)
  refine w_seq ?_
  refine w_region ?_
  refine sv rfl rfl rfl (ex_move rfl rfl) ?_
  refine sv rfl rfl rfl (ex_nil rfl rfl) ?_
  refine sv rfl rfl rfl (ex_fieldAddr fld62_0 rfl rfl) ?_
  refine sv rfl rfl rfl (ex_load one3 rfl rfl (hb.cell rfl)) ?_
  refine st rfl rfl rfl (ex_make Try.underlying22 z5 s.n rfl rfl rfl rfl rfl (by omega) (by omega)) ?_
  rintro _ w1 ⟨g, rfl, hg0, E1, hg, hs1⟩
  replace hb := hb.ext E1
  replace ho := ho.ext E1
  replace hd := hd.ext E1
  replace K0 := K0.ext E1
  refine sv rfl rfl rfl (ex_assign rfl rfl) ?_
  refine w_nil (qe_next ?_)
  refine w_seq ?_
  have hw := Own.of_blk (lo := w.heap.size) (n := s.n) (c := s.n) (size := 1) hg (by omega) (Nat.le_refl _) (by unfold maxLen; omega) (by simp)
  obtain ⟨bb, oo, u, rfl, _, _, hu, hc⟩ := ho.rd.at_ (k := i) (by omega)
  rw [List.getElem?_map] at hu
  obtain ⟨si, hsi, rfl⟩ := Option.map_eq_some_iff.1 hu
  obtain ⟨yi, hyi, hli, hoi⟩ := hd.get hsi
  refine w_region ?_
  refine sv rfl rfl rfl (ex_move rfl rfl) ?_
  refine sv rfl rfl rfl (ex_move rfl rfl) ?_
  refine sv rfl rfl rfl (ex_nil rfl rfl) ?_
  refine sv rfl rfl rfl (ex_fieldAddr fld62_1 rfl rfl) ?_
  refine sv rfl rfl rfl (ex_load one33 rfl rfl (hb.cell rfl)) ?_
  refine sv rfl rfl rfl (ex_move rfl rfl) ?_
  refine sv rfl rfl rfl (ex_index Try.underlying33 sz22 i rfl rfl rfl rfl (by omega)) ?_
  refine sv rfl rfl rfl (ex_load (v := .slice si.1 si.2.1 si.2.2) one22 rfl rfl hc) ?_
  refine st rfl rfl rfl (ex_copy Try.underlying22 rfl rfl rfl rfl hw hoi.rd (bcells_one _)) ?_
  rintro _ w2 ⟨rfl, hw2, K1⟩
  refine w_nil (qe_next ?_)
  refine w_seq ?_
  refine w_region ?_
  refine sv rfl rfl rfl (ex_move rfl rfl) ?_
  refine sv rfl rfl rfl (ex_assign rfl rfl) ?_
  refine w_nil (qe_next ?_)
  refine w_ret (qe_ret1 rfl rfl ?_)
  refine ⟨g, rfl, ?_, K0.trans K1 (fun j hj _ => hw.fresh hj)⟩
  rw [hli, con_cells (hrd yi (List.mem_of_getElem? hyi))] at hw2
  rw [hdu, List.getD_eq_getElem?_getD, List.getElem?_map, hyi]
  exact hw2
end Go.Proofs.Ytcgcklfbnmaodaa

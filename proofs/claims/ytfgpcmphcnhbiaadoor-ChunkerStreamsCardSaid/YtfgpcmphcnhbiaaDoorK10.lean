/- The reference: Marked. -/
import Derived.Test.YtfgpcmphcnhbiaaDoorK9
namespace Go.Proofs.YtfgpcmphcnhbiaaDoor
open Go Go.RowKit
set_option linter.unusedVariables false
set_option linter.unusedSimpArgs false

theorem refHash_m (seed : B64) (A : Option Addr) (m c lo hi : Nat) (bs : List UInt8) (w : World) (hm : m = bs.length) (hl : bs.length ≤ 1000) (hr : Rd w lo hi 1 A m (bcells bs)) : Ret Tryd.prog 51 [U seed, .slice A m c] w fun v w' => Dv (U (hash seed bs)) w v w' := by
  subst hm
  exact refHash_c seed bs A c lo hi w hl hr
/-- the marks of the positions below k, false from there on -/
def mcl (q : Vut) (bs : List UInt8) (k : Nat) : List Value := (List.range (bs.length + 1)).map fun p => .bool (decide (p < k) && mkd q bs p)
theorem mcl_length (q : Vut) (bs : List UInt8) (k : Nat) : (mcl q bs k).length = bs.length + 1 := by simp [mcl]
theorem mcl_start (q : Vut) (bs : List UInt8) : mcl q bs q.wi = List.replicate (bs.length + 1) (.bool false) := by
  refine List.ext_getElem (by simp [mcl]) fun i h1 h2 => ?_
  simp only [mcl, List.getElem_map, List.getElem_range, List.getElem_replicate]
  by_cases h : i < q.wi
  · unfold mkd; rw [decide_eq_false (p := q.wi ≤ i) (by omega)]; simp
  · rw [decide_eq_false h]; rfl
theorem mcl_set (q : Vut) (bs : List UInt8) {k : Nat} (hk : k ≤ bs.length) : (mcl q bs k).set k (.bool (mkd q bs k)) = mcl q bs (k + 1) := by
  refine List.ext_getElem (by simp [mcl]) fun i h1 h2 => ?_
  have hi : i < bs.length + 1 := by simpa [mcl] using h2
  rw [List.getElem_set]
  by_cases e : k = i
  · subst e
    simp only [mcl, List.getElem_map, List.getElem_range, if_true]
    rw [decide_eq_true (by omega), Bool.true_and]
  · rw [if_neg e]
    simp only [mcl, List.getElem_map, List.getElem_range]
    congr 2
    exact decide_eq_decide.2 (by omega)
theorem mcl_get (q : Vut) (bs : List UInt8) {k p : Nat} (hp : p ≤ bs.length) (hk : p < k) : (mcl q bs k)[p]? = some (.bool (mkd q bs p)) := by
  have : p < bs.length + 1 := by omega
  simp [mcl, this, hk]
theorem mkd_eq (q : Vut) (bs : List UInt8) {k : Nat} (h1 : q.wi ≤ k) (h2 : k ≤ bs.length) : mkd q bs k = decide (q.bi ≤ zeros (hash q.seed ((bs.drop (k - q.wi)).take q.wi))) := by
  unfold mkd lastN
  rw [decide_eq_true h1, Bool.true_and, List.drop_take, List.length_take, show min k bs.length = k by omega, show k - (k - q.wi) = q.wi by omega]
/-- kinkeep/kinkeepref16.Marked -/
theorem refMarked_c (q : Vut) (A : Option Addr) (c lo hi : Nat) (bs : List UInt8) (w : World) (hr : Rd w lo hi 1 A bs.length (bcells bs)) (hmc : bs.length ≤ c) (hlen : bs.length ≤ 1000000) :
    Ret Tryd.prog 40 [q.cut.val, .slice A bs.length c] w fun v w' => ∃ g, v = .slice (some ⟨g, 0, none⟩) (bs.length + 1) (bs.length + 1) ∧ Blk w' g 4 (mcl q bs (bs.length + 1)) ∧ Ext w w' := by
  have K0 : Ext w w := Keep.refl _ _
  have hq0 : q.cut.mn = (q.mn : Int) := rfl
  have hq1 : q.cut.mx = (q.mx : Int) := rfl
  have hq2 : q.cut.wi = (q.wi : Int) := rfl
  have hq3 : q.cut.bi = (q.bi : Int) := rfl
  have hv1 := q.h1
  have hv2 := q.h2
  have hv3 := q.h3
  have hv4 := q.h4
  have hv5 := q.h5
  have hv6 := q.h6
  refine ret_of Tryd.func40 rfl rfl ?_
  refine w_seq ?_
  refine w_region ?_
  refine st rfl rfl rfl (ex_box (cs := q.cut.cells) rfl rfl rfl) ?_
  rintro _ w1 ⟨b, rfl, hb0, E0, hb, hs0⟩
  replace K0 := K0.ext E0
  refine sv rfl rfl rfl (ex_assign rfl rfl) ?_
  refine w_nil (qe_next ?_)
  refine w_seq ?_
  refine w_region ?_
  refine sv rfl rfl rfl (ex_move rfl rfl) ?_
  refine sv rfl rfl rfl (ex_len Tryd.underlying25 rfl rfl) ?_
  refine sv rfl rfl rfl (ex_add rfl rfl rfl (i64_in (by omega) (by omega))) ?_
  have hsz := K0.size
  refine st rfl rfl rfl (ex_make Tryd.underlying70 z4 (bs.length + 1) rfl rfl rfl (by omega) (by omega) (by omega) (by omega)) ?_
  rintro _ w2 ⟨g, rfl, hg0, E1, hg, hs1⟩
  replace K0 := K0.ext E1
  replace hb := hb.ext E1
  refine sv rfl rfl rfl (ex_assign rfl rfl) ?_
  refine w_nil (qe_next ?_)
  refine w_seq ?_
  refine w_seq ?_
  refine w_region ?_
  refine sv rfl rfl rfl (ex_fieldAddr fld24_2 rfl rfl) ?_
  refine sv rfl rfl rfl (ex_load one3 rfl rfl (hb.cell rfl)) ?_
  refine sv rfl rfl rfl (ex_assign rfl rfl) ?_
  refine w_nil (qe_next ?_)
  refine w_block ?_
  refine w_loop (ι := Nat) (fun k => [(1, .slice A bs.length c), (2, .pointer (some ⟨b, 0, none⟩)), (5, .slice (some ⟨g, 0, none⟩) (bs.length + 1) (bs.length + 1)), (6, .int .i64 (k : Int))]) (fun k w1 => q.wi ≤ k ∧ (k ≤ bs.length + 1 ∨ k = q.wi) ∧ Blk w1 b 24 q.cut.cells ∧ Blk w1 g 4 (mcl q bs k) ∧ Ext w w1) (fun k => bs.length + 1 - k) (q.wi) ⟨rfl, rfl, rfl, rfl, trivial⟩ ?_ ?_
  · exact ⟨Nat.le_refl _, .inr rfl, hb, by rw [mcl_start]; exact hg, K0⟩
  · clear hb hg K0
    rintro k w1 ⟨hwk, hk, hb, hg, K0⟩
    refine w_seq ?_
    refine w_seq ?_
    refine w_region ?_
    refine sv rfl rfl rfl (ex_move rfl rfl) ?_
    refine sv rfl rfl rfl (ex_move rfl rfl) ?_
    refine sv rfl rfl rfl (ex_len Tryd.underlying25 rfl rfl) ?_
    refine sv rfl rfl rfl (ex_cmp rfl rfl rfl rfl) ?_
    refine w_nil (qe_next ?_)
    refine w_if rfl (fun hk2 => ?_) (fun hk2 => ?_)
    · skip
      replace hk2 : k ≤ bs.length := by omega
      obtain ⟨bb, oo, rfl, _, _, hcc⟩ := hr.2 (by omega)
      refine w_skip (qe_next ?_)
      refine w_seq ?_
      refine w_block ?_
      refine w_draw mixed (fun w3 _ Ew3 => ?_)
      replace hb := hb.ext Ew3
      replace hg := hg.ext Ew3
      replace K0 := K0.ext Ew3
      have hcut := (hr.ext K0).cut (l := k - q.wi) (hh := k) (m := c) (by omega) hk2 hmc
      rw [if_neg (by omega), Option.map_some, add_lit', show List.take ((k - (k - q.wi)) * 1) (List.drop ((k - q.wi) * 1) (bcells bs)) = bcells ((bs.drop (k - q.wi)).take q.wi) from by simp [bcells, show k - (k - q.wi) = q.wi by omega]] at hcut
      refine wd_free 16 _ rfl rfl rfl rfl ?_
      refine fd [] rfl rfl rfl rfl rfl rfl rfl (fun w' E => ex_move rfl rfl) ?_
      refine fd [] rfl rfl rfl rfl rfl rfl rfl (fun w' E => ex_move rfl rfl) ?_
      refine fd [] rfl rfl rfl rfl rfl rfl rfl (fun w' E => ex_fieldAddr fld24_4 rfl rfl) ?_
      refine fd [2] rfl rfl rfl rfl rfl rfl rfl (fun w' E => ex_load one22 rfl rfl (E.cell trivial (hb.cell rfl))) ?_
      refine fd [] rfl rfl rfl rfl rfl rfl rfl (fun w' E => ex_move rfl rfl) ?_
      refine fd [] rfl rfl rfl rfl rfl rfl rfl (fun w' E => ex_move rfl rfl) ?_
      refine fd [] rfl rfl rfl rfl rfl rfl rfl (fun w' E => ex_fieldAddr fld24_2 rfl rfl) ?_
      refine fd [6] rfl rfl rfl rfl rfl rfl rfl (fun w' E => ex_load one3 rfl rfl (E.cell trivial (hb.cell rfl))) ?_
      refine fd [5, 7] rfl rfl rfl rfl rfl rfl rfl (fun w' E => ex_sub rfl rfl rfl (i64_in (by omega) (by omega))) ?_
      refine fd [] rfl rfl rfl rfl rfl rfl rfl (fun w' E => ex_move rfl rfl) ?_
      refine fd [4, 8, 9] rfl rfl rfl rfl rfl rfl rfl (fun w' E => ex_slice_in Tryd.underlying25 sz5 (k - q.wi) k rfl rfl (.inr ⟨_, _, _, rfl, rfl, by omega⟩) (.inr ⟨_, _, _, rfl, rfl, rfl⟩) (by omega) (by omega) (by omega)) ?_
      refine fe [3, 10] rfl rfl rfl rfl rfl rfl rfl (fun w' E => ex_call call51 rfl rfl ((refHash_m q.seed _ _ _ _ _ ((bs.drop (k - q.wi)).take q.wi) _ (by simp; omega) (by simp; omega) (hcut.ext E)).ext)) ?_
      refine fe [11] rfl rfl rfl rfl rfl rfl rfl (fun w' E => ex_call call50 rfl rfl ((refZeros_c _ _).ext)) ?_
      refine fd [] rfl rfl rfl rfl rfl rfl rfl (fun w' E => ex_fieldAddr fld24_3 rfl rfl) ?_
      refine fd [13] rfl rfl rfl rfl rfl rfl rfl (fun w' E => ex_load one3 rfl rfl (E.cell trivial (hb.cell rfl))) ?_
      refine fd [12, 14] rfl rfl rfl rfl rfl rfl rfl (fun w' E => ex_cmp rfl rfl rfl rfl) ?_
      refine .nil (fun w4 Ew4 _ => ?_)
      replace hb := hb.ext Ew4
      replace hg := hg.ext Ew4
      replace K0 := K0.ext Ew4
      refine wd_v rfl rfl (by kernel_rfl) rfl rfl rfl (ex_index Tryd.underlying70 sz4 k rfl rfl rfl rfl (by omega)) ?_
      refine wd_one0 rfl rfl (by kernel_rfl) rfl rfl (ex_store_blk sz4 rfl rfl rfl rfl hg (by rw [mcl_length]; omega)) ?_
      rintro _ w5 ⟨K2, hg1, _⟩
      replace hb := hb.keep K2 (hb.ne hg (by decide))
      have hg2 := hg1
      rw [Nat.zero_add, decide_eq_decide.2 (show _ ↔ q.bi ≤ zeros (hash q.seed ((bs.drop (k - q.wi)).take q.wi)) from by omega), ← mkd_eq q bs hwk hk2, mcl_set q bs hk2] at hg2
      replace K0 := K0.trans K2 (fun j hj _ => by omega)
      clear hg hg1 K2
      have hg := hg2
      clear hg2
      refine wd_nil (by decide) rfl ?_
      refine qe_in_normal (qe_next ?_)
      refine w_region ?_
      refine sv rfl rfl rfl (ex_move rfl rfl) ?_
      refine sv rfl rfl rfl (ex_add rfl rfl rfl (i64_in (by omega) (by omega))) ?_
      refine sv rfl rfl rfl (ex_assign rfl rfl) ?_
      refine w_nil (qe_round (k + 1) ⟨rfl, rfl, rfl, rfl, trivial⟩ ?_ ?_)
      · exact ⟨by omega, .inl (by omega), hb, hg, K0⟩
      · omega
    · skip
      replace hk2 : bs.length < k := by omega
      refine w_exit (qe_then_exit (qe_then_exit (qe_in_exit (qe_next ?_))))
      refine w_seq ?_
      refine w_region ?_
      refine sv rfl rfl rfl (ex_move rfl rfl) ?_
      refine sv rfl rfl rfl (ex_assign rfl rfl) ?_
      refine w_nil (qe_next ?_)
      refine w_ret (qe_ret1 rfl rfl ?_)
      have he : mcl q bs k = mcl q bs (bs.length + 1) := by
        refine List.ext_getElem (by simp [mcl]) fun i h1 h2 => ?_
        have hi : i < bs.length + 1 := by simpa [mcl] using h2
        simp only [mcl, List.getElem_map, List.getElem_range]
        congr 2
        exact decide_eq_decide.2 (by omega)
      rw [he] at hg
      exact ⟨g, rfl, hg, K0⟩
end Go.Proofs.YtfgpcmphcnhbiaaDoor

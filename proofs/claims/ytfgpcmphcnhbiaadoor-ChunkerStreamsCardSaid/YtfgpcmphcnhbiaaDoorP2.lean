/- The reference's chunks; Same, Equal. -/
import Derived.Test.YtfgpcmphcnhbiaaDoorP
namespace Go.Proofs.YtfgpcmphcnhbiaaDoor
open Go Go.RowKit
set_option linter.unusedVariables false
set_option linter.unusedSimpArgs false
theorem ex_strm {r : Option Nat} {P : Program} {N : Sz} {o : Oper} {l : Env} {w : World} {s t e lo hi c m : Nat} {A : Option Addr} {bs : List UInt8} {x : Operand} (hm : m = bs.length) (hs : P.underlying s = some (.slice e)) (he : P.underlying e = some (.int .u8)) (ht : P.underlying t = some .string) (ho : o.op = .convert s t x)
    (hx : ev l x = some (.slice A m c)) (hr : Rd w lo hi 1 A m (bcells bs)) : Ex r P N o l w (Dv (.string ⟨bs.toArray⟩) w) := by
  subst hm
  exact ex_str hs he ht ho hx hr
theorem build_bs0 (w : World) : (Instr.buildSlice 32 0 ([] : List (Nat × Value)).toArray).run Tryd.prog w = .ok (.slice (some ⟨w.heap.size, 0, none⟩) 0 0) (w.alloc (.cells ([] : List Value).toArray 25)) := by kernel_rfl
theorem Sep.lo {w w0 : World} {lo size n c lo' size' n' c' : Nat} {e e' : TypeId} {B D : Option Addr} {xs xs' : List Value} (h : Own w lo e size B n c xs) (h' : Own w0 lo' e' size' D n' c' xs') (hlo : w0.heap.size ≤ lo) : Sep B D := fun g o o' h1 h2 => by
  have := (h.lt h1).1
  have := (h'.lt h2).2
  omega
theorem Owns.lt {w : World} {lo : Nat} : ∀ {sl : List Sl} {ys : List (List UInt8)}, Owns w lo sl ys → ∀ s ∈ sl, ∀ g o, s.1 = some ⟨g, o, none⟩ → lo ≤ g ∧ g < w.heap.size
  | [], [], _, s, hs, _, _, _ => by cases hs
  | s0 :: _, _ :: _, h, s, hs, g, o, e => by
    rcases List.mem_cons.1 hs with rfl | hs
    · exact h.1.2.lt e
    · exact Owns.lt h.2 s hs g o e
  | [], _ :: _, h, _, _, _, _, _ => h.elim
  | _ :: _, [], h, _, _, _, _, _ => h.elim
/-- slices that read as these bytes -/
def Rds (w : World) (sl : List Sl) (ys : List (List UInt8)) : Prop := sl.length = ys.length ∧ ∀ (i : Nat) s, sl[i]? = some s → ∃ y, ys[i]? = some y ∧ s.2.1 = y.length ∧ ∃ lo hi, Rd w lo hi 1 s.1 s.2.1 (bcells y)
theorem Rds.ext {w w' : World} {sl : List Sl} {ys : List (List UInt8)} (h : Rds w sl ys) (k : Ext w w') : Rds w' sl ys :=
  ⟨h.1, fun i s hs => by
    obtain ⟨y, h1, h2, lo, hi, h3⟩ := h.2 i s hs
    exact ⟨y, h1, h2, lo, hi, h3.ext k⟩⟩
theorem Owns.rds {w : World} {lo : Nat} {sl : List Sl} {ys : List (List UInt8)} (h : Owns w lo sl ys) : Rds w sl ys :=
  ⟨h.length, fun i s hs => by
    obtain ⟨y, h1, h2, h3⟩ := h.get hs
    exact ⟨y, h1, h2, _, _, h3.rd⟩⟩

/-- kinkeep/kinkeepref16.Cuts -/
theorem refCuts_c (q : Vut) (A : Option Addr) (c lo hi : Nat) (bs : List UInt8) (w : World) (hr : Rd w lo hi 1 A bs.length (bcells bs)) (hmc : bs.length ≤ c) (hlen : bs.length ≤ 1000000) :
    Ret Tryd.prog 30 [q.cut.val, .slice A bs.length c] w fun v w' => ∃ B d, v = .slice B (ecuts q bs bs.length).1.length d ∧ Own w' w.heap.size 3 1 B (ecuts q bs bs.length).1.length d ((ecuts q bs bs.length |>.1).map fun x : Nat => Value.int .i64 (x : Int)) ∧ Ext w w' := by
  have K0 : Ext w w := Keep.refl _ _
  have hq0 : q.cut.mn = (q.mn : Int) := rfl
  have hq1 : q.cut.mx = (q.mx : Int) := rfl
  have hq2 : q.cut.wi = (q.wi : Int) := rfl
  have hq3 : q.cut.bi = (q.bi : Int) := rfl
  have hv1 := q.h1
  have hv2 := q.h2
  have hv3 := q.h3
  have hv4 := q.h4
  have hv5 := q.h5
  have hv6 := q.h6
  refine ret_of Tryd.func30 rfl rfl ?_
  refine w_seq ?_
  refine w_region ?_
  refine st rfl rfl rfl (ex_box (cs := q.cut.cells) rfl rfl rfl) ?_
  rintro _ w1 ⟨b, rfl, hb0, E0, hb, hs0⟩
  replace K0 := K0.ext E0
  refine sv rfl rfl rfl (ex_assign rfl rfl) ?_
  refine w_nil (qe_next ?_)
  refine w_seq ?_
  refine w_region ?_
  have hsz0 := K0.size
  refine st rfl rfl rfl (ex_buildSlice (cs := []) rfl rfl build_ints0) ?_
  rintro _ w2 ⟨g0, rfl, hg0, E1, hb1, hs1⟩
  replace K0 := K0.ext E1
  replace hb := hb.ext E1
  have hout := Own.of_blk (lo := w.heap.size) (n := 0) (c := 0) (size := 1) hb1 (by omega) (by omega) (by decide) (by simp)
  have hout0 := hout
  have hsz1 := K0.size
  refine sv rfl rfl rfl (ex_assign rfl rfl) ?_
  refine w_nil (qe_next ?_)
  refine w_seq ?_
  refine w_region ?_
  refine sv rfl rfl rfl (ex_assign rfl rfl) ?_
  refine w_nil (qe_next ?_)
  refine w_seq ?_
  refine w_region ?_
  refine sv rfl rfl rfl (ex_load_agg (cs := q.cut.cells) agg24 rfl rfl (by intro j u hu; rw [Nat.zero_add]; exact hb.cell hu)) ?_
  refine sv rfl rfl rfl (ex_move rfl rfl) ?_
  refine st rfl rfl rfl (ex_call call27 rfl rfl (refPrimary_c q A c lo hi bs _ (hr.ext K0) hmc hlen)) ?_
  rintro _ w3 ⟨P, dP, rfl, hp, E2⟩
  replace K0 := K0.ext E2
  replace hb := hb.ext E2
  have spo := Sep.lo hp hout0 (Nat.le_refl _)
  replace hp := hp.lower (lo' := w.heap.size) hsz1
  replace hout := hout.ext E2
  have hsz2 := K0.size
  have hpl := prims_length q bs bs.length
  refine sv rfl rfl rfl (ex_move rfl rfl) ?_
  refine sv rfl rfl rfl (ex_len Tryd.underlying25 rfl rfl) ?_
  refine st rfl rfl rfl (ex_buildSlice (cs := [.int .i64 (bs.length : Int)]) rfl rfl (build_int _)) ?_
  rintro _ w4 ⟨g1, rfl, hg1, E7, hb7, hs7⟩
  replace K0 := K0.ext E7
  replace hb := hb.ext E7
  replace hp := hp.ext E7
  replace hout := hout.ext E7
  have hsz3 := K0.size
  refine st rfl rfl rfl (ex_append Tryd.underlying35 z3.1 rfl (by decide) rfl rfl rfl hp (Rd.of_blk (size := 1) hb7 rfl) (by simp [Value.oneCell']) (by first | omega | (simp only; omega)) (by first | omega | (simp only; omega)) (by omega)) ?_
  rintro _ w5 ⟨P1, dP1, rfl, hp1, K3, hB3⟩
  have sp := (Sep.app spo hout hB3).symm
  replace hout := Sep.keep spo hout K3
  replace hb := hb.keep K3 (fun o e => hp.ne_blk hb (by decide) b o e rfl)
  replace K0 := K0.trans K3 (fun j hj _ => hp.fresh (by omega))
  rw [show (prims q bs bs.length).map (fun x : Nat => Value.int .i64 (x : Int)) ++ [.int .i64 (bs.length : Int)] = (endsOf q bs).map (fun x : Nat => Value.int .i64 (x : Int)) from by simp [endsOf]] at hp1
  clear hp
  have hp := hp1
  clear hp1
  have hel : (endsOf q bs).length = (prims q bs bs.length).length + 1 := by simp [endsOf]
  refine sv rfl rfl rfl (ex_assign rfl rfl) ?_
  refine w_nil (qe_next ?_)
  refine w_seq ?_
  refine w_seq ?_
  refine w_region ?_
  refine sv rfl rfl rfl (ex_assign rfl rfl) ?_
  refine w_nil (qe_next ?_)
  refine w_block ?_
  refine w_loop (ι := Nat × Nat × Nat × Option Addr × Nat) (fun i => [(2, .pointer (some ⟨b, 0, none⟩)), (5, .slice i.2.2.2.1 i.2.2.1 i.2.2.2.2), (6, .int .i64 (i.2.1 : Int)), (7, .slice P1 ((prims q bs bs.length).length + 1) dP1), (8, .int .i64 (i.1 : Int))]) (fun i w1 => i.1 ≤ (endsOf q bs).length ∧ i.2.1 ≤ bs.length ∧ (ecuts q bs i.2.1).2 = i.2.1 ∧ i.2.2.1 = (ecuts q bs i.2.1).1.length ∧ (∀ x ∈ (endsOf q bs).take i.1, x ≤ i.2.1) ∧ Own w1 w.heap.size 3 1 i.2.2.2.1 i.2.2.1 i.2.2.2.2 ((ecuts q bs i.2.1).1.map fun x : Nat => Value.int .i64 (x : Int)) ∧ Own w1 w.heap.size 3 1 P1 ((prims q bs bs.length).length + 1) dP1 ((endsOf q bs).map fun x : Nat => Value.int .i64 (x : Int)) ∧ Sep i.2.2.2.1 P1 ∧ Blk w1 b 24 q.cut.cells ∧ Ext w w1) (fun i => (endsOf q bs).length - i.1) ((0, 0, 0, _, _)) ⟨rfl, rfl, rfl, rfl, rfl, trivial⟩ ?_ ?_
  · exact ⟨Nat.zero_le _, Nat.zero_le _, rfl, rfl, (fun x hx => by rw [List.take_zero] at hx; cases hx), hout, hp, sp, hb, K0⟩
  · clear hout hp hb K0 sp
    rintro ⟨j, fr, n, B, d⟩ w1 ⟨hj, hfl, hfe, hn, hpre, hout, hp, sp, hb, K0⟩
    simp only at hj hfl hfe hn hpre hout sp
    refine w_seq ?_
    refine w_seq ?_
    refine w_region ?_
    refine sv rfl rfl rfl (ex_move rfl rfl) ?_
    refine sv rfl rfl rfl (ex_move rfl rfl) ?_
    refine sv rfl rfl rfl (ex_len Tryd.underlying35 rfl rfl) ?_
    refine sv rfl rfl rfl (ex_cmp rfl rfl rfl rfl) ?_
    refine w_nil (qe_next ?_)
    refine w_if rfl (fun hj2 => ?_) (fun hj2 => ?_)
    · skip
      replace hj2 : j < (endsOf q bs).length := by simp only at hj2; omega
      obtain ⟨e, hje⟩ : ∃ e, (endsOf q bs)[j]? = some e := ⟨_, List.getElem?_eq_getElem hj2⟩
      have hee := endsOf_e hje
      refine w_skip (qe_next ?_)
      refine w_seq ?_
      refine w_block ?_
      refine w_block ?_
      refine w_loop (ι := Nat × Nat × Option Addr × Nat) (fun u => [(2, .pointer (some ⟨b, 0, none⟩)), (5, .slice u.2.2.1 u.2.1 u.2.2.2), (6, .int .i64 (u.1 : Int)), (7, .slice P1 ((prims q bs bs.length).length + 1) dP1), (8, .int .i64 (j : Int))]) (fun u w2 => u.1 ≤ bs.length ∧ (ecuts q bs u.1).2 = u.1 ∧ u.2.1 = (ecuts q bs u.1).1.length ∧ (∀ x ∈ (endsOf q bs).take j, x ≤ u.1) ∧ Own w2 w.heap.size 3 1 u.2.2.1 u.2.1 u.2.2.2 ((ecuts q bs u.1).1.map fun x : Nat => Value.int .i64 (x : Int)) ∧ Own w2 w.heap.size 3 1 P1 ((prims q bs bs.length).length + 1) dP1 ((endsOf q bs).map fun x : Nat => Value.int .i64 (x : Int)) ∧ Sep u.2.2.1 P1 ∧ Blk w2 b 24 q.cut.cells ∧ Ext w w2) (fun u => bs.length - u.1) ((_, _, _, _)) ⟨rfl, rfl, rfl, rfl, rfl, trivial⟩ ?_ ?_
      · exact ⟨hfl, hfe, hn, hpre, hout, hp, sp, hb, K0⟩
      · clear hout hp hb K0 sp hfl hfe hn hpre
        rintro ⟨fr, n, B, d⟩ w2 ⟨hfl, hfe, hn, hpre, hout, hp, sp, hb, K0⟩
        simp only at hfl hfe hn hpre hout sp
        have hnl := (ecuts_inc q bs fr).length
        obtain ⟨bb, oo, u, rfl, _, _, hu, hcell⟩ := hp.rd.at_ (k := j) (by omega)
        rw [List.getElem?_map, hje] at hu
        cases hu
        refine w_seq ?_
        refine w_seq ?_
        refine w_region ?_
        refine sv rfl rfl rfl (ex_move rfl rfl) ?_
        refine sv rfl rfl rfl (ex_move rfl rfl) ?_
        refine sv rfl rfl rfl (ex_move rfl rfl) ?_
        refine sv rfl rfl rfl (ex_index Tryd.underlying35 sz3 j rfl rfl rfl rfl (by omega)) ?_
        refine sv rfl rfl rfl (ex_load one3 rfl rfl hcell) ?_
        refine sv rfl rfl rfl (ex_cmp rfl rfl rfl rfl) ?_
        refine w_nil (qe_next ?_)
        refine w_if rfl (fun hfr => ?_) (fun hfr => ?_)
        · skip
          replace hfr : fr < e := by omega
          refine w_skip (qe_next ?_)
          refine w_block ?_
          refine w_seq ?_
          refine w_draw mixed (fun w6 _ Ew6 => ?_)
          replace hout := hout.ext Ew6
          replace hp := hp.ext Ew6
          replace hb := hb.ext Ew6
          replace K0 := K0.ext Ew6
          obtain ⟨b3, o3, u3, he3, _, _, hu3, hcell3⟩ := hp.rd.at_ (k := j) (by omega)
          cases he3
          rw [List.getElem?_map, hje] at hu3
          cases hu3
          refine wd_free 8 _ rfl rfl rfl rfl ?_
          refine fd [] rfl rfl rfl rfl rfl rfl rfl (fun w' E => ex_move rfl rfl) ?_
          refine fd [] rfl rfl rfl rfl rfl rfl rfl (fun w' E => ex_fieldAddr fld24_1 rfl rfl) ?_
          refine fd [1] rfl rfl rfl rfl rfl rfl rfl (fun w' E => ex_load one3 rfl rfl (E.cell trivial (hb.cell rfl))) ?_
          refine fd [0, 2] rfl rfl rfl rfl rfl rfl rfl (fun w' E => ex_add rfl rfl rfl (i64_in (by omega) (by omega))) ?_
          refine fd [] rfl rfl rfl rfl rfl rfl rfl (fun w' E => ex_move rfl rfl) ?_
          refine fd [] rfl rfl rfl rfl rfl rfl rfl (fun w' E => ex_move rfl rfl) ?_
          refine fd [4, 5] rfl rfl rfl rfl rfl rfl rfl (fun w' E => ex_index Tryd.underlying35 sz3 j rfl rfl rfl rfl (by omega)) ?_
          refine fd [6] rfl rfl rfl rfl rfl rfl rfl (fun w' E => ex_load one3 rfl rfl (E.cell trivial hcell3)) ?_
          refine .nil (fun w7 Ew7 _ => ?_)
          replace hout := hout.ext Ew7
          replace hp := hp.ext Ew7
          replace hb := hb.ext Ew7
          replace K0 := K0.ext Ew7
          refine wd_v rfl rfl (by kernel_rfl) rfl rfl rfl (ex_min (z := ((min (fr + q.mx) e : Nat) : Int)) rfl rfl rfl (by omega)) ?_
          refine wd_v rfl rfl (by kernel_rfl) rfl rfl rfl (ex_assign rfl rfl) ?_
          refine wd_nil (by decide) rfl ?_
          refine qe_next ?_
          refine w_region ?_
          refine sv rfl rfl rfl (ex_move rfl rfl) ?_
          refine sv rfl rfl rfl (ex_move rfl rfl) ?_
          refine st rfl rfl rfl (ex_buildSlice (cs := [.int .i64 ((min (fr + q.mx) e : Nat) : Int)]) rfl rfl (build_int _)) ?_
          rintro _ w8 ⟨g2, rfl, hg2, E8, hb8, hs8⟩
          replace hout := hout.ext E8
          replace hp := hp.ext E8
          replace hb := hb.ext E8
          replace K0 := K0.ext E8
          have hs9 := K0.size
          refine st rfl rfl rfl (ex_append Tryd.underlying35 z3.1 rfl (by decide) rfl rfl rfl hout (Rd.of_blk (size := 1) hb8 rfl) (by simp [Value.oneCell']) (by first | omega | (simp only; omega)) (by first | omega | (simp only; omega)) (by omega)) ?_
          rintro _ w9 ⟨B1, d1, rfl, hout1, K4, hB4⟩
          have spn := Sep.app sp hp hB4
          replace hp := Sep.keep sp hp K4
          replace hb := hb.keep K4 (fun o e => hout.ne_blk hb (by decide) b o e rfl)
          replace K0 := K0.trans K4 (fun j hj _ => hout.fresh hj)
          refine sv rfl rfl rfl (ex_assign rfl rfl) ?_
          refine w_nil (qe_in_normal (qe_round ((min (fr + q.mx) e, n + 1, B1, d1)) ⟨rfl, rfl, rfl, rfl, rfl, trivial⟩ ?_ ?_))
          · have hec := ends_step (pre := (ecuts q bs fr).1) (Prod.ext rfl hfe) hje hpre hfr
            exact ⟨by simp only; omega, by simp only; rw [hec], by simp only; rw [hec, List.length_append, List.length_singleton, hn], (fun x hx => by have := hpre x hx; simp only; omega), by simp only; rw [hec, List.map_append]; exact hout1, hp, spn, hb, K0⟩
          · simp only; omega
        · skip
          have hdn : e ≤ fr := by omega
          refine w_exit (qe_then_exit (qe_then_exit (qe_in_exit (qe_in_normal (qe_next ?_)))))
          refine w_region ?_
          refine sv rfl rfl rfl (ex_move rfl rfl) ?_
          refine sv rfl rfl rfl (ex_add rfl rfl rfl (i64_in (by omega) (by omega))) ?_
          refine sv rfl rfl rfl (ex_assign rfl rfl) ?_
          refine w_nil (qe_round ((j + 1, fr, n, B, d)) ⟨rfl, rfl, rfl, rfl, rfl, trivial⟩ ?_ ?_)
          · exact ⟨by simp only; omega, hfl, hfe, hn, (fun x hx => by
              rw [show (endsOf q bs).take (j + 1) = (endsOf q bs).take j ++ [e] from by rw [List.take_add_one, hje]; rfl] at hx
              rcases List.mem_append.1 hx with hx | hx
              · exact hpre x hx
              · rw [List.mem_singleton.1 hx]; exact hdn), hout, hp, sp, hb, K0⟩
          · simp only; omega
    · skip
      replace hj2 : j = (endsOf q bs).length := by simp only at hj2; omega
      subst hj2
      obtain rfl := ends_done hpre hfl
      subst hn
      refine w_exit (qe_then_exit (qe_then_exit (qe_in_exit (qe_next ?_))))
      refine w_seq ?_
      refine w_region ?_
      refine sv rfl rfl rfl (ex_move rfl rfl) ?_
      refine sv rfl rfl rfl (ex_assign rfl rfl) ?_
      refine w_nil (qe_next ?_)
      refine w_ret (qe_ret1 rfl rfl ?_)
      exact ⟨B, d, rfl, hout, K0⟩

/-- kinkeep/kinkeepref16.Split -/
theorem refSplit_c (q : Vut) (A : Option Addr) (c lo hi : Nat) (bs : List UInt8) (w : World) (hr : Rd w lo hi 1 A bs.length (bcells bs)) (hmc : bs.length ≤ c) (hlen : bs.length ≤ 1000000) :
    Ret Tryd.prog 18 [q.cut.val, .slice A bs.length c] w fun v w' => ∃ B d sl, v = .slice B (ecuts q bs bs.length).1.length d ∧ Own w' w.heap.size 25 1 B (ecuts q bs bs.length).1.length d (sl.map slv) ∧ Owns w' w.heap.size sl (pieces bs 0 (ecuts q bs bs.length).1) ∧ Ext w w' := by
  have K0 : Ext w w := Keep.refl _ _
  have hq0 : q.cut.mn = (q.mn : Int) := rfl
  have hq1 : q.cut.mx = (q.mx : Int) := rfl
  have hq2 : q.cut.wi = (q.wi : Int) := rfl
  have hq3 : q.cut.bi = (q.bi : Int) := rfl
  have hv1 := q.h1
  have hv2 := q.h2
  have hv3 := q.h3
  have hv4 := q.h4
  have hv5 := q.h5
  have hv6 := q.h6
  refine ret_of Tryd.func18 rfl rfl ?_
  refine w_seq ?_
  refine w_region ?_
  refine st rfl rfl rfl (ex_box (cs := q.cut.cells) rfl rfl rfl) ?_
  rintro _ w1 ⟨b, rfl, hb0, E0, hb, hs0⟩
  replace K0 := K0.ext E0
  refine sv rfl rfl rfl (ex_assign rfl rfl) ?_
  refine w_nil (qe_next ?_)
  refine w_seq ?_
  refine w_region ?_
  have hsz0 := K0.size
  refine st rfl rfl rfl (ex_buildSlice (cs := []) rfl rfl build_bs0) ?_
  rintro _ w2 ⟨g0, rfl, hg0, E1, hb1, hs1⟩
  replace K0 := K0.ext E1
  replace hb := hb.ext E1
  have hout := Own.of_blk (lo := w.heap.size) (n := 0) (c := 0) (size := 1) hb1 (by omega) (by omega) (by decide) (by simp)
  have hsz1 := K0.size
  refine sv rfl rfl rfl (ex_assign rfl rfl) ?_
  refine w_nil (qe_next ?_)
  refine w_seq ?_
  refine w_region ?_
  refine sv rfl rfl rfl (ex_assign rfl rfl) ?_
  refine w_nil (qe_next ?_)
  refine w_seq ?_
  refine w_region ?_
  refine sv rfl rfl rfl (ex_load_agg (cs := q.cut.cells) agg24 rfl rfl (by intro j u hu; rw [Nat.zero_add]; exact hb.cell hu)) ?_
  refine sv rfl rfl rfl (ex_move rfl rfl) ?_
  refine st rfl rfl rfl (ex_call call30 rfl rfl (refCuts_c q A c lo hi bs _ (hr.ext K0) hmc hlen)) ?_
  rintro _ w3 ⟨P, dP, rfl, hp, E2⟩
  replace K0 := K0.ext E2
  replace hb := hb.ext E2
  replace hout := hout.ext E2
  replace hp := hp.lower (lo' := w.heap.size) hsz1
  have hinc := ecuts_inc q bs bs.length
  have hys := hinc.length
  refine sv rfl rfl rfl (ex_assign rfl rfl) ?_
  refine w_nil (qe_next ?_)
  refine w_seq ?_
  refine w_seq ?_
  refine w_region ?_
  refine sv rfl rfl rfl (ex_assign rfl rfl) ?_
  refine w_nil (qe_next ?_)
  refine w_block ?_
  refine w_loop (ι := Nat × Nat × Option Addr × Nat) (fun i => [(1, .slice A bs.length c), (5, .slice i.2.2.1 i.1 i.2.2.2), (6, .int .i64 (i.2.1 : Int)), (7, .slice P (ecuts q bs bs.length).1.length dP), (8, .int .i64 (i.1 : Int))]) (fun i w1 => i.1 ≤ (ecuts q bs bs.length).1.length ∧ i.2.1 = lastD 0 ((ecuts q bs bs.length).1.take i.1) ∧ (∃ sl, Own w1 w.heap.size 25 1 i.2.2.1 i.1 i.2.2.2 (sl.map slv) ∧ Owns w1 w.heap.size sl (pieces bs 0 ((ecuts q bs bs.length).1.take i.1))) ∧ Own w1 w.heap.size 3 1 P (ecuts q bs bs.length).1.length dP ((ecuts q bs bs.length |>.1).map fun x : Nat => Value.int .i64 (x : Int)) ∧ Ext w w1) (fun i => (ecuts q bs bs.length).1.length - i.1) ((0, 0, _, _)) ⟨rfl, rfl, rfl, rfl, rfl, trivial⟩ ?_ ?_
  · exact ⟨Nat.zero_le _, rfl, ⟨[], hout, by rw [List.take_zero]; trivial⟩, hp, K0⟩
  · clear hout hp K0
    rintro ⟨k, fr, B, d⟩ w1 ⟨hk, hfr, ⟨sl, hout, hso⟩, hp, K0⟩
    simp only at hk hfr hout hso
    have hsl := hso.length
    rw [pieces_length, List.length_take] at hsl
    refine w_seq ?_
    refine w_seq ?_
    refine w_region ?_
    refine sv rfl rfl rfl (ex_move rfl rfl) ?_
    refine sv rfl rfl rfl (ex_move rfl rfl) ?_
    refine sv rfl rfl rfl (ex_len Tryd.underlying35 rfl rfl) ?_
    refine sv rfl rfl rfl (ex_cmp rfl rfl rfl rfl) ?_
    refine w_nil (qe_next ?_)
    refine w_if rfl (fun hk2 => ?_) (fun hk2 => ?_)
    · skip
      replace hk2 : k < (ecuts q bs bs.length).1.length := by simp only at hk2; omega
      obtain ⟨x, hx⟩ : ∃ x, (ecuts q bs bs.length).1[k]? = some x := ⟨_, List.getElem?_eq_getElem hk2⟩
      have htk : (ecuts q bs bs.length).1.take (k + 1) = (ecuts q bs bs.length).1.take k ++ [x] := by rw [List.take_add_one, hx]; rfl
      obtain ⟨hfx, hxn⟩ := hinc.at_ (pre := (ecuts q bs bs.length).1.take k) (x := x) (by rw [← htk]; exact List.take_prefix _ _)
      rw [← hfr] at hfx
      obtain ⟨bb, oo, u, rfl, _, _, hu, hcell⟩ := hp.rd.at_ hk2
      rw [List.getElem?_map, hx] at hu
      cases hu
      have hcut := (hr.ext K0).cut (l := fr) (hh := x) (m := c) (by omega) hxn hmc
      rw [show List.take ((x - fr) * 1) (List.drop (fr * 1) (bcells bs)) = bcells ((bs.drop fr).take (x - fr)) from by simp [bcells]] at hcut
      have hso1 := hso.lt
      have hsa := K0.size
      refine w_skip (qe_next ?_)
      refine w_seq ?_
      refine w_block ?_
      refine w_seq ?_
      refine w_region ?_
      refine sv rfl rfl rfl (ex_move rfl rfl) ?_
      refine st rfl rfl rfl (ex_buildSlice (cs := []) rfl rfl build_none) ?_
      rintro _ w4 ⟨g2, rfl, hg2, E5, hb5, hs5⟩
      replace hout := hout.ext E5
      replace hso := hso.ext E5
      replace hp := hp.ext E5
      replace K0 := K0.ext E5
      replace hcut := hcut.ext E5
      have hcell2 := E5.cell trivial hcell
      have hsb := K0.size
      have hy0 := Own.of_blk (lo := w.heap.size) (n := 0) (c := 0) (size := 1) hb5 (by omega) (by omega) (by decide) (by simp)
      refine sv rfl rfl rfl (ex_move rfl rfl) ?_
      refine sv rfl rfl rfl (ex_move rfl rfl) ?_
      refine sv rfl rfl rfl (ex_move rfl rfl) ?_
      refine sv rfl rfl rfl (ex_move rfl rfl) ?_
      refine sv rfl rfl rfl (ex_index Tryd.underlying35 sz3 k rfl rfl rfl rfl (by omega)) ?_
      refine sv rfl rfl rfl (ex_load one3 rfl rfl hcell2) ?_
      refine sv rfl rfl rfl (ex_slice Tryd.underlying25 sz5 fr x rfl rfl (.inr ⟨_, _, _, rfl, rfl, rfl⟩) (.inr ⟨_, _, _, rfl, rfl, rfl⟩) (by omega) (by omega)) ?_
      refine st rfl rfl rfl (ex_append Tryd.underlying25 z5.1 rfl (by decide) rfl rfl rfl hy0 hcut (bcells_one _) (by first | omega | (simp only; omega)) (by first | omega | (simp only; omega)) (by omega)) ?_
      rintro _ w5 ⟨Y, dY, rfl, hy, KA, hYA⟩
      replace hso := Owns.keepS KA hso (fun s hs g o e o' e' => by have := (hso1 s hs g o e).2; injection e' with e'; injection e' with e'; omega)
      replace hout := hout.keepT KA (fun g cs _ hg o e => hy0.ne_blk hg (by decide) g o e rfl)
      replace hp := hp.keepT KA (fun g cs _ hg o e => hy0.ne_blk hg (by decide) g o e rfl)
      replace K0 := K0.trans KA (fun j hj _ => hy0.fresh hj)
      have hsc := K0.size
      rw [show List.take (0 * 1) ([] : List Value) ++ bcells ((bs.drop fr).take (x - fr)) = bcells ((bs.drop fr).take (x - fr)) from by simp] at hy
      refine st rfl rfl rfl (ex_buildSlice (cs := [slv (Y, 0 + (x - fr), dY)]) rfl rfl (build_bs1 (Y, 0 + (x - fr), dY))) ?_
      rintro _ w6 ⟨g3, rfl, hg3, E6, hb6, hs6⟩
      replace hout := hout.ext E6
      replace hso := hso.ext E6
      replace hp := hp.ext E6
      replace K0 := K0.ext E6
      replace hy := hy.ext E6
      have hsd := K0.size
      refine st rfl rfl rfl (ex_append Tryd.underlying32 z25.1 rfl (by decide) rfl rfl rfl hout (Rd.of_blk (size := 1) hb6 rfl) (by simp [slv, Value.oneCell']) (by first | omega | (simp only; omega)) (by first | omega | (simp only; omega)) (by omega)) ?_
      rintro _ w7 ⟨B1, d1, rfl, hout1, KB, hB1⟩
      replace hso := hso.keepB KB (fun g cs _ hg o e => hout.ne_blk hg (by decide) g o e rfl)
      replace hy := hy.keepT KB (fun g cs _ hg o e => hout.ne_blk hg (by decide) g o e rfl)
      replace hp := hp.keepT KB (fun g cs _ hg o e => hout.ne_blk hg (by decide) g o e rfl)
      replace K0 := K0.trans KB (fun j hj _ => hout.fresh hj)
      obtain ⟨b3, o3, u3, he3, _, _, hu3, hcell3⟩ := hp.rd.at_ hk2
      cases he3
      rw [List.getElem?_map, hx] at hu3
      cases hu3
      refine sv rfl rfl rfl (ex_assign rfl rfl) ?_
      refine w_nil (qe_next ?_)
      refine w_region ?_
      refine sv rfl rfl rfl (ex_move rfl rfl) ?_
      refine sv rfl rfl rfl (ex_move rfl rfl) ?_
      refine sv rfl rfl rfl (ex_index Tryd.underlying35 sz3 k rfl rfl rfl rfl (by omega)) ?_
      refine sv rfl rfl rfl (ex_load one3 rfl rfl hcell3) ?_
      refine sv rfl rfl rfl (ex_assign rfl rfl) ?_
      refine w_nil (qe_in_normal (qe_next ?_))
      refine w_region ?_
      refine sv rfl rfl rfl (ex_move rfl rfl) ?_
      refine sv rfl rfl rfl (ex_add rfl rfl rfl (i64_in (by omega) (by omega))) ?_
      refine sv rfl rfl rfl (ex_assign rfl rfl) ?_
      refine w_nil (qe_round ((k + 1, x, B1, d1)) ⟨rfl, rfl, rfl, rfl, rfl, trivial⟩ ?_ ?_)
      · exact ⟨by simp only; omega, by simp only; rw [htk, lastD_snoc], ⟨sl ++ [(Y, 0 + (x - fr), dY)], by simp only; rw [List.map_append]; exact hout1, by simp only; rw [htk, pieces_snoc, ← hfr]; exact hso.snoc (by simp; omega) hy⟩, hp, K0⟩
      · simp only; omega
    · skip
      replace hk2 : k = (ecuts q bs bs.length).1.length := by simp only at hk2; omega
      subst hk2
      rw [List.take_length] at hso
      refine w_exit (qe_then_exit (qe_then_exit (qe_in_exit (qe_next ?_))))
      refine w_seq ?_
      refine w_region ?_
      refine sv rfl rfl rfl (ex_move rfl rfl) ?_
      refine sv rfl rfl rfl (ex_assign rfl rfl) ?_
      refine w_nil (qe_next ?_)
      refine w_ret (qe_ret1 rfl rfl ?_)
      exact ⟨B, d, sl, rfl, hout, hso, K0⟩

/-- kinkeep/kinkeepref04.Same -/
theorem same_c (A B : Option Addr) (m n c d lo hi lo2 hi2 : Nat) (sl sl2 : List Sl) (xs : List (List UInt8)) (w : World) (hm : m = sl.length) (hn : n = sl2.length) (hl : xs.length ≤ 1000000) (hr : Rd w lo hi 1 A m (sl.map slv)) (hr2 : Rd w lo2 hi2 1 B n (sl2.map slv)) (h1 : Rds w sl xs) (h2 : Rds w sl2 xs) :
    Ret Tryd.prog 28 [.slice A m c, .slice B n d] w fun v w' => v = .bool true ∧ Ext w w' := by
  have K0 : Ext w w := Keep.refl _ _
  have hl1 := h1.1
  have hl2 := h2.1
  refine ret_of Tryd.func28 rfl rfl ?_
  refine w_seq ?_
  refine w_region ?_
  refine sv rfl rfl rfl (ex_assign rfl rfl) ?_
  refine w_nil (qe_next ?_)
  refine w_seq ?_
  refine w_seq ?_
  refine w_region ?_
  refine sv rfl rfl rfl (ex_move rfl rfl) ?_
  refine sv rfl rfl rfl (ex_len Tryd.underlying32 rfl rfl) ?_
  refine sv rfl rfl rfl (ex_move rfl rfl) ?_
  refine sv rfl rfl rfl (ex_len Tryd.underlying32 rfl rfl) ?_
  refine sv rfl rfl rfl (ex_cmp rfl rfl rfl (congrArg some (decide_eq_false (by omega)))) ?_
  refine w_nil (qe_next ?_)
  refine w_cond_f rfl ?_
  refine w_skip (qe_next ?_)
  refine w_seq ?_
  refine w_seq ?_
  refine w_region ?_
  refine sv rfl rfl rfl (ex_assign rfl rfl) ?_
  refine w_nil (qe_next ?_)
  refine w_block ?_
  refine w_loop (ι := Nat) (fun k => [(0, .slice A m c), (1, .slice B n d), (5, .int .i64 (k : Int))]) (fun k w1 => k ≤ m ∧ Ext w w1) (fun k => m - k) (0) ⟨rfl, rfl, rfl, trivial⟩ ?_ ?_
  · exact ⟨Nat.zero_le _, K0⟩
  · clear K0
    rintro k w1 ⟨hk, K0⟩
    refine w_seq ?_
    refine w_seq ?_
    refine w_region ?_
    refine sv rfl rfl rfl (ex_move rfl rfl) ?_
    refine sv rfl rfl rfl (ex_move rfl rfl) ?_
    refine sv rfl rfl rfl (ex_len Tryd.underlying32 rfl rfl) ?_
    refine sv rfl rfl rfl (ex_cmp rfl rfl rfl rfl) ?_
    refine w_nil (qe_next ?_)
    refine w_if rfl (fun hk2 => ?_) (fun hk2 => ?_)
    · skip
      replace hk2 : k < m := by omega
      refine w_skip (qe_next ?_)
      refine w_seq ?_
      refine w_block ?_
      refine w_seq ?_
      refine w_draw mixed (fun w1 _ Ew1 => ?_)
      replace K0 := K0.ext Ew1
      obtain ⟨b1, o1, u1, rfl, _, _, hu1, hc1⟩ := (hr.ext K0).at_ (k := k) (by omega)
      rw [List.getElem?_map] at hu1
      obtain ⟨s1, hs1, rfl⟩ := Option.map_eq_some_iff.1 hu1
      obtain ⟨y1, hy1, hl1, _, _, hd1⟩ := (h1.ext K0).2 _ _ hs1
      obtain ⟨b2, o2, u2, rfl, _, _, hu2, hc2⟩ := (hr2.ext K0).at_ (k := k) (by omega)
      rw [List.getElem?_map] at hu2
      obtain ⟨s2, hs2, rfl⟩ := Option.map_eq_some_iff.1 hu2
      obtain ⟨y2, hy2, hl2, _, _, hd2⟩ := (h2.ext K0).2 _ _ hs2
      rw [hy1] at hy2
      cases hy2
      refine wd_free 10 _ rfl rfl rfl rfl ?_
      refine fd [] rfl rfl rfl rfl rfl rfl rfl (fun w' E => ex_move rfl rfl) ?_
      refine fd [] rfl rfl rfl rfl rfl rfl rfl (fun w' E => ex_move rfl rfl) ?_
      refine fd [0, 1] rfl rfl rfl rfl rfl rfl rfl (fun w' E => ex_index Tryd.underlying32 sz25 k rfl rfl rfl rfl (by omega)) ?_
      refine fd [2] rfl rfl rfl rfl rfl rfl rfl (fun w' E => ex_load (v := .slice s1.1 s1.2.1 s1.2.2) one25 rfl rfl (E.cell trivial hc1)) ?_
      refine fd [3] rfl rfl rfl rfl rfl rfl rfl (fun w' E => ex_strm hl1 Tryd.underlying25 Tryd.underlying5 Tryd.underlying9 rfl rfl (hd1.ext E)) ?_
      refine fd [] rfl rfl rfl rfl rfl rfl rfl (fun w' E => ex_move rfl rfl) ?_
      refine fd [] rfl rfl rfl rfl rfl rfl rfl (fun w' E => ex_move rfl rfl) ?_
      refine fd [5, 6] rfl rfl rfl rfl rfl rfl rfl (fun w' E => ex_index Tryd.underlying32 sz25 k rfl rfl rfl rfl (by omega)) ?_
      refine fd [7] rfl rfl rfl rfl rfl rfl rfl (fun w' E => ex_load (v := .slice s2.1 s2.2.1 s2.2.2) one25 rfl rfl (E.cell trivial hc2)) ?_
      refine fd [8] rfl rfl rfl rfl rfl rfl rfl (fun w' E => ex_strm hl2 Tryd.underlying25 Tryd.underlying5 Tryd.underlying9 rfl rfl (hd2.ext E)) ?_
      refine .nil (fun w2 Ew2 _ => ?_)
      replace K0 := K0.ext Ew2
      refine wd_v rfl rfl (by kernel_rfl) rfl rfl rfl (ex_strne rfl rfl rfl) ?_
      refine wd_nil (by decide) rfl ?_
      refine qe_next ?_
      refine w_if rfl (fun hne => ?_) (fun hne => ?_)
      · skip
        refine w_seq ?_
        refine w_region ?_
        refine sv rfl rfl rfl (ex_assign rfl rfl) ?_
        refine w_nil (qe_next ?_)
        refine w_ret (qe_in_ret (qe_then_ret (qe_then_ret (qe_in_ret (qe_then_ret (qe_ret1 rfl rfl ?_))))))
        exact absurd rfl hne
      · skip
        refine w_skip (qe_in_normal (qe_next ?_))
        refine w_region ?_
        refine sv rfl rfl rfl (ex_move rfl rfl) ?_
        refine sv rfl rfl rfl (ex_add rfl rfl rfl (i64_in (by omega) (by omega))) ?_
        refine sv rfl rfl rfl (ex_assign rfl rfl) ?_
        refine w_nil (qe_round (k + 1) ⟨rfl, rfl, rfl, trivial⟩ ?_ ?_)
        · exact ⟨by omega, K0⟩
        · omega
    · skip
      refine w_exit (qe_then_exit (qe_then_exit (qe_in_exit (qe_next ?_))))
      refine w_seq ?_
      refine w_region ?_
      refine sv rfl rfl rfl (ex_assign rfl rfl) ?_
      refine w_nil (qe_next ?_)
      refine w_ret (qe_ret1 rfl rfl ?_)
      exact ⟨rfl, K0⟩

/-- bytes.Equal -/
theorem equal_c (A B : Option Addr) (m n c d lo hi lo2 hi2 : Nat) (xs ys : List UInt8) (w : World) (hm : m = xs.length) (hn : n = ys.length) (hr : Rd w lo hi 1 A m (bcells xs)) (hr2 : Rd w lo2 hi2 1 B n (bcells ys)) :
    Ret Tryd.prog 34 [.slice A m c, .slice B n d] w fun v w' => Dv (.bool (decide (xs = ys))) w v w' := by
  refine ret_of Tryd.func34 rfl rfl ?_
  refine w_seq ?_
  refine w_region ?_
  refine sv rfl rfl rfl (ex_assign rfl rfl) ?_
  refine w_nil (qe_next ?_)
  refine w_seq ?_
  refine w_region ?_
  refine sv rfl rfl rfl (ex_move rfl rfl) ?_
  refine sv rfl rfl rfl (ex_strm hm Tryd.underlying25 Tryd.underlying5 Tryd.underlying9 rfl rfl hr) ?_
  refine sv rfl rfl rfl (ex_move rfl rfl) ?_
  refine sv rfl rfl rfl (ex_strm hn Tryd.underlying25 Tryd.underlying5 Tryd.underlying9 rfl rfl hr2) ?_
  refine sv rfl rfl rfl (ex_streq rfl rfl rfl) ?_
  refine sv rfl rfl rfl (ex_assign rfl rfl) ?_
  refine w_nil (qe_next ?_)
  refine w_ret (qe_ret1 rfl rfl ?_)
  exact ⟨rfl, rfl⟩
end Go.Proofs.YtfgpcmphcnhbiaaDoor

/- Common. -/
import Derived.Test.YtfgpcmphcnhbiaaDoorP3
import Derived.Test.YtfgpcmphcnhbiaaDoorQ
namespace Go.Proofs.YtfgpcmphcnhbiaaDoor
open Go Go.RowKit
set_option linter.unusedVariables false
set_option linter.unusedSimpArgs false
/-- kinkeep/chunker.Split -/
theorem splitBad_c (c0 : Cut) (A : Option Addr) (n c : Nat) (w : World) (h : ¬ c0.ok) :
    Ret Tryd.prog 22 [c0.val, .slice A n c] w fun v w' => v = .tuple #[.slice none 0 0, .int .i64 1] ∧ Ext w w' := by
  have K0 : Ext w w := Keep.refl _ _
  refine ret_of Tryd.func22 rfl rfl ?_
  refine w_seq ?_
  refine w_region ?_
  refine st rfl rfl rfl (ex_box (cs := c0.cells) rfl rfl rfl) ?_
  rintro _ w1 ⟨b, rfl, hb0, E0, hb, hs0⟩
  replace K0 := K0.ext E0
  refine st rfl rfl rfl (ex_box (cs := [slv (A, n, c)]) rfl rfl rfl) ?_
  rintro _ w2 ⟨b3, rfl, h30, E3, h3, hs3⟩
  replace K0 := K0.ext E3
  replace hb := hb.ext E3
  refine sv rfl rfl rfl (ex_assign rfl rfl) ?_
  refine sv rfl rfl rfl (ex_assign rfl rfl) ?_
  refine w_nil (qe_next ?_)
  refine w_seq ?_
  refine w_seq ?_
  refine w_region ?_
  refine sv rfl rfl rfl (ex_load_agg (cs := c0.cells) agg24 rfl rfl (by intro j u hu; rw [Nat.zero_add]; exact hb.cell hu)) ?_
  refine sv rfl rfl rfl (ex_load (v := .slice A n c) one25 rfl rfl (h3.cell rfl)) ?_
  refine st rfl rfl rfl (ex_buildSlice (cs := [slv (A, n, c)]) rfl rfl (build_bs1 (A, n, c))) ?_
  rintro _ w3 ⟨g, rfl, hg0, E1, hb7, hs7⟩
  replace K0 := K0.ext E1
  replace hb := hb.ext E1
  replace h3 := h3.ext E1
  refine st rfl rfl rfl (ex_call call33 rfl rfl (checkedBad_c c0 _ 1 1 _ h)) ?_
  rintro _ w4 ⟨rfl, E2⟩
  replace K0 := K0.ext E2
  replace hb := hb.ext E2
  replace h3 := h3.ext E2
  refine sv rfl rfl rfl (ex_assign rfl rfl) ?_
  refine w_nil (qe_next ?_)
  refine w_seq ?_
  refine w_region ?_
  refine sv rfl rfl rfl (ex_move rfl rfl) ?_
  refine sv rfl rfl rfl (ex_cmp rfl rfl rfl (congrArg some (decide_eq_true (by omega)))) ?_
  refine w_nil (qe_next ?_)
  refine w_cond_t rfl ?_
  refine w_seq ?_
  refine w_region ?_
  refine sv rfl rfl rfl (ex_move rfl rfl) ?_
  refine sv rfl rfl rfl (ex_assign rfl rfl) ?_
  refine sv rfl rfl rfl (ex_assign rfl rfl) ?_
  refine w_nil (qe_next ?_)
  refine w_ret (qe_then_ret (qe_ret2 rfl rfl rfl ?_))
  exact ⟨rfl, K0⟩

/-- kinkeep/chunker.Common -/
theorem commonBad_c (c0 : Cut) (A1 : Option Addr) (n1 c1 : Nat) (A2 : Option Addr) (n2 c2 : Nat) (w : World) (h : ¬ c0.ok) :
    Ret Tryd.prog 17 [c0.val, .slice A1 n1 c1, .slice A2 n2 c2] w fun v w' => v = .tuple #[.int .i64 0, .int .i64 0, .int .i64 1] ∧ Ext w w' := by
  have K0 : Ext w w := Keep.refl _ _
  refine ret_of Tryd.func17 rfl rfl ?_
  refine w_seq ?_
  refine w_region ?_
  refine st rfl rfl rfl (ex_box (cs := c0.cells) rfl rfl rfl) ?_
  rintro _ w1 ⟨b, rfl, hb0, E0, hb, hs0⟩
  replace K0 := K0.ext E0
  refine sv rfl rfl rfl (ex_assign rfl rfl) ?_
  refine sv rfl rfl rfl (ex_assign rfl rfl) ?_
  refine sv rfl rfl rfl (ex_assign rfl rfl) ?_
  refine w_nil (qe_next ?_)
  refine w_seq ?_
  refine w_seq ?_
  refine w_region ?_
  refine sv rfl rfl rfl (ex_load_agg (cs := c0.cells) agg24 rfl rfl (by intro j u hu; rw [Nat.zero_add]; exact hb.cell hu)) ?_
  refine sv rfl rfl rfl (ex_move rfl rfl) ?_
  refine sv rfl rfl rfl (ex_move rfl rfl) ?_
  refine st rfl rfl rfl (ex_buildSlice (cs := [slv (A1, n1, c1), slv (A2, n2, c2)]) rfl rfl (build_bs2 (A1, n1, c1) (A2, n2, c2))) ?_
  rintro _ w2 ⟨g, rfl, hg0, E1, hb7, hs7⟩
  replace K0 := K0.ext E1
  replace hb := hb.ext E1
  refine st rfl rfl rfl (ex_call call33 rfl rfl (checkedBad_c c0 _ 2 2 _ h)) ?_
  rintro _ w3 ⟨rfl, E2⟩
  replace K0 := K0.ext E2
  replace hb := hb.ext E2
  refine sv rfl rfl rfl (ex_assign rfl rfl) ?_
  refine w_nil (qe_next ?_)
  refine w_seq ?_
  refine w_region ?_
  refine sv rfl rfl rfl (ex_move rfl rfl) ?_
  refine sv rfl rfl rfl (ex_cmp rfl rfl rfl (congrArg some (decide_eq_true (by omega)))) ?_
  refine w_nil (qe_next ?_)
  refine w_cond_t rfl ?_
  refine w_seq ?_
  refine w_region ?_
  refine sv rfl rfl rfl (ex_move rfl rfl) ?_
  refine sv rfl rfl rfl (ex_assign rfl rfl) ?_
  refine sv rfl rfl rfl (ex_assign rfl rfl) ?_
  refine sv rfl rfl rfl (ex_assign rfl rfl) ?_
  refine w_nil (qe_next ?_)
  refine w_ret (qe_then_ret (qe_ret3 rfl rfl rfl rfl ?_))
  exact ⟨rfl, K0⟩

theorem Sl.len_le {q : Vut} {bs : List UInt8} (h : bs.length ≤ 1000000) : (pieces bs 0 (ecuts q bs bs.length).1).length ≤ 1000000 := by
  rw [pieces_length]
  have := (ecuts_inc q bs bs.length).length
  omega

/-- kinkeep/chunker.Common -/
theorem common_c (q : Vut) (A1 : Option Addr) (c1 lo1 hi1 : Nat) (bs1 : List UInt8) (A2 : Option Addr) (c2 lo2 hi2 : Nat) (bs2 : List UInt8) (w : World) (hr1 : Rd w lo1 hi1 1 A1 bs1.length (bcells bs1)) (hhi1 : hi1 ≤ w.heap.size) (hmc1 : bs1.length ≤ c1) (hlen1 : bs1.length ≤ 1000000) (hr2 : Rd w lo2 hi2 1 A2 bs2.length (bcells bs2)) (hhi2 : hi2 ≤ w.heap.size) (hmc2 : bs2.length ≤ c2) (hlen2 : bs2.length ≤ 1000000) (hT : TabAt w) :
    Ret Tryd.prog 17 [q.cut.val, .slice A1 bs1.length c1, .slice A2 bs2.length c2] w fun v w' => ∃ n m : Nat, v = .tuple #[.int .i64 (n : Int), .int .i64 (m : Int), .int .i64 0] ∧ IsFront (pieces bs1 0 (ecuts q bs1 bs1.length).1) (pieces bs2 0 (ecuts q bs2 bs2.length).1) n ∧ IsBack (pieces bs1 0 (ecuts q bs1 bs1.length).1) (pieces bs2 0 (ecuts q bs2 bs2.length).1) n m ∧ Ext w w' := by
  have K0 : Ext w w := Keep.refl _ _
  have hq0 : q.cut.mn = (q.mn : Int) := rfl
  have hq1 : q.cut.mx = (q.mx : Int) := rfl
  have hq2 : q.cut.wi = (q.wi : Int) := rfl
  have hq3 : q.cut.bi = (q.bi : Int) := rfl
  have hv1 := q.h1
  have hv2 := q.h2
  have hv3 := q.h3
  have hv4 := q.h4
  have hv5 := q.h5
  have hv6 := q.h6
  refine ret_of Tryd.func17 rfl rfl ?_
  refine w_seq ?_
  refine w_region ?_
  refine st rfl rfl rfl (ex_box (cs := q.cut.cells) rfl rfl rfl) ?_
  rintro _ w1 ⟨b, rfl, hb0, E0, hb, hs0⟩
  replace K0 := K0.ext E0
  refine sv rfl rfl rfl (ex_assign rfl rfl) ?_
  refine sv rfl rfl rfl (ex_assign rfl rfl) ?_
  refine sv rfl rfl rfl (ex_assign rfl rfl) ?_
  refine w_nil (qe_next ?_)
  refine w_seq ?_
  refine w_seq ?_
  refine w_region ?_
  refine sv rfl rfl rfl (ex_load_agg (cs := q.cut.cells) agg24 rfl rfl (by intro j u hu; rw [Nat.zero_add]; exact hb.cell hu)) ?_
  refine sv rfl rfl rfl (ex_move rfl rfl) ?_
  refine sv rfl rfl rfl (ex_move rfl rfl) ?_
  refine st rfl rfl rfl (ex_buildSlice (cs := [slv (A1, bs1.length, c1), slv (A2, bs2.length, c2)]) rfl rfl (build_bs2 (A1, bs1.length, c1) (A2, bs2.length, c2))) ?_
  rintro _ w2 ⟨g, rfl, hg0, E1, hb7, hs7⟩
  replace K0 := K0.ext E1
  replace hb := hb.ext E1
  refine st rfl rfl rfl (ex_call call33 rfl rfl (checked_c q.cut _ 2 2 _ _ [(A1, bs1.length, c1), (A2, bs2.length, c2)] _ rfl (by omega) (Rd.of_blk (size := 1) hb7 rfl) (by intro x hx; simp at hx; rcases hx with rfl | rfl <;> simp only <;> omega) q.ok)) ?_
  rintro _ w3 ⟨rfl, E2⟩
  replace K0 := K0.ext E2
  replace hb := hb.ext E2
  refine sv rfl rfl rfl (ex_assign rfl rfl) ?_
  refine w_nil (qe_next ?_)
  refine w_seq ?_
  refine w_region ?_
  refine sv rfl rfl rfl (ex_move rfl rfl) ?_
  refine sv rfl rfl rfl (ex_cmp rfl rfl rfl (congrArg some (decide_eq_false (not_not_intro rfl)))) ?_
  refine w_nil (qe_next ?_)
  refine w_cond_f rfl ?_
  refine w_skip (qe_next ?_)
  refine w_seq ?_
  refine w_region ?_
  refine sv rfl rfl rfl (ex_load_agg (cs := q.cut.cells) agg24 rfl rfl (by intro j u hu; rw [Nat.zero_add]; exact hb.cell hu)) ?_
  refine sv rfl rfl rfl (ex_move rfl rfl) ?_
  have hsz1 := K0.size
  refine st rfl rfl rfl (ex_call call22 rfl rfl (split_c q A1 c1 lo1 hi1 bs1 _ (hr1.ext K0) (by omega) (hT.ext K0) (by omega) hmc1)) ?_
  rintro _ w4 ⟨X, dX, sl1, rfl, hx, hxo, E4⟩
  replace K0 := K0.ext E4
  replace hb := hb.ext E4
  refine sv rfl rfl rfl (ex_move rfl rfl) ?_
  refine sv rfl rfl rfl (ex_extract rfl rfl rfl) ?_
  refine sv rfl rfl rfl (ex_extract rfl rfl rfl) ?_
  refine sv rfl rfl rfl (ex_assign rfl rfl) ?_
  refine sv rfl rfl rfl (ex_assign rfl rfl) ?_
  refine w_nil (qe_next ?_)
  refine w_seq ?_
  refine w_region ?_
  refine sv rfl rfl rfl (ex_load_agg (cs := q.cut.cells) agg24 rfl rfl (by intro j u hu; rw [Nat.zero_add]; exact hb.cell hu)) ?_
  refine sv rfl rfl rfl (ex_move rfl rfl) ?_
  have hsz2 := K0.size
  refine st rfl rfl rfl (ex_call call22 rfl rfl (split_c q A2 c2 lo2 hi2 bs2 _ (hr2.ext K0) (by omega) (hT.ext K0) (by omega) hmc2)) ?_
  rintro _ w5 ⟨Y, dY, sl2, rfl, hy, hyo, E5⟩
  replace K0 := K0.ext E5
  replace hb := hb.ext E5
  replace hx := hx.ext E5
  replace hxo := hxo.ext E5
  replace hx := hx.lower hsz1
  replace hxo := hxo.lower hsz1
  replace hy := hy.lower hsz2
  replace hyo := hyo.lower hsz2
  have hL1 := Sl.len_le (q := q) hlen1
  have hL2 := Sl.len_le (q := q) hlen2
  have hM1 := pieces_length bs1 (ecuts q bs1 bs1.length).1 0
  have hM2 := pieces_length bs2 (ecuts q bs2 bs2.length).1 0
  refine sv rfl rfl rfl (ex_move rfl rfl) ?_
  refine sv rfl rfl rfl (ex_extract rfl rfl rfl) ?_
  refine sv rfl rfl rfl (ex_extract rfl rfl rfl) ?_
  refine sv rfl rfl rfl (ex_assign rfl rfl) ?_
  refine sv rfl rfl rfl (ex_assign rfl rfl) ?_
  refine w_nil (qe_next ?_)
  refine w_seq ?_
  refine w_region ?_
  refine sv rfl rfl rfl (ex_assign rfl rfl) ?_
  refine w_nil (qe_next ?_)
  refine w_cut (ι := Nat) (fun f => [(10, .slice X (ecuts q bs1 bs1.length).1.length dX), (12, .slice Y (ecuts q bs2 bs2.length).1.length dY), (14, .int .i64 (f : Int))]) (fun f w1 => IsFront (pieces bs1 0 (ecuts q bs1 bs1.length).1) (pieces bs2 0 (ecuts q bs2 bs2.length).1) f ∧ Own w1 w.heap.size 25 1 X (ecuts q bs1 bs1.length).1.length dX (sl1.map slv) ∧ Owns w1 w.heap.size sl1 (pieces bs1 0 (ecuts q bs1 bs1.length).1) ∧ Own w1 w.heap.size 25 1 Y (ecuts q bs2 bs2.length).1.length dY (sl2.map slv) ∧ Owns w1 w.heap.size sl2 (pieces bs2 0 (ecuts q bs2 bs2.length).1) ∧ Ext w w1) ?_ ?_
  · skip
    refine w_block ?_
    refine w_loop (ι := Nat) (fun k => [(10, .slice X (ecuts q bs1 bs1.length).1.length dX), (12, .slice Y (ecuts q bs2 bs2.length).1.length dY), (14, .int .i64 (k : Int))]) (fun k w1 => k ≤ (pieces bs1 0 (ecuts q bs1 bs1.length).1).length ∧ k ≤ (pieces bs2 0 (ecuts q bs2 bs2.length).1).length ∧ (∀ j, j < k → (pieces bs1 0 (ecuts q bs1 bs1.length).1)[j]? = (pieces bs2 0 (ecuts q bs2 bs2.length).1)[j]?) ∧ Own w1 w.heap.size 25 1 X (ecuts q bs1 bs1.length).1.length dX (sl1.map slv) ∧ Owns w1 w.heap.size sl1 (pieces bs1 0 (ecuts q bs1 bs1.length).1) ∧ Own w1 w.heap.size 25 1 Y (ecuts q bs2 bs2.length).1.length dY (sl2.map slv) ∧ Owns w1 w.heap.size sl2 (pieces bs2 0 (ecuts q bs2 bs2.length).1) ∧ Ext w w1) (fun k => (pieces bs1 0 (ecuts q bs1 bs1.length).1).length - k) (0) ⟨rfl, rfl, rfl, trivial⟩ ?_ ?_
    · exact ⟨Nat.zero_le _, Nat.zero_le _, fun j hj => by omega, hx, hxo, hy, hyo, K0⟩
    · clear hx hxo hy hyo K0
      rintro k w1 ⟨hk1, hk2, hpre, hx, hxo, hy, hyo, K0⟩
      refine w_seq ?_
      refine w_seq ?_
      refine w_draw mixed (fun w6 _ Ew6 => ?_)
      replace hx := hx.ext Ew6
      replace hxo := hxo.ext Ew6
      replace hy := hy.ext Ew6
      replace hyo := hyo.ext Ew6
      replace K0 := K0.ext Ew6
      refine wd_free 3 _ rfl rfl rfl rfl ?_
      refine fd [] rfl rfl rfl rfl rfl rfl rfl (fun w' E => ex_move rfl rfl) ?_
      refine fd [] rfl rfl rfl rfl rfl rfl rfl (fun w' E => ex_move rfl rfl) ?_
      refine fd [1] rfl rfl rfl rfl rfl rfl rfl (fun w' E => ex_len Tryd.underlying32 rfl rfl) ?_
      refine .nil (fun w7 Ew7 _ => ?_)
      replace hx := hx.ext Ew7
      replace hxo := hxo.ext Ew7
      replace hy := hy.ext Ew7
      replace hyo := hyo.ext Ew7
      replace K0 := K0.ext Ew7
      refine wd_if rfl rfl (by kernel_rfl) rfl rfl rfl (ex_cmp rfl rfl rfl rfl) (fun h1 => ?_) (fun h1 => ?_)
      · skip
        replace h1 : k < (ecuts q bs1 bs1.length).1.length := by omega
        refine wd_v rfl rfl (by kernel_rfl) rfl rfl rfl (ex_move rfl rfl) ?_
        refine wd_free 3 _ rfl rfl rfl rfl ?_
        first | refine fsk [] rfl rfl rfl rfl rfl rfl rfl ?_ | refine fd [] rfl rfl rfl rfl rfl rfl rfl (fun w' E => ex_move rfl rfl) ?_
        first | refine fsk [] rfl rfl rfl rfl rfl rfl rfl ?_ | refine fd [] rfl rfl rfl rfl rfl rfl rfl (fun w' E => ex_move rfl rfl) ?_
        first | refine fsk [6] rfl rfl rfl rfl rfl rfl rfl ?_ | refine fd [6] rfl rfl rfl rfl rfl rfl rfl (fun w' E => ex_len Tryd.underlying32 rfl rfl) ?_
        refine .nil (fun w8 Ew8 _ => ?_)
        replace hx := hx.ext Ew8
        replace hxo := hxo.ext Ew8
        replace hy := hy.ext Ew8
        replace hyo := hyo.ext Ew8
        replace K0 := K0.ext Ew8
        refine wd_if rfl rfl (by kernel_rfl) rfl rfl rfl (ex_cmp rfl rfl rfl rfl) (fun h2 => ?_) (fun h2 => ?_)
        · skip
          replace h2 : k < (ecuts q bs2 bs2.length).1.length := by omega
          first | refine wd_v rfl rfl (by kernel_rfl) rfl rfl rfl (ex_pick_t rfl rfl rfl) ?_ | refine wd_v rfl rfl (by kernel_rfl) rfl rfl rfl (ex_pick_f rfl rfl rfl) ?_
          refine wd_v rfl rfl (by kernel_rfl) rfl rfl rfl (ex_move rfl rfl) ?_
          obtain ⟨b1, o1, u1, rfl, _, _, hu1, hc1⟩ := hx.rd.at_ (k := k) (by omega)
          rw [List.getElem?_map] at hu1
          obtain ⟨s1, hs1, rfl⟩ := Option.map_eq_some_iff.1 hu1
          obtain ⟨y1, hy1, hl1, hd1⟩ := hxo.get hs1
          obtain ⟨b2, o2, u2, rfl, _, _, hu2, hc2⟩ := hy.rd.at_ (k := k) (by omega)
          rw [List.getElem?_map] at hu2
          obtain ⟨s2, hs2, rfl⟩ := Option.map_eq_some_iff.1 hu2
          obtain ⟨y2, hy2, hl2, hd2⟩ := hyo.get hs2
          refine wd_free 8 _ rfl rfl rfl rfl ?_
          first | refine fsk [] rfl rfl rfl rfl rfl rfl rfl ?_ | refine fd [] rfl rfl rfl rfl rfl rfl rfl (fun w' E => ex_move rfl rfl) ?_
          first | refine fsk [] rfl rfl rfl rfl rfl rfl rfl ?_ | refine fd [] rfl rfl rfl rfl rfl rfl rfl (fun w' E => ex_move rfl rfl) ?_
          first | refine fsk [11, 12] rfl rfl rfl rfl rfl rfl rfl ?_ | refine fd [11, 12] rfl rfl rfl rfl rfl rfl rfl (fun w' E => ex_index Tryd.underlying32 sz25 k rfl rfl rfl rfl (by omega)) ?_
          first | refine fsk [13] rfl rfl rfl rfl rfl rfl rfl ?_ | refine fd [13] rfl rfl rfl rfl rfl rfl rfl (fun w' E => ex_load (v := .slice s1.1 s1.2.1 s1.2.2) one25 rfl rfl (E.cell trivial hc1)) ?_
          first | refine fsk [] rfl rfl rfl rfl rfl rfl rfl ?_ | refine fd [] rfl rfl rfl rfl rfl rfl rfl (fun w' E => ex_move rfl rfl) ?_
          first | refine fsk [] rfl rfl rfl rfl rfl rfl rfl ?_ | refine fd [] rfl rfl rfl rfl rfl rfl rfl (fun w' E => ex_move rfl rfl) ?_
          first | refine fsk [15, 16] rfl rfl rfl rfl rfl rfl rfl ?_ | refine fd [15, 16] rfl rfl rfl rfl rfl rfl rfl (fun w' E => ex_index Tryd.underlying32 sz25 k rfl rfl rfl rfl (by omega)) ?_
          first | refine fsk [17] rfl rfl rfl rfl rfl rfl rfl ?_ | refine fd [17] rfl rfl rfl rfl rfl rfl rfl (fun w' E => ex_load (v := .slice s2.1 s2.2.1 s2.2.2) one25 rfl rfl (E.cell trivial hc2)) ?_
          refine .nil (fun w9 Ew9 _ => ?_)
          replace hx := hx.ext Ew9
          replace hxo := hxo.ext Ew9
          replace hy := hy.ext Ew9
          replace hyo := hyo.ext Ew9
          replace K0 := K0.ext Ew9
          replace hd1 := hxo.get hs1
          obtain ⟨_, hz1, hl1, hd1⟩ := hd1
          rw [hy1] at hz1
          cases hz1
          obtain ⟨_, hz2, hl2, hd2⟩ := hyo.get hs2
          rw [hy2] at hz2
          cases hz2
          refine wd_one rfl rfl (by kernel_rfl) rfl rfl rfl (ex_call call34 rfl rfl (equal_c _ _ _ _ _ _ _ _ _ _ y1 y2 _ hl1 hl2 hd1.rd hd2.rd)) ?_
          rintro _ w10 ⟨rfl, hwe⟩
          obtain rfl := hwe.symm
          first | refine wd_v rfl rfl (by kernel_rfl) rfl rfl rfl (ex_pick_t rfl rfl rfl) ?_ | refine wd_v rfl rfl (by kernel_rfl) rfl rfl rfl (ex_pick_f rfl rfl rfl) ?_
          refine wd_nil (by decide) rfl ?_
          refine qe_next ?_
          refine w_if rfl (fun heq => ?_) (fun heq => ?_)
          · skip
            refine w_skip (qe_next ?_)
            refine w_block ?_
            refine w_region ?_
            refine sv rfl rfl rfl (ex_move rfl rfl) ?_
            refine sv rfl rfl rfl (ex_add rfl rfl rfl (i64_in (by omega) (by omega))) ?_
            refine sv rfl rfl rfl (ex_assign rfl rfl) ?_
            refine w_nil (qe_in_normal (qe_round (k + 1) ⟨rfl, rfl, rfl, trivial⟩ ?_ ?_))
            · exact ⟨by omega, by omega, (fun j hj => by
                by_cases e : j = k
                · subst e; rw [hy1, hy2, heq]
                · exact hpre j (by omega)), hx, hxo, hy, hyo, K0⟩
            · omega
          · skip
            refine w_exit (qe_then_exit (qe_then_exit (qe_in_exit (qe_meet (k) ⟨rfl, rfl, rfl, trivial⟩ ?_))))
            exact ⟨⟨by omega, by omega, hpre, fun hh => by have := hh.2.2; rw [hy1, hy2] at this; exact heq (Option.some.inj this)⟩, hx, hxo, hy, hyo, K0⟩
        · skip
          replace h2 : ¬ k < (ecuts q bs2 bs2.length).1.length := by omega
          first | refine wd_v rfl rfl (by kernel_rfl) rfl rfl rfl (ex_pick_t rfl rfl rfl) ?_ | refine wd_v rfl rfl (by kernel_rfl) rfl rfl rfl (ex_pick_f rfl rfl rfl) ?_
          refine wd_v rfl rfl (by kernel_rfl) rfl rfl rfl (ex_move rfl rfl) ?_
          refine wd_free 8 _ rfl rfl rfl rfl ?_
          first | refine fsk [] rfl rfl rfl rfl rfl rfl rfl ?_ | refine fd [] rfl rfl rfl rfl rfl rfl rfl (fun w' E => ex_move rfl rfl) ?_
          first | refine fsk [] rfl rfl rfl rfl rfl rfl rfl ?_ | refine fd [] rfl rfl rfl rfl rfl rfl rfl (fun w' E => ex_move rfl rfl) ?_
          refine fsk [11, 12] rfl rfl rfl rfl rfl rfl rfl ?_
          refine fsk [13] rfl rfl rfl rfl rfl rfl rfl ?_
          first | refine fsk [] rfl rfl rfl rfl rfl rfl rfl ?_ | refine fd [] rfl rfl rfl rfl rfl rfl rfl (fun w' E => ex_move rfl rfl) ?_
          first | refine fsk [] rfl rfl rfl rfl rfl rfl rfl ?_ | refine fd [] rfl rfl rfl rfl rfl rfl rfl (fun w' E => ex_move rfl rfl) ?_
          refine fsk [15, 16] rfl rfl rfl rfl rfl rfl rfl ?_
          refine fsk [17] rfl rfl rfl rfl rfl rfl rfl ?_
          refine .nil (fun w11 Ew11 _ => ?_)
          replace hx := hx.ext Ew11
          replace hxo := hxo.ext Ew11
          replace hy := hy.ext Ew11
          replace hyo := hyo.ext Ew11
          replace K0 := K0.ext Ew11
          refine wd_skip rfl rfl (by kernel_rfl) rfl rfl rfl ?_
          first | refine wd_v rfl rfl (by kernel_rfl) rfl rfl rfl (ex_pick_t rfl rfl rfl) ?_ | refine wd_v rfl rfl (by kernel_rfl) rfl rfl rfl (ex_pick_f rfl rfl rfl) ?_
          refine wd_nil (by decide) rfl ?_
          refine qe_next ?_
          refine w_cond_f rfl ?_
          refine w_exit (qe_then_exit (qe_then_exit (qe_in_exit (qe_meet (k) ⟨rfl, rfl, rfl, trivial⟩ ?_))))
          exact ⟨⟨by omega, by omega, hpre, fun hh => by have := hh.1; have := hh.2.1; omega⟩, hx, hxo, hy, hyo, K0⟩
      · skip
        replace h1 : ¬ k < (ecuts q bs1 bs1.length).1.length := by omega
        refine wd_v rfl rfl (by kernel_rfl) rfl rfl rfl (ex_move rfl rfl) ?_
        refine wd_free 3 _ rfl rfl rfl rfl ?_
        first | refine fsk [] rfl rfl rfl rfl rfl rfl rfl ?_ | refine fd [] rfl rfl rfl rfl rfl rfl rfl (fun w' E => ex_move rfl rfl) ?_
        first | refine fsk [] rfl rfl rfl rfl rfl rfl rfl ?_ | refine fd [] rfl rfl rfl rfl rfl rfl rfl (fun w' E => ex_move rfl rfl) ?_
        refine fsk [6] rfl rfl rfl rfl rfl rfl rfl ?_
        refine .nil (fun w12 Ew12 _ => ?_)
        replace hx := hx.ext Ew12
        replace hxo := hxo.ext Ew12
        replace hy := hy.ext Ew12
        replace hyo := hyo.ext Ew12
        replace K0 := K0.ext Ew12
        refine wd_skip rfl rfl (by kernel_rfl) rfl rfl rfl ?_
        first | refine wd_v rfl rfl (by kernel_rfl) rfl rfl rfl (ex_pick_t rfl rfl rfl) ?_ | refine wd_v rfl rfl (by kernel_rfl) rfl rfl rfl (ex_pick_f rfl rfl rfl) ?_
        refine wd_v rfl rfl (by kernel_rfl) rfl rfl rfl (ex_move rfl rfl) ?_
        refine wd_free 8 _ rfl rfl rfl rfl ?_
        first | refine fsk [] rfl rfl rfl rfl rfl rfl rfl ?_ | refine fd [] rfl rfl rfl rfl rfl rfl rfl (fun w' E => ex_move rfl rfl) ?_
        first | refine fsk [] rfl rfl rfl rfl rfl rfl rfl ?_ | refine fd [] rfl rfl rfl rfl rfl rfl rfl (fun w' E => ex_move rfl rfl) ?_
        refine fsk [11, 12] rfl rfl rfl rfl rfl rfl rfl ?_
        refine fsk [13] rfl rfl rfl rfl rfl rfl rfl ?_
        first | refine fsk [] rfl rfl rfl rfl rfl rfl rfl ?_ | refine fd [] rfl rfl rfl rfl rfl rfl rfl (fun w' E => ex_move rfl rfl) ?_
        first | refine fsk [] rfl rfl rfl rfl rfl rfl rfl ?_ | refine fd [] rfl rfl rfl rfl rfl rfl rfl (fun w' E => ex_move rfl rfl) ?_
        refine fsk [15, 16] rfl rfl rfl rfl rfl rfl rfl ?_
        refine fsk [17] rfl rfl rfl rfl rfl rfl rfl ?_
        refine .nil (fun w13 Ew13 _ => ?_)
        replace hx := hx.ext Ew13
        replace hxo := hxo.ext Ew13
        replace hy := hy.ext Ew13
        replace hyo := hyo.ext Ew13
        replace K0 := K0.ext Ew13
        refine wd_skip rfl rfl (by kernel_rfl) rfl rfl rfl ?_
        first | refine wd_v rfl rfl (by kernel_rfl) rfl rfl rfl (ex_pick_t rfl rfl rfl) ?_ | refine wd_v rfl rfl (by kernel_rfl) rfl rfl rfl (ex_pick_f rfl rfl rfl) ?_
        refine wd_nil (by decide) rfl ?_
        refine qe_next ?_
        refine w_cond_f rfl ?_
        refine w_exit (qe_then_exit (qe_then_exit (qe_in_exit (qe_meet (k) ⟨rfl, rfl, rfl, trivial⟩ ?_))))
        exact ⟨⟨by omega, by omega, hpre, fun hh => by have := hh.1; have := hh.2.1; omega⟩, hx, hxo, hy, hyo, K0⟩
  · clear hx hxo hy hyo K0
    rintro f w1 ⟨hF, hx, hxo, hy, hyo, K0⟩
    obtain ⟨hF1, hF2, _, _⟩ := id hF
    refine w_seq ?_
    refine w_draw mixed (fun w14 _ Ew14 => ?_)
    replace hx := hx.ext Ew14
    replace hxo := hxo.ext Ew14
    replace hy := hy.ext Ew14
    replace hyo := hyo.ext Ew14
    replace K0 := K0.ext Ew14
    refine wd_chain 7 _ (fun _ => True) (trivial) rfl rfl rfl rfl ?_
    refine cpur [10] [] rfl rfl rfl rfl rfl (fun w' hR => ex_move rfl rfl) ?_
    refine cpur [14] [] rfl rfl rfl rfl rfl (fun w' hR => ex_move rfl rfl) ?_
    refine cpur [] [0, 1] rfl rfl rfl rfl rfl (fun w' hR => ex_slice Tryd.underlying32 sz25 f (ecuts q bs1 bs1.length).1.length rfl rfl (.inr ⟨_, _, _, rfl, rfl, rfl⟩) (.inl ⟨rfl, rfl⟩) (by omega) (by have := hx.le; omega)) ?_
    refine cpur [12] [] rfl rfl rfl rfl rfl (fun w' hR => ex_move rfl rfl) ?_
    refine cpur [14] [] rfl rfl rfl rfl rfl (fun w' hR => ex_move rfl rfl) ?_
    refine cpur [] [3, 4] rfl rfl rfl rfl rfl (fun w' hR => ex_slice Tryd.underlying32 sz25 f (ecuts q bs2 bs2.length).1.length rfl rfl (.inr ⟨_, _, _, rfl, rfl, rfl⟩) (.inl ⟨rfl, rfl⟩) (by omega) (by have := hy.le; omega)) ?_
    refine cpur [] [2] rfl rfl rfl rfl rfl (fun w' hR => ex_assign rfl rfl) ?_
    refine .nil ⟨rfl, rfl, ?_⟩
    show Wd _ _ _ _ _ _ _ _
    refine wd_v rfl rfl (by kernel_rfl) rfl rfl rfl (ex_assign rfl rfl) ?_
    refine wd_nil (by decide) rfl ?_
    refine qe_next ?_
    refine w_seq ?_
    refine w_region ?_
    refine sv rfl rfl rfl (ex_assign rfl rfl) ?_
    refine w_nil (qe_next ?_)
    refine w_cut (ι := Nat) (fun m => [(14, .int .i64 (f : Int)), (15, .int .i64 (m : Int))]) (fun m w1 => IsBack (pieces bs1 0 (ecuts q bs1 bs1.length).1) (pieces bs2 0 (ecuts q bs2 bs2.length).1) f m ∧ Ext w w1) ?_ ?_
    · skip
      refine w_block ?_
      refine w_loop (ι := Nat) (fun k => [(10, .slice (if dX = f then X else X.map (·.add (f * 1))) ((ecuts q bs1 bs1.length).1.length - f) (dX - f)), (12, .slice (if dY = f then Y else Y.map (·.add (f * 1))) ((ecuts q bs2 bs2.length).1.length - f) (dY - f)), (14, .int .i64 (f : Int)), (15, .int .i64 (k : Int))]) (fun k w1 => f + k ≤ (pieces bs1 0 (ecuts q bs1 bs1.length).1).length ∧ f + k ≤ (pieces bs2 0 (ecuts q bs2 bs2.length).1).length ∧ (∀ j, j < k → (pieces bs1 0 (ecuts q bs1 bs1.length).1)[(pieces bs1 0 (ecuts q bs1 bs1.length).1).length - 1 - j]? = (pieces bs2 0 (ecuts q bs2 bs2.length).1)[(pieces bs2 0 (ecuts q bs2 bs2.length).1).length - 1 - j]?) ∧ Own w1 w.heap.size 25 1 X (ecuts q bs1 bs1.length).1.length dX (sl1.map slv) ∧ Owns w1 w.heap.size sl1 (pieces bs1 0 (ecuts q bs1 bs1.length).1) ∧ Own w1 w.heap.size 25 1 Y (ecuts q bs2 bs2.length).1.length dY (sl2.map slv) ∧ Owns w1 w.heap.size sl2 (pieces bs2 0 (ecuts q bs2 bs2.length).1) ∧ Ext w w1) (fun k => (pieces bs1 0 (ecuts q bs1 bs1.length).1).length - k) (0) ⟨rfl, rfl, rfl, rfl, trivial⟩ ?_ ?_
      · exact ⟨by omega, by omega, fun j hj => by omega, hx, hxo, hy, hyo, K0⟩
      · clear hx hxo hy hyo K0
        rintro k w1 ⟨hk1, hk2, hpre, hx, hxo, hy, hyo, K0⟩
        refine w_seq ?_
        refine w_seq ?_
        refine w_draw mixed (fun w15 _ Ew15 => ?_)
        replace hx := hx.ext Ew15
        replace hxo := hxo.ext Ew15
        replace hy := hy.ext Ew15
        replace hyo := hyo.ext Ew15
        replace K0 := K0.ext Ew15
        refine wd_free 3 _ rfl rfl rfl rfl ?_
        refine fd [] rfl rfl rfl rfl rfl rfl rfl (fun w' E => ex_move rfl rfl) ?_
        refine fd [] rfl rfl rfl rfl rfl rfl rfl (fun w' E => ex_move rfl rfl) ?_
        refine fd [1] rfl rfl rfl rfl rfl rfl rfl (fun w' E => ex_len Tryd.underlying32 rfl rfl) ?_
        refine .nil (fun w16 Ew16 _ => ?_)
        replace hx := hx.ext Ew16
        replace hxo := hxo.ext Ew16
        replace hy := hy.ext Ew16
        replace hyo := hyo.ext Ew16
        replace K0 := K0.ext Ew16
        refine wd_if rfl rfl (by kernel_rfl) rfl rfl rfl (ex_cmp rfl rfl rfl rfl) (fun h1 => ?_) (fun h1 => ?_)
        · skip
          replace h1 : f + k < (ecuts q bs1 bs1.length).1.length := by omega
          refine wd_v rfl rfl (by kernel_rfl) rfl rfl rfl (ex_move rfl rfl) ?_
          refine wd_free 3 _ rfl rfl rfl rfl ?_
          first | refine fsk [] rfl rfl rfl rfl rfl rfl rfl ?_ | refine fd [] rfl rfl rfl rfl rfl rfl rfl (fun w' E => ex_move rfl rfl) ?_
          first | refine fsk [] rfl rfl rfl rfl rfl rfl rfl ?_ | refine fd [] rfl rfl rfl rfl rfl rfl rfl (fun w' E => ex_move rfl rfl) ?_
          first | refine fsk [6] rfl rfl rfl rfl rfl rfl rfl ?_ | refine fd [6] rfl rfl rfl rfl rfl rfl rfl (fun w' E => ex_len Tryd.underlying32 rfl rfl) ?_
          refine .nil (fun w17 Ew17 _ => ?_)
          replace hx := hx.ext Ew17
          replace hxo := hxo.ext Ew17
          replace hy := hy.ext Ew17
          replace hyo := hyo.ext Ew17
          replace K0 := K0.ext Ew17
          refine wd_if rfl rfl (by kernel_rfl) rfl rfl rfl (ex_cmp rfl rfl rfl rfl) (fun h2 => ?_) (fun h2 => ?_)
          · skip
            replace h2 : f + k < (ecuts q bs2 bs2.length).1.length := by omega
            first | refine wd_v rfl rfl (by kernel_rfl) rfl rfl rfl (ex_pick_t rfl rfl rfl) ?_ | refine wd_v rfl rfl (by kernel_rfl) rfl rfl rfl (ex_pick_f rfl rfl rfl) ?_
            refine wd_v rfl rfl (by kernel_rfl) rfl rfl rfl (ex_move rfl rfl) ?_
            obtain ⟨b1, o1, u1, he1, _, _, hu1, hc1⟩ := hx.rd.at_ (k := (pieces bs1 0 (ecuts q bs1 bs1.length).1).length - 1 - k) (by omega)
            rw [List.getElem?_map] at hu1
            obtain ⟨s1, hs1, rfl⟩ := Option.map_eq_some_iff.1 hu1
            obtain ⟨y1, hy1, hl1, hd1⟩ := hxo.get hs1
            obtain ⟨b2, o2, u2, he2, _, _, hu2, hc2⟩ := hy.rd.at_ (k := (pieces bs2 0 (ecuts q bs2 bs2.length).1).length - 1 - k) (by omega)
            rw [List.getElem?_map] at hu2
            obtain ⟨s2, hs2, rfl⟩ := Option.map_eq_some_iff.1 hu2
            obtain ⟨y2, hy2, hl2, hd2⟩ := hyo.get hs2
            have hq1 : (if dX = f then X else X.map (·.add (f * 1))) = some ⟨b1, o1 + f, none⟩ := by
              rw [if_neg (by have := hx.le; omega), he1, Option.map_some, add_lit', Nat.mul_one]
            have hq2 : (if dY = f then Y else Y.map (·.add (f * 1))) = some ⟨b2, o2 + f, none⟩ := by
              rw [if_neg (by have := hy.le; omega), he2, Option.map_some, add_lit', Nat.mul_one]
            rw [show o1 + ((pieces bs1 0 (ecuts q bs1 bs1.length).1).length - 1 - k) = o1 + f + ((ecuts q bs1 bs1.length).1.length - f - 1 - k) by omega] at hc1
            rw [show o2 + ((pieces bs2 0 (ecuts q bs2 bs2.length).1).length - 1 - k) = o2 + f + ((ecuts q bs2 bs2.length).1.length - f - 1 - k) by omega] at hc2
            rw [hq1, hq2]
            refine wd_free 16 _ rfl rfl rfl rfl ?_
            first | refine fsk [] rfl rfl rfl rfl rfl rfl rfl ?_ | refine fd [] rfl rfl rfl rfl rfl rfl rfl (fun w' E => ex_move rfl rfl) ?_
            first | refine fsk [] rfl rfl rfl rfl rfl rfl rfl ?_ | refine fd [] rfl rfl rfl rfl rfl rfl rfl (fun w' E => ex_move rfl rfl) ?_
            first | refine fsk [12] rfl rfl rfl rfl rfl rfl rfl ?_ | refine fd [12] rfl rfl rfl rfl rfl rfl rfl (fun w' E => ex_len Tryd.underlying32 rfl rfl) ?_
            first | refine fsk [13] rfl rfl rfl rfl rfl rfl rfl ?_ | refine fd [13] rfl rfl rfl rfl rfl rfl rfl (fun w' E => ex_sub rfl rfl rfl (i64_in (by omega) (by omega))) ?_
            first | refine fsk [] rfl rfl rfl rfl rfl rfl rfl ?_ | refine fd [] rfl rfl rfl rfl rfl rfl rfl (fun w' E => ex_move rfl rfl) ?_
            first | refine fsk [14, 15] rfl rfl rfl rfl rfl rfl rfl ?_ | refine fd [14, 15] rfl rfl rfl rfl rfl rfl rfl (fun w' E => ex_sub rfl rfl rfl (i64_in (by omega) (by omega))) ?_
            first | refine fsk [11, 16] rfl rfl rfl rfl rfl rfl rfl ?_ | refine fd [11, 16] rfl rfl rfl rfl rfl rfl rfl (fun w' E => ex_index Tryd.underlying32 sz25 ((ecuts q bs1 bs1.length).1.length - f - 1 - k) rfl rfl rfl (by omega) (by omega)) ?_
            first | refine fsk [17] rfl rfl rfl rfl rfl rfl rfl ?_ | refine fd [17] rfl rfl rfl rfl rfl rfl rfl (fun w' E => ex_load (v := .slice s1.1 s1.2.1 s1.2.2) one25 rfl rfl (E.cell trivial hc1)) ?_
            first | refine fsk [] rfl rfl rfl rfl rfl rfl rfl ?_ | refine fd [] rfl rfl rfl rfl rfl rfl rfl (fun w' E => ex_move rfl rfl) ?_
            first | refine fsk [] rfl rfl rfl rfl rfl rfl rfl ?_ | refine fd [] rfl rfl rfl rfl rfl rfl rfl (fun w' E => ex_move rfl rfl) ?_
            first | refine fsk [20] rfl rfl rfl rfl rfl rfl rfl ?_ | refine fd [20] rfl rfl rfl rfl rfl rfl rfl (fun w' E => ex_len Tryd.underlying32 rfl rfl) ?_
            first | refine fsk [21] rfl rfl rfl rfl rfl rfl rfl ?_ | refine fd [21] rfl rfl rfl rfl rfl rfl rfl (fun w' E => ex_sub rfl rfl rfl (i64_in (by omega) (by omega))) ?_
            first | refine fsk [] rfl rfl rfl rfl rfl rfl rfl ?_ | refine fd [] rfl rfl rfl rfl rfl rfl rfl (fun w' E => ex_move rfl rfl) ?_
            first | refine fsk [22, 23] rfl rfl rfl rfl rfl rfl rfl ?_ | refine fd [22, 23] rfl rfl rfl rfl rfl rfl rfl (fun w' E => ex_sub rfl rfl rfl (i64_in (by omega) (by omega))) ?_
            first | refine fsk [19, 24] rfl rfl rfl rfl rfl rfl rfl ?_ | refine fd [19, 24] rfl rfl rfl rfl rfl rfl rfl (fun w' E => ex_index Tryd.underlying32 sz25 ((ecuts q bs2 bs2.length).1.length - f - 1 - k) rfl rfl rfl (by omega) (by omega)) ?_
            first | refine fsk [25] rfl rfl rfl rfl rfl rfl rfl ?_ | refine fd [25] rfl rfl rfl rfl rfl rfl rfl (fun w' E => ex_load (v := .slice s2.1 s2.2.1 s2.2.2) one25 rfl rfl (E.cell trivial hc2)) ?_
            refine .nil (fun w18 Ew18 _ => ?_)
            replace hx := hx.ext Ew18
            replace hxo := hxo.ext Ew18
            replace hy := hy.ext Ew18
            replace hyo := hyo.ext Ew18
            replace K0 := K0.ext Ew18
            replace hd1 := hxo.get hs1
            obtain ⟨_, hz1, hl1, hd1⟩ := hd1
            rw [hy1] at hz1
            cases hz1
            obtain ⟨_, hz2, hl2, hd2⟩ := hyo.get hs2
            rw [hy2] at hz2
            cases hz2
            refine wd_one rfl rfl (by kernel_rfl) rfl rfl rfl (ex_call call34 rfl rfl (equal_c _ _ _ _ _ _ _ _ _ _ y1 y2 _ hl1 hl2 hd1.rd hd2.rd)) ?_
            rintro _ w19 ⟨rfl, hwe⟩
            obtain rfl := hwe.symm
            first | refine wd_v rfl rfl (by kernel_rfl) rfl rfl rfl (ex_pick_t rfl rfl rfl) ?_ | refine wd_v rfl rfl (by kernel_rfl) rfl rfl rfl (ex_pick_f rfl rfl rfl) ?_
            refine wd_nil (by decide) rfl ?_
            refine qe_next ?_
            refine w_if rfl (fun heq => ?_) (fun heq => ?_)
            · skip
              refine w_skip (qe_next ?_)
              refine w_block ?_
              refine w_region ?_
              refine sv rfl rfl rfl (ex_move rfl rfl) ?_
              refine sv rfl rfl rfl (ex_add rfl rfl rfl (i64_in (by omega) (by omega))) ?_
              refine sv rfl rfl rfl (ex_assign rfl rfl) ?_
              refine w_nil (qe_in_normal (qe_round (k + 1) ⟨rfl, rfl, rfl, rfl, trivial⟩ ?_ ?_))
              · exact ⟨by omega, by omega, (fun j hj => by
                  by_cases e : j = k
                  · subst e; rw [hy1, hy2, heq]
                  · exact hpre j (by omega)), hx, hxo, hy, hyo, K0⟩
              · omega
            · skip
              refine w_exit (qe_then_exit (qe_then_exit (qe_in_exit (qe_meet (k) ⟨rfl, rfl, trivial⟩ ?_))))
              exact ⟨⟨by omega, by omega, hpre, fun hh => by have := hh.2.2; rw [hy1, hy2] at this; exact heq (Option.some.inj this)⟩, K0⟩
          · skip
            replace h2 : ¬ f + k < (ecuts q bs2 bs2.length).1.length := by omega
            first | refine wd_v rfl rfl (by kernel_rfl) rfl rfl rfl (ex_pick_t rfl rfl rfl) ?_ | refine wd_v rfl rfl (by kernel_rfl) rfl rfl rfl (ex_pick_f rfl rfl rfl) ?_
            refine wd_v rfl rfl (by kernel_rfl) rfl rfl rfl (ex_move rfl rfl) ?_
            refine wd_free 16 _ rfl rfl rfl rfl ?_
            first | refine fsk [] rfl rfl rfl rfl rfl rfl rfl ?_ | refine fd [] rfl rfl rfl rfl rfl rfl rfl (fun w' E => ex_move rfl rfl) ?_
            first | refine fsk [] rfl rfl rfl rfl rfl rfl rfl ?_ | refine fd [] rfl rfl rfl rfl rfl rfl rfl (fun w' E => ex_move rfl rfl) ?_
            refine fsk [12] rfl rfl rfl rfl rfl rfl rfl ?_
            refine fsk [13] rfl rfl rfl rfl rfl rfl rfl ?_
            first | refine fsk [] rfl rfl rfl rfl rfl rfl rfl ?_ | refine fd [] rfl rfl rfl rfl rfl rfl rfl (fun w' E => ex_move rfl rfl) ?_
            refine fsk [14, 15] rfl rfl rfl rfl rfl rfl rfl ?_
            refine fsk [11, 16] rfl rfl rfl rfl rfl rfl rfl ?_
            refine fsk [17] rfl rfl rfl rfl rfl rfl rfl ?_
            first | refine fsk [] rfl rfl rfl rfl rfl rfl rfl ?_ | refine fd [] rfl rfl rfl rfl rfl rfl rfl (fun w' E => ex_move rfl rfl) ?_
            first | refine fsk [] rfl rfl rfl rfl rfl rfl rfl ?_ | refine fd [] rfl rfl rfl rfl rfl rfl rfl (fun w' E => ex_move rfl rfl) ?_
            refine fsk [20] rfl rfl rfl rfl rfl rfl rfl ?_
            refine fsk [21] rfl rfl rfl rfl rfl rfl rfl ?_
            first | refine fsk [] rfl rfl rfl rfl rfl rfl rfl ?_ | refine fd [] rfl rfl rfl rfl rfl rfl rfl (fun w' E => ex_move rfl rfl) ?_
            refine fsk [22, 23] rfl rfl rfl rfl rfl rfl rfl ?_
            refine fsk [19, 24] rfl rfl rfl rfl rfl rfl rfl ?_
            refine fsk [25] rfl rfl rfl rfl rfl rfl rfl ?_
            refine .nil (fun w20 Ew20 _ => ?_)
            replace hx := hx.ext Ew20
            replace hxo := hxo.ext Ew20
            replace hy := hy.ext Ew20
            replace hyo := hyo.ext Ew20
            replace K0 := K0.ext Ew20
            refine wd_skip rfl rfl (by kernel_rfl) rfl rfl rfl ?_
            first | refine wd_v rfl rfl (by kernel_rfl) rfl rfl rfl (ex_pick_t rfl rfl rfl) ?_ | refine wd_v rfl rfl (by kernel_rfl) rfl rfl rfl (ex_pick_f rfl rfl rfl) ?_
            refine wd_nil (by decide) rfl ?_
            refine qe_next ?_
            refine w_cond_f rfl ?_
            refine w_exit (qe_then_exit (qe_then_exit (qe_in_exit (qe_meet (k) ⟨rfl, rfl, trivial⟩ ?_))))
            exact ⟨⟨by omega, by omega, hpre, fun hh => by have := hh.1; have := hh.2.1; omega⟩, K0⟩
        · skip
          replace h1 : ¬ f + k < (ecuts q bs1 bs1.length).1.length := by omega
          refine wd_v rfl rfl (by kernel_rfl) rfl rfl rfl (ex_move rfl rfl) ?_
          refine wd_free 3 _ rfl rfl rfl rfl ?_
          first | refine fsk [] rfl rfl rfl rfl rfl rfl rfl ?_ | refine fd [] rfl rfl rfl rfl rfl rfl rfl (fun w' E => ex_move rfl rfl) ?_
          first | refine fsk [] rfl rfl rfl rfl rfl rfl rfl ?_ | refine fd [] rfl rfl rfl rfl rfl rfl rfl (fun w' E => ex_move rfl rfl) ?_
          refine fsk [6] rfl rfl rfl rfl rfl rfl rfl ?_
          refine .nil (fun w21 Ew21 _ => ?_)
          replace hx := hx.ext Ew21
          replace hxo := hxo.ext Ew21
          replace hy := hy.ext Ew21
          replace hyo := hyo.ext Ew21
          replace K0 := K0.ext Ew21
          refine wd_skip rfl rfl (by kernel_rfl) rfl rfl rfl ?_
          first | refine wd_v rfl rfl (by kernel_rfl) rfl rfl rfl (ex_pick_t rfl rfl rfl) ?_ | refine wd_v rfl rfl (by kernel_rfl) rfl rfl rfl (ex_pick_f rfl rfl rfl) ?_
          refine wd_v rfl rfl (by kernel_rfl) rfl rfl rfl (ex_move rfl rfl) ?_
          refine wd_free 16 _ rfl rfl rfl rfl ?_
          first | refine fsk [] rfl rfl rfl rfl rfl rfl rfl ?_ | refine fd [] rfl rfl rfl rfl rfl rfl rfl (fun w' E => ex_move rfl rfl) ?_
          first | refine fsk [] rfl rfl rfl rfl rfl rfl rfl ?_ | refine fd [] rfl rfl rfl rfl rfl rfl rfl (fun w' E => ex_move rfl rfl) ?_
          refine fsk [12] rfl rfl rfl rfl rfl rfl rfl ?_
          refine fsk [13] rfl rfl rfl rfl rfl rfl rfl ?_
          first | refine fsk [] rfl rfl rfl rfl rfl rfl rfl ?_ | refine fd [] rfl rfl rfl rfl rfl rfl rfl (fun w' E => ex_move rfl rfl) ?_
          refine fsk [14, 15] rfl rfl rfl rfl rfl rfl rfl ?_
          refine fsk [11, 16] rfl rfl rfl rfl rfl rfl rfl ?_
          refine fsk [17] rfl rfl rfl rfl rfl rfl rfl ?_
          first | refine fsk [] rfl rfl rfl rfl rfl rfl rfl ?_ | refine fd [] rfl rfl rfl rfl rfl rfl rfl (fun w' E => ex_move rfl rfl) ?_
          first | refine fsk [] rfl rfl rfl rfl rfl rfl rfl ?_ | refine fd [] rfl rfl rfl rfl rfl rfl rfl (fun w' E => ex_move rfl rfl) ?_
          refine fsk [20] rfl rfl rfl rfl rfl rfl rfl ?_
          refine fsk [21] rfl rfl rfl rfl rfl rfl rfl ?_
          first | refine fsk [] rfl rfl rfl rfl rfl rfl rfl ?_ | refine fd [] rfl rfl rfl rfl rfl rfl rfl (fun w' E => ex_move rfl rfl) ?_
          refine fsk [22, 23] rfl rfl rfl rfl rfl rfl rfl ?_
          refine fsk [19, 24] rfl rfl rfl rfl rfl rfl rfl ?_
          refine fsk [25] rfl rfl rfl rfl rfl rfl rfl ?_
          refine .nil (fun w22 Ew22 _ => ?_)
          replace hx := hx.ext Ew22
          replace hxo := hxo.ext Ew22
          replace hy := hy.ext Ew22
          replace hyo := hyo.ext Ew22
          replace K0 := K0.ext Ew22
          refine wd_skip rfl rfl (by kernel_rfl) rfl rfl rfl ?_
          first | refine wd_v rfl rfl (by kernel_rfl) rfl rfl rfl (ex_pick_t rfl rfl rfl) ?_ | refine wd_v rfl rfl (by kernel_rfl) rfl rfl rfl (ex_pick_f rfl rfl rfl) ?_
          refine wd_nil (by decide) rfl ?_
          refine qe_next ?_
          refine w_cond_f rfl ?_
          refine w_exit (qe_then_exit (qe_then_exit (qe_in_exit (qe_meet (k) ⟨rfl, rfl, trivial⟩ ?_))))
          exact ⟨⟨by omega, by omega, hpre, fun hh => by have := hh.1; have := hh.2.1; omega⟩, K0⟩
    · clear hx hxo hy hyo K0
      rintro m w1 ⟨hB, K0⟩
      refine w_seq ?_
      refine w_region ?_
      refine sv rfl rfl rfl (ex_move rfl rfl) ?_
      refine sv rfl rfl rfl (ex_move rfl rfl) ?_
      refine sv rfl rfl rfl (ex_assign rfl rfl) ?_
      refine sv rfl rfl rfl (ex_assign rfl rfl) ?_
      refine sv rfl rfl rfl (ex_assign rfl rfl) ?_
      refine w_nil (qe_next ?_)
      refine w_ret (qe_ret3 rfl rfl rfl rfl ?_)
      exact ⟨f, m, rfl, hF, hB, K0⟩
end Go.Proofs.YtfgpcmphcnhbiaaDoor

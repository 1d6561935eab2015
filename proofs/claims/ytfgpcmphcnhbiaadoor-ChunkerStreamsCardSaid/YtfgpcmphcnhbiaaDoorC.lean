/- Contracts of the functions of the rolling hash and of its reference, walked over the loaded program. -/
import Derived.Test.YtfgpcmphcnhbiaaDoorR
namespace Go.Proofs.YtfgpcmphcnhbiaaDoor
open Go Go.RowKit
set_option linter.unusedVariables false
set_option linter.unusedSimpArgs false
theorem and63 {n : Nat} (hn : n ≤ 64) : bits .and .u64 (u64 (BitVec.ofNat 64 n)) 63 = ((n % 64 : Nat) : Int) := by
  have e : u64 (BitVec.ofNat 64 n) = ((n : Nat) : Int) := by unfold u64; rw [BitVec.toNat_ofNat, Nat.mod_eq_of_lt (by omega)]
  rw [e, show (63 : Int) = ((63 : Nat) : Int) from rfl, u64_and_nat n 63 (by omega) (by omega)]
  have : n &&& 63 = n % 2 ^ 6 := Nat.and_two_pow_sub_one_eq_mod n 6
  rw [this]
theorem sub64 (n : Nat) (h : n ≤ 64) : IntKind.u64.wrap (64 - (n : Int)) = ((64 - n : Nat) : Int) := by rw [IntKind.wrap_u64]; omega
theorem rot_shift_mod {x : B64} {n : Nat} : U (x <<< (n % 64) ||| x >>> (64 - n % 64)) = U (rot x n) := by
  rw [rot_shift x (n % 64) (Nat.mod_lt _ (by omega)), rot, rot, BitVec.rotateLeft_mod_eq_rotateLeft]
theorem tmod_nat (m n : Nat) : Int.tmod (m : Int) (n : Int) = ((m % n : Nat) : Int) := (Int.ofNat_tmod m n).symm
theorem Blk.at0 {w : World} {g t : Nat} {cs : List Value} {i j : Nat} (h : Blk w g t cs) (_e : i = j) : Blk w g t cs := h

/-- what a window counts as -/
def winOf (n : Int) : Nat := (min (max n 1) 64).toNat
theorem winOf_eq (n : Int) : min (max n 1) 64 = ((winOf n : Nat) : Int) := by unfold winOf; omega
theorem winOf_bd (n : Int) : 1 ≤ winOf n ∧ winOf n ≤ 64 := by unfold winOf; omega
theorem build_roll (g win : Nat) (w : World) : (Instr.build 86 [(0, Value.slice (some ⟨g, 0, none⟩) 256 256), (2, Value.int .i64 (win : Int))].toArray).run Tryd.prog w = .ok (.agg (rcells g (List.replicate 64 0) win 0 0 0#64).toArray) w := by kernel_rfl

theorem sub_len {n : Nat} (h : n ≤ 1000) : IntKind.i64.wrap ((n : Int) - 1) = (n : Int) - 1 := i64_in (by omega) (by omega)
theorem sub_len2 {n k : Nat} (h : k ≤ n - 1) (h1 : 1 ≤ n ∧ n ≤ 1000) : IntKind.i64.wrap ((n : Int) - 1 - (k : Int)) = ((n - 1 - k : Nat) : Int) := by
  rw [i64_in (by omega) (by omega)]; omega
/-- math/bits.RotateLeft64 -/
theorem rot_c (x : B64) (n : Nat) (w : World) (hn : n ≤ 64) :
    Ret Tryd.prog 54 [U x, .int .i64 (n : Int)] w fun v w' => Dv (U (rot x n)) w v w' := by
  refine ret_of Tryd.func54 rfl rfl ?_
  refine w_seq ?_
  refine w_region ?_
  refine sv rfl rfl rfl (ex_assign rfl rfl) ?_
  refine w_nil (qe_next ?_)
  refine w_seq ?_
  refine w_region ?_
  refine sv rfl rfl rfl (ex_move rfl rfl) ?_
  refine sv rfl rfl rfl (ex_conv Tryd.underlying3 (by simp) Tryd.underlying88 rfl rfl (wrap_u n)) ?_
  refine sv rfl rfl rfl (ex_bits rfl (by simp) rfl rfl (and63 hn)) ?_
  refine sv rfl rfl rfl (ex_assign rfl rfl) ?_
  refine w_nil (qe_next ?_)
  refine w_seq ?_
  refine w_region ?_
  refine sv rfl rfl rfl (ex_move rfl rfl) ?_
  refine sv rfl rfl rfl (ex_move rfl rfl) ?_
  refine sv rfl rfl rfl (ex_shl rfl rfl rfl (by omega) (u_shl x (n % 64) (by omega))) ?_
  refine sv rfl rfl rfl (ex_move rfl rfl) ?_
  refine sv rfl rfl rfl (ex_move rfl rfl) ?_
  refine sv rfl rfl rfl (ex_sub rfl rfl rfl (sub64 (n % 64) (by omega))) ?_
  refine sv rfl rfl rfl (ex_shr rfl rfl rfl (by omega) (u_shr x (64 - n % 64) (by omega))) ?_
  refine sv rfl rfl rfl (ex_bits rfl (by simp) rfl rfl (u_or _ _)) ?_
  refine sv rfl rfl rfl (ex_assign rfl rfl) ?_
  refine w_nil (qe_next ?_)
  refine w_ret (qe_ret1 rfl rfl ?_)
  exact ⟨rot_shift_mod, rfl⟩

/-- kinkeep/kinkeepref14.Number -/
theorem refNum_c (seed : B64) (i : Nat) (w : World) (hi : i < 1000) :
    Ret Tryd.prog 57 [U seed, .int .i64 (i : Int)] w fun v w' => Dv (U (num seed i)) w v w' := by
  refine ret_of Tryd.func57 rfl rfl ?_
  refine w_seq ?_
  refine w_region ?_
  refine sv rfl rfl rfl (ex_assign rfl rfl) ?_
  refine w_nil (qe_next ?_)
  refine w_seq ?_
  refine w_region ?_
  refine sv rfl rfl rfl (ex_move rfl rfl) ?_
  refine sv rfl rfl rfl (ex_move rfl rfl) ?_
  refine sv rfl rfl rfl (ex_add rfl rfl rfl (i64_in (by omega) (by omega))) ?_
  refine sv rfl rfl rfl (ex_conv Tryd.underlying3 (by simp) Tryd.underlying22 rfl rfl (wrap_u (i + 1))) ?_
  refine sv rfl rfl rfl (ex_mul rfl rfl rfl (u_mul' G1 _)) ?_
  refine sv rfl rfl rfl (ex_add rfl rfl rfl (u_add _ _)) ?_
  refine sv rfl rfl rfl (ex_assign rfl rfl) ?_
  refine w_nil (qe_next ?_)
  refine w_seq ?_
  refine w_region ?_
  refine sv rfl rfl rfl (ex_move rfl rfl) ?_
  refine sv rfl rfl rfl (ex_move rfl rfl) ?_
  refine sv rfl rfl rfl (ex_shr rfl rfl rfl (by omega) (u_shr _ 30 (by omega))) ?_
  refine sv rfl rfl rfl (ex_bits rfl (by simp) rfl rfl (u_xor _ _)) ?_
  refine sv rfl rfl rfl (ex_mul rfl rfl rfl (u_mul' G2 _)) ?_
  refine sv rfl rfl rfl (ex_assign rfl rfl) ?_
  refine w_nil (qe_next ?_)
  refine w_seq ?_
  refine w_region ?_
  refine sv rfl rfl rfl (ex_move rfl rfl) ?_
  refine sv rfl rfl rfl (ex_move rfl rfl) ?_
  refine sv rfl rfl rfl (ex_shr rfl rfl rfl (by omega) (u_shr _ 27 (by omega))) ?_
  refine sv rfl rfl rfl (ex_bits rfl (by simp) rfl rfl (u_xor _ _)) ?_
  refine sv rfl rfl rfl (ex_mul rfl rfl rfl (u_mul' G3 _)) ?_
  refine sv rfl rfl rfl (ex_assign rfl rfl) ?_
  refine w_nil (qe_next ?_)
  refine w_seq ?_
  refine w_region ?_
  refine sv rfl rfl rfl (ex_move rfl rfl) ?_
  refine sv rfl rfl rfl (ex_move rfl rfl) ?_
  refine sv rfl rfl rfl (ex_shr rfl rfl rfl (by omega) (u_shr _ 31 (by omega))) ?_
  refine sv rfl rfl rfl (ex_bits rfl (by simp) rfl rfl (u_xor _ _)) ?_
  refine sv rfl rfl rfl (ex_assign rfl rfl) ?_
  refine w_nil (qe_next ?_)
  refine w_ret (qe_ret1 rfl rfl ?_)
  exact ⟨rfl, rfl⟩

/-- kinkeep/rollinghash.Table -/
theorem table_c (seed : B64) (w : World) :
    Ret Tryd.prog 53 [U seed] w fun v w' => ∃ g, v = .slice (some ⟨g, 0, none⟩) 256 256 ∧ w.heap.size ≤ g ∧ Blk w' g 22 (tcells seed) ∧ Ext w w' := by
  refine ret_of Tryd.func53 rfl rfl ?_
  refine w_seq ?_
  refine w_region ?_
  refine sv rfl rfl rfl (ex_assign rfl rfl) ?_
  refine w_nil (qe_next ?_)
  refine w_seq ?_
  refine w_region ?_
  refine st rfl rfl rfl (ex_make Tryd.underlying82 z22 256 rfl rfl rfl rfl rfl (by omega) (by omega)) ?_
  rintro _ w1 ⟨g, rfl, hg0, E1, hg, hs⟩
  refine sv rfl rfl rfl (ex_assign rfl rfl) ?_
  refine w_nil (qe_next ?_)
  refine w_seq ?_
  refine w_seq ?_
  refine w_region ?_
  refine sv rfl rfl rfl (ex_move rfl rfl) ?_
  refine sv rfl rfl rfl (ex_len Tryd.underlying82 rfl rfl) ?_
  refine sv rfl rfl rfl (ex_move rfl rfl) ?_
  refine w_nil (qe_next ?_)
  refine w_block ?_
  refine w_loop (ι := Nat) (fun k => [(0, U seed), (3, .slice (some ⟨g, 0, none⟩) 256 256), (8, .int .i64 256), (9, .int .i64 (k : Int))]) (fun k w1 => k ≤ 256 ∧ Blk w1 g 22 (tpart seed k) ∧ Ext w w1) (fun k => 256 - k) (0) ⟨rfl, rfl, rfl, rfl, trivial⟩ ?_ ?_
  · exact ⟨by omega, by rw [tpart_zero]; exact hg, E1⟩
  · rintro k w2 ⟨hk256, hg, E⟩
    refine w_seq ?_
    refine w_region ?_
    refine sv rfl rfl rfl (ex_cmp rfl rfl rfl rfl) ?_
    refine w_nil (qe_next ?_)
    refine w_seq ?_
    refine w_if rfl (fun hk => ?_) (fun hk => ?_)
    · skip
      replace hk : k < 256 := by omega
      refine w_skip (qe_next ?_)
      refine w_seq ?_
      refine w_block ?_
      refine w_seq ?_
      refine w_region ?_
      refine sv rfl rfl rfl (ex_move rfl rfl) ?_
      refine sv rfl rfl rfl (ex_assign rfl rfl) ?_
      refine w_nil (qe_next ?_)
      refine w_seq ?_
      refine w_region ?_
      refine sv rfl rfl rfl (ex_move rfl rfl) ?_
      refine sv rfl rfl rfl (ex_move rfl rfl) ?_
      refine sv rfl rfl rfl (ex_add rfl rfl rfl (i64_in (by omega) (by omega))) ?_
      refine sv rfl rfl rfl (ex_conv Tryd.underlying3 (by simp) Tryd.underlying22 rfl rfl (wrap_u (k + 1))) ?_
      refine sv rfl rfl rfl (ex_mul rfl rfl rfl (u_mul' G1 _)) ?_
      refine sv rfl rfl rfl (ex_add rfl rfl rfl (u_add _ _)) ?_
      refine sv rfl rfl rfl (ex_assign rfl rfl) ?_
      refine w_nil (qe_next ?_)
      refine w_seq ?_
      refine w_region ?_
      refine sv rfl rfl rfl (ex_move rfl rfl) ?_
      refine sv rfl rfl rfl (ex_move rfl rfl) ?_
      refine sv rfl rfl rfl (ex_shr rfl rfl rfl (by omega) (u_shr _ 30 (by omega))) ?_
      refine sv rfl rfl rfl (ex_bits rfl (by simp) rfl rfl (u_xor _ _)) ?_
      refine sv rfl rfl rfl (ex_mul rfl rfl rfl (u_mul' G2 _)) ?_
      refine sv rfl rfl rfl (ex_assign rfl rfl) ?_
      refine w_nil (qe_next ?_)
      refine w_seq ?_
      refine w_region ?_
      refine sv rfl rfl rfl (ex_move rfl rfl) ?_
      refine sv rfl rfl rfl (ex_move rfl rfl) ?_
      refine sv rfl rfl rfl (ex_shr rfl rfl rfl (by omega) (u_shr _ 27 (by omega))) ?_
      refine sv rfl rfl rfl (ex_bits rfl (by simp) rfl rfl (u_xor _ _)) ?_
      refine sv rfl rfl rfl (ex_mul rfl rfl rfl (u_mul' G3 _)) ?_
      refine sv rfl rfl rfl (ex_assign rfl rfl) ?_
      refine w_nil (qe_next ?_)
      refine w_region ?_
      refine sv rfl rfl rfl (ex_move rfl rfl) ?_
      refine sv rfl rfl rfl (ex_move rfl rfl) ?_
      refine sv rfl rfl rfl (ex_move rfl rfl) ?_
      refine sv rfl rfl rfl (ex_move rfl rfl) ?_
      refine sv rfl rfl rfl (ex_shr rfl rfl rfl (by omega) (u_shr _ 31 (by omega))) ?_
      refine sv rfl rfl rfl (ex_bits rfl (by simp) rfl rfl (u_xor _ _)) ?_
      refine sv rfl rfl rfl (ex_index Tryd.underlying82 sz22 k rfl rfl rfl rfl hk) ?_
      refine st0 rfl rfl (ex_store_blk sz22 rfl rfl rfl rfl (hg.at0 (Nat.zero_add k)) (by rw [tpart_length]; omega)) ?_
      rintro _ w2 ⟨K1, hg, hs⟩
      refine w_nil (qe_in_normal (qe_next ?_))
      refine w_region ?_
      refine sv rfl rfl rfl (ex_add rfl rfl rfl (i64_in (by omega) (by omega))) ?_
      refine sv rfl rfl rfl (ex_move rfl rfl) ?_
      simp only [Nat.zero_add] at hg K1
      refine w_nil (qe_round (k + 1) ⟨rfl, rfl, rfl, rfl, trivial⟩ ?_ ?_)
      · exact ⟨by omega, by rw [← tpart_set seed hk]; exact hg, E.trans K1 fun j hj _ => by omega⟩
      · omega
    · skip
      replace hk : k = 256 := by omega
      subst hk
      refine w_exit (qe_then_exit (qe_then_exit (qe_in_exit (qe_next ?_))))
      refine w_seq ?_
      refine w_region ?_
      refine sv rfl rfl rfl (ex_move rfl rfl) ?_
      refine sv rfl rfl rfl (ex_assign rfl rfl) ?_
      refine w_nil (qe_next ?_)
      refine w_ret (qe_ret1 rfl rfl ?_)
      exact ⟨g, rfl, by omega, by rw [← tpart_full]; exact hg, E⟩

/-- (*kinkeep/rollinghash.Roll).Len -/
theorem len_c (b : Nat) (seed : B64) (win : Nat) (bs : List UInt8) (w : World) (hR : RollAt w b seed win bs) :
    Ret Tryd.prog 45 [.pointer (some ⟨b, 0, none⟩)] w fun v w' => Dv (.int .i64 (bs.length : Int)) w v w' := by
  obtain ⟨g, ring, next, hg, hb, hglt, h64, hw1, hw64, hnext, hlen, hring⟩ := hR
  have hgb : g ≠ b := hg.ne hb (by decide)
  refine ret_of Tryd.func45 rfl rfl ?_
  refine w_seq ?_
  refine w_region ?_
  refine sv rfl rfl rfl (ex_assign rfl rfl) ?_
  refine w_nil (qe_next ?_)
  refine w_seq ?_
  refine w_region ?_
  refine sv rfl rfl rfl (ex_move rfl rfl) ?_
  refine sv rfl rfl rfl (ex_nil rfl rfl) ?_
  refine sv rfl rfl rfl (ex_fieldAddr fld86_4 rfl rfl) ?_
  refine sv rfl rfl rfl (ex_load one3 rfl rfl (by (first | exact hb.cell rc_tab | exact hb.cell (rc_win h64) | exact hb.cell (rc_next h64) | exact hb.cell (rc_cnt h64) | exact hb.cell (rc_sum h64)))) ?_
  refine sv rfl rfl rfl (ex_assign rfl rfl) ?_
  refine w_nil (qe_next ?_)
  refine w_ret (qe_ret1 rfl rfl ?_)
  exact ⟨rfl, rfl⟩

/-- (*kinkeep/rollinghash.Roll).Sum -/
theorem sum_c (b : Nat) (seed : B64) (win : Nat) (bs : List UInt8) (w : World) (hR : RollAt w b seed win bs) :
    Ret Tryd.prog 47 [.pointer (some ⟨b, 0, none⟩)] w fun v w' => Dv (U (hash seed bs)) w v w' := by
  obtain ⟨g, ring, next, hg, hb, hglt, h64, hw1, hw64, hnext, hlen, hring⟩ := hR
  have hgb : g ≠ b := hg.ne hb (by decide)
  refine ret_of Tryd.func47 rfl rfl ?_
  refine w_seq ?_
  refine w_region ?_
  refine sv rfl rfl rfl (ex_assign rfl rfl) ?_
  refine w_nil (qe_next ?_)
  refine w_seq ?_
  refine w_region ?_
  refine sv rfl rfl rfl (ex_move rfl rfl) ?_
  refine sv rfl rfl rfl (ex_nil rfl rfl) ?_
  refine sv rfl rfl rfl (ex_fieldAddr fld86_5 rfl rfl) ?_
  refine sv rfl rfl rfl (ex_load one22 rfl rfl (by (first | exact hb.cell rc_tab | exact hb.cell (rc_win h64) | exact hb.cell (rc_next h64) | exact hb.cell (rc_cnt h64) | exact hb.cell (rc_sum h64)))) ?_
  refine sv rfl rfl rfl (ex_assign rfl rfl) ?_
  refine w_nil (qe_next ?_)
  refine w_ret (qe_ret1 rfl rfl ?_)
  exact ⟨rfl, rfl⟩

/-- kinkeep/rollinghash.New -/
theorem new_c (seed : B64) (n : Int) (w : World) :
    Ret Tryd.prog 43 [U seed, .int .i64 n] w fun v w' => ∃ b, v = .pointer (some ⟨b, 0, none⟩) ∧ w.heap.size ≤ b ∧ RollAt w' b seed (winOf n) [] ∧ Ext w w' := by
  refine ret_of Tryd.func43 rfl rfl ?_
  refine w_seq ?_
  refine w_region ?_
  refine sv rfl rfl rfl (ex_assign rfl rfl) ?_
  refine w_nil (qe_next ?_)
  refine w_seq ?_
  refine w_region ?_
  refine sv rfl rfl rfl (ex_move rfl rfl) ?_
  refine st rfl rfl rfl (ex_call call53 rfl rfl (table_c _ _)) ?_
  rintro _ w1 ⟨g, rfl, hg0, hg, E1⟩
  refine sv rfl rfl rfl (ex_move rfl rfl) ?_
  refine sv rfl rfl rfl (ex_max rfl rfl rfl rfl) ?_
  refine sv rfl rfl rfl (ex_min rfl rfl rfl (winOf_eq n)) ?_
  refine sv rfl rfl rfl (ex_build rfl rfl (build_roll g (winOf n))) ?_
  refine st rfl rfl rfl (ex_box (cs := rcells g (List.replicate 64 0) (winOf n) 0 0 0#64) rfl rfl rfl) ?_
  rintro _ w2 ⟨b, rfl, hb0, E2, hb, hs⟩
  refine sv rfl rfl rfl (ex_assign rfl rfl) ?_
  refine w_nil (qe_next ?_)
  refine w_ret (qe_ret1 rfl rfl ?_)
  have hw := winOf_bd n
  have hle := E1.size
  exact ⟨b, rfl, by omega, ⟨g, List.replicate 64 0, 0, hg.ext E2, hb, by have := hg.lt; omega, by simp only [List.length_replicate], by omega, by omega, by omega, by simp, fun i hi => by simp at hi⟩, E1.trans E2 fun _ _ _ => trivial⟩

/-- (*kinkeep/rollinghash.Roll).Push -/
theorem push_c (b : Nat) (seed : B64) (win : Nat) (bs : List UInt8) (x : UInt8) (w : World) (hR : RollAt w b seed win bs) :
    Ret Tryd.prog 44 [.pointer (some ⟨b, 0, none⟩), bv x] w fun v w' => v = .tuple #[] ∧ RollAt w' b seed win (lastN win (bs ++ [x])) ∧ Keep (fun k => k ≠ b) w w' := by
  obtain ⟨g, ring, next, hg, hb, hglt, h64, hw1, hw64, hnext, hlen, hring⟩ := hR
  have hgb : g ≠ b := hg.ne hb (by decide)
  have K0 := Keep.refl (fun k => k ≠ b) w
  refine ret_of Tryd.func44 rfl rfl ?_
  refine w_seq ?_
  refine w_draw mixed (fun w1 _ Ew1 => ?_)
  replace hg := hg.ext Ew1
  replace hb := hb.ext Ew1
  replace K0 := K0.ext Ew1
  refine wd_free 14 _ rfl rfl rfl rfl ?_
  refine fd [] rfl rfl rfl rfl rfl rfl rfl (fun w' E => ex_move rfl rfl) ?_
  refine fd [] rfl rfl rfl rfl rfl rfl rfl (fun w' E => ex_move rfl rfl) ?_
  refine fd [1] rfl rfl rfl rfl rfl rfl rfl (fun w' E => ex_nil rfl rfl) ?_
  refine fd [2] rfl rfl rfl rfl rfl rfl rfl (fun w' E => ex_fieldAddr fld86_5 rfl rfl) ?_
  refine fd [3] rfl rfl rfl rfl rfl rfl rfl (fun w' E => ex_load one22 rfl rfl (by (first | exact E.cell trivial (hb.cell rc_tab) | exact E.cell trivial (hb.cell (rc_win h64)) | exact E.cell trivial (hb.cell (rc_next h64)) | exact E.cell trivial (hb.cell (rc_cnt h64)) | exact E.cell trivial (hb.cell (rc_sum h64))))) ?_
  refine fe [4] rfl rfl rfl rfl rfl rfl rfl (fun w' E => ex_call call54 rfl rfl ((rot_c (hash seed bs) (1) _ (by omega)).ext)) ?_
  refine fd [] rfl rfl rfl rfl rfl rfl rfl (fun w' E => ex_move rfl rfl) ?_
  refine fd [6] rfl rfl rfl rfl rfl rfl rfl (fun w' E => ex_nil rfl rfl) ?_
  refine fd [7] rfl rfl rfl rfl rfl rfl rfl (fun w' E => ex_fieldAddr fld86_0 rfl rfl) ?_
  refine fd [8] rfl rfl rfl rfl rfl rfl rfl (fun w' E => ex_load one82 rfl rfl (by (first | exact E.cell trivial (hb.cell rc_tab) | exact E.cell trivial (hb.cell (rc_win h64)) | exact E.cell trivial (hb.cell (rc_next h64)) | exact E.cell trivial (hb.cell (rc_cnt h64)) | exact E.cell trivial (hb.cell (rc_sum h64))))) ?_
  refine fd [] rfl rfl rfl rfl rfl rfl rfl (fun w' E => ex_move rfl rfl) ?_
  refine fd [9, 10] rfl rfl rfl rfl rfl rfl rfl (fun w' E => ex_index Tryd.underlying82 sz22 x.toNat rfl rfl rfl rfl (u8_lt x)) ?_
  refine fd [11] rfl rfl rfl rfl rfl rfl rfl (fun w' E => ex_load one22 rfl rfl (by simp only [Nat.zero_add]; exact E.cell trivial (hg.cell (tcells_get seed (u8_lt x))))) ?_
  refine fd [5, 12] rfl rfl rfl rfl rfl rfl rfl (fun w' E => ex_bits rfl (by simp) rfl rfl (u_xor _ _)) ?_
  refine .nil (fun w2 Ew2 _ => ?_)
  replace hg := hg.ext Ew2
  replace hb := hb.ext Ew2
  replace K0 := K0.ext Ew2
  refine wd_v rfl rfl (by kernel_rfl) rfl rfl rfl (ex_nil rfl rfl) ?_
  refine wd_v rfl rfl (by kernel_rfl) rfl rfl rfl (ex_fieldAddr fld86_5 rfl rfl) ?_
  refine wd_one0 rfl rfl (by kernel_rfl) rfl rfl (ex_store_blk sz22 rfl rfl rfl rfl hb (by rw [rc_length h64]; omega)) ?_
  rintro _ w3 ⟨K1, hb1, s1⟩
  clear hb
  have hb := (show Blk _ _ _ _ from hb1)
  rw [show (Value.int .u64 (u64 (rot (hash seed bs) 1 ^^^ num seed x.toNat))) = U (rot (hash seed bs) 1 ^^^ num seed x.toNat) from rfl, Nat.zero_add, rc_set_sum h64] at hb
  replace hg := hg.keep K1 hgb
  have K0 := K0.trans K1 fun _ _ h => h
  refine wd_nil (by decide) rfl ?_
  refine qe_next ?_
  refine w_cut (ι := Unit) (fun _i => [(0, .pointer (some ⟨b, 0, none⟩)), (1, bv x)]) (fun _i w9 => Blk w9 g 22 (tcells seed) ∧ Blk w9 b 86 (rcells g ring win next (lastN win (bs ++ [x])).length (hash seed (lastN win (bs ++ [x])))) ∧ Keep (fun k => k ≠ b) w w9) ?_ ?_
  · skip
    refine w_seq ?_
    refine w_draw mixed (fun w4 _ Ew4 => ?_)
    replace hg := hg.ext Ew4
    replace hb := hb.ext Ew4
    replace K0 := K0.ext Ew4
    refine wd_free 8 _ rfl rfl rfl rfl ?_
    refine fd [] rfl rfl rfl rfl rfl rfl rfl (fun w' E => ex_move rfl rfl) ?_
    refine fd [0] rfl rfl rfl rfl rfl rfl rfl (fun w' E => ex_nil rfl rfl) ?_
    refine fd [1] rfl rfl rfl rfl rfl rfl rfl (fun w' E => ex_fieldAddr fld86_4 rfl rfl) ?_
    refine fd [2] rfl rfl rfl rfl rfl rfl rfl (fun w' E => ex_load one3 rfl rfl (by (first | exact E.cell trivial (hb.cell rc_tab) | exact E.cell trivial (hb.cell (rc_win h64)) | exact E.cell trivial (hb.cell (rc_next h64)) | exact E.cell trivial (hb.cell (rc_cnt h64)) | exact E.cell trivial (hb.cell (rc_sum h64))))) ?_
    refine fd [] rfl rfl rfl rfl rfl rfl rfl (fun w' E => ex_move rfl rfl) ?_
    refine fd [4] rfl rfl rfl rfl rfl rfl rfl (fun w' E => ex_nil rfl rfl) ?_
    refine fd [5] rfl rfl rfl rfl rfl rfl rfl (fun w' E => ex_fieldAddr fld86_2 rfl rfl) ?_
    refine fd [6] rfl rfl rfl rfl rfl rfl rfl (fun w' E => ex_load one3 rfl rfl (by (first | exact E.cell trivial (hb.cell rc_tab) | exact E.cell trivial (hb.cell (rc_win h64)) | exact E.cell trivial (hb.cell (rc_next h64)) | exact E.cell trivial (hb.cell (rc_cnt h64)) | exact E.cell trivial (hb.cell (rc_sum h64))))) ?_
    refine .nil (fun w5 Ew5 _ => ?_)
    replace hg := hg.ext Ew5
    replace hb := hb.ext Ew5
    replace K0 := K0.ext Ew5
    refine wd_v rfl rfl (by kernel_rfl) rfl rfl rfl (ex_cmp rfl rfl rfl rfl) ?_
    refine wd_nil (by decide) rfl ?_
    refine qe_next ?_
    refine w_if rfl (fun hfull => ?_) (fun hfull => ?_)
    · skip
      have hfull : bs.length = win := by omega
      obtain ⟨a, ha, hH⟩ := hash_push (seed := seed) x hw1 hnext hfull hring
      refine w_draw mixed (fun w6 _ Ew6 => ?_)
      replace hg := hg.ext Ew6
      replace hb := hb.ext Ew6
      replace K0 := K0.ext Ew6
      refine wd_free 24 _ rfl rfl rfl rfl ?_
      refine fd [] rfl rfl rfl rfl rfl rfl rfl (fun w' E => ex_move rfl rfl) ?_
      refine fd [0] rfl rfl rfl rfl rfl rfl rfl (fun w' E => ex_nil rfl rfl) ?_
      refine fd [1] rfl rfl rfl rfl rfl rfl rfl (fun w' E => ex_fieldAddr fld86_5 rfl rfl) ?_
      refine fd [2] rfl rfl rfl rfl rfl rfl rfl (fun w' E => ex_load one22 rfl rfl (by (first | exact E.cell trivial (hb.cell rc_tab) | exact E.cell trivial (hb.cell (rc_win h64)) | exact E.cell trivial (hb.cell (rc_next h64)) | exact E.cell trivial (hb.cell (rc_cnt h64)) | exact E.cell trivial (hb.cell (rc_sum h64))))) ?_
      refine fd [] rfl rfl rfl rfl rfl rfl rfl (fun w' E => ex_move rfl rfl) ?_
      refine fd [4] rfl rfl rfl rfl rfl rfl rfl (fun w' E => ex_nil rfl rfl) ?_
      refine fd [5] rfl rfl rfl rfl rfl rfl rfl (fun w' E => ex_fieldAddr fld86_0 rfl rfl) ?_
      refine fd [6] rfl rfl rfl rfl rfl rfl rfl (fun w' E => ex_load one82 rfl rfl (by (first | exact E.cell trivial (hb.cell rc_tab) | exact E.cell trivial (hb.cell (rc_win h64)) | exact E.cell trivial (hb.cell (rc_next h64)) | exact E.cell trivial (hb.cell (rc_cnt h64)) | exact E.cell trivial (hb.cell (rc_sum h64))))) ?_
      refine fd [] rfl rfl rfl rfl rfl rfl rfl (fun w' E => ex_move rfl rfl) ?_
      refine fd [] rfl rfl rfl rfl rfl rfl rfl (fun w' E => ex_move rfl rfl) ?_
      refine fd [9] rfl rfl rfl rfl rfl rfl rfl (fun w' E => ex_nil rfl rfl) ?_
      refine fd [10] rfl rfl rfl rfl rfl rfl rfl (fun w' E => ex_fieldAddr fld86_3 rfl rfl) ?_
      refine fd [11] rfl rfl rfl rfl rfl rfl rfl (fun w' E => ex_load one3 rfl rfl (by (first | exact E.cell trivial (hb.cell rc_tab) | exact E.cell trivial (hb.cell (rc_win h64)) | exact E.cell trivial (hb.cell (rc_next h64)) | exact E.cell trivial (hb.cell (rc_cnt h64)) | exact E.cell trivial (hb.cell (rc_sum h64))))) ?_
      refine fd [8] rfl rfl rfl rfl rfl rfl rfl (fun w' E => ex_nil rfl rfl) ?_
      refine fd [13] rfl rfl rfl rfl rfl rfl rfl (fun w' E => ex_fieldAddr fld86_1 rfl rfl) ?_
      refine fd [12, 14] rfl rfl rfl rfl rfl rfl rfl (fun w' E => ex_indexA Tryd.underlying84 sz5 next rfl rfl rfl rfl (by omega)) ?_
      refine fd [15] rfl rfl rfl rfl rfl rfl rfl (fun w' E => ex_load one5 rfl rfl (by simp only [Nat.zero_add]; exact E.cell trivial (hb.cell (rc_ring h64 ha)))) ?_
      refine fd [7, 16] rfl rfl rfl rfl rfl rfl rfl (fun w' E => ex_index Tryd.underlying82 sz22 a.toNat rfl rfl rfl rfl (u8_lt a)) ?_
      refine fd [17] rfl rfl rfl rfl rfl rfl rfl (fun w' E => ex_load one22 rfl rfl (by simp only [Nat.zero_add]; exact E.cell trivial (hg.cell (tcells_get seed (u8_lt a))))) ?_
      refine fd [] rfl rfl rfl rfl rfl rfl rfl (fun w' E => ex_move rfl rfl) ?_
      refine fd [19] rfl rfl rfl rfl rfl rfl rfl (fun w' E => ex_nil rfl rfl) ?_
      refine fd [20] rfl rfl rfl rfl rfl rfl rfl (fun w' E => ex_fieldAddr fld86_2 rfl rfl) ?_
      refine fd [21] rfl rfl rfl rfl rfl rfl rfl (fun w' E => ex_load one3 rfl rfl (by (first | exact E.cell trivial (hb.cell rc_tab) | exact E.cell trivial (hb.cell (rc_win h64)) | exact E.cell trivial (hb.cell (rc_next h64)) | exact E.cell trivial (hb.cell (rc_cnt h64)) | exact E.cell trivial (hb.cell (rc_sum h64))))) ?_
      refine fe [18, 22] rfl rfl rfl rfl rfl rfl rfl (fun w' E => ex_call call54 rfl rfl ((rot_c (num seed a.toNat) (win) _ (by omega)).ext)) ?_
      refine .nil (fun w7 Ew7 _ => ?_)
      replace hg := hg.ext Ew7
      replace hb := hb.ext Ew7
      replace K0 := K0.ext Ew7
      refine wd_v rfl rfl (by kernel_rfl) rfl rfl rfl (ex_bits rfl (by simp) rfl rfl (u_xor _ _)) ?_
      refine wd_v rfl rfl (by kernel_rfl) rfl rfl rfl (ex_nil rfl rfl) ?_
      refine wd_v rfl rfl (by kernel_rfl) rfl rfl rfl (ex_fieldAddr fld86_5 rfl rfl) ?_
      refine wd_one0 rfl rfl (by kernel_rfl) rfl rfl (ex_store_blk sz22 rfl rfl rfl rfl hb (by rw [rc_length h64]; omega)) ?_
      rintro _ w8 ⟨K2, hb1, s2⟩
      clear hb
      have hb := (show Blk _ _ _ _ from hb1)
      rw [Nat.zero_add, show (Value.int .u64 (u64 ((rot (hash seed bs) 1 ^^^ num seed x.toNat) ^^^ rot (num seed a.toNat) win))) = U (hash seed (lastN win (bs ++ [x]))) from by rw [hH]; rfl, rc_set_sum h64] at hb
      replace hg := hg.keep K2 hgb
      have K0 := K0.trans K2 fun _ _ h => h
      have hlen2 : bs.length = (lastN win (bs ++ [x])).length := by rw [lastN_length]; simp; omega
      rw [hlen2] at hb
      refine wd_nil (by decide) rfl ?_
      refine qe_meet (()) ⟨rfl, rfl, trivial⟩ ?_
      exact ⟨hg, hb, K0⟩
    · skip
      have hfull : bs.length < win := by omega
      refine w_region ?_
      refine sv rfl rfl rfl (ex_move rfl rfl) ?_
      refine sv rfl rfl rfl (ex_nil rfl rfl) ?_
      refine sv rfl rfl rfl (ex_fieldAddr fld86_4 rfl rfl) ?_
      refine sv rfl rfl rfl (ex_load one3 rfl rfl (by (first | exact hb.cell rc_tab | exact hb.cell (rc_win h64) | exact hb.cell (rc_next h64) | exact hb.cell (rc_cnt h64) | exact hb.cell (rc_sum h64)))) ?_
      refine sv rfl rfl rfl (ex_add rfl rfl rfl (i64_in (by omega) (by omega))) ?_
      refine sv rfl rfl rfl (ex_nil rfl rfl) ?_
      refine sv rfl rfl rfl (ex_fieldAddr fld86_4 rfl rfl) ?_
      refine st0 rfl rfl (ex_store_blk sz3 rfl rfl rfl rfl hb (by rw [rc_length h64]; omega)) ?_
      rintro _ w9 ⟨K2, hb1, s2⟩
      clear hb
      have hb := (show Blk _ _ _ _ from hb1)
      have hlen2 : bs.length + 1 = (lastN win (bs ++ [x])).length := by rw [lastN_length]; simp; omega
      rw [Nat.zero_add, show ((bs.length : Int) + 1) = (((lastN win (bs ++ [x])).length : Nat) : Int) from by omega, rc_set_cnt h64, show rot (hash seed bs) 1 ^^^ num seed x.toNat = hash seed (lastN win (bs ++ [x])) from by rw [lastN_all (by simp; omega), hash_snoc]] at hb
      replace hg := hg.keep K2 hgb
      have K0 := K0.trans K2 fun _ _ h => h
      refine w_nil (qe_meet (()) ⟨rfl, rfl, trivial⟩ ?_)
      exact ⟨hg, hb, K0⟩
  · rintro _ w8 ⟨hg, hb, K0⟩
    refine w_seq ?_
    refine w_draw mixed (fun w10 _ Ew10 => ?_)
    replace hg := hg.ext Ew10
    replace hb := hb.ext Ew10
    replace K0 := K0.ext Ew10
    refine wd_free 8 _ rfl rfl rfl rfl ?_
    refine fd [] rfl rfl rfl rfl rfl rfl rfl (fun w' E => ex_move rfl rfl) ?_
    refine fd [] rfl rfl rfl rfl rfl rfl rfl (fun w' E => ex_move rfl rfl) ?_
    refine fd [1] rfl rfl rfl rfl rfl rfl rfl (fun w' E => ex_nil rfl rfl) ?_
    refine fd [2] rfl rfl rfl rfl rfl rfl rfl (fun w' E => ex_fieldAddr fld86_3 rfl rfl) ?_
    refine fd [3] rfl rfl rfl rfl rfl rfl rfl (fun w' E => ex_load one3 rfl rfl (by (first | exact E.cell trivial (hb.cell rc_tab) | exact E.cell trivial (hb.cell (rc_win h64)) | exact E.cell trivial (hb.cell (rc_next h64)) | exact E.cell trivial (hb.cell (rc_cnt h64)) | exact E.cell trivial (hb.cell (rc_sum h64))))) ?_
    refine fd [] rfl rfl rfl rfl rfl rfl rfl (fun w' E => ex_move rfl rfl) ?_
    refine fd [0] rfl rfl rfl rfl rfl rfl rfl (fun w' E => ex_nil rfl rfl) ?_
    refine fd [6] rfl rfl rfl rfl rfl rfl rfl (fun w' E => ex_fieldAddr fld86_1 rfl rfl) ?_
    refine .nil (fun w11 Ew11 _ => ?_)
    replace hg := hg.ext Ew11
    replace hb := hb.ext Ew11
    replace K0 := K0.ext Ew11
    refine wd_v rfl rfl (by kernel_rfl) rfl rfl rfl (ex_indexA Tryd.underlying84 sz5 next rfl rfl rfl rfl (by omega)) ?_
    refine wd_one0 rfl rfl (by kernel_rfl) rfl rfl (ex_store_blk sz5 rfl rfl rfl rfl hb (by rw [rc_length h64]; omega)) ?_
    rintro _ w12 ⟨K3, hb1, s3⟩
    clear hb
    have hb := (show Blk _ _ _ _ from hb1)
    rw [Nat.zero_add, rc_set_ring h64 (by omega)] at hb
    replace hg := hg.keep K3 hgb
    have K0 := K0.trans K3 fun _ _ h => h
    have h64b : (ring.set next x).length = 64 := by rw [List.length_set]; exact h64
    replace h64 := h64b
    refine wd_nil (by decide) rfl ?_
    refine qe_next ?_
    refine w_draw mixed (fun w13 _ Ew13 => ?_)
    replace hg := hg.ext Ew13
    replace hb := hb.ext Ew13
    replace K0 := K0.ext Ew13
    refine wd_free 11 _ rfl rfl rfl rfl ?_
    refine fd [] rfl rfl rfl rfl rfl rfl rfl (fun w' E => ex_move rfl rfl) ?_
    refine fd [] rfl rfl rfl rfl rfl rfl rfl (fun w' E => ex_move rfl rfl) ?_
    refine fd [1] rfl rfl rfl rfl rfl rfl rfl (fun w' E => ex_nil rfl rfl) ?_
    refine fd [2] rfl rfl rfl rfl rfl rfl rfl (fun w' E => ex_fieldAddr fld86_3 rfl rfl) ?_
    refine fd [3] rfl rfl rfl rfl rfl rfl rfl (fun w' E => ex_load one3 rfl rfl (by (first | exact E.cell trivial (hb.cell rc_tab) | exact E.cell trivial (hb.cell (rc_win h64)) | exact E.cell trivial (hb.cell (rc_next h64)) | exact E.cell trivial (hb.cell (rc_cnt h64)) | exact E.cell trivial (hb.cell (rc_sum h64))))) ?_
    refine fd [4] rfl rfl rfl rfl rfl rfl rfl (fun w' E => ex_add rfl rfl rfl (i64_in (by omega) (by omega))) ?_
    refine fd [] rfl rfl rfl rfl rfl rfl rfl (fun w' E => ex_move rfl rfl) ?_
    refine fd [6] rfl rfl rfl rfl rfl rfl rfl (fun w' E => ex_nil rfl rfl) ?_
    refine fd [7] rfl rfl rfl rfl rfl rfl rfl (fun w' E => ex_fieldAddr fld86_2 rfl rfl) ?_
    refine fd [8] rfl rfl rfl rfl rfl rfl rfl (fun w' E => ex_load one3 rfl rfl (by (first | exact E.cell trivial (hb.cell rc_tab) | exact E.cell trivial (hb.cell (rc_win h64)) | exact E.cell trivial (hb.cell (rc_next h64)) | exact E.cell trivial (hb.cell (rc_cnt h64)) | exact E.cell trivial (hb.cell (rc_sum h64))))) ?_
    refine fd [5, 9] rfl rfl rfl rfl rfl rfl rfl (fun w' E => ex_rem rfl rfl rfl (by omega) (tmod_nat (next + 1) win)) ?_
    refine .nil (fun w14 Ew14 _ => ?_)
    replace hg := hg.ext Ew14
    replace hb := hb.ext Ew14
    replace K0 := K0.ext Ew14
    refine wd_v rfl rfl (by kernel_rfl) rfl rfl rfl (ex_nil rfl rfl) ?_
    refine wd_v rfl rfl (by kernel_rfl) rfl rfl rfl (ex_fieldAddr fld86_3 rfl rfl) ?_
    refine wd_one0 rfl rfl (by kernel_rfl) rfl rfl (ex_store_blk sz3 rfl rfl rfl rfl hb (by rw [rc_length h64]; omega)) ?_
    rintro _ w15 ⟨K4, hb1, s4⟩
    clear hb
    have hb := (show Blk _ _ _ _ from hb1)
    rw [Nat.zero_add, rc_set_next h64] at hb
    replace hg := hg.keep K4 hgb
    have K0 := K0.trans K4 fun _ _ h => h
    refine wd_nil (by decide) rfl ?_
    refine qe_end0 rfl ?_
    exact ⟨rfl, ⟨g, ring.set next x, (next + 1) % win, hg, hb, hglt, h64, hw1, hw64, Nat.mod_lt _ (by omega), by rw [lastN_length]; omega, ring_push x (by simpa using h64) hw1 hw64 hnext hlen hring⟩, K0⟩

/-- math/bits.TrailingZeros64 -/
theorem tz_c (x : B64) (w : World) (hT : TabAt w) :
    Ret Tryd.prog 55 [U x] w fun v w' => Dv (.int .i64 (zeros x : Int)) w v w' := by
  refine ret_of Tryd.func55 rfl rfl ?_
  refine w_seq ?_
  refine w_region ?_
  refine sv rfl rfl rfl (ex_assign rfl rfl) ?_
  refine w_nil (qe_next ?_)
  refine w_seq ?_
  refine w_seq ?_
  refine w_region ?_
  refine sv rfl rfl rfl (ex_move rfl rfl) ?_
  refine sv rfl rfl rfl (ex_cmp rfl rfl rfl rfl) ?_
  refine w_nil (qe_next ?_)
  refine w_if rfl (fun hx => ?_) (fun hx => ?_)
  · skip
    have hx0 : x.toNat = 0 := by unfold u64 at hx; omega
    refine w_seq ?_
    refine w_region ?_
    refine sv rfl rfl rfl (ex_assign rfl rfl) ?_
    refine w_nil (qe_next ?_)
    refine w_ret (qe_then_ret (qe_ret1 rfl rfl ?_))
    exact ⟨by simp [zeros, Lib.ctz, hx0], rfl⟩
  · skip
    have hx0 : x.toNat ≠ 0 := fun e => hx (by unfold u64; omega)
    obtain ⟨hlow, hk⟩ := Lib.lowest_bit 64 x.toNat hx0 x.isLt
    obtain ⟨hi, htab⟩ := Lib.deBruijn64_at _ hk
    have hcell := hT _ hi
    rw [htab] at hcell
    have hi64 : _ < 64 := hi
    refine w_skip (qe_next ?_)
    refine w_seq ?_
    refine w_region ?_
    refine sv rfl rfl rfl (ex_move rfl rfl) ?_
    refine sv rfl rfl rfl (ex_move rfl rfl) ?_
    refine sv rfl rfl rfl (ex_neg rfl rfl rfl) ?_
    refine sv rfl rfl rfl (ex_bits rfl (by simp) rfl rfl rfl) ?_
    refine sv rfl rfl rfl (ex_mul rfl rfl rfl rfl) ?_
    refine sv rfl rfl rfl (ex_shr rfl rfl rfl (by omega) (tz_key x.toNat _ x.isLt hx0 hlow)) ?_
    refine sv rfl rfl rfl (ex_indexA Tryd.underlying84 sz5 _ rfl rfl rfl rfl hi64) ?_
    refine sv rfl rfl rfl (ex_load one5 rfl rfl (by simp only [Nat.zero_add]; exact hcell)) ?_
    refine sv rfl rfl rfl (ex_conv Tryd.underlying5 (by simp) Tryd.underlying3 rfl rfl (i64_in (by omega) (by omega))) ?_
    refine sv rfl rfl rfl (ex_assign rfl rfl) ?_
    refine w_nil (qe_next ?_)
    refine w_ret (qe_ret1 rfl rfl ?_)
    exact ⟨by simp [zeros, Lib.ctz, hx0], rfl⟩

/-- kinkeep/rollinghash.Zeros -/
theorem zeros_c (x : B64) (w : World) (hT : TabAt w) :
    Ret Tryd.prog 46 [U x] w fun v w' => Dv (.int .i64 (zeros x : Int)) w v w' := by
  refine ret_of Tryd.func46 rfl rfl ?_
  refine w_seq ?_
  refine w_region ?_
  refine sv rfl rfl rfl (ex_assign rfl rfl) ?_
  refine w_nil (qe_next ?_)
  refine w_seq ?_
  refine w_region ?_
  refine sv rfl rfl rfl (ex_move rfl rfl) ?_
  refine st rfl rfl rfl (ex_call call55 rfl rfl (tz_c x _ hT)) ?_
  rintro _ w1 ⟨rfl, hwe⟩
  obtain rfl := hwe.symm
  refine sv rfl rfl rfl (ex_assign rfl rfl) ?_
  refine w_nil (qe_next ?_)
  refine w_ret (qe_ret1 rfl rfl ?_)
  exact ⟨rfl, rfl⟩

/-- kinkeep/kinkeepref14.Rotate -/
theorem refRot_c (x : B64) (n : Nat) (w : World) (hn : n ≤ 1000) :
    Ret Tryd.prog 56 [U x, .int .i64 (n : Int)] w fun v w' => Dv (U (rot x n)) w v w' := by
  refine ret_of Tryd.func56 rfl rfl ?_
  refine w_seq ?_
  refine w_region ?_
  refine sv rfl rfl rfl (ex_assign rfl rfl) ?_
  refine w_nil (qe_next ?_)
  refine w_seq ?_
  refine w_seq ?_
  refine w_region ?_
  refine sv rfl rfl rfl (ex_assign rfl rfl) ?_
  refine w_nil (qe_next ?_)
  refine w_block ?_
  refine w_loop (ι := Nat) (fun k => [(0, U (rot x k)), (1, .int .i64 (n : Int)), (5, .int .i64 (k : Int))]) (fun k w1 => k ≤ n ∧ w1 = w) (fun k => n - k) (0) ⟨by rw [rot_zero]; rfl, rfl, rfl, trivial⟩ ?_ ?_
  · exact ⟨by omega, rfl⟩
  · rintro k _ ⟨hkn, rfl⟩
    refine w_seq ?_
    refine w_seq ?_
    refine w_region ?_
    refine sv rfl rfl rfl (ex_move rfl rfl) ?_
    refine sv rfl rfl rfl (ex_move rfl rfl) ?_
    refine sv rfl rfl rfl (ex_cmp rfl rfl rfl rfl) ?_
    refine w_nil (qe_next ?_)
    refine w_if rfl (fun hk => ?_) (fun hk => ?_)
    · skip
      replace hk : k < n := by omega
      refine w_skip (qe_next ?_)
      refine w_seq ?_
      refine w_block ?_
      refine w_region ?_
      refine sv rfl rfl rfl (ex_move rfl rfl) ?_
      refine sv rfl rfl rfl (ex_shl rfl rfl rfl (by omega) (u_shl _ 1 (by omega))) ?_
      refine sv rfl rfl rfl (ex_move rfl rfl) ?_
      refine sv rfl rfl rfl (ex_shr rfl rfl rfl (by omega) (u_shr _ 63 (by omega))) ?_
      refine sv rfl rfl rfl (ex_bits rfl (by simp) rfl rfl ((u_or _ _).trans (congrArg u64 (rot_step x k)))) ?_
      refine sv rfl rfl rfl (ex_assign rfl rfl) ?_
      refine w_nil (qe_in_normal (qe_next ?_))
      refine w_region ?_
      refine sv rfl rfl rfl (ex_move rfl rfl) ?_
      refine sv rfl rfl rfl (ex_add rfl rfl rfl (i64_in (by omega) (by omega))) ?_
      refine sv rfl rfl rfl (ex_assign rfl rfl) ?_
      refine w_nil (qe_round (k + 1) ⟨rfl, rfl, rfl, trivial⟩ ?_ ?_)
      · exact ⟨by omega, rfl⟩
      · omega
    · skip
      replace hk : k = n := by omega
      subst hk
      refine w_exit (qe_then_exit (qe_then_exit (qe_in_exit (qe_next ?_))))
      refine w_seq ?_
      refine w_region ?_
      refine sv rfl rfl rfl (ex_move rfl rfl) ?_
      refine sv rfl rfl rfl (ex_assign rfl rfl) ?_
      refine w_nil (qe_next ?_)
      refine w_ret (qe_ret1 rfl rfl ?_)
      exact ⟨rfl, rfl⟩

/-- kinkeep/kinkeepref14.Hash -/
theorem refHash_c (seed : B64) (bs : List UInt8) (A : Option Addr) (c lo hi : Nat) (w : World) (hl : bs.length ≤ 1000) (hr : Rd w lo hi 1 A bs.length (bcells bs)) :
    Ret Tryd.prog 51 [U seed, .slice A bs.length c] w fun v w' => Dv (U (hash seed bs)) w v w' := by
  refine ret_of Tryd.func51 rfl rfl ?_
  refine w_seq ?_
  refine w_region ?_
  refine sv rfl rfl rfl (ex_assign rfl rfl) ?_
  refine w_nil (qe_next ?_)
  refine w_seq ?_
  refine w_region ?_
  refine sv rfl rfl rfl (ex_assign rfl rfl) ?_
  refine w_nil (qe_next ?_)
  refine w_seq ?_
  refine w_seq ?_
  refine w_region ?_
  refine sv rfl rfl rfl (ex_assign rfl rfl) ?_
  refine w_nil (qe_next ?_)
  refine w_block ?_
  refine w_loop (ι := Nat) (fun k => [(0, U seed), (1, .slice A bs.length c), (5, U (refSum seed bs k)), (6, .int .i64 (k : Int))]) (fun k w1 => k ≤ bs.length ∧ w1 = w) (fun k => bs.length - k) (0) ⟨rfl, rfl, rfl, rfl, trivial⟩ ?_ ?_
  · exact ⟨by omega, rfl⟩
  · rintro k _ ⟨hkn, rfl⟩
    refine w_seq ?_
    refine w_seq ?_
    refine w_region ?_
    refine sv rfl rfl rfl (ex_move rfl rfl) ?_
    refine sv rfl rfl rfl (ex_move rfl rfl) ?_
    refine sv rfl rfl rfl (ex_len Tryd.underlying25 rfl rfl) ?_
    refine sv rfl rfl rfl (ex_cmp rfl rfl rfl rfl) ?_
    refine w_nil (qe_next ?_)
    refine w_if rfl (fun hk => ?_) (fun hk => ?_)
    · skip
      replace hk : k < bs.length := by omega
      obtain ⟨b, oo, rfl, hc⟩ := hr.byte hk
      have h256 := u8_lt (bs.getD k 0)
      refine w_skip (qe_next ?_)
      refine w_seq ?_
      refine w_block ?_
      refine w_region ?_
      refine sv rfl rfl rfl (ex_move rfl rfl) ?_
      refine sv rfl rfl rfl (ex_move rfl rfl) ?_
      refine sv rfl rfl rfl (ex_move rfl rfl) ?_
      refine sv rfl rfl rfl (ex_move rfl rfl) ?_
      refine sv rfl rfl rfl (ex_index Tryd.underlying25 sz5 _ rfl rfl rfl rfl (by omega)) ?_
      refine sv rfl rfl rfl (ex_load one5 rfl rfl (by assumption)) ?_
      refine sv rfl rfl rfl (ex_conv Tryd.underlying5 (by simp) Tryd.underlying3 rfl rfl (i64_in (by omega) (by omega))) ?_
      refine st rfl rfl rfl (ex_call call57 rfl rfl (refNum_c seed (bs.getD k 0).toNat _ (by omega))) ?_
      rintro _ w1 ⟨rfl, hwe⟩
      obtain rfl := hwe.symm
      refine sv rfl rfl rfl (ex_move rfl rfl) ?_
      refine sv rfl rfl rfl (ex_len Tryd.underlying25 rfl rfl) ?_
      refine sv rfl rfl rfl (ex_sub rfl rfl rfl (sub_len (by omega))) ?_
      refine sv rfl rfl rfl (ex_move rfl rfl) ?_
      refine sv rfl rfl rfl (ex_sub rfl rfl rfl (sub_len2 (show k ≤ bs.length - 1 by omega) (by omega))) ?_
      refine st rfl rfl rfl (ex_call call56 rfl rfl (refRot_c _ (bs.length - 1 - k) _ (by omega))) ?_
      rintro _ w2 ⟨rfl, hwe⟩
      obtain rfl := hwe.symm
      refine sv rfl rfl rfl (ex_bits rfl (by simp) rfl rfl (u_xor _ _)) ?_
      refine sv rfl rfl rfl (ex_assign rfl rfl) ?_
      refine w_nil (qe_in_normal (qe_next ?_))
      refine w_region ?_
      refine sv rfl rfl rfl (ex_move rfl rfl) ?_
      refine sv rfl rfl rfl (ex_add rfl rfl rfl (i64_in (by omega) (by omega))) ?_
      refine sv rfl rfl rfl (ex_assign rfl rfl) ?_
      refine w_nil (qe_round (k + 1) ⟨rfl, rfl, rfl, rfl, trivial⟩ ?_ ?_)
      · exact ⟨by omega, rfl⟩
      · omega
    · skip
      replace hk : k = bs.length := by omega
      subst hk
      refine w_exit (qe_then_exit (qe_then_exit (qe_in_exit (qe_next ?_))))
      refine w_seq ?_
      refine w_region ?_
      refine sv rfl rfl rfl (ex_move rfl rfl) ?_
      refine sv rfl rfl rfl (ex_assign rfl rfl) ?_
      refine w_nil (qe_next ?_)
      refine w_ret (qe_ret1 rfl rfl ?_)
      exact ⟨by rw [refSum_all], rfl⟩

/-- kinkeep/kinkeepref14.Zeros -/
theorem refZeros_c (x : B64) (w : World) :
    Ret Tryd.prog 50 [U x] w fun v w' => Dv (.int .i64 (zeros x : Int)) w v w' := by
  refine ret_of Tryd.func50 rfl rfl ?_
  refine w_seq ?_
  refine w_region ?_
  refine sv rfl rfl rfl (ex_assign rfl rfl) ?_
  refine w_nil (qe_next ?_)
  refine w_seq ?_
  refine w_region ?_
  refine sv rfl rfl rfl (ex_assign rfl rfl) ?_
  refine w_nil (qe_next ?_)
  refine w_seq ?_
  refine w_block ?_
  refine w_loop (ι := Nat) (fun k => [(0, U x), (3, .int .i64 (k : Int))]) (fun k w1 => k ≤ 64 ∧ (∀ i, i < k → x.getLsbD i = false) ∧ w1 = w) (fun k => 64 - k) (0) ⟨rfl, rfl, trivial⟩ ?_ ?_
  · exact ⟨by omega, fun i hi => by omega, rfl⟩
  · rintro k _ ⟨hk64, hlow, rfl⟩
    refine w_seq ?_
    refine w_seq ?_
    refine w_region ?_
    refine sv rfl rfl rfl (ex_move rfl rfl) ?_
    refine sv_if rfl rfl rfl (ex_cmp rfl rfl rfl rfl) (fun hk => ?_) (fun hk => ?_)
    · skip
      replace hk : k < 64 := by omega
      refine sv rfl rfl rfl (ex_move rfl rfl) ?_
      first | refine sk rfl rfl rfl ?_ | refine sv rfl rfl rfl (ex_move rfl rfl) ?_
      first | refine sk rfl rfl rfl ?_ | refine sv rfl rfl rfl (ex_move rfl rfl) ?_
      first | refine sk rfl rfl rfl ?_ | refine sv rfl rfl rfl (ex_shr rfl rfl rfl (by omega) (u_shr x k (by omega))) ?_
      first | refine sk rfl rfl rfl ?_ | refine sv rfl rfl rfl (ex_bits rfl (by simp) rfl rfl ((u_low _).trans (by rw [shr_low]))) ?_
      refine sv_if rfl rfl rfl (ex_cmp rfl rfl rfl rfl) (fun hb => ?_) (fun hb => ?_)
      · skip
        have hbit : x.getLsbD k = false := by cases h : x.getLsbD k with | false => rfl | true => simp [h] at hb
        first | refine sv rfl rfl rfl (ex_pick_t rfl rfl rfl) ?_ | refine sv rfl rfl rfl (ex_pick_f rfl rfl rfl) ?_
        refine w_nil (qe_next ?_)
        refine w_cond_t rfl ?_
        refine w_skip (qe_next ?_)
        refine w_block ?_
        refine w_region ?_
        refine sv rfl rfl rfl (ex_move rfl rfl) ?_
        refine sv rfl rfl rfl (ex_add rfl rfl rfl (i64_in (by omega) (by omega))) ?_
        refine sv rfl rfl rfl (ex_assign rfl rfl) ?_
        refine w_nil (qe_in_normal (qe_round (k + 1) ⟨rfl, rfl, trivial⟩ ?_ ?_))
        · exact ⟨by omega, fun i hi => (if e : i = k then (by rw [e]; exact hbit) else hlow i (by omega)), rfl⟩
        · omega
      · skip
        have hbit : x.getLsbD k = true := by cases h : x.getLsbD k with | true => rfl | false => simp [h] at hb
        first | refine sv rfl rfl rfl (ex_pick_t rfl rfl rfl) ?_ | refine sv rfl rfl rfl (ex_pick_f rfl rfl rfl) ?_
        refine w_nil (qe_next ?_)
        refine w_cond_f rfl ?_
        refine w_exit (qe_then_exit (qe_then_exit (qe_in_exit (qe_next ?_))))
        refine w_seq ?_
        refine w_region ?_
        refine sv rfl rfl rfl (ex_move rfl rfl) ?_
        refine sv rfl rfl rfl (ex_assign rfl rfl) ?_
        refine w_nil (qe_next ?_)
        refine w_ret (qe_ret1 rfl rfl ?_)
        exact ⟨by rw [zeros_of x k hlow (.inr ⟨hk, hbit⟩)], rfl⟩
    · skip
      replace hk : k = 64 := by omega
      refine sv rfl rfl rfl (ex_move rfl rfl) ?_
      first | refine sk rfl rfl rfl ?_ | refine sv rfl rfl rfl (ex_move rfl rfl) ?_
      first | refine sk rfl rfl rfl ?_ | refine sv rfl rfl rfl (ex_move rfl rfl) ?_
      first | refine sk rfl rfl rfl ?_ | refine sv rfl rfl rfl (ex_shr rfl rfl rfl (by omega) (u_shr x k (by omega))) ?_
      first | refine sk rfl rfl rfl ?_ | refine sv rfl rfl rfl (ex_bits rfl (by simp) rfl rfl ((u_low _).trans (by rw [shr_low]))) ?_
      refine sk rfl rfl rfl ?_
      first | refine sv rfl rfl rfl (ex_pick_t rfl rfl rfl) ?_ | refine sv rfl rfl rfl (ex_pick_f rfl rfl rfl) ?_
      refine w_nil (qe_next ?_)
      refine w_cond_f rfl ?_
      refine w_exit (qe_then_exit (qe_then_exit (qe_in_exit (qe_next ?_))))
      refine w_seq ?_
      refine w_region ?_
      refine sv rfl rfl rfl (ex_move rfl rfl) ?_
      refine sv rfl rfl rfl (ex_assign rfl rfl) ?_
      refine w_nil (qe_next ?_)
      refine w_ret (qe_ret1 rfl rfl ?_)
      exact ⟨by rw [zeros_of x k hlow (.inl hk)], rfl⟩
end Go.Proofs.YtfgpcmphcnhbiaaDoor

/- The law RollinghashHashes, walked. -/
import Derived.Test.YtjdjplfkfpfifaaDoorP
namespace Go.Proofs.YtjdjplfkfpfifaaDoor
open Go Go.RowKit
set_option linter.unusedVariables false
set_option linter.unusedSimpArgs false
/-- kinkeep/kinkeeplaw14.RollinghashHashes -/
theorem hashes_big (seed : B64) (A : Option Addr) (c lo hi : Nat) (bs : List UInt8) (w : World) (hr : Rd w lo hi 1 A bs.length (bcells bs)) (hT : TabAt w) (h64 : 64 < bs.length) :
    Ret Tryd.prog 7 [U seed, .slice A bs.length c] w fun v w' => v = .bool true ∧ Ext w w' := by
  have K0 : Ext w w := Keep.refl _ _
  refine ret_of Tryd.func7 rfl rfl ?_
  refine w_seq ?_
  refine w_region ?_
  refine sv rfl rfl rfl (ex_assign rfl rfl) ?_
  refine w_nil (qe_next ?_)
  refine w_seq ?_
  refine w_seq ?_
  refine w_region ?_
  refine sv rfl rfl rfl (ex_move rfl rfl) ?_
  refine sv rfl rfl rfl (ex_len Tryd.underlying28 rfl rfl) ?_
  refine sv rfl rfl rfl (ex_cmp rfl rfl rfl rfl) ?_
  refine w_nil (qe_next ?_)
  refine w_if rfl (fun h70 => ?_) (fun h70 => ?_)
  · skip
    refine w_seq ?_
    refine w_region ?_
    refine st rfl rfl rfl (ex_call call13 rfl rfl (awake_c _ (hT.ext K0) (Nat.lt_of_lt_of_le hT.pos K0.size))) ?_
    rintro _ w1 ⟨rfl, E9⟩
    replace K0 := K0.ext E9
    refine sv rfl rfl rfl (ex_assign rfl rfl) ?_
    refine w_nil (qe_next ?_)
    refine w_ret (qe_then_ret (qe_ret1 rfl rfl ?_))
    exact ⟨rfl, K0⟩
  · skip
    refine w_skip (qe_next ?_)
    refine w_seq ?_
    refine w_region ?_
    refine sv rfl rfl rfl (ex_move rfl rfl) ?_
    refine sv rfl rfl rfl (ex_move rfl rfl) ?_
    refine st rfl rfl rfl (ex_call call24 rfl rfl (ofBig_c seed A bs.length c _ h64)) ?_
    rintro _ w2 ⟨rfl, E3⟩
    replace K0 := K0.ext E3
    refine sv rfl rfl rfl (ex_move rfl rfl) ?_
    refine sv rfl rfl rfl (ex_extract rfl rfl rfl) ?_
    refine sv rfl rfl rfl (ex_extract rfl rfl rfl) ?_
    refine sv rfl rfl rfl (ex_assign rfl rfl) ?_
    refine sv rfl rfl rfl (ex_assign rfl rfl) ?_
    refine w_nil (qe_next ?_)
    refine w_seq ?_
    refine w_seq ?_
    refine w_region ?_
    refine sv rfl rfl rfl (ex_move rfl rfl) ?_
    refine sv rfl rfl rfl (ex_len Tryd.underlying28 rfl rfl) ?_
    refine sv rfl rfl rfl (ex_cmp rfl rfl rfl (congrArg some (decide_eq_true (by omega)))) ?_
    refine w_nil (qe_next ?_)
    refine w_cond_t rfl ?_
    refine w_seq ?_
    refine w_region ?_
    refine st rfl rfl rfl (ex_call call13 rfl rfl (awake_c _ (hT.ext K0) (Nat.lt_of_lt_of_le hT.pos K0.size))) ?_
    rintro _ w3 ⟨rfl, E9⟩
    replace K0 := K0.ext E9
    refine sv rfl rfl rfl (ex_move rfl rfl) ?_
    first | refine sk rfl rfl rfl ?_ | refine sv rfl rfl rfl (ex_move rfl rfl) ?_
    first | refine sk rfl rfl rfl ?_ | refine sv rfl rfl rfl (ex_cmp rfl rfl rfl (congrArg some (decide_eq_true (rfl)))) ?_
    first | refine sv rfl rfl rfl (ex_pick_t rfl rfl rfl) ?_ | refine sv rfl rfl rfl (ex_pick_f rfl rfl rfl) ?_
    refine sv rfl rfl rfl (ex_move rfl rfl) ?_
    first | refine sk rfl rfl rfl ?_ | refine sv rfl rfl rfl (ex_move rfl rfl) ?_
    first | refine sk rfl rfl rfl ?_ | refine sv rfl rfl rfl (ex_cmp rfl rfl rfl (congrArg some (decide_eq_true (rfl)))) ?_
    first | refine sv rfl rfl rfl (ex_pick_t rfl rfl rfl) ?_ | refine sv rfl rfl rfl (ex_pick_f rfl rfl rfl) ?_
    refine sv rfl rfl rfl (ex_assign rfl rfl) ?_
    refine w_nil (qe_next ?_)
    refine w_ret (qe_then_ret (qe_ret1 rfl rfl ?_))
    exact ⟨rfl, K0⟩
/-- kinkeep/kinkeeplaw14.RollinghashHashes -/
theorem hashes_small (seed : B64) (A : Option Addr) (c lo hi : Nat) (bs : List UInt8) (w : World) (hr : Rd w lo hi 1 A bs.length (bcells bs)) (hT : TabAt w) (h64 : ¬ 64 < bs.length) :
    Ret Tryd.prog 7 [U seed, .slice A bs.length c] w fun v w' => v = .bool true ∧ Ext w w' := by
  have K0 : Ext w w := Keep.refl _ _
  refine ret_of Tryd.func7 rfl rfl ?_
  refine w_seq ?_
  refine w_region ?_
  refine sv rfl rfl rfl (ex_assign rfl rfl) ?_
  refine w_nil (qe_next ?_)
  refine w_seq ?_
  refine w_seq ?_
  refine w_region ?_
  refine sv rfl rfl rfl (ex_move rfl rfl) ?_
  refine sv rfl rfl rfl (ex_len Tryd.underlying28 rfl rfl) ?_
  refine sv rfl rfl rfl (ex_cmp rfl rfl rfl rfl) ?_
  refine w_nil (qe_next ?_)
  refine w_if rfl (fun h70 => ?_) (fun h70 => ?_)
  · skip
    refine w_seq ?_
    refine w_region ?_
    refine st rfl rfl rfl (ex_call call13 rfl rfl (awake_c _ (hT.ext K0) (Nat.lt_of_lt_of_le hT.pos K0.size))) ?_
    rintro _ w1 ⟨rfl, E9⟩
    replace K0 := K0.ext E9
    refine sv rfl rfl rfl (ex_assign rfl rfl) ?_
    refine w_nil (qe_next ?_)
    refine w_ret (qe_then_ret (qe_ret1 rfl rfl ?_))
    exact ⟨rfl, K0⟩
  · skip
    refine w_skip (qe_next ?_)
    refine w_seq ?_
    refine w_region ?_
    refine sv rfl rfl rfl (ex_move rfl rfl) ?_
    refine sv rfl rfl rfl (ex_move rfl rfl) ?_
    refine st rfl rfl rfl (ex_call call24 rfl rfl (of_c seed A bs.length c lo hi bs _ rfl (hr.ext K0) (by omega))) ?_
    rintro _ w2 ⟨rfl, E3⟩
    replace K0 := K0.ext E3
    refine sv rfl rfl rfl (ex_move rfl rfl) ?_
    refine sv rfl rfl rfl (ex_extract rfl rfl rfl) ?_
    refine sv rfl rfl rfl (ex_extract rfl rfl rfl) ?_
    refine sv rfl rfl rfl (ex_assign rfl rfl) ?_
    refine sv rfl rfl rfl (ex_assign rfl rfl) ?_
    refine w_nil (qe_next ?_)
    refine w_seq ?_
    refine w_seq ?_
    refine w_region ?_
    refine sv rfl rfl rfl (ex_move rfl rfl) ?_
    refine sv rfl rfl rfl (ex_len Tryd.underlying28 rfl rfl) ?_
    refine sv rfl rfl rfl (ex_cmp rfl rfl rfl (congrArg some (decide_eq_false (by omega)))) ?_
    refine w_nil (qe_next ?_)
    refine w_cond_f rfl ?_
    refine w_skip (qe_next ?_)
    refine w_seq ?_
    refine w_region ?_
    refine st rfl rfl rfl (ex_call call13 rfl rfl (awake_c _ (hT.ext K0) (Nat.lt_of_lt_of_le hT.pos K0.size))) ?_
    rintro _ w3 ⟨rfl, E9⟩
    replace K0 := K0.ext E9
    refine sv rfl rfl rfl (ex_move rfl rfl) ?_
    first | refine sk rfl rfl rfl ?_ | refine sv rfl rfl rfl (ex_move rfl rfl) ?_
    first | refine sk rfl rfl rfl ?_ | refine sv rfl rfl rfl (ex_cmp rfl rfl rfl (congrArg some (decide_eq_true (rfl)))) ?_
    first | refine sv rfl rfl rfl (ex_pick_t rfl rfl rfl) ?_ | refine sv rfl rfl rfl (ex_pick_f rfl rfl rfl) ?_
    refine sv rfl rfl rfl (ex_move rfl rfl) ?_
    first | refine sk rfl rfl rfl ?_ | refine sv rfl rfl rfl (ex_move rfl rfl) ?_
    first | refine sk rfl rfl rfl ?_ | refine sv rfl rfl rfl (ex_move rfl rfl) ?_
    first | refine sk rfl rfl rfl ?_ | refine sv rfl rfl rfl (ex_move rfl rfl) ?_
    refine st rfl rfl rfl (ex_call call20 rfl rfl (refHash_c seed bs A c lo hi _ (by omega) (hr.ext K0))) ?_
    rintro _ w4 ⟨rfl, hwe⟩
    obtain rfl := hwe.symm
    first | refine sk rfl rfl rfl ?_ | refine sv rfl rfl rfl (ex_cmp rfl rfl rfl (congrArg some (decide_eq_true (rfl)))) ?_
    first | refine sv rfl rfl rfl (ex_pick_t rfl rfl rfl) ?_ | refine sv rfl rfl rfl (ex_pick_f rfl rfl rfl) ?_
    refine sv rfl rfl rfl (ex_assign rfl rfl) ?_
    refine w_nil (qe_next ?_)
    refine w_ret (qe_ret1 rfl rfl ?_)
    exact ⟨rfl, K0⟩
theorem hashes_law (seed : B64) (A : Option Addr) (c lo hi : Nat) (bs : List UInt8) (w : World) (hr : Rd w lo hi 1 A bs.length (bcells bs)) (hT : TabAt w) : Ret Tryd.prog 7 [U seed, .slice A bs.length c] w fun v w' => v = .bool true ∧ Ext w w' :=
  if h : 64 < bs.length then hashes_big seed A c lo hi bs w hr hT h else hashes_small seed A c lo hi bs w hr hT h
end Go.Proofs.YtjdjplfkfpfifaaDoor

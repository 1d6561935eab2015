/- What the laws of the chapter share. -/
import Derived.Test.YtjdjplfkfpfifaaDoorW
namespace Go.Proofs.YtjdjplfkfpfifaaDoor
open Go Go.RowKit
set_option linter.unusedVariables false
set_option linter.unusedSimpArgs false

theorem TabAt.pos {w : World} (h : TabAt w) : 0 < w.heap.size := by
  have := World.block_lt_of_cell? w _ (h 0 (by decide))
  omega
theorem take_snoc {l : List UInt8} {k : Nat} (h : k < l.length) : l.take (k + 1) = l.take k ++ [l.getD k 0] := by
  rw [List.take_succ_eq_append_getElem h]
  simp [List.getD, List.getElem?_eq_getElem h]
theorem lastN_take {n k : Nat} {l : List UInt8} (h : k < l.length) : lastN n (lastN n (l.take k) ++ [l.getD k 0]) = lastN n (l.take (k + 1)) := by rw [lastN_snoc, ← take_snoc h]
theorem lastN_take' {n k : Nat} {l s : List UInt8} (h : k < l.length) : lastN n (lastN n (s ++ l.take k) ++ [l.getD k 0]) = lastN n (s ++ l.take (k + 1)) := by rw [lastN_snoc, List.append_assoc, ← take_snoc h]
theorem lastN_nil (n : Nat) : lastN n [] = [] := by simp [lastN]
/-- the cut to the last bytes of a window -/
def lastA (A : Option Addr) (c m win : Nat) : Option Addr := if win < m then (if c = m - win then A else A.map (·.add ((m - win) * 1))) else A
theorem Rd.last {w : World} {lo hi m c win : Nat} {A : Option Addr} {bs : List UInt8} (h : Rd w lo hi 1 A m (bcells bs)) (hc : m ≤ c) : Rd w lo hi 1 (lastA A c m win) (min win m) (bcells (lastN win bs)) := by
  have hm : m = bs.length := by have := h.1; simpa using this.symm
  subst hm
  unfold lastA
  split
  · rename_i hlt
    have := h.cut (l := bs.length - win) (hh := bs.length) (by omega) (Nat.le_refl _) hc
    rw [show min win bs.length = bs.length - (bs.length - win) by omega]
    have e : ((bcells bs).drop ((bs.length - win) * 1)).take ((bs.length - (bs.length - win)) * 1) = bcells (lastN win bs) := by
      rw [List.take_of_length_le (by simp)]
      simp [bcells, lastN]
    rwa [e] at this
  · rename_i hlt
    rw [show min win bs.length = bs.length by omega, lastN_all (by omega)]
    exact h
/-- kinkeep/kinkeepref14.Window -/
theorem refWin_c (n : Int) (w : World) :
    Ret Tryd.prog 19 [.int .i64 n] w fun v w' => Dv (.int .i64 (winOf n : Int)) w v w' := by
  refine ret_of Tryd.func19 rfl rfl ?_
  refine w_seq ?_
  refine w_region ?_
  refine sv rfl rfl rfl (ex_assign rfl rfl) ?_
  refine w_nil (qe_next ?_)
  refine w_seq ?_
  refine w_seq ?_
  refine w_region ?_
  refine sv rfl rfl rfl (ex_move rfl rfl) ?_
  refine sv rfl rfl rfl (ex_cmp rfl rfl rfl rfl) ?_
  refine w_nil (qe_next ?_)
  refine w_if rfl (fun h1 => ?_) (fun h1 => ?_)
  · skip
    refine w_seq ?_
    refine w_region ?_
    refine sv rfl rfl rfl (ex_assign rfl rfl) ?_
    refine w_nil (qe_next ?_)
    refine w_ret (qe_then_ret (qe_ret1 rfl rfl ?_))
    exact ⟨congrArg (Value.int .i64) (by unfold winOf; omega), rfl⟩
  · skip
    refine w_skip (qe_next ?_)
    refine w_seq ?_
    refine w_seq ?_
    refine w_region ?_
    refine sv rfl rfl rfl (ex_move rfl rfl) ?_
    refine sv rfl rfl rfl (ex_cmp rfl rfl rfl rfl) ?_
    refine w_nil (qe_next ?_)
    refine w_if rfl (fun h2 => ?_) (fun h2 => ?_)
    · skip
      refine w_seq ?_
      refine w_region ?_
      refine sv rfl rfl rfl (ex_assign rfl rfl) ?_
      refine w_nil (qe_next ?_)
      refine w_ret (qe_then_ret (qe_ret1 rfl rfl ?_))
      exact ⟨congrArg (Value.int .i64) (by unfold winOf; omega), rfl⟩
    · skip
      refine w_skip (qe_next ?_)
      refine w_seq ?_
      refine w_region ?_
      refine sv rfl rfl rfl (ex_move rfl rfl) ?_
      refine sv rfl rfl rfl (ex_assign rfl rfl) ?_
      refine w_nil (qe_next ?_)
      refine w_ret (qe_ret1 rfl rfl ?_)
      exact ⟨congrArg (Value.int .i64) (by unfold winOf; omega), rfl⟩

/-- kinkeep/kinkeepref14.Last -/
theorem refLast_c (A : Option Addr) (m c : Nat) (win : Nat) (w : World) (hm : m ≤ c) (hc : c ≤ 140737488351232) (hw : win ≤ 1000) :
    Ret Tryd.prog 18 [.slice A m c, .int .i64 (win : Int)] w fun v w' => Dv (.slice (lastA A c m win) (min win m) (c - (m - win))) w v w' := by
  refine ret_of Tryd.func18 rfl rfl ?_
  refine w_seq ?_
  refine w_region ?_
  refine sv rfl rfl rfl (ex_assign rfl rfl) ?_
  refine w_nil (qe_next ?_)
  refine w_seq ?_
  refine w_seq ?_
  refine w_region ?_
  refine sv rfl rfl rfl (ex_move rfl rfl) ?_
  refine sv rfl rfl rfl (ex_len Tryd.underlying28 rfl rfl) ?_
  refine sv rfl rfl rfl (ex_move rfl rfl) ?_
  refine sv rfl rfl rfl (ex_cmp rfl rfl rfl rfl) ?_
  refine w_nil (qe_next ?_)
  refine w_if rfl (fun h1 => ?_) (fun h1 => ?_)
  · skip
    replace h1 : win < m := by omega
    refine w_seq ?_
    refine w_region ?_
    refine sv rfl rfl rfl (ex_move rfl rfl) ?_
    refine sv rfl rfl rfl (ex_move rfl rfl) ?_
    refine sv rfl rfl rfl (ex_len Tryd.underlying28 rfl rfl) ?_
    refine sv rfl rfl rfl (ex_move rfl rfl) ?_
    refine sv rfl rfl rfl (ex_sub rfl rfl rfl (i64_in (by omega) (by omega))) ?_
    refine sv rfl rfl rfl (ex_slice Tryd.underlying28 sz5 (m - win) m rfl rfl (.inr ⟨_, _, _, rfl, rfl, by omega⟩) (.inl ⟨rfl, rfl⟩) (by omega) hm) ?_
    refine sv rfl rfl rfl (ex_assign rfl rfl) ?_
    refine w_nil (qe_next ?_)
    refine w_ret (qe_then_ret (qe_ret1 rfl rfl ?_))
    exact ⟨by simp only [lastA, if_pos h1]; rw [show m - (m - win) = min win m by omega], rfl⟩
  · skip
    replace h1 : m ≤ win := by omega
    refine w_skip (qe_next ?_)
    refine w_seq ?_
    refine w_region ?_
    refine sv rfl rfl rfl (ex_move rfl rfl) ?_
    refine sv rfl rfl rfl (ex_assign rfl rfl) ?_
    refine w_nil (qe_next ?_)
    refine w_ret (qe_ret1 rfl rfl ?_)
    exact ⟨by simp only [lastA, if_neg (Nat.not_lt.2 h1)]; rw [show min win m = m by omega, show c - (m - win) = c by omega], rfl⟩

/-- kinkeep/rollinghash.Of -/
theorem of_c (seed : B64) (A : Option Addr) (m c lo hi : Nat) (bs : List UInt8) (w : World) (hm : m = bs.length) (hr : Rd w lo hi 1 A m (bcells bs)) (h64 : bs.length ≤ 64) :
    Ret Tryd.prog 24 [U seed, .slice A m c] w fun v w' => v = .tuple #[U (hash seed bs), .int .i64 0] ∧ Ext w w' := by
  have K0 : Ext w w := Keep.refl _ _
  refine ret_of Tryd.func24 rfl rfl ?_
  refine w_seq ?_
  refine w_region ?_
  refine sv rfl rfl rfl (ex_assign rfl rfl) ?_
  refine sv rfl rfl rfl (ex_assign rfl rfl) ?_
  refine w_nil (qe_next ?_)
  refine w_seq ?_
  refine w_seq ?_
  refine w_region ?_
  refine sv rfl rfl rfl (ex_move rfl rfl) ?_
  refine sv rfl rfl rfl (ex_len Tryd.underlying28 rfl rfl) ?_
  refine sv rfl rfl rfl (ex_cmp rfl rfl rfl (congrArg some (decide_eq_false (by omega)))) ?_
  refine w_nil (qe_next ?_)
  refine w_cond_f rfl ?_
  refine w_skip (qe_next ?_)
  refine w_seq ?_
  refine w_region ?_
  refine sv rfl rfl rfl (ex_move rfl rfl) ?_
  refine st rfl rfl rfl (ex_call call11 rfl rfl (table_c seed _)) ?_
  rintro _ w1 ⟨g, rfl, hg0, hg, E1⟩
  replace K0 := K0.ext E1
  refine sv rfl rfl rfl (ex_assign rfl rfl) ?_
  refine w_nil (qe_next ?_)
  refine w_seq ?_
  subst hm
  refine w_region ?_
  refine sv rfl rfl rfl (ex_assign rfl rfl) ?_
  refine w_nil (qe_next ?_)
  refine w_seq ?_
  refine w_seq ?_
  refine w_region ?_
  refine sv rfl rfl rfl (ex_move rfl rfl) ?_
  refine sv rfl rfl rfl (ex_len Tryd.underlying28 rfl rfl) ?_
  refine sv rfl rfl rfl (ex_move rfl rfl) ?_
  refine w_nil (qe_next ?_)
  refine w_block ?_
  refine w_loop (ι := Nat) (fun k => [(0, U seed), (6, .slice (some ⟨g, 0, none⟩) 256 256), (7, U (hash seed (bs.take k))), (15, .slice A bs.length c), (16, .int .i64 (bs.length : Int)), (17, .int .i64 (k : Int))]) (fun k w1 => k ≤ bs.length ∧ Blk w1 g 22 (tcells seed) ∧ Ext w w1) (fun k => bs.length - k) (0) ⟨rfl, rfl, rfl, rfl, rfl, rfl, trivial⟩ ?_ ?_
  · exact ⟨by omega, hg, K0⟩
  · clear hg hg0 K0
    rintro k w1 ⟨hk, hg, K0⟩
    refine w_seq ?_
    refine w_region ?_
    refine sv rfl rfl rfl (ex_cmp rfl rfl rfl rfl) ?_
    refine w_nil (qe_next ?_)
    refine w_seq ?_
    refine w_if rfl (fun hk2 => ?_) (fun hk2 => ?_)
    · skip
      replace hk2 : k < bs.length := by omega
      obtain ⟨bb, oo, rfl, hc⟩ := (hr.ext K0).byte hk2
      have h256 := u8_lt (bs.getD k 0)
      refine w_skip (qe_next ?_)
      refine w_seq ?_
      refine w_block ?_
      refine w_seq ?_
      refine w_region ?_
      refine sv rfl rfl rfl (ex_index Tryd.underlying28 sz5 _ rfl rfl rfl rfl (by omega)) ?_
      refine sv rfl rfl rfl (ex_load one5 rfl rfl (by assumption)) ?_
      refine sv rfl rfl rfl (ex_assign rfl rfl) ?_
      refine w_nil (qe_next ?_)
      refine w_draw mixed (fun w2 _ Ew2 => ?_)
      replace hg := hg.ext Ew2
      replace K0 := K0.ext Ew2
      refine wd_free 6 _ rfl rfl rfl rfl ?_
      refine fd [] rfl rfl rfl rfl rfl rfl rfl (fun w' E => ex_move rfl rfl) ?_
      refine fe [0] rfl rfl rfl rfl rfl rfl rfl (fun w' E => ex_call call27 rfl rfl ((rot_c (hash seed (bs.take k)) 1 _ (by omega)).ext)) ?_
      refine fd [] rfl rfl rfl rfl rfl rfl rfl (fun w' E => ex_move rfl rfl) ?_
      refine fd [] rfl rfl rfl rfl rfl rfl rfl (fun w' E => ex_move rfl rfl) ?_
      refine fd [2, 3] rfl rfl rfl rfl rfl rfl rfl (fun w' E => ex_index Tryd.underlying23 sz22 (bs.getD k 0).toNat rfl rfl rfl rfl (by omega)) ?_
      refine fd [4] rfl rfl rfl rfl rfl rfl rfl (fun w' E => ex_load one22 rfl rfl (by simp only [Nat.zero_add]; exact E.cell trivial (hg.cell (tcells_get seed h256)))) ?_
      refine .nil (fun w3 Ew3 _ => ?_)
      replace hg := hg.ext Ew3
      replace K0 := K0.ext Ew3
      refine wd_v rfl rfl (by kernel_rfl) rfl rfl rfl (ex_bits rfl (by simp) rfl rfl ((u_xor _ _).trans (by rw [← hash_snoc, ← take_snoc hk2]))) ?_
      refine wd_v rfl rfl (by kernel_rfl) rfl rfl rfl (ex_assign rfl rfl) ?_
      refine wd_nil (by decide) rfl ?_
      refine qe_in_normal (qe_next ?_)
      refine w_region ?_
      refine sv rfl rfl rfl (ex_add rfl rfl rfl (i64_in (by omega) (by omega))) ?_
      refine sv rfl rfl rfl (ex_move rfl rfl) ?_
      refine w_nil (qe_round (k + 1) ⟨rfl, rfl, rfl, rfl, rfl, rfl, trivial⟩ ?_ ?_)
      · exact ⟨by omega, hg, K0⟩
      · omega
    · skip
      replace hk2 : k = bs.length := by omega
      subst hk2
      refine w_exit (qe_then_exit (qe_then_exit (qe_in_exit (qe_next ?_))))
      refine w_seq ?_
      refine w_region ?_
      refine sv rfl rfl rfl (ex_move rfl rfl) ?_
      refine sv rfl rfl rfl (ex_assign rfl rfl) ?_
      refine sv rfl rfl rfl (ex_assign rfl rfl) ?_
      refine w_nil (qe_next ?_)
      refine w_ret (qe_ret2 rfl rfl rfl ?_)
      exact ⟨by rw [List.take_length], K0⟩

/-- kinkeep/rollinghash.Of -/
theorem ofBig_c (seed : B64) (A : Option Addr) (m c : Nat) (w : World) (hm : 64 < m) :
    Ret Tryd.prog 24 [U seed, .slice A m c] w fun v w' => v = .tuple #[U 0#64, .int .i64 1] ∧ Ext w w' := by
  refine ret_of Tryd.func24 rfl rfl ?_
  refine w_seq ?_
  refine w_region ?_
  refine sv rfl rfl rfl (ex_assign rfl rfl) ?_
  refine sv rfl rfl rfl (ex_assign rfl rfl) ?_
  refine w_nil (qe_next ?_)
  refine w_seq ?_
  refine w_seq ?_
  refine w_region ?_
  refine sv rfl rfl rfl (ex_move rfl rfl) ?_
  refine sv rfl rfl rfl (ex_len Tryd.underlying28 rfl rfl) ?_
  refine sv rfl rfl rfl (ex_cmp rfl rfl rfl (congrArg some (decide_eq_true (by omega)))) ?_
  refine w_nil (qe_next ?_)
  refine w_cond_t rfl ?_
  refine w_seq ?_
  refine w_region ?_
  refine sv rfl rfl rfl (ex_assign rfl rfl) ?_
  refine sv rfl rfl rfl (ex_assign rfl rfl) ?_
  refine w_nil (qe_next ?_)
  refine w_ret (qe_then_ret (qe_ret2 rfl rfl rfl ?_))
  exact ⟨rfl, Keep.refl _ _⟩

theorem refHash_m (seed : B64) (A : Option Addr) (m c lo hi : Nat) (bs : List UInt8) (w : World) (hm : m = bs.length) (hl : bs.length ≤ 1000) (hr : Rd w lo hi 1 A m (bcells bs)) : Ret Tryd.prog 20 [U seed, .slice A m c] w fun v w' => Dv (U (hash seed bs)) w v w' := by
  subst hm
  exact refHash_c seed bs A c lo hi w hl hr
end Go.Proofs.YtjdjplfkfpfifaaDoor

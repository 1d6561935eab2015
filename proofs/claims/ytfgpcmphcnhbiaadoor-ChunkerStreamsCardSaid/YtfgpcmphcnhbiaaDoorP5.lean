/- A change, in plain Lean. -/
import Derived.Test.YtfgpcmphcnhbiaaDoorP4
namespace Go.Proofs.YtfgpcmphcnhbiaaDoor
open Go Go.RowKit
set_option linter.unusedVariables false
set_option linter.unusedSimpArgs false
/-! ### a change, as the law makes it -/
def outs (a b : Int) (l : List Nat) : List Nat := l.filter (outq a b)
theorem outs_snoc_yes {a b : Int} {l : List Nat} {p : Nat} (h : (p : Int) < a ∨ b < (p : Int)) : outs a b (l ++ [p]) = outs a b l ++ [p] := by
  unfold outs
  rw [List.filter_append]
  have : outq a b p = true := by
    unfold outq
    rcases h with h | h
    · rw [decide_eq_true h]; rfl
    · rw [decide_eq_true h, Bool.or_true]
  simp [this]
theorem outs_snoc_no {a b : Int} {l : List Nat} {p : Nat} (h : ¬ ((p : Int) < a ∨ b < (p : Int))) : outs a b (l ++ [p]) = outs a b l := by
  unfold outs
  rw [List.filter_append]
  have : outq a b p = false := by
    unfold outq
    rw [decide_eq_false (fun e => h (.inl e)), decide_eq_false (fun e => h (.inr e))]
    rfl
  simp [this]
theorem outs_length (a b : Int) (l : List Nat) : (outs a b l).length ≤ l.length := List.length_filter_le _ _
def changed (bs : List UInt8) (n : Nat) (ch : List UInt8) : List UInt8 := bs.take n ++ ch ++ bs.drop (n + ch.length)
theorem changed_length {bs ch : List UInt8} {n : Nat} (h : n + ch.length ≤ bs.length) : (changed bs n ch).length = bs.length := by
  unfold changed
  simp
  omega
theorem outs_eq (q : Vut) (bs ch : List UInt8) (n : Nat) (h : n + ch.length ≤ bs.length) :
    outs ((n : Int) + 1) ((n : Int) + (ch.length : Int) + q.wi + q.mn - 2) (prims q bs bs.length) = outs ((n : Int) + 1) ((n : Int) + (ch.length : Int) + q.wi + q.mn - 2) (prims q (changed bs n ch) (changed bs n ch).length) := by
  have h1 : bs = bs.take n ++ (bs.drop n).take ch.length ++ bs.drop (n + ch.length) := by
    rw [← List.take_add, List.take_append_drop]
  have := local_eq q (bs.take n) ((bs.drop n).take ch.length) ch (bs.drop (n + ch.length)) (by simp; omega)
  rw [← h1] at this
  have e1 : (bs.take n).length = n := by simp; omega
  have e2 : ((bs.drop n).take ch.length).length = ch.length := by simp; omega
  rw [e1, e2] at this
  unfold outs changed
  rw [show ((n : Int) + (ch.length : Int) + q.wi + q.mn - 2) = (((n + ch.length : Nat) : Int) + q.wi + q.mn - 2) by omega]
  exact this
end Go.Proofs.YtfgpcmphcnhbiaaDoor

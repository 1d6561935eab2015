/- Truth values held against each other; a state of power. -/
import Derived.Test.YtcgcklfbnmaodaaD14
import Derived.Laws.Small
namespace Go.Proofs.Ytcgcklfbnmaodaa
open Go Go.RowKit
set_option linter.unusedVariables false
set_option linter.unusedSimpArgs false
section
variable {r : Option Nat} {P : Program} {N : Sz} {o : Oper} {l : Env} {w : World}
theorem ex_beq {t t' : Nat} {a b z : Bool} {x y : Operand} (ht : P.underlying t = some .bool) (ho : o.op = .binOp .eql t x y t') (hx : ev l x = some (.bool a)) (hy : ev l y = some (.bool b)) (hz : (a == b) = z) : Ex r P N o l w (Dv (.bool z) w) := by
  subst hz
  refine ex_of (by simp [ho]) fun a' ha => ⟨_, w, ?_, rfl, rfl⟩
  simp only [execOp, ho, ha.ev hx, ha.ev hy, eqGuard, binOp]
  simp [run_equal_bool w t a b ht]
theorem ex_bne {t t' : Nat} {a b z : Bool} {x y : Operand} (ht : P.underlying t = some .bool) (ho : o.op = .binOp .neq t x y t') (hx : ev l x = some (.bool a)) (hy : ev l y = some (.bool b)) (hz : (!(a == b)) = z) : Ex r P N o l w (Dv (.bool z) w) := by
  subst hz
  refine ex_of (by simp [ho]) fun a' ha => ⟨_, w, ?_, rfl, rfl⟩
  simp only [execOp, ho, ha.ev hx, ha.ev hy, eqGuard, binOp]
  simp [run_equal_bool w t a b ht]
/-- its guard's slot holds no truth value: it was passed over itself -/
def gu (l : Env) (ops : Array Oper) (o : Oper) : Bool :=
  match o.guard with
  | none => false
  | some (j, _) => match (ops[j]?).bind (·.dst) with
    | none => false
    | some d => match lk l d with
      | some (.tuple _) => true
      | _ => false
theorem wanted_u {l : Env} {ops : Array Oper} {a : Act} (ha : Of N l a) (h : gu l ops o = true) : Region.wanted o (yielded ops a.tmps) = false := by
  unfold gu at h
  unfold Region.wanted
  split at h
  · cases h
  · rename_i j want hg
    simp only [hg]
    unfold yielded
    cases hd : (ops[j]?).bind (·.dst) with
    | none => simp [hd] at h
    | some d =>
      simp only [hd] at h ⊢
      cases hl : lk l d with
      | none => simp [hl] at h
      | some v =>
        have := ha.at_ d v hl
        simp only [hl] at h
        simp only [Option.bind_some, this]
        cases v <;> simp at h ⊢
theorem sku {ops : Array Oper} {Q : Exit → Act → World → Prop} {rest : List Oper} {d : Nat} (hd : o.dst = some d) (hN : Nat.blt d N.n = true) (hg : gu l ops o = true) (next : Wl r P N ops rest Q ((d, undef) :: l) w) : Wl r P N ops (o :: rest) Q l w := by
  intro a ha
  unfold wpListIn
  rw [if_neg (by rw [wanted_u ha hg]; simp)]
  refine ⟨fun _ _ => trivial, ?_⟩
  rw [hd]
  exact next _ (ha.put hN undef)
end
theorem down_b (b : Bool) (F : Nat → Prop) (k : Nat) (s : St) (w : World) (hD : DiskAt w F k s) (h : s.off = b) : Ret Try.prog 21 [.pointer (some ⟨k, 0, none⟩)] w fun v w' => Dv (.bool b) w v w' := h ▸ down_c F k s w hD
end Go.Proofs.Ytcgcklfbnmaodaa

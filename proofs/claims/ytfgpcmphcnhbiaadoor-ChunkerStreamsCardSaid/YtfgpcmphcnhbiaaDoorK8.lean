/- A cutting that comes in. -/
import Derived.Test.YtfgpcmphcnhbiaaDoorK7
import Derived.Test.YtfgpcmphcnhbiaaDoorK
namespace Go.Proofs.YtfgpcmphcnhbiaaDoor
open Go Go.RowKit
set_option linter.unusedVariables false
set_option linter.unusedSimpArgs false
open Go.ChangeShapes Go.WideShapes Go.ChangeAt
def Cut.fits (c : Cut) : Prop := (-9223372036854775808 ≤ c.mn ∧ c.mn ≤ 9223372036854775807) ∧ (-9223372036854775808 ≤ c.mx ∧ c.mx ≤ 9223372036854775807) ∧ (-9223372036854775808 ≤ c.wi ∧ c.wi ≤ 9223372036854775807) ∧ (-9223372036854775808 ≤ c.bi ∧ c.bi ≤ 9223372036854775807)
theorem array5 {α : Type} {cs : Array α} (h : cs.size = 5) : ∃ c0 c1 c2 c3 c4, cs = #[c0, c1, c2, c3, c4] := by
  obtain ⟨l⟩ := cs
  match l, h with
  | [c0, c1, c2, c3, c4], _ => exact ⟨c0, c1, c2, c3, c4, rfl⟩
theorem cell_int {H : Type} {enc : TypeId × Value → H} {W : World} {base : Nat} {spare : Nat → Bool} {held : Bool} {n : Nat} {t : TypeId} {k : IntKind} {v : Value} {y : DataW H × List MemPlace} (ht : Tryd.prog.underlying t = some (.int k)) (h : DataW.trod enc Tryd.prog W base spare held n t [v] = some y) : ∃ z, v = .int k z ∧ (Lit.int k z).wf = true := by
  obtain ⟨z, hc, _, hw⟩ := DataW.trod_int ht h
  cases hc
  exact ⟨z, rfl, hw⟩
theorem open_cut {H : Type} {enc : TypeId × Value → H} {W : World} {r : Reach} {b0 base : Nat} {spare : Nat → Bool} {held : Bool} {v : Value} {d : DataW H} {p : List MemPlace} (hv : Value.okWide Tryd.prog W r b0 24 v) (h : DataW.Trod enc Tryd.prog W base spare held 24 v d p) : ∃ c : Cut, v = c.val ∧ c.fits := by
  obtain ⟨cs, rfl, hsz⟩ := okWide_struct Tryd.underlying24 hv
  obtain ⟨c0, c1, c2, c3, c4, rfl⟩ := array5 (hsz.trans (by kernel_rfl))
  obtain ⟨fuel, hf⟩ := h
  obtain ⟨xs, n, _, hx, hl, hlen, hff⟩ := DataW.trod_struct Tryd.underlying24 hf
  match xs, hlen with
  | [y0, y1, y2, y3, y4], _ =>
    have e3 : Tryd.prog.cellsOf 3 = 1 := by kernel_rfl
    have e22 : Tryd.prog.cellsOf 22 = 1 := by kernel_rfl
    have h0 := hff 0 _ rfl
    have h1 := hff 1 _ rfl
    have h2 := hff 2 _ rfl
    have h3 := hff 3 _ rfl
    have h4 := hff 4 _ rfl
    simp [Value.cells, e3, e22] at h0 h1 h2 h3 h4
    obtain ⟨z0, rfl, w0⟩ := cell_int Tryd.underlying3 h0
    obtain ⟨z1, rfl, w1⟩ := cell_int Tryd.underlying3 h1
    obtain ⟨z2, rfl, w2⟩ := cell_int Tryd.underlying3 h2
    obtain ⟨z3, rfl, w3⟩ := cell_int Tryd.underlying3 h3
    obtain ⟨z4, rfl, w4⟩ := cell_int Tryd.underlying22 h4
    have b0 := bounds_i64 w0
    have b1 := bounds_i64 w1
    have b2 := bounds_i64 w2
    have b3 := bounds_i64 w3
    have b4 := bounds_u64 w4
    obtain ⟨s, rfl⟩ := u64_of z4 (by omega) (by omega)
    exact ⟨⟨z0, z1, z2, z3, s⟩, rfl, b0, b1, b2, b3⟩
end Go.Proofs.YtfgpcmphcnhbiaaDoor

/- A stream in parts. -/
import Derived.Test.YtfgpcmphcnhbiaaDoorP6
namespace Go.Proofs.YtfgpcmphcnhbiaaDoor
open Go Go.RowKit
set_option linter.unusedVariables false
set_option linter.unusedSimpArgs false
theorem Owns.blkOf {w : World} {lo : Nat} {sl : List Sl} {ys : List (List UInt8)} (h : Owns w lo sl ys) {s : Sl} (hs : s ∈ sl) {g o : Nat} (e : s.1 = some ⟨g, o, none⟩) : ∃ cs, Blk w g 5 cs := by
  obtain ⟨i, hi⟩ := List.getElem?_of_mem hs
  obtain ⟨y, _, _, ho⟩ := h.get hi
  obtain ⟨_, cs, hb⟩ := ho.blk e
  exact ⟨cs, hb⟩
theorem Owns.app {w : World} {lo : Nat} {sl2 : List Sl} {ys2 : List (List UInt8)} (h2 : Owns w lo sl2 ys2) : ∀ {sl : List Sl} {ys : List (List UInt8)}, Owns w lo sl ys → Owns w lo (sl ++ sl2) (ys ++ ys2)
  | [], [], _ => h2
  | _ :: _, _ :: _, h => ⟨h.1, Owns.app h2 h.2⟩
  | [], _ :: _, h => h.elim
  | _ :: _, [], h => h.elim
/-- the bytes that are held after f bytes of D -/
def hld (q : Vut) (D : List UInt8) (f : Nat) : List UInt8 := (D.drop (icuts q D f).2).take (f - (icuts q D f).2)
theorem hld_length {q : Vut} {D : List UInt8} {f : Nat} (h : f ≤ D.length) : (hld q D f).length = f - (icuts q D f).2 := by
  unfold hld
  simp
  omega
theorem fed_part (q : Vut) (D : List UInt8) (f to : Nat) (h1 : f ≤ to) (h2 : to ≤ D.length) :
    pieces D 0 (icuts q D f).1 ++ (fed q (D.take f) (hld q D f) ((D.drop f).take (to - f)) (to - f)).1 = pieces D 0 (icuts q D to).1 ∧ (fed q (D.take f) (hld q D f) ((D.drop f).take (to - f)) (to - f)).2 = hld q D to := by
  have := fed_icuts q D f (to - f) (by omega) (to - f) (Nat.le_refl _)
  rw [show f + (to - f) = to by omega] at this
  exact this
theorem held_end (q : Vut) (D : List UInt8) : pieces D 0 (ecuts q D D.length).1 = pieces D 0 (icuts q D D.length).1 ++ (if hld q D D.length = [] then [] else [hld q D D.length]) := by
  have hla := icuts_last q D D.length
  have hl := hld_length (q := q) (D := D) (Nat.le_refl _)
  rw [ecuts_end]
  by_cases h : (icuts q D D.length).2 < D.length
  · rw [if_pos h, if_neg (fun e => by rw [e] at hl; simp at hl; omega), pieces_snoc, hla.1]
    rfl
  · rw [if_neg h, if_pos (List.eq_nil_of_length_eq_zero (by omega)), List.append_nil, List.append_nil]
theorem flat_length {q : Vut} {D : List UInt8} {f : Nat} (h : f ≤ D.length) : (pieces D 0 (icuts q D f).1).flatten.length = (icuts q D f).2 := by
  have hla := icuts_last q D f
  have := pieces_flat D (icuts q D f).1 0 f (icuts_inc q D f) h
  rw [hla.1, List.take_zero, List.nil_append] at this
  rw [this, List.length_take]
  omega
theorem owns_held {w : World} {lo d : Nat} {B : Option Addr} {held : List UInt8} (h : Own w lo 5 1 B held.length d (bcells held)) : Owns w lo (if held = [] then [] else [(B, held.length, d)]) (if held = [] then [] else [held]) := by
  split
  · exact trivial
  · exact ⟨⟨rfl, h⟩, trivial⟩
end Go.Proofs.YtfgpcmphcnhbiaaDoor

/- What a stream returns, in plain Lean. -/
import Derived.Test.YtfgpcmphcnhbiaaDoorP2
namespace Go.Proofs.YtfgpcmphcnhbiaaDoor
open Go Go.RowKit
set_option linter.unusedVariables false
set_option linter.unusedSimpArgs false
/-! ### what is returned at once -/
theorem icuts_at_end {q : Vut} {bs : List UInt8} : ∀ {k : Nat}, 0 < k → (icuts q bs k).2 = k → ∃ pre fr, icuts q bs k = (pre ++ [k], k) ∧ lastD 0 pre = fr ∧ fr < k ∧ (prim q bs k = true ∨ k - fr = q.mx)
  | 0, h, _ => by omega
  | k + 1, _, h => by
    have hla := icuts_last q bs k
    rcases he : icuts q bs k with ⟨pre, fr⟩
    rw [he] at hla
    simp only at hla
    by_cases hc : prim q bs (k + 1) = true ∨ k + 1 - fr = q.mx
    · exact ⟨pre, fr, icuts_yes he hc, hla.1, by omega, hc⟩
    · rw [icuts_no he hc] at h
      simp only at h
      omega
theorem icuts_inc (q : Vut) (bs : List UInt8) : ∀ k, Inc 0 (icuts q bs k).1 k
  | 0 => Nat.le_refl _
  | k + 1 => by
    have ih := icuts_inc q bs k
    rcases he : icuts q bs k with ⟨pre, fr⟩
    rw [he] at ih
    by_cases hc : prim q bs (k + 1) = true ∨ k + 1 - fr = q.mx
    · rw [icuts_yes he hc]; exact ih.snoc (by omega)
    · rw [icuts_no he hc]; exact ih.up (by omega)
theorem icuts_prim {q : Vut} {bs : List UInt8} {k : Nat} (hk : 0 < k) (h : prim q bs k = true) : (icuts q bs k).2 = k := by
  obtain ⟨k, rfl⟩ : ∃ j, k = j + 1 := ⟨k - 1, by omega⟩
  rcases he : icuts q bs k with ⟨pre, fr⟩
  rw [icuts_yes he (.inl h)]
theorem fed_all (q : Vut) (bs : List UInt8) : (fed q [] [] bs bs.length).1 = pieces bs 0 (icuts q bs bs.length).1 := by
  have := (fed_icuts q bs 0 bs.length (by omega) bs.length (Nat.le_refl _)).1
  simp only [List.take_zero, List.drop_zero, List.take_length, Nat.zero_add, Nat.zero_sub] at this
  rw [show icuts q bs 0 = ([], 0) from rfl] at this
  simpa [pieces] using this
theorem pieces_last {bs : List UInt8} {l : List Nat} {x f : Nat} {y : List UInt8} (h : (pieces bs f (l ++ [x]))[(l ++ [x]).length - 1]? = some y) : y = (bs.drop (lastD f l)).take (x - lastD f l) := by
  rw [pieces_snoc, List.length_append, List.length_singleton, Nat.add_sub_cancel, List.getElem?_append_right (by rw [pieces_length]; exact Nat.le_refl _), pieces_length, Nat.sub_self] at h
  simpa using h.symm
theorem atonce_keep {q : Vut} {bs : List UInt8} {y : List UInt8} (hy : (pieces bs 0 (ecuts q bs bs.length).1)[(ecuts q bs bs.length).1.length - 1]? = some y) (h : prim q bs bs.length = true ∨ ¬ y.length < q.mx) : pieces bs 0 (icuts q bs bs.length).1 = pieces bs 0 (ecuts q bs bs.length).1 := by
  have hla := icuts_last q bs bs.length
  rw [ecuts_end] at hy ⊢
  by_cases hf : (icuts q bs bs.length).2 < bs.length
  · rw [if_pos hf] at hy
    have hy := pieces_last hy
    rw [hla.1] at hy
    rcases h with h | h
    · have := icuts_prim (by omega) h
      omega
    · exfalso
      apply h
      rw [hy]
      simp only [List.length_take]
      omega
  · rw [if_neg hf, List.append_nil]
theorem atonce_cut {q : Vut} {bs : List UInt8} {y : List UInt8} (hy : (pieces bs 0 (ecuts q bs bs.length).1)[(ecuts q bs bs.length).1.length - 1]? = some y) (h : prim q bs bs.length = false) (hl : y.length < q.mx) : pieces bs 0 (icuts q bs bs.length).1 = (pieces bs 0 (ecuts q bs bs.length).1).take ((ecuts q bs bs.length).1.length - 1) := by
  have hla := icuts_last q bs bs.length
  rw [ecuts_end] at hy ⊢
  by_cases hf : (icuts q bs bs.length).2 < bs.length
  · rw [if_pos hf, pieces_snoc, List.length_append, List.length_singleton, Nat.add_sub_cancel]
    rw [show (icuts q bs bs.length).1.length = (pieces bs 0 (icuts q bs bs.length).1).length from (pieces_length _ _ _).symm, List.take_left]
  · exfalso
    rw [if_neg hf, List.append_nil] at hy
    by_cases h0 : bs.length = 0
    · rw [h0] at hy
      simp [icuts, pieces] at hy
    · obtain ⟨pre, fr, h1, h2, h3, h4⟩ := icuts_at_end (q := q) (bs := bs) (k := bs.length) (by omega) (by omega)
      rw [h1] at hy
      have hy := pieces_last hy
      rcases h4 with h4 | h4
      · rw [h] at h4; cases h4
      · rw [hy, h2] at hl
        simp only [List.length_take, List.length_drop] at hl
        omega
theorem ecuts_none {q : Vut} {bs : List UInt8} (h : (ecuts q bs bs.length).1.length = 0) : pieces bs 0 (icuts q bs bs.length).1 = pieces bs 0 (ecuts q bs bs.length).1 := by
  rw [ecuts_end] at h ⊢
  split at h
  · simp at h
  · rename_i hf
    rw [if_neg hf, List.append_nil]
/-- the last of the primary cuts -/
theorem prims_last {q : Vut} {bs : List UInt8} {x : Nat} (hb : 0 < bs.length) (hx : (prims q bs bs.length)[(prims q bs bs.length).length - 1]? = some x) : x = bs.length ↔ prim q bs bs.length = true := by
  have hm := mem_prims.1 (List.mem_of_getElem? hx)
  constructor
  · rintro rfl; exact hm.2.2
  · intro hp
    have hk : bs.length ∈ prims q bs bs.length := mem_prims.2 ⟨hb, Nat.le_refl _, hp⟩
    obtain ⟨i, hi⟩ := List.getElem?_of_mem hk
    have hil := (List.getElem?_eq_some_iff.1 hi).1
    by_cases e : i = (prims q bs bs.length).length - 1
    · subst e
      rw [hi] at hx
      injection hx with hx
      exact hx.symm
    · have := prims_lt hi hx (by omega)
      have := hm.2.1
      omega
theorem prims_no {q : Vut} {bs : List UInt8} (hb : 0 < bs.length) (h : (prims q bs bs.length).length = 0) : prim q bs bs.length = false := by
  cases hp : prim q bs bs.length with
  | false => rfl
  | true =>
    have : bs.length ∈ prims q bs bs.length := mem_prims.2 ⟨hb, Nat.le_refl _, hp⟩
    rw [List.eq_nil_of_length_eq_zero h] at this
    cases this
theorem pieces_pos {q : Vut} {bs : List UInt8} (h : 0 < (ecuts q bs bs.length).1.length) : 0 < bs.length := by
  cases hb : bs.length with
  | zero =>
    have := (ecuts_inc q bs bs.length).length
    omega
  | succ k => omega
theorem Rds.take {w : World} {sl : List Sl} {ys : List (List UInt8)} (h : Rds w sl ys) (k : Nat) : Rds w (sl.take k) (ys.take k) :=
  ⟨by rw [List.length_take, List.length_take, h.1], fun i s hs => by
    rw [List.getElem?_take] at hs
    split at hs
    · rename_i hi
      obtain ⟨y, h1, h2⟩ := h.2 i s hs
      exact ⟨y, by rw [List.getElem?_take, if_pos hi]; exact h1, h2⟩
    · cases hs⟩
/-! ### bounds -/
theorem Inc.next {n : Nat} : ∀ {pre : List Nat} {x p f : Nat} {ys : List Nat}, pre ++ [x] <+: ys → Inc f ys n → p ∈ ys → lastD f pre < p → x ≤ p
  | [], x, p, f, ys, h, hi, hp, hl => by
    obtain ⟨t, rfl⟩ := h
    rcases List.mem_cons.1 hp with rfl | hp
    · exact Nat.le_refl _
    · have key : ∀ (l : List Nat) (g m : Nat), Inc g l m → ∀ y ∈ l, g < y := fun l => by
        induction l with
        | nil => intro g m _ y hy; cases hy
        | cons z l ih =>
          intro g m hh y hy
          rcases List.mem_cons.1 hy with rfl | hy
          · exact hh.1
          · have := ih z m hh.2 y hy
            have := hh.1
            omega
      exact Nat.le_of_lt (key t x n hi.2 p hp)
  | y :: pre, x, p, f, ys, h, hi, hp, hl => by
    obtain ⟨t, rfl⟩ := h
    simp only [List.cons_append] at hi hp
    rcases List.mem_cons.1 hp with rfl | hp
    · -- p is the first: it is not beyond the last of pre
      have key : ∀ (l : List Nat) (g m : Nat), Inc g l m → ∀ s, l = s ++ [x] ++ t → g ≤ lastD g s := fun l => by
        induction l with
        | nil => intro g m _ s hs; simp at hs
        | cons z l ih =>
          intro g m hh s hs
          cases s with
          | nil => exact Nat.le_refl _
          | cons a s =>
            simp only [List.cons_append, List.cons.injEq] at hs
            obtain ⟨rfl, rfl⟩ := hs
            have h1 := ih z m hh.2 s rfl
            have h2 := hh.1
            simp only [lastD]
            omega
      have := key _ p n hi.2 pre rfl
      simp only [lastD] at hl
      omega
    · exact Inc.next (pre := pre) ⟨t, rfl⟩ hi.2 hp hl
theorem ex_streqT {r : Option Nat} {P : Program} {N : Sz} {o : Oper} {l : Env} {w : World} {t t' : Nat} {us bs : List UInt8} {x y : Operand} (h : us = bs) (ho : o.op = .binOp .eql t x y t') (hx : ev l x = some (.string ⟨us.toArray⟩)) (hy : ev l y = some (.string ⟨bs.toArray⟩)) : Ex r P N o l w (Dv (.bool true) w) := by
  have := ex_streq (r := r) (P := P) (N := N) (w := w) ho hx hy
  rwa [decide_eq_true h] at this
/-- how many primary cuts are not beyond fr -/
def AtN (q : Vut) (bs : List UInt8) (fr a : Nat) : Prop := a ≤ (prims q bs bs.length).length ∧ ∀ i x, (prims q bs bs.length)[i]? = some x → (i < a ↔ x ≤ fr)
theorem AtN.zero (q : Vut) (bs : List UInt8) : AtN q bs 0 0 := ⟨Nat.zero_le _, fun i x hx => by
  have := (mem_prims.1 (List.mem_of_getElem? hx)).1
  omega⟩
theorem AtN.step {q : Vut} {bs : List UInt8} {fr a p x : Nat} (h : AtN q bs fr a) (hp : (prims q bs bs.length)[a]? = some p) (hx : p = x) (hf : fr < x) : AtN q bs x (a + 1) := by
  have hl := (List.getElem?_eq_some_iff.1 hp).1
  refine ⟨by omega, fun i y hy => ?_⟩
  rcases Nat.lt_trichotomy i a with h1 | h1 | h1
  · have := (h.2 i y hy).1 h1; omega
  · subst h1; rw [hp] at hy; cases hy; omega
  · have := prims_lt hp hy h1; omega
theorem AtN.stay {q : Vut} {bs : List UInt8} {fr a p x : Nat} (h : AtN q bs fr a) (hp : (prims q bs bs.length)[a]? = some p) (hx : x < p) (hf : fr < x) : AtN q bs x a := by
  refine ⟨h.1, fun i y hy => ?_⟩
  rcases Nat.lt_trichotomy i a with h1 | h1 | h1
  · have := (h.2 i y hy).1 h1; omega
  · subst h1; rw [hp] at hy; cases hy; omega
  · have := prims_lt hp hy h1; omega
theorem AtN.full {q : Vut} {bs : List UInt8} {fr a x : Nat} (h : AtN q bs fr a) (ha : a = (prims q bs bs.length).length) (hf : fr < x) : AtN q bs x a := by
  refine ⟨h.1, fun i y hy => ?_⟩
  have hl := (List.getElem?_eq_some_iff.1 hy).1
  have := (h.2 i y hy).1 (by omega)
  omega
theorem AtN.done {q : Vut} {bs : List UInt8} {a : Nat} (h : AtN q bs bs.length a) : a = (prims q bs bs.length).length := by
  rcases Nat.lt_or_ge a (prims q bs bs.length).length with h1 | h1
  · obtain ⟨x, hx⟩ : ∃ x, (prims q bs bs.length)[a]? = some x := ⟨_, List.getElem?_eq_getElem h1⟩
    have := (mem_prims.1 (List.mem_of_getElem? hx)).2.1
    have := (h.2 a x hx).2 this
    omega
  · have := h.1; omega
end Go.Proofs.YtfgpcmphcnhbiaaDoor

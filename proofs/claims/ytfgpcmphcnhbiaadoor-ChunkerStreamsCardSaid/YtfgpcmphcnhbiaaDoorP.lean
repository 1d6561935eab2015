/- The law of the chunker in plain Lean; contracts as the laws call them. -/
import Derived.Test.YtfgpcmphcnhbiaaDoorK11
namespace Go.Proofs.YtfgpcmphcnhbiaaDoor
open Go Go.RowKit
set_option linter.unusedVariables false
set_option linter.unusedSimpArgs false
/-! ### primary cuts: what decides them -/
theorem prim_iff (q : Vut) (bs : List UInt8) {p : Nat} (hp : 1 ≤ p) : prim q bs p = true ↔ far q bs p 0 := by
  by_cases h : far q bs p 0
  · exact ⟨fun _ => h, fun _ => (far_prim (b := true) ⟨fun _ => h, fun _ => rfl⟩ hp (.inl (by decide))).symm⟩
  · exact ⟨fun e => absurd ((far_prim (q := q) (bs := bs) (p := p) (z := 0) (b := false) ⟨fun e => (by cases e), fun e => absurd e h⟩ hp (.inl (by decide))).trans e) (by simp), fun e => absurd e h⟩
theorem mkd_end (q : Vut) (a b e : List UInt8) {i : Nat} (hi : i ≤ e.length) (h : q.wi ≤ i) : mkd q (a ++ e) (a.length + i) = mkd q (b ++ e) (b.length + i) := by
  have key : ∀ a : List UInt8, mkd q (a ++ e) (a.length + i) = decide (q.bi ≤ zeros (hash q.seed ((e.drop (i - q.wi)).take q.wi))) := fun a => by
    rw [mkd_eq q _ (by omega) (by simp; omega), show a.length + i - q.wi = a.length + (i - q.wi) by omega, List.drop_append, List.drop_of_length_le (l := a) (by omega), List.nil_append, Nat.add_sub_cancel_left]
  rw [key a, key b]
theorem prim_end (q : Vut) (a b e : List UInt8) {j : Nat} (hj : j ≤ e.length) (h : q.wi + q.mn ≤ j + 1) : prim q (a ++ e) (a.length + j) = prim q (b ++ e) (b.length + j) := by
  have hv := q.h1
  have hv3 := q.h3
  have step : ∀ a b : List UInt8, prim q (a ++ e) (a.length + j) = true → prim q (b ++ e) (b.length + j) = true := fun a b hp => by
    rw [prim_iff q _ (by omega)] at hp ⊢
    refine ⟨(mkd_end q b a e hj (by omega)).trans hp.1, fun r h1 h2 h3 => ?_⟩
    obtain ⟨i, rfl⟩ : ∃ i, r = b.length + i := ⟨r - b.length, by omega⟩
    rw [mkd_end q b a e (by omega) (by omega)]
    exact hp.2 (a.length + i) (by omega) (by omega) (by omega)
  exact Bool.eq_iff_iff.2 ⟨step a b, step b a⟩
theorem prims_cat (q : Vut) (bs : List UInt8) (k : Nat) : ∀ d, prims q bs (k + d) = prims q bs k ++ ((List.range d).map (fun j => k + (j + 1))).filter (prim q bs)
  | 0 => by simp
  | d + 1 => by
    rw [show k + (d + 1) = (k + d) + 1 from rfl, prims_succ, prims_cat q bs k d, List.range_succ, List.map_append, List.filter_append]
    split
    · rename_i h
      rw [List.append_assoc]
      congr 1
      simp [show k + (d + 1) = k + d + 1 from rfl, h]
    · rename_i h
      simp [show k + (d + 1) = k + d + 1 from rfl, h]
theorem mem_prims {q : Vut} {bs : List UInt8} {n k : Nat} : k ∈ prims q bs n ↔ 1 ≤ k ∧ k ≤ n ∧ prim q bs k = true := by
  unfold prims
  simp only [List.mem_filter, List.mem_map, List.mem_range]
  constructor
  · rintro ⟨⟨j, hj, rfl⟩, h⟩
    exact ⟨by omega, by omega, h⟩
  · rintro ⟨h1, h2, h⟩
    exact ⟨⟨k - 1, by omega, by omega⟩, h⟩
theorem prims_sorted (q : Vut) (bs : List UInt8) (n : Nat) : (prims q bs n).Pairwise (· < ·) := by
  unfold prims
  refine List.Pairwise.filter _ ?_
  rw [List.pairwise_map]
  exact List.pairwise_lt_range.imp fun h => by omega
theorem prims_lt {q : Vut} {bs : List UInt8} {n i j x y : Nat} (hi : (prims q bs n)[i]? = some x) (hj : (prims q bs n)[j]? = some y) (h : i < j) : x < y := by
  obtain ⟨h1, rfl⟩ := List.getElem?_eq_some_iff.1 hi
  obtain ⟨h2, rfl⟩ := List.getElem?_eq_some_iff.1 hj
  exact List.pairwise_iff_getElem.1 (prims_sorted q bs n) i j h1 h2 h
/-- two primary cuts are far from each other -/
theorem prims_apart {q : Vut} {bs : List UInt8} {x y : Nat} (hx : 1 ≤ x) (h : x < y) (h1 : prim q bs x = true) (h2 : prim q bs y = true) : q.mn ≤ y - x := by
  rw [prim_iff q _ (by omega)] at h1 h2
  apply Classical.byContradiction
  intro hn
  have := h2.2 x (by omega) h (by omega)
  rw [h1.1] at this
  cases this
/-! ### the beginning -/
theorem prims_take (q : Vut) (bs : List UInt8) {n : Nat} (h : n ≤ bs.length) : prims q (bs.take n) n = prims q bs n := by
  unfold prims
  refine List.filter_congr fun x hx => ?_
  simp only [List.mem_map, List.mem_range] at hx
  obtain ⟨j, hj, rfl⟩ := hx
  have := prim_append q (bs.take n) (bs.drop n) (k := j + 1) (by simp; omega)
  rw [List.take_append_drop] at this
  exact this.symm
theorem prims_begin (q : Vut) (bs : List UInt8) {n : Nat} (h : n ≤ bs.length) : ∃ R, prims q bs bs.length = prims q bs n ++ R ∧ ∀ x ∈ R, n < x := by
  have := prims_cat q bs n (bs.length - n)
  rw [show n + (bs.length - n) = bs.length by omega] at this
  refine ⟨_, this, fun x hx => ?_⟩
  simp only [List.mem_filter, List.mem_map, List.mem_range] at hx
  obtain ⟨⟨j, _, rfl⟩, _⟩ := hx
  omega
/-! ### a change -/
/-- beyond the reach of a change -/
def outq (a b : Int) (p : Nat) : Bool := decide ((p : Int) < a) || decide (b < (p : Int))
theorem out_eq (q : Vut) (x y : List UInt8) (n : Nat) (P : Nat → Bool) (h : ∀ k, 1 ≤ k → k ≤ n → P k = true → prim q x k = prim q y k) : (prims q x n).filter P = (prims q y n).filter P := by
  unfold prims
  rw [List.filter_filter, List.filter_filter]
  refine List.filter_congr fun k hk => ?_
  simp only [List.mem_map, List.mem_range] at hk
  obtain ⟨j, hj, rfl⟩ := hk
  cases hp : P (j + 1)
  · simp
  · rw [h (j + 1) (by omega) (by omega) hp]
theorem local_eq (q : Vut) (a c1 c2 e : List UInt8) (h : c1.length = c2.length) :
    (prims q (a ++ c1 ++ e) (a ++ c1 ++ e).length).filter (outq ((a.length : Int) + 1) ((a.length + c1.length : Nat) + q.wi + q.mn - 2)) = (prims q (a ++ c2 ++ e) (a ++ c2 ++ e).length).filter (outq ((a.length : Int) + 1) ((a.length + c1.length : Nat) + q.wi + q.mn - 2)) := by
  have hl : (a ++ c2 ++ e).length = (a ++ c1 ++ e).length := by simp; omega
  rw [hl]
  refine out_eq q _ _ _ _ fun k h1 h2 hk => ?_
  simp only [outq, Bool.or_eq_true, decide_eq_true_eq] at hk
  have hv := q.h1
  have hv3 := q.h3
  rcases hk with hk | hk
  · rw [List.append_assoc, List.append_assoc, prim_append q a _ (by omega), prim_append q a _ (by omega)]
  · have hlen : (a ++ c1).length = (a ++ c2).length := by simp; omega
    have := prim_end q (a ++ c1) (a ++ c2) e (j := k - (a ++ c1).length) (by simp at h2 ⊢; omega) (by simp; omega)
    rw [← hlen, show (a ++ c1).length + (k - (a ++ c1).length) = k by simp; omega] at this
    exact this
/-! ### the end -/
/-- the distances from the end of those that are near it -/
def nearq (n : Nat) (near : Int) (l : List Nat) : List Int := (l.filter fun p : Nat => decide ((n : Int) - (p : Int) < near)).map fun p : Nat => (n : Int) - (p : Int)
theorem nearq_snoc_yes {n : Nat} {near : Int} {l : List Nat} {p : Nat} (h : (n : Int) - p < near) : nearq n near (l ++ [p]) = nearq n near l ++ [(n : Int) - p] := by
  unfold nearq
  rw [List.filter_append, List.map_append]
  simp [h]
theorem nearq_snoc_no {n : Nat} {near : Int} {l : List Nat} {p : Nat} (h : ¬ (n : Int) - p < near) : nearq n near (l ++ [p]) = nearq n near l := by
  unfold nearq
  rw [List.filter_append, List.map_append]
  simp [h]
theorem nearq_length (n : Nat) (near : Int) (l : List Nat) : (nearq n near l).length ≤ l.length := by
  unfold nearq
  rw [List.length_map]
  exact List.length_filter_le _ _
theorem suffix_one (q : Vut) (a e : List UInt8) : nearq (a ++ e).length ((e.length : Int) - q.wi - q.mn + 2) (prims q (a ++ e) (a ++ e).length) =
    ((List.range e.length).filter fun j => decide ((e.length : Int) - ((j + 1 : Nat) : Int) < (e.length : Int) - q.wi - q.mn + 2) && prim q (a ++ e) (a.length + (j + 1))).map fun j => (e.length : Int) - ((j + 1 : Nat) : Int) := by
  have hv := q.h1
  have hv3 := q.h3
  unfold nearq
  rw [List.length_append, prims_cat, List.filter_append, List.filter_eq_nil_iff.2 (fun p hp => by
    have := (mem_prims.1 hp).2.1
    simp only [decide_eq_true_eq]
    omega), List.nil_append, List.filter_map, List.filter_map, List.map_map, List.filter_filter]
  have e1 : ((List.range e.length).filter fun j => ((fun p => decide (((a.length + e.length : Nat) : Int) - (p : Nat) < (e.length : Int) - q.wi - q.mn + 2)) ∘ fun j => a.length + (j + 1)) j && (prim q (a ++ e) ∘ fun j => a.length + (j + 1)) j) = (List.range e.length).filter fun j => decide ((e.length : Int) - ((j + 1 : Nat) : Int) < (e.length : Int) - q.wi - q.mn + 2) && prim q (a ++ e) (a.length + (j + 1)) := by
    refine List.filter_congr fun j hj => ?_
    simp only [Function.comp]
    congr 1
    exact decide_eq_decide.2 (by omega)
  rw [e1]
  refine List.map_congr_left fun j hj => ?_
  simp only [Function.comp]
  omega
theorem suffix_eq (q : Vut) (a b e : List UInt8) : nearq (a ++ e).length ((e.length : Int) - q.wi - q.mn + 2) (prims q (a ++ e) (a ++ e).length) = nearq (b ++ e).length ((e.length : Int) - q.wi - q.mn + 2) (prims q (b ++ e) (b ++ e).length) := by
  rw [suffix_one, suffix_one]
  congr 1
  refine List.filter_congr fun j hj => ?_
  have hj := List.mem_range.1 hj
  by_cases h : (e.length : Int) - ((j + 1 : Nat) : Int) < (e.length : Int) - q.wi - q.mn + 2
  · rw [prim_end q a b e (by omega) (by omega)]
  · rw [decide_eq_false h]; simp
/-! ### the chunks -/
theorem ecuts_jump {q : Vut} {bs : List UInt8} {fr x : Nat} {pre : List Nat} (h : ecuts q bs fr = (pre, fr)) (hx : fr < x) (hxl : x ≤ bs.length) (hmx : x - fr ≤ q.mx) (hno : ∀ k, fr < k → k < x → prim q bs k = false) (he : prim q bs x = true ∨ x - fr = q.mx ∨ x = bs.length) : ecuts q bs x = (pre ++ [x], x) := by
  have key : ∀ d, fr + d < x → ecuts q bs (fr + d) = (pre, fr) := fun d => by
    induction d with
    | zero => exact fun _ => h
    | succ d ih =>
      intro hd
      show ecuts q bs (fr + d + 1) = _
      refine ecuts_no (ih (by omega)) ?_
      rw [hno (fr + d + 1) (by omega) (by omega)]
      simp only [Bool.false_eq_true, false_or]
      omega
  obtain ⟨d, rfl⟩ : ∃ d, x = fr + d + 1 := ⟨x - fr - 1, by omega⟩
  exact ecuts_yes (key d (by omega)) he
/-- the ends of chunks, the last bytes held -/
def icuts (q : Vut) (bs : List UInt8) : Nat → List Nat × Nat
  | 0 => ([], 0)
  | k + 1 => if prim q bs (k + 1) = true ∨ k + 1 - (icuts q bs k).2 = q.mx then ((icuts q bs k).1 ++ [k + 1], k + 1) else icuts q bs k
theorem icuts_yes {q : Vut} {bs : List UInt8} {k : Nat} {pre : List Nat} {fr : Nat} (h : icuts q bs k = (pre, fr)) (hc : prim q bs (k + 1) = true ∨ k + 1 - fr = q.mx) : icuts q bs (k + 1) = (pre ++ [k + 1], k + 1) := by
  unfold icuts
  rw [h]
  exact if_pos hc
theorem icuts_no {q : Vut} {bs : List UInt8} {k : Nat} {pre : List Nat} {fr : Nat} (h : icuts q bs k = (pre, fr)) (hc : ¬ (prim q bs (k + 1) = true ∨ k + 1 - fr = q.mx)) : icuts q bs (k + 1) = (pre, fr) := by
  unfold icuts
  rw [h]
  exact if_neg hc
/-- the last end is the last of the ends; less than Max bytes are behind it -/
theorem icuts_last (q : Vut) (bs : List UInt8) : ∀ k, lastD 0 (icuts q bs k).1 = (icuts q bs k).2 ∧ (icuts q bs k).2 ≤ k ∧ k - (icuts q bs k).2 < q.mx
  | 0 => ⟨rfl, Nat.le_refl _, by have := q.h1; have := q.h3; have := q.h4; show 0 < q.mx; omega⟩
  | k + 1 => by
    have ih := icuts_last q bs k
    have hv := q.h1
    have hv3 := q.h3
    have hv4 := q.h4
    rcases he : icuts q bs k with ⟨pre, fr⟩
    rw [he] at ih
    simp only at ih
    by_cases hc : prim q bs (k + 1) = true ∨ k + 1 - fr = q.mx
    · rw [icuts_yes he hc]
      exact ⟨lastD_snoc _ _ _, Nat.le_refl _, by simp only; omega⟩
    · rw [icuts_no he hc]
      exact ⟨ih.1, by simp only; omega, by simp only; have : ¬ k + 1 - fr = q.mx := fun e => hc (.inr e); omega⟩
theorem ecuts_icuts {q : Vut} {bs : List UInt8} : ∀ {k : Nat}, k < bs.length → ecuts q bs k = icuts q bs k
  | 0, _ => rfl
  | k + 1, h => by
    have ih := ecuts_icuts (q := q) (bs := bs) (k := k) (by omega)
    rcases he : icuts q bs k with ⟨pre, fr⟩
    rw [he] at ih
    by_cases hc : prim q bs (k + 1) = true ∨ k + 1 - fr = q.mx
    · rw [icuts_yes he hc, ecuts_yes ih (hc.elim .inl fun e => .inr (.inl e))]
    · rw [icuts_no he hc, ecuts_no ih (fun e => by
        rcases e with e | e | e
        · exact hc (.inl e)
        · exact hc (.inr e)
        · omega)]
/-- the last chunk: complete, or held -/
theorem ecuts_end (q : Vut) (bs : List UInt8) : (ecuts q bs bs.length).1 = (icuts q bs bs.length).1 ++ (if (icuts q bs bs.length).2 < bs.length then [bs.length] else []) := by
  cases hb : bs.length with
  | zero => rfl
  | succ k =>
    have ih := ecuts_icuts (q := q) (bs := bs) (k := k) (by omega)
    have hl := (icuts_last q bs k).2.1
    rcases he : icuts q bs k with ⟨pre, fr⟩
    rw [he] at ih hl
    simp only at hl
    rw [ecuts_yes ih (.inr (.inr hb.symm))]
    by_cases hc : prim q bs (k + 1) = true ∨ k + 1 - fr = q.mx
    · rw [icuts_yes he hc, if_neg (by simp)]
      simp
    · rw [icuts_no he hc, if_pos (by simp only; omega)]
theorem icuts_take (q : Vut) (bs : List UInt8) {n : Nat} : ∀ {k : Nat}, k ≤ n → n ≤ bs.length → icuts q (bs.take n) k = icuts q bs k
  | 0, _, _ => rfl
  | k + 1, h, hn => by
    have ih := icuts_take q bs (n := n) (k := k) (by omega) hn
    have hp := prim_append q (bs.take n) (bs.drop n) (k := k + 1) (by simp; omega)
    rw [List.take_append_drop] at hp
    unfold icuts
    rw [ih, hp]
/-- what a stream yields of D's bytes from f on, where the bytes behind the last end are held -/
theorem fed_icuts (q : Vut) (D : List UInt8) (f m : Nat) (hm : f + m ≤ D.length) : ∀ i, i ≤ m →
    pieces D 0 (icuts q D f).1 ++ (fed q (D.take f) ((D.drop (icuts q D f).2).take (f - (icuts q D f).2)) ((D.drop f).take m) i).1 = pieces D 0 (icuts q D (f + i)).1 ∧
    (fed q (D.take f) ((D.drop (icuts q D f).2).take (f - (icuts q D f).2)) ((D.drop f).take m) i).2 = (D.drop (icuts q D (f + i)).2).take (f + i - (icuts q D (f + i)).2)
  | 0, _ => ⟨by simp [fed], rfl⟩
  | i + 1, hi => by
    obtain ⟨ih1, ih2⟩ := fed_icuts q D f m hm i (by omega)
    rcases hf : fed q (D.take f) ((D.drop (icuts q D f).2).take (f - (icuts q D f).2)) ((D.drop f).take m) i with ⟨dn, h⟩
    have hla := icuts_last q D (f + i)
    rcases he : icuts q D (f + i) with ⟨pre, fr⟩
    rw [hf, he] at ih1 ih2
    rw [he] at hla
    simp only at ih1 ih2 hla
    obtain ⟨hl1, hl2, hl3⟩ := hla
    have hx : ((D.drop f).take m).getD i 0 = D.getD (f + i) 0 := by
      simp only [List.getD_eq_getElem?_getD, List.getElem?_take, List.getElem?_drop]
      rw [if_pos (by omega)]
    have hsn : h ++ [((D.drop f).take m).getD i 0] = (D.drop fr).take (f + (i + 1) - fr) := by
      rw [ih2, hx, show f + (i + 1) - fr = (f + i - fr) + 1 by omega, List.take_add_one, List.getElem?_drop, show fr + (f + i - fr) = f + i by omega]
      congr 1
      rw [List.getD_eq_getElem?_getD, List.getElem?_eq_getElem (by omega)]
      rfl
    have hlen : (h ++ [((D.drop f).take m).getD i 0]).length = f + (i + 1) - fr := by
      rw [hsn]
      simp
      omega
    have hcat : D.take f ++ (D.drop f).take m = D.take (f + m) := by
      rw [List.take_add]
    have hpr : prim q (D.take f ++ (D.drop f).take m) ((D.take f).length + i + 1) = prim q D (f + (i + 1)) := by
      rw [hcat, show (D.take f).length = f by simp; omega]
      have := prim_append q (D.take (f + m)) (D.drop (f + m)) (k := f + i + 1) (by simp; omega)
      rw [List.take_append_drop] at this
      exact this.symm
    by_cases hc : prim q D (f + (i + 1)) = true ∨ f + (i + 1) - fr = q.mx
    · rw [fed_yes hf (by rw [hpr, hlen]; exact hc), show f + (i + 1) = (f + i) + 1 from rfl, icuts_yes he hc]
      refine ⟨?_, by simp⟩
      rw [pieces_snoc, hl1, ← ih1, hsn, List.append_assoc, show f + i + 1 = f + (i + 1) from rfl]
    · rw [fed_no hf (by rw [hpr, hlen]; exact hc), show f + (i + 1) = (f + i) + 1 from rfl, icuts_no he hc]
      exact ⟨ih1, hsn⟩
/-! ### lengths -/
/-- the distances between ends -/
theorem icuts_gap (q : Vut) (bs : List UInt8) : ∀ k, ∀ y ∈ pieces bs 0 (icuts q bs k).1, y.length ≤ q.mx
  | 0, y, hy => by cases hy
  | k + 1, y, hy => by
    have ih := icuts_gap q bs k
    have hla := icuts_last q bs k
    rcases he : icuts q bs k with ⟨pre, fr⟩
    rw [he] at ih hla
    simp only at hla ih
    by_cases hc : prim q bs (k + 1) = true ∨ k + 1 - fr = q.mx
    · rw [icuts_yes he hc] at hy
      simp only at hy
      rw [pieces_snoc, List.mem_append, hla.1] at hy
      rcases hy with hy | hy
      · exact ih y hy
      · rw [List.mem_singleton.1 hy]
        simp only [List.length_take]
        omega
    · rw [icuts_no he hc] at hy
      exact ih y hy
theorem ecuts_gap (q : Vut) (bs : List UInt8) : ∀ y ∈ pieces bs 0 (ecuts q bs bs.length).1, y.length ≤ q.mx := fun y hy => by
  rw [ecuts_end] at hy
  have hla := icuts_last q bs bs.length
  split at hy
  · rw [pieces_snoc, hla.1, List.mem_append] at hy
    rcases hy with hy | hy
    · exact icuts_gap q bs _ y hy
    · rw [List.mem_singleton.1 hy]
      simp only [List.length_take]
      omega
  · rw [List.append_nil] at hy
    exact icuts_gap q bs _ y hy
theorem ecuts_lastD (q : Vut) (bs : List UInt8) : lastD 0 (ecuts q bs bs.length).1 = bs.length := by
  have hla := icuts_last q bs bs.length
  rw [ecuts_end]
  split
  · exact lastD_snoc _ _ _
  · rw [List.append_nil, hla.1]; omega
/-- every primary cut is an end -/
theorem ecuts_prim {q : Vut} {bs : List UInt8} {p : Nat} : ∀ {k : Nat}, 1 ≤ p → p ≤ k → prim q bs p = true → p ∈ (ecuts q bs k).1
  | 0, h1, h2, _ => by omega
  | k + 1, h1, h2, hp => by
    rcases he : ecuts q bs k with ⟨pre, fr⟩
    by_cases e : p = k + 1
    · subst e
      rw [ecuts_yes he (.inl hp)]
      simp
    · have ih := ecuts_prim (q := q) (bs := bs) (k := k) h1 (by omega) hp
      rw [he] at ih
      by_cases hc : prim q bs (k + 1) = true ∨ k + 1 - fr = q.mx ∨ k + 1 = bs.length
      · rw [ecuts_yes he hc]; exact List.mem_append.2 (.inl ih)
      · rw [ecuts_no he hc]; exact ih
theorem pieces_flat (bs : List UInt8) : ∀ (l : List Nat) (f n : Nat), Inc f l n → n ≤ bs.length → bs.take f ++ (pieces bs f l).flatten = bs.take (lastD f l)
  | [], f, _, _, _ => by simp [pieces, lastD]
  | y :: l, f, n, h, hn => by
    have h1 := h.1
    have h2 := h.2.le
    have ih := pieces_flat bs l y n h.2 hn
    simp only [pieces, List.flatten_cons, lastD]
    rw [← ih, ← List.append_assoc]
    congr 1
    rw [show bs.take y = bs.take (f + (y - f)) by congr 1; omega, List.take_add]
theorem pieces_get {bs : List UInt8} : ∀ {l : List Nat} {f i : Nat} {y : Nat}, l[i]? = some y → (pieces bs f l)[i]? = some ((bs.drop (lastD f (l.take i))).take (y - lastD f (l.take i)))
  | [], _, _, _, h => by simp at h
  | z :: l, f, 0, y, h => by
    simp at h
    subst h
    rfl
  | z :: l, f, i + 1, y, h => by
    simp only [List.getElem?_cons_succ] at h
    simpa [pieces, lastD] using pieces_get (f := z) h
/-! ### what two lists have in common -/
def IsFront {α : Type} (x y : List α) (k : Nat) : Prop := k ≤ x.length ∧ k ≤ y.length ∧ (∀ j, j < k → x[j]? = y[j]?) ∧ ¬ (k < x.length ∧ k < y.length ∧ x[k]? = y[k]?)
theorem IsFront.uniq {α : Type} {x y : List α} {a b : Nat} (h : IsFront x y a) (k : IsFront x y b) : a = b := by
  obtain ⟨h1, h2, h3, h4⟩ := h
  obtain ⟨k1, k2, k3, k4⟩ := k
  rcases Nat.lt_trichotomy a b with h | h | h
  · exact (h4 ⟨by omega, by omega, k3 a h⟩).elim
  · exact h
  · exact (k4 ⟨by omega, by omega, h3 b h⟩).elim
def IsBack {α : Type} (x y : List α) (i k : Nat) : Prop := i + k ≤ x.length ∧ i + k ≤ y.length ∧ (∀ j, j < k → x[x.length - 1 - j]? = y[y.length - 1 - j]?) ∧ ¬ (i + k < x.length ∧ i + k < y.length ∧ x[x.length - 1 - k]? = y[y.length - 1 - k]?)
theorem IsBack.uniq {α : Type} {x y : List α} {i a b : Nat} (h : IsBack x y i a) (k : IsBack x y i b) : a = b := by
  obtain ⟨h1, h2, h3, h4⟩ := h
  obtain ⟨k1, k2, k3, k4⟩ := k
  rcases Nat.lt_trichotomy a b with h | h | h
  · exact (h4 ⟨by omega, by omega, k3 a h⟩).elim
  · exact h
  · exact (k4 ⟨by omega, by omega, h3 b h⟩).elim
/-! ### the reference's chunks -/
def endsOf (q : Vut) (bs : List UInt8) : List Nat := prims q bs bs.length ++ [bs.length]
theorem endsOf_e {q : Vut} {bs : List UInt8} {j e : Nat} (hj : (endsOf q bs)[j]? = some e) : e ≤ bs.length ∧ (prim q bs e = true ∨ e = bs.length) := by
  have := List.mem_of_getElem? hj
  unfold endsOf at this
  rcases List.mem_append.1 this with h | h
  · have := mem_prims.1 h
    exact ⟨this.2.1, .inl this.2.2⟩
  · rw [List.mem_singleton.1 h]; exact ⟨Nat.le_refl _, .inr rfl⟩
theorem endsOf_no {q : Vut} {bs : List UInt8} {j e fr : Nat} (hj : (endsOf q bs)[j]? = some e) (hpre : ∀ x ∈ (endsOf q bs).take j, x ≤ fr) (k : Nat) (h1 : fr < k) (h2 : k < e) : prim q bs k = false := by
  have he := (endsOf_e hj).1
  cases hp : prim q bs k with
  | false => rfl
  | true =>
    have hm : k ∈ prims q bs bs.length := mem_prims.2 ⟨by omega, by omega, hp⟩
    obtain ⟨m, hm⟩ := List.getElem?_of_mem hm
    have hml := (List.getElem?_eq_some_iff.1 hm).1
    have hme : (endsOf q bs)[m]? = some k := by
      unfold endsOf
      rw [List.getElem?_append_left hml]
      exact hm
    rcases Nat.lt_trichotomy m j with h | h | h
    · have := hpre k (List.mem_of_getElem? (i := m) (by rw [List.getElem?_take, if_pos h]; exact hme))
      omega
    · subst h
      rw [hme] at hj
      injection hj with hj
      omega
    · have hj2 : (prims q bs bs.length)[j]? = some e := by
        unfold endsOf at hj
        rwa [List.getElem?_append_left (by omega)] at hj
      have := prims_lt hj2 hm h
      omega
theorem ends_step {q : Vut} {bs : List UInt8} {j e fr : Nat} {pre : List Nat} (h : ecuts q bs fr = (pre, fr)) (hj : (endsOf q bs)[j]? = some e) (hpre : ∀ x ∈ (endsOf q bs).take j, x ≤ fr) (hfe : fr < e) :
    ecuts q bs (min (fr + q.mx) e) = (pre ++ [min (fr + q.mx) e], min (fr + q.mx) e) := by
  have hv := q.h1
  have hv3 := q.h3
  have hv4 := q.h4
  have he := endsOf_e hj
  refine ecuts_jump h (by omega) (by omega) (by omega) (fun k h1 h2 => endsOf_no hj hpre k h1 (by omega)) ?_
  rcases Nat.lt_or_ge (fr + q.mx) e with h1 | h1
  · exact .inr (.inl (by omega))
  · rw [Nat.min_eq_right h1]
    exact he.2.elim .inl fun h => .inr (.inr h)
theorem ends_done {q : Vut} {bs : List UInt8} {fr : Nat} (h : ∀ x ∈ (endsOf q bs).take (endsOf q bs).length, x ≤ fr) (hl : fr ≤ bs.length) : fr = bs.length := by
  rw [List.take_length] at h
  have := h bs.length (by unfold endsOf; simp)
  omega

/-! ### contracts, as laws call them -/
theorem primary_m (q : Vut) (A : Option Addr) (m c lo hi : Nat) (bs : List UInt8) (w : World) (hm : m = bs.length) (hr : Rd w lo hi 1 A m (bcells bs)) (hhi : hi ≤ w.heap.size) (hT : TabAt w) (hlen : bs.length ≤ 1000000) :
    Ret Tryd.prog 20 [q.cut.val, .slice A m c] w fun v w' => ∃ B d, v = .tuple #[.slice B (prims q bs bs.length).length d, .int .i64 0] ∧ Own w' w.heap.size 3 1 B (prims q bs bs.length).length d ((prims q bs bs.length).map fun x : Nat => Value.int .i64 (x : Int)) ∧ Ext w w' := by
  subst hm
  exact primary_c q A c lo hi bs w hr hhi hT hlen
theorem primaryTake_c (q : Vut) (A : Option Addr) (c lo hi : Nat) (bs : List UInt8) (n : Nat) (w : World) (hr : Rd w lo hi 1 A bs.length (bcells bs)) (hhi : hi ≤ w.heap.size) (hT : TabAt w) (hlen : bs.length ≤ 1000000) (hmc : bs.length ≤ c) (hn : n ≤ bs.length) :
    Ret Tryd.prog 20 [q.cut.val, .slice (if c = 0 then A else A.map (·.add (0 * 1))) (n - 0) (c - 0)] w fun v w' => ∃ B d, v = .tuple #[.slice B (prims q bs n).length d, .int .i64 0] ∧ Own w' w.heap.size 3 1 B (prims q bs n).length d ((prims q bs n).map fun x : Nat => Value.int .i64 (x : Int)) ∧ Ext w w' := by
  have hcut := hr.cut (l := 0) (hh := n) (m := c) (Nat.zero_le _) hn hmc
  rw [show List.take ((n - 0) * 1) (List.drop (0 * 1) (bcells bs)) = bcells (bs.take n) from by simp [bcells]] at hcut
  have hl : (bs.take n).length = n := by simp; omega
  have := primary_m q _ (n - 0) (c - 0) lo hi (bs.take n) w (by omega) hcut hhi hT (by omega)
  rw [hl, prims_take q bs hn] at this
  exact this
theorem ints_i (A B : Option Addr) (m n c d lo hi lo2 hi2 : Nat) (xs ys : List Int) (w : World) (hm : m = xs.length) (hn : n = ys.length) (hr : Rd w lo hi 1 A m (xs.map fun x => Value.int .i64 x)) (hr2 : Rd w lo2 hi2 1 B n (ys.map fun x => Value.int .i64 x)) (hlen : xs.length ≤ 1000000000) (e : xs = ys) :
    Ret Tryd.prog 29 [.slice A m c, .slice B n d] w fun v w' => v = .bool true ∧ Ext w w' := by
  subst hm; subst hn
  exact (ints_c A B c d lo hi lo2 hi2 xs ys w hr hr2 hlen).mono fun v w' h => ⟨by rw [h.1, decide_eq_true e], h.2⟩
theorem ints_n (A B : Option Addr) (m n c d lo hi lo2 hi2 : Nat) (xs ys : List Nat) (w : World) (hm : m = xs.length) (hn : n = ys.length) (hr : Rd w lo hi 1 A m (xs.map fun x : Nat => Value.int .i64 (x : Int))) (hr2 : Rd w lo2 hi2 1 B n (ys.map fun x : Nat => Value.int .i64 (x : Int))) (hlen : xs.length ≤ 1000000000) (e : xs = ys) :
    Ret Tryd.prog 29 [.slice A m c, .slice B n d] w fun v w' => v = .bool true ∧ Ext w w' :=
  ints_i A B m n c d lo hi lo2 hi2 (xs.map fun x : Nat => (x : Int)) (ys.map fun x : Nat => (x : Int)) w (by simpa using hm) (by simpa using hn) (by rw [List.map_map]; exact hr) (by rw [List.map_map]; exact hr2) (by simpa using hlen) (by rw [e])
/-- two slices of one's own that lie apart -/
def Sep (B D : Option Addr) : Prop := ∀ g o o', B = some ⟨g, o, none⟩ → D ≠ some ⟨g, o', none⟩
theorem Sep.symm {B D : Option Addr} (h : Sep B D) : Sep D B := fun g o o' h1 h2 => h g o' o h2 h1
theorem Sep.new {w : World} {lo size n c k : Nat} {e : TypeId} {D : Option Addr} {xs : List Value} (h : Own w lo e size D n c xs) (hk : w.heap.size ≤ k) : Sep (some ⟨k, 0, none⟩) D := fun g o o' h1 h2 => by
  have := (h.lt h2).2
  injection h1 with h1
  injection h1 with h1
  omega
theorem Sep.app {w : World} {lo size n c : Nat} {e : TypeId} {A B D : Option Addr} {xs : List Value} (hs : Sep A D) (h : Own w lo e size D n c xs) (hB : B = A ∨ B = some ⟨w.heap.size, 0, none⟩) : Sep B D := by
  rcases hB with rfl | rfl
  · exact hs
  · exact Sep.new h (Nat.le_refl _)
theorem Sep.keep {w w' : World} {lo size n c : Nat} {e : TypeId} {A D : Option Addr} {xs : List Value} (hs : Sep A D) (h : Own w lo e size D n c xs) (k : Keep (fun k => ∀ o, A ≠ some ⟨k, o, none⟩) w w') : Own w' lo e size D n c xs :=
  h.keep k fun g o e o' e' => hs g o' o e' e
theorem Own.sep_ty {w : World} {lo size n c lo' size' n' c' : Nat} {e e' : TypeId} {A D : Option Addr} {xs xs' : List Value} (h : Own w lo e size A n c xs) (h' : Own w lo' e' size' D n' c' xs') (hne : e ≠ e') : Sep A D := fun g o o' h1 h2 => by
  obtain ⟨_, cs, hb⟩ := h'.blk h2
  exact h.ne_blk hb hne g o h1 rfl
end Go.Proofs.YtfgpcmphcnhbiaaDoor

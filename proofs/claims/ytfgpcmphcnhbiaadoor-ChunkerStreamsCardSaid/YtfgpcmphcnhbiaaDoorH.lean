/- The cuttings, the marks and the cuts of a content in plain Lean; what lies in memory where a marker lies. -/
import Derived.Test.YtfgpcmphcnhbiaaDoorG
import Derived.Test.YtfgpcmphcnhbiaaDoorC
namespace Go.Proofs.YtfgpcmphcnhbiaaDoor
open Go Go.RowKit
set_option linter.unusedVariables false
set_option linter.unusedSimpArgs false

/-- a cutting as it comes in -/
structure Cut where
  mn : Int
  mx : Int
  wi : Int
  bi : Int
  seed : B64
def Cut.cells (c : Cut) : List Value := [.int .i64 c.mn, .int .i64 c.mx, .int .i64 c.wi, .int .i64 c.bi, U c.seed]
def Cut.val (c : Cut) : Value := .agg c.cells.toArray
def Cut.ok (c : Cut) : Prop := 1 ≤ c.wi ∧ c.wi ≤ 64 ∧ c.wi ≤ c.mn ∧ c.mn ≤ c.mx ∧ c.mx ≤ 32768 ∧ 0 ≤ c.bi ∧ c.bi ≤ 20
instance (c : Cut) : Decidable c.ok := by unfold Cut.ok; infer_instance
/-- a valid one -/
structure Vut where
  mn : Nat
  mx : Nat
  wi : Nat
  bi : Nat
  seed : B64
  h1 : 1 ≤ wi
  h2 : wi ≤ 64
  h3 : wi ≤ mn
  h4 : mn ≤ mx
  h5 : mx ≤ 32768
  h6 : bi ≤ 20
def Vut.cut (q : Vut) : Cut := ⟨(q.mn : Int), (q.mx : Int), (q.wi : Int), (q.bi : Int), q.seed⟩
theorem Vut.ok (q : Vut) : q.cut.ok := by
  have := q.h1; have := q.h2; have := q.h3; have := q.h4; have := q.h5; have := q.h6
  unfold Cut.ok Vut.cut
  simp only
  omega
theorem Cut.ok.vut {c : Cut} (h : c.ok) : ∃ q : Vut, c = q.cut := by
  obtain ⟨a, b, d, e, s⟩ := c
  unfold Cut.ok at h
  simp only at h
  refine ⟨⟨a.toNat, b.toNat, d.toNat, e.toNat, s, by omega, by omega, by omega, by omega, by omega, by omega⟩, ?_⟩
  simp only [Vut.cut]
  rw [Int.toNat_of_nonneg (by omega), Int.toNat_of_nonneg (by omega), Int.toNat_of_nonneg (by omega), Int.toNat_of_nonneg (by omega)]
/-- is position k marked? -/
def mkd (q : Vut) (bs : List UInt8) (k : Nat) : Bool := decide (q.wi ≤ k) && decide (q.bi ≤ zeros (hash q.seed (lastN q.wi (bs.take k))))
/-- the last marked position up to k, or 0 -/
def lm (q : Vut) (bs : List UInt8) : Nat → Nat
  | 0 => 0
  | k + 1 => if mkd q bs (k + 1) then k + 1 else lm q bs k
/-- is it a primary cut? -/
def prim (q : Vut) (bs : List UInt8) (k : Nat) : Bool := mkd q bs k && (decide (lm q bs (k - 1) = 0) || decide (q.mn ≤ k - lm q bs (k - 1)))
theorem mkd_append (q : Vut) (bs l : List UInt8) {k : Nat} (h : k ≤ bs.length) : mkd q (bs ++ l) k = mkd q bs k := by
  unfold mkd
  rw [List.take_append_of_le_length h]
theorem lm_append (q : Vut) (bs l : List UInt8) : ∀ {k : Nat}, k ≤ bs.length → lm q (bs ++ l) k = lm q bs k
  | 0, _ => rfl
  | k + 1, h => by
    unfold lm
    rw [mkd_append q bs l h, lm_append q bs l (by omega)]
theorem lm_le (q : Vut) (bs : List UInt8) : ∀ k, lm q bs k ≤ k
  | 0 => Nat.le_refl _
  | k + 1 => by
    unfold lm
    have := lm_le q bs k
    split <;> omega
theorem prim_append (q : Vut) (bs l : List UInt8) {k : Nat} (h : k ≤ bs.length) : prim q (bs ++ l) k = prim q bs k := by
  unfold prim
  rw [mkd_append q bs l h, lm_append q bs l (by omega)]
theorem mkd_snoc (q : Vut) (bs : List UInt8) (x : UInt8) : mkd q (bs ++ [x]) (bs.length + 1) = (decide (q.wi ≤ bs.length + 1) && decide (q.bi ≤ zeros (hash q.seed (lastN q.wi (bs ++ [x]))))) := by
  unfold mkd
  rw [List.take_of_length_le (by simp)]
theorem lm_snoc_no {q : Vut} {bs : List UInt8} {x : UInt8} (h : mkd q (bs ++ [x]) (bs.length + 1) = false) : lm q (bs ++ [x]) (bs ++ [x]).length = lm q bs bs.length := by
  rw [List.length_append, List.length_singleton]
  unfold lm
  rw [h, if_neg (by simp), lm_append q bs [x] (Nat.le_refl _)]
  cases bs <;> rfl
theorem lm_snoc_yes {q : Vut} {bs : List UInt8} {x : UInt8} (h : mkd q (bs ++ [x]) (bs.length + 1) = true) : lm q (bs ++ [x]) (bs ++ [x]).length = bs.length + 1 := by
  rw [List.length_append, List.length_singleton]
  unfold lm
  rw [h, if_pos rfl]
theorem prim_no {q : Vut} {bs : List UInt8} {x : UInt8} (h : mkd q (bs ++ [x]) (bs.length + 1) = false) : prim q (bs ++ [x]) (bs.length + 1) = false := by
  unfold prim
  rw [h, Bool.false_and]
theorem prim_yes {q : Vut} {bs : List UInt8} {x : UInt8} (h : mkd q (bs ++ [x]) (bs.length + 1) = true) : prim q (bs ++ [x]) (bs.length + 1) = (decide (lm q bs bs.length = 0) || decide (q.mn ≤ bs.length + 1 - lm q bs bs.length)) := by
  unfold prim
  rw [h, Bool.true_and, Nat.add_sub_cancel, lm_append q bs [x] (Nat.le_refl _)]
theorem take_snoc {l : List UInt8} {k : Nat} (h : k < l.length) : l.take (k + 1) = l.take k ++ [l.getD k 0] := by
  rw [List.take_succ_eq_append_getElem h]
  simp [List.getD, List.getElem?_eq_getElem h]
theorem lastN_nil (n : Nat) : lastN n [] = [] := by simp [lastN]
theorem RollAt.ne {w : World} {r m t : Nat} {seed : B64} {win : Nat} {bs : List UInt8} {cs : List Value} (h : RollAt w r seed win bs) (hm : Blk w m t cs) (ht : t ≠ 86) : m ≠ r := by
  obtain ⟨g, ring, next, _, hb, _⟩ := h
  exact hm.ne hb ht
theorem prim_take {q : Vut} {bs : List UInt8} {k : Nat} (h : k < bs.length) : prim q (bs.take (k + 1)) (k + 1) = prim q bs (k + 1) := by
  have := prim_append q (bs.take (k + 1)) (bs.drop (k + 1)) (k := k + 1) (by simp; omega)
  rw [List.take_append_drop] at this
  exact this.symm
/-- the ends of the chunks of a content: after k bytes -/
def ecuts (q : Vut) (bs : List UInt8) : Nat → List Nat × Nat
  | 0 => ([], 0)
  | k + 1 => if prim q bs (k + 1) = true ∨ k + 1 - (ecuts q bs k).2 = q.mx ∨ k + 1 = bs.length then ((ecuts q bs k).1 ++ [k + 1], k + 1) else ecuts q bs k
theorem ecuts_yes {q : Vut} {bs : List UInt8} {k : Nat} {pre : List Nat} {fr : Nat} (h : ecuts q bs k = (pre, fr)) (hc : prim q bs (k + 1) = true ∨ k + 1 - fr = q.mx ∨ k + 1 = bs.length) : ecuts q bs (k + 1) = (pre ++ [k + 1], k + 1) := by
  unfold ecuts
  rw [h]
  exact if_pos hc
theorem ecuts_no {q : Vut} {bs : List UInt8} {k : Nat} {pre : List Nat} {fr : Nat} (h : ecuts q bs k = (pre, fr)) (hc : ¬ (prim q bs (k + 1) = true ∨ k + 1 - fr = q.mx ∨ k + 1 = bs.length)) : ecuts q bs (k + 1) = (pre, fr) := by
  unfold ecuts
  rw [h]
  exact if_neg hc
theorem ecuts_le (q : Vut) (bs : List UInt8) : ∀ k, (ecuts q bs k).2 ≤ k
  | 0 => Nat.le_refl _
  | k + 1 => by
    unfold ecuts
    have := ecuts_le q bs k
    split
    · exact Nat.le_refl _
    · omega
theorem ecuts_prefix (q : Vut) (bs : List UInt8) (k : Nat) : ∀ d, (ecuts q bs k).1 <+: (ecuts q bs (k + d)).1
  | 0 => List.prefix_refl _
  | d + 1 => by
    refine (ecuts_prefix q bs k d).trans ?_
    show _ <+: (ecuts q bs (k + d + 1)).1
    rcases he : ecuts q bs (k + d) with ⟨pre, fr⟩
    by_cases hc : prim q bs (k + d + 1) = true ∨ k + d + 1 - fr = q.mx ∨ k + d + 1 = bs.length
    · rw [ecuts_yes he hc]; exact List.prefix_append _ _
    · rw [ecuts_no he hc]; exact List.prefix_refl _
theorem ecuts_pre {q : Vut} {bs : List UInt8} {k n : Nat} {pre : List Nat} {fr : Nat} (h : ecuts q bs k = (pre, fr)) (hk : k ≤ n) : pre <+: (ecuts q bs n).1 := by
  have := ecuts_prefix q bs k (n - k)
  rw [show k + (n - k) = n by omega, h] at this
  exact this
/-- what an iterator of the chunker's does between two rounds, and what a round must keep -/
def St16 (n1 : Nat) (a b : World) : Prop := Keep (fun k => ¬ (n1 ≤ k ∧ ((∃ cs, Blk a k 62 cs) ∨ ∃ cs, Blk a k 86 cs))) a b
def Rk16 (S0 : Nat → Prop) (a b : World) : Prop := Keep (fun k => S0 k ∨ (∃ cs, Blk a k 62 cs) ∨ (∃ cs, Blk a k 86 cs) ∨ ∃ cs, Blk a k 22 cs) a b
theorem St16.nc {n1 : Nat} {a b : World} (h : St16 n1 a b) (k : Nat) (o : Obj) (hk : a.heap[k]? = some o) (ho : o.isCells = false) : b.heap[k]? = some o := by
  refine (h.block k (Array.getElem?_eq_some_iff.1 hk).1 fun ⟨_, hb⟩ => ?_).trans hk
  rcases hb with ⟨cs, hb⟩ | ⟨cs, hb⟩ <;> exact hb.nc hk ho rfl
theorem Rk16.trans {S0 : Nat → Prop} {a b c : World} (h : Rk16 S0 a b) (k : Rk16 S0 b c) : Rk16 S0 a c := by
  refine Keep.trans h k fun j hj hS => ?_
  rcases hS with hS | ⟨cs, hb⟩ | ⟨cs, hb⟩ | ⟨cs, hb⟩
  · exact .inl hS
  · exact .inr (.inl ⟨cs, Blk.keep hb h (.inr (.inl ⟨cs, hb⟩))⟩)
  · exact .inr (.inr (.inl ⟨cs, Blk.keep hb h (.inr (.inr (.inl ⟨cs, hb⟩)))⟩))
  · exact .inr (.inr (.inr ⟨cs, Blk.keep hb h (.inr (.inr (.inr ⟨cs, hb⟩)))⟩))
theorem Rk16.put {S0 : Nat → Prop} {n1 : Nat} (hS : ∀ k, S0 k → k < n1) (w : World) (k : Nat) (o o' : Obj) (hn : n1 ≤ k) (hk : w.heap[k]? = some o) (ho : o.isCells = false) : Rk16 S0 w (w.putObj k o') := by
  refine Keep.putObj w k o' fun h => ?_
  rcases h with h | ⟨cs, hb⟩ | ⟨cs, hb⟩ | ⟨cs, hb⟩
  · have := hS k h; omega
  all_goals exact hb.nc hk ho rfl
/-- the cells of a marker -/
def mcells (r : Nat) (q : Vut) (at_ last : Nat) : List Value := .pointer (some ⟨r, 0, none⟩) :: (q.cut.cells ++ [.int .i64 (at_ : Int), .int .i64 (last : Int)])
def MarkAt (w : World) (m r : Nat) (q : Vut) (bs : List UInt8) : Prop :=
  Blk w m 62 (mcells r q bs.length (lm q bs bs.length)) ∧ RollAt w r q.seed q.wi (lastN q.wi bs) ∧ 0 < r ∧ 0 < m
theorem MarkAt.ext {w w' : World} {m r : Nat} {q : Vut} {bs : List UInt8} (h : MarkAt w m r q bs) (k : Ext w w') : MarkAt w' m r q bs := ⟨h.1.ext k, h.2.1.ext k, h.2.2⟩
theorem MarkAt.keep {S : Nat → Prop} {w w' : World} {m r : Nat} {q : Vut} {bs : List UInt8} (h : MarkAt w m r q bs) (k : Keep S w w') (hm : S m) (hr : S r) (hg : ∀ g, g < r → Blk w g 22 (tcells q.seed) → S g) : MarkAt w' m r q bs := ⟨h.1.keep k hm, h.2.1.keep k hr hg, h.2.2⟩
theorem winOf_vut (q : Vut) : winOf (q.wi : Int) = q.wi := by have := q.h1; have := q.h2; unfold winOf; omega
theorem Own.blk {w : World} {lo size n c : Nat} {e : TypeId} {A : Option Addr} {xs : List Value} (h : Own w lo e size A n c xs) {g o : Nat} (hA : A = some ⟨g, o, none⟩) : lo ≤ g ∧ ∃ cs, Blk w g e cs := by
  rcases h.2 with ⟨hv, h0⟩ | ⟨g', cap, cur, hv, hb, hgg, rest⟩
  · injection hv with h1
    rw [h1] at hA
    cases hA
  · injection hv with h1
    rw [h1] at hA
    cases hA
    refine ⟨hb, cur.toList, ?_⟩
    unfold Blk
    rw [hgg]
/-- it stands while the blocks of its type from lo on stand -/
theorem Own.keepT {S : Nat → Prop} {w w' : World} {lo size n c : Nat} {e : TypeId} {A : Option Addr} {xs : List Value} (h : Own w lo e size A n c xs) (k : Keep S w w') (hS : ∀ g cs, lo ≤ g → Blk w g e cs → S g) : Own w' lo e size A n c xs :=
  h.keep k fun g o hA => by
    obtain ⟨h1, cs, h2⟩ := h.blk hA
    exact hS g cs h1 h2
theorem Own.ne_own {w : World} {lo size n c lo' size' n' c' : Nat} {e e' : TypeId} {A A' : Option Addr} {xs xs' : List Value} (h : Own w lo e size A n c xs) (h' : Own w lo' e' size' A' n' c' xs') (hne : e ≠ e') {g o o' : Nat} (hA : A = some ⟨g, o, none⟩) : A' ≠ some ⟨g, o', none⟩ := fun hA' => by
  obtain ⟨_, cs, h1⟩ := h.blk hA
  obtain ⟨_, cs', h2⟩ := h'.blk hA'
  exact h1.ne h2 hne rfl
/-- slices as values -/
abbrev Sl := Option Addr × Nat × Nat
def slv (x : Sl) : Value := .slice x.1 x.2.1 x.2.2
/-- slices of the call's own, each with its bytes -/
def Owns (w : World) (lo : Nat) : List Sl → List (List UInt8) → Prop
  | [], [] => True
  | s :: sl, y :: ys => (s.2.1 = y.length ∧ Own w lo 5 1 s.1 s.2.1 s.2.2 (bcells y)) ∧ Owns w lo sl ys
  | [], _ :: _ => False
  | _ :: _, [] => False
theorem Owns.keepT {S : Nat → Prop} {w w' : World} {lo : Nat} (k : Keep S w w') (hS : ∀ g cs, lo ≤ g → Blk w g 5 cs → S g) : ∀ {sl : List Sl} {ys : List (List UInt8)}, Owns w lo sl ys → Owns w' lo sl ys
  | [], [], _ => trivial
  | _ :: _, _ :: _, h => ⟨⟨h.1.1, h.1.2.keepT k hS⟩, Owns.keepT k hS h.2⟩
  | [], _ :: _, h => h.elim
  | _ :: _, [], h => h.elim
theorem Owns.keepB {S : Nat → Prop} {w w' : World} {lo : Nat} {sl : List Sl} {ys : List (List UInt8)} (h : Owns w lo sl ys) (k : Keep S w w') (hS : ∀ g cs, lo ≤ g → Blk w g 5 cs → S g) : Owns w' lo sl ys := Owns.keepT k hS h
theorem Owns.keepS {S : Nat → Prop} {w w' : World} {lo : Nat} (k : Keep S w w') : ∀ {sl : List Sl} {ys : List (List UInt8)}, Owns w lo sl ys → (∀ s ∈ sl, ∀ g o, s.1 = some ⟨g, o, none⟩ → S g) → Owns w' lo sl ys
  | [], [], _, _ => trivial
  | s :: _, _ :: _, h, hS => ⟨⟨h.1.1, h.1.2.keep k (fun g o e => hS s List.mem_cons_self g o e)⟩, Owns.keepS k h.2 (fun s hs => hS s (List.mem_cons_of_mem _ hs))⟩
  | [], _ :: _, h, _ => h.elim
  | _ :: _, [], h, _ => h.elim
theorem Owns.ext {w w' : World} {lo : Nat} {sl : List Sl} {ys : List (List UInt8)} (h : Owns w lo sl ys) (k : Ext w w') : Owns w' lo sl ys := Owns.keepT k (fun _ _ _ _ => trivial) h
theorem Owns.snocT {w : World} {lo : Nat} {s : Sl} {y : List UInt8} (h1 : s.2.1 = y.length) (h2 : Own w lo 5 1 s.1 s.2.1 s.2.2 (bcells y)) : ∀ {sl : List Sl} {ys : List (List UInt8)}, Owns w lo sl ys → Owns w lo (sl ++ [s]) (ys ++ [y])
  | [], [], _ => ⟨⟨h1, h2⟩, trivial⟩
  | _ :: _, _ :: _, h => ⟨h.1, Owns.snocT h1 h2 h.2⟩
  | [], _ :: _, h => h.elim
  | _ :: _, [], h => h.elim
theorem Owns.snoc {w : World} {lo : Nat} {s : Sl} {y : List UInt8} {sl : List Sl} {ys : List (List UInt8)} (h : Owns w lo sl ys) (h1 : s.2.1 = y.length) (h2 : Own w lo 5 1 s.1 s.2.1 s.2.2 (bcells y)) : Owns w lo (sl ++ [s]) (ys ++ [y]) := Owns.snocT h1 h2 h
theorem Owns.length {w : World} {lo : Nat} : ∀ {sl : List Sl} {ys : List (List UInt8)}, Owns w lo sl ys → sl.length = ys.length
  | [], [], _ => rfl
  | _ :: _, _ :: _, h => congrArg (· + 1) (Owns.length h.2)
  | [], _ :: _, h => h.elim
  | _ :: _, [], h => h.elim
theorem Owns.get {w : World} {lo : Nat} : ∀ {sl : List Sl} {ys : List (List UInt8)}, Owns w lo sl ys → ∀ {i : Nat} {s : Sl}, sl[i]? = some s → ∃ y, ys[i]? = some y ∧ s.2.1 = y.length ∧ Own w lo 5 1 s.1 s.2.1 s.2.2 (bcells y)
  | [], [], _, i, s, hs => by simp at hs
  | s0 :: _, y0 :: _, h, 0, s, hs => by
    simp at hs
    subst hs
    exact ⟨y0, rfl, h.1.1, h.1.2⟩
  | _ :: _, _ :: _, h, i + 1, s, hs => by
    obtain ⟨y, hy, h'⟩ := Owns.get h.2 (i := i) (by simpa using hs)
    exact ⟨y, by simpa using hy, h'⟩
  | [], _ :: _, h, _, _, _ => h.elim
  | _ :: _, [], h, _, _, _ => h.elim
theorem Owns.lower {w : World} {lo lo' : Nat} (hl : lo' ≤ lo) : ∀ {sl : List Sl} {ys : List (List UInt8)}, Owns w lo sl ys → Owns w lo' sl ys
  | [], [], _ => trivial
  | _ :: _, _ :: _, h => ⟨⟨h.1.1, h.1.2.lower hl⟩, Owns.lower hl h.2⟩
  | [], _ :: _, h => h.elim
  | _ :: _, [], h => h.elim
/-- the pieces of a content that end at these positions, the first from f on -/
def pieces (bs : List UInt8) : Nat → List Nat → List (List UInt8)
  | _, [] => []
  | f, y :: ys => (bs.drop f).take (y - f) :: pieces bs y ys
def lastD : Nat → List Nat → Nat
  | f, [] => f
  | _, y :: ys => lastD y ys
theorem lastD_snoc : ∀ (l : List Nat) (f x : Nat), lastD f (l ++ [x]) = x
  | [], _, _ => rfl
  | y :: l, _, x => lastD_snoc l y x
theorem pieces_snoc (bs : List UInt8) : ∀ (l : List Nat) (f x : Nat), pieces bs f (l ++ [x]) = pieces bs f l ++ [(bs.drop (lastD f l)).take (x - lastD f l)]
  | [], _, _ => rfl
  | y :: l, f, x => by simp [pieces, lastD, pieces_snoc bs l y x]
theorem pieces_length (bs : List UInt8) : ∀ (l : List Nat) (f : Nat), (pieces bs f l).length = l.length
  | [], _ => rfl
  | y :: l, f => by simp [pieces, pieces_length bs l y]
/-- positions that rise from f on and stay within n -/
def Inc : Nat → List Nat → Nat → Prop
  | f, [], n => f ≤ n
  | f, y :: ys, n => f < y ∧ Inc y ys n
theorem Inc.le : ∀ {l : List Nat} {f n : Nat}, Inc f l n → f ≤ n
  | [], _, _, h => h
  | _ :: _, _, _, h => Nat.le_trans (Nat.le_of_lt h.1) (Inc.le h.2)
theorem Inc.at_ {n : Nat} : ∀ {pre : List Nat} {x f : Nat} {ys : List Nat}, pre ++ [x] <+: ys → Inc f ys n → lastD f pre < x ∧ x ≤ n
  | [], x, f, ys, h, hi => by
    obtain ⟨t, rfl⟩ := h
    exact ⟨hi.1, hi.2.le⟩
  | y :: pre, x, f, ys, h, hi => by
    obtain ⟨t, rfl⟩ := h
    exact Inc.at_ (pre := pre) ⟨t, rfl⟩ hi.2
theorem Inc.snoc {n m : Nat} : ∀ {l : List Nat} {f : Nat}, Inc f l n → n < m → Inc f (l ++ [m]) m
  | [], _, h, hm => ⟨Nat.lt_of_le_of_lt h hm, Nat.le_refl _⟩
  | _ :: _, _, h, hm => ⟨h.1, Inc.snoc h.2 hm⟩
theorem Inc.up {n m : Nat} : ∀ {l : List Nat} {f : Nat}, Inc f l n → n ≤ m → Inc f l m
  | [], _, h, hm => Nat.le_trans h hm
  | _ :: _, _, h, hm => ⟨h.1, Inc.up h.2 hm⟩
theorem ecuts_inc (q : Vut) (bs : List UInt8) : ∀ k, Inc 0 (ecuts q bs k).1 k
  | 0 => Nat.le_refl _
  | k + 1 => by
    have ih := ecuts_inc q bs k
    rcases he : ecuts q bs k with ⟨pre, fr⟩
    rw [he] at ih
    by_cases hc : prim q bs (k + 1) = true ∨ k + 1 - fr = q.mx ∨ k + 1 = bs.length
    · rw [ecuts_yes he hc]; exact ih.snoc (by omega)
    · rw [ecuts_no he hc]; exact ih.up (by omega)
theorem Inc.length : ∀ {l : List Nat} {f n : Nat}, Inc f l n → l.length ≤ n - f
  | [], _, _, _ => Nat.zero_le _
  | y :: l, f, n, h => by
    have h1 := h.1
    have h2 := h.2.length
    have h3 := h.2.le
    simp only [List.length_cons]
    omega
theorem build_marker (r : Nat) (q : Vut) (w : World) : (Instr.build 62 [(0, Value.pointer (some ⟨r, 0, none⟩)), (1, q.cut.val)].toArray).run Tryd.prog w = .ok (.agg (mcells r q 0 0).toArray) w := by kernel_rfl
theorem build_chunker (m : Nat) (w : World) : (Instr.build 69 [(0, Value.pointer (some ⟨m, 0, none⟩))].toArray).run Tryd.prog w = .ok (.agg #[.pointer (some ⟨m, 0, none⟩), .slice none 0 0]) w := by kernel_rfl
end Go.Proofs.YtfgpcmphcnhbiaaDoor

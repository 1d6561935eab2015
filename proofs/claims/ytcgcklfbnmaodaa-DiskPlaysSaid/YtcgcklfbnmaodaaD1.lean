/- A disk in plain Lean; what lies in memory where a disk lies. -/
import Derived.Test.YtcgcklfbnmaodaaF
namespace Go.Proofs.Ytcgcklfbnmaodaa
open Go Go.RowKit
set_option linter.unusedVariables false
set_option linter.unusedSimpArgs false
theorem Own.blk {w : World} {lo size n c : Nat} {e : TypeId} {A : Option Addr} {xs : List Value} (h : Own w lo e size A n c xs) {g o : Nat} (hA : A = some ⟨g, o, none⟩) : lo ≤ g ∧ ∃ cs, Blk w g e cs := by
  rcases h.2 with ⟨hv, h0⟩ | ⟨g', cap, cur, hv, hb, hgg, rest⟩
  · injection hv with h1
    rw [h1] at hA
    cases hA
  · injection hv with h1
    rw [h1] at hA
    cases hA
    refine ⟨hb, cur.toList, ?_⟩
    unfold Blk
    rw [hgg]
/-- it stands while the blocks of its type from lo on stand -/
theorem Own.keepT {S : Nat → Prop} {w w' : World} {lo size n c : Nat} {e : TypeId} {A : Option Addr} {xs : List Value} (h : Own w lo e size A n c xs) (k : Keep S w w') (hS : ∀ g cs, lo ≤ g → Blk w g e cs → S g) : Own w' lo e size A n c xs :=
  h.keep k fun g o hA => by
    obtain ⟨h1, cs, h2⟩ := h.blk hA
    exact hS g cs h1 h2
theorem Own.ne_own {w : World} {lo size n c lo' size' n' c' : Nat} {e e' : TypeId} {A A' : Option Addr} {xs xs' : List Value} (h : Own w lo e size A n c xs) (h' : Own w lo' e' size' A' n' c' xs') (hne : e ≠ e') {g o o' : Nat} (hA : A = some ⟨g, o, none⟩) : A' ≠ some ⟨g, o', none⟩ := fun hA' => by
  obtain ⟨_, cs, h1⟩ := h.blk hA
  obtain ⟨_, cs', h2⟩ := h'.blk hA'
  exact h1.ne h2 hne rfl
/-- slices as values -/
abbrev Sl := Option Addr × Nat × Nat
def slv (x : Sl) : Value := .slice x.1 x.2.1 x.2.2
/-- slices of the call's own, each with its bytes -/
def Owns (w : World) (lo : Nat) : List Sl → List (List UInt8) → Prop
  | [], [] => True
  | s :: sl, y :: ys => (s.2.1 = y.length ∧ Own w lo 5 1 s.1 s.2.1 s.2.2 (bcells y)) ∧ Owns w lo sl ys
  | [], _ :: _ => False
  | _ :: _, [] => False
theorem Owns.keepT {S : Nat → Prop} {w w' : World} {lo : Nat} (k : Keep S w w') (hS : ∀ g cs, lo ≤ g → Blk w g 5 cs → S g) : ∀ {sl : List Sl} {ys : List (List UInt8)}, Owns w lo sl ys → Owns w' lo sl ys
  | [], [], _ => trivial
  | _ :: _, _ :: _, h => ⟨⟨h.1.1, h.1.2.keepT k hS⟩, Owns.keepT k hS h.2⟩
  | [], _ :: _, h => h.elim
  | _ :: _, [], h => h.elim
theorem Owns.keepB {S : Nat → Prop} {w w' : World} {lo : Nat} {sl : List Sl} {ys : List (List UInt8)} (h : Owns w lo sl ys) (k : Keep S w w') (hS : ∀ g cs, lo ≤ g → Blk w g 5 cs → S g) : Owns w' lo sl ys := Owns.keepT k hS h
theorem Owns.keepS {S : Nat → Prop} {w w' : World} {lo : Nat} (k : Keep S w w') : ∀ {sl : List Sl} {ys : List (List UInt8)}, Owns w lo sl ys → (∀ s ∈ sl, ∀ g o, s.1 = some ⟨g, o, none⟩ → S g) → Owns w' lo sl ys
  | [], [], _, _ => trivial
  | s :: _, _ :: _, h, hS => ⟨⟨h.1.1, h.1.2.keep k (fun g o e => hS s List.mem_cons_self g o e)⟩, Owns.keepS k h.2 (fun s hs => hS s (List.mem_cons_of_mem _ hs))⟩
  | [], _ :: _, h, _ => h.elim
  | _ :: _, [], h, _ => h.elim
theorem Owns.ext {w w' : World} {lo : Nat} {sl : List Sl} {ys : List (List UInt8)} (h : Owns w lo sl ys) (k : Ext w w') : Owns w' lo sl ys := Owns.keepT k (fun _ _ _ _ => trivial) h
theorem Owns.snocT {w : World} {lo : Nat} {s : Sl} {y : List UInt8} (h1 : s.2.1 = y.length) (h2 : Own w lo 5 1 s.1 s.2.1 s.2.2 (bcells y)) : ∀ {sl : List Sl} {ys : List (List UInt8)}, Owns w lo sl ys → Owns w lo (sl ++ [s]) (ys ++ [y])
  | [], [], _ => ⟨⟨h1, h2⟩, trivial⟩
  | _ :: _, _ :: _, h => ⟨h.1, Owns.snocT h1 h2 h.2⟩
  | [], _ :: _, h => h.elim
  | _ :: _, [], h => h.elim
theorem Owns.snoc {w : World} {lo : Nat} {s : Sl} {y : List UInt8} {sl : List Sl} {ys : List (List UInt8)} (h : Owns w lo sl ys) (h1 : s.2.1 = y.length) (h2 : Own w lo 5 1 s.1 s.2.1 s.2.2 (bcells y)) : Owns w lo (sl ++ [s]) (ys ++ [y]) := Owns.snocT h1 h2 h
theorem Owns.length {w : World} {lo : Nat} : ∀ {sl : List Sl} {ys : List (List UInt8)}, Owns w lo sl ys → sl.length = ys.length
  | [], [], _ => rfl
  | _ :: _, _ :: _, h => congrArg (· + 1) (Owns.length h.2)
  | [], _ :: _, h => h.elim
  | _ :: _, [], h => h.elim
theorem Owns.get {w : World} {lo : Nat} : ∀ {sl : List Sl} {ys : List (List UInt8)}, Owns w lo sl ys → ∀ {i : Nat} {s : Sl}, sl[i]? = some s → ∃ y, ys[i]? = some y ∧ s.2.1 = y.length ∧ Own w lo 5 1 s.1 s.2.1 s.2.2 (bcells y)
  | [], [], _, i, s, hs => by simp at hs
  | s0 :: _, y0 :: _, h, 0, s, hs => by
    simp at hs
    subst hs
    exact ⟨y0, rfl, h.1.1, h.1.2⟩
  | _ :: _, _ :: _, h, i + 1, s, hs => by
    obtain ⟨y, hy, h'⟩ := Owns.get h.2 (i := i) (by simpa using hs)
    exact ⟨y, by simpa using hy, h'⟩
  | [], _ :: _, h, _, _, _ => h.elim
  | _ :: _, [], h, _, _, _ => h.elim
theorem Owns.lower {w : World} {lo lo' : Nat} (hl : lo' ≤ lo) : ∀ {sl : List Sl} {ys : List (List UInt8)}, Owns w lo sl ys → Owns w lo' sl ys
  | [], [], _ => trivial
  | _ :: _, _ :: _, h => ⟨⟨h.1.1, h.1.2.lower hl⟩, Owns.lower hl h.2⟩
  | [], _ :: _, h => h.elim
  | _ :: _, [], h => h.elim
theorem Owns.lt {w : World} {lo : Nat} : ∀ {sl : List Sl} {ys : List (List UInt8)}, Owns w lo sl ys → ∀ s ∈ sl, ∀ g o, s.1 = some ⟨g, o, none⟩ → lo ≤ g ∧ g < w.heap.size
  | [], [], _, s, hs, _, _, _ => by cases hs
  | s0 :: _, _ :: _, h, s, hs, g, o, e => by
    rcases List.mem_cons.1 hs with rfl | hs
    · exact h.1.2.lt e
    · exact Owns.lt h.2 s hs g o e
  | [], _ :: _, h, _, _, _, _, _ => h.elim
  | _ :: _, [], h, _, _, _, _, _ => h.elim
/-- slices that read as these bytes -/
def Rds (w : World) (sl : List Sl) (ys : List (List UInt8)) : Prop := sl.length = ys.length ∧ ∀ (i : Nat) s, sl[i]? = some s → ∃ y, ys[i]? = some y ∧ s.2.1 = y.length ∧ ∃ lo hi, Rd w lo hi 1 s.1 s.2.1 (bcells y)
theorem Rds.ext {w w' : World} {sl : List Sl} {ys : List (List UInt8)} (h : Rds w sl ys) (k : Ext w w') : Rds w' sl ys :=
  ⟨h.1, fun i s hs => by
    obtain ⟨y, h1, h2, lo, hi, h3⟩ := h.2 i s hs
    exact ⟨y, h1, h2, lo, hi, h3.ext k⟩⟩
theorem Owns.rds {w : World} {lo : Nat} {sl : List Sl} {ys : List (List UInt8)} (h : Owns w lo sl ys) : Rds w sl ys :=
  ⟨h.length, fun i s hs => by
    obtain ⟨y, h1, h2, h3⟩ := h.get hs
    exact ⟨y, h1, h2, _, _, h3.rd⟩⟩
/-! ### a disk, in plain Lean -/
structure St where
  n : Nat
  du : List (List UInt8)
  pd : List (Nat × List UInt8)
  off : Bool
  left : Int
/-- is it a sector? -/
def St.In (s : St) (z : Int) : Prop := 0 ≤ z ∧ z < (s.du.length : Int)
instance (s : St) (z : Int) : Decidable (s.In z) := by unfold St.In; infer_instance
def St.fails (s : St) : Bool × St := if s.left = 0 then (true, { s with off := true, left := -1 }) else if 0 < s.left then (false, { s with left := s.left - 1 }) else (false, s)
def St.write (s : St) (z : Int) (d : List UInt8) : Int × St :=
  if s.off = true then (8, s) else if ¬ (s.In z ∧ d.length = s.n) then (1, s)
  else (if ({ s with pd := s.pd ++ [(z.toNat, d)] } : St).fails.1 = true then 8 else 0, ({ s with pd := s.pd ++ [(z.toNat, d)] } : St).fails.2)
def look (pd : List (Nat × List UInt8)) (i : Nat) (d : List UInt8) : List UInt8 := pd.foldl (fun a p => if p.1 = i then p.2 else a) d
def St.read (s : St) (z : Int) : List UInt8 × Int := if s.off = true then ([], 8) else if ¬ s.In z then ([], 1) else (look s.pd z.toNat (s.du.getD z.toNat []), 0)
def putd (du : List (List UInt8)) (i : Nat) (d : List UInt8) : List (List UInt8) := du.set i (d ++ (du.getD i []).drop d.length)
def St.flush (s : St) : List (List UInt8) := s.pd.foldl (fun du p => putd du p.1 p.2) s.du
def St.sync (s : St) : Int × St := if s.off = true then (8, s) else if s.fails.1 = true then (8, s.fails.2) else (0, { s.fails.2 with du := s.fails.2.flush, pd := [] })
def St.fail (s : St) (z : Int) : St := if s.off = true then s else { s with left := max z (-1) }
/-- a crash's writes, from the i-th on -/
def crashG (keep : List Bool) (m : Nat) : Nat → Bool → List (Nat × List UInt8) → List (List UInt8) → List (List UInt8)
  | _, _, [], du => du
  | i, f, p :: ps, du => if i < keep.length ∧ keep.getD i false = true then crashG keep m (i + 1) f ps (putd du p.1 p.2)
    else if f = true then crashG keep m (i + 1) false ps (putd du p.1 (p.2.take m)) else crashG keep m (i + 1) f ps du
def tornN (z : Int) (n : Nat) : Nat := (min (max z 0) (n : Int)).toNat
def St.crash (s : St) (keep : List Bool) (z : Int) : St := { s with du := crashG keep (tornN z s.n) 0 true s.pd s.du, pd := [], off := false, left := -1 }
def St.spoil (s : St) (z o : Int) (x : UInt8) : Int × St :=
  if ¬ (s.In z ∧ 0 ≤ o ∧ o < (s.n : Int)) then (1, s) else (0, { s with du := s.du.set z.toNat ((s.du.getD z.toNat []).set o.toNat ((s.du.getD z.toNat []).getD o.toNat 0 ^^^ x)) })
structure St.Wf (s : St) : Prop where
  n1 : 1 ≤ s.n
  n2 : s.n ≤ 4096
  d1 : s.du.length ≤ 65536
  du : ∀ y ∈ s.du, y.length = s.n
  pd : ∀ p ∈ s.pd, p.1 < s.du.length ∧ p.2.length = s.n
  l1 : -1 ≤ s.left
  l2 : s.left ≤ 9223372036854775807
  of : s.off = true → s.left = -1
def fresh (n k : Nat) : St := ⟨n, List.replicate k (List.replicate n 0), [], false, -1⟩
theorem fresh_wf {n k : Nat} (h1 : 1 ≤ n) (h2 : n ≤ 4096) (h3 : k ≤ 65536) : (fresh n k).Wf :=
  ⟨h1, h2, by simpa [fresh] using h3, fun y hy => by simp [fresh] at hy ⊢; rw [hy.2]; simp, (fun p hp => by cases hp), by simp [fresh], by simp [fresh], fun h => by cases h⟩
theorem St.fails_pd (s : St) : s.fails.2.pd = s.pd ∧ s.fails.2.du = s.du ∧ s.fails.2.n = s.n := by
  unfold St.fails
  split
  · exact ⟨rfl, rfl, rfl⟩
  · split <;> exact ⟨rfl, rfl, rfl⟩
theorem St.Wf.fails {s : St} (h : s.Wf) : s.fails.2.Wf := by
  have l1 := h.l1
  have l2 := h.l2
  unfold St.fails
  split
  · exact ⟨h.n1, h.n2, h.d1, h.du, h.pd, by simp, by simp, fun _ => rfl⟩
  · split
    · exact ⟨h.n1, h.n2, h.d1, h.du, h.pd, by simp only; omega, by simp only; omega, fun e => by have := h.of e; simp only at *; omega⟩
    · exact h
theorem St.Wf.write {s : St} (h : s.Wf) (z : Int) (d : List UInt8) : (s.write z d).2.Wf := by
  unfold St.write
  split
  · exact h
  · split
    · exact h
    · rename_i h1 h2
      have h2 : s.In z ∧ d.length = s.n := Classical.byContradiction h2
      refine St.Wf.fails ⟨h.n1, h.n2, h.d1, h.du, fun p hp => ?_, h.l1, h.l2, h.of⟩
      rcases List.mem_append.1 hp with hp | hp
      · exact h.pd p hp
      · rw [List.mem_singleton.1 hp]
        have := h2.1
        unfold St.In at this
        exact ⟨by simp only; omega, h2.2⟩
theorem putd_length (du : List (List UInt8)) (i : Nat) (d : List UInt8) : (putd du i d).length = du.length := by simp [putd]
theorem putd_all {n : Nat} {du : List (List UInt8)} (h : ∀ y ∈ du, y.length = n) {i : Nat} {d : List UInt8} (hd : d.length ≤ n) : ∀ y ∈ putd du i d, y.length = n := fun y hy => by
  by_cases hi : i < du.length
  · rcases List.mem_or_eq_of_mem_set hy with hy | rfl
    · exact h y hy
    · have := h (du.getD i []) (by rw [List.getD_eq_getElem?_getD, List.getElem?_eq_getElem hi]; exact List.getElem_mem hi)
      rw [List.length_append, List.length_drop]
      omega
  · rw [putd, List.set_eq_of_length_le (by omega)] at hy
    exact h y hy
theorem flushG {n : Nat} : ∀ (pd : List (Nat × List UInt8)) (du : List (List UInt8)), (∀ y ∈ du, y.length = n) → (∀ p ∈ pd, p.2.length ≤ n) → (∀ y ∈ pd.foldl (fun du p => putd du p.1 p.2) du, y.length = n) ∧ (pd.foldl (fun du p => putd du p.1 p.2) du).length = du.length
  | [], du, h, _ => ⟨h, rfl⟩
  | p :: pd, du, h, hp => by
    have := flushG pd (putd du p.1 p.2) (putd_all h (hp p List.mem_cons_self)) (fun p' h' => hp p' (List.mem_cons_of_mem _ h'))
    exact ⟨this.1, this.2.trans (putd_length _ _ _)⟩
theorem St.Wf.sync {s : St} (h : s.Wf) : s.sync.2.Wf := by
  unfold St.sync
  split
  · exact h
  · split
    · exact h.fails
    · have hf := h.fails
      have := flushG (n := s.fails.2.n) s.fails.2.pd s.fails.2.du hf.du (fun p hp => Nat.le_of_eq (hf.pd p hp).2)
      exact ⟨hf.n1, hf.n2, by simp only [St.flush]; rw [this.2]; exact hf.d1, this.1, (fun p hp => by cases hp), hf.l1, hf.l2, hf.of⟩
theorem St.Wf.fail {s : St} (h : s.Wf) {z : Int} (hz : z ≤ 9223372036854775807) : (s.fail z).Wf := by
  unfold St.fail
  split
  · exact h
  · exact ⟨h.n1, h.n2, h.d1, h.du, h.pd, by simp only; omega, by simp only; omega, fun e => absurd e (by assumption)⟩
theorem crashG_ok {n : Nat} (keep : List Bool) (m : Nat) : ∀ (pd : List (Nat × List UInt8)) (i : Nat) (f : Bool) (du : List (List UInt8)), (∀ y ∈ du, y.length = n) → (∀ p ∈ pd, p.2.length ≤ n) → (∀ y ∈ crashG keep m i f pd du, y.length = n) ∧ (crashG keep m i f pd du).length = du.length
  | [], _, _, du, h, _ => ⟨h, rfl⟩
  | p :: pd, i, f, du, h, hp => by
    unfold crashG
    have hp' := fun p' (h' : p' ∈ pd) => hp p' (List.mem_cons_of_mem _ h')
    have h1 := hp p List.mem_cons_self
    split
    · have := crashG_ok keep m pd (i + 1) f (putd du p.1 p.2) (putd_all h h1) hp'
      exact ⟨this.1, this.2.trans (putd_length _ _ _)⟩
    · split
      · have := crashG_ok keep m pd (i + 1) false (putd du p.1 (p.2.take m)) (putd_all h (by rw [List.length_take]; omega)) hp'
        exact ⟨this.1, this.2.trans (putd_length _ _ _)⟩
      · exact crashG_ok keep m pd (i + 1) f du h hp'
theorem St.Wf.crash {s : St} (h : s.Wf) (keep : List Bool) (z : Int) : (s.crash keep z).Wf := by
  have := crashG_ok (n := s.n) keep (tornN z s.n) s.pd 0 true s.du h.du (fun p hp => Nat.le_of_eq (h.pd p hp).2)
  exact ⟨h.n1, h.n2, by simp only [St.crash]; rw [this.2]; exact h.d1, this.1, (fun p hp => by cases hp), by simp [St.crash], by simp [St.crash], fun e => by cases e⟩
theorem St.Wf.spoil {s : St} (h : s.Wf) (z o : Int) (x : UInt8) : (s.spoil z o x).2.Wf := by
  unfold St.spoil
  split
  · exact h
  · rename_i hc
    have hc : s.In z ∧ 0 ≤ o ∧ o < (s.n : Int) := Classical.byContradiction hc
    have hz := hc.1
    unfold St.In at hz
    refine ⟨h.n1, h.n2, by simpa using h.d1, fun y hy => ?_, fun p hp => by simpa using h.pd p hp, h.l1, h.l2, h.of⟩
    rcases List.mem_or_eq_of_mem_set hy with hy | rfl
    · exact h.du y hy
    · rw [List.length_set]
      exact h.du _ (by rw [List.getD_eq_getElem?_getD, List.getElem?_eq_getElem (by omega)]; exact List.getElem_mem _)
/-- a sector's bytes, where none stands for zeros -/
def con (n : Nat) (y : List UInt8) : List UInt8 := if y = [] then List.replicate n 0 else y
theorem con_length {n : Nat} {y : List UInt8} (h : y = [] ∨ y.length = n) : (con n y).length = n := by
  unfold con
  split
  · simp
  · rcases h with h | h
    · contradiction
    · exact h
theorem con_full {n : Nat} {y : List UInt8} (h : y.length = n) (hn : 1 ≤ n) : con n y = y := by
  unfold con
  rw [if_neg (fun e => by rw [e] at h; simp at h; omega)]

/-! ### in memory -/
structure Rep where
  A : Option Addr
  cA : Nat
  dsl : List Sl
  P : Option Addr
  cP : Nat
  wl : List (Nat × Sl)
def wcells (wl : List (Nat × Sl)) : List Value := wl.flatMap fun p => [.int .i64 (p.1 : Int), slv p.2]
theorem wcells_length (wl : List (Nat × Sl)) : (wcells wl).length = wl.length * 2 := by
  induction wl with
  | nil => rfl
  | cons p wl ih => simp only [wcells, List.flatMap_cons, List.length_append, List.length_cons, List.length_nil] at ih ⊢; omega
theorem wcells_get {wl : List (Nat × Sl)} : ∀ {i : Nat} {p : Nat × Sl}, wl[i]? = some p → (wcells wl)[i * 2]? = some (.int .i64 (p.1 : Int)) ∧ (wcells wl)[i * 2 + 1]? = some (slv p.2) := by
  induction wl with
  | nil => intro i p h; simp at h
  | cons q wl ih =>
    intro i p h
    cases i with
    | zero => simp at h; subst h; exact ⟨rfl, rfl⟩
    | succ i =>
      have := ih (i := i) (p := p) (by simpa using h)
      simp only [wcells, List.flatMap_cons] at this ⊢
      rw [show (i + 1) * 2 = i * 2 + 1 + 1 by omega]
      exact this
theorem wcells_snoc (wl : List (Nat × Sl)) (p : Nat × Sl) : wcells (wl ++ [p]) = wcells wl ++ [.int .i64 (p.1 : Int), slv p.2] := by simp [wcells]
theorem wcells_one (wl : List (Nat × Sl)) : ∀ u ∈ wcells wl, u.oneCell' = true := fun u hu => by
  simp only [wcells, List.mem_flatMap] at hu
  obtain ⟨p, _, hu⟩ := hu
  simp at hu
  rcases hu with rfl | rfl <;> rfl
/-- two slices of one's own that lie apart -/
def Sep (B D : Option Addr) : Prop := ∀ g o o', B = some ⟨g, o, none⟩ → D ≠ some ⟨g, o', none⟩
theorem Sep.symm {B D : Option Addr} (h : Sep B D) : Sep D B := fun g o o' h1 h2 => h g o' o h2 h1
structure Mem (tw : Nat) (w : World) (F : Nat → Prop) (r : Rep) (rd : List (List UInt8)) (pd : List (Nat × List UInt8)) : Prop where
  own : Own w 0 22 1 r.A rd.length r.cA (r.dsl.map slv)
  dat : Owns w 0 r.dsl rd
  pown : Own w 0 tw 2 r.P pd.length r.cP (wcells r.wl)
  pdat : Owns w 0 (r.wl.map (·.2)) (pd.map (·.2))
  psec : r.wl.map (·.1) = pd.map (·.1)
  sep : (r.dsl ++ r.wl.map (·.2)).Pairwise fun s t => Sep s.1 t.1
  fA : ∀ g o, r.A = some ⟨g, o, none⟩ → F g
  fP : ∀ g o, r.P = some ⟨g, o, none⟩ → F g
  fd : ∀ s ∈ r.dsl ++ r.wl.map (·.2), ∀ g o, s.1 = some ⟨g, o, none⟩ → F g
  lt : ∀ j, F j → j < w.heap.size
theorem Mem.keep {tw : Nat} {w w' : World} {S F : Nat → Prop} {r : Rep} {rd : List (List UInt8)} {pd : List (Nat × List UInt8)} (h : Mem tw w F r rd pd) (k : Keep S w w') (hS : ∀ j, F j → S j) : Mem tw w' F r rd pd :=
  ⟨h.own.keep k (fun g o e => hS g (h.fA g o e)), Owns.keepS k h.dat (fun s hs g o e => hS g (h.fd s (List.mem_append.2 (.inl hs)) g o e)), h.pown.keep k (fun g o e => hS g (h.fP g o e)), Owns.keepS k h.pdat (fun s hs g o e => hS g (h.fd s (List.mem_append.2 (.inr hs)) g o e)), h.psec, h.sep, h.fA, h.fP, h.fd, fun j hj => Nat.lt_of_lt_of_le (h.lt j hj) k.size⟩
theorem Mem.ext {tw : Nat} {w w' : World} {F : Nat → Prop} {r : Rep} {rd : List (List UInt8)} {pd : List (Nat × List UInt8)} (h : Mem tw w F r rd pd) (k : Ext w w') : Mem tw w' F r rd pd := h.keep k fun _ _ => trivial
theorem Mem.grow {tw : Nat} {w : World} {F F' : Nat → Prop} {r : Rep} {rd : List (List UInt8)} {pd : List (Nat × List UInt8)} (h : Mem tw w F r rd pd) (hF : ∀ j, F j → F' j) (hl : ∀ j, F' j → j < w.heap.size) : Mem tw w F' r rd pd :=
  ⟨h.own, h.dat, h.pown, h.pdat, h.psec, h.sep, fun g o e => hF g (h.fA g o e), fun g o e => hF g (h.fP g o e), fun s hs g o e => hF g (h.fd s hs g o e), hl⟩
theorem Mem.len {tw : Nat} {w : World} {F : Nat → Prop} {r : Rep} {rd : List (List UInt8)} {pd : List (Nat × List UInt8)} (h : Mem tw w F r rd pd) : r.dsl.length = rd.length ∧ r.wl.length = pd.length := by
  have := h.dat.length
  have := h.pdat.length
  simp at this
  exact ⟨by assumption, this⟩
/-- what is new since w is the disk's as well -/
def grown (F : Nat → Prop) (w w' : World) (j : Nat) : Prop := F j ∨ (w.heap.size ≤ j ∧ j < w'.heap.size)
theorem grown.lt {F : Nat → Prop} {w w' : World} (h : ∀ j, F j → j < w.heap.size) (hw : w.heap.size ≤ w'.heap.size) (j : Nat) (hj : grown F w w' j) : j < w'.heap.size := by
  rcases hj with hj | hj
  · have := h j hj; omega
  · exact hj.2
theorem sep_mem {l : List Sl} (h : l.Pairwise fun s t => Sep s.1 t.1) {i j : Nat} {s t : Sl} (hs : l[i]? = some s) (ht : l[j]? = some t) (hne : i ≠ j) : Sep s.1 t.1 := by
  obtain ⟨h1, rfl⟩ := List.getElem?_eq_some_iff.1 hs
  obtain ⟨h2, rfl⟩ := List.getElem?_eq_some_iff.1 ht
  rcases Nat.lt_or_ge i j with hlt | hge
  · exact List.pairwise_iff_getElem.1 h i j h1 h2 hlt
  · exact (List.pairwise_iff_getElem.1 h j i h2 h1 (by omega)).symm
theorem Owns.setAt {w w' : World} {lo : Nat} {S : Nat → Prop} (k : Keep S w w') : ∀ {sl : List Sl} {ys : List (List UInt8)} {i : Nat} {s : Sl} {y : List UInt8}, Owns w lo sl ys → (∀ (j : Nat) (t : Sl), sl[j]? = some t → j ≠ i → ∀ g o, t.1 = some ⟨g, o, none⟩ → S g) → s.2.1 = y.length → Own w' lo 5 1 s.1 s.2.1 s.2.2 (bcells y) → Owns w' lo (sl.set i s) (ys.set i y)
  | [], [], _, _, _, _, _, _, _ => trivial
  | t :: sl, z :: ys, 0, s, y, h, hS, h1, h2 => ⟨⟨h1, h2⟩, Owns.keepS k h.2 (fun t' ht' g o e => by
      obtain ⟨j, hj⟩ := List.getElem?_of_mem ht'
      exact hS (j + 1) t' (by simpa using hj) (by omega) g o e)⟩
  | t :: sl, z :: ys, i + 1, s, y, h, hS, h1, h2 => ⟨⟨h.1.1, h.1.2.keep k (fun g o e => hS 0 t rfl (by omega) g o e)⟩, Owns.setAt k h.2 (fun j t' ht' hne g o e => hS (j + 1) t' (by simpa using ht') (by omega) g o e) h1 h2⟩
  | [], _ :: _, _, _, _, h, _, _, _ => h.elim
  | _ :: _, [], _, _, _, h, _, _, _ => h.elim
/-- a sector's block is written -/
theorem Mem.setB {tw : Nat} {w w' : World} {F : Nat → Prop} {r : Rep} {rd : List (List UInt8)} {pd : List (Nat × List UInt8)} (h : Mem tw w F r rd pd) {i : Nat} {s : Sl} {y : List UInt8} (hs : r.dsl[i]? = some s) (hw : tw ≠ 5)
    (k : Keep (fun j => ∀ o, s.1 ≠ some ⟨j, o, none⟩) w w') (h1 : s.2.1 = y.length) (h2 : Own w' 0 5 1 s.1 s.2.1 s.2.2 (bcells y)) : Mem tw w' F r (rd.set i y) pd := by
  have hil := (List.getElem?_eq_some_iff.1 hs).1
  obtain ⟨y0, hy0, hl0, ho0⟩ := h.dat.get hs
  have hset : r.dsl.set i s = r.dsl := List.ext_getElem? fun j => by
    rw [List.getElem?_set]
    split
    · rename_i e; subst e; exact hs.symm
    · rfl
  refine ⟨by rw [List.length_set]; exact h.own.keep k (fun g o e o' e' => h.own.ne_own ho0 (by decide) e e'), ?_, h.pown.keep k (fun g o e o' e' => h.pown.ne_own ho0 hw e e'), Owns.keepS k h.pdat (fun t ht g o e o' e' => ?_), h.psec, h.sep, h.fA, h.fP, h.fd, fun j hj => Nat.lt_of_lt_of_le (h.lt j hj) k.size⟩
  · have := Owns.setAt k (i := i) h.dat (fun j t ht hne g o e o' e' => sep_mem h.sep (i := j) (j := i) (by rw [List.getElem?_append_left (List.getElem?_eq_some_iff.1 ht).1]; exact ht) (by rw [List.getElem?_append_left hil]; exact hs) hne g o o' e e') h1 h2
    rwa [hset] at this
  · obtain ⟨j, hj⟩ := List.getElem?_of_mem ht
    exact sep_mem h.sep (i := i) (j := r.dsl.length + j) (by rw [List.getElem?_append_left hil]; exact hs) (by rw [List.getElem?_append_right (by omega), Nat.add_sub_cancel_left]; exact hj) (by omega) g o' o e' e
/-- a sector gets another block -/
theorem Mem.setS {tw : Nat} {w w' : World} {F F' : Nat → Prop} {r : Rep} {rd : List (List UInt8)} {pd : List (Nat × List UInt8)} (h : Mem tw w F r rd pd) {i : Nat} {s : Sl} {y : List UInt8} (hi : i < rd.length)
    (k : Keep (fun j => ∀ o, r.A ≠ some ⟨j, o, none⟩) w w') (hA : Own w' 0 22 1 r.A rd.length r.cA ((r.dsl.map slv).set i (slv s))) (hw : tw ≠ 22) (h1 : s.2.1 = y.length) (h2 : Own w' 0 5 1 s.1 s.2.1 s.2.2 (bcells y))
    (hn : ∀ g o, s.1 = some ⟨g, o, none⟩ → ¬ F g ∧ F' g) (hF : ∀ j, F j → F' j) (hl : ∀ j, F' j → j < w'.heap.size) : Mem tw w' F' { r with dsl := r.dsl.set i s } (rd.set i y) pd := by
  have hlen := h.len.1
  refine ⟨by rw [List.length_set]; show Own w' 0 _ 1 r.A rd.length r.cA ((r.dsl.set i s).map slv); rw [List.map_set]; exact hA, ?_, h.pown.keep k (fun g o e o' e' => h.pown.ne_own h.own hw e e'), h.pdat.keepT k (fun g cs _ hg o e => h.own.ne_blk hg (by decide) g o e rfl), h.psec, ?_, fun g o e => hF g (h.fA g o e), fun g o e => hF g (h.fP g o e), ?_, hl⟩
  · exact Owns.setAt k h.dat (fun j t ht hne g o e o' e' => by
      obtain ⟨y', _, _, ho⟩ := h.dat.get ht
      exact ho.ne_own h.own (by decide) e e') h1 h2
  · show ((r.dsl.set i s) ++ r.wl.map (·.2)).Pairwise _
    rw [← List.set_append_left _ _ (by omega)]
    refine List.pairwise_iff_getElem.2 fun a b ha hb hab => ?_
    rw [List.length_set] at ha hb
    have hold : ∀ (c : Nat) (hc : c < (r.dsl ++ r.wl.map (·.2)).length) g o, ((r.dsl ++ r.wl.map (·.2))[c]).1 = some ⟨g, o, none⟩ → F g := fun c hc g o e => h.fd _ (List.getElem_mem hc) g o e
    rw [List.getElem_set, List.getElem_set]
    split
    · split
      · omega
      · exact fun g o o' e e' => (hn g o e).1 (hold b hb g o' e')
    · split
      · exact fun g o o' e e' => (hn g o' e').1 (hold a ha g o e)
      · exact List.pairwise_iff_getElem.1 h.sep a b ha hb hab
  · intro t ht g o e
    rcases List.mem_append.1 ht with ht | ht
    · rcases List.mem_or_eq_of_mem_set ht with ht | rfl
      · exact hF g (h.fd t (List.mem_append.2 (.inl ht)) g o e)
      · exact (hn g o e).2
    · exact hF g (h.fd t (List.mem_append.2 (.inr ht)) g o e)
/-- a write is pending -/
theorem Mem.push {tw : Nat} {w w' : World} {F F' : Nat → Prop} {r : Rep} {rd : List (List UInt8)} {pd : List (Nat × List UInt8)} (h : Mem tw w F r rd pd) {B : Option Addr} {d z : Nat} {s : Sl} {y : List UInt8}
    (k : Keep (fun j => ∀ o, r.P ≠ some ⟨j, o, none⟩) w w') (hP : Own w' 0 tw 2 B (pd.length + 1) d (wcells r.wl ++ [.int .i64 (z : Int), slv s])) (hw : tw ≠ 22) (hw2 : tw ≠ 5) (h1 : s.2.1 = y.length) (h2 : Own w' 0 5 1 s.1 s.2.1 s.2.2 (bcells y))
    (hn : ∀ g o, s.1 = some ⟨g, o, none⟩ → ¬ F g ∧ F' g) (hB : ∀ g o, B = some ⟨g, o, none⟩ → F' g) (hF : ∀ j, F j → F' j) (hl : ∀ j, F' j → j < w'.heap.size) : Mem tw w' F' { r with P := B, cP := d, wl := r.wl ++ [(z, s)] } rd (pd ++ [(z, y)]) := by
  refine ⟨h.own.keep k (fun g o e o' e' => h.own.ne_own h.pown (Ne.symm hw) e e'), h.dat.keepT k (fun g cs _ hg o e => h.pown.ne_blk hg hw2 g o e rfl), by rw [List.length_append, List.length_singleton]; show Own w' 0 tw 2 B _ d (wcells (r.wl ++ [(z, s)])); rw [wcells_snoc]; exact hP, ?_, by simp [h.psec], ?_, fun g o e => hF g (h.fA g o e), hB, ?_, hl⟩
  · show Owns w' 0 ((r.wl ++ [(z, s)]).map (·.2)) ((pd ++ [(z, y)]).map (·.2))
    rw [List.map_append, List.map_append]
    exact (h.pdat.keepT k (fun g cs _ hg o e => h.pown.ne_blk hg hw2 g o e rfl)).snoc h1 h2
  · show (r.dsl ++ (r.wl ++ [(z, s)]).map (·.2)).Pairwise _
    rw [List.map_append, ← List.append_assoc, List.pairwise_append]
    refine ⟨h.sep, List.pairwise_singleton _ _, fun a ha b hb => ?_⟩
    simp at hb
    subst hb
    exact fun g o o' e e' => (hn g o' e').1 (h.fd a ha g o e)
  · intro t ht g o e
    rw [show (r.wl ++ [(z, s)]).map (·.2) = r.wl.map (·.2) ++ [s] by simp, ← List.append_assoc] at ht
    rcases List.mem_append.1 ht with ht | ht
    · exact hF g (h.fd t ht g o e)
    · rw [List.mem_singleton.1 ht] at e
      exact (hn g o e).2
/-- no write is pending -/
theorem Mem.clear {tw : Nat} {w : World} {F : Nat → Prop} {r : Rep} {rd : List (List UInt8)} {pd : List (Nat × List UInt8)} (h : Mem tw w F r rd pd) : Mem tw w F { r with P := none, cP := 0, wl := [] } rd [] :=
  ⟨h.own, h.dat, Own.nil _ _ _ _, trivial, rfl, by simpa using (List.pairwise_append.1 h.sep).1, h.fA, (fun g o e => by cases e), (fun s hs => by simp at hs; exact h.fd s (List.mem_append.2 (.inl hs))), h.lt⟩
theorem Mem.start {tw : Nat} {w : World} {F : Nat → Prop} {A : Option Addr} {c n : Nat} (h : Own w 0 22 1 A n c (List.replicate n (.slice none 0 0))) (hA : ∀ g o, A = some ⟨g, o, none⟩ → F g) (hl : ∀ j, F j → j < w.heap.size) : Mem tw w F ⟨A, c, List.replicate n (none, 0, 0), none, 0, []⟩ (List.replicate n []) [] :=
  ⟨by rw [List.length_replicate, List.map_replicate]; exact h, by
    clear h
    induction n with
    | zero => exact trivial
    | succ n ih => exact ⟨⟨rfl, Own.nil _ _ _ _⟩, ih⟩, Own.nil _ _ _ _, trivial, rfl, (by
    simp only [List.map_nil, List.append_nil]
    refine List.pairwise_iff_getElem.2 fun a b ha hb hab g o o' e => ?_
    simp at e), hA, (fun g o e => by cases e), (fun s hs g o e => by
    simp at hs
    rw [hs.2] at e
    cases e), hl⟩
end Go.Proofs.Ytcgcklfbnmaodaa

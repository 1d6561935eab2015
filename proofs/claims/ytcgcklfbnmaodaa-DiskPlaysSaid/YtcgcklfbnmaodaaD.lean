/- A region whose order of operations is open, walked in the order of the text: by segments. A segment of several operations may come up in whatever order; each of them changes nothing that was there. A segment of one operation is carried out when all before it are done. -/
import Derived.Test.YtcgcklfbnmaodaaO
namespace Go.Proofs.Ytcgcklfbnmaodaa
open Go Go.RowKit

/-- operation j waits for operation i by an edge of its own -/
def dep (ops : Array Oper) (j i : Nat) : Bool :=
  match ops[j]? with
  | some oj => oj.after.toList.any fun e => Region.binds .any e && Nat.beq e.on i
  | none => false
/-- it waits for i, through others too -/
def waits (ops : Array Oper) : Nat → Nat → Nat → Bool
  | 0, _, _ => false
  | f + 1, j, i => dep ops j i || match ops[j]? with
    | some oj => oj.after.toList.any fun e => Region.binds .any e && waits ops f e.on i
    | none => false
/-- every edge leads back in the text -/
def backB (ops : Array Oper) : Bool := (List.range ops.size).all fun j => match ops[j]? with
  | some oj => oj.after.toList.all fun e => !Region.binds .any e || Nat.blt e.on j
  | none => true
/-- what stands behind the segment from k on, of n operations, waits for all of it -/
def segB (ops : Array Oper) (k n : Nat) : Bool := (List.range ops.size).all fun j => Nat.blt j (k + n) || (List.range n).all fun i => waits ops (j + 1) j (k + i)

def firstk (size k : Nat) : Array Bool := (Array.range size).map fun i => Nat.blt i k
theorem firstk_get {size k i : Nat} (h : i < size) : (firstk size k)[i]? = some (decide (i < k)) := by
  have : Nat.blt i k = decide (i < k) := by
    by_cases e : i < k
    · rw [decide_eq_true e]; simpa using e
    · rw [decide_eq_false e]
      cases e' : Nat.blt i k with
      | false => rfl
      | true => exact absurd (by simpa using e') e
  simp [firstk, h, this]

theorem firstk_succ {size k : Nat} (_h : k < size) : (firstk size k).setIfInBounds k true = firstk size (k + 1) := by
  refine Array.ext (by simp [firstk]) fun i h1 h2 => ?_
  have hi : i < size := by simpa [firstk] using h2
  have e2 := firstk_get (k := k + 1) hi
  rw [Array.getElem?_eq_getElem h2] at e2
  injection e2 with e2
  rw [e2]
  have e1 := firstk_get (k := k) hi
  have h3 : i < (firstk size k).size := by simpa using h1
  rw [Array.getElem?_eq_getElem h3] at e1
  injection e1 with e1
  by_cases e : k = i
  · subst e; simp
  · rw [Array.getElem_setIfInBounds_ne (by simpa using h3) e, e1]
    by_cases h' : i < k
    · rw [decide_eq_true h', decide_eq_true (by omega)]
    · rw [decide_eq_false h', decide_eq_false (by omega)]
theorem filter_one {l : List Nat} {j m : Nat} (hm : l.length = m + 1) (hn : l.Nodup) (hj : j ∈ l) : (l.filter fun i => !Nat.beq i j).length = m := by
  have h1 : (l.filter fun i => !Nat.beq i j) = l.erase j := by
    rw [hn.erase_eq_filter]
    refine List.filter_congr fun i _ => ?_
    by_cases e : i = j
    · subst e; simp
    · rw [beqf e]; simp [e]
  rw [h1, List.length_erase_of_mem hj, hm]
  rfl
theorem exists_least {p : Nat → Prop} (h : ∃ n, p n) : ∃ n, p n ∧ ∀ m, p m → n ≤ m := by
  obtain ⟨n, hn⟩ := h
  induction n using Nat.strongRecOn with
  | _ n ih =>
    by_cases hm : ∃ m, m < n ∧ p m
    · obtain ⟨m, hlt, hp⟩ := hm
      exact ih m hlt hp
    · exact ⟨n, hn, fun m hp => Nat.le_of_not_lt fun hlt => hm ⟨m, hlt, hp⟩⟩
structure Lst (ops : Array Oper) (k n : Nat) (listed : Array Bool) : Prop where
  size : listed.size = ops.size
  low : ∀ i, i < k → i < ops.size → listed.getD i false = true
  high : ∀ i, k + n ≤ i → listed.getD i false = false
  closed : ∀ j oj, ops[j]? = some oj → listed.getD j false = true → ∀ e ∈ oj.after, Region.binds .any e = true → listed.getD e.on false = true

section
variable {ops : Array Oper}
theorem dep_spec {j i : Nat} (h : dep ops j i = true) : ∃ oj, ops[j]? = some oj ∧ ∃ e ∈ oj.after, Region.binds .any e = true ∧ e.on = i := by
  unfold dep at h
  split at h
  · rename_i oj hj
    obtain ⟨e, he, hb⟩ := List.any_eq_true.1 h
    simp only [Bool.and_eq_true] at hb
    exact ⟨oj, hj, e, by simpa using he, hb.1, Nat.eq_of_beq_eq_true hb.2⟩
  · cases h
theorem Lst.dep {k n : Nat} {listed : Array Bool} (hl : Lst ops k n listed) {j i : Nat} (hj : listed.getD j false = true) (h : dep ops j i = true) : listed.getD i false = true := by
  obtain ⟨oj, ho, e, he, hb, rfl⟩ := dep_spec h
  exact hl.closed j oj ho hj e he hb
theorem Lst.waits {k n : Nat} {listed : Array Bool} (hl : Lst ops k n listed) : ∀ (f j i : Nat), (∀ oj, ops[j]? = some oj → ∀ e ∈ oj.after, Region.binds .any e = true → listed.getD e.on false = true) → waits ops f j i = true → listed.getD i false = true
  | 0, _, _, _, h => by simp [Proofs.Ytcgcklfbnmaodaa.waits] at h
  | f + 1, j, i, hr, h => by
    unfold Proofs.Ytcgcklfbnmaodaa.waits at h
    rw [Bool.or_eq_true] at h
    rcases h with h | h
    · obtain ⟨oj, ho, e, he, hb, rfl⟩ := dep_spec h
      exact hr oj ho e he hb
    · split at h
      · rename_i oj ho
        obtain ⟨e, he, hb⟩ := List.any_eq_true.1 h
        simp only [Bool.and_eq_true] at hb
        have he' : e ∈ oj.after := by simpa using he
        have hle := hr oj ho e he' hb.1
        exact Lst.waits hl f e.on i (fun oe hoe e' he'' hb' => hl.closed e.on oe hoe hle e' he'' hb') hb.2
      · cases h
theorem getD_false_of {listed : Array Bool} {i : Nat} (h : listed.getD i true = false) : listed.getD i false = false := by
  rcases Nat.lt_or_ge i listed.size with h' | h'
  · simp [h'] at h ⊢; exact h
  · simp [Array.getElem?_eq_none h'] at h
theorem getD_true_of {listed : Array Bool} {i : Nat} (hi : i < listed.size) (h : listed.getD i false = false) : listed.getD i true = false := by
  simp [hi] at h ⊢; exact h
theorem ready_all {listed : Array Bool} {j : Nat} (h : j ∈ Region.ready .any ops listed) : listed.getD j false = false ∧ ∀ oj, ops[j]? = some oj → ∀ e ∈ oj.after, Region.binds .any e = true → listed.getD e.on false = true := by
  obtain ⟨h1, oj, ho, h2⟩ := mem_ready.1 h
  exact ⟨getD_false_of h1, fun oj' ho' => by rw [ho] at ho'; injection ho' with ho'; subst ho'; exact h2⟩
theorem back_spec (h : backB ops = true) {j : Nat} {oj : Oper} (hj : ops[j]? = some oj) : ∀ e ∈ oj.after, Region.binds .any e = true → e.on < j := by
  intro e he hb
  have hlt : j < ops.size := (Array.getElem?_eq_some_iff.1 hj).1
  have := List.all_eq_true.1 h j (List.mem_range.2 hlt)
  rw [hj] at this
  have := List.all_eq_true.1 this e (by simpa using he)
  simp only [hb, Bool.not_true, Bool.false_or] at this
  simpa using this
theorem set_get {listed : Array Bool} {i j : Nat} : (listed.setIfInBounds i true).getD j false = true ↔ listed.getD j false = true ∨ (i = j ∧ j < listed.size) := by
  by_cases e : i = j
  · subst e
    by_cases h : i < listed.size
    · simp [h]
    · simp [h]
  · rw [getD_set_ne false e]
    simp [e]
theorem Lst.set {k n j : Nat} {listed : Array Bool} (hl : Lst ops k n listed) (hr : j ∈ Region.ready .any ops listed) (hj : j < k + n) : Lst ops k n (listed.setIfInBounds j true) := by
  obtain ⟨_, hall⟩ := ready_all hr
  refine ⟨by simp [hl.size], fun i h1 h2 => set_get.2 (.inl (hl.low i h1 h2)), fun i hi => ?_, fun i oi hi hli e he hb => ?_⟩
  · cases h : (listed.setIfInBounds j true).getD i false with
    | false => rfl
    | true => rcases set_get.1 h with h | ⟨h, _⟩
              · rw [hl.high i hi] at h; cases h
              · omega
  · refine set_get.2 (.inl ?_)
    rcases set_get.1 hli with h | ⟨rfl, _⟩
    · exact hl.closed i oi hi h e he hb
    · exact hall oi hi e he hb
theorem Lst.firstk (hb : backB ops = true) (k : Nat) (n : Nat) : Lst ops k n (firstk ops.size k) := by
  have hg : ∀ i, (Proofs.Ytcgcklfbnmaodaa.firstk ops.size k).getD i false = true ↔ i < k ∧ i < ops.size := by
    intro i
    by_cases h : i < ops.size
    · rw [Array.getD_eq_getD_getElem?, firstk_get h]; simp [h]
    · have : (Proofs.Ytcgcklfbnmaodaa.firstk ops.size k).size ≤ i := by simp [Proofs.Ytcgcklfbnmaodaa.firstk]; omega
      simp [Array.getElem?_eq_none this, h]
  refine ⟨by simp [Proofs.Ytcgcklfbnmaodaa.firstk], fun i h1 h2 => (hg i).2 ⟨h1, h2⟩, fun i hi => ?_, fun j oj hj hl e he hbb => ?_⟩
  · cases h : (Proofs.Ytcgcklfbnmaodaa.firstk ops.size k).getD i false with
    | false => rfl
    | true => have := (hg i).1 h; omega
  · have h1 := back_spec hb hj e he hbb
    have h2 := (hg j).1 hl
    exact (hg _).2 ⟨by omega, by omega⟩
theorem Lst.full {k n : Nat} {listed : Array Bool} (hl : Lst ops k n listed) (hall : ∀ i, k ≤ i → i < k + n → i < ops.size → listed.getD i false = true) : listed = Proofs.Ytcgcklfbnmaodaa.firstk ops.size (k + n) := by
  refine Array.ext (by rw [hl.size]; simp [Proofs.Ytcgcklfbnmaodaa.firstk]) fun i h1 h2 => ?_
  have hi : i < ops.size := by rw [← hl.size]; exact h1
  have e1 : listed.getD i false = listed[i] := by simp [h1]
  have e2 : (Proofs.Ytcgcklfbnmaodaa.firstk ops.size (k + n))[i] = decide (i < k + n) := by
    have := firstk_get (k := k + n) hi
    rw [Array.getElem?_eq_getElem h2] at this
    injection this
  rw [e2, ← e1]
  by_cases h : i < k + n
  · rw [decide_eq_true h]
    by_cases h' : i < k
    · exact hl.low i h' hi
    · exact hall i (by omega) h hi
  · rw [decide_eq_false h]; exact hl.high i (by omega)
end

section
variable {r : Option Nat} {P : Program} {N : Sz} {ops : Array Oper} {Q : Exit → Act → World → Prop} {l : Env} {w : World}

/-- the region from its operation k on, all before it done -/
def Wd (r : Option Nat) (P : Program) (N : Sz) (ops : Array Oper) (Q : Exit → Act → World → Prop) (k : Nat) (l : Env) (w : World) : Prop :=
  backB ops = true ∧ ∀ a, Of N l a → wpAnyIn (WF r) 0 P .any ops Q (ops.size - k) (firstk ops.size k) a w

theorem w_draw {id : Nat} (hm : P.follows .mixedOrders = true) (h : ∀ w1, w1 = { w with drawn := w.drawn + 1 } → Ext w w1 → Wd r P N ops Q 0 l w1) : W r P N (.region id ops true) Q l w := by
  intro a ha
  refine wpIn_region_any hm ?_
  have := (h _ rfl (Keep.draw w)).2 a ha
  have e : firstk ops.size 0 = Array.replicate ops.size false := by
    refine Array.ext (by simp [firstk]) fun i h1 h2 => ?_
    have hi : i < ops.size := by simpa using h2
    have := firstk_get (k := 0) hi
    rw [Array.getElem?_eq_getElem h1] at this
    injection this with this
    rw [this]; simp
  rw [← e]
  exact this
theorem wd_nil {k : Nat} (hk : ops.size ≤ k) (hb : backB ops = true) (h : QE N Q .normal l w) : Wd r P N ops Q k l w := by
  refine ⟨hb, fun a ha => ?_⟩
  rw [Nat.sub_eq_zero_of_le hk]
  refine ⟨?_, h a ha⟩
  cases hr : Region.ready .any ops (firstk ops.size k) with
  | nil => rfl
  | cons j t =>
    have hj : j ∈ Region.ready .any ops (firstk ops.size k) := by rw [hr]; exact List.mem_cons_self
    obtain ⟨h1, h2⟩ := ready_all hj
    obtain ⟨_, oj, ho, _⟩ := mem_ready.1 hj
    have hlt : j < ops.size := (Array.getElem?_eq_some_iff.1 ho).1
    rw [Array.getD_eq_getD_getElem?, firstk_get hlt] at h1
    simp at h1
    omega

/-- what is known of an operation's value: it itself, or a fact that stands while nothing that was there changes -/
inductive Fact where
  | det (v : Value)
  | ex (Φ : Value → World → Prop)
def Fact.holds : Fact → Value → World → Prop
  | .det v => fun v' _ => v' = v
  | .ex Φ => Φ
def Fact.mono : Fact → Prop
  | .det _ => True
  | .ex Φ => ∀ v w w', Ext w w' → Φ v w → Φ v w'
theorem Fact.mono.keep' {f : Fact} (hm : f.mono) {v : Value} {w w' : World} (k : Ext w w') (h : f.holds v w) : f.holds v w' := by
  cases f with
  | det u => exact h
  | ex Φ => exact hm v w w' k h
theorem Fact.keep {f : Fact} (hm : f.mono) {v : Value} {w w' : World} (k : Ext w w') (h : f.holds v w) : f.holds v w' := by
  cases f with
  | det u => exact h
  | ex Φ => exact hm v w w' k h

abbrev Acc := List (Nat × Nat × Fact)
def findA : Acc → Nat → Option (Nat × Fact)
  | [], _ => none
  | (j, d, f) :: l, i => bif Nat.beq j i then some (d, f) else findA l i

/-- in the worlds in which these hold: the environment that they make -/
def Known (acc : Acc) (w0 : World) : List Nat → Env → (Env → World → Prop) → (World → Prop) → Prop
  | [], l, K, H => ∀ w', Ext w0 w' → H w' → K l w'
  | i :: is, l, K, H => match findA acc i with
    | some (d, .det v) => Known acc w0 is ((d, v) :: l) K H
    | some (d, .ex Φ) => ∀ v, Known acc w0 is ((d, v) :: l) K (fun w' => Φ v w' ∧ H w')
    | none => False
/-- all of them -/
def Fin (w0 : World) : Acc → Env → (Env → World → Prop) → (World → Prop) → Prop
  | [], l, K, H => ∀ w', Ext w0 w' → H w' → K l w'
  | (_, d, .det v) :: acc, l, K, H => Fin w0 acc ((d, v) :: l) K H
  | (_, d, .ex Φ) :: acc, l, K, H => ∀ v, Fin w0 acc ((d, v) :: l) K (fun w' => Φ v w' ∧ H w')

/-- carried out or passed over -/
def Exg (r : Option Nat) (P : Program) (N : Sz) (ops : Array Oper) (o : Oper) (l : Env) (w : World) (R : Value → World → Prop) : Prop :=
  (gd l ops o = some true ∧ Ex r P N o l w R) ∨ (gd l ops o = some false ∧ R undef w)

def nodst (d : Nat) : Env → Bool
  | [] => true
  | e :: l => !Nat.beq e.1 d && nodst d l
theorem nodst_spec {d : Nat} : ∀ {l : Env}, nodst d l = true → ∀ t v, lk l t = some v → d ≠ t
  | [], _, t, v, h => by simp [lk] at h
  | e :: l, hn, t, v, h => by
    simp only [nodst, Bool.and_eq_true, Bool.not_eq_true'] at hn
    simp only [lk] at h
    rintro rfl
    rw [hn.1] at h
    exact nodst_spec hn.2 d v (by simpa using h) rfl
def noacc (d : Nat) : Acc → Bool
  | [] => true
  | e :: l => !Nat.beq e.2.1 d && noacc d l
theorem noacc_spec {d : Nat} : ∀ {l : Acc}, noacc d l = true → ∀ e ∈ l, e.2.1 ≠ d
  | [], _, e, h => by cases h
  | x :: l, hn, e, h => by
    simp only [noacc, Bool.and_eq_true, Bool.not_eq_true'] at hn
    rcases List.mem_cons.1 h with rfl | h
    · intro e'; rw [e'] at hn; simp at hn
    · exact noacc_spec hn.2 e h

/-- the obligations of a free segment, in the text's order -/
inductive Free (r : Option Nat) (P : Program) (N : Sz) (ops : Array Oper) (l : Env) (w : World) : List Oper → Nat → Acc → (Acc → Prop) → Prop
  | nil {j : Nat} {acc : Acc} {K : Acc → Prop} (h : K acc) : Free r P N ops l w [] j acc K
  | cons {o : Oper} {rest : List Oper} {j d : Nat} {acc : Acc} {K : Acc → Prop} (f : Fact) (ds : List Nat) (hd : o.dst = some d) (hN : Nat.blt d N.n = true) (hl : nodst d l = true) (ha : noacc d acc = true)
      (hds : (ds.all fun i => dep ops j i) = true) (hm : f.mono) (h : Known acc w ds l (fun l' w' => Exg r P N ops o l' w' (fun v w'' => f.holds v w'' ∧ Ext w' w'')) (fun _ => True))
      (next : Free r P N ops l w rest (j + 1) ((j, d, f) :: acc) K) : Free r P N ops l w (o :: rest) j acc K

/-- one operation's obligation -/
structure Obl (r : Option Nat) (P : Program) (N : Sz) (ops : Array Oper) (l : Env) (w : World) (all : Acc) (j : Nat) (o : Oper) (d : Nat) (f : Fact) : Prop where
  dst : o.dst = some d
  lt : Nat.blt d N.n = true
  fresh : nodst d l = true
  mono : f.mono
  mem : (j, d, f) ∈ all
  only : ∀ e ∈ all, e.1 = j → e = (j, d, f)
  apart : ∀ e ∈ all, e.1 ≠ j → e.2.1 ≠ d
  runs : ∃ (acc : Acc) (ds : List Nat), (∀ e ∈ acc, e ∈ all) ∧ (∀ i ∈ ds, dep ops j i = true) ∧ Known acc w ds l (fun l' w' => Exg r P N ops o l' w' (fun v w'' => f.holds v w'' ∧ Ext w' w'')) (fun _ => True)

theorem Free.spec {os : List Oper} {j : Nat} {acc : Acc} {K : Acc → Prop} (h : Free r P N ops l w os j acc K) : (∀ e ∈ acc, e.1 < j) →
    ∃ all, K all ∧ (∀ e ∈ acc, e ∈ all) ∧ (∀ e ∈ all, e ∈ acc ∨ (j ≤ e.1 ∧ e.1 < j + os.length ∧ noacc e.2.1 acc = true)) ∧ ∀ i o, os[i]? = some o → ∃ d f, Obl r P N ops l w all (j + i) o d f := by
  induction h with
  | nil h => exact fun _ => ⟨_, h, fun _ h => h, fun _ h => .inl h, fun i o hi => by simp at hi⟩
  | @cons o rest j d acc K f ds hd hN hl ha hds hm h next ih =>
    intro hlt
    obtain ⟨all, hK, h1, h2, h3⟩ := ih (by
      intro e he
      rcases List.mem_cons.1 he with rfl | he
      · exact Nat.lt_succ_self _
      · exact Nat.lt_succ_of_lt (hlt e he))
    refine ⟨all, hK, fun e he => h1 e (List.mem_cons_of_mem _ he), fun e he => ?_, fun i o' hi => ?_⟩
    · rcases h2 e he with h | ⟨h, hlt', h'⟩
      · rcases List.mem_cons.1 h with rfl | h
        · exact .inr ⟨Nat.le_refl _, by simp, ha⟩
        · exact .inl h
      · refine .inr ⟨by omega, by simp only [List.length_cons]; omega, ?_⟩
        simp only [noacc, Bool.and_eq_true] at h'
        exact h'.2
    · cases i with
      | zero =>
        simp at hi
        subst hi
        refine ⟨d, f, hd, hN, hl, hm, h1 _ List.mem_cons_self, fun e he hj => ?_, fun e he hj => ?_, acc, ds, fun e he => h1 e (List.mem_cons_of_mem _ he), ?_, h⟩
        · rcases h2 e he with h | ⟨h, _⟩
          · rcases List.mem_cons.1 h with h | h
            · exact h
            · have := hlt e h; omega
          · omega
        · rcases h2 e he with h | ⟨h, _, h'⟩
          · rcases List.mem_cons.1 h with rfl | h
            · exact absurd rfl hj
            · exact noacc_spec ha e h
          · simp only [noacc, Bool.and_eq_true, Bool.not_eq_true'] at h'
            intro e'
            rw [e'] at h'
            simp at h'
        · intro i hi; exact List.all_eq_true.1 hds i hi
      | succ i =>
        obtain ⟨d', f', ho⟩ := h3 i o' (by simpa using hi)
        exact ⟨d', f', by rw [show j + (i + 1) = j + 1 + i by omega]; exact ho⟩

/-- the state within a free segment -/
structure Mid (N : Sz) (l : Env) (w0 : World) (all : Acc) (listed : Array Bool) (a : Act) (w' : World) : Prop where
  env : Of N l a
  ext : Ext w0 w'
  facts : ∀ i d f, (i, d, f) ∈ all → listed.getD i false = true → ∃ v, a.tmps[d]? = some v ∧ f.holds v w'

theorem findA_mem : ∀ {acc : Acc} {i d : Nat} {f : Fact}, findA acc i = some (d, f) → (i, d, f) ∈ acc
  | [], _, _, _, h => by simp [findA] at h
  | e :: l, i, d, f, h => by
    simp only [findA] at h
    by_cases e' : e.1 = i
    · subst e'
      simp at h
      exact List.mem_cons.2 (.inl (by rw [← h.1, ← h.2]))
    · rw [beqf e'] at h
      exact List.mem_cons_of_mem _ (findA_mem (by simpa using h))
theorem Of.add {N : Sz} {l : Env} {a : Act} (h : Of N l a) {d : Nat} {v : Value} (hv : a.tmps[d]? = some v) : Of N ((d, v) :: l) a := by
  refine ⟨h.defers, h.size, fun t u hu => ?_⟩
  simp only [lk] at hu
  by_cases e : d = t
  · subst e; simp at hu; subst hu; exact hv
  · rw [beqf e] at hu; exact h.at_ t u (by simpa using hu)
theorem Known.use {acc : Acc} {w0 : World} {K : Env → World → Prop} {a : Act} {w' : World} (hE : Ext w0 w') : ∀ (is : List Nat) (l : Env) (H : World → Prop), Known acc w0 is l K H → H w' → Of N l a →
    (∀ i d f, i ∈ is → (i, d, f) ∈ acc → ∃ v, a.tmps[d]? = some v ∧ f.holds v w') → ∃ l', Of N l' a ∧ K l' w'
  | [], l, H, h, hH, ho, _ => ⟨l, ho, h w' hE hH⟩
  | i :: is, l, H, h, hH, ho, hf => by
    unfold Known at h
    split at h
    · rename_i d v hfi
      obtain ⟨u, hu, hh⟩ := hf i d _ List.mem_cons_self (findA_mem hfi)
      have : u = v := hh
      subst this
      exact Known.use hE is _ H h hH (ho.add hu) fun i' d' f' hi' hm' => hf i' d' f' (List.mem_cons_of_mem _ hi') hm'
    · rename_i d Φ hfi
      obtain ⟨u, hu, hh⟩ := hf i d _ List.mem_cons_self (findA_mem hfi)
      exact Known.use hE is _ _ (h u) ⟨hh, hH⟩ (ho.add hu) fun i' d' f' hi' hm' => hf i' d' f' (List.mem_cons_of_mem _ hi') hm'
    · exact h.elim
theorem Fin.use {w0 : World} {K : Env → World → Prop} {a : Act} {w' : World} (hE : Ext w0 w') : ∀ (acc : Acc) (l : Env) (H : World → Prop), Fin w0 acc l K H → H w' → Of N l a →
    (∀ i d f, (i, d, f) ∈ acc → ∃ v, a.tmps[d]? = some v ∧ f.holds v w') → ∃ l', Of N l' a ∧ K l' w'
  | [], l, H, h, hH, ho, _ => ⟨l, ho, h w' hE hH⟩
  | (i, d, .det v) :: acc, l, H, h, hH, ho, hf => by
    obtain ⟨u, hu, hh⟩ := hf i d _ List.mem_cons_self
    have : u = v := hh
    subst this
    exact Fin.use hE acc _ H h hH (ho.add hu) fun i' d' f' hm' => hf i' d' f' (List.mem_cons_of_mem _ hm')
  | (i, d, .ex Φ) :: acc, l, H, h, hH, ho, hf => by
    obtain ⟨u, hu, hh⟩ := hf i d _ List.mem_cons_self
    exact Fin.use hE acc _ _ (h u) ⟨hh, hH⟩ (ho.add hu) fun i' d' f' hm' => hf i' d' f' (List.mem_cons_of_mem _ hm')

theorem wp_exg {o : Oper} {R : Value → World → Prop} {a : Act} {K : Act → World → Prop} {j : Nat} (hj : ops[j]? = some o) (hx : Exg r P N ops o l w R) (ha : Of N l a) (next : ∀ v w', R v w' → K (a.put o.dst v) w') : wpOpIn (WF r) 0 P ops Q j K a w := by
  unfold wpOpIn
  simp only [hj]
  rcases hx with ⟨hg, hx⟩ | ⟨hg, hR⟩
  · rw [if_pos (by rw [wanted_of ha hg])]
    exact ex_wp hx ha next
  · rw [if_neg (by rw [wanted_of ha hg]; simp)]
    exact ⟨fun _ _ => trivial, next _ _ hR⟩

/-- a segment of n operations in whatever order -/
theorem wd_free {k : Nat} (n : Nat) (os : List Oper) (hos : (ops.toList.drop k).take n = os) (hn : os.length = n) (hseg : segB ops k n = true) (hb : backB ops = true)
    (h : Free r P N ops l w os k [] (fun acc => Fin w acc l (fun l' w' => Wd r P N ops Q (k + n) l' w') (fun _ => True))) : Wd r P N ops Q k l w := by
  refine ⟨hb, fun a ha => ?_⟩
  obtain ⟨all, hK, _, hidx, hob⟩ := h.spec (by simp)
  have hop : ∀ i, i < n → ∃ o, os[i]? = some o ∧ ops[k + i]? = some o := by
    intro i hi
    have hlt : i < os.length := by omega
    obtain ⟨o, ho⟩ : ∃ o, os[i]? = some o := ⟨_, List.getElem?_eq_getElem hlt⟩
    refine ⟨o, ho, ?_⟩
    rw [← hos, List.getElem?_take, if_pos hi, List.getElem?_drop] at ho
    simpa using ho
  have hkn : n = 0 ∨ k + n ≤ ops.size := by
    rcases Nat.eq_zero_or_pos n with h0 | h0
    · exact .inl h0
    · obtain ⟨o, _, ho⟩ := hop (n - 1) (by omega)
      have := (Array.getElem?_eq_some_iff.1 ho).1
      exact .inr (by omega)
  have key : ∀ m (listed : Array Bool) (a : Act) (w' : World), Lst ops k n listed → ((List.range n).filter fun i => !listed.getD (k + i) false).length = m → Mid N l w all listed a w' →
      wpAnyIn (WF r) 0 P .any ops Q (ops.size - (k + n) + m) listed a w' := by
    intro m
    induction m with
    | zero =>
      intro listed a w' hl hm hmid
      have hall : ∀ i, k ≤ i → i < k + n → i < ops.size → listed.getD i false = true := by
        intro i h1 h2 _
        have : (List.range n).filter (fun i => !listed.getD (k + i) false) = [] := List.eq_nil_of_length_eq_zero hm
        have := List.filter_eq_nil_iff.1 this (i - k) (List.mem_range.2 (by omega))
        rw [show k + (i - k) = i by omega] at this
        simpa using this
      have hf := hl.full hall
      obtain ⟨l', ho', hw'⟩ := Fin.use hmid.ext all l _ hK trivial hmid.env fun i d f hm' => hmid.facts i d f hm' (by
        rcases hidx _ hm' with h | ⟨h, h', _⟩
        · simp at h
        · simp only at h h'
          rcases hkn with h0 | h0
          · omega
          · exact hall i h (by omega) (by omega))
      rw [hf]
      exact hw'.2 a ho'
    | succ m ih =>
      intro listed a w' hl hm hmid
      -- there is one that has not come up
      obtain ⟨i, hin, hiu⟩ : ∃ i, i < n ∧ listed.getD (k + i) false = false := by
        cases hfl : (List.range n).filter (fun i => !listed.getD (k + i) false) with
        | nil => rw [hfl] at hm; simp at hm
        | cons i t =>
          have : i ∈ (List.range n).filter (fun i => !listed.getD (k + i) false) := by rw [hfl]; exact List.mem_cons_self
          have := List.mem_filter.1 this
          exact ⟨i, List.mem_range.1 this.1, by simpa using this.2⟩
      have hne : Region.ready .any ops listed ≠ [] := by
        -- the least of them may come up
        obtain ⟨i₀, hi₀, hleast⟩ : ∃ i₀, (i₀ < n ∧ listed.getD (k + i₀) false = false) ∧ ∀ i, (i < n ∧ listed.getD (k + i) false = false) → i₀ ≤ i := exists_least ⟨i, hin, hiu⟩
        obtain ⟨o, _, ho⟩ := hop i₀ hi₀.1
        have hsz := (Array.getElem?_eq_some_iff.1 ho).1
        have : k + i₀ ∈ Region.ready .any ops listed := by
          refine mem_ready.2 ⟨getD_true_of (by rw [hl.size]; exact hsz) hi₀.2, o, ho, fun e he hbb => ?_⟩
          have hlt := back_spec hb ho e he hbb
          rcases Nat.lt_or_ge e.on k with h1 | h1
          · exact hl.low _ h1 (by omega)
          · cases hh : listed.getD e.on false with
            | true => rfl
            | false =>
              have := hleast (e.on - k) ⟨by omega, by rw [show k + (e.on - k) = e.on by omega]; exact hh⟩
              omega
        intro h0; rw [h0] at this; cases this
      rw [show ops.size - (k + n) + (m + 1) = (ops.size - (k + n) + m) + 1 by omega]
      refine ⟨fun h0 => absurd h0 hne, fun j hj => ?_⟩
      obtain ⟨hju, hjall⟩ := ready_all hj
      obtain ⟨_, oj, hoj, _⟩ := mem_ready.1 hj
      have hjsz : j < ops.size := (Array.getElem?_eq_some_iff.1 hoj).1
      have hkj : k ≤ j := by
        rcases Nat.lt_or_ge j k with h1 | h1
        · have := hl.low j h1 hjsz; rw [hju] at this; cases this
        · exact h1
      have hjn : j < k + n := by
        rcases Nat.lt_or_ge j (k + n) with h1 | h1
        · exact h1
        · have h2 := List.all_eq_true.1 hseg j (List.mem_range.2 hjsz)
          have h3 : Nat.blt j (k + n) = false := by
            cases h : Nat.blt j (k + n) with
            | false => rfl
            | true => have : j < k + n := by simpa using h
                      omega
          rw [h3, Bool.false_or] at h2
          have h4 := List.all_eq_true.1 h2 i (List.mem_range.2 hin)
          have := hl.waits (j + 1) j (k + i) hjall h4
          rw [hiu] at this; cases this
      obtain ⟨o, hos', ho⟩ := hop (j - k) (by omega)
      obtain ⟨d, f, hO⟩ := hob (j - k) o hos'
      rw [show k + (j - k) = j by omega] at ho hO
      obtain ⟨acc, ds, hacc, hds, hkn'⟩ := hO.runs
      obtain ⟨l', ho', hx⟩ := Known.use hmid.ext ds l (fun _ => True) hkn' trivial hmid.env fun i' d' f' hi' hm' => hmid.facts i' d' f' (hacc _ hm') (by
        obtain ⟨oj', hoj', e, he, hbb, rfl⟩ := dep_spec (hds i' hi')
        exact hjall oj' hoj' e he hbb)
      refine wp_exg ho hx ho' fun v w'' hR => ?_
      have hset := hl.set hj hjn
      refine ih _ _ _ hset ?_ ⟨?_, hmid.ext.trans hR.2 (fun _ _ _ => trivial), fun i' d' f' hm' hli => ?_⟩
      · have hcount : ((List.range n).filter fun i => !(listed.setIfInBounds j true).getD (k + i) false) = ((List.range n).filter fun i => !listed.getD (k + i) false).filter (fun i => !Nat.beq i (j - k)) := by
          rw [List.filter_filter]
          refine List.filter_congr fun i' hi' => ?_
          have hi'' := List.mem_range.1 hi'
          by_cases e : i' = j - k
          · subst e
            have : (listed.setIfInBounds j true).getD (k + (j - k)) false = true := set_get.2 (.inr ⟨by omega, by rw [hl.size]; exact (by omega)⟩)
            rw [this]; simp
          · rw [beqf e]
            have : (listed.setIfInBounds j true).getD (k + i') false = listed.getD (k + i') false := getD_set_ne false (by omega)
            rw [this]; simp
        rw [hcount]
        exact filter_one (by simpa using hm) (List.nodup_range.filter _) (List.mem_filter.2 ⟨List.mem_range.2 (by omega), by rw [show k + (j - k) = j by omega, hju]; rfl⟩)
      · rw [hO.dst]
        have := hmid.env.put hO.lt v
        refine ⟨this.defers, this.size, fun t u hu => ?_⟩
        have hne := nodst_spec hO.fresh t u hu
        simp only [Act.put]
        rw [Array.getElem?_setIfInBounds_ne (by simpa using hne)]
        exact hmid.env.at_ t u hu
      · by_cases e : i' = j
        · subst e
          have := hO.only _ hm' rfl
          simp only [Prod.mk.injEq, true_and] at this
          obtain ⟨rfl, rfl⟩ := this
          rw [hO.dst]
          refine ⟨v, ?_, hR.1⟩
          have hd' : d' < N.n := by simpa using hO.lt
          simp [Act.put, hmid.env.size, hd']
        · have hli' : listed.getD i' false = true := by rwa [getD_set_ne false (by omega)] at hli
          obtain ⟨u, hu, hh⟩ := hmid.facts i' d' f' hm' hli'
          have hap := hO.apart _ hm' e
          rw [hO.dst]
          refine ⟨u, ?_, ?_⟩
          · simp only [Act.put]
            rw [Array.getElem?_setIfInBounds_ne (fun e' => hap e'.symm)]
            exact hu
          · obtain ⟨o', _, ho''⟩ := hop (i' - k) (by
              rcases hidx _ hm' with h | ⟨h, h', _⟩
              · simp at h
              · simp only at h h'; omega)
            have hk' : k ≤ i' := by
              rcases hidx _ hm' with h | ⟨h, h', _⟩
              · simp at h
              · exact h
            obtain ⟨d2, f2, hO2⟩ := hob (i' - k) o' (by assumption)
            rw [show k + (i' - k) = i' by omega] at hO2
            have := hO2.only _ hm' rfl
            simp only [Prod.mk.injEq, true_and] at this
            obtain ⟨rfl, rfl⟩ := this
            exact hO2.mono.keep' hR.2 hh
  have hstart := key n (firstk ops.size k) a w (Lst.firstk hb k n) ?_ ⟨ha, Keep.refl _ _, fun i d f hm' hli => ?_⟩
  · rcases hkn with h0 | h0
    · subst h0; simpa using hstart
    · rw [show ops.size - (k + n) + n = ops.size - k by omega] at hstart
      exact hstart
  · rw [List.filter_eq_self.2, List.length_range]
    intro i hi
    have := (Lst.firstk hb k 0 : Lst ops k 0 _).high (k + i) (by omega)
    rw [this]; rfl
  · rcases hidx _ hm' with h | ⟨h, _⟩
    · simp at h
    · have := (Lst.firstk hb k 0 : Lst ops k 0 _).high i h
      rw [this] at hli; cases hli

/-- a segment of one operation: whatever it does -/
theorem wd_one {k d : Nat} {o : Oper} {R : Value → World → Prop} (hb : backB ops = true) (hk : ops[k]? = some o) (hr : Region.ready .any ops (firstk ops.size k) = [k]) (hd : o.dst = some d) (hN : Nat.blt d N.n = true) (hg : gd l ops o = some true) (hx : Ex r P N o l w R)
    (next : ∀ v w', R v w' → Wd r P N ops Q (k + 1) ((d, v) :: l) w') : Wd r P N ops Q k l w := by
  refine ⟨hb, fun a ha => ?_⟩
  have hsz : k < ops.size := (Array.getElem?_eq_some_iff.1 hk).1
  rw [show ops.size - k = (ops.size - (k + 1)) + 1 by omega]
  refine ⟨fun h0 => (by rw [hr] at h0; cases h0), fun j hj => ?_⟩
  rw [hr] at hj
  have : j = k := by simpa using hj
  subst this
  refine wp_exg hk (.inl ⟨hg, hx⟩) ha fun v w' hR => ?_
  rw [hd]
  have := (next v w' hR).2 _ (ha.put hN v)
  rw [firstk_succ hsz]
  exact this
/-- a segment of one operation that is passed over -/
theorem wd_skip {k d : Nat} {o : Oper} (hb : backB ops = true) (hk : ops[k]? = some o) (hr : Region.ready .any ops (firstk ops.size k) = [k]) (hd : o.dst = some d) (hN : Nat.blt d N.n = true) (hg : gd l ops o = some false)
    (next : Wd r P N ops Q (k + 1) ((d, undef) :: l) w) : Wd r P N ops Q k l w := by
  refine ⟨hb, fun a ha => ?_⟩
  have hsz : k < ops.size := (Array.getElem?_eq_some_iff.1 hk).1
  rw [show ops.size - k = (ops.size - (k + 1)) + 1 by omega]
  refine ⟨fun h0 => (by rw [hr] at h0; cases h0), fun j hj => ?_⟩
  rw [hr] at hj
  have : j = k := by simpa using hj
  subst this
  refine wp_exg (R := fun v w' => v = undef ∧ w' = w) hk (.inr ⟨hg, rfl, rfl⟩) ha fun v w' hR => ?_
  obtain ⟨rfl, rfl⟩ := hR
  rw [hd, firstk_succ hsz]
  exact next.2 _ (ha.put hN _)
/-- the same without a destination (a store) -/
theorem wd_one0 {k : Nat} {o : Oper} {R : Value → World → Prop} (hb : backB ops = true) (hk : ops[k]? = some o) (hr : Region.ready .any ops (firstk ops.size k) = [k]) (hd : o.dst = none) (hg : gd l ops o = some true) (hx : Ex r P N o l w R)
    (next : ∀ v w', R v w' → Wd r P N ops Q (k + 1) l w') : Wd r P N ops Q k l w := by
  refine ⟨hb, fun a ha => ?_⟩
  have hsz : k < ops.size := (Array.getElem?_eq_some_iff.1 hk).1
  rw [show ops.size - k = (ops.size - (k + 1)) + 1 by omega]
  refine ⟨fun h0 => (by rw [hr] at h0; cases h0), fun j hj => ?_⟩
  rw [hr] at hj
  have : j = k := by simpa using hj
  subst this
  refine wp_exg hk (.inl ⟨hg, hx⟩) ha fun v w' hR => ?_
  rw [hd, firstk_succ hsz]
  exact (next v w' hR).2 _ ha
/-- one operation that yields a known value and leaves the world, in its turn -/
theorem wd_v {k d : Nat} {o : Oper} {v : Value} (hb : backB ops = true) (hk : ops[k]? = some o) (hr : Region.ready .any ops (firstk ops.size k) = [k]) (hd : o.dst = some d) (hN : Nat.blt d N.n = true) (hg : gd l ops o = some true) (hx : Ex r P N o l w (Dv v w))
    (next : Wd r P N ops Q (k + 1) ((d, v) :: l) w) : Wd r P N ops Q k l w :=
  wd_one hb hk hr hd hN hg hx fun v' w' ⟨h1, h2⟩ => by subst h1; subst h2; exact next
/-- a test, in its turn: two ways -/
theorem wd_if {k d : Nat} {o : Oper} {p : Prop} [Decidable p] (hb : backB ops = true) (hk : ops[k]? = some o) (hr : Region.ready .any ops (firstk ops.size k) = [k]) (hd : o.dst = some d) (hN : Nat.blt d N.n = true) (hg : gd l ops o = some true) (hx : Ex r P N o l w (Dv (.bool (decide p)) w))
    (h1 : p → Wd r P N ops Q (k + 1) ((d, .bool true) :: l) w) (h0 : ¬ p → Wd r P N ops Q (k + 1) ((d, .bool false) :: l) w) : Wd r P N ops Q k l w := by
  by_cases h : p
  · refine wd_v hb hk hr hd hN hg hx ?_; rw [decide_eq_true h]; exact h1 h
  · refine wd_v hb hk hr hd hN hg hx ?_; rw [decide_eq_false h]; exact h0 h

/-- the environment of known values -/
def pickE (acc : Acc) : List Nat → Env → Option Env
  | [], l => some l
  | i :: is, l => match findA acc i with
    | some (d, .det v) => pickE acc is ((d, v) :: l)
    | _ => none
theorem pickE_known {acc : Acc} {w0 : World} {K : Env → World → Prop} {l' : Env} (h : ∀ w', Ext w0 w' → K l' w') : ∀ (is : List Nat) (l : Env), pickE acc is l = some l' → Known acc w0 is l K (fun _ => True)
  | [], l, hp => by
    simp only [pickE, Option.some.injEq] at hp
    subst hp
    exact fun w' E _ => h w' E
  | i :: is, l, hp => by
    unfold pickE at hp
    unfold Known
    split at hp
    · rename_i d v hf
      rw [hf]
      exact pickE_known h is _ hp
    · cases hp
/-- in a free segment: an operation that yields a known value and leaves the world -/
theorem fd {o : Oper} {rest : List Oper} {j d : Nat} {acc : Acc} {K : Acc → Prop} {v : Value} {l' : Env} (ds : List Nat) (hd : o.dst = some d) (hN : Nat.blt d N.n = true) (hl : nodst d l = true) (ha : noacc d acc = true)
    (hds : (ds.all fun i => dep ops j i) = true) (hk : pickE acc ds l = some l') (hg : gd l' ops o = some true) (h : ∀ w', Ext w w' → Ex r P N o l' w' (Dv v w'))
    (next : Free r P N ops l w rest (j + 1) ((j, d, .det v) :: acc) K) : Free r P N ops l w (o :: rest) j acc K :=
  .cons (.det v) ds hd hN hl ha hds trivial (pickE_known (fun w' E => .inl ⟨hg, (h w' E).mono fun _ _ h => ⟨h.1, by rw [h.2]; exact Keep.refl _ _⟩⟩) ds l hk) next
/-- one that yields a known value and makes memory (a call) -/
theorem fe {o : Oper} {rest : List Oper} {j d : Nat} {acc : Acc} {K : Acc → Prop} {v : Value} {l' : Env} (ds : List Nat) (hd : o.dst = some d) (hN : Nat.blt d N.n = true) (hl : nodst d l = true) (ha : noacc d acc = true)
    (hds : (ds.all fun i => dep ops j i) = true) (hk : pickE acc ds l = some l') (hg : gd l' ops o = some true) (h : ∀ w', Ext w w' → Ex r P N o l' w' (fun v' w'' => v' = v ∧ Ext w' w''))
    (next : Free r P N ops l w rest (j + 1) ((j, d, .det v) :: acc) K) : Free r P N ops l w (o :: rest) j acc K :=
  .cons (.det v) ds hd hN hl ha hds trivial (pickE_known (fun w' E => .inl ⟨hg, h w' E⟩) ds l hk) next
/-- one that yields a value of which a fact is known, and makes memory -/
theorem fx {o : Oper} {rest : List Oper} {j d : Nat} {acc : Acc} {K : Acc → Prop} {l' : Env} (ds : List Nat) {Φ : Value → World → Prop} (hd : o.dst = some d) (hN : Nat.blt d N.n = true) (hl : nodst d l = true) (ha : noacc d acc = true)
    (hds : (ds.all fun i => dep ops j i) = true) (hk : pickE acc ds l = some l') (hg : gd l' ops o = some true) (hm : ∀ v a b, Ext a b → Φ v a → Φ v b) (h : ∀ w', Ext w w' → Ex r P N o l' w' (fun v' w'' => Φ v' w'' ∧ Ext w' w''))
    (next : Free r P N ops l w rest (j + 1) ((j, d, .ex Φ) :: acc) K) : Free r P N ops l w (o :: rest) j acc K :=
  .cons (.ex Φ) ds hd hN hl ha hds hm (pickE_known (fun w' E => .inl ⟨hg, h w' E⟩) ds l hk) next
/-- one that is passed over -/
theorem fsk {o : Oper} {rest : List Oper} {j d : Nat} {acc : Acc} {K : Acc → Prop} {l' : Env} (ds : List Nat) (hd : o.dst = some d) (hN : Nat.blt d N.n = true) (hl : nodst d l = true) (ha : noacc d acc = true)
    (hds : (ds.all fun i => dep ops j i) = true) (hk : pickE acc ds l = some l') (hg : gd l' ops o = some false)
    (next : Free r P N ops l w rest (j + 1) ((j, d, .det undef) :: acc) K) : Free r P N ops l w (o :: rest) j acc K :=
  .cons (.det undef) ds hd hN hl ha hds trivial (pickE_known (fun _ _ => .inr ⟨hg, rfl, Keep.refl _ _⟩) ds l hk) next
end
end Go.Proofs.Ytcgcklfbnmaodaa

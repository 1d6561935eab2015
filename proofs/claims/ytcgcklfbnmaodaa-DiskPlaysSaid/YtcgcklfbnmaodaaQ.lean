/- A drawn segment in which one row of operations changes memory, each waiting for the one before, and the others only name values; a slot may be written anew if its readers come before. -/
import Derived.Test.YtcgcklfbnmaodaaG
namespace Go.Proofs.Ytcgcklfbnmaodaa
open Go Go.RowKit
set_option linter.unusedVariables false

section
variable {r : Option Nat} {P : Program} {N : Sz} {ops : Array Oper} {Q : Exit → Act → World → Prop} {l : Env} {w : World} {Rl : World → Prop}

abbrev Prs := List (Nat × Nat × Value)
abbrev Chs := List (Nat × Nat × (Value → World → Prop))
def findP : Prs → Nat → Option (Nat × Value)
  | [], _ => none
  | (j, d, v) :: l, i => bif Nat.beq j i then some (d, v) else findP l i
theorem findP_mem : ∀ {ps : Prs} {i d : Nat} {v : Value}, findP ps i = some (d, v) → (i, d, v) ∈ ps
  | [], _, _, _, h => by simp [findP] at h
  | e :: l, i, d, v, h => by
    simp only [findP] at h
    by_cases e' : e.1 = i
    · subst e'
      simp at h
      exact List.mem_cons.2 (.inl (by rw [← h.1, ← h.2]))
    · rw [beqf e'] at h
      exact List.mem_cons_of_mem _ (findP_mem (by simpa using h))
/-- the slots ts of an environment -/
def keepE (ts : List Nat) : Env → Env
  | [] => []
  | (t, v) :: l => bif ts.any (Nat.beq t) then (t, v) :: keepE ts l else keepE ts l
theorem keepE_lk {ts : List Nat} : ∀ {l : Env} {t : Nat} {v : Value}, lk (keepE ts l) t = some v → lk l t = some v ∧ t ∈ ts
  | [], t, v, h => by simp [keepE, lk] at h
  | (s, u) :: l, t, v, h => by
    simp only [keepE] at h
    cases hs : ts.any (Nat.beq s) with
    | true =>
      rw [hs] at h
      simp only [cond_true, lk] at h
      simp only [lk]
      by_cases e : s = t
      · subst e
        simp at h
        subst h
        simp
        obtain ⟨x, hx, hb⟩ := List.any_eq_true.1 hs
        have : s = x := by simpa using hb
        exact this ▸ hx
      · rw [beqf e] at h ⊢
        simp only [cond_false] at h ⊢
        exact keepE_lk h
    | false =>
      rw [hs] at h
      simp only [cond_false] at h
      have := keepE_lk h
      simp only [lk]
      by_cases e : s = t
      · subst e
        have h2 : ts.any (Nat.beq s) = true := List.any_eq_true.2 ⟨s, this.2, by simp⟩
        rw [hs] at h2
        cases h2
      · rw [beqf e]
        exact this
def pkv (ps : Prs) : List Nat → Env → Option Env
  | [], l => some l
  | i :: is, l => match findP ps i with
    | some (d, v) => pkv ps is ((d, v) :: l)
    | none => none
theorem pkv_of {ps : Prs} {a : Act} : ∀ (is : List Nat) {l l' : Env}, pkv ps is l = some l' → Of N l a → (∀ i d v, i ∈ is → (i, d, v) ∈ ps → a.tmps[d]? = some v) → Of N l' a
  | [], l, l', h, ho, _ => by simp only [pkv, Option.some.injEq] at h; subst h; exact ho
  | i :: is, l, l', h, ho, hf => by
    unfold pkv at h
    split at h
    · rename_i d v hfi
      exact pkv_of is h (ho.add (hf i d v List.mem_cons_self (findP_mem hfi))) fun i' d' v' h1 h2 => hf i' d' v' (List.mem_cons_of_mem _ h1) h2
    · cases h
/-- the index and the slot of each -/
def entP (ps : Prs) (cs : Chs) : List (Nat × Nat) := ps.map (fun p => (p.1, p.2.1)) ++ cs.map (fun c => (c.1, c.2.1))
def ndB : List (Nat × Nat) → Bool
  | [] => true
  | x :: xs => (xs.all fun y => !Nat.beq x.1 y.1 && !Nat.beq x.2 y.2) && ndB xs
theorem ndB_map {α : Type} {f : α → Nat × Nat} : ∀ {l : List α}, ndB (l.map f) = true → ∀ {a b : α}, a ∈ l → b ∈ l → a = b ∨ ((f a).1 ≠ (f b).1 ∧ (f a).2 ≠ (f b).2)
  | [], _, a, b, ha, _ => by cases ha
  | x :: l, h, a, b, ha, hb => by
    simp only [List.map_cons, ndB, Bool.and_eq_true] at h
    have key : ∀ y ∈ l, (f x).1 ≠ (f y).1 ∧ (f x).2 ≠ (f y).2 := fun y hy => by
      have := List.all_eq_true.1 h.1 (f y) (List.mem_map_of_mem hy)
      simp only [Bool.and_eq_true, Bool.not_eq_true'] at this
      exact ⟨fun e => by rw [e] at this; simp at this, fun e => by rw [e] at this; simp at this⟩
    rcases List.mem_cons.1 ha with ha1 | ha1
    · rcases List.mem_cons.1 hb with hb1 | hb1
      · exact .inl (ha1.trans hb1.symm)
      · rw [ha1]; exact .inr (key b hb1)
    · rcases List.mem_cons.1 hb with hb1 | hb1
      · rw [hb1]; exact .inr ⟨(key a ha1).1.symm, (key a ha1).2.symm⟩
      · exact ndB_map h.2 ha1 hb1
theorem ndB_app : ∀ {l m : List (Nat × Nat)}, ndB (l ++ m) = true → ndB l = true ∧ ndB m = true ∧ ∀ a ∈ l, ∀ b ∈ m, a.1 ≠ b.1 ∧ a.2 ≠ b.2
  | [], m, h => ⟨rfl, h, fun a ha => by cases ha⟩
  | x :: l, m, h => by
    simp only [List.cons_append, ndB, Bool.and_eq_true, List.all_append] at h
    obtain ⟨⟨h1, h2⟩, h3⟩ := h
    obtain ⟨k1, k2, k3⟩ := ndB_app h3
    refine ⟨by simp only [ndB, h1, k1, Bool.and_self], k2, fun a ha b hb => ?_⟩
    rcases List.mem_cons.1 ha with rfl | ha
    · have := List.all_eq_true.1 h2 b hb
      simp only [Bool.and_eq_true, Bool.not_eq_true'] at this
      exact ⟨fun e => by rw [e] at this; simp at this, fun e => by rw [e] at this; simp at this⟩
    · exact k3 a ha b hb
/-- who reads a slot that is written anew comes before -/
def usOk (ops : Array Oper) (es : List (Nat × Nat)) (us : List (Nat × List Nat)) : Bool := us.all fun u => u.2.all fun t => es.all fun x => !Nat.beq x.2 t || Nat.beq x.1 u.1 || waits ops (x.1 + 1) x.1 u.1

/-- what the obligation of one of the row is, behind the one before -/
def ChObl (r : Option Nat) (P : Program) (N : Sz) (ops : Array Oper) (l : Env) (w : World) (Rl : World → Prop) (ps : Prs) (us : List (Nat × List Nat)) (c : Nat × Nat × (Value → World → Prop)) (prev : Option (Nat × Nat × (Value → World → Prop))) : Prop :=
  (∃ (o : Oper) (ts ds : List Nat) (l' : Env) (ps0 : Prs), ops[c.1]? = some o ∧ o.dst = some c.2.1 ∧ Nat.blt c.2.1 N.n = true ∧ (∀ p ∈ ps0, p ∈ ps) ∧ (c.1, ts) ∈ us ∧ (ds.all fun i => dep ops c.1 i) = true ∧ pkv ps0 ds (keepE ts l) = some l' ∧
    match prev with
    | none => Exg r P N ops o l' w c.2.2
    | some p => dep ops c.1 p.1 = true ∧ ∀ v w', p.2.2 v w' → Exg r P N ops o ((p.2.1, v) :: l') w' c.2.2) ∧ ∀ v w', c.2.2 v w' → Rl w'
def RCh (ob : (Nat × Nat × (Value → World → Prop)) → Option (Nat × Nat × (Value → World → Prop)) → Prop) : Chs → Prop
  | [] => True
  | c :: rest => ob c rest.head? ∧ RCh ob rest
theorem RCh.at_ {ob : (Nat × Nat × (Value → World → Prop)) → Option (Nat × Nat × (Value → World → Prop)) → Prop} : ∀ {pre post : Chs} {c : Nat × Nat × (Value → World → Prop)}, RCh ob (pre ++ c :: post) → ob c post.head?
  | [], _, _, h => h.1
  | _ :: pre, _, _, h => RCh.at_ (pre := pre) h.2

/-- the obligations of a segment with a row, in the text's order -/
inductive Chn (r : Option Nat) (P : Program) (N : Sz) (ops : Array Oper) (l : Env) (w : World) (Rl : World → Prop) : List Oper → Nat → Prs → Chs → List (Nat × List Nat) → (Prs → Chs → List (Nat × List Nat) → Prop) → Prop
  | nil {j : Nat} {ps : Prs} {cs : Chs} {us : List (Nat × List Nat)} {K : Prs → Chs → List (Nat × List Nat) → Prop} (h : K ps cs us) : Chn r P N ops l w Rl [] j ps cs us K
  | pur {o : Oper} {rest : List Oper} {j d : Nat} {ps : Prs} {cs : Chs} {us : List (Nat × List Nat)} {K : Prs → Chs → List (Nat × List Nat) → Prop} {v : Value} {l' : Env} (ts ds : List Nat) (hd : o.dst = some d) (hN : Nat.blt d N.n = true)
      (hds : (ds.all fun i => dep ops j i) = true) (hk : pkv ps ds (keepE ts l) = some l') (h : ∀ w', Rl w' → Exg r P N ops o l' w' (Dv v w'))
      (next : Chn r P N ops l w Rl rest (j + 1) ((j, d, v) :: ps) cs ((j, ts) :: us) K) : Chn r P N ops l w Rl (o :: rest) j ps cs us K
  | fst {o : Oper} {rest : List Oper} {j d : Nat} {ps : Prs} {us : List (Nat × List Nat)} {K : Prs → Chs → List (Nat × List Nat) → Prop} {Ψ : Value → World → Prop} {l' : Env} (ts ds : List Nat) (hd : o.dst = some d) (hN : Nat.blt d N.n = true)
      (hds : (ds.all fun i => dep ops j i) = true) (hk : pkv ps ds (keepE ts l) = some l') (h : Exg r P N ops o l' w Ψ) (hR : ∀ v w', Ψ v w' → Rl w')
      (next : Chn r P N ops l w Rl rest (j + 1) ps [(j, d, Ψ)] ((j, ts) :: us) K) : Chn r P N ops l w Rl (o :: rest) j ps [] us K
  | nxt {o : Oper} {rest : List Oper} {j d p dp : Nat} {ps : Prs} {cs : Chs} {us : List (Nat × List Nat)} {K : Prs → Chs → List (Nat × List Nat) → Prop} {Ψp Ψ : Value → World → Prop} {l' : Env} (ts ds : List Nat) (hd : o.dst = some d) (hN : Nat.blt d N.n = true)
      (hds : (ds.all fun i => dep ops j i) = true) (hk : pkv ps ds (keepE ts l) = some l') (hp : dep ops j p = true) (h : ∀ v w', Ψp v w' → Exg r P N ops o ((dp, v) :: l') w' Ψ) (hR : ∀ v w', Ψ v w' → Rl w')
      (next : Chn r P N ops l w Rl rest (j + 1) ps ((j, d, Ψ) :: (p, dp, Ψp) :: cs) ((j, ts) :: us) K) : Chn r P N ops l w Rl (o :: rest) j ps ((p, dp, Ψp) :: cs) us K

structure PrObl (r : Option Nat) (P : Program) (N : Sz) (ops : Array Oper) (l : Env) (Rl : World → Prop) (ps : Prs) (us : List (Nat × List Nat)) (p : Nat × Nat × Value) : Prop where
  run : ∃ (o : Oper) (ts ds : List Nat) (l' : Env) (ps0 : Prs), ops[p.1]? = some o ∧ o.dst = some p.2.1 ∧ Nat.blt p.2.1 N.n = true ∧ (∀ p ∈ ps0, p ∈ ps) ∧ (p.1, ts) ∈ us ∧ (ds.all fun i => dep ops p.1 i) = true ∧ pkv ps0 ds (keepE ts l) = some l' ∧ ∀ w', Rl w' → Exg r P N ops o l' w' (Dv p.2.2 w')

theorem ChObl.mono {ps ps' : Prs} {us us' : List (Nat × List Nat)} (h1 : ∀ p ∈ ps, p ∈ ps') (h2 : ∀ u ∈ us, u ∈ us') {c : Nat × Nat × (Value → World → Prop)} {prev : Option (Nat × Nat × (Value → World → Prop))} (h : ChObl r P N ops l w Rl ps us c prev) : ChObl r P N ops l w Rl ps' us' c prev := by
  obtain ⟨⟨o, ts, ds, l', ps0, k1, k2, k3, k4, k5, k6⟩, k7⟩ := h
  exact ⟨⟨o, ts, ds, l', ps0, k1, k2, k3, fun p hp => h1 p (k4 p hp), h2 _ k5, k6⟩, k7⟩
theorem RCh.mono {ob ob' : (Nat × Nat × (Value → World → Prop)) → Option (Nat × Nat × (Value → World → Prop)) → Prop} (hm : ∀ c p, ob c p → ob' c p) : ∀ {cs : Chs}, RCh ob cs → RCh ob' cs
  | [], _ => trivial
  | _ :: _, h => ⟨hm _ _ h.1, RCh.mono hm h.2⟩

theorem Chn.spec {os : List Oper} {j : Nat} {ps : Prs} {cs : Chs} {us : List (Nat × List Nat)} {K : Prs → Chs → List (Nat × List Nat) → Prop} (h : Chn r P N ops l w Rl os j ps cs us K) : (∀ i o, os[i]? = some o → ops[j + i]? = some o) → (∀ p ∈ ps, PrObl r P N ops l Rl ps us p) → RCh (ChObl r P N ops l w Rl ps us) cs →
    ∃ ps' cs' us', K ps' cs' us' ∧ (∀ p ∈ ps, p ∈ ps') ∧ (∀ c ∈ cs, c ∈ cs') ∧ (∀ u ∈ us, u ∈ us') ∧ (∀ p ∈ ps', PrObl r P N ops l Rl ps' us' p) ∧ RCh (ChObl r P N ops l w Rl ps' us') cs' ∧
      (∀ i, i < os.length → (∃ p ∈ ps', p.1 = j + i) ∨ ∃ c ∈ cs', c.1 = j + i) ∧ (∀ p ∈ ps', p ∈ ps ∨ (j ≤ p.1 ∧ p.1 < j + os.length)) ∧ (∀ c ∈ cs', c ∈ cs ∨ (j ≤ c.1 ∧ c.1 < j + os.length)) := by
  induction h with
  | nil h => exact fun _ hp hc => ⟨_, _, _, h, fun _ h => h, fun _ h => h, fun _ h => h, hp, hc, fun i hi => by simp at hi, fun _ h => .inl h, fun _ h => .inl h⟩
  | @pur o rest j d ps cs us K v l' ts ds hd hN hds hk h next ih =>
    intro hop hps hcs
    have hops := hop 0 o rfl
    obtain ⟨ps', cs', us', hK, h1, h2, h3, h4, h5, h6, h7, h8⟩ := ih (fun i o' hi => by rw [show j + 1 + i = j + (i + 1) by omega]; exact hop (i + 1) o' (by simpa using hi))
      (fun p hp => by
        rcases List.mem_cons.1 hp with rfl | hp
        · exact ⟨o, ts, ds, l', ps, hops, hd, hN, fun p hp => List.mem_cons_of_mem _ hp, List.mem_cons_self, hds, hk, h⟩
        · obtain ⟨o2, t2, d2, l2, p2, k1, k2, k3, k4, k5, k6⟩ := (hps p hp).run
          exact ⟨o2, t2, d2, l2, p2, k1, k2, k3, fun p hp => List.mem_cons_of_mem _ (k4 p hp), List.mem_cons_of_mem _ k5, k6⟩)
      (RCh.mono (fun c p hc => hc.mono (fun p hp => List.mem_cons_of_mem _ hp) (fun u hu => List.mem_cons_of_mem _ hu)) hcs)
    refine ⟨ps', cs', us', hK, fun p hp => h1 p (List.mem_cons_of_mem _ hp), h2, fun u hu => h3 u (List.mem_cons_of_mem _ hu), h4, h5, fun i hi => ?_, fun p hp => ?_, fun c hc => ?_⟩
    · cases i with
      | zero => exact .inl ⟨_, h1 _ List.mem_cons_self, rfl⟩
      | succ i =>
        have := h6 i (by simpa using hi)
        rwa [show j + 1 + i = j + (i + 1) by omega] at this
    · rcases h7 p hp with h | h
      · rcases List.mem_cons.1 h with rfl | h
        · exact .inr ⟨Nat.le_refl _, by simp⟩
        · exact .inl h
      · exact .inr ⟨by omega, by simp only [List.length_cons]; omega⟩
    · rcases h8 c hc with h | h
      · exact .inl h
      · exact .inr ⟨by omega, by simp only [List.length_cons]; omega⟩
  | @fst o rest j d ps us K Ψ l' ts ds hd hN hds hk h hR next ih =>
    intro hop hps hcs
    have hops := hop 0 o rfl
    obtain ⟨ps', cs', us', hK, h1, h2, h3, h4, h5, h6, h7, h8⟩ := ih (fun i o' hi => by rw [show j + 1 + i = j + (i + 1) by omega]; exact hop (i + 1) o' (by simpa using hi))
      (fun p hp => by
        obtain ⟨o2, t2, d2, l2, p2, k1, k2, k3, k4, k5, k6⟩ := (hps p hp).run
        exact ⟨o2, t2, d2, l2, p2, k1, k2, k3, k4, List.mem_cons_of_mem _ k5, k6⟩)
      ⟨⟨⟨o, ts, ds, l', ps, hops, hd, hN, fun p hp => hp, List.mem_cons_self, hds, hk, h⟩, hR⟩, trivial⟩
    refine ⟨ps', cs', us', hK, h1, (fun c hc => by cases hc), fun u hu => h3 u (List.mem_cons_of_mem _ hu), h4, h5, fun i hi => ?_, fun p hp => ?_, fun c hc => ?_⟩
    · cases i with
      | zero => exact .inr ⟨_, h2 _ List.mem_cons_self, rfl⟩
      | succ i =>
        have := h6 i (by simpa using hi)
        rwa [show j + 1 + i = j + (i + 1) by omega] at this
    · rcases h7 p hp with h | h
      · exact .inl h
      · exact .inr ⟨by omega, by simp only [List.length_cons]; omega⟩
    · rcases h8 c hc with h | h
      · rw [List.mem_singleton.1 h]
        exact .inr ⟨Nat.le_refl _, by simp⟩
      · exact .inr ⟨by omega, by simp only [List.length_cons]; omega⟩
  | @nxt o rest j d p dp ps cs us K Ψp Ψ l' ts ds hd hN hds hk hp h hR next ih =>
    intro hop hps hcs
    have hops := hop 0 o rfl
    obtain ⟨ps', cs', us', hK, h1, h2, h3, h4, h5, h6, h7, h8⟩ := ih (fun i o' hi => by rw [show j + 1 + i = j + (i + 1) by omega]; exact hop (i + 1) o' (by simpa using hi))
      (fun p hp => by
        obtain ⟨o2, t2, d2, l2, p2, k1, k2, k3, k4, k5, k6⟩ := (hps p hp).run
        exact ⟨o2, t2, d2, l2, p2, k1, k2, k3, k4, List.mem_cons_of_mem _ k5, k6⟩)
      ⟨⟨⟨o, ts, ds, l', ps, hops, hd, hN, fun p hp => hp, List.mem_cons_self, hds, hk, hp, h⟩, hR⟩, RCh.mono (fun c p hc => hc.mono (fun p hp => hp) (fun u hu => List.mem_cons_of_mem _ hu)) hcs⟩
    refine ⟨ps', cs', us', hK, h1, fun c hc => h2 c (List.mem_cons_of_mem _ hc), fun u hu => h3 u (List.mem_cons_of_mem _ hu), h4, h5, fun i hi => ?_, fun p hp => ?_, fun c hc => ?_⟩
    · cases i with
      | zero => exact .inr ⟨_, h2 _ List.mem_cons_self, rfl⟩
      | succ i =>
        have := h6 i (by simpa using hi)
        rwa [show j + 1 + i = j + (i + 1) by omega] at this
    · rcases h7 p hp with h | h
      · exact .inl h
      · exact .inr ⟨by omega, by simp only [List.length_cons]; omega⟩
    · rcases h8 c hc with h | h
      · rcases List.mem_cons.1 h with rfl | h
        · exact .inr ⟨Nat.le_refl _, by simp⟩
        · exact .inl h
      · exact .inr ⟨by omega, by simp only [List.length_cons]; omega⟩

/-- the environment of the named values -/
def penv : Prs → Env → Env
  | [], l => l
  | (_, d, v) :: ps, l => penv ps ((d, v) :: l)
theorem penv_of {a : Act} {l0 : Env} : ∀ (ps : Prs) {l : Env}, (∀ p ∈ ps, a.tmps[p.2.1]? = some p.2.2) → Of N l a → Of N (penv ps l) a
  | [], _, _, ho => ho
  | (_, _, _) :: ps, _, h, ho => penv_of (l0 := l0) ps (fun p hp => h p (List.mem_cons_of_mem _ hp)) (ho.add (h _ List.mem_cons_self))
/-- what stands at the row's stage -/
def Stg (w : World) (a : Act) (w' : World) : Option (Nat × Nat × (Value → World → Prop)) → Prop
  | none => w' = w
  | some c => ∃ v, a.tmps[c.2.1]? = some v ∧ c.2.2 v w'
/-- an environment without these slots -/
def dropE (ts : List Nat) : Env → Env
  | [] => []
  | (t, v) :: l => bif ts.any (Nat.beq t) then dropE ts l else (t, v) :: dropE ts l
theorem dropE_lk {ts : List Nat} : ∀ {l : Env} {t : Nat} {v : Value}, lk (dropE ts l) t = some v → lk l t = some v ∧ t ∉ ts
  | [], t, v, h => by simp [dropE, lk] at h
  | (s, u) :: l, t, v, h => by
    simp only [dropE] at h
    cases hs : ts.any (Nat.beq s) with
    | false =>
      rw [hs] at h
      simp only [cond_false, lk] at h
      simp only [lk]
      by_cases e : s = t
      · subst e
        simp at h
        subst h
        simp
        intro hm
        have h2 : ts.any (Nat.beq s) = true := List.any_eq_true.2 ⟨s, hm, by simp⟩
        rw [hs] at h2
        cases h2
      · rw [beqf e] at h ⊢
        simp only [cond_false] at h ⊢
        exact dropE_lk h
    | true =>
      rw [hs] at h
      simp only [cond_true] at h
      have := dropE_lk h
      simp only [lk]
      by_cases e : s = t
      · subst e
        exfalso
        obtain ⟨x, hx, hb⟩ := List.any_eq_true.1 hs
        have : s = x := by simpa using hb
        exact (dropE_lk h).2 (this ▸ hx)
      · rw [beqf e]
        exact this
/-- the state within such a segment -/
structure MidC (N : Sz) (l : Env) (w : World) (Rl : World → Prop) (ps : Prs) (cs : Chs) (listed : Array Bool) (a : Act) (w' : World) : Prop where
  defers : a.defers = N.d
  size : a.tmps.size = N.n
  live : ∀ t v, lk l t = some v → (∀ x ∈ entP ps cs, x.2 = t → listed.getD x.1 false = false) → a.tmps[t]? = some v
  rel : Rl w'
  pure : ∀ p ∈ ps, listed.getD p.1 false = true → a.tmps[p.2.1]? = some p.2.2
  row : ∃ todo done, cs = todo ++ done ∧ (∀ c ∈ done, listed.getD c.1 false = true) ∧ (∀ c ∈ todo, listed.getD c.1 false = false) ∧ Stg w a w' done.head?

theorem wd_chain {k : Nat} (n : Nat) (os : List Oper) (Rl : World → Prop) (hR0 : Rl w) (hos : (ops.toList.drop k).take n = os) (hn : os.length = n) (hseg : segB ops k n = true) (hb : backB ops = true)
    (h : Chn r P N ops l w Rl os k [] [] [] (fun ps cs us => ndB (entP ps cs) = true ∧ usOk ops (entP ps cs) us = true ∧ match cs with
      | [] => Wd r P N ops Q (k + n) (penv ps (dropE (ps.map fun p => p.2.1) l)) w
      | c :: _ => ∀ v w', c.2.2 v w' → Wd r P N ops Q (k + n) ((c.2.1, v) :: penv ps (dropE (cs.map fun c => c.2.1) (dropE (ps.map fun p => p.2.1) l))) w')) : Wd r P N ops Q k l w := by
  refine ⟨hb, fun a ha => ?_⟩
  have hop : ∀ i o, os[i]? = some o → ops[k + i]? = some o := by
    intro i o ho
    rw [← hos, List.getElem?_take] at ho
    split at ho
    · rw [List.getElem?_drop] at ho
      simpa using ho
    · cases ho
  obtain ⟨ps, cs, us, ⟨hnd, hus, hK⟩, _, _, _, hpo, hco, hcov, hpi, hci⟩ := h.spec hop (fun p hp => by cases hp) trivial
  replace hpi : ∀ p ∈ ps, k ≤ p.1 ∧ p.1 < k + n := fun p hp => by
    rcases hpi p hp with h | h
    · cases h
    · omega
  replace hci : ∀ c ∈ cs, k ≤ c.1 ∧ c.1 < k + n := fun c hc => by
    rcases hci c hc with h | h
    · cases h
    · omega
  obtain ⟨nd1, nd2, nd3⟩ := ndB_app hnd
  have hpp : ∀ p ∈ ps, ∀ p' ∈ ps, p.1 = p'.1 → p = p' := fun p hp p' hp' e => by
    rcases ndB_map nd1 hp hp' with h | h
    · exact h
    · exact absurd e h.1
  have hpp2 : ∀ p ∈ ps, ∀ p' ∈ ps, p.1 ≠ p'.1 → p.2.1 ≠ p'.2.1 := fun p hp p' hp' e => by
    rcases ndB_map nd1 hp hp' with h | h
    · subst h; exact absurd rfl e
    · exact h.2
  have hcc : ∀ c ∈ cs, ∀ c' ∈ cs, c = c' ∨ (c.1 ≠ c'.1 ∧ c.2.1 ≠ c'.2.1) := fun c hc c' hc' => ndB_map nd2 hc hc'
  have hpc : ∀ p ∈ ps, ∀ c ∈ cs, p.1 ≠ c.1 ∧ p.2.1 ≠ c.2.1 := fun p hp c hc => nd3 _ (List.mem_map_of_mem (f := fun p : Nat × Nat × Value => (p.1, p.2.1)) hp) _ (List.mem_map_of_mem (f := fun c : Nat × Nat × (Value → World → Prop) => (c.1, c.2.1)) hc)
  have hentP : ∀ p ∈ ps, (p.1, p.2.1) ∈ entP ps cs := fun p hp => List.mem_append.2 (.inl (List.mem_map_of_mem (f := fun p : Nat × Nat × Value => (p.1, p.2.1)) hp))
  have hentC : ∀ c ∈ cs, (c.1, c.2.1) ∈ entP ps cs := fun c hc => List.mem_append.2 (.inr (List.mem_map_of_mem (f := fun c : Nat × Nat × (Value → World → Prop) => (c.1, c.2.1)) hc))
  have hkn : n = 0 ∨ k + n ≤ ops.size := by
    rcases Nat.eq_zero_or_pos n with h0 | h0
    · exact .inl h0
    · have hlt : n - 1 < os.length := by omega
      have := (Array.getElem?_eq_some_iff.1 (hop (n - 1) _ (List.getElem?_eq_getElem hlt))).1
      exact .inr (by omega)
  -- the environment that an operation sees
  have see : ∀ (listed : Array Bool) (a : Act) (w' : World) (j : Nat) (ts ds : List Nat) (l' : Env) (ps0 : Prs), Lst ops k n listed → MidC N l w Rl ps cs listed a w' → j ∈ Region.ready .any ops listed → (j, ts) ∈ us → (∀ p ∈ ps0, p ∈ ps) → (ds.all fun i => dep ops j i) = true → pkv ps0 ds (keepE ts l) = some l' → Of N l' a := by
    intro listed a w' j ts ds l' ps0 hl hmid hj hu hsub hds hpk
    obtain ⟨hju, hjall⟩ := ready_all hj
    refine pkv_of ds hpk ⟨hmid.defers, hmid.size, fun t v hv => ?_⟩ fun i d v hi hm => ?_
    · obtain ⟨hv1, hv2⟩ := keepE_lk hv
      refine hmid.live t v hv1 fun x hx ht => ?_
      have h1 := List.all_eq_true.1 hus _ hu
      have h2 := List.all_eq_true.1 h1 t hv2
      have h3 := List.all_eq_true.1 h2 x hx
      simp only [Bool.or_eq_true, Bool.not_eq_true'] at h3
      rcases h3 with (h3 | h3) | h3
      · rw [ht] at h3; simp at h3
      · have : x.1 = j := by simpa using h3
        rw [this]; exact hju
      · cases hx1 : listed.getD x.1 false with
        | false => rfl
        | true =>
          have := hl.waits (x.1 + 1) x.1 j (fun oj ho e he hbb => hl.closed x.1 oj ho hx1 e he hbb) h3
          rw [hju] at this; cases this
    · obtain ⟨oj, ho, e, he, hbb, rfl⟩ := dep_spec (List.all_eq_true.1 hds i hi)
      exact hmid.pure _ (hsub _ hm) (hjall oj ho e he hbb)
  have key : ∀ m (listed : Array Bool) (a : Act) (w' : World), Lst ops k n listed → ((List.range n).filter fun i => !listed.getD (k + i) false).length = m → MidC N l w Rl ps cs listed a w' →
      wpAnyIn (WF r) 0 P .any ops Q (ops.size - (k + n) + m) listed a w' := by
    intro m
    induction m with
    | zero =>
      intro listed a w' hl hm hmid
      have hall : ∀ i, k ≤ i → i < k + n → i < ops.size → listed.getD i false = true := by
        intro i h1 h2 _
        have : (List.range n).filter (fun i => !listed.getD (k + i) false) = [] := List.eq_nil_of_length_eq_zero hm
        have := List.filter_eq_nil_iff.1 this (i - k) (List.mem_range.2 (by omega))
        rw [show k + (i - k) = i by omega] at this
        simpa using this
      have hf := hl.full hall
      have hps1 : ∀ p ∈ ps, a.tmps[p.2.1]? = some p.2.2 := fun p hp => hmid.pure p hp (by
        have := hpi p hp
        rcases hkn with h0 | h0
        · omega
        · exact hall p.1 this.1 this.2 (by omega))
      have hl1 : ∀ t v, lk l t = some v → (∀ p ∈ ps, p.2.1 ≠ t) → (∀ c ∈ cs, c.2.1 ≠ t) → a.tmps[t]? = some v := fun t v hv h1 h2 => hmid.live t v hv fun x hx ht => by
        rcases List.mem_append.1 hx with hx | hx
        · obtain ⟨p, hp, rfl⟩ := List.mem_map.1 hx
          exact absurd ht (h1 p hp)
        · obtain ⟨c, hc, rfl⟩ := List.mem_map.1 hx
          exact absurd ht (h2 c hc)
      obtain ⟨todo, done, hcs, hdone, htodo, hstg⟩ := hmid.row
      have htn : todo = [] := by
        cases todo with
        | nil => rfl
        | cons c t =>
          have h1 := htodo c List.mem_cons_self
          have h2 := hci c (by rw [hcs]; exact List.mem_append.2 (.inl List.mem_cons_self))
          rcases hkn with h0 | h0
          · omega
          · rw [hall c.1 h2.1 h2.2 (by omega)] at h1; cases h1
      subst htn
      simp only [List.nil_append] at hcs
      subst hcs
      rw [hf]
      cases hc : cs with
      | nil =>
        rw [hc] at hK hstg
        simp only at hK
        have hw : w' = w := hstg
        subst hw
        refine hK.2 a (penv_of (l0 := l) ps hps1 ⟨hmid.defers, hmid.size, fun t v hv => ?_⟩)
        obtain ⟨hv1, hv2⟩ := dropE_lk hv
        exact hl1 t v hv1 (fun p hp e => hv2 (e ▸ List.mem_map_of_mem (f := fun p : Nat × Nat × Value => p.2.1) hp)) (fun c hc' => by rw [hc] at hc'; cases hc')
      | cons c rest =>
        rw [hc] at hK hstg
        simp only at hK
        obtain ⟨v, hv, hΨ⟩ := hstg
        refine (hK v w' hΨ).2 a (Of.add (penv_of (l0 := l) ps hps1 ⟨hmid.defers, hmid.size, fun t u hu => ?_⟩) hv)
        obtain ⟨hu1, hu2⟩ := dropE_lk hu
        obtain ⟨hu3, hu4⟩ := dropE_lk hu1
        exact hl1 t u hu3 (fun p hp e => hu4 (e ▸ List.mem_map_of_mem (f := fun p : Nat × Nat × Value => p.2.1) hp)) (fun c' hc' e => hu2 (e ▸ List.mem_map_of_mem (f := fun c : Nat × Nat × (Value → World → Prop) => c.2.1) (hc ▸ hc')))
    | succ m ih =>
      intro listed a w' hl hm hmid
      obtain ⟨i, hin, hiu⟩ : ∃ i, i < n ∧ listed.getD (k + i) false = false := by
        cases hfl : (List.range n).filter (fun i => !listed.getD (k + i) false) with
        | nil => rw [hfl] at hm; simp at hm
        | cons i t =>
          have : i ∈ (List.range n).filter (fun i => !listed.getD (k + i) false) := by rw [hfl]; exact List.mem_cons_self
          have := List.mem_filter.1 this
          exact ⟨i, List.mem_range.1 this.1, by simpa using this.2⟩
      have hkn' : k + n ≤ ops.size := by
        rcases hkn with h | h
        · omega
        · exact h
      have hne : Region.ready .any ops listed ≠ [] := by
        obtain ⟨i₀, hi₀, hleast⟩ : ∃ i₀, (i₀ < n ∧ listed.getD (k + i₀) false = false) ∧ ∀ i, (i < n ∧ listed.getD (k + i) false = false) → i₀ ≤ i := exists_least ⟨i, hin, hiu⟩
        have hsz : k + i₀ < ops.size := by omega
        have : k + i₀ ∈ Region.ready .any ops listed := by
          refine mem_ready.2 ⟨getD_true_of (by rw [hl.size]; exact hsz) hi₀.2, ops[k + i₀], Array.getElem?_eq_getElem hsz, fun e he hbb => ?_⟩
          have hlt := back_spec hb (Array.getElem?_eq_getElem hsz) e he hbb
          rcases Nat.lt_or_ge e.on k with h1 | h1
          · exact hl.low _ h1 (by omega)
          · cases hh : listed.getD e.on false with
            | true => rfl
            | false =>
              have := hleast (e.on - k) ⟨by omega, by rw [show k + (e.on - k) = e.on by omega]; exact hh⟩
              omega
        intro h0; rw [h0] at this; cases this
      rw [show ops.size - (k + n) + (m + 1) = (ops.size - (k + n) + m) + 1 by omega]
      refine ⟨fun h0 => absurd h0 hne, fun j hj => ?_⟩
      obtain ⟨hju, hjall⟩ := ready_all hj
      obtain ⟨_, oj, hoj, _⟩ := mem_ready.1 hj
      have hjsz : j < ops.size := (Array.getElem?_eq_some_iff.1 hoj).1
      have hkj : k ≤ j := by
        rcases Nat.lt_or_ge j k with h1 | h1
        · have := hl.low j h1 hjsz; rw [hju] at this; cases this
        · exact h1
      have hjn : j < k + n := by
        rcases Nat.lt_or_ge j (k + n) with h1 | h1
        · exact h1
        · have h2 := List.all_eq_true.1 hseg j (List.mem_range.2 hjsz)
          have h3 : Nat.blt j (k + n) = false := by
            cases h : Nat.blt j (k + n) with
            | false => rfl
            | true => have : j < k + n := by simpa using h
                      omega
          rw [h3, Bool.false_or] at h2
          have h4 := List.all_eq_true.1 h2 i (List.mem_range.2 hin)
          have := hl.waits (j + 1) j (k + i) hjall h4
          rw [hiu] at this; cases this
      have hset := hl.set hj hjn
      have hcount : ((List.range n).filter fun i => !(listed.setIfInBounds j true).getD (k + i) false).length = m := by
        have : ((List.range n).filter fun i => !(listed.setIfInBounds j true).getD (k + i) false) = ((List.range n).filter fun i => !listed.getD (k + i) false).filter (fun i => !Nat.beq i (j - k)) := by
          rw [List.filter_filter]
          refine List.filter_congr fun i' hi' => ?_
          have hi'' := List.mem_range.1 hi'
          by_cases e : i' = j - k
          · subst e
            have : (listed.setIfInBounds j true).getD (k + (j - k)) false = true := set_get.2 (.inr ⟨by omega, by rw [hl.size]; exact (by omega)⟩)
            rw [this]; simp
          · rw [beqf e]
            have : (listed.setIfInBounds j true).getD (k + i') false = listed.getD (k + i') false := getD_set_ne false (by omega)
            rw [this]; simp
        rw [this]
        exact filter_one (by simpa using hm) (List.nodup_range.filter _) (List.mem_filter.2 ⟨List.mem_range.2 (by omega), by rw [show k + (j - k) = j by omega, hju]; rfl⟩)
      have hjt : (listed.setIfInBounds j true).getD j false = true := set_get.2 (.inr ⟨rfl, by rw [hl.size]; exact hjsz⟩)
      have hput : ∀ (d : Nat) (v : Value) (t : Nat), d ≠ t → (a.put (some d) v).tmps[t]? = a.tmps[t]? := fun d v t hne => by
        simp only [Act.put]
        rw [Array.getElem?_setIfInBounds_ne hne]
      have hput1 : ∀ (d : Nat) (v : Value), Nat.blt d N.n = true → (a.put (some d) v).tmps[d]? = some v := fun d v hd => by
        have hd' : d < N.n := by simpa using hd
        simp [Act.put, hmid.size, hd']
      have hlive : ∀ (d : Nat) (v : Value), (j, d) ∈ entP ps cs → ∀ t u, lk l t = some u → (∀ x ∈ entP ps cs, x.2 = t → (listed.setIfInBounds j true).getD x.1 false = false) → (a.put (some d) v).tmps[t]? = some u := fun d v hm t u hu hx => by
        rw [hput d v t (fun e => by have := hx (j, d) hm e; rw [hjt] at this; cases this)]
        refine hmid.live t u hu fun x hx' ht => ?_
        have := hx x hx' ht
        cases h2 : listed.getD x.1 false with
        | false => rfl
        | true => rw [set_get.2 (.inl h2)] at this; cases this
      obtain ⟨todo, done, hcs, hdone, htodo, hstg⟩ := hmid.row
      rcases hcov (j - k) (by omega) with ⟨p, hp, hpj⟩ | ⟨c, hc, hcj⟩
      · rw [show k + (j - k) = j by omega] at hpj
        obtain ⟨o, ts, ds, l', ps0, h1, h2, h3, h4, h5, h6, h7, h8⟩ := (hpo p hp).run
        subst hpj
        have hOf := see listed a w' p.1 ts ds l' ps0 hl hmid hj h5 h4 h6 h7
        refine wp_exg h1 (h8 w' hmid.rel) hOf fun v w'' hR => ?_
        obtain ⟨rfl, rfl⟩ := hR
        rw [h2]
        refine ih _ _ _ hset hcount ⟨hmid.defers, by simp [Act.put, hmid.size], hlive _ _ (hentP p hp), hmid.rel, fun p' hp' hli => ?_, todo, done, hcs, fun c hc => set_get.2 (.inl (hdone c hc)), fun c hc => ?_, ?_⟩
        · by_cases e : p'.1 = p.1
          · have := hpp p' hp' p hp e
            subst this
            exact hput1 _ _ h3
          · rw [hput _ _ _ (fun e' => hpp2 p' hp' p hp e e'.symm)]
            refine hmid.pure p' hp' ?_
            rwa [getD_set_ne false (fun e' => e e'.symm)] at hli
        · rw [getD_set_ne false ((hpc p hp c (by rw [hcs]; exact List.mem_append.2 (.inl hc))).1)]
          exact htodo c hc
        · cases hd : done.head? with
          | none => rw [hd] at hstg; exact hstg
          | some c =>
            rw [hd] at hstg
            obtain ⟨u, hu, hΨ⟩ := hstg
            have hcm : c ∈ cs := by rw [hcs]; exact List.mem_append.2 (.inr (List.mem_of_mem_head? (by rw [hd]; rfl)))
            exact ⟨u, by rw [hput _ _ _ (hpc p hp c hcm).2]; exact hu, hΨ⟩
      · rw [show k + (j - k) = j by omega] at hcj
        have hct : c ∈ todo := by
          rw [hcs] at hc
          rcases List.mem_append.1 hc with h | h
          · exact h
          · have := hdone c h
            rw [hcj, hju] at this; cases this
        -- it is the next of the row
        obtain ⟨todo', hto⟩ : ∃ todo', todo = todo' ++ [c] := by
          obtain ⟨pre, post, rfl⟩ := List.append_of_mem hct
          cases post with
          | nil => exact ⟨pre, rfl⟩
          | cons y post =>
            exfalso
            rw [hcs, show pre ++ c :: y :: post ++ done = pre ++ c :: (y :: post ++ done) by simp] at hco
            have hob := RCh.at_ hco
            simp only [List.cons_append, List.head?_cons] at hob
            obtain ⟨⟨o, ts, ds, l', ps0, h1, h2, h3, h4, h5, h6, h7, h8⟩, _⟩ := hob
            obtain ⟨oj', hoj', e, he, hbb, hey⟩ := dep_spec h8.1
            rw [hcj] at hoj'
            have := hjall oj' hoj' e he hbb
            rw [hey, htodo y (by simp)] at this
            cases this
        subst hto
        have hob := hco
        rw [hcs, show todo' ++ [c] ++ done = todo' ++ c :: done by simp] at hob
        replace hob := RCh.at_ hob
        obtain ⟨⟨o, ts, ds, l', ps0, h1, h2, h3, h4, h5, h6, h7, h8⟩, hRl⟩ := hob
        subst hcj
        have hOf := see listed a w' c.1 ts ds l' ps0 hl hmid hj h5 h4 h6 h7
        have goal : ∀ v w'', c.2.2 v w'' → wpAnyIn (WF r) 0 P .any ops Q (ops.size - (k + n) + m) (listed.setIfInBounds c.1 true) (a.put o.dst v) w'' := fun v w'' hΨ => by
          rw [h2]
          refine ih _ _ _ hset hcount ⟨hmid.defers, by simp [Act.put, hmid.size], hlive _ _ (hentC c hc), hRl v w'' hΨ, fun p' hp' hli => ?_, todo', c :: done, by rw [hcs]; simp, fun c' hc' => ?_, fun c' hc' => ?_, ?_⟩
          · have := hpc p' hp' c hc
            rw [hput _ _ _ (fun e' => this.2 e'.symm)]
            refine hmid.pure p' hp' ?_
            rwa [getD_set_ne false (fun e' => this.1 e'.symm)] at hli
          · rcases List.mem_cons.1 hc' with rfl | hc'
            · exact hjt
            · exact set_get.2 (.inl (hdone c' hc'))
          · have h0 := htodo c' (List.mem_append.2 (.inl hc'))
            have hne' : c ≠ c' := fun e => by
              subst e
              -- twice in the row
              have h9 := nd2
              rw [hcs] at h9
              rw [show todo' ++ [c] ++ done = todo' ++ (c :: done) by simp, List.map_append] at h9
              exact (ndB_app h9).2.2 _ (List.mem_map_of_mem (f := fun c : Nat × Nat × (Value → World → Prop) => (c.1, c.2.1)) hc') _ (List.mem_map_of_mem (f := fun c : Nat × Nat × (Value → World → Prop) => (c.1, c.2.1)) List.mem_cons_self) |>.1 rfl
            have hci' : c' ∈ cs := by rw [hcs]; exact List.mem_append.2 (.inl (List.mem_append.2 (.inl hc')))
            rcases hcc c hc c' hci' with h | h
            · exact absurd h hne'
            · rw [getD_set_ne false h.1]
              exact h0
          · exact ⟨v, hput1 _ _ h3, hΨ⟩
        cases hd : done.head? with
        | none =>
          rw [hd] at h8 hstg
          have hw : w' = w := hstg
          subst hw
          exact wp_exg h1 h8 hOf goal
        | some q =>
          rw [hd] at h8 hstg
          obtain ⟨u, hu, hΨ⟩ := hstg
          exact wp_exg h1 (h8.2 u w' hΨ) (hOf.add hu) goal
  have hstart := key n (firstk ops.size k) a w (Lst.firstk hb k n) ?_ ⟨ha.defers, ha.size, fun t v hv _ => ha.at_ t v hv, hR0, fun p hp hli => ?_, cs, [], by simp, (fun c hc => by cases hc), fun c hc => ?_, rfl⟩
  · rcases hkn with h0 | h0
    · subst h0; simpa using hstart
    · rw [show ops.size - (k + n) + n = ops.size - k by omega] at hstart
      exact hstart
  · rw [List.filter_eq_self.2, List.length_range]
    intro i hi
    have := (Lst.firstk hb k 0 : Lst ops k 0 _).high (k + i) (by omega)
    rw [this]; rfl
  · have := (Lst.firstk hb k 0 : Lst ops k 0 _).high p.1 (by have := hpi p hp; omega)
    rw [this] at hli; cases hli
  · exact (Lst.firstk hb k 0 : Lst ops k 0 _).high c.1 (by have := hci c hc; omega)
/-- an operation that names a value -/
theorem cpur {o : Oper} {rest : List Oper} {j d : Nat} {ps : Prs} {cs : Chs} {us : List (Nat × List Nat)} {K : Prs → Chs → List (Nat × List Nat) → Prop} {v : Value} {l' : Env} (ts ds : List Nat) (hd : o.dst = some d) (hN : Nat.blt d N.n = true)
    (hds : (ds.all fun i => dep ops j i) = true) (hk : pkv ps ds (keepE ts l) = some l') (hg : gd l' ops o = some true) (h : ∀ w', Rl w' → Ex r P N o l' w' (Dv v w'))
    (next : Chn r P N ops l w Rl rest (j + 1) ((j, d, v) :: ps) cs ((j, ts) :: us) K) : Chn r P N ops l w Rl (o :: rest) j ps cs us K :=
  .pur ts ds hd hN hds hk (fun w' hR => .inl ⟨hg, h w' hR⟩) next
theorem cfst {o : Oper} {rest : List Oper} {j d : Nat} {ps : Prs} {us : List (Nat × List Nat)} {K : Prs → Chs → List (Nat × List Nat) → Prop} {l' : Env} (Ψ : Value → World → Prop) (ts ds : List Nat) (hd : o.dst = some d) (hN : Nat.blt d N.n = true)
    (hds : (ds.all fun i => dep ops j i) = true) (hk : pkv ps ds (keepE ts l) = some l') (hg : gd l' ops o = some true) (h : Ex r P N o l' w Ψ) (hR : ∀ v w', Ψ v w' → Rl w')
    (next : Chn r P N ops l w Rl rest (j + 1) ps [(j, d, Ψ)] ((j, ts) :: us) K) : Chn r P N ops l w Rl (o :: rest) j ps [] us K :=
  .fst ts ds hd hN hds hk (.inl ⟨hg, h⟩) hR next
theorem cnxt {o : Oper} {rest : List Oper} {j d p dp : Nat} {ps : Prs} {cs : Chs} {us : List (Nat × List Nat)} {K : Prs → Chs → List (Nat × List Nat) → Prop} {Ψp : Value → World → Prop} {l' : Env} (Ψ : Value → World → Prop) (ts ds : List Nat) (hd : o.dst = some d) (hN : Nat.blt d N.n = true)
    (hds : (ds.all fun i => dep ops j i) = true) (hk : pkv ps ds (keepE ts l) = some l') (hp : dep ops j p = true) (hg : ∀ v, gd ((dp, v) :: l') ops o = some true) (h : ∀ v w', Ψp v w' → Ex r P N o ((dp, v) :: l') w' Ψ) (hR : ∀ v w', Ψ v w' → Rl w')
    (next : Chn r P N ops l w Rl rest (j + 1) ps ((j, d, Ψ) :: (p, dp, Ψp) :: cs) ((j, ts) :: us) K) : Chn r P N ops l w Rl (o :: rest) j ps ((p, dp, Ψp) :: cs) us K :=
  .nxt ts ds hd hN hds hk hp (fun v w' hΨ => .inl ⟨hg v, h v w' hΨ⟩) hR next
end
end Go.Proofs.Ytcgcklfbnmaodaa

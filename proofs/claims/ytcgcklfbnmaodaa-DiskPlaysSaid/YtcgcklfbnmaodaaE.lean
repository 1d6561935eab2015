/- A way of walking a Go function's operations by an environment (slot, value): plain lemmas on the walk's code; nothing of any program stands here. -/
import Derived.CallsIn
import Derived.RangeFuncCalls
import Derived.OrdersIn
import Derived.TacticsIn
import Derived.Below
import Derived.KernelRfl
import Derived.Laws.Rows
namespace Go.Proofs.Ytcgcklfbnmaodaa
open Go Go.RowKit

/-- the wide fence, in a round or not -/
def WF (r : Option Nat) : Fence := { fn := fun _ => True, depth := none, alive := false, round := r }
theorem WF_none : WF none = Fence.wide := rfl

abbrev Env := List (Nat × Value)
def lk : Env → Nat → Option Value
  | [], _ => none
  | (d, v) :: l, t => bif Nat.beq d t then some v else lk l t
def ev (l : Env) : Operand → Option Value
  | .tmp t => lk l t
  | .const v => some v
  | .global g => some (.pointer (some ⟨g, 0, none⟩))
  | .func f => some (.func (.func f) #[] #[])
def evs (l : Env) : List Operand → Option (List Value)
  | [] => some []
  | x :: r => match ev l x, evs l r with
    | some v, some vs => some (v :: vs)
    | _, _ => none

/-- the number of an activation's slots, and its deferred calls (none, but behind a range over a function: one mark) -/
structure Sz where
  n : Nat
  d : List Deferred
structure Of (N : Sz) (l : Env) (a : Act) : Prop where
  defers : a.defers = N.d
  size : a.tmps.size = N.n
  at_ : ∀ t v, lk l t = some v → a.tmps[t]? = some v

theorem beqf {a b : Nat} (h : ¬ a = b) : Nat.beq a b = false := by cases e : Nat.beq a b with | false => rfl | true => exact absurd (Nat.eq_of_beq_eq_true e) h
theorem Of.ev {N : Sz} {l : Env} {a : Act} (h : Of N l a) {x : Operand} {v : Value} (hx : ev l x = some v) : a.eval x = v := by
  cases x with
  | tmp t => have := h.at_ t v hx; simp [Act.eval, this]
  | const u => simpa [Proofs.Ytcgcklfbnmaodaa.ev, Act.eval] using hx
  | global g => simpa [Proofs.Ytcgcklfbnmaodaa.ev, Act.eval] using hx
  | func f => simpa [Proofs.Ytcgcklfbnmaodaa.ev, Act.eval] using hx

theorem Of.evs {N : Sz} {l : Env} {a : Act} (h : Of N l a) : ∀ {xs : List Operand} {vs : List Value}, evs l xs = some vs → xs.map a.eval = vs
  | [], vs, hx => by simp [Proofs.Ytcgcklfbnmaodaa.evs] at hx; simp [hx]
  | x :: r, vs, hx => by
    unfold Proofs.Ytcgcklfbnmaodaa.evs at hx
    split at hx
    · rename_i v us h1 h2
      simp only [Option.some.injEq] at hx
      rw [← hx, List.map_cons, h.ev h1, Of.evs h h2]
    · cases hx

theorem Of.put {N : Sz} {l : Env} {a : Act} (h : Of N l a) {d : Nat} (hd : Nat.blt d N.n = true) (v : Value) : Of N ((d, v) :: l) (a.put (some d) v) := by
  have hd' : d < N.n := by simpa [Nat.blt_eq] using hd
  refine ⟨h.defers, by simp [Act.put, h.size], fun t u hu => ?_⟩
  simp only [lk] at hu
  by_cases e : d = t
  · subst e
    simp at hu
    subst hu
    simp [Act.put, h.size, hd']
  · have e' : Nat.beq d t = false := beqf e
    rw [e'] at hu
    simp only [cond_false] at hu
    have := h.at_ t u hu
    simp only [Act.put]
    rw [Array.getElem?_setIfInBounds_ne (by simpa using e)]
    exact this

/-- what is asked of a smaller environment -/
def Sub : Env → Env → Prop
  | [], _ => True
  | (t, v) :: m, l => lk l t = some v ∧ Sub m l
theorem Of.sub {N : Sz} {l : Env} {a : Act} (h : Of N l a) : ∀ {m : Env}, Sub m l → Of N m a
  | [], _ => ⟨h.defers, h.size, fun t v hv => by simp [lk] at hv⟩
  | (t, v) :: m, hs => by
    have := Of.sub h hs.2
    refine ⟨h.defers, h.size, fun t' v' hv => ?_⟩
    simp only [lk] at hv
    by_cases e : t = t'
    · subst e
      simp at hv
      subst hv
      exact h.at_ _ _ hs.1
    · have e' : Nat.beq t t' = false := beqf e
      rw [e'] at hv
      exact this.at_ _ _ (by simpa using hv)

theorem Of.start (vs : List Value) (N : Nat) (l : Env) (hN : Nat.ble vs.length N = true) (hl : ∀ t v, lk l t = some v → vs[t]? = some v) : Of ⟨N, []⟩ l { tmps := vs.toArray ++ Array.replicate (N - vs.toArray.size) undef, defers := [] } := by
  have : vs.length ≤ N := by simpa using hN
  refine ⟨rfl, by simp; omega, fun t v hv => ?_⟩
  have := hl t v hv
  have hlt : t < vs.length := (List.getElem?_eq_some_iff.1 this).1
  simp only []
  rw [Array.getElem?_append_left (by simpa using hlt)]
  simpa using this

/-- the environment of a call's arguments -/
def envAt : Nat → List Value → Env
  | _, [] => []
  | k, v :: vs => (k, v) :: envAt (k + 1) vs
theorem lk_envAt : ∀ (vs : List Value) (k t : Nat) (v : Value), lk (envAt k vs) t = some v → k ≤ t ∧ vs[t - k]? = some v
  | [], k, t, v, h => by simp [envAt, lk] at h
  | u :: vs, k, t, v, h => by
    simp only [envAt, lk] at h
    by_cases e : k = t
    · subst e; simp at h; simp [h]
    · have e' : Nat.beq k t = false := beqf e
      rw [e'] at h
      have := lk_envAt vs (k + 1) t v (by simpa using h)
      refine ⟨by omega, ?_⟩
      rw [show t - k = (t - (k + 1)) + 1 by omega]
      simpa using this.2

/-! ### code -/
def W (r : Option Nat) (P : Program) (N : Sz) (c : Code) (Q : Exit → Act → World → Prop) (l : Env) (w : World) : Prop := ∀ a, Of N l a → c.wpIn (WF r) 0 P Q a w
def QE (N : Sz) (Q : Exit → Act → World → Prop) (e : Exit) (l : Env) (w : World) : Prop := ∀ a, Of N l a → Q e a w
def Wl (r : Option Nat) (P : Program) (N : Sz) (ops : Array Oper) (rest : List Oper) (Q : Exit → Act → World → Prop) (l : Env) (w : World) : Prop :=
  ∀ a, Of N l a → wpListIn (WF r) 0 P ops Q rest a w

section code
variable {r : Option Nat} {P : Program} {N : Sz} {Q : Exit → Act → World → Prop} {l : Env} {w : World}

theorem w_seq {x y : Code} (h : W r P N x (Exit.then (y.wpIn (WF r) 0 P Q) Q) l w) : W r P N (.seq x y) Q l w := fun a ha => wpIn_seq (h a ha)
theorem w_block {id : Nat} {c : Code} (h : W r P N c (Exit.inBlock id Q) l w) : W r P N (.block id c) Q l w := fun a ha => wpIn_block (h a ha)
theorem w_skip (h : QE N Q .normal l w) : W r P N .skip Q l w := fun a ha => wpIn_skip (h a ha)
theorem w_exit {id : Nat} (h : QE N Q (.exit id) l w) : W r P N (.exit id) Q l w := fun a ha => wpIn_exit (h a ha)
theorem w_ret (h : QE N Q .ret l w) : W r P N .ret Q l w := fun a ha => wpIn_ret (h a ha)
theorem w_region {id : Nat} {os : List Oper} (h : Wl r P N os.toArray os Q l w) : W r P N (.region id os.toArray false) Q l w := fun a ha => wpIn_region_lit (h a ha)
theorem w_cond_t {c : Operand} {x y : Code} (hc : ev l c = some (.bool true)) (h : W r P N x Q l w) : W r P N (.cond c x y) Q l w := fun a ha => wpIn_cond_true (ha.ev hc) (h a ha)
theorem w_cond_f {c : Operand} {x y : Code} (hc : ev l c = some (.bool false)) (h : W r P N y Q l w) : W r P N (.cond c x y) Q l w := fun a ha => wpIn_cond_false (ha.ev hc) (h a ha)
theorem w_cond {c : Operand} {x y : Code} {b : Bool} (hc : ev l c = some (.bool b)) (h1 : b = true → W r P N x Q l w) (h0 : b = false → W r P N y Q l w) : W r P N (.cond c x y) Q l w := by
  cases b with
  | true => exact w_cond_t hc (h1 rfl)
  | false => exact w_cond_f hc (h0 rfl)
theorem w_if {c : Operand} {x y : Code} {p : Prop} [Decidable p] (hc : ev l c = some (.bool (decide p))) (h1 : p → W r P N x Q l w) (h0 : ¬ p → W r P N y Q l w) : W r P N (.cond c x y) Q l w :=
  w_cond hc (fun h => h1 (of_decide_eq_true h)) (fun h => h0 (of_decide_eq_false h))
theorem w_nil {ops : Array Oper} (h : QE N Q .normal l w) : Wl r P N ops [] Q l w := fun a ha => wpListIn_nil (h a ha)
theorem W.sub {c : Code} {m : Env} (h : W r P N c Q m w) (hs : Sub m l) : W r P N c Q l w := fun a ha => h a (ha.sub hs)
theorem W.mono {c : Code} {Q' : Exit → Act → World → Prop} (h : W r P N c Q l w) (hq : ∀ e a w, Q e a w → Q' e a w) : W r P N c Q' l w := fun a ha => wpIn_mono (h a ha) hq

/-! what stands at a way's end -/
theorem qe_next {y : Code} {Q' : Exit → Act → World → Prop} (h : W r P N y Q' l w) : QE N (Exit.then (y.wpIn (WF r) 0 P Q') Q) .normal l w := h
theorem qe_then_exit {K : Act → World → Prop} {id : Nat} (h : QE N Q (.exit id) l w) : QE N (Exit.then K Q) (.exit id) l w := h
theorem qe_then_ret {K : Act → World → Prop} (h : QE N Q .ret l w) : QE N (Exit.then K Q) .ret l w := h
theorem qe_in_normal {id : Nat} (h : QE N Q .normal l w) : QE N (Exit.inBlock id Q) .normal l w := h
theorem qe_in_ret {id : Nat} (h : QE N Q .ret l w) : QE N (Exit.inBlock id Q) .ret l w := h
theorem qe_in_exit {id : Nat} (h : QE N Q .normal l w) : QE N (Exit.inBlock id Q) (.exit id) l w := fun a ha => by
  show (if id = id then Q .normal a w else Q (.exit id) a w)
  rw [if_pos rfl]; exact h a ha
theorem qe_in_exit' {id id' : Nat} (hne : Nat.beq id' id = false) (h : QE N Q (.exit id') l w) : QE N (Exit.inBlock id Q) (.exit id') l w := fun a ha => by
  show (if id' = id then Q .normal a w else Q (.exit id') a w)
  rw [if_neg (fun e => by subst e; simp at hne)]; exact h a ha
/-- the next round of a loop, or where ways meet: an index is chosen -/
theorem qe_then {K : Act → World → Prop} (h : ∀ a, Of N l a → K a w) : QE N (Exit.then K Q) .normal l w := h

/-- ways that meet again: what holds there, over an index of one's own -/
theorem w_cut {ι : Type} {x y : Code} (E : ι → Env) (M : ι → World → Prop) (h : W r P N x (Exit.then (fun a w' => ∃ i, Of N (E i) a ∧ M i w') Q) l w) (h' : ∀ i w', M i w' → W r P N y Q (E i) w') : W r P N (.seq x y) Q l w :=
  fun a ha => wpIn_seq (wpIn_mono (h a ha) fun e a' w' q => by
    cases e <;> try exact q
    obtain ⟨i, ho, hm⟩ := q
    exact h' i w' hm a' ho)
theorem qe_meet {ι : Type} {E : ι → Env} {M : ι → World → Prop} (i : ι) (hs : Sub (E i) l) (hm : M i w) : QE N (Exit.then (fun a w' => ∃ i, Of N (E i) a ∧ M i w') Q) .normal l w :=
  fun _ ha => ⟨i, ha.sub hs, hm⟩

theorem w_loop {ι : Type} {c : Code} (E : ι → Env) (M : ι → World → Prop) (μ : ι → Nat) (i₀ : ι) (hs : Sub (E i₀) l) (h₀ : M i₀ w)
    (round : ∀ i w', M i w' → W r P N c (Exit.then (fun a w'' => ∃ j, Of N (E j) a ∧ M j w'' ∧ μ j < μ i) Q) (E i) w') : W r P N (.loop c) Q l w := by
  intro a ha b k cs hro hb hr
  have key : ∀ n i a w, μ i = n → Of N (E i) a → M i w →
      ∃ e a' w', Q e a' w' ∧ ArrivesIn (Machine.fenced P (WF r)) P (lone (b.atR a (.code c :: .inLoop c :: k)) cs w) b k cs e a' w' := by
    intro n
    induction n using Nat.strongRecOn with
    | _ n ih =>
      intro i a w hi ho hm
      obtain ⟨e, a₁, w₁, hq, harr⟩ := round i w hm a ho b (.inLoop c :: k) cs hro hb hr
      cases e with
      | normal =>
        obtain ⟨j, ho', hm', hlt⟩ := hq
        obtain ⟨e₂, a₂, w₂, hq₂, harr₂⟩ := ih (μ j) (hi ▸ hlt) j a₁ w₁ rfl ho' hm'
        exact ⟨e₂, a₂, w₂, hq₂, .of_steps (StepsIn.trans harr (.one (fenced_calm hb hr rfl) stepR_inLoop)) harr₂⟩
      | exit id => exact ⟨_, a₁, w₁, hq, .pass (x := .inLoop c) rfl (fun _ _ => .inl (by simp)) harr⟩
      | goto l => exact ⟨_, a₁, w₁, hq, .pass (x := .inLoop c) rfl (fun _ _ => .inl (by simp)) harr⟩
      | ret => exact ⟨_, a₁, w₁, hq, .pass (x := .inLoop c) rfl (fun _ _ => .inl (by simp)) harr⟩
      | panic ch => exact ⟨_, a₁, w₁, hq, .pass (x := .inLoop c) rfl (fun _ _ => .inl (by simp)) harr⟩
      | outgrown => exact ⟨_, a₁, w₁, hq, .pass (x := .inLoop c) rfl (fun _ _ => .inl (by simp)) harr⟩
  obtain ⟨e, a', w', hq, harr⟩ := key _ i₀ a w rfl (ha.sub hs) h₀
  exact ⟨e, a', w', hq, .of_steps (.one (fenced_calm hb hr rfl) stepR_loop) harr⟩
theorem qe_round {ι : Type} {E : ι → Env} {M : ι → World → Prop} {μ : ι → Nat} {i : ι} (j : ι) (hs : Sub (E j) l) (hm : M j w) (hlt : μ j < μ i) :
    QE N (Exit.then (fun a w'' => ∃ j, Of N (E j) a ∧ M j w'' ∧ μ j < μ i) Q) .normal l w :=
  fun _ ha => ⟨j, ha.sub hs, hm, hlt⟩
end code

/-! ### contracts -/
/-- a call that returns: its value and the world behind it -/
def Ret (P : Program) (f : FuncId) (args : List Value) (w : World) (R : Value → World → Prop) : Prop :=
  Calls P f args.toArray w fun e w' => ∃ v, e = .returned v ∧ R v w'
theorem Ret.mono {P : Program} {f : FuncId} {args : List Value} {w : World} {R R' : Value → World → Prop} (h : Ret P f args w R) (hr : ∀ v w', R v w' → R' v w') : Ret P f args w R' :=
  Calls.mono h fun _ _ ⟨v, he, hR⟩ => ⟨v, he, hr _ _ hR⟩

/-- a function's body, walked: one result, two, three, none -/
theorem ret_of {P : Program} {f : FuncId} {fn : Func} {c : Code} {args : List Value} {w : World} {R : Value → World → Prop} (hf : P.funcs[f]? = some fn) (hb : fn.body = some c) (hN : Nat.ble args.length fn.ntmps = true)
    (h : W none P ⟨fn.ntmps, []⟩ c (bodyPost P fn fun e w' => ∃ v, e = .returned v ∧ R v w') (envAt 0 args) w) : Ret P f args w R := by
  unfold Ret
  rw [← callsIn_wide (n := 0)]
  refine callsIn_of_wp hf hb trivial (h _ ?_) rfl
  exact Of.start args fn.ntmps _ hN fun t v hv => by simpa using (lk_envAt args 0 t v hv).2

section ends
variable {P : Program} {N : Nat} {fn : Func} {R : Value → World → Prop} {l : Env} {w : World}
theorem qe_ret0 (h0 : fn.results = #[]) (h : R (.tuple #[]) w) : QE ⟨N, []⟩ (bodyPost P fn fun e w' => ∃ v, e = .returned v ∧ R v w') .ret l w :=
  fun a ha => ⟨ha.defers, _, by simp [results, h0], _, rfl, h⟩
theorem qe_end0 (h0 : fn.results = #[]) (h : R (.tuple #[]) w) : QE ⟨N, []⟩ (bodyPost P fn fun e w' => ∃ v, e = .returned v ∧ R v w') .normal l w :=
  fun a ha => ⟨ha.defers, _, by simp [results, h0], _, rfl, h⟩
theorem qe_ret1 {t : Nat} {v : Value} (h0 : fn.results = #[.tmp t]) (hv : lk l t = some v) (h : R v w) : QE ⟨N, []⟩ (bodyPost P fn fun e w' => ∃ v, e = .returned v ∧ R v w') .ret l w :=
  fun a ha => ⟨ha.defers, v, by simp [results, h0, ha.at_ t v hv], _, rfl, h⟩
theorem qe_ret2 {t u : Nat} {v1 v2 : Value} (h0 : fn.results = #[.tmp t, .tmp u]) (hv1 : lk l t = some v1) (hv2 : lk l u = some v2) (h : R (.tuple #[v1, v2]) w) :
    QE ⟨N, []⟩ (bodyPost P fn fun e w' => ∃ v, e = .returned v ∧ R v w') .ret l w :=
  fun a ha => ⟨ha.defers, _, by simp [results, h0, ha.at_ t v1 hv1, ha.at_ u v2 hv2], _, rfl, h⟩
theorem qe_ret3 {t u s : Nat} {v1 v2 v3 : Value} (h0 : fn.results = #[.tmp t, .tmp u, .tmp s]) (hv1 : lk l t = some v1) (hv2 : lk l u = some v2) (hv3 : lk l s = some v3) (h : R (.tuple #[v1, v2, v3]) w) :
    QE ⟨N, []⟩ (bodyPost P fn fun e w' => ∃ v, e = .returned v ∧ R v w') .ret l w :=
  fun a ha => ⟨ha.defers, _, by simp [results, h0, ha.at_ t v1 hv1, ha.at_ u v2 hv2, ha.at_ s v3 hv3], _, rfl, h⟩
end ends
end Go.Proofs.Ytcgcklfbnmaodaa

/- One lemma a kind of operation: what it yields and what it does to the world, said over an environment of slots. -/
import Derived.Test.YtcgcklfbnmaodaaM
import Derived.WalkKit
namespace Go.Proofs.Ytcgcklfbnmaodaa
open Go Go.RowKit

/-- the operation, carried out, yields a value v and a world w' with 'R v w'' -/
def Ex (r : Option Nat) (P : Program) (N : Sz) (o : Oper) (l : Env) (w : World) (R : Value → World → Prop) : Prop :=
  ∀ a, Of N l a → o.wpIn (WF r) 0 P a w (fun a' w' => ∃ v, a' = a.put o.dst v ∧ R v w') (fun _ _ _ => False)
/-- it yields v and leaves the world -/
def Dv (v : Value) (w : World) : Value → World → Prop := fun v' w' => v' = v ∧ w' = w

theorem Ret.ext {P : Program} {f : FuncId} {args : List Value} {w : World} {v : Value} (h : Ret P f args w (Dv v w)) : Ret P f args w (fun v' w' => v' = v ∧ Ext w w') :=
  h.mono fun _ _ h => ⟨h.1, by rw [h.2]; exact Keep.refl _ _⟩
/-- is the operation carried out? (its guard, read off the environment) -/
def gd (l : Env) (ops : Array Oper) (o : Oper) : Option Bool :=
  match o.guard with
  | none => some true
  | some (j, want) => match (ops[j]?).bind (·.dst) with
    | none => none
    | some d => match lk l d with
      | some (.bool b) => some (b == want)
      | _ => none

section
variable {r : Option Nat} {P : Program} {N : Sz} {ops : Array Oper} {Q : Exit → Act → World → Prop} {l : Env} {w : World} {o : Oper} {rest : List Oper}

theorem wanted_of {a : Act} {b : Bool} (ha : Of N l a) (h : gd l ops o = some b) : Region.wanted o (yielded ops a.tmps) = b := by
  unfold gd at h
  unfold Region.wanted
  split at h
  · rename_i hg; simp only [hg]; simpa using h
  · rename_i j want hg
    simp only [hg]
    unfold yielded
    cases hd : (ops[j]?).bind (·.dst) with
    | none => simp [hd] at h
    | some d =>
      simp only [hd] at h ⊢
      cases hl : lk l d with
      | none => simp [hl] at h
      | some v =>
        have := ha.at_ d v hl
        simp only [hl] at h
        simp only [Option.bind_some, this]
        cases v <;> simp at h ⊢
        rename_i b'
        rw [← h]
        try (cases b' <;> cases want <;> rfl)

/-- an operation, carried out, and what comes behind it -/
theorem ex_wp {R : Value → World → Prop} {a : Act} {K : Act → World → Prop} (hx : Ex r P N o l w R) (ha : Of N l a) (next : ∀ v w', R v w' → K (a.put o.dst v) w') : o.wpIn (WF r) 0 P a w K Q := by
  obtain ⟨h1, h2⟩ := hx a ha
  refine ⟨h1, ?_⟩
  revert h2
  generalize (Oper.semAt (WF r).round a.eval o).run P w = res
  intro h2
  have fin : ∀ {a' : Act} {w' : World}, (∃ v, a' = a.put o.dst v ∧ R v w') → K a' w' := by
    rintro a' w' ⟨v, rfl, hR⟩
    exact next v w' hR
  unfold Oper.uponIn at h2 ⊢
  split at h2
  · exact fin h2
  · exact fin h2
  · exact fin h2
  · refine ⟨h2.1, h2.2.mono fun e w' h => ?_⟩
    cases e with
    | returned v => exact fin h
    | panicked c => exact h.elim
    | outgrown => obtain ⟨_, _, h⟩ := h; exact h.elim
  · exact ⟨h2.1, h2.2.mono fun v w' h => fin h⟩
  · refine ⟨h2.1, h2.2.mono fun e w' h => ?_⟩
    cases e with
    | returned v => exact fin h
    | panicked c => exact h.elim
    | outgrown => obtain ⟨_, _, h⟩ := h; exact h.elim
  · exact h2.elim
  · exact h2.elim
theorem Ex.mono {R R' : Value → World → Prop} (h : Ex r P N o l w R) (hr : ∀ v w', R v w' → R' v w') : Ex r P N o l w R' := by
  intro a ha
  obtain ⟨h2, h3⟩ := h a ha
  refine ⟨h2, ?_⟩
  revert h3
  generalize (Oper.semAt (WF r).round a.eval o).run P w = res
  intro h3
  have fin : ∀ {a' : Act} {w' : World}, (∃ u, a' = a.put o.dst u ∧ R u w') → ∃ u, a' = a.put o.dst u ∧ R' u w' := by
    rintro a' w' ⟨u, h, hR⟩
    exact ⟨u, h, hr _ _ hR⟩
  unfold Oper.uponIn at h3 ⊢
  split at h3
  · exact fin h3
  · exact fin h3
  · exact fin h3
  · refine ⟨h3.1, h3.2.mono fun e w' h => ?_⟩
    cases e with
    | returned v => exact fin h
    | panicked c => exact h
    | outgrown => exact h
  · exact ⟨h3.1, h3.2.mono fun v w' h => fin h⟩
  · refine ⟨h3.1, h3.2.mono fun e w' h => ?_⟩
    cases e with
    | returned v => exact fin h
    | panicked c => exact h
    | outgrown => exact h
  · exact h3
  · exact h3
/-- one operation with a destination -/
theorem st {d : Nat} {R : Value → World → Prop} (hd : o.dst = some d) (hN : Nat.blt d N.n = true) (hg : gd l ops o = some true) (hx : Ex r P N o l w R)
    (next : ∀ v w', R v w' → Wl r P N ops rest Q ((d, v) :: l) w') : Wl r P N ops (o :: rest) Q l w := by
  intro a ha
  unfold wpListIn
  rw [if_pos (by rw [wanted_of ha hg])]
  exact ex_wp hx ha fun v w' hR => by rw [hd]; exact next v w' hR _ (ha.put hN v)
/-- one operation without a destination -/
theorem st0 {R : Value → World → Prop} (hd : o.dst = none) (hg : gd l ops o = some true) (hx : Ex r P N o l w R)
    (next : ∀ v w', R v w' → Wl r P N ops rest Q l w') : Wl r P N ops (o :: rest) Q l w := by
  intro a ha
  unfold wpListIn
  rw [if_pos (by rw [wanted_of ha hg])]
  exact ex_wp hx ha fun v w' hR => by rw [hd]; exact next v w' hR _ ha
/-- an operation that yields a known value and leaves the world -/
theorem sv {d : Nat} {v : Value} (hd : o.dst = some d) (hN : Nat.blt d N.n = true) (hg : gd l ops o = some true) (hx : Ex r P N o l w (Dv v w))
    (next : Wl r P N ops rest Q ((d, v) :: l) w) : Wl r P N ops (o :: rest) Q l w :=
  st hd hN hg hx fun v' w' ⟨h1, h2⟩ => by subst h1; subst h2; exact next
/-- a test: two ways -/
theorem sv_if {d : Nat} {p : Prop} [Decidable p] (hd : o.dst = some d) (hN : Nat.blt d N.n = true) (hg : gd l ops o = some true) (hx : Ex r P N o l w (Dv (.bool (decide p)) w))
    (h1 : p → Wl r P N ops rest Q ((d, .bool true) :: l) w) (h0 : ¬ p → Wl r P N ops rest Q ((d, .bool false) :: l) w) : Wl r P N ops (o :: rest) Q l w := by
  by_cases h : p
  · refine sv hd hN hg hx ?_; rw [decide_eq_true h]; exact h1 h
  · refine sv hd hN hg hx ?_; rw [decide_eq_false h]; exact h0 h
/-- an operation that is passed over -/
theorem sk {d : Nat} (hd : o.dst = some d) (hN : Nat.blt d N.n = true) (hg : gd l ops o = some false) (next : Wl r P N ops rest Q ((d, undef) :: l) w) : Wl r P N ops (o :: rest) Q l w := by
  intro a ha
  unfold wpListIn
  rw [if_neg (by rw [wanted_of ha hg]; simp)]
  refine ⟨fun _ _ => trivial, ?_⟩
  rw [hd]
  exact next _ (ha.put hN undef)
theorem sk0 (hd : o.dst = none) (hg : gd l ops o = some false) (next : Wl r P N ops rest Q l w) : Wl r P N ops (o :: rest) Q l w := by
  intro a ha
  unfold wpListIn
  rw [if_neg (by rw [wanted_of ha hg]; simp)]
  refine ⟨fun _ _ => trivial, ?_⟩
  rw [hd]
  exact next _ ha

/-! ### the kinds -/
theorem ex_of {R : Value → World → Prop} (hd : ∀ c, o.op ≠ .defer c) (h : ∀ a, Of N l a → ∃ v w', (execOp a.eval o).run P w = .ok (.value v) w' ∧ R v w') : Ex r P N o l w R := by
  intro a ha
  refine ⟨fun _ _ => trivial, ?_⟩
  rw [Oper.semAt_eq _ _ _ hd]
  obtain ⟨v, w', h1, h2⟩ := h a ha
  rw [h1]
  exact ⟨v, rfl, h2⟩
theorem ex_skip {R : Value → World → Prop} (hd : ∀ c, o.op ≠ .defer c) (h : ∀ a, Of N l a → ∃ w', (execOp a.eval o).run P w = .ok .skip w' ∧ R undef w') : Ex r P N o l w R := by
  intro a ha
  refine ⟨fun _ _ => trivial, ?_⟩
  rw [Oper.semAt_eq _ _ _ hd]
  obtain ⟨w', h1, h2⟩ := h a ha
  rw [h1]
  exact ⟨undef, rfl, h2⟩

theorem ex_move {x : Operand} {v : Value} (ho : o.op = .move x) (hx : ev l x = some v) : Ex r P N o l w (Dv v w) :=
  ex_of (by simp [ho]) fun a ha => ⟨v, w, by simp [execOp, ho, ha.ev hx], rfl, rfl⟩
theorem ex_assign {x : Operand} {v : Value} (ho : o.op = .assign x) (hx : ev l x = some v) : Ex r P N o l w (Dv v w) :=
  ex_of (by simp [ho]) fun a ha => ⟨v, w, by simp [execOp, ho, ha.ev hx], rfl, rfl⟩
theorem ex_pick_t {c x y : Operand} {v : Value} (ho : o.op = .pick c x y) (hc : ev l c = some (.bool true)) (hx : ev l x = some v) : Ex r P N o l w (Dv v w) :=
  ex_of (by simp [ho]) fun a ha => ⟨v, w, by simp [execOp, ho, ha.ev hx, ha.ev hc, asBool], rfl, rfl⟩
theorem ex_pick_f {c x y : Operand} {v : Value} (ho : o.op = .pick c x y) (hc : ev l c = some (.bool false)) (hx : ev l y = some v) : Ex r P N o l w (Dv v w) :=
  ex_of (by simp [ho]) fun a ha => ⟨v, w, by simp [execOp, ho, ha.ev hx, ha.ev hc, asBool], rfl, rfl⟩
theorem ex_nil {x : Operand} {p : Addr} (ho : o.op = .nilCheck x) (hx : ev l x = some (.pointer (some p))) : Ex r P N o l w (Dv (.pointer (some p)) w) :=
  ex_of (by simp [ho]) fun a ha => ⟨_, w, by simp [execOp, ho, ha.ev hx], rfl, rfl⟩

/-- field i of the struct type s lies at the offset off (and has cells) -/
def FldAt (P : Program) (s i off : Nat) : Prop := ∃ fs f, P.underlying s = some (.struct fs) ∧ fs[i]? = some f ∧ f.offset = off ∧ ∃ n, (P.info? f.type).map (·.size) = some (n + 1)
theorem ex_fieldAddr {s i off b oo : Nat} {x : Operand} (hf : FldAt P s i off) (ho : o.op = .fieldAddr s x i) (hx : ev l x = some (.pointer (some ⟨b, oo, none⟩))) : Ex r P N o l w (Dv (.pointer (some ⟨b, oo + off, none⟩)) w) := by
  obtain ⟨fs, f, h1, h2, rfl, n, h3⟩ := hf
  refine ex_of (by simp [ho]) fun a ha => ⟨_, w, ?_, rfl, rfl⟩
  obtain ⟨i', hi, hs⟩ := Option.map_eq_some_iff.1 h3
  simp [execOp, ho, ha.ev hx, Instr.fieldAt, run_underlying h1, h2, Instr.sureAddr, fieldPlace, sizeOf, typeInfo, hi, hs]
  unfold Addr.add
  split
  · rename_i e; simp
  · rfl

def SizeIs (P : Program) (e size : Nat) : Prop := (P.info? e).map (·.size) = some size
theorem run_sizeIs {e size : Nat} (h : SizeIs P e size) (w : World) : (sizeOf e).run P w = .ok size w := by
  obtain ⟨i', hi, hs⟩ := Option.map_eq_some_iff.1 h
  simp [sizeOf, typeInfo, hi, hs]
theorem add_lit' (b o n : Nat) : (⟨b, o, none⟩ : Addr).add n = ⟨b, o + n, none⟩ := by
  unfold Addr.add
  split
  · rename_i e; subst e; rfl
  · rfl
/-- the address of element k of a slice of one-cell elements -/
theorem ex_index {t e n c b oo : Nat} {x y : Operand} {k : IntKind} {i : Int} (ht : P.underlying t = some (.slice e)) (he : SizeIs P e 1) (j : Nat) (ho : o.op = .indexAddr t x y)
    (hx : ev l x = some (.slice (some ⟨b, oo, none⟩) n c)) (hy : ev l y = some (.int k i)) (hi : i = (j : Int)) (hj : j < n) : Ex r P N o l w (Dv (.pointer (some ⟨b, oo + j, none⟩)) w) := by
  subst hi
  refine ex_of (by simp [ho]) fun a ha => ⟨_, w, ?_, rfl, rfl⟩
  simp [execOp, ho, ha.ev hx, ha.ev hy, Instr.indexAt, asIntOf, run_underlying ht, run_sizeIs he, hj, add_lit']
/-- the same for elements of 'size' cells -/
theorem ex_indexN {t e size n c b oo : Nat} {x y : Operand} {k : IntKind} {i : Int} (ht : P.underlying t = some (.slice e)) (he : SizeIs P e size) (j : Nat) (ho : o.op = .indexAddr t x y)
    (hx : ev l x = some (.slice (some ⟨b, oo, none⟩) n c)) (hy : ev l y = some (.int k i)) (hi : i = (j : Int)) (hj : j < n) : Ex r P N o l w (Dv (.pointer (some ⟨b, oo + j * size, none⟩)) w) := by
  subst hi
  refine ex_of (by simp [ho]) fun a ha => ⟨_, w, ?_, rfl, rfl⟩
  simp [execOp, ho, ha.ev hx, ha.ev hy, Instr.indexAt, asIntOf, run_underlying ht, run_sizeIs he, hj, add_lit']
/-- the address of element k of an array behind a pointer -/
theorem ex_indexA {t e n b oo : Nat} {x y : Operand} {k : IntKind} {i : Int} (ht : P.underlying t = some (.array n e)) (he : SizeIs P e 1) (j : Nat) (ho : o.op = .indexAddr t x y)
    (hx : ev l x = some (.pointer (some ⟨b, oo, none⟩))) (hy : ev l y = some (.int k i)) (hi : i = (j : Int)) (hj : j < n) : Ex r P N o l w (Dv (.pointer (some ⟨b, oo + j, none⟩)) w) := by
  subst hi
  refine ex_of (by simp [ho]) fun a ha => ⟨_, w, ?_, rfl, rfl⟩
  simp [execOp, ho, ha.ev hx, ha.ev hy, Instr.indexAt, asIntOf, run_underlying ht, run_sizeIs he, hj, add_lit', Instr.sureAddr]

/-- a type of one cell: no struct, no array -/
def One (P : Program) (t : Nat) : Prop := ∃ d, P.underlying t = some d ∧ (∀ fs, d ≠ .struct fs) ∧ ∀ n e, d ≠ .array n e
theorem run_one {t : Nat} (h : One P t) (w : World) : (isAgg t).run P w = .ok false w := by
  obtain ⟨d, h1, h2, h3⟩ := h
  cases d <;> simp [isAgg, run_underlying h1]
  · exact absurd rfl (h3 _ _)
  · exact absurd rfl (h2 _)
theorem ex_load {t b oo : Nat} {x : Operand} {v : Value} (h1 : One P t) (ho : o.op = .load t x) (hx : ev l x = some (.pointer (some ⟨b, oo, none⟩))) (hc : w.cell? ⟨b, oo, none⟩ = some v) : Ex r P N o l w (Dv v w) := by
  refine ex_of (by simp [ho]) fun a ha => ⟨_, w, ?_, rfl, rfl⟩
  simp [execOp, ho, ha.ev hx, Instr.loadAt, Instr.sureAddr, loadVar, run_one h1, hc]
/-- a type of several cells -/
def Agg (P : Program) (t size : Nat) : Prop := (∃ d, P.underlying t = some d ∧ ((∃ fs, d = .struct fs) ∨ ∃ n e, d = .array n e)) ∧ SizeIs P t size
theorem run_agg {t size : Nat} (h : Agg P t size) (w : World) : (isAgg t).run P w = .ok true w := by
  obtain ⟨⟨d, h1, h2⟩, _⟩ := h
  rcases h2 with ⟨fs, rfl⟩ | ⟨n, e, rfl⟩ <;> simp [isAgg, run_underlying h1]
theorem ex_load_agg {t b oo : Nat} {x : Operand} {cs : List Value} (h1 : Agg P t cs.length) (ho : o.op = .load t x) (hx : ev l x = some (.pointer (some ⟨b, oo, none⟩)))
    (hc : ∀ j u, cs[j]? = some u → w.cell? ⟨b, oo + j, none⟩ = some u) : Ex r P N o l w (Dv (.agg cs.toArray) w) := by
  refine ex_of (by simp [ho]) fun a ha => ⟨_, w, ?_, rfl, rfl⟩
  have := run_loadCells_list (P := P) (w := w) ⟨b, oo, none⟩ cs (fun j v hv => by rw [add_lit']; exact hc j v hv)
  simp [execOp, ho, ha.ev hx, Instr.loadAt, Instr.sureAddr, loadVar, run_agg h1, run_sizeIs h1.2, this]
theorem ex_store {t b oo : Nat} {x y : Operand} {v u : Value} (h1 : SizeIs P t 1) (ho : o.op = .store t x y) (hx : ev l x = some (.pointer (some ⟨b, oo, none⟩))) (hy : ev l y = some v) (hv : v.oneCell' = true)
    (hc : w.cell? ⟨b, oo, none⟩ = some u) (hf : w.frozen? ⟨b, oo, none⟩ = false) : Ex r P N o l w (fun _ w' => w' = w.setCell ⟨b, oo, none⟩ v) := by
  refine ex_skip (by simp [ho]) fun a ha => ⟨w.setCell ⟨b, oo, none⟩ v, ?_, rfl⟩
  have hcs : v.cells = #[v] := by cases v <;> first | rfl | simp [Value.oneCell'] at hv
  simp [execOp, ho, ha.ev hx, ha.ev hy, Instr.storeAt, Instr.sureAddr, storeVar, hcs, run_sizeIs h1, storeCells, add_lit', run_store P w _ v _ hv, hc, hf]

/-! numbers -/
theorem i64_in {x : Int} (h1 : -9223372036854775808 ≤ x) (h2 : x < 9223372036854775808) : IntKind.i64.wrap x = x := by
  rw [IntKind.wrap_i64]
  omega
theorem ex_conv {s t : Nat} {x : Operand} {k k' : IntKind} {n : Int} {ds : TypeDesc} (hs : P.underlying s = some ds) (hns : ∀ e, ds ≠ .slice e) (ht : P.underlying t = some (.int k)) (ho : o.op = .convert s t x) (hx : ev l x = some (.int k' n)) {m : Int} (hm : k.wrap n = m) :
    Ex r P N o l w (Dv (.int k m) w) := by
  subst hm
  refine ex_of (by simp [ho]) fun a ha => ⟨_, w, ?_, rfl, rfl⟩
  cases ds <;> simp [execOp, ho, ha.ev hx, convert, run_underlying hs, run_underlying ht, Conv.intToInt]
theorem ex_add {t t' : Nat} {x y : Operand} {k : IntKind} {m n z : Int} (ho : o.op = .binOp .add t x y t') (hx : ev l x = some (.int k m)) (hy : ev l y = some (.int k n)) (hz : k.wrap (m + n) = z) : Ex r P N o l w (Dv (.int k z) w) := by
  subst hz
  exact ex_of (by simp [ho]) fun a ha => ⟨_, w, by simp [execOp, ho, ha.ev hx, ha.ev hy, eqGuard, binOp, Op.intArith], rfl, rfl⟩
theorem ex_sub {t t' : Nat} {x y : Operand} {k : IntKind} {m n z : Int} (ho : o.op = .binOp .sub t x y t') (hx : ev l x = some (.int k m)) (hy : ev l y = some (.int k n)) (hz : k.wrap (m - n) = z) : Ex r P N o l w (Dv (.int k z) w) := by
  subst hz
  exact ex_of (by simp [ho]) fun a ha => ⟨_, w, by simp [execOp, ho, ha.ev hx, ha.ev hy, eqGuard, binOp, Op.intArith], rfl, rfl⟩
theorem ex_mul {t t' : Nat} {x y : Operand} {k : IntKind} {m n z : Int} (ho : o.op = .binOp .mul t x y t') (hx : ev l x = some (.int k m)) (hy : ev l y = some (.int k n)) (hz : k.wrap (m * n) = z) : Ex r P N o l w (Dv (.int k z) w) := by
  subst hz
  exact ex_of (by simp [ho]) fun a ha => ⟨_, w, by simp [execOp, ho, ha.ev hx, ha.ev hy, eqGuard, binOp, Op.intArith], rfl, rfl⟩
theorem ex_rem {t t' : Nat} {x y : Operand} {k : IntKind} {m n z : Int} (ho : o.op = .binOp .rem t x y t') (hx : ev l x = some (.int k m)) (hy : ev l y = some (.int k n)) (h0 : n ≠ 0) (hz : m.tmod n = z) : Ex r P N o l w (Dv (.int k z) w) := by
  subst hz
  exact ex_of (by simp [ho]) fun a ha => ⟨_, w, by simp [execOp, ho, ha.ev hx, ha.ev hy, eqGuard, binOp, Op.intDiv, h0], rfl, rfl⟩
theorem ex_bits {t t' : Nat} {op : BinOp} {x y : Operand} {k : IntKind} {m n z : Int} (ho : o.op = .binOp op t x y t') (hop : op = .xor ∨ op = .and ∨ op = .or) (hx : ev l x = some (.int k m)) (hy : ev l y = some (.int k n)) (hz : bits op k m n = z) : Ex r P N o l w (Dv (.int k z) w) := by
  subst hz
  refine ex_of (by simp [ho]) fun a ha => ⟨_, w, ?_, rfl, rfl⟩
  rcases hop with rfl | rfl | rfl <;> simp [execOp, ho, ha.ev hx, ha.ev hy, eqGuard, binOp, Op.intBits, bits]
theorem ex_shl {t t' : Nat} {x y : Operand} {k k' : IntKind} {m n z : Int} (ho : o.op = .binOp .shl t x y t') (hx : ev l x = some (.int k m)) (hy : ev l y = some (.int k' n)) (h0 : 0 ≤ n) (hz : k.wrap (m * 2 ^ (min n.toNat k.bits)) = z) : Ex r P N o l w (Dv (.int k z) w) := by
  subst hz
  exact ex_of (by simp [ho]) fun a ha => ⟨_, w, by simp [execOp, ho, ha.ev hx, ha.ev hy, eqGuard, binOp, Op.shift, show ¬ n < 0 by omega], rfl, rfl⟩
theorem ex_shr {t t' : Nat} {x y : Operand} {k k' : IntKind} {m n z : Int} (ho : o.op = .binOp .shr t x y t') (hx : ev l x = some (.int k m)) (hy : ev l y = some (.int k' n)) (h0 : 0 ≤ n) (hz : m.fdiv (2 ^ (min n.toNat k.bits)) = z) : Ex r P N o l w (Dv (.int k z) w) := by
  subst hz
  exact ex_of (by simp [ho]) fun a ha => ⟨_, w, by simp [execOp, ho, ha.ev hx, ha.ev hy, eqGuard, binOp, Op.shift, show ¬ n < 0 by omega], rfl, rfl⟩
def cmpOf : BinOp → Int → Int → Option Bool
  | .eql, x, y => some (decide (x = y))
  | .neq, x, y => some (decide (x ≠ y))
  | .lss, x, y => some (decide (x < y))
  | .leq, x, y => some (decide (x ≤ y))
  | .gtr, x, y => some (decide (x > y))
  | .geq, x, y => some (decide (x ≥ y))
  | _, _, _ => none
theorem ex_cmp {t t' : Nat} {op : BinOp} {x y : Operand} {k : IntKind} {m n : Int} {z : Bool} (ho : o.op = .binOp op t x y t') (hx : ev l x = some (.int k m)) (hy : ev l y = some (.int k n)) (hz : cmpOf op m n = some z) : Ex r P N o l w (Dv (.bool z) w) := by
  refine ex_of (by simp [ho]) fun a ha => ⟨_, w, ?_, rfl, rfl⟩
  cases op <;> simp only [cmpOf, Option.some.injEq, reduceCtorEq] at hz <;> subst hz <;> simp [execOp, ho, ha.ev hx, ha.ev hy, eqGuard, binOp, Op.intCmp] <;> first | rfl | (rw [Bool.eq_iff_iff]; simp)
theorem ex_neg {t : Nat} {x : Operand} {k : IntKind} {n z : Int} (ho : o.op = .unOp .neg t x) (hx : ev l x = some (.int k n)) (hz : k.wrap (0 - n) = z) : Ex r P N o l w (Dv (.int k z) w) := by
  subst hz
  exact ex_of (by simp [ho]) fun a ha => ⟨_, w, by simp [execOp, ho, ha.ev hx, Op.unary, Op.intArith], rfl, rfl⟩
theorem ex_not {t : Nat} {x : Operand} {b : Bool} (ho : o.op = .unOp .not t x) (hx : ev l x = some (.bool b)) : Ex r P N o l w (Dv (.bool !b) w) :=
  ex_of (by simp [ho]) fun a ha => ⟨_, w, by simp [execOp, ho, ha.ev hx, Op.unary], rfl, rfl⟩
theorem ex_len {t n c : Nat} {A : Option Addr} {x : Operand} {e : TypeId} (ht : P.underlying t = some (.slice e)) (ho : o.op = .call { callee := .builtin .len, args := #[x], argTypes := #[t] }) (hx : ev l x = some (.slice A n c)) : Ex r P N o l w (Dv (.int .i64 n) w) :=
  ex_of (by simp [ho]) fun a ha => ⟨_, w, by simp [execOp, ho, ha.ev hx, resolve, invoke, builtin, Builtin.len_, run_underlying ht, goInt], rfl, rfl⟩
theorem ex_min {x y : Operand} {ts : Array TypeId} {k : IntKind} {m n z : Int} (ho : o.op = .call { callee := .builtin .min, args := #[x, y], argTypes := ts }) (hx : ev l x = some (.int k m)) (hy : ev l y = some (.int k n)) (hz : min m n = z) : Ex r P N o l w (Dv (.int k z) w) := by
  subst hz
  refine ex_of (by simp [ho]) fun a ha => ⟨_, w, ?_, rfl, rfl⟩
  have : (if n < m then n else m) = min m n := by split <;> omega
  simp [execOp, ho, ha.ev hx, ha.ev hy, resolve, invoke, builtin, Builtin.min_, Builtin.min2, this]
theorem ex_max {x y : Operand} {ts : Array TypeId} {k : IntKind} {m n z : Int} (ho : o.op = .call { callee := .builtin .max, args := #[x, y], argTypes := ts }) (hx : ev l x = some (.int k m)) (hy : ev l y = some (.int k n)) (hz : max m n = z) : Ex r P N o l w (Dv (.int k z) w) := by
  subst hz
  refine ex_of (by simp [ho]) fun a ha => ⟨_, w, ?_, rfl, rfl⟩
  have : (if m < n then n else m) = max m n := by split <;> omega
  simp [execOp, ho, ha.ev hx, ha.ev hy, resolve, invoke, builtin, Builtin.max_, Builtin.max2, this]
theorem ex_extract {i : Nat} {x : Operand} {vs : List Value} {v : Value} (ho : o.op = .extract x i) (hx : ev l x = some (.tuple vs.toArray)) (hv : vs[i]? = some v) : Ex r P N o l w (Dv v w) := by
  refine ex_of (by simp [ho]) fun a ha => ⟨_, w, ?_, rfl, rfl⟩
  have : vs.toArray[i]? = some v := by simpa using hv
  simp [execOp, ho, ha.ev hx, Instr.extract, this]
theorem ex_makeFunc {fn : Fn} {first cap : Array Operand} {vs us : List Value} (ho : o.op = .makeFunc fn first cap) (h1 : evs l first.toList = some vs) (h2 : evs l cap.toList = some us) : Ex r P N o l w (Dv (.func fn vs.toArray us.toArray) w) := by
  refine ex_of (by simp [ho]) fun a ha => ⟨_, w, ?_, rfl, rfl⟩
  have e1 : first.map a.eval = vs.toArray := by rw [← ha.evs h1, ← Array.toList_map]
  have e2 : cap.map a.eval = us.toArray := by rw [← ha.evs h2, ← Array.toList_map]
  simp [execOp, ho, Instr.makeFunc, e1, e2]
def Callable (P : Program) (f : FuncId) : Prop := ∃ fn, P.funcs[f]? = some fn ∧ fn.name ≠ "runtime.NumGoroutine" ∧ fn.body ≠ none
/-- a call of a function with a body, by its contract -/
theorem ex_call {f : FuncId} {args : Array Operand} {ts : Array TypeId} {vs : List Value} {R : Value → World → Prop} (hcl : Callable P f)
    (ho : o.op = .call { callee := .value (.func f), args := args, argTypes := ts }) (hx : evs l args.toList = some vs) (h : Ret P f vs w R) : Ex r P N o l w R := by
  intro a ha
  refine ⟨fun _ _ => trivial, ?_⟩
  rw [Oper.semAt_eq _ _ _ (by simp [ho])]
  obtain ⟨fn, hf, hng, hb⟩ := hcl
  have hargs : args.map a.eval = vs.toArray := by rw [← ha.evs hx, ← Array.toList_map]
  have hrun : (execOp a.eval o).run P w = .ok (.enter f vs.toArray) w := by
    simp [execOp, ho, resolve, Act.eval, Deferred.ofValue, invoke, callFunc, hargs, hf, hng, hb]
  rw [hrun]
  refine ⟨fun h => by simp [WF] at h, ?_⟩
  have h' : CallsIn (WF r) 0 P f vs.toArray w fun e w' => ∃ v, e = .returned v ∧ R v w' := by
    cases r with
    | none => exact callsIn_wide.2 h
    | some k => exact CallsIn.inRound (F := Fence.wide) k (callsIn_wide.2 h)
  refine h'.mono fun e w' ⟨v, he, hR⟩ => ?_
  subst he
  exact ⟨v, rfl, hR⟩
end
end Go.Proofs.Ytcgcklfbnmaodaa

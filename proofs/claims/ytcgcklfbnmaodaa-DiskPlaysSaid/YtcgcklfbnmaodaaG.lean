/- A range over a function, in the words of these walks: the iterator writes memory of its own between two rounds; every round goes on. -/
import Derived.Test.YtcgcklfbnmaodaaA
import Derived.RangeFuncNested
import Derived.RangeFuncBound
import Derived.RangeFuncCalls
import Derived.RangeFuncLeaves
import Derived.Laws.Tables
namespace Go.Proofs.Ytcgcklfbnmaodaa
open Go Go.RowKit

/-- the mark of a range over a function among an activation's deferred calls -/
def markOf (D : Nat) : Deferred := { target := .collected D, args := #[] }
def yieldOf (l : Nat) : Value := .func (.yield l) #[] #[]
/-- one round: yield is called with x -/
def Yld (P : Program) (l : Nat) (x : Value) (w : World) (R : World → Prop) : Prop := YieldAt (WF none) 0 P l #[x] w fun e w' => e = .returned (.bool true) ∧ R w'

/-- an iterator's contract: it hands out ys, in that order; St: what it does between two rounds; Rk: what a round must keep -/
def Seq {α : Type} (P : Program) (g : FuncId) (lb : List Value) (enc : α → Value) (ys : List α) (St Rk : World → World → Prop) (w : World) : Prop :=
  ∀ (l : Nat) (J : List α → World → Prop) (W : World), Ext w W → (∀ s A B, J s A → St A B → J s B) →
    (∀ pre x W1, pre ++ [x] <+: ys → J pre W1 → Yld P l (enc x) W1 fun W' => J (pre ++ [x]) W' ∧ Rk W1 W') → J [] W →
    Ret P g (yieldOf l :: lb) W fun _ W' => J ys W'

section
variable {r : Option Nat} {P : Program} {N : Sz} {l : Env} {w : World} {o : Oper}

/-- a smaller environment is enough -/
theorem w_sub {c : Code} {Q : Exit → Act → World → Prop} (m : Env) (hs : Sub m l) (h : W r P N c Q m w) : W r P N c Q l w := fun a ha => h a (ha.sub hs)
/-- a call of yield -/
theorem ex_yield {k : Nat} {x : Operand} {ts : Array TypeId} {t : Nat} {v : Value} {R : World → Prop} (ho : o.op = .call { callee := .value (.tmp t), args := #[x], argTypes := ts })
    (ht : lk l t = some (yieldOf k)) (hx : ev l x = some v) (h : Yld P k v w R) : Ex none P N o l w (fun v' w' => v' = .bool true ∧ R w') := by
  intro a ha
  refine ⟨fun _ _ => trivial, ?_⟩
  rw [Oper.semAt_eq _ _ _ (by simp [ho])]
  obtain ⟨fn, tmps, assign, body, hy, hR⟩ := h
  have e1 : a.eval (.tmp t) = yieldOf k := ha.ev (x := .tmp t) ht
  have e2 : a.eval x = v := ha.ev hx
  have hrun : (execOp a.eval o).run P w = .ok (.round k fn tmps assign body) w := by
    simp [execOp, ho, resolve, e1, e2, yieldOf, Deferred.ofValue, invoke, callFunc, hy]
  rw [hrun]
  refine ⟨fun h => by simp [WF] at h, ?_⟩
  refine RoundIn.mono (n := 0) hR fun e w' ⟨he, h'⟩ => ?_
  subst he
  exact ⟨_, rfl, rfl, h'⟩

/-- a call of a closure -/
theorem ex_callv {f : FuncId} {args : Array Operand} {ts : Array TypeId} {t : Nat} {vs lb : List Value} {R : Value → World → Prop} (hcl : Callable P f)
    (ho : o.op = .call { callee := .value (.tmp t), args := args, argTypes := ts }) (ht : lk l t = some (.func (.func f) #[] lb.toArray)) (hx : evs l args.toList = some vs) (h : Ret P f (vs ++ lb) w R) : Ex r P N o l w R := by
  intro a ha
  refine ⟨fun _ _ => trivial, ?_⟩
  rw [Oper.semAt_eq _ _ _ (by simp [ho])]
  obtain ⟨fn, hf, hng, hb⟩ := hcl
  have e1 : a.eval (.tmp t) = .func (.func f) #[] lb.toArray := ha.ev (x := .tmp t) ht
  have hargs : args.map a.eval = vs.toArray := by rw [← ha.evs hx, ← Array.toList_map]
  have hrun : (execOp a.eval o).run P w = .ok (.enter f (vs ++ lb).toArray) w := by
    simp [execOp, ho, resolve, e1, Deferred.ofValue, invoke, callFunc, hargs, hf, hng, hb]
  rw [hrun]
  refine ⟨fun h => by simp [WF] at h, ?_⟩
  have h' : CallsIn (WF r) 0 P f (vs ++ lb).toArray w fun e w' => ∃ v, e = .returned v ∧ R v w' := by
    cases r with
    | none => exact callsIn_wide.2 h
    | some k => exact CallsIn.inRound (F := Fence.wide) k (callsIn_wide.2 h)
  refine h'.mono fun e w' ⟨v, he, hR⟩ => ?_
  subst he
  exact ⟨v, rfl, hR⟩
/-- a store of a whole struct -/
theorem ex_store_all {t b n T : Nat} {cs cs' : List Value} {x y : Operand} (h1 : SizeIs P t n) (ho : o.op = .store t x y) (hx : ev l x = some (.pointer (some ⟨b, 0, none⟩))) (hy : ev l y = some (.agg cs'.toArray)) (hv : ∀ v ∈ cs', v.oneCell' = true)
    (hb : Blk w b T cs) (hl : cs'.length = cs.length) (hn : cs'.length = n) : Ex r P N o l w (fun _ w' => Keep (fun k => k ≠ b) w w' ∧ Blk w' b T cs' ∧ w'.heap.size = w.heap.size) := by
  refine ex_skip (by simp [ho]) fun a ha => ⟨w.setRow b cs'.toArray, ?_, ⟨rfl, rfl, rfl, by simp [World.setRow], fun k _ hk => ?_⟩, ?_, by simp [World.setRow]⟩
  · have hst := run_storeCells_from (P := P) b T cs' 0 cs.toArray w hb (by simp [hl]) hv
    simp only [List.take_zero, List.nil_append] at hst
    simp [execOp, ho, ha.ev hx, ha.ev hy, Instr.storeAt, Instr.sureAddr, storeVar, Value.cells, run_sizeIs h1, hn, hst]
  · simp only [World.setRow, Array.getElem?_modify]
    rw [if_neg (fun e => hk e.symm)]
  · unfold Blk at hb ⊢
    simp [World.setRow, Array.getElem?_modify, hb]
theorem ex_strne {t t' : Nat} {as bs : List UInt8} {x y : Operand} (ho : o.op = .binOp .neq t x y t') (hx : ev l x = some (.string ⟨as.toArray⟩)) (hy : ev l y = some (.string ⟨bs.toArray⟩)) : Ex r P N o l w (Dv (.bool (decide (as ≠ bs))) w) := by
  refine ex_of (by simp [ho]) fun a ha => ⟨_, w, ?_, rfl, rfl⟩
  simp [execOp, ho, ha.ev hx, ha.ev hy, eqGuard, binOp, Op.stringOp]
  rw [Bool.eq_iff_iff]; simp
/-- a cut of a slice that is somewhere -/
theorem ex_slice_in {t e size n c b oo : Nat} {x : Operand} {xl xh : Option Operand} (ht : P.underlying t = some (.slice e)) (he : SizeIs P e size) (lo hi : Nat) (ho : o.op = .slice t x xl xh none)
    (hx : ev l x = some (.slice (some ⟨b, oo, none⟩) n c)) (hl : (xl = none ∧ lo = 0) ∨ ∃ y k i, xl = some y ∧ ev l y = some (.int k i) ∧ i = (lo : Int)) (hh : (xh = none ∧ hi = n) ∨ ∃ y k i, xh = some y ∧ ev l y = some (.int k i) ∧ i = (hi : Int))
    (h1 : lo ≤ hi) (h2 : hi ≤ c) (h3 : lo < c) : Ex r P N o l w (Dv (.slice (some ⟨b, oo + lo * size, none⟩) (hi - lo) (c - lo)) w) := by
  have := ex_slice (r := r) (N := N) (w := w) ht he lo hi ho hx hl hh h1 h2
  rw [if_neg (by omega), Option.map_some, add_lit'] at this
  exact this
/-- a function that holds a range over a function -/
theorem ret_ofM {f : FuncId} {fn : Func} {c : Code} {args : List Value} {R : Value → World → Prop} (hf : P.funcs[f]? = some fn) (hb : fn.body = some c) (hN : Nat.ble args.length fn.ntmps = true)
    (h : W none P ⟨fn.ntmps, []⟩ c (bodyPostM (WF none) 0 P fn fun e w' => ∃ v, e = .returned v ∧ R v w') (envAt 0 args) w) : Ret P f args w R := by
  unfold Ret
  rw [← callsIn_wide (n := 0)]
  refine callsIn_of_wp_marks hf hb trivial (h _ ?_) rfl
  exact Of.start args fn.ntmps _ hN fun t v hv => by simpa using (lk_envAt args 0 t v hv).2
theorem qeM_ret1 {n D : Nat} {fn : Func} {R : Value → World → Prop} {t : Nat} {v : Value} (h0 : fn.results = #[.tmp t]) (hv : lk l t = some v) (hD : w.heap[D]? = some (.deferred (some []))) (h : R v (w.putObj D (.deferred none))) :
    QE ⟨n, [markOf D]⟩ (bodyPostM (WF none) 0 P fn fun e w' => ∃ v, e = .returned v ∧ R v w') .ret l w := fun a ha => by
  have hd : a.defers = [markOf D] := ha.defers
  show LeavesInM _ _ _ _ _ _ a.defers .returning w
  rw [hd]
  refine ⟨by simp, .inl ⟨D, _, rfl, run_takeDeferred hD, ?_⟩⟩
  exact ⟨v, by simp [results, h0, ha.at_ t v hv], _, rfl, h⟩
theorem qeM_ret2 {n D : Nat} {fn : Func} {R : Value → World → Prop} {t u : Nat} {v1 v2 : Value} (h0 : fn.results = #[.tmp t, .tmp u]) (hv1 : lk l t = some v1) (hv2 : lk l u = some v2) (hD : w.heap[D]? = some (.deferred (some []))) (h : R (.tuple #[v1, v2]) (w.putObj D (.deferred none))) :
    QE ⟨n, [markOf D]⟩ (bodyPostM (WF none) 0 P fn fun e w' => ∃ v, e = .returned v ∧ R v w') .ret l w := fun a ha => by
  have hd : a.defers = [markOf D] := ha.defers
  show LeavesInM _ _ _ _ _ _ a.defers .returning w
  rw [hd]
  refine ⟨by simp, .inl ⟨D, _, rfl, run_takeDeferred hD, ?_⟩⟩
  exact ⟨_, by simp [results, h0, ha.at_ t v1 hv1, ha.at_ u v2 hv2], _, rfl, h⟩
/-- a way out ahead of the range -/
theorem qeM_plain {n : Nat} {fn : Func} {R : Ending → World → Prop} (h : QE ⟨n, []⟩ (bodyPost P fn R) .ret l w) : QE ⟨n, []⟩ (bodyPostM (WF none) 0 P fn R) .ret l w := fun a ha => by
  have hd : a.defers = [] := ha.defers
  obtain ⟨_, h2⟩ := h a ha
  show LeavesInM _ _ _ _ _ _ a.defers .returning w
  rw [hd]
  exact h2
end

theorem Keep.n {S : Nat → Prop} {w w' : World} (k : Keep S w w') : ∃ n, n = w'.heap.size ∧ w.heap.size ≤ n := ⟨_, rfl, k.size⟩
/-- whatever is no cells and lies from B on lies as it lay -/
def Nc (B : Nat) (w w' : World) : Prop := ∀ (k : Nat) (o : Obj), B ≤ k → w.heap[k]? = some o → o.isCells = false → w'.heap[k]? = some o
theorem Keep.nc {S : Nat → Prop} {w w' : World} (h : Keep S w w') (B : Nat) (hS : ∀ (k : Nat) (o : Obj), w.heap[k]? = some o → o.isCells = false → S k) : Nc B w w' :=
  fun k o _ hk ho => (h.block k (Array.getElem?_eq_some_iff.1 hk).1 (hS k o hk ho)).trans hk
theorem Nc.trans {B : Nat} {a b c : World} (h : Nc B a b) (k : Nc B b c) : Nc B a c := fun i o hB hi ho => k i o hB (h i o hB hi ho) ho
theorem Blk.nc {w : World} {b t : Nat} {cs : List Value} (h : Blk w b t cs) {k : Nat} {o : Obj} (hk : w.heap[k]? = some o) (ho : o.isCells = false) : k ≠ b := fun e => by
  subst e
  unfold Blk at h
  rw [h] at hk
  cases hk
  cases ho
theorem Own.nc {w : World} {lo size n c : Nat} {e : TypeId} {A : Option Addr} {xs : List Value} (h : Own w lo e size A n c xs) {k : Nat} {ob : Obj} (hk : w.heap[k]? = some ob) (ho : ob.isCells = false) : ∀ o, A ≠ some ⟨k, o, none⟩ := fun o hA => by
  rcases h.2 with ⟨hv, h0⟩ | ⟨g, cap, cur, hv, hb, hgg, rest⟩
  · injection hv with h1
    rw [h1] at hA
    cases hA
  · injection hv with h1
    rw [h1] at hA
    cases hA
    rw [hgg] at hk
    cases hk
    cases ho
theorem Keep.putObj {S : Nat → Prop} (w : World) (k : Nat) (o : Obj) (hS : ¬ S k) : Keep S w (w.putObj k o) :=
  ⟨rfl, rfl, rfl, by simp [World.putObj], fun j _ hj => World.putObj_heap_other (by rintro rfl; exact hS hj)⟩

/-- THE RANGE -/
theorem w_range {α : Type} {P : Program} {n : Nat} {Q : Exit → Act → World → Prop} {l : Env} {w : World} {g : Operand} {p : Tmp} {assign body : Code} {gf : FuncId} {lb : List Value} {enc : α → Value} {ys : List α} {St Rk : World → World → Prop}
    (hg : ev l g = some (.func (.func gf) #[] lb.toArray)) (hcl : Callable P gf) (hseq : Seq P gf lb enc ys St Rk w) (hp : Nat.blt p n = true)
    (hSt : ∀ A B, St A B → ∀ (k : Nat) (o : Obj), A.heap[k]? = some o → o.isCells = false → B.heap[k]? = some o)
    (hRt : ∀ A B C, Rk A B → Rk B C → Rk A C) (hRb : ∀ (W : World) (k : Nat) (o o' : Obj), w.heap.size ≤ k → W.heap[k]? = some o → o.isCells = false → Rk W (W.putObj k o'))
    (I : List α → World → Prop) (hI : ∀ s A B, I s A → St A B → I s B) (hIp : ∀ s (W : World) (k : Nat) (o o' : Obj), I s W → w.heap.size ≤ k → W.heap[k]? = some o → o.isCells = false → I s (W.putObj k o'))
    (h0 : ∀ o1 o2 : Obj, I [] ((w.alloc o1).alloc o2)) (E : α → Env)
    (hassign : ∀ (k : Nat) (x : α) (W1 : World), W (some k) P ⟨n, []⟩ assign (Exit.then (fun a w'' => ∃ j : Unit, Of ⟨n, []⟩ ((fun _ : Unit => E x) j) a ∧ w'' = W1) (fun _ _ _ => False)) ((p, enc x) :: l) W1)
    (hbody : ∀ (k : Nat) (pre : List α) (x : α) (W1 : World), pre ++ [x] <+: ys → I pre W1 →
      W (some k) P ⟨n, []⟩ body (Exit.then (fun a w'' => ∃ j : Unit, Of ⟨n, []⟩ ((fun _ : Unit => []) j) a ∧ (Nc w.heap.size W1 w'' ∧ Rk W1 w'' ∧ I (pre ++ [x]) w'')) (fun _ _ _ => False)) (E x) W1)
    (hdone : ∀ (D : Nat) (W' : World), w.heap.size ≤ D → I ys W' → W'.heap[D]? = some (.deferred (some [])) → QE ⟨n, [markOf D]⟩ Q .normal l W') :
    W none P ⟨n, []⟩ (.rangeFunc g #[p] assign body) Q l w := by
  intro a ha
  refine wpIn_rangeFunc ?_
  intro fn hfn
  have hge : a.eval g = .func (.func gf) #[] lb.toArray := ha.ev hg
  have had : a.defers = [] := ha.defers
  obtain ⟨rec, hrec⟩ : ∃ rec : LoopState → Option Code → Loop, rec = fun st pe => { state := st, pending := pe, fn, tmps := a.tmps, params := #[p], assign, body, defers := w.heap.size } := ⟨_, rfl⟩
  obtain ⟨W1, hW1⟩ : ∃ W1, (w.alloc (.deferred (some []))).alloc (.loop (rec .ready none)) = W1 := ⟨_, rfl⟩
  have hL1 : W1.heap[w.heap.size + 1]? = some (.loop (rec .ready none)) := by
    rw [← hW1]; have := World.alloc_heap_new (w.alloc (.deferred (some []))) (.loop (rec .ready none)); rwa [World.size_alloc] at this
  have hK1 : W1.heap[w.heap.size]? = some (.deferred (some [])) := by
    rw [← hW1]; exact (Below.heap_alloc _ _ _ (by simp)).trans (World.alloc_heap_new w _)
  have hI1 : I [] W1 := by rw [← hW1]; exact h0 _ _
  have hb1 : Ext w W1 := by rw [← hW1]; exact (Keep.alloc w _).trans (Keep.alloc _ _) fun _ _ _ => trivial
  obtain ⟨gfn, hgf, hng, hgb⟩ := hcl
  refine ⟨w.heap.size + 1, [{ target := .collected w.heap.size, args := #[] }], W1, { target := .fn (.func gf) lb.toArray, args := #[.func (.yield (w.heap.size + 1)) #[] #[]] }, W1, gf,
    (yieldOf (w.heap.size + 1) :: lb).toArray, W1, ?_, ?_, ?_, ?_, fun h => by simp [WF] at h, ?_⟩
  · rw [← hW1, hrec]; exact run_enterLoop_outer _ _ _ _ _
  · simp only [resolve, hge]
    simp [go_sem]
  · intro f' hf'; trivial
  · simp [invoke, callFunc, hgf, hng, hgb, yieldOf, go_sem]
  · have hret := hseq (w.heap.size + 1)
      (fun pre W => I pre W ∧ W.heap[w.heap.size + 1]? = some (.loop (rec .ready none)) ∧ W.heap[w.heap.size]? = some (.deferred (some [])))
      W1 hb1 (fun s A B hs hst => ⟨hI s A B hs.1 hst, hSt A B hst _ _ hs.2.1 rfl, hSt A B hst _ _ hs.2.2 rfl⟩) ?_ ⟨hI1, hL1, hK1⟩
    · have hret' : CallsIn (WF none) 0 P gf (yieldOf (w.heap.size + 1) :: lb).toArray W1 _ := callsIn_wide.2 hret
      refine hret'.mono ?_
      rintro e W2 ⟨v, rfl, hi, hl, hk⟩
      refine ⟨none, _, by have := run_endLoop (P := P) hl (by rw [hrec]; simp); rw [hrec] at this; exact this, ?_⟩
      have hk' : (W2.putObj (w.heap.size + 1) (.loop { rec .ready none with state := .exhausted })).heap[w.heap.size]? = some (.deferred (some [])) := (World.putObj_heap_other (by omega)).trans hk
      have := hdone w.heap.size (W2.putObj (w.heap.size + 1) (.loop { rec .ready none with state := .exhausted })) (Nat.le_refl _) (hIp _ _ _ _ _ hi (by omega) hl rfl) hk'
      rw [hrec] at this
      refine this { a with defers := [{ target := .collected w.heap.size, args := #[] }] ++ a.defers } ⟨?_, ha.size, ha.at_⟩
      simp only [had]
      rfl
    · -- one round
      rintro pre x W hpre ⟨hi, hl, hk⟩
      have hlt : w.heap.size + 1 < W.heap.size := (Array.getElem?_eq_some_iff.1 hl).1
      have hy := run_yield (P := P) (args := #[enc x]) hl (by rw [hrec]; rfl)
      rw [hrec] at hy
      refine ⟨fn, _, assign, body, hy, roundIn_of_wpIn hfn ?_⟩
      have hat : Of ⟨n, []⟩ ((p, enc x) :: l) { tmps := (#[p].zip #[enc x]).foldl (fun tmps (t, a) => tmps.setIfInBounds t a) a.tmps, defers := [] } := by
        have h1 : Of ⟨n, []⟩ l { tmps := a.tmps, defers := [] } := ⟨rfl, ha.size, ha.at_⟩
        have h2 := h1.put (d := p) hp (enc x)
        have e : ({ tmps := (#[p].zip #[enc x]).foldl (fun tmps (t, a) => tmps.setIfInBounds t a) a.tmps, defers := [] } : Act) = Act.put { tmps := a.tmps, defers := [] } (some p) (enc x) := by simp [Act.put]
        rw [e]
        exact h2
      refine wpIn_mono (hassign (w.heap.size + 1) x W _ hat) ?_
      rintro e a2 W2 hp2
      cases e with
      | normal =>
        obtain ⟨_, hof, rfl⟩ := hp2
        refine ⟨_, run_beginRound hl (by rw [hrec]), ?_⟩
        have hl2 : (W2.putObj (w.heap.size + 1) (.loop { rec .ready none with state := .busy })).heap[w.heap.size + 1]? = some (.loop { rec .ready none with state := .busy }) := World.putObj_heap_same hlt
        have hk2 : (W2.putObj (w.heap.size + 1) (.loop { rec .ready none with state := .busy })).heap[w.heap.size]? = some (.deferred (some [])) := (World.putObj_heap_other (by omega)).trans hk
        have hw2 : Rk W2 (W2.putObj (w.heap.size + 1) (.loop { rec .ready none with state := .busy })) := hRb _ _ _ _ (by omega) hl rfl
        refine wpIn_mono (hbody (w.heap.size + 1) pre x _ hpre (hIp _ _ _ _ _ hi (by omega) hl rfl) a2 hof) ?_
        rintro e a3 W3 hp3
        cases e with
        | normal =>
          obtain ⟨_, _, hnc, hrk, hi3⟩ := hp3
          have hl3 := hnc _ _ (by omega) hl2 rfl
          have hk3 := hnc _ _ (Nat.le_refl _) hk2 rfl
          have hr := run_endRound (P := P) none hl3
          rw [hrec] at hr
          refine ⟨_, _, hr, rfl, ⟨?_, ?_, ?_⟩, ?_⟩
          · exact hIp _ _ _ _ _ hi3 (by omega) hl3 rfl
          · rw [hrec]; exact World.putObj_heap_same (Array.getElem?_eq_some_iff.1 hl3).1
          · exact (World.putObj_heap_other (by omega)).trans hk3
          · exact hRt _ _ _ (hRt _ _ _ hw2 hrk) (hRb _ _ _ _ (by omega) hl3 rfl)
        | ret => exact hp3.elim
        | exit id => exact hp3.elim
        | goto t => exact hp3.elim
        | panic ch => exact hp3.elim
        | outgrown => exact hp3.elim
      | ret => exact hp2.elim
      | exit id => exact hp2.elim
      | goto t => exact hp2.elim
      | panic ch => exact hp2.elim
      | outgrown => exact hp2.elim
end Go.Proofs.Ytcgcklfbnmaodaa

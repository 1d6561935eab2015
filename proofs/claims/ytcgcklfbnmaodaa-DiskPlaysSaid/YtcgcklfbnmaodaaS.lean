/- A range over a function of two values, whose body may return; results that lie in variables of the function's own. -/
import Derived.Test.YtcgcklfbnmaodaaQ
namespace Go.Proofs.Ytcgcklfbnmaodaa
open Go Go.RowKit
set_option linter.unusedVariables false

/-- one round: yield is called; it says to go on, or to stop -/
def Yld2 (P : Program) (l : Nat) (xs : List Value) (w : World) (R Rx : World → Prop) : Prop := YieldAt (WF none) 0 P l xs.toArray w fun e w' => (e = .returned (.bool true) ∧ R w') ∨ (e = .returned (.bool false) ∧ Rx w')
/-- an iterator's contract: it hands out ys, in that order, until it is stopped -/
def SeqS {α : Type} (P : Program) (g : FuncId) (lb : List Value) (encs : α → List Value) (ys : List α) (St Rk : World → World → Prop) (w : World) : Prop :=
  ∀ (l : Nat) (J : List α → World → Prop) (Jx : World → Prop) (W : World), Ext w W → (∀ s A B, J s A → St A B → J s B) →
    (∀ pre x W1, pre ++ [x] <+: ys → J pre W1 → Yld2 P l (encs x) W1 (fun W' => J (pre ++ [x]) W' ∧ Rk W1 W') Jx) → J [] W →
    Ret P g (yieldOf l :: lb) W fun _ W' => J ys W' ∨ Jx W'

section
variable {r : Option Nat} {P : Program} {N : Sz} {l : Env} {w : World} {o : Oper}
theorem ex_yield2 {k : Nat} {x y : Operand} {ts : Array TypeId} {t : Nat} {v u : Value} {R Rx : World → Prop} (ho : o.op = .call { callee := .value (.tmp t), args := #[x, y], argTypes := ts })
    (ht : lk l t = some (yieldOf k)) (hx : ev l x = some v) (hy : ev l y = some u) (h : Yld2 P k [v, u] w R Rx) : Ex none P N o l w (fun v' w' => ∃ b, v' = .bool b ∧ (b = true → R w') ∧ (b = false → Rx w')) := by
  intro a ha
  refine ⟨fun _ _ => trivial, ?_⟩
  rw [Oper.semAt_eq _ _ _ (by simp [ho])]
  obtain ⟨fn, tmps, assign, body, hy', hR⟩ := h
  have e1 : a.eval (.tmp t) = yieldOf k := ha.ev (x := .tmp t) ht
  have e2 : a.eval x = v := ha.ev hx
  have e3 : a.eval y = u := ha.ev hy
  have hrun : (execOp a.eval o).run P w = .ok (.round k fn tmps assign body) w := by
    simp [execOp, ho, resolve, e1, e2, e3, yieldOf, Deferred.ofValue, invoke, callFunc, hy']
  rw [hrun]
  refine ⟨fun h => by simp [WF] at h, ?_⟩
  refine RoundIn.mono (n := 0) hR fun e w' he => ?_
  rcases he with ⟨rfl, h'⟩ | ⟨rfl, h'⟩
  · exact ⟨_, rfl, true, rfl, fun _ => h', fun e => by cases e⟩
  · exact ⟨_, rfl, false, rfl, (fun e => by cases e), fun _ => h'⟩

/-- results that lie in variables: two of one cell each -/
theorem run_loadVar {t b oo : Nat} {v : Value} (h1 : One P t) (hc : w.cell? ⟨b, oo, none⟩ = some v) : (loadVar t ⟨b, oo, none⟩).run P w = .ok v w := by
  simp [loadVar, run_one h1, hc]
theorem results_cell2 {fn : Func} {a : Act} {t u T1 T2 b1 b2 : Nat} {v1 v2 : Value} (h0 : fn.results = #[.cell t T1, .cell u T2]) (h1 : a.tmps[t]? = some (.pointer (some ⟨b1, 0, none⟩))) (h2 : a.tmps[u]? = some (.pointer (some ⟨b2, 0, none⟩)))
    (o1 : One P T1) (o2 : One P T2) (c1 : w.cell? ⟨b1, 0, none⟩ = some v1) (c2 : w.cell? ⟨b2, 0, none⟩ = some v2) : (results fn a.tmps).run P w = .ok (.tuple #[v1, v2]) w := by
  have r1 := run_loadVar (P := P) o1 c1
  have r2 := run_loadVar (P := P) o2 c2
  simp [results, h0, h1, h2, asAddr, Sem.run_bind, r1, r2, Result.andThen]
theorem qe_retC2 {n : Nat} {fn : Func} {R : Value → World → Prop} {t u T1 T2 b1 b2 : Nat} {v1 v2 : Value} (h0 : fn.results = #[.cell t T1, .cell u T2]) (h1 : lk l t = some (.pointer (some ⟨b1, 0, none⟩))) (h2 : lk l u = some (.pointer (some ⟨b2, 0, none⟩)))
    (o1 : One P T1) (o2 : One P T2) (c1 : w.cell? ⟨b1, 0, none⟩ = some v1) (c2 : w.cell? ⟨b2, 0, none⟩ = some v2) (h : R (.tuple #[v1, v2]) w) : QE ⟨n, []⟩ (bodyPost P fn fun e w' => ∃ v, e = .returned v ∧ R v w') .ret l w :=
  fun a ha => ⟨ha.defers, _, results_cell2 h0 (ha.at_ t _ h1) (ha.at_ u _ h2) o1 o2 c1 c2, _, rfl, h⟩
theorem qeM_retC2 {n D : Nat} {fn : Func} {R : Value → World → Prop} {t u T1 T2 b1 b2 : Nat} {v1 v2 : Value} (h0 : fn.results = #[.cell t T1, .cell u T2]) (h1 : lk l t = some (.pointer (some ⟨b1, 0, none⟩))) (h2 : lk l u = some (.pointer (some ⟨b2, 0, none⟩)))
    (o1 : One P T1) (o2 : One P T2) (hD : w.heap[D]? = some (.deferred (some []))) (c1 : (w.putObj D (.deferred none)).cell? ⟨b1, 0, none⟩ = some v1) (c2 : (w.putObj D (.deferred none)).cell? ⟨b2, 0, none⟩ = some v2) (h : R (.tuple #[v1, v2]) (w.putObj D (.deferred none))) :
    QE ⟨n, [markOf D]⟩ (bodyPostM (WF none) 0 P fn fun e w' => ∃ v, e = .returned v ∧ R v w') .ret l w := fun a ha => by
  have hd : a.defers = [markOf D] := ha.defers
  show LeavesInM _ _ _ _ _ _ a.defers .returning w
  rw [hd]
  refine ⟨by simp, .inl ⟨D, _, rfl, run_takeDeferred hD, ?_⟩⟩
  exact ⟨_, results_cell2 h0 (ha.at_ t _ h1) (ha.at_ u _ h2) o1 o2 c1 c2, _, rfl, h⟩
end

/-- THE RANGE, whose body may return -/
theorem w_rangeS {α : Type} {P : Program} {n : Nat} {Q : Exit → Act → World → Prop} {l : Env} {w : World} {g : Operand} {p1 p2 : Tmp} {assign body : Code} {gf : FuncId} {lb : List Value} {enc1 enc2 : α → Value} {ys : List α} {St Rk : World → World → Prop}
    (hg : ev l g = some (.func (.func gf) #[] lb.toArray)) (hcl : Callable P gf) (hseq : SeqS P gf lb (fun x => [enc1 x, enc2 x]) ys St Rk w) (hp1 : Nat.blt p1 n = true) (hp2 : Nat.blt p2 n = true)
    (hSt : ∀ A B, St A B → ∀ (k : Nat) (o : Obj), A.heap[k]? = some o → o.isCells = false → B.heap[k]? = some o)
    (hRt : ∀ A B C, Rk A B → Rk B C → Rk A C) (hRb : ∀ (W : World) (k : Nat) (o o' : Obj), w.heap.size ≤ k → W.heap[k]? = some o → o.isCells = false → Rk W (W.putObj k o'))
    (I : List α → World → Prop) (Ix : World → Prop) (hI : ∀ s A B, I s A → St A B → I s B) (hIp : ∀ s (W : World) (k : Nat) (o o' : Obj), I s W → w.heap.size ≤ k → W.heap[k]? = some o → o.isCells = false → I s (W.putObj k o'))
    (hIxp : ∀ (W : World) (k : Nat) (o o' : Obj), Ix W → w.heap.size ≤ k → W.heap[k]? = some o → o.isCells = false → Ix (W.putObj k o'))
    (h0 : ∀ o1 o2 : Obj, I [] ((w.alloc o1).alloc o2)) (E : α → World → World → Env)
    (A1 : α → World → World → Prop)
    (hassign : ∀ (k : Nat) (x : α) (W1 : World), w.heap.size ≤ W1.heap.size → W (some k) P ⟨n, []⟩ assign (Exit.then (fun a w'' => Of ⟨n, []⟩ (E x W1 w'') a ∧ Nc w.heap.size W1 w'' ∧ Rk W1 w'' ∧ A1 x W1 w'') (fun _ _ _ => False)) ((p2, enc2 x) :: (p1, enc1 x) :: l) W1)
    (hbody : ∀ (k : Nat) (pre : List α) (x : α) (W1 W2 W3 : World), pre ++ [x] <+: ys → I pre W1 → A1 x W1 W2 → Keep (fun j => j ≠ k) W2 W3 → k ≠ W1.heap.size → w.heap.size ≤ k →
      W (some k) P ⟨n, []⟩ body (Exit.then (fun a w'' => Nc w.heap.size W3 w'' ∧ Rk W3 w'' ∧ I (pre ++ [x]) w'') (fun e a w'' => e = .ret ∧ Nc w.heap.size W3 w'' ∧ Ix w'')) (E x W1 W2) W3)
    (hdone : ∀ (D : Nat) (W' : World), w.heap.size ≤ D → I ys W' → W'.heap[D]? = some (.deferred (some [])) → QE ⟨n, [markOf D]⟩ Q .normal l W')
    (hstop : ∀ (D : Nat) (W' : World), w.heap.size ≤ D → Ix W' → W'.heap[D]? = some (.deferred (some [])) → QE ⟨n, [markOf D]⟩ Q .ret l W') :
    W none P ⟨n, []⟩ (.rangeFunc g #[p1, p2] assign body) Q l w := by
  intro a ha
  refine wpIn_rangeFunc ?_
  intro fn hfn
  have hge : a.eval g = .func (.func gf) #[] lb.toArray := ha.ev hg
  have had : a.defers = [] := ha.defers
  obtain ⟨rec, hrec⟩ : ∃ rec : LoopState → Option Code → Loop, rec = fun st pe => { state := st, pending := pe, fn, tmps := a.tmps, params := #[p1, p2], assign, body, defers := w.heap.size } := ⟨_, rfl⟩
  obtain ⟨W1, hW1⟩ : ∃ W1, (w.alloc (.deferred (some []))).alloc (.loop (rec .ready none)) = W1 := ⟨_, rfl⟩
  have hL1 : W1.heap[w.heap.size + 1]? = some (.loop (rec .ready none)) := by
    rw [← hW1]; have := World.alloc_heap_new (w.alloc (.deferred (some []))) (.loop (rec .ready none)); rwa [World.size_alloc] at this
  have hK1 : W1.heap[w.heap.size]? = some (.deferred (some [])) := by
    rw [← hW1]; exact (Below.heap_alloc _ _ _ (by simp)).trans (World.alloc_heap_new w _)
  have hI1 : I [] W1 := by rw [← hW1]; exact h0 _ _
  have hb1 : Ext w W1 := by rw [← hW1]; exact (Keep.alloc w _).trans (Keep.alloc _ _) fun _ _ _ => trivial
  obtain ⟨gfn, hgf, hng, hgb⟩ := hcl
  refine ⟨w.heap.size + 1, [{ target := .collected w.heap.size, args := #[] }], W1, { target := .fn (.func gf) lb.toArray, args := #[.func (.yield (w.heap.size + 1)) #[] #[]] }, W1, gf,
    (yieldOf (w.heap.size + 1) :: lb).toArray, W1, ?_, ?_, ?_, ?_, fun h => by simp [WF] at h, ?_⟩
  · rw [← hW1, hrec]; exact run_enterLoop_outer _ _ _ _ _
  · simp only [resolve, hge]
    simp [go_sem]
  · intro f' hf'; trivial
  · simp [invoke, callFunc, hgf, hng, hgb, yieldOf, go_sem]
  · have hret := hseq (w.heap.size + 1)
      (fun pre W => I pre W ∧ W.heap[w.heap.size + 1]? = some (.loop (rec .ready none)) ∧ W.heap[w.heap.size]? = some (.deferred (some [])))
      (fun W => Ix W ∧ W.heap[w.heap.size + 1]? = some (.loop (rec .done (some .ret))) ∧ W.heap[w.heap.size]? = some (.deferred (some [])))
      W1 hb1 (fun s A B hs hst => ⟨hI s A B hs.1 hst, hSt A B hst _ _ hs.2.1 rfl, hSt A B hst _ _ hs.2.2 rfl⟩) ?_ ⟨hI1, hL1, hK1⟩
    · have hret' : CallsIn (WF none) 0 P gf (yieldOf (w.heap.size + 1) :: lb).toArray W1 _ := callsIn_wide.2 hret
      refine hret'.mono ?_
      rintro e W2 ⟨v, rfl, ⟨hi, hl, hk⟩ | ⟨hi, hl, hk⟩⟩
      · refine ⟨none, _, by have := run_endLoop (P := P) hl (by rw [hrec]; simp); rw [hrec] at this; exact this, ?_⟩
        have hk' : (W2.putObj (w.heap.size + 1) (.loop { rec .ready none with state := .exhausted })).heap[w.heap.size]? = some (.deferred (some [])) := (World.putObj_heap_other (by omega)).trans hk
        have := hdone w.heap.size (W2.putObj (w.heap.size + 1) (.loop { rec .ready none with state := .exhausted })) (Nat.le_refl _) (hIp _ _ _ _ _ hi (by omega) hl rfl) hk'
        rw [hrec] at this
        refine this { a with defers := [{ target := .collected w.heap.size, args := #[] }] ++ a.defers } ⟨?_, ha.size, ha.at_⟩
        simp only [had]
        rfl
      · refine ⟨some .ret, _, by have := run_endLoop (P := P) hl (by rw [hrec]; simp); rw [hrec] at this; exact this, ?_⟩
        have hk' : (W2.putObj (w.heap.size + 1) (.loop { rec .done (some .ret) with state := .exhausted })).heap[w.heap.size]? = some (.deferred (some [])) := (World.putObj_heap_other (by omega)).trans hk
        have := hstop w.heap.size (W2.putObj (w.heap.size + 1) (.loop { rec .done (some .ret) with state := .exhausted })) (Nat.le_refl _) (hIxp _ _ _ _ hi (by omega) hl rfl) hk'
        rw [hrec] at this
        refine wpIn_ret (this { a with defers := [{ target := .collected w.heap.size, args := #[] }] ++ a.defers } ⟨?_, ha.size, ha.at_⟩)
        simp only [had]
        rfl
    · -- one round
      rintro pre x W hpre ⟨hi, hl, hk⟩
      have hlt : w.heap.size + 1 < W.heap.size := (Array.getElem?_eq_some_iff.1 hl).1
      have hy := run_yield (P := P) (args := #[enc1 x, enc2 x]) hl (by rw [hrec]; rfl)
      rw [hrec] at hy
      refine ⟨fn, _, assign, body, hy, roundIn_of_wpIn hfn ?_⟩
      have hat : Of ⟨n, []⟩ ((p2, enc2 x) :: (p1, enc1 x) :: l) { tmps := (#[p1, p2].zip #[enc1 x, enc2 x]).foldl (fun tmps (t, a) => tmps.setIfInBounds t a) a.tmps, defers := [] } := by
        have h1 : Of ⟨n, []⟩ l { tmps := a.tmps, defers := [] } := ⟨rfl, ha.size, ha.at_⟩
        have h2 := (h1.put (d := p1) hp1 (enc1 x)).put (d := p2) hp2 (enc2 x)
        have e : ({ tmps := (#[p1, p2].zip #[enc1 x, enc2 x]).foldl (fun tmps (t, a) => tmps.setIfInBounds t a) a.tmps, defers := [] } : Act) = Act.put (Act.put { tmps := a.tmps, defers := [] } (some p1) (enc1 x)) (some p2) (enc2 x) := by simp [Act.put]
        rw [e]
        exact h2
      refine wpIn_mono (hassign (w.heap.size + 1) x W (by omega) _ hat) ?_
      rintro e a2 W2 hp2'
      cases e with
      | normal =>
        obtain ⟨hof, hnc1, hrk1, hA1⟩ := hp2'
        have hlA := hnc1 _ _ (by omega) hl rfl
        have hkA := hnc1 _ _ (Nat.le_refl _) hk rfl
        have hltA : w.heap.size + 1 < W2.heap.size := (Array.getElem?_eq_some_iff.1 hlA).1
        refine ⟨_, run_beginRound hlA (by rw [hrec]), ?_⟩
        have hl2 : (W2.putObj (w.heap.size + 1) (.loop { rec .ready none with state := .busy })).heap[w.heap.size + 1]? = some (.loop { rec .ready none with state := .busy }) := World.putObj_heap_same hltA
        have hk2 : (W2.putObj (w.heap.size + 1) (.loop { rec .ready none with state := .busy })).heap[w.heap.size]? = some (.deferred (some [])) := (World.putObj_heap_other (by omega)).trans hkA
        have hw2 : Rk W2 (W2.putObj (w.heap.size + 1) (.loop { rec .ready none with state := .busy })) := hRb _ _ _ _ (by omega) hlA rfl
        refine wpIn_mono (hbody (w.heap.size + 1) pre x W W2 _ hpre hi hA1 (Keep.putObj W2 _ _ (fun h => h rfl)) (by omega) (by omega) a2 hof) ?_
        rintro e a3 W3 hp3
        cases e with
        | normal =>
          obtain ⟨hnc, hrk, hi3⟩ := hp3
          have hl3 := hnc _ _ (by omega) hl2 rfl
          have hk3 := hnc _ _ (Nat.le_refl _) hk2 rfl
          have hr := run_endRound (P := P) none hl3
          rw [hrec] at hr
          refine ⟨_, _, hr, .inl ⟨rfl, ⟨?_, ?_, ?_⟩, ?_⟩⟩
          · exact hIp _ _ _ _ _ hi3 (by omega) hl3 rfl
          · rw [hrec]; exact World.putObj_heap_same (Array.getElem?_eq_some_iff.1 hl3).1
          · exact (World.putObj_heap_other (by omega)).trans hk3
          · exact hRt _ _ _ (hRt _ _ _ (hRt _ _ _ hrk1 hw2) hrk) (hRb _ _ _ _ (by omega) hl3 rfl)
        | ret =>
          obtain ⟨_, hnc, hi3⟩ := hp3
          have hl3 := hnc _ _ (by omega) hl2 rfl
          have hk3 := hnc _ _ (Nat.le_refl _) hk2 rfl
          have hr := run_endRound (P := P) (some .ret) hl3
          rw [hrec] at hr
          refine ⟨_, _, hr, .inr ⟨rfl, ?_, ?_, ?_⟩⟩
          · exact hIxp _ _ _ _ hi3 (by omega) hl3 rfl
          · rw [hrec]; exact World.putObj_heap_same (Array.getElem?_eq_some_iff.1 hl3).1
          · exact (World.putObj_heap_other (by omega)).trans hk3
        | exit id => exact absurd hp3.1 (by simp)
        | goto t => exact absurd hp3.1 (by simp)
        | panic ch => exact absurd hp3.1 (by simp)
        | outgrown => exact absurd hp3.1 (by simp)
      | ret => exact hp2'.elim
      | exit id => exact hp2'.elim
      | goto t => exact hp2'.elim
      | panic ch => exact hp2'.elim
      | outgrown => exact hp2'.elim
end Go.Proofs.Ytcgcklfbnmaodaa

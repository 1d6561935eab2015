/- AppendSeq, Collect, Cuts. -/
import Derived.Test.YtfgpcmphcnhbiaaDoorJ
namespace Go.Proofs.YtfgpcmphcnhbiaaDoor
open Go Go.RowKit
set_option linter.unusedVariables false
set_option linter.unusedSimpArgs false
theorem build_int (x : Int) (w : World) : (Instr.buildSlice 35 1 [(0, Value.int .i64 x)].toArray).run Tryd.prog w = .ok (.slice (some ⟨w.heap.size, 0, none⟩) 1 1) (w.alloc (.cells [Value.int .i64 x].toArray 3)) := by kernel_rfl
/-- what AppendSeq's own memory is between two rounds -/
def ASeq (w : World) (bx : Nat) (pre : List Nat) (W : World) : Prop := (∃ B d, Blk W bx 35 [.slice B pre.length d] ∧ Own W (bx + 1) 3 1 B pre.length d (pre.map fun x : Nat => Value.int .i64 (x : Int))) ∧ Ext w W
theorem ASeq.st {w : World} {bx n1 : Nat} {s : List Nat} {a b : World} (h : ASeq w bx s a) (hb : bx < n1) (hw : w.heap.size ≤ n1) (k : St16 n1 a b) : ASeq w bx s b := by
  obtain ⟨⟨B, d, h1, h2⟩, h3⟩ := h
  refine ⟨⟨B, d, h1.keep k (fun h => by omega), h2.keep k (fun g o e hh => ?_)⟩, h3.trans k fun j hj _ hh => by omega⟩
  rcases hh with ⟨_, ⟨cs, hc⟩ | ⟨cs, hc⟩⟩ <;> exact h2.ne_blk hc (by decide) g o e rfl
theorem ASeq.put {w : World} {bx n1 : Nat} {s : List Nat} {W : World} (h : ASeq w bx s W) (hb : bx < n1) (hw : w.heap.size ≤ n1) {k : Nat} {o : Obj} (o' : Obj) (hn : n1 ≤ k) (hk : W.heap[k]? = some o) (ho : o.isCells = false) : ASeq w bx s (W.putObj k o') := by
  obtain ⟨⟨B, d, h1, h2⟩, h3⟩ := h
  have K := Keep.putObj (S := fun j => j ≠ k) W k o' (fun h => h rfl)
  refine ⟨⟨B, d, h1.keep K (by omega), h2.keep K (fun g o e hh => ?_)⟩, h3.trans K fun j hj _ => by omega⟩
  subst hh
  exact h2.nc hk ho o e
theorem ASeq.two {w W : World} {bx : Nat} {s : List Nat} (h : ASeq w bx s W) (o1 o2 : Obj) : ASeq w bx s ((W.alloc o1).alloc o2) := by
  obtain ⟨⟨B, d, h1, h2⟩, h3⟩ := h
  have K : Ext W ((W.alloc o1).alloc o2) := (Keep.alloc W o1).trans (Keep.alloc _ o2) fun _ _ _ => trivial
  exact ⟨⟨B, d, h1.ext K, h2.ext K⟩, h3.ext K⟩

/-- slices.AppendSeq[[]int,int] -/
theorem appendSeq_c (gf : FuncId) (lb : List Value) (ys : List Nat) (w : World) (hcl : Callable Tryd.prog gf) (hys : ys.length ≤ 100000000) (hseq : ∀ w1, Ext w w1 → Seq Tryd.prog gf lb (fun x : Nat => .int .i64 (x : Int)) ys (St16 w1.heap.size) (Rk16 fun k => k < w.heap.size) w1) :
    Ret Tryd.prog 48 [.slice none 0 0, .func (.func gf) #[] lb.toArray] w fun v w' => ∃ B d, v = .slice B ys.length d ∧ Own w' w.heap.size 3 1 B ys.length d (ys.map fun x : Nat => Value.int .i64 (x : Int)) ∧ Ext w w' := by
  have K0 : Ext w w := Keep.refl _ _
  refine ret_ofM Tryd.func48 rfl rfl ?_
  refine w_seq ?_
  refine w_region ?_
  refine st rfl rfl rfl (ex_box (cs := [.slice none 0 0]) rfl rfl rfl) ?_
  rintro _ w1 ⟨bx, rfl, hbx0, E0, hbx, hs0⟩
  replace K0 := K0.ext E0
  refine sv rfl rfl rfl (ex_assign rfl rfl) ?_
  refine w_nil (qe_next ?_)
  refine w_seq ?_
  refine w_seq ?_
  refine w_region ?_
  refine sv rfl rfl rfl (ex_move rfl rfl) ?_
  refine w_nil (qe_next ?_)
  refine w_block ?_
  refine w_range (lb := lb) rfl hcl (hseq _ K0) rfl (fun _ _ h => h.nc) (fun _ _ _ => Rk16.trans) (fun W k o o' hn hk ho => Rk16.put (n1 := w.heap.size) (fun _ h => h) W k o o' (by omega) hk ho) (ASeq w bx) (fun s a b h k => h.st (n1 := _) (by omega) (by omega) k) (fun s W k o o' h hn hk ho => h.put (n1 := _) (by omega) (by omega) o' hn hk ho) (fun o1 o2 => ASeq.two ⟨⟨none, 0, hbx, Own.nil _ _ _ _⟩, K0⟩ o1 o2) (fun x => [(2, .pointer (some ⟨bx, 0, none⟩)), (5, .int .i64 (x : Int))]) ?_ ?_ ?_
  · intro k x W1
    refine w_region ?_
    refine sv rfl rfl rfl (ex_assign rfl rfl) ?_
    refine w_nil (qe_meet (()) ⟨rfl, rfl, trivial⟩ ?_)
    exact rfl
  · rintro k pre x W1 hpre ⟨⟨B, d, hB, hown⟩, hK⟩
    have hlen := hpre.length_le
    rw [List.length_append, List.length_singleton] at hlen
    have hs1 := hK.size
    have KK := Keep.refl (fun j => j ≠ bx ∧ ∀ o, B ≠ some ⟨j, o, none⟩) W1
    have hBn : ∀ k o, W1.heap[k]? = some o → o.isCells = false → k ≠ bx := fun k o hk ho => hB.nc hk ho
    have hon : ∀ k ob, W1.heap[k]? = some ob → ob.isCells = false → ∀ o, B ≠ some ⟨k, o, none⟩ := fun k ob hk ho => hown.nc hk ho
    have hbt : ∀ t cs, Blk W1 bx t cs → t ≠ 35 → False := fun t cs h hne => h.ne hB hne rfl
    have hot : ∀ t cs (b : Nat), Blk W1 b t cs → 3 ≠ t → ∀ g o, B = some ⟨g, o, none⟩ → g ≠ b := fun t cs b h hne g o e => hown.ne_blk h hne g o e
    have hol : ∀ g o, B = some ⟨g, o, none⟩ → bx + 1 ≤ g := fun g o e => (hown.lt e).1
    refine w_block ?_
    refine w_region ?_
    refine sv rfl rfl rfl (ex_load one35 rfl rfl (hB.cell rfl)) ?_
    refine sv rfl rfl rfl (ex_move rfl rfl) ?_
    refine st rfl rfl rfl (ex_buildSlice (cs := [.int .i64 (x : Int)]) rfl rfl (build_int _)) ?_
    rintro _ w2 ⟨g1, rfl, hg1, E7, hb7, hs7⟩
    replace hB := hB.ext E7
    replace hown := hown.ext E7
    replace hK := hK.ext E7
    replace KK := KK.ext E7
    have hs2 := hK.size
    refine st rfl rfl rfl (ex_append Tryd.underlying35 z3.1 rfl (by decide) rfl rfl rfl hown (Rd.of_blk (size := 1) hb7 rfl) (by simp [Value.oneCell']) (by omega) (by omega) (by have := hB.lt; omega)) ?_
    rintro _ w3 ⟨B1, d1, rfl, hown1, K3, hB1⟩
    have hB2 := hB.keep K3 (fun o e => hown.ne_blk hB (by decide) bx o e rfl)
    replace KK := KK.trans K3 (fun j _ hj => hj.2)
    replace hK := hK.trans K3 (fun j hj _ => hown.fresh (by omega))
    refine st0 rfl rfl (ex_store_blk sz35 rfl rfl rfl rfl hB2 (by simp)) ?_
    rintro _ w4 ⟨K4, hB3, _⟩
    replace KK := KK.trans K4 (fun j _ hj => hj.1)
    replace hK := hK.trans K4 (fun j hj _ => by omega)
    have hown3 := hown1.keep K4 (fun g o e hh => hown1.ne_blk hB2 (by decide) g o e hh)
    refine w_nil (qe_in_normal (qe_meet (()) trivial ?_))
    refine ⟨KK.nc _ (fun k o hk ho => ⟨hBn k o hk ho, hon k o hk ho⟩), Keep.mono KK (fun j hj hS => ?_), ⟨⟨B1, d1, ?_, ?_⟩, hK⟩⟩
    · refine ⟨fun e => ?_, fun o e => ?_⟩
      · subst e
        rcases hS with hS | ⟨cs, hb⟩ | ⟨cs, hb⟩ | ⟨cs, hb⟩
        · omega
        all_goals exact hbt _ _ hb (by decide)
      · rcases hS with hS | ⟨cs, hb⟩ | ⟨cs, hb⟩ | ⟨cs, hb⟩
        · have := hol j o e; omega
        all_goals exact hot _ _ _ hb (by decide) j o e rfl
    · rw [List.length_append, List.length_singleton]; exact hB3
    · rw [List.length_append, List.length_singleton, List.map_append]; exact hown3
  · rintro D W' hD ⟨⟨B, d, hB, hown⟩, hK⟩ hDD
    refine qe_in_normal (qe_next ?_)
    refine w_seq ?_
    refine w_region ?_
    refine sv rfl rfl rfl (ex_load one35 rfl rfl (hB.cell rfl)) ?_
    refine sv rfl rfl rfl (ex_assign rfl rfl) ?_
    refine w_nil (qe_next ?_)
    refine w_ret (qeM_ret1 rfl rfl hDD ?_)
    refine ⟨B, d, rfl, ?_, ?_⟩
    · exact (hown.keep (Keep.putObj (S := fun j => j ≠ D) _ D _ (fun h => h rfl)) (fun g o e hh => by subst hh; exact hown.nc hDD rfl o e)).lower (by omega)
    · exact hK.trans (Keep.putObj (S := fun j => j ≠ D) _ D _ (fun h => h rfl)) (fun j hj _ => by omega)
end Go.Proofs.YtfgpcmphcnhbiaaDoor

/- Operations in a row. -/
import Derived.Test.YtcgcklfbnmaodaaD13
namespace Go.Proofs.Ytcgcklfbnmaodaa
open Go Go.RowKit
set_option linter.unusedVariables false
set_option linter.unusedSimpArgs false
structure Playing (w w' : World) (kd n k : Nat) (os : List Op) (s : St) (F : Nat → Prop) : Prop where
  eq : s = (fresh n k).plays os
  du : s.du.length = k
  sn : s.n = n
  pl : s.pd.length ≤ os.length
  at_ : DiskAt w' F kd s
  new : ∀ j, F j → w.heap.size ≤ j
  k : Ext w w'
theorem Playing.ext {w w1 w2 : World} {kd n k : Nat} {os : List Op} {s : St} {F : Nat → Prop} (h : Playing w w1 kd n k os s F) (K : Ext w1 w2) : Playing w w2 kd n k os s F :=
  ⟨h.eq, h.du, h.sn, h.pl, h.at_.ext K, h.new, h.k.ext K⟩
theorem Playing.start {w w2 : World} {kd n k m : Nat} {F : Nat → Prop} (h : DiskAt w2 F kd (fresh n k)) (hF : ∀ j, F j → m ≤ j) (hz : w.heap.size ≤ m) (K2 : Ext w w2) : Playing w w2 kd n k [] (fresh n k) F :=
  ⟨rfl, by simp [fresh], rfl, by simp [fresh], h, fun j hj => Nat.le_trans hz (hF j hj), K2⟩
theorem Playing.step {w w1 w2 : World} {kd n k : Nat} {os : List Op} {s : St} {F F' : Nat → Prop} (h : Playing w w1 kd n k os s F) (o : Op) (hD : DiskAt w2 F' kd (s.play o).2) (hG : ∀ j, F' j → F j ∨ w1.heap.size ≤ j) (K : Keep (fun j => ¬ F j) w1 w2) : Playing w w2 kd n k (os ++ [o]) (s.play o).2 F' := by
  have hl := s.play_len o
  have hp := h.pl
  refine ⟨by rw [h.eq]; unfold St.plays; rw [List.foldl_append]; rfl, by rw [hl.2.2 h.at_.wf]; exact h.du, by rw [hl.2.1]; exact h.sn, by rw [List.length_append, List.length_singleton]; omega, hD, fun j hj => ?_, h.k.trans K fun j hj _ hF => by have := h.new j hF; omega⟩
  rcases hG j hj with h1 | h1
  · exact h.new j h1
  · exact Nat.le_trans h.k.size h1
theorem play_p {w w1 : World} {kd n k hi : Nat} {os : List Op} {s : St} {F : Nat → Prop} (h : Playing w w1 kd n k os s F) (o : Op) (ho : OpOk w1 hi o) (hhi : hi ≤ w.heap.size) (hl : os.length ≤ 1000) : Ret Try.prog 26 [.pointer (some ⟨kd, 0, none⟩), .agg o.cells.toArray] w1 fun v w' => ∃ B d F', v = .tuple #[.slice B (s.play o).1.1.length d, .int .i64 (s.play o).1.2] ∧ Playing w w' kd n k (os ++ [o]) (s.play o).2 F' ∧ Own w' w1.heap.size 5 1 B (s.play o).1.1.length d (bcells (s.play o).1.1) ∧ Keep (fun j => ¬ F j) w1 w' := by
  refine (play_c o hi F kd s w1 h.at_ ho (fun j hj => Nat.le_trans hhi (h.new j hj)) (Nat.le_trans h.pl hl)).mono ?_
  rintro v w' ⟨B, d, F', h1, h2, h3, _, h4, h5⟩
  exact ⟨B, d, F', h1, h.step o h2 h3 h5, h4, h5⟩
theorem take_snoc {os : List Op} {i : Nat} {o : Op} (h : os[i]? = some o) : os.take (i + 1) = os.take i ++ [o] := by
  rw [List.take_add_one, h]
  rfl
theorem small_t (z1 z2 : Int) (A : Option Addr) (m c : Nat) (w : World) (h : 1 ≤ z1 ∧ z1 ≤ 8 ∧ 1 ≤ z2 ∧ z2 ≤ 8 ∧ m ≤ 40) : Ret Try.prog 25 [.int .i64 z1, .int .i64 z2, .slice A m c] w fun v w' => Dv (.bool true) w v w' :=
  (small_c z1 z2 A m c w).mono fun v w' h' => ⟨by rw [h'.1, decide_eq_true h], h'.2⟩
theorem small_f (z1 z2 : Int) (A : Option Addr) (m c : Nat) (w : World) (h : ¬ (1 ≤ z1 ∧ z1 ≤ 8 ∧ 1 ≤ z2 ∧ z2 ≤ 8 ∧ m ≤ 40)) : Ret Try.prog 25 [.int .i64 z1, .int .i64 z2, .slice A m c] w fun v w' => Dv (.bool false) w v w' :=
  (small_c z1 z2 A m c w).mono fun v w' h' => ⟨by rw [h'.1, decide_eq_false h], h'.2⟩
theorem Own.keepF {S : Nat → Prop} {w w' : World} {lo size n c : Nat} {e : TypeId} {A : Option Addr} {xs : List Value} (h : Own w lo e size A n c xs) (k : Keep S w w') (hS : ∀ j, lo ≤ j → S j) : Own w' lo e size A n c xs := h.keep k fun g o e => hS g (h.lt e).1
theorem Owns.keepF {S : Nat → Prop} {w w' : World} {lo : Nat} {sl : List Sl} {ys : List (List UInt8)} (h : Owns w lo sl ys) (k : Keep S w w') (hS : ∀ j, lo ≤ j → S j) : Owns w' lo sl ys := h.keepT k fun g _ hg _ => hS g hg
theorem Owns.extF {w w' : World} {lo : Nat} {sl : List Sl} {ys : List (List UInt8)} (h : Owns w lo sl ys) (k : Ext w w') : Owns w' lo sl ys := h.keepF k fun _ _ => trivial
end Go.Proofs.Ytcgcklfbnmaodaa

/- Words for memory: what may have changed between two worlds; a block known whole; a slice's value that reads as a list of cells; a slice of the call's own. -/
import Derived.Test.YtcgcklfbnmaodaaE
import Derived.Maps.AppendAt
import Derived.Deep.Draws
import Derived.Laws.OwnMore
import Derived.Laws.MakeOwn
namespace Go.Proofs.Ytcgcklfbnmaodaa
open Go Go.RowKit

/-- of the blocks that were there, those of 'S' are as they were; new ones may have come -/
structure Keep (S : Nat → Prop) (w w' : World) : Prop where
  os : w'.os = w.os
  tape : w'.tape = w.tape
  output : w'.output = w.output
  size : w.heap.size ≤ w'.heap.size
  block : ∀ k, k < w.heap.size → S k → w'.heap[k]? = w.heap[k]?
/-- nothing that was there has changed -/
abbrev Ext (w w' : World) : Prop := Keep (fun _ => True) w w'

section keep
variable {S T : Nat → Prop} {a b c w w' : World}
theorem Keep.refl (S : Nat → Prop) (w : World) : Keep S w w := ⟨rfl, rfl, rfl, Nat.le_refl _, fun _ _ _ => rfl⟩
theorem Keep.trans (h : Keep S a b) (k : Keep T b c) (hs : ∀ j, j < a.heap.size → S j → T j) : Keep S a c :=
  ⟨k.os.trans h.os, k.tape.trans h.tape, k.output.trans h.output, Nat.le_trans h.size k.size, fun i hi hS => (k.block i (Nat.lt_of_lt_of_le hi h.size) (hs i hi hS)).trans (h.block i hi hS)⟩
theorem Keep.mono (h : Keep S a b) (hs : ∀ j, j < a.heap.size → T j → S j) : Keep T a b := ⟨h.os, h.tape, h.output, h.size, fun i hi hT => h.block i hi (hs i hi hT)⟩
theorem Keep.ext (h : Keep S a b) (k : Ext b c) : Keep S a c := h.trans k fun _ _ _ => trivial
theorem Keep.of_ext (h : Ext a b) (S : Nat → Prop) : Keep S a b := h.mono fun _ _ _ => trivial
theorem Keep.below (h : Keep S a b) (hs : ∀ j, j < a.heap.size → S j) : Below a.heap.size a b := ⟨h.os, h.tape, h.output, h.size, fun i hi => h.block i hi (hs i hi)⟩
theorem Keep.drew (h : Keep S a b) : Keep S a b.drew := ⟨h.os, h.tape, h.output, h.size, h.block⟩
theorem Keep.draw (w : World) : Keep S w { w with drawn := w.drawn + 1 } := ⟨rfl, rfl, rfl, Nat.le_refl _, fun _ _ _ => rfl⟩
theorem Keep.alloc (w : World) (o : Obj) : Keep S w (w.alloc o) := ⟨rfl, rfl, rfl, by simp, fun k hk _ => Below.heap_alloc w o k hk⟩
theorem Keep.setCell (w : World) (p : Addr) (v : Value) : Keep (fun k => k ≠ p.block) w (w.setCell p v) := ⟨rfl, rfl, rfl, by simp [World.setCell], fun k _ hk => Below.heap_setCell w p v k hk⟩
theorem Keep.grown {row : Option Nat} (h : w.grownBy w' row) : Keep (fun k => some k ≠ row) w w' := ⟨h.os, h.tape, h.output, h.size, fun k hk hne => h.block k hk hne⟩
theorem Keep.cell (h : Keep S w w') {p : Addr} {v : Value} (hp : S p.block) (hc : w.cell? p = some v) : w'.cell? p = some v := by
  have hlt : p.block < w.heap.size := World.block_lt_of_cell? w p hc
  rw [World.cell?_of_block (h.block _ hlt hp)]; exact hc
end keep

/-- block b is just these cells, none frozen -/
def Blk (w : World) (b : Nat) (t : TypeId) (cs : List Value) : Prop := w.heap[b]? = some (.cells cs.toArray t (0, 0))
section blk
variable {S : Nat → Prop} {w w' : World} {b : Nat} {t : TypeId} {cs : List Value}
theorem Blk.lt (h : Blk w b t cs) : b < w.heap.size := (Array.getElem?_eq_some_iff.1 h).1
theorem Blk.cell (h : Blk w b t cs) {i : Nat} {v : Value} (hv : cs[i]? = some v) : w.cell? ⟨b, i, none⟩ = some v := by
  unfold Blk at h
  simp [World.cell?, h, hv]
theorem Blk.frozen (h : Blk w b t cs) (i : Nat) : w.frozen? ⟨b, i, none⟩ = false := by
  unfold Blk at h
  simp [World.frozen?, h]
theorem Blk.keep (h : Blk w b t cs) (k : Keep S w w') (hb : S b) : Blk w' b t cs := (k.block b h.lt hb).trans h
theorem Blk.ext (h : Blk w b t cs) (k : Ext w w') : Blk w' b t cs := h.keep k trivial
theorem Blk.new (w : World) (t : TypeId) (cs : List Value) : Blk (w.alloc (.cells cs.toArray t)) w.heap.size t cs := heap_alloc_new w _
theorem Blk.set (h : Blk w b t cs) (i : Nat) (v : Value) : Blk (w.setCell ⟨b, i, none⟩ v) b t (cs.set i v) := by
  unfold Blk at h ⊢
  simp [World.setCell, Array.getElem?_modify, h]
theorem Blk.far (h : Blk w b t cs) {p : Addr} (hp : b ≠ p.block) (v : Value) : Blk (w.setCell p v) b t cs := (Below.heap_setCell w p v b hp).trans h
theorem Blk.draw (h : Blk w b t cs) : Blk { w with drawn := w.drawn + 1 } b t cs := h
theorem Blk.ne {b' : Nat} {t' : TypeId} {cs' : List Value} (h : Blk w b t cs) (h' : Blk w b' t' cs') (hne : t ≠ t') : b ≠ b' := by
  rintro rfl
  unfold Blk at h h'
  rw [h] at h'
  injection h' with h'
  injection h' with _ ht
  exact hne ht
end blk

/-- the slice value '.slice A n _' reads as the cells xs ('size' cells an element), in blocks from lo on and below hi -/
def Rd (w : World) (lo hi size : Nat) (A : Option Addr) (n : Nat) (xs : List Value) : Prop :=
  xs.length = n * size ∧ (0 < n → ∃ b o, A = some ⟨b, o, none⟩ ∧ lo ≤ b ∧ b < hi ∧ ∀ j u, xs[j]? = some u → w.cell? ⟨b, o + j, none⟩ = some u)
section rd
variable {S : Nat → Prop} {w w' : World} {lo hi size n : Nat} {A : Option Addr} {xs : List Value}
theorem Rd.nil : Rd w lo hi size A 0 [] := ⟨by simp, fun h => absurd h (by omega)⟩
theorem Rd.keep (h : Rd w lo hi size A n xs) (k : Keep S w w') (hS : ∀ b, lo ≤ b → b < hi → S b) : Rd w' lo hi size A n xs :=
  ⟨h.1, fun hn => by
    obtain ⟨b, o, e, h1, h2, hc⟩ := h.2 hn
    exact ⟨b, o, e, h1, h2, fun j u hu => k.cell (hS b h1 h2) (hc j u hu)⟩⟩
theorem Rd.ext (h : Rd w lo hi size A n xs) (k : Ext w w') : Rd w' lo hi size A n xs := h.keep k fun _ _ _ => trivial
theorem Rd.draw (h : Rd w lo hi size A n xs) : Rd { w with drawn := w.drawn + 1 } lo hi size A n xs := h
theorem Rd.more {lo' hi' : Nat} (h : Rd w lo hi size A n xs) (h1 : lo' ≤ lo) (h2 : hi ≤ hi') : Rd w lo' hi' size A n xs :=
  ⟨h.1, fun hn => by
    obtain ⟨b, o, e, h3, h4, hc⟩ := h.2 hn
    exact ⟨b, o, e, by omega, by omega, hc⟩⟩
/-- element k of a slice of one-cell elements -/
theorem Rd.at_ (h : Rd w lo hi 1 A n xs) {k : Nat} (hk : k < n) : ∃ b o u, A = some ⟨b, o, none⟩ ∧ lo ≤ b ∧ b < hi ∧ xs[k]? = some u ∧ w.cell? ⟨b, o + k, none⟩ = some u := by
  obtain ⟨b, o, e, h1, h2, hc⟩ := h.2 (by omega)
  have hl : k < xs.length := by have := h.1; omega
  exact ⟨b, o, xs[k], e, h1, h2, List.getElem?_eq_getElem hl, hc k _ (List.getElem?_eq_getElem hl)⟩
theorem Rd.addr (h : Rd w lo hi size A n xs) (hn : 0 < n) : ∃ b o, A = some ⟨b, o, none⟩ ∧ lo ≤ b ∧ b < hi ∧ ∀ j u, xs[j]? = some u → w.cell? ⟨b, o + j, none⟩ = some u := h.2 hn
/-- a cut 's[l:h]' -/
theorem Rd.cut (h : Rd w lo hi size A n xs) {l hh m : Nat} (hl : l ≤ hh) (hn : hh ≤ n) (hm : n ≤ m) :
    Rd w lo hi size (if m = l then A else A.map (·.add (l * size))) (hh - l) ((xs.drop (l * size)).take ((hh - l) * size)) := by
  have hlen : (hh - l) * size + l * size ≤ n * size := by rw [← Nat.add_mul]; exact Nat.mul_le_mul_right _ (by omega)
  refine ⟨by rw [List.length_take, List.length_drop, h.1]; omega, fun h0 => ?_⟩
  obtain ⟨b, o, rfl, h1, h2, hc⟩ := h.2 (by omega)
  rw [if_neg (by omega)]
  refine ⟨b, o + l * size, ?_, h1, h2, fun j u hu => ?_⟩
  · simp only [Option.map_some, Option.some.injEq]
    unfold Addr.add
    split
    · rename_i e; simp [e]
    · rfl
  · rw [List.getElem?_take] at hu
    split at hu
    · rw [List.getElem?_drop] at hu
      rw [Nat.add_assoc]
      exact hc _ _ hu
    · cases hu
end rd

/-- a slice of the call's own, from block 'lo' on: what can be appended to -/
def Own (w : World) (lo : Nat) (e : TypeId) (size : Nat) (A : Option Addr) (n c : Nat) (xs : List Value) : Prop := w.ownsRow lo e size (.slice A n c) n xs
section own
variable {S : Nat → Prop} {w w' : World} {lo size n c : Nat} {e : TypeId} {A : Option Addr} {xs : List Value}
theorem Own.nil (w : World) (lo : Nat) (e : TypeId) (size : Nat) : Own w lo e size none 0 0 [] := World.ownsRow_nil w lo e size
theorem Own.keep (h : Own w lo e size A n c xs) (k : Keep S w w') (hS : ∀ g o, A = some ⟨g, o, none⟩ → S g) : Own w' lo e size A n c xs := by
  refine ⟨h.1, ?_⟩
  rcases h.2 with hn | ⟨g, cap, cur, hv, hb, hgg, rest⟩
  · exact .inl hn
  · refine .inr ⟨g, cap, cur, hv, hb, ?_, rest⟩
    injection hv with hA
    rw [k.block g (Array.getElem?_eq_some_iff.1 hgg).1 (hS g 0 hA)]
    exact hgg
theorem Own.ext (h : Own w lo e size A n c xs) (k : Ext w w') : Own w' lo e size A n c xs := h.keep k fun _ _ _ => trivial
theorem Own.draw (h : Own w lo e size A n c xs) : Own { w with drawn := w.drawn + 1 } lo e size A n c xs := h
theorem Own.lower {lo' : Nat} (h : Own w lo e size A n c xs) (h1 : lo' ≤ lo) : Own w lo' e size A n c xs := by
  refine ⟨h.1, ?_⟩
  rcases h.2 with hn | ⟨g, cap, cur, hv, hb, rest⟩
  · exact .inl hn
  · exact .inr ⟨g, cap, cur, hv, by omega, rest⟩
theorem Own.lt (h : Own w lo e size A n c xs) {g o : Nat} (hA : A = some ⟨g, o, none⟩) : lo ≤ g ∧ g < w.heap.size :=
  World.ownsRow.lt h g (by subst hA; rfl)
theorem Own.rd (h : Own w lo e size A n c xs) : Rd w lo w.heap.size size A n xs := by
  refine ⟨h.1, fun hn => ?_⟩
  rcases h.2 with ⟨hv, h0⟩ | ⟨g, cap, cur, hv, hb, hgg, hnc, hcm, hcs, htake⟩
  · omega
  · injection hv with hA
    subst hA
    refine ⟨g, 0, rfl, hb, (Array.getElem?_eq_some_iff.1 hgg).1, fun j u hu => ?_⟩
    rw [Nat.zero_add, cell_of_row w g j cur e (0, 0) hgg]
    rw [← htake, List.getElem?_take] at hu
    split at hu
    · simpa using hu
    · cases hu
theorem Own.form (h : Own w lo e size A n c xs) : (A = none ∧ n = 0 ∧ c = 0) ∨ ∃ g, A = some ⟨g, 0, none⟩ ∧ lo ≤ g ∧ g < w.heap.size := by
  rcases h.2 with ⟨hv, h0⟩ | ⟨g, cap, cur, hv, hb, hgg, hnc, hcm, hcs, htake⟩
  · injection hv with h1 h2 h3
    exact .inl ⟨h1, h2, h3⟩
  · injection hv with hA
    exact .inr ⟨g, hA, hb, (Array.getElem?_eq_some_iff.1 hgg).1⟩
theorem Own.le (h : Own w lo e size A n c xs) : n ≤ c := by
  rcases h.2 with ⟨hv, h0⟩ | ⟨g, cap, cur, hv, hb, hgg, hnc, hcm, hcs, htake⟩
  · injection hv with h1 h2 h3; omega
  · injection hv with h1 h2 h3; omega
/-- a block of the call's own of another element type is not the row's -/
theorem Own.ne_blk (h : Own w lo e size A n c xs) {b : Nat} {t : TypeId} {cs : List Value} (hb : Blk w b t cs) (hne : e ≠ t) : ∀ g o, A = some ⟨g, o, none⟩ → g ≠ b := by
  intro g o hA e'
  subst hA
  rcases h.2 with ⟨hv, h0⟩ | ⟨g', cap, cur, hv, _, hgg, _⟩
  · cases hv
  · injection hv with hA
    injection hA with hA
    injection hA with hA
    subst hA; subst e'
    unfold Blk at hb
    rw [hgg] at hb
    injection hb with hb
    injection hb with _ ht
    exact hne ht
/-- a block, as a row that is read -/
theorem Rd.of_blk {b : Nat} {cs : List Value} {size n : Nat} (h : Blk w b e cs) (hcs : cs.length = n * size) : Rd w 0 w.heap.size size (some ⟨b, 0, none⟩) n cs :=
  ⟨hcs, fun _ => ⟨b, 0, rfl, Nat.zero_le _, h.lt, fun j u hu => by rw [Nat.zero_add]; exact h.cell hu⟩⟩
/-- a block of the call's own, as a row -/
theorem Own.of_blk {b : Nat} {cs : List Value} (h : Blk w b e cs) (hlo : lo ≤ b) (hnc : n ≤ c) (hcm : c ≤ maxLen) (hcs : cs.length = c * size) : Own w lo e size (some ⟨b, 0, none⟩) n c (cs.take (n * size)) := by
  have : n * size ≤ c * size := Nat.mul_le_mul_right _ hnc
  exact ⟨by rw [List.length_take]; omega, .inr ⟨b, c, cs.toArray, rfl, hlo, h, hnc, hcm, by simpa using hcs, by simp⟩⟩
/-- it lies behind 'lo' -/
theorem Own.fresh (h : Own w lo e size A n c xs) {j : Nat} (hj : j < lo) : ∀ o, A ≠ some ⟨j, o, none⟩ := fun o e => by
  have := (h.lt e).1
  omega
/-- a row that was just made: n cells, all of them owned -/
theorem Own.made (w : World) (lo : Nat) (e : TypeId) (size n c : Nat) (cs : List Value) (hlo : lo ≤ w.heap.size) (hnc : n ≤ c) (hcm : c ≤ maxLen) (hcs : cs.length = c * size) :
    Own (w.alloc (.cells cs.toArray e)) lo e size (some ⟨w.heap.size, 0, none⟩) n c (cs.take (n * size)) := by
  have : n * size ≤ c * size := Nat.mul_le_mul_right _ hnc
  exact ⟨by rw [List.length_take]; omega, .inr ⟨w.heap.size, c, cs.toArray, rfl, hlo, heap_alloc_new w _, hnc, hcm, by simpa using hcs, by simp⟩⟩
end own
end Go.Proofs.Ytcgcklfbnmaodaa

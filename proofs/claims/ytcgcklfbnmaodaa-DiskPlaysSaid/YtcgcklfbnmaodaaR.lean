/- Lists of operations as a row reads them. -/
import Derived.Test.YtcgcklfbnmaodaaD13
import Derived.Test.YtcgcklfbnmaodaaK
import Derived.Deep.Grids
namespace Go.Proofs.Ytcgcklfbnmaodaa
open Go Go.RowKit Go.ChangeShapes Go.WideShapes Go.ChangeAt
set_option linter.unusedVariables false
set_option linter.unusedSimpArgs false
theorem ocells_at {os : List Op} {j : Nat} {u : Value} (h : (ocells os)[j]? = some u) : ∃ o, os[j / 6]? = some o ∧ o.cells[j % 6]? = some u := by
  have hl := (List.getElem?_eq_some_iff.1 h).1
  rw [ocells_length] at hl
  have hj : j / 6 < os.length := by omega
  have hg : os[j / 6]? = some os[j / 6] := List.getElem?_eq_getElem hj
  have h6 : (os[j / 6]).cells.length = 6 := rfl
  have hq : (os[j / 6]).cells[j % 6]? = some (os[j / 6]).cells[j % 6] := List.getElem?_eq_getElem (by omega)
  have := ocells_get hg _ _ hq
  rw [show j / 6 * 6 + j % 6 = j by omega, h] at this
  exact ⟨_, hg, by rw [hq]; exact this.symm⟩

section
variable {H : Type} {enc : TypeId × Value → H} {P : Program} {W : World}
theorem field_bytes {t e : TypeId} {n : Nat} {cs : List Value} {x : DataW H × List MemPlace} (ht : P.underlying t = some (.slice e)) (he : P.underlying e = some (.int .u8)) (hc : P.cellsOf e = 1) (h : DataW.trod enc P W 0 (fun _ => true) true n t cs = some x) :
    ∃ (A : Option Addr) (c : Nat) (bs : List UInt8), cs = [.slice A bs.length c] ∧ Rd W 0 W.heap.size 1 A bs.length (bcells bs) := by
  have key : ∀ A m c, cs = [.slice A m c] → ∃ (A : Option Addr) (c : Nat) (bs : List UInt8), cs = [.slice A bs.length c] ∧ Rd W 0 W.heap.size 1 A bs.length (bcells bs) := fun A m c e => by
    subst e
    obtain ⟨bs, h1, h2, _⟩ := open_bytes (enc := enc) (d := x.1) (p := x.2) ht he hc ⟨n, by simpa [Value.cells] using h⟩
    subst h1
    exact ⟨A, c, bs, rfl, h2⟩
  rcases open_ints ht he hc h with ⟨hcs, _⟩ | ⟨a, len, cap, zs, hcs, _⟩
  · exact key _ _ _ hcs
  · exact key _ _ _ hcs
theorem field_bools {t e : TypeId} {n : Nat} {cs : List Value} {x : DataW H × List MemPlace} (ht : P.underlying t = some (.slice e)) (he : P.underlying e = some .bool) (hc : P.cellsOf e = 1) (h : DataW.trod enc P W 0 (fun _ => true) true n t cs = some x) :
    ∃ (A : Option Addr) (c : Nat) (kb : List Bool), cs = [.slice A kb.length c] ∧ Rd W 0 W.heap.size 1 A kb.length (kb.map Value.bool) ∧ kb.length ≤ 9223372036854775807 := by
  rcases Deep.open_bools ht he hc h with ⟨hcs, _⟩ | ⟨a, len, cap, B, hcs, _, hl, hm, _, hcell⟩
  · exact ⟨none, 0, [], hcs, Rd.nil, by simp⟩
  · have hll : ((List.range len).map B).length = len := by simp
    refine ⟨some a, cap, (List.range len).map B, by rw [hll]; exact hcs, ⟨by simp, fun hn => ?_⟩, by rw [hll]; unfold maxLen at hm; omega⟩
    rw [hll] at hn
    have h0 := hcell 0 (by omega)
    obtain ⟨b, o, spot⟩ := a
    have hsp : spot = none := by simpa [Addr.add] using World.cell?_spot h0
    subst hsp
    refine ⟨b, o, rfl, Nat.zero_le _, block_of_cell (by simpa [Addr.add] using h0), fun j u hu => ?_⟩
    rw [List.getElem?_map, List.getElem?_map] at hu
    obtain ⟨z, hz, rfl⟩ := Option.map_eq_some_iff.1 hu
    obtain ⟨i, hi, rfl⟩ := Option.map_eq_some_iff.1 hz
    have hj : j < len := by have := (List.getElem?_eq_some_iff.1 hi).1; simpa using this
    rw [List.getElem?_range hj] at hi
    injection hi with hi
    subst hi
    have := hcell j (by omega)
    unfold Addr.add at this
    split at this
    · rename_i e; subst e; simpa using this
    · exact this
end
instance : Inhabited Op := ⟨⟨0, 0, none, 0, [], 0, none, 0, [], 0⟩⟩
section
variable {H : Type} {enc : TypeId × Value → H} {W : World}
theorem cells_op : Try.prog.cellsOf 50 = 6 := by kernel_rfl
theorem cells_1 : Try.prog.cellsOf 3 = 1 ∧ Try.prog.cellsOf 22 = 1 ∧ Try.prog.cellsOf 46 = 1 ∧ Try.prog.cellsOf 5 = 1 ∧ Try.prog.cellsOf 4 = 1 := ⟨by kernel_rfl, by kernel_rfl, by kernel_rfl, by kernel_rfl, by kernel_rfl⟩
/-- one operation, from its six cells -/
theorem open_op {n : Nat} {cs : List Value} {x : DataW H × List MemPlace} (h : DataW.trod enc Try.prog W 0 (fun _ => true) true n 50 cs = some x) : ∃ o : Op, cs = o.cells ∧ OpOk W W.heap.size o := by
  obtain ⟨xs, m, _, _, hl, hxl, hf⟩ := DataW.trod_struct Try.underlying50 h
  rw [cells_op] at hl
  obtain ⟨c1, c2, c3, c4, c5⟩ := cells_1
  match cs, hl with
  | [v0, v1, v2, v3, v4, v5], _ =>
    have g0 := hf 0 _ rfl
    have g1 := hf 1 _ rfl
    have g2 := hf 2 _ rfl
    have g3 := hf 3 _ rfl
    have g4 := hf 4 _ rfl
    have g5 := hf 5 _ rfl
    have hx6 : xs.length = 6 := hxl
    rw [List.getElem?_eq_getElem (by omega)] at g0 g1 g2 g3 g4 g5
    simp [c1, c2, c3, c4] at g0 g1 g2 g3 g4 g5
    obtain ⟨k, e0, _, _⟩ := DataW.trod_int Try.underlying3 g0
    obtain ⟨z, e1, _, _⟩ := DataW.trod_int Try.underlying3 g1
    obtain ⟨A, c, bs, e2, r2⟩ := field_bytes Try.underlying22 Try.underlying5 c4 g2
    obtain ⟨nn, e3, _, w3⟩ := DataW.trod_int Try.underlying3 g3
    obtain ⟨B, d, kb, e4, r4, hk⟩ := field_bools Try.underlying46 Try.underlying4 c5 g4
    obtain ⟨y, e5, _, w5⟩ := DataW.trod_int Try.underlying5 g5
    obtain ⟨b, hb⟩ := byte_of_wf w5
    have b3 := bounds_i64 w3
    refine ⟨⟨k, z, A, c, bs, nn, B, d, kb, b⟩, ?_, ⟨r2, r4, by simp only; omega, hk⟩⟩
    simp only [List.cons.injEq, and_true] at e0 e1 e2 e3 e4 e5
    rw [e0, e1, e2, e3, e4, e5, hb]
    rfl
/-- a list of operations that came in -/
theorem open_ops {A : Option Addr} {n c : Nat} {d : DataW H} {p : List MemPlace} (h : DataW.Trod enc Try.prog W 0 (fun _ => true) true 44 (.slice A n c) d p) : ∃ os : List Op, os.length = n ∧ OpsAt W W.heap.size A os := by
  obtain ⟨fuel, hf⟩ := h
  rcases Deep.open_slice Try.underlying44 hf with ⟨hcs, _⟩ | ⟨a, len, cap, m, n', D, Pl, hcs, _, hl, hm, hmm, _, hx⟩
  · simp only [Value.cells] at hcs
    injection hcs with hcs
    injection hcs with h1 h2 h3
    subst h1; subst h2; subst h3
    exact ⟨[], rfl, Rd.nil, fun o ho => by cases ho⟩
  · simp only [Value.cells] at hcs
    injection hcs with hcs
    injection hcs with h1 h2 h3
    subst h1; subst h2; subst h3
    simp only [if_true] at hmm
    subst hmm
    obtain ⟨f, hfs⟩ := Deep.choose_lt (α := Op) (p := fun i o => OpOk W W.heap.size o ∧ ∀ q u, o.cells[q]? = some u → W.cell? (a.add (i * 6 + q)) = some u) (n := n) (fun i hi => by
      obtain ⟨cs', h1, h2⟩ := hx i (by omega)
      obtain ⟨o, rfl, hok⟩ := open_op h2
      rw [cells_op] at h1
      obtain ⟨_, _, hcell⟩ := World.cells?_some h1
      refine ⟨o, hok, fun q u hu => ?_⟩
      have hq : q < 6 := (List.getElem?_eq_some_iff.1 hu).1
      have := hcell q hq
      rw [Deep.add_add, hu] at this
      exact this)
    have hlen : ((List.range n).map f).length = n := by simp
    have hget : ∀ (i : Nat) (o : Op), ((List.range n).map f)[i]? = some o → i < n ∧ o = f i := fun i o hi => by
      rw [List.getElem?_map] at hi
      obtain ⟨i', h1, rfl⟩ := Option.map_eq_some_iff.1 hi
      have hi2 : i < n := by have := (List.getElem?_eq_some_iff.1 h1).1; simpa using this
      rw [List.getElem?_range hi2] at h1
      injection h1 with h1
      exact ⟨hi2, by rw [h1]⟩
    refine ⟨(List.range n).map f, hlen, ⟨by rw [ocells_length], fun hn => ?_⟩, fun o ho => ?_⟩
    · rw [hlen] at hn
      obtain ⟨b, o, spot⟩ := a
      have h0 := (hfs 0 hn).2 0 _ rfl
      have hsp : spot = none := by simpa [Addr.add] using World.cell?_spot h0
      subst hsp
      refine ⟨b, o, rfl, Nat.zero_le _, block_of_cell (by simpa [Addr.add] using h0), fun j u hu => ?_⟩
      obtain ⟨o1, ho1, hu1⟩ := ocells_at hu
      obtain ⟨hi1, rfl⟩ := hget _ _ ho1
      have := (hfs _ hi1).2 _ _ hu1
      rw [show j / 6 * 6 + j % 6 = j by omega] at this
      unfold Addr.add at this
      split at this
      · rename_i e; subst e; simpa using this
      · exact this
    · obtain ⟨i, hi⟩ := List.getElem?_of_mem ho
      obtain ⟨hi1, rfl⟩ := hget _ _ hi
      exact (hfs i hi1).1
theorem open_bools1 {A : Option Addr} {n c : Nat} {d : DataW H} {p : List MemPlace} (h : DataW.Trod enc Try.prog W 0 (fun _ => true) true 46 (.slice A n c) d p) : ∃ kb : List Bool, kb.length = n ∧ Rd W 0 W.heap.size 1 A n (kb.map Value.bool) ∧ n ≤ 9223372036854775807 := by
  obtain ⟨fuel, hf⟩ := h
  obtain ⟨A2, c2, kb, e, h1, h2⟩ := field_bools Try.underlying46 Try.underlying4 cells_1.2.2.2.2 hf
  simp only [Value.cells] at e
  injection e with e
  injection e with e1 e2 e3
  subst e1; subst e3
  exact ⟨kb, e2.symm, by rw [e2]; exact h1, by rw [e2]; exact h2⟩
end
end Go.Proofs.Ytcgcklfbnmaodaa

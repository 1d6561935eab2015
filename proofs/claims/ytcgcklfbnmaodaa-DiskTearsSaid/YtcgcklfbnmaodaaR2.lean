/- Slices of slices of bytes, slices of ints, as a row reads them. -/
import Derived.Test.YtcgcklfbnmaodaaD16
import Derived.Test.YtcgcklfbnmaodaaR
namespace Go.Proofs.Ytcgcklfbnmaodaa
open Go Go.RowKit Go.ChangeShapes Go.WideShapes Go.ChangeAt
set_option linter.unusedVariables false
set_option linter.unusedSimpArgs false
section
variable {H : Type} {enc : TypeId × Value → H} {W : World}
theorem open_bss {A : Option Addr} {n c : Nat} {d : DataW H} {p : List MemPlace} (h : DataW.Trod enc Try.prog W 0 (fun _ => true) true 33 (.slice A n c) d p) : ∃ (sl : List Sl) (ys : List (List UInt8)), sl.length = n ∧ Rd W 0 W.heap.size 1 A n (sl.map slv) ∧ RdB W W.heap.size sl ys := by
  obtain ⟨fuel, hf⟩ := h
  rcases Deep.open_slice1 Try.underlying33 cells_1.2.1 hf with ⟨hcs, _⟩ | ⟨a, len, cap, m, n', V, D, Pl, hcs, _, hl, hm, hmm, _, hx⟩
  · simp only [Value.cells] at hcs
    injection hcs with hcs
    injection hcs with h1 h2 h3
    subst h1; subst h2; subst h3
    exact ⟨[], [], rfl, Rd.nil, rfl, fun i s y hs => (by cases hs)⟩
  · simp only [Value.cells] at hcs
    injection hcs with hcs
    injection hcs with h1 h2 h3
    subst h1; subst h2; subst h3
    simp only [if_true] at hmm
    subst hmm
    obtain ⟨f, hfs⟩ := Deep.choose_lt (α := Sl × List UInt8) (p := fun i o => o.1.2.1 = o.2.length ∧ Rd W 0 W.heap.size 1 o.1.1 o.1.2.1 (bcells o.2) ∧ W.cell? (a.add i) = some (slv o.1)) (n := n) (fun i hi => by
      obtain ⟨h1, h2⟩ := hx i (by omega)
      obtain ⟨A2, c2, bs, e, hr⟩ := field_bytes Try.underlying22 Try.underlying5 cells_1.2.2.2.1 h2
      injection e with e
      exact ⟨((A2, bs.length, c2), bs), rfl, hr, by rw [h1, e]; rfl⟩)
    have hget : ∀ (i : Nat) (o : Sl × List UInt8), ((List.range n).map f)[i]? = some o → i < n ∧ o = f i := fun i o hi => by
      rw [List.getElem?_map] at hi
      obtain ⟨i', h1, rfl⟩ := Option.map_eq_some_iff.1 hi
      have hi2 : i < n := by have := (List.getElem?_eq_some_iff.1 h1).1; simpa using this
      rw [List.getElem?_range hi2] at h1
      injection h1 with h1
      exact ⟨hi2, by rw [h1]⟩
    refine ⟨((List.range n).map f).map (·.1), ((List.range n).map f).map (·.2), by simp, ⟨by simp, fun hn => ?_⟩, by simp, fun i s y hs hy => ?_⟩
    · obtain ⟨b, o, spot⟩ := a
      have h0 := (hfs 0 hn).2.2
      have hsp : spot = none := by simpa [Addr.add] using World.cell?_spot h0
      subst hsp
      refine ⟨b, o, rfl, Nat.zero_le _, block_of_cell (by simpa [Addr.add] using h0), fun j u hu => ?_⟩
      rw [List.getElem?_map, List.getElem?_map] at hu
      obtain ⟨s, hs, rfl⟩ := Option.map_eq_some_iff.1 hu
      obtain ⟨q, hq, rfl⟩ := Option.map_eq_some_iff.1 hs
      obtain ⟨hj, rfl⟩ := hget _ _ hq
      have := (hfs j hj).2.2
      unfold Addr.add at this
      split at this
      · rename_i e; subst e; simpa using this
      · exact this
    · rw [List.getElem?_map] at hs hy
      obtain ⟨q, hq, rfl⟩ := Option.map_eq_some_iff.1 hs
      obtain ⟨q2, hq2, rfl⟩ := Option.map_eq_some_iff.1 hy
      rw [hq] at hq2
      injection hq2 with hq2
      subst hq2
      obtain ⟨hj, rfl⟩ := hget _ _ hq
      exact ⟨(hfs i hj).1, (hfs i hj).2.1⟩
theorem open_is {A : Option Addr} {n c : Nat} {d : DataW H} {p : List MemPlace} (h : DataW.Trod enc Try.prog W 0 (fun _ => true) true 45 (.slice A n c) d p) : ∃ zs : List Int, zs.length = n ∧ Rd W 0 W.heap.size 1 A n (zs.map (Value.int .i64)) := by
  obtain ⟨zs, h1, h2, _⟩ := open_row Try.underlying45 Try.underlying3 cells_1.1 h
  exact ⟨zs, h1, h2⟩
end
end Go.Proofs.Ytcgcklfbnmaodaa

/- Slices of bytes that came in; images; what a crash leaves. -/
import Derived.Test.YtcgcklfbnmaodaaD15
namespace Go.Proofs.Ytcgcklfbnmaodaa
open Go Go.RowKit
set_option linter.unusedVariables false
set_option linter.unusedSimpArgs false
def RdB (w : World) (hi : Nat) (sl : List Sl) (ys : List (List UInt8)) : Prop := sl.length = ys.length ∧ ∀ (i : Nat) (s : Sl) (y : List UInt8), sl[i]? = some s → ys[i]? = some y → s.2.1 = y.length ∧ Rd w 0 hi 1 s.1 s.2.1 (bcells y)
theorem RdB.keep {S : Nat → Prop} {w w' : World} {hi : Nat} {sl : List Sl} {ys : List (List UInt8)} (h : RdB w hi sl ys) (K : Keep S w w') (hS : ∀ j, j < hi → S j) : RdB w' hi sl ys :=
  ⟨h.1, fun i s y hs hy => ⟨(h.2 i s y hs hy).1, (h.2 i s y hs hy).2.keep K fun b _ hb => hS b hb⟩⟩
theorem RdB.ext {w w' : World} {hi : Nat} {sl : List Sl} {ys : List (List UInt8)} (h : RdB w hi sl ys) (K : Ext w w') : RdB w' hi sl ys := h.keep K fun _ _ => trivial
theorem RdB.get {w : World} {hi : Nat} {sl : List Sl} {ys : List (List UInt8)} (h : RdB w hi sl ys) {i : Nat} {s : Sl} (hs : sl[i]? = some s) : ∃ y, ys[i]? = some y ∧ s.2.1 = y.length ∧ Rd w 0 hi 1 s.1 s.2.1 (bcells y) := by
  have hi' := (List.getElem?_eq_some_iff.1 hs).1
  have hy : ys[i]? = some (ys[i]'(by have := h.1; omega)) := List.getElem?_eq_getElem _
  exact ⟨_, hy, h.2 i s _ hs hy⟩
theorem RdB.set {w : World} {hi : Nat} {sl : List Sl} {ys : List (List UInt8)} (h : RdB w hi sl ys) {j : Nat} {s : Sl} {y : List UInt8} (h1 : s.2.1 = y.length) (h2 : Rd w 0 hi 1 s.1 s.2.1 (bcells y)) : RdB w hi (sl.set j s) (ys.set j y) := by
  refine ⟨by simpa using h.1, fun i s' y' hs hy => ?_⟩
  have hl := h.1
  rw [List.getElem?_set] at hs hy
  by_cases e : j = i
  · subst e
    rw [if_pos rfl] at hs hy
    split at hs
    · rw [if_pos (by omega)] at hy
      cases hs; cases hy
      exact ⟨h1, h2⟩
    · cases hs
  · rw [if_neg e] at hs hy
    exact h.2 i s' y' hs hy
theorem RdB.none (w : World) (hi k : Nat) : RdB w hi (List.replicate k (none, 0, 0)) (List.replicate k []) :=
  ⟨by simp, fun i s y hs hy => by
    rw [List.eq_of_mem_replicate (List.mem_of_getElem? hs), List.eq_of_mem_replicate (List.mem_of_getElem? hy)]
    exact ⟨rfl, Rd.nil⟩⟩
theorem write_m (z e : Int) (Ad : Option Addr) (m c lo hi : Nat) (ds : List UInt8) (s' : St) (F : Nat → Prop) (k : Nat) (s : St) (w : World) (hD : DiskAt w F k s) (hm : m = ds.length) (hr : Rd w lo hi 1 Ad m (bcells ds)) (hpl : s.pd.length ≤ 1000) (hs : s.write z ds = (e, s')) : Ret Try.prog 13 [.pointer (some ⟨k, 0, none⟩), .int .i64 z, .slice Ad m c] w fun v w' => ∃ F', v = .int .i64 e ∧ DiskAt w' F' k s' ∧ (∀ j, F' j → F j ∨ w.heap.size ≤ j) ∧ (∀ j, F j → F' j) ∧ Keep (fun j => ¬ F j) w w' := by
  subst hm
  exact write_e z e Ad c lo hi ds s' F k s w hD hr hpl hs
/-- an image of a disk: its blocks lie from m on and below mz -/
structure Img (w : World) (m mz g k : Nat) (sl : List Sl) (ys : List (List UInt8)) : Prop where
  own : Own w m 22 1 (some ⟨g, 0, none⟩) k k (sl.map slv)
  dat : Owns w m sl ys
  g : g < mz
  s : ∀ t ∈ sl, ∀ g' o, t.1 = some ⟨g', o, none⟩ → g' < mz
theorem Img.keep {S : Nat → Prop} {w w' : World} {m mz g k : Nat} {sl : List Sl} {ys : List (List UInt8)} (h : Img w m mz g k sl ys) (K : Keep S w w') (hS : ∀ j, m ≤ j → j < mz → S j) : Img w' m mz g k sl ys :=
  ⟨h.own.keep K (fun g' o e => by injection e with e; injection e with e; subst e; exact hS _ (h.own.lt rfl).1 h.g), Owns.keepS K h.dat (fun t ht g' o e => hS g' (h.dat.lt t ht g' o e).1 (h.s t ht g' o e)), h.g, h.s⟩
theorem Img.ext {w w' : World} {m mz g k : Nat} {sl : List Sl} {ys : List (List UInt8)} (h : Img w m mz g k sl ys) (K : Ext w w') : Img w' m mz g k sl ys := h.keep K fun _ _ _ => trivial
theorem Img.of {w : World} {m g k : Nat} {sl : List Sl} {ys : List (List UInt8)} (h1 : Own w m 22 1 (some ⟨g, 0, none⟩) k k (sl.map slv)) (h2 : Owns w m sl ys) : Img w m w.heap.size g k sl ys :=
  ⟨h1, h2, (h1.lt rfl).2, fun t ht g' o e => (h2.lt t ht g' o e).2⟩
theorem Img.more {w : World} {m mz mz' g k : Nat} {sl : List Sl} {ys : List (List UInt8)} (h : Img w m mz g k sl ys) (hm : mz ≤ mz') : Img w m mz' g k sl ys := ⟨h.own, h.dat, Nat.lt_of_lt_of_le h.g hm, fun t ht g' o e => Nat.lt_of_lt_of_le (h.s t ht g' o e) hm⟩
theorem look_not {pd : List (Nat × List UInt8)} {p : Nat} {d : List UInt8} (h : p ∉ pd.map (·.1)) : look pd p d = d := look_skip p pd d fun q hq e => h (List.mem_map.2 ⟨q, hq, e⟩)
theorem look_in {n : Nat} : ∀ {pd : List (Nat × List UInt8)} {p : Nat} (d d' : List UInt8), (∀ q ∈ pd, q.2.length = n) → p ∈ pd.map (·.1) → (look pd p d).length = n ∧ look pd p d = look pd p d'
  | [], _, _, _, _, h => by cases h
  | q :: pd, p, d, d', hn, h => by
    have e : ∀ x, look (q :: pd) p x = look pd p (if q.1 = p then q.2 else x) := fun x => rfl
    rw [e, e]
    by_cases hp : p ∈ pd.map (·.1)
    · exact look_in _ _ (fun q' hq' => hn q' (List.mem_cons_of_mem _ hq')) hp
    · have hq : q.1 = p := by
        rcases List.mem_cons.1 h with h | h
        · exact h.symm
        · exact absurd h hp
      rw [look_not hp, look_not hp, if_pos hq, if_pos hq]
      exact ⟨hn q List.mem_cons_self, rfl⟩
theorem look_emp {n : Nat} (h1 : 1 ≤ n) {pd : List (Nat × List UInt8)} {p : Nat} (hn : ∀ q ∈ pd, q.2.length = n) (h : look pd p [] = []) : p ∉ pd.map (·.1) := fun hp => by
  have := (look_in (n := n) [] [] hn hp).1
  rw [h] at this
  simp at this
  omega
theorem crash_law (kb : List Bool) {m n : Nat} (hm : m ≤ n) : ∀ (pd : List (Nat × List UInt8)) (i : Nat) (f : Bool) (du : List (List UInt8)), (∀ y ∈ du, y.length = n) → (∀ q ∈ pd, q.2.length = n) → (pd.map (·.1)).Nodup →
    ∃ t : Option Nat, (f = false → t = none) ∧ (∀ p, t = some p → p ∈ pd.map (·.1)) ∧ ∀ (p : Nat) (d y : List UInt8), du[p]? = some d → (crashG kb m i f pd du)[p]? = some y → y = d ∨ (p ∈ pd.map (·.1) ∧ y = look pd p []) ∨ (t = some p ∧ y = (look pd p []).take m ++ d.drop m)
  | [], i, f, du, _, _, _ => ⟨none, fun _ => rfl, fun p h => (by cases h), fun p d y h1 h2 => .inl (by
      have h2 : du[p]? = some y := h2
      rw [h1] at h2
      exact (Option.some.inj h2).symm)⟩
  | q :: pd, i, f, du, hd, hn, hnd => by
    have hnd2 : q.1 ∉ pd.map (·.1) ∧ (pd.map (·.1)).Nodup := by simpa using hnd
    have hn2 : ∀ q' ∈ pd, q'.2.length = n := fun q' hq' => hn q' (List.mem_cons_of_mem _ hq')
    have hq := hn q List.mem_cons_self
    have hl1 : ∀ p, p ≠ q.1 → look (q :: pd) p [] = look pd p [] := fun p hp => by
      show look pd p (if q.1 = p then q.2 else []) = _
      rw [if_neg (fun e => hp e.symm)]
    have hl2 : look (q :: pd) q.1 [] = q.2 := by
      show look pd q.1 (if q.1 = q.1 then q.2 else []) = _
      rw [if_pos rfl, look_not hnd2.1]
    have hpg : ∀ (x : List UInt8) (p : Nat) (d : List UInt8), du[p]? = some d → (putd du q.1 x)[p]? = some (if p = q.1 then x ++ d.drop x.length else d) := fun x p d h => by
      have hpl := (List.getElem?_eq_some_iff.1 h).1
      unfold putd
      rw [List.getElem?_set]
      by_cases e : q.1 = p
      · subst e
        rw [if_pos rfl, if_pos hpl, if_pos rfl, List.getD_eq_getElem?_getD, h]
        rfl
      · rw [if_neg e, if_neg (fun e' => e e'.symm), h]
    unfold crashG
    split
    · obtain ⟨t, h1, h2, h3⟩ := crash_law kb hm pd (i + 1) f (putd du q.1 q.2) (putd_all hd (Nat.le_of_eq hq)) hn2 hnd2.2
      refine ⟨t, h1, fun p hp => List.mem_cons_of_mem _ (h2 p hp), fun p d y hp hy => ?_⟩
      have hdl := hd d (List.mem_of_getElem? hp)
      have := h3 p _ y (hpg q.2 p d hp) hy
      by_cases e : p = q.1
      · subst e
        rw [if_pos rfl, hq, List.drop_of_length_le (by omega), List.append_nil] at this
        rcases this with h | h | h
        · exact .inr (.inl ⟨List.mem_cons_self, by rw [hl2]; exact h⟩)
        · exact absurd h.1 hnd2.1
        · exact absurd (h2 _ h.1) hnd2.1
      · rw [if_neg e] at this
        rw [hl1 p e]
        rcases this with h | h | h
        · exact .inl h
        · exact .inr (.inl ⟨List.mem_cons_of_mem _ h.1, h.2⟩)
        · exact .inr (.inr h)
    · split
      · rename_i hf
        obtain ⟨t, h1, h2, h3⟩ := crash_law kb hm pd (i + 1) false (putd du q.1 (q.2.take m)) (putd_all hd (by rw [List.length_take]; omega)) hn2 hnd2.2
        have ht := h1 rfl
        subst ht
        refine ⟨some q.1, (fun h => by rw [hf] at h; cases h), (fun p hp => by injection hp with hp; rw [← hp]; exact List.mem_cons_self), fun p d y hp hy => ?_⟩
        have := h3 p _ y (hpg (q.2.take m) p d hp) hy
        by_cases e : p = q.1
        · subst e
          rw [if_pos rfl, List.length_take, Nat.min_eq_left (by omega)] at this
          rcases this with h | h | h
          · exact .inr (.inr ⟨rfl, by rw [hl2]; exact h⟩)
          · exact absurd h.1 hnd2.1
          · cases h.1
        · rw [if_neg e] at this
          rw [hl1 p e]
          rcases this with h | h | h
          · exact .inl h
          · exact .inr (.inl ⟨List.mem_cons_of_mem _ h.1, h.2⟩)
          · cases h.1
      · obtain ⟨t, h1, h2, h3⟩ := crash_law kb hm pd (i + 1) f du hd hn2 hnd2.2
        refine ⟨t, h1, fun p hp => List.mem_cons_of_mem _ (h2 p hp), fun p d y hp hy => ?_⟩
        have := h3 p d y hp hy
        by_cases e : p = q.1
        · subst e
          rcases this with h | h | h
          · exact .inl h
          · exact absurd h.1 hnd2.1
          · exact absurd (h2 _ h.1) hnd2.1
        · rw [hl1 p e]
          rcases this with h | h | h
          · exact .inl h
          · exact .inr (.inl ⟨List.mem_cons_of_mem _ h.1, h.2⟩)
          · exact .inr (.inr h)
end Go.Proofs.Ytcgcklfbnmaodaa

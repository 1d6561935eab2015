/- copy, and a store into a slice of one's own. -/
import Derived.Test.YtcgcklfbnmaodaaS
import Derived.Laws.CopyRow
import Derived.Laws.IdiomCopy
namespace Go.Proofs.Ytcgcklfbnmaodaa
open Go Go.RowKit
set_option linter.unusedVariables false
section
variable {r : Option Nat} {P : Program} {N : Sz} {l : Env} {w : World} {o : Oper}
theorem Own.toBlk {w : World} {lo size n c g oo : Nat} {e : TypeId} {xs : List Value} (h : Own w lo e size (some ⟨g, oo, none⟩) n c xs) : oo = 0 ∧ lo ≤ g ∧ ∃ cs, Blk w g e cs ∧ n ≤ c ∧ c ≤ maxLen ∧ cs.length = c * size ∧ cs.take (n * size) = xs := by
  rcases h.2 with ⟨hv, h0⟩ | ⟨g', cap, cur, hv, hb, hgg, h1, h2, h3, h4⟩
  · injection hv with h1; cases h1
  · injection hv with e1 e2 e3
    injection e1 with e1
    injection e1 with e1 e4
    subst e1; subst e3; subst e4
    refine ⟨rfl, hb, cur.toList, ?_, h1, h2, by simpa using h3, h4⟩
    unfold Blk
    rw [hgg]
/-- element i of a slice of one's own is written -/
theorem ex_store_own {t e lo n c g oo i : Nat} {xs : List Value} {x y : Operand} {v : Value} (h1 : SizeIs P t 1) (hown : Own w lo e 1 (some ⟨g, oo, none⟩) n c xs) (hi : i < n) (ho : o.op = .store t x y) (hx : ev l x = some (.pointer (some ⟨g, oo + i, none⟩))) (hy : ev l y = some v) (hv : v.oneCell' = true) :
    Ex r P N o l w (fun _ w' => Keep (fun k => k ≠ g) w w' ∧ Own w' lo e 1 (some ⟨g, oo, none⟩) n c (xs.set i v) ∧ w'.heap.size = w.heap.size) := by
  obtain ⟨rfl, hlo, cs, hb, hnc, hcm, hl, htk⟩ := hown.toBlk
  refine (ex_store_blk h1 ho hx hy hv hb (by omega)).mono fun v' w' ⟨k1, k2, k3⟩ => ⟨k1, ?_, k3⟩
  have := Own.of_blk (lo := lo) (n := n) (c := c) (size := 1) k2 hlo hnc hcm (by simpa using hl)
  rw [Nat.mul_one, List.take_set, Nat.zero_add] at this
  rw [Nat.mul_one] at htk
  rw [htk] at this
  exact this
/-- 'copy(dst, src)', dst of one's own -/
theorem ex_copy {t t' e lo n c m c' hi lo' : Nat} {A A' : Option Addr} {xs news : List Value} {x y : Operand} (ht : P.underlying t = some (.slice e)) (hs : (P.info? e).map (·.size) = some 1)
    (ho : o.op = .call { callee := .builtin .copy, args := #[x, y], argTypes := #[t, t'] }) (hx : ev l x = some (.slice A n c)) (hy : ev l y = some (.slice A' m c')) (hown : Own w lo e 1 A n c xs) (hr : Rd w lo' hi 1 A' m news)
    (h1 : ∀ u ∈ news, u.oneCell' = true) : Ex r P N o l w (fun v' w' => v' = goInt ((min m n : Nat) : Int) ∧ Own w' lo e 1 A n c (news.take n ++ xs.drop m) ∧ Keep (fun k => ∀ o, A ≠ some ⟨k, o, none⟩) w w') := by
  have hxl : xs.length = n := by simpa using hown.1
  have hnl : news.length = m := by simpa using hr.1
  have main : ∃ w', (Builtin.copy_ #[t, t'] o.type #[.slice A n c, .slice A' m c']).run P w = .ok (goInt ((min m n : Nat) : Int)) w' ∧ Own w' lo e 1 A n c (news.take n ++ xs.drop m) ∧ Keep (fun k => ∀ o, A ≠ some ⟨k, o, none⟩) w w' := by
    rcases Nat.eq_zero_or_pos (min m n) with h0 | h0
    · refine ⟨w, ?_, ?_, Keep.refl _ _⟩
      · rw [h0]; exact run_copy_none (P := P) w t t' o.type e A A' n c m c' ht hs h0
      · have : news.take n ++ xs.drop m = xs := by
          rcases Nat.eq_zero_or_pos n with hn | hn
          · have hx0 : xs = [] := List.eq_nil_of_length_eq_zero (by omega)
            subst hn; subst hx0; simp
          · have hm : m = 0 := by omega
            have : news = [] := List.eq_nil_of_length_eq_zero (by omega)
            subst hm; subst this; simp
        rw [this]; exact hown
    · obtain ⟨b', o', rfl, _, _, hcell⟩ := hr.2 (by omega)
      rcases hown.form with ⟨rfl, hn0, _⟩ | ⟨g, rfl, hlo, hgs⟩
      · omega
      · obtain ⟨_, _, cs, hb, hnc, hcm, hl, htk⟩ := hown.toBlk
        rw [Nat.mul_one] at hl htk
        have hcopy := run_copy_row (P := P) w t t' o.type e g 0 n c ⟨b', o', none⟩ m c' cs.toArray e (news.take n) ht hs hb (by rw [List.length_take]; show min n news.length = min m n; omega)
          (fun j v hv => by
            rw [add_lit']
            refine hcell j v ?_
            rw [List.getElem?_take] at hv
            split at hv
            · exact hv
            · cases hv) (by simp only [Nat.zero_add, List.length_take, List.size_toArray]; omega) (fun v hv => h1 v (List.mem_of_mem_take hv))
        have hlen : (news.take n).length = min m n := by rw [List.length_take]; omega
        rw [hlen] at hcopy
        refine ⟨_, hcopy, ?_, ⟨rfl, rfl, rfl, by simp [World.setRow], fun k _ hk => ?_⟩⟩
        · have hb2 : Blk (w.setRow g ((cs.toArray.toList.take 0 ++ news.take n ++ cs.toArray.toList.drop (0 + min m n)).toArray)) g e (news.take n ++ cs.drop (min m n)) := by
            unfold Blk at hb ⊢
            simp [World.setRow, Array.getElem?_modify, hb]
          have := Own.of_blk (lo := lo) (n := n) (c := c) (size := 1) hb2 hlo hnc hcm (by rw [List.length_append, List.length_drop, hlen, Nat.mul_one]; omega)
          rw [Nat.mul_one, List.take_append, hlen] at this
          rw [List.take_of_length_le (l := news.take n) (i := n) (by rw [hlen]; omega), ← List.drop_take] at this
          rw [htk] at this
          have e5 : xs.drop (min m n) = xs.drop m := by
            rcases Nat.le_total m n with h | h
            · rw [Nat.min_eq_left h]
            · rw [Nat.min_eq_right h, List.drop_of_length_le (l := xs) (i := n) (by omega), List.drop_of_length_le (l := xs) (i := m) (by omega)]
          rw [e5] at this
          exact this
        · simp only [World.setRow, Array.getElem?_modify]
          rw [if_neg (fun e => hk 0 (by rw [e]))]
  obtain ⟨w', hrun, h2, h3⟩ := main
  refine ex_of (by simp [ho]) fun a ha => ⟨_, w', ?_, rfl, h2, h3⟩
  simp only [execOp, ho, resolve, invoke, builtin, Sem.run_bind, Sem.run_pure, Result.andThen_ok, List.map_toArray, List.map_cons, List.map_nil, ha.ev hx, ha.ev hy, hrun]
end
end Go.Proofs.Ytcgcklfbnmaodaa

/- Backward. -/
import Derived.Test.YtcgcklfbnmaodaaD8
namespace Go.Proofs.Ytcgcklfbnmaodaa
open Go Go.RowKit
set_option linter.unusedVariables false
set_option linter.unusedSimpArgs false
theorem qe_andE {N : Sz} {Q : Exit → Act → World → Prop} {l E : Env} {w : World} {X : World → Prop} (hs : Sub E l) (h : X w) : QE N (Exit.then (fun a w' => Of N E a ∧ X w') Q) .normal l w := fun _ ha => ⟨ha.sub hs, h⟩
theorem qe_only {N : Sz} {Q : Exit → Act → World → Prop} {l : Env} {w : World} {X : World → Prop} (h : X w) : QE N (Exit.then (fun _ w' => X w') Q) .normal l w := fun _ _ => h
/-- the elements of a slice of writes, backward -/
def bks (wl : List (Nat × Sl)) : List (Nat × (Nat × Sl)) := (List.range wl.length).reverse.map fun i => (i, wl.getD i (0, (none, 0, 0)))
theorem bks_length (wl : List (Nat × Sl)) : (bks wl).length = wl.length := by simp [bks]
theorem bks_get {wl : List (Nat × Sl)} {q : Nat} {p : Nat × Sl} (h : wl[q]? = some p) : (bks wl)[wl.length - 1 - q]? = some (q, p) := by
  have hq := (List.getElem?_eq_some_iff.1 h).1
  unfold bks
  rw [List.getElem?_map, List.getElem?_reverse (by simp; omega), List.length_range, List.getElem?_range (by omega), Option.map_some, show wl.length - 1 - (wl.length - 1 - q) = q by omega, List.getD_eq_getElem?_getD, h]
  rfl
theorem bks_pre {wl : List (Nat × Sl)} {pre : List (Nat × (Nat × Sl))} {x : Nat × (Nat × Sl)} (h : pre ++ [x] <+: bks wl) : wl[x.1]? = some x.2 ∧ ∀ (i : Nat) (p : Nat × Sl), x.1 < i → wl[i]? = some p → (i, p) ∈ pre := by
  obtain ⟨t, ht⟩ := h
  have hlen := congrArg List.length ht
  rw [bks_length] at hlen
  simp only [List.length_append, List.length_singleton] at hlen
  have hg : ∀ (i : Nat) (p : Nat × Sl), wl[i]? = some p → (pre ++ [x] ++ t)[wl.length - 1 - i]? = some (i, p) := fun i p hp => by rw [ht]; exact bks_get hp
  obtain ⟨p, hp⟩ : ∃ p, wl[wl.length - 1 - pre.length]? = some p := ⟨_, List.getElem?_eq_getElem (by omega)⟩
  have hx := hg _ _ hp
  rw [show wl.length - 1 - (wl.length - 1 - pre.length) = pre.length by omega, List.append_assoc, List.getElem?_append_right (Nat.le_refl _), Nat.sub_self] at hx
  simp at hx
  subst hx
  refine ⟨hp, fun i p' hi hp' => ?_⟩
  have hil := (List.getElem?_eq_some_iff.1 hp').1
  have := hg i p' hp'
  simp only at hi
  rw [List.append_assoc, List.getElem?_append_left (by omega)] at this
  exact List.mem_of_getElem? this
theorem look_skip (z : Nat) : ∀ (pd : List (Nat × List UInt8)) (d : List UInt8), (∀ p ∈ pd, p.1 ≠ z) → look pd z d = d
  | [], _, _ => rfl
  | p :: pd, d, h => by
    unfold look
    rw [List.foldl_cons, if_neg (h p List.mem_cons_self)]
    exact look_skip z pd d fun p hp => h p (List.mem_cons_of_mem _ hp)
theorem look_at {pd : List (Nat × List UInt8)} {z q : Nat} {d : List UInt8} {p : Nat × List UInt8} (hp : pd[q]? = some p) (h1 : p.1 = z) (h2 : ∀ (i : Nat) p', q < i → pd[i]? = some p' → p'.1 ≠ z) : look pd z d = p.2 := by
  obtain ⟨hl, rfl⟩ := List.getElem?_eq_some_iff.1 hp
  have e : pd = pd.take q ++ pd[q] :: pd.drop (q + 1) := by rw [← List.drop_eq_getElem_cons hl, List.take_append_drop]
  have : look pd z d = look (pd.drop (q + 1)) z pd[q].2 := by
    conv => lhs; rw [e]
    unfold look
    rw [List.foldl_append, List.foldl_cons, if_pos h1]
  rw [this]
  refine look_skip z _ _ fun p hp => ?_
  obtain ⟨i, hi⟩ := List.getElem?_of_mem hp
  rw [List.getElem?_drop] at hi
  exact h2 _ p (by omega) hi

/-- slices.Backward[[]kinkeep/disk.write,kinkeep/disk.write] -/
theorem back_c (P : Option Addr) (n c : Nat) (w : World) :
    Ret Try.prog 34 [.slice P n c] w fun v w' => ∃ b1, v = .func (.func 43) #[] [.pointer (some ⟨b1, 0, none⟩)].toArray ∧ Blk w' b1 60 [.slice P n c] ∧ Ext w w' := by
  have K0 : Ext w w := Keep.refl _ _
  refine ret_of Try.func34 rfl rfl ?_
  refine w_seq ?_
  refine w_region ?_
  refine st rfl rfl rfl (ex_box (cs := [.slice P n c]) rfl rfl rfl) ?_
  rintro _ w1 ⟨b1, rfl, hb0, E0, hb, hs0⟩
  replace K0 := K0.ext E0
  refine sv rfl rfl rfl (ex_assign rfl rfl) ?_
  refine w_nil (qe_next ?_)
  refine w_seq ?_
  refine w_region ?_
  refine sv rfl rfl rfl (ex_makeFunc (vs := []) rfl rfl rfl) ?_
  refine sv rfl rfl rfl (ex_assign rfl rfl) ?_
  refine w_nil (qe_next ?_)
  refine w_ret (qe_ret1 rfl rfl ?_)
  exact ⟨b1, rfl, hb, K0⟩

/-- slices.Backward[[]kinkeep/disk.write,kinkeep/disk.write]$1 -/
theorem back1_c (b1 l : Nat) (P : Option Addr) (n cP lo hi n1 : Nat) (wl : List (Nat × Sl)) (J : List (Nat × (Nat × Sl)) → World → Prop) (Jx : World → Prop) (w : World) (hn : n = wl.length) (hn2 : n ≤ 1000000) (hb : Blk w b1 60 [.slice P n cP]) (hr : Rd w lo hi 2 P n (wcells wl)) (hb1 : b1 < n1) (hhi : ∀ g o, P = some ⟨g, o, none⟩ → g < n1) (hrd : ∀ pre x W1, pre ++ [x] <+: bks wl → J pre W1 → Yld2 Try.prog l [(fun x : Nat × (Nat × Sl) => Value.int .i64 (x.1 : Int)) x, (fun x : Nat × (Nat × Sl) => Value.agg [Value.int .i64 (x.2.1 : Int), slv x.2.2].toArray) x] W1 (fun W' => J (pre ++ [x]) W' ∧ Keep (fun j => j < n1) W1 W') Jx) (hJ : J [] w) :
    Ret Try.prog 43 [yieldOf l, .pointer (some ⟨b1, 0, none⟩)] w fun v w' => J (bks wl) w' ∨ Jx w' := by
  refine ret_of Try.func43 rfl rfl ?_
  refine w_seq ?_
  refine w_region ?_
  refine sv rfl rfl rfl (ex_load one60 rfl rfl (hb.cell rfl)) ?_
  refine sv rfl rfl rfl (ex_len Try.underlying60 rfl rfl) ?_
  refine sv rfl rfl rfl (ex_sub rfl rfl rfl (i64_in (by omega) (by omega))) ?_
  refine sv rfl rfl rfl (ex_assign rfl rfl) ?_
  refine w_nil (qe_next ?_)
  refine w_block ?_
  refine w_loop (ι := Nat × Int) (fun i => [(0, yieldOf l), (1, .pointer (some ⟨b1, 0, none⟩)), (3, .int .i64 i.2)]) (fun i wL => i.1 ≤ n ∧ i.2 = (i.1 : Int) - 1 ∧ J ((bks wl).take (n - i.1)) wL ∧ Blk wL b1 60 [.slice P n cP] ∧ Rd wL lo hi 2 P n (wcells wl)) (fun i => i.1) ((n, (n : Int) - 1)) ⟨rfl, rfl, rfl, trivial⟩ ?_ ?_
  · exact ⟨Nat.le_refl _, rfl, by rw [Nat.sub_self, List.take_zero]; exact hJ, hb, hr⟩
  · clear hb hr hJ
    rintro ⟨q, z⟩ wL ⟨hq, hz, hJ, hb, hr⟩
    simp only at hq hz hJ
    refine w_seq ?_
    refine w_seq ?_
    refine w_region ?_
    refine sv rfl rfl rfl (ex_move rfl rfl) ?_
    refine sv rfl rfl rfl (ex_cmp rfl rfl rfl rfl) ?_
    refine w_nil (qe_next ?_)
    refine w_if rfl (fun hq2 => ?_) (fun hq2 => ?_)
    · skip
      replace hq2 : 0 ≤ z := by first | omega | (simp only at hq2; omega)
      obtain ⟨q, rfl⟩ : ∃ q1, q = q1 + 1 := ⟨q - 1, by omega⟩
      obtain rfl : z = (q : Int) := by omega
      obtain ⟨p, hp⟩ : ∃ p, wl[q]? = some p := ⟨_, List.getElem?_eq_getElem (by omega)⟩
      obtain ⟨bp, op, rfl, _, _, hcp⟩ := hr.addr (by omega)
      have hg2 := wcells_get hp
      have hpre : (bks wl).take (n - (q + 1)) ++ [(q, p)] = (bks wl).take (n - q) := by
        have := bks_get hp
        rw [show n - q = (n - (q + 1)) + 1 by omega, List.take_add_one, show n - (q + 1) = wl.length - 1 - q by omega, this]
        rfl
      refine w_skip (qe_next ?_)
      refine w_seq ?_
      refine w_block ?_
      refine w_seq ?_
      refine w_region ?_
      refine sv rfl rfl rfl (ex_move rfl rfl) ?_
      refine sv rfl rfl rfl (ex_move rfl rfl) ?_
      refine sv rfl rfl rfl (ex_load one60 rfl rfl (hb.cell rfl)) ?_
      refine sv rfl rfl rfl (ex_move rfl rfl) ?_
      refine sv rfl rfl rfl (ex_indexN Try.underlying60 sz66 q rfl rfl rfl (by first | rfl | omega) (by omega)) ?_
      refine sv rfl rfl rfl (ex_load_agg (cs := [.int .i64 (p.1 : Int), slv p.2]) agg66 rfl rfl (by intro q u hu; rcases q with _ | _ | q <;> simp at hu <;> subst hu <;> rw [Nat.add_assoc] <;> first | exact hcp _ _ hg2.1 | exact hcp _ _ hg2.2)) ?_
      refine st rfl rfl rfl (ex_yield2 (v := .int .i64 (q : Int)) (u := .agg [Value.int .i64 (p.1 : Int), slv p.2].toArray) rfl rfl rfl rfl (hrd _ (q, p) _ (by rw [hpre]; exact List.take_prefix _ _) hJ)) ?_
      rintro _ w1 ⟨b, rfl, hgo, hstop⟩
      refine sv rfl rfl rfl (ex_not rfl rfl) ?_
      refine w_nil (qe_next ?_)
      refine w_cond rfl (fun hst => ?_) (fun hst => ?_)
      · skip
        have hX := hstop (by simpa using hst)
        refine w_ret (qe_in_ret (qe_then_ret (qe_then_ret (qe_in_ret (qe_ret0 rfl ?_)))))
        exact .inr hX
      · skip
        obtain ⟨hJ2, K2⟩ := hgo (by simpa using hst)
        rw [hpre] at hJ2
        have hb2 := hb.keep K2 hb1
        have hr2 := hr.keepA K2 hhi
        refine w_skip (qe_in_normal (qe_next ?_))
        refine w_region ?_
        refine sv rfl rfl rfl (ex_move rfl rfl) ?_
        refine sv rfl rfl rfl (ex_sub rfl rfl rfl (i64_in (by omega) (by omega))) ?_
        refine sv rfl rfl rfl (ex_assign rfl rfl) ?_
        refine w_nil (qe_round ((q, (q : Int) - 1)) ⟨rfl, rfl, rfl, trivial⟩ ?_ ?_)
        · exact ⟨by simp only; omega, rfl, hJ2, hb2, hr2⟩
        · simp only; omega
    · skip
      replace hq2 : q = 0 := by first | omega | (simp only at hq2; omega)
      subst hq2
      rw [Nat.sub_zero, List.take_of_length_le (by rw [bks_length]; omega)] at hJ
      refine w_exit (qe_then_exit (qe_then_exit (qe_in_exit (qe_end0 rfl ?_))))
      exact .inl hJ
end Go.Proofs.Ytcgcklfbnmaodaa

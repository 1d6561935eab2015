/- An operation of a list; play; small. -/
import Derived.Test.YtcgcklfbnmaodaaD12
namespace Go.Proofs.Ytcgcklfbnmaodaa
open Go Go.RowKit
set_option linter.unusedVariables false
set_option linter.unusedSimpArgs false
/-- an operation of a list: its numbers, and where its slices lie -/
structure Op where
  k : Int
  z : Int
  A : Option Addr
  c : Nat
  bs : List UInt8
  n : Int
  B : Option Addr
  d : Nat
  kb : List Bool
  x : UInt8
def Op.cells (o : Op) : List Value := [.int .i64 o.k, .int .i64 o.z, .slice o.A o.bs.length o.c, .int .i64 o.n, .slice o.B o.kb.length o.d, bv o.x]
structure OpOk (w : World) (hi : Nat) (o : Op) : Prop where
  r : Rd w 0 hi 1 o.A o.bs.length (bcells o.bs)
  r2 : Rd w 0 hi 1 o.B o.kb.length (o.kb.map Value.bool)
  n2 : o.n ≤ 9223372036854775807
  q : o.kb.length ≤ 9223372036854775807
theorem OpOk.keep {S : Nat → Prop} {w w' : World} {hi : Nat} {o : Op} (h : OpOk w hi o) (K : Keep S w w') (hS : ∀ j, j < hi → S j) : OpOk w' hi o :=
  ⟨h.r.keep K (fun b _ hb => hS b hb), h.r2.keep K (fun b _ hb => hS b hb), h.n2, h.q⟩
theorem OpOk.ext {w w' : World} {hi : Nat} {o : Op} (h : OpOk w hi o) (K : Ext w w') : OpOk w' hi o := h.keep K fun _ _ => trivial
def ocells (os : List Op) : List Value := os.flatMap Op.cells
theorem ocells_length (os : List Op) : (ocells os).length = os.length * 6 := by
  induction os with
  | nil => rfl
  | cons o os ih => simp only [ocells, List.flatMap_cons, List.length_append, Op.cells, List.length_cons, List.length_nil] at ih ⊢; omega
theorem ocells_get {os : List Op} : ∀ {i : Nat} {o : Op}, os[i]? = some o → ∀ q u, o.cells[q]? = some u → (ocells os)[i * 6 + q]? = some u := by
  induction os with
  | nil => intro i o h; simp at h
  | cons o1 os ih =>
    intro i o h q u hu
    have h6 : o1.cells.length = 6 := rfl
    cases i with
    | zero =>
      simp at h
      subst h
      have hq : q < o1.cells.length := (List.getElem?_eq_some_iff.1 hu).1
      rw [ocells, List.flatMap_cons, Nat.zero_mul, Nat.zero_add, List.getElem?_append_left hq]
      exact hu
    | succ i =>
      rw [ocells, List.flatMap_cons, List.getElem?_append_right (by omega), show (i + 1) * 6 + q - o1.cells.length = i * 6 + q by omega]
      exact ih (by simpa using h) q u hu
/-- a list of operations that came in -/
structure OpsAt (w : World) (hi : Nat) (A : Option Addr) (os : List Op) : Prop where
  rd : Rd w 0 hi 6 A os.length (ocells os)
  ok : ∀ o ∈ os, OpOk w hi o
theorem OpsAt.keep {S : Nat → Prop} {w w' : World} {hi : Nat} {A : Option Addr} {os : List Op} (h : OpsAt w hi A os) (K : Keep S w w') (hS : ∀ j, j < hi → S j) : OpsAt w' hi A os :=
  ⟨h.rd.keep K (fun b _ hb => hS b hb), fun o ho => (h.ok o ho).keep K hS⟩
theorem OpsAt.ext {w w' : World} {hi : Nat} {A : Option Addr} {os : List Op} (h : OpsAt w hi A os) (K : Ext w w') : OpsAt w' hi A os := h.keep K fun _ _ => trivial
theorem OpsAt.at_ {w : World} {hi : Nat} {A : Option Addr} {os : List Op} (h : OpsAt w hi A os) {j : Nat} (hj : j < os.length) : ∃ o b off, os[j]? = some o ∧ A = some ⟨b, off, none⟩ ∧ OpOk w hi o ∧ ∀ q u, o.cells[q]? = some u → w.cell? ⟨b, off + j * 6 + q, none⟩ = some u := by
  obtain ⟨b, off, e, _, _, hc⟩ := h.rd.addr (by omega)
  have hg : os[j]? = some os[j] := List.getElem?_eq_getElem hj
  exact ⟨os[j], b, off, hg, e, h.ok _ (List.getElem_mem hj), fun q u hu => by rw [Nat.add_assoc]; exact hc _ _ (ocells_get hg q u hu)⟩
/-- an operation, played -/
def St.play (s : St) (o : Op) : (List UInt8 × Int) × St :=
  if o.k = 0 then (([], (s.write o.z o.bs).1), (s.write o.z o.bs).2) else if o.k = 1 then (s.read o.z, s) else if o.k = 2 then (([], s.sync.1), s.sync.2)
  else if o.k = 3 then (([], 0), s.fail o.n) else if o.k = 4 then (([], 0), s.crash o.kb o.n) else if o.k = 5 then (([], (s.spoil o.z o.n o.x).1), (s.spoil o.z o.n o.x).2) else (([], 0), s)
def St.plays (s : St) (os : List Op) : St := os.foldl (fun s o => (s.play o).2) s
theorem St.write_len (s : St) (z : Int) (d : List UInt8) : (s.write z d).2.pd.length ≤ s.pd.length + 1 ∧ (s.write z d).2.n = s.n ∧ (s.write z d).2.du = s.du := by
  unfold St.write
  split
  · exact ⟨Nat.le_succ _, rfl, rfl⟩
  · split
    · exact ⟨Nat.le_succ _, rfl, rfl⟩
    · have h := St.fails_pd ({ s with pd := s.pd ++ [(z.toNat, d)] } : St)
      simp only
      rw [h.1, h.2.1, h.2.2]
      exact ⟨by simp, rfl, rfl⟩
theorem St.sync_len (s : St) : s.sync.2.pd.length ≤ s.pd.length ∧ s.sync.2.n = s.n ∧ (s.Wf → s.sync.2.du.length = s.du.length) := by
  have h := s.fails_pd
  unfold St.sync
  split
  · exact ⟨Nat.le_refl _, rfl, fun _ => rfl⟩
  · split
    · exact ⟨by rw [h.1]; exact Nat.le_refl _, h.2.2, fun _ => by rw [h.2.1]⟩
    · refine ⟨Nat.zero_le _, h.2.2, fun hw => ?_⟩
      have := (flushG (n := s.n) s.pd s.du hw.du (fun p hp => Nat.le_of_eq (hw.pd p hp).2)).2
      show s.fails.2.flush.length = _
      unfold St.flush
      rw [h.1, h.2.1]
      exact this
theorem St.play_len (s : St) (o : Op) : (s.play o).2.pd.length ≤ s.pd.length + 1 ∧ (s.play o).2.n = s.n ∧ (s.Wf → (s.play o).2.du.length = s.du.length) := by
  unfold St.play
  split
  · have := s.write_len o.z o.bs
    exact ⟨this.1, this.2.1, fun _ => by rw [this.2.2]⟩
  · split
    · exact ⟨by simp only; omega, rfl, fun _ => rfl⟩
    · split
      · have := s.sync_len
        exact ⟨by simp only; omega, this.2.1, this.2.2⟩
      · split
        · unfold St.fail
          split <;> exact ⟨by simp only; omega, rfl, fun _ => rfl⟩
        · split
          · exact ⟨by simp [St.crash], rfl, fun hw => by
              have := (crashG_ok (n := s.n) o.kb (tornN o.n s.n) s.pd 0 true s.du hw.du (fun p hp => Nat.le_of_eq (hw.pd p hp).2)).2
              exact this⟩
          · split
            · unfold St.spoil
              split
              · exact ⟨by simp only; omega, rfl, fun _ => rfl⟩
              · exact ⟨by simp only; omega, rfl, fun _ => by simp⟩
            · exact ⟨by simp only; omega, rfl, fun _ => rfl⟩
theorem plays_snoc {os : List Op} {i : Nat} {o : Op} (h : os[i]? = some o) (s : St) : s.plays (os.take (i + 1)) = ((s.plays (os.take i)).play o).2 := by
  unfold St.plays
  rw [List.take_add_one, h, List.foldl_append]
  rfl

/-- kinkeep/kinkeeplaw15.play -/
theorem play_c (o : Op) (hi : Nat) (F : Nat → Prop) (k : Nat) (s : St) (w : World) (hD : DiskAt w F k s) (ho : OpOk w hi o) (hF : ∀ j, F j → hi ≤ j) (hpl : s.pd.length ≤ 1000) :
    Ret Try.prog 26 [.pointer (some ⟨k, 0, none⟩), .agg o.cells.toArray] w fun v w' => ∃ B d F', v = .tuple #[.slice B (s.play o).1.1.length d, .int .i64 (s.play o).1.2] ∧ DiskAt w' F' k (s.play o).2 ∧ (∀ j, F' j → F j ∨ w.heap.size ≤ j) ∧ (∀ j, F j → F' j) ∧ Own w' w.heap.size 5 1 B (s.play o).1.1.length d (bcells (s.play o).1.1) ∧ Keep (fun j => ¬ F j) w w' := by
  have K0 : Ext w w := Keep.refl _ _
  refine ret_of Try.func26 rfl rfl ?_
  refine w_seq ?_
  refine w_region ?_
  refine st rfl rfl rfl (ex_box (cs := o.cells) rfl rfl rfl) ?_
  rintro _ w1 ⟨b3, rfl, h30, E3, hb3, hs3⟩
  replace hD := hD.ext E3
  replace ho := ho.ext E3
  replace K0 := K0.ext E3
  have hszK := K0.size
  refine sv rfl rfl rfl (ex_assign rfl rfl) ?_
  refine sv rfl rfl rfl (ex_assign rfl rfl) ?_
  refine w_nil (qe_next ?_)
  refine w_seq ?_
  refine w_seq ?_
  refine w_region ?_
  refine sv rfl rfl rfl (ex_fieldAddr fld50_0 rfl rfl) ?_
  refine sv rfl rfl rfl (ex_load one3 rfl rfl (hb3.cell rfl)) ?_
  refine w_nil (qe_next ?_)
  refine w_block ?_
  refine w_seq ?_
  refine w_region ?_
  refine sv rfl rfl rfl (ex_cmp rfl rfl rfl rfl) ?_
  refine sv rfl rfl rfl (ex_assign rfl rfl) ?_
  refine w_nil (qe_next ?_)
  refine w_if rfl (fun h0 => ?_) (fun h0 => ?_)
  · skip
    refine w_seq ?_
    refine w_region ?_
    refine sv rfl rfl rfl (ex_move rfl rfl) ?_
    refine sv rfl rfl rfl (ex_fieldAddr fld50_1 rfl rfl) ?_
    refine sv rfl rfl rfl (ex_load one3 rfl rfl (hb3.cell rfl)) ?_
    refine sv rfl rfl rfl (ex_fieldAddr fld50_2 rfl rfl) ?_
    refine sv rfl rfl rfl (ex_load one22 rfl rfl (hb3.cell rfl)) ?_
    refine st rfl rfl rfl (ex_call call13 rfl rfl (write_e o.z _ o.A o.c 0 hi o.bs _ F k s _ hD ho.r hpl rfl)) ?_
    rintro _ w2 ⟨F2, rfl, hD2, hG2, hG3, K2⟩
    refine sv rfl rfl rfl (ex_assign rfl rfl) ?_
    refine sv rfl rfl rfl (ex_assign rfl rfl) ?_
    refine w_nil (qe_next ?_)
    refine w_ret (qe_in_ret (qe_then_ret (qe_ret2 rfl rfl rfl ?_)))
    have hpl9 : s.play o = (([], (s.write o.z o.bs).1), (s.write o.z o.bs).2) := by unfold St.play; rw [if_pos h0]
    rw [hpl9]
    exact ⟨none, 0, F2, rfl, hD2, fun j hj => (hG2 j hj).imp id (fun h => by omega), hG3, Own.nil _ _ _ _, (Keep.of_ext K0 _).trans K2 (fun j _ hj => hj)⟩
  · skip
    refine w_seq ?_
    refine w_region ?_
    refine sv rfl rfl rfl (ex_cmp rfl rfl rfl rfl) ?_
    refine sv rfl rfl rfl (ex_assign rfl rfl) ?_
    refine w_nil (qe_next ?_)
    refine w_if rfl (fun h1 => ?_) (fun h1 => ?_)
    · skip
      refine w_seq ?_
      refine w_region ?_
      refine sv rfl rfl rfl (ex_move rfl rfl) ?_
      refine sv rfl rfl rfl (ex_fieldAddr fld50_1 rfl rfl) ?_
      refine sv rfl rfl rfl (ex_load one3 rfl rfl (hb3.cell rfl)) ?_
      refine st rfl rfl rfl (ex_call call14 rfl rfl (read_e o.z _ _ F k s _ hD hpl rfl)) ?_
      rintro _ w3 ⟨B, d, rfl, hB, E4⟩
      replace hD := hD.ext E4
      replace ho := ho.ext E4
      replace K0 := K0.ext E4
      replace hb3 := hb3.ext E4
      refine sv rfl rfl rfl (ex_extract rfl rfl rfl) ?_
      refine sv rfl rfl rfl (ex_extract rfl rfl rfl) ?_
      refine sv rfl rfl rfl (ex_assign rfl rfl) ?_
      refine sv rfl rfl rfl (ex_assign rfl rfl) ?_
      refine w_nil (qe_next ?_)
      refine w_ret (qe_in_ret (qe_then_ret (qe_ret2 rfl rfl rfl ?_)))
      have hpl9 : s.play o = (s.read o.z, s) := by unfold St.play; rw [if_neg h0, if_pos h1]
      rw [hpl9]
      exact ⟨B, d, F, rfl, hD, fun j hj => .inl hj, fun j hj => hj, hB.lower hszK, Keep.of_ext K0 _⟩
    · skip
      refine w_seq ?_
      refine w_region ?_
      refine sv rfl rfl rfl (ex_cmp rfl rfl rfl rfl) ?_
      refine sv rfl rfl rfl (ex_assign rfl rfl) ?_
      refine w_nil (qe_next ?_)
      refine w_if rfl (fun h2 => ?_) (fun h2 => ?_)
      · skip
        refine w_seq ?_
        refine w_region ?_
        refine sv rfl rfl rfl (ex_move rfl rfl) ?_
        refine st rfl rfl rfl (ex_call call16 rfl rfl (sync_e _ _ F k s _ hD hpl rfl)) ?_
        rintro _ w4 ⟨F2, rfl, hD2, hG2, hG3, K2⟩
        refine sv rfl rfl rfl (ex_assign rfl rfl) ?_
        refine sv rfl rfl rfl (ex_assign rfl rfl) ?_
        refine w_nil (qe_next ?_)
        refine w_ret (qe_in_ret (qe_then_ret (qe_ret2 rfl rfl rfl ?_)))
        have hpl9 : s.play o = (([], s.sync.1), s.sync.2) := by unfold St.play; rw [if_neg h0, if_neg h1, if_pos h2]
        rw [hpl9]
        exact ⟨none, 0, F2, rfl, hD2, fun j hj => (hG2 j hj).imp id (fun h => by omega), hG3, Own.nil _ _ _ _, (Keep.of_ext K0 _).trans K2 (fun j _ hj => hj)⟩
      · skip
        refine w_seq ?_
        refine w_region ?_
        refine sv rfl rfl rfl (ex_cmp rfl rfl rfl rfl) ?_
        refine sv rfl rfl rfl (ex_assign rfl rfl) ?_
        refine w_nil (qe_next ?_)
        refine w_if rfl (fun h3 => ?_) (fun h3 => ?_)
        · skip
          refine w_region ?_
          refine sv rfl rfl rfl (ex_move rfl rfl) ?_
          refine sv rfl rfl rfl (ex_fieldAddr fld50_3 rfl rfl) ?_
          refine sv rfl rfl rfl (ex_load one3 rfl rfl (hb3.cell rfl)) ?_
          refine st rfl rfl rfl (ex_call call30 rfl rfl (fail_e o.n _ F k s _ hD ho.n2 rfl)) ?_
          rintro _ w5 ⟨rfl, hD2, K2⟩
          refine w_nil (qe_in_normal (qe_next ?_))
          refine w_seq ?_
          refine w_region ?_
          refine sv rfl rfl rfl (ex_assign rfl rfl) ?_
          refine sv rfl rfl rfl (ex_assign rfl rfl) ?_
          refine w_nil (qe_next ?_)
          refine w_ret (qe_ret2 rfl rfl rfl ?_)
          have hpl9 : s.play o = (([], 0), s.fail o.n) := by unfold St.play; rw [if_neg h0, if_neg h1, if_neg h2, if_pos h3]
          rw [hpl9]
          exact ⟨none, 0, F, rfl, hD2, fun j hj => .inl hj, fun j hj => hj, Own.nil _ _ _ _, (Keep.of_ext K0 _).trans K2 (fun j _ hj => hj)⟩
        · skip
          refine w_seq ?_
          refine w_region ?_
          refine sv rfl rfl rfl (ex_cmp rfl rfl rfl rfl) ?_
          refine sv rfl rfl rfl (ex_assign rfl rfl) ?_
          refine w_nil (qe_next ?_)
          refine w_if rfl (fun h4 => ?_) (fun h4 => ?_)
          · skip
            refine w_region ?_
            refine sv rfl rfl rfl (ex_move rfl rfl) ?_
            refine sv rfl rfl rfl (ex_fieldAddr fld50_4 rfl rfl) ?_
            refine sv rfl rfl rfl (ex_load one46 rfl rfl (hb3.cell rfl)) ?_
            refine sv rfl rfl rfl (ex_fieldAddr fld50_3 rfl rfl) ?_
            refine sv rfl rfl rfl (ex_load one3 rfl rfl (hb3.cell rfl)) ?_
            refine st rfl rfl rfl (ex_call call27 rfl rfl (crash_e o.kb o.n o.B o.kb.length o.d 0 hi _ F k s _ hD rfl ho.r2 (fun g q e hq hg => by
              obtain ⟨b, o2, e2, _, h, _⟩ := ho.r2.addr hq
              rw [e] at e2
              injection e2 with e2
              injection e2 with e2
              have := hF g hg
              omega) hpl ho.q rfl)) ?_
            rintro _ w6 ⟨F2, rfl, hD2, hG2, hG3, K2⟩
            refine w_nil (qe_in_normal (qe_next ?_))
            refine w_seq ?_
            refine w_region ?_
            refine sv rfl rfl rfl (ex_assign rfl rfl) ?_
            refine sv rfl rfl rfl (ex_assign rfl rfl) ?_
            refine w_nil (qe_next ?_)
            refine w_ret (qe_ret2 rfl rfl rfl ?_)
            have hpl9 : s.play o = (([], 0), s.crash o.kb o.n) := by unfold St.play; rw [if_neg h0, if_neg h1, if_neg h2, if_neg h3, if_pos h4]
            rw [hpl9]
            exact ⟨none, 0, F2, rfl, hD2, fun j hj => (hG2 j hj).imp id (fun h => by omega), hG3, Own.nil _ _ _ _, (Keep.of_ext K0 _).trans K2 (fun j _ hj => hj)⟩
          · skip
            refine w_seq ?_
            refine w_region ?_
            refine sv rfl rfl rfl (ex_cmp rfl rfl rfl rfl) ?_
            refine sv rfl rfl rfl (ex_assign rfl rfl) ?_
            refine w_nil (qe_next ?_)
            refine w_if rfl (fun h5 => ?_) (fun h5 => ?_)
            · skip
              refine w_seq ?_
              refine w_region ?_
              refine sv rfl rfl rfl (ex_move rfl rfl) ?_
              refine sv rfl rfl rfl (ex_fieldAddr fld50_1 rfl rfl) ?_
              refine sv rfl rfl rfl (ex_load one3 rfl rfl (hb3.cell rfl)) ?_
              refine sv rfl rfl rfl (ex_fieldAddr fld50_3 rfl rfl) ?_
              refine sv rfl rfl rfl (ex_load one3 rfl rfl (hb3.cell rfl)) ?_
              refine sv rfl rfl rfl (ex_fieldAddr fld50_5 rfl rfl) ?_
              refine sv rfl rfl rfl (ex_load one5 rfl rfl (hb3.cell rfl)) ?_
              refine st rfl rfl rfl (ex_call call28 rfl rfl (spoil_e o.z o.n _ o.x _ F k s _ hD rfl)) ?_
              rintro _ w7 ⟨F2, rfl, hD2, hG2, hG3, K2⟩
              refine sv rfl rfl rfl (ex_assign rfl rfl) ?_
              refine sv rfl rfl rfl (ex_assign rfl rfl) ?_
              refine w_nil (qe_next ?_)
              refine w_ret (qe_in_ret (qe_then_ret (qe_ret2 rfl rfl rfl ?_)))
              have hpl9 : s.play o = (([], (s.spoil o.z o.n o.x).1), (s.spoil o.z o.n o.x).2) := by unfold St.play; rw [if_neg h0, if_neg h1, if_neg h2, if_neg h3, if_neg h4, if_pos h5]
              rw [hpl9]
              exact ⟨none, 0, F2, rfl, hD2, fun j hj => (hG2 j hj).imp id (fun h => by omega), hG3, Own.nil _ _ _ _, (Keep.of_ext K0 _).trans K2 (fun j _ hj => hj)⟩
            · skip
              refine w_skip (qe_in_normal (qe_next ?_))
              refine w_seq ?_
              refine w_region ?_
              refine sv rfl rfl rfl (ex_assign rfl rfl) ?_
              refine sv rfl rfl rfl (ex_assign rfl rfl) ?_
              refine w_nil (qe_next ?_)
              refine w_ret (qe_ret2 rfl rfl rfl ?_)
              have hpl9 : s.play o = (([], 0), s) := by unfold St.play; rw [if_neg h0, if_neg h1, if_neg h2, if_neg h3, if_neg h4, if_neg h5]
              rw [hpl9]
              exact ⟨none, 0, F, rfl, hD, fun j hj => .inl hj, fun j hj => hj, Own.nil _ _ _ _, Keep.of_ext K0 _⟩

/-- kinkeep/kinkeeplaw15.small -/
theorem small_c (z1 z2 : Int) (A : Option Addr) (m c : Nat) (w : World) :
    Ret Try.prog 25 [.int .i64 z1, .int .i64 z2, .slice A m c] w fun v w' => Dv (.bool (decide (1 ≤ z1 ∧ z1 ≤ 8 ∧ 1 ≤ z2 ∧ z2 ≤ 8 ∧ m ≤ 40))) w v w' := by
  refine ret_of Try.func25 rfl rfl ?_
  refine w_seq ?_
  refine w_region ?_
  refine sv rfl rfl rfl (ex_assign rfl rfl) ?_
  refine w_nil (qe_next ?_)
  refine w_seq ?_
  refine w_region ?_
  refine sv rfl rfl rfl (ex_move rfl rfl) ?_
  refine sv_if rfl rfl rfl (ex_cmp rfl rfl rfl rfl) (fun h1 => ?_) (fun h1 => ?_)
  · skip
    refine sv rfl rfl rfl (ex_move rfl rfl) ?_
    first | refine sk rfl rfl rfl ?_ | refine sv rfl rfl rfl (ex_move rfl rfl) ?_
    refine sv_if rfl rfl rfl (ex_cmp rfl rfl rfl rfl) (fun h2 => ?_) (fun h2 => ?_)
    · skip
      first | refine sv rfl rfl rfl (ex_pick_t rfl rfl rfl) ?_ | refine sv rfl rfl rfl (ex_pick_f rfl rfl rfl) ?_
      refine sv rfl rfl rfl (ex_move rfl rfl) ?_
      first | refine sk rfl rfl rfl ?_ | refine sv rfl rfl rfl (ex_move rfl rfl) ?_
      refine sv_if rfl rfl rfl (ex_cmp rfl rfl rfl rfl) (fun h3 => ?_) (fun h3 => ?_)
      · skip
        first | refine sv rfl rfl rfl (ex_pick_t rfl rfl rfl) ?_ | refine sv rfl rfl rfl (ex_pick_f rfl rfl rfl) ?_
        refine sv rfl rfl rfl (ex_move rfl rfl) ?_
        first | refine sk rfl rfl rfl ?_ | refine sv rfl rfl rfl (ex_move rfl rfl) ?_
        refine sv_if rfl rfl rfl (ex_cmp rfl rfl rfl rfl) (fun h4 => ?_) (fun h4 => ?_)
        · skip
          first | refine sv rfl rfl rfl (ex_pick_t rfl rfl rfl) ?_ | refine sv rfl rfl rfl (ex_pick_f rfl rfl rfl) ?_
          refine sv rfl rfl rfl (ex_move rfl rfl) ?_
          first | refine sk rfl rfl rfl ?_ | refine sv rfl rfl rfl (ex_move rfl rfl) ?_
          first | refine sk rfl rfl rfl ?_ | refine sv rfl rfl rfl (ex_len Try.underlying44 rfl rfl) ?_
          first | refine sk rfl rfl rfl ?_ | refine sv rfl rfl rfl (ex_cmp rfl rfl rfl rfl) ?_
          first | refine sv rfl rfl rfl (ex_pick_t rfl rfl rfl) ?_ | refine sv rfl rfl rfl (ex_pick_f rfl rfl rfl) ?_
          refine sv rfl rfl rfl (ex_assign rfl rfl) ?_
          refine w_nil (qe_next ?_)
          refine w_ret (qe_ret1 rfl rfl ?_)
          exact ⟨congrArg Value.bool (by first | exact decide_eq_decide.2 (by omega) | exact (decide_eq_false (by omega)).symm), rfl⟩
        · skip
          first | refine sv rfl rfl rfl (ex_pick_t rfl rfl rfl) ?_ | refine sv rfl rfl rfl (ex_pick_f rfl rfl rfl) ?_
          refine sv rfl rfl rfl (ex_move rfl rfl) ?_
          first | refine sk rfl rfl rfl ?_ | refine sv rfl rfl rfl (ex_move rfl rfl) ?_
          refine sk rfl rfl rfl ?_
          refine sk rfl rfl rfl ?_
          first | refine sv rfl rfl rfl (ex_pick_t rfl rfl rfl) ?_ | refine sv rfl rfl rfl (ex_pick_f rfl rfl rfl) ?_
          refine sv rfl rfl rfl (ex_assign rfl rfl) ?_
          refine w_nil (qe_next ?_)
          refine w_ret (qe_ret1 rfl rfl ?_)
          exact ⟨congrArg Value.bool (by first | exact decide_eq_decide.2 (by omega) | exact (decide_eq_false (by omega)).symm), rfl⟩
      · skip
        first | refine sv rfl rfl rfl (ex_pick_t rfl rfl rfl) ?_ | refine sv rfl rfl rfl (ex_pick_f rfl rfl rfl) ?_
        refine sv rfl rfl rfl (ex_move rfl rfl) ?_
        first | refine sk rfl rfl rfl ?_ | refine sv rfl rfl rfl (ex_move rfl rfl) ?_
        refine sk rfl rfl rfl ?_
        first | refine sv rfl rfl rfl (ex_pick_t rfl rfl rfl) ?_ | refine sv rfl rfl rfl (ex_pick_f rfl rfl rfl) ?_
        refine sv rfl rfl rfl (ex_move rfl rfl) ?_
        first | refine sk rfl rfl rfl ?_ | refine sv rfl rfl rfl (ex_move rfl rfl) ?_
        refine sk rfl rfl rfl ?_
        refine sk rfl rfl rfl ?_
        first | refine sv rfl rfl rfl (ex_pick_t rfl rfl rfl) ?_ | refine sv rfl rfl rfl (ex_pick_f rfl rfl rfl) ?_
        refine sv rfl rfl rfl (ex_assign rfl rfl) ?_
        refine w_nil (qe_next ?_)
        refine w_ret (qe_ret1 rfl rfl ?_)
        exact ⟨congrArg Value.bool (by first | exact decide_eq_decide.2 (by omega) | exact (decide_eq_false (by omega)).symm), rfl⟩
    · skip
      first | refine sv rfl rfl rfl (ex_pick_t rfl rfl rfl) ?_ | refine sv rfl rfl rfl (ex_pick_f rfl rfl rfl) ?_
      refine sv rfl rfl rfl (ex_move rfl rfl) ?_
      first | refine sk rfl rfl rfl ?_ | refine sv rfl rfl rfl (ex_move rfl rfl) ?_
      refine sk rfl rfl rfl ?_
      first | refine sv rfl rfl rfl (ex_pick_t rfl rfl rfl) ?_ | refine sv rfl rfl rfl (ex_pick_f rfl rfl rfl) ?_
      refine sv rfl rfl rfl (ex_move rfl rfl) ?_
      first | refine sk rfl rfl rfl ?_ | refine sv rfl rfl rfl (ex_move rfl rfl) ?_
      refine sk rfl rfl rfl ?_
      first | refine sv rfl rfl rfl (ex_pick_t rfl rfl rfl) ?_ | refine sv rfl rfl rfl (ex_pick_f rfl rfl rfl) ?_
      refine sv rfl rfl rfl (ex_move rfl rfl) ?_
      first | refine sk rfl rfl rfl ?_ | refine sv rfl rfl rfl (ex_move rfl rfl) ?_
      refine sk rfl rfl rfl ?_
      refine sk rfl rfl rfl ?_
      first | refine sv rfl rfl rfl (ex_pick_t rfl rfl rfl) ?_ | refine sv rfl rfl rfl (ex_pick_f rfl rfl rfl) ?_
      refine sv rfl rfl rfl (ex_assign rfl rfl) ?_
      refine w_nil (qe_next ?_)
      refine w_ret (qe_ret1 rfl rfl ?_)
      exact ⟨congrArg Value.bool (by first | exact decide_eq_decide.2 (by omega) | exact (decide_eq_false (by omega)).symm), rfl⟩
  · skip
    refine sv rfl rfl rfl (ex_move rfl rfl) ?_
    first | refine sk rfl rfl rfl ?_ | refine sv rfl rfl rfl (ex_move rfl rfl) ?_
    refine sk rfl rfl rfl ?_
    first | refine sv rfl rfl rfl (ex_pick_t rfl rfl rfl) ?_ | refine sv rfl rfl rfl (ex_pick_f rfl rfl rfl) ?_
    refine sv rfl rfl rfl (ex_move rfl rfl) ?_
    first | refine sk rfl rfl rfl ?_ | refine sv rfl rfl rfl (ex_move rfl rfl) ?_
    refine sk rfl rfl rfl ?_
    first | refine sv rfl rfl rfl (ex_pick_t rfl rfl rfl) ?_ | refine sv rfl rfl rfl (ex_pick_f rfl rfl rfl) ?_
    refine sv rfl rfl rfl (ex_move rfl rfl) ?_
    first | refine sk rfl rfl rfl ?_ | refine sv rfl rfl rfl (ex_move rfl rfl) ?_
    refine sk rfl rfl rfl ?_
    first | refine sv rfl rfl rfl (ex_pick_t rfl rfl rfl) ?_ | refine sv rfl rfl rfl (ex_pick_f rfl rfl rfl) ?_
    refine sv rfl rfl rfl (ex_move rfl rfl) ?_
    first | refine sk rfl rfl rfl ?_ | refine sv rfl rfl rfl (ex_move rfl rfl) ?_
    refine sk rfl rfl rfl ?_
    refine sk rfl rfl rfl ?_
    first | refine sv rfl rfl rfl (ex_pick_t rfl rfl rfl) ?_ | refine sv rfl rfl rfl (ex_pick_f rfl rfl rfl) ?_
    refine sv rfl rfl rfl (ex_assign rfl rfl) ?_
    refine w_nil (qe_next ?_)
    refine w_ret (qe_ret1 rfl rfl ?_)
    exact ⟨congrArg Value.bool (by first | exact decide_eq_decide.2 (by omega) | exact (decide_eq_false (by omega)).symm), rfl⟩
end Go.Proofs.Ytcgcklfbnmaodaa

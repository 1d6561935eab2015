/- The reference plays. -/
import Derived.Test.YtcgcklfbnmaodaaD22
namespace Go.Proofs.Ytcgcklfbnmaodaa
open Go Go.RowKit
set_option linter.unusedVariables false
set_option linter.unusedSimpArgs false
/-- kinkeep/kinkeeplaw15.model -/
theorem model_c (o : Op) (hi : Nat) (F : Nat → Prop) (k : Nat) (s : St) (w : World) (hR : RefAt w F k s) (ho : OpOk w hi o) (hF : ∀ j, F j → hi ≤ j) (hpl : s.pd.length ≤ 1000) :
    Ret Try.prog 29 [.pointer (some ⟨k, 0, none⟩), .agg o.cells.toArray] w fun v w' => ∃ B d F', v = .tuple #[.slice B (s.play o).1.1.length d, .int .i64 (s.play o).1.2] ∧ RefAt w' F' k (s.play o).2 ∧ (∀ j, F' j → F j ∨ w.heap.size ≤ j) ∧ (∀ j, F j → F' j) ∧ Own w' w.heap.size 5 1 B (s.play o).1.1.length d (bcells (s.play o).1.1) ∧ Keep (fun j => ¬ F j) w w' := by
  have K0 : Ext w w := Keep.refl _ _
  have hkF : F k := by obtain ⟨_, _, _, _, h, _⟩ := hR; exact h
  refine ret_of Try.func29 rfl rfl ?_
  refine w_seq ?_
  refine w_region ?_
  refine st rfl rfl rfl (ex_box (cs := o.cells) rfl rfl rfl) ?_
  rintro _ w1 ⟨b3, rfl, h30, E3, hb3, hs3⟩
  replace hR := hR.ext E3
  replace ho := ho.ext E3
  replace K0 := K0.ext E3
  have hszK := K0.size
  refine sv rfl rfl rfl (ex_assign rfl rfl) ?_
  refine sv rfl rfl rfl (ex_assign rfl rfl) ?_
  refine w_nil (qe_next ?_)
  refine w_seq ?_
  refine w_seq ?_
  refine w_region ?_
  refine sv rfl rfl rfl (ex_fieldAddr fld50_0 rfl rfl) ?_
  refine sv rfl rfl rfl (ex_load one3 rfl rfl (hb3.cell rfl)) ?_
  refine w_nil (qe_next ?_)
  refine w_block ?_
  refine w_seq ?_
  refine w_region ?_
  refine sv rfl rfl rfl (ex_cmp rfl rfl rfl rfl) ?_
  refine sv rfl rfl rfl (ex_assign rfl rfl) ?_
  refine w_nil (qe_next ?_)
  refine w_if rfl (fun h0 => ?_) (fun h0 => ?_)
  · skip
    refine w_seq ?_
    refine w_region ?_
    refine sv rfl rfl rfl (ex_move rfl rfl) ?_
    refine sv rfl rfl rfl (ex_fieldAddr fld50_1 rfl rfl) ?_
    refine sv rfl rfl rfl (ex_load one3 rfl rfl (hb3.cell rfl)) ?_
    refine sv rfl rfl rfl (ex_fieldAddr fld50_2 rfl rfl) ?_
    refine sv rfl rfl rfl (ex_load one22 rfl rfl (hb3.cell rfl)) ?_
    refine st rfl rfl rfl (ex_call call37 rfl rfl (rwrite_c o.z o.A o.c 0 hi o.bs F k s _ hR ho.r hpl)) ?_
    rintro _ w2 ⟨rfl, hD2, K2⟩
    refine sv rfl rfl rfl (ex_assign rfl rfl) ?_
    refine sv rfl rfl rfl (ex_assign rfl rfl) ?_
    refine w_nil (qe_next ?_)
    refine w_ret (qe_in_ret (qe_then_ret (qe_ret2 rfl rfl rfl ?_)))
    have hpl9 : s.play o = (([], (s.write o.z o.bs).1), (s.write o.z o.bs).2) := by unfold St.play; rw [if_pos h0]
    rw [hpl9]
    exact ⟨none, 0, _, rfl, hD2, fun j hj => hj.imp id (fun h => by omega), fun j hj => .inl hj, Own.nil _ _ _ _, (Keep.of_ext K0 _).trans K2 (fun j _ hj => hj)⟩
  · skip
    refine w_seq ?_
    refine w_region ?_
    refine sv rfl rfl rfl (ex_cmp rfl rfl rfl rfl) ?_
    refine sv rfl rfl rfl (ex_assign rfl rfl) ?_
    refine w_nil (qe_next ?_)
    refine w_if rfl (fun h1 => ?_) (fun h1 => ?_)
    · skip
      refine w_seq ?_
      refine w_region ?_
      refine sv rfl rfl rfl (ex_move rfl rfl) ?_
      refine sv rfl rfl rfl (ex_fieldAddr fld50_1 rfl rfl) ?_
      refine sv rfl rfl rfl (ex_load one3 rfl rfl (hb3.cell rfl)) ?_
      refine st rfl rfl rfl (ex_call call38 rfl rfl (rread_c o.z F k s _ hR hpl)) ?_
      rintro _ w3 ⟨B, d, rfl, hB, E4⟩
      replace hR := hR.ext E4
      replace ho := ho.ext E4
      replace K0 := K0.ext E4
      replace hb3 := hb3.ext E4
      refine sv rfl rfl rfl (ex_extract rfl rfl rfl) ?_
      refine sv rfl rfl rfl (ex_extract rfl rfl rfl) ?_
      refine sv rfl rfl rfl (ex_assign rfl rfl) ?_
      refine sv rfl rfl rfl (ex_assign rfl rfl) ?_
      refine w_nil (qe_next ?_)
      refine w_ret (qe_in_ret (qe_then_ret (qe_ret2 rfl rfl rfl ?_)))
      have hpl9 : s.play o = (s.read o.z, s) := by unfold St.play; rw [if_neg h0, if_pos h1]
      rw [hpl9]
      exact ⟨B, d, F, rfl, hR, fun j hj => .inl hj, fun j hj => hj, hB.lower hszK, Keep.of_ext K0 _⟩
    · skip
      refine w_seq ?_
      refine w_region ?_
      refine sv rfl rfl rfl (ex_cmp rfl rfl rfl rfl) ?_
      refine sv rfl rfl rfl (ex_assign rfl rfl) ?_
      refine w_nil (qe_next ?_)
      refine w_if rfl (fun h2 => ?_) (fun h2 => ?_)
      · skip
        refine w_seq ?_
        refine w_region ?_
        refine sv rfl rfl rfl (ex_move rfl rfl) ?_
        refine st rfl rfl rfl (ex_call call39 rfl rfl (rsync_c F k s _ hR hpl)) ?_
        rintro _ w4 ⟨rfl, hD2, K2⟩
        refine sv rfl rfl rfl (ex_assign rfl rfl) ?_
        refine sv rfl rfl rfl (ex_assign rfl rfl) ?_
        refine w_nil (qe_next ?_)
        refine w_ret (qe_in_ret (qe_then_ret (qe_ret2 rfl rfl rfl ?_)))
        have hpl9 : s.play o = (([], s.sync.1), s.sync.2) := by unfold St.play; rw [if_neg h0, if_neg h1, if_pos h2]
        rw [hpl9]
        exact ⟨none, 0, _, rfl, hD2, fun j hj => hj.imp id (fun h => by omega), fun j hj => .inl hj, Own.nil _ _ _ _, (Keep.of_ext K0 _).trans K2 (fun j _ hj => hj)⟩
      · skip
        refine w_seq ?_
        refine w_region ?_
        refine sv rfl rfl rfl (ex_cmp rfl rfl rfl rfl) ?_
        refine sv rfl rfl rfl (ex_assign rfl rfl) ?_
        refine w_nil (qe_next ?_)
        refine w_if rfl (fun h3 => ?_) (fun h3 => ?_)
        · skip
          refine w_region ?_
          refine sv rfl rfl rfl (ex_move rfl rfl) ?_
          refine sv rfl rfl rfl (ex_fieldAddr fld50_3 rfl rfl) ?_
          refine sv rfl rfl rfl (ex_load one3 rfl rfl (hb3.cell rfl)) ?_
          refine st rfl rfl rfl (ex_call call40 rfl rfl (rfail_c o.n F k s _ hR ho.n2)) ?_
          rintro _ w5 ⟨rfl, hD2, K2⟩
          replace K2 := K2.mono (T := fun j => ¬ F j) (fun j _ hj e => hj (by rw [e]; exact hkF))
          refine w_nil (qe_in_normal (qe_next ?_))
          refine w_seq ?_
          refine w_region ?_
          refine sv rfl rfl rfl (ex_assign rfl rfl) ?_
          refine sv rfl rfl rfl (ex_assign rfl rfl) ?_
          refine w_nil (qe_next ?_)
          refine w_ret (qe_ret2 rfl rfl rfl ?_)
          have hpl9 : s.play o = (([], 0), s.fail o.n) := by unfold St.play; rw [if_neg h0, if_neg h1, if_neg h2, if_pos h3]
          rw [hpl9]
          exact ⟨none, 0, F, rfl, hD2, fun j hj => .inl hj, fun j hj => hj, Own.nil _ _ _ _, (Keep.of_ext K0 _).trans K2 (fun j _ hj => hj)⟩
        · skip
          refine w_seq ?_
          refine w_region ?_
          refine sv rfl rfl rfl (ex_cmp rfl rfl rfl rfl) ?_
          refine sv rfl rfl rfl (ex_assign rfl rfl) ?_
          refine w_nil (qe_next ?_)
          refine w_if rfl (fun h4 => ?_) (fun h4 => ?_)
          · skip
            refine w_region ?_
            refine sv rfl rfl rfl (ex_move rfl rfl) ?_
            refine sv rfl rfl rfl (ex_fieldAddr fld50_4 rfl rfl) ?_
            refine sv rfl rfl rfl (ex_load one46 rfl rfl (hb3.cell rfl)) ?_
            refine sv rfl rfl rfl (ex_fieldAddr fld50_3 rfl rfl) ?_
            refine sv rfl rfl rfl (ex_load one3 rfl rfl (hb3.cell rfl)) ?_
            refine st rfl rfl rfl (ex_call call41 rfl rfl (rcrash_c o.kb o.n o.B o.kb.length o.d 0 hi F k s _ hR rfl ho.r2 (fun g q e hq hg => by
              obtain ⟨b, o2, e2, _, h, _⟩ := ho.r2.addr hq
              rw [e] at e2
              injection e2 with e2
              injection e2 with e2
              have := hF g hg
              omega) hpl ho.q)) ?_
            rintro _ w6 ⟨rfl, hD2, K2⟩
            refine w_nil (qe_in_normal (qe_next ?_))
            refine w_seq ?_
            refine w_region ?_
            refine sv rfl rfl rfl (ex_assign rfl rfl) ?_
            refine sv rfl rfl rfl (ex_assign rfl rfl) ?_
            refine w_nil (qe_next ?_)
            refine w_ret (qe_ret2 rfl rfl rfl ?_)
            have hpl9 : s.play o = (([], 0), s.crash o.kb o.n) := by unfold St.play; rw [if_neg h0, if_neg h1, if_neg h2, if_neg h3, if_pos h4]
            rw [hpl9]
            exact ⟨none, 0, _, rfl, hD2, fun j hj => hj.imp id (fun h => by omega), fun j hj => .inl hj, Own.nil _ _ _ _, (Keep.of_ext K0 _).trans K2 (fun j _ hj => hj)⟩
          · skip
            refine w_seq ?_
            refine w_region ?_
            refine sv rfl rfl rfl (ex_cmp rfl rfl rfl rfl) ?_
            refine sv rfl rfl rfl (ex_assign rfl rfl) ?_
            refine w_nil (qe_next ?_)
            refine w_if rfl (fun h5 => ?_) (fun h5 => ?_)
            · skip
              refine w_seq ?_
              refine w_region ?_
              refine sv rfl rfl rfl (ex_move rfl rfl) ?_
              refine sv rfl rfl rfl (ex_fieldAddr fld50_1 rfl rfl) ?_
              refine sv rfl rfl rfl (ex_load one3 rfl rfl (hb3.cell rfl)) ?_
              refine sv rfl rfl rfl (ex_fieldAddr fld50_3 rfl rfl) ?_
              refine sv rfl rfl rfl (ex_load one3 rfl rfl (hb3.cell rfl)) ?_
              refine sv rfl rfl rfl (ex_fieldAddr fld50_5 rfl rfl) ?_
              refine sv rfl rfl rfl (ex_load one5 rfl rfl (hb3.cell rfl)) ?_
              refine st rfl rfl rfl (ex_call call42 rfl rfl (rspoil_c o.z o.n o.x F k s _ hR)) ?_
              rintro _ w7 ⟨rfl, hD2, K2⟩
              refine sv rfl rfl rfl (ex_assign rfl rfl) ?_
              refine sv rfl rfl rfl (ex_assign rfl rfl) ?_
              refine w_nil (qe_next ?_)
              refine w_ret (qe_in_ret (qe_then_ret (qe_ret2 rfl rfl rfl ?_)))
              have hpl9 : s.play o = (([], (s.spoil o.z o.n o.x).1), (s.spoil o.z o.n o.x).2) := by unfold St.play; rw [if_neg h0, if_neg h1, if_neg h2, if_neg h3, if_neg h4, if_pos h5]
              rw [hpl9]
              exact ⟨none, 0, _, rfl, hD2, fun j hj => hj.imp id (fun h => by omega), fun j hj => .inl hj, Own.nil _ _ _ _, (Keep.of_ext K0 _).trans K2 (fun j _ hj => hj)⟩
            · skip
              refine w_skip (qe_in_normal (qe_next ?_))
              refine w_seq ?_
              refine w_region ?_
              refine sv rfl rfl rfl (ex_assign rfl rfl) ?_
              refine sv rfl rfl rfl (ex_assign rfl rfl) ?_
              refine w_nil (qe_next ?_)
              refine w_ret (qe_ret2 rfl rfl rfl ?_)
              have hpl9 : s.play o = (([], 0), s) := by unfold St.play; rw [if_neg h0, if_neg h1, if_neg h2, if_neg h3, if_neg h4, if_neg h5]
              rw [hpl9]
              exact ⟨none, 0, F, rfl, hR, fun j hj => .inl hj, fun j hj => hj, Own.nil _ _ _ _, Keep.of_ext K0 _⟩

theorem Playing.keep {S : Nat → Prop} {w w1 w2 : World} {kd n k : Nat} {os : List Op} {s : St} {F : Nat → Prop} (h : Playing w w1 kd n k os s F) (K : Keep S w1 w2) (hS : ∀ j, F j → S j) (hW : ∀ j, j < w.heap.size → S j) : Playing w w2 kd n k os s F :=
  ⟨h.eq, h.du, h.sn, h.pl, h.at_.keep K hS, h.new, h.k.trans K fun j hj _ => hW j hj⟩
end Go.Proofs.Ytcgcklfbnmaodaa

/- Reach, where it says no. -/
import Derived.Test.YtfgpcmphcnhbiaaDoorK8
namespace Go.Proofs.YtfgpcmphcnhbiaaDoor
open Go Go.RowKit
set_option linter.unusedVariables false
set_option linter.unusedSimpArgs false
/-- kinkeep/chunker.Reach -/
theorem reachBad1_c (c0 : Cut) (a b : Int) (w : World) (h : ¬ c0.ok) :
    Ret Tryd.prog 24 [c0.val, .int .i64 a, .int .i64 b] w fun v w' => v = .tuple #[.int .i64 0, .int .i64 0, .int .i64 1] ∧ Ext w w' := by
  have K0 : Ext w w := Keep.refl _ _
  refine ret_of Tryd.func24 rfl rfl ?_
  refine w_seq ?_
  refine w_region ?_
  refine st rfl rfl rfl (ex_box (cs := c0.cells) rfl rfl rfl) ?_
  rintro _ w1 ⟨b1, rfl, hb0, E0, hb, hs0⟩
  replace K0 := K0.ext E0
  refine sv rfl rfl rfl (ex_assign rfl rfl) ?_
  refine sv rfl rfl rfl (ex_assign rfl rfl) ?_
  refine sv rfl rfl rfl (ex_assign rfl rfl) ?_
  refine w_nil (qe_next ?_)
  refine w_seq ?_
  refine w_seq ?_
  refine w_region ?_
  refine sv rfl rfl rfl (ex_load_agg (cs := c0.cells) agg24 rfl rfl (by intro j u hu; rw [Nat.zero_add]; exact hb.cell hu)) ?_
  refine st rfl rfl rfl (ex_call call25 rfl rfl ((valid_c c0 _).mono (R' := fun v w' => v = .bool false ∧ Ext _ w') fun v w' h' => ⟨by rw [h'.1, decide_eq_false (h)], h'.2⟩)) ?_
  rintro _ w2 ⟨rfl, E1⟩
  replace K0 := K0.ext E1
  replace hb := hb.ext E1
  refine sv rfl rfl rfl (ex_not rfl rfl) ?_
  refine sv rfl rfl rfl (ex_move rfl rfl) ?_
  first | refine sk rfl rfl rfl ?_ | refine sv rfl rfl rfl (ex_move rfl rfl) ?_
  refine sk rfl rfl rfl ?_
  first | refine sv rfl rfl rfl (ex_pick_t rfl rfl rfl) ?_ | refine sv rfl rfl rfl (ex_pick_f rfl rfl rfl) ?_
  refine sv rfl rfl rfl (ex_move rfl rfl) ?_
  first | refine sk rfl rfl rfl ?_ | refine sv rfl rfl rfl (ex_move rfl rfl) ?_
  first | refine sk rfl rfl rfl ?_ | refine sv rfl rfl rfl (ex_move rfl rfl) ?_
  refine sk rfl rfl rfl ?_
  first | refine sv rfl rfl rfl (ex_pick_t rfl rfl rfl) ?_ | refine sv rfl rfl rfl (ex_pick_f rfl rfl rfl) ?_
  refine sv rfl rfl rfl (ex_move rfl rfl) ?_
  first | refine sk rfl rfl rfl ?_ | refine sv rfl rfl rfl (ex_move rfl rfl) ?_
  refine sk rfl rfl rfl ?_
  first | refine sv rfl rfl rfl (ex_pick_t rfl rfl rfl) ?_ | refine sv rfl rfl rfl (ex_pick_f rfl rfl rfl) ?_
  refine w_nil (qe_next ?_)
  refine w_cond_t rfl ?_
  refine w_seq ?_
  refine w_region ?_
  refine sv rfl rfl rfl (ex_assign rfl rfl) ?_
  refine sv rfl rfl rfl (ex_assign rfl rfl) ?_
  refine sv rfl rfl rfl (ex_assign rfl rfl) ?_
  refine w_nil (qe_next ?_)
  refine w_ret (qe_then_ret (qe_ret3 rfl rfl rfl rfl ?_))
  exact ⟨rfl, K0⟩

/-- kinkeep/chunker.Reach -/
theorem reachBad2_c (c0 : Cut) (a b : Int) (w : World) (h : c0.ok) (h2 : ¬ (0 ≤ a ∧ a < b ∧ b ≤ 1048576)) :
    Ret Tryd.prog 24 [c0.val, .int .i64 a, .int .i64 b] w fun v w' => v = .tuple #[.int .i64 0, .int .i64 0, .int .i64 1] ∧ Ext w w' := by
  have K0 : Ext w w := Keep.refl _ _
  refine ret_of Tryd.func24 rfl rfl ?_
  refine w_seq ?_
  refine w_region ?_
  refine st rfl rfl rfl (ex_box (cs := c0.cells) rfl rfl rfl) ?_
  rintro _ w1 ⟨b1, rfl, hb0, E0, hb, hs0⟩
  replace K0 := K0.ext E0
  refine sv rfl rfl rfl (ex_assign rfl rfl) ?_
  refine sv rfl rfl rfl (ex_assign rfl rfl) ?_
  refine sv rfl rfl rfl (ex_assign rfl rfl) ?_
  refine w_nil (qe_next ?_)
  refine w_seq ?_
  refine w_seq ?_
  refine w_region ?_
  refine sv rfl rfl rfl (ex_load_agg (cs := c0.cells) agg24 rfl rfl (by intro j u hu; rw [Nat.zero_add]; exact hb.cell hu)) ?_
  refine st rfl rfl rfl (ex_call call25 rfl rfl ((valid_c c0 _).mono (R' := fun v w' => v = .bool true ∧ Ext _ w') fun v w' h' => ⟨by rw [h'.1, decide_eq_true (h)], h'.2⟩)) ?_
  rintro _ w2 ⟨rfl, E1⟩
  replace K0 := K0.ext E1
  replace hb := hb.ext E1
  refine sv rfl rfl rfl (ex_not rfl rfl) ?_
  refine sv rfl rfl rfl (ex_move rfl rfl) ?_
  first | refine sk rfl rfl rfl ?_ | refine sv rfl rfl rfl (ex_move rfl rfl) ?_
  refine sv_if rfl rfl rfl (ex_cmp rfl rfl rfl rfl) (fun ha => ?_) (fun ha => ?_)
  · skip
    first | refine sv rfl rfl rfl (ex_pick_t rfl rfl rfl) ?_ | refine sv rfl rfl rfl (ex_pick_f rfl rfl rfl) ?_
    refine sv rfl rfl rfl (ex_move rfl rfl) ?_
    first | refine sk rfl rfl rfl ?_ | refine sv rfl rfl rfl (ex_move rfl rfl) ?_
    first | refine sk rfl rfl rfl ?_ | refine sv rfl rfl rfl (ex_move rfl rfl) ?_
    refine sk rfl rfl rfl ?_
    first | refine sv rfl rfl rfl (ex_pick_t rfl rfl rfl) ?_ | refine sv rfl rfl rfl (ex_pick_f rfl rfl rfl) ?_
    refine sv rfl rfl rfl (ex_move rfl rfl) ?_
    first | refine sk rfl rfl rfl ?_ | refine sv rfl rfl rfl (ex_move rfl rfl) ?_
    first | refine sk rfl rfl rfl ?_ | refine sv rfl rfl rfl (ex_cmp rfl rfl rfl (congrArg some (decide_eq_true (by omega)))) ?_
    first | refine sv rfl rfl rfl (ex_pick_t rfl rfl rfl) ?_ | refine sv rfl rfl rfl (ex_pick_f rfl rfl rfl) ?_
    refine w_nil (qe_next ?_)
    refine w_cond_t rfl ?_
    refine w_seq ?_
    refine w_region ?_
    refine sv rfl rfl rfl (ex_assign rfl rfl) ?_
    refine sv rfl rfl rfl (ex_assign rfl rfl) ?_
    refine sv rfl rfl rfl (ex_assign rfl rfl) ?_
    refine w_nil (qe_next ?_)
    refine w_ret (qe_then_ret (qe_ret3 rfl rfl rfl rfl ?_))
    exact ⟨rfl, K0⟩
  · skip
    first | refine sv rfl rfl rfl (ex_pick_t rfl rfl rfl) ?_ | refine sv rfl rfl rfl (ex_pick_f rfl rfl rfl) ?_
    refine sv rfl rfl rfl (ex_move rfl rfl) ?_
    first | refine sk rfl rfl rfl ?_ | refine sv rfl rfl rfl (ex_move rfl rfl) ?_
    first | refine sk rfl rfl rfl ?_ | refine sv rfl rfl rfl (ex_move rfl rfl) ?_
    refine sv_if rfl rfl rfl (ex_cmp rfl rfl rfl rfl) (fun hb1 => ?_) (fun hb1 => ?_)
    · skip
      first | refine sv rfl rfl rfl (ex_pick_t rfl rfl rfl) ?_ | refine sv rfl rfl rfl (ex_pick_f rfl rfl rfl) ?_
      refine sv rfl rfl rfl (ex_move rfl rfl) ?_
      first | refine sk rfl rfl rfl ?_ | refine sv rfl rfl rfl (ex_move rfl rfl) ?_
      first | refine sk rfl rfl rfl ?_ | refine sv rfl rfl rfl (ex_cmp rfl rfl rfl (congrArg some (decide_eq_true (by omega)))) ?_
      first | refine sv rfl rfl rfl (ex_pick_t rfl rfl rfl) ?_ | refine sv rfl rfl rfl (ex_pick_f rfl rfl rfl) ?_
      refine w_nil (qe_next ?_)
      refine w_cond_t rfl ?_
      refine w_seq ?_
      refine w_region ?_
      refine sv rfl rfl rfl (ex_assign rfl rfl) ?_
      refine sv rfl rfl rfl (ex_assign rfl rfl) ?_
      refine sv rfl rfl rfl (ex_assign rfl rfl) ?_
      refine w_nil (qe_next ?_)
      refine w_ret (qe_then_ret (qe_ret3 rfl rfl rfl rfl ?_))
      exact ⟨rfl, K0⟩
    · skip
      first | refine sv rfl rfl rfl (ex_pick_t rfl rfl rfl) ?_ | refine sv rfl rfl rfl (ex_pick_f rfl rfl rfl) ?_
      refine sv rfl rfl rfl (ex_move rfl rfl) ?_
      first | refine sk rfl rfl rfl ?_ | refine sv rfl rfl rfl (ex_move rfl rfl) ?_
      first | refine sk rfl rfl rfl ?_ | refine sv rfl rfl rfl (ex_cmp rfl rfl rfl (congrArg some (decide_eq_true (by omega)))) ?_
      first | refine sv rfl rfl rfl (ex_pick_t rfl rfl rfl) ?_ | refine sv rfl rfl rfl (ex_pick_f rfl rfl rfl) ?_
      refine w_nil (qe_next ?_)
      refine w_cond_t rfl ?_
      refine w_seq ?_
      refine w_region ?_
      refine sv rfl rfl rfl (ex_assign rfl rfl) ?_
      refine sv rfl rfl rfl (ex_assign rfl rfl) ?_
      refine sv rfl rfl rfl (ex_assign rfl rfl) ?_
      refine w_nil (qe_next ?_)
      refine w_ret (qe_then_ret (qe_ret3 rfl rfl rfl rfl ?_))
      exact ⟨rfl, K0⟩

theorem reachBad_c (c0 : Cut) (a b : Int) (w : World) (h : ¬ Reachable c0 a b) : Ret Tryd.prog 24 [c0.val, .int .i64 a, .int .i64 b] w fun v w' => v = .tuple #[.int .i64 0, .int .i64 0, .int .i64 1] ∧ Ext w w' :=
  if h1 : c0.ok then reachBad2_c c0 a b w h1 (fun h2 => h ⟨h1, h2⟩) else reachBad1_c c0 a b w h1
end Go.Proofs.YtfgpcmphcnhbiaaDoor

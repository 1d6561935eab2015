/- The iterator of the ends of chunks. -/
import Derived.Test.YtfgpcmphcnhbiaaDoorI
namespace Go.Proofs.YtfgpcmphcnhbiaaDoor
open Go Go.RowKit
set_option linter.unusedVariables false
set_option linter.unusedSimpArgs false
/-- kinkeep/chunker.ends$1 -/
theorem ends1_c (q : Vut) (bA bD : Nat) (A : Option Addr) (c lo hi : Nat) (bs : List UInt8) (n1 : Nat) (S0 : Nat → Prop) (l : Nat) (J : List Nat → World → Prop) (w : World) (hw : Blk w bA 24 q.cut.cells) (hD : Blk w bD 25 [.slice A bs.length c]) (hr : Rd w lo hi 1 A bs.length (bcells bs)) (hT : TabAt w) (hS1 : S0 bA) (hS2 : S0 bD) (hS3 : ∀ b, lo ≤ b → b < hi → S0 b) (hS4 : S0 0) (hS5 : ∀ k, S0 k → k < n1) (hn1 : n1 ≤ w.heap.size) (hlen : bs.length ≤ 100000000) (hst : ∀ s a b, J s a → St16 n1 a b → J s b) (hrd : ∀ pre x W1, pre ++ [x] <+: (ecuts q bs bs.length).1 → J pre W1 → Yld Tryd.prog l (.int .i64 ((x : Nat) : Int)) W1 fun W' => J (pre ++ [x]) W' ∧ Rk16 S0 W1 W') (hJ : J [] w) :
    Ret Tryd.prog 49 [yieldOf l, .pointer (some ⟨bA, 0, none⟩), .pointer (some ⟨bD, 0, none⟩)] w fun v w' => J (ecuts q bs bs.length).1 w' := by
  have hq0 : q.cut.mn = (q.mn : Int) := rfl
  have hq1 : q.cut.mx = (q.mx : Int) := rfl
  have hq2 : q.cut.wi = (q.wi : Int) := rfl
  have hq3 : q.cut.bi = (q.bi : Int) := rfl
  have hv1 := q.h1
  have hv2 := q.h2
  have hv3 := q.h3
  have hv4 := q.h4
  have hv5 := q.h5
  have hv6 := q.h6
  refine ret_of Tryd.func49 rfl rfl ?_
  refine w_seq ?_
  refine w_region ?_
  refine sv rfl rfl rfl (ex_load_agg (cs := q.cut.cells) agg24 rfl rfl (by intro j u hu; rw [Nat.zero_add]; exact hw.cell hu)) ?_
  refine st rfl rfl rfl (ex_call call35 rfl rfl (newMarker_c q _ (by have := hS5 _ hS4; omega))) ?_
  rintro _ w1 ⟨m, r, rfl, hM, hm0, hr0, E1⟩
  replace hw := hw.ext E1
  replace hD := hD.ext E1
  replace hr := hr.ext E1
  replace hT := hT.ext E1
  replace hJ := hst _ _ _ hJ (Keep.of_ext E1 _)
  have hsz := E1.size
  refine sv rfl rfl rfl (ex_assign rfl rfl) ?_
  refine w_nil (qe_next ?_)
  refine w_seq ?_
  refine w_region ?_
  refine sv rfl rfl rfl (ex_assign rfl rfl) ?_
  refine w_nil (qe_next ?_)
  refine w_seq ?_
  refine w_region ?_
  refine sv rfl rfl rfl (ex_load one25 rfl rfl (hD.cell rfl)) ?_
  refine sv rfl rfl rfl (ex_len Tryd.underlying25 rfl rfl) ?_
  refine sv rfl rfl rfl (ex_move rfl rfl) ?_
  refine w_nil (qe_next ?_)
  refine w_block ?_
  refine w_loop (ι := Nat × Nat × List Nat) (fun i => [(0, yieldOf l), (1, .pointer (some ⟨bA, 0, none⟩)), (2, .pointer (some ⟨bD, 0, none⟩)), (4, .pointer (some ⟨m, 0, none⟩)), (5, .int .i64 (i.2.1 : Int)), (10, .slice A bs.length c), (11, .int .i64 (bs.length : Int)), (12, .int .i64 (i.1 : Int))]) (fun i w1 => i.1 ≤ bs.length ∧ ecuts q bs i.1 = (i.2.2, i.2.1) ∧ Blk w1 bA 24 q.cut.cells ∧ Blk w1 bD 25 [.slice A bs.length c] ∧ Rd w1 lo hi 1 A bs.length (bcells bs) ∧ TabAt w1 ∧ MarkAt w1 m r q (bs.take i.1) ∧ J i.2.2 w1) (fun i => bs.length - i.1) ((0, 0, [])) ⟨rfl, rfl, rfl, rfl, rfl, rfl, rfl, rfl, trivial⟩ ?_ ?_
  · exact ⟨Nat.zero_le _, rfl, hw, hD, hr, hT, by rw [List.take_zero]; exact hM, hJ⟩
  · clear hw hD hr hT hM hJ
    rintro ⟨k, fr, pre⟩ w1 ⟨hk, hcu, hw, hD, hr, hT, hM, hJ⟩
    simp only at hk hcu hM hJ
    have hfr := ecuts_le q bs k
    rw [hcu] at hfr
    simp only at hfr
    refine w_seq ?_
    refine w_region ?_
    refine sv rfl rfl rfl (ex_cmp rfl rfl rfl rfl) ?_
    refine w_nil (qe_next ?_)
    refine w_seq ?_
    refine w_if rfl (fun hk2 => ?_) (fun hk2 => ?_)
    · skip
      replace hk2 : k < bs.length := by simp only at hk2; omega
      obtain ⟨bb, oo, rfl, hc2⟩ := hr.byte hk2
      refine w_skip (qe_next ?_)
      refine w_seq ?_
      refine w_block ?_
      refine w_seq ?_
      refine w_region ?_
      refine sv rfl rfl rfl (ex_move rfl rfl) ?_
      refine sv rfl rfl rfl (ex_index Tryd.underlying25 sz5 _ rfl rfl rfl rfl (by omega)) ?_
      refine sv rfl rfl rfl (ex_load one5 rfl rfl hc2) ?_
      refine sv rfl rfl rfl (ex_assign rfl rfl) ?_
      refine sv rfl rfl rfl (ex_assign rfl rfl) ?_
      refine w_nil (qe_next ?_)
      refine w_seq ?_
      refine w_region ?_
      refine sv rfl rfl rfl (ex_move rfl rfl) ?_
      refine sv rfl rfl rfl (ex_move rfl rfl) ?_
      refine st rfl rfl rfl (ex_call call36 rfl rfl (step_k q m r bs k _ hk2 hM hT hlen)) ?_
      rintro _ w2 ⟨rfl, hM1, K1⟩
      replace hJ := hst _ _ _ hJ (hM.st K1 (by omega) (by omega))
      replace hw := hw.keep K1 (by have := hS5 _ hS1; omega)
      replace hD := hD.keep K1 (by have := hS5 _ hS2; omega)
      replace hr := hr.keep K1 (fun b h1 h2 => by have := hS5 _ (hS3 b h1 h2); omega)
      replace hT := hT.keep K1 (by have := hS5 _ hS4; omega)
      clear hM K1
      have hM := hM1
      clear hM1
      cases hpr : prim q bs (k + 1)
      · skip
        refine sv rfl rfl rfl (ex_move rfl rfl) ?_
        first | refine sk rfl rfl rfl ?_ | refine sv rfl rfl rfl (ex_move rfl rfl) ?_
        first | refine sk rfl rfl rfl ?_ | refine sv rfl rfl rfl (ex_add rfl rfl rfl (i64_in (by omega) (by omega))) ?_
        first | refine sk rfl rfl rfl ?_ | refine sv rfl rfl rfl (ex_move rfl rfl) ?_
        first | refine sk rfl rfl rfl ?_ | refine sv rfl rfl rfl (ex_sub rfl rfl rfl (i64_in (by simp only; omega) (by simp only; omega))) ?_
        first | refine sk rfl rfl rfl ?_ | refine sv rfl rfl rfl (ex_fieldAddr fld24_1 rfl rfl) ?_
        first | refine sk rfl rfl rfl ?_ | refine sv rfl rfl rfl (ex_load one3 rfl rfl (hw.cell rfl)) ?_
        refine sv_if rfl rfl rfl (ex_cmp rfl rfl rfl rfl) (fun h1 => ?_) (fun h1 => ?_)
        · skip
          replace h1 : k + 1 - fr = q.mx := by simp only at h1; omega
          first | refine sv rfl rfl rfl (ex_pick_t rfl rfl rfl) ?_ | refine sv rfl rfl rfl (ex_pick_f rfl rfl rfl) ?_
          refine sv rfl rfl rfl (ex_move rfl rfl) ?_
          first | refine sk rfl rfl rfl ?_ | refine sv rfl rfl rfl (ex_move rfl rfl) ?_
          first | refine sk rfl rfl rfl ?_ | refine sv rfl rfl rfl (ex_add rfl rfl rfl (i64_in (by omega) (by omega))) ?_
          first | refine sk rfl rfl rfl ?_ | refine sv rfl rfl rfl (ex_load one25 rfl rfl (hD.cell rfl)) ?_
          first | refine sk rfl rfl rfl ?_ | refine sv rfl rfl rfl (ex_len Tryd.underlying25 rfl rfl) ?_
          refine sk rfl rfl rfl ?_
          first | refine sv rfl rfl rfl (ex_pick_t rfl rfl rfl) ?_ | refine sv rfl rfl rfl (ex_pick_f rfl rfl rfl) ?_
          refine sv rfl rfl rfl (ex_move rfl rfl) ?_
          first | refine sk rfl rfl rfl ?_ | refine sv rfl rfl rfl (ex_move rfl rfl) ?_
          first | refine sk rfl rfl rfl ?_ | refine sv rfl rfl rfl (ex_add rfl rfl rfl (i64_in (by omega) (by omega))) ?_
          first | refine sk rfl rfl rfl ?_ | refine sv rfl rfl rfl (ex_move rfl rfl) ?_
          first | refine sk rfl rfl rfl ?_ | refine sv rfl rfl rfl (ex_cmp rfl rfl rfl (congrArg some (decide_eq_true (by simp only; omega)))) ?_
          first | refine sv rfl rfl rfl (ex_pick_t rfl rfl rfl) ?_ | refine sv rfl rfl rfl (ex_pick_f rfl rfl rfl) ?_
          refine w_nil (qe_next ?_)
          refine w_cond_t rfl ?_
          refine w_seq ?_
          refine w_seq ?_
          refine w_region ?_
          refine sv rfl rfl rfl (ex_move rfl rfl) ?_
          refine sv rfl rfl rfl (ex_move rfl rfl) ?_
          refine sv rfl rfl rfl (ex_add rfl rfl rfl (i64_in (by omega) (by omega))) ?_
          refine st rfl rfl rfl (ex_yield rfl rfl rfl (hrd pre (k + 1) _ (ecuts_pre (ecuts_yes hcu (by first | exact .inl hpr | exact .inr (.inl (by omega)) | exact .inr (.inr (by omega)))) (by omega)) hJ)) ?_
          rintro _ w3 ⟨rfl, ⟨hJ1, K5⟩⟩
          replace hw := hw.keep K5 (.inl hS1)
          replace hD := hD.keep K5 (.inl hS2)
          replace hr := hr.keep K5 (fun b h1 h2 => .inl (hS3 b h1 h2))
          replace hT := hT.keep K5 (.inl hS4)
          replace hM := hM.rk K5
          clear hJ
          have hJ := hJ1
          clear hJ1 K5
          refine sv rfl rfl rfl (ex_not rfl rfl) ?_
          refine w_nil (qe_next ?_)
          refine w_cond_f rfl ?_
          refine w_skip (qe_next ?_)
          refine w_region ?_
          refine sv rfl rfl rfl (ex_move rfl rfl) ?_
          refine sv rfl rfl rfl (ex_add rfl rfl rfl (i64_in (by omega) (by omega))) ?_
          refine sv rfl rfl rfl (ex_assign rfl rfl) ?_
          refine w_nil (qe_in_normal (qe_next ?_))
          refine w_region ?_
          refine sv rfl rfl rfl (ex_add rfl rfl rfl (i64_in (by omega) (by omega))) ?_
          refine sv rfl rfl rfl (ex_move rfl rfl) ?_
          refine w_nil (qe_round ((k + 1, k + 1, pre ++ [k + 1])) ⟨rfl, rfl, rfl, rfl, rfl, rfl, rfl, rfl, trivial⟩ ?_ ?_)
          · exact ⟨by simp only; omega, ecuts_yes hcu (by first | exact .inl hpr | exact .inr (.inl (by omega)) | exact .inr (.inr (by omega))), hw, hD, hr, hT, hM, hJ⟩
          · simp only; omega
        · skip
          replace h1 : ¬ k + 1 - fr = q.mx := by simp only at h1; omega
          first | refine sv rfl rfl rfl (ex_pick_t rfl rfl rfl) ?_ | refine sv rfl rfl rfl (ex_pick_f rfl rfl rfl) ?_
          refine sv rfl rfl rfl (ex_move rfl rfl) ?_
          first | refine sk rfl rfl rfl ?_ | refine sv rfl rfl rfl (ex_move rfl rfl) ?_
          first | refine sk rfl rfl rfl ?_ | refine sv rfl rfl rfl (ex_add rfl rfl rfl (i64_in (by omega) (by omega))) ?_
          first | refine sk rfl rfl rfl ?_ | refine sv rfl rfl rfl (ex_load one25 rfl rfl (hD.cell rfl)) ?_
          first | refine sk rfl rfl rfl ?_ | refine sv rfl rfl rfl (ex_len Tryd.underlying25 rfl rfl) ?_
          refine sv_if rfl rfl rfl (ex_cmp rfl rfl rfl rfl) (fun h2 => ?_) (fun h2 => ?_)
          · skip
            replace h2 : k + 1 = bs.length := by simp only at h2; omega
            first | refine sv rfl rfl rfl (ex_pick_t rfl rfl rfl) ?_ | refine sv rfl rfl rfl (ex_pick_f rfl rfl rfl) ?_
            refine sv rfl rfl rfl (ex_move rfl rfl) ?_
            first | refine sk rfl rfl rfl ?_ | refine sv rfl rfl rfl (ex_move rfl rfl) ?_
            first | refine sk rfl rfl rfl ?_ | refine sv rfl rfl rfl (ex_add rfl rfl rfl (i64_in (by omega) (by omega))) ?_
            first | refine sk rfl rfl rfl ?_ | refine sv rfl rfl rfl (ex_move rfl rfl) ?_
            first | refine sk rfl rfl rfl ?_ | refine sv rfl rfl rfl (ex_cmp rfl rfl rfl (congrArg some (decide_eq_true (by simp only; omega)))) ?_
            first | refine sv rfl rfl rfl (ex_pick_t rfl rfl rfl) ?_ | refine sv rfl rfl rfl (ex_pick_f rfl rfl rfl) ?_
            refine w_nil (qe_next ?_)
            refine w_cond_t rfl ?_
            refine w_seq ?_
            refine w_seq ?_
            refine w_region ?_
            refine sv rfl rfl rfl (ex_move rfl rfl) ?_
            refine sv rfl rfl rfl (ex_move rfl rfl) ?_
            refine sv rfl rfl rfl (ex_add rfl rfl rfl (i64_in (by omega) (by omega))) ?_
            refine st rfl rfl rfl (ex_yield rfl rfl rfl (hrd pre (k + 1) _ (ecuts_pre (ecuts_yes hcu (by first | exact .inl hpr | exact .inr (.inl (by omega)) | exact .inr (.inr (by omega)))) (by omega)) hJ)) ?_
            rintro _ w4 ⟨rfl, ⟨hJ1, K5⟩⟩
            replace hw := hw.keep K5 (.inl hS1)
            replace hD := hD.keep K5 (.inl hS2)
            replace hr := hr.keep K5 (fun b h1 h2 => .inl (hS3 b h1 h2))
            replace hT := hT.keep K5 (.inl hS4)
            replace hM := hM.rk K5
            clear hJ
            have hJ := hJ1
            clear hJ1 K5
            refine sv rfl rfl rfl (ex_not rfl rfl) ?_
            refine w_nil (qe_next ?_)
            refine w_cond_f rfl ?_
            refine w_skip (qe_next ?_)
            refine w_region ?_
            refine sv rfl rfl rfl (ex_move rfl rfl) ?_
            refine sv rfl rfl rfl (ex_add rfl rfl rfl (i64_in (by omega) (by omega))) ?_
            refine sv rfl rfl rfl (ex_assign rfl rfl) ?_
            refine w_nil (qe_in_normal (qe_next ?_))
            refine w_region ?_
            refine sv rfl rfl rfl (ex_add rfl rfl rfl (i64_in (by omega) (by omega))) ?_
            refine sv rfl rfl rfl (ex_move rfl rfl) ?_
            refine w_nil (qe_round ((k + 1, k + 1, pre ++ [k + 1])) ⟨rfl, rfl, rfl, rfl, rfl, rfl, rfl, rfl, trivial⟩ ?_ ?_)
            · exact ⟨by simp only; omega, ecuts_yes hcu (by first | exact .inl hpr | exact .inr (.inl (by omega)) | exact .inr (.inr (by omega))), hw, hD, hr, hT, hM, hJ⟩
            · simp only; omega
          · skip
            replace h2 : ¬ k + 1 = bs.length := by simp only at h2; omega
            first | refine sv rfl rfl rfl (ex_pick_t rfl rfl rfl) ?_ | refine sv rfl rfl rfl (ex_pick_f rfl rfl rfl) ?_
            refine sv rfl rfl rfl (ex_move rfl rfl) ?_
            first | refine sk rfl rfl rfl ?_ | refine sv rfl rfl rfl (ex_move rfl rfl) ?_
            first | refine sk rfl rfl rfl ?_ | refine sv rfl rfl rfl (ex_add rfl rfl rfl (i64_in (by omega) (by omega))) ?_
            first | refine sk rfl rfl rfl ?_ | refine sv rfl rfl rfl (ex_move rfl rfl) ?_
            first | refine sk rfl rfl rfl ?_ | refine sv rfl rfl rfl (ex_cmp rfl rfl rfl (congrArg some (decide_eq_true (by simp only; omega)))) ?_
            first | refine sv rfl rfl rfl (ex_pick_t rfl rfl rfl) ?_ | refine sv rfl rfl rfl (ex_pick_f rfl rfl rfl) ?_
            refine w_nil (qe_next ?_)
            refine w_cond_f rfl ?_
            refine w_skip (qe_in_normal (qe_next ?_))
            refine w_region ?_
            refine sv rfl rfl rfl (ex_add rfl rfl rfl (i64_in (by omega) (by omega))) ?_
            refine sv rfl rfl rfl (ex_move rfl rfl) ?_
            refine w_nil (qe_round ((k + 1, fr, pre)) ⟨rfl, rfl, rfl, rfl, rfl, rfl, rfl, rfl, trivial⟩ ?_ ?_)
            · exact ⟨by simp only; omega, ecuts_no hcu (by rw [hpr]; simp only [Bool.false_eq_true, false_or]; omega), hw, hD, hr, hT, hM, hJ⟩
            · simp only; omega
      · skip
        refine sv rfl rfl rfl (ex_move rfl rfl) ?_
        first | refine sk rfl rfl rfl ?_ | refine sv rfl rfl rfl (ex_move rfl rfl) ?_
        first | refine sk rfl rfl rfl ?_ | refine sv rfl rfl rfl (ex_add rfl rfl rfl (i64_in (by omega) (by omega))) ?_
        first | refine sk rfl rfl rfl ?_ | refine sv rfl rfl rfl (ex_move rfl rfl) ?_
        first | refine sk rfl rfl rfl ?_ | refine sv rfl rfl rfl (ex_sub rfl rfl rfl (i64_in (by simp only; omega) (by simp only; omega))) ?_
        first | refine sk rfl rfl rfl ?_ | refine sv rfl rfl rfl (ex_fieldAddr fld24_1 rfl rfl) ?_
        first | refine sk rfl rfl rfl ?_ | refine sv rfl rfl rfl (ex_load one3 rfl rfl (hw.cell rfl)) ?_
        refine sk rfl rfl rfl ?_
        first | refine sv rfl rfl rfl (ex_pick_t rfl rfl rfl) ?_ | refine sv rfl rfl rfl (ex_pick_f rfl rfl rfl) ?_
        refine sv rfl rfl rfl (ex_move rfl rfl) ?_
        first | refine sk rfl rfl rfl ?_ | refine sv rfl rfl rfl (ex_move rfl rfl) ?_
        first | refine sk rfl rfl rfl ?_ | refine sv rfl rfl rfl (ex_add rfl rfl rfl (i64_in (by omega) (by omega))) ?_
        first | refine sk rfl rfl rfl ?_ | refine sv rfl rfl rfl (ex_load one25 rfl rfl (hD.cell rfl)) ?_
        first | refine sk rfl rfl rfl ?_ | refine sv rfl rfl rfl (ex_len Tryd.underlying25 rfl rfl) ?_
        refine sk rfl rfl rfl ?_
        first | refine sv rfl rfl rfl (ex_pick_t rfl rfl rfl) ?_ | refine sv rfl rfl rfl (ex_pick_f rfl rfl rfl) ?_
        refine sv rfl rfl rfl (ex_move rfl rfl) ?_
        first | refine sk rfl rfl rfl ?_ | refine sv rfl rfl rfl (ex_move rfl rfl) ?_
        first | refine sk rfl rfl rfl ?_ | refine sv rfl rfl rfl (ex_add rfl rfl rfl (i64_in (by omega) (by omega))) ?_
        first | refine sk rfl rfl rfl ?_ | refine sv rfl rfl rfl (ex_move rfl rfl) ?_
        first | refine sk rfl rfl rfl ?_ | refine sv rfl rfl rfl (ex_cmp rfl rfl rfl (congrArg some (decide_eq_true (by simp only; omega)))) ?_
        first | refine sv rfl rfl rfl (ex_pick_t rfl rfl rfl) ?_ | refine sv rfl rfl rfl (ex_pick_f rfl rfl rfl) ?_
        refine w_nil (qe_next ?_)
        refine w_cond_t rfl ?_
        refine w_seq ?_
        refine w_seq ?_
        refine w_region ?_
        refine sv rfl rfl rfl (ex_move rfl rfl) ?_
        refine sv rfl rfl rfl (ex_move rfl rfl) ?_
        refine sv rfl rfl rfl (ex_add rfl rfl rfl (i64_in (by omega) (by omega))) ?_
        refine st rfl rfl rfl (ex_yield rfl rfl rfl (hrd pre (k + 1) _ (ecuts_pre (ecuts_yes hcu (by first | exact .inl hpr | exact .inr (.inl (by omega)) | exact .inr (.inr (by omega)))) (by omega)) hJ)) ?_
        rintro _ w5 ⟨rfl, ⟨hJ1, K5⟩⟩
        replace hw := hw.keep K5 (.inl hS1)
        replace hD := hD.keep K5 (.inl hS2)
        replace hr := hr.keep K5 (fun b h1 h2 => .inl (hS3 b h1 h2))
        replace hT := hT.keep K5 (.inl hS4)
        replace hM := hM.rk K5
        clear hJ
        have hJ := hJ1
        clear hJ1 K5
        refine sv rfl rfl rfl (ex_not rfl rfl) ?_
        refine w_nil (qe_next ?_)
        refine w_cond_f rfl ?_
        refine w_skip (qe_next ?_)
        refine w_region ?_
        refine sv rfl rfl rfl (ex_move rfl rfl) ?_
        refine sv rfl rfl rfl (ex_add rfl rfl rfl (i64_in (by omega) (by omega))) ?_
        refine sv rfl rfl rfl (ex_assign rfl rfl) ?_
        refine w_nil (qe_in_normal (qe_next ?_))
        refine w_region ?_
        refine sv rfl rfl rfl (ex_add rfl rfl rfl (i64_in (by omega) (by omega))) ?_
        refine sv rfl rfl rfl (ex_move rfl rfl) ?_
        refine w_nil (qe_round ((k + 1, k + 1, pre ++ [k + 1])) ⟨rfl, rfl, rfl, rfl, rfl, rfl, rfl, rfl, trivial⟩ ?_ ?_)
        · exact ⟨by simp only; omega, ecuts_yes hcu (by first | exact .inl hpr | exact .inr (.inl (by omega)) | exact .inr (.inr (by omega))), hw, hD, hr, hT, hM, hJ⟩
        · simp only; omega
    · skip
      replace hk2 : k = bs.length := by simp only at hk2; omega
      subst hk2
      rw [hcu]
      refine w_exit (qe_then_exit (qe_then_exit (qe_in_exit (qe_end0 rfl ?_))))
      exact hJ
end Go.Proofs.YtfgpcmphcnhbiaaDoor

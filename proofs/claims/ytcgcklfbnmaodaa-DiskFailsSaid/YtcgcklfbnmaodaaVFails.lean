/- The law DiskFails, walked. -/
import Derived.Test.YtcgcklfbnmaodaaD15
namespace Go.Proofs.Ytcgcklfbnmaodaa
open Go Go.RowKit
set_option linter.unusedVariables false
set_option linter.unusedSimpArgs false
def FInv (s : St) (nn d : Int) : Prop := 0 ≤ d ∧ ((d ≤ nn ∧ s.off = false ∧ s.left = nn - d) ∨ (d = nn + 1 ∧ s.off = true))
theorem FInv.off {s : St} {nn d : Int} (h : FInv s nn d) (hd : d > nn) : s.off = true := by
  rcases h.2 with h | h
  · omega
  · exact h.2
theorem FInv.on {s : St} {nn d : Int} (h : FInv s nn d) (hd : ¬ d > nn) : s.off = false ∧ s.left = nn - d := by
  rcases h.2 with h | h
  · exact h.2
  · omega
theorem FInv.dec {s : St} {nn d : Int} (h : FInv s nn d) : s.off = decide (d > nn) := by
  by_cases hd : d > nn
  · rw [h.off hd, decide_eq_true hd]
  · rw [(h.on hd).1, decide_eq_false hd]
theorem play_off {s : St} {o : Op} (h : s.off = true) (hk : o.k = 0 ∨ o.k = 1 ∨ o.k = 2) : s.play o = (([], 8), s) := by
  unfold St.play
  rcases hk with hk | hk | hk
  · rw [if_pos hk]; unfold St.write; rw [if_pos h]
  · rw [if_neg (by omega), if_pos hk]; unfold St.read; rw [if_pos h]
  · rw [if_neg (by omega), if_neg (by omega), if_pos hk]; unfold St.sync; rw [if_pos h]
theorem play_bad {s : St} {o : Op} (h : s.off = false) (hk : (o.k = 0 ∧ ¬ (s.In o.z ∧ o.bs.length = s.n)) ∨ (o.k = 1 ∧ ¬ s.In o.z)) : s.play o = (([], 1), s) := by
  have hn : ¬ s.off = true := by rw [h]; simp
  unfold St.play
  rcases hk with ⟨hk, hv⟩ | ⟨hk, hv⟩
  · rw [if_pos hk]; unfold St.write; rw [if_neg hn, if_pos hv]
  · rw [if_neg (by omega), if_pos hk]; unfold St.read; rw [if_neg hn, if_pos hv]
theorem play_read {s : St} {o : Op} (h : s.off = false) (hk : o.k = 1) (hv : s.In o.z) : (s.play o).1.2 = 0 ∧ (s.play o).2 = s := by
  have hn : ¬ s.off = true := by rw [h]; simp
  unfold St.play
  rw [if_neg (by omega), if_pos hk]
  unfold St.read
  rw [if_neg hn, if_neg (fun hh => hh hv)]
  exact ⟨rfl, rfl⟩
theorem fails_tick (s : St) : (0 < s.left → s.fails.1 = false ∧ s.fails.2.off = s.off ∧ s.fails.2.left = s.left - 1) ∧ (s.left = 0 → s.fails.1 = true ∧ s.fails.2.off = true) := by
  unfold St.fails
  refine ⟨fun h => ?_, fun h => ?_⟩
  · rw [if_neg (by omega), if_pos h]; exact ⟨rfl, rfl, rfl⟩
  · rw [if_pos h]; exact ⟨rfl, rfl⟩
theorem play_tick {s : St} {o : Op} (h : s.off = false) (hk : (o.k = 0 ∧ s.In o.z ∧ o.bs.length = s.n) ∨ o.k = 2) : (0 < s.left → (s.play o).1.2 = 0 ∧ (s.play o).2.off = false ∧ (s.play o).2.left = s.left - 1) ∧ (s.left = 0 → (s.play o).1.2 = 8 ∧ (s.play o).2.off = true) := by
  have hn : ¬ s.off = true := by rw [h]; simp
  unfold St.play
  rcases hk with ⟨hk, hv⟩ | hk
  · rw [if_pos hk]
    simp only
    unfold St.write
    rw [if_neg hn, if_neg (fun hh => hh hv)]
    have ht := fails_tick ({ s with pd := s.pd ++ [(o.z.toNat, o.bs)] } : St)
    simp only at ht ⊢
    refine ⟨fun hl => ?_, fun hl => ?_⟩
    · have := ht.1 hl
      rw [this.1, this.2.1, this.2.2]
      exact ⟨rfl, h, rfl⟩
    · have := ht.2 hl
      rw [this.1, this.2]
      exact ⟨rfl, rfl⟩
  · rw [if_neg (by omega), if_neg (by omega), if_pos hk]
    simp only
    unfold St.sync
    rw [if_neg hn]
    have ht := fails_tick s
    refine ⟨fun hl => ?_, fun hl => ?_⟩
    · have := ht.1 hl
      rw [if_neg (by rw [this.1]; simp)]
      exact ⟨rfl, by show s.fails.2.off = _; rw [this.2.1, h], this.2.2⟩
    · have := ht.2 hl
      rw [if_pos this.1]
      exact ⟨rfl, this.2⟩
theorem fin_tick {s : St} {o : Op} {nn d : Int} (hi : FInv s nn d) (hd : ¬ d > nn) (hk : (o.k = 0 ∧ s.In o.z ∧ o.bs.length = s.n) ∨ o.k = 2) : FInv (s.play o).2 nn (d + 1) ∧ ((d < nn ∧ (s.play o).1.2 = 0) ∨ (d = nn ∧ (s.play o).1.2 = 8)) := by
  have h0 := hi.1
  obtain ⟨hoff, hl⟩ := hi.on hd
  have ht := play_tick hoff hk
  by_cases hlt : d < nn
  · have := ht.1 (by omega)
    exact ⟨⟨by omega, .inl ⟨by omega, this.2.1, by omega⟩⟩, .inl ⟨hlt, this.1⟩⟩
  · have := ht.2 (by omega)
    exact ⟨⟨by omega, .inr ⟨by omega, this.2⟩⟩, .inr ⟨by omega, this.1⟩⟩
theorem fail_off (s : St) (z : Int) : (s.fail z).off = s.off := by
  unfold St.fail
  split <;> rfl
theorem sync_crash (s : St) (kb : List Bool) (z : Int) : ∃ s2, (s.crash kb z).sync = (0, s2) := by
  unfold St.sync
  rw [if_neg (by simp [St.crash]), if_neg (by simp [St.crash, St.fails])]
  exact ⟨_, rfl⟩
/-- kinkeep/kinkeeplaw15.DiskFails -/
theorem fails_big (z1 z2 : Int) (nn : Int) (hnn : nn ≤ 9223372036854775807) (A : Option Addr) (c hi : Nat) (os : List Op) (w : World) (hops : OpsAt w hi A os) (hhi : hi ≤ w.heap.size) (h : ¬ (1 ≤ z1 ∧ z1 ≤ 8 ∧ 1 ≤ z2 ∧ z2 ≤ 8 ∧ os.length ≤ 40)) :
    Ret Try.prog 10 [.int .i64 z1, .int .i64 z2, .int .i64 nn, .slice A os.length c] w fun v w' => v = .bool true ∧ Ext w w' := by
  have K0 : Ext w w := Keep.refl _ _
  refine ret_of Try.func10 rfl rfl ?_
  refine w_seq ?_
  refine w_region ?_
  refine sv rfl rfl rfl (ex_assign rfl rfl) ?_
  refine w_nil (qe_next ?_)
  refine w_seq ?_
  refine w_seq ?_
  refine w_region ?_
  refine st rfl rfl rfl (ex_call call11 rfl rfl (awake_c _)) ?_
  rintro _ w1 ⟨rfl, E9⟩
  replace K0 := K0.ext E9
  refine sv rfl rfl rfl (ex_not rfl rfl) ?_
  refine w_nil (qe_next ?_)
  refine w_cond_f rfl ?_
  refine w_skip (qe_next ?_)
  refine w_seq ?_
  refine w_seq ?_
  refine w_region ?_
  refine sv rfl rfl rfl (ex_move rfl rfl) ?_
  refine sv rfl rfl rfl (ex_move rfl rfl) ?_
  refine sv rfl rfl rfl (ex_move rfl rfl) ?_
  refine st rfl rfl rfl (ex_call call25 rfl rfl (small_f _ _ _ _ _ _ h)) ?_
  rintro _ w2 ⟨rfl, hwe⟩
  obtain rfl := hwe.symm
  refine sv rfl rfl rfl (ex_not rfl rfl) ?_
  refine sv rfl rfl rfl (ex_move rfl rfl) ?_
  first | refine sk rfl rfl rfl ?_ | refine sv rfl rfl rfl (ex_move rfl rfl) ?_
  refine sk rfl rfl rfl ?_
  first | refine sv rfl rfl rfl (ex_pick_t rfl rfl rfl) ?_ | refine sv rfl rfl rfl (ex_pick_f rfl rfl rfl) ?_
  refine w_nil (qe_next ?_)
  refine w_cond_t rfl ?_
  refine w_seq ?_
  refine w_region ?_
  refine sv rfl rfl rfl (ex_assign rfl rfl) ?_
  refine w_nil (qe_next ?_)
  refine w_ret (qe_then_ret (qe_ret1 rfl rfl ?_))
  exact ⟨rfl, K0⟩
/-- kinkeep/kinkeeplaw15.DiskFails -/
theorem fails_neg (k n : Nat) (nn : Int) (hnn : nn ≤ 9223372036854775807) (A : Option Addr) (c hi : Nat) (os : List Op) (w : World) (hops : OpsAt w hi A os) (hhi : hi ≤ w.heap.size) (k1 : 1 ≤ k) (k8 : k ≤ 8) (n1 : 1 ≤ n) (n8 : n ≤ 8) (h40 : os.length ≤ 40) (h0 : nn < 0) :
    Ret Try.prog 10 [.int .i64 (k : Int), .int .i64 (n : Int), .int .i64 nn, .slice A os.length c] w fun v w' => v = .bool true ∧ Ext w w' := by
  have K0 : Ext w w := Keep.refl _ _
  refine ret_of Try.func10 rfl rfl ?_
  refine w_seq ?_
  refine w_region ?_
  refine sv rfl rfl rfl (ex_assign rfl rfl) ?_
  refine w_nil (qe_next ?_)
  refine w_seq ?_
  refine w_seq ?_
  refine w_region ?_
  refine st rfl rfl rfl (ex_call call11 rfl rfl (awake_c _)) ?_
  rintro _ w1 ⟨rfl, E9⟩
  replace K0 := K0.ext E9
  refine sv rfl rfl rfl (ex_not rfl rfl) ?_
  refine w_nil (qe_next ?_)
  refine w_cond_f rfl ?_
  refine w_skip (qe_next ?_)
  refine w_seq ?_
  refine w_seq ?_
  refine w_region ?_
  refine sv rfl rfl rfl (ex_move rfl rfl) ?_
  refine sv rfl rfl rfl (ex_move rfl rfl) ?_
  refine sv rfl rfl rfl (ex_move rfl rfl) ?_
  refine st rfl rfl rfl (ex_call call25 rfl rfl (small_t _ _ _ _ _ _ ⟨by omega, by omega, by omega, by omega, h40⟩)) ?_
  rintro _ w2 ⟨rfl, hwe⟩
  obtain rfl := hwe.symm
  refine sv rfl rfl rfl (ex_not rfl rfl) ?_
  refine sv rfl rfl rfl (ex_move rfl rfl) ?_
  first | refine sk rfl rfl rfl ?_ | refine sv rfl rfl rfl (ex_move rfl rfl) ?_
  first | refine sk rfl rfl rfl ?_ | refine sv rfl rfl rfl (ex_cmp rfl rfl rfl (congrArg some (decide_eq_true (by omega)))) ?_
  first | refine sv rfl rfl rfl (ex_pick_t rfl rfl rfl) ?_ | refine sv rfl rfl rfl (ex_pick_f rfl rfl rfl) ?_
  refine w_nil (qe_next ?_)
  refine w_cond_t rfl ?_
  refine w_seq ?_
  refine w_region ?_
  refine sv rfl rfl rfl (ex_assign rfl rfl) ?_
  refine w_nil (qe_next ?_)
  refine w_ret (qe_then_ret (qe_ret1 rfl rfl ?_))
  exact ⟨rfl, K0⟩
/-- kinkeep/kinkeeplaw15.DiskFails -/
theorem fails_good (k n : Nat) (nn : Int) (hnn : nn ≤ 9223372036854775807) (A : Option Addr) (c hi : Nat) (os : List Op) (w : World) (hops : OpsAt w hi A os) (hhi : hi ≤ w.heap.size) (k1 : 1 ≤ k) (k8 : k ≤ 8) (n1 : 1 ≤ n) (n8 : n ≤ 8) (h40 : os.length ≤ 40) (h0 : 0 ≤ nn) :
    Ret Try.prog 10 [.int .i64 (k : Int), .int .i64 (n : Int), .int .i64 nn, .slice A os.length c] w fun v w' => v = .bool true ∧ Ext w w' := by
  have K0 : Ext w w := Keep.refl _ _
  refine ret_of Try.func10 rfl rfl ?_
  refine w_seq ?_
  refine w_region ?_
  refine sv rfl rfl rfl (ex_assign rfl rfl) ?_
  refine w_nil (qe_next ?_)
  refine w_seq ?_
  refine w_seq ?_
  refine w_region ?_
  refine st rfl rfl rfl (ex_call call11 rfl rfl (awake_c _)) ?_
  rintro _ w1 ⟨rfl, E9⟩
  replace K0 := K0.ext E9
  refine sv rfl rfl rfl (ex_not rfl rfl) ?_
  refine w_nil (qe_next ?_)
  refine w_cond_f rfl ?_
  refine w_skip (qe_next ?_)
  refine w_seq ?_
  refine w_seq ?_
  refine w_region ?_
  refine sv rfl rfl rfl (ex_move rfl rfl) ?_
  refine sv rfl rfl rfl (ex_move rfl rfl) ?_
  refine sv rfl rfl rfl (ex_move rfl rfl) ?_
  refine st rfl rfl rfl (ex_call call25 rfl rfl (small_t _ _ _ _ _ _ ⟨by omega, by omega, by omega, by omega, h40⟩)) ?_
  rintro _ w2 ⟨rfl, hwe⟩
  obtain rfl := hwe.symm
  refine sv rfl rfl rfl (ex_not rfl rfl) ?_
  refine sv rfl rfl rfl (ex_move rfl rfl) ?_
  first | refine sk rfl rfl rfl ?_ | refine sku rfl rfl rfl ?_ | refine sv rfl rfl rfl (ex_move rfl rfl) ?_
  first | refine sk rfl rfl rfl ?_ | refine sku rfl rfl rfl ?_ | refine sv rfl rfl rfl (ex_cmp rfl rfl rfl (congrArg some (decide_eq_false (by omega)))) ?_
  first | refine sv rfl rfl rfl (ex_pick_t rfl rfl rfl) ?_ | refine sv rfl rfl rfl (ex_pick_f rfl rfl rfl) ?_
  refine w_nil (qe_next ?_)
  refine w_cond_f rfl ?_
  refine w_skip (qe_next ?_)
  refine w_seq ?_
  refine w_region ?_
  refine sv rfl rfl rfl (ex_move rfl rfl) ?_
  refine sv rfl rfl rfl (ex_move rfl rfl) ?_
  have hz0 := K0.size
  refine st rfl rfl rfl (ex_call call12 rfl rfl (new_c k n _ k1 (by omega) n1 (by omega))) ?_
  rintro _ w3 ⟨kd, F, rfl, hD, hFn, E1⟩
  replace K0 := K0.ext E1
  have hwf0 := hD.wf
  replace hFn := fun j hj => Nat.le_trans hz0 (hFn j hj)
  refine sv rfl rfl rfl (ex_move rfl rfl) ?_
  refine sv rfl rfl rfl (ex_extract rfl rfl rfl) ?_
  refine sv rfl rfl rfl (ex_extract rfl rfl rfl) ?_
  refine sv rfl rfl rfl (ex_assign rfl rfl) ?_
  refine sv rfl rfl rfl (ex_assign rfl rfl) ?_
  refine w_nil (qe_next ?_)
  refine w_seq ?_
  refine w_region ?_
  refine sv rfl rfl rfl (ex_move rfl rfl) ?_
  refine sv rfl rfl rfl (ex_move rfl rfl) ?_
  refine st rfl rfl rfl (ex_call call30 rfl rfl (fail_e nn ((fresh n k).fail nn) F kd _ _ hD hnn rfl)) ?_
  rintro _ w4 ⟨rfl, hD2, K2⟩
  replace K0 := K0.trans K2 (fun j hj _ hF => by have := hFn j hF; omega)
  have hf0 : (fresh n k).fail nn = ⟨n, List.replicate k (List.replicate n 0), [], false, nn⟩ := by
    unfold St.fail fresh
    rw [if_neg (by simp), show max nn (-1) = nn by omega]
  rw [hf0] at hD2
  refine w_nil (qe_next ?_)
  refine w_seq ?_
  refine w_region ?_
  refine sv rfl rfl rfl (ex_assign rfl rfl) ?_
  refine w_nil (qe_next ?_)
  refine w_seq ?_
  refine w_seq ?_
  refine w_region ?_
  refine sv rfl rfl rfl (ex_assign rfl rfl) ?_
  refine w_nil (qe_next ?_)
  refine w_block ?_
  refine w_loop (ι := Nat × Int) (fun i => [(0, .int .i64 (k : Int)), (1, .int .i64 (n : Int)), (2, .int .i64 nn), (3, .slice A os.length c), (9, .pointer (some ⟨kd, 0, none⟩)), (11, .int .i64 i.2), (12, .int .i64 (i.1 : Int))]) (fun i wL => i.1 ≤ os.length ∧ i.2 ≤ (i.1 : Int) ∧ ∃ s F, DiskAt wL F kd s ∧ (∀ j, F j → w.heap.size ≤ j) ∧ FInv s nn i.2 ∧ s.du.length = k ∧ s.n = n ∧ s.pd.length ≤ i.1 ∧ Ext w wL) (fun i => os.length - i.1) ((0, 0)) ⟨rfl, rfl, rfl, rfl, rfl, rfl, rfl, trivial⟩ ?_ ?_
  · exact ⟨Nat.zero_le _, by simp, _, F, hD2, hFn, ⟨by simp, .inl ⟨by simp only; omega, rfl, by simp⟩⟩, by simp, rfl, by simp, K0⟩
  · clear hD2 hFn hD K2 K0
    rintro ⟨i, d⟩ wL ⟨hi1, hdi, s3, F3, hD3, hFn3, hfi0, hdl3, hsn3, hpl3, K0⟩
    simp only at hi1 hdi hfi0 hpl3
    have hd0 := hfi0.1
    refine w_seq ?_
    refine w_seq ?_
    refine w_region ?_
    refine sv rfl rfl rfl (ex_move rfl rfl) ?_
    refine sv rfl rfl rfl (ex_move rfl rfl) ?_
    refine sv rfl rfl rfl (ex_len Try.underlying44 rfl rfl) ?_
    refine sv rfl rfl rfl (ex_cmp rfl rfl rfl rfl) ?_
    refine w_nil (qe_next ?_)
    refine w_if rfl (fun hi2 => ?_) (fun hi2 => ?_)
    · skip
      replace hi2 : i < os.length := by first | omega | (simp only at hi2; omega)
      obtain ⟨o1, bo, off, hog, rfl, _, hoc⟩ := (hops.ext K0).at_ hi2
      have hFl3 := hD3.lt
      have hzL := K0.size
      refine w_skip (qe_next ?_)
      refine w_seq ?_
      refine w_block ?_
      refine w_seq ?_
      refine w_region ?_
      refine sv rfl rfl rfl (ex_move rfl rfl) ?_
      refine sv rfl rfl rfl (ex_move rfl rfl) ?_
      refine sv rfl rfl rfl (ex_indexN Try.underlying44 sz50 i rfl rfl rfl (by first | rfl | omega) (by omega)) ?_
      refine sv rfl rfl rfl (ex_load_agg (cs := o1.cells) agg50 rfl rfl (fun q u hu => hoc q u hu)) ?_
      refine st rfl rfl rfl (ex_alloc (z := .agg #[.int .i64 0, .int .i64 0, .slice none 0 0, .int .i64 0, .slice none 0 0, .int .u8 0]) (by kernel_rfl) (cs := [.int .i64 0, .int .i64 0, .slice none 0 0, .int .i64 0, .slice none 0 0, .int .u8 0]) rfl rfl) ?_
      rintro _ w5 ⟨b4, rfl, hb40, E4, hb4, hs4⟩
      replace hD3 := hD3.ext E4
      replace K0 := K0.ext E4
      refine st0 rfl rfl (ex_store_all (cs' := o1.cells) sz50 rfl rfl rfl (by intro v hv; simp [Op.cells] at hv; rcases hv with rfl | rfl | rfl | rfl | rfl | rfl <;> rfl) hb4 rfl rfl) ?_
      rintro _ w6 ⟨K4, hb5, hs5⟩
      replace hD3 := hD3.keep K4 (fun j hj e => by have := hFl3 j hj; omega)
      replace K0 := K0.trans K4 (fun j hj _ e => by omega)
      have hok := (hops.ext K0).ok o1 (List.mem_of_getElem? hog)
      refine w_nil (qe_next ?_)
      refine w_seq ?_
      refine w_seq ?_
      refine w_region ?_
      refine sv rfl rfl rfl (ex_fieldAddr fld50_0 rfl rfl) ?_
      refine sv rfl rfl rfl (ex_load one3 rfl rfl (hb5.cell rfl)) ?_
      refine sv_if rfl rfl rfl (ex_cmp rfl rfl rfl rfl) (fun f0 => ?_) (fun f0 => ?_)
      · skip
        refine sv rfl rfl rfl (ex_move rfl rfl) ?_
        first | refine sk rfl rfl rfl ?_ | refine sku rfl rfl rfl ?_ | refine sv rfl rfl rfl (ex_fieldAddr fld50_0 rfl rfl) ?_
        first | refine sk rfl rfl rfl ?_ | refine sku rfl rfl rfl ?_ | refine sv rfl rfl rfl (ex_load one3 rfl rfl (hb5.cell rfl)) ?_
        refine sv_if rfl rfl rfl (ex_cmp rfl rfl rfl rfl) (fun f1 => ?_) (fun f1 => ?_)
        · skip
          first | refine sv rfl rfl rfl (ex_pick_t rfl rfl rfl) ?_ | refine sv rfl rfl rfl (ex_pick_f rfl rfl rfl) ?_
          refine sv rfl rfl rfl (ex_move rfl rfl) ?_
          first | refine sk rfl rfl rfl ?_ | refine sku rfl rfl rfl ?_ | refine sv rfl rfl rfl (ex_fieldAddr fld50_0 rfl rfl) ?_
          first | refine sk rfl rfl rfl ?_ | refine sku rfl rfl rfl ?_ | refine sv rfl rfl rfl (ex_load one3 rfl rfl (hb5.cell rfl)) ?_
          refine sv_if rfl rfl rfl (ex_cmp rfl rfl rfl rfl) (fun f2 => ?_) (fun f2 => ?_)
          · skip
            first | refine sv rfl rfl rfl (ex_pick_t rfl rfl rfl) ?_ | refine sv rfl rfl rfl (ex_pick_f rfl rfl rfl) ?_
            refine w_nil (qe_next ?_)
            refine w_cond_t rfl ?_
            refine w_exit (qe_then_exit (qe_in_exit (qe_next ?_)))
            refine w_region ?_
            refine sv rfl rfl rfl (ex_move rfl rfl) ?_
            refine sv rfl rfl rfl (ex_add rfl rfl rfl (i64_in (by omega) (by omega))) ?_
            refine sv rfl rfl rfl (ex_assign rfl rfl) ?_
            refine w_nil (qe_round ((i + 1, d)) ⟨rfl, rfl, rfl, rfl, rfl, rfl, rfl, trivial⟩ ?_ ?_)
            · exact ⟨by simp only; omega, by simp only; omega, s3, F3, hD3, hFn3, hfi0, hdl3, hsn3, by simp only; omega, K0⟩
            · simp only; omega
          · skip
            first | refine sv rfl rfl rfl (ex_pick_t rfl rfl rfl) ?_ | refine sv rfl rfl rfl (ex_pick_f rfl rfl rfl) ?_
            refine w_nil (qe_next ?_)
            refine w_cond_f rfl ?_
            refine w_skip (qe_next ?_)
            refine w_seq ?_
            refine w_region ?_
            refine sv rfl rfl rfl (ex_move rfl rfl) ?_
            refine sv rfl rfl rfl (ex_load_agg (cs := o1.cells) agg50 rfl rfl (fun q u hu => by rw [Nat.zero_add]; exact hb5.cell hu)) ?_
            have hzP := K0.size
            have hFl4 := hD3.lt
            refine st rfl rfl rfl (ex_call call26 rfl rfl (play_c o1 hi F3 kd s3 _ hD3 hok (fun j hj => Nat.le_trans hhi (hFn3 j hj)) (by omega))) ?_
            rintro _ w7 ⟨B9, d9, F9, rfl, hD9, hG9, _, _, K9⟩
            replace hb5 := hb5.keep K9 (fun hF => by have := hFl3 b4 hF; omega)
            replace K0 := K0.trans K9 (fun j hj _ hF => by have := hFn3 j hF; omega)
            refine sv rfl rfl rfl (ex_move rfl rfl) ?_
            refine sv rfl rfl rfl (ex_extract rfl rfl rfl) ?_
            refine sv rfl rfl rfl (ex_extract rfl rfl rfl) ?_
            refine sv rfl rfl rfl (ex_assign rfl rfl) ?_
            refine sv rfl rfl rfl (ex_assign rfl rfl) ?_
            refine w_nil (qe_next ?_)
            refine w_seq ?_
            refine w_region ?_
            refine sv rfl rfl rfl (ex_fieldAddr fld50_0 rfl rfl) ?_
            refine sv rfl rfl rfl (ex_load one3 rfl rfl (hb5.cell rfl)) ?_
            refine sv rfl rfl rfl (ex_cmp rfl rfl rfl (congrArg some (decide_eq_false (by omega)))) ?_
            refine sv rfl rfl rfl (ex_move rfl rfl) ?_
            first | refine sk rfl rfl rfl ?_ | refine sku rfl rfl rfl ?_ | refine sv rfl rfl rfl (ex_fieldAddr fld50_1 rfl rfl) ?_
            first | refine sk rfl rfl rfl ?_ | refine sku rfl rfl rfl ?_ | refine sv rfl rfl rfl (ex_load one3 rfl rfl (hb5.cell rfl)) ?_
            refine sv_if rfl rfl rfl (ex_cmp rfl rfl rfl rfl) (fun g1 => ?_) (fun g1 => ?_)
            · skip
              first | refine sk rfl rfl rfl ?_ | refine sku rfl rfl rfl ?_ | refine sv rfl rfl rfl (ex_move rfl rfl) ?_
              first | refine sk rfl rfl rfl ?_ | refine sku rfl rfl rfl ?_ | refine sv rfl rfl rfl (ex_fieldAddr fld50_1 rfl rfl) ?_
              first | refine sk rfl rfl rfl ?_ | refine sku rfl rfl rfl ?_ | refine sv rfl rfl rfl (ex_load one3 rfl rfl (hb5.cell rfl)) ?_
              first | refine sk rfl rfl rfl ?_ | refine sku rfl rfl rfl ?_ | refine sv rfl rfl rfl (ex_move rfl rfl) ?_
              refine sv_if rfl rfl rfl (ex_cmp rfl rfl rfl rfl) (fun g2 => ?_) (fun g2 => ?_)
              · skip
                first | refine sk rfl rfl rfl ?_ | refine sku rfl rfl rfl ?_ | first | refine sv rfl rfl rfl (ex_pick_t rfl rfl rfl) ?_ | refine sv rfl rfl rfl (ex_pick_f rfl rfl rfl) ?_
                first | refine sk rfl rfl rfl ?_ | refine sku rfl rfl rfl ?_ | refine sv rfl rfl rfl (ex_move rfl rfl) ?_
                first | refine sk rfl rfl rfl ?_ | refine sku rfl rfl rfl ?_ | refine sv rfl rfl rfl (ex_fieldAddr fld50_0 rfl rfl) ?_
                first | refine sk rfl rfl rfl ?_ | refine sku rfl rfl rfl ?_ | refine sv rfl rfl rfl (ex_load one3 rfl rfl (hb5.cell rfl)) ?_
                first | refine sk rfl rfl rfl ?_ | refine sku rfl rfl rfl ?_ | refine sv rfl rfl rfl (ex_cmp rfl rfl rfl (congrArg some (decide_eq_true (by omega)))) ?_
                first | refine sk rfl rfl rfl ?_ | refine sku rfl rfl rfl ?_ | refine sv rfl rfl rfl (ex_move rfl rfl) ?_
                first | refine sk rfl rfl rfl ?_ | refine sku rfl rfl rfl ?_ | refine sv rfl rfl rfl (ex_fieldAddr fld50_2 rfl rfl) ?_
                first | refine sk rfl rfl rfl ?_ | refine sku rfl rfl rfl ?_ | refine sv rfl rfl rfl (ex_load one22 rfl rfl (hb5.cell rfl)) ?_
                first | refine sk rfl rfl rfl ?_ | refine sku rfl rfl rfl ?_ | refine sv rfl rfl rfl (ex_len Try.underlying22 rfl rfl) ?_
                first | refine sk rfl rfl rfl ?_ | refine sku rfl rfl rfl ?_ | refine sv rfl rfl rfl (ex_move rfl rfl) ?_
                first | refine sk rfl rfl rfl ?_ | refine sku rfl rfl rfl ?_
                first | refine sk rfl rfl rfl ?_ | refine sku rfl rfl rfl ?_ | first | refine sv rfl rfl rfl (ex_pick_t rfl rfl rfl) ?_ | refine sv rfl rfl rfl (ex_pick_f rfl rfl rfl) ?_
                first | refine sk rfl rfl rfl ?_ | refine sku rfl rfl rfl ?_ | first | refine sv rfl rfl rfl (ex_pick_t rfl rfl rfl) ?_ | refine sv rfl rfl rfl (ex_pick_f rfl rfl rfl) ?_
                first | refine sv rfl rfl rfl (ex_pick_t rfl rfl rfl) ?_ | refine sv rfl rfl rfl (ex_pick_f rfl rfl rfl) ?_
                refine sv rfl rfl rfl (ex_assign rfl rfl) ?_
                refine w_nil (qe_next ?_)
                refine w_seq ?_
                refine w_block ?_
                refine w_seq ?_
                have hpo := fun (hh : s3.off = true) => play_off (o := o1) hh (.inr (.inl (by omega)))
                have hpr := fun (hh : s3.off = false) => play_read (o := o1) hh (by omega) (by unfold St.In; omega)
                refine w_region ?_
                refine sv rfl rfl rfl (ex_move rfl rfl) ?_
                refine sv rfl rfl rfl (ex_move rfl rfl) ?_
                refine sv rfl rfl rfl (ex_cmp rfl rfl rfl rfl) ?_
                refine sv rfl rfl rfl (ex_assign rfl rfl) ?_
                refine w_nil (qe_next ?_)
                refine w_if rfl (fun dn => ?_) (fun dn => ?_)
                · skip
                  refine w_seq ?_
                  refine w_region ?_
                  refine sv rfl rfl rfl (ex_move rfl rfl) ?_
                  refine sv rfl rfl rfl (ex_cmp rfl rfl rfl (congrArg some (decide_eq_false (not_not_intro (by rw [hpo (hfi0.off dn)]))))) ?_
                  refine w_nil (qe_next ?_)
                  refine w_cond_f rfl ?_
                  refine w_skip (qe_in_normal (qe_next ?_))
                  refine w_seq ?_
                  have hfi : FInv (s3.play o1).2 nn d := by rw [hpo (hfi0.off dn)]; exact hfi0
                  refine w_region ?_
                  refine sv rfl rfl rfl (ex_move rfl rfl) ?_
                  refine st rfl rfl rfl (ex_call call21 rfl rfl (down_b (decide (_ > nn)) F9 kd _ _ hD9 hfi.dec)) ?_
                  rintro _ w8 ⟨rfl, hwe⟩
                  obtain rfl := hwe.symm
                  refine sv rfl rfl rfl (ex_move rfl rfl) ?_
                  refine sv rfl rfl rfl (ex_move rfl rfl) ?_
                  refine sv rfl rfl rfl (ex_cmp rfl rfl rfl rfl) ?_
                  refine sv rfl rfl rfl (ex_bne (z := false) Try.underlying4 rfl rfl rfl (by simp)) ?_
                  refine w_nil (qe_next ?_)
                  refine w_cond_f rfl ?_
                  refine w_skip (qe_in_normal (qe_next ?_))
                  refine w_region ?_
                  refine sv rfl rfl rfl (ex_move rfl rfl) ?_
                  refine sv rfl rfl rfl (ex_add rfl rfl rfl (i64_in (by omega) (by omega))) ?_
                  refine sv rfl rfl rfl (ex_assign rfl rfl) ?_
                  refine w_nil (qe_round ((i + 1, d)) ⟨rfl, rfl, rfl, rfl, rfl, rfl, rfl, trivial⟩ ?_ ?_)
                  · have hln := s3.play_len o1
                    exact ⟨by simp only; omega, by simp only; omega, _, F9, hD9, fun j hj => (hG9 j hj).elim (hFn3 j) (fun h => by omega), hfi, by rw [hln.2.2 hD3.wf]; exact hdl3, by rw [hln.2.1]; exact hsn3, by simp only; omega, K0⟩
                  · simp only; omega
                · skip
                  refine w_seq ?_
                  refine w_region ?_
                  refine sv rfl rfl rfl (ex_move rfl rfl) ?_
                  refine sv rfl rfl rfl (ex_not rfl rfl) ?_
                  refine sv rfl rfl rfl (ex_assign rfl rfl) ?_
                  refine w_nil (qe_next ?_)
                  refine w_cond_f rfl ?_
                  refine w_seq ?_
                  refine w_region ?_
                  refine sv rfl rfl rfl (ex_fieldAddr fld50_0 rfl rfl) ?_
                  refine sv rfl rfl rfl (ex_load one3 rfl rfl (hb5.cell rfl)) ?_
                  refine sv rfl rfl rfl (ex_cmp rfl rfl rfl (congrArg some (decide_eq_true (by omega)))) ?_
                  refine sv rfl rfl rfl (ex_assign rfl rfl) ?_
                  refine w_nil (qe_next ?_)
                  refine w_cond_t rfl ?_
                  refine w_seq ?_
                  refine w_region ?_
                  refine sv rfl rfl rfl (ex_move rfl rfl) ?_
                  refine sv rfl rfl rfl (ex_cmp rfl rfl rfl (congrArg some (decide_eq_false (not_not_intro (hpr (hfi0.on dn).1).1)))) ?_
                  refine w_nil (qe_next ?_)
                  refine w_cond_f rfl ?_
                  refine w_skip (qe_in_normal (qe_next ?_))
                  refine w_seq ?_
                  have hfi : FInv (s3.play o1).2 nn d := by rw [(hpr (hfi0.on dn).1).2]; exact hfi0
                  refine w_region ?_
                  refine sv rfl rfl rfl (ex_move rfl rfl) ?_
                  refine st rfl rfl rfl (ex_call call21 rfl rfl (down_b (decide (_ > nn)) F9 kd _ _ hD9 hfi.dec)) ?_
                  rintro _ w9 ⟨rfl, hwe⟩
                  obtain rfl := hwe.symm
                  refine sv rfl rfl rfl (ex_move rfl rfl) ?_
                  refine sv rfl rfl rfl (ex_move rfl rfl) ?_
                  refine sv rfl rfl rfl (ex_cmp rfl rfl rfl rfl) ?_
                  refine sv rfl rfl rfl (ex_bne (z := false) Try.underlying4 rfl rfl rfl (by simp)) ?_
                  refine w_nil (qe_next ?_)
                  refine w_cond_f rfl ?_
                  refine w_skip (qe_in_normal (qe_next ?_))
                  refine w_region ?_
                  refine sv rfl rfl rfl (ex_move rfl rfl) ?_
                  refine sv rfl rfl rfl (ex_add rfl rfl rfl (i64_in (by omega) (by omega))) ?_
                  refine sv rfl rfl rfl (ex_assign rfl rfl) ?_
                  refine w_nil (qe_round ((i + 1, d)) ⟨rfl, rfl, rfl, rfl, rfl, rfl, rfl, trivial⟩ ?_ ?_)
                  · have hln := s3.play_len o1
                    exact ⟨by simp only; omega, by simp only; omega, _, F9, hD9, fun j hj => (hG9 j hj).elim (hFn3 j) (fun h => by omega), hfi, by rw [hln.2.2 hD3.wf]; exact hdl3, by rw [hln.2.1]; exact hsn3, by simp only; omega, K0⟩
                  · simp only; omega
              · skip
                first | refine sk rfl rfl rfl ?_ | refine sku rfl rfl rfl ?_ | first | refine sv rfl rfl rfl (ex_pick_t rfl rfl rfl) ?_ | refine sv rfl rfl rfl (ex_pick_f rfl rfl rfl) ?_
                first | refine sk rfl rfl rfl ?_ | refine sku rfl rfl rfl ?_ | refine sv rfl rfl rfl (ex_move rfl rfl) ?_
                first | refine sk rfl rfl rfl ?_ | refine sku rfl rfl rfl ?_ | refine sv rfl rfl rfl (ex_fieldAddr fld50_0 rfl rfl) ?_
                first | refine sk rfl rfl rfl ?_ | refine sku rfl rfl rfl ?_ | refine sv rfl rfl rfl (ex_load one3 rfl rfl (hb5.cell rfl)) ?_
                first | refine sk rfl rfl rfl ?_ | refine sku rfl rfl rfl ?_
                first | refine sk rfl rfl rfl ?_ | refine sku rfl rfl rfl ?_ | refine sv rfl rfl rfl (ex_move rfl rfl) ?_
                first | refine sk rfl rfl rfl ?_ | refine sku rfl rfl rfl ?_ | refine sv rfl rfl rfl (ex_fieldAddr fld50_2 rfl rfl) ?_
                first | refine sk rfl rfl rfl ?_ | refine sku rfl rfl rfl ?_ | refine sv rfl rfl rfl (ex_load one22 rfl rfl (hb5.cell rfl)) ?_
                first | refine sk rfl rfl rfl ?_ | refine sku rfl rfl rfl ?_ | refine sv rfl rfl rfl (ex_len Try.underlying22 rfl rfl) ?_
                first | refine sk rfl rfl rfl ?_ | refine sku rfl rfl rfl ?_ | refine sv rfl rfl rfl (ex_move rfl rfl) ?_
                first | refine sk rfl rfl rfl ?_ | refine sku rfl rfl rfl ?_
                first | refine sk rfl rfl rfl ?_ | refine sku rfl rfl rfl ?_ | first | refine sv rfl rfl rfl (ex_pick_t rfl rfl rfl) ?_ | refine sv rfl rfl rfl (ex_pick_f rfl rfl rfl) ?_
                first | refine sk rfl rfl rfl ?_ | refine sku rfl rfl rfl ?_ | first | refine sv rfl rfl rfl (ex_pick_t rfl rfl rfl) ?_ | refine sv rfl rfl rfl (ex_pick_f rfl rfl rfl) ?_
                first | refine sv rfl rfl rfl (ex_pick_t rfl rfl rfl) ?_ | refine sv rfl rfl rfl (ex_pick_f rfl rfl rfl) ?_
                refine sv rfl rfl rfl (ex_assign rfl rfl) ?_
                refine w_nil (qe_next ?_)
                refine w_seq ?_
                refine w_block ?_
                refine w_seq ?_
                have hpo := fun (hh : s3.off = true) => play_off (o := o1) hh (.inr (.inl (by omega)))
                have hpb := fun (hh : s3.off = false) => play_bad (o := o1) hh (.inr ⟨by omega, fun h1 => by unfold St.In at h1; omega⟩)
                refine w_region ?_
                refine sv rfl rfl rfl (ex_move rfl rfl) ?_
                refine sv rfl rfl rfl (ex_move rfl rfl) ?_
                refine sv rfl rfl rfl (ex_cmp rfl rfl rfl rfl) ?_
                refine sv rfl rfl rfl (ex_assign rfl rfl) ?_
                refine w_nil (qe_next ?_)
                refine w_if rfl (fun dn => ?_) (fun dn => ?_)
                · skip
                  refine w_seq ?_
                  refine w_region ?_
                  refine sv rfl rfl rfl (ex_move rfl rfl) ?_
                  refine sv rfl rfl rfl (ex_cmp rfl rfl rfl (congrArg some (decide_eq_false (not_not_intro (by rw [hpo (hfi0.off dn)]))))) ?_
                  refine w_nil (qe_next ?_)
                  refine w_cond_f rfl ?_
                  refine w_skip (qe_in_normal (qe_next ?_))
                  refine w_seq ?_
                  have hfi : FInv (s3.play o1).2 nn d := by rw [hpo (hfi0.off dn)]; exact hfi0
                  refine w_region ?_
                  refine sv rfl rfl rfl (ex_move rfl rfl) ?_
                  refine st rfl rfl rfl (ex_call call21 rfl rfl (down_b (decide (_ > nn)) F9 kd _ _ hD9 hfi.dec)) ?_
                  rintro _ w10 ⟨rfl, hwe⟩
                  obtain rfl := hwe.symm
                  refine sv rfl rfl rfl (ex_move rfl rfl) ?_
                  refine sv rfl rfl rfl (ex_move rfl rfl) ?_
                  refine sv rfl rfl rfl (ex_cmp rfl rfl rfl rfl) ?_
                  refine sv rfl rfl rfl (ex_bne (z := false) Try.underlying4 rfl rfl rfl (by simp)) ?_
                  refine w_nil (qe_next ?_)
                  refine w_cond_f rfl ?_
                  refine w_skip (qe_in_normal (qe_next ?_))
                  refine w_region ?_
                  refine sv rfl rfl rfl (ex_move rfl rfl) ?_
                  refine sv rfl rfl rfl (ex_add rfl rfl rfl (i64_in (by omega) (by omega))) ?_
                  refine sv rfl rfl rfl (ex_assign rfl rfl) ?_
                  refine w_nil (qe_round ((i + 1, d)) ⟨rfl, rfl, rfl, rfl, rfl, rfl, rfl, trivial⟩ ?_ ?_)
                  · have hln := s3.play_len o1
                    exact ⟨by simp only; omega, by simp only; omega, _, F9, hD9, fun j hj => (hG9 j hj).elim (hFn3 j) (fun h => by omega), hfi, by rw [hln.2.2 hD3.wf]; exact hdl3, by rw [hln.2.1]; exact hsn3, by simp only; omega, K0⟩
                  · simp only; omega
                · skip
                  refine w_seq ?_
                  refine w_region ?_
                  refine sv rfl rfl rfl (ex_move rfl rfl) ?_
                  refine sv rfl rfl rfl (ex_not rfl rfl) ?_
                  refine sv rfl rfl rfl (ex_assign rfl rfl) ?_
                  refine w_nil (qe_next ?_)
                  refine w_cond_t rfl ?_
                  refine w_seq ?_
                  refine w_region ?_
                  refine sv rfl rfl rfl (ex_move rfl rfl) ?_
                  refine sv rfl rfl rfl (ex_cmp rfl rfl rfl (congrArg some (decide_eq_false (not_not_intro (by rw [hpb (hfi0.on dn).1]))))) ?_
                  refine w_nil (qe_next ?_)
                  refine w_cond_f rfl ?_
                  refine w_skip (qe_in_normal (qe_next ?_))
                  refine w_seq ?_
                  have hfi : FInv (s3.play o1).2 nn d := by rw [hpb (hfi0.on dn).1]; exact hfi0
                  refine w_region ?_
                  refine sv rfl rfl rfl (ex_move rfl rfl) ?_
                  refine st rfl rfl rfl (ex_call call21 rfl rfl (down_b (decide (_ > nn)) F9 kd _ _ hD9 hfi.dec)) ?_
                  rintro _ w11 ⟨rfl, hwe⟩
                  obtain rfl := hwe.symm
                  refine sv rfl rfl rfl (ex_move rfl rfl) ?_
                  refine sv rfl rfl rfl (ex_move rfl rfl) ?_
                  refine sv rfl rfl rfl (ex_cmp rfl rfl rfl rfl) ?_
                  refine sv rfl rfl rfl (ex_bne (z := false) Try.underlying4 rfl rfl rfl (by simp)) ?_
                  refine w_nil (qe_next ?_)
                  refine w_cond_f rfl ?_
                  refine w_skip (qe_in_normal (qe_next ?_))
                  refine w_region ?_
                  refine sv rfl rfl rfl (ex_move rfl rfl) ?_
                  refine sv rfl rfl rfl (ex_add rfl rfl rfl (i64_in (by omega) (by omega))) ?_
                  refine sv rfl rfl rfl (ex_assign rfl rfl) ?_
                  refine w_nil (qe_round ((i + 1, d)) ⟨rfl, rfl, rfl, rfl, rfl, rfl, rfl, trivial⟩ ?_ ?_)
                  · have hln := s3.play_len o1
                    exact ⟨by simp only; omega, by simp only; omega, _, F9, hD9, fun j hj => (hG9 j hj).elim (hFn3 j) (fun h => by omega), hfi, by rw [hln.2.2 hD3.wf]; exact hdl3, by rw [hln.2.1]; exact hsn3, by simp only; omega, K0⟩
                  · simp only; omega
            · skip
              first | refine sk rfl rfl rfl ?_ | refine sku rfl rfl rfl ?_ | refine sv rfl rfl rfl (ex_move rfl rfl) ?_
              first | refine sk rfl rfl rfl ?_ | refine sku rfl rfl rfl ?_ | refine sv rfl rfl rfl (ex_fieldAddr fld50_1 rfl rfl) ?_
              first | refine sk rfl rfl rfl ?_ | refine sku rfl rfl rfl ?_ | refine sv rfl rfl rfl (ex_load one3 rfl rfl (hb5.cell rfl)) ?_
              first | refine sk rfl rfl rfl ?_ | refine sku rfl rfl rfl ?_ | refine sv rfl rfl rfl (ex_move rfl rfl) ?_
              first | refine sk rfl rfl rfl ?_ | refine sku rfl rfl rfl ?_
              first | refine sk rfl rfl rfl ?_ | refine sku rfl rfl rfl ?_ | first | refine sv rfl rfl rfl (ex_pick_t rfl rfl rfl) ?_ | refine sv rfl rfl rfl (ex_pick_f rfl rfl rfl) ?_
              first | refine sk rfl rfl rfl ?_ | refine sku rfl rfl rfl ?_ | refine sv rfl rfl rfl (ex_move rfl rfl) ?_
              first | refine sk rfl rfl rfl ?_ | refine sku rfl rfl rfl ?_ | refine sv rfl rfl rfl (ex_fieldAddr fld50_0 rfl rfl) ?_
              first | refine sk rfl rfl rfl ?_ | refine sku rfl rfl rfl ?_ | refine sv rfl rfl rfl (ex_load one3 rfl rfl (hb5.cell rfl)) ?_
              first | refine sk rfl rfl rfl ?_ | refine sku rfl rfl rfl ?_
              first | refine sk rfl rfl rfl ?_ | refine sku rfl rfl rfl ?_ | refine sv rfl rfl rfl (ex_move rfl rfl) ?_
              first | refine sk rfl rfl rfl ?_ | refine sku rfl rfl rfl ?_ | refine sv rfl rfl rfl (ex_fieldAddr fld50_2 rfl rfl) ?_
              first | refine sk rfl rfl rfl ?_ | refine sku rfl rfl rfl ?_ | refine sv rfl rfl rfl (ex_load one22 rfl rfl (hb5.cell rfl)) ?_
              first | refine sk rfl rfl rfl ?_ | refine sku rfl rfl rfl ?_ | refine sv rfl rfl rfl (ex_len Try.underlying22 rfl rfl) ?_
              first | refine sk rfl rfl rfl ?_ | refine sku rfl rfl rfl ?_ | refine sv rfl rfl rfl (ex_move rfl rfl) ?_
              first | refine sk rfl rfl rfl ?_ | refine sku rfl rfl rfl ?_
              first | refine sk rfl rfl rfl ?_ | refine sku rfl rfl rfl ?_ | first | refine sv rfl rfl rfl (ex_pick_t rfl rfl rfl) ?_ | refine sv rfl rfl rfl (ex_pick_f rfl rfl rfl) ?_
              first | refine sk rfl rfl rfl ?_ | refine sku rfl rfl rfl ?_ | first | refine sv rfl rfl rfl (ex_pick_t rfl rfl rfl) ?_ | refine sv rfl rfl rfl (ex_pick_f rfl rfl rfl) ?_
              first | refine sv rfl rfl rfl (ex_pick_t rfl rfl rfl) ?_ | refine sv rfl rfl rfl (ex_pick_f rfl rfl rfl) ?_
              refine sv rfl rfl rfl (ex_assign rfl rfl) ?_
              refine w_nil (qe_next ?_)
              refine w_seq ?_
              refine w_block ?_
              refine w_seq ?_
              have hpo := fun (hh : s3.off = true) => play_off (o := o1) hh (.inr (.inl (by omega)))
              have hpb := fun (hh : s3.off = false) => play_bad (o := o1) hh (.inr ⟨by omega, fun h1 => by unfold St.In at h1; omega⟩)
              refine w_region ?_
              refine sv rfl rfl rfl (ex_move rfl rfl) ?_
              refine sv rfl rfl rfl (ex_move rfl rfl) ?_
              refine sv rfl rfl rfl (ex_cmp rfl rfl rfl rfl) ?_
              refine sv rfl rfl rfl (ex_assign rfl rfl) ?_
              refine w_nil (qe_next ?_)
              refine w_if rfl (fun dn => ?_) (fun dn => ?_)
              · skip
                refine w_seq ?_
                refine w_region ?_
                refine sv rfl rfl rfl (ex_move rfl rfl) ?_
                refine sv rfl rfl rfl (ex_cmp rfl rfl rfl (congrArg some (decide_eq_false (not_not_intro (by rw [hpo (hfi0.off dn)]))))) ?_
                refine w_nil (qe_next ?_)
                refine w_cond_f rfl ?_
                refine w_skip (qe_in_normal (qe_next ?_))
                refine w_seq ?_
                have hfi : FInv (s3.play o1).2 nn d := by rw [hpo (hfi0.off dn)]; exact hfi0
                refine w_region ?_
                refine sv rfl rfl rfl (ex_move rfl rfl) ?_
                refine st rfl rfl rfl (ex_call call21 rfl rfl (down_b (decide (_ > nn)) F9 kd _ _ hD9 hfi.dec)) ?_
                rintro _ w12 ⟨rfl, hwe⟩
                obtain rfl := hwe.symm
                refine sv rfl rfl rfl (ex_move rfl rfl) ?_
                refine sv rfl rfl rfl (ex_move rfl rfl) ?_
                refine sv rfl rfl rfl (ex_cmp rfl rfl rfl rfl) ?_
                refine sv rfl rfl rfl (ex_bne (z := false) Try.underlying4 rfl rfl rfl (by simp)) ?_
                refine w_nil (qe_next ?_)
                refine w_cond_f rfl ?_
                refine w_skip (qe_in_normal (qe_next ?_))
                refine w_region ?_
                refine sv rfl rfl rfl (ex_move rfl rfl) ?_
                refine sv rfl rfl rfl (ex_add rfl rfl rfl (i64_in (by omega) (by omega))) ?_
                refine sv rfl rfl rfl (ex_assign rfl rfl) ?_
                refine w_nil (qe_round ((i + 1, d)) ⟨rfl, rfl, rfl, rfl, rfl, rfl, rfl, trivial⟩ ?_ ?_)
                · have hln := s3.play_len o1
                  exact ⟨by simp only; omega, by simp only; omega, _, F9, hD9, fun j hj => (hG9 j hj).elim (hFn3 j) (fun h => by omega), hfi, by rw [hln.2.2 hD3.wf]; exact hdl3, by rw [hln.2.1]; exact hsn3, by simp only; omega, K0⟩
                · simp only; omega
              · skip
                refine w_seq ?_
                refine w_region ?_
                refine sv rfl rfl rfl (ex_move rfl rfl) ?_
                refine sv rfl rfl rfl (ex_not rfl rfl) ?_
                refine sv rfl rfl rfl (ex_assign rfl rfl) ?_
                refine w_nil (qe_next ?_)
                refine w_cond_t rfl ?_
                refine w_seq ?_
                refine w_region ?_
                refine sv rfl rfl rfl (ex_move rfl rfl) ?_
                refine sv rfl rfl rfl (ex_cmp rfl rfl rfl (congrArg some (decide_eq_false (not_not_intro (by rw [hpb (hfi0.on dn).1]))))) ?_
                refine w_nil (qe_next ?_)
                refine w_cond_f rfl ?_
                refine w_skip (qe_in_normal (qe_next ?_))
                refine w_seq ?_
                have hfi : FInv (s3.play o1).2 nn d := by rw [hpb (hfi0.on dn).1]; exact hfi0
                refine w_region ?_
                refine sv rfl rfl rfl (ex_move rfl rfl) ?_
                refine st rfl rfl rfl (ex_call call21 rfl rfl (down_b (decide (_ > nn)) F9 kd _ _ hD9 hfi.dec)) ?_
                rintro _ w13 ⟨rfl, hwe⟩
                obtain rfl := hwe.symm
                refine sv rfl rfl rfl (ex_move rfl rfl) ?_
                refine sv rfl rfl rfl (ex_move rfl rfl) ?_
                refine sv rfl rfl rfl (ex_cmp rfl rfl rfl rfl) ?_
                refine sv rfl rfl rfl (ex_bne (z := false) Try.underlying4 rfl rfl rfl (by simp)) ?_
                refine w_nil (qe_next ?_)
                refine w_cond_f rfl ?_
                refine w_skip (qe_in_normal (qe_next ?_))
                refine w_region ?_
                refine sv rfl rfl rfl (ex_move rfl rfl) ?_
                refine sv rfl rfl rfl (ex_add rfl rfl rfl (i64_in (by omega) (by omega))) ?_
                refine sv rfl rfl rfl (ex_assign rfl rfl) ?_
                refine w_nil (qe_round ((i + 1, d)) ⟨rfl, rfl, rfl, rfl, rfl, rfl, rfl, trivial⟩ ?_ ?_)
                · have hln := s3.play_len o1
                  exact ⟨by simp only; omega, by simp only; omega, _, F9, hD9, fun j hj => (hG9 j hj).elim (hFn3 j) (fun h => by omega), hfi, by rw [hln.2.2 hD3.wf]; exact hdl3, by rw [hln.2.1]; exact hsn3, by simp only; omega, K0⟩
                · simp only; omega
        · skip
          first | refine sv rfl rfl rfl (ex_pick_t rfl rfl rfl) ?_ | refine sv rfl rfl rfl (ex_pick_f rfl rfl rfl) ?_
          refine sv rfl rfl rfl (ex_move rfl rfl) ?_
          first | refine sk rfl rfl rfl ?_ | refine sku rfl rfl rfl ?_ | refine sv rfl rfl rfl (ex_fieldAddr fld50_0 rfl rfl) ?_
          first | refine sk rfl rfl rfl ?_ | refine sku rfl rfl rfl ?_ | refine sv rfl rfl rfl (ex_load one3 rfl rfl (hb5.cell rfl)) ?_
          first | refine sk rfl rfl rfl ?_ | refine sku rfl rfl rfl ?_
          first | refine sv rfl rfl rfl (ex_pick_t rfl rfl rfl) ?_ | refine sv rfl rfl rfl (ex_pick_f rfl rfl rfl) ?_
          refine w_nil (qe_next ?_)
          refine w_cond_f rfl ?_
          refine w_skip (qe_next ?_)
          refine w_seq ?_
          refine w_region ?_
          refine sv rfl rfl rfl (ex_move rfl rfl) ?_
          refine sv rfl rfl rfl (ex_load_agg (cs := o1.cells) agg50 rfl rfl (fun q u hu => by rw [Nat.zero_add]; exact hb5.cell hu)) ?_
          have hzP := K0.size
          have hFl4 := hD3.lt
          refine st rfl rfl rfl (ex_call call26 rfl rfl (play_c o1 hi F3 kd s3 _ hD3 hok (fun j hj => Nat.le_trans hhi (hFn3 j hj)) (by omega))) ?_
          rintro _ w14 ⟨B9, d9, F9, rfl, hD9, hG9, _, _, K9⟩
          replace hb5 := hb5.keep K9 (fun hF => by have := hFl3 b4 hF; omega)
          replace K0 := K0.trans K9 (fun j hj _ hF => by have := hFn3 j hF; omega)
          refine sv rfl rfl rfl (ex_move rfl rfl) ?_
          refine sv rfl rfl rfl (ex_extract rfl rfl rfl) ?_
          refine sv rfl rfl rfl (ex_extract rfl rfl rfl) ?_
          refine sv rfl rfl rfl (ex_assign rfl rfl) ?_
          refine sv rfl rfl rfl (ex_assign rfl rfl) ?_
          refine w_nil (qe_next ?_)
          refine w_seq ?_
          refine w_region ?_
          refine sv rfl rfl rfl (ex_fieldAddr fld50_0 rfl rfl) ?_
          refine sv rfl rfl rfl (ex_load one3 rfl rfl (hb5.cell rfl)) ?_
          refine sv rfl rfl rfl (ex_cmp rfl rfl rfl (congrArg some (decide_eq_true (by omega)))) ?_
          refine sv rfl rfl rfl (ex_move rfl rfl) ?_
          first | refine sk rfl rfl rfl ?_ | refine sku rfl rfl rfl ?_ | refine sv rfl rfl rfl (ex_fieldAddr fld50_1 rfl rfl) ?_
          first | refine sk rfl rfl rfl ?_ | refine sku rfl rfl rfl ?_ | refine sv rfl rfl rfl (ex_load one3 rfl rfl (hb5.cell rfl)) ?_
          first | refine sk rfl rfl rfl ?_ | refine sku rfl rfl rfl ?_
          first | refine sk rfl rfl rfl ?_ | refine sku rfl rfl rfl ?_ | refine sv rfl rfl rfl (ex_move rfl rfl) ?_
          first | refine sk rfl rfl rfl ?_ | refine sku rfl rfl rfl ?_ | refine sv rfl rfl rfl (ex_fieldAddr fld50_1 rfl rfl) ?_
          first | refine sk rfl rfl rfl ?_ | refine sku rfl rfl rfl ?_ | refine sv rfl rfl rfl (ex_load one3 rfl rfl (hb5.cell rfl)) ?_
          first | refine sk rfl rfl rfl ?_ | refine sku rfl rfl rfl ?_ | refine sv rfl rfl rfl (ex_move rfl rfl) ?_
          first | refine sk rfl rfl rfl ?_ | refine sku rfl rfl rfl ?_
          first | refine sk rfl rfl rfl ?_ | refine sku rfl rfl rfl ?_ | first | refine sv rfl rfl rfl (ex_pick_t rfl rfl rfl) ?_ | refine sv rfl rfl rfl (ex_pick_f rfl rfl rfl) ?_
          first | refine sk rfl rfl rfl ?_ | refine sku rfl rfl rfl ?_ | refine sv rfl rfl rfl (ex_move rfl rfl) ?_
          first | refine sk rfl rfl rfl ?_ | refine sku rfl rfl rfl ?_ | refine sv rfl rfl rfl (ex_fieldAddr fld50_0 rfl rfl) ?_
          first | refine sk rfl rfl rfl ?_ | refine sku rfl rfl rfl ?_ | refine sv rfl rfl rfl (ex_load one3 rfl rfl (hb5.cell rfl)) ?_
          first | refine sk rfl rfl rfl ?_ | refine sku rfl rfl rfl ?_
          first | refine sk rfl rfl rfl ?_ | refine sku rfl rfl rfl ?_ | refine sv rfl rfl rfl (ex_move rfl rfl) ?_
          first | refine sk rfl rfl rfl ?_ | refine sku rfl rfl rfl ?_ | refine sv rfl rfl rfl (ex_fieldAddr fld50_2 rfl rfl) ?_
          first | refine sk rfl rfl rfl ?_ | refine sku rfl rfl rfl ?_ | refine sv rfl rfl rfl (ex_load one22 rfl rfl (hb5.cell rfl)) ?_
          first | refine sk rfl rfl rfl ?_ | refine sku rfl rfl rfl ?_ | refine sv rfl rfl rfl (ex_len Try.underlying22 rfl rfl) ?_
          first | refine sk rfl rfl rfl ?_ | refine sku rfl rfl rfl ?_ | refine sv rfl rfl rfl (ex_move rfl rfl) ?_
          first | refine sk rfl rfl rfl ?_ | refine sku rfl rfl rfl ?_
          first | refine sk rfl rfl rfl ?_ | refine sku rfl rfl rfl ?_ | first | refine sv rfl rfl rfl (ex_pick_t rfl rfl rfl) ?_ | refine sv rfl rfl rfl (ex_pick_f rfl rfl rfl) ?_
          first | refine sk rfl rfl rfl ?_ | refine sku rfl rfl rfl ?_ | first | refine sv rfl rfl rfl (ex_pick_t rfl rfl rfl) ?_ | refine sv rfl rfl rfl (ex_pick_f rfl rfl rfl) ?_
          first | refine sv rfl rfl rfl (ex_pick_t rfl rfl rfl) ?_ | refine sv rfl rfl rfl (ex_pick_f rfl rfl rfl) ?_
          refine sv rfl rfl rfl (ex_assign rfl rfl) ?_
          refine w_nil (qe_next ?_)
          refine w_seq ?_
          refine w_block ?_
          refine w_seq ?_
          have hpo := fun (hh : s3.off = true) => play_off (o := o1) hh (.inr (.inr (by omega)))
          have hpt := fun (hh : ¬ d > nn) => fin_tick (o := o1) hfi0 hh (.inr (by omega))
          refine w_region ?_
          refine sv rfl rfl rfl (ex_move rfl rfl) ?_
          refine sv rfl rfl rfl (ex_move rfl rfl) ?_
          refine sv rfl rfl rfl (ex_cmp rfl rfl rfl rfl) ?_
          refine sv rfl rfl rfl (ex_assign rfl rfl) ?_
          refine w_nil (qe_next ?_)
          refine w_if rfl (fun dn => ?_) (fun dn => ?_)
          · skip
            refine w_seq ?_
            refine w_region ?_
            refine sv rfl rfl rfl (ex_move rfl rfl) ?_
            refine sv rfl rfl rfl (ex_cmp rfl rfl rfl (congrArg some (decide_eq_false (not_not_intro (by rw [hpo (hfi0.off dn)]))))) ?_
            refine w_nil (qe_next ?_)
            refine w_cond_f rfl ?_
            refine w_skip (qe_in_normal (qe_next ?_))
            refine w_seq ?_
            have hfi : FInv (s3.play o1).2 nn d := by rw [hpo (hfi0.off dn)]; exact hfi0
            refine w_region ?_
            refine sv rfl rfl rfl (ex_move rfl rfl) ?_
            refine st rfl rfl rfl (ex_call call21 rfl rfl (down_b (decide (_ > nn)) F9 kd _ _ hD9 hfi.dec)) ?_
            rintro _ w15 ⟨rfl, hwe⟩
            obtain rfl := hwe.symm
            refine sv rfl rfl rfl (ex_move rfl rfl) ?_
            refine sv rfl rfl rfl (ex_move rfl rfl) ?_
            refine sv rfl rfl rfl (ex_cmp rfl rfl rfl rfl) ?_
            refine sv rfl rfl rfl (ex_bne (z := false) Try.underlying4 rfl rfl rfl (by simp)) ?_
            refine w_nil (qe_next ?_)
            refine w_cond_f rfl ?_
            refine w_skip (qe_in_normal (qe_next ?_))
            refine w_region ?_
            refine sv rfl rfl rfl (ex_move rfl rfl) ?_
            refine sv rfl rfl rfl (ex_add rfl rfl rfl (i64_in (by omega) (by omega))) ?_
            refine sv rfl rfl rfl (ex_assign rfl rfl) ?_
            refine w_nil (qe_round ((i + 1, d)) ⟨rfl, rfl, rfl, rfl, rfl, rfl, rfl, trivial⟩ ?_ ?_)
            · have hln := s3.play_len o1
              exact ⟨by simp only; omega, by simp only; omega, _, F9, hD9, fun j hj => (hG9 j hj).elim (hFn3 j) (fun h => by omega), hfi, by rw [hln.2.2 hD3.wf]; exact hdl3, by rw [hln.2.1]; exact hsn3, by simp only; omega, K0⟩
            · simp only; omega
          · skip
            refine w_seq ?_
            refine w_region ?_
            refine sv rfl rfl rfl (ex_move rfl rfl) ?_
            refine sv rfl rfl rfl (ex_not rfl rfl) ?_
            refine sv rfl rfl rfl (ex_assign rfl rfl) ?_
            refine w_nil (qe_next ?_)
            refine w_cond_f rfl ?_
            refine w_seq ?_
            refine w_region ?_
            refine sv rfl rfl rfl (ex_fieldAddr fld50_0 rfl rfl) ?_
            refine sv rfl rfl rfl (ex_load one3 rfl rfl (hb5.cell rfl)) ?_
            refine sv rfl rfl rfl (ex_cmp rfl rfl rfl (congrArg some (decide_eq_false (by omega)))) ?_
            refine sv rfl rfl rfl (ex_assign rfl rfl) ?_
            refine w_nil (qe_next ?_)
            refine w_cond_f rfl ?_
            refine w_seq ?_
            refine w_seq ?_
            have hq9 := (hpt dn).2
            obtain ⟨er, her⟩ : ∃ er, er = (s3.play o1).1.2 := ⟨_, rfl⟩
            rw [← her] at hq9 ⊢
            refine w_region ?_
            refine sv rfl rfl rfl (ex_move rfl rfl) ?_
            refine sv_if rfl rfl rfl (ex_cmp rfl rfl rfl rfl) (fun ez => ?_) (fun ez => ?_)
            · skip
              refine sv rfl rfl rfl (ex_move rfl rfl) ?_
              refine sv rfl rfl rfl (ex_move rfl rfl) ?_
              refine sv rfl rfl rfl (ex_cmp rfl rfl rfl (congrArg some (decide_eq_true (by omega)))) ?_
              refine sv rfl rfl rfl (ex_bne Try.underlying4 rfl rfl rfl rfl) ?_
              refine sv rfl rfl rfl (ex_move rfl rfl) ?_
              first | refine sk rfl rfl rfl ?_ | refine sku rfl rfl rfl ?_ | refine sv rfl rfl rfl (ex_move rfl rfl) ?_
              first | refine sk rfl rfl rfl ?_ | refine sku rfl rfl rfl ?_ | refine sv rfl rfl rfl (ex_cmp rfl rfl rfl (congrArg some (decide_eq_false (by omega)))) ?_
              first | refine sk rfl rfl rfl ?_ | refine sku rfl rfl rfl ?_ | refine sv rfl rfl rfl (ex_move rfl rfl) ?_
              first | refine sk rfl rfl rfl ?_ | refine sku rfl rfl rfl ?_ | refine sv rfl rfl rfl (ex_move rfl rfl) ?_
              first | refine sk rfl rfl rfl ?_ | refine sku rfl rfl rfl ?_
              first | refine sk rfl rfl rfl ?_ | refine sku rfl rfl rfl ?_ | first | refine sv rfl rfl rfl (ex_pick_t rfl rfl rfl) ?_ | refine sv rfl rfl rfl (ex_pick_f rfl rfl rfl) ?_
              first | refine sv rfl rfl rfl (ex_pick_t rfl rfl rfl) ?_ | refine sv rfl rfl rfl (ex_pick_f rfl rfl rfl) ?_
              refine w_nil (qe_next ?_)
              refine w_cond_f rfl ?_
              refine w_skip (qe_next ?_)
              refine w_region ?_
              refine sv rfl rfl rfl (ex_move rfl rfl) ?_
              refine sv rfl rfl rfl (ex_add rfl rfl rfl (i64_in (by omega) (by omega))) ?_
              refine sv rfl rfl rfl (ex_assign rfl rfl) ?_
              refine w_nil (qe_in_normal (qe_next ?_))
              refine w_seq ?_
              have hfi := (hpt dn).1
              refine w_region ?_
              refine sv rfl rfl rfl (ex_move rfl rfl) ?_
              refine st rfl rfl rfl (ex_call call21 rfl rfl (down_b (decide (_ > nn)) F9 kd _ _ hD9 hfi.dec)) ?_
              rintro _ w16 ⟨rfl, hwe⟩
              obtain rfl := hwe.symm
              refine sv rfl rfl rfl (ex_move rfl rfl) ?_
              refine sv rfl rfl rfl (ex_move rfl rfl) ?_
              refine sv rfl rfl rfl (ex_cmp rfl rfl rfl rfl) ?_
              refine sv rfl rfl rfl (ex_bne (z := false) Try.underlying4 rfl rfl rfl (by simp)) ?_
              refine w_nil (qe_next ?_)
              refine w_cond_f rfl ?_
              refine w_skip (qe_in_normal (qe_next ?_))
              refine w_region ?_
              refine sv rfl rfl rfl (ex_move rfl rfl) ?_
              refine sv rfl rfl rfl (ex_add rfl rfl rfl (i64_in (by omega) (by omega))) ?_
              refine sv rfl rfl rfl (ex_assign rfl rfl) ?_
              refine w_nil (qe_round ((i + 1, d + 1)) ⟨rfl, rfl, rfl, rfl, rfl, rfl, rfl, trivial⟩ ?_ ?_)
              · have hln := s3.play_len o1
                exact ⟨by simp only; omega, by simp only; omega, _, F9, hD9, fun j hj => (hG9 j hj).elim (hFn3 j) (fun h => by omega), hfi, by rw [hln.2.2 hD3.wf]; exact hdl3, by rw [hln.2.1]; exact hsn3, by simp only; omega, K0⟩
              · simp only; omega
            · skip
              refine sv rfl rfl rfl (ex_move rfl rfl) ?_
              refine sv rfl rfl rfl (ex_move rfl rfl) ?_
              refine sv rfl rfl rfl (ex_cmp rfl rfl rfl (congrArg some (decide_eq_false (by omega)))) ?_
              refine sv rfl rfl rfl (ex_bne Try.underlying4 rfl rfl rfl rfl) ?_
              refine sv rfl rfl rfl (ex_move rfl rfl) ?_
              first | refine sk rfl rfl rfl ?_ | refine sku rfl rfl rfl ?_ | refine sv rfl rfl rfl (ex_move rfl rfl) ?_
              first | refine sk rfl rfl rfl ?_ | refine sku rfl rfl rfl ?_ | refine sv rfl rfl rfl (ex_cmp rfl rfl rfl (congrArg some (decide_eq_true (by omega)))) ?_
              first | refine sk rfl rfl rfl ?_ | refine sku rfl rfl rfl ?_ | refine sv rfl rfl rfl (ex_move rfl rfl) ?_
              first | refine sk rfl rfl rfl ?_ | refine sku rfl rfl rfl ?_ | refine sv rfl rfl rfl (ex_move rfl rfl) ?_
              first | refine sk rfl rfl rfl ?_ | refine sku rfl rfl rfl ?_ | refine sv rfl rfl rfl (ex_cmp rfl rfl rfl (congrArg some (decide_eq_false (by omega)))) ?_
              first | refine sk rfl rfl rfl ?_ | refine sku rfl rfl rfl ?_ | first | refine sv rfl rfl rfl (ex_pick_t rfl rfl rfl) ?_ | refine sv rfl rfl rfl (ex_pick_f rfl rfl rfl) ?_
              first | refine sv rfl rfl rfl (ex_pick_t rfl rfl rfl) ?_ | refine sv rfl rfl rfl (ex_pick_f rfl rfl rfl) ?_
              refine w_nil (qe_next ?_)
              refine w_cond_f rfl ?_
              refine w_skip (qe_next ?_)
              refine w_region ?_
              refine sv rfl rfl rfl (ex_move rfl rfl) ?_
              refine sv rfl rfl rfl (ex_add rfl rfl rfl (i64_in (by omega) (by omega))) ?_
              refine sv rfl rfl rfl (ex_assign rfl rfl) ?_
              refine w_nil (qe_in_normal (qe_next ?_))
              refine w_seq ?_
              have hfi := (hpt dn).1
              refine w_region ?_
              refine sv rfl rfl rfl (ex_move rfl rfl) ?_
              refine st rfl rfl rfl (ex_call call21 rfl rfl (down_b (decide (_ > nn)) F9 kd _ _ hD9 hfi.dec)) ?_
              rintro _ w17 ⟨rfl, hwe⟩
              obtain rfl := hwe.symm
              refine sv rfl rfl rfl (ex_move rfl rfl) ?_
              refine sv rfl rfl rfl (ex_move rfl rfl) ?_
              refine sv rfl rfl rfl (ex_cmp rfl rfl rfl rfl) ?_
              refine sv rfl rfl rfl (ex_bne (z := false) Try.underlying4 rfl rfl rfl (by simp)) ?_
              refine w_nil (qe_next ?_)
              refine w_cond_f rfl ?_
              refine w_skip (qe_in_normal (qe_next ?_))
              refine w_region ?_
              refine sv rfl rfl rfl (ex_move rfl rfl) ?_
              refine sv rfl rfl rfl (ex_add rfl rfl rfl (i64_in (by omega) (by omega))) ?_
              refine sv rfl rfl rfl (ex_assign rfl rfl) ?_
              refine w_nil (qe_round ((i + 1, d + 1)) ⟨rfl, rfl, rfl, rfl, rfl, rfl, rfl, trivial⟩ ?_ ?_)
              · have hln := s3.play_len o1
                exact ⟨by simp only; omega, by simp only; omega, _, F9, hD9, fun j hj => (hG9 j hj).elim (hFn3 j) (fun h => by omega), hfi, by rw [hln.2.2 hD3.wf]; exact hdl3, by rw [hln.2.1]; exact hsn3, by simp only; omega, K0⟩
              · simp only; omega
      · skip
        refine sv rfl rfl rfl (ex_move rfl rfl) ?_
        first | refine sk rfl rfl rfl ?_ | refine sku rfl rfl rfl ?_ | refine sv rfl rfl rfl (ex_fieldAddr fld50_0 rfl rfl) ?_
        first | refine sk rfl rfl rfl ?_ | refine sku rfl rfl rfl ?_ | refine sv rfl rfl rfl (ex_load one3 rfl rfl (hb5.cell rfl)) ?_
        first | refine sk rfl rfl rfl ?_ | refine sku rfl rfl rfl ?_
        first | refine sv rfl rfl rfl (ex_pick_t rfl rfl rfl) ?_ | refine sv rfl rfl rfl (ex_pick_f rfl rfl rfl) ?_
        refine sv rfl rfl rfl (ex_move rfl rfl) ?_
        first | refine sk rfl rfl rfl ?_ | refine sku rfl rfl rfl ?_ | refine sv rfl rfl rfl (ex_fieldAddr fld50_0 rfl rfl) ?_
        first | refine sk rfl rfl rfl ?_ | refine sku rfl rfl rfl ?_ | refine sv rfl rfl rfl (ex_load one3 rfl rfl (hb5.cell rfl)) ?_
        first | refine sk rfl rfl rfl ?_ | refine sku rfl rfl rfl ?_
        first | refine sv rfl rfl rfl (ex_pick_t rfl rfl rfl) ?_ | refine sv rfl rfl rfl (ex_pick_f rfl rfl rfl) ?_
        refine w_nil (qe_next ?_)
        refine w_cond_f rfl ?_
        refine w_skip (qe_next ?_)
        refine w_seq ?_
        refine w_region ?_
        refine sv rfl rfl rfl (ex_move rfl rfl) ?_
        refine sv rfl rfl rfl (ex_load_agg (cs := o1.cells) agg50 rfl rfl (fun q u hu => by rw [Nat.zero_add]; exact hb5.cell hu)) ?_
        have hzP := K0.size
        have hFl4 := hD3.lt
        refine st rfl rfl rfl (ex_call call26 rfl rfl (play_c o1 hi F3 kd s3 _ hD3 hok (fun j hj => Nat.le_trans hhi (hFn3 j hj)) (by omega))) ?_
        rintro _ w18 ⟨B9, d9, F9, rfl, hD9, hG9, _, _, K9⟩
        replace hb5 := hb5.keep K9 (fun hF => by have := hFl3 b4 hF; omega)
        replace K0 := K0.trans K9 (fun j hj _ hF => by have := hFn3 j hF; omega)
        refine sv rfl rfl rfl (ex_move rfl rfl) ?_
        refine sv rfl rfl rfl (ex_extract rfl rfl rfl) ?_
        refine sv rfl rfl rfl (ex_extract rfl rfl rfl) ?_
        refine sv rfl rfl rfl (ex_assign rfl rfl) ?_
        refine sv rfl rfl rfl (ex_assign rfl rfl) ?_
        refine w_nil (qe_next ?_)
        refine w_seq ?_
        refine w_region ?_
        refine sv rfl rfl rfl (ex_fieldAddr fld50_0 rfl rfl) ?_
        refine sv rfl rfl rfl (ex_load one3 rfl rfl (hb5.cell rfl)) ?_
        refine sv rfl rfl rfl (ex_cmp rfl rfl rfl (congrArg some (decide_eq_false (by omega)))) ?_
        refine sv rfl rfl rfl (ex_move rfl rfl) ?_
        first | refine sk rfl rfl rfl ?_ | refine sku rfl rfl rfl ?_ | refine sv rfl rfl rfl (ex_fieldAddr fld50_1 rfl rfl) ?_
        first | refine sk rfl rfl rfl ?_ | refine sku rfl rfl rfl ?_ | refine sv rfl rfl rfl (ex_load one3 rfl rfl (hb5.cell rfl)) ?_
        refine sv_if rfl rfl rfl (ex_cmp rfl rfl rfl rfl) (fun g1 => ?_) (fun g1 => ?_)
        · skip
          first | refine sk rfl rfl rfl ?_ | refine sku rfl rfl rfl ?_ | refine sv rfl rfl rfl (ex_move rfl rfl) ?_
          first | refine sk rfl rfl rfl ?_ | refine sku rfl rfl rfl ?_ | refine sv rfl rfl rfl (ex_fieldAddr fld50_1 rfl rfl) ?_
          first | refine sk rfl rfl rfl ?_ | refine sku rfl rfl rfl ?_ | refine sv rfl rfl rfl (ex_load one3 rfl rfl (hb5.cell rfl)) ?_
          first | refine sk rfl rfl rfl ?_ | refine sku rfl rfl rfl ?_ | refine sv rfl rfl rfl (ex_move rfl rfl) ?_
          refine sv_if rfl rfl rfl (ex_cmp rfl rfl rfl rfl) (fun g2 => ?_) (fun g2 => ?_)
          · skip
            first | refine sk rfl rfl rfl ?_ | refine sku rfl rfl rfl ?_ | first | refine sv rfl rfl rfl (ex_pick_t rfl rfl rfl) ?_ | refine sv rfl rfl rfl (ex_pick_f rfl rfl rfl) ?_
            first | refine sk rfl rfl rfl ?_ | refine sku rfl rfl rfl ?_ | refine sv rfl rfl rfl (ex_move rfl rfl) ?_
            first | refine sk rfl rfl rfl ?_ | refine sku rfl rfl rfl ?_ | refine sv rfl rfl rfl (ex_fieldAddr fld50_0 rfl rfl) ?_
            first | refine sk rfl rfl rfl ?_ | refine sku rfl rfl rfl ?_ | refine sv rfl rfl rfl (ex_load one3 rfl rfl (hb5.cell rfl)) ?_
            first | refine sk rfl rfl rfl ?_ | refine sku rfl rfl rfl ?_ | refine sv rfl rfl rfl (ex_cmp rfl rfl rfl (congrArg some (decide_eq_false (by omega)))) ?_
            first | refine sk rfl rfl rfl ?_ | refine sku rfl rfl rfl ?_ | refine sv rfl rfl rfl (ex_move rfl rfl) ?_
            first | refine sk rfl rfl rfl ?_ | refine sku rfl rfl rfl ?_ | refine sv rfl rfl rfl (ex_fieldAddr fld50_2 rfl rfl) ?_
            first | refine sk rfl rfl rfl ?_ | refine sku rfl rfl rfl ?_ | refine sv rfl rfl rfl (ex_load one22 rfl rfl (hb5.cell rfl)) ?_
            first | refine sk rfl rfl rfl ?_ | refine sku rfl rfl rfl ?_ | refine sv rfl rfl rfl (ex_len Try.underlying22 rfl rfl) ?_
            first | refine sk rfl rfl rfl ?_ | refine sku rfl rfl rfl ?_ | refine sv rfl rfl rfl (ex_move rfl rfl) ?_
            refine sv_if rfl rfl rfl (ex_cmp rfl rfl rfl rfl) (fun g3 => ?_) (fun g3 => ?_)
            · skip
              first | refine sk rfl rfl rfl ?_ | refine sku rfl rfl rfl ?_ | first | refine sv rfl rfl rfl (ex_pick_t rfl rfl rfl) ?_ | refine sv rfl rfl rfl (ex_pick_f rfl rfl rfl) ?_
              first | refine sk rfl rfl rfl ?_ | refine sku rfl rfl rfl ?_ | first | refine sv rfl rfl rfl (ex_pick_t rfl rfl rfl) ?_ | refine sv rfl rfl rfl (ex_pick_f rfl rfl rfl) ?_
              first | refine sv rfl rfl rfl (ex_pick_t rfl rfl rfl) ?_ | refine sv rfl rfl rfl (ex_pick_f rfl rfl rfl) ?_
              refine sv rfl rfl rfl (ex_assign rfl rfl) ?_
              refine w_nil (qe_next ?_)
              refine w_seq ?_
              refine w_block ?_
              refine w_seq ?_
              have hpo := fun (hh : s3.off = true) => play_off (o := o1) hh (.inl (by omega))
              have hpt := fun (hh : ¬ d > nn) => fin_tick (o := o1) hfi0 hh (.inl ⟨by omega, by unfold St.In; omega, by omega⟩)
              refine w_region ?_
              refine sv rfl rfl rfl (ex_move rfl rfl) ?_
              refine sv rfl rfl rfl (ex_move rfl rfl) ?_
              refine sv rfl rfl rfl (ex_cmp rfl rfl rfl rfl) ?_
              refine sv rfl rfl rfl (ex_assign rfl rfl) ?_
              refine w_nil (qe_next ?_)
              refine w_if rfl (fun dn => ?_) (fun dn => ?_)
              · skip
                refine w_seq ?_
                refine w_region ?_
                refine sv rfl rfl rfl (ex_move rfl rfl) ?_
                refine sv rfl rfl rfl (ex_cmp rfl rfl rfl (congrArg some (decide_eq_false (not_not_intro (by rw [hpo (hfi0.off dn)]))))) ?_
                refine w_nil (qe_next ?_)
                refine w_cond_f rfl ?_
                refine w_skip (qe_in_normal (qe_next ?_))
                refine w_seq ?_
                have hfi : FInv (s3.play o1).2 nn d := by rw [hpo (hfi0.off dn)]; exact hfi0
                refine w_region ?_
                refine sv rfl rfl rfl (ex_move rfl rfl) ?_
                refine st rfl rfl rfl (ex_call call21 rfl rfl (down_b (decide (_ > nn)) F9 kd _ _ hD9 hfi.dec)) ?_
                rintro _ w19 ⟨rfl, hwe⟩
                obtain rfl := hwe.symm
                refine sv rfl rfl rfl (ex_move rfl rfl) ?_
                refine sv rfl rfl rfl (ex_move rfl rfl) ?_
                refine sv rfl rfl rfl (ex_cmp rfl rfl rfl rfl) ?_
                refine sv rfl rfl rfl (ex_bne (z := false) Try.underlying4 rfl rfl rfl (by simp)) ?_
                refine w_nil (qe_next ?_)
                refine w_cond_f rfl ?_
                refine w_skip (qe_in_normal (qe_next ?_))
                refine w_region ?_
                refine sv rfl rfl rfl (ex_move rfl rfl) ?_
                refine sv rfl rfl rfl (ex_add rfl rfl rfl (i64_in (by omega) (by omega))) ?_
                refine sv rfl rfl rfl (ex_assign rfl rfl) ?_
                refine w_nil (qe_round ((i + 1, d)) ⟨rfl, rfl, rfl, rfl, rfl, rfl, rfl, trivial⟩ ?_ ?_)
                · have hln := s3.play_len o1
                  exact ⟨by simp only; omega, by simp only; omega, _, F9, hD9, fun j hj => (hG9 j hj).elim (hFn3 j) (fun h => by omega), hfi, by rw [hln.2.2 hD3.wf]; exact hdl3, by rw [hln.2.1]; exact hsn3, by simp only; omega, K0⟩
                · simp only; omega
              · skip
                refine w_seq ?_
                refine w_region ?_
                refine sv rfl rfl rfl (ex_move rfl rfl) ?_
                refine sv rfl rfl rfl (ex_not rfl rfl) ?_
                refine sv rfl rfl rfl (ex_assign rfl rfl) ?_
                refine w_nil (qe_next ?_)
                refine w_cond_f rfl ?_
                refine w_seq ?_
                refine w_region ?_
                refine sv rfl rfl rfl (ex_fieldAddr fld50_0 rfl rfl) ?_
                refine sv rfl rfl rfl (ex_load one3 rfl rfl (hb5.cell rfl)) ?_
                refine sv rfl rfl rfl (ex_cmp rfl rfl rfl (congrArg some (decide_eq_false (by omega)))) ?_
                refine sv rfl rfl rfl (ex_assign rfl rfl) ?_
                refine w_nil (qe_next ?_)
                refine w_cond_f rfl ?_
                refine w_seq ?_
                refine w_seq ?_
                have hq9 := (hpt dn).2
                obtain ⟨er, her⟩ : ∃ er, er = (s3.play o1).1.2 := ⟨_, rfl⟩
                rw [← her] at hq9 ⊢
                refine w_region ?_
                refine sv rfl rfl rfl (ex_move rfl rfl) ?_
                refine sv_if rfl rfl rfl (ex_cmp rfl rfl rfl rfl) (fun ez => ?_) (fun ez => ?_)
                · skip
                  refine sv rfl rfl rfl (ex_move rfl rfl) ?_
                  refine sv rfl rfl rfl (ex_move rfl rfl) ?_
                  refine sv rfl rfl rfl (ex_cmp rfl rfl rfl (congrArg some (decide_eq_true (by omega)))) ?_
                  refine sv rfl rfl rfl (ex_bne Try.underlying4 rfl rfl rfl rfl) ?_
                  refine sv rfl rfl rfl (ex_move rfl rfl) ?_
                  first | refine sk rfl rfl rfl ?_ | refine sku rfl rfl rfl ?_ | refine sv rfl rfl rfl (ex_move rfl rfl) ?_
                  first | refine sk rfl rfl rfl ?_ | refine sku rfl rfl rfl ?_ | refine sv rfl rfl rfl (ex_cmp rfl rfl rfl (congrArg some (decide_eq_false (by omega)))) ?_
                  first | refine sk rfl rfl rfl ?_ | refine sku rfl rfl rfl ?_ | refine sv rfl rfl rfl (ex_move rfl rfl) ?_
                  first | refine sk rfl rfl rfl ?_ | refine sku rfl rfl rfl ?_ | refine sv rfl rfl rfl (ex_move rfl rfl) ?_
                  first | refine sk rfl rfl rfl ?_ | refine sku rfl rfl rfl ?_
                  first | refine sk rfl rfl rfl ?_ | refine sku rfl rfl rfl ?_ | first | refine sv rfl rfl rfl (ex_pick_t rfl rfl rfl) ?_ | refine sv rfl rfl rfl (ex_pick_f rfl rfl rfl) ?_
                  first | refine sv rfl rfl rfl (ex_pick_t rfl rfl rfl) ?_ | refine sv rfl rfl rfl (ex_pick_f rfl rfl rfl) ?_
                  refine w_nil (qe_next ?_)
                  refine w_cond_f rfl ?_
                  refine w_skip (qe_next ?_)
                  refine w_region ?_
                  refine sv rfl rfl rfl (ex_move rfl rfl) ?_
                  refine sv rfl rfl rfl (ex_add rfl rfl rfl (i64_in (by omega) (by omega))) ?_
                  refine sv rfl rfl rfl (ex_assign rfl rfl) ?_
                  refine w_nil (qe_in_normal (qe_next ?_))
                  refine w_seq ?_
                  have hfi := (hpt dn).1
                  refine w_region ?_
                  refine sv rfl rfl rfl (ex_move rfl rfl) ?_
                  refine st rfl rfl rfl (ex_call call21 rfl rfl (down_b (decide (_ > nn)) F9 kd _ _ hD9 hfi.dec)) ?_
                  rintro _ w20 ⟨rfl, hwe⟩
                  obtain rfl := hwe.symm
                  refine sv rfl rfl rfl (ex_move rfl rfl) ?_
                  refine sv rfl rfl rfl (ex_move rfl rfl) ?_
                  refine sv rfl rfl rfl (ex_cmp rfl rfl rfl rfl) ?_
                  refine sv rfl rfl rfl (ex_bne (z := false) Try.underlying4 rfl rfl rfl (by simp)) ?_
                  refine w_nil (qe_next ?_)
                  refine w_cond_f rfl ?_
                  refine w_skip (qe_in_normal (qe_next ?_))
                  refine w_region ?_
                  refine sv rfl rfl rfl (ex_move rfl rfl) ?_
                  refine sv rfl rfl rfl (ex_add rfl rfl rfl (i64_in (by omega) (by omega))) ?_
                  refine sv rfl rfl rfl (ex_assign rfl rfl) ?_
                  refine w_nil (qe_round ((i + 1, d + 1)) ⟨rfl, rfl, rfl, rfl, rfl, rfl, rfl, trivial⟩ ?_ ?_)
                  · have hln := s3.play_len o1
                    exact ⟨by simp only; omega, by simp only; omega, _, F9, hD9, fun j hj => (hG9 j hj).elim (hFn3 j) (fun h => by omega), hfi, by rw [hln.2.2 hD3.wf]; exact hdl3, by rw [hln.2.1]; exact hsn3, by simp only; omega, K0⟩
                  · simp only; omega
                · skip
                  refine sv rfl rfl rfl (ex_move rfl rfl) ?_
                  refine sv rfl rfl rfl (ex_move rfl rfl) ?_
                  refine sv rfl rfl rfl (ex_cmp rfl rfl rfl (congrArg some (decide_eq_false (by omega)))) ?_
                  refine sv rfl rfl rfl (ex_bne Try.underlying4 rfl rfl rfl rfl) ?_
                  refine sv rfl rfl rfl (ex_move rfl rfl) ?_
                  first | refine sk rfl rfl rfl ?_ | refine sku rfl rfl rfl ?_ | refine sv rfl rfl rfl (ex_move rfl rfl) ?_
                  first | refine sk rfl rfl rfl ?_ | refine sku rfl rfl rfl ?_ | refine sv rfl rfl rfl (ex_cmp rfl rfl rfl (congrArg some (decide_eq_true (by omega)))) ?_
                  first | refine sk rfl rfl rfl ?_ | refine sku rfl rfl rfl ?_ | refine sv rfl rfl rfl (ex_move rfl rfl) ?_
                  first | refine sk rfl rfl rfl ?_ | refine sku rfl rfl rfl ?_ | refine sv rfl rfl rfl (ex_move rfl rfl) ?_
                  first | refine sk rfl rfl rfl ?_ | refine sku rfl rfl rfl ?_ | refine sv rfl rfl rfl (ex_cmp rfl rfl rfl (congrArg some (decide_eq_false (by omega)))) ?_
                  first | refine sk rfl rfl rfl ?_ | refine sku rfl rfl rfl ?_ | first | refine sv rfl rfl rfl (ex_pick_t rfl rfl rfl) ?_ | refine sv rfl rfl rfl (ex_pick_f rfl rfl rfl) ?_
                  first | refine sv rfl rfl rfl (ex_pick_t rfl rfl rfl) ?_ | refine sv rfl rfl rfl (ex_pick_f rfl rfl rfl) ?_
                  refine w_nil (qe_next ?_)
                  refine w_cond_f rfl ?_
                  refine w_skip (qe_next ?_)
                  refine w_region ?_
                  refine sv rfl rfl rfl (ex_move rfl rfl) ?_
                  refine sv rfl rfl rfl (ex_add rfl rfl rfl (i64_in (by omega) (by omega))) ?_
                  refine sv rfl rfl rfl (ex_assign rfl rfl) ?_
                  refine w_nil (qe_in_normal (qe_next ?_))
                  refine w_seq ?_
                  have hfi := (hpt dn).1
                  refine w_region ?_
                  refine sv rfl rfl rfl (ex_move rfl rfl) ?_
                  refine st rfl rfl rfl (ex_call call21 rfl rfl (down_b (decide (_ > nn)) F9 kd _ _ hD9 hfi.dec)) ?_
                  rintro _ w21 ⟨rfl, hwe⟩
                  obtain rfl := hwe.symm
                  refine sv rfl rfl rfl (ex_move rfl rfl) ?_
                  refine sv rfl rfl rfl (ex_move rfl rfl) ?_
                  refine sv rfl rfl rfl (ex_cmp rfl rfl rfl rfl) ?_
                  refine sv rfl rfl rfl (ex_bne (z := false) Try.underlying4 rfl rfl rfl (by simp)) ?_
                  refine w_nil (qe_next ?_)
                  refine w_cond_f rfl ?_
                  refine w_skip (qe_in_normal (qe_next ?_))
                  refine w_region ?_
                  refine sv rfl rfl rfl (ex_move rfl rfl) ?_
                  refine sv rfl rfl rfl (ex_add rfl rfl rfl (i64_in (by omega) (by omega))) ?_
                  refine sv rfl rfl rfl (ex_assign rfl rfl) ?_
                  refine w_nil (qe_round ((i + 1, d + 1)) ⟨rfl, rfl, rfl, rfl, rfl, rfl, rfl, trivial⟩ ?_ ?_)
                  · have hln := s3.play_len o1
                    exact ⟨by simp only; omega, by simp only; omega, _, F9, hD9, fun j hj => (hG9 j hj).elim (hFn3 j) (fun h => by omega), hfi, by rw [hln.2.2 hD3.wf]; exact hdl3, by rw [hln.2.1]; exact hsn3, by simp only; omega, K0⟩
                  · simp only; omega
            · skip
              first | refine sk rfl rfl rfl ?_ | refine sku rfl rfl rfl ?_ | first | refine sv rfl rfl rfl (ex_pick_t rfl rfl rfl) ?_ | refine sv rfl rfl rfl (ex_pick_f rfl rfl rfl) ?_
              first | refine sk rfl rfl rfl ?_ | refine sku rfl rfl rfl ?_ | first | refine sv rfl rfl rfl (ex_pick_t rfl rfl rfl) ?_ | refine sv rfl rfl rfl (ex_pick_f rfl rfl rfl) ?_
              first | refine sv rfl rfl rfl (ex_pick_t rfl rfl rfl) ?_ | refine sv rfl rfl rfl (ex_pick_f rfl rfl rfl) ?_
              refine sv rfl rfl rfl (ex_assign rfl rfl) ?_
              refine w_nil (qe_next ?_)
              refine w_seq ?_
              refine w_block ?_
              refine w_seq ?_
              have hpo := fun (hh : s3.off = true) => play_off (o := o1) hh (.inl (by omega))
              have hpb := fun (hh : s3.off = false) => play_bad (o := o1) hh (.inl ⟨by omega, fun h => by have h1 := h.1; unfold St.In at h1; omega⟩)
              refine w_region ?_
              refine sv rfl rfl rfl (ex_move rfl rfl) ?_
              refine sv rfl rfl rfl (ex_move rfl rfl) ?_
              refine sv rfl rfl rfl (ex_cmp rfl rfl rfl rfl) ?_
              refine sv rfl rfl rfl (ex_assign rfl rfl) ?_
              refine w_nil (qe_next ?_)
              refine w_if rfl (fun dn => ?_) (fun dn => ?_)
              · skip
                refine w_seq ?_
                refine w_region ?_
                refine sv rfl rfl rfl (ex_move rfl rfl) ?_
                refine sv rfl rfl rfl (ex_cmp rfl rfl rfl (congrArg some (decide_eq_false (not_not_intro (by rw [hpo (hfi0.off dn)]))))) ?_
                refine w_nil (qe_next ?_)
                refine w_cond_f rfl ?_
                refine w_skip (qe_in_normal (qe_next ?_))
                refine w_seq ?_
                have hfi : FInv (s3.play o1).2 nn d := by rw [hpo (hfi0.off dn)]; exact hfi0
                refine w_region ?_
                refine sv rfl rfl rfl (ex_move rfl rfl) ?_
                refine st rfl rfl rfl (ex_call call21 rfl rfl (down_b (decide (_ > nn)) F9 kd _ _ hD9 hfi.dec)) ?_
                rintro _ w22 ⟨rfl, hwe⟩
                obtain rfl := hwe.symm
                refine sv rfl rfl rfl (ex_move rfl rfl) ?_
                refine sv rfl rfl rfl (ex_move rfl rfl) ?_
                refine sv rfl rfl rfl (ex_cmp rfl rfl rfl rfl) ?_
                refine sv rfl rfl rfl (ex_bne (z := false) Try.underlying4 rfl rfl rfl (by simp)) ?_
                refine w_nil (qe_next ?_)
                refine w_cond_f rfl ?_
                refine w_skip (qe_in_normal (qe_next ?_))
                refine w_region ?_
                refine sv rfl rfl rfl (ex_move rfl rfl) ?_
                refine sv rfl rfl rfl (ex_add rfl rfl rfl (i64_in (by omega) (by omega))) ?_
                refine sv rfl rfl rfl (ex_assign rfl rfl) ?_
                refine w_nil (qe_round ((i + 1, d)) ⟨rfl, rfl, rfl, rfl, rfl, rfl, rfl, trivial⟩ ?_ ?_)
                · have hln := s3.play_len o1
                  exact ⟨by simp only; omega, by simp only; omega, _, F9, hD9, fun j hj => (hG9 j hj).elim (hFn3 j) (fun h => by omega), hfi, by rw [hln.2.2 hD3.wf]; exact hdl3, by rw [hln.2.1]; exact hsn3, by simp only; omega, K0⟩
                · simp only; omega
              · skip
                refine w_seq ?_
                refine w_region ?_
                refine sv rfl rfl rfl (ex_move rfl rfl) ?_
                refine sv rfl rfl rfl (ex_not rfl rfl) ?_
                refine sv rfl rfl rfl (ex_assign rfl rfl) ?_
                refine w_nil (qe_next ?_)
                refine w_cond_t rfl ?_
                refine w_seq ?_
                refine w_region ?_
                refine sv rfl rfl rfl (ex_move rfl rfl) ?_
                refine sv rfl rfl rfl (ex_cmp rfl rfl rfl (congrArg some (decide_eq_false (not_not_intro (by rw [hpb (hfi0.on dn).1]))))) ?_
                refine w_nil (qe_next ?_)
                refine w_cond_f rfl ?_
                refine w_skip (qe_in_normal (qe_next ?_))
                refine w_seq ?_
                have hfi : FInv (s3.play o1).2 nn d := by rw [hpb (hfi0.on dn).1]; exact hfi0
                refine w_region ?_
                refine sv rfl rfl rfl (ex_move rfl rfl) ?_
                refine st rfl rfl rfl (ex_call call21 rfl rfl (down_b (decide (_ > nn)) F9 kd _ _ hD9 hfi.dec)) ?_
                rintro _ w23 ⟨rfl, hwe⟩
                obtain rfl := hwe.symm
                refine sv rfl rfl rfl (ex_move rfl rfl) ?_
                refine sv rfl rfl rfl (ex_move rfl rfl) ?_
                refine sv rfl rfl rfl (ex_cmp rfl rfl rfl rfl) ?_
                refine sv rfl rfl rfl (ex_bne (z := false) Try.underlying4 rfl rfl rfl (by simp)) ?_
                refine w_nil (qe_next ?_)
                refine w_cond_f rfl ?_
                refine w_skip (qe_in_normal (qe_next ?_))
                refine w_region ?_
                refine sv rfl rfl rfl (ex_move rfl rfl) ?_
                refine sv rfl rfl rfl (ex_add rfl rfl rfl (i64_in (by omega) (by omega))) ?_
                refine sv rfl rfl rfl (ex_assign rfl rfl) ?_
                refine w_nil (qe_round ((i + 1, d)) ⟨rfl, rfl, rfl, rfl, rfl, rfl, rfl, trivial⟩ ?_ ?_)
                · have hln := s3.play_len o1
                  exact ⟨by simp only; omega, by simp only; omega, _, F9, hD9, fun j hj => (hG9 j hj).elim (hFn3 j) (fun h => by omega), hfi, by rw [hln.2.2 hD3.wf]; exact hdl3, by rw [hln.2.1]; exact hsn3, by simp only; omega, K0⟩
                · simp only; omega
          · skip
            first | refine sk rfl rfl rfl ?_ | refine sku rfl rfl rfl ?_ | first | refine sv rfl rfl rfl (ex_pick_t rfl rfl rfl) ?_ | refine sv rfl rfl rfl (ex_pick_f rfl rfl rfl) ?_
            first | refine sk rfl rfl rfl ?_ | refine sku rfl rfl rfl ?_ | refine sv rfl rfl rfl (ex_move rfl rfl) ?_
            first | refine sk rfl rfl rfl ?_ | refine sku rfl rfl rfl ?_ | refine sv rfl rfl rfl (ex_fieldAddr fld50_0 rfl rfl) ?_
            first | refine sk rfl rfl rfl ?_ | refine sku rfl rfl rfl ?_ | refine sv rfl rfl rfl (ex_load one3 rfl rfl (hb5.cell rfl)) ?_
            first | refine sk rfl rfl rfl ?_ | refine sku rfl rfl rfl ?_
            first | refine sk rfl rfl rfl ?_ | refine sku rfl rfl rfl ?_ | refine sv rfl rfl rfl (ex_move rfl rfl) ?_
            first | refine sk rfl rfl rfl ?_ | refine sku rfl rfl rfl ?_ | refine sv rfl rfl rfl (ex_fieldAddr fld50_2 rfl rfl) ?_
            first | refine sk rfl rfl rfl ?_ | refine sku rfl rfl rfl ?_ | refine sv rfl rfl rfl (ex_load one22 rfl rfl (hb5.cell rfl)) ?_
            first | refine sk rfl rfl rfl ?_ | refine sku rfl rfl rfl ?_ | refine sv rfl rfl rfl (ex_len Try.underlying22 rfl rfl) ?_
            first | refine sk rfl rfl rfl ?_ | refine sku rfl rfl rfl ?_ | refine sv rfl rfl rfl (ex_move rfl rfl) ?_
            first | refine sk rfl rfl rfl ?_ | refine sku rfl rfl rfl ?_
            first | refine sk rfl rfl rfl ?_ | refine sku rfl rfl rfl ?_ | first | refine sv rfl rfl rfl (ex_pick_t rfl rfl rfl) ?_ | refine sv rfl rfl rfl (ex_pick_f rfl rfl rfl) ?_
            first | refine sk rfl rfl rfl ?_ | refine sku rfl rfl rfl ?_ | first | refine sv rfl rfl rfl (ex_pick_t rfl rfl rfl) ?_ | refine sv rfl rfl rfl (ex_pick_f rfl rfl rfl) ?_
            first | refine sv rfl rfl rfl (ex_pick_t rfl rfl rfl) ?_ | refine sv rfl rfl rfl (ex_pick_f rfl rfl rfl) ?_
            refine sv rfl rfl rfl (ex_assign rfl rfl) ?_
            refine w_nil (qe_next ?_)
            refine w_seq ?_
            refine w_block ?_
            refine w_seq ?_
            have hpo := fun (hh : s3.off = true) => play_off (o := o1) hh (.inl (by omega))
            have hpb := fun (hh : s3.off = false) => play_bad (o := o1) hh (.inl ⟨by omega, fun h => by have h1 := h.1; unfold St.In at h1; omega⟩)
            refine w_region ?_
            refine sv rfl rfl rfl (ex_move rfl rfl) ?_
            refine sv rfl rfl rfl (ex_move rfl rfl) ?_
            refine sv rfl rfl rfl (ex_cmp rfl rfl rfl rfl) ?_
            refine sv rfl rfl rfl (ex_assign rfl rfl) ?_
            refine w_nil (qe_next ?_)
            refine w_if rfl (fun dn => ?_) (fun dn => ?_)
            · skip
              refine w_seq ?_
              refine w_region ?_
              refine sv rfl rfl rfl (ex_move rfl rfl) ?_
              refine sv rfl rfl rfl (ex_cmp rfl rfl rfl (congrArg some (decide_eq_false (not_not_intro (by rw [hpo (hfi0.off dn)]))))) ?_
              refine w_nil (qe_next ?_)
              refine w_cond_f rfl ?_
              refine w_skip (qe_in_normal (qe_next ?_))
              refine w_seq ?_
              have hfi : FInv (s3.play o1).2 nn d := by rw [hpo (hfi0.off dn)]; exact hfi0
              refine w_region ?_
              refine sv rfl rfl rfl (ex_move rfl rfl) ?_
              refine st rfl rfl rfl (ex_call call21 rfl rfl (down_b (decide (_ > nn)) F9 kd _ _ hD9 hfi.dec)) ?_
              rintro _ w24 ⟨rfl, hwe⟩
              obtain rfl := hwe.symm
              refine sv rfl rfl rfl (ex_move rfl rfl) ?_
              refine sv rfl rfl rfl (ex_move rfl rfl) ?_
              refine sv rfl rfl rfl (ex_cmp rfl rfl rfl rfl) ?_
              refine sv rfl rfl rfl (ex_bne (z := false) Try.underlying4 rfl rfl rfl (by simp)) ?_
              refine w_nil (qe_next ?_)
              refine w_cond_f rfl ?_
              refine w_skip (qe_in_normal (qe_next ?_))
              refine w_region ?_
              refine sv rfl rfl rfl (ex_move rfl rfl) ?_
              refine sv rfl rfl rfl (ex_add rfl rfl rfl (i64_in (by omega) (by omega))) ?_
              refine sv rfl rfl rfl (ex_assign rfl rfl) ?_
              refine w_nil (qe_round ((i + 1, d)) ⟨rfl, rfl, rfl, rfl, rfl, rfl, rfl, trivial⟩ ?_ ?_)
              · have hln := s3.play_len o1
                exact ⟨by simp only; omega, by simp only; omega, _, F9, hD9, fun j hj => (hG9 j hj).elim (hFn3 j) (fun h => by omega), hfi, by rw [hln.2.2 hD3.wf]; exact hdl3, by rw [hln.2.1]; exact hsn3, by simp only; omega, K0⟩
              · simp only; omega
            · skip
              refine w_seq ?_
              refine w_region ?_
              refine sv rfl rfl rfl (ex_move rfl rfl) ?_
              refine sv rfl rfl rfl (ex_not rfl rfl) ?_
              refine sv rfl rfl rfl (ex_assign rfl rfl) ?_
              refine w_nil (qe_next ?_)
              refine w_cond_t rfl ?_
              refine w_seq ?_
              refine w_region ?_
              refine sv rfl rfl rfl (ex_move rfl rfl) ?_
              refine sv rfl rfl rfl (ex_cmp rfl rfl rfl (congrArg some (decide_eq_false (not_not_intro (by rw [hpb (hfi0.on dn).1]))))) ?_
              refine w_nil (qe_next ?_)
              refine w_cond_f rfl ?_
              refine w_skip (qe_in_normal (qe_next ?_))
              refine w_seq ?_
              have hfi : FInv (s3.play o1).2 nn d := by rw [hpb (hfi0.on dn).1]; exact hfi0
              refine w_region ?_
              refine sv rfl rfl rfl (ex_move rfl rfl) ?_
              refine st rfl rfl rfl (ex_call call21 rfl rfl (down_b (decide (_ > nn)) F9 kd _ _ hD9 hfi.dec)) ?_
              rintro _ w25 ⟨rfl, hwe⟩
              obtain rfl := hwe.symm
              refine sv rfl rfl rfl (ex_move rfl rfl) ?_
              refine sv rfl rfl rfl (ex_move rfl rfl) ?_
              refine sv rfl rfl rfl (ex_cmp rfl rfl rfl rfl) ?_
              refine sv rfl rfl rfl (ex_bne (z := false) Try.underlying4 rfl rfl rfl (by simp)) ?_
              refine w_nil (qe_next ?_)
              refine w_cond_f rfl ?_
              refine w_skip (qe_in_normal (qe_next ?_))
              refine w_region ?_
              refine sv rfl rfl rfl (ex_move rfl rfl) ?_
              refine sv rfl rfl rfl (ex_add rfl rfl rfl (i64_in (by omega) (by omega))) ?_
              refine sv rfl rfl rfl (ex_assign rfl rfl) ?_
              refine w_nil (qe_round ((i + 1, d)) ⟨rfl, rfl, rfl, rfl, rfl, rfl, rfl, trivial⟩ ?_ ?_)
              · have hln := s3.play_len o1
                exact ⟨by simp only; omega, by simp only; omega, _, F9, hD9, fun j hj => (hG9 j hj).elim (hFn3 j) (fun h => by omega), hfi, by rw [hln.2.2 hD3.wf]; exact hdl3, by rw [hln.2.1]; exact hsn3, by simp only; omega, K0⟩
              · simp only; omega
        · skip
          first | refine sk rfl rfl rfl ?_ | refine sku rfl rfl rfl ?_ | refine sv rfl rfl rfl (ex_move rfl rfl) ?_
          first | refine sk rfl rfl rfl ?_ | refine sku rfl rfl rfl ?_ | refine sv rfl rfl rfl (ex_fieldAddr fld50_1 rfl rfl) ?_
          first | refine sk rfl rfl rfl ?_ | refine sku rfl rfl rfl ?_ | refine sv rfl rfl rfl (ex_load one3 rfl rfl (hb5.cell rfl)) ?_
          first | refine sk rfl rfl rfl ?_ | refine sku rfl rfl rfl ?_ | refine sv rfl rfl rfl (ex_move rfl rfl) ?_
          first | refine sk rfl rfl rfl ?_ | refine sku rfl rfl rfl ?_
          first | refine sk rfl rfl rfl ?_ | refine sku rfl rfl rfl ?_ | first | refine sv rfl rfl rfl (ex_pick_t rfl rfl rfl) ?_ | refine sv rfl rfl rfl (ex_pick_f rfl rfl rfl) ?_
          first | refine sk rfl rfl rfl ?_ | refine sku rfl rfl rfl ?_ | refine sv rfl rfl rfl (ex_move rfl rfl) ?_
          first | refine sk rfl rfl rfl ?_ | refine sku rfl rfl rfl ?_ | refine sv rfl rfl rfl (ex_fieldAddr fld50_0 rfl rfl) ?_
          first | refine sk rfl rfl rfl ?_ | refine sku rfl rfl rfl ?_ | refine sv rfl rfl rfl (ex_load one3 rfl rfl (hb5.cell rfl)) ?_
          first | refine sk rfl rfl rfl ?_ | refine sku rfl rfl rfl ?_
          first | refine sk rfl rfl rfl ?_ | refine sku rfl rfl rfl ?_ | refine sv rfl rfl rfl (ex_move rfl rfl) ?_
          first | refine sk rfl rfl rfl ?_ | refine sku rfl rfl rfl ?_ | refine sv rfl rfl rfl (ex_fieldAddr fld50_2 rfl rfl) ?_
          first | refine sk rfl rfl rfl ?_ | refine sku rfl rfl rfl ?_ | refine sv rfl rfl rfl (ex_load one22 rfl rfl (hb5.cell rfl)) ?_
          first | refine sk rfl rfl rfl ?_ | refine sku rfl rfl rfl ?_ | refine sv rfl rfl rfl (ex_len Try.underlying22 rfl rfl) ?_
          first | refine sk rfl rfl rfl ?_ | refine sku rfl rfl rfl ?_ | refine sv rfl rfl rfl (ex_move rfl rfl) ?_
          first | refine sk rfl rfl rfl ?_ | refine sku rfl rfl rfl ?_
          first | refine sk rfl rfl rfl ?_ | refine sku rfl rfl rfl ?_ | first | refine sv rfl rfl rfl (ex_pick_t rfl rfl rfl) ?_ | refine sv rfl rfl rfl (ex_pick_f rfl rfl rfl) ?_
          first | refine sk rfl rfl rfl ?_ | refine sku rfl rfl rfl ?_ | first | refine sv rfl rfl rfl (ex_pick_t rfl rfl rfl) ?_ | refine sv rfl rfl rfl (ex_pick_f rfl rfl rfl) ?_
          first | refine sv rfl rfl rfl (ex_pick_t rfl rfl rfl) ?_ | refine sv rfl rfl rfl (ex_pick_f rfl rfl rfl) ?_
          refine sv rfl rfl rfl (ex_assign rfl rfl) ?_
          refine w_nil (qe_next ?_)
          refine w_seq ?_
          refine w_block ?_
          refine w_seq ?_
          have hpo := fun (hh : s3.off = true) => play_off (o := o1) hh (.inl (by omega))
          have hpb := fun (hh : s3.off = false) => play_bad (o := o1) hh (.inl ⟨by omega, fun h => by have h1 := h.1; unfold St.In at h1; omega⟩)
          refine w_region ?_
          refine sv rfl rfl rfl (ex_move rfl rfl) ?_
          refine sv rfl rfl rfl (ex_move rfl rfl) ?_
          refine sv rfl rfl rfl (ex_cmp rfl rfl rfl rfl) ?_
          refine sv rfl rfl rfl (ex_assign rfl rfl) ?_
          refine w_nil (qe_next ?_)
          refine w_if rfl (fun dn => ?_) (fun dn => ?_)
          · skip
            refine w_seq ?_
            refine w_region ?_
            refine sv rfl rfl rfl (ex_move rfl rfl) ?_
            refine sv rfl rfl rfl (ex_cmp rfl rfl rfl (congrArg some (decide_eq_false (not_not_intro (by rw [hpo (hfi0.off dn)]))))) ?_
            refine w_nil (qe_next ?_)
            refine w_cond_f rfl ?_
            refine w_skip (qe_in_normal (qe_next ?_))
            refine w_seq ?_
            have hfi : FInv (s3.play o1).2 nn d := by rw [hpo (hfi0.off dn)]; exact hfi0
            refine w_region ?_
            refine sv rfl rfl rfl (ex_move rfl rfl) ?_
            refine st rfl rfl rfl (ex_call call21 rfl rfl (down_b (decide (_ > nn)) F9 kd _ _ hD9 hfi.dec)) ?_
            rintro _ w26 ⟨rfl, hwe⟩
            obtain rfl := hwe.symm
            refine sv rfl rfl rfl (ex_move rfl rfl) ?_
            refine sv rfl rfl rfl (ex_move rfl rfl) ?_
            refine sv rfl rfl rfl (ex_cmp rfl rfl rfl rfl) ?_
            refine sv rfl rfl rfl (ex_bne (z := false) Try.underlying4 rfl rfl rfl (by simp)) ?_
            refine w_nil (qe_next ?_)
            refine w_cond_f rfl ?_
            refine w_skip (qe_in_normal (qe_next ?_))
            refine w_region ?_
            refine sv rfl rfl rfl (ex_move rfl rfl) ?_
            refine sv rfl rfl rfl (ex_add rfl rfl rfl (i64_in (by omega) (by omega))) ?_
            refine sv rfl rfl rfl (ex_assign rfl rfl) ?_
            refine w_nil (qe_round ((i + 1, d)) ⟨rfl, rfl, rfl, rfl, rfl, rfl, rfl, trivial⟩ ?_ ?_)
            · have hln := s3.play_len o1
              exact ⟨by simp only; omega, by simp only; omega, _, F9, hD9, fun j hj => (hG9 j hj).elim (hFn3 j) (fun h => by omega), hfi, by rw [hln.2.2 hD3.wf]; exact hdl3, by rw [hln.2.1]; exact hsn3, by simp only; omega, K0⟩
            · simp only; omega
          · skip
            refine w_seq ?_
            refine w_region ?_
            refine sv rfl rfl rfl (ex_move rfl rfl) ?_
            refine sv rfl rfl rfl (ex_not rfl rfl) ?_
            refine sv rfl rfl rfl (ex_assign rfl rfl) ?_
            refine w_nil (qe_next ?_)
            refine w_cond_t rfl ?_
            refine w_seq ?_
            refine w_region ?_
            refine sv rfl rfl rfl (ex_move rfl rfl) ?_
            refine sv rfl rfl rfl (ex_cmp rfl rfl rfl (congrArg some (decide_eq_false (not_not_intro (by rw [hpb (hfi0.on dn).1]))))) ?_
            refine w_nil (qe_next ?_)
            refine w_cond_f rfl ?_
            refine w_skip (qe_in_normal (qe_next ?_))
            refine w_seq ?_
            have hfi : FInv (s3.play o1).2 nn d := by rw [hpb (hfi0.on dn).1]; exact hfi0
            refine w_region ?_
            refine sv rfl rfl rfl (ex_move rfl rfl) ?_
            refine st rfl rfl rfl (ex_call call21 rfl rfl (down_b (decide (_ > nn)) F9 kd _ _ hD9 hfi.dec)) ?_
            rintro _ w27 ⟨rfl, hwe⟩
            obtain rfl := hwe.symm
            refine sv rfl rfl rfl (ex_move rfl rfl) ?_
            refine sv rfl rfl rfl (ex_move rfl rfl) ?_
            refine sv rfl rfl rfl (ex_cmp rfl rfl rfl rfl) ?_
            refine sv rfl rfl rfl (ex_bne (z := false) Try.underlying4 rfl rfl rfl (by simp)) ?_
            refine w_nil (qe_next ?_)
            refine w_cond_f rfl ?_
            refine w_skip (qe_in_normal (qe_next ?_))
            refine w_region ?_
            refine sv rfl rfl rfl (ex_move rfl rfl) ?_
            refine sv rfl rfl rfl (ex_add rfl rfl rfl (i64_in (by omega) (by omega))) ?_
            refine sv rfl rfl rfl (ex_assign rfl rfl) ?_
            refine w_nil (qe_round ((i + 1, d)) ⟨rfl, rfl, rfl, rfl, rfl, rfl, rfl, trivial⟩ ?_ ?_)
            · have hln := s3.play_len o1
              exact ⟨by simp only; omega, by simp only; omega, _, F9, hD9, fun j hj => (hG9 j hj).elim (hFn3 j) (fun h => by omega), hfi, by rw [hln.2.2 hD3.wf]; exact hdl3, by rw [hln.2.1]; exact hsn3, by simp only; omega, K0⟩
            · simp only; omega
    · skip
      refine w_exit (qe_then_exit (qe_then_exit (qe_in_exit (qe_next ?_))))
      refine w_seq ?_
      refine w_region ?_
      refine sv rfl rfl rfl (ex_move rfl rfl) ?_
      refine st rfl rfl rfl (ex_call call30 rfl rfl (fail_e (-1) (s3.fail (-1)) F3 kd s3 _ hD3 (by decide) rfl)) ?_
      rintro _ w28 ⟨rfl, hD5, K5⟩
      replace K0 := K0.trans K5 (fun j hj _ hF => by have := hFn3 j hF; omega)
      refine w_nil (qe_next ?_)
      refine w_seq ?_
      refine w_region ?_
      refine sv rfl rfl rfl (ex_move rfl rfl) ?_
      refine st rfl rfl rfl (ex_call call21 rfl rfl (down_b (decide (d > nn)) F3 kd _ _ hD5 (by rw [fail_off]; exact hfi0.dec))) ?_
      rintro _ w29 ⟨rfl, hwe⟩
      obtain rfl := hwe.symm
      refine sv rfl rfl rfl (ex_assign rfl rfl) ?_
      refine w_nil (qe_next ?_)
      refine w_seq ?_
      refine w_region ?_
      refine sv rfl rfl rfl (ex_move rfl rfl) ?_
      have hpl5 : (s3.fail (-1)).pd.length ≤ 1000 := by
        have : (s3.fail (-1)).pd = s3.pd := by unfold St.fail; split <;> rfl
        rw [this]; omega
      have hz6 := K0.size
      obtain ⟨s6, hs6⟩ := sync_crash (s3.fail (-1)) [] 0
      refine st rfl rfl rfl (ex_call call27 rfl rfl (crash_e [] 0 none 0 0 0 0 _ F3 kd _ _ hD5 rfl Rd.nil (fun g o e _ => by cases e) hpl5 (by decide) rfl)) ?_
      rintro _ w30 ⟨F6, rfl, hD6, hG6, _, K6⟩
      replace K0 := K0.trans K6 (fun j hj _ hF => by have := hFn3 j hF; omega)
      have hFn6 : ∀ j, F6 j → w.heap.size ≤ j := fun j hj => (hG6 j hj).elim (hFn3 j) (fun h => by omega)
      refine w_nil (qe_next ?_)
      refine w_seq ?_
      refine w_region ?_
      refine sv rfl rfl rfl (ex_move rfl rfl) ?_
      refine sv rfl rfl rfl (ex_move rfl rfl) ?_
      refine sv rfl rfl rfl (ex_move rfl rfl) ?_
      refine sv rfl rfl rfl (ex_cmp rfl rfl rfl rfl) ?_
      refine sv rfl rfl rfl (ex_beq (z := true) Try.underlying4 rfl rfl rfl (by simp)) ?_
      refine sv rfl rfl rfl (ex_move rfl rfl) ?_
      first | refine sk rfl rfl rfl ?_ | refine sku rfl rfl rfl ?_ | refine sv rfl rfl rfl (ex_move rfl rfl) ?_
      refine st rfl rfl rfl (ex_call call21 rfl rfl (down_b false F6 kd _ _ hD6 rfl)) ?_
      rintro _ w31 ⟨rfl, hwe⟩
      obtain rfl := hwe.symm
      first | refine sk rfl rfl rfl ?_ | refine sku rfl rfl rfl ?_ | refine sv rfl rfl rfl (ex_not rfl rfl) ?_
      first | refine sv rfl rfl rfl (ex_pick_t rfl rfl rfl) ?_ | refine sv rfl rfl rfl (ex_pick_f rfl rfl rfl) ?_
      refine sv rfl rfl rfl (ex_move rfl rfl) ?_
      first | refine sk rfl rfl rfl ?_ | refine sku rfl rfl rfl ?_ | refine sv rfl rfl rfl (ex_move rfl rfl) ?_
      refine st rfl rfl rfl (ex_call call16 rfl rfl (sync_e 0 s6 F6 kd _ _ hD6 (by simp [St.crash]) hs6)) ?_
      rintro _ w32 ⟨F7, rfl, hD7, _, _, K7⟩
      replace K0 := K0.trans K7 (fun j hj _ hF => by have := hFn6 j hF; omega)
      first | refine sk rfl rfl rfl ?_ | refine sku rfl rfl rfl ?_ | refine sv rfl rfl rfl (ex_cmp rfl rfl rfl (congrArg some (decide_eq_true (rfl)))) ?_
      first | refine sv rfl rfl rfl (ex_pick_t rfl rfl rfl) ?_ | refine sv rfl rfl rfl (ex_pick_f rfl rfl rfl) ?_
      refine sv rfl rfl rfl (ex_assign rfl rfl) ?_
      refine w_nil (qe_next ?_)
      refine w_ret (qe_ret1 rfl rfl ?_)
      exact ⟨rfl, K0⟩
theorem fails_law (z1 z2 nn : Int) (hnn : nn ≤ 9223372036854775807) (A : Option Addr) (c hi : Nat) (os : List Op) (w : World) (hops : OpsAt w hi A os) (hhi : hi ≤ w.heap.size) : Ret Try.prog 10 [.int .i64 z1, .int .i64 z2, .int .i64 nn, .slice A os.length c] w fun v w' => v = .bool true ∧ Ext w w' := by
  by_cases h : 1 ≤ z1 ∧ z1 ≤ 8 ∧ 1 ≤ z2 ∧ z2 ≤ 8 ∧ os.length ≤ 40
  · obtain ⟨k, rfl⟩ : ∃ k : Nat, z1 = (k : Int) := ⟨z1.toNat, by omega⟩
    obtain ⟨n, rfl⟩ : ∃ n : Nat, z2 = (n : Int) := ⟨z2.toNat, by omega⟩
    by_cases h0 : nn < 0
    · exact fails_neg k n nn hnn A c hi os w hops hhi (by omega) (by omega) (by omega) (by omega) (by omega) h0
    · exact fails_good k n nn hnn A c hi os w hops hhi (by omega) (by omega) (by omega) (by omega) (by omega) (by omega)
  · exact fails_big z1 z2 nn hnn A c hi os w hops hhi h
end Go.Proofs.Ytcgcklfbnmaodaa

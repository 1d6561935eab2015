/- The law DiskTears, walked. -/
import Derived.Test.YtcgcklfbnmaodaaD16
namespace Go.Proofs.Ytcgcklfbnmaodaa
open Go Go.RowKit
set_option linter.unusedVariables false
set_option linter.unusedSimpArgs false
set_option maxHeartbeats 2000000
theorem look_snoc (pd : List (Nat × List UInt8)) (p : Nat × List UInt8) (i : Nat) (d : List UInt8) : look (pd ++ [p]) i d = if p.1 = i then p.2 else look pd i d := by
  unfold look
  rw [List.foldl_append]
  rfl
structure Wrt (s1 s : St) (k n i : Nat) (wy : List (List UInt8)) : Prop where
  off : s.off = false
  left : s.left = -1
  du : s.du = s1.du
  sn : s.n = n
  pl : s.pd.length ≤ i
  nd : (s.pd.map (·.1)).Nodup
  wl : wy.length = k
  lk : ∀ p, p < k → wy.getD p [] = look s.pd p []
theorem write_free {s : St} (h1 : s.off = false) (h2 : s.left = -1) {i : Nat} {d : List UInt8} (hi : i < s.du.length) (hd : d.length = s.n) : s.write (i : Int) d = (0, { s with pd := s.pd ++ [(i, d)] }) := by
  unfold St.write
  rw [if_neg (by rw [h1]; simp), if_neg (fun h => h ⟨⟨by omega, by omega⟩, hd⟩)]
  have hf : ({ s with pd := s.pd ++ [((i : Int).toNat, d)] } : St).fails = (false, { s with pd := s.pd ++ [(i, d)] }) := by
    unfold St.fails
    rw [if_neg (by simp only; omega), if_neg (by simp only; omega)]
    rfl
  rw [hf]
  rfl
theorem Wrt.step {s1 s : St} {k n i : Nat} {wy : List (List UInt8)} (h : Wrt s1 s k n i wy) (hw : s.Wf) (n1 : 1 ≤ n) {z : Nat} {y : List UInt8} (hz : z < k) (he : (wy.getD z []).length = 0) : Wrt s1 { s with pd := s.pd ++ [(z, y)] } k n (i + 1) (wy.set z y) := by
  have hpl := h.pl
  have hwl := h.wl
  have hlz : look s.pd z [] = [] := by
    rw [← h.lk z hz]
    exact List.eq_nil_of_length_eq_zero he
  have hnz := look_emp n1 (fun q hq => by rw [(hw.pd q hq).2, h.sn]) hlz
  refine ⟨h.off, h.left, h.du, h.sn, by simp; omega, ?_, by simpa using h.wl, fun p hp => ?_⟩
  · simp only [List.map_append, List.map_cons, List.map_nil]
    rw [List.nodup_append]
    exact ⟨h.nd, by simp, fun a ha b hb e => hnz (by simp at hb; rw [hb] at e; rw [← e]; exact ha)⟩
  · rw [look_snoc, List.getD_eq_getElem?_getD, List.getElem?_set]
    by_cases e : z = p
    · subst e
      rw [if_pos rfl, if_pos (by omega), if_pos rfl]
      rfl
    · rw [if_neg e, if_neg e, ← h.lk p hp, List.getD_eq_getElem?_getD]
theorem Wrt.start {s : St} {k n : Nat} (h1 : s.off = false) (h2 : s.left = -1) (h3 : s.pd = []) (h4 : s.n = n) : Wrt s s k n 0 (List.replicate k []) :=
  ⟨h1, h2, rfl, h4, by rw [h3]; simp, by rw [h3]; simp, by simp, fun p hp => by rw [h3, List.getD_eq_getElem?_getD, List.getElem?_replicate, if_pos hp]; rfl⟩
theorem tear_law {s1 s : St} {k n i : Nat} {wy : List (List UInt8)} (h : Wrt s1 s k n i wy) (hw : s.Wf) (hk : s.du.length = k) (kb : List Bool) (z : Int) : ∃ t : Option Nat, ∀ (p : Nat) (d y x : List UInt8), s1.du[p]? = some d → (s.crash kb z).du[p]? = some y → wy[p]? = some x → y ≠ d → y ≠ x → t = some p ∧ x.length = n ∧ d.length = n ∧ y.length = n ∧ ∃ m, m ≤ n ∧ y = x.take m ++ d.drop m := by
  obtain ⟨t, _, h2, h3⟩ := crash_law kb (tornN_le z s.n) s.pd 0 true s.du hw.du (fun q hq => (hw.pd q hq).2) h.nd
  refine ⟨t, fun p d y x hd hy hx e1 e2 => ?_⟩
  rw [← h.du] at hd
  have hp : p < k := by rw [← hk]; exact (List.getElem?_eq_some_iff.1 hd).1
  have hxl : x = look s.pd p [] := by rw [← h.lk p hp, List.getD_eq_getElem?_getD, hx]; rfl
  rcases h3 p d y hd hy with h4 | h4 | h4
  · exact absurd h4 e1
  · exact absurd (by rw [h4.2, hxl]) e2
  · have hl := (look_in (n := s.n) [] [] (fun q hq => (hw.pd q hq).2) (h2 p h4.1)).1
    have hdl := hw.du d (List.mem_of_getElem? hd)
    have hyl := (hw.crash kb z).du y (List.mem_of_getElem? hy)
    exact ⟨h4.1, by rw [hxl, hl, h.sn], by rw [hdl, h.sn], hyl.trans h.sn, tornN z s.n, by rw [← h.sn]; exact tornN_le z s.n, by rw [hxl]; exact h4.2⟩
theorem tear_same {n m q : Nat} {x d y : List UInt8} (hx : x.length = n) (hd : d.length = n) (hm : m ≤ n) (hy : y = x.take m ++ d.drop m) (hq : q ≤ n) (hp : ∀ j, j < q → y[j]? = x[j]?) (he : q < n → y[q]? ≠ x[q]?) : y.drop q = d.drop q := by
  have hmq : m ≤ q := by
    rcases Nat.lt_or_ge q m with h | h
    · exfalso
      refine he (by omega) ?_
      rw [hy, List.getElem?_append_left (by rw [List.length_take]; omega), List.getElem?_take, if_pos h]
    · exact h
  rw [hy, List.drop_append, List.drop_of_length_le (by rw [List.length_take]; omega), List.nil_append, List.length_take, List.drop_drop]
  congr 1
  omega
/-- kinkeep/kinkeeplaw15.DiskTears -/
theorem tears_big (z1 z2 : Int) (z : Int) (As : Option Addr) (cs : Nat) (zs : List Int) (Aw : Option Addr) (cw : Nat) (wl : List Sl) (ws : List (List UInt8)) (Ak : Option Addr) (ck : Nat) (kb : List Bool) (A : Option Addr) (c hi : Nat) (os : List Op) (w : World) (hops : OpsAt w hi A os) (hhi : hi ≤ w.heap.size) (hzs : Rd w 0 hi 1 As zs.length (zs.map (Value.int .i64))) (hws : Rd w 0 hi 1 Aw wl.length (wl.map slv)) (hwy : RdB w hi wl ws) (hrk : Rd w 0 hi 1 Ak kb.length (kb.map Value.bool)) (hkq : kb.length ≤ 9223372036854775807) (h : ¬ (1 ≤ z1 ∧ z1 ≤ 8 ∧ 1 ≤ z2 ∧ z2 ≤ 8 ∧ os.length ≤ 40)) :
    Ret Try.prog 5 [.int .i64 z1, .int .i64 z2, .slice A os.length c, .slice As zs.length cs, .slice Aw wl.length cw, .slice Ak kb.length ck, .int .i64 z] w fun v w' => v = .bool true ∧ Ext w w' := by
  have K0 : Ext w w := Keep.refl _ _
  refine ret_of Try.func5 rfl rfl ?_
  refine w_seq ?_
  refine w_region ?_
  refine sv rfl rfl rfl (ex_assign rfl rfl) ?_
  refine w_nil (qe_next ?_)
  refine w_seq ?_
  refine w_seq ?_
  refine w_region ?_
  refine st rfl rfl rfl (ex_call call11 rfl rfl (awake_c _)) ?_
  rintro _ w1 ⟨rfl, E9⟩
  replace K0 := K0.ext E9
  refine sv rfl rfl rfl (ex_not rfl rfl) ?_
  refine w_nil (qe_next ?_)
  refine w_cond_f rfl ?_
  refine w_skip (qe_next ?_)
  refine w_seq ?_
  refine w_seq ?_
  refine w_region ?_
  refine sv rfl rfl rfl (ex_move rfl rfl) ?_
  refine sv rfl rfl rfl (ex_move rfl rfl) ?_
  refine sv rfl rfl rfl (ex_move rfl rfl) ?_
  refine st rfl rfl rfl (ex_call call25 rfl rfl (small_f _ _ _ _ _ _ h)) ?_
  rintro _ w2 ⟨rfl, hwe⟩
  obtain rfl := hwe.symm
  refine sv rfl rfl rfl (ex_not rfl rfl) ?_
  refine sv rfl rfl rfl (ex_move rfl rfl) ?_
  first | refine sk rfl rfl rfl ?_ | refine sv rfl rfl rfl (ex_move rfl rfl) ?_
  first | refine sk rfl rfl rfl ?_ | refine sv rfl rfl rfl (ex_len Try.underlying45 rfl rfl) ?_
  refine sk rfl rfl rfl ?_
  first | refine sv rfl rfl rfl (ex_pick_t rfl rfl rfl) ?_ | refine sv rfl rfl rfl (ex_pick_f rfl rfl rfl) ?_
  refine w_nil (qe_next ?_)
  refine w_cond_t rfl ?_
  refine w_seq ?_
  refine w_region ?_
  refine sv rfl rfl rfl (ex_assign rfl rfl) ?_
  refine w_nil (qe_next ?_)
  refine w_ret (qe_then_ret (qe_ret1 rfl rfl ?_))
  exact ⟨rfl, K0⟩
/-- kinkeep/kinkeeplaw15.DiskTears -/
theorem tears_long (k n : Nat) (z : Int) (As : Option Addr) (cs : Nat) (zs : List Int) (Aw : Option Addr) (cw : Nat) (wl : List Sl) (ws : List (List UInt8)) (Ak : Option Addr) (ck : Nat) (kb : List Bool) (A : Option Addr) (c hi : Nat) (os : List Op) (w : World) (hops : OpsAt w hi A os) (hhi : hi ≤ w.heap.size) (hzs : Rd w 0 hi 1 As zs.length (zs.map (Value.int .i64))) (hws : Rd w 0 hi 1 Aw wl.length (wl.map slv)) (hwy : RdB w hi wl ws) (hrk : Rd w 0 hi 1 Ak kb.length (kb.map Value.bool)) (hkq : kb.length ≤ 9223372036854775807) (k1 : 1 ≤ k) (k8 : k ≤ 8) (n1 : 1 ≤ n) (n8 : n ≤ 8) (h40 : os.length ≤ 40) (h8 : ¬ zs.length ≤ 8) :
    Ret Try.prog 5 [.int .i64 (k : Int), .int .i64 (n : Int), .slice A os.length c, .slice As zs.length cs, .slice Aw wl.length cw, .slice Ak kb.length ck, .int .i64 z] w fun v w' => v = .bool true ∧ Ext w w' := by
  have K0 : Ext w w := Keep.refl _ _
  refine ret_of Try.func5 rfl rfl ?_
  refine w_seq ?_
  refine w_region ?_
  refine sv rfl rfl rfl (ex_assign rfl rfl) ?_
  refine w_nil (qe_next ?_)
  refine w_seq ?_
  refine w_seq ?_
  refine w_region ?_
  refine st rfl rfl rfl (ex_call call11 rfl rfl (awake_c _)) ?_
  rintro _ w1 ⟨rfl, E9⟩
  replace K0 := K0.ext E9
  refine sv rfl rfl rfl (ex_not rfl rfl) ?_
  refine w_nil (qe_next ?_)
  refine w_cond_f rfl ?_
  refine w_skip (qe_next ?_)
  refine w_seq ?_
  refine w_seq ?_
  refine w_region ?_
  refine sv rfl rfl rfl (ex_move rfl rfl) ?_
  refine sv rfl rfl rfl (ex_move rfl rfl) ?_
  refine sv rfl rfl rfl (ex_move rfl rfl) ?_
  refine st rfl rfl rfl (ex_call call25 rfl rfl (small_t _ _ _ _ _ _ ⟨by omega, by omega, by omega, by omega, h40⟩)) ?_
  rintro _ w2 ⟨rfl, hwe⟩
  obtain rfl := hwe.symm
  refine sv rfl rfl rfl (ex_not rfl rfl) ?_
  refine sv rfl rfl rfl (ex_move rfl rfl) ?_
  first | refine sk rfl rfl rfl ?_ | refine sv rfl rfl rfl (ex_move rfl rfl) ?_
  first | refine sk rfl rfl rfl ?_ | refine sv rfl rfl rfl (ex_len Try.underlying45 rfl rfl) ?_
  first | refine sk rfl rfl rfl ?_ | refine sv rfl rfl rfl (ex_cmp rfl rfl rfl (congrArg some (decide_eq_true (by omega)))) ?_
  first | refine sv rfl rfl rfl (ex_pick_t rfl rfl rfl) ?_ | refine sv rfl rfl rfl (ex_pick_f rfl rfl rfl) ?_
  refine w_nil (qe_next ?_)
  refine w_cond_t rfl ?_
  refine w_seq ?_
  refine w_region ?_
  refine sv rfl rfl rfl (ex_assign rfl rfl) ?_
  refine w_nil (qe_next ?_)
  refine w_ret (qe_then_ret (qe_ret1 rfl rfl ?_))
  exact ⟨rfl, K0⟩
/-- kinkeep/kinkeeplaw15.DiskTears -/
theorem tears_good (k n : Nat) (z : Int) (As : Option Addr) (cs : Nat) (zs : List Int) (Aw : Option Addr) (cw : Nat) (wl : List Sl) (ws : List (List UInt8)) (Ak : Option Addr) (ck : Nat) (kb : List Bool) (A : Option Addr) (c hi : Nat) (os : List Op) (w : World) (hops : OpsAt w hi A os) (hhi : hi ≤ w.heap.size) (hzs : Rd w 0 hi 1 As zs.length (zs.map (Value.int .i64))) (hws : Rd w 0 hi 1 Aw wl.length (wl.map slv)) (hwy : RdB w hi wl ws) (hrk : Rd w 0 hi 1 Ak kb.length (kb.map Value.bool)) (hkq : kb.length ≤ 9223372036854775807) (k1 : 1 ≤ k) (k8 : k ≤ 8) (n1 : 1 ≤ n) (n8 : n ≤ 8) (h40 : os.length ≤ 40) (h8 : zs.length ≤ 8) :
    Ret Try.prog 5 [.int .i64 (k : Int), .int .i64 (n : Int), .slice A os.length c, .slice As zs.length cs, .slice Aw wl.length cw, .slice Ak kb.length ck, .int .i64 z] w fun v w' => v = .bool true ∧ Ext w w' := by
  have K0 : Ext w w := Keep.refl _ _
  refine ret_of Try.func5 rfl rfl ?_
  refine w_seq ?_
  refine w_region ?_
  refine sv rfl rfl rfl (ex_assign rfl rfl) ?_
  refine w_nil (qe_next ?_)
  refine w_seq ?_
  refine w_seq ?_
  refine w_region ?_
  refine st rfl rfl rfl (ex_call call11 rfl rfl (awake_c _)) ?_
  rintro _ w1 ⟨rfl, E9⟩
  replace K0 := K0.ext E9
  refine sv rfl rfl rfl (ex_not rfl rfl) ?_
  refine w_nil (qe_next ?_)
  refine w_cond_f rfl ?_
  refine w_skip (qe_next ?_)
  refine w_seq ?_
  refine w_seq ?_
  refine w_region ?_
  refine sv rfl rfl rfl (ex_move rfl rfl) ?_
  refine sv rfl rfl rfl (ex_move rfl rfl) ?_
  refine sv rfl rfl rfl (ex_move rfl rfl) ?_
  refine st rfl rfl rfl (ex_call call25 rfl rfl (small_t _ _ _ _ _ _ ⟨by omega, by omega, by omega, by omega, h40⟩)) ?_
  rintro _ w2 ⟨rfl, hwe⟩
  obtain rfl := hwe.symm
  refine sv rfl rfl rfl (ex_not rfl rfl) ?_
  refine sv rfl rfl rfl (ex_move rfl rfl) ?_
  first | refine sk rfl rfl rfl ?_ | refine sv rfl rfl rfl (ex_move rfl rfl) ?_
  first | refine sk rfl rfl rfl ?_ | refine sv rfl rfl rfl (ex_len Try.underlying45 rfl rfl) ?_
  first | refine sk rfl rfl rfl ?_ | refine sv rfl rfl rfl (ex_cmp rfl rfl rfl (congrArg some (decide_eq_false (by omega)))) ?_
  first | refine sv rfl rfl rfl (ex_pick_t rfl rfl rfl) ?_ | refine sv rfl rfl rfl (ex_pick_f rfl rfl rfl) ?_
  refine w_nil (qe_next ?_)
  refine w_cond_f rfl ?_
  refine w_skip (qe_next ?_)
  refine w_seq ?_
  refine w_region ?_
  refine sv rfl rfl rfl (ex_move rfl rfl) ?_
  refine sv rfl rfl rfl (ex_move rfl rfl) ?_
  have hz0 := K0.size
  refine st rfl rfl rfl (ex_call call12 rfl rfl (new_c k n _ k1 (by omega) n1 (by omega))) ?_
  rintro _ w3 ⟨kd, F, rfl, hD, hFn, E1⟩
  replace K0 := K0.ext E1
  have hP := Playing.start hD hFn hz0 K0
  clear hD hFn K0
  refine sv rfl rfl rfl (ex_move rfl rfl) ?_
  refine sv rfl rfl rfl (ex_extract rfl rfl rfl) ?_
  refine sv rfl rfl rfl (ex_extract rfl rfl rfl) ?_
  refine sv rfl rfl rfl (ex_assign rfl rfl) ?_
  refine sv rfl rfl rfl (ex_assign rfl rfl) ?_
  refine w_nil (qe_next ?_)
  refine w_seq ?_
  refine w_seq ?_
  refine w_region ?_
  refine sv rfl rfl rfl (ex_assign rfl rfl) ?_
  refine w_nil (qe_next ?_)
  refine w_block ?_
  refine w_loop (ι := Nat) (fun i => [(0, .int .i64 (k : Int)), (1, .int .i64 (n : Int)), (2, .slice A os.length c), (3, .slice As zs.length cs), (4, .slice Aw wl.length cw), (5, .slice Ak kb.length ck), (6, .int .i64 z), (15, .pointer (some ⟨kd, 0, none⟩)), (17, .int .i64 (i : Int))]) (fun i wL => i ≤ os.length ∧ ∃ s F, Playing w wL kd n k (os.take i) s F) (fun i => os.length - i) (0) ⟨rfl, rfl, rfl, rfl, rfl, rfl, rfl, rfl, rfl, trivial⟩ ?_ ?_
  · exact ⟨Nat.zero_le _, _, F, hP⟩
  · clear hP
    rintro i wL ⟨hi1, s, F, hP⟩
    refine w_seq ?_
    refine w_seq ?_
    refine w_region ?_
    refine sv rfl rfl rfl (ex_move rfl rfl) ?_
    refine sv rfl rfl rfl (ex_move rfl rfl) ?_
    refine sv rfl rfl rfl (ex_len Try.underlying44 rfl rfl) ?_
    refine sv rfl rfl rfl (ex_cmp rfl rfl rfl rfl) ?_
    refine w_nil (qe_next ?_)
    refine w_if rfl (fun hi2 => ?_) (fun hi2 => ?_)
    · skip
      replace hi2 : i < os.length := by omega
      obtain ⟨o1, bo, off, hog, rfl, hok, hoc⟩ := (hops.ext hP.k).at_ hi2
      refine w_skip (qe_next ?_)
      refine w_seq ?_
      refine w_block ?_
      refine w_region ?_
      refine sv rfl rfl rfl (ex_move rfl rfl) ?_
      refine sv rfl rfl rfl (ex_move rfl rfl) ?_
      refine sv rfl rfl rfl (ex_move rfl rfl) ?_
      refine sv rfl rfl rfl (ex_indexN Try.underlying44 sz50 i rfl rfl rfl (by first | rfl | omega) (by omega)) ?_
      refine sv rfl rfl rfl (ex_load_agg (cs := o1.cells) agg50 rfl rfl (fun q u hu => hoc q u hu)) ?_
      refine st rfl rfl rfl (ex_call call26 rfl rfl (play_p hP o1 hok hhi (by rw [List.length_take]; omega))) ?_
      rintro _ w4 ⟨B9, d9, F9, rfl, hP9, _, _⟩
      refine w_nil (qe_in_normal (qe_next ?_))
      refine w_region ?_
      refine sv rfl rfl rfl (ex_move rfl rfl) ?_
      refine sv rfl rfl rfl (ex_add rfl rfl rfl (i64_in (by omega) (by omega))) ?_
      refine sv rfl rfl rfl (ex_assign rfl rfl) ?_
      refine w_nil (qe_round (i + 1) ⟨rfl, rfl, rfl, rfl, rfl, rfl, rfl, rfl, rfl, trivial⟩ ?_ ?_)
      · exact ⟨by omega, _, F9, by rw [take_snoc hog]; exact hP9⟩
      · omega
    · skip
      replace hi2 : i = os.length := by omega
      subst hi2
      rw [List.take_length] at hP
      refine w_exit (qe_then_exit (qe_then_exit (qe_in_exit (qe_next ?_))))
      refine w_seq ?_
      have hd := hP.du
      have hsn := hP.sn
      have hD := hP.at_
      have hFn := hP.new
      have K0 := hP.k
      have hpl := hP.pl
      refine w_region ?_
      refine sv rfl rfl rfl (ex_move rfl rfl) ?_
      have hzC := K0.size
      refine st rfl rfl rfl (ex_call call27 rfl rfl (crash_e [] 0 none 0 0 0 0 (s.crash [] 0) F kd s _ hD rfl Rd.nil (fun g o e _ => by cases e) (by omega) (by decide) rfl)) ?_
      rintro _ w5 ⟨F1, rfl, hD1, hG1, _, K1⟩
      replace K0 := K0.trans K1 (fun j hj _ hF => by have := hFn j hF; omega)
      have hFn1 : ∀ j, F1 j → w.heap.size ≤ j := fun j hj => (hG1 j hj).elim (hFn j) (fun h => by omega)
      have hdl1 : (s.crash [] 0).du.length = k := by
        have := (crashG_ok (n := s.n) [] (tornN 0 s.n) s.pd 0 true s.du hD.wf.du (fun p hp => Nat.le_of_eq (hD.wf.pd p hp).2)).2
        exact this.trans hd
      have hW0 : Wrt (s.crash [] 0) (s.crash [] 0) k n 0 (List.replicate k []) := Wrt.start rfl rfl rfl hsn
      obtain ⟨s1, hs1⟩ : ∃ s1, s1 = s.crash [] 0 := ⟨_, rfl⟩
      rw [← hs1] at hD1 hdl1 hW0
      clear hs1
      have hFl1 := hD1.lt
      clear hD hP hG1 hFn K1
      refine w_nil (qe_next ?_)
      refine w_seq ?_
      refine w_region ?_
      refine sv rfl rfl rfl (ex_move rfl rfl) ?_
      have hzA := K0.size
      refine st rfl rfl rfl (ex_call call17 rfl rfl (image_c F1 kd s1 _ hD1)) ?_
      rintro _ w6 ⟨gi, sl1, rfl, hi1, hso1, E2⟩
      obtain ⟨m1, mi, hm1w, hm1F, hmi, hI⟩ : ∃ m1 mi, w.heap.size ≤ m1 ∧ (∀ j, F1 j → j < m1) ∧ mi ≤ _ ∧ Img _ m1 mi gi s1.du.length sl1 s1.du := ⟨_, _, hzA, hFl1, Nat.le_refl _, Img.of hi1 hso1⟩
      have hm1i : m1 ≤ mi := by have h1 := (hI.own.lt rfl).1; have h2 := hI.g; omega
      clear hi1 hso1
      replace hD1 := hD1.ext E2
      replace K0 := K0.ext E2
      refine sv rfl rfl rfl (ex_assign rfl rfl) ?_
      refine w_nil (qe_next ?_)
      refine w_seq ?_
      refine w_region ?_
      refine sv rfl rfl rfl (ex_move rfl rfl) ?_
      refine st rfl rfl rfl (ex_make Try.underlying33 z22 k rfl rfl rfl rfl rfl (by omega) (by omega)) ?_
      rintro _ w7 ⟨gw, rfl, hgw0, E3, hgw, hsw⟩
      have hgmi : mi ≤ gw := by omega
      have hW := Own.of_blk (lo := m1) (n := k) (c := k) (size := 1) hgw (by omega) (Nat.le_refl _) (by unfold maxLen; omega) (by simp)
      rw [show List.take (k * 1) (List.replicate k (Value.slice none 0 0)) = (List.replicate k ((none, 0, 0) : Sl)).map slv from by simp [slv]] at hW
      obtain ⟨mz, hgz, hmzF⟩ : ∃ mz, gw < mz ∧ mz ≤ _ := ⟨_, hgw.lt, Nat.le_refl _⟩
      replace hI := hI.ext E3
      replace hD1 := hD1.ext E3
      replace K0 := K0.ext E3
      have hF1z : ∀ j, F1 j → j < m1 ∨ mz ≤ j := fun j hj => .inl (hm1F j hj)
      clear hgw hsw hgw0 E3 E2
      refine sv rfl rfl rfl (ex_assign rfl rfl) ?_
      refine w_nil (qe_next ?_)
      refine w_seq ?_
      refine w_seq ?_
      refine w_region ?_
      refine sv rfl rfl rfl (ex_assign rfl rfl) ?_
      refine w_nil (qe_next ?_)
      refine w_block ?_
      refine w_loop (ι := Nat) (fun i => [(0, .int .i64 (k : Int)), (1, .int .i64 (n : Int)), (2, .slice A os.length c), (3, .slice As zs.length cs), (4, .slice Aw wl.length cw), (5, .slice Ak kb.length ck), (6, .int .i64 z), (15, .pointer (some ⟨kd, 0, none⟩)), (18, .slice (some ⟨gi, 0, none⟩) s1.du.length s1.du.length), (19, .slice (some ⟨gw, 0, none⟩) k k), (20, .int .i64 (i : Int))]) (fun i wL => i ≤ zs.length ∧ ∃ s F wsl wy, DiskAt wL F kd s ∧ (∀ j, F j → w.heap.size ≤ j) ∧ (∀ j, F j → j < m1 ∨ mz ≤ j) ∧ Wrt s1 s k n i wy ∧ Img wL m1 mi gi s1.du.length sl1 s1.du ∧ Own wL m1 22 1 (some ⟨gw, 0, none⟩) k k (wsl.map slv) ∧ RdB wL hi wsl wy ∧ mz ≤ wL.heap.size ∧ Ext w wL) (fun i => zs.length - i) (0) ⟨rfl, rfl, rfl, rfl, rfl, rfl, rfl, rfl, rfl, rfl, rfl, trivial⟩ ?_ ?_
      · exact ⟨Nat.zero_le _, s1, F1, _, _, hD1, hFn1, hF1z, hW0, hI, hW, RdB.none _ _ _, hmzF, K0⟩
      · clear hD1 hFn1 hF1z hW0 hI hW hmzF K0 hFl1 hm1F
        rintro i wL ⟨hi1, s, F, wsl, wy, hD, hFn, hFz, hWr, hI, hW, hB, hmzL, K0⟩
        refine w_seq ?_
        refine w_seq ?_
        refine w_region ?_
        refine sv rfl rfl rfl (ex_move rfl rfl) ?_
        refine sv rfl rfl rfl (ex_move rfl rfl) ?_
        refine sv rfl rfl rfl (ex_len Try.underlying45 rfl rfl) ?_
        refine sv_if rfl rfl rfl (ex_cmp rfl rfl rfl rfl) (fun c1 => ?_) (fun c1 => ?_)
        · skip
          replace c1 : i < zs.length := by omega
          obtain ⟨bz, oz, uz, rfl, _, _, huz, hcz⟩ := (hzs.ext K0).at_ c1
          rw [List.getElem?_map] at huz
          obtain ⟨zz, hzz, rfl⟩ := Option.map_eq_some_iff.1 huz
          refine sv rfl rfl rfl (ex_move rfl rfl) ?_
          first | refine sk rfl rfl rfl ?_ | refine sv rfl rfl rfl (ex_move rfl rfl) ?_
          first | refine sk rfl rfl rfl ?_ | refine sv rfl rfl rfl (ex_move rfl rfl) ?_
          first | refine sk rfl rfl rfl ?_ | refine sv rfl rfl rfl (ex_len Try.underlying33 rfl rfl) ?_
          refine sv_if rfl rfl rfl (ex_cmp rfl rfl rfl rfl) (fun c2 => ?_) (fun c2 => ?_)
          · skip
            replace c2 : i < wl.length := by omega
            obtain ⟨bw, ow, uw, rfl, _, hbw, huw, hcw⟩ := (hws.ext K0).at_ c2
            rw [List.getElem?_map] at huw
            obtain ⟨sw, hsw, rfl⟩ := Option.map_eq_some_iff.1 huw
            obtain ⟨yw, hyw, hlw, hrw⟩ := (hwy.ext K0).get hsw
            first | refine sv rfl rfl rfl (ex_pick_t rfl rfl rfl) ?_ | refine sv rfl rfl rfl (ex_pick_f rfl rfl rfl) ?_
            refine w_nil (qe_next ?_)
            refine w_cond_t rfl ?_
            refine w_skip (qe_next ?_)
            refine w_seq ?_
            refine w_block ?_
            refine w_seq ?_
            refine w_region ?_
            refine sv rfl rfl rfl (ex_move rfl rfl) ?_
            refine sv rfl rfl rfl (ex_move rfl rfl) ?_
            refine sv rfl rfl rfl (ex_index Try.underlying45 sz3 (i) rfl rfl rfl (by first | rfl | omega) (by omega)) ?_
            refine sv rfl rfl rfl (ex_load one3 rfl rfl hcz) ?_
            refine sv rfl rfl rfl (ex_assign rfl rfl) ?_
            refine w_nil (qe_next ?_)
            refine w_seq ?_
            refine w_seq ?_
            refine w_region ?_
            refine sv rfl rfl rfl (ex_move rfl rfl) ?_
            refine sv_if rfl rfl rfl (ex_cmp rfl rfl rfl rfl) (fun a1 => ?_) (fun a1 => ?_)
            · skip
              refine sv rfl rfl rfl (ex_move rfl rfl) ?_
              first | refine sk rfl rfl rfl ?_ | refine sv rfl rfl rfl (ex_move rfl rfl) ?_
              first | refine sk rfl rfl rfl ?_ | refine sv rfl rfl rfl (ex_move rfl rfl) ?_
              refine sk rfl rfl rfl ?_
              first | refine sv rfl rfl rfl (ex_pick_t rfl rfl rfl) ?_ | refine sv rfl rfl rfl (ex_pick_f rfl rfl rfl) ?_
              refine sv rfl rfl rfl (ex_move rfl rfl) ?_
              first | refine sk rfl rfl rfl ?_ | refine sv rfl rfl rfl (ex_move rfl rfl) ?_
              first | refine sk rfl rfl rfl ?_ | refine sv rfl rfl rfl (ex_move rfl rfl) ?_
              first | refine sk rfl rfl rfl ?_ | refine sv rfl rfl rfl (ex_index Try.underlying33 sz22 (i) rfl rfl rfl (by first | rfl | omega) (by omega)) ?_
              first | refine sk rfl rfl rfl ?_ | refine sv rfl rfl rfl (ex_load (v := .slice sw.1 sw.2.1 sw.2.2) one22 rfl rfl hcw) ?_
              first | refine sk rfl rfl rfl ?_ | refine sv rfl rfl rfl (ex_len Try.underlying22 rfl rfl) ?_
              first | refine sk rfl rfl rfl ?_ | refine sv rfl rfl rfl (ex_move rfl rfl) ?_
              refine sk rfl rfl rfl ?_
              first | refine sv rfl rfl rfl (ex_pick_t rfl rfl rfl) ?_ | refine sv rfl rfl rfl (ex_pick_f rfl rfl rfl) ?_
              refine sv rfl rfl rfl (ex_move rfl rfl) ?_
              first | refine sk rfl rfl rfl ?_ | refine sv rfl rfl rfl (ex_move rfl rfl) ?_
              first | refine sk rfl rfl rfl ?_ | refine sv rfl rfl rfl (ex_move rfl rfl) ?_
              refine sk rfl rfl rfl ?_
              refine sk rfl rfl rfl ?_
              first | refine sk rfl rfl rfl ?_ | refine sv rfl rfl rfl (ex_len Try.underlying22 rfl rfl) ?_
              refine sk rfl rfl rfl ?_
              first | refine sv rfl rfl rfl (ex_pick_t rfl rfl rfl) ?_ | refine sv rfl rfl rfl (ex_pick_f rfl rfl rfl) ?_
              refine w_nil (qe_next ?_)
              refine w_cond_t rfl ?_
              refine w_seq ?_
              refine w_region ?_
              refine sv rfl rfl rfl (ex_assign rfl rfl) ?_
              refine w_nil (qe_next ?_)
              refine w_ret (qe_then_ret (qe_in_ret (qe_then_ret (qe_then_ret (qe_in_ret (qe_then_ret (qe_ret1 rfl rfl ?_)))))))
              exact ⟨rfl, K0⟩
            · skip
              refine sv rfl rfl rfl (ex_move rfl rfl) ?_
              first | refine sk rfl rfl rfl ?_ | refine sv rfl rfl rfl (ex_move rfl rfl) ?_
              first | refine sk rfl rfl rfl ?_ | refine sv rfl rfl rfl (ex_move rfl rfl) ?_
              refine sv_if rfl rfl rfl (ex_cmp rfl rfl rfl rfl) (fun a2 => ?_) (fun a2 => ?_)
              · skip
                first | refine sv rfl rfl rfl (ex_pick_t rfl rfl rfl) ?_ | refine sv rfl rfl rfl (ex_pick_f rfl rfl rfl) ?_
                refine sv rfl rfl rfl (ex_move rfl rfl) ?_
                first | refine sk rfl rfl rfl ?_ | refine sv rfl rfl rfl (ex_move rfl rfl) ?_
                first | refine sk rfl rfl rfl ?_ | refine sv rfl rfl rfl (ex_move rfl rfl) ?_
                first | refine sk rfl rfl rfl ?_ | refine sv rfl rfl rfl (ex_index Try.underlying33 sz22 (i) rfl rfl rfl (by first | rfl | omega) (by omega)) ?_
                first | refine sk rfl rfl rfl ?_ | refine sv rfl rfl rfl (ex_load (v := .slice sw.1 sw.2.1 sw.2.2) one22 rfl rfl hcw) ?_
                first | refine sk rfl rfl rfl ?_ | refine sv rfl rfl rfl (ex_len Try.underlying22 rfl rfl) ?_
                first | refine sk rfl rfl rfl ?_ | refine sv rfl rfl rfl (ex_move rfl rfl) ?_
                refine sk rfl rfl rfl ?_
                first | refine sv rfl rfl rfl (ex_pick_t rfl rfl rfl) ?_ | refine sv rfl rfl rfl (ex_pick_f rfl rfl rfl) ?_
                refine sv rfl rfl rfl (ex_move rfl rfl) ?_
                first | refine sk rfl rfl rfl ?_ | refine sv rfl rfl rfl (ex_move rfl rfl) ?_
                first | refine sk rfl rfl rfl ?_ | refine sv rfl rfl rfl (ex_move rfl rfl) ?_
                refine sk rfl rfl rfl ?_
                refine sk rfl rfl rfl ?_
                first | refine sk rfl rfl rfl ?_ | refine sv rfl rfl rfl (ex_len Try.underlying22 rfl rfl) ?_
                refine sk rfl rfl rfl ?_
                first | refine sv rfl rfl rfl (ex_pick_t rfl rfl rfl) ?_ | refine sv rfl rfl rfl (ex_pick_f rfl rfl rfl) ?_
                refine w_nil (qe_next ?_)
                refine w_cond_t rfl ?_
                refine w_seq ?_
                refine w_region ?_
                refine sv rfl rfl rfl (ex_assign rfl rfl) ?_
                refine w_nil (qe_next ?_)
                refine w_ret (qe_then_ret (qe_in_ret (qe_then_ret (qe_then_ret (qe_in_ret (qe_then_ret (qe_ret1 rfl rfl ?_)))))))
                exact ⟨rfl, K0⟩
              · skip
                obtain ⟨zi, rfl⟩ : ∃ zi : Nat, zz = (zi : Int) := ⟨zz.toNat, by omega⟩
                have hzk : zi < k := by omega
                first | refine sv rfl rfl rfl (ex_pick_t rfl rfl rfl) ?_ | refine sv rfl rfl rfl (ex_pick_f rfl rfl rfl) ?_
                refine sv rfl rfl rfl (ex_move rfl rfl) ?_
                first | refine sk rfl rfl rfl ?_ | refine sv rfl rfl rfl (ex_move rfl rfl) ?_
                first | refine sk rfl rfl rfl ?_ | refine sv rfl rfl rfl (ex_move rfl rfl) ?_
                first | refine sk rfl rfl rfl ?_ | refine sv rfl rfl rfl (ex_index Try.underlying33 sz22 (i) rfl rfl rfl (by first | rfl | omega) (by omega)) ?_
                first | refine sk rfl rfl rfl ?_ | refine sv rfl rfl rfl (ex_load (v := .slice sw.1 sw.2.1 sw.2.2) one22 rfl rfl hcw) ?_
                first | refine sk rfl rfl rfl ?_ | refine sv rfl rfl rfl (ex_len Try.underlying22 rfl rfl) ?_
                first | refine sk rfl rfl rfl ?_ | refine sv rfl rfl rfl (ex_move rfl rfl) ?_
                refine sv_if rfl rfl rfl (ex_cmp rfl rfl rfl rfl) (fun a3 => ?_) (fun a3 => ?_)
                · skip
                  first | refine sv rfl rfl rfl (ex_pick_t rfl rfl rfl) ?_ | refine sv rfl rfl rfl (ex_pick_f rfl rfl rfl) ?_
                  refine sv rfl rfl rfl (ex_move rfl rfl) ?_
                  first | refine sk rfl rfl rfl ?_ | refine sv rfl rfl rfl (ex_move rfl rfl) ?_
                  first | refine sk rfl rfl rfl ?_ | refine sv rfl rfl rfl (ex_move rfl rfl) ?_
                  refine sk rfl rfl rfl ?_
                  refine sk rfl rfl rfl ?_
                  first | refine sk rfl rfl rfl ?_ | refine sv rfl rfl rfl (ex_len Try.underlying22 rfl rfl) ?_
                  refine sk rfl rfl rfl ?_
                  first | refine sv rfl rfl rfl (ex_pick_t rfl rfl rfl) ?_ | refine sv rfl rfl rfl (ex_pick_f rfl rfl rfl) ?_
                  refine w_nil (qe_next ?_)
                  refine w_cond_t rfl ?_
                  refine w_seq ?_
                  refine w_region ?_
                  refine sv rfl rfl rfl (ex_assign rfl rfl) ?_
                  refine w_nil (qe_next ?_)
                  refine w_ret (qe_then_ret (qe_in_ret (qe_then_ret (qe_then_ret (qe_in_ret (qe_then_ret (qe_ret1 rfl rfl ?_)))))))
                  exact ⟨rfl, K0⟩
                · skip
                  replace a3 : yw.length = n := by omega
                  first | refine sv rfl rfl rfl (ex_pick_t rfl rfl rfl) ?_ | refine sv rfl rfl rfl (ex_pick_f rfl rfl rfl) ?_
                  refine sv rfl rfl rfl (ex_move rfl rfl) ?_
                  obtain ⟨b5, o5, u5, he5, _, _, hu5, hc5⟩ := hW.rd.at_ (k := zi) (by omega)
                  cases he5
                  rw [List.getElem?_map] at hu5
                  obtain ⟨s5, hs5, rfl⟩ := Option.map_eq_some_iff.1 hu5
                  obtain ⟨y5, hy5, hl5, ho5⟩ := hB.get hs5
                  first | refine sk rfl rfl rfl ?_ | refine sv rfl rfl rfl (ex_move rfl rfl) ?_
                  first | refine sk rfl rfl rfl ?_ | refine sv rfl rfl rfl (ex_move rfl rfl) ?_
                  first | refine sk rfl rfl rfl ?_ | refine sv rfl rfl rfl (ex_index Try.underlying33 sz22 (zi) rfl rfl rfl (by first | rfl | omega) (by omega)) ?_
                  first | refine sk rfl rfl rfl ?_ | refine sv rfl rfl rfl (ex_load (v := .slice s5.1 s5.2.1 s5.2.2) one22 rfl rfl hc5) ?_
                  first | refine sk rfl rfl rfl ?_ | refine sv rfl rfl rfl (ex_len Try.underlying22 rfl rfl) ?_
                  refine sv_if rfl rfl rfl (ex_cmp rfl rfl rfl rfl) (fun a4 => ?_) (fun a4 => ?_)
                  · skip
                    first | refine sv rfl rfl rfl (ex_pick_t rfl rfl rfl) ?_ | refine sv rfl rfl rfl (ex_pick_f rfl rfl rfl) ?_
                    refine w_nil (qe_next ?_)
                    refine w_cond_t rfl ?_
                    refine w_seq ?_
                    refine w_region ?_
                    refine sv rfl rfl rfl (ex_assign rfl rfl) ?_
                    refine w_nil (qe_next ?_)
                    refine w_ret (qe_then_ret (qe_in_ret (qe_then_ret (qe_then_ret (qe_in_ret (qe_then_ret (qe_ret1 rfl rfl ?_)))))))
                    exact ⟨rfl, K0⟩
                  · skip
                    first | refine sv rfl rfl rfl (ex_pick_t rfl rfl rfl) ?_ | refine sv rfl rfl rfl (ex_pick_f rfl rfl rfl) ?_
                    refine w_nil (qe_next ?_)
                    refine w_cond_f rfl ?_
                    refine w_skip (qe_next ?_)
                    refine w_seq ?_
                    refine w_seq ?_
                    have hwf := hD.wf
                    have hdls : s.du.length = k := by rw [hWr.du]; exact hdl1
                    have hwl9 := hWr.pl
                    have hws9 := hWr.sn
                    have he9 : (wy.getD zi []).length = 0 := by rw [List.getD_eq_getElem?_getD, hy5]; simp only [Option.getD_some]; omega
                    have hFlw := hD.lt
                    refine w_region ?_
                    refine sv rfl rfl rfl (ex_move rfl rfl) ?_
                    refine sv rfl rfl rfl (ex_move rfl rfl) ?_
                    refine sv rfl rfl rfl (ex_move rfl rfl) ?_
                    refine sv rfl rfl rfl (ex_move rfl rfl) ?_
                    refine sv rfl rfl rfl (ex_index Try.underlying33 sz22 (i) rfl rfl rfl (by first | rfl | omega) (by omega)) ?_
                    refine sv rfl rfl rfl (ex_load (v := .slice sw.1 sw.2.1 sw.2.2) one22 rfl rfl hcw) ?_
                    refine st rfl rfl rfl (ex_call call13 rfl rfl (write_m (zi : Int) 0 sw.1 sw.2.1 sw.2.2 0 hi yw _ F kd s _ hD hlw hrw (by omega) (write_free hWr.off hWr.left (by omega) (by omega)))) ?_
                    rintro _ w8 ⟨F9, rfl, hD9, hG9, _, K9⟩
                    have hzN := K0.size
                    have hFn9 : ∀ j, F9 j → w.heap.size ≤ j := fun j hj => (hG9 j hj).elim (hFn j) (fun h => by omega)
                    have hFz9 : ∀ j, F9 j → j < m1 ∨ mz ≤ j := fun j hj => (hG9 j hj).elim (hFz j) (fun h => by omega)
                    replace hcw := K9.cell (p := ⟨bw, _, none⟩) (fun hF => by have := hFn bw hF; omega) hcw
                    replace hrw := hrw.keep K9 (fun j _ hj hF => by have := hFn j hF; omega)
                    replace hI := hI.keep K9 (fun j h1 h2 hF => by have := hFz j hF; omega)
                    replace hW := hW.keep K9 (fun g o e hF => by injection e with e; injection e with e; subst e; have := hFz _ hF; omega)
                    replace hB := hB.keep K9 (fun j hj hF => by have := hFn j hF; omega)
                    replace K0 := K0.trans K9 (fun j hj _ hF => by have := hFn j hF; omega)
                    have hz9 := K9.size
                    refine sv rfl rfl rfl (ex_cmp rfl rfl rfl (congrArg some (decide_eq_false (not_not_intro rfl)))) ?_
                    refine w_nil (qe_next ?_)
                    refine w_cond_f rfl ?_
                    refine w_skip (qe_next ?_)
                    refine w_region ?_
                    refine sv rfl rfl rfl (ex_move rfl rfl) ?_
                    refine sv rfl rfl rfl (ex_move rfl rfl) ?_
                    refine sv rfl rfl rfl (ex_move rfl rfl) ?_
                    refine sv rfl rfl rfl (ex_move rfl rfl) ?_
                    refine sv rfl rfl rfl (ex_index Try.underlying33 sz22 (i) rfl rfl rfl (by first | rfl | omega) (by omega)) ?_
                    refine sv rfl rfl rfl (ex_load (v := .slice sw.1 sw.2.1 sw.2.2) one22 rfl rfl hcw) ?_
                    refine sv rfl rfl rfl (ex_index Try.underlying33 sz22 (zi) rfl rfl rfl (by first | rfl | omega) (by omega)) ?_
                    refine st0 rfl rfl (ex_store_own sz22 hW (i := zi) hzk rfl rfl rfl rfl) ?_
                    rintro _ w9 ⟨K7, hW9, hz7⟩
                    rw [show (wsl.map slv).set zi (Value.slice sw.1 sw.2.1 sw.2.2) = (wsl.set zi sw).map slv from by rw [List.map_set]; rfl] at hW9
                    have hB9 := (hB.keep K7 (fun j hj e => by omega)).set (j := zi) hlw (hrw.keep K7 (fun j _ hj e => by omega))
                    replace hD9 := hD9.keep K7 (fun j hj e => by have := hFz9 j hj; omega)
                    replace hI := hI.keep K7 (fun j h1 h2 e => by omega)
                    replace K0 := K0.trans K7 (fun j hj _ e => by omega)
                    replace hmzL : mz ≤ _ := Nat.le_trans hmzL (Nat.le_trans hz9 K7.size)
                    refine w_nil (qe_in_normal (qe_next ?_))
                    refine w_region ?_
                    refine sv rfl rfl rfl (ex_move rfl rfl) ?_
                    refine sv rfl rfl rfl (ex_add rfl rfl rfl (i64_in (by omega) (by omega))) ?_
                    refine sv rfl rfl rfl (ex_assign rfl rfl) ?_
                    refine w_nil (qe_round (i + 1) ⟨rfl, rfl, rfl, rfl, rfl, rfl, rfl, rfl, rfl, rfl, rfl, trivial⟩ ?_ ?_)
                    · exact ⟨by omega, _, F9, _, _, hD9, hFn9, hFz9, hWr.step hwf n1 hzk he9, hI, hW9, hB9, hmzL, K0⟩
                    · omega
          · skip
            first | refine sv rfl rfl rfl (ex_pick_t rfl rfl rfl) ?_ | refine sv rfl rfl rfl (ex_pick_f rfl rfl rfl) ?_
            refine w_nil (qe_next ?_)
            refine w_cond_f rfl ?_
            refine w_exit (qe_then_exit (qe_then_exit (qe_in_exit (qe_next ?_))))
            refine w_seq ?_
            have hdls : s.du.length = k := by rw [hWr.du]; exact hdl1
            have hpl9 := hWr.pl
            have hcl : (s.crash kb z).du.length = k := by
              have := (crashG_ok (n := s.n) kb (tornN z s.n) s.pd 0 true s.du hD.wf.du (fun p hp => Nat.le_of_eq (hD.wf.pd p hp).2)).2
              exact this.trans hdls
            obtain ⟨t, hlaw⟩ := tear_law hWr hD.wf hdls kb z
            have hwd1 := hD.wf.du
            rw [hWr.du, hWr.sn] at hwd1
            refine w_region ?_
            refine sv rfl rfl rfl (ex_move rfl rfl) ?_
            refine sv rfl rfl rfl (ex_move rfl rfl) ?_
            refine sv rfl rfl rfl (ex_move rfl rfl) ?_
            refine st rfl rfl rfl (ex_call call27 rfl rfl (crash_e kb z Ak kb.length ck 0 hi (s.crash kb z) F kd s _ hD rfl (hrk.ext K0) (fun g q e hq hg => by
              obtain ⟨b, o2, e2, _, h, _⟩ := hrk.addr hq
              rw [e] at e2
              injection e2 with e2
              injection e2 with e2
              have := hFn g hg
              omega) (by omega) hkq rfl)) ?_
            rintro _ w10 ⟨F2, rfl, hD2, hG2, _, K2⟩
            replace hI := hI.keep K2 (fun j h1 h2 hF => by have := hFz j hF; omega)
            replace hW := hW.keep K2 (fun g o e hF => by injection e with e; injection e with e; subst e; have := hFz _ hF; omega)
            replace hB := hB.keep K2 (fun j hj hF => by have := hFn j hF; omega)
            replace K0 := K0.trans K2 (fun j hj _ hF => by have := hFn j hF; omega)
            have hwd2 := hD2.wf.du
            rw [show (s.crash kb z).n = n from hWr.sn] at hwd2
            obtain ⟨s2, hs2⟩ : ∃ s2, s2 = s.crash kb z := ⟨_, rfl⟩
            rw [← hs2] at hD2 hlaw hcl hwd2
            clear hs2
            refine w_nil (qe_next ?_)
            refine w_seq ?_
            refine w_region ?_
            refine sv rfl rfl rfl (ex_move rfl rfl) ?_
            refine st rfl rfl rfl (ex_call call17 rfl rfl (image_c F2 kd s2 _ hD2)) ?_
            rintro _ w11 ⟨gj, sl2, rfl, hi2, hso2, E4⟩
            replace hI := hI.ext E4
            replace hW := hW.ext E4
            replace hB := hB.ext E4
            replace K0 := K0.ext E4
            refine sv rfl rfl rfl (ex_assign rfl rfl) ?_
            refine w_nil (qe_next ?_)
            refine w_seq ?_
            refine w_seq ?_
            refine w_region ?_
            refine sv rfl rfl rfl (ex_move rfl rfl) ?_
            refine sv rfl rfl rfl (ex_len Try.underlying33 rfl rfl) ?_
            refine sv rfl rfl rfl (ex_move rfl rfl) ?_
            refine sv rfl rfl rfl (ex_cmp rfl rfl rfl (congrArg some (decide_eq_false (by omega)))) ?_
            refine sv rfl rfl rfl (ex_move rfl rfl) ?_
            first | refine sk rfl rfl rfl ?_ | refine sv rfl rfl rfl (ex_move rfl rfl) ?_
            first | refine sk rfl rfl rfl ?_ | refine sv rfl rfl rfl (ex_len Try.underlying33 rfl rfl) ?_
            first | refine sk rfl rfl rfl ?_ | refine sv rfl rfl rfl (ex_move rfl rfl) ?_
            first | refine sk rfl rfl rfl ?_ | refine sv rfl rfl rfl (ex_cmp rfl rfl rfl (congrArg some (decide_eq_false (by omega)))) ?_
            first | refine sv rfl rfl rfl (ex_pick_t rfl rfl rfl) ?_ | refine sv rfl rfl rfl (ex_pick_f rfl rfl rfl) ?_
            refine w_nil (qe_next ?_)
            refine w_cond_f rfl ?_
            refine w_skip (qe_next ?_)
            refine w_seq ?_
            obtain ⟨wz, Kz, KzW, hA, hAo, hI, hW, hB⟩ : ∃ wz, Ext wz _ ∧ Ext w wz ∧ Own wz _ 22 1 (some ⟨gj, 0, none⟩) s2.du.length s2.du.length (sl2.map slv) ∧ Owns wz _ sl2 s2.du ∧ Img wz m1 mi gi s1.du.length sl1 s1.du ∧ Own wz m1 22 1 (some ⟨gw, 0, none⟩) k k (wsl.map slv) ∧ RdB wz hi wsl wy := ⟨_, Keep.refl _ _, K0, hi2, hso2, hI, hW, hB⟩
            refine w_region ?_
            refine sv rfl rfl rfl (ex_assign rfl rfl) ?_
            refine w_nil (qe_next ?_)
            refine w_seq ?_
            refine w_seq ?_
            refine w_region ?_
            refine sv rfl rfl rfl (ex_assign rfl rfl) ?_
            refine w_nil (qe_next ?_)
            refine w_block ?_
            refine w_loop (ι := Nat × Nat) (fun i => [(0, .int .i64 (k : Int)), (1, .int .i64 (n : Int)), (18, .slice (some ⟨gi, 0, none⟩) s1.du.length s1.du.length), (19, .slice (some ⟨gw, 0, none⟩) k k), (22, .slice (some ⟨gj, 0, none⟩) s2.du.length s2.du.length), (23, .int .i64 (i.2 : Int)), (24, .int .i64 (i.1 : Int))]) (fun i wL => i.1 ≤ k ∧ (i.2 = 0 ∨ (i.2 = 1 ∧ ∃ p, p < i.1 ∧ t = some p)) ∧ Ext wz wL) (fun i => k - i.1) ((0, 0)) ⟨rfl, rfl, rfl, rfl, rfl, rfl, rfl, trivial⟩ ?_ ?_
            · exact ⟨Nat.zero_le _, .inl rfl, Kz⟩
            · clear Kz
              rintro ⟨i, tn⟩ wL ⟨hi1, htn, Kz⟩
              simp only at hi1 htn
              have htn2 : tn ≤ 1 := by omega
              refine w_seq ?_
              refine w_seq ?_
              refine w_region ?_
              refine sv rfl rfl rfl (ex_move rfl rfl) ?_
              refine sv rfl rfl rfl (ex_move rfl rfl) ?_
              refine sv rfl rfl rfl (ex_cmp rfl rfl rfl rfl) ?_
              refine w_nil (qe_next ?_)
              refine w_if rfl (fun hk4 => ?_) (fun hk4 => ?_)
              · skip
                replace hk4 : i < k := by first | omega | (simp only at hk4; omega)
                obtain ⟨b6, o6, u6, he6, _, _, hu6, hc6⟩ := hI.own.rd.at_ (k := i) (by omega)
                cases he6
                rw [List.getElem?_map] at hu6
                obtain ⟨s6, hs6, rfl⟩ := Option.map_eq_some_iff.1 hu6
                obtain ⟨y6, hy6, hl6, ho6⟩ := hI.dat.get hs6
                obtain ⟨b7, o7, u7, he7, _, _, hu7, hc7⟩ := hA.rd.at_ (k := i) (by omega)
                cases he7
                rw [List.getElem?_map] at hu7
                obtain ⟨s7, hs7, rfl⟩ := Option.map_eq_some_iff.1 hu7
                obtain ⟨y7, hy7, hl7, ho7⟩ := hAo.get hs7
                obtain ⟨b8, o8, u8, he8, _, _, hu8, hc8⟩ := hW.rd.at_ (k := i) (by omega)
                cases he8
                rw [List.getElem?_map] at hu8
                obtain ⟨s8, hs8, rfl⟩ := Option.map_eq_some_iff.1 hu8
                obtain ⟨y8, hy8, hl8, ho8⟩ := hB.get hs8
                have hyl1 := hwd1 _ (List.mem_of_getElem? hy6)
                have hyl2 := hwd2 _ (List.mem_of_getElem? hy7)
                refine w_skip (qe_next ?_)
                refine w_seq ?_
                refine w_block ?_
                refine w_seq ?_
                refine w_seq ?_
                refine w_draw mixed (fun w12 _ Ew12 => ?_)
                replace Kz := Kz.ext Ew12
                refine wd_free 8 _ rfl rfl rfl rfl ?_
                refine fd [] rfl rfl rfl rfl rfl rfl rfl (fun w' E => ex_move rfl rfl) ?_
                refine fd [] rfl rfl rfl rfl rfl rfl rfl (fun w' E => ex_move rfl rfl) ?_
                refine fd [0, 1] rfl rfl rfl rfl rfl rfl rfl (fun w' E => ex_index Try.underlying33 sz22 (i) rfl rfl rfl (by first | rfl | omega) (by omega)) ?_
                refine fd [2] rfl rfl rfl rfl rfl rfl rfl (fun w' E => ex_load (v := .slice s7.1 s7.2.1 s7.2.2) one22 rfl rfl ((Kz.ext E).cell trivial hc7)) ?_
                refine fd [] rfl rfl rfl rfl rfl rfl rfl (fun w' E => ex_move rfl rfl) ?_
                refine fd [] rfl rfl rfl rfl rfl rfl rfl (fun w' E => ex_move rfl rfl) ?_
                refine fd [4, 5] rfl rfl rfl rfl rfl rfl rfl (fun w' E => ex_index Try.underlying33 sz22 (i) rfl rfl rfl (by first | rfl | omega) (by omega)) ?_
                refine fd [6] rfl rfl rfl rfl rfl rfl rfl (fun w' E => ex_load (v := .slice s6.1 s6.2.1 s6.2.2) one22 rfl rfl ((Kz.ext E).cell trivial hc6)) ?_
                refine .nil (fun w13 Ew13 _ => ?_)
                replace Kz := Kz.ext Ew13
                refine wd_one rfl rfl (by kernel_rfl) rfl rfl rfl (ex_call call15 rfl rfl (same_c _ _ _ _ _ _ _ _ _ _ y7 y6 _ hl7 hl6 (ho7.rd.ext Kz) (ho6.rd.ext Kz))) ?_
                rintro _ w14 ⟨rfl, hwe⟩
                obtain rfl := hwe.symm
                cases hq1 : decide (y7 = y6)
                · skip
                  refine wd_v rfl rfl (by kernel_rfl) rfl rfl rfl (ex_move rfl rfl) ?_
                  refine wd_free 8 _ rfl rfl rfl rfl ?_
                  first | refine fsk [] rfl rfl rfl rfl rfl rfl rfl ?_ | refine fd [] rfl rfl rfl rfl rfl rfl rfl (fun w' E => ex_move rfl rfl) ?_
                  first | refine fsk [] rfl rfl rfl rfl rfl rfl rfl ?_ | refine fd [] rfl rfl rfl rfl rfl rfl rfl (fun w' E => ex_move rfl rfl) ?_
                  first | refine fsk [10, 11] rfl rfl rfl rfl rfl rfl rfl ?_ | refine fd [10, 11] rfl rfl rfl rfl rfl rfl rfl (fun w' E => ex_index Try.underlying33 sz22 (i) rfl rfl rfl (by first | rfl | omega) (by omega)) ?_
                  first | refine fsk [12] rfl rfl rfl rfl rfl rfl rfl ?_ | refine fd [12] rfl rfl rfl rfl rfl rfl rfl (fun w' E => ex_load (v := .slice s7.1 s7.2.1 s7.2.2) one22 rfl rfl ((Kz.ext E).cell trivial hc7)) ?_
                  first | refine fsk [] rfl rfl rfl rfl rfl rfl rfl ?_ | refine fd [] rfl rfl rfl rfl rfl rfl rfl (fun w' E => ex_move rfl rfl) ?_
                  first | refine fsk [] rfl rfl rfl rfl rfl rfl rfl ?_ | refine fd [] rfl rfl rfl rfl rfl rfl rfl (fun w' E => ex_move rfl rfl) ?_
                  first | refine fsk [14, 15] rfl rfl rfl rfl rfl rfl rfl ?_ | refine fd [14, 15] rfl rfl rfl rfl rfl rfl rfl (fun w' E => ex_index Try.underlying33 sz22 (i) rfl rfl rfl (by first | rfl | omega) (by omega)) ?_
                  first | refine fsk [16] rfl rfl rfl rfl rfl rfl rfl ?_ | refine fd [16] rfl rfl rfl rfl rfl rfl rfl (fun w' E => ex_load (v := .slice s8.1 s8.2.1 s8.2.2) one22 rfl rfl ((Kz.ext E).cell trivial hc8)) ?_
                  refine .nil (fun w15 Ew15 _ => ?_)
                  replace Kz := Kz.ext Ew15
                  refine wd_one rfl rfl (by kernel_rfl) rfl rfl rfl (ex_call call15 rfl rfl (same_c _ _ _ _ _ _ _ _ _ _ y7 y8 _ hl7 hl8 (ho7.rd.ext Kz) (ho8.ext Kz))) ?_
                  rintro _ w16 ⟨rfl, hwe⟩
                  obtain rfl := hwe.symm
                  cases hq2 : decide (y7 = y8)
                  · skip
                    first | refine wd_v rfl rfl (by kernel_rfl) rfl rfl rfl (ex_pick_t rfl rfl rfl) ?_ | refine wd_v rfl rfl (by kernel_rfl) rfl rfl rfl (ex_pick_f rfl rfl rfl) ?_
                    refine wd_nil (by decide) rfl ?_
                    refine qe_next ?_
                    refine w_cond_f rfl ?_
                    refine w_skip (qe_next ?_)
                    refine w_seq ?_
                    obtain ⟨htt, hl3n, hl1n, hl2n, mm, hmm, hyy⟩ := hlaw i y6 y7 y8 hy6 hy7 hy8 (of_decide_eq_false hq1) (of_decide_eq_false hq2)
                    refine w_region ?_
                    refine sv rfl rfl rfl (ex_move rfl rfl) ?_
                    refine sv rfl rfl rfl (ex_add rfl rfl rfl (i64_in (by omega) (by omega))) ?_
                    refine sv rfl rfl rfl (ex_assign rfl rfl) ?_
                    refine w_nil (qe_next ?_)
                    refine w_seq ?_
                    refine w_region ?_
                    refine sv rfl rfl rfl (ex_assign rfl rfl) ?_
                    refine w_nil (qe_next ?_)
                    refine w_seq ?_
                    refine w_block ?_
                    refine w_loop (ι := Nat) (fun q => [(0, .int .i64 (k : Int)), (1, .int .i64 (n : Int)), (18, .slice (some ⟨gi, 0, none⟩) s1.du.length s1.du.length), (19, .slice (some ⟨gw, 0, none⟩) k k), (22, .slice (some ⟨gj, 0, none⟩) s2.du.length s2.du.length), (23, .int .i64 ((tn : Int) + 1)), (24, .int .i64 (i : Int)), (25, .int .i64 (q : Int))]) (fun q wL => q ≤ n ∧ (∀ j, j < q → y7[j]? = y8[j]?) ∧ Ext wz wL) (fun q => n - q) (0) ⟨rfl, rfl, rfl, rfl, rfl, rfl, rfl, rfl, trivial⟩ ?_ ?_
                    · exact ⟨Nat.zero_le _, fun j hj => by omega, Kz⟩
                    · clear Kz
                      rintro q wL ⟨hq, hpre, Kz⟩
                      refine w_seq ?_
                      refine w_seq ?_
                      refine w_draw mixed (fun w17 _ Ew17 => ?_)
                      replace Kz := Kz.ext Ew17
                      refine wd_free 6 _ rfl rfl rfl rfl ?_
                      refine fd [] rfl rfl rfl rfl rfl rfl rfl (fun w' E => ex_move rfl rfl) ?_
                      refine fd [] rfl rfl rfl rfl rfl rfl rfl (fun w' E => ex_move rfl rfl) ?_
                      refine fd [] rfl rfl rfl rfl rfl rfl rfl (fun w' E => ex_move rfl rfl) ?_
                      refine fd [1, 2] rfl rfl rfl rfl rfl rfl rfl (fun w' E => ex_index Try.underlying33 sz22 (i) rfl rfl rfl (by first | rfl | omega) (by omega)) ?_
                      refine fd [3] rfl rfl rfl rfl rfl rfl rfl (fun w' E => ex_load (v := .slice s8.1 s8.2.1 s8.2.2) one22 rfl rfl ((Kz.ext E).cell trivial hc8)) ?_
                      refine fd [4] rfl rfl rfl rfl rfl rfl rfl (fun w' E => ex_len Try.underlying22 rfl rfl) ?_
                      refine .nil (fun w18 Ew18 _ => ?_)
                      replace Kz := Kz.ext Ew18
                      refine wd_if rfl rfl (by kernel_rfl) rfl rfl rfl (ex_cmp rfl rfl rfl rfl) (fun c1 => ?_) (fun c1 => ?_)
                      · skip
                        replace c1 : q < n := by omega
                        obtain ⟨p7, q7, v7, ha7, _, _, hv7, hd7⟩ := ho7.rd.at_ (k := q) (by omega)
                        rw [bcells_get] at hv7
                        obtain ⟨x7, hx7, rfl⟩ := Option.map_eq_some_iff.1 hv7
                        obtain ⟨p8, q8, v8, ha8, _, _, hv8, hd8⟩ := ho8.at_ (k := q) (by omega)
                        rw [bcells_get] at hv8
                        obtain ⟨x8, hx8, rfl⟩ := Option.map_eq_some_iff.1 hv8
                        refine wd_v rfl rfl (by kernel_rfl) rfl rfl rfl (ex_move rfl rfl) ?_
                        refine wd_free 6 _ rfl rfl rfl rfl ?_
                        first | refine fsk [] rfl rfl rfl rfl rfl rfl rfl ?_ | refine fd [] rfl rfl rfl rfl rfl rfl rfl (fun w' E => ex_move rfl rfl) ?_
                        first | refine fsk [] rfl rfl rfl rfl rfl rfl rfl ?_ | refine fd [] rfl rfl rfl rfl rfl rfl rfl (fun w' E => ex_move rfl rfl) ?_
                        first | refine fsk [] rfl rfl rfl rfl rfl rfl rfl ?_ | refine fd [] rfl rfl rfl rfl rfl rfl rfl (fun w' E => ex_move rfl rfl) ?_
                        first | refine fsk [9, 10] rfl rfl rfl rfl rfl rfl rfl ?_ | refine fd [9, 10] rfl rfl rfl rfl rfl rfl rfl (fun w' E => ex_index Try.underlying33 sz22 (i) rfl rfl rfl (by first | rfl | omega) (by omega)) ?_
                        first | refine fsk [11] rfl rfl rfl rfl rfl rfl rfl ?_ | refine fd [11] rfl rfl rfl rfl rfl rfl rfl (fun w' E => ex_load (v := .slice s7.1 s7.2.1 s7.2.2) one22 rfl rfl ((Kz.ext E).cell trivial hc7)) ?_
                        first | refine fsk [12] rfl rfl rfl rfl rfl rfl rfl ?_ | refine fd [12] rfl rfl rfl rfl rfl rfl rfl (fun w' E => ex_len Try.underlying22 rfl rfl) ?_
                        refine .nil (fun w19 Ew19 _ => ?_)
                        replace Kz := Kz.ext Ew19
                        first | refine wd_skip rfl rfl (by kernel_rfl) rfl rfl rfl ?_ | refine wd_v rfl rfl (by kernel_rfl) rfl rfl rfl (ex_cmp rfl rfl rfl (congrArg some (decide_eq_true (by omega)))) ?_
                        first | refine wd_v rfl rfl (by kernel_rfl) rfl rfl rfl (ex_pick_t rfl rfl rfl) ?_ | refine wd_v rfl rfl (by kernel_rfl) rfl rfl rfl (ex_pick_f rfl rfl rfl) ?_
                        refine wd_v rfl rfl (by kernel_rfl) rfl rfl rfl (ex_move rfl rfl) ?_
                        refine wd_free 14 _ rfl rfl rfl rfl ?_
                        first | refine fsk [] rfl rfl rfl rfl rfl rfl rfl ?_ | refine fd [] rfl rfl rfl rfl rfl rfl rfl (fun w' E => ex_move rfl rfl) ?_
                        first | refine fsk [] rfl rfl rfl rfl rfl rfl rfl ?_ | refine fd [] rfl rfl rfl rfl rfl rfl rfl (fun w' E => ex_move rfl rfl) ?_
                        first | refine fsk [17, 18] rfl rfl rfl rfl rfl rfl rfl ?_ | refine fd [17, 18] rfl rfl rfl rfl rfl rfl rfl (fun w' E => ex_index Try.underlying33 sz22 (i) rfl rfl rfl (by first | rfl | omega) (by omega)) ?_
                        first | refine fsk [19] rfl rfl rfl rfl rfl rfl rfl ?_ | refine fd [19] rfl rfl rfl rfl rfl rfl rfl (fun w' E => ex_load (v := .slice (some ⟨p7, q7, none⟩) s7.2.1 s7.2.2) one22 rfl rfl (by rw [← ha7]; exact (Kz.ext E).cell trivial hc7)) ?_
                        first | refine fsk [] rfl rfl rfl rfl rfl rfl rfl ?_ | refine fd [] rfl rfl rfl rfl rfl rfl rfl (fun w' E => ex_move rfl rfl) ?_
                        first | refine fsk [20, 21] rfl rfl rfl rfl rfl rfl rfl ?_ | refine fd [20, 21] rfl rfl rfl rfl rfl rfl rfl (fun w' E => ex_index Try.underlying22 sz5 (q) rfl rfl rfl (by first | rfl | omega) (by omega)) ?_
                        first | refine fsk [22] rfl rfl rfl rfl rfl rfl rfl ?_ | refine fd [22] rfl rfl rfl rfl rfl rfl rfl (fun w' E => ex_load one5 rfl rfl ((Kz.ext E).cell trivial hd7)) ?_
                        first | refine fsk [] rfl rfl rfl rfl rfl rfl rfl ?_ | refine fd [] rfl rfl rfl rfl rfl rfl rfl (fun w' E => ex_move rfl rfl) ?_
                        first | refine fsk [] rfl rfl rfl rfl rfl rfl rfl ?_ | refine fd [] rfl rfl rfl rfl rfl rfl rfl (fun w' E => ex_move rfl rfl) ?_
                        first | refine fsk [24, 25] rfl rfl rfl rfl rfl rfl rfl ?_ | refine fd [24, 25] rfl rfl rfl rfl rfl rfl rfl (fun w' E => ex_index Try.underlying33 sz22 (i) rfl rfl rfl (by first | rfl | omega) (by omega)) ?_
                        first | refine fsk [26] rfl rfl rfl rfl rfl rfl rfl ?_ | refine fd [26] rfl rfl rfl rfl rfl rfl rfl (fun w' E => ex_load (v := .slice (some ⟨p8, q8, none⟩) s8.2.1 s8.2.2) one22 rfl rfl (by rw [← ha8]; exact (Kz.ext E).cell trivial hc8)) ?_
                        first | refine fsk [] rfl rfl rfl rfl rfl rfl rfl ?_ | refine fd [] rfl rfl rfl rfl rfl rfl rfl (fun w' E => ex_move rfl rfl) ?_
                        first | refine fsk [27, 28] rfl rfl rfl rfl rfl rfl rfl ?_ | refine fd [27, 28] rfl rfl rfl rfl rfl rfl rfl (fun w' E => ex_index Try.underlying22 sz5 (q) rfl rfl rfl (by first | rfl | omega) (by omega)) ?_
                        first | refine fsk [29] rfl rfl rfl rfl rfl rfl rfl ?_ | refine fd [29] rfl rfl rfl rfl rfl rfl rfl (fun w' E => ex_load one5 rfl rfl ((Kz.ext E).cell trivial hd8)) ?_
                        refine .nil (fun w20 Ew20 _ => ?_)
                        replace Kz := Kz.ext Ew20
                        refine wd_if rfl rfl (by kernel_rfl) rfl rfl rfl (ex_cmp rfl rfl rfl rfl) (fun c2 => ?_) (fun c2 => ?_)
                        · skip
                          first | refine wd_v rfl rfl (by kernel_rfl) rfl rfl rfl (ex_pick_t rfl rfl rfl) ?_ | refine wd_v rfl rfl (by kernel_rfl) rfl rfl rfl (ex_pick_f rfl rfl rfl) ?_
                          refine wd_nil (by decide) rfl ?_
                          refine qe_next ?_
                          refine w_cond_t rfl ?_
                          refine w_skip (qe_next ?_)
                          refine w_block ?_
                          refine w_region ?_
                          refine sv rfl rfl rfl (ex_move rfl rfl) ?_
                          refine sv rfl rfl rfl (ex_add rfl rfl rfl (i64_in (by omega) (by omega))) ?_
                          refine sv rfl rfl rfl (ex_assign rfl rfl) ?_
                          refine w_nil (qe_in_normal (qe_round (q + 1) ⟨rfl, rfl, rfl, rfl, rfl, rfl, rfl, rfl, trivial⟩ ?_ ?_))
                          · refine ⟨by omega, fun j hj => ?_, Kz⟩
                            rcases Nat.lt_or_eq_of_le (Nat.lt_succ_iff.1 hj) with h | h
                            · exact hpre j h
                            · subst h; rw [hx7, hx8, show x7 = x8 from UInt8.toNat_inj.1 (by omega)]
                          · omega
                        · skip
                          first | refine wd_v rfl rfl (by kernel_rfl) rfl rfl rfl (ex_pick_t rfl rfl rfl) ?_ | refine wd_v rfl rfl (by kernel_rfl) rfl rfl rfl (ex_pick_f rfl rfl rfl) ?_
                          refine wd_nil (by decide) rfl ?_
                          refine qe_next ?_
                          refine w_cond_f rfl ?_
                          refine w_exit (qe_then_exit (qe_then_exit (qe_in_exit (qe_next ?_))))
                          refine w_seq ?_
                          have hds := tear_same hl3n hl1n hmm hyy hq hpre (fun _ e => by rw [hx7, hx8] at e; injection e with e; exact c2 (by rw [e]))
                          refine w_draw mixed (fun w21 _ Ew21 => ?_)
                          replace Kz := Kz.ext Ew21
                          refine wd_free 6 _ rfl rfl rfl rfl ?_
                          refine fd [] rfl rfl rfl rfl rfl rfl rfl (fun w' E => ex_move rfl rfl) ?_
                          refine fd [] rfl rfl rfl rfl rfl rfl rfl (fun w' E => ex_move rfl rfl) ?_
                          refine fd [0, 1] rfl rfl rfl rfl rfl rfl rfl (fun w' E => ex_index Try.underlying33 sz22 (i) rfl rfl rfl (by first | rfl | omega) (by omega)) ?_
                          refine fd [2] rfl rfl rfl rfl rfl rfl rfl (fun w' E => ex_load (v := .slice s8.1 s8.2.1 s8.2.2) one22 rfl rfl ((Kz.ext E).cell trivial hc8)) ?_
                          refine fd [3] rfl rfl rfl rfl rfl rfl rfl (fun w' E => ex_len Try.underlying22 rfl rfl) ?_
                          refine fd [] rfl rfl rfl rfl rfl rfl rfl (fun w' E => ex_move rfl rfl) ?_
                          refine .nil (fun w22 Ew22 _ => ?_)
                          replace Kz := Kz.ext Ew22
                          refine wd_v rfl rfl (by kernel_rfl) rfl rfl rfl (ex_cmp rfl rfl rfl (congrArg some (decide_eq_false (by omega)))) ?_
                          refine wd_v rfl rfl (by kernel_rfl) rfl rfl rfl (ex_move rfl rfl) ?_
                          refine wd_free 6 _ rfl rfl rfl rfl ?_
                          first | refine fsk [] rfl rfl rfl rfl rfl rfl rfl ?_ | refine fd [] rfl rfl rfl rfl rfl rfl rfl (fun w' E => ex_move rfl rfl) ?_
                          first | refine fsk [] rfl rfl rfl rfl rfl rfl rfl ?_ | refine fd [] rfl rfl rfl rfl rfl rfl rfl (fun w' E => ex_move rfl rfl) ?_
                          first | refine fsk [8, 9] rfl rfl rfl rfl rfl rfl rfl ?_ | refine fd [8, 9] rfl rfl rfl rfl rfl rfl rfl (fun w' E => ex_index Try.underlying33 sz22 (i) rfl rfl rfl (by first | rfl | omega) (by omega)) ?_
                          first | refine fsk [10] rfl rfl rfl rfl rfl rfl rfl ?_ | refine fd [10] rfl rfl rfl rfl rfl rfl rfl (fun w' E => ex_load (v := .slice s7.1 s7.2.1 s7.2.2) one22 rfl rfl ((Kz.ext E).cell trivial hc7)) ?_
                          first | refine fsk [11] rfl rfl rfl rfl rfl rfl rfl ?_ | refine fd [11] rfl rfl rfl rfl rfl rfl rfl (fun w' E => ex_len Try.underlying22 rfl rfl) ?_
                          first | refine fsk [] rfl rfl rfl rfl rfl rfl rfl ?_ | refine fd [] rfl rfl rfl rfl rfl rfl rfl (fun w' E => ex_move rfl rfl) ?_
                          refine .nil (fun w23 Ew23 _ => ?_)
                          replace Kz := Kz.ext Ew23
                          first | refine wd_skip rfl rfl (by kernel_rfl) rfl rfl rfl ?_ | refine wd_v rfl rfl (by kernel_rfl) rfl rfl rfl (ex_cmp rfl rfl rfl (congrArg some (decide_eq_false (by omega)))) ?_
                          first | refine wd_v rfl rfl (by kernel_rfl) rfl rfl rfl (ex_pick_t rfl rfl rfl) ?_ | refine wd_v rfl rfl (by kernel_rfl) rfl rfl rfl (ex_pick_f rfl rfl rfl) ?_
                          refine wd_v rfl rfl (by kernel_rfl) rfl rfl rfl (ex_move rfl rfl) ?_
                          refine wd_free 12 _ rfl rfl rfl rfl ?_
                          first | refine fsk [] rfl rfl rfl rfl rfl rfl rfl ?_ | refine fd [] rfl rfl rfl rfl rfl rfl rfl (fun w' E => ex_move rfl rfl) ?_
                          first | refine fsk [] rfl rfl rfl rfl rfl rfl rfl ?_ | refine fd [] rfl rfl rfl rfl rfl rfl rfl (fun w' E => ex_move rfl rfl) ?_
                          first | refine fsk [17, 18] rfl rfl rfl rfl rfl rfl rfl ?_ | refine fd [17, 18] rfl rfl rfl rfl rfl rfl rfl (fun w' E => ex_index Try.underlying33 sz22 (i) rfl rfl rfl (by first | rfl | omega) (by omega)) ?_
                          first | refine fsk [19] rfl rfl rfl rfl rfl rfl rfl ?_ | refine fd [19] rfl rfl rfl rfl rfl rfl rfl (fun w' E => ex_load (v := .slice s7.1 s7.2.1 s7.2.2) one22 rfl rfl ((Kz.ext E).cell trivial hc7)) ?_
                          first | refine fsk [] rfl rfl rfl rfl rfl rfl rfl ?_ | refine fd [] rfl rfl rfl rfl rfl rfl rfl (fun w' E => ex_move rfl rfl) ?_
                          first | refine fsk [20, 21] rfl rfl rfl rfl rfl rfl rfl ?_ | refine fd [20, 21] rfl rfl rfl rfl rfl rfl rfl (fun w' E => ex_slice Try.underlying22 sz5 q s7.2.1 rfl rfl (.inr ⟨_, _, _, rfl, rfl, rfl⟩) (.inl ⟨rfl, rfl⟩) (by omega) ho7.le) ?_
                          first | refine fsk [] rfl rfl rfl rfl rfl rfl rfl ?_ | refine fd [] rfl rfl rfl rfl rfl rfl rfl (fun w' E => ex_move rfl rfl) ?_
                          first | refine fsk [] rfl rfl rfl rfl rfl rfl rfl ?_ | refine fd [] rfl rfl rfl rfl rfl rfl rfl (fun w' E => ex_move rfl rfl) ?_
                          first | refine fsk [23, 24] rfl rfl rfl rfl rfl rfl rfl ?_ | refine fd [23, 24] rfl rfl rfl rfl rfl rfl rfl (fun w' E => ex_index Try.underlying33 sz22 (i) rfl rfl rfl (by first | rfl | omega) (by omega)) ?_
                          first | refine fsk [25] rfl rfl rfl rfl rfl rfl rfl ?_ | refine fd [25] rfl rfl rfl rfl rfl rfl rfl (fun w' E => ex_load (v := .slice s6.1 s6.2.1 s6.2.2) one22 rfl rfl ((Kz.ext E).cell trivial hc6)) ?_
                          first | refine fsk [] rfl rfl rfl rfl rfl rfl rfl ?_ | refine fd [] rfl rfl rfl rfl rfl rfl rfl (fun w' E => ex_move rfl rfl) ?_
                          first | refine fsk [26, 27] rfl rfl rfl rfl rfl rfl rfl ?_ | refine fd [26, 27] rfl rfl rfl rfl rfl rfl rfl (fun w' E => ex_slice Try.underlying22 sz5 q s6.2.1 rfl rfl (.inr ⟨_, _, _, rfl, rfl, rfl⟩) (.inl ⟨rfl, rfl⟩) (by omega) ho6.le) ?_
                          refine .nil (fun w24 Ew24 _ => ?_)
                          replace Kz := Kz.ext Ew24
                          have hk7 := (ho7.rd.ext Kz).cut (l := q) (hh := s7.2.1) (m := s7.2.2) (by omega) (Nat.le_refl _) ho7.le
                          rw [show List.take ((s7.2.1 - q) * 1) (List.drop (q * 1) (bcells y7)) = bcells (y7.drop q) from by rw [Nat.mul_one, Nat.mul_one, List.take_of_length_le (by rw [List.length_drop, bcells_length]; omega)]; simp [bcells]] at hk7
                          have hk6 := (ho6.rd.ext Kz).cut (l := q) (hh := s6.2.1) (m := s6.2.2) (by omega) (Nat.le_refl _) ho6.le
                          rw [show List.take ((s6.2.1 - q) * 1) (List.drop (q * 1) (bcells y6)) = bcells (y6.drop q) from by rw [Nat.mul_one, Nat.mul_one, List.take_of_length_le (by rw [List.length_drop, bcells_length]; omega)]; simp [bcells]] at hk6
                          refine wd_one rfl rfl (by kernel_rfl) rfl rfl rfl (ex_call call15 rfl rfl (same_t _ _ _ _ _ _ _ _ _ _ (y7.drop q) (y6.drop q) _ (by rw [List.length_drop]; omega) (by rw [List.length_drop]; omega) hk7 hk6 hds)) ?_
                          rintro _ w25 ⟨rfl, hwe⟩
                          obtain rfl := hwe.symm
                          first | refine wd_skip rfl rfl (by kernel_rfl) rfl rfl rfl ?_ | refine wd_v rfl rfl (by kernel_rfl) rfl rfl rfl (ex_not rfl rfl) ?_
                          first | refine wd_v rfl rfl (by kernel_rfl) rfl rfl rfl (ex_pick_t rfl rfl rfl) ?_ | refine wd_v rfl rfl (by kernel_rfl) rfl rfl rfl (ex_pick_f rfl rfl rfl) ?_
                          refine wd_nil (by decide) rfl ?_
                          refine qe_next ?_
                          refine w_cond_f rfl ?_
                          refine w_skip (qe_in_normal (qe_next ?_))
                          refine w_region ?_
                          refine sv rfl rfl rfl (ex_move rfl rfl) ?_
                          refine sv rfl rfl rfl (ex_add rfl rfl rfl (i64_in (by omega) (by omega))) ?_
                          refine sv rfl rfl rfl (ex_assign rfl rfl) ?_
                          refine w_nil (qe_round ((i + 1, tn + 1)) ⟨rfl, rfl, rfl, rfl, rfl, rfl, rfl, trivial⟩ ?_ ?_)
                          · refine ⟨by simp only; omega, .inr ⟨?_, i, by simp only; omega, htt⟩, Kz⟩
                            rcases htn with h | ⟨_, p9, hp9, ht9⟩
                            · simp only; omega
                            · rw [htt] at ht9; injection ht9 with ht9; omega
                          · simp only; omega
                      · skip
                        refine wd_v rfl rfl (by kernel_rfl) rfl rfl rfl (ex_move rfl rfl) ?_
                        refine wd_free 6 _ rfl rfl rfl rfl ?_
                        first | refine fsk [] rfl rfl rfl rfl rfl rfl rfl ?_ | refine fd [] rfl rfl rfl rfl rfl rfl rfl (fun w' E => ex_move rfl rfl) ?_
                        first | refine fsk [] rfl rfl rfl rfl rfl rfl rfl ?_ | refine fd [] rfl rfl rfl rfl rfl rfl rfl (fun w' E => ex_move rfl rfl) ?_
                        first | refine fsk [] rfl rfl rfl rfl rfl rfl rfl ?_ | refine fd [] rfl rfl rfl rfl rfl rfl rfl (fun w' E => ex_move rfl rfl) ?_
                        first | refine fsk [9, 10] rfl rfl rfl rfl rfl rfl rfl ?_ | refine fd [9, 10] rfl rfl rfl rfl rfl rfl rfl (fun w' E => ex_index Try.underlying33 sz22 (i) rfl rfl rfl (by first | rfl | omega) (by omega)) ?_
                        first | refine fsk [11] rfl rfl rfl rfl rfl rfl rfl ?_ | refine fd [11] rfl rfl rfl rfl rfl rfl rfl (fun w' E => ex_load (v := .slice s7.1 s7.2.1 s7.2.2) one22 rfl rfl ((Kz.ext E).cell trivial hc7)) ?_
                        first | refine fsk [12] rfl rfl rfl rfl rfl rfl rfl ?_ | refine fd [12] rfl rfl rfl rfl rfl rfl rfl (fun w' E => ex_len Try.underlying22 rfl rfl) ?_
                        refine .nil (fun w26 Ew26 _ => ?_)
                        replace Kz := Kz.ext Ew26
                        refine wd_skip rfl rfl (by kernel_rfl) rfl rfl rfl ?_
                        first | refine wd_v rfl rfl (by kernel_rfl) rfl rfl rfl (ex_pick_t rfl rfl rfl) ?_ | refine wd_v rfl rfl (by kernel_rfl) rfl rfl rfl (ex_pick_f rfl rfl rfl) ?_
                        refine wd_v rfl rfl (by kernel_rfl) rfl rfl rfl (ex_move rfl rfl) ?_
                        refine wd_free 14 _ rfl rfl rfl rfl ?_
                        first | refine fsk [] rfl rfl rfl rfl rfl rfl rfl ?_ | refine fd [] rfl rfl rfl rfl rfl rfl rfl (fun w' E => ex_move rfl rfl) ?_
                        first | refine fsk [] rfl rfl rfl rfl rfl rfl rfl ?_ | refine fd [] rfl rfl rfl rfl rfl rfl rfl (fun w' E => ex_move rfl rfl) ?_
                        first | refine fsk [17, 18] rfl rfl rfl rfl rfl rfl rfl ?_ | refine fd [17, 18] rfl rfl rfl rfl rfl rfl rfl (fun w' E => ex_index Try.underlying33 sz22 (i) rfl rfl rfl (by first | rfl | omega) (by omega)) ?_
                        first | refine fsk [19] rfl rfl rfl rfl rfl rfl rfl ?_ | refine fd [19] rfl rfl rfl rfl rfl rfl rfl (fun w' E => ex_load (v := .slice (some ⟨p7, q7, none⟩) s7.2.1 s7.2.2) one22 rfl rfl (by rw [← ha7]; exact (Kz.ext E).cell trivial hc7)) ?_
                        first | refine fsk [] rfl rfl rfl rfl rfl rfl rfl ?_ | refine fd [] rfl rfl rfl rfl rfl rfl rfl (fun w' E => ex_move rfl rfl) ?_
                        first | refine fsk [20, 21] rfl rfl rfl rfl rfl rfl rfl ?_ | refine fd [20, 21] rfl rfl rfl rfl rfl rfl rfl (fun w' E => ex_index Try.underlying22 sz5 (q) rfl rfl rfl (by first | rfl | omega) (by omega)) ?_
                        first | refine fsk [22] rfl rfl rfl rfl rfl rfl rfl ?_ | refine fd [22] rfl rfl rfl rfl rfl rfl rfl (fun w' E => ex_load one5 rfl rfl ((Kz.ext E).cell trivial hd7)) ?_
                        first | refine fsk [] rfl rfl rfl rfl rfl rfl rfl ?_ | refine fd [] rfl rfl rfl rfl rfl rfl rfl (fun w' E => ex_move rfl rfl) ?_
                        first | refine fsk [] rfl rfl rfl rfl rfl rfl rfl ?_ | refine fd [] rfl rfl rfl rfl rfl rfl rfl (fun w' E => ex_move rfl rfl) ?_
                        first | refine fsk [24, 25] rfl rfl rfl rfl rfl rfl rfl ?_ | refine fd [24, 25] rfl rfl rfl rfl rfl rfl rfl (fun w' E => ex_index Try.underlying33 sz22 (i) rfl rfl rfl (by first | rfl | omega) (by omega)) ?_
                        first | refine fsk [26] rfl rfl rfl rfl rfl rfl rfl ?_ | refine fd [26] rfl rfl rfl rfl rfl rfl rfl (fun w' E => ex_load (v := .slice (some ⟨p8, q8, none⟩) s8.2.1 s8.2.2) one22 rfl rfl (by rw [← ha8]; exact (Kz.ext E).cell trivial hc8)) ?_
                        first | refine fsk [] rfl rfl rfl rfl rfl rfl rfl ?_ | refine fd [] rfl rfl rfl rfl rfl rfl rfl (fun w' E => ex_move rfl rfl) ?_
                        first | refine fsk [27, 28] rfl rfl rfl rfl rfl rfl rfl ?_ | refine fd [27, 28] rfl rfl rfl rfl rfl rfl rfl (fun w' E => ex_index Try.underlying22 sz5 (q) rfl rfl rfl (by first | rfl | omega) (by omega)) ?_
                        first | refine fsk [29] rfl rfl rfl rfl rfl rfl rfl ?_ | refine fd [29] rfl rfl rfl rfl rfl rfl rfl (fun w' E => ex_load one5 rfl rfl ((Kz.ext E).cell trivial hd8)) ?_
                        refine .nil (fun w27 Ew27 _ => ?_)
                        replace Kz := Kz.ext Ew27
                        refine wd_skip rfl rfl (by kernel_rfl) rfl rfl rfl ?_
                        first | refine wd_v rfl rfl (by kernel_rfl) rfl rfl rfl (ex_pick_t rfl rfl rfl) ?_ | refine wd_v rfl rfl (by kernel_rfl) rfl rfl rfl (ex_pick_f rfl rfl rfl) ?_
                        refine wd_nil (by decide) rfl ?_
                        refine qe_next ?_
                        refine w_cond_f rfl ?_
                        refine w_exit (qe_then_exit (qe_then_exit (qe_in_exit (qe_next ?_))))
                        refine w_seq ?_
                        have hds := tear_same hl3n hl1n hmm hyy hq hpre (fun h => by omega)
                        refine w_draw mixed (fun w28 _ Ew28 => ?_)
                        replace Kz := Kz.ext Ew28
                        refine wd_free 6 _ rfl rfl rfl rfl ?_
                        refine fd [] rfl rfl rfl rfl rfl rfl rfl (fun w' E => ex_move rfl rfl) ?_
                        refine fd [] rfl rfl rfl rfl rfl rfl rfl (fun w' E => ex_move rfl rfl) ?_
                        refine fd [0, 1] rfl rfl rfl rfl rfl rfl rfl (fun w' E => ex_index Try.underlying33 sz22 (i) rfl rfl rfl (by first | rfl | omega) (by omega)) ?_
                        refine fd [2] rfl rfl rfl rfl rfl rfl rfl (fun w' E => ex_load (v := .slice s8.1 s8.2.1 s8.2.2) one22 rfl rfl ((Kz.ext E).cell trivial hc8)) ?_
                        refine fd [3] rfl rfl rfl rfl rfl rfl rfl (fun w' E => ex_len Try.underlying22 rfl rfl) ?_
                        refine fd [] rfl rfl rfl rfl rfl rfl rfl (fun w' E => ex_move rfl rfl) ?_
                        refine .nil (fun w29 Ew29 _ => ?_)
                        replace Kz := Kz.ext Ew29
                        refine wd_v rfl rfl (by kernel_rfl) rfl rfl rfl (ex_cmp rfl rfl rfl (congrArg some (decide_eq_false (by omega)))) ?_
                        refine wd_v rfl rfl (by kernel_rfl) rfl rfl rfl (ex_move rfl rfl) ?_
                        refine wd_free 6 _ rfl rfl rfl rfl ?_
                        first | refine fsk [] rfl rfl rfl rfl rfl rfl rfl ?_ | refine fd [] rfl rfl rfl rfl rfl rfl rfl (fun w' E => ex_move rfl rfl) ?_
                        first | refine fsk [] rfl rfl rfl rfl rfl rfl rfl ?_ | refine fd [] rfl rfl rfl rfl rfl rfl rfl (fun w' E => ex_move rfl rfl) ?_
                        first | refine fsk [8, 9] rfl rfl rfl rfl rfl rfl rfl ?_ | refine fd [8, 9] rfl rfl rfl rfl rfl rfl rfl (fun w' E => ex_index Try.underlying33 sz22 (i) rfl rfl rfl (by first | rfl | omega) (by omega)) ?_
                        first | refine fsk [10] rfl rfl rfl rfl rfl rfl rfl ?_ | refine fd [10] rfl rfl rfl rfl rfl rfl rfl (fun w' E => ex_load (v := .slice s7.1 s7.2.1 s7.2.2) one22 rfl rfl ((Kz.ext E).cell trivial hc7)) ?_
                        first | refine fsk [11] rfl rfl rfl rfl rfl rfl rfl ?_ | refine fd [11] rfl rfl rfl rfl rfl rfl rfl (fun w' E => ex_len Try.underlying22 rfl rfl) ?_
                        first | refine fsk [] rfl rfl rfl rfl rfl rfl rfl ?_ | refine fd [] rfl rfl rfl rfl rfl rfl rfl (fun w' E => ex_move rfl rfl) ?_
                        refine .nil (fun w30 Ew30 _ => ?_)
                        replace Kz := Kz.ext Ew30
                        first | refine wd_skip rfl rfl (by kernel_rfl) rfl rfl rfl ?_ | refine wd_v rfl rfl (by kernel_rfl) rfl rfl rfl (ex_cmp rfl rfl rfl (congrArg some (decide_eq_false (by omega)))) ?_
                        first | refine wd_v rfl rfl (by kernel_rfl) rfl rfl rfl (ex_pick_t rfl rfl rfl) ?_ | refine wd_v rfl rfl (by kernel_rfl) rfl rfl rfl (ex_pick_f rfl rfl rfl) ?_
                        refine wd_v rfl rfl (by kernel_rfl) rfl rfl rfl (ex_move rfl rfl) ?_
                        refine wd_free 12 _ rfl rfl rfl rfl ?_
                        first | refine fsk [] rfl rfl rfl rfl rfl rfl rfl ?_ | refine fd [] rfl rfl rfl rfl rfl rfl rfl (fun w' E => ex_move rfl rfl) ?_
                        first | refine fsk [] rfl rfl rfl rfl rfl rfl rfl ?_ | refine fd [] rfl rfl rfl rfl rfl rfl rfl (fun w' E => ex_move rfl rfl) ?_
                        first | refine fsk [17, 18] rfl rfl rfl rfl rfl rfl rfl ?_ | refine fd [17, 18] rfl rfl rfl rfl rfl rfl rfl (fun w' E => ex_index Try.underlying33 sz22 (i) rfl rfl rfl (by first | rfl | omega) (by omega)) ?_
                        first | refine fsk [19] rfl rfl rfl rfl rfl rfl rfl ?_ | refine fd [19] rfl rfl rfl rfl rfl rfl rfl (fun w' E => ex_load (v := .slice s7.1 s7.2.1 s7.2.2) one22 rfl rfl ((Kz.ext E).cell trivial hc7)) ?_
                        first | refine fsk [] rfl rfl rfl rfl rfl rfl rfl ?_ | refine fd [] rfl rfl rfl rfl rfl rfl rfl (fun w' E => ex_move rfl rfl) ?_
                        first | refine fsk [20, 21] rfl rfl rfl rfl rfl rfl rfl ?_ | refine fd [20, 21] rfl rfl rfl rfl rfl rfl rfl (fun w' E => ex_slice Try.underlying22 sz5 q s7.2.1 rfl rfl (.inr ⟨_, _, _, rfl, rfl, rfl⟩) (.inl ⟨rfl, rfl⟩) (by omega) ho7.le) ?_
                        first | refine fsk [] rfl rfl rfl rfl rfl rfl rfl ?_ | refine fd [] rfl rfl rfl rfl rfl rfl rfl (fun w' E => ex_move rfl rfl) ?_
                        first | refine fsk [] rfl rfl rfl rfl rfl rfl rfl ?_ | refine fd [] rfl rfl rfl rfl rfl rfl rfl (fun w' E => ex_move rfl rfl) ?_
                        first | refine fsk [23, 24] rfl rfl rfl rfl rfl rfl rfl ?_ | refine fd [23, 24] rfl rfl rfl rfl rfl rfl rfl (fun w' E => ex_index Try.underlying33 sz22 (i) rfl rfl rfl (by first | rfl | omega) (by omega)) ?_
                        first | refine fsk [25] rfl rfl rfl rfl rfl rfl rfl ?_ | refine fd [25] rfl rfl rfl rfl rfl rfl rfl (fun w' E => ex_load (v := .slice s6.1 s6.2.1 s6.2.2) one22 rfl rfl ((Kz.ext E).cell trivial hc6)) ?_
                        first | refine fsk [] rfl rfl rfl rfl rfl rfl rfl ?_ | refine fd [] rfl rfl rfl rfl rfl rfl rfl (fun w' E => ex_move rfl rfl) ?_
                        first | refine fsk [26, 27] rfl rfl rfl rfl rfl rfl rfl ?_ | refine fd [26, 27] rfl rfl rfl rfl rfl rfl rfl (fun w' E => ex_slice Try.underlying22 sz5 q s6.2.1 rfl rfl (.inr ⟨_, _, _, rfl, rfl, rfl⟩) (.inl ⟨rfl, rfl⟩) (by omega) ho6.le) ?_
                        refine .nil (fun w31 Ew31 _ => ?_)
                        replace Kz := Kz.ext Ew31
                        have hk7 := (ho7.rd.ext Kz).cut (l := q) (hh := s7.2.1) (m := s7.2.2) (by omega) (Nat.le_refl _) ho7.le
                        rw [show List.take ((s7.2.1 - q) * 1) (List.drop (q * 1) (bcells y7)) = bcells (y7.drop q) from by rw [Nat.mul_one, Nat.mul_one, List.take_of_length_le (by rw [List.length_drop, bcells_length]; omega)]; simp [bcells]] at hk7
                        have hk6 := (ho6.rd.ext Kz).cut (l := q) (hh := s6.2.1) (m := s6.2.2) (by omega) (Nat.le_refl _) ho6.le
                        rw [show List.take ((s6.2.1 - q) * 1) (List.drop (q * 1) (bcells y6)) = bcells (y6.drop q) from by rw [Nat.mul_one, Nat.mul_one, List.take_of_length_le (by rw [List.length_drop, bcells_length]; omega)]; simp [bcells]] at hk6
                        refine wd_one rfl rfl (by kernel_rfl) rfl rfl rfl (ex_call call15 rfl rfl (same_t _ _ _ _ _ _ _ _ _ _ (y7.drop q) (y6.drop q) _ (by rw [List.length_drop]; omega) (by rw [List.length_drop]; omega) hk7 hk6 hds)) ?_
                        rintro _ w32 ⟨rfl, hwe⟩
                        obtain rfl := hwe.symm
                        first | refine wd_skip rfl rfl (by kernel_rfl) rfl rfl rfl ?_ | refine wd_v rfl rfl (by kernel_rfl) rfl rfl rfl (ex_not rfl rfl) ?_
                        first | refine wd_v rfl rfl (by kernel_rfl) rfl rfl rfl (ex_pick_t rfl rfl rfl) ?_ | refine wd_v rfl rfl (by kernel_rfl) rfl rfl rfl (ex_pick_f rfl rfl rfl) ?_
                        refine wd_nil (by decide) rfl ?_
                        refine qe_next ?_
                        refine w_cond_f rfl ?_
                        refine w_skip (qe_in_normal (qe_next ?_))
                        refine w_region ?_
                        refine sv rfl rfl rfl (ex_move rfl rfl) ?_
                        refine sv rfl rfl rfl (ex_add rfl rfl rfl (i64_in (by omega) (by omega))) ?_
                        refine sv rfl rfl rfl (ex_assign rfl rfl) ?_
                        refine w_nil (qe_round ((i + 1, tn + 1)) ⟨rfl, rfl, rfl, rfl, rfl, rfl, rfl, trivial⟩ ?_ ?_)
                        · refine ⟨by simp only; omega, .inr ⟨?_, i, by simp only; omega, htt⟩, Kz⟩
                          rcases htn with h | ⟨_, p9, hp9, ht9⟩
                          · simp only; omega
                          · rw [htt] at ht9; injection ht9 with ht9; omega
                        · simp only; omega
                  · skip
                    first | refine wd_v rfl rfl (by kernel_rfl) rfl rfl rfl (ex_pick_t rfl rfl rfl) ?_ | refine wd_v rfl rfl (by kernel_rfl) rfl rfl rfl (ex_pick_f rfl rfl rfl) ?_
                    refine wd_nil (by decide) rfl ?_
                    refine qe_next ?_
                    refine w_cond_t rfl ?_
                    refine w_exit (qe_then_exit (qe_in_exit (qe_next ?_)))
                    refine w_region ?_
                    refine sv rfl rfl rfl (ex_move rfl rfl) ?_
                    refine sv rfl rfl rfl (ex_add rfl rfl rfl (i64_in (by omega) (by omega))) ?_
                    refine sv rfl rfl rfl (ex_assign rfl rfl) ?_
                    refine w_nil (qe_round ((i + 1, tn)) ⟨rfl, rfl, rfl, rfl, rfl, rfl, rfl, trivial⟩ ?_ ?_)
                    · exact ⟨by simp only; omega, htn.imp id (fun h => ⟨h.1, h.2.imp fun p hp => ⟨by simp only; omega, hp.2⟩⟩), Kz⟩
                    · simp only; omega
                · skip
                  refine wd_v rfl rfl (by kernel_rfl) rfl rfl rfl (ex_move rfl rfl) ?_
                  refine wd_free 8 _ rfl rfl rfl rfl ?_
                  first | refine fsk [] rfl rfl rfl rfl rfl rfl rfl ?_ | refine fd [] rfl rfl rfl rfl rfl rfl rfl (fun w' E => ex_move rfl rfl) ?_
                  first | refine fsk [] rfl rfl rfl rfl rfl rfl rfl ?_ | refine fd [] rfl rfl rfl rfl rfl rfl rfl (fun w' E => ex_move rfl rfl) ?_
                  first | refine fsk [10, 11] rfl rfl rfl rfl rfl rfl rfl ?_ | refine fd [10, 11] rfl rfl rfl rfl rfl rfl rfl (fun w' E => ex_index Try.underlying33 sz22 (i) rfl rfl rfl (by first | rfl | omega) (by omega)) ?_
                  first | refine fsk [12] rfl rfl rfl rfl rfl rfl rfl ?_ | refine fd [12] rfl rfl rfl rfl rfl rfl rfl (fun w' E => ex_load (v := .slice s7.1 s7.2.1 s7.2.2) one22 rfl rfl ((Kz.ext E).cell trivial hc7)) ?_
                  first | refine fsk [] rfl rfl rfl rfl rfl rfl rfl ?_ | refine fd [] rfl rfl rfl rfl rfl rfl rfl (fun w' E => ex_move rfl rfl) ?_
                  first | refine fsk [] rfl rfl rfl rfl rfl rfl rfl ?_ | refine fd [] rfl rfl rfl rfl rfl rfl rfl (fun w' E => ex_move rfl rfl) ?_
                  first | refine fsk [14, 15] rfl rfl rfl rfl rfl rfl rfl ?_ | refine fd [14, 15] rfl rfl rfl rfl rfl rfl rfl (fun w' E => ex_index Try.underlying33 sz22 (i) rfl rfl rfl (by first | rfl | omega) (by omega)) ?_
                  first | refine fsk [16] rfl rfl rfl rfl rfl rfl rfl ?_ | refine fd [16] rfl rfl rfl rfl rfl rfl rfl (fun w' E => ex_load (v := .slice s8.1 s8.2.1 s8.2.2) one22 rfl rfl ((Kz.ext E).cell trivial hc8)) ?_
                  refine .nil (fun w33 Ew33 _ => ?_)
                  replace Kz := Kz.ext Ew33
                  refine wd_skip rfl rfl (by kernel_rfl) rfl rfl rfl ?_
                  first | refine wd_v rfl rfl (by kernel_rfl) rfl rfl rfl (ex_pick_t rfl rfl rfl) ?_ | refine wd_v rfl rfl (by kernel_rfl) rfl rfl rfl (ex_pick_f rfl rfl rfl) ?_
                  refine wd_nil (by decide) rfl ?_
                  refine qe_next ?_
                  refine w_cond_t rfl ?_
                  refine w_exit (qe_then_exit (qe_in_exit (qe_next ?_)))
                  refine w_region ?_
                  refine sv rfl rfl rfl (ex_move rfl rfl) ?_
                  refine sv rfl rfl rfl (ex_add rfl rfl rfl (i64_in (by omega) (by omega))) ?_
                  refine sv rfl rfl rfl (ex_assign rfl rfl) ?_
                  refine w_nil (qe_round ((i + 1, tn)) ⟨rfl, rfl, rfl, rfl, rfl, rfl, rfl, trivial⟩ ?_ ?_)
                  · exact ⟨by simp only; omega, htn.imp id (fun h => ⟨h.1, h.2.imp fun p hp => ⟨by simp only; omega, hp.2⟩⟩), Kz⟩
                  · simp only; omega
              · skip
                refine w_exit (qe_then_exit (qe_then_exit (qe_in_exit (qe_next ?_))))
                refine w_seq ?_
                refine w_region ?_
                refine sv rfl rfl rfl (ex_move rfl rfl) ?_
                refine sv rfl rfl rfl (ex_cmp rfl rfl rfl rfl) ?_
                refine sv rfl rfl rfl (ex_assign rfl rfl) ?_
                refine w_nil (qe_next ?_)
                refine w_ret (qe_ret1 rfl rfl ?_)
                exact ⟨by rw [decide_eq_true (by first | omega | (simp only; omega))], KzW.ext Kz⟩
        · skip
          refine sv rfl rfl rfl (ex_move rfl rfl) ?_
          first | refine sk rfl rfl rfl ?_ | refine sv rfl rfl rfl (ex_move rfl rfl) ?_
          first | refine sk rfl rfl rfl ?_ | refine sv rfl rfl rfl (ex_move rfl rfl) ?_
          first | refine sk rfl rfl rfl ?_ | refine sv rfl rfl rfl (ex_len Try.underlying33 rfl rfl) ?_
          refine sk rfl rfl rfl ?_
          first | refine sv rfl rfl rfl (ex_pick_t rfl rfl rfl) ?_ | refine sv rfl rfl rfl (ex_pick_f rfl rfl rfl) ?_
          refine w_nil (qe_next ?_)
          refine w_cond_f rfl ?_
          refine w_exit (qe_then_exit (qe_then_exit (qe_in_exit (qe_next ?_))))
          refine w_seq ?_
          have hdls : s.du.length = k := by rw [hWr.du]; exact hdl1
          have hpl9 := hWr.pl
          have hcl : (s.crash kb z).du.length = k := by
            have := (crashG_ok (n := s.n) kb (tornN z s.n) s.pd 0 true s.du hD.wf.du (fun p hp => Nat.le_of_eq (hD.wf.pd p hp).2)).2
            exact this.trans hdls
          obtain ⟨t, hlaw⟩ := tear_law hWr hD.wf hdls kb z
          have hwd1 := hD.wf.du
          rw [hWr.du, hWr.sn] at hwd1
          refine w_region ?_
          refine sv rfl rfl rfl (ex_move rfl rfl) ?_
          refine sv rfl rfl rfl (ex_move rfl rfl) ?_
          refine sv rfl rfl rfl (ex_move rfl rfl) ?_
          refine st rfl rfl rfl (ex_call call27 rfl rfl (crash_e kb z Ak kb.length ck 0 hi (s.crash kb z) F kd s _ hD rfl (hrk.ext K0) (fun g q e hq hg => by
            obtain ⟨b, o2, e2, _, h, _⟩ := hrk.addr hq
            rw [e] at e2
            injection e2 with e2
            injection e2 with e2
            have := hFn g hg
            omega) (by omega) hkq rfl)) ?_
          rintro _ w34 ⟨F2, rfl, hD2, hG2, _, K2⟩
          replace hI := hI.keep K2 (fun j h1 h2 hF => by have := hFz j hF; omega)
          replace hW := hW.keep K2 (fun g o e hF => by injection e with e; injection e with e; subst e; have := hFz _ hF; omega)
          replace hB := hB.keep K2 (fun j hj hF => by have := hFn j hF; omega)
          replace K0 := K0.trans K2 (fun j hj _ hF => by have := hFn j hF; omega)
          have hwd2 := hD2.wf.du
          rw [show (s.crash kb z).n = n from hWr.sn] at hwd2
          obtain ⟨s2, hs2⟩ : ∃ s2, s2 = s.crash kb z := ⟨_, rfl⟩
          rw [← hs2] at hD2 hlaw hcl hwd2
          clear hs2
          refine w_nil (qe_next ?_)
          refine w_seq ?_
          refine w_region ?_
          refine sv rfl rfl rfl (ex_move rfl rfl) ?_
          refine st rfl rfl rfl (ex_call call17 rfl rfl (image_c F2 kd s2 _ hD2)) ?_
          rintro _ w35 ⟨gj, sl2, rfl, hi2, hso2, E4⟩
          replace hI := hI.ext E4
          replace hW := hW.ext E4
          replace hB := hB.ext E4
          replace K0 := K0.ext E4
          refine sv rfl rfl rfl (ex_assign rfl rfl) ?_
          refine w_nil (qe_next ?_)
          refine w_seq ?_
          refine w_seq ?_
          refine w_region ?_
          refine sv rfl rfl rfl (ex_move rfl rfl) ?_
          refine sv rfl rfl rfl (ex_len Try.underlying33 rfl rfl) ?_
          refine sv rfl rfl rfl (ex_move rfl rfl) ?_
          refine sv rfl rfl rfl (ex_cmp rfl rfl rfl (congrArg some (decide_eq_false (by omega)))) ?_
          refine sv rfl rfl rfl (ex_move rfl rfl) ?_
          first | refine sk rfl rfl rfl ?_ | refine sv rfl rfl rfl (ex_move rfl rfl) ?_
          first | refine sk rfl rfl rfl ?_ | refine sv rfl rfl rfl (ex_len Try.underlying33 rfl rfl) ?_
          first | refine sk rfl rfl rfl ?_ | refine sv rfl rfl rfl (ex_move rfl rfl) ?_
          first | refine sk rfl rfl rfl ?_ | refine sv rfl rfl rfl (ex_cmp rfl rfl rfl (congrArg some (decide_eq_false (by omega)))) ?_
          first | refine sv rfl rfl rfl (ex_pick_t rfl rfl rfl) ?_ | refine sv rfl rfl rfl (ex_pick_f rfl rfl rfl) ?_
          refine w_nil (qe_next ?_)
          refine w_cond_f rfl ?_
          refine w_skip (qe_next ?_)
          refine w_seq ?_
          obtain ⟨wz, Kz, KzW, hA, hAo, hI, hW, hB⟩ : ∃ wz, Ext wz _ ∧ Ext w wz ∧ Own wz _ 22 1 (some ⟨gj, 0, none⟩) s2.du.length s2.du.length (sl2.map slv) ∧ Owns wz _ sl2 s2.du ∧ Img wz m1 mi gi s1.du.length sl1 s1.du ∧ Own wz m1 22 1 (some ⟨gw, 0, none⟩) k k (wsl.map slv) ∧ RdB wz hi wsl wy := ⟨_, Keep.refl _ _, K0, hi2, hso2, hI, hW, hB⟩
          refine w_region ?_
          refine sv rfl rfl rfl (ex_assign rfl rfl) ?_
          refine w_nil (qe_next ?_)
          refine w_seq ?_
          refine w_seq ?_
          refine w_region ?_
          refine sv rfl rfl rfl (ex_assign rfl rfl) ?_
          refine w_nil (qe_next ?_)
          refine w_block ?_
          refine w_loop (ι := Nat × Nat) (fun i => [(0, .int .i64 (k : Int)), (1, .int .i64 (n : Int)), (18, .slice (some ⟨gi, 0, none⟩) s1.du.length s1.du.length), (19, .slice (some ⟨gw, 0, none⟩) k k), (22, .slice (some ⟨gj, 0, none⟩) s2.du.length s2.du.length), (23, .int .i64 (i.2 : Int)), (24, .int .i64 (i.1 : Int))]) (fun i wL => i.1 ≤ k ∧ (i.2 = 0 ∨ (i.2 = 1 ∧ ∃ p, p < i.1 ∧ t = some p)) ∧ Ext wz wL) (fun i => k - i.1) ((0, 0)) ⟨rfl, rfl, rfl, rfl, rfl, rfl, rfl, trivial⟩ ?_ ?_
          · exact ⟨Nat.zero_le _, .inl rfl, Kz⟩
          · clear Kz
            rintro ⟨i, tn⟩ wL ⟨hi1, htn, Kz⟩
            simp only at hi1 htn
            have htn2 : tn ≤ 1 := by omega
            refine w_seq ?_
            refine w_seq ?_
            refine w_region ?_
            refine sv rfl rfl rfl (ex_move rfl rfl) ?_
            refine sv rfl rfl rfl (ex_move rfl rfl) ?_
            refine sv rfl rfl rfl (ex_cmp rfl rfl rfl rfl) ?_
            refine w_nil (qe_next ?_)
            refine w_if rfl (fun hk4 => ?_) (fun hk4 => ?_)
            · skip
              replace hk4 : i < k := by first | omega | (simp only at hk4; omega)
              obtain ⟨b6, o6, u6, he6, _, _, hu6, hc6⟩ := hI.own.rd.at_ (k := i) (by omega)
              cases he6
              rw [List.getElem?_map] at hu6
              obtain ⟨s6, hs6, rfl⟩ := Option.map_eq_some_iff.1 hu6
              obtain ⟨y6, hy6, hl6, ho6⟩ := hI.dat.get hs6
              obtain ⟨b7, o7, u7, he7, _, _, hu7, hc7⟩ := hA.rd.at_ (k := i) (by omega)
              cases he7
              rw [List.getElem?_map] at hu7
              obtain ⟨s7, hs7, rfl⟩ := Option.map_eq_some_iff.1 hu7
              obtain ⟨y7, hy7, hl7, ho7⟩ := hAo.get hs7
              obtain ⟨b8, o8, u8, he8, _, _, hu8, hc8⟩ := hW.rd.at_ (k := i) (by omega)
              cases he8
              rw [List.getElem?_map] at hu8
              obtain ⟨s8, hs8, rfl⟩ := Option.map_eq_some_iff.1 hu8
              obtain ⟨y8, hy8, hl8, ho8⟩ := hB.get hs8
              have hyl1 := hwd1 _ (List.mem_of_getElem? hy6)
              have hyl2 := hwd2 _ (List.mem_of_getElem? hy7)
              refine w_skip (qe_next ?_)
              refine w_seq ?_
              refine w_block ?_
              refine w_seq ?_
              refine w_seq ?_
              refine w_draw mixed (fun w36 _ Ew36 => ?_)
              replace Kz := Kz.ext Ew36
              refine wd_free 8 _ rfl rfl rfl rfl ?_
              refine fd [] rfl rfl rfl rfl rfl rfl rfl (fun w' E => ex_move rfl rfl) ?_
              refine fd [] rfl rfl rfl rfl rfl rfl rfl (fun w' E => ex_move rfl rfl) ?_
              refine fd [0, 1] rfl rfl rfl rfl rfl rfl rfl (fun w' E => ex_index Try.underlying33 sz22 (i) rfl rfl rfl (by first | rfl | omega) (by omega)) ?_
              refine fd [2] rfl rfl rfl rfl rfl rfl rfl (fun w' E => ex_load (v := .slice s7.1 s7.2.1 s7.2.2) one22 rfl rfl ((Kz.ext E).cell trivial hc7)) ?_
              refine fd [] rfl rfl rfl rfl rfl rfl rfl (fun w' E => ex_move rfl rfl) ?_
              refine fd [] rfl rfl rfl rfl rfl rfl rfl (fun w' E => ex_move rfl rfl) ?_
              refine fd [4, 5] rfl rfl rfl rfl rfl rfl rfl (fun w' E => ex_index Try.underlying33 sz22 (i) rfl rfl rfl (by first | rfl | omega) (by omega)) ?_
              refine fd [6] rfl rfl rfl rfl rfl rfl rfl (fun w' E => ex_load (v := .slice s6.1 s6.2.1 s6.2.2) one22 rfl rfl ((Kz.ext E).cell trivial hc6)) ?_
              refine .nil (fun w37 Ew37 _ => ?_)
              replace Kz := Kz.ext Ew37
              refine wd_one rfl rfl (by kernel_rfl) rfl rfl rfl (ex_call call15 rfl rfl (same_c _ _ _ _ _ _ _ _ _ _ y7 y6 _ hl7 hl6 (ho7.rd.ext Kz) (ho6.rd.ext Kz))) ?_
              rintro _ w38 ⟨rfl, hwe⟩
              obtain rfl := hwe.symm
              cases hq1 : decide (y7 = y6)
              · skip
                refine wd_v rfl rfl (by kernel_rfl) rfl rfl rfl (ex_move rfl rfl) ?_
                refine wd_free 8 _ rfl rfl rfl rfl ?_
                first | refine fsk [] rfl rfl rfl rfl rfl rfl rfl ?_ | refine fd [] rfl rfl rfl rfl rfl rfl rfl (fun w' E => ex_move rfl rfl) ?_
                first | refine fsk [] rfl rfl rfl rfl rfl rfl rfl ?_ | refine fd [] rfl rfl rfl rfl rfl rfl rfl (fun w' E => ex_move rfl rfl) ?_
                first | refine fsk [10, 11] rfl rfl rfl rfl rfl rfl rfl ?_ | refine fd [10, 11] rfl rfl rfl rfl rfl rfl rfl (fun w' E => ex_index Try.underlying33 sz22 (i) rfl rfl rfl (by first | rfl | omega) (by omega)) ?_
                first | refine fsk [12] rfl rfl rfl rfl rfl rfl rfl ?_ | refine fd [12] rfl rfl rfl rfl rfl rfl rfl (fun w' E => ex_load (v := .slice s7.1 s7.2.1 s7.2.2) one22 rfl rfl ((Kz.ext E).cell trivial hc7)) ?_
                first | refine fsk [] rfl rfl rfl rfl rfl rfl rfl ?_ | refine fd [] rfl rfl rfl rfl rfl rfl rfl (fun w' E => ex_move rfl rfl) ?_
                first | refine fsk [] rfl rfl rfl rfl rfl rfl rfl ?_ | refine fd [] rfl rfl rfl rfl rfl rfl rfl (fun w' E => ex_move rfl rfl) ?_
                first | refine fsk [14, 15] rfl rfl rfl rfl rfl rfl rfl ?_ | refine fd [14, 15] rfl rfl rfl rfl rfl rfl rfl (fun w' E => ex_index Try.underlying33 sz22 (i) rfl rfl rfl (by first | rfl | omega) (by omega)) ?_
                first | refine fsk [16] rfl rfl rfl rfl rfl rfl rfl ?_ | refine fd [16] rfl rfl rfl rfl rfl rfl rfl (fun w' E => ex_load (v := .slice s8.1 s8.2.1 s8.2.2) one22 rfl rfl ((Kz.ext E).cell trivial hc8)) ?_
                refine .nil (fun w39 Ew39 _ => ?_)
                replace Kz := Kz.ext Ew39
                refine wd_one rfl rfl (by kernel_rfl) rfl rfl rfl (ex_call call15 rfl rfl (same_c _ _ _ _ _ _ _ _ _ _ y7 y8 _ hl7 hl8 (ho7.rd.ext Kz) (ho8.ext Kz))) ?_
                rintro _ w40 ⟨rfl, hwe⟩
                obtain rfl := hwe.symm
                cases hq2 : decide (y7 = y8)
                · skip
                  first | refine wd_v rfl rfl (by kernel_rfl) rfl rfl rfl (ex_pick_t rfl rfl rfl) ?_ | refine wd_v rfl rfl (by kernel_rfl) rfl rfl rfl (ex_pick_f rfl rfl rfl) ?_
                  refine wd_nil (by decide) rfl ?_
                  refine qe_next ?_
                  refine w_cond_f rfl ?_
                  refine w_skip (qe_next ?_)
                  refine w_seq ?_
                  obtain ⟨htt, hl3n, hl1n, hl2n, mm, hmm, hyy⟩ := hlaw i y6 y7 y8 hy6 hy7 hy8 (of_decide_eq_false hq1) (of_decide_eq_false hq2)
                  refine w_region ?_
                  refine sv rfl rfl rfl (ex_move rfl rfl) ?_
                  refine sv rfl rfl rfl (ex_add rfl rfl rfl (i64_in (by omega) (by omega))) ?_
                  refine sv rfl rfl rfl (ex_assign rfl rfl) ?_
                  refine w_nil (qe_next ?_)
                  refine w_seq ?_
                  refine w_region ?_
                  refine sv rfl rfl rfl (ex_assign rfl rfl) ?_
                  refine w_nil (qe_next ?_)
                  refine w_seq ?_
                  refine w_block ?_
                  refine w_loop (ι := Nat) (fun q => [(0, .int .i64 (k : Int)), (1, .int .i64 (n : Int)), (18, .slice (some ⟨gi, 0, none⟩) s1.du.length s1.du.length), (19, .slice (some ⟨gw, 0, none⟩) k k), (22, .slice (some ⟨gj, 0, none⟩) s2.du.length s2.du.length), (23, .int .i64 ((tn : Int) + 1)), (24, .int .i64 (i : Int)), (25, .int .i64 (q : Int))]) (fun q wL => q ≤ n ∧ (∀ j, j < q → y7[j]? = y8[j]?) ∧ Ext wz wL) (fun q => n - q) (0) ⟨rfl, rfl, rfl, rfl, rfl, rfl, rfl, rfl, trivial⟩ ?_ ?_
                  · exact ⟨Nat.zero_le _, fun j hj => by omega, Kz⟩
                  · clear Kz
                    rintro q wL ⟨hq, hpre, Kz⟩
                    refine w_seq ?_
                    refine w_seq ?_
                    refine w_draw mixed (fun w41 _ Ew41 => ?_)
                    replace Kz := Kz.ext Ew41
                    refine wd_free 6 _ rfl rfl rfl rfl ?_
                    refine fd [] rfl rfl rfl rfl rfl rfl rfl (fun w' E => ex_move rfl rfl) ?_
                    refine fd [] rfl rfl rfl rfl rfl rfl rfl (fun w' E => ex_move rfl rfl) ?_
                    refine fd [] rfl rfl rfl rfl rfl rfl rfl (fun w' E => ex_move rfl rfl) ?_
                    refine fd [1, 2] rfl rfl rfl rfl rfl rfl rfl (fun w' E => ex_index Try.underlying33 sz22 (i) rfl rfl rfl (by first | rfl | omega) (by omega)) ?_
                    refine fd [3] rfl rfl rfl rfl rfl rfl rfl (fun w' E => ex_load (v := .slice s8.1 s8.2.1 s8.2.2) one22 rfl rfl ((Kz.ext E).cell trivial hc8)) ?_
                    refine fd [4] rfl rfl rfl rfl rfl rfl rfl (fun w' E => ex_len Try.underlying22 rfl rfl) ?_
                    refine .nil (fun w42 Ew42 _ => ?_)
                    replace Kz := Kz.ext Ew42
                    refine wd_if rfl rfl (by kernel_rfl) rfl rfl rfl (ex_cmp rfl rfl rfl rfl) (fun c1 => ?_) (fun c1 => ?_)
                    · skip
                      replace c1 : q < n := by omega
                      obtain ⟨p7, q7, v7, ha7, _, _, hv7, hd7⟩ := ho7.rd.at_ (k := q) (by omega)
                      rw [bcells_get] at hv7
                      obtain ⟨x7, hx7, rfl⟩ := Option.map_eq_some_iff.1 hv7
                      obtain ⟨p8, q8, v8, ha8, _, _, hv8, hd8⟩ := ho8.at_ (k := q) (by omega)
                      rw [bcells_get] at hv8
                      obtain ⟨x8, hx8, rfl⟩ := Option.map_eq_some_iff.1 hv8
                      refine wd_v rfl rfl (by kernel_rfl) rfl rfl rfl (ex_move rfl rfl) ?_
                      refine wd_free 6 _ rfl rfl rfl rfl ?_
                      first | refine fsk [] rfl rfl rfl rfl rfl rfl rfl ?_ | refine fd [] rfl rfl rfl rfl rfl rfl rfl (fun w' E => ex_move rfl rfl) ?_
                      first | refine fsk [] rfl rfl rfl rfl rfl rfl rfl ?_ | refine fd [] rfl rfl rfl rfl rfl rfl rfl (fun w' E => ex_move rfl rfl) ?_
                      first | refine fsk [] rfl rfl rfl rfl rfl rfl rfl ?_ | refine fd [] rfl rfl rfl rfl rfl rfl rfl (fun w' E => ex_move rfl rfl) ?_
                      first | refine fsk [9, 10] rfl rfl rfl rfl rfl rfl rfl ?_ | refine fd [9, 10] rfl rfl rfl rfl rfl rfl rfl (fun w' E => ex_index Try.underlying33 sz22 (i) rfl rfl rfl (by first | rfl | omega) (by omega)) ?_
                      first | refine fsk [11] rfl rfl rfl rfl rfl rfl rfl ?_ | refine fd [11] rfl rfl rfl rfl rfl rfl rfl (fun w' E => ex_load (v := .slice s7.1 s7.2.1 s7.2.2) one22 rfl rfl ((Kz.ext E).cell trivial hc7)) ?_
                      first | refine fsk [12] rfl rfl rfl rfl rfl rfl rfl ?_ | refine fd [12] rfl rfl rfl rfl rfl rfl rfl (fun w' E => ex_len Try.underlying22 rfl rfl) ?_
                      refine .nil (fun w43 Ew43 _ => ?_)
                      replace Kz := Kz.ext Ew43
                      first | refine wd_skip rfl rfl (by kernel_rfl) rfl rfl rfl ?_ | refine wd_v rfl rfl (by kernel_rfl) rfl rfl rfl (ex_cmp rfl rfl rfl (congrArg some (decide_eq_true (by omega)))) ?_
                      first | refine wd_v rfl rfl (by kernel_rfl) rfl rfl rfl (ex_pick_t rfl rfl rfl) ?_ | refine wd_v rfl rfl (by kernel_rfl) rfl rfl rfl (ex_pick_f rfl rfl rfl) ?_
                      refine wd_v rfl rfl (by kernel_rfl) rfl rfl rfl (ex_move rfl rfl) ?_
                      refine wd_free 14 _ rfl rfl rfl rfl ?_
                      first | refine fsk [] rfl rfl rfl rfl rfl rfl rfl ?_ | refine fd [] rfl rfl rfl rfl rfl rfl rfl (fun w' E => ex_move rfl rfl) ?_
                      first | refine fsk [] rfl rfl rfl rfl rfl rfl rfl ?_ | refine fd [] rfl rfl rfl rfl rfl rfl rfl (fun w' E => ex_move rfl rfl) ?_
                      first | refine fsk [17, 18] rfl rfl rfl rfl rfl rfl rfl ?_ | refine fd [17, 18] rfl rfl rfl rfl rfl rfl rfl (fun w' E => ex_index Try.underlying33 sz22 (i) rfl rfl rfl (by first | rfl | omega) (by omega)) ?_
                      first | refine fsk [19] rfl rfl rfl rfl rfl rfl rfl ?_ | refine fd [19] rfl rfl rfl rfl rfl rfl rfl (fun w' E => ex_load (v := .slice (some ⟨p7, q7, none⟩) s7.2.1 s7.2.2) one22 rfl rfl (by rw [← ha7]; exact (Kz.ext E).cell trivial hc7)) ?_
                      first | refine fsk [] rfl rfl rfl rfl rfl rfl rfl ?_ | refine fd [] rfl rfl rfl rfl rfl rfl rfl (fun w' E => ex_move rfl rfl) ?_
                      first | refine fsk [20, 21] rfl rfl rfl rfl rfl rfl rfl ?_ | refine fd [20, 21] rfl rfl rfl rfl rfl rfl rfl (fun w' E => ex_index Try.underlying22 sz5 (q) rfl rfl rfl (by first | rfl | omega) (by omega)) ?_
                      first | refine fsk [22] rfl rfl rfl rfl rfl rfl rfl ?_ | refine fd [22] rfl rfl rfl rfl rfl rfl rfl (fun w' E => ex_load one5 rfl rfl ((Kz.ext E).cell trivial hd7)) ?_
                      first | refine fsk [] rfl rfl rfl rfl rfl rfl rfl ?_ | refine fd [] rfl rfl rfl rfl rfl rfl rfl (fun w' E => ex_move rfl rfl) ?_
                      first | refine fsk [] rfl rfl rfl rfl rfl rfl rfl ?_ | refine fd [] rfl rfl rfl rfl rfl rfl rfl (fun w' E => ex_move rfl rfl) ?_
                      first | refine fsk [24, 25] rfl rfl rfl rfl rfl rfl rfl ?_ | refine fd [24, 25] rfl rfl rfl rfl rfl rfl rfl (fun w' E => ex_index Try.underlying33 sz22 (i) rfl rfl rfl (by first | rfl | omega) (by omega)) ?_
                      first | refine fsk [26] rfl rfl rfl rfl rfl rfl rfl ?_ | refine fd [26] rfl rfl rfl rfl rfl rfl rfl (fun w' E => ex_load (v := .slice (some ⟨p8, q8, none⟩) s8.2.1 s8.2.2) one22 rfl rfl (by rw [← ha8]; exact (Kz.ext E).cell trivial hc8)) ?_
                      first | refine fsk [] rfl rfl rfl rfl rfl rfl rfl ?_ | refine fd [] rfl rfl rfl rfl rfl rfl rfl (fun w' E => ex_move rfl rfl) ?_
                      first | refine fsk [27, 28] rfl rfl rfl rfl rfl rfl rfl ?_ | refine fd [27, 28] rfl rfl rfl rfl rfl rfl rfl (fun w' E => ex_index Try.underlying22 sz5 (q) rfl rfl rfl (by first | rfl | omega) (by omega)) ?_
                      first | refine fsk [29] rfl rfl rfl rfl rfl rfl rfl ?_ | refine fd [29] rfl rfl rfl rfl rfl rfl rfl (fun w' E => ex_load one5 rfl rfl ((Kz.ext E).cell trivial hd8)) ?_
                      refine .nil (fun w44 Ew44 _ => ?_)
                      replace Kz := Kz.ext Ew44
                      refine wd_if rfl rfl (by kernel_rfl) rfl rfl rfl (ex_cmp rfl rfl rfl rfl) (fun c2 => ?_) (fun c2 => ?_)
                      · skip
                        first | refine wd_v rfl rfl (by kernel_rfl) rfl rfl rfl (ex_pick_t rfl rfl rfl) ?_ | refine wd_v rfl rfl (by kernel_rfl) rfl rfl rfl (ex_pick_f rfl rfl rfl) ?_
                        refine wd_nil (by decide) rfl ?_
                        refine qe_next ?_
                        refine w_cond_t rfl ?_
                        refine w_skip (qe_next ?_)
                        refine w_block ?_
                        refine w_region ?_
                        refine sv rfl rfl rfl (ex_move rfl rfl) ?_
                        refine sv rfl rfl rfl (ex_add rfl rfl rfl (i64_in (by omega) (by omega))) ?_
                        refine sv rfl rfl rfl (ex_assign rfl rfl) ?_
                        refine w_nil (qe_in_normal (qe_round (q + 1) ⟨rfl, rfl, rfl, rfl, rfl, rfl, rfl, rfl, trivial⟩ ?_ ?_))
                        · refine ⟨by omega, fun j hj => ?_, Kz⟩
                          rcases Nat.lt_or_eq_of_le (Nat.lt_succ_iff.1 hj) with h | h
                          · exact hpre j h
                          · subst h; rw [hx7, hx8, show x7 = x8 from UInt8.toNat_inj.1 (by omega)]
                        · omega
                      · skip
                        first | refine wd_v rfl rfl (by kernel_rfl) rfl rfl rfl (ex_pick_t rfl rfl rfl) ?_ | refine wd_v rfl rfl (by kernel_rfl) rfl rfl rfl (ex_pick_f rfl rfl rfl) ?_
                        refine wd_nil (by decide) rfl ?_
                        refine qe_next ?_
                        refine w_cond_f rfl ?_
                        refine w_exit (qe_then_exit (qe_then_exit (qe_in_exit (qe_next ?_))))
                        refine w_seq ?_
                        have hds := tear_same hl3n hl1n hmm hyy hq hpre (fun _ e => by rw [hx7, hx8] at e; injection e with e; exact c2 (by rw [e]))
                        refine w_draw mixed (fun w45 _ Ew45 => ?_)
                        replace Kz := Kz.ext Ew45
                        refine wd_free 6 _ rfl rfl rfl rfl ?_
                        refine fd [] rfl rfl rfl rfl rfl rfl rfl (fun w' E => ex_move rfl rfl) ?_
                        refine fd [] rfl rfl rfl rfl rfl rfl rfl (fun w' E => ex_move rfl rfl) ?_
                        refine fd [0, 1] rfl rfl rfl rfl rfl rfl rfl (fun w' E => ex_index Try.underlying33 sz22 (i) rfl rfl rfl (by first | rfl | omega) (by omega)) ?_
                        refine fd [2] rfl rfl rfl rfl rfl rfl rfl (fun w' E => ex_load (v := .slice s8.1 s8.2.1 s8.2.2) one22 rfl rfl ((Kz.ext E).cell trivial hc8)) ?_
                        refine fd [3] rfl rfl rfl rfl rfl rfl rfl (fun w' E => ex_len Try.underlying22 rfl rfl) ?_
                        refine fd [] rfl rfl rfl rfl rfl rfl rfl (fun w' E => ex_move rfl rfl) ?_
                        refine .nil (fun w46 Ew46 _ => ?_)
                        replace Kz := Kz.ext Ew46
                        refine wd_v rfl rfl (by kernel_rfl) rfl rfl rfl (ex_cmp rfl rfl rfl (congrArg some (decide_eq_false (by omega)))) ?_
                        refine wd_v rfl rfl (by kernel_rfl) rfl rfl rfl (ex_move rfl rfl) ?_
                        refine wd_free 6 _ rfl rfl rfl rfl ?_
                        first | refine fsk [] rfl rfl rfl rfl rfl rfl rfl ?_ | refine fd [] rfl rfl rfl rfl rfl rfl rfl (fun w' E => ex_move rfl rfl) ?_
                        first | refine fsk [] rfl rfl rfl rfl rfl rfl rfl ?_ | refine fd [] rfl rfl rfl rfl rfl rfl rfl (fun w' E => ex_move rfl rfl) ?_
                        first | refine fsk [8, 9] rfl rfl rfl rfl rfl rfl rfl ?_ | refine fd [8, 9] rfl rfl rfl rfl rfl rfl rfl (fun w' E => ex_index Try.underlying33 sz22 (i) rfl rfl rfl (by first | rfl | omega) (by omega)) ?_
                        first | refine fsk [10] rfl rfl rfl rfl rfl rfl rfl ?_ | refine fd [10] rfl rfl rfl rfl rfl rfl rfl (fun w' E => ex_load (v := .slice s7.1 s7.2.1 s7.2.2) one22 rfl rfl ((Kz.ext E).cell trivial hc7)) ?_
                        first | refine fsk [11] rfl rfl rfl rfl rfl rfl rfl ?_ | refine fd [11] rfl rfl rfl rfl rfl rfl rfl (fun w' E => ex_len Try.underlying22 rfl rfl) ?_
                        first | refine fsk [] rfl rfl rfl rfl rfl rfl rfl ?_ | refine fd [] rfl rfl rfl rfl rfl rfl rfl (fun w' E => ex_move rfl rfl) ?_
                        refine .nil (fun w47 Ew47 _ => ?_)
                        replace Kz := Kz.ext Ew47
                        first | refine wd_skip rfl rfl (by kernel_rfl) rfl rfl rfl ?_ | refine wd_v rfl rfl (by kernel_rfl) rfl rfl rfl (ex_cmp rfl rfl rfl (congrArg some (decide_eq_false (by omega)))) ?_
                        first | refine wd_v rfl rfl (by kernel_rfl) rfl rfl rfl (ex_pick_t rfl rfl rfl) ?_ | refine wd_v rfl rfl (by kernel_rfl) rfl rfl rfl (ex_pick_f rfl rfl rfl) ?_
                        refine wd_v rfl rfl (by kernel_rfl) rfl rfl rfl (ex_move rfl rfl) ?_
                        refine wd_free 12 _ rfl rfl rfl rfl ?_
                        first | refine fsk [] rfl rfl rfl rfl rfl rfl rfl ?_ | refine fd [] rfl rfl rfl rfl rfl rfl rfl (fun w' E => ex_move rfl rfl) ?_
                        first | refine fsk [] rfl rfl rfl rfl rfl rfl rfl ?_ | refine fd [] rfl rfl rfl rfl rfl rfl rfl (fun w' E => ex_move rfl rfl) ?_
                        first | refine fsk [17, 18] rfl rfl rfl rfl rfl rfl rfl ?_ | refine fd [17, 18] rfl rfl rfl rfl rfl rfl rfl (fun w' E => ex_index Try.underlying33 sz22 (i) rfl rfl rfl (by first | rfl | omega) (by omega)) ?_
                        first | refine fsk [19] rfl rfl rfl rfl rfl rfl rfl ?_ | refine fd [19] rfl rfl rfl rfl rfl rfl rfl (fun w' E => ex_load (v := .slice s7.1 s7.2.1 s7.2.2) one22 rfl rfl ((Kz.ext E).cell trivial hc7)) ?_
                        first | refine fsk [] rfl rfl rfl rfl rfl rfl rfl ?_ | refine fd [] rfl rfl rfl rfl rfl rfl rfl (fun w' E => ex_move rfl rfl) ?_
                        first | refine fsk [20, 21] rfl rfl rfl rfl rfl rfl rfl ?_ | refine fd [20, 21] rfl rfl rfl rfl rfl rfl rfl (fun w' E => ex_slice Try.underlying22 sz5 q s7.2.1 rfl rfl (.inr ⟨_, _, _, rfl, rfl, rfl⟩) (.inl ⟨rfl, rfl⟩) (by omega) ho7.le) ?_
                        first | refine fsk [] rfl rfl rfl rfl rfl rfl rfl ?_ | refine fd [] rfl rfl rfl rfl rfl rfl rfl (fun w' E => ex_move rfl rfl) ?_
                        first | refine fsk [] rfl rfl rfl rfl rfl rfl rfl ?_ | refine fd [] rfl rfl rfl rfl rfl rfl rfl (fun w' E => ex_move rfl rfl) ?_
                        first | refine fsk [23, 24] rfl rfl rfl rfl rfl rfl rfl ?_ | refine fd [23, 24] rfl rfl rfl rfl rfl rfl rfl (fun w' E => ex_index Try.underlying33 sz22 (i) rfl rfl rfl (by first | rfl | omega) (by omega)) ?_
                        first | refine fsk [25] rfl rfl rfl rfl rfl rfl rfl ?_ | refine fd [25] rfl rfl rfl rfl rfl rfl rfl (fun w' E => ex_load (v := .slice s6.1 s6.2.1 s6.2.2) one22 rfl rfl ((Kz.ext E).cell trivial hc6)) ?_
                        first | refine fsk [] rfl rfl rfl rfl rfl rfl rfl ?_ | refine fd [] rfl rfl rfl rfl rfl rfl rfl (fun w' E => ex_move rfl rfl) ?_
                        first | refine fsk [26, 27] rfl rfl rfl rfl rfl rfl rfl ?_ | refine fd [26, 27] rfl rfl rfl rfl rfl rfl rfl (fun w' E => ex_slice Try.underlying22 sz5 q s6.2.1 rfl rfl (.inr ⟨_, _, _, rfl, rfl, rfl⟩) (.inl ⟨rfl, rfl⟩) (by omega) ho6.le) ?_
                        refine .nil (fun w48 Ew48 _ => ?_)
                        replace Kz := Kz.ext Ew48
                        have hk7 := (ho7.rd.ext Kz).cut (l := q) (hh := s7.2.1) (m := s7.2.2) (by omega) (Nat.le_refl _) ho7.le
                        rw [show List.take ((s7.2.1 - q) * 1) (List.drop (q * 1) (bcells y7)) = bcells (y7.drop q) from by rw [Nat.mul_one, Nat.mul_one, List.take_of_length_le (by rw [List.length_drop, bcells_length]; omega)]; simp [bcells]] at hk7
                        have hk6 := (ho6.rd.ext Kz).cut (l := q) (hh := s6.2.1) (m := s6.2.2) (by omega) (Nat.le_refl _) ho6.le
                        rw [show List.take ((s6.2.1 - q) * 1) (List.drop (q * 1) (bcells y6)) = bcells (y6.drop q) from by rw [Nat.mul_one, Nat.mul_one, List.take_of_length_le (by rw [List.length_drop, bcells_length]; omega)]; simp [bcells]] at hk6
                        refine wd_one rfl rfl (by kernel_rfl) rfl rfl rfl (ex_call call15 rfl rfl (same_t _ _ _ _ _ _ _ _ _ _ (y7.drop q) (y6.drop q) _ (by rw [List.length_drop]; omega) (by rw [List.length_drop]; omega) hk7 hk6 hds)) ?_
                        rintro _ w49 ⟨rfl, hwe⟩
                        obtain rfl := hwe.symm
                        first | refine wd_skip rfl rfl (by kernel_rfl) rfl rfl rfl ?_ | refine wd_v rfl rfl (by kernel_rfl) rfl rfl rfl (ex_not rfl rfl) ?_
                        first | refine wd_v rfl rfl (by kernel_rfl) rfl rfl rfl (ex_pick_t rfl rfl rfl) ?_ | refine wd_v rfl rfl (by kernel_rfl) rfl rfl rfl (ex_pick_f rfl rfl rfl) ?_
                        refine wd_nil (by decide) rfl ?_
                        refine qe_next ?_
                        refine w_cond_f rfl ?_
                        refine w_skip (qe_in_normal (qe_next ?_))
                        refine w_region ?_
                        refine sv rfl rfl rfl (ex_move rfl rfl) ?_
                        refine sv rfl rfl rfl (ex_add rfl rfl rfl (i64_in (by omega) (by omega))) ?_
                        refine sv rfl rfl rfl (ex_assign rfl rfl) ?_
                        refine w_nil (qe_round ((i + 1, tn + 1)) ⟨rfl, rfl, rfl, rfl, rfl, rfl, rfl, trivial⟩ ?_ ?_)
                        · refine ⟨by simp only; omega, .inr ⟨?_, i, by simp only; omega, htt⟩, Kz⟩
                          rcases htn with h | ⟨_, p9, hp9, ht9⟩
                          · simp only; omega
                          · rw [htt] at ht9; injection ht9 with ht9; omega
                        · simp only; omega
                    · skip
                      refine wd_v rfl rfl (by kernel_rfl) rfl rfl rfl (ex_move rfl rfl) ?_
                      refine wd_free 6 _ rfl rfl rfl rfl ?_
                      first | refine fsk [] rfl rfl rfl rfl rfl rfl rfl ?_ | refine fd [] rfl rfl rfl rfl rfl rfl rfl (fun w' E => ex_move rfl rfl) ?_
                      first | refine fsk [] rfl rfl rfl rfl rfl rfl rfl ?_ | refine fd [] rfl rfl rfl rfl rfl rfl rfl (fun w' E => ex_move rfl rfl) ?_
                      first | refine fsk [] rfl rfl rfl rfl rfl rfl rfl ?_ | refine fd [] rfl rfl rfl rfl rfl rfl rfl (fun w' E => ex_move rfl rfl) ?_
                      first | refine fsk [9, 10] rfl rfl rfl rfl rfl rfl rfl ?_ | refine fd [9, 10] rfl rfl rfl rfl rfl rfl rfl (fun w' E => ex_index Try.underlying33 sz22 (i) rfl rfl rfl (by first | rfl | omega) (by omega)) ?_
                      first | refine fsk [11] rfl rfl rfl rfl rfl rfl rfl ?_ | refine fd [11] rfl rfl rfl rfl rfl rfl rfl (fun w' E => ex_load (v := .slice s7.1 s7.2.1 s7.2.2) one22 rfl rfl ((Kz.ext E).cell trivial hc7)) ?_
                      first | refine fsk [12] rfl rfl rfl rfl rfl rfl rfl ?_ | refine fd [12] rfl rfl rfl rfl rfl rfl rfl (fun w' E => ex_len Try.underlying22 rfl rfl) ?_
                      refine .nil (fun w50 Ew50 _ => ?_)
                      replace Kz := Kz.ext Ew50
                      refine wd_skip rfl rfl (by kernel_rfl) rfl rfl rfl ?_
                      first | refine wd_v rfl rfl (by kernel_rfl) rfl rfl rfl (ex_pick_t rfl rfl rfl) ?_ | refine wd_v rfl rfl (by kernel_rfl) rfl rfl rfl (ex_pick_f rfl rfl rfl) ?_
                      refine wd_v rfl rfl (by kernel_rfl) rfl rfl rfl (ex_move rfl rfl) ?_
                      refine wd_free 14 _ rfl rfl rfl rfl ?_
                      first | refine fsk [] rfl rfl rfl rfl rfl rfl rfl ?_ | refine fd [] rfl rfl rfl rfl rfl rfl rfl (fun w' E => ex_move rfl rfl) ?_
                      first | refine fsk [] rfl rfl rfl rfl rfl rfl rfl ?_ | refine fd [] rfl rfl rfl rfl rfl rfl rfl (fun w' E => ex_move rfl rfl) ?_
                      first | refine fsk [17, 18] rfl rfl rfl rfl rfl rfl rfl ?_ | refine fd [17, 18] rfl rfl rfl rfl rfl rfl rfl (fun w' E => ex_index Try.underlying33 sz22 (i) rfl rfl rfl (by first | rfl | omega) (by omega)) ?_
                      first | refine fsk [19] rfl rfl rfl rfl rfl rfl rfl ?_ | refine fd [19] rfl rfl rfl rfl rfl rfl rfl (fun w' E => ex_load (v := .slice (some ⟨p7, q7, none⟩) s7.2.1 s7.2.2) one22 rfl rfl (by rw [← ha7]; exact (Kz.ext E).cell trivial hc7)) ?_
                      first | refine fsk [] rfl rfl rfl rfl rfl rfl rfl ?_ | refine fd [] rfl rfl rfl rfl rfl rfl rfl (fun w' E => ex_move rfl rfl) ?_
                      first | refine fsk [20, 21] rfl rfl rfl rfl rfl rfl rfl ?_ | refine fd [20, 21] rfl rfl rfl rfl rfl rfl rfl (fun w' E => ex_index Try.underlying22 sz5 (q) rfl rfl rfl (by first | rfl | omega) (by omega)) ?_
                      first | refine fsk [22] rfl rfl rfl rfl rfl rfl rfl ?_ | refine fd [22] rfl rfl rfl rfl rfl rfl rfl (fun w' E => ex_load one5 rfl rfl ((Kz.ext E).cell trivial hd7)) ?_
                      first | refine fsk [] rfl rfl rfl rfl rfl rfl rfl ?_ | refine fd [] rfl rfl rfl rfl rfl rfl rfl (fun w' E => ex_move rfl rfl) ?_
                      first | refine fsk [] rfl rfl rfl rfl rfl rfl rfl ?_ | refine fd [] rfl rfl rfl rfl rfl rfl rfl (fun w' E => ex_move rfl rfl) ?_
                      first | refine fsk [24, 25] rfl rfl rfl rfl rfl rfl rfl ?_ | refine fd [24, 25] rfl rfl rfl rfl rfl rfl rfl (fun w' E => ex_index Try.underlying33 sz22 (i) rfl rfl rfl (by first | rfl | omega) (by omega)) ?_
                      first | refine fsk [26] rfl rfl rfl rfl rfl rfl rfl ?_ | refine fd [26] rfl rfl rfl rfl rfl rfl rfl (fun w' E => ex_load (v := .slice (some ⟨p8, q8, none⟩) s8.2.1 s8.2.2) one22 rfl rfl (by rw [← ha8]; exact (Kz.ext E).cell trivial hc8)) ?_
                      first | refine fsk [] rfl rfl rfl rfl rfl rfl rfl ?_ | refine fd [] rfl rfl rfl rfl rfl rfl rfl (fun w' E => ex_move rfl rfl) ?_
                      first | refine fsk [27, 28] rfl rfl rfl rfl rfl rfl rfl ?_ | refine fd [27, 28] rfl rfl rfl rfl rfl rfl rfl (fun w' E => ex_index Try.underlying22 sz5 (q) rfl rfl rfl (by first | rfl | omega) (by omega)) ?_
                      first | refine fsk [29] rfl rfl rfl rfl rfl rfl rfl ?_ | refine fd [29] rfl rfl rfl rfl rfl rfl rfl (fun w' E => ex_load one5 rfl rfl ((Kz.ext E).cell trivial hd8)) ?_
                      refine .nil (fun w51 Ew51 _ => ?_)
                      replace Kz := Kz.ext Ew51
                      refine wd_skip rfl rfl (by kernel_rfl) rfl rfl rfl ?_
                      first | refine wd_v rfl rfl (by kernel_rfl) rfl rfl rfl (ex_pick_t rfl rfl rfl) ?_ | refine wd_v rfl rfl (by kernel_rfl) rfl rfl rfl (ex_pick_f rfl rfl rfl) ?_
                      refine wd_nil (by decide) rfl ?_
                      refine qe_next ?_
                      refine w_cond_f rfl ?_
                      refine w_exit (qe_then_exit (qe_then_exit (qe_in_exit (qe_next ?_))))
                      refine w_seq ?_
                      have hds := tear_same hl3n hl1n hmm hyy hq hpre (fun h => by omega)
                      refine w_draw mixed (fun w52 _ Ew52 => ?_)
                      replace Kz := Kz.ext Ew52
                      refine wd_free 6 _ rfl rfl rfl rfl ?_
                      refine fd [] rfl rfl rfl rfl rfl rfl rfl (fun w' E => ex_move rfl rfl) ?_
                      refine fd [] rfl rfl rfl rfl rfl rfl rfl (fun w' E => ex_move rfl rfl) ?_
                      refine fd [0, 1] rfl rfl rfl rfl rfl rfl rfl (fun w' E => ex_index Try.underlying33 sz22 (i) rfl rfl rfl (by first | rfl | omega) (by omega)) ?_
                      refine fd [2] rfl rfl rfl rfl rfl rfl rfl (fun w' E => ex_load (v := .slice s8.1 s8.2.1 s8.2.2) one22 rfl rfl ((Kz.ext E).cell trivial hc8)) ?_
                      refine fd [3] rfl rfl rfl rfl rfl rfl rfl (fun w' E => ex_len Try.underlying22 rfl rfl) ?_
                      refine fd [] rfl rfl rfl rfl rfl rfl rfl (fun w' E => ex_move rfl rfl) ?_
                      refine .nil (fun w53 Ew53 _ => ?_)
                      replace Kz := Kz.ext Ew53
                      refine wd_v rfl rfl (by kernel_rfl) rfl rfl rfl (ex_cmp rfl rfl rfl (congrArg some (decide_eq_false (by omega)))) ?_
                      refine wd_v rfl rfl (by kernel_rfl) rfl rfl rfl (ex_move rfl rfl) ?_
                      refine wd_free 6 _ rfl rfl rfl rfl ?_
                      first | refine fsk [] rfl rfl rfl rfl rfl rfl rfl ?_ | refine fd [] rfl rfl rfl rfl rfl rfl rfl (fun w' E => ex_move rfl rfl) ?_
                      first | refine fsk [] rfl rfl rfl rfl rfl rfl rfl ?_ | refine fd [] rfl rfl rfl rfl rfl rfl rfl (fun w' E => ex_move rfl rfl) ?_
                      first | refine fsk [8, 9] rfl rfl rfl rfl rfl rfl rfl ?_ | refine fd [8, 9] rfl rfl rfl rfl rfl rfl rfl (fun w' E => ex_index Try.underlying33 sz22 (i) rfl rfl rfl (by first | rfl | omega) (by omega)) ?_
                      first | refine fsk [10] rfl rfl rfl rfl rfl rfl rfl ?_ | refine fd [10] rfl rfl rfl rfl rfl rfl rfl (fun w' E => ex_load (v := .slice s7.1 s7.2.1 s7.2.2) one22 rfl rfl ((Kz.ext E).cell trivial hc7)) ?_
                      first | refine fsk [11] rfl rfl rfl rfl rfl rfl rfl ?_ | refine fd [11] rfl rfl rfl rfl rfl rfl rfl (fun w' E => ex_len Try.underlying22 rfl rfl) ?_
                      first | refine fsk [] rfl rfl rfl rfl rfl rfl rfl ?_ | refine fd [] rfl rfl rfl rfl rfl rfl rfl (fun w' E => ex_move rfl rfl) ?_
                      refine .nil (fun w54 Ew54 _ => ?_)
                      replace Kz := Kz.ext Ew54
                      first | refine wd_skip rfl rfl (by kernel_rfl) rfl rfl rfl ?_ | refine wd_v rfl rfl (by kernel_rfl) rfl rfl rfl (ex_cmp rfl rfl rfl (congrArg some (decide_eq_false (by omega)))) ?_
                      first | refine wd_v rfl rfl (by kernel_rfl) rfl rfl rfl (ex_pick_t rfl rfl rfl) ?_ | refine wd_v rfl rfl (by kernel_rfl) rfl rfl rfl (ex_pick_f rfl rfl rfl) ?_
                      refine wd_v rfl rfl (by kernel_rfl) rfl rfl rfl (ex_move rfl rfl) ?_
                      refine wd_free 12 _ rfl rfl rfl rfl ?_
                      first | refine fsk [] rfl rfl rfl rfl rfl rfl rfl ?_ | refine fd [] rfl rfl rfl rfl rfl rfl rfl (fun w' E => ex_move rfl rfl) ?_
                      first | refine fsk [] rfl rfl rfl rfl rfl rfl rfl ?_ | refine fd [] rfl rfl rfl rfl rfl rfl rfl (fun w' E => ex_move rfl rfl) ?_
                      first | refine fsk [17, 18] rfl rfl rfl rfl rfl rfl rfl ?_ | refine fd [17, 18] rfl rfl rfl rfl rfl rfl rfl (fun w' E => ex_index Try.underlying33 sz22 (i) rfl rfl rfl (by first | rfl | omega) (by omega)) ?_
                      first | refine fsk [19] rfl rfl rfl rfl rfl rfl rfl ?_ | refine fd [19] rfl rfl rfl rfl rfl rfl rfl (fun w' E => ex_load (v := .slice s7.1 s7.2.1 s7.2.2) one22 rfl rfl ((Kz.ext E).cell trivial hc7)) ?_
                      first | refine fsk [] rfl rfl rfl rfl rfl rfl rfl ?_ | refine fd [] rfl rfl rfl rfl rfl rfl rfl (fun w' E => ex_move rfl rfl) ?_
                      first | refine fsk [20, 21] rfl rfl rfl rfl rfl rfl rfl ?_ | refine fd [20, 21] rfl rfl rfl rfl rfl rfl rfl (fun w' E => ex_slice Try.underlying22 sz5 q s7.2.1 rfl rfl (.inr ⟨_, _, _, rfl, rfl, rfl⟩) (.inl ⟨rfl, rfl⟩) (by omega) ho7.le) ?_
                      first | refine fsk [] rfl rfl rfl rfl rfl rfl rfl ?_ | refine fd [] rfl rfl rfl rfl rfl rfl rfl (fun w' E => ex_move rfl rfl) ?_
                      first | refine fsk [] rfl rfl rfl rfl rfl rfl rfl ?_ | refine fd [] rfl rfl rfl rfl rfl rfl rfl (fun w' E => ex_move rfl rfl) ?_
                      first | refine fsk [23, 24] rfl rfl rfl rfl rfl rfl rfl ?_ | refine fd [23, 24] rfl rfl rfl rfl rfl rfl rfl (fun w' E => ex_index Try.underlying33 sz22 (i) rfl rfl rfl (by first | rfl | omega) (by omega)) ?_
                      first | refine fsk [25] rfl rfl rfl rfl rfl rfl rfl ?_ | refine fd [25] rfl rfl rfl rfl rfl rfl rfl (fun w' E => ex_load (v := .slice s6.1 s6.2.1 s6.2.2) one22 rfl rfl ((Kz.ext E).cell trivial hc6)) ?_
                      first | refine fsk [] rfl rfl rfl rfl rfl rfl rfl ?_ | refine fd [] rfl rfl rfl rfl rfl rfl rfl (fun w' E => ex_move rfl rfl) ?_
                      first | refine fsk [26, 27] rfl rfl rfl rfl rfl rfl rfl ?_ | refine fd [26, 27] rfl rfl rfl rfl rfl rfl rfl (fun w' E => ex_slice Try.underlying22 sz5 q s6.2.1 rfl rfl (.inr ⟨_, _, _, rfl, rfl, rfl⟩) (.inl ⟨rfl, rfl⟩) (by omega) ho6.le) ?_
                      refine .nil (fun w55 Ew55 _ => ?_)
                      replace Kz := Kz.ext Ew55
                      have hk7 := (ho7.rd.ext Kz).cut (l := q) (hh := s7.2.1) (m := s7.2.2) (by omega) (Nat.le_refl _) ho7.le
                      rw [show List.take ((s7.2.1 - q) * 1) (List.drop (q * 1) (bcells y7)) = bcells (y7.drop q) from by rw [Nat.mul_one, Nat.mul_one, List.take_of_length_le (by rw [List.length_drop, bcells_length]; omega)]; simp [bcells]] at hk7
                      have hk6 := (ho6.rd.ext Kz).cut (l := q) (hh := s6.2.1) (m := s6.2.2) (by omega) (Nat.le_refl _) ho6.le
                      rw [show List.take ((s6.2.1 - q) * 1) (List.drop (q * 1) (bcells y6)) = bcells (y6.drop q) from by rw [Nat.mul_one, Nat.mul_one, List.take_of_length_le (by rw [List.length_drop, bcells_length]; omega)]; simp [bcells]] at hk6
                      refine wd_one rfl rfl (by kernel_rfl) rfl rfl rfl (ex_call call15 rfl rfl (same_t _ _ _ _ _ _ _ _ _ _ (y7.drop q) (y6.drop q) _ (by rw [List.length_drop]; omega) (by rw [List.length_drop]; omega) hk7 hk6 hds)) ?_
                      rintro _ w56 ⟨rfl, hwe⟩
                      obtain rfl := hwe.symm
                      first | refine wd_skip rfl rfl (by kernel_rfl) rfl rfl rfl ?_ | refine wd_v rfl rfl (by kernel_rfl) rfl rfl rfl (ex_not rfl rfl) ?_
                      first | refine wd_v rfl rfl (by kernel_rfl) rfl rfl rfl (ex_pick_t rfl rfl rfl) ?_ | refine wd_v rfl rfl (by kernel_rfl) rfl rfl rfl (ex_pick_f rfl rfl rfl) ?_
                      refine wd_nil (by decide) rfl ?_
                      refine qe_next ?_
                      refine w_cond_f rfl ?_
                      refine w_skip (qe_in_normal (qe_next ?_))
                      refine w_region ?_
                      refine sv rfl rfl rfl (ex_move rfl rfl) ?_
                      refine sv rfl rfl rfl (ex_add rfl rfl rfl (i64_in (by omega) (by omega))) ?_
                      refine sv rfl rfl rfl (ex_assign rfl rfl) ?_
                      refine w_nil (qe_round ((i + 1, tn + 1)) ⟨rfl, rfl, rfl, rfl, rfl, rfl, rfl, trivial⟩ ?_ ?_)
                      · refine ⟨by simp only; omega, .inr ⟨?_, i, by simp only; omega, htt⟩, Kz⟩
                        rcases htn with h | ⟨_, p9, hp9, ht9⟩
                        · simp only; omega
                        · rw [htt] at ht9; injection ht9 with ht9; omega
                      · simp only; omega
                · skip
                  first | refine wd_v rfl rfl (by kernel_rfl) rfl rfl rfl (ex_pick_t rfl rfl rfl) ?_ | refine wd_v rfl rfl (by kernel_rfl) rfl rfl rfl (ex_pick_f rfl rfl rfl) ?_
                  refine wd_nil (by decide) rfl ?_
                  refine qe_next ?_
                  refine w_cond_t rfl ?_
                  refine w_exit (qe_then_exit (qe_in_exit (qe_next ?_)))
                  refine w_region ?_
                  refine sv rfl rfl rfl (ex_move rfl rfl) ?_
                  refine sv rfl rfl rfl (ex_add rfl rfl rfl (i64_in (by omega) (by omega))) ?_
                  refine sv rfl rfl rfl (ex_assign rfl rfl) ?_
                  refine w_nil (qe_round ((i + 1, tn)) ⟨rfl, rfl, rfl, rfl, rfl, rfl, rfl, trivial⟩ ?_ ?_)
                  · exact ⟨by simp only; omega, htn.imp id (fun h => ⟨h.1, h.2.imp fun p hp => ⟨by simp only; omega, hp.2⟩⟩), Kz⟩
                  · simp only; omega
              · skip
                refine wd_v rfl rfl (by kernel_rfl) rfl rfl rfl (ex_move rfl rfl) ?_
                refine wd_free 8 _ rfl rfl rfl rfl ?_
                first | refine fsk [] rfl rfl rfl rfl rfl rfl rfl ?_ | refine fd [] rfl rfl rfl rfl rfl rfl rfl (fun w' E => ex_move rfl rfl) ?_
                first | refine fsk [] rfl rfl rfl rfl rfl rfl rfl ?_ | refine fd [] rfl rfl rfl rfl rfl rfl rfl (fun w' E => ex_move rfl rfl) ?_
                first | refine fsk [10, 11] rfl rfl rfl rfl rfl rfl rfl ?_ | refine fd [10, 11] rfl rfl rfl rfl rfl rfl rfl (fun w' E => ex_index Try.underlying33 sz22 (i) rfl rfl rfl (by first | rfl | omega) (by omega)) ?_
                first | refine fsk [12] rfl rfl rfl rfl rfl rfl rfl ?_ | refine fd [12] rfl rfl rfl rfl rfl rfl rfl (fun w' E => ex_load (v := .slice s7.1 s7.2.1 s7.2.2) one22 rfl rfl ((Kz.ext E).cell trivial hc7)) ?_
                first | refine fsk [] rfl rfl rfl rfl rfl rfl rfl ?_ | refine fd [] rfl rfl rfl rfl rfl rfl rfl (fun w' E => ex_move rfl rfl) ?_
                first | refine fsk [] rfl rfl rfl rfl rfl rfl rfl ?_ | refine fd [] rfl rfl rfl rfl rfl rfl rfl (fun w' E => ex_move rfl rfl) ?_
                first | refine fsk [14, 15] rfl rfl rfl rfl rfl rfl rfl ?_ | refine fd [14, 15] rfl rfl rfl rfl rfl rfl rfl (fun w' E => ex_index Try.underlying33 sz22 (i) rfl rfl rfl (by first | rfl | omega) (by omega)) ?_
                first | refine fsk [16] rfl rfl rfl rfl rfl rfl rfl ?_ | refine fd [16] rfl rfl rfl rfl rfl rfl rfl (fun w' E => ex_load (v := .slice s8.1 s8.2.1 s8.2.2) one22 rfl rfl ((Kz.ext E).cell trivial hc8)) ?_
                refine .nil (fun w57 Ew57 _ => ?_)
                replace Kz := Kz.ext Ew57
                refine wd_skip rfl rfl (by kernel_rfl) rfl rfl rfl ?_
                first | refine wd_v rfl rfl (by kernel_rfl) rfl rfl rfl (ex_pick_t rfl rfl rfl) ?_ | refine wd_v rfl rfl (by kernel_rfl) rfl rfl rfl (ex_pick_f rfl rfl rfl) ?_
                refine wd_nil (by decide) rfl ?_
                refine qe_next ?_
                refine w_cond_t rfl ?_
                refine w_exit (qe_then_exit (qe_in_exit (qe_next ?_)))
                refine w_region ?_
                refine sv rfl rfl rfl (ex_move rfl rfl) ?_
                refine sv rfl rfl rfl (ex_add rfl rfl rfl (i64_in (by omega) (by omega))) ?_
                refine sv rfl rfl rfl (ex_assign rfl rfl) ?_
                refine w_nil (qe_round ((i + 1, tn)) ⟨rfl, rfl, rfl, rfl, rfl, rfl, rfl, trivial⟩ ?_ ?_)
                · exact ⟨by simp only; omega, htn.imp id (fun h => ⟨h.1, h.2.imp fun p hp => ⟨by simp only; omega, hp.2⟩⟩), Kz⟩
                · simp only; omega
            · skip
              refine w_exit (qe_then_exit (qe_then_exit (qe_in_exit (qe_next ?_))))
              refine w_seq ?_
              refine w_region ?_
              refine sv rfl rfl rfl (ex_move rfl rfl) ?_
              refine sv rfl rfl rfl (ex_cmp rfl rfl rfl rfl) ?_
              refine sv rfl rfl rfl (ex_assign rfl rfl) ?_
              refine w_nil (qe_next ?_)
              refine w_ret (qe_ret1 rfl rfl ?_)
              exact ⟨by rw [decide_eq_true (by first | omega | (simp only; omega))], KzW.ext Kz⟩
theorem tears_law (z1 z2 z : Int) (As : Option Addr) (cs : Nat) (zs : List Int) (Aw : Option Addr) (cw : Nat) (wl : List Sl) (ws : List (List UInt8)) (Ak : Option Addr) (ck : Nat) (kb : List Bool) (A : Option Addr) (c hi : Nat) (os : List Op) (w : World) (hops : OpsAt w hi A os) (hhi : hi ≤ w.heap.size) (hzs : Rd w 0 hi 1 As zs.length (zs.map (Value.int .i64))) (hws : Rd w 0 hi 1 Aw wl.length (wl.map slv)) (hwy : RdB w hi wl ws) (hrk : Rd w 0 hi 1 Ak kb.length (kb.map Value.bool)) (hkq : kb.length ≤ 9223372036854775807) : Ret Try.prog 5 [.int .i64 z1, .int .i64 z2, .slice A os.length c, .slice As zs.length cs, .slice Aw wl.length cw, .slice Ak kb.length ck, .int .i64 z] w fun v w' => v = .bool true ∧ Ext w w' := by
  by_cases h : 1 ≤ z1 ∧ z1 ≤ 8 ∧ 1 ≤ z2 ∧ z2 ≤ 8 ∧ os.length ≤ 40
  · obtain ⟨k, rfl⟩ : ∃ k : Nat, z1 = (k : Int) := ⟨z1.toNat, by omega⟩
    obtain ⟨n, rfl⟩ : ∃ n : Nat, z2 = (n : Int) := ⟨z2.toNat, by omega⟩
    by_cases h8 : zs.length ≤ 8
    · exact tears_good k n z As cs zs Aw cw wl ws Ak ck kb A c hi os w hops hhi hzs hws hwy hrk hkq (by omega) (by omega) (by omega) (by omega) (by omega) h8
    · exact tears_long k n z As cs zs Aw cw wl ws Ak ck kb A c hi os w hops hhi hzs hws hwy hrk hkq (by omega) (by omega) (by omega) (by omega) (by omega) h8
  · exact tears_big z1 z2 z As cs zs Aw cw wl ws Ak ck kb A c hi os w hops hhi hzs hws hwy hrk hkq h
end Go.Proofs.Ytcgcklfbnmaodaa

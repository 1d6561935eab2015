/- The operations, as the laws call them; Same, SameAll, New. -/
import Derived.Test.YtcgcklfbnmaodaaD10
namespace Go.Proofs.Ytcgcklfbnmaodaa
open Go Go.RowKit
set_option linter.unusedVariables false
set_option linter.unusedSimpArgs false
theorem build_disk (n g k : Nat) (w : World) : (Instr.build 62 [(0, Value.int .i64 (n : Int)), (1, Value.slice (some ⟨g, 0, none⟩) k k)].toArray).run Try.prog w = .ok (.agg (dcells n ⟨some ⟨g, 0, none⟩, k, List.replicate k (none, 0, 0), none, 0, []⟩ k 0 false false 0).toArray) w := by kernel_rfl
theorem build_3 (x y z : UInt8) (w : World) : (Instr.buildSlice 22 3 [(0, bv x), (1, bv y), (2, bv z)].toArray).run Try.prog w = .ok (.slice (some ⟨w.heap.size, 0, none⟩) 3 3) (w.alloc (.cells [bv x, bv y, bv z].toArray 5)) := by unfold bv; kernel_rfl
theorem ex_strm {r : Option Nat} {P : Program} {N : Sz} {o : Oper} {l : Env} {w : World} {s t e lo hi c m : Nat} {A : Option Addr} {bs : List UInt8} {x : Operand} (hm : m = bs.length) (hs : P.underlying s = some (.slice e)) (he : P.underlying e = some (.int .u8)) (ht : P.underlying t = some .string) (ho : o.op = .convert s t x)
    (hx : ev l x = some (.slice A m c)) (hr : Rd w lo hi 1 A m (bcells bs)) : Ex r P N o l w (Dv (.string ⟨bs.toArray⟩) w) := by
  subst hm
  exact ex_str hs he ht ho hx hr

/-- kinkeep/kinkeepref15.Same -/
theorem same_c (A B : Option Addr) (m n c d lo hi lo2 hi2 : Nat) (xs ys : List UInt8) (w : World) (hm : m = xs.length) (hn : n = ys.length) (hr : Rd w lo hi 1 A m (bcells xs)) (hr2 : Rd w lo2 hi2 1 B n (bcells ys)) :
    Ret Try.prog 15 [.slice A m c, .slice B n d] w fun v w' => Dv (.bool (decide (xs = ys))) w v w' := by
  refine ret_of Try.func15 rfl rfl ?_
  refine w_seq ?_
  refine w_region ?_
  refine sv rfl rfl rfl (ex_assign rfl rfl) ?_
  refine w_nil (qe_next ?_)
  refine w_seq ?_
  refine w_region ?_
  refine sv rfl rfl rfl (ex_move rfl rfl) ?_
  refine sv rfl rfl rfl (ex_strm hm Try.underlying22 Try.underlying5 Try.underlying9 rfl rfl hr) ?_
  refine sv rfl rfl rfl (ex_move rfl rfl) ?_
  refine sv rfl rfl rfl (ex_strm hn Try.underlying22 Try.underlying5 Try.underlying9 rfl rfl hr2) ?_
  refine sv rfl rfl rfl (ex_streq rfl rfl rfl) ?_
  refine sv rfl rfl rfl (ex_assign rfl rfl) ?_
  refine w_nil (qe_next ?_)
  refine w_ret (qe_ret1 rfl rfl ?_)
  exact ⟨rfl, rfl⟩

theorem same_t (A B : Option Addr) (m n c d lo hi lo2 hi2 : Nat) (xs ys : List UInt8) (w : World) (hm : m = xs.length) (hn : n = ys.length) (hr : Rd w lo hi 1 A m (bcells xs)) (hr2 : Rd w lo2 hi2 1 B n (bcells ys)) (e : xs = ys) : Ret Try.prog 15 [.slice A m c, .slice B n d] w fun v w' => Dv (.bool true) w v w' :=
  (same_c A B m n c d lo hi lo2 hi2 xs ys w hm hn hr hr2).mono fun v w' h => ⟨by rw [h.1, decide_eq_true e], h.2⟩
theorem same_te (A B : Option Addr) (m n c d lo hi lo2 hi2 : Nat) (xs ys : List UInt8) (w : World) (hm : m = xs.length) (hn : n = ys.length) (hr : Rd w lo hi 1 A m (bcells xs)) (hr2 : Rd w lo2 hi2 1 B n (bcells ys)) (e : xs = ys) : Ret Try.prog 15 [.slice A m c, .slice B n d] w fun v w' => v = .bool true ∧ Ext w w' :=
  (same_t A B m n c d lo hi lo2 hi2 xs ys w hm hn hr hr2 e).mono fun v w' h => ⟨h.1, by rw [h.2]; exact Keep.refl _ _⟩

/-- kinkeep/kinkeepref15.SameAll -/
theorem sameAll_c (A B : Option Addr) (m n c d lo hi lo2 hi2 : Nat) (sl sl2 : List Sl) (xs : List (List UInt8)) (w : World) (hm : m = sl.length) (hn : n = sl2.length) (hl : xs.length ≤ 1000000) (hr : Rd w lo hi 1 A m (sl.map slv)) (hr2 : Rd w lo2 hi2 1 B n (sl2.map slv)) (h1 : Rds w sl xs) (h2 : Rds w sl2 xs) :
    Ret Try.prog 23 [.slice A m c, .slice B n d] w fun v w' => v = .bool true ∧ Ext w w' := by
  have K0 : Ext w w := Keep.refl _ _
  have hl1 := h1.1
  have hl2 := h2.1
  refine ret_of Try.func23 rfl rfl ?_
  refine w_seq ?_
  refine w_region ?_
  refine sv rfl rfl rfl (ex_assign rfl rfl) ?_
  refine w_nil (qe_next ?_)
  refine w_seq ?_
  refine w_seq ?_
  refine w_region ?_
  refine sv rfl rfl rfl (ex_move rfl rfl) ?_
  refine sv rfl rfl rfl (ex_len Try.underlying33 rfl rfl) ?_
  refine sv rfl rfl rfl (ex_move rfl rfl) ?_
  refine sv rfl rfl rfl (ex_len Try.underlying33 rfl rfl) ?_
  refine sv rfl rfl rfl (ex_cmp rfl rfl rfl (congrArg some (decide_eq_false (by omega)))) ?_
  refine w_nil (qe_next ?_)
  refine w_cond_f rfl ?_
  refine w_skip (qe_next ?_)
  refine w_seq ?_
  refine w_seq ?_
  refine w_region ?_
  refine sv rfl rfl rfl (ex_assign rfl rfl) ?_
  refine w_nil (qe_next ?_)
  refine w_block ?_
  refine w_loop (ι := Nat) (fun k => [(0, .slice A m c), (1, .slice B n d), (5, .int .i64 (k : Int))]) (fun k wL => k ≤ m ∧ Ext w wL) (fun k => m - k) (0) ⟨rfl, rfl, rfl, trivial⟩ ?_ ?_
  · exact ⟨Nat.zero_le _, K0⟩
  · clear K0
    rintro k wL ⟨hk, K0⟩
    refine w_seq ?_
    refine w_seq ?_
    refine w_region ?_
    refine sv rfl rfl rfl (ex_move rfl rfl) ?_
    refine sv rfl rfl rfl (ex_move rfl rfl) ?_
    refine sv rfl rfl rfl (ex_len Try.underlying33 rfl rfl) ?_
    refine sv rfl rfl rfl (ex_cmp rfl rfl rfl rfl) ?_
    refine w_nil (qe_next ?_)
    refine w_if rfl (fun hk2 => ?_) (fun hk2 => ?_)
    · skip
      replace hk2 : k < m := by omega
      refine w_skip (qe_next ?_)
      refine w_seq ?_
      refine w_block ?_
      refine w_seq ?_
      refine w_draw mixed (fun w1 _ Ew1 => ?_)
      replace K0 := K0.ext Ew1
      obtain ⟨b1, o1, u1, rfl, _, _, hu1, hc1⟩ := (hr.ext K0).at_ (k := k) (by omega)
      rw [List.getElem?_map] at hu1
      obtain ⟨s1, hs1, rfl⟩ := Option.map_eq_some_iff.1 hu1
      obtain ⟨y1, hy1, hl1, _, _, hd1⟩ := (h1.ext K0).2 _ _ hs1
      obtain ⟨b2, o2, u2, rfl, _, _, hu2, hc2⟩ := (hr2.ext K0).at_ (k := k) (by omega)
      rw [List.getElem?_map] at hu2
      obtain ⟨s2, hs2, rfl⟩ := Option.map_eq_some_iff.1 hu2
      obtain ⟨y2, hy2, hl2, _, _, hd2⟩ := (h2.ext K0).2 _ _ hs2
      rw [hy1] at hy2
      cases hy2
      refine wd_free 8 _ rfl rfl rfl rfl ?_
      refine fd [] rfl rfl rfl rfl rfl rfl rfl (fun w' E => ex_move rfl rfl) ?_
      refine fd [] rfl rfl rfl rfl rfl rfl rfl (fun w' E => ex_move rfl rfl) ?_
      refine fd [0, 1] rfl rfl rfl rfl rfl rfl rfl (fun w' E => ex_index Try.underlying33 sz22 k rfl rfl rfl rfl (by omega)) ?_
      refine fd [2] rfl rfl rfl rfl rfl rfl rfl (fun w' E => ex_load (v := .slice s1.1 s1.2.1 s1.2.2) one22 rfl rfl (E.cell trivial hc1)) ?_
      refine fd [] rfl rfl rfl rfl rfl rfl rfl (fun w' E => ex_move rfl rfl) ?_
      refine fd [] rfl rfl rfl rfl rfl rfl rfl (fun w' E => ex_move rfl rfl) ?_
      refine fd [4, 5] rfl rfl rfl rfl rfl rfl rfl (fun w' E => ex_index Try.underlying33 sz22 k rfl rfl rfl rfl (by omega)) ?_
      refine fd [6] rfl rfl rfl rfl rfl rfl rfl (fun w' E => ex_load (v := .slice s2.1 s2.2.1 s2.2.2) one22 rfl rfl (E.cell trivial hc2)) ?_
      refine .nil (fun w2 Ew2 _ => ?_)
      replace K0 := K0.ext Ew2
      obtain ⟨y3, hy3, hl3, _, _, hd3⟩ := (h1.ext K0).2 _ _ hs1
      obtain ⟨y4, hy4, hl4, _, _, hd4⟩ := (h2.ext K0).2 _ _ hs2
      have hy34 : y3 = y4 := by rw [hy3] at hy4; exact Option.some.inj hy4
      refine wd_one rfl rfl (by kernel_rfl) rfl rfl rfl (ex_call call15 rfl rfl (same_t _ _ _ _ _ _ _ _ _ _ y3 y4 _ hl3 hl4 hd3 hd4 hy34)) ?_
      rintro _ w3 ⟨rfl, hwe⟩
      obtain rfl := hwe.symm
      refine wd_v rfl rfl (by kernel_rfl) rfl rfl rfl (ex_not rfl rfl) ?_
      refine wd_nil (by decide) rfl ?_
      refine qe_next ?_
      refine w_cond_f rfl ?_
      refine w_skip (qe_in_normal (qe_next ?_))
      refine w_region ?_
      refine sv rfl rfl rfl (ex_move rfl rfl) ?_
      refine sv rfl rfl rfl (ex_add rfl rfl rfl (i64_in (by omega) (by omega))) ?_
      refine sv rfl rfl rfl (ex_assign rfl rfl) ?_
      refine w_nil (qe_round (k + 1) ⟨rfl, rfl, rfl, trivial⟩ ?_ ?_)
      · exact ⟨by omega, K0⟩
      · omega
    · skip
      refine w_exit (qe_then_exit (qe_then_exit (qe_in_exit (qe_next ?_))))
      refine w_seq ?_
      refine w_region ?_
      refine sv rfl rfl rfl (ex_assign rfl rfl) ?_
      refine w_nil (qe_next ?_)
      refine w_ret (qe_ret1 rfl rfl ?_)
      exact ⟨rfl, K0⟩

/-- kinkeep/kinkeepref15.Numbers -/
theorem numbers_c (z1 z2 : Int) (w : World) :
    Ret Try.prog 18 [.int .i64 z1, .int .i64 z2] w fun v w' => Dv (.bool (decide (1 ≤ z1 ∧ z1 ≤ 65536 ∧ 1 ≤ z2 ∧ z2 ≤ 4096))) w v w' := by
  refine ret_of Try.func18 rfl rfl ?_
  refine w_seq ?_
  refine w_region ?_
  refine sv rfl rfl rfl (ex_assign rfl rfl) ?_
  refine w_nil (qe_next ?_)
  refine w_seq ?_
  refine w_region ?_
  refine sv rfl rfl rfl (ex_move rfl rfl) ?_
  refine sv_if rfl rfl rfl (ex_cmp rfl rfl rfl rfl) (fun h1 => ?_) (fun h1 => ?_)
  · skip
    refine sv rfl rfl rfl (ex_move rfl rfl) ?_
    first | refine sk rfl rfl rfl ?_ | refine sv rfl rfl rfl (ex_move rfl rfl) ?_
    refine sv_if rfl rfl rfl (ex_cmp rfl rfl rfl rfl) (fun h2 => ?_) (fun h2 => ?_)
    · skip
      first | refine sv rfl rfl rfl (ex_pick_t rfl rfl rfl) ?_ | refine sv rfl rfl rfl (ex_pick_f rfl rfl rfl) ?_
      refine sv rfl rfl rfl (ex_move rfl rfl) ?_
      first | refine sk rfl rfl rfl ?_ | refine sv rfl rfl rfl (ex_move rfl rfl) ?_
      refine sv_if rfl rfl rfl (ex_cmp rfl rfl rfl rfl) (fun h3 => ?_) (fun h3 => ?_)
      · skip
        first | refine sv rfl rfl rfl (ex_pick_t rfl rfl rfl) ?_ | refine sv rfl rfl rfl (ex_pick_f rfl rfl rfl) ?_
        refine sv rfl rfl rfl (ex_move rfl rfl) ?_
        first | refine sk rfl rfl rfl ?_ | refine sv rfl rfl rfl (ex_move rfl rfl) ?_
        first | refine sk rfl rfl rfl ?_ | refine sv rfl rfl rfl (ex_cmp rfl rfl rfl rfl) ?_
        first | refine sv rfl rfl rfl (ex_pick_t rfl rfl rfl) ?_ | refine sv rfl rfl rfl (ex_pick_f rfl rfl rfl) ?_
        refine sv rfl rfl rfl (ex_assign rfl rfl) ?_
        refine w_nil (qe_next ?_)
        refine w_ret (qe_ret1 rfl rfl ?_)
        exact ⟨congrArg Value.bool (by first | exact decide_eq_decide.2 (by omega) | exact (decide_eq_false (by omega)).symm), rfl⟩
      · skip
        first | refine sv rfl rfl rfl (ex_pick_t rfl rfl rfl) ?_ | refine sv rfl rfl rfl (ex_pick_f rfl rfl rfl) ?_
        refine sv rfl rfl rfl (ex_move rfl rfl) ?_
        first | refine sk rfl rfl rfl ?_ | refine sv rfl rfl rfl (ex_move rfl rfl) ?_
        refine sk rfl rfl rfl ?_
        first | refine sv rfl rfl rfl (ex_pick_t rfl rfl rfl) ?_ | refine sv rfl rfl rfl (ex_pick_f rfl rfl rfl) ?_
        refine sv rfl rfl rfl (ex_assign rfl rfl) ?_
        refine w_nil (qe_next ?_)
        refine w_ret (qe_ret1 rfl rfl ?_)
        exact ⟨congrArg Value.bool (by first | exact decide_eq_decide.2 (by omega) | exact (decide_eq_false (by omega)).symm), rfl⟩
    · skip
      first | refine sv rfl rfl rfl (ex_pick_t rfl rfl rfl) ?_ | refine sv rfl rfl rfl (ex_pick_f rfl rfl rfl) ?_
      refine sv rfl rfl rfl (ex_move rfl rfl) ?_
      first | refine sk rfl rfl rfl ?_ | refine sv rfl rfl rfl (ex_move rfl rfl) ?_
      refine sk rfl rfl rfl ?_
      first | refine sv rfl rfl rfl (ex_pick_t rfl rfl rfl) ?_ | refine sv rfl rfl rfl (ex_pick_f rfl rfl rfl) ?_
      refine sv rfl rfl rfl (ex_move rfl rfl) ?_
      first | refine sk rfl rfl rfl ?_ | refine sv rfl rfl rfl (ex_move rfl rfl) ?_
      refine sk rfl rfl rfl ?_
      first | refine sv rfl rfl rfl (ex_pick_t rfl rfl rfl) ?_ | refine sv rfl rfl rfl (ex_pick_f rfl rfl rfl) ?_
      refine sv rfl rfl rfl (ex_assign rfl rfl) ?_
      refine w_nil (qe_next ?_)
      refine w_ret (qe_ret1 rfl rfl ?_)
      exact ⟨congrArg Value.bool (by first | exact decide_eq_decide.2 (by omega) | exact (decide_eq_false (by omega)).symm), rfl⟩
  · skip
    refine sv rfl rfl rfl (ex_move rfl rfl) ?_
    first | refine sk rfl rfl rfl ?_ | refine sv rfl rfl rfl (ex_move rfl rfl) ?_
    refine sk rfl rfl rfl ?_
    first | refine sv rfl rfl rfl (ex_pick_t rfl rfl rfl) ?_ | refine sv rfl rfl rfl (ex_pick_f rfl rfl rfl) ?_
    refine sv rfl rfl rfl (ex_move rfl rfl) ?_
    first | refine sk rfl rfl rfl ?_ | refine sv rfl rfl rfl (ex_move rfl rfl) ?_
    refine sk rfl rfl rfl ?_
    first | refine sv rfl rfl rfl (ex_pick_t rfl rfl rfl) ?_ | refine sv rfl rfl rfl (ex_pick_f rfl rfl rfl) ?_
    refine sv rfl rfl rfl (ex_move rfl rfl) ?_
    first | refine sk rfl rfl rfl ?_ | refine sv rfl rfl rfl (ex_move rfl rfl) ?_
    refine sk rfl rfl rfl ?_
    first | refine sv rfl rfl rfl (ex_pick_t rfl rfl rfl) ?_ | refine sv rfl rfl rfl (ex_pick_f rfl rfl rfl) ?_
    refine sv rfl rfl rfl (ex_assign rfl rfl) ?_
    refine w_nil (qe_next ?_)
    refine w_ret (qe_ret1 rfl rfl ?_)
    exact ⟨congrArg Value.bool (by first | exact decide_eq_decide.2 (by omega) | exact (decide_eq_false (by omega)).symm), rfl⟩

/-- kinkeep/disk.New -/
theorem new_c (k n : Nat) (w : World) (h1 : 1 ≤ k) (h2 : k ≤ 65536) (h3 : 1 ≤ n) (h4 : n ≤ 4096) :
    Ret Try.prog 12 [.int .i64 (k : Int), .int .i64 (n : Int)] w fun v w' => ∃ (kd : Nat) (F : Nat → Prop), v = .tuple #[.pointer (some ⟨kd, 0, none⟩), .int .i64 0] ∧ DiskAt w' F kd (fresh n k) ∧ (∀ j, F j → w.heap.size ≤ j) ∧ Ext w w' := by
  have K0 : Ext w w := Keep.refl _ _
  refine ret_of Try.func12 rfl rfl ?_
  refine w_seq ?_
  refine w_region ?_
  refine sv rfl rfl rfl (ex_assign rfl rfl) ?_
  refine sv rfl rfl rfl (ex_assign rfl rfl) ?_
  refine w_nil (qe_next ?_)
  refine w_seq ?_
  refine w_seq ?_
  refine w_region ?_
  refine sv rfl rfl rfl (ex_move rfl rfl) ?_
  refine sv rfl rfl rfl (ex_cmp rfl rfl rfl (congrArg some (decide_eq_false (by omega)))) ?_
  refine sv rfl rfl rfl (ex_move rfl rfl) ?_
  first | refine sk rfl rfl rfl ?_ | refine sv rfl rfl rfl (ex_move rfl rfl) ?_
  first | refine sk rfl rfl rfl ?_ | refine sv rfl rfl rfl (ex_cmp rfl rfl rfl (congrArg some (decide_eq_false (by omega)))) ?_
  first | refine sv rfl rfl rfl (ex_pick_t rfl rfl rfl) ?_ | refine sv rfl rfl rfl (ex_pick_f rfl rfl rfl) ?_
  refine sv rfl rfl rfl (ex_move rfl rfl) ?_
  first | refine sk rfl rfl rfl ?_ | refine sv rfl rfl rfl (ex_move rfl rfl) ?_
  first | refine sk rfl rfl rfl ?_ | refine sv rfl rfl rfl (ex_cmp rfl rfl rfl (congrArg some (decide_eq_false (by omega)))) ?_
  first | refine sv rfl rfl rfl (ex_pick_t rfl rfl rfl) ?_ | refine sv rfl rfl rfl (ex_pick_f rfl rfl rfl) ?_
  refine sv rfl rfl rfl (ex_move rfl rfl) ?_
  first | refine sk rfl rfl rfl ?_ | refine sv rfl rfl rfl (ex_move rfl rfl) ?_
  first | refine sk rfl rfl rfl ?_ | refine sv rfl rfl rfl (ex_cmp rfl rfl rfl (congrArg some (decide_eq_false (by omega)))) ?_
  first | refine sv rfl rfl rfl (ex_pick_t rfl rfl rfl) ?_ | refine sv rfl rfl rfl (ex_pick_f rfl rfl rfl) ?_
  refine w_nil (qe_next ?_)
  refine w_cond_f rfl ?_
  refine w_skip (qe_next ?_)
  refine w_seq ?_
  refine w_region ?_
  refine sv rfl rfl rfl (ex_move rfl rfl) ?_
  refine sv rfl rfl rfl (ex_move rfl rfl) ?_
  refine st rfl rfl rfl (ex_make Try.underlying33 z22 k rfl rfl rfl rfl rfl (by omega) (by omega)) ?_
  rintro _ w1 ⟨g, rfl, hg0, E1, hg, hs1⟩
  replace K0 := K0.ext E1
  refine sv rfl rfl rfl (ex_build rfl rfl (build_disk n g k)) ?_
  have hz1 := K0.size
  refine st rfl rfl rfl (ex_box (cs := dcells n ⟨some ⟨g, 0, none⟩, k, List.replicate k (none, 0, 0), none, 0, []⟩ k 0 false false 0) rfl rfl rfl) ?_
  rintro _ w2 ⟨kd, rfl, hk0, E2, hk, hs2⟩
  replace K0 := K0.ext E2
  replace hg := hg.ext E2
  refine sv rfl rfl rfl (ex_assign rfl rfl) ?_
  refine sv rfl rfl rfl (ex_assign rfl rfl) ?_
  refine w_nil (qe_next ?_)
  refine w_ret (qe_ret2 rfl rfl rfl ?_)
  have ho := Own.of_blk (lo := 0) (n := k) (c := k) (size := 1) hg (Nat.zero_le _) (Nat.le_refl _) (by unfold maxLen; omega) (by simp)
  rw [show List.take (k * 1) (List.replicate k (Value.slice none 0 0)) = List.replicate k (Value.slice none 0 0) from by simp] at ho
  have hm := Mem.start (tw := 66) (F := fun j => j = g ∨ j = kd) ho (fun g' o e => by injection e with e; injection e with e; exact .inl e.symm) (fun j hj => by rcases hj with rfl | rfl <;> omega)
  refine ⟨kd, fun j => j = g ∨ j = kd, rfl, DiskAt.intro (r := ⟨some ⟨g, 0, none⟩, k, List.replicate k (none, 0, 0), none, 0, []⟩) (rd := List.replicate k []) (arm := false) (aft := 0) (by rw [List.length_replicate]; exact hk) hm (.inr rfl) (by simp [fresh, con]) (fun y hy => .inl (List.eq_of_mem_replicate hy)) (fun j sj hj _ => ?_) rfl (fun h => by simp [fresh] at h) (fresh_wf h3 h4 h2), fun j hj => by rcases hj with rfl | rfl <;> omega, K0⟩
  rw [List.eq_of_mem_replicate (List.mem_of_getElem? hj)]

/-- kinkeep/disk.New -/
theorem newBad_c (z1 z2 : Int) (w : World) (h : ¬ (1 ≤ z1 ∧ z1 ≤ 65536 ∧ 1 ≤ z2 ∧ z2 ≤ 4096)) :
    Ret Try.prog 12 [.int .i64 z1, .int .i64 z2] w fun v w' => Dv (.tuple #[.pointer none, .int .i64 1]) w v w' := by
  refine ret_of Try.func12 rfl rfl ?_
  refine w_seq ?_
  refine w_region ?_
  refine sv rfl rfl rfl (ex_assign rfl rfl) ?_
  refine sv rfl rfl rfl (ex_assign rfl rfl) ?_
  refine w_nil (qe_next ?_)
  refine w_seq ?_
  refine w_seq ?_
  refine w_region ?_
  refine sv rfl rfl rfl (ex_move rfl rfl) ?_
  refine sv_if rfl rfl rfl (ex_cmp rfl rfl rfl rfl) (fun h1 => ?_) (fun h1 => ?_)
  · skip
    refine sv rfl rfl rfl (ex_move rfl rfl) ?_
    first | refine sk rfl rfl rfl ?_ | refine sv rfl rfl rfl (ex_move rfl rfl) ?_
    refine sk rfl rfl rfl ?_
    first | refine sv rfl rfl rfl (ex_pick_t rfl rfl rfl) ?_ | refine sv rfl rfl rfl (ex_pick_f rfl rfl rfl) ?_
    refine sv rfl rfl rfl (ex_move rfl rfl) ?_
    first | refine sk rfl rfl rfl ?_ | refine sv rfl rfl rfl (ex_move rfl rfl) ?_
    refine sk rfl rfl rfl ?_
    first | refine sv rfl rfl rfl (ex_pick_t rfl rfl rfl) ?_ | refine sv rfl rfl rfl (ex_pick_f rfl rfl rfl) ?_
    refine sv rfl rfl rfl (ex_move rfl rfl) ?_
    first | refine sk rfl rfl rfl ?_ | refine sv rfl rfl rfl (ex_move rfl rfl) ?_
    refine sk rfl rfl rfl ?_
    first | refine sv rfl rfl rfl (ex_pick_t rfl rfl rfl) ?_ | refine sv rfl rfl rfl (ex_pick_f rfl rfl rfl) ?_
    refine w_nil (qe_next ?_)
    refine w_cond_t rfl ?_
    refine w_seq ?_
    refine w_region ?_
    refine sv rfl rfl rfl (ex_assign rfl rfl) ?_
    refine sv rfl rfl rfl (ex_assign rfl rfl) ?_
    refine w_nil (qe_next ?_)
    refine w_ret (qe_then_ret (qe_ret2 rfl rfl rfl ?_))
    exact ⟨rfl, rfl⟩
  · skip
    refine sv rfl rfl rfl (ex_move rfl rfl) ?_
    first | refine sk rfl rfl rfl ?_ | refine sv rfl rfl rfl (ex_move rfl rfl) ?_
    refine sv_if rfl rfl rfl (ex_cmp rfl rfl rfl rfl) (fun h2 => ?_) (fun h2 => ?_)
    · skip
      first | refine sv rfl rfl rfl (ex_pick_t rfl rfl rfl) ?_ | refine sv rfl rfl rfl (ex_pick_f rfl rfl rfl) ?_
      refine sv rfl rfl rfl (ex_move rfl rfl) ?_
      first | refine sk rfl rfl rfl ?_ | refine sv rfl rfl rfl (ex_move rfl rfl) ?_
      refine sk rfl rfl rfl ?_
      first | refine sv rfl rfl rfl (ex_pick_t rfl rfl rfl) ?_ | refine sv rfl rfl rfl (ex_pick_f rfl rfl rfl) ?_
      refine sv rfl rfl rfl (ex_move rfl rfl) ?_
      first | refine sk rfl rfl rfl ?_ | refine sv rfl rfl rfl (ex_move rfl rfl) ?_
      refine sk rfl rfl rfl ?_
      first | refine sv rfl rfl rfl (ex_pick_t rfl rfl rfl) ?_ | refine sv rfl rfl rfl (ex_pick_f rfl rfl rfl) ?_
      refine w_nil (qe_next ?_)
      refine w_cond_t rfl ?_
      refine w_seq ?_
      refine w_region ?_
      refine sv rfl rfl rfl (ex_assign rfl rfl) ?_
      refine sv rfl rfl rfl (ex_assign rfl rfl) ?_
      refine w_nil (qe_next ?_)
      refine w_ret (qe_then_ret (qe_ret2 rfl rfl rfl ?_))
      exact ⟨rfl, rfl⟩
    · skip
      first | refine sv rfl rfl rfl (ex_pick_t rfl rfl rfl) ?_ | refine sv rfl rfl rfl (ex_pick_f rfl rfl rfl) ?_
      refine sv rfl rfl rfl (ex_move rfl rfl) ?_
      first | refine sk rfl rfl rfl ?_ | refine sv rfl rfl rfl (ex_move rfl rfl) ?_
      refine sv_if rfl rfl rfl (ex_cmp rfl rfl rfl rfl) (fun h3 => ?_) (fun h3 => ?_)
      · skip
        first | refine sv rfl rfl rfl (ex_pick_t rfl rfl rfl) ?_ | refine sv rfl rfl rfl (ex_pick_f rfl rfl rfl) ?_
        refine sv rfl rfl rfl (ex_move rfl rfl) ?_
        first | refine sk rfl rfl rfl ?_ | refine sv rfl rfl rfl (ex_move rfl rfl) ?_
        refine sk rfl rfl rfl ?_
        first | refine sv rfl rfl rfl (ex_pick_t rfl rfl rfl) ?_ | refine sv rfl rfl rfl (ex_pick_f rfl rfl rfl) ?_
        refine w_nil (qe_next ?_)
        refine w_cond_t rfl ?_
        refine w_seq ?_
        refine w_region ?_
        refine sv rfl rfl rfl (ex_assign rfl rfl) ?_
        refine sv rfl rfl rfl (ex_assign rfl rfl) ?_
        refine w_nil (qe_next ?_)
        refine w_ret (qe_then_ret (qe_ret2 rfl rfl rfl ?_))
        exact ⟨rfl, rfl⟩
      · skip
        first | refine sv rfl rfl rfl (ex_pick_t rfl rfl rfl) ?_ | refine sv rfl rfl rfl (ex_pick_f rfl rfl rfl) ?_
        refine sv rfl rfl rfl (ex_move rfl rfl) ?_
        first | refine sk rfl rfl rfl ?_ | refine sv rfl rfl rfl (ex_move rfl rfl) ?_
        first | refine sk rfl rfl rfl ?_ | refine sv rfl rfl rfl (ex_cmp rfl rfl rfl (congrArg some (decide_eq_true (by omega)))) ?_
        first | refine sv rfl rfl rfl (ex_pick_t rfl rfl rfl) ?_ | refine sv rfl rfl rfl (ex_pick_f rfl rfl rfl) ?_
        refine w_nil (qe_next ?_)
        refine w_cond_t rfl ?_
        refine w_seq ?_
        refine w_region ?_
        refine sv rfl rfl rfl (ex_assign rfl rfl) ?_
        refine sv rfl rfl rfl (ex_assign rfl rfl) ?_
        refine w_nil (qe_next ?_)
        refine w_ret (qe_then_ret (qe_ret2 rfl rfl rfl ?_))
        exact ⟨rfl, rfl⟩

theorem write_e (z e : Int) (Ad : Option Addr) (c lo hi : Nat) (ds : List UInt8) (s' : St) (F : Nat → Prop) (k : Nat) (s : St) (w : World) (hD : DiskAt w F k s) (hr : Rd w lo hi 1 Ad ds.length (bcells ds)) (hpl : s.pd.length ≤ 1000) (hs : s.write z ds = (e, s')) : Ret Try.prog 13 [.pointer (some ⟨k, 0, none⟩), .int .i64 z, .slice Ad ds.length c] w fun v w' => ∃ F', v = .int .i64 e ∧ DiskAt w' F' k s' ∧ (∀ j, F' j → F j ∨ w.heap.size ≤ j) ∧ (∀ j, F j → F' j) ∧ Keep (fun j => ¬ F j) w w' := by
  refine (write_c z Ad c lo hi ds F k s w hD hr hpl).mono fun v w' h => ?_
  rw [hs] at h
  exact ⟨_, h.1, h.2.1, fun j hj => hj.imp id fun h => h.1, fun j hj => .inl hj, h.2.2⟩

theorem sync_e (e : Int) (s' : St) (F : Nat → Prop) (k : Nat) (s : St) (w : World) (hD : DiskAt w F k s) (hpl : s.pd.length ≤ 1000) (hs : s.sync = (e, s')) : Ret Try.prog 16 [.pointer (some ⟨k, 0, none⟩)] w fun v w' => ∃ F', v = .int .i64 e ∧ DiskAt w' F' k s' ∧ (∀ j, F' j → F j ∨ w.heap.size ≤ j) ∧ (∀ j, F j → F' j) ∧ Keep (fun j => ¬ F j) w w' := by
  refine (sync_c F k s w hD hpl).mono fun v w' h => ?_
  rw [hs] at h
  exact ⟨_, h.1, h.2.1, fun j hj => hj.imp id fun h => h.1, fun j hj => .inl hj, h.2.2⟩

theorem spoil_e (z o e : Int) (x : UInt8) (s' : St) (F : Nat → Prop) (k : Nat) (s : St) (w : World) (hD : DiskAt w F k s) (hs : s.spoil z o x = (e, s')) : Ret Try.prog 28 [.pointer (some ⟨k, 0, none⟩), .int .i64 z, .int .i64 o, bv x] w fun v w' => ∃ F', v = .int .i64 e ∧ DiskAt w' F' k s' ∧ (∀ j, F' j → F j ∨ w.heap.size ≤ j) ∧ (∀ j, F j → F' j) ∧ Keep (fun j => ¬ F j) w w' := by
  refine (spoil_c z o x F k s w hD).mono fun v w' h => ?_
  rw [hs] at h
  exact ⟨_, h.1, h.2.1, fun j hj => hj.imp id fun h => h.1, fun j hj => .inl hj, h.2.2⟩

theorem crash_e (kb : List Bool) (z : Int) (Ak : Option Addr) (nk ck lo hi : Nat) (s' : St) (F : Nat → Prop) (k : Nat) (s : St) (w : World) (hD : DiskAt w F k s) (hnk : nk = kb.length) (hrk : Rd w lo hi 1 Ak nk (kb.map Value.bool)) (hkF : ∀ g o, Ak = some ⟨g, o, none⟩ → 0 < nk → ¬ F g) (hpl : s.pd.length ≤ 1000) (hnk2 : nk ≤ 9223372036854775807) (hs : s.crash kb z = s') : Ret Try.prog 27 [.pointer (some ⟨k, 0, none⟩), .slice Ak nk ck, .int .i64 z] w fun v w' => ∃ F', v = .tuple #[] ∧ DiskAt w' F' k s' ∧ (∀ j, F' j → F j ∨ w.heap.size ≤ j) ∧ (∀ j, F j → F' j) ∧ Keep (fun j => ¬ F j) w w' := by
  refine (crash_c kb z Ak nk ck lo hi F k s w hD hnk hrk hkF hpl hnk2).mono fun v w' h => ?_
  rw [hs] at h
  exact ⟨_, h.1, h.2.1, fun j hj => hj.imp id fun h => h.1, fun j hj => .inl hj, h.2.2⟩

theorem fail_e (z : Int) (s' : St) (F : Nat → Prop) (k : Nat) (s : St) (w : World) (hD : DiskAt w F k s) (hz : z ≤ 9223372036854775807) (hs : s.fail z = s') : Ret Try.prog 30 [.pointer (some ⟨k, 0, none⟩), .int .i64 z] w fun v w' => v = .tuple #[] ∧ DiskAt w' F k s' ∧ Keep (fun j => ¬ F j) w w' := by
  refine (fail_c z F k s w hD hz).mono fun v w' h => ?_
  rw [hs] at h
  obtain ⟨_, _, _, _, _, _, hk, _⟩ := hD
  exact ⟨h.1, h.2.1, h.2.2.mono fun j _ hj e => hj (by rw [e]; exact hk)⟩

theorem read_e (z e : Int) (bs : List UInt8) (F : Nat → Prop) (k : Nat) (s : St) (w : World) (hD : DiskAt w F k s) (hpl : s.pd.length ≤ 1000) (hs : s.read z = (bs, e)) : Ret Try.prog 14 [.pointer (some ⟨k, 0, none⟩), .int .i64 z] w fun v w' => ∃ B d, v = .tuple #[.slice B bs.length d, .int .i64 e] ∧ Own w' w.heap.size 5 1 B bs.length d (bcells bs) ∧ Ext w w' := by
  have h := read_c z F k s w hD hpl
  rw [hs] at h
  exact h
end Go.Proofs.Ytcgcklfbnmaodaa

/- put. -/
import Derived.Test.YtcgcklfbnmaodaaD2
namespace Go.Proofs.Ytcgcklfbnmaodaa
open Go Go.RowKit
set_option linter.unusedVariables false
set_option linter.unusedSimpArgs false
theorem Rd.keepA {S : Nat → Prop} {w w' : World} {lo hi size n : Nat} {A : Option Addr} {xs : List Value} (h : Rd w lo hi size A n xs) (k : Keep S w w') (hS : ∀ g o, A = some ⟨g, o, none⟩ → S g) : Rd w' lo hi size A n xs :=
  ⟨h.1, fun hn => by
    obtain ⟨b, o, e, h1, h2, hc⟩ := h.2 hn
    exact ⟨b, o, e, h1, h2, fun j u hu => k.cell (hS b o e) (hc j u hu)⟩⟩
theorem Own.none_nil {w : World} {lo size n c : Nat} {e : TypeId} {xs : List Value} (h : Own w lo e size none n c xs) : n = 0 := by
  rcases h.form with ⟨_, h, _⟩ | ⟨g, h, _⟩
  · exact h
  · cases h
theorem NilAt.set {dsl dsl' : List Sl} {rd : List (List UInt8)} {i : Nat} {y : List UInt8} (h : NilAt dsl rd) (hd : ∀ j, j ≠ i → dsl'[j]? = dsl[j]?) (hy : y ≠ []) : NilAt dsl' (rd.set i y) := fun j sj hj he => by
  rw [List.getElem?_set] at he
  by_cases e : i = j
  · subst e
    rw [if_pos rfl] at he
    split at he
    · cases he; exact absurd rfl hy
    · cases he
  · rw [if_neg e] at he
    rw [hd j (fun e' => e e'.symm)] at hj
    exact h j sj hj he

/-- (*kinkeep/disk.Disk).put -/
theorem put_c (i n m cd lo hi pl : Nat) (Ad : Option Addr) (ds : List UInt8) (F : Nat → Prop) (k : Nat) (A : Option Addr) (cA : Nat) (dsl : List Sl) (P : Option Addr) (cP : Nat) (wl : List (Nat × Sl)) (rd : List (List UInt8)) (pd : List (Nat × List UInt8)) (off arm : Bool) (aft : Int) (w : World) (hb : Blk w k 62 (dcells n ⟨A, cA, dsl, P, cP, wl⟩ rd.length pl off arm aft)) (hm : Mem 66 w F ⟨A, cA, dsl, P, cP, wl⟩ rd pd) (hFk : F k) (hnil : NilAt dsl rd) (hrd : ∀ y ∈ rd, y = [] ∨ y.length = n) (n1 : 1 ≤ n) (n2 : n ≤ 4096) (d1 : rd.length ≤ 65536) (hi2 : i < rd.length) (hmd : m = ds.length) (hmn : m ≤ n) (hr : Rd w lo hi 1 Ad m (bcells ds)) (hsA : Sep A Ad) :
    Ret Try.prog 36 [.pointer (some ⟨k, 0, none⟩), .int .i64 (i : Int), .slice Ad m cd] w fun v w' => ∃ dsl', Blk w' k 62 (dcells n ⟨A, cA, dsl', P, cP, wl⟩ rd.length pl off arm aft) ∧ Mem 66 w' (grown F w w') ⟨A, cA, dsl', P, cP, wl⟩ (rd.set i (ds ++ (con n (rd.getD i [])).drop m)) pd ∧ NilAt dsl' (rd.set i (ds ++ (con n (rd.getD i [])).drop m)) ∧ Keep (fun j => ¬ F j) w w' := by
  have K0 := Keep.refl (fun j => ¬ F j) w
  have hFlt := hm.lt
  have ho : Own w 0 22 1 A rd.length cA (dsl.map slv) := hm.own
  have hd : Owns w 0 dsl rd := hm.dat
  obtain ⟨bb, oo, u, rfl, _, _, hu, hc⟩ := ho.rd.at_ (k := i) (by omega)
  rw [List.getElem?_map] at hu
  obtain ⟨si, hsi, rfl⟩ := Option.map_eq_some_iff.1 hu
  obtain ⟨yi, hyi, hli, hoi⟩ := hd.get hsi
  refine ret_of Try.func36 rfl rfl ?_
  refine w_seq ?_
  refine w_seq ?_
  refine w_region ?_
  refine sv rfl rfl rfl (ex_move rfl rfl) ?_
  refine sv rfl rfl rfl (ex_nil rfl rfl) ?_
  refine sv rfl rfl rfl (ex_fieldAddr fld62_1 rfl rfl) ?_
  refine sv rfl rfl rfl (ex_load one33 rfl rfl (hb.cell rfl)) ?_
  refine sv rfl rfl rfl (ex_move rfl rfl) ?_
  refine sv rfl rfl rfl (ex_index Try.underlying33 sz22 (i) rfl rfl rfl (by first | rfl | omega) (by omega)) ?_
  refine sv rfl rfl rfl (ex_load (v := .slice si.1 si.2.1 si.2.2) one22 rfl rfl hc) ?_
  refine sv rfl rfl rfl (ex_sliceNil Try.underlying22 rfl rfl rfl) ?_
  refine w_nil (qe_next ?_)
  refine w_cond rfl (fun hn => ?_) (fun hn => ?_)
  · skip
    have hs1 : si.1 = none := by cases h : si.1 with | none => rfl | some a => rw [h] at hn; cases hn
    have hyn : yi = [] := List.eq_nil_of_length_eq_zero (by rw [← hli]; have := hoi; rw [hs1] at this; exact this.none_nil)
    refine w_draw mixed (fun w1 _ Ew1 => ?_)
    replace hb := hb.ext Ew1
    replace hm := hm.ext Ew1
    replace ho := ho.ext Ew1
    replace hd := hd.ext Ew1
    replace hr := hr.ext Ew1
    replace K0 := K0.ext Ew1
    obtain ⟨b8, o8, u8, he8, _, _, hu8, hc8⟩ := ho.rd.at_ (k := i) (by omega)
    cases he8
    refine wd_free 10 _ rfl rfl rfl rfl ?_
    refine fd [] rfl rfl rfl rfl rfl rfl rfl (fun w' E => ex_move rfl rfl) ?_
    refine fd [0] rfl rfl rfl rfl rfl rfl rfl (fun w' E => ex_nil rfl rfl) ?_
    refine fd [1] rfl rfl rfl rfl rfl rfl rfl (fun w' E => ex_fieldAddr fld62_1 rfl rfl) ?_
    refine fd [2] rfl rfl rfl rfl rfl rfl rfl (fun w' E => ex_load one33 rfl rfl (E.cell trivial (hb.cell rfl))) ?_
    refine fd [] rfl rfl rfl rfl rfl rfl rfl (fun w' E => ex_move rfl rfl) ?_
    refine fd [] rfl rfl rfl rfl rfl rfl rfl (fun w' E => ex_move rfl rfl) ?_
    refine fd [5] rfl rfl rfl rfl rfl rfl rfl (fun w' E => ex_nil rfl rfl) ?_
    refine fd [6] rfl rfl rfl rfl rfl rfl rfl (fun w' E => ex_fieldAddr fld62_0 rfl rfl) ?_
    refine fd [7] rfl rfl rfl rfl rfl rfl rfl (fun w' E => ex_load one3 rfl rfl (E.cell trivial (hb.cell rfl))) ?_
    refine fx [8] (Φ := fun v' w' => ∃ g, v' = .slice (some ⟨g, 0, none⟩) n n ∧ w.heap.size ≤ g ∧ Blk w' g 5 (List.replicate n (.int .u8 0))) rfl rfl rfl rfl rfl rfl rfl (fun _ _ _ k ⟨g, h1, h2, h3⟩ => ⟨g, h1, h2, h3.ext k⟩) (fun w' E => (ex_make Try.underlying22 z5 n rfl rfl rfl rfl rfl (by omega) (by omega)).mono fun v' w'' ⟨g, h1, h0, h2, h3, _⟩ => ⟨⟨g, h1, by have := (K0.ext E).size; omega, h3⟩, h2⟩) ?_
    refine .nil (fun _ w2 Ew2 HF => ?_)
    replace hb := hb.ext Ew2
    replace hm := hm.ext Ew2
    replace ho := ho.ext Ew2
    replace hd := hd.ext Ew2
    replace hr := hr.ext Ew2
    replace K0 := K0.ext Ew2
    obtain ⟨⟨g, rfl, hg0, hg⟩, -⟩ := HF
    refine wd_v rfl rfl (by kernel_rfl) rfl rfl rfl (ex_index Try.underlying33 sz22 (i) rfl rfl rfl (by first | rfl | omega) (by omega)) ?_
    have hmlt := hm.lt
    refine wd_one0 rfl rfl (by kernel_rfl) rfl rfl (ex_store_own sz22 ho (i := i) (by omega) rfl rfl rfl rfl) ?_
    rintro _ w3 ⟨K1, ho2, hz1⟩
    have hgb : g ≠ bb := by
      have h1 := hFlt bb (hm.fA bb oo rfl)
      omega
    have hgw := hg.keep K1 hgb
    have hglt := hgw.lt
    have hw := Own.of_blk (lo := 0) (n := n) (c := n) (size := 1) hgw (by omega) (Nat.le_refl _) (by unfold maxLen; omega) (by simp)
    rw [show List.take (n * 1) (List.replicate n (Value.int .u8 0)) = bcells (List.replicate n 0) from by simp [bcells, bv]] at hw
    have hm3 := hm.setS (F' := fun j => F j ∨ (w.heap.size ≤ j ∧ j < _)) (s := (some ⟨g, 0, none⟩, n, n)) (y := List.replicate n 0) (i := i) hi2 (K1.mono fun j _ hj e => hj oo (by rw [e])) ho2 (by decide) (by simp) hw (fun g' o' e => by
      injection e with e
      injection e with e
      subst e
      exact ⟨fun hh => by have := hFlt _ hh; omega, .inr ⟨hg0, hglt⟩⟩) (fun j hj => .inl hj) (fun j hj => by
      rcases hj with hj | hj
      · have := hmlt j hj; omega
      · exact hj.2)
    replace hb := hb.keep K1 (ho.ne_blk hb (by decide) bb oo rfl).symm
    replace hr := hr.keepA K1 (fun g o e e' => hsA bb oo o rfl (by rw [e, e']))
    replace K0 := K0.trans K1 (fun j hj hS e => hS (by rw [e]; exact hm.fA bb oo rfl))
    have hgd : rd.getD i [] = yi := by rw [List.getD_eq_getElem?_getD, hyi]; rfl
    have hil := hm.len.1
    obtain ⟨dsl2, rd2, sc, yc, hm4, hsc, hyc, hycl, hcon, hset, hdj⟩ : ∃ dsl2 rd2 sc yc, Mem 66 _ (fun j => F j ∨ (w.heap.size ≤ j ∧ j < _)) ⟨some ⟨bb, oo, none⟩, cA, dsl2, P, cP, wl⟩ rd2 pd ∧ dsl2[i]? = some sc ∧ rd2[i]? = some yc ∧ yc.length = n ∧ yc = con n yi ∧ (∀ z, rd2.set i z = rd.set i z) ∧ ∀ j, j ≠ i → dsl2[j]? = dsl[j]? := ⟨_, _, (some ⟨g, 0, none⟩, n, n), List.replicate n 0, hm3, by rw [List.getElem?_set, if_pos rfl, if_pos (by omega)], by rw [List.getElem?_set, if_pos rfl, if_pos (by omega)], by simp, by rw [hyn]; rfl, fun z => List.set_set _, fun j hj => by rw [List.getElem?_set, if_neg (fun e => hj e.symm)]⟩
    refine wd_nil (by decide) rfl ?_
    refine qe_next ?_
    refine w_region ?_
    refine sv rfl rfl rfl (ex_move rfl rfl) ?_
    refine sv rfl rfl rfl (ex_nil rfl rfl) ?_
    refine sv rfl rfl rfl (ex_fieldAddr fld62_1 rfl rfl) ?_
    have hrl : rd2.length = rd.length := by have := congrArg List.length (hset []); simpa using this
    have ho3 : Own _ 0 22 1 (some ⟨bb, oo, none⟩) rd2.length cA (dsl2.map slv) := hm4.own
    obtain ⟨b9, o9, u9, he9, _, _, hu9, hc9⟩ := ho3.rd.at_ (k := i) (by omega)
    cases he9
    rw [List.getElem?_map, hsc] at hu9
    cases hu9
    obtain ⟨_, hy9, hl9, ho9⟩ := hm4.dat.get hsc
    rw [hyc] at hy9
    cases hy9
    refine sv rfl rfl rfl (ex_load one33 rfl rfl (hb.cell rfl)) ?_
    refine sv rfl rfl rfl (ex_move rfl rfl) ?_
    refine sv rfl rfl rfl (ex_index Try.underlying33 sz22 (i) rfl rfl rfl (by first | rfl | omega) (by omega)) ?_
    refine sv rfl rfl rfl (ex_load (v := .slice sc.1 sc.2.1 sc.2.2) one22 rfl rfl hc9) ?_
    refine sv rfl rfl rfl (ex_move rfl rfl) ?_
    refine st rfl rfl rfl (ex_copy Try.underlying22 rfl rfl rfl rfl ho9 hr (bcells_one _)) ?_
    rintro _ w4 ⟨rfl, ho10, K2⟩
    refine w_nil (qe_end0 rfl ?_)
    have hfin : ds ++ (con n (rd.getD i [])).drop m = ds ++ yc.drop m := by rw [hgd, hcon]
    rw [hfin]
    have hyl2 : (ds ++ yc.drop m).length = n := by rw [List.length_append, List.length_drop]; omega
    rw [show (bcells ds).take sc.2.1 ++ (bcells yc).drop m = bcells (ds ++ yc.drop m) from by rw [List.take_of_length_le (by rw [bcells_length]; omega)]; simp [bcells]] at ho10
    have hm5 := hm4.setB hsc (by decide) K2 (by omega) ho10
    rw [hset] at hm5
    have hsF := hm4.fd sc (List.mem_append.2 (.inl (List.mem_of_getElem? hsc)))
    refine ⟨dsl2, hb.keep K2 (fun o e => ho9.ne_blk hb (by decide) k o e rfl), hm5.grow (fun j hj => ?_) (fun j hj => grown.lt hFlt (Nat.le_trans K0.size K2.size) j hj), hnil.set hdj (fun e => by rw [e] at hyl2; simp at hyl2; omega), K0.trans K2 (fun j hj hS o e => ?_)⟩
    · rcases hj with hj | hj
      · exact .inl hj
      · exact .inr ⟨hj.1, by have := K2.size; omega⟩
    · rcases hsF j o e with h | h
      · exact hS h
      · omega
  · skip
    have hs1 : si.1 ≠ none := fun e => by rw [e] at hn; cases hn
    have hyn : yi ≠ [] := fun e => hs1 (hnil i si hsi (by rw [hyi, e]))
    have hyl : yi.length = n := (hrd yi (List.mem_of_getElem? hyi)).resolve_left hyn
    refine w_skip (qe_next ?_)
    have hgd : rd.getD i [] = yi := by rw [List.getD_eq_getElem?_getD, hyi]; rfl
    obtain ⟨dsl2, rd2, sc, yc, hm4, hsc, hyc, hycl, hcon, hset, hdj⟩ : ∃ dsl2 rd2 sc yc, Mem 66 _ (fun j => F j ∨ (w.heap.size ≤ j ∧ j < _)) ⟨some ⟨bb, oo, none⟩, cA, dsl2, P, cP, wl⟩ rd2 pd ∧ dsl2[i]? = some sc ∧ rd2[i]? = some yc ∧ yc.length = n ∧ yc = con n yi ∧ (∀ z, rd2.set i z = rd.set i z) ∧ ∀ j, j ≠ i → dsl2[j]? = dsl[j]? := ⟨dsl, rd, si, yi, hm.grow (fun j hj => .inl hj) (fun j hj => by
      rcases hj with hj | hj
      · exact hm.lt j hj
      · exact hj.2), hsi, hyi, hyl, (by unfold con; rw [if_neg hyn]), fun z => rfl, fun j hj => rfl⟩
    refine w_region ?_
    refine sv rfl rfl rfl (ex_move rfl rfl) ?_
    refine sv rfl rfl rfl (ex_nil rfl rfl) ?_
    refine sv rfl rfl rfl (ex_fieldAddr fld62_1 rfl rfl) ?_
    have hrl : rd2.length = rd.length := by have := congrArg List.length (hset []); simpa using this
    have ho3 : Own _ 0 22 1 (some ⟨bb, oo, none⟩) rd2.length cA (dsl2.map slv) := hm4.own
    obtain ⟨b9, o9, u9, he9, _, _, hu9, hc9⟩ := ho3.rd.at_ (k := i) (by omega)
    cases he9
    rw [List.getElem?_map, hsc] at hu9
    cases hu9
    obtain ⟨_, hy9, hl9, ho9⟩ := hm4.dat.get hsc
    rw [hyc] at hy9
    cases hy9
    refine sv rfl rfl rfl (ex_load one33 rfl rfl (hb.cell rfl)) ?_
    refine sv rfl rfl rfl (ex_move rfl rfl) ?_
    refine sv rfl rfl rfl (ex_index Try.underlying33 sz22 (i) rfl rfl rfl (by first | rfl | omega) (by omega)) ?_
    refine sv rfl rfl rfl (ex_load (v := .slice sc.1 sc.2.1 sc.2.2) one22 rfl rfl hc9) ?_
    refine sv rfl rfl rfl (ex_move rfl rfl) ?_
    refine st rfl rfl rfl (ex_copy Try.underlying22 rfl rfl rfl rfl ho9 hr (bcells_one _)) ?_
    rintro _ w5 ⟨rfl, ho10, K2⟩
    refine w_nil (qe_end0 rfl ?_)
    have hfin : ds ++ (con n (rd.getD i [])).drop m = ds ++ yc.drop m := by rw [hgd, hcon]
    rw [hfin]
    have hyl2 : (ds ++ yc.drop m).length = n := by rw [List.length_append, List.length_drop]; omega
    rw [show (bcells ds).take sc.2.1 ++ (bcells yc).drop m = bcells (ds ++ yc.drop m) from by rw [List.take_of_length_le (by rw [bcells_length]; omega)]; simp [bcells]] at ho10
    have hm5 := hm4.setB hsc (by decide) K2 (by omega) ho10
    rw [hset] at hm5
    have hsF := hm4.fd sc (List.mem_append.2 (.inl (List.mem_of_getElem? hsc)))
    refine ⟨dsl2, hb.keep K2 (fun o e => ho9.ne_blk hb (by decide) k o e rfl), hm5.grow (fun j hj => ?_) (fun j hj => grown.lt hFlt (Nat.le_trans K0.size K2.size) j hj), hnil.set hdj (fun e => by rw [e] at hyl2; simp at hyl2; omega), K0.trans K2 (fun j hj hS o e => ?_)⟩
    · rcases hj with hj | hj
      · exact .inl hj
      · exact .inr ⟨hj.1, by have := K2.size; omega⟩
    · rcases hsF j o e with h | h
      · exact hS h
      · omega
end Go.Proofs.Ytcgcklfbnmaodaa

/- Read. -/
import Derived.Test.YtcgcklfbnmaodaaD9
namespace Go.Proofs.Ytcgcklfbnmaodaa
open Go Go.RowKit
set_option linter.unusedVariables false
set_option linter.unusedSimpArgs false
theorem keepD {w : World} {D : Nat} {o : Obj} (h : w.heap[D]? = some o) : Keep (fun j => j ≠ D) w (w.putObj D (.deferred none)) := Keep.putObj w D _ (fun h => h rfl)

/-- (*kinkeep/disk.Disk).Read -/
theorem read_c (z : Int) (F : Nat → Prop) (k : Nat) (s : St) (w : World) (hD : DiskAt w F k s) (hpl : s.pd.length ≤ 1000) :
    Ret Try.prog 14 [.pointer (some ⟨k, 0, none⟩), .int .i64 z] w fun v w' => ∃ B d, v = .tuple #[.slice B (s.read z).1.length d, .int .i64 (s.read z).2] ∧ Own w' w.heap.size 5 1 B (s.read z).1.length d (bcells (s.read z).1) ∧ Ext w w' := by
  obtain ⟨⟨A, cA, dsl, P, cP, wl⟩, rd, arm, aft, hb, hm, hFk, hdu, hrd, hnil, harm, haft, hwf⟩ := id hD
  have ho : Own w 0 22 1 A rd.length cA (dsl.map slv) := hm.own
  have hd : Owns w 0 dsl rd := hm.dat
  have hp : Own w 0 66 2 P s.pd.length cP (wcells wl) := hm.pown
  have hq : Owns w 0 (wl.map (·.2)) (s.pd.map (·.2)) := hm.pdat
  have hdl : s.du.length = rd.length := by rw [hdu, List.length_map]
  have n1 := hwf.n1
  have n2 := hwf.n2
  have d1 := hwf.d1
  have K0 : Ext w w := Keep.refl _ _
  refine ret_ofM Try.func14 rfl rfl ?_
  refine w_seq ?_
  refine w_region ?_
  refine st rfl rfl rfl (ex_box (cs := [.int .i64 z]) rfl rfl rfl) ?_
  rintro _ w1 ⟨b3, rfl, h30, E3, hb3, hs3⟩
  replace hb := hb.ext E3
  replace hm := hm.ext E3
  replace hp := hp.ext E3
  replace hD := hD.ext E3
  replace K0 := K0.ext E3
  have hz1 := K0.size
  refine st rfl rfl rfl (ex_alloc (z := .slice none 0 0) (by kernel_rfl) (cs := [.slice none 0 0]) rfl rfl) ?_
  rintro _ w2 ⟨b4, rfl, h40, E4, hb4, hs4⟩
  replace hb := hb.ext E4
  replace hm := hm.ext E4
  replace hp := hp.ext E4
  replace hD := hD.ext E4
  replace K0 := K0.ext E4
  replace hb3 := hb3.ext E4
  have hz2 := K0.size
  refine st rfl rfl rfl (ex_alloc (z := .int .i64 0) (by kernel_rfl) (cs := [.int .i64 0]) rfl rfl) ?_
  rintro _ w3 ⟨b5, rfl, h50, E5, hb5, hs5⟩
  replace hb := hb.ext E5
  replace hm := hm.ext E5
  replace hp := hp.ext E5
  replace hD := hD.ext E5
  replace K0 := K0.ext E5
  replace hb3 := hb3.ext E5
  replace hb4 := hb4.ext E5
  refine w_nil (qe_next ?_)
  refine w_seq ?_
  refine w_seq ?_
  refine w_region ?_
  refine sv rfl rfl rfl (ex_move rfl rfl) ?_
  refine sv rfl rfl rfl (ex_nil rfl rfl) ?_
  refine sv rfl rfl rfl (ex_fieldAddr fld62_3 rfl rfl) ?_
  refine sv rfl rfl rfl (ex_load one4 rfl rfl (hb.cell rfl)) ?_
  refine w_nil (qe_next ?_)
  refine w_cond rfl (fun hoff => ?_) (fun hoff => ?_)
  · skip
    refine w_seq ?_
    refine w_region ?_
    refine st0 rfl rfl (ex_store_blk sz22 rfl rfl rfl rfl hb4 (by simp)) ?_
    rintro _ w4 ⟨Kh6, h6, _⟩
    refine st0 rfl rfl (ex_store_blk sz25 rfl rfl rfl rfl (hb5.keep Kh6 (hb5.ne hb4 (by decide))) (by simp)) ?_
    rintro _ w5 ⟨Kh7, h7, _⟩
    have hb4w := h6.keep Kh7 (hb4.ne hb5 (by decide))
    refine w_nil (qe_next ?_)
    refine w_ret (qe_then_ret (qeM_plain (qe_retC2 rfl rfl rfl one22 one25 (hb4w.cell rfl) (h7.cell rfl) ?_)))
    rw [show s.read z = ([], 8) from by unfold St.read; rw [if_pos hoff]]
    exact ⟨none, 0, rfl, Own.nil _ _ _ _, (K0.trans Kh6 (fun j hj _ => by omega)).trans Kh7 (fun j hj _ => by omega)⟩
  · skip
    refine w_skip (qe_next ?_)
    refine w_seq ?_
    refine w_seq ?_
    refine w_region ?_
    refine sv rfl rfl rfl (ex_move rfl rfl) ?_
    refine sv rfl rfl rfl (ex_load one3 rfl rfl (hb3.cell rfl)) ?_
    refine st rfl rfl rfl (ex_call call31 rfl rfl (inside_c z F k s _ hD)) ?_
    rintro _ w6 ⟨rfl, hwe⟩
    obtain rfl := hwe.symm
    cases hin : decide (s.In z)
    · skip
      refine sv rfl rfl rfl (ex_not rfl rfl) ?_
      refine w_nil (qe_next ?_)
      refine w_cond_t rfl ?_
      refine w_seq ?_
      refine w_region ?_
      refine st0 rfl rfl (ex_store_blk sz22 rfl rfl rfl rfl hb4 (by simp)) ?_
      rintro _ w7 ⟨Kh6, h6, _⟩
      refine st0 rfl rfl (ex_store_blk sz25 rfl rfl rfl rfl (hb5.keep Kh6 (hb5.ne hb4 (by decide))) (by simp)) ?_
      rintro _ w8 ⟨Kh7, h7, _⟩
      have hb4w := h6.keep Kh7 (hb4.ne hb5 (by decide))
      refine w_nil (qe_next ?_)
      refine w_ret (qe_then_ret (qeM_plain (qe_retC2 rfl rfl rfl one22 one25 (hb4w.cell rfl) (h7.cell rfl) ?_)))
      have hnI : ¬ s.In z := of_decide_eq_false hin
      rw [show s.read z = ([], 1) from by unfold St.read; rw [if_neg (by rw [hoff]; simp), if_pos hnI]]
      exact ⟨none, 0, rfl, Own.nil _ _ _ _, (K0.trans Kh6 (fun j hj _ => by omega)).trans Kh7 (fun j hj _ => by omega)⟩
    · skip
      refine sv rfl rfl rfl (ex_not rfl rfl) ?_
      refine w_nil (qe_next ?_)
      refine w_cond_f rfl ?_
      refine w_skip (qe_next ?_)
      refine w_seq ?_
      refine w_seq ?_
      have hIn : s.In z := of_decide_eq_true hin
      have hIn2 := hIn
      unfold St.In at hIn2
      obtain ⟨i, rfl⟩ : ∃ i : Nat, z = (i : Int) := ⟨z.toNat, by omega⟩
      have hi : i < s.du.length := by omega
      have hyl := hwf.du _ (getD_mem hi)
      refine w_region ?_
      refine sv rfl rfl rfl (ex_move rfl rfl) ?_
      refine sv rfl rfl rfl (ex_nil rfl rfl) ?_
      refine sv rfl rfl rfl (ex_fieldAddr fld62_2 rfl rfl) ?_
      refine sv rfl rfl rfl (ex_load one60 rfl rfl (hb.cell rfl)) ?_
      refine st rfl rfl rfl (ex_call call34 rfl rfl (back_c P s.pd.length cP _)) ?_
      rintro _ w9 ⟨b1, rfl, hb1, E1⟩
      replace hb := hb.ext E1
      replace hm := hm.ext E1
      replace hp := hp.ext E1
      replace hD := hD.ext E1
      replace K0 := K0.ext E1
      replace hb3 := hb3.ext E1
      replace hb4 := hb4.ext E1
      replace hb5 := hb5.ext E1
      refine w_nil (qe_next ?_)
      refine w_block ?_
      obtain ⟨n0, hn0, hn01⟩ := K0.n
      have h3l := hb3.lt
      have h4l := hb4.lt
      have h5l := hb5.lt
      have h1l := hb1.lt
      obtain ⟨r', hm', hpd'⟩ : ∃ r' : Rep, Mem 66 _ F r' rd s.pd ∧ r'.wl = wl := ⟨⟨A, cA, dsl, P, cP, wl⟩, hm, rfl⟩
      have hlen9 : s.pd.length = wl.length := hm.len.2.symm
      have hrd0 : s.read (i : Int) = (look s.pd i (s.du.getD i []), 0) := by
        unfold St.read
        rw [if_neg (by rw [hoff]; simp), if_neg (fun h => h hIn)]
        rfl
      refine w_rangeS (lb := [.pointer (some ⟨b1, 0, none⟩)]) (enc1 := (fun x : Nat × (Nat × Sl) => Value.int .i64 (x.1 : Int))) (enc2 := (fun x : Nat × (Nat × Sl) => Value.agg [Value.int .i64 (x.2.1 : Int), slv x.2.2].toArray)) (ys := bks wl) (St := fun A B => B = A) (Rk := Keep (fun j => j < n0)) rfl call43 (fun l J Jx W hE hst hrd hJ => back1_c b1 l P s.pd.length cP _ _ n0 wl J Jx W hlen9 (by omega) (hb1.ext hE) (hp.rd.ext hE) (by omega) (fun g o e => by have := (hp.lt e).2; omega) hrd hJ) rfl rfl (fun A B h k o hk _ => by rw [h]; exact hk) (fun _ _ _ h k => h.trans k (fun _ _ hj => hj)) (fun W k o o' hk _ _ => Keep.putObj W k o' (by show ¬ k < n0; omega)) (fun pre W => (∀ y ∈ pre, y.2.1 ≠ i) ∧ Keep (fun j => j < n0) w9 W) (fun W => ∃ B d y, Blk W b4 22 [.slice B (List.length y) d] ∧ Blk W b5 25 [.int .i64 0] ∧ Own W n0 5 1 B (List.length y) d (bcells y) ∧ y = look s.pd i (s.du.getD i []) ∧ Keep (fun j => j < n0 ∧ j ≠ b4 ∧ j ≠ b5) w9 W) (fun s A B h e => by rw [e]; exact h) (fun s W k o o' h hk _ _ => ⟨h.1, h.2.trans (Keep.putObj (S := fun j => j < n0) W k o' (by show ¬ k < n0; omega)) (fun _ _ hj => hj)⟩) (fun W k o o' ⟨B, d, y, h1, h2, h3, h4, h5⟩ hk hko hc => ⟨B, d, y, h1.keep (Keep.putObj (S := fun j => j ≠ k) W k o' (fun h => h rfl)) (by omega), h2.keep (Keep.putObj (S := fun j => j ≠ k) W k o' (fun h => h rfl)) (by omega), h3.keep (Keep.putObj (S := fun j => j ≠ k) W k o' (fun h => h rfl)) (fun g o e hh => by subst hh; exact h3.nc hko hc o e), h4, h5.trans (Keep.putObj (S := fun j => j < n0 ∧ j ≠ b4 ∧ j ≠ b5) W k o' (fun h => by omega)) (fun _ _ hj => hj)⟩) (fun o1 o2 => ⟨(fun y hy => by cases hy), (Keep.alloc _ o1).trans (Keep.alloc _ o2) (fun _ _ hj => hj)⟩) (fun x W1 W2 => [(3, .pointer (some ⟨b3, 0, none⟩)), (4, .pointer (some ⟨b4, 0, none⟩)), (5, .pointer (some ⟨b5, 0, none⟩)), (7, .pointer (some ⟨W1.heap.size, 0, none⟩))]) (fun x W1 W2 => Blk W2 W1.heap.size 66 [.int .i64 (x.2.1 : Int), slv x.2.2] ∧ Ext W1 W2) ?_ ?_ ?_ ?_
      · intro k x W1 hW1
        have KA := Keep.refl (fun _ => True) W1
        refine w_region ?_
        refine st rfl rfl rfl (ex_alloc (z := .agg #[.int .i64 0, .slice none 0 0]) (by kernel_rfl) (cs := [.int .i64 0, .slice none 0 0]) rfl rfl) ?_
        rintro _ w10 ⟨b7, rfl, h70, E7, hb7, hs7⟩
        replace KA := KA.ext E7
        subst h70
        refine st0 rfl rfl (ex_store_all (cs' := [.int .i64 (x.2.1 : Int), slv x.2.2]) sz66 rfl rfl rfl (by intro v hv; simp at hv; rcases hv with rfl | rfl <;> rfl) hb7 rfl rfl) ?_
        rintro _ w11 ⟨K7, hb8, hs8⟩
        refine w_nil (qe_andE ⟨rfl, rfl, rfl, rfl, trivial⟩ ?_)
        exact ⟨((KA.nc _ (fun _ _ _ _ => trivial)).trans (K7.nc _ (fun k2 o2 h1 h2 => hb7.nc h1 h2))), (Keep.of_ext KA _).trans K7 (fun j hj hS => by omega), hb8, KA.trans K7 (fun j hj _ => by omega)⟩
      · intro k pre x W1 W2 W3 hpre hI hA1 hK hk hk2
        obtain ⟨hno, KI⟩ := hI
        have hb7 := hA1.1.keep hK (fun e => hk e.symm)
        replace KI := (KI.ext hA1.2).trans hK (fun j hj hS e => by omega)
        have hb3c := hb3.keep KI (by omega)
        have hb4c := hb4.keep KI (by omega)
        have hb5c := hb5.keep KI (by omega)
        obtain ⟨hwx, hall⟩ := bks_pre hpre
        have hx1 := (List.getElem?_eq_some_iff.1 hwx).1
        obtain ⟨p, y, hp9, hy9, hly, hoy⟩ := pd_get hm (j := x.1) (by omega)
        replace hp9 : wl[x.1]? = some p := hp9
        obtain rfl : x.2 = p := by rw [hwx] at hp9; exact Option.some.inj hp9
        have hoy3 := hoy.keep KI (fun g o e => by have := (hoy.lt e).2; omega)
        have hyn := (hwf.pd _ (List.mem_of_getElem? hy9)).2
        simp only at hyn
        refine w_block ?_
        refine w_seq ?_
        refine w_region ?_
        refine sv rfl rfl rfl (ex_fieldAddr fld66_0 rfl rfl) ?_
        refine sv rfl rfl rfl (ex_load one3 rfl rfl (hb7.cell rfl)) ?_
        refine sv rfl rfl rfl (ex_load one3 rfl rfl (hb3c.cell rfl)) ?_
        refine sv rfl rfl rfl (ex_cmp rfl rfl rfl rfl) ?_
        refine w_nil (qe_next ?_)
        refine w_if rfl (fun heq => ?_) (fun heq => ?_)
        · skip
          replace heq : x.2.1 = i := by omega
          obtain ⟨b0, o0, hb0e, _, _, _⟩ := hoy3.rd.addr (by omega)
          refine w_seq ?_
          refine w_region ?_
          refine sv rfl rfl rfl (ex_fieldAddr fld66_1 rfl rfl) ?_
          refine sv rfl rfl rfl (ex_load (v := .slice x.2.2.1 x.2.2.2.1 x.2.2.2.2) one22 rfl rfl (hb7.cell rfl)) ?_
          have hszB := hn0
          rw [hb0e] at hoy3 ⊢
          have hsW3 := KI.size
          refine st rfl rfl rfl (ex_call call32 rfl rfl (clone_c b0 o0 _ _ _ _ y _ hly (by omega) hoy3.rd)) ?_
          rintro _ w12 ⟨⟨Bc, dc, rfl, hoc⟩, Ec⟩
          replace hb7 := hb7.ext Ec
          replace hb3c := hb3c.ext Ec
          replace hb4c := hb4c.ext Ec
          replace hb5c := hb5c.ext Ec
          replace hoy3 := hoy3.ext Ec
          rw [hly] at hoc ⊢
          have hlkx : y = look s.pd i (s.du.getD i []) := (look_at hy9 heq fun j q hjq hq => by
            have hjl := (List.getElem?_eq_some_iff.1 hq).1
            obtain ⟨p2, y2, hp2, hy2, _, _⟩ := pd_get hm (j := j) hjl
            rw [hq] at hy2
            injection hy2 with hy2
            rw [hy2]
            exact hno _ (hall j p2 hjq hp2)).symm
          refine st0 rfl rfl (ex_store_blk sz22 rfl rfl rfl rfl hb4c (by simp)) ?_
          rintro _ w13 ⟨Kh8, h8, _⟩
          have hb5d := hb5c.keep Kh8 (hb5c.ne hb4c (by decide))
          refine st0 rfl rfl (ex_store_blk sz25 rfl rfl rfl rfl hb5d (by simp)) ?_
          rintro _ w14 ⟨Kh9, h9, _⟩
          have hb4d := h8.keep Kh9 (hb4c.ne hb5c (by decide))
          refine w_nil (qe_next ?_)
          refine w_ret (qe_in_ret (qe_then_ret (fun _ _ => ⟨rfl, ?_⟩)))
          exact ⟨((Ec.nc _ (fun _ _ _ _ => trivial)).trans (Kh8.nc _ (fun k2 o2 h1 h2 => hb4c.nc h1 h2))).trans (Kh9.nc _ (fun k2 o2 h1 h2 => hb5d.nc h1 h2)), Bc, dc, y, hb4d, h9, (((hoc.keepT Kh8 (fun g2 cs _ hg2 => hg2.ne hb4c (by decide))).keepT Kh9 (fun g2 cs _ hg2 => hg2.ne hb5d (by decide))).lower (by omega)), hlkx, (((KI.ext Ec).mono (fun j _ hS => hS.1)).trans Kh8 (fun j hj hS => hS.2.1)).trans Kh9 (fun j hj hS => hS.2.2)⟩
        · skip
          replace heq : ¬ (x.2.1 : Int) = (i : Int) := heq
          refine w_skip (qe_in_normal (qe_only ?_))
          exact ⟨fun _ _ _ h _ => h, Keep.refl _ _, (fun y2 hy2 => by
            rcases List.mem_append.1 hy2 with hy2 | hy2
            · exact hno y2 hy2
            · rw [List.mem_singleton.1 hy2]; exact fun e => heq (by rw [e])), KI⟩
      · rintro D W9 hD9 ⟨hno, KI⟩ hDD
        have hlk : look s.pd i (s.du.getD i []) = s.du.getD i [] := look_skip _ _ _ fun q hq => by
          obtain ⟨j, hj⟩ := List.getElem?_of_mem hq
          have hjl := (List.getElem?_eq_some_iff.1 hj).1
          obtain ⟨p, y, hp9, hy9, _, _⟩ := pd_get hm (j := j) hjl
          rw [hj] at hy9
          injection hy9 with hy9
          rw [hy9]
          exact hno (j, p) (by have := bks_get (wl := wl) hp9; exact List.mem_of_getElem? this)
        replace hD := hD.keep KI (fun j hj => by have := hD.lt j hj; omega)
        replace hb3 := hb3.keep KI (by omega)
        replace hb4 := hb4.keep KI (by omega)
        replace hb5 := hb5.keep KI (by omega)
        replace K0 := K0.trans KI (fun j hj _ => by omega)
        clear hm hm' hb hp
        have hDl := (Array.getElem?_eq_some_iff.1 hDD).1
        refine qe_in_normal (qe_next ?_)
        refine w_seq ?_
        refine w_region ?_
        refine sv rfl rfl rfl (ex_move rfl rfl) ?_
        refine sv rfl rfl rfl (ex_load one3 rfl rfl (hb3.cell rfl)) ?_
        have hsz9 := K0.size
        refine st rfl rfl rfl (ex_call call35 rfl rfl (contents_c i F k s _ hD hi)) ?_
        rintro _ w15 ⟨g, rfl, hg, E9⟩
        replace hD := hD.ext E9
        replace hb3 := hb3.ext E9
        replace hb4 := hb4.ext E9
        replace hb5 := hb5.ext E9
        replace K0 := K0.ext E9
        refine st0 rfl rfl (ex_store_blk sz22 rfl rfl rfl rfl hb4 (by simp)) ?_
        rintro _ w16 ⟨Kh6, h6, _⟩
        have hb5x := hb5.keep Kh6 (hb5.ne hb4 (by decide))
        refine st0 rfl rfl (ex_store_blk sz25 rfl rfl rfl rfl hb5x (by simp)) ?_
        rintro _ w17 ⟨Kh7, h7, _⟩
        have hb4x := h6.keep Kh7 (h6.ne hb5x (by decide))
        have hD0 := (E9.block D hDl trivial).trans hDD
        have hD1 := (Kh6.block D (Array.getElem?_eq_some_iff.1 hD0).1 (hb4.nc hD0 rfl)).trans hD0
        have hDD2 := (Kh7.block D (Array.getElem?_eq_some_iff.1 hD1).1 (hb5x.nc hD1 rfl)).trans hD1
        have KD := keepD hDD2
        have hb4z := hb4x.keep KD (hb4x.nc hDD2 rfl).symm
        have hb5z := h7.keep KD (h7.nc hDD2 rfl).symm
        have hgnc := ((hg.keepT Kh6 (fun g2 cs _ hg2 => hg2.ne hb4 (by decide))).keepT Kh7 (fun g2 cs _ hg2 => hg2.ne hb5x (by decide))).nc hDD2 rfl
        refine w_nil (qe_next ?_)
        refine w_ret (qeM_retC2 rfl rfl rfl one22 one25 hDD2 (hb4z.cell rfl) (hb5z.cell rfl) ?_)
        refine ⟨some ⟨g, 0, none⟩, s.n, ?_, ?_, ?_⟩
        · rw [hrd0, hlk, hyl]
        · rw [hrd0, hlk, hyl]; exact ((((hg.keepT Kh6 (fun g2 cs _ hg2 => hg2.ne hb4 (by decide))).keepT Kh7 (fun g2 cs _ hg2 => hg2.ne hb5x (by decide))).keep KD (fun g2 o e hh => by subst hh; exact hgnc o e)).lower (by omega))
        · exact (((K0.trans Kh6 (fun j hj _ => by omega)).trans Kh7 (fun j hj _ => by omega)).trans KD (fun j hj _ => by omega))
      · rintro D W9 hD9 ⟨B, d, y, hb4y, hb5y, hoy, hy, KI⟩ hDD
        have KD : Keep (fun j => j ≠ D) W9 (W9.putObj D (.deferred none)) := Keep.putObj W9 D _ (fun h => h rfl)
        have hb4z := hb4y.keep KD (hb4y.nc hDD rfl).symm
        have hb5z := hb5y.keep KD (hb5y.nc hDD rfl).symm
        refine qe_in_ret (qe_then_ret (qeM_retC2 rfl rfl rfl one22 one25 hDD (hb4z.cell rfl) (hb5z.cell rfl) ?_))
        refine ⟨B, d, ?_, ?_, ?_⟩
        · rw [hrd0, ← hy]
        · rw [hrd0, ← hy]; exact (hoy.keep KD (fun g o e hh => by subst hh; exact hoy.nc hDD rfl o e)).lower hn01
        · exact K0.trans (KI.trans KD (fun j hj hS => by omega)) (fun j hj _ => ⟨by omega, by omega, by omega⟩)
end Go.Proofs.Ytcgcklfbnmaodaa

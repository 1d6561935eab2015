/- Fail; puts in a row. -/
import Derived.Test.YtcgcklfbnmaodaaD4
namespace Go.Proofs.Ytcgcklfbnmaodaa
open Go Go.RowKit
set_option linter.unusedVariables false
set_option linter.unusedSimpArgs false
theorem bits_xor8 (a x : UInt8) : bits .xor .u8 (a.toNat : Int) (x.toNat : Int) = ((a ^^^ x).toNat : Int) := by
  show IntKind.u8.wrap ((BitVec.ofInt 8 (a.toNat : Int) ^^^ BitVec.ofInt 8 (x.toNat : Int)).toNat : Int) = _
  have e : ∀ y : UInt8, BitVec.ofInt 8 (y.toNat : Int) = y.toBitVec := fun y => by
    rw [BitVec.ofInt_natCast]
    exact BitVec.eq_of_toNat_eq (by simp)
  rw [e, e, show (a.toBitVec ^^^ x.toBitVec).toNat = (a ^^^ x).toNat from rfl]
  have := UInt8.toNat_lt (a ^^^ x)
  rw [IntKind.wrap_u8]
  omega
/-- a disk whose pending writes are being put -/
def Cur (w : World) (F : Nat → Prop) (k n : Nat) (A : Option Addr) (cA : Nat) (P : Option Addr) (cP : Nat) (wl : List (Nat × Sl)) (pd : List (Nat × List UInt8)) (off arm : Bool) (aft : Int) (du : List (List UInt8)) : Prop :=
  ∃ (dsl : List Sl) (rd : List (List UInt8)), Blk w k 62 (dcells n ⟨A, cA, dsl, P, cP, wl⟩ rd.length pd.length off arm aft) ∧ Mem 66 w F ⟨A, cA, dsl, P, cP, wl⟩ rd pd ∧ NilAt dsl rd ∧ (∀ y ∈ rd, y = [] ∨ y.length = n) ∧ du = rd.map (con n)
theorem Cur.keep {w w' : World} {S F : Nat → Prop} {k n cA cP : Nat} {A P : Option Addr} {wl : List (Nat × Sl)} {pd : List (Nat × List UInt8)} {off arm : Bool} {aft : Int} {du : List (List UInt8)} (h : Cur w F k n A cA P cP wl pd off arm aft du) (K : Keep S w w') (hk : F k) (hS : ∀ j, F j → S j) : Cur w' F k n A cA P cP wl pd off arm aft du := by
  obtain ⟨dsl, rd, hb, hm, rest⟩ := h
  exact ⟨dsl, rd, hb.keep K (hS k hk), hm.keep K hS, rest⟩
theorem set_con {n i : Nat} {rd : List (List UInt8)} {z : List UInt8} (hz : z.length = n) (hn : 1 ≤ n) : (rd.set i z).map (con n) = (rd.map (con n)).set i z := by
  rw [List.map_set, con_full hz hn]
theorem put_cur (j m cd lo hi : Nat) (Ad : Option Addr) (p : Nat × Sl) (y : List UInt8) (F : Nat → Prop) (k n : Nat) (A : Option Addr) (cA : Nat) (P : Option Addr) (cP : Nat) (wl : List (Nat × Sl)) (pd : List (Nat × List UInt8)) (off arm : Bool) (aft : Int) (du : List (List UInt8)) (w0 w : World)
    (h : Cur w (grown F w0 w) k n A cA P cP wl pd off arm aft du) (hFk : F k) (hFlt : ∀ j, F j → j < w0.heap.size) (hK : Keep (fun j => ¬ F j) w0 w) (n1 : 1 ≤ n) (n2 : n ≤ 4096) (d1 : du.length ≤ 65536) (hp : wl[j]? = some p) (hi2 : p.1 < du.length) (hmd : m = y.length) (hmn : m ≤ n) (hr : Rd w lo hi 1 Ad m (bcells y))
    (hAd : ∀ g o, Ad = some ⟨g, o, none⟩ → ∃ o', p.2.1 = some ⟨g, o', none⟩) : Ret Try.prog 36 [.pointer (some ⟨k, 0, none⟩), .int .i64 (p.1 : Int), .slice Ad m cd] w fun v w' => Cur w' (grown F w0 w') k n A cA P cP wl pd off arm aft (putd du p.1 y) ∧ Keep (fun j => ¬ F j) w0 w' := by
  obtain ⟨dsl, rd, hb, hm, hnil, hrd, rfl⟩ := h
  rw [List.length_map] at d1 hi2
  have hpm : (wl.map (·.2))[j]? = some p.2 := by rw [List.getElem?_map, hp]; rfl
  have hlen := hm.len.1
  refine (put_c p.1 n m cd lo hi pd.length Ad y (grown F w0 w) k A cA dsl P cP wl rd pd off arm aft w hb hm (.inl hFk) hnil hrd n1 n2 d1 hi2 hmd hmn hr ?_).mono ?_
  · intro g o o' e e'
    obtain ⟨o2, e2⟩ := hAd g o' e'
    obtain ⟨y', _, _, ho⟩ := hm.pdat.get hpm
    exact hm.own.ne_own ho (by decide) e e2
  · rintro v w' ⟨dsl', hb', hm', hnil', hK'⟩
    have hyl : (y ++ (con n (rd.getD p.1 [])).drop m).length = n := by
      rw [List.length_append, List.length_drop, con_length]
      · omega
      · exact hrd _ (by rw [List.getD_eq_getElem?_getD, List.getElem?_eq_getElem hi2]; exact List.getElem_mem _)
    refine ⟨⟨dsl', _, by rw [List.length_set]; exact hb', hm'.grow (fun j hj => ?_) (grown.lt hFlt (Nat.le_trans hK.size hK'.size)), hnil', fun z hz => ?_, ?_⟩, hK.trans hK' fun j hj hS hg => ?_⟩
    · have := hK'.size
      have := hK.size
      rcases hj with (hj | hj) | hj
      · exact .inl hj
      · exact .inr ⟨hj.1, by omega⟩
      · exact .inr ⟨by omega, hj.2⟩
    · rcases List.mem_or_eq_of_mem_set hz with hz | rfl
      · exact hrd z hz
      · exact .inr hyl
    · rw [set_con hyl n1]
      unfold putd
      congr 2
      rw [List.getD_eq_getElem?_getD, List.getD_eq_getElem?_getD, List.getElem?_map, List.getElem?_eq_getElem hi2, hmd]
      rfl
    · rcases hg with hg | hg
      · exact hS hg
      · omega
theorem pd_get {w : World} {F : Nat → Prop} {r : Rep} {rd : List (List UInt8)} {pd : List (Nat × List UInt8)} {tw j : Nat} (hm : Mem tw w F r rd pd) (hj : j < pd.length) : ∃ p y, r.wl[j]? = some p ∧ pd[j]? = some (p.1, y) ∧ p.2.2.1 = y.length ∧ Own w 0 5 1 p.2.1 p.2.2.1 p.2.2.2 (bcells y) := by
  have hl := hm.len.2
  obtain ⟨p, hp⟩ : ∃ p, r.wl[j]? = some p := ⟨_, List.getElem?_eq_getElem (by omega)⟩
  have hpm : (r.wl.map (·.2))[j]? = some p.2 := by rw [List.getElem?_map, hp]; rfl
  obtain ⟨y, hy, h1, h2⟩ := hm.pdat.get hpm
  rw [List.getElem?_map] at hy
  obtain ⟨⟨z, y'⟩, hzy, e⟩ := Option.map_eq_some_iff.1 hy
  simp only at e
  subst e
  have hs := congrArg (fun l => l[j]?) hm.psec
  simp only [List.getElem?_map, hp, hzy, Option.map_some, Option.some.injEq] at hs
  exact ⟨p, y', hp, by rw [hs]; exact hzy, h1, h2⟩

/-- (*kinkeep/disk.Disk).Fail -/
theorem fail_c (z : Int) (F : Nat → Prop) (k : Nat) (s : St) (w : World) (hD : DiskAt w F k s) (hz : z ≤ 9223372036854775807) :
    Ret Try.prog 30 [.pointer (some ⟨k, 0, none⟩), .int .i64 z] w fun v w' => v = .tuple #[] ∧ DiskAt w' F k (s.fail z) ∧ Keep (fun j => j ≠ k) w w' := by
  obtain ⟨⟨A, cA, dsl, P, cP, wl⟩, rd, arm, aft, hb, hm, hFk, hdu, hrd, hnil, harm, haft, hwf⟩ := hD
  have ho : Own w 0 22 1 A rd.length cA (dsl.map slv) := hm.own
  have hd : Owns w 0 dsl rd := hm.dat
  have hp : Own w 0 66 2 P s.pd.length cP (wcells wl) := hm.pown
  have hq : Owns w 0 (wl.map (·.2)) (s.pd.map (·.2)) := hm.pdat
  have hdl : s.du.length = rd.length := by rw [hdu, List.length_map]
  have n1 := hwf.n1
  have n2 := hwf.n2
  have d1 := hwf.d1
  refine ret_of Try.func30 rfl rfl ?_
  refine w_seq ?_
  refine w_region ?_
  refine sv rfl rfl rfl (ex_move rfl rfl) ?_
  refine sv rfl rfl rfl (ex_nil rfl rfl) ?_
  refine sv rfl rfl rfl (ex_fieldAddr fld62_3 rfl rfl) ?_
  refine sv rfl rfl rfl (ex_load one4 rfl rfl (hb.cell rfl)) ?_
  refine sv rfl rfl rfl (ex_not rfl rfl) ?_
  refine w_nil (qe_next ?_)
  refine w_cond rfl (fun hoff => ?_) (fun hoff => ?_)
  · skip
    refine w_region ?_
    refine sv rfl rfl rfl (ex_move rfl rfl) ?_
    refine sv rfl rfl rfl (ex_move rfl rfl) ?_
    refine sv rfl rfl rfl (ex_move rfl rfl) ?_
    refine sv rfl rfl rfl (ex_cmp rfl rfl rfl rfl) ?_
    refine sv rfl rfl rfl (ex_move rfl rfl) ?_
    refine sv rfl rfl rfl (ex_nil rfl rfl) ?_
    refine sv rfl rfl rfl (ex_fieldAddr fld62_4 rfl rfl) ?_
    refine st0 rfl rfl (ex_store_blk sz4 rfl rfl rfl rfl hb (by simp [dcells])) ?_
    rintro _ w1 ⟨K1, hb1, hz1⟩
    refine sv rfl rfl rfl (ex_nil rfl rfl) ?_
    refine sv rfl rfl rfl (ex_fieldAddr fld62_5 rfl rfl) ?_
    refine st0 rfl rfl (ex_store_blk sz3 rfl rfl rfl rfl hb1 (by simp [dcells])) ?_
    rintro _ w2 ⟨K2, hb2, hz2⟩
    refine w_nil (qe_end0 rfl ?_)
    have hw2 := hwf.fail hz
    have hfs : s.fail z = { s with left := max z (-1) } := by unfold St.fail; rw [if_neg (by simpa using hoff)]
    rw [hfs] at hw2 ⊢
    exact ⟨rfl, DiskAt.intro (r := ⟨A, cA, dsl, P, cP, wl⟩) (rd := rd) (arm := decide (0 ≤ z)) (aft := z) hb2 ((hm.keepK hb (by decide) (by decide) (by decide) K1).keepK hb1 (by decide) (by decide) (by decide) K2) hFk hdu hrd hnil (decide_eq_decide.2 (by simp only; omega)) (fun h => by simp only at h ⊢; omega) hw2, K1.trans K2 (fun j _ h => h)⟩
  · skip
    refine w_skip (qe_end0 rfl ?_)
    rw [show s.fail z = s from by unfold St.fail; rw [if_pos (by simpa using hoff)]]
    exact ⟨rfl, DiskAt.intro (r := ⟨A, cA, dsl, P, cP, wl⟩) hb hm hFk hdu hrd hnil harm haft hwf, Keep.refl _ _⟩
end Go.Proofs.Ytcgcklfbnmaodaa

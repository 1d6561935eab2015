/- From a row's reading of its arguments to the words of the walks, and back: the arguments of a law that writes nothing read afterwards as before. -/
import Derived.Test.YtcgcklfbnmaodaaA
import Derived.ProofKit
import Derived.OpenShut
import Derived.Carry
import Derived.ChangeOld
import Derived.SizedLaws
import Derived.Deep.Slices
import Derived.Deep.Fields
import Derived.Deep.DeepHandedRow
namespace Go.Proofs.Ytcgcklfbnmaodaa
open Go Go.RowKit Go.ChangeShapes Go.WideShapes Go.ChangeAt

section
variable {H : Type} {enc : TypeId × Value → H} {P : Program} {W W' : World}

/-- all arguments read again where nothing that was there has changed -/
theorem trodAll_again (hl : laidOutB P = true) (hb : Below W.heap.size W W') : ∀ {ts : List TypeId} {vs : List Value} {ds : List (DataW H)} {ps : List MemPlace},
    (ts.all fun t => P.readableRec t && Nat.blt t P.types.size) = true → DataW.TrodAll enc P W 0 (fun _ => true) true ts vs ds ps → (∀ x ∈ ps, x.block < W.heap.size) → DataW.TrodAll enc P W' 0 (fun b => decide (b < W.heap.size)) true ts vs ds ps
  | [], vs, ds, ps, _, h, _ => by
    obtain ⟨rfl, rfl, rfl⟩ := trodAll_nil h
    exact trodAll_mk0
  | t :: ts, vs, ds, ps, hts, h, hlt => by
    obtain ⟨v0, vs0, d0, ds0, p0, q0, rfl, rfl, rfl, h0, r0⟩ := trodAll_cons h
    simp only [List.all_cons, Bool.and_eq_true] at hts
    exact trodAll_cons_mk (Below.trod hl hts.1.1 (by simpa using hts.1.2) h0 hb fun x hx => hlt x (List.mem_append.2 (.inl hx)))
      (trodAll_again hl hb hts.2 r0 fun x hx => hlt x (List.mem_append.2 (.inr hx)))

theorem block_of_cell {w : World} {p : Addr} {v : Value} (h : w.cell? p = some v) : p.block < w.heap.size := World.block_lt_of_cell? w p h
theorem byte_of_wf {n : Int} (h : (Lit.int .u8 n).wf = true) : ∃ x : UInt8, .int .u8 n = bv x := by
  have := bounds_u8 h
  refine ⟨UInt8.ofNat n.toNat, ?_⟩
  unfold bv
  have e : (UInt8.ofNat n.toNat).toNat = n.toNat := by
    rw [UInt8.toNat_ofNat']
    exact Nat.mod_eq_of_lt (by omega)
  rw [e]
  congr 1
  omega
theorem bytes_of_wf : ∀ {zs : List Int}, (∀ n ∈ zs, (Lit.int .u8 n).wf = true) → ∃ bs : List UInt8, zs.map (Value.int .u8) = bcells bs
  | [], _ => ⟨[], rfl⟩
  | z :: zs, h => by
    obtain ⟨x, hx⟩ := byte_of_wf (h z List.mem_cons_self)
    obtain ⟨bs, hbs⟩ := bytes_of_wf fun n hn => h n (List.mem_cons_of_mem _ hn)
    exact ⟨x :: bs, by simp only [List.map_cons, hx, hbs]; rfl⟩

/-- a slice of integers that came in -/
theorem open_row {t e : TypeId} {k : IntKind} {A : Option Addr} {n c : Nat} {d : DataW H} {p : List MemPlace} (ht : P.underlying t = some (.slice e)) (he : P.underlying e = some (.int k)) (hc : P.cellsOf e = 1)
    (h : DataW.Trod enc P W 0 (fun _ => true) true t (.slice A n c) d p) :
    ∃ zs : List Int, zs.length = n ∧ Rd W 0 W.heap.size 1 A n (zs.map (Value.int k)) ∧ (∀ z ∈ zs, (Lit.int k z).wf = true) ∧ n ≤ c ∧ ((d = .nil ∧ n = 0 ∧ c = 0) ∨ ∃ el sp, d = .slice el sp ∧ el.length + sp.length = c) := by
  obtain ⟨fuel, hf⟩ := h
  rcases open_ints ht he hc hf with ⟨hcs, hx⟩ | ⟨a, len, cap, zs, hcs, hb, hl, hm, hz, hx, hcell, hwz⟩
  · simp only [Value.cells] at hcs
    injection hcs with hcs
    injection hcs with h1 h2 h3
    subst h1; subst h2; subst h3
    simp only [Prod.mk.injEq] at hx
    exact ⟨[], rfl, Rd.nil, by simp, Nat.le_refl _, .inl ⟨hx.1, rfl, rfl⟩⟩
  · simp only [Value.cells] at hcs
    injection hcs with hcs
    injection hcs with h1 h2 h3
    subst h1; subst h2; subst h3
    simp only [if_true] at hz
    simp only [Prod.mk.injEq] at hx
    refine ⟨zs.take n, by simp; omega, ⟨by simp; omega, fun hn => ?_⟩, fun z hz' => hwz z (List.mem_of_mem_take hz'), hl, .inr ⟨_, _, hx.1, ?_⟩⟩
    · obtain ⟨b, o, rfl, hcc⟩ := ints_at hcell (by omega)
      refine ⟨b, o, rfl, Nat.zero_le _, ?_, fun j u hu => ?_⟩
      · exact block_of_cell (hcc 0 (by omega))
      · simp only [List.getElem?_map, Option.map_eq_some_iff] at hu
        obtain ⟨z, hz1, rfl⟩ := hu
        rw [List.getElem?_take] at hz1
        split at hz1
        · have hj : j < zs.length := (List.getElem?_eq_some_iff.1 hz1).1
          rw [hcc j hj]
          simp [List.getD, hz1]
        · cases hz1
    · have e1 : (lits k (zs.take n) : List (DataW H)).length = (zs.take n).length := by simp [lits]
      have e2 : (lits k (zs.drop n) : List (DataW H)).length = (zs.drop n).length := by simp [lits]
      rw [e1, e2]
      simp only [List.length_take, List.length_drop]
      omega
/-- a slice of bytes that came in -/
theorem open_bytes {t e : TypeId} {A : Option Addr} {n c : Nat} {d : DataW H} {p : List MemPlace} (ht : P.underlying t = some (.slice e)) (he : P.underlying e = some (.int .u8)) (hc : P.cellsOf e = 1)
    (h : DataW.Trod enc P W 0 (fun _ => true) true t (.slice A n c) d p) :
    ∃ bs : List UInt8, bs.length = n ∧ Rd W 0 W.heap.size 1 A n (bcells bs) ∧ n ≤ c ∧ ((d = .nil ∧ n = 0 ∧ c = 0) ∨ ∃ el sp, d = .slice el sp ∧ el.length + sp.length = c) := by
  obtain ⟨zs, h1, h2, h3, h4, h5⟩ := open_row ht he hc h
  obtain ⟨bs, hbs⟩ := bytes_of_wf h3
  rw [hbs] at h2
  refine ⟨bs, ?_, h2, h4, h5⟩
  have := congrArg List.length hbs
  simp at this
  omega
/-- its length, by the form's own reach -/
theorem reach_len {ts : List TypeId} {ds : List (DataW H)} {j t e n c b : Nat} {d : DataW H} (hh : (DataW.weightsEach P ts ds).all (· ≤ reachBytes) = true) (ht : ts[j]? = some t) (hd : ds[j]? = some d) (hu : P.underlying t = some (.slice e)) (hb : P.bytesOf e = b + 1)
    (h4 : n ≤ c) (h5 : (d = .nil ∧ n = 0 ∧ c = 0) ∨ ∃ el sp, d = .slice el sp ∧ el.length + sp.length = c) : n ≤ 140737488351232 := by
  rcases h5 with ⟨_, h, _⟩ | ⟨el, sp, rfl, h⟩
  · omega
  · have := sized_slice hh ht hd hu
    rw [hb, h] at this
    have hr : reachBytes = 140737488351232 := by decide
    rw [hr] at this
    have : c ≤ c * (b + 1) := Nat.le_mul_of_pos_right _ (by omega)
    omega
theorem reach_cap {ts : List TypeId} {ds : List (DataW H)} {j t e n c b : Nat} {d : DataW H} (hh : (DataW.weightsEach P ts ds).all (· ≤ reachBytes) = true) (ht : ts[j]? = some t) (hd : ds[j]? = some d) (hu : P.underlying t = some (.slice e)) (hb : P.bytesOf e = b + 1)
    (h5 : (d = .nil ∧ n = 0 ∧ c = 0) ∨ ∃ el sp, d = .slice el sp ∧ el.length + sp.length = c) : c ≤ 140737488351232 :=
  reach_len (n := c) hh ht hd hu hb (Nat.le_refl _) (h5.imp (fun h => ⟨h.1, h.2.2, h.2.2⟩) id)
end
theorem Ret.elimRet {P : Program} {f : FuncId} {args : List Value} {w : World} {R : Value → World → Prop} {R' : Ending → World → Prop} (h : Ret P f args w R) (hr : ∀ e w', (∃ v, e = .returned v ∧ R v w') → R' e w') : Calls P f args.toArray w R' := Calls.mono h hr
end Go.Proofs.Ytcgcklfbnmaodaa

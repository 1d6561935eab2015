/- Operations that make or cut memory: boxes, literals, make, append, slicing, conversions of bytes; and comparisons with nil. -/
import Derived.Test.YtcgcklfbnmaodaaD
import Derived.WalkSpells
import Derived.WalkLawsBesides
import Derived.Lib.LazyBuf
import Derived.Laws.IdiomCopy
import Derived.Laws.IdiomStrings
import Derived.Lib.SlBytesConst
namespace Go.Proofs.Ytcgcklfbnmaodaa
open Go Go.RowKit

/-- a new block of these cells, and nothing else -/
def New (w : World) (t : TypeId) (cs : List Value) (g : Nat) (w' : World) : Prop := g = w.heap.size ∧ Ext w w' ∧ Blk w' g t cs ∧ w'.heap.size = g + 1
theorem New.of (w : World) (t : TypeId) (cs : List Value) : New w t cs w.heap.size (w.alloc (.cells cs.toArray t)) := ⟨rfl, Keep.alloc _ _, Blk.new _ _ _, by simp⟩

section
variable {r : Option Nat} {P : Program} {N : Sz} {l : Env} {w : World} {o : Oper}

theorem ex_box {t : Nat} {x : Operand} {v : Value} {cs : List Value} (ho : o.op = .box t x) (hx : ev l x = some v) (hcs : v.cells = cs.toArray) :
    Ex r P N o l w (fun v' w' => ∃ g, v' = .pointer (some ⟨g, 0, none⟩) ∧ New w t cs g w') :=
  ex_of (by simp [ho]) fun a ha => ⟨_, w.alloc (.cells cs.toArray t), by simp [execOp, ho, ha.ev hx, Instr.box, newVar, newRow, hcs, newObj, Sem.run], w.heap.size, rfl, New.of _ _ _⟩
theorem ex_alloc {t : Nat} {z : Value} {cs : List Value} (hz : (P.info? t).map (·.zero) = some (some z)) (hcs : z.cells = cs.toArray) (ho : o.op = .alloc t) :
    Ex r P N o l w (fun v' w' => ∃ g, v' = .pointer (some ⟨g, 0, none⟩) ∧ New w t cs g w') := by
  obtain ⟨i', hi, hs⟩ := Option.map_eq_some_iff.1 hz
  exact ex_of (by simp [ho]) fun a ha => ⟨_, w.alloc (.cells cs.toArray t), by simp [execOp, ho, Instr.alloc, zeroValue, typeInfo, hi, hs, newVar, newRow, hcs, newObj, Sem.run], w.heap.size, rfl, New.of _ _ _⟩

def evp (l : Env) : List (Nat × Operand) → Option (List (Nat × Value))
  | [] => some []
  | (i, x) :: r => match ev l x, evp l r with
    | some v, some vs => some ((i, v) :: vs)
    | _, _ => none
theorem Of.evp {a : Act} (h : Of N l a) : ∀ {xs : List (Nat × Operand)} {vs : List (Nat × Value)}, evp l xs = some vs → xs.map (fun p => (p.1, a.eval p.2)) = vs
  | [], vs, hx => by simp [Proofs.Ytcgcklfbnmaodaa.evp] at hx; simp [hx]
  | (i, x) :: r, vs, hx => by
    unfold Proofs.Ytcgcklfbnmaodaa.evp at hx
    split at hx
    · rename_i v us h1 h2
      simp only [Option.some.injEq] at hx
      rw [← hx, List.map_cons, h.ev h1, Of.evp h h2]
    · cases hx
/-- a struct's literal: 'h' is a closed fact on the type -/
theorem ex_build {t : Nat} {ps : Array (Nat × Operand)} {vs : List (Nat × Value)} {v : Value} (ho : o.op = .build t ps) (hx : evp l ps.toList = some vs) (h : ∀ w, (Instr.build t vs.toArray).run P w = .ok v w) : Ex r P N o l w (Dv v w) := by
  refine ex_of (by simp [ho]) fun a ha => ⟨v, w, ?_, rfl, rfl⟩
  have e : ps.map (fun p => (p.1, a.eval p.2)) = vs.toArray := by rw [← ha.evp hx, ← Array.toList_map]
  have e' : (ps.map fun (i, x) => (i, a.eval x)) = vs.toArray := e
  simp only [execOp, ho, e', Sem.run_bind, h w, Result.andThen_ok, Sem.run_pure]
/-- a slice's literal -/
theorem ex_buildSlice {t e n : Nat} {ps : Array (Nat × Operand)} {vs : List (Nat × Value)} {cs : List Value} (ho : o.op = .buildSlice t n ps) (hx : evp l ps.toList = some vs)
    (h : ∀ w, (Instr.buildSlice t n vs.toArray).run P w = .ok (.slice (some ⟨w.heap.size, 0, none⟩) n n) (w.alloc (.cells cs.toArray e))) :
    Ex r P N o l w (fun v' w' => ∃ g, v' = .slice (some ⟨g, 0, none⟩) n n ∧ New w e cs g w') := by
  refine ex_of (by simp [ho]) fun a ha => ⟨_, _, ?_, _, rfl, New.of w e cs⟩
  have e : ps.map (fun p => (p.1, a.eval p.2)) = vs.toArray := by rw [← ha.evp hx, ← Array.toList_map]
  have e' : (ps.map fun (i, x) => (i, a.eval x)) = vs.toArray := e
  simp only [execOp, ho, e', Sem.run_bind, h w, Result.andThen_ok, Sem.run_pure]

/-- a type whose zero value is one cell -/
def Zero1 (P : Program) (e : TypeId) (z : Value) (bytes : Nat) : Prop := (P.info? e).map (fun i => (i.zero, i.size, i.bytes)) = some (some z, 1, bytes) ∧ z.cells = #[z]
theorem madeCells_one (z : Value) (n : Nat) : madeCells #[z] n = (List.replicate n z).toArray := by
  refine Array.ext (by simp [madeCells]) fun i h1 h2 => ?_
  simp [madeCells, Nat.mod_one]
theorem ex_make {t e bytes : Nat} {z : Value} {x y : Operand} {kl kc : IntKind} {L C : Int} (ht : P.underlying t = some (.slice e)) (hz : Zero1 P e z bytes) (n : Nat) (ho : o.op = .makeSlice t x y)
    (hx : ev l x = some (.int kl L)) (hy : ev l y = some (.int kc C)) (hL : L = (n : Int)) (hC : C = (n : Int)) (hb : bytes * n ≤ 281474976710656) (hm : n ≤ 9223372036854775807) :
    Ex r P N o l w (fun v' w' => ∃ g, v' = .slice (some ⟨g, 0, none⟩) n n ∧ New w e (List.replicate n z) g w') := by
  subst hL; subst hC
  obtain ⟨hz, hzc⟩ := hz
  obtain ⟨i', hi, hs⟩ := Option.map_eq_some_iff.1 hz
  simp only [Prod.mk.injEq] at hs
  obtain ⟨h1, h2, h3⟩ := hs
  refine ex_of (by simp [ho]) fun a ha => ⟨_, _, ?_, _, rfl, New.of w e (List.replicate n z)⟩
  have hb' : (i'.bytes : Int) * (n : Int) ≤ 281474976710656 := by
    rw [h3]
    have h : ((bytes * n : Nat) : Int) ≤ 281474976710656 := by omega
    rwa [Int.natCast_mul] at h
  have hr := run_make (P := P) w t e i' z ht hi h1 kl kc n n (by omega) (Int.le_refl _) hb' (by omega)
  simp only [Int.toNat_natCast, h2, Nat.mul_one, hzc, madeCells_one] at hr
  simp only [execOp, ho, ha.ev hx, ha.ev hy, Sem.run_bind, hr, Result.andThen_ok, Sem.run_pure]

/-- 's[lo:hi]' -/
theorem ex_slice {t e size n c : Nat} {A : Option Addr} {x : Operand} {xl xh : Option Operand} (ht : P.underlying t = some (.slice e)) (he : SizeIs P e size) (lo hi : Nat) (ho : o.op = .slice t x xl xh none)
    (hx : ev l x = some (.slice A n c)) (hl : (xl = none ∧ lo = 0) ∨ ∃ y k i, xl = some y ∧ ev l y = some (.int k i) ∧ i = (lo : Int)) (hh : (xh = none ∧ hi = n) ∨ ∃ y k i, xh = some y ∧ ev l y = some (.int k i) ∧ i = (hi : Int))
    (h1 : lo ≤ hi) (h2 : hi ≤ c) : Ex r P N o l w (Dv (.slice (if c = lo then A else A.map (·.add (lo * size))) (hi - lo) (c - lo)) w) := by
  refine ex_of (by simp [ho]) fun a ha => ⟨_, w, ?_, rfl, rfl⟩
  rcases hl with ⟨rfl, rfl⟩ | ⟨y, k, i, rfl, hy, rfl⟩ <;> rcases hh with ⟨rfl, rfl⟩ | ⟨y', k', i', rfl, hy', rfl⟩
  · simp [execOp, ho, ha.ev hx, Instr.sliceAt, Instr.slice, run_underlying ht, Instr.sliceBounds, run_sizeIs he]
  · simp [execOp, ho, ha.ev hx, ha.ev hy', Instr.sliceAt, Instr.slice, run_underlying ht, Instr.sliceBounds, Instr.sliceBound, asIntOf, run_sizeIs he, h2]
  · simp [execOp, ho, ha.ev hx, ha.ev hy, Instr.sliceAt, Instr.slice, run_underlying ht, Instr.sliceBounds, Instr.sliceBound, asIntOf, run_sizeIs he, h1]
  · simp [execOp, ho, ha.ev hx, ha.ev hy, ha.ev hy', Instr.sliceAt, Instr.slice, run_underlying ht, Instr.sliceBounds, Instr.sliceBound, asIntOf, run_sizeIs he, h1, h2]

/-- append onto a slice of the call's own -/
theorem ex_append {t e size bytes lo n c m c' hi lo' : Nat} {A A' : Option Addr} {xs news : List Value} {x y : Operand} {z : Value} (ht : P.underlying t = some (.slice e)) (hz : (P.info? e).map (fun i => (i.zero, i.size, i.bytes)) = some (some z, size, bytes)) (hzs : z.cells.size = size) (hsz : 0 < size)
    (ho : o.op = .call { callee := .builtin .append, args := #[x, y], argTypes := #[t, t] }) (hx : ev l x = some (.slice A n c)) (hy : ev l y = some (.slice A' m c')) (hown : Own w lo e size A n c xs) (hr : Rd w lo' hi size A' m news)
    (h1 : ∀ u ∈ news, u.oneCell' = true) (hb : (n + m) * bytes ≤ 140737488355328) (hm : n + m ≤ 9223372036854775807) (hlo : lo ≤ w.heap.size) :
    Ex r P N o l w (fun v' w' => ∃ B d, v' = .slice B (n + m) d ∧ Own w' lo e size B (n + m) d (xs ++ news) ∧ Keep (fun k => ∀ o, A ≠ some ⟨k, o, none⟩) w w' ∧ (B = A ∨ B = some ⟨w.heap.size, 0, none⟩)) := by
  obtain ⟨i', hi', hs⟩ := Option.map_eq_some_iff.1 hz
  simp only [Prod.mk.injEq] at hs
  obtain ⟨hz1, hz2, hz3⟩ := hs
  refine ex_of (by simp [ho]) fun a ha => ?_
  have main : ∃ B d w', (Builtin.append_ #[t, t] o.type #[.slice A n c, .slice A' m c']).run P w = .ok (.slice B (n + m) d) w' ∧ Own w' lo e size B (n + m) d (xs ++ news) ∧ Keep (fun k => ∀ o, A ≠ some ⟨k, o, none⟩) w w' ∧ (B = A ∨ B = some ⟨w.heap.size, 0, none⟩) := by
    rcases Nat.eq_zero_or_pos m with h0 | h0
    · subst h0
      have hn : news = [] := List.eq_nil_of_length_eq_zero (by simpa using hr.1)
      subst hn
      refine ⟨A, c, w, ?_, by simpa using hown, Keep.refl _ _, .inl rfl⟩
      have hle : n ≤ c := hown.le
      cases A' with
      | none => cases A <;> simp [Builtin.append_, run_underlying ht, sizeOf, typeInfo, hi', Builtin.lenOf, Builtin.firstCells, hle, storeCells]
      | some a' => cases A <;> simp [Builtin.append_, run_underlying ht, sizeOf, typeInfo, hi', Builtin.lenOf, Builtin.firstCells, hle, storeCells, loadCells, loadCellsFrom]
    · obtain ⟨b', o', rfl, _, _, hcell⟩ := hr.2 h0
      obtain ⟨v', w', hrun, h2, h3, h4, h5⟩ := run_append_own_at (P := P) w lo t o.type e i' z size bytes ht hi' hz1 hz2 hz3 hzs hsz (.slice A n c) n xs hown ⟨b', o', none⟩ m c' news hr.1 (fun j u hu => by rw [add_lit']; exact hcell j u hu) h1 (by simpa [maxLen] using hm) hb hlo
      have hform : ∃ g d, v' = .slice (some ⟨g, 0, none⟩) (n + m) d := by
        rcases h2.2 with ⟨hv, hn⟩ | ⟨g, cap, cur, hv, _⟩
        · omega
        · exact ⟨g, cap, hv⟩
      obtain ⟨g, d, rfl⟩ := hform
      refine ⟨some ⟨g, 0, none⟩, d, w', hrun, h2, ?_, ?_⟩
      · refine (Keep.grown h3).mono fun k _ hk => ?_
        cases A with
        | none => simp [Value.ownBlock]
        | some ad =>
          intro e'
          have : k = ad.block := by simpa [Value.ownBlock] using e'
          subst this
          rcases hown.form with ⟨h, _⟩ | ⟨g', h, _⟩
          · cases h
          · injection h with h
            subst h
            exact hk 0 rfl
      · rcases h5 with h5 | h5
        · rcases hown.form with ⟨rfl, _⟩ | ⟨g', rfl, _⟩
          · simp [Value.ownBlock] at h5
          · simp [Value.ownBlock] at h5
            exact .inl (by rw [h5])
        · simp [Value.ownBlock] at h5
          exact .inr (by rw [h5])
  obtain ⟨B, d, w', hrun, h2, h3, h4⟩ := main
  refine ⟨_, w', ?_, B, d, rfl, h2, h3, h4⟩
  simp only [execOp, ho, resolve, invoke, builtin, Sem.run_bind, Sem.run_pure, Result.andThen_ok, List.map_toArray, List.map_cons, List.map_nil, ha.ev hx, ha.ev hy, hrun]

/-- the cells of bytes -/
def bv (x : UInt8) : Value := .int .u8 (x.toNat : Int)
def bcells (l : List UInt8) : List Value := l.map bv
@[simp] theorem bcells_length (l : List UInt8) : (bcells l).length = l.length := by simp [bcells]
theorem bcells_get (l : List UInt8) (k : Nat) : (bcells l)[k]? = (l[k]?).map bv := by simp [bcells]
theorem bcells_one (l : List UInt8) : ∀ u ∈ bcells l, u.oneCell' = true := by
  intro u hu
  obtain ⟨x, _, rfl⟩ := List.mem_map.1 hu
  rfl
/-- 'string(b)' -/
theorem ex_str {s t e lo hi c : Nat} {A : Option Addr} {bs : List UInt8} {x : Operand} (hs : P.underlying s = some (.slice e)) (he : P.underlying e = some (.int .u8)) (ht : P.underlying t = some .string) (ho : o.op = .convert s t x)
    (hx : ev l x = some (.slice A bs.length c)) (hr : Rd w lo hi 1 A bs.length (bcells bs)) : Ex r P N o l w (Dv (.string ⟨bs.toArray⟩) w) := by
  refine ex_of (by simp [ho]) fun a ha => ⟨_, w, ?_, rfl, rfl⟩
  have main : (convert s t (.slice A bs.length c)).run P w = .ok (.string ⟨bs.toArray⟩) w := by
    rcases Nat.eq_zero_or_pos bs.length with h0 | h0
    · have hb : bs = [] := List.eq_nil_of_length_eq_zero h0
      subst hb
      rw [run_convert_bytes_string w s t e A _ c hs he ht]
      cases A with
      | none => simp [Conv.bytesToString]; rfl
      | some a' => simp [Conv.bytesToString, loadCells, loadCellsFrom]; rfl
    · obtain ⟨b, oo, rfl, _, _, hc⟩ := hr.2 h0
      refine run_convert_bytes_back w s t e ⟨b, oo, none⟩ c bs hs he ht fun j hj => ?_
      rw [add_lit']
      exact hc j _ (by rw [bcells_get, List.getElem?_eq_getElem hj]; rfl)
  simp only [execOp, ho, ha.ev hx, Sem.run_bind, main, Result.andThen_ok, Sem.run_pure]
/-- the conversion of a literal's bytes to its own type -/
theorem ex_lit {t e b n c : Nat} {cs : List Value} {x : Operand} (hs : P.underlying t = some (.slice e)) (he : P.underlying e = some (.int .u8)) (ho : o.op = .convert t t x)
    (hx : ev l x = some (.slice (some ⟨b, 0, none⟩) n c)) (hb : Blk w b e cs) :
    Ex r P N o l w (fun v' w' => v' = .slice (some ⟨b, 0, none⟩) n c ∧ Keep (fun k => k ≠ b) w w' ∧ (∀ j u, cs[j]? = some u → w'.cell? ⟨b, j, none⟩ = some u) ∧ w'.heap.size = w.heap.size) := by
  have hsh : w.shape? b = some (e, cs.length) := by
    unfold Blk at hb
    simp [World.shape?, hb]
  refine ex_of (by simp [ho]) fun a ha => ⟨_, w.freeze ⟨b, cs.length, none⟩ 1, ?_, rfl, ?_, ?_, ?_⟩
  · simp [execOp, ho, ha.ev hx, convert, run_underlying hs, run_underlying he, markStringish, shape, freeze, Sem.run, hsh]
  · refine ⟨by simp [World.freeze], by simp [World.freeze], by simp [World.freeze], by simp [World.freeze], fun k _ hk => ?_⟩
    simp only [World.freeze]
    rw [if_neg (by decide)]
    simp only [Array.getElem?_modify]
    rw [if_neg (fun e => hk e.symm)]
  · intro j u hu
    unfold Blk at hb
    simp [World.freeze, World.cell?, Array.getElem?_modify, hb, hu]
  · simp [World.freeze]
theorem toList_mk' (l : List UInt8) : (⟨l.toArray⟩ : ByteArray).toList = l := by
  rw [ByteArray.toList_eq]
/-- '==' and '!=' of two strings -/
theorem ex_streq {t t' : Nat} {as bs : List UInt8} {x y : Operand} (ho : o.op = .binOp .eql t x y t') (hx : ev l x = some (.string ⟨as.toArray⟩)) (hy : ev l y = some (.string ⟨bs.toArray⟩)) : Ex r P N o l w (Dv (.bool (decide (as = bs))) w) := by
  refine ex_of (by simp [ho]) fun a ha => ⟨_, w, ?_, rfl, rfl⟩
  simp [execOp, ho, ha.ev hx, ha.ev hy, eqGuard, binOp, Op.stringOp]
  rw [Bool.eq_iff_iff]; simp
/-- a slice or a pointer held against nil -/
theorem ex_sliceNil {t t' e n c : Nat} {A : Option Addr} {x y : Operand} (ht : P.underlying t = some (.slice e)) (ho : o.op = .binOp .eql t x y t') (hx : ev l x = some (.slice A n c)) (hy : ev l y = some (.slice none 0 0)) : Ex r P N o l w (Dv (.bool A.isNone) w) := by
  refine ex_of (by simp [ho]) fun a ha => ⟨_, w, ?_, rfl, rfl⟩
  have h := Lib.run_eql_slice_nil (P := P) w t e A n c 0 0 ht
  simp only [execOp, ho, ha.ev hx, ha.ev hy, eqGuard]
  simp [h]
theorem run_ptrNil {t e : Nat} (A : Option Addr) (ht : P.underlying t = some (.pointer e)) : (Op.equal t (.pointer A) (.pointer none)).run P w = .ok A.isNone w := by
  have h : ∀ d : Nat, (Op.equalIn (d + 1) t (.pointer A) (.pointer none)).run P w = .ok A.isNone w := fun d => by
    cases A <;> simp [Op.equalIn, run_underlying ht]
  exact h 9999
theorem ex_ptrNil {t t' e : Nat} {A : Option Addr} {x y : Operand} (ht : P.underlying t = some (.pointer e)) (ho : o.op = .binOp .eql t x y t') (hx : ev l x = some (.pointer A)) (hy : ev l y = some (.pointer none)) : Ex r P N o l w (Dv (.bool A.isNone) w) := by
  refine ex_of (by simp [ho]) fun a ha => ⟨_, w, ?_, rfl, rfl⟩
  have h := run_ptrNil (P := P) (w := w) A ht
  simp only [execOp, ho, ha.ev hx, ha.ev hy, eqGuard, binOp]
  simp [h]
theorem ex_ptrNotNil {t t' e : Nat} {A : Option Addr} {x y : Operand} (ht : P.underlying t = some (.pointer e)) (ho : o.op = .binOp .neq t x y t') (hx : ev l x = some (.pointer A)) (hy : ev l y = some (.pointer none)) : Ex r P N o l w (Dv (.bool !A.isNone) w) := by
  refine ex_of (by simp [ho]) fun a ha => ⟨_, w, ?_, rfl, rfl⟩
  have h := run_ptrNil (P := P) (w := w) A ht
  simp only [execOp, ho, ha.ev hx, ha.ev hy, eqGuard, binOp]
  simp [h]
/-- a store into a block that is known whole -/
theorem ex_store_blk {t b i T : Nat} {cs : List Value} {x y : Operand} {v : Value} (h1 : SizeIs P t 1) (ho : o.op = .store t x y) (hx : ev l x = some (.pointer (some ⟨b, i, none⟩))) (hy : ev l y = some v) (hv : v.oneCell' = true)
    (hb : Blk w b T cs) (hi : i < cs.length) : Ex r P N o l w (fun _ w' => Keep (fun k => k ≠ b) w w' ∧ Blk w' b T (cs.set i v) ∧ w'.heap.size = w.heap.size) := by
  exact (ex_store (r := r) (N := N) h1 ho hx hy hv (hb.cell (List.getElem?_eq_getElem hi)) (hb.frozen i)).mono fun _ w' e => by subst e; exact ⟨Keep.setCell w ⟨b, i, none⟩ v, hb.set i v, by simp [World.setCell]⟩
end
end Go.Proofs.Ytcgcklfbnmaodaa

/- What lies in memory where a rolling hash lies: its table, its ring, its counts. -/
import Derived.Test.YtfgpcmphcnhbiaaDoorF
namespace Go.Proofs.YtfgpcmphcnhbiaaDoor
open Go Go.RowKit
set_option linter.unusedVariables false
set_option linter.unusedSimpArgs false

def tcells (seed : B64) : List Value := (List.range 256).map fun i => U (num seed i)
theorem tcells_get (seed : B64) {i : Nat} (h : i < 256) : (tcells seed)[i]? = some (U (num seed i)) := by simp [tcells, h]
theorem tcells_length (seed : B64) : (tcells seed).length = 256 := by simp [tcells]
/-- the table while it is being filled -/
def tpart (seed : B64) (k : Nat) : List Value := (List.range 256).map fun i => if i < k then U (num seed i) else .int .u64 0
theorem tpart_zero (seed : B64) : tpart seed 0 = List.replicate 256 (.int .u64 0) := by
  refine List.ext_getElem (by simp only [tpart, List.length_map, List.length_range, List.length_replicate]) fun i h1 h2 => ?_
  simp only [tpart, List.getElem_map, List.getElem_range, List.getElem_replicate, Nat.not_lt_zero, if_false]
theorem tpart_length (seed : B64) (k : Nat) : (tpart seed k).length = 256 := by simp [tpart]
theorem tpart_set (seed : B64) {k : Nat} (h : k < 256) : (tpart seed k).set k (U (num seed k)) = tpart seed (k + 1) := by
  refine List.ext_getElem (by simp [tpart]) fun i h1 h2 => ?_
  have hi : i < 256 := by simpa [tpart] using h2
  rw [List.getElem_set]
  by_cases e : k = i
  · subst e; simp [tpart]
  · rw [if_neg e]
    simp only [tpart, List.getElem_map, List.getElem_range]
    by_cases h' : i < k
    · rw [if_pos h', if_pos (by omega)]
    · rw [if_neg h', if_neg (by omega)]
theorem tpart_full (seed : B64) : tpart seed 256 = tcells seed := by
  refine List.ext_getElem (by simp [tpart, tcells]) fun i h1 h2 => ?_
  have hi : i < 256 := by simpa [tcells] using h2
  simp [tpart, tcells, hi]

/-- the cells of a rolling hash -/
def rcells (g : Nat) (ring : List UInt8) (win next cnt : Nat) (sum : B64) : List Value :=
  .slice (some ⟨g, 0, none⟩) 256 256 :: (bcells ring ++ [.int .i64 (win : Int), .int .i64 (next : Int), .int .i64 (cnt : Int), U sum])
section
variable {g : Nat} {ring : List UInt8} {win next cnt : Nat} {sum : B64}
theorem rc_tab : (rcells g ring win next cnt sum)[0]? = some (.slice (some ⟨g, 0, none⟩) 256 256) := rfl
theorem rc_ring (h : ring.length = 64) {i : Nat} {a : UInt8} (hi : ring[i]? = some a) : (rcells g ring win next cnt sum)[1 + i]? = some (bv a) := by
  have hlt : i < ring.length := (List.getElem?_eq_some_iff.1 hi).1
  simp only [rcells]
  rw [show 1 + i = i + 1 by omega, List.getElem?_cons_succ, List.getElem?_append_left (by simpa using hlt), bcells_get, hi]
  rfl
theorem rc_win (h : ring.length = 64) : (rcells g ring win next cnt sum)[65]? = some (.int .i64 (win : Int)) := by
  simp [rcells, List.getElem?_append, h]
theorem rc_next (h : ring.length = 64) : (rcells g ring win next cnt sum)[66]? = some (.int .i64 (next : Int)) := by
  simp [rcells, List.getElem?_append, h]
theorem rc_cnt (h : ring.length = 64) : (rcells g ring win next cnt sum)[67]? = some (.int .i64 (cnt : Int)) := by
  simp [rcells, List.getElem?_append, h]
theorem rc_sum (h : ring.length = 64) : (rcells g ring win next cnt sum)[68]? = some (U sum) := by
  simp [rcells, List.getElem?_append, h]
theorem rc_length (h : ring.length = 64) : (rcells g ring win next cnt sum).length = 69 := by simp [rcells, h]
theorem rc_set_sum (h : ring.length = 64) (s : B64) : (rcells g ring win next cnt sum).set 68 (U s) = rcells g ring win next cnt s := by
  simp [rcells, List.set_append, h]
theorem rc_set_cnt (h : ring.length = 64) (c : Nat) : (rcells g ring win next cnt sum).set 67 (.int .i64 (c : Int)) = rcells g ring win next c sum := by
  simp [rcells, List.set_append, h]
theorem rc_set_next (h : ring.length = 64) (n : Nat) : (rcells g ring win next cnt sum).set 66 (.int .i64 (n : Int)) = rcells g ring win n cnt sum := by
  simp [rcells, List.set_append, h]
theorem rc_set_ring (h : ring.length = 64) {i : Nat} (hi : i < 64) (b : UInt8) : (rcells g ring win next cnt sum).set (1 + i) (bv b) = rcells g (ring.set i b) win next cnt sum := by
  simp only [rcells]
  rw [show 1 + i = i + 1 by omega, List.set_cons_succ, List.set_append_left _ _ (by simp; omega)]
  simp [bcells, List.map_set]
end

/-- block b is a rolling hash of the window 'win' that contains the bytes bs -/
def RollAt (w : World) (b : Nat) (seed : B64) (win : Nat) (bs : List UInt8) : Prop :=
  ∃ g ring next, Blk w g 22 (tcells seed) ∧ Blk w b 86 (rcells g ring win next bs.length (hash seed bs)) ∧ g < b ∧ ring.length = 64 ∧ 1 ≤ win ∧ win ≤ 64 ∧ next < win ∧ bs.length ≤ win ∧
    ∀ i, i < bs.length → ring[(next + win - bs.length + i) % win]? = bs[i]?
theorem RollAt.keep {S : Nat → Prop} {w w' : World} {b : Nat} {seed : B64} {win : Nat} {bs : List UInt8} (h : RollAt w b seed win bs) (k : Keep S w w') (hb : S b) (hg : ∀ g, g < b → Blk w g 22 (tcells seed) → S g) : RollAt w' b seed win bs := by
  obtain ⟨g, ring, next, h1, h2, h0, h3⟩ := h
  exact ⟨g, ring, next, h1.keep k (hg g h0 h1), h2.keep k hb, h0, h3⟩
theorem RollAt.ext {w w' : World} {b : Nat} {seed : B64} {win : Nat} {bs : List UInt8} (h : RollAt w b seed win bs) (k : Ext w w') : RollAt w' b seed win bs := h.keep k trivial fun _ _ _ => trivial
/-- another roll's push -/
theorem RollAt.other {w w' : World} {b b' : Nat} {seed seed' : B64} {win win' : Nat} {bs bs' : List UInt8} (h : RollAt w b seed win bs) (h' : RollAt w b' seed' win' bs') (k : Keep (fun k => k ≠ b') w w') (hne : b ≠ b') : RollAt w' b seed win bs := by
  obtain ⟨g', ring', next', _, h2', _⟩ := h'
  exact h.keep k hne fun g _ hg => hg.ne h2' (by decide)
/-- what grows behind it -/
theorem RollAt.behind {S : Nat → Prop} {w w' : World} {b : Nat} {seed : B64} {win : Nat} {bs : List UInt8} (h : RollAt w b seed win bs) (k : Keep S w w') (hS : ∀ j, j ≤ b → S j) : RollAt w' b seed win bs := h.keep k (hS b (Nat.le_refl _)) fun g hg _ => hS g (Nat.le_of_lt hg)
theorem RollAt.lt {w : World} {b : Nat} {seed : B64} {win : Nat} {bs : List UInt8} (h : RollAt w b seed win bs) : b < w.heap.size := by
  obtain ⟨g, ring, next, h1, h2, h3⟩ := h
  exact h2.lt
/-- what a byte does to ring and count -/
theorem ring_push {ring bs : List UInt8} {win next : Nat} (b : UInt8) (h64 : ring.length = 64) (h1 : 1 ≤ win) (h2 : win ≤ 64) (hn : next < win) (hl : bs.length ≤ win) (hr : ∀ i, i < bs.length → ring[(next + win - bs.length + i) % win]? = bs[i]?) :
    ∀ i, i < (lastN win (bs ++ [b])).length → (ring.set next b)[((next + 1) % win + win - (lastN win (bs ++ [b])).length + i) % win]? = (lastN win (bs ++ [b]))[i]? := by
  intro i hi
  have hlen : (lastN win (bs ++ [b])).length = min win (bs.length + 1) := by rw [lastN_length]; simp
  have hget : (lastN win (bs ++ [b]))[i]? = (bs ++ [b])[(bs.length + 1 - win) + i]? := by simp [lastN]
  have hmod : (next + 1) % win = if next + 1 = win then 0 else next + 1 := by
    split
    · rename_i h; rw [h]; simp
    · exact Nat.mod_eq_of_lt (by omega)
  rw [hget]
  have hsub : ∀ a, win ≤ a → a < win + win → a % win = a - win := fun a h h' => by
    rw [Nat.mod_eq_sub_mod h, Nat.mod_eq_of_lt (by omega)]
  by_cases hfull : bs.length = win
  · -- a full window: the eldest goes
    have hl2 : (lastN win (bs ++ [b])).length = win := by rw [hlen]; omega
    rw [hl2] at hi ⊢
    have e1 : bs.length + 1 - win = 1 := by omega
    rw [e1]
    have idx : ((next + 1) % win + win - win + i) % win = (next + 1 + i) % win := by
      rw [Nat.add_sub_cancel, Nat.mod_add_mod]
    rw [idx]
    by_cases hlast : i + 1 = win
    · have : (next + 1 + i) % win = next := by
        rw [show next + 1 + i = next + win by omega, Nat.add_mod_right, Nat.mod_eq_of_lt hn]
      rw [this, List.getElem?_set_self (by omega), List.getElem?_append_right (by omega), show 1 + i - bs.length = 0 by omega]
      rfl
    · have hne : next ≠ (next + 1 + i) % win := by
        rcases Nat.lt_or_ge (next + 1 + i) win with h | h
        · rw [Nat.mod_eq_of_lt h]; omega
        · rw [hsub _ h (by omega)]; omega
      rw [List.getElem?_set_ne hne, List.getElem?_append_left (by omega)]
      have := hr (1 + i) (by omega)
      rw [hfull] at this
      rw [← this]
      congr 1
      rw [show next + win - win + (1 + i) = next + 1 + i by omega]
  · have hl2 : (lastN win (bs ++ [b])).length = bs.length + 1 := by rw [hlen]; omega
    rw [hl2] at hi ⊢
    have e1 : bs.length + 1 - win = 0 := by omega
    rw [e1, Nat.zero_add]
    have idx : ((next + 1) % win + win - (bs.length + 1) + i) % win = (next + win - bs.length + i) % win := by
      rw [hmod]
      split
      · rename_i h
        rw [show next + win - bs.length + i = (0 + win - (bs.length + 1) + i) + win by omega, Nat.add_mod_right]
      · congr 1
        omega
    rw [idx]
    by_cases hlast : i = bs.length
    · subst hlast
      have : (next + win - bs.length + bs.length) % win = next := by
        rw [show next + win - bs.length + bs.length = next + win by omega, Nat.add_mod_right, Nat.mod_eq_of_lt hn]
      rw [this, List.getElem?_set_self (by omega), List.getElem?_append_right (by omega), Nat.sub_self]
      rfl
    · have hne : next ≠ (next + win - bs.length + i) % win := by
        rcases Nat.lt_or_ge (next + win - bs.length + i) win with h | h
        · rw [Nat.mod_eq_of_lt h]; omega
        · rw [hsub _ h (by omega)]; omega
      rw [List.getElem?_set_ne hne, List.getElem?_append_left (by omega)]
      exact hr i (by omega)
theorem hash_push {seed : B64} {ring bs : List UInt8} {win next : Nat} (b : UInt8) (h1 : 1 ≤ win) (hn : next < win) (hl : bs.length = win) (hr : ∀ i, i < bs.length → ring[(next + win - bs.length + i) % win]? = bs[i]?) :
    ∃ a, ring[next]? = some a ∧ hash seed (lastN win (bs ++ [b])) = (rot (hash seed bs) 1 ^^^ num seed b.toNat) ^^^ rot (num seed a.toNat) win := by
  cases bs with
  | nil => simp at hl; omega
  | cons a t =>
    have := hr 0 (by simp)
    rw [show next + win - (a :: t).length + 0 = next by rw [hl]; omega, Nat.mod_eq_of_lt hn] at this
    refine ⟨a, by simpa using this, ?_⟩
    have e : lastN win (a :: t ++ [b]) = t ++ [b] := by
      unfold lastN
      have : (a :: t ++ [b]).length - win = 1 := by simp at hl ⊢; omega
      rw [this]; rfl
    rw [e, hash_roll seed a b t, ← hl]
    rfl
theorem u8_lt (x : UInt8) : x.toNat < 256 := x.toNat_lt
/-- the table of the library's, as it is laid -/
def TabAt (w : World) : Prop := ∀ j, j < Lib.deBruijn64tab.length → w.cell? ⟨0, j, none⟩ = some (.int .u8 (Lib.deBruijn64tab.getD j 0))
theorem TabAt.keep {S : Nat → Prop} {w w' : World} (h : TabAt w) (k : Keep S w w') (hS : S 0) : TabAt w' := fun j hj => k.cell (p := ⟨0, j, none⟩) hS (h j hj)
theorem TabAt.ext {w w' : World} (h : TabAt w) (k : Ext w w') : TabAt w' := h.keep k trivial
theorem tz_key (x a : Nat) (hx : x < 18446744073709551616) (hx0 : x ≠ 0) (hlow : x &&& (18446744073709551616 - x) = a) :
    (IntKind.u64.wrap (bits BinOp.and IntKind.u64 (x : Int) (IntKind.u64.wrap (0 - (x : Int))) * 285870213051353865)).fdiv (2 ^ (min ((58 : Int).toNat) IntKind.u64.bits)) = ((a * 285870213051353865 % 18446744073709551616 / 288230376151711744 : Nat) : Int) := by
  have e1 : IntKind.u64.wrap (0 - (x : Int)) = ((18446744073709551616 - x : Nat) : Int) := by rw [IntKind.wrap_u64]; omega
  have e2 : ((2 : Int) ^ (min ((58 : Int).toNat) IntKind.u64.bits)) = 288230376151711744 := by decide
  rw [e1, u64_and_nat x _ hx (by omega), hlow, IntKind.wrap_u64, e2, Int.fdiv_eq_ediv_of_nonneg _ (by omega)]
  omega
end Go.Proofs.YtfgpcmphcnhbiaaDoor

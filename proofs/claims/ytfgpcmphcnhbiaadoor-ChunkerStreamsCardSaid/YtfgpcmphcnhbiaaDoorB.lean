/- Chapter 14 in plain terms: the numbers of a seed, rotation, the hash of bytes, the last bytes. No program in sight. -/
import Derived.Test.YtfgpcmphcnhbiaaDoorA
import Derived.Lib.TrailingZeros
namespace Go.Proofs.YtfgpcmphcnhbiaaDoor
open Go Go.RowKit

abbrev B64 := BitVec 64
/-- a uint64 as the model holds it -/
def u64 (x : B64) : Int := (x.toNat : Int)
def U (x : B64) : Value := .int .u64 (u64 x)
theorem u64_lo (x : B64) : 0 ≤ u64 x := by unfold u64; omega
theorem u64_hi (x : B64) : u64 x < 18446744073709551616 := by
  have := x.isLt
  unfold u64
  omega
theorem u64_inj {x y : B64} (h : u64 x = u64 y) : x = y := BitVec.eq_of_toNat_eq (by unfold u64 at h; omega)
theorem u64_of (n : Int) (h0 : 0 ≤ n) (h1 : n < 18446744073709551616) : ∃ x : B64, n = u64 x := by
  refine ⟨BitVec.ofNat 64 n.toNat, ?_⟩
  unfold u64
  rw [BitVec.toNat_ofNat, Nat.mod_eq_of_lt (by omega)]
  omega
theorem wrap_u (n : Nat) : IntKind.u64.wrap (n : Int) = u64 (BitVec.ofNat 64 n) := by
  rw [IntKind.wrap_u64]
  unfold u64
  rw [BitVec.toNat_ofNat, show (2 : Nat) ^ 64 = 18446744073709551616 from rfl]
  omega
theorem u_add (x y : B64) : IntKind.u64.wrap (u64 x + u64 y) = u64 (x + y) := by
  have : u64 x + u64 y = ((x.toNat + y.toNat : Nat) : Int) := by unfold u64; omega
  rw [this, wrap_u]
  exact congrArg u64 (BitVec.eq_of_toNat_eq (by simp))
theorem u_mul (x y : B64) : IntKind.u64.wrap (u64 x * u64 y) = u64 (x * y) := by
  have : u64 x * u64 y = ((x.toNat * y.toNat : Nat) : Int) := by unfold u64; simp
  rw [this, wrap_u]
  exact congrArg u64 (BitVec.eq_of_toNat_eq (by simp))
theorem ofInt_u (x : B64) : BitVec.ofInt 64 (u64 x) = x := by
  unfold u64
  rw [BitVec.ofInt_natCast]
  exact BitVec.eq_of_toNat_eq (by simp)
theorem u_wrap (x : B64) : IntKind.u64.wrap (u64 x) = u64 x := by
  rw [IntKind.wrap_u64]
  have h0 := u64_lo x
  have h1 := u64_hi x
  omega
theorem u_xor (x y : B64) : bits .xor .u64 (u64 x) (u64 y) = u64 (x ^^^ y) := by
  show IntKind.u64.wrap ((BitVec.ofInt 64 (u64 x) ^^^ BitVec.ofInt 64 (u64 y)).toNat : Int) = _
  rw [ofInt_u, ofInt_u]
  exact u_wrap _
theorem u_or (x y : B64) : bits .or .u64 (u64 x) (u64 y) = u64 (x ||| y) := by
  show IntKind.u64.wrap ((BitVec.ofInt 64 (u64 x) ||| BitVec.ofInt 64 (u64 y)).toNat : Int) = _
  rw [ofInt_u, ofInt_u]
  exact u_wrap _
theorem u_and (x y : B64) : bits .and .u64 (u64 x) (u64 y) = u64 (x &&& y) := by
  show IntKind.u64.wrap ((BitVec.ofInt 64 (u64 x) &&& BitVec.ofInt 64 (u64 y)).toNat : Int) = _
  rw [ofInt_u, ofInt_u]
  exact u_wrap _
theorem u_shl (x : B64) (n : Nat) (h : n ≤ 64) : IntKind.u64.wrap (u64 x * 2 ^ (min ((n : Nat) : Int).toNat IntKind.u64.bits)) = u64 (x <<< n) := by
  have e : min ((n : Nat) : Int).toNat IntKind.u64.bits = n := by simp [IntKind.bits]; omega
  rw [e]
  have : u64 x * 2 ^ n = ((x.toNat * 2 ^ n : Nat) : Int) := by unfold u64; simp
  rw [this, wrap_u]
  exact congrArg u64 (BitVec.eq_of_toNat_eq (by simp [Nat.shiftLeft_eq]))
theorem u_shr (x : B64) (n : Nat) (h : n ≤ 64) : (u64 x).fdiv (2 ^ (min ((n : Nat) : Int).toNat IntKind.u64.bits)) = u64 (x >>> n) := by
  have e : min ((n : Nat) : Int).toNat IntKind.u64.bits = n := by simp [IntKind.bits]; omega
  rw [e]
  have h2 : (0 : Int) ≤ 2 ^ n := by have := Int.pow_pos (n := 2) (m := n) (by omega); omega
  rw [Int.fdiv_eq_ediv_of_nonneg _ h2]
  unfold u64
  simp [Nat.shiftRight_eq_div_pow]

/-- the number of a byte in the table of a seed -/
def num (seed : B64) (i : Nat) : B64 :=
  let z := seed + BitVec.ofNat 64 (i + 1) * 0x9e3779b97f4a7c15#64
  let z := (z ^^^ (z >>> 30)) * 0xbf58476d1ce4e5b9#64
  let z := (z ^^^ (z >>> 27)) * 0x94d049bb133111eb#64
  z ^^^ (z >>> 31)

/-- rotation to the left -/
abbrev rot (x : B64) (n : Nat) : B64 := x.rotateLeft n
theorem rot_shift (x : B64) (n : Nat) (h : n < 64) : x <<< n ||| x >>> (64 - n) = rot x n := by
  rw [rot, BitVec.rotateLeft_def, Nat.mod_eq_of_lt h]
theorem rot_get (x : B64) (n i : Nat) (hi : i < 64) : (rot x n).getLsbD i = x.getLsbD ((i + (64 - n % 64)) % 64) := by
  have hn : n % 64 < 64 := Nat.mod_lt _ (by omega)
  rw [rot, BitVec.getLsbD_rotateLeft]
  by_cases h : i < n % 64
  · simp [h]
    congr 1
    omega
  · simp [h, hi]
    congr 1
    omega
theorem rot_rot (x : B64) (m n : Nat) : rot (rot x m) n = rot x (m + n) := by
  refine BitVec.eq_of_getLsbD_eq fun i hi => ?_
  rw [rot_get _ _ _ hi, rot_get _ _ _ (Nat.mod_lt _ (by omega)), rot_get _ _ _ hi]
  congr 1
  omega
theorem rot_xor (x y : B64) (n : Nat) : rot (x ^^^ y) n = rot x n ^^^ rot y n := by
  refine BitVec.eq_of_getLsbD_eq fun i hi => ?_
  rw [BitVec.getLsbD_xor, rot_get _ _ _ hi, rot_get _ _ _ hi, rot_get _ _ _ hi, BitVec.getLsbD_xor]
theorem rot_zero (x : B64) : rot x 0 = x := by
  refine BitVec.eq_of_getLsbD_eq fun i hi => ?_
  rw [rot_get _ _ _ hi]
  congr 1
  omega
theorem rot_64 (x : B64) : rot x 64 = x := by
  refine BitVec.eq_of_getLsbD_eq fun i hi => ?_
  rw [rot_get _ _ _ hi]
  congr 1
  omega
theorem rot_nil (n : Nat) : rot 0#64 n = 0#64 := by
  refine BitVec.eq_of_getLsbD_eq fun i hi => ?_
  rw [rot_get _ _ _ hi]
  simp

/-- the hash, byte after byte -/
def hashFrom (seed : B64) : B64 → List UInt8 → B64
  | h, [] => h
  | h, b :: l => hashFrom seed (rot h 1 ^^^ num seed b.toNat) l
def hash (seed : B64) (l : List UInt8) : B64 := hashFrom seed 0#64 l
theorem hashFrom_append (seed : B64) : ∀ (l m : List UInt8) (h : B64), hashFrom seed h (l ++ m) = hashFrom seed (hashFrom seed h l) m
  | [], _, _ => rfl
  | _ :: l, m, _ => hashFrom_append seed l m _
theorem hash_snoc (seed : B64) (l : List UInt8) (b : UInt8) : hash seed (l ++ [b]) = rot (hash seed l) 1 ^^^ num seed b.toNat := by
  rw [hash, hashFrom_append]; rfl
theorem hashFrom_xor (seed : B64) : ∀ (l : List UInt8) (x y : B64), hashFrom seed (x ^^^ y) l = rot x l.length ^^^ hashFrom seed y l
  | [], x, y => by simp [hashFrom, rot_zero]
  | b :: l, x, y => by
    simp only [hashFrom, List.length_cons]
    rw [rot_xor, BitVec.xor_assoc, hashFrom_xor seed l, rot_rot, Nat.add_comm 1]
theorem hashFrom_eq (seed : B64) (l : List UInt8) (x : B64) : hashFrom seed x l = rot x l.length ^^^ hash seed l := by
  have := hashFrom_xor seed l x 0#64
  rwa [BitVec.xor_zero] at this
theorem hash_append (seed : B64) (l m : List UInt8) : hash seed (l ++ m) = rot (hash seed l) m.length ^^^ hash seed m := by
  rw [hash, hashFrom_append, hashFrom_eq]; rfl
theorem hash_cons (seed : B64) (b : UInt8) (l : List UInt8) : hash seed (b :: l) = rot (num seed b.toNat) l.length ^^^ hash seed l := by
  have : hash seed (b :: l) = hashFrom seed (rot 0#64 1 ^^^ num seed b.toNat) l := rfl
  rw [this, rot_nil, BitVec.zero_xor, hashFrom_eq]
/-- a byte comes in, the eldest of a full window goes out -/
theorem hash_roll (seed : B64) (a b : UInt8) (l : List UInt8) : hash seed (l ++ [b]) = (rot (hash seed (a :: l)) 1 ^^^ num seed b.toNat) ^^^ rot (num seed a.toNat) (l.length + 1) := by
  rw [hash_snoc, hash_cons, rot_xor, rot_rot]
  generalize rot (num seed a.toNat) (l.length + 1) = A
  generalize rot (hash seed l) 1 = C
  generalize num seed b.toNat = D
  refine BitVec.eq_of_getLsbD_eq fun i _ => ?_
  simp only [BitVec.getLsbD_xor]
  cases A.getLsbD i <;> cases C.getLsbD i <;> cases D.getLsbD i <;> rfl

/-- the sum of the reference: the rotated numbers of the bytes before position k -/
def refSum (seed : B64) (l : List UInt8) : Nat → B64
  | 0 => 0#64
  | k + 1 => refSum seed l k ^^^ rot (num seed (l.getD k 0).toNat) (l.length - 1 - k)
theorem refSum_eq (seed : B64) (l : List UInt8) : ∀ k, k ≤ l.length → refSum seed l k = rot (hash seed (l.take k)) (l.length - k)
  | 0, _ => by simp [refSum, hash, hashFrom, rot_nil]
  | k + 1, h => by
    rw [refSum, refSum_eq seed l k (by omega), List.take_succ_eq_append_getElem (by omega), hash_snoc, rot_xor, rot_rot]
    have e1 : 1 + (l.length - (k + 1)) = l.length - k := by omega
    have e2 : l.length - 1 - k = l.length - (k + 1) := by omega
    have e3 : l.getD k 0 = l[k] := by simp [List.getD, List.getElem?_eq_getElem (show k < l.length by omega)]
    rw [e1, e2, e3]
theorem refSum_all (seed : B64) (l : List UInt8) : refSum seed l l.length = hash seed l := by
  rw [refSum_eq seed l _ (Nat.le_refl _), List.take_length, Nat.sub_self, rot_zero]

/-- the last n of a list -/
def lastN (n : Nat) (l : List UInt8) : List UInt8 := l.drop (l.length - n)
theorem lastN_length (n : Nat) (l : List UInt8) : (lastN n l).length = min n l.length := by simp [lastN]; omega
theorem lastN_all {n : Nat} {l : List UInt8} (h : l.length ≤ n) : lastN n l = l := by simp [lastN, Nat.sub_eq_zero_of_le h]
theorem lastN_snoc (n : Nat) (l : List UInt8) (b : UInt8) : lastN n (lastN n l ++ [b]) = lastN n (l ++ [b]) := by
  unfold lastN
  simp only [List.length_append, List.length_drop, List.length_cons, List.length_nil]
  rcases Nat.lt_or_ge l.length n with h | h
  · rw [Nat.sub_eq_zero_of_le (by omega : l.length ≤ n)]; simp
  · rcases Nat.eq_zero_or_pos n with h0 | h0
    · subst h0; simp
    · rw [List.drop_append_of_le_length (by simp; omega), List.drop_append_of_le_length (by omega), List.drop_drop]
      congr 2
      omega
theorem lastN_append (n : Nat) (l m : List UInt8) (h : n ≤ m.length) : lastN n (l ++ m) = lastN n m := by
  unfold lastN
  rw [List.length_append, List.drop_append]
  have : l.length ≤ l.length + m.length - n := by omega
  rw [List.drop_eq_nil_of_le this, List.nil_append]
  congr 1
  omega
/-- pushing all of a list -/
def pushAll (n : Nat) : List UInt8 → List UInt8 → List UInt8
  | bs, [] => bs
  | bs, b :: l => pushAll n (lastN n (bs ++ [b])) l
theorem pushAll_eq (n : Nat) : ∀ (l bs : List UInt8), pushAll n (lastN n bs) l = lastN n (bs ++ l)
  | [], bs => by simp [pushAll]
  | b :: l, bs => by
    rw [pushAll, lastN_snoc, pushAll_eq n l (bs ++ [b])]
    simp

/-- the number of zero bits below the lowest one, or 64 -/
def zeros (x : B64) : Nat := Lib.ctz 64 x.toNat
theorem zeros_le (x : B64) : zeros x ≤ 64 := by
  unfold zeros Lib.ctz
  split
  · omega
  · obtain ⟨m, _, h⟩ := Lib.ctzFrom_spec 64 x.toNat (by omega) x.isLt
    omega
theorem zeros_of (x : B64) (n : Nat) (h0 : ∀ i, i < n → x.getLsbD i = false) (h1 : n = 64 ∨ (n < 64 ∧ x.getLsbD n = true)) : zeros x = n := by
  unfold zeros Lib.ctz
  split
  · rename_i h
    rcases h1 with h1 | ⟨_, h1⟩
    · exact h1.symm
    · have : x = 0#64 := BitVec.eq_of_toNat_eq (by simpa using h)
      subst this
      simp at h1
  · rename_i h
    obtain ⟨m, hm, hk⟩ := Lib.ctzFrom_spec 64 x.toNat (by omega) x.isLt
    generalize Lib.ctzFrom 64 x.toNat = k at hm hk
    have bit : ∀ i, x.getLsbD i = (2 ^ k * (2 * m + 1)).testBit i := fun i => by rw [← hm]; rfl
    have bk : x.getLsbD k = true := by
      rw [bit, Nat.mul_comm, Nat.testBit_mul_two_pow]
      simp
    have bl : ∀ i, i < k → x.getLsbD i = false := by
      intro i hi
      rw [bit, Nat.mul_comm, Nat.testBit_mul_two_pow]
      simp
      omega
    rcases Nat.lt_trichotomy k n with h2 | h2 | h2
    · rw [h0 k h2] at bk; cases bk
    · exact h2
    · rcases h1 with h1 | ⟨_, h1⟩
      · omega
      · rw [bl n h2] at h1; cases h1
theorem u_low (x : B64) : bits .and .u64 (u64 x) 1 = if x.getLsbD 0 then 1 else 0 := by
  have e : (1 : Int) = u64 1#64 := by decide
  rw [e, u_and]
  have : x &&& 1#64 = if x.getLsbD 0 then 1#64 else 0#64 := by
    refine BitVec.eq_of_getLsbD_eq fun i hi => ?_
    rw [BitVec.getLsbD_and]
    by_cases h : i = 0
    · subst h
      cases hx : x.getLsbD 0 <;> simp
    · have : (1#64).getLsbD i = false := by simp [BitVec.getLsbD_one, h]
      rw [this]
      cases hx : x.getLsbD 0 <;> simp [BitVec.getLsbD_one, h]
  rw [this]
  cases x.getLsbD 0 <;> rfl
theorem G1 : (11400714819323198485 : Int) = u64 0x9e3779b97f4a7c15#64 := by decide
theorem G2 : (13787848793156543929 : Int) = u64 0xbf58476d1ce4e5b9#64 := by decide
theorem G3 : (10723151780598845931 : Int) = u64 0x94d049bb133111eb#64 := by decide
theorem u_mul' {n : Int} {y : B64} (h : n = u64 y) (x : B64) : IntKind.u64.wrap (u64 x * n) = u64 (x * y) := by subst h; exact u_mul x y
theorem i64_len {n : Nat} (h : n ≤ 140737488351232) : IntKind.i64.wrap (n : Int) = (n : Int) := i64_in (by omega) (by omega)
theorem Rd.byte {w : World} {lo hi : Nat} {A : Option Addr} {n : Nat} {bs : List UInt8} (h : Rd w lo hi 1 A n (bcells bs)) {k : Nat} (hk : k < bs.length) :
    ∃ b o, A = some ⟨b, o, none⟩ ∧ w.cell? ⟨b, o + k, none⟩ = some (bv (bs.getD k 0)) := by
  have hn : bs.length = n := by simpa using h.1
  obtain ⟨b, o, u, h1, _, _, h2, h3⟩ := h.at_ (show k < n by omega)
  refine ⟨b, o, h1, ?_⟩
  rw [h3, ← h2, bcells_get]
  simp [List.getD, List.getElem?_eq_getElem hk]
theorem rot_step (x : B64) (k : Nat) : (rot x k) <<< 1 ||| (rot x k) >>> 63 = rot x (k + 1) := by
  rw [rot_shift (rot x k) 1 (by omega), rot_rot]
theorem shr_low (x : B64) (k : Nat) : (x >>> k).getLsbD 0 = x.getLsbD k := by simp
end Go.Proofs.YtfgpcmphcnhbiaaDoor

import Derived.Test.YtalbgijagdmdcaaS7
set_option linter.all false
open Go.Proofs Go.Abs Go.FaR2
namespace Go.R2
/- Bits in bytes. -/
theorem bAnd_one {w : Int} (h : 0 ≤ w ∧ w < 9223372036854775808) : bAnd .i64 w 1 = w % 2 := by
  unfold bAnd
  obtain ⟨n, rfl⟩ : ∃ n : Nat, w = n := ⟨w.toNat, by omega⟩
  have e : (BitVec.ofInt IntKind.i64.bits (n : Int) &&& BitVec.ofInt IntKind.i64.bits 1).toNat = n % 2 := by
    have h1 : (BitVec.ofInt IntKind.i64.bits (n : Int)).toNat = n := by
      simp [IntKind.bits]; omega
    rw [BitVec.toNat_and, h1]
    have h2 : (BitVec.ofInt IntKind.i64.bits 1).toNat = 1 := rfl
    rw [h2, Nat.and_one_is_mod]
  rw [e, wrap_i64 (by omega) (by omega)]
  omega
theorem bOr_u8 {a b c : Nat} (ha : a < 2 ^ c) (hc : c < 8) (hb : b ≤ 1) : bOr .u8 (a : Int) ((b * 2 ^ c : Nat) : Int) = ((a + b * 2 ^ c : Nat) : Int) := by
  have hp : 2 ^ c ≤ 128 := by
    have := Nat.pow_le_pow_right (show 0 < 2 by omega) (show c ≤ 7 by omega)
    omega
  have hb2 : b * 2 ^ c ≤ 2 ^ c := by
    have := Nat.mul_le_mul_right (2 ^ c) hb
    omega
  unfold bOr
  have h1 : (BitVec.ofInt IntKind.u8.bits (a : Int)).toNat = a := by simp [IntKind.bits]; omega
  have h2 : (BitVec.ofInt IntKind.u8.bits ((b * 2 ^ c : Nat) : Int)).toNat = b * 2 ^ c := by
    simp only [IntKind.bits, BitVec.toNat_ofInt]; omega
  rw [BitVec.toNat_or, h1, h2, Nat.mul_comm b, Nat.or_comm, ← Nat.two_pow_add_eq_or_of_lt ha, wrap_u8 (by omega) (by rw [Nat.mul_comm] at hb2; omega)]
  rw [Nat.add_comm]

/-- The first c bits from base on, as a number. -/
def bb (f : Nat → Bool) (base : Nat) : Nat → Nat
  | 0 => 0
  | c + 1 => bb f base c + (if f (base + c) then 1 else 0) * 2 ^ c
theorem bb_lt (f : Nat → Bool) (base : Nat) : ∀ c, bb f base c < 2 ^ c
  | 0 => by simp [bb]
  | c + 1 => by
    have := bb_lt f base c
    rw [bb, Nat.pow_succ]
    split <;> omega
/-- m bytes with the first n bits. -/
def packB (f : Nat → Bool) (n m : Nat) : List UInt8 := (List.range m).map fun j => UInt8.ofNat (bb f (8 * j) (min 8 (n - 8 * j)))
theorem packB_len (f : Nat → Bool) (n m : Nat) : (packB f n m).length = m := by simp [packB]
theorem packB_get (f : Nat → Bool) (n m j : Nat) (h : j < m) : (packB f n m)[j]? = some (UInt8.ofNat (bb f (8 * j) (min 8 (n - 8 * j)))) := by
  simp [packB, h]
theorem packB_app (f : Nat → Bool) (n m : Nat) (h : n ≤ 8 * m) : packB f n m ++ [0] = packB f n (m + 1) := by
  rw [packB, packB, List.range_succ, List.map_append]
  have : n - 8 * m = 0 := by omega
  simp [this, bb]
theorem packB_set (f : Nat → Bool) (n m : Nat) (h : n / 8 < m) : (packB f n m).set (n / 8) (UInt8.ofNat (bb f (8 * (n / 8)) (n % 8) + (if f n then 1 else 0) * 2 ^ (n % 8))) = packB f (n + 1) m := by
  apply List.ext_getElem?
  intro j
  rw [List.getElem?_set]
  by_cases hj : n / 8 = j
  · subst hj
    rw [if_pos rfl, if_pos (by rw [packB_len]; exact h), packB_get _ _ _ _ h]
    have e : min 8 (n + 1 - 8 * (n / 8)) = n % 8 + 1 := by omega
    rw [e, bb]
    have : 8 * (n / 8) + n % 8 = n := by omega
    rw [this]
  · rw [if_neg hj]
    by_cases hjm : j < m
    · rw [packB_get _ _ _ _ hjm, packB_get _ _ _ _ hjm]
      have e : min 8 (n + 1 - 8 * j) = min 8 (n - 8 * j) := by omega
      rw [e]
    · rw [List.getElem?_eq_none (by rw [packB_len]; omega), List.getElem?_eq_none (by rw [packB_len]; omega)]
theorem packB_zero (f : Nat → Bool) (m : Nat) : packB f 0 m = List.replicate m 0 := by
  apply List.ext_getElem?
  intro j
  by_cases hj : j < m
  · rw [packB_get _ _ _ _ hj, List.getElem?_replicate_of_lt hj]; simp [bb]
  · rw [List.getElem?_eq_none (by rw [packB_len]; omega), List.getElem?_eq_none (by simp; omega)]
theorem bb_byte (f : Nat → Bool) (n : Nat) : ((UInt8.ofNat (bb f (8 * (n / 8)) (n % 8))).toNat : Int) = (bb f (8 * (n / 8)) (n % 8) : Nat) := by
  have h1 := bb_lt f (8 * (n / 8)) (n % 8)
  have hp := Nat.pow_le_pow_right (show 0 < 2 by omega) (show n % 8 ≤ 7 by omega)
  simp only [UInt8.toNat_ofNat']
  omega
theorem set_byte {L : List UInt8} {j : Nat} {b : UInt8} : (pure2 (L.map byteD)).set j [M.d (.v (.int .u8 b.toNat))] = pure2 ((L.set j b).map byteD) := by
  simp only [pure2, List.map_map]
  rw [List.map_set]
  rfl
end Go.R2

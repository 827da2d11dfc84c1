import Derived.Test.YtalbgijagdmdcaaS16
set_option linter.all false
open Go.Proofs Go.Abs Go.FaR2
namespace Go.R2
-- rules: intsM, intD, iD, bsD, bD, setM, setsM, Setg.cells, ranM, ransM, Ran.cells, tabM, slvM, slvsM, Slv.cells, objsM, Obj.cells, reqM, repM, byteD
set_option maxHeartbeats 4000000
set_option maxRecDepth 10000
theorem regs_get (q : Req) (v : Int) : ∀ (n i : Nat), i < n → (regs q v n)[2 * i]? = some (u8 (wordAt q v i / 256)) ∧ (regs q v n)[2 * i + 1]? = some (u8 (wordAt q v i))
  | 0, i, h => by omega
  | n + 1, i, h => by
    have hl := regs_len q v n
    rw [regs_succ]
    by_cases hi : i < n
    · rw [List.getElem?_append_left (by omega), List.getElem?_append_left (by omega)]
      exact regs_get q v n i hi
    · obtain rfl : i = n := by omega
      rw [List.getElem?_append_right (by omega), List.getElem?_append_right (by omega), hl, Nat.sub_self, show 2 * i + 1 - 2 * i = 1 by omega]
      exact ⟨rfl, rfl⟩
theorem two_of {l : List UInt8} {i : Nat} {x y : UInt8} (h1 : l[i]? = some x) (h2 : l[i + 1]? = some y) : (l.drop i).take 2 = [x, y] := by
  rw [List.drop_of_get h1, List.drop_of_get h2]
  rfl
theorem bb_bit (f : Nat → Bool) (base : Nat) : ∀ (c k : Nat), k < c → bb f base c / 2 ^ k % 2 = if f (base + k) then 1 else 0
  | 0, k, h => by omega
  | c + 1, k, h => by
    rw [bb]
    have hlt := bb_lt f base c
    by_cases hk : k < c
    · have ih := bb_bit f base c k hk
      obtain ⟨d, rfl⟩ : ∃ d, c = k + 1 + d := ⟨c - k - 1, by omega⟩
      have e : (if f (base + (k + 1 + d)) then 1 else 0) * 2 ^ (k + 1 + d) = 2 ^ k * (2 * ((if f (base + (k + 1 + d)) then 1 else 0) * 2 ^ d)) := by
        rw [Nat.pow_add, Nat.pow_succ]
        generalize (if f (base + (k + 1 + d)) then 1 else 0) = x
        simp only [Nat.mul_comm, Nat.mul_left_comm, Nat.mul_assoc]
      rw [e, Nat.add_mul_div_left _ _ (Nat.two_pow_pos k), Nat.add_mul_mod_self_left, ih]
    · obtain rfl : k = c := by omega
      have : bb f base k / 2 ^ k = 0 := Nat.div_eq_of_lt hlt
      rw [Nat.mul_comm, Nat.add_mul_div_left _ _ (Nat.two_pow_pos k), this]
      split <;> rfl
theorem bAnd8_one {w : Int} (h : 0 ≤ w ∧ w < 256) : bAnd .u8 w 1 = w % 2 := by
  unfold bAnd
  obtain ⟨n, rfl⟩ : ∃ n : Nat, w = n := ⟨w.toNat, by omega⟩
  have e : (BitVec.ofInt IntKind.u8.bits (n : Int) &&& BitVec.ofInt IntKind.u8.bits 1).toNat = n % 2 := by
    have h1 : (BitVec.ofInt IntKind.u8.bits (n : Int)).toNat = n := by
      simp [IntKind.bits]; omega
    rw [BitVec.toNat_and, h1]
    have h2 : (BitVec.ofInt IntKind.u8.bits 1).toNat = 1 := rfl
    rw [h2, Nat.and_one_is_mod]
  rw [e, wrap_u8 (by omega) (by omega)]
  omega
/-- The reply for one address of a readable block. -/
theorem readT_one {t : Tab} {q : Req} {v : Int} {i : Nat} (hq : q.Tb) (hr : q.addr + q.qty ≤ 65536) (ht : tblF q.fn t = true) (hi : (i : Int) < q.qty) (hex : (readT t q v).ex = 0) :
    readT t q v = ⟨q.fn, 0, dataF q v, 0, 0, false, 0, []⟩ ∧
      readT t ⟨q.fn, q.addr + i, 1, 0, 0⟩ v = ⟨q.fn, 0, dataF ⟨q.fn, q.addr + i, 1, 0, 0⟩ v, 0, 0, false, 0, []⟩ := by
  have ha := hq.addr
  have hqt := hq.qty
  unfold readT at hex ⊢
  split at hex
  · simp [refF] at hex
  rename_i hs
  split at hex
  · simp [refF] at hex
  rename_i hm
  split at hex
  · simp [refF] at hex
  rename_i hc
  have hs' : t.sup = true := by simpa using hs
  have hc' : coverF t.read ⟨q.addr, q.qty⟩ = true := by simpa using hc
  have hc2 : coverF t.read ⟨q.addr + i, 1⟩ = true := by
    rw [coverF, Bool.and_eq_true, Bool.and_eq_true, List.any_eq_true] at hc' ⊢
    obtain ⟨h1, h2, x, hx, h3⟩ := hc'
    refine ⟨?_, h2, x, hx, ?_⟩
    · show rangeF _ = true
      rw [rangeF_iff]; simp; omega
    · simp [coverX] at h3 ⊢; omega
  rw [if_neg hs, if_neg hm, if_neg hc, if_neg hs, if_neg (by simp only; omega), if_neg (by rw [hc2]; simp)]
  exact ⟨rfl, rfl⟩
theorem one_data (q : Req) (v : Int) (i : Nat) : dataF ⟨q.fn, q.addr + i, 1, 0, 0⟩ v = if 3 ≤ q.fn then [u8 (wordAt q v i / 256), u8 (wordAt q v i)] else [if bitAt q v i then 1 else 0] := by
  have hw : wordAt ⟨q.fn, q.addr + i, 1, 0, 0⟩ v 0 = wordAt q v i := by simp [wordAt]
  have hb : bitAt ⟨q.fn, q.addr + i, 1, 0, 0⟩ v 0 = bitAt q v i := by rw [bitAt, hw, bitAt]
  unfold dataF
  simp only
  split
  · rw [show (1 : Int).toNat = 0 + 1 by rfl, regs_succ, hw]; rfl
  · rw [show (1 : Int).toNat = 1 by rfl, packB, show (1 + 7) / 8 = 1 by rfl]
    simp only [List.range_one, List.map_cons, List.map_nil]
    have : bb (bitAt ⟨q.fn, q.addr + i, 1, 0, 0⟩ v) (8 * 0) (min 8 (1 - 8 * 0)) = if bitAt q v i then 1 else 0 := by
      rw [show min 8 (1 - 8 * 0) = 0 + 1 by rfl, bb, bb, show 8 * 0 + 0 = 0 by rfl, hb]; simp
    rw [this]
    split <;> rfl
end Go.R2

import Derived.Test.YtalbgijagdmdcaaOR11
set_option linter.all false
open Go.Proofs Go.Abs Go.FaR2
namespace Go.R2
-- rules: repM, objsM, Obj.cells, iD, bsD, bD, reqM, byteD
set_option maxHeartbeats 4000000
set_option maxRecDepth 10000

theorem make_tab {k a b : Int} (h : 0 ≤ k ∧ k ≤ 3) : (makeF k a b).fn = 1 + k ∧ reqF (makeF k a b) = true := by
  have e : 1 + k % 6 = 1 + k := by omega
  have hl : limitF (1 + k) = 2000 ∨ limitF (1 + k) = 125 := by
    unfold limitF; split
    · exact .inl rfl
    · exact .inr (by rw [if_pos (by omega)])
  have hm := Int.emod_nonneg b (show limitF (1 + k) ≠ 0 by omega)
  have hm2 := Int.emod_lt_of_pos b (show 0 < limitF (1 + k) by omega)
  rw [makeF, e, if_neg (by omega), if_neg (by omega)]
  generalize b % limitF (1 + k) = m at hm hm2
  have ha := Int.emod_nonneg a (show 65536 - (1 + m) + 1 ≠ 0 by omega)
  have ha2 := Int.emod_lt_of_pos a (show 0 < 65536 - (1 + m) + 1 by omega)
  generalize a % (65536 - (1 + m) + 1) = x at ha ha2
  refine ⟨rfl, ?_⟩
  rw [reqF, if_pos (by simp only; omega)]
  simp
  omega

/-- The bytes that the copy leaves. -/
def dat (v : List UInt8) (n : Nat) : List UInt8 := v.take n ++ List.replicate (n - v.length) 0
theorem dat_len (v : List UInt8) (n : Nat) : (dat v n).length = n := by simp [dat]; omega
theorem dat_eq (v : List UInt8) (n : Nat) : List.take n (pure2 (List.map byteD v)) ++ List.drop v.length (List.replicate n [M.d (D.v (Value.int .u8 0))]) = pure2 ((dat v n).map byteD) := by
  simp [dat, pure2, byteD, List.map_take]
theorem match_yes {p : Req} {d : List UInt8} (h : reqF p = true) (h1 : 1 ≤ p.fn ∧ p.fn ≤ 4) (hq : 1 ≤ p.qty ∧ p.qty ≤ 2000)
    (hd : (d.length : Int) = if p.fn ≤ 2 then (p.qty + 7) / 8 else 2 * p.qty) (hb : p.fn ≤ 2 → p.qty % 8 = 0 ∨ lastB d / 2 ^ (p.qty % 8).toNat = 0) : matchF p ⟨p.fn, 0, d, 0, 0, false, 0, []⟩ = true := by
  have hk : knownF p.fn = true := by simp [knownF]; omega
  have hl : ¬ p.fn ≤ 2 → p.qty ≤ 125 := fun h2 => by
    rw [reqF, if_pos h1] at h
    have := of_decide_eq_true h
    rw [limitF, if_neg (by omega), if_pos (by omega)] at this
    omega
  have hv : validF ⟨p.fn, 0, d, 0, 0, false, 0, []⟩ = true := by
    rw [validF]
    simp only [hk, if_true, if_neg (show ¬ (0 : Int) ≠ 0 by simp), if_neg (show ¬ p.fn = 43 by omega), if_neg (show ¬ p.fn = 17 by omega)]
    have : (1 ≤ (d.length : Int) ∧ (d.length : Int) ≤ 250) := by
      split at hd
      · omega
      · have := hl (by assumption); omega
    simp [this, plainF]
  rw [matchF, if_neg (by simp [h, hv]), if_neg (by simp; omega), if_neg (by simp only; omega)]
  simp only
  by_cases h2 : p.fn ≤ 2
  · rw [if_pos h2] at hd
    rw [if_neg (by omega), if_neg (by omega)]
    rcases hb h2 with hb | hb <;> simp [hb]
  · rw [if_neg h2] at hd
    rw [if_pos (by omega)]
    simpa using hd
theorem match_no {q : Req} {d : List UInt8} (h1 : 1 ≤ q.fn ∧ q.fn ≤ 4)
    (hd : (d.length : Int) ≠ if q.fn ≤ 2 then (q.qty + 7) / 8 else 2 * q.qty) : matchF q ⟨q.fn, 0, d, 0, 0, false, 0, []⟩ = false := by
  rw [matchF]
  split
  · rfl
  · rw [if_neg (by simp; omega), if_neg (by simp only; omega)]
    simp only
    by_cases h2 : q.fn ≤ 2
    · rw [if_pos h2] at hd
      rw [if_neg (by omega), if_pos (by omega)]
    · rw [if_neg h2] at hd
      rw [if_pos (by omega)]
      simpa using hd

theorem set_byteR {L : List UInt8} {j : Nat} {b : UInt8} : (pure2 (L.map byteD)).set j [M.d (.v (.int .u8 b.toNat))] = pure2 ((L.set j b).map byteD) := by
  simp only [pure2, List.map_map]
  rw [List.map_set]
  rfl

theorem t15 (kind a b c : Int) (v : List UInt8) (hv : v.length ≤ 9223372036854775807) : PFn Try.prog 15 [iM kind, iM a, iM b, iM c, bsM v] (bM true) := by
  refine PFn.of (prs := [(6, []), (7, [(0,3),(1,3),(0,5),(1,5)]), (10, [(0,9),(1,9),(3,9),(4,9),(5,9)])]) Try.func15 rfl rfl mix (by kernel_rfl) rfl rfl ?_
  simp only [Try.ntmps15, argUpd]
  simp only [↓ru, rv, rl, ry, tyf, iM, bM, bsM, cond_true, cond_false, Nat.reduceLT, Nat.reduceBEq, Nat.reduceAdd, Nat.reduceEqDiff, Nat.reduceMul, Nat.reduceLeDiff, Nat.reduceSub, Nat.reduceDiv, Int.reduceLE, Int.reduceLT, Int.reduceNeg, Int.reduceAdd, Int.reduceSub, Int.reduceMul, Int.reduceToNat, Int.reducePow, Int.reduceEq, ne_eq, reduceIte, repM, objsM, Obj.cells, iD, bsD, bD, reqM, byteD]
  refine acall1_pure (t27 kind 4 (by omega)) rfl rfl ?_
  simp only [↓ru, rv, rl, ry, tyf, iM, bM, bsM, cond_true, cond_false, Nat.reduceLT, Nat.reduceBEq, Nat.reduceAdd, Nat.reduceEqDiff, Nat.reduceMul, Nat.reduceLeDiff, Nat.reduceSub, Nat.reduceDiv, Int.reduceLE, Int.reduceLT, Int.reduceNeg, Int.reduceAdd, Int.reduceSub, Int.reduceMul, Int.reduceToNat, Int.reducePow, Int.reduceEq, ne_eq, reduceIte, repM, objsM, Obj.cells, iD, bsD, bD, reqM, byteD]
  refine acall1_pure (t53 (kind % 4) a b) rfl rfl ?_
  simp only [↓ru, rv, rl, ry, tyf, iM, bM, bsM, cond_true, cond_false, Nat.reduceLT, Nat.reduceBEq, Nat.reduceAdd, Nat.reduceEqDiff, Nat.reduceMul, Nat.reduceLeDiff, Nat.reduceSub, Nat.reduceDiv, Int.reduceLE, Int.reduceLT, Int.reduceNeg, Int.reduceAdd, Int.reduceSub, Int.reduceMul, Int.reduceToNat, Int.reducePow, Int.reduceEq, ne_eq, reduceIte, repM, objsM, Obj.cells, iD, bsD, bD, reqM, byteD]
  refine acall1_pure (t27 kind 4 (by omega)) rfl rfl ?_
  simp only [↓ru, rv, rl, ry, tyf, iM, bM, bsM, cond_true, cond_false, Nat.reduceLT, Nat.reduceBEq, Nat.reduceAdd, Nat.reduceEqDiff, Nat.reduceMul, Nat.reduceLeDiff, Nat.reduceSub, Nat.reduceDiv, Int.reduceLE, Int.reduceLT, Int.reduceNeg, Int.reduceAdd, Int.reduceSub, Int.reduceMul, Int.reduceToNat, Int.reducePow, Int.reduceEq, ne_eq, reduceIte, repM, objsM, Obj.cells, iD, bsD, bD, reqM, byteD]
  refine acall1_pure (t53 (kind % 4) a c) rfl rfl ?_
  have hk : 0 ≤ kind % 4 ∧ kind % 4 ≤ 3 := by omega
  generalize kind % 4 = k at hk ⊢
  obtain ⟨p1, p2⟩ := make_tab (a := a) (b := b) hk
  obtain ⟨q1, q2⟩ := make_tab (a := a) (b := c) hk
  generalize makeF k a b = p at p1 p2 ⊢
  generalize makeF k a c = q at q1 q2 ⊢
  have hp := reqF_qty p2 (by omega)
  have hq := reqF_qty q2 (by omega)
  simp only [↓ru, rv, rl, ry, tyf, iM, bM, bsM, cond_true, cond_false, Nat.reduceLT, Nat.reduceBEq, Nat.reduceAdd, Nat.reduceEqDiff, Nat.reduceMul, Nat.reduceLeDiff, Nat.reduceSub, Nat.reduceDiv, Int.reduceLE, Int.reduceLT, Int.reduceNeg, Int.reduceAdd, Int.reduceSub, Int.reduceMul, Int.reduceToNat, Int.reducePow, Int.reduceEq, ne_eq, reduceIte, repM, objsM, Obj.cells, iD, bsD, bD, reqM, byteD]
  simp (disch := omega) only [wrap_i64, wrap_u8, wrap_u16, wrap_u64]
  by_cases h2 : p.fn ≤ 2
  · have d2 : decide (p.fn ≤ 2) = true := by simpa using h2
    have hpt : IntKind.i64.wrap ((p.qty + 7).tdiv 8) = (((p.qty.toNat + 7) / 8 : Nat) : Int) := by
      rw [Int.tdiv_eq_ediv_of_nonneg (by omega), wrap_i64 (by omega) (by omega)]; omega
    have hqt : IntKind.i64.wrap ((q.qty + 7).tdiv 8) = (((q.qty.toNat + 7) / 8 : Nat) : Int) := by
      rw [Int.tdiv_eq_ediv_of_nonneg (by omega), wrap_i64 (by omega) (by omega)]; omega
    rw [d2]
    simp only [↓ru, rv, rl, ry, tyf, iM, bM, bsM, cond_true, cond_false, Nat.reduceLT, Nat.reduceBEq, Nat.reduceAdd, Nat.reduceEqDiff, Nat.reduceMul, Nat.reduceLeDiff, Nat.reduceSub, Nat.reduceDiv, Int.reduceLE, Int.reduceLT, Int.reduceNeg, Int.reduceAdd, Int.reduceSub, Int.reduceMul, Int.reduceToNat, Int.reducePow, Int.reduceEq, ne_eq, reduceIte, repM, objsM, Obj.cells, iD, bsD, bD, reqM, byteD]
    simp (disch := omega) only [wrap_i64, wrap_u8, wrap_u16, wrap_u64]
    simp only [↓ru, rv, rl, ry, tyf, iM, bM, bsM, cond_true, cond_false, Nat.reduceLT, Nat.reduceBEq, Nat.reduceAdd, Nat.reduceEqDiff, Nat.reduceMul, Nat.reduceLeDiff, Nat.reduceSub, Nat.reduceDiv, Int.reduceLE, Int.reduceLT, Int.reduceNeg, Int.reduceAdd, Int.reduceSub, Int.reduceMul, Int.reduceToNat, Int.reducePow, Int.reduceEq, ne_eq, reduceIte, repM, objsM, Obj.cells, iD, bsD, bD, reqM, byteD, hpt, hqt]
    generalize hn : (p.qty.toNat + 7) / 8 = n
    generalize hm : (q.qty.toNat + 7) / 8 = m
    refine grd_intro (by omega) ?_
    simp only [↓ru, rv, rl, ry, tyf, iM, bM, bsM, cond_true, cond_false, Nat.reduceLT, Nat.reduceBEq, Nat.reduceAdd, Nat.reduceEqDiff, Nat.reduceMul, Nat.reduceLeDiff, Nat.reduceSub, Nat.reduceDiv, Int.reduceLE, Int.reduceLT, Int.reduceNeg, Int.reduceAdd, Int.reduceSub, Int.reduceMul, Int.reduceToNat, Int.reducePow, Int.reduceEq, ne_eq, reduceIte, repM, objsM, Obj.cells, iD, bsD, bD, reqM, byteD, d2]
    rw [dat_eq]
    have hdl := dat_len v n
    generalize dat v n = d at hdl ⊢
    have htm : p.qty.tmod 8 = ((p.qty.toNat % 8 : Nat) : Int) := by
      rw [Int.tmod_eq_emod_of_nonneg (by omega)]; omega
    have hpf : 1 ≤ p.fn ∧ p.fn ≤ 4 := by omega
    have hqf : 1 ≤ q.fn ∧ q.fn ≤ 4 := by omega
    have hqe : p.fn = q.fn := by omega
    have hno : n ≠ m → ∀ d : List UInt8, d.length = n → matchF q ⟨p.fn, 0, d, 0, 0, false, 0, []⟩ = false := fun hne d hd => by
      rw [hqe]
      exact match_no hqf (by rw [if_pos (by omega), hd]; omega)
    have hd7 : ((n : Nat) : Int) = (p.qty + 7) / 8 := by omega
    by_cases h8 : p.qty.toNat % 8 = 0
    · have d8 : (!decide (p.qty.tmod 8 = 0)) = false := by rw [htm, h8]; rfl
      have hyes := match_yes (d := d) p2 hpf hp (by rw [if_pos h2]; omega) (fun _ => .inl (by omega))
      simp only [↓ru, rv, rl, ry, tyf, iM, bM, bsM, cond_true, cond_false, Nat.reduceLT, Nat.reduceBEq, Nat.reduceAdd, Nat.reduceEqDiff, Nat.reduceMul, Nat.reduceLeDiff, Nat.reduceSub, Nat.reduceDiv, Int.reduceLE, Int.reduceLT, Int.reduceNeg, Int.reduceAdd, Int.reduceSub, Int.reduceMul, Int.reduceToNat, Int.reducePow, Int.reduceEq, ne_eq, reduceIte, repM, objsM, Obj.cells, iD, bsD, bD, reqM, byteD, d8]
      refine acall1_pure t45 rfl rfl ?_
      simp only [↓ru, rv, rl, ry, tyf, iM, bM, bsM, cond_true, cond_false, Nat.reduceLT, Nat.reduceBEq, Nat.reduceAdd, Nat.reduceEqDiff, Nat.reduceMul, Nat.reduceLeDiff, Nat.reduceSub, Nat.reduceDiv, Int.reduceLE, Int.reduceLT, Int.reduceNeg, Int.reduceAdd, Int.reduceSub, Int.reduceMul, Int.reduceToNat, Int.reducePow, Int.reduceEq, ne_eq, reduceIte, repM, objsM, Obj.cells, iD, bsD, bD, reqM, byteD, hdl, if_true]
      refine acall1_pure (t54 p ⟨p.fn, 0, d, 0, 0, false, 0, []⟩ ⟨by simp, by simp⟩ (by simp) (by simp only; omega)) rfl rfl ?_
      rw [hyes]
      simp only [↓ru, rv, rl, ry, tyf, iM, bM, bsM, cond_true, cond_false, Nat.reduceLT, Nat.reduceBEq, Nat.reduceAdd, Nat.reduceEqDiff, Nat.reduceMul, Nat.reduceLeDiff, Nat.reduceSub, Nat.reduceDiv, Int.reduceLE, Int.reduceLT, Int.reduceNeg, Int.reduceAdd, Int.reduceSub, Int.reduceMul, Int.reduceToNat, Int.reducePow, Int.reduceEq, ne_eq, reduceIte, repM, objsM, Obj.cells, iD, bsD, bD, reqM, byteD]
      by_cases hnm : n = m
      · have dn : decide ((n : Int) = (m : Int)) = true := by simp; omega
        simp only [↓ru, rv, rl, ry, tyf, iM, bM, bsM, cond_true, cond_false, Nat.reduceLT, Nat.reduceBEq, Nat.reduceAdd, Nat.reduceEqDiff, Nat.reduceMul, Nat.reduceLeDiff, Nat.reduceSub, Nat.reduceDiv, Int.reduceLE, Int.reduceLT, Int.reduceNeg, Int.reduceAdd, Int.reduceSub, Int.reduceMul, Int.reduceToNat, Int.reducePow, Int.reduceEq, ne_eq, reduceIte, repM, objsM, Obj.cells, iD, bsD, bD, reqM, byteD, dn, pureEnd_of (fn := Try.f15) (rs := [.tmp 10]) (ts := [4]) rfl rfl]
      · have dn : decide ((n : Int) = (m : Int)) = false := by simp; omega
        simp only [↓ru, rv, rl, ry, tyf, iM, bM, bsM, cond_true, cond_false, Nat.reduceLT, Nat.reduceBEq, Nat.reduceAdd, Nat.reduceEqDiff, Nat.reduceMul, Nat.reduceLeDiff, Nat.reduceSub, Nat.reduceDiv, Int.reduceLE, Int.reduceLT, Int.reduceNeg, Int.reduceAdd, Int.reduceSub, Int.reduceMul, Int.reduceToNat, Int.reducePow, Int.reduceEq, ne_eq, reduceIte, repM, objsM, Obj.cells, iD, bsD, bD, reqM, byteD, dn, hdl, if_true]
        refine acall1_pure (t54 q ⟨p.fn, 0, d, 0, 0, false, 0, []⟩ ⟨by simp, by simp⟩ (by simp) (by simp only; omega)) rfl rfl ?_
        rw [hno hnm d hdl]
        simp only [↓ru, rv, rl, ry, tyf, iM, bM, bsM, cond_true, cond_false, Nat.reduceLT, Nat.reduceBEq, Nat.reduceAdd, Nat.reduceEqDiff, Nat.reduceMul, Nat.reduceLeDiff, Nat.reduceSub, Nat.reduceDiv, Int.reduceLE, Int.reduceLT, Int.reduceNeg, Int.reduceAdd, Int.reduceSub, Int.reduceMul, Int.reduceToNat, Int.reducePow, Int.reduceEq, ne_eq, reduceIte, repM, objsM, Obj.cells, iD, bsD, bD, reqM, byteD, pureEnd_of (fn := Try.f15) (rs := [.tmp 10]) (ts := [4]) rfl rfl]
    · have d8 : (!decide (p.qty.tmod 8 = 0)) = true := by rw [htm]; simp; omega
      simp only [↓ru, rv, rl, ry, tyf, iM, bM, bsM, cond_true, cond_false, Nat.reduceLT, Nat.reduceBEq, Nat.reduceAdd, Nat.reduceEqDiff, Nat.reduceMul, Nat.reduceLeDiff, Nat.reduceSub, Nat.reduceDiv, Int.reduceLE, Int.reduceLT, Int.reduceNeg, Int.reduceAdd, Int.reduceSub, Int.reduceMul, Int.reduceToNat, Int.reducePow, Int.reduceEq, ne_eq, reduceIte, repM, objsM, Obj.cells, iD, bsD, bD, reqM, byteD, d8]
      simp (disch := omega) only [wrap_i64, wrap_u8, wrap_u16, wrap_u64]
      have hnt : ((n : Int) - 1).toNat = n - 1 := by omega
      obtain ⟨x, hx⟩ : ∃ x, d[n - 1]? = some x := ⟨_, List.getElem?_eq_getElem (by omega)⟩
      have hget : (pure2 (d.map byteD))[n - 1]? = some [M.d (.v (.int .u8 x.toNat))] := by
        rw [pure2_get, List.getElem?_map, hx]; rfl
      rw [hnt]
      refine grd_intro (by omega) ?_
      have hlt : p.qty.toNat % 8 < 8 := by omega
      rw [htm]
      generalize hj : p.qty.toNat % 8 = j at hlt h8 htm
      have hp128 : 2 ^ j ≤ 128 := by
        have := Nat.pow_le_pow_right (show 0 < 2 by omega) (show j ≤ 7 by omega)
        omega
      have hp1 : 1 ≤ 2 ^ j := Nat.one_le_two_pow
      have hshl : ∀ {t : TypeId} {xo yo : Operand} {B : Bx} {K : K2}, aBin Try.prog .shl t xo yo (.d (.v (.int .u8 1))) (.d (.v (.int .u64 ((j : Nat) : Int)))) B K = kk K (.d (.v (.int .u8 ((2 ^ j : Nat) : Int)))) B := by
        intro t xo yo B K
        have e : (1 : Int) * 2 ^ (((j : Nat) : Int).toNat) = ((2 ^ j : Nat) : Int) := by rw [Int.toNat_natCast]; simp
        rw [bin_shl (by omega) (by show ((j : Nat) : Int) ≤ 8; omega), e, wrap_u8 (by omega) (by omega)]
        rfl
      simp only [↓ru, rv, rl, ry, tyf, iM, bM, bsM, cond_true, cond_false, Nat.reduceLT, Nat.reduceBEq, Nat.reduceAdd, Nat.reduceEqDiff, Nat.reduceMul, Nat.reduceLeDiff, Nat.reduceSub, Nat.reduceDiv, Int.reduceLE, Int.reduceLT, Int.reduceNeg, Int.reduceAdd, Int.reduceSub, Int.reduceMul, Int.reduceToNat, Int.reducePow, Int.reduceEq, ne_eq, reduceIte, repM, objsM, Obj.cells, iD, bsD, bD, reqM, byteD, hdl, hget, if_true, hnt, hshl]
      refine grd_intro (by omega) ?_
      have hand : bAnd .u8 (x.toNat : Int) ((u8 (((2 ^ j : Nat) : Int) - 1)).toNat : Int) = (((UInt8.ofNat (x.toNat % 2 ^ j)).toNat : Nat) : Int) := by
        rw [u8_toNat]
        have e : (((2 ^ j : Nat) : Int) - 1) % 256 = ((2 ^ j - 1 : Nat) : Int) := by omega
        rw [e]
        unfold bAnd
        have hxl := x.toNat_lt
        have h1 : (BitVec.ofInt IntKind.u8.bits (x.toNat : Int)).toNat = x.toNat := by
          simp only [IntKind.bits, BitVec.toNat_ofInt]; omega
        have h2 : (BitVec.ofInt IntKind.u8.bits ((2 ^ j - 1 : Nat) : Int)).toNat = 2 ^ j - 1 := by
          simp only [IntKind.bits, BitVec.toNat_ofInt]; omega
        have h3 : x.toNat % 2 ^ j < 2 ^ j := Nat.mod_lt _ (by omega)
        rw [BitVec.toNat_and, h1, h2, Nat.and_two_pow_sub_one_eq_mod, wrap_u8 (by omega) (by omega), UInt8.toNat_ofNat']
        omega
      rw [hand]
      simp only [set_byteR]
      have hlast : lastB (d.set (n - 1) (UInt8.ofNat (x.toNat % 2 ^ j))) / 2 ^ j = 0 := by
        have h3 : x.toNat % 2 ^ j < 2 ^ j := Nat.mod_lt _ (by omega)
        rw [lastB, List.length_set, hdl, List.getElem?_set_self (by omega)]
        simp only [Option.getD_some, UInt8.toNat_ofNat']
        exact Int.ediv_eq_zero_of_lt (by omega) (by rw [show (2 : Int) ^ j = ((2 ^ j : Nat) : Int) by simp]; omega)
      have hel : (d.set (n - 1) (UInt8.ofNat (x.toNat % 2 ^ j))).length = n := by rw [List.length_set, hdl]
      generalize d.set (n - 1) (UInt8.ofNat (x.toNat % 2 ^ j)) = e at hlast hel ⊢
      have hyes := match_yes (d := e) p2 hpf hp (by rw [if_pos h2]; omega) (fun _ => .inr (by rw [show (p.qty % 8).toNat = j by omega]; exact hlast))
      refine acall1_pure t45 rfl rfl ?_
      simp only [↓ru, rv, rl, ry, tyf, iM, bM, bsM, cond_true, cond_false, Nat.reduceLT, Nat.reduceBEq, Nat.reduceAdd, Nat.reduceEqDiff, Nat.reduceMul, Nat.reduceLeDiff, Nat.reduceSub, Nat.reduceDiv, Int.reduceLE, Int.reduceLT, Int.reduceNeg, Int.reduceAdd, Int.reduceSub, Int.reduceMul, Int.reduceToNat, Int.reducePow, Int.reduceEq, ne_eq, reduceIte, repM, objsM, Obj.cells, iD, bsD, bD, reqM, byteD, hel, if_true]
      refine acall1_pure (t54 p ⟨p.fn, 0, e, 0, 0, false, 0, []⟩ ⟨by simp, by simp⟩ (by simp) (by simp only; omega)) rfl rfl ?_
      rw [hyes]
      simp only [↓ru, rv, rl, ry, tyf, iM, bM, bsM, cond_true, cond_false, Nat.reduceLT, Nat.reduceBEq, Nat.reduceAdd, Nat.reduceEqDiff, Nat.reduceMul, Nat.reduceLeDiff, Nat.reduceSub, Nat.reduceDiv, Int.reduceLE, Int.reduceLT, Int.reduceNeg, Int.reduceAdd, Int.reduceSub, Int.reduceMul, Int.reduceToNat, Int.reducePow, Int.reduceEq, ne_eq, reduceIte, repM, objsM, Obj.cells, iD, bsD, bD, reqM, byteD]
      by_cases hnm : n = m
      · have dn : decide ((n : Int) = (m : Int)) = true := by simp; omega
        simp only [↓ru, rv, rl, ry, tyf, iM, bM, bsM, cond_true, cond_false, Nat.reduceLT, Nat.reduceBEq, Nat.reduceAdd, Nat.reduceEqDiff, Nat.reduceMul, Nat.reduceLeDiff, Nat.reduceSub, Nat.reduceDiv, Int.reduceLE, Int.reduceLT, Int.reduceNeg, Int.reduceAdd, Int.reduceSub, Int.reduceMul, Int.reduceToNat, Int.reducePow, Int.reduceEq, ne_eq, reduceIte, repM, objsM, Obj.cells, iD, bsD, bD, reqM, byteD, dn, pureEnd_of (fn := Try.f15) (rs := [.tmp 10]) (ts := [4]) rfl rfl]
      · have dn : decide ((n : Int) = (m : Int)) = false := by simp; omega
        simp only [↓ru, rv, rl, ry, tyf, iM, bM, bsM, cond_true, cond_false, Nat.reduceLT, Nat.reduceBEq, Nat.reduceAdd, Nat.reduceEqDiff, Nat.reduceMul, Nat.reduceLeDiff, Nat.reduceSub, Nat.reduceDiv, Int.reduceLE, Int.reduceLT, Int.reduceNeg, Int.reduceAdd, Int.reduceSub, Int.reduceMul, Int.reduceToNat, Int.reducePow, Int.reduceEq, ne_eq, reduceIte, repM, objsM, Obj.cells, iD, bsD, bD, reqM, byteD, dn, hel, if_true]
        refine acall1_pure (t54 q ⟨p.fn, 0, e, 0, 0, false, 0, []⟩ ⟨by simp, by simp⟩ (by simp) (by simp only; omega)) rfl rfl ?_
        rw [hno hnm e hel]
        simp only [↓ru, rv, rl, ry, tyf, iM, bM, bsM, cond_true, cond_false, Nat.reduceLT, Nat.reduceBEq, Nat.reduceAdd, Nat.reduceEqDiff, Nat.reduceMul, Nat.reduceLeDiff, Nat.reduceSub, Nat.reduceDiv, Int.reduceLE, Int.reduceLT, Int.reduceNeg, Int.reduceAdd, Int.reduceSub, Int.reduceMul, Int.reduceToNat, Int.reducePow, Int.reduceEq, ne_eq, reduceIte, repM, objsM, Obj.cells, iD, bsD, bD, reqM, byteD, pureEnd_of (fn := Try.f15) (rs := [.tmp 10]) (ts := [4]) rfl rfl]
  · have d2 : decide (p.fn ≤ 2) = false := by simpa using h2
    rw [d2]
    have hpq : p.qty ≤ 125 ∧ q.qty ≤ 125 := by
      constructor
      · rw [reqF, if_pos (by omega)] at p2
        have := of_decide_eq_true p2
        rw [limitF, if_neg (by omega), if_pos (by omega)] at this
        omega
      · rw [reqF, if_pos (by omega)] at q2
        have := of_decide_eq_true q2
        rw [limitF, if_neg (by omega), if_pos (by omega)] at this
        omega
    have hpf : 1 ≤ p.fn ∧ p.fn ≤ 4 := by omega
    have hqf : 1 ≤ q.fn ∧ q.fn ≤ 4 := by omega
    have hqe : p.fn = q.fn := by omega
    obtain ⟨n, hn⟩ : ∃ n : Nat, 2 * p.qty = n := ⟨(2 * p.qty).toNat, by omega⟩
    obtain ⟨m, hm⟩ : ∃ m : Nat, 2 * q.qty = m := ⟨(2 * q.qty).toNat, by omega⟩
    rw [hn, hm]
    have hno : n ≠ m → ∀ d : List UInt8, d.length = n → matchF q ⟨p.fn, 0, d, 0, 0, false, 0, []⟩ = false := fun hne d hd => by
      rw [hqe]
      exact match_no hqf (by rw [if_neg (by omega), hd]; omega)
    simp only [↓ru, rv, rl, ry, tyf, iM, bM, bsM, cond_true, cond_false, Nat.reduceLT, Nat.reduceBEq, Nat.reduceAdd, Nat.reduceEqDiff, Nat.reduceMul, Nat.reduceLeDiff, Nat.reduceSub, Nat.reduceDiv, Int.reduceLE, Int.reduceLT, Int.reduceNeg, Int.reduceAdd, Int.reduceSub, Int.reduceMul, Int.reduceToNat, Int.reducePow, Int.reduceEq, ne_eq, reduceIte, repM, objsM, Obj.cells, iD, bsD, bD, reqM, byteD]
    refine grd_intro (by omega) ?_
    simp only [↓ru, rv, rl, ry, tyf, iM, bM, bsM, cond_true, cond_false, Nat.reduceLT, Nat.reduceBEq, Nat.reduceAdd, Nat.reduceEqDiff, Nat.reduceMul, Nat.reduceLeDiff, Nat.reduceSub, Nat.reduceDiv, Int.reduceLE, Int.reduceLT, Int.reduceNeg, Int.reduceAdd, Int.reduceSub, Int.reduceMul, Int.reduceToNat, Int.reducePow, Int.reduceEq, ne_eq, reduceIte, repM, objsM, Obj.cells, iD, bsD, bD, reqM, byteD, d2]
    rw [dat_eq]
    have hdl := dat_len v n
    generalize dat v n = d at hdl ⊢
    have hyes := match_yes (d := d) p2 hpf hp (by rw [if_neg h2]; omega) (fun h => absurd h h2)
    refine acall1_pure t45 rfl rfl ?_
    simp only [↓ru, rv, rl, ry, tyf, iM, bM, bsM, cond_true, cond_false, Nat.reduceLT, Nat.reduceBEq, Nat.reduceAdd, Nat.reduceEqDiff, Nat.reduceMul, Nat.reduceLeDiff, Nat.reduceSub, Nat.reduceDiv, Int.reduceLE, Int.reduceLT, Int.reduceNeg, Int.reduceAdd, Int.reduceSub, Int.reduceMul, Int.reduceToNat, Int.reducePow, Int.reduceEq, ne_eq, reduceIte, repM, objsM, Obj.cells, iD, bsD, bD, reqM, byteD, hdl, if_true]
    refine acall1_pure (t54 p ⟨p.fn, 0, d, 0, 0, false, 0, []⟩ ⟨by simp, by simp⟩ (by simp) (by simp only; omega)) rfl rfl ?_
    rw [hyes]
    simp only [↓ru, rv, rl, ry, tyf, iM, bM, bsM, cond_true, cond_false, Nat.reduceLT, Nat.reduceBEq, Nat.reduceAdd, Nat.reduceEqDiff, Nat.reduceMul, Nat.reduceLeDiff, Nat.reduceSub, Nat.reduceDiv, Int.reduceLE, Int.reduceLT, Int.reduceNeg, Int.reduceAdd, Int.reduceSub, Int.reduceMul, Int.reduceToNat, Int.reducePow, Int.reduceEq, ne_eq, reduceIte, repM, objsM, Obj.cells, iD, bsD, bD, reqM, byteD]
    by_cases hnm : n = m
    · have dn : decide ((n : Int) = (m : Int)) = true := by simp; omega
      simp only [↓ru, rv, rl, ry, tyf, iM, bM, bsM, cond_true, cond_false, Nat.reduceLT, Nat.reduceBEq, Nat.reduceAdd, Nat.reduceEqDiff, Nat.reduceMul, Nat.reduceLeDiff, Nat.reduceSub, Nat.reduceDiv, Int.reduceLE, Int.reduceLT, Int.reduceNeg, Int.reduceAdd, Int.reduceSub, Int.reduceMul, Int.reduceToNat, Int.reducePow, Int.reduceEq, ne_eq, reduceIte, repM, objsM, Obj.cells, iD, bsD, bD, reqM, byteD, dn, pureEnd_of (fn := Try.f15) (rs := [.tmp 10]) (ts := [4]) rfl rfl]
    · have dn : decide ((n : Int) = (m : Int)) = false := by simp; omega
      simp only [↓ru, rv, rl, ry, tyf, iM, bM, bsM, cond_true, cond_false, Nat.reduceLT, Nat.reduceBEq, Nat.reduceAdd, Nat.reduceEqDiff, Nat.reduceMul, Nat.reduceLeDiff, Nat.reduceSub, Nat.reduceDiv, Int.reduceLE, Int.reduceLT, Int.reduceNeg, Int.reduceAdd, Int.reduceSub, Int.reduceMul, Int.reduceToNat, Int.reducePow, Int.reduceEq, ne_eq, reduceIte, repM, objsM, Obj.cells, iD, bsD, bD, reqM, byteD, dn, hdl, if_true]
      refine acall1_pure (t54 q ⟨p.fn, 0, d, 0, 0, false, 0, []⟩ ⟨by simp, by simp⟩ (by simp) (by simp only; omega)) rfl rfl ?_
      rw [hno hnm d hdl]
      simp only [↓ru, rv, rl, ry, tyf, iM, bM, bsM, cond_true, cond_false, Nat.reduceLT, Nat.reduceBEq, Nat.reduceAdd, Nat.reduceEqDiff, Nat.reduceMul, Nat.reduceLeDiff, Nat.reduceSub, Nat.reduceDiv, Int.reduceLE, Int.reduceLT, Int.reduceNeg, Int.reduceAdd, Int.reduceSub, Int.reduceMul, Int.reduceToNat, Int.reducePow, Int.reduceEq, ne_eq, reduceIte, repM, objsM, Obj.cells, iD, bsD, bD, reqM, byteD, pureEnd_of (fn := Try.f15) (rs := [.tmp 10]) (ts := [4]) rfl rfl]
end Go.R2

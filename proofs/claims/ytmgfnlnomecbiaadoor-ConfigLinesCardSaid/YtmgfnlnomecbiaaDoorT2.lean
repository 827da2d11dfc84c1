import Derived.Test.YtmgfnlnomecbiaaDoorT1
set_option linter.all false
open Go.Proofs Go.Abs Go.Fa Go.BU Go.TX
/- The functions of the package text, and those of the document: numbers read. -/
namespace Go.TW
set_option maxHeartbeats 4000000
set_option maxRecDepth 10000

abbrev hexDs : List UInt8 := [48, 49, 50, 51, 52, 53, 54, 55, 56, 57, 65, 66, 67, 68, 69, 70]
theorem idxHex0 : ∀ x : Fin 256, idxM (UInt8.ofNat x.val) hexDs = hexV (UInt8.ofNat x.val) := by decide +kernel
theorem idxHex (x : UInt8) : idxM x [48, 49, 50, 51, 52, 53, 54, 55, 56, 57, 65, 66, 67, 68, 69, 70] = hexV x := by
  have := idxHex0 ⟨x.toNat, x.toNat_lt⟩
  simpa using this
theorem hexV_range (x : UInt8) : -1 ≤ hexV x ∧ hexV x ≤ 15 := by unfold hexV; repeat' split <;> omega
theorem drop_getD {s : List UInt8} {i : Nat} (h : i < s.length) : s.drop i = s.getD i 0 :: s.drop (i + 1) := by
  rw [List.drop_eq_getElem_cons h]; simp [List.getD, h]
theorem bOr16 {n d : Int} (hn : 0 ≤ n) (hn2 : n ≤ 4294967296) (hd : 0 ≤ d ∧ d ≤ 15) : bOr .i64 (IntKind.i64.wrap (n * 16)) d = 16 * n + d := by
  rw [wrap_i64 (by omega) (by omega)]
  unfold bOr
  have h1 : (BitVec.ofInt IntKind.i64.bits (n * 16)).toNat = 2 ^ 4 * n.toNat := by simp only [IntKind.bits, BitVec.toNat_ofInt]; omega
  have h3 : (BitVec.ofInt IntKind.i64.bits d).toNat = d.toNat := by simp only [IntKind.bits, BitVec.toNat_ofInt]; omega
  rw [BitVec.toNat_or, h1, h3, ← Nat.two_pow_add_eq_or_of_lt (by omega), wrap_i64 (by omega) (by omega)]; omega
theorem pow16 {i : Nat} (h : i ≤ 8) : (16 : Int) ^ i ≤ 4294967296 ∧ 1 ≤ (16 : Int) ^ i := by
  have e : ((16 ^ i : Nat) : Int) = (16 : Int) ^ i := by simp
  have h1 : 16 ^ i ≤ 16 ^ 8 := Nat.pow_le_pow_right (by omega) h
  have h2 : 1 ≤ 16 ^ i := Nat.one_le_pow _ _ (by omega)
  omega

theorem ParseHex (s : List UInt8) (hs : s.length ≤ 9223372036854775807) : PFn Tryd.prog 101 [strM s] (.tup [iM (phex s).1, bM (phex s).2]) := by
  (refine PFn.of (prs := []) Tryd.func101 rfl rfl mix (by kernel_rfl) rfl rfl ?_; simp only [Tryd.ntmps101, argUpd])
  (try (simp only [↓ru, rv, rl, ry, tyf, iM, bM, bsM, cond_true, cond_false, Nat.reduceLT, Nat.reduceBEq, Nat.reduceAdd, Nat.reduceEqDiff, Nat.reduceMul, Nat.reduceLeDiff, Nat.reduceSub, Nat.reduceDiv, Int.reduceLE, Int.reduceLT, Int.reduceNeg, Int.reduceAdd, Int.reduceSub, Int.reduceMul, Int.reduceToNat, Int.reducePow, Int.reduceEq, ne_eq, reduceIte, pureEnd_of (fn := Tryd.f101) (rs := [.tmp 2, .tmp 3]) (ts := [3, 4]) rfl rfl, *])); repeat' ((first | (refine fork_split (fun _h => ?_) (fun _h => ?_)) | (refine gfork_split (fun _h => ?_) (fun _h => ?_)) | (refine dfork_split (fun _h => ?_) (fun _h => ?_))) <;> (try (simp only [↓ru, rv, rl, ry, tyf, iM, bM, bsM, cond_true, cond_false, Nat.reduceLT, Nat.reduceBEq, Nat.reduceAdd, Nat.reduceEqDiff, Nat.reduceMul, Nat.reduceLeDiff, Nat.reduceSub, Nat.reduceDiv, Int.reduceLE, Int.reduceLT, Int.reduceNeg, Int.reduceAdd, Int.reduceSub, Int.reduceMul, Int.reduceToNat, Int.reducePow, Int.reduceEq, ne_eq, reduceIte, pureEnd_of (fn := Tryd.f101) (rs := [.tmp 2, .tmp 3]) (ts := [3, 4]) rfl rfl, *])))
  · simp_all [phex]
  · have : phex s = (0, false) := by rw [phex, if_pos]; simp_all; omega
    rw [this]
  have h1 : ¬ (s = [] ∨ 8 < s.length) := by simp_all; omega
  refine aloop_lv (fun p : Nat × Int => [(0, strM s), (4, iM p.2), (15, iM s.length), (16, iM p.1)]) (fun _ => []) (fun p => p.1 ≤ s.length ∧ hexVal (s.drop p.1) p.2 = hexVal s 0 ∧ 0 ≤ p.2 ∧ p.2 ≤ 16 ^ p.1 - 1) (fun p => s.length - p.1) 0 (0, 0) ?_ rfl ⟨by simp, by simp, by simp, by simp⟩ (by omega) ?_
  · simp only [↓ru, rv, rl, ry, tyf, iM, bM, bsM, cond_true, cond_false, Nat.reduceLT, Nat.reduceBEq, Nat.reduceAdd, Nat.reduceEqDiff, Nat.reduceMul, Nat.reduceLeDiff, Nat.reduceSub, Nat.reduceDiv, Int.reduceLE, Int.reduceLT, Int.reduceNeg, Int.reduceAdd, Int.reduceSub, Int.reduceMul, Int.reduceToNat, Int.reducePow, Int.reduceEq, ne_eq, reduceIte]
  rintro ⟨i, n⟩ e0 k ⟨hi, hv, hn, hn2⟩
  simp only at hi hv hn hn2
  simp only [↓ru, rv, rl, ry, tyf, iM, bM, bsM, cond_true, cond_false, Nat.reduceLT, Nat.reduceBEq, Nat.reduceAdd, Nat.reduceEqDiff, Nat.reduceMul, Nat.reduceLeDiff, Nat.reduceSub, Nat.reduceDiv, Int.reduceLE, Int.reduceLT, Int.reduceNeg, Int.reduceAdd, Int.reduceSub, Int.reduceMul, Int.reduceToNat, Int.reducePow, Int.reduceEq, ne_eq, reduceIte]
  refine fork_split (fun h => ?_) (fun h => ?_)
  · have h' := of_decide_eq_true h
    have hp := pow16 (i := i) (by omega)
    rw [drop_getD (by omega), hexVal] at hv
    generalize hx : s.getD i 0 = x at hv
    have hr := hexV_range x
    simp only [↓ru, rv, rl, ry, tyf, iM, bM, bsM, cond_true, cond_false, Nat.reduceLT, Nat.reduceBEq, Nat.reduceAdd, Nat.reduceEqDiff, Nat.reduceMul, Nat.reduceLeDiff, Nat.reduceSub, Nat.reduceDiv, Int.reduceLE, Int.reduceLT, Int.reduceNeg, Int.reduceAdd, Int.reduceSub, Int.reduceMul, Int.reduceToNat, Int.reducePow, Int.reduceEq, ne_eq, reduceIte, hx]
    refine grd_intro (by omega) ?_
    refine acall1_pure (indexByte _ x rfl) rfl rfl ?_
    rw [idxHex]
    simp only [↓ru, rv, rl, ry, tyf, iM, bM, bsM, cond_true, cond_false, Nat.reduceLT, Nat.reduceBEq, Nat.reduceAdd, Nat.reduceEqDiff, Nat.reduceMul, Nat.reduceLeDiff, Nat.reduceSub, Nat.reduceDiv, Int.reduceLE, Int.reduceLT, Int.reduceNeg, Int.reduceAdd, Int.reduceSub, Int.reduceMul, Int.reduceToNat, Int.reducePow, Int.reduceEq, ne_eq, reduceIte]
    refine fork_split (fun h2 => ?_) (fun h2 => ?_)
    · have h2' := of_decide_eq_true h2
      simp only [↓ru, rv, rl, ry, tyf, iM, bM, bsM, cond_true, cond_false, Nat.reduceLT, Nat.reduceBEq, Nat.reduceAdd, Nat.reduceEqDiff, Nat.reduceMul, Nat.reduceLeDiff, Nat.reduceSub, Nat.reduceDiv, Int.reduceLE, Int.reduceLT, Int.reduceNeg, Int.reduceAdd, Int.reduceSub, Int.reduceMul, Int.reduceToNat, Int.reducePow, Int.reduceEq, ne_eq, reduceIte, pureEnd_of (fn := Tryd.f101) (rs := [.tmp 2, .tmp 3]) (ts := [3, 4]) rfl rfl]
      rw [if_pos h2'] at hv
      have : phex s = (0, false) := by rw [phex, if_neg h1, ← hv]
      rw [this]
    · have h2' := of_decide_eq_false h2
      rw [if_neg h2'] at hv
      simp only [↓ru, rv, rl, ry, tyf, iM, bM, bsM, cond_true, cond_false, Nat.reduceLT, Nat.reduceBEq, Nat.reduceAdd, Nat.reduceEqDiff, Nat.reduceMul, Nat.reduceLeDiff, Nat.reduceSub, Nat.reduceDiv, Int.reduceLE, Int.reduceLT, Int.reduceNeg, Int.reduceAdd, Int.reduceSub, Int.reduceMul, Int.reduceToNat, Int.reducePow, Int.reduceEq, ne_eq, reduceIte]
      rw [bOr16 hn (by omega) (by omega)]
      simp (disch := omega) only [wrap_i64, wrap_u8, wrap_u16, wrap_u64]
      refine loopL_next (i + 1, 16 * n + hexV x) ?_ rfl ⟨by simp only; omega, hv, by simp only; omega, by simp only; rw [Int.pow_succ]; omega⟩ (by omega) (by simp only; omega)
      simp only [↓ru, rv, rl, ry, tyf, iM, bM, bsM, cond_true, cond_false, Nat.reduceLT, Nat.reduceBEq, Nat.reduceAdd, Nat.reduceEqDiff, Nat.reduceMul, Nat.reduceLeDiff, Nat.reduceSub, Nat.reduceDiv, Int.reduceLE, Int.reduceLT, Int.reduceNeg, Int.reduceAdd, Int.reduceSub, Int.reduceMul, Int.reduceToNat, Int.reducePow, Int.reduceEq, ne_eq, reduceIte]
      simp
  · have h' := of_decide_eq_false h
    have : i = s.length := by omega
    subst this
    rw [List.drop_length, hexVal] at hv
    simp only [↓ru, rv, rl, ry, tyf, iM, bM, bsM, cond_true, cond_false, Nat.reduceLT, Nat.reduceBEq, Nat.reduceAdd, Nat.reduceEqDiff, Nat.reduceMul, Nat.reduceLeDiff, Nat.reduceSub, Nat.reduceDiv, Int.reduceLE, Int.reduceLT, Int.reduceNeg, Int.reduceAdd, Int.reduceSub, Int.reduceMul, Int.reduceToNat, Int.reducePow, Int.reduceEq, ne_eq, reduceIte, pureEnd_of (fn := Tryd.f101) (rs := [.tmp 2, .tmp 3]) (ts := [3, 4]) rfl rfl]
    have : phex s = (n, true) := by rw [phex, if_neg h1, ← hv]
    rw [this]
end Go.TW

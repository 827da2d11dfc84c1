import Derived.Test.YtmgfnlnomecbiaaDoorKK
set_option linter.all false
open Go.Proofs Go.Abs Go.Fa Go.BU Go.TX Go.TW
/- What Parse accepts is what Format writes. -/
namespace Go.CF
set_option maxHeartbeats 4000000
set_option maxRecDepth 10000
-- rules: byteD, dstr, un1_str, iD, bD

theorem ModC (n m : Int) (hn : -9223372036854775808 ≤ n ∧ n ≤ 9223372036854775807) (hm : 0 < m ∧ m ≤ 1000000000) : PFn Tryd.prog 21 [iM n, iM m] (iM (n % m)) := by
  have hne : m ≠ 0 := by omega
  have h1 := Int.tmod_lt_of_pos n hm.1
  have h2 : -m < n.tmod m := Int.lt_tmod_of_pos n hm.1
  have e : (n.tmod m + m).tmod m = n % m := by
    rw [Int.tmod_eq_emod_of_nonneg (by omega), Int.add_emod_right]
    have h3 := Int.mul_tdiv_add_tmod n m
    conv => rhs; rw [← h3]
    rw [Int.mul_add_emod_self_left]
  (refine PFn.of (prs := []) Tryd.func21 rfl rfl mix (by kernel_rfl) rfl rfl ?_; simp only [Tryd.ntmps21, argUpd])
  (try (simp only [↓ru, rv, rl, ry, tyf, iM, bM, bsM, cond_true, cond_false, Nat.reduceLT, Nat.reduceBEq, Nat.reduceAdd, Nat.reduceEqDiff, Nat.reduceMul, Nat.reduceLeDiff, Nat.reduceSub, Nat.reduceDiv, Int.reduceLE, Int.reduceLT, Int.reduceNeg, Int.reduceAdd, Int.reduceSub, Int.reduceMul, Int.reduceToNat, Int.reducePow, Int.reduceEq, ne_eq, reduceIte, byteD, dstr, un1_str, iD, bD, hne, pureEnd_of (fn := Tryd.f21) (rs := [.tmp 4]) (ts := [3]) rfl rfl, *])); repeat' ((first | (refine fork_split (fun _h => ?_) (fun _h => ?_)) | (refine gfork_split (fun _h => ?_) (fun _h => ?_)) | (refine dfork_split (fun _h => ?_) (fun _h => ?_))) <;> (try (simp only [↓ru, rv, rl, ry, tyf, iM, bM, bsM, cond_true, cond_false, Nat.reduceLT, Nat.reduceBEq, Nat.reduceAdd, Nat.reduceEqDiff, Nat.reduceMul, Nat.reduceLeDiff, Nat.reduceSub, Nat.reduceDiv, Int.reduceLE, Int.reduceLT, Int.reduceNeg, Int.reduceAdd, Int.reduceSub, Int.reduceMul, Int.reduceToNat, Int.reducePow, Int.reduceEq, ne_eq, reduceIte, byteD, dstr, un1_str, iD, bD, hne, pureEnd_of (fn := Tryd.f21) (rs := [.tmp 4]) (ts := [3]) rfl rfl, *])))
  refine congrArg (fun z => M.d (D.v (Value.int .i64 z))) ?_
  rw [wrap_i64 (by omega) (by omega)]
  exact e
theorem cfg_ne (c : Cfg) : cfgTxt c ≠ [] := by
  intro h
  have := congrArg List.length h
  simp [cfgTxt, numT, unitsW] at this
end Go.CF

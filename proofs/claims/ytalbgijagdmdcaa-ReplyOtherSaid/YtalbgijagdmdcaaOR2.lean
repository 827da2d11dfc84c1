import Derived.Test.YtalbgijagdmdcaaOR1
import Derived.Test.YtalbgijagdmdcaaOAbs4
set_option linter.all false
open Go.Proofs Go.Abs Go.FaR2
namespace Go.R2
-- rules: repM, objsM, Obj.cells, iD, bsD, bD, reqM
set_option maxHeartbeats 4000000
set_option maxRecDepth 10000

structure Req where
  fn : Int
  addr : Int
  qty : Int
  code : Int
  obj : Int
abbrev reqM (q : Req) : M := .agg [iM q.fn, iM q.addr, iM q.qty, iM q.code, iM q.obj]
def reqF (q : Req) : Bool :=
  if 1 ≤ q.fn ∧ q.fn ≤ 4 then decide (0 ≤ q.addr ∧ 1 ≤ q.qty ∧ q.qty ≤ limitF q.fn ∧ q.addr ≤ 65536 - q.qty ∧ q.code = 0 ∧ q.obj = 0)
  else if q.fn = 17 then decide (q.addr = 0 ∧ q.qty = 0 ∧ q.code = 0 ∧ q.obj = 0)
  else if q.fn = 43 then decide (q.addr = 0 ∧ q.qty = 0 ∧ 1 ≤ q.code ∧ q.code ≤ 3 ∧ 0 ≤ q.obj ∧ q.obj ≤ 255)
  else false
theorem limitF_le (f : Int) : limitF f ≤ 2000 := by
  unfold limitF; split
  · omega
  · split <;> omega

section
variable {xo yo : Operand} {B : Bx} {K : K2}
theorem eq85 {a0 a1 a2 a3 a4 b0 b1 b2 b3 b4 : Int} : aBin Try.prog .eql 85 xo yo (.agg [iM a0, iM a1, iM a2, iM a3, iM a4]) (.agg [iM b0, iM b1, iM b2, iM b3, iM b4]) B K = kk K (bM (decide (a0 = b0) && (decide (a1 = b1) && (decide (a2 = b2) && (decide (a3 = b3) && (decide (a4 = b4) && true)))))) B :=
  bin_struct_eql Try.underlying85 (by kernel_rfl) (by kernel_rfl) rfl rfl (by simp [eqInts, Try.underlying3])
end

theorem t79 (f : Int) : PFn Try.prog 79 [iM f] (iM (limitF f)) := by
  refine PFn.of (prs := []) Try.func79 rfl rfl mix (by kernel_rfl) rfl rfl ?_
  simp only [Try.ntmps79, argUpd]
  simp only [↓ru, rv, rl, ry, tyf, iM, bM, bsM, cond_true, cond_false, Nat.reduceLT, Nat.reduceBEq, Nat.reduceAdd, Nat.reduceEqDiff, Nat.reduceMul, Nat.reduceLeDiff, Nat.reduceSub, Nat.reduceDiv, Int.reduceLE, Int.reduceLT, Int.reduceNeg, Int.reduceAdd, Int.reduceSub, Int.reduceMul, Int.reduceToNat, Int.reducePow, Int.reduceEq, ne_eq, reduceIte, repM, objsM, Obj.cells, iD, bsD, bD, reqM, pureEnd_of (fn := Try.f79) (rs := [.tmp 2]) (ts := [3]) rfl rfl]
  repeat' ((first | (refine fork_split (fun _h => ?_) (fun _h => ?_)) | (refine gfork_split (fun _h => ?_) (fun _h => ?_)) | (refine dfork_split (fun _h => ?_) (fun _h => ?_))) <;> (try (simp only [↓ru, rv, rl, ry, tyf, iM, bM, bsM, cond_true, cond_false, Nat.reduceLT, Nat.reduceBEq, Nat.reduceAdd, Nat.reduceEqDiff, Nat.reduceMul, Nat.reduceLeDiff, Nat.reduceSub, Nat.reduceDiv, Int.reduceLE, Int.reduceLT, Int.reduceNeg, Int.reduceAdd, Int.reduceSub, Int.reduceMul, Int.reduceToNat, Int.reducePow, Int.reduceEq, ne_eq, reduceIte, repM, objsM, Obj.cells, iD, bsD, bD, reqM, pureEnd_of (fn := Try.f79) (rs := [.tmp 2]) (ts := [3]) rfl rfl, *])))
  all_goals simp_all [limitF]

theorem t94 (q : Req) : PFn Try.prog 94 [reqM q] (bM (reqF q)) := by
  refine PFn.of (prs := [(2, [(9, 13), (10, 13)])]) Try.func94 rfl rfl mix (by kernel_rfl) rfl rfl ?_
  simp only [Try.ntmps94, argUpd]
  have hlim := limitF_le q.fn
  have leaf : ∀ b, reqF q = b → M.d (D.v (Value.bool b)) = M.d (D.v (Value.bool (reqF q))) := fun b hb => by rw [hb]
  simp only [↓ru, rv, rl, ry, tyf, iM, bM, bsM, cond_true, cond_false, Nat.reduceLT, Nat.reduceBEq, Nat.reduceAdd, Nat.reduceEqDiff, Nat.reduceMul, Nat.reduceLeDiff, Nat.reduceSub, Nat.reduceDiv, Int.reduceLE, Int.reduceLT, Int.reduceNeg, Int.reduceAdd, Int.reduceSub, Int.reduceMul, Int.reduceToNat, Int.reducePow, Int.reduceEq, ne_eq, reduceIte, repM, objsM, Obj.cells, iD, bsD, bD, reqM, pureEnd_of (fn := Try.f94) (rs := [.tmp 2]) (ts := [4]) rfl rfl, eq85]
  repeat' ((first | (refine fork_split (fun _h => ?_) (fun _h => ?_)) | (refine gfork_split (fun _h => ?_) (fun _h => ?_)) | (refine dfork_split (fun _h => ?_) (fun _h => ?_)) | (refine acall1_pure (t116 _) rfl rfl ?_) | (refine dcall1_pure (t116 _) rfl rfl ?_) | (refine acall1_pure (t117 _) rfl rfl ?_) | (refine dcall1_pure (t117 _) rfl rfl ?_)) <;> (try (simp only [↓ru, rv, rl, ry, tyf, iM, bM, bsM, cond_true, cond_false, Nat.reduceLT, Nat.reduceBEq, Nat.reduceAdd, Nat.reduceEqDiff, Nat.reduceMul, Nat.reduceLeDiff, Nat.reduceSub, Nat.reduceDiv, Int.reduceLE, Int.reduceLT, Int.reduceNeg, Int.reduceAdd, Int.reduceSub, Int.reduceMul, Int.reduceToNat, Int.reducePow, Int.reduceEq, ne_eq, reduceIte, repM, objsM, Obj.cells, iD, bsD, bD, reqM, pureEnd_of (fn := Try.f94) (rs := [.tmp 2]) (ts := [4]) rfl rfl, eq85, *])))
  all_goals (try simp only [Bool.not_eq_true', Bool.not_eq_false', decide_eq_true_eq, decide_eq_false_iff_not] at *)
  all_goals (try simp only [tabF, decide_eq_true_eq, decide_eq_false_iff_not] at *)
  all_goals (try simp (disch := omega) only [wrap_i64, wrap_u8, wrap_u16, wrap_u64] at *)
  all_goals refine leaf _ ?_
  all_goals unfold reqF
  all_goals ((repeat' split) <;> (first | (simp_all; done) | (rw [Bool.eq_iff_iff]; simp only [Bool.and_eq_true, Bool.or_eq_true, Bool.not_eq_true', decide_eq_true_eq, decide_eq_false_iff_not, Bool.false_eq_true, iff_false, iff_true, false_iff, true_iff, not_and, not_or]; omega)))

theorem t67 (q : Req) : PFn Try.prog 67 [reqM q] (bM (reqF q)) := by
  refine PFn.of (prs := [(6, [(9, 13), (10, 13)])]) Try.func67 rfl rfl mix (by kernel_rfl) rfl rfl ?_
  simp only [Try.ntmps67, argUpd]
  have hlim := limitF_le q.fn
  have leaf : ∀ b, reqF q = b → M.d (D.v (Value.bool b)) = M.d (D.v (Value.bool (reqF q))) := fun b hb => by rw [hb]
  simp only [↓ru, rv, rl, ry, tyf, iM, bM, bsM, cond_true, cond_false, Nat.reduceLT, Nat.reduceBEq, Nat.reduceAdd, Nat.reduceEqDiff, Nat.reduceMul, Nat.reduceLeDiff, Nat.reduceSub, Nat.reduceDiv, Int.reduceLE, Int.reduceLT, Int.reduceNeg, Int.reduceAdd, Int.reduceSub, Int.reduceMul, Int.reduceToNat, Int.reducePow, Int.reduceEq, ne_eq, reduceIte, repM, objsM, Obj.cells, iD, bsD, bD, reqM, pureEnd_of (fn := Try.f67) (rs := [.tmp 2]) (ts := [4]) rfl rfl, eq85]
  repeat' ((first | (refine fork_split (fun _h => ?_) (fun _h => ?_)) | (refine gfork_split (fun _h => ?_) (fun _h => ?_)) | (refine dfork_split (fun _h => ?_) (fun _h => ?_)) | (refine acall1_pure (t79 _) rfl rfl ?_) | (refine dcall1_pure (t79 _) rfl rfl ?_)) <;> (try (simp only [↓ru, rv, rl, ry, tyf, iM, bM, bsM, cond_true, cond_false, Nat.reduceLT, Nat.reduceBEq, Nat.reduceAdd, Nat.reduceEqDiff, Nat.reduceMul, Nat.reduceLeDiff, Nat.reduceSub, Nat.reduceDiv, Int.reduceLE, Int.reduceLT, Int.reduceNeg, Int.reduceAdd, Int.reduceSub, Int.reduceMul, Int.reduceToNat, Int.reducePow, Int.reduceEq, ne_eq, reduceIte, repM, objsM, Obj.cells, iD, bsD, bD, reqM, pureEnd_of (fn := Try.f67) (rs := [.tmp 2]) (ts := [4]) rfl rfl, eq85, *])))
  all_goals (try simp only [Bool.not_eq_true', Bool.not_eq_false', decide_eq_true_eq, decide_eq_false_iff_not] at *)
  all_goals (try simp (disch := omega) only [wrap_i64, wrap_u8, wrap_u16, wrap_u64] at *)
  all_goals refine leaf _ ?_
  all_goals unfold reqF
  all_goals ((repeat' split) <;> (first | (simp_all; done) | (rw [Bool.eq_iff_iff]; simp only [Bool.and_eq_true, Bool.or_eq_true, Bool.not_eq_true', decide_eq_true_eq, decide_eq_false_iff_not, Bool.false_eq_true, iff_false, iff_true, false_iff, true_iff, not_and, not_or]; omega)))
end Go.R2

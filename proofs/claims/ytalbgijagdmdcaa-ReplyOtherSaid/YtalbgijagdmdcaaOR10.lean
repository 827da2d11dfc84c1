import Derived.Test.YtalbgijagdmdcaaOR9
set_option linter.all false
open Go.Proofs Go.Abs Go.FaR2
namespace Go.R2
-- rules: repM, objsM, Obj.cells, iD, bsD, bD, reqM, byteD
set_option maxHeartbeats 4000000
set_option maxRecDepth 10000

/-- A reply whose numbers are those of the program. -/
structure Rep.Wf (r : Rep) : Prop where
  objs : r.objs.length ≤ 9223372036854775807
  data : r.data.length ≤ 9223372036854775807
  fn : -9223372036854775808 ≤ r.fn ∧ r.fn ≤ 9223372036854775807
  level : -9223372036854775808 ≤ r.level ∧ r.level ≤ 9223372036854775807
theorem Rep.Wf.ok {r : Rep} (h : r.Wf) : r.OK := ⟨h.objs, h.level⟩

theorem t9 (r : Rep) (h : r.Wf) : PFn Try.prog 9 [repM r] (bM true) := by
  refine PFn.of (prs := [(3, [(3, 4)])]) Try.func9 rfl rfl mix (by kernel_rfl) rfl rfl ?_
  simp only [Try.ntmps9, argUpd]
  simp only [↓ru, rv, rl, ry, tyf, iM, bM, bsM, cond_true, cond_false, Nat.reduceLT, Nat.reduceBEq, Nat.reduceAdd, Nat.reduceEqDiff, Nat.reduceMul, Nat.reduceLeDiff, Nat.reduceSub, Nat.reduceDiv, Int.reduceLE, Int.reduceLT, Int.reduceNeg, Int.reduceAdd, Int.reduceSub, Int.reduceMul, Int.reduceToNat, Int.reducePow, Int.reduceEq, ne_eq, reduceIte, repM, objsM, Obj.cells, iD, bsD, bD, reqM, byteD]
  refine acall1_pure (t44 r h.objs) rfl rfl ?_
  cases hs : smallRep r with
  | false =>
    simp only [↓ru, rv, rl, ry, tyf, iM, bM, bsM, cond_true, cond_false, Nat.reduceLT, Nat.reduceBEq, Nat.reduceAdd, Nat.reduceEqDiff, Nat.reduceMul, Nat.reduceLeDiff, Nat.reduceSub, Nat.reduceDiv, Int.reduceLE, Int.reduceLT, Int.reduceNeg, Int.reduceAdd, Int.reduceSub, Int.reduceMul, Int.reduceToNat, Int.reducePow, Int.reduceEq, ne_eq, reduceIte, repM, objsM, Obj.cells, iD, bsD, bD, reqM, byteD]
    refine acall1_pure t45 rfl rfl ?_
    simp only [↓ru, rv, rl, ry, tyf, iM, bM, bsM, cond_true, cond_false, Nat.reduceLT, Nat.reduceBEq, Nat.reduceAdd, Nat.reduceEqDiff, Nat.reduceMul, Nat.reduceLeDiff, Nat.reduceSub, Nat.reduceDiv, Int.reduceLE, Int.reduceLT, Int.reduceNeg, Int.reduceAdd, Int.reduceSub, Int.reduceMul, Int.reduceToNat, Int.reducePow, Int.reduceEq, ne_eq, reduceIte, repM, objsM, Obj.cells, iD, bsD, bD, reqM, byteD, pureEnd_of (fn := Try.f9) (rs := [.tmp 2]) (ts := [4]) rfl rfl]
  | true =>
    simp only [↓ru, rv, rl, ry, tyf, iM, bM, bsM, cond_true, cond_false, Nat.reduceLT, Nat.reduceBEq, Nat.reduceAdd, Nat.reduceEqDiff, Nat.reduceMul, Nat.reduceLeDiff, Nat.reduceSub, Nat.reduceDiv, Int.reduceLE, Int.reduceLT, Int.reduceNeg, Int.reduceAdd, Int.reduceSub, Int.reduceMul, Int.reduceToNat, Int.reducePow, Int.reduceEq, ne_eq, reduceIte, repM, objsM, Obj.cells, iD, bsD, bD, reqM, byteD]
    refine dcall1_pure t45 rfl rfl ?_
    simp only [↓ru, rv, rl, ry, tyf, iM, bM, bsM, cond_true, cond_false, Nat.reduceLT, Nat.reduceBEq, Nat.reduceAdd, Nat.reduceEqDiff, Nat.reduceMul, Nat.reduceLeDiff, Nat.reduceSub, Nat.reduceDiv, Int.reduceLE, Int.reduceLT, Int.reduceNeg, Int.reduceAdd, Int.reduceSub, Int.reduceMul, Int.reduceToNat, Int.reducePow, Int.reduceEq, ne_eq, reduceIte, repM, objsM, Obj.cells, iD, bsD, bD, reqM, byteD]
    refine dcall1_pure (t46 r h.ok) rfl rfl ?_
    simp only [↓ru, rv, rl, ry, tyf, iM, bM, bsM, cond_true, cond_false, Nat.reduceLT, Nat.reduceBEq, Nat.reduceAdd, Nat.reduceEqDiff, Nat.reduceMul, Nat.reduceLeDiff, Nat.reduceSub, Nat.reduceDiv, Int.reduceLE, Int.reduceLT, Int.reduceNeg, Int.reduceAdd, Int.reduceSub, Int.reduceMul, Int.reduceToNat, Int.reducePow, Int.reduceEq, ne_eq, reduceIte, repM, objsM, Obj.cells, iD, bsD, bD, reqM, byteD]
    refine dcall1_pure (t47 r h.ok) rfl rfl ?_
    simp only [↓ru, rv, rl, ry, tyf, iM, bM, bsM, cond_true, cond_false, Nat.reduceLT, Nat.reduceBEq, Nat.reduceAdd, Nat.reduceEqDiff, Nat.reduceMul, Nat.reduceLeDiff, Nat.reduceSub, Nat.reduceDiv, Int.reduceLE, Int.reduceLT, Int.reduceNeg, Int.reduceAdd, Int.reduceSub, Int.reduceMul, Int.reduceToNat, Int.reducePow, Int.reduceEq, ne_eq, reduceIte, repM, objsM, Obj.cells, iD, bsD, bD, reqM, byteD, pureEnd_of (fn := Try.f9) (rs := [.tmp 2]) (ts := [4]) rfl rfl, bin_bool_eql Try.underlying4, BEq.rfl]
theorem small_objs {r : Rep} (h : smallRep r = true) : r.objs.length ≤ 40 ∧ r.data.length ≤ 300 := by
  simp only [smallRep, smallObjs, Bool.and_eq_true, decide_eq_true_eq] at h
  exact ⟨h.2.2, h.1⟩
theorem t12 (q : Req) (r : Rep) (raw : Bool) (kind a b : Int) (h : r.Wf) : PFn Try.prog 12 [reqM q, repM r, bM raw, iM kind, iM a, iM b] (bM true) := by
  refine PFn.of (prs := [(5, [(4, 5), (4, 6)])]) Try.func12 rfl rfl mix (by kernel_rfl) rfl rfl ?_
  simp only [Try.ntmps12, argUpd]
  simp only [↓ru, rv, rl, ry, tyf, iM, bM, bsM, cond_true, cond_false, Nat.reduceLT, Nat.reduceBEq, Nat.reduceAdd, Nat.reduceEqDiff, Nat.reduceMul, Nat.reduceLeDiff, Nat.reduceSub, Nat.reduceDiv, Int.reduceLE, Int.reduceLT, Int.reduceNeg, Int.reduceAdd, Int.reduceSub, Int.reduceMul, Int.reduceToNat, Int.reducePow, Int.reduceEq, ne_eq, reduceIte, repM, objsM, Obj.cells, iD, bsD, bD, reqM, byteD]
  refine acall1_pure (t44 r h.objs) rfl rfl ?_
  cases hs : smallRep r with
  | false =>
    simp only [↓ru, rv, rl, ry, tyf, iM, bM, bsM, cond_true, cond_false, Nat.reduceLT, Nat.reduceBEq, Nat.reduceAdd, Nat.reduceEqDiff, Nat.reduceMul, Nat.reduceLeDiff, Nat.reduceSub, Nat.reduceDiv, Int.reduceLE, Int.reduceLT, Int.reduceNeg, Int.reduceAdd, Int.reduceSub, Int.reduceMul, Int.reduceToNat, Int.reducePow, Int.reduceEq, ne_eq, reduceIte, repM, objsM, Obj.cells, iD, bsD, bD, reqM, byteD]
    refine acall1_pure t45 rfl rfl ?_
    simp only [↓ru, rv, rl, ry, tyf, iM, bM, bsM, cond_true, cond_false, Nat.reduceLT, Nat.reduceBEq, Nat.reduceAdd, Nat.reduceEqDiff, Nat.reduceMul, Nat.reduceLeDiff, Nat.reduceSub, Nat.reduceDiv, Int.reduceLE, Int.reduceLT, Int.reduceNeg, Int.reduceAdd, Int.reduceSub, Int.reduceMul, Int.reduceToNat, Int.reducePow, Int.reduceEq, ne_eq, reduceIte, repM, objsM, Obj.cells, iD, bsD, bD, reqM, byteD, pureEnd_of (fn := Try.f12) (rs := [.tmp 12]) (ts := [4]) rfl rfl]
  | true =>
    obtain ⟨ho, hd⟩ := small_objs hs
    cases raw with
    | true =>
      simp only [↓ru, rv, rl, ry, tyf, iM, bM, bsM, cond_true, cond_false, Nat.reduceLT, Nat.reduceBEq, Nat.reduceAdd, Nat.reduceEqDiff, Nat.reduceMul, Nat.reduceLeDiff, Nat.reduceSub, Nat.reduceDiv, Int.reduceLE, Int.reduceLT, Int.reduceNeg, Int.reduceAdd, Int.reduceSub, Int.reduceMul, Int.reduceToNat, Int.reducePow, Int.reduceEq, ne_eq, reduceIte, repM, objsM, Obj.cells, iD, bsD, bD, reqM, byteD]
      refine dcall1_pure t45 rfl rfl ?_
      simp only [↓ru, rv, rl, ry, tyf, iM, bM, bsM, cond_true, cond_false, Nat.reduceLT, Nat.reduceBEq, Nat.reduceAdd, Nat.reduceEqDiff, Nat.reduceMul, Nat.reduceLeDiff, Nat.reduceSub, Nat.reduceDiv, Int.reduceLE, Int.reduceLT, Int.reduceNeg, Int.reduceAdd, Int.reduceSub, Int.reduceMul, Int.reduceToNat, Int.reducePow, Int.reduceEq, ne_eq, reduceIte, repM, objsM, Obj.cells, iD, bsD, bD, reqM, byteD]
      refine dcall1_pure (t54 q r h.ok (by omega) (by omega)) rfl rfl ?_
      simp only [↓ru, rv, rl, ry, tyf, iM, bM, bsM, cond_true, cond_false, Nat.reduceLT, Nat.reduceBEq, Nat.reduceAdd, Nat.reduceEqDiff, Nat.reduceMul, Nat.reduceLeDiff, Nat.reduceSub, Nat.reduceDiv, Int.reduceLE, Int.reduceLT, Int.reduceNeg, Int.reduceAdd, Int.reduceSub, Int.reduceMul, Int.reduceToNat, Int.reducePow, Int.reduceEq, ne_eq, reduceIte, repM, objsM, Obj.cells, iD, bsD, bD, reqM, byteD]
      refine dcall1_pure (t55 q r h.ok (by omega) (by omega)) rfl rfl ?_
      simp only [↓ru, rv, rl, ry, tyf, iM, bM, bsM, cond_true, cond_false, Nat.reduceLT, Nat.reduceBEq, Nat.reduceAdd, Nat.reduceEqDiff, Nat.reduceMul, Nat.reduceLeDiff, Nat.reduceSub, Nat.reduceDiv, Int.reduceLE, Int.reduceLT, Int.reduceNeg, Int.reduceAdd, Int.reduceSub, Int.reduceMul, Int.reduceToNat, Int.reducePow, Int.reduceEq, ne_eq, reduceIte, repM, objsM, Obj.cells, iD, bsD, bD, reqM, byteD, pureEnd_of (fn := Try.f12) (rs := [.tmp 12]) (ts := [4]) rfl rfl, bin_bool_eql Try.underlying4, BEq.rfl]
    | false =>
      simp only [↓ru, rv, rl, ry, tyf, iM, bM, bsM, cond_true, cond_false, Nat.reduceLT, Nat.reduceBEq, Nat.reduceAdd, Nat.reduceEqDiff, Nat.reduceMul, Nat.reduceLeDiff, Nat.reduceSub, Nat.reduceDiv, Int.reduceLE, Int.reduceLT, Int.reduceNeg, Int.reduceAdd, Int.reduceSub, Int.reduceMul, Int.reduceToNat, Int.reducePow, Int.reduceEq, ne_eq, reduceIte, repM, objsM, Obj.cells, iD, bsD, bD, reqM, byteD]
      refine acall1_pure (t53 kind a b) rfl rfl ?_
      simp only [↓ru, rv, rl, ry, tyf, iM, bM, bsM, cond_true, cond_false, Nat.reduceLT, Nat.reduceBEq, Nat.reduceAdd, Nat.reduceEqDiff, Nat.reduceMul, Nat.reduceLeDiff, Nat.reduceSub, Nat.reduceDiv, Int.reduceLE, Int.reduceLT, Int.reduceNeg, Int.reduceAdd, Int.reduceSub, Int.reduceMul, Int.reduceToNat, Int.reducePow, Int.reduceEq, ne_eq, reduceIte, repM, objsM, Obj.cells, iD, bsD, bD, reqM, byteD]
      refine dcall1_pure t45 rfl rfl ?_
      simp only [↓ru, rv, rl, ry, tyf, iM, bM, bsM, cond_true, cond_false, Nat.reduceLT, Nat.reduceBEq, Nat.reduceAdd, Nat.reduceEqDiff, Nat.reduceMul, Nat.reduceLeDiff, Nat.reduceSub, Nat.reduceDiv, Int.reduceLE, Int.reduceLT, Int.reduceNeg, Int.reduceAdd, Int.reduceSub, Int.reduceMul, Int.reduceToNat, Int.reducePow, Int.reduceEq, ne_eq, reduceIte, repM, objsM, Obj.cells, iD, bsD, bD, reqM, byteD]
      refine dcall1_pure (t54 (makeF kind a b) r h.ok (by omega) (by omega)) rfl rfl ?_
      simp only [↓ru, rv, rl, ry, tyf, iM, bM, bsM, cond_true, cond_false, Nat.reduceLT, Nat.reduceBEq, Nat.reduceAdd, Nat.reduceEqDiff, Nat.reduceMul, Nat.reduceLeDiff, Nat.reduceSub, Nat.reduceDiv, Int.reduceLE, Int.reduceLT, Int.reduceNeg, Int.reduceAdd, Int.reduceSub, Int.reduceMul, Int.reduceToNat, Int.reducePow, Int.reduceEq, ne_eq, reduceIte, repM, objsM, Obj.cells, iD, bsD, bD, reqM, byteD]
      refine dcall1_pure (t55 (makeF kind a b) r h.ok (by omega) (by omega)) rfl rfl ?_
      simp only [↓ru, rv, rl, ry, tyf, iM, bM, bsM, cond_true, cond_false, Nat.reduceLT, Nat.reduceBEq, Nat.reduceAdd, Nat.reduceEqDiff, Nat.reduceMul, Nat.reduceLeDiff, Nat.reduceSub, Nat.reduceDiv, Int.reduceLE, Int.reduceLT, Int.reduceNeg, Int.reduceAdd, Int.reduceSub, Int.reduceMul, Int.reduceToNat, Int.reducePow, Int.reduceEq, ne_eq, reduceIte, repM, objsM, Obj.cells, iD, bsD, bD, reqM, byteD, pureEnd_of (fn := Try.f12) (rs := [.tmp 12]) (ts := [4]) rfl rfl, bin_bool_eql Try.underlying4, BEq.rfl]

theorem sameObjs_refl : ∀ (l : List Obj), sameObjs l l = true
  | [] => rfl
  | o :: l => by rw [sameObjs, sameObjs_refl l]; simp
theorem sameF_refl (r : Rep) : sameF r r = true := by simp [sameF, sameObjs_refl]
theorem readF_match {q : Req} {b : List UInt8} (h : (readF q b).2 = 0) : matchF q (readF q b).1 = true := by
  unfold readF at h ⊢
  split at h
  · cases h
  · rename_i h1
    rw [if_neg h1]
    split at h
    · rename_i h2; exact absurd h h2
    · rename_i h2
      rw [if_neg h2]
      split at h
      · cases h
      · rename_i h3
        rw [if_neg h3]
        split at h
        · cases h
        · rename_i h4
          rw [if_neg h4]
          simpa using h4
theorem readF_ok (q : Req) (b : List UInt8) : (readF q b).1.OK ∧ (readF q b).1.objs.length ≤ 255 ∧ (readF q b).1.data.length ≤ 1000 := by
  unfold readF
  split
  · exact rep0_ok
  · split
    · exact rep0_ok
    · split
      · exact rep0_ok
      · split
        · exact rep0_ok
        · exact decF_ok b

theorem t13 (q : Req) (b : List UInt8) (raw : Bool) (kind a c : Int) (hb : b.length ≤ 9223372036854775807) : PFn Try.prog 13 [reqM q, bsM b, bM raw, iM kind, iM a, iM c] (bM true) := by
  refine PFn.of (prs := []) Try.func13 rfl rfl mix (by kernel_rfl) rfl rfl ?_
  simp only [Try.ntmps13, argUpd]
  simp only [↓ru, rv, rl, ry, tyf, iM, bM, bsM, cond_true, cond_false, Nat.reduceLT, Nat.reduceBEq, Nat.reduceAdd, Nat.reduceEqDiff, Nat.reduceMul, Nat.reduceLeDiff, Nat.reduceSub, Nat.reduceDiv, Int.reduceLE, Int.reduceLT, Int.reduceNeg, Int.reduceAdd, Int.reduceSub, Int.reduceMul, Int.reduceToNat, Int.reducePow, Int.reduceEq, ne_eq, reduceIte, repM, objsM, Obj.cells, iD, bsD, bD, reqM, byteD]
  refine acall1_pure (t22 b 260 hb) rfl rfl ?_
  have hbl : (b.take 260).length ≤ 1000 := by simp; omega
  generalize b.take 260 = b at hbl ⊢
  simp only [↓ru, rv, rl, ry, tyf, iM, bM, bsM, cond_true, cond_false, Nat.reduceLT, Nat.reduceBEq, Nat.reduceAdd, Nat.reduceEqDiff, Nat.reduceMul, Nat.reduceLeDiff, Nat.reduceSub, Nat.reduceDiv, Int.reduceLE, Int.reduceLT, Int.reduceNeg, Int.reduceAdd, Int.reduceSub, Int.reduceMul, Int.reduceToNat, Int.reducePow, Int.reduceEq, ne_eq, reduceIte, repM, objsM, Obj.cells, iD, bsD, bD, reqM, byteD]
  cases raw with
  | true =>
    simp only [↓ru, rv, rl, ry, tyf, iM, bM, bsM, cond_true, cond_false, Nat.reduceLT, Nat.reduceBEq, Nat.reduceAdd, Nat.reduceEqDiff, Nat.reduceMul, Nat.reduceLeDiff, Nat.reduceSub, Nat.reduceDiv, Int.reduceLE, Int.reduceLT, Int.reduceNeg, Int.reduceAdd, Int.reduceSub, Int.reduceMul, Int.reduceToNat, Int.reducePow, Int.reduceEq, ne_eq, reduceIte, repM, objsM, Obj.cells, iD, bsD, bD, reqM, byteD]
    refine acall1_pure (t56 q b hbl) rfl rfl ?_
    simp only [↓ru, rv, rl, ry, tyf, iM, bM, bsM, cond_true, cond_false, Nat.reduceLT, Nat.reduceBEq, Nat.reduceAdd, Nat.reduceEqDiff, Nat.reduceMul, Nat.reduceLeDiff, Nat.reduceSub, Nat.reduceDiv, Int.reduceLE, Int.reduceLT, Int.reduceNeg, Int.reduceAdd, Int.reduceSub, Int.reduceMul, Int.reduceToNat, Int.reducePow, Int.reduceEq, ne_eq, reduceIte, repM, objsM, Obj.cells, iD, bsD, bD, reqM, byteD]
    refine acall1_pure (t57 q b hbl) rfl rfl ?_
    have hm := readF_match (q := q) (b := b)
    obtain ⟨h1, h2, h3⟩ := readF_ok q b
    generalize readF q b = x at hm h1 h2 h3 ⊢
    simp only [↓ru, rv, rl, ry, tyf, iM, bM, bsM, cond_true, cond_false, Nat.reduceLT, Nat.reduceBEq, Nat.reduceAdd, Nat.reduceEqDiff, Nat.reduceMul, Nat.reduceLeDiff, Nat.reduceSub, Nat.reduceDiv, Int.reduceLE, Int.reduceLT, Int.reduceNeg, Int.reduceAdd, Int.reduceSub, Int.reduceMul, Int.reduceToNat, Int.reducePow, Int.reduceEq, ne_eq, reduceIte, repM, objsM, Obj.cells, iD, bsD, bD, reqM, byteD]
    refine acall1_pure t45 rfl rfl ?_
    simp only [↓ru, rv, rl, ry, tyf, iM, bM, bsM, cond_true, cond_false, Nat.reduceLT, Nat.reduceBEq, Nat.reduceAdd, Nat.reduceEqDiff, Nat.reduceMul, Nat.reduceLeDiff, Nat.reduceSub, Nat.reduceDiv, Int.reduceLE, Int.reduceLT, Int.reduceNeg, Int.reduceAdd, Int.reduceSub, Int.reduceMul, Int.reduceToNat, Int.reducePow, Int.reduceEq, ne_eq, reduceIte, repM, objsM, Obj.cells, iD, bsD, bD, reqM, byteD]
    refine acall1_pure (t51 x.1 x.1 (by omega) (by omega)) rfl rfl ?_
    rw [sameF_refl]
    by_cases he : x.2 = 0
    · have de : decide (x.2 = 0) = true := by simpa using he
      simp only [↓ru, rv, rl, ry, tyf, iM, bM, bsM, cond_true, cond_false, Nat.reduceLT, Nat.reduceBEq, Nat.reduceAdd, Nat.reduceEqDiff, Nat.reduceMul, Nat.reduceLeDiff, Nat.reduceSub, Nat.reduceDiv, Int.reduceLE, Int.reduceLT, Int.reduceNeg, Int.reduceAdd, Int.reduceSub, Int.reduceMul, Int.reduceToNat, Int.reducePow, Int.reduceEq, ne_eq, reduceIte, repM, objsM, Obj.cells, iD, bsD, bD, reqM, byteD, de]
      refine acall1_pure (t55 q x.1 h1 (by omega) (by omega)) rfl rfl ?_
      rw [hm he]
      simp only [↓ru, rv, rl, ry, tyf, iM, bM, bsM, cond_true, cond_false, Nat.reduceLT, Nat.reduceBEq, Nat.reduceAdd, Nat.reduceEqDiff, Nat.reduceMul, Nat.reduceLeDiff, Nat.reduceSub, Nat.reduceDiv, Int.reduceLE, Int.reduceLT, Int.reduceNeg, Int.reduceAdd, Int.reduceSub, Int.reduceMul, Int.reduceToNat, Int.reducePow, Int.reduceEq, ne_eq, reduceIte, repM, objsM, Obj.cells, iD, bsD, bD, reqM, byteD, pureEnd_of (fn := Try.f13) (rs := [.tmp 12]) (ts := [4]) rfl rfl]
    · have de : decide (x.2 = 0) = false := by simpa using he
      simp only [↓ru, rv, rl, ry, tyf, iM, bM, bsM, cond_true, cond_false, Nat.reduceLT, Nat.reduceBEq, Nat.reduceAdd, Nat.reduceEqDiff, Nat.reduceMul, Nat.reduceLeDiff, Nat.reduceSub, Nat.reduceDiv, Int.reduceLE, Int.reduceLT, Int.reduceNeg, Int.reduceAdd, Int.reduceSub, Int.reduceMul, Int.reduceToNat, Int.reducePow, Int.reduceEq, ne_eq, reduceIte, repM, objsM, Obj.cells, iD, bsD, bD, reqM, byteD, de, pureEnd_of (fn := Try.f13) (rs := [.tmp 12]) (ts := [4]) rfl rfl]
  | false =>
    simp only [↓ru, rv, rl, ry, tyf, iM, bM, bsM, cond_true, cond_false, Nat.reduceLT, Nat.reduceBEq, Nat.reduceAdd, Nat.reduceEqDiff, Nat.reduceMul, Nat.reduceLeDiff, Nat.reduceSub, Nat.reduceDiv, Int.reduceLE, Int.reduceLT, Int.reduceNeg, Int.reduceAdd, Int.reduceSub, Int.reduceMul, Int.reduceToNat, Int.reducePow, Int.reduceEq, ne_eq, reduceIte, repM, objsM, Obj.cells, iD, bsD, bD, reqM, byteD]
    refine acall1_pure (t53 kind a c) rfl rfl ?_
    generalize makeF kind a c = q
    simp only [↓ru, rv, rl, ry, tyf, iM, bM, bsM, cond_true, cond_false, Nat.reduceLT, Nat.reduceBEq, Nat.reduceAdd, Nat.reduceEqDiff, Nat.reduceMul, Nat.reduceLeDiff, Nat.reduceSub, Nat.reduceDiv, Int.reduceLE, Int.reduceLT, Int.reduceNeg, Int.reduceAdd, Int.reduceSub, Int.reduceMul, Int.reduceToNat, Int.reducePow, Int.reduceEq, ne_eq, reduceIte, repM, objsM, Obj.cells, iD, bsD, bD, reqM, byteD]
    refine acall1_pure (t56 q b hbl) rfl rfl ?_
    simp only [↓ru, rv, rl, ry, tyf, iM, bM, bsM, cond_true, cond_false, Nat.reduceLT, Nat.reduceBEq, Nat.reduceAdd, Nat.reduceEqDiff, Nat.reduceMul, Nat.reduceLeDiff, Nat.reduceSub, Nat.reduceDiv, Int.reduceLE, Int.reduceLT, Int.reduceNeg, Int.reduceAdd, Int.reduceSub, Int.reduceMul, Int.reduceToNat, Int.reducePow, Int.reduceEq, ne_eq, reduceIte, repM, objsM, Obj.cells, iD, bsD, bD, reqM, byteD]
    refine acall1_pure (t57 q b hbl) rfl rfl ?_
    have hm := readF_match (q := q) (b := b)
    obtain ⟨h1, h2, h3⟩ := readF_ok q b
    generalize readF q b = x at hm h1 h2 h3 ⊢
    simp only [↓ru, rv, rl, ry, tyf, iM, bM, bsM, cond_true, cond_false, Nat.reduceLT, Nat.reduceBEq, Nat.reduceAdd, Nat.reduceEqDiff, Nat.reduceMul, Nat.reduceLeDiff, Nat.reduceSub, Nat.reduceDiv, Int.reduceLE, Int.reduceLT, Int.reduceNeg, Int.reduceAdd, Int.reduceSub, Int.reduceMul, Int.reduceToNat, Int.reducePow, Int.reduceEq, ne_eq, reduceIte, repM, objsM, Obj.cells, iD, bsD, bD, reqM, byteD]
    refine acall1_pure t45 rfl rfl ?_
    simp only [↓ru, rv, rl, ry, tyf, iM, bM, bsM, cond_true, cond_false, Nat.reduceLT, Nat.reduceBEq, Nat.reduceAdd, Nat.reduceEqDiff, Nat.reduceMul, Nat.reduceLeDiff, Nat.reduceSub, Nat.reduceDiv, Int.reduceLE, Int.reduceLT, Int.reduceNeg, Int.reduceAdd, Int.reduceSub, Int.reduceMul, Int.reduceToNat, Int.reducePow, Int.reduceEq, ne_eq, reduceIte, repM, objsM, Obj.cells, iD, bsD, bD, reqM, byteD]
    refine acall1_pure (t51 x.1 x.1 (by omega) (by omega)) rfl rfl ?_
    rw [sameF_refl]
    by_cases he : x.2 = 0
    · have de : decide (x.2 = 0) = true := by simpa using he
      simp only [↓ru, rv, rl, ry, tyf, iM, bM, bsM, cond_true, cond_false, Nat.reduceLT, Nat.reduceBEq, Nat.reduceAdd, Nat.reduceEqDiff, Nat.reduceMul, Nat.reduceLeDiff, Nat.reduceSub, Nat.reduceDiv, Int.reduceLE, Int.reduceLT, Int.reduceNeg, Int.reduceAdd, Int.reduceSub, Int.reduceMul, Int.reduceToNat, Int.reducePow, Int.reduceEq, ne_eq, reduceIte, repM, objsM, Obj.cells, iD, bsD, bD, reqM, byteD, de]
      refine acall1_pure (t55 q x.1 h1 (by omega) (by omega)) rfl rfl ?_
      rw [hm he]
      simp only [↓ru, rv, rl, ry, tyf, iM, bM, bsM, cond_true, cond_false, Nat.reduceLT, Nat.reduceBEq, Nat.reduceAdd, Nat.reduceEqDiff, Nat.reduceMul, Nat.reduceLeDiff, Nat.reduceSub, Nat.reduceDiv, Int.reduceLE, Int.reduceLT, Int.reduceNeg, Int.reduceAdd, Int.reduceSub, Int.reduceMul, Int.reduceToNat, Int.reducePow, Int.reduceEq, ne_eq, reduceIte, repM, objsM, Obj.cells, iD, bsD, bD, reqM, byteD, pureEnd_of (fn := Try.f13) (rs := [.tmp 12]) (ts := [4]) rfl rfl]
    · have de : decide (x.2 = 0) = false := by simpa using he
      simp only [↓ru, rv, rl, ry, tyf, iM, bM, bsM, cond_true, cond_false, Nat.reduceLT, Nat.reduceBEq, Nat.reduceAdd, Nat.reduceEqDiff, Nat.reduceMul, Nat.reduceLeDiff, Nat.reduceSub, Nat.reduceDiv, Int.reduceLE, Int.reduceLT, Int.reduceNeg, Int.reduceAdd, Int.reduceSub, Int.reduceMul, Int.reduceToNat, Int.reducePow, Int.reduceEq, ne_eq, reduceIte, repM, objsM, Obj.cells, iD, bsD, bD, reqM, byteD, de, pureEnd_of (fn := Try.f13) (rs := [.tmp 12]) (ts := [4]) rfl rfl]
end Go.R2

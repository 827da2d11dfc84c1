import Derived.Test.YtalbgijagdmdcaaOP1
set_option linter.all false
open Go.Proofs Go.Abs Go.FaR2
namespace Go.R2
-- rules: repM, objsM, Obj.cells, iD, bsD, bD, reqM, byteD
set_option maxHeartbeats 4000000
set_option maxRecDepth 10000

theorem encR_false {r : Rep} (h : validF r = false) : encR r = .tup [bsM [], iM 5] := by rw [encR, h]; rfl
theorem encR_true {r : Rep} (h : validF r = true) : encR r = .tup [bsM (encF r), iM 0] := by rw [encR, h]; rfl

theorem t10 (r : Rep) (h : r.Wf) : PFn Try.prog 10 [repM r] (bM true) := by
  refine PFn.of (prs := []) Try.func10 rfl rfl mix (by kernel_rfl) rfl rfl ?_
  simp only [Try.ntmps10, argUpd]
  simp only [↓ru, rv, rl, ry, tyf, iM, bM, bsM, cond_true, cond_false, Nat.reduceLT, Nat.reduceBEq, Nat.reduceAdd, Nat.reduceEqDiff, Nat.reduceMul, Nat.reduceLeDiff, Nat.reduceSub, Nat.reduceDiv, Int.reduceLE, Int.reduceLT, Int.reduceNeg, Int.reduceAdd, Int.reduceSub, Int.reduceMul, Int.reduceToNat, Int.reducePow, Int.reduceEq, ne_eq, reduceIte, repM, objsM, Obj.cells, iD, bsD, bD, reqM, byteD]
  refine acall1_pure (t44 r h.objs) rfl rfl ?_
  cases hs : smallRep r with
  | false =>
    simp only [↓ru, rv, rl, ry, tyf, iM, bM, bsM, cond_true, cond_false, Nat.reduceLT, Nat.reduceBEq, Nat.reduceAdd, Nat.reduceEqDiff, Nat.reduceMul, Nat.reduceLeDiff, Nat.reduceSub, Nat.reduceDiv, Int.reduceLE, Int.reduceLT, Int.reduceNeg, Int.reduceAdd, Int.reduceSub, Int.reduceMul, Int.reduceToNat, Int.reducePow, Int.reduceEq, ne_eq, reduceIte, repM, objsM, Obj.cells, iD, bsD, bD, reqM, byteD]
    refine acall1_pure t45 rfl rfl ?_
    simp only [↓ru, rv, rl, ry, tyf, iM, bM, bsM, cond_true, cond_false, Nat.reduceLT, Nat.reduceBEq, Nat.reduceAdd, Nat.reduceEqDiff, Nat.reduceMul, Nat.reduceLeDiff, Nat.reduceSub, Nat.reduceDiv, Int.reduceLE, Int.reduceLT, Int.reduceNeg, Int.reduceAdd, Int.reduceSub, Int.reduceMul, Int.reduceToNat, Int.reducePow, Int.reduceEq, ne_eq, reduceIte, repM, objsM, Obj.cells, iD, bsD, bD, reqM, byteD, pureEnd_of (fn := Try.f10) (rs := [.tmp 2]) (ts := [4]) rfl rfl]
  | true =>
    obtain ⟨ho, hd⟩ := small_objs hs
    cases hv : validF r with
    | false =>
      simp only [↓ru, rv, rl, ry, tyf, iM, bM, bsM, cond_true, cond_false, Nat.reduceLT, Nat.reduceBEq, Nat.reduceAdd, Nat.reduceEqDiff, Nat.reduceMul, Nat.reduceLeDiff, Nat.reduceSub, Nat.reduceDiv, Int.reduceLE, Int.reduceLT, Int.reduceNeg, Int.reduceAdd, Int.reduceSub, Int.reduceMul, Int.reduceToNat, Int.reducePow, Int.reduceEq, ne_eq, reduceIte, repM, objsM, Obj.cells, iD, bsD, bD, reqM, byteD]
      have e48 := t48 r h.ok
      rw [encR_false hv] at e48
      refine acall1_pure e48 rfl rfl ?_
      simp only [↓ru, rv, rl, ry, tyf, iM, bM, bsM, cond_true, cond_false, Nat.reduceLT, Nat.reduceBEq, Nat.reduceAdd, Nat.reduceEqDiff, Nat.reduceMul, Nat.reduceLeDiff, Nat.reduceSub, Nat.reduceDiv, Int.reduceLE, Int.reduceLT, Int.reduceNeg, Int.reduceAdd, Int.reduceSub, Int.reduceMul, Int.reduceToNat, Int.reducePow, Int.reduceEq, ne_eq, reduceIte, repM, objsM, Obj.cells, iD, bsD, bD, reqM, byteD]
      have e49 := t49 r h.ok
      rw [encR_false hv] at e49
      refine acall1_pure e49 rfl rfl ?_
      have b0 : bytesOf [] = some [] := rfl
      simp only [↓ru, rv, rl, ry, tyf, iM, bM, bsM, cond_true, cond_false, Nat.reduceLT, Nat.reduceBEq, Nat.reduceAdd, Nat.reduceEqDiff, Nat.reduceMul, Nat.reduceLeDiff, Nat.reduceSub, Nat.reduceDiv, Int.reduceLE, Int.reduceLT, Int.reduceNeg, Int.reduceAdd, Int.reduceSub, Int.reduceMul, Int.reduceToNat, Int.reducePow, Int.reduceEq, ne_eq, reduceIte, repM, objsM, Obj.cells, iD, bsD, bD, reqM, byteD, b0]
      refine acall1_pure t45 rfl rfl ?_
      simp only [↓ru, rv, rl, ry, tyf, iM, bM, bsM, cond_true, cond_false, Nat.reduceLT, Nat.reduceBEq, Nat.reduceAdd, Nat.reduceEqDiff, Nat.reduceMul, Nat.reduceLeDiff, Nat.reduceSub, Nat.reduceDiv, Int.reduceLE, Int.reduceLT, Int.reduceNeg, Int.reduceAdd, Int.reduceSub, Int.reduceMul, Int.reduceToNat, Int.reducePow, Int.reduceEq, ne_eq, reduceIte, repM, objsM, Obj.cells, iD, bsD, bD, reqM, byteD, pureEnd_of (fn := Try.f10) (rs := [.tmp 2]) (ts := [4]) rfl rfl]
    | true =>
      obtain ⟨h1, h2, h3⟩ := dec_enc hv
      simp only [↓ru, rv, rl, ry, tyf, iM, bM, bsM, cond_true, cond_false, Nat.reduceLT, Nat.reduceBEq, Nat.reduceAdd, Nat.reduceEqDiff, Nat.reduceMul, Nat.reduceLeDiff, Nat.reduceSub, Nat.reduceDiv, Int.reduceLE, Int.reduceLT, Int.reduceNeg, Int.reduceAdd, Int.reduceSub, Int.reduceMul, Int.reduceToNat, Int.reducePow, Int.reduceEq, ne_eq, reduceIte, repM, objsM, Obj.cells, iD, bsD, bD, reqM, byteD]
      have e48 := t48 r h.ok
      rw [encR_true hv] at e48
      refine acall1_pure e48 rfl rfl ?_
      simp only [↓ru, rv, rl, ry, tyf, iM, bM, bsM, cond_true, cond_false, Nat.reduceLT, Nat.reduceBEq, Nat.reduceAdd, Nat.reduceEqDiff, Nat.reduceMul, Nat.reduceLeDiff, Nat.reduceSub, Nat.reduceDiv, Int.reduceLE, Int.reduceLT, Int.reduceNeg, Int.reduceAdd, Int.reduceSub, Int.reduceMul, Int.reduceToNat, Int.reducePow, Int.reduceEq, ne_eq, reduceIte, repM, objsM, Obj.cells, iD, bsD, bD, reqM, byteD]
      have e49 := t49 r h.ok
      rw [encR_true hv] at e49
      refine acall1_pure e49 rfl rfl ?_
      generalize encF r = b at h1 h2 h3 ⊢
      simp only [↓ru, rv, rl, ry, tyf, iM, bM, bsM, cond_true, cond_false, Nat.reduceLT, Nat.reduceBEq, Nat.reduceAdd, Nat.reduceEqDiff, Nat.reduceMul, Nat.reduceLeDiff, Nat.reduceSub, Nat.reduceDiv, Int.reduceLE, Int.reduceLT, Int.reduceNeg, Int.reduceAdd, Int.reduceSub, Int.reduceMul, Int.reduceToNat, Int.reducePow, Int.reduceEq, ne_eq, reduceIte, repM, objsM, Obj.cells, iD, bsD, bD, reqM, byteD]
      refine acall1_pure (t50 b (by omega)) rfl rfl ?_
      rw [h1]
      simp only [↓ru, rv, rl, ry, tyf, iM, bM, bsM, cond_true, cond_false, Nat.reduceLT, Nat.reduceBEq, Nat.reduceAdd, Nat.reduceEqDiff, Nat.reduceMul, Nat.reduceLeDiff, Nat.reduceSub, Nat.reduceDiv, Int.reduceLE, Int.reduceLT, Int.reduceNeg, Int.reduceAdd, Int.reduceSub, Int.reduceMul, Int.reduceToNat, Int.reducePow, Int.reduceEq, ne_eq, reduceIte, repM, objsM, Obj.cells, iD, bsD, bD, reqM, byteD]
      refine acall1_pure t45 rfl rfl ?_
      have hl : decide ((b.length : Int) ≤ 253) = true := by simp; omega
      simp only [↓ru, rv, rl, ry, tyf, iM, bM, bsM, cond_true, cond_false, Nat.reduceLT, Nat.reduceBEq, Nat.reduceAdd, Nat.reduceEqDiff, Nat.reduceMul, Nat.reduceLeDiff, Nat.reduceSub, Nat.reduceDiv, Int.reduceLE, Int.reduceLT, Int.reduceNeg, Int.reduceAdd, Int.reduceSub, Int.reduceMul, Int.reduceToNat, Int.reducePow, Int.reduceEq, ne_eq, reduceIte, repM, objsM, Obj.cells, iD, bsD, bD, reqM, byteD, hl]
      refine acall1_pure (t51 r r (by omega) (by omega)) rfl rfl ?_
      rw [sameF_refl]
      simp only [↓ru, rv, rl, ry, tyf, iM, bM, bsM, cond_true, cond_false, Nat.reduceLT, Nat.reduceBEq, Nat.reduceAdd, Nat.reduceEqDiff, Nat.reduceMul, Nat.reduceLeDiff, Nat.reduceSub, Nat.reduceDiv, Int.reduceLE, Int.reduceLT, Int.reduceNeg, Int.reduceAdd, Int.reduceSub, Int.reduceMul, Int.reduceToNat, Int.reducePow, Int.reduceEq, ne_eq, reduceIte, repM, objsM, Obj.cells, iD, bsD, bD, reqM, byteD, pureEnd_of (fn := Try.f10) (rs := [.tmp 2]) (ts := [4]) rfl rfl]

theorem t11 (b : List UInt8) (hb : b.length ≤ 9223372036854775807) : PFn Try.prog 11 [bsM b] (bM true) := by
  refine PFn.of (prs := []) Try.func11 rfl rfl mix (by kernel_rfl) rfl rfl ?_
  simp only [Try.ntmps11, argUpd]
  simp only [↓ru, rv, rl, ry, tyf, iM, bM, bsM, cond_true, cond_false, Nat.reduceLT, Nat.reduceBEq, Nat.reduceAdd, Nat.reduceEqDiff, Nat.reduceMul, Nat.reduceLeDiff, Nat.reduceSub, Nat.reduceDiv, Int.reduceLE, Int.reduceLT, Int.reduceNeg, Int.reduceAdd, Int.reduceSub, Int.reduceMul, Int.reduceToNat, Int.reducePow, Int.reduceEq, ne_eq, reduceIte, repM, objsM, Obj.cells, iD, bsD, bD, reqM, byteD]
  refine acall1_pure (t22 b 260 hb) rfl rfl ?_
  have hbl : (b.take 260).length ≤ 1000 := by simp; omega
  generalize b.take 260 = b at hbl ⊢
  simp only [↓ru, rv, rl, ry, tyf, iM, bM, bsM, cond_true, cond_false, Nat.reduceLT, Nat.reduceBEq, Nat.reduceAdd, Nat.reduceEqDiff, Nat.reduceMul, Nat.reduceLeDiff, Nat.reduceSub, Nat.reduceDiv, Int.reduceLE, Int.reduceLT, Int.reduceNeg, Int.reduceAdd, Int.reduceSub, Int.reduceMul, Int.reduceToNat, Int.reducePow, Int.reduceEq, ne_eq, reduceIte, repM, objsM, Obj.cells, iD, bsD, bD, reqM, byteD]
  refine acall1_pure (t50 b hbl) rfl rfl ?_
  simp only [↓ru, rv, rl, ry, tyf, iM, bM, bsM, cond_true, cond_false, Nat.reduceLT, Nat.reduceBEq, Nat.reduceAdd, Nat.reduceEqDiff, Nat.reduceMul, Nat.reduceLeDiff, Nat.reduceSub, Nat.reduceDiv, Int.reduceLE, Int.reduceLT, Int.reduceNeg, Int.reduceAdd, Int.reduceSub, Int.reduceMul, Int.reduceToNat, Int.reducePow, Int.reduceEq, ne_eq, reduceIte, repM, objsM, Obj.cells, iD, bsD, bD, reqM, byteD]
  refine acall1_pure (t52 b hbl) rfl rfl ?_
  have hed := fun r => enc_dec (b := b) (r := r)
  obtain ⟨h1, h2, h3⟩ := decF_ok b
  generalize decF b = x at hed h1 h2 h3 ⊢
  obtain ⟨r, e⟩ := x
  simp only at hed h1 h2 h3 ⊢
  simp only [↓ru, rv, rl, ry, tyf, iM, bM, bsM, cond_true, cond_false, Nat.reduceLT, Nat.reduceBEq, Nat.reduceAdd, Nat.reduceEqDiff, Nat.reduceMul, Nat.reduceLeDiff, Nat.reduceSub, Nat.reduceDiv, Int.reduceLE, Int.reduceLT, Int.reduceNeg, Int.reduceAdd, Int.reduceSub, Int.reduceMul, Int.reduceToNat, Int.reducePow, Int.reduceEq, ne_eq, reduceIte, repM, objsM, Obj.cells, iD, bsD, bD, reqM, byteD]
  refine acall1_pure (t51 r r (by omega) (by omega)) rfl rfl ?_
  rw [sameF_refl]
  simp only [↓ru, rv, rl, ry, tyf, iM, bM, bsM, cond_true, cond_false, Nat.reduceLT, Nat.reduceBEq, Nat.reduceAdd, Nat.reduceEqDiff, Nat.reduceMul, Nat.reduceLeDiff, Nat.reduceSub, Nat.reduceDiv, Int.reduceLE, Int.reduceLT, Int.reduceNeg, Int.reduceAdd, Int.reduceSub, Int.reduceMul, Int.reduceToNat, Int.reducePow, Int.reduceEq, ne_eq, reduceIte, repM, objsM, Obj.cells, iD, bsD, bD, reqM, byteD]
  by_cases he : e = 0
  · subst he
    obtain ⟨hv, rfl⟩ := hed r rfl
    have e49 := t49 r h1
    rw [encR_true hv] at e49
    refine acall1_pure e49 rfl rfl ?_
    simp only [↓ru, rv, rl, ry, tyf, iM, bM, bsM, cond_true, cond_false, Nat.reduceLT, Nat.reduceBEq, Nat.reduceAdd, Nat.reduceEqDiff, Nat.reduceMul, Nat.reduceLeDiff, Nat.reduceSub, Nat.reduceDiv, Int.reduceLE, Int.reduceLT, Int.reduceNeg, Int.reduceAdd, Int.reduceSub, Int.reduceMul, Int.reduceToNat, Int.reducePow, Int.reduceEq, ne_eq, reduceIte, repM, objsM, Obj.cells, iD, bsD, bD, reqM, byteD]
    refine acall1_pure t45 rfl rfl ?_
    simp only [↓ru, rv, rl, ry, tyf, iM, bM, bsM, cond_true, cond_false, Nat.reduceLT, Nat.reduceBEq, Nat.reduceAdd, Nat.reduceEqDiff, Nat.reduceMul, Nat.reduceLeDiff, Nat.reduceSub, Nat.reduceDiv, Int.reduceLE, Int.reduceLT, Int.reduceNeg, Int.reduceAdd, Int.reduceSub, Int.reduceMul, Int.reduceToNat, Int.reducePow, Int.reduceEq, ne_eq, reduceIte, repM, objsM, Obj.cells, iD, bsD, bD, reqM, byteD, pureEnd_of (fn := Try.f11) (rs := [.tmp 2]) (ts := [4]) rfl rfl]
  · have de : decide (e = 0) = false := by simpa using he
    cases hv : validF r with
    | true =>
      have e49 := t49 r h1
      rw [encR_true hv] at e49
      refine acall1_pure e49 rfl rfl ?_
      simp only [↓ru, rv, rl, ry, tyf, iM, bM, bsM, cond_true, cond_false, Nat.reduceLT, Nat.reduceBEq, Nat.reduceAdd, Nat.reduceEqDiff, Nat.reduceMul, Nat.reduceLeDiff, Nat.reduceSub, Nat.reduceDiv, Int.reduceLE, Int.reduceLT, Int.reduceNeg, Int.reduceAdd, Int.reduceSub, Int.reduceMul, Int.reduceToNat, Int.reducePow, Int.reduceEq, ne_eq, reduceIte, repM, objsM, Obj.cells, iD, bsD, bD, reqM, byteD]
      refine acall1_pure t45 rfl rfl ?_
      simp only [↓ru, rv, rl, ry, tyf, iM, bM, bsM, cond_true, cond_false, Nat.reduceLT, Nat.reduceBEq, Nat.reduceAdd, Nat.reduceEqDiff, Nat.reduceMul, Nat.reduceLeDiff, Nat.reduceSub, Nat.reduceDiv, Int.reduceLE, Int.reduceLT, Int.reduceNeg, Int.reduceAdd, Int.reduceSub, Int.reduceMul, Int.reduceToNat, Int.reducePow, Int.reduceEq, ne_eq, reduceIte, repM, objsM, Obj.cells, iD, bsD, bD, reqM, byteD, de, pureEnd_of (fn := Try.f11) (rs := [.tmp 2]) (ts := [4]) rfl rfl]
    | false =>
      have e49 := t49 r h1
      rw [encR_false hv] at e49
      refine acall1_pure e49 rfl rfl ?_
      simp only [↓ru, rv, rl, ry, tyf, iM, bM, bsM, cond_true, cond_false, Nat.reduceLT, Nat.reduceBEq, Nat.reduceAdd, Nat.reduceEqDiff, Nat.reduceMul, Nat.reduceLeDiff, Nat.reduceSub, Nat.reduceDiv, Int.reduceLE, Int.reduceLT, Int.reduceNeg, Int.reduceAdd, Int.reduceSub, Int.reduceMul, Int.reduceToNat, Int.reducePow, Int.reduceEq, ne_eq, reduceIte, repM, objsM, Obj.cells, iD, bsD, bD, reqM, byteD]
      refine acall1_pure t45 rfl rfl ?_
      simp only [↓ru, rv, rl, ry, tyf, iM, bM, bsM, cond_true, cond_false, Nat.reduceLT, Nat.reduceBEq, Nat.reduceAdd, Nat.reduceEqDiff, Nat.reduceMul, Nat.reduceLeDiff, Nat.reduceSub, Nat.reduceDiv, Int.reduceLE, Int.reduceLT, Int.reduceNeg, Int.reduceAdd, Int.reduceSub, Int.reduceMul, Int.reduceToNat, Int.reducePow, Int.reduceEq, ne_eq, reduceIte, repM, objsM, Obj.cells, iD, bsD, bD, reqM, byteD, de, pureEnd_of (fn := Try.f11) (rs := [.tmp 2]) (ts := [4]) rfl rfl]

theorem t14 (r : Rep) (cut : Int) (more : List UInt8) (h : r.Wf) (hm : more.length ≤ 9223372036854775807) : PFn Try.prog 14 [repM r, iM cut, bsM more] (bM true) := by
  refine PFn.of (prs := []) Try.func14 rfl rfl mix (by kernel_rfl) rfl rfl ?_
  simp only [Try.ntmps14, argUpd]
  simp only [↓ru, rv, rl, ry, tyf, iM, bM, bsM, cond_true, cond_false, Nat.reduceLT, Nat.reduceBEq, Nat.reduceAdd, Nat.reduceEqDiff, Nat.reduceMul, Nat.reduceLeDiff, Nat.reduceSub, Nat.reduceDiv, Int.reduceLE, Int.reduceLT, Int.reduceNeg, Int.reduceAdd, Int.reduceSub, Int.reduceMul, Int.reduceToNat, Int.reducePow, Int.reduceEq, ne_eq, reduceIte, repM, objsM, Obj.cells, iD, bsD, bD, reqM, byteD]
  refine acall1_pure (t22 more 10 hm) rfl rfl ?_
  have hml : (more.take 10).length ≤ 10 := by simp; omega
  generalize more.take 10 = more at hml ⊢
  simp only [↓ru, rv, rl, ry, tyf, iM, bM, bsM, cond_true, cond_false, Nat.reduceLT, Nat.reduceBEq, Nat.reduceAdd, Nat.reduceEqDiff, Nat.reduceMul, Nat.reduceLeDiff, Nat.reduceSub, Nat.reduceDiv, Int.reduceLE, Int.reduceLT, Int.reduceNeg, Int.reduceAdd, Int.reduceSub, Int.reduceMul, Int.reduceToNat, Int.reducePow, Int.reduceEq, ne_eq, reduceIte, repM, objsM, Obj.cells, iD, bsD, bD, reqM, byteD]
  refine acall1_pure (t44 r h.objs) rfl rfl ?_
  cases hs : smallRep r with
  | false =>
    simp only [↓ru, rv, rl, ry, tyf, iM, bM, bsM, cond_true, cond_false, Nat.reduceLT, Nat.reduceBEq, Nat.reduceAdd, Nat.reduceEqDiff, Nat.reduceMul, Nat.reduceLeDiff, Nat.reduceSub, Nat.reduceDiv, Int.reduceLE, Int.reduceLT, Int.reduceNeg, Int.reduceAdd, Int.reduceSub, Int.reduceMul, Int.reduceToNat, Int.reducePow, Int.reduceEq, ne_eq, reduceIte, repM, objsM, Obj.cells, iD, bsD, bD, reqM, byteD]
    refine acall1_pure t45 rfl rfl ?_
    simp only [↓ru, rv, rl, ry, tyf, iM, bM, bsM, cond_true, cond_false, Nat.reduceLT, Nat.reduceBEq, Nat.reduceAdd, Nat.reduceEqDiff, Nat.reduceMul, Nat.reduceLeDiff, Nat.reduceSub, Nat.reduceDiv, Int.reduceLE, Int.reduceLT, Int.reduceNeg, Int.reduceAdd, Int.reduceSub, Int.reduceMul, Int.reduceToNat, Int.reducePow, Int.reduceEq, ne_eq, reduceIte, repM, objsM, Obj.cells, iD, bsD, bD, reqM, byteD, pureEnd_of (fn := Try.f14) (rs := [.tmp 6]) (ts := [4]) rfl rfl]
  | true =>
    obtain ⟨ho, hd⟩ := small_objs hs
    simp only [↓ru, rv, rl, ry, tyf, iM, bM, bsM, cond_true, cond_false, Nat.reduceLT, Nat.reduceBEq, Nat.reduceAdd, Nat.reduceEqDiff, Nat.reduceMul, Nat.reduceLeDiff, Nat.reduceSub, Nat.reduceDiv, Int.reduceLE, Int.reduceLT, Int.reduceNeg, Int.reduceAdd, Int.reduceSub, Int.reduceMul, Int.reduceToNat, Int.reducePow, Int.reduceEq, ne_eq, reduceIte, repM, objsM, Obj.cells, iD, bsD, bD, reqM, byteD]
    refine acall1_pure (t47 r h.ok) rfl rfl ?_
    cases hv : validF r with
    | false =>
      simp only [↓ru, rv, rl, ry, tyf, iM, bM, bsM, cond_true, cond_false, Nat.reduceLT, Nat.reduceBEq, Nat.reduceAdd, Nat.reduceEqDiff, Nat.reduceMul, Nat.reduceLeDiff, Nat.reduceSub, Nat.reduceDiv, Int.reduceLE, Int.reduceLT, Int.reduceNeg, Int.reduceAdd, Int.reduceSub, Int.reduceMul, Int.reduceToNat, Int.reducePow, Int.reduceEq, ne_eq, reduceIte, repM, objsM, Obj.cells, iD, bsD, bD, reqM, byteD]
      refine acall1_pure t45 rfl rfl ?_
      simp only [↓ru, rv, rl, ry, tyf, iM, bM, bsM, cond_true, cond_false, Nat.reduceLT, Nat.reduceBEq, Nat.reduceAdd, Nat.reduceEqDiff, Nat.reduceMul, Nat.reduceLeDiff, Nat.reduceSub, Nat.reduceDiv, Int.reduceLE, Int.reduceLT, Int.reduceNeg, Int.reduceAdd, Int.reduceSub, Int.reduceMul, Int.reduceToNat, Int.reducePow, Int.reduceEq, ne_eq, reduceIte, repM, objsM, Obj.cells, iD, bsD, bD, reqM, byteD, pureEnd_of (fn := Try.f14) (rs := [.tmp 6]) (ts := [4]) rfl rfl]
    | true =>
      obtain ⟨h1, h2, h3⟩ := dec_enc hv
      simp only [↓ru, rv, rl, ry, tyf, iM, bM, bsM, cond_true, cond_false, Nat.reduceLT, Nat.reduceBEq, Nat.reduceAdd, Nat.reduceEqDiff, Nat.reduceMul, Nat.reduceLeDiff, Nat.reduceSub, Nat.reduceDiv, Int.reduceLE, Int.reduceLT, Int.reduceNeg, Int.reduceAdd, Int.reduceSub, Int.reduceMul, Int.reduceToNat, Int.reducePow, Int.reduceEq, ne_eq, reduceIte, repM, objsM, Obj.cells, iD, bsD, bD, reqM, byteD]
      have e48 := t48 r h.ok
      rw [encR_true hv] at e48
      refine acall1_pure e48 rfl rfl ?_
      generalize encF r = b at h1 h2 h3 ⊢
      have hl : decide ((b.length : Int) < 2) = false := by simp; omega
      simp only [↓ru, rv, rl, ry, tyf, iM, bM, bsM, cond_true, cond_false, Nat.reduceLT, Nat.reduceBEq, Nat.reduceAdd, Nat.reduceEqDiff, Nat.reduceMul, Nat.reduceLeDiff, Nat.reduceSub, Nat.reduceDiv, Int.reduceLE, Int.reduceLT, Int.reduceNeg, Int.reduceAdd, Int.reduceSub, Int.reduceMul, Int.reduceToNat, Int.reducePow, Int.reduceEq, ne_eq, reduceIte, repM, objsM, Obj.cells, iD, bsD, bD, reqM, byteD, hl]
      refine acall1_pure (t27 cut b.length (by omega)) rfl rfl ?_
      have hm1 := Int.emod_nonneg cut (show (b.length : Int) ≠ 0 by omega)
      have hm2 := Int.emod_lt_of_pos cut (show 0 < (b.length : Int) by omega)
      obtain ⟨k, hk⟩ : ∃ k : Nat, cut % (b.length : Int) = k := ⟨(cut % (b.length : Int)).toNat, by omega⟩
      rw [hk] at hm1 hm2 ⊢
      have hp : (decF (b.take k)).2 ≠ 0 := fun h0 => by
        have e1 : decF (b.take k) = ((decF (b.take k)).1, 0) := by rw [← h0]
        have e2 : decF (b.take k ++ b.drop k) = (r, 0) := by rw [List.take_append_drop]; exact h1
        have := congrArg List.length (dec_ends e1 e2)
        simp at this
        omega
      have hq : more ≠ [] → (decF (b ++ more)).2 ≠ 0 := fun hne h0 => by
        have e1 : decF (b ++ more) = ((decF (b ++ more)).1, 0) := by rw [← h0]
        exact hne (dec_ends h1 e1)
      simp only [↓ru, rv, rl, ry, tyf, iM, bM, bsM, cond_true, cond_false, Nat.reduceLT, Nat.reduceBEq, Nat.reduceAdd, Nat.reduceEqDiff, Nat.reduceMul, Nat.reduceLeDiff, Nat.reduceSub, Nat.reduceDiv, Int.reduceLE, Int.reduceLT, Int.reduceNeg, Int.reduceAdd, Int.reduceSub, Int.reduceMul, Int.reduceToNat, Int.reducePow, Int.reduceEq, ne_eq, reduceIte, repM, objsM, Obj.cells, iD, bsD, bD, reqM, byteD]
      refine grd_intro (by omega) ?_
      refine acall1_pure (t50 (b.take k) (by simp; omega)) rfl rfl ?_
      generalize decF (b.take k) = x at hp ⊢
      have hx : decide (x.2 = 0) = false := by simpa using hp
      simp only [↓ru, rv, rl, ry, tyf, iM, bM, bsM, cond_true, cond_false, Nat.reduceLT, Nat.reduceBEq, Nat.reduceAdd, Nat.reduceEqDiff, Nat.reduceMul, Nat.reduceLeDiff, Nat.reduceSub, Nat.reduceDiv, Int.reduceLE, Int.reduceLT, Int.reduceNeg, Int.reduceAdd, Int.reduceSub, Int.reduceMul, Int.reduceToNat, Int.reducePow, Int.reduceEq, ne_eq, reduceIte, repM, objsM, Obj.cells, iD, bsD, bD, reqM, byteD]
      refine grd_intro (by omega) (grd_intro (by simp; omega) ?_)
      rw [← List.map_append]
      refine acall1_pure (t50 (b ++ more) (by simp; omega)) rfl rfl ?_
      generalize decF (b ++ more) = y at hq ⊢
      simp only [↓ru, rv, rl, ry, tyf, iM, bM, bsM, cond_true, cond_false, Nat.reduceLT, Nat.reduceBEq, Nat.reduceAdd, Nat.reduceEqDiff, Nat.reduceMul, Nat.reduceLeDiff, Nat.reduceSub, Nat.reduceDiv, Int.reduceLE, Int.reduceLT, Int.reduceNeg, Int.reduceAdd, Int.reduceSub, Int.reduceMul, Int.reduceToNat, Int.reducePow, Int.reduceEq, ne_eq, reduceIte, repM, objsM, Obj.cells, iD, bsD, bD, reqM, byteD]
      refine acall1_pure t45 rfl rfl ?_
      simp only [↓ru, rv, rl, ry, tyf, iM, bM, bsM, cond_true, cond_false, Nat.reduceLT, Nat.reduceBEq, Nat.reduceAdd, Nat.reduceEqDiff, Nat.reduceMul, Nat.reduceLeDiff, Nat.reduceSub, Nat.reduceDiv, Int.reduceLE, Int.reduceLT, Int.reduceNeg, Int.reduceAdd, Int.reduceSub, Int.reduceMul, Int.reduceToNat, Int.reducePow, Int.reduceEq, ne_eq, reduceIte, repM, objsM, Obj.cells, iD, bsD, bD, reqM, byteD, hx]
      by_cases hne : more = []
      · subst hne
        simp only [↓ru, rv, rl, ry, tyf, iM, bM, bsM, cond_true, cond_false, Nat.reduceLT, Nat.reduceBEq, Nat.reduceAdd, Nat.reduceEqDiff, Nat.reduceMul, Nat.reduceLeDiff, Nat.reduceSub, Nat.reduceDiv, Int.reduceLE, Int.reduceLT, Int.reduceNeg, Int.reduceAdd, Int.reduceSub, Int.reduceMul, Int.reduceToNat, Int.reducePow, Int.reduceEq, ne_eq, reduceIte, repM, objsM, Obj.cells, iD, bsD, bD, reqM, byteD, pureEnd_of (fn := Try.f14) (rs := [.tmp 6]) (ts := [4]) rfl rfl]
      · have hy : decide (y.2 = 0) = false := by simpa using hq hne
        have hpos : 0 < more.length := List.length_pos_iff.2 hne
        have hn : decide ((more.length : Int) = 0) = false := by simp; omega
        simp only [↓ru, rv, rl, ry, tyf, iM, bM, bsM, cond_true, cond_false, Nat.reduceLT, Nat.reduceBEq, Nat.reduceAdd, Nat.reduceEqDiff, Nat.reduceMul, Nat.reduceLeDiff, Nat.reduceSub, Nat.reduceDiv, Int.reduceLE, Int.reduceLT, Int.reduceNeg, Int.reduceAdd, Int.reduceSub, Int.reduceMul, Int.reduceToNat, Int.reducePow, Int.reduceEq, ne_eq, reduceIte, repM, objsM, Obj.cells, iD, bsD, bD, reqM, byteD, hy, hn, pureEnd_of (fn := Try.f14) (rs := [.tmp 6]) (ts := [4]) rfl rfl]
end Go.R2

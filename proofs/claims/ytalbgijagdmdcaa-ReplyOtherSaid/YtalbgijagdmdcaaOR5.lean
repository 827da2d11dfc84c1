import Derived.Test.YtalbgijagdmdcaaOR4
set_option linter.all false
open Go.Proofs Go.Abs Go.FaR2
namespace Go.R2
-- rules: repM, objsM, Obj.cells, iD, bsD, bD, reqM, byteD
set_option maxHeartbeats 4000000
set_option maxRecDepth 10000

def excRep (f e : Int) : Rep := ⟨f, e, [], 0, 0, false, 0, []⟩
def dataRep (f : Int) (d : List UInt8) : Rep := ⟨f, 0, d, 0, 0, false, 0, []⟩
def decF : List UInt8 → Rep × Int
  | b0 :: b1 :: rest =>
    if 251 < rest.length then (rep0, 4) else
    if knownF ((b0.toNat : Int) - 128) then
      if rest.length ≠ 0 then (rep0, 4) else if (b1.toNat : Int) = 0 then (rep0, 3) else (excRep ((b0.toNat : Int) - 128) b1.toNat, 0)
    else if knownF b0.toNat then
      if (b0.toNat : Int) = 43 then devDec (b0 :: b1 :: rest) else
      if (b1.toNat : Int) ≠ rest.length then (rep0, 17) else
      if validF (dataRep b0.toNat rest) then (dataRep b0.toNat rest, 0) else (rep0, 5)
    else (rep0, 16)
  | _ => (rep0, 4)

theorem t50 (b : List UInt8) (hb : b.length ≤ 1000) : PFn Try.prog 50 [bsM b] (outM (decF b)) := by
  refine PFn.of (prs := []) Try.func50 rfl rfl mix (by kernel_rfl) rfl rfl ?_
  simp only [Try.ntmps50, argUpd]
  rcases b with _ | ⟨b0, _ | ⟨b1, rest⟩⟩
  iterate 2 (simp only [↓ru, rv, rl, ry, tyf, iM, bM, bsM, cond_true, cond_false, Nat.reduceLT, Nat.reduceBEq, Nat.reduceAdd, Nat.reduceEqDiff, Nat.reduceMul, Nat.reduceLeDiff, Nat.reduceSub, Nat.reduceDiv, Int.reduceLE, Int.reduceLT, Int.reduceNeg, Int.reduceAdd, Int.reduceSub, Int.reduceMul, Int.reduceToNat, Int.reducePow, Int.reduceEq, ne_eq, reduceIte, repM, objsM, Obj.cells, iD, bsD, bD, reqM, byteD, pureEnd_of (fn := Try.f50) (rs := [.cell 2 77, .tmp 3]) (ts := [77, 24]) rfl rfl]; (first | rfl | simp [decF, rep0]))
  have hb0 := b0.toNat_lt
  have hb1 := b1.toNat_lt
  simp only [List.length_cons] at hb
  simp only [↓ru, rv, rl, ry, tyf, iM, bM, bsM, cond_true, cond_false, Nat.reduceLT, Nat.reduceBEq, Nat.reduceAdd, Nat.reduceEqDiff, Nat.reduceMul, Nat.reduceLeDiff, Nat.reduceSub, Nat.reduceDiv, Int.reduceLE, Int.reduceLT, Int.reduceNeg, Int.reduceAdd, Int.reduceSub, Int.reduceMul, Int.reduceToNat, Int.reducePow, Int.reduceEq, ne_eq, reduceIte, repM, objsM, Obj.cells, iD, bsD, bD, reqM, byteD]
  refine gfork_split (fun h => ?_) (fun h => ?_)
  · have := of_decide_eq_true h
    omega
  simp only [↓ru, rv, rl, ry, tyf, iM, bM, bsM, cond_true, cond_false, Nat.reduceLT, Nat.reduceBEq, Nat.reduceAdd, Nat.reduceEqDiff, Nat.reduceMul, Nat.reduceLeDiff, Nat.reduceSub, Nat.reduceDiv, Int.reduceLE, Int.reduceLT, Int.reduceNeg, Int.reduceAdd, Int.reduceSub, Int.reduceMul, Int.reduceToNat, Int.reducePow, Int.reduceEq, ne_eq, reduceIte, repM, objsM, Obj.cells, iD, bsD, bD, reqM, byteD]
  refine fork_split (fun h1 => ?_) (fun h1 => ?_)
  · have h1' := of_decide_eq_true h1
    simp only [↓ru, rv, rl, ry, tyf, iM, bM, bsM, cond_true, cond_false, Nat.reduceLT, Nat.reduceBEq, Nat.reduceAdd, Nat.reduceEqDiff, Nat.reduceMul, Nat.reduceLeDiff, Nat.reduceSub, Nat.reduceDiv, Int.reduceLE, Int.reduceLT, Int.reduceNeg, Int.reduceAdd, Int.reduceSub, Int.reduceMul, Int.reduceToNat, Int.reducePow, Int.reduceEq, ne_eq, reduceIte, repM, objsM, Obj.cells, iD, bsD, bD, reqM, byteD, pureEnd_of (fn := Try.f50) (rs := [.cell 2 77, .tmp 3]) (ts := [77, 24]) rfl rfl]
    rw [decF, if_pos (by omega)]
    rfl
  have h1' := of_decide_eq_false h1
  have hF : decF (b0 :: b1 :: rest) = if knownF ((b0.toNat : Int) - 128) then
      if rest.length ≠ 0 then (rep0, 4) else if (b1.toNat : Int) = 0 then (rep0, 3) else (excRep ((b0.toNat : Int) - 128) b1.toNat, 0)
    else if knownF b0.toNat then
      if (b0.toNat : Int) = 43 then devDec (b0 :: b1 :: rest) else
      if (b1.toNat : Int) ≠ rest.length then (rep0, 17) else
      if validF (dataRep b0.toNat rest) then (dataRep b0.toNat rest, 0) else (rep0, 5)
    else (rep0, 16) := by rw [decF, if_neg (by omega)]
  rw [hF]
  clear hF
  simp only [↓ru, rv, rl, ry, tyf, iM, bM, bsM, cond_true, cond_false, Nat.reduceLT, Nat.reduceBEq, Nat.reduceAdd, Nat.reduceEqDiff, Nat.reduceMul, Nat.reduceLeDiff, Nat.reduceSub, Nat.reduceDiv, Int.reduceLE, Int.reduceLT, Int.reduceNeg, Int.reduceAdd, Int.reduceSub, Int.reduceMul, Int.reduceToNat, Int.reducePow, Int.reduceEq, ne_eq, reduceIte, repM, objsM, Obj.cells, iD, bsD, bD, reqM, byteD]
  simp (disch := omega) only [wrap_i64, wrap_u8, wrap_u16, wrap_u64]
  refine acall1_pure (t87 _) rfl rfl ?_
  cases hk : knownF ((b0.toNat : Int) - 128) with
  | true =>
    simp only [↓ru, rv, rl, ry, tyf, iM, bM, bsM, cond_true, cond_false, Nat.reduceLT, Nat.reduceBEq, Nat.reduceAdd, Nat.reduceEqDiff, Nat.reduceMul, Nat.reduceLeDiff, Nat.reduceSub, Nat.reduceDiv, Int.reduceLE, Int.reduceLT, Int.reduceNeg, Int.reduceAdd, Int.reduceSub, Int.reduceMul, Int.reduceToNat, Int.reducePow, Int.reduceEq, ne_eq, reduceIte, repM, objsM, Obj.cells, iD, bsD, bD, reqM, byteD]
    refine fork_split (fun h2 => ?_) (fun h2 => ?_)
    · simp only [↓ru, rv, rl, ry, tyf, iM, bM, bsM, cond_true, cond_false, Nat.reduceLT, Nat.reduceBEq, Nat.reduceAdd, Nat.reduceEqDiff, Nat.reduceMul, Nat.reduceLeDiff, Nat.reduceSub, Nat.reduceDiv, Int.reduceLE, Int.reduceLT, Int.reduceNeg, Int.reduceAdd, Int.reduceSub, Int.reduceMul, Int.reduceToNat, Int.reducePow, Int.reduceEq, ne_eq, reduceIte, repM, objsM, Obj.cells, iD, bsD, bD, reqM, byteD, pureEnd_of (fn := Try.f50) (rs := [.cell 2 77, .tmp 3]) (ts := [77, 24]) rfl rfl]
      have h2' : ¬ ((rest.length + 1 + 1 : Nat) : Int) = 2 := by simpa using h2
      rw [if_pos (by omega)]
      rfl
    · have h2' : ((rest.length + 1 + 1 : Nat) : Int) = 2 := by simpa using h2
      simp only [↓ru, rv, rl, ry, tyf, iM, bM, bsM, cond_true, cond_false, Nat.reduceLT, Nat.reduceBEq, Nat.reduceAdd, Nat.reduceEqDiff, Nat.reduceMul, Nat.reduceLeDiff, Nat.reduceSub, Nat.reduceDiv, Int.reduceLE, Int.reduceLT, Int.reduceNeg, Int.reduceAdd, Int.reduceSub, Int.reduceMul, Int.reduceToNat, Int.reducePow, Int.reduceEq, ne_eq, reduceIte, repM, objsM, Obj.cells, iD, bsD, bD, reqM, byteD]
      refine fork_split (fun h3 => ?_) (fun h3 => ?_)
      · simp only [↓ru, rv, rl, ry, tyf, iM, bM, bsM, cond_true, cond_false, Nat.reduceLT, Nat.reduceBEq, Nat.reduceAdd, Nat.reduceEqDiff, Nat.reduceMul, Nat.reduceLeDiff, Nat.reduceSub, Nat.reduceDiv, Int.reduceLE, Int.reduceLT, Int.reduceNeg, Int.reduceAdd, Int.reduceSub, Int.reduceMul, Int.reduceToNat, Int.reducePow, Int.reduceEq, ne_eq, reduceIte, repM, objsM, Obj.cells, iD, bsD, bD, reqM, byteD, pureEnd_of (fn := Try.f50) (rs := [.cell 2 77, .tmp 3]) (ts := [77, 24]) rfl rfl]
        rw [if_neg (by omega), if_pos (of_decide_eq_true h3)]
        rfl
      · simp only [↓ru, rv, rl, ry, tyf, iM, bM, bsM, cond_true, cond_false, Nat.reduceLT, Nat.reduceBEq, Nat.reduceAdd, Nat.reduceEqDiff, Nat.reduceMul, Nat.reduceLeDiff, Nat.reduceSub, Nat.reduceDiv, Int.reduceLE, Int.reduceLT, Int.reduceNeg, Int.reduceAdd, Int.reduceSub, Int.reduceMul, Int.reduceToNat, Int.reducePow, Int.reduceEq, ne_eq, reduceIte, repM, objsM, Obj.cells, iD, bsD, bD, reqM, byteD, pureEnd_of (fn := Try.f50) (rs := [.cell 2 77, .tmp 3]) (ts := [77, 24]) rfl rfl]
        simp (disch := omega) only [wrap_i64, wrap_u8, wrap_u16, wrap_u64]
        rw [if_neg (by omega), if_neg (of_decide_eq_false h3)]
        rfl
  | false =>
    simp only [↓ru, rv, rl, ry, tyf, iM, bM, bsM, cond_true, cond_false, Nat.reduceLT, Nat.reduceBEq, Nat.reduceAdd, Nat.reduceEqDiff, Nat.reduceMul, Nat.reduceLeDiff, Nat.reduceSub, Nat.reduceDiv, Int.reduceLE, Int.reduceLT, Int.reduceNeg, Int.reduceAdd, Int.reduceSub, Int.reduceMul, Int.reduceToNat, Int.reducePow, Int.reduceEq, ne_eq, reduceIte, repM, objsM, Obj.cells, iD, bsD, bD, reqM, byteD]
    refine acall1_pure (t87 _) rfl rfl ?_
    cases hk2 : knownF (b0.toNat : Int) with
    | false =>
      simp only [↓ru, rv, rl, ry, tyf, iM, bM, bsM, cond_true, cond_false, Nat.reduceLT, Nat.reduceBEq, Nat.reduceAdd, Nat.reduceEqDiff, Nat.reduceMul, Nat.reduceLeDiff, Nat.reduceSub, Nat.reduceDiv, Int.reduceLE, Int.reduceLT, Int.reduceNeg, Int.reduceAdd, Int.reduceSub, Int.reduceMul, Int.reduceToNat, Int.reducePow, Int.reduceEq, ne_eq, reduceIte, repM, objsM, Obj.cells, iD, bsD, bD, reqM, byteD, pureEnd_of (fn := Try.f50) (rs := [.cell 2 77, .tmp 3]) (ts := [77, 24]) rfl rfl]
      rfl
    | true =>
      by_cases h43 : (b0.toNat : Int) = 43
      · have e43 : decide ((b0.toNat : Int) = 43) = true := by simpa using h43
        simp only [↓ru, rv, rl, ry, tyf, iM, bM, bsM, cond_true, cond_false, Nat.reduceLT, Nat.reduceBEq, Nat.reduceAdd, Nat.reduceEqDiff, Nat.reduceMul, Nat.reduceLeDiff, Nat.reduceSub, Nat.reduceDiv, Int.reduceLE, Int.reduceLT, Int.reduceNeg, Int.reduceAdd, Int.reduceSub, Int.reduceMul, Int.reduceToNat, Int.reducePow, Int.reduceEq, ne_eq, reduceIte, repM, objsM, Obj.cells, iD, bsD, bD, reqM, byteD, e43]
        refine acall1_pure (t92 (b0 :: b1 :: rest) (by simp only [List.length_cons]; omega)) rfl rfl ?_
        simp only [↓ru, rv, rl, ry, tyf, iM, bM, bsM, cond_true, cond_false, Nat.reduceLT, Nat.reduceBEq, Nat.reduceAdd, Nat.reduceEqDiff, Nat.reduceMul, Nat.reduceLeDiff, Nat.reduceSub, Nat.reduceDiv, Int.reduceLE, Int.reduceLT, Int.reduceNeg, Int.reduceAdd, Int.reduceSub, Int.reduceMul, Int.reduceToNat, Int.reducePow, Int.reduceEq, ne_eq, reduceIte, repM, objsM, Obj.cells, iD, bsD, bD, reqM, byteD, pureEnd_of (fn := Try.f50) (rs := [.cell 2 77, .tmp 3]) (ts := [77, 24]) rfl rfl]
        rw [if_pos h43]
        rfl
      · have e43 : decide ((b0.toNat : Int) = 43) = false := by simpa using h43
        rw [if_neg h43]
        simp only [↓ru, rv, rl, ry, tyf, iM, bM, bsM, cond_true, cond_false, Nat.reduceLT, Nat.reduceBEq, Nat.reduceAdd, Nat.reduceEqDiff, Nat.reduceMul, Nat.reduceLeDiff, Nat.reduceSub, Nat.reduceDiv, Int.reduceLE, Int.reduceLT, Int.reduceNeg, Int.reduceAdd, Int.reduceSub, Int.reduceMul, Int.reduceToNat, Int.reducePow, Int.reduceEq, ne_eq, reduceIte, repM, objsM, Obj.cells, iD, bsD, bD, reqM, byteD, e43]
        simp (disch := omega) only [wrap_i64, wrap_u8, wrap_u16, wrap_u64]
        by_cases hc : (b1.toNat : Int) = rest.length
        · have ec : decide ((b1.toNat : Int) = ((rest.length + 1 + 1 : Nat) : Int) - 2) = true := decide_eq_true (by omega)
          simp only [↓ru, rv, rl, ry, tyf, iM, bM, bsM, cond_true, cond_false, Nat.reduceLT, Nat.reduceBEq, Nat.reduceAdd, Nat.reduceEqDiff, Nat.reduceMul, Nat.reduceLeDiff, Nat.reduceSub, Nat.reduceDiv, Int.reduceLE, Int.reduceLT, Int.reduceNeg, Int.reduceAdd, Int.reduceSub, Int.reduceMul, Int.reduceToNat, Int.reducePow, Int.reduceEq, ne_eq, reduceIte, repM, objsM, Obj.cells, iD, bsD, bD, reqM, byteD, ec]
          refine grd_intro (by omega) ?_
          rw [List.take_of_length_le (by omega)]
          refine acall1_pure (t71 rest (by omega)) rfl rfl ?_
          simp only [↓ru, rv, rl, ry, tyf, iM, bM, bsM, cond_true, cond_false, Nat.reduceLT, Nat.reduceBEq, Nat.reduceAdd, Nat.reduceEqDiff, Nat.reduceMul, Nat.reduceLeDiff, Nat.reduceSub, Nat.reduceDiv, Int.reduceLE, Int.reduceLT, Int.reduceNeg, Int.reduceAdd, Int.reduceSub, Int.reduceMul, Int.reduceToNat, Int.reducePow, Int.reduceEq, ne_eq, reduceIte, repM, objsM, Obj.cells, iD, bsD, bD, reqM, byteD]
          refine acall1_pure (t46 (dataRep b0.toNat rest) ⟨by simp [dataRep], by simp [dataRep]⟩) rfl rfl ?_
          cases hv : validF (dataRep b0.toNat rest) with
          | true =>
            simp only [↓ru, rv, rl, ry, tyf, iM, bM, bsM, cond_true, cond_false, Nat.reduceLT, Nat.reduceBEq, Nat.reduceAdd, Nat.reduceEqDiff, Nat.reduceMul, Nat.reduceLeDiff, Nat.reduceSub, Nat.reduceDiv, Int.reduceLE, Int.reduceLT, Int.reduceNeg, Int.reduceAdd, Int.reduceSub, Int.reduceMul, Int.reduceToNat, Int.reducePow, Int.reduceEq, ne_eq, reduceIte, repM, objsM, Obj.cells, iD, bsD, bD, reqM, byteD, hv, pureEnd_of (fn := Try.f50) (rs := [.cell 2 77, .tmp 3]) (ts := [77, 24]) rfl rfl]
            simp only [Bool.false_eq_true, if_false, if_true, ne_eq, hc, not_true_eq_false, not_false_eq_true]
            rfl
          | false =>
            simp only [↓ru, rv, rl, ry, tyf, iM, bM, bsM, cond_true, cond_false, Nat.reduceLT, Nat.reduceBEq, Nat.reduceAdd, Nat.reduceEqDiff, Nat.reduceMul, Nat.reduceLeDiff, Nat.reduceSub, Nat.reduceDiv, Int.reduceLE, Int.reduceLT, Int.reduceNeg, Int.reduceAdd, Int.reduceSub, Int.reduceMul, Int.reduceToNat, Int.reducePow, Int.reduceEq, ne_eq, reduceIte, repM, objsM, Obj.cells, iD, bsD, bD, reqM, byteD, hv, pureEnd_of (fn := Try.f50) (rs := [.cell 2 77, .tmp 3]) (ts := [77, 24]) rfl rfl]
            simp only [Bool.false_eq_true, if_false, if_true, ne_eq, hc, not_true_eq_false, not_false_eq_true]
            rfl
        · have ec : decide ((b1.toNat : Int) = ((rest.length + 1 + 1 : Nat) : Int) - 2) = false := decide_eq_false (by omega)
          simp only [↓ru, rv, rl, ry, tyf, iM, bM, bsM, cond_true, cond_false, Nat.reduceLT, Nat.reduceBEq, Nat.reduceAdd, Nat.reduceEqDiff, Nat.reduceMul, Nat.reduceLeDiff, Nat.reduceSub, Nat.reduceDiv, Int.reduceLE, Int.reduceLT, Int.reduceNeg, Int.reduceAdd, Int.reduceSub, Int.reduceMul, Int.reduceToNat, Int.reducePow, Int.reduceEq, ne_eq, reduceIte, repM, objsM, Obj.cells, iD, bsD, bD, reqM, byteD, ec, pureEnd_of (fn := Try.f50) (rs := [.cell 2 77, .tmp 3]) (ts := [77, 24]) rfl rfl]
          simp only [Bool.false_eq_true, if_false, if_true, ne_eq, hc, not_true_eq_false, not_false_eq_true]
          rfl
theorem known_hi {x : Int} (h : 128 ≤ x) : knownF x = false := by unfold knownF; exact decide_eq_false (by omega)
theorem known_lo {x : Int} (h : x < 128) : knownF (x - 128) = false := by unfold knownF; exact decide_eq_false (by omega)
theorem known_cases {x : Int} (h : knownF x = true) : (1 ≤ x ∧ x ≤ 4) ∨ x = 17 ∨ x = 43 := of_decide_eq_true h

theorem decObjs_len : ∀ (n : Nat) (b : List UInt8) (acc l : List Obj) (r : List UInt8), decObjs n b acc = some (l, r) → l.length = acc.length + n
  | 0, b, acc, l, r, h => by
    simp only [decObjs, Option.some.injEq, Prod.mk.injEq] at h
    rw [h.1]; rfl
  | n + 1, [], acc, l, r, h => by simp [decObjs] at h
  | n + 1, [_], acc, l, r, h => by simp [decObjs] at h
  | n + 1, a :: c :: b, acc, l, r, h => by
    rw [decObjs] at h
    split at h
    · cases h
    · have := decObjs_len n _ _ l r h
      simp only [List.length_append, List.length_cons, List.length_nil] at this
      omega

theorem t52 (b : List UInt8) (hb : b.length ≤ 1000) : PFn Try.prog 52 [bsM b] (outM (decF b)) := by
  refine PFn.of (prs := [(19, [(1, 3), (1, 4), (1, 5)]), (22, [(3, 5), (3, 6), (1, 7), (2, 7), (3, 7), (3, 9), (7, 9), (3, 10), (7, 10), (3, 11), (7, 11), (3, 13), (7, 13), (3, 14), (7, 14), (1, 15), (2, 15), (3, 15), (5, 15), (6, 15), (7, 15), (9, 15), (10, 15), (11, 15), (7, 17), (15, 17), (5, 18), (6, 18), (7, 18), (9, 18), (10, 18), (11, 18), (13, 18), (14, 18), (15, 18), (15, 19), (9, 20), (10, 20), (11, 20), (13, 20), (14, 20), (15, 20), (15, 21), (13, 22), (14, 22), (15, 22)])]) Try.func52 rfl rfl mix (by kernel_rfl) rfl rfl ?_
  simp only [Try.ntmps52, argUpd]
  rcases b with _ | ⟨b0, _ | ⟨b1, rest⟩⟩
  iterate 2 (simp only [↓ru, rv, rl, ry, tyf, iM, bM, bsM, cond_true, cond_false, Nat.reduceLT, Nat.reduceBEq, Nat.reduceAdd, Nat.reduceEqDiff, Nat.reduceMul, Nat.reduceLeDiff, Nat.reduceSub, Nat.reduceDiv, Int.reduceLE, Int.reduceLT, Int.reduceNeg, Int.reduceAdd, Int.reduceSub, Int.reduceMul, Int.reduceToNat, Int.reducePow, Int.reduceEq, ne_eq, reduceIte, repM, objsM, Obj.cells, iD, bsD, bD, reqM, byteD, pureEnd_of (fn := Try.f52) (rs := [.cell 2 77, .tmp 3]) (ts := [77, 24]) rfl rfl]; (first | rfl | simp [decF, rep0]))
  have hb0 := b0.toNat_lt
  have hb1 := b1.toNat_lt
  simp only [List.length_cons] at hb
  simp only [↓ru, rv, rl, ry, tyf, iM, bM, bsM, cond_true, cond_false, Nat.reduceLT, Nat.reduceBEq, Nat.reduceAdd, Nat.reduceEqDiff, Nat.reduceMul, Nat.reduceLeDiff, Nat.reduceSub, Nat.reduceDiv, Int.reduceLE, Int.reduceLT, Int.reduceNeg, Int.reduceAdd, Int.reduceSub, Int.reduceMul, Int.reduceToNat, Int.reducePow, Int.reduceEq, ne_eq, reduceIte, repM, objsM, Obj.cells, iD, bsD, bD, reqM, byteD]
  refine gfork_split (fun h => ?_) (fun h => ?_)
  · have := of_decide_eq_true h
    omega
  simp only [↓ru, rv, rl, ry, tyf, iM, bM, bsM, cond_true, cond_false, Nat.reduceLT, Nat.reduceBEq, Nat.reduceAdd, Nat.reduceEqDiff, Nat.reduceMul, Nat.reduceLeDiff, Nat.reduceSub, Nat.reduceDiv, Int.reduceLE, Int.reduceLT, Int.reduceNeg, Int.reduceAdd, Int.reduceSub, Int.reduceMul, Int.reduceToNat, Int.reducePow, Int.reduceEq, ne_eq, reduceIte, repM, objsM, Obj.cells, iD, bsD, bD, reqM, byteD]
  refine fork_split (fun h1 => ?_) (fun h1 => ?_)
  · have h1' := of_decide_eq_true h1
    simp only [↓ru, rv, rl, ry, tyf, iM, bM, bsM, cond_true, cond_false, Nat.reduceLT, Nat.reduceBEq, Nat.reduceAdd, Nat.reduceEqDiff, Nat.reduceMul, Nat.reduceLeDiff, Nat.reduceSub, Nat.reduceDiv, Int.reduceLE, Int.reduceLT, Int.reduceNeg, Int.reduceAdd, Int.reduceSub, Int.reduceMul, Int.reduceToNat, Int.reducePow, Int.reduceEq, ne_eq, reduceIte, repM, objsM, Obj.cells, iD, bsD, bD, reqM, byteD, pureEnd_of (fn := Try.f52) (rs := [.cell 2 77, .tmp 3]) (ts := [77, 24]) rfl rfl]
    rw [decF, if_pos (by omega)]
    rfl
  have h1' := of_decide_eq_false h1
  have hF : decF (b0 :: b1 :: rest) = if knownF ((b0.toNat : Int) - 128) then
      if rest.length ≠ 0 then (rep0, 4) else if (b1.toNat : Int) = 0 then (rep0, 3) else (excRep ((b0.toNat : Int) - 128) b1.toNat, 0)
    else if knownF b0.toNat then
      if (b0.toNat : Int) = 43 then devDec (b0 :: b1 :: rest) else
      if (b1.toNat : Int) ≠ rest.length then (rep0, 17) else
      if validF (dataRep b0.toNat rest) then (dataRep b0.toNat rest, 0) else (rep0, 5)
    else (rep0, 16) := by rw [decF, if_neg (by omega)]
  rw [hF]
  clear hF
  have htm : Int.tmod (b0.toNat : Int) 128 = (b0.toNat : Int) % 128 := Int.tmod_eq_emod_of_nonneg (by omega)
  simp only [↓ru, rv, rl, ry, tyf, iM, bM, bsM, cond_true, cond_false, Nat.reduceLT, Nat.reduceBEq, Nat.reduceAdd, Nat.reduceEqDiff, Nat.reduceMul, Nat.reduceLeDiff, Nat.reduceSub, Nat.reduceDiv, Int.reduceLE, Int.reduceLT, Int.reduceNeg, Int.reduceAdd, Int.reduceSub, Int.reduceMul, Int.reduceToNat, Int.reducePow, Int.reduceEq, ne_eq, reduceIte, repM, objsM, Obj.cells, iD, bsD, bD, reqM, byteD, htm]
  refine acall1_pure (t90 _) rfl rfl ?_
  by_cases hhi : 128 ≤ (b0.toNat : Int)
  · rw [known_hi hhi, show (b0.toNat : Int) % 128 = (b0.toNat : Int) - 128 by omega]
    cases hk : knownF ((b0.toNat : Int) - 128) with
    | false =>
      simp only [↓ru, rv, rl, ry, tyf, iM, bM, bsM, cond_true, cond_false, Nat.reduceLT, Nat.reduceBEq, Nat.reduceAdd, Nat.reduceEqDiff, Nat.reduceMul, Nat.reduceLeDiff, Nat.reduceSub, Nat.reduceDiv, Int.reduceLE, Int.reduceLT, Int.reduceNeg, Int.reduceAdd, Int.reduceSub, Int.reduceMul, Int.reduceToNat, Int.reducePow, Int.reduceEq, ne_eq, reduceIte, repM, objsM, Obj.cells, iD, bsD, bD, reqM, byteD, hk, pureEnd_of (fn := Try.f52) (rs := [.cell 2 77, .tmp 3]) (ts := [77, 24]) rfl rfl]
      rfl
    | true =>
      simp only [↓ru, rv, rl, ry, tyf, iM, bM, bsM, cond_true, cond_false, Nat.reduceLT, Nat.reduceBEq, Nat.reduceAdd, Nat.reduceEqDiff, Nat.reduceMul, Nat.reduceLeDiff, Nat.reduceSub, Nat.reduceDiv, Int.reduceLE, Int.reduceLT, Int.reduceNeg, Int.reduceAdd, Int.reduceSub, Int.reduceMul, Int.reduceToNat, Int.reducePow, Int.reduceEq, ne_eq, reduceIte, repM, objsM, Obj.cells, iD, bsD, bD, reqM, byteD, hk, hhi]
      refine fork_split (fun h2 => ?_) (fun h2 => ?_)
      · simp only [↓ru, rv, rl, ry, tyf, iM, bM, bsM, cond_true, cond_false, Nat.reduceLT, Nat.reduceBEq, Nat.reduceAdd, Nat.reduceEqDiff, Nat.reduceMul, Nat.reduceLeDiff, Nat.reduceSub, Nat.reduceDiv, Int.reduceLE, Int.reduceLT, Int.reduceNeg, Int.reduceAdd, Int.reduceSub, Int.reduceMul, Int.reduceToNat, Int.reducePow, Int.reduceEq, ne_eq, reduceIte, repM, objsM, Obj.cells, iD, bsD, bD, reqM, byteD, pureEnd_of (fn := Try.f52) (rs := [.cell 2 77, .tmp 3]) (ts := [77, 24]) rfl rfl]
        have h2' : ¬ ((rest.length + 1 + 1 : Nat) : Int) = 2 := by simpa using h2
        rw [if_pos (by omega)]
        rfl
      · have h2' : ((rest.length + 1 + 1 : Nat) : Int) = 2 := by simpa using h2
        simp only [↓ru, rv, rl, ry, tyf, iM, bM, bsM, cond_true, cond_false, Nat.reduceLT, Nat.reduceBEq, Nat.reduceAdd, Nat.reduceEqDiff, Nat.reduceMul, Nat.reduceLeDiff, Nat.reduceSub, Nat.reduceDiv, Int.reduceLE, Int.reduceLT, Int.reduceNeg, Int.reduceAdd, Int.reduceSub, Int.reduceMul, Int.reduceToNat, Int.reducePow, Int.reduceEq, ne_eq, reduceIte, repM, objsM, Obj.cells, iD, bsD, bD, reqM, byteD]
        refine fork_split (fun h3 => ?_) (fun h3 => ?_)
        · simp only [↓ru, rv, rl, ry, tyf, iM, bM, bsM, cond_true, cond_false, Nat.reduceLT, Nat.reduceBEq, Nat.reduceAdd, Nat.reduceEqDiff, Nat.reduceMul, Nat.reduceLeDiff, Nat.reduceSub, Nat.reduceDiv, Int.reduceLE, Int.reduceLT, Int.reduceNeg, Int.reduceAdd, Int.reduceSub, Int.reduceMul, Int.reduceToNat, Int.reducePow, Int.reduceEq, ne_eq, reduceIte, repM, objsM, Obj.cells, iD, bsD, bD, reqM, byteD, pureEnd_of (fn := Try.f52) (rs := [.cell 2 77, .tmp 3]) (ts := [77, 24]) rfl rfl]
          rw [if_neg (by omega), if_pos (of_decide_eq_true h3)]
          rfl
        · simp only [↓ru, rv, rl, ry, tyf, iM, bM, bsM, cond_true, cond_false, Nat.reduceLT, Nat.reduceBEq, Nat.reduceAdd, Nat.reduceEqDiff, Nat.reduceMul, Nat.reduceLeDiff, Nat.reduceSub, Nat.reduceDiv, Int.reduceLE, Int.reduceLT, Int.reduceNeg, Int.reduceAdd, Int.reduceSub, Int.reduceMul, Int.reduceToNat, Int.reducePow, Int.reduceEq, ne_eq, reduceIte, repM, objsM, Obj.cells, iD, bsD, bD, reqM, byteD, pureEnd_of (fn := Try.f52) (rs := [.cell 2 77, .tmp 3]) (ts := [77, 24]) rfl rfl]
          rw [if_neg (by omega), if_neg (of_decide_eq_false h3)]
          rfl
  · have hlo : (b0.toNat : Int) < 128 := by omega
    rw [known_lo hlo, show (b0.toNat : Int) % 128 = (b0.toNat : Int) by omega]
    cases hk : knownF (b0.toNat : Int) with
    | false =>
      simp only [↓ru, rv, rl, ry, tyf, iM, bM, bsM, cond_true, cond_false, Nat.reduceLT, Nat.reduceBEq, Nat.reduceAdd, Nat.reduceEqDiff, Nat.reduceMul, Nat.reduceLeDiff, Nat.reduceSub, Nat.reduceDiv, Int.reduceLE, Int.reduceLT, Int.reduceNeg, Int.reduceAdd, Int.reduceSub, Int.reduceMul, Int.reduceToNat, Int.reducePow, Int.reduceEq, ne_eq, reduceIte, repM, objsM, Obj.cells, iD, bsD, bD, reqM, byteD, hk, pureEnd_of (fn := Try.f52) (rs := [.cell 2 77, .tmp 3]) (ts := [77, 24]) rfl rfl]
      rfl
    | true =>
      by_cases h43 : (b0.toNat : Int) = 43
      · have e43 : decide ((b0.toNat : Int) = 43) = true := by simpa using h43
        simp only [↓ru, rv, rl, ry, tyf, iM, bM, bsM, cond_true, cond_false, Nat.reduceLT, Nat.reduceBEq, Nat.reduceAdd, Nat.reduceEqDiff, Nat.reduceMul, Nat.reduceLeDiff, Nat.reduceSub, Nat.reduceDiv, Int.reduceLE, Int.reduceLT, Int.reduceNeg, Int.reduceAdd, Int.reduceSub, Int.reduceMul, Int.reduceToNat, Int.reducePow, Int.reduceEq, ne_eq, reduceIte, repM, objsM, Obj.cells, iD, bsD, bD, reqM, byteD, hk, hhi, e43]
        simp only [Bool.false_eq_true, if_false, if_true, h43]
        rcases rest with _ | ⟨b2, _ | ⟨b3, _ | ⟨b4, _ | ⟨b5, _ | ⟨b6, rest⟩⟩⟩⟩⟩
        iterate 5 (simp only [↓ru, rv, rl, ry, tyf, iM, bM, bsM, cond_true, cond_false, Nat.reduceLT, Nat.reduceBEq, Nat.reduceAdd, Nat.reduceEqDiff, Nat.reduceMul, Nat.reduceLeDiff, Nat.reduceSub, Nat.reduceDiv, Int.reduceLE, Int.reduceLT, Int.reduceNeg, Int.reduceAdd, Int.reduceSub, Int.reduceMul, Int.reduceToNat, Int.reducePow, Int.reduceEq, ne_eq, reduceIte, repM, objsM, Obj.cells, iD, bsD, bD, reqM, byteD, pureEnd_of (fn := Try.f52) (rs := [.cell 2 77, .tmp 3]) (ts := [77, 24]) rfl rfl]; (first | rfl | simp [devDec, rep0]))
        simp only [List.length_cons] at hb
        simp only [↓ru, rv, rl, ry, tyf, iM, bM, bsM, cond_true, cond_false, Nat.reduceLT, Nat.reduceBEq, Nat.reduceAdd, Nat.reduceEqDiff, Nat.reduceMul, Nat.reduceLeDiff, Nat.reduceSub, Nat.reduceDiv, Int.reduceLE, Int.reduceLT, Int.reduceNeg, Int.reduceAdd, Int.reduceSub, Int.reduceMul, Int.reduceToNat, Int.reducePow, Int.reduceEq, ne_eq, reduceIte, repM, objsM, Obj.cells, iD, bsD, bD, reqM, byteD]
        refine fork_split (fun h2 => ?_) (fun h2 => ?_)
        · have := of_decide_eq_true h2
          omega
        simp only [↓ru, rv, rl, ry, tyf, iM, bM, bsM, cond_true, cond_false, Nat.reduceLT, Nat.reduceBEq, Nat.reduceAdd, Nat.reduceEqDiff, Nat.reduceMul, Nat.reduceLeDiff, Nat.reduceSub, Nat.reduceDiv, Int.reduceLE, Int.reduceLT, Int.reduceNeg, Int.reduceAdd, Int.reduceSub, Int.reduceMul, Int.reduceToNat, Int.reducePow, Int.reduceEq, ne_eq, reduceIte, repM, objsM, Obj.cells, iD, bsD, bD, reqM, byteD]
        refine fork_split (fun h2 => ?_) (fun h2 => ?_)
        · simp only [↓ru, rv, rl, ry, tyf, iM, bM, bsM, cond_true, cond_false, Nat.reduceLT, Nat.reduceBEq, Nat.reduceAdd, Nat.reduceEqDiff, Nat.reduceMul, Nat.reduceLeDiff, Nat.reduceSub, Nat.reduceDiv, Int.reduceLE, Int.reduceLT, Int.reduceNeg, Int.reduceAdd, Int.reduceSub, Int.reduceMul, Int.reduceToNat, Int.reducePow, Int.reduceEq, ne_eq, reduceIte, repM, objsM, Obj.cells, iD, bsD, bD, reqM, byteD, pureEnd_of (fn := Try.f52) (rs := [.cell 2 77, .tmp 3]) (ts := [77, 24]) rfl rfl]
          have h2' : ¬ ((b1.toNat : Int) = 14) := by simpa using h2
          simp only [devDec, ne_eq, h2', not_false_eq_true, if_true]
          rfl
        have h2' : ((b1.toNat : Int) = 14) := by simpa using h2
        simp only [↓ru, rv, rl, ry, tyf, iM, bM, bsM, cond_true, cond_false, Nat.reduceLT, Nat.reduceBEq, Nat.reduceAdd, Nat.reduceEqDiff, Nat.reduceMul, Nat.reduceLeDiff, Nat.reduceSub, Nat.reduceDiv, Int.reduceLE, Int.reduceLT, Int.reduceNeg, Int.reduceAdd, Int.reduceSub, Int.reduceMul, Int.reduceToNat, Int.reducePow, Int.reduceEq, ne_eq, reduceIte, repM, objsM, Obj.cells, iD, bsD, bD, reqM, byteD]
        refine grd_intro (by omega) ?_
        rw [List.take_of_length_le (by omega)]
        have hb6 := b6.toNat_lt
        have h93 := t93 rest b6.toNat (by omega) (by omega)
        have hdev : devDec (b0 :: b1 :: b2 :: b3 :: b4 :: b5 :: b6 :: rest) = match decObjs b6.toNat rest [] with
          | none => (rep0, 17)
          | some (l, r) => if 0 < r.length then (rep0, 17) else
            if validF (devRep b2 b3 b4 b5 l) = false ∨ ((b4.toNat : Int) ≠ 0 ∧ (b4.toNat : Int) ≠ 255) then (rep0, 5) else (devRep b2 b3 b4 b5 l, 0) := by
          rw [devDec, if_neg (by simpa using h2')]
          rfl
        rw [hdev]
        clear hdev
        cases hd : decObjs b6.toNat rest [] with
        | none =>
          rw [objsF, hd] at h93
          refine dcall1_pure h93 rfl rfl ?_
          simp only [↓ru, rv, rl, ry, tyf, iM, bM, bsM, cond_true, cond_false, Nat.reduceLT, Nat.reduceBEq, Nat.reduceAdd, Nat.reduceEqDiff, Nat.reduceMul, Nat.reduceLeDiff, Nat.reduceSub, Nat.reduceDiv, Int.reduceLE, Int.reduceLT, Int.reduceNeg, Int.reduceAdd, Int.reduceSub, Int.reduceMul, Int.reduceToNat, Int.reducePow, Int.reduceEq, ne_eq, reduceIte, repM, objsM, Obj.cells, iD, bsD, bD, reqM, byteD, pureEnd_of (fn := Try.f52) (rs := [.cell 2 77, .tmp 3]) (ts := [77, 24]) rfl rfl]
          rfl
        | some x =>
          obtain ⟨l, r⟩ := x
          rw [objsF, hd] at h93
          refine dcall1_pure h93 rfl rfl ?_
          simp only [↓ru, rv, rl, ry, tyf, iM, bM, bsM, cond_true, cond_false, Nat.reduceLT, Nat.reduceBEq, Nat.reduceAdd, Nat.reduceEqDiff, Nat.reduceMul, Nat.reduceLeDiff, Nat.reduceSub, Nat.reduceDiv, Int.reduceLE, Int.reduceLT, Int.reduceNeg, Int.reduceAdd, Int.reduceSub, Int.reduceMul, Int.reduceToNat, Int.reducePow, Int.reduceEq, ne_eq, reduceIte, repM, objsM, Obj.cells, iD, bsD, bD, reqM, byteD]
          refine fork_split (fun h4 => ?_) (fun h4 => ?_)
          · simp only [↓ru, rv, rl, ry, tyf, iM, bM, bsM, cond_true, cond_false, Nat.reduceLT, Nat.reduceBEq, Nat.reduceAdd, Nat.reduceEqDiff, Nat.reduceMul, Nat.reduceLeDiff, Nat.reduceSub, Nat.reduceDiv, Int.reduceLE, Int.reduceLT, Int.reduceNeg, Int.reduceAdd, Int.reduceSub, Int.reduceMul, Int.reduceToNat, Int.reducePow, Int.reduceEq, ne_eq, reduceIte, repM, objsM, Obj.cells, iD, bsD, bD, reqM, byteD, pureEnd_of (fn := Try.f52) (rs := [.cell 2 77, .tmp 3]) (ts := [77, 24]) rfl rfl]
            have h4' : ¬ ((r.length : Int) = 0) := by simpa using h4
            (try simp only)
            rw [if_pos (by omega)]
            rfl
          have h4' : (r.length : Int) = 0 := by simpa using h4
          (try simp only)
          rw [if_neg (by omega)]
          have hll : l.length ≤ 255 := by
            have := decObjs_len _ _ _ _ _ hd
            simp only [List.length_nil] at this
            omega
          have hok : (devRep b2 b3 b4 b5 l).OK := ⟨by show l.length ≤ _; omega, by
            have := b3.toNat_lt
            show -9223372036854775808 ≤ (b3.toNat : Int) ∧ (b3.toNat : Int) ≤ 9223372036854775807
            omega⟩
          have h47 := t47 (devRep b2 b3 b4 b5 l) hok
          by_cases e0 : (b4.toNat : Int) = 0
          · have e1 : decide ((b4.toNat : Int) = 0) = true := by simpa using e0
            simp only [↓ru, rv, rl, ry, tyf, iM, bM, bsM, cond_true, cond_false, Nat.reduceLT, Nat.reduceBEq, Nat.reduceAdd, Nat.reduceEqDiff, Nat.reduceMul, Nat.reduceLeDiff, Nat.reduceSub, Nat.reduceDiv, Int.reduceLE, Int.reduceLT, Int.reduceNeg, Int.reduceAdd, Int.reduceSub, Int.reduceMul, Int.reduceToNat, Int.reducePow, Int.reduceEq, ne_eq, reduceIte, repM, objsM, Obj.cells, iD, bsD, bD, reqM, byteD, e1]
            refine acall1_pure h47 rfl rfl ?_
            cases hv : validF (devRep b2 b3 b4 b5 l) with
            | false =>
              simp only [↓ru, rv, rl, ry, tyf, iM, bM, bsM, cond_true, cond_false, Nat.reduceLT, Nat.reduceBEq, Nat.reduceAdd, Nat.reduceEqDiff, Nat.reduceMul, Nat.reduceLeDiff, Nat.reduceSub, Nat.reduceDiv, Int.reduceLE, Int.reduceLT, Int.reduceNeg, Int.reduceAdd, Int.reduceSub, Int.reduceMul, Int.reduceToNat, Int.reducePow, Int.reduceEq, ne_eq, reduceIte, repM, objsM, Obj.cells, iD, bsD, bD, reqM, byteD, hv, pureEnd_of (fn := Try.f52) (rs := [.cell 2 77, .tmp 3]) (ts := [77, 24]) rfl rfl]
              rfl
            | true =>
              simp only [↓ru, rv, rl, ry, tyf, iM, bM, bsM, cond_true, cond_false, Nat.reduceLT, Nat.reduceBEq, Nat.reduceAdd, Nat.reduceEqDiff, Nat.reduceMul, Nat.reduceLeDiff, Nat.reduceSub, Nat.reduceDiv, Int.reduceLE, Int.reduceLT, Int.reduceNeg, Int.reduceAdd, Int.reduceSub, Int.reduceMul, Int.reduceToNat, Int.reducePow, Int.reduceEq, ne_eq, reduceIte, repM, objsM, Obj.cells, iD, bsD, bD, reqM, byteD, hv, pureEnd_of (fn := Try.f52) (rs := [.cell 2 77, .tmp 3]) (ts := [77, 24]) rfl rfl]
              rw [if_neg (by simp [e0])]
              rfl
          · by_cases e2 : (b4.toNat : Int) = 255
            · have e1 : decide ((b4.toNat : Int) = 0) = false := by simpa using e0
              have e3 : decide ((b4.toNat : Int) = 255) = true := by simpa using e2
              simp only [↓ru, rv, rl, ry, tyf, iM, bM, bsM, cond_true, cond_false, Nat.reduceLT, Nat.reduceBEq, Nat.reduceAdd, Nat.reduceEqDiff, Nat.reduceMul, Nat.reduceLeDiff, Nat.reduceSub, Nat.reduceDiv, Int.reduceLE, Int.reduceLT, Int.reduceNeg, Int.reduceAdd, Int.reduceSub, Int.reduceMul, Int.reduceToNat, Int.reducePow, Int.reduceEq, ne_eq, reduceIte, repM, objsM, Obj.cells, iD, bsD, bD, reqM, byteD, e1, e3]
              have h47' : PFn Try.prog 47 [.agg [iM 43, iM 0, bsM [], iM b2.toNat, iM b3.toNat, bM true, iM b5.toNat, objsM l]] (bM (validF (devRep b2 b3 b4 b5 l))) := by
                have : repM (devRep b2 b3 b4 b5 l) = .agg [iM 43, iM 0, bsM [], iM b2.toNat, iM b3.toNat, bM true, iM b5.toNat, objsM l] := by simp [devRep, e2]
                rw [this] at h47
                exact h47
              refine acall1_pure h47' rfl rfl ?_
              cases hv : validF (devRep b2 b3 b4 b5 l) with
              | false =>
                simp only [↓ru, rv, rl, ry, tyf, iM, bM, bsM, cond_true, cond_false, Nat.reduceLT, Nat.reduceBEq, Nat.reduceAdd, Nat.reduceEqDiff, Nat.reduceMul, Nat.reduceLeDiff, Nat.reduceSub, Nat.reduceDiv, Int.reduceLE, Int.reduceLT, Int.reduceNeg, Int.reduceAdd, Int.reduceSub, Int.reduceMul, Int.reduceToNat, Int.reducePow, Int.reduceEq, ne_eq, reduceIte, repM, objsM, Obj.cells, iD, bsD, bD, reqM, byteD, hv, pureEnd_of (fn := Try.f52) (rs := [.cell 2 77, .tmp 3]) (ts := [77, 24]) rfl rfl]
                rfl
              | true =>
                simp only [↓ru, rv, rl, ry, tyf, iM, bM, bsM, cond_true, cond_false, Nat.reduceLT, Nat.reduceBEq, Nat.reduceAdd, Nat.reduceEqDiff, Nat.reduceMul, Nat.reduceLeDiff, Nat.reduceSub, Nat.reduceDiv, Int.reduceLE, Int.reduceLT, Int.reduceNeg, Int.reduceAdd, Int.reduceSub, Int.reduceMul, Int.reduceToNat, Int.reducePow, Int.reduceEq, ne_eq, reduceIte, repM, objsM, Obj.cells, iD, bsD, bD, reqM, byteD, hv, pureEnd_of (fn := Try.f52) (rs := [.cell 2 77, .tmp 3]) (ts := [77, 24]) rfl rfl]
                rw [if_neg (by simp [e2])]
                simp [devRep, e2, bsD, iD]
            · have e1 : decide ((b4.toNat : Int) = 0) = false := by simpa using e0
              have e3 : decide ((b4.toNat : Int) = 255) = false := by simpa using e2
              rw [if_pos (Or.inr ⟨e0, e2⟩)]
              simp only [↓ru, rv, rl, ry, tyf, iM, bM, bsM, cond_true, cond_false, Nat.reduceLT, Nat.reduceBEq, Nat.reduceAdd, Nat.reduceEqDiff, Nat.reduceMul, Nat.reduceLeDiff, Nat.reduceSub, Nat.reduceDiv, Int.reduceLE, Int.reduceLT, Int.reduceNeg, Int.reduceAdd, Int.reduceSub, Int.reduceMul, Int.reduceToNat, Int.reducePow, Int.reduceEq, ne_eq, reduceIte, repM, objsM, Obj.cells, iD, bsD, bD, reqM, byteD, e1, e3, pureEnd_of (fn := Try.f52) (rs := [.cell 2 77, .tmp 3]) (ts := [77, 24]) rfl rfl]
              rfl
      · have e43 : decide ((b0.toNat : Int) = 43) = false := by simpa using h43
        simp only [↓ru, rv, rl, ry, tyf, iM, bM, bsM, cond_true, cond_false, Nat.reduceLT, Nat.reduceBEq, Nat.reduceAdd, Nat.reduceEqDiff, Nat.reduceMul, Nat.reduceLeDiff, Nat.reduceSub, Nat.reduceDiv, Int.reduceLE, Int.reduceLT, Int.reduceNeg, Int.reduceAdd, Int.reduceSub, Int.reduceMul, Int.reduceToNat, Int.reducePow, Int.reduceEq, ne_eq, reduceIte, repM, objsM, Obj.cells, iD, bsD, bD, reqM, byteD, hk, hhi, e43]
        simp (disch := omega) only [wrap_i64, wrap_u8, wrap_u16, wrap_u64]
        by_cases hc : (b1.toNat : Int) = rest.length
        · have ec : decide ((b1.toNat : Int) = ((rest.length + 1 + 1 : Nat) : Int) - 2) = true := decide_eq_true (by omega)
          simp only [↓ru, rv, rl, ry, tyf, iM, bM, bsM, cond_true, cond_false, Nat.reduceLT, Nat.reduceBEq, Nat.reduceAdd, Nat.reduceEqDiff, Nat.reduceMul, Nat.reduceLeDiff, Nat.reduceSub, Nat.reduceDiv, Int.reduceLE, Int.reduceLT, Int.reduceNeg, Int.reduceAdd, Int.reduceSub, Int.reduceMul, Int.reduceToNat, Int.reducePow, Int.reduceEq, ne_eq, reduceIte, repM, objsM, Obj.cells, iD, bsD, bD, reqM, byteD, ec]
          refine grd_intro (by omega) ?_
          rw [List.take_of_length_le (by omega)]
          refine grd_intro (by omega) ?_
          refine acall1_pure (t47 (dataRep b0.toNat rest) ⟨by simp [dataRep], by simp [dataRep]⟩) rfl rfl ?_
          cases hv : validF (dataRep b0.toNat rest) with
          | true =>
            simp only [↓ru, rv, rl, ry, tyf, iM, bM, bsM, cond_true, cond_false, Nat.reduceLT, Nat.reduceBEq, Nat.reduceAdd, Nat.reduceEqDiff, Nat.reduceMul, Nat.reduceLeDiff, Nat.reduceSub, Nat.reduceDiv, Int.reduceLE, Int.reduceLT, Int.reduceNeg, Int.reduceAdd, Int.reduceSub, Int.reduceMul, Int.reduceToNat, Int.reducePow, Int.reduceEq, ne_eq, reduceIte, repM, objsM, Obj.cells, iD, bsD, bD, reqM, byteD, hv, pureEnd_of (fn := Try.f52) (rs := [.cell 2 77, .tmp 3]) (ts := [77, 24]) rfl rfl]
            simp only [Bool.false_eq_true, if_false, if_true, ne_eq, h43, hc, not_true_eq_false, not_false_eq_true]
            rfl
          | false =>
            simp only [↓ru, rv, rl, ry, tyf, iM, bM, bsM, cond_true, cond_false, Nat.reduceLT, Nat.reduceBEq, Nat.reduceAdd, Nat.reduceEqDiff, Nat.reduceMul, Nat.reduceLeDiff, Nat.reduceSub, Nat.reduceDiv, Int.reduceLE, Int.reduceLT, Int.reduceNeg, Int.reduceAdd, Int.reduceSub, Int.reduceMul, Int.reduceToNat, Int.reducePow, Int.reduceEq, ne_eq, reduceIte, repM, objsM, Obj.cells, iD, bsD, bD, reqM, byteD, hv, pureEnd_of (fn := Try.f52) (rs := [.cell 2 77, .tmp 3]) (ts := [77, 24]) rfl rfl]
            simp only [Bool.false_eq_true, if_false, if_true, ne_eq, h43, hc, not_true_eq_false, not_false_eq_true]
            rfl
        · have ec : decide ((b1.toNat : Int) = ((rest.length + 1 + 1 : Nat) : Int) - 2) = false := decide_eq_false (by omega)
          simp only [↓ru, rv, rl, ry, tyf, iM, bM, bsM, cond_true, cond_false, Nat.reduceLT, Nat.reduceBEq, Nat.reduceAdd, Nat.reduceEqDiff, Nat.reduceMul, Nat.reduceLeDiff, Nat.reduceSub, Nat.reduceDiv, Int.reduceLE, Int.reduceLT, Int.reduceNeg, Int.reduceAdd, Int.reduceSub, Int.reduceMul, Int.reduceToNat, Int.reducePow, Int.reduceEq, ne_eq, reduceIte, repM, objsM, Obj.cells, iD, bsD, bD, reqM, byteD, ec, pureEnd_of (fn := Try.f52) (rs := [.cell 2 77, .tmp 3]) (ts := [77, 24]) rfl rfl]
          simp only [Bool.false_eq_true, if_false, if_true, ne_eq, h43, hc, not_true_eq_false, not_false_eq_true]
          rfl
end Go.R2

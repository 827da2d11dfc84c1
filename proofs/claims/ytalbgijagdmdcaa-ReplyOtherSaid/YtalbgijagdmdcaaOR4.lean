import Derived.Test.YtalbgijagdmdcaaOR3
set_option linter.all false
open Go.Proofs Go.Abs Go.FaR2
namespace Go.R2
-- rules: repM, objsM, Obj.cells, iD, bsD, bD, reqM, byteD
set_option maxHeartbeats 4000000
set_option maxRecDepth 10000

def rep0 : Rep := ⟨0, 0, [], 0, 0, false, 0, []⟩
abbrev outM (x : Rep × Int) : M := .tup [repM x.1, iM x.2]
def decObjs : Nat → List UInt8 → List Obj → Option (List Obj × List UInt8)
  | 0, rest, acc => some (acc, rest)
  | n + 1, a :: c :: r, acc => if r.length < c.toNat then none else decObjs n (r.drop c.toNat) (acc ++ [⟨a.toNat, r.take c.toNat⟩])
  | _ + 1, _, _ => none
def devRep (b2 b3 b4 b5 : UInt8) (l : List Obj) : Rep := ⟨43, 0, [], b2.toNat, b3.toNat, decide ((b4.toNat : Int) = 255), b5.toNat, l⟩
def devDec : List UInt8 → Rep × Int
  | _ :: b1 :: b2 :: b3 :: b4 :: b5 :: b6 :: rest =>
    if (b1.toNat : Int) ≠ 14 then (rep0, 6) else
    match decObjs b6.toNat rest [] with
    | none => (rep0, 17)
    | some (l, r) => if 0 < r.length then (rep0, 17) else
      if validF (devRep b2 b3 b4 b5 l) = false ∨ ((b4.toNat : Int) ≠ 0 ∧ (b4.toNat : Int) ≠ 255) then (rep0, 5) else (devRep b2 b3 b4 b5 l, 0)
  | _ => (rep0, 4)

theorem t92 (b : List UInt8) (hb : b.length ≤ 1000) : PFn Try.prog 92 [bsM b] (outM (devDec b)) := by
  refine PFn.of (prs := [(5, [(3, 5), (3, 6), (1, 7), (2, 7), (3, 7), (3, 9), (7, 9), (3, 10), (7, 10), (3, 11), (7, 11), (3, 13), (7, 13), (3, 14), (7, 14), (1, 15), (2, 15), (3, 15), (5, 15), (6, 15), (7, 15), (9, 15), (10, 15), (11, 15), (1, 17), (2, 17), (3, 17), (5, 17), (6, 17), (7, 17), (9, 17), (10, 17), (11, 17), (13, 17), (14, 17), (15, 17)]), (12, [(0, 5), (1, 5), (0, 8), (1, 8), (3, 8), (4, 8), (5, 8), (0, 9), (1, 9), (3, 9), (4, 9), (5, 9), (0, 11), (1, 11)])]) Try.func92 rfl rfl mix (by kernel_rfl) rfl rfl ?_
  simp only [Try.ntmps92, argUpd]
  rcases b with _ | ⟨b0, _ | ⟨b1, _ | ⟨b2, _ | ⟨b3, _ | ⟨b4, _ | ⟨b5, _ | ⟨b6, rest⟩⟩⟩⟩⟩⟩⟩
  iterate 7 (simp only [↓ru, rv, rl, ry, tyf, iM, bM, bsM, cond_true, cond_false, Nat.reduceLT, Nat.reduceBEq, Nat.reduceAdd, Nat.reduceEqDiff, Nat.reduceMul, Nat.reduceLeDiff, Nat.reduceSub, Nat.reduceDiv, Int.reduceLE, Int.reduceLT, Int.reduceNeg, Int.reduceAdd, Int.reduceSub, Int.reduceMul, Int.reduceToNat, Int.reducePow, Int.reduceEq, ne_eq, reduceIte, repM, objsM, Obj.cells, iD, bsD, bD, reqM, byteD, pureEnd_of (fn := Try.f92) (rs := [.cell 2 77, .tmp 3]) (ts := [77, 24]) rfl rfl]; (first | rfl | simp [devDec, rep0]))
  simp only [↓ru, rv, rl, ry, tyf, iM, bM, bsM, cond_true, cond_false, Nat.reduceLT, Nat.reduceBEq, Nat.reduceAdd, Nat.reduceEqDiff, Nat.reduceMul, Nat.reduceLeDiff, Nat.reduceSub, Nat.reduceDiv, Int.reduceLE, Int.reduceLT, Int.reduceNeg, Int.reduceAdd, Int.reduceSub, Int.reduceMul, Int.reduceToNat, Int.reducePow, Int.reduceEq, ne_eq, reduceIte, repM, objsM, Obj.cells, iD, bsD, bD, reqM, byteD]
  refine fork_split (fun h => ?_) (fun h => ?_)
  · have := of_decide_eq_true h
    omega
  simp only [↓ru, rv, rl, ry, tyf, iM, bM, bsM, cond_true, cond_false, Nat.reduceLT, Nat.reduceBEq, Nat.reduceAdd, Nat.reduceEqDiff, Nat.reduceMul, Nat.reduceLeDiff, Nat.reduceSub, Nat.reduceDiv, Int.reduceLE, Int.reduceLT, Int.reduceNeg, Int.reduceAdd, Int.reduceSub, Int.reduceMul, Int.reduceToNat, Int.reducePow, Int.reduceEq, ne_eq, reduceIte, repM, objsM, Obj.cells, iD, bsD, bD, reqM, byteD]
  refine fork_split (fun h1 => ?_) (fun h1 => ?_)
  · simp only [↓ru, rv, rl, ry, tyf, iM, bM, bsM, cond_true, cond_false, Nat.reduceLT, Nat.reduceBEq, Nat.reduceAdd, Nat.reduceEqDiff, Nat.reduceMul, Nat.reduceLeDiff, Nat.reduceSub, Nat.reduceDiv, Int.reduceLE, Int.reduceLT, Int.reduceNeg, Int.reduceAdd, Int.reduceSub, Int.reduceMul, Int.reduceToNat, Int.reducePow, Int.reduceEq, ne_eq, reduceIte, repM, objsM, Obj.cells, iD, bsD, bD, reqM, byteD, pureEnd_of (fn := Try.f92) (rs := [.cell 2 77, .tmp 3]) (ts := [77, 24]) rfl rfl]
    have h1' : ¬ ((b1.toNat : Int) = 14) := by simpa using h1
    simp only [devDec, ne_eq, h1', not_false_eq_true, if_true]
    rfl
  have h1' : (b1.toNat : Int) = 14 := by simpa using h1
  simp only [↓ru, rv, rl, ry, tyf, iM, bM, bsM, cond_true, cond_false, Nat.reduceLT, Nat.reduceBEq, Nat.reduceAdd, Nat.reduceEqDiff, Nat.reduceMul, Nat.reduceLeDiff, Nat.reduceSub, Nat.reduceDiv, Int.reduceLE, Int.reduceLT, Int.reduceNeg, Int.reduceAdd, Int.reduceSub, Int.reduceMul, Int.reduceToNat, Int.reducePow, Int.reduceEq, ne_eq, reduceIte, repM, objsM, Obj.cells, iD, bsD, bD, reqM, byteD]
  refine grd_intro (by omega) ?_
  have htk : List.take (((rest.length + 1 + 1 + 1 + 1 + 1 + 1 + 1 : Nat) : Int) - 7).toNat rest = rest := List.take_of_length_le (by omega)
  have hdev : devDec (b0 :: b1 :: b2 :: b3 :: b4 :: b5 :: b6 :: rest) = match decObjs b6.toNat rest [] with
    | none => (rep0, 17)
    | some (l, r) => if 0 < r.length then (rep0, 17) else
      if validF (devRep b2 b3 b4 b5 l) = false ∨ ((b4.toNat : Int) ≠ 0 ∧ (b4.toNat : Int) ≠ 255) then (rep0, 5) else (devRep b2 b3 b4 b5 l, 0) := by
    rw [devDec, if_neg (by simpa using h1')]
  refine aloop_thawBox (p := 28) (j := 7) (c := [iM 43, iM 0, .d (.v (.slice none 0 0)), iM b2.toNat, iM b3.toNat, bM (decide ((b4.toNat : Int) = 255)), iM b5.toNat, .d (.v (.slice none 0 0))]) 2 (by simp only [↓ru, rv, rl, ry, tyf, iM, bM, bsM, cond_true, cond_false, Nat.reduceLT, Nat.reduceBEq, Nat.reduceAdd, Nat.reduceEqDiff, Nat.reduceMul, Nat.reduceLeDiff, Nat.reduceSub, Nat.reduceDiv, Int.reduceLE, Int.reduceLT, Int.reduceNeg, Int.reduceAdd, Int.reduceSub, Int.reduceMul, Int.reduceToNat, Int.reducePow, Int.reduceEq, ne_eq, reduceIte, repM, objsM, Obj.cells, iD, bsD, bD, reqM, byteD]) rfl ?_
  have hb6 := b6.toNat_lt
  simp only [List.length_cons] at hb
  refine aloop_lk (fun s : Nat × List UInt8 × List Obj => [(0, bsM (b0 :: b1 :: b2 :: b3 :: b4 :: b5 :: b6 :: rest)), (2, .ptr 0 0), (4, .ptr 28 0), (5, bsM s.2.1), (39, .d (.v (.int .u8 b6.toNat))), (40, .d (.v (.int .u8 s.1)))])
    (fun s => [(37, .ar false 2 (pure2 (s.2.2.map Obj.cells))), (28, .st [iM 43, iM 0, .d (.v (.slice none 0 0)), iM b2.toNat, iM b3.toNat, bM (decide ((b4.toNat : Int) = 255)), iM b5.toNat, .hsl 37 s.2.2.length]), (0, .st [iM 0, iM 0, .d (.v (.slice none 0 0)), iM 0, iM 0, bM false, iM 0, .d (.v (.slice none 0 0))])])
    (fun s => s.1 ≤ b6.toNat ∧ s.2.1.length ≤ 1000 ∧ s.2.2.length ≤ s.1 ∧ decObjs (b6.toNat - s.1) s.2.1 s.2.2 = decObjs b6.toNat rest []) (fun s => b6.toNat - s.1) 0 38 (0, rest, []) ?_ ?_ ⟨by simp, by simp only; omega, by simp, by simp⟩ (by omega) ?_
  · simp only [↓ru, rv, rl, ry, tyf, iM, bM, bsM, cond_true, cond_false, Nat.reduceLT, Nat.reduceBEq, Nat.reduceAdd, Nat.reduceEqDiff, Nat.reduceMul, Nat.reduceLeDiff, Nat.reduceSub, Nat.reduceDiv, Int.reduceLE, Int.reduceLT, Int.reduceNeg, Int.reduceAdd, Int.reduceSub, Int.reduceMul, Int.reduceToNat, Int.reducePow, Int.reduceEq, ne_eq, reduceIte, repM, objsM, Obj.cells, iD, bsD, bD, reqM, byteD, htk]
  · simp only [↓ru, rv, rl, ry, tyf, iM, bM, bsM, cond_true, cond_false, Nat.reduceLT, Nat.reduceBEq, Nat.reduceAdd, Nat.reduceEqDiff, Nat.reduceMul, Nat.reduceLeDiff, Nat.reduceSub, Nat.reduceDiv, Int.reduceLE, Int.reduceLT, Int.reduceNeg, Int.reduceAdd, Int.reduceSub, Int.reduceMul, Int.reduceToNat, Int.reducePow, Int.reduceEq, ne_eq, reduceIte, repM, objsM, Obj.cells, iD, bsD, bD, reqM, byteD]; rfl
  · rintro ⟨i, rs, acc⟩ e0 n ⟨hi, hrl, hal, hd⟩
    simp only at hi hrl hal hd
    simp only [↓ru, rv, rl, ry, tyf, iM, bM, bsM, cond_true, cond_false, Nat.reduceLT, Nat.reduceBEq, Nat.reduceAdd, Nat.reduceEqDiff, Nat.reduceMul, Nat.reduceLeDiff, Nat.reduceSub, Nat.reduceDiv, Int.reduceLE, Int.reduceLT, Int.reduceNeg, Int.reduceAdd, Int.reduceSub, Int.reduceMul, Int.reduceToNat, Int.reducePow, Int.reduceEq, ne_eq, reduceIte, repM, objsM, Obj.cells, iD, bsD, bD, reqM, byteD]
    refine fork_split (fun h => ?_) (fun h => ?_)
    · have h' := of_decide_eq_true h
      have hk : b6.toNat - i = (b6.toNat - (i + 1)) + 1 := by omega
      rw [hk] at hd
      rcases rs with _ | ⟨a, _ | ⟨c, r⟩⟩
      · rw [decObjs] at hd
        · simp only [↓ru, rv, rl, ry, tyf, iM, bM, bsM, cond_true, cond_false, Nat.reduceLT, Nat.reduceBEq, Nat.reduceAdd, Nat.reduceEqDiff, Nat.reduceMul, Nat.reduceLeDiff, Nat.reduceSub, Nat.reduceDiv, Int.reduceLE, Int.reduceLT, Int.reduceNeg, Int.reduceAdd, Int.reduceSub, Int.reduceMul, Int.reduceToNat, Int.reducePow, Int.reduceEq, ne_eq, reduceIte, repM, objsM, Obj.cells, iD, bsD, bD, reqM, byteD]
          repeat' ((first | (refine fork_split (fun _h => ?_) (fun _h => ?_)) | (refine gfork_split (fun _h => ?_) (fun _h => ?_)) | (refine dfork_split (fun _h => ?_) (fun _h => ?_))) <;> (try (simp only [↓ru, rv, rl, ry, tyf, iM, bM, bsM, cond_true, cond_false, Nat.reduceLT, Nat.reduceBEq, Nat.reduceAdd, Nat.reduceEqDiff, Nat.reduceMul, Nat.reduceLeDiff, Nat.reduceSub, Nat.reduceDiv, Int.reduceLE, Int.reduceLT, Int.reduceNeg, Int.reduceAdd, Int.reduceSub, Int.reduceMul, Int.reduceToNat, Int.reducePow, Int.reduceEq, ne_eq, reduceIte, repM, objsM, Obj.cells, iD, bsD, bD, reqM, byteD, pureEnd_of (fn := Try.f92) (rs := [.cell 2 77, .tmp 3]) (ts := [77, 24]) rfl rfl, *])))
          rw [hdev, ← hd]; rfl
        · intro a c r hh; cases hh
      · rw [decObjs] at hd
        · simp only [↓ru, rv, rl, ry, tyf, iM, bM, bsM, cond_true, cond_false, Nat.reduceLT, Nat.reduceBEq, Nat.reduceAdd, Nat.reduceEqDiff, Nat.reduceMul, Nat.reduceLeDiff, Nat.reduceSub, Nat.reduceDiv, Int.reduceLE, Int.reduceLT, Int.reduceNeg, Int.reduceAdd, Int.reduceSub, Int.reduceMul, Int.reduceToNat, Int.reducePow, Int.reduceEq, ne_eq, reduceIte, repM, objsM, Obj.cells, iD, bsD, bD, reqM, byteD]
          repeat' ((first | (refine fork_split (fun _h => ?_) (fun _h => ?_)) | (refine gfork_split (fun _h => ?_) (fun _h => ?_)) | (refine dfork_split (fun _h => ?_) (fun _h => ?_))) <;> (try (simp only [↓ru, rv, rl, ry, tyf, iM, bM, bsM, cond_true, cond_false, Nat.reduceLT, Nat.reduceBEq, Nat.reduceAdd, Nat.reduceEqDiff, Nat.reduceMul, Nat.reduceLeDiff, Nat.reduceSub, Nat.reduceDiv, Int.reduceLE, Int.reduceLT, Int.reduceNeg, Int.reduceAdd, Int.reduceSub, Int.reduceMul, Int.reduceToNat, Int.reducePow, Int.reduceEq, ne_eq, reduceIte, repM, objsM, Obj.cells, iD, bsD, bD, reqM, byteD, pureEnd_of (fn := Try.f92) (rs := [.cell 2 77, .tmp 3]) (ts := [77, 24]) rfl rfl, *])))
          rw [hdev, ← hd]; rfl
        · intro a c r hh; cases hh
      · rw [decObjs] at hd
        have hcb := c.toNat_lt
        simp only [List.length_cons] at hrl
        simp only [↓ru, rv, rl, ry, tyf, iM, bM, bsM, cond_true, cond_false, Nat.reduceLT, Nat.reduceBEq, Nat.reduceAdd, Nat.reduceEqDiff, Nat.reduceMul, Nat.reduceLeDiff, Nat.reduceSub, Nat.reduceDiv, Int.reduceLE, Int.reduceLT, Int.reduceNeg, Int.reduceAdd, Int.reduceSub, Int.reduceMul, Int.reduceToNat, Int.reducePow, Int.reduceEq, ne_eq, reduceIte, repM, objsM, Obj.cells, iD, bsD, bD, reqM, byteD]
        refine gfork_split (fun h2 => ?_) (fun h2 => ?_)
        · have h2' := of_decide_eq_true h2
          omega
        simp only [↓ru, rv, rl, ry, tyf, iM, bM, bsM, cond_true, cond_false, Nat.reduceLT, Nat.reduceBEq, Nat.reduceAdd, Nat.reduceEqDiff, Nat.reduceMul, Nat.reduceLeDiff, Nat.reduceSub, Nat.reduceDiv, Int.reduceLE, Int.reduceLT, Int.reduceNeg, Int.reduceAdd, Int.reduceSub, Int.reduceMul, Int.reduceToNat, Int.reducePow, Int.reduceEq, ne_eq, reduceIte, repM, objsM, Obj.cells, iD, bsD, bD, reqM, byteD]
        simp (disch := omega) only [wrap_i64, wrap_u8, wrap_u16, wrap_u64]
        refine fork_split (fun h3 => ?_) (fun h3 => ?_)
        · have h3' := of_decide_eq_true h3
          rw [if_pos (by omega)] at hd
          simp only [↓ru, rv, rl, ry, tyf, iM, bM, bsM, cond_true, cond_false, Nat.reduceLT, Nat.reduceBEq, Nat.reduceAdd, Nat.reduceEqDiff, Nat.reduceMul, Nat.reduceLeDiff, Nat.reduceSub, Nat.reduceDiv, Int.reduceLE, Int.reduceLT, Int.reduceNeg, Int.reduceAdd, Int.reduceSub, Int.reduceMul, Int.reduceToNat, Int.reducePow, Int.reduceEq, ne_eq, reduceIte, repM, objsM, Obj.cells, iD, bsD, bD, reqM, byteD, pureEnd_of (fn := Try.f92) (rs := [.cell 2 77, .tmp 3]) (ts := [77, 24]) rfl rfl]
          rw [hdev, ← hd]; rfl
        have h3' := of_decide_eq_false h3
        rw [if_neg (by omega)] at hd
        simp only [↓ru, rv, rl, ry, tyf, iM, bM, bsM, cond_true, cond_false, Nat.reduceLT, Nat.reduceBEq, Nat.reduceAdd, Nat.reduceEqDiff, Nat.reduceMul, Nat.reduceLeDiff, Nat.reduceSub, Nat.reduceDiv, Int.reduceLE, Int.reduceLT, Int.reduceNeg, Int.reduceAdd, Int.reduceSub, Int.reduceMul, Int.reduceToNat, Int.reducePow, Int.reduceEq, ne_eq, reduceIte, repM, objsM, Obj.cells, iD, bsD, bD, reqM, byteD]
        simp (disch := omega) only [wrap_i64, wrap_u8, wrap_u16, wrap_u64]
        refine grd_intro (by omega) ?_
        rw [show (2 + (c.toNat : Int) - 2).toNat = c.toNat by omega]
        refine dcall1_pure (t71 (r.take c.toNat) (by simp only [List.length_take]; omega)) rfl rfl ?_
        simp only [↓ru, rv, rl, ry, tyf, iM, bM, bsM, cond_true, cond_false, Nat.reduceLT, Nat.reduceBEq, Nat.reduceAdd, Nat.reduceEqDiff, Nat.reduceMul, Nat.reduceLeDiff, Nat.reduceSub, Nat.reduceDiv, Int.reduceLE, Int.reduceLT, Int.reduceNeg, Int.reduceAdd, Int.reduceSub, Int.reduceMul, Int.reduceToNat, Int.reducePow, Int.reduceEq, ne_eq, reduceIte, repM, objsM, Obj.cells, iD, bsD, bD, reqM, byteD]
        have hac : (pure2 (acc.map Obj.cells)).length = acc.length := by simp [pure2_length]
        refine grd_intro (by simp only [List.length_append, hac, List.length_cons, List.length_nil]; omega) ?_
        refine grd_intro (by omega) ?_
        rw [show (((r.length + 1 + 1 : Nat) : Int) - (2 + (c.toNat : Int))).toNat = r.length - c.toNat by omega, show (2 + (c.toNat : Int)).toNat = c.toNat + 1 + 1 by omega]
        simp (disch := omega) only [wrap_i64, u8_small]
        refine loopL_drop (i + 1, r.drop c.toNat, acc ++ [⟨a.toNat, r.take c.toNat⟩]) ?_ ?_ ⟨by simp only; omega, by simp only [List.length_drop]; omega, by simp only [List.length_append, List.length_cons, List.length_nil]; omega, hd⟩ (by omega) (by simp only; omega)
        · simp only [↓ru, rv, rl, ry, tyf, iM, bM, bsM, cond_true, cond_false, Nat.reduceLT, Nat.reduceBEq, Nat.reduceAdd, Nat.reduceEqDiff, Nat.reduceMul, Nat.reduceLeDiff, Nat.reduceSub, Nat.reduceDiv, Int.reduceLE, Int.reduceLT, Int.reduceNeg, Int.reduceAdd, Int.reduceSub, Int.reduceMul, Int.reduceToNat, Int.reducePow, Int.reduceEq, ne_eq, reduceIte, repM, objsM, Obj.cells, iD, bsD, bD, reqM, byteD]
          refine ⟨?_, rfl⟩
          rw [List.take_of_length_le (by simp)]
        · simp only [↓ru, rv, rl, ry, tyf, iM, bM, bsM, cond_true, cond_false, Nat.reduceLT, Nat.reduceBEq, Nat.reduceAdd, Nat.reduceEqDiff, Nat.reduceMul, Nat.reduceLeDiff, Nat.reduceSub, Nat.reduceDiv, Int.reduceLE, Int.reduceLT, Int.reduceNeg, Int.reduceAdd, Int.reduceSub, Int.reduceMul, Int.reduceToNat, Int.reducePow, Int.reduceEq, ne_eq, reduceIte, repM, objsM, Obj.cells, iD, bsD, bD, reqM, byteD]
          exact ⟨by simp [pure2, Obj.cells, iD, bsD], by simp [pure2]⟩
    · have h' := of_decide_eq_false h
      obtain rfl : i = b6.toNat := by omega
      rw [Nat.sub_self, decObjs] at hd
      have hok : (devRep b2 b3 b4 b5 acc).OK := ⟨by show acc.length ≤ _; omega, by
        have := b3.toNat_lt
        show -9223372036854775808 ≤ (b3.toNat : Int) ∧ (b3.toNat : Int) ≤ 9223372036854775807
        omega⟩
      simp only [↓ru, rv, rl, ry, tyf, iM, bM, bsM, cond_true, cond_false, Nat.reduceLT, Nat.reduceBEq, Nat.reduceAdd, Nat.reduceEqDiff, Nat.reduceMul, Nat.reduceLeDiff, Nat.reduceSub, Nat.reduceDiv, Int.reduceLE, Int.reduceLT, Int.reduceNeg, Int.reduceAdd, Int.reduceSub, Int.reduceMul, Int.reduceToNat, Int.reducePow, Int.reduceEq, ne_eq, reduceIte, repM, objsM, Obj.cells, iD, bsD, bD, reqM, byteD]
      refine fork_split (fun h2 => ?_) (fun h2 => ?_)
      · have h2' := of_decide_eq_true h2
        simp only [↓ru, rv, rl, ry, tyf, iM, bM, bsM, cond_true, cond_false, Nat.reduceLT, Nat.reduceBEq, Nat.reduceAdd, Nat.reduceEqDiff, Nat.reduceMul, Nat.reduceLeDiff, Nat.reduceSub, Nat.reduceDiv, Int.reduceLE, Int.reduceLT, Int.reduceNeg, Int.reduceAdd, Int.reduceSub, Int.reduceMul, Int.reduceToNat, Int.reducePow, Int.reduceEq, ne_eq, reduceIte, repM, objsM, Obj.cells, iD, bsD, bD, reqM, byteD, pureEnd_of (fn := Try.f92) (rs := [.cell 2 77, .tmp 3]) (ts := [77, 24]) rfl rfl]
        rw [hdev, ← hd]
        simp only
        rw [if_pos (by omega)]
        rfl
      · have h2' := of_decide_eq_false h2
        have h0 : ¬ 0 < rs.length := by omega
        simp only [↓ru, rv, rl, ry, tyf, iM, bM, bsM, cond_true, cond_false, Nat.reduceLT, Nat.reduceBEq, Nat.reduceAdd, Nat.reduceEqDiff, Nat.reduceMul, Nat.reduceLeDiff, Nat.reduceSub, Nat.reduceDiv, Int.reduceLE, Int.reduceLT, Int.reduceNeg, Int.reduceAdd, Int.reduceSub, Int.reduceMul, Int.reduceToNat, Int.reducePow, Int.reduceEq, ne_eq, reduceIte, repM, objsM, Obj.cells, iD, bsD, bD, reqM, byteD]
        refine acall1_pure (t46 (devRep b2 b3 b4 b5 acc) hok) rfl rfl ?_
        simp only [↓ru, rv, rl, ry, tyf, iM, bM, bsM, cond_true, cond_false, Nat.reduceLT, Nat.reduceBEq, Nat.reduceAdd, Nat.reduceEqDiff, Nat.reduceMul, Nat.reduceLeDiff, Nat.reduceSub, Nat.reduceDiv, Int.reduceLE, Int.reduceLT, Int.reduceNeg, Int.reduceAdd, Int.reduceSub, Int.reduceMul, Int.reduceToNat, Int.reducePow, Int.reduceEq, ne_eq, reduceIte, repM, objsM, Obj.cells, iD, bsD, bD, reqM, byteD]
        have hfin : outM (devDec (b0 :: b1 :: b2 :: b3 :: b4 :: b5 :: b6 :: rest)) = outM (if validF (devRep b2 b3 b4 b5 acc) = false ∨ ((b4.toNat : Int) ≠ 0 ∧ (b4.toNat : Int) ≠ 255) then (rep0, 5) else (devRep b2 b3 b4 b5 acc, 0)) := by
          rw [hdev, ← hd]
          simp only
          rw [if_neg h0]
        rw [hfin]
        clear hfin hdev hd
        cases hv : validF (devRep b2 b3 b4 b5 acc) with
        | false =>
          simp only [↓ru, rv, rl, ry, tyf, iM, bM, bsM, cond_true, cond_false, Nat.reduceLT, Nat.reduceBEq, Nat.reduceAdd, Nat.reduceEqDiff, Nat.reduceMul, Nat.reduceLeDiff, Nat.reduceSub, Nat.reduceDiv, Int.reduceLE, Int.reduceLT, Int.reduceNeg, Int.reduceAdd, Int.reduceSub, Int.reduceMul, Int.reduceToNat, Int.reducePow, Int.reduceEq, ne_eq, reduceIte, repM, objsM, Obj.cells, iD, bsD, bD, reqM, byteD, hv, pureEnd_of (fn := Try.f92) (rs := [.cell 2 77, .tmp 3]) (ts := [77, 24]) rfl rfl]
          rfl
        | true =>
          by_cases e0 : (b4.toNat : Int) = 0
          · have e1 : decide ((b4.toNat : Int) = 0) = true := by simpa using e0
            simp only [↓ru, rv, rl, ry, tyf, iM, bM, bsM, cond_true, cond_false, Nat.reduceLT, Nat.reduceBEq, Nat.reduceAdd, Nat.reduceEqDiff, Nat.reduceMul, Nat.reduceLeDiff, Nat.reduceSub, Nat.reduceDiv, Int.reduceLE, Int.reduceLT, Int.reduceNeg, Int.reduceAdd, Int.reduceSub, Int.reduceMul, Int.reduceToNat, Int.reducePow, Int.reduceEq, ne_eq, reduceIte, repM, objsM, Obj.cells, iD, bsD, bD, reqM, byteD, hv, e1, pureEnd_of (fn := Try.f92) (rs := [.cell 2 77, .tmp 3]) (ts := [77, 24]) rfl rfl]
            rw [if_neg (by simp [e0])]
            rfl
          · by_cases e2 : (b4.toNat : Int) = 255
            · have e1 : decide ((b4.toNat : Int) = 0) = false := by simpa using e0
              have e3 : decide ((b4.toNat : Int) = 255) = true := by simpa using e2
              simp only [↓ru, rv, rl, ry, tyf, iM, bM, bsM, cond_true, cond_false, Nat.reduceLT, Nat.reduceBEq, Nat.reduceAdd, Nat.reduceEqDiff, Nat.reduceMul, Nat.reduceLeDiff, Nat.reduceSub, Nat.reduceDiv, Int.reduceLE, Int.reduceLT, Int.reduceNeg, Int.reduceAdd, Int.reduceSub, Int.reduceMul, Int.reduceToNat, Int.reducePow, Int.reduceEq, ne_eq, reduceIte, repM, objsM, Obj.cells, iD, bsD, bD, reqM, byteD, hv, e1, e3, pureEnd_of (fn := Try.f92) (rs := [.cell 2 77, .tmp 3]) (ts := [77, 24]) rfl rfl]
              rw [if_neg (by simp [e2])]
              simp [devRep, e2, bsD, iD]
            · have e1 : decide ((b4.toNat : Int) = 0) = false := by simpa using e0
              have e3 : decide ((b4.toNat : Int) = 255) = false := by simpa using e2
              simp only [↓ru, rv, rl, ry, tyf, iM, bM, bsM, cond_true, cond_false, Nat.reduceLT, Nat.reduceBEq, Nat.reduceAdd, Nat.reduceEqDiff, Nat.reduceMul, Nat.reduceLeDiff, Nat.reduceSub, Nat.reduceDiv, Int.reduceLE, Int.reduceLT, Int.reduceNeg, Int.reduceAdd, Int.reduceSub, Int.reduceMul, Int.reduceToNat, Int.reducePow, Int.reduceEq, ne_eq, reduceIte, repM, objsM, Obj.cells, iD, bsD, bD, reqM, byteD, hv, e1, e3, pureEnd_of (fn := Try.f92) (rs := [.cell 2 77, .tmp 3]) (ts := [77, 24]) rfl rfl]
              rw [if_pos (Or.inr ⟨e0, e2⟩)]
              rfl

/-- The objects at the beginning of bytes, and whether they end there. -/
def objsF (n : Nat) (b : List UInt8) : M := match decObjs n b [] with
  | none => .tup [objsM [], bM false]
  | some (l, r) => .tup [objsM l, bM (decide ((r.length : Int) = 0))]
theorem t93 (b : List UInt8) (k : Nat) (hb : b.length ≤ 1000) (hk : k ≤ 255) : PFn Try.prog 93 [bsM b, iM k] (objsF k b) := by
  have hp2 : (objsF k b).p2 = true := by unfold objsF; split <;> rfl
  refine PFn.of (prs := [(8, [(2, 7), (3, 7), (4, 7), (2, 8), (3, 8), (4, 8)])]) Try.func93 rfl rfl mix (by kernel_rfl) rfl hp2 ?_
  simp only [Try.ntmps93, argUpd]
  simp only [↓ru, rv, rl, ry, tyf, iM, bM, bsM, cond_true, cond_false, Nat.reduceLT, Nat.reduceBEq, Nat.reduceAdd, Nat.reduceEqDiff, Nat.reduceMul, Nat.reduceLeDiff, Nat.reduceSub, Nat.reduceDiv, Int.reduceLE, Int.reduceLT, Int.reduceNeg, Int.reduceAdd, Int.reduceSub, Int.reduceMul, Int.reduceToNat, Int.reducePow, Int.reduceEq, ne_eq, reduceIte, repM, objsM, Obj.cells, iD, bsD, bD, reqM, byteD]
  refine aloop_thaw (t := 6) 2 (by simp only [↓ru, rv, rl, ry, tyf, iM, bM, bsM, cond_true, cond_false, Nat.reduceLT, Nat.reduceBEq, Nat.reduceAdd, Nat.reduceEqDiff, Nat.reduceMul, Nat.reduceLeDiff, Nat.reduceSub, Nat.reduceDiv, Int.reduceLE, Int.reduceLT, Int.reduceNeg, Int.reduceAdd, Int.reduceSub, Int.reduceMul, Int.reduceToNat, Int.reducePow, Int.reduceEq, ne_eq, reduceIte, repM, objsM, Obj.cells, iD, bsD, bD, reqM, byteD]) ?_
  refine aloop_lk (fun s : Nat × List UInt8 × List Obj => [(0, bsM s.2.1), (1, iM k), (6, .hsl 4 s.2.2.length), (7, iM s.1)])
    (fun s => [(4, .ar false 2 (pure2 (s.2.2.map Obj.cells)))])
    (fun s => s.1 ≤ k ∧ s.2.1.length ≤ 1000 ∧ s.2.2.length ≤ s.1 ∧ decObjs (k - s.1) s.2.1 s.2.2 = decObjs k b []) (fun s => k - s.1) 0 5 (0, b, []) ?_ ?_ ⟨by simp, by simp only; omega, by simp, by simp⟩ (by omega) ?_
  · simp only [↓ru, rv, rl, ry, tyf, iM, bM, bsM, cond_true, cond_false, Nat.reduceLT, Nat.reduceBEq, Nat.reduceAdd, Nat.reduceEqDiff, Nat.reduceMul, Nat.reduceLeDiff, Nat.reduceSub, Nat.reduceDiv, Int.reduceLE, Int.reduceLT, Int.reduceNeg, Int.reduceAdd, Int.reduceSub, Int.reduceMul, Int.reduceToNat, Int.reducePow, Int.reduceEq, ne_eq, reduceIte, repM, objsM, Obj.cells, iD, bsD, bD, reqM, byteD]
  · simp only [↓ru, rv, rl, ry, tyf, iM, bM, bsM, cond_true, cond_false, Nat.reduceLT, Nat.reduceBEq, Nat.reduceAdd, Nat.reduceEqDiff, Nat.reduceMul, Nat.reduceLeDiff, Nat.reduceSub, Nat.reduceDiv, Int.reduceLE, Int.reduceLT, Int.reduceNeg, Int.reduceAdd, Int.reduceSub, Int.reduceMul, Int.reduceToNat, Int.reducePow, Int.reduceEq, ne_eq, reduceIte, repM, objsM, Obj.cells, iD, bsD, bD, reqM, byteD]; rfl
  · rintro ⟨i, rs, acc⟩ e0 n ⟨hi, hrl, hal, hd⟩
    simp only at hi hrl hal hd
    simp only [↓ru, rv, rl, ry, tyf, iM, bM, bsM, cond_true, cond_false, Nat.reduceLT, Nat.reduceBEq, Nat.reduceAdd, Nat.reduceEqDiff, Nat.reduceMul, Nat.reduceLeDiff, Nat.reduceSub, Nat.reduceDiv, Int.reduceLE, Int.reduceLT, Int.reduceNeg, Int.reduceAdd, Int.reduceSub, Int.reduceMul, Int.reduceToNat, Int.reducePow, Int.reduceEq, ne_eq, reduceIte, repM, objsM, Obj.cells, iD, bsD, bD, reqM, byteD]
    refine fork_split (fun h => ?_) (fun h => ?_)
    · have h' := of_decide_eq_true h
      have hk : k - i = (k - (i + 1)) + 1 := by omega
      rw [hk] at hd
      rcases rs with _ | ⟨a, _ | ⟨c, r⟩⟩
      · rw [decObjs] at hd
        · simp only [↓ru, rv, rl, ry, tyf, iM, bM, bsM, cond_true, cond_false, Nat.reduceLT, Nat.reduceBEq, Nat.reduceAdd, Nat.reduceEqDiff, Nat.reduceMul, Nat.reduceLeDiff, Nat.reduceSub, Nat.reduceDiv, Int.reduceLE, Int.reduceLT, Int.reduceNeg, Int.reduceAdd, Int.reduceSub, Int.reduceMul, Int.reduceToNat, Int.reducePow, Int.reduceEq, ne_eq, reduceIte, repM, objsM, Obj.cells, iD, bsD, bD, reqM, byteD, pureEnd_of (fn := Try.f93) (rs := [.tmp 4, .tmp 5]) (ts := [45, 4]) rfl rfl]
          rw [objsF, ← hd]
          rfl
        · intro a c r hh; cases hh
      · rw [decObjs] at hd
        · simp only [↓ru, rv, rl, ry, tyf, iM, bM, bsM, cond_true, cond_false, Nat.reduceLT, Nat.reduceBEq, Nat.reduceAdd, Nat.reduceEqDiff, Nat.reduceMul, Nat.reduceLeDiff, Nat.reduceSub, Nat.reduceDiv, Int.reduceLE, Int.reduceLT, Int.reduceNeg, Int.reduceAdd, Int.reduceSub, Int.reduceMul, Int.reduceToNat, Int.reducePow, Int.reduceEq, ne_eq, reduceIte, repM, objsM, Obj.cells, iD, bsD, bD, reqM, byteD, pureEnd_of (fn := Try.f93) (rs := [.tmp 4, .tmp 5]) (ts := [45, 4]) rfl rfl]
          rw [objsF, ← hd]
          rfl
        · intro a c r hh; cases hh
      · rw [decObjs] at hd
        have hcb := c.toNat_lt
        simp only [List.length_cons] at hrl
        simp only [↓ru, rv, rl, ry, tyf, iM, bM, bsM, cond_true, cond_false, Nat.reduceLT, Nat.reduceBEq, Nat.reduceAdd, Nat.reduceEqDiff, Nat.reduceMul, Nat.reduceLeDiff, Nat.reduceSub, Nat.reduceDiv, Int.reduceLE, Int.reduceLT, Int.reduceNeg, Int.reduceAdd, Int.reduceSub, Int.reduceMul, Int.reduceToNat, Int.reducePow, Int.reduceEq, ne_eq, reduceIte, repM, objsM, Obj.cells, iD, bsD, bD, reqM, byteD]
        refine gfork_split (fun h2 => ?_) (fun h2 => ?_)
        · have h2' := of_decide_eq_true h2
          omega
        simp only [↓ru, rv, rl, ry, tyf, iM, bM, bsM, cond_true, cond_false, Nat.reduceLT, Nat.reduceBEq, Nat.reduceAdd, Nat.reduceEqDiff, Nat.reduceMul, Nat.reduceLeDiff, Nat.reduceSub, Nat.reduceDiv, Int.reduceLE, Int.reduceLT, Int.reduceNeg, Int.reduceAdd, Int.reduceSub, Int.reduceMul, Int.reduceToNat, Int.reducePow, Int.reduceEq, ne_eq, reduceIte, repM, objsM, Obj.cells, iD, bsD, bD, reqM, byteD]
        simp (disch := omega) only [wrap_i64, wrap_u8, wrap_u16, wrap_u64]
        refine fork_split (fun h3 => ?_) (fun h3 => ?_)
        · have h3' := of_decide_eq_true h3
          rw [if_pos (by omega)] at hd
          simp only [↓ru, rv, rl, ry, tyf, iM, bM, bsM, cond_true, cond_false, Nat.reduceLT, Nat.reduceBEq, Nat.reduceAdd, Nat.reduceEqDiff, Nat.reduceMul, Nat.reduceLeDiff, Nat.reduceSub, Nat.reduceDiv, Int.reduceLE, Int.reduceLT, Int.reduceNeg, Int.reduceAdd, Int.reduceSub, Int.reduceMul, Int.reduceToNat, Int.reducePow, Int.reduceEq, ne_eq, reduceIte, repM, objsM, Obj.cells, iD, bsD, bD, reqM, byteD, pureEnd_of (fn := Try.f93) (rs := [.tmp 4, .tmp 5]) (ts := [45, 4]) rfl rfl]
          rw [objsF, ← hd]
          rfl
        have h3' := of_decide_eq_false h3
        rw [if_neg (by omega)] at hd
        simp only [↓ru, rv, rl, ry, tyf, iM, bM, bsM, cond_true, cond_false, Nat.reduceLT, Nat.reduceBEq, Nat.reduceAdd, Nat.reduceEqDiff, Nat.reduceMul, Nat.reduceLeDiff, Nat.reduceSub, Nat.reduceDiv, Int.reduceLE, Int.reduceLT, Int.reduceNeg, Int.reduceAdd, Int.reduceSub, Int.reduceMul, Int.reduceToNat, Int.reducePow, Int.reduceEq, ne_eq, reduceIte, repM, objsM, Obj.cells, iD, bsD, bD, reqM, byteD]
        simp (disch := omega) only [wrap_i64, wrap_u8, wrap_u16, wrap_u64]
        refine grd_intro (by omega) ?_
        rw [show (2 + (c.toNat : Int) - 2).toNat = c.toNat by omega]
        have hac : (pure2 (acc.map Obj.cells)).length = acc.length := by simp [pure2_length]
        refine grd_intro (by simp only [List.length_take]; omega) ?_
        refine grd_intro (by simp only [List.length_append, hac, List.length_cons, List.length_nil]; omega) ?_
        refine grd_intro (by omega) ?_
        rw [show (((r.length + 1 + 1 : Nat) : Int) - (2 + (c.toNat : Int))).toNat = r.length - c.toNat by omega, show (2 + (c.toNat : Int)).toNat = c.toNat + 1 + 1 by omega]
        (try simp (disch := omega) only [wrap_i64, wrap_u8, wrap_u16, wrap_u64])
        refine loopL_drop (i + 1, r.drop c.toNat, acc ++ [⟨a.toNat, r.take c.toNat⟩]) ?_ ?_ ⟨by simp only; omega, by simp only [List.length_drop]; omega, by simp only [List.length_append, List.length_cons, List.length_nil]; omega, hd⟩ (by omega) (by simp only; omega)
        · simp only [↓ru, rv, rl, ry, tyf, iM, bM, bsM, cond_true, cond_false, Nat.reduceLT, Nat.reduceBEq, Nat.reduceAdd, Nat.reduceEqDiff, Nat.reduceMul, Nat.reduceLeDiff, Nat.reduceSub, Nat.reduceDiv, Int.reduceLE, Int.reduceLT, Int.reduceNeg, Int.reduceAdd, Int.reduceSub, Int.reduceMul, Int.reduceToNat, Int.reducePow, Int.reduceEq, ne_eq, reduceIte, repM, objsM, Obj.cells, iD, bsD, bD, reqM, byteD]
          refine ⟨?_, ?_, rfl⟩
          · rw [List.take_of_length_le (by simp)]
          · simp [pure2]
        · simp only [↓ru, rv, rl, ry, tyf, iM, bM, bsM, cond_true, cond_false, Nat.reduceLT, Nat.reduceBEq, Nat.reduceAdd, Nat.reduceEqDiff, Nat.reduceMul, Nat.reduceLeDiff, Nat.reduceSub, Nat.reduceDiv, Int.reduceLE, Int.reduceLT, Int.reduceNeg, Int.reduceAdd, Int.reduceSub, Int.reduceMul, Int.reduceToNat, Int.reducePow, Int.reduceEq, ne_eq, reduceIte, repM, objsM, Obj.cells, iD, bsD, bD, reqM, byteD]
          simp [pure2, Obj.cells, iD, bsD]
    · have h' := of_decide_eq_false h
      obtain rfl : i = k := by omega
      rw [Nat.sub_self, decObjs] at hd
      simp only [↓ru, rv, rl, ry, tyf, iM, bM, bsM, cond_true, cond_false, Nat.reduceLT, Nat.reduceBEq, Nat.reduceAdd, Nat.reduceEqDiff, Nat.reduceMul, Nat.reduceLeDiff, Nat.reduceSub, Nat.reduceDiv, Int.reduceLE, Int.reduceLT, Int.reduceNeg, Int.reduceAdd, Int.reduceSub, Int.reduceMul, Int.reduceToNat, Int.reducePow, Int.reduceEq, ne_eq, reduceIte, repM, objsM, Obj.cells, iD, bsD, bD, reqM, byteD, pureEnd_of (fn := Try.f93) (rs := [.tmp 4, .tmp 5]) (ts := [45, 4]) rfl rfl]
      rw [objsF, ← hd]
end Go.R2

import Derived.Test.YtmgfnlnomecbiaaDoorKL
set_option linter.all false
open Go.Proofs Go.Abs Go.Fa Go.BU Go.TX Go.TW
namespace Go.CF
set_option maxHeartbeats 4000000
set_option maxRecDepth 200000
-- rules: byteD, dstr, un1_str, iD, bD

def iF (i j : Nat) (v : Int) : Int := if j < i then v else 0
theorem parC_eq (b : List UInt8) : parC b = parR (wordsL ((linesF b).getD [])) (!((linesF b).isSome && wordsK ((linesF b).getD []))) := rfl
theorem ParseR (b : List UInt8) (hb : b.length ≤ 300000) : PFn Tryd.prog 42 [bsM b] (.tup [cfgM (parC b).1, iM (parC b).2]) := by
  have hRw := RowsR b hb
  have hK := RK_words hb
  rw [parC_eq]
  generalize hL : wordsL ((linesF b).getD []) = L at hRw hK ⊢
  generalize hbd : ((linesF b).isSome && wordsK ((linesF b).getD [])) = ok at hRw ⊢
  clear hL hbd
  cases ok with
  | false =>
    rw [par_bad (fun h => by cases h.1)]
    simp only [Bool.false_eq_true, if_false] at hRw
    (refine PFn.of (prs := [(18, []), (24, [(4, 7), (5, 7)]), (22, [])]) Tryd.func42 rfl rfl mix (by kernel_rfl) rfl rfl ?_; simp only [Tryd.ntmps42, argUpd])
    (try (simp only [↓ru, rv, rl, ry, tyf, iM, bM, bsM, cond_true, cond_false, Nat.reduceLT, Nat.reduceBEq, Nat.reduceAdd, Nat.reduceEqDiff, Nat.reduceMul, Nat.reduceLeDiff, Nat.reduceSub, Nat.reduceDiv, Int.reduceLE, Int.reduceLT, Int.reduceNeg, Int.reduceAdd, Int.reduceSub, Int.reduceMul, Int.reduceToNat, Int.reducePow, Int.reduceEq, ne_eq, reduceIte, byteD, dstr, un1_str, iD, bD, pureEnd_of (fn := Tryd.f42) (rs := [.cell 2 53, .tmp 3]) (ts := [53, 37]) rfl rfl, *])); repeat' ((first | (refine fork_split (fun _h => ?_) (fun _h => ?_)) | (refine gfork_split (fun _h => ?_) (fun _h => ?_)) | (refine dfork_split (fun _h => ?_) (fun _h => ?_)) | (refine acall1_pure hRw rfl rfl ?_) | (refine dcall1_pure hRw rfl rfl ?_)) <;> (try (simp only [↓ru, rv, rl, ry, tyf, iM, bM, bsM, cond_true, cond_false, Nat.reduceLT, Nat.reduceBEq, Nat.reduceAdd, Nat.reduceEqDiff, Nat.reduceMul, Nat.reduceLeDiff, Nat.reduceSub, Nat.reduceDiv, Int.reduceLE, Int.reduceLT, Int.reduceNeg, Int.reduceAdd, Int.reduceSub, Int.reduceMul, Int.reduceToNat, Int.reducePow, Int.reduceEq, ne_eq, reduceIte, byteD, dstr, un1_str, iD, bD, pureEnd_of (fn := Tryd.f42) (rs := [.cell 2 53, .tmp 3]) (ts := [53, 37]) rfl rfl, *])))
    all_goals try rfl
  | true =>
    simp only [if_true, Bool.not_true] at hRw ⊢
    have hbad : Shut (¬ fineR L false → parR L false = (cfg0, 1)) := par_bad
    have hgood : Shut (fineR L false → parR L false = if chkF (mkR (setsF L).1 (setsF L).2.2) = 0 then (mkR (setsF L).1 (setsF L).2.2, 0) else (cfg0, chkF (mkR (setsF L).1 (setsF L).2.2))) := par_fine
    generalize parR L false = PR at hbad hgood ⊢
    (refine PFn.of (prs := [(18, []), (24, [(4, 7), (5, 7)]), (22, [])]) Tryd.func42 rfl rfl mix (by kernel_rfl) rfl rfl ?_; simp only [Tryd.ntmps42, argUpd])
    (try (simp only [↓ru, rv, rl, ry, tyf, iM, bM, bsM, cond_true, cond_false, Nat.reduceLT, Nat.reduceBEq, Nat.reduceAdd, Nat.reduceEqDiff, Nat.reduceMul, Nat.reduceLeDiff, Nat.reduceSub, Nat.reduceDiv, Int.reduceLE, Int.reduceLT, Int.reduceNeg, Int.reduceAdd, Int.reduceSub, Int.reduceMul, Int.reduceToNat, Int.reducePow, Int.reduceEq, ne_eq, reduceIte, byteD, dstr, un1_str, iD, bD, *])); repeat' ((first | (refine fork_split (fun _h => ?_) (fun _h => ?_)) | (refine gfork_split (fun _h => ?_) (fun _h => ?_)) | (refine dfork_split (fun _h => ?_) (fun _h => ?_)) | (refine acall1_pure hRw rfl rfl ?_) | (refine dcall1_pure hRw rfl rfl ?_)) <;> (try (simp only [↓ru, rv, rl, ry, tyf, iM, bM, bsM, cond_true, cond_false, Nat.reduceLT, Nat.reduceBEq, Nat.reduceAdd, Nat.reduceEqDiff, Nat.reduceMul, Nat.reduceLeDiff, Nat.reduceSub, Nat.reduceDiv, Int.reduceLE, Int.reduceLT, Int.reduceNeg, Int.reduceAdd, Int.reduceSub, Int.reduceMul, Int.reduceToNat, Int.reducePow, Int.reduceEq, ne_eq, reduceIte, byteD, dstr, un1_str, iD, bD, *])))
    refine aloop_thawBox (p := 11) (j := 0) 2 rfl rfl ?_
    simp only [↓ru, rv, rl, ry, tyf, iM, bM, bsM, cond_true, cond_false, Nat.reduceLT, Nat.reduceBEq, Nat.reduceAdd, Nat.reduceEqDiff, Nat.reduceMul, Nat.reduceLeDiff, Nat.reduceSub, Nat.reduceDiv, Int.reduceLE, Int.reduceLT, Int.reduceNeg, Int.reduceAdd, Int.reduceSub, Int.reduceMul, Int.reduceToNat, Int.reducePow, Int.reduceEq, ne_eq, reduceIte, byteD, dstr, un1_str, iD, bD]
    refine aloop_lv (fun p : List Stg × Rows => [(2, .ptr 0 0), (3, iM 0), (4, rowsM p.2), (6, .ptr 11 0)]) (fun p => [(12, .ar false 2 (pure2 (p.1.map stgD))), (11, .st [.hsl 12 p.1.length, iM 0, iM 0, iM 0, iM 0, iM 0, iM 0, iM 0, iM 0, iM 0, iM 0, iM 0, iM 0, iM 0, iM 0, iM 0]), (0, cfgZ)])
      (fun p => p.1 ++ (setsF p.2).1 = (setsF L).1 ∧ (setsF p.2).2.1 = (setsF L).2.1 ∧ (setsF p.2).2.2 = (setsF L).2.2 ∧ RK p.2 ∧ p.1.length + p.2.length ≤ L.length) (fun p => p.2.length) 13 ([], L) ?_ ?_ ⟨rfl, rfl, rfl, hK, by simp⟩ (by omega) ?_
    · simp only [↓ru, rv, rl, ry, tyf, iM, bM, bsM, cond_true, cond_false, Nat.reduceLT, Nat.reduceBEq, Nat.reduceAdd, Nat.reduceEqDiff, Nat.reduceMul, Nat.reduceLeDiff, Nat.reduceSub, Nat.reduceDiv, Int.reduceLE, Int.reduceLT, Int.reduceNeg, Int.reduceAdd, Int.reduceSub, Int.reduceMul, Int.reduceToNat, Int.reducePow, Int.reduceEq, ne_eq, reduceIte, byteD, dstr, un1_str, iD, bD]
    · rfl
    rintro ⟨acc, T⟩ e0 n ⟨h1, h2, h3, h4, h5⟩
    simp only at h1 h2 h3 h4 h5
    have hacc : acc.length + 1 ≤ 300001 := by have := hK.1; omega
    have hsh : Shut (acc ++ (setsF T).1 = (setsF L).1 ∧ (setsF T).2.1 = (setsF L).2.1 ∧ (setsF T).2.2 = (setsF L).2.2) := ⟨h1, h2, h3⟩
    clear h1 h2 h3
    have stop : setsF T = ([], true, T) → (setsF L).2.1 = true ∧ (setsF L).1 = acc ∧ (setsF L).2.2 = T := fun h => by
      unfold Shut at hsh
      rw [h] at hsh
      exact ⟨hsh.2.1.symm, by simpa using hsh.1.symm, hsh.2.2.symm⟩
    cases T with
    | nil =>
      obtain ⟨s1, s2, s3⟩ := stop rfl
      have hnf : PR = (cfg0, 1) := hbad (fun hf => by have := hf.2.2.1; rw [s3] at this; cases this)
      subst hnf
      (try (simp only [↓ru, rv, rl, ry, tyf, iM, bM, bsM, cond_true, cond_false, Nat.reduceLT, Nat.reduceBEq, Nat.reduceAdd, Nat.reduceEqDiff, Nat.reduceMul, Nat.reduceLeDiff, Nat.reduceSub, Nat.reduceDiv, Int.reduceLE, Int.reduceLT, Int.reduceNeg, Int.reduceAdd, Int.reduceSub, Int.reduceMul, Int.reduceToNat, Int.reducePow, Int.reduceEq, ne_eq, reduceIte, byteD, dstr, un1_str, iD, bD, ↓bs10s, ↓bs10i, List.length_nil, pureEnd_of (fn := Tryd.f42) (rs := [.cell 2 53, .tmp 3]) (ts := [53, 37]) rfl rfl, *])); repeat' ((first | (refine fork_split (fun _h => ?_) (fun _h => ?_)) | (refine gfork_split (fun _h => ?_) (fun _h => ?_)) | (refine dfork_split (fun _h => ?_) (fun _h => ?_))) <;> (try (simp only [↓ru, rv, rl, ry, tyf, iM, bM, bsM, cond_true, cond_false, Nat.reduceLT, Nat.reduceBEq, Nat.reduceAdd, Nat.reduceEqDiff, Nat.reduceMul, Nat.reduceLeDiff, Nat.reduceSub, Nat.reduceDiv, Int.reduceLE, Int.reduceLT, Int.reduceNeg, Int.reduceAdd, Int.reduceSub, Int.reduceMul, Int.reduceToNat, Int.reducePow, Int.reduceEq, ne_eq, reduceIte, byteD, dstr, un1_str, iD, bD, ↓bs10s, ↓bs10i, List.length_nil, pureEnd_of (fn := Tryd.f42) (rs := [.cell 2 53, .tmp 3]) (ts := [53, 37]) rfl rfl, *])))
      all_goals try rfl
    | cons row rest =>
      obtain ⟨q1, q2⟩ := h4
      have hrow := q2 row (by simp)
      have hrest : RK rest := ⟨by simp at q1; omega, fun r hr => q2 r (by simp [hr])⟩
      have hll : rest.length + 1 ≤ 300000 := by simpa using q1
      have d0 : decide ((0 : Int) < ((rest.length + 1 : Nat) : Int)) = true := decide_eq_true (by omega)
      by_cases hr2 : row.length = 2
      · match row, hr2, hrow, stop, hsh with
        | [w, x], _, hrow, stop, hsh =>
          have hx := (hrow.2 x (by simp))
          by_cases hw : w = settingW
          · have dq : decide (w = [115, 101, 116, 116, 105, 110, 103]) = true := decide_eq_true hw
            have hstep : setsF ([w, x] :: rest) = ((parseS x).1 :: (setsF rest).1, (parseS x).2 && (setsF rest).2.1, (setsF rest).2.2) := by
              rw [setsF, if_pos ⟨rfl, hw⟩]; rfl
            have hP := TW.ParseR x
            unfold parM at hP
            unfold Shut at hsh
            rw [hstep] at hsh
            clear stop hstep hw q1 q2 hrow
            generalize parseS x = ps at *
            obtain ⟨⟨pb, pp⟩, pk⟩ := ps
            simp only at hsh hP
            cases pk with
            | false =>
              have hnf : PR = (cfg0, 1) := hbad (fun hf => by have := hf.2.1; rw [← hsh.2.1] at this; cases this)
              subst hnf
              clear hsh
              (try (simp only [↓ru, rv, rl, ry, tyf, iM, bM, bsM, cond_true, cond_false, Nat.reduceLT, Nat.reduceBEq, Nat.reduceAdd, Nat.reduceEqDiff, Nat.reduceMul, Nat.reduceLeDiff, Nat.reduceSub, Nat.reduceDiv, Int.reduceLE, Int.reduceLT, Int.reduceNeg, Int.reduceAdd, Int.reduceSub, Int.reduceMul, Int.reduceToNat, Int.reducePow, Int.reduceEq, ne_eq, reduceIte, byteD, dstr, un1_str, iD, bD, d0, dq, List.length_cons, List.length_nil, pureEnd_of (fn := Tryd.f42) (rs := [.cell 2 53, .tmp 3]) (ts := [53, 37]) rfl rfl, *])); repeat' ((first | (refine fork_split (fun _h => ?_) (fun _h => ?_)) | (refine gfork_split (fun _h => ?_) (fun _h => ?_)) | (refine dfork_split (fun _h => ?_) (fun _h => ?_)) | (refine acall1_pure hP rfl rfl ?_) | (refine dcall1_pure hP rfl rfl ?_)) <;> (try (simp only [↓ru, rv, rl, ry, tyf, iM, bM, bsM, cond_true, cond_false, Nat.reduceLT, Nat.reduceBEq, Nat.reduceAdd, Nat.reduceEqDiff, Nat.reduceMul, Nat.reduceLeDiff, Nat.reduceSub, Nat.reduceDiv, Int.reduceLE, Int.reduceLT, Int.reduceNeg, Int.reduceAdd, Int.reduceSub, Int.reduceMul, Int.reduceToNat, Int.reducePow, Int.reduceEq, ne_eq, reduceIte, byteD, dstr, un1_str, iD, bD, d0, dq, List.length_cons, List.length_nil, pureEnd_of (fn := Tryd.f42) (rs := [.cell 2 53, .tmp 3]) (ts := [53, 37]) rfl rfl, *])))
              all_goals try rfl
            | true =>
              have hsh' : Shut ((acc ++ [⟨pb, pp⟩]) ++ (setsF rest).1 = (setsF L).1 ∧ (setsF rest).2.1 = (setsF L).2.1 ∧ (setsF rest).2.2 = (setsF L).2.2) := by
                obtain ⟨h1, h2, h3⟩ := hsh
                exact ⟨by rw [← h1]; simp, by rw [← h2]; simp, h3⟩
              clear hsh
              (try (simp only [↓ru, rv, rl, ry, tyf, iM, bM, bsM, cond_true, cond_false, Nat.reduceLT, Nat.reduceBEq, Nat.reduceAdd, Nat.reduceEqDiff, Nat.reduceMul, Nat.reduceLeDiff, Nat.reduceSub, Nat.reduceDiv, Int.reduceLE, Int.reduceLT, Int.reduceNeg, Int.reduceAdd, Int.reduceSub, Int.reduceMul, Int.reduceToNat, Int.reducePow, Int.reduceEq, ne_eq, reduceIte, byteD, dstr, un1_str, iD, bD, d0, dq, List.length_cons, List.length_nil, *])); repeat' ((first | (refine fork_split (fun _h => ?_) (fun _h => ?_)) | (refine gfork_split (fun _h => ?_) (fun _h => ?_)) | (refine dfork_split (fun _h => ?_) (fun _h => ?_)) | (refine acall1_pure hP rfl rfl ?_) | (refine dcall1_pure hP rfl rfl ?_)) <;> (try (simp only [↓ru, rv, rl, ry, tyf, iM, bM, bsM, cond_true, cond_false, Nat.reduceLT, Nat.reduceBEq, Nat.reduceAdd, Nat.reduceEqDiff, Nat.reduceMul, Nat.reduceLeDiff, Nat.reduceSub, Nat.reduceDiv, Int.reduceLE, Int.reduceLT, Int.reduceNeg, Int.reduceAdd, Int.reduceSub, Int.reduceMul, Int.reduceToNat, Int.reducePow, Int.reduceEq, ne_eq, reduceIte, byteD, dstr, un1_str, iD, bD, d0, dq, List.length_cons, List.length_nil, *])))
              refine grd_intro (by simp [pure2]; omega) ?_
              (try simp only [↓ru, rv, rl, ry, tyf, iM, bM, bsM, cond_true, cond_false, Nat.reduceLT, Nat.reduceBEq, Nat.reduceAdd, Nat.reduceEqDiff, Nat.reduceMul, Nat.reduceLeDiff, Nat.reduceSub, Nat.reduceDiv, Int.reduceLE, Int.reduceLT, Int.reduceNeg, Int.reduceAdd, Int.reduceSub, Int.reduceMul, Int.reduceToNat, Int.reducePow, Int.reduceEq, ne_eq, reduceIte, byteD, dstr, un1_str, iD, bD])
              refine grd_intro (by omega) ?_
              unfold Shut at hsh'
              obtain ⟨h1, h2, h3⟩ := hsh'
              refine loopL_drop (acc ++ [⟨pb, pp⟩], rest) ?_ ?_ ⟨h1, h2, h3, hrest, by simp only [List.length_append, List.length_cons, List.length_nil] at h5 ⊢; omega⟩ (by omega) (by simp only [List.length_cons]; omega)
              · simp only [↓ru, rv, rl, ry, tyf, iM, bM, bsM, cond_true, cond_false, Nat.reduceLT, Nat.reduceBEq, Nat.reduceAdd, Nat.reduceEqDiff, Nat.reduceMul, Nat.reduceLeDiff, Nat.reduceSub, Nat.reduceDiv, Int.reduceLE, Int.reduceLT, Int.reduceNeg, Int.reduceAdd, Int.reduceSub, Int.reduceMul, Int.reduceToNat, Int.reducePow, Int.reduceEq, ne_eq, reduceIte, byteD, dstr, un1_str, iD, bD, List.take_length]
                try rfl
              · simp only [↓ru, rv, rl, ry, tyf, iM, bM, bsM, cond_true, cond_false, Nat.reduceLT, Nat.reduceBEq, Nat.reduceAdd, Nat.reduceEqDiff, Nat.reduceMul, Nat.reduceLeDiff, Nat.reduceSub, Nat.reduceDiv, Int.reduceLE, Int.reduceLT, Int.reduceNeg, Int.reduceAdd, Int.reduceSub, Int.reduceMul, Int.reduceToNat, Int.reducePow, Int.reduceEq, ne_eq, reduceIte, byteD, dstr, un1_str, iD, bD]
                try simp [pure2, iD]
          · have dq : decide (w = [115, 101, 116, 116, 105, 110, 103]) = false := decide_eq_false hw
            obtain ⟨s1, s2, s3⟩ := stop (by rw [setsF, if_neg (fun h => hw h.2)])
            have hN := NumbersR [w, x] unitsW 2 hrow (by decide)
            have hn0 : numR [w, x] unitsW 2 = none := by rw [numR, if_neg (fun h => by have := h.1.1; simp at this)]
            rw [hn0] at hN
            have hnf : PR = (cfg0, 1) := hbad (fun hf => by
              have := hf.2.2.2 0 (by decide)
              rw [s3, rowV, show numR (([w, x] :: rest).getD 0 []) (wdsL.getD 0 []) (szsL.getD 0 0) = none from hn0] at this
              cases this)
            subst hnf
            by_cases h10 : rest.length + 1 = 10
            · have d1 : decide (((rest.length + 1 : Nat) : Int) = 10) = true := decide_eq_true (by omega)
              (try (simp only [↓ru, rv, rl, ry, tyf, iM, bM, bsM, cond_true, cond_false, Nat.reduceLT, Nat.reduceBEq, Nat.reduceAdd, Nat.reduceEqDiff, Nat.reduceMul, Nat.reduceLeDiff, Nat.reduceSub, Nat.reduceDiv, Int.reduceLE, Int.reduceLT, Int.reduceNeg, Int.reduceAdd, Int.reduceSub, Int.reduceMul, Int.reduceToNat, Int.reducePow, Int.reduceEq, ne_eq, reduceIte, byteD, dstr, un1_str, iD, bD, ↓bs10s, ↓bs10i, d0, d1, dq, List.length_cons, List.length_nil, *])); repeat' ((first | (refine fork_split (fun _h => ?_) (fun _h => ?_)) | (refine gfork_split (fun _h => ?_) (fun _h => ?_)) | (refine dfork_split (fun _h => ?_) (fun _h => ?_))) <;> (try (simp only [↓ru, rv, rl, ry, tyf, iM, bM, bsM, cond_true, cond_false, Nat.reduceLT, Nat.reduceBEq, Nat.reduceAdd, Nat.reduceEqDiff, Nat.reduceMul, Nat.reduceLeDiff, Nat.reduceSub, Nat.reduceDiv, Int.reduceLE, Int.reduceLT, Int.reduceNeg, Int.reduceAdd, Int.reduceSub, Int.reduceMul, Int.reduceToNat, Int.reducePow, Int.reduceEq, ne_eq, reduceIte, byteD, dstr, un1_str, iD, bD, ↓bs10s, ↓bs10i, d0, d1, dq, List.length_cons, List.length_nil, *])))
              refine aloop_unroll 2 ?_
              simp only [↓ru, rv, rl, ry, tyf, iM, bM, bsM, cond_true, cond_false, Nat.reduceLT, Nat.reduceBEq, Nat.reduceAdd, Nat.reduceEqDiff, Nat.reduceMul, Nat.reduceLeDiff, Nat.reduceSub, Nat.reduceDiv, Int.reduceLE, Int.reduceLT, Int.reduceNeg, Int.reduceAdd, Int.reduceSub, Int.reduceMul, Int.reduceToNat, Int.reducePow, Int.reduceEq, ne_eq, reduceIte, byteD, dstr, un1_str, iD, bD]
              (try (simp only [↓ru, rv, rl, ry, tyf, iM, bM, bsM, cond_true, cond_false, Nat.reduceLT, Nat.reduceBEq, Nat.reduceAdd, Nat.reduceEqDiff, Nat.reduceMul, Nat.reduceLeDiff, Nat.reduceSub, Nat.reduceDiv, Int.reduceLE, Int.reduceLT, Int.reduceNeg, Int.reduceAdd, Int.reduceSub, Int.reduceMul, Int.reduceToNat, Int.reducePow, Int.reduceEq, ne_eq, reduceIte, byteD, dstr, un1_str, iD, bD, unR_ret, unR_exit, List.length_cons, List.length_nil, Option.getD_none, Option.isSome_none, pureEnd_of (fn := Tryd.f42) (rs := [.cell 2 53, .tmp 3]) (ts := [53, 37]) rfl rfl, *])); repeat' ((first | (refine fork_split (fun _h => ?_) (fun _h => ?_)) | (refine gfork_split (fun _h => ?_) (fun _h => ?_)) | (refine dfork_split (fun _h => ?_) (fun _h => ?_)) | (refine acall1_pure hN rfl rfl ?_) | (refine dcall1_pure hN rfl rfl ?_)) <;> (try (simp only [↓ru, rv, rl, ry, tyf, iM, bM, bsM, cond_true, cond_false, Nat.reduceLT, Nat.reduceBEq, Nat.reduceAdd, Nat.reduceEqDiff, Nat.reduceMul, Nat.reduceLeDiff, Nat.reduceSub, Nat.reduceDiv, Int.reduceLE, Int.reduceLT, Int.reduceNeg, Int.reduceAdd, Int.reduceSub, Int.reduceMul, Int.reduceToNat, Int.reducePow, Int.reduceEq, ne_eq, reduceIte, byteD, dstr, un1_str, iD, bD, unR_ret, unR_exit, List.length_cons, List.length_nil, Option.getD_none, Option.isSome_none, pureEnd_of (fn := Tryd.f42) (rs := [.cell 2 53, .tmp 3]) (ts := [53, 37]) rfl rfl, *])))
              all_goals try rfl
            · have d1 : decide (((rest.length + 1 : Nat) : Int) = 10) = false := decide_eq_false (by omega)
              (try (simp only [↓ru, rv, rl, ry, tyf, iM, bM, bsM, cond_true, cond_false, Nat.reduceLT, Nat.reduceBEq, Nat.reduceAdd, Nat.reduceEqDiff, Nat.reduceMul, Nat.reduceLeDiff, Nat.reduceSub, Nat.reduceDiv, Int.reduceLE, Int.reduceLT, Int.reduceNeg, Int.reduceAdd, Int.reduceSub, Int.reduceMul, Int.reduceToNat, Int.reducePow, Int.reduceEq, ne_eq, reduceIte, byteD, dstr, un1_str, iD, bD, ↓bs10s, ↓bs10i, d0, d1, dq, List.length_cons, List.length_nil, pureEnd_of (fn := Tryd.f42) (rs := [.cell 2 53, .tmp 3]) (ts := [53, 37]) rfl rfl, *])); repeat' ((first | (refine fork_split (fun _h => ?_) (fun _h => ?_)) | (refine gfork_split (fun _h => ?_) (fun _h => ?_)) | (refine dfork_split (fun _h => ?_) (fun _h => ?_))) <;> (try (simp only [↓ru, rv, rl, ry, tyf, iM, bM, bsM, cond_true, cond_false, Nat.reduceLT, Nat.reduceBEq, Nat.reduceAdd, Nat.reduceEqDiff, Nat.reduceMul, Nat.reduceLeDiff, Nat.reduceSub, Nat.reduceDiv, Int.reduceLE, Int.reduceLT, Int.reduceNeg, Int.reduceAdd, Int.reduceSub, Int.reduceMul, Int.reduceToNat, Int.reducePow, Int.reduceEq, ne_eq, reduceIte, byteD, dstr, un1_str, iD, bD, ↓bs10s, ↓bs10i, d0, d1, dq, List.length_cons, List.length_nil, pureEnd_of (fn := Tryd.f42) (rs := [.cell 2 53, .tmp 3]) (ts := [53, 37]) rfl rfl, *])))
              all_goals try rfl
      · obtain ⟨s1, s2, s3⟩ := stop (by rw [setsF, if_neg (fun h => hr2 h.1)])
        have d2 : decide ((row.length : Int) = 2) = false := decide_eq_false (by omega)
        have hfin : Shut (fineR L false ↔ (row :: rest).length = 10 ∧ ∀ i, i < 10 → (rowV (row :: rest) i).isSome = true) := by
          unfold Shut fineR
          rw [s1, s3]
          exact ⟨fun h => h.2.2, fun h => ⟨rfl, rfl, h⟩⟩
        rw [s2, s3] at hgood
        have hqR : RK (row :: rest) := ⟨q1, q2⟩
        clear s1 s2 s3 stop hsh q1 q2 hrow hrest hRw
        by_cases h10 : rest.length + 1 = 10
        · have d1 : decide (((rest.length + 1 : Nat) : Int) = 10) = true := decide_eq_true (by omega)
          (try (simp only [↓ru, rv, rl, ry, tyf, iM, bM, bsM, cond_true, cond_false, Nat.reduceLT, Nat.reduceBEq, Nat.reduceAdd, Nat.reduceEqDiff, Nat.reduceMul, Nat.reduceLeDiff, Nat.reduceSub, Nat.reduceDiv, Int.reduceLE, Int.reduceLT, Int.reduceNeg, Int.reduceAdd, Int.reduceSub, Int.reduceMul, Int.reduceToNat, Int.reducePow, Int.reduceEq, ne_eq, reduceIte, byteD, dstr, un1_str, iD, bD, ↓bs10s, ↓bs10i, d0, d1, d2, List.length_cons, List.length_nil, *])); repeat' ((first | (refine fork_split (fun _h => ?_) (fun _h => ?_)) | (refine gfork_split (fun _h => ?_) (fun _h => ?_)) | (refine dfork_split (fun _h => ?_) (fun _h => ?_))) <;> (try (simp only [↓ru, rv, rl, ry, tyf, iM, bM, bsM, cond_true, cond_false, Nat.reduceLT, Nat.reduceBEq, Nat.reduceAdd, Nat.reduceEqDiff, Nat.reduceMul, Nat.reduceLeDiff, Nat.reduceSub, Nat.reduceDiv, Int.reduceLE, Int.reduceLT, Int.reduceNeg, Int.reduceAdd, Int.reduceSub, Int.reduceMul, Int.reduceToNat, Int.reducePow, Int.reduceEq, ne_eq, reduceIte, byteD, dstr, un1_str, iD, bD, ↓bs10s, ↓bs10i, d0, d1, d2, List.length_cons, List.length_nil, *])))
          obtain ⟨r1, r2, r3, r4, r5, r6, r7, r8, r9, r10, hR⟩ := list10 (R := row :: rest) (by simpa using h10)
          obtain ⟨rfl, rfl⟩ := List.cons.inj hR
          obtain ⟨_, hKb⟩ := hqR
          clear hR d0 d1 d2 h10 hll
          refine aloop_lv (fun i : Nat => [(2, .ptr 0 0), (3, iM 0), (4, rowsM [row, r2, r3, r4, r5, r6, r7, r8, r9, r10]), (6, .ptr 11 0), (9, .hsl (n + 25) 10), (10, .hsl (n + 27) 10), (11, iM i)])
            (fun i => [(n + 27, .ar false 1 [[iM 2], [iM 1], [iM 1], [iM 1], [iM 3], [iM 3], [iM 3], [iM 3], [iM 1], [iM 1]]), (n + 25, .ar false 1 [[strM [117, 110, 105, 116, 115]], [strM [114, 101, 116, 114, 105, 101, 115]], [strM [116, 105, 109, 101, 111, 117, 116]], [strM [100, 101, 108, 97, 121]], [strM [119, 105, 110, 100, 111, 119]], [strM [119, 105, 110, 100, 111, 119]], [strM [119, 105, 110, 100, 111, 119]], [strM [119, 105, 110, 100, 111, 119]], [strM [101, 118, 101, 114, 121]], [strM [115, 116, 111, 114, 101]]]), (12, .ar false 2 (pure2 (acc.map stgD))), (11, .st [.hsl 12 acc.length, iM (iF i 0 (celV [row, r2, r3, r4, r5, r6, r7, r8, r9, r10] 0 0)), iM (iF i 0 (celV [row, r2, r3, r4, r5, r6, r7, r8, r9, r10] 0 1)), iM (iF i 1 (celV [row, r2, r3, r4, r5, r6, r7, r8, r9, r10] 1 0)), iM (iF i 2 (celV [row, r2, r3, r4, r5, r6, r7, r8, r9, r10] 2 0)), iM (iF i 3 (celV [row, r2, r3, r4, r5, r6, r7, r8, r9, r10] 3 0)), iM (iF i 4 (celV [row, r2, r3, r4, r5, r6, r7, r8, r9, r10] 4 1)), iM (iF i 4 (celV [row, r2, r3, r4, r5, r6, r7, r8, r9, r10] 4 2)), iM (iF i 5 (celV [row, r2, r3, r4, r5, r6, r7, r8, r9, r10] 5 1)), iM (iF i 5 (celV [row, r2, r3, r4, r5, r6, r7, r8, r9, r10] 5 2)), iM (iF i 6 (celV [row, r2, r3, r4, r5, r6, r7, r8, r9, r10] 6 1)), iM (iF i 6 (celV [row, r2, r3, r4, r5, r6, r7, r8, r9, r10] 6 2)), iM (iF i 7 (celV [row, r2, r3, r4, r5, r6, r7, r8, r9, r10] 7 1)), iM (iF i 7 (celV [row, r2, r3, r4, r5, r6, r7, r8, r9, r10] 7 2)), iM (iF i 8 (celV [row, r2, r3, r4, r5, r6, r7, r8, r9, r10] 8 0)), iM (iF i 9 (celV [row, r2, r3, r4, r5, r6, r7, r8, r9, r10] 9 0))]), (0, cfgZ)])
            (fun i => i ≤ 10 ∧ ∀ j, j < i → (rowV [row, r2, r3, r4, r5, r6, r7, r8, r9, r10] j).isSome = true) (fun i => 10 - i) 0 0 ?_ ?_ ⟨by omega, fun j hj => by omega⟩ (by omega) ?_
          · simp only [↓ru, rv, rl, ry, tyf, iM, bM, bsM, cond_true, cond_false, Nat.reduceLT, Nat.reduceBEq, Nat.reduceAdd, Nat.reduceEqDiff, Nat.reduceMul, Nat.reduceLeDiff, Nat.reduceSub, Nat.reduceDiv, Int.reduceLE, Int.reduceLT, Int.reduceNeg, Int.reduceAdd, Int.reduceSub, Int.reduceMul, Int.reduceToNat, Int.reducePow, Int.reduceEq, ne_eq, reduceIte, byteD, dstr, un1_str, iD, bD]
            try simp
          · simp only [iF, Nat.not_lt_zero, if_false]
          intro i f0 n3 ⟨hi, hv⟩
          have hi10 : i = 0 ∨ i = 1 ∨ i = 2 ∨ i = 3 ∨ i = 4 ∨ i = 5 ∨ i = 6 ∨ i = 7 ∨ i = 8 ∨ i = 9 ∨ i = 10 := by omega
          rcases hi10 with rfl | rfl | rfl | rfl | rfl | rfl | rfl | rfl | rfl | rfl | rfl
          · have hN := NumbersR row unitsW 2 (hKb row (by simp)) (by decide)
            have hrv : rowV [row, r2, r3, r4, r5, r6, r7, r8, r9, r10] 0 = match numR row unitsW 2 with | some l => if 2 = 3 ∧ l.getD 0 0 ≠ ((0 : Nat) : Int) - 3 then none else some l | none => none := rfl
            simp only [iF, Nat.reduceLT, Nat.not_lt_zero, Nat.lt_irrefl, if_true, if_false, reduceIte]
            have ew : IntKind.i64.wrap 1 = 1 := by decide
            cases hn : numR row unitsW 2 with
            | none =>
              rw [hn] at hN hrv
              have hnf : PR = (cfg0, 1) := hbad (fun hf => by have := (hfin.1 hf).2 0 (by decide); rw [hrv] at this; cases this)
              subst hnf
              (try (simp only [↓ru, rv, rl, ry, tyf, iM, bM, bsM, cond_true, cond_false, Nat.reduceLT, Nat.reduceBEq, Nat.reduceAdd, Nat.reduceEqDiff, Nat.reduceMul, Nat.reduceLeDiff, Nat.reduceSub, Nat.reduceDiv, Int.reduceLE, Int.reduceLT, Int.reduceNeg, Int.reduceAdd, Int.reduceSub, Int.reduceMul, Int.reduceToNat, Int.reducePow, Int.reduceEq, ne_eq, reduceIte, byteD, dstr, un1_str, iD, bD, Option.getD_none, Option.isSome_none, List.length_cons, List.length_nil, pureEnd_of (fn := Tryd.f42) (rs := [.cell 2 53, .tmp 3]) (ts := [53, 37]) rfl rfl, *])); repeat' ((first | (refine fork_split (fun _h => ?_) (fun _h => ?_)) | (refine gfork_split (fun _h => ?_) (fun _h => ?_)) | (refine dfork_split (fun _h => ?_) (fun _h => ?_)) | (refine acall1_pure hN rfl rfl ?_) | (refine dcall1_pure hN rfl rfl ?_)) <;> (try (simp only [↓ru, rv, rl, ry, tyf, iM, bM, bsM, cond_true, cond_false, Nat.reduceLT, Nat.reduceBEq, Nat.reduceAdd, Nat.reduceEqDiff, Nat.reduceMul, Nat.reduceLeDiff, Nat.reduceSub, Nat.reduceDiv, Int.reduceLE, Int.reduceLT, Int.reduceNeg, Int.reduceAdd, Int.reduceSub, Int.reduceMul, Int.reduceToNat, Int.reducePow, Int.reduceEq, ne_eq, reduceIte, byteD, dstr, un1_str, iD, bD, Option.getD_none, Option.isSome_none, List.length_cons, List.length_nil, pureEnd_of (fn := Tryd.f42) (rs := [.cell 2 53, .tmp 3]) (ts := [53, 37]) rfl rfl, *])))
              all_goals try rfl
            | some l =>
              rw [hn] at hN hrv
              obtain ⟨g1, _, _, g4⟩ := numR_some hn
              have hll : l.length = 2 := by rw [g4]; simp; omega
              clear g1 g4
              match l, hll with
              | [a, b], _ =>
                have hrv' : rowV [row, r2, r3, r4, r5, r6, r7, r8, r9, r10] 0 = some [a, b] := by rw [hrv]; rfl
                have e0 : celV [row, r2, r3, r4, r5, r6, r7, r8, r9, r10] 0 0 = a := by rw [celV, hrv']; rfl
                have e1 : celV [row, r2, r3, r4, r5, r6, r7, r8, r9, r10] 0 1 = b := by rw [celV, hrv']; rfl
                (try (simp only [↓ru, rv, rl, ry, tyf, iM, bM, bsM, cond_true, cond_false, Nat.reduceLT, Nat.reduceBEq, Nat.reduceAdd, Nat.reduceEqDiff, Nat.reduceMul, Nat.reduceLeDiff, Nat.reduceSub, Nat.reduceDiv, Int.reduceLE, Int.reduceLT, Int.reduceNeg, Int.reduceAdd, Int.reduceSub, Int.reduceMul, Int.reduceToNat, Int.reducePow, Int.reduceEq, ne_eq, reduceIte, byteD, dstr, un1_str, iD, bD, ew, Option.getD_some, Option.isSome_some, List.length_cons, List.length_nil, *])); repeat' ((first | (refine fork_split (fun _h => ?_) (fun _h => ?_)) | (refine gfork_split (fun _h => ?_) (fun _h => ?_)) | (refine dfork_split (fun _h => ?_) (fun _h => ?_)) | (refine acall1_pure hN rfl rfl ?_) | (refine dcall1_pure hN rfl rfl ?_)) <;> (try (simp only [↓ru, rv, rl, ry, tyf, iM, bM, bsM, cond_true, cond_false, Nat.reduceLT, Nat.reduceBEq, Nat.reduceAdd, Nat.reduceEqDiff, Nat.reduceMul, Nat.reduceLeDiff, Nat.reduceSub, Nat.reduceDiv, Int.reduceLE, Int.reduceLT, Int.reduceNeg, Int.reduceAdd, Int.reduceSub, Int.reduceMul, Int.reduceToNat, Int.reducePow, Int.reduceEq, ne_eq, reduceIte, byteD, dstr, un1_str, iD, bD, ew, Option.getD_some, Option.isSome_some, List.length_cons, List.length_nil, *])))
                refine loopL_drop 1 ?_ ?_ ⟨by decide, fun j hj => ?_⟩ (by omega) (by decide)
                · simp only [↓ru, rv, rl, ry, tyf, iM, bM, bsM, cond_true, cond_false, Nat.reduceLT, Nat.reduceBEq, Nat.reduceAdd, Nat.reduceEqDiff, Nat.reduceMul, Nat.reduceLeDiff, Nat.reduceSub, Nat.reduceDiv, Int.reduceLE, Int.reduceLT, Int.reduceNeg, Int.reduceAdd, Int.reduceSub, Int.reduceMul, Int.reduceToNat, Int.reducePow, Int.reduceEq, ne_eq, reduceIte, byteD, dstr, un1_str, iD, bD, ew]
                  try simp
                · simp only [iF, Nat.reduceLT, Nat.not_lt_zero, Nat.lt_irrefl, if_true, if_false, reduceIte, e0, e1]
                  simp only [↓ru, rv, rl, ry, tyf, iM, bM, bsM, cond_true, cond_false, Nat.reduceLT, Nat.reduceBEq, Nat.reduceAdd, Nat.reduceEqDiff, Nat.reduceMul, Nat.reduceLeDiff, Nat.reduceSub, Nat.reduceDiv, Int.reduceLE, Int.reduceLT, Int.reduceNeg, Int.reduceAdd, Int.reduceSub, Int.reduceMul, Int.reduceToNat, Int.reducePow, Int.reduceEq, ne_eq, reduceIte, byteD, dstr, un1_str, iD, bD]
                · by_cases hj' : j = 0
                  · subst hj'; rw [hrv']; rfl
                  · exact hv j (by omega)
          · have hN := NumbersR r2 retriesW 1 (hKb r2 (by simp)) (by decide)
            have hrv : rowV [row, r2, r3, r4, r5, r6, r7, r8, r9, r10] 1 = match numR r2 retriesW 1 with | some l => if 1 = 3 ∧ l.getD 0 0 ≠ ((1 : Nat) : Int) - 3 then none else some l | none => none := rfl
            simp only [iF, Nat.reduceLT, Nat.not_lt_zero, Nat.lt_irrefl, if_true, if_false, reduceIte]
            have ew : IntKind.i64.wrap 2 = 2 := by decide
            cases hn : numR r2 retriesW 1 with
            | none =>
              rw [hn] at hN hrv
              have hnf : PR = (cfg0, 1) := hbad (fun hf => by have := (hfin.1 hf).2 1 (by decide); rw [hrv] at this; cases this)
              subst hnf
              (try (simp only [↓ru, rv, rl, ry, tyf, iM, bM, bsM, cond_true, cond_false, Nat.reduceLT, Nat.reduceBEq, Nat.reduceAdd, Nat.reduceEqDiff, Nat.reduceMul, Nat.reduceLeDiff, Nat.reduceSub, Nat.reduceDiv, Int.reduceLE, Int.reduceLT, Int.reduceNeg, Int.reduceAdd, Int.reduceSub, Int.reduceMul, Int.reduceToNat, Int.reducePow, Int.reduceEq, ne_eq, reduceIte, byteD, dstr, un1_str, iD, bD, Option.getD_none, Option.isSome_none, List.length_cons, List.length_nil, pureEnd_of (fn := Tryd.f42) (rs := [.cell 2 53, .tmp 3]) (ts := [53, 37]) rfl rfl, *])); repeat' ((first | (refine fork_split (fun _h => ?_) (fun _h => ?_)) | (refine gfork_split (fun _h => ?_) (fun _h => ?_)) | (refine dfork_split (fun _h => ?_) (fun _h => ?_)) | (refine acall1_pure hN rfl rfl ?_) | (refine dcall1_pure hN rfl rfl ?_)) <;> (try (simp only [↓ru, rv, rl, ry, tyf, iM, bM, bsM, cond_true, cond_false, Nat.reduceLT, Nat.reduceBEq, Nat.reduceAdd, Nat.reduceEqDiff, Nat.reduceMul, Nat.reduceLeDiff, Nat.reduceSub, Nat.reduceDiv, Int.reduceLE, Int.reduceLT, Int.reduceNeg, Int.reduceAdd, Int.reduceSub, Int.reduceMul, Int.reduceToNat, Int.reducePow, Int.reduceEq, ne_eq, reduceIte, byteD, dstr, un1_str, iD, bD, Option.getD_none, Option.isSome_none, List.length_cons, List.length_nil, pureEnd_of (fn := Tryd.f42) (rs := [.cell 2 53, .tmp 3]) (ts := [53, 37]) rfl rfl, *])))
              all_goals try rfl
            | some l =>
              rw [hn] at hN hrv
              obtain ⟨g1, _, _, g4⟩ := numR_some hn
              have hll : l.length = 1 := by rw [g4]; simp; omega
              clear g1 g4
              match l, hll with
              | [a], _ =>
                have hrv' : rowV [row, r2, r3, r4, r5, r6, r7, r8, r9, r10] 1 = some [a] := by rw [hrv]; rfl
                have e0 : celV [row, r2, r3, r4, r5, r6, r7, r8, r9, r10] 1 0 = a := by rw [celV, hrv']; rfl
                (try (simp only [↓ru, rv, rl, ry, tyf, iM, bM, bsM, cond_true, cond_false, Nat.reduceLT, Nat.reduceBEq, Nat.reduceAdd, Nat.reduceEqDiff, Nat.reduceMul, Nat.reduceLeDiff, Nat.reduceSub, Nat.reduceDiv, Int.reduceLE, Int.reduceLT, Int.reduceNeg, Int.reduceAdd, Int.reduceSub, Int.reduceMul, Int.reduceToNat, Int.reducePow, Int.reduceEq, ne_eq, reduceIte, byteD, dstr, un1_str, iD, bD, ew, Option.getD_some, Option.isSome_some, List.length_cons, List.length_nil, *])); repeat' ((first | (refine fork_split (fun _h => ?_) (fun _h => ?_)) | (refine gfork_split (fun _h => ?_) (fun _h => ?_)) | (refine dfork_split (fun _h => ?_) (fun _h => ?_)) | (refine acall1_pure hN rfl rfl ?_) | (refine dcall1_pure hN rfl rfl ?_)) <;> (try (simp only [↓ru, rv, rl, ry, tyf, iM, bM, bsM, cond_true, cond_false, Nat.reduceLT, Nat.reduceBEq, Nat.reduceAdd, Nat.reduceEqDiff, Nat.reduceMul, Nat.reduceLeDiff, Nat.reduceSub, Nat.reduceDiv, Int.reduceLE, Int.reduceLT, Int.reduceNeg, Int.reduceAdd, Int.reduceSub, Int.reduceMul, Int.reduceToNat, Int.reducePow, Int.reduceEq, ne_eq, reduceIte, byteD, dstr, un1_str, iD, bD, ew, Option.getD_some, Option.isSome_some, List.length_cons, List.length_nil, *])))
                refine loopL_drop 2 ?_ ?_ ⟨by decide, fun j hj => ?_⟩ (by omega) (by decide)
                · simp only [↓ru, rv, rl, ry, tyf, iM, bM, bsM, cond_true, cond_false, Nat.reduceLT, Nat.reduceBEq, Nat.reduceAdd, Nat.reduceEqDiff, Nat.reduceMul, Nat.reduceLeDiff, Nat.reduceSub, Nat.reduceDiv, Int.reduceLE, Int.reduceLT, Int.reduceNeg, Int.reduceAdd, Int.reduceSub, Int.reduceMul, Int.reduceToNat, Int.reducePow, Int.reduceEq, ne_eq, reduceIte, byteD, dstr, un1_str, iD, bD, ew]
                  try simp
                · simp only [iF, Nat.reduceLT, Nat.not_lt_zero, Nat.lt_irrefl, if_true, if_false, reduceIte, e0]
                  simp only [↓ru, rv, rl, ry, tyf, iM, bM, bsM, cond_true, cond_false, Nat.reduceLT, Nat.reduceBEq, Nat.reduceAdd, Nat.reduceEqDiff, Nat.reduceMul, Nat.reduceLeDiff, Nat.reduceSub, Nat.reduceDiv, Int.reduceLE, Int.reduceLT, Int.reduceNeg, Int.reduceAdd, Int.reduceSub, Int.reduceMul, Int.reduceToNat, Int.reducePow, Int.reduceEq, ne_eq, reduceIte, byteD, dstr, un1_str, iD, bD]
                · by_cases hj' : j = 1
                  · subst hj'; rw [hrv']; rfl
                  · exact hv j (by omega)
          · have hN := NumbersR r3 timeoutW 1 (hKb r3 (by simp)) (by decide)
            have hrv : rowV [row, r2, r3, r4, r5, r6, r7, r8, r9, r10] 2 = match numR r3 timeoutW 1 with | some l => if 1 = 3 ∧ l.getD 0 0 ≠ ((2 : Nat) : Int) - 3 then none else some l | none => none := rfl
            simp only [iF, Nat.reduceLT, Nat.not_lt_zero, Nat.lt_irrefl, if_true, if_false, reduceIte]
            have ew : IntKind.i64.wrap 3 = 3 := by decide
            cases hn : numR r3 timeoutW 1 with
            | none =>
              rw [hn] at hN hrv
              have hnf : PR = (cfg0, 1) := hbad (fun hf => by have := (hfin.1 hf).2 2 (by decide); rw [hrv] at this; cases this)
              subst hnf
              (try (simp only [↓ru, rv, rl, ry, tyf, iM, bM, bsM, cond_true, cond_false, Nat.reduceLT, Nat.reduceBEq, Nat.reduceAdd, Nat.reduceEqDiff, Nat.reduceMul, Nat.reduceLeDiff, Nat.reduceSub, Nat.reduceDiv, Int.reduceLE, Int.reduceLT, Int.reduceNeg, Int.reduceAdd, Int.reduceSub, Int.reduceMul, Int.reduceToNat, Int.reducePow, Int.reduceEq, ne_eq, reduceIte, byteD, dstr, un1_str, iD, bD, Option.getD_none, Option.isSome_none, List.length_cons, List.length_nil, pureEnd_of (fn := Tryd.f42) (rs := [.cell 2 53, .tmp 3]) (ts := [53, 37]) rfl rfl, *])); repeat' ((first | (refine fork_split (fun _h => ?_) (fun _h => ?_)) | (refine gfork_split (fun _h => ?_) (fun _h => ?_)) | (refine dfork_split (fun _h => ?_) (fun _h => ?_)) | (refine acall1_pure hN rfl rfl ?_) | (refine dcall1_pure hN rfl rfl ?_)) <;> (try (simp only [↓ru, rv, rl, ry, tyf, iM, bM, bsM, cond_true, cond_false, Nat.reduceLT, Nat.reduceBEq, Nat.reduceAdd, Nat.reduceEqDiff, Nat.reduceMul, Nat.reduceLeDiff, Nat.reduceSub, Nat.reduceDiv, Int.reduceLE, Int.reduceLT, Int.reduceNeg, Int.reduceAdd, Int.reduceSub, Int.reduceMul, Int.reduceToNat, Int.reducePow, Int.reduceEq, ne_eq, reduceIte, byteD, dstr, un1_str, iD, bD, Option.getD_none, Option.isSome_none, List.length_cons, List.length_nil, pureEnd_of (fn := Tryd.f42) (rs := [.cell 2 53, .tmp 3]) (ts := [53, 37]) rfl rfl, *])))
              all_goals try rfl
            | some l =>
              rw [hn] at hN hrv
              obtain ⟨g1, _, _, g4⟩ := numR_some hn
              have hll : l.length = 1 := by rw [g4]; simp; omega
              clear g1 g4
              match l, hll with
              | [a], _ =>
                have hrv' : rowV [row, r2, r3, r4, r5, r6, r7, r8, r9, r10] 2 = some [a] := by rw [hrv]; rfl
                have e0 : celV [row, r2, r3, r4, r5, r6, r7, r8, r9, r10] 2 0 = a := by rw [celV, hrv']; rfl
                (try (simp only [↓ru, rv, rl, ry, tyf, iM, bM, bsM, cond_true, cond_false, Nat.reduceLT, Nat.reduceBEq, Nat.reduceAdd, Nat.reduceEqDiff, Nat.reduceMul, Nat.reduceLeDiff, Nat.reduceSub, Nat.reduceDiv, Int.reduceLE, Int.reduceLT, Int.reduceNeg, Int.reduceAdd, Int.reduceSub, Int.reduceMul, Int.reduceToNat, Int.reducePow, Int.reduceEq, ne_eq, reduceIte, byteD, dstr, un1_str, iD, bD, ew, Option.getD_some, Option.isSome_some, List.length_cons, List.length_nil, *])); repeat' ((first | (refine fork_split (fun _h => ?_) (fun _h => ?_)) | (refine gfork_split (fun _h => ?_) (fun _h => ?_)) | (refine dfork_split (fun _h => ?_) (fun _h => ?_)) | (refine acall1_pure hN rfl rfl ?_) | (refine dcall1_pure hN rfl rfl ?_)) <;> (try (simp only [↓ru, rv, rl, ry, tyf, iM, bM, bsM, cond_true, cond_false, Nat.reduceLT, Nat.reduceBEq, Nat.reduceAdd, Nat.reduceEqDiff, Nat.reduceMul, Nat.reduceLeDiff, Nat.reduceSub, Nat.reduceDiv, Int.reduceLE, Int.reduceLT, Int.reduceNeg, Int.reduceAdd, Int.reduceSub, Int.reduceMul, Int.reduceToNat, Int.reducePow, Int.reduceEq, ne_eq, reduceIte, byteD, dstr, un1_str, iD, bD, ew, Option.getD_some, Option.isSome_some, List.length_cons, List.length_nil, *])))
                refine loopL_drop 3 ?_ ?_ ⟨by decide, fun j hj => ?_⟩ (by omega) (by decide)
                · simp only [↓ru, rv, rl, ry, tyf, iM, bM, bsM, cond_true, cond_false, Nat.reduceLT, Nat.reduceBEq, Nat.reduceAdd, Nat.reduceEqDiff, Nat.reduceMul, Nat.reduceLeDiff, Nat.reduceSub, Nat.reduceDiv, Int.reduceLE, Int.reduceLT, Int.reduceNeg, Int.reduceAdd, Int.reduceSub, Int.reduceMul, Int.reduceToNat, Int.reducePow, Int.reduceEq, ne_eq, reduceIte, byteD, dstr, un1_str, iD, bD, ew]
                  try simp
                · simp only [iF, Nat.reduceLT, Nat.not_lt_zero, Nat.lt_irrefl, if_true, if_false, reduceIte, e0]
                  simp only [↓ru, rv, rl, ry, tyf, iM, bM, bsM, cond_true, cond_false, Nat.reduceLT, Nat.reduceBEq, Nat.reduceAdd, Nat.reduceEqDiff, Nat.reduceMul, Nat.reduceLeDiff, Nat.reduceSub, Nat.reduceDiv, Int.reduceLE, Int.reduceLT, Int.reduceNeg, Int.reduceAdd, Int.reduceSub, Int.reduceMul, Int.reduceToNat, Int.reducePow, Int.reduceEq, ne_eq, reduceIte, byteD, dstr, un1_str, iD, bD]
                · by_cases hj' : j = 2
                  · subst hj'; rw [hrv']; rfl
                  · exact hv j (by omega)
          · have hN := NumbersR r4 delayW 1 (hKb r4 (by simp)) (by decide)
            have hrv : rowV [row, r2, r3, r4, r5, r6, r7, r8, r9, r10] 3 = match numR r4 delayW 1 with | some l => if 1 = 3 ∧ l.getD 0 0 ≠ ((3 : Nat) : Int) - 3 then none else some l | none => none := rfl
            simp only [iF, Nat.reduceLT, Nat.not_lt_zero, Nat.lt_irrefl, if_true, if_false, reduceIte]
            have ew : IntKind.i64.wrap 4 = 4 := by decide
            cases hn : numR r4 delayW 1 with
            | none =>
              rw [hn] at hN hrv
              have hnf : PR = (cfg0, 1) := hbad (fun hf => by have := (hfin.1 hf).2 3 (by decide); rw [hrv] at this; cases this)
              subst hnf
              (try (simp only [↓ru, rv, rl, ry, tyf, iM, bM, bsM, cond_true, cond_false, Nat.reduceLT, Nat.reduceBEq, Nat.reduceAdd, Nat.reduceEqDiff, Nat.reduceMul, Nat.reduceLeDiff, Nat.reduceSub, Nat.reduceDiv, Int.reduceLE, Int.reduceLT, Int.reduceNeg, Int.reduceAdd, Int.reduceSub, Int.reduceMul, Int.reduceToNat, Int.reducePow, Int.reduceEq, ne_eq, reduceIte, byteD, dstr, un1_str, iD, bD, Option.getD_none, Option.isSome_none, List.length_cons, List.length_nil, pureEnd_of (fn := Tryd.f42) (rs := [.cell 2 53, .tmp 3]) (ts := [53, 37]) rfl rfl, *])); repeat' ((first | (refine fork_split (fun _h => ?_) (fun _h => ?_)) | (refine gfork_split (fun _h => ?_) (fun _h => ?_)) | (refine dfork_split (fun _h => ?_) (fun _h => ?_)) | (refine acall1_pure hN rfl rfl ?_) | (refine dcall1_pure hN rfl rfl ?_)) <;> (try (simp only [↓ru, rv, rl, ry, tyf, iM, bM, bsM, cond_true, cond_false, Nat.reduceLT, Nat.reduceBEq, Nat.reduceAdd, Nat.reduceEqDiff, Nat.reduceMul, Nat.reduceLeDiff, Nat.reduceSub, Nat.reduceDiv, Int.reduceLE, Int.reduceLT, Int.reduceNeg, Int.reduceAdd, Int.reduceSub, Int.reduceMul, Int.reduceToNat, Int.reducePow, Int.reduceEq, ne_eq, reduceIte, byteD, dstr, un1_str, iD, bD, Option.getD_none, Option.isSome_none, List.length_cons, List.length_nil, pureEnd_of (fn := Tryd.f42) (rs := [.cell 2 53, .tmp 3]) (ts := [53, 37]) rfl rfl, *])))
              all_goals try rfl
            | some l =>
              rw [hn] at hN hrv
              obtain ⟨g1, _, _, g4⟩ := numR_some hn
              have hll : l.length = 1 := by rw [g4]; simp; omega
              clear g1 g4
              match l, hll with
              | [a], _ =>
                have hrv' : rowV [row, r2, r3, r4, r5, r6, r7, r8, r9, r10] 3 = some [a] := by rw [hrv]; rfl
                have e0 : celV [row, r2, r3, r4, r5, r6, r7, r8, r9, r10] 3 0 = a := by rw [celV, hrv']; rfl
                (try (simp only [↓ru, rv, rl, ry, tyf, iM, bM, bsM, cond_true, cond_false, Nat.reduceLT, Nat.reduceBEq, Nat.reduceAdd, Nat.reduceEqDiff, Nat.reduceMul, Nat.reduceLeDiff, Nat.reduceSub, Nat.reduceDiv, Int.reduceLE, Int.reduceLT, Int.reduceNeg, Int.reduceAdd, Int.reduceSub, Int.reduceMul, Int.reduceToNat, Int.reducePow, Int.reduceEq, ne_eq, reduceIte, byteD, dstr, un1_str, iD, bD, ew, Option.getD_some, Option.isSome_some, List.length_cons, List.length_nil, *])); repeat' ((first | (refine fork_split (fun _h => ?_) (fun _h => ?_)) | (refine gfork_split (fun _h => ?_) (fun _h => ?_)) | (refine dfork_split (fun _h => ?_) (fun _h => ?_)) | (refine acall1_pure hN rfl rfl ?_) | (refine dcall1_pure hN rfl rfl ?_)) <;> (try (simp only [↓ru, rv, rl, ry, tyf, iM, bM, bsM, cond_true, cond_false, Nat.reduceLT, Nat.reduceBEq, Nat.reduceAdd, Nat.reduceEqDiff, Nat.reduceMul, Nat.reduceLeDiff, Nat.reduceSub, Nat.reduceDiv, Int.reduceLE, Int.reduceLT, Int.reduceNeg, Int.reduceAdd, Int.reduceSub, Int.reduceMul, Int.reduceToNat, Int.reducePow, Int.reduceEq, ne_eq, reduceIte, byteD, dstr, un1_str, iD, bD, ew, Option.getD_some, Option.isSome_some, List.length_cons, List.length_nil, *])))
                refine loopL_drop 4 ?_ ?_ ⟨by decide, fun j hj => ?_⟩ (by omega) (by decide)
                · simp only [↓ru, rv, rl, ry, tyf, iM, bM, bsM, cond_true, cond_false, Nat.reduceLT, Nat.reduceBEq, Nat.reduceAdd, Nat.reduceEqDiff, Nat.reduceMul, Nat.reduceLeDiff, Nat.reduceSub, Nat.reduceDiv, Int.reduceLE, Int.reduceLT, Int.reduceNeg, Int.reduceAdd, Int.reduceSub, Int.reduceMul, Int.reduceToNat, Int.reducePow, Int.reduceEq, ne_eq, reduceIte, byteD, dstr, un1_str, iD, bD, ew]
                  try simp
                · simp only [iF, Nat.reduceLT, Nat.not_lt_zero, Nat.lt_irrefl, if_true, if_false, reduceIte, e0]
                  simp only [↓ru, rv, rl, ry, tyf, iM, bM, bsM, cond_true, cond_false, Nat.reduceLT, Nat.reduceBEq, Nat.reduceAdd, Nat.reduceEqDiff, Nat.reduceMul, Nat.reduceLeDiff, Nat.reduceSub, Nat.reduceDiv, Int.reduceLE, Int.reduceLT, Int.reduceNeg, Int.reduceAdd, Int.reduceSub, Int.reduceMul, Int.reduceToNat, Int.reducePow, Int.reduceEq, ne_eq, reduceIte, byteD, dstr, un1_str, iD, bD]
                · by_cases hj' : j = 3
                  · subst hj'; rw [hrv']; rfl
                  · exact hv j (by omega)
          · have hN := NumbersR r5 windowW 3 (hKb r5 (by simp)) (by decide)
            have hrv : rowV [row, r2, r3, r4, r5, r6, r7, r8, r9, r10] 4 = match numR r5 windowW 3 with | some l => if 3 = 3 ∧ l.getD 0 0 ≠ ((4 : Nat) : Int) - 3 then none else some l | none => none := rfl
            simp only [iF, Nat.reduceLT, Nat.not_lt_zero, Nat.lt_irrefl, if_true, if_false, reduceIte]
            have ew : IntKind.i64.wrap 5 = 5 := by decide
            cases hn : numR r5 windowW 3 with
            | none =>
              rw [hn] at hN hrv
              have hnf : PR = (cfg0, 1) := hbad (fun hf => by have := (hfin.1 hf).2 4 (by decide); rw [hrv] at this; cases this)
              subst hnf
              (try (simp only [↓ru, rv, rl, ry, tyf, iM, bM, bsM, cond_true, cond_false, Nat.reduceLT, Nat.reduceBEq, Nat.reduceAdd, Nat.reduceEqDiff, Nat.reduceMul, Nat.reduceLeDiff, Nat.reduceSub, Nat.reduceDiv, Int.reduceLE, Int.reduceLT, Int.reduceNeg, Int.reduceAdd, Int.reduceSub, Int.reduceMul, Int.reduceToNat, Int.reducePow, Int.reduceEq, ne_eq, reduceIte, byteD, dstr, un1_str, iD, bD, Option.getD_none, Option.isSome_none, List.length_cons, List.length_nil, pureEnd_of (fn := Tryd.f42) (rs := [.cell 2 53, .tmp 3]) (ts := [53, 37]) rfl rfl, *])); repeat' ((first | (refine fork_split (fun _h => ?_) (fun _h => ?_)) | (refine gfork_split (fun _h => ?_) (fun _h => ?_)) | (refine dfork_split (fun _h => ?_) (fun _h => ?_)) | (refine acall1_pure hN rfl rfl ?_) | (refine dcall1_pure hN rfl rfl ?_)) <;> (try (simp only [↓ru, rv, rl, ry, tyf, iM, bM, bsM, cond_true, cond_false, Nat.reduceLT, Nat.reduceBEq, Nat.reduceAdd, Nat.reduceEqDiff, Nat.reduceMul, Nat.reduceLeDiff, Nat.reduceSub, Nat.reduceDiv, Int.reduceLE, Int.reduceLT, Int.reduceNeg, Int.reduceAdd, Int.reduceSub, Int.reduceMul, Int.reduceToNat, Int.reducePow, Int.reduceEq, ne_eq, reduceIte, byteD, dstr, un1_str, iD, bD, Option.getD_none, Option.isSome_none, List.length_cons, List.length_nil, pureEnd_of (fn := Tryd.f42) (rs := [.cell 2 53, .tmp 3]) (ts := [53, 37]) rfl rfl, *])))
              all_goals try rfl
            | some l =>
              rw [hn] at hN hrv
              obtain ⟨g1, _, _, g4⟩ := numR_some hn
              have hll : l.length = 3 := by rw [g4]; simp; omega
              clear g1 g4
              match l, hll with
              | [a, b, c], _ =>
                by_cases ha : a = 1
                · subst ha
                  have hrv' : rowV [row, r2, r3, r4, r5, r6, r7, r8, r9, r10] 4 = some [1, b, c] := by rw [hrv]; rfl
                  have e1 : celV [row, r2, r3, r4, r5, r6, r7, r8, r9, r10] 4 1 = b := by rw [celV, hrv']; rfl
                  have e2 : celV [row, r2, r3, r4, r5, r6, r7, r8, r9, r10] 4 2 = c := by rw [celV, hrv']; rfl
                  have ew3 : IntKind.i64.wrap 1 = 1 := by decide
                  have ew4 : IntKind.i64.wrap 0 = 0 := by decide
                  (try (simp only [↓ru, rv, rl, ry, tyf, iM, bM, bsM, cond_true, cond_false, Nat.reduceLT, Nat.reduceBEq, Nat.reduceAdd, Nat.reduceEqDiff, Nat.reduceMul, Nat.reduceLeDiff, Nat.reduceSub, Nat.reduceDiv, Int.reduceLE, Int.reduceLT, Int.reduceNeg, Int.reduceAdd, Int.reduceSub, Int.reduceMul, Int.reduceToNat, Int.reducePow, Int.reduceEq, ne_eq, reduceIte, byteD, dstr, un1_str, iD, bD, ew, ew3, ew4, Option.getD_some, Option.isSome_some, List.length_cons, List.length_nil, *])); repeat' ((first | (refine fork_split (fun _h => ?_) (fun _h => ?_)) | (refine gfork_split (fun _h => ?_) (fun _h => ?_)) | (refine dfork_split (fun _h => ?_) (fun _h => ?_)) | (refine acall1_pure hN rfl rfl ?_) | (refine dcall1_pure hN rfl rfl ?_)) <;> (try (simp only [↓ru, rv, rl, ry, tyf, iM, bM, bsM, cond_true, cond_false, Nat.reduceLT, Nat.reduceBEq, Nat.reduceAdd, Nat.reduceEqDiff, Nat.reduceMul, Nat.reduceLeDiff, Nat.reduceSub, Nat.reduceDiv, Int.reduceLE, Int.reduceLT, Int.reduceNeg, Int.reduceAdd, Int.reduceSub, Int.reduceMul, Int.reduceToNat, Int.reducePow, Int.reduceEq, ne_eq, reduceIte, byteD, dstr, un1_str, iD, bD, ew, ew3, ew4, Option.getD_some, Option.isSome_some, List.length_cons, List.length_nil, *])))
                  refine loopL_drop 5 ?_ ?_ ⟨by decide, fun j hj => ?_⟩ (by omega) (by decide)
                  · simp only [↓ru, rv, rl, ry, tyf, iM, bM, bsM, cond_true, cond_false, Nat.reduceLT, Nat.reduceBEq, Nat.reduceAdd, Nat.reduceEqDiff, Nat.reduceMul, Nat.reduceLeDiff, Nat.reduceSub, Nat.reduceDiv, Int.reduceLE, Int.reduceLT, Int.reduceNeg, Int.reduceAdd, Int.reduceSub, Int.reduceMul, Int.reduceToNat, Int.reducePow, Int.reduceEq, ne_eq, reduceIte, byteD, dstr, un1_str, iD, bD, ew]
                    try simp
                  · simp only [iF, Nat.reduceLT, Nat.not_lt_zero, Nat.lt_irrefl, if_true, if_false, reduceIte, e1, e2]
                    simp only [↓ru, rv, rl, ry, tyf, iM, bM, bsM, cond_true, cond_false, Nat.reduceLT, Nat.reduceBEq, Nat.reduceAdd, Nat.reduceEqDiff, Nat.reduceMul, Nat.reduceLeDiff, Nat.reduceSub, Nat.reduceDiv, Int.reduceLE, Int.reduceLT, Int.reduceNeg, Int.reduceAdd, Int.reduceSub, Int.reduceMul, Int.reduceToNat, Int.reducePow, Int.reduceEq, ne_eq, reduceIte, byteD, dstr, un1_str, iD, bD]
                  · by_cases hj' : j = 4
                    · subst hj'; rw [hrv']; rfl
                    · exact hv j (by omega)
                · have hrv' : rowV [row, r2, r3, r4, r5, r6, r7, r8, r9, r10] 4 = none := by
                    rw [hrv]
                    simp only
                    rw [if_pos ⟨trivial, by simpa using ha⟩]
                  have hnf : PR = (cfg0, 1) := hbad (fun hf => by have := (hfin.1 hf).2 4 (by decide); rw [hrv'] at this; cases this)
                  subst hnf
                  have ew3 : IntKind.i64.wrap 1 = 1 := by decide
                  have da : decide (a = 1) = false := decide_eq_false ha
                  (try (simp only [↓ru, rv, rl, ry, tyf, iM, bM, bsM, cond_true, cond_false, Nat.reduceLT, Nat.reduceBEq, Nat.reduceAdd, Nat.reduceEqDiff, Nat.reduceMul, Nat.reduceLeDiff, Nat.reduceSub, Nat.reduceDiv, Int.reduceLE, Int.reduceLT, Int.reduceNeg, Int.reduceAdd, Int.reduceSub, Int.reduceMul, Int.reduceToNat, Int.reducePow, Int.reduceEq, ne_eq, reduceIte, byteD, dstr, un1_str, iD, bD, ew3, da, Option.getD_some, Option.isSome_some, List.length_cons, List.length_nil, pureEnd_of (fn := Tryd.f42) (rs := [.cell 2 53, .tmp 3]) (ts := [53, 37]) rfl rfl, *])); repeat' ((first | (refine fork_split (fun _h => ?_) (fun _h => ?_)) | (refine gfork_split (fun _h => ?_) (fun _h => ?_)) | (refine dfork_split (fun _h => ?_) (fun _h => ?_)) | (refine acall1_pure hN rfl rfl ?_) | (refine dcall1_pure hN rfl rfl ?_)) <;> (try (simp only [↓ru, rv, rl, ry, tyf, iM, bM, bsM, cond_true, cond_false, Nat.reduceLT, Nat.reduceBEq, Nat.reduceAdd, Nat.reduceEqDiff, Nat.reduceMul, Nat.reduceLeDiff, Nat.reduceSub, Nat.reduceDiv, Int.reduceLE, Int.reduceLT, Int.reduceNeg, Int.reduceAdd, Int.reduceSub, Int.reduceMul, Int.reduceToNat, Int.reducePow, Int.reduceEq, ne_eq, reduceIte, byteD, dstr, un1_str, iD, bD, ew3, da, Option.getD_some, Option.isSome_some, List.length_cons, List.length_nil, pureEnd_of (fn := Tryd.f42) (rs := [.cell 2 53, .tmp 3]) (ts := [53, 37]) rfl rfl, *])))
                  all_goals try rfl
          · have hN := NumbersR r6 windowW 3 (hKb r6 (by simp)) (by decide)
            have hrv : rowV [row, r2, r3, r4, r5, r6, r7, r8, r9, r10] 5 = match numR r6 windowW 3 with | some l => if 3 = 3 ∧ l.getD 0 0 ≠ ((5 : Nat) : Int) - 3 then none else some l | none => none := rfl
            simp only [iF, Nat.reduceLT, Nat.not_lt_zero, Nat.lt_irrefl, if_true, if_false, reduceIte]
            have ew : IntKind.i64.wrap 6 = 6 := by decide
            cases hn : numR r6 windowW 3 with
            | none =>
              rw [hn] at hN hrv
              have hnf : PR = (cfg0, 1) := hbad (fun hf => by have := (hfin.1 hf).2 5 (by decide); rw [hrv] at this; cases this)
              subst hnf
              (try (simp only [↓ru, rv, rl, ry, tyf, iM, bM, bsM, cond_true, cond_false, Nat.reduceLT, Nat.reduceBEq, Nat.reduceAdd, Nat.reduceEqDiff, Nat.reduceMul, Nat.reduceLeDiff, Nat.reduceSub, Nat.reduceDiv, Int.reduceLE, Int.reduceLT, Int.reduceNeg, Int.reduceAdd, Int.reduceSub, Int.reduceMul, Int.reduceToNat, Int.reducePow, Int.reduceEq, ne_eq, reduceIte, byteD, dstr, un1_str, iD, bD, Option.getD_none, Option.isSome_none, List.length_cons, List.length_nil, pureEnd_of (fn := Tryd.f42) (rs := [.cell 2 53, .tmp 3]) (ts := [53, 37]) rfl rfl, *])); repeat' ((first | (refine fork_split (fun _h => ?_) (fun _h => ?_)) | (refine gfork_split (fun _h => ?_) (fun _h => ?_)) | (refine dfork_split (fun _h => ?_) (fun _h => ?_)) | (refine acall1_pure hN rfl rfl ?_) | (refine dcall1_pure hN rfl rfl ?_)) <;> (try (simp only [↓ru, rv, rl, ry, tyf, iM, bM, bsM, cond_true, cond_false, Nat.reduceLT, Nat.reduceBEq, Nat.reduceAdd, Nat.reduceEqDiff, Nat.reduceMul, Nat.reduceLeDiff, Nat.reduceSub, Nat.reduceDiv, Int.reduceLE, Int.reduceLT, Int.reduceNeg, Int.reduceAdd, Int.reduceSub, Int.reduceMul, Int.reduceToNat, Int.reducePow, Int.reduceEq, ne_eq, reduceIte, byteD, dstr, un1_str, iD, bD, Option.getD_none, Option.isSome_none, List.length_cons, List.length_nil, pureEnd_of (fn := Tryd.f42) (rs := [.cell 2 53, .tmp 3]) (ts := [53, 37]) rfl rfl, *])))
              all_goals try rfl
            | some l =>
              rw [hn] at hN hrv
              obtain ⟨g1, _, _, g4⟩ := numR_some hn
              have hll : l.length = 3 := by rw [g4]; simp; omega
              clear g1 g4
              match l, hll with
              | [a, b, c], _ =>
                by_cases ha : a = 2
                · subst ha
                  have hrv' : rowV [row, r2, r3, r4, r5, r6, r7, r8, r9, r10] 5 = some [2, b, c] := by rw [hrv]; rfl
                  have e1 : celV [row, r2, r3, r4, r5, r6, r7, r8, r9, r10] 5 1 = b := by rw [celV, hrv']; rfl
                  have e2 : celV [row, r2, r3, r4, r5, r6, r7, r8, r9, r10] 5 2 = c := by rw [celV, hrv']; rfl
                  have ew3 : IntKind.i64.wrap 2 = 2 := by decide
                  have ew4 : IntKind.i64.wrap 1 = 1 := by decide
                  (try (simp only [↓ru, rv, rl, ry, tyf, iM, bM, bsM, cond_true, cond_false, Nat.reduceLT, Nat.reduceBEq, Nat.reduceAdd, Nat.reduceEqDiff, Nat.reduceMul, Nat.reduceLeDiff, Nat.reduceSub, Nat.reduceDiv, Int.reduceLE, Int.reduceLT, Int.reduceNeg, Int.reduceAdd, Int.reduceSub, Int.reduceMul, Int.reduceToNat, Int.reducePow, Int.reduceEq, ne_eq, reduceIte, byteD, dstr, un1_str, iD, bD, ew, ew3, ew4, Option.getD_some, Option.isSome_some, List.length_cons, List.length_nil, *])); repeat' ((first | (refine fork_split (fun _h => ?_) (fun _h => ?_)) | (refine gfork_split (fun _h => ?_) (fun _h => ?_)) | (refine dfork_split (fun _h => ?_) (fun _h => ?_)) | (refine acall1_pure hN rfl rfl ?_) | (refine dcall1_pure hN rfl rfl ?_)) <;> (try (simp only [↓ru, rv, rl, ry, tyf, iM, bM, bsM, cond_true, cond_false, Nat.reduceLT, Nat.reduceBEq, Nat.reduceAdd, Nat.reduceEqDiff, Nat.reduceMul, Nat.reduceLeDiff, Nat.reduceSub, Nat.reduceDiv, Int.reduceLE, Int.reduceLT, Int.reduceNeg, Int.reduceAdd, Int.reduceSub, Int.reduceMul, Int.reduceToNat, Int.reducePow, Int.reduceEq, ne_eq, reduceIte, byteD, dstr, un1_str, iD, bD, ew, ew3, ew4, Option.getD_some, Option.isSome_some, List.length_cons, List.length_nil, *])))
                  refine loopL_drop 6 ?_ ?_ ⟨by decide, fun j hj => ?_⟩ (by omega) (by decide)
                  · simp only [↓ru, rv, rl, ry, tyf, iM, bM, bsM, cond_true, cond_false, Nat.reduceLT, Nat.reduceBEq, Nat.reduceAdd, Nat.reduceEqDiff, Nat.reduceMul, Nat.reduceLeDiff, Nat.reduceSub, Nat.reduceDiv, Int.reduceLE, Int.reduceLT, Int.reduceNeg, Int.reduceAdd, Int.reduceSub, Int.reduceMul, Int.reduceToNat, Int.reducePow, Int.reduceEq, ne_eq, reduceIte, byteD, dstr, un1_str, iD, bD, ew]
                    try simp
                  · simp only [iF, Nat.reduceLT, Nat.not_lt_zero, Nat.lt_irrefl, if_true, if_false, reduceIte, e1, e2]
                    simp only [↓ru, rv, rl, ry, tyf, iM, bM, bsM, cond_true, cond_false, Nat.reduceLT, Nat.reduceBEq, Nat.reduceAdd, Nat.reduceEqDiff, Nat.reduceMul, Nat.reduceLeDiff, Nat.reduceSub, Nat.reduceDiv, Int.reduceLE, Int.reduceLT, Int.reduceNeg, Int.reduceAdd, Int.reduceSub, Int.reduceMul, Int.reduceToNat, Int.reducePow, Int.reduceEq, ne_eq, reduceIte, byteD, dstr, un1_str, iD, bD]
                  · by_cases hj' : j = 5
                    · subst hj'; rw [hrv']; rfl
                    · exact hv j (by omega)
                · have hrv' : rowV [row, r2, r3, r4, r5, r6, r7, r8, r9, r10] 5 = none := by
                    rw [hrv]
                    simp only
                    rw [if_pos ⟨trivial, by simpa using ha⟩]
                  have hnf : PR = (cfg0, 1) := hbad (fun hf => by have := (hfin.1 hf).2 5 (by decide); rw [hrv'] at this; cases this)
                  subst hnf
                  have ew3 : IntKind.i64.wrap 2 = 2 := by decide
                  have da : decide (a = 2) = false := decide_eq_false ha
                  (try (simp only [↓ru, rv, rl, ry, tyf, iM, bM, bsM, cond_true, cond_false, Nat.reduceLT, Nat.reduceBEq, Nat.reduceAdd, Nat.reduceEqDiff, Nat.reduceMul, Nat.reduceLeDiff, Nat.reduceSub, Nat.reduceDiv, Int.reduceLE, Int.reduceLT, Int.reduceNeg, Int.reduceAdd, Int.reduceSub, Int.reduceMul, Int.reduceToNat, Int.reducePow, Int.reduceEq, ne_eq, reduceIte, byteD, dstr, un1_str, iD, bD, ew3, da, Option.getD_some, Option.isSome_some, List.length_cons, List.length_nil, pureEnd_of (fn := Tryd.f42) (rs := [.cell 2 53, .tmp 3]) (ts := [53, 37]) rfl rfl, *])); repeat' ((first | (refine fork_split (fun _h => ?_) (fun _h => ?_)) | (refine gfork_split (fun _h => ?_) (fun _h => ?_)) | (refine dfork_split (fun _h => ?_) (fun _h => ?_)) | (refine acall1_pure hN rfl rfl ?_) | (refine dcall1_pure hN rfl rfl ?_)) <;> (try (simp only [↓ru, rv, rl, ry, tyf, iM, bM, bsM, cond_true, cond_false, Nat.reduceLT, Nat.reduceBEq, Nat.reduceAdd, Nat.reduceEqDiff, Nat.reduceMul, Nat.reduceLeDiff, Nat.reduceSub, Nat.reduceDiv, Int.reduceLE, Int.reduceLT, Int.reduceNeg, Int.reduceAdd, Int.reduceSub, Int.reduceMul, Int.reduceToNat, Int.reducePow, Int.reduceEq, ne_eq, reduceIte, byteD, dstr, un1_str, iD, bD, ew3, da, Option.getD_some, Option.isSome_some, List.length_cons, List.length_nil, pureEnd_of (fn := Tryd.f42) (rs := [.cell 2 53, .tmp 3]) (ts := [53, 37]) rfl rfl, *])))
                  all_goals try rfl
          · have hN := NumbersR r7 windowW 3 (hKb r7 (by simp)) (by decide)
            have hrv : rowV [row, r2, r3, r4, r5, r6, r7, r8, r9, r10] 6 = match numR r7 windowW 3 with | some l => if 3 = 3 ∧ l.getD 0 0 ≠ ((6 : Nat) : Int) - 3 then none else some l | none => none := rfl
            simp only [iF, Nat.reduceLT, Nat.not_lt_zero, Nat.lt_irrefl, if_true, if_false, reduceIte]
            have ew : IntKind.i64.wrap 7 = 7 := by decide
            cases hn : numR r7 windowW 3 with
            | none =>
              rw [hn] at hN hrv
              have hnf : PR = (cfg0, 1) := hbad (fun hf => by have := (hfin.1 hf).2 6 (by decide); rw [hrv] at this; cases this)
              subst hnf
              (try (simp only [↓ru, rv, rl, ry, tyf, iM, bM, bsM, cond_true, cond_false, Nat.reduceLT, Nat.reduceBEq, Nat.reduceAdd, Nat.reduceEqDiff, Nat.reduceMul, Nat.reduceLeDiff, Nat.reduceSub, Nat.reduceDiv, Int.reduceLE, Int.reduceLT, Int.reduceNeg, Int.reduceAdd, Int.reduceSub, Int.reduceMul, Int.reduceToNat, Int.reducePow, Int.reduceEq, ne_eq, reduceIte, byteD, dstr, un1_str, iD, bD, Option.getD_none, Option.isSome_none, List.length_cons, List.length_nil, pureEnd_of (fn := Tryd.f42) (rs := [.cell 2 53, .tmp 3]) (ts := [53, 37]) rfl rfl, *])); repeat' ((first | (refine fork_split (fun _h => ?_) (fun _h => ?_)) | (refine gfork_split (fun _h => ?_) (fun _h => ?_)) | (refine dfork_split (fun _h => ?_) (fun _h => ?_)) | (refine acall1_pure hN rfl rfl ?_) | (refine dcall1_pure hN rfl rfl ?_)) <;> (try (simp only [↓ru, rv, rl, ry, tyf, iM, bM, bsM, cond_true, cond_false, Nat.reduceLT, Nat.reduceBEq, Nat.reduceAdd, Nat.reduceEqDiff, Nat.reduceMul, Nat.reduceLeDiff, Nat.reduceSub, Nat.reduceDiv, Int.reduceLE, Int.reduceLT, Int.reduceNeg, Int.reduceAdd, Int.reduceSub, Int.reduceMul, Int.reduceToNat, Int.reducePow, Int.reduceEq, ne_eq, reduceIte, byteD, dstr, un1_str, iD, bD, Option.getD_none, Option.isSome_none, List.length_cons, List.length_nil, pureEnd_of (fn := Tryd.f42) (rs := [.cell 2 53, .tmp 3]) (ts := [53, 37]) rfl rfl, *])))
              all_goals try rfl
            | some l =>
              rw [hn] at hN hrv
              obtain ⟨g1, _, _, g4⟩ := numR_some hn
              have hll : l.length = 3 := by rw [g4]; simp; omega
              clear g1 g4
              match l, hll with
              | [a, b, c], _ =>
                by_cases ha : a = 3
                · subst ha
                  have hrv' : rowV [row, r2, r3, r4, r5, r6, r7, r8, r9, r10] 6 = some [3, b, c] := by rw [hrv]; rfl
                  have e1 : celV [row, r2, r3, r4, r5, r6, r7, r8, r9, r10] 6 1 = b := by rw [celV, hrv']; rfl
                  have e2 : celV [row, r2, r3, r4, r5, r6, r7, r8, r9, r10] 6 2 = c := by rw [celV, hrv']; rfl
                  have ew3 : IntKind.i64.wrap 3 = 3 := by decide
                  have ew4 : IntKind.i64.wrap 2 = 2 := by decide
                  (try (simp only [↓ru, rv, rl, ry, tyf, iM, bM, bsM, cond_true, cond_false, Nat.reduceLT, Nat.reduceBEq, Nat.reduceAdd, Nat.reduceEqDiff, Nat.reduceMul, Nat.reduceLeDiff, Nat.reduceSub, Nat.reduceDiv, Int.reduceLE, Int.reduceLT, Int.reduceNeg, Int.reduceAdd, Int.reduceSub, Int.reduceMul, Int.reduceToNat, Int.reducePow, Int.reduceEq, ne_eq, reduceIte, byteD, dstr, un1_str, iD, bD, ew, ew3, ew4, Option.getD_some, Option.isSome_some, List.length_cons, List.length_nil, *])); repeat' ((first | (refine fork_split (fun _h => ?_) (fun _h => ?_)) | (refine gfork_split (fun _h => ?_) (fun _h => ?_)) | (refine dfork_split (fun _h => ?_) (fun _h => ?_)) | (refine acall1_pure hN rfl rfl ?_) | (refine dcall1_pure hN rfl rfl ?_)) <;> (try (simp only [↓ru, rv, rl, ry, tyf, iM, bM, bsM, cond_true, cond_false, Nat.reduceLT, Nat.reduceBEq, Nat.reduceAdd, Nat.reduceEqDiff, Nat.reduceMul, Nat.reduceLeDiff, Nat.reduceSub, Nat.reduceDiv, Int.reduceLE, Int.reduceLT, Int.reduceNeg, Int.reduceAdd, Int.reduceSub, Int.reduceMul, Int.reduceToNat, Int.reducePow, Int.reduceEq, ne_eq, reduceIte, byteD, dstr, un1_str, iD, bD, ew, ew3, ew4, Option.getD_some, Option.isSome_some, List.length_cons, List.length_nil, *])))
                  refine loopL_drop 7 ?_ ?_ ⟨by decide, fun j hj => ?_⟩ (by omega) (by decide)
                  · simp only [↓ru, rv, rl, ry, tyf, iM, bM, bsM, cond_true, cond_false, Nat.reduceLT, Nat.reduceBEq, Nat.reduceAdd, Nat.reduceEqDiff, Nat.reduceMul, Nat.reduceLeDiff, Nat.reduceSub, Nat.reduceDiv, Int.reduceLE, Int.reduceLT, Int.reduceNeg, Int.reduceAdd, Int.reduceSub, Int.reduceMul, Int.reduceToNat, Int.reducePow, Int.reduceEq, ne_eq, reduceIte, byteD, dstr, un1_str, iD, bD, ew]
                    try simp
                  · simp only [iF, Nat.reduceLT, Nat.not_lt_zero, Nat.lt_irrefl, if_true, if_false, reduceIte, e1, e2]
                    simp only [↓ru, rv, rl, ry, tyf, iM, bM, bsM, cond_true, cond_false, Nat.reduceLT, Nat.reduceBEq, Nat.reduceAdd, Nat.reduceEqDiff, Nat.reduceMul, Nat.reduceLeDiff, Nat.reduceSub, Nat.reduceDiv, Int.reduceLE, Int.reduceLT, Int.reduceNeg, Int.reduceAdd, Int.reduceSub, Int.reduceMul, Int.reduceToNat, Int.reducePow, Int.reduceEq, ne_eq, reduceIte, byteD, dstr, un1_str, iD, bD]
                  · by_cases hj' : j = 6
                    · subst hj'; rw [hrv']; rfl
                    · exact hv j (by omega)
                · have hrv' : rowV [row, r2, r3, r4, r5, r6, r7, r8, r9, r10] 6 = none := by
                    rw [hrv]
                    simp only
                    rw [if_pos ⟨trivial, by simpa using ha⟩]
                  have hnf : PR = (cfg0, 1) := hbad (fun hf => by have := (hfin.1 hf).2 6 (by decide); rw [hrv'] at this; cases this)
                  subst hnf
                  have ew3 : IntKind.i64.wrap 3 = 3 := by decide
                  have da : decide (a = 3) = false := decide_eq_false ha
                  (try (simp only [↓ru, rv, rl, ry, tyf, iM, bM, bsM, cond_true, cond_false, Nat.reduceLT, Nat.reduceBEq, Nat.reduceAdd, Nat.reduceEqDiff, Nat.reduceMul, Nat.reduceLeDiff, Nat.reduceSub, Nat.reduceDiv, Int.reduceLE, Int.reduceLT, Int.reduceNeg, Int.reduceAdd, Int.reduceSub, Int.reduceMul, Int.reduceToNat, Int.reducePow, Int.reduceEq, ne_eq, reduceIte, byteD, dstr, un1_str, iD, bD, ew3, da, Option.getD_some, Option.isSome_some, List.length_cons, List.length_nil, pureEnd_of (fn := Tryd.f42) (rs := [.cell 2 53, .tmp 3]) (ts := [53, 37]) rfl rfl, *])); repeat' ((first | (refine fork_split (fun _h => ?_) (fun _h => ?_)) | (refine gfork_split (fun _h => ?_) (fun _h => ?_)) | (refine dfork_split (fun _h => ?_) (fun _h => ?_)) | (refine acall1_pure hN rfl rfl ?_) | (refine dcall1_pure hN rfl rfl ?_)) <;> (try (simp only [↓ru, rv, rl, ry, tyf, iM, bM, bsM, cond_true, cond_false, Nat.reduceLT, Nat.reduceBEq, Nat.reduceAdd, Nat.reduceEqDiff, Nat.reduceMul, Nat.reduceLeDiff, Nat.reduceSub, Nat.reduceDiv, Int.reduceLE, Int.reduceLT, Int.reduceNeg, Int.reduceAdd, Int.reduceSub, Int.reduceMul, Int.reduceToNat, Int.reducePow, Int.reduceEq, ne_eq, reduceIte, byteD, dstr, un1_str, iD, bD, ew3, da, Option.getD_some, Option.isSome_some, List.length_cons, List.length_nil, pureEnd_of (fn := Tryd.f42) (rs := [.cell 2 53, .tmp 3]) (ts := [53, 37]) rfl rfl, *])))
                  all_goals try rfl
          · have hN := NumbersR r8 windowW 3 (hKb r8 (by simp)) (by decide)
            have hrv : rowV [row, r2, r3, r4, r5, r6, r7, r8, r9, r10] 7 = match numR r8 windowW 3 with | some l => if 3 = 3 ∧ l.getD 0 0 ≠ ((7 : Nat) : Int) - 3 then none else some l | none => none := rfl
            simp only [iF, Nat.reduceLT, Nat.not_lt_zero, Nat.lt_irrefl, if_true, if_false, reduceIte]
            have ew : IntKind.i64.wrap 8 = 8 := by decide
            cases hn : numR r8 windowW 3 with
            | none =>
              rw [hn] at hN hrv
              have hnf : PR = (cfg0, 1) := hbad (fun hf => by have := (hfin.1 hf).2 7 (by decide); rw [hrv] at this; cases this)
              subst hnf
              (try (simp only [↓ru, rv, rl, ry, tyf, iM, bM, bsM, cond_true, cond_false, Nat.reduceLT, Nat.reduceBEq, Nat.reduceAdd, Nat.reduceEqDiff, Nat.reduceMul, Nat.reduceLeDiff, Nat.reduceSub, Nat.reduceDiv, Int.reduceLE, Int.reduceLT, Int.reduceNeg, Int.reduceAdd, Int.reduceSub, Int.reduceMul, Int.reduceToNat, Int.reducePow, Int.reduceEq, ne_eq, reduceIte, byteD, dstr, un1_str, iD, bD, Option.getD_none, Option.isSome_none, List.length_cons, List.length_nil, pureEnd_of (fn := Tryd.f42) (rs := [.cell 2 53, .tmp 3]) (ts := [53, 37]) rfl rfl, *])); repeat' ((first | (refine fork_split (fun _h => ?_) (fun _h => ?_)) | (refine gfork_split (fun _h => ?_) (fun _h => ?_)) | (refine dfork_split (fun _h => ?_) (fun _h => ?_)) | (refine acall1_pure hN rfl rfl ?_) | (refine dcall1_pure hN rfl rfl ?_)) <;> (try (simp only [↓ru, rv, rl, ry, tyf, iM, bM, bsM, cond_true, cond_false, Nat.reduceLT, Nat.reduceBEq, Nat.reduceAdd, Nat.reduceEqDiff, Nat.reduceMul, Nat.reduceLeDiff, Nat.reduceSub, Nat.reduceDiv, Int.reduceLE, Int.reduceLT, Int.reduceNeg, Int.reduceAdd, Int.reduceSub, Int.reduceMul, Int.reduceToNat, Int.reducePow, Int.reduceEq, ne_eq, reduceIte, byteD, dstr, un1_str, iD, bD, Option.getD_none, Option.isSome_none, List.length_cons, List.length_nil, pureEnd_of (fn := Tryd.f42) (rs := [.cell 2 53, .tmp 3]) (ts := [53, 37]) rfl rfl, *])))
              all_goals try rfl
            | some l =>
              rw [hn] at hN hrv
              obtain ⟨g1, _, _, g4⟩ := numR_some hn
              have hll : l.length = 3 := by rw [g4]; simp; omega
              clear g1 g4
              match l, hll with
              | [a, b, c], _ =>
                by_cases ha : a = 4
                · subst ha
                  have hrv' : rowV [row, r2, r3, r4, r5, r6, r7, r8, r9, r10] 7 = some [4, b, c] := by rw [hrv]; rfl
                  have e1 : celV [row, r2, r3, r4, r5, r6, r7, r8, r9, r10] 7 1 = b := by rw [celV, hrv']; rfl
                  have e2 : celV [row, r2, r3, r4, r5, r6, r7, r8, r9, r10] 7 2 = c := by rw [celV, hrv']; rfl
                  have ew3 : IntKind.i64.wrap 4 = 4 := by decide
                  have ew4 : IntKind.i64.wrap 3 = 3 := by decide
                  (try (simp only [↓ru, rv, rl, ry, tyf, iM, bM, bsM, cond_true, cond_false, Nat.reduceLT, Nat.reduceBEq, Nat.reduceAdd, Nat.reduceEqDiff, Nat.reduceMul, Nat.reduceLeDiff, Nat.reduceSub, Nat.reduceDiv, Int.reduceLE, Int.reduceLT, Int.reduceNeg, Int.reduceAdd, Int.reduceSub, Int.reduceMul, Int.reduceToNat, Int.reducePow, Int.reduceEq, ne_eq, reduceIte, byteD, dstr, un1_str, iD, bD, ew, ew3, ew4, Option.getD_some, Option.isSome_some, List.length_cons, List.length_nil, *])); repeat' ((first | (refine fork_split (fun _h => ?_) (fun _h => ?_)) | (refine gfork_split (fun _h => ?_) (fun _h => ?_)) | (refine dfork_split (fun _h => ?_) (fun _h => ?_)) | (refine acall1_pure hN rfl rfl ?_) | (refine dcall1_pure hN rfl rfl ?_)) <;> (try (simp only [↓ru, rv, rl, ry, tyf, iM, bM, bsM, cond_true, cond_false, Nat.reduceLT, Nat.reduceBEq, Nat.reduceAdd, Nat.reduceEqDiff, Nat.reduceMul, Nat.reduceLeDiff, Nat.reduceSub, Nat.reduceDiv, Int.reduceLE, Int.reduceLT, Int.reduceNeg, Int.reduceAdd, Int.reduceSub, Int.reduceMul, Int.reduceToNat, Int.reducePow, Int.reduceEq, ne_eq, reduceIte, byteD, dstr, un1_str, iD, bD, ew, ew3, ew4, Option.getD_some, Option.isSome_some, List.length_cons, List.length_nil, *])))
                  refine loopL_drop 8 ?_ ?_ ⟨by decide, fun j hj => ?_⟩ (by omega) (by decide)
                  · simp only [↓ru, rv, rl, ry, tyf, iM, bM, bsM, cond_true, cond_false, Nat.reduceLT, Nat.reduceBEq, Nat.reduceAdd, Nat.reduceEqDiff, Nat.reduceMul, Nat.reduceLeDiff, Nat.reduceSub, Nat.reduceDiv, Int.reduceLE, Int.reduceLT, Int.reduceNeg, Int.reduceAdd, Int.reduceSub, Int.reduceMul, Int.reduceToNat, Int.reducePow, Int.reduceEq, ne_eq, reduceIte, byteD, dstr, un1_str, iD, bD, ew]
                    try simp
                  · simp only [iF, Nat.reduceLT, Nat.not_lt_zero, Nat.lt_irrefl, if_true, if_false, reduceIte, e1, e2]
                    simp only [↓ru, rv, rl, ry, tyf, iM, bM, bsM, cond_true, cond_false, Nat.reduceLT, Nat.reduceBEq, Nat.reduceAdd, Nat.reduceEqDiff, Nat.reduceMul, Nat.reduceLeDiff, Nat.reduceSub, Nat.reduceDiv, Int.reduceLE, Int.reduceLT, Int.reduceNeg, Int.reduceAdd, Int.reduceSub, Int.reduceMul, Int.reduceToNat, Int.reducePow, Int.reduceEq, ne_eq, reduceIte, byteD, dstr, un1_str, iD, bD]
                  · by_cases hj' : j = 7
                    · subst hj'; rw [hrv']; rfl
                    · exact hv j (by omega)
                · have hrv' : rowV [row, r2, r3, r4, r5, r6, r7, r8, r9, r10] 7 = none := by
                    rw [hrv]
                    simp only
                    rw [if_pos ⟨trivial, by simpa using ha⟩]
                  have hnf : PR = (cfg0, 1) := hbad (fun hf => by have := (hfin.1 hf).2 7 (by decide); rw [hrv'] at this; cases this)
                  subst hnf
                  have ew3 : IntKind.i64.wrap 4 = 4 := by decide
                  have da : decide (a = 4) = false := decide_eq_false ha
                  (try (simp only [↓ru, rv, rl, ry, tyf, iM, bM, bsM, cond_true, cond_false, Nat.reduceLT, Nat.reduceBEq, Nat.reduceAdd, Nat.reduceEqDiff, Nat.reduceMul, Nat.reduceLeDiff, Nat.reduceSub, Nat.reduceDiv, Int.reduceLE, Int.reduceLT, Int.reduceNeg, Int.reduceAdd, Int.reduceSub, Int.reduceMul, Int.reduceToNat, Int.reducePow, Int.reduceEq, ne_eq, reduceIte, byteD, dstr, un1_str, iD, bD, ew3, da, Option.getD_some, Option.isSome_some, List.length_cons, List.length_nil, pureEnd_of (fn := Tryd.f42) (rs := [.cell 2 53, .tmp 3]) (ts := [53, 37]) rfl rfl, *])); repeat' ((first | (refine fork_split (fun _h => ?_) (fun _h => ?_)) | (refine gfork_split (fun _h => ?_) (fun _h => ?_)) | (refine dfork_split (fun _h => ?_) (fun _h => ?_)) | (refine acall1_pure hN rfl rfl ?_) | (refine dcall1_pure hN rfl rfl ?_)) <;> (try (simp only [↓ru, rv, rl, ry, tyf, iM, bM, bsM, cond_true, cond_false, Nat.reduceLT, Nat.reduceBEq, Nat.reduceAdd, Nat.reduceEqDiff, Nat.reduceMul, Nat.reduceLeDiff, Nat.reduceSub, Nat.reduceDiv, Int.reduceLE, Int.reduceLT, Int.reduceNeg, Int.reduceAdd, Int.reduceSub, Int.reduceMul, Int.reduceToNat, Int.reducePow, Int.reduceEq, ne_eq, reduceIte, byteD, dstr, un1_str, iD, bD, ew3, da, Option.getD_some, Option.isSome_some, List.length_cons, List.length_nil, pureEnd_of (fn := Tryd.f42) (rs := [.cell 2 53, .tmp 3]) (ts := [53, 37]) rfl rfl, *])))
                  all_goals try rfl
          · have hN := NumbersR r9 everyW 1 (hKb r9 (by simp)) (by decide)
            have hrv : rowV [row, r2, r3, r4, r5, r6, r7, r8, r9, r10] 8 = match numR r9 everyW 1 with | some l => if 1 = 3 ∧ l.getD 0 0 ≠ ((8 : Nat) : Int) - 3 then none else some l | none => none := rfl
            simp only [iF, Nat.reduceLT, Nat.not_lt_zero, Nat.lt_irrefl, if_true, if_false, reduceIte]
            have ew : IntKind.i64.wrap 9 = 9 := by decide
            cases hn : numR r9 everyW 1 with
            | none =>
              rw [hn] at hN hrv
              have hnf : PR = (cfg0, 1) := hbad (fun hf => by have := (hfin.1 hf).2 8 (by decide); rw [hrv] at this; cases this)
              subst hnf
              (try (simp only [↓ru, rv, rl, ry, tyf, iM, bM, bsM, cond_true, cond_false, Nat.reduceLT, Nat.reduceBEq, Nat.reduceAdd, Nat.reduceEqDiff, Nat.reduceMul, Nat.reduceLeDiff, Nat.reduceSub, Nat.reduceDiv, Int.reduceLE, Int.reduceLT, Int.reduceNeg, Int.reduceAdd, Int.reduceSub, Int.reduceMul, Int.reduceToNat, Int.reducePow, Int.reduceEq, ne_eq, reduceIte, byteD, dstr, un1_str, iD, bD, Option.getD_none, Option.isSome_none, List.length_cons, List.length_nil, pureEnd_of (fn := Tryd.f42) (rs := [.cell 2 53, .tmp 3]) (ts := [53, 37]) rfl rfl, *])); repeat' ((first | (refine fork_split (fun _h => ?_) (fun _h => ?_)) | (refine gfork_split (fun _h => ?_) (fun _h => ?_)) | (refine dfork_split (fun _h => ?_) (fun _h => ?_)) | (refine acall1_pure hN rfl rfl ?_) | (refine dcall1_pure hN rfl rfl ?_)) <;> (try (simp only [↓ru, rv, rl, ry, tyf, iM, bM, bsM, cond_true, cond_false, Nat.reduceLT, Nat.reduceBEq, Nat.reduceAdd, Nat.reduceEqDiff, Nat.reduceMul, Nat.reduceLeDiff, Nat.reduceSub, Nat.reduceDiv, Int.reduceLE, Int.reduceLT, Int.reduceNeg, Int.reduceAdd, Int.reduceSub, Int.reduceMul, Int.reduceToNat, Int.reducePow, Int.reduceEq, ne_eq, reduceIte, byteD, dstr, un1_str, iD, bD, Option.getD_none, Option.isSome_none, List.length_cons, List.length_nil, pureEnd_of (fn := Tryd.f42) (rs := [.cell 2 53, .tmp 3]) (ts := [53, 37]) rfl rfl, *])))
              all_goals try rfl
            | some l =>
              rw [hn] at hN hrv
              obtain ⟨g1, _, _, g4⟩ := numR_some hn
              have hll : l.length = 1 := by rw [g4]; simp; omega
              clear g1 g4
              match l, hll with
              | [a], _ =>
                have hrv' : rowV [row, r2, r3, r4, r5, r6, r7, r8, r9, r10] 8 = some [a] := by rw [hrv]; rfl
                have e0 : celV [row, r2, r3, r4, r5, r6, r7, r8, r9, r10] 8 0 = a := by rw [celV, hrv']; rfl
                (try (simp only [↓ru, rv, rl, ry, tyf, iM, bM, bsM, cond_true, cond_false, Nat.reduceLT, Nat.reduceBEq, Nat.reduceAdd, Nat.reduceEqDiff, Nat.reduceMul, Nat.reduceLeDiff, Nat.reduceSub, Nat.reduceDiv, Int.reduceLE, Int.reduceLT, Int.reduceNeg, Int.reduceAdd, Int.reduceSub, Int.reduceMul, Int.reduceToNat, Int.reducePow, Int.reduceEq, ne_eq, reduceIte, byteD, dstr, un1_str, iD, bD, ew, Option.getD_some, Option.isSome_some, List.length_cons, List.length_nil, *])); repeat' ((first | (refine fork_split (fun _h => ?_) (fun _h => ?_)) | (refine gfork_split (fun _h => ?_) (fun _h => ?_)) | (refine dfork_split (fun _h => ?_) (fun _h => ?_)) | (refine acall1_pure hN rfl rfl ?_) | (refine dcall1_pure hN rfl rfl ?_)) <;> (try (simp only [↓ru, rv, rl, ry, tyf, iM, bM, bsM, cond_true, cond_false, Nat.reduceLT, Nat.reduceBEq, Nat.reduceAdd, Nat.reduceEqDiff, Nat.reduceMul, Nat.reduceLeDiff, Nat.reduceSub, Nat.reduceDiv, Int.reduceLE, Int.reduceLT, Int.reduceNeg, Int.reduceAdd, Int.reduceSub, Int.reduceMul, Int.reduceToNat, Int.reducePow, Int.reduceEq, ne_eq, reduceIte, byteD, dstr, un1_str, iD, bD, ew, Option.getD_some, Option.isSome_some, List.length_cons, List.length_nil, *])))
                refine loopL_drop 9 ?_ ?_ ⟨by decide, fun j hj => ?_⟩ (by omega) (by decide)
                · simp only [↓ru, rv, rl, ry, tyf, iM, bM, bsM, cond_true, cond_false, Nat.reduceLT, Nat.reduceBEq, Nat.reduceAdd, Nat.reduceEqDiff, Nat.reduceMul, Nat.reduceLeDiff, Nat.reduceSub, Nat.reduceDiv, Int.reduceLE, Int.reduceLT, Int.reduceNeg, Int.reduceAdd, Int.reduceSub, Int.reduceMul, Int.reduceToNat, Int.reducePow, Int.reduceEq, ne_eq, reduceIte, byteD, dstr, un1_str, iD, bD, ew]
                  try simp
                · simp only [iF, Nat.reduceLT, Nat.not_lt_zero, Nat.lt_irrefl, if_true, if_false, reduceIte, e0]
                  simp only [↓ru, rv, rl, ry, tyf, iM, bM, bsM, cond_true, cond_false, Nat.reduceLT, Nat.reduceBEq, Nat.reduceAdd, Nat.reduceEqDiff, Nat.reduceMul, Nat.reduceLeDiff, Nat.reduceSub, Nat.reduceDiv, Int.reduceLE, Int.reduceLT, Int.reduceNeg, Int.reduceAdd, Int.reduceSub, Int.reduceMul, Int.reduceToNat, Int.reducePow, Int.reduceEq, ne_eq, reduceIte, byteD, dstr, un1_str, iD, bD]
                · by_cases hj' : j = 8
                  · subst hj'; rw [hrv']; rfl
                  · exact hv j (by omega)
          · have hN := NumbersR r10 storeW 1 (hKb r10 (by simp)) (by decide)
            have hrv : rowV [row, r2, r3, r4, r5, r6, r7, r8, r9, r10] 9 = match numR r10 storeW 1 with | some l => if 1 = 3 ∧ l.getD 0 0 ≠ ((9 : Nat) : Int) - 3 then none else some l | none => none := rfl
            simp only [iF, Nat.reduceLT, Nat.not_lt_zero, Nat.lt_irrefl, if_true, if_false, reduceIte]
            have ew : IntKind.i64.wrap 10 = 10 := by decide
            cases hn : numR r10 storeW 1 with
            | none =>
              rw [hn] at hN hrv
              have hnf : PR = (cfg0, 1) := hbad (fun hf => by have := (hfin.1 hf).2 9 (by decide); rw [hrv] at this; cases this)
              subst hnf
              (try (simp only [↓ru, rv, rl, ry, tyf, iM, bM, bsM, cond_true, cond_false, Nat.reduceLT, Nat.reduceBEq, Nat.reduceAdd, Nat.reduceEqDiff, Nat.reduceMul, Nat.reduceLeDiff, Nat.reduceSub, Nat.reduceDiv, Int.reduceLE, Int.reduceLT, Int.reduceNeg, Int.reduceAdd, Int.reduceSub, Int.reduceMul, Int.reduceToNat, Int.reducePow, Int.reduceEq, ne_eq, reduceIte, byteD, dstr, un1_str, iD, bD, Option.getD_none, Option.isSome_none, List.length_cons, List.length_nil, pureEnd_of (fn := Tryd.f42) (rs := [.cell 2 53, .tmp 3]) (ts := [53, 37]) rfl rfl, *])); repeat' ((first | (refine fork_split (fun _h => ?_) (fun _h => ?_)) | (refine gfork_split (fun _h => ?_) (fun _h => ?_)) | (refine dfork_split (fun _h => ?_) (fun _h => ?_)) | (refine acall1_pure hN rfl rfl ?_) | (refine dcall1_pure hN rfl rfl ?_)) <;> (try (simp only [↓ru, rv, rl, ry, tyf, iM, bM, bsM, cond_true, cond_false, Nat.reduceLT, Nat.reduceBEq, Nat.reduceAdd, Nat.reduceEqDiff, Nat.reduceMul, Nat.reduceLeDiff, Nat.reduceSub, Nat.reduceDiv, Int.reduceLE, Int.reduceLT, Int.reduceNeg, Int.reduceAdd, Int.reduceSub, Int.reduceMul, Int.reduceToNat, Int.reducePow, Int.reduceEq, ne_eq, reduceIte, byteD, dstr, un1_str, iD, bD, Option.getD_none, Option.isSome_none, List.length_cons, List.length_nil, pureEnd_of (fn := Tryd.f42) (rs := [.cell 2 53, .tmp 3]) (ts := [53, 37]) rfl rfl, *])))
              all_goals try rfl
            | some l =>
              rw [hn] at hN hrv
              obtain ⟨g1, _, _, g4⟩ := numR_some hn
              have hll : l.length = 1 := by rw [g4]; simp; omega
              clear g1 g4
              match l, hll with
              | [a], _ =>
                have hrv' : rowV [row, r2, r3, r4, r5, r6, r7, r8, r9, r10] 9 = some [a] := by rw [hrv]; rfl
                have e0 : celV [row, r2, r3, r4, r5, r6, r7, r8, r9, r10] 9 0 = a := by rw [celV, hrv']; rfl
                (try (simp only [↓ru, rv, rl, ry, tyf, iM, bM, bsM, cond_true, cond_false, Nat.reduceLT, Nat.reduceBEq, Nat.reduceAdd, Nat.reduceEqDiff, Nat.reduceMul, Nat.reduceLeDiff, Nat.reduceSub, Nat.reduceDiv, Int.reduceLE, Int.reduceLT, Int.reduceNeg, Int.reduceAdd, Int.reduceSub, Int.reduceMul, Int.reduceToNat, Int.reducePow, Int.reduceEq, ne_eq, reduceIte, byteD, dstr, un1_str, iD, bD, ew, Option.getD_some, Option.isSome_some, List.length_cons, List.length_nil, *])); repeat' ((first | (refine fork_split (fun _h => ?_) (fun _h => ?_)) | (refine gfork_split (fun _h => ?_) (fun _h => ?_)) | (refine dfork_split (fun _h => ?_) (fun _h => ?_)) | (refine acall1_pure hN rfl rfl ?_) | (refine dcall1_pure hN rfl rfl ?_)) <;> (try (simp only [↓ru, rv, rl, ry, tyf, iM, bM, bsM, cond_true, cond_false, Nat.reduceLT, Nat.reduceBEq, Nat.reduceAdd, Nat.reduceEqDiff, Nat.reduceMul, Nat.reduceLeDiff, Nat.reduceSub, Nat.reduceDiv, Int.reduceLE, Int.reduceLT, Int.reduceNeg, Int.reduceAdd, Int.reduceSub, Int.reduceMul, Int.reduceToNat, Int.reducePow, Int.reduceEq, ne_eq, reduceIte, byteD, dstr, un1_str, iD, bD, ew, Option.getD_some, Option.isSome_some, List.length_cons, List.length_nil, *])))
                refine loopL_drop 10 ?_ ?_ ⟨by decide, fun j hj => ?_⟩ (by omega) (by decide)
                · simp only [↓ru, rv, rl, ry, tyf, iM, bM, bsM, cond_true, cond_false, Nat.reduceLT, Nat.reduceBEq, Nat.reduceAdd, Nat.reduceEqDiff, Nat.reduceMul, Nat.reduceLeDiff, Nat.reduceSub, Nat.reduceDiv, Int.reduceLE, Int.reduceLT, Int.reduceNeg, Int.reduceAdd, Int.reduceSub, Int.reduceMul, Int.reduceToNat, Int.reducePow, Int.reduceEq, ne_eq, reduceIte, byteD, dstr, un1_str, iD, bD, ew]
                  try simp
                · simp only [iF, Nat.reduceLT, Nat.not_lt_zero, Nat.lt_irrefl, if_true, if_false, reduceIte, e0]
                  simp only [↓ru, rv, rl, ry, tyf, iM, bM, bsM, cond_true, cond_false, Nat.reduceLT, Nat.reduceBEq, Nat.reduceAdd, Nat.reduceEqDiff, Nat.reduceMul, Nat.reduceLeDiff, Nat.reduceSub, Nat.reduceDiv, Int.reduceLE, Int.reduceLT, Int.reduceNeg, Int.reduceAdd, Int.reduceSub, Int.reduceMul, Int.reduceToNat, Int.reducePow, Int.reduceEq, ne_eq, reduceIte, byteD, dstr, un1_str, iD, bD]
                · by_cases hj' : j = 9
                  · subst hj'; rw [hrv']; rfl
                  · exact hv j (by omega)
          · have hP := hgood (hfin.2 ⟨rfl, hv⟩)
            subst hP
            simp only [iF, Nat.reduceLT, Nat.not_lt_zero, Nat.lt_irrefl, if_true, if_false, reduceIte]
            have hC := CheckR (mkR acc [row, r2, r3, r4, r5, r6, r7, r8, r9, r10]) (by simp only [mkR]; omega)
            by_cases hc : chkF (mkR acc [row, r2, r3, r4, r5, r6, r7, r8, r9, r10]) = 0
            · rw [if_pos hc]
              rw [hc] at hC
              simp only [mkR] at hC ⊢
              (try (simp only [↓ru, rv, rl, ry, tyf, iM, bM, bsM, cond_true, cond_false, Nat.reduceLT, Nat.reduceBEq, Nat.reduceAdd, Nat.reduceEqDiff, Nat.reduceMul, Nat.reduceLeDiff, Nat.reduceSub, Nat.reduceDiv, Int.reduceLE, Int.reduceLT, Int.reduceNeg, Int.reduceAdd, Int.reduceSub, Int.reduceMul, Int.reduceToNat, Int.reducePow, Int.reduceEq, ne_eq, reduceIte, byteD, dstr, un1_str, iD, bD, List.length_cons, List.length_nil, pureEnd_of (fn := Tryd.f42) (rs := [.cell 2 53, .tmp 3]) (ts := [53, 37]) rfl rfl, *])); repeat' ((first | (refine fork_split (fun _h => ?_) (fun _h => ?_)) | (refine gfork_split (fun _h => ?_) (fun _h => ?_)) | (refine dfork_split (fun _h => ?_) (fun _h => ?_)) | (refine acall1_pure hC rfl rfl ?_) | (refine dcall1_pure hC rfl rfl ?_)) <;> (try (simp only [↓ru, rv, rl, ry, tyf, iM, bM, bsM, cond_true, cond_false, Nat.reduceLT, Nat.reduceBEq, Nat.reduceAdd, Nat.reduceEqDiff, Nat.reduceMul, Nat.reduceLeDiff, Nat.reduceSub, Nat.reduceDiv, Int.reduceLE, Int.reduceLT, Int.reduceNeg, Int.reduceAdd, Int.reduceSub, Int.reduceMul, Int.reduceToNat, Int.reducePow, Int.reduceEq, ne_eq, reduceIte, byteD, dstr, un1_str, iD, bD, List.length_cons, List.length_nil, pureEnd_of (fn := Tryd.f42) (rs := [.cell 2 53, .tmp 3]) (ts := [53, 37]) rfl rfl, *])))
              all_goals try rfl
            · rw [if_neg hc]
              have dc : decide (chkF (mkR acc [row, r2, r3, r4, r5, r6, r7, r8, r9, r10]) = 0) = false := decide_eq_false hc
              generalize hX : chkF (mkR acc [row, r2, r3, r4, r5, r6, r7, r8, r9, r10]) = X at hC dc ⊢
              simp only [mkR] at hC
              (try (simp only [↓ru, rv, rl, ry, tyf, iM, bM, bsM, cond_true, cond_false, Nat.reduceLT, Nat.reduceBEq, Nat.reduceAdd, Nat.reduceEqDiff, Nat.reduceMul, Nat.reduceLeDiff, Nat.reduceSub, Nat.reduceDiv, Int.reduceLE, Int.reduceLT, Int.reduceNeg, Int.reduceAdd, Int.reduceSub, Int.reduceMul, Int.reduceToNat, Int.reducePow, Int.reduceEq, ne_eq, reduceIte, byteD, dstr, un1_str, iD, bD, dc, List.length_cons, List.length_nil, pureEnd_of (fn := Tryd.f42) (rs := [.cell 2 53, .tmp 3]) (ts := [53, 37]) rfl rfl, *])); repeat' ((first | (refine fork_split (fun _h => ?_) (fun _h => ?_)) | (refine gfork_split (fun _h => ?_) (fun _h => ?_)) | (refine dfork_split (fun _h => ?_) (fun _h => ?_)) | (refine acall1_pure hC rfl rfl ?_) | (refine dcall1_pure hC rfl rfl ?_)) <;> (try (simp only [↓ru, rv, rl, ry, tyf, iM, bM, bsM, cond_true, cond_false, Nat.reduceLT, Nat.reduceBEq, Nat.reduceAdd, Nat.reduceEqDiff, Nat.reduceMul, Nat.reduceLeDiff, Nat.reduceSub, Nat.reduceDiv, Int.reduceLE, Int.reduceLT, Int.reduceNeg, Int.reduceAdd, Int.reduceSub, Int.reduceMul, Int.reduceToNat, Int.reducePow, Int.reduceEq, ne_eq, reduceIte, byteD, dstr, un1_str, iD, bD, dc, List.length_cons, List.length_nil, pureEnd_of (fn := Tryd.f42) (rs := [.cell 2 53, .tmp 3]) (ts := [53, 37]) rfl rfl, *])))
              all_goals try rfl
        · have hnf : PR = (cfg0, 1) := hbad (fun hf => h10 (by simpa using (hfin.1 hf).1))
          subst hnf
          have d1 : decide (((rest.length + 1 : Nat) : Int) = 10) = false := decide_eq_false (by omega)
          (try (simp only [↓ru, rv, rl, ry, tyf, iM, bM, bsM, cond_true, cond_false, Nat.reduceLT, Nat.reduceBEq, Nat.reduceAdd, Nat.reduceEqDiff, Nat.reduceMul, Nat.reduceLeDiff, Nat.reduceSub, Nat.reduceDiv, Int.reduceLE, Int.reduceLT, Int.reduceNeg, Int.reduceAdd, Int.reduceSub, Int.reduceMul, Int.reduceToNat, Int.reducePow, Int.reduceEq, ne_eq, reduceIte, byteD, dstr, un1_str, iD, bD, ↓bs10s, ↓bs10i, d0, d1, d2, List.length_cons, List.length_nil, pureEnd_of (fn := Tryd.f42) (rs := [.cell 2 53, .tmp 3]) (ts := [53, 37]) rfl rfl, *])); repeat' ((first | (refine fork_split (fun _h => ?_) (fun _h => ?_)) | (refine gfork_split (fun _h => ?_) (fun _h => ?_)) | (refine dfork_split (fun _h => ?_) (fun _h => ?_))) <;> (try (simp only [↓ru, rv, rl, ry, tyf, iM, bM, bsM, cond_true, cond_false, Nat.reduceLT, Nat.reduceBEq, Nat.reduceAdd, Nat.reduceEqDiff, Nat.reduceMul, Nat.reduceLeDiff, Nat.reduceSub, Nat.reduceDiv, Int.reduceLE, Int.reduceLT, Int.reduceNeg, Int.reduceAdd, Int.reduceSub, Int.reduceMul, Int.reduceToNat, Int.reducePow, Int.reduceEq, ne_eq, reduceIte, byteD, dstr, un1_str, iD, bD, ↓bs10s, ↓bs10i, d0, d1, d2, List.length_cons, List.length_nil, pureEnd_of (fn := Tryd.f42) (rs := [.cell 2 53, .tmp 3]) (ts := [53, 37]) rfl rfl, *])))
          all_goals try rfl
end Go.CF

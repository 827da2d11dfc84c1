import Derived.Test.YtmgfnlnomecbiaaDoorT7
set_option linter.all false
open Go.Proofs Go.Abs Go.Fa Go.BU Go.TX
namespace Go.TW
set_option maxHeartbeats 4000000
set_option maxRecDepth 10000
-- rules: byteD, dstr, un1_str

theorem head_getD {s : List UInt8} (h : s ≠ []) : s.head? = some (s.getD 0 0) := by
  cases s with
  | nil => exact absurd rfl h
  | cons b l => rfl
theorem take_drop_nil {s : List UInt8} {k : Nat} (h : s.drop k = []) : s.take k = s := List.take_of_length_le (by have := congrArg List.length h; simp at this; omega)

theorem Words (l : List UInt8) (hl : l.length ≤ 300000) : PFn Tryd.prog 49 [strM l] (.tup [strsM ((wordsF l).getD []), bM (wordsF l).isSome]) := by
  (refine PFn.of (prs := []) Tryd.func49 rfl rfl mix (by kernel_rfl) rfl rfl ?_; simp only [Tryd.ntmps49, argUpd])
  simp only [↓ru, rv, rl, ry, tyf, iM, bM, bsM, cond_true, cond_false, Nat.reduceLT, Nat.reduceBEq, Nat.reduceAdd, Nat.reduceEqDiff, Nat.reduceMul, Nat.reduceLeDiff, Nat.reduceSub, Nat.reduceDiv, Int.reduceLE, Int.reduceLT, Int.reduceNeg, Int.reduceAdd, Int.reduceSub, Int.reduceMul, Int.reduceToNat, Int.reducePow, Int.reduceEq, ne_eq, reduceIte, byteD, dstr, un1_str]
  refine aloop_thaw (t := 4) 1 (h := by simp only [↓ru, rv, rl, ry, tyf, iM, bM, bsM, cond_true, cond_false, Nat.reduceLT, Nat.reduceBEq, Nat.reduceAdd, Nat.reduceEqDiff, Nat.reduceMul, Nat.reduceLeDiff, Nat.reduceSub, Nat.reduceDiv, Int.reduceLE, Int.reduceLT, Int.reduceNeg, Int.reduceAdd, Int.reduceSub, Int.reduceMul, Int.reduceToNat, Int.reducePow, Int.reduceEq, ne_eq, reduceIte, byteD, dstr, un1_str]) ?_
  refine aloop_lv (fun p : List UInt8 × List (List UInt8) => [(0, strM p.1), (4, .hsl 3 p.2.length)]) (fun p => [(3, .ar false 1 (pure2 (p.2.map fun w => [strD w])))])
    (fun p => p.2.length + p.1.length ≤ l.length ∧ (p.1 = [] → l = [] ∧ p.2 = []) ∧ (p.1 ≠ [] → (wordsG p.1).map (p.2 ++ ·) = wordsF l)) (fun p => p.1.length) 4 (l, []) ?_ rfl
    ⟨by simp, fun h => ⟨h, rfl⟩, fun h => by simp only at h ⊢; rw [wordsF, if_neg h]; simp [wordsG]⟩ (by omega) ?_
  · simp only [↓ru, rv, rl, ry, tyf, iM, bM, bsM, cond_true, cond_false, Nat.reduceLT, Nat.reduceBEq, Nat.reduceAdd, Nat.reduceEqDiff, Nat.reduceMul, Nat.reduceLeDiff, Nat.reduceSub, Nat.reduceDiv, Int.reduceLE, Int.reduceLT, Int.reduceNeg, Int.reduceAdd, Int.reduceSub, Int.reduceMul, Int.reduceToNat, Int.reducePow, Int.reduceEq, ne_eq, reduceIte, byteD, dstr, un1_str]
  rintro ⟨s, o⟩ e0 n ⟨hlen, hnil, hne⟩
  simp only at hlen hnil hne
  simp only [↓ru, rv, rl, ry, tyf, iM, bM, bsM, cond_true, cond_false, Nat.reduceLT, Nat.reduceBEq, Nat.reduceAdd, Nat.reduceEqDiff, Nat.reduceMul, Nat.reduceLeDiff, Nat.reduceSub, Nat.reduceDiv, Int.reduceLE, Int.reduceLT, Int.reduceNeg, Int.reduceAdd, Int.reduceSub, Int.reduceMul, Int.reduceToNat, Int.reducePow, Int.reduceEq, ne_eq, reduceIte, byteD, dstr, un1_str]
  refine fork_split (fun h => ?_) (fun h => ?_)
  · have h0 : s ≠ [] := by simpa using h
    have hv := hne h0
    rw [wordsG_step h0] at hv
    have hwl := wordL_le s
    simp only [↓ru, rv, rl, ry, tyf, iM, bM, bsM, cond_true, cond_false, Nat.reduceLT, Nat.reduceBEq, Nat.reduceAdd, Nat.reduceEqDiff, Nat.reduceMul, Nat.reduceLeDiff, Nat.reduceSub, Nat.reduceDiv, Int.reduceLE, Int.reduceLT, Int.reduceNeg, Int.reduceAdd, Int.reduceSub, Int.reduceMul, Int.reduceToNat, Int.reducePow, Int.reduceEq, ne_eq, reduceIte, byteD, dstr, un1_str]
    refine acall1_pure (word' s h0 (by omega)) rfl rfl ?_
    generalize hw : wordL s = w at hv hwl
    simp only [↓ru, rv, rl, ry, tyf, iM, bM, bsM, cond_true, cond_false, Nat.reduceLT, Nat.reduceBEq, Nat.reduceAdd, Nat.reduceEqDiff, Nat.reduceMul, Nat.reduceLeDiff, Nat.reduceSub, Nat.reduceDiv, Int.reduceLE, Int.reduceLT, Int.reduceNeg, Int.reduceAdd, Int.reduceSub, Int.reduceMul, Int.reduceToNat, Int.reducePow, Int.reduceEq, ne_eq, reduceIte, byteD, dstr, un1_str]
    refine fork_split (fun h2 => ?_) (fun h2 => ?_)
    · have h2' := of_decide_eq_true h2
      simp only [↓ru, rv, rl, ry, tyf, iM, bM, bsM, cond_true, cond_false, Nat.reduceLT, Nat.reduceBEq, Nat.reduceAdd, Nat.reduceEqDiff, Nat.reduceMul, Nat.reduceLeDiff, Nat.reduceSub, Nat.reduceDiv, Int.reduceLE, Int.reduceLT, Int.reduceNeg, Int.reduceAdd, Int.reduceSub, Int.reduceMul, Int.reduceToNat, Int.reducePow, Int.reduceEq, ne_eq, reduceIte, byteD, dstr, un1_str, pureEnd_of (fn := Tryd.f49) (rs := [.tmp 2, .tmp 3]) (ts := [62, 4]) rfl rfl]
      rw [if_pos (by omega)] at hv
      rw [← hv]; rfl
    · have h2' := of_decide_eq_false h2
      rw [if_neg (by omega)] at hv
      simp only [↓ru, rv, rl, ry, tyf, iM, bM, bsM, cond_true, cond_false, Nat.reduceLT, Nat.reduceBEq, Nat.reduceAdd, Nat.reduceEqDiff, Nat.reduceMul, Nat.reduceLeDiff, Nat.reduceSub, Nat.reduceDiv, Int.reduceLE, Int.reduceLT, Int.reduceNeg, Int.reduceAdd, Int.reduceSub, Int.reduceMul, Int.reduceToNat, Int.reducePow, Int.reduceEq, ne_eq, reduceIte, byteD, dstr, un1_str]
      refine grd_intro (by omega) ?_
      refine grd_intro (by simp [pure2]; omega) ?_
      refine grd_intro (by omega) ?_
      rw [List.take_of_length_le (l := List.drop w s) (by simp)]
      have hrl : (s.drop w).length + w ≤ s.length := by simp; omega
      have hdd : s.drop (w + 1) = (s.drop w).drop 1 := by rw [List.drop_drop]
      have htk : s.drop w = [] → s.take w = s := take_drop_nil
      rw [hdd] at hv
      clear hdd hw hne hnil
      generalize s.drop w = r at hv hrl htk ⊢
      by_cases hd : r = []
      · subst hd
        rw [if_pos rfl] at hv
        (try (simp only [↓ru, rv, rl, ry, tyf, iM, bM, bsM, cond_true, cond_false, Nat.reduceLT, Nat.reduceBEq, Nat.reduceAdd, Nat.reduceEqDiff, Nat.reduceMul, Nat.reduceLeDiff, Nat.reduceSub, Nat.reduceDiv, Int.reduceLE, Int.reduceLT, Int.reduceNeg, Int.reduceAdd, Int.reduceSub, Int.reduceMul, Int.reduceToNat, Int.reducePow, Int.reduceEq, ne_eq, reduceIte, byteD, dstr, un1_str, pureEnd_of (fn := Tryd.f49) (rs := [.tmp 2, .tmp 3]) (ts := [62, 4]) rfl rfl, *])); repeat' ((first | (refine fork_split (fun _h => ?_) (fun _h => ?_)) | (refine gfork_split (fun _h => ?_) (fun _h => ?_)) | (refine dfork_split (fun _h => ?_) (fun _h => ?_))) <;> (try (simp only [↓ru, rv, rl, ry, tyf, iM, bM, bsM, cond_true, cond_false, Nat.reduceLT, Nat.reduceBEq, Nat.reduceAdd, Nat.reduceEqDiff, Nat.reduceMul, Nat.reduceLeDiff, Nat.reduceSub, Nat.reduceDiv, Int.reduceLE, Int.reduceLT, Int.reduceNeg, Int.reduceAdd, Int.reduceSub, Int.reduceMul, Int.reduceToNat, Int.reducePow, Int.reduceEq, ne_eq, reduceIte, byteD, dstr, un1_str, pureEnd_of (fn := Tryd.f49) (rs := [.tmp 2, .tmp 3]) (ts := [62, 4]) rfl rfl, *])))
        rw [← hv]
        simp [strM, strD]
      · have d1 : decide (r = ([] : List UInt8)) = false := by simpa using hd
        rw [if_neg hd, head_getD hd] at hv
        have hl2 : 0 < r.length := List.length_pos_iff.2 hd
        have g0 : (0 : Int) < (r.length : Int) := by omega
        have g1 : (1 : Int) ≤ (r.length : Int) := by omega
        generalize hx : r.getD 0 0 = x at hv
        (try (simp only [↓ru, rv, rl, ry, tyf, iM, bM, bsM, cond_true, cond_false, Nat.reduceLT, Nat.reduceBEq, Nat.reduceAdd, Nat.reduceEqDiff, Nat.reduceMul, Nat.reduceLeDiff, Nat.reduceSub, Nat.reduceDiv, Int.reduceLE, Int.reduceLT, Int.reduceNeg, Int.reduceAdd, Int.reduceSub, Int.reduceMul, Int.reduceToNat, Int.reducePow, Int.reduceEq, ne_eq, reduceIte, byteD, dstr, un1_str, hx, g0, g1, d1, pureEnd_of (fn := Tryd.f49) (rs := [.tmp 2, .tmp 3]) (ts := [62, 4]) rfl rfl, *])); repeat' ((first | (refine fork_split (fun _h => ?_) (fun _h => ?_)) | (refine gfork_split (fun _h => ?_) (fun _h => ?_)) | (refine dfork_split (fun _h => ?_) (fun _h => ?_))) <;> (try (simp only [↓ru, rv, rl, ry, tyf, iM, bM, bsM, cond_true, cond_false, Nat.reduceLT, Nat.reduceBEq, Nat.reduceAdd, Nat.reduceEqDiff, Nat.reduceMul, Nat.reduceLeDiff, Nat.reduceSub, Nat.reduceDiv, Int.reduceLE, Int.reduceLT, Int.reduceNeg, Int.reduceAdd, Int.reduceSub, Int.reduceMul, Int.reduceToNat, Int.reducePow, Int.reduceEq, ne_eq, reduceIte, byteD, dstr, un1_str, hx, g0, g1, d1, pureEnd_of (fn := Tryd.f49) (rs := [.tmp 2, .tmp 3]) (ts := [62, 4]) rfl rfl, *])))
        all_goals (try simp only [Bool.not_eq_true', Bool.not_eq_false', decide_eq_true_eq, decide_eq_false_iff_not] at *)
        · rw [if_neg (by intro e; cases e; simp_all)] at hv
          rw [← hv]; rfl
        · have hx32 : x = 32 := byte_inj.1 (by simp_all)
          have hr1 : r.drop 1 = [] := List.drop_eq_nil_of_le (by simp at *; omega)
          rw [if_pos (by rw [hx32]), hr1, wordsG_nil] at hv
          rw [← hv]; rfl
        · have hx32 : x = 32 := byte_inj.1 (by simp_all)
          rw [if_pos (by rw [hx32])] at hv
          refine grd_intro (by omega) ?_
          have hne1 : r.length ≠ 1 := by intro e; simp_all
          have hr1 : r.drop 1 ≠ [] := by intro e; have := congrArg List.length e; simp at this; omega
          rw [List.take_of_length_le (l := List.drop 1 r) (by simp)]
          refine loopL_drop (r.drop 1, o ++ [s.take w]) ?_ ?_ ⟨by simp; omega, fun h => absurd h hr1, fun _ => ?_⟩ (by omega) (by simp; omega)
          · simp only [↓ru, rv, rl, ry, tyf, iM, bM, bsM, cond_true, cond_false, Nat.reduceLT, Nat.reduceBEq, Nat.reduceAdd, Nat.reduceEqDiff, Nat.reduceMul, Nat.reduceLeDiff, Nat.reduceSub, Nat.reduceDiv, Int.reduceLE, Int.reduceLT, Int.reduceNeg, Int.reduceAdd, Int.reduceSub, Int.reduceMul, Int.reduceToNat, Int.reducePow, Int.reduceEq, ne_eq, reduceIte, byteD, dstr, un1_str]
            simp [pure2]
          · simp only [↓ru, rv, rl, ry, tyf, iM, bM, bsM, cond_true, cond_false, Nat.reduceLT, Nat.reduceBEq, Nat.reduceAdd, Nat.reduceEqDiff, Nat.reduceMul, Nat.reduceLeDiff, Nat.reduceSub, Nat.reduceDiv, Int.reduceLE, Int.reduceLT, Int.reduceNeg, Int.reduceAdd, Int.reduceSub, Int.reduceMul, Int.reduceToNat, Int.reducePow, Int.reduceEq, ne_eq, reduceIte, byteD, dstr, un1_str]
            simp [pure2, strM, strD]
          · simp only
            rw [← hv]
            simp [Option.map_map, Function.comp_def]
  · have h0 : s = [] := by simpa using h
    subst h0
    obtain ⟨rfl, rfl⟩ := hnil rfl
    simp only [↓ru, rv, rl, ry, tyf, iM, bM, bsM, cond_true, cond_false, Nat.reduceLT, Nat.reduceBEq, Nat.reduceAdd, Nat.reduceEqDiff, Nat.reduceMul, Nat.reduceLeDiff, Nat.reduceSub, Nat.reduceDiv, Int.reduceLE, Int.reduceLT, Int.reduceNeg, Int.reduceAdd, Int.reduceSub, Int.reduceMul, Int.reduceToNat, Int.reducePow, Int.reduceEq, ne_eq, reduceIte, byteD, dstr, un1_str, pureEnd_of (fn := Tryd.f49) (rs := [.tmp 2, .tmp 3]) (ts := [62, 4]) rfl rfl]
    rfl
end Go.TW

import Derived.Test.YtmgfnlnomecbiaaDoorT6
set_option linter.all false
open Go.Proofs Go.Abs Go.Fa Go.BU Go.TX
namespace Go.TW
set_option maxHeartbeats 4000000
set_option maxRecDepth 10000
-- rules: byteD, dstr, un1_str

theorem takeWhile_len {s : List UInt8} {p : UInt8 → Bool} {n : Nat} (h1 : (s.take n).all p = true) (hn : n ≤ s.length) (h2 : ∀ (h : n < s.length), p (s.getD n 0) = false) : (s.takeWhile p).length = n := by
  rw [← List.take_append_drop n s, List.takeWhile_append_of_pos (by simpa [List.all_eq_true] using h1)]
  have e : (s.drop n).takeWhile p = [] := by
    by_cases h : n < s.length
    · rw [drop_getD h, List.takeWhile_cons_of_neg (by rw [h2 h]; simp)]
    · rw [List.drop_eq_nil_of_le (by omega)]; rfl
  rw [e]; simp; omega
theorem wordL_plain {s : List UInt8} (h : s ≠ []) (h2 : s.getD 0 0 ≠ 34) : wordL s = (s.takeWhile wc).length := by
  cases s with
  | nil => exact absurd rfl h
  | cons b l => rw [wordL, if_neg (by simpa using h2)]
theorem wordL_quoted {s : List UInt8} (h : s ≠ []) (h2 : s.getD 0 0 = 34) : wordL s = match idx 34 (s.drop 1) with | none => 0 | some e => if (unq (s.take (e + 2))).isSome then e + 2 else 0 := by
  cases s with
  | nil => exact absurd rfl h
  | cons b l => rw [wordL, if_pos (by simpa using h2)]; rfl
theorem word' (s : List UInt8) (h0 : s ≠ []) (hs : s.length ≤ 300000) : PFn Tryd.prog 79 [strM s] (iM (wordL s)) := by
  (refine PFn.of (prs := []) Tryd.func79 rfl rfl mix (by kernel_rfl) rfl rfl ?_; simp only [Tryd.ntmps79, argUpd])
  have hl : 0 < s.length := List.length_pos_iff.2 h0
  have g0 : (0 : Int) < (s.length : Int) := by omega
  generalize hx : s.getD 0 0 = x
  simp only [↓ru, rv, rl, ry, tyf, iM, bM, bsM, cond_true, cond_false, Nat.reduceLT, Nat.reduceBEq, Nat.reduceAdd, Nat.reduceEqDiff, Nat.reduceMul, Nat.reduceLeDiff, Nat.reduceSub, Nat.reduceDiv, Int.reduceLE, Int.reduceLT, Int.reduceNeg, Int.reduceAdd, Int.reduceSub, Int.reduceMul, Int.reduceToNat, Int.reducePow, Int.reduceEq, ne_eq, reduceIte, byteD, dstr, un1_str, hx]
  refine grd_intro g0 ?_
  refine fork_split (fun h => ?_) (fun h => ?_)
  · have hx34 : x = 34 := byte_inj.1 (by simpa using h)
    subst hx34
    rw [wordL_quoted h0 hx]
    simp only [↓ru, rv, rl, ry, tyf, iM, bM, bsM, cond_true, cond_false, Nat.reduceLT, Nat.reduceBEq, Nat.reduceAdd, Nat.reduceEqDiff, Nat.reduceMul, Nat.reduceLeDiff, Nat.reduceSub, Nat.reduceDiv, Int.reduceLE, Int.reduceLT, Int.reduceNeg, Int.reduceAdd, Int.reduceSub, Int.reduceMul, Int.reduceToNat, Int.reducePow, Int.reduceEq, ne_eq, reduceIte, byteD, dstr, un1_str, hx]
    refine grd_intro (by omega) ?_
    rw [List.take_of_length_le (l := List.drop 1 s) (by simp <;> omega)]
    refine acall1_pure (indexByte (s.drop 1) 34 rfl) rfl rfl ?_
    cases hi : idx 34 (s.drop 1) with
    | none =>
      have e1 : idxM 34 (s.drop 1) = -1 := by rw [idxM, hi]
      simp only [↓ru, rv, rl, ry, tyf, iM, bM, bsM, cond_true, cond_false, Nat.reduceLT, Nat.reduceBEq, Nat.reduceAdd, Nat.reduceEqDiff, Nat.reduceMul, Nat.reduceLeDiff, Nat.reduceSub, Nat.reduceDiv, Int.reduceLE, Int.reduceLT, Int.reduceNeg, Int.reduceAdd, Int.reduceSub, Int.reduceMul, Int.reduceToNat, Int.reducePow, Int.reduceEq, ne_eq, reduceIte, byteD, dstr, un1_str, e1, pureEnd_of (fn := Tryd.f79) (rs := [.tmp 2]) (ts := [3]) rfl rfl]
    | some e =>
      have e1 : idxM 34 (s.drop 1) = e := by rw [idxM, hi]
      have he := (idx_lt hi).1
      simp at he
      have e2 : decide ((e : Int) < 0) = false := by simp
      simp only [↓ru, rv, rl, ry, tyf, iM, bM, bsM, cond_true, cond_false, Nat.reduceLT, Nat.reduceBEq, Nat.reduceAdd, Nat.reduceEqDiff, Nat.reduceMul, Nat.reduceLeDiff, Nat.reduceSub, Nat.reduceDiv, Int.reduceLE, Int.reduceLT, Int.reduceNeg, Int.reduceAdd, Int.reduceSub, Int.reduceMul, Int.reduceToNat, Int.reducePow, Int.reduceEq, ne_eq, reduceIte, byteD, dstr, un1_str, e1, e2]
      simp (disch := omega) only [wrap_i64, wrap_u8, wrap_u16, wrap_u64]
      refine grd_intro (by omega) ?_
      rw [show ((e : Int) + 2).toNat = e + 2 by omega]
      refine acall1_pure (Unquote (s.take (e + 2)) (by simp <;> omega)) rfl rfl ?_
      cases hu : (unq (s.take (e + 2))).isSome with
      | true =>
        simp only [↓ru, rv, rl, ry, tyf, iM, bM, bsM, cond_true, cond_false, Nat.reduceLT, Nat.reduceBEq, Nat.reduceAdd, Nat.reduceEqDiff, Nat.reduceMul, Nat.reduceLeDiff, Nat.reduceSub, Nat.reduceDiv, Int.reduceLE, Int.reduceLT, Int.reduceNeg, Int.reduceAdd, Int.reduceSub, Int.reduceMul, Int.reduceToNat, Int.reducePow, Int.reduceEq, ne_eq, reduceIte, byteD, dstr, un1_str, hu, pureEnd_of (fn := Tryd.f79) (rs := [.tmp 2]) (ts := [3]) rfl rfl]
        simp (disch := omega) only [wrap_i64, wrap_u8, wrap_u16, wrap_u64]
        simp
      | false =>
        simp only [↓ru, rv, rl, ry, tyf, iM, bM, bsM, cond_true, cond_false, Nat.reduceLT, Nat.reduceBEq, Nat.reduceAdd, Nat.reduceEqDiff, Nat.reduceMul, Nat.reduceLeDiff, Nat.reduceSub, Nat.reduceDiv, Int.reduceLE, Int.reduceLT, Int.reduceNeg, Int.reduceAdd, Int.reduceSub, Int.reduceMul, Int.reduceToNat, Int.reducePow, Int.reduceEq, ne_eq, reduceIte, byteD, dstr, un1_str, hu, pureEnd_of (fn := Tryd.f79) (rs := [.tmp 2]) (ts := [3]) rfl rfl]
        simp
  · have hx34 : x ≠ 34 := fun e => by subst e; simp at h
    rw [wordL_plain h0 (by rw [hx]; exact hx34)]
    simp only [↓ru, rv, rl, ry, tyf, iM, bM, bsM, cond_true, cond_false, Nat.reduceLT, Nat.reduceBEq, Nat.reduceAdd, Nat.reduceEqDiff, Nat.reduceMul, Nat.reduceLeDiff, Nat.reduceSub, Nat.reduceDiv, Int.reduceLE, Int.reduceLT, Int.reduceNeg, Int.reduceAdd, Int.reduceSub, Int.reduceMul, Int.reduceToNat, Int.reducePow, Int.reduceEq, ne_eq, reduceIte, byteD, dstr, un1_str, hx]
    refine aloop_lv (fun i : Nat => [(0, strM s), (6, iM i)]) (fun _ => []) (fun i => i ≤ s.length ∧ (s.take i).all wc = true) (fun i => s.length - i) 0 0 ?_ rfl ⟨by omega, by simp⟩ (by omega) ?_
    · simp only [↓ru, rv, rl, ry, tyf, iM, bM, bsM, cond_true, cond_false, Nat.reduceLT, Nat.reduceBEq, Nat.reduceAdd, Nat.reduceEqDiff, Nat.reduceMul, Nat.reduceLeDiff, Nat.reduceSub, Nat.reduceDiv, Int.reduceLE, Int.reduceLT, Int.reduceNeg, Int.reduceAdd, Int.reduceSub, Int.reduceMul, Int.reduceToNat, Int.reducePow, Int.reduceEq, ne_eq, reduceIte, byteD, dstr, un1_str]
    intro i e0 n ⟨hi, ha⟩
    simp only [↓ru, rv, rl, ry, tyf, iM, bM, bsM, cond_true, cond_false, Nat.reduceLT, Nat.reduceBEq, Nat.reduceAdd, Nat.reduceEqDiff, Nat.reduceMul, Nat.reduceLeDiff, Nat.reduceSub, Nat.reduceDiv, Int.reduceLE, Int.reduceLT, Int.reduceNeg, Int.reduceAdd, Int.reduceSub, Int.reduceMul, Int.reduceToNat, Int.reducePow, Int.reduceEq, ne_eq, reduceIte, byteD, dstr, un1_str]
    refine gfork_split (fun h => ?_) (fun h => ?_)
    · have h' := of_decide_eq_true h
      have hta := take_all (s := s) (i := i) (p := wc) (by omega) ha
      generalize hy : s.getD i 0 = y at hta
      have g2 : (i : Int) < (s.length : Int) := h'
      (try (simp only [↓ru, rv, rl, ry, tyf, iM, bM, bsM, cond_true, cond_false, Nat.reduceLT, Nat.reduceBEq, Nat.reduceAdd, Nat.reduceEqDiff, Nat.reduceMul, Nat.reduceLeDiff, Nat.reduceSub, Nat.reduceDiv, Int.reduceLE, Int.reduceLT, Int.reduceNeg, Int.reduceAdd, Int.reduceSub, Int.reduceMul, Int.reduceToNat, Int.reducePow, Int.reduceEq, ne_eq, reduceIte, byteD, dstr, un1_str, hy, g2, pureEnd_of (fn := Tryd.f79) (rs := [.tmp 2]) (ts := [3]) rfl rfl, *])); repeat' ((first | (refine fork_split (fun _h => ?_) (fun _h => ?_)) | (refine gfork_split (fun _h => ?_) (fun _h => ?_)) | (refine dfork_split (fun _h => ?_) (fun _h => ?_))) <;> (try (simp only [↓ru, rv, rl, ry, tyf, iM, bM, bsM, cond_true, cond_false, Nat.reduceLT, Nat.reduceBEq, Nat.reduceAdd, Nat.reduceEqDiff, Nat.reduceMul, Nat.reduceLeDiff, Nat.reduceSub, Nat.reduceDiv, Int.reduceLE, Int.reduceLT, Int.reduceNeg, Int.reduceAdd, Int.reduceSub, Int.reduceMul, Int.reduceToNat, Int.reducePow, Int.reduceEq, ne_eq, reduceIte, byteD, dstr, un1_str, hy, g2, pureEnd_of (fn := Tryd.f79) (rs := [.tmp 2]) (ts := [3]) rfl rfl, *])))
      all_goals (try simp only [Bool.not_eq_true', Bool.not_eq_false', decide_eq_true_eq, decide_eq_false_iff_not] at *)
      all_goals first
        | (refine congrArg _ (congrArg _ (congrArg _ ?_)); rw [takeWhile_len ha (by omega) (fun _ => by rw [hy]; simp [wc]; omega)])
        | (simp (disch := omega) only [wrap_i64, wrap_u8, wrap_u16, wrap_u64]
           refine loopL_next (i + 1) ?_ rfl ⟨by omega, hta (by simp [wc]; omega)⟩ (by omega) (by omega)
           simp only [↓ru, rv, rl, ry, tyf, iM, bM, bsM, cond_true, cond_false, Nat.reduceLT, Nat.reduceBEq, Nat.reduceAdd, Nat.reduceEqDiff, Nat.reduceMul, Nat.reduceLeDiff, Nat.reduceSub, Nat.reduceDiv, Int.reduceLE, Int.reduceLT, Int.reduceNeg, Int.reduceAdd, Int.reduceSub, Int.reduceMul, Int.reduceToNat, Int.reducePow, Int.reduceEq, ne_eq, reduceIte, byteD, dstr, un1_str]
           simp)
    · have h' := of_decide_eq_false h
      have : i = s.length := by omega
      subst this
      (try (simp only [↓ru, rv, rl, ry, tyf, iM, bM, bsM, cond_true, cond_false, Nat.reduceLT, Nat.reduceBEq, Nat.reduceAdd, Nat.reduceEqDiff, Nat.reduceMul, Nat.reduceLeDiff, Nat.reduceSub, Nat.reduceDiv, Int.reduceLE, Int.reduceLT, Int.reduceNeg, Int.reduceAdd, Int.reduceSub, Int.reduceMul, Int.reduceToNat, Int.reducePow, Int.reduceEq, ne_eq, reduceIte, byteD, dstr, un1_str, pureEnd_of (fn := Tryd.f79) (rs := [.tmp 2]) (ts := [3]) rfl rfl, *])); repeat' ((first | (refine fork_split (fun _h => ?_) (fun _h => ?_)) | (refine gfork_split (fun _h => ?_) (fun _h => ?_)) | (refine dfork_split (fun _h => ?_) (fun _h => ?_))) <;> (try (simp only [↓ru, rv, rl, ry, tyf, iM, bM, bsM, cond_true, cond_false, Nat.reduceLT, Nat.reduceBEq, Nat.reduceAdd, Nat.reduceEqDiff, Nat.reduceMul, Nat.reduceLeDiff, Nat.reduceSub, Nat.reduceDiv, Int.reduceLE, Int.reduceLT, Int.reduceNeg, Int.reduceAdd, Int.reduceSub, Int.reduceMul, Int.reduceToNat, Int.reducePow, Int.reduceEq, ne_eq, reduceIte, byteD, dstr, un1_str, pureEnd_of (fn := Tryd.f79) (rs := [.tmp 2]) (ts := [3]) rfl rfl, *])))
      rw [takeWhile_len ha (by omega) (fun h => by omega)]
theorem idx_found {c : UInt8} : ∀ {l : List UInt8} {k : Nat}, k < l.length → l.getD k 0 = c → (∀ j, j < k → l.getD j 0 ≠ c) → idx c l = some k
  | [], k, h, _, _ => by simp at h
  | b :: l, 0, _, h, _ => by rw [idx, if_pos (by simpa using h)]
  | b :: l, k + 1, h1, h2, h3 => by
    have hb : b ≠ c := by simpa using h3 0 (by omega)
    rw [idx, if_neg hb, idx_found (l := l) (k := k) (by simpa using h1) (by simpa using h2) (fun j hj => by simpa using h3 (j + 1) (by omega))]; rfl
theorem idx_not {c : UInt8} : ∀ {l : List UInt8}, (∀ j, j < l.length → l.getD j 0 ≠ c) → idx c l = none
  | [], _ => rfl
  | b :: l, h => by
    have hb : b ≠ c := by simpa using h 0 (by simp)
    rw [idx, if_neg hb, idx_not (l := l) (fun j hj => by simpa using h (j + 1) (by simpa using hj))]; rfl
theorem drop1_getD {s : List UInt8} {j : Nat} : (s.drop 1).getD j 0 = s.getD (j + 1) 0 := by
  simp [List.getD, Nat.add_comm]
theorem first (s : List UInt8) (hs : s.length ≤ 300000) : PFn Tryd.prog 111 [strM s] (iM (wordL s)) := by
  (refine PFn.of (prs := []) Tryd.func111 rfl rfl mix (by kernel_rfl) rfl rfl ?_; simp only [Tryd.ntmps111, argUpd])
  by_cases h0 : s = []
  · subst h0
    (try (simp only [↓ru, rv, rl, ry, tyf, iM, bM, bsM, cond_true, cond_false, Nat.reduceLT, Nat.reduceBEq, Nat.reduceAdd, Nat.reduceEqDiff, Nat.reduceMul, Nat.reduceLeDiff, Nat.reduceSub, Nat.reduceDiv, Int.reduceLE, Int.reduceLT, Int.reduceNeg, Int.reduceAdd, Int.reduceSub, Int.reduceMul, Int.reduceToNat, Int.reducePow, Int.reduceEq, ne_eq, reduceIte, byteD, dstr, un1_str, pureEnd_of (fn := Tryd.f111) (rs := [.tmp 2]) (ts := [3]) rfl rfl, *])); repeat' ((first | (refine fork_split (fun _h => ?_) (fun _h => ?_)) | (refine gfork_split (fun _h => ?_) (fun _h => ?_)) | (refine dfork_split (fun _h => ?_) (fun _h => ?_))) <;> (try (simp only [↓ru, rv, rl, ry, tyf, iM, bM, bsM, cond_true, cond_false, Nat.reduceLT, Nat.reduceBEq, Nat.reduceAdd, Nat.reduceEqDiff, Nat.reduceMul, Nat.reduceLeDiff, Nat.reduceSub, Nat.reduceDiv, Int.reduceLE, Int.reduceLT, Int.reduceNeg, Int.reduceAdd, Int.reduceSub, Int.reduceMul, Int.reduceToNat, Int.reducePow, Int.reduceEq, ne_eq, reduceIte, byteD, dstr, un1_str, pureEnd_of (fn := Tryd.f111) (rs := [.tmp 2]) (ts := [3]) rfl rfl, *])))
    rfl
  have d1 : decide (s = ([] : List UInt8)) = false := by simpa using h0
  have hl : 0 < s.length := List.length_pos_iff.2 h0
  have g0 : (0 : Int) < (s.length : Int) := by omega
  generalize hx : s.getD 0 0 = x
  simp only [↓ru, rv, rl, ry, tyf, iM, bM, bsM, cond_true, cond_false, Nat.reduceLT, Nat.reduceBEq, Nat.reduceAdd, Nat.reduceEqDiff, Nat.reduceMul, Nat.reduceLeDiff, Nat.reduceSub, Nat.reduceDiv, Int.reduceLE, Int.reduceLT, Int.reduceNeg, Int.reduceAdd, Int.reduceSub, Int.reduceMul, Int.reduceToNat, Int.reducePow, Int.reduceEq, ne_eq, reduceIte, byteD, dstr, un1_str, hx, d1]
  refine grd_intro g0 ?_
  refine fork_split (fun h => ?_) (fun h => ?_)
  · have hx34 : x ≠ 34 := fun e => by subst e; simp at h
    rw [wordL_plain h0 (by rw [hx]; exact hx34)]
    simp only [↓ru, rv, rl, ry, tyf, iM, bM, bsM, cond_true, cond_false, Nat.reduceLT, Nat.reduceBEq, Nat.reduceAdd, Nat.reduceEqDiff, Nat.reduceMul, Nat.reduceLeDiff, Nat.reduceSub, Nat.reduceDiv, Int.reduceLE, Int.reduceLT, Int.reduceNeg, Int.reduceAdd, Int.reduceSub, Int.reduceMul, Int.reduceToNat, Int.reducePow, Int.reduceEq, ne_eq, reduceIte, byteD, dstr, un1_str, hx]
    refine aloop_lv (fun i : Nat => [(0, strM s), (3, iM i)]) (fun _ => []) (fun i => i ≤ s.length ∧ (s.take i).all wc = true) (fun i => s.length - i) 0 0 ?_ rfl ⟨by omega, by simp⟩ (by omega) ?_
    · simp only [↓ru, rv, rl, ry, tyf, iM, bM, bsM, cond_true, cond_false, Nat.reduceLT, Nat.reduceBEq, Nat.reduceAdd, Nat.reduceEqDiff, Nat.reduceMul, Nat.reduceLeDiff, Nat.reduceSub, Nat.reduceDiv, Int.reduceLE, Int.reduceLT, Int.reduceNeg, Int.reduceAdd, Int.reduceSub, Int.reduceMul, Int.reduceToNat, Int.reducePow, Int.reduceEq, ne_eq, reduceIte, byteD, dstr, un1_str]
    intro i e0 n ⟨hi, ha⟩
    simp only [↓ru, rv, rl, ry, tyf, iM, bM, bsM, cond_true, cond_false, Nat.reduceLT, Nat.reduceBEq, Nat.reduceAdd, Nat.reduceEqDiff, Nat.reduceMul, Nat.reduceLeDiff, Nat.reduceSub, Nat.reduceDiv, Int.reduceLE, Int.reduceLT, Int.reduceNeg, Int.reduceAdd, Int.reduceSub, Int.reduceMul, Int.reduceToNat, Int.reducePow, Int.reduceEq, ne_eq, reduceIte, byteD, dstr, un1_str]
    refine gfork_split (fun h => ?_) (fun h => ?_)
    · have h' := of_decide_eq_true h
      have hta := take_all (s := s) (i := i) (p := wc) (by omega) ha
      generalize hy : s.getD i 0 = y at hta
      have g2 : (i : Int) < (s.length : Int) := h'
      (try (simp only [↓ru, rv, rl, ry, tyf, iM, bM, bsM, cond_true, cond_false, Nat.reduceLT, Nat.reduceBEq, Nat.reduceAdd, Nat.reduceEqDiff, Nat.reduceMul, Nat.reduceLeDiff, Nat.reduceSub, Nat.reduceDiv, Int.reduceLE, Int.reduceLT, Int.reduceNeg, Int.reduceAdd, Int.reduceSub, Int.reduceMul, Int.reduceToNat, Int.reducePow, Int.reduceEq, ne_eq, reduceIte, byteD, dstr, un1_str, hy, g2, pureEnd_of (fn := Tryd.f111) (rs := [.tmp 2]) (ts := [3]) rfl rfl, *])); repeat' ((first | (refine fork_split (fun _h => ?_) (fun _h => ?_)) | (refine gfork_split (fun _h => ?_) (fun _h => ?_)) | (refine dfork_split (fun _h => ?_) (fun _h => ?_))) <;> (try (simp only [↓ru, rv, rl, ry, tyf, iM, bM, bsM, cond_true, cond_false, Nat.reduceLT, Nat.reduceBEq, Nat.reduceAdd, Nat.reduceEqDiff, Nat.reduceMul, Nat.reduceLeDiff, Nat.reduceSub, Nat.reduceDiv, Int.reduceLE, Int.reduceLT, Int.reduceNeg, Int.reduceAdd, Int.reduceSub, Int.reduceMul, Int.reduceToNat, Int.reducePow, Int.reduceEq, ne_eq, reduceIte, byteD, dstr, un1_str, hy, g2, pureEnd_of (fn := Tryd.f111) (rs := [.tmp 2]) (ts := [3]) rfl rfl, *])))
      all_goals (try simp only [Bool.not_eq_true', Bool.not_eq_false', decide_eq_true_eq, decide_eq_false_iff_not] at *)
      all_goals first
        | (refine congrArg _ (congrArg _ (congrArg _ ?_)); rw [takeWhile_len ha (by omega) (fun _ => by rw [hy]; simp [wc]; omega)])
        | (simp (disch := omega) only [wrap_i64, wrap_u8, wrap_u16, wrap_u64]
           refine loopL_next (i + 1) ?_ rfl ⟨by omega, hta (by simp [wc]; omega)⟩ (by omega) (by omega)
           simp only [↓ru, rv, rl, ry, tyf, iM, bM, bsM, cond_true, cond_false, Nat.reduceLT, Nat.reduceBEq, Nat.reduceAdd, Nat.reduceEqDiff, Nat.reduceMul, Nat.reduceLeDiff, Nat.reduceSub, Nat.reduceDiv, Int.reduceLE, Int.reduceLT, Int.reduceNeg, Int.reduceAdd, Int.reduceSub, Int.reduceMul, Int.reduceToNat, Int.reducePow, Int.reduceEq, ne_eq, reduceIte, byteD, dstr, un1_str]
           simp)
    · have h' := of_decide_eq_false h
      have : i = s.length := by omega
      subst this
      (try (simp only [↓ru, rv, rl, ry, tyf, iM, bM, bsM, cond_true, cond_false, Nat.reduceLT, Nat.reduceBEq, Nat.reduceAdd, Nat.reduceEqDiff, Nat.reduceMul, Nat.reduceLeDiff, Nat.reduceSub, Nat.reduceDiv, Int.reduceLE, Int.reduceLT, Int.reduceNeg, Int.reduceAdd, Int.reduceSub, Int.reduceMul, Int.reduceToNat, Int.reducePow, Int.reduceEq, ne_eq, reduceIte, byteD, dstr, un1_str, pureEnd_of (fn := Tryd.f111) (rs := [.tmp 2]) (ts := [3]) rfl rfl, *])); repeat' ((first | (refine fork_split (fun _h => ?_) (fun _h => ?_)) | (refine gfork_split (fun _h => ?_) (fun _h => ?_)) | (refine dfork_split (fun _h => ?_) (fun _h => ?_))) <;> (try (simp only [↓ru, rv, rl, ry, tyf, iM, bM, bsM, cond_true, cond_false, Nat.reduceLT, Nat.reduceBEq, Nat.reduceAdd, Nat.reduceEqDiff, Nat.reduceMul, Nat.reduceLeDiff, Nat.reduceSub, Nat.reduceDiv, Int.reduceLE, Int.reduceLT, Int.reduceNeg, Int.reduceAdd, Int.reduceSub, Int.reduceMul, Int.reduceToNat, Int.reducePow, Int.reduceEq, ne_eq, reduceIte, byteD, dstr, un1_str, pureEnd_of (fn := Tryd.f111) (rs := [.tmp 2]) (ts := [3]) rfl rfl, *])))
      rw [takeWhile_len ha (by omega) (fun h => by omega)]
  · have hx34 : x = 34 := by
      apply byte_inj.1
      simp at h
      simp [h]
    subst hx34
    rw [wordL_quoted h0 hx]
    simp only [↓ru, rv, rl, ry, tyf, iM, bM, bsM, cond_true, cond_false, Nat.reduceLT, Nat.reduceBEq, Nat.reduceAdd, Nat.reduceEqDiff, Nat.reduceMul, Nat.reduceLeDiff, Nat.reduceSub, Nat.reduceDiv, Int.reduceLE, Int.reduceLT, Int.reduceNeg, Int.reduceAdd, Int.reduceSub, Int.reduceMul, Int.reduceToNat, Int.reducePow, Int.reduceEq, ne_eq, reduceIte, byteD, dstr, un1_str]
    refine aloop_lv (fun i : Nat => [(0, strM s), (4, iM i)]) (fun _ => []) (fun i => 1 ≤ i ∧ i ≤ s.length ∧ ∀ j, j < i - 1 → (s.drop 1).getD j 0 ≠ 34) (fun i => s.length - i) 0 1 ?_ rfl ⟨by omega, by omega, fun j hj => by omega⟩ (by omega) ?_
    · simp only [↓ru, rv, rl, ry, tyf, iM, bM, bsM, cond_true, cond_false, Nat.reduceLT, Nat.reduceBEq, Nat.reduceAdd, Nat.reduceEqDiff, Nat.reduceMul, Nat.reduceLeDiff, Nat.reduceSub, Nat.reduceDiv, Int.reduceLE, Int.reduceLT, Int.reduceNeg, Int.reduceAdd, Int.reduceSub, Int.reduceMul, Int.reduceToNat, Int.reducePow, Int.reduceEq, ne_eq, reduceIte, byteD, dstr, un1_str]
    intro i e0 n ⟨hi1, hi, ha⟩
    simp only [↓ru, rv, rl, ry, tyf, iM, bM, bsM, cond_true, cond_false, Nat.reduceLT, Nat.reduceBEq, Nat.reduceAdd, Nat.reduceEqDiff, Nat.reduceMul, Nat.reduceLeDiff, Nat.reduceSub, Nat.reduceDiv, Int.reduceLE, Int.reduceLT, Int.reduceNeg, Int.reduceAdd, Int.reduceSub, Int.reduceMul, Int.reduceToNat, Int.reducePow, Int.reduceEq, ne_eq, reduceIte, byteD, dstr, un1_str]
    refine fork_split (fun h => ?_) (fun h => ?_)
    · have h' := of_decide_eq_true h
      have hy' : (s.drop 1).getD (i - 1) 0 = s.getD i 0 := by rw [drop1_getD, show i - 1 + 1 = i by omega]
      generalize hy : s.getD i 0 = y at hy'
      simp only [↓ru, rv, rl, ry, tyf, iM, bM, bsM, cond_true, cond_false, Nat.reduceLT, Nat.reduceBEq, Nat.reduceAdd, Nat.reduceEqDiff, Nat.reduceMul, Nat.reduceLeDiff, Nat.reduceSub, Nat.reduceDiv, Int.reduceLE, Int.reduceLT, Int.reduceNeg, Int.reduceAdd, Int.reduceSub, Int.reduceMul, Int.reduceToNat, Int.reducePow, Int.reduceEq, ne_eq, reduceIte, byteD, dstr, un1_str, hy]
      refine grd_intro h' ?_
      refine fork_split (fun h2 => ?_) (fun h2 => ?_)
      · have hy34 : y = 34 := byte_inj.1 (by simpa using h2)
        subst hy34
        rw [idx_found (k := i - 1) (by simp; omega) hy' ha]
        simp only
        rw [show i - 1 + 2 = i + 1 by omega]
        simp only [↓ru, rv, rl, ry, tyf, iM, bM, bsM, cond_true, cond_false, Nat.reduceLT, Nat.reduceBEq, Nat.reduceAdd, Nat.reduceEqDiff, Nat.reduceMul, Nat.reduceLeDiff, Nat.reduceSub, Nat.reduceDiv, Int.reduceLE, Int.reduceLT, Int.reduceNeg, Int.reduceAdd, Int.reduceSub, Int.reduceMul, Int.reduceToNat, Int.reducePow, Int.reduceEq, ne_eq, reduceIte, byteD, dstr, un1_str]
        simp (disch := omega) only [wrap_i64, wrap_u8, wrap_u16, wrap_u64]
        refine grd_intro (by omega) ?_
        rw [show ((i : Int) + 1).toNat = i + 1 by omega]
        refine acall1_pure (UnquoteR (s.take (i + 1)) (by simp; omega)) rfl rfl ?_
        cases hu : (unq (s.take (i + 1))).isSome with
        | true =>
          simp only [↓ru, rv, rl, ry, tyf, iM, bM, bsM, cond_true, cond_false, Nat.reduceLT, Nat.reduceBEq, Nat.reduceAdd, Nat.reduceEqDiff, Nat.reduceMul, Nat.reduceLeDiff, Nat.reduceSub, Nat.reduceDiv, Int.reduceLE, Int.reduceLT, Int.reduceNeg, Int.reduceAdd, Int.reduceSub, Int.reduceMul, Int.reduceToNat, Int.reducePow, Int.reduceEq, ne_eq, reduceIte, byteD, dstr, un1_str, hu, pureEnd_of (fn := Tryd.f111) (rs := [.tmp 2]) (ts := [3]) rfl rfl]
          simp (disch := omega) only [wrap_i64, wrap_u8, wrap_u16, wrap_u64]
          simp
        | false =>
          simp only [↓ru, rv, rl, ry, tyf, iM, bM, bsM, cond_true, cond_false, Nat.reduceLT, Nat.reduceBEq, Nat.reduceAdd, Nat.reduceEqDiff, Nat.reduceMul, Nat.reduceLeDiff, Nat.reduceSub, Nat.reduceDiv, Int.reduceLE, Int.reduceLT, Int.reduceNeg, Int.reduceAdd, Int.reduceSub, Int.reduceMul, Int.reduceToNat, Int.reducePow, Int.reduceEq, ne_eq, reduceIte, byteD, dstr, un1_str, hu, pureEnd_of (fn := Tryd.f111) (rs := [.tmp 2]) (ts := [3]) rfl rfl]
          simp
      · have hy34 : y ≠ 34 := fun e => by subst e; simp at h2
        simp only [↓ru, rv, rl, ry, tyf, iM, bM, bsM, cond_true, cond_false, Nat.reduceLT, Nat.reduceBEq, Nat.reduceAdd, Nat.reduceEqDiff, Nat.reduceMul, Nat.reduceLeDiff, Nat.reduceSub, Nat.reduceDiv, Int.reduceLE, Int.reduceLT, Int.reduceNeg, Int.reduceAdd, Int.reduceSub, Int.reduceMul, Int.reduceToNat, Int.reducePow, Int.reduceEq, ne_eq, reduceIte, byteD, dstr, un1_str]
        simp (disch := omega) only [wrap_i64, wrap_u8, wrap_u16, wrap_u64]
        refine loopL_next (i + 1) ?_ rfl ⟨by omega, by omega, fun j hj => ?_⟩ (by omega) (by omega)
        · simp only [↓ru, rv, rl, ry, tyf, iM, bM, bsM, cond_true, cond_false, Nat.reduceLT, Nat.reduceBEq, Nat.reduceAdd, Nat.reduceEqDiff, Nat.reduceMul, Nat.reduceLeDiff, Nat.reduceSub, Nat.reduceDiv, Int.reduceLE, Int.reduceLT, Int.reduceNeg, Int.reduceAdd, Int.reduceSub, Int.reduceMul, Int.reduceToNat, Int.reducePow, Int.reduceEq, ne_eq, reduceIte, byteD, dstr, un1_str]
          simp
        · by_cases hj2 : j = i - 1
          · subst hj2; rw [hy']; exact hy34
          · exact ha j (by omega)
    · have h' := of_decide_eq_false h
      have : i = s.length := by omega
      subst this
      rw [idx_not (fun j hj => ha j (by simp at hj; omega))]
      simp only [↓ru, rv, rl, ry, tyf, iM, bM, bsM, cond_true, cond_false, Nat.reduceLT, Nat.reduceBEq, Nat.reduceAdd, Nat.reduceEqDiff, Nat.reduceMul, Nat.reduceLeDiff, Nat.reduceSub, Nat.reduceDiv, Int.reduceLE, Int.reduceLT, Int.reduceNeg, Int.reduceAdd, Int.reduceSub, Int.reduceMul, Int.reduceToNat, Int.reducePow, Int.reduceEq, ne_eq, reduceIte, byteD, dstr, un1_str, pureEnd_of (fn := Tryd.f111) (rs := [.tmp 2]) (ts := [3]) rfl rfl]
end Go.TW

import Derived.Test.YtmgfnlnomecbiaaDoorT5
set_option linter.all false
open Go.Proofs Go.Abs Go.Fa Go.BU Go.TX
namespace Go.TW
set_option maxHeartbeats 4000000
set_option maxRecDepth 10000
-- rules: byteD, dstr, un1_str

theorem dstr {w : List UInt8} : M.d (strD w) = strM w := rfl
theorem un1_str {w : List UInt8} {c : List M} : unpure1 (strM w :: c) = (unpure1 c).map (strD w :: ·) := rfl
abbrev strsM (l : List (List UInt8)) : M := .d (.sl 1 (l.map fun w => [strD w]))
theorem str_row (l : List (List UInt8)) (w : List UInt8) : pure2 (l.map fun w => [strD w]) ++ [[strM w]] = pure2 ((l ++ [w]).map fun w => [strD w]) := by simp [pure2, strD, strM]
theorem last_getD {b : List UInt8} (h : b ≠ []) : b.getLast? = some (b.getD (b.length - 1) 0) := by
  rw [List.getLast?_eq_getElem?]
  have := List.length_pos_iff.2 h
  simp [List.getD, show b.length - 1 < b.length by omega]
theorem get_getD {b : List UInt8} {i : Nat} (h : i < b.length) : b[i]? = some (b.getD i 0) := by simp [List.getD, h]

theorem Lines (b : List UInt8) (hb : b.length ≤ 300000) : PFn Tryd.prog 48 [bsM b] (.tup [strsM ((linesF b).getD []), bM (linesF b).isSome]) := by
  (refine PFn.of (prs := []) Tryd.func48 rfl rfl mix (by kernel_rfl) rfl rfl ?_; simp only [Tryd.ntmps48, argUpd])
  by_cases h0 : b = []
  · subst h0
    (try (simp only [↓ru, rv, rl, ry, tyf, iM, bM, bsM, cond_true, cond_false, Nat.reduceLT, Nat.reduceBEq, Nat.reduceAdd, Nat.reduceEqDiff, Nat.reduceMul, Nat.reduceLeDiff, Nat.reduceSub, Nat.reduceDiv, Int.reduceLE, Int.reduceLT, Int.reduceNeg, Int.reduceAdd, Int.reduceSub, Int.reduceMul, Int.reduceToNat, Int.reducePow, Int.reduceEq, ne_eq, reduceIte, byteD, dstr, un1_str, pureEnd_of (fn := Tryd.f48) (rs := [.tmp 2, .tmp 3]) (ts := [62, 4]) rfl rfl, *])); repeat' ((first | (refine fork_split (fun _h => ?_) (fun _h => ?_)) | (refine gfork_split (fun _h => ?_) (fun _h => ?_)) | (refine dfork_split (fun _h => ?_) (fun _h => ?_))) <;> (try (simp only [↓ru, rv, rl, ry, tyf, iM, bM, bsM, cond_true, cond_false, Nat.reduceLT, Nat.reduceBEq, Nat.reduceAdd, Nat.reduceEqDiff, Nat.reduceMul, Nat.reduceLeDiff, Nat.reduceSub, Nat.reduceDiv, Int.reduceLE, Int.reduceLT, Int.reduceNeg, Int.reduceAdd, Int.reduceSub, Int.reduceMul, Int.reduceToNat, Int.reducePow, Int.reduceEq, ne_eq, reduceIte, byteD, dstr, un1_str, pureEnd_of (fn := Tryd.f48) (rs := [.tmp 2, .tmp 3]) (ts := [62, 4]) rfl rfl, *])))
    refine aloop_unroll 0 ?_
    simp only [↓ru, rv, rl, ry, tyf, iM, bM, bsM, cond_true, cond_false, Nat.reduceLT, Nat.reduceBEq, Nat.reduceAdd, Nat.reduceEqDiff, Nat.reduceMul, Nat.reduceLeDiff, Nat.reduceSub, Nat.reduceDiv, Int.reduceLE, Int.reduceLT, Int.reduceNeg, Int.reduceAdd, Int.reduceSub, Int.reduceMul, Int.reduceToNat, Int.reducePow, Int.reduceEq, ne_eq, reduceIte, byteD, dstr, un1_str, unR_ret, unR_exit, pureEnd_of (fn := Tryd.f48) (rs := [.tmp 2, .tmp 3]) (ts := [62, 4]) rfl rfl]
    rfl
  have hl : 0 < b.length := List.length_pos_iff.2 h0
  have hz := get_getD (b := b) (i := b.length - 1) (by omega)
  have hlast := last_getD h0
  generalize b.getD (b.length - 1) 0 = z at hz hlast
  have g1 : decide ((0 : Int) < (b.length : Int)) = true := by simp; omega
  have g2 : (IntKind.i64.wrap ((b.length : Int) - 1)).toNat = b.length - 1 := by rw [wrap_i64 (by omega) (by omega)]; omega
  have g3 : 0 ≤ IntKind.i64.wrap ((b.length : Int) - 1) := by rw [wrap_i64 (by omega) (by omega)]; omega
  (try (simp only [↓ru, rv, rl, ry, tyf, iM, bM, bsM, cond_true, cond_false, Nat.reduceLT, Nat.reduceBEq, Nat.reduceAdd, Nat.reduceEqDiff, Nat.reduceMul, Nat.reduceLeDiff, Nat.reduceSub, Nat.reduceDiv, Int.reduceLE, Int.reduceLT, Int.reduceNeg, Int.reduceAdd, Int.reduceSub, Int.reduceMul, Int.reduceToNat, Int.reducePow, Int.reduceEq, ne_eq, reduceIte, byteD, dstr, un1_str, g1, g2, g3, hz, pureEnd_of (fn := Tryd.f48) (rs := [.tmp 2, .tmp 3]) (ts := [62, 4]) rfl rfl, *])); repeat' ((first | (refine fork_split (fun _h => ?_) (fun _h => ?_)) | (refine gfork_split (fun _h => ?_) (fun _h => ?_)) | (refine dfork_split (fun _h => ?_) (fun _h => ?_))) <;> (try (simp only [↓ru, rv, rl, ry, tyf, iM, bM, bsM, cond_true, cond_false, Nat.reduceLT, Nat.reduceBEq, Nat.reduceAdd, Nat.reduceEqDiff, Nat.reduceMul, Nat.reduceLeDiff, Nat.reduceSub, Nat.reduceDiv, Int.reduceLE, Int.reduceLT, Int.reduceNeg, Int.reduceAdd, Int.reduceSub, Int.reduceMul, Int.reduceToNat, Int.reducePow, Int.reduceEq, ne_eq, reduceIte, byteD, dstr, un1_str, g1, g2, g3, hz, pureEnd_of (fn := Tryd.f48) (rs := [.tmp 2, .tmp 3]) (ts := [62, 4]) rfl rfl, *])))
  · (try simp only [Bool.not_eq_true', Bool.not_eq_false', decide_eq_true_eq, decide_eq_false_iff_not] at *)
    rw [linesF_no hlast (by intro e; subst e; simp_all)]; rfl
  (try simp only [Bool.not_eq_true', Bool.not_eq_false', decide_eq_true_eq, decide_eq_false_iff_not] at *)
  rw [linesF_lpp (.inr (by rw [hlast]; congr 1; apply byte_inj.1; simp_all))]
  refine aloop_thaw (t := 4) 1 (h := by simp only [↓ru, rv, rl, ry, tyf, iM, bM, bsM, cond_true, cond_false, Nat.reduceLT, Nat.reduceBEq, Nat.reduceAdd, Nat.reduceEqDiff, Nat.reduceMul, Nat.reduceLeDiff, Nat.reduceSub, Nat.reduceDiv, Int.reduceLE, Int.reduceLT, Int.reduceNeg, Int.reduceAdd, Int.reduceSub, Int.reduceMul, Int.reduceToNat, Int.reducePow, Int.reduceEq, ne_eq, reduceIte, byteD, dstr, un1_str]) ?_
  refine aloop_lv (fun p : Nat × Nat × List (List UInt8) => [(0, bsM b), (4, .hsl 19 p.2.2.length), (5, iM p.2.1), (20, bsM b), (21, iM b.length), (22, iM p.1)]) (fun p => [(19, .ar false 1 (pure2 (p.2.2.map fun w => [strD w])))])
    (fun p => p.1 ≤ b.length ∧ p.2.1 ≤ p.1 ∧ p.2.2.length ≤ p.1 ∧ (lpp (b.drop p.1) ((b.drop p.2.1).take (p.1 - p.2.1))).map (p.2.2 ++ ·) = lpp b []) (fun p => b.length - p.1) 20 (0, 0, []) ?_ rfl ⟨by simp, by simp, by simp, by simp⟩ (by omega) ?_
  · simp only [↓ru, rv, rl, ry, tyf, iM, bM, bsM, cond_true, cond_false, Nat.reduceLT, Nat.reduceBEq, Nat.reduceAdd, Nat.reduceEqDiff, Nat.reduceMul, Nat.reduceLeDiff, Nat.reduceSub, Nat.reduceDiv, Int.reduceLE, Int.reduceLT, Int.reduceNeg, Int.reduceAdd, Int.reduceSub, Int.reduceMul, Int.reduceToNat, Int.reducePow, Int.reduceEq, ne_eq, reduceIte, byteD, dstr, un1_str]
  rintro ⟨i, g, o⟩ e0 n ⟨hi, hg, ho, hv⟩
  simp only at hi hg ho hv
  simp only [↓ru, rv, rl, ry, tyf, iM, bM, bsM, cond_true, cond_false, Nat.reduceLT, Nat.reduceBEq, Nat.reduceAdd, Nat.reduceEqDiff, Nat.reduceMul, Nat.reduceLeDiff, Nat.reduceSub, Nat.reduceDiv, Int.reduceLE, Int.reduceLT, Int.reduceNeg, Int.reduceAdd, Int.reduceSub, Int.reduceMul, Int.reduceToNat, Int.reducePow, Int.reduceEq, ne_eq, reduceIte, byteD, dstr, un1_str]
  refine fork_split (fun h => ?_) (fun h => ?_)
  · have h' := of_decide_eq_true h
    have hx := get_getD (b := b) (i := i) (by omega)
    rw [drop_getD (by omega)] at hv
    generalize b.getD i 0 = x at hx hv
    have hcur : (b.drop g).take (i + 1 - g) = (b.drop g).take (i - g) ++ [x] := by
      rw [show i + 1 - g = (i - g) + 1 by omega, List.take_add_one, List.getElem?_drop, show g + (i - g) = i by omega, hx]; rfl
    simp only [↓ru, rv, rl, ry, tyf, iM, bM, bsM, cond_true, cond_false, Nat.reduceLT, Nat.reduceBEq, Nat.reduceAdd, Nat.reduceEqDiff, Nat.reduceMul, Nat.reduceLeDiff, Nat.reduceSub, Nat.reduceDiv, Int.reduceLE, Int.reduceLT, Int.reduceNeg, Int.reduceAdd, Int.reduceSub, Int.reduceMul, Int.reduceToNat, Int.reducePow, Int.reduceEq, ne_eq, reduceIte, byteD, dstr, un1_str, hx]
    refine fork_split (fun h2 => ?_) (fun h2 => ?_)
    · have hx10 : x = 10 := byte_inj.1 (by simpa using h2)
      subst hx10
      rw [lpp_ten] at hv
      simp only [↓ru, rv, rl, ry, tyf, iM, bM, bsM, cond_true, cond_false, Nat.reduceLT, Nat.reduceBEq, Nat.reduceAdd, Nat.reduceEqDiff, Nat.reduceMul, Nat.reduceLeDiff, Nat.reduceSub, Nat.reduceDiv, Int.reduceLE, Int.reduceLT, Int.reduceNeg, Int.reduceAdd, Int.reduceSub, Int.reduceMul, Int.reduceToNat, Int.reducePow, Int.reduceEq, ne_eq, reduceIte, byteD, dstr, un1_str, hx]
      refine grd_intro (by omega) ?_
      refine grd_intro (by simp [pure2]; omega) ?_
      rw [show ((i : Int) - (g : Int)).toNat = i - g by omega]
      simp (disch := omega) only [wrap_i64, wrap_u8, wrap_u16, wrap_u64]
      refine loopL_drop (i + 1, i + 1, o ++ [(b.drop g).take (i - g)]) ?_ ?_ ⟨by simp only; omega, by simp only; omega, by simp; omega, ?_⟩ (by omega) (by simp only; omega)
      · simp only [↓ru, rv, rl, ry, tyf, iM, bM, bsM, cond_true, cond_false, Nat.reduceLT, Nat.reduceBEq, Nat.reduceAdd, Nat.reduceEqDiff, Nat.reduceMul, Nat.reduceLeDiff, Nat.reduceSub, Nat.reduceDiv, Int.reduceLE, Int.reduceLT, Int.reduceNeg, Int.reduceAdd, Int.reduceSub, Int.reduceMul, Int.reduceToNat, Int.reducePow, Int.reduceEq, ne_eq, reduceIte, byteD, dstr, un1_str]
        simp [pure2]
      · simp only [↓ru, rv, rl, ry, tyf, iM, bM, bsM, cond_true, cond_false, Nat.reduceLT, Nat.reduceBEq, Nat.reduceAdd, Nat.reduceEqDiff, Nat.reduceMul, Nat.reduceLeDiff, Nat.reduceSub, Nat.reduceDiv, Int.reduceLE, Int.reduceLT, Int.reduceNeg, Int.reduceAdd, Int.reduceSub, Int.reduceMul, Int.reduceToNat, Int.reducePow, Int.reduceEq, ne_eq, reduceIte, byteD, dstr, un1_str]
        simp [pure2, strD, strM]
      · simp only
        rw [← hv]
        simp [Option.map_map, Function.comp_def]
    · have hx10 : x ≠ 10 := fun e => by subst e; simp at h2
      (try (simp only [↓ru, rv, rl, ry, tyf, iM, bM, bsM, cond_true, cond_false, Nat.reduceLT, Nat.reduceBEq, Nat.reduceAdd, Nat.reduceEqDiff, Nat.reduceMul, Nat.reduceLeDiff, Nat.reduceSub, Nat.reduceDiv, Int.reduceLE, Int.reduceLT, Int.reduceNeg, Int.reduceAdd, Int.reduceSub, Int.reduceMul, Int.reduceToNat, Int.reducePow, Int.reduceEq, ne_eq, reduceIte, byteD, dstr, un1_str, hx, pureEnd_of (fn := Tryd.f48) (rs := [.tmp 2, .tmp 3]) (ts := [62, 4]) rfl rfl, *])); repeat' ((first | (refine fork_split (fun _h => ?_) (fun _h => ?_)) | (refine gfork_split (fun _h => ?_) (fun _h => ?_)) | (refine dfork_split (fun _h => ?_) (fun _h => ?_))) <;> (try (simp only [↓ru, rv, rl, ry, tyf, iM, bM, bsM, cond_true, cond_false, Nat.reduceLT, Nat.reduceBEq, Nat.reduceAdd, Nat.reduceEqDiff, Nat.reduceMul, Nat.reduceLeDiff, Nat.reduceSub, Nat.reduceDiv, Int.reduceLE, Int.reduceLT, Int.reduceNeg, Int.reduceAdd, Int.reduceSub, Int.reduceMul, Int.reduceToNat, Int.reducePow, Int.reduceEq, ne_eq, reduceIte, byteD, dstr, un1_str, hx, pureEnd_of (fn := Tryd.f48) (rs := [.tmp 2, .tmp 3]) (ts := [62, 4]) rfl rfl, *])))
      all_goals (try simp only [Bool.not_eq_true', Bool.not_eq_false', decide_eq_true_eq, decide_eq_false_iff_not] at *)
      · rw [lpp_bad hx10 (by simp [prB]; omega)] at hv
        rw [← hv]; rfl
      · rw [lpp_bad hx10 (by simp [prB]; omega)] at hv
        rw [← hv]; rfl
      · rw [lpp_pr hx10 (by simp [prB]; omega), ← hcur] at hv
        simp (disch := omega) only [wrap_i64, wrap_u8, wrap_u16, wrap_u64]
        refine loopL_drop (i + 1, g, o) ?_ ?_ ⟨by simp only; omega, by simp only; omega, by simp only; omega, hv⟩ (by omega) (by simp only; omega)
        · simp only [↓ru, rv, rl, ry, tyf, iM, bM, bsM, cond_true, cond_false, Nat.reduceLT, Nat.reduceBEq, Nat.reduceAdd, Nat.reduceEqDiff, Nat.reduceMul, Nat.reduceLeDiff, Nat.reduceSub, Nat.reduceDiv, Int.reduceLE, Int.reduceLT, Int.reduceNeg, Int.reduceAdd, Int.reduceSub, Int.reduceMul, Int.reduceToNat, Int.reducePow, Int.reduceEq, ne_eq, reduceIte, byteD, dstr, un1_str]
          simp
        · simp only [↓ru, rv, rl, ry, tyf, iM, bM, bsM, cond_true, cond_false, Nat.reduceLT, Nat.reduceBEq, Nat.reduceAdd, Nat.reduceEqDiff, Nat.reduceMul, Nat.reduceLeDiff, Nat.reduceSub, Nat.reduceDiv, Int.reduceLE, Int.reduceLT, Int.reduceNeg, Int.reduceAdd, Int.reduceSub, Int.reduceMul, Int.reduceToNat, Int.reducePow, Int.reduceEq, ne_eq, reduceIte, byteD, dstr, un1_str]
  · have h' := of_decide_eq_false h
    have : i = b.length := by omega
    subst this
    rw [List.drop_length, lpp] at hv
    simp only [↓ru, rv, rl, ry, tyf, iM, bM, bsM, cond_true, cond_false, Nat.reduceLT, Nat.reduceBEq, Nat.reduceAdd, Nat.reduceEqDiff, Nat.reduceMul, Nat.reduceLeDiff, Nat.reduceSub, Nat.reduceDiv, Int.reduceLE, Int.reduceLT, Int.reduceNeg, Int.reduceAdd, Int.reduceSub, Int.reduceMul, Int.reduceToNat, Int.reducePow, Int.reduceEq, ne_eq, reduceIte, byteD, dstr, un1_str, pureEnd_of (fn := Tryd.f48) (rs := [.tmp 2, .tmp 3]) (ts := [62, 4]) rfl rfl]
    rw [← hv]; simp

/-- What the document has joined so far. -/
def jpre : List (List UInt8) → List UInt8
  | [] => []
  | w :: r => r.foldl (fun s x => s ++ 32 :: x) w
theorem jpre_app (l : List (List UInt8)) (x : List UInt8) : jpre (l ++ [x]) = (if l = [] then [] else jpre l ++ [32]) ++ x := by
  cases l with
  | nil => rfl
  | cons w r => simp [jpre, List.foldl_append]
theorem foldl_join : ∀ (r : List (List UInt8)) (w : List UInt8), r.foldl (fun s x => s ++ 32 :: x) w = joinSp (w :: r)
  | [], w => rfl
  | x :: r, w => by
    rw [List.foldl_cons, foldl_join r]
    cases r with
    | nil => rfl
    | cons y r => simp [joinSp]
theorem jpre_join (l : List (List UInt8)) : jpre l = joinSp l := by
  cases l with
  | nil => rfl
  | cons w r => exact foldl_join r w
theorem joinSp_len : ∀ (l : List (List UInt8)), (joinSp l).length ≤ (l.map fun w => w.length + 1).sum
  | [] => by simp [joinSp]
  | [w] => by simp [joinSp]
  | w :: x :: r => by
    have := joinSp_len (x :: r)
    simp [joinSp] at this ⊢; omega
theorem jpre_le (l : List (List UInt8)) (i : Nat) : (jpre (l.take i)).length ≤ (l.map fun w => w.length + 1).sum := by
  rw [jpre_join]
  refine Nat.le_trans (joinSp_len _) ?_
  have e : (l.map fun w => w.length + 1) = ((l.take i).map fun w => w.length + 1) ++ ((l.drop i).map fun w => w.length + 1) := by rw [← List.map_append, List.take_append_drop]
  rw [e, List.sum_append]; omega
theorem Line (l : List (List UInt8)) (hl : (l.map fun w => w.length + 1).sum ≤ 1000000000) : PFn Tryd.prog 47 [strsM l] (strM (joinSp l ++ [10])) := by
  (refine PFn.of (prs := []) Tryd.func47 rfl rfl mix (by kernel_rfl) rfl rfl ?_; simp only [Tryd.ntmps47, argUpd])
  simp only [↓ru, rv, rl, ry, tyf, iM, bM, bsM, cond_true, cond_false, Nat.reduceLT, Nat.reduceBEq, Nat.reduceAdd, Nat.reduceEqDiff, Nat.reduceMul, Nat.reduceLeDiff, Nat.reduceSub, Nat.reduceDiv, Int.reduceLE, Int.reduceLT, Int.reduceNeg, Int.reduceAdd, Int.reduceSub, Int.reduceMul, Int.reduceToNat, Int.reducePow, Int.reduceEq, ne_eq, reduceIte, byteD, dstr, un1_str]
  have hlen : l.length ≤ 1000000000 := by
    have : l.length ≤ (l.map fun w => w.length + 1).sum := by
      clear hl
      induction l with
      | nil => simp
      | cons w l ih => simp; omega
    omega
  refine aloop_lv (fun i : Nat => [(0, strsM l), (3, strM (jpre (l.take i))), (4, iM i)]) (fun _ => []) (fun i => i ≤ l.length) (fun i => l.length - i) 0 0 ?_ rfl (by omega) (by omega) ?_
  · simp only [↓ru, rv, rl, ry, tyf, iM, bM, bsM, cond_true, cond_false, Nat.reduceLT, Nat.reduceBEq, Nat.reduceAdd, Nat.reduceEqDiff, Nat.reduceMul, Nat.reduceLeDiff, Nat.reduceSub, Nat.reduceDiv, Int.reduceLE, Int.reduceLT, Int.reduceNeg, Int.reduceAdd, Int.reduceSub, Int.reduceMul, Int.reduceToNat, Int.reducePow, Int.reduceEq, ne_eq, reduceIte, byteD, dstr, un1_str]
    rfl
  intro i e0 n hi
  have hj := jpre_le l i
  simp only [↓ru, rv, rl, ry, tyf, iM, bM, bsM, cond_true, cond_false, Nat.reduceLT, Nat.reduceBEq, Nat.reduceAdd, Nat.reduceEqDiff, Nat.reduceMul, Nat.reduceLeDiff, Nat.reduceSub, Nat.reduceDiv, Int.reduceLE, Int.reduceLT, Int.reduceNeg, Int.reduceAdd, Int.reduceSub, Int.reduceMul, Int.reduceToNat, Int.reducePow, Int.reduceEq, ne_eq, reduceIte, byteD, dstr, un1_str]
  refine fork_split (fun h => ?_) (fun h => ?_)
  · have h' := of_decide_eq_true h
    obtain ⟨x, hx⟩ := get_of_lt (l := l) (i := i) (by omega)
    have ht : l.take (i + 1) = l.take i ++ [x] := by rw [List.take_add_one, hx]; rfl
    have hj2 := jpre_le l (i + 1)
    rw [ht, jpre_app] at hj2
    simp only [↓ru, rv, rl, ry, tyf, iM, bM, bsM, cond_true, cond_false, Nat.reduceLT, Nat.reduceBEq, Nat.reduceAdd, Nat.reduceEqDiff, Nat.reduceMul, Nat.reduceLeDiff, Nat.reduceSub, Nat.reduceDiv, Int.reduceLE, Int.reduceLT, Int.reduceNeg, Int.reduceAdd, Int.reduceSub, Int.reduceMul, Int.reduceToNat, Int.reducePow, Int.reduceEq, ne_eq, reduceIte, byteD, dstr, un1_str]
    refine fork_split (fun h2 => ?_) (fun h2 => ?_)
    · have h2' := of_decide_eq_true h2
      have hne : l.take i ≠ [] := by
        intro e
        have := congrArg List.length e
        rw [List.length_take, List.length_nil] at this; omega
      rw [if_neg hne] at hj2
      simp at hj2
      simp only [↓ru, rv, rl, ry, tyf, iM, bM, bsM, cond_true, cond_false, Nat.reduceLT, Nat.reduceBEq, Nat.reduceAdd, Nat.reduceEqDiff, Nat.reduceMul, Nat.reduceLeDiff, Nat.reduceSub, Nat.reduceDiv, Int.reduceLE, Int.reduceLT, Int.reduceNeg, Int.reduceAdd, Int.reduceSub, Int.reduceMul, Int.reduceToNat, Int.reducePow, Int.reduceEq, ne_eq, reduceIte, byteD, dstr, un1_str, hx]
      simp (disch := (simp only [List.length_append, List.length_cons, List.length_nil, List.length_map, List.length_take, List.length_replicate, List.length_drop] <;> omega)) only [bin_str_add, kk_eq, wrap_i64, wrap_u8, wrap_u16, wrap_u64]
      simp only [↓ru, rv, rl, ry, tyf, iM, bM, bsM, cond_true, cond_false, Nat.reduceLT, Nat.reduceBEq, Nat.reduceAdd, Nat.reduceEqDiff, Nat.reduceMul, Nat.reduceLeDiff, Nat.reduceSub, Nat.reduceDiv, Int.reduceLE, Int.reduceLT, Int.reduceNeg, Int.reduceAdd, Int.reduceSub, Int.reduceMul, Int.reduceToNat, Int.reducePow, Int.reduceEq, ne_eq, reduceIte, byteD, dstr, un1_str, hx]
      simp (disch := (simp only [List.length_append, List.length_cons, List.length_nil, List.length_map, List.length_take, List.length_replicate, List.length_drop] <;> omega)) only [bin_str_add, kk_eq, wrap_i64, wrap_u8, wrap_u16, wrap_u64]
      simp only [↓ru, rv, rl, ry, tyf, iM, bM, bsM, cond_true, cond_false, Nat.reduceLT, Nat.reduceBEq, Nat.reduceAdd, Nat.reduceEqDiff, Nat.reduceMul, Nat.reduceLeDiff, Nat.reduceSub, Nat.reduceDiv, Int.reduceLE, Int.reduceLT, Int.reduceNeg, Int.reduceAdd, Int.reduceSub, Int.reduceMul, Int.reduceToNat, Int.reducePow, Int.reduceEq, ne_eq, reduceIte, byteD, dstr, un1_str]
      simp (disch := omega) only [wrap_i64, wrap_u8, wrap_u16, wrap_u64]
      refine loopL_next (i + 1) ?_ rfl (by omega) (by omega) (by omega)
      simp only [↓ru, rv, rl, ry, tyf, iM, bM, bsM, cond_true, cond_false, Nat.reduceLT, Nat.reduceBEq, Nat.reduceAdd, Nat.reduceEqDiff, Nat.reduceMul, Nat.reduceLeDiff, Nat.reduceSub, Nat.reduceDiv, Int.reduceLE, Int.reduceLT, Int.reduceNeg, Int.reduceAdd, Int.reduceSub, Int.reduceMul, Int.reduceToNat, Int.reducePow, Int.reduceEq, ne_eq, reduceIte, byteD, dstr, un1_str, ht, jpre_app, if_neg hne]
      simp
    · have h2' := of_decide_eq_false h2
      have hi0 : i = 0 := by omega
      subst hi0
      simp at hj2
      simp only [↓ru, rv, rl, ry, tyf, iM, bM, bsM, cond_true, cond_false, Nat.reduceLT, Nat.reduceBEq, Nat.reduceAdd, Nat.reduceEqDiff, Nat.reduceMul, Nat.reduceLeDiff, Nat.reduceSub, Nat.reduceDiv, Int.reduceLE, Int.reduceLT, Int.reduceNeg, Int.reduceAdd, Int.reduceSub, Int.reduceMul, Int.reduceToNat, Int.reducePow, Int.reduceEq, ne_eq, reduceIte, byteD, dstr, un1_str, hx]
      rw [show jpre [] = [] from rfl]
      simp (disch := (simp only [List.length_append, List.length_cons, List.length_nil, List.length_map, List.length_take, List.length_replicate, List.length_drop] <;> omega)) only [bin_str_add, kk_eq, wrap_i64, wrap_u8, wrap_u16, wrap_u64]
      (try simp only [↓ru, rv, rl, ry, tyf, iM, bM, bsM, cond_true, cond_false, Nat.reduceLT, Nat.reduceBEq, Nat.reduceAdd, Nat.reduceEqDiff, Nat.reduceMul, Nat.reduceLeDiff, Nat.reduceSub, Nat.reduceDiv, Int.reduceLE, Int.reduceLT, Int.reduceNeg, Int.reduceAdd, Int.reduceSub, Int.reduceMul, Int.reduceToNat, Int.reducePow, Int.reduceEq, ne_eq, reduceIte, byteD, dstr, un1_str])
      (try simp (disch := omega) only [wrap_i64, wrap_u8, wrap_u16, wrap_u64])
      refine loopL_next (0 + 1) ?_ rfl (by omega) (by omega) (by omega)
      rw [ht]
      simp only [↓ru, rv, rl, ry, tyf, iM, bM, bsM, cond_true, cond_false, Nat.reduceLT, Nat.reduceBEq, Nat.reduceAdd, Nat.reduceEqDiff, Nat.reduceMul, Nat.reduceLeDiff, Nat.reduceSub, Nat.reduceDiv, Int.reduceLE, Int.reduceLT, Int.reduceNeg, Int.reduceAdd, Int.reduceSub, Int.reduceMul, Int.reduceToNat, Int.reducePow, Int.reduceEq, ne_eq, reduceIte, byteD, dstr, un1_str]
      simp [jpre]
  · have h' := of_decide_eq_false h
    have : i = l.length := by omega
    subst this
    rw [List.take_length] at *
    simp only [↓ru, rv, rl, ry, tyf, iM, bM, bsM, cond_true, cond_false, Nat.reduceLT, Nat.reduceBEq, Nat.reduceAdd, Nat.reduceEqDiff, Nat.reduceMul, Nat.reduceLeDiff, Nat.reduceSub, Nat.reduceDiv, Int.reduceLE, Int.reduceLT, Int.reduceNeg, Int.reduceAdd, Int.reduceSub, Int.reduceMul, Int.reduceToNat, Int.reducePow, Int.reduceEq, ne_eq, reduceIte, byteD, dstr, un1_str]
    simp (disch := (simp only [List.length_append, List.length_cons, List.length_nil, List.length_map, List.length_take, List.length_replicate, List.length_drop] <;> omega)) only [bin_str_add, kk_eq, wrap_i64, wrap_u8, wrap_u16, wrap_u64]
    simp only [↓ru, rv, rl, ry, tyf, iM, bM, bsM, cond_true, cond_false, Nat.reduceLT, Nat.reduceBEq, Nat.reduceAdd, Nat.reduceEqDiff, Nat.reduceMul, Nat.reduceLeDiff, Nat.reduceSub, Nat.reduceDiv, Int.reduceLE, Int.reduceLT, Int.reduceNeg, Int.reduceAdd, Int.reduceSub, Int.reduceMul, Int.reduceToNat, Int.reducePow, Int.reduceEq, ne_eq, reduceIte, byteD, dstr, un1_str, pureEnd_of (fn := Tryd.f47) (rs := [.tmp 2]) (ts := [9]) rfl rfl, jpre_join]
end Go.TW

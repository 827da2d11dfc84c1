import Derived.Test.YtmgfnlnomecbiaaDoorKH
import Derived.Test.YtmgfnlnomecbiaaDoorT7
import Derived.Test.YtmgfnlnomecbiaaDoorT9
set_option linter.all false
open Go.Proofs Go.Abs Go.Fa Go.BU Go.TX Go.TW
namespace Go.CF
set_option maxHeartbeats 4000000
set_option maxRecDepth 10000
-- rules: byteD, dstr, un1_str, iD, bD

theorem lines_le {b : List UInt8} {l : List (List UInt8)} (h : linesF b = some l) : l.length ≤ b.length ∧ ∀ w ∈ l, w.length ≤ b.length := by
  have h1 := lines_join h
  have h2 := unlines_len l
  have h3 := sum_len l
  rw [← h1] at h2
  refine ⟨by omega, fun w hw => ?_⟩
  have h4 : w.length + 1 ≤ (l.map fun w => w.length + 1).sum := by
    clear h1 h2 h3 h
    induction l with
    | nil => cases hw
    | cons x l ih =>
      simp only [List.map_cons, List.sum_cons]
      rcases List.mem_cons.1 hw with rfl | h
      · omega
      · have := ih h; omega
  omega
theorem RowsR (b : List UInt8) (hb : b.length ≤ 300000) : PFn Tryd.prog 74 [bsM b] (.tup [rowsM (if ((linesF b).isSome && wordsK ((linesF b).getD [])) = true then wordsL ((linesF b).getD []) else []), bM ((linesF b).isSome && wordsK ((linesF b).getD []))]) := by
  have hL := LinesR b hb
  cases hl : linesF b with
  | none =>
    rw [hl] at hL
    (refine PFn.of (prs := []) Tryd.func74 rfl rfl mix (by kernel_rfl) rfl rfl ?_; simp only [Tryd.ntmps74, argUpd])
    (try (simp only [↓ru, rv, rl, ry, tyf, iM, bM, bsM, cond_true, cond_false, Nat.reduceLT, Nat.reduceBEq, Nat.reduceAdd, Nat.reduceEqDiff, Nat.reduceMul, Nat.reduceLeDiff, Nat.reduceSub, Nat.reduceDiv, Int.reduceLE, Int.reduceLT, Int.reduceNeg, Int.reduceAdd, Int.reduceSub, Int.reduceMul, Int.reduceToNat, Int.reducePow, Int.reduceEq, ne_eq, reduceIte, byteD, dstr, un1_str, iD, bD, Option.isSome_none, Option.getD_none, pureEnd_of (fn := Tryd.f74) (rs := [.tmp 2, .tmp 3]) (ts := [102, 4]) rfl rfl, *])); repeat' ((first | (refine fork_split (fun _h => ?_) (fun _h => ?_)) | (refine gfork_split (fun _h => ?_) (fun _h => ?_)) | (refine dfork_split (fun _h => ?_) (fun _h => ?_)) | (refine acall1_pure hL rfl rfl ?_) | (refine dcall1_pure hL rfl rfl ?_)) <;> (try (simp only [↓ru, rv, rl, ry, tyf, iM, bM, bsM, cond_true, cond_false, Nat.reduceLT, Nat.reduceBEq, Nat.reduceAdd, Nat.reduceEqDiff, Nat.reduceMul, Nat.reduceLeDiff, Nat.reduceSub, Nat.reduceDiv, Int.reduceLE, Int.reduceLT, Int.reduceNeg, Int.reduceAdd, Int.reduceSub, Int.reduceMul, Int.reduceToNat, Int.reducePow, Int.reduceEq, ne_eq, reduceIte, byteD, dstr, un1_str, iD, bD, Option.isSome_none, Option.getD_none, pureEnd_of (fn := Tryd.f74) (rs := [.tmp 2, .tmp 3]) (ts := [102, 4]) rfl rfl, *])))
    rfl
  | some ls =>
    rw [hl] at hL
    have hll := lines_le hl
    clear hl
    simp only [Option.isSome_some, Option.getD_some, Bool.true_and] at hL ⊢
    (refine PFn.of (prs := []) Tryd.func74 rfl rfl mix (by kernel_rfl) rfl rfl ?_; simp only [Tryd.ntmps74, argUpd])
    (try (simp only [↓ru, rv, rl, ry, tyf, iM, bM, bsM, cond_true, cond_false, Nat.reduceLT, Nat.reduceBEq, Nat.reduceAdd, Nat.reduceEqDiff, Nat.reduceMul, Nat.reduceLeDiff, Nat.reduceSub, Nat.reduceDiv, Int.reduceLE, Int.reduceLT, Int.reduceNeg, Int.reduceAdd, Int.reduceSub, Int.reduceMul, Int.reduceToNat, Int.reducePow, Int.reduceEq, ne_eq, reduceIte, byteD, dstr, un1_str, iD, bD, *])); repeat' ((first | (refine fork_split (fun _h => ?_) (fun _h => ?_)) | (refine gfork_split (fun _h => ?_) (fun _h => ?_)) | (refine dfork_split (fun _h => ?_) (fun _h => ?_)) | (refine acall1_pure hL rfl rfl ?_) | (refine dcall1_pure hL rfl rfl ?_)) <;> (try (simp only [↓ru, rv, rl, ry, tyf, iM, bM, bsM, cond_true, cond_false, Nat.reduceLT, Nat.reduceBEq, Nat.reduceAdd, Nat.reduceEqDiff, Nat.reduceMul, Nat.reduceLeDiff, Nat.reduceSub, Nat.reduceDiv, Int.reduceLE, Int.reduceLT, Int.reduceNeg, Int.reduceAdd, Int.reduceSub, Int.reduceMul, Int.reduceToNat, Int.reducePow, Int.reduceEq, ne_eq, reduceIte, byteD, dstr, un1_str, iD, bD, *])))
    refine aloop_thaw (t := 6) 1 (h := by simp only [↓ru, rv, rl, ry, tyf, iM, bM, bsM, cond_true, cond_false, Nat.reduceLT, Nat.reduceBEq, Nat.reduceAdd, Nat.reduceEqDiff, Nat.reduceMul, Nat.reduceLeDiff, Nat.reduceSub, Nat.reduceDiv, Int.reduceLE, Int.reduceLT, Int.reduceNeg, Int.reduceAdd, Int.reduceSub, Int.reduceMul, Int.reduceToNat, Int.reducePow, Int.reduceEq, ne_eq, reduceIte, byteD, dstr, un1_str, iD, bD]) ?_
    refine aloop_lv (fun i : Nat => [(4, strsM ls), (6, .hsl 13 (wordsL (ls.take i)).length), (7, iM i)]) (fun i => [(13, .ar false 1 (pure2 ((wordsL (ls.take i)).map rowD)))]) (fun i => i ≤ ls.length ∧ wordsK (ls.take i) = true) (fun i => ls.length - i) 14 0 ?_ ?_ ⟨by omega, rfl⟩ (by omega) ?_
    · simp only [↓ru, rv, rl, ry, tyf, iM, bM, bsM, cond_true, cond_false, Nat.reduceLT, Nat.reduceBEq, Nat.reduceAdd, Nat.reduceEqDiff, Nat.reduceMul, Nat.reduceLeDiff, Nat.reduceSub, Nat.reduceDiv, Int.reduceLE, Int.reduceLT, Int.reduceNeg, Int.reduceAdd, Int.reduceSub, Int.reduceMul, Int.reduceToNat, Int.reducePow, Int.reduceEq, ne_eq, reduceIte, byteD, dstr, un1_str, iD, bD]
      rfl
    · rfl
    intro i e0 n ⟨hi, hk⟩
    have hnx : Shut (∀ y, ls[i]? = some y → wordsL (ls.take (i + 1)) = wordsL (ls.take i) ++ [(wordsF y).getD []] ∧ wordsK (ls.take (i + 1)) = (wordsK (ls.take i) && (wordsF y).isSome)) := fun y hy => by
      unfold wordsL wordsK; rw [List.take_add_one, hy]; simp
    have hnd : Shut (¬ i < ls.length → wordsL (ls.take i) = wordsL ls ∧ wordsK (ls.take i) = wordsK ls) := fun h => by rw [List.take_of_length_le (by omega)]; exact ⟨rfl, rfl⟩
    have hln : (wordsL (ls.take i)).length ≤ 300000 := by simp [wordsL]; omega
    have hKno : Shut (∀ y, ls[i]? = some y → (wordsF y).isSome = false → wordsK ls = false) := fun y hy h => by
      rw [wordsK, List.all_eq_false]; exact ⟨y, List.mem_of_getElem? hy, by simp [h]⟩
    generalize wordsL (ls.take i) = T at hnx hnd hln ⊢
    generalize wordsK (ls.take i) = kk at hnx hnd hk ⊢
    subst hk
    simp only [↓ru, rv, rl, ry, tyf, iM, bM, bsM, cond_true, cond_false, Nat.reduceLT, Nat.reduceBEq, Nat.reduceAdd, Nat.reduceEqDiff, Nat.reduceMul, Nat.reduceLeDiff, Nat.reduceSub, Nat.reduceDiv, Int.reduceLE, Int.reduceLT, Int.reduceNeg, Int.reduceAdd, Int.reduceSub, Int.reduceMul, Int.reduceToNat, Int.reducePow, Int.reduceEq, ne_eq, reduceIte, byteD, dstr, un1_str, iD, bD]
    refine fork_split (fun h => ?_) (fun h => ?_)
    · have h' := of_decide_eq_true h
      obtain ⟨y, hy⟩ := get_of_lt (l := ls) (i := i) (by omega)
      obtain ⟨hny, hnk⟩ := hnx y hy
      have hno := hKno y hy
      have hW := WordsR y (by have := hll.2 y (List.mem_of_getElem? hy); omega)
      clear hnx hnd hKno
      generalize (wordsF y).getD [] = ws at *
      generalize (wordsF y).isSome = wk at *
      cases wk with
      | false =>
        have e := hno rfl
        rw [e]
        (try (simp only [↓ru, rv, rl, ry, tyf, iM, bM, bsM, cond_true, cond_false, Nat.reduceLT, Nat.reduceBEq, Nat.reduceAdd, Nat.reduceEqDiff, Nat.reduceMul, Nat.reduceLeDiff, Nat.reduceSub, Nat.reduceDiv, Int.reduceLE, Int.reduceLT, Int.reduceNeg, Int.reduceAdd, Int.reduceSub, Int.reduceMul, Int.reduceToNat, Int.reducePow, Int.reduceEq, ne_eq, reduceIte, byteD, dstr, un1_str, iD, bD, hy, pureEnd_of (fn := Tryd.f74) (rs := [.tmp 2, .tmp 3]) (ts := [102, 4]) rfl rfl, *])); repeat' ((first | (refine fork_split (fun _h => ?_) (fun _h => ?_)) | (refine gfork_split (fun _h => ?_) (fun _h => ?_)) | (refine dfork_split (fun _h => ?_) (fun _h => ?_)) | (refine acall1_pure hW rfl rfl ?_) | (refine dcall1_pure hW rfl rfl ?_)) <;> (try (simp only [↓ru, rv, rl, ry, tyf, iM, bM, bsM, cond_true, cond_false, Nat.reduceLT, Nat.reduceBEq, Nat.reduceAdd, Nat.reduceEqDiff, Nat.reduceMul, Nat.reduceLeDiff, Nat.reduceSub, Nat.reduceDiv, Int.reduceLE, Int.reduceLT, Int.reduceNeg, Int.reduceAdd, Int.reduceSub, Int.reduceMul, Int.reduceToNat, Int.reducePow, Int.reduceEq, ne_eq, reduceIte, byteD, dstr, un1_str, iD, bD, hy, pureEnd_of (fn := Tryd.f74) (rs := [.tmp 2, .tmp 3]) (ts := [102, 4]) rfl rfl, *])))
        rw [if_neg (by simp)]
        rfl
      | true =>
        have hny' : Shut (wordsL (ls.take (i + 1)) = T ++ [ws]) := hny
        have hnk' : wordsK (ls.take (i + 1)) = true := by rw [hnk]; rfl
        clear hny hnk hno
        (try (simp only [↓ru, rv, rl, ry, tyf, iM, bM, bsM, cond_true, cond_false, Nat.reduceLT, Nat.reduceBEq, Nat.reduceAdd, Nat.reduceEqDiff, Nat.reduceMul, Nat.reduceLeDiff, Nat.reduceSub, Nat.reduceDiv, Int.reduceLE, Int.reduceLT, Int.reduceNeg, Int.reduceAdd, Int.reduceSub, Int.reduceMul, Int.reduceToNat, Int.reducePow, Int.reduceEq, ne_eq, reduceIte, byteD, dstr, un1_str, iD, bD, hy, row_app, *])); repeat' ((first | (refine fork_split (fun _h => ?_) (fun _h => ?_)) | (refine gfork_split (fun _h => ?_) (fun _h => ?_)) | (refine dfork_split (fun _h => ?_) (fun _h => ?_)) | (refine acall1_pure hW rfl rfl ?_) | (refine dcall1_pure hW rfl rfl ?_)) <;> (try (simp only [↓ru, rv, rl, ry, tyf, iM, bM, bsM, cond_true, cond_false, Nat.reduceLT, Nat.reduceBEq, Nat.reduceAdd, Nat.reduceEqDiff, Nat.reduceMul, Nat.reduceLeDiff, Nat.reduceSub, Nat.reduceDiv, Int.reduceLE, Int.reduceLT, Int.reduceNeg, Int.reduceAdd, Int.reduceSub, Int.reduceMul, Int.reduceToNat, Int.reducePow, Int.reduceEq, ne_eq, reduceIte, byteD, dstr, un1_str, iD, bD, hy, row_app, *])))
        refine grd_intro (by simp [pure2]; omega) ?_
        (try simp only [↓ru, rv, rl, ry, tyf, iM, bM, bsM, cond_true, cond_false, Nat.reduceLT, Nat.reduceBEq, Nat.reduceAdd, Nat.reduceEqDiff, Nat.reduceMul, Nat.reduceLeDiff, Nat.reduceSub, Nat.reduceDiv, Int.reduceLE, Int.reduceLT, Int.reduceNeg, Int.reduceAdd, Int.reduceSub, Int.reduceMul, Int.reduceToNat, Int.reducePow, Int.reduceEq, ne_eq, reduceIte, byteD, dstr, un1_str, iD, bD])
        (try simp (disch := omega) only [wrap_i64, wrap_u8, wrap_u16, wrap_u64])
        refine loopL_drop (i + 1) ?_ ?_ ⟨by omega, hnk'⟩ (by omega) (by omega)
        · unfold Shut at hny'
          simp only [↓ru, rv, rl, ry, tyf, iM, bM, bsM, cond_true, cond_false, Nat.reduceLT, Nat.reduceBEq, Nat.reduceAdd, Nat.reduceEqDiff, Nat.reduceMul, Nat.reduceLeDiff, Nat.reduceSub, Nat.reduceDiv, Int.reduceLE, Int.reduceLT, Int.reduceNeg, Int.reduceAdd, Int.reduceSub, Int.reduceMul, Int.reduceToNat, Int.reducePow, Int.reduceEq, ne_eq, reduceIte, byteD, dstr, un1_str, iD, bD, hny']
          simp [pure2]
        · unfold Shut at hny'
          simp only [↓ru, rv, rl, ry, tyf, iM, bM, bsM, cond_true, cond_false, Nat.reduceLT, Nat.reduceBEq, Nat.reduceAdd, Nat.reduceEqDiff, Nat.reduceMul, Nat.reduceLeDiff, Nat.reduceSub, Nat.reduceDiv, Int.reduceLE, Int.reduceLT, Int.reduceNeg, Int.reduceAdd, Int.reduceSub, Int.reduceMul, Int.reduceToNat, Int.reducePow, Int.reduceEq, ne_eq, reduceIte, byteD, dstr, un1_str, iD, bD, hny']
          try simp [pure2]
    · have h' := of_decide_eq_false h
      obtain ⟨q1, q2⟩ := hnd (by omega)
      rw [← q2, if_pos rfl, ← q1]
      simp only [↓ru, rv, rl, ry, tyf, iM, bM, bsM, cond_true, cond_false, Nat.reduceLT, Nat.reduceBEq, Nat.reduceAdd, Nat.reduceEqDiff, Nat.reduceMul, Nat.reduceLeDiff, Nat.reduceSub, Nat.reduceDiv, Int.reduceLE, Int.reduceLT, Int.reduceNeg, Int.reduceAdd, Int.reduceSub, Int.reduceMul, Int.reduceToNat, Int.reducePow, Int.reduceEq, ne_eq, reduceIte, byteD, dstr, un1_str, iD, bD, pureEnd_of (fn := Tryd.f74) (rs := [.tmp 2, .tmp 3]) (ts := [102, 4]) rfl rfl]
theorem ParseDecR (s : List UInt8) (hs : s.length ≤ 9223372036854775807) : PFn Tryd.prog 96 [strM s] (.tup [iM (pdec s).1, bM (pdec s).2]) := by
  (refine PFn.of (prs := []) Tryd.func96 rfl rfl mix (by kernel_rfl) rfl rfl ?_; simp only [Tryd.ntmps96, argUpd])
  simp only [↓ru, rv, rl, ry, tyf, iM, bM, bsM, cond_true, cond_false, Nat.reduceLT, Nat.reduceBEq, Nat.reduceAdd, Nat.reduceEqDiff, Nat.reduceMul, Nat.reduceLeDiff, Nat.reduceSub, Nat.reduceDiv, Int.reduceLE, Int.reduceLT, Int.reduceNeg, Int.reduceAdd, Int.reduceSub, Int.reduceMul, Int.reduceToNat, Int.reducePow, Int.reduceEq, ne_eq, reduceIte, byteD, dstr, un1_str, iD, bD]
  refine aloop_lv (fun p : Nat × Int => [(0, strM s), (4, iM p.2), (5, iM p.1)]) (fun _ => []) (fun p => p.1 ≤ s.length ∧ p.1 ≤ 9 ∧ decVal (s.take p.1) 0 = p.2 ∧ -(23 * (10 ^ p.1 - 1)) ≤ p.2 ∧ p.2 ≤ 23 * (10 ^ p.1 - 1)) (fun p => s.length - p.1) 0 (0, 0) ?_ rfl ⟨by simp, by simp, by simp [decVal], by simp, by simp⟩ (by omega) ?_
  · simp only [↓ru, rv, rl, ry, tyf, iM, bM, bsM, cond_true, cond_false, Nat.reduceLT, Nat.reduceBEq, Nat.reduceAdd, Nat.reduceEqDiff, Nat.reduceMul, Nat.reduceLeDiff, Nat.reduceSub, Nat.reduceDiv, Int.reduceLE, Int.reduceLT, Int.reduceNeg, Int.reduceAdd, Int.reduceSub, Int.reduceMul, Int.reduceToNat, Int.reducePow, Int.reduceEq, ne_eq, reduceIte, byteD, dstr, un1_str, iD, bD]
  rintro ⟨i, n⟩ e0 k ⟨hi, hi9, hv, hn, hn2⟩
  simp only at hi hi9 hv hn hn2
  have hp := pow10 (i := i) (by omega)
  by_cases hgo : i < s.length ∧ i < 9
  · obtain ⟨g1, g2⟩ := hgo
    have q1 : decide ((i : Int) < (s.length : Int)) = true := decide_eq_true (by omega)
    have q2 : decide ((i : Int) < 9) = true := decide_eq_true (by omega)
    have ht := take_getD (s := s) (i := i) (by omega)
    generalize hx : s.getD i 0 = x at ht
    have hxl := x.toNat_lt
    simp only [↓ru, rv, rl, ry, tyf, iM, bM, bsM, cond_true, cond_false, Nat.reduceLT, Nat.reduceBEq, Nat.reduceAdd, Nat.reduceEqDiff, Nat.reduceMul, Nat.reduceLeDiff, Nat.reduceSub, Nat.reduceDiv, Int.reduceLE, Int.reduceLT, Int.reduceNeg, Int.reduceAdd, Int.reduceSub, Int.reduceMul, Int.reduceToNat, Int.reducePow, Int.reduceEq, ne_eq, reduceIte, byteD, dstr, un1_str, iD, bD, hx, q1, q2]
    refine grd_intro (by omega) ?_
    simp (disch := omega) only [wrap_i64, wrap_u8, wrap_u16, wrap_u64]
    (try simp only [↓ru, rv, rl, ry, tyf, iM, bM, bsM, cond_true, cond_false, Nat.reduceLT, Nat.reduceBEq, Nat.reduceAdd, Nat.reduceEqDiff, Nat.reduceMul, Nat.reduceLeDiff, Nat.reduceSub, Nat.reduceDiv, Int.reduceLE, Int.reduceLT, Int.reduceNeg, Int.reduceAdd, Int.reduceSub, Int.reduceMul, Int.reduceToNat, Int.reducePow, Int.reduceEq, ne_eq, reduceIte, byteD, dstr, un1_str, iD, bD])
    (try simp (disch := omega) only [wrap_i64, wrap_u8, wrap_u16, wrap_u64])
    refine loopL_next (i + 1, 10 * n + ((x.toNat : Int) - 48)) ?_ rfl ⟨by simp only; omega, by simp only; omega, by simp only; rw [ht, decVal_append, hv]; rfl, by simp only; rw [Int.pow_succ]; omega, by simp only; rw [Int.pow_succ]; omega⟩ (by omega) (by simp only; omega)
    simp only [↓ru, rv, rl, ry, tyf, iM, bM, bsM, cond_true, cond_false, Nat.reduceLT, Nat.reduceBEq, Nat.reduceAdd, Nat.reduceEqDiff, Nat.reduceMul, Nat.reduceLeDiff, Nat.reduceSub, Nat.reduceDiv, Int.reduceLE, Int.reduceLT, Int.reduceNeg, Int.reduceAdd, Int.reduceSub, Int.reduceMul, Int.reduceToNat, Int.reducePow, Int.reduceEq, ne_eq, reduceIte, byteD, dstr, un1_str, iD, bD]
    try simp
  · by_cases hl : s.length ≤ 9
    · have : i = s.length := by omega
      subst this
      rw [List.take_length] at hv
      have q1 : decide ((s.length : Int) < (s.length : Int)) = false := decide_eq_false (by omega)
      by_cases h0 : s = []
      · have : pdec s = (0, false) := by rw [pdec, if_neg (fun h => h.1 h0)]
        rw [this]
        have q2 : decide ((s.length : Int) < 1) = true := decide_eq_true (by simp [h0])
        (try (simp only [↓ru, rv, rl, ry, tyf, iM, bM, bsM, cond_true, cond_false, Nat.reduceLT, Nat.reduceBEq, Nat.reduceAdd, Nat.reduceEqDiff, Nat.reduceMul, Nat.reduceLeDiff, Nat.reduceSub, Nat.reduceDiv, Int.reduceLE, Int.reduceLT, Int.reduceNeg, Int.reduceAdd, Int.reduceSub, Int.reduceMul, Int.reduceToNat, Int.reducePow, Int.reduceEq, ne_eq, reduceIte, byteD, dstr, un1_str, iD, bD, q1, q2, pureEnd_of (fn := Tryd.f96) (rs := [.tmp 2, .tmp 3]) (ts := [3, 4]) rfl rfl, *])); repeat' ((first | (refine fork_split (fun _h => ?_) (fun _h => ?_)) | (refine gfork_split (fun _h => ?_) (fun _h => ?_)) | (refine dfork_split (fun _h => ?_) (fun _h => ?_))) <;> (try (simp only [↓ru, rv, rl, ry, tyf, iM, bM, bsM, cond_true, cond_false, Nat.reduceLT, Nat.reduceBEq, Nat.reduceAdd, Nat.reduceEqDiff, Nat.reduceMul, Nat.reduceLeDiff, Nat.reduceSub, Nat.reduceDiv, Int.reduceLE, Int.reduceLT, Int.reduceNeg, Int.reduceAdd, Int.reduceSub, Int.reduceMul, Int.reduceToNat, Int.reducePow, Int.reduceEq, ne_eq, reduceIte, byteD, dstr, un1_str, iD, bD, q1, q2, pureEnd_of (fn := Tryd.f96) (rs := [.tmp 2, .tmp 3]) (ts := [3, 4]) rfl rfl, *])))
      · have h1 : 0 < s.length := List.length_pos_iff.2 h0
        have q2 : decide ((s.length : Int) < 1) = false := decide_eq_false (by omega)
        have q3 : decide ((9 : Int) < (s.length : Int)) = false := decide_eq_false (by omega)
        have hD := DecimalR n ⟨by omega, by omega⟩
        by_cases hd : dec n = s
        · have : pdec s = (n, true) := by rw [pdec, hv, if_pos ⟨h0, hl, hd⟩]
          rw [this]
          have q4 : decide (dec n = s) = true := decide_eq_true hd
          rw [hd] at hD
          (try (simp only [↓ru, rv, rl, ry, tyf, iM, bM, bsM, cond_true, cond_false, Nat.reduceLT, Nat.reduceBEq, Nat.reduceAdd, Nat.reduceEqDiff, Nat.reduceMul, Nat.reduceLeDiff, Nat.reduceSub, Nat.reduceDiv, Int.reduceLE, Int.reduceLT, Int.reduceNeg, Int.reduceAdd, Int.reduceSub, Int.reduceMul, Int.reduceToNat, Int.reducePow, Int.reduceEq, ne_eq, reduceIte, byteD, dstr, un1_str, iD, bD, q1, q2, q3, decide_true, pureEnd_of (fn := Tryd.f96) (rs := [.tmp 2, .tmp 3]) (ts := [3, 4]) rfl rfl, *])); repeat' ((first | (refine fork_split (fun _h => ?_) (fun _h => ?_)) | (refine gfork_split (fun _h => ?_) (fun _h => ?_)) | (refine dfork_split (fun _h => ?_) (fun _h => ?_)) | (refine acall1_pure hD rfl rfl ?_) | (refine dcall1_pure hD rfl rfl ?_)) <;> (try (simp only [↓ru, rv, rl, ry, tyf, iM, bM, bsM, cond_true, cond_false, Nat.reduceLT, Nat.reduceBEq, Nat.reduceAdd, Nat.reduceEqDiff, Nat.reduceMul, Nat.reduceLeDiff, Nat.reduceSub, Nat.reduceDiv, Int.reduceLE, Int.reduceLT, Int.reduceNeg, Int.reduceAdd, Int.reduceSub, Int.reduceMul, Int.reduceToNat, Int.reducePow, Int.reduceEq, ne_eq, reduceIte, byteD, dstr, un1_str, iD, bD, q1, q2, q3, decide_true, pureEnd_of (fn := Tryd.f96) (rs := [.tmp 2, .tmp 3]) (ts := [3, 4]) rfl rfl, *])))
        · have : pdec s = (0, false) := by rw [pdec, hv, if_neg (fun h => hd h.2.2)]
          rw [this]
          have q4 : decide (dec n = s) = false := decide_eq_false hd
          (try (simp only [↓ru, rv, rl, ry, tyf, iM, bM, bsM, cond_true, cond_false, Nat.reduceLT, Nat.reduceBEq, Nat.reduceAdd, Nat.reduceEqDiff, Nat.reduceMul, Nat.reduceLeDiff, Nat.reduceSub, Nat.reduceDiv, Int.reduceLE, Int.reduceLT, Int.reduceNeg, Int.reduceAdd, Int.reduceSub, Int.reduceMul, Int.reduceToNat, Int.reducePow, Int.reduceEq, ne_eq, reduceIte, byteD, dstr, un1_str, iD, bD, q1, q2, q3, q4, pureEnd_of (fn := Tryd.f96) (rs := [.tmp 2, .tmp 3]) (ts := [3, 4]) rfl rfl, *])); repeat' ((first | (refine fork_split (fun _h => ?_) (fun _h => ?_)) | (refine gfork_split (fun _h => ?_) (fun _h => ?_)) | (refine dfork_split (fun _h => ?_) (fun _h => ?_)) | (refine acall1_pure hD rfl rfl ?_) | (refine dcall1_pure hD rfl rfl ?_)) <;> (try (simp only [↓ru, rv, rl, ry, tyf, iM, bM, bsM, cond_true, cond_false, Nat.reduceLT, Nat.reduceBEq, Nat.reduceAdd, Nat.reduceEqDiff, Nat.reduceMul, Nat.reduceLeDiff, Nat.reduceSub, Nat.reduceDiv, Int.reduceLE, Int.reduceLT, Int.reduceNeg, Int.reduceAdd, Int.reduceSub, Int.reduceMul, Int.reduceToNat, Int.reducePow, Int.reduceEq, ne_eq, reduceIte, byteD, dstr, un1_str, iD, bD, q1, q2, q3, q4, pureEnd_of (fn := Tryd.f96) (rs := [.tmp 2, .tmp 3]) (ts := [3, 4]) rfl rfl, *])))
    · have : i = 9 := by omega
      subst this
      have : pdec s = (0, false) := by rw [pdec, if_neg (fun h => hl h.2.1)]
      rw [this]
      have q1 : decide ((9 : Int) < (s.length : Int)) = true := decide_eq_true (by omega)
      have q2 : decide ((s.length : Int) < 1) = false := decide_eq_false (by omega)
      (try (simp only [↓ru, rv, rl, ry, tyf, iM, bM, bsM, cond_true, cond_false, Nat.reduceLT, Nat.reduceBEq, Nat.reduceAdd, Nat.reduceEqDiff, Nat.reduceMul, Nat.reduceLeDiff, Nat.reduceSub, Nat.reduceDiv, Int.reduceLE, Int.reduceLT, Int.reduceNeg, Int.reduceAdd, Int.reduceSub, Int.reduceMul, Int.reduceToNat, Int.reducePow, Int.reduceEq, ne_eq, reduceIte, byteD, dstr, un1_str, iD, bD, q1, q2, pureEnd_of (fn := Tryd.f96) (rs := [.tmp 2, .tmp 3]) (ts := [3, 4]) rfl rfl, *])); repeat' ((first | (refine fork_split (fun _h => ?_) (fun _h => ?_)) | (refine gfork_split (fun _h => ?_) (fun _h => ?_)) | (refine dfork_split (fun _h => ?_) (fun _h => ?_))) <;> (try (simp only [↓ru, rv, rl, ry, tyf, iM, bM, bsM, cond_true, cond_false, Nat.reduceLT, Nat.reduceBEq, Nat.reduceAdd, Nat.reduceEqDiff, Nat.reduceMul, Nat.reduceLeDiff, Nat.reduceSub, Nat.reduceDiv, Int.reduceLE, Int.reduceLT, Int.reduceNeg, Int.reduceAdd, Int.reduceSub, Int.reduceMul, Int.reduceToNat, Int.reducePow, Int.reduceEq, ne_eq, reduceIte, byteD, dstr, un1_str, iD, bD, q1, q2, pureEnd_of (fn := Tryd.f96) (rs := [.tmp 2, .tmp 3]) (ts := [3, 4]) rfl rfl, *])))
def numR (row : List (List UInt8)) (w : List UInt8) (k : Nat) : Option (List Int) := if (row.length = k + 1 ∧ row.getD 0 [] = w) ∧ (row.drop 1).all (fun s => (pdec s).2) = true then some ((row.drop 1).map fun s => (pdec s).1) else none
theorem NumbersR (row : List (List UInt8)) (w : List UInt8) (k : Nat) (hr : row.length ≤ 300001 ∧ ∀ w ∈ row, w.length ≤ 300000) (hk : k ≤ 10) : PFn Tryd.prog 76 [strsM row, strM w, iM k] (.tup [intsM ((numR row w k).getD []), bM (numR row w k).isSome]) := by
  have ew : IntKind.i64.wrap ((k : Int) + 1) = (k : Int) + 1 := wrap_i64 (by omega) (by omega)
  by_cases hl : row.length = k + 1
  · match row, hl, hr with
    | w0 :: r, hl, hr =>
      have hl' : r.length = k := by simpa using hl
      have d1 : decide (((k + 1 : Nat) : Int) = (k : Int) + 1) = true := decide_eq_true (by omega)
      by_cases hw : w0 = w
      · subst hw
        have dq : decide (w0 = w0) = true := decide_eq_true rfl
        (refine PFn.of (prs := []) Tryd.func76 rfl rfl mix (by kernel_rfl) rfl rfl ?_; simp only [Tryd.ntmps76, argUpd])
        (try (simp only [↓ru, rv, rl, ry, tyf, iM, bM, bsM, cond_true, cond_false, Nat.reduceLT, Nat.reduceBEq, Nat.reduceAdd, Nat.reduceEqDiff, Nat.reduceMul, Nat.reduceLeDiff, Nat.reduceSub, Nat.reduceDiv, Int.reduceLE, Int.reduceLT, Int.reduceNeg, Int.reduceAdd, Int.reduceSub, Int.reduceMul, Int.reduceToNat, Int.reducePow, Int.reduceEq, ne_eq, reduceIte, byteD, dstr, un1_str, iD, bD, ew, d1, dq, List.length_cons, *])); repeat' ((first | (refine fork_split (fun _h => ?_) (fun _h => ?_)) | (refine gfork_split (fun _h => ?_) (fun _h => ?_)) | (refine dfork_split (fun _h => ?_) (fun _h => ?_))) <;> (try (simp only [↓ru, rv, rl, ry, tyf, iM, bM, bsM, cond_true, cond_false, Nat.reduceLT, Nat.reduceBEq, Nat.reduceAdd, Nat.reduceEqDiff, Nat.reduceMul, Nat.reduceLeDiff, Nat.reduceSub, Nat.reduceDiv, Int.reduceLE, Int.reduceLT, Int.reduceNeg, Int.reduceAdd, Int.reduceSub, Int.reduceMul, Int.reduceToNat, Int.reducePow, Int.reduceEq, ne_eq, reduceIte, byteD, dstr, un1_str, iD, bD, ew, d1, dq, List.length_cons, *])))
        refine aloop_thaw (t := 8) 1 (h := by simp only [↓ru, rv, rl, ry, tyf, iM, bM, bsM, cond_true, cond_false, Nat.reduceLT, Nat.reduceBEq, Nat.reduceAdd, Nat.reduceEqDiff, Nat.reduceMul, Nat.reduceLeDiff, Nat.reduceSub, Nat.reduceDiv, Int.reduceLE, Int.reduceLT, Int.reduceNeg, Int.reduceAdd, Int.reduceSub, Int.reduceMul, Int.reduceToNat, Int.reducePow, Int.reduceEq, ne_eq, reduceIte, byteD, dstr, un1_str, iD, bD]) ?_
        refine aloop_lv (fun j : Nat => [(0, strsM (w0 :: r)), (8, .hsl 16 ((r.take j).map fun s => (pdec s).1).length), (9, iM ((j : Int) + 1))]) (fun j => [(16, .ar false 1 (pure2 (((r.take j).map fun s => (pdec s).1).map fun z => [iD z])))]) (fun j => j ≤ r.length ∧ (r.take j).all (fun s => (pdec s).2) = true) (fun j => r.length - j) 17 0 ?_ ?_ ⟨by omega, rfl⟩ (by omega) ?_
        · simp only [↓ru, rv, rl, ry, tyf, iM, bM, bsM, cond_true, cond_false, Nat.reduceLT, Nat.reduceBEq, Nat.reduceAdd, Nat.reduceEqDiff, Nat.reduceMul, Nat.reduceLeDiff, Nat.reduceSub, Nat.reduceDiv, Int.reduceLE, Int.reduceLT, Int.reduceNeg, Int.reduceAdd, Int.reduceSub, Int.reduceMul, Int.reduceToNat, Int.reducePow, Int.reduceEq, ne_eq, reduceIte, byteD, dstr, un1_str, iD, bD]
          try rfl
        · rfl
        intro j e0 n ⟨hj, ha⟩
        have hlo : Shut (((r.take j).map fun s => (pdec s).1).length = j) := by show List.length _ = j; simp; omega
        have hnx : Shut (∀ y, r[j]? = some y → ((r.take (j + 1)).map fun s => (pdec s).1) = ((r.take j).map fun s => (pdec s).1) ++ [(pdec y).1]) := fun y hy => by rw [List.take_add_one, hy]; simp
        have hnd : Shut (¬ j < r.length → r.all (fun s => (pdec s).2) = true ∧ ((r.take j).map fun s => (pdec s).1) = r.map fun s => (pdec s).1) := fun h => by
          have : j = r.length := by omega
          subst this
          rw [List.take_length] at ha ⊢
          exact ⟨ha, rfl⟩
        have hll : ((r.take j).map fun s => (pdec s).1).length ≤ 100 := by simp; omega
        generalize ((r.take j).map fun s => (pdec s).1) = o at hlo hnx hnd hll ⊢
        have ej : IntKind.i64.wrap ((j : Int) + 1 + 1) = (j : Int) + 1 + 1 := wrap_i64 (by omega) (by omega)
        by_cases hjl : j < r.length
        · obtain ⟨y, hy⟩ := get_of_lt (l := r) (i := j) hjl
          have hP := ParseDecR y (by have := hr.2 y (by simp [List.mem_of_getElem? hy]); omega)
          have hny := hnx y hy
          have dj : decide ((j : Int) + 1 < ((k + 1 : Nat) : Int)) = true := decide_eq_true (by omega)
          have hidx : ((j : Int) + 1).toNat = j + 1 := by omega
          have hy' : (w0 :: r)[j + 1]? = some y := by simpa using hy
          have hno : Shut ((pdec y).2 = false → numR (w0 :: r) w0 k = none) := fun h => by
            rw [numR, if_neg (fun hh => ?_)]
            have := List.all_eq_true.1 hh.2 y (by simp [List.mem_of_getElem? hy])
            rw [h] at this; cases this
          have hok : Shut ((pdec y).2 = true → (r.take (j + 1)).all (fun s => (pdec s).2) = true) := fun h => by
            rw [List.take_add_one, hy, List.all_append, ha]; simp [h]
          clear hnx hnd
          have hny' : Shut (((r.take (j + 1)).map fun s => (pdec s).1) = o ++ [(pdec y).1]) := hny
          clear hny
          generalize pdec y = py at *
          obtain ⟨v, vk⟩ := py
          simp only at hP hno hok hny'
          cases vk with
          | false =>
            have e := hno rfl
            rw [e]
            (try (simp only [↓ru, rv, rl, ry, tyf, iM, bM, bsM, cond_true, cond_false, Nat.reduceLT, Nat.reduceBEq, Nat.reduceAdd, Nat.reduceEqDiff, Nat.reduceMul, Nat.reduceLeDiff, Nat.reduceSub, Nat.reduceDiv, Int.reduceLE, Int.reduceLT, Int.reduceNeg, Int.reduceAdd, Int.reduceSub, Int.reduceMul, Int.reduceToNat, Int.reducePow, Int.reduceEq, ne_eq, reduceIte, byteD, dstr, un1_str, iD, bD, dj, List.length_cons, *])); repeat' ((first | (refine fork_split (fun _h => ?_) (fun _h => ?_)) | (refine gfork_split (fun _h => ?_) (fun _h => ?_)) | (refine dfork_split (fun _h => ?_) (fun _h => ?_))) <;> (try (simp only [↓ru, rv, rl, ry, tyf, iM, bM, bsM, cond_true, cond_false, Nat.reduceLT, Nat.reduceBEq, Nat.reduceAdd, Nat.reduceEqDiff, Nat.reduceMul, Nat.reduceLeDiff, Nat.reduceSub, Nat.reduceDiv, Int.reduceLE, Int.reduceLT, Int.reduceNeg, Int.reduceAdd, Int.reduceSub, Int.reduceMul, Int.reduceToNat, Int.reducePow, Int.reduceEq, ne_eq, reduceIte, byteD, dstr, un1_str, iD, bD, dj, List.length_cons, *])))
            refine grd_intro (by omega) ?_
            (try (simp only [↓ru, rv, rl, ry, tyf, iM, bM, bsM, cond_true, cond_false, Nat.reduceLT, Nat.reduceBEq, Nat.reduceAdd, Nat.reduceEqDiff, Nat.reduceMul, Nat.reduceLeDiff, Nat.reduceSub, Nat.reduceDiv, Int.reduceLE, Int.reduceLT, Int.reduceNeg, Int.reduceAdd, Int.reduceSub, Int.reduceMul, Int.reduceToNat, Int.reducePow, Int.reduceEq, ne_eq, reduceIte, byteD, dstr, un1_str, iD, bD, dj, hidx, hy, List.length_cons, Option.getD_none, Option.isSome_none, pureEnd_of (fn := Tryd.f76) (rs := [.tmp 6, .tmp 7]) (ts := [109, 4]) rfl rfl, *])); repeat' ((first | (refine fork_split (fun _h => ?_) (fun _h => ?_)) | (refine gfork_split (fun _h => ?_) (fun _h => ?_)) | (refine dfork_split (fun _h => ?_) (fun _h => ?_)) | (refine acall1_pure hP rfl rfl ?_) | (refine dcall1_pure hP rfl rfl ?_)) <;> (try (simp only [↓ru, rv, rl, ry, tyf, iM, bM, bsM, cond_true, cond_false, Nat.reduceLT, Nat.reduceBEq, Nat.reduceAdd, Nat.reduceEqDiff, Nat.reduceMul, Nat.reduceLeDiff, Nat.reduceSub, Nat.reduceDiv, Int.reduceLE, Int.reduceLT, Int.reduceNeg, Int.reduceAdd, Int.reduceSub, Int.reduceMul, Int.reduceToNat, Int.reducePow, Int.reduceEq, ne_eq, reduceIte, byteD, dstr, un1_str, iD, bD, dj, hidx, hy, List.length_cons, Option.getD_none, Option.isSome_none, pureEnd_of (fn := Tryd.f76) (rs := [.tmp 6, .tmp 7]) (ts := [109, 4]) rfl rfl, *])))
            all_goals try rfl
          | true =>
            have ha' := hok rfl
            (try (simp only [↓ru, rv, rl, ry, tyf, iM, bM, bsM, cond_true, cond_false, Nat.reduceLT, Nat.reduceBEq, Nat.reduceAdd, Nat.reduceEqDiff, Nat.reduceMul, Nat.reduceLeDiff, Nat.reduceSub, Nat.reduceDiv, Int.reduceLE, Int.reduceLT, Int.reduceNeg, Int.reduceAdd, Int.reduceSub, Int.reduceMul, Int.reduceToNat, Int.reducePow, Int.reduceEq, ne_eq, reduceIte, byteD, dstr, un1_str, iD, bD, dj, List.length_cons, *])); repeat' ((first | (refine fork_split (fun _h => ?_) (fun _h => ?_)) | (refine gfork_split (fun _h => ?_) (fun _h => ?_)) | (refine dfork_split (fun _h => ?_) (fun _h => ?_))) <;> (try (simp only [↓ru, rv, rl, ry, tyf, iM, bM, bsM, cond_true, cond_false, Nat.reduceLT, Nat.reduceBEq, Nat.reduceAdd, Nat.reduceEqDiff, Nat.reduceMul, Nat.reduceLeDiff, Nat.reduceSub, Nat.reduceDiv, Int.reduceLE, Int.reduceLT, Int.reduceNeg, Int.reduceAdd, Int.reduceSub, Int.reduceMul, Int.reduceToNat, Int.reducePow, Int.reduceEq, ne_eq, reduceIte, byteD, dstr, un1_str, iD, bD, dj, List.length_cons, *])))
            refine grd_intro (by omega) ?_
            (try (simp only [↓ru, rv, rl, ry, tyf, iM, bM, bsM, cond_true, cond_false, Nat.reduceLT, Nat.reduceBEq, Nat.reduceAdd, Nat.reduceEqDiff, Nat.reduceMul, Nat.reduceLeDiff, Nat.reduceSub, Nat.reduceDiv, Int.reduceLE, Int.reduceLT, Int.reduceNeg, Int.reduceAdd, Int.reduceSub, Int.reduceMul, Int.reduceToNat, Int.reducePow, Int.reduceEq, ne_eq, reduceIte, byteD, dstr, un1_str, iD, bD, dj, hidx, hy, List.length_cons, *])); repeat' ((first | (refine fork_split (fun _h => ?_) (fun _h => ?_)) | (refine gfork_split (fun _h => ?_) (fun _h => ?_)) | (refine dfork_split (fun _h => ?_) (fun _h => ?_)) | (refine acall1_pure hP rfl rfl ?_) | (refine dcall1_pure hP rfl rfl ?_)) <;> (try (simp only [↓ru, rv, rl, ry, tyf, iM, bM, bsM, cond_true, cond_false, Nat.reduceLT, Nat.reduceBEq, Nat.reduceAdd, Nat.reduceEqDiff, Nat.reduceMul, Nat.reduceLeDiff, Nat.reduceSub, Nat.reduceDiv, Int.reduceLE, Int.reduceLT, Int.reduceNeg, Int.reduceAdd, Int.reduceSub, Int.reduceMul, Int.reduceToNat, Int.reducePow, Int.reduceEq, ne_eq, reduceIte, byteD, dstr, un1_str, iD, bD, dj, hidx, hy, List.length_cons, *])))
            refine grd_intro (by simp [pure2]; omega) ?_
            (try simp only [↓ru, rv, rl, ry, tyf, iM, bM, bsM, cond_true, cond_false, Nat.reduceLT, Nat.reduceBEq, Nat.reduceAdd, Nat.reduceEqDiff, Nat.reduceMul, Nat.reduceLeDiff, Nat.reduceSub, Nat.reduceDiv, Int.reduceLE, Int.reduceLT, Int.reduceNeg, Int.reduceAdd, Int.reduceSub, Int.reduceMul, Int.reduceToNat, Int.reducePow, Int.reduceEq, ne_eq, reduceIte, byteD, dstr, un1_str, iD, bD])
            (try simp (disch := omega) only [wrap_i64, wrap_u8, wrap_u16, wrap_u64])
            refine loopL_drop (j + 1) ?_ ?_ ⟨by omega, ha'⟩ (by omega) (by omega)
            · unfold Shut at hny'
              simp only [↓ru, rv, rl, ry, tyf, iM, bM, bsM, cond_true, cond_false, Nat.reduceLT, Nat.reduceBEq, Nat.reduceAdd, Nat.reduceEqDiff, Nat.reduceMul, Nat.reduceLeDiff, Nat.reduceSub, Nat.reduceDiv, Int.reduceLE, Int.reduceLT, Int.reduceNeg, Int.reduceAdd, Int.reduceSub, Int.reduceMul, Int.reduceToNat, Int.reducePow, Int.reduceEq, ne_eq, reduceIte, byteD, dstr, un1_str, iD, bD, hny', ej]
              simp [pure2]
              unfold Shut at hlo
              omega
            · unfold Shut at hny'
              simp only [↓ru, rv, rl, ry, tyf, iM, bM, bsM, cond_true, cond_false, Nat.reduceLT, Nat.reduceBEq, Nat.reduceAdd, Nat.reduceEqDiff, Nat.reduceMul, Nat.reduceLeDiff, Nat.reduceSub, Nat.reduceDiv, Int.reduceLE, Int.reduceLT, Int.reduceNeg, Int.reduceAdd, Int.reduceSub, Int.reduceMul, Int.reduceToNat, Int.reducePow, Int.reduceEq, ne_eq, reduceIte, byteD, dstr, un1_str, iD, bD, hny']
              try simp [pure2, iD]
        · obtain ⟨q1, q2⟩ := hnd hjl
          have dj : decide ((j : Int) + 1 < ((k + 1 : Nat) : Int)) = false := decide_eq_false (by omega)
          have e : numR (w0 :: r) w0 k = some o := by rw [numR, if_pos ⟨⟨hl, rfl⟩, by simpa using q1⟩, q2]; rfl
          rw [e]
          (try (simp only [↓ru, rv, rl, ry, tyf, iM, bM, bsM, cond_true, cond_false, Nat.reduceLT, Nat.reduceBEq, Nat.reduceAdd, Nat.reduceEqDiff, Nat.reduceMul, Nat.reduceLeDiff, Nat.reduceSub, Nat.reduceDiv, Int.reduceLE, Int.reduceLT, Int.reduceNeg, Int.reduceAdd, Int.reduceSub, Int.reduceMul, Int.reduceToNat, Int.reducePow, Int.reduceEq, ne_eq, reduceIte, byteD, dstr, un1_str, iD, bD, dj, List.length_cons, Option.getD_some, Option.isSome_some, pureEnd_of (fn := Tryd.f76) (rs := [.tmp 6, .tmp 7]) (ts := [109, 4]) rfl rfl, *])); repeat' ((first | (refine fork_split (fun _h => ?_) (fun _h => ?_)) | (refine gfork_split (fun _h => ?_) (fun _h => ?_)) | (refine dfork_split (fun _h => ?_) (fun _h => ?_))) <;> (try (simp only [↓ru, rv, rl, ry, tyf, iM, bM, bsM, cond_true, cond_false, Nat.reduceLT, Nat.reduceBEq, Nat.reduceAdd, Nat.reduceEqDiff, Nat.reduceMul, Nat.reduceLeDiff, Nat.reduceSub, Nat.reduceDiv, Int.reduceLE, Int.reduceLT, Int.reduceNeg, Int.reduceAdd, Int.reduceSub, Int.reduceMul, Int.reduceToNat, Int.reducePow, Int.reduceEq, ne_eq, reduceIte, byteD, dstr, un1_str, iD, bD, dj, List.length_cons, Option.getD_some, Option.isSome_some, pureEnd_of (fn := Tryd.f76) (rs := [.tmp 6, .tmp 7]) (ts := [109, 4]) rfl rfl, *])))
          all_goals try rfl
      · have e : numR (w0 :: r) w k = none := by rw [numR, if_neg (fun h => hw h.1.2)]
        have dq : decide (w0 = w) = false := decide_eq_false hw
        rw [e]
        (refine PFn.of (prs := []) Tryd.func76 rfl rfl mix (by kernel_rfl) rfl rfl ?_; simp only [Tryd.ntmps76, argUpd])
        (try (simp only [↓ru, rv, rl, ry, tyf, iM, bM, bsM, cond_true, cond_false, Nat.reduceLT, Nat.reduceBEq, Nat.reduceAdd, Nat.reduceEqDiff, Nat.reduceMul, Nat.reduceLeDiff, Nat.reduceSub, Nat.reduceDiv, Int.reduceLE, Int.reduceLT, Int.reduceNeg, Int.reduceAdd, Int.reduceSub, Int.reduceMul, Int.reduceToNat, Int.reducePow, Int.reduceEq, ne_eq, reduceIte, byteD, dstr, un1_str, iD, bD, ew, d1, dq, List.length_cons, Option.getD_none, Option.isSome_none, pureEnd_of (fn := Tryd.f76) (rs := [.tmp 6, .tmp 7]) (ts := [109, 4]) rfl rfl, *])); repeat' ((first | (refine fork_split (fun _h => ?_) (fun _h => ?_)) | (refine gfork_split (fun _h => ?_) (fun _h => ?_)) | (refine dfork_split (fun _h => ?_) (fun _h => ?_))) <;> (try (simp only [↓ru, rv, rl, ry, tyf, iM, bM, bsM, cond_true, cond_false, Nat.reduceLT, Nat.reduceBEq, Nat.reduceAdd, Nat.reduceEqDiff, Nat.reduceMul, Nat.reduceLeDiff, Nat.reduceSub, Nat.reduceDiv, Int.reduceLE, Int.reduceLT, Int.reduceNeg, Int.reduceAdd, Int.reduceSub, Int.reduceMul, Int.reduceToNat, Int.reducePow, Int.reduceEq, ne_eq, reduceIte, byteD, dstr, un1_str, iD, bD, ew, d1, dq, List.length_cons, Option.getD_none, Option.isSome_none, pureEnd_of (fn := Tryd.f76) (rs := [.tmp 6, .tmp 7]) (ts := [109, 4]) rfl rfl, *])))
        rfl
  · have e : numR row w k = none := by rw [numR, if_neg (fun h => hl h.1.1)]
    have d1 : decide ((row.length : Int) = (k : Int) + 1) = false := decide_eq_false (by omega)
    rw [e]
    (refine PFn.of (prs := []) Tryd.func76 rfl rfl mix (by kernel_rfl) rfl rfl ?_; simp only [Tryd.ntmps76, argUpd])
    (try (simp only [↓ru, rv, rl, ry, tyf, iM, bM, bsM, cond_true, cond_false, Nat.reduceLT, Nat.reduceBEq, Nat.reduceAdd, Nat.reduceEqDiff, Nat.reduceMul, Nat.reduceLeDiff, Nat.reduceSub, Nat.reduceDiv, Int.reduceLE, Int.reduceLT, Int.reduceNeg, Int.reduceAdd, Int.reduceSub, Int.reduceMul, Int.reduceToNat, Int.reducePow, Int.reduceEq, ne_eq, reduceIte, byteD, dstr, un1_str, iD, bD, ew, d1, Option.getD_none, Option.isSome_none, pureEnd_of (fn := Tryd.f76) (rs := [.tmp 6, .tmp 7]) (ts := [109, 4]) rfl rfl, *])); repeat' ((first | (refine fork_split (fun _h => ?_) (fun _h => ?_)) | (refine gfork_split (fun _h => ?_) (fun _h => ?_)) | (refine dfork_split (fun _h => ?_) (fun _h => ?_))) <;> (try (simp only [↓ru, rv, rl, ry, tyf, iM, bM, bsM, cond_true, cond_false, Nat.reduceLT, Nat.reduceBEq, Nat.reduceAdd, Nat.reduceEqDiff, Nat.reduceMul, Nat.reduceLeDiff, Nat.reduceSub, Nat.reduceDiv, Int.reduceLE, Int.reduceLT, Int.reduceNeg, Int.reduceAdd, Int.reduceSub, Int.reduceMul, Int.reduceToNat, Int.reducePow, Int.reduceEq, ne_eq, reduceIte, byteD, dstr, un1_str, iD, bD, ew, d1, Option.getD_none, Option.isSome_none, pureEnd_of (fn := Tryd.f76) (rs := [.tmp 6, .tmp 7]) (ts := [109, 4]) rfl rfl, *])))
    rfl
end Go.CF

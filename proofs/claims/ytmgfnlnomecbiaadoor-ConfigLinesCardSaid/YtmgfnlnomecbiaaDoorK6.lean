import Derived.Test.YtmgfnlnomecbiaaDoorK5
import Derived.Test.YtmgfnlnomecbiaaDoorT10
set_option linter.all false
open Go.Proofs Go.Abs Go.Fa Go.BU Go.TX Go.TW
/- Configurations: the reader. -/
namespace Go.CF
set_option maxHeartbeats 4000000
set_option maxRecDepth 10000
-- rules: byteD, dstr, un1_str, iD, bD

abbrev Rows := List (List (List UInt8))
abbrev rowD (ws : List (List UInt8)) : List D := [.sl 1 (ws.map fun w => [strD w])]
abbrev rowsM (L : Rows) : M := .d (.sl 1 (L.map rowD))
abbrev cfgZ : Box := .st [.d (.v (.slice none 0 0)), iM 0, iM 0, iM 0, iM 0, iM 0, iM 0, iM 0, iM 0, iM 0, iM 0, iM 0, iM 0, iM 0, iM 0, iM 0]
def wordsL (ls : List (List UInt8)) : Rows := ls.map fun l => (wordsF l).getD []
def wordsK (ls : List (List UInt8)) : Bool := ls.all fun l => (wordsF l).isSome
theorem row_app (L : Rows) (ws : List (List UInt8)) : pure2 (L.map rowD) ++ [[M.d (.sl 1 (ws.map fun w => [strD w]))]] = pure2 ((L ++ [ws]).map rowD) := by simp [pure2]
theorem NewReader (b : List UInt8) (hb : b.length ≤ 300000) {K : KT}
    (hK : ∀ n', 21 ≤ n' → K (.ptr 15 0) [(20, .ar false 1 (pure2 ((wordsL ((linesF b).getD [])).map rowD))), (15, .st [.hsl 20 (wordsL ((linesF b).getD [])).length, bM (!((linesF b).isSome && wordsK ((linesF b).getD [])))]), (0, cfgZ)] n') :
    AFn Tryd.prog 71 [bsM b] [(0, cfgZ)] 4 K := by
  have hL := Lines b hb
  have hll : ∀ ls, linesF b = some ls → ls.length ≤ b.length ∧ ∀ w ∈ ls, w.length ≤ b.length := fun ls h => by
    have h1 := lines_join h
    have h2 := unlines_len ls
    have h3 := sum_len ls
    rw [← h1] at h2
    refine ⟨by omega, fun w hw => ?_⟩
    have h4 : w.length + 1 ≤ (ls.map fun w => w.length + 1).sum := by
      clear h1 h2 h3 h hL hK
      induction ls with
      | nil => cases hw
      | cons x l ih =>
        simp only [List.map_cons, List.sum_cons]
        rcases List.mem_cons.1 hw with rfl | h
        · omega
        · have := ih h; omega
    omega
  have hl2 : ((linesF b).getD []).length ≤ b.length ∧ ∀ w ∈ (linesF b).getD [], w.length ≤ b.length := by
    cases h : linesF b with
    | none => simp
    | some ls => exact hll ls h
  clear hll
  generalize (linesF b).getD [] = ls at *
  generalize (linesF b).isSome = ok at *
  (refine AFn.intro (prs := []) Tryd.func71 rfl rfl mix (by kernel_rfl) rfl (fun hB => ?_); simp only [Tryd.ntmps71, argUpd])
  (try (simp only [↓ru, rv, rl, ry, tyf, iM, bM, bsM, cond_true, cond_false, Nat.reduceLT, Nat.reduceBEq, Nat.reduceAdd, Nat.reduceEqDiff, Nat.reduceMul, Nat.reduceLeDiff, Nat.reduceSub, Nat.reduceDiv, Int.reduceLE, Int.reduceLT, Int.reduceNeg, Int.reduceAdd, Int.reduceSub, Int.reduceMul, Int.reduceToNat, Int.reducePow, Int.reduceEq, ne_eq, reduceIte, byteD, dstr, un1_str, iD, bD, *])); repeat' ((first | (refine fork_split (fun _h => ?_) (fun _h => ?_)) | (refine gfork_split (fun _h => ?_) (fun _h => ?_)) | (refine dfork_split (fun _h => ?_) (fun _h => ?_)) | (refine acall1_pure hL rfl rfl ?_) | (refine dcall1_pure hL rfl rfl ?_)) <;> (try (simp only [↓ru, rv, rl, ry, tyf, iM, bM, bsM, cond_true, cond_false, Nat.reduceLT, Nat.reduceBEq, Nat.reduceAdd, Nat.reduceEqDiff, Nat.reduceMul, Nat.reduceLeDiff, Nat.reduceSub, Nat.reduceDiv, Int.reduceLE, Int.reduceLT, Int.reduceNeg, Int.reduceAdd, Int.reduceSub, Int.reduceMul, Int.reduceToNat, Int.reducePow, Int.reduceEq, ne_eq, reduceIte, byteD, dstr, un1_str, iD, bD, *])))
  refine aloop_thawBox (p := 15) (j := 0) 1 rfl rfl ?_
  simp only [↓ru, rv, rl, ry, tyf, iM, bM, bsM, cond_true, cond_false, Nat.reduceLT, Nat.reduceBEq, Nat.reduceAdd, Nat.reduceEqDiff, Nat.reduceMul, Nat.reduceLeDiff, Nat.reduceSub, Nat.reduceDiv, Int.reduceLE, Int.reduceLT, Int.reduceNeg, Int.reduceAdd, Int.reduceSub, Int.reduceMul, Int.reduceToNat, Int.reducePow, Int.reduceEq, ne_eq, reduceIte, byteD, dstr, un1_str, iD, bD]
  refine aloop_lv (fun i : Nat => [(5, .ptr 15 0), (19, strsM ls), (20, iM ls.length), (21, iM i)])
    (fun i => [(20, .ar false 1 (pure2 ((wordsL (ls.take i)).map rowD))), (15, .st [.hsl 20 (wordsL (ls.take i)).length, bM (!(ok && wordsK (ls.take i)))]), (0, cfgZ)])
    (fun i => i ≤ ls.length) (fun i => ls.length - i) 21 0 ?_ ?_ (by omega) (by omega) ?_
  · simp only [↓ru, rv, rl, ry, tyf, iM, bM, bsM, cond_true, cond_false, Nat.reduceLT, Nat.reduceBEq, Nat.reduceAdd, Nat.reduceEqDiff, Nat.reduceMul, Nat.reduceLeDiff, Nat.reduceSub, Nat.reduceDiv, Int.reduceLE, Int.reduceLT, Int.reduceNeg, Int.reduceAdd, Int.reduceSub, Int.reduceMul, Int.reduceToNat, Int.reducePow, Int.reduceEq, ne_eq, reduceIte, byteD, dstr, un1_str, iD, bD]
  · simp [wordsL, wordsK, pure2]
  intro i e0 n hi
  have hnx : Shut (∀ y, ls[i]? = some y → wordsL (ls.take (i + 1)) = wordsL (ls.take i) ++ [(wordsF y).getD []] ∧ wordsK (ls.take (i + 1)) = (wordsK (ls.take i) && (wordsF y).isSome)) := fun y hy => by
    unfold wordsL wordsK; rw [List.take_add_one, hy]; simp
  have hnd : Shut (¬ i < ls.length → wordsL (ls.take i) = wordsL ls ∧ wordsK (ls.take i) = wordsK ls) := fun h => by rw [List.take_of_length_le (by omega)]; exact ⟨rfl, rfl⟩
  have hln : (wordsL (ls.take i)).length ≤ 300000 := by simp [wordsL]; omega
  generalize wordsL (ls.take i) = T at hnx hnd hln ⊢
  generalize wordsK (ls.take i) = kk at hnx hnd ⊢
  simp only [↓ru, rv, rl, ry, tyf, iM, bM, bsM, cond_true, cond_false, Nat.reduceLT, Nat.reduceBEq, Nat.reduceAdd, Nat.reduceEqDiff, Nat.reduceMul, Nat.reduceLeDiff, Nat.reduceSub, Nat.reduceDiv, Int.reduceLE, Int.reduceLT, Int.reduceNeg, Int.reduceAdd, Int.reduceSub, Int.reduceMul, Int.reduceToNat, Int.reducePow, Int.reduceEq, ne_eq, reduceIte, byteD, dstr, un1_str, iD, bD]
  refine fork_split (fun h => ?_) (fun h => ?_)
  · have h' := of_decide_eq_true h
    obtain ⟨y, hy⟩ := get_of_lt (l := ls) (i := i) (by omega)
    obtain ⟨hny, hnk⟩ := hnx y hy
    have hW := Words y (by have := hl2.2 y (List.mem_of_getElem? hy); omega)
    clear hnx hnd
    generalize (wordsF y).getD [] = ws at *
    generalize (wordsF y).isSome = wk at *
    have hny' : Shut (wordsL (ls.take (i + 1)) = T ++ [ws] ∧ wordsK (ls.take (i + 1)) = (kk && wk)) := ⟨hny, hnk⟩
    clear hny hnk
    cases ok <;> cases kk <;> cases wk
    all_goals
      simp only [Bool.true_and, Bool.false_and, Bool.and_true, Bool.and_false, Bool.not_true, Bool.not_false]
      (try (simp only [↓ru, rv, rl, ry, tyf, iM, bM, bsM, cond_true, cond_false, Nat.reduceLT, Nat.reduceBEq, Nat.reduceAdd, Nat.reduceEqDiff, Nat.reduceMul, Nat.reduceLeDiff, Nat.reduceSub, Nat.reduceDiv, Int.reduceLE, Int.reduceLT, Int.reduceNeg, Int.reduceAdd, Int.reduceSub, Int.reduceMul, Int.reduceToNat, Int.reducePow, Int.reduceEq, ne_eq, reduceIte, byteD, dstr, un1_str, iD, bD, hy, row_app, *])); repeat' ((first | (refine fork_split (fun _h => ?_) (fun _h => ?_)) | (refine gfork_split (fun _h => ?_) (fun _h => ?_)) | (refine dfork_split (fun _h => ?_) (fun _h => ?_)) | (refine acall1_pure hW rfl rfl ?_) | (refine dcall1_pure hW rfl rfl ?_)) <;> (try (simp only [↓ru, rv, rl, ry, tyf, iM, bM, bsM, cond_true, cond_false, Nat.reduceLT, Nat.reduceBEq, Nat.reduceAdd, Nat.reduceEqDiff, Nat.reduceMul, Nat.reduceLeDiff, Nat.reduceSub, Nat.reduceDiv, Int.reduceLE, Int.reduceLT, Int.reduceNeg, Int.reduceAdd, Int.reduceSub, Int.reduceMul, Int.reduceToNat, Int.reducePow, Int.reduceEq, ne_eq, reduceIte, byteD, dstr, un1_str, iD, bD, hy, row_app, *])))
      refine grd_intro (by simp [pure2]; omega) ?_
      (try simp only [↓ru, rv, rl, ry, tyf, iM, bM, bsM, cond_true, cond_false, Nat.reduceLT, Nat.reduceBEq, Nat.reduceAdd, Nat.reduceEqDiff, Nat.reduceMul, Nat.reduceLeDiff, Nat.reduceSub, Nat.reduceDiv, Int.reduceLE, Int.reduceLT, Int.reduceNeg, Int.reduceAdd, Int.reduceSub, Int.reduceMul, Int.reduceToNat, Int.reducePow, Int.reduceEq, ne_eq, reduceIte, byteD, dstr, un1_str, iD, bD])
      (try simp (disch := omega) only [wrap_i64, wrap_u8, wrap_u16, wrap_u64])
      refine loopL_drop (i + 1) ?_ ?_ (by omega) (by omega) (by omega)
      · simp only [↓ru, rv, rl, ry, tyf, iM, bM, bsM, cond_true, cond_false, Nat.reduceLT, Nat.reduceBEq, Nat.reduceAdd, Nat.reduceEqDiff, Nat.reduceMul, Nat.reduceLeDiff, Nat.reduceSub, Nat.reduceDiv, Int.reduceLE, Int.reduceLT, Int.reduceNeg, Int.reduceAdd, Int.reduceSub, Int.reduceMul, Int.reduceToNat, Int.reducePow, Int.reduceEq, ne_eq, reduceIte, byteD, dstr, un1_str, iD, bD]
        try simp
      · unfold Shut at hny'
        obtain ⟨q1, q2⟩ := hny'
        simp only [↓ru, rv, rl, ry, tyf, iM, bM, bsM, cond_true, cond_false, Nat.reduceLT, Nat.reduceBEq, Nat.reduceAdd, Nat.reduceEqDiff, Nat.reduceMul, Nat.reduceLeDiff, Nat.reduceSub, Nat.reduceDiv, Int.reduceLE, Int.reduceLT, Int.reduceNeg, Int.reduceAdd, Int.reduceSub, Int.reduceMul, Int.reduceToNat, Int.reducePow, Int.reduceEq, ne_eq, reduceIte, byteD, dstr, un1_str, iD, bD, q1, q2, Bool.true_and, Bool.false_and, Bool.and_true, Bool.and_false, Bool.not_true, Bool.not_false, List.length_append, List.length_cons, List.length_nil]
        try simp [pure2]
  · have h' := of_decide_eq_false h
    obtain ⟨q1, q2⟩ := hnd (by omega)
    subst q1
    subst q2
    simp only [↓ru, rv, rl, ry, tyf, iM, bM, bsM, cond_true, cond_false, Nat.reduceLT, Nat.reduceBEq, Nat.reduceAdd, Nat.reduceEqDiff, Nat.reduceMul, Nat.reduceLeDiff, Nat.reduceSub, Nat.reduceDiv, Int.reduceLE, Int.reduceLT, Int.reduceNeg, Int.reduceAdd, Int.reduceSub, Int.reduceMul, Int.reduceToNat, Int.reducePow, Int.reduceEq, ne_eq, reduceIte, byteD, dstr, un1_str, iD, bD, aEnd_of (fn := Tryd.f71) (rs := [.tmp 2]) rfl]
    exact aFin_same (hK _ (by omega))
end Go.CF

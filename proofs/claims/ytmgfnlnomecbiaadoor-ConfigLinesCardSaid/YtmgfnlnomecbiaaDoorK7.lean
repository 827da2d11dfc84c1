import Derived.Test.YtmgfnlnomecbiaaDoorK6
set_option linter.all false
open Go.Proofs Go.Abs Go.Fa Go.BU Go.TX Go.TW
namespace Go.CF
set_option maxHeartbeats 4000000
set_option maxRecDepth 10000
-- rules: byteD, dstr, un1_str, iD, bD

theorem SetParse (t : List UInt8) (ht : t.length ≤ 300000) : PFn Tryd.prog 91 [strM t] (parM t) := by
  have hl : (cutB 45 t).1.length ≤ 300000 := by unfold cutB; split <;> simp <;> omega
  have e := parse_eq t
  unfold parse2 at e
  unfold parM
  rw [← e]
  clear e
  (refine PFn.of (prs := []) Tryd.func91 rfl rfl mix (by kernel_rfl) rfl rfl ?_; simp only [Tryd.ntmps91, argUpd])
  (try (simp only [↓ru, rv, rl, ry, tyf, iM, bM, bsM, cond_true, cond_false, Nat.reduceLT, Nat.reduceBEq, Nat.reduceAdd, Nat.reduceEqDiff, Nat.reduceMul, Nat.reduceLeDiff, Nat.reduceSub, Nat.reduceDiv, Int.reduceLE, Int.reduceLT, Int.reduceNeg, Int.reduceAdd, Int.reduceSub, Int.reduceMul, Int.reduceToNat, Int.reducePow, Int.reduceEq, ne_eq, reduceIte, byteD, dstr, un1_str, iD, bD, pureEnd_of (fn := Tryd.f91) (rs := [.cell 2 92, .tmp 3]) (ts := [92, 4]) rfl rfl, *])); repeat' ((first | (refine fork_split (fun _h => ?_) (fun _h => ?_)) | (refine gfork_split (fun _h => ?_) (fun _h => ?_)) | (refine dfork_split (fun _h => ?_) (fun _h => ?_)) | (refine acall1_pure (Cut t 45 (by omega)) rfl rfl ?_) | (refine dcall1_pure (Cut t 45 (by omega)) rfl rfl ?_) | (refine acall1_pure (ParseDecimal (cutB 45 t).1 (by omega)) rfl rfl ?_) | (refine dcall1_pure (ParseDecimal (cutB 45 t).1 (by omega)) rfl rfl ?_) | (refine acall1_pure (IndexAny [78, 69, 79] (cutB 45 t).2.1 (by simp)) rfl rfl ?_) | (refine dcall1_pure (IndexAny [78, 69, 79] (cutB 45 t).2.1 (by simp)) rfl rfl ?_) | (refine acall1_pure (TW.Format (candS t)) rfl rfl ?_) | (refine dcall1_pure (TW.Format (candS t)) rfl rfl ?_)) <;> (try (simp only [↓ru, rv, rl, ry, tyf, iM, bM, bsM, cond_true, cond_false, Nat.reduceLT, Nat.reduceBEq, Nat.reduceAdd, Nat.reduceEqDiff, Nat.reduceMul, Nat.reduceLeDiff, Nat.reduceSub, Nat.reduceDiv, Int.reduceLE, Int.reduceLT, Int.reduceNeg, Int.reduceAdd, Int.reduceSub, Int.reduceMul, Int.reduceToNat, Int.reducePow, Int.reduceEq, ne_eq, reduceIte, byteD, dstr, un1_str, iD, bD, pureEnd_of (fn := Tryd.f91) (rs := [.cell 2 92, .tmp 3]) (ts := [92, 4]) rfl rfl, *])))
  all_goals (try simp only [Bool.not_eq_true', Bool.not_eq_false', decide_eq_true_eq, decide_eq_false_iff_not] at *)
  · rw [if_neg (by simp_all)]
  · rw [if_neg (by simp_all)]
  · rw [if_pos (by simp_all)]; rfl
def setsF : Rows → List Stg × Bool × Rows
  | [] => ([], true, [])
  | row :: r => if row.length = 2 ∧ row.getD 0 [] = settingW then ((parseS (row.getD 1 [])).1 :: (setsF r).1, (parseS (row.getD 1 [])).2 && (setsF r).2.1, (setsF r).2.2) else ([], true, row :: r)
/-- Rows that are not too long. -/
def RK (L : Rows) : Prop := L.length ≤ 300000 ∧ ∀ row ∈ L, row.length ≤ 300001 ∧ ∀ w ∈ row, w.length ≤ 300000
abbrev rb (n0 : Nat) (c X : Box) (L : Rows) (bad : Bool) : Bx := [(n0 + 22, c), (20, X), (15, .st [rowsM L, bM bad]), (0, cfgZ)]
theorem Settings (L0 : Rows) (bad0 : Bool) (hL : RK L0) {n0 : Nat} {c X : Box} {K : KT}
    (hK : ∀ n', n0 + 28 ≤ n' → K (.hsl (n0 + 27) (setsF L0).1.length) ((n0 + 27, .ar false 2 (pure2 ((setsF L0).1.map stgD))) :: rb n0 c X (setsF L0).2.2 (bad0 || !(setsF L0).2.1)) n') :
    AFn Tryd.prog 72 [.ptr 15 0] (rb n0 c X L0 bad0) (n0 + 25) K := by
  (refine AFn.intro (prs := []) Tryd.func72 rfl rfl mix (by kernel_rfl) rfl (fun hB => ?_); simp only [Tryd.ntmps72, argUpd])
  simp only [↓ru, rv, rl, ry, tyf, iM, bM, bsM, cond_true, cond_false, Nat.reduceLT, Nat.reduceBEq, Nat.reduceAdd, Nat.reduceEqDiff, Nat.reduceMul, Nat.reduceLeDiff, Nat.reduceSub, Nat.reduceDiv, Int.reduceLE, Int.reduceLT, Int.reduceNeg, Int.reduceAdd, Int.reduceSub, Int.reduceMul, Int.reduceToNat, Int.reducePow, Int.reduceEq, ne_eq, reduceIte, byteD, dstr, un1_str, iD, bD]
  refine aloop_thaw (t := 3) 2 (h := by simp only [↓ru, rv, rl, ry, tyf, iM, bM, bsM, cond_true, cond_false, Nat.reduceLT, Nat.reduceBEq, Nat.reduceAdd, Nat.reduceEqDiff, Nat.reduceMul, Nat.reduceLeDiff, Nat.reduceSub, Nat.reduceDiv, Int.reduceLE, Int.reduceLT, Int.reduceNeg, Int.reduceAdd, Int.reduceSub, Int.reduceMul, Int.reduceToNat, Int.reducePow, Int.reduceEq, ne_eq, reduceIte, byteD, dstr, un1_str, iD, bD]) ?_
  refine aloop_lv (fun p : List Stg × Bool × Rows => [(0, .ptr 15 0), (3, .hsl (n0 + 27) p.1.length)]) (fun p => (n0 + 27, .ar false 2 (pure2 (p.1.map stgD))) :: rb n0 c X p.2.2 (bad0 || !p.2.1))
    (fun p => p.1 ++ (setsF p.2.2).1 = (setsF L0).1 ∧ (p.2.1 && (setsF p.2.2).2.1) = (setsF L0).2.1 ∧ (setsF p.2.2).2.2 = (setsF L0).2.2 ∧ RK p.2.2 ∧ p.1.length + p.2.2.length ≤ L0.length) (fun p => p.2.2.length) (n0 + 28) ([], true, L0) ?_ ?_ ⟨rfl, by simp, rfl, hL, by simp⟩ (by omega) ?_
  · simp only [↓ru, rv, rl, ry, tyf, iM, bM, bsM, cond_true, cond_false, Nat.reduceLT, Nat.reduceBEq, Nat.reduceAdd, Nat.reduceEqDiff, Nat.reduceMul, Nat.reduceLeDiff, Nat.reduceSub, Nat.reduceDiv, Int.reduceLE, Int.reduceLT, Int.reduceNeg, Int.reduceAdd, Int.reduceSub, Int.reduceMul, Int.reduceToNat, Int.reducePow, Int.reduceEq, ne_eq, reduceIte, byteD, dstr, un1_str, iD, bD]
  · simp [pure2]
  rintro ⟨acc, k, L⟩ e0 n ⟨h1, h2, h3, h4, h5⟩
  simp only at h1 h2 h3 h4 h5
  have hacc : acc.length + 1 ≤ 300001 := by have := hL.1; omega
  have hsh : Shut (acc ++ (setsF L).1 = (setsF L0).1 ∧ (k && (setsF L).2.1) = (setsF L0).2.1 ∧ (setsF L).2.2 = (setsF L0).2.2) := ⟨h1, h2, h3⟩
  clear h1 h2 h3
  rw [show n + (n0 + 28) = n0 + (n + 28) by omega]
  generalize hm : n0 + (n + 28) = m
  have hm' : n0 + 28 ≤ m := by omega
  clear hm
  have f1 : ∀ k, ¬ (m + k = n0 + 27) := fun k => by omega
  have f2 : ∀ k, ¬ (m + k = n0 + 22) := fun k => by omega
  have f3 : ∀ k, ¬ (m + k = 20) := fun k => by omega
  have f4 : ∀ k, ¬ (m + k = 15) := fun k => by omega
  have f5 : ∀ k, ¬ (m + k = 0) := fun k => by omega
  have g1 : ∀ k, ¬ (n0 + 27 = m + k) := fun k => by omega
  have g2 : ∀ k, ¬ (n0 + 22 = m + k) := fun k => by omega
  have g3 : ∀ k, ¬ (20 = m + k) := fun k => by omega
  have g4 : ∀ k, ¬ (15 = m + k) := fun k => by omega
  have g5 : ∀ k, ¬ (0 = m + k) := fun k => by omega
  rw [← Nat.add_zero m]
  have stop : setsF L = ([], true, L) → ∀ n', n0 + 28 ≤ n' → K (.hsl (n0 + 27) acc.length) ((n0 + 27, .ar false 2 (pure2 (acc.map stgD))) :: rb n0 c X L (bad0 || !k)) n' := fun h n' hn => by
    unfold Shut at hsh
    obtain ⟨h1, h2, h3⟩ := hsh
    have := hK n' hn
    rw [← h1, ← h2, ← h3, h] at this
    simpa using this
  cases L with
  | nil =>
    have hs := stop rfl
    (try (simp only [↓ru, rv, rl, ry, tyf, iM, bM, bsM, cond_true, cond_false, Nat.reduceLT, Nat.reduceBEq, Nat.reduceAdd, Nat.reduceEqDiff, Nat.reduceMul, Nat.reduceLeDiff, Nat.reduceSub, Nat.reduceDiv, Int.reduceLE, Int.reduceLT, Int.reduceNeg, Int.reduceAdd, Int.reduceSub, Int.reduceMul, Int.reduceToNat, Int.reducePow, Int.reduceEq, ne_eq, reduceIte, byteD, dstr, un1_str, iD, bD, f1, f2, f3, f4, f5, g1, g2, g3, g4, g5, List.length_nil, aEnd_of (fn := Tryd.f72) (rs := [.tmp 2]) rfl, *])); repeat' ((first | (refine fork_split (fun _h => ?_) (fun _h => ?_)) | (refine gfork_split (fun _h => ?_) (fun _h => ?_)) | (refine dfork_split (fun _h => ?_) (fun _h => ?_))) <;> (try (simp only [↓ru, rv, rl, ry, tyf, iM, bM, bsM, cond_true, cond_false, Nat.reduceLT, Nat.reduceBEq, Nat.reduceAdd, Nat.reduceEqDiff, Nat.reduceMul, Nat.reduceLeDiff, Nat.reduceSub, Nat.reduceDiv, Int.reduceLE, Int.reduceLT, Int.reduceNeg, Int.reduceAdd, Int.reduceSub, Int.reduceMul, Int.reduceToNat, Int.reducePow, Int.reduceEq, ne_eq, reduceIte, byteD, dstr, un1_str, iD, bD, f1, f2, f3, f4, f5, g1, g2, g3, g4, g5, List.length_nil, aEnd_of (fn := Tryd.f72) (rs := [.tmp 2]) rfl, *])))
    exact aFin_same (hs _ (by omega))
  | cons row rest =>
    obtain ⟨q1, q2⟩ := h4
    have hrow := q2 row (by simp)
    have hrest : RK rest := ⟨by simp at q1; omega, fun r hr => q2 r (by simp [hr])⟩
    have hll : rest.length + 1 ≤ 300000 := by simpa using q1
    have d0 : decide ((0 : Int) < ((rest.length + 1 : Nat) : Int)) = true := decide_eq_true (by omega)
    by_cases hr2 : row.length = 2
    · match row, hr2, hrow, stop, hsh with
      | [w, x], _, hrow, stop, hsh =>
        have hx := (hrow.2 x (by simp))
        by_cases hw : w = settingW
        · have dq : decide (w = [115, 101, 116, 116, 105, 110, 103]) = true := decide_eq_true hw
          have hstep : setsF ([w, x] :: rest) = ((parseS x).1 :: (setsF rest).1, (parseS x).2 && (setsF rest).2.1, (setsF rest).2.2) := by
            rw [setsF, if_pos ⟨rfl, hw⟩]; rfl
          have hP := SetParse x hx
          unfold parM at hP
          unfold Shut at hsh
          rw [hstep] at hsh
          clear stop hstep hw q1 q2 hrow
          generalize parseS x = ps at *
          obtain ⟨⟨pb, pp⟩, pk⟩ := ps
          simp only at hsh hP
          have hsh' : Shut ((acc ++ [⟨pb, pp⟩]) ++ (setsF rest).1 = (setsF L0).1 ∧ ((k && pk) && (setsF rest).2.1) = (setsF L0).2.1 ∧ (setsF rest).2.2 = (setsF L0).2.2) := by
            obtain ⟨h1, h2, h3⟩ := hsh
            exact ⟨by rw [← h1]; simp, by rw [← h2, Bool.and_assoc], h3⟩
          clear hsh
          cases bad0 <;> cases k <;> cases pk
          all_goals
            simp only [Bool.true_and, Bool.false_and, Bool.and_true, Bool.and_false, Bool.not_true, Bool.not_false, Bool.true_or, Bool.false_or, Bool.or_true, Bool.or_false] at hsh' ⊢
            (try (simp only [↓ru, rv, rl, ry, tyf, iM, bM, bsM, cond_true, cond_false, Nat.reduceLT, Nat.reduceBEq, Nat.reduceAdd, Nat.reduceEqDiff, Nat.reduceMul, Nat.reduceLeDiff, Nat.reduceSub, Nat.reduceDiv, Int.reduceLE, Int.reduceLT, Int.reduceNeg, Int.reduceAdd, Int.reduceSub, Int.reduceMul, Int.reduceToNat, Int.reducePow, Int.reduceEq, ne_eq, reduceIte, byteD, dstr, un1_str, iD, bD, f1, f2, f3, f4, f5, g1, g2, g3, g4, g5, d0, dq, List.length_cons, List.length_nil, aEnd_of (fn := Tryd.f72) (rs := [.tmp 2]) rfl, *])); repeat' ((first | (refine fork_split (fun _h => ?_) (fun _h => ?_)) | (refine gfork_split (fun _h => ?_) (fun _h => ?_)) | (refine dfork_split (fun _h => ?_) (fun _h => ?_)) | (refine acall1_pure hP rfl rfl ?_) | (refine dcall1_pure hP rfl rfl ?_)) <;> (try (simp only [↓ru, rv, rl, ry, tyf, iM, bM, bsM, cond_true, cond_false, Nat.reduceLT, Nat.reduceBEq, Nat.reduceAdd, Nat.reduceEqDiff, Nat.reduceMul, Nat.reduceLeDiff, Nat.reduceSub, Nat.reduceDiv, Int.reduceLE, Int.reduceLT, Int.reduceNeg, Int.reduceAdd, Int.reduceSub, Int.reduceMul, Int.reduceToNat, Int.reducePow, Int.reduceEq, ne_eq, reduceIte, byteD, dstr, un1_str, iD, bD, f1, f2, f3, f4, f5, g1, g2, g3, g4, g5, d0, dq, List.length_cons, List.length_nil, aEnd_of (fn := Tryd.f72) (rs := [.tmp 2]) rfl, *])))
            refine grd_intro (by simp [pure2]; omega) ?_
            (try simp only [↓ru, rv, rl, ry, tyf, iM, bM, bsM, cond_true, cond_false, Nat.reduceLT, Nat.reduceBEq, Nat.reduceAdd, Nat.reduceEqDiff, Nat.reduceMul, Nat.reduceLeDiff, Nat.reduceSub, Nat.reduceDiv, Int.reduceLE, Int.reduceLT, Int.reduceNeg, Int.reduceAdd, Int.reduceSub, Int.reduceMul, Int.reduceToNat, Int.reducePow, Int.reduceEq, ne_eq, reduceIte, byteD, dstr, un1_str, iD, bD, f1, f2, f3, f4, f5, g1, g2, g3, g4, g5])
            refine grd_intro (by omega) ?_
            unfold Shut at hsh'
            obtain ⟨h1, h2, h3⟩ := hsh'
            first
            | (refine loopL_drop (acc ++ [⟨pb, pp⟩], true, rest) ?_ ?_ ⟨h1, by simpa using h2, h3, hrest, by simp only [List.length_append, List.length_cons, List.length_nil] at h5 ⊢; omega⟩ (by omega) (by simp only [List.length_cons]; omega)
               · simp only [↓ru, rv, rl, ry, tyf, iM, bM, bsM, cond_true, cond_false, Nat.reduceLT, Nat.reduceBEq, Nat.reduceAdd, Nat.reduceEqDiff, Nat.reduceMul, Nat.reduceLeDiff, Nat.reduceSub, Nat.reduceDiv, Int.reduceLE, Int.reduceLT, Int.reduceNeg, Int.reduceAdd, Int.reduceSub, Int.reduceMul, Int.reduceToNat, Int.reducePow, Int.reduceEq, ne_eq, reduceIte, byteD, dstr, un1_str, iD, bD]
                 simp [pure2]
               · simp only [↓ru, rv, rl, ry, tyf, iM, bM, bsM, cond_true, cond_false, Nat.reduceLT, Nat.reduceBEq, Nat.reduceAdd, Nat.reduceEqDiff, Nat.reduceMul, Nat.reduceLeDiff, Nat.reduceSub, Nat.reduceDiv, Int.reduceLE, Int.reduceLT, Int.reduceNeg, Int.reduceAdd, Int.reduceSub, Int.reduceMul, Int.reduceToNat, Int.reducePow, Int.reduceEq, ne_eq, reduceIte, byteD, dstr, un1_str, iD, bD, f1, f2, f3, f4, f5, g1, g2, g3, g4, g5]
                 try simp [pure2, iD])
            | (refine loopL_drop (acc ++ [⟨pb, pp⟩], false, rest) ?_ ?_ ⟨h1, by simpa using h2, h3, hrest, by simp only [List.length_append, List.length_cons, List.length_nil] at h5 ⊢; omega⟩ (by omega) (by simp only [List.length_cons]; omega)
               · simp only [↓ru, rv, rl, ry, tyf, iM, bM, bsM, cond_true, cond_false, Nat.reduceLT, Nat.reduceBEq, Nat.reduceAdd, Nat.reduceEqDiff, Nat.reduceMul, Nat.reduceLeDiff, Nat.reduceSub, Nat.reduceDiv, Int.reduceLE, Int.reduceLT, Int.reduceNeg, Int.reduceAdd, Int.reduceSub, Int.reduceMul, Int.reduceToNat, Int.reducePow, Int.reduceEq, ne_eq, reduceIte, byteD, dstr, un1_str, iD, bD]
                 simp [pure2]
               · simp only [↓ru, rv, rl, ry, tyf, iM, bM, bsM, cond_true, cond_false, Nat.reduceLT, Nat.reduceBEq, Nat.reduceAdd, Nat.reduceEqDiff, Nat.reduceMul, Nat.reduceLeDiff, Nat.reduceSub, Nat.reduceDiv, Int.reduceLE, Int.reduceLT, Int.reduceNeg, Int.reduceAdd, Int.reduceSub, Int.reduceMul, Int.reduceToNat, Int.reducePow, Int.reduceEq, ne_eq, reduceIte, byteD, dstr, un1_str, iD, bD, f1, f2, f3, f4, f5, g1, g2, g3, g4, g5]
                 try simp [pure2, iD])
        · have dq : decide (w = [115, 101, 116, 116, 105, 110, 103]) = false := decide_eq_false hw
          have hs := stop (by rw [setsF, if_neg (fun h => hw h.2)])
          (try (simp only [↓ru, rv, rl, ry, tyf, iM, bM, bsM, cond_true, cond_false, Nat.reduceLT, Nat.reduceBEq, Nat.reduceAdd, Nat.reduceEqDiff, Nat.reduceMul, Nat.reduceLeDiff, Nat.reduceSub, Nat.reduceDiv, Int.reduceLE, Int.reduceLT, Int.reduceNeg, Int.reduceAdd, Int.reduceSub, Int.reduceMul, Int.reduceToNat, Int.reducePow, Int.reduceEq, ne_eq, reduceIte, byteD, dstr, un1_str, iD, bD, f1, f2, f3, f4, f5, g1, g2, g3, g4, g5, d0, dq, List.length_cons, List.length_nil, aEnd_of (fn := Tryd.f72) (rs := [.tmp 2]) rfl, *])); repeat' ((first | (refine fork_split (fun _h => ?_) (fun _h => ?_)) | (refine gfork_split (fun _h => ?_) (fun _h => ?_)) | (refine dfork_split (fun _h => ?_) (fun _h => ?_))) <;> (try (simp only [↓ru, rv, rl, ry, tyf, iM, bM, bsM, cond_true, cond_false, Nat.reduceLT, Nat.reduceBEq, Nat.reduceAdd, Nat.reduceEqDiff, Nat.reduceMul, Nat.reduceLeDiff, Nat.reduceSub, Nat.reduceDiv, Int.reduceLE, Int.reduceLT, Int.reduceNeg, Int.reduceAdd, Int.reduceSub, Int.reduceMul, Int.reduceToNat, Int.reducePow, Int.reduceEq, ne_eq, reduceIte, byteD, dstr, un1_str, iD, bD, f1, f2, f3, f4, f5, g1, g2, g3, g4, g5, d0, dq, List.length_cons, List.length_nil, aEnd_of (fn := Tryd.f72) (rs := [.tmp 2]) rfl, *])))
          exact aFin_same (hs _ (by omega))
    · have hs := stop (by rw [setsF, if_neg (fun h => hr2 h.1)])
      have d2 : decide ((row.length : Int) = 2) = false := decide_eq_false (by omega)
      (try (simp only [↓ru, rv, rl, ry, tyf, iM, bM, bsM, cond_true, cond_false, Nat.reduceLT, Nat.reduceBEq, Nat.reduceAdd, Nat.reduceEqDiff, Nat.reduceMul, Nat.reduceLeDiff, Nat.reduceSub, Nat.reduceDiv, Int.reduceLE, Int.reduceLT, Int.reduceNeg, Int.reduceAdd, Int.reduceSub, Int.reduceMul, Int.reduceToNat, Int.reducePow, Int.reduceEq, ne_eq, reduceIte, byteD, dstr, un1_str, iD, bD, f1, f2, f3, f4, f5, g1, g2, g3, g4, g5, d0, d2, List.length_cons, List.length_nil, aEnd_of (fn := Tryd.f72) (rs := [.tmp 2]) rfl, *])); repeat' ((first | (refine fork_split (fun _h => ?_) (fun _h => ?_)) | (refine gfork_split (fun _h => ?_) (fun _h => ?_)) | (refine dfork_split (fun _h => ?_) (fun _h => ?_))) <;> (try (simp only [↓ru, rv, rl, ry, tyf, iM, bM, bsM, cond_true, cond_false, Nat.reduceLT, Nat.reduceBEq, Nat.reduceAdd, Nat.reduceEqDiff, Nat.reduceMul, Nat.reduceLeDiff, Nat.reduceSub, Nat.reduceDiv, Int.reduceLE, Int.reduceLT, Int.reduceNeg, Int.reduceAdd, Int.reduceSub, Int.reduceMul, Int.reduceToNat, Int.reducePow, Int.reduceEq, ne_eq, reduceIte, byteD, dstr, un1_str, iD, bD, f1, f2, f3, f4, f5, g1, g2, g3, g4, g5, d0, d2, List.length_cons, List.length_nil, aEnd_of (fn := Tryd.f72) (rs := [.tmp 2]) rfl, *])))
      exact aFin_same (hs _ (by omega))
end Go.CF

import Derived.Test.YtmgfnlnomecbiaaDoorV2
set_option linter.all false
open Go.Proofs Go.Abs Go.Fa Go.BU Go.TX Go.TW
namespace Go.SC
set_option maxHeartbeats 4000000
set_option maxRecDepth 10000
-- rules: byteD, dstr, un1_str, iD, bD, sxv

def stepC (l : List Cr) (j : Nat) : Bool := match l[j]? with
  | none => true
  | some c => wi c.step 999999999 && wi c.keep 1000000 && (match j with | 0 => true | k + 1 => match l[k]? with | none => true | some d => decide (d.step < c.step))
def crsOK (l : List Cr) : Bool := (List.range l.length).all (stepC l)
def scrOK (s : Scr) : Bool := decide (s.att.length ≤ 4096) && !(s.loop && decide (s.att.length = 0)) && decide (s.crs.length ≤ 8) && crsOK s.crs && s.att.all attOK
def Sz (s : Scr) : Prop := s.att.length ≤ 9223372036854775807 ∧ s.crs.length ≤ 9223372036854775807
theorem crsOK_bad {l : List Cr} {j : Nat} (hj : j < l.length) (h : stepC l j = false) : crsOK l = false := by
  rw [crsOK, List.all_eq_false]; exact ⟨j, by simpa using hj, by simp [h]⟩
theorem rangeC {l : List Cr} {i : Nat} (h1 : (List.range i).all (stepC l) = true) (h2 : stepC l i = true) : (List.range (i + 1)).all (stepC l) = true := by
  rw [List.range_succ, List.all_append, h1]; simp [h2]
theorem VAtt1 (a : Att) : PFn Tryd.prog 53 [attM a] (bM (!attOK a)) := by
  (refine PFn.of (prs := []) Tryd.func53 rfl rfl mix (by kernel_rfl) rfl rfl ?_; simp only [Tryd.ntmps53, argUpd])
  (try (simp only [↓ru, rv, rl, ry, tyf, iM, bM, bsM, cond_true, cond_false, Nat.reduceLT, Nat.reduceBEq, Nat.reduceAdd, Nat.reduceEqDiff, Nat.reduceMul, Nat.reduceLeDiff, Nat.reduceSub, Nat.reduceDiv, Int.reduceLE, Int.reduceLT, Int.reduceNeg, Int.reduceAdd, Int.reduceSub, Int.reduceMul, Int.reduceToNat, Int.reducePow, Int.reduceEq, ne_eq, reduceIte, byteD, dstr, un1_str, iD, bD, sxv, pureEnd_of (fn := Tryd.f53) (rs := [.tmp 2]) (ts := [4]) rfl rfl, *])); repeat' ((first | (refine fork_split (fun _h => ?_) (fun _h => ?_)) | (refine gfork_split (fun _h => ?_) (fun _h => ?_)) | (refine dfork_split (fun _h => ?_) (fun _h => ?_)) | (refine acall1_pure (VAtt a) rfl rfl ?_) | (refine dcall1_pure (VAtt a) rfl rfl ?_)) <;> (try (simp only [↓ru, rv, rl, ry, tyf, iM, bM, bsM, cond_true, cond_false, Nat.reduceLT, Nat.reduceBEq, Nat.reduceAdd, Nat.reduceEqDiff, Nat.reduceMul, Nat.reduceLeDiff, Nat.reduceSub, Nat.reduceDiv, Int.reduceLE, Int.reduceLT, Int.reduceNeg, Int.reduceAdd, Int.reduceSub, Int.reduceMul, Int.reduceToNat, Int.reducePow, Int.reduceEq, ne_eq, reduceIte, byteD, dstr, un1_str, iD, bD, sxv, pureEnd_of (fn := Tryd.f53) (rs := [.tmp 2]) (ts := [4]) rfl rfl, *])))
def AttP (a : Att) : Prop := (0 ≤ a.lat ∧ a.lat ≤ 5000000) ∧ (0 ≤ a.val ∧ a.val ≤ 65535) ∧
  ((a.fault = 0 ∨ a.fault = 1 ∨ a.fault = 2 ∨ a.fault = 5) ∧ a.pos = 0 ∧ a.mask = 0 ∧ a.ticks = 0 ∨
   a.fault = 3 ∧ (0 ≤ a.pos ∧ a.pos ≤ 255) ∧ (0 ≤ a.mask ∧ a.mask ≤ 65535) ∧ a.mask % 256 ≠ 0 ∧ a.ticks = 0 ∨
   a.fault = 4 ∧ a.pos = 0 ∧ a.mask = 0 ∧ (0 ≤ a.ticks ∧ a.ticks ≤ 5000000) ∨
   a.fault = 6 ∧ (1 ≤ a.pos ∧ a.pos ≤ 255) ∧ a.mask = 0 ∧ (0 ≤ a.ticks ∧ a.ticks ≤ 5000000))
theorem attOK_iff {a : Att} : attOK a = true ↔ AttP a := by
  unfold attOK AttP
  rw [Bool.and_eq_true, Bool.and_eq_true, wi_iff, wi_iff]
  by_cases h3 : a.fault = 3
  · rw [if_pos h3]; simp only [Bool.and_eq_true, decide_eq_true_eq, wi_iff]; omega
  · rw [if_neg h3]
    by_cases h4 : a.fault = 4
    · rw [if_pos h4]; simp only [Bool.and_eq_true, decide_eq_true_eq, wi_iff]; omega
    · rw [if_neg h4]
      by_cases h6 : a.fault = 6
      · rw [if_pos h6]; simp only [Bool.and_eq_true, decide_eq_true_eq, wi_iff]; omega
      · rw [if_neg h6]; simp only [Bool.and_eq_true, Bool.or_eq_true, decide_eq_true_eq]; omega
theorem VAttR (a : Att) : PFn Tryd.prog 43 [attM a] (bM (attOK a)) := by
  obtain ⟨lat, fault, pos, mask, ticks, val⟩ := a
  have hk := @attOK_iff ⟨lat, fault, pos, mask, ticks, val⟩
  unfold AttP at hk
  simp only at hk
  generalize attOK ⟨lat, fault, pos, mask, ticks, val⟩ = k at hk
  have he : 0 ≤ mask → Int.tmod mask 256 = mask % 256 := fun h => Int.tmod_eq_emod_of_nonneg h
  (refine PFn.of (prs := []) Tryd.func43 rfl rfl mix (by kernel_rfl) rfl rfl ?_; simp only [Tryd.ntmps43, argUpd])
  (try (simp only [↓ru, rv, rl, ry, tyf, iM, bM, bsM, cond_true, cond_false, Nat.reduceLT, Nat.reduceBEq, Nat.reduceAdd, Nat.reduceEqDiff, Nat.reduceMul, Nat.reduceLeDiff, Nat.reduceSub, Nat.reduceDiv, Int.reduceLE, Int.reduceLT, Int.reduceNeg, Int.reduceAdd, Int.reduceSub, Int.reduceMul, Int.reduceToNat, Int.reducePow, Int.reduceEq, ne_eq, reduceIte, byteD, dstr, un1_str, iD, bD, sxv, pureEnd_of (fn := Tryd.f43) (rs := [.tmp 2]) (ts := [4]) rfl rfl, *])); repeat' ((first | (refine fork_split (fun _h => ?_) (fun _h => ?_)) | (refine gfork_split (fun _h => ?_) (fun _h => ?_)) | (refine dfork_split (fun _h => ?_) (fun _h => ?_))) <;> (try (simp only [↓ru, rv, rl, ry, tyf, iM, bM, bsM, cond_true, cond_false, Nat.reduceLT, Nat.reduceBEq, Nat.reduceAdd, Nat.reduceEqDiff, Nat.reduceMul, Nat.reduceLeDiff, Nat.reduceSub, Nat.reduceDiv, Int.reduceLE, Int.reduceLT, Int.reduceNeg, Int.reduceAdd, Int.reduceSub, Int.reduceMul, Int.reduceToNat, Int.reducePow, Int.reduceEq, ne_eq, reduceIte, byteD, dstr, un1_str, iD, bD, sxv, pureEnd_of (fn := Tryd.f43) (rs := [.tmp 2]) (ts := [4]) rfl rfl, *])))
  all_goals (refine congrArg (fun z => M.d (D.v (Value.bool z))) ?_)
  all_goals (try simp only [Bool.not_eq_true', Bool.not_eq_false', decide_eq_true_eq, decide_eq_false_iff_not] at *)
  all_goals (generalize Int.tmod mask 256 = tm at *)
  all_goals (rw [Bool.eq_iff_iff, hk]; simp only [decide_eq_true_eq, Bool.false_eq_true, false_iff]; omega)
theorem any_not {α : Type} (l : List α) (p : α → Bool) : (!l.any fun a => !p a) = l.all p := by
  induction l with
  | nil => rfl
  | cons x l ih => simp only [List.any_cons, List.all_cons, Bool.not_or, Bool.not_not, ih]
theorem scr_false {l : List Att} {lp : Bool} {c : List Cr} (h : 4096 < l.length ∨ (lp = true ∧ l.length = 0) ∨ 8 < c.length) : scrOK ⟨l, lp, c⟩ = false := by
  simp only [scrOK]
  rcases h with h | ⟨rfl, h⟩ | h
  · rw [decide_eq_false (show ¬ l.length ≤ 4096 by omega)]; simp
  · rw [decide_eq_true h]; simp
  · rw [decide_eq_false (show ¬ c.length ≤ 8 by omega)]; simp
theorem scr_true {l : List Att} {lp : Bool} {c : List Cr} (h1 : l.length ≤ 4096) (h2 : c.length ≤ 8) (h : lp = false ∨ l.length ≠ 0) : scrOK ⟨l, lp, c⟩ = (crsOK c && l.all attOK) := by
  simp only [scrOK]
  rw [decide_eq_true h1, decide_eq_true h2]
  rcases h with rfl | h
  · simp
  · rw [decide_eq_false h]; simp
theorem Valid (s : Scr) (hs : Sz s) : PFn Tryd.prog 28 [scrM s] (bM (scrOK s)) := by
  obtain ⟨l, lp, c⟩ := s
  obtain ⟨h1, h2⟩ := hs
  simp only at h1 h2
  (refine PFn.of (prs := [(6, [])]) Tryd.func28 rfl rfl mix (by kernel_rfl) rfl rfl ?_; simp only [Tryd.ntmps28, argUpd])
  cases lp
  all_goals (try (simp only [↓ru, rv, rl, ry, tyf, iM, bM, bsM, cond_true, cond_false, Nat.reduceLT, Nat.reduceBEq, Nat.reduceAdd, Nat.reduceEqDiff, Nat.reduceMul, Nat.reduceLeDiff, Nat.reduceSub, Nat.reduceDiv, Int.reduceLE, Int.reduceLT, Int.reduceNeg, Int.reduceAdd, Int.reduceSub, Int.reduceMul, Int.reduceToNat, Int.reducePow, Int.reduceEq, ne_eq, reduceIte, byteD, dstr, un1_str, iD, bD, sxv, pureEnd_of (fn := Tryd.f28) (rs := [.tmp 2]) (ts := [4]) rfl rfl, *])); repeat' ((first | (refine fork_split (fun _h => ?_) (fun _h => ?_)) | (refine gfork_split (fun _h => ?_) (fun _h => ?_)) | (refine dfork_split (fun _h => ?_) (fun _h => ?_))) <;> (try (simp only [↓ru, rv, rl, ry, tyf, iM, bM, bsM, cond_true, cond_false, Nat.reduceLT, Nat.reduceBEq, Nat.reduceAdd, Nat.reduceEqDiff, Nat.reduceMul, Nat.reduceLeDiff, Nat.reduceSub, Nat.reduceDiv, Int.reduceLE, Int.reduceLT, Int.reduceNeg, Int.reduceAdd, Int.reduceSub, Int.reduceMul, Int.reduceToNat, Int.reducePow, Int.reduceEq, ne_eq, reduceIte, byteD, dstr, un1_str, iD, bD, sxv, pureEnd_of (fn := Tryd.f28) (rs := [.tmp 2]) (ts := [4]) rfl rfl, *])))
  all_goals (try simp only [Bool.not_eq_true', Bool.not_eq_false', decide_eq_true_eq, decide_eq_false_iff_not] at *)
  all_goals first
    | (rw [scr_false (.inl (by omega))]; done)
    | (rw [scr_false (.inr (.inr (by omega)))]; done)
    | (rw [scr_false (.inr (.inl ⟨rfl, by omega⟩))]; done)
    | skip
  all_goals
    rw [scr_true (by omega) (by omega) (by first | exact .inl rfl | (right; omega))]
    have hc8 : c.length ≤ 8 := by omega
    refine aloop_lv (fun i : Nat => [(1, .ptr 0 0), (26, crsM c), (27, iM c.length), (28, iM i)]) (fun _ => [(0, .st [attsM l, _, crsM c])]) (fun i => i ≤ c.length ∧ (List.range i).all (stepC c) = true) (fun i => c.length - i) 0 0 ?_ rfl ⟨by omega, by simp⟩ (by omega) ?_
    · simp only [↓ru, rv, rl, ry, tyf, iM, bM, bsM, cond_true, cond_false, Nat.reduceLT, Nat.reduceBEq, Nat.reduceAdd, Nat.reduceEqDiff, Nat.reduceMul, Nat.reduceLeDiff, Nat.reduceSub, Nat.reduceDiv, Int.reduceLE, Int.reduceLT, Int.reduceNeg, Int.reduceAdd, Int.reduceSub, Int.reduceMul, Int.reduceToNat, Int.reducePow, Int.reduceEq, ne_eq, reduceIte, byteD, dstr, un1_str, iD, bD, sxv]
    intro i e0 n ⟨hi, ha⟩
    simp only [↓ru, rv, rl, ry, tyf, iM, bM, bsM, cond_true, cond_false, Nat.reduceLT, Nat.reduceBEq, Nat.reduceAdd, Nat.reduceEqDiff, Nat.reduceMul, Nat.reduceLeDiff, Nat.reduceSub, Nat.reduceDiv, Int.reduceLE, Int.reduceLT, Int.reduceNeg, Int.reduceAdd, Int.reduceSub, Int.reduceMul, Int.reduceToNat, Int.reducePow, Int.reduceEq, ne_eq, reduceIte, byteD, dstr, un1_str, iD, bD, sxv]
    refine fork_split (fun h => ?_) (fun h => ?_)
    · have h' := of_decide_eq_true h
      obtain ⟨y, hy⟩ := get_of_lt (l := c) (i := i) (by omega)
      rcases i with _ | k
      · (try (simp only [↓ru, rv, rl, ry, tyf, iM, bM, bsM, cond_true, cond_false, Nat.reduceLT, Nat.reduceBEq, Nat.reduceAdd, Nat.reduceEqDiff, Nat.reduceMul, Nat.reduceLeDiff, Nat.reduceSub, Nat.reduceDiv, Int.reduceLE, Int.reduceLT, Int.reduceNeg, Int.reduceAdd, Int.reduceSub, Int.reduceMul, Int.reduceToNat, Int.reducePow, Int.reduceEq, ne_eq, reduceIte, byteD, dstr, un1_str, iD, bD, sxv, hy, pureEnd_of (fn := Tryd.f28) (rs := [.tmp 2]) (ts := [4]) rfl rfl, *])); repeat' ((first | (refine fork_split (fun _h => ?_) (fun _h => ?_)) | (refine gfork_split (fun _h => ?_) (fun _h => ?_)) | (refine dfork_split (fun _h => ?_) (fun _h => ?_)) | (refine acall1_pure (Within _ _) rfl rfl ?_) | (refine dcall1_pure (Within _ _) rfl rfl ?_)) <;> (try (simp only [↓ru, rv, rl, ry, tyf, iM, bM, bsM, cond_true, cond_false, Nat.reduceLT, Nat.reduceBEq, Nat.reduceAdd, Nat.reduceEqDiff, Nat.reduceMul, Nat.reduceLeDiff, Nat.reduceSub, Nat.reduceDiv, Int.reduceLE, Int.reduceLT, Int.reduceNeg, Int.reduceAdd, Int.reduceSub, Int.reduceMul, Int.reduceToNat, Int.reducePow, Int.reduceEq, ne_eq, reduceIte, byteD, dstr, un1_str, iD, bD, sxv, hy, pureEnd_of (fn := Tryd.f28) (rs := [.tmp 2]) (ts := [4]) rfl rfl, *])))
        all_goals first
          | (rw [crsOK_bad (j := 0) (by omega) (by simp_all [stepC]), Bool.false_and]; done)
          | skip
        simp (disch := omega) only [wrap_i64, wrap_u8, wrap_u16, wrap_u64]
        refine loopL_drop (0 + 1) ?_ ?_ ⟨by omega, rangeC ha (by simp_all [stepC])⟩ (by omega) (by omega)
        · simp only [↓ru, rv, rl, ry, tyf, iM, bM, bsM, cond_true, cond_false, Nat.reduceLT, Nat.reduceBEq, Nat.reduceAdd, Nat.reduceEqDiff, Nat.reduceMul, Nat.reduceLeDiff, Nat.reduceSub, Nat.reduceDiv, Int.reduceLE, Int.reduceLT, Int.reduceNeg, Int.reduceAdd, Int.reduceSub, Int.reduceMul, Int.reduceToNat, Int.reducePow, Int.reduceEq, ne_eq, reduceIte, byteD, dstr, un1_str, iD, bD, sxv]
        · simp only [↓ru, rv, rl, ry, tyf, iM, bM, bsM, cond_true, cond_false, Nat.reduceLT, Nat.reduceBEq, Nat.reduceAdd, Nat.reduceEqDiff, Nat.reduceMul, Nat.reduceLeDiff, Nat.reduceSub, Nat.reduceDiv, Int.reduceLE, Int.reduceLT, Int.reduceNeg, Int.reduceAdd, Int.reduceSub, Int.reduceMul, Int.reduceToNat, Int.reducePow, Int.reduceEq, ne_eq, reduceIte, byteD, dstr, un1_str, iD, bD, sxv]
      · obtain ⟨x, hx⟩ := get_of_lt (l := c) (i := k) (by omega)
        have d1 : decide ((0 : Int) < ((k + 1 : Nat) : Int)) = true := by simp
        have e1 : (IntKind.i64.wrap ((k : Nat) : Int)).toNat = k := by rw [wrap_i64 (by omega) (by omega)]; omega
        have e2 : 0 ≤ IntKind.i64.wrap ((k : Nat) : Int) := by rw [wrap_i64 (by omega) (by omega)]; omega
        (try (simp only [↓ru, rv, rl, ry, tyf, iM, bM, bsM, cond_true, cond_false, Nat.reduceLT, Nat.reduceBEq, Nat.reduceAdd, Nat.reduceEqDiff, Nat.reduceMul, Nat.reduceLeDiff, Nat.reduceSub, Nat.reduceDiv, Int.reduceLE, Int.reduceLT, Int.reduceNeg, Int.reduceAdd, Int.reduceSub, Int.reduceMul, Int.reduceToNat, Int.reducePow, Int.reduceEq, ne_eq, reduceIte, byteD, dstr, un1_str, iD, bD, sxv, hy, hx, d1, e1, pureEnd_of (fn := Tryd.f28) (rs := [.tmp 2]) (ts := [4]) rfl rfl, *])); repeat' ((first | (refine fork_split (fun _h => ?_) (fun _h => ?_)) | (refine gfork_split (fun _h => ?_) (fun _h => ?_)) | (refine dfork_split (fun _h => ?_) (fun _h => ?_)) | (refine acall1_pure (Within _ _) rfl rfl ?_) | (refine dcall1_pure (Within _ _) rfl rfl ?_)) <;> (try (simp only [↓ru, rv, rl, ry, tyf, iM, bM, bsM, cond_true, cond_false, Nat.reduceLT, Nat.reduceBEq, Nat.reduceAdd, Nat.reduceEqDiff, Nat.reduceMul, Nat.reduceLeDiff, Nat.reduceSub, Nat.reduceDiv, Int.reduceLE, Int.reduceLT, Int.reduceNeg, Int.reduceAdd, Int.reduceSub, Int.reduceMul, Int.reduceToNat, Int.reducePow, Int.reduceEq, ne_eq, reduceIte, byteD, dstr, un1_str, iD, bD, sxv, hy, hx, d1, e1, pureEnd_of (fn := Tryd.f28) (rs := [.tmp 2]) (ts := [4]) rfl rfl, *])))
        all_goals first
          | (rw [crsOK_bad (j := k + 1) (by omega) (by simp_all [stepC]), Bool.false_and]; done)
          | skip
        (try simp only [Bool.not_eq_true', Bool.not_eq_false', decide_eq_true_eq, decide_eq_false_iff_not] at *)
        simp (disch := omega) only [wrap_i64, wrap_u8, wrap_u16, wrap_u64]
        refine loopL_drop (k + 1 + 1) ?_ ?_ ⟨by omega, rangeC ha (by simp_all [stepC])⟩ (by omega) (by omega)
        · simp only [↓ru, rv, rl, ry, tyf, iM, bM, bsM, cond_true, cond_false, Nat.reduceLT, Nat.reduceBEq, Nat.reduceAdd, Nat.reduceEqDiff, Nat.reduceMul, Nat.reduceLeDiff, Nat.reduceSub, Nat.reduceDiv, Int.reduceLE, Int.reduceLT, Int.reduceNeg, Int.reduceAdd, Int.reduceSub, Int.reduceMul, Int.reduceToNat, Int.reducePow, Int.reduceEq, ne_eq, reduceIte, byteD, dstr, un1_str, iD, bD, sxv]
          simp
        · simp only [↓ru, rv, rl, ry, tyf, iM, bM, bsM, cond_true, cond_false, Nat.reduceLT, Nat.reduceBEq, Nat.reduceAdd, Nat.reduceEqDiff, Nat.reduceMul, Nat.reduceLeDiff, Nat.reduceSub, Nat.reduceDiv, Int.reduceLE, Int.reduceLT, Int.reduceNeg, Int.reduceAdd, Int.reduceSub, Int.reduceMul, Int.reduceToNat, Int.reducePow, Int.reduceEq, ne_eq, reduceIte, byteD, dstr, un1_str, iD, bD, sxv]
    · have h' := of_decide_eq_false h
      have : i = c.length := by omega
      subst this
      have hcr : crsOK c = true := ha
      simp only [↓ru, rv, rl, ry, tyf, iM, bM, bsM, cond_true, cond_false, Nat.reduceLT, Nat.reduceBEq, Nat.reduceAdd, Nat.reduceEqDiff, Nat.reduceMul, Nat.reduceLeDiff, Nat.reduceSub, Nat.reduceDiv, Int.reduceLE, Int.reduceLT, Int.reduceNeg, Int.reduceAdd, Int.reduceSub, Int.reduceMul, Int.reduceToNat, Int.reducePow, Int.reduceEq, ne_eq, reduceIte, byteD, dstr, un1_str, iD, bD, sxv]
      refine acall1_inl (HasAtt l h1 53 [] (fun a => !attOK a) (fun a => Keeps.pure (VAtt1 a) rfl) fun n' hn => ?_)
      simp only [↓ru, rv, rl, ry, tyf, iM, bM, bsM, cond_true, cond_false, Nat.reduceLT, Nat.reduceBEq, Nat.reduceAdd, Nat.reduceEqDiff, Nat.reduceMul, Nat.reduceLeDiff, Nat.reduceSub, Nat.reduceDiv, Int.reduceLE, Int.reduceLT, Int.reduceNeg, Int.reduceAdd, Int.reduceSub, Int.reduceMul, Int.reduceToNat, Int.reducePow, Int.reduceEq, ne_eq, reduceIte, byteD, dstr, un1_str, iD, bD, sxv, any_not, hcr, Bool.true_and, pureEnd_of (fn := Tryd.f28) (rs := [.tmp 2]) (ts := [4]) rfl rfl]
end Go.SC

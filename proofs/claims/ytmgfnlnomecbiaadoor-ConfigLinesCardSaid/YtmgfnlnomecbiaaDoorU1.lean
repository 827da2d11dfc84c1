import Derived.Test.YtmgfnlnomecbiaaDoorT9
set_option linter.all false
open Go.Proofs Go.Abs Go.Fa Go.BU Go.TX
/- Serial settings: the library's functions that they call. -/
namespace Go.TW
set_option maxHeartbeats 4000000
set_option maxRecDepth 10000
-- rules: byteD, dstr, un1_str, iD

theorem SIndex (l : List Int) (x : Int) (hl : l.length ≤ 9223372036854775807) : PFn Tryd.prog 117 [intsM l, iM x] (iM (match l.idxOf? x with | some k => (k : Int) | none => -1)) := by
  (refine PFn.of (prs := []) Tryd.func117 rfl rfl mix (by kernel_rfl) rfl rfl ?_; simp only [Tryd.ntmps117, argUpd])
  simp only [↓ru, rv, rl, ry, tyf, iM, bM, bsM, cond_true, cond_false, Nat.reduceLT, Nat.reduceBEq, Nat.reduceAdd, Nat.reduceEqDiff, Nat.reduceMul, Nat.reduceLeDiff, Nat.reduceSub, Nat.reduceDiv, Int.reduceLE, Int.reduceLT, Int.reduceNeg, Int.reduceAdd, Int.reduceSub, Int.reduceMul, Int.reduceToNat, Int.reducePow, Int.reduceEq, ne_eq, reduceIte, byteD, dstr, un1_str, iD]
  refine aloop_lv (fun i : Nat => [(0, intsM l), (1, iM x), (7, iM l.length), (8, iM i)]) (fun _ => []) (fun i => i ≤ l.length ∧ x ∉ l.take i) (fun i => l.length - i) 0 0 ?_ rfl ⟨by omega, by simp⟩ (by omega) ?_
  · simp only [↓ru, rv, rl, ry, tyf, iM, bM, bsM, cond_true, cond_false, Nat.reduceLT, Nat.reduceBEq, Nat.reduceAdd, Nat.reduceEqDiff, Nat.reduceMul, Nat.reduceLeDiff, Nat.reduceSub, Nat.reduceDiv, Int.reduceLE, Int.reduceLT, Int.reduceNeg, Int.reduceAdd, Int.reduceSub, Int.reduceMul, Int.reduceToNat, Int.reducePow, Int.reduceEq, ne_eq, reduceIte, byteD, dstr, un1_str, iD]
  intro i e0 n ⟨hi, hx⟩
  simp only [↓ru, rv, rl, ry, tyf, iM, bM, bsM, cond_true, cond_false, Nat.reduceLT, Nat.reduceBEq, Nat.reduceAdd, Nat.reduceEqDiff, Nat.reduceMul, Nat.reduceLeDiff, Nat.reduceSub, Nat.reduceDiv, Int.reduceLE, Int.reduceLT, Int.reduceNeg, Int.reduceAdd, Int.reduceSub, Int.reduceMul, Int.reduceToNat, Int.reducePow, Int.reduceEq, ne_eq, reduceIte, byteD, dstr, un1_str, iD]
  refine fork_split (fun h => ?_) (fun h => ?_)
  · have h' := of_decide_eq_true h
    obtain ⟨y, hy⟩ := get_of_lt (l := l) (i := i) (by omega)
    simp only [↓ru, rv, rl, ry, tyf, iM, bM, bsM, cond_true, cond_false, Nat.reduceLT, Nat.reduceBEq, Nat.reduceAdd, Nat.reduceEqDiff, Nat.reduceMul, Nat.reduceLeDiff, Nat.reduceSub, Nat.reduceDiv, Int.reduceLE, Int.reduceLT, Int.reduceNeg, Int.reduceAdd, Int.reduceSub, Int.reduceMul, Int.reduceToNat, Int.reducePow, Int.reduceEq, ne_eq, reduceIte, byteD, dstr, un1_str, iD, hy]
    refine fork_split (fun h2 => ?_) (fun h2 => ?_)
    · have hxy : x = y := by simpa using h2
      subst hxy
      simp only [↓ru, rv, rl, ry, tyf, iM, bM, bsM, cond_true, cond_false, Nat.reduceLT, Nat.reduceBEq, Nat.reduceAdd, Nat.reduceEqDiff, Nat.reduceMul, Nat.reduceLeDiff, Nat.reduceSub, Nat.reduceDiv, Int.reduceLE, Int.reduceLT, Int.reduceNeg, Int.reduceAdd, Int.reduceSub, Int.reduceMul, Int.reduceToNat, Int.reducePow, Int.reduceEq, ne_eq, reduceIte, byteD, dstr, un1_str, iD, pureEnd_of (fn := Tryd.f117) (rs := [.tmp 4]) (ts := [3]) rfl rfl]
      have : l.idxOf? x = some i := by
        rw [List.idxOf?, List.findIdx?_eq_some_iff_getElem]
        have hil : i < l.length := by omega
        have hgi : l[i] = x := by rw [List.getElem?_eq_getElem hil] at hy; simpa using hy
        refine ⟨hil, by simp [hgi], fun j hj => ?_⟩
        have : l[j] ≠ x := fun e => hx (List.mem_take_iff_getElem.2 ⟨j, by omega, e⟩)
        simpa using this
      rw [this]
    · have hxy : x ≠ y := by simpa using h2
      simp only [↓ru, rv, rl, ry, tyf, iM, bM, bsM, cond_true, cond_false, Nat.reduceLT, Nat.reduceBEq, Nat.reduceAdd, Nat.reduceEqDiff, Nat.reduceMul, Nat.reduceLeDiff, Nat.reduceSub, Nat.reduceDiv, Int.reduceLE, Int.reduceLT, Int.reduceNeg, Int.reduceAdd, Int.reduceSub, Int.reduceMul, Int.reduceToNat, Int.reducePow, Int.reduceEq, ne_eq, reduceIte, byteD, dstr, un1_str, iD]
      simp (disch := omega) only [wrap_i64, wrap_u8, wrap_u16, wrap_u64]
      refine loopL_next (i + 1) ?_ rfl ⟨by omega, ?_⟩ (by omega) (by omega)
      · simp only [↓ru, rv, rl, ry, tyf, iM, bM, bsM, cond_true, cond_false, Nat.reduceLT, Nat.reduceBEq, Nat.reduceAdd, Nat.reduceEqDiff, Nat.reduceMul, Nat.reduceLeDiff, Nat.reduceSub, Nat.reduceDiv, Int.reduceLE, Int.reduceLT, Int.reduceNeg, Int.reduceAdd, Int.reduceSub, Int.reduceMul, Int.reduceToNat, Int.reducePow, Int.reduceEq, ne_eq, reduceIte, byteD, dstr, un1_str, iD]
        simp
      · rw [List.take_add_one, hy]
        simp [hx, hxy]
  · have h' := of_decide_eq_false h
    have : i = l.length := by omega
    subst this
    rw [List.take_length] at hx
    simp only [↓ru, rv, rl, ry, tyf, iM, bM, bsM, cond_true, cond_false, Nat.reduceLT, Nat.reduceBEq, Nat.reduceAdd, Nat.reduceEqDiff, Nat.reduceMul, Nat.reduceLeDiff, Nat.reduceSub, Nat.reduceDiv, Int.reduceLE, Int.reduceLT, Int.reduceNeg, Int.reduceAdd, Int.reduceSub, Int.reduceMul, Int.reduceToNat, Int.reducePow, Int.reduceEq, ne_eq, reduceIte, byteD, dstr, un1_str, iD, pureEnd_of (fn := Tryd.f117) (rs := [.tmp 4]) (ts := [3]) rfl rfl]
    have : l.idxOf? x = none := by
      rw [List.idxOf?_eq_none_iff]; exact hx
    rw [this]
theorem SContains (l : List Int) (x : Int) (hl : l.length ≤ 9223372036854775807) : PFn Tryd.prog 105 [intsM l, iM x] (bM (l.contains x)) := by
  (refine PFn.of (prs := []) Tryd.func105 rfl rfl mix (by kernel_rfl) rfl rfl ?_; simp only [Tryd.ntmps105, argUpd])
  (try (simp only [↓ru, rv, rl, ry, tyf, iM, bM, bsM, cond_true, cond_false, Nat.reduceLT, Nat.reduceBEq, Nat.reduceAdd, Nat.reduceEqDiff, Nat.reduceMul, Nat.reduceLeDiff, Nat.reduceSub, Nat.reduceDiv, Int.reduceLE, Int.reduceLT, Int.reduceNeg, Int.reduceAdd, Int.reduceSub, Int.reduceMul, Int.reduceToNat, Int.reducePow, Int.reduceEq, ne_eq, reduceIte, byteD, dstr, un1_str, iD, pureEnd_of (fn := Tryd.f105) (rs := [.tmp 4]) (ts := [4]) rfl rfl, *])); repeat' ((first | (refine fork_split (fun _h => ?_) (fun _h => ?_)) | (refine gfork_split (fun _h => ?_) (fun _h => ?_)) | (refine dfork_split (fun _h => ?_) (fun _h => ?_)) | (refine acall1_pure (SIndex l x hl) rfl rfl ?_) | (refine dcall1_pure (SIndex l x hl) rfl rfl ?_)) <;> (try (simp only [↓ru, rv, rl, ry, tyf, iM, bM, bsM, cond_true, cond_false, Nat.reduceLT, Nat.reduceBEq, Nat.reduceAdd, Nat.reduceEqDiff, Nat.reduceMul, Nat.reduceLeDiff, Nat.reduceSub, Nat.reduceDiv, Int.reduceLE, Int.reduceLT, Int.reduceNeg, Int.reduceAdd, Int.reduceSub, Int.reduceMul, Int.reduceToNat, Int.reducePow, Int.reduceEq, ne_eq, reduceIte, byteD, dstr, un1_str, iD, pureEnd_of (fn := Tryd.f105) (rs := [.tmp 4]) (ts := [4]) rfl rfl, *])))
  cases h : l.idxOf? x with
  | none =>
    rw [List.idxOf?_eq_none_iff] at h
    have : l.contains x = false := by simpa using h
    rw [this]; rfl
  | some k =>
    have hm : x ∈ l := by
      apply Classical.byContradiction
      intro hn
      rw [List.idxOf?_eq_none_iff.2 hn] at h; cases h
    have : l.contains x = true := by simpa using hm
    rw [this]
    simp
theorem NaN (x : Int) : PFn Tryd.prog 118 [iM x] (bM false) := by
  (refine PFn.of (prs := []) Tryd.func118 rfl rfl mix (by kernel_rfl) rfl rfl ?_; simp only [Tryd.ntmps118, argUpd])
  (try (simp only [↓ru, rv, rl, ry, tyf, iM, bM, bsM, cond_true, cond_false, Nat.reduceLT, Nat.reduceBEq, Nat.reduceAdd, Nat.reduceEqDiff, Nat.reduceMul, Nat.reduceLeDiff, Nat.reduceSub, Nat.reduceDiv, Int.reduceLE, Int.reduceLT, Int.reduceNeg, Int.reduceAdd, Int.reduceSub, Int.reduceMul, Int.reduceToNat, Int.reducePow, Int.reduceEq, ne_eq, reduceIte, byteD, dstr, un1_str, iD, pureEnd_of (fn := Tryd.f118) (rs := [.tmp 2]) (ts := [4]) rfl rfl, *])); repeat' ((first | (refine fork_split (fun _h => ?_) (fun _h => ?_)) | (refine gfork_split (fun _h => ?_) (fun _h => ?_)) | (refine dfork_split (fun _h => ?_) (fun _h => ?_))) <;> (try (simp only [↓ru, rv, rl, ry, tyf, iM, bM, bsM, cond_true, cond_false, Nat.reduceLT, Nat.reduceBEq, Nat.reduceAdd, Nat.reduceEqDiff, Nat.reduceMul, Nat.reduceLeDiff, Nat.reduceSub, Nat.reduceDiv, Int.reduceLE, Int.reduceLT, Int.reduceNeg, Int.reduceAdd, Int.reduceSub, Int.reduceMul, Int.reduceToNat, Int.reducePow, Int.reduceEq, ne_eq, reduceIte, byteD, dstr, un1_str, iD, pureEnd_of (fn := Tryd.f118) (rs := [.tmp 2]) (ts := [4]) rfl rfl, *])))
def cmpI (a b : Int) : Int := if a < b then -1 else if b < a then 1 else 0
theorem Compare (a b : Int) : PFn Tryd.prog 108 [iM a, iM b] (iM (cmpI a b)) := by
  (refine PFn.of (prs := []) Tryd.func108 rfl rfl mix (by kernel_rfl) rfl rfl ?_; simp only [Tryd.ntmps108, argUpd])
  (try (simp only [↓ru, rv, rl, ry, tyf, iM, bM, bsM, cond_true, cond_false, Nat.reduceLT, Nat.reduceBEq, Nat.reduceAdd, Nat.reduceEqDiff, Nat.reduceMul, Nat.reduceLeDiff, Nat.reduceSub, Nat.reduceDiv, Int.reduceLE, Int.reduceLT, Int.reduceNeg, Int.reduceAdd, Int.reduceSub, Int.reduceMul, Int.reduceToNat, Int.reducePow, Int.reduceEq, ne_eq, reduceIte, byteD, dstr, un1_str, iD, pureEnd_of (fn := Tryd.f108) (rs := [.tmp 4]) (ts := [3]) rfl rfl, *])); repeat' ((first | (refine fork_split (fun _h => ?_) (fun _h => ?_)) | (refine gfork_split (fun _h => ?_) (fun _h => ?_)) | (refine dfork_split (fun _h => ?_) (fun _h => ?_)) | (refine acall1_pure (NaN a) rfl rfl ?_) | (refine dcall1_pure (NaN a) rfl rfl ?_) | (refine acall1_pure (NaN b) rfl rfl ?_) | (refine dcall1_pure (NaN b) rfl rfl ?_)) <;> (try (simp only [↓ru, rv, rl, ry, tyf, iM, bM, bsM, cond_true, cond_false, Nat.reduceLT, Nat.reduceBEq, Nat.reduceAdd, Nat.reduceEqDiff, Nat.reduceMul, Nat.reduceLeDiff, Nat.reduceSub, Nat.reduceDiv, Int.reduceLE, Int.reduceLT, Int.reduceNeg, Int.reduceAdd, Int.reduceSub, Int.reduceMul, Int.reduceToNat, Int.reducePow, Int.reduceEq, ne_eq, reduceIte, byteD, dstr, un1_str, iD, pureEnd_of (fn := Tryd.f108) (rs := [.tmp 4]) (ts := [3]) rfl rfl, *])))
  all_goals (try simp only [Bool.not_eq_true', Bool.not_eq_false', decide_eq_true_eq, decide_eq_false_iff_not] at *)
  all_goals (refine congrArg (fun z => M.d (D.v (Value.int .i64 z))) ?_; unfold cmpI; (repeat' split) <;> omega)
def orI : List Int → Int
  | [] => 0
  | x :: l => if x = 0 then orI l else x
theorem Or (l : List Int) (hl : l.length ≤ 9223372036854775807) : PFn Tryd.prog 107 [intsM l] (iM (orI l)) := by
  (refine PFn.of (prs := []) Tryd.func107 rfl rfl mix (by kernel_rfl) rfl rfl ?_; simp only [Tryd.ntmps107, argUpd])
  simp only [↓ru, rv, rl, ry, tyf, iM, bM, bsM, cond_true, cond_false, Nat.reduceLT, Nat.reduceBEq, Nat.reduceAdd, Nat.reduceEqDiff, Nat.reduceMul, Nat.reduceLeDiff, Nat.reduceSub, Nat.reduceDiv, Int.reduceLE, Int.reduceLT, Int.reduceNeg, Int.reduceAdd, Int.reduceSub, Int.reduceMul, Int.reduceToNat, Int.reducePow, Int.reduceEq, ne_eq, reduceIte, byteD, dstr, un1_str, iD]
  refine aloop_lv (fun i : Nat => [(3, iM 0), (6, intsM l), (7, iM l.length), (8, iM i)]) (fun _ => []) (fun i => i ≤ l.length ∧ orI (l.drop i) = orI l) (fun i => l.length - i) 0 0 ?_ rfl ⟨by omega, by simp⟩ (by omega) ?_
  · simp only [↓ru, rv, rl, ry, tyf, iM, bM, bsM, cond_true, cond_false, Nat.reduceLT, Nat.reduceBEq, Nat.reduceAdd, Nat.reduceEqDiff, Nat.reduceMul, Nat.reduceLeDiff, Nat.reduceSub, Nat.reduceDiv, Int.reduceLE, Int.reduceLT, Int.reduceNeg, Int.reduceAdd, Int.reduceSub, Int.reduceMul, Int.reduceToNat, Int.reducePow, Int.reduceEq, ne_eq, reduceIte, byteD, dstr, un1_str, iD]
  intro i e0 n ⟨hi, hx⟩
  simp only [↓ru, rv, rl, ry, tyf, iM, bM, bsM, cond_true, cond_false, Nat.reduceLT, Nat.reduceBEq, Nat.reduceAdd, Nat.reduceEqDiff, Nat.reduceMul, Nat.reduceLeDiff, Nat.reduceSub, Nat.reduceDiv, Int.reduceLE, Int.reduceLT, Int.reduceNeg, Int.reduceAdd, Int.reduceSub, Int.reduceMul, Int.reduceToNat, Int.reducePow, Int.reduceEq, ne_eq, reduceIte, byteD, dstr, un1_str, iD]
  refine fork_split (fun h => ?_) (fun h => ?_)
  · have h' := of_decide_eq_true h
    obtain ⟨y, hy⟩ := get_of_lt (l := l) (i := i) (by omega)
    have hd : l.drop i = y :: l.drop (i + 1) := by
      obtain ⟨hlt, rfl⟩ := List.getElem?_eq_some_iff.1 hy
      exact List.drop_eq_getElem_cons hlt
    rw [hd, orI] at hx
    simp only [↓ru, rv, rl, ry, tyf, iM, bM, bsM, cond_true, cond_false, Nat.reduceLT, Nat.reduceBEq, Nat.reduceAdd, Nat.reduceEqDiff, Nat.reduceMul, Nat.reduceLeDiff, Nat.reduceSub, Nat.reduceDiv, Int.reduceLE, Int.reduceLT, Int.reduceNeg, Int.reduceAdd, Int.reduceSub, Int.reduceMul, Int.reduceToNat, Int.reducePow, Int.reduceEq, ne_eq, reduceIte, byteD, dstr, un1_str, iD, hy]
    refine fork_split (fun h2 => ?_) (fun h2 => ?_)
    · have h2' : y ≠ 0 := by simpa using h2
      rw [if_neg h2'] at hx
      simp only [↓ru, rv, rl, ry, tyf, iM, bM, bsM, cond_true, cond_false, Nat.reduceLT, Nat.reduceBEq, Nat.reduceAdd, Nat.reduceEqDiff, Nat.reduceMul, Nat.reduceLeDiff, Nat.reduceSub, Nat.reduceDiv, Int.reduceLE, Int.reduceLT, Int.reduceNeg, Int.reduceAdd, Int.reduceSub, Int.reduceMul, Int.reduceToNat, Int.reducePow, Int.reduceEq, ne_eq, reduceIte, byteD, dstr, un1_str, iD, pureEnd_of (fn := Tryd.f107) (rs := [.tmp 2]) (ts := [3]) rfl rfl]
      rw [hx]
    · have h2' : y = 0 := by simpa using h2
      rw [if_pos h2'] at hx
      simp only [↓ru, rv, rl, ry, tyf, iM, bM, bsM, cond_true, cond_false, Nat.reduceLT, Nat.reduceBEq, Nat.reduceAdd, Nat.reduceEqDiff, Nat.reduceMul, Nat.reduceLeDiff, Nat.reduceSub, Nat.reduceDiv, Int.reduceLE, Int.reduceLT, Int.reduceNeg, Int.reduceAdd, Int.reduceSub, Int.reduceMul, Int.reduceToNat, Int.reducePow, Int.reduceEq, ne_eq, reduceIte, byteD, dstr, un1_str, iD]
      simp (disch := omega) only [wrap_i64, wrap_u8, wrap_u16, wrap_u64]
      refine loopL_next (i + 1) ?_ rfl ⟨by omega, hx⟩ (by omega) (by omega)
      simp only [↓ru, rv, rl, ry, tyf, iM, bM, bsM, cond_true, cond_false, Nat.reduceLT, Nat.reduceBEq, Nat.reduceAdd, Nat.reduceEqDiff, Nat.reduceMul, Nat.reduceLeDiff, Nat.reduceSub, Nat.reduceDiv, Int.reduceLE, Int.reduceLT, Int.reduceNeg, Int.reduceAdd, Int.reduceSub, Int.reduceMul, Int.reduceToNat, Int.reducePow, Int.reduceEq, ne_eq, reduceIte, byteD, dstr, un1_str, iD]
      simp
  · have h' := of_decide_eq_false h
    have : i = l.length := by omega
    subst this
    rw [List.drop_length, orI] at hx
    simp only [↓ru, rv, rl, ry, tyf, iM, bM, bsM, cond_true, cond_false, Nat.reduceLT, Nat.reduceBEq, Nat.reduceAdd, Nat.reduceEqDiff, Nat.reduceMul, Nat.reduceLeDiff, Nat.reduceSub, Nat.reduceDiv, Int.reduceLE, Int.reduceLT, Int.reduceNeg, Int.reduceAdd, Int.reduceSub, Int.reduceMul, Int.reduceToNat, Int.reducePow, Int.reduceEq, ne_eq, reduceIte, byteD, dstr, un1_str, iD, pureEnd_of (fn := Tryd.f107) (rs := [.tmp 2]) (ts := [3]) rfl rfl]
    rw [hx]

/-- Where the rest of a text begins, behind the first byte c. -/
def cutB (c : UInt8) (s : List UInt8) : List UInt8 × List UInt8 × Bool := match idx c s with
  | some k => (s.take k, s.drop (k + 1), true)
  | none => (s, [], false)
theorem IndexL (s : List UInt8) (c : UInt8) : PFn Tryd.prog 120 [strM s, strM [c]] (iM (idxM c s)) := by
  refine PFn.of_vals [.string ⟨s.toArray⟩, .string ⟨#[c]⟩] _ ⟨_, Tryd.func120, rfl, rfl⟩ fun w _ => (Tryd.stringslite_Index_one ⟨s.toArray⟩ c w).mono fun e w' ⟨he, hw⟩ => ⟨?_, by rw [hw]; exact Go.RowKit.Below.refl _ _⟩
  rw [he, idxB_eq]
  simp [idxM]
theorem gMax : Tryd.prog.globalNamed "internal/bytealg.MaxLen" = some 0 := by kernel_rfl
theorem IndexAny (s l : List UInt8) (hs : s.length ≤ 1000) : PFn Tryd.prog 110 [strM s, strM l] (iM (Lib.index s l)) := by
  refine PFn.of_vals [.string ⟨s.toArray⟩, .string ⟨l.toArray⟩] _ ⟨_, Tryd.func110, rfl, rfl⟩ fun w hL => ?_
  obtain ⟨m, hm⟩ := laid_maxLen hL gMax
  exact (Tryd.strings_Index ⟨s.toArray⟩ ⟨l.toArray⟩ m w (by rw [size_mk]; omega) hm).mono fun e w' ⟨he, hw⟩ => ⟨by rw [he], by rw [hw]; exact Go.RowKit.Below.refl _ _⟩
theorem CutL (s : List UInt8) (c : UInt8) (hs : s.length ≤ 1000000000) : PFn Tryd.prog 119 [strM s, strM [c]] (.tup [strM (cutB c s).1, strM (cutB c s).2.1, bM (cutB c s).2.2]) := by
  (refine PFn.of (prs := [(3, [(2, 6), (2, 7), (2, 8)])]) Tryd.func119 rfl rfl mix (by kernel_rfl) rfl rfl ?_; simp only [Tryd.ntmps119, argUpd])
  simp only [↓ru, rv, rl, ry, tyf, iM, bM, bsM, cond_true, cond_false, Nat.reduceLT, Nat.reduceBEq, Nat.reduceAdd, Nat.reduceEqDiff, Nat.reduceMul, Nat.reduceLeDiff, Nat.reduceSub, Nat.reduceDiv, Int.reduceLE, Int.reduceLT, Int.reduceNeg, Int.reduceAdd, Int.reduceSub, Int.reduceMul, Int.reduceToNat, Int.reducePow, Int.reduceEq, ne_eq, reduceIte, byteD, dstr, un1_str, iD]
  refine acall1_pure (IndexL s c) rfl rfl ?_
  cases h : idx c s with
  | none =>
    have e1 : idxM c s = -1 := by rw [idxM, h]
    simp only [↓ru, rv, rl, ry, tyf, iM, bM, bsM, cond_true, cond_false, Nat.reduceLT, Nat.reduceBEq, Nat.reduceAdd, Nat.reduceEqDiff, Nat.reduceMul, Nat.reduceLeDiff, Nat.reduceSub, Nat.reduceDiv, Int.reduceLE, Int.reduceLT, Int.reduceNeg, Int.reduceAdd, Int.reduceSub, Int.reduceMul, Int.reduceToNat, Int.reducePow, Int.reduceEq, ne_eq, reduceIte, byteD, dstr, un1_str, iD, e1, pureEnd_of (fn := Tryd.f119) (rs := [.tmp 4, .tmp 5, .tmp 6]) (ts := [9, 9, 4]) rfl rfl]
    rw [cutB, h]
  | some k =>
    have e1 : idxM c s = k := by rw [idxM, h]
    have hk := (idx_lt h).1
    have d1 : decide ((0 : Int) ≤ (k : Int)) = true := by simp
    simp only [↓ru, rv, rl, ry, tyf, iM, bM, bsM, cond_true, cond_false, Nat.reduceLT, Nat.reduceBEq, Nat.reduceAdd, Nat.reduceEqDiff, Nat.reduceMul, Nat.reduceLeDiff, Nat.reduceSub, Nat.reduceDiv, Int.reduceLE, Int.reduceLT, Int.reduceNeg, Int.reduceAdd, Int.reduceSub, Int.reduceMul, Int.reduceToNat, Int.reducePow, Int.reduceEq, ne_eq, reduceIte, byteD, dstr, un1_str, iD, e1, d1]
    simp (disch := omega) only [wrap_i64, wrap_u8, wrap_u16, wrap_u64]
    refine grd_intro (by omega) ?_
    refine grd_intro (by omega) ?_
    (try simp only [↓ru, rv, rl, ry, tyf, iM, bM, bsM, cond_true, cond_false, Nat.reduceLT, Nat.reduceBEq, Nat.reduceAdd, Nat.reduceEqDiff, Nat.reduceMul, Nat.reduceLeDiff, Nat.reduceSub, Nat.reduceDiv, Int.reduceLE, Int.reduceLT, Int.reduceNeg, Int.reduceAdd, Int.reduceSub, Int.reduceMul, Int.reduceToNat, Int.reducePow, Int.reduceEq, ne_eq, reduceIte, byteD, dstr, un1_str, iD, pureEnd_of (fn := Tryd.f119) (rs := [.tmp 4, .tmp 5, .tmp 6]) (ts := [9, 9, 4]) rfl rfl])
    rw [cutB, h]
    simp only
    rw [show ((k : Int) + 1).toNat = k + 1 by omega, List.take_of_length_le (l := List.drop (k + 1) s) (by simp; omega)]
theorem Cut (s : List UInt8) (c : UInt8) (hs : s.length ≤ 1000000000) : PFn Tryd.prog 109 [strM s, strM [c]] (.tup [strM (cutB c s).1, strM (cutB c s).2.1, bM (cutB c s).2.2]) := by
  (refine PFn.of (prs := []) Tryd.func109 rfl rfl mix (by kernel_rfl) rfl rfl ?_; simp only [Tryd.ntmps109, argUpd])
  (try (simp only [↓ru, rv, rl, ry, tyf, iM, bM, bsM, cond_true, cond_false, Nat.reduceLT, Nat.reduceBEq, Nat.reduceAdd, Nat.reduceEqDiff, Nat.reduceMul, Nat.reduceLeDiff, Nat.reduceSub, Nat.reduceDiv, Int.reduceLE, Int.reduceLT, Int.reduceNeg, Int.reduceAdd, Int.reduceSub, Int.reduceMul, Int.reduceToNat, Int.reducePow, Int.reduceEq, ne_eq, reduceIte, byteD, dstr, un1_str, iD, pureEnd_of (fn := Tryd.f109) (rs := [.tmp 4, .tmp 5, .tmp 6]) (ts := [9, 9, 4]) rfl rfl, *])); repeat' ((first | (refine fork_split (fun _h => ?_) (fun _h => ?_)) | (refine gfork_split (fun _h => ?_) (fun _h => ?_)) | (refine dfork_split (fun _h => ?_) (fun _h => ?_)) | (refine acall1_pure (CutL s c hs) rfl rfl ?_) | (refine dcall1_pure (CutL s c hs) rfl rfl ?_)) <;> (try (simp only [↓ru, rv, rl, ry, tyf, iM, bM, bsM, cond_true, cond_false, Nat.reduceLT, Nat.reduceBEq, Nat.reduceAdd, Nat.reduceEqDiff, Nat.reduceMul, Nat.reduceLeDiff, Nat.reduceSub, Nat.reduceDiv, Int.reduceLE, Int.reduceLT, Int.reduceNeg, Int.reduceAdd, Int.reduceSub, Int.reduceMul, Int.reduceToNat, Int.reducePow, Int.reduceEq, ne_eq, reduceIte, byteD, dstr, un1_str, iD, pureEnd_of (fn := Tryd.f109) (rs := [.tmp 4, .tmp 5, .tmp 6]) (ts := [9, 9, 4]) rfl rfl, *])))

/-! the settings -/
structure Stg where
  baud : Int
  par : Int
deriving DecidableEq
abbrev stgM (s : Stg) : M := .agg [iM s.baud, iM s.par]
abbrev stgD (s : Stg) : List D := [iD s.baud, iD s.par]
abbrev stgsM (l : List Stg) : M := .d (.sl 2 (l.map stgD))
def bauds : List Int := [1200, 2400, 4800, 9600, 19200, 38400, 57600, 115200]
def validS (s : Stg) : Bool := bauds.contains s.baud && decide (0 ≤ s.par ∧ s.par ≤ 2)
theorem Bauds : PFn Tryd.prog 106 [] (intsM bauds) := by
  (refine PFn.of (prs := []) Tryd.func106 rfl rfl mix (by kernel_rfl) rfl rfl ?_; simp only [Tryd.ntmps106, argUpd])
  (try (simp only [↓ru, rv, rl, ry, tyf, iM, bM, bsM, cond_true, cond_false, Nat.reduceLT, Nat.reduceBEq, Nat.reduceAdd, Nat.reduceEqDiff, Nat.reduceMul, Nat.reduceLeDiff, Nat.reduceSub, Nat.reduceDiv, Int.reduceLE, Int.reduceLT, Int.reduceNeg, Int.reduceAdd, Int.reduceSub, Int.reduceMul, Int.reduceToNat, Int.reducePow, Int.reduceEq, ne_eq, reduceIte, byteD, dstr, un1_str, iD, pureEnd_of (fn := Tryd.f106) (rs := [.tmp 0]) (ts := [109]) rfl rfl, *])); repeat' ((first | (refine fork_split (fun _h => ?_) (fun _h => ?_)) | (refine gfork_split (fun _h => ?_) (fun _h => ?_)) | (refine dfork_split (fun _h => ?_) (fun _h => ?_))) <;> (try (simp only [↓ru, rv, rl, ry, tyf, iM, bM, bsM, cond_true, cond_false, Nat.reduceLT, Nat.reduceBEq, Nat.reduceAdd, Nat.reduceEqDiff, Nat.reduceMul, Nat.reduceLeDiff, Nat.reduceSub, Nat.reduceDiv, Int.reduceLE, Int.reduceLT, Int.reduceNeg, Int.reduceAdd, Int.reduceSub, Int.reduceMul, Int.reduceToNat, Int.reducePow, Int.reduceEq, ne_eq, reduceIte, byteD, dstr, un1_str, iD, pureEnd_of (fn := Tryd.f106) (rs := [.tmp 0]) (ts := [109]) rfl rfl, *])))
  rfl
theorem BaudsR : PFn Tryd.prog 112 [] (intsM bauds) := by
  (refine PFn.of (prs := []) Tryd.func112 rfl rfl mix (by kernel_rfl) rfl rfl ?_; simp only [Tryd.ntmps112, argUpd])
  (try (simp only [↓ru, rv, rl, ry, tyf, iM, bM, bsM, cond_true, cond_false, Nat.reduceLT, Nat.reduceBEq, Nat.reduceAdd, Nat.reduceEqDiff, Nat.reduceMul, Nat.reduceLeDiff, Nat.reduceSub, Nat.reduceDiv, Int.reduceLE, Int.reduceLT, Int.reduceNeg, Int.reduceAdd, Int.reduceSub, Int.reduceMul, Int.reduceToNat, Int.reducePow, Int.reduceEq, ne_eq, reduceIte, byteD, dstr, un1_str, iD, pureEnd_of (fn := Tryd.f112) (rs := [.tmp 0]) (ts := [109]) rfl rfl, *])); repeat' ((first | (refine fork_split (fun _h => ?_) (fun _h => ?_)) | (refine gfork_split (fun _h => ?_) (fun _h => ?_)) | (refine dfork_split (fun _h => ?_) (fun _h => ?_))) <;> (try (simp only [↓ru, rv, rl, ry, tyf, iM, bM, bsM, cond_true, cond_false, Nat.reduceLT, Nat.reduceBEq, Nat.reduceAdd, Nat.reduceEqDiff, Nat.reduceMul, Nat.reduceLeDiff, Nat.reduceSub, Nat.reduceDiv, Int.reduceLE, Int.reduceLT, Int.reduceNeg, Int.reduceAdd, Int.reduceSub, Int.reduceMul, Int.reduceToNat, Int.reducePow, Int.reduceEq, ne_eq, reduceIte, byteD, dstr, un1_str, iD, pureEnd_of (fn := Tryd.f112) (rs := [.tmp 0]) (ts := [109]) rfl rfl, *])))
  rfl
theorem Valid (s : Stg) : PFn Tryd.prog 86 [stgM s] (bM (validS s)) := by
  (refine PFn.of (prs := [(1, [(0, 1), (0, 2)])]) Tryd.func86 rfl rfl mix (by kernel_rfl) rfl rfl ?_; simp only [Tryd.ntmps86, argUpd])
  (try (simp only [↓ru, rv, rl, ry, tyf, iM, bM, bsM, cond_true, cond_false, Nat.reduceLT, Nat.reduceBEq, Nat.reduceAdd, Nat.reduceEqDiff, Nat.reduceMul, Nat.reduceLeDiff, Nat.reduceSub, Nat.reduceDiv, Int.reduceLE, Int.reduceLT, Int.reduceNeg, Int.reduceAdd, Int.reduceSub, Int.reduceMul, Int.reduceToNat, Int.reducePow, Int.reduceEq, ne_eq, reduceIte, byteD, dstr, un1_str, iD, pureEnd_of (fn := Tryd.f86) (rs := [.tmp 2]) (ts := [4]) rfl rfl, *])); repeat' ((first | (refine fork_split (fun _h => ?_) (fun _h => ?_)) | (refine gfork_split (fun _h => ?_) (fun _h => ?_)) | (refine dfork_split (fun _h => ?_) (fun _h => ?_)) | (refine acall1_pure Bauds rfl rfl ?_) | (refine dcall1_pure Bauds rfl rfl ?_) | (refine acall1_pure (SContains bauds s.baud (by decide)) rfl rfl ?_) | (refine dcall1_pure (SContains bauds s.baud (by decide)) rfl rfl ?_)) <;> (try (simp only [↓ru, rv, rl, ry, tyf, iM, bM, bsM, cond_true, cond_false, Nat.reduceLT, Nat.reduceBEq, Nat.reduceAdd, Nat.reduceEqDiff, Nat.reduceMul, Nat.reduceLeDiff, Nat.reduceSub, Nat.reduceDiv, Int.reduceLE, Int.reduceLT, Int.reduceNeg, Int.reduceAdd, Int.reduceSub, Int.reduceMul, Int.reduceToNat, Int.reducePow, Int.reduceEq, ne_eq, reduceIte, byteD, dstr, un1_str, iD, pureEnd_of (fn := Tryd.f86) (rs := [.tmp 2]) (ts := [4]) rfl rfl, *])))
  all_goals simp_all [validS]
  all_goals omega
def allS : List Stg := bauds.flatMap fun b => [⟨b, 0⟩, ⟨b, 1⟩, ⟨b, 2⟩]
theorem AllR : PFn Tryd.prog 95 [] (stgsM allS) := by
  (refine PFn.of (prs := []) Tryd.func95 rfl rfl mix (by kernel_rfl) rfl rfl ?_; simp only [Tryd.ntmps95, argUpd])
  (try (simp only [↓ru, rv, rl, ry, tyf, iM, bM, bsM, cond_true, cond_false, Nat.reduceLT, Nat.reduceBEq, Nat.reduceAdd, Nat.reduceEqDiff, Nat.reduceMul, Nat.reduceLeDiff, Nat.reduceSub, Nat.reduceDiv, Int.reduceLE, Int.reduceLT, Int.reduceNeg, Int.reduceAdd, Int.reduceSub, Int.reduceMul, Int.reduceToNat, Int.reducePow, Int.reduceEq, ne_eq, reduceIte, byteD, dstr, un1_str, iD, unR_ret, unR_exit, wrap_i64, wrap_u8, wrap_u16, bauds, pureEnd_of (fn := Tryd.f95) (rs := [.tmp 0]) (ts := [48]) rfl rfl, *])); repeat' ((first | (refine unR_next ?_) | (refine aloop_unroll 9 ?_) | (refine fork_split (fun _h => ?_) (fun _h => ?_)) | (refine gfork_split (fun _h => ?_) (fun _h => ?_)) | (refine dfork_split (fun _h => ?_) (fun _h => ?_)) | (refine acall1_pure BaudsR rfl rfl ?_) | (refine dcall1_pure BaudsR rfl rfl ?_)) <;> (try (simp only [↓ru, rv, rl, ry, tyf, iM, bM, bsM, cond_true, cond_false, Nat.reduceLT, Nat.reduceBEq, Nat.reduceAdd, Nat.reduceEqDiff, Nat.reduceMul, Nat.reduceLeDiff, Nat.reduceSub, Nat.reduceDiv, Int.reduceLE, Int.reduceLT, Int.reduceNeg, Int.reduceAdd, Int.reduceSub, Int.reduceMul, Int.reduceToNat, Int.reducePow, Int.reduceEq, ne_eq, reduceIte, byteD, dstr, un1_str, iD, unR_ret, unR_exit, wrap_i64, wrap_u8, wrap_u16, bauds, pureEnd_of (fn := Tryd.f95) (rs := [.tmp 0]) (ts := [48]) rfl rfl, *])))
  rfl
theorem mem_allS (s : Stg) : s ∈ allS ↔ validS s = true := by
  obtain ⟨b, p⟩ := s
  simp only [allS, validS, List.mem_flatMap, List.mem_cons, List.not_mem_nil, or_false, Stg.mk.injEq, Bool.and_eq_true, List.contains_iff_mem, decide_eq_true_eq]
  constructor
  · rintro ⟨x, hx, h⟩
    rcases h with ⟨rfl, rfl⟩ | ⟨rfl, rfl⟩ | ⟨rfl, rfl⟩ <;> exact ⟨hx, by omega⟩
  · rintro ⟨h1, h2⟩
    refine ⟨b, h1, ?_⟩
    have : p = 0 ∨ p = 1 ∨ p = 2 := by omega
    rcases this with rfl | rfl | rfl <;> simp
theorem stg_eq {xo yo : Operand} {a b : Stg} {B : Bx} {K : K2} : aBin Tryd.prog .eql 92 xo yo (stgM a) (stgM b) B K = kk K (bM (decide (a = b))) B := by
  rw [bin_struct_eql Tryd.underlying92 (by kernel_rfl) (by kernel_rfl) rfl rfl (by simp [eqInts, Tryd.underlying3]; rfl)]
  congr 4
  rw [Bool.eq_iff_iff]
  obtain ⟨b1, p1⟩ := a
  obtain ⟨b2, p2⟩ := b
  simp
theorem ValidR (s : Stg) : PFn Tryd.prog 88 [stgM s] (bM (validS s)) := by
  (refine PFn.of (prs := [(5, [])]) Tryd.func88 rfl rfl mix (by kernel_rfl) rfl rfl ?_; simp only [Tryd.ntmps88, argUpd])
  simp only [↓ru, rv, rl, ry, tyf, iM, bM, bsM, cond_true, cond_false, Nat.reduceLT, Nat.reduceBEq, Nat.reduceAdd, Nat.reduceEqDiff, Nat.reduceMul, Nat.reduceLeDiff, Nat.reduceSub, Nat.reduceDiv, Int.reduceLE, Int.reduceLT, Int.reduceNeg, Int.reduceAdd, Int.reduceSub, Int.reduceMul, Int.reduceToNat, Int.reducePow, Int.reduceEq, ne_eq, reduceIte, byteD, dstr, un1_str, iD]
  refine acall1_pure AllR rfl rfl ?_
  simp only [↓ru, rv, rl, ry, tyf, iM, bM, bsM, cond_true, cond_false, Nat.reduceLT, Nat.reduceBEq, Nat.reduceAdd, Nat.reduceEqDiff, Nat.reduceMul, Nat.reduceLeDiff, Nat.reduceSub, Nat.reduceDiv, Int.reduceLE, Int.reduceLT, Int.reduceNeg, Int.reduceAdd, Int.reduceSub, Int.reduceMul, Int.reduceToNat, Int.reducePow, Int.reduceEq, ne_eq, reduceIte, byteD, dstr, un1_str, iD]
  refine aloop_lv (fun i : Nat => [(1, .ptr 0 0), (3, stgsM allS), (4, iM i)]) (fun _ => [(0, .st [iM s.baud, iM s.par])]) (fun i => i ≤ allS.length ∧ s ∉ allS.take i) (fun i => allS.length - i) 1 0 ?_ rfl ⟨by omega, by simp⟩ (by omega) ?_
  · simp only [↓ru, rv, rl, ry, tyf, iM, bM, bsM, cond_true, cond_false, Nat.reduceLT, Nat.reduceBEq, Nat.reduceAdd, Nat.reduceEqDiff, Nat.reduceMul, Nat.reduceLeDiff, Nat.reduceSub, Nat.reduceDiv, Int.reduceLE, Int.reduceLT, Int.reduceNeg, Int.reduceAdd, Int.reduceSub, Int.reduceMul, Int.reduceToNat, Int.reducePow, Int.reduceEq, ne_eq, reduceIte, byteD, dstr, un1_str, iD]
  have hlen : allS.length = 24 := by decide
  have hmem := mem_allS s
  generalize allS = l at hlen hmem ⊢
  intro i e0 n ⟨hi, hx⟩
  simp only [↓ru, rv, rl, ry, tyf, iM, bM, bsM, cond_true, cond_false, Nat.reduceLT, Nat.reduceBEq, Nat.reduceAdd, Nat.reduceEqDiff, Nat.reduceMul, Nat.reduceLeDiff, Nat.reduceSub, Nat.reduceDiv, Int.reduceLE, Int.reduceLT, Int.reduceNeg, Int.reduceAdd, Int.reduceSub, Int.reduceMul, Int.reduceToNat, Int.reducePow, Int.reduceEq, ne_eq, reduceIte, byteD, dstr, un1_str, iD]
  refine fork_split (fun h => ?_) (fun h => ?_)
  · have h' := of_decide_eq_true h
    obtain ⟨y, hy⟩ := get_of_lt (l := l) (i := i) (by omega)
    simp only [↓ru, rv, rl, ry, tyf, iM, bM, bsM, cond_true, cond_false, Nat.reduceLT, Nat.reduceBEq, Nat.reduceAdd, Nat.reduceEqDiff, Nat.reduceMul, Nat.reduceLeDiff, Nat.reduceSub, Nat.reduceDiv, Int.reduceLE, Int.reduceLT, Int.reduceNeg, Int.reduceAdd, Int.reduceSub, Int.reduceMul, Int.reduceToNat, Int.reducePow, Int.reduceEq, ne_eq, reduceIte, byteD, dstr, un1_str, iD, hy, stg_eq]
    refine fork_split (fun h2 => ?_) (fun h2 => ?_)
    · have h2' := of_decide_eq_true h2
      subst h2'
      simp only [↓ru, rv, rl, ry, tyf, iM, bM, bsM, cond_true, cond_false, Nat.reduceLT, Nat.reduceBEq, Nat.reduceAdd, Nat.reduceEqDiff, Nat.reduceMul, Nat.reduceLeDiff, Nat.reduceSub, Nat.reduceDiv, Int.reduceLE, Int.reduceLT, Int.reduceNeg, Int.reduceAdd, Int.reduceSub, Int.reduceMul, Int.reduceToNat, Int.reducePow, Int.reduceEq, ne_eq, reduceIte, byteD, dstr, un1_str, iD, pureEnd_of (fn := Tryd.f88) (rs := [.tmp 2]) (ts := [4]) rfl rfl]
      rw [hmem.1 (List.mem_of_getElem? hy)]
    · have h2' := of_decide_eq_false h2
      simp only [↓ru, rv, rl, ry, tyf, iM, bM, bsM, cond_true, cond_false, Nat.reduceLT, Nat.reduceBEq, Nat.reduceAdd, Nat.reduceEqDiff, Nat.reduceMul, Nat.reduceLeDiff, Nat.reduceSub, Nat.reduceDiv, Int.reduceLE, Int.reduceLT, Int.reduceNeg, Int.reduceAdd, Int.reduceSub, Int.reduceMul, Int.reduceToNat, Int.reducePow, Int.reduceEq, ne_eq, reduceIte, byteD, dstr, un1_str, iD]
      simp (disch := omega) only [wrap_i64, wrap_u8, wrap_u16, wrap_u64]
      refine loopL_drop (i + 1) ?_ ?_ ⟨by omega, ?_⟩ (by omega) (by omega)
      · simp only [↓ru, rv, rl, ry, tyf, iM, bM, bsM, cond_true, cond_false, Nat.reduceLT, Nat.reduceBEq, Nat.reduceAdd, Nat.reduceEqDiff, Nat.reduceMul, Nat.reduceLeDiff, Nat.reduceSub, Nat.reduceDiv, Int.reduceLE, Int.reduceLT, Int.reduceNeg, Int.reduceAdd, Int.reduceSub, Int.reduceMul, Int.reduceToNat, Int.reducePow, Int.reduceEq, ne_eq, reduceIte, byteD, dstr, un1_str, iD]
        simp
      · simp only [↓ru, rv, rl, ry, tyf, iM, bM, bsM, cond_true, cond_false, Nat.reduceLT, Nat.reduceBEq, Nat.reduceAdd, Nat.reduceEqDiff, Nat.reduceMul, Nat.reduceLeDiff, Nat.reduceSub, Nat.reduceDiv, Int.reduceLE, Int.reduceLT, Int.reduceNeg, Int.reduceAdd, Int.reduceSub, Int.reduceMul, Int.reduceToNat, Int.reducePow, Int.reduceEq, ne_eq, reduceIte, byteD, dstr, un1_str, iD]
      · rw [List.take_add_one, hy]
        simp [hx]
        exact fun e => h2' e.symm
  · have h' := of_decide_eq_false h
    have : i = l.length := by omega
    subst this
    rw [List.take_length] at hx
    simp only [↓ru, rv, rl, ry, tyf, iM, bM, bsM, cond_true, cond_false, Nat.reduceLT, Nat.reduceBEq, Nat.reduceAdd, Nat.reduceEqDiff, Nat.reduceMul, Nat.reduceLeDiff, Nat.reduceSub, Nat.reduceDiv, Int.reduceLE, Int.reduceLT, Int.reduceNeg, Int.reduceAdd, Int.reduceSub, Int.reduceMul, Int.reduceToNat, Int.reducePow, Int.reduceEq, ne_eq, reduceIte, byteD, dstr, un1_str, iD, pureEnd_of (fn := Tryd.f88) (rs := [.tmp 2]) (ts := [4]) rfl rfl]
    have : validS s = false := by
      cases hv : validS s with
      | true => exact absurd (hmem.2 hv) hx
      | false => rfl
    rw [this]
/-- The text of a setting. -/
def parL (p : Int) : UInt8 := if p = 0 then 78 else if p = 1 then 69 else 79
def fmtS (s : Stg) : List UInt8 := if validS s then dec s.baud ++ [45, parL s.par] else []
theorem validS_range {s : Stg} (h : validS s = true) : 1200 ≤ s.baud ∧ s.baud ≤ 115200 ∧ (s.par = 0 ∨ s.par = 1 ∨ s.par = 2) := by
  rw [← mem_allS] at h
  have key : ∀ x ∈ allS, 1200 ≤ x.baud ∧ x.baud ≤ 115200 ∧ (x.par = 0 ∨ x.par = 1 ∨ x.par = 2) := by decide
  exact key s h
theorem Format (s : Stg) : PFn Tryd.prog 67 [stgM s] (strM (fmtS s)) := by
  (refine PFn.of (prs := [(3, [(2, 4), (2, 5), (2, 6), (2, 7), (2, 8), (0, 9), (1, 9), (2, 9), (3, 9)])]) Tryd.func67 rfl rfl mix (by kernel_rfl) rfl rfl ?_; simp only [Tryd.ntmps67, argUpd])
  simp only [↓ru, rv, rl, ry, tyf, iM, bM, bsM, cond_true, cond_false, Nat.reduceLT, Nat.reduceBEq, Nat.reduceAdd, Nat.reduceEqDiff, Nat.reduceMul, Nat.reduceLeDiff, Nat.reduceSub, Nat.reduceDiv, Int.reduceLE, Int.reduceLT, Int.reduceNeg, Int.reduceAdd, Int.reduceSub, Int.reduceMul, Int.reduceToNat, Int.reducePow, Int.reduceEq, ne_eq, reduceIte, byteD, dstr, un1_str, iD]
  refine acall1_pure (Valid s) rfl rfl ?_
  cases hv : validS s with
  | false =>
    simp only [↓ru, rv, rl, ry, tyf, iM, bM, bsM, cond_true, cond_false, Nat.reduceLT, Nat.reduceBEq, Nat.reduceAdd, Nat.reduceEqDiff, Nat.reduceMul, Nat.reduceLeDiff, Nat.reduceSub, Nat.reduceDiv, Int.reduceLE, Int.reduceLT, Int.reduceNeg, Int.reduceAdd, Int.reduceSub, Int.reduceMul, Int.reduceToNat, Int.reducePow, Int.reduceEq, ne_eq, reduceIte, byteD, dstr, un1_str, iD, pureEnd_of (fn := Tryd.f67) (rs := [.tmp 2]) (ts := [9]) rfl rfl]
    rw [fmtS, hv]; rfl
  | true =>
    obtain ⟨h1, h2, h3⟩ := validS_range hv
    have hl := dec_len s.baud
    simp only [↓ru, rv, rl, ry, tyf, iM, bM, bsM, cond_true, cond_false, Nat.reduceLT, Nat.reduceBEq, Nat.reduceAdd, Nat.reduceEqDiff, Nat.reduceMul, Nat.reduceLeDiff, Nat.reduceSub, Nat.reduceDiv, Int.reduceLE, Int.reduceLT, Int.reduceNeg, Int.reduceAdd, Int.reduceSub, Int.reduceMul, Int.reduceToNat, Int.reducePow, Int.reduceEq, ne_eq, reduceIte, byteD, dstr, un1_str, iD]
    refine dcall1_pure (Decimal s.baud (by omega)) rfl rfl ?_
    simp only [↓ru, rv, rl, ry, tyf, iM, bM, bsM, cond_true, cond_false, Nat.reduceLT, Nat.reduceBEq, Nat.reduceAdd, Nat.reduceEqDiff, Nat.reduceMul, Nat.reduceLeDiff, Nat.reduceSub, Nat.reduceDiv, Int.reduceLE, Int.reduceLT, Int.reduceNeg, Int.reduceAdd, Int.reduceSub, Int.reduceMul, Int.reduceToNat, Int.reducePow, Int.reduceEq, ne_eq, reduceIte, byteD, dstr, un1_str, iD]
    simp (disch := (simp only [List.length_append, List.length_cons, List.length_nil, List.length_map, List.length_take, List.length_replicate, List.length_drop] <;> omega)) only [bin_str_add, kk_eq, wrap_i64, wrap_u8, wrap_u16, wrap_u64]
    rcases h3 with h3 | h3 | h3
    all_goals
      simp only [↓ru, rv, rl, ry, tyf, iM, bM, bsM, cond_true, cond_false, Nat.reduceLT, Nat.reduceBEq, Nat.reduceAdd, Nat.reduceEqDiff, Nat.reduceMul, Nat.reduceLeDiff, Nat.reduceSub, Nat.reduceDiv, Int.reduceLE, Int.reduceLT, Int.reduceNeg, Int.reduceAdd, Int.reduceSub, Int.reduceMul, Int.reduceToNat, Int.reducePow, Int.reduceEq, ne_eq, reduceIte, byteD, dstr, un1_str, iD, h3]
      (try simp (disch := omega) only [wrap_i64, wrap_u8, wrap_u16, wrap_u64])
      (try simp (disch := (simp only [List.length_append, List.length_cons, List.length_nil, List.length_map, List.length_take, List.length_replicate, List.length_drop] <;> omega)) only [bin_str_add, kk_eq, wrap_i64, wrap_u8, wrap_u16, wrap_u64])
      simp only [↓ru, rv, rl, ry, tyf, iM, bM, bsM, cond_true, cond_false, Nat.reduceLT, Nat.reduceBEq, Nat.reduceAdd, Nat.reduceEqDiff, Nat.reduceMul, Nat.reduceLeDiff, Nat.reduceSub, Nat.reduceDiv, Int.reduceLE, Int.reduceLT, Int.reduceNeg, Int.reduceAdd, Int.reduceSub, Int.reduceMul, Int.reduceToNat, Int.reducePow, Int.reduceEq, ne_eq, reduceIte, byteD, dstr, un1_str, iD, pureEnd_of (fn := Tryd.f67) (rs := [.tmp 2]) (ts := [9]) rfl rfl]
      rw [fmtS, hv, parL]
      simp [h3]
theorem FormatR (s : Stg) : PFn Tryd.prog 90 [stgM s] (strM (fmtS s)) := by
  (refine PFn.of (prs := [(3, [(0, 3), (1, 3), (2, 3), (2, 4), (3, 4), (2, 5), (3, 5), (2, 6), (2, 7)])]) Tryd.func90 rfl rfl mix (by kernel_rfl) rfl rfl ?_; simp only [Tryd.ntmps90, argUpd])
  simp only [↓ru, rv, rl, ry, tyf, iM, bM, bsM, cond_true, cond_false, Nat.reduceLT, Nat.reduceBEq, Nat.reduceAdd, Nat.reduceEqDiff, Nat.reduceMul, Nat.reduceLeDiff, Nat.reduceSub, Nat.reduceDiv, Int.reduceLE, Int.reduceLT, Int.reduceNeg, Int.reduceAdd, Int.reduceSub, Int.reduceMul, Int.reduceToNat, Int.reducePow, Int.reduceEq, ne_eq, reduceIte, byteD, dstr, un1_str, iD]
  refine acall1_pure (ValidR s) rfl rfl ?_
  cases hv : validS s with
  | false =>
    simp only [↓ru, rv, rl, ry, tyf, iM, bM, bsM, cond_true, cond_false, Nat.reduceLT, Nat.reduceBEq, Nat.reduceAdd, Nat.reduceEqDiff, Nat.reduceMul, Nat.reduceLeDiff, Nat.reduceSub, Nat.reduceDiv, Int.reduceLE, Int.reduceLT, Int.reduceNeg, Int.reduceAdd, Int.reduceSub, Int.reduceMul, Int.reduceToNat, Int.reducePow, Int.reduceEq, ne_eq, reduceIte, byteD, dstr, un1_str, iD, pureEnd_of (fn := Tryd.f90) (rs := [.tmp 2]) (ts := [9]) rfl rfl]
    rw [fmtS, hv]; rfl
  | true =>
    obtain ⟨h1, h2, h3⟩ := validS_range hv
    have hl := dec_len s.baud
    rcases h3 with h3 | h3 | h3
    all_goals
      simp only [↓ru, rv, rl, ry, tyf, iM, bM, bsM, cond_true, cond_false, Nat.reduceLT, Nat.reduceBEq, Nat.reduceAdd, Nat.reduceEqDiff, Nat.reduceMul, Nat.reduceLeDiff, Nat.reduceSub, Nat.reduceDiv, Int.reduceLE, Int.reduceLT, Int.reduceNeg, Int.reduceAdd, Int.reduceSub, Int.reduceMul, Int.reduceToNat, Int.reducePow, Int.reduceEq, ne_eq, reduceIte, byteD, dstr, un1_str, iD, h3]
      refine dcall1_pure (DecimalR s.baud (by omega)) rfl rfl ?_
      simp only [↓ru, rv, rl, ry, tyf, iM, bM, bsM, cond_true, cond_false, Nat.reduceLT, Nat.reduceBEq, Nat.reduceAdd, Nat.reduceEqDiff, Nat.reduceMul, Nat.reduceLeDiff, Nat.reduceSub, Nat.reduceDiv, Int.reduceLE, Int.reduceLT, Int.reduceNeg, Int.reduceAdd, Int.reduceSub, Int.reduceMul, Int.reduceToNat, Int.reducePow, Int.reduceEq, ne_eq, reduceIte, byteD, dstr, un1_str, iD, h3]
      (try simp (disch := (simp only [List.length_append, List.length_cons, List.length_nil, List.length_map, List.length_take, List.length_replicate, List.length_drop] <;> omega)) only [bin_str_add, kk_eq, wrap_i64, wrap_u8, wrap_u16, wrap_u64])
      simp only [↓ru, rv, rl, ry, tyf, iM, bM, bsM, cond_true, cond_false, Nat.reduceLT, Nat.reduceBEq, Nat.reduceAdd, Nat.reduceEqDiff, Nat.reduceMul, Nat.reduceLeDiff, Nat.reduceSub, Nat.reduceDiv, Int.reduceLE, Int.reduceLT, Int.reduceNeg, Int.reduceAdd, Int.reduceSub, Int.reduceMul, Int.reduceToNat, Int.reducePow, Int.reduceEq, ne_eq, reduceIte, byteD, dstr, un1_str, iD, pureEnd_of (fn := Tryd.f90) (rs := [.tmp 2]) (ts := [9]) rfl rfl]
      rw [fmtS, hv, parL]
      simp [h3]
end Go.TW

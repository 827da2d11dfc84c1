import Derived.Test.YtmgfnlnomecbiaaDoorV9
set_option linter.all false
open Go.Proofs Go.Abs Go.Fa Go.BU Go.TX Go.TW
namespace Go.SC
set_option maxHeartbeats 4000000
set_option maxRecDepth 10000
-- rules: byteD, dstr, un1_str, iD, bD

theorem sum_mem {l : List (List UInt8)} {w : List UInt8} (h : w ∈ l) : w.length + 1 ≤ (l.map fun w => w.length + 1).sum := by
  induction l with
  | nil => cases h
  | cons x l ih =>
    simp only [List.map_cons, List.sum_cons]
    rcases List.mem_cons.1 h with rfl | h
    · omega
    · have := ih h; omega
theorem words_Ws {s : List UInt8} {l : List (List UInt8)} (h : wordsF s = some l) (hs : s.length ≤ 300000) : Ws l := by
  have h1 := words_len h
  have h2 := sum_len l
  refine ⟨by omega, fun w hw => ?_⟩
  have := sum_mem hw
  omega
theorem lines_le {b : List UInt8} {l : List (List UInt8)} (h : linesF b = some l) : l.length ≤ b.length ∧ ∀ w ∈ l, w.length ≤ b.length := by
  have h1 := lines_join h
  have h2 := unlines_len l
  have h3 := sum_len l
  rw [← h1] at h2
  refine ⟨by omega, fun w hw => ?_⟩
  have := sum_mem hw
  omega
theorem Parse (b : List UInt8) (hb : b.length ≤ 300000) : PFn Tryd.prog 22 [bsM b] (.tup [scrM (parF b).1, iM (parF b).2]) := by
  unfold parF
  (refine PFn.of (prs := []) Tryd.func22 rfl rfl mix (by kernel_rfl) rfl rfl ?_; simp only [Tryd.ntmps22, argUpd])
  cases hl : linesF b with
  | none =>
    have hL := Lines b hb
    rw [hl] at hL
    (try (simp only [↓ru, rv, rl, ry, tyf, iM, bM, bsM, cond_true, cond_false, Nat.reduceLT, Nat.reduceBEq, Nat.reduceAdd, Nat.reduceEqDiff, Nat.reduceMul, Nat.reduceLeDiff, Nat.reduceSub, Nat.reduceDiv, Int.reduceLE, Int.reduceLT, Int.reduceNeg, Int.reduceAdd, Int.reduceSub, Int.reduceMul, Int.reduceToNat, Int.reducePow, Int.reduceEq, ne_eq, reduceIte, byteD, dstr, un1_str, iD, bD, Option.getD_none, Option.isSome_none, pureEnd_of (fn := Tryd.f22) (rs := [.cell 2 25, .tmp 3]) (ts := [25, 37]) rfl rfl, *])); repeat' ((first | (refine fork_split (fun _h => ?_) (fun _h => ?_)) | (refine gfork_split (fun _h => ?_) (fun _h => ?_)) | (refine dfork_split (fun _h => ?_) (fun _h => ?_)) | (refine acall1_pure hL rfl rfl ?_) | (refine dcall1_pure hL rfl rfl ?_)) <;> (try (simp only [↓ru, rv, rl, ry, tyf, iM, bM, bsM, cond_true, cond_false, Nat.reduceLT, Nat.reduceBEq, Nat.reduceAdd, Nat.reduceEqDiff, Nat.reduceMul, Nat.reduceLeDiff, Nat.reduceSub, Nat.reduceDiv, Int.reduceLE, Int.reduceLT, Int.reduceNeg, Int.reduceAdd, Int.reduceSub, Int.reduceMul, Int.reduceToNat, Int.reducePow, Int.reduceEq, ne_eq, reduceIte, byteD, dstr, un1_str, iD, bD, Option.getD_none, Option.isSome_none, pureEnd_of (fn := Tryd.f22) (rs := [.cell 2 25, .tmp 3]) (ts := [25, 37]) rfl rfl, *])))
    rfl
  | some ls =>
    have hL := Lines b hb
    rw [hl] at hL
    have hll := lines_le hl
    clear hl
    (try (simp only [↓ru, rv, rl, ry, tyf, iM, bM, bsM, cond_true, cond_false, Nat.reduceLT, Nat.reduceBEq, Nat.reduceAdd, Nat.reduceEqDiff, Nat.reduceMul, Nat.reduceLeDiff, Nat.reduceSub, Nat.reduceDiv, Int.reduceLE, Int.reduceLT, Int.reduceNeg, Int.reduceAdd, Int.reduceSub, Int.reduceMul, Int.reduceToNat, Int.reducePow, Int.reduceEq, ne_eq, reduceIte, byteD, dstr, un1_str, iD, bD, Option.getD_some, Option.isSome_some, pureEnd_of (fn := Tryd.f22) (rs := [.cell 2 25, .tmp 3]) (ts := [25, 37]) rfl rfl, *])); repeat' ((first | (refine fork_split (fun _h => ?_) (fun _h => ?_)) | (refine gfork_split (fun _h => ?_) (fun _h => ?_)) | (refine dfork_split (fun _h => ?_) (fun _h => ?_)) | (refine acall1_pure hL rfl rfl ?_) | (refine dcall1_pure hL rfl rfl ?_)) <;> (try (simp only [↓ru, rv, rl, ry, tyf, iM, bM, bsM, cond_true, cond_false, Nat.reduceLT, Nat.reduceBEq, Nat.reduceAdd, Nat.reduceEqDiff, Nat.reduceMul, Nat.reduceLeDiff, Nat.reduceSub, Nat.reduceDiv, Int.reduceLE, Int.reduceLT, Int.reduceNeg, Int.reduceAdd, Int.reduceSub, Int.reduceMul, Int.reduceToNat, Int.reducePow, Int.reduceEq, ne_eq, reduceIte, byteD, dstr, un1_str, iD, bD, Option.getD_some, Option.isSome_some, pureEnd_of (fn := Tryd.f22) (rs := [.cell 2 25, .tmp 3]) (ts := [25, 37]) rfl rfl, *])))
    refine aloop_thawBox (p := 11) (j := 0) 6 rfl rfl ?_
    simp only [↓ru, rv, rl, ry, tyf, iM, bM, bsM, cond_true, cond_false, Nat.reduceLT, Nat.reduceBEq, Nat.reduceAdd, Nat.reduceEqDiff, Nat.reduceMul, Nat.reduceLeDiff, Nat.reduceSub, Nat.reduceDiv, Int.reduceLE, Int.reduceLT, Int.reduceNeg, Int.reduceAdd, Int.reduceSub, Int.reduceMul, Int.reduceToNat, Int.reducePow, Int.reduceEq, ne_eq, reduceIte, byteD, dstr, un1_str, iD, bD]
    refine aloop_thawBox (p := 11) (j := 2) 2 rfl rfl ?_
    simp only [↓ru, rv, rl, ry, tyf, iM, bM, bsM, cond_true, cond_false, Nat.reduceLT, Nat.reduceBEq, Nat.reduceAdd, Nat.reduceEqDiff, Nat.reduceMul, Nat.reduceLeDiff, Nat.reduceSub, Nat.reduceDiv, Int.reduceLE, Int.reduceLT, Int.reduceNeg, Int.reduceAdd, Int.reduceSub, Int.reduceMul, Int.reduceToNat, Int.reducePow, Int.reduceEq, ne_eq, reduceIte, byteD, dstr, un1_str, iD, bD]
    refine aloop_lv (fun p : Nat × Scr => [(2, .ptr 0 0), (3, iM 0), (6, .ptr 11 0), (19, strsM ls), (20, iM ls.length), (21, iM p.1)]) (fun p => scB p.2)
      (fun p => p.1 ≤ ls.length ∧ p.2.att.length ≤ p.1 ∧ p.2.crs.length ≤ p.1 ∧ goF p.2 (ls.drop p.1) = goF scr0 ls) (fun p => ls.length - p.1) 17 (0, scr0) ?_ rfl ⟨by simp, by simp [scr0], by simp [scr0], rfl⟩ (by omega) ?_
    · simp only [↓ru, rv, rl, ry, tyf, iM, bM, bsM, cond_true, cond_false, Nat.reduceLT, Nat.reduceBEq, Nat.reduceAdd, Nat.reduceEqDiff, Nat.reduceMul, Nat.reduceLeDiff, Nat.reduceSub, Nat.reduceDiv, Int.reduceLE, Int.reduceLT, Int.reduceNeg, Int.reduceAdd, Int.reduceSub, Int.reduceMul, Int.reduceToNat, Int.reducePow, Int.reduceEq, ne_eq, reduceIte, byteD, dstr, un1_str, iD, bD]
    rintro ⟨i, s⟩ e0 n ⟨hi, ha, hc, hg⟩
    simp only at hi ha hc hg
    have hg' : Shut (goF s (ls.drop i) = goF scr0 ls) := hg
    clear hg
    generalize goF scr0 ls = R at hg' ⊢
    simp only [↓ru, rv, rl, ry, tyf, iM, bM, bsM, cond_true, cond_false, Nat.reduceLT, Nat.reduceBEq, Nat.reduceAdd, Nat.reduceEqDiff, Nat.reduceMul, Nat.reduceLeDiff, Nat.reduceSub, Nat.reduceDiv, Int.reduceLE, Int.reduceLT, Int.reduceNeg, Int.reduceAdd, Int.reduceSub, Int.reduceMul, Int.reduceToNat, Int.reducePow, Int.reduceEq, ne_eq, reduceIte, byteD, dstr, un1_str, iD, bD]
    refine fork_split (fun h => ?_) (fun h => ?_)
    · have h' := of_decide_eq_true h
      obtain ⟨y, hy⟩ := get_of_lt (l := ls) (i := i) (by omega)
      have hd : ls.drop i = y :: ls.drop (i + 1) := by
        obtain ⟨hlt, rfl⟩ := List.getElem?_eq_some_iff.1 hy
        exact List.drop_eq_getElem_cons hlt
      have hyl := hll.2 y (List.mem_of_getElem? hy)
      unfold Shut at hg'
      rw [hd, goF] at hg'
      simp only [↓ru, rv, rl, ry, tyf, iM, bM, bsM, cond_true, cond_false, Nat.reduceLT, Nat.reduceBEq, Nat.reduceAdd, Nat.reduceEqDiff, Nat.reduceMul, Nat.reduceLeDiff, Nat.reduceSub, Nat.reduceDiv, Int.reduceLE, Int.reduceLT, Int.reduceNeg, Int.reduceAdd, Int.reduceSub, Int.reduceMul, Int.reduceToNat, Int.reducePow, Int.reduceEq, ne_eq, reduceIte, byteD, dstr, un1_str, iD, bD, hy]
      refine acall1_pure (Words y (by omega)) rfl rfl ?_
      cases hw : wordsF y with
      | none =>
        rw [hw] at hg'
        simp only at hg'
        subst hg'
        simp only [↓ru, rv, rl, ry, tyf, iM, bM, bsM, cond_true, cond_false, Nat.reduceLT, Nat.reduceBEq, Nat.reduceAdd, Nat.reduceEqDiff, Nat.reduceMul, Nat.reduceLeDiff, Nat.reduceSub, Nat.reduceDiv, Int.reduceLE, Int.reduceLT, Int.reduceNeg, Int.reduceAdd, Int.reduceSub, Int.reduceMul, Int.reduceToNat, Int.reducePow, Int.reduceEq, ne_eq, reduceIte, byteD, dstr, un1_str, iD, bD, hw, Option.getD_none, Option.isSome_none, pureEnd_of (fn := Tryd.f22) (rs := [.cell 2 25, .tmp 3]) (ts := [25, 37]) rfl rfl]
        rfl
      | some ws =>
        rw [hw] at hg'
        simp only at hg'
        have hws := words_Ws hw (by omega)
        have hrl := read_len s ws
        simp only [↓ru, rv, rl, ry, tyf, iM, bM, bsM, cond_true, cond_false, Nat.reduceLT, Nat.reduceBEq, Nat.reduceAdd, Nat.reduceEqDiff, Nat.reduceMul, Nat.reduceLeDiff, Nat.reduceSub, Nat.reduceDiv, Int.reduceLE, Int.reduceLT, Int.reduceNeg, Int.reduceAdd, Int.reduceSub, Int.reduceMul, Int.reduceToNat, Int.reducePow, Int.reduceEq, ne_eq, reduceIte, byteD, dstr, un1_str, iD, bD, hw, Option.getD_some, Option.isSome_some]
        refine acall1_inl (Read s ws hws (by omega) (by omega) fun n' hn => ?_)
        rw [← Nat.add_zero n']
        generalize readF s ws = q at hg' hrl
        obtain ⟨s', ok⟩ := q
        simp only at hg' hrl
        cases ok with
        | false =>
          simp only [Bool.false_eq_true, if_false] at hg'
          subst hg'
          simp only [↓ru, rv, rl, ry, tyf, iM, bM, bsM, cond_true, cond_false, Nat.reduceLT, Nat.reduceBEq, Nat.reduceAdd, Nat.reduceEqDiff, Nat.reduceMul, Nat.reduceLeDiff, Nat.reduceSub, Nat.reduceDiv, Int.reduceLE, Int.reduceLT, Int.reduceNeg, Int.reduceAdd, Int.reduceSub, Int.reduceMul, Int.reduceToNat, Int.reducePow, Int.reduceEq, ne_eq, reduceIte, byteD, dstr, un1_str, iD, bD, pureEnd_of (fn := Tryd.f22) (rs := [.cell 2 25, .tmp 3]) (ts := [25, 37]) rfl rfl]
          rfl
        | true =>
          simp only [if_true] at hg'
          simp only [↓ru, rv, rl, ry, tyf, iM, bM, bsM, cond_true, cond_false, Nat.reduceLT, Nat.reduceBEq, Nat.reduceAdd, Nat.reduceEqDiff, Nat.reduceMul, Nat.reduceLeDiff, Nat.reduceSub, Nat.reduceDiv, Int.reduceLE, Int.reduceLT, Int.reduceNeg, Int.reduceAdd, Int.reduceSub, Int.reduceMul, Int.reduceToNat, Int.reducePow, Int.reduceEq, ne_eq, reduceIte, byteD, dstr, un1_str, iD, bD]
          simp (disch := omega) only [wrap_i64, wrap_u8, wrap_u16, wrap_u64]
          refine loopL_next (i + 1, s') ?_ rfl ⟨by simp only; omega, by simp only; omega, by simp only; omega, hg'⟩ (by omega) (by simp only; omega)
          simp only [↓ru, rv, rl, ry, tyf, iM, bM, bsM, cond_true, cond_false, Nat.reduceLT, Nat.reduceBEq, Nat.reduceAdd, Nat.reduceEqDiff, Nat.reduceMul, Nat.reduceLeDiff, Nat.reduceSub, Nat.reduceDiv, Int.reduceLE, Int.reduceLT, Int.reduceNeg, Int.reduceAdd, Int.reduceSub, Int.reduceMul, Int.reduceToNat, Int.reducePow, Int.reduceEq, ne_eq, reduceIte, byteD, dstr, un1_str, iD, bD]
          simp
    · have h' := of_decide_eq_false h
      have : i = ls.length := by omega
      subst this
      unfold Shut at hg'
      rw [List.drop_length, goF] at hg'
      subst hg'
      simp only [↓ru, rv, rl, ry, tyf, iM, bM, bsM, cond_true, cond_false, Nat.reduceLT, Nat.reduceBEq, Nat.reduceAdd, Nat.reduceEqDiff, Nat.reduceMul, Nat.reduceLeDiff, Nat.reduceSub, Nat.reduceDiv, Int.reduceLE, Int.reduceLT, Int.reduceNeg, Int.reduceAdd, Int.reduceSub, Int.reduceMul, Int.reduceToNat, Int.reducePow, Int.reduceEq, ne_eq, reduceIte, byteD, dstr, un1_str, iD, bD]
      refine acall1_pure (Valid s ⟨by omega, by omega⟩) rfl rfl ?_
      cases hk : scrOK s with
      | false =>
        simp only [↓ru, rv, rl, ry, tyf, iM, bM, bsM, cond_true, cond_false, Nat.reduceLT, Nat.reduceBEq, Nat.reduceAdd, Nat.reduceEqDiff, Nat.reduceMul, Nat.reduceLeDiff, Nat.reduceSub, Nat.reduceDiv, Int.reduceLE, Int.reduceLT, Int.reduceNeg, Int.reduceAdd, Int.reduceSub, Int.reduceMul, Int.reduceToNat, Int.reducePow, Int.reduceEq, ne_eq, reduceIte, byteD, dstr, un1_str, iD, bD, hk, pureEnd_of (fn := Tryd.f22) (rs := [.cell 2 25, .tmp 3]) (ts := [25, 37]) rfl rfl]
        rfl
      | true =>
        simp only [↓ru, rv, rl, ry, tyf, iM, bM, bsM, cond_true, cond_false, Nat.reduceLT, Nat.reduceBEq, Nat.reduceAdd, Nat.reduceEqDiff, Nat.reduceMul, Nat.reduceLeDiff, Nat.reduceSub, Nat.reduceDiv, Int.reduceLE, Int.reduceLT, Int.reduceNeg, Int.reduceAdd, Int.reduceSub, Int.reduceMul, Int.reduceToNat, Int.reducePow, Int.reduceEq, ne_eq, reduceIte, byteD, dstr, un1_str, iD, bD, hk, pureEnd_of (fn := Tryd.f22) (rs := [.cell 2 25, .tmp 3]) (ts := [25, 37]) rfl rfl]
end Go.SC

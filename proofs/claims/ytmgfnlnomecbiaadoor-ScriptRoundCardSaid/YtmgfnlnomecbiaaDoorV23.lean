import Derived.Test.YtmgfnlnomecbiaaDoorV22
set_option linter.all false
open Go.Proofs Go.Abs Go.Fa Go.BU Go.TX Go.TW Go.RowKit
namespace Go.SC
set_option maxHeartbeats 4000000
set_option maxRecDepth 10000
-- rules: byteD, dstr, un1_str, iD, bD

theorem lScriptRound (s : Scr) (hs : Sz s) : PFn Tryd.prog 8 [scrM s] (bM true) := by
  have hm := MkScript s hs 30
  have hS := ScriptR s hs
  cases hb : (decide ((s.att.length : Int) ≤ 30) && decide (s.crs.length ≤ 12)) with
  | false =>
    rw [hb] at hm
    clear hb
    (refine PFn.of (prs := [(7, [(7, 8), (7, 9)])]) Tryd.func8 rfl rfl mix (by kernel_rfl) rfl rfl ?_; simp only [Tryd.ntmps8, argUpd])
    (try (simp only [↓ru, rv, rl, ry, tyf, iM, bM, bsM, cond_true, cond_false, Nat.reduceLT, Nat.reduceBEq, Nat.reduceAdd, Nat.reduceEqDiff, Nat.reduceMul, Nat.reduceLeDiff, Nat.reduceSub, Nat.reduceDiv, Int.reduceLE, Int.reduceLT, Int.reduceNeg, Int.reduceAdd, Int.reduceSub, Int.reduceMul, Int.reduceToNat, Int.reducePow, Int.reduceEq, ne_eq, reduceIte, byteD, dstr, un1_str, iD, bD, pureEnd_of (fn := Tryd.f8) (rs := [.tmp 2]) (ts := [4]) rfl rfl, *])); repeat' ((first | (refine fork_split (fun _h => ?_) (fun _h => ?_)) | (refine gfork_split (fun _h => ?_) (fun _h => ?_)) | (refine dfork_split (fun _h => ?_) (fun _h => ?_)) | (refine acall1_pure hm rfl rfl ?_) | (refine dcall1_pure hm rfl rfl ?_) | (refine acall1_pure Awake15 rfl rfl ?_) | (refine dcall1_pure Awake15 rfl rfl ?_)) <;> (try (simp only [↓ru, rv, rl, ry, tyf, iM, bM, bsM, cond_true, cond_false, Nat.reduceLT, Nat.reduceBEq, Nat.reduceAdd, Nat.reduceEqDiff, Nat.reduceMul, Nat.reduceLeDiff, Nat.reduceSub, Nat.reduceDiv, Int.reduceLE, Int.reduceLT, Int.reduceNeg, Int.reduceAdd, Int.reduceSub, Int.reduceMul, Int.reduceToNat, Int.reducePow, Int.reduceEq, ne_eq, reduceIte, byteD, dstr, un1_str, iD, bD, pureEnd_of (fn := Tryd.f8) (rs := [.tmp 2]) (ts := [4]) rfl rfl, *])))
  | true =>
    rw [hb] at hm
    clear hb
    cases hk : scrOK s with
    | false =>
      rw [hk] at hS
      have hF := FormatNo s hs hk
      clear hk
      (refine PFn.of (prs := [(7, [(7, 8), (7, 9)])]) Tryd.func8 rfl rfl mix (by kernel_rfl) rfl rfl ?_; simp only [Tryd.ntmps8, argUpd])
      (try (simp only [↓ru, rv, rl, ry, tyf, iM, bM, bsM, cond_true, cond_false, Nat.reduceLT, Nat.reduceBEq, Nat.reduceAdd, Nat.reduceEqDiff, Nat.reduceMul, Nat.reduceLeDiff, Nat.reduceSub, Nat.reduceDiv, Int.reduceLE, Int.reduceLT, Int.reduceNeg, Int.reduceAdd, Int.reduceSub, Int.reduceMul, Int.reduceToNat, Int.reducePow, Int.reduceEq, ne_eq, reduceIte, byteD, dstr, un1_str, iD, bD, pureEnd_of (fn := Tryd.f8) (rs := [.tmp 2]) (ts := [4]) rfl rfl, *])); repeat' ((first | (refine fork_split (fun _h => ?_) (fun _h => ?_)) | (refine gfork_split (fun _h => ?_) (fun _h => ?_)) | (refine dfork_split (fun _h => ?_) (fun _h => ?_)) | (refine acall1_pure hm rfl rfl ?_) | (refine dcall1_pure hm rfl rfl ?_) | (refine acall1_pure hF rfl rfl ?_) | (refine dcall1_pure hF rfl rfl ?_) | (refine acall1_pure hS rfl rfl ?_) | (refine dcall1_pure hS rfl rfl ?_) | (refine acall1_pure Awake15 rfl rfl ?_) | (refine dcall1_pure Awake15 rfl rfl ?_)) <;> (try (simp only [↓ru, rv, rl, ry, tyf, iM, bM, bsM, cond_true, cond_false, Nat.reduceLT, Nat.reduceBEq, Nat.reduceAdd, Nat.reduceEqDiff, Nat.reduceMul, Nat.reduceLeDiff, Nat.reduceSub, Nat.reduceDiv, Int.reduceLE, Int.reduceLT, Int.reduceNeg, Int.reduceAdd, Int.reduceSub, Int.reduceMul, Int.reduceToNat, Int.reducePow, Int.reduceEq, ne_eq, reduceIte, byteD, dstr, un1_str, iD, bD, pureEnd_of (fn := Tryd.f8) (rs := [.tmp 2]) (ts := [4]) rfl rfl, *])))
    | true =>
      rw [hk] at hS
      have hF := Format s hk
      obtain ⟨h1, h2⟩ := scrOK_len hk
      have hok := scrOK_b hk
      have hT := ScriptTextR s (by omega) (by omega) (fun a ha => (hok.1 a ha).1) hok.2
      have hP := Parse (scrTxt s) (by have := txt_len s; omega)
      rw [par_ok hk] at hP
      have hSS := SameS s s ⟨by omega, by omega⟩ ⟨by omega, by omega⟩
      rw [decide_eq_true rfl] at hSS
      clear hk hok
      generalize scrTxt s = T at *
      (refine PFn.of (prs := [(7, [(7, 8), (7, 9)])]) Tryd.func8 rfl rfl mix (by kernel_rfl) rfl rfl ?_; simp only [Tryd.ntmps8, argUpd])
      (try (simp only [↓ru, rv, rl, ry, tyf, iM, bM, bsM, cond_true, cond_false, Nat.reduceLT, Nat.reduceBEq, Nat.reduceAdd, Nat.reduceEqDiff, Nat.reduceMul, Nat.reduceLeDiff, Nat.reduceSub, Nat.reduceDiv, Int.reduceLE, Int.reduceLT, Int.reduceNeg, Int.reduceAdd, Int.reduceSub, Int.reduceMul, Int.reduceToNat, Int.reducePow, Int.reduceEq, ne_eq, reduceIte, byteD, dstr, un1_str, iD, bD, decide_true, pureEnd_of (fn := Tryd.f8) (rs := [.tmp 2]) (ts := [4]) rfl rfl, *])); repeat' ((first | (refine fork_split (fun _h => ?_) (fun _h => ?_)) | (refine gfork_split (fun _h => ?_) (fun _h => ?_)) | (refine dfork_split (fun _h => ?_) (fun _h => ?_)) | (refine acall1_pure hm rfl rfl ?_) | (refine dcall1_pure hm rfl rfl ?_) | (refine acall1_pure hF rfl rfl ?_) | (refine dcall1_pure hF rfl rfl ?_) | (refine acall1_pure hS rfl rfl ?_) | (refine dcall1_pure hS rfl rfl ?_) | (refine acall1_pure hT rfl rfl ?_) | (refine dcall1_pure hT rfl rfl ?_) | (refine acall1_pure hP rfl rfl ?_) | (refine dcall1_pure hP rfl rfl ?_) | (refine acall1_pure hSS rfl rfl ?_) | (refine dcall1_pure hSS rfl rfl ?_) | (refine acall1_pure Awake15 rfl rfl ?_) | (refine dcall1_pure Awake15 rfl rfl ?_)) <;> (try (simp only [↓ru, rv, rl, ry, tyf, iM, bM, bsM, cond_true, cond_false, Nat.reduceLT, Nat.reduceBEq, Nat.reduceAdd, Nat.reduceEqDiff, Nat.reduceMul, Nat.reduceLeDiff, Nat.reduceSub, Nat.reduceDiv, Int.reduceLE, Int.reduceLT, Int.reduceNeg, Int.reduceAdd, Int.reduceSub, Int.reduceMul, Int.reduceToNat, Int.reducePow, Int.reduceEq, ne_eq, reduceIte, byteD, dstr, un1_str, iD, bD, decide_true, pureEnd_of (fn := Tryd.f8) (rs := [.tmp 2]) (ts := [4]) rfl rfl, *])))
end Go.SC

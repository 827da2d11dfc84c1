import Derived.Test.YtalbgijagdmdcaaSD
set_option linter.all false
open Go.Proofs Go.Abs Go.FaR2
namespace Go.R2
-- rules: intsM, intD, iD, bsD, bD, setM, setsM, Setg.cells, ranM, ransM, Ran.cells, tabM, slvM, slvsM, Slv.cells, objsM, Obj.cells
set_option maxHeartbeats 4000000
set_option maxRecDepth 10000

def idxI : List Int → Int → Nat → Int
  | [], _, _ => -1
  | a :: l, v, i => if v = a then i else idxI l v (i + 1)
theorem t127 (l : List Int) (v : Int) (hl : l.length ≤ 1000000) : PFn Try.prog 127 [intsM l, iM v] (iM (idxI l v 0)) := by
  refine PFn.of (prs := []) Try.func127 rfl rfl mix (by kernel_rfl) rfl rfl ?_
  simp only [Try.ntmps127, argUpd]
  simp only [↓ru, rv, rl, ry, tyf, iM, bM, bsM, cond_true, cond_false, Nat.reduceLT, Nat.reduceBEq, Nat.reduceAdd, Nat.reduceEqDiff, Nat.reduceMul, Nat.reduceLeDiff, Nat.reduceSub, Nat.reduceDiv, Int.reduceLE, Int.reduceLT, Int.reduceNeg, Int.reduceAdd, Int.reduceSub, Int.reduceMul, Int.reduceToNat, Int.reducePow, Int.reduceEq, ne_eq, reduceIte, intsM, intD, iD, bsD, bD, setM, setsM, Setg.cells, ranM, ransM, Ran.cells, tabM, slvM, slvsM, Slv.cells, objsM, Obj.cells]
  refine aloop_lv (fun s : Nat => [(0, intsM l), (1, iM v), (7, iM l.length), (8, iM s)]) (fun _ => []) (fun s => s ≤ l.length ∧ idxI (l.drop s) v s = idxI l v 0) (fun s => l.length - s) 0 0 ?_ rfl ⟨by omega, by simp⟩ (by omega) ?_
  · simp only [↓ru, rv, rl, ry, tyf, iM, bM, bsM, cond_true, cond_false, Nat.reduceLT, Nat.reduceBEq, Nat.reduceAdd, Nat.reduceEqDiff, Nat.reduceMul, Nat.reduceLeDiff, Nat.reduceSub, Nat.reduceDiv, Int.reduceLE, Int.reduceLT, Int.reduceNeg, Int.reduceAdd, Int.reduceSub, Int.reduceMul, Int.reduceToNat, Int.reducePow, Int.reduceEq, ne_eq, reduceIte, intsM, intD, iD, bsD, bD, setM, setsM, Setg.cells, ranM, ransM, Ran.cells, tabM, slvM, slvsM, Slv.cells, objsM, Obj.cells]
  · intro i e0 n ⟨hi, hr⟩
    simp only [↓ru, rv, rl, ry, tyf, iM, bM, bsM, cond_true, cond_false, Nat.reduceLT, Nat.reduceBEq, Nat.reduceAdd, Nat.reduceEqDiff, Nat.reduceMul, Nat.reduceLeDiff, Nat.reduceSub, Nat.reduceDiv, Int.reduceLE, Int.reduceLT, Int.reduceNeg, Int.reduceAdd, Int.reduceSub, Int.reduceMul, Int.reduceToNat, Int.reducePow, Int.reduceEq, ne_eq, reduceIte, intsM, intD, iD, bsD, bD, setM, setsM, Setg.cells, ranM, ransM, Ran.cells, tabM, slvM, slvsM, Slv.cells, objsM, Obj.cells]
    refine fork_split (fun h => ?_) (fun h => ?_)
    · have h' := of_decide_eq_true h
      obtain ⟨o, ho⟩ := get_of_lt (l := l) (i := i) (by omega)
      rw [List.drop_of_get ho, idxI] at hr
      simp only [↓ru, rv, rl, ry, tyf, iM, bM, bsM, cond_true, cond_false, Nat.reduceLT, Nat.reduceBEq, Nat.reduceAdd, Nat.reduceEqDiff, Nat.reduceMul, Nat.reduceLeDiff, Nat.reduceSub, Nat.reduceDiv, Int.reduceLE, Int.reduceLT, Int.reduceNeg, Int.reduceAdd, Int.reduceSub, Int.reduceMul, Int.reduceToNat, Int.reducePow, Int.reduceEq, ne_eq, reduceIte, intsM, intD, iD, bsD, bD, setM, setsM, Setg.cells, ranM, ransM, Ran.cells, tabM, slvM, slvsM, Slv.cells, objsM, Obj.cells, ho]
      by_cases hv : v = o
      · have dv : decide (v = o) = true := by simpa using hv
        rw [if_pos hv] at hr
        simp only [↓ru, rv, rl, ry, tyf, iM, bM, bsM, cond_true, cond_false, Nat.reduceLT, Nat.reduceBEq, Nat.reduceAdd, Nat.reduceEqDiff, Nat.reduceMul, Nat.reduceLeDiff, Nat.reduceSub, Nat.reduceDiv, Int.reduceLE, Int.reduceLT, Int.reduceNeg, Int.reduceAdd, Int.reduceSub, Int.reduceMul, Int.reduceToNat, Int.reducePow, Int.reduceEq, ne_eq, reduceIte, intsM, intD, iD, bsD, bD, setM, setsM, Setg.cells, ranM, ransM, Ran.cells, tabM, slvM, slvsM, Slv.cells, objsM, Obj.cells, dv, hr, pureEnd_of (fn := Try.f127) (rs := [.tmp 4]) (ts := [3]) rfl rfl]
      · have dv : decide (v = o) = false := by simpa using hv
        rw [if_neg hv] at hr
        simp only [↓ru, rv, rl, ry, tyf, iM, bM, bsM, cond_true, cond_false, Nat.reduceLT, Nat.reduceBEq, Nat.reduceAdd, Nat.reduceEqDiff, Nat.reduceMul, Nat.reduceLeDiff, Nat.reduceSub, Nat.reduceDiv, Int.reduceLE, Int.reduceLT, Int.reduceNeg, Int.reduceAdd, Int.reduceSub, Int.reduceMul, Int.reduceToNat, Int.reducePow, Int.reduceEq, ne_eq, reduceIte, intsM, intD, iD, bsD, bD, setM, setsM, Setg.cells, ranM, ransM, Ran.cells, tabM, slvM, slvsM, Slv.cells, objsM, Obj.cells, dv]
        simp (disch := omega) only [wrap_i64, wrap_u8, wrap_u16, wrap_u64]
        refine loopL_next (i + 1) ?_ rfl ⟨by omega, hr⟩ (by omega) (by omega)
        simp only [↓ru, rv, rl, ry, tyf, iM, bM, bsM, cond_true, cond_false, Nat.reduceLT, Nat.reduceBEq, Nat.reduceAdd, Nat.reduceEqDiff, Nat.reduceMul, Nat.reduceLeDiff, Nat.reduceSub, Nat.reduceDiv, Int.reduceLE, Int.reduceLT, Int.reduceNeg, Int.reduceAdd, Int.reduceSub, Int.reduceMul, Int.reduceToNat, Int.reducePow, Int.reduceEq, ne_eq, reduceIte, intsM, intD, iD, bsD, bD, setM, setsM, Setg.cells, ranM, ransM, Ran.cells, tabM, slvM, slvsM, Slv.cells, objsM, Obj.cells]
        simp
    · have h' := of_decide_eq_false h
      have : i = l.length := by omega
      subst this
      rw [List.drop_length, idxI] at hr
      simp only [↓ru, rv, rl, ry, tyf, iM, bM, bsM, cond_true, cond_false, Nat.reduceLT, Nat.reduceBEq, Nat.reduceAdd, Nat.reduceEqDiff, Nat.reduceMul, Nat.reduceLeDiff, Nat.reduceSub, Nat.reduceDiv, Int.reduceLE, Int.reduceLT, Int.reduceNeg, Int.reduceAdd, Int.reduceSub, Int.reduceMul, Int.reduceToNat, Int.reducePow, Int.reduceEq, ne_eq, reduceIte, intsM, intD, iD, bsD, bD, setM, setsM, Setg.cells, ranM, ransM, Ran.cells, tabM, slvM, slvsM, Slv.cells, objsM, Obj.cells, ← hr, pureEnd_of (fn := Try.f127) (rs := [.tmp 4]) (ts := [3]) rfl rfl]
theorem idxI_mem : ∀ (l : List Int) (v : Int) (i : Nat), decide (0 ≤ idxI l v i) = decide (v ∈ l)
  | [], v, i => by simp [idxI]
  | a :: l, v, i => by
    rw [idxI]
    by_cases h : v = a
    · simp [h]
    · rw [if_neg h, idxI_mem l v (i + 1)]
      simp [h]
theorem t119 (l : List Int) (v : Int) (hl : l.length ≤ 1000000) : PFn Try.prog 119 [intsM l, iM v] (bM (decide (v ∈ l))) := by
  refine PFn.of (prs := []) Try.func119 rfl rfl mix (by kernel_rfl) rfl rfl ?_
  simp only [Try.ntmps119, argUpd]
  simp only [↓ru, rv, rl, ry, tyf, iM, bM, bsM, cond_true, cond_false, Nat.reduceLT, Nat.reduceBEq, Nat.reduceAdd, Nat.reduceEqDiff, Nat.reduceMul, Nat.reduceLeDiff, Nat.reduceSub, Nat.reduceDiv, Int.reduceLE, Int.reduceLT, Int.reduceNeg, Int.reduceAdd, Int.reduceSub, Int.reduceMul, Int.reduceToNat, Int.reducePow, Int.reduceEq, ne_eq, reduceIte, intsM, intD, iD, bsD, bD, setM, setsM, Setg.cells, ranM, ransM, Ran.cells, tabM, slvM, slvsM, Slv.cells, objsM, Obj.cells]
  refine acall1_pure (t127 l v hl) rfl rfl ?_
  simp only [↓ru, rv, rl, ry, tyf, iM, bM, bsM, cond_true, cond_false, Nat.reduceLT, Nat.reduceBEq, Nat.reduceAdd, Nat.reduceEqDiff, Nat.reduceMul, Nat.reduceLeDiff, Nat.reduceSub, Nat.reduceDiv, Int.reduceLE, Int.reduceLT, Int.reduceNeg, Int.reduceAdd, Int.reduceSub, Int.reduceMul, Int.reduceToNat, Int.reducePow, Int.reduceEq, ne_eq, reduceIte, intsM, intD, iD, bsD, bD, setM, setsM, Setg.cells, ranM, ransM, Ran.cells, tabM, slvM, slvsM, Slv.cells, objsM, Obj.cells, idxI_mem, pureEnd_of (fn := Try.f119) (rs := [.tmp 4]) (ts := [4]) rfl rfl]

def bauds : List Int := [1200, 2400, 4800, 9600, 19200, 38400, 57600, 115200]
theorem t120 : PFn Try.prog 120 [] (intsM bauds) := by
  refine PFn.of (prs := []) Try.func120 rfl rfl mix (by kernel_rfl) rfl rfl ?_
  simp only [Try.ntmps120, argUpd]
  simp only [↓ru, rv, rl, ry, tyf, iM, bM, bsM, cond_true, cond_false, Nat.reduceLT, Nat.reduceBEq, Nat.reduceAdd, Nat.reduceEqDiff, Nat.reduceMul, Nat.reduceLeDiff, Nat.reduceSub, Nat.reduceDiv, Int.reduceLE, Int.reduceLT, Int.reduceNeg, Int.reduceAdd, Int.reduceSub, Int.reduceMul, Int.reduceToNat, Int.reducePow, Int.reduceEq, ne_eq, reduceIte, intsM, intD, iD, bsD, bD, setM, setsM, Setg.cells, ranM, ransM, Ran.cells, tabM, slvM, slvsM, Slv.cells, objsM, Obj.cells, pureEnd_of (fn := Try.f120) (rs := [.tmp 0]) (ts := [138]) rfl rfl]
  rfl
theorem t126 : PFn Try.prog 126 [] (intsM bauds) := by
  refine PFn.of (prs := []) Try.func126 rfl rfl mix (by kernel_rfl) rfl rfl ?_
  simp only [Try.ntmps126, argUpd]
  simp only [↓ru, rv, rl, ry, tyf, iM, bM, bsM, cond_true, cond_false, Nat.reduceLT, Nat.reduceBEq, Nat.reduceAdd, Nat.reduceEqDiff, Nat.reduceMul, Nat.reduceLeDiff, Nat.reduceSub, Nat.reduceDiv, Int.reduceLE, Int.reduceLT, Int.reduceNeg, Int.reduceAdd, Int.reduceSub, Int.reduceMul, Int.reduceToNat, Int.reducePow, Int.reduceEq, ne_eq, reduceIte, intsM, intD, iD, bsD, bD, setM, setsM, Setg.cells, ranM, ransM, Ran.cells, tabM, slvM, slvsM, Slv.cells, objsM, Obj.cells, pureEnd_of (fn := Try.f126) (rs := [.tmp 0]) (ts := [138]) rfl rfl]
  rfl
def setF (s : Setg) : Bool := decide (s.baud ∈ bauds ∧ 0 ≤ s.par ∧ s.par ≤ 2)
theorem t98 (s : Setg) : PFn Try.prog 98 [setM s] (bM (setF s)) := by
  refine PFn.of (prs := [(1, [(0, 1), (0, 2)])]) Try.func98 rfl rfl mix (by kernel_rfl) rfl rfl ?_
  simp only [Try.ntmps98, argUpd]
  simp only [↓ru, rv, rl, ry, tyf, iM, bM, bsM, cond_true, cond_false, Nat.reduceLT, Nat.reduceBEq, Nat.reduceAdd, Nat.reduceEqDiff, Nat.reduceMul, Nat.reduceLeDiff, Nat.reduceSub, Nat.reduceDiv, Int.reduceLE, Int.reduceLT, Int.reduceNeg, Int.reduceAdd, Int.reduceSub, Int.reduceMul, Int.reduceToNat, Int.reducePow, Int.reduceEq, ne_eq, reduceIte, intsM, intD, iD, bsD, bD, setM, setsM, Setg.cells, ranM, ransM, Ran.cells, tabM, slvM, slvsM, Slv.cells, objsM, Obj.cells]
  refine dcall1_pure t120 rfl rfl ?_
  simp only [↓ru, rv, rl, ry, tyf, iM, bM, bsM, cond_true, cond_false, Nat.reduceLT, Nat.reduceBEq, Nat.reduceAdd, Nat.reduceEqDiff, Nat.reduceMul, Nat.reduceLeDiff, Nat.reduceSub, Nat.reduceDiv, Int.reduceLE, Int.reduceLT, Int.reduceNeg, Int.reduceAdd, Int.reduceSub, Int.reduceMul, Int.reduceToNat, Int.reducePow, Int.reduceEq, ne_eq, reduceIte, intsM, intD, iD, bsD, bD, setM, setsM, Setg.cells, ranM, ransM, Ran.cells, tabM, slvM, slvsM, Slv.cells, objsM, Obj.cells]
  refine dcall1_pure (t119 bauds s.baud (by simp [bauds])) rfl rfl ?_
  simp only [↓ru, rv, rl, ry, tyf, iM, bM, bsM, cond_true, cond_false, Nat.reduceLT, Nat.reduceBEq, Nat.reduceAdd, Nat.reduceEqDiff, Nat.reduceMul, Nat.reduceLeDiff, Nat.reduceSub, Nat.reduceDiv, Int.reduceLE, Int.reduceLT, Int.reduceNeg, Int.reduceAdd, Int.reduceSub, Int.reduceMul, Int.reduceToNat, Int.reducePow, Int.reduceEq, ne_eq, reduceIte, intsM, intD, iD, bsD, bD, setM, setsM, Setg.cells, ranM, ransM, Ran.cells, tabM, slvM, slvsM, Slv.cells, objsM, Obj.cells]
  (try (simp only [↓ru, rv, rl, ry, tyf, iM, bM, bsM, cond_true, cond_false, Nat.reduceLT, Nat.reduceBEq, Nat.reduceAdd, Nat.reduceEqDiff, Nat.reduceMul, Nat.reduceLeDiff, Nat.reduceSub, Nat.reduceDiv, Int.reduceLE, Int.reduceLT, Int.reduceNeg, Int.reduceAdd, Int.reduceSub, Int.reduceMul, Int.reduceToNat, Int.reducePow, Int.reduceEq, ne_eq, reduceIte, intsM, intD, iD, bsD, bD, setM, setsM, Setg.cells, ranM, ransM, Ran.cells, tabM, slvM, slvsM, Slv.cells, objsM, Obj.cells, pureEnd_of (fn := Try.f98) (rs := [.tmp 2]) (ts := [4]) rfl rfl, *])); repeat' ((first | (refine fork_split (fun _h => ?_) (fun _h => ?_)) | (refine gfork_split (fun _h => ?_) (fun _h => ?_)) | (refine dfork_split (fun _h => ?_) (fun _h => ?_))) <;> (try (simp only [↓ru, rv, rl, ry, tyf, iM, bM, bsM, cond_true, cond_false, Nat.reduceLT, Nat.reduceBEq, Nat.reduceAdd, Nat.reduceEqDiff, Nat.reduceMul, Nat.reduceLeDiff, Nat.reduceSub, Nat.reduceDiv, Int.reduceLE, Int.reduceLT, Int.reduceNeg, Int.reduceAdd, Int.reduceSub, Int.reduceMul, Int.reduceToNat, Int.reducePow, Int.reduceEq, ne_eq, reduceIte, intsM, intD, iD, bsD, bD, setM, setsM, Setg.cells, ranM, ransM, Ran.cells, tabM, slvM, slvsM, Slv.cells, objsM, Obj.cells, pureEnd_of (fn := Try.f98) (rs := [.tmp 2]) (ts := [4]) rfl rfl, *])))
  all_goals simp_all [setF]
  all_goals omega

def allS : List Setg := bauds.flatMap fun b => [⟨b, 0⟩, ⟨b, 1⟩, ⟨b, 2⟩]
theorem t112 : PFn Try.prog 112 [] (setsM allS) := by
  refine PFn.of (prs := []) Try.func112 rfl rfl mix (by kernel_rfl) rfl rfl ?_
  simp only [Try.ntmps112, argUpd]
  simp only [↓ru, rv, rl, ry, tyf, iM, bM, bsM, cond_true, cond_false, Nat.reduceLT, Nat.reduceBEq, Nat.reduceAdd, Nat.reduceEqDiff, Nat.reduceMul, Nat.reduceLeDiff, Nat.reduceSub, Nat.reduceDiv, Int.reduceLE, Int.reduceLT, Int.reduceNeg, Int.reduceAdd, Int.reduceSub, Int.reduceMul, Int.reduceToNat, Int.reducePow, Int.reduceEq, ne_eq, reduceIte, intsM, intD, iD, bsD, bD, setM, setsM, Setg.cells, ranM, ransM, Ran.cells, tabM, slvM, slvsM, Slv.cells, objsM, Obj.cells]
  refine acall1_pure t126 rfl rfl ?_
  simp only [↓ru, rv, rl, ry, tyf, iM, bM, bsM, cond_true, cond_false, Nat.reduceLT, Nat.reduceBEq, Nat.reduceAdd, Nat.reduceEqDiff, Nat.reduceMul, Nat.reduceLeDiff, Nat.reduceSub, Nat.reduceDiv, Int.reduceLE, Int.reduceLT, Int.reduceNeg, Int.reduceAdd, Int.reduceSub, Int.reduceMul, Int.reduceToNat, Int.reducePow, Int.reduceEq, ne_eq, reduceIte, intsM, intD, iD, bsD, bD, setM, setsM, Setg.cells, ranM, ransM, Ran.cells, tabM, slvM, slvsM, Slv.cells, objsM, Obj.cells, bauds, intD]
  repeat' (first | (refine unR_next ?_; (try (simp only [↓ru, rv, rl, ry, tyf, iM, bM, bsM, cond_true, cond_false, Nat.reduceLT, Nat.reduceBEq, Nat.reduceAdd, Nat.reduceEqDiff, Nat.reduceMul, Nat.reduceLeDiff, Nat.reduceSub, Nat.reduceDiv, Int.reduceLE, Int.reduceLT, Int.reduceNeg, Int.reduceAdd, Int.reduceSub, Int.reduceMul, Int.reduceToNat, Int.reducePow, Int.reduceEq, ne_eq, reduceIte, intsM, intD, iD, bsD, bD, setM, setsM, Setg.cells, ranM, ransM, Ran.cells, tabM, slvM, slvsM, Slv.cells, objsM, Obj.cells, unR_ret, unR_exit, wrap_i64, wrap_u8, wrap_u16]))) | (refine aloop_unroll 30 ?_; (simp only [↓ru, rv, rl, ry, tyf, iM, bM, bsM, cond_true, cond_false, Nat.reduceLT, Nat.reduceBEq, Nat.reduceAdd, Nat.reduceEqDiff, Nat.reduceMul, Nat.reduceLeDiff, Nat.reduceSub, Nat.reduceDiv, Int.reduceLE, Int.reduceLT, Int.reduceNeg, Int.reduceAdd, Int.reduceSub, Int.reduceMul, Int.reduceToNat, Int.reducePow, Int.reduceEq, ne_eq, reduceIte, intsM, intD, iD, bsD, bD, setM, setsM, Setg.cells, ranM, ransM, Ran.cells, tabM, slvM, slvsM, Slv.cells, objsM, Obj.cells, unR_ret, unR_exit, wrap_i64, wrap_u8, wrap_u16])))
  simp only [↓ru, rv, rl, ry, tyf, iM, bM, bsM, cond_true, cond_false, Nat.reduceLT, Nat.reduceBEq, Nat.reduceAdd, Nat.reduceEqDiff, Nat.reduceMul, Nat.reduceLeDiff, Nat.reduceSub, Nat.reduceDiv, Int.reduceLE, Int.reduceLT, Int.reduceNeg, Int.reduceAdd, Int.reduceSub, Int.reduceMul, Int.reduceToNat, Int.reducePow, Int.reduceEq, ne_eq, reduceIte, intsM, intD, iD, bsD, bD, setM, setsM, Setg.cells, ranM, ransM, Ran.cells, tabM, slvM, slvsM, Slv.cells, objsM, Obj.cells, pureEnd_of (fn := Try.f112) (rs := [.tmp 0]) (ts := [133]) rfl rfl]
  rfl
end Go.R2

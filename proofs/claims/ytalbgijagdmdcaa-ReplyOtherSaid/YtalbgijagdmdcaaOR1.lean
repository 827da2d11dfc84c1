import Derived.Test.YtalbgijagdmdcaaOFaR2
import Derived.Test.YtalbgijagdmdcaaOAbs4
set_option linter.all false
open Go.Proofs Go.Abs Go.FaR2
namespace Go.R2
-- rules: repM, objsM, Obj.cells, iD, bsD, bD
set_option maxHeartbeats 4000000
set_option maxRecDepth 10000

def limitF (f : Int) : Int := if f = 1 ∨ f = 2 then 2000 else if f = 3 ∨ f = 4 then 125 else 0
def tabF (f : Int) : Bool := decide (1 ≤ f ∧ f ≤ 4)
def knownF (f : Int) : Bool := decide ((1 ≤ f ∧ f ≤ 4) ∨ f = 17 ∨ f = 43)

structure Obj where
  id : Int
  val : List UInt8
def Obj.cells (o : Obj) : List D := [iD o.id, bsD o.val]
structure Rep where
  fn : Int
  ex : Int
  data : List UInt8
  code : Int
  level : Int
  more : Bool
  next : Int
  objs : List Obj
abbrev objsM (l : List Obj) : M := .d (.sl 2 (l.map Obj.cells))
abbrev repM (r : Rep) : M := .agg [iM r.fn, iM r.ex, bsM r.data, iM r.code, iM r.level, bM r.more, iM r.next, objsM r.objs]

theorem t117 (f : Int) : PFn Try.prog 117 [iM f] (iM (limitF f)) := by
  refine PFn.of (prs := []) Try.func117 rfl rfl mix (by kernel_rfl) rfl rfl ?_
  simp only [Try.ntmps117, argUpd]
  simp only [↓ru, rv, rl, ry, tyf, iM, bM, bsM, cond_true, cond_false, Nat.reduceLT, Nat.reduceBEq, Nat.reduceAdd, Nat.reduceEqDiff, Nat.reduceMul, Nat.reduceLeDiff, Nat.reduceSub, Nat.reduceDiv, Int.reduceLE, Int.reduceLT, Int.reduceNeg, Int.reduceAdd, Int.reduceSub, Int.reduceMul, Int.reduceToNat, Int.reducePow, Int.reduceEq, ne_eq, reduceIte, repM, objsM, Obj.cells, iD, bsD, bD, pureEnd_of (fn := Try.f117) (rs := [.tmp 2]) (ts := [3]) rfl rfl]
  repeat' ((first | (refine fork_split (fun _h => ?_) (fun _h => ?_)) | (refine gfork_split (fun _h => ?_) (fun _h => ?_)) | (refine dfork_split (fun _h => ?_) (fun _h => ?_))) <;> (try (simp only [↓ru, rv, rl, ry, tyf, iM, bM, bsM, cond_true, cond_false, Nat.reduceLT, Nat.reduceBEq, Nat.reduceAdd, Nat.reduceEqDiff, Nat.reduceMul, Nat.reduceLeDiff, Nat.reduceSub, Nat.reduceDiv, Int.reduceLE, Int.reduceLT, Int.reduceNeg, Int.reduceAdd, Int.reduceSub, Int.reduceMul, Int.reduceToNat, Int.reducePow, Int.reduceEq, ne_eq, reduceIte, repM, objsM, Obj.cells, iD, bsD, bD, pureEnd_of (fn := Try.f117) (rs := [.tmp 2]) (ts := [3]) rfl rfl, *])))
  all_goals simp_all [limitF]

theorem t116 (f : Int) : PFn Try.prog 116 [iM f] (bM (tabF f)) := by
  refine PFn.of (prs := []) Try.func116 rfl rfl mix (by kernel_rfl) rfl rfl ?_
  simp only [Try.ntmps116, argUpd]
  simp only [↓ru, rv, rl, ry, tyf, iM, bM, bsM, cond_true, cond_false, Nat.reduceLT, Nat.reduceBEq, Nat.reduceAdd, Nat.reduceEqDiff, Nat.reduceMul, Nat.reduceLeDiff, Nat.reduceSub, Nat.reduceDiv, Int.reduceLE, Int.reduceLT, Int.reduceNeg, Int.reduceAdd, Int.reduceSub, Int.reduceMul, Int.reduceToNat, Int.reducePow, Int.reduceEq, ne_eq, reduceIte, repM, objsM, Obj.cells, iD, bsD, bD, pureEnd_of (fn := Try.f116) (rs := [.tmp 2]) (ts := [4]) rfl rfl]
  repeat' ((first | (refine fork_split (fun _h => ?_) (fun _h => ?_)) | (refine gfork_split (fun _h => ?_) (fun _h => ?_)) | (refine dfork_split (fun _h => ?_) (fun _h => ?_))) <;> (try (simp only [↓ru, rv, rl, ry, tyf, iM, bM, bsM, cond_true, cond_false, Nat.reduceLT, Nat.reduceBEq, Nat.reduceAdd, Nat.reduceEqDiff, Nat.reduceMul, Nat.reduceLeDiff, Nat.reduceSub, Nat.reduceDiv, Int.reduceLE, Int.reduceLT, Int.reduceNeg, Int.reduceAdd, Int.reduceSub, Int.reduceMul, Int.reduceToNat, Int.reducePow, Int.reduceEq, ne_eq, reduceIte, repM, objsM, Obj.cells, iD, bsD, bD, pureEnd_of (fn := Try.f116) (rs := [.tmp 2]) (ts := [4]) rfl rfl, *])))
  all_goals simp_all [tabF]
  all_goals omega

theorem t115 (f : Int) : PFn Try.prog 115 [iM f] (bM (tabF f)) := by
  refine PFn.of (prs := []) Try.func115 rfl rfl mix (by kernel_rfl) rfl rfl ?_
  simp only [Try.ntmps115, argUpd]
  simp only [↓ru, rv, rl, ry, tyf, iM, bM, bsM, cond_true, cond_false, Nat.reduceLT, Nat.reduceBEq, Nat.reduceAdd, Nat.reduceEqDiff, Nat.reduceMul, Nat.reduceLeDiff, Nat.reduceSub, Nat.reduceDiv, Int.reduceLE, Int.reduceLT, Int.reduceNeg, Int.reduceAdd, Int.reduceSub, Int.reduceMul, Int.reduceToNat, Int.reducePow, Int.reduceEq, ne_eq, reduceIte, repM, objsM, Obj.cells, iD, bsD, bD, pureEnd_of (fn := Try.f115) (rs := [.tmp 2]) (ts := [4]) rfl rfl]
  repeat' ((first | (refine fork_split (fun _h => ?_) (fun _h => ?_)) | (refine gfork_split (fun _h => ?_) (fun _h => ?_)) | (refine dfork_split (fun _h => ?_) (fun _h => ?_)) | (refine acall1_pure (t117 _) rfl rfl ?_) | (refine dcall1_pure (t117 _) rfl rfl ?_)) <;> (try (simp only [↓ru, rv, rl, ry, tyf, iM, bM, bsM, cond_true, cond_false, Nat.reduceLT, Nat.reduceBEq, Nat.reduceAdd, Nat.reduceEqDiff, Nat.reduceMul, Nat.reduceLeDiff, Nat.reduceSub, Nat.reduceDiv, Int.reduceLE, Int.reduceLT, Int.reduceNeg, Int.reduceAdd, Int.reduceSub, Int.reduceMul, Int.reduceToNat, Int.reducePow, Int.reduceEq, ne_eq, reduceIte, repM, objsM, Obj.cells, iD, bsD, bD, pureEnd_of (fn := Try.f115) (rs := [.tmp 2]) (ts := [4]) rfl rfl, *])))
  simp [limitF, tabF]
  split
  · simp; omega
  · split
    · simp; omega
    · simp; omega

theorem t87 (f : Int) : PFn Try.prog 87 [iM f] (bM (knownF f)) := by
  refine PFn.of (prs := []) Try.func87 rfl rfl mix (by kernel_rfl) rfl rfl ?_
  simp only [Try.ntmps87, argUpd]
  simp only [↓ru, rv, rl, ry, tyf, iM, bM, bsM, cond_true, cond_false, Nat.reduceLT, Nat.reduceBEq, Nat.reduceAdd, Nat.reduceEqDiff, Nat.reduceMul, Nat.reduceLeDiff, Nat.reduceSub, Nat.reduceDiv, Int.reduceLE, Int.reduceLT, Int.reduceNeg, Int.reduceAdd, Int.reduceSub, Int.reduceMul, Int.reduceToNat, Int.reducePow, Int.reduceEq, ne_eq, reduceIte, repM, objsM, Obj.cells, iD, bsD, bD, pureEnd_of (fn := Try.f87) (rs := [.tmp 2]) (ts := [4]) rfl rfl]
  repeat' ((first | (refine fork_split (fun _h => ?_) (fun _h => ?_)) | (refine gfork_split (fun _h => ?_) (fun _h => ?_)) | (refine dfork_split (fun _h => ?_) (fun _h => ?_)) | (refine acall1_pure (t115 _) rfl rfl ?_) | (refine dcall1_pure (t115 _) rfl rfl ?_)) <;> (try (simp only [↓ru, rv, rl, ry, tyf, iM, bM, bsM, cond_true, cond_false, Nat.reduceLT, Nat.reduceBEq, Nat.reduceAdd, Nat.reduceEqDiff, Nat.reduceMul, Nat.reduceLeDiff, Nat.reduceSub, Nat.reduceDiv, Int.reduceLE, Int.reduceLT, Int.reduceNeg, Int.reduceAdd, Int.reduceSub, Int.reduceMul, Int.reduceToNat, Int.reducePow, Int.reduceEq, ne_eq, reduceIte, repM, objsM, Obj.cells, iD, bsD, bD, pureEnd_of (fn := Try.f87) (rs := [.tmp 2]) (ts := [4]) rfl rfl, *])))
  all_goals simp_all [tabF, knownF]
  all_goals omega

theorem t90 (f : Int) : PFn Try.prog 90 [iM f] (bM (knownF f)) := by
  refine PFn.of (prs := []) Try.func90 rfl rfl mix (by kernel_rfl) rfl rfl ?_
  simp only [Try.ntmps90, argUpd]
  simp only [↓ru, rv, rl, ry, tyf, iM, bM, bsM, cond_true, cond_false, Nat.reduceLT, Nat.reduceBEq, Nat.reduceAdd, Nat.reduceEqDiff, Nat.reduceMul, Nat.reduceLeDiff, Nat.reduceSub, Nat.reduceDiv, Int.reduceLE, Int.reduceLT, Int.reduceNeg, Int.reduceAdd, Int.reduceSub, Int.reduceMul, Int.reduceToNat, Int.reducePow, Int.reduceEq, ne_eq, reduceIte, repM, objsM, Obj.cells, iD, bsD, bD, pureEnd_of (fn := Try.f90) (rs := [.tmp 2]) (ts := [4]) rfl rfl]
  repeat' ((first | (refine fork_split (fun _h => ?_) (fun _h => ?_)) | (refine gfork_split (fun _h => ?_) (fun _h => ?_)) | (refine dfork_split (fun _h => ?_) (fun _h => ?_))) <;> (try (simp only [↓ru, rv, rl, ry, tyf, iM, bM, bsM, cond_true, cond_false, Nat.reduceLT, Nat.reduceBEq, Nat.reduceAdd, Nat.reduceEqDiff, Nat.reduceMul, Nat.reduceLeDiff, Nat.reduceSub, Nat.reduceDiv, Int.reduceLE, Int.reduceLT, Int.reduceNeg, Int.reduceAdd, Int.reduceSub, Int.reduceMul, Int.reduceToNat, Int.reducePow, Int.reduceEq, ne_eq, reduceIte, repM, objsM, Obj.cells, iD, bsD, bD, pureEnd_of (fn := Try.f90) (rs := [.tmp 2]) (ts := [4]) rfl rfl, *])))
  all_goals simp_all [knownF]
  all_goals omega

def plainF (r : Rep) : Bool := decide (r.code = 0 ∧ r.level = 0 ∧ r.more = false ∧ r.next = 0 ∧ r.objs = [])
theorem t88 (r : Rep) : PFn Try.prog 88 [repM r] (bM (plainF r)) := by
  refine PFn.of (prs := []) Try.func88 rfl rfl mix (by kernel_rfl) rfl rfl ?_
  simp only [Try.ntmps88, argUpd]
  simp only [↓ru, rv, rl, ry, tyf, iM, bM, bsM, cond_true, cond_false, Nat.reduceLT, Nat.reduceBEq, Nat.reduceAdd, Nat.reduceEqDiff, Nat.reduceMul, Nat.reduceLeDiff, Nat.reduceSub, Nat.reduceDiv, Int.reduceLE, Int.reduceLT, Int.reduceNeg, Int.reduceAdd, Int.reduceSub, Int.reduceMul, Int.reduceToNat, Int.reducePow, Int.reduceEq, ne_eq, reduceIte, repM, objsM, Obj.cells, iD, bsD, bD, pureEnd_of (fn := Try.f88) (rs := [.tmp 2]) (ts := [4]) rfl rfl, repM, objsM]
  repeat' ((first | (refine fork_split (fun _h => ?_) (fun _h => ?_)) | (refine gfork_split (fun _h => ?_) (fun _h => ?_)) | (refine dfork_split (fun _h => ?_) (fun _h => ?_))) <;> (try (simp only [↓ru, rv, rl, ry, tyf, iM, bM, bsM, cond_true, cond_false, Nat.reduceLT, Nat.reduceBEq, Nat.reduceAdd, Nat.reduceEqDiff, Nat.reduceMul, Nat.reduceLeDiff, Nat.reduceSub, Nat.reduceDiv, Int.reduceLE, Int.reduceLT, Int.reduceNeg, Int.reduceAdd, Int.reduceSub, Int.reduceMul, Int.reduceToNat, Int.reducePow, Int.reduceEq, ne_eq, reduceIte, repM, objsM, Obj.cells, iD, bsD, bD, pureEnd_of (fn := Try.f88) (rs := [.tmp 2]) (ts := [4]) rfl rfl, repM, objsM, *])))
  all_goals simp_all [plainF]


def smallObjs (l : List Obj) : Bool := l.all (fun o => decide (o.val.length ≤ 300)) && decide (l.length ≤ 40)

theorem get_of_lt {α : Type} {l : List α} {i : Nat} (h : i < l.length) : ∃ o, l[i]? = some o := ⟨l[i], by simp [h]⟩
theorem List.drop_of_get {α : Type} {l : List α} {i : Nat} {o : α} (ho : l[i]? = some o) : l.drop i = o :: l.drop (i + 1) := by
  obtain ⟨h, rfl⟩ := List.getElem?_eq_some_iff.1 ho
  exact List.drop_eq_getElem_cons h
theorem take_all_succ {α : Type} {l : List α} {p : α → Bool} {i : Nat} {o : α} (ho : l[i]? = some o) (h1 : (l.take i).all p = true) (h2 : p o = true) : (l.take (i + 1)).all p = true := by
  rw [List.take_add_one, ho]
  simp only [List.all_append, h1]
  simp [h2]
theorem all_false_of {α : Type} {l : List α} {p : α → Bool} {i : Nat} {o : α} (ho : l[i]? = some o) (h2 : p o = false) : l.all p = false := by
  have := List.mem_of_getElem? ho
  rw [List.all_eq_false]
  exact ⟨o, this, by simp [h2]⟩

theorem t76 (l : List Obj) (hl : l.length ≤ 9223372036854775807) : PFn Try.prog 76 [objsM l] (bM (smallObjs l)) := by
  refine PFn.of (prs := []) Try.func76 rfl rfl mix (by kernel_rfl) rfl rfl ?_
  simp only [Try.ntmps76, argUpd]
  simp only [↓ru, rv, rl, ry, tyf, iM, bM, bsM, cond_true, cond_false, Nat.reduceLT, Nat.reduceBEq, Nat.reduceAdd, Nat.reduceEqDiff, Nat.reduceMul, Nat.reduceLeDiff, Nat.reduceSub, Nat.reduceDiv, Int.reduceLE, Int.reduceLT, Int.reduceNeg, Int.reduceAdd, Int.reduceSub, Int.reduceMul, Int.reduceToNat, Int.reducePow, Int.reduceEq, ne_eq, reduceIte, repM, objsM, Obj.cells, iD, bsD, bD, objsM]
  refine aloop_lv (fun s : Nat => [(0, objsM l), (3, iM s)]) (fun _ => []) (fun s => s ≤ l.length ∧ (l.take s).all (fun o => decide (o.val.length ≤ 300)) = true) (fun s => l.length - s) 0 0 ?_ rfl ⟨by omega, by simp⟩ (by omega) ?_
  · simp only [↓ru, rv, rl, ry, tyf, iM, bM, bsM, cond_true, cond_false, Nat.reduceLT, Nat.reduceBEq, Nat.reduceAdd, Nat.reduceEqDiff, Nat.reduceMul, Nat.reduceLeDiff, Nat.reduceSub, Nat.reduceDiv, Int.reduceLE, Int.reduceLT, Int.reduceNeg, Int.reduceAdd, Int.reduceSub, Int.reduceMul, Int.reduceToNat, Int.reducePow, Int.reduceEq, ne_eq, reduceIte, repM, objsM, Obj.cells, iD, bsD, bD]
  · intro i e0 n ⟨hi, hall⟩
    simp only [↓ru, rv, rl, ry, tyf, iM, bM, bsM, cond_true, cond_false, Nat.reduceLT, Nat.reduceBEq, Nat.reduceAdd, Nat.reduceEqDiff, Nat.reduceMul, Nat.reduceLeDiff, Nat.reduceSub, Nat.reduceDiv, Int.reduceLE, Int.reduceLT, Int.reduceNeg, Int.reduceAdd, Int.reduceSub, Int.reduceMul, Int.reduceToNat, Int.reducePow, Int.reduceEq, ne_eq, reduceIte, repM, objsM, Obj.cells, iD, bsD, bD, objsM]
    refine fork_split (fun h => ?_) (fun h => ?_)
    · have h' := of_decide_eq_true h
      obtain ⟨o, ho⟩ := get_of_lt (l := l) (i := i) (by omega)
      simp only [↓ru, rv, rl, ry, tyf, iM, bM, bsM, cond_true, cond_false, Nat.reduceLT, Nat.reduceBEq, Nat.reduceAdd, Nat.reduceEqDiff, Nat.reduceMul, Nat.reduceLeDiff, Nat.reduceSub, Nat.reduceDiv, Int.reduceLE, Int.reduceLT, Int.reduceNeg, Int.reduceAdd, Int.reduceSub, Int.reduceMul, Int.reduceToNat, Int.reducePow, Int.reduceEq, ne_eq, reduceIte, repM, objsM, Obj.cells, iD, bsD, bD, ho, Obj.cells, iD, bsD]
      refine fork_split (fun h2 => ?_) (fun h2 => ?_)
      · simp only [↓ru, rv, rl, ry, tyf, iM, bM, bsM, cond_true, cond_false, Nat.reduceLT, Nat.reduceBEq, Nat.reduceAdd, Nat.reduceEqDiff, Nat.reduceMul, Nat.reduceLeDiff, Nat.reduceSub, Nat.reduceDiv, Int.reduceLE, Int.reduceLT, Int.reduceNeg, Int.reduceAdd, Int.reduceSub, Int.reduceMul, Int.reduceToNat, Int.reducePow, Int.reduceEq, ne_eq, reduceIte, repM, objsM, Obj.cells, iD, bsD, bD, pureEnd_of (fn := Try.f76) (rs := [.tmp 2]) (ts := [4]) rfl rfl]
        have := of_decide_eq_true h2
        rw [smallObjs, all_false_of ho (by simp; omega)]
        rfl
      · simp only [↓ru, rv, rl, ry, tyf, iM, bM, bsM, cond_true, cond_false, Nat.reduceLT, Nat.reduceBEq, Nat.reduceAdd, Nat.reduceEqDiff, Nat.reduceMul, Nat.reduceLeDiff, Nat.reduceSub, Nat.reduceDiv, Int.reduceLE, Int.reduceLT, Int.reduceNeg, Int.reduceAdd, Int.reduceSub, Int.reduceMul, Int.reduceToNat, Int.reducePow, Int.reduceEq, ne_eq, reduceIte, repM, objsM, Obj.cells, iD, bsD, bD]
        simp (disch := omega) only [wrap_i64, wrap_u8, wrap_u16, wrap_u64]
        have := of_decide_eq_false h2
        refine loopL_next (i + 1) ?_ rfl ⟨by omega, take_all_succ ho hall (by simp; omega)⟩ (by omega) (by omega)
        simp only [↓ru, rv, rl, ry, tyf, iM, bM, bsM, cond_true, cond_false, Nat.reduceLT, Nat.reduceBEq, Nat.reduceAdd, Nat.reduceEqDiff, Nat.reduceMul, Nat.reduceLeDiff, Nat.reduceSub, Nat.reduceDiv, Int.reduceLE, Int.reduceLT, Int.reduceNeg, Int.reduceAdd, Int.reduceSub, Int.reduceMul, Int.reduceToNat, Int.reducePow, Int.reduceEq, ne_eq, reduceIte, repM, objsM, Obj.cells, iD, bsD, bD]
        simp
    · have h' := of_decide_eq_false h
      simp only [↓ru, rv, rl, ry, tyf, iM, bM, bsM, cond_true, cond_false, Nat.reduceLT, Nat.reduceBEq, Nat.reduceAdd, Nat.reduceEqDiff, Nat.reduceMul, Nat.reduceLeDiff, Nat.reduceSub, Nat.reduceDiv, Int.reduceLE, Int.reduceLT, Int.reduceNeg, Int.reduceAdd, Int.reduceSub, Int.reduceMul, Int.reduceToNat, Int.reducePow, Int.reduceEq, ne_eq, reduceIte, repM, objsM, Obj.cells, iD, bsD, bD, pureEnd_of (fn := Try.f76) (rs := [.tmp 2]) (ts := [4]) rfl rfl]
      have : i = l.length := by omega
      subst this
      rw [List.take_length] at hall
      rw [smallObjs, hall]
      simp
      omega

def smallRep (r : Rep) : Bool := decide (r.data.length ≤ 300) && smallObjs r.objs
theorem t44 (r : Rep) (hl : r.objs.length ≤ 9223372036854775807) : PFn Try.prog 44 [repM r] (bM (smallRep r)) := by
  refine PFn.of (prs := []) Try.func44 rfl rfl mix (by kernel_rfl) rfl rfl ?_
  simp only [Try.ntmps44, argUpd]
  simp only [↓ru, rv, rl, ry, tyf, iM, bM, bsM, cond_true, cond_false, Nat.reduceLT, Nat.reduceBEq, Nat.reduceAdd, Nat.reduceEqDiff, Nat.reduceMul, Nat.reduceLeDiff, Nat.reduceSub, Nat.reduceDiv, Int.reduceLE, Int.reduceLT, Int.reduceNeg, Int.reduceAdd, Int.reduceSub, Int.reduceMul, Int.reduceToNat, Int.reducePow, Int.reduceEq, ne_eq, reduceIte, repM, objsM, Obj.cells, iD, bsD, bD, repM, objsM]
  repeat' ((first | (refine fork_split (fun _h => ?_) (fun _h => ?_)) | (refine gfork_split (fun _h => ?_) (fun _h => ?_)) | (refine dfork_split (fun _h => ?_) (fun _h => ?_)) | (refine acall1_pure (t76 _ hl) rfl rfl ?_) | (refine dcall1_pure (t76 _ hl) rfl rfl ?_)) <;> (try (simp only [↓ru, rv, rl, ry, tyf, iM, bM, bsM, cond_true, cond_false, Nat.reduceLT, Nat.reduceBEq, Nat.reduceAdd, Nat.reduceEqDiff, Nat.reduceMul, Nat.reduceLeDiff, Nat.reduceSub, Nat.reduceDiv, Int.reduceLE, Int.reduceLT, Int.reduceNeg, Int.reduceAdd, Int.reduceSub, Int.reduceMul, Int.reduceToNat, Int.reducePow, Int.reduceEq, ne_eq, reduceIte, repM, objsM, Obj.cells, iD, bsD, bD, pureEnd_of (fn := Try.f44) (rs := [.tmp 2]) (ts := [4]) rfl rfl, *])))
  all_goals simp_all [smallRep]
  all_goals (try omega)

theorem acc_fold {acc : Acc} : acc.getD 0 ([], []) = acc.getD 0 ([], []) := rfl

def risingF : List Obj → Int → Bool
  | [], _ => true
  | o :: l, last => decide (last < o.id ∧ o.id ≤ 255) && risingF l o.id
theorem t80 (l : List Obj) (hl : l.length ≤ 9223372036854775807) : PFn Try.prog 80 [objsM l] (bM (risingF l (-1))) := by
  refine PFn.of (prs := [(4, [])]) Try.func80 rfl rfl mix (by kernel_rfl) rfl rfl ?_
  simp only [Try.ntmps80, argUpd]
  simp only [↓ru, rv, rl, ry, tyf, iM, bM, bsM, cond_true, cond_false, Nat.reduceLT, Nat.reduceBEq, Nat.reduceAdd, Nat.reduceEqDiff, Nat.reduceMul, Nat.reduceLeDiff, Nat.reduceSub, Nat.reduceDiv, Int.reduceLE, Int.reduceLT, Int.reduceNeg, Int.reduceAdd, Int.reduceSub, Int.reduceMul, Int.reduceToNat, Int.reducePow, Int.reduceEq, ne_eq, reduceIte, repM, objsM, Obj.cells, iD, bsD, bD, objsM]
  refine aloop_lv (fun s : Nat => [(0, objsM l), (3, iM s)]) (fun _ => []) (fun s => s ≤ l.length ∧ ∃ p, (s = 0 → p = -1) ∧ (∀ k, s = k + 1 → ∃ o, l[k]? = some o ∧ o.id = p) ∧ -1 ≤ p ∧ risingF (l.drop s) p = risingF l (-1)) (fun s => l.length - s) 0 0 ?_ rfl ⟨by omega, -1, by simp⟩ (by omega) ?_
  · simp only [↓ru, rv, rl, ry, tyf, iM, bM, bsM, cond_true, cond_false, Nat.reduceLT, Nat.reduceBEq, Nat.reduceAdd, Nat.reduceEqDiff, Nat.reduceMul, Nat.reduceLeDiff, Nat.reduceSub, Nat.reduceDiv, Int.reduceLE, Int.reduceLT, Int.reduceNeg, Int.reduceAdd, Int.reduceSub, Int.reduceMul, Int.reduceToNat, Int.reducePow, Int.reduceEq, ne_eq, reduceIte, repM, objsM, Obj.cells, iD, bsD, bD]
  · intro i e0 n ⟨hi, p, hp0, hps, hp, hr⟩
    simp only [↓ru, rv, rl, ry, tyf, iM, bM, bsM, cond_true, cond_false, Nat.reduceLT, Nat.reduceBEq, Nat.reduceAdd, Nat.reduceEqDiff, Nat.reduceMul, Nat.reduceLeDiff, Nat.reduceSub, Nat.reduceDiv, Int.reduceLE, Int.reduceLT, Int.reduceNeg, Int.reduceAdd, Int.reduceSub, Int.reduceMul, Int.reduceToNat, Int.reducePow, Int.reduceEq, ne_eq, reduceIte, repM, objsM, Obj.cells, iD, bsD, bD, objsM]
    refine fork_split (fun h => ?_) (fun h => ?_)
    · have h' := of_decide_eq_true h
      obtain ⟨o, ho⟩ := get_of_lt (l := l) (i := i) (by omega)
      simp only [↓ru, rv, rl, ry, tyf, iM, bM, bsM, cond_true, cond_false, Nat.reduceLT, Nat.reduceBEq, Nat.reduceAdd, Nat.reduceEqDiff, Nat.reduceMul, Nat.reduceLeDiff, Nat.reduceSub, Nat.reduceDiv, Int.reduceLE, Int.reduceLT, Int.reduceNeg, Int.reduceAdd, Int.reduceSub, Int.reduceMul, Int.reduceToNat, Int.reducePow, Int.reduceEq, ne_eq, reduceIte, repM, objsM, Obj.cells, iD, bsD, bD, ho, Obj.cells, iD, bsD]
      rw [List.drop_of_get ho] at hr
      have leaf : ∀ b, risingF l (-1) = b → M.d (D.v (Value.bool b)) = M.d (D.v (Value.bool (risingF l (-1)))) := fun b hb => by rw [hb]
      rcases i with _ | k
      · obtain rfl := hp0 rfl
        repeat' ((first | (refine fork_split (fun _h => ?_) (fun _h => ?_)) | (refine gfork_split (fun _h => ?_) (fun _h => ?_)) | (refine dfork_split (fun _h => ?_) (fun _h => ?_))) <;> (try (simp only [↓ru, rv, rl, ry, tyf, iM, bM, bsM, cond_true, cond_false, Nat.reduceLT, Nat.reduceBEq, Nat.reduceAdd, Nat.reduceEqDiff, Nat.reduceMul, Nat.reduceLeDiff, Nat.reduceSub, Nat.reduceDiv, Int.reduceLE, Int.reduceLT, Int.reduceNeg, Int.reduceAdd, Int.reduceSub, Int.reduceMul, Int.reduceToNat, Int.reducePow, Int.reduceEq, ne_eq, reduceIte, repM, objsM, Obj.cells, iD, bsD, bD, pureEnd_of (fn := Try.f80) (rs := [.tmp 2]) (ts := [4]) rfl rfl, *])))
        all_goals (try simp only [decide_eq_true_eq, decide_eq_false_iff_not] at *)
        · refine leaf _ ?_; rw [← hr, risingF, decide_eq_false (by omega), Bool.false_and]
        · refine leaf _ ?_; rw [← hr, risingF, decide_eq_false (by omega), Bool.false_and]
        · simp (disch := omega) only [wrap_i64, wrap_u8, wrap_u16, wrap_u64]
          rw [risingF, decide_eq_true (by omega), Bool.true_and] at hr
          refine loopL_next (0 + 1) ?_ rfl ⟨by omega, o.id, by simp, fun k hk => ⟨o, by simp_all⟩, by omega, hr⟩ (by omega) (by omega)
          simp only [↓ru, rv, rl, ry, tyf, iM, bM, bsM, cond_true, cond_false, Nat.reduceLT, Nat.reduceBEq, Nat.reduceAdd, Nat.reduceEqDiff, Nat.reduceMul, Nat.reduceLeDiff, Nat.reduceSub, Nat.reduceDiv, Int.reduceLE, Int.reduceLT, Int.reduceNeg, Int.reduceAdd, Int.reduceSub, Int.reduceMul, Int.reduceToNat, Int.reducePow, Int.reduceEq, ne_eq, reduceIte, repM, objsM, Obj.cells, iD, bsD, bD] <;> simp
      · obtain ⟨q, hq, hqp⟩ := hps k rfl
        repeat' ((first | (refine fork_split (fun _h => ?_) (fun _h => ?_)) | (refine gfork_split (fun _h => ?_) (fun _h => ?_)) | (refine dfork_split (fun _h => ?_) (fun _h => ?_))) <;> (try (simp only [↓ru, rv, rl, ry, tyf, iM, bM, bsM, cond_true, cond_false, Nat.reduceLT, Nat.reduceBEq, Nat.reduceAdd, Nat.reduceEqDiff, Nat.reduceMul, Nat.reduceLeDiff, Nat.reduceSub, Nat.reduceDiv, Int.reduceLE, Int.reduceLT, Int.reduceNeg, Int.reduceAdd, Int.reduceSub, Int.reduceMul, Int.reduceToNat, Int.reducePow, Int.reduceEq, ne_eq, reduceIte, repM, objsM, Obj.cells, iD, bsD, bD, hq, pureEnd_of (fn := Try.f80) (rs := [.tmp 2]) (ts := [4]) rfl rfl, *])))
        all_goals (try simp only [decide_eq_true_eq, decide_eq_false_iff_not] at *)
        · refine leaf _ ?_; rw [← hr, risingF, decide_eq_false (by omega), Bool.false_and]
        · refine leaf _ ?_; rw [← hr, risingF, decide_eq_false (by omega), Bool.false_and]
        · simp (disch := omega) only [wrap_i64, wrap_u8, wrap_u16, wrap_u64]
          simp only [↓ru, rv, rl, ry, tyf, iM, bM, bsM, cond_true, cond_false, Nat.reduceLT, Nat.reduceBEq, Nat.reduceAdd, Nat.reduceEqDiff, Nat.reduceMul, Nat.reduceLeDiff, Nat.reduceSub, Nat.reduceDiv, Int.reduceLE, Int.reduceLT, Int.reduceNeg, Int.reduceAdd, Int.reduceSub, Int.reduceMul, Int.reduceToNat, Int.reducePow, Int.reduceEq, ne_eq, reduceIte, repM, objsM, Obj.cells, iD, bsD, bD, hq]
          refine fork_split (fun h2 => ?_) (fun h2 => ?_)
          · have h2' := of_decide_eq_true h2
            simp only [↓ru, rv, rl, ry, tyf, iM, bM, bsM, cond_true, cond_false, Nat.reduceLT, Nat.reduceBEq, Nat.reduceAdd, Nat.reduceEqDiff, Nat.reduceMul, Nat.reduceLeDiff, Nat.reduceSub, Nat.reduceDiv, Int.reduceLE, Int.reduceLT, Int.reduceNeg, Int.reduceAdd, Int.reduceSub, Int.reduceMul, Int.reduceToNat, Int.reducePow, Int.reduceEq, ne_eq, reduceIte, repM, objsM, Obj.cells, iD, bsD, bD, pureEnd_of (fn := Try.f80) (rs := [.tmp 2]) (ts := [4]) rfl rfl]
            refine leaf _ ?_; rw [← hr, risingF, decide_eq_false (by omega), Bool.false_and]
          · have h2' := of_decide_eq_false h2
            simp only [↓ru, rv, rl, ry, tyf, iM, bM, bsM, cond_true, cond_false, Nat.reduceLT, Nat.reduceBEq, Nat.reduceAdd, Nat.reduceEqDiff, Nat.reduceMul, Nat.reduceLeDiff, Nat.reduceSub, Nat.reduceDiv, Int.reduceLE, Int.reduceLT, Int.reduceNeg, Int.reduceAdd, Int.reduceSub, Int.reduceMul, Int.reduceToNat, Int.reducePow, Int.reduceEq, ne_eq, reduceIte, repM, objsM, Obj.cells, iD, bsD, bD]
            simp (disch := omega) only [wrap_i64, wrap_u8, wrap_u16, wrap_u64]
            rw [risingF, decide_eq_true (by omega), Bool.true_and] at hr
            refine loopL_next (k + 1 + 1) ?_ rfl ⟨by omega, o.id, by simp, fun k hk => ⟨o, by simp_all⟩, by omega, hr⟩ (by omega) (by omega)
            simp only [↓ru, rv, rl, ry, tyf, iM, bM, bsM, cond_true, cond_false, Nat.reduceLT, Nat.reduceBEq, Nat.reduceAdd, Nat.reduceEqDiff, Nat.reduceMul, Nat.reduceLeDiff, Nat.reduceSub, Nat.reduceDiv, Int.reduceLE, Int.reduceLT, Int.reduceNeg, Int.reduceAdd, Int.reduceSub, Int.reduceMul, Int.reduceToNat, Int.reducePow, Int.reduceEq, ne_eq, reduceIte, repM, objsM, Obj.cells, iD, bsD, bD] <;> simp
        · omega
    · have h' := of_decide_eq_false h
      simp only [↓ru, rv, rl, ry, tyf, iM, bM, bsM, cond_true, cond_false, Nat.reduceLT, Nat.reduceBEq, Nat.reduceAdd, Nat.reduceEqDiff, Nat.reduceMul, Nat.reduceLeDiff, Nat.reduceSub, Nat.reduceDiv, Int.reduceLE, Int.reduceLT, Int.reduceNeg, Int.reduceAdd, Int.reduceSub, Int.reduceMul, Int.reduceToNat, Int.reducePow, Int.reduceEq, ne_eq, reduceIte, repM, objsM, Obj.cells, iD, bsD, bD, pureEnd_of (fn := Try.f80) (rs := [.tmp 2]) (ts := [4]) rfl rfl]
      have : i = l.length := by omega
      subst this
      rw [List.drop_length] at hr
      rw [← hr]; rfl
/-- The bytes of objects, counted until they are too many. -/
def sizeF : List Obj → Int → Int
  | [], n => n
  | o :: l, n => if n ≤ 246 then sizeF l (n + (2 + min (o.val.length : Int) 300)) else n
theorem t91 (l : List Obj) (hl : l.length ≤ 9223372036854775807) : PFn Try.prog 91 [objsM l] (iM (sizeF l 0)) := by
  refine PFn.of (prs := []) Try.func91 rfl rfl mix (by kernel_rfl) rfl rfl ?_
  simp only [Try.ntmps91, argUpd]
  simp only [↓ru, rv, rl, ry, tyf, iM, bM, bsM, cond_true, cond_false, Nat.reduceLT, Nat.reduceBEq, Nat.reduceAdd, Nat.reduceEqDiff, Nat.reduceMul, Nat.reduceLeDiff, Nat.reduceSub, Nat.reduceDiv, Int.reduceLE, Int.reduceLT, Int.reduceNeg, Int.reduceAdd, Int.reduceSub, Int.reduceMul, Int.reduceToNat, Int.reducePow, Int.reduceEq, ne_eq, reduceIte, repM, objsM, Obj.cells, iD, bsD, bD]
  refine aloop_lv (fun s : Nat × Int => [(0, objsM l), (4, iM s.1), (3, iM s.2)]) (fun _ => []) (fun s => s.1 ≤ l.length ∧ 0 ≤ s.2 ∧ s.2 ≤ 1000 ∧ sizeF (l.drop s.1) s.2 = sizeF l 0) (fun s => l.length - s.1) 0 (0, 0) ?_ rfl ⟨by simp, by simp, by simp, by simp⟩ (by omega) ?_
  · simp only [↓ru, rv, rl, ry, tyf, iM, bM, bsM, cond_true, cond_false, Nat.reduceLT, Nat.reduceBEq, Nat.reduceAdd, Nat.reduceEqDiff, Nat.reduceMul, Nat.reduceLeDiff, Nat.reduceSub, Nat.reduceDiv, Int.reduceLE, Int.reduceLT, Int.reduceNeg, Int.reduceAdd, Int.reduceSub, Int.reduceMul, Int.reduceToNat, Int.reducePow, Int.reduceEq, ne_eq, reduceIte, repM, objsM, Obj.cells, iD, bsD, bD]
  · rintro ⟨i, x⟩ e0 n ⟨hi, hx, hx2, hr⟩
    simp only at hi hx hx2 hr
    simp only [↓ru, rv, rl, ry, tyf, iM, bM, bsM, cond_true, cond_false, Nat.reduceLT, Nat.reduceBEq, Nat.reduceAdd, Nat.reduceEqDiff, Nat.reduceMul, Nat.reduceLeDiff, Nat.reduceSub, Nat.reduceDiv, Int.reduceLE, Int.reduceLT, Int.reduceNeg, Int.reduceAdd, Int.reduceSub, Int.reduceMul, Int.reduceToNat, Int.reducePow, Int.reduceEq, ne_eq, reduceIte, repM, objsM, Obj.cells, iD, bsD, bD]
    refine gfork_split (fun h => ?_) (fun h => ?_)
    · have h' := of_decide_eq_true h
      obtain ⟨o, ho⟩ := get_of_lt (l := l) (i := i) (by omega)
      rw [List.drop_of_get ho, sizeF] at hr
      simp only [↓ru, rv, rl, ry, tyf, iM, bM, bsM, cond_true, cond_false, Nat.reduceLT, Nat.reduceBEq, Nat.reduceAdd, Nat.reduceEqDiff, Nat.reduceMul, Nat.reduceLeDiff, Nat.reduceSub, Nat.reduceDiv, Int.reduceLE, Int.reduceLT, Int.reduceNeg, Int.reduceAdd, Int.reduceSub, Int.reduceMul, Int.reduceToNat, Int.reducePow, Int.reduceEq, ne_eq, reduceIte, repM, objsM, Obj.cells, iD, bsD, bD]
      refine fork_split (fun h2 => ?_) (fun h2 => ?_)
      · have h2' := of_decide_eq_true h2
        rw [if_pos h2'] at hr
        simp only [↓ru, rv, rl, ry, tyf, iM, bM, bsM, cond_true, cond_false, Nat.reduceLT, Nat.reduceBEq, Nat.reduceAdd, Nat.reduceEqDiff, Nat.reduceMul, Nat.reduceLeDiff, Nat.reduceSub, Nat.reduceDiv, Int.reduceLE, Int.reduceLT, Int.reduceNeg, Int.reduceAdd, Int.reduceSub, Int.reduceMul, Int.reduceToNat, Int.reducePow, Int.reduceEq, ne_eq, reduceIte, repM, objsM, Obj.cells, iD, bsD, bD, ho]
        rw [show (if (300 : Int) < o.val.length then 300 else (o.val.length : Int)) = min (o.val.length : Int) 300 by omega]
        simp (disch := omega) only [wrap_i64, wrap_u8, wrap_u16, wrap_u64]
        refine loopL_next (i + 1, x + (2 + min (o.val.length : Int) 300)) ?_ rfl ⟨by simp only; omega, by simp only; omega, by simp only; omega, by simpa using hr⟩ (by omega) (by simp only; omega)
        simp only [↓ru, rv, rl, ry, tyf, iM, bM, bsM, cond_true, cond_false, Nat.reduceLT, Nat.reduceBEq, Nat.reduceAdd, Nat.reduceEqDiff, Nat.reduceMul, Nat.reduceLeDiff, Nat.reduceSub, Nat.reduceDiv, Int.reduceLE, Int.reduceLT, Int.reduceNeg, Int.reduceAdd, Int.reduceSub, Int.reduceMul, Int.reduceToNat, Int.reducePow, Int.reduceEq, ne_eq, reduceIte, repM, objsM, Obj.cells, iD, bsD, bD] <;> simp
      · have h2' := of_decide_eq_false h2
        rw [if_neg h2'] at hr
        simp only [↓ru, rv, rl, ry, tyf, iM, bM, bsM, cond_true, cond_false, Nat.reduceLT, Nat.reduceBEq, Nat.reduceAdd, Nat.reduceEqDiff, Nat.reduceMul, Nat.reduceLeDiff, Nat.reduceSub, Nat.reduceDiv, Int.reduceLE, Int.reduceLT, Int.reduceNeg, Int.reduceAdd, Int.reduceSub, Int.reduceMul, Int.reduceToNat, Int.reducePow, Int.reduceEq, ne_eq, reduceIte, repM, objsM, Obj.cells, iD, bsD, bD, pureEnd_of (fn := Try.f91) (rs := [.tmp 2]) (ts := [3]) rfl rfl]
        rw [hr]
    · have h' := of_decide_eq_false h
      have : i = l.length := by omega
      subst this
      rw [List.drop_length, sizeF] at hr
      simp only [↓ru, rv, rl, ry, tyf, iM, bM, bsM, cond_true, cond_false, Nat.reduceLT, Nat.reduceBEq, Nat.reduceAdd, Nat.reduceEqDiff, Nat.reduceMul, Nat.reduceLeDiff, Nat.reduceSub, Nat.reduceDiv, Int.reduceLE, Int.reduceLT, Int.reduceNeg, Int.reduceAdd, Int.reduceSub, Int.reduceMul, Int.reduceToNat, Int.reducePow, Int.reduceEq, ne_eq, reduceIte, repM, objsM, Obj.cells, iD, bsD, bD, pureEnd_of (fn := Try.f91) (rs := [.tmp 2]) (ts := [3]) rfl rfl]
      rw [hr]

/-- The objects of a valid device identification: what is the greatest ID, if they are in order and not too long. -/
def devObjs : List Obj → Int → Int → Option Int
  | [], last, _ => some last
  | o :: l, last, size => if o.id ≤ last ∨ 255 < o.id ∨ 244 - size < o.val.length then none else devObjs l o.id (size + (2 + o.val.length))
def devF (r : Rep) : Bool :=
  let level := if 128 < r.level then r.level - 128 else r.level
  if 0 < r.data.length ∨ r.code < 1 ∨ 3 < r.code ∨ level < 1 ∨ 3 < level ∨ r.next < 0 ∨ 255 < r.next then false else
  match devObjs r.objs (-1) 0 with
  | none => false
  | some last => if r.more then decide (0 < r.objs.length ∧ last < r.next) else decide (r.next = 0)

theorem t89 (r : Rep) (hl : r.objs.length ≤ 9223372036854775807) (hlv : -9223372036854775808 ≤ r.level ∧ r.level ≤ 9223372036854775807) : PFn Try.prog 89 [repM r] (bM (devF r)) := by
  refine PFn.of (prs := []) Try.func89 rfl rfl mix (by kernel_rfl) rfl rfl ?_
  simp only [Try.ntmps89, argUpd]
  simp only [↓ru, rv, rl, ry, tyf, iM, bM, bsM, cond_true, cond_false, Nat.reduceLT, Nat.reduceBEq, Nat.reduceAdd, Nat.reduceEqDiff, Nat.reduceMul, Nat.reduceLeDiff, Nat.reduceSub, Nat.reduceDiv, Int.reduceLE, Int.reduceLT, Int.reduceNeg, Int.reduceAdd, Int.reduceSub, Int.reduceMul, Int.reduceToNat, Int.reducePow, Int.reduceEq, ne_eq, reduceIte, repM, objsM, Obj.cells, iD, bsD, bD]
  refine cut_fork [(1, .ptr 0 0), (3, iM (if 128 < r.level then r.level - 128 else r.level))] [(0, .st [iM r.fn, iM r.ex, bsM r.data, iM r.code, iM r.level, bM r.more, iM r.next, objsM r.objs])] 0 (fun b' hb => ?_) (fun e0 k => ?_)
  · refine fork_split (fun h => ?_) (fun h => ?_)
    · have h' := of_decide_eq_true h
      simp only [↓ru, rv, rl, ry, tyf, iM, bM, bsM, cond_true, cond_false, Nat.reduceLT, Nat.reduceBEq, Nat.reduceAdd, Nat.reduceEqDiff, Nat.reduceMul, Nat.reduceLeDiff, Nat.reduceSub, Nat.reduceDiv, Int.reduceLE, Int.reduceLT, Int.reduceNeg, Int.reduceAdd, Int.reduceSub, Int.reduceMul, Int.reduceToNat, Int.reducePow, Int.reduceEq, ne_eq, reduceIte, repM, objsM, Obj.cells, iD, bsD, bD]
      simp (disch := omega) only [wrap_i64, wrap_u8, wrap_u16, wrap_u64]
      refine hb _ _ ?_ (by omega)
      simp only [↓ru, rv, rl, ry, tyf, iM, bM, bsM, cond_true, cond_false, Nat.reduceLT, Nat.reduceBEq, Nat.reduceAdd, Nat.reduceEqDiff, Nat.reduceMul, Nat.reduceLeDiff, Nat.reduceSub, Nat.reduceDiv, Int.reduceLE, Int.reduceLT, Int.reduceNeg, Int.reduceAdd, Int.reduceSub, Int.reduceMul, Int.reduceToNat, Int.reducePow, Int.reduceEq, ne_eq, reduceIte, repM, objsM, Obj.cells, iD, bsD, bD, h']
    · have h' := of_decide_eq_false h
      simp only [↓ru, rv, rl, ry, tyf, iM, bM, bsM, cond_true, cond_false, Nat.reduceLT, Nat.reduceBEq, Nat.reduceAdd, Nat.reduceEqDiff, Nat.reduceMul, Nat.reduceLeDiff, Nat.reduceSub, Nat.reduceDiv, Int.reduceLE, Int.reduceLT, Int.reduceNeg, Int.reduceAdd, Int.reduceSub, Int.reduceMul, Int.reduceToNat, Int.reducePow, Int.reduceEq, ne_eq, reduceIte, repM, objsM, Obj.cells, iD, bsD, bD]
      refine hb _ _ ?_ (by omega)
      simp only [↓ru, rv, rl, ry, tyf, iM, bM, bsM, cond_true, cond_false, Nat.reduceLT, Nat.reduceBEq, Nat.reduceAdd, Nat.reduceEqDiff, Nat.reduceMul, Nat.reduceLeDiff, Nat.reduceSub, Nat.reduceDiv, Int.reduceLE, Int.reduceLT, Int.reduceNeg, Int.reduceAdd, Int.reduceSub, Int.reduceMul, Int.reduceToNat, Int.reducePow, Int.reduceEq, ne_eq, reduceIte, repM, objsM, Obj.cells, iD, bsD, bD, h']
  · generalize hlev : (if 128 < r.level then r.level - 128 else r.level) = level
    simp only [↓ru, rv, rl, ry, tyf, iM, bM, bsM, cond_true, cond_false, Nat.reduceLT, Nat.reduceBEq, Nat.reduceAdd, Nat.reduceEqDiff, Nat.reduceMul, Nat.reduceLeDiff, Nat.reduceSub, Nat.reduceDiv, Int.reduceLE, Int.reduceLT, Int.reduceNeg, Int.reduceAdd, Int.reduceSub, Int.reduceMul, Int.reduceToNat, Int.reducePow, Int.reduceEq, ne_eq, reduceIte, repM, objsM, Obj.cells, iD, bsD, bD]
    repeat' ((first | (refine fork_split (fun _h => ?_) (fun _h => ?_)) | (refine gfork_split (fun _h => ?_) (fun _h => ?_)) | (refine dfork_split (fun _h => ?_) (fun _h => ?_))) <;> (try (simp only [↓ru, rv, rl, ry, tyf, iM, bM, bsM, cond_true, cond_false, Nat.reduceLT, Nat.reduceBEq, Nat.reduceAdd, Nat.reduceEqDiff, Nat.reduceMul, Nat.reduceLeDiff, Nat.reduceSub, Nat.reduceDiv, Int.reduceLE, Int.reduceLT, Int.reduceNeg, Int.reduceAdd, Int.reduceSub, Int.reduceMul, Int.reduceToNat, Int.reducePow, Int.reduceEq, ne_eq, reduceIte, repM, objsM, Obj.cells, iD, bsD, bD, pureEnd_of (fn := Try.f89) (rs := [.tmp 2]) (ts := [4]) rfl rfl, *])))
    all_goals (try simp only [decide_eq_true_eq, decide_eq_false_iff_not] at *)
    iterate 7 (rw [show devF r = false from by simp only [devF, hlev]; rw [if_pos (by omega)]])
    have hdev : devF r = match devObjs r.objs (-1) 0 with
        | none => false
        | some last => if r.more then decide (0 < r.objs.length ∧ last < r.next) else decide (r.next = 0) := by
      simp only [devF, hlev]; rw [if_neg (by omega)]
    refine aloop_lv (fun s : Nat × Int × Int => [(1, .ptr 0 0), (4, iM s.2.1), (5, iM s.2.2), (47, objsM r.objs), (48, iM r.objs.length), (49, iM s.1)])
      (fun _ => [(0, .st [iM r.fn, iM r.ex, bsM r.data, iM r.code, iM r.level, bM r.more, iM r.next, objsM r.objs])])
      (fun s => s.1 ≤ r.objs.length ∧ 0 ≤ s.2.2 ∧ s.2.2 ≤ 300 ∧ devObjs (r.objs.drop s.1) s.2.1 s.2.2 = devObjs r.objs (-1) 0) (fun s => r.objs.length - s.1) 1 (0, -1, 0) ?_ rfl ⟨by simp, by simp, by simp, by simp⟩ (by omega) ?_
    · simp only [↓ru, rv, rl, ry, tyf, iM, bM, bsM, cond_true, cond_false, Nat.reduceLT, Nat.reduceBEq, Nat.reduceAdd, Nat.reduceEqDiff, Nat.reduceMul, Nat.reduceLeDiff, Nat.reduceSub, Nat.reduceDiv, Int.reduceLE, Int.reduceLT, Int.reduceNeg, Int.reduceAdd, Int.reduceSub, Int.reduceMul, Int.reduceToNat, Int.reducePow, Int.reduceEq, ne_eq, reduceIte, repM, objsM, Obj.cells, iD, bsD, bD]
    · rintro ⟨i, last, size⟩ e0 n ⟨hi, hx, hx2, hr⟩
      simp only at hi hx hx2 hr
      simp only [↓ru, rv, rl, ry, tyf, iM, bM, bsM, cond_true, cond_false, Nat.reduceLT, Nat.reduceBEq, Nat.reduceAdd, Nat.reduceEqDiff, Nat.reduceMul, Nat.reduceLeDiff, Nat.reduceSub, Nat.reduceDiv, Int.reduceLE, Int.reduceLT, Int.reduceNeg, Int.reduceAdd, Int.reduceSub, Int.reduceMul, Int.reduceToNat, Int.reducePow, Int.reduceEq, ne_eq, reduceIte, repM, objsM, Obj.cells, iD, bsD, bD]
      refine fork_split (fun h => ?_) (fun h => ?_)
      · have h' := of_decide_eq_true h
        obtain ⟨o, ho⟩ := get_of_lt (l := r.objs) (i := i) (by omega)
        rw [List.drop_of_get ho, devObjs] at hr
        have leaf : ∀ b, devF r = b → M.d (D.v (Value.bool b)) = M.d (D.v (Value.bool (devF r))) := fun b hb => by rw [hb]
        simp only [↓ru, rv, rl, ry, tyf, iM, bM, bsM, cond_true, cond_false, Nat.reduceLT, Nat.reduceBEq, Nat.reduceAdd, Nat.reduceEqDiff, Nat.reduceMul, Nat.reduceLeDiff, Nat.reduceSub, Nat.reduceDiv, Int.reduceLE, Int.reduceLT, Int.reduceNeg, Int.reduceAdd, Int.reduceSub, Int.reduceMul, Int.reduceToNat, Int.reducePow, Int.reduceEq, ne_eq, reduceIte, repM, objsM, Obj.cells, iD, bsD, bD, ho]
        repeat' ((first | (refine fork_split (fun _h => ?_) (fun _h => ?_)) | (refine gfork_split (fun _h => ?_) (fun _h => ?_)) | (refine dfork_split (fun _h => ?_) (fun _h => ?_))) <;> (try (simp only [↓ru, rv, rl, ry, tyf, iM, bM, bsM, cond_true, cond_false, Nat.reduceLT, Nat.reduceBEq, Nat.reduceAdd, Nat.reduceEqDiff, Nat.reduceMul, Nat.reduceLeDiff, Nat.reduceSub, Nat.reduceDiv, Int.reduceLE, Int.reduceLT, Int.reduceNeg, Int.reduceAdd, Int.reduceSub, Int.reduceMul, Int.reduceToNat, Int.reducePow, Int.reduceEq, ne_eq, reduceIte, repM, objsM, Obj.cells, iD, bsD, bD, pureEnd_of (fn := Try.f89) (rs := [.tmp 2]) (ts := [4]) rfl rfl, *])))
        all_goals (try simp only [decide_eq_true_eq, decide_eq_false_iff_not] at *)
        · refine leaf _ ?_; rw [hdev, ← hr, if_pos (by omega)]
        · refine leaf _ ?_; rw [hdev, ← hr, if_pos (by omega)]
        · rw [wrap_i64 (by omega) (by omega)] at _h
          refine leaf _ ?_; rw [hdev, ← hr, if_pos (by omega)]
        · rw [wrap_i64 (by omega) (by omega)] at _h
          simp (disch := omega) only [wrap_i64, wrap_u8, wrap_u16, wrap_u64]
          rw [if_neg (by omega)] at hr
          refine loopL_drop (i + 1, o.id, size + (2 + o.val.length)) ?_ ?_ ⟨by simp only; omega, by simp only; omega, by simp only; omega, hr⟩ (by omega) (by simp only; omega)
          · simp only [↓ru, rv, rl, ry, tyf, iM, bM, bsM, cond_true, cond_false, Nat.reduceLT, Nat.reduceBEq, Nat.reduceAdd, Nat.reduceEqDiff, Nat.reduceMul, Nat.reduceLeDiff, Nat.reduceSub, Nat.reduceDiv, Int.reduceLE, Int.reduceLT, Int.reduceNeg, Int.reduceAdd, Int.reduceSub, Int.reduceMul, Int.reduceToNat, Int.reducePow, Int.reduceEq, ne_eq, reduceIte, repM, objsM, Obj.cells, iD, bsD, bD] <;> simp
          · simp only [↓ru, rv, rl, ry, tyf, iM, bM, bsM, cond_true, cond_false, Nat.reduceLT, Nat.reduceBEq, Nat.reduceAdd, Nat.reduceEqDiff, Nat.reduceMul, Nat.reduceLeDiff, Nat.reduceSub, Nat.reduceDiv, Int.reduceLE, Int.reduceLT, Int.reduceNeg, Int.reduceAdd, Int.reduceSub, Int.reduceMul, Int.reduceToNat, Int.reducePow, Int.reduceEq, ne_eq, reduceIte, repM, objsM, Obj.cells, iD, bsD, bD]
      · have h' := of_decide_eq_false h
        have : i = r.objs.length := by omega
        subst this
        rw [List.drop_length, devObjs] at hr
        simp only [↓ru, rv, rl, ry, tyf, iM, bM, bsM, cond_true, cond_false, Nat.reduceLT, Nat.reduceBEq, Nat.reduceAdd, Nat.reduceEqDiff, Nat.reduceMul, Nat.reduceLeDiff, Nat.reduceSub, Nat.reduceDiv, Int.reduceLE, Int.reduceLT, Int.reduceNeg, Int.reduceAdd, Int.reduceSub, Int.reduceMul, Int.reduceToNat, Int.reducePow, Int.reduceEq, ne_eq, reduceIte, repM, objsM, Obj.cells, iD, bsD, bD]
        rw [hdev, ← hr]
        repeat' ((first | (refine fork_split (fun _h => ?_) (fun _h => ?_)) | (refine gfork_split (fun _h => ?_) (fun _h => ?_)) | (refine dfork_split (fun _h => ?_) (fun _h => ?_))) <;> (try (simp only [↓ru, rv, rl, ry, tyf, iM, bM, bsM, cond_true, cond_false, Nat.reduceLT, Nat.reduceBEq, Nat.reduceAdd, Nat.reduceEqDiff, Nat.reduceMul, Nat.reduceLeDiff, Nat.reduceSub, Nat.reduceDiv, Int.reduceLE, Int.reduceLT, Int.reduceNeg, Int.reduceAdd, Int.reduceSub, Int.reduceMul, Int.reduceToNat, Int.reducePow, Int.reduceEq, ne_eq, reduceIte, repM, objsM, Obj.cells, iD, bsD, bD, pureEnd_of (fn := Try.f89) (rs := [.tmp 2]) (ts := [4]) rfl rfl, *])))
        all_goals simp_all

/-- A valid reply. -/
def validF (r : Rep) : Bool :=
  if knownF r.fn then
    if r.ex ≠ 0 then decide (1 ≤ r.ex ∧ r.ex ≤ 255 ∧ r.data.length = 0) && plainF r
    else if r.fn = 43 then devF r
    else if r.fn = 17 then decide (1 ≤ (r.data.length : Int) ∧ (r.data.length : Int) ≤ 251) && plainF r
    else decide (1 ≤ (r.data.length : Int) ∧ (r.data.length : Int) ≤ 250) && plainF r
  else false
structure Rep.OK (r : Rep) : Prop where
  objs : r.objs.length ≤ 9223372036854775807
  level : -9223372036854775808 ≤ r.level ∧ r.level ≤ 9223372036854775807

theorem t46 (r : Rep) (h : r.OK) : PFn Try.prog 46 [repM r] (bM (validF r)) := by
  refine PFn.of (prs := []) Try.func46 rfl rfl mix (by kernel_rfl) rfl rfl ?_
  simp only [Try.ntmps46, argUpd]
  simp only [↓ru, rv, rl, ry, tyf, iM, bM, bsM, cond_true, cond_false, Nat.reduceLT, Nat.reduceBEq, Nat.reduceAdd, Nat.reduceEqDiff, Nat.reduceMul, Nat.reduceLeDiff, Nat.reduceSub, Nat.reduceDiv, Int.reduceLE, Int.reduceLT, Int.reduceNeg, Int.reduceAdd, Int.reduceSub, Int.reduceMul, Int.reduceToNat, Int.reducePow, Int.reduceEq, ne_eq, reduceIte, repM, objsM, Obj.cells, iD, bsD, bD]
  repeat' ((first | (refine fork_split (fun _h => ?_) (fun _h => ?_)) | (refine gfork_split (fun _h => ?_) (fun _h => ?_)) | (refine dfork_split (fun _h => ?_) (fun _h => ?_)) | (refine acall1_pure (t87 _) rfl rfl ?_) | (refine dcall1_pure (t87 _) rfl rfl ?_) | (refine acall1_pure (t88 r) rfl rfl ?_) | (refine dcall1_pure (t88 r) rfl rfl ?_) | (refine acall1_pure (t89 r h.objs h.level) rfl rfl ?_) | (refine dcall1_pure (t89 r h.objs h.level) rfl rfl ?_)) <;> (try (simp only [↓ru, rv, rl, ry, tyf, iM, bM, bsM, cond_true, cond_false, Nat.reduceLT, Nat.reduceBEq, Nat.reduceAdd, Nat.reduceEqDiff, Nat.reduceMul, Nat.reduceLeDiff, Nat.reduceSub, Nat.reduceDiv, Int.reduceLE, Int.reduceLT, Int.reduceNeg, Int.reduceAdd, Int.reduceSub, Int.reduceMul, Int.reduceToNat, Int.reducePow, Int.reduceEq, ne_eq, reduceIte, repM, objsM, Obj.cells, iD, bsD, bD, pureEnd_of (fn := Try.f46) (rs := [.tmp 2]) (ts := [4]) rfl rfl, *])))
  all_goals simp_all [validF]
  all_goals omega

/-- A valid device identification, as the document says it. -/
def levelF (x : Int) : Bool := decide ((1 ≤ x ∧ x ≤ 3) ∨ (129 ≤ x ∧ x ≤ 131))
def lastId : List Obj → Int → Int
  | [], last => last
  | o :: l, _ => lastId l o.id
def devRefF (r : Rep) : Bool :=
  if 0 < r.data.length ∨ r.code < 1 ∨ 3 < r.code ∨ levelF r.level = false ∨ risingF r.objs (-1) = false ∨ 246 < sizeF r.objs 0 ∨ r.next < 0 ∨ 255 < r.next then false else
  if r.more then decide (0 < r.objs.length ∧ lastId r.objs (-1) < r.next) else decide (r.next = 0)

theorem sizeF_ge : ∀ (l : List Obj) (n : Int), n ≤ sizeF l n
  | [], n => by simp [sizeF]
  | o :: l, n => by
    simp only [sizeF]
    split
    · have := sizeF_ge l (n + (2 + min (o.val.length : Int) 300))
      omega
    · omega
theorem devObjs_eq : ∀ (l : List Obj) (last size : Int), 0 ≤ size → size ≤ 246 → devObjs l last size = if risingF l last = true ∧ sizeF l size ≤ 246 then some (lastId l last) else none
  | [], last, size, h0, h1 => by simp [devObjs, risingF, sizeF, lastId, h1]
  | o :: l, last, size, h0, h1 => by
    simp only [devObjs, risingF, sizeF, lastId, Bool.and_eq_true, decide_eq_true_eq]
    rw [if_pos h1]
    by_cases hA : last < o.id ∧ o.id ≤ 255
    · by_cases hB : 244 - size < o.val.length
      · rw [if_pos (by omega), if_neg]
        rintro ⟨_, h⟩
        have := sizeF_ge l (size + (2 + min (o.val.length : Int) 300))
        omega
      · rw [if_neg (by omega), devObjs_eq l _ _ (by omega) (by omega), show min (o.val.length : Int) 300 = o.val.length by omega]
        simp [hA]
    · rw [if_pos (by omega), if_neg (fun h => hA h.1.1)]

theorem level_iff (x : Int) : levelF x = false ↔ ((if 128 < x then x - 128 else x) < 1 ∨ 3 < (if 128 < x then x - 128 else x)) := by
  simp only [levelF, decide_eq_false_iff_not]
  split <;> omega
theorem devRef_eq (r : Rep) : devRefF r = devF r := by
  unfold devRefF devF
  rw [devObjs_eq r.objs (-1) 0 (by omega) (by omega)]
  have hl := level_iff r.level
  simp only
  generalize (if 128 < r.level then r.level - 128 else r.level) = lv at hl ⊢
  by_cases hg : 0 < r.data.length ∨ r.code < 1 ∨ 3 < r.code ∨ lv < 1 ∨ 3 < lv ∨ r.next < 0 ∨ 255 < r.next
  · rw [if_pos hg, if_pos]
    rcases hg with h | h | h | h | h | h | h
    · exact .inl h
    · exact .inr (.inl h)
    · exact .inr (.inr (.inl h))
    · exact .inr (.inr (.inr (.inl (hl.2 (.inl h)))))
    · exact .inr (.inr (.inr (.inl (hl.2 (.inr h)))))
    · exact .inr (.inr (.inr (.inr (.inr (.inr (.inl h))))))
    · exact .inr (.inr (.inr (.inr (.inr (.inr (.inr h))))))
  · rw [if_neg hg]
    have hl' : ¬ levelF r.level = false := fun h => by
      rcases hl.1 h with h | h
      · exact hg (.inr (.inr (.inr (.inl h))))
      · exact hg (.inr (.inr (.inr (.inr (.inl h)))))
    by_cases h1 : risingF r.objs (-1) = true ∧ sizeF r.objs 0 ≤ 246
    · rw [if_pos h1, if_neg]
      rintro (h | h | h | h | h | h | h | h)
      · exact hg (.inl h)
      · exact hg (.inr (.inl h))
      · exact hg (.inr (.inr (.inl h)))
      · exact hl' h
      · rw [h1.1] at h; cases h
      · omega
      · exact hg (.inr (.inr (.inr (.inr (.inr (.inl h))))))
      · exact hg (.inr (.inr (.inr (.inr (.inr (.inr h))))))
    · rw [if_neg h1, if_pos]
      by_cases h2 : risingF r.objs (-1) = true
      · exact .inr (.inr (.inr (.inr (.inr (.inl (by
          have : ¬ sizeF r.objs 0 ≤ 246 := fun h => h1 ⟨h2, h⟩
          omega))))))
      · exact .inr (.inr (.inr (.inr (.inl (by simpa using h2)))))

theorem lastId_get : ∀ (l : List Obj) (last : Int) (o : Obj), l[l.length - 1]? = some o → lastId l last = o.id
  | [], last, o, h => by simp at h
  | [a], last, o, h => by simp at h; subst h; rfl
  | a :: b :: l, last, o, h => by
    rw [lastId]
    exact lastId_get (b :: l) a.id o (by simpa using h)

theorem t47 (r : Rep) (h : r.OK) : PFn Try.prog 47 [repM r] (bM (validF r)) := by
  refine PFn.of (prs := [(15, [(5, 11), (6, 11), (7, 11), (8, 11)])]) Try.func47 rfl rfl mix (by kernel_rfl) rfl rfl ?_
  simp only [Try.ntmps47, argUpd]
  simp only [↓ru, rv, rl, ry, tyf, iM, bM, bsM, cond_true, cond_false, Nat.reduceLT, Nat.reduceBEq, Nat.reduceAdd, Nat.reduceEqDiff, Nat.reduceMul, Nat.reduceLeDiff, Nat.reduceSub, Nat.reduceDiv, Int.reduceLE, Int.reduceLT, Int.reduceNeg, Int.reduceAdd, Int.reduceSub, Int.reduceMul, Int.reduceToNat, Int.reducePow, Int.reduceEq, ne_eq, reduceIte, repM, objsM, Obj.cells, iD, bsD, bD]
  refine acall1_pure (t90 _) rfl rfl ?_
  simp only [↓ru, rv, rl, ry, tyf, iM, bM, bsM, cond_true, cond_false, Nat.reduceLT, Nat.reduceBEq, Nat.reduceAdd, Nat.reduceEqDiff, Nat.reduceMul, Nat.reduceLeDiff, Nat.reduceSub, Nat.reduceDiv, Int.reduceLE, Int.reduceLT, Int.reduceNeg, Int.reduceAdd, Int.reduceSub, Int.reduceMul, Int.reduceToNat, Int.reducePow, Int.reduceEq, ne_eq, reduceIte, repM, objsM, Obj.cells, iD, bsD, bD]
  cases hk : knownF r.fn with
  | false =>
    simp only [↓ru, rv, rl, ry, tyf, iM, bM, bsM, cond_true, cond_false, Nat.reduceLT, Nat.reduceBEq, Nat.reduceAdd, Nat.reduceEqDiff, Nat.reduceMul, Nat.reduceLeDiff, Nat.reduceSub, Nat.reduceDiv, Int.reduceLE, Int.reduceLT, Int.reduceNeg, Int.reduceAdd, Int.reduceSub, Int.reduceMul, Int.reduceToNat, Int.reducePow, Int.reduceEq, ne_eq, reduceIte, repM, objsM, Obj.cells, iD, bsD, bD, hk, pureEnd_of (fn := Try.f47) (rs := [.tmp 2]) (ts := [4]) rfl rfl]
    simp [validF, hk]
  | true =>
  have leaf : ∀ b, validF r = b → M.d (D.v (Value.bool b)) = M.d (D.v (Value.bool (validF r))) := fun b hb => by rw [hb]
  refine cut_fork [(1, .ptr 0 0)] [(0, .st [iM r.fn, iM r.ex, bsM r.data, iM r.code, iM r.level, bM r.more, iM r.next, objsM r.objs])] 0 (fun b' hb => ?_) (fun e0 k => ?_)
  · simp only [↓ru, rv, rl, ry, tyf, iM, bM, bsM, cond_true, cond_false, Nat.reduceLT, Nat.reduceBEq, Nat.reduceAdd, Nat.reduceEqDiff, Nat.reduceMul, Nat.reduceLeDiff, Nat.reduceSub, Nat.reduceDiv, Int.reduceLE, Int.reduceLT, Int.reduceNeg, Int.reduceAdd, Int.reduceSub, Int.reduceMul, Int.reduceToNat, Int.reducePow, Int.reduceEq, ne_eq, reduceIte, repM, objsM, Obj.cells, iD, bsD, bD]
    refine hb _ _ ?_ (by omega)
    simp only [↓ru, rv, rl, ry, tyf, iM, bM, bsM, cond_true, cond_false, Nat.reduceLT, Nat.reduceBEq, Nat.reduceAdd, Nat.reduceEqDiff, Nat.reduceMul, Nat.reduceLeDiff, Nat.reduceSub, Nat.reduceDiv, Int.reduceLE, Int.reduceLT, Int.reduceNeg, Int.reduceAdd, Int.reduceSub, Int.reduceMul, Int.reduceToNat, Int.reducePow, Int.reduceEq, ne_eq, reduceIte, repM, objsM, Obj.cells, iD, bsD, bD]
  refine cut_seq [(1, .ptr 0 0), (3, bM (plainF r))] [(0, .st [iM r.fn, iM r.ex, bsM r.data, iM r.code, iM r.level, bM r.more, iM r.next, objsM r.objs])] 1 (fun b' hb => ?_) (fun e0 k => ?_)
  · simp only [↓ru, rv, rl, ry, tyf, iM, bM, bsM, cond_true, cond_false, Nat.reduceLT, Nat.reduceBEq, Nat.reduceAdd, Nat.reduceEqDiff, Nat.reduceMul, Nat.reduceLeDiff, Nat.reduceSub, Nat.reduceDiv, Int.reduceLE, Int.reduceLT, Int.reduceNeg, Int.reduceAdd, Int.reduceSub, Int.reduceMul, Int.reduceToNat, Int.reducePow, Int.reduceEq, ne_eq, reduceIte, repM, objsM, Obj.cells, iD, bsD, bD]
    repeat' ((first | (refine fork_split (fun _h => ?_) (fun _h => ?_)) | (refine gfork_split (fun _h => ?_) (fun _h => ?_)) | (refine dfork_split (fun _h => ?_) (fun _h => ?_))) <;> (try (simp only [↓ru, rv, rl, ry, tyf, iM, bM, bsM, cond_true, cond_false, Nat.reduceLT, Nat.reduceBEq, Nat.reduceAdd, Nat.reduceEqDiff, Nat.reduceMul, Nat.reduceLeDiff, Nat.reduceSub, Nat.reduceDiv, Int.reduceLE, Int.reduceLT, Int.reduceNeg, Int.reduceAdd, Int.reduceSub, Int.reduceMul, Int.reduceToNat, Int.reducePow, Int.reduceEq, ne_eq, reduceIte, repM, objsM, Obj.cells, iD, bsD, bD, *])))
    all_goals refine hb _ _ ?_ (by omega)
    all_goals simp only [↓ru, rv, rl, ry, tyf, iM, bM, bsM, cond_true, cond_false, Nat.reduceLT, Nat.reduceBEq, Nat.reduceAdd, Nat.reduceEqDiff, Nat.reduceMul, Nat.reduceLeDiff, Nat.reduceSub, Nat.reduceDiv, Int.reduceLE, Int.reduceLT, Int.reduceNeg, Int.reduceAdd, Int.reduceSub, Int.reduceMul, Int.reduceToNat, Int.reducePow, Int.reduceEq, ne_eq, reduceIte, repM, objsM, Obj.cells, iD, bsD, bD]
    all_goals simp_all [plainF]
  simp only [↓ru, rv, rl, ry, tyf, iM, bM, bsM, cond_true, cond_false, Nat.reduceLT, Nat.reduceBEq, Nat.reduceAdd, Nat.reduceEqDiff, Nat.reduceMul, Nat.reduceLeDiff, Nat.reduceSub, Nat.reduceDiv, Int.reduceLE, Int.reduceLT, Int.reduceNeg, Int.reduceAdd, Int.reduceSub, Int.reduceMul, Int.reduceToNat, Int.reducePow, Int.reduceEq, ne_eq, reduceIte, repM, objsM, Obj.cells, iD, bsD, bD]
  refine fork_split (fun h1 => ?_) (fun h1 => ?_)
  · simp only [↓ru, rv, rl, ry, tyf, iM, bM, bsM, cond_true, cond_false, Nat.reduceLT, Nat.reduceBEq, Nat.reduceAdd, Nat.reduceEqDiff, Nat.reduceMul, Nat.reduceLeDiff, Nat.reduceSub, Nat.reduceDiv, Int.reduceLE, Int.reduceLT, Int.reduceNeg, Int.reduceAdd, Int.reduceSub, Int.reduceMul, Int.reduceToNat, Int.reducePow, Int.reduceEq, ne_eq, reduceIte, repM, objsM, Obj.cells, iD, bsD, bD]
    repeat' ((first | (refine fork_split (fun _h => ?_) (fun _h => ?_)) | (refine gfork_split (fun _h => ?_) (fun _h => ?_)) | (refine dfork_split (fun _h => ?_) (fun _h => ?_))) <;> (try (simp only [↓ru, rv, rl, ry, tyf, iM, bM, bsM, cond_true, cond_false, Nat.reduceLT, Nat.reduceBEq, Nat.reduceAdd, Nat.reduceEqDiff, Nat.reduceMul, Nat.reduceLeDiff, Nat.reduceSub, Nat.reduceDiv, Int.reduceLE, Int.reduceLT, Int.reduceNeg, Int.reduceAdd, Int.reduceSub, Int.reduceMul, Int.reduceToNat, Int.reducePow, Int.reduceEq, ne_eq, reduceIte, repM, objsM, Obj.cells, iD, bsD, bD, pureEnd_of (fn := Try.f47) (rs := [.tmp 2]) (ts := [4]) rfl rfl, *])))
    all_goals refine leaf _ ?_
    all_goals simp_all [validF]
    all_goals (try omega)
  simp only [↓ru, rv, rl, ry, tyf, iM, bM, bsM, cond_true, cond_false, Nat.reduceLT, Nat.reduceBEq, Nat.reduceAdd, Nat.reduceEqDiff, Nat.reduceMul, Nat.reduceLeDiff, Nat.reduceSub, Nat.reduceDiv, Int.reduceLE, Int.reduceLT, Int.reduceNeg, Int.reduceAdd, Int.reduceSub, Int.reduceMul, Int.reduceToNat, Int.reducePow, Int.reduceEq, ne_eq, reduceIte, repM, objsM, Obj.cells, iD, bsD, bD]
  refine fork_split (fun h2 => ?_) (fun h2 => ?_)
  · have h2' := of_decide_eq_true h2
    have e43 : ¬ r.fn = 43 := by omega
    have e17 : ¬ r.fn = 17 := by omega
    simp only [↓ru, rv, rl, ry, tyf, iM, bM, bsM, cond_true, cond_false, Nat.reduceLT, Nat.reduceBEq, Nat.reduceAdd, Nat.reduceEqDiff, Nat.reduceMul, Nat.reduceLeDiff, Nat.reduceSub, Nat.reduceDiv, Int.reduceLE, Int.reduceLT, Int.reduceNeg, Int.reduceAdd, Int.reduceSub, Int.reduceMul, Int.reduceToNat, Int.reducePow, Int.reduceEq, ne_eq, reduceIte, repM, objsM, Obj.cells, iD, bsD, bD]
    repeat' ((first | (refine fork_split (fun _h => ?_) (fun _h => ?_)) | (refine gfork_split (fun _h => ?_) (fun _h => ?_)) | (refine dfork_split (fun _h => ?_) (fun _h => ?_))) <;> (try (simp only [↓ru, rv, rl, ry, tyf, iM, bM, bsM, cond_true, cond_false, Nat.reduceLT, Nat.reduceBEq, Nat.reduceAdd, Nat.reduceEqDiff, Nat.reduceMul, Nat.reduceLeDiff, Nat.reduceSub, Nat.reduceDiv, Int.reduceLE, Int.reduceLT, Int.reduceNeg, Int.reduceAdd, Int.reduceSub, Int.reduceMul, Int.reduceToNat, Int.reducePow, Int.reduceEq, ne_eq, reduceIte, repM, objsM, Obj.cells, iD, bsD, bD, pureEnd_of (fn := Try.f47) (rs := [.tmp 2]) (ts := [4]) rfl rfl, *])))
    all_goals refine leaf _ ?_
    all_goals simp_all [validF]
    all_goals (try omega)
  simp only [↓ru, rv, rl, ry, tyf, iM, bM, bsM, cond_true, cond_false, Nat.reduceLT, Nat.reduceBEq, Nat.reduceAdd, Nat.reduceEqDiff, Nat.reduceMul, Nat.reduceLeDiff, Nat.reduceSub, Nat.reduceDiv, Int.reduceLE, Int.reduceLT, Int.reduceNeg, Int.reduceAdd, Int.reduceSub, Int.reduceMul, Int.reduceToNat, Int.reducePow, Int.reduceEq, ne_eq, reduceIte, repM, objsM, Obj.cells, iD, bsD, bD]
  refine fork_split (fun h3 => ?_) (fun h3 => ?_)
  · have h3' := of_decide_eq_true h3
    have e43 : ¬ r.fn = 43 := by omega
    simp only [↓ru, rv, rl, ry, tyf, iM, bM, bsM, cond_true, cond_false, Nat.reduceLT, Nat.reduceBEq, Nat.reduceAdd, Nat.reduceEqDiff, Nat.reduceMul, Nat.reduceLeDiff, Nat.reduceSub, Nat.reduceDiv, Int.reduceLE, Int.reduceLT, Int.reduceNeg, Int.reduceAdd, Int.reduceSub, Int.reduceMul, Int.reduceToNat, Int.reducePow, Int.reduceEq, ne_eq, reduceIte, repM, objsM, Obj.cells, iD, bsD, bD]
    repeat' ((first | (refine fork_split (fun _h => ?_) (fun _h => ?_)) | (refine gfork_split (fun _h => ?_) (fun _h => ?_)) | (refine dfork_split (fun _h => ?_) (fun _h => ?_))) <;> (try (simp only [↓ru, rv, rl, ry, tyf, iM, bM, bsM, cond_true, cond_false, Nat.reduceLT, Nat.reduceBEq, Nat.reduceAdd, Nat.reduceEqDiff, Nat.reduceMul, Nat.reduceLeDiff, Nat.reduceSub, Nat.reduceDiv, Int.reduceLE, Int.reduceLT, Int.reduceNeg, Int.reduceAdd, Int.reduceSub, Int.reduceMul, Int.reduceToNat, Int.reducePow, Int.reduceEq, ne_eq, reduceIte, repM, objsM, Obj.cells, iD, bsD, bD, pureEnd_of (fn := Try.f47) (rs := [.tmp 2]) (ts := [4]) rfl rfl, *])))
    all_goals refine leaf _ ?_
    all_goals simp_all [validF]
    all_goals (try omega)
  have hv : True → validF r = devRefF r := fun _ => by
    have h2' := of_decide_eq_false h2
    have h3' := of_decide_eq_false h3
    have hk' := of_decide_eq_true hk
    have e43 : r.fn = 43 := by omega
    have h1' : r.ex = 0 := by simpa using h1
    rw [devRef_eq]
    rw [e43] at hk
    simp [validF, hk, h1', e43]
  refine cut_seq [(1, .ptr 0 0), (4, bM (levelF r.level))] [(0, .st [iM r.fn, iM r.ex, bsM r.data, iM r.code, iM r.level, bM r.more, iM r.next, objsM r.objs])] 1 (fun b' hb => ?_) (fun e0 k => ?_)
  · simp only [↓ru, rv, rl, ry, tyf, iM, bM, bsM, cond_true, cond_false, Nat.reduceLT, Nat.reduceBEq, Nat.reduceAdd, Nat.reduceEqDiff, Nat.reduceMul, Nat.reduceLeDiff, Nat.reduceSub, Nat.reduceDiv, Int.reduceLE, Int.reduceLT, Int.reduceNeg, Int.reduceAdd, Int.reduceSub, Int.reduceMul, Int.reduceToNat, Int.reducePow, Int.reduceEq, ne_eq, reduceIte, repM, objsM, Obj.cells, iD, bsD, bD]
    repeat' ((first | (refine fork_split (fun _h => ?_) (fun _h => ?_)) | (refine gfork_split (fun _h => ?_) (fun _h => ?_)) | (refine dfork_split (fun _h => ?_) (fun _h => ?_))) <;> (try (simp only [↓ru, rv, rl, ry, tyf, iM, bM, bsM, cond_true, cond_false, Nat.reduceLT, Nat.reduceBEq, Nat.reduceAdd, Nat.reduceEqDiff, Nat.reduceMul, Nat.reduceLeDiff, Nat.reduceSub, Nat.reduceDiv, Int.reduceLE, Int.reduceLT, Int.reduceNeg, Int.reduceAdd, Int.reduceSub, Int.reduceMul, Int.reduceToNat, Int.reducePow, Int.reduceEq, ne_eq, reduceIte, repM, objsM, Obj.cells, iD, bsD, bD, *])))
    all_goals refine hb _ _ ?_ (by omega)
    all_goals simp only [↓ru, rv, rl, ry, tyf, iM, bM, bsM, cond_true, cond_false, Nat.reduceLT, Nat.reduceBEq, Nat.reduceAdd, Nat.reduceEqDiff, Nat.reduceMul, Nat.reduceLeDiff, Nat.reduceSub, Nat.reduceDiv, Int.reduceLE, Int.reduceLT, Int.reduceNeg, Int.reduceAdd, Int.reduceSub, Int.reduceMul, Int.reduceToNat, Int.reducePow, Int.reduceEq, ne_eq, reduceIte, repM, objsM, Obj.cells, iD, bsD, bD]
    all_goals simp_all [levelF]
    all_goals (try omega)
  simp only [↓ru, rv, rl, ry, tyf, iM, bM, bsM, cond_true, cond_false, Nat.reduceLT, Nat.reduceBEq, Nat.reduceAdd, Nat.reduceEqDiff, Nat.reduceMul, Nat.reduceLeDiff, Nat.reduceSub, Nat.reduceDiv, Int.reduceLE, Int.reduceLT, Int.reduceNeg, Int.reduceAdd, Int.reduceSub, Int.reduceMul, Int.reduceToNat, Int.reducePow, Int.reduceEq, ne_eq, reduceIte, repM, objsM, Obj.cells, iD, bsD, bD]
  repeat' ((first | (refine fork_split (fun _h => ?_) (fun _h => ?_)) | (refine gfork_split (fun _h => ?_) (fun _h => ?_)) | (refine dfork_split (fun _h => ?_) (fun _h => ?_)) | (refine acall1_pure (t80 _ h.objs) rfl rfl ?_) | (refine dcall1_pure (t80 _ h.objs) rfl rfl ?_) | (refine acall1_pure (t91 _ h.objs) rfl rfl ?_) | (refine dcall1_pure (t91 _ h.objs) rfl rfl ?_)) <;> (try (simp only [↓ru, rv, rl, ry, tyf, iM, bM, bsM, cond_true, cond_false, Nat.reduceLT, Nat.reduceBEq, Nat.reduceAdd, Nat.reduceEqDiff, Nat.reduceMul, Nat.reduceLeDiff, Nat.reduceSub, Nat.reduceDiv, Int.reduceLE, Int.reduceLT, Int.reduceNeg, Int.reduceAdd, Int.reduceSub, Int.reduceMul, Int.reduceToNat, Int.reducePow, Int.reduceEq, ne_eq, reduceIte, repM, objsM, Obj.cells, iD, bsD, bD, pureEnd_of (fn := Try.f47) (rs := [.tmp 2]) (ts := [4]) rfl rfl, *])))
  all_goals (try simp only [Bool.not_eq_true', Bool.not_eq_false', decide_eq_true_eq, decide_eq_false_iff_not] at *)
  all_goals rw [hv trivial]
  · rw [devRefF, if_pos (by omega)]
  · rw [devRefF, if_pos (by omega)]
  · rw [devRefF, if_pos (by omega)]
  · rw [devRefF, if_pos (by simp_all)]
  · rw [devRefF, if_pos (by simp_all)]
  · rw [devRefF, if_pos (by simp_all)]
  · rw [devRefF, if_pos (by simp_all)]
  · rw [devRefF, if_pos (by simp_all)]
  · rw [devRefF, if_neg (by simp_all)]; simp_all
  · have hpos : 0 < r.objs.length := by omega
    have hlen := h.objs
    obtain ⟨o, ho⟩ := get_of_lt (l := r.objs) (i := r.objs.length - 1) (by omega)
    rw [wrap_i64 (by omega) (by omega), show (r.objs.length : Int) - 1 = ((r.objs.length - 1 : Nat) : Int) by omega]
    simp only [↓ru, rv, rl, ry, tyf, iM, bM, bsM, cond_true, cond_false, Nat.reduceLT, Nat.reduceBEq, Nat.reduceAdd, Nat.reduceEqDiff, Nat.reduceMul, Nat.reduceLeDiff, Nat.reduceSub, Nat.reduceDiv, Int.reduceLE, Int.reduceLT, Int.reduceNeg, Int.reduceAdd, Int.reduceSub, Int.reduceMul, Int.reduceToNat, Int.reducePow, Int.reduceEq, ne_eq, reduceIte, repM, objsM, Obj.cells, iD, bsD, bD, ho, pureEnd_of (fn := Try.f47) (rs := [.tmp 2]) (ts := [4]) rfl rfl]
    rw [devRefF, if_neg (by simp_all), lastId_get _ _ _ ho]; simp_all
  · rw [devRefF, if_neg (by simp_all)]; simp_all

end Go.R2

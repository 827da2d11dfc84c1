import Derived.Test.YtmgfnlnomecbiaaDoorU2
set_option linter.all false
open Go.Proofs Go.Abs Go.Fa Go.BU Go.TX
namespace Go.TW
set_option maxHeartbeats 4000000
set_option maxRecDepth 10000
-- rules: byteD, dstr, un1_str, iD

/-- The setting that a text says. -/
def parseS (t : List UInt8) : Stg × Bool := match allS.find? (fun s => decide (fmtS s = t)) with
  | some s => (s, true)
  | none => (⟨0, 0⟩, false)
def candS (t : List UInt8) : Stg := ⟨(pdec (cutB 45 t).1).1, Lib.index [78, 69, 79] (cutB 45 t).2.1⟩
def parse2 (t : List UInt8) : Stg × Bool := if (pdec (cutB 45 t).1).2 = true ∧ fmtS (candS t) = t then (candS t, true) else (⟨0, 0⟩, false)
theorem idx_app {c : UInt8} : ∀ {a b : List UInt8}, c ∉ a → idx c (a ++ c :: b) = some a.length := by
  intro a b h
  refine idx_found (by simp) (by simp) (fun j hj => ?_)
  rw [List.getD_eq_getElem?_getD, List.getElem?_append_left hj, List.getElem?_eq_getElem hj]
  intro e
  exact h (e ▸ List.getElem_mem hj)
theorem dig_not {n : Int} : (45 : UInt8) ∉ dec n := by
  intro h
  have := dec_dig n
  rw [List.all_eq_true] at this
  have := this _ h
  revert this; decide
theorem cut_fmt {n : Int} {p : UInt8} : cutB 45 (dec n ++ [45, p]) = (dec n, [p], true) := by
  rw [cutB, idx_app dig_not]
  simp
theorem cand_fmt {s : Stg} (h : validS s = true) : (pdec (cutB 45 (fmtS s)).1).2 = true ∧ candS (fmtS s) = s := by
  obtain ⟨h1, h2, h3⟩ := validS_range h
  obtain ⟨b, p⟩ := s
  rw [candS, fmtS, if_pos h, cut_fmt, pdec_dec (show 0 ≤ b ∧ b ≤ 999999999 from ⟨by have : 1200 ≤ b := h1; omega, by have : b ≤ 115200 := h2; omega⟩)]
  refine ⟨rfl, ?_⟩
  simp only at h3
  rcases h3 with rfl | rfl | rfl <;> rfl
theorem parse2_fmt {s : Stg} (h : validS s = true) : parse2 (fmtS s) = (s, true) := by
  obtain ⟨h1, h2⟩ := cand_fmt h
  rw [parse2, h2, if_pos ⟨h1, rfl⟩]
theorem parse2_valid {t : List UInt8} (h1 : (pdec (cutB 45 t).1).2 = true) (h2 : fmtS (candS t) = t) : validS (candS t) = true := by
  cases hv : validS (candS t) with
  | true => rfl
  | false =>
    rw [fmtS, hv] at h2
    simp only [Bool.false_eq_true, if_false] at h2
    subst h2
    have : (pdec (cutB 45 []).1).2 = false := by simp [cutB, idx, pdec_nil]
    rw [this] at h1; cases h1
theorem parse_eq (t : List UInt8) : parse2 t = parseS t := by
  unfold parseS
  cases hf : allS.find? (fun s => decide (fmtS s = t)) with
  | some s =>
    have h1 := List.find?_some hf
    have h2 := List.mem_of_find?_eq_some hf
    have h3 := of_decide_eq_true h1
    rw [← h3]
    exact parse2_fmt ((mem_allS s).1 h2)
  | none =>
    rw [List.find?_eq_none] at hf
    rw [parse2, if_neg]
    rintro ⟨h1, h2⟩
    have := hf _ ((mem_allS _).2 (parse2_valid h1 h2))
    simp [h2] at this
abbrev parM (t : List UInt8) : M := .tup [stgM (parseS t).1, bM (parseS t).2]
theorem Parse (t : List UInt8) (ht : t.length ≤ 100) : PFn Tryd.prog 91 [strM t] (parM t) := by
  have hl : (cutB 45 t).1.length ≤ 100 := by unfold cutB; split <;> simp <;> omega
  have e := parse_eq t
  unfold parse2 at e
  unfold parM
  rw [← e]
  clear e
  (refine PFn.of (prs := []) Tryd.func91 rfl rfl mix (by kernel_rfl) rfl rfl ?_; simp only [Tryd.ntmps91, argUpd])
  (try (simp only [↓ru, rv, rl, ry, tyf, iM, bM, bsM, cond_true, cond_false, Nat.reduceLT, Nat.reduceBEq, Nat.reduceAdd, Nat.reduceEqDiff, Nat.reduceMul, Nat.reduceLeDiff, Nat.reduceSub, Nat.reduceDiv, Int.reduceLE, Int.reduceLT, Int.reduceNeg, Int.reduceAdd, Int.reduceSub, Int.reduceMul, Int.reduceToNat, Int.reducePow, Int.reduceEq, ne_eq, reduceIte, byteD, dstr, un1_str, iD, pureEnd_of (fn := Tryd.f91) (rs := [.cell 2 92, .tmp 3]) (ts := [92, 4]) rfl rfl, *])); repeat' ((first | (refine fork_split (fun _h => ?_) (fun _h => ?_)) | (refine gfork_split (fun _h => ?_) (fun _h => ?_)) | (refine dfork_split (fun _h => ?_) (fun _h => ?_)) | (refine acall1_pure (Cut t 45 (by omega)) rfl rfl ?_) | (refine dcall1_pure (Cut t 45 (by omega)) rfl rfl ?_) | (refine acall1_pure (ParseDecimal (cutB 45 t).1 (by omega)) rfl rfl ?_) | (refine dcall1_pure (ParseDecimal (cutB 45 t).1 (by omega)) rfl rfl ?_) | (refine acall1_pure (IndexAny [78, 69, 79] (cutB 45 t).2.1 (by simp)) rfl rfl ?_) | (refine dcall1_pure (IndexAny [78, 69, 79] (cutB 45 t).2.1 (by simp)) rfl rfl ?_) | (refine acall1_pure (Format (candS t)) rfl rfl ?_) | (refine dcall1_pure (Format (candS t)) rfl rfl ?_)) <;> (try (simp only [↓ru, rv, rl, ry, tyf, iM, bM, bsM, cond_true, cond_false, Nat.reduceLT, Nat.reduceBEq, Nat.reduceAdd, Nat.reduceEqDiff, Nat.reduceMul, Nat.reduceLeDiff, Nat.reduceSub, Nat.reduceDiv, Int.reduceLE, Int.reduceLT, Int.reduceNeg, Int.reduceAdd, Int.reduceSub, Int.reduceMul, Int.reduceToNat, Int.reducePow, Int.reduceEq, ne_eq, reduceIte, byteD, dstr, un1_str, iD, pureEnd_of (fn := Tryd.f91) (rs := [.cell 2 92, .tmp 3]) (ts := [92, 4]) rfl rfl, *])))
  all_goals (try simp only [Bool.not_eq_true', Bool.not_eq_false', decide_eq_true_eq, decide_eq_false_iff_not] at *)
  · rw [if_neg (by simp_all)]
  · rw [if_neg (by simp_all)]
  · rw [if_pos (by simp_all)]; rfl
end Go.TW

import Derived.Test.YtalbgijagdmdcaaS4
set_option linter.all false
open Go.Proofs Go.Abs Go.FaR2
namespace Go.R2
-- rules: intsM, intD, iD, bsD, bD, setM, setsM, Setg.cells, ranM, ransM, Ran.cells, tabM, slvM, slvsM, Slv.cells, objsM, Obj.cells
set_option maxHeartbeats 4000000
set_option maxRecDepth 10000
/-! The document's test of a slave's objects. -/
def topF (lv top : Int) : Bool := decide (¬ (lv = 1 ∧ 2 < top) ∧ ¬ (lv = 2 ∧ 127 < top))
def valsF (l : List Obj) : Bool := l.all fun o => decide (o.val.length ≤ 64)
theorem lastId_cons : ∀ (l : List Obj) (p : Int) (o : Obj), lastId (o :: l) p = lastId l o.id := fun l p o => rfl
theorem rising_last : ∀ (l : List Obj) (p : Int), risingF l p = true → p ≤ lastId l p ∧ ∀ o, o ∈ l → o.id ≤ lastId l p
  | [], p, _ => by simp [lastId]
  | a :: l, p, h => by
    rw [risingF, Bool.and_eq_true, decide_eq_true_eq] at h
    obtain ⟨h1, h2⟩ := rising_last l a.id h.2
    rw [lastId]
    refine ⟨by omega, fun o ho => ?_⟩
    rcases List.mem_cons.1 ho with rfl | ho
    · exact h1
    · exact h2 o ho
theorem greatF_le (lv : Int) : greatF lv ≤ 255 := by unfold greatF; split <;> (try split) <;> omega
theorem last_le : ∀ (l : List Obj) (p : Int), p ≤ 255 → risingF l p = true → lastId l p ≤ 255
  | [], p, hp, _ => hp
  | o :: l, p, _, h => by
    rw [risingF, Bool.and_eq_true, decide_eq_true_eq] at h
    exact last_le l o.id h.1.2 h.2
theorem vobj_tail : ∀ (l : List Obj) (i : Nat) (p lv : Int), 3 ≤ i → p ≤ greatF lv → vobj l i p lv = (risingF l p && (decide (lastId l p ≤ greatF lv) && valsF l))
  | [], i, p, lv, hi, hp => by simp [vobj, risingF, lastId, valsF, hp]
  | o :: l, i, p, lv, hi, hp => by
    have hg := greatF_le lv
    rw [vobj, risingF, lastId]
    by_cases h1 : o.id ≤ p ∨ greatF lv < o.id ∨ 64 < o.val.length
    · rw [if_pos (by omega)]
      symm
      by_cases h2 : p < o.id ∧ o.id ≤ 255
      · rcases Classical.em (64 < o.val.length) with h3 | h3
        · have : valsF (o :: l) = false := by simp [valsF]; omega
          simp [this]
        · cases hr : risingF l o.id with
          | false => simp
          | true =>
            have := (rising_last l o.id hr).1
            have : decide (lastId l o.id ≤ greatF lv) = false := by simp; omega
            simp [this]
      · simp [decide_eq_false h2]
    · rw [if_neg (by omega), vobj_tail l (i + 1) o.id lv (by omega) (by omega)]
      have h2 : p < o.id ∧ o.id ≤ 255 := by omega
      have hv : valsF (o :: l) = valsF l := by simp [valsF]; omega
      rw [decide_eq_true h2, hv, Bool.true_and]
theorem objs_ref {lv : Int} {l : List Obj} (h : 1 ≤ lv ∧ lv ≤ 3) (hl : 3 ≤ l.length ∧ l.length ≤ 16) :
    objsV lv l = (risingF l (-1) && (decide (∃ o, l[2]? = some o ∧ o.id = 2) && (topF lv (lastId l (-1)) && valsF l))) := by
  match l, hl with
  | a :: b :: c :: r, hl =>
    rw [objsV, if_neg (by omega), if_neg (by omega)]
    have hg := greatF_le lv
    have hg2 : 2 ≤ greatF lv := by unfold greatF; split <;> (try split) <;> omega
    simp only [vobj, risingF, lastId]
    by_cases h0 : a.id = 0 ∧ b.id = 1 ∧ c.id = 2
    · obtain ⟨ha, hb, hc⟩ := h0
      by_cases hv : a.val.length ≤ 64 ∧ b.val.length ≤ 64 ∧ c.val.length ≤ 64
      · rw [if_neg (by omega), if_neg (by omega), if_neg (by omega), vobj_tail r _ _ _ (by omega) (by omega)]
        have e1 : valsF (a :: b :: c :: r) = valsF r := by
          simp only [valsF, List.all_cons, decide_eq_true hv.1, decide_eq_true hv.2.1, decide_eq_true hv.2.2, Bool.true_and]
        have e2 : decide (∃ o, (a :: b :: c :: r)[2]? = some o ∧ o.id = 2) = true := by simp [hc]
        rw [e1, e2]
        rw [decide_eq_true (show (-1 : Int) < a.id ∧ a.id ≤ 255 by omega), decide_eq_true (show a.id < b.id ∧ b.id ≤ 255 by omega), decide_eq_true (show b.id < c.id ∧ c.id ≤ 255 by omega)]
        simp only [Bool.true_and]
        cases hr : risingF r c.id with
        | false => simp
        | true =>
          have hx := (rising_last r c.id hr).1
          have hy : lastId r c.id ≤ 255 := last_le r c.id (by omega) hr
          simp only [Bool.true_and]
          congr 1
          unfold topF greatF
          rw [decide_eq_decide]
          split
          · omega
          · split <;> omega
      · have e1 : valsF (a :: b :: c :: r) = false := by simp [valsF]; omega
        rw [e1]
        simp only [Bool.and_false]
        split
        · rfl
        · split
          · rfl
          · split
            · rfl
            · exfalso; simp only [not_or, not_and] at *; omega
    · have e1 : ((decide ((-1 : Int) < a.id ∧ a.id ≤ 255) && (decide (a.id < b.id ∧ b.id ≤ 255) && (decide (b.id < c.id ∧ c.id ≤ 255) && risingF r c.id))) && decide (∃ o, (a :: b :: c :: r)[2]? = some o ∧ o.id = 2)) = false := by
        rw [Bool.eq_false_iff]
        simp only [ne_eq, Bool.and_eq_true, decide_eq_true_eq]
        rintro ⟨⟨h1, h2, h3, _⟩, o, ho, h4⟩
        simp at ho
        subst ho
        omega
      rw [← Bool.and_assoc, e1, Bool.false_and]
      split
      · rfl
      · split
        · rfl
        · split
          · rfl
          · exfalso; simp only [not_or, not_and, Nat.zero_add] at *; omega
end Go.R2

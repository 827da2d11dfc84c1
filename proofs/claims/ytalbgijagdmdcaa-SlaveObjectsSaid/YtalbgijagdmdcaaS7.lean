import Derived.Test.YtalbgijagdmdcaaS6
set_option linter.all false
open Go.Proofs Go.Abs Go.FaR2
namespace Go.R2
-- rules: intsM, intD, iD, bsD, bD, setM, setsM, Setg.cells, ranM, ransM, Ran.cells, tabM, slvM, slvsM, Slv.cells, objsM, Obj.cells, reqM, repM
set_option maxHeartbeats 4000000
set_option maxRecDepth 10000
/-- Covered address by address: the same, of a set. -/
theorem cover_all : ∀ (l : List Ran) (f s e : Int), ransF l f = true → s < e → ((∀ a, s ≤ a → a < e → ∃ x, x ∈ l ∧ x.first ≤ a ∧ a < x.first + x.count) ↔ ∃ x, x ∈ l ∧ x.first ≤ s ∧ e ≤ x.first + x.count)
  | [], f, s, e, h, hse => by
    constructor
    · intro ha; obtain ⟨x, hx, _⟩ := ha s (by omega) hse; simp at hx
    · rintro ⟨x, hx, _⟩; simp at hx
  | y :: l, f, s, e, h, hse => by
    have hy := ransF_mem _ _ h y (List.mem_cons_self ..)
    rw [ransF] at h
    split at h
    · cases h
    · have ht := ransF_mem l _ h
      constructor
      · intro ha
        by_cases h1 : y.first ≤ s ∧ s < y.first + y.count
        · refine ⟨y, List.mem_cons_self .., h1.1, ?_⟩
          rcases Int.lt_or_le (y.first + y.count) e with h2 | h2
          · obtain ⟨x, hx, hx1, hx2⟩ := ha (y.first + y.count) (by omega) h2
            rcases List.mem_cons.1 hx with rfl | hx
            · omega
            · have := ht x hx; omega
          · exact h2
        · have h2 : y.first + y.count + 1 ≤ s := by
            obtain ⟨x, hx, hx1, hx2⟩ := ha s (by omega) hse
            rcases List.mem_cons.1 hx with rfl | hx
            · exact absurd ⟨hx1, hx2⟩ h1
            · have := ht x hx; omega
          obtain ⟨x, hx, h3⟩ := (cover_all l _ s e h hse).1 fun a ha1 ha2 => by
            obtain ⟨x, hx, hx1, hx2⟩ := ha a ha1 ha2
            rcases List.mem_cons.1 hx with rfl | hx
            · omega
            · exact ⟨x, hx, hx1, hx2⟩
          exact ⟨x, List.mem_cons_of_mem _ hx, h3⟩
      · rintro ⟨x, hx, h1, h2⟩ a ha1 ha2
        exact ⟨x, hx, by omega, by omega⟩
def rangeF (r : Ran) : Bool := ransF [r] 0
theorem rangeF_iff (r : Ran) : rangeF r = decide (0 ≤ r.first ∧ r.first < 65536 ∧ 1 ≤ r.count ∧ r.count ≤ 65536 - r.first) := by
  rw [Bool.eq_iff_iff, rangeF, decide_eq_true_eq]
  simp only [ransF]
  split
  · simp; omega
  · simp; omega
theorem rangeF_true {r : Ran} (h : rangeF r = true) : 0 ≤ r.first ∧ r.first < 65536 ∧ 1 ≤ r.count ∧ r.count ≤ 65536 - r.first := by
  rw [rangeF_iff] at h; exact of_decide_eq_true h
theorem t86 (r : Ran) : PFn Try.prog 86 [ranM r] (bM (rangeF r)) := by
  refine PFn.of (prs := []) Try.func86 rfl rfl mix (by kernel_rfl) rfl rfl ?_
  simp only [Try.ntmps86, argUpd]
  (try (simp only [↓ru, rv, rl, ry, tyf, iM, bM, bsM, cond_true, cond_false, Nat.reduceLT, Nat.reduceBEq, Nat.reduceAdd, Nat.reduceEqDiff, Nat.reduceMul, Nat.reduceLeDiff, Nat.reduceSub, Nat.reduceDiv, Int.reduceLE, Int.reduceLT, Int.reduceNeg, Int.reduceAdd, Int.reduceSub, Int.reduceMul, Int.reduceToNat, Int.reducePow, Int.reduceEq, ne_eq, reduceIte, intsM, intD, iD, bsD, bD, setM, setsM, Setg.cells, ranM, ransM, Ran.cells, tabM, slvM, slvsM, Slv.cells, objsM, Obj.cells, reqM, repM, pureEnd_of (fn := Try.f86) (rs := [.tmp 2]) (ts := [4]) rfl rfl, *])); repeat' ((first | (refine fork_split (fun _h => ?_) (fun _h => ?_)) | (refine gfork_split (fun _h => ?_) (fun _h => ?_)) | (refine dfork_split (fun _h => ?_) (fun _h => ?_))) <;> (try (simp only [↓ru, rv, rl, ry, tyf, iM, bM, bsM, cond_true, cond_false, Nat.reduceLT, Nat.reduceBEq, Nat.reduceAdd, Nat.reduceEqDiff, Nat.reduceMul, Nat.reduceLeDiff, Nat.reduceSub, Nat.reduceDiv, Int.reduceLE, Int.reduceLT, Int.reduceNeg, Int.reduceAdd, Int.reduceSub, Int.reduceMul, Int.reduceToNat, Int.reducePow, Int.reduceEq, ne_eq, reduceIte, intsM, intD, iD, bsD, bD, setM, setsM, Setg.cells, ranM, ransM, Ran.cells, tabM, slvM, slvsM, Slv.cells, objsM, Obj.cells, reqM, repM, pureEnd_of (fn := Try.f86) (rs := [.tmp 2]) (ts := [4]) rfl rfl, *])))
  all_goals (try simp only [Bool.not_eq_true', Bool.not_eq_false', decide_eq_true_eq, decide_eq_false_iff_not] at *)
  all_goals refine leafB ?_
  all_goals rw [rangeF_iff]
  · rw [wrap_i64 (by omega) (by omega), decide_eq_decide]; omega
  all_goals (rw [decide_eq_false (by omega)])
/-- All addresses from s on, so many, are in the set. -/
def allIn (l : List Ran) (s : Int) : Nat → Bool
  | 0 => true
  | n + 1 => l.any (fun x => inX x s) && allIn l (s + 1) n
theorem allIn_iff (l : List Ran) : ∀ (n : Nat) (s : Int), allIn l s n = true ↔ ∀ a, s ≤ a → a < s + n → ∃ x, x ∈ l ∧ x.first ≤ a ∧ a < x.first + x.count
  | 0, s => by
    simp only [allIn, true_iff]
    intro a h1 h2; omega
  | n + 1, s => by
    rw [allIn, Bool.and_eq_true, allIn_iff l n (s + 1), List.any_eq_true]
    constructor
    · rintro ⟨⟨x, hx, h1⟩, h2⟩ a ha1 ha2
      by_cases has : a = s
      · subst has
        exact ⟨x, hx, by simpa [inX] using h1⟩
      · exact h2 a (by omega) (by omega)
    · intro h
      constructor
      · obtain ⟨x, hx, h1⟩ := h s (by omega) (by omega)
        exact ⟨x, hx, by simpa [inX] using h1⟩
      · intro a h1 h2; exact h a (by omega) (by omega)
theorem cover_ref {l : List Ran} {r : Ran} (h1 : rangeF r = true) (h2 : ransF l 0 = true) : coverF l r = allIn l r.first r.count.toNat := by
  have hr := rangeF_true h1
  rw [coverF, show ransF [r] 0 = true from h1, h2, Bool.true_and, Bool.true_and, Bool.eq_iff_iff, allIn_iff, List.any_eq_true]
  have := cover_all l 0 r.first (r.first + r.count) h2 (by omega)
  rw [show (r.count.toNat : Int) = r.count by omega, this]
  simp [coverX]
theorem any_succ {l : List Ran} {p : Ran → Bool} {i : Nat} {o : Ran} (ho : l[i]? = some o) : (l.take (i + 1)).any p = ((l.take i).any p || p o) := by
  rw [List.take_add_one, ho]; simp
theorem allIn_step {l : List Ran} {s : Int} {n : Nat} (h : 0 < n) : allIn l s n = (l.any (fun x => inX x s) && allIn l (s + 1) (n - 1)) := by
  obtain ⟨m, rfl⟩ : ∃ m, n = m + 1 := ⟨n - 1, by omega⟩
  rfl
theorem t41 (l : List Ran) (r : Ran) (hl : l.length ≤ 9223372036854775807) : PFn Try.prog 41 [ransM l, ranM r] (bM (coverF l r)) := by
  refine PFn.of (prs := [(10, [])]) Try.func41 rfl rfl mix (by kernel_rfl) rfl rfl ?_
  simp only [Try.ntmps41, argUpd]
  simp only [↓ru, rv, rl, ry, tyf, iM, bM, bsM, cond_true, cond_false, Nat.reduceLT, Nat.reduceBEq, Nat.reduceAdd, Nat.reduceEqDiff, Nat.reduceMul, Nat.reduceLeDiff, Nat.reduceSub, Nat.reduceDiv, Int.reduceLE, Int.reduceLT, Int.reduceNeg, Int.reduceAdd, Int.reduceSub, Int.reduceMul, Int.reduceToNat, Int.reducePow, Int.reduceEq, ne_eq, reduceIte, intsM, intD, iD, bsD, bD, setM, setsM, Setg.cells, ranM, ransM, Ran.cells, tabM, slvM, slvsM, Slv.cells, objsM, Obj.cells, reqM, repM]
  refine acall1_pure (t86 r) rfl rfl ?_
  cases hr : rangeF r with
  | false =>
    simp only [↓ru, rv, rl, ry, tyf, iM, bM, bsM, cond_true, cond_false, Nat.reduceLT, Nat.reduceBEq, Nat.reduceAdd, Nat.reduceEqDiff, Nat.reduceMul, Nat.reduceLeDiff, Nat.reduceSub, Nat.reduceDiv, Int.reduceLE, Int.reduceLT, Int.reduceNeg, Int.reduceAdd, Int.reduceSub, Int.reduceMul, Int.reduceToNat, Int.reducePow, Int.reduceEq, ne_eq, reduceIte, intsM, intD, iD, bsD, bD, setM, setsM, Setg.cells, ranM, ransM, Ran.cells, tabM, slvM, slvsM, Slv.cells, objsM, Obj.cells, reqM, repM, pureEnd_of (fn := Try.f41) (rs := [.tmp 4]) (ts := [4]) rfl rfl, coverF, show ransF [r] 0 = false from hr, Bool.false_and]
  | true =>
  simp only [↓ru, rv, rl, ry, tyf, iM, bM, bsM, cond_true, cond_false, Nat.reduceLT, Nat.reduceBEq, Nat.reduceAdd, Nat.reduceEqDiff, Nat.reduceMul, Nat.reduceLeDiff, Nat.reduceSub, Nat.reduceDiv, Int.reduceLE, Int.reduceLT, Int.reduceNeg, Int.reduceAdd, Int.reduceSub, Int.reduceMul, Int.reduceToNat, Int.reducePow, Int.reduceEq, ne_eq, reduceIte, intsM, intD, iD, bsD, bD, setM, setsM, Setg.cells, ranM, ransM, Ran.cells, tabM, slvM, slvsM, Slv.cells, objsM, Obj.cells, reqM, repM]
  refine acall1_pure (t78 l hl) rfl rfl ?_
  cases hs : ransF l 0 with
  | false => simp only [↓ru, rv, rl, ry, tyf, iM, bM, bsM, cond_true, cond_false, Nat.reduceLT, Nat.reduceBEq, Nat.reduceAdd, Nat.reduceEqDiff, Nat.reduceMul, Nat.reduceLeDiff, Nat.reduceSub, Nat.reduceDiv, Int.reduceLE, Int.reduceLT, Int.reduceNeg, Int.reduceAdd, Int.reduceSub, Int.reduceMul, Int.reduceToNat, Int.reducePow, Int.reduceEq, ne_eq, reduceIte, intsM, intD, iD, bsD, bD, setM, setsM, Setg.cells, ranM, ransM, Ran.cells, tabM, slvM, slvsM, Slv.cells, objsM, Obj.cells, reqM, repM, pureEnd_of (fn := Try.f41) (rs := [.tmp 4]) (ts := [4]) rfl rfl, coverF, show ransF [r] 0 = true from hr, hs, Bool.true_and, Bool.false_and]
  | true =>
  rw [cover_ref hr hs]
  have hR := rangeF_true hr
  have hL := ransF_mem l 0 hs
  simp only [↓ru, rv, rl, ry, tyf, iM, bM, bsM, cond_true, cond_false, Nat.reduceLT, Nat.reduceBEq, Nat.reduceAdd, Nat.reduceEqDiff, Nat.reduceMul, Nat.reduceLeDiff, Nat.reduceSub, Nat.reduceDiv, Int.reduceLE, Int.reduceLT, Int.reduceNeg, Int.reduceAdd, Int.reduceSub, Int.reduceMul, Int.reduceToNat, Int.reducePow, Int.reduceEq, ne_eq, reduceIte, intsM, intD, iD, bsD, bD, setM, setsM, Setg.cells, ranM, ransM, Ran.cells, tabM, slvM, slvsM, Slv.cells, objsM, Obj.cells, reqM, repM]
  refine aloop_lv (fun a : Int => [(0, ransM l), (3, .ptr 0 0), (5, iM a)]) (fun _ => [(0, .st [iM r.first, iM r.count])])
    (fun a => r.first ≤ a ∧ a ≤ r.first + r.count ∧ allIn l a (r.first + r.count - a).toNat = allIn l r.first r.count.toNat) (fun a => (r.first + r.count - a).toNat) 1 r.first (by simp only [↓ru, rv, rl, ry, tyf, iM, bM, bsM, cond_true, cond_false, Nat.reduceLT, Nat.reduceBEq, Nat.reduceAdd, Nat.reduceEqDiff, Nat.reduceMul, Nat.reduceLeDiff, Nat.reduceSub, Nat.reduceDiv, Int.reduceLE, Int.reduceLT, Int.reduceNeg, Int.reduceAdd, Int.reduceSub, Int.reduceMul, Int.reduceToNat, Int.reducePow, Int.reduceEq, ne_eq, reduceIte, intsM, intD, iD, bsD, bD, setM, setsM, Setg.cells, ranM, ransM, Ran.cells, tabM, slvM, slvsM, Slv.cells, objsM, Obj.cells, reqM, repM]) (by simp only [↓ru, rv, rl, ry, tyf, iM, bM, bsM, cond_true, cond_false, Nat.reduceLT, Nat.reduceBEq, Nat.reduceAdd, Nat.reduceEqDiff, Nat.reduceMul, Nat.reduceLeDiff, Nat.reduceSub, Nat.reduceDiv, Int.reduceLE, Int.reduceLT, Int.reduceNeg, Int.reduceAdd, Int.reduceSub, Int.reduceMul, Int.reduceToNat, Int.reducePow, Int.reduceEq, ne_eq, reduceIte, intsM, intD, iD, bsD, bD, setM, setsM, Setg.cells, ranM, ransM, Ran.cells, tabM, slvM, slvsM, Slv.cells, objsM, Obj.cells, reqM, repM]) ⟨by omega, by omega, by congr 1; omega⟩ (by omega) ?_
  intro a e0 n ⟨h1, h2, hall⟩
  simp only [↓ru, rv, rl, ry, tyf, iM, bM, bsM, cond_true, cond_false, Nat.reduceLT, Nat.reduceBEq, Nat.reduceAdd, Nat.reduceEqDiff, Nat.reduceMul, Nat.reduceLeDiff, Nat.reduceSub, Nat.reduceDiv, Int.reduceLE, Int.reduceLT, Int.reduceNeg, Int.reduceAdd, Int.reduceSub, Int.reduceMul, Int.reduceToNat, Int.reducePow, Int.reduceEq, ne_eq, reduceIte, intsM, intD, iD, bsD, bD, setM, setsM, Setg.cells, ranM, ransM, Ran.cells, tabM, slvM, slvsM, Slv.cells, objsM, Obj.cells, reqM, repM]
  rw [wrap_i64 (by omega) (by omega)]
  refine fork_split (fun h => ?_) (fun h => ?_)
  · have h' := of_decide_eq_true h
    rw [allIn_step (by omega)] at hall
    simp only [↓ru, rv, rl, ry, tyf, iM, bM, bsM, cond_true, cond_false, Nat.reduceLT, Nat.reduceBEq, Nat.reduceAdd, Nat.reduceEqDiff, Nat.reduceMul, Nat.reduceLeDiff, Nat.reduceSub, Nat.reduceDiv, Int.reduceLE, Int.reduceLT, Int.reduceNeg, Int.reduceAdd, Int.reduceSub, Int.reduceMul, Int.reduceToNat, Int.reducePow, Int.reduceEq, ne_eq, reduceIte, intsM, intD, iD, bsD, bD, setM, setsM, Setg.cells, ranM, ransM, Ran.cells, tabM, slvM, slvsM, Slv.cells, objsM, Obj.cells, reqM, repM]
    refine aloop_lv (fun j : Nat => [(0, ransM l), (3, .ptr 0 0), (5, iM a), (6, bM ((l.take j).any fun x => inX x a)), (7, iM j)]) (fun _ => [(0, .st [iM r.first, iM r.count])])
      (fun j => j ≤ l.length) (fun j => l.length - j) 1 0 (by simp only [↓ru, rv, rl, ry, tyf, iM, bM, bsM, cond_true, cond_false, Nat.reduceLT, Nat.reduceBEq, Nat.reduceAdd, Nat.reduceEqDiff, Nat.reduceMul, Nat.reduceLeDiff, Nat.reduceSub, Nat.reduceDiv, Int.reduceLE, Int.reduceLT, Int.reduceNeg, Int.reduceAdd, Int.reduceSub, Int.reduceMul, Int.reduceToNat, Int.reducePow, Int.reduceEq, ne_eq, reduceIte, intsM, intD, iD, bsD, bD, setM, setsM, Setg.cells, ranM, ransM, Ran.cells, tabM, slvM, slvsM, Slv.cells, objsM, Obj.cells, reqM, repM]; simp) (by simp only [↓ru, rv, rl, ry, tyf, iM, bM, bsM, cond_true, cond_false, Nat.reduceLT, Nat.reduceBEq, Nat.reduceAdd, Nat.reduceEqDiff, Nat.reduceMul, Nat.reduceLeDiff, Nat.reduceSub, Nat.reduceDiv, Int.reduceLE, Int.reduceLT, Int.reduceNeg, Int.reduceAdd, Int.reduceSub, Int.reduceMul, Int.reduceToNat, Int.reducePow, Int.reduceEq, ne_eq, reduceIte, intsM, intD, iD, bsD, bD, setM, setsM, Setg.cells, ranM, ransM, Ran.cells, tabM, slvM, slvsM, Slv.cells, objsM, Obj.cells, reqM, repM]) (by omega) (by omega) ?_
    intro j e1 n1 hj
    simp only [↓ru, rv, rl, ry, tyf, iM, bM, bsM, cond_true, cond_false, Nat.reduceLT, Nat.reduceBEq, Nat.reduceAdd, Nat.reduceEqDiff, Nat.reduceMul, Nat.reduceLeDiff, Nat.reduceSub, Nat.reduceDiv, Int.reduceLE, Int.reduceLT, Int.reduceNeg, Int.reduceAdd, Int.reduceSub, Int.reduceMul, Int.reduceToNat, Int.reducePow, Int.reduceEq, ne_eq, reduceIte, intsM, intD, iD, bsD, bD, setM, setsM, Setg.cells, ranM, ransM, Ran.cells, tabM, slvM, slvsM, Slv.cells, objsM, Obj.cells, reqM, repM]
    refine fork_split (fun h3 => ?_) (fun h3 => ?_)
    · have h3' := of_decide_eq_true h3
      obtain ⟨o, ho⟩ := get_of_lt (l := l) (i := j) (by omega)
      have hs1 := any_succ (p := fun x => inX x a) ho
      have hLo := hL o (List.mem_of_getElem? ho)
      simp only [↓ru, rv, rl, ry, tyf, iM, bM, bsM, cond_true, cond_false, Nat.reduceLT, Nat.reduceBEq, Nat.reduceAdd, Nat.reduceEqDiff, Nat.reduceMul, Nat.reduceLeDiff, Nat.reduceSub, Nat.reduceDiv, Int.reduceLE, Int.reduceLT, Int.reduceNeg, Int.reduceAdd, Int.reduceSub, Int.reduceMul, Int.reduceToNat, Int.reducePow, Int.reduceEq, ne_eq, reduceIte, intsM, intD, iD, bsD, bD, setM, setsM, Setg.cells, ranM, ransM, Ran.cells, tabM, slvM, slvsM, Slv.cells, objsM, Obj.cells, reqM, repM, ho]
      (try (simp only [↓ru, rv, rl, ry, tyf, iM, bM, bsM, cond_true, cond_false, Nat.reduceLT, Nat.reduceBEq, Nat.reduceAdd, Nat.reduceEqDiff, Nat.reduceMul, Nat.reduceLeDiff, Nat.reduceSub, Nat.reduceDiv, Int.reduceLE, Int.reduceLT, Int.reduceNeg, Int.reduceAdd, Int.reduceSub, Int.reduceMul, Int.reduceToNat, Int.reducePow, Int.reduceEq, ne_eq, reduceIte, intsM, intD, iD, bsD, bD, setM, setsM, Setg.cells, ranM, ransM, Ran.cells, tabM, slvM, slvsM, Slv.cells, objsM, Obj.cells, reqM, repM, ho, *])); repeat' ((first | (refine fork_split (fun _h => ?_) (fun _h => ?_)) | (refine gfork_split (fun _h => ?_) (fun _h => ?_)) | (refine dfork_split (fun _h => ?_) (fun _h => ?_))) <;> (try (simp only [↓ru, rv, rl, ry, tyf, iM, bM, bsM, cond_true, cond_false, Nat.reduceLT, Nat.reduceBEq, Nat.reduceAdd, Nat.reduceEqDiff, Nat.reduceMul, Nat.reduceLeDiff, Nat.reduceSub, Nat.reduceDiv, Int.reduceLE, Int.reduceLT, Int.reduceNeg, Int.reduceAdd, Int.reduceSub, Int.reduceMul, Int.reduceToNat, Int.reducePow, Int.reduceEq, ne_eq, reduceIte, intsM, intD, iD, bsD, bD, setM, setsM, Setg.cells, ranM, ransM, Ran.cells, tabM, slvM, slvsM, Slv.cells, objsM, Obj.cells, reqM, repM, ho, *])))
      all_goals simp (disch := omega) only [wrap_i64, wrap_u8, wrap_u16, wrap_u64]
      · have hs2 : ((l.take (j + 1)).any fun x => inX x a) = true := by rw [hs1, ‹((l.take j).any fun x => inX x a) = true›, Bool.true_or]
        refine loopL_next (j + 1) (by (simp only [↓ru, rv, rl, ry, tyf, iM, bM, bsM, cond_true, cond_false, Nat.reduceLT, Nat.reduceBEq, Nat.reduceAdd, Nat.reduceEqDiff, Nat.reduceMul, Nat.reduceLeDiff, Nat.reduceSub, Nat.reduceDiv, Int.reduceLE, Int.reduceLT, Int.reduceNeg, Int.reduceAdd, Int.reduceSub, Int.reduceMul, Int.reduceToNat, Int.reducePow, Int.reduceEq, ne_eq, reduceIte, intsM, intD, iD, bsD, bD, setM, setsM, Setg.cells, ranM, ransM, Ran.cells, tabM, slvM, slvsM, Slv.cells, objsM, Obj.cells, reqM, repM, hs2]); simp) rfl (by omega) (by omega) (by omega)
      · have hs2 : ((l.take (j + 1)).any fun x => inX x a) = decide (a < o.first + o.count) := by
          have := of_decide_eq_true ‹decide (o.first ≤ a) = true›
          rw [hs1, ‹((l.take j).any fun x => inX x a) = false›, Bool.false_or, inX, decide_eq_decide]; omega
        refine loopL_next (j + 1) (by (simp only [↓ru, rv, rl, ry, tyf, iM, bM, bsM, cond_true, cond_false, Nat.reduceLT, Nat.reduceBEq, Nat.reduceAdd, Nat.reduceEqDiff, Nat.reduceMul, Nat.reduceLeDiff, Nat.reduceSub, Nat.reduceDiv, Int.reduceLE, Int.reduceLT, Int.reduceNeg, Int.reduceAdd, Int.reduceSub, Int.reduceMul, Int.reduceToNat, Int.reducePow, Int.reduceEq, ne_eq, reduceIte, intsM, intD, iD, bsD, bD, setM, setsM, Setg.cells, ranM, ransM, Ran.cells, tabM, slvM, slvsM, Slv.cells, objsM, Obj.cells, reqM, repM, hs2]); simp) rfl (by omega) (by omega) (by omega)
      · have hs2 : ((l.take (j + 1)).any fun x => inX x a) = false := by
          have := of_decide_eq_false ‹decide (o.first ≤ a) = false›
          rw [hs1, ‹((l.take j).any fun x => inX x a) = false›, Bool.false_or, inX]; simp; omega
        refine loopL_next (j + 1) (by (simp only [↓ru, rv, rl, ry, tyf, iM, bM, bsM, cond_true, cond_false, Nat.reduceLT, Nat.reduceBEq, Nat.reduceAdd, Nat.reduceEqDiff, Nat.reduceMul, Nat.reduceLeDiff, Nat.reduceSub, Nat.reduceDiv, Int.reduceLE, Int.reduceLT, Int.reduceNeg, Int.reduceAdd, Int.reduceSub, Int.reduceMul, Int.reduceToNat, Int.reducePow, Int.reduceEq, ne_eq, reduceIte, intsM, intD, iD, bsD, bD, setM, setsM, Setg.cells, ranM, ransM, Ran.cells, tabM, slvM, slvsM, Slv.cells, objsM, Obj.cells, reqM, repM, hs2]); simp) rfl (by omega) (by omega) (by omega)
    · have h3' := of_decide_eq_false h3
      obtain rfl : j = l.length := by omega
      rw [List.take_length]
      cases hin : l.any fun x => inX x a with
      | false =>
        rw [hin, Bool.false_and] at hall
        simp only [↓ru, rv, rl, ry, tyf, iM, bM, bsM, cond_true, cond_false, Nat.reduceLT, Nat.reduceBEq, Nat.reduceAdd, Nat.reduceEqDiff, Nat.reduceMul, Nat.reduceLeDiff, Nat.reduceSub, Nat.reduceDiv, Int.reduceLE, Int.reduceLT, Int.reduceNeg, Int.reduceAdd, Int.reduceSub, Int.reduceMul, Int.reduceToNat, Int.reducePow, Int.reduceEq, ne_eq, reduceIte, intsM, intD, iD, bsD, bD, setM, setsM, Setg.cells, ranM, ransM, Ran.cells, tabM, slvM, slvsM, Slv.cells, objsM, Obj.cells, reqM, repM, hin, ← hall, pureEnd_of (fn := Try.f41) (rs := [.tmp 4]) (ts := [4]) rfl rfl]
      | true =>
        rw [hin, Bool.true_and] at hall
        simp only [↓ru, rv, rl, ry, tyf, iM, bM, bsM, cond_true, cond_false, Nat.reduceLT, Nat.reduceBEq, Nat.reduceAdd, Nat.reduceEqDiff, Nat.reduceMul, Nat.reduceLeDiff, Nat.reduceSub, Nat.reduceDiv, Int.reduceLE, Int.reduceLT, Int.reduceNeg, Int.reduceAdd, Int.reduceSub, Int.reduceMul, Int.reduceToNat, Int.reducePow, Int.reduceEq, ne_eq, reduceIte, intsM, intD, iD, bsD, bD, setM, setsM, Setg.cells, ranM, ransM, Ran.cells, tabM, slvM, slvsM, Slv.cells, objsM, Obj.cells, reqM, repM, hin]
        simp (disch := omega) only [wrap_i64, wrap_u8, wrap_u16, wrap_u64]
        refine loopL_next (a + 1) (by simp only [↓ru, rv, rl, ry, tyf, iM, bM, bsM, cond_true, cond_false, Nat.reduceLT, Nat.reduceBEq, Nat.reduceAdd, Nat.reduceEqDiff, Nat.reduceMul, Nat.reduceLeDiff, Nat.reduceSub, Nat.reduceDiv, Int.reduceLE, Int.reduceLT, Int.reduceNeg, Int.reduceAdd, Int.reduceSub, Int.reduceMul, Int.reduceToNat, Int.reducePow, Int.reduceEq, ne_eq, reduceIte, intsM, intD, iD, bsD, bD, setM, setsM, Setg.cells, ranM, ransM, Ran.cells, tabM, slvM, slvsM, Slv.cells, objsM, Obj.cells, reqM, repM]) rfl ⟨by omega, by omega, by rw [← hall]; congr 1; omega⟩ (by omega) (by omega)
  · have h' := of_decide_eq_false h
    obtain rfl : a = r.first + r.count := by omega
    rw [show (r.first + r.count - (r.first + r.count)).toNat = 0 by omega, allIn] at hall
    simp only [↓ru, rv, rl, ry, tyf, iM, bM, bsM, cond_true, cond_false, Nat.reduceLT, Nat.reduceBEq, Nat.reduceAdd, Nat.reduceEqDiff, Nat.reduceMul, Nat.reduceLeDiff, Nat.reduceSub, Nat.reduceDiv, Int.reduceLE, Int.reduceLT, Int.reduceNeg, Int.reduceAdd, Int.reduceSub, Int.reduceMul, Int.reduceToNat, Int.reducePow, Int.reduceEq, ne_eq, reduceIte, intsM, intD, iD, bsD, bD, setM, setsM, Setg.cells, ranM, ransM, Ran.cells, tabM, slvM, slvsM, Slv.cells, objsM, Obj.cells, reqM, repM, ← hall, pureEnd_of (fn := Try.f41) (rs := [.tmp 4]) (ts := [4]) rfl rfl]

/-- An address in a list, if that is a set. -/
def inRF (l : List Ran) (a : Int) : Bool := ransF l 0 && l.any fun x => inX x a
theorem t64 (l : List Ran) (a : Int) (hl : l.length ≤ 9223372036854775807) (ha : -9223372036854775808 ≤ a ∧ a ≤ 9223372036854775807) : PFn Try.prog 64 [ransM l, iM a] (bM (inRF l a)) := by
  refine PFn.of (prs := [(4, [])]) Try.func64 rfl rfl mix (by kernel_rfl) rfl rfl ?_
  simp only [Try.ntmps64, argUpd]
  simp only [↓ru, rv, rl, ry, tyf, iM, bM, bsM, cond_true, cond_false, Nat.reduceLT, Nat.reduceBEq, Nat.reduceAdd, Nat.reduceEqDiff, Nat.reduceMul, Nat.reduceLeDiff, Nat.reduceSub, Nat.reduceDiv, Int.reduceLE, Int.reduceLT, Int.reduceNeg, Int.reduceAdd, Int.reduceSub, Int.reduceMul, Int.reduceToNat, Int.reducePow, Int.reduceEq, ne_eq, reduceIte, intsM, intD, iD, bsD, bD, setM, setsM, Setg.cells, ranM, ransM, Ran.cells, tabM, slvM, slvsM, Slv.cells, objsM, Obj.cells, reqM, repM]
  refine aloop_lv (fun j : Nat => [(0, ransM l), (1, iM a), (5, iM j)]) (fun _ => []) (fun j => j ≤ l.length ∧ (ransF l 0 = true → ((l.take j).any fun x => inX x a) = false)) (fun j => l.length - j) 0 0 (by simp only [↓ru, rv, rl, ry, tyf, iM, bM, bsM, cond_true, cond_false, Nat.reduceLT, Nat.reduceBEq, Nat.reduceAdd, Nat.reduceEqDiff, Nat.reduceMul, Nat.reduceLeDiff, Nat.reduceSub, Nat.reduceDiv, Int.reduceLE, Int.reduceLT, Int.reduceNeg, Int.reduceAdd, Int.reduceSub, Int.reduceMul, Int.reduceToNat, Int.reducePow, Int.reduceEq, ne_eq, reduceIte, intsM, intD, iD, bsD, bD, setM, setsM, Setg.cells, ranM, ransM, Ran.cells, tabM, slvM, slvsM, Slv.cells, objsM, Obj.cells, reqM, repM]) rfl ⟨by omega, by simp⟩ (by omega) ?_
  intro j e0 n ⟨hj, hn⟩
  simp only [↓ru, rv, rl, ry, tyf, iM, bM, bsM, cond_true, cond_false, Nat.reduceLT, Nat.reduceBEq, Nat.reduceAdd, Nat.reduceEqDiff, Nat.reduceMul, Nat.reduceLeDiff, Nat.reduceSub, Nat.reduceDiv, Int.reduceLE, Int.reduceLT, Int.reduceNeg, Int.reduceAdd, Int.reduceSub, Int.reduceMul, Int.reduceToNat, Int.reducePow, Int.reduceEq, ne_eq, reduceIte, intsM, intD, iD, bsD, bD, setM, setsM, Setg.cells, ranM, ransM, Ran.cells, tabM, slvM, slvsM, Slv.cells, objsM, Obj.cells, reqM, repM]
  refine gfork_split (fun h => ?_) (fun h => ?_)
  · have h' := of_decide_eq_true h
    obtain ⟨o, ho⟩ := get_of_lt (l := l) (i := j) (by omega)
    have hs1 := any_succ (p := fun x => inX x a) ho
    simp only [↓ru, rv, rl, ry, tyf, iM, bM, bsM, cond_true, cond_false, Nat.reduceLT, Nat.reduceBEq, Nat.reduceAdd, Nat.reduceEqDiff, Nat.reduceMul, Nat.reduceLeDiff, Nat.reduceSub, Nat.reduceDiv, Int.reduceLE, Int.reduceLT, Int.reduceNeg, Int.reduceAdd, Int.reduceSub, Int.reduceMul, Int.reduceToNat, Int.reducePow, Int.reduceEq, ne_eq, reduceIte, intsM, intD, iD, bsD, bD, setM, setsM, Setg.cells, ranM, ransM, Ran.cells, tabM, slvM, slvsM, Slv.cells, objsM, Obj.cells, reqM, repM]
    refine acall1_pure (t78 l hl) rfl rfl ?_
    cases hs : ransF l 0 with
    | false => simp only [↓ru, rv, rl, ry, tyf, iM, bM, bsM, cond_true, cond_false, Nat.reduceLT, Nat.reduceBEq, Nat.reduceAdd, Nat.reduceEqDiff, Nat.reduceMul, Nat.reduceLeDiff, Nat.reduceSub, Nat.reduceDiv, Int.reduceLE, Int.reduceLT, Int.reduceNeg, Int.reduceAdd, Int.reduceSub, Int.reduceMul, Int.reduceToNat, Int.reducePow, Int.reduceEq, ne_eq, reduceIte, intsM, intD, iD, bsD, bD, setM, setsM, Setg.cells, ranM, ransM, Ran.cells, tabM, slvM, slvsM, Slv.cells, objsM, Obj.cells, reqM, repM, inRF, hs, Bool.false_and, pureEnd_of (fn := Try.f64) (rs := [.tmp 4]) (ts := [4]) rfl rfl]
    | true =>
      have hLo := ransF_mem l 0 hs o (List.mem_of_getElem? ho)
      have hnn := hn hs
      clear hn
      rw [hnn, Bool.false_or] at hs1
      simp only [↓ru, rv, rl, ry, tyf, iM, bM, bsM, cond_true, cond_false, Nat.reduceLT, Nat.reduceBEq, Nat.reduceAdd, Nat.reduceEqDiff, Nat.reduceMul, Nat.reduceLeDiff, Nat.reduceSub, Nat.reduceDiv, Int.reduceLE, Int.reduceLT, Int.reduceNeg, Int.reduceAdd, Int.reduceSub, Int.reduceMul, Int.reduceToNat, Int.reducePow, Int.reduceEq, ne_eq, reduceIte, intsM, intD, iD, bsD, bD, setM, setsM, Setg.cells, ranM, ransM, Ran.cells, tabM, slvM, slvsM, Slv.cells, objsM, Obj.cells, reqM, repM, ho]
      by_cases h1 : o.first ≤ a
      · have d1 : decide (o.first ≤ a) = true := by simpa using h1
        simp only [↓ru, rv, rl, ry, tyf, iM, bM, bsM, cond_true, cond_false, Nat.reduceLT, Nat.reduceBEq, Nat.reduceAdd, Nat.reduceEqDiff, Nat.reduceMul, Nat.reduceLeDiff, Nat.reduceSub, Nat.reduceDiv, Int.reduceLE, Int.reduceLT, Int.reduceNeg, Int.reduceAdd, Int.reduceSub, Int.reduceMul, Int.reduceToNat, Int.reducePow, Int.reduceEq, ne_eq, reduceIte, intsM, intD, iD, bsD, bD, setM, setsM, Setg.cells, ranM, ransM, Ran.cells, tabM, slvM, slvsM, Slv.cells, objsM, Obj.cells, reqM, repM, ho, d1]
        rw [wrap_i64 (by omega) (by omega)]
        by_cases h2 : a - o.first < o.count
        · have d2 : decide (a - o.first < o.count) = true := by simpa using h2
          have hx : inX o a = true := by rw [inX]; simp; omega
          have : l.any (fun x => inX x a) = true := List.any_eq_true.2 ⟨o, List.mem_of_getElem? ho, hx⟩
          simp only [↓ru, rv, rl, ry, tyf, iM, bM, bsM, cond_true, cond_false, Nat.reduceLT, Nat.reduceBEq, Nat.reduceAdd, Nat.reduceEqDiff, Nat.reduceMul, Nat.reduceLeDiff, Nat.reduceSub, Nat.reduceDiv, Int.reduceLE, Int.reduceLT, Int.reduceNeg, Int.reduceAdd, Int.reduceSub, Int.reduceMul, Int.reduceToNat, Int.reducePow, Int.reduceEq, ne_eq, reduceIte, intsM, intD, iD, bsD, bD, setM, setsM, Setg.cells, ranM, ransM, Ran.cells, tabM, slvM, slvsM, Slv.cells, objsM, Obj.cells, reqM, repM, d2, inRF, hs, this, Bool.and_self, pureEnd_of (fn := Try.f64) (rs := [.tmp 4]) (ts := [4]) rfl rfl]
        · have d2 : decide (a - o.first < o.count) = false := by simpa using h2
          have hx : inX o a = false := by rw [inX]; simp; omega
          rw [hx] at hs1
          simp only [↓ru, rv, rl, ry, tyf, iM, bM, bsM, cond_true, cond_false, Nat.reduceLT, Nat.reduceBEq, Nat.reduceAdd, Nat.reduceEqDiff, Nat.reduceMul, Nat.reduceLeDiff, Nat.reduceSub, Nat.reduceDiv, Int.reduceLE, Int.reduceLT, Int.reduceNeg, Int.reduceAdd, Int.reduceSub, Int.reduceMul, Int.reduceToNat, Int.reducePow, Int.reduceEq, ne_eq, reduceIte, intsM, intD, iD, bsD, bD, setM, setsM, Setg.cells, ranM, ransM, Ran.cells, tabM, slvM, slvsM, Slv.cells, objsM, Obj.cells, reqM, repM, d2]
          simp (disch := omega) only [wrap_i64, wrap_u8, wrap_u16, wrap_u64]
          refine loopL_next (j + 1) (by simp only [↓ru, rv, rl, ry, tyf, iM, bM, bsM, cond_true, cond_false, Nat.reduceLT, Nat.reduceBEq, Nat.reduceAdd, Nat.reduceEqDiff, Nat.reduceMul, Nat.reduceLeDiff, Nat.reduceSub, Nat.reduceDiv, Int.reduceLE, Int.reduceLT, Int.reduceNeg, Int.reduceAdd, Int.reduceSub, Int.reduceMul, Int.reduceToNat, Int.reducePow, Int.reduceEq, ne_eq, reduceIte, intsM, intD, iD, bsD, bD, setM, setsM, Setg.cells, ranM, ransM, Ran.cells, tabM, slvM, slvsM, Slv.cells, objsM, Obj.cells, reqM, repM]; simp) rfl ⟨by omega, fun _ => hs1⟩ (by omega) (by omega)
      · have d1 : decide (o.first ≤ a) = false := by simpa using h1
        have hx : inX o a = false := by rw [inX]; simp; omega
        rw [hx] at hs1
        simp only [↓ru, rv, rl, ry, tyf, iM, bM, bsM, cond_true, cond_false, Nat.reduceLT, Nat.reduceBEq, Nat.reduceAdd, Nat.reduceEqDiff, Nat.reduceMul, Nat.reduceLeDiff, Nat.reduceSub, Nat.reduceDiv, Int.reduceLE, Int.reduceLT, Int.reduceNeg, Int.reduceAdd, Int.reduceSub, Int.reduceMul, Int.reduceToNat, Int.reducePow, Int.reduceEq, ne_eq, reduceIte, intsM, intD, iD, bsD, bD, setM, setsM, Setg.cells, ranM, ransM, Ran.cells, tabM, slvM, slvsM, Slv.cells, objsM, Obj.cells, reqM, repM, d1]
        simp (disch := omega) only [wrap_i64, wrap_u8, wrap_u16, wrap_u64]
        refine loopL_next (j + 1) (by simp only [↓ru, rv, rl, ry, tyf, iM, bM, bsM, cond_true, cond_false, Nat.reduceLT, Nat.reduceBEq, Nat.reduceAdd, Nat.reduceEqDiff, Nat.reduceMul, Nat.reduceLeDiff, Nat.reduceSub, Nat.reduceDiv, Int.reduceLE, Int.reduceLT, Int.reduceNeg, Int.reduceAdd, Int.reduceSub, Int.reduceMul, Int.reduceToNat, Int.reducePow, Int.reduceEq, ne_eq, reduceIte, intsM, intD, iD, bsD, bD, setM, setsM, Setg.cells, ranM, ransM, Ran.cells, tabM, slvM, slvsM, Slv.cells, objsM, Obj.cells, reqM, repM]; simp) rfl ⟨by omega, fun _ => hs1⟩ (by omega) (by omega)
  · have h' := of_decide_eq_false h
    obtain rfl : j = l.length := by omega
    rw [List.take_length] at hn
    have : inRF l a = false := by
      rw [inRF]
      cases hs : ransF l 0 with
      | false => rfl
      | true => rw [hn hs]; rfl
    simp only [↓ru, rv, rl, ry, tyf, iM, bM, bsM, cond_true, cond_false, Nat.reduceLT, Nat.reduceBEq, Nat.reduceAdd, Nat.reduceEqDiff, Nat.reduceMul, Nat.reduceLeDiff, Nat.reduceSub, Nat.reduceDiv, Int.reduceLE, Int.reduceLT, Int.reduceNeg, Int.reduceAdd, Int.reduceSub, Int.reduceMul, Int.reduceToNat, Int.reducePow, Int.reduceEq, ne_eq, reduceIte, intsM, intD, iD, bsD, bD, setM, setsM, Setg.cells, ranM, ransM, Ran.cells, tabM, slvM, slvsM, Slv.cells, objsM, Obj.cells, reqM, repM, this, pureEnd_of (fn := Try.f64) (rs := [.tmp 4]) (ts := [4]) rfl rfl]
end Go.R2

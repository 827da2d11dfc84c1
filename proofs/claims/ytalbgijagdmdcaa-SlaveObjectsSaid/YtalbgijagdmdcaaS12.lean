import Derived.Test.YtalbgijagdmdcaaS11
set_option linter.all false
open Go.Proofs Go.Abs Go.FaR2
namespace Go.R2
-- rules: intsM, intD, iD, bsD, bD, setM, setsM, Setg.cells, ranM, ransM, Ran.cells, tabM, slvM, slvsM, Slv.cells, objsM, Obj.cells, reqM, repM, byteD
set_option maxHeartbeats 4000000
set_option maxRecDepth 10000
def Slv.tab (s : Slv) (k : Int) : Tab := if k = 1 then s.t0 else if k = 2 then s.t1 else if k = 3 then s.t2 else s.t3
def ansF (s : Slv) (q : Req) (v : Int) : Rep :=
  if slvF s = false ∨ reqF q = false ∨ possF v = false then rep0 else
  if q.fn = 43 then identF s q else
  if q.fn ≠ 17 then readT (s.tab q.fn) q v else
  if s.has = false then refF q 1 else ⟨17, 0, s.server, 0, 0, false, 0, []⟩
theorem objsV_parts {lv : Int} {l : List Obj} (h : objsV lv l = true) : l.length ≤ 16 ∧ ∀ o, o ∈ l → o.val.length ≤ 64 := by
  rw [objsV] at h
  split at h
  · have h' : l.length = 0 := of_decide_eq_true h
    have : l = [] := List.eq_nil_of_length_eq_zero h'
    subst this
    simp
  · split at h
    · cases h
    · refine ⟨by omega, ?_⟩
      have : ∀ (l : List Obj) (i : Nat) (p : Int), vobj l i p lv = true → ∀ o, o ∈ l → o.val.length ≤ 64 := by
        intro l
        induction l with
        | nil => intro i p _ o ho; simp at ho
        | cons a l ih =>
          intro i p h o ho
          rw [vobj] at h
          split at h
          · cases h
          · rcases List.mem_cons.1 ho with rfl | ho
            · omega
            · exact ih _ _ h o ho
      exact this l 0 0 h
theorem slvF_parts {s : Slv} (h : slvF s = true) : objsV s.level s.objs = true ∧ s.server.length ≤ 64 := by
  simp only [slvF, Bool.and_eq_true] at h
  obtain ⟨_, _, h1, _, _, _, _, h2⟩ := h
  refine ⟨h1, ?_⟩
  rw [srv_ref] at h2
  simp at h2
  omega
theorem reqF_kinds {q : Req} (h : reqF q = true) : q.Tb ∧ q.qty ≤ limitF q.fn ∧ q.addr ≤ 65536 - q.qty ∧ q.code = 0 ∧ q.obj = 0 ∨ q.fn = 17 ∨ (q.fn = 43 ∧ 1 ≤ q.code ∧ q.code ≤ 3 ∧ 0 ≤ q.obj ∧ q.obj ≤ 255 ∧ q.addr = 0 ∧ q.qty = 0) := by
  rw [reqF] at h
  split at h
  · rename_i h1
    have h2 := of_decide_eq_true h
    have := limitF_le q.fn
    exact .inl ⟨⟨h1, by omega, by omega⟩, by omega, by omega, by omega, by omega⟩
  · split at h
    · exact .inr (.inl ‹_›)
    · split at h
      · have h2 := of_decide_eq_true h
        exact .inr (.inr ⟨‹_›, by omega, by omega, by omega, by omega, by omega, by omega⟩)
      · cases h
theorem tab_read {s : Slv} (h : s.Wf) (k : Int) : (s.tab k).read.length ≤ 9223372036854775807 := by
  obtain ⟨h0, h1, h2, h3, _, _⟩ := h
  unfold Slv.tab
  split
  · exact h0
  · split
    · exact h1
    · split
      · exact h2
      · exact h3
theorem t63 (s : Slv) (q : Req) (v : Int) (h : s.Wf) : PFn Try.prog 63 [slvM s, reqM q, iM v] (repM (ansF s q v)) := by
  refine PFn.of (prs := [(6, []), (9, [(0, 4), (1, 4)])]) Try.func63 rfl rfl mix (by kernel_rfl) rfl rfl ?_
  simp only [Try.ntmps63, argUpd]
  simp only [↓ru, rv, rl, ry, tyf, iM, bM, bsM, cond_true, cond_false, Nat.reduceLT, Nat.reduceBEq, Nat.reduceAdd, Nat.reduceEqDiff, Nat.reduceMul, Nat.reduceLeDiff, Nat.reduceSub, Nat.reduceDiv, Int.reduceLE, Int.reduceLT, Int.reduceNeg, Int.reduceAdd, Int.reduceSub, Int.reduceMul, Int.reduceToNat, Int.reducePow, Int.reduceEq, ne_eq, reduceIte, intsM, intD, iD, bsD, bD, setM, setsM, Setg.cells, ranM, ransM, Ran.cells, tabM, slvM, slvsM, Slv.cells, objsM, Obj.cells, reqM, repM, byteD]
  refine acall1_pure (t60 s h) rfl rfl ?_
  cases h1 : slvF s with
  | false => simp only [↓ru, rv, rl, ry, tyf, iM, bM, bsM, cond_true, cond_false, Nat.reduceLT, Nat.reduceBEq, Nat.reduceAdd, Nat.reduceEqDiff, Nat.reduceMul, Nat.reduceLeDiff, Nat.reduceSub, Nat.reduceDiv, Int.reduceLE, Int.reduceLT, Int.reduceNeg, Int.reduceAdd, Int.reduceSub, Int.reduceMul, Int.reduceToNat, Int.reducePow, Int.reduceEq, ne_eq, reduceIte, intsM, intD, iD, bsD, bD, setM, setsM, Setg.cells, ranM, ransM, Ran.cells, tabM, slvM, slvsM, Slv.cells, objsM, Obj.cells, reqM, repM, byteD, ansF, h1, pureEnd_of (fn := Try.f63) (rs := [.cell 6 77]) (ts := [77]) rfl rfl, rep0, true_or, if_true]
  | true =>
  simp only [↓ru, rv, rl, ry, tyf, iM, bM, bsM, cond_true, cond_false, Nat.reduceLT, Nat.reduceBEq, Nat.reduceAdd, Nat.reduceEqDiff, Nat.reduceMul, Nat.reduceLeDiff, Nat.reduceSub, Nat.reduceDiv, Int.reduceLE, Int.reduceLT, Int.reduceNeg, Int.reduceAdd, Int.reduceSub, Int.reduceMul, Int.reduceToNat, Int.reducePow, Int.reduceEq, ne_eq, reduceIte, intsM, intD, iD, bsD, bD, setM, setsM, Setg.cells, ranM, ransM, Ran.cells, tabM, slvM, slvsM, Slv.cells, objsM, Obj.cells, reqM, repM, byteD]
  refine acall1_pure (t94 q) rfl rfl ?_
  cases h2 : reqF q with
  | false => simp only [↓ru, rv, rl, ry, tyf, iM, bM, bsM, cond_true, cond_false, Nat.reduceLT, Nat.reduceBEq, Nat.reduceAdd, Nat.reduceEqDiff, Nat.reduceMul, Nat.reduceLeDiff, Nat.reduceSub, Nat.reduceDiv, Int.reduceLE, Int.reduceLT, Int.reduceNeg, Int.reduceAdd, Int.reduceSub, Int.reduceMul, Int.reduceToNat, Int.reducePow, Int.reduceEq, ne_eq, reduceIte, intsM, intD, iD, bsD, bD, setM, setsM, Setg.cells, ranM, ransM, Ran.cells, tabM, slvM, slvsM, Slv.cells, objsM, Obj.cells, reqM, repM, byteD, ansF, h1, h2, pureEnd_of (fn := Try.f63) (rs := [.cell 6 77]) (ts := [77]) rfl rfl, rep0, true_or, or_true, if_true]
  | true =>
  simp only [↓ru, rv, rl, ry, tyf, iM, bM, bsM, cond_true, cond_false, Nat.reduceLT, Nat.reduceBEq, Nat.reduceAdd, Nat.reduceEqDiff, Nat.reduceMul, Nat.reduceLeDiff, Nat.reduceSub, Nat.reduceDiv, Int.reduceLE, Int.reduceLT, Int.reduceNeg, Int.reduceAdd, Int.reduceSub, Int.reduceMul, Int.reduceToNat, Int.reducePow, Int.reduceEq, ne_eq, reduceIte, intsM, intD, iD, bsD, bD, setM, setsM, Setg.cells, ranM, ransM, Ran.cells, tabM, slvM, slvsM, Slv.cells, objsM, Obj.cells, reqM, repM, byteD]
  refine acall1_pure (t101 v) rfl rfl ?_
  cases h3 : possF v with
  | false => simp only [↓ru, rv, rl, ry, tyf, iM, bM, bsM, cond_true, cond_false, Nat.reduceLT, Nat.reduceBEq, Nat.reduceAdd, Nat.reduceEqDiff, Nat.reduceMul, Nat.reduceLeDiff, Nat.reduceSub, Nat.reduceDiv, Int.reduceLE, Int.reduceLT, Int.reduceNeg, Int.reduceAdd, Int.reduceSub, Int.reduceMul, Int.reduceToNat, Int.reducePow, Int.reduceEq, ne_eq, reduceIte, intsM, intD, iD, bsD, bD, setM, setsM, Setg.cells, ranM, ransM, Ran.cells, tabM, slvM, slvsM, Slv.cells, objsM, Obj.cells, reqM, repM, byteD, ansF, h1, h2, h3, pureEnd_of (fn := Try.f63) (rs := [.cell 6 77]) (ts := [77]) rfl rfl, rep0, true_or, or_true, if_true]
  | true =>
  obtain ⟨ho, hs⟩ := slvF_parts h1
  obtain ⟨ho1, ho2⟩ := objsV_parts ho
  have hA : ansF s q v = if q.fn = 43 then identF s q else if q.fn ≠ 17 then readT (s.tab q.fn) q v else if s.has = false then refF q 1 else ⟨17, 0, s.server, 0, 0, false, 0, []⟩ := by
    rw [ansF, if_neg (by simp [h1, h2, h3])]
  rcases reqF_kinds h2 with ⟨hq, _⟩ | h17 | ⟨h43, hc1, hc2, _⟩
  · have d1 : decide (q.fn = 43) = false := by have := hq.fn; simp; omega
    have d2 : decide (q.fn = 17) = false := by have := hq.fn; simp; omega
    rw [if_neg (by have := hq.fn; omega), if_pos (by have := hq.fn; omega)] at hA
    rw [hA]
    have hfn := hq.fn
    have : q.fn = 1 ∨ q.fn = 2 ∨ q.fn = 3 ∨ q.fn = 4 := by omega
    obtain ⟨fn, addr, qty, code, obj⟩ := q
    simp only at this d1 d2
    rcases this with e | e | e | e
    · subst e
      simp only [↓ru, rv, rl, ry, tyf, iM, bM, bsM, cond_true, cond_false, Nat.reduceLT, Nat.reduceBEq, Nat.reduceAdd, Nat.reduceEqDiff, Nat.reduceMul, Nat.reduceLeDiff, Nat.reduceSub, Nat.reduceDiv, Int.reduceLE, Int.reduceLT, Int.reduceNeg, Int.reduceAdd, Int.reduceSub, Int.reduceMul, Int.reduceToNat, Int.reducePow, Int.reduceEq, ne_eq, reduceIte, intsM, intD, iD, bsD, bD, setM, setsM, Setg.cells, ranM, ransM, Ran.cells, tabM, slvM, slvsM, Slv.cells, objsM, Obj.cells, reqM, repM, byteD, d1, d2, wrap_i64]
      refine dcall1_pure (t103 s.t0 ⟨1, addr, qty, code, obj⟩ v h.t0 hq) rfl rfl ?_
      simp only [↓ru, rv, rl, ry, tyf, iM, bM, bsM, cond_true, cond_false, Nat.reduceLT, Nat.reduceBEq, Nat.reduceAdd, Nat.reduceEqDiff, Nat.reduceMul, Nat.reduceLeDiff, Nat.reduceSub, Nat.reduceDiv, Int.reduceLE, Int.reduceLT, Int.reduceNeg, Int.reduceAdd, Int.reduceSub, Int.reduceMul, Int.reduceToNat, Int.reducePow, Int.reduceEq, ne_eq, reduceIte, intsM, intD, iD, bsD, bD, setM, setsM, Setg.cells, ranM, ransM, Ran.cells, tabM, slvM, slvsM, Slv.cells, objsM, Obj.cells, reqM, repM, byteD, pureEnd_of (fn := Try.f63) (rs := [.cell 6 77]) (ts := [77]) rfl rfl]
      rfl
    · subst e
      simp only [↓ru, rv, rl, ry, tyf, iM, bM, bsM, cond_true, cond_false, Nat.reduceLT, Nat.reduceBEq, Nat.reduceAdd, Nat.reduceEqDiff, Nat.reduceMul, Nat.reduceLeDiff, Nat.reduceSub, Nat.reduceDiv, Int.reduceLE, Int.reduceLT, Int.reduceNeg, Int.reduceAdd, Int.reduceSub, Int.reduceMul, Int.reduceToNat, Int.reducePow, Int.reduceEq, ne_eq, reduceIte, intsM, intD, iD, bsD, bD, setM, setsM, Setg.cells, ranM, ransM, Ran.cells, tabM, slvM, slvsM, Slv.cells, objsM, Obj.cells, reqM, repM, byteD, d1, d2, wrap_i64]
      refine dcall1_pure (t103 s.t1 ⟨2, addr, qty, code, obj⟩ v h.t1 hq) rfl rfl ?_
      simp only [↓ru, rv, rl, ry, tyf, iM, bM, bsM, cond_true, cond_false, Nat.reduceLT, Nat.reduceBEq, Nat.reduceAdd, Nat.reduceEqDiff, Nat.reduceMul, Nat.reduceLeDiff, Nat.reduceSub, Nat.reduceDiv, Int.reduceLE, Int.reduceLT, Int.reduceNeg, Int.reduceAdd, Int.reduceSub, Int.reduceMul, Int.reduceToNat, Int.reducePow, Int.reduceEq, ne_eq, reduceIte, intsM, intD, iD, bsD, bD, setM, setsM, Setg.cells, ranM, ransM, Ran.cells, tabM, slvM, slvsM, Slv.cells, objsM, Obj.cells, reqM, repM, byteD, pureEnd_of (fn := Try.f63) (rs := [.cell 6 77]) (ts := [77]) rfl rfl]
      rfl
    · subst e
      simp only [↓ru, rv, rl, ry, tyf, iM, bM, bsM, cond_true, cond_false, Nat.reduceLT, Nat.reduceBEq, Nat.reduceAdd, Nat.reduceEqDiff, Nat.reduceMul, Nat.reduceLeDiff, Nat.reduceSub, Nat.reduceDiv, Int.reduceLE, Int.reduceLT, Int.reduceNeg, Int.reduceAdd, Int.reduceSub, Int.reduceMul, Int.reduceToNat, Int.reducePow, Int.reduceEq, ne_eq, reduceIte, intsM, intD, iD, bsD, bD, setM, setsM, Setg.cells, ranM, ransM, Ran.cells, tabM, slvM, slvsM, Slv.cells, objsM, Obj.cells, reqM, repM, byteD, d1, d2, wrap_i64]
      refine dcall1_pure (t103 s.t2 ⟨3, addr, qty, code, obj⟩ v h.t2 hq) rfl rfl ?_
      simp only [↓ru, rv, rl, ry, tyf, iM, bM, bsM, cond_true, cond_false, Nat.reduceLT, Nat.reduceBEq, Nat.reduceAdd, Nat.reduceEqDiff, Nat.reduceMul, Nat.reduceLeDiff, Nat.reduceSub, Nat.reduceDiv, Int.reduceLE, Int.reduceLT, Int.reduceNeg, Int.reduceAdd, Int.reduceSub, Int.reduceMul, Int.reduceToNat, Int.reducePow, Int.reduceEq, ne_eq, reduceIte, intsM, intD, iD, bsD, bD, setM, setsM, Setg.cells, ranM, ransM, Ran.cells, tabM, slvM, slvsM, Slv.cells, objsM, Obj.cells, reqM, repM, byteD, pureEnd_of (fn := Try.f63) (rs := [.cell 6 77]) (ts := [77]) rfl rfl]
      rfl
    · subst e
      simp only [↓ru, rv, rl, ry, tyf, iM, bM, bsM, cond_true, cond_false, Nat.reduceLT, Nat.reduceBEq, Nat.reduceAdd, Nat.reduceEqDiff, Nat.reduceMul, Nat.reduceLeDiff, Nat.reduceSub, Nat.reduceDiv, Int.reduceLE, Int.reduceLT, Int.reduceNeg, Int.reduceAdd, Int.reduceSub, Int.reduceMul, Int.reduceToNat, Int.reducePow, Int.reduceEq, ne_eq, reduceIte, intsM, intD, iD, bsD, bD, setM, setsM, Setg.cells, ranM, ransM, Ran.cells, tabM, slvM, slvsM, Slv.cells, objsM, Obj.cells, reqM, repM, byteD, d1, d2, wrap_i64]
      refine dcall1_pure (t103 s.t3 ⟨4, addr, qty, code, obj⟩ v h.t3 hq) rfl rfl ?_
      simp only [↓ru, rv, rl, ry, tyf, iM, bM, bsM, cond_true, cond_false, Nat.reduceLT, Nat.reduceBEq, Nat.reduceAdd, Nat.reduceEqDiff, Nat.reduceMul, Nat.reduceLeDiff, Nat.reduceSub, Nat.reduceDiv, Int.reduceLE, Int.reduceLT, Int.reduceNeg, Int.reduceAdd, Int.reduceSub, Int.reduceMul, Int.reduceToNat, Int.reducePow, Int.reduceEq, ne_eq, reduceIte, intsM, intD, iD, bsD, bD, setM, setsM, Setg.cells, ranM, ransM, Ran.cells, tabM, slvM, slvsM, Slv.cells, objsM, Obj.cells, reqM, repM, byteD, pureEnd_of (fn := Try.f63) (rs := [.cell 6 77]) (ts := [77]) rfl rfl]
      rfl
  · have d1 : decide (q.fn = 43) = false := by simp; omega
    have d2 : decide (q.fn = 17) = true := by simpa using h17
    rw [if_neg (by omega), if_neg (by omega)] at hA
    rw [hA]
    simp only [↓ru, rv, rl, ry, tyf, iM, bM, bsM, cond_true, cond_false, Nat.reduceLT, Nat.reduceBEq, Nat.reduceAdd, Nat.reduceEqDiff, Nat.reduceMul, Nat.reduceLeDiff, Nat.reduceSub, Nat.reduceDiv, Int.reduceLE, Int.reduceLT, Int.reduceNeg, Int.reduceAdd, Int.reduceSub, Int.reduceMul, Int.reduceToNat, Int.reducePow, Int.reduceEq, ne_eq, reduceIte, intsM, intD, iD, bsD, bD, setM, setsM, Setg.cells, ranM, ransM, Ran.cells, tabM, slvM, slvsM, Slv.cells, objsM, Obj.cells, reqM, repM, byteD, d1, d2]
    cases hh : s.has with
    | false =>
      simp only [↓ru, rv, rl, ry, tyf, iM, bM, bsM, cond_true, cond_false, Nat.reduceLT, Nat.reduceBEq, Nat.reduceAdd, Nat.reduceEqDiff, Nat.reduceMul, Nat.reduceLeDiff, Nat.reduceSub, Nat.reduceDiv, Int.reduceLE, Int.reduceLT, Int.reduceNeg, Int.reduceAdd, Int.reduceSub, Int.reduceMul, Int.reduceToNat, Int.reducePow, Int.reduceEq, ne_eq, reduceIte, intsM, intD, iD, bsD, bD, setM, setsM, Setg.cells, ranM, ransM, Ran.cells, tabM, slvM, slvsM, Slv.cells, objsM, Obj.cells, reqM, repM, byteD]
      refine acall1_pure (t104 q 1) rfl rfl ?_
      simp only [↓ru, rv, rl, ry, tyf, iM, bM, bsM, cond_true, cond_false, Nat.reduceLT, Nat.reduceBEq, Nat.reduceAdd, Nat.reduceEqDiff, Nat.reduceMul, Nat.reduceLeDiff, Nat.reduceSub, Nat.reduceDiv, Int.reduceLE, Int.reduceLT, Int.reduceNeg, Int.reduceAdd, Int.reduceSub, Int.reduceMul, Int.reduceToNat, Int.reducePow, Int.reduceEq, ne_eq, reduceIte, intsM, intD, iD, bsD, bD, setM, setsM, Setg.cells, ranM, ransM, Ran.cells, tabM, slvM, slvsM, Slv.cells, objsM, Obj.cells, reqM, repM, byteD, pureEnd_of (fn := Try.f63) (rs := [.cell 6 77]) (ts := [77]) rfl rfl, refF, if_true]
    | true =>
      simp only [↓ru, rv, rl, ry, tyf, iM, bM, bsM, cond_true, cond_false, Nat.reduceLT, Nat.reduceBEq, Nat.reduceAdd, Nat.reduceEqDiff, Nat.reduceMul, Nat.reduceLeDiff, Nat.reduceSub, Nat.reduceDiv, Int.reduceLE, Int.reduceLT, Int.reduceNeg, Int.reduceAdd, Int.reduceSub, Int.reduceMul, Int.reduceToNat, Int.reducePow, Int.reduceEq, ne_eq, reduceIte, intsM, intD, iD, bsD, bD, setM, setsM, Setg.cells, ranM, ransM, Ran.cells, tabM, slvM, slvsM, Slv.cells, objsM, Obj.cells, reqM, repM, byteD]
      refine dcall1_pure (t71 s.server (by omega)) rfl rfl ?_
      simp only [↓ru, rv, rl, ry, tyf, iM, bM, bsM, cond_true, cond_false, Nat.reduceLT, Nat.reduceBEq, Nat.reduceAdd, Nat.reduceEqDiff, Nat.reduceMul, Nat.reduceLeDiff, Nat.reduceSub, Nat.reduceDiv, Int.reduceLE, Int.reduceLT, Int.reduceNeg, Int.reduceAdd, Int.reduceSub, Int.reduceMul, Int.reduceToNat, Int.reducePow, Int.reduceEq, ne_eq, reduceIte, intsM, intD, iD, bsD, bD, setM, setsM, Setg.cells, ranM, ransM, Ran.cells, tabM, slvM, slvsM, Slv.cells, objsM, Obj.cells, reqM, repM, byteD, pureEnd_of (fn := Try.f63) (rs := [.cell 6 77]) (ts := [77]) rfl rfl, Bool.true_eq_false, if_false, h17]
  · have d1 : decide (q.fn = 43) = true := by simpa using h43
    rw [if_pos h43] at hA
    rw [hA]
    simp only [↓ru, rv, rl, ry, tyf, iM, bM, bsM, cond_true, cond_false, Nat.reduceLT, Nat.reduceBEq, Nat.reduceAdd, Nat.reduceEqDiff, Nat.reduceMul, Nat.reduceLeDiff, Nat.reduceSub, Nat.reduceDiv, Int.reduceLE, Int.reduceLT, Int.reduceNeg, Int.reduceAdd, Int.reduceSub, Int.reduceMul, Int.reduceToNat, Int.reducePow, Int.reduceEq, ne_eq, reduceIte, intsM, intD, iD, bsD, bD, setM, setsM, Setg.cells, ranM, ransM, Ran.cells, tabM, slvM, slvsM, Slv.cells, objsM, Obj.cells, reqM, repM, byteD, d1]
    refine acall1_pure (t102 s q ho1 ho2) rfl rfl ?_
    simp only [↓ru, rv, rl, ry, tyf, iM, bM, bsM, cond_true, cond_false, Nat.reduceLT, Nat.reduceBEq, Nat.reduceAdd, Nat.reduceEqDiff, Nat.reduceMul, Nat.reduceLeDiff, Nat.reduceSub, Nat.reduceDiv, Int.reduceLE, Int.reduceLT, Int.reduceNeg, Int.reduceAdd, Int.reduceSub, Int.reduceMul, Int.reduceToNat, Int.reducePow, Int.reduceEq, ne_eq, reduceIte, intsM, intD, iD, bsD, bD, setM, setsM, Setg.cells, ranM, ransM, Ran.cells, tabM, slvM, slvsM, Slv.cells, objsM, Obj.cells, reqM, repM, byteD, pureEnd_of (fn := Try.f63) (rs := [.cell 6 77]) (ts := [77]) rfl rfl]
theorem t66 (s : Slv) (q : Req) (v : Int) (h : s.Wf) : PFn Try.prog 66 [slvM s, reqM q, iM v] (repM (ansF s q v)) := by
  refine PFn.of (prs := [(4, [])]) Try.func66 rfl rfl mix (by kernel_rfl) rfl rfl ?_
  simp only [Try.ntmps66, argUpd]
  simp only [↓ru, rv, rl, ry, tyf, iM, bM, bsM, cond_true, cond_false, Nat.reduceLT, Nat.reduceBEq, Nat.reduceAdd, Nat.reduceEqDiff, Nat.reduceMul, Nat.reduceLeDiff, Nat.reduceSub, Nat.reduceDiv, Int.reduceLE, Int.reduceLT, Int.reduceNeg, Int.reduceAdd, Int.reduceSub, Int.reduceMul, Int.reduceToNat, Int.reducePow, Int.reduceEq, ne_eq, reduceIte, intsM, intD, iD, bsD, bD, setM, setsM, Setg.cells, ranM, ransM, Ran.cells, tabM, slvM, slvsM, Slv.cells, objsM, Obj.cells, reqM, repM, byteD]
  refine acall1_pure (t36 s h) rfl rfl ?_
  cases h1 : slvF s with
  | false => simp only [↓ru, rv, rl, ry, tyf, iM, bM, bsM, cond_true, cond_false, Nat.reduceLT, Nat.reduceBEq, Nat.reduceAdd, Nat.reduceEqDiff, Nat.reduceMul, Nat.reduceLeDiff, Nat.reduceSub, Nat.reduceDiv, Int.reduceLE, Int.reduceLT, Int.reduceNeg, Int.reduceAdd, Int.reduceSub, Int.reduceMul, Int.reduceToNat, Int.reducePow, Int.reduceEq, ne_eq, reduceIte, intsM, intD, iD, bsD, bD, setM, setsM, Setg.cells, ranM, ransM, Ran.cells, tabM, slvM, slvsM, Slv.cells, objsM, Obj.cells, reqM, repM, byteD, ansF, h1, pureEnd_of (fn := Try.f66) (rs := [.cell 6 77]) (ts := [77]) rfl rfl, rep0, true_or, if_true]
  | true =>
  simp only [↓ru, rv, rl, ry, tyf, iM, bM, bsM, cond_true, cond_false, Nat.reduceLT, Nat.reduceBEq, Nat.reduceAdd, Nat.reduceEqDiff, Nat.reduceMul, Nat.reduceLeDiff, Nat.reduceSub, Nat.reduceDiv, Int.reduceLE, Int.reduceLT, Int.reduceNeg, Int.reduceAdd, Int.reduceSub, Int.reduceMul, Int.reduceToNat, Int.reducePow, Int.reduceEq, ne_eq, reduceIte, intsM, intD, iD, bsD, bD, setM, setsM, Setg.cells, ranM, ransM, Ran.cells, tabM, slvM, slvsM, Slv.cells, objsM, Obj.cells, reqM, repM, byteD]
  refine acall1_pure (t67 q) rfl rfl ?_
  cases h2 : reqF q with
  | false => simp only [↓ru, rv, rl, ry, tyf, iM, bM, bsM, cond_true, cond_false, Nat.reduceLT, Nat.reduceBEq, Nat.reduceAdd, Nat.reduceEqDiff, Nat.reduceMul, Nat.reduceLeDiff, Nat.reduceSub, Nat.reduceDiv, Int.reduceLE, Int.reduceLT, Int.reduceNeg, Int.reduceAdd, Int.reduceSub, Int.reduceMul, Int.reduceToNat, Int.reducePow, Int.reduceEq, ne_eq, reduceIte, intsM, intD, iD, bsD, bD, setM, setsM, Setg.cells, ranM, ransM, Ran.cells, tabM, slvM, slvsM, Slv.cells, objsM, Obj.cells, reqM, repM, byteD, ansF, h1, h2, pureEnd_of (fn := Try.f66) (rs := [.cell 6 77]) (ts := [77]) rfl rfl, rep0, true_or, or_true, if_true]
  | true =>
  simp only [↓ru, rv, rl, ry, tyf, iM, bM, bsM, cond_true, cond_false, Nat.reduceLT, Nat.reduceBEq, Nat.reduceAdd, Nat.reduceEqDiff, Nat.reduceMul, Nat.reduceLeDiff, Nat.reduceSub, Nat.reduceDiv, Int.reduceLE, Int.reduceLT, Int.reduceNeg, Int.reduceAdd, Int.reduceSub, Int.reduceMul, Int.reduceToNat, Int.reducePow, Int.reduceEq, ne_eq, reduceIte, intsM, intD, iD, bsD, bD, setM, setsM, Setg.cells, ranM, ransM, Ran.cells, tabM, slvM, slvsM, Slv.cells, objsM, Obj.cells, reqM, repM, byteD]
  by_cases hv0 : v < 0
  · have dv : decide (v < 0) = true := by simpa using hv0
    have h3 : possF v = false := by simp [possF]; omega
    simp only [↓ru, rv, rl, ry, tyf, iM, bM, bsM, cond_true, cond_false, Nat.reduceLT, Nat.reduceBEq, Nat.reduceAdd, Nat.reduceEqDiff, Nat.reduceMul, Nat.reduceLeDiff, Nat.reduceSub, Nat.reduceDiv, Int.reduceLE, Int.reduceLT, Int.reduceNeg, Int.reduceAdd, Int.reduceSub, Int.reduceMul, Int.reduceToNat, Int.reducePow, Int.reduceEq, ne_eq, reduceIte, intsM, intD, iD, bsD, bD, setM, setsM, Setg.cells, ranM, ransM, Ran.cells, tabM, slvM, slvsM, Slv.cells, objsM, Obj.cells, reqM, repM, byteD, dv, ansF, h1, h2, h3, pureEnd_of (fn := Try.f66) (rs := [.cell 6 77]) (ts := [77]) rfl rfl, rep0, true_or, or_true, if_true]
  have dv0 : decide (v < 0) = false := by simpa using hv0
  by_cases hv1 : 65535 < v
  · have dv : decide (65535 < v) = true := by simpa using hv1
    have h3 : possF v = false := by simp [possF]; omega
    simp only [↓ru, rv, rl, ry, tyf, iM, bM, bsM, cond_true, cond_false, Nat.reduceLT, Nat.reduceBEq, Nat.reduceAdd, Nat.reduceEqDiff, Nat.reduceMul, Nat.reduceLeDiff, Nat.reduceSub, Nat.reduceDiv, Int.reduceLE, Int.reduceLT, Int.reduceNeg, Int.reduceAdd, Int.reduceSub, Int.reduceMul, Int.reduceToNat, Int.reducePow, Int.reduceEq, ne_eq, reduceIte, intsM, intD, iD, bsD, bD, setM, setsM, Setg.cells, ranM, ransM, Ran.cells, tabM, slvM, slvsM, Slv.cells, objsM, Obj.cells, reqM, repM, byteD, dv0, dv, ansF, h1, h2, h3, pureEnd_of (fn := Try.f66) (rs := [.cell 6 77]) (ts := [77]) rfl rfl, rep0, true_or, or_true, if_true]
  have dv1 : decide (65535 < v) = false := by simpa using hv1
  have h3 : possF v = true := by simp [possF]; omega
  obtain ⟨ho, hs⟩ := slvF_parts h1
  obtain ⟨ho1, ho2⟩ := objsV_parts ho
  have hA : ansF s q v = if q.fn = 43 then identF s q else if q.fn ≠ 17 then readT (s.tab q.fn) q v else if s.has = false then refF q 1 else ⟨17, 0, s.server, 0, 0, false, 0, []⟩ := by
    rw [ansF, if_neg (by simp [h1, h2, h3])]
  simp only [↓ru, rv, rl, ry, tyf, iM, bM, bsM, cond_true, cond_false, Nat.reduceLT, Nat.reduceBEq, Nat.reduceAdd, Nat.reduceEqDiff, Nat.reduceMul, Nat.reduceLeDiff, Nat.reduceSub, Nat.reduceDiv, Int.reduceLE, Int.reduceLT, Int.reduceNeg, Int.reduceAdd, Int.reduceSub, Int.reduceMul, Int.reduceToNat, Int.reducePow, Int.reduceEq, ne_eq, reduceIte, intsM, intD, iD, bsD, bD, setM, setsM, Setg.cells, ranM, ransM, Ran.cells, tabM, slvM, slvsM, Slv.cells, objsM, Obj.cells, reqM, repM, byteD, dv0, dv1]
  rcases reqF_kinds h2 with ⟨hq, _⟩ | h17 | ⟨h43, hc1, hc2, _⟩
  · have d1 : decide (q.fn ≤ 4) = true := by have := hq.fn; simp; omega
    rw [if_neg (by have := hq.fn; omega), if_pos (by have := hq.fn; omega)] at hA
    rw [hA]
    have hfn := hq.fn
    have : q.fn = 1 ∨ q.fn = 2 ∨ q.fn = 3 ∨ q.fn = 4 := by omega
    obtain ⟨fn, addr, qty, code, obj⟩ := q
    simp only at this d1
    rcases this with e | e | e | e
    · subst e
      simp only [↓ru, rv, rl, ry, tyf, iM, bM, bsM, cond_true, cond_false, Nat.reduceLT, Nat.reduceBEq, Nat.reduceAdd, Nat.reduceEqDiff, Nat.reduceMul, Nat.reduceLeDiff, Nat.reduceSub, Nat.reduceDiv, Int.reduceLE, Int.reduceLT, Int.reduceNeg, Int.reduceAdd, Int.reduceSub, Int.reduceMul, Int.reduceToNat, Int.reducePow, Int.reduceEq, ne_eq, reduceIte, intsM, intD, iD, bsD, bD, setM, setsM, Setg.cells, ranM, ransM, Ran.cells, tabM, slvM, slvsM, Slv.cells, objsM, Obj.cells, reqM, repM, byteD, d1, wrap_i64]
      refine dcall1_pure (t105 s.t0 ⟨1, addr, qty, code, obj⟩ v h.t0 hq) rfl rfl ?_
      simp only [↓ru, rv, rl, ry, tyf, iM, bM, bsM, cond_true, cond_false, Nat.reduceLT, Nat.reduceBEq, Nat.reduceAdd, Nat.reduceEqDiff, Nat.reduceMul, Nat.reduceLeDiff, Nat.reduceSub, Nat.reduceDiv, Int.reduceLE, Int.reduceLT, Int.reduceNeg, Int.reduceAdd, Int.reduceSub, Int.reduceMul, Int.reduceToNat, Int.reducePow, Int.reduceEq, ne_eq, reduceIte, intsM, intD, iD, bsD, bD, setM, setsM, Setg.cells, ranM, ransM, Ran.cells, tabM, slvM, slvsM, Slv.cells, objsM, Obj.cells, reqM, repM, byteD, pureEnd_of (fn := Try.f66) (rs := [.cell 6 77]) (ts := [77]) rfl rfl]
      rfl
    · subst e
      simp only [↓ru, rv, rl, ry, tyf, iM, bM, bsM, cond_true, cond_false, Nat.reduceLT, Nat.reduceBEq, Nat.reduceAdd, Nat.reduceEqDiff, Nat.reduceMul, Nat.reduceLeDiff, Nat.reduceSub, Nat.reduceDiv, Int.reduceLE, Int.reduceLT, Int.reduceNeg, Int.reduceAdd, Int.reduceSub, Int.reduceMul, Int.reduceToNat, Int.reducePow, Int.reduceEq, ne_eq, reduceIte, intsM, intD, iD, bsD, bD, setM, setsM, Setg.cells, ranM, ransM, Ran.cells, tabM, slvM, slvsM, Slv.cells, objsM, Obj.cells, reqM, repM, byteD, d1, wrap_i64]
      refine dcall1_pure (t105 s.t1 ⟨2, addr, qty, code, obj⟩ v h.t1 hq) rfl rfl ?_
      simp only [↓ru, rv, rl, ry, tyf, iM, bM, bsM, cond_true, cond_false, Nat.reduceLT, Nat.reduceBEq, Nat.reduceAdd, Nat.reduceEqDiff, Nat.reduceMul, Nat.reduceLeDiff, Nat.reduceSub, Nat.reduceDiv, Int.reduceLE, Int.reduceLT, Int.reduceNeg, Int.reduceAdd, Int.reduceSub, Int.reduceMul, Int.reduceToNat, Int.reducePow, Int.reduceEq, ne_eq, reduceIte, intsM, intD, iD, bsD, bD, setM, setsM, Setg.cells, ranM, ransM, Ran.cells, tabM, slvM, slvsM, Slv.cells, objsM, Obj.cells, reqM, repM, byteD, pureEnd_of (fn := Try.f66) (rs := [.cell 6 77]) (ts := [77]) rfl rfl]
      rfl
    · subst e
      simp only [↓ru, rv, rl, ry, tyf, iM, bM, bsM, cond_true, cond_false, Nat.reduceLT, Nat.reduceBEq, Nat.reduceAdd, Nat.reduceEqDiff, Nat.reduceMul, Nat.reduceLeDiff, Nat.reduceSub, Nat.reduceDiv, Int.reduceLE, Int.reduceLT, Int.reduceNeg, Int.reduceAdd, Int.reduceSub, Int.reduceMul, Int.reduceToNat, Int.reducePow, Int.reduceEq, ne_eq, reduceIte, intsM, intD, iD, bsD, bD, setM, setsM, Setg.cells, ranM, ransM, Ran.cells, tabM, slvM, slvsM, Slv.cells, objsM, Obj.cells, reqM, repM, byteD, d1, wrap_i64]
      refine dcall1_pure (t105 s.t2 ⟨3, addr, qty, code, obj⟩ v h.t2 hq) rfl rfl ?_
      simp only [↓ru, rv, rl, ry, tyf, iM, bM, bsM, cond_true, cond_false, Nat.reduceLT, Nat.reduceBEq, Nat.reduceAdd, Nat.reduceEqDiff, Nat.reduceMul, Nat.reduceLeDiff, Nat.reduceSub, Nat.reduceDiv, Int.reduceLE, Int.reduceLT, Int.reduceNeg, Int.reduceAdd, Int.reduceSub, Int.reduceMul, Int.reduceToNat, Int.reducePow, Int.reduceEq, ne_eq, reduceIte, intsM, intD, iD, bsD, bD, setM, setsM, Setg.cells, ranM, ransM, Ran.cells, tabM, slvM, slvsM, Slv.cells, objsM, Obj.cells, reqM, repM, byteD, pureEnd_of (fn := Try.f66) (rs := [.cell 6 77]) (ts := [77]) rfl rfl]
      rfl
    · subst e
      simp only [↓ru, rv, rl, ry, tyf, iM, bM, bsM, cond_true, cond_false, Nat.reduceLT, Nat.reduceBEq, Nat.reduceAdd, Nat.reduceEqDiff, Nat.reduceMul, Nat.reduceLeDiff, Nat.reduceSub, Nat.reduceDiv, Int.reduceLE, Int.reduceLT, Int.reduceNeg, Int.reduceAdd, Int.reduceSub, Int.reduceMul, Int.reduceToNat, Int.reducePow, Int.reduceEq, ne_eq, reduceIte, intsM, intD, iD, bsD, bD, setM, setsM, Setg.cells, ranM, ransM, Ran.cells, tabM, slvM, slvsM, Slv.cells, objsM, Obj.cells, reqM, repM, byteD, d1, wrap_i64]
      refine dcall1_pure (t105 s.t3 ⟨4, addr, qty, code, obj⟩ v h.t3 hq) rfl rfl ?_
      simp only [↓ru, rv, rl, ry, tyf, iM, bM, bsM, cond_true, cond_false, Nat.reduceLT, Nat.reduceBEq, Nat.reduceAdd, Nat.reduceEqDiff, Nat.reduceMul, Nat.reduceLeDiff, Nat.reduceSub, Nat.reduceDiv, Int.reduceLE, Int.reduceLT, Int.reduceNeg, Int.reduceAdd, Int.reduceSub, Int.reduceMul, Int.reduceToNat, Int.reducePow, Int.reduceEq, ne_eq, reduceIte, intsM, intD, iD, bsD, bD, setM, setsM, Setg.cells, ranM, ransM, Ran.cells, tabM, slvM, slvsM, Slv.cells, objsM, Obj.cells, reqM, repM, byteD, pureEnd_of (fn := Try.f66) (rs := [.cell 6 77]) (ts := [77]) rfl rfl]
      rfl
  · have d1 : decide (q.fn = 43) = false := by simp; omega
    have d2 : decide (q.fn ≤ 4) = false := by simp; omega
    rw [if_neg (by omega), if_neg (by omega)] at hA
    rw [hA]
    simp only [↓ru, rv, rl, ry, tyf, iM, bM, bsM, cond_true, cond_false, Nat.reduceLT, Nat.reduceBEq, Nat.reduceAdd, Nat.reduceEqDiff, Nat.reduceMul, Nat.reduceLeDiff, Nat.reduceSub, Nat.reduceDiv, Int.reduceLE, Int.reduceLT, Int.reduceNeg, Int.reduceAdd, Int.reduceSub, Int.reduceMul, Int.reduceToNat, Int.reducePow, Int.reduceEq, ne_eq, reduceIte, intsM, intD, iD, bsD, bD, setM, setsM, Setg.cells, ranM, ransM, Ran.cells, tabM, slvM, slvsM, Slv.cells, objsM, Obj.cells, reqM, repM, byteD, d1, d2]
    cases hh : s.has with
    | false =>
      simp only [↓ru, rv, rl, ry, tyf, iM, bM, bsM, cond_true, cond_false, Nat.reduceLT, Nat.reduceBEq, Nat.reduceAdd, Nat.reduceEqDiff, Nat.reduceMul, Nat.reduceLeDiff, Nat.reduceSub, Nat.reduceDiv, Int.reduceLE, Int.reduceLT, Int.reduceNeg, Int.reduceAdd, Int.reduceSub, Int.reduceMul, Int.reduceToNat, Int.reducePow, Int.reduceEq, ne_eq, reduceIte, intsM, intD, iD, bsD, bD, setM, setsM, Setg.cells, ranM, ransM, Ran.cells, tabM, slvM, slvsM, Slv.cells, objsM, Obj.cells, reqM, repM, byteD, pureEnd_of (fn := Try.f66) (rs := [.cell 6 77]) (ts := [77]) rfl rfl, refF, if_true, h17]
    | true =>
      simp only [↓ru, rv, rl, ry, tyf, iM, bM, bsM, cond_true, cond_false, Nat.reduceLT, Nat.reduceBEq, Nat.reduceAdd, Nat.reduceEqDiff, Nat.reduceMul, Nat.reduceLeDiff, Nat.reduceSub, Nat.reduceDiv, Int.reduceLE, Int.reduceLT, Int.reduceNeg, Int.reduceAdd, Int.reduceSub, Int.reduceMul, Int.reduceToNat, Int.reducePow, Int.reduceEq, ne_eq, reduceIte, intsM, intD, iD, bsD, bD, setM, setsM, Setg.cells, ranM, ransM, Ran.cells, tabM, slvM, slvsM, Slv.cells, objsM, Obj.cells, reqM, repM, byteD]
      refine grd_intro (by omega) ?_
      simp only [↓ru, rv, rl, ry, tyf, iM, bM, bsM, cond_true, cond_false, Nat.reduceLT, Nat.reduceBEq, Nat.reduceAdd, Nat.reduceEqDiff, Nat.reduceMul, Nat.reduceLeDiff, Nat.reduceSub, Nat.reduceDiv, Int.reduceLE, Int.reduceLT, Int.reduceNeg, Int.reduceAdd, Int.reduceSub, Int.reduceMul, Int.reduceToNat, Int.reducePow, Int.reduceEq, ne_eq, reduceIte, intsM, intD, iD, bsD, bD, setM, setsM, Setg.cells, ranM, ransM, Ran.cells, tabM, slvM, slvsM, Slv.cells, objsM, Obj.cells, reqM, repM, byteD, pureEnd_of (fn := Try.f66) (rs := [.cell 6 77]) (ts := [77]) rfl rfl, Bool.true_eq_false, if_false, h17]
  · have d1 : decide (q.fn = 43) = true := by simpa using h43
    have d2 : decide (q.fn ≤ 4) = false := by simp; omega
    rw [if_pos h43] at hA
    rw [hA]
    simp only [↓ru, rv, rl, ry, tyf, iM, bM, bsM, cond_true, cond_false, Nat.reduceLT, Nat.reduceBEq, Nat.reduceAdd, Nat.reduceEqDiff, Nat.reduceMul, Nat.reduceLeDiff, Nat.reduceSub, Nat.reduceDiv, Int.reduceLE, Int.reduceLT, Int.reduceNeg, Int.reduceAdd, Int.reduceSub, Int.reduceMul, Int.reduceToNat, Int.reducePow, Int.reduceEq, ne_eq, reduceIte, intsM, intD, iD, bsD, bD, setM, setsM, Setg.cells, ranM, ransM, Ran.cells, tabM, slvM, slvsM, Slv.cells, objsM, Obj.cells, reqM, repM, byteD, d1, d2]
    refine acall1_pure (t106 s q ho1 ho2 h43 ⟨hc1, hc2⟩) rfl rfl ?_
    simp only [↓ru, rv, rl, ry, tyf, iM, bM, bsM, cond_true, cond_false, Nat.reduceLT, Nat.reduceBEq, Nat.reduceAdd, Nat.reduceEqDiff, Nat.reduceMul, Nat.reduceLeDiff, Nat.reduceSub, Nat.reduceDiv, Int.reduceLE, Int.reduceLT, Int.reduceNeg, Int.reduceAdd, Int.reduceSub, Int.reduceMul, Int.reduceToNat, Int.reducePow, Int.reduceEq, ne_eq, reduceIte, intsM, intD, iD, bsD, bD, setM, setsM, Setg.cells, ranM, ransM, Ran.cells, tabM, slvM, slvsM, Slv.cells, objsM, Obj.cells, reqM, repM, byteD, pureEnd_of (fn := Try.f66) (rs := [.cell 6 77]) (ts := [77]) rfl rfl]
end Go.R2

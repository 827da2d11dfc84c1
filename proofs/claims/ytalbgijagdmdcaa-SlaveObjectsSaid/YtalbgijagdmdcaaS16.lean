import Derived.Test.YtalbgijagdmdcaaS15
set_option linter.all false
open Go.Proofs Go.Abs Go.FaR2
namespace Go.R2
-- rules: intsM, intD, iD, bsD, bD, setM, setsM, Setg.cells, ranM, ransM, Ran.cells, tabM, slvM, slvsM, Slv.cells, objsM, Obj.cells, reqM, repM, byteD
set_option maxHeartbeats 4000000
set_option maxRecDepth 10000
theorem rising_before : ∀ (a : List Obj) (o : Obj) (b : List Obj) (p : Int), risingF (a ++ o :: b) p = true → (∀ x, x ∈ a → x.id < o.id) ∧ (∀ x, x ∈ b → o.id < x.id ∧ x.id ≤ 255) ∧ o.id ≤ 255
  | [], o, b, p, h => by
    rw [List.nil_append, risingF, Bool.and_eq_true, decide_eq_true_eq] at h
    refine ⟨by simp, ?_, h.1.2⟩
    have : ∀ (b : List Obj) (p : Int), risingF b p = true → ∀ x, x ∈ b → p < x.id ∧ x.id ≤ 255 := by
      intro b
      induction b with
      | nil => intro p _ x hx; simp at hx
      | cons y b ih =>
        intro p h x hx
        rw [risingF, Bool.and_eq_true, decide_eq_true_eq] at h
        rcases List.mem_cons.1 hx with rfl | hx
        · exact h.1
        · have := ih _ h.2 x hx; omega
    exact this b o.id h.2
  | x :: a, o, b, p, h => by
    rw [List.cons_append, risingF, Bool.and_eq_true] at h
    obtain ⟨h1, h2, h3⟩ := rising_before a o b x.id h.2
    have := (rising_app a o b x.id h.2).1
    have hl := (rising_last a x.id (rising_sub (List.sublist_append_left a _) _ h.2)).1
    refine ⟨fun y hy => ?_, h2, h3⟩
    rcases List.mem_cons.1 hy with rfl | hy
    · omega
    · exact h1 y hy
theorem flt_drop {l : List Obj} {k : Nat} {o : Obj} (hr : risingF l (-1) = true) (ho : l[k]? = some o) (q : Req) (hq : q.code = 3) (ha : q.obj = o.id) : fltF q l = l.drop k := by
  have happ : l = l.take k ++ o :: l.drop (k + 1) := by rw [← List.drop_of_get ho, List.take_append_drop]
  obtain ⟨h1, h2, h3⟩ := rising_before _ _ _ _ (by rw [← happ]; exact hr)
  have hg : greatF q.code = 255 := by rw [hq]; rfl
  conv => lhs; rw [happ]
  rw [fltF, List.filter_append, List.filter_eq_nil_iff.2, List.nil_append, List.filter_eq_self.2, List.drop_of_get ho]
  · intro x hx
    rcases List.mem_cons.1 hx with rfl | hx
    · simp; omega
    · have := h2 x hx; simp; omega
  · intro x hx
    have := h1 x hx; simp; omega
theorem t20 (s : Slv) (v : Int) (h : s.Wf) : PFn Try.prog 20 [slvM s, iM v] (bM true) := by
  refine PFn.of (prs := []) Try.func20 rfl rfl mix (by kernel_rfl) rfl rfl ?_
  simp only [Try.ntmps20, argUpd]
  simp only [↓ru, rv, rl, ry, tyf, iM, bM, bsM, cond_true, cond_false, Nat.reduceLT, Nat.reduceBEq, Nat.reduceAdd, Nat.reduceEqDiff, Nat.reduceMul, Nat.reduceLeDiff, Nat.reduceSub, Nat.reduceDiv, Int.reduceLE, Int.reduceLT, Int.reduceNeg, Int.reduceAdd, Int.reduceSub, Int.reduceMul, Int.reduceToNat, Int.reducePow, Int.reduceEq, ne_eq, reduceIte, intsM, intD, iD, bsD, bD, setM, setsM, Setg.cells, ranM, ransM, Ran.cells, tabM, slvM, slvsM, Slv.cells, objsM, Obj.cells, reqM, repM, byteD]
  refine acall1_pure (t27 v 65536 (by omega)) rfl rfl ?_
  have hv0 : possF (v % 65536) = true := by simp [possF]; omega
  generalize v % 65536 = v at hv0 ⊢
  simp only [↓ru, rv, rl, ry, tyf, iM, bM, bsM, cond_true, cond_false, Nat.reduceLT, Nat.reduceBEq, Nat.reduceAdd, Nat.reduceEqDiff, Nat.reduceMul, Nat.reduceLeDiff, Nat.reduceSub, Nat.reduceDiv, Int.reduceLE, Int.reduceLT, Int.reduceNeg, Int.reduceAdd, Int.reduceSub, Int.reduceMul, Int.reduceToNat, Int.reducePow, Int.reduceEq, ne_eq, reduceIte, intsM, intD, iD, bsD, bD, setM, setsM, Setg.cells, ranM, ransM, Ran.cells, tabM, slvM, slvsM, Slv.cells, objsM, Obj.cells, reqM, repM, byteD]
  refine acall1_pure (t58 s h) rfl rfl ?_
  cases hs : smallSlv s with
  | false =>
    simp only [↓ru, rv, rl, ry, tyf, iM, bM, bsM, cond_true, cond_false, Nat.reduceLT, Nat.reduceBEq, Nat.reduceAdd, Nat.reduceEqDiff, Nat.reduceMul, Nat.reduceLeDiff, Nat.reduceSub, Nat.reduceDiv, Int.reduceLE, Int.reduceLT, Int.reduceNeg, Int.reduceAdd, Int.reduceSub, Int.reduceMul, Int.reduceToNat, Int.reducePow, Int.reduceEq, ne_eq, reduceIte, intsM, intD, iD, bsD, bD, setM, setsM, Setg.cells, ranM, ransM, Ran.cells, tabM, slvM, slvsM, Slv.cells, objsM, Obj.cells, reqM, repM, byteD]
    refine acall1_pure t59 rfl rfl ?_
    simp only [↓ru, rv, rl, ry, tyf, iM, bM, bsM, cond_true, cond_false, Nat.reduceLT, Nat.reduceBEq, Nat.reduceAdd, Nat.reduceEqDiff, Nat.reduceMul, Nat.reduceLeDiff, Nat.reduceSub, Nat.reduceDiv, Int.reduceLE, Int.reduceLT, Int.reduceNeg, Int.reduceAdd, Int.reduceSub, Int.reduceMul, Int.reduceToNat, Int.reducePow, Int.reduceEq, ne_eq, reduceIte, intsM, intD, iD, bsD, bD, setM, setsM, Setg.cells, ranM, ransM, Ran.cells, tabM, slvM, slvsM, Slv.cells, objsM, Obj.cells, reqM, repM, byteD, pureEnd_of (fn := Try.f20) (rs := [.tmp 4]) (ts := [4]) rfl rfl]
  | true =>
  simp only [↓ru, rv, rl, ry, tyf, iM, bM, bsM, cond_true, cond_false, Nat.reduceLT, Nat.reduceBEq, Nat.reduceAdd, Nat.reduceEqDiff, Nat.reduceMul, Nat.reduceLeDiff, Nat.reduceSub, Nat.reduceDiv, Int.reduceLE, Int.reduceLT, Int.reduceNeg, Int.reduceAdd, Int.reduceSub, Int.reduceMul, Int.reduceToNat, Int.reducePow, Int.reduceEq, ne_eq, reduceIte, intsM, intD, iD, bsD, bD, setM, setsM, Setg.cells, ranM, ransM, Ran.cells, tabM, slvM, slvsM, Slv.cells, objsM, Obj.cells, reqM, repM, byteD]
  refine acall1_pure (t36 s h) rfl rfl ?_
  cases hsv : slvF s with
  | false =>
    simp only [↓ru, rv, rl, ry, tyf, iM, bM, bsM, cond_true, cond_false, Nat.reduceLT, Nat.reduceBEq, Nat.reduceAdd, Nat.reduceEqDiff, Nat.reduceMul, Nat.reduceLeDiff, Nat.reduceSub, Nat.reduceDiv, Int.reduceLE, Int.reduceLT, Int.reduceNeg, Int.reduceAdd, Int.reduceSub, Int.reduceMul, Int.reduceToNat, Int.reducePow, Int.reduceEq, ne_eq, reduceIte, intsM, intD, iD, bsD, bD, setM, setsM, Setg.cells, ranM, ransM, Ran.cells, tabM, slvM, slvsM, Slv.cells, objsM, Obj.cells, reqM, repM, byteD]
    refine acall1_pure t59 rfl rfl ?_
    simp only [↓ru, rv, rl, ry, tyf, iM, bM, bsM, cond_true, cond_false, Nat.reduceLT, Nat.reduceBEq, Nat.reduceAdd, Nat.reduceEqDiff, Nat.reduceMul, Nat.reduceLeDiff, Nat.reduceSub, Nat.reduceDiv, Int.reduceLE, Int.reduceLT, Int.reduceNeg, Int.reduceAdd, Int.reduceSub, Int.reduceMul, Int.reduceToNat, Int.reducePow, Int.reduceEq, ne_eq, reduceIte, intsM, intD, iD, bsD, bD, setM, setsM, Setg.cells, ranM, ransM, Ran.cells, tabM, slvM, slvsM, Slv.cells, objsM, Obj.cells, reqM, repM, byteD, pureEnd_of (fn := Try.f20) (rs := [.tmp 4]) (ts := [4]) rfl rfl]
  | true =>
  obtain ⟨ho, hsrv⟩ := slvF_parts hsv
  obtain ⟨ho1, ho2⟩ := objsV_parts ho
  have hans : ∀ a, 0 ≤ a → a ≤ 255 → ansF s ⟨43, 0, 0, 3, a⟩ v = identF s ⟨43, 0, 0, 3, a⟩ := fun a h0 h1 => by
    rw [ansF, if_neg (by simp [hsv, hv0, reqF]; omega), if_pos rfl]
  by_cases h0 : s.level = 0
  · have d0 : decide (s.level = 0) = true := by simpa using h0
    simp only [↓ru, rv, rl, ry, tyf, iM, bM, bsM, cond_true, cond_false, Nat.reduceLT, Nat.reduceBEq, Nat.reduceAdd, Nat.reduceEqDiff, Nat.reduceMul, Nat.reduceLeDiff, Nat.reduceSub, Nat.reduceDiv, Int.reduceLE, Int.reduceLT, Int.reduceNeg, Int.reduceAdd, Int.reduceSub, Int.reduceMul, Int.reduceToNat, Int.reducePow, Int.reduceEq, ne_eq, reduceIte, intsM, intD, iD, bsD, bD, setM, setsM, Setg.cells, ranM, ransM, Ran.cells, tabM, slvM, slvsM, Slv.cells, objsM, Obj.cells, reqM, repM, byteD]
    refine aloop_unroll 1 ?_
    have h63 := t63 s ⟨43, 0, 0, 3, 0⟩ v h
    rw [hans 0 (by omega) (by omega), identF, if_pos h0] at h63
    simp only [↓ru, rv, rl, ry, tyf, iM, bM, bsM, cond_true, cond_false, Nat.reduceLT, Nat.reduceBEq, Nat.reduceAdd, Nat.reduceEqDiff, Nat.reduceMul, Nat.reduceLeDiff, Nat.reduceSub, Nat.reduceDiv, Int.reduceLE, Int.reduceLT, Int.reduceNeg, Int.reduceAdd, Int.reduceSub, Int.reduceMul, Int.reduceToNat, Int.reducePow, Int.reduceEq, ne_eq, reduceIte, intsM, intD, iD, bsD, bD, setM, setsM, Setg.cells, ranM, ransM, Ran.cells, tabM, slvM, slvsM, Slv.cells, objsM, Obj.cells, reqM, repM, byteD, unR_ret, unR_exit]
    refine acall1_pure h63 rfl rfl ?_
    simp only [↓ru, rv, rl, ry, tyf, iM, bM, bsM, cond_true, cond_false, Nat.reduceLT, Nat.reduceBEq, Nat.reduceAdd, Nat.reduceEqDiff, Nat.reduceMul, Nat.reduceLeDiff, Nat.reduceSub, Nat.reduceDiv, Int.reduceLE, Int.reduceLT, Int.reduceNeg, Int.reduceAdd, Int.reduceSub, Int.reduceMul, Int.reduceToNat, Int.reducePow, Int.reduceEq, ne_eq, reduceIte, intsM, intD, iD, bsD, bD, setM, setsM, Setg.cells, ranM, ransM, Ran.cells, tabM, slvM, slvsM, Slv.cells, objsM, Obj.cells, reqM, repM, byteD, d0, refF, unR_ret, unR_exit]
    refine acall1_pure t59 rfl rfl ?_
    simp only [↓ru, rv, rl, ry, tyf, iM, bM, bsM, cond_true, cond_false, Nat.reduceLT, Nat.reduceBEq, Nat.reduceAdd, Nat.reduceEqDiff, Nat.reduceMul, Nat.reduceLeDiff, Nat.reduceSub, Nat.reduceDiv, Int.reduceLE, Int.reduceLT, Int.reduceNeg, Int.reduceAdd, Int.reduceSub, Int.reduceMul, Int.reduceToNat, Int.reducePow, Int.reduceEq, ne_eq, reduceIte, intsM, intD, iD, bsD, bD, setM, setsM, Setg.cells, ranM, ransM, Ran.cells, tabM, slvM, slvsM, Slv.cells, objsM, Obj.cells, reqM, repM, byteD, unR_ret, unR_exit, pureEnd_of (fn := Try.f20) (rs := [.tmp 4]) (ts := [4]) rfl rfl]
  have d0 : decide (s.level = 0) = false := by simpa using h0
  have hlv : 1 ≤ s.level ∧ s.level ≤ 3 ∧ 3 ≤ s.objs.length := by
    rw [objsV, if_neg h0] at ho
    split at ho
    · cases ho
    · omega
  have hr : risingF s.objs (-1) = true ∧ ∃ o, s.objs[0]? = some o ∧ o.id = 0 := by
    have ho' := ho
    rw [objs_ref ⟨hlv.1, hlv.2.1⟩ ⟨hlv.2.2, ho1⟩, Bool.and_eq_true] at ho'
    refine ⟨ho'.1, ?_⟩
    rw [objsV, if_neg h0, if_neg (by omega)] at ho
    match hh : s.objs, hlv.2.2 with
    | o :: r, _ =>
      rw [hh, vobj] at ho
      split at ho
      · cases ho
      · exact ⟨o, rfl, by omega⟩
  obtain ⟨hr, o0, ho0, hid0⟩ := hr
  simp only [↓ru, rv, rl, ry, tyf, iM, bM, bsM, cond_true, cond_false, Nat.reduceLT, Nat.reduceBEq, Nat.reduceAdd, Nat.reduceEqDiff, Nat.reduceMul, Nat.reduceLeDiff, Nat.reduceSub, Nat.reduceDiv, Int.reduceLE, Int.reduceLT, Int.reduceNeg, Int.reduceAdd, Int.reduceSub, Int.reduceMul, Int.reduceToNat, Int.reducePow, Int.reduceEq, ne_eq, reduceIte, intsM, intD, iD, bsD, bD, setM, setsM, Setg.cells, ranM, ransM, Ran.cells, tabM, slvM, slvsM, Slv.cells, objsM, Obj.cells, reqM, repM, byteD]
  refine aloop_thaw (t := 5) 2 (by simp only [↓ru, rv, rl, ry, tyf, iM, bM, bsM, cond_true, cond_false, Nat.reduceLT, Nat.reduceBEq, Nat.reduceAdd, Nat.reduceEqDiff, Nat.reduceMul, Nat.reduceLeDiff, Nat.reduceSub, Nat.reduceDiv, Int.reduceLE, Int.reduceLT, Int.reduceNeg, Int.reduceAdd, Int.reduceSub, Int.reduceMul, Int.reduceToNat, Int.reducePow, Int.reduceEq, ne_eq, reduceIte, intsM, intD, iD, bsD, bD, setM, setsM, Setg.cells, ranM, ransM, Ran.cells, tabM, slvM, slvsM, Slv.cells, objsM, Obj.cells, reqM, repM, byteD]) ?_
  have hran := rising_last s.objs (-1) hr
  refine aloop_lk (fun x : Nat × Nat × Int => [(1, iM v), (2, .ptr 0 0), (5, .hsl 16 x.2.1), (6, iM x.2.2), (7, iM x.1)])
    (fun x => [(16, .ar false 2 (pure2 ((s.objs.take x.2.1).map Obj.cells))), (0, slvBox s)])
    (fun x => x.1 ≤ x.2.1 ∧ x.2.1 < s.objs.length ∧ ∃ o, s.objs[x.2.1]? = some o ∧ x.2.2 = o.id) (fun x => s.objs.length - x.2.1) 0 17 (0, 0, 0) (by simp only [↓ru, rv, rl, ry, tyf, iM, bM, bsM, cond_true, cond_false, Nat.reduceLT, Nat.reduceBEq, Nat.reduceAdd, Nat.reduceEqDiff, Nat.reduceMul, Nat.reduceLeDiff, Nat.reduceSub, Nat.reduceDiv, Int.reduceLE, Int.reduceLT, Int.reduceNeg, Int.reduceAdd, Int.reduceSub, Int.reduceMul, Int.reduceToNat, Int.reducePow, Int.reduceEq, ne_eq, reduceIte, intsM, intD, iD, bsD, bD, setM, setsM, Setg.cells, ranM, ransM, Ran.cells, tabM, slvM, slvsM, Slv.cells, objsM, Obj.cells, reqM, repM, byteD]) (by simp only [↓ru, rv, rl, ry, tyf, iM, bM, bsM, cond_true, cond_false, Nat.reduceLT, Nat.reduceBEq, Nat.reduceAdd, Nat.reduceEqDiff, Nat.reduceMul, Nat.reduceLeDiff, Nat.reduceSub, Nat.reduceDiv, Int.reduceLE, Int.reduceLT, Int.reduceNeg, Int.reduceAdd, Int.reduceSub, Int.reduceMul, Int.reduceToNat, Int.reducePow, Int.reduceEq, ne_eq, reduceIte, intsM, intD, iD, bsD, bD, setM, setsM, Setg.cells, ranM, ransM, Ran.cells, tabM, slvM, slvsM, Slv.cells, objsM, Obj.cells, reqM, repM, byteD]; rfl) ⟨by simp, by simp only; omega, o0, ho0, hid0.symm⟩ (by omega) ?_
  rintro ⟨m, k, a⟩ e0 n ⟨hmk, hk, o, hok, ha⟩
  simp only at hmk hk hok ha
  subst ha
  have happ : s.objs = s.objs.take k ++ o :: s.objs.drop (k + 1) := by rw [← List.drop_of_get hok, List.take_append_drop]
  obtain ⟨b1, b2, b3⟩ := rising_before _ _ _ (-1) (by rw [← happ]; exact hr)
  have hid : 0 ≤ o.id := by
    rcases k with _ | k
    · rw [ho0] at hok; cases hok; omega
    · have := b1 o0 (List.mem_of_getElem? (i := 0) (by rw [List.getElem?_take_of_lt (by omega)]; exact ho0))
      omega
  have h63 := t63 s ⟨43, 0, 0, 3, o.id⟩ v h
  rw [hans o.id hid b3, identF, if_neg h0, idl_eq, List.nil_append, flt_drop hr hok _ rfl rfl] at h63
  have hvl : ∀ o, o ∈ s.objs.drop k → o.val.length ≤ 64 := fun o ho => ho2 o (List.mem_of_mem_drop ho)
  have hf1 : 1 ≤ fitG (s.objs.drop k) 0 := by
    rw [List.drop_of_get hok, fitG, if_neg (by have := ho2 o (List.mem_of_getElem? hok); omega)]; omega
  have hf2 := fitG_le (s.objs.drop k) 0
  rw [List.length_drop] at hf2
  generalize fitG (s.objs.drop k) 0 = f at h63 hf1 hf2
  have hlen : ((s.objs.drop k).take f).length = f := by simp; omega
  rw [identR, if_neg (by simp only [hlen]; omega), List.getElem?_drop] at h63
  simp only at h63
  have dm : decide ((m : Int) < 32) = true := by simp; omega
  have dl : decide ((((s.objs.drop k).take f).length : Int) = 0) = false := by rw [hlen]; simp; omega
  have htk : s.objs.take k ++ (s.objs.drop k).take f = s.objs.take (k + f) := by rw [List.take_add]
  have hr2 : (s.objs.take k).map Obj.cells ++ ((s.objs.drop k).take f).map Obj.cells = (s.objs.take (k + f)).map Obj.cells := by rw [← List.map_append, htk]
  have hlk : (s.objs.take k).length = k := by simp; omega
  have hlkf : (s.objs.take (k + f)).length = k + f := by simp; omega
  simp only [↓ru, rv, rl, ry, tyf, iM, bM, bsM, cond_true, cond_false, Nat.reduceLT, Nat.reduceBEq, Nat.reduceAdd, Nat.reduceEqDiff, Nat.reduceMul, Nat.reduceLeDiff, Nat.reduceSub, Nat.reduceDiv, Int.reduceLE, Int.reduceLT, Int.reduceNeg, Int.reduceAdd, Int.reduceSub, Int.reduceMul, Int.reduceToNat, Int.reducePow, Int.reduceEq, ne_eq, reduceIte, intsM, intD, iD, bsD, bD, setM, setsM, Setg.cells, ranM, ransM, Ran.cells, tabM, slvM, slvsM, Slv.cells, objsM, Obj.cells, reqM, repM, byteD, dm]
  by_cases hend : k + f < s.objs.length
  · obtain ⟨o', ho'⟩ := get_of_lt (l := s.objs) (i := k + f) hend
    rw [ho'] at h63
    simp only [Option.map_some, Option.isSome_some, Option.getD_some] at h63
    refine acall1_pure h63 rfl rfl ?_
    simp only [↓ru, rv, rl, ry, tyf, iM, bM, bsM, cond_true, cond_false, Nat.reduceLT, Nat.reduceBEq, Nat.reduceAdd, Nat.reduceEqDiff, Nat.reduceMul, Nat.reduceLeDiff, Nat.reduceSub, Nat.reduceDiv, Int.reduceLE, Int.reduceLT, Int.reduceNeg, Int.reduceAdd, Int.reduceSub, Int.reduceMul, Int.reduceToNat, Int.reducePow, Int.reduceEq, ne_eq, reduceIte, intsM, intD, iD, bsD, bD, setM, setsM, Setg.cells, ranM, ransM, Ran.cells, tabM, slvM, slvsM, Slv.cells, objsM, Obj.cells, reqM, repM, byteD, d0, dl, pure2_length, List.length_map, hlk, hr2, hlkf]
    refine grd_intro (by omega) ?_
    simp (disch := omega) only [wrap_i64, wrap_u8, wrap_u16, wrap_u64]
    refine loopL_drop (m + 1, k + f, o'.id) (by simp only [↓ru, rv, rl, ry, tyf, iM, bM, bsM, cond_true, cond_false, Nat.reduceLT, Nat.reduceBEq, Nat.reduceAdd, Nat.reduceEqDiff, Nat.reduceMul, Nat.reduceLeDiff, Nat.reduceSub, Nat.reduceDiv, Int.reduceLE, Int.reduceLT, Int.reduceNeg, Int.reduceAdd, Int.reduceSub, Int.reduceMul, Int.reduceToNat, Int.reducePow, Int.reduceEq, ne_eq, reduceIte, intsM, intD, iD, bsD, bD, setM, setsM, Setg.cells, ranM, ransM, Ran.cells, tabM, slvM, slvsM, Slv.cells, objsM, Obj.cells, reqM, repM, byteD]; (try simp)) (by simp only [↓ru, rv, rl, ry, tyf, iM, bM, bsM, cond_true, cond_false, Nat.reduceLT, Nat.reduceBEq, Nat.reduceAdd, Nat.reduceEqDiff, Nat.reduceMul, Nat.reduceLeDiff, Nat.reduceSub, Nat.reduceDiv, Int.reduceLE, Int.reduceLT, Int.reduceNeg, Int.reduceAdd, Int.reduceSub, Int.reduceMul, Int.reduceToNat, Int.reducePow, Int.reduceEq, ne_eq, reduceIte, intsM, intD, iD, bsD, bD, setM, setsM, Setg.cells, ranM, ransM, Ran.cells, tabM, slvM, slvsM, Slv.cells, objsM, Obj.cells, reqM, repM, byteD]) ⟨by simp only; omega, by simp only; omega, o', ho', rfl⟩ (by omega) (by simp only; omega)
  · rw [List.getElem?_eq_none (by omega)] at h63
    simp only [Option.map_none, Option.isSome_none, Option.getD_none] at h63
    refine acall1_pure h63 rfl rfl ?_
    simp only [↓ru, rv, rl, ry, tyf, iM, bM, bsM, cond_true, cond_false, Nat.reduceLT, Nat.reduceBEq, Nat.reduceAdd, Nat.reduceEqDiff, Nat.reduceMul, Nat.reduceLeDiff, Nat.reduceSub, Nat.reduceDiv, Int.reduceLE, Int.reduceLT, Int.reduceNeg, Int.reduceAdd, Int.reduceSub, Int.reduceMul, Int.reduceToNat, Int.reducePow, Int.reduceEq, ne_eq, reduceIte, intsM, intD, iD, bsD, bD, setM, setsM, Setg.cells, ranM, ransM, Ran.cells, tabM, slvM, slvsM, Slv.cells, objsM, Obj.cells, reqM, repM, byteD, d0, dl, pure2_length, List.length_map, hlk, hr2, hlkf]
    refine grd_intro (by omega) ?_
    rw [List.take_of_length_le (l := s.objs) (i := k + f) (by omega)]
    refine acall1_pure t59 rfl rfl ?_
    have hl2 : k + f = s.objs.length := by omega
    simp only [↓ru, rv, rl, ry, tyf, iM, bM, bsM, cond_true, cond_false, Nat.reduceLT, Nat.reduceBEq, Nat.reduceAdd, Nat.reduceEqDiff, Nat.reduceMul, Nat.reduceLeDiff, Nat.reduceSub, Nat.reduceDiv, Int.reduceLE, Int.reduceLT, Int.reduceNeg, Int.reduceAdd, Int.reduceSub, Int.reduceMul, Int.reduceToNat, Int.reducePow, Int.reduceEq, ne_eq, reduceIte, intsM, intD, iD, bsD, bD, setM, setsM, Setg.cells, ranM, ransM, Ran.cells, tabM, slvM, slvsM, Slv.cells, objsM, Obj.cells, reqM, repM, byteD, hl2, pure2_length, List.length_map]
    refine acall1_pure (t65 s.objs s.objs (by omega) (by omega)) rfl rfl ?_
    rw [sameObjs_refl]
    simp only [↓ru, rv, rl, ry, tyf, iM, bM, bsM, cond_true, cond_false, Nat.reduceLT, Nat.reduceBEq, Nat.reduceAdd, Nat.reduceEqDiff, Nat.reduceMul, Nat.reduceLeDiff, Nat.reduceSub, Nat.reduceDiv, Int.reduceLE, Int.reduceLT, Int.reduceNeg, Int.reduceAdd, Int.reduceSub, Int.reduceMul, Int.reduceToNat, Int.reducePow, Int.reduceEq, ne_eq, reduceIte, intsM, intD, iD, bsD, bD, setM, setsM, Setg.cells, ranM, ransM, Ran.cells, tabM, slvM, slvsM, Slv.cells, objsM, Obj.cells, reqM, repM, byteD, pureEnd_of (fn := Try.f20) (rs := [.tmp 4]) (ts := [4]) rfl rfl]
end Go.R2

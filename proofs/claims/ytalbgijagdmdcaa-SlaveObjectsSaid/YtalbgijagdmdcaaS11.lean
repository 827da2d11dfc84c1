import Derived.Test.YtalbgijagdmdcaaS10
set_option linter.all false
open Go.Proofs Go.Abs Go.FaR2
namespace Go.R2
-- rules: intsM, intD, iD, bsD, bD, setM, setsM, Setg.cells, ranM, ransM, Ran.cells, tabM, slvM, slvsM, Slv.cells, objsM, Obj.cells, reqM, repM, byteD
set_option maxHeartbeats 4000000
set_option maxRecDepth 10000
def fltF (q : Req) (l : List Obj) : List Obj := l.filter fun o => decide (q.obj ≤ o.id ∧ o.id ≤ greatF q.code)
def fitG : List Obj → Int → Nat
  | [], _ => 0
  | o :: l, sz => if 246 < sz + (2 + o.val.length) then 0 else fitG l (sz + (2 + o.val.length)) + 1
theorem idl_eq (q : Req) : ∀ (l : List Obj) (sz : Int) (acc : List Obj), idl q l sz acc = (acc ++ (fltF q l).take (fitG (fltF q l) sz), (fltF q l)[fitG (fltF q l) sz]?.map Obj.id)
  | [], sz, acc => by simp [idl, fltF, fitG]
  | o :: l, sz, acc => by
    rw [idl]
    by_cases h : o.id < q.obj ∨ greatF q.code < o.id
    · have hf : fltF q (o :: l) = fltF q l := by rw [fltF, List.filter_cons_of_neg (by simp; omega)]; rfl
      rw [if_pos h, idl_eq q l sz acc, hf]
    · have hf : fltF q (o :: l) = o :: fltF q l := by rw [fltF, List.filter_cons_of_pos (by simp; omega)]; rfl
      rw [if_neg h, hf, fitG]
      by_cases h2 : 246 < sz + (2 + (o.val.length : Int))
      · rw [if_pos h2, if_pos h2]; simp
      · rw [if_neg h2, if_neg h2, idl_eq q l _ _]; simp
theorem fitG_le : ∀ (l : List Obj) (sz : Int), fitG l sz ≤ l.length
  | [], sz => by simp [fitG]
  | o :: l, sz => by
    rw [fitG]; split
    · simp
    · have := fitG_le l (sz + (2 + o.val.length)); simp; omega
theorem fitG_size : ∀ (l : List Obj) (sz : Int) (n : Nat), sz ≤ 246 → n ≤ l.length → (∀ o, o ∈ l → o.val.length ≤ 64) → (246 < sizeF (l.take n) sz ↔ fitG l sz < n)
  | [], sz, n, h, hn, _ => by
    simp at hn
    subst hn
    simp [sizeF, fitG]; omega
  | o :: l, sz, 0, h, _, _ => by simp [sizeF]; omega
  | o :: l, sz, n + 1, h, hn, hv => by
    have hov := hv o (List.mem_cons_self ..)
    rw [List.take_succ_cons, sizeF, if_pos h, fitG, show min (o.val.length : Int) 300 = o.val.length by omega]
    by_cases h2 : 246 < sz + (2 + (o.val.length : Int))
    · rw [if_pos h2]
      have := sizeF_ge (l.take n) (sz + (2 + o.val.length))
      constructor
      · intro; omega
      · intro; omega
    · rw [if_neg h2, fitG_size l _ n (by omega) (by simpa using hn) fun o ho => hv o (List.mem_cons_of_mem _ ho)]
      omega
theorem fltF_succ {q : Req} {l : List Obj} {i : Nat} {o : Obj} (ho : l[i]? = some o) : fltF q (l.take (i + 1)) = fltF q (l.take i) ++ (if q.obj ≤ o.id ∧ o.id ≤ greatF q.code then [o] else []) := by
  rw [List.take_add_one, ho, fltF, List.filter_append]
  simp [fltF, List.filter_cons]
theorem t106 (s : Slv) (q : Req) (hl : s.objs.length ≤ 16) (hv : ∀ o, o ∈ s.objs → o.val.length ≤ 64) (hq : q.fn = 43) (hc : 1 ≤ q.code ∧ q.code ≤ 3) : PFn Try.prog 106 [slvM s, reqM q] (repM (identF s q)) := by
  refine PFn.of (prs := [(10, []), (18, [(2, 5), (3, 5)]), (22, [(0, 12), (1, 12), (4, 12), (5, 12), (6, 12), (0, 14), (1, 14)]), (24, [(2, 6), (3, 6), (4, 6)])]) Try.func106 rfl rfl mix (by kernel_rfl) rfl rfl ?_
  simp only [Try.ntmps106, argUpd]
  simp only [↓ru, rv, rl, ry, tyf, iM, bM, bsM, cond_true, cond_false, Nat.reduceLT, Nat.reduceBEq, Nat.reduceAdd, Nat.reduceEqDiff, Nat.reduceMul, Nat.reduceLeDiff, Nat.reduceSub, Nat.reduceDiv, Int.reduceLE, Int.reduceLT, Int.reduceNeg, Int.reduceAdd, Int.reduceSub, Int.reduceMul, Int.reduceToNat, Int.reducePow, Int.reduceEq, ne_eq, reduceIte, intsM, intD, iD, bsD, bD, setM, setsM, Setg.cells, ranM, ransM, Ran.cells, tabM, slvM, slvsM, Slv.cells, objsM, Obj.cells, reqM, repM, byteD]
  by_cases h0 : s.level = 0
  · have d0 : decide (s.level = 0) = true := by simpa using h0
    simp only [↓ru, rv, rl, ry, tyf, iM, bM, bsM, cond_true, cond_false, Nat.reduceLT, Nat.reduceBEq, Nat.reduceAdd, Nat.reduceEqDiff, Nat.reduceMul, Nat.reduceLeDiff, Nat.reduceSub, Nat.reduceDiv, Int.reduceLE, Int.reduceLT, Int.reduceNeg, Int.reduceAdd, Int.reduceSub, Int.reduceMul, Int.reduceToNat, Int.reducePow, Int.reduceEq, ne_eq, reduceIte, intsM, intD, iD, bsD, bD, setM, setsM, Setg.cells, ranM, ransM, Ran.cells, tabM, slvM, slvsM, Slv.cells, objsM, Obj.cells, reqM, repM, byteD, d0, pureEnd_of (fn := Try.f106) (rs := [.cell 4 77]) (ts := [77]) rfl rfl, identF, h0, refF, hq]
  have d0 : decide (s.level = 0) = false := by simpa using h0
  have hF : identF s q = identR s q (idl q s.objs 0 []) := by rw [identF, if_neg h0]
  rw [hF, idl_eq, List.nil_append]
  have hidx : ([[iM 0], [iM 2], [iM 127], [iM 255]] : List (List M))[q.code.toNat]? = some [iM (greatF q.code)] := by
    have : q.code = 1 ∨ q.code = 2 ∨ q.code = 3 := by omega
    rcases this with h | h | h <;> rw [h] <;> rfl
  simp only [↓ru, rv, rl, ry, tyf, iM, bM, bsM, cond_true, cond_false, Nat.reduceLT, Nat.reduceBEq, Nat.reduceAdd, Nat.reduceEqDiff, Nat.reduceMul, Nat.reduceLeDiff, Nat.reduceSub, Nat.reduceDiv, Int.reduceLE, Int.reduceLT, Int.reduceNeg, Int.reduceAdd, Int.reduceSub, Int.reduceMul, Int.reduceToNat, Int.reducePow, Int.reduceEq, ne_eq, reduceIte, intsM, intD, iD, bsD, bD, setM, setsM, Setg.cells, ranM, ransM, Ran.cells, tabM, slvM, slvsM, Slv.cells, objsM, Obj.cells, reqM, repM, byteD, d0]
  refine grd_intro (by omega) ?_
  simp only [↓ru, rv, rl, ry, tyf, iM, bM, bsM, cond_true, cond_false, Nat.reduceLT, Nat.reduceBEq, Nat.reduceAdd, Nat.reduceEqDiff, Nat.reduceMul, Nat.reduceLeDiff, Nat.reduceSub, Nat.reduceDiv, Int.reduceLE, Int.reduceLT, Int.reduceNeg, Int.reduceAdd, Int.reduceSub, Int.reduceMul, Int.reduceToNat, Int.reducePow, Int.reduceEq, ne_eq, reduceIte, intsM, intD, iD, bsD, bD, setM, setsM, Setg.cells, ranM, ransM, Ran.cells, tabM, slvM, slvsM, Slv.cells, objsM, Obj.cells, reqM, repM, byteD, hidx]
  refine aloop_thaw (t := 7) 2 (by simp only [↓ru, rv, rl, ry, tyf, iM, bM, bsM, cond_true, cond_false, Nat.reduceLT, Nat.reduceBEq, Nat.reduceAdd, Nat.reduceEqDiff, Nat.reduceMul, Nat.reduceLeDiff, Nat.reduceSub, Nat.reduceDiv, Int.reduceLE, Int.reduceLT, Int.reduceNeg, Int.reduceAdd, Int.reduceSub, Int.reduceMul, Int.reduceToNat, Int.reducePow, Int.reduceEq, ne_eq, reduceIte, intsM, intD, iD, bsD, bD, setM, setsM, Setg.cells, ranM, ransM, Ran.cells, tabM, slvM, slvsM, Slv.cells, objsM, Obj.cells, reqM, repM, byteD]) ?_
  refine aloop_thawBox (p := 4) (j := 7) (c := [iM 43, iM 0, .d (.v (.slice none 0 0)), iM 0, iM 0, bM false, iM 0, .d (.v (.slice none 0 0))]) 2 (by simp only [↓ru, rv, rl, ry, tyf, iM, bM, bsM, cond_true, cond_false, Nat.reduceLT, Nat.reduceBEq, Nat.reduceAdd, Nat.reduceEqDiff, Nat.reduceMul, Nat.reduceLeDiff, Nat.reduceSub, Nat.reduceDiv, Int.reduceLE, Int.reduceLT, Int.reduceNeg, Int.reduceAdd, Int.reduceSub, Int.reduceMul, Int.reduceToNat, Int.reducePow, Int.reduceEq, ne_eq, reduceIte, intsM, intD, iD, bsD, bD, setM, setsM, Setg.cells, ranM, ransM, Ran.cells, tabM, slvM, slvsM, Slv.cells, objsM, Obj.cells, reqM, repM, byteD]) rfl ?_
  refine aloop_lk (fun i : Nat => [(2, .ptr 0 0), (3, .ptr 1 0), (4, .ptr 2 0), (5, .ptr 4 0), (6, iM (greatF q.code)), (7, .hsl 17 (fltF q (s.objs.take i)).length), (8, iM i)])
    (fun i => [(17, .ar false 2 (pure2 ((fltF q (s.objs.take i)).map Obj.cells))), (18, .ar false 2 []), (4, .st [iM 43, iM 0, .d (.v (.slice none 0 0)), iM 0, iM 0, bM false, iM 0, .hsl 18 0]),
      (2, .st [iM 0, iM 0, .d (.v (.slice none 0 0)), iM 0, iM 0, bM false, iM 0, .d (.v (.slice none 0 0))]), (1, .st [iM q.fn, iM q.addr, iM q.qty, iM q.code, iM q.obj]), (0, slvBox s)])
    (fun i => i ≤ s.objs.length) (fun i => s.objs.length - i) 0 19 0 (by simp only [↓ru, rv, rl, ry, tyf, iM, bM, bsM, cond_true, cond_false, Nat.reduceLT, Nat.reduceBEq, Nat.reduceAdd, Nat.reduceEqDiff, Nat.reduceMul, Nat.reduceLeDiff, Nat.reduceSub, Nat.reduceDiv, Int.reduceLE, Int.reduceLT, Int.reduceNeg, Int.reduceAdd, Int.reduceSub, Int.reduceMul, Int.reduceToNat, Int.reducePow, Int.reduceEq, ne_eq, reduceIte, intsM, intD, iD, bsD, bD, setM, setsM, Setg.cells, ranM, ransM, Ran.cells, tabM, slvM, slvsM, Slv.cells, objsM, Obj.cells, reqM, repM, byteD]; rfl) (by simp only [↓ru, rv, rl, ry, tyf, iM, bM, bsM, cond_true, cond_false, Nat.reduceLT, Nat.reduceBEq, Nat.reduceAdd, Nat.reduceEqDiff, Nat.reduceMul, Nat.reduceLeDiff, Nat.reduceSub, Nat.reduceDiv, Int.reduceLE, Int.reduceLT, Int.reduceNeg, Int.reduceAdd, Int.reduceSub, Int.reduceMul, Int.reduceToNat, Int.reducePow, Int.reduceEq, ne_eq, reduceIte, intsM, intD, iD, bsD, bD, setM, setsM, Setg.cells, ranM, ransM, Ran.cells, tabM, slvM, slvsM, Slv.cells, objsM, Obj.cells, reqM, repM, byteD]; rfl) (by omega) (by omega) ?_
  intro i e0 n hi
  have hfl : (fltF q (s.objs.take i)).length ≤ i := by
    have h1 := List.length_filter_le (fun o => decide (q.obj ≤ o.id ∧ o.id ≤ greatF q.code)) (s.objs.take i)
    have h2 := List.length_take_le i s.objs
    unfold fltF; omega
  simp only [↓ru, rv, rl, ry, tyf, iM, bM, bsM, cond_true, cond_false, Nat.reduceLT, Nat.reduceBEq, Nat.reduceAdd, Nat.reduceEqDiff, Nat.reduceMul, Nat.reduceLeDiff, Nat.reduceSub, Nat.reduceDiv, Int.reduceLE, Int.reduceLT, Int.reduceNeg, Int.reduceAdd, Int.reduceSub, Int.reduceMul, Int.reduceToNat, Int.reducePow, Int.reduceEq, ne_eq, reduceIte, intsM, intD, iD, bsD, bD, setM, setsM, Setg.cells, ranM, ransM, Ran.cells, tabM, slvM, slvsM, Slv.cells, objsM, Obj.cells, reqM, repM, byteD]
  refine fork_split (fun h => ?_) (fun h => ?_)
  · have h' := of_decide_eq_true h
    obtain ⟨o, ho⟩ := get_of_lt (l := s.objs) (i := i) (by omega)
    have hsu := fltF_succ (q := q) ho
    simp only [↓ru, rv, rl, ry, tyf, iM, bM, bsM, cond_true, cond_false, Nat.reduceLT, Nat.reduceBEq, Nat.reduceAdd, Nat.reduceEqDiff, Nat.reduceMul, Nat.reduceLeDiff, Nat.reduceSub, Nat.reduceDiv, Int.reduceLE, Int.reduceLT, Int.reduceNeg, Int.reduceAdd, Int.reduceSub, Int.reduceMul, Int.reduceToNat, Int.reducePow, Int.reduceEq, ne_eq, reduceIte, intsM, intD, iD, bsD, bD, setM, setsM, Setg.cells, ranM, ransM, Ran.cells, tabM, slvM, slvsM, Slv.cells, objsM, Obj.cells, reqM, repM, byteD, ho]
    by_cases h1 : q.obj ≤ o.id
    · have d1 : decide (q.obj ≤ o.id) = true := by simpa using h1
      simp only [↓ru, rv, rl, ry, tyf, iM, bM, bsM, cond_true, cond_false, Nat.reduceLT, Nat.reduceBEq, Nat.reduceAdd, Nat.reduceEqDiff, Nat.reduceMul, Nat.reduceLeDiff, Nat.reduceSub, Nat.reduceDiv, Int.reduceLE, Int.reduceLT, Int.reduceNeg, Int.reduceAdd, Int.reduceSub, Int.reduceMul, Int.reduceToNat, Int.reducePow, Int.reduceEq, ne_eq, reduceIte, intsM, intD, iD, bsD, bD, setM, setsM, Setg.cells, ranM, ransM, Ran.cells, tabM, slvM, slvsM, Slv.cells, objsM, Obj.cells, reqM, repM, byteD, d1, ho]
      by_cases h2 : o.id ≤ greatF q.code
      · have d2 : decide (o.id ≤ greatF q.code) = true := by simpa using h2
        rw [if_pos ⟨h1, h2⟩] at hsu
        have hr : pure2 ((fltF q (s.objs.take i)).map Obj.cells) ++ [[iM o.id, bsM o.val]] = pure2 ((fltF q (s.objs.take (i + 1))).map Obj.cells) := by rw [hsu]; simp [pure2, Obj.cells, iD, bsD]
        have hlen : (fltF q (s.objs.take (i + 1))).length = (fltF q (s.objs.take i)).length + 1 := by rw [hsu]; simp
        simp only [↓ru, rv, rl, ry, tyf, iM, bM, bsM, cond_true, cond_false, Nat.reduceLT, Nat.reduceBEq, Nat.reduceAdd, Nat.reduceEqDiff, Nat.reduceMul, Nat.reduceLeDiff, Nat.reduceSub, Nat.reduceDiv, Int.reduceLE, Int.reduceLT, Int.reduceNeg, Int.reduceAdd, Int.reduceSub, Int.reduceMul, Int.reduceToNat, Int.reducePow, Int.reduceEq, ne_eq, reduceIte, intsM, intD, iD, bsD, bD, setM, setsM, Setg.cells, ranM, ransM, Ran.cells, tabM, slvM, slvsM, Slv.cells, objsM, Obj.cells, reqM, repM, byteD, d2, ho]
        have hac : (pure2 ((fltF q (s.objs.take i)).map Obj.cells)).length = (fltF q (s.objs.take i)).length := by simp [pure2_length]
        rw [hr]
        simp only [pure2_length, List.length_map]
        (try simp only [↓ru, rv, rl, ry, tyf, iM, bM, bsM, cond_true, cond_false, Nat.reduceLT, Nat.reduceBEq, Nat.reduceAdd, Nat.reduceEqDiff, Nat.reduceMul, Nat.reduceLeDiff, Nat.reduceSub, Nat.reduceDiv, Int.reduceLE, Int.reduceLT, Int.reduceNeg, Int.reduceAdd, Int.reduceSub, Int.reduceMul, Int.reduceToNat, Int.reducePow, Int.reduceEq, ne_eq, reduceIte, intsM, intD, iD, bsD, bD, setM, setsM, Setg.cells, ranM, ransM, Ran.cells, tabM, slvM, slvsM, Slv.cells, objsM, Obj.cells, reqM, repM, byteD, hac])
        refine grd_intro (by omega) ?_
        simp (disch := omega) only [wrap_i64, wrap_u8, wrap_u16, wrap_u64]
        refine loopL_drop (i + 1) (by simp only [↓ru, rv, rl, ry, tyf, iM, bM, bsM, cond_true, cond_false, Nat.reduceLT, Nat.reduceBEq, Nat.reduceAdd, Nat.reduceEqDiff, Nat.reduceMul, Nat.reduceLeDiff, Nat.reduceSub, Nat.reduceDiv, Int.reduceLE, Int.reduceLT, Int.reduceNeg, Int.reduceAdd, Int.reduceSub, Int.reduceMul, Int.reduceToNat, Int.reducePow, Int.reduceEq, ne_eq, reduceIte, intsM, intD, iD, bsD, bD, setM, setsM, Setg.cells, ranM, ransM, Ran.cells, tabM, slvM, slvsM, Slv.cells, objsM, Obj.cells, reqM, repM, byteD]; (try simp)) (by simp only [↓ru, rv, rl, ry, tyf, iM, bM, bsM, cond_true, cond_false, Nat.reduceLT, Nat.reduceBEq, Nat.reduceAdd, Nat.reduceEqDiff, Nat.reduceMul, Nat.reduceLeDiff, Nat.reduceSub, Nat.reduceDiv, Int.reduceLE, Int.reduceLT, Int.reduceNeg, Int.reduceAdd, Int.reduceSub, Int.reduceMul, Int.reduceToNat, Int.reducePow, Int.reduceEq, ne_eq, reduceIte, intsM, intD, iD, bsD, bD, setM, setsM, Setg.cells, ranM, ransM, Ran.cells, tabM, slvM, slvsM, Slv.cells, objsM, Obj.cells, reqM, repM, byteD]; (try simp [hlen])) (by omega) (by omega) (by omega)
      · have d2 : decide (o.id ≤ greatF q.code) = false := by simpa using h2
        rw [if_neg (by omega), List.append_nil] at hsu
        simp only [↓ru, rv, rl, ry, tyf, iM, bM, bsM, cond_true, cond_false, Nat.reduceLT, Nat.reduceBEq, Nat.reduceAdd, Nat.reduceEqDiff, Nat.reduceMul, Nat.reduceLeDiff, Nat.reduceSub, Nat.reduceDiv, Int.reduceLE, Int.reduceLT, Int.reduceNeg, Int.reduceAdd, Int.reduceSub, Int.reduceMul, Int.reduceToNat, Int.reducePow, Int.reduceEq, ne_eq, reduceIte, intsM, intD, iD, bsD, bD, setM, setsM, Setg.cells, ranM, ransM, Ran.cells, tabM, slvM, slvsM, Slv.cells, objsM, Obj.cells, reqM, repM, byteD, d2]
        simp (disch := omega) only [wrap_i64, wrap_u8, wrap_u16, wrap_u64]
        refine loopL_drop (i + 1) (by simp only [↓ru, rv, rl, ry, tyf, iM, bM, bsM, cond_true, cond_false, Nat.reduceLT, Nat.reduceBEq, Nat.reduceAdd, Nat.reduceEqDiff, Nat.reduceMul, Nat.reduceLeDiff, Nat.reduceSub, Nat.reduceDiv, Int.reduceLE, Int.reduceLT, Int.reduceNeg, Int.reduceAdd, Int.reduceSub, Int.reduceMul, Int.reduceToNat, Int.reducePow, Int.reduceEq, ne_eq, reduceIte, intsM, intD, iD, bsD, bD, setM, setsM, Setg.cells, ranM, ransM, Ran.cells, tabM, slvM, slvsM, Slv.cells, objsM, Obj.cells, reqM, repM, byteD, hsu]; (try simp)) (by simp only [↓ru, rv, rl, ry, tyf, iM, bM, bsM, cond_true, cond_false, Nat.reduceLT, Nat.reduceBEq, Nat.reduceAdd, Nat.reduceEqDiff, Nat.reduceMul, Nat.reduceLeDiff, Nat.reduceSub, Nat.reduceDiv, Int.reduceLE, Int.reduceLT, Int.reduceNeg, Int.reduceAdd, Int.reduceSub, Int.reduceMul, Int.reduceToNat, Int.reducePow, Int.reduceEq, ne_eq, reduceIte, intsM, intD, iD, bsD, bD, setM, setsM, Setg.cells, ranM, ransM, Ran.cells, tabM, slvM, slvsM, Slv.cells, objsM, Obj.cells, reqM, repM, byteD, hsu]) (by omega) (by omega) (by omega)
    · have d1 : decide (q.obj ≤ o.id) = false := by simpa using h1
      rw [if_neg (by omega), List.append_nil] at hsu
      simp only [↓ru, rv, rl, ry, tyf, iM, bM, bsM, cond_true, cond_false, Nat.reduceLT, Nat.reduceBEq, Nat.reduceAdd, Nat.reduceEqDiff, Nat.reduceMul, Nat.reduceLeDiff, Nat.reduceSub, Nat.reduceDiv, Int.reduceLE, Int.reduceLT, Int.reduceNeg, Int.reduceAdd, Int.reduceSub, Int.reduceMul, Int.reduceToNat, Int.reducePow, Int.reduceEq, ne_eq, reduceIte, intsM, intD, iD, bsD, bD, setM, setsM, Setg.cells, ranM, ransM, Ran.cells, tabM, slvM, slvsM, Slv.cells, objsM, Obj.cells, reqM, repM, byteD, d1]
      simp (disch := omega) only [wrap_i64, wrap_u8, wrap_u16, wrap_u64]
      refine loopL_drop (i + 1) (by simp only [↓ru, rv, rl, ry, tyf, iM, bM, bsM, cond_true, cond_false, Nat.reduceLT, Nat.reduceBEq, Nat.reduceAdd, Nat.reduceEqDiff, Nat.reduceMul, Nat.reduceLeDiff, Nat.reduceSub, Nat.reduceDiv, Int.reduceLE, Int.reduceLT, Int.reduceNeg, Int.reduceAdd, Int.reduceSub, Int.reduceMul, Int.reduceToNat, Int.reducePow, Int.reduceEq, ne_eq, reduceIte, intsM, intD, iD, bsD, bD, setM, setsM, Setg.cells, ranM, ransM, Ran.cells, tabM, slvM, slvsM, Slv.cells, objsM, Obj.cells, reqM, repM, byteD, hsu]; (try simp)) (by simp only [↓ru, rv, rl, ry, tyf, iM, bM, bsM, cond_true, cond_false, Nat.reduceLT, Nat.reduceBEq, Nat.reduceAdd, Nat.reduceEqDiff, Nat.reduceMul, Nat.reduceLeDiff, Nat.reduceSub, Nat.reduceDiv, Int.reduceLE, Int.reduceLT, Int.reduceNeg, Int.reduceAdd, Int.reduceSub, Int.reduceMul, Int.reduceToNat, Int.reducePow, Int.reduceEq, ne_eq, reduceIte, intsM, intD, iD, bsD, bD, setM, setsM, Setg.cells, ranM, ransM, Ran.cells, tabM, slvM, slvsM, Slv.cells, objsM, Obj.cells, reqM, repM, byteD, hsu]) (by omega) (by omega) (by omega)
  have h' := of_decide_eq_false h
  obtain rfl : i = s.objs.length := by omega
  rw [List.take_length] at hfl ⊢
  have hlv : ∀ o, o ∈ fltF q s.objs → o.val.length ≤ 64 := fun o ho => hv o (List.mem_filter.1 ho).1
  generalize fltF q s.objs = l at hfl hlv ⊢
  have hac : (pure2 (l.map Obj.cells)).length = l.length := by simp [pure2_length]
  have hfit := fitG_le l 0
  simp only [↓ru, rv, rl, ry, tyf, iM, bM, bsM, cond_true, cond_false, Nat.reduceLT, Nat.reduceBEq, Nat.reduceAdd, Nat.reduceEqDiff, Nat.reduceMul, Nat.reduceLeDiff, Nat.reduceSub, Nat.reduceDiv, Int.reduceLE, Int.reduceLT, Int.reduceNeg, Int.reduceAdd, Int.reduceSub, Int.reduceMul, Int.reduceToNat, Int.reducePow, Int.reduceEq, ne_eq, reduceIte, intsM, intD, iD, bsD, bD, setM, setsM, Setg.cells, ranM, ransM, Ran.cells, tabM, slvM, slvsM, Slv.cells, objsM, Obj.cells, reqM, repM, byteD]
  by_cases hn : (l.length : Int) = 0
  · have dn : decide ((l.length : Int) = 0) = true := by simpa using hn
    have hI : identR s q (l.take (fitG l 0), (l[fitG l 0]?).map Obj.id) = refF q 2 := by rw [identR, if_pos (by simp; omega)]
    simp only [↓ru, rv, rl, ry, tyf, iM, bM, bsM, cond_true, cond_false, Nat.reduceLT, Nat.reduceBEq, Nat.reduceAdd, Nat.reduceEqDiff, Nat.reduceMul, Nat.reduceLeDiff, Nat.reduceSub, Nat.reduceDiv, Int.reduceLE, Int.reduceLT, Int.reduceNeg, Int.reduceAdd, Int.reduceSub, Int.reduceMul, Int.reduceToNat, Int.reducePow, Int.reduceEq, ne_eq, reduceIte, intsM, intD, iD, bsD, bD, setM, setsM, Setg.cells, ranM, ransM, Ran.cells, tabM, slvM, slvsM, Slv.cells, objsM, Obj.cells, reqM, repM, byteD, dn, pureEnd_of (fn := Try.f106) (rs := [.cell 4 77]) (ts := [77]) rfl rfl, hI, refF, hq]
  have dn : decide ((l.length : Int) = 0) = false := by simpa using hn
  simp only [↓ru, rv, rl, ry, tyf, iM, bM, bsM, cond_true, cond_false, Nat.reduceLT, Nat.reduceBEq, Nat.reduceAdd, Nat.reduceEqDiff, Nat.reduceMul, Nat.reduceLeDiff, Nat.reduceSub, Nat.reduceDiv, Int.reduceLE, Int.reduceLT, Int.reduceNeg, Int.reduceAdd, Int.reduceSub, Int.reduceMul, Int.reduceToNat, Int.reducePow, Int.reduceEq, ne_eq, reduceIte, intsM, intD, iD, bsD, bD, setM, setsM, Setg.cells, ranM, ransM, Ran.cells, tabM, slvM, slvsM, Slv.cells, objsM, Obj.cells, reqM, repM, byteD, dn]
  refine aloop_lk (fun x : Nat × Bool => [(2, .ptr 0 0), (3, .ptr 1 0), (4, .ptr 2 0), (5, .ptr 4 0), (7, .hsl 17 l.length), (9, iM x.1)])
    (fun x => [(17, .ar x.2 2 (pure2 (l.map Obj.cells))), (18, .ar false 2 []), (4, .st [iM 43, iM 0, .d (.v (.slice none 0 0)), iM 0, iM 0, bM false, iM 0, .hsl 18 0]),
      (2, .st [iM 0, iM 0, .d (.v (.slice none 0 0)), iM 0, iM 0, bM false, iM 0, .d (.v (.slice none 0 0))]), (1, .st [iM q.fn, iM q.addr, iM q.qty, iM q.code, iM q.obj]), (0, slvBox s)])
    (fun x => fitG l 0 ≤ x.1 ∧ x.1 ≤ l.length) (fun x => x.1) 0 19 (l.length, false) (by simp only [↓ru, rv, rl, ry, tyf, iM, bM, bsM, cond_true, cond_false, Nat.reduceLT, Nat.reduceBEq, Nat.reduceAdd, Nat.reduceEqDiff, Nat.reduceMul, Nat.reduceLeDiff, Nat.reduceSub, Nat.reduceDiv, Int.reduceLE, Int.reduceLT, Int.reduceNeg, Int.reduceAdd, Int.reduceSub, Int.reduceMul, Int.reduceToNat, Int.reducePow, Int.reduceEq, ne_eq, reduceIte, intsM, intD, iD, bsD, bD, setM, setsM, Setg.cells, ranM, ransM, Ran.cells, tabM, slvM, slvsM, Slv.cells, objsM, Obj.cells, reqM, repM, byteD]) (by simp only [↓ru, rv, rl, ry, tyf, iM, bM, bsM, cond_true, cond_false, Nat.reduceLT, Nat.reduceBEq, Nat.reduceAdd, Nat.reduceEqDiff, Nat.reduceMul, Nat.reduceLeDiff, Nat.reduceSub, Nat.reduceDiv, Int.reduceLE, Int.reduceLT, Int.reduceNeg, Int.reduceAdd, Int.reduceSub, Int.reduceMul, Int.reduceToNat, Int.reducePow, Int.reduceEq, ne_eq, reduceIte, intsM, intD, iD, bsD, bD, setM, setsM, Setg.cells, ranM, ransM, Ran.cells, tabM, slvM, slvsM, Slv.cells, objsM, Obj.cells, reqM, repM, byteD]) ⟨by simpa using hfit, by simp⟩ (by omega) ?_
  rintro ⟨m, f⟩ e1 n1 ⟨hm1, hm2⟩
  simp only at hm1 hm2
  have hsz := fitG_size l 0 m (by omega) hm2 hlv
  simp only [↓ru, rv, rl, ry, tyf, iM, bM, bsM, cond_true, cond_false, Nat.reduceLT, Nat.reduceBEq, Nat.reduceAdd, Nat.reduceEqDiff, Nat.reduceMul, Nat.reduceLeDiff, Nat.reduceSub, Nat.reduceDiv, Int.reduceLE, Int.reduceLT, Int.reduceNeg, Int.reduceAdd, Int.reduceSub, Int.reduceMul, Int.reduceToNat, Int.reducePow, Int.reduceEq, ne_eq, reduceIte, intsM, intD, iD, bsD, bD, setM, setsM, Setg.cells, ranM, ransM, Ran.cells, tabM, slvM, slvsM, Slv.cells, objsM, Obj.cells, reqM, repM, byteD, hac]
  refine grd_intro (by omega) ?_
  refine acall1_pure (t91 (l.take m) (by simp only [List.length_take]; omega)) rfl rfl ?_
  simp only [↓ru, rv, rl, ry, tyf, iM, bM, bsM, cond_true, cond_false, Nat.reduceLT, Nat.reduceBEq, Nat.reduceAdd, Nat.reduceEqDiff, Nat.reduceMul, Nat.reduceLeDiff, Nat.reduceSub, Nat.reduceDiv, Int.reduceLE, Int.reduceLT, Int.reduceNeg, Int.reduceAdd, Int.reduceSub, Int.reduceMul, Int.reduceToNat, Int.reducePow, Int.reduceEq, ne_eq, reduceIte, intsM, intD, iD, bsD, bD, setM, setsM, Setg.cells, ranM, ransM, Ran.cells, tabM, slvM, slvsM, Slv.cells, objsM, Obj.cells, reqM, repM, byteD]
  refine fork_split (fun h3 => ?_) (fun h3 => ?_)
  · have h3' := of_decide_eq_true h3
    have := hsz.1 h3'
    simp only [↓ru, rv, rl, ry, tyf, iM, bM, bsM, cond_true, cond_false, Nat.reduceLT, Nat.reduceBEq, Nat.reduceAdd, Nat.reduceEqDiff, Nat.reduceMul, Nat.reduceLeDiff, Nat.reduceSub, Nat.reduceDiv, Int.reduceLE, Int.reduceLT, Int.reduceNeg, Int.reduceAdd, Int.reduceSub, Int.reduceMul, Int.reduceToNat, Int.reducePow, Int.reduceEq, ne_eq, reduceIte, intsM, intD, iD, bsD, bD, setM, setsM, Setg.cells, ranM, ransM, Ran.cells, tabM, slvM, slvsM, Slv.cells, objsM, Obj.cells, reqM, repM, byteD]
    simp (disch := omega) only [wrap_i64, wrap_u8, wrap_u16, wrap_u64]
    rw [show ((m : Int) - 1) = ((m - 1 : Nat) : Int) by omega]
    refine loopL_drop (m - 1, true) (by simp only [↓ru, rv, rl, ry, tyf, iM, bM, bsM, cond_true, cond_false, Nat.reduceLT, Nat.reduceBEq, Nat.reduceAdd, Nat.reduceEqDiff, Nat.reduceMul, Nat.reduceLeDiff, Nat.reduceSub, Nat.reduceDiv, Int.reduceLE, Int.reduceLT, Int.reduceNeg, Int.reduceAdd, Int.reduceSub, Int.reduceMul, Int.reduceToNat, Int.reducePow, Int.reduceEq, ne_eq, reduceIte, intsM, intD, iD, bsD, bD, setM, setsM, Setg.cells, ranM, ransM, Ran.cells, tabM, slvM, slvsM, Slv.cells, objsM, Obj.cells, reqM, repM, byteD]) (by simp only [↓ru, rv, rl, ry, tyf, iM, bM, bsM, cond_true, cond_false, Nat.reduceLT, Nat.reduceBEq, Nat.reduceAdd, Nat.reduceEqDiff, Nat.reduceMul, Nat.reduceLeDiff, Nat.reduceSub, Nat.reduceDiv, Int.reduceLE, Int.reduceLT, Int.reduceNeg, Int.reduceAdd, Int.reduceSub, Int.reduceMul, Int.reduceToNat, Int.reducePow, Int.reduceEq, ne_eq, reduceIte, intsM, intD, iD, bsD, bD, setM, setsM, Setg.cells, ranM, ransM, Ran.cells, tabM, slvM, slvsM, Slv.cells, objsM, Obj.cells, reqM, repM, byteD]) ⟨by simp only; omega, by simp only; omega⟩ (by omega) (by simp only; omega)
  have h3' := of_decide_eq_false h3
  have hm : m = fitG l 0 := by
    have : ¬ fitG l 0 < m := fun h => h3' (hsz.2 h)
    omega
  have hpos : 0 < m := by
    rw [hm]
    match l, hn, hlv with
    | [], hn, _ => simp at hn
    | o :: r, _, hlv =>
      have := hlv o (List.mem_cons_self ..)
      rw [fitG, if_neg (by omega)]; omega
  rw [← hm]
  clear hsz h3 h3' hm hm1 hfit
  simp only [↓ru, rv, rl, ry, tyf, iM, bM, bsM, cond_true, cond_false, Nat.reduceLT, Nat.reduceBEq, Nat.reduceAdd, Nat.reduceEqDiff, Nat.reduceMul, Nat.reduceLeDiff, Nat.reduceSub, Nat.reduceDiv, Int.reduceLE, Int.reduceLT, Int.reduceNeg, Int.reduceAdd, Int.reduceSub, Int.reduceMul, Int.reduceToNat, Int.reducePow, Int.reduceEq, ne_eq, reduceIte, intsM, intD, iD, bsD, bD, setM, setsM, Setg.cells, ranM, ransM, Ran.cells, tabM, slvM, slvsM, Slv.cells, objsM, Obj.cells, reqM, repM, byteD]
  refine aloop_lk (fun j : Nat => [(4, .ptr 2 0), (5, .ptr 4 0), (7, .hsl 17 l.length), (9, iM m), (10, iM j)])
    (fun j => [(17, .ar true 2 (pure2 (l.map Obj.cells))), (18, .ar false 2 (pure2 ((l.take j).map Obj.cells))), (4, .st [iM 43, iM 0, .d (.v (.slice none 0 0)), iM q.code, iM s.level, bM false, iM 0, .hsl 18 j]),
      (2, .st [iM 0, iM 0, .d (.v (.slice none 0 0)), iM 0, iM 0, bM false, iM 0, .d (.v (.slice none 0 0))])])
    (fun j => j ≤ m) (fun j => m - j) 0 19 0 (by simp only [↓ru, rv, rl, ry, tyf, iM, bM, bsM, cond_true, cond_false, Nat.reduceLT, Nat.reduceBEq, Nat.reduceAdd, Nat.reduceEqDiff, Nat.reduceMul, Nat.reduceLeDiff, Nat.reduceSub, Nat.reduceDiv, Int.reduceLE, Int.reduceLT, Int.reduceNeg, Int.reduceAdd, Int.reduceSub, Int.reduceMul, Int.reduceToNat, Int.reducePow, Int.reduceEq, ne_eq, reduceIte, intsM, intD, iD, bsD, bD, setM, setsM, Setg.cells, ranM, ransM, Ran.cells, tabM, slvM, slvsM, Slv.cells, objsM, Obj.cells, reqM, repM, byteD]) (by simp only [↓ru, rv, rl, ry, tyf, iM, bM, bsM, cond_true, cond_false, Nat.reduceLT, Nat.reduceBEq, Nat.reduceAdd, Nat.reduceEqDiff, Nat.reduceMul, Nat.reduceLeDiff, Nat.reduceSub, Nat.reduceDiv, Int.reduceLE, Int.reduceLT, Int.reduceNeg, Int.reduceAdd, Int.reduceSub, Int.reduceMul, Int.reduceToNat, Int.reducePow, Int.reduceEq, ne_eq, reduceIte, intsM, intD, iD, bsD, bD, setM, setsM, Setg.cells, ranM, ransM, Ran.cells, tabM, slvM, slvsM, Slv.cells, objsM, Obj.cells, reqM, repM, byteD]; rfl) (by omega) (by omega) ?_
  intro j e2 n2 hj
  have haj : (pure2 ((l.take j).map Obj.cells)).length = j := by simp [pure2_length]; omega
  simp only [↓ru, rv, rl, ry, tyf, iM, bM, bsM, cond_true, cond_false, Nat.reduceLT, Nat.reduceBEq, Nat.reduceAdd, Nat.reduceEqDiff, Nat.reduceMul, Nat.reduceLeDiff, Nat.reduceSub, Nat.reduceDiv, Int.reduceLE, Int.reduceLT, Int.reduceNeg, Int.reduceAdd, Int.reduceSub, Int.reduceMul, Int.reduceToNat, Int.reducePow, Int.reduceEq, ne_eq, reduceIte, intsM, intD, iD, bsD, bD, setM, setsM, Setg.cells, ranM, ransM, Ran.cells, tabM, slvM, slvsM, Slv.cells, objsM, Obj.cells, reqM, repM, byteD]
  refine fork_split (fun h4 => ?_) (fun h4 => ?_)
  · have h4' := of_decide_eq_true h4
    obtain ⟨o, ho⟩ := get_of_lt (l := l) (i := j) (by omega)
    have hov := hlv o (List.mem_of_getElem? ho)
    have hgo : (pure2 (l.map Obj.cells))[j]? = some [iM o.id, bsM o.val] := by rw [pure2_get, List.getElem?_map, ho]; rfl
    have hlt2 : ((j : Int) < (l.length : Int)) = True := by simp; omega
    simp only [↓ru, rv, rl, ry, tyf, iM, bM, bsM, cond_true, cond_false, Nat.reduceLT, Nat.reduceBEq, Nat.reduceAdd, Nat.reduceEqDiff, Nat.reduceMul, Nat.reduceLeDiff, Nat.reduceSub, Nat.reduceDiv, Int.reduceLE, Int.reduceLT, Int.reduceNeg, Int.reduceAdd, Int.reduceSub, Int.reduceMul, Int.reduceToNat, Int.reducePow, Int.reduceEq, ne_eq, reduceIte, intsM, intD, iD, bsD, bD, setM, setsM, Setg.cells, ranM, ransM, Ran.cells, tabM, slvM, slvsM, Slv.cells, objsM, Obj.cells, reqM, repM, byteD, hac, haj, hgo, hlt2, Int.toNat_natCast]
    have hr : pure2 ((l.take j).map Obj.cells) ++ [[iM o.id, bsM o.val]] = pure2 ((l.take (j + 1)).map Obj.cells) := by rw [List.take_add_one, ho]; simp [pure2, Obj.cells, iD, bsD]
    rw [hr]
    simp only [pure2_length, List.length_map, List.length_take]
    refine grd_intro (by omega) (grd_intro (by omega) ?_)
    simp (disch := omega) only [wrap_i64, wrap_u8, wrap_u16, wrap_u64]
    rw [show min (j + 1) l.length = j + 1 by omega]
    refine loopL_drop (j + 1) (by simp only [↓ru, rv, rl, ry, tyf, iM, bM, bsM, cond_true, cond_false, Nat.reduceLT, Nat.reduceBEq, Nat.reduceAdd, Nat.reduceEqDiff, Nat.reduceMul, Nat.reduceLeDiff, Nat.reduceSub, Nat.reduceDiv, Int.reduceLE, Int.reduceLT, Int.reduceNeg, Int.reduceAdd, Int.reduceSub, Int.reduceMul, Int.reduceToNat, Int.reducePow, Int.reduceEq, ne_eq, reduceIte, intsM, intD, iD, bsD, bD, setM, setsM, Setg.cells, ranM, ransM, Ran.cells, tabM, slvM, slvsM, Slv.cells, objsM, Obj.cells, reqM, repM, byteD]; (try simp)) (by simp only [↓ru, rv, rl, ry, tyf, iM, bM, bsM, cond_true, cond_false, Nat.reduceLT, Nat.reduceBEq, Nat.reduceAdd, Nat.reduceEqDiff, Nat.reduceMul, Nat.reduceLeDiff, Nat.reduceSub, Nat.reduceDiv, Int.reduceLE, Int.reduceLT, Int.reduceNeg, Int.reduceAdd, Int.reduceSub, Int.reduceMul, Int.reduceToNat, Int.reducePow, Int.reduceEq, ne_eq, reduceIte, intsM, intD, iD, bsD, bD, setM, setsM, Setg.cells, ranM, ransM, Ran.cells, tabM, slvM, slvsM, Slv.cells, objsM, Obj.cells, reqM, repM, byteD]) (by omega) (by omega) (by omega)
  have h4' := of_decide_eq_false h4
  obtain rfl : j = m := by omega
  simp only [↓ru, rv, rl, ry, tyf, iM, bM, bsM, cond_true, cond_false, Nat.reduceLT, Nat.reduceBEq, Nat.reduceAdd, Nat.reduceEqDiff, Nat.reduceMul, Nat.reduceLeDiff, Nat.reduceSub, Nat.reduceDiv, Int.reduceLE, Int.reduceLT, Int.reduceNeg, Int.reduceAdd, Int.reduceSub, Int.reduceMul, Int.reduceToNat, Int.reducePow, Int.reduceEq, ne_eq, reduceIte, intsM, intD, iD, bsD, bD, setM, setsM, Setg.cells, ranM, ransM, Ran.cells, tabM, slvM, slvsM, Slv.cells, objsM, Obj.cells, reqM, repM, byteD]
  have hlt3 : (l.take j).length = j := by simp only [List.length_take]; omega
  by_cases hjl : j < l.length
  · have dj : decide ((j : Int) < (l.length : Int)) = true := by simp; omega
    obtain ⟨o, ho⟩ := get_of_lt (l := l) (i := j) hjl
    have hgo : (pure2 (l.map Obj.cells))[j]? = some [iM o.id, bsM o.val] := by rw [pure2_get, List.getElem?_map, ho]; rfl
    have hlt2 : ((j : Int) < (l.length : Int)) = True := by simp; omega
    have hI : identR s q (l.take j, (l[j]?).map Obj.id) = ⟨43, 0, [], q.code, s.level, true, o.id, l.take j⟩ := by rw [identR, if_neg (by simp only [List.length_take]; omega), ho, hq]; rfl
    simp only [↓ru, rv, rl, ry, tyf, iM, bM, bsM, cond_true, cond_false, Nat.reduceLT, Nat.reduceBEq, Nat.reduceAdd, Nat.reduceEqDiff, Nat.reduceMul, Nat.reduceLeDiff, Nat.reduceSub, Nat.reduceDiv, Int.reduceLE, Int.reduceLT, Int.reduceNeg, Int.reduceAdd, Int.reduceSub, Int.reduceMul, Int.reduceToNat, Int.reducePow, Int.reduceEq, ne_eq, reduceIte, intsM, intD, iD, bsD, bD, setM, setsM, Setg.cells, ranM, ransM, Ran.cells, tabM, slvM, slvsM, Slv.cells, objsM, Obj.cells, reqM, repM, byteD, dj, hac, haj, hgo, hlt2, Int.toNat_natCast]
    simp only [↓ru, rv, rl, ry, tyf, iM, bM, bsM, cond_true, cond_false, Nat.reduceLT, Nat.reduceBEq, Nat.reduceAdd, Nat.reduceEqDiff, Nat.reduceMul, Nat.reduceLeDiff, Nat.reduceSub, Nat.reduceDiv, Int.reduceLE, Int.reduceLT, Int.reduceNeg, Int.reduceAdd, Int.reduceSub, Int.reduceMul, Int.reduceToNat, Int.reducePow, Int.reduceEq, ne_eq, reduceIte, intsM, intD, iD, bsD, bD, setM, setsM, Setg.cells, ranM, ransM, Ran.cells, tabM, slvM, slvsM, Slv.cells, objsM, Obj.cells, reqM, repM, byteD, hI, haj, hlt3, pureEnd_of (fn := Try.f106) (rs := [.cell 4 77]) (ts := [77]) rfl rfl]
  · have dj : decide ((j : Int) < (l.length : Int)) = false := by simp; omega
    have hI : identR s q (l.take j, (l[j]?).map Obj.id) = ⟨43, 0, [], q.code, s.level, false, 0, l.take j⟩ := by rw [identR, if_neg (by simp only [List.length_take]; omega), List.getElem?_eq_none (by omega), hq]; rfl
    simp only [↓ru, rv, rl, ry, tyf, iM, bM, bsM, cond_true, cond_false, Nat.reduceLT, Nat.reduceBEq, Nat.reduceAdd, Nat.reduceEqDiff, Nat.reduceMul, Nat.reduceLeDiff, Nat.reduceSub, Nat.reduceDiv, Int.reduceLE, Int.reduceLT, Int.reduceNeg, Int.reduceAdd, Int.reduceSub, Int.reduceMul, Int.reduceToNat, Int.reducePow, Int.reduceEq, ne_eq, reduceIte, intsM, intD, iD, bsD, bD, setM, setsM, Setg.cells, ranM, ransM, Ran.cells, tabM, slvM, slvsM, Slv.cells, objsM, Obj.cells, reqM, repM, byteD, dj, hI, haj, hlt3, pureEnd_of (fn := Try.f106) (rs := [.cell 4 77]) (ts := [77]) rfl rfl]
end Go.R2

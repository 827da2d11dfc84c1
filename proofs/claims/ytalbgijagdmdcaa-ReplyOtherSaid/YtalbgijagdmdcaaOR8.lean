import Derived.Test.YtalbgijagdmdcaaOR7
set_option linter.all false
open Go.Proofs Go.Abs Go.FaR2
namespace Go.R2
-- rules: repM, objsM, Obj.cells, iD, bsD, bD, reqM, byteD
set_option maxHeartbeats 4000000
set_option maxRecDepth 10000

theorem rep0_ok : rep0.OK ∧ rep0.objs.length ≤ 255 ∧ rep0.data.length ≤ 1000 := ⟨⟨by simp [rep0], by simp [rep0]⟩, by simp [rep0], by simp [rep0]⟩
theorem devDec_ok : ∀ (b : List UInt8), (devDec b).1.OK ∧ (devDec b).1.objs.length ≤ 255 ∧ (devDec b).1.data.length ≤ 1000
  | b0 :: b1 :: b2 :: b3 :: b4 :: b5 :: b6 :: rest => by
    rw [devDec]
    split
    · exact rep0_ok
    · cases hd : decObjs b6.toNat rest [] with
      | none => exact rep0_ok
      | some x =>
        obtain ⟨l, r⟩ := x
        simp only
        split
        · exact rep0_ok
        · split
          · exact rep0_ok
          · have h1 := decObjs_len _ _ _ _ _ hd
            have h2 := b6.toNat_lt
            have h3 := b3.toNat_lt
            simp only [List.length_nil] at h1
            exact ⟨⟨by show l.length ≤ _; omega, by
              show -9223372036854775808 ≤ (b3.toNat : Int) ∧ (b3.toNat : Int) ≤ 9223372036854775807
              omega⟩, by show l.length ≤ _; omega, by simp [devRep]⟩
  | [] | [_] | [_, _] | [_, _, _] | [_, _, _, _] | [_, _, _, _, _] | [_, _, _, _, _, _] => rep0_ok
theorem decF_ok : ∀ (b : List UInt8), (decF b).1.OK ∧ (decF b).1.objs.length ≤ 255 ∧ (decF b).1.data.length ≤ 1000
  | b0 :: b1 :: rest => by
    rw [decF]
    split
    · exact rep0_ok
    · split
      · split
        · exact rep0_ok
        · split
          · exact rep0_ok
          · exact ⟨⟨by simp [excRep], by simp [excRep]⟩, by simp [excRep], by simp [excRep]⟩
      · split
        · split
          · exact devDec_ok _
          · split
            · exact rep0_ok
            · split
              · refine ⟨⟨by simp [dataRep], by simp [dataRep]⟩, by simp [dataRep], ?_⟩
                show rest.length ≤ 1000
                omega
              · exact rep0_ok
        · exact rep0_ok
  | [] | [_] => rep0_ok

/-- The reply in bytes to a request. -/
def readF (q : Req) (b : List UInt8) : Rep × Int :=
  if reqF q = false then (rep0, 5) else
  if (decF b).2 ≠ 0 then (rep0, (decF b).2) else
  if (decF b).1.fn ≠ q.fn then (rep0, 16) else
  if matchF q (decF b).1 = false then (rep0, 17) else ((decF b).1, 0)

theorem t56 (q : Req) (b : List UInt8) (hb : b.length ≤ 1000) : PFn Try.prog 56 [reqM q, bsM b] (outM (readF q b)) := by
  refine PFn.of (prs := []) Try.func56 rfl rfl mix (by kernel_rfl) rfl rfl ?_
  simp only [Try.ntmps56, argUpd]
  simp only [↓ru, rv, rl, ry, tyf, iM, bM, bsM, cond_true, cond_false, Nat.reduceLT, Nat.reduceBEq, Nat.reduceAdd, Nat.reduceEqDiff, Nat.reduceMul, Nat.reduceLeDiff, Nat.reduceSub, Nat.reduceDiv, Int.reduceLE, Int.reduceLT, Int.reduceNeg, Int.reduceAdd, Int.reduceSub, Int.reduceMul, Int.reduceToNat, Int.reducePow, Int.reduceEq, ne_eq, reduceIte, repM, objsM, Obj.cells, iD, bsD, bD, reqM, byteD]
  refine acall1_pure (t94 q) rfl rfl ?_
  unfold readF
  cases h1 : reqF q with
  | false =>
    simp only [↓ru, rv, rl, ry, tyf, iM, bM, bsM, cond_true, cond_false, Nat.reduceLT, Nat.reduceBEq, Nat.reduceAdd, Nat.reduceEqDiff, Nat.reduceMul, Nat.reduceLeDiff, Nat.reduceSub, Nat.reduceDiv, Int.reduceLE, Int.reduceLT, Int.reduceNeg, Int.reduceAdd, Int.reduceSub, Int.reduceMul, Int.reduceToNat, Int.reducePow, Int.reduceEq, ne_eq, reduceIte, repM, objsM, Obj.cells, iD, bsD, bD, reqM, byteD, pureEnd_of (fn := Try.f56) (rs := [.cell 4 77, .tmp 5]) (ts := [77, 24]) rfl rfl]
    rfl
  | true =>
  simp only [↓ru, rv, rl, ry, tyf, iM, bM, bsM, cond_true, cond_false, Nat.reduceLT, Nat.reduceBEq, Nat.reduceAdd, Nat.reduceEqDiff, Nat.reduceMul, Nat.reduceLeDiff, Nat.reduceSub, Nat.reduceDiv, Int.reduceLE, Int.reduceLT, Int.reduceNeg, Int.reduceAdd, Int.reduceSub, Int.reduceMul, Int.reduceToNat, Int.reducePow, Int.reduceEq, ne_eq, reduceIte, repM, objsM, Obj.cells, iD, bsD, bD, reqM, byteD]
  refine acall1_pure (t50 b hb) rfl rfl ?_
  obtain ⟨hok, ho, hd⟩ := decF_ok b
  generalize decF b = x at hok ho hd ⊢
  obtain ⟨r, e⟩ := x
  simp only at hok ho hd ⊢
  simp only [↓ru, rv, rl, ry, tyf, iM, bM, bsM, cond_true, cond_false, Nat.reduceLT, Nat.reduceBEq, Nat.reduceAdd, Nat.reduceEqDiff, Nat.reduceMul, Nat.reduceLeDiff, Nat.reduceSub, Nat.reduceDiv, Int.reduceLE, Int.reduceLT, Int.reduceNeg, Int.reduceAdd, Int.reduceSub, Int.reduceMul, Int.reduceToNat, Int.reducePow, Int.reduceEq, ne_eq, reduceIte, repM, objsM, Obj.cells, iD, bsD, bD, reqM, byteD]
  by_cases he : e = 0
  · have de : decide (e = 0) = true := by simpa using he
    simp only [↓ru, rv, rl, ry, tyf, iM, bM, bsM, cond_true, cond_false, Nat.reduceLT, Nat.reduceBEq, Nat.reduceAdd, Nat.reduceEqDiff, Nat.reduceMul, Nat.reduceLeDiff, Nat.reduceSub, Nat.reduceDiv, Int.reduceLE, Int.reduceLT, Int.reduceNeg, Int.reduceAdd, Int.reduceSub, Int.reduceMul, Int.reduceToNat, Int.reducePow, Int.reduceEq, ne_eq, reduceIte, repM, objsM, Obj.cells, iD, bsD, bD, reqM, byteD, de]
    by_cases hf : r.fn = q.fn
    · have df : decide (r.fn = q.fn) = true := by simpa using hf
      simp only [↓ru, rv, rl, ry, tyf, iM, bM, bsM, cond_true, cond_false, Nat.reduceLT, Nat.reduceBEq, Nat.reduceAdd, Nat.reduceEqDiff, Nat.reduceMul, Nat.reduceLeDiff, Nat.reduceSub, Nat.reduceDiv, Int.reduceLE, Int.reduceLT, Int.reduceNeg, Int.reduceAdd, Int.reduceSub, Int.reduceMul, Int.reduceToNat, Int.reducePow, Int.reduceEq, ne_eq, reduceIte, repM, objsM, Obj.cells, iD, bsD, bD, reqM, byteD, df]
      refine acall1_pure (t54 q r hok (by omega) (by omega)) rfl rfl ?_
      cases hm : matchF q r with
      | false =>
        simp only [↓ru, rv, rl, ry, tyf, iM, bM, bsM, cond_true, cond_false, Nat.reduceLT, Nat.reduceBEq, Nat.reduceAdd, Nat.reduceEqDiff, Nat.reduceMul, Nat.reduceLeDiff, Nat.reduceSub, Nat.reduceDiv, Int.reduceLE, Int.reduceLT, Int.reduceNeg, Int.reduceAdd, Int.reduceSub, Int.reduceMul, Int.reduceToNat, Int.reducePow, Int.reduceEq, ne_eq, reduceIte, repM, objsM, Obj.cells, iD, bsD, bD, reqM, byteD, pureEnd_of (fn := Try.f56) (rs := [.cell 4 77, .tmp 5]) (ts := [77, 24]) rfl rfl]
        simp [he, hf, rep0, bsD, iD]
      | true =>
        simp only [↓ru, rv, rl, ry, tyf, iM, bM, bsM, cond_true, cond_false, Nat.reduceLT, Nat.reduceBEq, Nat.reduceAdd, Nat.reduceEqDiff, Nat.reduceMul, Nat.reduceLeDiff, Nat.reduceSub, Nat.reduceDiv, Int.reduceLE, Int.reduceLT, Int.reduceNeg, Int.reduceAdd, Int.reduceSub, Int.reduceMul, Int.reduceToNat, Int.reducePow, Int.reduceEq, ne_eq, reduceIte, repM, objsM, Obj.cells, iD, bsD, bD, reqM, byteD, pureEnd_of (fn := Try.f56) (rs := [.cell 4 77, .tmp 5]) (ts := [77, 24]) rfl rfl]
        simp [he, hf, rep0, bsD, iD]
    · have df : decide (r.fn = q.fn) = false := by simpa using hf
      simp only [↓ru, rv, rl, ry, tyf, iM, bM, bsM, cond_true, cond_false, Nat.reduceLT, Nat.reduceBEq, Nat.reduceAdd, Nat.reduceEqDiff, Nat.reduceMul, Nat.reduceLeDiff, Nat.reduceSub, Nat.reduceDiv, Int.reduceLE, Int.reduceLT, Int.reduceNeg, Int.reduceAdd, Int.reduceSub, Int.reduceMul, Int.reduceToNat, Int.reducePow, Int.reduceEq, ne_eq, reduceIte, repM, objsM, Obj.cells, iD, bsD, bD, reqM, byteD, df, pureEnd_of (fn := Try.f56) (rs := [.cell 4 77, .tmp 5]) (ts := [77, 24]) rfl rfl]
      simp [he, hf, rep0, bsD, iD]
  · have de : decide (e = 0) = false := by simpa using he
    simp only [↓ru, rv, rl, ry, tyf, iM, bM, bsM, cond_true, cond_false, Nat.reduceLT, Nat.reduceBEq, Nat.reduceAdd, Nat.reduceEqDiff, Nat.reduceMul, Nat.reduceLeDiff, Nat.reduceSub, Nat.reduceDiv, Int.reduceLE, Int.reduceLT, Int.reduceNeg, Int.reduceAdd, Int.reduceSub, Int.reduceMul, Int.reduceToNat, Int.reducePow, Int.reduceEq, ne_eq, reduceIte, repM, objsM, Obj.cells, iD, bsD, bD, reqM, byteD, de, pureEnd_of (fn := Try.f56) (rs := [.cell 4 77, .tmp 5]) (ts := [77, 24]) rfl rfl]
    simp [he, rep0, bsD, iD]

theorem rising_all : ∀ (l : List Obj) (last c : Int), risingF l last = true → c ≤ last + 1 → (l.any fun o => decide (o.id < c)) = false
  | [], last, c, h, hc => rfl
  | o :: l, last, c, h, hc => by
    rw [risingF, Bool.and_eq_true, decide_eq_true_eq] at h
    rw [List.any_cons, rising_all l o.id c h.2 (by omega), decide_eq_false (by omega)]
    rfl
theorem any_head {o : Obj} {l : List Obj} {last : Int} (h : risingF (o :: l) last = true) (c : Int) : ((o :: l).any fun o => decide (o.id < c)) = decide (o.id < c) := by
  rw [risingF, Bool.and_eq_true, decide_eq_true_eq] at h
  rw [List.any_cons]
  by_cases hc : o.id < c
  · simp [hc]
  · rw [rising_all l o.id c h.2 (by omega)]
    simp
theorem valid_rising {r : Rep} (h : validF r = true) (h1 : r.ex = 0) (h2 : r.fn = 43) : risingF r.objs (-1) = true := by
  have hd : devF r = true := by
    unfold validF at h
    simp only [h1, h2] at h
    split at h
    · simpa using h
    · cases h
  rw [← devRef_eq, devRefF] at hd
  split at hd
  · cases hd
  · rename_i hn
    cases hr : risingF r.objs (-1) with
    | true => rfl
    | false => exact absurd (.inr (.inr (.inr (.inr (.inl hr))))) hn

theorem t55 (q : Req) (r : Rep) (h : r.OK) (hl : r.objs.length ≤ 1000000) (hd : r.data.length ≤ 1000000) : PFn Try.prog 55 [reqM q, repM r] (bM (matchF q r)) := by
  refine PFn.of (prs := [(10, [(5, 9), (6, 9), (9, 13), (9, 14), (9, 15), (5, 16), (6, 16), (7, 16), (8, 16), (9, 16), (10, 16), (11, 16), (12, 16)]), (15, [])]) Try.func55 rfl rfl mix (by kernel_rfl) rfl rfl ?_
  simp only [Try.ntmps55, argUpd]
  have leaf : ∀ x, matchF q r = x → M.d (D.v (Value.bool x)) = M.d (D.v (Value.bool (matchF q r))) := fun x hb => by rw [hb]
  simp only [↓ru, rv, rl, ry, tyf, iM, bM, bsM, cond_true, cond_false, Nat.reduceLT, Nat.reduceBEq, Nat.reduceAdd, Nat.reduceEqDiff, Nat.reduceMul, Nat.reduceLeDiff, Nat.reduceSub, Nat.reduceDiv, Int.reduceLE, Int.reduceLT, Int.reduceNeg, Int.reduceAdd, Int.reduceSub, Int.reduceMul, Int.reduceToNat, Int.reducePow, Int.reduceEq, ne_eq, reduceIte, repM, objsM, Obj.cells, iD, bsD, bD, reqM, byteD]
  refine acall1_pure (t67 q) rfl rfl ?_
  cases h1 : reqF q with
  | false =>
    simp only [↓ru, rv, rl, ry, tyf, iM, bM, bsM, cond_true, cond_false, Nat.reduceLT, Nat.reduceBEq, Nat.reduceAdd, Nat.reduceEqDiff, Nat.reduceMul, Nat.reduceLeDiff, Nat.reduceSub, Nat.reduceDiv, Int.reduceLE, Int.reduceLT, Int.reduceNeg, Int.reduceAdd, Int.reduceSub, Int.reduceMul, Int.reduceToNat, Int.reducePow, Int.reduceEq, ne_eq, reduceIte, repM, objsM, Obj.cells, iD, bsD, bD, reqM, byteD, pureEnd_of (fn := Try.f55) (rs := [.tmp 4]) (ts := [4]) rfl rfl]
    refine leaf _ ?_; rw [matchF, if_pos (.inl h1)]
  | true =>
  simp only [↓ru, rv, rl, ry, tyf, iM, bM, bsM, cond_true, cond_false, Nat.reduceLT, Nat.reduceBEq, Nat.reduceAdd, Nat.reduceEqDiff, Nat.reduceMul, Nat.reduceLeDiff, Nat.reduceSub, Nat.reduceDiv, Int.reduceLE, Int.reduceLT, Int.reduceNeg, Int.reduceAdd, Int.reduceSub, Int.reduceMul, Int.reduceToNat, Int.reducePow, Int.reduceEq, ne_eq, reduceIte, repM, objsM, Obj.cells, iD, bsD, bD, reqM, byteD]
  refine acall1_pure (t47 r h) rfl rfl ?_
  cases h2 : validF r with
  | false =>
    simp only [↓ru, rv, rl, ry, tyf, iM, bM, bsM, cond_true, cond_false, Nat.reduceLT, Nat.reduceBEq, Nat.reduceAdd, Nat.reduceEqDiff, Nat.reduceMul, Nat.reduceLeDiff, Nat.reduceSub, Nat.reduceDiv, Int.reduceLE, Int.reduceLT, Int.reduceNeg, Int.reduceAdd, Int.reduceSub, Int.reduceMul, Int.reduceToNat, Int.reducePow, Int.reduceEq, ne_eq, reduceIte, repM, objsM, Obj.cells, iD, bsD, bD, reqM, byteD, pureEnd_of (fn := Try.f55) (rs := [.tmp 4]) (ts := [4]) rfl rfl]
    refine leaf _ ?_; rw [matchF, if_pos (.inr (.inl h2))]
  | true =>
  simp only [↓ru, rv, rl, ry, tyf, iM, bM, bsM, cond_true, cond_false, Nat.reduceLT, Nat.reduceBEq, Nat.reduceAdd, Nat.reduceEqDiff, Nat.reduceMul, Nat.reduceLeDiff, Nat.reduceSub, Nat.reduceDiv, Int.reduceLE, Int.reduceLT, Int.reduceNeg, Int.reduceAdd, Int.reduceSub, Int.reduceMul, Int.reduceToNat, Int.reducePow, Int.reduceEq, ne_eq, reduceIte, repM, objsM, Obj.cells, iD, bsD, bD, reqM, byteD]
  by_cases h3 : q.fn = r.fn
  · have d3 : decide (q.fn = r.fn) = true := by simpa using h3
    have hm : matchF q r = if r.ex ≠ 0 ∨ r.fn = 17 then true
      else if r.fn = 43 then decide (r.code = q.code) && !(r.objs.any fun o => decide (o.id < q.obj))
      else if r.fn = 3 ∨ r.fn = 4 then decide ((r.data.length : Int) = 2 * q.qty)
      else if (r.data.length : Int) ≠ (q.qty + 7) / 8 then false
      else decide (q.qty % 8 = 0) || decide (lastB r.data / 2 ^ (q.qty % 8).toNat = 0) := by
      rw [matchF, if_neg (by simp [h1, h2, h3])]
    simp only [↓ru, rv, rl, ry, tyf, iM, bM, bsM, cond_true, cond_false, Nat.reduceLT, Nat.reduceBEq, Nat.reduceAdd, Nat.reduceEqDiff, Nat.reduceMul, Nat.reduceLeDiff, Nat.reduceSub, Nat.reduceDiv, Int.reduceLE, Int.reduceLT, Int.reduceNeg, Int.reduceAdd, Int.reduceSub, Int.reduceMul, Int.reduceToNat, Int.reducePow, Int.reduceEq, ne_eq, reduceIte, repM, objsM, Obj.cells, iD, bsD, bD, reqM, byteD, d3]
    by_cases hx : r.ex = 0
    · have dx : decide (r.ex = 0) = true := by simpa using hx
      simp only [↓ru, rv, rl, ry, tyf, iM, bM, bsM, cond_true, cond_false, Nat.reduceLT, Nat.reduceBEq, Nat.reduceAdd, Nat.reduceEqDiff, Nat.reduceMul, Nat.reduceLeDiff, Nat.reduceSub, Nat.reduceDiv, Int.reduceLE, Int.reduceLT, Int.reduceNeg, Int.reduceAdd, Int.reduceSub, Int.reduceMul, Int.reduceToNat, Int.reducePow, Int.reduceEq, ne_eq, reduceIte, repM, objsM, Obj.cells, iD, bsD, bD, reqM, byteD, dx]
      by_cases h17 : r.fn = 17
      · have a1 : decide (q.fn = 1) = false := by simp; omega
        have a2 : decide (q.fn = 2) = false := by simp; omega
        have a3 : decide (q.fn = 3) = false := by simp; omega
        have a4 : decide (q.fn = 4) = false := by simp; omega
        have a5 : decide (q.fn = 43) = false := by simp; omega
        simp only [↓ru, rv, rl, ry, tyf, iM, bM, bsM, cond_true, cond_false, Nat.reduceLT, Nat.reduceBEq, Nat.reduceAdd, Nat.reduceEqDiff, Nat.reduceMul, Nat.reduceLeDiff, Nat.reduceSub, Nat.reduceDiv, Int.reduceLE, Int.reduceLT, Int.reduceNeg, Int.reduceAdd, Int.reduceSub, Int.reduceMul, Int.reduceToNat, Int.reducePow, Int.reduceEq, ne_eq, reduceIte, repM, objsM, Obj.cells, iD, bsD, bD, reqM, byteD, a1, a2, a3, a4, a5, pureEnd_of (fn := Try.f55) (rs := [.tmp 4]) (ts := [4]) rfl rfl]
        refine leaf _ ?_; rw [hm, if_pos (.inr h17)]
      · rw [if_neg (by simp [hx, h17])] at hm
        by_cases h43 : r.fn = 43
        · have a1 : decide (q.fn = 1) = false := by simp; omega
          have a2 : decide (q.fn = 2) = false := by simp; omega
          have a3 : decide (q.fn = 3) = false := by simp; omega
          have a4 : decide (q.fn = 4) = false := by simp; omega
          have a5 : decide (q.fn = 43) = true := by simp; omega
          rw [if_pos h43] at hm
          simp only [↓ru, rv, rl, ry, tyf, iM, bM, bsM, cond_true, cond_false, Nat.reduceLT, Nat.reduceBEq, Nat.reduceAdd, Nat.reduceEqDiff, Nat.reduceMul, Nat.reduceLeDiff, Nat.reduceSub, Nat.reduceDiv, Int.reduceLE, Int.reduceLT, Int.reduceNeg, Int.reduceAdd, Int.reduceSub, Int.reduceMul, Int.reduceToNat, Int.reducePow, Int.reduceEq, ne_eq, reduceIte, repM, objsM, Obj.cells, iD, bsD, bD, reqM, byteD, a1, a2, a3, a4, a5]
          by_cases hc : r.code = q.code
          · have dc : decide (r.code = q.code) = true := by simpa using hc
            have hri := valid_rising h2 hx h43
            simp only [↓ru, rv, rl, ry, tyf, iM, bM, bsM, cond_true, cond_false, Nat.reduceLT, Nat.reduceBEq, Nat.reduceAdd, Nat.reduceEqDiff, Nat.reduceMul, Nat.reduceLeDiff, Nat.reduceSub, Nat.reduceDiv, Int.reduceLE, Int.reduceLT, Int.reduceNeg, Int.reduceAdd, Int.reduceSub, Int.reduceMul, Int.reduceToNat, Int.reducePow, Int.reduceEq, ne_eq, reduceIte, repM, objsM, Obj.cells, iD, bsD, bD, reqM, byteD, dc]
            cases ho : r.objs with
            | nil =>
              simp only [↓ru, rv, rl, ry, tyf, iM, bM, bsM, cond_true, cond_false, Nat.reduceLT, Nat.reduceBEq, Nat.reduceAdd, Nat.reduceEqDiff, Nat.reduceMul, Nat.reduceLeDiff, Nat.reduceSub, Nat.reduceDiv, Int.reduceLE, Int.reduceLT, Int.reduceNeg, Int.reduceAdd, Int.reduceSub, Int.reduceMul, Int.reduceToNat, Int.reducePow, Int.reduceEq, ne_eq, reduceIte, repM, objsM, Obj.cells, iD, bsD, bD, reqM, byteD, ho, pureEnd_of (fn := Try.f55) (rs := [.tmp 4]) (ts := [4]) rfl rfl]
              refine leaf _ ?_; rw [hm, dc, ho]; rfl
            | cons o l =>
              have dn : decide (((l.length + 1 : Nat) : Int) = 0) = false := by simp; omega
              simp only [↓ru, rv, rl, ry, tyf, iM, bM, bsM, cond_true, cond_false, Nat.reduceLT, Nat.reduceBEq, Nat.reduceAdd, Nat.reduceEqDiff, Nat.reduceMul, Nat.reduceLeDiff, Nat.reduceSub, Nat.reduceDiv, Int.reduceLE, Int.reduceLT, Int.reduceNeg, Int.reduceAdd, Int.reduceSub, Int.reduceMul, Int.reduceToNat, Int.reducePow, Int.reduceEq, ne_eq, reduceIte, repM, objsM, Obj.cells, iD, bsD, bD, reqM, byteD, ho, dn, pureEnd_of (fn := Try.f55) (rs := [.tmp 4]) (ts := [4]) rfl rfl]
              refine leaf _ ?_; rw [ho] at hri; rw [hm, dc, ho, any_head hri, Bool.true_and, Bool.eq_iff_iff]; simp
          · have dc : decide (r.code = q.code) = false := by simpa using hc
            simp only [↓ru, rv, rl, ry, tyf, iM, bM, bsM, cond_true, cond_false, Nat.reduceLT, Nat.reduceBEq, Nat.reduceAdd, Nat.reduceEqDiff, Nat.reduceMul, Nat.reduceLeDiff, Nat.reduceSub, Nat.reduceDiv, Int.reduceLE, Int.reduceLT, Int.reduceNeg, Int.reduceAdd, Int.reduceSub, Int.reduceMul, Int.reduceToNat, Int.reducePow, Int.reduceEq, ne_eq, reduceIte, repM, objsM, Obj.cells, iD, bsD, bD, reqM, byteD, dc, pureEnd_of (fn := Try.f55) (rs := [.tmp 4]) (ts := [4]) rfl rfl]
            refine leaf _ ?_; rw [hm, dc, Bool.false_and]
        · rw [if_neg h43] at hm
          have hfn := valid_tab h2 h17 h43
          have hq := reqF_qty h1 (by omega)
          by_cases h34 : r.fn = 3 ∨ r.fn = 4
          · rw [if_pos h34] at hm
            have a1 : decide (q.fn = 1) = false := by simp; omega
            have a2 : decide (q.fn = 2) = false := by simp; omega
            simp only [↓ru, rv, rl, ry, tyf, iM, bM, bsM, cond_true, cond_false, Nat.reduceLT, Nat.reduceBEq, Nat.reduceAdd, Nat.reduceEqDiff, Nat.reduceMul, Nat.reduceLeDiff, Nat.reduceSub, Nat.reduceDiv, Int.reduceLE, Int.reduceLT, Int.reduceNeg, Int.reduceAdd, Int.reduceSub, Int.reduceMul, Int.reduceToNat, Int.reducePow, Int.reduceEq, ne_eq, reduceIte, repM, objsM, Obj.cells, iD, bsD, bD, reqM, byteD, a1, a2]
            repeat' ((first | (refine fork_split (fun _h => ?_) (fun _h => ?_)) | (refine gfork_split (fun _h => ?_) (fun _h => ?_)) | (refine dfork_split (fun _h => ?_) (fun _h => ?_))) <;> (try (simp only [↓ru, rv, rl, ry, tyf, iM, bM, bsM, cond_true, cond_false, Nat.reduceLT, Nat.reduceBEq, Nat.reduceAdd, Nat.reduceEqDiff, Nat.reduceMul, Nat.reduceLeDiff, Nat.reduceSub, Nat.reduceDiv, Int.reduceLE, Int.reduceLT, Int.reduceNeg, Int.reduceAdd, Int.reduceSub, Int.reduceMul, Int.reduceToNat, Int.reducePow, Int.reduceEq, ne_eq, reduceIte, repM, objsM, Obj.cells, iD, bsD, bD, reqM, byteD, pureEnd_of (fn := Try.f55) (rs := [.tmp 4]) (ts := [4]) rfl rfl, *])))
            all_goals (try simp only [Bool.not_eq_true', Bool.not_eq_false', decide_eq_true_eq, decide_eq_false_iff_not] at *)
            all_goals (try (exfalso; omega))
            all_goals simp (disch := omega) only [wrap_i64, wrap_u8, wrap_u16, wrap_u64]
            all_goals (refine leaf _ ?_; rw [hm])
          · rw [if_neg h34] at hm
            have htd : (q.qty + 7).tdiv 8 = (q.qty + 7) / 8 := Int.tdiv_eq_ediv_of_nonneg (by omega)
            have htm : q.qty.tmod 8 = q.qty % 8 := Int.tmod_eq_emod_of_nonneg (by omega)
            have a : decide (q.fn = 1) = true ∨ (decide (q.fn = 1) = false ∧ decide (q.fn = 2) = true) := by simp; omega
            rcases a with a1 | ⟨a1, a2⟩
            all_goals (first | simp only [↓ru, rv, rl, ry, tyf, iM, bM, bsM, cond_true, cond_false, Nat.reduceLT, Nat.reduceBEq, Nat.reduceAdd, Nat.reduceEqDiff, Nat.reduceMul, Nat.reduceLeDiff, Nat.reduceSub, Nat.reduceDiv, Int.reduceLE, Int.reduceLT, Int.reduceNeg, Int.reduceAdd, Int.reduceSub, Int.reduceMul, Int.reduceToNat, Int.reducePow, Int.reduceEq, ne_eq, reduceIte, repM, objsM, Obj.cells, iD, bsD, bD, reqM, byteD, a1, a2] | simp only [↓ru, rv, rl, ry, tyf, iM, bM, bsM, cond_true, cond_false, Nat.reduceLT, Nat.reduceBEq, Nat.reduceAdd, Nat.reduceEqDiff, Nat.reduceMul, Nat.reduceLeDiff, Nat.reduceSub, Nat.reduceDiv, Int.reduceLE, Int.reduceLT, Int.reduceNeg, Int.reduceAdd, Int.reduceSub, Int.reduceMul, Int.reduceToNat, Int.reducePow, Int.reduceEq, ne_eq, reduceIte, repM, objsM, Obj.cells, iD, bsD, bD, reqM, byteD, a1])
            all_goals simp (disch := omega) only [wrap_i64, wrap_u8, wrap_u16, wrap_u64]
            all_goals rw [htd]
            all_goals (try simp (disch := omega) only [wrap_i64, wrap_u8, wrap_u16, wrap_u64])
            all_goals (
              by_cases hlen : (r.data.length : Int) = (q.qty + 7) / 8
              · have dl : decide ((r.data.length : Int) = (q.qty + 7) / 8) = true := by simpa using hlen
                rw [if_neg (by simp [hlen])] at hm
                simp only [↓ru, rv, rl, ry, tyf, iM, bM, bsM, cond_true, cond_false, Nat.reduceLT, Nat.reduceBEq, Nat.reduceAdd, Nat.reduceEqDiff, Nat.reduceMul, Nat.reduceLeDiff, Nat.reduceSub, Nat.reduceDiv, Int.reduceLE, Int.reduceLT, Int.reduceNeg, Int.reduceAdd, Int.reduceSub, Int.reduceMul, Int.reduceToNat, Int.reducePow, Int.reduceEq, ne_eq, reduceIte, repM, objsM, Obj.cells, iD, bsD, bD, reqM, byteD, dl, htm]
                by_cases hu : q.qty % 8 = 0
                · have du : decide (q.qty % 8 = 0) = true := by simpa using hu
                  simp only [↓ru, rv, rl, ry, tyf, iM, bM, bsM, cond_true, cond_false, Nat.reduceLT, Nat.reduceBEq, Nat.reduceAdd, Nat.reduceEqDiff, Nat.reduceMul, Nat.reduceLeDiff, Nat.reduceSub, Nat.reduceDiv, Int.reduceLE, Int.reduceLT, Int.reduceNeg, Int.reduceAdd, Int.reduceSub, Int.reduceMul, Int.reduceToNat, Int.reducePow, Int.reduceEq, ne_eq, reduceIte, repM, objsM, Obj.cells, iD, bsD, bD, reqM, byteD, du, pureEnd_of (fn := Try.f55) (rs := [.tmp 4]) (ts := [4]) rfl rfl]
                  refine leaf _ ?_; rw [hm, du, Bool.true_or]
                · have du : decide (q.qty % 8 = 0) = false := by simpa using hu
                  simp only [↓ru, rv, rl, ry, tyf, iM, bM, bsM, cond_true, cond_false, Nat.reduceLT, Nat.reduceBEq, Nat.reduceAdd, Nat.reduceEqDiff, Nat.reduceMul, Nat.reduceLeDiff, Nat.reduceSub, Nat.reduceDiv, Int.reduceLE, Int.reduceLT, Int.reduceNeg, Int.reduceAdd, Int.reduceSub, Int.reduceMul, Int.reduceToNat, Int.reducePow, Int.reduceEq, ne_eq, reduceIte, repM, objsM, Obj.cells, iD, bsD, bD, reqM, byteD, du]
                  simp (disch := omega) only [wrap_i64, wrap_u8, wrap_u16, wrap_u64]
                  obtain ⟨x, hx2⟩ := get_of_lt (l := r.data) (i := r.data.length - 1) (by omega)
                  rw [show (r.data.length : Int) - 1 = ((r.data.length - 1 : Nat) : Int) by omega]
                  have hs0 : (0 ≤ q.qty % 8) = True := by simp; omega
                  have hs1 : (q.qty % 8 ≤ 8) = True := by simp; omega
                  simp only [↓ru, rv, rl, ry, tyf, iM, bM, bsM, cond_true, cond_false, Nat.reduceLT, Nat.reduceBEq, Nat.reduceAdd, Nat.reduceEqDiff, Nat.reduceMul, Nat.reduceLeDiff, Nat.reduceSub, Nat.reduceDiv, Int.reduceLE, Int.reduceLT, Int.reduceNeg, Int.reduceAdd, Int.reduceSub, Int.reduceMul, Int.reduceToNat, Int.reducePow, Int.reduceEq, ne_eq, reduceIte, repM, objsM, Obj.cells, iD, bsD, bD, reqM, byteD, hx2, htm]
                  simp only [↓ru, rv, rl, ry, tyf, iM, bM, bsM, cond_true, cond_false, Nat.reduceLT, Nat.reduceBEq, Nat.reduceAdd, Nat.reduceEqDiff, Nat.reduceMul, Nat.reduceLeDiff, Nat.reduceSub, Nat.reduceDiv, Int.reduceLE, Int.reduceLT, Int.reduceNeg, Int.reduceAdd, Int.reduceSub, Int.reduceMul, Int.reduceToNat, Int.reducePow, Int.reduceEq, ne_eq, reduceIte, repM, objsM, Obj.cells, iD, bsD, bD, reqM, byteD, hs0, hs1, pureEnd_of (fn := Try.f55) (rs := [.tmp 4]) (ts := [4]) rfl rfl]
                  refine leaf _ ?_
                  rw [hm, du, Bool.false_or, lastB, hx2]
                  rfl
              · have dl : decide ((r.data.length : Int) = (q.qty + 7) / 8) = false := by simpa using hlen
                rw [if_pos hlen] at hm
                simp only [↓ru, rv, rl, ry, tyf, iM, bM, bsM, cond_true, cond_false, Nat.reduceLT, Nat.reduceBEq, Nat.reduceAdd, Nat.reduceEqDiff, Nat.reduceMul, Nat.reduceLeDiff, Nat.reduceSub, Nat.reduceDiv, Int.reduceLE, Int.reduceLT, Int.reduceNeg, Int.reduceAdd, Int.reduceSub, Int.reduceMul, Int.reduceToNat, Int.reducePow, Int.reduceEq, ne_eq, reduceIte, repM, objsM, Obj.cells, iD, bsD, bD, reqM, byteD, dl, pureEnd_of (fn := Try.f55) (rs := [.tmp 4]) (ts := [4]) rfl rfl]
                refine leaf _ ?_; rw [hm])
    · have dx : decide (r.ex = 0) = false := by simpa using hx
      simp only [↓ru, rv, rl, ry, tyf, iM, bM, bsM, cond_true, cond_false, Nat.reduceLT, Nat.reduceBEq, Nat.reduceAdd, Nat.reduceEqDiff, Nat.reduceMul, Nat.reduceLeDiff, Nat.reduceSub, Nat.reduceDiv, Int.reduceLE, Int.reduceLT, Int.reduceNeg, Int.reduceAdd, Int.reduceSub, Int.reduceMul, Int.reduceToNat, Int.reducePow, Int.reduceEq, ne_eq, reduceIte, repM, objsM, Obj.cells, iD, bsD, bD, reqM, byteD, dx, pureEnd_of (fn := Try.f55) (rs := [.tmp 4]) (ts := [4]) rfl rfl]
      refine leaf _ ?_; rw [hm, if_pos (.inl hx)]
  · have d3 : decide (q.fn = r.fn) = false := by simpa using h3
    simp only [↓ru, rv, rl, ry, tyf, iM, bM, bsM, cond_true, cond_false, Nat.reduceLT, Nat.reduceBEq, Nat.reduceAdd, Nat.reduceEqDiff, Nat.reduceMul, Nat.reduceLeDiff, Nat.reduceSub, Nat.reduceDiv, Int.reduceLE, Int.reduceLT, Int.reduceNeg, Int.reduceAdd, Int.reduceSub, Int.reduceMul, Int.reduceToNat, Int.reducePow, Int.reduceEq, ne_eq, reduceIte, repM, objsM, Obj.cells, iD, bsD, bD, reqM, byteD, d3, pureEnd_of (fn := Try.f55) (rs := [.tmp 4]) (ts := [4]) rfl rfl]
    refine leaf _ ?_; rw [matchF, if_pos (.inr (.inr h3))]

theorem t57 (q : Req) (b : List UInt8) (hb : b.length ≤ 1000) : PFn Try.prog 57 [reqM q, bsM b] (outM (readF q b)) := by
  refine PFn.of (prs := []) Try.func57 rfl rfl mix (by kernel_rfl) rfl rfl ?_
  simp only [Try.ntmps57, argUpd]
  simp only [↓ru, rv, rl, ry, tyf, iM, bM, bsM, cond_true, cond_false, Nat.reduceLT, Nat.reduceBEq, Nat.reduceAdd, Nat.reduceEqDiff, Nat.reduceMul, Nat.reduceLeDiff, Nat.reduceSub, Nat.reduceDiv, Int.reduceLE, Int.reduceLT, Int.reduceNeg, Int.reduceAdd, Int.reduceSub, Int.reduceMul, Int.reduceToNat, Int.reducePow, Int.reduceEq, ne_eq, reduceIte, repM, objsM, Obj.cells, iD, bsD, bD, reqM, byteD]
  refine acall1_pure (t67 q) rfl rfl ?_
  unfold readF
  cases h1 : reqF q with
  | false =>
    simp only [↓ru, rv, rl, ry, tyf, iM, bM, bsM, cond_true, cond_false, Nat.reduceLT, Nat.reduceBEq, Nat.reduceAdd, Nat.reduceEqDiff, Nat.reduceMul, Nat.reduceLeDiff, Nat.reduceSub, Nat.reduceDiv, Int.reduceLE, Int.reduceLT, Int.reduceNeg, Int.reduceAdd, Int.reduceSub, Int.reduceMul, Int.reduceToNat, Int.reducePow, Int.reduceEq, ne_eq, reduceIte, repM, objsM, Obj.cells, iD, bsD, bD, reqM, byteD, pureEnd_of (fn := Try.f57) (rs := [.cell 4 77, .tmp 5]) (ts := [77, 24]) rfl rfl]
    rfl
  | true =>
  simp only [↓ru, rv, rl, ry, tyf, iM, bM, bsM, cond_true, cond_false, Nat.reduceLT, Nat.reduceBEq, Nat.reduceAdd, Nat.reduceEqDiff, Nat.reduceMul, Nat.reduceLeDiff, Nat.reduceSub, Nat.reduceDiv, Int.reduceLE, Int.reduceLT, Int.reduceNeg, Int.reduceAdd, Int.reduceSub, Int.reduceMul, Int.reduceToNat, Int.reducePow, Int.reduceEq, ne_eq, reduceIte, repM, objsM, Obj.cells, iD, bsD, bD, reqM, byteD]
  refine acall1_pure (t52 b hb) rfl rfl ?_
  obtain ⟨hok, ho, hd⟩ := decF_ok b
  generalize decF b = x at hok ho hd ⊢
  obtain ⟨r, e⟩ := x
  simp only at hok ho hd ⊢
  simp only [↓ru, rv, rl, ry, tyf, iM, bM, bsM, cond_true, cond_false, Nat.reduceLT, Nat.reduceBEq, Nat.reduceAdd, Nat.reduceEqDiff, Nat.reduceMul, Nat.reduceLeDiff, Nat.reduceSub, Nat.reduceDiv, Int.reduceLE, Int.reduceLT, Int.reduceNeg, Int.reduceAdd, Int.reduceSub, Int.reduceMul, Int.reduceToNat, Int.reducePow, Int.reduceEq, ne_eq, reduceIte, repM, objsM, Obj.cells, iD, bsD, bD, reqM, byteD]
  by_cases he : e = 0
  · have de : decide (e = 0) = true := by simpa using he
    simp only [↓ru, rv, rl, ry, tyf, iM, bM, bsM, cond_true, cond_false, Nat.reduceLT, Nat.reduceBEq, Nat.reduceAdd, Nat.reduceEqDiff, Nat.reduceMul, Nat.reduceLeDiff, Nat.reduceSub, Nat.reduceDiv, Int.reduceLE, Int.reduceLT, Int.reduceNeg, Int.reduceAdd, Int.reduceSub, Int.reduceMul, Int.reduceToNat, Int.reducePow, Int.reduceEq, ne_eq, reduceIte, repM, objsM, Obj.cells, iD, bsD, bD, reqM, byteD, de]
    by_cases hf : r.fn = q.fn
    · have df : decide (r.fn = q.fn) = true := by simpa using hf
      simp only [↓ru, rv, rl, ry, tyf, iM, bM, bsM, cond_true, cond_false, Nat.reduceLT, Nat.reduceBEq, Nat.reduceAdd, Nat.reduceEqDiff, Nat.reduceMul, Nat.reduceLeDiff, Nat.reduceSub, Nat.reduceDiv, Int.reduceLE, Int.reduceLT, Int.reduceNeg, Int.reduceAdd, Int.reduceSub, Int.reduceMul, Int.reduceToNat, Int.reducePow, Int.reduceEq, ne_eq, reduceIte, repM, objsM, Obj.cells, iD, bsD, bD, reqM, byteD, df]
      refine acall1_pure (t55 q r hok (by omega) (by omega)) rfl rfl ?_
      cases hm : matchF q r with
      | false =>
        simp only [↓ru, rv, rl, ry, tyf, iM, bM, bsM, cond_true, cond_false, Nat.reduceLT, Nat.reduceBEq, Nat.reduceAdd, Nat.reduceEqDiff, Nat.reduceMul, Nat.reduceLeDiff, Nat.reduceSub, Nat.reduceDiv, Int.reduceLE, Int.reduceLT, Int.reduceNeg, Int.reduceAdd, Int.reduceSub, Int.reduceMul, Int.reduceToNat, Int.reducePow, Int.reduceEq, ne_eq, reduceIte, repM, objsM, Obj.cells, iD, bsD, bD, reqM, byteD, pureEnd_of (fn := Try.f57) (rs := [.cell 4 77, .tmp 5]) (ts := [77, 24]) rfl rfl]
        simp [he, hf, rep0, bsD, iD]
      | true =>
        simp only [↓ru, rv, rl, ry, tyf, iM, bM, bsM, cond_true, cond_false, Nat.reduceLT, Nat.reduceBEq, Nat.reduceAdd, Nat.reduceEqDiff, Nat.reduceMul, Nat.reduceLeDiff, Nat.reduceSub, Nat.reduceDiv, Int.reduceLE, Int.reduceLT, Int.reduceNeg, Int.reduceAdd, Int.reduceSub, Int.reduceMul, Int.reduceToNat, Int.reducePow, Int.reduceEq, ne_eq, reduceIte, repM, objsM, Obj.cells, iD, bsD, bD, reqM, byteD, pureEnd_of (fn := Try.f57) (rs := [.cell 4 77, .tmp 5]) (ts := [77, 24]) rfl rfl]
        simp [he, hf, rep0, bsD, iD]
    · have df : decide (r.fn = q.fn) = false := by simpa using hf
      simp only [↓ru, rv, rl, ry, tyf, iM, bM, bsM, cond_true, cond_false, Nat.reduceLT, Nat.reduceBEq, Nat.reduceAdd, Nat.reduceEqDiff, Nat.reduceMul, Nat.reduceLeDiff, Nat.reduceSub, Nat.reduceDiv, Int.reduceLE, Int.reduceLT, Int.reduceNeg, Int.reduceAdd, Int.reduceSub, Int.reduceMul, Int.reduceToNat, Int.reducePow, Int.reduceEq, ne_eq, reduceIte, repM, objsM, Obj.cells, iD, bsD, bD, reqM, byteD, df, pureEnd_of (fn := Try.f57) (rs := [.cell 4 77, .tmp 5]) (ts := [77, 24]) rfl rfl]
      simp [he, hf, rep0, bsD, iD]
  · have de : decide (e = 0) = false := by simpa using he
    simp only [↓ru, rv, rl, ry, tyf, iM, bM, bsM, cond_true, cond_false, Nat.reduceLT, Nat.reduceBEq, Nat.reduceAdd, Nat.reduceEqDiff, Nat.reduceMul, Nat.reduceLeDiff, Nat.reduceSub, Nat.reduceDiv, Int.reduceLE, Int.reduceLT, Int.reduceNeg, Int.reduceAdd, Int.reduceSub, Int.reduceMul, Int.reduceToNat, Int.reducePow, Int.reduceEq, ne_eq, reduceIte, repM, objsM, Obj.cells, iD, bsD, bD, reqM, byteD, de, pureEnd_of (fn := Try.f57) (rs := [.cell 4 77, .tmp 5]) (ts := [77, 24]) rfl rfl]
    simp [he, rep0, bsD, iD]


end Go.R2

import Derived.Test.YtalbgijagdmdcaaOR6
set_option linter.all false
open Go.Proofs Go.Abs Go.FaR2
namespace Go.R2
-- rules: repM, objsM, Obj.cells, iD, bsD, bD, reqM, byteD
set_option maxHeartbeats 4000000
set_option maxRecDepth 10000

theorem hk' {K : KT} {m : M} {B : Bx} {n k : Nat} (h : ∀ j, K m B (n + j)) (hn : n ≤ k) : K m B k := by
  have := h (k - n)
  rwa [Nat.add_sub_cancel' hn] at this
theorem t96 (o : Obj) (q : Req) {p : Nat} {B : Bx} {n : Nat} {K : KT} (hp : Bx.get B p = some (.st [iM q.fn, iM q.addr, iM q.qty, iM q.code, iM q.obj])) (hk : ∀ j, K (bM (decide (o.id < q.obj))) B (n + j)) :
    AFn Try.prog 96 [.agg [iM o.id, bsM o.val], .ptr p 0] B n K := by
  refine AFn.intro (prs := []) Try.func96 rfl rfl mix (by kernel_rfl) rfl (fun hB => ?_)
  simp only [Try.ntmps96, argUpd]
  have hne : ∀ k, (n + k = p) = False := fun k => by
    have := hB p _ hp
    apply propext; constructor
    · intro h; omega
    · intro h; exact h.elim
  simp only [↓ru, rv, rl, ry, tyf, iM, bM, bsM, cond_true, cond_false, Nat.reduceLT, Nat.reduceBEq, Nat.reduceAdd, Nat.reduceEqDiff, Nat.reduceMul, Nat.reduceLeDiff, Nat.reduceSub, Nat.reduceDiv, Int.reduceLE, Int.reduceLT, Int.reduceNeg, Int.reduceAdd, Int.reduceSub, Int.reduceMul, Int.reduceToNat, Int.reducePow, Int.reduceEq, ne_eq, reduceIte, repM, objsM, Obj.cells, iD, bsD, bD, reqM, byteD, hp, hne, aEnd_of (fn := Try.f96) (rs := [.tmp 3]) rfl]
  exact aFin_one (fun p x h => hB p x h) (hk' hk (by omega))

/-- The place of the first object that is as asked. -/
def idxF (f : Obj → Bool) : List Obj → Nat → Int
  | [], _ => -1
  | o :: l, i => if f o then i else idxF f l (i + 1)

theorem t118 (l : List Obj) (hl : l.length ≤ 1000000) (k : FuncId) (fs cs : List M) (f : Obj → Bool) {B : Bx} {n : Nat} {K : KT}
    (hf : ∀ o n (K : KT), (∀ j, K (bM (f o)) B (n + j)) → AFn Try.prog k (fs ++ [.agg [iM o.id, bsM o.val]] ++ cs) B n K) (hk : ∀ j, K (iM (idxF f l 0)) B (n + j)) :
    AFn Try.prog 118 [objsM l, .fn (.func k) fs cs] B n K := by
  refine AFn.intro (prs := []) Try.func118 rfl rfl mix (by kernel_rfl) rfl (fun hB => ?_)
  simp only [Try.ntmps118, argUpd]
  simp only [↓ru, rv, rl, ry, tyf, iM, bM, bsM, cond_true, cond_false, Nat.reduceLT, Nat.reduceBEq, Nat.reduceAdd, Nat.reduceEqDiff, Nat.reduceMul, Nat.reduceLeDiff, Nat.reduceSub, Nat.reduceDiv, Int.reduceLE, Int.reduceLT, Int.reduceNeg, Int.reduceAdd, Int.reduceSub, Int.reduceMul, Int.reduceToNat, Int.reducePow, Int.reduceEq, ne_eq, reduceIte, repM, objsM, Obj.cells, iD, bsD, bD, reqM, byteD]
  refine aloop_lv (fun s : Nat => [(0, objsM l), (1, .fn (.func k) fs cs), (7, iM l.length), (8, iM s)]) (fun _ => B) (fun s => s ≤ l.length ∧ idxF f (l.drop s) s = idxF f l 0) (fun s => l.length - s) n 0 ?_ rfl ⟨by omega, by simp⟩ (by omega) ?_
  · simp only [↓ru, rv, rl, ry, tyf, iM, bM, bsM, cond_true, cond_false, Nat.reduceLT, Nat.reduceBEq, Nat.reduceAdd, Nat.reduceEqDiff, Nat.reduceMul, Nat.reduceLeDiff, Nat.reduceSub, Nat.reduceDiv, Int.reduceLE, Int.reduceLT, Int.reduceNeg, Int.reduceAdd, Int.reduceSub, Int.reduceMul, Int.reduceToNat, Int.reducePow, Int.reduceEq, ne_eq, reduceIte, repM, objsM, Obj.cells, iD, bsD, bD, reqM, byteD]
  · intro i e0 m ⟨hi, hr⟩
    simp only [↓ru, rv, rl, ry, tyf, iM, bM, bsM, cond_true, cond_false, Nat.reduceLT, Nat.reduceBEq, Nat.reduceAdd, Nat.reduceEqDiff, Nat.reduceMul, Nat.reduceLeDiff, Nat.reduceSub, Nat.reduceDiv, Int.reduceLE, Int.reduceLT, Int.reduceNeg, Int.reduceAdd, Int.reduceSub, Int.reduceMul, Int.reduceToNat, Int.reducePow, Int.reduceEq, ne_eq, reduceIte, repM, objsM, Obj.cells, iD, bsD, bD, reqM, byteD]
    refine fork_split (fun h1 => ?_) (fun h1 => ?_)
    · have h1' := of_decide_eq_true h1
      obtain ⟨o, ho⟩ := get_of_lt (l := l) (i := i) (by omega)
      rw [List.drop_of_get ho, idxF] at hr
      simp only [↓ru, rv, rl, ry, tyf, iM, bM, bsM, cond_true, cond_false, Nat.reduceLT, Nat.reduceBEq, Nat.reduceAdd, Nat.reduceEqDiff, Nat.reduceMul, Nat.reduceLeDiff, Nat.reduceSub, Nat.reduceDiv, Int.reduceLE, Int.reduceLT, Int.reduceNeg, Int.reduceAdd, Int.reduceSub, Int.reduceMul, Int.reduceToNat, Int.reducePow, Int.reduceEq, ne_eq, reduceIte, repM, objsM, Obj.cells, iD, bsD, bD, reqM, byteD, ho]
      refine acall1_inl (hf o _ _ fun j => ?_)
      simp only [↓ru, rv, rl, ry, tyf, iM, bM, bsM, cond_true, cond_false, Nat.reduceLT, Nat.reduceBEq, Nat.reduceAdd, Nat.reduceEqDiff, Nat.reduceMul, Nat.reduceLeDiff, Nat.reduceSub, Nat.reduceDiv, Int.reduceLE, Int.reduceLT, Int.reduceNeg, Int.reduceAdd, Int.reduceSub, Int.reduceMul, Int.reduceToNat, Int.reducePow, Int.reduceEq, ne_eq, reduceIte, repM, objsM, Obj.cells, iD, bsD, bD, reqM, byteD]
      refine fork_split (fun h2 => ?_) (fun h2 => ?_)
      · simp only [↓ru, rv, rl, ry, tyf, iM, bM, bsM, cond_true, cond_false, Nat.reduceLT, Nat.reduceBEq, Nat.reduceAdd, Nat.reduceEqDiff, Nat.reduceMul, Nat.reduceLeDiff, Nat.reduceSub, Nat.reduceDiv, Int.reduceLE, Int.reduceLT, Int.reduceNeg, Int.reduceAdd, Int.reduceSub, Int.reduceMul, Int.reduceToNat, Int.reducePow, Int.reduceEq, ne_eq, reduceIte, repM, objsM, Obj.cells, iD, bsD, bD, reqM, byteD, aEnd_of (fn := Try.f118) (rs := [.tmp 4]) rfl]
        rw [if_pos h2] at hr
        rw [← hr] at hk
        exact aFin_same (hk' hk (by omega))
      · simp only [↓ru, rv, rl, ry, tyf, iM, bM, bsM, cond_true, cond_false, Nat.reduceLT, Nat.reduceBEq, Nat.reduceAdd, Nat.reduceEqDiff, Nat.reduceMul, Nat.reduceLeDiff, Nat.reduceSub, Nat.reduceDiv, Int.reduceLE, Int.reduceLT, Int.reduceNeg, Int.reduceAdd, Int.reduceSub, Int.reduceMul, Int.reduceToNat, Int.reducePow, Int.reduceEq, ne_eq, reduceIte, repM, objsM, Obj.cells, iD, bsD, bD, reqM, byteD]
        simp (disch := omega) only [wrap_i64, wrap_u8, wrap_u16, wrap_u64]
        rw [h2, if_neg (by simp)] at hr
        refine ⟨i + 1, _, _, _, Wk.refl, ⟨?_, rfl, ⟨by omega, hr⟩, by omega⟩, by simp only; omega⟩
        simp only [↓ru, rv, rl, ry, tyf, iM, bM, bsM, cond_true, cond_false, Nat.reduceLT, Nat.reduceBEq, Nat.reduceAdd, Nat.reduceEqDiff, Nat.reduceMul, Nat.reduceLeDiff, Nat.reduceSub, Nat.reduceDiv, Int.reduceLE, Int.reduceLT, Int.reduceNeg, Int.reduceAdd, Int.reduceSub, Int.reduceMul, Int.reduceToNat, Int.reducePow, Int.reduceEq, ne_eq, reduceIte, repM, objsM, Obj.cells, iD, bsD, bD, reqM, byteD] <;> simp
    · have h1' := of_decide_eq_false h1
      obtain rfl : i = l.length := by omega
      rw [List.drop_length, idxF] at hr
      simp only [↓ru, rv, rl, ry, tyf, iM, bM, bsM, cond_true, cond_false, Nat.reduceLT, Nat.reduceBEq, Nat.reduceAdd, Nat.reduceEqDiff, Nat.reduceMul, Nat.reduceLeDiff, Nat.reduceSub, Nat.reduceDiv, Int.reduceLE, Int.reduceLT, Int.reduceNeg, Int.reduceAdd, Int.reduceSub, Int.reduceMul, Int.reduceToNat, Int.reducePow, Int.reduceEq, ne_eq, reduceIte, repM, objsM, Obj.cells, iD, bsD, bD, reqM, byteD, aEnd_of (fn := Try.f118) (rs := [.tmp 4]) rfl]
      refine aFin_same ?_
      rw [← hr] at hk
      exact hk' hk (by omega)
theorem idxF_neg (f : Obj → Bool) : ∀ (l : List Obj) (i : Nat), decide (0 ≤ idxF f l i) = l.any f
  | [], i => by simp [idxF]
  | o :: l, i => by
    rw [idxF]
    split
    · rename_i h; simp [h]
    · rename_i h; rw [idxF_neg f l (i + 1)]; simp [h]
theorem t95 (l : List Obj) (hl : l.length ≤ 1000000) (k : FuncId) (fs cs : List M) (f : Obj → Bool) {B : Bx} {n : Nat} {K : KT}
    (hf : ∀ o n (K : KT), (∀ j, K (bM (f o)) B (n + j)) → AFn Try.prog k (fs ++ [.agg [iM o.id, bsM o.val]] ++ cs) B n K) (hk : ∀ j, K (bM (l.any f)) B (n + j)) :
    AFn Try.prog 95 [objsM l, .fn (.func k) fs cs] B n K := by
  refine AFn.intro (prs := []) Try.func95 rfl rfl mix (by kernel_rfl) rfl (fun hB => ?_)
  simp only [Try.ntmps95, argUpd]
  simp only [↓ru, rv, rl, ry, tyf, iM, bM, bsM, cond_true, cond_false, Nat.reduceLT, Nat.reduceBEq, Nat.reduceAdd, Nat.reduceEqDiff, Nat.reduceMul, Nat.reduceLeDiff, Nat.reduceSub, Nat.reduceDiv, Int.reduceLE, Int.reduceLT, Int.reduceNeg, Int.reduceAdd, Int.reduceSub, Int.reduceMul, Int.reduceToNat, Int.reducePow, Int.reduceEq, ne_eq, reduceIte, repM, objsM, Obj.cells, iD, bsD, bD, reqM, byteD]
  refine acall1_inl (t118 l hl k fs cs f hf fun j => ?_)
  simp only [↓ru, rv, rl, ry, tyf, iM, bM, bsM, cond_true, cond_false, Nat.reduceLT, Nat.reduceBEq, Nat.reduceAdd, Nat.reduceEqDiff, Nat.reduceMul, Nat.reduceLeDiff, Nat.reduceSub, Nat.reduceDiv, Int.reduceLE, Int.reduceLT, Int.reduceNeg, Int.reduceAdd, Int.reduceSub, Int.reduceMul, Int.reduceToNat, Int.reducePow, Int.reduceEq, ne_eq, reduceIte, repM, objsM, Obj.cells, iD, bsD, bD, reqM, byteD, idxF_neg, aEnd_of (fn := Try.f95) (rs := [.tmp 4]) rfl]
  exact aFin_same (hk' hk (by omega))

def lastB (d : List UInt8) : Int := ((d[d.length - 1]?).getD 0).toNat
/-- A reply to a request. -/
def matchF (q : Req) (r : Rep) : Bool :=
  if reqF q = false ∨ validF r = false ∨ q.fn ≠ r.fn then false
  else if r.ex ≠ 0 ∨ r.fn = 17 then true
  else if r.fn = 43 then decide (r.code = q.code) && !(r.objs.any fun o => decide (o.id < q.obj))
  else if r.fn = 3 ∨ r.fn = 4 then decide ((r.data.length : Int) = 2 * q.qty)
  else if (r.data.length : Int) ≠ (q.qty + 7) / 8 then false
  else decide (q.qty % 8 = 0) || decide (lastB r.data / 2 ^ (q.qty % 8).toNat = 0)

theorem valid_tab {r : Rep} (h : validF r = true) (h17 : ¬ r.fn = 17) (h43 : ¬ r.fn = 43) : 1 ≤ r.fn ∧ r.fn ≤ 4 := by
  cases hk : knownF r.fn with
  | false => rw [validF, hk] at h; simp at h
  | true => have := known_cases hk; omega
theorem reqF_qty {q : Req} (h : reqF q = true) (h1 : 1 ≤ q.fn ∧ q.fn ≤ 4) : 1 ≤ q.qty ∧ q.qty ≤ 2000 := by
  rw [reqF, if_pos h1] at h
  have := limitF_le q.fn
  have := of_decide_eq_true h
  omega
theorem t54 (q : Req) (r : Rep) (h : r.OK) (hl : r.objs.length ≤ 1000000) (hd : r.data.length ≤ 1000000) : PFn Try.prog 54 [reqM q, repM r] (bM (matchF q r)) := by
  refine PFn.of (prs := []) Try.func54 rfl rfl mix (by kernel_rfl) rfl rfl ?_
  simp only [Try.ntmps54, argUpd]
  have leaf : ∀ x, matchF q r = x → M.d (D.v (Value.bool x)) = M.d (D.v (Value.bool (matchF q r))) := fun x hb => by rw [hb]
  simp only [↓ru, rv, rl, ry, tyf, iM, bM, bsM, cond_true, cond_false, Nat.reduceLT, Nat.reduceBEq, Nat.reduceAdd, Nat.reduceEqDiff, Nat.reduceMul, Nat.reduceLeDiff, Nat.reduceSub, Nat.reduceDiv, Int.reduceLE, Int.reduceLT, Int.reduceNeg, Int.reduceAdd, Int.reduceSub, Int.reduceMul, Int.reduceToNat, Int.reducePow, Int.reduceEq, ne_eq, reduceIte, repM, objsM, Obj.cells, iD, bsD, bD, reqM, byteD]
  refine acall1_pure (t94 q) rfl rfl ?_
  cases h1 : reqF q with
  | false =>
    simp only [↓ru, rv, rl, ry, tyf, iM, bM, bsM, cond_true, cond_false, Nat.reduceLT, Nat.reduceBEq, Nat.reduceAdd, Nat.reduceEqDiff, Nat.reduceMul, Nat.reduceLeDiff, Nat.reduceSub, Nat.reduceDiv, Int.reduceLE, Int.reduceLT, Int.reduceNeg, Int.reduceAdd, Int.reduceSub, Int.reduceMul, Int.reduceToNat, Int.reducePow, Int.reduceEq, ne_eq, reduceIte, repM, objsM, Obj.cells, iD, bsD, bD, reqM, byteD, pureEnd_of (fn := Try.f54) (rs := [.tmp 4]) (ts := [4]) rfl rfl]
    refine leaf _ ?_; rw [matchF, if_pos (.inl h1)]
  | true =>
  simp only [↓ru, rv, rl, ry, tyf, iM, bM, bsM, cond_true, cond_false, Nat.reduceLT, Nat.reduceBEq, Nat.reduceAdd, Nat.reduceEqDiff, Nat.reduceMul, Nat.reduceLeDiff, Nat.reduceSub, Nat.reduceDiv, Int.reduceLE, Int.reduceLT, Int.reduceNeg, Int.reduceAdd, Int.reduceSub, Int.reduceMul, Int.reduceToNat, Int.reducePow, Int.reduceEq, ne_eq, reduceIte, repM, objsM, Obj.cells, iD, bsD, bD, reqM, byteD]
  refine acall1_pure (t46 r h) rfl rfl ?_
  cases h2 : validF r with
  | false =>
    simp only [↓ru, rv, rl, ry, tyf, iM, bM, bsM, cond_true, cond_false, Nat.reduceLT, Nat.reduceBEq, Nat.reduceAdd, Nat.reduceEqDiff, Nat.reduceMul, Nat.reduceLeDiff, Nat.reduceSub, Nat.reduceDiv, Int.reduceLE, Int.reduceLT, Int.reduceNeg, Int.reduceAdd, Int.reduceSub, Int.reduceMul, Int.reduceToNat, Int.reducePow, Int.reduceEq, ne_eq, reduceIte, repM, objsM, Obj.cells, iD, bsD, bD, reqM, byteD, pureEnd_of (fn := Try.f54) (rs := [.tmp 4]) (ts := [4]) rfl rfl]
    refine leaf _ ?_; rw [matchF, if_pos (.inr (.inl h2))]
  | true =>
  simp only [↓ru, rv, rl, ry, tyf, iM, bM, bsM, cond_true, cond_false, Nat.reduceLT, Nat.reduceBEq, Nat.reduceAdd, Nat.reduceEqDiff, Nat.reduceMul, Nat.reduceLeDiff, Nat.reduceSub, Nat.reduceDiv, Int.reduceLE, Int.reduceLT, Int.reduceNeg, Int.reduceAdd, Int.reduceSub, Int.reduceMul, Int.reduceToNat, Int.reducePow, Int.reduceEq, ne_eq, reduceIte, repM, objsM, Obj.cells, iD, bsD, bD, reqM, byteD]
  by_cases h3 : q.fn = r.fn
  · have d3 : decide (q.fn = r.fn) = true := by simpa using h3
    have hm : matchF q r = if r.ex ≠ 0 ∨ r.fn = 17 then true
      else if r.fn = 43 then decide (r.code = q.code) && !(r.objs.any fun o => decide (o.id < q.obj))
      else if r.fn = 3 ∨ r.fn = 4 then decide ((r.data.length : Int) = 2 * q.qty)
      else if (r.data.length : Int) ≠ (q.qty + 7) / 8 then false
      else decide (q.qty % 8 = 0) || decide (lastB r.data / 2 ^ (q.qty % 8).toNat = 0) := by
      rw [matchF, if_neg (by simp [h1, h2, h3])]
    simp only [↓ru, rv, rl, ry, tyf, iM, bM, bsM, cond_true, cond_false, Nat.reduceLT, Nat.reduceBEq, Nat.reduceAdd, Nat.reduceEqDiff, Nat.reduceMul, Nat.reduceLeDiff, Nat.reduceSub, Nat.reduceDiv, Int.reduceLE, Int.reduceLT, Int.reduceNeg, Int.reduceAdd, Int.reduceSub, Int.reduceMul, Int.reduceToNat, Int.reducePow, Int.reduceEq, ne_eq, reduceIte, repM, objsM, Obj.cells, iD, bsD, bD, reqM, byteD, d3]
    by_cases hx : r.ex = 0
    · have dx : decide (r.ex = 0) = true := by simpa using hx
      simp only [↓ru, rv, rl, ry, tyf, iM, bM, bsM, cond_true, cond_false, Nat.reduceLT, Nat.reduceBEq, Nat.reduceAdd, Nat.reduceEqDiff, Nat.reduceMul, Nat.reduceLeDiff, Nat.reduceSub, Nat.reduceDiv, Int.reduceLE, Int.reduceLT, Int.reduceNeg, Int.reduceAdd, Int.reduceSub, Int.reduceMul, Int.reduceToNat, Int.reducePow, Int.reduceEq, ne_eq, reduceIte, repM, objsM, Obj.cells, iD, bsD, bD, reqM, byteD, dx]
      by_cases h17 : r.fn = 17
      · have d17 : decide (r.fn = 17) = true := by simpa using h17
        simp only [↓ru, rv, rl, ry, tyf, iM, bM, bsM, cond_true, cond_false, Nat.reduceLT, Nat.reduceBEq, Nat.reduceAdd, Nat.reduceEqDiff, Nat.reduceMul, Nat.reduceLeDiff, Nat.reduceSub, Nat.reduceDiv, Int.reduceLE, Int.reduceLT, Int.reduceNeg, Int.reduceAdd, Int.reduceSub, Int.reduceMul, Int.reduceToNat, Int.reducePow, Int.reduceEq, ne_eq, reduceIte, repM, objsM, Obj.cells, iD, bsD, bD, reqM, byteD, d17, pureEnd_of (fn := Try.f54) (rs := [.tmp 4]) (ts := [4]) rfl rfl]
        refine leaf _ ?_; rw [hm, if_pos (.inr h17)]
      · have d17 : decide (r.fn = 17) = false := by simpa using h17
        rw [if_neg (by simp [hx, h17])] at hm
        simp only [↓ru, rv, rl, ry, tyf, iM, bM, bsM, cond_true, cond_false, Nat.reduceLT, Nat.reduceBEq, Nat.reduceAdd, Nat.reduceEqDiff, Nat.reduceMul, Nat.reduceLeDiff, Nat.reduceSub, Nat.reduceDiv, Int.reduceLE, Int.reduceLT, Int.reduceNeg, Int.reduceAdd, Int.reduceSub, Int.reduceMul, Int.reduceToNat, Int.reducePow, Int.reduceEq, ne_eq, reduceIte, repM, objsM, Obj.cells, iD, bsD, bD, reqM, byteD, d17]
        by_cases h43 : r.fn = 43
        · have d43 : decide (r.fn = 43) = true := by simpa using h43
          rw [if_pos h43] at hm
          simp only [↓ru, rv, rl, ry, tyf, iM, bM, bsM, cond_true, cond_false, Nat.reduceLT, Nat.reduceBEq, Nat.reduceAdd, Nat.reduceEqDiff, Nat.reduceMul, Nat.reduceLeDiff, Nat.reduceSub, Nat.reduceDiv, Int.reduceLE, Int.reduceLT, Int.reduceNeg, Int.reduceAdd, Int.reduceSub, Int.reduceMul, Int.reduceToNat, Int.reducePow, Int.reduceEq, ne_eq, reduceIte, repM, objsM, Obj.cells, iD, bsD, bD, reqM, byteD, d43]
          by_cases hc : r.code = q.code
          · have dc : decide (r.code = q.code) = true := by simpa using hc
            simp only [↓ru, rv, rl, ry, tyf, iM, bM, bsM, cond_true, cond_false, Nat.reduceLT, Nat.reduceBEq, Nat.reduceAdd, Nat.reduceEqDiff, Nat.reduceMul, Nat.reduceLeDiff, Nat.reduceSub, Nat.reduceDiv, Int.reduceLE, Int.reduceLT, Int.reduceNeg, Int.reduceAdd, Int.reduceSub, Int.reduceMul, Int.reduceToNat, Int.reducePow, Int.reduceEq, ne_eq, reduceIte, repM, objsM, Obj.cells, iD, bsD, bD, reqM, byteD, dc]
            refine acall1_inl (t95 r.objs hl 96 [] [.ptr 0 0] (fun o => decide (o.id < q.obj)) (fun o n K hk => t96 o q rfl hk) fun j => ?_)
            simp only [↓ru, rv, rl, ry, tyf, iM, bM, bsM, cond_true, cond_false, Nat.reduceLT, Nat.reduceBEq, Nat.reduceAdd, Nat.reduceEqDiff, Nat.reduceMul, Nat.reduceLeDiff, Nat.reduceSub, Nat.reduceDiv, Int.reduceLE, Int.reduceLT, Int.reduceNeg, Int.reduceAdd, Int.reduceSub, Int.reduceMul, Int.reduceToNat, Int.reducePow, Int.reduceEq, ne_eq, reduceIte, repM, objsM, Obj.cells, iD, bsD, bD, reqM, byteD, pureEnd_of (fn := Try.f54) (rs := [.tmp 4]) (ts := [4]) rfl rfl]
            refine leaf _ ?_; rw [hm, dc, Bool.true_and]
          · have dc : decide (r.code = q.code) = false := by simpa using hc
            simp only [↓ru, rv, rl, ry, tyf, iM, bM, bsM, cond_true, cond_false, Nat.reduceLT, Nat.reduceBEq, Nat.reduceAdd, Nat.reduceEqDiff, Nat.reduceMul, Nat.reduceLeDiff, Nat.reduceSub, Nat.reduceDiv, Int.reduceLE, Int.reduceLT, Int.reduceNeg, Int.reduceAdd, Int.reduceSub, Int.reduceMul, Int.reduceToNat, Int.reducePow, Int.reduceEq, ne_eq, reduceIte, repM, objsM, Obj.cells, iD, bsD, bD, reqM, byteD, dc, pureEnd_of (fn := Try.f54) (rs := [.tmp 4]) (ts := [4]) rfl rfl]
            refine leaf _ ?_; rw [hm, dc, Bool.false_and]
        · have d43 : decide (r.fn = 43) = false := by simpa using h43
          rw [if_neg h43] at hm
          have hfn := valid_tab h2 h17 h43
          have hq := reqF_qty h1 (by omega)
          simp only [↓ru, rv, rl, ry, tyf, iM, bM, bsM, cond_true, cond_false, Nat.reduceLT, Nat.reduceBEq, Nat.reduceAdd, Nat.reduceEqDiff, Nat.reduceMul, Nat.reduceLeDiff, Nat.reduceSub, Nat.reduceDiv, Int.reduceLE, Int.reduceLT, Int.reduceNeg, Int.reduceAdd, Int.reduceSub, Int.reduceMul, Int.reduceToNat, Int.reducePow, Int.reduceEq, ne_eq, reduceIte, repM, objsM, Obj.cells, iD, bsD, bD, reqM, byteD, d43]
          by_cases h34 : r.fn = 3 ∨ r.fn = 4
          · rw [if_pos h34] at hm
            repeat' ((first | (refine fork_split (fun _h => ?_) (fun _h => ?_)) | (refine gfork_split (fun _h => ?_) (fun _h => ?_)) | (refine dfork_split (fun _h => ?_) (fun _h => ?_))) <;> (try (simp only [↓ru, rv, rl, ry, tyf, iM, bM, bsM, cond_true, cond_false, Nat.reduceLT, Nat.reduceBEq, Nat.reduceAdd, Nat.reduceEqDiff, Nat.reduceMul, Nat.reduceLeDiff, Nat.reduceSub, Nat.reduceDiv, Int.reduceLE, Int.reduceLT, Int.reduceNeg, Int.reduceAdd, Int.reduceSub, Int.reduceMul, Int.reduceToNat, Int.reducePow, Int.reduceEq, ne_eq, reduceIte, repM, objsM, Obj.cells, iD, bsD, bD, reqM, byteD, pureEnd_of (fn := Try.f54) (rs := [.tmp 4]) (ts := [4]) rfl rfl, *])))
            all_goals (try simp only [Bool.not_eq_true', Bool.not_eq_false', decide_eq_true_eq, decide_eq_false_iff_not] at *)
            all_goals (try (exfalso; omega))
            all_goals simp (disch := omega) only [wrap_i64, wrap_u8, wrap_u16, wrap_u64]
            all_goals (refine leaf _ ?_; rw [hm])
          · rw [if_neg h34] at hm
            have d3 : decide (r.fn = 3) = false := by simp; omega
            have d4 : decide (r.fn = 4) = false := by simp; omega
            have htd : (q.qty + 7).tdiv 8 = (q.qty + 7) / 8 := Int.tdiv_eq_ediv_of_nonneg (by omega)
            have htm : q.qty.tmod 8 = q.qty % 8 := Int.tmod_eq_emod_of_nonneg (by omega)
            simp only [↓ru, rv, rl, ry, tyf, iM, bM, bsM, cond_true, cond_false, Nat.reduceLT, Nat.reduceBEq, Nat.reduceAdd, Nat.reduceEqDiff, Nat.reduceMul, Nat.reduceLeDiff, Nat.reduceSub, Nat.reduceDiv, Int.reduceLE, Int.reduceLT, Int.reduceNeg, Int.reduceAdd, Int.reduceSub, Int.reduceMul, Int.reduceToNat, Int.reducePow, Int.reduceEq, ne_eq, reduceIte, repM, objsM, Obj.cells, iD, bsD, bD, reqM, byteD, d3, d4]
            simp (disch := omega) only [wrap_i64, wrap_u8, wrap_u16, wrap_u64]
            rw [htd]
            (try simp (disch := omega) only [wrap_i64, wrap_u8, wrap_u16, wrap_u64])
            (try rw [wrap_i64 (by omega) (by omega)])
            by_cases hlen : (r.data.length : Int) = (q.qty + 7) / 8
            · have dl : decide ((r.data.length : Int) = (q.qty + 7) / 8) = true := by simpa using hlen
              rw [if_neg (by simp [hlen])] at hm
              simp only [↓ru, rv, rl, ry, tyf, iM, bM, bsM, cond_true, cond_false, Nat.reduceLT, Nat.reduceBEq, Nat.reduceAdd, Nat.reduceEqDiff, Nat.reduceMul, Nat.reduceLeDiff, Nat.reduceSub, Nat.reduceDiv, Int.reduceLE, Int.reduceLT, Int.reduceNeg, Int.reduceAdd, Int.reduceSub, Int.reduceMul, Int.reduceToNat, Int.reducePow, Int.reduceEq, ne_eq, reduceIte, repM, objsM, Obj.cells, iD, bsD, bD, reqM, byteD, dl, htm]
              by_cases hu : q.qty % 8 = 0
              · have du : decide (q.qty % 8 = 0) = true := by simpa using hu
                simp only [↓ru, rv, rl, ry, tyf, iM, bM, bsM, cond_true, cond_false, Nat.reduceLT, Nat.reduceBEq, Nat.reduceAdd, Nat.reduceEqDiff, Nat.reduceMul, Nat.reduceLeDiff, Nat.reduceSub, Nat.reduceDiv, Int.reduceLE, Int.reduceLT, Int.reduceNeg, Int.reduceAdd, Int.reduceSub, Int.reduceMul, Int.reduceToNat, Int.reducePow, Int.reduceEq, ne_eq, reduceIte, repM, objsM, Obj.cells, iD, bsD, bD, reqM, byteD, du, pureEnd_of (fn := Try.f54) (rs := [.tmp 4]) (ts := [4]) rfl rfl]
                refine leaf _ ?_; rw [hm, du, Bool.true_or]
              · have du : decide (q.qty % 8 = 0) = false := by simpa using hu
                simp only [↓ru, rv, rl, ry, tyf, iM, bM, bsM, cond_true, cond_false, Nat.reduceLT, Nat.reduceBEq, Nat.reduceAdd, Nat.reduceEqDiff, Nat.reduceMul, Nat.reduceLeDiff, Nat.reduceSub, Nat.reduceDiv, Int.reduceLE, Int.reduceLT, Int.reduceNeg, Int.reduceAdd, Int.reduceSub, Int.reduceMul, Int.reduceToNat, Int.reducePow, Int.reduceEq, ne_eq, reduceIte, repM, objsM, Obj.cells, iD, bsD, bD, reqM, byteD, du]
                simp (disch := omega) only [wrap_i64, wrap_u8, wrap_u16, wrap_u64]
                obtain ⟨x, hx2⟩ := get_of_lt (l := r.data) (i := r.data.length - 1) (by omega)
                rw [show (r.data.length : Int) - 1 = ((r.data.length - 1 : Nat) : Int) by omega]
                have hs0 : (0 ≤ q.qty % 8) = True := by simp; omega
                have hs1 : (q.qty % 8 ≤ 8) = True := by simp; omega
                simp only [↓ru, rv, rl, ry, tyf, iM, bM, bsM, cond_true, cond_false, Nat.reduceLT, Nat.reduceBEq, Nat.reduceAdd, Nat.reduceEqDiff, Nat.reduceMul, Nat.reduceLeDiff, Nat.reduceSub, Nat.reduceDiv, Int.reduceLE, Int.reduceLT, Int.reduceNeg, Int.reduceAdd, Int.reduceSub, Int.reduceMul, Int.reduceToNat, Int.reducePow, Int.reduceEq, ne_eq, reduceIte, repM, objsM, Obj.cells, iD, bsD, bD, reqM, byteD, hx2, hs0, hs1, pureEnd_of (fn := Try.f54) (rs := [.tmp 4]) (ts := [4]) rfl rfl]
                refine leaf _ ?_
                rw [hm, du, Bool.false_or, lastB, hx2]
                rfl
            · have dl : decide ((r.data.length : Int) = (q.qty + 7) / 8) = false := by simpa using hlen
              rw [if_pos hlen] at hm
              simp only [↓ru, rv, rl, ry, tyf, iM, bM, bsM, cond_true, cond_false, Nat.reduceLT, Nat.reduceBEq, Nat.reduceAdd, Nat.reduceEqDiff, Nat.reduceMul, Nat.reduceLeDiff, Nat.reduceSub, Nat.reduceDiv, Int.reduceLE, Int.reduceLT, Int.reduceNeg, Int.reduceAdd, Int.reduceSub, Int.reduceMul, Int.reduceToNat, Int.reducePow, Int.reduceEq, ne_eq, reduceIte, repM, objsM, Obj.cells, iD, bsD, bD, reqM, byteD, dl, pureEnd_of (fn := Try.f54) (rs := [.tmp 4]) (ts := [4]) rfl rfl]
              refine leaf _ ?_; rw [hm]
    · have dx : decide (r.ex = 0) = false := by simpa using hx
      simp only [↓ru, rv, rl, ry, tyf, iM, bM, bsM, cond_true, cond_false, Nat.reduceLT, Nat.reduceBEq, Nat.reduceAdd, Nat.reduceEqDiff, Nat.reduceMul, Nat.reduceLeDiff, Nat.reduceSub, Nat.reduceDiv, Int.reduceLE, Int.reduceLT, Int.reduceNeg, Int.reduceAdd, Int.reduceSub, Int.reduceMul, Int.reduceToNat, Int.reducePow, Int.reduceEq, ne_eq, reduceIte, repM, objsM, Obj.cells, iD, bsD, bD, reqM, byteD, dx, pureEnd_of (fn := Try.f54) (rs := [.tmp 4]) (ts := [4]) rfl rfl]
      refine leaf _ ?_; rw [hm, if_pos (.inl hx)]
  · have d3 : decide (q.fn = r.fn) = false := by simpa using h3
    simp only [↓ru, rv, rl, ry, tyf, iM, bM, bsM, cond_true, cond_false, Nat.reduceLT, Nat.reduceBEq, Nat.reduceAdd, Nat.reduceEqDiff, Nat.reduceMul, Nat.reduceLeDiff, Nat.reduceSub, Nat.reduceDiv, Int.reduceLE, Int.reduceLT, Int.reduceNeg, Int.reduceAdd, Int.reduceSub, Int.reduceMul, Int.reduceToNat, Int.reducePow, Int.reduceEq, ne_eq, reduceIte, repM, objsM, Obj.cells, iD, bsD, bD, reqM, byteD, d3, pureEnd_of (fn := Try.f54) (rs := [.tmp 4]) (ts := [4]) rfl rfl]
    refine leaf _ ?_; rw [matchF, if_pos (.inr (.inr h3))]
end Go.R2

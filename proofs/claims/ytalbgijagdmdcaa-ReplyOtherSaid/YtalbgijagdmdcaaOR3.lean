import Derived.Test.YtalbgijagdmdcaaOR2
set_option linter.all false
open Go.Proofs Go.Abs Go.FaR2
namespace Go.R2
-- rules: repM, objsM, Obj.cells, iD, bsD, bD, reqM
set_option maxHeartbeats 4000000
set_option maxRecDepth 10000

theorem t71 (b : List UInt8) (hb : b.length ≤ 1000000) : PFn Try.prog 71 [bsM b] (bsM b) := by
  refine PFn.of (prs := []) Try.func71 rfl rfl mix (by kernel_rfl) rfl rfl ?_
  simp only [Try.ntmps71, argUpd]
  simp only [↓ru, rv, rl, ry, tyf, iM, bM, bsM, cond_true, cond_false, Nat.reduceLT, Nat.reduceBEq, Nat.reduceAdd, Nat.reduceEqDiff, Nat.reduceMul, Nat.reduceLeDiff, Nat.reduceSub, Nat.reduceDiv, Int.reduceLE, Int.reduceLT, Int.reduceNeg, Int.reduceAdd, Int.reduceSub, Int.reduceMul, Int.reduceToNat, Int.reducePow, Int.reduceEq, ne_eq, reduceIte, repM, objsM, Obj.cells, iD, bsD, bD, reqM, pureEnd_of (fn := Try.f71) (rs := [.tmp 2]) (ts := [22]) rfl rfl]
  refine ⟨fun h => ?_, ?_⟩
  · simp only [h]
  · refine grd_intro (by omega) ?_
    simp only [↓ru, rv, rl, ry, tyf, iM, bM, bsM, cond_true, cond_false, Nat.reduceLT, Nat.reduceBEq, Nat.reduceAdd, Nat.reduceEqDiff, Nat.reduceMul, Nat.reduceLeDiff, Nat.reduceSub, Nat.reduceDiv, Int.reduceLE, Int.reduceLT, Int.reduceNeg, Int.reduceAdd, Int.reduceSub, Int.reduceMul, Int.reduceToNat, Int.reducePow, Int.reduceEq, ne_eq, reduceIte, repM, objsM, Obj.cells, iD, bsD, bD, reqM, pureEnd_of (fn := Try.f71) (rs := [.tmp 2]) (ts := [22]) rfl rfl]

/-- The objects of a device identification, in a PDU. -/
def encObjs (l : List Obj) : List UInt8 := l.flatMap fun o => u8 o.id :: u8 o.val.length :: o.val
def encHead (r : Rep) : List UInt8 := [43, 14, u8 r.code, u8 r.level, if r.more then 255 else 0, u8 r.next, u8 r.objs.length]
def encF (r : Rep) : List UInt8 :=
  if r.ex ≠ 0 then [u8 (r.fn + 128), u8 r.ex]
  else if r.fn ≠ 43 then u8 r.fn :: u8 r.data.length :: r.data
  else encHead r ++ encObjs r.objs
def encR (r : Rep) : M := if validF r then .tup [bsM (encF r), iM 0] else .tup [bsM [], iM 5]

theorem encObjs_len : ∀ (l : List Obj) (last size x : Int), 0 ≤ size → size ≤ 246 → devObjs l last size = some x → size + ((encObjs l).length : Int) ≤ 246
  | [], last, size, x, h0, h1, h => by simpa [encObjs] using h1
  | o :: l, last, size, x, h0, h1, h => by
    simp only [devObjs] at h
    split at h
    · cases h
    · have := encObjs_len l o.id (size + (2 + o.val.length)) x (by omega) (by omega) h
      simp only [encObjs, List.flatMap_cons, List.length_append, List.length_cons] at this ⊢
      omega
theorem encObjs_take (l : List Obj) (i : Nat) : (encObjs (l.take i)).length ≤ (encObjs l).length := by
  conv => rhs; rw [← List.take_append_drop i l]
  simp only [encObjs, List.flatMap_append, List.length_append]
  omega
theorem encObjs_succ {l : List Obj} {i : Nat} {o : Obj} (h : l[i]? = some o) : encObjs (l.take (i + 1)) = encObjs (l.take i) ++ (u8 o.id :: u8 o.val.length :: o.val) := by
  rw [List.take_add_one, h]
  simp [encObjs]
theorem objs_len_enc : ∀ (l : List Obj), 2 * l.length ≤ (encObjs l).length
  | [] => by simp
  | o :: l => by
    have := objs_len_enc l
    simp only [encObjs, List.flatMap_cons, List.length_append, List.length_cons] at this ⊢
    omega

theorem validF_dev {r : Rep} (h : validF r = true) (h1 : r.ex = 0) (h2 : r.fn = 43) : (encObjs r.objs).length ≤ 246 := by
  have hd : devF r = true := by
    unfold validF at h
    simp only [h1, h2] at h
    split at h
    · simpa using h
    · cases h
  cases hx : devObjs r.objs (-1) 0 with
  | none =>
    simp only [devF, hx] at hd
    simp at hd
  | some x =>
    have := encObjs_len r.objs (-1) 0 x (by omega) (by omega) hx
    omega
theorem validF_data {r : Rep} (h : validF r = true) (h1 : r.ex = 0) (h2 : r.fn ≠ 43) : r.data.length ≤ 251 := by
  unfold validF at h
  simp only [h1, ne_eq, not_true_eq_false, if_false, h2] at h
  split at h
  · split at h
    · simp at h; omega
    · simp at h; omega
  · cases h

theorem valid_fn {r : Rep} (h : validF r = true) : -9223372036854775808 ≤ r.fn ∧ r.fn ≤ 9223372036854775000 := by
  cases hk : knownF r.fn with
  | false => rw [validF, hk] at h; simp at h
  | true =>
    simp only [knownF, decide_eq_true_eq] at hk
    omega
theorem t48 (r : Rep) (h : r.OK) : PFn Try.prog 48 [repM r] (encR r) := by
  have hp2 : (encR r).p2 = true := by unfold encR; split <;> rfl
  refine PFn.of (prs := [(14, [(3, 4), (3, 5), (1, 6), (2, 6), (3, 6), (1, 7), (2, 7), (3, 7), (3, 10), (6, 10), (7, 10), (8, 10), (9, 10), (3, 11), (6, 11), (7, 11), (8, 11), (9, 11)])]) Try.func48 rfl rfl mix (by kernel_rfl) rfl hp2 ?_
  simp only [Try.ntmps48, argUpd]
  simp only [↓ru, rv, rl, ry, tyf, iM, bM, bsM, cond_true, cond_false, Nat.reduceLT, Nat.reduceBEq, Nat.reduceAdd, Nat.reduceEqDiff, Nat.reduceMul, Nat.reduceLeDiff, Nat.reduceSub, Nat.reduceDiv, Int.reduceLE, Int.reduceLT, Int.reduceNeg, Int.reduceAdd, Int.reduceSub, Int.reduceMul, Int.reduceToNat, Int.reducePow, Int.reduceEq, ne_eq, reduceIte, repM, objsM, Obj.cells, iD, bsD, bD, reqM]
  refine acall1_pure (t46 r h) rfl rfl ?_
  simp only [↓ru, rv, rl, ry, tyf, iM, bM, bsM, cond_true, cond_false, Nat.reduceLT, Nat.reduceBEq, Nat.reduceAdd, Nat.reduceEqDiff, Nat.reduceMul, Nat.reduceLeDiff, Nat.reduceSub, Nat.reduceDiv, Int.reduceLE, Int.reduceLT, Int.reduceNeg, Int.reduceAdd, Int.reduceSub, Int.reduceMul, Int.reduceToNat, Int.reducePow, Int.reduceEq, ne_eq, reduceIte, repM, objsM, Obj.cells, iD, bsD, bD, reqM]
  cases hv : validF r with
  | false =>
    simp only [↓ru, rv, rl, ry, tyf, iM, bM, bsM, cond_true, cond_false, Nat.reduceLT, Nat.reduceBEq, Nat.reduceAdd, Nat.reduceEqDiff, Nat.reduceMul, Nat.reduceLeDiff, Nat.reduceSub, Nat.reduceDiv, Int.reduceLE, Int.reduceLT, Int.reduceNeg, Int.reduceAdd, Int.reduceSub, Int.reduceMul, Int.reduceToNat, Int.reducePow, Int.reduceEq, ne_eq, reduceIte, repM, objsM, Obj.cells, iD, bsD, bD, reqM, hv, pureEnd_of (fn := Try.f48) (rs := [.tmp 2, .tmp 3]) (ts := [22, 24]) rfl rfl]
    rw [encR, hv]; rfl
  | true =>
  have hf := valid_fn hv
  have hR : encR r = .tup [bsM (encF r), iM 0] := by rw [encR, hv]; rfl
  simp only [↓ru, rv, rl, ry, tyf, iM, bM, bsM, cond_true, cond_false, Nat.reduceLT, Nat.reduceBEq, Nat.reduceAdd, Nat.reduceEqDiff, Nat.reduceMul, Nat.reduceLeDiff, Nat.reduceSub, Nat.reduceDiv, Int.reduceLE, Int.reduceLT, Int.reduceNeg, Int.reduceAdd, Int.reduceSub, Int.reduceMul, Int.reduceToNat, Int.reducePow, Int.reduceEq, ne_eq, reduceIte, repM, objsM, Obj.cells, iD, bsD, bD, reqM]
  by_cases h1 : r.ex = 0
  · have e1 : decide (r.ex = 0) = true := by simpa using h1
    simp only [↓ru, rv, rl, ry, tyf, iM, bM, bsM, cond_true, cond_false, Nat.reduceLT, Nat.reduceBEq, Nat.reduceAdd, Nat.reduceEqDiff, Nat.reduceMul, Nat.reduceLeDiff, Nat.reduceSub, Nat.reduceDiv, Int.reduceLE, Int.reduceLT, Int.reduceNeg, Int.reduceAdd, Int.reduceSub, Int.reduceMul, Int.reduceToNat, Int.reducePow, Int.reduceEq, ne_eq, reduceIte, repM, objsM, Obj.cells, iD, bsD, bD, reqM, e1]
    by_cases h2 : r.fn = 43
    · have e2 : decide (r.fn = 43) = true := by simpa using h2
      have hlen := validF_dev hv h1 h2
      simp only [↓ru, rv, rl, ry, tyf, iM, bM, bsM, cond_true, cond_false, Nat.reduceLT, Nat.reduceBEq, Nat.reduceAdd, Nat.reduceEqDiff, Nat.reduceMul, Nat.reduceLeDiff, Nat.reduceSub, Nat.reduceDiv, Int.reduceLE, Int.reduceLT, Int.reduceNeg, Int.reduceAdd, Int.reduceSub, Int.reduceMul, Int.reduceToNat, Int.reducePow, Int.reduceEq, ne_eq, reduceIte, repM, objsM, Obj.cells, iD, bsD, bD, reqM, e2]
      refine cut_fork [(1, .ptr 0 0), (4, .d (.v (.int .u8 ((if r.more then 255 else 0 : UInt8).toNat : Int))))] [(0, .st [iM r.fn, iM r.ex, bsM r.data, iM r.code, iM r.level, bM r.more, iM r.next, objsM r.objs])] 1 (fun b' hb => ?_) (fun e0 k => ?_)
      · refine fork_split (fun h => ?_) (fun h => ?_)
        · simp only [↓ru, rv, rl, ry, tyf, iM, bM, bsM, cond_true, cond_false, Nat.reduceLT, Nat.reduceBEq, Nat.reduceAdd, Nat.reduceEqDiff, Nat.reduceMul, Nat.reduceLeDiff, Nat.reduceSub, Nat.reduceDiv, Int.reduceLE, Int.reduceLT, Int.reduceNeg, Int.reduceAdd, Int.reduceSub, Int.reduceMul, Int.reduceToNat, Int.reducePow, Int.reduceEq, ne_eq, reduceIte, repM, objsM, Obj.cells, iD, bsD, bD, reqM]
          refine hb _ _ ?_ (by omega)
          simp only [↓ru, rv, rl, ry, tyf, iM, bM, bsM, cond_true, cond_false, Nat.reduceLT, Nat.reduceBEq, Nat.reduceAdd, Nat.reduceEqDiff, Nat.reduceMul, Nat.reduceLeDiff, Nat.reduceSub, Nat.reduceDiv, Int.reduceLE, Int.reduceLT, Int.reduceNeg, Int.reduceAdd, Int.reduceSub, Int.reduceMul, Int.reduceToNat, Int.reducePow, Int.reduceEq, ne_eq, reduceIte, repM, objsM, Obj.cells, iD, bsD, bD, reqM, h]
          rfl
        · simp only [↓ru, rv, rl, ry, tyf, iM, bM, bsM, cond_true, cond_false, Nat.reduceLT, Nat.reduceBEq, Nat.reduceAdd, Nat.reduceEqDiff, Nat.reduceMul, Nat.reduceLeDiff, Nat.reduceSub, Nat.reduceDiv, Int.reduceLE, Int.reduceLT, Int.reduceNeg, Int.reduceAdd, Int.reduceSub, Int.reduceMul, Int.reduceToNat, Int.reducePow, Int.reduceEq, ne_eq, reduceIte, repM, objsM, Obj.cells, iD, bsD, bD, reqM]
          refine hb _ _ ?_ (by omega)
          simp only [↓ru, rv, rl, ry, tyf, iM, bM, bsM, cond_true, cond_false, Nat.reduceLT, Nat.reduceBEq, Nat.reduceAdd, Nat.reduceEqDiff, Nat.reduceMul, Nat.reduceLeDiff, Nat.reduceSub, Nat.reduceDiv, Int.reduceLE, Int.reduceLT, Int.reduceNeg, Int.reduceAdd, Int.reduceSub, Int.reduceMul, Int.reduceToNat, Int.reducePow, Int.reduceEq, ne_eq, reduceIte, repM, objsM, Obj.cells, iD, bsD, bD, reqM, h]
          rfl
      simp only [↓ru, rv, rl, ry, tyf, iM, bM, bsM, cond_true, cond_false, Nat.reduceLT, Nat.reduceBEq, Nat.reduceAdd, Nat.reduceEqDiff, Nat.reduceMul, Nat.reduceLeDiff, Nat.reduceSub, Nat.reduceDiv, Int.reduceLE, Int.reduceLT, Int.reduceNeg, Int.reduceAdd, Int.reduceSub, Int.reduceMul, Int.reduceToNat, Int.reducePow, Int.reduceEq, ne_eq, reduceIte, repM, objsM, Obj.cells, iD, bsD, bD, reqM]
      refine aloop_lk (fun s : Nat => [(5, .hsl (k + 15) (encHead r ++ encObjs (r.objs.take s)).length), (57, objsM r.objs), (58, iM r.objs.length), (59, iM s)])
        (fun s => [(k + 15, .ar false 1 (pure2 ((encHead r ++ encObjs (r.objs.take s)).map byteD)))]) (fun s => s ≤ r.objs.length) (fun s => r.objs.length - s) k 16 0 ?_ ?_ (by omega) (by omega) ?_
      · simp only [↓ru, rv, rl, ry, tyf, iM, bM, bsM, cond_true, cond_false, Nat.reduceLT, Nat.reduceBEq, Nat.reduceAdd, Nat.reduceEqDiff, Nat.reduceMul, Nat.reduceLeDiff, Nat.reduceSub, Nat.reduceDiv, Int.reduceLE, Int.reduceLT, Int.reduceNeg, Int.reduceAdd, Int.reduceSub, Int.reduceMul, Int.reduceToNat, Int.reducePow, Int.reduceEq, ne_eq, reduceIte, repM, objsM, Obj.cells, iD, bsD, bD, reqM]; rfl
      · simp only [↓ru, rv, rl, ry, tyf, iM, bM, bsM, cond_true, cond_false, Nat.reduceLT, Nat.reduceBEq, Nat.reduceAdd, Nat.reduceEqDiff, Nat.reduceMul, Nat.reduceLeDiff, Nat.reduceSub, Nat.reduceDiv, Int.reduceLE, Int.reduceLT, Int.reduceNeg, Int.reduceAdd, Int.reduceSub, Int.reduceMul, Int.reduceToNat, Int.reducePow, Int.reduceEq, ne_eq, reduceIte, repM, objsM, Obj.cells, iD, bsD, bD, reqM]; rfl
      · intro i e1 n hi
        simp only [↓ru, rv, rl, ry, tyf, iM, bM, bsM, cond_true, cond_false, Nat.reduceLT, Nat.reduceBEq, Nat.reduceAdd, Nat.reduceEqDiff, Nat.reduceMul, Nat.reduceLeDiff, Nat.reduceSub, Nat.reduceDiv, Int.reduceLE, Int.reduceLT, Int.reduceNeg, Int.reduceAdd, Int.reduceSub, Int.reduceMul, Int.reduceToNat, Int.reducePow, Int.reduceEq, ne_eq, reduceIte, repM, objsM, Obj.cells, iD, bsD, bD, reqM]
        refine fork_split (fun h => ?_) (fun h => ?_)
        · have h' := of_decide_eq_true h
          obtain ⟨o, ho⟩ := get_of_lt (l := r.objs) (i := i) (by omega)
          have hs := encObjs_succ ho
          have hb := encObjs_take r.objs (i + 1)
          rw [hs] at hb
          have hb2 := objs_len_enc r.objs
          simp only [List.length_append, List.length_cons] at hb
          have hh : (encHead r).length = 7 := rfl
          simp only [↓ru, rv, rl, ry, tyf, iM, bM, bsM, cond_true, cond_false, Nat.reduceLT, Nat.reduceBEq, Nat.reduceAdd, Nat.reduceEqDiff, Nat.reduceMul, Nat.reduceLeDiff, Nat.reduceSub, Nat.reduceDiv, Int.reduceLE, Int.reduceLT, Int.reduceNeg, Int.reduceAdd, Int.reduceSub, Int.reduceMul, Int.reduceToNat, Int.reducePow, Int.reduceEq, ne_eq, reduceIte, repM, objsM, Obj.cells, iD, bsD, bD, reqM, ho]
          refine grd_intro (by simp only [List.length_append, pure2_length, List.length_map, List.length_cons, List.length_nil]; omega) ?_
          refine grd_intro (by simp only [List.length_append, pure2_length, List.length_map, List.length_cons, List.length_nil]; omega) ?_
          simp (disch := omega) only [wrap_i64, wrap_u8, wrap_u16, wrap_u64]
          refine loopL_drop (i + 1) ?_ ?_ (by omega) (by omega) (by omega)
          · simp only [↓ru, rv, rl, ry, tyf, iM, bM, bsM, cond_true, cond_false, Nat.reduceLT, Nat.reduceBEq, Nat.reduceAdd, Nat.reduceEqDiff, Nat.reduceMul, Nat.reduceLeDiff, Nat.reduceSub, Nat.reduceDiv, Int.reduceLE, Int.reduceLT, Int.reduceNeg, Int.reduceAdd, Int.reduceSub, Int.reduceMul, Int.reduceToNat, Int.reducePow, Int.reduceEq, ne_eq, reduceIte, repM, objsM, Obj.cells, iD, bsD, bD, reqM, hs]
            simp [pure2_length]; omega
          · simp only [↓ru, rv, rl, ry, tyf, iM, bM, bsM, cond_true, cond_false, Nat.reduceLT, Nat.reduceBEq, Nat.reduceAdd, Nat.reduceEqDiff, Nat.reduceMul, Nat.reduceLeDiff, Nat.reduceSub, Nat.reduceDiv, Int.reduceLE, Int.reduceLT, Int.reduceNeg, Int.reduceAdd, Int.reduceSub, Int.reduceMul, Int.reduceToNat, Int.reducePow, Int.reduceEq, ne_eq, reduceIte, repM, objsM, Obj.cells, iD, bsD, bD, reqM, hs]
            simp [pure2, byteD]
        · have h' := of_decide_eq_false h
          obtain rfl : i = r.objs.length := by omega
          simp only [↓ru, rv, rl, ry, tyf, iM, bM, bsM, cond_true, cond_false, Nat.reduceLT, Nat.reduceBEq, Nat.reduceAdd, Nat.reduceEqDiff, Nat.reduceMul, Nat.reduceLeDiff, Nat.reduceSub, Nat.reduceDiv, Int.reduceLE, Int.reduceLT, Int.reduceNeg, Int.reduceAdd, Int.reduceSub, Int.reduceMul, Int.reduceToNat, Int.reducePow, Int.reduceEq, ne_eq, reduceIte, repM, objsM, Obj.cells, iD, bsD, bD, reqM, pureEnd_of (fn := Try.f48) (rs := [.tmp 2, .tmp 3]) (ts := [22, 24]) rfl rfl, List.take_length]
          rw [hR]
          simp [encF, h1, h2]
    · have e2 : decide (r.fn = 43) = false := by simpa using h2
      have hlen := validF_data hv h1 h2
      simp only [↓ru, rv, rl, ry, tyf, iM, bM, bsM, cond_true, cond_false, Nat.reduceLT, Nat.reduceBEq, Nat.reduceAdd, Nat.reduceEqDiff, Nat.reduceMul, Nat.reduceLeDiff, Nat.reduceSub, Nat.reduceDiv, Int.reduceLE, Int.reduceLT, Int.reduceNeg, Int.reduceAdd, Int.reduceSub, Int.reduceMul, Int.reduceToNat, Int.reducePow, Int.reduceEq, ne_eq, reduceIte, repM, objsM, Obj.cells, iD, bsD, bD, reqM, e2]
      refine grd_intro (by omega) ?_
      simp only [↓ru, rv, rl, ry, tyf, iM, bM, bsM, cond_true, cond_false, Nat.reduceLT, Nat.reduceBEq, Nat.reduceAdd, Nat.reduceEqDiff, Nat.reduceMul, Nat.reduceLeDiff, Nat.reduceSub, Nat.reduceDiv, Int.reduceLE, Int.reduceLT, Int.reduceNeg, Int.reduceAdd, Int.reduceSub, Int.reduceMul, Int.reduceToNat, Int.reducePow, Int.reduceEq, ne_eq, reduceIte, repM, objsM, Obj.cells, iD, bsD, bD, reqM, pureEnd_of (fn := Try.f48) (rs := [.tmp 2, .tmp 3]) (ts := [22, 24]) rfl rfl]
      rw [hR]
      simp [encF, h1, h2, byteD]
  · have e1 : decide (r.ex = 0) = false := by simpa using h1
    simp only [↓ru, rv, rl, ry, tyf, iM, bM, bsM, cond_true, cond_false, Nat.reduceLT, Nat.reduceBEq, Nat.reduceAdd, Nat.reduceEqDiff, Nat.reduceMul, Nat.reduceLeDiff, Nat.reduceSub, Nat.reduceDiv, Int.reduceLE, Int.reduceLT, Int.reduceNeg, Int.reduceAdd, Int.reduceSub, Int.reduceMul, Int.reduceToNat, Int.reducePow, Int.reduceEq, ne_eq, reduceIte, repM, objsM, Obj.cells, iD, bsD, bD, reqM, e1]
    simp (disch := omega) only [wrap_i64, wrap_u8, wrap_u16, wrap_u64]
    simp only [↓ru, rv, rl, ry, tyf, iM, bM, bsM, cond_true, cond_false, Nat.reduceLT, Nat.reduceBEq, Nat.reduceAdd, Nat.reduceEqDiff, Nat.reduceMul, Nat.reduceLeDiff, Nat.reduceSub, Nat.reduceDiv, Int.reduceLE, Int.reduceLT, Int.reduceNeg, Int.reduceAdd, Int.reduceSub, Int.reduceMul, Int.reduceToNat, Int.reducePow, Int.reduceEq, ne_eq, reduceIte, repM, objsM, Obj.cells, iD, bsD, bD, reqM, pureEnd_of (fn := Try.f48) (rs := [.tmp 2, .tmp 3]) (ts := [22, 24]) rfl rfl]
    rw [hR]
    simp [encF, h1, byteD]

theorem t49 (r : Rep) (h : r.OK) : PFn Try.prog 49 [repM r] (encR r) := by
  have hp2 : (encR r).p2 = true := by unfold encR; split <;> rfl
  refine PFn.of (prs := [(15, [(3, 4), (3, 5), (1, 6), (2, 6), (3, 6), (1, 7), (2, 7), (3, 7), (3, 10), (6, 10), (7, 10), (8, 10), (9, 10), (3, 11), (6, 11), (7, 11), (8, 11), (9, 11)])]) Try.func49 rfl rfl mix (by kernel_rfl) rfl hp2 ?_
  simp only [Try.ntmps49, argUpd]
  simp only [↓ru, rv, rl, ry, tyf, iM, bM, bsM, cond_true, cond_false, Nat.reduceLT, Nat.reduceBEq, Nat.reduceAdd, Nat.reduceEqDiff, Nat.reduceMul, Nat.reduceLeDiff, Nat.reduceSub, Nat.reduceDiv, Int.reduceLE, Int.reduceLT, Int.reduceNeg, Int.reduceAdd, Int.reduceSub, Int.reduceMul, Int.reduceToNat, Int.reducePow, Int.reduceEq, ne_eq, reduceIte, repM, objsM, Obj.cells, iD, bsD, bD, reqM]
  refine acall1_pure (t47 r h) rfl rfl ?_
  simp only [↓ru, rv, rl, ry, tyf, iM, bM, bsM, cond_true, cond_false, Nat.reduceLT, Nat.reduceBEq, Nat.reduceAdd, Nat.reduceEqDiff, Nat.reduceMul, Nat.reduceLeDiff, Nat.reduceSub, Nat.reduceDiv, Int.reduceLE, Int.reduceLT, Int.reduceNeg, Int.reduceAdd, Int.reduceSub, Int.reduceMul, Int.reduceToNat, Int.reducePow, Int.reduceEq, ne_eq, reduceIte, repM, objsM, Obj.cells, iD, bsD, bD, reqM]
  cases hv : validF r with
  | false =>
    simp only [↓ru, rv, rl, ry, tyf, iM, bM, bsM, cond_true, cond_false, Nat.reduceLT, Nat.reduceBEq, Nat.reduceAdd, Nat.reduceEqDiff, Nat.reduceMul, Nat.reduceLeDiff, Nat.reduceSub, Nat.reduceDiv, Int.reduceLE, Int.reduceLT, Int.reduceNeg, Int.reduceAdd, Int.reduceSub, Int.reduceMul, Int.reduceToNat, Int.reducePow, Int.reduceEq, ne_eq, reduceIte, repM, objsM, Obj.cells, iD, bsD, bD, reqM, hv, pureEnd_of (fn := Try.f49) (rs := [.tmp 2, .tmp 3]) (ts := [22, 24]) rfl rfl]
    rw [encR, hv]; rfl
  | true =>
  have hf := valid_fn hv
  have hR : encR r = .tup [bsM (encF r), iM 0] := by rw [encR, hv]; rfl
  simp only [↓ru, rv, rl, ry, tyf, iM, bM, bsM, cond_true, cond_false, Nat.reduceLT, Nat.reduceBEq, Nat.reduceAdd, Nat.reduceEqDiff, Nat.reduceMul, Nat.reduceLeDiff, Nat.reduceSub, Nat.reduceDiv, Int.reduceLE, Int.reduceLT, Int.reduceNeg, Int.reduceAdd, Int.reduceSub, Int.reduceMul, Int.reduceToNat, Int.reducePow, Int.reduceEq, ne_eq, reduceIte, repM, objsM, Obj.cells, iD, bsD, bD, reqM]
  by_cases h1 : r.ex = 0
  · have e1 : decide (r.ex = 0) = true := by simpa using h1
    simp only [↓ru, rv, rl, ry, tyf, iM, bM, bsM, cond_true, cond_false, Nat.reduceLT, Nat.reduceBEq, Nat.reduceAdd, Nat.reduceEqDiff, Nat.reduceMul, Nat.reduceLeDiff, Nat.reduceSub, Nat.reduceDiv, Int.reduceLE, Int.reduceLT, Int.reduceNeg, Int.reduceAdd, Int.reduceSub, Int.reduceMul, Int.reduceToNat, Int.reducePow, Int.reduceEq, ne_eq, reduceIte, repM, objsM, Obj.cells, iD, bsD, bD, reqM, e1]
    by_cases h2 : r.fn = 43
    · have e2 : decide (r.fn = 43) = true := by simpa using h2
      have hlen := validF_dev hv h1 h2
      simp only [↓ru, rv, rl, ry, tyf, iM, bM, bsM, cond_true, cond_false, Nat.reduceLT, Nat.reduceBEq, Nat.reduceAdd, Nat.reduceEqDiff, Nat.reduceMul, Nat.reduceLeDiff, Nat.reduceSub, Nat.reduceDiv, Int.reduceLE, Int.reduceLT, Int.reduceNeg, Int.reduceAdd, Int.reduceSub, Int.reduceMul, Int.reduceToNat, Int.reducePow, Int.reduceEq, ne_eq, reduceIte, repM, objsM, Obj.cells, iD, bsD, bD, reqM, e2]
      refine cut_fork [(1, .ptr 0 0), (4, .d (.v (.int .u8 ((if r.more then 255 else 0 : UInt8).toNat : Int))))] [(0, .st [iM r.fn, iM r.ex, bsM r.data, iM r.code, iM r.level, bM r.more, iM r.next, objsM r.objs])] 1 (fun b' hb => ?_) (fun e0 k => ?_)
      · refine fork_split (fun h => ?_) (fun h => ?_)
        · simp only [↓ru, rv, rl, ry, tyf, iM, bM, bsM, cond_true, cond_false, Nat.reduceLT, Nat.reduceBEq, Nat.reduceAdd, Nat.reduceEqDiff, Nat.reduceMul, Nat.reduceLeDiff, Nat.reduceSub, Nat.reduceDiv, Int.reduceLE, Int.reduceLT, Int.reduceNeg, Int.reduceAdd, Int.reduceSub, Int.reduceMul, Int.reduceToNat, Int.reducePow, Int.reduceEq, ne_eq, reduceIte, repM, objsM, Obj.cells, iD, bsD, bD, reqM]
          refine hb _ _ ?_ (by omega)
          simp only [↓ru, rv, rl, ry, tyf, iM, bM, bsM, cond_true, cond_false, Nat.reduceLT, Nat.reduceBEq, Nat.reduceAdd, Nat.reduceEqDiff, Nat.reduceMul, Nat.reduceLeDiff, Nat.reduceSub, Nat.reduceDiv, Int.reduceLE, Int.reduceLT, Int.reduceNeg, Int.reduceAdd, Int.reduceSub, Int.reduceMul, Int.reduceToNat, Int.reducePow, Int.reduceEq, ne_eq, reduceIte, repM, objsM, Obj.cells, iD, bsD, bD, reqM, h]
          rfl
        · simp only [↓ru, rv, rl, ry, tyf, iM, bM, bsM, cond_true, cond_false, Nat.reduceLT, Nat.reduceBEq, Nat.reduceAdd, Nat.reduceEqDiff, Nat.reduceMul, Nat.reduceLeDiff, Nat.reduceSub, Nat.reduceDiv, Int.reduceLE, Int.reduceLT, Int.reduceNeg, Int.reduceAdd, Int.reduceSub, Int.reduceMul, Int.reduceToNat, Int.reducePow, Int.reduceEq, ne_eq, reduceIte, repM, objsM, Obj.cells, iD, bsD, bD, reqM]
          refine hb _ _ ?_ (by omega)
          simp only [↓ru, rv, rl, ry, tyf, iM, bM, bsM, cond_true, cond_false, Nat.reduceLT, Nat.reduceBEq, Nat.reduceAdd, Nat.reduceEqDiff, Nat.reduceMul, Nat.reduceLeDiff, Nat.reduceSub, Nat.reduceDiv, Int.reduceLE, Int.reduceLT, Int.reduceNeg, Int.reduceAdd, Int.reduceSub, Int.reduceMul, Int.reduceToNat, Int.reducePow, Int.reduceEq, ne_eq, reduceIte, repM, objsM, Obj.cells, iD, bsD, bD, reqM, h]
          rfl
      simp only [↓ru, rv, rl, ry, tyf, iM, bM, bsM, cond_true, cond_false, Nat.reduceLT, Nat.reduceBEq, Nat.reduceAdd, Nat.reduceEqDiff, Nat.reduceMul, Nat.reduceLeDiff, Nat.reduceSub, Nat.reduceDiv, Int.reduceLE, Int.reduceLT, Int.reduceNeg, Int.reduceAdd, Int.reduceSub, Int.reduceMul, Int.reduceToNat, Int.reducePow, Int.reduceEq, ne_eq, reduceIte, repM, objsM, Obj.cells, iD, bsD, bD, reqM]
      refine aloop_lk (fun s : Nat => [(5, .hsl (k + 15) (encHead r ++ encObjs (r.objs.take s)).length), (1, .ptr 0 0), (6, iM s)])
        (fun s => [(k + 15, .ar false 1 (pure2 ((encHead r ++ encObjs (r.objs.take s)).map byteD))), (0, .st [iM r.fn, iM r.ex, bsM r.data, iM r.code, iM r.level, bM r.more, iM r.next, objsM r.objs])]) (fun s => s ≤ r.objs.length) (fun s => r.objs.length - s) k 16 0 ?_ ?_ (by omega) (by omega) ?_
      · simp only [↓ru, rv, rl, ry, tyf, iM, bM, bsM, cond_true, cond_false, Nat.reduceLT, Nat.reduceBEq, Nat.reduceAdd, Nat.reduceEqDiff, Nat.reduceMul, Nat.reduceLeDiff, Nat.reduceSub, Nat.reduceDiv, Int.reduceLE, Int.reduceLT, Int.reduceNeg, Int.reduceAdd, Int.reduceSub, Int.reduceMul, Int.reduceToNat, Int.reducePow, Int.reduceEq, ne_eq, reduceIte, repM, objsM, Obj.cells, iD, bsD, bD, reqM]; rfl
      · simp only [↓ru, rv, rl, ry, tyf, iM, bM, bsM, cond_true, cond_false, Nat.reduceLT, Nat.reduceBEq, Nat.reduceAdd, Nat.reduceEqDiff, Nat.reduceMul, Nat.reduceLeDiff, Nat.reduceSub, Nat.reduceDiv, Int.reduceLE, Int.reduceLT, Int.reduceNeg, Int.reduceAdd, Int.reduceSub, Int.reduceMul, Int.reduceToNat, Int.reducePow, Int.reduceEq, ne_eq, reduceIte, repM, objsM, Obj.cells, iD, bsD, bD, reqM]; rfl
      · intro i e1 n hi
        simp only [↓ru, rv, rl, ry, tyf, iM, bM, bsM, cond_true, cond_false, Nat.reduceLT, Nat.reduceBEq, Nat.reduceAdd, Nat.reduceEqDiff, Nat.reduceMul, Nat.reduceLeDiff, Nat.reduceSub, Nat.reduceDiv, Int.reduceLE, Int.reduceLT, Int.reduceNeg, Int.reduceAdd, Int.reduceSub, Int.reduceMul, Int.reduceToNat, Int.reducePow, Int.reduceEq, ne_eq, reduceIte, repM, objsM, Obj.cells, iD, bsD, bD, reqM]
        refine fork_split (fun h => ?_) (fun h => ?_)
        · have h' := of_decide_eq_true h
          obtain ⟨o, ho⟩ := get_of_lt (l := r.objs) (i := i) (by omega)
          have hs := encObjs_succ ho
          have hb := encObjs_take r.objs (i + 1)
          rw [hs] at hb
          have hb2 := objs_len_enc r.objs
          simp only [List.length_append, List.length_cons] at hb
          have hh : (encHead r).length = 7 := rfl
          simp only [↓ru, rv, rl, ry, tyf, iM, bM, bsM, cond_true, cond_false, Nat.reduceLT, Nat.reduceBEq, Nat.reduceAdd, Nat.reduceEqDiff, Nat.reduceMul, Nat.reduceLeDiff, Nat.reduceSub, Nat.reduceDiv, Int.reduceLE, Int.reduceLT, Int.reduceNeg, Int.reduceAdd, Int.reduceSub, Int.reduceMul, Int.reduceToNat, Int.reducePow, Int.reduceEq, ne_eq, reduceIte, repM, objsM, Obj.cells, iD, bsD, bD, reqM, ho]
          refine grd_intro (by simp only [List.length_append, pure2_length, List.length_map, List.length_cons, List.length_nil]; omega) ?_
          refine grd_intro (by simp only [List.length_append, pure2_length, List.length_map, List.length_cons, List.length_nil]; omega) ?_
          simp (disch := omega) only [wrap_i64, wrap_u8, wrap_u16, wrap_u64]
          refine loopL_drop (i + 1) ?_ ?_ (by omega) (by omega) (by omega)
          · simp only [↓ru, rv, rl, ry, tyf, iM, bM, bsM, cond_true, cond_false, Nat.reduceLT, Nat.reduceBEq, Nat.reduceAdd, Nat.reduceEqDiff, Nat.reduceMul, Nat.reduceLeDiff, Nat.reduceSub, Nat.reduceDiv, Int.reduceLE, Int.reduceLT, Int.reduceNeg, Int.reduceAdd, Int.reduceSub, Int.reduceMul, Int.reduceToNat, Int.reducePow, Int.reduceEq, ne_eq, reduceIte, repM, objsM, Obj.cells, iD, bsD, bD, reqM, hs]
            simp [pure2_length]; omega
          · simp only [↓ru, rv, rl, ry, tyf, iM, bM, bsM, cond_true, cond_false, Nat.reduceLT, Nat.reduceBEq, Nat.reduceAdd, Nat.reduceEqDiff, Nat.reduceMul, Nat.reduceLeDiff, Nat.reduceSub, Nat.reduceDiv, Int.reduceLE, Int.reduceLT, Int.reduceNeg, Int.reduceAdd, Int.reduceSub, Int.reduceMul, Int.reduceToNat, Int.reducePow, Int.reduceEq, ne_eq, reduceIte, repM, objsM, Obj.cells, iD, bsD, bD, reqM, hs]
            simp [pure2, byteD]
        · have h' := of_decide_eq_false h
          obtain rfl : i = r.objs.length := by omega
          simp only [↓ru, rv, rl, ry, tyf, iM, bM, bsM, cond_true, cond_false, Nat.reduceLT, Nat.reduceBEq, Nat.reduceAdd, Nat.reduceEqDiff, Nat.reduceMul, Nat.reduceLeDiff, Nat.reduceSub, Nat.reduceDiv, Int.reduceLE, Int.reduceLT, Int.reduceNeg, Int.reduceAdd, Int.reduceSub, Int.reduceMul, Int.reduceToNat, Int.reducePow, Int.reduceEq, ne_eq, reduceIte, repM, objsM, Obj.cells, iD, bsD, bD, reqM, pureEnd_of (fn := Try.f49) (rs := [.tmp 2, .tmp 3]) (ts := [22, 24]) rfl rfl, List.take_length]
          rw [hR]
          simp [encF, h1, h2]
    · have e2 : decide (r.fn = 43) = false := by simpa using h2
      have hlen := validF_data hv h1 h2
      simp only [↓ru, rv, rl, ry, tyf, iM, bM, bsM, cond_true, cond_false, Nat.reduceLT, Nat.reduceBEq, Nat.reduceAdd, Nat.reduceEqDiff, Nat.reduceMul, Nat.reduceLeDiff, Nat.reduceSub, Nat.reduceDiv, Int.reduceLE, Int.reduceLT, Int.reduceNeg, Int.reduceAdd, Int.reduceSub, Int.reduceMul, Int.reduceToNat, Int.reducePow, Int.reduceEq, ne_eq, reduceIte, repM, objsM, Obj.cells, iD, bsD, bD, reqM, e2]
      refine grd_intro (by omega) ?_
      simp only [↓ru, rv, rl, ry, tyf, iM, bM, bsM, cond_true, cond_false, Nat.reduceLT, Nat.reduceBEq, Nat.reduceAdd, Nat.reduceEqDiff, Nat.reduceMul, Nat.reduceLeDiff, Nat.reduceSub, Nat.reduceDiv, Int.reduceLE, Int.reduceLT, Int.reduceNeg, Int.reduceAdd, Int.reduceSub, Int.reduceMul, Int.reduceToNat, Int.reducePow, Int.reduceEq, ne_eq, reduceIte, repM, objsM, Obj.cells, iD, bsD, bD, reqM, pureEnd_of (fn := Try.f49) (rs := [.tmp 2, .tmp 3]) (ts := [22, 24]) rfl rfl]
      rw [hR]
      simp [encF, h1, h2, byteD]
  · have e1 : decide (r.ex = 0) = false := by simpa using h1
    simp only [↓ru, rv, rl, ry, tyf, iM, bM, bsM, cond_true, cond_false, Nat.reduceLT, Nat.reduceBEq, Nat.reduceAdd, Nat.reduceEqDiff, Nat.reduceMul, Nat.reduceLeDiff, Nat.reduceSub, Nat.reduceDiv, Int.reduceLE, Int.reduceLT, Int.reduceNeg, Int.reduceAdd, Int.reduceSub, Int.reduceMul, Int.reduceToNat, Int.reducePow, Int.reduceEq, ne_eq, reduceIte, repM, objsM, Obj.cells, iD, bsD, bD, reqM, e1]
    simp (disch := omega) only [wrap_i64, wrap_u8, wrap_u16, wrap_u64]
    simp only [↓ru, rv, rl, ry, tyf, iM, bM, bsM, cond_true, cond_false, Nat.reduceLT, Nat.reduceBEq, Nat.reduceAdd, Nat.reduceEqDiff, Nat.reduceMul, Nat.reduceLeDiff, Nat.reduceSub, Nat.reduceDiv, Int.reduceLE, Int.reduceLT, Int.reduceNeg, Int.reduceAdd, Int.reduceSub, Int.reduceMul, Int.reduceToNat, Int.reducePow, Int.reduceEq, ne_eq, reduceIte, repM, objsM, Obj.cells, iD, bsD, bD, reqM, pureEnd_of (fn := Try.f49) (rs := [.tmp 2, .tmp 3]) (ts := [22, 24]) rfl rfl]
    rw [hR]
    simp [encF, h1, byteD]

end Go.R2

import Derived.Test.YtalbgijagdmdcaaP3
set_option linter.all false
open Go.Proofs Go.Abs Go.FaR2
namespace Go.R2
-- rules: intsM, intD, iD, bsD, bD, setM, setsM, Setg.cells, ranM, ransM, Ran.cells, tabM, slvM, slvsM, Slv.cells, objsM, Obj.cells, reqM, repM, byteD
set_option maxHeartbeats 4000000
set_option maxRecDepth 10000
/-- The contents of a table's addresses, in a reply. -/
def wordAt (q : Req) (v : Int) (i : Nat) : Int := wordF q.fn (q.addr + i) v
def bitAt (q : Req) (v : Int) (i : Nat) : Bool := decide (wordAt q v i % 2 = 1)
def regs (q : Req) (v : Int) (n : Nat) : List UInt8 := (List.range n).flatMap fun i => [u8 (wordAt q v i / 256), u8 (wordAt q v i)]
def dataF (q : Req) (v : Int) : List UInt8 := if 3 ≤ q.fn then regs q v q.qty.toNat else packB (bitAt q v) q.qty.toNat ((q.qty.toNat + 7) / 8)
def readT (t : Tab) (q : Req) (v : Int) : Rep :=
  if t.sup = false then refF q 1 else if t.most < q.qty then refF q 3 else if coverF t.read ⟨q.addr, q.qty⟩ = false then refF q 2 else ⟨q.fn, 0, dataF q v, 0, 0, false, 0, []⟩
theorem regs_len (q : Req) (v : Int) : ∀ n, (regs q v n).length = 2 * n
  | 0 => rfl
  | n + 1 => by
    have := regs_len q v n
    simp only [regs, List.range_succ, List.flatMap_append, List.length_append] at this ⊢
    simp [this]; omega
theorem regs_succ (q : Req) (v : Int) (n : Nat) : regs q v (n + 1) = regs q v n ++ [u8 (wordAt q v n / 256), u8 (wordAt q v n)] := by
  simp [regs, List.range_succ]
structure Req.Tb (q : Req) : Prop where
  fn : 1 ≤ q.fn ∧ q.fn ≤ 4
  qty : 1 ≤ q.qty ∧ q.qty ≤ 2000
  addr : 0 ≤ q.addr ∧ q.addr < 65536
theorem wordF_le (t a v : Int) : 0 ≤ wordF t a v ∧ wordF t a v < 65536 := by
  unfold wordF; split <;> omega
theorem lim125 {f : Int} (h : 1 ≤ f ∧ f ≤ 4) : decide (limitF f = 125) = decide (3 ≤ f) := by
  unfold limitF
  rw [decide_eq_decide]
  split
  · omega
  · split <;> omega
theorem t103 (t : Tab) (q : Req) (v : Int) (hl : t.read.length ≤ 9223372036854775807) (h : q.Tb) : PFn Try.prog 103 [tabM t, reqM q, iM v] (repM (readT t q v)) := by
  refine PFn.of (prs := [(16, [(0, 8), (1, 8), (3, 8), (4, 8), (5, 8), (8, 10)])]) Try.func103 rfl rfl mix (by kernel_rfl) rfl rfl ?_
  simp only [Try.ntmps103, argUpd]
  obtain ⟨hf, hq, ha⟩ := h
  simp only [↓ru, rv, rl, ry, tyf, iM, bM, bsM, cond_true, cond_false, Nat.reduceLT, Nat.reduceBEq, Nat.reduceAdd, Nat.reduceEqDiff, Nat.reduceMul, Nat.reduceLeDiff, Nat.reduceSub, Nat.reduceDiv, Int.reduceLE, Int.reduceLT, Int.reduceNeg, Int.reduceAdd, Int.reduceSub, Int.reduceMul, Int.reduceToNat, Int.reducePow, Int.reduceEq, ne_eq, reduceIte, intsM, intD, iD, bsD, bD, setM, setsM, Setg.cells, ranM, ransM, Ran.cells, tabM, slvM, slvsM, Slv.cells, objsM, Obj.cells, reqM, repM, byteD]
  cases hs : t.sup with
  | false =>
    simp only [↓ru, rv, rl, ry, tyf, iM, bM, bsM, cond_true, cond_false, Nat.reduceLT, Nat.reduceBEq, Nat.reduceAdd, Nat.reduceEqDiff, Nat.reduceMul, Nat.reduceLeDiff, Nat.reduceSub, Nat.reduceDiv, Int.reduceLE, Int.reduceLT, Int.reduceNeg, Int.reduceAdd, Int.reduceSub, Int.reduceMul, Int.reduceToNat, Int.reducePow, Int.reduceEq, ne_eq, reduceIte, intsM, intD, iD, bsD, bD, setM, setsM, Setg.cells, ranM, ransM, Ran.cells, tabM, slvM, slvsM, Slv.cells, objsM, Obj.cells, reqM, repM, byteD]
    refine acall1_pure (t104 q 1) rfl rfl ?_
    simp only [↓ru, rv, rl, ry, tyf, iM, bM, bsM, cond_true, cond_false, Nat.reduceLT, Nat.reduceBEq, Nat.reduceAdd, Nat.reduceEqDiff, Nat.reduceMul, Nat.reduceLeDiff, Nat.reduceSub, Nat.reduceDiv, Int.reduceLE, Int.reduceLT, Int.reduceNeg, Int.reduceAdd, Int.reduceSub, Int.reduceMul, Int.reduceToNat, Int.reducePow, Int.reduceEq, ne_eq, reduceIte, intsM, intD, iD, bsD, bD, setM, setsM, Setg.cells, ranM, ransM, Ran.cells, tabM, slvM, slvsM, Slv.cells, objsM, Obj.cells, reqM, repM, byteD, pureEnd_of (fn := Try.f103) (rs := [.cell 6 77]) (ts := [77]) rfl rfl, readT, hs, refF]
  | true =>
  simp only [↓ru, rv, rl, ry, tyf, iM, bM, bsM, cond_true, cond_false, Nat.reduceLT, Nat.reduceBEq, Nat.reduceAdd, Nat.reduceEqDiff, Nat.reduceMul, Nat.reduceLeDiff, Nat.reduceSub, Nat.reduceDiv, Int.reduceLE, Int.reduceLT, Int.reduceNeg, Int.reduceAdd, Int.reduceSub, Int.reduceMul, Int.reduceToNat, Int.reducePow, Int.reduceEq, ne_eq, reduceIte, intsM, intD, iD, bsD, bD, setM, setsM, Setg.cells, ranM, ransM, Ran.cells, tabM, slvM, slvsM, Slv.cells, objsM, Obj.cells, reqM, repM, byteD]
  by_cases hm : t.most < q.qty
  · have dm : decide (t.most < q.qty) = true := by simpa using hm
    simp only [↓ru, rv, rl, ry, tyf, iM, bM, bsM, cond_true, cond_false, Nat.reduceLT, Nat.reduceBEq, Nat.reduceAdd, Nat.reduceEqDiff, Nat.reduceMul, Nat.reduceLeDiff, Nat.reduceSub, Nat.reduceDiv, Int.reduceLE, Int.reduceLT, Int.reduceNeg, Int.reduceAdd, Int.reduceSub, Int.reduceMul, Int.reduceToNat, Int.reducePow, Int.reduceEq, ne_eq, reduceIte, intsM, intD, iD, bsD, bD, setM, setsM, Setg.cells, ranM, ransM, Ran.cells, tabM, slvM, slvsM, Slv.cells, objsM, Obj.cells, reqM, repM, byteD, dm]
    refine acall1_pure (t104 q 3) rfl rfl ?_
    simp only [↓ru, rv, rl, ry, tyf, iM, bM, bsM, cond_true, cond_false, Nat.reduceLT, Nat.reduceBEq, Nat.reduceAdd, Nat.reduceEqDiff, Nat.reduceMul, Nat.reduceLeDiff, Nat.reduceSub, Nat.reduceDiv, Int.reduceLE, Int.reduceLT, Int.reduceNeg, Int.reduceAdd, Int.reduceSub, Int.reduceMul, Int.reduceToNat, Int.reducePow, Int.reduceEq, ne_eq, reduceIte, intsM, intD, iD, bsD, bD, setM, setsM, Setg.cells, ranM, ransM, Ran.cells, tabM, slvM, slvsM, Slv.cells, objsM, Obj.cells, reqM, repM, byteD, pureEnd_of (fn := Try.f103) (rs := [.cell 6 77]) (ts := [77]) rfl rfl, readT, hs, refF]
    simp [hm]
  have dm : decide (t.most < q.qty) = false := by simpa using hm
  simp only [↓ru, rv, rl, ry, tyf, iM, bM, bsM, cond_true, cond_false, Nat.reduceLT, Nat.reduceBEq, Nat.reduceAdd, Nat.reduceEqDiff, Nat.reduceMul, Nat.reduceLeDiff, Nat.reduceSub, Nat.reduceDiv, Int.reduceLE, Int.reduceLT, Int.reduceNeg, Int.reduceAdd, Int.reduceSub, Int.reduceMul, Int.reduceToNat, Int.reducePow, Int.reduceEq, ne_eq, reduceIte, intsM, intD, iD, bsD, bD, setM, setsM, Setg.cells, ranM, ransM, Ran.cells, tabM, slvM, slvsM, Slv.cells, objsM, Obj.cells, reqM, repM, byteD, dm]
  refine acall1_pure (t123 t.read ⟨q.addr, q.qty⟩ hl) rfl rfl ?_
  cases hc : coverF t.read ⟨q.addr, q.qty⟩ with
  | false =>
    simp only [↓ru, rv, rl, ry, tyf, iM, bM, bsM, cond_true, cond_false, Nat.reduceLT, Nat.reduceBEq, Nat.reduceAdd, Nat.reduceEqDiff, Nat.reduceMul, Nat.reduceLeDiff, Nat.reduceSub, Nat.reduceDiv, Int.reduceLE, Int.reduceLT, Int.reduceNeg, Int.reduceAdd, Int.reduceSub, Int.reduceMul, Int.reduceToNat, Int.reducePow, Int.reduceEq, ne_eq, reduceIte, intsM, intD, iD, bsD, bD, setM, setsM, Setg.cells, ranM, ransM, Ran.cells, tabM, slvM, slvsM, Slv.cells, objsM, Obj.cells, reqM, repM, byteD]
    refine acall1_pure (t104 q 2) rfl rfl ?_
    simp only [↓ru, rv, rl, ry, tyf, iM, bM, bsM, cond_true, cond_false, Nat.reduceLT, Nat.reduceBEq, Nat.reduceAdd, Nat.reduceEqDiff, Nat.reduceMul, Nat.reduceLeDiff, Nat.reduceSub, Nat.reduceDiv, Int.reduceLE, Int.reduceLT, Int.reduceNeg, Int.reduceAdd, Int.reduceSub, Int.reduceMul, Int.reduceToNat, Int.reducePow, Int.reduceEq, ne_eq, reduceIte, intsM, intD, iD, bsD, bD, setM, setsM, Setg.cells, ranM, ransM, Ran.cells, tabM, slvM, slvsM, Slv.cells, objsM, Obj.cells, reqM, repM, byteD, pureEnd_of (fn := Try.f103) (rs := [.cell 6 77]) (ts := [77]) rfl rfl, readT, hs, refF]
    simp [hm, hc]
  | true =>
  have hF : readT t q v = ⟨q.fn, 0, dataF q v, 0, 0, false, 0, []⟩ := by simp [readT, hs, hm, hc]
  rw [hF]
  simp only [↓ru, rv, rl, ry, tyf, iM, bM, bsM, cond_true, cond_false, Nat.reduceLT, Nat.reduceBEq, Nat.reduceAdd, Nat.reduceEqDiff, Nat.reduceMul, Nat.reduceLeDiff, Nat.reduceSub, Nat.reduceDiv, Int.reduceLE, Int.reduceLT, Int.reduceNeg, Int.reduceAdd, Int.reduceSub, Int.reduceMul, Int.reduceToNat, Int.reducePow, Int.reduceEq, ne_eq, reduceIte, intsM, intD, iD, bsD, bD, setM, setsM, Setg.cells, ranM, ransM, Ran.cells, tabM, slvM, slvsM, Slv.cells, objsM, Obj.cells, reqM, repM, byteD]
  refine aloop_thawBox (p := 26) (j := 2) (c := [iM q.fn, iM 0, .d (.v (.slice none 0 0)), iM 0, iM 0, bM false, iM 0, .d (.v (.slice none 0 0))]) 1 (by simp only [↓ru, rv, rl, ry, tyf, iM, bM, bsM, cond_true, cond_false, Nat.reduceLT, Nat.reduceBEq, Nat.reduceAdd, Nat.reduceEqDiff, Nat.reduceMul, Nat.reduceLeDiff, Nat.reduceSub, Nat.reduceDiv, Int.reduceLE, Int.reduceLT, Int.reduceNeg, Int.reduceAdd, Int.reduceSub, Int.reduceMul, Int.reduceToNat, Int.reducePow, Int.reduceEq, ne_eq, reduceIte, intsM, intD, iD, bsD, bD, setM, setsM, Setg.cells, ranM, ransM, Ran.cells, tabM, slvM, slvsM, Slv.cells, objsM, Obj.cells, reqM, repM, byteD]) rfl ?_
  have hwl := fun i => wordF_le q.fn (q.addr + (i : Nat)) v
  by_cases h3 : 3 ≤ q.fn
  · have d3 := lim125 hf
    rw [decide_eq_true h3] at d3
    have hD : dataF q v = regs q v q.qty.toNat := by rw [dataF, if_pos h3]
    rw [hD]
    refine aloop_lk (fun i : Nat => [(2, iM v), (4, .ptr 1 0), (6, .ptr 2 0), (7, .ptr 26 0), (40, iM q.qty), (41, iM i)])
      (fun i => [(31, .ar false 1 (pure2 ((regs q v i).map byteD))), (26, .st [iM q.fn, iM 0, .hsl 31 (regs q v i).length, iM 0, iM 0, bM false, iM 0, .d (.v (.slice none 0 0))]),
        (2, .st [iM 0, iM 0, .d (.v (.slice none 0 0)), iM 0, iM 0, bM false, iM 0, .d (.v (.slice none 0 0))]), (1, .st [iM q.fn, iM q.addr, iM q.qty, iM q.code, iM q.obj])])
      (fun i => (i : Int) ≤ q.qty) (fun i => q.qty.toNat - i) 0 32 0 (by simp only [↓ru, rv, rl, ry, tyf, iM, bM, bsM, cond_true, cond_false, Nat.reduceLT, Nat.reduceBEq, Nat.reduceAdd, Nat.reduceEqDiff, Nat.reduceMul, Nat.reduceLeDiff, Nat.reduceSub, Nat.reduceDiv, Int.reduceLE, Int.reduceLT, Int.reduceNeg, Int.reduceAdd, Int.reduceSub, Int.reduceMul, Int.reduceToNat, Int.reducePow, Int.reduceEq, ne_eq, reduceIte, intsM, intD, iD, bsD, bD, setM, setsM, Setg.cells, ranM, ransM, Ran.cells, tabM, slvM, slvsM, Slv.cells, objsM, Obj.cells, reqM, repM, byteD]) (by simp only [↓ru, rv, rl, ry, tyf, iM, bM, bsM, cond_true, cond_false, Nat.reduceLT, Nat.reduceBEq, Nat.reduceAdd, Nat.reduceEqDiff, Nat.reduceMul, Nat.reduceLeDiff, Nat.reduceSub, Nat.reduceDiv, Int.reduceLE, Int.reduceLT, Int.reduceNeg, Int.reduceAdd, Int.reduceSub, Int.reduceMul, Int.reduceToNat, Int.reducePow, Int.reduceEq, ne_eq, reduceIte, intsM, intD, iD, bsD, bD, setM, setsM, Setg.cells, ranM, ransM, Ran.cells, tabM, slvM, slvsM, Slv.cells, objsM, Obj.cells, reqM, repM, byteD]; exact ⟨rfl, rfl⟩) (by omega) (by omega) ?_
    intro i e0 n hi
    simp only [↓ru, rv, rl, ry, tyf, iM, bM, bsM, cond_true, cond_false, Nat.reduceLT, Nat.reduceBEq, Nat.reduceAdd, Nat.reduceEqDiff, Nat.reduceMul, Nat.reduceLeDiff, Nat.reduceSub, Nat.reduceDiv, Int.reduceLE, Int.reduceLT, Int.reduceNeg, Int.reduceAdd, Int.reduceSub, Int.reduceMul, Int.reduceToNat, Int.reducePow, Int.reduceEq, ne_eq, reduceIte, intsM, intD, iD, bsD, bD, setM, setsM, Setg.cells, ranM, ransM, Ran.cells, tabM, slvM, slvsM, Slv.cells, objsM, Obj.cells, reqM, repM, byteD]
    refine fork_split (fun h => ?_) (fun h => ?_)
    · have h' := of_decide_eq_true h
      simp only [↓ru, rv, rl, ry, tyf, iM, bM, bsM, cond_true, cond_false, Nat.reduceLT, Nat.reduceBEq, Nat.reduceAdd, Nat.reduceEqDiff, Nat.reduceMul, Nat.reduceLeDiff, Nat.reduceSub, Nat.reduceDiv, Int.reduceLE, Int.reduceLT, Int.reduceNeg, Int.reduceAdd, Int.reduceSub, Int.reduceMul, Int.reduceToNat, Int.reducePow, Int.reduceEq, ne_eq, reduceIte, intsM, intD, iD, bsD, bD, setM, setsM, Setg.cells, ranM, ransM, Ran.cells, tabM, slvM, slvsM, Slv.cells, objsM, Obj.cells, reqM, repM, byteD]
      simp (disch := omega) only [wrap_i64, wrap_u8, wrap_u16, wrap_u64]
      refine acall1_pure (t61 q.fn (q.addr + i) v) rfl rfl ?_
      simp only [↓ru, rv, rl, ry, tyf, iM, bM, bsM, cond_true, cond_false, Nat.reduceLT, Nat.reduceBEq, Nat.reduceAdd, Nat.reduceEqDiff, Nat.reduceMul, Nat.reduceLeDiff, Nat.reduceSub, Nat.reduceDiv, Int.reduceLE, Int.reduceLT, Int.reduceNeg, Int.reduceAdd, Int.reduceSub, Int.reduceMul, Int.reduceToNat, Int.reducePow, Int.reduceEq, ne_eq, reduceIte, intsM, intD, iD, bsD, bD, setM, setsM, Setg.cells, ranM, ransM, Ran.cells, tabM, slvM, slvsM, Slv.cells, objsM, Obj.cells, reqM, repM, byteD]
      refine acall1_pure (t117 q.fn) rfl rfl ?_
      simp only [↓ru, rv, rl, ry, tyf, iM, bM, bsM, cond_true, cond_false, Nat.reduceLT, Nat.reduceBEq, Nat.reduceAdd, Nat.reduceEqDiff, Nat.reduceMul, Nat.reduceLeDiff, Nat.reduceSub, Nat.reduceDiv, Int.reduceLE, Int.reduceLT, Int.reduceNeg, Int.reduceAdd, Int.reduceSub, Int.reduceMul, Int.reduceToNat, Int.reducePow, Int.reduceEq, ne_eq, reduceIte, intsM, intD, iD, bsD, bD, setM, setsM, Setg.cells, ranM, ransM, Ran.cells, tabM, slvM, slvsM, Slv.cells, objsM, Obj.cells, reqM, repM, byteD, d3]
      have hr : pure2 ((regs q v i).map byteD) ++ [[M.d (.v (.int .u8 ((u8 (wordF q.fn (q.addr + i) v / 256)).toNat : Int)))], [M.d (.v (.int .u8 ((u8 (wordF q.fn (q.addr + i) v)).toNat : Int)))]] = pure2 ((regs q v (i + 1)).map byteD) := by
        rw [regs_succ]; simp [pure2, byteD, wordAt]
      rw [hr]
      simp only [pure2_length, List.length_map, regs_len]
      refine grd_intro (by omega) ?_
      simp (disch := omega) only [wrap_i64, wrap_u8, wrap_u16, wrap_u64]
      refine loopL_drop (i + 1) (by simp only [↓ru, rv, rl, ry, tyf, iM, bM, bsM, cond_true, cond_false, Nat.reduceLT, Nat.reduceBEq, Nat.reduceAdd, Nat.reduceEqDiff, Nat.reduceMul, Nat.reduceLeDiff, Nat.reduceSub, Nat.reduceDiv, Int.reduceLE, Int.reduceLT, Int.reduceNeg, Int.reduceAdd, Int.reduceSub, Int.reduceMul, Int.reduceToNat, Int.reducePow, Int.reduceEq, ne_eq, reduceIte, intsM, intD, iD, bsD, bD, setM, setsM, Setg.cells, ranM, ransM, Ran.cells, tabM, slvM, slvsM, Slv.cells, objsM, Obj.cells, reqM, repM, byteD]; (try simp)) (by simp only [↓ru, rv, rl, ry, tyf, iM, bM, bsM, cond_true, cond_false, Nat.reduceLT, Nat.reduceBEq, Nat.reduceAdd, Nat.reduceEqDiff, Nat.reduceMul, Nat.reduceLeDiff, Nat.reduceSub, Nat.reduceDiv, Int.reduceLE, Int.reduceLT, Int.reduceNeg, Int.reduceAdd, Int.reduceSub, Int.reduceMul, Int.reduceToNat, Int.reducePow, Int.reduceEq, ne_eq, reduceIte, intsM, intD, iD, bsD, bD, setM, setsM, Setg.cells, ranM, ransM, Ran.cells, tabM, slvM, slvsM, Slv.cells, objsM, Obj.cells, reqM, repM, byteD]; (try simp [regs_len])) (by omega) (by omega) (by omega)
    · have h' := of_decide_eq_false h
      obtain rfl : i = q.qty.toNat := by omega
      simp only [↓ru, rv, rl, ry, tyf, iM, bM, bsM, cond_true, cond_false, Nat.reduceLT, Nat.reduceBEq, Nat.reduceAdd, Nat.reduceEqDiff, Nat.reduceMul, Nat.reduceLeDiff, Nat.reduceSub, Nat.reduceDiv, Int.reduceLE, Int.reduceLT, Int.reduceNeg, Int.reduceAdd, Int.reduceSub, Int.reduceMul, Int.reduceToNat, Int.reducePow, Int.reduceEq, ne_eq, reduceIte, intsM, intD, iD, bsD, bD, setM, setsM, Setg.cells, ranM, ransM, Ran.cells, tabM, slvM, slvsM, Slv.cells, objsM, Obj.cells, reqM, repM, byteD, pureEnd_of (fn := Try.f103) (rs := [.cell 6 77]) (ts := [77]) rfl rfl]
  · have d3 := lim125 hf
    rw [decide_eq_false h3] at d3
    have hD : dataF q v = packB (bitAt q v) q.qty.toNat ((q.qty.toNat + 7) / 8) := by rw [dataF, if_neg h3]
    rw [hD]
    refine aloop_lk (fun i : Nat => [(2, iM v), (4, .ptr 1 0), (6, .ptr 2 0), (7, .ptr 26 0), (40, iM q.qty), (41, iM i)])
      (fun i => [(31, .ar false 1 (pure2 ((packB (bitAt q v) i ((i + 7) / 8)).map byteD))), (26, .st [iM q.fn, iM 0, .hsl 31 ((i + 7) / 8), iM 0, iM 0, bM false, iM 0, .d (.v (.slice none 0 0))]),
        (2, .st [iM 0, iM 0, .d (.v (.slice none 0 0)), iM 0, iM 0, bM false, iM 0, .d (.v (.slice none 0 0))]), (1, .st [iM q.fn, iM q.addr, iM q.qty, iM q.code, iM q.obj])])
      (fun i => (i : Int) ≤ q.qty) (fun i => q.qty.toNat - i) 0 32 0 (by simp only [↓ru, rv, rl, ry, tyf, iM, bM, bsM, cond_true, cond_false, Nat.reduceLT, Nat.reduceBEq, Nat.reduceAdd, Nat.reduceEqDiff, Nat.reduceMul, Nat.reduceLeDiff, Nat.reduceSub, Nat.reduceDiv, Int.reduceLE, Int.reduceLT, Int.reduceNeg, Int.reduceAdd, Int.reduceSub, Int.reduceMul, Int.reduceToNat, Int.reducePow, Int.reduceEq, ne_eq, reduceIte, intsM, intD, iD, bsD, bD, setM, setsM, Setg.cells, ranM, ransM, Ran.cells, tabM, slvM, slvsM, Slv.cells, objsM, Obj.cells, reqM, repM, byteD]) (by simp only [↓ru, rv, rl, ry, tyf, iM, bM, bsM, cond_true, cond_false, Nat.reduceLT, Nat.reduceBEq, Nat.reduceAdd, Nat.reduceEqDiff, Nat.reduceMul, Nat.reduceLeDiff, Nat.reduceSub, Nat.reduceDiv, Int.reduceLE, Int.reduceLT, Int.reduceNeg, Int.reduceAdd, Int.reduceSub, Int.reduceMul, Int.reduceToNat, Int.reducePow, Int.reduceEq, ne_eq, reduceIte, intsM, intD, iD, bsD, bD, setM, setsM, Setg.cells, ranM, ransM, Ran.cells, tabM, slvM, slvsM, Slv.cells, objsM, Obj.cells, reqM, repM, byteD]; rfl) (by omega) (by omega) ?_
    intro i e0 n hi
    have hpl := packB_len (bitAt q v) i ((i + 7) / 8)
    simp only [↓ru, rv, rl, ry, tyf, iM, bM, bsM, cond_true, cond_false, Nat.reduceLT, Nat.reduceBEq, Nat.reduceAdd, Nat.reduceEqDiff, Nat.reduceMul, Nat.reduceLeDiff, Nat.reduceSub, Nat.reduceDiv, Int.reduceLE, Int.reduceLT, Int.reduceNeg, Int.reduceAdd, Int.reduceSub, Int.reduceMul, Int.reduceToNat, Int.reducePow, Int.reduceEq, ne_eq, reduceIte, intsM, intD, iD, bsD, bD, setM, setsM, Setg.cells, ranM, ransM, Ran.cells, tabM, slvM, slvsM, Slv.cells, objsM, Obj.cells, reqM, repM, byteD]
    refine fork_split (fun h => ?_) (fun h => ?_)
    · have h' := of_decide_eq_true h
      simp only [↓ru, rv, rl, ry, tyf, iM, bM, bsM, cond_true, cond_false, Nat.reduceLT, Nat.reduceBEq, Nat.reduceAdd, Nat.reduceEqDiff, Nat.reduceMul, Nat.reduceLeDiff, Nat.reduceSub, Nat.reduceDiv, Int.reduceLE, Int.reduceLT, Int.reduceNeg, Int.reduceAdd, Int.reduceSub, Int.reduceMul, Int.reduceToNat, Int.reducePow, Int.reduceEq, ne_eq, reduceIte, intsM, intD, iD, bsD, bD, setM, setsM, Setg.cells, ranM, ransM, Ran.cells, tabM, slvM, slvsM, Slv.cells, objsM, Obj.cells, reqM, repM, byteD]
      simp (disch := omega) only [wrap_i64, wrap_u8, wrap_u16, wrap_u64]
      refine acall1_pure (t61 q.fn (q.addr + i) v) rfl rfl ?_
      simp only [↓ru, rv, rl, ry, tyf, iM, bM, bsM, cond_true, cond_false, Nat.reduceLT, Nat.reduceBEq, Nat.reduceAdd, Nat.reduceEqDiff, Nat.reduceMul, Nat.reduceLeDiff, Nat.reduceSub, Nat.reduceDiv, Int.reduceLE, Int.reduceLT, Int.reduceNeg, Int.reduceAdd, Int.reduceSub, Int.reduceMul, Int.reduceToNat, Int.reducePow, Int.reduceEq, ne_eq, reduceIte, intsM, intD, iD, bsD, bD, setM, setsM, Setg.cells, ranM, ransM, Ran.cells, tabM, slvM, slvsM, Slv.cells, objsM, Obj.cells, reqM, repM, byteD]
      refine acall1_pure (t117 q.fn) rfl rfl ?_
      simp only [↓ru, rv, rl, ry, tyf, iM, bM, bsM, cond_true, cond_false, Nat.reduceLT, Nat.reduceBEq, Nat.reduceAdd, Nat.reduceEqDiff, Nat.reduceMul, Nat.reduceLeDiff, Nat.reduceSub, Nat.reduceDiv, Int.reduceLE, Int.reduceLT, Int.reduceNeg, Int.reduceAdd, Int.reduceSub, Int.reduceMul, Int.reduceToNat, Int.reducePow, Int.reduceEq, ne_eq, reduceIte, intsM, intD, iD, bsD, bD, setM, setsM, Setg.cells, ranM, ransM, Ran.cells, tabM, slvM, slvsM, Slv.cells, objsM, Obj.cells, reqM, repM, byteD, d3]
      have htd : IntKind.i64.wrap ((i : Int).tdiv 8) = ((i / 8 : Nat) : Int) := by
        rw [Int.tdiv_eq_ediv_of_nonneg (by omega), wrap_i64 (by omega) (by omega)]; omega
      have htm : (i : Int).tmod 8 = ((i % 8 : Nat) : Int) := by
        rw [Int.tmod_eq_emod_of_nonneg (by omega)]; omega
      have hget : (pure2 ((packB (bitAt q v) i (i / 8 + 1)).map byteD))[i / 8]? = some [M.d (.v (.int .u8 ((bb (bitAt q v) (8 * (i / 8)) (i % 8) : Nat) : Int)))] := by
        rw [pure2_get, List.getElem?_map, packB_get _ _ _ _ (by omega)]
        simp only [Option.map_some, byteD, List.map_cons, List.map_nil]
        rw [show min 8 (i - 8 * (i / 8)) = i % 8 by omega, bb_byte]
      have hbit : ((u8 (bAnd .i64 (wordF q.fn (q.addr + i) v) 1)).toNat : Int) = ((if bitAt q v i then 1 else 0 : Nat) : Int) := by
        have := hwl i
        rw [bAnd_one (by omega), u8_toNat]
        by_cases hb : wordF q.fn (q.addr + i) v % 2 = 1
        · have : bitAt q v i = true := by simp [bitAt, wordAt, hb]
          rw [this, if_pos rfl]; omega
        · have : bitAt q v i = false := by simp [bitAt, wordAt, hb]
          rw [this, if_neg (by simp)]; omega
      have hlt : i % 8 < 8 := by omega
      have hb1 : (if bitAt q v i then 1 else 0 : Nat) ≤ 1 := by split <;> omega
      generalize hβ : (if bitAt q v i then 1 else 0 : Nat) = β at hbit hb1
      have hp128 : 2 ^ (i % 8) ≤ 128 := by
        have := Nat.pow_le_pow_right (show 0 < 2 by omega) (show i % 8 ≤ 7 by omega)
        omega
      have hβp : β * 2 ^ (i % 8) ≤ 2 ^ (i % 8) := by
        have := Nat.mul_le_mul_right (2 ^ (i % 8)) hb1
        omega
      have hshl : ∀ {t : TypeId} {xo yo : Operand} {B : Bx} {K : K2}, aBin Try.prog .shl t xo yo (.d (.v (.int .u8 (β : Int)))) (.d (.v (.int .i64 ((i % 8 : Nat) : Int)))) B K = kk K (.d (.v (.int .u8 ((β * 2 ^ (i % 8) : Nat) : Int)))) B := by
        intro t xo yo B K
        have e : (β : Int) * 2 ^ (((i % 8 : Nat) : Int).toNat) = ((β * 2 ^ (i % 8) : Nat) : Int) := by rw [Int.toNat_natCast]; simp
        rw [bin_shl (by omega) (by show ((i % 8 : Nat) : Int) ≤ 8; omega), e, wrap_u8 (by omega) (by omega)]
        rfl
      have hor := bOr_u8 (bb_lt (bitAt q v) (8 * (i / 8)) (i % 8)) hlt hb1
      have hbbl := bb_lt (bitAt q v) (8 * (i / 8)) (i % 8)
      have hst : ((bb (bitAt q v) (8 * (i / 8)) (i % 8) + β * 2 ^ (i % 8) : Nat) : Int) = ((UInt8.ofNat (bb (bitAt q v) (8 * (i / 8)) (i % 8) + β * 2 ^ (i % 8))).toNat : Int) := by
        simp only [UInt8.toNat_ofNat']; omega
      have hset := packB_set (bitAt q v) i (i / 8 + 1) (by omega)
      rw [hβ] at hset
      have hlt2 : (((i / 8 : Nat) : Int) < ((i / 8 + 1 : Nat) : Int)) = True := by simp; omega
      rw [htm]
      by_cases h8 : ((i % 8 : Nat) : Int) = 0
      · have d8 : decide (((i % 8 : Nat) : Int) = 0) = true := by simpa using h8
        have happ : pure2 ((packB (bitAt q v) i ((i + 7) / 8)).map byteD) ++ [[M.d (.v (.int .u8 0))]] = pure2 ((packB (bitAt q v) i (i / 8 + 1)).map byteD) := by
          rw [← packB_app _ _ _ (by omega), show (i + 7) / 8 = i / 8 by omega]; simp [pure2, byteD]
        simp only [↓ru, rv, rl, ry, tyf, iM, bM, bsM, cond_true, cond_false, Nat.reduceLT, Nat.reduceBEq, Nat.reduceAdd, Nat.reduceEqDiff, Nat.reduceMul, Nat.reduceLeDiff, Nat.reduceSub, Nat.reduceDiv, Int.reduceLE, Int.reduceLT, Int.reduceNeg, Int.reduceAdd, Int.reduceSub, Int.reduceMul, Int.reduceToNat, Int.reducePow, Int.reduceEq, ne_eq, reduceIte, intsM, intD, iD, bsD, bD, setM, setsM, Setg.cells, ranM, ransM, Ran.cells, tabM, slvM, slvsM, Slv.cells, objsM, Obj.cells, reqM, repM, byteD, d8, hpl, happ, pure2_length, List.length_map, packB_len]
        refine grd_intro (by omega) ?_
        simp only [↓ru, rv, rl, ry, tyf, iM, bM, bsM, cond_true, cond_false, Nat.reduceLT, Nat.reduceBEq, Nat.reduceAdd, Nat.reduceEqDiff, Nat.reduceMul, Nat.reduceLeDiff, Nat.reduceSub, Nat.reduceDiv, Int.reduceLE, Int.reduceLT, Int.reduceNeg, Int.reduceAdd, Int.reduceSub, Int.reduceMul, Int.reduceToNat, Int.reducePow, Int.reduceEq, ne_eq, reduceIte, intsM, intD, iD, bsD, bD, setM, setsM, Setg.cells, ranM, ransM, Ran.cells, tabM, slvM, slvsM, Slv.cells, objsM, Obj.cells, reqM, repM, byteD, htd, htm, hbit, hget, Int.toNat_natCast, hlt2, hshl, hor, hst, set_byte, hset]
        have hmm : (i + 1 + 7) / 8 = i / 8 + 1 := by omega
        have hpl1 : (packB (bitAt q v) i (i / 8 + 1)).length = i / 8 + 1 := packB_len _ _ _
        (try simp only [hpl1, grd_true])
        (try simp (disch := omega) only [wrap_i64, wrap_u8, wrap_u16, wrap_u64])
        refine loopL_drop (i + 1) (by simp only [↓ru, rv, rl, ry, tyf, iM, bM, bsM, cond_true, cond_false, Nat.reduceLT, Nat.reduceBEq, Nat.reduceAdd, Nat.reduceEqDiff, Nat.reduceMul, Nat.reduceLeDiff, Nat.reduceSub, Nat.reduceDiv, Int.reduceLE, Int.reduceLT, Int.reduceNeg, Int.reduceAdd, Int.reduceSub, Int.reduceMul, Int.reduceToNat, Int.reducePow, Int.reduceEq, ne_eq, reduceIte, intsM, intD, iD, bsD, bD, setM, setsM, Setg.cells, ranM, ransM, Ran.cells, tabM, slvM, slvsM, Slv.cells, objsM, Obj.cells, reqM, repM, byteD]; (try simp)) (by simp only [↓ru, rv, rl, ry, tyf, iM, bM, bsM, cond_true, cond_false, Nat.reduceLT, Nat.reduceBEq, Nat.reduceAdd, Nat.reduceEqDiff, Nat.reduceMul, Nat.reduceLeDiff, Nat.reduceSub, Nat.reduceDiv, Int.reduceLE, Int.reduceLT, Int.reduceNeg, Int.reduceAdd, Int.reduceSub, Int.reduceMul, Int.reduceToNat, Int.reducePow, Int.reduceEq, ne_eq, reduceIte, intsM, intD, iD, bsD, bD, setM, setsM, Setg.cells, ranM, ransM, Ran.cells, tabM, slvM, slvsM, Slv.cells, objsM, Obj.cells, reqM, repM, byteD, hmm]; (try simp)) (by omega) (by omega) (by omega)
      · have d8 : decide (((i % 8 : Nat) : Int) = 0) = false := by simpa using h8
        have hm8 : (i + 7) / 8 = i / 8 + 1 := by omega
        simp only [↓ru, rv, rl, ry, tyf, iM, bM, bsM, cond_true, cond_false, Nat.reduceLT, Nat.reduceBEq, Nat.reduceAdd, Nat.reduceEqDiff, Nat.reduceMul, Nat.reduceLeDiff, Nat.reduceSub, Nat.reduceDiv, Int.reduceLE, Int.reduceLT, Int.reduceNeg, Int.reduceAdd, Int.reduceSub, Int.reduceMul, Int.reduceToNat, Int.reducePow, Int.reduceEq, ne_eq, reduceIte, intsM, intD, iD, bsD, bD, setM, setsM, Setg.cells, ranM, ransM, Ran.cells, tabM, slvM, slvsM, Slv.cells, objsM, Obj.cells, reqM, repM, byteD, d8, hpl, hm8]
        simp only [↓ru, rv, rl, ry, tyf, iM, bM, bsM, cond_true, cond_false, Nat.reduceLT, Nat.reduceBEq, Nat.reduceAdd, Nat.reduceEqDiff, Nat.reduceMul, Nat.reduceLeDiff, Nat.reduceSub, Nat.reduceDiv, Int.reduceLE, Int.reduceLT, Int.reduceNeg, Int.reduceAdd, Int.reduceSub, Int.reduceMul, Int.reduceToNat, Int.reducePow, Int.reduceEq, ne_eq, reduceIte, intsM, intD, iD, bsD, bD, setM, setsM, Setg.cells, ranM, ransM, Ran.cells, tabM, slvM, slvsM, Slv.cells, objsM, Obj.cells, reqM, repM, byteD, htd, htm, hbit, hget, Int.toNat_natCast, hlt2, hshl, hor, hst, set_byte, hset, pure2_length, List.length_map, packB_len, if_true]
        have hmm : (i + 1 + 7) / 8 = i / 8 + 1 := by omega
        have hpl1 : (packB (bitAt q v) i (i / 8 + 1)).length = i / 8 + 1 := packB_len _ _ _
        (try simp only [hpl1, grd_true])
        (try simp (disch := omega) only [wrap_i64, wrap_u8, wrap_u16, wrap_u64])
        refine loopL_drop (i + 1) (by simp only [↓ru, rv, rl, ry, tyf, iM, bM, bsM, cond_true, cond_false, Nat.reduceLT, Nat.reduceBEq, Nat.reduceAdd, Nat.reduceEqDiff, Nat.reduceMul, Nat.reduceLeDiff, Nat.reduceSub, Nat.reduceDiv, Int.reduceLE, Int.reduceLT, Int.reduceNeg, Int.reduceAdd, Int.reduceSub, Int.reduceMul, Int.reduceToNat, Int.reducePow, Int.reduceEq, ne_eq, reduceIte, intsM, intD, iD, bsD, bD, setM, setsM, Setg.cells, ranM, ransM, Ran.cells, tabM, slvM, slvsM, Slv.cells, objsM, Obj.cells, reqM, repM, byteD]; (try simp)) (by simp only [↓ru, rv, rl, ry, tyf, iM, bM, bsM, cond_true, cond_false, Nat.reduceLT, Nat.reduceBEq, Nat.reduceAdd, Nat.reduceEqDiff, Nat.reduceMul, Nat.reduceLeDiff, Nat.reduceSub, Nat.reduceDiv, Int.reduceLE, Int.reduceLT, Int.reduceNeg, Int.reduceAdd, Int.reduceSub, Int.reduceMul, Int.reduceToNat, Int.reducePow, Int.reduceEq, ne_eq, reduceIte, intsM, intD, iD, bsD, bD, setM, setsM, Setg.cells, ranM, ransM, Ran.cells, tabM, slvM, slvsM, Slv.cells, objsM, Obj.cells, reqM, repM, byteD, hmm]; (try simp)) (by omega) (by omega) (by omega)
    · have h' := of_decide_eq_false h
      obtain rfl : i = q.qty.toNat := by omega
      simp only [↓ru, rv, rl, ry, tyf, iM, bM, bsM, cond_true, cond_false, Nat.reduceLT, Nat.reduceBEq, Nat.reduceAdd, Nat.reduceEqDiff, Nat.reduceMul, Nat.reduceLeDiff, Nat.reduceSub, Nat.reduceDiv, Int.reduceLE, Int.reduceLT, Int.reduceNeg, Int.reduceAdd, Int.reduceSub, Int.reduceMul, Int.reduceToNat, Int.reducePow, Int.reduceEq, ne_eq, reduceIte, intsM, intD, iD, bsD, bD, setM, setsM, Setg.cells, ranM, ransM, Ran.cells, tabM, slvM, slvsM, Slv.cells, objsM, Obj.cells, reqM, repM, byteD, hpl, pureEnd_of (fn := Try.f103) (rs := [.cell 6 77]) (ts := [77]) rfl rfl]
end Go.R2

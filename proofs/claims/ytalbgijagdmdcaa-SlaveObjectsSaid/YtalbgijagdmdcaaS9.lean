import Derived.Test.YtalbgijagdmdcaaS8
set_option linter.all false
open Go.Proofs Go.Abs Go.FaR2
namespace Go.R2
-- rules: intsM, intD, iD, bsD, bD, setM, setsM, Setg.cells, ranM, ransM, Ran.cells, tabM, slvM, slvsM, Slv.cells, objsM, Obj.cells, reqM, repM, byteD
set_option maxHeartbeats 4000000
set_option maxRecDepth 10000
theorem t105 (t : Tab) (q : Req) (v : Int) (hl : t.read.length ≤ 9223372036854775807) (h : q.Tb) : PFn Try.prog 105 [tabM t, reqM q, iM v] (repM (readT t q v)) := by
  refine PFn.of (prs := []) Try.func105 rfl rfl mix (by kernel_rfl) rfl rfl ?_
  simp only [Try.ntmps105, argUpd]
  obtain ⟨hf, hq, ha⟩ := h
  simp only [↓ru, rv, rl, ry, tyf, iM, bM, bsM, cond_true, cond_false, Nat.reduceLT, Nat.reduceBEq, Nat.reduceAdd, Nat.reduceEqDiff, Nat.reduceMul, Nat.reduceLeDiff, Nat.reduceSub, Nat.reduceDiv, Int.reduceLE, Int.reduceLT, Int.reduceNeg, Int.reduceAdd, Int.reduceSub, Int.reduceMul, Int.reduceToNat, Int.reducePow, Int.reduceEq, ne_eq, reduceIte, intsM, intD, iD, bsD, bD, setM, setsM, Setg.cells, ranM, ransM, Ran.cells, tabM, slvM, slvsM, Slv.cells, objsM, Obj.cells, reqM, repM, byteD]
  cases hs : t.sup with
  | false =>
    simp only [↓ru, rv, rl, ry, tyf, iM, bM, bsM, cond_true, cond_false, Nat.reduceLT, Nat.reduceBEq, Nat.reduceAdd, Nat.reduceEqDiff, Nat.reduceMul, Nat.reduceLeDiff, Nat.reduceSub, Nat.reduceDiv, Int.reduceLE, Int.reduceLT, Int.reduceNeg, Int.reduceAdd, Int.reduceSub, Int.reduceMul, Int.reduceToNat, Int.reducePow, Int.reduceEq, ne_eq, reduceIte, intsM, intD, iD, bsD, bD, setM, setsM, Setg.cells, ranM, ransM, Ran.cells, tabM, slvM, slvsM, Slv.cells, objsM, Obj.cells, reqM, repM, byteD, pureEnd_of (fn := Try.f105) (rs := [.cell 6 77]) (ts := [77]) rfl rfl, readT, hs, refF]
  | true =>
  simp only [↓ru, rv, rl, ry, tyf, iM, bM, bsM, cond_true, cond_false, Nat.reduceLT, Nat.reduceBEq, Nat.reduceAdd, Nat.reduceEqDiff, Nat.reduceMul, Nat.reduceLeDiff, Nat.reduceSub, Nat.reduceDiv, Int.reduceLE, Int.reduceLT, Int.reduceNeg, Int.reduceAdd, Int.reduceSub, Int.reduceMul, Int.reduceToNat, Int.reducePow, Int.reduceEq, ne_eq, reduceIte, intsM, intD, iD, bsD, bD, setM, setsM, Setg.cells, ranM, ransM, Ran.cells, tabM, slvM, slvsM, Slv.cells, objsM, Obj.cells, reqM, repM, byteD]
  by_cases hm : t.most < q.qty
  · have dm : decide (t.most < q.qty) = true := by simpa using hm
    simp only [↓ru, rv, rl, ry, tyf, iM, bM, bsM, cond_true, cond_false, Nat.reduceLT, Nat.reduceBEq, Nat.reduceAdd, Nat.reduceEqDiff, Nat.reduceMul, Nat.reduceLeDiff, Nat.reduceSub, Nat.reduceDiv, Int.reduceLE, Int.reduceLT, Int.reduceNeg, Int.reduceAdd, Int.reduceSub, Int.reduceMul, Int.reduceToNat, Int.reducePow, Int.reduceEq, ne_eq, reduceIte, intsM, intD, iD, bsD, bD, setM, setsM, Setg.cells, ranM, ransM, Ran.cells, tabM, slvM, slvsM, Slv.cells, objsM, Obj.cells, reqM, repM, byteD, dm, pureEnd_of (fn := Try.f105) (rs := [.cell 6 77]) (ts := [77]) rfl rfl, readT, hs, refF]
    simp [hm]
  have dm : decide (t.most < q.qty) = false := by simpa using hm
  simp only [↓ru, rv, rl, ry, tyf, iM, bM, bsM, cond_true, cond_false, Nat.reduceLT, Nat.reduceBEq, Nat.reduceAdd, Nat.reduceEqDiff, Nat.reduceMul, Nat.reduceLeDiff, Nat.reduceSub, Nat.reduceDiv, Int.reduceLE, Int.reduceLT, Int.reduceNeg, Int.reduceAdd, Int.reduceSub, Int.reduceMul, Int.reduceToNat, Int.reducePow, Int.reduceEq, ne_eq, reduceIte, intsM, intD, iD, bsD, bD, setM, setsM, Setg.cells, ranM, ransM, Ran.cells, tabM, slvM, slvsM, Slv.cells, objsM, Obj.cells, reqM, repM, byteD, dm]
  refine acall1_pure (t41 t.read ⟨q.addr, q.qty⟩ hl) rfl rfl ?_
  cases hc : coverF t.read ⟨q.addr, q.qty⟩ with
  | false =>
    simp only [↓ru, rv, rl, ry, tyf, iM, bM, bsM, cond_true, cond_false, Nat.reduceLT, Nat.reduceBEq, Nat.reduceAdd, Nat.reduceEqDiff, Nat.reduceMul, Nat.reduceLeDiff, Nat.reduceSub, Nat.reduceDiv, Int.reduceLE, Int.reduceLT, Int.reduceNeg, Int.reduceAdd, Int.reduceSub, Int.reduceMul, Int.reduceToNat, Int.reducePow, Int.reduceEq, ne_eq, reduceIte, intsM, intD, iD, bsD, bD, setM, setsM, Setg.cells, ranM, ransM, Ran.cells, tabM, slvM, slvsM, Slv.cells, objsM, Obj.cells, reqM, repM, byteD, pureEnd_of (fn := Try.f105) (rs := [.cell 6 77]) (ts := [77]) rfl rfl, readT, hs, refF]
    simp [hm, hc]
  | true =>
  have hF : readT t q v = ⟨q.fn, 0, dataF q v, 0, 0, false, 0, []⟩ := by simp [readT, hs, hm, hc]
  rw [hF]
  have hwl := fun i => wordF_le q.fn (q.addr + (i : Nat)) v
  by_cases h3 : 3 ≤ q.fn
  · have d3 : decide (q.fn ≤ 2) = false := by simp; omega
    have d4 : decide (3 ≤ q.fn) = true := by simpa using h3
    have hD : dataF q v = regs q v q.qty.toNat := by rw [dataF, if_pos h3]
    rw [hD]
    simp only [↓ru, rv, rl, ry, tyf, iM, bM, bsM, cond_true, cond_false, Nat.reduceLT, Nat.reduceBEq, Nat.reduceAdd, Nat.reduceEqDiff, Nat.reduceMul, Nat.reduceLeDiff, Nat.reduceSub, Nat.reduceDiv, Int.reduceLE, Int.reduceLT, Int.reduceNeg, Int.reduceAdd, Int.reduceSub, Int.reduceMul, Int.reduceToNat, Int.reducePow, Int.reduceEq, ne_eq, reduceIte, intsM, intD, iD, bsD, bD, setM, setsM, Setg.cells, ranM, ransM, Ran.cells, tabM, slvM, slvsM, Slv.cells, objsM, Obj.cells, reqM, repM, byteD, d3]
    refine aloop_thawBox (p := 6) (j := 2) (c := [iM q.fn, iM 0, .d (.v (.slice none 0 0)), iM 0, iM 0, bM false, iM 0, .d (.v (.slice none 0 0))]) 1 (by simp only [↓ru, rv, rl, ry, tyf, iM, bM, bsM, cond_true, cond_false, Nat.reduceLT, Nat.reduceBEq, Nat.reduceAdd, Nat.reduceEqDiff, Nat.reduceMul, Nat.reduceLeDiff, Nat.reduceSub, Nat.reduceDiv, Int.reduceLE, Int.reduceLT, Int.reduceNeg, Int.reduceAdd, Int.reduceSub, Int.reduceMul, Int.reduceToNat, Int.reducePow, Int.reduceEq, ne_eq, reduceIte, intsM, intD, iD, bsD, bD, setM, setsM, Setg.cells, ranM, ransM, Ran.cells, tabM, slvM, slvsM, Slv.cells, objsM, Obj.cells, reqM, repM, byteD]) rfl ?_
    refine aloop_lk (fun i : Nat => [(2, iM v), (4, .ptr 1 0), (6, .ptr 2 0), (7, .ptr 6 0), (8, iM i)])
      (fun i => [(35, .ar false 1 (pure2 ((regs q v i).map byteD))), (6, .st [iM q.fn, iM 0, .hsl 35 (regs q v i).length, iM 0, iM 0, bM false, iM 0, .d (.v (.slice none 0 0))]),
        (2, .st [iM 0, iM 0, .d (.v (.slice none 0 0)), iM 0, iM 0, bM false, iM 0, .d (.v (.slice none 0 0))]), (1, .st [iM q.fn, iM q.addr, iM q.qty, iM q.code, iM q.obj])])
      (fun i => (i : Int) ≤ q.qty) (fun i => q.qty.toNat - i) 0 36 0 (by simp only [↓ru, rv, rl, ry, tyf, iM, bM, bsM, cond_true, cond_false, Nat.reduceLT, Nat.reduceBEq, Nat.reduceAdd, Nat.reduceEqDiff, Nat.reduceMul, Nat.reduceLeDiff, Nat.reduceSub, Nat.reduceDiv, Int.reduceLE, Int.reduceLT, Int.reduceNeg, Int.reduceAdd, Int.reduceSub, Int.reduceMul, Int.reduceToNat, Int.reducePow, Int.reduceEq, ne_eq, reduceIte, intsM, intD, iD, bsD, bD, setM, setsM, Setg.cells, ranM, ransM, Ran.cells, tabM, slvM, slvsM, Slv.cells, objsM, Obj.cells, reqM, repM, byteD]) (by simp only [↓ru, rv, rl, ry, tyf, iM, bM, bsM, cond_true, cond_false, Nat.reduceLT, Nat.reduceBEq, Nat.reduceAdd, Nat.reduceEqDiff, Nat.reduceMul, Nat.reduceLeDiff, Nat.reduceSub, Nat.reduceDiv, Int.reduceLE, Int.reduceLT, Int.reduceNeg, Int.reduceAdd, Int.reduceSub, Int.reduceMul, Int.reduceToNat, Int.reducePow, Int.reduceEq, ne_eq, reduceIte, intsM, intD, iD, bsD, bD, setM, setsM, Setg.cells, ranM, ransM, Ran.cells, tabM, slvM, slvsM, Slv.cells, objsM, Obj.cells, reqM, repM, byteD]; exact ⟨rfl, rfl⟩) (by omega) (by omega) ?_
    intro i e0 n hi
    have hw := hwl i
    have hw1 : IntKind.i64.wrap ((wordF q.fn (q.addr + i) v).tdiv 256) = wordF q.fn (q.addr + i) v / 256 := by
      rw [Int.tdiv_eq_ediv_of_nonneg (by omega), wrap_i64 (by omega) (by omega)]
    have hw2 : u8 ((wordF q.fn (q.addr + i) v).tmod 256) = u8 (wordF q.fn (q.addr + i) v) := by
      rw [Int.tmod_eq_emod_of_nonneg (by omega)]; unfold u8; rw [Int.emod_emod]
    simp only [↓ru, rv, rl, ry, tyf, iM, bM, bsM, cond_true, cond_false, Nat.reduceLT, Nat.reduceBEq, Nat.reduceAdd, Nat.reduceEqDiff, Nat.reduceMul, Nat.reduceLeDiff, Nat.reduceSub, Nat.reduceDiv, Int.reduceLE, Int.reduceLT, Int.reduceNeg, Int.reduceAdd, Int.reduceSub, Int.reduceMul, Int.reduceToNat, Int.reducePow, Int.reduceEq, ne_eq, reduceIte, intsM, intD, iD, bsD, bD, setM, setsM, Setg.cells, ranM, ransM, Ran.cells, tabM, slvM, slvsM, Slv.cells, objsM, Obj.cells, reqM, repM, byteD]
    refine fork_split (fun h => ?_) (fun h => ?_)
    · have h' := of_decide_eq_true h
      simp only [↓ru, rv, rl, ry, tyf, iM, bM, bsM, cond_true, cond_false, Nat.reduceLT, Nat.reduceBEq, Nat.reduceAdd, Nat.reduceEqDiff, Nat.reduceMul, Nat.reduceLeDiff, Nat.reduceSub, Nat.reduceDiv, Int.reduceLE, Int.reduceLT, Int.reduceNeg, Int.reduceAdd, Int.reduceSub, Int.reduceMul, Int.reduceToNat, Int.reducePow, Int.reduceEq, ne_eq, reduceIte, intsM, intD, iD, bsD, bD, setM, setsM, Setg.cells, ranM, ransM, Ran.cells, tabM, slvM, slvsM, Slv.cells, objsM, Obj.cells, reqM, repM, byteD]
      simp (disch := omega) only [wrap_i64, wrap_u8, wrap_u16, wrap_u64]
      refine acall1_pure (t62 q.fn (q.addr + i) v) rfl rfl ?_
      simp only [↓ru, rv, rl, ry, tyf, iM, bM, bsM, cond_true, cond_false, Nat.reduceLT, Nat.reduceBEq, Nat.reduceAdd, Nat.reduceEqDiff, Nat.reduceMul, Nat.reduceLeDiff, Nat.reduceSub, Nat.reduceDiv, Int.reduceLE, Int.reduceLT, Int.reduceNeg, Int.reduceAdd, Int.reduceSub, Int.reduceMul, Int.reduceToNat, Int.reducePow, Int.reduceEq, ne_eq, reduceIte, intsM, intD, iD, bsD, bD, setM, setsM, Setg.cells, ranM, ransM, Ran.cells, tabM, slvM, slvsM, Slv.cells, objsM, Obj.cells, reqM, repM, byteD, d4, hw1, hw2]
      have hr : pure2 ((regs q v i).map byteD) ++ [[M.d (.v (.int .u8 ((u8 (wordF q.fn (q.addr + i) v / 256)).toNat : Int)))], [M.d (.v (.int .u8 ((u8 (wordF q.fn (q.addr + i) v)).toNat : Int)))]] = pure2 ((regs q v (i + 1)).map byteD) := by
        rw [regs_succ]; simp [pure2, byteD, wordAt]
      rw [hr]
      simp only [pure2_length, List.length_map, regs_len]
      refine grd_intro (by omega) ?_
      simp (disch := omega) only [wrap_i64, wrap_u8, wrap_u16, wrap_u64]
      refine loopL_drop (i + 1) (by simp only [↓ru, rv, rl, ry, tyf, iM, bM, bsM, cond_true, cond_false, Nat.reduceLT, Nat.reduceBEq, Nat.reduceAdd, Nat.reduceEqDiff, Nat.reduceMul, Nat.reduceLeDiff, Nat.reduceSub, Nat.reduceDiv, Int.reduceLE, Int.reduceLT, Int.reduceNeg, Int.reduceAdd, Int.reduceSub, Int.reduceMul, Int.reduceToNat, Int.reducePow, Int.reduceEq, ne_eq, reduceIte, intsM, intD, iD, bsD, bD, setM, setsM, Setg.cells, ranM, ransM, Ran.cells, tabM, slvM, slvsM, Slv.cells, objsM, Obj.cells, reqM, repM, byteD]; (try simp)) (by simp only [↓ru, rv, rl, ry, tyf, iM, bM, bsM, cond_true, cond_false, Nat.reduceLT, Nat.reduceBEq, Nat.reduceAdd, Nat.reduceEqDiff, Nat.reduceMul, Nat.reduceLeDiff, Nat.reduceSub, Nat.reduceDiv, Int.reduceLE, Int.reduceLT, Int.reduceNeg, Int.reduceAdd, Int.reduceSub, Int.reduceMul, Int.reduceToNat, Int.reducePow, Int.reduceEq, ne_eq, reduceIte, intsM, intD, iD, bsD, bD, setM, setsM, Setg.cells, ranM, ransM, Ran.cells, tabM, slvM, slvsM, Slv.cells, objsM, Obj.cells, reqM, repM, byteD]; (try simp [regs_len])) (by omega) (by omega) (by omega)
    · have h' := of_decide_eq_false h
      obtain rfl : i = q.qty.toNat := by omega
      simp only [↓ru, rv, rl, ry, tyf, iM, bM, bsM, cond_true, cond_false, Nat.reduceLT, Nat.reduceBEq, Nat.reduceAdd, Nat.reduceEqDiff, Nat.reduceMul, Nat.reduceLeDiff, Nat.reduceSub, Nat.reduceDiv, Int.reduceLE, Int.reduceLT, Int.reduceNeg, Int.reduceAdd, Int.reduceSub, Int.reduceMul, Int.reduceToNat, Int.reducePow, Int.reduceEq, ne_eq, reduceIte, intsM, intD, iD, bsD, bD, setM, setsM, Setg.cells, ranM, ransM, Ran.cells, tabM, slvM, slvsM, Slv.cells, objsM, Obj.cells, reqM, repM, byteD, pureEnd_of (fn := Try.f105) (rs := [.cell 6 77]) (ts := [77]) rfl rfl]
  · have d3 : decide (q.fn ≤ 2) = true := by simp; omega
    have d4 : decide (3 ≤ q.fn) = false := by simpa using h3
    have hD : dataF q v = packB (bitAt q v) q.qty.toNat ((q.qty.toNat + 7) / 8) := by rw [dataF, if_neg h3]
    have hmk : IntKind.i64.wrap ((IntKind.i64.wrap (q.qty + 7)).tdiv 8) = (((q.qty.toNat + 7) / 8 : Nat) : Int) := by
      rw [wrap_i64 (x := q.qty + 7) (by omega) (by omega), Int.tdiv_eq_ediv_of_nonneg (by omega), wrap_i64 (by omega) (by omega)]; omega
    rw [hD]
    simp only [↓ru, rv, rl, ry, tyf, iM, bM, bsM, cond_true, cond_false, Nat.reduceLT, Nat.reduceBEq, Nat.reduceAdd, Nat.reduceEqDiff, Nat.reduceMul, Nat.reduceLeDiff, Nat.reduceSub, Nat.reduceDiv, Int.reduceLE, Int.reduceLT, Int.reduceNeg, Int.reduceAdd, Int.reduceSub, Int.reduceMul, Int.reduceToNat, Int.reducePow, Int.reduceEq, ne_eq, reduceIte, intsM, intD, iD, bsD, bD, setM, setsM, Setg.cells, ranM, ransM, Ran.cells, tabM, slvM, slvsM, Slv.cells, objsM, Obj.cells, reqM, repM, byteD, d3, hmk]
    refine grd_intro ⟨by omega, by omega, by omega⟩ ?_
    have hz : List.replicate ((q.qty.toNat + 7) / 8) [M.d (.v (.int .u8 0))] = pure2 ((packB (bitAt q v) 0 ((q.qty.toNat + 7) / 8)).map byteD) := by
      rw [packB_zero]; simp [pure2, byteD]
    rw [hz]
    refine aloop_lk (fun i : Nat => [(2, iM v), (4, .ptr 1 0), (6, .ptr 2 0), (7, .ptr 6 0), (8, iM i)])
      (fun i => [(38, .ar false 1 (pure2 ((packB (bitAt q v) i ((q.qty.toNat + 7) / 8)).map byteD))), (6, .st [iM q.fn, iM 0, .hsl 38 ((q.qty.toNat + 7) / 8), iM 0, iM 0, bM false, iM 0, .d (.v (.slice none 0 0))]),
        (2, .st [iM 0, iM 0, .d (.v (.slice none 0 0)), iM 0, iM 0, bM false, iM 0, .d (.v (.slice none 0 0))]), (1, .st [iM q.fn, iM q.addr, iM q.qty, iM q.code, iM q.obj])])
      (fun i => (i : Int) ≤ q.qty) (fun i => q.qty.toNat - i) 0 42 0 (by simp only [↓ru, rv, rl, ry, tyf, iM, bM, bsM, cond_true, cond_false, Nat.reduceLT, Nat.reduceBEq, Nat.reduceAdd, Nat.reduceEqDiff, Nat.reduceMul, Nat.reduceLeDiff, Nat.reduceSub, Nat.reduceDiv, Int.reduceLE, Int.reduceLT, Int.reduceNeg, Int.reduceAdd, Int.reduceSub, Int.reduceMul, Int.reduceToNat, Int.reducePow, Int.reduceEq, ne_eq, reduceIte, intsM, intD, iD, bsD, bD, setM, setsM, Setg.cells, ranM, ransM, Ran.cells, tabM, slvM, slvsM, Slv.cells, objsM, Obj.cells, reqM, repM, byteD]) (by simp only [↓ru, rv, rl, ry, tyf, iM, bM, bsM, cond_true, cond_false, Nat.reduceLT, Nat.reduceBEq, Nat.reduceAdd, Nat.reduceEqDiff, Nat.reduceMul, Nat.reduceLeDiff, Nat.reduceSub, Nat.reduceDiv, Int.reduceLE, Int.reduceLT, Int.reduceNeg, Int.reduceAdd, Int.reduceSub, Int.reduceMul, Int.reduceToNat, Int.reducePow, Int.reduceEq, ne_eq, reduceIte, intsM, intD, iD, bsD, bD, setM, setsM, Setg.cells, ranM, ransM, Ran.cells, tabM, slvM, slvsM, Slv.cells, objsM, Obj.cells, reqM, repM, byteD]) (by omega) (by omega) ?_
    intro i e0 n hi
    have hpl := packB_len (bitAt q v) i ((q.qty.toNat + 7) / 8)
    have hw := hwl i
    simp only [↓ru, rv, rl, ry, tyf, iM, bM, bsM, cond_true, cond_false, Nat.reduceLT, Nat.reduceBEq, Nat.reduceAdd, Nat.reduceEqDiff, Nat.reduceMul, Nat.reduceLeDiff, Nat.reduceSub, Nat.reduceDiv, Int.reduceLE, Int.reduceLT, Int.reduceNeg, Int.reduceAdd, Int.reduceSub, Int.reduceMul, Int.reduceToNat, Int.reducePow, Int.reduceEq, ne_eq, reduceIte, intsM, intD, iD, bsD, bD, setM, setsM, Setg.cells, ranM, ransM, Ran.cells, tabM, slvM, slvsM, Slv.cells, objsM, Obj.cells, reqM, repM, byteD]
    refine fork_split (fun h => ?_) (fun h => ?_)
    · have h' := of_decide_eq_true h
      have htd : IntKind.i64.wrap ((i : Int).tdiv 8) = ((i / 8 : Nat) : Int) := by
        rw [Int.tdiv_eq_ediv_of_nonneg (by omega), wrap_i64 (by omega) (by omega)]; omega
      have htm : (i : Int).tmod 8 = ((i % 8 : Nat) : Int) := by
        rw [Int.tmod_eq_emod_of_nonneg (by omega)]; omega
      have hw2 : (wordF q.fn (q.addr + i) v).tmod 2 = wordF q.fn (q.addr + i) v % 2 := Int.tmod_eq_emod_of_nonneg (by omega)
      have hset := packB_set (bitAt q v) i ((q.qty.toNat + 7) / 8) (by omega)
      simp only [↓ru, rv, rl, ry, tyf, iM, bM, bsM, cond_true, cond_false, Nat.reduceLT, Nat.reduceBEq, Nat.reduceAdd, Nat.reduceEqDiff, Nat.reduceMul, Nat.reduceLeDiff, Nat.reduceSub, Nat.reduceDiv, Int.reduceLE, Int.reduceLT, Int.reduceNeg, Int.reduceAdd, Int.reduceSub, Int.reduceMul, Int.reduceToNat, Int.reducePow, Int.reduceEq, ne_eq, reduceIte, intsM, intD, iD, bsD, bD, setM, setsM, Setg.cells, ranM, ransM, Ran.cells, tabM, slvM, slvsM, Slv.cells, objsM, Obj.cells, reqM, repM, byteD]
      simp (disch := omega) only [wrap_i64, wrap_u8, wrap_u16, wrap_u64]
      refine acall1_pure (t62 q.fn (q.addr + i) v) rfl rfl ?_
      simp only [↓ru, rv, rl, ry, tyf, iM, bM, bsM, cond_true, cond_false, Nat.reduceLT, Nat.reduceBEq, Nat.reduceAdd, Nat.reduceEqDiff, Nat.reduceMul, Nat.reduceLeDiff, Nat.reduceSub, Nat.reduceDiv, Int.reduceLE, Int.reduceLT, Int.reduceNeg, Int.reduceAdd, Int.reduceSub, Int.reduceMul, Int.reduceToNat, Int.reducePow, Int.reduceEq, ne_eq, reduceIte, intsM, intD, iD, bsD, bD, setM, setsM, Setg.cells, ranM, ransM, Ran.cells, tabM, slvM, slvsM, Slv.cells, objsM, Obj.cells, reqM, repM, byteD, d4, hw2]
      by_cases hb : wordF q.fn (q.addr + i) v % 2 = 1
      · have db : decide (wordF q.fn (q.addr + i) v % 2 = 1) = true := by simpa using hb
        have hbit : bitAt q v i = true := decide_eq_true hb
        rw [hbit, if_pos rfl, Nat.one_mul] at hset
        have hget : (pure2 ((packB (bitAt q v) i ((q.qty.toNat + 7) / 8)).map byteD))[i / 8]? = some [M.d (.v (.int .u8 ((bb (bitAt q v) (8 * (i / 8)) (i % 8) : Nat) : Int)))] := by
          rw [pure2_get, List.getElem?_map, packB_get _ _ _ _ (by omega)]
          simp only [Option.map_some, byteD, List.map_cons, List.map_nil]
          rw [show min 8 (i - 8 * (i / 8)) = i % 8 by omega, bb_byte]
        have hp128 : 2 ^ (i % 8) ≤ 128 := by
          have := Nat.pow_le_pow_right (show 0 < 2 by omega) (show i % 8 ≤ 7 by omega)
          omega
        have hbbl := bb_lt (bitAt q v) (8 * (i / 8)) (i % 8)
        have hst : ((bb (bitAt q v) (8 * (i / 8)) (i % 8) + 2 ^ (i % 8) : Nat) : Int) = ((UInt8.ofNat (bb (bitAt q v) (8 * (i / 8)) (i % 8) + 2 ^ (i % 8))).toNat : Int) := by
          simp only [UInt8.toNat_ofNat']; omega
        have hlt2 : (((i / 8 : Nat) : Int) < (((q.qty.toNat + 7) / 8 : Nat) : Int)) = True := by simp; omega
        have hw64 : IntKind.u64.wrap ((i % 8 : Nat) : Int) = ((i % 8 : Nat) : Int) := wrap_u64 (by omega) (by omega)
        have hshl : ∀ {t : TypeId} {xo yo : Operand} {B : Bx} {K : K2}, aBin Try.prog .shl t xo yo (.d (.v (.int .u8 1))) (.d (.v (.int .u64 ((i % 8 : Nat) : Int)))) B K = kk K (.d (.v (.int .u8 ((2 ^ (i % 8) : Nat) : Int)))) B := by
          intro t xo yo B K
          have e : (1 : Int) * 2 ^ (((i % 8 : Nat) : Int).toNat) = ((2 ^ (i % 8) : Nat) : Int) := by rw [Int.toNat_natCast]; simp
          rw [bin_shl (by omega) (by show ((i % 8 : Nat) : Int) ≤ 8; omega), e, wrap_u8 (by omega) (by omega)]
          rfl
        have hsum : ((u8 (((bb (bitAt q v) (8 * (i / 8)) (i % 8) : Nat) : Int) + ((2 ^ (i % 8) : Nat) : Int))).toNat : Int) = ((UInt8.ofNat (bb (bitAt q v) (8 * (i / 8)) (i % 8) + 2 ^ (i % 8))).toNat : Int) := by
          rw [← hst, u8_toNat]; omega
        have hpl1 : (packB (bitAt q v) i ((q.qty.toNat + 7) / 8)).length = (q.qty.toNat + 7) / 8 := packB_len _ _ _
        simp only [↓ru, rv, rl, ry, tyf, iM, bM, bsM, cond_true, cond_false, Nat.reduceLT, Nat.reduceBEq, Nat.reduceAdd, Nat.reduceEqDiff, Nat.reduceMul, Nat.reduceLeDiff, Nat.reduceSub, Nat.reduceDiv, Int.reduceLE, Int.reduceLT, Int.reduceNeg, Int.reduceAdd, Int.reduceSub, Int.reduceMul, Int.reduceToNat, Int.reducePow, Int.reduceEq, ne_eq, reduceIte, intsM, intD, iD, bsD, bD, setM, setsM, Setg.cells, ranM, ransM, Ran.cells, tabM, slvM, slvsM, Slv.cells, objsM, Obj.cells, reqM, repM, byteD, db, hpl]
        simp only [↓ru, rv, rl, ry, tyf, iM, bM, bsM, cond_true, cond_false, Nat.reduceLT, Nat.reduceBEq, Nat.reduceAdd, Nat.reduceEqDiff, Nat.reduceMul, Nat.reduceLeDiff, Nat.reduceSub, Nat.reduceDiv, Int.reduceLE, Int.reduceLT, Int.reduceNeg, Int.reduceAdd, Int.reduceSub, Int.reduceMul, Int.reduceToNat, Int.reducePow, Int.reduceEq, ne_eq, reduceIte, intsM, intD, iD, bsD, bD, setM, setsM, Setg.cells, ranM, ransM, Ran.cells, tabM, slvM, slvsM, Slv.cells, objsM, Obj.cells, reqM, repM, byteD, htd, htm, hget, Int.toNat_natCast, hlt2, hw64, hshl, hsum, set_byte, hset, pure2_length, List.length_map, hpl1, if_true]
        simp (disch := omega) only [wrap_i64, wrap_u8, wrap_u16, wrap_u64]
        refine loopL_drop (i + 1) (by simp only [↓ru, rv, rl, ry, tyf, iM, bM, bsM, cond_true, cond_false, Nat.reduceLT, Nat.reduceBEq, Nat.reduceAdd, Nat.reduceEqDiff, Nat.reduceMul, Nat.reduceLeDiff, Nat.reduceSub, Nat.reduceDiv, Int.reduceLE, Int.reduceLT, Int.reduceNeg, Int.reduceAdd, Int.reduceSub, Int.reduceMul, Int.reduceToNat, Int.reducePow, Int.reduceEq, ne_eq, reduceIte, intsM, intD, iD, bsD, bD, setM, setsM, Setg.cells, ranM, ransM, Ran.cells, tabM, slvM, slvsM, Slv.cells, objsM, Obj.cells, reqM, repM, byteD]; (try simp)) (by simp only [↓ru, rv, rl, ry, tyf, iM, bM, bsM, cond_true, cond_false, Nat.reduceLT, Nat.reduceBEq, Nat.reduceAdd, Nat.reduceEqDiff, Nat.reduceMul, Nat.reduceLeDiff, Nat.reduceSub, Nat.reduceDiv, Int.reduceLE, Int.reduceLT, Int.reduceNeg, Int.reduceAdd, Int.reduceSub, Int.reduceMul, Int.reduceToNat, Int.reducePow, Int.reduceEq, ne_eq, reduceIte, intsM, intD, iD, bsD, bD, setM, setsM, Setg.cells, ranM, ransM, Ran.cells, tabM, slvM, slvsM, Slv.cells, objsM, Obj.cells, reqM, repM, byteD]) (by omega) (by omega) (by omega)
      · have db : decide (wordF q.fn (q.addr + i) v % 2 = 1) = false := by simpa using hb
        have hbit : bitAt q v i = false := decide_eq_false hb
        rw [hbit, if_neg (by simp), Nat.zero_mul, Nat.add_zero] at hset
        have hsame : packB (bitAt q v) (i + 1) ((q.qty.toNat + 7) / 8) = packB (bitAt q v) i ((q.qty.toNat + 7) / 8) := by
          rw [← hset]
          apply List.ext_getElem?
          intro j
          rw [List.getElem?_set]
          by_cases hj : i / 8 = j
          · subst hj
            rw [if_pos rfl, if_pos (by rw [packB_len]; omega), packB_get _ _ _ _ (by omega), show min 8 (i - 8 * (i / 8)) = i % 8 by omega, Nat.add_zero]
          · rw [if_neg hj]
        simp only [↓ru, rv, rl, ry, tyf, iM, bM, bsM, cond_true, cond_false, Nat.reduceLT, Nat.reduceBEq, Nat.reduceAdd, Nat.reduceEqDiff, Nat.reduceMul, Nat.reduceLeDiff, Nat.reduceSub, Nat.reduceDiv, Int.reduceLE, Int.reduceLT, Int.reduceNeg, Int.reduceAdd, Int.reduceSub, Int.reduceMul, Int.reduceToNat, Int.reducePow, Int.reduceEq, ne_eq, reduceIte, intsM, intD, iD, bsD, bD, setM, setsM, Setg.cells, ranM, ransM, Ran.cells, tabM, slvM, slvsM, Slv.cells, objsM, Obj.cells, reqM, repM, byteD, db]
        simp (disch := omega) only [wrap_i64, wrap_u8, wrap_u16, wrap_u64]
        refine loopL_drop (i + 1) (by simp only [↓ru, rv, rl, ry, tyf, iM, bM, bsM, cond_true, cond_false, Nat.reduceLT, Nat.reduceBEq, Nat.reduceAdd, Nat.reduceEqDiff, Nat.reduceMul, Nat.reduceLeDiff, Nat.reduceSub, Nat.reduceDiv, Int.reduceLE, Int.reduceLT, Int.reduceNeg, Int.reduceAdd, Int.reduceSub, Int.reduceMul, Int.reduceToNat, Int.reducePow, Int.reduceEq, ne_eq, reduceIte, intsM, intD, iD, bsD, bD, setM, setsM, Setg.cells, ranM, ransM, Ran.cells, tabM, slvM, slvsM, Slv.cells, objsM, Obj.cells, reqM, repM, byteD]; (try simp)) (by simp only [↓ru, rv, rl, ry, tyf, iM, bM, bsM, cond_true, cond_false, Nat.reduceLT, Nat.reduceBEq, Nat.reduceAdd, Nat.reduceEqDiff, Nat.reduceMul, Nat.reduceLeDiff, Nat.reduceSub, Nat.reduceDiv, Int.reduceLE, Int.reduceLT, Int.reduceNeg, Int.reduceAdd, Int.reduceSub, Int.reduceMul, Int.reduceToNat, Int.reducePow, Int.reduceEq, ne_eq, reduceIte, intsM, intD, iD, bsD, bD, setM, setsM, Setg.cells, ranM, ransM, Ran.cells, tabM, slvM, slvsM, Slv.cells, objsM, Obj.cells, reqM, repM, byteD, hsame]) (by omega) (by omega) (by omega)
    · have h' := of_decide_eq_false h
      obtain rfl : i = q.qty.toNat := by omega
      simp only [↓ru, rv, rl, ry, tyf, iM, bM, bsM, cond_true, cond_false, Nat.reduceLT, Nat.reduceBEq, Nat.reduceAdd, Nat.reduceEqDiff, Nat.reduceMul, Nat.reduceLeDiff, Nat.reduceSub, Nat.reduceDiv, Int.reduceLE, Int.reduceLT, Int.reduceNeg, Int.reduceAdd, Int.reduceSub, Int.reduceMul, Int.reduceToNat, Int.reducePow, Int.reduceEq, ne_eq, reduceIte, intsM, intD, iD, bsD, bD, setM, setsM, Setg.cells, ranM, ransM, Ran.cells, tabM, slvM, slvsM, Slv.cells, objsM, Obj.cells, reqM, repM, byteD, hpl, pureEnd_of (fn := Try.f105) (rs := [.cell 6 77]) (ts := [77]) rfl rfl]
end Go.R2

import Derived.Test.YtalbgijagdmdcaaP5
set_option linter.all false
open Go.Proofs Go.Abs Go.FaR2
namespace Go.R2
-- rules: intsM, intD, iD, bsD, bD, setM, setsM, Setg.cells, ranM, ransM, Ran.cells, tabM, slvM, slvsM, Slv.cells, objsM, Obj.cells, reqM, repM, byteD
set_option maxHeartbeats 4000000
set_option maxRecDepth 10000
theorem t19 (s : Slv) (kind a b v : Int) (h : s.Wf) : PFn Try.prog 19 [slvM s, iM kind, iM a, iM b, iM v] (bM true) := by
  refine PFn.of (prs := [(13, [(7, 9), (7, 10), (16, 17), (16, 18), (16, 20), (16, 22), (16, 23), (14, 24), (15, 24), (16, 24), (14, 25), (15, 25), (16, 25)]), (15, [(7, 9), (13, 25), (14, 25), (15, 25), (16, 25), (17, 25), (18, 25), (20, 25), (21, 25), (22, 25)])]) Try.func19 rfl rfl mix (by kernel_rfl) rfl rfl ?_
  simp only [Try.ntmps19, argUpd]
  simp only [↓ru, rv, rl, ry, tyf, iM, bM, bsM, cond_true, cond_false, Nat.reduceLT, Nat.reduceBEq, Nat.reduceAdd, Nat.reduceEqDiff, Nat.reduceMul, Nat.reduceLeDiff, Nat.reduceSub, Nat.reduceDiv, Int.reduceLE, Int.reduceLT, Int.reduceNeg, Int.reduceAdd, Int.reduceSub, Int.reduceMul, Int.reduceToNat, Int.reducePow, Int.reduceEq, ne_eq, reduceIte, intsM, intD, iD, bsD, bD, setM, setsM, Setg.cells, ranM, ransM, Ran.cells, tabM, slvM, slvsM, Slv.cells, objsM, Obj.cells, reqM, repM, byteD]
  refine acall1_pure (t27 v 65536 (by omega)) rfl rfl ?_
  have hv0 : possF (v % 65536) = true := by simp [possF]; omega
  generalize v % 65536 = v at hv0 ⊢
  simp only [↓ru, rv, rl, ry, tyf, iM, bM, bsM, cond_true, cond_false, Nat.reduceLT, Nat.reduceBEq, Nat.reduceAdd, Nat.reduceEqDiff, Nat.reduceMul, Nat.reduceLeDiff, Nat.reduceSub, Nat.reduceDiv, Int.reduceLE, Int.reduceLT, Int.reduceNeg, Int.reduceAdd, Int.reduceSub, Int.reduceMul, Int.reduceToNat, Int.reducePow, Int.reduceEq, ne_eq, reduceIte, intsM, intD, iD, bsD, bD, setM, setsM, Setg.cells, ranM, ransM, Ran.cells, tabM, slvM, slvsM, Slv.cells, objsM, Obj.cells, reqM, repM, byteD]
  refine acall1_pure (t58 s h) rfl rfl ?_
  cases hs : smallSlv s with
  | false =>
    simp only [↓ru, rv, rl, ry, tyf, iM, bM, bsM, cond_true, cond_false, Nat.reduceLT, Nat.reduceBEq, Nat.reduceAdd, Nat.reduceEqDiff, Nat.reduceMul, Nat.reduceLeDiff, Nat.reduceSub, Nat.reduceDiv, Int.reduceLE, Int.reduceLT, Int.reduceNeg, Int.reduceAdd, Int.reduceSub, Int.reduceMul, Int.reduceToNat, Int.reducePow, Int.reduceEq, ne_eq, reduceIte, intsM, intD, iD, bsD, bD, setM, setsM, Setg.cells, ranM, ransM, Ran.cells, tabM, slvM, slvsM, Slv.cells, objsM, Obj.cells, reqM, repM, byteD]
    refine acall1_pure t59 rfl rfl ?_
    simp only [↓ru, rv, rl, ry, tyf, iM, bM, bsM, cond_true, cond_false, Nat.reduceLT, Nat.reduceBEq, Nat.reduceAdd, Nat.reduceEqDiff, Nat.reduceMul, Nat.reduceLeDiff, Nat.reduceSub, Nat.reduceDiv, Int.reduceLE, Int.reduceLT, Int.reduceNeg, Int.reduceAdd, Int.reduceSub, Int.reduceMul, Int.reduceToNat, Int.reducePow, Int.reduceEq, ne_eq, reduceIte, intsM, intD, iD, bsD, bD, setM, setsM, Setg.cells, ranM, ransM, Ran.cells, tabM, slvM, slvsM, Slv.cells, objsM, Obj.cells, reqM, repM, byteD, pureEnd_of (fn := Try.f19) (rs := [.tmp 10]) (ts := [4]) rfl rfl]
  | true =>
  simp only [↓ru, rv, rl, ry, tyf, iM, bM, bsM, cond_true, cond_false, Nat.reduceLT, Nat.reduceBEq, Nat.reduceAdd, Nat.reduceEqDiff, Nat.reduceMul, Nat.reduceLeDiff, Nat.reduceSub, Nat.reduceDiv, Int.reduceLE, Int.reduceLT, Int.reduceNeg, Int.reduceAdd, Int.reduceSub, Int.reduceMul, Int.reduceToNat, Int.reducePow, Int.reduceEq, ne_eq, reduceIte, intsM, intD, iD, bsD, bD, setM, setsM, Setg.cells, ranM, ransM, Ran.cells, tabM, slvM, slvsM, Slv.cells, objsM, Obj.cells, reqM, repM, byteD]
  refine acall1_pure (t36 s h) rfl rfl ?_
  cases hsv : slvF s with
  | false =>
    simp only [↓ru, rv, rl, ry, tyf, iM, bM, bsM, cond_true, cond_false, Nat.reduceLT, Nat.reduceBEq, Nat.reduceAdd, Nat.reduceEqDiff, Nat.reduceMul, Nat.reduceLeDiff, Nat.reduceSub, Nat.reduceDiv, Int.reduceLE, Int.reduceLT, Int.reduceNeg, Int.reduceAdd, Int.reduceSub, Int.reduceMul, Int.reduceToNat, Int.reducePow, Int.reduceEq, ne_eq, reduceIte, intsM, intD, iD, bsD, bD, setM, setsM, Setg.cells, ranM, ransM, Ran.cells, tabM, slvM, slvsM, Slv.cells, objsM, Obj.cells, reqM, repM, byteD]
    refine acall1_pure t59 rfl rfl ?_
    simp only [↓ru, rv, rl, ry, tyf, iM, bM, bsM, cond_true, cond_false, Nat.reduceLT, Nat.reduceBEq, Nat.reduceAdd, Nat.reduceEqDiff, Nat.reduceMul, Nat.reduceLeDiff, Nat.reduceSub, Nat.reduceDiv, Int.reduceLE, Int.reduceLT, Int.reduceNeg, Int.reduceAdd, Int.reduceSub, Int.reduceMul, Int.reduceToNat, Int.reducePow, Int.reduceEq, ne_eq, reduceIte, intsM, intD, iD, bsD, bD, setM, setsM, Setg.cells, ranM, ransM, Ran.cells, tabM, slvM, slvsM, Slv.cells, objsM, Obj.cells, reqM, repM, byteD, pureEnd_of (fn := Try.f19) (rs := [.tmp 10]) (ts := [4]) rfl rfl]
  | true =>
  simp only [↓ru, rv, rl, ry, tyf, iM, bM, bsM, cond_true, cond_false, Nat.reduceLT, Nat.reduceBEq, Nat.reduceAdd, Nat.reduceEqDiff, Nat.reduceMul, Nat.reduceLeDiff, Nat.reduceSub, Nat.reduceDiv, Int.reduceLE, Int.reduceLT, Int.reduceNeg, Int.reduceAdd, Int.reduceSub, Int.reduceMul, Int.reduceToNat, Int.reducePow, Int.reduceEq, ne_eq, reduceIte, intsM, intD, iD, bsD, bD, setM, setsM, Setg.cells, ranM, ransM, Ran.cells, tabM, slvM, slvsM, Slv.cells, objsM, Obj.cells, reqM, repM, byteD]
  refine acall1_pure (t27 kind 4 (by omega)) rfl rfl ?_
  have hk : 0 ≤ kind % 4 ∧ kind % 4 ≤ 3 := by omega
  generalize kind % 4 = k at hk ⊢
  simp only [↓ru, rv, rl, ry, tyf, iM, bM, bsM, cond_true, cond_false, Nat.reduceLT, Nat.reduceBEq, Nat.reduceAdd, Nat.reduceEqDiff, Nat.reduceMul, Nat.reduceLeDiff, Nat.reduceSub, Nat.reduceDiv, Int.reduceLE, Int.reduceLT, Int.reduceNeg, Int.reduceAdd, Int.reduceSub, Int.reduceMul, Int.reduceToNat, Int.reducePow, Int.reduceEq, ne_eq, reduceIte, intsM, intD, iD, bsD, bD, setM, setsM, Setg.cells, ranM, ransM, Ran.cells, tabM, slvM, slvsM, Slv.cells, objsM, Obj.cells, reqM, repM, byteD]
  refine acall1_pure (t27 b 20 (by omega)) rfl rfl ?_
  generalize b % 20 = b
  simp only [↓ru, rv, rl, ry, tyf, iM, bM, bsM, cond_true, cond_false, Nat.reduceLT, Nat.reduceBEq, Nat.reduceAdd, Nat.reduceEqDiff, Nat.reduceMul, Nat.reduceLeDiff, Nat.reduceSub, Nat.reduceDiv, Int.reduceLE, Int.reduceLT, Int.reduceNeg, Int.reduceAdd, Int.reduceSub, Int.reduceMul, Int.reduceToNat, Int.reducePow, Int.reduceEq, ne_eq, reduceIte, intsM, intD, iD, bsD, bD, setM, setsM, Setg.cells, ranM, ransM, Ran.cells, tabM, slvM, slvsM, Slv.cells, objsM, Obj.cells, reqM, repM, byteD]
  refine acall1_pure (t53 k a b) rfl rfl ?_
  obtain ⟨hfn, hq, hrq, hqc, hqo, hqr⟩ := makeF_tb (a := a) (b := b) hk
  generalize makeF k a b = q at hfn hq hrq hqc hqo hqr ⊢
  have hans := ansF_tab hsv hrq hv0 hq
  have htab : tblF q.fn (s.tab q.fn) = true := by
    obtain ⟨hb0, hb1, hb2, hb3⟩ := slvF_tabs hsv
    have hkc : k = 0 ∨ k = 1 ∨ k = 2 ∨ k = 3 := by omega
    rcases hkc with rfl | rfl | rfl | rfl <;> rw [hfn] <;> assumption
  have ha := hq.addr
  have hqt := hq.qty
  have hf4 := hq.fn
  have hone := fun i hi hex => readT_one (t := s.tab q.fn) (v := v) (i := i) hq hqr htab hi hex
  have h63 := t63 s q v h
  rw [hans] at h63
  simp only [↓ru, rv, rl, ry, tyf, iM, bM, bsM, cond_true, cond_false, Nat.reduceLT, Nat.reduceBEq, Nat.reduceAdd, Nat.reduceEqDiff, Nat.reduceMul, Nat.reduceLeDiff, Nat.reduceSub, Nat.reduceDiv, Int.reduceLE, Int.reduceLT, Int.reduceNeg, Int.reduceAdd, Int.reduceSub, Int.reduceMul, Int.reduceToNat, Int.reducePow, Int.reduceEq, ne_eq, reduceIte, intsM, intD, iD, bsD, bD, setM, setsM, Setg.cells, ranM, ransM, Ran.cells, tabM, slvM, slvsM, Slv.cells, objsM, Obj.cells, reqM, repM, byteD]
  refine acall1_pure h63 rfl rfl ?_
  simp only [↓ru, rv, rl, ry, tyf, iM, bM, bsM, cond_true, cond_false, Nat.reduceLT, Nat.reduceBEq, Nat.reduceAdd, Nat.reduceEqDiff, Nat.reduceMul, Nat.reduceLeDiff, Nat.reduceSub, Nat.reduceDiv, Int.reduceLE, Int.reduceLT, Int.reduceNeg, Int.reduceAdd, Int.reduceSub, Int.reduceMul, Int.reduceToNat, Int.reducePow, Int.reduceEq, ne_eq, reduceIte, intsM, intD, iD, bsD, bD, setM, setsM, Setg.cells, ranM, ransM, Ran.cells, tabM, slvM, slvsM, Slv.cells, objsM, Obj.cells, reqM, repM, byteD]
  by_cases hex : (readT (s.tab q.fn) q v).ex = 0
  · have de : decide ((readT (s.tab q.fn) q v).ex = 0) = true := by simpa using hex
    obtain ⟨hR, _⟩ := hone 0 (by omega) hex
    rw [hR]
    clear de
    simp only [↓ru, rv, rl, ry, tyf, iM, bM, bsM, cond_true, cond_false, Nat.reduceLT, Nat.reduceBEq, Nat.reduceAdd, Nat.reduceEqDiff, Nat.reduceMul, Nat.reduceLeDiff, Nat.reduceSub, Nat.reduceDiv, Int.reduceLE, Int.reduceLT, Int.reduceNeg, Int.reduceAdd, Int.reduceSub, Int.reduceMul, Int.reduceToNat, Int.reducePow, Int.reduceEq, ne_eq, reduceIte, intsM, intD, iD, bsD, bD, setM, setsM, Setg.cells, ranM, ransM, Ran.cells, tabM, slvM, slvsM, Slv.cells, objsM, Obj.cells, reqM, repM, byteD]
    refine aloop_lk (fun j : Nat => [(4, iM v), (5, .ptr 0 0), (11, .ptr 19 0), (12, .ptr 25 0), (13, iM j)])
      (fun j => [(25, .st [iM q.fn, iM 0, bsM (dataF q v), iM 0, iM 0, bM false, iM 0, objsM []]), (19, .st [iM q.fn, iM q.addr, iM q.qty, iM q.code, iM q.obj]), (0, slvBox s)])
      (fun j => (j : Int) ≤ q.qty) (fun j => (q.qty - j).toNat) 0 26 0 (by simp only [↓ru, rv, rl, ry, tyf, iM, bM, bsM, cond_true, cond_false, Nat.reduceLT, Nat.reduceBEq, Nat.reduceAdd, Nat.reduceEqDiff, Nat.reduceMul, Nat.reduceLeDiff, Nat.reduceSub, Nat.reduceDiv, Int.reduceLE, Int.reduceLT, Int.reduceNeg, Int.reduceAdd, Int.reduceSub, Int.reduceMul, Int.reduceToNat, Int.reducePow, Int.reduceEq, ne_eq, reduceIte, intsM, intD, iD, bsD, bD, setM, setsM, Setg.cells, ranM, ransM, Ran.cells, tabM, slvM, slvsM, Slv.cells, objsM, Obj.cells, reqM, repM, byteD]) (by simp only [↓ru, rv, rl, ry, tyf, iM, bM, bsM, cond_true, cond_false, Nat.reduceLT, Nat.reduceBEq, Nat.reduceAdd, Nat.reduceEqDiff, Nat.reduceMul, Nat.reduceLeDiff, Nat.reduceSub, Nat.reduceDiv, Int.reduceLE, Int.reduceLT, Int.reduceNeg, Int.reduceAdd, Int.reduceSub, Int.reduceMul, Int.reduceToNat, Int.reducePow, Int.reduceEq, ne_eq, reduceIte, intsM, intD, iD, bsD, bD, setM, setsM, Setg.cells, ranM, ransM, Ran.cells, tabM, slvM, slvsM, Slv.cells, objsM, Obj.cells, reqM, repM, byteD]) (by omega) (by omega) ?_
    intro j e0 n hj
    simp only [↓ru, rv, rl, ry, tyf, iM, bM, bsM, cond_true, cond_false, Nat.reduceLT, Nat.reduceBEq, Nat.reduceAdd, Nat.reduceEqDiff, Nat.reduceMul, Nat.reduceLeDiff, Nat.reduceSub, Nat.reduceDiv, Int.reduceLE, Int.reduceLT, Int.reduceNeg, Int.reduceAdd, Int.reduceSub, Int.reduceMul, Int.reduceToNat, Int.reducePow, Int.reduceEq, ne_eq, reduceIte, intsM, intD, iD, bsD, bD, setM, setsM, Setg.cells, ranM, ransM, Ran.cells, tabM, slvM, slvsM, Slv.cells, objsM, Obj.cells, reqM, repM, byteD]
    refine fork_split (fun h1 => ?_) (fun h1 => ?_)
    · have h1' := of_decide_eq_true h1
      have hq1 : (⟨q.fn, q.addr + j, 1, 0, 0⟩ : Req).Tb := ⟨hf4, by simp only; omega, by simp only; omega⟩
      have hrq1 : reqF ⟨q.fn, q.addr + j, 1, 0, 0⟩ = true := by
        have := limitF_pos hf4
        rw [reqF, if_pos (by simp only; omega)]; simp; omega
      have h63' := t63 s ⟨q.fn, q.addr + j, 1, 0, 0⟩ v h
      rw [ansF_tab hsv hrq1 hv0 hq1, (hone j h1' hex).2, one_data] at h63'
      simp only [↓ru, rv, rl, ry, tyf, iM, bM, bsM, cond_true, cond_false, Nat.reduceLT, Nat.reduceBEq, Nat.reduceAdd, Nat.reduceEqDiff, Nat.reduceMul, Nat.reduceLeDiff, Nat.reduceSub, Nat.reduceDiv, Int.reduceLE, Int.reduceLT, Int.reduceNeg, Int.reduceAdd, Int.reduceSub, Int.reduceMul, Int.reduceToNat, Int.reducePow, Int.reduceEq, ne_eq, reduceIte, intsM, intD, iD, bsD, bD, setM, setsM, Setg.cells, ranM, ransM, Ran.cells, tabM, slvM, slvsM, Slv.cells, objsM, Obj.cells, reqM, repM, byteD]
      simp (disch := omega) only [wrap_i64, wrap_u8, wrap_u16, wrap_u64]
      refine acall1_pure h63' rfl rfl ?_
      by_cases h3 : 3 ≤ q.fn
      · have d3 : decide (3 ≤ q.fn) = true := by simpa using h3
        rw [if_pos h3]
        have hD : dataF q v = regs q v q.qty.toNat := by rw [dataF, if_pos h3]
        have hDl : ((dataF q v).length : Int) = 2 * q.qty := by rw [hD, regs_len]; omega
        obtain ⟨g1, g2⟩ := regs_get q v q.qty.toNat j (by omega)
        have h2 := two_of g1 g2
        rw [← hD] at h2
        generalize dataF q v = L at hDl h2 ⊢
        have dl : decide ((L.length : Int) < 2 * (j : Int) + 2) = false := by simp; omega
        have hbo : bytesOf [[D.v (.int .u8 ((u8 (wordAt q v j / 256)).toNat : Int))], [D.v (.int .u8 ((u8 (wordAt q v j)).toNat : Int))]] = some [u8 (wordAt q v j / 256), u8 (wordAt q v j)] := bytesOf_byteD [u8 (wordAt q v j / 256), u8 (wordAt q v j)]
        simp only [↓ru, rv, rl, ry, tyf, iM, bM, bsM, cond_true, cond_false, Nat.reduceLT, Nat.reduceBEq, Nat.reduceAdd, Nat.reduceEqDiff, Nat.reduceMul, Nat.reduceLeDiff, Nat.reduceSub, Nat.reduceDiv, Int.reduceLE, Int.reduceLT, Int.reduceNeg, Int.reduceAdd, Int.reduceSub, Int.reduceMul, Int.reduceToNat, Int.reducePow, Int.reduceEq, ne_eq, reduceIte, intsM, intD, iD, bsD, bD, setM, setsM, Setg.cells, ranM, ransM, Ran.cells, tabM, slvM, slvsM, Slv.cells, objsM, Obj.cells, reqM, repM, byteD, d3]
        (try simp (disch := omega) only [wrap_i64, wrap_u8, wrap_u16, wrap_u64])
        simp only [↓ru, rv, rl, ry, tyf, iM, bM, bsM, cond_true, cond_false, Nat.reduceLT, Nat.reduceBEq, Nat.reduceAdd, Nat.reduceEqDiff, Nat.reduceMul, Nat.reduceLeDiff, Nat.reduceSub, Nat.reduceDiv, Int.reduceLE, Int.reduceLT, Int.reduceNeg, Int.reduceAdd, Int.reduceSub, Int.reduceMul, Int.reduceToNat, Int.reducePow, Int.reduceEq, ne_eq, reduceIte, intsM, intD, iD, bsD, bD, setM, setsM, Setg.cells, ranM, ransM, Ran.cells, tabM, slvM, slvsM, Slv.cells, objsM, Obj.cells, reqM, repM, byteD, dl, hbo]
        simp (disch := omega) only [wrap_i64, wrap_u8, wrap_u16, wrap_u64]
        refine grd_intro (by omega) ?_
        have e1 : ((2 * (j : Int)).toNat) = 2 * j := by omega
        have e2 : (2 * (j : Int) + 2 - 2 * (j : Int)).toNat = 2 := by omega
        rw [e1, e2, h2]
        simp only [↓ru, rv, rl, ry, tyf, iM, bM, bsM, cond_true, cond_false, Nat.reduceLT, Nat.reduceBEq, Nat.reduceAdd, Nat.reduceEqDiff, Nat.reduceMul, Nat.reduceLeDiff, Nat.reduceSub, Nat.reduceDiv, Int.reduceLE, Int.reduceLT, Int.reduceNeg, Int.reduceAdd, Int.reduceSub, Int.reduceMul, Int.reduceToNat, Int.reducePow, Int.reduceEq, ne_eq, reduceIte, intsM, intD, iD, bsD, bD, setM, setsM, Setg.cells, ranM, ransM, Ran.cells, tabM, slvM, slvsM, Slv.cells, objsM, Obj.cells, reqM, repM, byteD]
        simp (disch := omega) only [wrap_i64, wrap_u8, wrap_u16, wrap_u64]
        refine loopL_drop (j + 1) (by simp only [↓ru, rv, rl, ry, tyf, iM, bM, bsM, cond_true, cond_false, Nat.reduceLT, Nat.reduceBEq, Nat.reduceAdd, Nat.reduceEqDiff, Nat.reduceMul, Nat.reduceLeDiff, Nat.reduceSub, Nat.reduceDiv, Int.reduceLE, Int.reduceLT, Int.reduceNeg, Int.reduceAdd, Int.reduceSub, Int.reduceMul, Int.reduceToNat, Int.reducePow, Int.reduceEq, ne_eq, reduceIte, intsM, intD, iD, bsD, bD, setM, setsM, Setg.cells, ranM, ransM, Ran.cells, tabM, slvM, slvsM, Slv.cells, objsM, Obj.cells, reqM, repM, byteD]; (try simp)) (by simp only [↓ru, rv, rl, ry, tyf, iM, bM, bsM, cond_true, cond_false, Nat.reduceLT, Nat.reduceBEq, Nat.reduceAdd, Nat.reduceEqDiff, Nat.reduceMul, Nat.reduceLeDiff, Nat.reduceSub, Nat.reduceDiv, Int.reduceLE, Int.reduceLT, Int.reduceNeg, Int.reduceAdd, Int.reduceSub, Int.reduceMul, Int.reduceToNat, Int.reducePow, Int.reduceEq, ne_eq, reduceIte, intsM, intD, iD, bsD, bD, setM, setsM, Setg.cells, ranM, ransM, Ran.cells, tabM, slvM, slvsM, Slv.cells, objsM, Obj.cells, reqM, repM, byteD]) (by omega) (by omega) (by omega)
      · have d3 : decide (3 ≤ q.fn) = false := by simpa using h3
        rw [if_neg h3]
        have hD : dataF q v = packB (bitAt q v) q.qty.toNat ((q.qty.toNat + 7) / 8) := by rw [dataF, if_neg h3]
        have hDl : (dataF q v).length = (q.qty.toNat + 7) / 8 := by rw [hD, packB_len]
        have hg := packB_get (bitAt q v) q.qty.toNat ((q.qty.toNat + 7) / 8) (j / 8) (by omega)
        rw [← hD] at hg
        generalize dataF q v = L at hDl hg ⊢
        have htd : IntKind.i64.wrap ((j : Int).tdiv 8) = ((j / 8 : Nat) : Int) := by
          rw [Int.tdiv_eq_ediv_of_nonneg (by omega), wrap_i64 (by omega) (by omega)]; omega
        have htm : (j : Int).tmod 8 = ((j % 8 : Nat) : Int) := by
          rw [Int.tmod_eq_emod_of_nonneg (by omega)]; omega
        have dl : decide ((L.length : Int) ≤ ((j / 8 : Nat) : Int)) = false := by simp; omega
        have hw64 : IntKind.u64.wrap ((j % 8 : Nat) : Int) = ((j % 8 : Nat) : Int) := wrap_u64 (by omega) (by omega)
        simp only [↓ru, rv, rl, ry, tyf, iM, bM, bsM, cond_true, cond_false, Nat.reduceLT, Nat.reduceBEq, Nat.reduceAdd, Nat.reduceEqDiff, Nat.reduceMul, Nat.reduceLeDiff, Nat.reduceSub, Nat.reduceDiv, Int.reduceLE, Int.reduceLT, Int.reduceNeg, Int.reduceAdd, Int.reduceSub, Int.reduceMul, Int.reduceToNat, Int.reducePow, Int.reduceEq, ne_eq, reduceIte, intsM, intD, iD, bsD, bD, setM, setsM, Setg.cells, ranM, ransM, Ran.cells, tabM, slvM, slvsM, Slv.cells, objsM, Obj.cells, reqM, repM, byteD, d3, htd, htm]
        simp only [↓ru, rv, rl, ry, tyf, iM, bM, bsM, cond_true, cond_false, Nat.reduceLT, Nat.reduceBEq, Nat.reduceAdd, Nat.reduceEqDiff, Nat.reduceMul, Nat.reduceLeDiff, Nat.reduceSub, Nat.reduceDiv, Int.reduceLE, Int.reduceLT, Int.reduceNeg, Int.reduceAdd, Int.reduceSub, Int.reduceMul, Int.reduceToNat, Int.reducePow, Int.reduceEq, ne_eq, reduceIte, intsM, intD, iD, bsD, bD, setM, setsM, Setg.cells, ranM, ransM, Ran.cells, tabM, slvM, slvsM, Slv.cells, objsM, Obj.cells, reqM, repM, byteD, dl]
        simp only [↓ru, rv, rl, ry, tyf, iM, bM, bsM, cond_true, cond_false, Nat.reduceLT, Nat.reduceBEq, Nat.reduceAdd, Nat.reduceEqDiff, Nat.reduceMul, Nat.reduceLeDiff, Nat.reduceSub, Nat.reduceDiv, Int.reduceLE, Int.reduceLT, Int.reduceNeg, Int.reduceAdd, Int.reduceSub, Int.reduceMul, Int.reduceToNat, Int.reducePow, Int.reduceEq, ne_eq, reduceIte, intsM, intD, iD, bsD, bD, setM, setsM, Setg.cells, ranM, ransM, Ran.cells, tabM, slvM, slvsM, Slv.cells, objsM, Obj.cells, reqM, repM, byteD, htd, htm, hw64, hg, Int.toNat_natCast, Int.natCast_nonneg]
        have hbit := bb_bit (bitAt q v) (8 * (j / 8)) (min 8 (q.qty.toNat - 8 * (j / 8))) (j % 8) (by omega)
        have hblt := bb_lt (bitAt q v) (8 * (j / 8)) (min 8 (q.qty.toNat - 8 * (j / 8)))
        have hp8 := Nat.pow_le_pow_right (show 0 < 2 by omega) (show min 8 (q.qty.toNat - 8 * (j / 8)) ≤ 8 by omega)
        rw [show 8 * (j / 8) + j % 8 = j by omega] at hbit
        generalize bb (bitAt q v) (8 * (j / 8)) (min 8 (q.qty.toNat - 8 * (j / 8))) = x at hbit hblt ⊢
        have hbyte : ((UInt8.ofNat x).toNat : Int) = (x : Int) := by simp only [UInt8.toNat_ofNat']; omega
        have hx := Nat.div_le_self x (2 ^ (j % 8))
        have hshr : ∀ {t : TypeId} {xo yo : Operand} {B : Bx} {K : K2}, aBin Try.prog .shr t xo yo (.d (.v (.int .u8 (x : Int)))) (.d (.v (.int .u64 ((j % 8 : Nat) : Int)))) B K = kk K (.d (.v (.int .u8 ((x / 2 ^ (j % 8) : Nat) : Int)))) B := by
          intro t xo yo B K
          have e : (x : Int) / 2 ^ (((j % 8 : Nat) : Int).toNat) = ((x / 2 ^ (j % 8) : Nat) : Int) := by rw [Int.toNat_natCast]; simp
          rw [bin_shr (by omega) (by show ((j % 8 : Nat) : Int) ≤ 8; omega), e]
          rfl
        have hand : bAnd .u8 ((x / 2 ^ (j % 8) : Nat) : Int) 1 = ((if bitAt q v j then 1 else 0 : Nat) : Int) := by
          generalize x / 2 ^ (j % 8) = y at hbit hx ⊢
          rw [bAnd8_one (by omega), ← hbit]; simp
        have hu : (((if bitAt q v j then 1 else 0 : UInt8)).toNat : Int) = ((if bitAt q v j then 1 else 0 : Nat) : Int) := by split <;> rfl
        generalize (if bitAt q v j then 1 else 0 : Nat) = β at hand hu
        simp only [↓ru, rv, rl, ry, tyf, iM, bM, bsM, cond_true, cond_false, Nat.reduceLT, Nat.reduceBEq, Nat.reduceAdd, Nat.reduceEqDiff, Nat.reduceMul, Nat.reduceLeDiff, Nat.reduceSub, Nat.reduceDiv, Int.reduceLE, Int.reduceLT, Int.reduceNeg, Int.reduceAdd, Int.reduceSub, Int.reduceMul, Int.reduceToNat, Int.reducePow, Int.reduceEq, ne_eq, reduceIte, intsM, intD, iD, bsD, bD, setM, setsM, Setg.cells, ranM, ransM, Ran.cells, tabM, slvM, slvsM, Slv.cells, objsM, Obj.cells, reqM, repM, byteD, hbyte, hshr, hand, hu]
        simp (disch := omega) only [wrap_i64, wrap_u8, wrap_u16, wrap_u64]
        refine loopL_drop (j + 1) (by simp only [↓ru, rv, rl, ry, tyf, iM, bM, bsM, cond_true, cond_false, Nat.reduceLT, Nat.reduceBEq, Nat.reduceAdd, Nat.reduceEqDiff, Nat.reduceMul, Nat.reduceLeDiff, Nat.reduceSub, Nat.reduceDiv, Int.reduceLE, Int.reduceLT, Int.reduceNeg, Int.reduceAdd, Int.reduceSub, Int.reduceMul, Int.reduceToNat, Int.reducePow, Int.reduceEq, ne_eq, reduceIte, intsM, intD, iD, bsD, bD, setM, setsM, Setg.cells, ranM, ransM, Ran.cells, tabM, slvM, slvsM, Slv.cells, objsM, Obj.cells, reqM, repM, byteD]; (try simp)) (by simp only [↓ru, rv, rl, ry, tyf, iM, bM, bsM, cond_true, cond_false, Nat.reduceLT, Nat.reduceBEq, Nat.reduceAdd, Nat.reduceEqDiff, Nat.reduceMul, Nat.reduceLeDiff, Nat.reduceSub, Nat.reduceDiv, Int.reduceLE, Int.reduceLT, Int.reduceNeg, Int.reduceAdd, Int.reduceSub, Int.reduceMul, Int.reduceToNat, Int.reducePow, Int.reduceEq, ne_eq, reduceIte, intsM, intD, iD, bsD, bD, setM, setsM, Setg.cells, ranM, ransM, Ran.cells, tabM, slvM, slvsM, Slv.cells, objsM, Obj.cells, reqM, repM, byteD]) (by omega) (by omega) (by omega)
    · have h1' := of_decide_eq_false h1
      simp only [↓ru, rv, rl, ry, tyf, iM, bM, bsM, cond_true, cond_false, Nat.reduceLT, Nat.reduceBEq, Nat.reduceAdd, Nat.reduceEqDiff, Nat.reduceMul, Nat.reduceLeDiff, Nat.reduceSub, Nat.reduceDiv, Int.reduceLE, Int.reduceLT, Int.reduceNeg, Int.reduceAdd, Int.reduceSub, Int.reduceMul, Int.reduceToNat, Int.reducePow, Int.reduceEq, ne_eq, reduceIte, intsM, intD, iD, bsD, bD, setM, setsM, Setg.cells, ranM, ransM, Ran.cells, tabM, slvM, slvsM, Slv.cells, objsM, Obj.cells, reqM, repM, byteD]
      refine acall1_pure t59 rfl rfl ?_
      simp only [↓ru, rv, rl, ry, tyf, iM, bM, bsM, cond_true, cond_false, Nat.reduceLT, Nat.reduceBEq, Nat.reduceAdd, Nat.reduceEqDiff, Nat.reduceMul, Nat.reduceLeDiff, Nat.reduceSub, Nat.reduceDiv, Int.reduceLE, Int.reduceLT, Int.reduceNeg, Int.reduceAdd, Int.reduceSub, Int.reduceMul, Int.reduceToNat, Int.reducePow, Int.reduceEq, ne_eq, reduceIte, intsM, intD, iD, bsD, bD, setM, setsM, Setg.cells, ranM, ransM, Ran.cells, tabM, slvM, slvsM, Slv.cells, objsM, Obj.cells, reqM, repM, byteD, pureEnd_of (fn := Try.f19) (rs := [.tmp 10]) (ts := [4]) rfl rfl]
  · have de : decide ((readT (s.tab q.fn) q v).ex = 0) = false := by simpa using hex
    simp only [↓ru, rv, rl, ry, tyf, iM, bM, bsM, cond_true, cond_false, Nat.reduceLT, Nat.reduceBEq, Nat.reduceAdd, Nat.reduceEqDiff, Nat.reduceMul, Nat.reduceLeDiff, Nat.reduceSub, Nat.reduceDiv, Int.reduceLE, Int.reduceLT, Int.reduceNeg, Int.reduceAdd, Int.reduceSub, Int.reduceMul, Int.reduceToNat, Int.reducePow, Int.reduceEq, ne_eq, reduceIte, intsM, intD, iD, bsD, bD, setM, setsM, Setg.cells, ranM, ransM, Ran.cells, tabM, slvM, slvsM, Slv.cells, objsM, Obj.cells, reqM, repM, byteD, de]
    refine acall1_pure t59 rfl rfl ?_
    simp only [↓ru, rv, rl, ry, tyf, iM, bM, bsM, cond_true, cond_false, Nat.reduceLT, Nat.reduceBEq, Nat.reduceAdd, Nat.reduceEqDiff, Nat.reduceMul, Nat.reduceLeDiff, Nat.reduceSub, Nat.reduceDiv, Int.reduceLE, Int.reduceLT, Int.reduceNeg, Int.reduceAdd, Int.reduceSub, Int.reduceMul, Int.reduceToNat, Int.reducePow, Int.reduceEq, ne_eq, reduceIte, intsM, intD, iD, bsD, bD, setM, setsM, Setg.cells, ranM, ransM, Ran.cells, tabM, slvM, slvsM, Slv.cells, objsM, Obj.cells, reqM, repM, byteD, pureEnd_of (fn := Try.f19) (rs := [.tmp 10]) (ts := [4]) rfl rfl]
end Go.R2

import Derived.Test.YtmgfnlnomecbiaaDoorKE
set_option linter.all false
open Go.Proofs Go.Abs Go.Fa Go.BU Go.TX Go.TW
namespace Go.CF
set_option maxHeartbeats 4000000
set_option maxRecDepth 10000
-- rules: byteD, dstr, un1_str, iD, bD

theorem SameC (a b : Cfg) (ha : a.set.length ≤ 9223372036854775807) (hb : b.set.length ≤ 9223372036854775807) : PFn Tryd.prog 41 [cfgM a, cfgM b] (bM (decide (a = b))) := by
  obtain ⟨s1, p1, p2, p3, p4, p5, w0, w1, w2, w3, p6, p7⟩ := a
  obtain ⟨s2, q1, q2, q3, q4, q5, v0, v1, v2, v3, q6, q7⟩ := b
  simp only at ha hb
  generalize hR : decide ((⟨s1, p1, p2, p3, p4, p5, w0, w1, w2, w3, p6, p7⟩ : Cfg) = ⟨s2, q1, q2, q3, q4, q5, v0, v1, v2, v3, q6, q7⟩) = R
  have hno : Shut (¬ ((⟨s1, p1, p2, p3, p4, p5, w0, w1, w2, w3, p6, p7⟩ : Cfg) = ⟨s2, q1, q2, q3, q4, q5, v0, v1, v2, v3, q6, q7⟩) → R = false) := fun h => by rw [← hR]; exact decide_eq_false h
  have hyes : Shut ((⟨s1, p1, p2, p3, p4, p5, w0, w1, w2, w3, p6, p7⟩ : Cfg) = ⟨s2, q1, q2, q3, q4, q5, v0, v1, v2, v3, q6, q7⟩ → R = true) := fun h => by rw [← hR]; exact decide_eq_true h
  clear hR
  (refine PFn.of (prs := [(6, [])]) Tryd.func41 rfl rfl mix (by kernel_rfl) rfl rfl ?_; simp only [Tryd.ntmps41, argUpd])
  (try (simp only [↓ru, rv, rl, ry, tyf, iM, bM, bsM, cond_true, cond_false, Nat.reduceLT, Nat.reduceBEq, Nat.reduceAdd, Nat.reduceEqDiff, Nat.reduceMul, Nat.reduceLeDiff, Nat.reduceSub, Nat.reduceDiv, Int.reduceLE, Int.reduceLT, Int.reduceNeg, Int.reduceAdd, Int.reduceSub, Int.reduceMul, Int.reduceToNat, Int.reducePow, Int.reduceEq, ne_eq, reduceIte, byteD, dstr, un1_str, iD, bD, win_neq', pureEnd_of (fn := Tryd.f41) (rs := [.tmp 4]) (ts := [4]) rfl rfl, *])); repeat' ((first | (refine fork_split (fun _h => ?_) (fun _h => ?_)) | (refine gfork_split (fun _h => ?_) (fun _h => ?_)) | (refine dfork_split (fun _h => ?_) (fun _h => ?_))) <;> (try (simp only [↓ru, rv, rl, ry, tyf, iM, bM, bsM, cond_true, cond_false, Nat.reduceLT, Nat.reduceBEq, Nat.reduceAdd, Nat.reduceEqDiff, Nat.reduceMul, Nat.reduceLeDiff, Nat.reduceSub, Nat.reduceDiv, Int.reduceLE, Int.reduceLT, Int.reduceNeg, Int.reduceAdd, Int.reduceSub, Int.reduceMul, Int.reduceToNat, Int.reducePow, Int.reduceEq, ne_eq, reduceIte, byteD, dstr, un1_str, iD, bD, win_neq', pureEnd_of (fn := Tryd.f41) (rs := [.tmp 4]) (ts := [4]) rfl rfl, *])))
  all_goals try (refine congrArg (fun z => M.d (D.v (Value.bool z))) (hno ?_).symm; (try simp only [Bool.not_eq_true', Bool.not_eq_false', decide_eq_true_eq, decide_eq_false_iff_not] at *); intro e; simp only [Cfg.mk.injEq] at e; obtain ⟨e1, e2, e3, e4, e5, e6, e7, e8, e9, e10, e11, e12⟩ := e; subst e1 e7 e8 e9 e10; first | omega | (simp_all; done))
  have rg_ext : ∀ (x y : Rg), x.f = y.f → x.c = y.c → x = y := fun x y h1 h2 => by obtain ⟨x1, x2⟩ := x; obtain ⟨y1, y2⟩ := y; simp only at h1 h2; subst h1 h2; rfl
  have hall : s1.length = s2.length ∧ p1 = q1 ∧ p2 = q2 ∧ p3 = q3 ∧ p4 = q4 ∧ p5 = q5 ∧ w0 = v0 ∧ w1 = v1 ∧ w2 = v2 ∧ w3 = v3 ∧ p6 = q6 ∧ p7 = q7 := by
    rename_i h1 h2 h3 h4 h5 h6 h7 h8
    (try simp only [Bool.not_eq_true', Bool.not_eq_false', decide_eq_true_eq, decide_eq_false_iff_not] at *)
    simp only [List.cons.injEq] at h7
    obtain ⟨a1, a2, a3, a4, a5, a6, a7, a8, _⟩ := h7
    exact ⟨by omega, h2, h3, h4, h5, h6, rg_ext _ _ a1 a2, rg_ext _ _ a3 a4, rg_ext _ _ a5 a6, rg_ext _ _ a7 a8, h8, _h⟩
  obtain ⟨hl, rfl, rfl, rfl, rfl, rfl, rfl, rfl, rfl, rfl, rfl, rfl⟩ := hall
  refine aloop_lv (fun i : Nat => [(2, .ptr 0 0), (3, .ptr 1 0), (5, iM i)]) (fun _ => [(1, .st [stgsM s2, iM p1, iM p2, iM p3, iM p4, iM p5, iM w0.f, iM w0.c, iM w1.f, iM w1.c, iM w2.f, iM w2.c, iM w3.f, iM w3.c, iM p6, iM p7]), (0, .st [stgsM s1, iM p1, iM p2, iM p3, iM p4, iM p5, iM w0.f, iM w0.c, iM w1.f, iM w1.c, iM w2.f, iM w2.c, iM w3.f, iM w3.c, iM p6, iM p7])]) (fun i => i ≤ s1.length ∧ s1.take i = s2.take i) (fun i => s1.length - i) 0 0 ?_ rfl ⟨by omega, by simp⟩ (by omega) ?_
  · simp only [↓ru, rv, rl, ry, tyf, iM, bM, bsM, cond_true, cond_false, Nat.reduceLT, Nat.reduceBEq, Nat.reduceAdd, Nat.reduceEqDiff, Nat.reduceMul, Nat.reduceLeDiff, Nat.reduceSub, Nat.reduceDiv, Int.reduceLE, Int.reduceLT, Int.reduceNeg, Int.reduceAdd, Int.reduceSub, Int.reduceMul, Int.reduceToNat, Int.reducePow, Int.reduceEq, ne_eq, reduceIte, byteD, dstr, un1_str, iD, bD]
    try simp
  intro i e0 n ⟨hi, ht⟩
  have ht' : Shut (s1.take i = s2.take i) := ht
  clear ht
  simp only [↓ru, rv, rl, ry, tyf, iM, bM, bsM, cond_true, cond_false, Nat.reduceLT, Nat.reduceBEq, Nat.reduceAdd, Nat.reduceEqDiff, Nat.reduceMul, Nat.reduceLeDiff, Nat.reduceSub, Nat.reduceDiv, Int.reduceLE, Int.reduceLT, Int.reduceNeg, Int.reduceAdd, Int.reduceSub, Int.reduceMul, Int.reduceToNat, Int.reducePow, Int.reduceEq, ne_eq, reduceIte, byteD, dstr, un1_str, iD, bD]
  refine fork_split (fun h => ?_) (fun h => ?_)
  · have h' := of_decide_eq_true h
    obtain ⟨x, hx⟩ := get_of_lt (l := s1) (i := i) (by omega)
    obtain ⟨y, hy⟩ := get_of_lt (l := s2) (i := i) (by omega)
    by_cases hxy : x = y
    · subst hxy
      have de : decide ((⟨x.baud, x.par⟩ : Stg) = ⟨x.baud, x.par⟩) = true := decide_eq_true rfl
      simp only [↓ru, rv, rl, ry, tyf, iM, bM, bsM, cond_true, cond_false, Nat.reduceLT, Nat.reduceBEq, Nat.reduceAdd, Nat.reduceEqDiff, Nat.reduceMul, Nat.reduceLeDiff, Nat.reduceSub, Nat.reduceDiv, Int.reduceLE, Int.reduceLT, Int.reduceNeg, Int.reduceAdd, Int.reduceSub, Int.reduceMul, Int.reduceToNat, Int.reducePow, Int.reduceEq, ne_eq, reduceIte, byteD, dstr, un1_str, iD, bD, hx, hy, stg_neq', de]
      simp (disch := omega) only [wrap_i64, wrap_u8, wrap_u16, wrap_u64]
      refine loopL_next (i + 1) ?_ rfl ⟨by omega, take_ext ht' hx hy⟩ (by omega) (by omega)
      simp only [↓ru, rv, rl, ry, tyf, iM, bM, bsM, cond_true, cond_false, Nat.reduceLT, Nat.reduceBEq, Nat.reduceAdd, Nat.reduceEqDiff, Nat.reduceMul, Nat.reduceLeDiff, Nat.reduceSub, Nat.reduceDiv, Int.reduceLE, Int.reduceLT, Int.reduceNeg, Int.reduceAdd, Int.reduceSub, Int.reduceMul, Int.reduceToNat, Int.reducePow, Int.reduceEq, ne_eq, reduceIte, byteD, dstr, un1_str, iD, bD]
      simp
    · have de : decide ((⟨x.baud, x.par⟩ : Stg) = ⟨y.baud, y.par⟩) = false := decide_eq_false hxy
      simp only [↓ru, rv, rl, ry, tyf, iM, bM, bsM, cond_true, cond_false, Nat.reduceLT, Nat.reduceBEq, Nat.reduceAdd, Nat.reduceEqDiff, Nat.reduceMul, Nat.reduceLeDiff, Nat.reduceSub, Nat.reduceDiv, Int.reduceLE, Int.reduceLT, Int.reduceNeg, Int.reduceAdd, Int.reduceSub, Int.reduceMul, Int.reduceToNat, Int.reducePow, Int.reduceEq, ne_eq, reduceIte, byteD, dstr, un1_str, iD, bD, hx, hy, stg_neq', de, pureEnd_of (fn := Tryd.f41) (rs := [.tmp 4]) (ts := [4]) rfl rfl]
      rw [hno fun e => ?_]
      cases e
      rw [hx] at hy; cases hy; exact hxy rfl
  · have h' := of_decide_eq_false h
    have : i = s1.length := by omega
    subst this
    have hle : s1 = s2 := by
      have : s1.take s1.length = s2.take s1.length := ht'
      rw [List.take_length, hl, List.take_length] at this; exact this
    subst hle
    simp only [↓ru, rv, rl, ry, tyf, iM, bM, bsM, cond_true, cond_false, Nat.reduceLT, Nat.reduceBEq, Nat.reduceAdd, Nat.reduceEqDiff, Nat.reduceMul, Nat.reduceLeDiff, Nat.reduceSub, Nat.reduceDiv, Int.reduceLE, Int.reduceLT, Int.reduceNeg, Int.reduceAdd, Int.reduceSub, Int.reduceMul, Int.reduceToNat, Int.reducePow, Int.reduceEq, ne_eq, reduceIte, byteD, dstr, un1_str, iD, bD, pureEnd_of (fn := Tryd.f41) (rs := [.tmp 4]) (ts := [4]) rfl rfl]
    rw [hyes rfl]
def smpT : List UInt8 := [115, 101, 116, 116, 105, 110, 103, 32, 57, 54, 48, 48, 45, 69, 10, 117, 110, 105, 116, 115, 32, 49, 32, 50, 10, 114, 101, 116, 114, 105, 101, 115, 32, 49, 10, 116, 105, 109, 101, 111, 117, 116, 32, 49, 48, 48, 48, 10, 100, 101, 108, 97, 121, 32, 48, 10, 119, 105, 110, 100, 111, 119, 32, 49, 32, 48, 32, 48, 10, 119, 105, 110, 100, 111, 119, 32, 50, 32, 48, 32, 48, 10, 119, 105, 110, 100, 111, 119, 32, 51, 32, 49, 48, 48, 32, 56, 10, 119, 105, 110, 100, 111, 119, 32, 52, 32, 48, 32, 48, 10, 101, 118, 101, 114, 121, 32, 49, 10, 115, 116, 111, 114, 101, 32, 49, 48, 48, 48, 48, 10]
theorem smp_par : parC smpT = (smpC, 0) := by decide +kernel
theorem smp_chk : chkF smpC = 0 := by decide +kernel
theorem smp_txt : cfgTxt smpC = smpT := by decide +kernel
theorem smp_units : unitsF smpC = 2 := by decide +kernel
theorem Awake17 : PFn Tryd.prog 33 [] (bM true) := by
  have hP := Parse smpT (by decide)
  rw [smp_par] at hP
  have hF := Format smpC smp_chk
  rw [smp_txt] at hF
  have hU := Units smpC (by decide)
  rw [smp_units] at hU
  have hS := SameC smpC smpC (by decide) (by decide)
  rw [decide_eq_true rfl] at hS
  have hM := Sample
  (refine PFn.of (prs := [(4, [(3, 4)])]) Tryd.func33 rfl rfl mix (by kernel_rfl) rfl rfl ?_; simp only [Tryd.ntmps33, argUpd])
  (try (simp only [↓ru, rv, rl, ry, tyf, iM, bM, bsM, cond_true, cond_false, Nat.reduceLT, Nat.reduceBEq, Nat.reduceAdd, Nat.reduceEqDiff, Nat.reduceMul, Nat.reduceLeDiff, Nat.reduceSub, Nat.reduceDiv, Int.reduceLE, Int.reduceLT, Int.reduceNeg, Int.reduceAdd, Int.reduceSub, Int.reduceMul, Int.reduceToNat, Int.reducePow, Int.reduceEq, ne_eq, reduceIte, byteD, dstr, un1_str, iD, bD, decide_true, pureEnd_of (fn := Tryd.f33) (rs := [.tmp 0]) (ts := [4]) rfl rfl, *])); repeat' ((first | (refine fork_split (fun _h => ?_) (fun _h => ?_)) | (refine gfork_split (fun _h => ?_) (fun _h => ?_)) | (refine dfork_split (fun _h => ?_) (fun _h => ?_)) | (refine acall1_pure hP rfl rfl ?_) | (refine dcall1_pure hP rfl rfl ?_) | (refine acall1_pure hF rfl rfl ?_) | (refine dcall1_pure hF rfl rfl ?_) | (refine acall1_pure hU rfl rfl ?_) | (refine dcall1_pure hU rfl rfl ?_) | (refine acall1_pure hS rfl rfl ?_) | (refine dcall1_pure hS rfl rfl ?_) | (refine acall1_pure hM rfl rfl ?_) | (refine dcall1_pure hM rfl rfl ?_)) <;> (try (simp only [↓ru, rv, rl, ry, tyf, iM, bM, bsM, cond_true, cond_false, Nat.reduceLT, Nat.reduceBEq, Nat.reduceAdd, Nat.reduceEqDiff, Nat.reduceMul, Nat.reduceLeDiff, Nat.reduceSub, Nat.reduceDiv, Int.reduceLE, Int.reduceLT, Int.reduceNeg, Int.reduceAdd, Int.reduceSub, Int.reduceMul, Int.reduceToNat, Int.reducePow, Int.reduceEq, ne_eq, reduceIte, byteD, dstr, un1_str, iD, bD, decide_true, pureEnd_of (fn := Tryd.f33) (rs := [.tmp 0]) (ts := [4]) rfl rfl, *])))
  all_goals (exfalso; revert _h; decide +kernel)
theorem sh_rg {c : List D} (h : Sh (.st [(1, .int .i64), (1, .int .i64)]) c) : ∃ r : Rg, c = [iD r.f, iD r.c] := by
  obtain ⟨a, b, rfl⟩ := sh_stg h
  exact ⟨⟨a, b⟩, rfl⟩
theorem sh_cfg {c : List D} (h : Sh (.st [(1, .sl 2 (.st [(1, .int .i64), (1, .int .i64)])), (1, .int .i64), (1, .int .i64), (1, .int .i64), (1, .int .i64), (1, .int .i64), (8, .st [(2, .st [(1, .int .i64), (1, .int .i64)]), (2, .st [(1, .int .i64), (1, .int .i64)]), (2, .st [(1, .int .i64), (1, .int .i64)]), (2, .st [(1, .int .i64), (1, .int .i64)])]), (1, .int .i64), (1, .int .i64)]) c) :
    ∃ s : Cfg, c = [.sl 2 (s.set.map stgD), iD s.first, iD s.last, iD s.ret, iD s.tmo, iD s.del, iD s.w0.f, iD s.w0.c, iD s.w1.f, iD s.w1.c, iD s.w2.f, iD s.w2.c, iD s.w3.f, iD s.w3.c, iD s.every, iD s.store] ∧ s.set.length ≤ 9223372036854775807 := by
  obtain ⟨x0, y0, rfl, h0, g0⟩ := sh_cons (sh_st h)
  obtain ⟨x1, y1, rfl, h1, g1⟩ := sh_cons g0
  obtain ⟨x2, y2, rfl, h2, g2⟩ := sh_cons g1
  obtain ⟨x3, y3, rfl, h3, g3⟩ := sh_cons g2
  obtain ⟨x4, y4, rfl, h4, g4⟩ := sh_cons g3
  obtain ⟨x5, y5, rfl, h5, g5⟩ := sh_cons g4
  obtain ⟨x6, y6, rfl, h6, g6⟩ := sh_cons g5
  obtain ⟨x7, y7, rfl, h7, g7⟩ := sh_cons g6
  obtain ⟨x8, y8, rfl, h8, g8⟩ := sh_cons g7
  obtain rfl := sh_nil g8
  obtain ⟨l, rfl, hl⟩ := sh_stgs h0
  obtain ⟨a1, rfl, b1⟩ := sh_i64 h1
  obtain ⟨a2, rfl, b2⟩ := sh_i64 h2
  obtain ⟨a3, rfl, b3⟩ := sh_i64 h3
  obtain ⟨a4, rfl, b4⟩ := sh_i64 h4
  obtain ⟨a5, rfl, b5⟩ := sh_i64 h5
  obtain ⟨a7, rfl, b7⟩ := sh_i64 h7
  obtain ⟨a8, rfl, b8⟩ := sh_i64 h8
  obtain ⟨u0, v0, rfl, r0, t0⟩ := sh_cons (sh_st h6)
  obtain ⟨u1, v1, rfl, r1, t1⟩ := sh_cons t0
  obtain ⟨u2, v2, rfl, r2, t2⟩ := sh_cons t1
  obtain ⟨u3, v3, rfl, r3, t3⟩ := sh_cons t2
  obtain rfl := sh_nil t3
  obtain ⟨w0, rfl⟩ := sh_rg r0
  obtain ⟨w1, rfl⟩ := sh_rg r1
  obtain ⟨w2, rfl⟩ := sh_rg r2
  obtain ⟨w3, rfl⟩ := sh_rg r3
  exact ⟨⟨l, a1, a2, a3, a4, a5, w0, w1, w2, w3, a7, a8⟩, rfl, hl⟩
end Go.CF

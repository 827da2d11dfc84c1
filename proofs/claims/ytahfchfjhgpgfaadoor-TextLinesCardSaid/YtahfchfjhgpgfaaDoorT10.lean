import Derived.Test.YtahfchfjhgpgfaaDoorT9
set_option linter.all false
open Go.Proofs Go.Abs Go.Fa Go.BU Go.TX
namespace Go.TW
set_option maxHeartbeats 4000000
set_option maxRecDepth 10000
-- rules: byteD, dstr, un1_str

theorem beql {xo yo : Operand} {a b : Bool} {B : Bx} {K : K2} : aBin Tryd.prog .eql 4 xo yo (bM a) (bM b) B K = kk K (bM (a == b)) B := bin_bool_eql Tryd.underlying4
theorem bneq {xo yo : Operand} {a b : Bool} {B : Bx} {K : K2} : aBin Tryd.prog .neq 4 xo yo (bM a) (bM b) B K = kk K (bM (!(a == b))) B := bin_bool_neq Tryd.underlying4
theorem phex_nil : phex [] = (0, false) := rfl
theorem lHex (n d : Int) (hn : -9223372036854775808 ≤ n ∧ n ≤ 9223372036854775807) (hd : -9223372036854775808 ≤ d ∧ d ≤ 9223372036854775807) : PFn Tryd.prog 3 [iM n, iM d] (bM true) := by
  (refine PFn.of (prs := []) Tryd.func3 rfl rfl mix (by kernel_rfl) rfl rfl ?_; simp only [Tryd.ntmps3, argUpd])
  have hl : (hexF n d).length ≤ 8 := by
    unfold hexF; split
    · simp
    · rw [hexD_length]; omega
  (try (simp only [↓ru, rv, rl, ry, tyf, iM, bM, bsM, cond_true, cond_false, Nat.reduceLT, Nat.reduceBEq, Nat.reduceAdd, Nat.reduceEqDiff, Nat.reduceMul, Nat.reduceLeDiff, Nat.reduceSub, Nat.reduceDiv, Int.reduceLE, Int.reduceLT, Int.reduceNeg, Int.reduceAdd, Int.reduceSub, Int.reduceMul, Int.reduceToNat, Int.reducePow, Int.reduceEq, ne_eq, reduceIte, byteD, dstr, un1_str, pureEnd_of (fn := Tryd.f3) (rs := [.tmp 4]) (ts := [4]) rfl rfl, *])); repeat' ((first | (refine fork_split (fun _h => ?_) (fun _h => ?_)) | (refine gfork_split (fun _h => ?_) (fun _h => ?_)) | (refine dfork_split (fun _h => ?_) (fun _h => ?_)) | (refine acall1_pure (Hex n d hn hd) rfl rfl ?_) | (refine dcall1_pure (Hex n d hn hd) rfl rfl ?_) | (refine acall1_pure (HexR n d hn hd) rfl rfl ?_) | (refine dcall1_pure (HexR n d hn hd) rfl rfl ?_) | (refine acall1_pure (ParseHex (hexF n d) (by omega)) rfl rfl ?_) | (refine dcall1_pure (ParseHex (hexF n d) (by omega)) rfl rfl ?_) | (refine acall1_pure Awake rfl rfl ?_) | (refine dcall1_pure Awake rfl rfl ?_)) <;> (try (simp only [↓ru, rv, rl, ry, tyf, iM, bM, bsM, cond_true, cond_false, Nat.reduceLT, Nat.reduceBEq, Nat.reduceAdd, Nat.reduceEqDiff, Nat.reduceMul, Nat.reduceLeDiff, Nat.reduceSub, Nat.reduceDiv, Int.reduceLE, Int.reduceLT, Int.reduceNeg, Int.reduceAdd, Int.reduceSub, Int.reduceMul, Int.reduceToNat, Int.reducePow, Int.reduceEq, ne_eq, reduceIte, byteD, dstr, un1_str, pureEnd_of (fn := Tryd.f3) (rs := [.tmp 4]) (ts := [4]) rfl rfl, *])))
  all_goals (try rfl)
  all_goals
    by_cases h0 : hexF n d = []
    · simp_all [phex_nil]
    · obtain ⟨e1, e2⟩ := phex_hex h0
      simp_all

theorem lName (s : List UInt8) (hs : s.length ≤ 9223372036854775807) : PFn Tryd.prog 7 [strM s] (bM true) := by
  (refine PFn.of (prs := []) Tryd.func7 rfl rfl mix (by kernel_rfl) rfl rfl ?_; simp only [Tryd.ntmps7, argUpd])
  have hl : (s.take 40).length ≤ 9223372036854775807 := by simp; omega
  (try (simp only [↓ru, rv, rl, ry, tyf, iM, bM, bsM, cond_true, cond_false, Nat.reduceLT, Nat.reduceBEq, Nat.reduceAdd, Nat.reduceEqDiff, Nat.reduceMul, Nat.reduceLeDiff, Nat.reduceSub, Nat.reduceDiv, Int.reduceLE, Int.reduceLT, Int.reduceNeg, Int.reduceAdd, Int.reduceSub, Int.reduceMul, Int.reduceToNat, Int.reducePow, Int.reduceEq, ne_eq, reduceIte, byteD, dstr, un1_str, beql, pureEnd_of (fn := Tryd.f7) (rs := [.tmp 2]) (ts := [4]) rfl rfl, *])); repeat' ((first | (refine fork_split (fun _h => ?_) (fun _h => ?_)) | (refine gfork_split (fun _h => ?_) (fun _h => ?_)) | (refine dfork_split (fun _h => ?_) (fun _h => ?_)) | (refine acall1_pure (Text s 40 hs (by decide) rfl) rfl rfl ?_) | (refine dcall1_pure (Text s 40 hs (by decide) rfl) rfl rfl ?_) | (refine acall1_pure Awake rfl rfl ?_) | (refine dcall1_pure Awake rfl rfl ?_) | (refine acall1_pure (Name (s.take 40) hl) rfl rfl ?_) | (refine dcall1_pure (Name (s.take 40) hl) rfl rfl ?_) | (refine acall1_pure (NameR (s.take 40) hl) rfl rfl ?_) | (refine dcall1_pure (NameR (s.take 40) hl) rfl rfl ?_)) <;> (try (simp only [↓ru, rv, rl, ry, tyf, iM, bM, bsM, cond_true, cond_false, Nat.reduceLT, Nat.reduceBEq, Nat.reduceAdd, Nat.reduceEqDiff, Nat.reduceMul, Nat.reduceLeDiff, Nat.reduceSub, Nat.reduceDiv, Int.reduceLE, Int.reduceLT, Int.reduceNeg, Int.reduceAdd, Int.reduceSub, Int.reduceMul, Int.reduceToNat, Int.reducePow, Int.reduceEq, ne_eq, reduceIte, byteD, dstr, un1_str, beql, pureEnd_of (fn := Tryd.f7) (rs := [.tmp 2]) (ts := [4]) rfl rfl, *])))
  all_goals simp
theorem lDecimal (n : Int) (hn : -9223372036854775808 ≤ n ∧ n ≤ 9223372036854775807) : PFn Tryd.prog 8 [iM n] (bM true) := by
  (refine PFn.of (prs := []) Tryd.func8 rfl rfl mix (by kernel_rfl) rfl rfl ?_; simp only [Tryd.ntmps8, argUpd])
  have hl := dec_len n
  by_cases hr : 0 ≤ n ∧ n ≤ 999999999
  · have e1 := pdec_dec hr
    have d1 : decide (n < 0) = false := by simp; omega
    have d2 : decide (999999999 < n) = false := by simp; omega
    (try (simp only [↓ru, rv, rl, ry, tyf, iM, bM, bsM, cond_true, cond_false, Nat.reduceLT, Nat.reduceBEq, Nat.reduceAdd, Nat.reduceEqDiff, Nat.reduceMul, Nat.reduceLeDiff, Nat.reduceSub, Nat.reduceDiv, Int.reduceLE, Int.reduceLT, Int.reduceNeg, Int.reduceAdd, Int.reduceSub, Int.reduceMul, Int.reduceToNat, Int.reducePow, Int.reduceEq, ne_eq, reduceIte, byteD, dstr, un1_str, e1, d1, d2, pureEnd_of (fn := Tryd.f8) (rs := [.tmp 2]) (ts := [4]) rfl rfl, *])); repeat' ((first | (refine fork_split (fun _h => ?_) (fun _h => ?_)) | (refine gfork_split (fun _h => ?_) (fun _h => ?_)) | (refine dfork_split (fun _h => ?_) (fun _h => ?_)) | (refine acall1_pure (Decimal n hn) rfl rfl ?_) | (refine dcall1_pure (Decimal n hn) rfl rfl ?_) | (refine acall1_pure (ParseDecimal (dec n) (by omega)) rfl rfl ?_) | (refine dcall1_pure (ParseDecimal (dec n) (by omega)) rfl rfl ?_) | (refine acall1_pure Awake rfl rfl ?_) | (refine dcall1_pure Awake rfl rfl ?_) | (refine acall1_pure (DecimalR n hn) rfl rfl ?_) | (refine dcall1_pure (DecimalR n hn) rfl rfl ?_)) <;> (try (simp only [↓ru, rv, rl, ry, tyf, iM, bM, bsM, cond_true, cond_false, Nat.reduceLT, Nat.reduceBEq, Nat.reduceAdd, Nat.reduceEqDiff, Nat.reduceMul, Nat.reduceLeDiff, Nat.reduceSub, Nat.reduceDiv, Int.reduceLE, Int.reduceLT, Int.reduceNeg, Int.reduceAdd, Int.reduceSub, Int.reduceMul, Int.reduceToNat, Int.reducePow, Int.reduceEq, ne_eq, reduceIte, byteD, dstr, un1_str, e1, d1, d2, pureEnd_of (fn := Tryd.f8) (rs := [.tmp 2]) (ts := [4]) rfl rfl, *])))
  · have e1 : dec n = [] := dec_nil (by omega)
    have e2 := pdec_nil
    (try (simp only [↓ru, rv, rl, ry, tyf, iM, bM, bsM, cond_true, cond_false, Nat.reduceLT, Nat.reduceBEq, Nat.reduceAdd, Nat.reduceEqDiff, Nat.reduceMul, Nat.reduceLeDiff, Nat.reduceSub, Nat.reduceDiv, Int.reduceLE, Int.reduceLT, Int.reduceNeg, Int.reduceAdd, Int.reduceSub, Int.reduceMul, Int.reduceToNat, Int.reducePow, Int.reduceEq, ne_eq, reduceIte, byteD, dstr, un1_str, e1, e2, pureEnd_of (fn := Tryd.f8) (rs := [.tmp 2]) (ts := [4]) rfl rfl, *])); repeat' ((first | (refine fork_split (fun _h => ?_) (fun _h => ?_)) | (refine gfork_split (fun _h => ?_) (fun _h => ?_)) | (refine dfork_split (fun _h => ?_) (fun _h => ?_)) | (refine acall1_pure (Decimal n hn) rfl rfl ?_) | (refine dcall1_pure (Decimal n hn) rfl rfl ?_) | (refine acall1_pure (ParseDecimal [] (by simp)) rfl rfl ?_) | (refine dcall1_pure (ParseDecimal [] (by simp)) rfl rfl ?_) | (refine acall1_pure Awake rfl rfl ?_) | (refine dcall1_pure Awake rfl rfl ?_) | (refine acall1_pure (DecimalR n hn) rfl rfl ?_) | (refine dcall1_pure (DecimalR n hn) rfl rfl ?_)) <;> (try (simp only [↓ru, rv, rl, ry, tyf, iM, bM, bsM, cond_true, cond_false, Nat.reduceLT, Nat.reduceBEq, Nat.reduceAdd, Nat.reduceEqDiff, Nat.reduceMul, Nat.reduceLeDiff, Nat.reduceSub, Nat.reduceDiv, Int.reduceLE, Int.reduceLT, Int.reduceNeg, Int.reduceAdd, Int.reduceSub, Int.reduceMul, Int.reduceToNat, Int.reducePow, Int.reduceEq, ne_eq, reduceIte, byteD, dstr, un1_str, e1, e2, pureEnd_of (fn := Tryd.f8) (rs := [.tmp 2]) (ts := [4]) rfl rfl, *])))
    all_goals (try simp only [Bool.not_eq_true', Bool.not_eq_false', decide_eq_true_eq, decide_eq_false_iff_not] at *)
    all_goals omega
theorem body_le (l : List UInt8) : l.length ≤ (quBody l).length := by
  induction l with
  | nil => simp
  | cons b l ih =>
    rw [quBody_cons, List.length_append, List.length_cons]
    have : 1 ≤ (quB b).length := by unfold quB; split <;> simp
    omega
theorem unq_len {s l : List UInt8} (h : unq s = some l) : l.length ≤ s.length := by
  have := unq_some h
  rw [← this, quote_len]
  have := body_le l
  omega
theorem lUnquote (s : List UInt8) (hs : s.length ≤ 9223372036854775807) : PFn Tryd.prog 5 [strM s] (bM true) := by
  (refine PFn.of (prs := []) Tryd.func5 rfl rfl mix (by kernel_rfl) rfl rfl ?_; simp only [Tryd.ntmps5, argUpd])
  have hl : (s.take 60).length ≤ 60 := by simp; omega
  (try (simp only [↓ru, rv, rl, ry, tyf, iM, bM, bsM, cond_true, cond_false, Nat.reduceLT, Nat.reduceBEq, Nat.reduceAdd, Nat.reduceEqDiff, Nat.reduceMul, Nat.reduceLeDiff, Nat.reduceSub, Nat.reduceDiv, Int.reduceLE, Int.reduceLT, Int.reduceNeg, Int.reduceAdd, Int.reduceSub, Int.reduceMul, Int.reduceToNat, Int.reducePow, Int.reduceEq, ne_eq, reduceIte, byteD, dstr, un1_str, *])); repeat' ((first | (refine fork_split (fun _h => ?_) (fun _h => ?_)) | (refine gfork_split (fun _h => ?_) (fun _h => ?_)) | (refine dfork_split (fun _h => ?_) (fun _h => ?_)) | (refine acall1_pure (Text s 60 hs (by decide) rfl) rfl rfl ?_) | (refine dcall1_pure (Text s 60 hs (by decide) rfl) rfl rfl ?_)) <;> (try (simp only [↓ru, rv, rl, ry, tyf, iM, bM, bsM, cond_true, cond_false, Nat.reduceLT, Nat.reduceBEq, Nat.reduceAdd, Nat.reduceEqDiff, Nat.reduceMul, Nat.reduceLeDiff, Nat.reduceSub, Nat.reduceDiv, Int.reduceLE, Int.reduceLT, Int.reduceNeg, Int.reduceAdd, Int.reduceSub, Int.reduceMul, Int.reduceToNat, Int.reducePow, Int.reduceEq, ne_eq, reduceIte, byteD, dstr, un1_str, *])))
  generalize s.take 60 = s at hl ⊢
  have hu : ((unq s).getD []).length ≤ 1000 := by
    cases h : unq s with
    | none => simp
    | some l =>
      have := unq_len h
      simp; omega
  (try (simp only [↓ru, rv, rl, ry, tyf, iM, bM, bsM, cond_true, cond_false, Nat.reduceLT, Nat.reduceBEq, Nat.reduceAdd, Nat.reduceEqDiff, Nat.reduceMul, Nat.reduceLeDiff, Nat.reduceSub, Nat.reduceDiv, Int.reduceLE, Int.reduceLT, Int.reduceNeg, Int.reduceAdd, Int.reduceSub, Int.reduceMul, Int.reduceToNat, Int.reducePow, Int.reduceEq, ne_eq, reduceIte, byteD, dstr, un1_str, beql, bytesOf_map, pureEnd_of (fn := Tryd.f5) (rs := [.tmp 2]) (ts := [4]) rfl rfl, *])); repeat' ((first | (refine fork_split (fun _h => ?_) (fun _h => ?_)) | (refine gfork_split (fun _h => ?_) (fun _h => ?_)) | (refine dfork_split (fun _h => ?_) (fun _h => ?_)) | (refine acall1_pure (Unquote s (by omega)) rfl rfl ?_) | (refine dcall1_pure (Unquote s (by omega)) rfl rfl ?_) | (refine acall1_pure (UnquoteR s (by omega)) rfl rfl ?_) | (refine dcall1_pure (UnquoteR s (by omega)) rfl rfl ?_) | (refine acall1_pure Awake rfl rfl ?_) | (refine dcall1_pure Awake rfl rfl ?_) | (refine acall1_pure (Quote _ (by omega)) rfl rfl ?_) | (refine dcall1_pure (Quote _ (by omega)) rfl rfl ?_)) <;> (try (simp only [↓ru, rv, rl, ry, tyf, iM, bM, bsM, cond_true, cond_false, Nat.reduceLT, Nat.reduceBEq, Nat.reduceAdd, Nat.reduceEqDiff, Nat.reduceMul, Nat.reduceLeDiff, Nat.reduceSub, Nat.reduceDiv, Int.reduceLE, Int.reduceLT, Int.reduceNeg, Int.reduceAdd, Int.reduceSub, Int.reduceMul, Int.reduceToNat, Int.reducePow, Int.reduceEq, ne_eq, reduceIte, byteD, dstr, un1_str, beql, bytesOf_map, pureEnd_of (fn := Tryd.f5) (rs := [.tmp 2]) (ts := [4]) rfl rfl, *])))
  · cases h : unq s with
    | none => simp_all
    | some l => simp [unq_some h]
  · simp_all
theorem lQuote (l : List UInt8) (hl : l.length ≤ 9223372036854775807) : PFn Tryd.prog 4 [bsM l] (bM true) := by
  (refine PFn.of (prs := []) Tryd.func4 rfl rfl mix (by kernel_rfl) rfl rfl ?_; simp only [Tryd.ntmps4, argUpd])
  have hl2 : (l.take 64).length ≤ 64 := by simp; omega
  (try (simp only [↓ru, rv, rl, ry, tyf, iM, bM, bsM, cond_true, cond_false, Nat.reduceLT, Nat.reduceBEq, Nat.reduceAdd, Nat.reduceEqDiff, Nat.reduceMul, Nat.reduceLeDiff, Nat.reduceSub, Nat.reduceDiv, Int.reduceLE, Int.reduceLT, Int.reduceNeg, Int.reduceAdd, Int.reduceSub, Int.reduceMul, Int.reduceToNat, Int.reducePow, Int.reduceEq, ne_eq, reduceIte, byteD, dstr, un1_str, *])); repeat' ((first | (refine fork_split (fun _h => ?_) (fun _h => ?_)) | (refine gfork_split (fun _h => ?_) (fun _h => ?_)) | (refine dfork_split (fun _h => ?_) (fun _h => ?_)) | (refine acall1_pure (Bytes l 64 hl (by decide) rfl) rfl rfl ?_) | (refine dcall1_pure (Bytes l 64 hl (by decide) rfl) rfl rfl ?_)) <;> (try (simp only [↓ru, rv, rl, ry, tyf, iM, bM, bsM, cond_true, cond_false, Nat.reduceLT, Nat.reduceBEq, Nat.reduceAdd, Nat.reduceEqDiff, Nat.reduceMul, Nat.reduceLeDiff, Nat.reduceSub, Nat.reduceDiv, Int.reduceLE, Int.reduceLT, Int.reduceNeg, Int.reduceAdd, Int.reduceSub, Int.reduceMul, Int.reduceToNat, Int.reducePow, Int.reduceEq, ne_eq, reduceIte, byteD, dstr, un1_str, *])))
  generalize l.take 64 = l at hl2 ⊢
  (try (simp only [↓ru, rv, rl, ry, tyf, iM, bM, bsM, cond_true, cond_false, Nat.reduceLT, Nat.reduceBEq, Nat.reduceAdd, Nat.reduceEqDiff, Nat.reduceMul, Nat.reduceLeDiff, Nat.reduceSub, Nat.reduceDiv, Int.reduceLE, Int.reduceLT, Int.reduceNeg, Int.reduceAdd, Int.reduceSub, Int.reduceMul, Int.reduceToNat, Int.reducePow, Int.reduceEq, ne_eq, reduceIte, byteD, dstr, un1_str, *])); repeat' ((first | (refine fork_split (fun _h => ?_) (fun _h => ?_)) | (refine gfork_split (fun _h => ?_) (fun _h => ?_)) | (refine dfork_split (fun _h => ?_) (fun _h => ?_)) | (refine acall1_pure (Quote l (by omega)) rfl rfl ?_) | (refine dcall1_pure (Quote l (by omega)) rfl rfl ?_)) <;> (try (simp only [↓ru, rv, rl, ry, tyf, iM, bM, bsM, cond_true, cond_false, Nat.reduceLT, Nat.reduceBEq, Nat.reduceAdd, Nat.reduceEqDiff, Nat.reduceMul, Nat.reduceLeDiff, Nat.reduceSub, Nat.reduceDiv, Int.reduceLE, Int.reduceLT, Int.reduceNeg, Int.reduceAdd, Int.reduceSub, Int.reduceMul, Int.reduceToNat, Int.reducePow, Int.reduceEq, ne_eq, reduceIte, byteD, dstr, un1_str, *])))
  have hql : (quote l).length ≤ 200 := by
    have := quote_len l
    have := quBody_length l
    omega
  have hpr := quote_print l
  have huq := unq_quote l
  refine aloop_lv (fun i : Nat => [(0, bsM l), (3, strM (quote l)), (4, iM i)]) (fun _ => []) (fun i => i ≤ (quote l).length) (fun i => (quote l).length - i) 0 0 ?_ rfl (by omega) (by omega) ?_
  · simp only [↓ru, rv, rl, ry, tyf, iM, bM, bsM, cond_true, cond_false, Nat.reduceLT, Nat.reduceBEq, Nat.reduceAdd, Nat.reduceEqDiff, Nat.reduceMul, Nat.reduceLeDiff, Nat.reduceSub, Nat.reduceDiv, Int.reduceLE, Int.reduceLT, Int.reduceNeg, Int.reduceAdd, Int.reduceSub, Int.reduceMul, Int.reduceToNat, Int.reducePow, Int.reduceEq, ne_eq, reduceIte, byteD, dstr, un1_str]
  intro i e0 n hi
  generalize hq : quote l = q at *
  simp only [↓ru, rv, rl, ry, tyf, iM, bM, bsM, cond_true, cond_false, Nat.reduceLT, Nat.reduceBEq, Nat.reduceAdd, Nat.reduceEqDiff, Nat.reduceMul, Nat.reduceLeDiff, Nat.reduceSub, Nat.reduceDiv, Int.reduceLE, Int.reduceLT, Int.reduceNeg, Int.reduceAdd, Int.reduceSub, Int.reduceMul, Int.reduceToNat, Int.reducePow, Int.reduceEq, ne_eq, reduceIte, byteD, dstr, un1_str]
  refine fork_split (fun h => ?_) (fun h => ?_)
  · have h' := of_decide_eq_true h
    have hm := getD_mem (s := q) (i := i) (by omega)
    rw [List.all_eq_true] at hpr
    have hp := hpr _ hm
    generalize hy : q.getD i 0 = y at hm hp
    have g2 : (i : Int) < (q.length : Int) := h'
    have g3 : 32 ≤ (y.toNat : Int) ∧ (y.toNat : Int) ≤ 126 := of_decide_eq_true hp
    have d1 : decide ((y.toNat : Int) < 32) = false := by simp; omega
    have d2 : decide (126 < (y.toNat : Int)) = false := by simp; omega
    simp only [↓ru, rv, rl, ry, tyf, iM, bM, bsM, cond_true, cond_false, Nat.reduceLT, Nat.reduceBEq, Nat.reduceAdd, Nat.reduceEqDiff, Nat.reduceMul, Nat.reduceLeDiff, Nat.reduceSub, Nat.reduceDiv, Int.reduceLE, Int.reduceLT, Int.reduceNeg, Int.reduceAdd, Int.reduceSub, Int.reduceMul, Int.reduceToNat, Int.reducePow, Int.reduceEq, ne_eq, reduceIte, byteD, dstr, un1_str, hy, d1, d2]
    refine grd_intro g2 ?_
    refine grd_intro g2 ?_
    simp (disch := omega) only [wrap_i64, wrap_u8, wrap_u16, wrap_u64]
    refine loopL_next (i + 1) ?_ rfl (by omega) (by omega) (by omega)
    simp only [↓ru, rv, rl, ry, tyf, iM, bM, bsM, cond_true, cond_false, Nat.reduceLT, Nat.reduceBEq, Nat.reduceAdd, Nat.reduceEqDiff, Nat.reduceMul, Nat.reduceLeDiff, Nat.reduceSub, Nat.reduceDiv, Int.reduceLE, Int.reduceLT, Int.reduceNeg, Int.reduceAdd, Int.reduceSub, Int.reduceMul, Int.reduceToNat, Int.reducePow, Int.reduceEq, ne_eq, reduceIte, byteD, dstr, un1_str]
    simp
  · simp only [↓ru, rv, rl, ry, tyf, iM, bM, bsM, cond_true, cond_false, Nat.reduceLT, Nat.reduceBEq, Nat.reduceAdd, Nat.reduceEqDiff, Nat.reduceMul, Nat.reduceLeDiff, Nat.reduceSub, Nat.reduceDiv, Int.reduceLE, Int.reduceLT, Int.reduceNeg, Int.reduceAdd, Int.reduceSub, Int.reduceMul, Int.reduceToNat, Int.reducePow, Int.reduceEq, ne_eq, reduceIte, byteD, dstr, un1_str]
    refine acall1_pure (Unquote q (by omega)) rfl rfl ?_
    rw [huq]
    (try (simp only [↓ru, rv, rl, ry, tyf, iM, bM, bsM, cond_true, cond_false, Nat.reduceLT, Nat.reduceBEq, Nat.reduceAdd, Nat.reduceEqDiff, Nat.reduceMul, Nat.reduceLeDiff, Nat.reduceSub, Nat.reduceDiv, Int.reduceLE, Int.reduceLT, Int.reduceNeg, Int.reduceAdd, Int.reduceSub, Int.reduceMul, Int.reduceToNat, Int.reducePow, Int.reduceEq, ne_eq, reduceIte, byteD, dstr, un1_str, bytesOf_map, hq, pureEnd_of (fn := Tryd.f4) (rs := [.tmp 2]) (ts := [4]) rfl rfl, *])); repeat' ((first | (refine fork_split (fun _h => ?_) (fun _h => ?_)) | (refine gfork_split (fun _h => ?_) (fun _h => ?_)) | (refine dfork_split (fun _h => ?_) (fun _h => ?_)) | (refine acall1_pure Awake rfl rfl ?_) | (refine dcall1_pure Awake rfl rfl ?_) | (refine acall1_pure (QuoteR l (by omega)) rfl rfl ?_) | (refine dcall1_pure (QuoteR l (by omega)) rfl rfl ?_)) <;> (try (simp only [↓ru, rv, rl, ry, tyf, iM, bM, bsM, cond_true, cond_false, Nat.reduceLT, Nat.reduceBEq, Nat.reduceAdd, Nat.reduceEqDiff, Nat.reduceMul, Nat.reduceLeDiff, Nat.reduceSub, Nat.reduceDiv, Int.reduceLE, Int.reduceLT, Int.reduceNeg, Int.reduceAdd, Int.reduceSub, Int.reduceMul, Int.reduceToNat, Int.reducePow, Int.reduceEq, ne_eq, reduceIte, byteD, dstr, un1_str, bytesOf_map, hq, pureEnd_of (fn := Tryd.f4) (rs := [.tmp 2]) (ts := [4]) rfl rfl, *])))
    simp

theorem joinSp_sum : ∀ (l : List (List UInt8)), (l.map fun w => w.length + 1).sum ≤ (joinSp l).length + 1
  | [] => by simp [joinSp]
  | [w] => by simp [joinSp]
  | w :: x :: r => by
    have := joinSp_sum (x :: r)
    simp [joinSp] at this ⊢; omega
theorem words_len {s : List UInt8} {l : List (List UInt8)} (h : wordsF s = some l) : (l.map fun w => w.length + 1).sum ≤ s.length + 1 := by
  have := joinSp_sum l
  rw [words_join h] at this
  exact this
theorem sum_len (l : List (List UInt8)) : l.length ≤ (l.map fun w => w.length + 1).sum := by
  induction l with
  | nil => simp
  | cons w l ih => simp; omega
theorem lWords (s : List UInt8) (hs : s.length ≤ 9223372036854775807) : PFn Tryd.prog 6 [strM s] (bM true) := by
  (refine PFn.of (prs := []) Tryd.func6 rfl rfl mix (by kernel_rfl) rfl rfl ?_; simp only [Tryd.ntmps6, argUpd])
  have hl : (s.take 80).length ≤ 80 := by simp; omega
  (try (simp only [↓ru, rv, rl, ry, tyf, iM, bM, bsM, cond_true, cond_false, Nat.reduceLT, Nat.reduceBEq, Nat.reduceAdd, Nat.reduceEqDiff, Nat.reduceMul, Nat.reduceLeDiff, Nat.reduceSub, Nat.reduceDiv, Int.reduceLE, Int.reduceLT, Int.reduceNeg, Int.reduceAdd, Int.reduceSub, Int.reduceMul, Int.reduceToNat, Int.reducePow, Int.reduceEq, ne_eq, reduceIte, byteD, dstr, un1_str, *])); repeat' ((first | (refine fork_split (fun _h => ?_) (fun _h => ?_)) | (refine gfork_split (fun _h => ?_) (fun _h => ?_)) | (refine dfork_split (fun _h => ?_) (fun _h => ?_)) | (refine acall1_pure (Text s 80 hs (by decide) rfl) rfl rfl ?_) | (refine dcall1_pure (Text s 80 hs (by decide) rfl) rfl rfl ?_)) <;> (try (simp only [↓ru, rv, rl, ry, tyf, iM, bM, bsM, cond_true, cond_false, Nat.reduceLT, Nat.reduceBEq, Nat.reduceAdd, Nat.reduceEqDiff, Nat.reduceMul, Nat.reduceLeDiff, Nat.reduceSub, Nat.reduceDiv, Int.reduceLE, Int.reduceLT, Int.reduceNeg, Int.reduceAdd, Int.reduceSub, Int.reduceMul, Int.reduceToNat, Int.reducePow, Int.reduceEq, ne_eq, reduceIte, byteD, dstr, un1_str, *])))
  generalize s.take 80 = s at hl ⊢
  (try (simp only [↓ru, rv, rl, ry, tyf, iM, bM, bsM, cond_true, cond_false, Nat.reduceLT, Nat.reduceBEq, Nat.reduceAdd, Nat.reduceEqDiff, Nat.reduceMul, Nat.reduceLeDiff, Nat.reduceSub, Nat.reduceDiv, Int.reduceLE, Int.reduceLT, Int.reduceNeg, Int.reduceAdd, Int.reduceSub, Int.reduceMul, Int.reduceToNat, Int.reducePow, Int.reduceEq, ne_eq, reduceIte, byteD, dstr, un1_str, *])); repeat' ((first | (refine fork_split (fun _h => ?_) (fun _h => ?_)) | (refine gfork_split (fun _h => ?_) (fun _h => ?_)) | (refine dfork_split (fun _h => ?_) (fun _h => ?_)) | (refine acall1_pure (Words s (by omega)) rfl rfl ?_) | (refine dcall1_pure (Words s (by omega)) rfl rfl ?_) | (refine acall1_pure (WordsR s (by omega)) rfl rfl ?_) | (refine dcall1_pure (WordsR s (by omega)) rfl rfl ?_)) <;> (try (simp only [↓ru, rv, rl, ry, tyf, iM, bM, bsM, cond_true, cond_false, Nat.reduceLT, Nat.reduceBEq, Nat.reduceAdd, Nat.reduceEqDiff, Nat.reduceMul, Nat.reduceLeDiff, Nat.reduceSub, Nat.reduceDiv, Int.reduceLE, Int.reduceLT, Int.reduceNeg, Int.reduceAdd, Int.reduceSub, Int.reduceMul, Int.reduceToNat, Int.reducePow, Int.reduceEq, ne_eq, reduceIte, byteD, dstr, un1_str, *])))
  cases hw : wordsF s with
  | none =>
    (try (simp only [↓ru, rv, rl, ry, tyf, iM, bM, bsM, cond_true, cond_false, Nat.reduceLT, Nat.reduceBEq, Nat.reduceAdd, Nat.reduceEqDiff, Nat.reduceMul, Nat.reduceLeDiff, Nat.reduceSub, Nat.reduceDiv, Int.reduceLE, Int.reduceLT, Int.reduceNeg, Int.reduceAdd, Int.reduceSub, Int.reduceMul, Int.reduceToNat, Int.reducePow, Int.reduceEq, ne_eq, reduceIte, byteD, dstr, un1_str, bneq, beql, hw, beq_self_eq_true, Option.isSome_none, Option.isSome_some, Option.getD_none, Option.getD_some, pureEnd_of (fn := Tryd.f6) (rs := [.tmp 2]) (ts := [4]) rfl rfl, *])); repeat' ((first | (refine fork_split (fun _h => ?_) (fun _h => ?_)) | (refine gfork_split (fun _h => ?_) (fun _h => ?_)) | (refine dfork_split (fun _h => ?_) (fun _h => ?_)) | (refine acall1_pure (Same [] [] (by simp) (by simp)) rfl rfl ?_) | (refine dcall1_pure (Same [] [] (by simp) (by simp)) rfl rfl ?_) | (refine acall1_pure Awake rfl rfl ?_) | (refine dcall1_pure Awake rfl rfl ?_)) <;> (try (simp only [↓ru, rv, rl, ry, tyf, iM, bM, bsM, cond_true, cond_false, Nat.reduceLT, Nat.reduceBEq, Nat.reduceAdd, Nat.reduceEqDiff, Nat.reduceMul, Nat.reduceLeDiff, Nat.reduceSub, Nat.reduceDiv, Int.reduceLE, Int.reduceLT, Int.reduceNeg, Int.reduceAdd, Int.reduceSub, Int.reduceMul, Int.reduceToNat, Int.reducePow, Int.reduceEq, ne_eq, reduceIte, byteD, dstr, un1_str, bneq, beql, hw, beq_self_eq_true, Option.isSome_none, Option.isSome_some, Option.getD_none, Option.getD_some, pureEnd_of (fn := Tryd.f6) (rs := [.tmp 2]) (ts := [4]) rfl rfl, *])))
    all_goals simp_all
  | some l =>
    have h1 := words_len hw
    have h2 := sum_len l
    have h3 := words_join hw
    (try (simp only [↓ru, rv, rl, ry, tyf, iM, bM, bsM, cond_true, cond_false, Nat.reduceLT, Nat.reduceBEq, Nat.reduceAdd, Nat.reduceEqDiff, Nat.reduceMul, Nat.reduceLeDiff, Nat.reduceSub, Nat.reduceDiv, Int.reduceLE, Int.reduceLT, Int.reduceNeg, Int.reduceAdd, Int.reduceSub, Int.reduceMul, Int.reduceToNat, Int.reducePow, Int.reduceEq, ne_eq, reduceIte, byteD, dstr, un1_str, bneq, beql, hw, beq_self_eq_true, Option.isSome_none, Option.isSome_some, Option.getD_none, Option.getD_some, pureEnd_of (fn := Tryd.f6) (rs := [.tmp 2]) (ts := [4]) rfl rfl, *])); repeat' ((first | (refine fork_split (fun _h => ?_) (fun _h => ?_)) | (refine gfork_split (fun _h => ?_) (fun _h => ?_)) | (refine dfork_split (fun _h => ?_) (fun _h => ?_)) | (refine acall1_pure (Same l l (by omega) (by omega)) rfl rfl ?_) | (refine dcall1_pure (Same l l (by omega) (by omega)) rfl rfl ?_) | (refine acall1_pure Awake rfl rfl ?_) | (refine dcall1_pure Awake rfl rfl ?_) | (refine acall1_pure (Line l (by omega)) rfl rfl ?_) | (refine dcall1_pure (Line l (by omega)) rfl rfl ?_)) <;> (try (simp only [↓ru, rv, rl, ry, tyf, iM, bM, bsM, cond_true, cond_false, Nat.reduceLT, Nat.reduceBEq, Nat.reduceAdd, Nat.reduceEqDiff, Nat.reduceMul, Nat.reduceLeDiff, Nat.reduceSub, Nat.reduceDiv, Int.reduceLE, Int.reduceLT, Int.reduceNeg, Int.reduceAdd, Int.reduceSub, Int.reduceMul, Int.reduceToNat, Int.reducePow, Int.reduceEq, ne_eq, reduceIte, byteD, dstr, un1_str, bneq, beql, hw, beq_self_eq_true, Option.isSome_none, Option.isSome_some, Option.getD_none, Option.getD_some, pureEnd_of (fn := Tryd.f6) (rs := [.tmp 2]) (ts := [4]) rfl rfl, *])))
    simp (disch := (simp only [List.length_append, List.length_cons, List.length_nil, List.length_map, List.length_take, List.length_replicate, List.length_drop] <;> omega)) only [bin_str_add, kk_eq, wrap_i64, wrap_u8, wrap_u16, wrap_u64]
    simp only [↓ru, rv, rl, ry, tyf, iM, bM, bsM, cond_true, cond_false, Nat.reduceLT, Nat.reduceBEq, Nat.reduceAdd, Nat.reduceEqDiff, Nat.reduceMul, Nat.reduceLeDiff, Nat.reduceSub, Nat.reduceDiv, Int.reduceLE, Int.reduceLT, Int.reduceNeg, Int.reduceAdd, Int.reduceSub, Int.reduceMul, Int.reduceToNat, Int.reducePow, Int.reduceEq, ne_eq, reduceIte, byteD, dstr, un1_str, h3, pureEnd_of (fn := Tryd.f6) (rs := [.tmp 2]) (ts := [4]) rfl rfl]
    try simp
theorem unlines_len (l : List (List UInt8)) : (unlines l).length = (l.map fun w => w.length + 1).sum := by
  induction l with
  | nil => rfl
  | cons w l ih => simp [unlines] at ih ⊢; omega
theorem unlines_le (l : List (List UInt8)) (i : Nat) : (unlines (l.take i)).length ≤ (unlines l).length := by
  rw [unlines_len, unlines_len]
  have e : (l.map fun w => w.length + 1) = ((l.take i).map fun w => w.length + 1) ++ ((l.drop i).map fun w => w.length + 1) := by rw [← List.map_append, List.take_append_drop]
  rw [e, List.sum_append]; omega
theorem unlines_app (l : List (List UInt8)) (x : List UInt8) : unlines (l ++ [x]) = unlines l ++ (x ++ [10]) := by simp [unlines]
theorem lLines (b : List UInt8) (hb : b.length ≤ 9223372036854775807) : PFn Tryd.prog 9 [bsM b] (bM true) := by
  (refine PFn.of (prs := []) Tryd.func9 rfl rfl mix (by kernel_rfl) rfl rfl ?_; simp only [Tryd.ntmps9, argUpd])
  have hl : (b.take 120).length ≤ 120 := by simp; omega
  (try (simp only [↓ru, rv, rl, ry, tyf, iM, bM, bsM, cond_true, cond_false, Nat.reduceLT, Nat.reduceBEq, Nat.reduceAdd, Nat.reduceEqDiff, Nat.reduceMul, Nat.reduceLeDiff, Nat.reduceSub, Nat.reduceDiv, Int.reduceLE, Int.reduceLT, Int.reduceNeg, Int.reduceAdd, Int.reduceSub, Int.reduceMul, Int.reduceToNat, Int.reducePow, Int.reduceEq, ne_eq, reduceIte, byteD, dstr, un1_str, *])); repeat' ((first | (refine fork_split (fun _h => ?_) (fun _h => ?_)) | (refine gfork_split (fun _h => ?_) (fun _h => ?_)) | (refine dfork_split (fun _h => ?_) (fun _h => ?_)) | (refine acall1_pure (Bytes b 120 hb (by decide) rfl) rfl rfl ?_) | (refine dcall1_pure (Bytes b 120 hb (by decide) rfl) rfl rfl ?_)) <;> (try (simp only [↓ru, rv, rl, ry, tyf, iM, bM, bsM, cond_true, cond_false, Nat.reduceLT, Nat.reduceBEq, Nat.reduceAdd, Nat.reduceEqDiff, Nat.reduceMul, Nat.reduceLeDiff, Nat.reduceSub, Nat.reduceDiv, Int.reduceLE, Int.reduceLT, Int.reduceNeg, Int.reduceAdd, Int.reduceSub, Int.reduceMul, Int.reduceToNat, Int.reducePow, Int.reduceEq, ne_eq, reduceIte, byteD, dstr, un1_str, *])))
  generalize b.take 120 = b at hl ⊢
  (try (simp only [↓ru, rv, rl, ry, tyf, iM, bM, bsM, cond_true, cond_false, Nat.reduceLT, Nat.reduceBEq, Nat.reduceAdd, Nat.reduceEqDiff, Nat.reduceMul, Nat.reduceLeDiff, Nat.reduceSub, Nat.reduceDiv, Int.reduceLE, Int.reduceLT, Int.reduceNeg, Int.reduceAdd, Int.reduceSub, Int.reduceMul, Int.reduceToNat, Int.reducePow, Int.reduceEq, ne_eq, reduceIte, byteD, dstr, un1_str, *])); repeat' ((first | (refine fork_split (fun _h => ?_) (fun _h => ?_)) | (refine gfork_split (fun _h => ?_) (fun _h => ?_)) | (refine dfork_split (fun _h => ?_) (fun _h => ?_)) | (refine acall1_pure (Lines b (by omega)) rfl rfl ?_) | (refine dcall1_pure (Lines b (by omega)) rfl rfl ?_) | (refine acall1_pure (LinesR b (by omega)) rfl rfl ?_) | (refine dcall1_pure (LinesR b (by omega)) rfl rfl ?_)) <;> (try (simp only [↓ru, rv, rl, ry, tyf, iM, bM, bsM, cond_true, cond_false, Nat.reduceLT, Nat.reduceBEq, Nat.reduceAdd, Nat.reduceEqDiff, Nat.reduceMul, Nat.reduceLeDiff, Nat.reduceSub, Nat.reduceDiv, Int.reduceLE, Int.reduceLT, Int.reduceNeg, Int.reduceAdd, Int.reduceSub, Int.reduceMul, Int.reduceToNat, Int.reducePow, Int.reduceEq, ne_eq, reduceIte, byteD, dstr, un1_str, *])))
  cases hw : linesF b with
  | none =>
    (try (simp only [↓ru, rv, rl, ry, tyf, iM, bM, bsM, cond_true, cond_false, Nat.reduceLT, Nat.reduceBEq, Nat.reduceAdd, Nat.reduceEqDiff, Nat.reduceMul, Nat.reduceLeDiff, Nat.reduceSub, Nat.reduceDiv, Int.reduceLE, Int.reduceLT, Int.reduceNeg, Int.reduceAdd, Int.reduceSub, Int.reduceMul, Int.reduceToNat, Int.reducePow, Int.reduceEq, ne_eq, reduceIte, byteD, dstr, un1_str, bneq, beql, hw, beq_self_eq_true, Option.isSome_none, Option.isSome_some, Option.getD_none, Option.getD_some, pureEnd_of (fn := Tryd.f9) (rs := [.tmp 2]) (ts := [4]) rfl rfl, *])); repeat' ((first | (refine fork_split (fun _h => ?_) (fun _h => ?_)) | (refine gfork_split (fun _h => ?_) (fun _h => ?_)) | (refine dfork_split (fun _h => ?_) (fun _h => ?_)) | (refine acall1_pure (Same [] [] (by simp) (by simp)) rfl rfl ?_) | (refine dcall1_pure (Same [] [] (by simp) (by simp)) rfl rfl ?_) | (refine acall1_pure Awake rfl rfl ?_) | (refine dcall1_pure Awake rfl rfl ?_)) <;> (try (simp only [↓ru, rv, rl, ry, tyf, iM, bM, bsM, cond_true, cond_false, Nat.reduceLT, Nat.reduceBEq, Nat.reduceAdd, Nat.reduceEqDiff, Nat.reduceMul, Nat.reduceLeDiff, Nat.reduceSub, Nat.reduceDiv, Int.reduceLE, Int.reduceLT, Int.reduceNeg, Int.reduceAdd, Int.reduceSub, Int.reduceMul, Int.reduceToNat, Int.reducePow, Int.reduceEq, ne_eq, reduceIte, byteD, dstr, un1_str, bneq, beql, hw, beq_self_eq_true, Option.isSome_none, Option.isSome_some, Option.getD_none, Option.getD_some, pureEnd_of (fn := Tryd.f9) (rs := [.tmp 2]) (ts := [4]) rfl rfl, *])))
    refine aloop_unroll 0 ?_
    (try (simp only [↓ru, rv, rl, ry, tyf, iM, bM, bsM, cond_true, cond_false, Nat.reduceLT, Nat.reduceBEq, Nat.reduceAdd, Nat.reduceEqDiff, Nat.reduceMul, Nat.reduceLeDiff, Nat.reduceSub, Nat.reduceDiv, Int.reduceLE, Int.reduceLT, Int.reduceNeg, Int.reduceAdd, Int.reduceSub, Int.reduceMul, Int.reduceToNat, Int.reducePow, Int.reduceEq, ne_eq, reduceIte, byteD, dstr, un1_str, unR_ret, unR_exit, pureEnd_of (fn := Tryd.f9) (rs := [.tmp 2]) (ts := [4]) rfl rfl, *])); repeat' ((first | (refine fork_split (fun _h => ?_) (fun _h => ?_)) | (refine gfork_split (fun _h => ?_) (fun _h => ?_)) | (refine dfork_split (fun _h => ?_) (fun _h => ?_)) | (refine acall1_pure Awake rfl rfl ?_) | (refine dcall1_pure Awake rfl rfl ?_)) <;> (try (simp only [↓ru, rv, rl, ry, tyf, iM, bM, bsM, cond_true, cond_false, Nat.reduceLT, Nat.reduceBEq, Nat.reduceAdd, Nat.reduceEqDiff, Nat.reduceMul, Nat.reduceLeDiff, Nat.reduceSub, Nat.reduceDiv, Int.reduceLE, Int.reduceLT, Int.reduceNeg, Int.reduceAdd, Int.reduceSub, Int.reduceMul, Int.reduceToNat, Int.reducePow, Int.reduceEq, ne_eq, reduceIte, byteD, dstr, un1_str, unR_ret, unR_exit, pureEnd_of (fn := Tryd.f9) (rs := [.tmp 2]) (ts := [4]) rfl rfl, *])))
  | some l =>
    have h1 := lines_join hw
    have h2 := unlines_len l
    have h3 := sum_len l
    rw [h1] at hl
    (try (simp only [↓ru, rv, rl, ry, tyf, iM, bM, bsM, cond_true, cond_false, Nat.reduceLT, Nat.reduceBEq, Nat.reduceAdd, Nat.reduceEqDiff, Nat.reduceMul, Nat.reduceLeDiff, Nat.reduceSub, Nat.reduceDiv, Int.reduceLE, Int.reduceLT, Int.reduceNeg, Int.reduceAdd, Int.reduceSub, Int.reduceMul, Int.reduceToNat, Int.reducePow, Int.reduceEq, ne_eq, reduceIte, byteD, dstr, un1_str, bneq, beql, hw, beq_self_eq_true, Option.isSome_none, Option.isSome_some, Option.getD_none, Option.getD_some, decide_true, pureEnd_of (fn := Tryd.f9) (rs := [.tmp 2]) (ts := [4]) rfl rfl, *])); repeat' ((first | (refine fork_split (fun _h => ?_) (fun _h => ?_)) | (refine gfork_split (fun _h => ?_) (fun _h => ?_)) | (refine dfork_split (fun _h => ?_) (fun _h => ?_)) | (refine acall1_pure (Same l l (by omega) (by omega)) rfl rfl ?_) | (refine dcall1_pure (Same l l (by omega) (by omega)) rfl rfl ?_)) <;> (try (simp only [↓ru, rv, rl, ry, tyf, iM, bM, bsM, cond_true, cond_false, Nat.reduceLT, Nat.reduceBEq, Nat.reduceAdd, Nat.reduceEqDiff, Nat.reduceMul, Nat.reduceLeDiff, Nat.reduceSub, Nat.reduceDiv, Int.reduceLE, Int.reduceLT, Int.reduceNeg, Int.reduceAdd, Int.reduceSub, Int.reduceMul, Int.reduceToNat, Int.reducePow, Int.reduceEq, ne_eq, reduceIte, byteD, dstr, un1_str, bneq, beql, hw, beq_self_eq_true, Option.isSome_none, Option.isSome_some, Option.getD_none, Option.getD_some, decide_true, pureEnd_of (fn := Tryd.f9) (rs := [.tmp 2]) (ts := [4]) rfl rfl, *])))
    subst h1
    refine aloop_lv (fun i : Nat => [(0, bsM (unlines l)), (3, strsM l), (4, bM true), (7, strM (unlines (l.take i))), (8, iM i)]) (fun _ => []) (fun i => i ≤ l.length) (fun i => l.length - i) 0 0 ?_ rfl (by omega) (by omega) ?_
    · simp only [↓ru, rv, rl, ry, tyf, iM, bM, bsM, cond_true, cond_false, Nat.reduceLT, Nat.reduceBEq, Nat.reduceAdd, Nat.reduceEqDiff, Nat.reduceMul, Nat.reduceLeDiff, Nat.reduceSub, Nat.reduceDiv, Int.reduceLE, Int.reduceLT, Int.reduceNeg, Int.reduceAdd, Int.reduceSub, Int.reduceMul, Int.reduceToNat, Int.reducePow, Int.reduceEq, ne_eq, reduceIte, byteD, dstr, un1_str]
      rfl
    intro i e0 n hi
    have hj := unlines_le l i
    rw [← h2] at h3
    generalize hu : unlines l = u at hj hl h3 ⊢
    simp only [↓ru, rv, rl, ry, tyf, iM, bM, bsM, cond_true, cond_false, Nat.reduceLT, Nat.reduceBEq, Nat.reduceAdd, Nat.reduceEqDiff, Nat.reduceMul, Nat.reduceLeDiff, Nat.reduceSub, Nat.reduceDiv, Int.reduceLE, Int.reduceLT, Int.reduceNeg, Int.reduceAdd, Int.reduceSub, Int.reduceMul, Int.reduceToNat, Int.reducePow, Int.reduceEq, ne_eq, reduceIte, byteD, dstr, un1_str]
    refine fork_split (fun h => ?_) (fun h => ?_)
    · have h' := of_decide_eq_true h
      obtain ⟨x, hx⟩ := get_of_lt (l := l) (i := i) (by omega)
      have ht : l.take (i + 1) = l.take i ++ [x] := by rw [List.take_add_one, hx]; rfl
      have hj2 := unlines_le l (i + 1)
      rw [ht, unlines_app, hu, List.length_append, List.length_append, List.length_cons, List.length_nil] at hj2
      simp only [↓ru, rv, rl, ry, tyf, iM, bM, bsM, cond_true, cond_false, Nat.reduceLT, Nat.reduceBEq, Nat.reduceAdd, Nat.reduceEqDiff, Nat.reduceMul, Nat.reduceLeDiff, Nat.reduceSub, Nat.reduceDiv, Int.reduceLE, Int.reduceLT, Int.reduceNeg, Int.reduceAdd, Int.reduceSub, Int.reduceMul, Int.reduceToNat, Int.reducePow, Int.reduceEq, ne_eq, reduceIte, byteD, dstr, un1_str, hx]
      simp (disch := (simp only [List.length_append, List.length_cons, List.length_nil, List.length_map, List.length_take, List.length_replicate, List.length_drop] <;> omega)) only [bin_str_add, kk_eq, wrap_i64, wrap_u8, wrap_u16, wrap_u64]
      (try simp only [↓ru, rv, rl, ry, tyf, iM, bM, bsM, cond_true, cond_false, Nat.reduceLT, Nat.reduceBEq, Nat.reduceAdd, Nat.reduceEqDiff, Nat.reduceMul, Nat.reduceLeDiff, Nat.reduceSub, Nat.reduceDiv, Int.reduceLE, Int.reduceLT, Int.reduceNeg, Int.reduceAdd, Int.reduceSub, Int.reduceMul, Int.reduceToNat, Int.reducePow, Int.reduceEq, ne_eq, reduceIte, byteD, dstr, un1_str, hx])
      simp (disch := (simp only [List.length_append, List.length_cons, List.length_nil, List.length_map, List.length_take, List.length_replicate, List.length_drop] <;> omega)) only [bin_str_add, kk_eq, wrap_i64, wrap_u8, wrap_u16, wrap_u64]
      (try simp only [↓ru, rv, rl, ry, tyf, iM, bM, bsM, cond_true, cond_false, Nat.reduceLT, Nat.reduceBEq, Nat.reduceAdd, Nat.reduceEqDiff, Nat.reduceMul, Nat.reduceLeDiff, Nat.reduceSub, Nat.reduceDiv, Int.reduceLE, Int.reduceLT, Int.reduceNeg, Int.reduceAdd, Int.reduceSub, Int.reduceMul, Int.reduceToNat, Int.reducePow, Int.reduceEq, ne_eq, reduceIte, byteD, dstr, un1_str])
      (try simp (disch := omega) only [wrap_i64, wrap_u8, wrap_u16, wrap_u64])
      refine loopL_next (i + 1) ?_ rfl (by omega) (by omega) (by omega)
      simp only [↓ru, rv, rl, ry, tyf, iM, bM, bsM, cond_true, cond_false, Nat.reduceLT, Nat.reduceBEq, Nat.reduceAdd, Nat.reduceEqDiff, Nat.reduceMul, Nat.reduceLeDiff, Nat.reduceSub, Nat.reduceDiv, Int.reduceLE, Int.reduceLT, Int.reduceNeg, Int.reduceAdd, Int.reduceSub, Int.reduceMul, Int.reduceToNat, Int.reducePow, Int.reduceEq, ne_eq, reduceIte, byteD, dstr, un1_str, ht, unlines_app]
      simp
      try exact wrap_i64 (by omega) (by omega)
    · have h' := of_decide_eq_false h
      have : i = l.length := by omega
      subst this
      rw [List.take_length] at *
      (try (simp only [↓ru, rv, rl, ry, tyf, iM, bM, bsM, cond_true, cond_false, Nat.reduceLT, Nat.reduceBEq, Nat.reduceAdd, Nat.reduceEqDiff, Nat.reduceMul, Nat.reduceLeDiff, Nat.reduceSub, Nat.reduceDiv, Int.reduceLE, Int.reduceLT, Int.reduceNeg, Int.reduceAdd, Int.reduceSub, Int.reduceMul, Int.reduceToNat, Int.reducePow, Int.reduceEq, ne_eq, reduceIte, byteD, dstr, un1_str, bytesOf_map, hu, pureEnd_of (fn := Tryd.f9) (rs := [.tmp 2]) (ts := [4]) rfl rfl, *])); repeat' ((first | (refine fork_split (fun _h => ?_) (fun _h => ?_)) | (refine gfork_split (fun _h => ?_) (fun _h => ?_)) | (refine dfork_split (fun _h => ?_) (fun _h => ?_)) | (refine acall1_pure Awake rfl rfl ?_) | (refine dcall1_pure Awake rfl rfl ?_)) <;> (try (simp only [↓ru, rv, rl, ry, tyf, iM, bM, bsM, cond_true, cond_false, Nat.reduceLT, Nat.reduceBEq, Nat.reduceAdd, Nat.reduceEqDiff, Nat.reduceMul, Nat.reduceLeDiff, Nat.reduceSub, Nat.reduceDiv, Int.reduceLE, Int.reduceLT, Int.reduceNeg, Int.reduceAdd, Int.reduceSub, Int.reduceMul, Int.reduceToNat, Int.reducePow, Int.reduceEq, ne_eq, reduceIte, byteD, dstr, un1_str, bytesOf_map, hu, pureEnd_of (fn := Tryd.f9) (rs := [.tmp 2]) (ts := [4]) rfl rfl, *])))
end Go.TW

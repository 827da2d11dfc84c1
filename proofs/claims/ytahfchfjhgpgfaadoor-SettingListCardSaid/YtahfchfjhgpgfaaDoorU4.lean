import Derived.Test.YtahfchfjhgpgfaaDoorU3
set_option linter.all false
open Go.Proofs Go.Abs Go.Fa Go.BU Go.TX
namespace Go.TW
set_option maxHeartbeats 4000000
set_option maxRecDepth 10000
-- rules: byteD, dstr, un1_str, iD

theorem beqS {xo yo : Operand} {a b : Bool} {B : Bx} {K : K2} : aBin Tryd.prog .eql 4 xo yo (bM a) (bM b) B K = kk K (bM (a == b)) B := bin_bool_eql Tryd.underlying4
theorem bneqS {xo yo : Operand} {a b : Bool} {B : Bx} {K : K2} : aBin Tryd.prog .neq 4 xo yo (bM a) (bM b) B K = kk K (bM (!(a == b))) B := bin_bool_neq Tryd.underlying4
theorem beqS' {xo yo : Operand} {a b : Bool} {B : Bx} {K : K2} : aBin Tryd.prog .eql 4 xo yo (.d (.v (.bool a))) (.d (.v (.bool b))) B K = kk K (bM (a == b)) B := bin_bool_eql Tryd.underlying4
theorem bneqS' {xo yo : Operand} {a b : Bool} {B : Bx} {K : K2} : aBin Tryd.prog .neq 4 xo yo (.d (.v (.bool a))) (.d (.v (.bool b))) B K = kk K (bM (!(a == b))) B := bin_bool_neq Tryd.underlying4
theorem lSettingParse (s : List UInt8) (hs : s.length ≤ 9223372036854775807) : PFn Tryd.prog 10 [strM s] (bM true) := by
  have hl : (s.take 20).length ≤ 100 := by simp; omega
  (refine PFn.of (prs := []) Tryd.func10 rfl rfl mix (by kernel_rfl) rfl rfl ?_; simp only [Tryd.ntmps10, argUpd])
  (try (simp only [↓ru, rv, rl, ry, tyf, iM, bM, bsM, cond_true, cond_false, Nat.reduceLT, Nat.reduceBEq, Nat.reduceAdd, Nat.reduceEqDiff, Nat.reduceMul, Nat.reduceLeDiff, Nat.reduceSub, Nat.reduceDiv, Int.reduceLE, Int.reduceLT, Int.reduceNeg, Int.reduceAdd, Int.reduceSub, Int.reduceMul, Int.reduceToNat, Int.reducePow, Int.reduceEq, ne_eq, reduceIte, byteD, dstr, un1_str, iD, stg_eq', beqS', pureEnd_of (fn := Tryd.f10) (rs := [.tmp 2]) (ts := [4]) rfl rfl, *])); repeat' ((first | (refine fork_split (fun _h => ?_) (fun _h => ?_)) | (refine gfork_split (fun _h => ?_) (fun _h => ?_)) | (refine dfork_split (fun _h => ?_) (fun _h => ?_)) | (refine acall1_pure (Text s 20 hs (by decide) rfl) rfl rfl ?_) | (refine dcall1_pure (Text s 20 hs (by decide) rfl) rfl rfl ?_) | (refine acall1_pure (Parse (s.take 20) hl) rfl rfl ?_) | (refine dcall1_pure (Parse (s.take 20) hl) rfl rfl ?_) | (refine acall1_pure (ParseR (s.take 20)) rfl rfl ?_) | (refine dcall1_pure (ParseR (s.take 20)) rfl rfl ?_) | (refine acall1_pure Awake5 rfl rfl ?_) | (refine dcall1_pure Awake5 rfl rfl ?_)) <;> (try (simp only [↓ru, rv, rl, ry, tyf, iM, bM, bsM, cond_true, cond_false, Nat.reduceLT, Nat.reduceBEq, Nat.reduceAdd, Nat.reduceEqDiff, Nat.reduceMul, Nat.reduceLeDiff, Nat.reduceSub, Nat.reduceDiv, Int.reduceLE, Int.reduceLT, Int.reduceNeg, Int.reduceAdd, Int.reduceSub, Int.reduceMul, Int.reduceToNat, Int.reducePow, Int.reduceEq, ne_eq, reduceIte, byteD, dstr, un1_str, iD, stg_eq', beqS', pureEnd_of (fn := Tryd.f10) (rs := [.tmp 2]) (ts := [4]) rfl rfl, *])))
  all_goals simp_all
theorem fmt_len (s : Stg) : (fmtS s).length ≤ 20 := by
  have := dec_len s.baud
  unfold fmtS; split <;> simp; omega
theorem lSettingRound (n : Int) (hn : -9223372036854775808 ≤ n ∧ n ≤ 9223372036854775807) : PFn Tryd.prog 11 [iM n] (bM true) := by
  obtain ⟨k, hk⟩ : ∃ k : Nat, n % 24 = k := ⟨(n % 24).toNat, by omega⟩
  have hk2 : k < 24 := by omega
  have hm := Mod n hn
  rw [hk] at hm
  have hlen : allS.length = 24 := by decide
  have hmem := mem_allS
  obtain ⟨s, hs⟩ := get_of_lt (l := allS) (i := k) (by omega)
  have hv : validS s = true := (hmem s).1 (List.mem_of_getElem? hs)
  have hp := Parse (fmtS s) (by have := fmt_len s; omega)
  unfold parM at hp
  rw [← parse_eq, parse2_fmt hv] at hp
  have hA := AllR
  generalize allS = l at *
  clear hmem hv hk
  (refine PFn.of (prs := []) Tryd.func11 rfl rfl mix (by kernel_rfl) rfl rfl ?_; simp only [Tryd.ntmps11, argUpd])
  simp only [↓ru, rv, rl, ry, tyf, iM, bM, bsM, cond_true, cond_false, Nat.reduceLT, Nat.reduceBEq, Nat.reduceAdd, Nat.reduceEqDiff, Nat.reduceMul, Nat.reduceLeDiff, Nat.reduceSub, Nat.reduceDiv, Int.reduceLE, Int.reduceLT, Int.reduceNeg, Int.reduceAdd, Int.reduceSub, Int.reduceMul, Int.reduceToNat, Int.reducePow, Int.reduceEq, ne_eq, reduceIte, byteD, dstr, un1_str, iD]
  refine acall1_pure hA rfl rfl ?_
  (try (simp only [↓ru, rv, rl, ry, tyf, iM, bM, bsM, cond_true, cond_false, Nat.reduceLT, Nat.reduceBEq, Nat.reduceAdd, Nat.reduceEqDiff, Nat.reduceMul, Nat.reduceLeDiff, Nat.reduceSub, Nat.reduceDiv, Int.reduceLE, Int.reduceLT, Int.reduceNeg, Int.reduceAdd, Int.reduceSub, Int.reduceMul, Int.reduceToNat, Int.reducePow, Int.reduceEq, ne_eq, reduceIte, byteD, dstr, un1_str, iD, stg_eq', pureEnd_of (fn := Tryd.f11) (rs := [.tmp 2]) (ts := [4]) rfl rfl, *])); repeat' ((first | (refine fork_split (fun _h => ?_) (fun _h => ?_)) | (refine gfork_split (fun _h => ?_) (fun _h => ?_)) | (refine dfork_split (fun _h => ?_) (fun _h => ?_)) | (refine acall1_pure hm rfl rfl ?_) | (refine dcall1_pure hm rfl rfl ?_) | (refine acall1_pure (Format s) rfl rfl ?_) | (refine dcall1_pure (Format s) rfl rfl ?_) | (refine acall1_pure hp rfl rfl ?_) | (refine dcall1_pure hp rfl rfl ?_) | (refine acall1_pure Awake5 rfl rfl ?_) | (refine dcall1_pure Awake5 rfl rfl ?_)) <;> (try (simp only [↓ru, rv, rl, ry, tyf, iM, bM, bsM, cond_true, cond_false, Nat.reduceLT, Nat.reduceBEq, Nat.reduceAdd, Nat.reduceEqDiff, Nat.reduceMul, Nat.reduceLeDiff, Nat.reduceSub, Nat.reduceDiv, Int.reduceLE, Int.reduceLT, Int.reduceNeg, Int.reduceAdd, Int.reduceSub, Int.reduceMul, Int.reduceToNat, Int.reducePow, Int.reduceEq, ne_eq, reduceIte, byteD, dstr, un1_str, iD, stg_eq', pureEnd_of (fn := Tryd.f11) (rs := [.tmp 2]) (ts := [4]) rfl rfl, *])))
theorem lSettingValid (s : Stg) (n : Int) (hn : -9223372036854775808 ≤ n ∧ n ≤ 9223372036854775807) : PFn Tryd.prog 12 [stgM s, iM n] (bM true) := by
  obtain ⟨k, hk⟩ : ∃ k : Nat, n % 24 = k := ⟨(n % 24).toNat, by omega⟩
  have hk2 : k < 24 := by omega
  have hm := Mod n hn
  rw [hk] at hm
  have hlen : allS.length = 24 := by decide
  obtain ⟨y, hy⟩ := get_of_lt (l := allS) (i := k) (by omega)
  have hA := AllR
  have hA2 := All
  generalize allS = l at *
  clear hk
  (refine PFn.of (prs := [(5, [(4, 6), (5, 6), (14, 15), (21, 22)])]) Tryd.func12 rfl rfl mix (by kernel_rfl) rfl rfl ?_; simp only [Tryd.ntmps12, argUpd])
  (try (simp only [↓ru, rv, rl, ry, tyf, iM, bM, bsM, cond_true, cond_false, Nat.reduceLT, Nat.reduceBEq, Nat.reduceAdd, Nat.reduceEqDiff, Nat.reduceMul, Nat.reduceLeDiff, Nat.reduceSub, Nat.reduceDiv, Int.reduceLE, Int.reduceLT, Int.reduceNeg, Int.reduceAdd, Int.reduceSub, Int.reduceMul, Int.reduceToNat, Int.reducePow, Int.reduceEq, ne_eq, reduceIte, byteD, dstr, un1_str, iD, stg_eq', beqS', pureEnd_of (fn := Tryd.f12) (rs := [.tmp 4]) (ts := [4]) rfl rfl, *])); repeat' ((first | (refine fork_split (fun _h => ?_) (fun _h => ?_)) | (refine gfork_split (fun _h => ?_) (fun _h => ?_)) | (refine dfork_split (fun _h => ?_) (fun _h => ?_)) | (refine acall1_pure hm rfl rfl ?_) | (refine dcall1_pure hm rfl rfl ?_) | (refine acall1_pure hA rfl rfl ?_) | (refine dcall1_pure hA rfl rfl ?_) | (refine acall1_pure hA2 rfl rfl ?_) | (refine dcall1_pure hA2 rfl rfl ?_) | (refine acall1_pure Awake5 rfl rfl ?_) | (refine dcall1_pure Awake5 rfl rfl ?_) | (refine acall1_pure (Valid s) rfl rfl ?_) | (refine dcall1_pure (Valid s) rfl rfl ?_) | (refine acall1_pure (ValidR s) rfl rfl ?_) | (refine dcall1_pure (ValidR s) rfl rfl ?_) | (refine acall1_pure (Format s) rfl rfl ?_) | (refine dcall1_pure (Format s) rfl rfl ?_) | (refine acall1_pure (FormatR s) rfl rfl ?_) | (refine dcall1_pure (FormatR s) rfl rfl ?_)) <;> (try (simp only [↓ru, rv, rl, ry, tyf, iM, bM, bsM, cond_true, cond_false, Nat.reduceLT, Nat.reduceBEq, Nat.reduceAdd, Nat.reduceEqDiff, Nat.reduceMul, Nat.reduceLeDiff, Nat.reduceSub, Nat.reduceDiv, Int.reduceLE, Int.reduceLT, Int.reduceNeg, Int.reduceAdd, Int.reduceSub, Int.reduceMul, Int.reduceToNat, Int.reducePow, Int.reduceEq, ne_eq, reduceIte, byteD, dstr, un1_str, iD, stg_eq', beqS', pureEnd_of (fn := Tryd.f12) (rs := [.tmp 4]) (ts := [4]) rfl rfl, *])))
  all_goals simp_all
theorem lSettingList (l : List Stg) (hl : l.length ≤ 9223372036854775807) : PFn Tryd.prog 14 [stgsM l] (bM true) := by
  have hl2 : (l.take (min 10 l.length)).length ≤ 9223372036854775807 := by simp; omega
  (refine PFn.of (prs := []) Tryd.func14 rfl rfl mix (by kernel_rfl) rfl rfl ?_; simp only [Tryd.ntmps14, argUpd])
  simp only [↓ru, rv, rl, ry, tyf, iM, bM, bsM, cond_true, cond_false, Nat.reduceLT, Nat.reduceBEq, Nat.reduceAdd, Nat.reduceEqDiff, Nat.reduceMul, Nat.reduceLeDiff, Nat.reduceSub, Nat.reduceDiv, Int.reduceLE, Int.reduceLT, Int.reduceNeg, Int.reduceAdd, Int.reduceSub, Int.reduceMul, Int.reduceToNat, Int.reducePow, Int.reduceEq, ne_eq, reduceIte, byteD, dstr, un1_str, iD]
  rw [show (if (10 : Int) < (l.length : Int) then (10 : Int) else (l.length : Int)) = ((min 10 l.length : Nat) : Int) by split <;> omega]
  refine grd_intro ⟨by omega, by omega⟩ ?_
  (try (simp only [↓ru, rv, rl, ry, tyf, iM, bM, bsM, cond_true, cond_false, Nat.reduceLT, Nat.reduceBEq, Nat.reduceAdd, Nat.reduceEqDiff, Nat.reduceMul, Nat.reduceLeDiff, Nat.reduceSub, Nat.reduceDiv, Int.reduceLE, Int.reduceLT, Int.reduceNeg, Int.reduceAdd, Int.reduceSub, Int.reduceMul, Int.reduceToNat, Int.reducePow, Int.reduceEq, ne_eq, reduceIte, byteD, dstr, un1_str, iD, beqS', Int.toNat_natCast, pureEnd_of (fn := Tryd.f14) (rs := [.tmp 2]) (ts := [4]) rfl rfl, *])); repeat' ((first | (refine fork_split (fun _h => ?_) (fun _h => ?_)) | (refine gfork_split (fun _h => ?_) (fun _h => ?_)) | (refine dfork_split (fun _h => ?_) (fun _h => ?_)) | (refine acall1_pure Awake5 rfl rfl ?_) | (refine dcall1_pure Awake5 rfl rfl ?_) | (refine acall1_pure (ListP _ hl2) rfl rfl ?_) | (refine dcall1_pure (ListP _ hl2) rfl rfl ?_) | (refine acall1_pure (ListR _ hl2) rfl rfl ?_) | (refine dcall1_pure (ListR _ hl2) rfl rfl ?_)) <;> (try (simp only [↓ru, rv, rl, ry, tyf, iM, bM, bsM, cond_true, cond_false, Nat.reduceLT, Nat.reduceBEq, Nat.reduceAdd, Nat.reduceEqDiff, Nat.reduceMul, Nat.reduceLeDiff, Nat.reduceSub, Nat.reduceDiv, Int.reduceLE, Int.reduceLT, Int.reduceNeg, Int.reduceAdd, Int.reduceSub, Int.reduceMul, Int.reduceToNat, Int.reducePow, Int.reduceEq, ne_eq, reduceIte, byteD, dstr, un1_str, iD, beqS', Int.toNat_natCast, pureEnd_of (fn := Tryd.f14) (rs := [.tmp 2]) (ts := [4]) rfl rfl, *])))
  all_goals simp_all
theorem cmp_neg (a b : Stg) : cmpS a b = -cmpS b a := by
  simp only [cmpS, orI, cmpI]; repeat' split
  all_goals omega
theorem cmp_zero (a b : Stg) : decide (cmpS a b = 0) = decide (a = b) := by
  obtain ⟨b1, p1⟩ := a
  obtain ⟨b2, p2⟩ := b
  apply decide_eq_decide.2
  simp only [cmpS, orI, cmpI, Stg.mk.injEq]; repeat' split
  all_goals omega
theorem cmp_lt (a b : Stg) : decide (cmpS a b < 0) = lessS a b := by
  have := cmpS_less a b
  rw [← Bool.not_not (lessS a b), ← this, ← decide_not]
  apply decide_eq_decide.2; omega
theorem cmp_le (a b : Stg) : -1 ≤ cmpS a b ∧ cmpS a b ≤ 1 := by
  simp only [cmpS, orI, cmpI]; repeat' split
  all_goals omega
theorem cmp_trans {a b c : Stg} (h1 : cmpS a b < 0) (h2 : cmpS b c < 0) : cmpS a c < 0 := by
  have l1 := cmp_lt a b
  have l2 := cmp_lt b c
  have l3 := cmp_lt a c
  rw [decide_eq_true h1] at l1
  rw [decide_eq_true h2] at l2
  have : lessS a c = true := by
    have l1 := l1.symm
    have l2 := l2.symm
    simp only [lessS, Bool.or_eq_true, Bool.and_eq_true, decide_eq_true_eq] at l1 l2 ⊢
    omega
  rw [this] at l3
  exact of_decide_eq_true l3
theorem lSettingCompare (a b c : Stg) : PFn Tryd.prog 13 [stgM a, stgM b, stgM c] (bM true) := by
  have h1 := cmp_neg a b
  have h2 := cmp_zero a b
  have h3 := cmp_lt a b
  have h4 := cmp_le a b
  have h5 := cmp_le b a
  have h6 := @cmp_trans a b c
  have c1 := Compare' a b
  have c2 := Compare' b a
  have c3 := Compare' b c
  have c4 := Compare' a c
  generalize cmpS a b = x1 at *
  generalize cmpS b a = x2 at *
  generalize cmpS b c = x3 at *
  generalize cmpS a c = x4 at *
  subst h1
  have l := Less a b
  rw [← h3] at l
  clear h3
  have se : ∀ {xo yo : Operand} {B : Bx} {K : K2}, aBin Tryd.prog .eql 44 xo yo (.agg [.d (.v (.int .i64 a.baud)), .d (.v (.int .i64 a.par))]) (.agg [.d (.v (.int .i64 b.baud)), .d (.v (.int .i64 b.par))]) B K = kk K (bM (decide (-x2 = 0))) B := fun {xo yo B K} => by rw [h2]; exact stg_eq
  clear h2
  (refine PFn.of (prs := [(1, [(2, 3), (2, 4), (2, 6), (5, 6), (2, 7), (5, 7), (2, 9), (5, 9), (8, 9), (2, 10), (5, 10), (8, 10)])]) Tryd.func13 rfl rfl mix (by kernel_rfl) rfl rfl ?_; simp only [Tryd.ntmps13, argUpd])
  simp only [↓ru, rv, rl, ry, tyf, iM, bM, bsM, cond_true, cond_false, Nat.reduceLT, Nat.reduceBEq, Nat.reduceAdd, Nat.reduceEqDiff, Nat.reduceMul, Nat.reduceLeDiff, Nat.reduceSub, Nat.reduceDiv, Int.reduceLE, Int.reduceLT, Int.reduceNeg, Int.reduceAdd, Int.reduceSub, Int.reduceMul, Int.reduceToNat, Int.reducePow, Int.reduceEq, ne_eq, reduceIte, byteD, dstr, un1_str, iD]
  refine dcall1_pure c1 rfl rfl ?_
  simp only [↓ru, rv, rl, ry, tyf, iM, bM, bsM, cond_true, cond_false, Nat.reduceLT, Nat.reduceBEq, Nat.reduceAdd, Nat.reduceEqDiff, Nat.reduceMul, Nat.reduceLeDiff, Nat.reduceSub, Nat.reduceDiv, Int.reduceLE, Int.reduceLT, Int.reduceNeg, Int.reduceAdd, Int.reduceSub, Int.reduceMul, Int.reduceToNat, Int.reducePow, Int.reduceEq, ne_eq, reduceIte, byteD, dstr, un1_str, iD]
  refine dcall1_pure c2 rfl rfl ?_
  simp only [↓ru, rv, rl, ry, tyf, iM, bM, bsM, cond_true, cond_false, Nat.reduceLT, Nat.reduceBEq, Nat.reduceAdd, Nat.reduceEqDiff, Nat.reduceMul, Nat.reduceLeDiff, Nat.reduceSub, Nat.reduceDiv, Int.reduceLE, Int.reduceLT, Int.reduceNeg, Int.reduceAdd, Int.reduceSub, Int.reduceMul, Int.reduceToNat, Int.reducePow, Int.reduceEq, ne_eq, reduceIte, byteD, dstr, un1_str, iD]
  refine dcall1_pure c3 rfl rfl ?_
  simp only [↓ru, rv, rl, ry, tyf, iM, bM, bsM, cond_true, cond_false, Nat.reduceLT, Nat.reduceBEq, Nat.reduceAdd, Nat.reduceEqDiff, Nat.reduceMul, Nat.reduceLeDiff, Nat.reduceSub, Nat.reduceDiv, Int.reduceLE, Int.reduceLT, Int.reduceNeg, Int.reduceAdd, Int.reduceSub, Int.reduceMul, Int.reduceToNat, Int.reducePow, Int.reduceEq, ne_eq, reduceIte, byteD, dstr, un1_str, iD]
  refine dcall1_pure c4 rfl rfl ?_
  clear c1 c2 c3 c4
  have e0 : IntKind.i64.wrap (0 - x2) = -x2 := by rw [wrap_i64 (by omega) (by omega)]; omega
  (try (simp only [↓ru, rv, rl, ry, tyf, iM, bM, bsM, cond_true, cond_false, Nat.reduceLT, Nat.reduceBEq, Nat.reduceAdd, Nat.reduceEqDiff, Nat.reduceMul, Nat.reduceLeDiff, Nat.reduceSub, Nat.reduceDiv, Int.reduceLE, Int.reduceLT, Int.reduceNeg, Int.reduceAdd, Int.reduceSub, Int.reduceMul, Int.reduceToNat, Int.reducePow, Int.reduceEq, ne_eq, reduceIte, byteD, dstr, un1_str, iD, se, bneqS', pureEnd_of (fn := Tryd.f13) (rs := [.tmp 6]) (ts := [4]) rfl rfl, *])); repeat' ((first | (refine fork_split (fun _h => ?_) (fun _h => ?_)) | (refine gfork_split (fun _h => ?_) (fun _h => ?_)) | (refine dfork_split (fun _h => ?_) (fun _h => ?_)) | (refine acall1_pure l rfl rfl ?_) | (refine dcall1_pure l rfl rfl ?_) | (refine acall1_pure Awake5 rfl rfl ?_) | (refine dcall1_pure Awake5 rfl rfl ?_)) <;> (try (simp only [↓ru, rv, rl, ry, tyf, iM, bM, bsM, cond_true, cond_false, Nat.reduceLT, Nat.reduceBEq, Nat.reduceAdd, Nat.reduceEqDiff, Nat.reduceMul, Nat.reduceLeDiff, Nat.reduceSub, Nat.reduceDiv, Int.reduceLE, Int.reduceLT, Int.reduceNeg, Int.reduceAdd, Int.reduceSub, Int.reduceMul, Int.reduceToNat, Int.reducePow, Int.reduceEq, ne_eq, reduceIte, byteD, dstr, un1_str, iD, se, bneqS', pureEnd_of (fn := Tryd.f13) (rs := [.tmp 6]) (ts := [4]) rfl rfl, *])))
  all_goals clear l se
  all_goals (simp only [beq_self_eq_true, Bool.not_true, Bool.false_eq_true, decide_eq_true_eq, decide_eq_false_iff_not] at *)
  all_goals first | (exfalso; omega) | (rw [decide_eq_true (h6 (by omega) (by omega))])
theorem sh_stg {c : List D} (h : Sh (.st [(1, .int .i64), (1, .int .i64)]) c) : ∃ a b : Int, c = [iD a, iD b] := by
  obtain ⟨x, y, rfl, h1, h2⟩ := sh_cons (sh_st h)
  obtain ⟨z, u, rfl, h3, h4⟩ := sh_cons h2
  obtain rfl := sh_nil h4
  obtain ⟨a, rfl, _⟩ := sh_i64 h1
  obtain ⟨b, rfl, _⟩ := sh_i64 h3
  exact ⟨a, b, rfl⟩
theorem sh_stgs {c : List D} (h : Sh (.sl 2 (.st [(1, .int .i64), (1, .int .i64)])) c) : ∃ l : List Stg, c = [.sl 2 (l.map stgD)] ∧ l.length ≤ 9223372036854775807 := by
  obtain ⟨l, hl, hw, _⟩ := sh_sl (f := stgD) (Q := fun _ => True) (fun c h => by obtain ⟨a, b, h⟩ := sh_stg h; exact ⟨⟨a, b⟩, h, trivial⟩) h
  exact ⟨l, hl, hw⟩
end Go.TW

import Derived.Test.YtmgfnlnomecbiaaDoorKK
set_option linter.all false
open Go.Proofs Go.Abs Go.Fa Go.BU Go.TX Go.TW
/- What Parse accepts is what Format writes. -/
namespace Go.CF
set_option maxHeartbeats 4000000
set_option maxRecDepth 10000
-- rules: byteD, dstr, un1_str, iD, bD

theorem pdec_inv {s : List UInt8} (h : (pdec s).2 = true) : dec (pdec s).1 = s := by
  unfold pdec at h ⊢
  split at h
  · rename_i hc
    rw [if_pos hc]
    exact hc.2.2
  · cases h
theorem parseS_inv {t : List UInt8} (h : (parseS t).2 = true) : fmtS (parseS t).1 = t := by
  rw [← parse_eq] at h ⊢
  unfold parse2 at h ⊢
  split at h
  · rename_i hc
    rw [if_pos hc]
    exact hc.2
  · cases h
theorem sets_inv : ∀ {L : Rows}, (setsF L).2.1 = true → L = (setsF L).1.map (fun s => [settingW, fmtS s]) ++ (setsF L).2.2
  | [], _ => rfl
  | row :: rest, h => by
    by_cases hc : row.length = 2 ∧ row.getD 0 [] = settingW
    · rw [setsF, if_pos hc] at h ⊢
      simp only [Bool.and_eq_true] at h ⊢
      have ih := sets_inv h.2
      match row, hc with
      | [w, x], hc =>
        have hw : w = settingW := hc.2
        subst hw
        have hx := parseS_inv (t := x) h.1
        simp only [List.getD_cons_succ, List.getD_cons_zero, List.map_cons, List.cons_append, hx]
        rw [← ih]
    · rw [setsF, if_neg hc]; rfl
theorem row_of {row : List (List UInt8)} {w : List UInt8} {k : Nat} {l : List Int} (h : numR row w k = some l) : row = w :: l.map dec ∧ l.length = k := by
  obtain ⟨h1, h2, h3, rfl⟩ := numR_some h
  match row, h1 with
  | w0 :: r, h1 =>
    have hw : w0 = w := h2
    subst hw
    simp only [List.drop_succ_cons, List.drop_zero] at h3 ⊢
    refine ⟨?_, by simpa using h1⟩
    rw [List.map_map]
    have : r.map (dec ∘ fun s => (pdec s).1) = r.map id := List.map_congr_left fun s hs => pdec_inv (List.all_eq_true.1 h3 s hs)
    rw [this, List.map_id]
theorem tail_of {S : List Stg} {R : Rows} (hl : R.length = 10) (hv : ∀ i, i < 10 → (rowV R i).isSome = true) : tailR (mkR S R) = R := by
  obtain ⟨r1, r2, r3, r4, r5, r6, r7, r8, r9, r10, hR⟩ := list10 hl
  subst hR
  obtain ⟨l0, v0, d0, q0⟩ := rowV_some (hv 0 (by decide))
  have d0 : numR r1 unitsW 2 = some l0 := d0
  obtain ⟨e0, h0⟩ := row_of d0
  obtain ⟨a0, b0, g0⟩ : ∃ a0 b0, l0 = [a0, b0] := by
    match l0, h0 with
    | [a0', b0'], _ => exact ⟨a0', b0', rfl⟩
  subst g0
  obtain ⟨l1, v1, d1, q1⟩ := rowV_some (hv 1 (by decide))
  have d1 : numR r2 retriesW 1 = some l1 := d1
  obtain ⟨e1, h1⟩ := row_of d1
  obtain ⟨a1, g1⟩ : ∃ a1, l1 = [a1] := by
    match l1, h1 with
    | [a1'], _ => exact ⟨a1', rfl⟩
  subst g1
  obtain ⟨l2, v2, d2, q2⟩ := rowV_some (hv 2 (by decide))
  have d2 : numR r3 timeoutW 1 = some l2 := d2
  obtain ⟨e2, h2⟩ := row_of d2
  obtain ⟨a2, g2⟩ : ∃ a2, l2 = [a2] := by
    match l2, h2 with
    | [a2'], _ => exact ⟨a2', rfl⟩
  subst g2
  obtain ⟨l3, v3, d3, q3⟩ := rowV_some (hv 3 (by decide))
  have d3 : numR r4 delayW 1 = some l3 := d3
  obtain ⟨e3, h3⟩ := row_of d3
  obtain ⟨a3, g3⟩ : ∃ a3, l3 = [a3] := by
    match l3, h3 with
    | [a3'], _ => exact ⟨a3', rfl⟩
  subst g3
  obtain ⟨l4, v4, d4, q4⟩ := rowV_some (hv 4 (by decide))
  have d4 : numR r5 windowW 3 = some l4 := d4
  obtain ⟨e4, h4⟩ := row_of d4
  have q4 : l4.getD 0 0 = 1 := by
    have h3 : szsL.getD 4 0 = 3 := rfl
    have := Decidable.not_not.1 (fun hne => q4 ⟨h3, hne⟩)
    rw [this]; rfl
  obtain ⟨a4, b4, c4, g4⟩ : ∃ a4 b4 c4, l4 = [a4, b4, c4] := by
    match l4, h4 with
    | [a4', b4', c4'], _ => exact ⟨a4', b4', c4', rfl⟩
  subst g4
  have q4 : a4 = 1 := q4
  subst q4
  obtain ⟨l5, v5, d5, q5⟩ := rowV_some (hv 5 (by decide))
  have d5 : numR r6 windowW 3 = some l5 := d5
  obtain ⟨e5, h5⟩ := row_of d5
  have q5 : l5.getD 0 0 = 2 := by
    have h3 : szsL.getD 5 0 = 3 := rfl
    have := Decidable.not_not.1 (fun hne => q5 ⟨h3, hne⟩)
    rw [this]; rfl
  obtain ⟨a5, b5, c5, g5⟩ : ∃ a5 b5 c5, l5 = [a5, b5, c5] := by
    match l5, h5 with
    | [a5', b5', c5'], _ => exact ⟨a5', b5', c5', rfl⟩
  subst g5
  have q5 : a5 = 2 := q5
  subst q5
  obtain ⟨l6, v6, d6, q6⟩ := rowV_some (hv 6 (by decide))
  have d6 : numR r7 windowW 3 = some l6 := d6
  obtain ⟨e6, h6⟩ := row_of d6
  have q6 : l6.getD 0 0 = 3 := by
    have h3 : szsL.getD 6 0 = 3 := rfl
    have := Decidable.not_not.1 (fun hne => q6 ⟨h3, hne⟩)
    rw [this]; rfl
  obtain ⟨a6, b6, c6, g6⟩ : ∃ a6 b6 c6, l6 = [a6, b6, c6] := by
    match l6, h6 with
    | [a6', b6', c6'], _ => exact ⟨a6', b6', c6', rfl⟩
  subst g6
  have q6 : a6 = 3 := q6
  subst q6
  obtain ⟨l7, v7, d7, q7⟩ := rowV_some (hv 7 (by decide))
  have d7 : numR r8 windowW 3 = some l7 := d7
  obtain ⟨e7, h7⟩ := row_of d7
  have q7 : l7.getD 0 0 = 4 := by
    have h3 : szsL.getD 7 0 = 3 := rfl
    have := Decidable.not_not.1 (fun hne => q7 ⟨h3, hne⟩)
    rw [this]; rfl
  obtain ⟨a7, b7, c7, g7⟩ : ∃ a7 b7 c7, l7 = [a7, b7, c7] := by
    match l7, h7 with
    | [a7', b7', c7'], _ => exact ⟨a7', b7', c7', rfl⟩
  subst g7
  have q7 : a7 = 4 := q7
  subst q7
  obtain ⟨l8, v8, d8, q8⟩ := rowV_some (hv 8 (by decide))
  have d8 : numR r9 everyW 1 = some l8 := d8
  obtain ⟨e8, h8⟩ := row_of d8
  obtain ⟨a8, g8⟩ : ∃ a8, l8 = [a8] := by
    match l8, h8 with
    | [a8'], _ => exact ⟨a8', rfl⟩
  subst g8
  obtain ⟨l9, v9, d9, q9⟩ := rowV_some (hv 9 (by decide))
  have d9 : numR r10 storeW 1 = some l9 := d9
  obtain ⟨e9, h9⟩ := row_of d9
  obtain ⟨a9, g9⟩ : ∃ a9, l9 = [a9] := by
    match l9, h9 with
    | [a9'], _ => exact ⟨a9', rfl⟩
  subst g9
  simp only [tailR, mkR, celV, v0, v1, v2, v3, v4, v5, v6, v7, v8, v9, Option.getD_some, List.getD_cons_zero, List.getD_cons_succ]
  rw [← e0, ← e1, ← e2, ← e3, ← e4, ← e5, ← e6, ← e7, ← e8, ← e9]
theorem wordsK_map {ls : List (List UInt8)} (h : wordsK ls = true) : (wordsL ls).map joinSp = ls := by
  rw [wordsL, List.map_map]
  have : ls.map (joinSp ∘ fun l => (wordsF l).getD []) = ls.map id := List.map_congr_left fun l hl => by
    have := List.all_eq_true.1 h l hl
    obtain ⟨ws, hw⟩ := Option.isSome_iff_exists.1 this
    simp only [Function.comp, hw, Option.getD_some, id]
    exact words_join hw
  rw [this, List.map_id]
theorem par_inv (b : List UInt8) (hb : b.length ≤ 300000) : (∃ c, parC b = (c, 0) ∧ chkF c = 0 ∧ cfgTxt c = b) ∨ (∃ e, parC b = (cfg0, e) ∧ e ≠ 0) := by
  rw [parC_eq]
  by_cases hf : fineR (wordsL ((linesF b).getD [])) (!((linesF b).isSome && wordsK ((linesF b).getD [])))
  · have hp := par_fine hf
    obtain ⟨h1, h2, h3, h4⟩ := hf
    by_cases hc : chkF (mkR (setsF (wordsL ((linesF b).getD []))).1 (setsF (wordsL ((linesF b).getD []))).2.2) = 0
    · rw [if_pos hc] at hp
      refine .inl ⟨_, hp, hc, ?_⟩
      simp only [Bool.not_eq_false', Bool.and_eq_true] at h1
      obtain ⟨ls, hl⟩ := Option.isSome_iff_exists.1 h1.1
      rw [hl] at h1 h2 h3 h4 ⊢
      simp only [Option.getD_some] at h1 h2 h3 h4 ⊢
      rw [txt_rows, rowsC, tail_of h3 h4]
      have e : (mkR (setsF (wordsL ls)).1 (setsF (wordsL ls)).2.2).set = (setsF (wordsL ls)).1 := rfl
      rw [e, ← sets_inv h2, wordsK_map h1.2, ← lines_join hl]
    · rw [if_neg hc] at hp
      exact .inr ⟨_, hp, hc⟩
  · exact .inr ⟨1, par_bad hf, by decide⟩
theorem cfg0_chk : chkF cfg0 = 5 := by decide
theorem ModC (n m : Int) (hn : -9223372036854775808 ≤ n ∧ n ≤ 9223372036854775807) (hm : 0 < m ∧ m ≤ 1000000000) : PFn Tryd.prog 21 [iM n, iM m] (iM (n % m)) := by
  have hne : m ≠ 0 := by omega
  have h1 := Int.tmod_lt_of_pos n hm.1
  have h2 : -m < n.tmod m := Int.lt_tmod_of_pos n hm.1
  have e : (n.tmod m + m).tmod m = n % m := by
    rw [Int.tmod_eq_emod_of_nonneg (by omega), Int.add_emod_right]
    have h3 := Int.mul_tdiv_add_tmod n m
    conv => rhs; rw [← h3]
    rw [Int.mul_add_emod_self_left]
  (refine PFn.of (prs := []) Tryd.func21 rfl rfl mix (by kernel_rfl) rfl rfl ?_; simp only [Tryd.ntmps21, argUpd])
  (try (simp only [↓ru, rv, rl, ry, tyf, iM, bM, bsM, cond_true, cond_false, Nat.reduceLT, Nat.reduceBEq, Nat.reduceAdd, Nat.reduceEqDiff, Nat.reduceMul, Nat.reduceLeDiff, Nat.reduceSub, Nat.reduceDiv, Int.reduceLE, Int.reduceLT, Int.reduceNeg, Int.reduceAdd, Int.reduceSub, Int.reduceMul, Int.reduceToNat, Int.reducePow, Int.reduceEq, ne_eq, reduceIte, byteD, dstr, un1_str, iD, bD, hne, pureEnd_of (fn := Tryd.f21) (rs := [.tmp 4]) (ts := [3]) rfl rfl, *])); repeat' ((first | (refine fork_split (fun _h => ?_) (fun _h => ?_)) | (refine gfork_split (fun _h => ?_) (fun _h => ?_)) | (refine dfork_split (fun _h => ?_) (fun _h => ?_))) <;> (try (simp only [↓ru, rv, rl, ry, tyf, iM, bM, bsM, cond_true, cond_false, Nat.reduceLT, Nat.reduceBEq, Nat.reduceAdd, Nat.reduceEqDiff, Nat.reduceMul, Nat.reduceLeDiff, Nat.reduceSub, Nat.reduceDiv, Int.reduceLE, Int.reduceLT, Int.reduceNeg, Int.reduceAdd, Int.reduceSub, Int.reduceMul, Int.reduceToNat, Int.reducePow, Int.reduceEq, ne_eq, reduceIte, byteD, dstr, un1_str, iD, bD, hne, pureEnd_of (fn := Tryd.f21) (rs := [.tmp 4]) (ts := [3]) rfl rfl, *])))
  refine congrArg (fun z => M.d (D.v (Value.int .i64 z))) ?_
  rw [wrap_i64 (by omega) (by omega)]
  exact e
theorem parse_end (T : List UInt8) (hT : T.length ≤ 300000) : ∃ (x : Cfg) (e : Int) (w : List UInt8) (g : Int), PFn Tryd.prog 40 [bsM T] (.tup [cfgM x, iM e]) ∧ PFn Tryd.prog 42 [bsM T] (.tup [cfgM x, iM e]) ∧ PFn Tryd.prog 41 [cfgM x, cfgM x] (bM true) ∧
    PFn Tryd.prog 39 [cfgM x] (.tup [bsM w, iM g]) ∧ (e = 0 → w = T) := by
  have h1 := Parse T hT
  have h2 := ParseR T hT
  rcases par_inv T hT with ⟨c, hc, hk, ht⟩ | ⟨e, he, hne⟩
  · rw [hc] at h1 h2
    have hl := (okB hk).1
    have hS := SameC c c (by omega) (by omega)
    rw [decide_eq_true rfl] at hS
    exact ⟨c, 0, _, _, h1, h2, hS, FormatR c hk, fun _ => ht⟩
  · rw [he] at h1 h2
    have hS := SameC cfg0 cfg0 (by decide) (by decide)
    rw [decide_eq_true rfl] at hS
    exact ⟨cfg0, e, _, _, h1, h2, hS, FormatNoR cfg0 (by decide) (by rw [cfg0_chk]; decide), fun h => absurd h hne⟩
theorem FormatRO (c : Cfg) (h : chkF c = 0) : OFn Tryd.prog 39 [cfgM c] 1 ((cfgTxt c).map byteD) (some [iM 0]) := by
  unfold OFn
  obtain ⟨⟨s1, s2⟩, hr, a0, a1, a2, a3⟩ := okB h
  have hC := CheckR c (by omega)
  rw [h] at hC
  have hS := SettingLines c.set (by omega)
  have hSl := setT_len c.set
  have hW := WindowLines c.w0 c.w1 c.w2 c.w3 a0 a1 a2 a3
  have hWl : (winsT c.w0 c.w1 c.w2 c.w3).length ≤ 160 := by
    have n1 := numT_len windowW [1, c.w0.f, c.w0.c]
    have n2 := numT_len windowW [2, c.w1.f, c.w1.c]
    have n3 := numT_len windowW [3, c.w2.f, c.w2.c]
    have n4 := numT_len windowW [4, c.w3.f, c.w3.c]
    simp only [windowW, List.length_cons, List.length_nil] at n1 n2 n3 n4
    simp only [winsT, winT, List.length_append, windowW]
    omega
  unfold rngP at hr
  unfold cfgTxt
  generalize setT c.set = S at *
  generalize winsT c.w0 c.w1 c.w2 c.w3 = W at *
  clear h a0 a1 a2 a3
  obtain ⟨set, first, last, ret, tmo, del, w0, w1, w2, w3, every, store⟩ := c
  simp only at hr s1 s2 hSl
  have d1 := DecimalR first (by omega)
  have d2 := DecimalR last (by omega)
  have d3 := DecimalR ret (by omega)
  have d4 := DecimalR tmo (by omega)
  have d5 := DecimalR del (by omega)
  have d6 := DecimalR every (by omega)
  have d7 := DecimalR store (by omega)
  have l1 := LineN unitsW [first, last] (by decide) (by simp)
  have n1 := numT_len unitsW [first, last]
  generalize numT unitsW [first, last] = X1 at *
  simp only [unitsW, List.length_cons, List.length_nil] at n1
  have l2 := LineN retriesW [ret] (by decide) (by simp)
  have n2 := numT_len retriesW [ret]
  generalize numT retriesW [ret] = X2 at *
  simp only [retriesW, List.length_cons, List.length_nil] at n2
  have l3 := LineN timeoutW [tmo] (by decide) (by simp)
  have n3 := numT_len timeoutW [tmo]
  generalize numT timeoutW [tmo] = X3 at *
  simp only [timeoutW, List.length_cons, List.length_nil] at n3
  have l4 := LineN delayW [del] (by decide) (by simp)
  have n4 := numT_len delayW [del]
  generalize numT delayW [del] = X4 at *
  simp only [delayW, List.length_cons, List.length_nil] at n4
  have l5 := LineN everyW [every] (by decide) (by simp)
  have n5 := numT_len everyW [every]
  generalize numT everyW [every] = X5 at *
  simp only [everyW, List.length_cons, List.length_nil] at n5
  have l6 := LineN storeW [store] (by decide) (by simp)
  have n6 := numT_len storeW [store]
  generalize numT storeW [store] = X6 at *
  simp only [storeW, List.length_cons, List.length_nil] at n6
  (refine AFn.intro (prs := [(5, [(3, 4), (3, 5)]), (6, [(3, 6), (4, 6), (5, 6), (3, 7), (4, 7), (5, 7), (3, 12), (4, 12), (5, 12), (8, 12), (9, 12), (10, 12), (3, 13), (4, 13), (5, 13), (8, 13), (9, 13), (10, 13), (11, 14), (11, 15), (11, 16)]), (8, [(3, 6), (4, 6), (5, 6), (3, 7), (4, 7), (5, 7)])]) Tryd.func39 rfl rfl mix (by kernel_rfl) rfl (fun hB => ?_); simp only [Tryd.ntmps39, argUpd])
  (try (simp only [↓ru, rv, rl, ry, tyf, iM, bM, bsM, cond_true, cond_false, Nat.reduceLT, Nat.reduceBEq, Nat.reduceAdd, Nat.reduceEqDiff, Nat.reduceMul, Nat.reduceLeDiff, Nat.reduceSub, Nat.reduceDiv, Int.reduceLE, Int.reduceLT, Int.reduceNeg, Int.reduceAdd, Int.reduceSub, Int.reduceMul, Int.reduceToNat, Int.reducePow, Int.reduceEq, ne_eq, reduceIte, byteD, dstr, un1_str, iD, bD, *])); repeat' ((first | (refine fork_split (fun _h => ?_) (fun _h => ?_)) | (refine gfork_split (fun _h => ?_) (fun _h => ?_)) | (refine dfork_split (fun _h => ?_) (fun _h => ?_)) | (refine acall1_pure hC rfl rfl ?_) | (refine dcall1_pure hC rfl rfl ?_) | (refine acall1_pure hS rfl rfl ?_) | (refine dcall1_pure hS rfl rfl ?_) | (refine acall1_pure d1 rfl rfl ?_) | (refine dcall1_pure d1 rfl rfl ?_) | (refine acall1_pure d2 rfl rfl ?_) | (refine dcall1_pure d2 rfl rfl ?_) | (refine acall1_pure l1 rfl rfl ?_) | (refine dcall1_pure l1 rfl rfl ?_)) <;> (try (simp only [↓ru, rv, rl, ry, tyf, iM, bM, bsM, cond_true, cond_false, Nat.reduceLT, Nat.reduceBEq, Nat.reduceAdd, Nat.reduceEqDiff, Nat.reduceMul, Nat.reduceLeDiff, Nat.reduceSub, Nat.reduceDiv, Int.reduceLE, Int.reduceLT, Int.reduceNeg, Int.reduceAdd, Int.reduceSub, Int.reduceMul, Int.reduceToNat, Int.reducePow, Int.reduceEq, ne_eq, reduceIte, byteD, dstr, un1_str, iD, bD, *])))
  simp (disch := (first | omega | (simp only [List.length_append, List.length_cons, List.length_nil, List.length_map, List.length_take, List.length_replicate, List.length_drop] <;> omega))) only [bin_str_add, kk_eq, wrap_i64, wrap_u8, wrap_u16, wrap_u64]
  (try simp only [↓ru, rv, rl, ry, tyf, iM, bM, bsM, cond_true, cond_false, Nat.reduceLT, Nat.reduceBEq, Nat.reduceAdd, Nat.reduceEqDiff, Nat.reduceMul, Nat.reduceLeDiff, Nat.reduceSub, Nat.reduceDiv, Int.reduceLE, Int.reduceLT, Int.reduceNeg, Int.reduceAdd, Int.reduceSub, Int.reduceMul, Int.reduceToNat, Int.reducePow, Int.reduceEq, ne_eq, reduceIte, byteD, dstr, un1_str, iD, bD])
  (try (simp only [↓ru, rv, rl, ry, tyf, iM, bM, bsM, cond_true, cond_false, Nat.reduceLT, Nat.reduceBEq, Nat.reduceAdd, Nat.reduceEqDiff, Nat.reduceMul, Nat.reduceLeDiff, Nat.reduceSub, Nat.reduceDiv, Int.reduceLE, Int.reduceLT, Int.reduceNeg, Int.reduceAdd, Int.reduceSub, Int.reduceMul, Int.reduceToNat, Int.reducePow, Int.reduceEq, ne_eq, reduceIte, byteD, dstr, un1_str, iD, bD, *])); repeat' ((first | (refine fork_split (fun _h => ?_) (fun _h => ?_)) | (refine gfork_split (fun _h => ?_) (fun _h => ?_)) | (refine dfork_split (fun _h => ?_) (fun _h => ?_)) | (refine acall1_pure d3 rfl rfl ?_) | (refine dcall1_pure d3 rfl rfl ?_) | (refine acall1_pure d4 rfl rfl ?_) | (refine dcall1_pure d4 rfl rfl ?_) | (refine acall1_pure d5 rfl rfl ?_) | (refine dcall1_pure d5 rfl rfl ?_) | (refine acall1_pure l2 rfl rfl ?_) | (refine dcall1_pure l2 rfl rfl ?_) | (refine acall1_pure l3 rfl rfl ?_) | (refine dcall1_pure l3 rfl rfl ?_) | (refine acall1_pure l4 rfl rfl ?_) | (refine dcall1_pure l4 rfl rfl ?_)) <;> (try (simp only [↓ru, rv, rl, ry, tyf, iM, bM, bsM, cond_true, cond_false, Nat.reduceLT, Nat.reduceBEq, Nat.reduceAdd, Nat.reduceEqDiff, Nat.reduceMul, Nat.reduceLeDiff, Nat.reduceSub, Nat.reduceDiv, Int.reduceLE, Int.reduceLT, Int.reduceNeg, Int.reduceAdd, Int.reduceSub, Int.reduceMul, Int.reduceToNat, Int.reducePow, Int.reduceEq, ne_eq, reduceIte, byteD, dstr, un1_str, iD, bD, *])))
  simp (disch := (first | omega | (simp only [List.length_append, List.length_cons, List.length_nil, List.length_map, List.length_take, List.length_replicate, List.length_drop] <;> omega))) only [bin_str_add, kk_eq, wrap_i64, wrap_u8, wrap_u16, wrap_u64]
  (try simp only [↓ru, rv, rl, ry, tyf, iM, bM, bsM, cond_true, cond_false, Nat.reduceLT, Nat.reduceBEq, Nat.reduceAdd, Nat.reduceEqDiff, Nat.reduceMul, Nat.reduceLeDiff, Nat.reduceSub, Nat.reduceDiv, Int.reduceLE, Int.reduceLT, Int.reduceNeg, Int.reduceAdd, Int.reduceSub, Int.reduceMul, Int.reduceToNat, Int.reducePow, Int.reduceEq, ne_eq, reduceIte, byteD, dstr, un1_str, iD, bD])
  (try simp (disch := (first | omega | (simp only [List.length_append, List.length_cons, List.length_nil, List.length_map, List.length_take, List.length_replicate, List.length_drop] <;> omega))) only [bin_str_add, kk_eq, wrap_i64, wrap_u8, wrap_u16, wrap_u64])
  (try simp only [↓ru, rv, rl, ry, tyf, iM, bM, bsM, cond_true, cond_false, Nat.reduceLT, Nat.reduceBEq, Nat.reduceAdd, Nat.reduceEqDiff, Nat.reduceMul, Nat.reduceLeDiff, Nat.reduceSub, Nat.reduceDiv, Int.reduceLE, Int.reduceLT, Int.reduceNeg, Int.reduceAdd, Int.reduceSub, Int.reduceMul, Int.reduceToNat, Int.reducePow, Int.reduceEq, ne_eq, reduceIte, byteD, dstr, un1_str, iD, bD])
  (try (simp only [↓ru, rv, rl, ry, tyf, iM, bM, bsM, cond_true, cond_false, Nat.reduceLT, Nat.reduceBEq, Nat.reduceAdd, Nat.reduceEqDiff, Nat.reduceMul, Nat.reduceLeDiff, Nat.reduceSub, Nat.reduceDiv, Int.reduceLE, Int.reduceLT, Int.reduceNeg, Int.reduceAdd, Int.reduceSub, Int.reduceMul, Int.reduceToNat, Int.reducePow, Int.reduceEq, ne_eq, reduceIte, byteD, dstr, un1_str, iD, bD, *])); repeat' ((first | (refine fork_split (fun _h => ?_) (fun _h => ?_)) | (refine gfork_split (fun _h => ?_) (fun _h => ?_)) | (refine dfork_split (fun _h => ?_) (fun _h => ?_)) | (refine acall1_pure d3 rfl rfl ?_) | (refine dcall1_pure d3 rfl rfl ?_) | (refine acall1_pure d4 rfl rfl ?_) | (refine dcall1_pure d4 rfl rfl ?_) | (refine acall1_pure d5 rfl rfl ?_) | (refine dcall1_pure d5 rfl rfl ?_) | (refine acall1_pure l2 rfl rfl ?_) | (refine dcall1_pure l2 rfl rfl ?_) | (refine acall1_pure l3 rfl rfl ?_) | (refine dcall1_pure l3 rfl rfl ?_) | (refine acall1_pure l4 rfl rfl ?_) | (refine dcall1_pure l4 rfl rfl ?_)) <;> (try (simp only [↓ru, rv, rl, ry, tyf, iM, bM, bsM, cond_true, cond_false, Nat.reduceLT, Nat.reduceBEq, Nat.reduceAdd, Nat.reduceEqDiff, Nat.reduceMul, Nat.reduceLeDiff, Nat.reduceSub, Nat.reduceDiv, Int.reduceLE, Int.reduceLT, Int.reduceNeg, Int.reduceAdd, Int.reduceSub, Int.reduceMul, Int.reduceToNat, Int.reducePow, Int.reduceEq, ne_eq, reduceIte, byteD, dstr, un1_str, iD, bD, *])))
  simp (disch := (first | omega | (simp only [List.length_append, List.length_cons, List.length_nil, List.length_map, List.length_take, List.length_replicate, List.length_drop] <;> omega))) only [bin_str_add, kk_eq, wrap_i64, wrap_u8, wrap_u16, wrap_u64]
  (try simp only [↓ru, rv, rl, ry, tyf, iM, bM, bsM, cond_true, cond_false, Nat.reduceLT, Nat.reduceBEq, Nat.reduceAdd, Nat.reduceEqDiff, Nat.reduceMul, Nat.reduceLeDiff, Nat.reduceSub, Nat.reduceDiv, Int.reduceLE, Int.reduceLT, Int.reduceNeg, Int.reduceAdd, Int.reduceSub, Int.reduceMul, Int.reduceToNat, Int.reducePow, Int.reduceEq, ne_eq, reduceIte, byteD, dstr, un1_str, iD, bD])
  (try simp (disch := (first | omega | (simp only [List.length_append, List.length_cons, List.length_nil, List.length_map, List.length_take, List.length_replicate, List.length_drop] <;> omega))) only [bin_str_add, kk_eq, wrap_i64, wrap_u8, wrap_u16, wrap_u64])
  (try simp only [↓ru, rv, rl, ry, tyf, iM, bM, bsM, cond_true, cond_false, Nat.reduceLT, Nat.reduceBEq, Nat.reduceAdd, Nat.reduceEqDiff, Nat.reduceMul, Nat.reduceLeDiff, Nat.reduceSub, Nat.reduceDiv, Int.reduceLE, Int.reduceLT, Int.reduceNeg, Int.reduceAdd, Int.reduceSub, Int.reduceMul, Int.reduceToNat, Int.reducePow, Int.reduceEq, ne_eq, reduceIte, byteD, dstr, un1_str, iD, bD])
  (try (simp only [↓ru, rv, rl, ry, tyf, iM, bM, bsM, cond_true, cond_false, Nat.reduceLT, Nat.reduceBEq, Nat.reduceAdd, Nat.reduceEqDiff, Nat.reduceMul, Nat.reduceLeDiff, Nat.reduceSub, Nat.reduceDiv, Int.reduceLE, Int.reduceLT, Int.reduceNeg, Int.reduceAdd, Int.reduceSub, Int.reduceMul, Int.reduceToNat, Int.reducePow, Int.reduceEq, ne_eq, reduceIte, byteD, dstr, un1_str, iD, bD, *])); repeat' ((first | (refine fork_split (fun _h => ?_) (fun _h => ?_)) | (refine gfork_split (fun _h => ?_) (fun _h => ?_)) | (refine dfork_split (fun _h => ?_) (fun _h => ?_)) | (refine acall1_pure hW rfl rfl ?_) | (refine dcall1_pure hW rfl rfl ?_)) <;> (try (simp only [↓ru, rv, rl, ry, tyf, iM, bM, bsM, cond_true, cond_false, Nat.reduceLT, Nat.reduceBEq, Nat.reduceAdd, Nat.reduceEqDiff, Nat.reduceMul, Nat.reduceLeDiff, Nat.reduceSub, Nat.reduceDiv, Int.reduceLE, Int.reduceLT, Int.reduceNeg, Int.reduceAdd, Int.reduceSub, Int.reduceMul, Int.reduceToNat, Int.reducePow, Int.reduceEq, ne_eq, reduceIte, byteD, dstr, un1_str, iD, bD, *])))
  simp (disch := (first | omega | (simp only [List.length_append, List.length_cons, List.length_nil, List.length_map, List.length_take, List.length_replicate, List.length_drop] <;> omega))) only [bin_str_add, kk_eq, wrap_i64, wrap_u8, wrap_u16, wrap_u64]
  (try simp only [↓ru, rv, rl, ry, tyf, iM, bM, bsM, cond_true, cond_false, Nat.reduceLT, Nat.reduceBEq, Nat.reduceAdd, Nat.reduceEqDiff, Nat.reduceMul, Nat.reduceLeDiff, Nat.reduceSub, Nat.reduceDiv, Int.reduceLE, Int.reduceLT, Int.reduceNeg, Int.reduceAdd, Int.reduceSub, Int.reduceMul, Int.reduceToNat, Int.reducePow, Int.reduceEq, ne_eq, reduceIte, byteD, dstr, un1_str, iD, bD])
  (try (simp only [↓ru, rv, rl, ry, tyf, iM, bM, bsM, cond_true, cond_false, Nat.reduceLT, Nat.reduceBEq, Nat.reduceAdd, Nat.reduceEqDiff, Nat.reduceMul, Nat.reduceLeDiff, Nat.reduceSub, Nat.reduceDiv, Int.reduceLE, Int.reduceLT, Int.reduceNeg, Int.reduceAdd, Int.reduceSub, Int.reduceMul, Int.reduceToNat, Int.reducePow, Int.reduceEq, ne_eq, reduceIte, byteD, dstr, un1_str, iD, bD, *])); repeat' ((first | (refine fork_split (fun _h => ?_) (fun _h => ?_)) | (refine gfork_split (fun _h => ?_) (fun _h => ?_)) | (refine dfork_split (fun _h => ?_) (fun _h => ?_)) | (refine acall1_pure d6 rfl rfl ?_) | (refine dcall1_pure d6 rfl rfl ?_) | (refine acall1_pure d7 rfl rfl ?_) | (refine dcall1_pure d7 rfl rfl ?_) | (refine acall1_pure l5 rfl rfl ?_) | (refine dcall1_pure l5 rfl rfl ?_) | (refine acall1_pure l6 rfl rfl ?_) | (refine dcall1_pure l6 rfl rfl ?_)) <;> (try (simp only [↓ru, rv, rl, ry, tyf, iM, bM, bsM, cond_true, cond_false, Nat.reduceLT, Nat.reduceBEq, Nat.reduceAdd, Nat.reduceEqDiff, Nat.reduceMul, Nat.reduceLeDiff, Nat.reduceSub, Nat.reduceDiv, Int.reduceLE, Int.reduceLT, Int.reduceNeg, Int.reduceAdd, Int.reduceSub, Int.reduceMul, Int.reduceToNat, Int.reducePow, Int.reduceEq, ne_eq, reduceIte, byteD, dstr, un1_str, iD, bD, *])))
  simp (disch := (first | omega | (simp only [List.length_append, List.length_cons, List.length_nil, List.length_map, List.length_take, List.length_replicate, List.length_drop] <;> omega))) only [bin_str_add, kk_eq, wrap_i64, wrap_u8, wrap_u16, wrap_u64]
  (try simp only [↓ru, rv, rl, ry, tyf, iM, bM, bsM, cond_true, cond_false, Nat.reduceLT, Nat.reduceBEq, Nat.reduceAdd, Nat.reduceEqDiff, Nat.reduceMul, Nat.reduceLeDiff, Nat.reduceSub, Nat.reduceDiv, Int.reduceLE, Int.reduceLT, Int.reduceNeg, Int.reduceAdd, Int.reduceSub, Int.reduceMul, Int.reduceToNat, Int.reducePow, Int.reduceEq, ne_eq, reduceIte, byteD, dstr, un1_str, iD, bD])
  (try simp (disch := (first | omega | (simp only [List.length_append, List.length_cons, List.length_nil, List.length_map, List.length_take, List.length_replicate, List.length_drop] <;> omega))) only [bin_str_add, kk_eq, wrap_i64, wrap_u8, wrap_u16, wrap_u64])
  (try simp only [↓ru, rv, rl, ry, tyf, iM, bM, bsM, cond_true, cond_false, Nat.reduceLT, Nat.reduceBEq, Nat.reduceAdd, Nat.reduceEqDiff, Nat.reduceMul, Nat.reduceLeDiff, Nat.reduceSub, Nat.reduceDiv, Int.reduceLE, Int.reduceLT, Int.reduceNeg, Int.reduceAdd, Int.reduceSub, Int.reduceMul, Int.reduceToNat, Int.reducePow, Int.reduceEq, ne_eq, reduceIte, byteD, dstr, un1_str, iD, bD])
  simp only [↓ru, rv, rl, ry, tyf, iM, bM, bsM, cond_true, cond_false, Nat.reduceLT, Nat.reduceBEq, Nat.reduceAdd, Nat.reduceEqDiff, Nat.reduceMul, Nat.reduceLeDiff, Nat.reduceSub, Nat.reduceDiv, Int.reduceLE, Int.reduceLT, Int.reduceNeg, Int.reduceAdd, Int.reduceSub, Int.reduceMul, Int.reduceToNat, Int.reducePow, Int.reduceEq, ne_eq, reduceIte, byteD, dstr, un1_str, iD, bD, aEnd_of (fn := Tryd.f39) (rs := [.tmp 2, .tmp 3]) rfl]
  exact aFin_ownT rfl rfl (by simp)
theorem cfg_ne (c : Cfg) : cfgTxt c ≠ [] := by
  intro h
  have := congrArg List.length h
  simp [cfgTxt, numT, unitsW] at this
theorem byte_set {L : List UInt8} {j : Nat} {b : UInt8} : (pure2 (L.map byteD)).set j [M.d (.v (.int .u8 b.toNat))] = pure2 ((L.set j b).map byteD) := set_byteR
theorem lConfigParse (l : List UInt8) (hl : l.length ≤ 9223372036854775807) (c : Cfg) (hc : c.set.length ≤ 9223372036854775807) (raw : Bool) (k : Int) (hk : -9223372036854775808 ≤ k ∧ k ≤ 9223372036854775807) (x : UInt8) :
    PFn Tryd.prog 11 [bsM l, cfgM c, bM raw, iM k, .d (.v (.int .u8 x.toNat))] (bM true) := by
  have hBy := Bytes l 300 hl (by decide) (x := 300) rfl
  cases raw with
  | true =>
    obtain ⟨q, e, w, g, hP, hQ, hS, hF, hw⟩ := parse_end (l.take 300) (by simp; omega)
    generalize l.take 300 = T at *
    obtain ⟨set, first, last, ret, tmo, del, w0, w1, w2, w3, every, store⟩ := c
    obtain ⟨set', first', last', ret', tmo', del', w0', w1', w2', w3', every', store'⟩ := q
    by_cases he : e = 0
    · subst he
      have := hw rfl
      subst this
      clear hw
      (refine PFn.of (prs := []) Tryd.func11 rfl rfl mix (by kernel_rfl) rfl rfl ?_; simp only [Tryd.ntmps11, argUpd])
      (try (simp only [↓ru, rv, rl, ry, tyf, iM, bM, bsM, cond_true, cond_false, Nat.reduceLT, Nat.reduceBEq, Nat.reduceAdd, Nat.reduceEqDiff, Nat.reduceMul, Nat.reduceLeDiff, Nat.reduceSub, Nat.reduceDiv, Int.reduceLE, Int.reduceLT, Int.reduceNeg, Int.reduceAdd, Int.reduceSub, Int.reduceMul, Int.reduceToNat, Int.reducePow, Int.reduceEq, ne_eq, reduceIte, byteD, dstr, un1_str, iD, bD, decide_true, pureEnd_of (fn := Tryd.f11) (rs := [.tmp 10]) (ts := [4]) rfl rfl, *])); repeat' ((first | (refine fork_split (fun _h => ?_) (fun _h => ?_)) | (refine gfork_split (fun _h => ?_) (fun _h => ?_)) | (refine dfork_split (fun _h => ?_) (fun _h => ?_)) | (refine acall1_pure hBy rfl rfl ?_) | (refine dcall1_pure hBy rfl rfl ?_) | (refine acall1_pure hP rfl rfl ?_) | (refine dcall1_pure hP rfl rfl ?_) | (refine acall1_pure hQ rfl rfl ?_) | (refine dcall1_pure hQ rfl rfl ?_) | (refine acall1_pure hS rfl rfl ?_) | (refine dcall1_pure hS rfl rfl ?_) | (refine acall1_pure hF rfl rfl ?_) | (refine dcall1_pure hF rfl rfl ?_) | (refine acall1_pure Awake17 rfl rfl ?_) | (refine dcall1_pure Awake17 rfl rfl ?_)) <;> (try (simp only [↓ru, rv, rl, ry, tyf, iM, bM, bsM, cond_true, cond_false, Nat.reduceLT, Nat.reduceBEq, Nat.reduceAdd, Nat.reduceEqDiff, Nat.reduceMul, Nat.reduceLeDiff, Nat.reduceSub, Nat.reduceDiv, Int.reduceLE, Int.reduceLT, Int.reduceNeg, Int.reduceAdd, Int.reduceSub, Int.reduceMul, Int.reduceToNat, Int.reducePow, Int.reduceEq, ne_eq, reduceIte, byteD, dstr, un1_str, iD, bD, decide_true, pureEnd_of (fn := Tryd.f11) (rs := [.tmp 10]) (ts := [4]) rfl rfl, *])))
    · have de : decide (e = 0) = false := decide_eq_false he
      clear hw
      (refine PFn.of (prs := []) Tryd.func11 rfl rfl mix (by kernel_rfl) rfl rfl ?_; simp only [Tryd.ntmps11, argUpd])
      (try (simp only [↓ru, rv, rl, ry, tyf, iM, bM, bsM, cond_true, cond_false, Nat.reduceLT, Nat.reduceBEq, Nat.reduceAdd, Nat.reduceEqDiff, Nat.reduceMul, Nat.reduceLeDiff, Nat.reduceSub, Nat.reduceDiv, Int.reduceLE, Int.reduceLT, Int.reduceNeg, Int.reduceAdd, Int.reduceSub, Int.reduceMul, Int.reduceToNat, Int.reducePow, Int.reduceEq, ne_eq, reduceIte, byteD, dstr, un1_str, iD, bD, de, decide_true, pureEnd_of (fn := Tryd.f11) (rs := [.tmp 10]) (ts := [4]) rfl rfl, *])); repeat' ((first | (refine fork_split (fun _h => ?_) (fun _h => ?_)) | (refine gfork_split (fun _h => ?_) (fun _h => ?_)) | (refine dfork_split (fun _h => ?_) (fun _h => ?_)) | (refine acall1_pure hBy rfl rfl ?_) | (refine dcall1_pure hBy rfl rfl ?_) | (refine acall1_pure hP rfl rfl ?_) | (refine dcall1_pure hP rfl rfl ?_) | (refine acall1_pure hQ rfl rfl ?_) | (refine dcall1_pure hQ rfl rfl ?_) | (refine acall1_pure hS rfl rfl ?_) | (refine dcall1_pure hS rfl rfl ?_) | (refine acall1_pure hF rfl rfl ?_) | (refine dcall1_pure hF rfl rfl ?_) | (refine acall1_pure Awake17 rfl rfl ?_) | (refine dcall1_pure Awake17 rfl rfl ?_)) <;> (try (simp only [↓ru, rv, rl, ry, tyf, iM, bM, bsM, cond_true, cond_false, Nat.reduceLT, Nat.reduceBEq, Nat.reduceAdd, Nat.reduceEqDiff, Nat.reduceMul, Nat.reduceLeDiff, Nat.reduceSub, Nat.reduceDiv, Int.reduceLE, Int.reduceLT, Int.reduceNeg, Int.reduceAdd, Int.reduceSub, Int.reduceMul, Int.reduceToNat, Int.reducePow, Int.reduceEq, ne_eq, reduceIte, byteD, dstr, un1_str, iD, bD, de, decide_true, pureEnd_of (fn := Tryd.f11) (rs := [.tmp 10]) (ts := [4]) rfl rfl, *])))
  | false =>
    have hSh := Short c
    by_cases h0 : chkF c = 0
    · have hF0 := FormatRO c h0
      have htl := cfgTxt_len h0
      have hne := cfg_ne c
      generalize cfgTxt c = T at *
      have hp : 0 < T.length := List.length_pos_iff.2 hne
      have hM := ModC k T.length hk ⟨by omega, by omega⟩
      have hr1 := Int.emod_nonneg k (b := (T.length : Int)) (by omega)
      have hr2 := Int.emod_lt_of_pos k (b := (T.length : Int)) (by omega)
      generalize k % (T.length : Int) = r at *
      obtain ⟨j, rfl⟩ : ∃ j : Nat, r = j := ⟨r.toNat, by omega⟩
      obtain ⟨y, hy⟩ := row_get (L := T) (j := j) (by omega)
      have hj : j < T.length := by omega
      have hsl : (T.set j x).length = T.length := by simp
      obtain ⟨q, e, w, g, hP, hQ, hS, hF, hw⟩ := parse_end (T.set j x) (by simp; omega)
      clear hne hr1 hr2 hp h0
      obtain ⟨set, first, last, ret, tmo, del, w0, w1, w2, w3, every, store⟩ := c
      obtain ⟨set', first', last', ret', tmo', del', w0', w1', w2', w3', every', store'⟩ := q
      by_cases he : e = 0
      · subst he
        have := hw rfl
        subst this
        clear hw
        (refine PFn.of (prs := []) Tryd.func11 rfl rfl mix (by kernel_rfl) rfl rfl ?_; simp only [Tryd.ntmps11, argUpd])
        (try (simp only [↓ru, rv, rl, ry, tyf, iM, bM, bsM, cond_true, cond_false, Nat.reduceLT, Nat.reduceBEq, Nat.reduceAdd, Nat.reduceEqDiff, Nat.reduceMul, Nat.reduceLeDiff, Nat.reduceSub, Nat.reduceDiv, Int.reduceLE, Int.reduceLT, Int.reduceNeg, Int.reduceAdd, Int.reduceSub, Int.reduceMul, Int.reduceToNat, Int.reducePow, Int.reduceEq, ne_eq, reduceIte, byteD, dstr, un1_str, iD, bD, decide_true, hy, byte_set, hsl, pureEnd_of (fn := Tryd.f11) (rs := [.tmp 10]) (ts := [4]) rfl rfl, *])); repeat' ((first | (refine fork_split (fun _h => ?_) (fun _h => ?_)) | (refine gfork_split (fun _h => ?_) (fun _h => ?_)) | (refine dfork_split (fun _h => ?_) (fun _h => ?_)) | (refine acall1_pure hBy rfl rfl ?_) | (refine dcall1_pure hBy rfl rfl ?_) | (refine acall1_pure hSh rfl rfl ?_) | (refine dcall1_pure hSh rfl rfl ?_) | (refine acall1_own hF0 rfl rfl ?_) | (refine dcall1_own hF0 rfl rfl ?_) | (refine acall1_pure hM rfl rfl ?_) | (refine dcall1_pure hM rfl rfl ?_) | (refine acall1_pure hP rfl rfl ?_) | (refine dcall1_pure hP rfl rfl ?_) | (refine acall1_pure hQ rfl rfl ?_) | (refine dcall1_pure hQ rfl rfl ?_) | (refine acall1_pure hS rfl rfl ?_) | (refine dcall1_pure hS rfl rfl ?_) | (refine acall1_pure hF rfl rfl ?_) | (refine dcall1_pure hF rfl rfl ?_) | (refine acall1_pure Awake17 rfl rfl ?_) | (refine dcall1_pure Awake17 rfl rfl ?_)) <;> (try (simp only [↓ru, rv, rl, ry, tyf, iM, bM, bsM, cond_true, cond_false, Nat.reduceLT, Nat.reduceBEq, Nat.reduceAdd, Nat.reduceEqDiff, Nat.reduceMul, Nat.reduceLeDiff, Nat.reduceSub, Nat.reduceDiv, Int.reduceLE, Int.reduceLT, Int.reduceNeg, Int.reduceAdd, Int.reduceSub, Int.reduceMul, Int.reduceToNat, Int.reducePow, Int.reduceEq, ne_eq, reduceIte, byteD, dstr, un1_str, iD, bD, decide_true, hy, byte_set, hsl, pureEnd_of (fn := Tryd.f11) (rs := [.tmp 10]) (ts := [4]) rfl rfl, *])))
        refine grd_intro (by omega) ?_
        (try simp only [↓ru, rv, rl, ry, tyf, iM, bM, bsM, cond_true, cond_false, Nat.reduceLT, Nat.reduceBEq, Nat.reduceAdd, Nat.reduceEqDiff, Nat.reduceMul, Nat.reduceLeDiff, Nat.reduceSub, Nat.reduceDiv, Int.reduceLE, Int.reduceLT, Int.reduceNeg, Int.reduceAdd, Int.reduceSub, Int.reduceMul, Int.reduceToNat, Int.reducePow, Int.reduceEq, ne_eq, reduceIte, byteD, dstr, un1_str, iD, bD, byte_set, hsl])
        (try (simp only [↓ru, rv, rl, ry, tyf, iM, bM, bsM, cond_true, cond_false, Nat.reduceLT, Nat.reduceBEq, Nat.reduceAdd, Nat.reduceEqDiff, Nat.reduceMul, Nat.reduceLeDiff, Nat.reduceSub, Nat.reduceDiv, Int.reduceLE, Int.reduceLT, Int.reduceNeg, Int.reduceAdd, Int.reduceSub, Int.reduceMul, Int.reduceToNat, Int.reducePow, Int.reduceEq, ne_eq, reduceIte, byteD, dstr, un1_str, iD, bD, decide_true, hy, byte_set, hsl, pureEnd_of (fn := Tryd.f11) (rs := [.tmp 10]) (ts := [4]) rfl rfl, *])); repeat' ((first | (refine fork_split (fun _h => ?_) (fun _h => ?_)) | (refine gfork_split (fun _h => ?_) (fun _h => ?_)) | (refine dfork_split (fun _h => ?_) (fun _h => ?_)) | (refine acall1_pure hBy rfl rfl ?_) | (refine dcall1_pure hBy rfl rfl ?_) | (refine acall1_pure hSh rfl rfl ?_) | (refine dcall1_pure hSh rfl rfl ?_) | (refine acall1_own hF0 rfl rfl ?_) | (refine dcall1_own hF0 rfl rfl ?_) | (refine acall1_pure hM rfl rfl ?_) | (refine dcall1_pure hM rfl rfl ?_) | (refine acall1_pure hP rfl rfl ?_) | (refine dcall1_pure hP rfl rfl ?_) | (refine acall1_pure hQ rfl rfl ?_) | (refine dcall1_pure hQ rfl rfl ?_) | (refine acall1_pure hS rfl rfl ?_) | (refine dcall1_pure hS rfl rfl ?_) | (refine acall1_pure hF rfl rfl ?_) | (refine dcall1_pure hF rfl rfl ?_) | (refine acall1_pure Awake17 rfl rfl ?_) | (refine dcall1_pure Awake17 rfl rfl ?_)) <;> (try (simp only [↓ru, rv, rl, ry, tyf, iM, bM, bsM, cond_true, cond_false, Nat.reduceLT, Nat.reduceBEq, Nat.reduceAdd, Nat.reduceEqDiff, Nat.reduceMul, Nat.reduceLeDiff, Nat.reduceSub, Nat.reduceDiv, Int.reduceLE, Int.reduceLT, Int.reduceNeg, Int.reduceAdd, Int.reduceSub, Int.reduceMul, Int.reduceToNat, Int.reducePow, Int.reduceEq, ne_eq, reduceIte, byteD, dstr, un1_str, iD, bD, decide_true, hy, byte_set, hsl, pureEnd_of (fn := Tryd.f11) (rs := [.tmp 10]) (ts := [4]) rfl rfl, *])))
      · have de : decide (e = 0) = false := decide_eq_false he
        clear hw
        (refine PFn.of (prs := []) Tryd.func11 rfl rfl mix (by kernel_rfl) rfl rfl ?_; simp only [Tryd.ntmps11, argUpd])
        (try (simp only [↓ru, rv, rl, ry, tyf, iM, bM, bsM, cond_true, cond_false, Nat.reduceLT, Nat.reduceBEq, Nat.reduceAdd, Nat.reduceEqDiff, Nat.reduceMul, Nat.reduceLeDiff, Nat.reduceSub, Nat.reduceDiv, Int.reduceLE, Int.reduceLT, Int.reduceNeg, Int.reduceAdd, Int.reduceSub, Int.reduceMul, Int.reduceToNat, Int.reducePow, Int.reduceEq, ne_eq, reduceIte, byteD, dstr, un1_str, iD, bD, de, decide_true, hy, byte_set, hsl, pureEnd_of (fn := Tryd.f11) (rs := [.tmp 10]) (ts := [4]) rfl rfl, *])); repeat' ((first | (refine fork_split (fun _h => ?_) (fun _h => ?_)) | (refine gfork_split (fun _h => ?_) (fun _h => ?_)) | (refine dfork_split (fun _h => ?_) (fun _h => ?_)) | (refine acall1_pure hBy rfl rfl ?_) | (refine dcall1_pure hBy rfl rfl ?_) | (refine acall1_pure hSh rfl rfl ?_) | (refine dcall1_pure hSh rfl rfl ?_) | (refine acall1_own hF0 rfl rfl ?_) | (refine dcall1_own hF0 rfl rfl ?_) | (refine acall1_pure hM rfl rfl ?_) | (refine dcall1_pure hM rfl rfl ?_) | (refine acall1_pure hP rfl rfl ?_) | (refine dcall1_pure hP rfl rfl ?_) | (refine acall1_pure hQ rfl rfl ?_) | (refine dcall1_pure hQ rfl rfl ?_) | (refine acall1_pure hS rfl rfl ?_) | (refine dcall1_pure hS rfl rfl ?_) | (refine acall1_pure hF rfl rfl ?_) | (refine dcall1_pure hF rfl rfl ?_) | (refine acall1_pure Awake17 rfl rfl ?_) | (refine dcall1_pure Awake17 rfl rfl ?_)) <;> (try (simp only [↓ru, rv, rl, ry, tyf, iM, bM, bsM, cond_true, cond_false, Nat.reduceLT, Nat.reduceBEq, Nat.reduceAdd, Nat.reduceEqDiff, Nat.reduceMul, Nat.reduceLeDiff, Nat.reduceSub, Nat.reduceDiv, Int.reduceLE, Int.reduceLT, Int.reduceNeg, Int.reduceAdd, Int.reduceSub, Int.reduceMul, Int.reduceToNat, Int.reducePow, Int.reduceEq, ne_eq, reduceIte, byteD, dstr, un1_str, iD, bD, de, decide_true, hy, byte_set, hsl, pureEnd_of (fn := Tryd.f11) (rs := [.tmp 10]) (ts := [4]) rfl rfl, *])))
        refine grd_intro (by omega) ?_
        (try simp only [↓ru, rv, rl, ry, tyf, iM, bM, bsM, cond_true, cond_false, Nat.reduceLT, Nat.reduceBEq, Nat.reduceAdd, Nat.reduceEqDiff, Nat.reduceMul, Nat.reduceLeDiff, Nat.reduceSub, Nat.reduceDiv, Int.reduceLE, Int.reduceLT, Int.reduceNeg, Int.reduceAdd, Int.reduceSub, Int.reduceMul, Int.reduceToNat, Int.reducePow, Int.reduceEq, ne_eq, reduceIte, byteD, dstr, un1_str, iD, bD, byte_set, hsl])
        (try (simp only [↓ru, rv, rl, ry, tyf, iM, bM, bsM, cond_true, cond_false, Nat.reduceLT, Nat.reduceBEq, Nat.reduceAdd, Nat.reduceEqDiff, Nat.reduceMul, Nat.reduceLeDiff, Nat.reduceSub, Nat.reduceDiv, Int.reduceLE, Int.reduceLT, Int.reduceNeg, Int.reduceAdd, Int.reduceSub, Int.reduceMul, Int.reduceToNat, Int.reducePow, Int.reduceEq, ne_eq, reduceIte, byteD, dstr, un1_str, iD, bD, de, decide_true, hy, byte_set, hsl, pureEnd_of (fn := Tryd.f11) (rs := [.tmp 10]) (ts := [4]) rfl rfl, *])); repeat' ((first | (refine fork_split (fun _h => ?_) (fun _h => ?_)) | (refine gfork_split (fun _h => ?_) (fun _h => ?_)) | (refine dfork_split (fun _h => ?_) (fun _h => ?_)) | (refine acall1_pure hBy rfl rfl ?_) | (refine dcall1_pure hBy rfl rfl ?_) | (refine acall1_pure hSh rfl rfl ?_) | (refine dcall1_pure hSh rfl rfl ?_) | (refine acall1_own hF0 rfl rfl ?_) | (refine dcall1_own hF0 rfl rfl ?_) | (refine acall1_pure hM rfl rfl ?_) | (refine dcall1_pure hM rfl rfl ?_) | (refine acall1_pure hP rfl rfl ?_) | (refine dcall1_pure hP rfl rfl ?_) | (refine acall1_pure hQ rfl rfl ?_) | (refine dcall1_pure hQ rfl rfl ?_) | (refine acall1_pure hS rfl rfl ?_) | (refine dcall1_pure hS rfl rfl ?_) | (refine acall1_pure hF rfl rfl ?_) | (refine dcall1_pure hF rfl rfl ?_) | (refine acall1_pure Awake17 rfl rfl ?_) | (refine dcall1_pure Awake17 rfl rfl ?_)) <;> (try (simp only [↓ru, rv, rl, ry, tyf, iM, bM, bsM, cond_true, cond_false, Nat.reduceLT, Nat.reduceBEq, Nat.reduceAdd, Nat.reduceEqDiff, Nat.reduceMul, Nat.reduceLeDiff, Nat.reduceSub, Nat.reduceDiv, Int.reduceLE, Int.reduceLT, Int.reduceNeg, Int.reduceAdd, Int.reduceSub, Int.reduceMul, Int.reduceToNat, Int.reducePow, Int.reduceEq, ne_eq, reduceIte, byteD, dstr, un1_str, iD, bD, de, decide_true, hy, byte_set, hsl, pureEnd_of (fn := Tryd.f11) (rs := [.tmp 10]) (ts := [4]) rfl rfl, *])))
    · have hF0 := FormatNoR c hc h0
      have d0 : decide (chkF c = 0) = false := decide_eq_false h0
      generalize chkF c = R at *
      obtain ⟨set, first, last, ret, tmo, del, w0, w1, w2, w3, every, store⟩ := c
      (refine PFn.of (prs := []) Tryd.func11 rfl rfl mix (by kernel_rfl) rfl rfl ?_; simp only [Tryd.ntmps11, argUpd])
      (try (simp only [↓ru, rv, rl, ry, tyf, iM, bM, bsM, cond_true, cond_false, Nat.reduceLT, Nat.reduceBEq, Nat.reduceAdd, Nat.reduceEqDiff, Nat.reduceMul, Nat.reduceLeDiff, Nat.reduceSub, Nat.reduceDiv, Int.reduceLE, Int.reduceLT, Int.reduceNeg, Int.reduceAdd, Int.reduceSub, Int.reduceMul, Int.reduceToNat, Int.reducePow, Int.reduceEq, ne_eq, reduceIte, byteD, dstr, un1_str, iD, bD, d0, pureEnd_of (fn := Tryd.f11) (rs := [.tmp 10]) (ts := [4]) rfl rfl, *])); repeat' ((first | (refine fork_split (fun _h => ?_) (fun _h => ?_)) | (refine gfork_split (fun _h => ?_) (fun _h => ?_)) | (refine dfork_split (fun _h => ?_) (fun _h => ?_)) | (refine acall1_pure hBy rfl rfl ?_) | (refine dcall1_pure hBy rfl rfl ?_) | (refine acall1_pure hSh rfl rfl ?_) | (refine dcall1_pure hSh rfl rfl ?_) | (refine acall1_pure hF0 rfl rfl ?_) | (refine dcall1_pure hF0 rfl rfl ?_) | (refine acall1_pure Awake17 rfl rfl ?_) | (refine dcall1_pure Awake17 rfl rfl ?_)) <;> (try (simp only [↓ru, rv, rl, ry, tyf, iM, bM, bsM, cond_true, cond_false, Nat.reduceLT, Nat.reduceBEq, Nat.reduceAdd, Nat.reduceEqDiff, Nat.reduceMul, Nat.reduceLeDiff, Nat.reduceSub, Nat.reduceDiv, Int.reduceLE, Int.reduceLT, Int.reduceNeg, Int.reduceAdd, Int.reduceSub, Int.reduceMul, Int.reduceToNat, Int.reducePow, Int.reduceEq, ne_eq, reduceIte, byteD, dstr, un1_str, iD, bD, d0, pureEnd_of (fn := Tryd.f11) (rs := [.tmp 10]) (ts := [4]) rfl rfl, *])))
end Go.CF

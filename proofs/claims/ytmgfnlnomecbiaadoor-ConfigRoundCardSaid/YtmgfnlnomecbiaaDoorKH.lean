import Derived.Test.YtmgfnlnomecbiaaDoorKG
set_option linter.all false
open Go.Proofs Go.Abs Go.Fa Go.BU Go.TX Go.TW
namespace Go.CF
set_option maxHeartbeats 4000000
set_option maxRecDepth 10000
-- rules: byteD, dstr, un1_str, iD, bD

theorem row_pl {c : Cfg} (h : chkF c = 0) : ∀ r ∈ rowsC c, r ≠ [] ∧ ∀ w ∈ r, plW w := by
  have hN := okN h
  have hV := list_valid (chk0 h).1
  have key : ∀ (w : List UInt8) (l : List Int), plW w → (∀ n ∈ l, 0 ≤ n ∧ n ≤ 999999999) → (w :: l.map dec) ≠ [] ∧ ∀ x ∈ w :: l.map dec, plW x := fun w l hw hl => ⟨by simp, fun x hx => by
    rcases List.mem_cons.1 hx with rfl | hx
    · exact hw
    · obtain ⟨n, hn, rfl⟩ := List.mem_map.1 hx
      exact plW_dec (hl n hn)⟩
  intro r hr
  rcases List.mem_append.1 hr with hr | hr
  · obtain ⟨s, hs, rfl⟩ := List.mem_map.1 hr
    refine ⟨by simp, fun w hw => ?_⟩
    have : w = settingW ∨ w = fmtS s := by simpa using hw
    rcases this with rfl | rfl
    · exact ⟨by decide, by decide⟩
    · exact plW_set (hV s hs)
  · simp only [tailR, List.mem_cons, List.not_mem_nil, or_false] at hr
    rcases hr with rfl | rfl | rfl | rfl | rfl | rfl | rfl | rfl | rfl | rfl
    all_goals
      refine key _ _ ⟨by decide, by decide⟩ fun n hn => ?_
      simp only [List.mem_cons, List.not_mem_nil, or_false] at hn
      first
      | (refine hN n ?_; simp only [List.mem_cons, List.not_mem_nil, or_false]; simp [hn]; done)
      | (refine hN n ?_; simp only [List.mem_cons, List.not_mem_nil, or_false]; rcases hn with hn | hn <;> simp [hn]; done)
      | (rcases hn with rfl | hn
         · exact ⟨by decide, by decide⟩
         · refine hN n ?_; simp only [List.mem_cons, List.not_mem_nil, or_false]; rcases hn with hn | hn <;> simp [hn])
theorem rows_read {L : Rows} (h : ∀ r ∈ L, r ≠ [] ∧ ∀ w ∈ r, plW w) : linesF (unlines (L.map joinSp)) = some (L.map joinSp) ∧ wordsL (L.map joinSp) = L ∧ wordsK (L.map joinSp) = true := by
  have hw : ∀ r ∈ L, wordsF (joinSp r) = some r := fun r hr => wordsF_of (h r hr).1 (h r hr).2
  refine ⟨lines_unlines _ fun w hw' => ?_, ?_, ?_⟩
  · obtain ⟨r, hr, rfl⟩ := List.mem_map.1 hw'
    exact join_pr r (h r hr).2
  · rw [wordsL, List.map_map]
    have : L.map ((fun l => (wordsF l).getD []) ∘ joinSp) = L.map id := List.map_congr_left fun r hr => by simp [hw r hr]
    rw [this, List.map_id]
  · rw [wordsK, List.all_eq_true]
    intro x hx
    obtain ⟨r, hr, rfl⟩ := List.mem_map.1 hx
    rw [hw r hr]; rfl
theorem val_ok {r : Rows} {b : Bool} {l : List Int} {i : Nat} {old n : Int} (hi : l[i]? = some n) (hn : 0 ≤ n ∧ n ≤ 999999999) : valF (r, b, some (l.map dec)) i old = n := by
  have : (l.map dec).getD i [] = dec n := by rw [List.getD_eq_getElem?_getD, List.getElem?_map, hi]; rfl
  simp only [valF, this, pdec_dec hn]
theorem par_rows {c : Cfg} (h : chkF c = 0) : parR (rowsC c) false = (c, 0) := by
  have hN := okN h
  have hV := list_valid (chk0 h).1
  obtain ⟨set, first, last, ret, tmo, del, w0, w1, w2, w3, every, store⟩ := c
  obtain ⟨a1, a2⟩ := w0
  obtain ⟨a3, a4⟩ := w1
  obtain ⟨a5, a6⟩ := w2
  obtain ⟨a7, a8⟩ := w3
  simp only at hN hV
  have m : ∀ n, n ∈ [first, last, ret, tmo, del, a1, a2, a3, a4, a5, a6, a7, a8, every, store] → 0 ≤ n ∧ n ≤ 999999999 := hN
  clear hN
  have hs := sets_ok set (tailR ⟨set, first, last, ret, tmo, del, ⟨a1, a2⟩, ⟨a3, a4⟩, ⟨a5, a6⟩, ⟨a7, a8⟩, every, store⟩) hV (by rw [tailR, setsF, if_neg (by simp)])
  have n1 : ∀ n ∈ [first, last], 0 ≤ n ∧ n ≤ 999999999 := fun n hn => m n (by simp only [List.mem_cons, List.not_mem_nil, or_false] at hn ⊢; rcases hn with hn | hn <;> simp [hn])
  have n2 : ∀ n ∈ [ret], 0 ≤ n ∧ n ≤ 999999999 := fun n hn => m n (by simp only [List.mem_cons, List.not_mem_nil, or_false] at hn ⊢; simp [hn])
  have n3 : ∀ n ∈ [tmo], 0 ≤ n ∧ n ≤ 999999999 := fun n hn => m n (by simp only [List.mem_cons, List.not_mem_nil, or_false] at hn ⊢; simp [hn])
  have n4 : ∀ n ∈ [del], 0 ≤ n ∧ n ≤ 999999999 := fun n hn => m n (by simp only [List.mem_cons, List.not_mem_nil, or_false] at hn ⊢; simp [hn])
  have n5 : ∀ n ∈ [every], 0 ≤ n ∧ n ≤ 999999999 := fun n hn => m n (by simp only [List.mem_cons, List.not_mem_nil, or_false] at hn ⊢; simp [hn])
  have n6 : ∀ n ∈ [store], 0 ≤ n ∧ n ≤ 999999999 := fun n hn => m n (by simp only [List.mem_cons, List.not_mem_nil, or_false] at hn ⊢; simp [hn])
  have k1 : ∀ n ∈ [1, a1, a2], 0 ≤ n ∧ n ≤ 999999999 := fun n hn => by
    rcases List.mem_cons.1 hn with rfl | hn
    · decide
    · exact m n (by simp only [List.mem_cons, List.not_mem_nil, or_false] at hn ⊢; rcases hn with hn | hn <;> simp [hn])
  have k2 : ∀ n ∈ [2, a3, a4], 0 ≤ n ∧ n ≤ 999999999 := fun n hn => by
    rcases List.mem_cons.1 hn with rfl | hn
    · decide
    · exact m n (by simp only [List.mem_cons, List.not_mem_nil, or_false] at hn ⊢; rcases hn with hn | hn <;> simp [hn])
  have k3 : ∀ n ∈ [3, a5, a6], 0 ≤ n ∧ n ≤ 999999999 := fun n hn => by
    rcases List.mem_cons.1 hn with rfl | hn
    · decide
    · exact m n (by simp only [List.mem_cons, List.not_mem_nil, or_false] at hn ⊢; rcases hn with hn | hn <;> simp [hn])
  have k4 : ∀ n ∈ [4, a7, a8], 0 ≤ n ∧ n ≤ 999999999 := fun n hn => by
    rcases List.mem_cons.1 hn with rfl | hn
    · decide
    · exact m n (by simp only [List.mem_cons, List.not_mem_nil, or_false] at hn ⊢; rcases hn with hn | hn <;> simp [hn])
  generalize hC : (⟨set, first, last, ret, tmo, del, ⟨a1, a2⟩, ⟨a3, a4⟩, ⟨a5, a6⟩, ⟨a7, a8⟩, every, store⟩ : Cfg) = C at hs h ⊢
  have hs' : setsF (rowsC C) = (set, true, tailR C) := by rw [rowsC, show C.set = set by rw [← hC]]; exact hs
  have ht : tailR C = (unitsW :: [first, last].map dec) :: (retriesW :: [ret].map dec) :: (timeoutW :: [tmo].map dec) :: (delayW :: [del].map dec) :: (windowW :: [1, a1, a2].map dec) :: (windowW :: [2, a3, a4].map dec) :: (windowW :: [3, a5, a6].map dec) :: (windowW :: [4, a7, a8].map dec) :: (everyW :: [every].map dec) :: [storeW :: [store].map dec] := by rw [← hC]; rfl
  obtain ⟨T10, hT10⟩ : ∃ T : Rows, T = [] := ⟨_, rfl⟩
  obtain ⟨T9, hT9⟩ : ∃ T : Rows, T = (storeW :: [store].map dec) :: T10 := ⟨_, rfl⟩
  obtain ⟨T8, hT8⟩ : ∃ T : Rows, T = (everyW :: [every].map dec) :: T9 := ⟨_, rfl⟩
  obtain ⟨T7, hT7⟩ : ∃ T : Rows, T = (windowW :: [4, a7, a8].map dec) :: T8 := ⟨_, rfl⟩
  obtain ⟨T6, hT6⟩ : ∃ T : Rows, T = (windowW :: [3, a5, a6].map dec) :: T7 := ⟨_, rfl⟩
  obtain ⟨T5, hT5⟩ : ∃ T : Rows, T = (windowW :: [2, a3, a4].map dec) :: T6 := ⟨_, rfl⟩
  obtain ⟨T4, hT4⟩ : ∃ T : Rows, T = (windowW :: [1, a1, a2].map dec) :: T5 := ⟨_, rfl⟩
  obtain ⟨T3, hT3⟩ : ∃ T : Rows, T = (delayW :: [del].map dec) :: T4 := ⟨_, rfl⟩
  obtain ⟨T2, hT2⟩ : ∃ T : Rows, T = (timeoutW :: [tmo].map dec) :: T3 := ⟨_, rfl⟩
  obtain ⟨T1, hT1⟩ : ∃ T : Rows, T = (retriesW :: [ret].map dec) :: T2 := ⟨_, rfl⟩
  have ht' : tailR C = (unitsW :: [first, last].map dec) :: T1 := by rw [ht, hT1, hT2, hT3, hT4, hT5, hT6, hT7, hT8, hT9, hT10]
  have x1 : parX1 (rowsC C) false = (T1, false, some ([first, last].map dec)) := by
    rw [parX1, hs', ht']; exact take_ok rfl n1
  have x2 : parX2 (rowsC C) false = (T2, false, some ([ret].map dec)) := by
    rw [parX2, x1, hT1]; exact take_ok rfl n2
  have x3 : parX3 (rowsC C) false = (T3, false, some ([tmo].map dec)) := by
    rw [parX3, x2, hT2]; exact take_ok rfl n3
  have x4 : parX4 (rowsC C) false = (T4, false, some ([del].map dec)) := by
    rw [parX4, x3, hT3]; exact take_ok rfl n4
  have w0 : wst T4 false 0 = ⟨T4, false, [0, 0, 0, 0, 0, 0, 0, 0]⟩ := rfl
  have w1 : wst T4 false 1 = ⟨T5, false, [a1, a2, 0, 0, 0, 0, 0, 0]⟩ := by
    have e : takeF T4 false windowW 3 = (T5, false, some ([1, a1, a2].map dec)) := by rw [hT4]; exact take_ok rfl k1
    rw [wst_succ, w0]
    simp only [e]
    rw [val_ok (l := [1, a1, a2]) (i := 0) (n := 1) rfl (by decide), val_ok (l := [1, a1, a2]) (i := 1) (n := a1) rfl (k1 a1 (by simp)), val_ok (l := [1, a1, a2]) (i := 2) (n := a2) rfl (k1 a2 (by simp))]
    simp
  have w2 : wst T4 false 2 = ⟨T6, false, [a1, a2, a3, a4, 0, 0, 0, 0]⟩ := by
    have e : takeF T5 false windowW 3 = (T6, false, some ([2, a3, a4].map dec)) := by rw [hT5]; exact take_ok rfl k2
    rw [wst_succ, w1]
    simp only [e]
    rw [val_ok (l := [2, a3, a4]) (i := 0) (n := 2) rfl (by decide), val_ok (l := [2, a3, a4]) (i := 1) (n := a3) rfl (k2 a3 (by simp)), val_ok (l := [2, a3, a4]) (i := 2) (n := a4) rfl (k2 a4 (by simp))]
    simp
  have w3 : wst T4 false 3 = ⟨T7, false, [a1, a2, a3, a4, a5, a6, 0, 0]⟩ := by
    have e : takeF T6 false windowW 3 = (T7, false, some ([3, a5, a6].map dec)) := by rw [hT6]; exact take_ok rfl k3
    rw [wst_succ, w2]
    simp only [e]
    rw [val_ok (l := [3, a5, a6]) (i := 0) (n := 3) rfl (by decide), val_ok (l := [3, a5, a6]) (i := 1) (n := a5) rfl (k3 a5 (by simp)), val_ok (l := [3, a5, a6]) (i := 2) (n := a6) rfl (k3 a6 (by simp))]
    simp
  have w4 : wst T4 false 4 = ⟨T8, false, [a1, a2, a3, a4, a5, a6, a7, a8]⟩ := by
    have e : takeF T7 false windowW 3 = (T8, false, some ([4, a7, a8].map dec)) := by rw [hT7]; exact take_ok rfl k4
    rw [wst_succ, w3]
    simp only [e]
    rw [val_ok (l := [4, a7, a8]) (i := 0) (n := 4) rfl (by decide), val_ok (l := [4, a7, a8]) (i := 1) (n := a7) rfl (k4 a7 (by simp)), val_ok (l := [4, a7, a8]) (i := 2) (n := a8) rfl (k4 a8 (by simp))]
    simp
  have x5' : parS (rowsC C) false = ⟨T8, false, [a1, a2, a3, a4, a5, a6, a7, a8]⟩ := by rw [parS, x4]; exact w4
  have x5 : parX5 (rowsC C) false = (T9, false, some ([every].map dec)) := by
    rw [parX5, x5', hT8]; exact take_ok rfl n5
  have x6 : parX6 (rowsC C) false = (T10, false, some ([store].map dec)) := by
    rw [parX6, x5, hT9]; exact take_ok rfl n6
  rw [parR, x1, x2, x3, x4, x5, x6, x5', hs']
  have e : mkC set (T1, false, some ([first, last].map dec)) (T2, false, some ([ret].map dec)) (T3, false, some ([tmo].map dec)) (T4, false, some ([del].map dec)) (T9, false, some ([every].map dec)) (T10, false, some ([store].map dec)) [a1, a2, a3, a4, a5, a6, a7, a8] = C := by
    rw [← hC, mkC]
    rw [val_ok (l := [first, last]) (i := 0) (n := first) rfl (n1 _ (by simp)), val_ok (l := [first, last]) (i := 1) (n := last) rfl (n1 _ (by simp)), val_ok (l := [ret]) (i := 0) (n := ret) rfl (n2 _ (by simp)), val_ok (l := [tmo]) (i := 0) (n := tmo) rfl (n3 _ (by simp)),
      val_ok (l := [del]) (i := 0) (n := del) rfl (n4 _ (by simp)), val_ok (l := [every]) (i := 0) (n := every) rfl (n5 _ (by simp)), val_ok (l := [store]) (i := 0) (n := store) rfl (n6 _ (by simp))]
    rfl
  rw [finC, if_neg (by rw [hT10]; simp), e, if_pos h]
theorem par_cfg {c : Cfg} (h : chkF c = 0) : parC (cfgTxt c) = (c, 0) := by
  obtain ⟨h1, h2, h3⟩ := rows_read (row_pl h)
  rw [parC, txt_rows, h1]
  simp only [Option.getD_some, Option.isSome_some, h2, h3]
  exact par_rows h
theorem cfgTxt_len {c : Cfg} (h : chkF c = 0) : (cfgTxt c).length ≤ 1000 := by
  obtain ⟨⟨s1, s2⟩, _⟩ := okB h
  have hSl := setT_len c.set
  have n0 := numT_len unitsW [c.first, c.last]
  have n1 := numT_len windowW [1, c.w0.f, c.w0.c]
  have n2 := numT_len windowW [2, c.w1.f, c.w1.c]
  have n3 := numT_len windowW [3, c.w2.f, c.w2.c]
  have n4 := numT_len windowW [4, c.w3.f, c.w3.c]
  have n5 := numT_len retriesW [c.ret]
  have n6 := numT_len timeoutW [c.tmo]
  have n7 := numT_len delayW [c.del]
  have n8 := numT_len everyW [c.every]
  have n9 := numT_len storeW [c.store]
  simp only [cfgTxt, winsT, winT, List.length_append]
  simp only [unitsW, windowW, retriesW, timeoutW, delayW, everyW, storeW, List.length_cons, List.length_nil] at *
  omega
theorem lConfigRound (c : Cfg) (hl : c.set.length ≤ 9223372036854775807) : PFn Tryd.prog 10 [cfgM c] (bM true) := by
  have hS := Short c
  by_cases h : chkF c = 0
  · have hF := Format c h
    have hG := FormatR c h
    have hP := Parse (cfgTxt c) (by have := cfgTxt_len h; omega)
    rw [par_cfg h] at hP
    have hE := SameC c c hl hl
    rw [decide_eq_true rfl] at hE
    generalize cfgTxt c = T at *
    clear h
    obtain ⟨set, first, last, ret, tmo, del, w0, w1, w2, w3, every, store⟩ := c
    (refine PFn.of (prs := []) Tryd.func10 rfl rfl mix (by kernel_rfl) rfl rfl ?_; simp only [Tryd.ntmps10, argUpd])
    (try (simp only [↓ru, rv, rl, ry, tyf, iM, bM, bsM, cond_true, cond_false, Nat.reduceLT, Nat.reduceBEq, Nat.reduceAdd, Nat.reduceEqDiff, Nat.reduceMul, Nat.reduceLeDiff, Nat.reduceSub, Nat.reduceDiv, Int.reduceLE, Int.reduceLT, Int.reduceNeg, Int.reduceAdd, Int.reduceSub, Int.reduceMul, Int.reduceToNat, Int.reducePow, Int.reduceEq, ne_eq, reduceIte, byteD, dstr, un1_str, iD, bD, decide_true, pureEnd_of (fn := Tryd.f10) (rs := [.tmp 2]) (ts := [4]) rfl rfl, *])); repeat' ((first | (refine fork_split (fun _h => ?_) (fun _h => ?_)) | (refine gfork_split (fun _h => ?_) (fun _h => ?_)) | (refine dfork_split (fun _h => ?_) (fun _h => ?_)) | (refine acall1_pure hS rfl rfl ?_) | (refine dcall1_pure hS rfl rfl ?_) | (refine acall1_pure Awake17 rfl rfl ?_) | (refine dcall1_pure Awake17 rfl rfl ?_) | (refine acall1_pure hF rfl rfl ?_) | (refine dcall1_pure hF rfl rfl ?_) | (refine acall1_pure hG rfl rfl ?_) | (refine dcall1_pure hG rfl rfl ?_) | (refine acall1_pure hP rfl rfl ?_) | (refine dcall1_pure hP rfl rfl ?_) | (refine acall1_pure hE rfl rfl ?_) | (refine dcall1_pure hE rfl rfl ?_)) <;> (try (simp only [↓ru, rv, rl, ry, tyf, iM, bM, bsM, cond_true, cond_false, Nat.reduceLT, Nat.reduceBEq, Nat.reduceAdd, Nat.reduceEqDiff, Nat.reduceMul, Nat.reduceLeDiff, Nat.reduceSub, Nat.reduceDiv, Int.reduceLE, Int.reduceLT, Int.reduceNeg, Int.reduceAdd, Int.reduceSub, Int.reduceMul, Int.reduceToNat, Int.reducePow, Int.reduceEq, ne_eq, reduceIte, byteD, dstr, un1_str, iD, bD, decide_true, pureEnd_of (fn := Tryd.f10) (rs := [.tmp 2]) (ts := [4]) rfl rfl, *])))
  · have hF := FormatNo c hl h
    have hG := FormatNoR c hl h
    have d0 : decide (chkF c = 0) = false := decide_eq_false h
    generalize chkF c = R at *
    clear h
    obtain ⟨set, first, last, ret, tmo, del, w0, w1, w2, w3, every, store⟩ := c
    (refine PFn.of (prs := []) Tryd.func10 rfl rfl mix (by kernel_rfl) rfl rfl ?_; simp only [Tryd.ntmps10, argUpd])
    (try (simp only [↓ru, rv, rl, ry, tyf, iM, bM, bsM, cond_true, cond_false, Nat.reduceLT, Nat.reduceBEq, Nat.reduceAdd, Nat.reduceEqDiff, Nat.reduceMul, Nat.reduceLeDiff, Nat.reduceSub, Nat.reduceDiv, Int.reduceLE, Int.reduceLT, Int.reduceNeg, Int.reduceAdd, Int.reduceSub, Int.reduceMul, Int.reduceToNat, Int.reducePow, Int.reduceEq, ne_eq, reduceIte, byteD, dstr, un1_str, iD, bD, d0, decide_true, List.length_nil, pureEnd_of (fn := Tryd.f10) (rs := [.tmp 2]) (ts := [4]) rfl rfl, *])); repeat' ((first | (refine fork_split (fun _h => ?_) (fun _h => ?_)) | (refine gfork_split (fun _h => ?_) (fun _h => ?_)) | (refine dfork_split (fun _h => ?_) (fun _h => ?_)) | (refine acall1_pure hS rfl rfl ?_) | (refine dcall1_pure hS rfl rfl ?_) | (refine acall1_pure Awake17 rfl rfl ?_) | (refine dcall1_pure Awake17 rfl rfl ?_) | (refine acall1_pure hF rfl rfl ?_) | (refine dcall1_pure hF rfl rfl ?_) | (refine acall1_pure hG rfl rfl ?_) | (refine dcall1_pure hG rfl rfl ?_)) <;> (try (simp only [↓ru, rv, rl, ry, tyf, iM, bM, bsM, cond_true, cond_false, Nat.reduceLT, Nat.reduceBEq, Nat.reduceAdd, Nat.reduceEqDiff, Nat.reduceMul, Nat.reduceLeDiff, Nat.reduceSub, Nat.reduceDiv, Int.reduceLE, Int.reduceLT, Int.reduceNeg, Int.reduceAdd, Int.reduceSub, Int.reduceMul, Int.reduceToNat, Int.reducePow, Int.reduceEq, ne_eq, reduceIte, byteD, dstr, un1_str, iD, bD, d0, decide_true, List.length_nil, pureEnd_of (fn := Tryd.f10) (rs := [.tmp 2]) (ts := [4]) rfl rfl, *])))
    all_goals (exfalso; simp at _h)
end Go.CF

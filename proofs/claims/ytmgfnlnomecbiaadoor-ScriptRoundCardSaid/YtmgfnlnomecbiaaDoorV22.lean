import Derived.Test.YtmgfnlnomecbiaaDoorV21
set_option linter.all false
open Go.Proofs Go.Abs Go.Fa Go.BU Go.TX Go.TW Go.RowKit
namespace Go.SC
set_option maxHeartbeats 4000000
set_option maxRecDepth 10000
-- rules: byteD, dstr, un1_str, iD, bD

theorem FormatNo (s : Scr) (hs : Sz s) (hk : scrOK s = false) : PFn Tryd.prog 31 [scrM s] (.tup [bsM [], iM 5]) := by
  have hV := Valid s hs
  rw [hk] at hV
  obtain ⟨l, lp, c⟩ := s
  clear hk hs
  (refine PFn.of (prs := [(7, [(0, 1), (0, 2), (0, 5), (1, 5), (2, 5), (3, 5), (4, 5)]), (8, [(2, 3), (2, 4), (2, 6), (5, 6), (2, 7), (5, 7)]), (22, [(2, 5), (2, 6), (3, 7), (4, 7), (10, 10)])]) Tryd.func31 rfl rfl mix (by kernel_rfl) rfl rfl ?_; simp only [Tryd.ntmps31, argUpd])
  (try (simp only [↓ru, rv, rl, ry, tyf, iM, bM, bsM, cond_true, cond_false, Nat.reduceLT, Nat.reduceBEq, Nat.reduceAdd, Nat.reduceEqDiff, Nat.reduceMul, Nat.reduceLeDiff, Nat.reduceSub, Nat.reduceDiv, Int.reduceLE, Int.reduceLT, Int.reduceNeg, Int.reduceAdd, Int.reduceSub, Int.reduceMul, Int.reduceToNat, Int.reducePow, Int.reduceEq, ne_eq, reduceIte, byteD, dstr, un1_str, iD, bD, pureEnd_of (fn := Tryd.f31) (rs := [.tmp 2, .tmp 3]) (ts := [33, 37]) rfl rfl, *])); repeat' ((first | (refine fork_split (fun _h => ?_) (fun _h => ?_)) | (refine gfork_split (fun _h => ?_) (fun _h => ?_)) | (refine dfork_split (fun _h => ?_) (fun _h => ?_)) | (refine acall1_pure hV rfl rfl ?_) | (refine dcall1_pure hV rfl rfl ?_)) <;> (try (simp only [↓ru, rv, rl, ry, tyf, iM, bM, bsM, cond_true, cond_false, Nat.reduceLT, Nat.reduceBEq, Nat.reduceAdd, Nat.reduceEqDiff, Nat.reduceMul, Nat.reduceLeDiff, Nat.reduceSub, Nat.reduceDiv, Int.reduceLE, Int.reduceLT, Int.reduceNeg, Int.reduceAdd, Int.reduceSub, Int.reduceMul, Int.reduceToNat, Int.reducePow, Int.reduceEq, ne_eq, reduceIte, byteD, dstr, un1_str, iD, bD, pureEnd_of (fn := Tryd.f31) (rs := [.tmp 2, .tmp 3]) (ts := [33, 37]) rfl rfl, *])))
theorem Format (s : Scr) (hk : scrOK s = true) : PFn Tryd.prog 31 [scrM s] (.tup [bsM (scrTxt s), iM 0]) := by
  obtain ⟨h1, h2⟩ := scrOK_len hk
  have hok := scrOK_b hk
  have hV := Valid s ⟨by omega, by omega⟩
  rw [hk] at hV
  obtain ⟨l, lp, c⟩ := s
  simp only at h1 h2
  obtain ⟨hA, hC⟩ := hok
  simp only at hA hC
  clear hk
  unfold scrTxt
  simp only
  (refine PFn.of (prs := [(7, [(0, 1), (0, 2), (0, 5), (1, 5), (2, 5), (3, 5), (4, 5)]), (8, [(2, 3), (2, 4), (2, 6), (5, 6), (2, 7), (5, 7)]), (22, [(2, 5), (2, 6), (3, 7), (4, 7), (10, 10)])]) Tryd.func31 rfl rfl mix (by kernel_rfl) rfl rfl ?_; simp only [Tryd.ntmps31, argUpd])
  (try (simp only [↓ru, rv, rl, ry, tyf, iM, bM, bsM, cond_true, cond_false, Nat.reduceLT, Nat.reduceBEq, Nat.reduceAdd, Nat.reduceEqDiff, Nat.reduceMul, Nat.reduceLeDiff, Nat.reduceSub, Nat.reduceDiv, Int.reduceLE, Int.reduceLT, Int.reduceNeg, Int.reduceAdd, Int.reduceSub, Int.reduceMul, Int.reduceToNat, Int.reducePow, Int.reduceEq, ne_eq, reduceIte, byteD, dstr, un1_str, iD, bD, *])); repeat' ((first | (refine fork_split (fun _h => ?_) (fun _h => ?_)) | (refine gfork_split (fun _h => ?_) (fun _h => ?_)) | (refine dfork_split (fun _h => ?_) (fun _h => ?_)) | (refine acall1_pure hV rfl rfl ?_) | (refine dcall1_pure hV rfl rfl ?_)) <;> (try (simp only [↓ru, rv, rl, ry, tyf, iM, bM, bsM, cond_true, cond_false, Nat.reduceLT, Nat.reduceBEq, Nat.reduceAdd, Nat.reduceEqDiff, Nat.reduceMul, Nat.reduceLeDiff, Nat.reduceSub, Nat.reduceDiv, Int.reduceLE, Int.reduceLT, Int.reduceNeg, Int.reduceAdd, Int.reduceSub, Int.reduceMul, Int.reduceToNat, Int.reducePow, Int.reduceEq, ne_eq, reduceIte, byteD, dstr, un1_str, iD, bD, *])))
  refine aloop_thawB (p := 6) (j := 1) 1 5 rfl rfl ?_
  simp only [↓ru, rv, rl, ry, tyf, iM, bM, bsM, cond_true, cond_false, Nat.reduceLT, Nat.reduceBEq, Nat.reduceAdd, Nat.reduceEqDiff, Nat.reduceMul, Nat.reduceLeDiff, Nat.reduceSub, Nat.reduceDiv, Int.reduceLE, Int.reduceLT, Int.reduceNeg, Int.reduceAdd, Int.reduceSub, Int.reduceMul, Int.reduceToNat, Int.reducePow, Int.reduceEq, ne_eq, reduceIte, byteD, dstr, un1_str, iD, bD]
  refine aloop_lv (fun p : Nat × M => [(1, .ptr 0 0), (4, .ptr 6 0), (15, attsM l), (16, iM l.length), (17, iM p.1)])
    (fun p => [(11, .ar false 1 (pure2 ((((l.take p.1).map fun a => lineT (attWs a)).flatten).map byteD)) 5), (6, .st [p.2, .hsl 11 (((l.take p.1).map fun a => lineT (attWs a)).flatten).length] 76), (0, .st [attsM l, bM lp, crsM c])])
    (fun p => p.1 ≤ l.length ∧ (p.2 = nilP ∨ p.2 = .ptr 6 0)) (fun p => l.length - p.1) 12 (0, nilP) ?_ ?_ ⟨by omega, .inl rfl⟩ (by omega) ?_
  · simp only [↓ru, rv, rl, ry, tyf, iM, bM, bsM, cond_true, cond_false, Nat.reduceLT, Nat.reduceBEq, Nat.reduceAdd, Nat.reduceEqDiff, Nat.reduceMul, Nat.reduceLeDiff, Nat.reduceSub, Nat.reduceDiv, Int.reduceLE, Int.reduceLT, Int.reduceNeg, Int.reduceAdd, Int.reduceSub, Int.reduceMul, Int.reduceToNat, Int.reducePow, Int.reduceEq, ne_eq, reduceIte, byteD, dstr, un1_str, iD, bD]
  · rfl
  rintro ⟨i, am⟩ e0 n ⟨hi, ham⟩
  simp only at hi ham
  have hln := attL_len (l.take i)
  have hlt : (l.take i).length ≤ 4096 := by simp; omega
  have hnx : Shut (∀ y, l[i]? = some y → ((l.take (i + 1)).map fun a => lineT (attWs a)).flatten = ((l.take i).map fun a => lineT (attWs a)).flatten ++ lineT (attWs y)) := fun y hy => take_flat l _ hy
  have hnd : Shut (¬ i < l.length → ((l.take i).map fun a => lineT (attWs a)).flatten = (l.map fun a => lineT (attWs a)).flatten) := fun h => by rw [List.take_of_length_le (by omega)]
  generalize ((l.take i).map fun a => lineT (attWs a)).flatten = T at hln hnx hnd ⊢
  simp only [↓ru, rv, rl, ry, tyf, iM, bM, bsM, cond_true, cond_false, Nat.reduceLT, Nat.reduceBEq, Nat.reduceAdd, Nat.reduceEqDiff, Nat.reduceMul, Nat.reduceLeDiff, Nat.reduceSub, Nat.reduceDiv, Int.reduceLE, Int.reduceLT, Int.reduceNeg, Int.reduceAdd, Int.reduceSub, Int.reduceMul, Int.reduceToNat, Int.reducePow, Int.reduceEq, ne_eq, reduceIte, byteD, dstr, un1_str, iD, bD]
  refine fork_split (fun h => ?_) (fun h => ?_)
  · have h' := of_decide_eq_true h
    obtain ⟨y, hy⟩ := get_of_lt (l := l) (i := i) (by omega)
    have hB := (hA y (List.mem_of_getElem? hy)).1
    have hny := hnx y hy
    have hsum := attWs_sum y
    have hll := line_len (attWs y)
    have hjl : (joinSp (attWs y)).length ≤ 71 := by simp only [lineT, List.length_append] at hll; omega
    obtain ⟨X, hX⟩ : ∃ X, X = joinSp (attWs y) := ⟨_, rfl⟩
    have hJ : PFn Tryd.prog 59 [strsM (attWs y), strM [32]] (strM X) := by
      rw [hX]; exact JoinS (attWs y) (by simp [attWs]) (by omega) (by unfold attWs; split <;> (try split) <;> (try split) <;> simp)
    unfold lineT at hny
    rw [← hX] at hny hjl
    clear hX hll hsum hnx hnd
    have hny' : Shut (((l.take (i + 1)).map fun a => lineT (attWs a)).flatten = T ++ (X ++ [10])) := hny
    clear hny
    obtain ⟨lat, fault, pos, mask, ticks, val⟩ := y
    obtain ⟨⟨hf0, hf6⟩, b1, b2, b3, b4, b5⟩ := hB
    simp only at hf0 hf6 b1 b2 b3 b4 b5
    have d1 := Decimal lat (nbI b1)
    have d2 := Decimal pos (nbI b2)
    have d3 := Hex mask 4 (nbI b3) (by decide)
    have d4 := Decimal ticks (nbI b4)
    have d5 := Decimal val (nbI b5)
    have hff : fault = 0 ∨ fault = 1 ∨ fault = 2 ∨ fault = 3 ∨ fault = 4 ∨ fault = 5 ∨ fault = 6 := by omega
    rcases hff with rfl | rfl | rfl | rfl | rfl | rfl | rfl
    all_goals
      (try (simp only [↓ru, rv, rl, ry, tyf, iM, bM, bsM, cond_true, cond_false, Nat.reduceLT, Nat.reduceBEq, Nat.reduceAdd, Nat.reduceEqDiff, Nat.reduceMul, Nat.reduceLeDiff, Nat.reduceSub, Nat.reduceDiv, Int.reduceLE, Int.reduceLT, Int.reduceNeg, Int.reduceAdd, Int.reduceSub, Int.reduceMul, Int.reduceToNat, Int.reducePow, Int.reduceEq, ne_eq, reduceIte, byteD, dstr, un1_str, iD, bD, hy, kindsL, *])); repeat' ((first | (refine fork_split (fun _h => ?_) (fun _h => ?_)) | (refine gfork_split (fun _h => ?_) (fun _h => ?_)) | (refine dfork_split (fun _h => ?_) (fun _h => ?_)) | (refine acall1_pure Kinds rfl rfl ?_) | (refine dcall1_pure Kinds rfl rfl ?_) | (refine acall1_pure d1 rfl rfl ?_) | (refine dcall1_pure d1 rfl rfl ?_) | (refine acall1_pure d2 rfl rfl ?_) | (refine dcall1_pure d2 rfl rfl ?_) | (refine acall1_pure d3 rfl rfl ?_) | (refine dcall1_pure d3 rfl rfl ?_) | (refine acall1_pure d4 rfl rfl ?_) | (refine dcall1_pure d4 rfl rfl ?_) | (refine acall1_pure d5 rfl rfl ?_) | (refine dcall1_pure d5 rfl rfl ?_)) <;> (try (simp only [↓ru, rv, rl, ry, tyf, iM, bM, bsM, cond_true, cond_false, Nat.reduceLT, Nat.reduceBEq, Nat.reduceAdd, Nat.reduceEqDiff, Nat.reduceMul, Nat.reduceLeDiff, Nat.reduceSub, Nat.reduceDiv, Int.reduceLE, Int.reduceLT, Int.reduceNeg, Int.reduceAdd, Int.reduceSub, Int.reduceMul, Int.reduceToNat, Int.reducePow, Int.reduceEq, ne_eq, reduceIte, byteD, dstr, un1_str, iD, bD, hy, kindsL, *])))
      refine acall1_pure hJ rfl rfl ?_
      simp only [↓ru, rv, rl, ry, tyf, iM, bM, bsM, cond_true, cond_false, Nat.reduceLT, Nat.reduceBEq, Nat.reduceAdd, Nat.reduceEqDiff, Nat.reduceMul, Nat.reduceLeDiff, Nat.reduceSub, Nat.reduceDiv, Int.reduceLE, Int.reduceLT, Int.reduceNeg, Int.reduceAdd, Int.reduceSub, Int.reduceMul, Int.reduceToNat, Int.reducePow, Int.reduceEq, ne_eq, reduceIte, byteD, dstr, un1_str, iD, bD]
      simp (disch := (first | omega | (simp only [List.length_append, List.length_cons, List.length_nil, List.length_map, List.length_take, List.length_replicate, List.length_drop] <;> omega))) only [bin_str_add, kk_eq, wrap_i64, wrap_u8, wrap_u16, wrap_u64]
      simp only [↓ru, rv, rl, ry, tyf, iM, bM, bsM, cond_true, cond_false, Nat.reduceLT, Nat.reduceBEq, Nat.reduceAdd, Nat.reduceEqDiff, Nat.reduceMul, Nat.reduceLeDiff, Nat.reduceSub, Nat.reduceDiv, Int.reduceLE, Int.reduceLT, Int.reduceNeg, Int.reduceAdd, Int.reduceSub, Int.reduceMul, Int.reduceToNat, Int.reducePow, Int.reduceEq, ne_eq, reduceIte, byteD, dstr, un1_str, iD, bD]
      refine acall1_inl (wsA T rfl rfl ham rfl rfl (by decide) (by simp only [List.length_append, List.length_cons, List.length_nil]; omega) ?_)
      simp only [↓ru, rv, rl, ry, tyf, iM, bM, bsM, cond_true, cond_false, Nat.reduceLT, Nat.reduceBEq, Nat.reduceAdd, Nat.reduceEqDiff, Nat.reduceMul, Nat.reduceLeDiff, Nat.reduceSub, Nat.reduceDiv, Int.reduceLE, Int.reduceLT, Int.reduceNeg, Int.reduceAdd, Int.reduceSub, Int.reduceMul, Int.reduceToNat, Int.reducePow, Int.reduceEq, ne_eq, reduceIte, byteD, dstr, un1_str, iD, bD, bump_lit, bump_add]
      simp (disch := omega) only [wrap_i64, wrap_u8, wrap_u16, wrap_u64]
      refine loopL_drop (i + 1, .ptr 6 0) ?_ ?_ ⟨by simp only; omega, .inr rfl⟩ (by omega) (by simp only; omega)
      · simp only [↓ru, rv, rl, ry, tyf, iM, bM, bsM, cond_true, cond_false, Nat.reduceLT, Nat.reduceBEq, Nat.reduceAdd, Nat.reduceEqDiff, Nat.reduceMul, Nat.reduceLeDiff, Nat.reduceSub, Nat.reduceDiv, Int.reduceLE, Int.reduceLT, Int.reduceNeg, Int.reduceAdd, Int.reduceSub, Int.reduceMul, Int.reduceToNat, Int.reducePow, Int.reduceEq, ne_eq, reduceIte, byteD, dstr, un1_str, iD, bD]
        try simp
      · unfold Shut at hny'
        simp only [↓ru, rv, rl, ry, tyf, iM, bM, bsM, cond_true, cond_false, Nat.reduceLT, Nat.reduceBEq, Nat.reduceAdd, Nat.reduceEqDiff, Nat.reduceMul, Nat.reduceLeDiff, Nat.reduceSub, Nat.reduceDiv, Int.reduceLE, Int.reduceLT, Int.reduceNeg, Int.reduceAdd, Int.reduceSub, Int.reduceMul, Int.reduceToNat, Int.reducePow, Int.reduceEq, ne_eq, reduceIte, byteD, dstr, un1_str, iD, bD, hny']
  · have h' := of_decide_eq_false h
    have hT := hnd (by omega)
    have hTl : T.length ≤ 300000 := by omega
    rw [← hT]
    clear hnx hnd hT hln hlt hA hV h h'
    have hlw : lineT [loopW] = [108, 111, 111, 112, 10] := rfl
    cases lp
    · simp only [if_true, if_false, Bool.false_eq_true, List.append_nil]
      simp only [↓ru, rv, rl, ry, tyf, iM, bM, bsM, cond_true, cond_false, Nat.reduceLT, Nat.reduceBEq, Nat.reduceAdd, Nat.reduceEqDiff, Nat.reduceMul, Nat.reduceLeDiff, Nat.reduceSub, Nat.reduceDiv, Int.reduceLE, Int.reduceLT, Int.reduceNeg, Int.reduceAdd, Int.reduceSub, Int.reduceMul, Int.reduceToNat, Int.reducePow, Int.reduceEq, ne_eq, reduceIte, byteD, dstr, un1_str, iD, bD]
      refine aloop_lv (fun p : Nat × M => [(1, .ptr 0 0), (4, .ptr 6 0), (68, crsM c), (69, iM c.length), (70, iM p.1)])
        (fun p => [(11, .ar false 1 (pure2 ((T ++ ((c.take p.1).map fun a => lineT (crWs a)).flatten).map byteD)) 5), (6, .st [p.2, .hsl 11 (T ++ ((c.take p.1).map fun a => lineT (crWs a)).flatten).length] 76), (0, .st [attsM l, bM false, crsM c])])
        (fun p => p.1 ≤ c.length ∧ (p.2 = nilP ∨ p.2 = .ptr 6 0)) (fun p => c.length - p.1) 12 (0, am) ?_ ?_ ⟨by omega, ham⟩ (by omega) ?_
      · simp only [↓ru, rv, rl, ry, tyf, iM, bM, bsM, cond_true, cond_false, Nat.reduceLT, Nat.reduceBEq, Nat.reduceAdd, Nat.reduceEqDiff, Nat.reduceMul, Nat.reduceLeDiff, Nat.reduceSub, Nat.reduceDiv, Int.reduceLE, Int.reduceLT, Int.reduceNeg, Int.reduceAdd, Int.reduceSub, Int.reduceMul, Int.reduceToNat, Int.reducePow, Int.reduceEq, ne_eq, reduceIte, byteD, dstr, un1_str, iD, bD]
      · simp only [List.take_zero, List.map_nil, List.flatten_nil, List.append_nil]
        try rfl
      rintro ⟨j, am2⟩ e1 n2 ⟨hj, ham2⟩
      simp only at hj ham2
      have hln := crL_len (c.take j)
      have hlt : (c.take j).length ≤ 8 := by simp; omega
      have hnx : Shut (∀ y, c[j]? = some y → ((c.take (j + 1)).map fun a => lineT (crWs a)).flatten = ((c.take j).map fun a => lineT (crWs a)).flatten ++ lineT (crWs y)) := fun y hy => take_flat c _ hy
      have hnd : Shut (¬ j < c.length → ((c.take j).map fun a => lineT (crWs a)).flatten = (c.map fun a => lineT (crWs a)).flatten) := fun h => by rw [List.take_of_length_le (by omega)]
      generalize ((c.take j).map fun a => lineT (crWs a)).flatten = V at hln hnx hnd ⊢
      generalize hUV : T ++ V = UV
      have hUVl : UV.length ≤ 400000 := by rw [← hUV]; simp only [List.length_append]; omega
      simp only [↓ru, rv, rl, ry, tyf, iM, bM, bsM, cond_true, cond_false, Nat.reduceLT, Nat.reduceBEq, Nat.reduceAdd, Nat.reduceEqDiff, Nat.reduceMul, Nat.reduceLeDiff, Nat.reduceSub, Nat.reduceDiv, Int.reduceLE, Int.reduceLT, Int.reduceNeg, Int.reduceAdd, Int.reduceSub, Int.reduceMul, Int.reduceToNat, Int.reducePow, Int.reduceEq, ne_eq, reduceIte, byteD, dstr, un1_str, iD, bD]
      refine fork_split (fun h2 => ?_) (fun h2 => ?_)
      · have h2' := of_decide_eq_true h2
        obtain ⟨y, hy⟩ := get_of_lt (l := c) (i := j) (by omega)
        have hB := hC y (List.mem_of_getElem? hy)
        have hny := hnx y hy
        obtain ⟨step, keep⟩ := y
        have hE : lineT (crWs ⟨step, keep⟩) = [99, 114, 97, 115, 104, 32] ++ dec step ++ [32] ++ dec keep ++ [10] := by simp [lineT, crWs, joinSp, crashW]
        rw [hE] at hny
        have hny' : Shut (T ++ ((c.take (j + 1)).map fun a => lineT (crWs a)).flatten = UV ++ ([99, 114, 97, 115, 104, 32] ++ dec step ++ [32] ++ dec keep ++ [10])) := by
          unfold Shut; rw [hny, ← hUV]; simp only [List.append_assoc]
        clear hny hE hUV hnx hnd hln hlt
        have d1 := Decimal step (nbI hB.1)
        have d2 := Decimal keep (nbI hB.2)
        have l1 := dec_len step
        have l2 := dec_len keep
        (try (simp only [↓ru, rv, rl, ry, tyf, iM, bM, bsM, cond_true, cond_false, Nat.reduceLT, Nat.reduceBEq, Nat.reduceAdd, Nat.reduceEqDiff, Nat.reduceMul, Nat.reduceLeDiff, Nat.reduceSub, Nat.reduceDiv, Int.reduceLE, Int.reduceLT, Int.reduceNeg, Int.reduceAdd, Int.reduceSub, Int.reduceMul, Int.reduceToNat, Int.reducePow, Int.reduceEq, ne_eq, reduceIte, byteD, dstr, un1_str, iD, bD, hy, *])); repeat' ((first | (refine fork_split (fun _h => ?_) (fun _h => ?_)) | (refine gfork_split (fun _h => ?_) (fun _h => ?_)) | (refine dfork_split (fun _h => ?_) (fun _h => ?_)) | (refine acall1_pure d1 rfl rfl ?_) | (refine dcall1_pure d1 rfl rfl ?_) | (refine acall1_pure d2 rfl rfl ?_) | (refine dcall1_pure d2 rfl rfl ?_)) <;> (try (simp only [↓ru, rv, rl, ry, tyf, iM, bM, bsM, cond_true, cond_false, Nat.reduceLT, Nat.reduceBEq, Nat.reduceAdd, Nat.reduceEqDiff, Nat.reduceMul, Nat.reduceLeDiff, Nat.reduceSub, Nat.reduceDiv, Int.reduceLE, Int.reduceLT, Int.reduceNeg, Int.reduceAdd, Int.reduceSub, Int.reduceMul, Int.reduceToNat, Int.reducePow, Int.reduceEq, ne_eq, reduceIte, byteD, dstr, un1_str, iD, bD, hy, *])))
        simp (disch := (first | omega | (simp only [List.length_append, List.length_cons, List.length_nil, List.length_map, List.length_take, List.length_replicate, List.length_drop] <;> omega))) only [bin_str_add, kk_eq, wrap_i64, wrap_u8, wrap_u16, wrap_u64]
        (try simp only [↓ru, rv, rl, ry, tyf, iM, bM, bsM, cond_true, cond_false, Nat.reduceLT, Nat.reduceBEq, Nat.reduceAdd, Nat.reduceEqDiff, Nat.reduceMul, Nat.reduceLeDiff, Nat.reduceSub, Nat.reduceDiv, Int.reduceLE, Int.reduceLT, Int.reduceNeg, Int.reduceAdd, Int.reduceSub, Int.reduceMul, Int.reduceToNat, Int.reducePow, Int.reduceEq, ne_eq, reduceIte, byteD, dstr, un1_str, iD, bD])
        (try simp (disch := (first | omega | (simp only [List.length_append, List.length_cons, List.length_nil, List.length_map, List.length_take, List.length_replicate, List.length_drop] <;> omega))) only [bin_str_add, kk_eq, wrap_i64, wrap_u8, wrap_u16, wrap_u64])
        (try simp only [↓ru, rv, rl, ry, tyf, iM, bM, bsM, cond_true, cond_false, Nat.reduceLT, Nat.reduceBEq, Nat.reduceAdd, Nat.reduceEqDiff, Nat.reduceMul, Nat.reduceLeDiff, Nat.reduceSub, Nat.reduceDiv, Int.reduceLE, Int.reduceLT, Int.reduceNeg, Int.reduceAdd, Int.reduceSub, Int.reduceMul, Int.reduceToNat, Int.reducePow, Int.reduceEq, ne_eq, reduceIte, byteD, dstr, un1_str, iD, bD])
        refine dcall1_pure d2 rfl rfl ?_
        simp only [↓ru, rv, rl, ry, tyf, iM, bM, bsM, cond_true, cond_false, Nat.reduceLT, Nat.reduceBEq, Nat.reduceAdd, Nat.reduceEqDiff, Nat.reduceMul, Nat.reduceLeDiff, Nat.reduceSub, Nat.reduceDiv, Int.reduceLE, Int.reduceLT, Int.reduceNeg, Int.reduceAdd, Int.reduceSub, Int.reduceMul, Int.reduceToNat, Int.reducePow, Int.reduceEq, ne_eq, reduceIte, byteD, dstr, un1_str, iD, bD]
        simp (disch := (first | omega | (simp only [List.length_append, List.length_cons, List.length_nil, List.length_map, List.length_take, List.length_replicate, List.length_drop] <;> omega))) only [bin_str_add, kk_eq, wrap_i64, wrap_u8, wrap_u16, wrap_u64]
        (try simp only [↓ru, rv, rl, ry, tyf, iM, bM, bsM, cond_true, cond_false, Nat.reduceLT, Nat.reduceBEq, Nat.reduceAdd, Nat.reduceEqDiff, Nat.reduceMul, Nat.reduceLeDiff, Nat.reduceSub, Nat.reduceDiv, Int.reduceLE, Int.reduceLT, Int.reduceNeg, Int.reduceAdd, Int.reduceSub, Int.reduceMul, Int.reduceToNat, Int.reducePow, Int.reduceEq, ne_eq, reduceIte, byteD, dstr, un1_str, iD, bD])
        (try simp (disch := (first | omega | (simp only [List.length_append, List.length_cons, List.length_nil, List.length_map, List.length_take, List.length_replicate, List.length_drop] <;> omega))) only [bin_str_add, kk_eq, wrap_i64, wrap_u8, wrap_u16, wrap_u64])
        (try simp only [↓ru, rv, rl, ry, tyf, iM, bM, bsM, cond_true, cond_false, Nat.reduceLT, Nat.reduceBEq, Nat.reduceAdd, Nat.reduceEqDiff, Nat.reduceMul, Nat.reduceLeDiff, Nat.reduceSub, Nat.reduceDiv, Int.reduceLE, Int.reduceLT, Int.reduceNeg, Int.reduceAdd, Int.reduceSub, Int.reduceMul, Int.reduceToNat, Int.reducePow, Int.reduceEq, ne_eq, reduceIte, byteD, dstr, un1_str, iD, bD])
        refine ⟨by simp [noC], ?_⟩
        refine acall1_inl (wsA UV rfl rfl ham2 rfl rfl (by decide) (by simp only [List.length_append, List.length_cons, List.length_nil]; omega) ?_)
        simp only [↓ru, rv, rl, ry, tyf, iM, bM, bsM, cond_true, cond_false, Nat.reduceLT, Nat.reduceBEq, Nat.reduceAdd, Nat.reduceEqDiff, Nat.reduceMul, Nat.reduceLeDiff, Nat.reduceSub, Nat.reduceDiv, Int.reduceLE, Int.reduceLT, Int.reduceNeg, Int.reduceAdd, Int.reduceSub, Int.reduceMul, Int.reduceToNat, Int.reducePow, Int.reduceEq, ne_eq, reduceIte, byteD, dstr, un1_str, iD, bD, bump_lit, bump_add]
        simp (disch := omega) only [wrap_i64, wrap_u8, wrap_u16, wrap_u64]
        refine loopL_drop (j + 1, .ptr 6 0) ?_ ?_ ⟨by simp only; omega, .inr rfl⟩ (by omega) (by simp only; omega)
        · simp only [↓ru, rv, rl, ry, tyf, iM, bM, bsM, cond_true, cond_false, Nat.reduceLT, Nat.reduceBEq, Nat.reduceAdd, Nat.reduceEqDiff, Nat.reduceMul, Nat.reduceLeDiff, Nat.reduceSub, Nat.reduceDiv, Int.reduceLE, Int.reduceLT, Int.reduceNeg, Int.reduceAdd, Int.reduceSub, Int.reduceMul, Int.reduceToNat, Int.reducePow, Int.reduceEq, ne_eq, reduceIte, byteD, dstr, un1_str, iD, bD]
          try simp
        · unfold Shut at hny'
          simp only [↓ru, rv, rl, ry, tyf, iM, bM, bsM, cond_true, cond_false, Nat.reduceLT, Nat.reduceBEq, Nat.reduceAdd, Nat.reduceEqDiff, Nat.reduceMul, Nat.reduceLeDiff, Nat.reduceSub, Nat.reduceDiv, Int.reduceLE, Int.reduceLT, Int.reduceNeg, Int.reduceAdd, Int.reduceSub, Int.reduceMul, Int.reduceToNat, Int.reducePow, Int.reduceEq, ne_eq, reduceIte, byteD, dstr, un1_str, iD, bD, hny']
      · have h2' := of_decide_eq_false h2
        have hV := hnd (by omega)
        rw [← hV]
        simp only [↓ru, rv, rl, ry, tyf, iM, bM, bsM, cond_true, cond_false, Nat.reduceLT, Nat.reduceBEq, Nat.reduceAdd, Nat.reduceEqDiff, Nat.reduceMul, Nat.reduceLeDiff, Nat.reduceSub, Nat.reduceDiv, Int.reduceLE, Int.reduceLT, Int.reduceNeg, Int.reduceAdd, Int.reduceSub, Int.reduceMul, Int.reduceToNat, Int.reducePow, Int.reduceEq, ne_eq, reduceIte, byteD, dstr, un1_str, iD, bD]
        refine acall1_inl (strA UV rfl rfl ham2 rfl rfl (by omega) ?_)
        simp only [↓ru, rv, rl, ry, tyf, iM, bM, bsM, cond_true, cond_false, Nat.reduceLT, Nat.reduceBEq, Nat.reduceAdd, Nat.reduceEqDiff, Nat.reduceMul, Nat.reduceLeDiff, Nat.reduceSub, Nat.reduceDiv, Int.reduceLE, Int.reduceLT, Int.reduceNeg, Int.reduceAdd, Int.reduceSub, Int.reduceMul, Int.reduceToNat, Int.reducePow, Int.reduceEq, ne_eq, reduceIte, byteD, dstr, un1_str, iD, bD, bump_lit, bump_add, pureEnd_of (fn := Tryd.f31) (rs := [.tmp 2, .tmp 3]) (ts := [33, 37]) rfl rfl]
        rw [hUV]
    · simp only [if_true, if_false, Bool.false_eq_true, List.append_nil]
      simp only [↓ru, rv, rl, ry, tyf, iM, bM, bsM, cond_true, cond_false, Nat.reduceLT, Nat.reduceBEq, Nat.reduceAdd, Nat.reduceEqDiff, Nat.reduceMul, Nat.reduceLeDiff, Nat.reduceSub, Nat.reduceDiv, Int.reduceLE, Int.reduceLT, Int.reduceNeg, Int.reduceAdd, Int.reduceSub, Int.reduceMul, Int.reduceToNat, Int.reducePow, Int.reduceEq, ne_eq, reduceIte, byteD, dstr, un1_str, iD, bD]
      refine acall1_inl (wsA T rfl rfl ham rfl rfl (by decide) (by simp only [List.length_append, List.length_cons, List.length_nil]; omega) ?_)
      simp only [↓ru, rv, rl, ry, tyf, iM, bM, bsM, cond_true, cond_false, Nat.reduceLT, Nat.reduceBEq, Nat.reduceAdd, Nat.reduceEqDiff, Nat.reduceMul, Nat.reduceLeDiff, Nat.reduceSub, Nat.reduceDiv, Int.reduceLE, Int.reduceLT, Int.reduceNeg, Int.reduceAdd, Int.reduceSub, Int.reduceMul, Int.reduceToNat, Int.reducePow, Int.reduceEq, ne_eq, reduceIte, byteD, dstr, un1_str, iD, bD, bump_lit, bump_add]
      rw [hlw]
      generalize hU : T ++ [108, 111, 111, 112, 10] = U
      have hUl : U.length ≤ 300005 := by rw [← hU]; simp only [List.length_append, List.length_cons, List.length_nil]; omega
      refine aloop_lv (fun p : Nat × M => [(1, .ptr 0 0), (4, .ptr 6 0), (68, crsM c), (69, iM c.length), (70, iM p.1)])
        (fun p => [(11, .ar false 1 (pure2 ((U ++ ((c.take p.1).map fun a => lineT (crWs a)).flatten).map byteD)) 5), (6, .st [p.2, .hsl 11 (U ++ ((c.take p.1).map fun a => lineT (crWs a)).flatten).length] 76), (0, .st [attsM l, bM true, crsM c])])
        (fun p => p.1 ≤ c.length ∧ (p.2 = nilP ∨ p.2 = .ptr 6 0)) (fun p => c.length - p.1) 12 (0, .ptr 6 0) ?_ ?_ ⟨by omega, .inr rfl⟩ (by omega) ?_
      · simp only [↓ru, rv, rl, ry, tyf, iM, bM, bsM, cond_true, cond_false, Nat.reduceLT, Nat.reduceBEq, Nat.reduceAdd, Nat.reduceEqDiff, Nat.reduceMul, Nat.reduceLeDiff, Nat.reduceSub, Nat.reduceDiv, Int.reduceLE, Int.reduceLT, Int.reduceNeg, Int.reduceAdd, Int.reduceSub, Int.reduceMul, Int.reduceToNat, Int.reducePow, Int.reduceEq, ne_eq, reduceIte, byteD, dstr, un1_str, iD, bD]
      · simp only [List.take_zero, List.map_nil, List.flatten_nil, List.append_nil]
        try rfl
      rintro ⟨j, am2⟩ e1 n2 ⟨hj, ham2⟩
      simp only at hj ham2
      have hln := crL_len (c.take j)
      have hlt : (c.take j).length ≤ 8 := by simp; omega
      have hnx : Shut (∀ y, c[j]? = some y → ((c.take (j + 1)).map fun a => lineT (crWs a)).flatten = ((c.take j).map fun a => lineT (crWs a)).flatten ++ lineT (crWs y)) := fun y hy => take_flat c _ hy
      have hnd : Shut (¬ j < c.length → ((c.take j).map fun a => lineT (crWs a)).flatten = (c.map fun a => lineT (crWs a)).flatten) := fun h => by rw [List.take_of_length_le (by omega)]
      generalize ((c.take j).map fun a => lineT (crWs a)).flatten = V at hln hnx hnd ⊢
      generalize hUV : U ++ V = UV
      have hUVl : UV.length ≤ 400000 := by rw [← hUV]; simp only [List.length_append]; omega
      simp only [↓ru, rv, rl, ry, tyf, iM, bM, bsM, cond_true, cond_false, Nat.reduceLT, Nat.reduceBEq, Nat.reduceAdd, Nat.reduceEqDiff, Nat.reduceMul, Nat.reduceLeDiff, Nat.reduceSub, Nat.reduceDiv, Int.reduceLE, Int.reduceLT, Int.reduceNeg, Int.reduceAdd, Int.reduceSub, Int.reduceMul, Int.reduceToNat, Int.reducePow, Int.reduceEq, ne_eq, reduceIte, byteD, dstr, un1_str, iD, bD]
      refine fork_split (fun h2 => ?_) (fun h2 => ?_)
      · have h2' := of_decide_eq_true h2
        obtain ⟨y, hy⟩ := get_of_lt (l := c) (i := j) (by omega)
        have hB := hC y (List.mem_of_getElem? hy)
        have hny := hnx y hy
        obtain ⟨step, keep⟩ := y
        have hE : lineT (crWs ⟨step, keep⟩) = [99, 114, 97, 115, 104, 32] ++ dec step ++ [32] ++ dec keep ++ [10] := by simp [lineT, crWs, joinSp, crashW]
        rw [hE] at hny
        have hny' : Shut (U ++ ((c.take (j + 1)).map fun a => lineT (crWs a)).flatten = UV ++ ([99, 114, 97, 115, 104, 32] ++ dec step ++ [32] ++ dec keep ++ [10])) := by
          unfold Shut; rw [hny, ← hUV]; simp only [List.append_assoc]
        clear hny hE hUV hnx hnd hln hlt
        have d1 := Decimal step (nbI hB.1)
        have d2 := Decimal keep (nbI hB.2)
        have l1 := dec_len step
        have l2 := dec_len keep
        (try (simp only [↓ru, rv, rl, ry, tyf, iM, bM, bsM, cond_true, cond_false, Nat.reduceLT, Nat.reduceBEq, Nat.reduceAdd, Nat.reduceEqDiff, Nat.reduceMul, Nat.reduceLeDiff, Nat.reduceSub, Nat.reduceDiv, Int.reduceLE, Int.reduceLT, Int.reduceNeg, Int.reduceAdd, Int.reduceSub, Int.reduceMul, Int.reduceToNat, Int.reducePow, Int.reduceEq, ne_eq, reduceIte, byteD, dstr, un1_str, iD, bD, hy, *])); repeat' ((first | (refine fork_split (fun _h => ?_) (fun _h => ?_)) | (refine gfork_split (fun _h => ?_) (fun _h => ?_)) | (refine dfork_split (fun _h => ?_) (fun _h => ?_)) | (refine acall1_pure d1 rfl rfl ?_) | (refine dcall1_pure d1 rfl rfl ?_) | (refine acall1_pure d2 rfl rfl ?_) | (refine dcall1_pure d2 rfl rfl ?_)) <;> (try (simp only [↓ru, rv, rl, ry, tyf, iM, bM, bsM, cond_true, cond_false, Nat.reduceLT, Nat.reduceBEq, Nat.reduceAdd, Nat.reduceEqDiff, Nat.reduceMul, Nat.reduceLeDiff, Nat.reduceSub, Nat.reduceDiv, Int.reduceLE, Int.reduceLT, Int.reduceNeg, Int.reduceAdd, Int.reduceSub, Int.reduceMul, Int.reduceToNat, Int.reducePow, Int.reduceEq, ne_eq, reduceIte, byteD, dstr, un1_str, iD, bD, hy, *])))
        simp (disch := (first | omega | (simp only [List.length_append, List.length_cons, List.length_nil, List.length_map, List.length_take, List.length_replicate, List.length_drop] <;> omega))) only [bin_str_add, kk_eq, wrap_i64, wrap_u8, wrap_u16, wrap_u64]
        (try simp only [↓ru, rv, rl, ry, tyf, iM, bM, bsM, cond_true, cond_false, Nat.reduceLT, Nat.reduceBEq, Nat.reduceAdd, Nat.reduceEqDiff, Nat.reduceMul, Nat.reduceLeDiff, Nat.reduceSub, Nat.reduceDiv, Int.reduceLE, Int.reduceLT, Int.reduceNeg, Int.reduceAdd, Int.reduceSub, Int.reduceMul, Int.reduceToNat, Int.reducePow, Int.reduceEq, ne_eq, reduceIte, byteD, dstr, un1_str, iD, bD])
        (try simp (disch := (first | omega | (simp only [List.length_append, List.length_cons, List.length_nil, List.length_map, List.length_take, List.length_replicate, List.length_drop] <;> omega))) only [bin_str_add, kk_eq, wrap_i64, wrap_u8, wrap_u16, wrap_u64])
        (try simp only [↓ru, rv, rl, ry, tyf, iM, bM, bsM, cond_true, cond_false, Nat.reduceLT, Nat.reduceBEq, Nat.reduceAdd, Nat.reduceEqDiff, Nat.reduceMul, Nat.reduceLeDiff, Nat.reduceSub, Nat.reduceDiv, Int.reduceLE, Int.reduceLT, Int.reduceNeg, Int.reduceAdd, Int.reduceSub, Int.reduceMul, Int.reduceToNat, Int.reducePow, Int.reduceEq, ne_eq, reduceIte, byteD, dstr, un1_str, iD, bD])
        refine dcall1_pure d2 rfl rfl ?_
        simp only [↓ru, rv, rl, ry, tyf, iM, bM, bsM, cond_true, cond_false, Nat.reduceLT, Nat.reduceBEq, Nat.reduceAdd, Nat.reduceEqDiff, Nat.reduceMul, Nat.reduceLeDiff, Nat.reduceSub, Nat.reduceDiv, Int.reduceLE, Int.reduceLT, Int.reduceNeg, Int.reduceAdd, Int.reduceSub, Int.reduceMul, Int.reduceToNat, Int.reducePow, Int.reduceEq, ne_eq, reduceIte, byteD, dstr, un1_str, iD, bD]
        simp (disch := (first | omega | (simp only [List.length_append, List.length_cons, List.length_nil, List.length_map, List.length_take, List.length_replicate, List.length_drop] <;> omega))) only [bin_str_add, kk_eq, wrap_i64, wrap_u8, wrap_u16, wrap_u64]
        (try simp only [↓ru, rv, rl, ry, tyf, iM, bM, bsM, cond_true, cond_false, Nat.reduceLT, Nat.reduceBEq, Nat.reduceAdd, Nat.reduceEqDiff, Nat.reduceMul, Nat.reduceLeDiff, Nat.reduceSub, Nat.reduceDiv, Int.reduceLE, Int.reduceLT, Int.reduceNeg, Int.reduceAdd, Int.reduceSub, Int.reduceMul, Int.reduceToNat, Int.reducePow, Int.reduceEq, ne_eq, reduceIte, byteD, dstr, un1_str, iD, bD])
        (try simp (disch := (first | omega | (simp only [List.length_append, List.length_cons, List.length_nil, List.length_map, List.length_take, List.length_replicate, List.length_drop] <;> omega))) only [bin_str_add, kk_eq, wrap_i64, wrap_u8, wrap_u16, wrap_u64])
        (try simp only [↓ru, rv, rl, ry, tyf, iM, bM, bsM, cond_true, cond_false, Nat.reduceLT, Nat.reduceBEq, Nat.reduceAdd, Nat.reduceEqDiff, Nat.reduceMul, Nat.reduceLeDiff, Nat.reduceSub, Nat.reduceDiv, Int.reduceLE, Int.reduceLT, Int.reduceNeg, Int.reduceAdd, Int.reduceSub, Int.reduceMul, Int.reduceToNat, Int.reducePow, Int.reduceEq, ne_eq, reduceIte, byteD, dstr, un1_str, iD, bD])
        refine ⟨by simp [noC], ?_⟩
        refine acall1_inl (wsA UV rfl rfl ham2 rfl rfl (by decide) (by simp only [List.length_append, List.length_cons, List.length_nil]; omega) ?_)
        simp only [↓ru, rv, rl, ry, tyf, iM, bM, bsM, cond_true, cond_false, Nat.reduceLT, Nat.reduceBEq, Nat.reduceAdd, Nat.reduceEqDiff, Nat.reduceMul, Nat.reduceLeDiff, Nat.reduceSub, Nat.reduceDiv, Int.reduceLE, Int.reduceLT, Int.reduceNeg, Int.reduceAdd, Int.reduceSub, Int.reduceMul, Int.reduceToNat, Int.reducePow, Int.reduceEq, ne_eq, reduceIte, byteD, dstr, un1_str, iD, bD, bump_lit, bump_add]
        simp (disch := omega) only [wrap_i64, wrap_u8, wrap_u16, wrap_u64]
        refine loopL_drop (j + 1, .ptr 6 0) ?_ ?_ ⟨by simp only; omega, .inr rfl⟩ (by omega) (by simp only; omega)
        · simp only [↓ru, rv, rl, ry, tyf, iM, bM, bsM, cond_true, cond_false, Nat.reduceLT, Nat.reduceBEq, Nat.reduceAdd, Nat.reduceEqDiff, Nat.reduceMul, Nat.reduceLeDiff, Nat.reduceSub, Nat.reduceDiv, Int.reduceLE, Int.reduceLT, Int.reduceNeg, Int.reduceAdd, Int.reduceSub, Int.reduceMul, Int.reduceToNat, Int.reducePow, Int.reduceEq, ne_eq, reduceIte, byteD, dstr, un1_str, iD, bD]
          try simp
        · unfold Shut at hny'
          simp only [↓ru, rv, rl, ry, tyf, iM, bM, bsM, cond_true, cond_false, Nat.reduceLT, Nat.reduceBEq, Nat.reduceAdd, Nat.reduceEqDiff, Nat.reduceMul, Nat.reduceLeDiff, Nat.reduceSub, Nat.reduceDiv, Int.reduceLE, Int.reduceLT, Int.reduceNeg, Int.reduceAdd, Int.reduceSub, Int.reduceMul, Int.reduceToNat, Int.reducePow, Int.reduceEq, ne_eq, reduceIte, byteD, dstr, un1_str, iD, bD, hny']
      · have h2' := of_decide_eq_false h2
        have hV := hnd (by omega)
        rw [← hV]
        simp only [↓ru, rv, rl, ry, tyf, iM, bM, bsM, cond_true, cond_false, Nat.reduceLT, Nat.reduceBEq, Nat.reduceAdd, Nat.reduceEqDiff, Nat.reduceMul, Nat.reduceLeDiff, Nat.reduceSub, Nat.reduceDiv, Int.reduceLE, Int.reduceLT, Int.reduceNeg, Int.reduceAdd, Int.reduceSub, Int.reduceMul, Int.reduceToNat, Int.reducePow, Int.reduceEq, ne_eq, reduceIte, byteD, dstr, un1_str, iD, bD]
        refine acall1_inl (strA UV rfl rfl ham2 rfl rfl (by omega) ?_)
        simp only [↓ru, rv, rl, ry, tyf, iM, bM, bsM, cond_true, cond_false, Nat.reduceLT, Nat.reduceBEq, Nat.reduceAdd, Nat.reduceEqDiff, Nat.reduceMul, Nat.reduceLeDiff, Nat.reduceSub, Nat.reduceDiv, Int.reduceLE, Int.reduceLT, Int.reduceNeg, Int.reduceAdd, Int.reduceSub, Int.reduceMul, Int.reduceToNat, Int.reducePow, Int.reduceEq, ne_eq, reduceIte, byteD, dstr, un1_str, iD, bD, bump_lit, bump_add, pureEnd_of (fn := Tryd.f31) (rs := [.tmp 2, .tmp 3]) (ts := [33, 37]) rfl rfl]
        rw [hUV]
end Go.SC

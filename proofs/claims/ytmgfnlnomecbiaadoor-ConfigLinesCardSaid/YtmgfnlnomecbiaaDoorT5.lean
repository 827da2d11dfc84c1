import Derived.Test.YtmgfnlnomecbiaaDoorT4
set_option linter.all false
open Go.Proofs Go.Abs Go.Fa Go.BU Go.TX
namespace Go.TW
set_option maxHeartbeats 4000000
set_option maxRecDepth 10000
-- rules: byteD

/-- What the document has written so far. -/
def qpre (l : List UInt8) : List UInt8 := 34 :: quBody l
theorem qpre_len (l : List UInt8) : (qpre l).length ≤ 3 * l.length + 1 := by
  have := quBody_length l
  simp [qpre]; omega
theorem qpre_add (l : List UInt8) (x : UInt8) : qpre (l ++ [x]) = qpre l ++ quB x := by simp [qpre, quBody]
theorem bytes1 (x : UInt8) : bytesOf [[D.v (.int .u8 (x.toNat : Int))]] = some [x] := bytesOf_byteD [x]
theorem QuoteR (l : List UInt8) (hl : l.length ≤ 1000000) : PFn Tryd.prog 132 [bsM l] (strM (quote l)) := by
  (refine PFn.of (prs := []) Tryd.func132 rfl rfl mix (by kernel_rfl) rfl rfl ?_; simp only [Tryd.ntmps132, argUpd])
  simp only [↓ru, rv, rl, ry, tyf, iM, bM, bsM, cond_true, cond_false, Nat.reduceLT, Nat.reduceBEq, Nat.reduceAdd, Nat.reduceEqDiff, Nat.reduceMul, Nat.reduceLeDiff, Nat.reduceSub, Nat.reduceDiv, Int.reduceLE, Int.reduceLT, Int.reduceNeg, Int.reduceAdd, Int.reduceSub, Int.reduceMul, Int.reduceToNat, Int.reducePow, Int.reduceEq, ne_eq, reduceIte, byteD]
  refine aloop_lv (fun i : Nat => [(0, bsM l), (3, strM (qpre (l.take i))), (4, iM i)]) (fun _ => []) (fun i => i ≤ l.length) (fun i => l.length - i) 0 0 ?_ rfl (by omega) (by omega) ?_
  · simp only [↓ru, rv, rl, ry, tyf, iM, bM, bsM, cond_true, cond_false, Nat.reduceLT, Nat.reduceBEq, Nat.reduceAdd, Nat.reduceEqDiff, Nat.reduceMul, Nat.reduceLeDiff, Nat.reduceSub, Nat.reduceDiv, Int.reduceLE, Int.reduceLT, Int.reduceNeg, Int.reduceAdd, Int.reduceSub, Int.reduceMul, Int.reduceToNat, Int.reducePow, Int.reduceEq, ne_eq, reduceIte, byteD]
    rfl
  intro i e0 n hi
  have hq3 := qpre_len (l.take i)
  have htl : (l.take i).length ≤ l.length := by simp; omega
  simp only [↓ru, rv, rl, ry, tyf, iM, bM, bsM, cond_true, cond_false, Nat.reduceLT, Nat.reduceBEq, Nat.reduceAdd, Nat.reduceEqDiff, Nat.reduceMul, Nat.reduceLeDiff, Nat.reduceSub, Nat.reduceDiv, Int.reduceLE, Int.reduceLT, Int.reduceNeg, Int.reduceAdd, Int.reduceSub, Int.reduceMul, Int.reduceToNat, Int.reducePow, Int.reduceEq, ne_eq, reduceIte, byteD]
  refine fork_split (fun h => ?_) (fun h => ?_)
  · have h' := of_decide_eq_true h
    obtain ⟨x, hx⟩ := get_of_lt (l := l) (i := i) (by omega)
    have hq : qpre (l.take (i + 1)) = qpre (l.take i) ++ quB x := by rw [List.take_add_one, hx]; exact qpre_add _ _
    have hxl := x.toNat_lt
    simp only [↓ru, rv, rl, ry, tyf, iM, bM, bsM, cond_true, cond_false, Nat.reduceLT, Nat.reduceBEq, Nat.reduceAdd, Nat.reduceEqDiff, Nat.reduceMul, Nat.reduceLeDiff, Nat.reduceSub, Nat.reduceDiv, Int.reduceLE, Int.reduceLT, Int.reduceNeg, Int.reduceAdd, Int.reduceSub, Int.reduceMul, Int.reduceToNat, Int.reducePow, Int.reduceEq, ne_eq, reduceIte, byteD, hx]
    refine acall1_pure (plain x rfl) rfl rfl ?_
    simp only [↓ru, rv, rl, ry, tyf, iM, bM, bsM, cond_true, cond_false, Nat.reduceLT, Nat.reduceBEq, Nat.reduceAdd, Nat.reduceEqDiff, Nat.reduceMul, Nat.reduceLeDiff, Nat.reduceSub, Nat.reduceDiv, Int.reduceLE, Int.reduceLT, Int.reduceNeg, Int.reduceAdd, Int.reduceSub, Int.reduceMul, Int.reduceToNat, Int.reducePow, Int.reduceEq, ne_eq, reduceIte, byteD, hx]
    refine fork_split (fun h2 => ?_) (fun h2 => ?_)
    · have hb : quB x = [x] := by rw [quB, if_pos h2]
      simp only [↓ru, rv, rl, ry, tyf, iM, bM, bsM, cond_true, cond_false, Nat.reduceLT, Nat.reduceBEq, Nat.reduceAdd, Nat.reduceEqDiff, Nat.reduceMul, Nat.reduceLeDiff, Nat.reduceSub, Nat.reduceDiv, Int.reduceLE, Int.reduceLT, Int.reduceNeg, Int.reduceAdd, Int.reduceSub, Int.reduceMul, Int.reduceToNat, Int.reducePow, Int.reduceEq, ne_eq, reduceIte, byteD, hx, bytes1]
      simp (disch := (simp only [List.length_append, List.length_cons, List.length_nil, List.length_map, List.length_take, List.length_replicate, List.length_drop] <;> omega)) only [bin_str_add, kk_eq, wrap_i64, wrap_u8, wrap_u16, wrap_u64]
      simp only [↓ru, rv, rl, ry, tyf, iM, bM, bsM, cond_true, cond_false, Nat.reduceLT, Nat.reduceBEq, Nat.reduceAdd, Nat.reduceEqDiff, Nat.reduceMul, Nat.reduceLeDiff, Nat.reduceSub, Nat.reduceDiv, Int.reduceLE, Int.reduceLT, Int.reduceNeg, Int.reduceAdd, Int.reduceSub, Int.reduceMul, Int.reduceToNat, Int.reducePow, Int.reduceEq, ne_eq, reduceIte, byteD]
      simp (disch := omega) only [wrap_i64, wrap_u8, wrap_u16, wrap_u64]
      refine loopL_drop (i + 1) ?_ trivial (by omega) (by omega) (by omega)
      simp only [↓ru, rv, rl, ry, tyf, iM, bM, bsM, cond_true, cond_false, Nat.reduceLT, Nat.reduceBEq, Nat.reduceAdd, Nat.reduceEqDiff, Nat.reduceMul, Nat.reduceLeDiff, Nat.reduceSub, Nat.reduceDiv, Int.reduceLE, Int.reduceLT, Int.reduceNeg, Int.reduceAdd, Int.reduceSub, Int.reduceMul, Int.reduceToNat, Int.reducePow, Int.reduceEq, ne_eq, reduceIte, byteD, hq, hb]
      simp
    · have hb : quB x = 92 :: hexD 2 x.toNat := by rw [quB, if_neg (by simp [h2])]
      simp only [↓ru, rv, rl, ry, tyf, iM, bM, bsM, cond_true, cond_false, Nat.reduceLT, Nat.reduceBEq, Nat.reduceAdd, Nat.reduceEqDiff, Nat.reduceMul, Nat.reduceLeDiff, Nat.reduceSub, Nat.reduceDiv, Int.reduceLE, Int.reduceLT, Int.reduceNeg, Int.reduceAdd, Int.reduceSub, Int.reduceMul, Int.reduceToNat, Int.reducePow, Int.reduceEq, ne_eq, reduceIte, byteD, hx]
      refine acall1_pure (HexR x.toNat 2 ⟨by omega, by omega⟩ ⟨by decide, by decide⟩) rfl rfl ?_
      rw [hexF2]
      simp only [↓ru, rv, rl, ry, tyf, iM, bM, bsM, cond_true, cond_false, Nat.reduceLT, Nat.reduceBEq, Nat.reduceAdd, Nat.reduceEqDiff, Nat.reduceMul, Nat.reduceLeDiff, Nat.reduceSub, Nat.reduceDiv, Int.reduceLE, Int.reduceLT, Int.reduceNeg, Int.reduceAdd, Int.reduceSub, Int.reduceMul, Int.reduceToNat, Int.reducePow, Int.reduceEq, ne_eq, reduceIte, byteD]
      simp (disch := (simp [hexD_length]; try omega)) only [bin_str_add, kk_eq]
      simp only [↓ru, rv, rl, ry, tyf, iM, bM, bsM, cond_true, cond_false, Nat.reduceLT, Nat.reduceBEq, Nat.reduceAdd, Nat.reduceEqDiff, Nat.reduceMul, Nat.reduceLeDiff, Nat.reduceSub, Nat.reduceDiv, Int.reduceLE, Int.reduceLT, Int.reduceNeg, Int.reduceAdd, Int.reduceSub, Int.reduceMul, Int.reduceToNat, Int.reducePow, Int.reduceEq, ne_eq, reduceIte, byteD]
      simp (disch := (simp [hexD_length]; try omega)) only [bin_str_add, kk_eq]
      simp only [↓ru, rv, rl, ry, tyf, iM, bM, bsM, cond_true, cond_false, Nat.reduceLT, Nat.reduceBEq, Nat.reduceAdd, Nat.reduceEqDiff, Nat.reduceMul, Nat.reduceLeDiff, Nat.reduceSub, Nat.reduceDiv, Int.reduceLE, Int.reduceLT, Int.reduceNeg, Int.reduceAdd, Int.reduceSub, Int.reduceMul, Int.reduceToNat, Int.reducePow, Int.reduceEq, ne_eq, reduceIte, byteD]
      simp (disch := omega) only [wrap_i64, wrap_u8, wrap_u16, wrap_u64]
      refine loopL_next (i + 1) ?_ rfl (by omega) (by omega) (by omega)
      simp only [↓ru, rv, rl, ry, tyf, iM, bM, bsM, cond_true, cond_false, Nat.reduceLT, Nat.reduceBEq, Nat.reduceAdd, Nat.reduceEqDiff, Nat.reduceMul, Nat.reduceLeDiff, Nat.reduceSub, Nat.reduceDiv, Int.reduceLE, Int.reduceLT, Int.reduceNeg, Int.reduceAdd, Int.reduceSub, Int.reduceMul, Int.reduceToNat, Int.reducePow, Int.reduceEq, ne_eq, reduceIte, byteD, hq, hb]
      simp
  · have h' := of_decide_eq_false h
    have : i = l.length := by omega
    subst this
    rw [List.take_length] at *
    simp only [↓ru, rv, rl, ry, tyf, iM, bM, bsM, cond_true, cond_false, Nat.reduceLT, Nat.reduceBEq, Nat.reduceAdd, Nat.reduceEqDiff, Nat.reduceMul, Nat.reduceLeDiff, Nat.reduceSub, Nat.reduceDiv, Int.reduceLE, Int.reduceLT, Int.reduceNeg, Int.reduceAdd, Int.reduceSub, Int.reduceMul, Int.reduceToNat, Int.reducePow, Int.reduceEq, ne_eq, reduceIte, byteD]
    simp (disch := (simp only [List.length_append, List.length_cons, List.length_nil, List.length_map, List.length_take, List.length_replicate, List.length_drop] <;> omega)) only [bin_str_add, kk_eq, wrap_i64, wrap_u8, wrap_u16, wrap_u64]
    simp only [↓ru, rv, rl, ry, tyf, iM, bM, bsM, cond_true, cond_false, Nat.reduceLT, Nat.reduceBEq, Nat.reduceAdd, Nat.reduceEqDiff, Nat.reduceMul, Nat.reduceLeDiff, Nat.reduceSub, Nat.reduceDiv, Int.reduceLE, Int.reduceLT, Int.reduceNeg, Int.reduceAdd, Int.reduceSub, Int.reduceMul, Int.reduceToNat, Int.reducePow, Int.reduceEq, ne_eq, reduceIte, byteD, pureEnd_of (fn := Tryd.f132) (rs := [.tmp 2]) (ts := [9]) rfl rfl]
    rfl

theorem take_all {s : List UInt8} {i : Nat} {p : UInt8 → Bool} (h : i < s.length) (h1 : (s.take i).all p = true) (h2 : p (s.getD i 0) = true) : (s.take (i + 1)).all p = true := by
  rw [take_getD h, List.all_append, h1]; simpa using h2
theorem inner_len (s : List UInt8) : (inner s).length = s.length - 2 := by simp [inner]; omega
theorem inner_get {s : List UInt8} {j : Nat} (h : j < s.length - 2) : (inner s).getD j 0 = s.getD (j + 1) 0 := by
  simp only [inner, List.getD]
  rw [List.getElem?_take, if_pos h, List.getElem?_drop, Nat.add_comm]
theorem inner_drop {s : List UInt8} {j : Nat} (h : j < s.length - 2) : (inner s).drop j = s.getD (j + 1) 0 :: (inner s).drop (j + 1) := by
  rw [drop_getD (by rw [inner_len]; exact h), inner_get h]
theorem take2_drop {s : List UInt8} {j : Nat} (h : j + 2 ≤ s.length) : (s.drop j).take 2 = [s.getD j 0, s.getD (j + 1) 0] := by
  rw [drop_getD (by omega), drop_getD (i := j + 1) (by omega)]; rfl
theorem Unquote (s : List UInt8) (hs : s.length ≤ 300000) : PFn Tryd.prog 98 [strM s] (.tup [bsM ((unq s).getD []), bM (unq s).isSome]) := by
  (refine PFn.of (prs := []) Tryd.func98 rfl rfl mix (by kernel_rfl) rfl rfl ?_; simp only [Tryd.ntmps98, argUpd])
  (try (simp only [↓ru, rv, rl, ry, tyf, iM, bM, bsM, cond_true, cond_false, Nat.reduceLT, Nat.reduceBEq, Nat.reduceAdd, Nat.reduceEqDiff, Nat.reduceMul, Nat.reduceLeDiff, Nat.reduceSub, Nat.reduceDiv, Int.reduceLE, Int.reduceLT, Int.reduceNeg, Int.reduceAdd, Int.reduceSub, Int.reduceMul, Int.reduceToNat, Int.reducePow, Int.reduceEq, ne_eq, reduceIte, byteD, pureEnd_of (fn := Tryd.f98) (rs := [.tmp 2, .tmp 3]) (ts := [33, 4]) rfl rfl, *])); repeat' ((first | (refine fork_split (fun _h => ?_) (fun _h => ?_)) | (refine gfork_split (fun _h => ?_) (fun _h => ?_)) | (refine dfork_split (fun _h => ?_) (fun _h => ?_))) <;> (try (simp only [↓ru, rv, rl, ry, tyf, iM, bM, bsM, cond_true, cond_false, Nat.reduceLT, Nat.reduceBEq, Nat.reduceAdd, Nat.reduceEqDiff, Nat.reduceMul, Nat.reduceLeDiff, Nat.reduceSub, Nat.reduceDiv, Int.reduceLE, Int.reduceLT, Int.reduceNeg, Int.reduceAdd, Int.reduceSub, Int.reduceMul, Int.reduceToNat, Int.reducePow, Int.reduceEq, ne_eq, reduceIte, byteD, pureEnd_of (fn := Tryd.f98) (rs := [.tmp 2, .tmp 3]) (ts := [33, 4]) rfl rfl, *])))
  · (try simp only [Bool.not_eq_true', Bool.not_eq_false', decide_eq_true_eq, decide_eq_false_iff_not] at *)
    rw [show unq s = none by rw [unq, if_pos (by omega)]]; rfl
  (try simp only [Bool.not_eq_true', Bool.not_eq_false', decide_eq_true_eq, decide_eq_false_iff_not] at *)
  have hlen : ¬ s.length < 2 := by omega
  refine aloop_lv (fun p : Nat × List UInt8 => [(0, strM s), (4, .hsl 5 p.2.length), (5, iM p.1)]) (fun p => [(5, .ar false 1 (pure2 (p.2.map byteD)))]) (fun p => 1 ≤ p.1 ∧ p.1 ≤ s.length - 1 ∧ p.2.length ≤ p.1 ∧ (upP ((inner s).drop (p.1 - 1))).map (p.2 ++ ·) = upP (inner s)) (fun p => s.length - p.1) 6 (1, []) ?_ ?_ ⟨by simp, by simp only; omega, by simp, by simp⟩ (by omega) ?_
  · simp only [↓ru, rv, rl, ry, tyf, iM, bM, bsM, cond_true, cond_false, Nat.reduceLT, Nat.reduceBEq, Nat.reduceAdd, Nat.reduceEqDiff, Nat.reduceMul, Nat.reduceLeDiff, Nat.reduceSub, Nat.reduceDiv, Int.reduceLE, Int.reduceLT, Int.reduceNeg, Int.reduceAdd, Int.reduceSub, Int.reduceMul, Int.reduceToNat, Int.reducePow, Int.reduceEq, ne_eq, reduceIte, byteD]
  · rfl
  rintro ⟨i, o⟩ e0 n ⟨hi1, hi2, ho, hv⟩
  simp only at hi1 hi2 ho hv
  simp only [↓ru, rv, rl, ry, tyf, iM, bM, bsM, cond_true, cond_false, Nat.reduceLT, Nat.reduceBEq, Nat.reduceAdd, Nat.reduceEqDiff, Nat.reduceMul, Nat.reduceLeDiff, Nat.reduceSub, Nat.reduceDiv, Int.reduceLE, Int.reduceLT, Int.reduceNeg, Int.reduceAdd, Int.reduceSub, Int.reduceMul, Int.reduceToNat, Int.reducePow, Int.reduceEq, ne_eq, reduceIte, byteD]
  refine fork_split (fun h => ?_) (fun h => ?_)
  · have h' := of_decide_eq_true h
    (try simp (disch := omega) only [wrap_i64, wrap_u8, wrap_u16, wrap_u64] at *)
    rw [inner_drop (by omega), show i - 1 + 1 = i by omega] at hv
    generalize hx : s.getD i 0 = x at hv
    have g2 : (i : Int) < (s.length : Int) := by omega
    simp only [↓ru, rv, rl, ry, tyf, iM, bM, bsM, cond_true, cond_false, Nat.reduceLT, Nat.reduceBEq, Nat.reduceAdd, Nat.reduceEqDiff, Nat.reduceMul, Nat.reduceLeDiff, Nat.reduceSub, Nat.reduceDiv, Int.reduceLE, Int.reduceLT, Int.reduceNeg, Int.reduceAdd, Int.reduceSub, Int.reduceMul, Int.reduceToNat, Int.reducePow, Int.reduceEq, ne_eq, reduceIte, byteD, hx, g2]
    refine fork_split (fun h2 => ?_) (fun h2 => ?_)
    · have hne : x ≠ 92 := fun e => by subst e; simp at h2
      rw [upP_plain hne] at hv
      simp only [↓ru, rv, rl, ry, tyf, iM, bM, bsM, cond_true, cond_false, Nat.reduceLT, Nat.reduceBEq, Nat.reduceAdd, Nat.reduceEqDiff, Nat.reduceMul, Nat.reduceLeDiff, Nat.reduceSub, Nat.reduceDiv, Int.reduceLE, Int.reduceLT, Int.reduceNeg, Int.reduceAdd, Int.reduceSub, Int.reduceMul, Int.reduceToNat, Int.reducePow, Int.reduceEq, ne_eq, reduceIte, byteD, hx, g2]
      refine grd_intro (by simp [pure2]; omega) ?_
      simp (disch := omega) only [wrap_i64, wrap_u8, wrap_u16, wrap_u64]
      refine loopL_drop (i + 1, o ++ [x]) ?_ ?_ ⟨by simp only; omega, by simp only; omega, by simp; omega, ?_⟩ (by omega) (by simp only; omega)
      · simp only [↓ru, rv, rl, ry, tyf, iM, bM, bsM, cond_true, cond_false, Nat.reduceLT, Nat.reduceBEq, Nat.reduceAdd, Nat.reduceEqDiff, Nat.reduceMul, Nat.reduceLeDiff, Nat.reduceSub, Nat.reduceDiv, Int.reduceLE, Int.reduceLT, Int.reduceNeg, Int.reduceAdd, Int.reduceSub, Int.reduceMul, Int.reduceToNat, Int.reducePow, Int.reduceEq, ne_eq, reduceIte, byteD]
        simp [pure2]
      · simp only [↓ru, rv, rl, ry, tyf, iM, bM, bsM, cond_true, cond_false, Nat.reduceLT, Nat.reduceBEq, Nat.reduceAdd, Nat.reduceEqDiff, Nat.reduceMul, Nat.reduceLeDiff, Nat.reduceSub, Nat.reduceDiv, Int.reduceLE, Int.reduceLT, Int.reduceNeg, Int.reduceAdd, Int.reduceSub, Int.reduceMul, Int.reduceToNat, Int.reducePow, Int.reduceEq, ne_eq, reduceIte, byteD]
        simp [pure2, byteD]
      · simp only
        rw [show i + 1 - 1 = i by omega, ← hv]
        simp [Option.map_map, Function.comp_def]
    · have he : x = 92 := by
        apply byte_inj.1
        simp at h2
        simp [h2]
      subst he
      simp only [↓ru, rv, rl, ry, tyf, iM, bM, bsM, cond_true, cond_false, Nat.reduceLT, Nat.reduceBEq, Nat.reduceAdd, Nat.reduceEqDiff, Nat.reduceMul, Nat.reduceLeDiff, Nat.reduceSub, Nat.reduceDiv, Int.reduceLE, Int.reduceLT, Int.reduceNeg, Int.reduceAdd, Int.reduceSub, Int.reduceMul, Int.reduceToNat, Int.reducePow, Int.reduceEq, ne_eq, reduceIte, byteD, hx, g2]
      simp (disch := omega) only [wrap_i64, wrap_u8, wrap_u16, wrap_u64]
      refine fork_split (fun h3 => ?_) (fun h3 => ?_)
      · have h3' := of_decide_eq_true h3
        rw [upP_short (by simp [inner_len]; omega)] at hv
        simp only [↓ru, rv, rl, ry, tyf, iM, bM, bsM, cond_true, cond_false, Nat.reduceLT, Nat.reduceBEq, Nat.reduceAdd, Nat.reduceEqDiff, Nat.reduceMul, Nat.reduceLeDiff, Nat.reduceSub, Nat.reduceDiv, Int.reduceLE, Int.reduceLT, Int.reduceNeg, Int.reduceAdd, Int.reduceSub, Int.reduceMul, Int.reduceToNat, Int.reducePow, Int.reduceEq, ne_eq, reduceIte, byteD, pureEnd_of (fn := Tryd.f98) (rs := [.tmp 2, .tmp 3]) (ts := [33, 4]) rfl rfl]
        rw [show unq s = none by rw [unq, if_neg hlen, ← hv]; rfl]; rfl
      · have h3' := of_decide_eq_false h3
        rw [inner_drop (j := i) (by omega), inner_drop (j := i + 1) (by omega), upP_esc] at hv
        generalize hr : (inner s).drop (i + 1 + 1) = rest at hv
        simp only [↓ru, rv, rl, ry, tyf, iM, bM, bsM, cond_true, cond_false, Nat.reduceLT, Nat.reduceBEq, Nat.reduceAdd, Nat.reduceEqDiff, Nat.reduceMul, Nat.reduceLeDiff, Nat.reduceSub, Nat.reduceDiv, Int.reduceLE, Int.reduceLT, Int.reduceNeg, Int.reduceAdd, Int.reduceSub, Int.reduceMul, Int.reduceToNat, Int.reducePow, Int.reduceEq, ne_eq, reduceIte, byteD]
        simp (disch := omega) only [wrap_i64, wrap_u8, wrap_u16, wrap_u64]
        refine grd_intro (by omega) ?_
        rw [show ((i : Int) + 1).toNat = i + 1 by omega, show ((i : Int) + 3 - ((i : Int) + 1)).toNat = 2 by omega, take2_drop (by omega)]
        generalize s.getD (i + 1) 0 = a at hv ⊢
        generalize s.getD (i + 1 + 1) 0 = b at hv ⊢
        refine acall1_pure (ParseHex [a, b] (by simp)) rfl rfl ?_
        obtain ⟨nn, bb, hph⟩ : ∃ nn bb, phex [a, b] = (nn, bb) := ⟨_, _, rfl⟩
        rw [hph] at hv
        cases bb with
        | false =>
          simp only [↓ru, rv, rl, ry, tyf, iM, bM, bsM, cond_true, cond_false, Nat.reduceLT, Nat.reduceBEq, Nat.reduceAdd, Nat.reduceEqDiff, Nat.reduceMul, Nat.reduceLeDiff, Nat.reduceSub, Nat.reduceDiv, Int.reduceLE, Int.reduceLT, Int.reduceNeg, Int.reduceAdd, Int.reduceSub, Int.reduceMul, Int.reduceToNat, Int.reducePow, Int.reduceEq, ne_eq, reduceIte, byteD, hph, pureEnd_of (fn := Tryd.f98) (rs := [.tmp 2, .tmp 3]) (ts := [33, 4]) rfl rfl]
          rw [show unq s = none by rw [unq, if_neg hlen, ← hv]; rfl]; rfl
        | true =>
          simp only [if_true] at hv
          simp only [↓ru, rv, rl, ry, tyf, iM, bM, bsM, cond_true, cond_false, Nat.reduceLT, Nat.reduceBEq, Nat.reduceAdd, Nat.reduceEqDiff, Nat.reduceMul, Nat.reduceLeDiff, Nat.reduceSub, Nat.reduceDiv, Int.reduceLE, Int.reduceLT, Int.reduceNeg, Int.reduceAdd, Int.reduceSub, Int.reduceMul, Int.reduceToNat, Int.reducePow, Int.reduceEq, ne_eq, reduceIte, byteD, hph]
          refine grd_intro (by simp [pure2]; omega) ?_
          simp (disch := omega) only [wrap_i64, wrap_u8, wrap_u16, wrap_u64]
          refine loopL_drop (i + 3, o ++ [u8 nn]) ?_ ?_ ⟨by simp only; omega, by simp only; omega, by simp; omega, ?_⟩ (by omega) (by simp only; omega)
          · simp only [↓ru, rv, rl, ry, tyf, iM, bM, bsM, cond_true, cond_false, Nat.reduceLT, Nat.reduceBEq, Nat.reduceAdd, Nat.reduceEqDiff, Nat.reduceMul, Nat.reduceLeDiff, Nat.reduceSub, Nat.reduceDiv, Int.reduceLE, Int.reduceLT, Int.reduceNeg, Int.reduceAdd, Int.reduceSub, Int.reduceMul, Int.reduceToNat, Int.reducePow, Int.reduceEq, ne_eq, reduceIte, byteD]
            simp [pure2]
            omega
          · simp only [↓ru, rv, rl, ry, tyf, iM, bM, bsM, cond_true, cond_false, Nat.reduceLT, Nat.reduceBEq, Nat.reduceAdd, Nat.reduceEqDiff, Nat.reduceMul, Nat.reduceLeDiff, Nat.reduceSub, Nat.reduceDiv, Int.reduceLE, Int.reduceLT, Int.reduceNeg, Int.reduceAdd, Int.reduceSub, Int.reduceMul, Int.reduceToNat, Int.reducePow, Int.reduceEq, ne_eq, reduceIte, byteD]
            simp [pure2, byteD]
          · simp only
            rw [show i + 3 - 1 = i + 1 + 1 by omega, hr, ← hv]
            simp [Option.map_map, Function.comp_def]
  · have h' := of_decide_eq_false h
    (try simp (disch := omega) only [wrap_i64, wrap_u8, wrap_u16, wrap_u64] at *)
    rw [List.drop_eq_nil_of_le (by rw [inner_len]; omega), upP_nil] at hv
    have hv2 : upP (inner s) = some o := by rw [← hv]; simp
    simp only [↓ru, rv, rl, ry, tyf, iM, bM, bsM, cond_true, cond_false, Nat.reduceLT, Nat.reduceBEq, Nat.reduceAdd, Nat.reduceEqDiff, Nat.reduceMul, Nat.reduceLeDiff, Nat.reduceSub, Nat.reduceDiv, Int.reduceLE, Int.reduceLT, Int.reduceNeg, Int.reduceAdd, Int.reduceSub, Int.reduceMul, Int.reduceToNat, Int.reducePow, Int.reduceEq, ne_eq, reduceIte, byteD]
    refine acall1_pure (Quote o (by omega)) rfl rfl ?_
    simp only [↓ru, rv, rl, ry, tyf, iM, bM, bsM, cond_true, cond_false, Nat.reduceLT, Nat.reduceBEq, Nat.reduceAdd, Nat.reduceEqDiff, Nat.reduceMul, Nat.reduceLeDiff, Nat.reduceSub, Nat.reduceDiv, Int.reduceLE, Int.reduceLT, Int.reduceNeg, Int.reduceAdd, Int.reduceSub, Int.reduceMul, Int.reduceToNat, Int.reducePow, Int.reduceEq, ne_eq, reduceIte, byteD]
    refine fork_split (fun h2 => ?_) (fun h2 => ?_)
    · simp only [↓ru, rv, rl, ry, tyf, iM, bM, bsM, cond_true, cond_false, Nat.reduceLT, Nat.reduceBEq, Nat.reduceAdd, Nat.reduceEqDiff, Nat.reduceMul, Nat.reduceLeDiff, Nat.reduceSub, Nat.reduceDiv, Int.reduceLE, Int.reduceLT, Int.reduceNeg, Int.reduceAdd, Int.reduceSub, Int.reduceMul, Int.reduceToNat, Int.reducePow, Int.reduceEq, ne_eq, reduceIte, byteD, pureEnd_of (fn := Tryd.f98) (rs := [.tmp 2, .tmp 3]) (ts := [33, 4]) rfl rfl]
      rw [show unq s = none by rw [unq, if_neg hlen, hv2]; simp at h2 ⊢; exact h2]; rfl
    · simp only [↓ru, rv, rl, ry, tyf, iM, bM, bsM, cond_true, cond_false, Nat.reduceLT, Nat.reduceBEq, Nat.reduceAdd, Nat.reduceEqDiff, Nat.reduceMul, Nat.reduceLeDiff, Nat.reduceSub, Nat.reduceDiv, Int.reduceLE, Int.reduceLT, Int.reduceNeg, Int.reduceAdd, Int.reduceSub, Int.reduceMul, Int.reduceToNat, Int.reducePow, Int.reduceEq, ne_eq, reduceIte, byteD, pureEnd_of (fn := Tryd.f98) (rs := [.tmp 2, .tmp 3]) (ts := [33, 4]) rfl rfl]
      rw [show unq s = some o by rw [unq, if_neg hlen, hv2]; simp at h2 ⊢; exact h2]; rfl
theorem UnquoteR (s : List UInt8) (hs : s.length ≤ 300000) : PFn Tryd.prog 121 [strM s] (.tup [bsM ((unq s).getD []), bM (unq s).isSome]) := by
  (refine PFn.of (prs := []) Tryd.func121 rfl rfl mix (by kernel_rfl) rfl rfl ?_; simp only [Tryd.ntmps121, argUpd])
  (try (simp only [↓ru, rv, rl, ry, tyf, iM, bM, bsM, cond_true, cond_false, Nat.reduceLT, Nat.reduceBEq, Nat.reduceAdd, Nat.reduceEqDiff, Nat.reduceMul, Nat.reduceLeDiff, Nat.reduceSub, Nat.reduceDiv, Int.reduceLE, Int.reduceLT, Int.reduceNeg, Int.reduceAdd, Int.reduceSub, Int.reduceMul, Int.reduceToNat, Int.reducePow, Int.reduceEq, ne_eq, reduceIte, byteD, pureEnd_of (fn := Tryd.f121) (rs := [.tmp 2, .tmp 3]) (ts := [33, 4]) rfl rfl, *])); repeat' ((first | (refine fork_split (fun _h => ?_) (fun _h => ?_)) | (refine gfork_split (fun _h => ?_) (fun _h => ?_)) | (refine dfork_split (fun _h => ?_) (fun _h => ?_))) <;> (try (simp only [↓ru, rv, rl, ry, tyf, iM, bM, bsM, cond_true, cond_false, Nat.reduceLT, Nat.reduceBEq, Nat.reduceAdd, Nat.reduceEqDiff, Nat.reduceMul, Nat.reduceLeDiff, Nat.reduceSub, Nat.reduceDiv, Int.reduceLE, Int.reduceLT, Int.reduceNeg, Int.reduceAdd, Int.reduceSub, Int.reduceMul, Int.reduceToNat, Int.reducePow, Int.reduceEq, ne_eq, reduceIte, byteD, pureEnd_of (fn := Tryd.f121) (rs := [.tmp 2, .tmp 3]) (ts := [33, 4]) rfl rfl, *])))
  · (try simp only [Bool.not_eq_true', Bool.not_eq_false', decide_eq_true_eq, decide_eq_false_iff_not] at *)
    rw [show unq s = none by rw [unq, if_pos (by omega)]]; rfl
  (try simp only [Bool.not_eq_true', Bool.not_eq_false', decide_eq_true_eq, decide_eq_false_iff_not] at *)
  have hlen : ¬ s.length < 2 := by omega
  refine aloop_thaw (t := 4) 1 (h := by simp only [↓ru, rv, rl, ry, tyf, iM, bM, bsM, cond_true, cond_false, Nat.reduceLT, Nat.reduceBEq, Nat.reduceAdd, Nat.reduceEqDiff, Nat.reduceMul, Nat.reduceLeDiff, Nat.reduceSub, Nat.reduceDiv, Int.reduceLE, Int.reduceLT, Int.reduceNeg, Int.reduceAdd, Int.reduceSub, Int.reduceMul, Int.reduceToNat, Int.reducePow, Int.reduceEq, ne_eq, reduceIte, byteD]) ?_
  refine aloop_lv (fun p : Nat × List UInt8 => [(0, strM s), (4, .hsl 7 p.2.length), (5, iM p.1)]) (fun p => [(7, .ar false 1 (pure2 (p.2.map byteD)))]) (fun p => 1 ≤ p.1 ∧ p.1 ≤ s.length ∧ p.2.length ≤ p.1 ∧ p.2 ++ upR (s.drop p.1) = upR (s.drop 1)) (fun p => s.length - p.1) 8 (1, []) ?_ ?_ ⟨by simp, by simp only; omega, by simp, by simp⟩ (by omega) ?_
  · simp only [↓ru, rv, rl, ry, tyf, iM, bM, bsM, cond_true, cond_false, Nat.reduceLT, Nat.reduceBEq, Nat.reduceAdd, Nat.reduceEqDiff, Nat.reduceMul, Nat.reduceLeDiff, Nat.reduceSub, Nat.reduceDiv, Int.reduceLE, Int.reduceLT, Int.reduceNeg, Int.reduceAdd, Int.reduceSub, Int.reduceMul, Int.reduceToNat, Int.reducePow, Int.reduceEq, ne_eq, reduceIte, byteD]
  · rfl
  rintro ⟨i, o⟩ e0 n ⟨hi1, hi2, ho, hv⟩
  simp only at hi1 hi2 ho hv
  simp only [↓ru, rv, rl, ry, tyf, iM, bM, bsM, cond_true, cond_false, Nat.reduceLT, Nat.reduceBEq, Nat.reduceAdd, Nat.reduceEqDiff, Nat.reduceMul, Nat.reduceLeDiff, Nat.reduceSub, Nat.reduceDiv, Int.reduceLE, Int.reduceLT, Int.reduceNeg, Int.reduceAdd, Int.reduceSub, Int.reduceMul, Int.reduceToNat, Int.reducePow, Int.reduceEq, ne_eq, reduceIte, byteD]
  simp (disch := omega) only [wrap_i64, wrap_u8, wrap_u16, wrap_u64]
  refine fork_split (fun h => ?_) (fun h => ?_)
  · have h' := of_decide_eq_true h
    rw [drop_getD (i := i) (by omega), drop_getD (i := i + 1) (by omega)] at hv
    generalize hx : s.getD i 0 = x at hv
    have g2 : (i : Int) < (s.length : Int) := by omega
    have plainC : x ≠ 92 ∨ ¬ i + 2 < s.length → x :: upR (s.drop (i + 1)) = upR (x :: s.getD (i + 1) 0 :: s.drop (i + 1 + 1)) := fun hc => by
      rcases hc with hc | hc
      · rw [upR_plain hc, ← drop_getD (by omega)]
      · have e : s.drop (i + 1 + 1) = [] := List.drop_eq_nil_of_le (by omega)
        rw [e, upR_two, drop_getD (i := i + 1) (by omega), e, upR_one]
    have nxt : x ≠ 92 ∨ ¬ i + 2 < s.length → (o ++ [x]) ++ upR (s.drop (i + 1)) = upR (s.drop 1) := fun hc => by
      rw [List.append_assoc, List.singleton_append, plainC hc, hv]
    (try (simp only [↓ru, rv, rl, ry, tyf, iM, bM, bsM, cond_true, cond_false, Nat.reduceLT, Nat.reduceBEq, Nat.reduceAdd, Nat.reduceEqDiff, Nat.reduceMul, Nat.reduceLeDiff, Nat.reduceSub, Nat.reduceDiv, Int.reduceLE, Int.reduceLT, Int.reduceNeg, Int.reduceAdd, Int.reduceSub, Int.reduceMul, Int.reduceToNat, Int.reducePow, Int.reduceEq, ne_eq, reduceIte, byteD, hx, g2, *])); repeat' ((first | (refine fork_split (fun _h => ?_) (fun _h => ?_)) | (refine gfork_split (fun _h => ?_) (fun _h => ?_)) | (refine dfork_split (fun _h => ?_) (fun _h => ?_))) <;> (try (simp only [↓ru, rv, rl, ry, tyf, iM, bM, bsM, cond_true, cond_false, Nat.reduceLT, Nat.reduceBEq, Nat.reduceAdd, Nat.reduceEqDiff, Nat.reduceMul, Nat.reduceLeDiff, Nat.reduceSub, Nat.reduceDiv, Int.reduceLE, Int.reduceLT, Int.reduceNeg, Int.reduceAdd, Int.reduceSub, Int.reduceMul, Int.reduceToNat, Int.reducePow, Int.reduceEq, ne_eq, reduceIte, byteD, hx, g2, *])))
    all_goals (try simp only [Bool.not_eq_true', Bool.not_eq_false', decide_eq_true_eq, decide_eq_false_iff_not] at *)
    · -- an escape
      rw [wrap_i64 (by omega) (by omega)] at _h
      have he : x = 92 := byte_inj.1 (by rename_i hh; simpa using hh)
      subst he
      rw [drop_getD (i := i + 1 + 1) (by omega), upR_esc] at hv
      simp (disch := omega) only [wrap_i64, wrap_u8, wrap_u16, wrap_u64]
      refine grd_intro (by omega) ?_
      rw [show ((i : Int) + 1).toNat = i + 1 by omega, show ((i : Int) + 3 - ((i : Int) + 1)).toNat = 2 by omega, take2_drop (by omega)]
      generalize s.getD (i + 1) 0 = a at hv ⊢
      generalize s.getD (i + 1 + 1) 0 = b at hv ⊢
      refine acall1_pure (ParseHexR [a, b] (by simp)) rfl rfl ?_
      obtain ⟨nn, bb, hph⟩ : ∃ nn bb, phex [a, b] = (nn, bb) := ⟨_, _, rfl⟩
      rw [hph] at hv
      simp only [↓ru, rv, rl, ry, tyf, iM, bM, bsM, cond_true, cond_false, Nat.reduceLT, Nat.reduceBEq, Nat.reduceAdd, Nat.reduceEqDiff, Nat.reduceMul, Nat.reduceLeDiff, Nat.reduceSub, Nat.reduceDiv, Int.reduceLE, Int.reduceLT, Int.reduceNeg, Int.reduceAdd, Int.reduceSub, Int.reduceMul, Int.reduceToNat, Int.reducePow, Int.reduceEq, ne_eq, reduceIte, byteD, hph]
      refine grd_intro (by simp [pure2]; omega) ?_
      simp (disch := omega) only [wrap_i64, wrap_u8, wrap_u16, wrap_u64]
      refine loopL_drop (i + 3, o ++ [u8 nn]) ?_ ?_ ⟨by simp only; omega, by simp only; omega, by simp; omega, by simpa using hv⟩ (by omega) (by simp only; omega)
      · simp only [↓ru, rv, rl, ry, tyf, iM, bM, bsM, cond_true, cond_false, Nat.reduceLT, Nat.reduceBEq, Nat.reduceAdd, Nat.reduceEqDiff, Nat.reduceMul, Nat.reduceLeDiff, Nat.reduceSub, Nat.reduceDiv, Int.reduceLE, Int.reduceLT, Int.reduceNeg, Int.reduceAdd, Int.reduceSub, Int.reduceMul, Int.reduceToNat, Int.reducePow, Int.reduceEq, ne_eq, reduceIte, byteD]
        simp [pure2]
        omega
      · simp only [↓ru, rv, rl, ry, tyf, iM, bM, bsM, cond_true, cond_false, Nat.reduceLT, Nat.reduceBEq, Nat.reduceAdd, Nat.reduceEqDiff, Nat.reduceMul, Nat.reduceLeDiff, Nat.reduceSub, Nat.reduceDiv, Int.reduceLE, Int.reduceLT, Int.reduceNeg, Int.reduceAdd, Int.reduceSub, Int.reduceMul, Int.reduceToNat, Int.reducePow, Int.reduceEq, ne_eq, reduceIte, byteD]
        simp [pure2, byteD]
    · rw [wrap_i64 (by omega) (by omega)] at _h
      refine grd_intro (by simp [pure2]; omega) ?_
      simp (disch := omega) only [wrap_i64, wrap_u8, wrap_u16, wrap_u64]
      refine loopL_drop (i + 1, o ++ [x]) ?_ ?_ ⟨by simp only; omega, by simp only; omega, by simp; omega, nxt (.inr (by omega))⟩ (by omega) (by simp only; omega)
      · simp only [↓ru, rv, rl, ry, tyf, iM, bM, bsM, cond_true, cond_false, Nat.reduceLT, Nat.reduceBEq, Nat.reduceAdd, Nat.reduceEqDiff, Nat.reduceMul, Nat.reduceLeDiff, Nat.reduceSub, Nat.reduceDiv, Int.reduceLE, Int.reduceLT, Int.reduceNeg, Int.reduceAdd, Int.reduceSub, Int.reduceMul, Int.reduceToNat, Int.reducePow, Int.reduceEq, ne_eq, reduceIte, byteD]
        simp [pure2]
      · simp only [↓ru, rv, rl, ry, tyf, iM, bM, bsM, cond_true, cond_false, Nat.reduceLT, Nat.reduceBEq, Nat.reduceAdd, Nat.reduceEqDiff, Nat.reduceMul, Nat.reduceLeDiff, Nat.reduceSub, Nat.reduceDiv, Int.reduceLE, Int.reduceLT, Int.reduceNeg, Int.reduceAdd, Int.reduceSub, Int.reduceMul, Int.reduceToNat, Int.reducePow, Int.reduceEq, ne_eq, reduceIte, byteD]
        simp [pure2, byteD]
    · refine grd_intro (by simp [pure2]; omega) ?_
      simp (disch := omega) only [wrap_i64, wrap_u8, wrap_u16, wrap_u64]
      refine loopL_drop (i + 1, o ++ [x]) ?_ ?_ ⟨by simp only; omega, by simp only; omega, by simp; omega, nxt (.inl fun e => by subst e; exact absurd rfl _h)⟩ (by omega) (by simp only; omega)
      · simp only [↓ru, rv, rl, ry, tyf, iM, bM, bsM, cond_true, cond_false, Nat.reduceLT, Nat.reduceBEq, Nat.reduceAdd, Nat.reduceEqDiff, Nat.reduceMul, Nat.reduceLeDiff, Nat.reduceSub, Nat.reduceDiv, Int.reduceLE, Int.reduceLT, Int.reduceNeg, Int.reduceAdd, Int.reduceSub, Int.reduceMul, Int.reduceToNat, Int.reducePow, Int.reduceEq, ne_eq, reduceIte, byteD]
        simp [pure2]
      · simp only [↓ru, rv, rl, ry, tyf, iM, bM, bsM, cond_true, cond_false, Nat.reduceLT, Nat.reduceBEq, Nat.reduceAdd, Nat.reduceEqDiff, Nat.reduceMul, Nat.reduceLeDiff, Nat.reduceSub, Nat.reduceDiv, Int.reduceLE, Int.reduceLT, Int.reduceNeg, Int.reduceAdd, Int.reduceSub, Int.reduceMul, Int.reduceToNat, Int.reducePow, Int.reduceEq, ne_eq, reduceIte, byteD]
        simp [pure2, byteD]
  · have h' := of_decide_eq_false h
    have hv2 : upR (s.drop 1) = o := by
      rw [← hv]
      have hd : (s.drop i).length ≤ 1 := by simp; omega
      match hm : s.drop i, hd with
      | [], _ => rw [upR_nil, List.append_nil]
      | [y], _ => rw [upR_one, List.append_nil]
    simp only [↓ru, rv, rl, ry, tyf, iM, bM, bsM, cond_true, cond_false, Nat.reduceLT, Nat.reduceBEq, Nat.reduceAdd, Nat.reduceEqDiff, Nat.reduceMul, Nat.reduceLeDiff, Nat.reduceSub, Nat.reduceDiv, Int.reduceLE, Int.reduceLT, Int.reduceNeg, Int.reduceAdd, Int.reduceSub, Int.reduceMul, Int.reduceToNat, Int.reducePow, Int.reduceEq, ne_eq, reduceIte, byteD]
    refine acall1_pure (QuoteR o (by omega)) rfl rfl ?_
    simp only [↓ru, rv, rl, ry, tyf, iM, bM, bsM, cond_true, cond_false, Nat.reduceLT, Nat.reduceBEq, Nat.reduceAdd, Nat.reduceEqDiff, Nat.reduceMul, Nat.reduceLeDiff, Nat.reduceSub, Nat.reduceDiv, Int.reduceLE, Int.reduceLT, Int.reduceNeg, Int.reduceAdd, Int.reduceSub, Int.reduceMul, Int.reduceToNat, Int.reducePow, Int.reduceEq, ne_eq, reduceIte, byteD]
    refine fork_split (fun h2 => ?_) (fun h2 => ?_)
    · simp only [↓ru, rv, rl, ry, tyf, iM, bM, bsM, cond_true, cond_false, Nat.reduceLT, Nat.reduceBEq, Nat.reduceAdd, Nat.reduceEqDiff, Nat.reduceMul, Nat.reduceLeDiff, Nat.reduceSub, Nat.reduceDiv, Int.reduceLE, Int.reduceLT, Int.reduceNeg, Int.reduceAdd, Int.reduceSub, Int.reduceMul, Int.reduceToNat, Int.reducePow, Int.reduceEq, ne_eq, reduceIte, byteD, pureEnd_of (fn := Tryd.f121) (rs := [.tmp 2, .tmp 3]) (ts := [33, 4]) rfl rfl]
      rw [show unq s = none by rw [unq_ref, if_neg hlen, hv2]; simp at h2 ⊢; exact h2]; rfl
    · simp only [↓ru, rv, rl, ry, tyf, iM, bM, bsM, cond_true, cond_false, Nat.reduceLT, Nat.reduceBEq, Nat.reduceAdd, Nat.reduceEqDiff, Nat.reduceMul, Nat.reduceLeDiff, Nat.reduceSub, Nat.reduceDiv, Int.reduceLE, Int.reduceLT, Int.reduceNeg, Int.reduceAdd, Int.reduceSub, Int.reduceMul, Int.reduceToNat, Int.reducePow, Int.reduceEq, ne_eq, reduceIte, byteD, pureEnd_of (fn := Tryd.f121) (rs := [.tmp 2, .tmp 3]) (ts := [33, 4]) rfl rfl]
      rw [show unq s = some o by rw [unq_ref, if_neg hlen, hv2]; simp at h2 ⊢; exact h2]; rfl
end Go.TW

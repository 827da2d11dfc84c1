import Derived.Test.YtmgfnlnomecbiaaDoorT2
set_option linter.all false
open Go.Proofs Go.Abs Go.Fa Go.BU Go.TX
namespace Go.TW
set_option maxHeartbeats 4000000
set_option maxRecDepth 10000

theorem pow10 {i : Nat} (h : i ≤ 9) : (10 : Int) ^ i ≤ 1000000000 ∧ 1 ≤ (10 : Int) ^ i := by
  have e : ((10 ^ i : Nat) : Int) = (10 : Int) ^ i := by simp
  have h1 : 10 ^ i ≤ 10 ^ 9 := Nat.pow_le_pow_right (by omega) h
  have h2 : 1 ≤ 10 ^ i := Nat.one_le_pow _ _ (by omega)
  omega
theorem take_getD {s : List UInt8} {i : Nat} (h : i < s.length) : s.take (i + 1) = s.take i ++ [s.getD i 0] := by
  rw [List.take_add_one, List.getElem?_eq_getElem h]; simp [List.getD, h]
theorem pdec_bad {s : List UInt8} {x : UInt8} (hx : x ∈ s) (h : isDig x = false) : pdec s = (0, false) := by
  rw [pdec, if_neg]
  rintro ⟨_, _, h3⟩
  have := dec_dig (decVal s 0)
  rw [h3, List.all_eq_true] at this
  rw [this x hx] at h; cases h
theorem u8_sub {x : UInt8} (h : 48 ≤ (x.toNat : Int)) : ((u8 ((x.toNat : Int) - 48)).toNat : Int) = (x.toNat : Int) - 48 := by
  have := x.toNat_lt
  exact u8_small (by omega) (by omega)

theorem ParseDecimal (s : List UInt8) (hs : s.length ≤ 9223372036854775807) : PFn Tryd.prog 92 [strM s] (.tup [iM (pdec s).1, bM (pdec s).2]) := by
  (refine PFn.of (prs := []) Tryd.func92 rfl rfl mix (by kernel_rfl) rfl rfl ?_; simp only [Tryd.ntmps92, argUpd])
  (try (simp only [↓ru, rv, rl, ry, tyf, iM, bM, bsM, cond_true, cond_false, Nat.reduceLT, Nat.reduceBEq, Nat.reduceAdd, Nat.reduceEqDiff, Nat.reduceMul, Nat.reduceLeDiff, Nat.reduceSub, Nat.reduceDiv, Int.reduceLE, Int.reduceLT, Int.reduceNeg, Int.reduceAdd, Int.reduceSub, Int.reduceMul, Int.reduceToNat, Int.reducePow, Int.reduceEq, ne_eq, reduceIte, pureEnd_of (fn := Tryd.f92) (rs := [.tmp 2, .tmp 3]) (ts := [3, 4]) rfl rfl, *])); repeat' ((first | (refine fork_split (fun _h => ?_) (fun _h => ?_)) | (refine gfork_split (fun _h => ?_) (fun _h => ?_)) | (refine dfork_split (fun _h => ?_) (fun _h => ?_))) <;> (try (simp only [↓ru, rv, rl, ry, tyf, iM, bM, bsM, cond_true, cond_false, Nat.reduceLT, Nat.reduceBEq, Nat.reduceAdd, Nat.reduceEqDiff, Nat.reduceMul, Nat.reduceLeDiff, Nat.reduceSub, Nat.reduceDiv, Int.reduceLE, Int.reduceLT, Int.reduceNeg, Int.reduceAdd, Int.reduceSub, Int.reduceMul, Int.reduceToNat, Int.reducePow, Int.reduceEq, ne_eq, reduceIte, pureEnd_of (fn := Tryd.f92) (rs := [.tmp 2, .tmp 3]) (ts := [3, 4]) rfl rfl, *])))
  · have : pdec s = (0, false) := by rw [pdec, if_neg]; simp_all
    rw [this]
  · have : pdec s = (0, false) := by rw [pdec, if_neg]; simp_all; omega
    rw [this]
  have h1 : s ≠ [] ∧ s.length ≤ 9 := by simp_all; omega
  refine aloop_lv (fun p : Nat × Int => [(0, strM s), (4, iM p.2), (14, iM s.length), (15, iM p.1)]) (fun _ => []) (fun p => p.1 ≤ s.length ∧ decVal (s.take p.1) 0 = p.2 ∧ 0 ≤ p.2 ∧ p.2 ≤ 10 ^ p.1 - 1) (fun p => s.length - p.1) 0 (0, 0) ?_ rfl ⟨by simp, by simp [decVal], by simp, by simp⟩ (by omega) ?_
  · simp only [↓ru, rv, rl, ry, tyf, iM, bM, bsM, cond_true, cond_false, Nat.reduceLT, Nat.reduceBEq, Nat.reduceAdd, Nat.reduceEqDiff, Nat.reduceMul, Nat.reduceLeDiff, Nat.reduceSub, Nat.reduceDiv, Int.reduceLE, Int.reduceLT, Int.reduceNeg, Int.reduceAdd, Int.reduceSub, Int.reduceMul, Int.reduceToNat, Int.reducePow, Int.reduceEq, ne_eq, reduceIte]
  rintro ⟨i, n⟩ e0 k ⟨hi, hv, hn, hn2⟩
  simp only at hi hv hn hn2
  simp only [↓ru, rv, rl, ry, tyf, iM, bM, bsM, cond_true, cond_false, Nat.reduceLT, Nat.reduceBEq, Nat.reduceAdd, Nat.reduceEqDiff, Nat.reduceMul, Nat.reduceLeDiff, Nat.reduceSub, Nat.reduceDiv, Int.reduceLE, Int.reduceLT, Int.reduceNeg, Int.reduceAdd, Int.reduceSub, Int.reduceMul, Int.reduceToNat, Int.reducePow, Int.reduceEq, ne_eq, reduceIte]
  refine fork_split (fun h => ?_) (fun h => ?_)
  · have h' := of_decide_eq_true h
    have hp := pow10 (i := i) (by omega)
    have hxm : s.getD i 0 ∈ s := by simp [List.getD, show i < s.length by omega]
    have ht := take_getD (s := s) (i := i) (by omega)
    generalize hx : s.getD i 0 = x at hxm ht
    have hxl := x.toNat_lt
    simp only [↓ru, rv, rl, ry, tyf, iM, bM, bsM, cond_true, cond_false, Nat.reduceLT, Nat.reduceBEq, Nat.reduceAdd, Nat.reduceEqDiff, Nat.reduceMul, Nat.reduceLeDiff, Nat.reduceSub, Nat.reduceDiv, Int.reduceLE, Int.reduceLT, Int.reduceNeg, Int.reduceAdd, Int.reduceSub, Int.reduceMul, Int.reduceToNat, Int.reducePow, Int.reduceEq, ne_eq, reduceIte, hx]
    refine grd_intro (by omega) ?_
    (try (simp only [↓ru, rv, rl, ry, tyf, iM, bM, bsM, cond_true, cond_false, Nat.reduceLT, Nat.reduceBEq, Nat.reduceAdd, Nat.reduceEqDiff, Nat.reduceMul, Nat.reduceLeDiff, Nat.reduceSub, Nat.reduceDiv, Int.reduceLE, Int.reduceLT, Int.reduceNeg, Int.reduceAdd, Int.reduceSub, Int.reduceMul, Int.reduceToNat, Int.reducePow, Int.reduceEq, ne_eq, reduceIte, hx, pureEnd_of (fn := Tryd.f92) (rs := [.tmp 2, .tmp 3]) (ts := [3, 4]) rfl rfl, *])); repeat' ((first | (refine fork_split (fun _h => ?_) (fun _h => ?_)) | (refine gfork_split (fun _h => ?_) (fun _h => ?_)) | (refine dfork_split (fun _h => ?_) (fun _h => ?_))) <;> (try (simp only [↓ru, rv, rl, ry, tyf, iM, bM, bsM, cond_true, cond_false, Nat.reduceLT, Nat.reduceBEq, Nat.reduceAdd, Nat.reduceEqDiff, Nat.reduceMul, Nat.reduceLeDiff, Nat.reduceSub, Nat.reduceDiv, Int.reduceLE, Int.reduceLT, Int.reduceNeg, Int.reduceAdd, Int.reduceSub, Int.reduceMul, Int.reduceToNat, Int.reducePow, Int.reduceEq, ne_eq, reduceIte, hx, pureEnd_of (fn := Tryd.f92) (rs := [.tmp 2, .tmp 3]) (ts := [3, 4]) rfl rfl, *])))
    · rw [pdec_bad hxm (by simp [isDig] at _h ⊢; omega)]
    · rw [pdec_bad hxm (by simp [isDig] at _h ⊢; omega)]
    · (try simp only [Bool.not_eq_true', Bool.not_eq_false', decide_eq_true_eq, decide_eq_false_iff_not] at *)
      rw [u8_sub (by omega)]
      simp (disch := omega) only [wrap_i64, wrap_u8, wrap_u16, wrap_u64]
      refine loopL_next (i + 1, 10 * n + ((x.toNat : Int) - 48)) ?_ rfl ⟨by simp only; omega, by simp only; rw [ht, decVal_append, hv]; rfl, by simp only; omega, by simp only; rw [Int.pow_succ]; omega⟩ (by omega) (by simp only; omega)
      simp only [↓ru, rv, rl, ry, tyf, iM, bM, bsM, cond_true, cond_false, Nat.reduceLT, Nat.reduceBEq, Nat.reduceAdd, Nat.reduceEqDiff, Nat.reduceMul, Nat.reduceLeDiff, Nat.reduceSub, Nat.reduceDiv, Int.reduceLE, Int.reduceLT, Int.reduceNeg, Int.reduceAdd, Int.reduceSub, Int.reduceMul, Int.reduceToNat, Int.reducePow, Int.reduceEq, ne_eq, reduceIte]
      simp
  · have h' := of_decide_eq_false h
    have hp := pow10 (i := i) (by omega)
    have : i = s.length := by omega
    subst this
    rw [List.take_length] at hv
    simp only [↓ru, rv, rl, ry, tyf, iM, bM, bsM, cond_true, cond_false, Nat.reduceLT, Nat.reduceBEq, Nat.reduceAdd, Nat.reduceEqDiff, Nat.reduceMul, Nat.reduceLeDiff, Nat.reduceSub, Nat.reduceDiv, Int.reduceLE, Int.reduceLT, Int.reduceNeg, Int.reduceAdd, Int.reduceSub, Int.reduceMul, Int.reduceToNat, Int.reducePow, Int.reduceEq, ne_eq, reduceIte]
    refine acall1_pure (Decimal n ⟨by omega, by omega⟩) rfl rfl ?_
    simp only [↓ru, rv, rl, ry, tyf, iM, bM, bsM, cond_true, cond_false, Nat.reduceLT, Nat.reduceBEq, Nat.reduceAdd, Nat.reduceEqDiff, Nat.reduceMul, Nat.reduceLeDiff, Nat.reduceSub, Nat.reduceDiv, Int.reduceLE, Int.reduceLT, Int.reduceNeg, Int.reduceAdd, Int.reduceSub, Int.reduceMul, Int.reduceToNat, Int.reducePow, Int.reduceEq, ne_eq, reduceIte]
    refine fork_split (fun h2 => ?_) (fun h2 => ?_)
    · simp only [↓ru, rv, rl, ry, tyf, iM, bM, bsM, cond_true, cond_false, Nat.reduceLT, Nat.reduceBEq, Nat.reduceAdd, Nat.reduceEqDiff, Nat.reduceMul, Nat.reduceLeDiff, Nat.reduceSub, Nat.reduceDiv, Int.reduceLE, Int.reduceLT, Int.reduceNeg, Int.reduceAdd, Int.reduceSub, Int.reduceMul, Int.reduceToNat, Int.reducePow, Int.reduceEq, ne_eq, reduceIte, pureEnd_of (fn := Tryd.f92) (rs := [.tmp 2, .tmp 3]) (ts := [3, 4]) rfl rfl]
      rw [pdec, if_neg (by simp_all)]
    · simp only [↓ru, rv, rl, ry, tyf, iM, bM, bsM, cond_true, cond_false, Nat.reduceLT, Nat.reduceBEq, Nat.reduceAdd, Nat.reduceEqDiff, Nat.reduceMul, Nat.reduceLeDiff, Nat.reduceSub, Nat.reduceDiv, Int.reduceLE, Int.reduceLT, Int.reduceNeg, Int.reduceAdd, Int.reduceSub, Int.reduceMul, Int.reduceToNat, Int.reducePow, Int.reduceEq, ne_eq, reduceIte, pureEnd_of (fn := Tryd.f92) (rs := [.tmp 2, .tmp 3]) (ts := [3, 4]) rfl rfl]
      rw [pdec, if_pos (by simp_all), hv]

theorem DecimalR (n : Int) (hn : -9223372036854775808 ≤ n ∧ n ≤ 9223372036854775807) : PFn Tryd.prog 45 [iM n] (strM (dec n)) := by
  (refine PFn.of (prs := []) Tryd.func45 rfl rfl mix (by kernel_rfl) rfl rfl ?_; simp only [Tryd.ntmps45, argUpd])
  (try (simp only [↓ru, rv, rl, ry, tyf, iM, bM, bsM, cond_true, cond_false, Nat.reduceLT, Nat.reduceBEq, Nat.reduceAdd, Nat.reduceEqDiff, Nat.reduceMul, Nat.reduceLeDiff, Nat.reduceSub, Nat.reduceDiv, Int.reduceLE, Int.reduceLT, Int.reduceNeg, Int.reduceAdd, Int.reduceSub, Int.reduceMul, Int.reduceToNat, Int.reducePow, Int.reduceEq, ne_eq, reduceIte, pureEnd_of (fn := Tryd.f45) (rs := [.tmp 2]) (ts := [9]) rfl rfl, *])); repeat' ((first | (refine fork_split (fun _h => ?_) (fun _h => ?_)) | (refine gfork_split (fun _h => ?_) (fun _h => ?_)) | (refine dfork_split (fun _h => ?_) (fun _h => ?_))) <;> (try (simp only [↓ru, rv, rl, ry, tyf, iM, bM, bsM, cond_true, cond_false, Nat.reduceLT, Nat.reduceBEq, Nat.reduceAdd, Nat.reduceEqDiff, Nat.reduceMul, Nat.reduceLeDiff, Nat.reduceSub, Nat.reduceDiv, Int.reduceLE, Int.reduceLT, Int.reduceNeg, Int.reduceAdd, Int.reduceSub, Int.reduceMul, Int.reduceToNat, Int.reducePow, Int.reduceEq, ne_eq, reduceIte, pureEnd_of (fn := Tryd.f45) (rs := [.tmp 2]) (ts := [9]) rfl rfl, *])))
  all_goals (try simp only [Bool.not_eq_true', Bool.not_eq_false', decide_eq_true_eq, decide_eq_false_iff_not] at *)
  · rw [dec, if_pos (by omega)]
  · rw [dec, if_pos (by omega)]
  · obtain ⟨u, rfl⟩ : ∃ u : Nat, n = u := ⟨n.toNat, by omega⟩
    refine acall1_pure (digits 10 (by omega) u (by omega)) rfl rfl ?_
    simp only [↓ru, rv, rl, ry, tyf, iM, bM, bsM, cond_true, cond_false, Nat.reduceLT, Nat.reduceBEq, Nat.reduceAdd, Nat.reduceEqDiff, Nat.reduceMul, Nat.reduceLeDiff, Nat.reduceSub, Nat.reduceDiv, Int.reduceLE, Int.reduceLT, Int.reduceNeg, Int.reduceAdd, Int.reduceSub, Int.reduceMul, Int.reduceToNat, Int.reducePow, Int.reduceEq, ne_eq, reduceIte]
    refine acall1_pure (word _ (fun d hd => by have := digs_range 10 (by omega) u d hd; omega) (by have := digs_len 63 10 u (by omega) (by omega); omega)) rfl rfl ?_
    simp only [↓ru, rv, rl, ry, tyf, iM, bM, bsM, cond_true, cond_false, Nat.reduceLT, Nat.reduceBEq, Nat.reduceAdd, Nat.reduceEqDiff, Nat.reduceMul, Nat.reduceLeDiff, Nat.reduceSub, Nat.reduceDiv, Int.reduceLE, Int.reduceLT, Int.reduceNeg, Int.reduceAdd, Int.reduceSub, Int.reduceMul, Int.reduceToNat, Int.reducePow, Int.reduceEq, ne_eq, reduceIte, pureEnd_of (fn := Tryd.f45) (rs := [.tmp 2]) (ts := [9]) rfl rfl]
    rw [dec, if_neg (by omega), digs_dec]; simp

theorem HexR (n d : Int) (hn : -9223372036854775808 ≤ n ∧ n ≤ 9223372036854775807) (hd : -9223372036854775808 ≤ d ∧ d ≤ 9223372036854775807) : PFn Tryd.prog 46 [iM n, iM d] (strM (hexF n d)) := by
  (refine PFn.of (prs := []) Tryd.func46 rfl rfl mix (by kernel_rfl) rfl rfl ?_; simp only [Tryd.ntmps46, argUpd])
  (try (simp only [↓ru, rv, rl, ry, tyf, iM, bM, bsM, cond_true, cond_false, Nat.reduceLT, Nat.reduceBEq, Nat.reduceAdd, Nat.reduceEqDiff, Nat.reduceMul, Nat.reduceLeDiff, Nat.reduceSub, Nat.reduceDiv, Int.reduceLE, Int.reduceLT, Int.reduceNeg, Int.reduceAdd, Int.reduceSub, Int.reduceMul, Int.reduceToNat, Int.reducePow, Int.reduceEq, ne_eq, reduceIte, pureEnd_of (fn := Tryd.f46) (rs := [.tmp 4]) (ts := [9]) rfl rfl, *])); repeat' ((first | (refine fork_split (fun _h => ?_) (fun _h => ?_)) | (refine gfork_split (fun _h => ?_) (fun _h => ?_)) | (refine dfork_split (fun _h => ?_) (fun _h => ?_))) <;> (try (simp only [↓ru, rv, rl, ry, tyf, iM, bM, bsM, cond_true, cond_false, Nat.reduceLT, Nat.reduceBEq, Nat.reduceAdd, Nat.reduceEqDiff, Nat.reduceMul, Nat.reduceLeDiff, Nat.reduceSub, Nat.reduceDiv, Int.reduceLE, Int.reduceLT, Int.reduceNeg, Int.reduceAdd, Int.reduceSub, Int.reduceMul, Int.reduceToNat, Int.reducePow, Int.reduceEq, ne_eq, reduceIte, pureEnd_of (fn := Tryd.f46) (rs := [.tmp 4]) (ts := [9]) rfl rfl, *])))
  all_goals (try simp only [Bool.not_eq_true', Bool.not_eq_false', decide_eq_true_eq, decide_eq_false_iff_not] at *)
  · rw [hexF, if_pos (by omega)]
  · rw [hexF, if_pos (by omega)]
  · rw [hexF, if_pos (by omega)]
  obtain ⟨u, rfl⟩ : ∃ u : Nat, n = u := ⟨n.toNat, by omega⟩
  obtain ⟨k, rfl⟩ : ∃ k : Nat, d = k := ⟨d.toNat, by omega⟩
  refine acall1_pure (digits 16 (by omega) u (by omega)) rfl rfl ?_
  have hlen := digs_len 63 16 u (by omega) (by omega)
  simp only [↓ru, rv, rl, ry, tyf, iM, bM, bsM, cond_true, cond_false, Nat.reduceLT, Nat.reduceBEq, Nat.reduceAdd, Nat.reduceEqDiff, Nat.reduceMul, Nat.reduceLeDiff, Nat.reduceSub, Nat.reduceDiv, Int.reduceLE, Int.reduceLT, Int.reduceNeg, Int.reduceAdd, Int.reduceSub, Int.reduceMul, Int.reduceToNat, Int.reducePow, Int.reduceEq, ne_eq, reduceIte]
  refine aloop_lv (fun j : Nat => [(1, iM k), (5, intsM (List.replicate j 0 ++ digs 16 u))]) (fun _ => []) (fun j => j ≤ k - (digs 16 u).length) (fun j => k - j) 0 0 ?_ rfl (by omega) (by omega) ?_
  · simp only [↓ru, rv, rl, ry, tyf, iM, bM, bsM, cond_true, cond_false, Nat.reduceLT, Nat.reduceBEq, Nat.reduceAdd, Nat.reduceEqDiff, Nat.reduceMul, Nat.reduceLeDiff, Nat.reduceSub, Nat.reduceDiv, Int.reduceLE, Int.reduceLT, Int.reduceNeg, Int.reduceAdd, Int.reduceSub, Int.reduceMul, Int.reduceToNat, Int.reducePow, Int.reduceEq, ne_eq, reduceIte]
  intro j e0 m hj
  simp only [↓ru, rv, rl, ry, tyf, iM, bM, bsM, cond_true, cond_false, Nat.reduceLT, Nat.reduceBEq, Nat.reduceAdd, Nat.reduceEqDiff, Nat.reduceMul, Nat.reduceLeDiff, Nat.reduceSub, Nat.reduceDiv, Int.reduceLE, Int.reduceLT, Int.reduceNeg, Int.reduceAdd, Int.reduceSub, Int.reduceMul, Int.reduceToNat, Int.reducePow, Int.reduceEq, ne_eq, reduceIte]
  refine fork_split (fun h => ?_) (fun h => ?_)
  · have h' := of_decide_eq_true h
    simp at h'
    simp only [↓ru, rv, rl, ry, tyf, iM, bM, bsM, cond_true, cond_false, Nat.reduceLT, Nat.reduceBEq, Nat.reduceAdd, Nat.reduceEqDiff, Nat.reduceMul, Nat.reduceLeDiff, Nat.reduceSub, Nat.reduceDiv, Int.reduceLE, Int.reduceLT, Int.reduceNeg, Int.reduceAdd, Int.reduceSub, Int.reduceMul, Int.reduceToNat, Int.reducePow, Int.reduceEq, ne_eq, reduceIte]
    refine grd_intro (by simp [pure2]; omega) ?_
    refine loopL_snap (j + 1) 5 ((List.replicate (j + 1) 0 ++ digs 16 u).map fun x => [iD x]) upd_same get_head ?_ ?_ ?_ trivial (by omega) (by omega) (by omega)
    · simp [pure2, iD, List.replicate_succ]
    · simp; omega
    · simp only [↓ru, rv, rl, ry, tyf, iM, bM, bsM, cond_true, cond_false, Nat.reduceLT, Nat.reduceBEq, Nat.reduceAdd, Nat.reduceEqDiff, Nat.reduceMul, Nat.reduceLeDiff, Nat.reduceSub, Nat.reduceDiv, Int.reduceLE, Int.reduceLT, Int.reduceNeg, Int.reduceAdd, Int.reduceSub, Int.reduceMul, Int.reduceToNat, Int.reducePow, Int.reduceEq, ne_eq, reduceIte]
      rfl
  · have h' := of_decide_eq_false h
    simp at h'
    have hp : ((16 ^ k : Nat) : Int) = (16 : Int) ^ (k : Int).toNat := by simp
    simp only [↓ru, rv, rl, ry, tyf, iM, bM, bsM, cond_true, cond_false, Nat.reduceLT, Nat.reduceBEq, Nat.reduceAdd, Nat.reduceEqDiff, Nat.reduceMul, Nat.reduceLeDiff, Nat.reduceSub, Nat.reduceDiv, Int.reduceLE, Int.reduceLT, Int.reduceNeg, Int.reduceAdd, Int.reduceSub, Int.reduceMul, Int.reduceToNat, Int.reducePow, Int.reduceEq, ne_eq, reduceIte]
    refine fork_split (fun h2 => ?_) (fun h2 => ?_)
    · have h2' := of_decide_eq_true h2
      simp at h2'
      simp only [↓ru, rv, rl, ry, tyf, iM, bM, bsM, cond_true, cond_false, Nat.reduceLT, Nat.reduceBEq, Nat.reduceAdd, Nat.reduceEqDiff, Nat.reduceMul, Nat.reduceLeDiff, Nat.reduceSub, Nat.reduceDiv, Int.reduceLE, Int.reduceLT, Int.reduceNeg, Int.reduceAdd, Int.reduceSub, Int.reduceMul, Int.reduceToNat, Int.reducePow, Int.reduceEq, ne_eq, reduceIte, pureEnd_of (fn := Tryd.f46) (rs := [.tmp 4]) (ts := [9]) rfl rfl]
      rw [hexF, if_pos]
      by_cases hu : u < 16 ^ k
      · have := digs_hexlen (k - 1) u (by rw [show k - 1 + 1 = k by omega]; exact hu)
        omega
      · omega
    · have h2' := of_decide_eq_false h2
      simp at h2'
      have hu : u < 16 ^ k := by
        rcases Nat.lt_or_ge u (16 ^ k) with h | h
        · exact h
        · have := digs_hexlen2 k u h (by have : 1 ≤ 16 ^ k := Nat.one_le_pow _ _ (by omega); omega)
          omega
      simp only [↓ru, rv, rl, ry, tyf, iM, bM, bsM, cond_true, cond_false, Nat.reduceLT, Nat.reduceBEq, Nat.reduceAdd, Nat.reduceEqDiff, Nat.reduceMul, Nat.reduceLeDiff, Nat.reduceSub, Nat.reduceDiv, Int.reduceLE, Int.reduceLT, Int.reduceNeg, Int.reduceAdd, Int.reduceSub, Int.reduceMul, Int.reduceToNat, Int.reducePow, Int.reduceEq, ne_eq, reduceIte]
      refine acall1_pure (word _ (fun d hd => ?_) (by simp; omega)) rfl rfl ?_
      · rcases List.mem_append.1 hd with hd | hd
        · have := List.eq_of_mem_replicate hd; omega
        · have := digs_range 16 (by omega) u d hd; omega
      simp only [↓ru, rv, rl, ry, tyf, iM, bM, bsM, cond_true, cond_false, Nat.reduceLT, Nat.reduceBEq, Nat.reduceAdd, Nat.reduceEqDiff, Nat.reduceMul, Nat.reduceLeDiff, Nat.reduceSub, Nat.reduceDiv, Int.reduceLE, Int.reduceLT, Int.reduceNeg, Int.reduceAdd, Int.reduceSub, Int.reduceMul, Int.reduceToNat, Int.reducePow, Int.reduceEq, ne_eq, reduceIte, pureEnd_of (fn := Tryd.f46) (rs := [.tmp 4]) (ts := [9]) rfl rfl]
      rw [hexF, if_neg (by omega), List.map_append, List.map_replicate, show j = k - (digs 16 u).length by omega]
      have := digs_hex k u hu (by omega)
      rw [show hexC (0 : Int).toNat = 48 from rfl, this]
      simp
end Go.TW

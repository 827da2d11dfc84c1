import Derived.Test.YtmgfnlnomecbiaaDoorB3
set_option linter.all false
open Go.Proofs Go.Abs Go.Fa Go.BU Go.TX
/- The functions of the package text, and those of the document, one by one. -/
namespace Go.TW
set_option maxHeartbeats 4000000
set_option maxRecDepth 10000

theorem Decimal (n : Int) (hn : -9223372036854775808 ≤ n ∧ n ≤ 9223372036854775807) : PFn Tryd.prog 56 [iM n] (strM (dec n)) := by
  (refine PFn.of (prs := []) Tryd.func56 rfl rfl mix (by kernel_rfl) rfl rfl ?_; simp only [Tryd.ntmps56, argUpd])
  (try (simp only [↓ru, rv, rl, ry, tyf, iM, bM, bsM, cond_true, cond_false, Nat.reduceLT, Nat.reduceBEq, Nat.reduceAdd, Nat.reduceEqDiff, Nat.reduceMul, Nat.reduceLeDiff, Nat.reduceSub, Nat.reduceDiv, Int.reduceLE, Int.reduceLT, Int.reduceNeg, Int.reduceAdd, Int.reduceSub, Int.reduceMul, Int.reduceToNat, Int.reducePow, Int.reduceEq, ne_eq, reduceIte, pureEnd_of (fn := Tryd.f56) (rs := [.tmp 2]) (ts := [9]) rfl rfl, *])); repeat' ((first | (refine fork_split (fun _h => ?_) (fun _h => ?_)) | (refine gfork_split (fun _h => ?_) (fun _h => ?_)) | (refine dfork_split (fun _h => ?_) (fun _h => ?_)) | (refine acall1_pure (itoa n hn.1 hn.2) rfl rfl ?_) | (refine dcall1_pure (itoa n hn.1 hn.2) rfl rfl ?_)) <;> (try (simp only [↓ru, rv, rl, ry, tyf, iM, bM, bsM, cond_true, cond_false, Nat.reduceLT, Nat.reduceBEq, Nat.reduceAdd, Nat.reduceEqDiff, Nat.reduceMul, Nat.reduceLeDiff, Nat.reduceSub, Nat.reduceDiv, Int.reduceLE, Int.reduceLT, Int.reduceNeg, Int.reduceAdd, Int.reduceSub, Int.reduceMul, Int.reduceToNat, Int.reducePow, Int.reduceEq, ne_eq, reduceIte, pureEnd_of (fn := Tryd.f56) (rs := [.tmp 2]) (ts := [9]) rfl rfl, *])))
  all_goals (try simp only [Bool.not_eq_true', Bool.not_eq_false', decide_eq_true_eq, decide_eq_false_iff_not] at *)
  · rw [dec, if_pos (by omega)]
  · rw [dec, if_pos (by omega)]
  · rw [dec, if_neg (by omega), Lib.itoa, if_neg (by omega)]

abbrev intsM (l : List Int) : M := .d (.sl 1 (l.map fun x => [iD x]))
theorem digs_len : ∀ (k b u : Nat), 2 ≤ b → u < 2 ^ k → (digs b u).length ≤ k + 1
  | 0, b, u, hb, h => by
    have : u = 0 := by simpa using h
    subst this
    rw [digs, dif_pos (by omega)]; simp
  | k + 1, b, u, hb, h => by
    rw [digs]
    split
    · simp
    · have h2 : u / b ≤ u / 2 := Nat.div_le_div_left hb (by omega)
      have := digs_len k b (u / b) hb (by rw [Nat.pow_succ] at h; omega)
      simp; omega
theorem digitsO (b : Nat) (hb : 2 ≤ b ∧ b ≤ 16) (u : Nat) : u ≤ 9223372036854775807 → OFn Tryd.prog 78 [iM u, iM b] 1 ((digs b u).map fun x => [iD x]) none := by
  induction u using Nat.strongRecOn with
  | _ u ih =>
    intro hu
    unfold OFn
    (refine AFn.intro (prs := [(3, [(4, 7), (2, 8), (4, 8)])]) Tryd.func78 rfl rfl mix (by kernel_rfl) rfl (fun hB => ?_); simp only [Tryd.ntmps78, argUpd])
    by_cases h : u < b
    · have hd : decide ((u : Int) < (b : Int)) = true := by simp; omega
      simp only [↓ru, rv, rl, ry, tyf, iM, bM, bsM, cond_true, cond_false, Nat.reduceLT, Nat.reduceBEq, Nat.reduceAdd, Nat.reduceEqDiff, Nat.reduceMul, Nat.reduceLeDiff, Nat.reduceSub, Nat.reduceDiv, Int.reduceLE, Int.reduceLT, Int.reduceNeg, Int.reduceAdd, Int.reduceSub, Int.reduceMul, Int.reduceToNat, Int.reducePow, Int.reduceEq, ne_eq, reduceIte, hd, aEnd_of (fn := Tryd.f78) (rs := [.tmp 4]) rfl]
      rw [digs, dif_pos (.inl h)]
      exact aFin_own (by rw [get_single, if_pos rfl]) (by simp [pure2, iD]) rfl
    · have hd : decide ((u : Int) < (b : Int)) = false := by simp; omega
      have hlt : u / b < u := Nat.div_lt_self (by omega) (by omega)
      have e1 : IntKind.i64.wrap ((u : Int).tdiv (b : Int)) = ((u / b : Nat) : Int) := by
        have e : (u : Int).tdiv (b : Int) = ((u / b : Nat) : Int) := by rw [Int.tdiv_eq_ediv_of_nonneg (by omega)]; simp
        rw [e]; generalize u / b = q at hlt; rw [wrap_i64 (by omega) (by omega)]
      have e2 : (u : Int).tmod (b : Int) = ((u % b : Nat) : Int) := by
        rw [Int.tmod_eq_emod_of_nonneg (by omega)]; simp
      have e3 : ((b : Int) = 0) = False := by simp; omega
      simp only [↓ru, rv, rl, ry, tyf, iM, bM, bsM, cond_true, cond_false, Nat.reduceLT, Nat.reduceBEq, Nat.reduceAdd, Nat.reduceEqDiff, Nat.reduceMul, Nat.reduceLeDiff, Nat.reduceSub, Nat.reduceDiv, Int.reduceLE, Int.reduceLT, Int.reduceNeg, Int.reduceAdd, Int.reduceSub, Int.reduceMul, Int.reduceToNat, Int.reducePow, Int.reduceEq, ne_eq, reduceIte, hd, e1, e2, e3]
      refine dcall1_own (ih (u / b) hlt (by omega)) rfl rfl ?_
      simp only [↓ru, rv, rl, ry, tyf, iM, bM, bsM, cond_true, cond_false, Nat.reduceLT, Nat.reduceBEq, Nat.reduceAdd, Nat.reduceEqDiff, Nat.reduceMul, Nat.reduceLeDiff, Nat.reduceSub, Nat.reduceDiv, Int.reduceLE, Int.reduceLT, Int.reduceNeg, Int.reduceAdd, Int.reduceSub, Int.reduceMul, Int.reduceToNat, Int.reducePow, Int.reduceEq, ne_eq, reduceIte, hd, e1, e2, e3, aEnd_of (fn := Tryd.f78) (rs := [.tmp 4]) rfl]
      have hlen := digs_len 63 b (u / b) hb.1 (by omega)
      refine grd_intro (by simp [pure2]; omega) ?_
      refine aFin_own (l := (digs b u).map fun x => [iD x]) rfl ?_ ?_
      · rw [digs_big h hb.1]; simp [pure2, iD]
      · rw [digs_big h hb.1]; simp [pure2, iD]

theorem digits (b : Nat) (hb : 2 ≤ b ∧ b ≤ 16) (u : Nat) (hu : u ≤ 9223372036854775807) : PFn Tryd.prog 78 [iM u, iM b] (intsM (digs b u)) := PFn.of_own (digitsO b hb u hu) rfl
theorem hexL : ∀ d : Fin 16, ([48, 49, 50, 51, 52, 53, 54, 55, 56, 57, 65, 66, 67, 68, 69, 70] : List UInt8).drop d.val = hexC d.val :: ([48, 49, 50, 51, 52, 53, 54, 55, 56, 57, 65, 66, 67, 68, 69, 70] : List UInt8).drop (d.val + 1) := by decide +kernel
theorem hexL1 {d : Int} (h : 0 ≤ d ∧ d < 16) : List.take (d + 1 - d).toNat (([48, 49, 50, 51, 52, 53, 54, 55, 56, 57, 65, 66, 67, 68, 69, 70] : List UInt8).drop d.toNat) = [hexC d.toNat] := by
  have := hexL ⟨d.toNat, by omega⟩
  simp only at this
  rw [this, show (d + 1 - d).toNat = 1 by omega]; rfl
theorem get_of_lt {α : Type} {l : List α} {i : Nat} (h : i < l.length) : ∃ o, l[i]? = some o := ⟨l[i], by simp [h]⟩
theorem word (l : List Int) (hl : ∀ d, d ∈ l → 0 ≤ d ∧ d < 16) (hlen : l.length ≤ 1000000) : PFn Tryd.prog 77 [intsM l] (strM (l.map fun d => hexC d.toNat)) := by
  (refine PFn.of (prs := [(5, [])]) Tryd.func77 rfl rfl mix (by kernel_rfl) rfl rfl ?_; simp only [Tryd.ntmps77, argUpd])
  simp only [↓ru, rv, rl, ry, tyf, iM, bM, bsM, cond_true, cond_false, Nat.reduceLT, Nat.reduceBEq, Nat.reduceAdd, Nat.reduceEqDiff, Nat.reduceMul, Nat.reduceLeDiff, Nat.reduceSub, Nat.reduceDiv, Int.reduceLE, Int.reduceLT, Int.reduceNeg, Int.reduceAdd, Int.reduceSub, Int.reduceMul, Int.reduceToNat, Int.reducePow, Int.reduceEq, ne_eq, reduceIte]
  refine aloop_lv (fun s : Nat => [(0, intsM l), (3, strM ((l.take s).map fun d => hexC d.toNat)), (4, iM s)]) (fun _ => []) (fun s => s ≤ l.length) (fun s => l.length - s) 0 0 ?_ rfl (by omega) (by omega) ?_
  · simp only [↓ru, rv, rl, ry, tyf, iM, bM, bsM, cond_true, cond_false, Nat.reduceLT, Nat.reduceBEq, Nat.reduceAdd, Nat.reduceEqDiff, Nat.reduceMul, Nat.reduceLeDiff, Nat.reduceSub, Nat.reduceDiv, Int.reduceLE, Int.reduceLT, Int.reduceNeg, Int.reduceAdd, Int.reduceSub, Int.reduceMul, Int.reduceToNat, Int.reducePow, Int.reduceEq, ne_eq, reduceIte]
  · intro i e0 n hi
    simp only [↓ru, rv, rl, ry, tyf, iM, bM, bsM, cond_true, cond_false, Nat.reduceLT, Nat.reduceBEq, Nat.reduceAdd, Nat.reduceEqDiff, Nat.reduceMul, Nat.reduceLeDiff, Nat.reduceSub, Nat.reduceDiv, Int.reduceLE, Int.reduceLT, Int.reduceNeg, Int.reduceAdd, Int.reduceSub, Int.reduceMul, Int.reduceToNat, Int.reducePow, Int.reduceEq, ne_eq, reduceIte]
    refine fork_split (fun h => ?_) (fun h => ?_)
    · have h' := of_decide_eq_true h
      obtain ⟨d, hd⟩ := get_of_lt (l := l) (i := i) (by omega)
      have hdm := hl d (List.mem_of_getElem? hd)
      simp only [↓ru, rv, rl, ry, tyf, iM, bM, bsM, cond_true, cond_false, Nat.reduceLT, Nat.reduceBEq, Nat.reduceAdd, Nat.reduceEqDiff, Nat.reduceMul, Nat.reduceLeDiff, Nat.reduceSub, Nat.reduceDiv, Int.reduceLE, Int.reduceLT, Int.reduceNeg, Int.reduceAdd, Int.reduceSub, Int.reduceMul, Int.reduceToNat, Int.reducePow, Int.reduceEq, ne_eq, reduceIte, hd, iD]
      simp (disch := omega) only [wrap_i64, wrap_u8, wrap_u16, wrap_u64]
      rw [hexL1 hdm]
      refine grd_intro (by omega) ?_
      simp (disch := (simp only [List.length_append, List.length_cons, List.length_nil, List.length_map, List.length_take, List.length_replicate, List.length_drop] <;> omega)) only [bin_str_add, kk_eq, wrap_i64, wrap_u8, wrap_u16, wrap_u64]
      simp only [↓ru, rv, rl, ry, tyf, iM, bM, bsM, cond_true, cond_false, Nat.reduceLT, Nat.reduceBEq, Nat.reduceAdd, Nat.reduceEqDiff, Nat.reduceMul, Nat.reduceLeDiff, Nat.reduceSub, Nat.reduceDiv, Int.reduceLE, Int.reduceLT, Int.reduceNeg, Int.reduceAdd, Int.reduceSub, Int.reduceMul, Int.reduceToNat, Int.reducePow, Int.reduceEq, ne_eq, reduceIte]
      simp (disch := omega) only [wrap_i64, wrap_u8, wrap_u16, wrap_u64]
      refine loopL_next (i + 1) ?_ rfl (by omega) (by omega) (by omega)
      simp only [↓ru, rv, rl, ry, tyf, iM, bM, bsM, cond_true, cond_false, Nat.reduceLT, Nat.reduceBEq, Nat.reduceAdd, Nat.reduceEqDiff, Nat.reduceMul, Nat.reduceLeDiff, Nat.reduceSub, Nat.reduceDiv, Int.reduceLE, Int.reduceLT, Int.reduceNeg, Int.reduceAdd, Int.reduceSub, Int.reduceMul, Int.reduceToNat, Int.reducePow, Int.reduceEq, ne_eq, reduceIte, *]
      rw [List.take_add_one, hd]
      simp
    · have h' := of_decide_eq_false h
      have : i = l.length := by omega
      subst this
      simp only [↓ru, rv, rl, ry, tyf, iM, bM, bsM, cond_true, cond_false, Nat.reduceLT, Nat.reduceBEq, Nat.reduceAdd, Nat.reduceEqDiff, Nat.reduceMul, Nat.reduceLeDiff, Nat.reduceSub, Nat.reduceDiv, Int.reduceLE, Int.reduceLT, Int.reduceNeg, Int.reduceAdd, Int.reduceSub, Int.reduceMul, Int.reduceToNat, Int.reducePow, Int.reduceEq, ne_eq, reduceIte, pureEnd_of (fn := Tryd.f77) (rs := [.tmp 2]) (ts := [9]) rfl rfl, List.take_length]
theorem hexI : ∀ d : Fin 16, (([48, 49, 50, 51, 52, 53, 54, 55, 56, 57, 65, 66, 67, 68, 69, 70] : List UInt8).getD d.val 0) = hexC d.val := by decide +kernel
theorem hexI1 {d : Int} (h : 0 ≤ d ∧ d < 16) : (([48, 49, 50, 51, 52, 53, 54, 55, 56, 57, 65, 66, 67, 68, 69, 70] : List UInt8).getD d.toNat 0) = hexC d.toNat := hexI ⟨d.toNat, by omega⟩
theorem bAnd15 {n : Int} (h : 0 ≤ n) (h2 : n ≤ 9223372036854775807) : bAnd .i64 n 15 = n % 16 := by
  unfold bAnd
  have h1 : (BitVec.ofInt IntKind.i64.bits n).toNat = n.toNat := by simp only [IntKind.bits, BitVec.toNat_ofInt]; omega
  have h3 : (BitVec.ofInt IntKind.i64.bits 15).toNat = 2 ^ 4 - 1 := by rfl
  rw [BitVec.toNat_and, h1, h3, Nat.and_two_pow_sub_one_eq_mod, wrap_i64 (by omega) (by omega)]; omega
theorem hexD_cons (k n : Nat) : hexD (k + 1) n = hexC (n / 16 ^ k % 16) :: hexD k n := by
  induction k generalizing n with
  | zero => simp [hexD]
  | succ k ih =>
    rw [hexD, ih (n / 16), hexD, List.cons_append, Nat.div_div_eq_div_mul, Nat.pow_succ, Nat.mul_comm 16]
theorem set_byteR {L : List UInt8} {j : Nat} {b : UInt8} : (pure2 (L.map byteD)).set j [M.d (.v (.int .u8 b.toNat))] = pure2 ((L.set j b).map byteD) := by
  simp only [pure2, List.map_map]
  rw [List.map_set]
  rfl
theorem set_fill (m : Nat) (c : UInt8) (l : List UInt8) : (List.replicate (m + 1) 0 ++ l).set m c = List.replicate m 0 ++ c :: l := by
  rw [List.set_append_left _ _ (by simp), List.replicate_succ', List.set_append_right _ _ (by simp)]
  simp
theorem row_get {L : List UInt8} {j : Nat} (h : j < L.length) : ∃ x : UInt8, (pure2 (L.map byteD))[j]? = some [M.d (.v (.int .u8 x.toNat))] :=
  ⟨L[j], by rw [pure2_get, List.getElem?_map, List.getElem?_eq_getElem h]; rfl⟩
theorem Hex (n d : Int) (hn : -9223372036854775808 ≤ n ∧ n ≤ 9223372036854775807) (hd : -9223372036854775808 ≤ d ∧ d ≤ 9223372036854775807) : PFn Tryd.prog 57 [iM n, iM d] (strM (hexF n d)) := by
  (refine PFn.of (prs := []) Tryd.func57 rfl rfl mix (by kernel_rfl) rfl rfl ?_; simp only [Tryd.ntmps57, argUpd])
  (try (simp only [↓ru, rv, rl, ry, tyf, iM, bM, bsM, cond_true, cond_false, Nat.reduceLT, Nat.reduceBEq, Nat.reduceAdd, Nat.reduceEqDiff, Nat.reduceMul, Nat.reduceLeDiff, Nat.reduceSub, Nat.reduceDiv, Int.reduceLE, Int.reduceLT, Int.reduceNeg, Int.reduceAdd, Int.reduceSub, Int.reduceMul, Int.reduceToNat, Int.reducePow, Int.reduceEq, ne_eq, reduceIte, pureEnd_of (fn := Tryd.f57) (rs := [.tmp 4]) (ts := [9]) rfl rfl, *])); repeat' ((first | (refine fork_split (fun _h => ?_) (fun _h => ?_)) | (refine gfork_split (fun _h => ?_) (fun _h => ?_)) | (refine dfork_split (fun _h => ?_) (fun _h => ?_))) <;> (try (simp only [↓ru, rv, rl, ry, tyf, iM, bM, bsM, cond_true, cond_false, Nat.reduceLT, Nat.reduceBEq, Nat.reduceAdd, Nat.reduceEqDiff, Nat.reduceMul, Nat.reduceLeDiff, Nat.reduceSub, Nat.reduceDiv, Int.reduceLE, Int.reduceLT, Int.reduceNeg, Int.reduceAdd, Int.reduceSub, Int.reduceMul, Int.reduceToNat, Int.reducePow, Int.reduceEq, ne_eq, reduceIte, pureEnd_of (fn := Tryd.f57) (rs := [.tmp 4]) (ts := [9]) rfl rfl, *])))
  all_goals (try simp only [Bool.not_eq_true', Bool.not_eq_false', decide_eq_true_eq, decide_eq_false_iff_not] at *)
  · rw [hexF, if_pos (by omega)]
  · rw [hexF, if_pos (by omega)]
  · rw [hexF, if_pos (by omega)]
  have hpow : (1 : Int) * 2 ^ (4 * d).toNat = 16 ^ d.toNat := by
    rw [Int.one_mul, show (4 * d).toNat = 4 * d.toNat by omega, Int.pow_mul]; rfl
  have hle : (16 : Int) ^ d.toNat ≤ 4294967296 := by
    have : 16 ^ d.toNat ≤ 16 ^ 8 := Nat.pow_le_pow_right (by omega) (by omega)
    have e : ((16 ^ d.toNat : Nat) : Int) = (16 : Int) ^ d.toNat := by simp
    omega
  have hge : (1 : Int) ≤ 16 ^ d.toNat := by
    have : 1 ≤ 16 ^ d.toNat := Nat.one_le_pow _ _ (by omega)
    have e : ((16 ^ d.toNat : Nat) : Int) = (16 : Int) ^ d.toNat := by simp
    omega
  rw [wrap_i64 (x := 4 * d) (by omega) (by omega), bin_shl (by omega) (by rw [bits_i64]; omega), hpow, wrap_i64 (by omega) (by omega)]
  generalize hp : (16 : Int) ^ d.toNat = p at hle hge hpow
  simp only [↓ru, rv, rl, ry, tyf, iM, bM, bsM, cond_true, cond_false, Nat.reduceLT, Nat.reduceBEq, Nat.reduceAdd, Nat.reduceEqDiff, Nat.reduceMul, Nat.reduceLeDiff, Nat.reduceSub, Nat.reduceDiv, Int.reduceLE, Int.reduceLT, Int.reduceNeg, Int.reduceAdd, Int.reduceSub, Int.reduceMul, Int.reduceToNat, Int.reducePow, Int.reduceEq, ne_eq, reduceIte]
  refine fork_split (fun h => ?_) (fun h => ?_)
  · have h' := of_decide_eq_true h
    simp only [↓ru, rv, rl, ry, tyf, iM, bM, bsM, cond_true, cond_false, Nat.reduceLT, Nat.reduceBEq, Nat.reduceAdd, Nat.reduceEqDiff, Nat.reduceMul, Nat.reduceLeDiff, Nat.reduceSub, Nat.reduceDiv, Int.reduceLE, Int.reduceLT, Int.reduceNeg, Int.reduceAdd, Int.reduceSub, Int.reduceMul, Int.reduceToNat, Int.reducePow, Int.reduceEq, ne_eq, reduceIte, pureEnd_of (fn := Tryd.f57) (rs := [.tmp 4]) (ts := [9]) rfl rfl]
    rw [hexF, if_pos (by rw [hp]; omega)]
  have h' := of_decide_eq_false h
  obtain ⟨k, rfl⟩ : ∃ k : Nat, d = k := ⟨d.toNat, by omega⟩
  obtain ⟨u, rfl⟩ : ∃ u : Nat, n = u := ⟨n.toNat, by omega⟩
  simp only [↓ru, rv, rl, ry, tyf, iM, bM, bsM, cond_true, cond_false, Nat.reduceLT, Nat.reduceBEq, Nat.reduceAdd, Nat.reduceEqDiff, Nat.reduceMul, Nat.reduceLeDiff, Nat.reduceSub, Nat.reduceDiv, Int.reduceLE, Int.reduceLT, Int.reduceNeg, Int.reduceAdd, Int.reduceSub, Int.reduceMul, Int.reduceToNat, Int.reducePow, Int.reduceEq, ne_eq, reduceIte]
  refine grd_intro (by omega) ?_
  have hk8 : k ≤ 8 := by omega
  have hk1 : 1 ≤ k := by omega
  have hrow : ∀ j, j ≤ k → (List.replicate (k - j) (0 : UInt8) ++ hexD j u).length = k := fun j hj => by simp [hexD_length]; omega
  refine aloop_lv (fun s : Nat => [(0, iM ((u / 16 ^ s : Nat) : Int)), (5, .hsl 19 k), (6, iM ((k : Int) - 1 - s))]) (fun s => [(19, .ar false 1 (pure2 ((List.replicate (k - s) 0 ++ hexD s u).map byteD)))]) (fun s => s ≤ k) (fun s => k - s) 20 0 ?_ ?_ (by omega) (by omega) ?_
  · simp (disch := omega) only [wrap_i64, wrap_u8, wrap_u16, wrap_u64]
    simp only [↓ru, rv, rl, ry, tyf, iM, bM, bsM, cond_true, cond_false, Nat.reduceLT, Nat.reduceBEq, Nat.reduceAdd, Nat.reduceEqDiff, Nat.reduceMul, Nat.reduceLeDiff, Nat.reduceSub, Nat.reduceDiv, Int.reduceLE, Int.reduceLT, Int.reduceNeg, Int.reduceAdd, Int.reduceSub, Int.reduceMul, Int.reduceToNat, Int.reducePow, Int.reduceEq, ne_eq, reduceIte]
    simp
  · simp [pure2, hexD, byteD]
  · intro j e0 n hj
    simp only [↓ru, rv, rl, ry, tyf, iM, bM, bsM, cond_true, cond_false, Nat.reduceLT, Nat.reduceBEq, Nat.reduceAdd, Nat.reduceEqDiff, Nat.reduceMul, Nat.reduceLeDiff, Nat.reduceSub, Nat.reduceDiv, Int.reduceLE, Int.reduceLT, Int.reduceNeg, Int.reduceAdd, Int.reduceSub, Int.reduceMul, Int.reduceToNat, Int.reducePow, Int.reduceEq, ne_eq, reduceIte]
    refine fork_split (fun h => ?_) (fun h => ?_)
    · have h1 := of_decide_eq_true h
      have hu : ((u / 16 ^ j : Nat) : Int) ≤ 9223372036854775807 := by
        have : u / 16 ^ j ≤ u := Nat.div_le_self _ _
        omega
      have hm := hexI1 (d := ((u / 16 ^ j : Nat) : Int) % 16) ⟨Int.emod_nonneg _ (by decide), Int.emod_lt_of_pos _ (by decide)⟩
      have hidx : ((k : Int) - 1 - j).toNat = k - 1 - j := by omega
      have hlen := hrow j (by omega)
      have hb := bAnd15 (n := ((u / 16 ^ j : Nat) : Int)) (Int.natCast_nonneg _) hu
      obtain ⟨x, hx⟩ := row_get (L := List.replicate (k - j) 0 ++ hexD j u) (j := k - 1 - j) (by omega)
      simp only [↓ru, rv, rl, ry, tyf, iM, bM, bsM, cond_true, cond_false, Nat.reduceLT, Nat.reduceBEq, Nat.reduceAdd, Nat.reduceEqDiff, Nat.reduceMul, Nat.reduceLeDiff, Nat.reduceSub, Nat.reduceDiv, Int.reduceLE, Int.reduceLT, Int.reduceNeg, Int.reduceAdd, Int.reduceSub, Int.reduceMul, Int.reduceToNat, Int.reducePow, Int.reduceEq, ne_eq, reduceIte, hb, hm, hidx, hx, hlen]
      refine grd_intro (by omega) ?_
      refine grd_intro (by omega) ?_
      have hset : (List.replicate (k - j) 0 ++ hexD j u).set (k - 1 - j) (hexC (((u / 16 ^ j : Nat) : Int) % 16).toNat) = List.replicate (k - (j + 1)) 0 ++ hexD (j + 1) u := by
        rw [show k - j = (k - 1 - j) + 1 by omega, set_fill, hexD_cons, show k - (j + 1) = k - 1 - j by omega, show (((u / 16 ^ j : Nat) : Int) % 16).toNat = u / 16 ^ j % 16 by omega]
      have hdiv : ((u / 16 ^ j : Nat) : Int) / 16 = ((u / 16 ^ (j + 1) : Nat) : Int) := by
        have e : ∀ a : Nat, ((a : Nat) : Int) / 16 = ((a / 16 : Nat) : Int) := fun a => by omega
        rw [Nat.pow_succ, ← Nat.div_div_eq_div_mul, e]
      simp only [set_byteR, hset]
      simp (disch := omega) only [wrap_i64, wrap_u8, wrap_u16, wrap_u64]
      refine loopL_next (j + 1) ?_ ?_ (by omega) (by omega) (by omega)
      · simp only [↓ru, rv, rl, ry, tyf, iM, bM, bsM, cond_true, cond_false, Nat.reduceLT, Nat.reduceBEq, Nat.reduceAdd, Nat.reduceEqDiff, Nat.reduceMul, Nat.reduceLeDiff, Nat.reduceSub, Nat.reduceDiv, Int.reduceLE, Int.reduceLT, Int.reduceNeg, Int.reduceAdd, Int.reduceSub, Int.reduceMul, Int.reduceToNat, Int.reducePow, Int.reduceEq, ne_eq, reduceIte]
        exact ⟨by rw [hdiv], by rw [show (k : Int) - 1 - j - 1 = (k : Int) - 1 - ((j + 1 : Nat) : Int) by omega]⟩
      · rfl
    · have h1 := of_decide_eq_false h
      have hjk : j = k := by omega
      subst hjk
      simp only [↓ru, rv, rl, ry, tyf, iM, bM, bsM, cond_true, cond_false, Nat.reduceLT, Nat.reduceBEq, Nat.reduceAdd, Nat.reduceEqDiff, Nat.reduceMul, Nat.reduceLeDiff, Nat.reduceSub, Nat.reduceDiv, Int.reduceLE, Int.reduceLT, Int.reduceNeg, Int.reduceAdd, Int.reduceSub, Int.reduceMul, Int.reduceToNat, Int.reducePow, Int.reduceEq, ne_eq, reduceIte, Nat.sub_self, List.replicate_zero, List.nil_append, bytesOf_map, unpure2_pure2, hexD_length, if_true, pureEnd_of (fn := Tryd.f57) (rs := [.tmp 4]) (ts := [9]) rfl rfl]
      rw [hexF, if_neg (by omega)]; simp
end Go.TW

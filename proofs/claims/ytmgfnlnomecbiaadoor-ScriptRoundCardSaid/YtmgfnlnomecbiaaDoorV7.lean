import Derived.Test.YtmgfnlnomecbiaaDoorV6
set_option linter.all false
open Go.Proofs Go.Abs Go.Fa Go.BU Go.TX Go.TW
namespace Go.SC
set_option maxHeartbeats 4000000
set_option maxRecDepth 10000
-- rules: byteD, dstr, un1_str, iD, bD, sxv

abbrev Kind := List UInt8 × Bool × Bool × Bool
theorem IdxKind (l : List Kind) (hl : l.length ≤ 9223372036854775807) (f : FuncId) (cs : List M) (p : Kind → Bool) {B : Bx} {n : Nat} {K : KT} (H : ∀ a, Keeps Tryd.prog B n f cs (kindM a) (p a))
    (hK : ∀ n', n ≤ n' → K (iM (match l.findIdx? p with | some k => (k : Int) | none => -1)) B n') : AFn Tryd.prog 99 [.d (.sl 4 (l.map kindD)), .fn (.func f) [] cs] B n K := by
  (refine AFn.intro (prs := []) Tryd.func99 rfl rfl mix (by kernel_rfl) rfl (fun hB => ?_); simp only [Tryd.ntmps99, argUpd])
  simp only [↓ru, rv, rl, ry, tyf, iM, bM, bsM, cond_true, cond_false, Nat.reduceLT, Nat.reduceBEq, Nat.reduceAdd, Nat.reduceEqDiff, Nat.reduceMul, Nat.reduceLeDiff, Nat.reduceSub, Nat.reduceDiv, Int.reduceLE, Int.reduceLT, Int.reduceNeg, Int.reduceAdd, Int.reduceSub, Int.reduceMul, Int.reduceToNat, Int.reducePow, Int.reduceEq, ne_eq, reduceIte, byteD, dstr, un1_str, iD, bD, sxv]
  refine aloop_lv (fun i : Nat => [(0, .d (.sl 4 (l.map kindD))), (1, .fn (.func f) [] cs), (7, iM l.length), (8, iM i)]) (fun _ => B) (fun i => i ≤ l.length ∧ ∀ a ∈ l.take i, p a = false) (fun i => l.length - i) n 0 ?_ rfl ⟨by omega, by simp⟩ (by omega) ?_
  · simp only [↓ru, rv, rl, ry, tyf, iM, bM, bsM, cond_true, cond_false, Nat.reduceLT, Nat.reduceBEq, Nat.reduceAdd, Nat.reduceEqDiff, Nat.reduceMul, Nat.reduceLeDiff, Nat.reduceSub, Nat.reduceDiv, Int.reduceLE, Int.reduceLT, Int.reduceNeg, Int.reduceAdd, Int.reduceSub, Int.reduceMul, Int.reduceToNat, Int.reducePow, Int.reduceEq, ne_eq, reduceIte, byteD, dstr, un1_str, iD, bD, sxv]
  intro i e0 m ⟨hi, hx⟩
  simp only [↓ru, rv, rl, ry, tyf, iM, bM, bsM, cond_true, cond_false, Nat.reduceLT, Nat.reduceBEq, Nat.reduceAdd, Nat.reduceEqDiff, Nat.reduceMul, Nat.reduceLeDiff, Nat.reduceSub, Nat.reduceDiv, Int.reduceLE, Int.reduceLT, Int.reduceNeg, Int.reduceAdd, Int.reduceSub, Int.reduceMul, Int.reduceToNat, Int.reducePow, Int.reduceEq, ne_eq, reduceIte, byteD, dstr, un1_str, iD, bD, sxv]
  refine fork_split (fun h => ?_) (fun h => ?_)
  · have h' := of_decide_eq_true h
    obtain ⟨y, hy⟩ := get_of_lt (l := l) (i := i) (by omega)
    simp only [↓ru, rv, rl, ry, tyf, iM, bM, bsM, cond_true, cond_false, Nat.reduceLT, Nat.reduceBEq, Nat.reduceAdd, Nat.reduceEqDiff, Nat.reduceMul, Nat.reduceLeDiff, Nat.reduceSub, Nat.reduceDiv, Int.reduceLE, Int.reduceLT, Int.reduceNeg, Int.reduceAdd, Int.reduceSub, Int.reduceMul, Int.reduceToNat, Int.reducePow, Int.reduceEq, ne_eq, reduceIte, byteD, dstr, un1_str, iD, bD, sxv, hy]
    refine acall1_inl (H y _ _ (by omega) fun n' hn => ?_)
    cases hp : p y with
    | true =>
      simp only [↓ru, rv, rl, ry, tyf, iM, bM, bsM, cond_true, cond_false, Nat.reduceLT, Nat.reduceBEq, Nat.reduceAdd, Nat.reduceEqDiff, Nat.reduceMul, Nat.reduceLeDiff, Nat.reduceSub, Nat.reduceDiv, Int.reduceLE, Int.reduceLT, Int.reduceNeg, Int.reduceAdd, Int.reduceSub, Int.reduceMul, Int.reduceToNat, Int.reducePow, Int.reduceEq, ne_eq, reduceIte, byteD, dstr, un1_str, iD, bD, sxv, aEnd_of (fn := Tryd.f99) (rs := [.tmp 4]) rfl]
      refine aFin_same ?_
      have hf : l.findIdx? p = some i := by
        rw [List.findIdx?_eq_some_iff_getElem]
        obtain ⟨hlt, hge⟩ := List.getElem?_eq_some_iff.1 hy
        refine ⟨hlt, by rw [hge]; exact hp, fun j hj => ?_⟩
        have := hx l[j] (List.mem_take_iff_getElem.2 ⟨j, by omega, rfl⟩)
        simp [this]
      have h9 : ∀ k, n ≤ k → K (iM i) B k := fun k hk => by have := hK k hk; rw [hf] at this; exact this
      exact h9 _ (by omega)
    | false =>
      simp only [↓ru, rv, rl, ry, tyf, iM, bM, bsM, cond_true, cond_false, Nat.reduceLT, Nat.reduceBEq, Nat.reduceAdd, Nat.reduceEqDiff, Nat.reduceMul, Nat.reduceLeDiff, Nat.reduceSub, Nat.reduceDiv, Int.reduceLE, Int.reduceLT, Int.reduceNeg, Int.reduceAdd, Int.reduceSub, Int.reduceMul, Int.reduceToNat, Int.reducePow, Int.reduceEq, ne_eq, reduceIte, byteD, dstr, un1_str, iD, bD, sxv]
      simp (disch := omega) only [wrap_i64, wrap_u8, wrap_u16, wrap_u64]
      refine loopL_next (i + 1) ?_ rfl ⟨by omega, ?_⟩ (by omega) (by omega)
      · simp only [↓ru, rv, rl, ry, tyf, iM, bM, bsM, cond_true, cond_false, Nat.reduceLT, Nat.reduceBEq, Nat.reduceAdd, Nat.reduceEqDiff, Nat.reduceMul, Nat.reduceLeDiff, Nat.reduceSub, Nat.reduceDiv, Int.reduceLE, Int.reduceLT, Int.reduceNeg, Int.reduceAdd, Int.reduceSub, Int.reduceMul, Int.reduceToNat, Int.reducePow, Int.reduceEq, ne_eq, reduceIte, byteD, dstr, un1_str, iD, bD, sxv]
        simp
      · rw [List.take_add_one, hy]
        intro a ha
        rcases List.mem_append.1 ha with ha | ha
        · exact hx a ha
        · have : a = y := by simpa using ha
          rw [this]; exact hp
  · have h' := of_decide_eq_false h
    have : i = l.length := by omega
    subst this
    rw [List.take_length] at hx
    simp only [↓ru, rv, rl, ry, tyf, iM, bM, bsM, cond_true, cond_false, Nat.reduceLT, Nat.reduceBEq, Nat.reduceAdd, Nat.reduceEqDiff, Nat.reduceMul, Nat.reduceLeDiff, Nat.reduceSub, Nat.reduceDiv, Int.reduceLE, Int.reduceLT, Int.reduceNeg, Int.reduceAdd, Int.reduceSub, Int.reduceMul, Int.reduceToNat, Int.reducePow, Int.reduceEq, ne_eq, reduceIte, byteD, dstr, un1_str, iD, bD, sxv, aEnd_of (fn := Tryd.f99) (rs := [.tmp 4]) rfl]
    refine aFin_same ?_
    have hf : l.findIdx? p = none := by rw [List.findIdx?_eq_none_iff]; intro a ha; simpa using hx a ha
    have h9 : ∀ k, n ≤ k → K (iM (-1)) B k := fun k hk => by have := hK k hk; rw [hf] at this; exact this
    exact h9 _ (by omega)

/-- The numbers with these texts. -/
def numsO (l : List (List UInt8)) : Option (List Int) := if l.all (fun s => (pdec s).2) then some (l.map fun s => (pdec s).1) else none
def Ws (l : List (List UInt8)) : Prop := l.length ≤ 1000000000 ∧ ∀ s ∈ l, s.length ≤ 9223372036854775807
theorem Numbers (l : List (List UInt8)) (hl : Ws l) : PFn Tryd.prog 80 [strsM l] (.tup [intsM ((numsO l).getD []), bM (numsO l).isSome]) := by
  obtain ⟨h1, h2⟩ := hl
  (refine PFn.of (prs := []) Tryd.func80 rfl rfl mix (by kernel_rfl) rfl rfl ?_; simp only [Tryd.ntmps80, argUpd])
  simp only [↓ru, rv, rl, ry, tyf, iM, bM, bsM, cond_true, cond_false, Nat.reduceLT, Nat.reduceBEq, Nat.reduceAdd, Nat.reduceEqDiff, Nat.reduceMul, Nat.reduceLeDiff, Nat.reduceSub, Nat.reduceDiv, Int.reduceLE, Int.reduceLT, Int.reduceNeg, Int.reduceAdd, Int.reduceSub, Int.reduceMul, Int.reduceToNat, Int.reducePow, Int.reduceEq, ne_eq, reduceIte, byteD, dstr, un1_str, iD, bD, sxv]
  refine aloop_thaw (t := 4) 1 (h := by simp only [↓ru, rv, rl, ry, tyf, iM, bM, bsM, cond_true, cond_false, Nat.reduceLT, Nat.reduceBEq, Nat.reduceAdd, Nat.reduceEqDiff, Nat.reduceMul, Nat.reduceLeDiff, Nat.reduceSub, Nat.reduceDiv, Int.reduceLE, Int.reduceLT, Int.reduceNeg, Int.reduceAdd, Int.reduceSub, Int.reduceMul, Int.reduceToNat, Int.reducePow, Int.reduceEq, ne_eq, reduceIte, byteD, dstr, un1_str, iD, bD, sxv]) ?_
  refine aloop_lv (fun i : Nat => [(0, strsM l), (9, strsM l), (10, iM l.length), (11, iM i), (4, .hsl 6 ((l.take i).map fun s => (pdec s).1).length)]) (fun i => [(6, .ar false 1 (pure2 (((l.take i).map fun s => (pdec s).1).map fun z => [iD z])))]) (fun i => i ≤ l.length ∧ (l.take i).all (fun s => (pdec s).2) = true) (fun i => l.length - i) 0 0 ?_ rfl ⟨by omega, by simp⟩ (by omega) ?_
  · simp only [↓ru, rv, rl, ry, tyf, iM, bM, bsM, cond_true, cond_false, Nat.reduceLT, Nat.reduceBEq, Nat.reduceAdd, Nat.reduceEqDiff, Nat.reduceMul, Nat.reduceLeDiff, Nat.reduceSub, Nat.reduceDiv, Int.reduceLE, Int.reduceLT, Int.reduceNeg, Int.reduceAdd, Int.reduceSub, Int.reduceMul, Int.reduceToNat, Int.reducePow, Int.reduceEq, ne_eq, reduceIte, byteD, dstr, un1_str, iD, bD, sxv]
  intro i e0 n ⟨hi, ha⟩
  have htl : ((l.take i).map fun s => (pdec s).1).length ≤ 1000000000 := by simp; omega
  have hlo : Shut (((l.take i).map fun s => (pdec s).1).length = i) := by show List.length _ = i; simp; omega
  have hnx : ∀ y, l[i]? = some y → ((l.take (i + 1)).map fun s => (pdec s).1) = ((l.take i).map fun s => (pdec s).1) ++ [(pdec y).1] := fun y hy => by rw [List.take_add_one, hy]; simp
  have hnd : ¬ i < l.length → l.all (fun s => (pdec s).2) = true ∧ ((l.take i).map fun s => (pdec s).1) = l.map fun s => (pdec s).1 := fun h => by
    have : i = l.length := by omega
    subst this
    rw [List.take_length] at ha ⊢
    exact ⟨ha, rfl⟩
  generalize ((l.take i).map fun s => (pdec s).1) = o at htl hlo hnx hnd ⊢
  simp only [↓ru, rv, rl, ry, tyf, iM, bM, bsM, cond_true, cond_false, Nat.reduceLT, Nat.reduceBEq, Nat.reduceAdd, Nat.reduceEqDiff, Nat.reduceMul, Nat.reduceLeDiff, Nat.reduceSub, Nat.reduceDiv, Int.reduceLE, Int.reduceLT, Int.reduceNeg, Int.reduceAdd, Int.reduceSub, Int.reduceMul, Int.reduceToNat, Int.reducePow, Int.reduceEq, ne_eq, reduceIte, byteD, dstr, un1_str, iD, bD, sxv]
  refine fork_split (fun h => ?_) (fun h => ?_)
  · have h' := of_decide_eq_true h
    obtain ⟨y, hy⟩ := get_of_lt (l := l) (i := i) (by omega)
    have hyl := h2 y (List.mem_of_getElem? hy)
    have hny := hnx y hy
    clear hnx hnd
    simp only [↓ru, rv, rl, ry, tyf, iM, bM, bsM, cond_true, cond_false, Nat.reduceLT, Nat.reduceBEq, Nat.reduceAdd, Nat.reduceEqDiff, Nat.reduceMul, Nat.reduceLeDiff, Nat.reduceSub, Nat.reduceDiv, Int.reduceLE, Int.reduceLT, Int.reduceNeg, Int.reduceAdd, Int.reduceSub, Int.reduceMul, Int.reduceToNat, Int.reducePow, Int.reduceEq, ne_eq, reduceIte, byteD, dstr, un1_str, iD, bD, sxv, hy]
    refine acall1_pure (ParseDecimal y hyl) rfl rfl ?_
    cases hv : (pdec y).2 with
    | false =>
      have hf : l.all (fun s => (pdec s).2) = false := by rw [List.all_eq_false]; exact ⟨y, List.mem_of_getElem? hy, by simp [hv]⟩
      have e : numsO l = none := by rw [numsO, hf]; rfl
      simp only [↓ru, rv, rl, ry, tyf, iM, bM, bsM, cond_true, cond_false, Nat.reduceLT, Nat.reduceBEq, Nat.reduceAdd, Nat.reduceEqDiff, Nat.reduceMul, Nat.reduceLeDiff, Nat.reduceSub, Nat.reduceDiv, Int.reduceLE, Int.reduceLT, Int.reduceNeg, Int.reduceAdd, Int.reduceSub, Int.reduceMul, Int.reduceToNat, Int.reducePow, Int.reduceEq, ne_eq, reduceIte, byteD, dstr, un1_str, iD, bD, sxv, hv, e, Option.getD_none, Option.isSome_none, pureEnd_of (fn := Tryd.f80) (rs := [.tmp 2, .tmp 3]) (ts := [109, 4]) rfl rfl]
      rfl
    | true =>
      simp only [↓ru, rv, rl, ry, tyf, iM, bM, bsM, cond_true, cond_false, Nat.reduceLT, Nat.reduceBEq, Nat.reduceAdd, Nat.reduceEqDiff, Nat.reduceMul, Nat.reduceLeDiff, Nat.reduceSub, Nat.reduceDiv, Int.reduceLE, Int.reduceLT, Int.reduceNeg, Int.reduceAdd, Int.reduceSub, Int.reduceMul, Int.reduceToNat, Int.reducePow, Int.reduceEq, ne_eq, reduceIte, byteD, dstr, un1_str, iD, bD, sxv, hv]
      refine grd_intro (by simp [pure2]; omega) ?_
      (try simp only [↓ru, rv, rl, ry, tyf, iM, bM, bsM, cond_true, cond_false, Nat.reduceLT, Nat.reduceBEq, Nat.reduceAdd, Nat.reduceEqDiff, Nat.reduceMul, Nat.reduceLeDiff, Nat.reduceSub, Nat.reduceDiv, Int.reduceLE, Int.reduceLT, Int.reduceNeg, Int.reduceAdd, Int.reduceSub, Int.reduceMul, Int.reduceToNat, Int.reducePow, Int.reduceEq, ne_eq, reduceIte, byteD, dstr, un1_str, iD, bD, sxv])
      simp (disch := omega) only [wrap_i64, wrap_u8, wrap_u16, wrap_u64]
      refine loopL_drop (i + 1) ?_ ?_ ⟨by omega, ?_⟩ (by omega) (by omega)
      · simp only [↓ru, rv, rl, ry, tyf, iM, bM, bsM, cond_true, cond_false, Nat.reduceLT, Nat.reduceBEq, Nat.reduceAdd, Nat.reduceEqDiff, Nat.reduceMul, Nat.reduceLeDiff, Nat.reduceSub, Nat.reduceDiv, Int.reduceLE, Int.reduceLT, Int.reduceNeg, Int.reduceAdd, Int.reduceSub, Int.reduceMul, Int.reduceToNat, Int.reducePow, Int.reduceEq, ne_eq, reduceIte, byteD, dstr, un1_str, iD, bD, sxv, hny]
        simp [pure2]
        unfold Shut at hlo
        omega
      · simp only [↓ru, rv, rl, ry, tyf, iM, bM, bsM, cond_true, cond_false, Nat.reduceLT, Nat.reduceBEq, Nat.reduceAdd, Nat.reduceEqDiff, Nat.reduceMul, Nat.reduceLeDiff, Nat.reduceSub, Nat.reduceDiv, Int.reduceLE, Int.reduceLT, Int.reduceNeg, Int.reduceAdd, Int.reduceSub, Int.reduceMul, Int.reduceToNat, Int.reducePow, Int.reduceEq, ne_eq, reduceIte, byteD, dstr, un1_str, iD, bD, sxv, hny]
        simp [pure2]
      · rw [List.take_add_one, hy, List.all_append, ha]
        simp [hv]
  · have h' := of_decide_eq_false h
    obtain ⟨h3, h4⟩ := hnd (by omega)
    have e : numsO l = some o := by rw [numsO, h3, h4]; rfl
    simp only [↓ru, rv, rl, ry, tyf, iM, bM, bsM, cond_true, cond_false, Nat.reduceLT, Nat.reduceBEq, Nat.reduceAdd, Nat.reduceEqDiff, Nat.reduceMul, Nat.reduceLeDiff, Nat.reduceSub, Nat.reduceDiv, Int.reduceLE, Int.reduceLT, Int.reduceNeg, Int.reduceAdd, Int.reduceSub, Int.reduceMul, Int.reduceToNat, Int.reducePow, Int.reduceEq, ne_eq, reduceIte, byteD, dstr, un1_str, iD, bD, sxv, e, Option.getD_some, Option.isSome_some, pureEnd_of (fn := Tryd.f80) (rs := [.tmp 2, .tmp 3]) (ts := [109, 4]) rfl rfl]
    rfl
theorem Fault1 (h : List UInt8) (tl : List (List UInt8)) (k : Kind) {B : Bx} {n q : Nat} (hq : B.get q = some (.st [strsM (h :: tl)])) : Keeps Tryd.prog B n 100 [.ptr q 0] (kindM k) (decide (k.1 = h)) := by
  intro n K hn hK
  (refine AFn.intro (prs := [(1, [])]) Tryd.func100 rfl rfl mix (by kernel_rfl) rfl (fun hB => ?_); simp only [Tryd.ntmps100, argUpd])
  have e1 : ¬ (n + 0 = q) := by have := hB q _ hq; omega
  (try (simp only [↓ru, rv, rl, ry, tyf, iM, bM, bsM, cond_true, cond_false, Nat.reduceLT, Nat.reduceBEq, Nat.reduceAdd, Nat.reduceEqDiff, Nat.reduceMul, Nat.reduceLeDiff, Nat.reduceSub, Nat.reduceDiv, Int.reduceLE, Int.reduceLT, Int.reduceNeg, Int.reduceAdd, Int.reduceSub, Int.reduceMul, Int.reduceToNat, Int.reducePow, Int.reduceEq, ne_eq, reduceIte, byteD, dstr, un1_str, iD, bD, sxv, hq, e1, aEnd_of (fn := Tryd.f100) (rs := [.tmp 3]) rfl, *])); repeat' ((first | (refine fork_split (fun _h => ?_) (fun _h => ?_)) | (refine gfork_split (fun _h => ?_) (fun _h => ?_)) | (refine dfork_split (fun _h => ?_) (fun _h => ?_))) <;> (try (simp only [↓ru, rv, rl, ry, tyf, iM, bM, bsM, cond_true, cond_false, Nat.reduceLT, Nat.reduceBEq, Nat.reduceAdd, Nat.reduceEqDiff, Nat.reduceMul, Nat.reduceLeDiff, Nat.reduceSub, Nat.reduceDiv, Int.reduceLE, Int.reduceLT, Int.reduceNeg, Int.reduceAdd, Int.reduceSub, Int.reduceMul, Int.reduceToNat, Int.reducePow, Int.reduceEq, ne_eq, reduceIte, byteD, dstr, un1_str, iD, bD, sxv, hq, e1, aEnd_of (fn := Tryd.f100) (rs := [.tmp 3]) rfl, *])))
  exact aFin_one hB (hK _ (by omega))
end Go.SC

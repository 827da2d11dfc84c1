import Derived.Test.YtmgfnlnomecbiaaDoorV1
set_option linter.all false
open Go.Proofs Go.Abs Go.Fa Go.BU Go.TX Go.TW
namespace Go.SC
set_option maxHeartbeats 4000000
set_option maxRecDepth 10000
-- rules: byteD, dstr, un1_str, iD, bD, sxv

theorem sxv {n : Nat} : sx n = n + 1 := rfl
theorem pureAFn {P : Program} {f : FuncId} {args : List M} {m : M} {B : Bx} {n : Nat} {K : KT} (h : PFn P f args m) (ha : args.all M.p1 = true) (hm : m.p2 = true) (hK : K m B n) : AFn P f args B n K :=
  ⟨h.1, fun Γ w vs h0 h1 h2 h3 => (h.use ha hm h0.1 h1 h3).mono fun _ _ ⟨cv, Γ', a, e, w2, u, mr⟩ => ⟨cv, Γ', m, B, n, a, hK, e, w2, fun p hp => h2 p (by rw [← u]; exact hp), mr⟩⟩
/-- A function value whose calls leave the boxes as they are. -/
def Keeps (P : Program) (B : Bx) (n0 : Nat) (f : FuncId) (cs : List M) (x : M) (b : Bool) : Prop := ∀ (n : Nat) (K : KT), n0 ≤ n → (∀ n', n ≤ n' → K (bM b) B n') → AFn P f (x :: cs) B n K
theorem Keeps.pure {P : Program} {B : Bx} {n0 : Nat} {f : FuncId} {x : M} {b : Bool} (h : PFn P f [x] (bM b)) (hx : x.p1 = true) : Keeps P B n0 f [] x b := fun n K _ hK =>
  pureAFn h (by simp [hx]) rfl (hK n (Nat.le_refl _))
theorem IdxAtt (l : List Att) (hl : l.length ≤ 9223372036854775807) (f : FuncId) (cs : List M) (p : Att → Bool) {B : Bx} {n : Nat} {K : KT} (H : ∀ a, Keeps Tryd.prog B n f cs (attM a) (p a))
    (hK : ∀ n', n ≤ n' → K (iM (match l.findIdx? p with | some k => (k : Int) | none => -1)) B n') : AFn Tryd.prog 82 [attsM l, .fn (.func f) [] cs] B n K := by
  (refine AFn.intro (prs := []) Tryd.func82 rfl rfl mix (by kernel_rfl) rfl (fun hB => ?_); simp only [Tryd.ntmps82, argUpd])
  simp only [↓ru, rv, rl, ry, tyf, iM, bM, bsM, cond_true, cond_false, Nat.reduceLT, Nat.reduceBEq, Nat.reduceAdd, Nat.reduceEqDiff, Nat.reduceMul, Nat.reduceLeDiff, Nat.reduceSub, Nat.reduceDiv, Int.reduceLE, Int.reduceLT, Int.reduceNeg, Int.reduceAdd, Int.reduceSub, Int.reduceMul, Int.reduceToNat, Int.reducePow, Int.reduceEq, ne_eq, reduceIte, byteD, dstr, un1_str, iD, bD, sxv]
  refine aloop_lv (fun i : Nat => [(0, attsM l), (1, .fn (.func f) [] cs), (7, iM l.length), (8, iM i)]) (fun _ => B) (fun i => i ≤ l.length ∧ ∀ a ∈ l.take i, p a = false) (fun i => l.length - i) n 0 ?_ rfl ⟨by omega, by simp⟩ (by omega) ?_
  · simp only [↓ru, rv, rl, ry, tyf, iM, bM, bsM, cond_true, cond_false, Nat.reduceLT, Nat.reduceBEq, Nat.reduceAdd, Nat.reduceEqDiff, Nat.reduceMul, Nat.reduceLeDiff, Nat.reduceSub, Nat.reduceDiv, Int.reduceLE, Int.reduceLT, Int.reduceNeg, Int.reduceAdd, Int.reduceSub, Int.reduceMul, Int.reduceToNat, Int.reducePow, Int.reduceEq, ne_eq, reduceIte, byteD, dstr, un1_str, iD, bD, sxv]
  intro i e0 m ⟨hi, hx⟩
  simp only [↓ru, rv, rl, ry, tyf, iM, bM, bsM, cond_true, cond_false, Nat.reduceLT, Nat.reduceBEq, Nat.reduceAdd, Nat.reduceEqDiff, Nat.reduceMul, Nat.reduceLeDiff, Nat.reduceSub, Nat.reduceDiv, Int.reduceLE, Int.reduceLT, Int.reduceNeg, Int.reduceAdd, Int.reduceSub, Int.reduceMul, Int.reduceToNat, Int.reducePow, Int.reduceEq, ne_eq, reduceIte, byteD, dstr, un1_str, iD, bD, sxv]
  refine fork_split (fun h => ?_) (fun h => ?_)
  · have h' := of_decide_eq_true h
    obtain ⟨y, hy⟩ := get_of_lt (l := l) (i := i) (by omega)
    simp only [↓ru, rv, rl, ry, tyf, iM, bM, bsM, cond_true, cond_false, Nat.reduceLT, Nat.reduceBEq, Nat.reduceAdd, Nat.reduceEqDiff, Nat.reduceMul, Nat.reduceLeDiff, Nat.reduceSub, Nat.reduceDiv, Int.reduceLE, Int.reduceLT, Int.reduceNeg, Int.reduceAdd, Int.reduceSub, Int.reduceMul, Int.reduceToNat, Int.reducePow, Int.reduceEq, ne_eq, reduceIte, byteD, dstr, un1_str, iD, bD, sxv, hy]
    refine acall1_inl (H y _ _ (by omega) fun n' hn => ?_)
    cases hp : p y with
    | true =>
      simp only [↓ru, rv, rl, ry, tyf, iM, bM, bsM, cond_true, cond_false, Nat.reduceLT, Nat.reduceBEq, Nat.reduceAdd, Nat.reduceEqDiff, Nat.reduceMul, Nat.reduceLeDiff, Nat.reduceSub, Nat.reduceDiv, Int.reduceLE, Int.reduceLT, Int.reduceNeg, Int.reduceAdd, Int.reduceSub, Int.reduceMul, Int.reduceToNat, Int.reducePow, Int.reduceEq, ne_eq, reduceIte, byteD, dstr, un1_str, iD, bD, sxv, aEnd_of (fn := Tryd.f82) (rs := [.tmp 4]) rfl]
      refine aFin_same ?_
      have hf : l.findIdx? p = some i := by
        rw [List.findIdx?_eq_some_iff_getElem]
        obtain ⟨hlt, hge⟩ := List.getElem?_eq_some_iff.1 hy
        refine ⟨hlt, by rw [hge]; exact hp, fun j hj => ?_⟩
        have := hx l[j] (List.mem_take_iff_getElem.2 ⟨j, by omega, rfl⟩)
        simp [this]
      have h9 : ∀ k, n ≤ k → K (iM i) B k := fun k hk => by have := hK k hk; rw [hf] at this; exact this
      exact h9 _ (by omega)
    | false =>
      simp only [↓ru, rv, rl, ry, tyf, iM, bM, bsM, cond_true, cond_false, Nat.reduceLT, Nat.reduceBEq, Nat.reduceAdd, Nat.reduceEqDiff, Nat.reduceMul, Nat.reduceLeDiff, Nat.reduceSub, Nat.reduceDiv, Int.reduceLE, Int.reduceLT, Int.reduceNeg, Int.reduceAdd, Int.reduceSub, Int.reduceMul, Int.reduceToNat, Int.reducePow, Int.reduceEq, ne_eq, reduceIte, byteD, dstr, un1_str, iD, bD, sxv]
      simp (disch := omega) only [wrap_i64, wrap_u8, wrap_u16, wrap_u64]
      refine loopL_next (i + 1) ?_ rfl ⟨by omega, ?_⟩ (by omega) (by omega)
      · simp only [↓ru, rv, rl, ry, tyf, iM, bM, bsM, cond_true, cond_false, Nat.reduceLT, Nat.reduceBEq, Nat.reduceAdd, Nat.reduceEqDiff, Nat.reduceMul, Nat.reduceLeDiff, Nat.reduceSub, Nat.reduceDiv, Int.reduceLE, Int.reduceLT, Int.reduceNeg, Int.reduceAdd, Int.reduceSub, Int.reduceMul, Int.reduceToNat, Int.reducePow, Int.reduceEq, ne_eq, reduceIte, byteD, dstr, un1_str, iD, bD, sxv]
        simp
      · rw [List.take_add_one, hy]
        intro a ha
        rcases List.mem_append.1 ha with ha | ha
        · exact hx a ha
        · have : a = y := by simpa using ha
          rw [this]; exact hp
  · have h' := of_decide_eq_false h
    have : i = l.length := by omega
    subst this
    rw [List.take_length] at hx
    simp only [↓ru, rv, rl, ry, tyf, iM, bM, bsM, cond_true, cond_false, Nat.reduceLT, Nat.reduceBEq, Nat.reduceAdd, Nat.reduceEqDiff, Nat.reduceMul, Nat.reduceLeDiff, Nat.reduceSub, Nat.reduceDiv, Int.reduceLE, Int.reduceLT, Int.reduceNeg, Int.reduceAdd, Int.reduceSub, Int.reduceMul, Int.reduceToNat, Int.reducePow, Int.reduceEq, ne_eq, reduceIte, byteD, dstr, un1_str, iD, bD, sxv, aEnd_of (fn := Tryd.f82) (rs := [.tmp 4]) rfl]
    refine aFin_same ?_
    have hf : l.findIdx? p = none := by rw [List.findIdx?_eq_none_iff]; intro a ha; simpa using hx a ha
    have h9 : ∀ k, n ≤ k → K (iM (-1)) B k := fun k hk => by have := hK k hk; rw [hf] at this; exact this
    exact h9 _ (by omega)
theorem HasAtt (l : List Att) (hl : l.length ≤ 9223372036854775807) (f : FuncId) (cs : List M) (p : Att → Bool) {B : Bx} {n : Nat} {K : KT} (H : ∀ a, Keeps Tryd.prog B n f cs (attM a) (p a))
    (hK : ∀ n', n ≤ n' → K (bM (l.any p)) B n') : AFn Tryd.prog 51 [attsM l, .fn (.func f) [] cs] B n K := by
  (refine AFn.intro (prs := []) Tryd.func51 rfl rfl mix (by kernel_rfl) rfl (fun hB => ?_); simp only [Tryd.ntmps51, argUpd])
  simp only [↓ru, rv, rl, ry, tyf, iM, bM, bsM, cond_true, cond_false, Nat.reduceLT, Nat.reduceBEq, Nat.reduceAdd, Nat.reduceEqDiff, Nat.reduceMul, Nat.reduceLeDiff, Nat.reduceSub, Nat.reduceDiv, Int.reduceLE, Int.reduceLT, Int.reduceNeg, Int.reduceAdd, Int.reduceSub, Int.reduceMul, Int.reduceToNat, Int.reducePow, Int.reduceEq, ne_eq, reduceIte, byteD, dstr, un1_str, iD, bD, sxv]
  refine acall1_inl (IdxAtt l hl f cs p (fun a k K hk hKK => H a k K (by omega) hKK) fun n' hn => ?_)
  simp only [↓ru, rv, rl, ry, tyf, iM, bM, bsM, cond_true, cond_false, Nat.reduceLT, Nat.reduceBEq, Nat.reduceAdd, Nat.reduceEqDiff, Nat.reduceMul, Nat.reduceLeDiff, Nat.reduceSub, Nat.reduceDiv, Int.reduceLE, Int.reduceLT, Int.reduceNeg, Int.reduceAdd, Int.reduceSub, Int.reduceMul, Int.reduceToNat, Int.reducePow, Int.reduceEq, ne_eq, reduceIte, byteD, dstr, un1_str, iD, bD, sxv, aEnd_of (fn := Tryd.f51) (rs := [.tmp 4]) rfl]
  refine aFin_same ?_
  have e : l.any p = decide ((0 : Int) ≤ match l.findIdx? p with | some k => (k : Int) | none => -1) := by
    cases h : l.findIdx? p with
    | none =>
      rw [List.findIdx?_eq_none_iff] at h
      rw [List.any_eq_false.2 (fun a ha => by simpa using h a ha)]; rfl
    | some k =>
      have h2 := (List.findIdx?_eq_some_iff_getElem.1 h)
      obtain ⟨hlt, hp, _⟩ := h2
      rw [List.any_eq_true.2 ⟨_, List.getElem_mem hlt, hp⟩]; simp
  rw [e] at hK
  exact hK _ (by omega)
end Go.SC

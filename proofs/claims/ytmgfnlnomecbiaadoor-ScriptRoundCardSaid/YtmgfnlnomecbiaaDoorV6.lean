import Derived.Test.YtmgfnlnomecbiaaDoorV5
set_option linter.all false
open Go.Proofs Go.Abs Go.Fa Go.BU Go.TX Go.TW
namespace Go.SC
set_option maxHeartbeats 4000000
set_option maxRecDepth 10000
-- rules: byteD, dstr, un1_str, iD, bD, sxv

/-- A fact that simp does not use. -/
def Shut (p : Prop) : Prop := p
/-- The faults on end at m. -/
def cnt (f : Nat → Bool) : Nat → Nat
  | 0 => 0
  | i + 1 => if f i then cnt f i + 1 else 0
theorem cnt_ge (f : Nat → Bool) : ∀ (m k : Nat), k ≤ cnt f m ↔ k ≤ m ∧ ∀ j, j < k → f (m - 1 - j) = true
  | 0, k => by
    rw [cnt]
    constructor
    · intro h; exact ⟨h, fun j hj => by omega⟩
    · exact fun h => h.1
  | m + 1, k => by
    rw [cnt]
    by_cases hf : f m = true
    · rw [if_pos hf]
      rcases k with _ | k
      · simp
      · have ih := cnt_ge f m k
        constructor
        · intro h
          obtain ⟨h1, h2⟩ := ih.1 (by omega)
          refine ⟨by omega, fun j hj => ?_⟩
          rcases j with _ | j
          · simpa using hf
          · have := h2 j (by omega)
            rwa [show m + 1 - 1 - (j + 1) = m - 1 - j by omega]
        · intro ⟨h1, h2⟩
          have := ih.2 ⟨by omega, fun j hj => by have := h2 (j + 1) (by omega); rwa [show m + 1 - 1 - (j + 1) = m - 1 - j by omega] at this⟩
          omega
    · rw [if_neg hf]
      constructor
      · intro h; have : k = 0 := by omega
        subst this; exact ⟨by omega, fun j hj => by omega⟩
      · intro ⟨h1, h2⟩
        rcases k with _ | k
        · omega
        · exact absurd (by simpa using h2 0 (by omega)) hf
theorem cnt_le (f : Nat → Bool) (m : Nat) : cnt f m ≤ m := ((cnt_ge f m _).1 (Nat.le_refl _)).1
def fl (s : Scr) (i : Nat) : Bool := !unf (atF s i)
def lastF (s : Scr) (r : Nat) : Nat := if s.loop then s.att.length + r else s.att.length
def fairN (s : Scr) (r : Nat) : Bool := (List.range (lastF s r)).all fun i => decide (cnt (fl s) (i + 1) ≤ r)
def fairF (s : Scr) (r : Int) : Bool := scrOK s && wi r 5 && fairN s r.toNat
theorem at_lt {s : Scr} (hk : scrOK s = true) {r i : Nat} (hi : i < lastF s r) : s.att[i % s.att.length]? = some (atF s i) := by
  have hl := scr_loop hk
  obtain ⟨l, lp, c⟩ := s
  simp only [lastF] at hi hl
  have h0 : l.length ≠ 0 := by
    cases lp
    · simp at hi; intro e; omega
    · exact hl rfl
  have hm : i % l.length < l.length := Nat.mod_lt _ (by omega)
  rw [atF, if_neg]
  · simp only
    rw [List.getD_eq_getElem?_getD, List.getElem?_eq_getElem hm]; rfl
  · intro hh
    rcases hh with hh | ⟨ha, hb⟩
    · exact h0 hh
    · simp only at ha hb; subst ha; simp at hi; omega
theorem Fair (s : Scr) (hs : Sz s) (r : Int) : PFn Tryd.prog 18 [scrM s, iM r] (bM (fairF s r)) := by
  have hV := Valid s hs
  cases hk : scrOK s with
  | false =>
    rw [hk] at hV
    have e : fairF s r = false := by rw [fairF, hk]; rfl
    rw [e]
    clear e hk
    (refine PFn.of (prs := [(12, [])]) Tryd.func18 rfl rfl mix (by kernel_rfl) rfl rfl ?_; simp only [Tryd.ntmps18, argUpd])
    (try (simp only [↓ru, rv, rl, ry, tyf, iM, bM, bsM, cond_true, cond_false, Nat.reduceLT, Nat.reduceBEq, Nat.reduceAdd, Nat.reduceEqDiff, Nat.reduceMul, Nat.reduceLeDiff, Nat.reduceSub, Nat.reduceDiv, Int.reduceLE, Int.reduceLT, Int.reduceNeg, Int.reduceAdd, Int.reduceSub, Int.reduceMul, Int.reduceToNat, Int.reducePow, Int.reduceEq, ne_eq, reduceIte, byteD, dstr, un1_str, iD, bD, sxv, pureEnd_of (fn := Tryd.f18) (rs := [.tmp 4]) (ts := [4]) rfl rfl, *])); repeat' ((first | (refine fork_split (fun _h => ?_) (fun _h => ?_)) | (refine gfork_split (fun _h => ?_) (fun _h => ?_)) | (refine dfork_split (fun _h => ?_) (fun _h => ?_)) | (refine acall1_pure hV rfl rfl ?_) | (refine dcall1_pure hV rfl rfl ?_)) <;> (try (simp only [↓ru, rv, rl, ry, tyf, iM, bM, bsM, cond_true, cond_false, Nat.reduceLT, Nat.reduceBEq, Nat.reduceAdd, Nat.reduceEqDiff, Nat.reduceMul, Nat.reduceLeDiff, Nat.reduceSub, Nat.reduceDiv, Int.reduceLE, Int.reduceLT, Int.reduceNeg, Int.reduceAdd, Int.reduceSub, Int.reduceMul, Int.reduceToNat, Int.reducePow, Int.reduceEq, ne_eq, reduceIte, byteD, dstr, un1_str, iD, bD, sxv, pureEnd_of (fn := Tryd.f18) (rs := [.tmp 4]) (ts := [4]) rfl rfl, *])))
  | true =>
    cases hw : wi r 5 with
    | false =>
      rw [hk] at hV
      have e : fairF s r = false := by rw [fairF, hw, Bool.and_false]; rfl
      rw [e]
      clear e hk
      (refine PFn.of (prs := [(12, [])]) Tryd.func18 rfl rfl mix (by kernel_rfl) rfl rfl ?_; simp only [Tryd.ntmps18, argUpd])
      (try (simp only [↓ru, rv, rl, ry, tyf, iM, bM, bsM, cond_true, cond_false, Nat.reduceLT, Nat.reduceBEq, Nat.reduceAdd, Nat.reduceEqDiff, Nat.reduceMul, Nat.reduceLeDiff, Nat.reduceSub, Nat.reduceDiv, Int.reduceLE, Int.reduceLT, Int.reduceNeg, Int.reduceAdd, Int.reduceSub, Int.reduceMul, Int.reduceToNat, Int.reducePow, Int.reduceEq, ne_eq, reduceIte, byteD, dstr, un1_str, iD, bD, sxv, pureEnd_of (fn := Tryd.f18) (rs := [.tmp 4]) (ts := [4]) rfl rfl, *])); repeat' ((first | (refine fork_split (fun _h => ?_) (fun _h => ?_)) | (refine gfork_split (fun _h => ?_) (fun _h => ?_)) | (refine dfork_split (fun _h => ?_) (fun _h => ?_)) | (refine acall1_pure hV rfl rfl ?_) | (refine dcall1_pure hV rfl rfl ?_) | (refine acall1_pure (Within r 5) rfl rfl ?_) | (refine dcall1_pure (Within r 5) rfl rfl ?_)) <;> (try (simp only [↓ru, rv, rl, ry, tyf, iM, bM, bsM, cond_true, cond_false, Nat.reduceLT, Nat.reduceBEq, Nat.reduceAdd, Nat.reduceEqDiff, Nat.reduceMul, Nat.reduceLeDiff, Nat.reduceSub, Nat.reduceDiv, Int.reduceLE, Int.reduceLT, Int.reduceNeg, Int.reduceAdd, Int.reduceSub, Int.reduceMul, Int.reduceToNat, Int.reducePow, Int.reduceEq, ne_eq, reduceIte, byteD, dstr, un1_str, iD, bD, sxv, pureEnd_of (fn := Tryd.f18) (rs := [.tmp 4]) (ts := [4]) rfl rfl, *])))
    | true =>
      have hw' := wi_iff.1 hw
      obtain ⟨k, rfl⟩ : ∃ k : Nat, r = k := ⟨r.toNat, by omega⟩
      have e : fairF s k = fairN s k := by rw [fairF, hk, hw]; simp
      rw [e, fairN]
      have hlt : Shut (∀ {i : Nat}, i < lastF s k → s.att[i % s.att.length]? = some (atF s i)) := @at_lt s hk k
      have hlen := scr_len hk
      rw [hk] at hV
      have hn0 : ∀ i, i < lastF s k → (s.att.length : Int) ≠ 0 := fun i hi => by
        have := hlt hi
        intro h0
        have h0 : s.att.length = 0 := by omega
        rw [List.getElem?_eq_none (by omega)] at this; cases this
      have hmod : Shut (∀ i : Nat, Int.tmod (i : Int) (s.att.length : Int) = ((i % s.att.length : Nat) : Int)) := fun i => Int.tmod_eq_emod_of_nonneg (by omega)
      have hc := cnt_le (fl s)
      have hst : Shut (∀ i, cnt (fl s) (i + 1) = if fl s i then cnt (fl s) i + 1 else 0) := fun i => rfl
      have hfl : Shut (∀ i, unf (atF s i) = !fl s i) := fun i => by rw [fl, Bool.not_not]
      have g0 : cnt (fl s) 0 = 0 := rfl
      generalize cnt (fl s) = g at *
      generalize fl s = f at *
      have hla : Shut (lastF s k = if s.loop then s.att.length + k else s.att.length) := rfl
      have hlb : lastF s k ≤ 5000 := by rw [lastF]; split <;> omega
      generalize lastF s k = la at *
      clear hk e
      (refine PFn.of (prs := [(12, [])]) Tryd.func18 rfl rfl mix (by kernel_rfl) rfl rfl ?_; simp only [Tryd.ntmps18, argUpd])
      (try (simp only [↓ru, rv, rl, ry, tyf, iM, bM, bsM, cond_true, cond_false, Nat.reduceLT, Nat.reduceBEq, Nat.reduceAdd, Nat.reduceEqDiff, Nat.reduceMul, Nat.reduceLeDiff, Nat.reduceSub, Nat.reduceDiv, Int.reduceLE, Int.reduceLT, Int.reduceNeg, Int.reduceAdd, Int.reduceSub, Int.reduceMul, Int.reduceToNat, Int.reducePow, Int.reduceEq, ne_eq, reduceIte, byteD, dstr, un1_str, iD, bD, sxv, *])); repeat' ((first | (refine fork_split (fun _h => ?_) (fun _h => ?_)) | (refine gfork_split (fun _h => ?_) (fun _h => ?_)) | (refine dfork_split (fun _h => ?_) (fun _h => ?_)) | (refine acall1_pure hV rfl rfl ?_) | (refine dcall1_pure hV rfl rfl ?_) | (refine acall1_pure (Within k 5) rfl rfl ?_) | (refine dcall1_pure (Within k 5) rfl rfl ?_)) <;> (try (simp only [↓ru, rv, rl, ry, tyf, iM, bM, bsM, cond_true, cond_false, Nat.reduceLT, Nat.reduceBEq, Nat.reduceAdd, Nat.reduceEqDiff, Nat.reduceMul, Nat.reduceLeDiff, Nat.reduceSub, Nat.reduceDiv, Int.reduceLE, Int.reduceLT, Int.reduceNeg, Int.reduceAdd, Int.reduceSub, Int.reduceMul, Int.reduceToNat, Int.reducePow, Int.reduceEq, ne_eq, reduceIte, byteD, dstr, un1_str, iD, bD, sxv, *])))
      all_goals
        have ela : Shut ((la : Int) = IntKind.i64.wrap ((s.att.length : Int) + (k : Int)) ∨ (la : Int) = (s.att.length : Int)) := by
          unfold Shut
          unfold Shut at hla
          rw [hla]; simp only [*]
          first
            | (left; rw [wrap_i64 (by omega) (by omega)]; simp; done)
            | (right; simp; done)
        refine aloop_lv (fun i : Nat => [(1, iM k), (2, .ptr 0 0), (5, iM s.att.length), (7, iM (g i)), (26, iM la), (27, iM i)]) (fun _ => [(0, .st [attsM s.att, _, crsM s.crs])]) (fun i => i ≤ la ∧ (List.range i).all (fun i => decide (g (i + 1) ≤ k)) = true) (fun i => la - i) 0 0 ?_ rfl ⟨by omega, by simp⟩ (by omega) ?_
        · simp only [↓ru, rv, rl, ry, tyf, iM, bM, bsM, cond_true, cond_false, Nat.reduceLT, Nat.reduceBEq, Nat.reduceAdd, Nat.reduceEqDiff, Nat.reduceMul, Nat.reduceLeDiff, Nat.reduceSub, Nat.reduceDiv, Int.reduceLE, Int.reduceLT, Int.reduceNeg, Int.reduceAdd, Int.reduceSub, Int.reduceMul, Int.reduceToNat, Int.reducePow, Int.reduceEq, ne_eq, reduceIte, byteD, dstr, un1_str, iD, bD, sxv, g0]
          unfold Shut at hla
          rw [wrap_i64 (by omega) (by omega)] at *
          simp [hla, *]
        intro i e0 n ⟨hi, ha⟩
        simp only [↓ru, rv, rl, ry, tyf, iM, bM, bsM, cond_true, cond_false, Nat.reduceLT, Nat.reduceBEq, Nat.reduceAdd, Nat.reduceEqDiff, Nat.reduceMul, Nat.reduceLeDiff, Nat.reduceSub, Nat.reduceDiv, Int.reduceLE, Int.reduceLT, Int.reduceNeg, Int.reduceAdd, Int.reduceSub, Int.reduceMul, Int.reduceToNat, Int.reducePow, Int.reduceEq, ne_eq, reduceIte, byteD, dstr, un1_str, iD, bD, sxv]
        refine fork_split (fun h => ?_) (fun h => ?_)
        · have h' := of_decide_eq_true h
          have hil : i < la := by omega
          have hy := hlt hil
          have hne := hn0 i hil
          have hci := hc i
          have hU := Unf (atF s i)
          rw [hfl i] at hU
          have hgi := hst i
          have hmi := hmod i
          cases hf : f i with
          | true =>
            rw [hf] at hU
            rw [hf, if_pos rfl] at hgi
            have hgi' : Shut (g (i + 1) = g i + 1) := hgi
            clear hgi
            have ew : IntKind.i64.wrap ((g i : Int) + 1) = ((g i + 1 : Nat) : Int) := by rw [wrap_i64 (by omega) (by omega)]; simp
            (try (simp only [↓ru, rv, rl, ry, tyf, iM, bM, bsM, cond_true, cond_false, Nat.reduceLT, Nat.reduceBEq, Nat.reduceAdd, Nat.reduceEqDiff, Nat.reduceMul, Nat.reduceLeDiff, Nat.reduceSub, Nat.reduceDiv, Int.reduceLE, Int.reduceLT, Int.reduceNeg, Int.reduceAdd, Int.reduceSub, Int.reduceMul, Int.reduceToNat, Int.reducePow, Int.reduceEq, ne_eq, reduceIte, byteD, dstr, un1_str, iD, bD, sxv, hmi, hne, hy, ew, Int.toNat_natCast, *])); repeat' ((first | (refine fork_split (fun _h => ?_) (fun _h => ?_)) | (refine gfork_split (fun _h => ?_) (fun _h => ?_)) | (refine dfork_split (fun _h => ?_) (fun _h => ?_)) | (refine acall1_pure hU rfl rfl ?_) | (refine dcall1_pure hU rfl rfl ?_)) <;> (try (simp only [↓ru, rv, rl, ry, tyf, iM, bM, bsM, cond_true, cond_false, Nat.reduceLT, Nat.reduceBEq, Nat.reduceAdd, Nat.reduceEqDiff, Nat.reduceMul, Nat.reduceLeDiff, Nat.reduceSub, Nat.reduceDiv, Int.reduceLE, Int.reduceLT, Int.reduceNeg, Int.reduceAdd, Int.reduceSub, Int.reduceMul, Int.reduceToNat, Int.reducePow, Int.reduceEq, ne_eq, reduceIte, byteD, dstr, un1_str, iD, bD, sxv, hmi, hne, hy, ew, Int.toNat_natCast, *])))
            · have h9 := of_decide_eq_true _h
              have hfa : ((List.range la).all fun i => decide (g (i + 1) ≤ k)) = false := by
                unfold Shut at hgi'
                rw [List.all_eq_false]; exact ⟨i, by simpa using hil, by rw [hgi']; simp; omega⟩
              rw [hfa]
              simp only [↓ru, rv, rl, ry, tyf, iM, bM, bsM, cond_true, cond_false, Nat.reduceLT, Nat.reduceBEq, Nat.reduceAdd, Nat.reduceEqDiff, Nat.reduceMul, Nat.reduceLeDiff, Nat.reduceSub, Nat.reduceDiv, Int.reduceLE, Int.reduceLT, Int.reduceNeg, Int.reduceAdd, Int.reduceSub, Int.reduceMul, Int.reduceToNat, Int.reducePow, Int.reduceEq, ne_eq, reduceIte, byteD, dstr, un1_str, iD, bD, sxv, pureEnd_of (fn := Tryd.f18) (rs := [.tmp 4]) (ts := [4]) rfl rfl]
            · have h9 := of_decide_eq_false _h
              simp (disch := omega) only [wrap_i64, wrap_u8, wrap_u16, wrap_u64]
              refine loopL_next (i + 1) ?_ rfl ⟨by omega, ?_⟩ (by omega) (by omega)
              · unfold Shut at hgi'
                simp only [↓ru, rv, rl, ry, tyf, iM, bM, bsM, cond_true, cond_false, Nat.reduceLT, Nat.reduceBEq, Nat.reduceAdd, Nat.reduceEqDiff, Nat.reduceMul, Nat.reduceLeDiff, Nat.reduceSub, Nat.reduceDiv, Int.reduceLE, Int.reduceLT, Int.reduceNeg, Int.reduceAdd, Int.reduceSub, Int.reduceMul, Int.reduceToNat, Int.reducePow, Int.reduceEq, ne_eq, reduceIte, byteD, dstr, un1_str, iD, bD, sxv, hgi']
                simp
              · unfold Shut at hgi'
                rw [List.range_succ, List.all_append, ha]; simp [hgi']; omega
          | false =>
            rw [hf] at hU
            rw [hf, if_neg (by simp)] at hgi
            have hgi' : Shut (g (i + 1) = 0) := hgi
            clear hgi
            have d0 : decide ((k : Int) < 0) = false := decide_eq_false (by omega)
            (try (simp only [↓ru, rv, rl, ry, tyf, iM, bM, bsM, cond_true, cond_false, Nat.reduceLT, Nat.reduceBEq, Nat.reduceAdd, Nat.reduceEqDiff, Nat.reduceMul, Nat.reduceLeDiff, Nat.reduceSub, Nat.reduceDiv, Int.reduceLE, Int.reduceLT, Int.reduceNeg, Int.reduceAdd, Int.reduceSub, Int.reduceMul, Int.reduceToNat, Int.reducePow, Int.reduceEq, ne_eq, reduceIte, byteD, dstr, un1_str, iD, bD, sxv, hmi, hne, hy, d0, Int.toNat_natCast, *])); repeat' ((first | (refine fork_split (fun _h => ?_) (fun _h => ?_)) | (refine gfork_split (fun _h => ?_) (fun _h => ?_)) | (refine dfork_split (fun _h => ?_) (fun _h => ?_)) | (refine acall1_pure hU rfl rfl ?_) | (refine dcall1_pure hU rfl rfl ?_)) <;> (try (simp only [↓ru, rv, rl, ry, tyf, iM, bM, bsM, cond_true, cond_false, Nat.reduceLT, Nat.reduceBEq, Nat.reduceAdd, Nat.reduceEqDiff, Nat.reduceMul, Nat.reduceLeDiff, Nat.reduceSub, Nat.reduceDiv, Int.reduceLE, Int.reduceLT, Int.reduceNeg, Int.reduceAdd, Int.reduceSub, Int.reduceMul, Int.reduceToNat, Int.reducePow, Int.reduceEq, ne_eq, reduceIte, byteD, dstr, un1_str, iD, bD, sxv, hmi, hne, hy, d0, Int.toNat_natCast, *])))
            simp (disch := omega) only [wrap_i64, wrap_u8, wrap_u16, wrap_u64]
            refine loopL_next (i + 1) ?_ rfl ⟨by omega, ?_⟩ (by omega) (by omega)
            · unfold Shut at hgi'
              simp only [↓ru, rv, rl, ry, tyf, iM, bM, bsM, cond_true, cond_false, Nat.reduceLT, Nat.reduceBEq, Nat.reduceAdd, Nat.reduceEqDiff, Nat.reduceMul, Nat.reduceLeDiff, Nat.reduceSub, Nat.reduceDiv, Int.reduceLE, Int.reduceLT, Int.reduceNeg, Int.reduceAdd, Int.reduceSub, Int.reduceMul, Int.reduceToNat, Int.reducePow, Int.reduceEq, ne_eq, reduceIte, byteD, dstr, un1_str, iD, bD, sxv, hgi']
              simp
            · unfold Shut at hgi'
              rw [List.range_succ, List.all_append, ha]; simp [hgi']
        · have h' := of_decide_eq_false h
          have : i = la := by omega
          subst this
          simp only [↓ru, rv, rl, ry, tyf, iM, bM, bsM, cond_true, cond_false, Nat.reduceLT, Nat.reduceBEq, Nat.reduceAdd, Nat.reduceEqDiff, Nat.reduceMul, Nat.reduceLeDiff, Nat.reduceSub, Nat.reduceDiv, Int.reduceLE, Int.reduceLT, Int.reduceNeg, Int.reduceAdd, Int.reduceSub, Int.reduceMul, Int.reduceToNat, Int.reducePow, Int.reduceEq, ne_eq, reduceIte, byteD, dstr, un1_str, iD, bD, sxv, ha, pureEnd_of (fn := Tryd.f18) (rs := [.tmp 4]) (ts := [4]) rfl rfl]
end Go.SC

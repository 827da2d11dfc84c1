import Derived.Test.YtmgfnlnomecbiaaDoorV11
set_option linter.all false
open Go.Proofs Go.Abs Go.Fa Go.BU Go.TX Go.TW
namespace Go.SC
set_option maxHeartbeats 4000000
set_option maxRecDepth 10000
-- rules: byteD, dstr, un1_str, iD, bD

/-- A window of r + 1 attempts has one without a fault. -/
def winF (s : Scr) (r i : Nat) : Bool := (List.range (r + 1)).any fun k => unf (atF s (i + k))
theorem at_mod {s : Scr} (hl : s.loop = true) {a b : Nat} (h : a % s.att.length = b % s.att.length) : atF s a = atF s b := by
  unfold atF
  simp only [hl, h]
  simp
theorem fl_end {s : Scr} (hl : s.loop = false) {i : Nat} (h : s.att.length ≤ i) : fl s i = false := by
  rw [fl, atF, if_pos (.inr ⟨hl, h⟩)]
  rfl
theorem fair_win {s : Scr} (hk : scrOK s = true) (r : Nat) : fairN s r = (List.range (2 * s.att.length + 2)).all (winF s r) := by
  have hn := scr_loop hk
  rw [Bool.eq_iff_iff, fairN, List.all_eq_true, List.all_eq_true]
  constructor
  · intro H i hi
    have hi' : i < 2 * s.att.length + 2 := by simpa using hi
    apply Classical.byContradiction
    intro hw
    have hf : ∀ k, k < r + 1 → fl s (i + k) = true := fun k hk => by
      rw [winF] at hw
      have : (List.range (r + 1)).any (fun k => unf (atF s (i + k))) = false := by simpa using hw
      rw [List.any_eq_false] at this
      have := this k (by simpa using hk)
      rw [fl]; simpa using this
    have key : ∀ i', (∀ k, k < r + 1 → fl s (i' + k) = true) → i' + r < lastF s r → False := fun i' hf' hlt => by
      have h1 := of_decide_eq_true (H (i' + r) (by simpa using hlt))
      have h2 := (cnt_ge (fl s) (i' + r + 1) (r + 1)).2 ⟨by omega, fun j hj => by
        have := hf' (r - j) (by omega)
        rwa [show i' + r + 1 - 1 - j = i' + (r - j) by omega]⟩
      omega
    cases hlp : s.loop with
    | true =>
      have hn := hn hlp
      have hm : i % s.att.length < s.att.length := Nat.mod_lt _ (by omega)
      refine key (i % s.att.length) (fun k hk => ?_) (by rw [lastF, hlp]; simp; omega)
      have := hf k hk
      rw [fl] at this ⊢
      rw [at_mod hlp (a := i % s.att.length + k) (b := i + k) (by rw [Nat.add_mod, Nat.mod_mod, ← Nat.add_mod])]
      exact this
    | false =>
      have h1 := hf r (by omega)
      have h2 : i + r < s.att.length := by
        apply Classical.byContradiction
        intro h
        rw [fl_end hlp (by omega)] at h1; cases h1
      exact key i hf (by rw [lastF, hlp]; simpa using h2)
  · intro H i hi
    have hi' : i < lastF s r := by simpa using hi
    apply decide_eq_true
    apply Classical.byContradiction
    intro h
    obtain ⟨h1, h2⟩ := (cnt_ge (fl s) (i + 1) (r + 1)).1 (by omega)
    have hlast : lastF s r ≤ s.att.length + r := by rw [lastF]; split <;> omega
    have hw := H (i - r) (by simp; omega)
    rw [winF, List.any_eq_true] at hw
    obtain ⟨k, hk, hu⟩ := hw
    have hk' : k < r + 1 := by simpa using hk
    have := h2 (r - k) (by omega)
    rw [fl, show i + 1 - 1 - (r - k) = i - r + k by omega, hu] at this
    cases this
theorem win_more {s : Scr} {r i : Nat} (h : winF s r i = true) : winF s (r + 1) i = true := by
  rw [winF, List.any_eq_true] at h ⊢
  obtain ⟨k, hk, hu⟩ := h
  have : k < r + 1 := by simpa using hk
  exact ⟨k, by simp; omega, hu⟩
theorem fair_more {s : Scr} (hk : scrOK s = true) {r : Nat} (h : fairN s r = true) : fairN s (r + 1) = true := by
  rw [fair_win hk] at h ⊢
  rw [List.all_eq_true] at h ⊢
  exact fun i hi => win_more (h i hi)
theorem lScriptFair (s : Scr) (hs : Sz s) (r : Int) (hr : -9223372036854775808 ≤ r ∧ r ≤ 9223372036854775807) : PFn Tryd.prog 3 [scrM s, iM r] (bM true) := by
  have hm := MkScript s hs 20
  have hS := ScriptR s hs
  by_cases hg : s.att.length ≤ 20 ∧ s.crs.length ≤ 12
  · by_cases hb : scrOK s = true ∧ 0 ≤ r ∧ r ≤ 5
    · obtain ⟨hk, hr0, hr5⟩ := hb
      obtain ⟨k, rfl⟩ : ∃ k : Nat, r = k := ⟨r.toNat, by omega⟩
      have hF := Fair s hs k
      have hF2 := Fair s hs (k + 1)
      have e1 : fairF s k = fairN s k := by rw [fairF, hk, wi_iff.2 ⟨hr0, hr5⟩]; simp
      have e2 : fairN s k = true → k ≠ 5 → fairF s (k + 1) = true := fun h h5 => by
        rw [fairF, hk, wi_iff.2 ⟨by omega, by omega⟩]
        have := fair_more hk h
        rw [show ((k : Int) + 1).toNat = k + 1 by omega, this]; rfl
      rw [e1, fair_win hk] at hF
      rw [fair_win hk] at e2
      rw [hk] at hS
      have hAt := AtR s hs
      obtain ⟨l, lp, c⟩ := s
      simp only at hg hF e2
      have hUn : ∀ i : Nat, PFn Tryd.prog 16 [attM (atF ⟨l, lp, c⟩ i)] (bM (unf (atF ⟨l, lp, c⟩ i))) := fun i => UnfR _
      have hwd : Shut (∀ i, winF ⟨l, lp, c⟩ k i = (List.range (k + 1)).any fun k => unf (atF ⟨l, lp, c⟩ (i + k))) := fun i => rfl
      generalize winF ⟨l, lp, c⟩ k = wf at *
      have g1 : (decide ((l.length : Int) ≤ 20) && decide (c.length ≤ 12)) = true := by simp; omega
      have d1 : decide ((0 : Int) ≤ (k : Int)) = true := decide_eq_true hr0
      have d2 : decide ((k : Int) ≤ 5) = true := decide_eq_true hr5
      simp only at hm
      rw [g1] at hm
      have he1 : Shut (fairF ⟨l, lp, c⟩ k = fairN ⟨l, lp, c⟩ k) := e1
      clear e1 g1 hk
      (refine PFn.of (prs := []) Tryd.func3 rfl rfl mix (by kernel_rfl) rfl rfl ?_; simp only [Tryd.ntmps3, argUpd])
      (try (simp only [↓ru, rv, rl, ry, tyf, iM, bM, bsM, cond_true, cond_false, Nat.reduceLT, Nat.reduceBEq, Nat.reduceAdd, Nat.reduceEqDiff, Nat.reduceMul, Nat.reduceLeDiff, Nat.reduceSub, Nat.reduceDiv, Int.reduceLE, Int.reduceLT, Int.reduceNeg, Int.reduceAdd, Int.reduceSub, Int.reduceMul, Int.reduceToNat, Int.reducePow, Int.reduceEq, ne_eq, reduceIte, byteD, dstr, un1_str, iD, bD, d1, d2, *])); repeat' ((first | (refine fork_split (fun _h => ?_) (fun _h => ?_)) | (refine gfork_split (fun _h => ?_) (fun _h => ?_)) | (refine dfork_split (fun _h => ?_) (fun _h => ?_)) | (refine acall1_pure hm rfl rfl ?_) | (refine dcall1_pure hm rfl rfl ?_) | (refine acall1_pure hS rfl rfl ?_) | (refine dcall1_pure hS rfl rfl ?_)) <;> (try (simp only [↓ru, rv, rl, ry, tyf, iM, bM, bsM, cond_true, cond_false, Nat.reduceLT, Nat.reduceBEq, Nat.reduceAdd, Nat.reduceEqDiff, Nat.reduceMul, Nat.reduceLeDiff, Nat.reduceSub, Nat.reduceDiv, Int.reduceLE, Int.reduceLT, Int.reduceNeg, Int.reduceAdd, Int.reduceSub, Int.reduceMul, Int.reduceToNat, Int.reducePow, Int.reduceEq, ne_eq, reduceIte, byteD, dstr, un1_str, iD, bD, d1, d2, *])))
      refine aloop_lv (fun i : Nat => [(1, iM k), (2, .ptr 0 0), (5, bM ((List.range i).all wf)), (6, iM i)]) (fun _ => [(0, .st [attsM l, bM lp, crsM c])]) (fun i => i ≤ 2 * l.length + 2) (fun i => 2 * l.length + 2 - i) 0 0 ?_ rfl (by omega) (by omega) ?_
      · simp only [↓ru, rv, rl, ry, tyf, iM, bM, bsM, cond_true, cond_false, Nat.reduceLT, Nat.reduceBEq, Nat.reduceAdd, Nat.reduceEqDiff, Nat.reduceMul, Nat.reduceLeDiff, Nat.reduceSub, Nat.reduceDiv, Int.reduceLE, Int.reduceLT, Int.reduceNeg, Int.reduceAdd, Int.reduceSub, Int.reduceMul, Int.reduceToNat, Int.reducePow, Int.reduceEq, ne_eq, reduceIte, byteD, dstr, un1_str, iD, bD]
        simp
      intro i e0 n hi
      simp only [↓ru, rv, rl, ry, tyf, iM, bM, bsM, cond_true, cond_false, Nat.reduceLT, Nat.reduceBEq, Nat.reduceAdd, Nat.reduceEqDiff, Nat.reduceMul, Nat.reduceLeDiff, Nat.reduceSub, Nat.reduceDiv, Int.reduceLE, Int.reduceLT, Int.reduceNeg, Int.reduceAdd, Int.reduceSub, Int.reduceMul, Int.reduceToNat, Int.reducePow, Int.reduceEq, ne_eq, reduceIte, byteD, dstr, un1_str, iD, bD]
      simp (disch := omega) only [wrap_i64, wrap_u8, wrap_u16, wrap_u64]
      have fin : ∀ (i : Nat), (List.range i).all wf = (List.range (2 * l.length + 2)).all wf → Shut True := fun _ _ => trivial
      refine gfork_split (fun h => ?_) (fun h => ?_)
      · have h' := of_decide_eq_true h
        cases ha : (List.range i).all wf with
        | true =>
          have ha' : Shut ((List.range i).all wf = true) := ha
          clear ha
          simp only [↓ru, rv, rl, ry, tyf, iM, bM, bsM, cond_true, cond_false, Nat.reduceLT, Nat.reduceBEq, Nat.reduceAdd, Nat.reduceEqDiff, Nat.reduceMul, Nat.reduceLeDiff, Nat.reduceSub, Nat.reduceDiv, Int.reduceLE, Int.reduceLT, Int.reduceNeg, Int.reduceAdd, Int.reduceSub, Int.reduceMul, Int.reduceToNat, Int.reducePow, Int.reduceEq, ne_eq, reduceIte, byteD, dstr, un1_str, iD, bD]
          refine aloop_lv (fun j : Nat => [(1, iM k), (2, .ptr 0 0), (6, iM i), (7, bM ((List.range j).any fun q => unf (atF ⟨l, lp, c⟩ (i + q)))), (8, iM j)]) (fun _ => [(0, .st [attsM l, bM lp, crsM c])]) (fun j => j ≤ k + 1) (fun j => k + 1 - j) 0 0 ?_ rfl (by omega) (by omega) ?_
          · simp only [↓ru, rv, rl, ry, tyf, iM, bM, bsM, cond_true, cond_false, Nat.reduceLT, Nat.reduceBEq, Nat.reduceAdd, Nat.reduceEqDiff, Nat.reduceMul, Nat.reduceLeDiff, Nat.reduceSub, Nat.reduceDiv, Int.reduceLE, Int.reduceLT, Int.reduceNeg, Int.reduceAdd, Int.reduceSub, Int.reduceMul, Int.reduceToNat, Int.reducePow, Int.reduceEq, ne_eq, reduceIte, byteD, dstr, un1_str, iD, bD]
            simp
          intro j e1 n2 hj
          simp only [↓ru, rv, rl, ry, tyf, iM, bM, bsM, cond_true, cond_false, Nat.reduceLT, Nat.reduceBEq, Nat.reduceAdd, Nat.reduceEqDiff, Nat.reduceMul, Nat.reduceLeDiff, Nat.reduceSub, Nat.reduceDiv, Int.reduceLE, Int.reduceLT, Int.reduceNeg, Int.reduceAdd, Int.reduceSub, Int.reduceMul, Int.reduceToNat, Int.reducePow, Int.reduceEq, ne_eq, reduceIte, byteD, dstr, un1_str, iD, bD]
          refine fork_split (fun h2 => ?_) (fun h2 => ?_)
          · have h2' := of_decide_eq_true h2
            have ew : IntKind.i64.wrap ((i : Int) + (j : Int)) = ((i + j : Nat) : Int) := by rw [wrap_i64 (by omega) (by omega)]; simp
            cases hb : (List.range j).any (fun q => unf (atF ⟨l, lp, c⟩ (i + q))) with
            | true =>
              simp only [↓ru, rv, rl, ry, tyf, iM, bM, bsM, cond_true, cond_false, Nat.reduceLT, Nat.reduceBEq, Nat.reduceAdd, Nat.reduceEqDiff, Nat.reduceMul, Nat.reduceLeDiff, Nat.reduceSub, Nat.reduceDiv, Int.reduceLE, Int.reduceLT, Int.reduceNeg, Int.reduceAdd, Int.reduceSub, Int.reduceMul, Int.reduceToNat, Int.reducePow, Int.reduceEq, ne_eq, reduceIte, byteD, dstr, un1_str, iD, bD]
              simp (disch := omega) only [wrap_i64, wrap_u8, wrap_u16, wrap_u64]
              refine loopL_next (j + 1) ?_ rfl (by omega) (by omega) (by omega)
              have : (List.range (j + 1)).any (fun q => unf (atF ⟨l, lp, c⟩ (i + q))) = true := by rw [List.range_succ, List.any_append, hb]; rfl
              simp only [↓ru, rv, rl, ry, tyf, iM, bM, bsM, cond_true, cond_false, Nat.reduceLT, Nat.reduceBEq, Nat.reduceAdd, Nat.reduceEqDiff, Nat.reduceMul, Nat.reduceLeDiff, Nat.reduceSub, Nat.reduceDiv, Int.reduceLE, Int.reduceLT, Int.reduceNeg, Int.reduceAdd, Int.reduceSub, Int.reduceMul, Int.reduceToNat, Int.reducePow, Int.reduceEq, ne_eq, reduceIte, byteD, dstr, un1_str, iD, bD, this]
              simp
            | false =>
              simp only [↓ru, rv, rl, ry, tyf, iM, bM, bsM, cond_true, cond_false, Nat.reduceLT, Nat.reduceBEq, Nat.reduceAdd, Nat.reduceEqDiff, Nat.reduceMul, Nat.reduceLeDiff, Nat.reduceSub, Nat.reduceDiv, Int.reduceLE, Int.reduceLT, Int.reduceNeg, Int.reduceAdd, Int.reduceSub, Int.reduceMul, Int.reduceToNat, Int.reducePow, Int.reduceEq, ne_eq, reduceIte, byteD, dstr, un1_str, iD, bD, ew]
              refine acall1_pure (hAt (i + j)) rfl rfl ?_
              simp only [↓ru, rv, rl, ry, tyf, iM, bM, bsM, cond_true, cond_false, Nat.reduceLT, Nat.reduceBEq, Nat.reduceAdd, Nat.reduceEqDiff, Nat.reduceMul, Nat.reduceLeDiff, Nat.reduceSub, Nat.reduceDiv, Int.reduceLE, Int.reduceLT, Int.reduceNeg, Int.reduceAdd, Int.reduceSub, Int.reduceMul, Int.reduceToNat, Int.reducePow, Int.reduceEq, ne_eq, reduceIte, byteD, dstr, un1_str, iD, bD]
              refine acall1_pure (hUn (i + j)) rfl rfl ?_
              simp only [↓ru, rv, rl, ry, tyf, iM, bM, bsM, cond_true, cond_false, Nat.reduceLT, Nat.reduceBEq, Nat.reduceAdd, Nat.reduceEqDiff, Nat.reduceMul, Nat.reduceLeDiff, Nat.reduceSub, Nat.reduceDiv, Int.reduceLE, Int.reduceLT, Int.reduceNeg, Int.reduceAdd, Int.reduceSub, Int.reduceMul, Int.reduceToNat, Int.reducePow, Int.reduceEq, ne_eq, reduceIte, byteD, dstr, un1_str, iD, bD]
              simp (disch := omega) only [wrap_i64, wrap_u8, wrap_u16, wrap_u64]
              refine loopL_next (j + 1) ?_ rfl (by omega) (by omega) (by omega)
              have : (List.range (j + 1)).any (fun q => unf (atF ⟨l, lp, c⟩ (i + q))) = unf (atF ⟨l, lp, c⟩ (i + j)) := by rw [List.range_succ, List.any_append, hb]; simp
              simp only [↓ru, rv, rl, ry, tyf, iM, bM, bsM, cond_true, cond_false, Nat.reduceLT, Nat.reduceBEq, Nat.reduceAdd, Nat.reduceEqDiff, Nat.reduceMul, Nat.reduceLeDiff, Nat.reduceSub, Nat.reduceDiv, Int.reduceLE, Int.reduceLT, Int.reduceNeg, Int.reduceAdd, Int.reduceSub, Int.reduceMul, Int.reduceToNat, Int.reducePow, Int.reduceEq, ne_eq, reduceIte, byteD, dstr, un1_str, iD, bD, this]
              simp
          · have h2' := of_decide_eq_false h2
            have : j = k + 1 := by omega
            subst this
            have hwi := hwd i
            have : (List.range (i + 1)).all wf = wf i := by rw [List.range_succ, List.all_append, ha']; simp
            simp only [↓ru, rv, rl, ry, tyf, iM, bM, bsM, cond_true, cond_false, Nat.reduceLT, Nat.reduceBEq, Nat.reduceAdd, Nat.reduceEqDiff, Nat.reduceMul, Nat.reduceLeDiff, Nat.reduceSub, Nat.reduceDiv, Int.reduceLE, Int.reduceLT, Int.reduceNeg, Int.reduceAdd, Int.reduceSub, Int.reduceMul, Int.reduceToNat, Int.reducePow, Int.reduceEq, ne_eq, reduceIte, byteD, dstr, un1_str, iD, bD]
            simp (disch := omega) only [wrap_i64, wrap_u8, wrap_u16, wrap_u64]
            refine loopL_next (i + 1) ?_ rfl (by omega) (by omega) (by omega)
            rw [this, hwi]
            simp only [↓ru, rv, rl, ry, tyf, iM, bM, bsM, cond_true, cond_false, Nat.reduceLT, Nat.reduceBEq, Nat.reduceAdd, Nat.reduceEqDiff, Nat.reduceMul, Nat.reduceLeDiff, Nat.reduceSub, Nat.reduceDiv, Int.reduceLE, Int.reduceLT, Int.reduceNeg, Int.reduceAdd, Int.reduceSub, Int.reduceMul, Int.reduceToNat, Int.reducePow, Int.reduceEq, ne_eq, reduceIte, byteD, dstr, un1_str, iD, bD]
            simp
        | false =>
          have hall : (List.range (2 * l.length + 2)).all wf = false := by
            rw [List.all_eq_false] at ha ⊢
            obtain ⟨x, hx, hx2⟩ := ha
            exact ⟨x, by simp at hx ⊢; omega, hx2⟩
          rw [hall] at hF
          clear e2 hF2 he1
          (try (simp only [↓ru, rv, rl, ry, tyf, iM, bM, bsM, cond_true, cond_false, Nat.reduceLT, Nat.reduceBEq, Nat.reduceAdd, Nat.reduceEqDiff, Nat.reduceMul, Nat.reduceLeDiff, Nat.reduceSub, Nat.reduceDiv, Int.reduceLE, Int.reduceLT, Int.reduceNeg, Int.reduceAdd, Int.reduceSub, Int.reduceMul, Int.reduceToNat, Int.reducePow, Int.reduceEq, ne_eq, reduceIte, byteD, dstr, un1_str, iD, bD, bneqS', beq_self_eq_true, pureEnd_of (fn := Tryd.f3) (rs := [.tmp 4]) (ts := [4]) rfl rfl, *])); repeat' ((first | (refine fork_split (fun _h => ?_) (fun _h => ?_)) | (refine gfork_split (fun _h => ?_) (fun _h => ?_)) | (refine dfork_split (fun _h => ?_) (fun _h => ?_)) | (refine acall1_pure hF rfl rfl ?_) | (refine dcall1_pure hF rfl rfl ?_) | (refine acall1_pure Awake15 rfl rfl ?_) | (refine dcall1_pure Awake15 rfl rfl ?_)) <;> (try (simp only [↓ru, rv, rl, ry, tyf, iM, bM, bsM, cond_true, cond_false, Nat.reduceLT, Nat.reduceBEq, Nat.reduceAdd, Nat.reduceEqDiff, Nat.reduceMul, Nat.reduceLeDiff, Nat.reduceSub, Nat.reduceDiv, Int.reduceLE, Int.reduceLT, Int.reduceNeg, Int.reduceAdd, Int.reduceSub, Int.reduceMul, Int.reduceToNat, Int.reducePow, Int.reduceEq, ne_eq, reduceIte, byteD, dstr, un1_str, iD, bD, bneqS', beq_self_eq_true, pureEnd_of (fn := Tryd.f3) (rs := [.tmp 4]) (ts := [4]) rfl rfl, *])))
      · have h' := of_decide_eq_false h
        have : i = 2 * l.length + 2 := by omega
        subst this
        generalize (List.range (2 * l.length + 2)).all wf = al at *
        cases al with
        | false =>
          clear e2 hF2 he1
          (try (simp only [↓ru, rv, rl, ry, tyf, iM, bM, bsM, cond_true, cond_false, Nat.reduceLT, Nat.reduceBEq, Nat.reduceAdd, Nat.reduceEqDiff, Nat.reduceMul, Nat.reduceLeDiff, Nat.reduceSub, Nat.reduceDiv, Int.reduceLE, Int.reduceLT, Int.reduceNeg, Int.reduceAdd, Int.reduceSub, Int.reduceMul, Int.reduceToNat, Int.reducePow, Int.reduceEq, ne_eq, reduceIte, byteD, dstr, un1_str, iD, bD, bneqS', beq_self_eq_true, pureEnd_of (fn := Tryd.f3) (rs := [.tmp 4]) (ts := [4]) rfl rfl, *])); repeat' ((first | (refine fork_split (fun _h => ?_) (fun _h => ?_)) | (refine gfork_split (fun _h => ?_) (fun _h => ?_)) | (refine dfork_split (fun _h => ?_) (fun _h => ?_)) | (refine acall1_pure hF rfl rfl ?_) | (refine dcall1_pure hF rfl rfl ?_) | (refine acall1_pure Awake15 rfl rfl ?_) | (refine dcall1_pure Awake15 rfl rfl ?_)) <;> (try (simp only [↓ru, rv, rl, ry, tyf, iM, bM, bsM, cond_true, cond_false, Nat.reduceLT, Nat.reduceBEq, Nat.reduceAdd, Nat.reduceEqDiff, Nat.reduceMul, Nat.reduceLeDiff, Nat.reduceSub, Nat.reduceDiv, Int.reduceLE, Int.reduceLT, Int.reduceNeg, Int.reduceAdd, Int.reduceSub, Int.reduceMul, Int.reduceToNat, Int.reducePow, Int.reduceEq, ne_eq, reduceIte, byteD, dstr, un1_str, iD, bD, bneqS', beq_self_eq_true, pureEnd_of (fn := Tryd.f3) (rs := [.tmp 4]) (ts := [4]) rfl rfl, *])))
        | true =>
          have ew : IntKind.i64.wrap ((k : Int) + 1) = (k : Int) + 1 := wrap_i64 (by omega) (by omega)
          by_cases h5 : k = 5
          · subst h5
            clear e2 hF2 he1
            (try (simp only [↓ru, rv, rl, ry, tyf, iM, bM, bsM, cond_true, cond_false, Nat.reduceLT, Nat.reduceBEq, Nat.reduceAdd, Nat.reduceEqDiff, Nat.reduceMul, Nat.reduceLeDiff, Nat.reduceSub, Nat.reduceDiv, Int.reduceLE, Int.reduceLT, Int.reduceNeg, Int.reduceAdd, Int.reduceSub, Int.reduceMul, Int.reduceToNat, Int.reducePow, Int.reduceEq, ne_eq, reduceIte, byteD, dstr, un1_str, iD, bD, bneqS', beq_self_eq_true, pureEnd_of (fn := Tryd.f3) (rs := [.tmp 4]) (ts := [4]) rfl rfl, *])); repeat' ((first | (refine fork_split (fun _h => ?_) (fun _h => ?_)) | (refine gfork_split (fun _h => ?_) (fun _h => ?_)) | (refine dfork_split (fun _h => ?_) (fun _h => ?_)) | (refine acall1_pure hF rfl rfl ?_) | (refine dcall1_pure hF rfl rfl ?_) | (refine acall1_pure Awake15 rfl rfl ?_) | (refine dcall1_pure Awake15 rfl rfl ?_)) <;> (try (simp only [↓ru, rv, rl, ry, tyf, iM, bM, bsM, cond_true, cond_false, Nat.reduceLT, Nat.reduceBEq, Nat.reduceAdd, Nat.reduceEqDiff, Nat.reduceMul, Nat.reduceLeDiff, Nat.reduceSub, Nat.reduceDiv, Int.reduceLE, Int.reduceLT, Int.reduceNeg, Int.reduceAdd, Int.reduceSub, Int.reduceMul, Int.reduceToNat, Int.reducePow, Int.reduceEq, ne_eq, reduceIte, byteD, dstr, un1_str, iD, bD, bneqS', beq_self_eq_true, pureEnd_of (fn := Tryd.f3) (rs := [.tmp 4]) (ts := [4]) rfl rfl, *])))
          · rw [e2 rfl h5] at hF2
            have d5 : decide ((k : Int) = 5) = false := decide_eq_false (by omega)
            clear e2 he1
            (try (simp only [↓ru, rv, rl, ry, tyf, iM, bM, bsM, cond_true, cond_false, Nat.reduceLT, Nat.reduceBEq, Nat.reduceAdd, Nat.reduceEqDiff, Nat.reduceMul, Nat.reduceLeDiff, Nat.reduceSub, Nat.reduceDiv, Int.reduceLE, Int.reduceLT, Int.reduceNeg, Int.reduceAdd, Int.reduceSub, Int.reduceMul, Int.reduceToNat, Int.reducePow, Int.reduceEq, ne_eq, reduceIte, byteD, dstr, un1_str, iD, bD, ew, d5, bneqS', beq_self_eq_true, pureEnd_of (fn := Tryd.f3) (rs := [.tmp 4]) (ts := [4]) rfl rfl, *])); repeat' ((first | (refine fork_split (fun _h => ?_) (fun _h => ?_)) | (refine gfork_split (fun _h => ?_) (fun _h => ?_)) | (refine dfork_split (fun _h => ?_) (fun _h => ?_)) | (refine acall1_pure hF rfl rfl ?_) | (refine dcall1_pure hF rfl rfl ?_) | (refine acall1_pure hF2 rfl rfl ?_) | (refine dcall1_pure hF2 rfl rfl ?_) | (refine acall1_pure Awake15 rfl rfl ?_) | (refine dcall1_pure Awake15 rfl rfl ?_)) <;> (try (simp only [↓ru, rv, rl, ry, tyf, iM, bM, bsM, cond_true, cond_false, Nat.reduceLT, Nat.reduceBEq, Nat.reduceAdd, Nat.reduceEqDiff, Nat.reduceMul, Nat.reduceLeDiff, Nat.reduceSub, Nat.reduceDiv, Int.reduceLE, Int.reduceLT, Int.reduceNeg, Int.reduceAdd, Int.reduceSub, Int.reduceMul, Int.reduceToNat, Int.reducePow, Int.reduceEq, ne_eq, reduceIte, byteD, dstr, un1_str, iD, bD, ew, d5, bneqS', beq_self_eq_true, pureEnd_of (fn := Tryd.f3) (rs := [.tmp 4]) (ts := [4]) rfl rfl, *])))
    · have hF := Fair s hs r
      have e1 : fairF s r = false := by
        rw [fairF]
        cases hk : scrOK s with
        | false => rfl
        | true =>
          have : wi r 5 = false := wi_false.2 (fun h => hb ⟨hk, h.1, h.2⟩)
          rw [this]; rfl
      rw [e1] at hF
      have g1 : (decide ((s.att.length : Int) ≤ 20) && decide (s.crs.length ≤ 12)) = true := by simp; omega
      rw [g1] at hm
      have hcase : scrOK s = false ∨ (scrOK s = true ∧ decide (0 ≤ r) = false) ∨ (scrOK s = true ∧ decide (0 ≤ r) = true ∧ decide (r ≤ 5) = false) := by
        cases hk : scrOK s with
        | false => exact .inl rfl
        | true =>
          by_cases h0 : 0 ≤ r
          · exact .inr (.inr ⟨rfl, decide_eq_true h0, decide_eq_false (fun h => hb ⟨hk, h0, h⟩)⟩)
          · exact .inr (.inl ⟨rfl, decide_eq_false h0⟩)
      clear e1 g1 hb
      obtain ⟨l, lp, c⟩ := s
      simp only at hg
      have key : ∀ (hs1 : PFn Tryd.prog 15 [scrM ⟨l, lp, c⟩] (bM (scrOK ⟨l, lp, c⟩))), True := fun _ => trivial
      clear key
      rcases hcase with h1 | ⟨h1, h2⟩ | ⟨h1, h2, h3⟩
      all_goals
        rw [h1] at hS
        clear h1
        (refine PFn.of (prs := []) Tryd.func3 rfl rfl mix (by kernel_rfl) rfl rfl ?_; simp only [Tryd.ntmps3, argUpd])
        (try (simp only [↓ru, rv, rl, ry, tyf, iM, bM, bsM, cond_true, cond_false, Nat.reduceLT, Nat.reduceBEq, Nat.reduceAdd, Nat.reduceEqDiff, Nat.reduceMul, Nat.reduceLeDiff, Nat.reduceSub, Nat.reduceDiv, Int.reduceLE, Int.reduceLT, Int.reduceNeg, Int.reduceAdd, Int.reduceSub, Int.reduceMul, Int.reduceToNat, Int.reducePow, Int.reduceEq, ne_eq, reduceIte, byteD, dstr, un1_str, iD, bD, *])); repeat' ((first | (refine fork_split (fun _h => ?_) (fun _h => ?_)) | (refine gfork_split (fun _h => ?_) (fun _h => ?_)) | (refine dfork_split (fun _h => ?_) (fun _h => ?_)) | (refine acall1_pure hm rfl rfl ?_) | (refine dcall1_pure hm rfl rfl ?_) | (refine acall1_pure hS rfl rfl ?_) | (refine dcall1_pure hS rfl rfl ?_)) <;> (try (simp only [↓ru, rv, rl, ry, tyf, iM, bM, bsM, cond_true, cond_false, Nat.reduceLT, Nat.reduceBEq, Nat.reduceAdd, Nat.reduceEqDiff, Nat.reduceMul, Nat.reduceLeDiff, Nat.reduceSub, Nat.reduceDiv, Int.reduceLE, Int.reduceLT, Int.reduceNeg, Int.reduceAdd, Int.reduceSub, Int.reduceMul, Int.reduceToNat, Int.reducePow, Int.reduceEq, ne_eq, reduceIte, byteD, dstr, un1_str, iD, bD, *])))
        refine aloop_lv (fun _ : Nat => [(1, iM r), (2, .ptr 0 0), (5, bM false), (6, iM 0)]) (fun _ => [(0, .st [attsM l, bM lp, crsM c])]) (fun _ => True) (fun _ => 0) 0 0 ?_ rfl trivial (by omega) ?_
        · simp only [↓ru, rv, rl, ry, tyf, iM, bM, bsM, cond_true, cond_false, Nat.reduceLT, Nat.reduceBEq, Nat.reduceAdd, Nat.reduceEqDiff, Nat.reduceMul, Nat.reduceLeDiff, Nat.reduceSub, Nat.reduceDiv, Int.reduceLE, Int.reduceLT, Int.reduceNeg, Int.reduceAdd, Int.reduceSub, Int.reduceMul, Int.reduceToNat, Int.reducePow, Int.reduceEq, ne_eq, reduceIte, byteD, dstr, un1_str, iD, bD]
        intro i e0 n _
        simp only [↓ru, rv, rl, ry, tyf, iM, bM, bsM, cond_true, cond_false, Nat.reduceLT, Nat.reduceBEq, Nat.reduceAdd, Nat.reduceEqDiff, Nat.reduceMul, Nat.reduceLeDiff, Nat.reduceSub, Nat.reduceDiv, Int.reduceLE, Int.reduceLT, Int.reduceNeg, Int.reduceAdd, Int.reduceSub, Int.reduceMul, Int.reduceToNat, Int.reducePow, Int.reduceEq, ne_eq, reduceIte, byteD, dstr, un1_str, iD, bD]
        simp (disch := omega) only [wrap_i64, wrap_u8, wrap_u16, wrap_u64]
        (try (simp only [↓ru, rv, rl, ry, tyf, iM, bM, bsM, cond_true, cond_false, Nat.reduceLT, Nat.reduceBEq, Nat.reduceAdd, Nat.reduceEqDiff, Nat.reduceMul, Nat.reduceLeDiff, Nat.reduceSub, Nat.reduceDiv, Int.reduceLE, Int.reduceLT, Int.reduceNeg, Int.reduceAdd, Int.reduceSub, Int.reduceMul, Int.reduceToNat, Int.reducePow, Int.reduceEq, ne_eq, reduceIte, byteD, dstr, un1_str, iD, bD, bneqS', beq_self_eq_true, pureEnd_of (fn := Tryd.f3) (rs := [.tmp 4]) (ts := [4]) rfl rfl, *])); repeat' ((first | (refine fork_split (fun _h => ?_) (fun _h => ?_)) | (refine gfork_split (fun _h => ?_) (fun _h => ?_)) | (refine dfork_split (fun _h => ?_) (fun _h => ?_)) | (refine acall1_pure hF rfl rfl ?_) | (refine dcall1_pure hF rfl rfl ?_) | (refine acall1_pure Awake15 rfl rfl ?_) | (refine dcall1_pure Awake15 rfl rfl ?_)) <;> (try (simp only [↓ru, rv, rl, ry, tyf, iM, bM, bsM, cond_true, cond_false, Nat.reduceLT, Nat.reduceBEq, Nat.reduceAdd, Nat.reduceEqDiff, Nat.reduceMul, Nat.reduceLeDiff, Nat.reduceSub, Nat.reduceDiv, Int.reduceLE, Int.reduceLT, Int.reduceNeg, Int.reduceAdd, Int.reduceSub, Int.reduceMul, Int.reduceToNat, Int.reducePow, Int.reduceEq, ne_eq, reduceIte, byteD, dstr, un1_str, iD, bD, bneqS', beq_self_eq_true, pureEnd_of (fn := Tryd.f3) (rs := [.tmp 4]) (ts := [4]) rfl rfl, *])))
  · have g1 : (decide ((s.att.length : Int) ≤ 20) && decide (s.crs.length ≤ 12)) = false := by
      rw [Bool.eq_false_iff]; intro h; simp at h; omega
    rw [g1] at hm
    clear g1
    (refine PFn.of (prs := []) Tryd.func3 rfl rfl mix (by kernel_rfl) rfl rfl ?_; simp only [Tryd.ntmps3, argUpd])
    (try (simp only [↓ru, rv, rl, ry, tyf, iM, bM, bsM, cond_true, cond_false, Nat.reduceLT, Nat.reduceBEq, Nat.reduceAdd, Nat.reduceEqDiff, Nat.reduceMul, Nat.reduceLeDiff, Nat.reduceSub, Nat.reduceDiv, Int.reduceLE, Int.reduceLT, Int.reduceNeg, Int.reduceAdd, Int.reduceSub, Int.reduceMul, Int.reduceToNat, Int.reducePow, Int.reduceEq, ne_eq, reduceIte, byteD, dstr, un1_str, iD, bD, pureEnd_of (fn := Tryd.f3) (rs := [.tmp 4]) (ts := [4]) rfl rfl, *])); repeat' ((first | (refine fork_split (fun _h => ?_) (fun _h => ?_)) | (refine gfork_split (fun _h => ?_) (fun _h => ?_)) | (refine dfork_split (fun _h => ?_) (fun _h => ?_)) | (refine acall1_pure hm rfl rfl ?_) | (refine dcall1_pure hm rfl rfl ?_) | (refine acall1_pure Awake15 rfl rfl ?_) | (refine dcall1_pure Awake15 rfl rfl ?_)) <;> (try (simp only [↓ru, rv, rl, ry, tyf, iM, bM, bsM, cond_true, cond_false, Nat.reduceLT, Nat.reduceBEq, Nat.reduceAdd, Nat.reduceEqDiff, Nat.reduceMul, Nat.reduceLeDiff, Nat.reduceSub, Nat.reduceDiv, Int.reduceLE, Int.reduceLT, Int.reduceNeg, Int.reduceAdd, Int.reduceSub, Int.reduceMul, Int.reduceToNat, Int.reducePow, Int.reduceEq, ne_eq, reduceIte, byteD, dstr, un1_str, iD, bD, pureEnd_of (fn := Tryd.f3) (rs := [.tmp 4]) (ts := [4]) rfl rfl, *])))
end Go.SC

import Derived.Test.YtmgfnlnomecbiaaDoorV4
set_option linter.all false
open Go.Proofs Go.Abs Go.Fa Go.BU Go.TX Go.TW
namespace Go.SC
set_option maxHeartbeats 4000000
set_option maxRecDepth 10000
-- rules: byteD, dstr, un1_str, iD, bD, sxv

def att0 : Att := ⟨0, 0, 0, 0, 0, 0⟩
/-- The attempt at i ≥ 0. -/
def atF (s : Scr) (i : Nat) : Att := if s.att.length = 0 ∨ (s.loop = false ∧ s.att.length ≤ i) then att0 else s.att.getD (i % s.att.length) att0
def entF (s : Scr) (i : Int) : Att := if i < 0 ∨ scrOK s = false then att0 else atF s i.toNat
theorem AtR (s : Scr) (hs : Sz s) (i : Nat) : PFn Tryd.prog 17 [scrM s, iM i] (attM (atF s i)) := by
  obtain ⟨l, lp, c⟩ := s
  obtain ⟨h1, h2⟩ := hs
  simp only at h1 h2
  (refine PFn.of (prs := [(3, [(0, 5), (1, 5)])]) Tryd.func17 rfl rfl mix (by kernel_rfl) rfl rfl ?_; simp only [Tryd.ntmps17, argUpd])
  by_cases h0 : l.length = 0
  · have : l = [] := List.length_eq_zero_iff.1 h0
    subst this
    have e0 : atF ⟨[], lp, c⟩ i = att0 := by simp [atF]
    rw [e0]
    (try (simp only [↓ru, rv, rl, ry, tyf, iM, bM, bsM, cond_true, cond_false, Nat.reduceLT, Nat.reduceBEq, Nat.reduceAdd, Nat.reduceEqDiff, Nat.reduceMul, Nat.reduceLeDiff, Nat.reduceSub, Nat.reduceDiv, Int.reduceLE, Int.reduceLT, Int.reduceNeg, Int.reduceAdd, Int.reduceSub, Int.reduceMul, Int.reduceToNat, Int.reducePow, Int.reduceEq, ne_eq, reduceIte, byteD, dstr, un1_str, iD, bD, sxv, List.length_nil, pureEnd_of (fn := Tryd.f17) (rs := [.cell 4 31]) (ts := [31]) rfl rfl, *])); repeat' ((first | (refine fork_split (fun _h => ?_) (fun _h => ?_)) | (refine gfork_split (fun _h => ?_) (fun _h => ?_)) | (refine dfork_split (fun _h => ?_) (fun _h => ?_))) <;> (try (simp only [↓ru, rv, rl, ry, tyf, iM, bM, bsM, cond_true, cond_false, Nat.reduceLT, Nat.reduceBEq, Nat.reduceAdd, Nat.reduceEqDiff, Nat.reduceMul, Nat.reduceLeDiff, Nat.reduceSub, Nat.reduceDiv, Int.reduceLE, Int.reduceLT, Int.reduceNeg, Int.reduceAdd, Int.reduceSub, Int.reduceMul, Int.reduceToNat, Int.reducePow, Int.reduceEq, ne_eq, reduceIte, byteD, dstr, un1_str, iD, bD, sxv, List.length_nil, pureEnd_of (fn := Tryd.f17) (rs := [.cell 4 31]) (ts := [31]) rfl rfl, *])))
    all_goals rfl
  · have hm : i % l.length < l.length := Nat.mod_lt _ (by omega)
    obtain ⟨y, hy⟩ := get_of_lt (l := l) (i := i % l.length) hm
    have hne : (l.length : Int) ≠ 0 := by omega
    have d0 : decide ((l.length : Int) = 0) = false := decide_eq_false hne
    have hmod : Int.tmod (i : Int) (l.length : Int) = ((i % l.length : Nat) : Int) := by exact Int.tmod_eq_emod_of_nonneg (by omega)
    have ey : ∀ lp, (lp = true ∨ i < l.length) → atF ⟨l, lp, c⟩ i = y := fun lp h => by
      have hg : ¬ (l.length = 0 ∨ (lp = false ∧ l.length ≤ i)) := by
        intro hh
        rcases hh with hh | ⟨ha, hb⟩
        · exact h0 hh
        · rcases h with rfl | h
          · cases ha
          · omega
      rw [atF, if_neg hg, List.getD_eq_getElem?_getD, hy]; rfl
    cases lp
    · (try (simp only [↓ru, rv, rl, ry, tyf, iM, bM, bsM, cond_true, cond_false, Nat.reduceLT, Nat.reduceBEq, Nat.reduceAdd, Nat.reduceEqDiff, Nat.reduceMul, Nat.reduceLeDiff, Nat.reduceSub, Nat.reduceDiv, Int.reduceLE, Int.reduceLT, Int.reduceNeg, Int.reduceAdd, Int.reduceSub, Int.reduceMul, Int.reduceToNat, Int.reducePow, Int.reduceEq, ne_eq, reduceIte, byteD, dstr, un1_str, iD, bD, sxv, d0, hmod, hy, Int.toNat_natCast, pureEnd_of (fn := Tryd.f17) (rs := [.cell 4 31]) (ts := [31]) rfl rfl, *])); repeat' ((first | (refine fork_split (fun _h => ?_) (fun _h => ?_)) | (refine gfork_split (fun _h => ?_) (fun _h => ?_)) | (refine dfork_split (fun _h => ?_) (fun _h => ?_))) <;> (try (simp only [↓ru, rv, rl, ry, tyf, iM, bM, bsM, cond_true, cond_false, Nat.reduceLT, Nat.reduceBEq, Nat.reduceAdd, Nat.reduceEqDiff, Nat.reduceMul, Nat.reduceLeDiff, Nat.reduceSub, Nat.reduceDiv, Int.reduceLE, Int.reduceLT, Int.reduceNeg, Int.reduceAdd, Int.reduceSub, Int.reduceMul, Int.reduceToNat, Int.reducePow, Int.reduceEq, ne_eq, reduceIte, byteD, dstr, un1_str, iD, bD, sxv, d0, hmod, hy, Int.toNat_natCast, pureEnd_of (fn := Tryd.f17) (rs := [.cell 4 31]) (ts := [31]) rfl rfl, *])))
      all_goals (try simp only [Bool.not_eq_true', Bool.not_eq_false', decide_eq_true_eq, decide_eq_false_iff_not] at *)
      · rw [show atF ⟨l, false, c⟩ i = att0 from by rw [atF, if_pos (.inr ⟨rfl, by simp only; omega⟩)]]; rfl
      · rw [ey false (.inr (by omega))]
    · (try (simp only [↓ru, rv, rl, ry, tyf, iM, bM, bsM, cond_true, cond_false, Nat.reduceLT, Nat.reduceBEq, Nat.reduceAdd, Nat.reduceEqDiff, Nat.reduceMul, Nat.reduceLeDiff, Nat.reduceSub, Nat.reduceDiv, Int.reduceLE, Int.reduceLT, Int.reduceNeg, Int.reduceAdd, Int.reduceSub, Int.reduceMul, Int.reduceToNat, Int.reducePow, Int.reduceEq, ne_eq, reduceIte, byteD, dstr, un1_str, iD, bD, sxv, d0, hmod, hy, Int.toNat_natCast, pureEnd_of (fn := Tryd.f17) (rs := [.cell 4 31]) (ts := [31]) rfl rfl, *])); repeat' ((first | (refine fork_split (fun _h => ?_) (fun _h => ?_)) | (refine gfork_split (fun _h => ?_) (fun _h => ?_)) | (refine dfork_split (fun _h => ?_) (fun _h => ?_))) <;> (try (simp only [↓ru, rv, rl, ry, tyf, iM, bM, bsM, cond_true, cond_false, Nat.reduceLT, Nat.reduceBEq, Nat.reduceAdd, Nat.reduceEqDiff, Nat.reduceMul, Nat.reduceLeDiff, Nat.reduceSub, Nat.reduceDiv, Int.reduceLE, Int.reduceLT, Int.reduceNeg, Int.reduceAdd, Int.reduceSub, Int.reduceMul, Int.reduceToNat, Int.reducePow, Int.reduceEq, ne_eq, reduceIte, byteD, dstr, un1_str, iD, bD, sxv, d0, hmod, hy, Int.toNat_natCast, pureEnd_of (fn := Tryd.f17) (rs := [.cell 4 31]) (ts := [31]) rfl rfl, *])))
      rw [ey true (.inl rfl)]
theorem EntryR (s : Scr) (hs : Sz s) (i : Int) : PFn Tryd.prog 29 [scrM s, iM i] (attM (entF s i)) := by
  (refine PFn.of (prs := []) Tryd.func29 rfl rfl mix (by kernel_rfl) rfl rfl ?_; simp only [Tryd.ntmps29, argUpd])
  by_cases hi : i < 0
  · have e0 : entF s i = att0 := by rw [entF, if_pos (.inl hi)]
    rw [e0]
    (try (simp only [↓ru, rv, rl, ry, tyf, iM, bM, bsM, cond_true, cond_false, Nat.reduceLT, Nat.reduceBEq, Nat.reduceAdd, Nat.reduceEqDiff, Nat.reduceMul, Nat.reduceLeDiff, Nat.reduceSub, Nat.reduceDiv, Int.reduceLE, Int.reduceLT, Int.reduceNeg, Int.reduceAdd, Int.reduceSub, Int.reduceMul, Int.reduceToNat, Int.reducePow, Int.reduceEq, ne_eq, reduceIte, byteD, dstr, un1_str, iD, bD, sxv, pureEnd_of (fn := Tryd.f29) (rs := [.cell 4 31]) (ts := [31]) rfl rfl, *])); repeat' ((first | (refine fork_split (fun _h => ?_) (fun _h => ?_)) | (refine gfork_split (fun _h => ?_) (fun _h => ?_)) | (refine dfork_split (fun _h => ?_) (fun _h => ?_)) | (refine acall1_pure (ScriptR s hs) rfl rfl ?_) | (refine dcall1_pure (ScriptR s hs) rfl rfl ?_)) <;> (try (simp only [↓ru, rv, rl, ry, tyf, iM, bM, bsM, cond_true, cond_false, Nat.reduceLT, Nat.reduceBEq, Nat.reduceAdd, Nat.reduceEqDiff, Nat.reduceMul, Nat.reduceLeDiff, Nat.reduceSub, Nat.reduceDiv, Int.reduceLE, Int.reduceLT, Int.reduceNeg, Int.reduceAdd, Int.reduceSub, Int.reduceMul, Int.reduceToNat, Int.reducePow, Int.reduceEq, ne_eq, reduceIte, byteD, dstr, un1_str, iD, bD, sxv, pureEnd_of (fn := Tryd.f29) (rs := [.cell 4 31]) (ts := [31]) rfl rfl, *])))
    all_goals rfl
  · obtain ⟨k, rfl⟩ : ∃ k : Nat, i = k := ⟨i.toNat, by omega⟩
    cases hk : scrOK s with
    | false =>
      have e0 : entF s k = att0 := by rw [entF, if_pos (.inr hk)]
      rw [e0]
      (try (simp only [↓ru, rv, rl, ry, tyf, iM, bM, bsM, cond_true, cond_false, Nat.reduceLT, Nat.reduceBEq, Nat.reduceAdd, Nat.reduceEqDiff, Nat.reduceMul, Nat.reduceLeDiff, Nat.reduceSub, Nat.reduceDiv, Int.reduceLE, Int.reduceLT, Int.reduceNeg, Int.reduceAdd, Int.reduceSub, Int.reduceMul, Int.reduceToNat, Int.reducePow, Int.reduceEq, ne_eq, reduceIte, byteD, dstr, un1_str, iD, bD, sxv, pureEnd_of (fn := Tryd.f29) (rs := [.cell 4 31]) (ts := [31]) rfl rfl, *])); repeat' ((first | (refine fork_split (fun _h => ?_) (fun _h => ?_)) | (refine gfork_split (fun _h => ?_) (fun _h => ?_)) | (refine dfork_split (fun _h => ?_) (fun _h => ?_)) | (refine acall1_pure (ScriptR s hs) rfl rfl ?_) | (refine dcall1_pure (ScriptR s hs) rfl rfl ?_)) <;> (try (simp only [↓ru, rv, rl, ry, tyf, iM, bM, bsM, cond_true, cond_false, Nat.reduceLT, Nat.reduceBEq, Nat.reduceAdd, Nat.reduceEqDiff, Nat.reduceMul, Nat.reduceLeDiff, Nat.reduceSub, Nat.reduceDiv, Int.reduceLE, Int.reduceLT, Int.reduceNeg, Int.reduceAdd, Int.reduceSub, Int.reduceMul, Int.reduceToNat, Int.reducePow, Int.reduceEq, ne_eq, reduceIte, byteD, dstr, un1_str, iD, bD, sxv, pureEnd_of (fn := Tryd.f29) (rs := [.cell 4 31]) (ts := [31]) rfl rfl, *])))
      all_goals rfl
    | true =>
      have e0 : entF s k = atF s k := by rw [entF, if_neg (by simp [hk])]; simp
      rw [e0]
      (try (simp only [↓ru, rv, rl, ry, tyf, iM, bM, bsM, cond_true, cond_false, Nat.reduceLT, Nat.reduceBEq, Nat.reduceAdd, Nat.reduceEqDiff, Nat.reduceMul, Nat.reduceLeDiff, Nat.reduceSub, Nat.reduceDiv, Int.reduceLE, Int.reduceLT, Int.reduceNeg, Int.reduceAdd, Int.reduceSub, Int.reduceMul, Int.reduceToNat, Int.reducePow, Int.reduceEq, ne_eq, reduceIte, byteD, dstr, un1_str, iD, bD, sxv, pureEnd_of (fn := Tryd.f29) (rs := [.cell 4 31]) (ts := [31]) rfl rfl, *])); repeat' ((first | (refine fork_split (fun _h => ?_) (fun _h => ?_)) | (refine gfork_split (fun _h => ?_) (fun _h => ?_)) | (refine dfork_split (fun _h => ?_) (fun _h => ?_)) | (refine acall1_pure (ScriptR s hs) rfl rfl ?_) | (refine dcall1_pure (ScriptR s hs) rfl rfl ?_) | (refine acall1_pure (AtR s hs k) rfl rfl ?_) | (refine dcall1_pure (AtR s hs k) rfl rfl ?_)) <;> (try (simp only [↓ru, rv, rl, ry, tyf, iM, bM, bsM, cond_true, cond_false, Nat.reduceLT, Nat.reduceBEq, Nat.reduceAdd, Nat.reduceEqDiff, Nat.reduceMul, Nat.reduceLeDiff, Nat.reduceSub, Nat.reduceDiv, Int.reduceLE, Int.reduceLT, Int.reduceNeg, Int.reduceAdd, Int.reduceSub, Int.reduceMul, Int.reduceToNat, Int.reducePow, Int.reduceEq, ne_eq, reduceIte, byteD, dstr, un1_str, iD, bD, sxv, pureEnd_of (fn := Tryd.f29) (rs := [.cell 4 31]) (ts := [31]) rfl rfl, *])))
theorem scr_loop {s : Scr} (h : scrOK s = true) (hl : s.loop = true) : s.att.length ≠ 0 := by
  intro h0
  obtain ⟨l, lp, c⟩ := s
  simp only at hl h0
  rw [scr_false (.inr (.inl ⟨hl, h0⟩))] at h; cases h
theorem scr_len {s : Scr} (h : scrOK s = true) : s.att.length ≤ 4096 := by
  obtain ⟨l, lp, c⟩ := s
  apply Classical.byContradiction
  intro h0
  rw [scr_false (.inl (by simp only at h0; omega))] at h; cases h
theorem Entry (s : Scr) (hs : Sz s) (i : Int) : PFn Tryd.prog 27 [scrM s, iM i] (attM (entF s i)) := by
  have hV := Valid s hs
  obtain ⟨h1, h2⟩ := hs
  by_cases hi : i < 0
  · have e0 : entF s i = att0 := by rw [entF, if_pos (.inl hi)]
    rw [e0]
    (refine PFn.of (prs := []) Tryd.func27 rfl rfl mix (by kernel_rfl) rfl rfl ?_; simp only [Tryd.ntmps27, argUpd])
    (try (simp only [↓ru, rv, rl, ry, tyf, iM, bM, bsM, cond_true, cond_false, Nat.reduceLT, Nat.reduceBEq, Nat.reduceAdd, Nat.reduceEqDiff, Nat.reduceMul, Nat.reduceLeDiff, Nat.reduceSub, Nat.reduceDiv, Int.reduceLE, Int.reduceLT, Int.reduceNeg, Int.reduceAdd, Int.reduceSub, Int.reduceMul, Int.reduceToNat, Int.reducePow, Int.reduceEq, ne_eq, reduceIte, byteD, dstr, un1_str, iD, bD, sxv, pureEnd_of (fn := Tryd.f27) (rs := [.cell 4 31]) (ts := [31]) rfl rfl, *])); repeat' ((first | (refine fork_split (fun _h => ?_) (fun _h => ?_)) | (refine gfork_split (fun _h => ?_) (fun _h => ?_)) | (refine dfork_split (fun _h => ?_) (fun _h => ?_)) | (refine acall1_pure hV rfl rfl ?_) | (refine dcall1_pure hV rfl rfl ?_)) <;> (try (simp only [↓ru, rv, rl, ry, tyf, iM, bM, bsM, cond_true, cond_false, Nat.reduceLT, Nat.reduceBEq, Nat.reduceAdd, Nat.reduceEqDiff, Nat.reduceMul, Nat.reduceLeDiff, Nat.reduceSub, Nat.reduceDiv, Int.reduceLE, Int.reduceLT, Int.reduceNeg, Int.reduceAdd, Int.reduceSub, Int.reduceMul, Int.reduceToNat, Int.reducePow, Int.reduceEq, ne_eq, reduceIte, byteD, dstr, un1_str, iD, bD, sxv, pureEnd_of (fn := Tryd.f27) (rs := [.cell 4 31]) (ts := [31]) rfl rfl, *])))
    all_goals rfl
  · obtain ⟨k, rfl⟩ : ∃ k : Nat, i = k := ⟨i.toNat, by omega⟩
    cases hk : scrOK s with
    | false =>
      have e0 : entF s k = att0 := by rw [entF, if_pos (.inr hk)]
      rw [e0]
      (refine PFn.of (prs := []) Tryd.func27 rfl rfl mix (by kernel_rfl) rfl rfl ?_; simp only [Tryd.ntmps27, argUpd])
      (try (simp only [↓ru, rv, rl, ry, tyf, iM, bM, bsM, cond_true, cond_false, Nat.reduceLT, Nat.reduceBEq, Nat.reduceAdd, Nat.reduceEqDiff, Nat.reduceMul, Nat.reduceLeDiff, Nat.reduceSub, Nat.reduceDiv, Int.reduceLE, Int.reduceLT, Int.reduceNeg, Int.reduceAdd, Int.reduceSub, Int.reduceMul, Int.reduceToNat, Int.reducePow, Int.reduceEq, ne_eq, reduceIte, byteD, dstr, un1_str, iD, bD, sxv, pureEnd_of (fn := Tryd.f27) (rs := [.cell 4 31]) (ts := [31]) rfl rfl, *])); repeat' ((first | (refine fork_split (fun _h => ?_) (fun _h => ?_)) | (refine gfork_split (fun _h => ?_) (fun _h => ?_)) | (refine dfork_split (fun _h => ?_) (fun _h => ?_)) | (refine acall1_pure hV rfl rfl ?_) | (refine dcall1_pure hV rfl rfl ?_)) <;> (try (simp only [↓ru, rv, rl, ry, tyf, iM, bM, bsM, cond_true, cond_false, Nat.reduceLT, Nat.reduceBEq, Nat.reduceAdd, Nat.reduceEqDiff, Nat.reduceMul, Nat.reduceLeDiff, Nat.reduceSub, Nat.reduceDiv, Int.reduceLE, Int.reduceLT, Int.reduceNeg, Int.reduceAdd, Int.reduceSub, Int.reduceMul, Int.reduceToNat, Int.reducePow, Int.reduceEq, ne_eq, reduceIte, byteD, dstr, un1_str, iD, bD, sxv, pureEnd_of (fn := Tryd.f27) (rs := [.cell 4 31]) (ts := [31]) rfl rfl, *])))
      all_goals rfl
    | true =>
      have e0 : entF s k = atF s k := by rw [entF, if_neg (by simp [hk])]; simp
      rw [e0]
      have hl := scr_loop hk
      obtain ⟨l, lp, c⟩ := s
      simp only at h1 h2 hl
      rw [hk] at hV
      clear hk e0
      cases lp
      · by_cases hkl : k < l.length
        · obtain ⟨y, hy⟩ := get_of_lt (l := l) (i := k) hkl
          have ey : atF ⟨l, false, c⟩ k = y := by
            rw [atF, if_neg (by simp only; omega)]; simp only [Nat.mod_eq_of_lt hkl]; rw [List.getD_eq_getElem?_getD, hy]; rfl
          rw [ey]
          have hn : decide ((l.length : Int) ≤ (k : Int)) = false := decide_eq_false (by omega)
          (refine PFn.of (prs := []) Tryd.func27 rfl rfl mix (by kernel_rfl) rfl rfl ?_; simp only [Tryd.ntmps27, argUpd])
          (try (simp only [↓ru, rv, rl, ry, tyf, iM, bM, bsM, cond_true, cond_false, Nat.reduceLT, Nat.reduceBEq, Nat.reduceAdd, Nat.reduceEqDiff, Nat.reduceMul, Nat.reduceLeDiff, Nat.reduceSub, Nat.reduceDiv, Int.reduceLE, Int.reduceLT, Int.reduceNeg, Int.reduceAdd, Int.reduceSub, Int.reduceMul, Int.reduceToNat, Int.reducePow, Int.reduceEq, ne_eq, reduceIte, byteD, dstr, un1_str, iD, bD, sxv, hy, hn, Int.toNat_natCast, pureEnd_of (fn := Tryd.f27) (rs := [.cell 4 31]) (ts := [31]) rfl rfl, *])); repeat' ((first | (refine fork_split (fun _h => ?_) (fun _h => ?_)) | (refine gfork_split (fun _h => ?_) (fun _h => ?_)) | (refine dfork_split (fun _h => ?_) (fun _h => ?_)) | (refine acall1_pure hV rfl rfl ?_) | (refine dcall1_pure hV rfl rfl ?_)) <;> (try (simp only [↓ru, rv, rl, ry, tyf, iM, bM, bsM, cond_true, cond_false, Nat.reduceLT, Nat.reduceBEq, Nat.reduceAdd, Nat.reduceEqDiff, Nat.reduceMul, Nat.reduceLeDiff, Nat.reduceSub, Nat.reduceDiv, Int.reduceLE, Int.reduceLT, Int.reduceNeg, Int.reduceAdd, Int.reduceSub, Int.reduceMul, Int.reduceToNat, Int.reducePow, Int.reduceEq, ne_eq, reduceIte, byteD, dstr, un1_str, iD, bD, sxv, hy, hn, Int.toNat_natCast, pureEnd_of (fn := Tryd.f27) (rs := [.cell 4 31]) (ts := [31]) rfl rfl, *])))
        · have ey : atF ⟨l, false, c⟩ k = att0 := by rw [atF, if_pos (.inr ⟨rfl, by simp only; omega⟩)]
          rw [ey]
          have hn : decide ((l.length : Int) ≤ (k : Int)) = true := decide_eq_true (by omega)
          (refine PFn.of (prs := []) Tryd.func27 rfl rfl mix (by kernel_rfl) rfl rfl ?_; simp only [Tryd.ntmps27, argUpd])
          (try (simp only [↓ru, rv, rl, ry, tyf, iM, bM, bsM, cond_true, cond_false, Nat.reduceLT, Nat.reduceBEq, Nat.reduceAdd, Nat.reduceEqDiff, Nat.reduceMul, Nat.reduceLeDiff, Nat.reduceSub, Nat.reduceDiv, Int.reduceLE, Int.reduceLT, Int.reduceNeg, Int.reduceAdd, Int.reduceSub, Int.reduceMul, Int.reduceToNat, Int.reducePow, Int.reduceEq, ne_eq, reduceIte, byteD, dstr, un1_str, iD, bD, sxv, hn, Int.toNat_natCast, pureEnd_of (fn := Tryd.f27) (rs := [.cell 4 31]) (ts := [31]) rfl rfl, *])); repeat' ((first | (refine fork_split (fun _h => ?_) (fun _h => ?_)) | (refine gfork_split (fun _h => ?_) (fun _h => ?_)) | (refine dfork_split (fun _h => ?_) (fun _h => ?_)) | (refine acall1_pure hV rfl rfl ?_) | (refine dcall1_pure hV rfl rfl ?_)) <;> (try (simp only [↓ru, rv, rl, ry, tyf, iM, bM, bsM, cond_true, cond_false, Nat.reduceLT, Nat.reduceBEq, Nat.reduceAdd, Nat.reduceEqDiff, Nat.reduceMul, Nat.reduceLeDiff, Nat.reduceSub, Nat.reduceDiv, Int.reduceLE, Int.reduceLT, Int.reduceNeg, Int.reduceAdd, Int.reduceSub, Int.reduceMul, Int.reduceToNat, Int.reducePow, Int.reduceEq, ne_eq, reduceIte, byteD, dstr, un1_str, iD, bD, sxv, hn, Int.toNat_natCast, pureEnd_of (fn := Tryd.f27) (rs := [.cell 4 31]) (ts := [31]) rfl rfl, *])))
          all_goals (try rfl)
      · have hl := hl rfl
        have hne : (l.length : Int) ≠ 0 := by omega
        have hm : k % l.length < l.length := Nat.mod_lt _ (by omega)
        have hmod : Int.tmod (k : Int) (l.length : Int) = ((k % l.length : Nat) : Int) := Int.tmod_eq_emod_of_nonneg (by omega)
        obtain ⟨y, hy⟩ := get_of_lt (l := l) (i := k % l.length) hm
        have ey : atF ⟨l, true, c⟩ k = y := by
          rw [atF, if_neg (by intro hh; rcases hh with hh | ⟨ha, hb⟩; exact hl hh; cases ha)]; simp only; rw [List.getD_eq_getElem?_getD, hy]; rfl
        rw [ey]
        generalize k % l.length = r at *
        have hn : decide ((l.length : Int) ≤ (r : Int)) = false := decide_eq_false (by omega)
        (refine PFn.of (prs := []) Tryd.func27 rfl rfl mix (by kernel_rfl) rfl rfl ?_; simp only [Tryd.ntmps27, argUpd])
        (try (simp only [↓ru, rv, rl, ry, tyf, iM, bM, bsM, cond_true, cond_false, Nat.reduceLT, Nat.reduceBEq, Nat.reduceAdd, Nat.reduceEqDiff, Nat.reduceMul, Nat.reduceLeDiff, Nat.reduceSub, Nat.reduceDiv, Int.reduceLE, Int.reduceLT, Int.reduceNeg, Int.reduceAdd, Int.reduceSub, Int.reduceMul, Int.reduceToNat, Int.reducePow, Int.reduceEq, ne_eq, reduceIte, byteD, dstr, un1_str, iD, bD, sxv, hmod, hn, hy, Int.toNat_natCast, pureEnd_of (fn := Tryd.f27) (rs := [.cell 4 31]) (ts := [31]) rfl rfl, *])); repeat' ((first | (refine fork_split (fun _h => ?_) (fun _h => ?_)) | (refine gfork_split (fun _h => ?_) (fun _h => ?_)) | (refine dfork_split (fun _h => ?_) (fun _h => ?_)) | (refine acall1_pure hV rfl rfl ?_) | (refine dcall1_pure hV rfl rfl ?_)) <;> (try (simp only [↓ru, rv, rl, ry, tyf, iM, bM, bsM, cond_true, cond_false, Nat.reduceLT, Nat.reduceBEq, Nat.reduceAdd, Nat.reduceEqDiff, Nat.reduceMul, Nat.reduceLeDiff, Nat.reduceSub, Nat.reduceDiv, Int.reduceLE, Int.reduceLT, Int.reduceNeg, Int.reduceAdd, Int.reduceSub, Int.reduceMul, Int.reduceToNat, Int.reducePow, Int.reduceEq, ne_eq, reduceIte, byteD, dstr, un1_str, iD, bD, sxv, hmod, hn, hy, Int.toNat_natCast, pureEnd_of (fn := Tryd.f27) (rs := [.cell 4 31]) (ts := [31]) rfl rfl, *])))
def bndF (t d : Int) (a : Att) : Bool := decide (a.lat ≤ t) && decide (a.ticks ≤ d)
theorem Bounded1 (t d : Int) (a : Att) {B : Bx} {n p q : Nat} (hp : B.get p = some (.st [iM t])) (hq : B.get q = some (.st [iM d])) : Keeps Tryd.prog B n 52 [.ptr p 0, .ptr q 0] (attM a) (!bndF t d a) := by
  intro n K hn hK
  (refine AFn.intro (prs := []) Tryd.func52 rfl rfl mix (by kernel_rfl) rfl (fun hB => ?_); simp only [Tryd.ntmps52, argUpd])
  have e1 : ¬ (n + 0 = p) := by have := hB p _ hp; omega
  have e2 : ¬ (n + 0 = q) := by have := hB q _ hq; omega
  (try (simp only [↓ru, rv, rl, ry, tyf, iM, bM, bsM, cond_true, cond_false, Nat.reduceLT, Nat.reduceBEq, Nat.reduceAdd, Nat.reduceEqDiff, Nat.reduceMul, Nat.reduceLeDiff, Nat.reduceSub, Nat.reduceDiv, Int.reduceLE, Int.reduceLT, Int.reduceNeg, Int.reduceAdd, Int.reduceSub, Int.reduceMul, Int.reduceToNat, Int.reducePow, Int.reduceEq, ne_eq, reduceIte, byteD, dstr, un1_str, iD, bD, sxv, hp, hq, e1, e2, aEnd_of (fn := Tryd.f52) (rs := [.tmp 4]) rfl, *])); repeat' ((first | (refine fork_split (fun _h => ?_) (fun _h => ?_)) | (refine gfork_split (fun _h => ?_) (fun _h => ?_)) | (refine dfork_split (fun _h => ?_) (fun _h => ?_))) <;> (try (simp only [↓ru, rv, rl, ry, tyf, iM, bM, bsM, cond_true, cond_false, Nat.reduceLT, Nat.reduceBEq, Nat.reduceAdd, Nat.reduceEqDiff, Nat.reduceMul, Nat.reduceLeDiff, Nat.reduceSub, Nat.reduceDiv, Int.reduceLE, Int.reduceLT, Int.reduceNeg, Int.reduceAdd, Int.reduceSub, Int.reduceMul, Int.reduceToNat, Int.reducePow, Int.reduceEq, ne_eq, reduceIte, byteD, dstr, un1_str, iD, bD, sxv, hp, hq, e1, e2, aEnd_of (fn := Tryd.f52) (rs := [.tmp 4]) rfl, *])))
  · have h' := of_decide_eq_true _h
    have e : (!bndF t d a) = true := by rw [bndF, decide_eq_false (show ¬ a.lat ≤ t by omega)]; rfl
    rw [e] at hK
    exact aFin_one hB (hK _ (by omega))
  · have h' := of_decide_eq_false _h
    have e : (!bndF t d a) = decide (d < a.ticks) := by rw [bndF, decide_eq_true (show a.lat ≤ t by omega), Bool.true_and, ← decide_not]; exact decide_eq_decide.2 (by omega)
    rw [e] at hK
    exact aFin_one hB (hK _ (by omega))
theorem Bounded (s : Scr) (hs : Sz s) (t d : Int) : PFn Tryd.prog 25 [scrM s, iM t, iM d] (bM (scrOK s && s.att.all (bndF t d))) := by
  have hV := Valid s hs
  obtain ⟨h1, h2⟩ := hs
  (refine PFn.of (prs := []) Tryd.func25 rfl rfl mix (by kernel_rfl) rfl rfl ?_; simp only [Tryd.ntmps25, argUpd])
  (try (simp only [↓ru, rv, rl, ry, tyf, iM, bM, bsM, cond_true, cond_false, Nat.reduceLT, Nat.reduceBEq, Nat.reduceAdd, Nat.reduceEqDiff, Nat.reduceMul, Nat.reduceLeDiff, Nat.reduceSub, Nat.reduceDiv, Int.reduceLE, Int.reduceLT, Int.reduceNeg, Int.reduceAdd, Int.reduceSub, Int.reduceMul, Int.reduceToNat, Int.reducePow, Int.reduceEq, ne_eq, reduceIte, byteD, dstr, un1_str, iD, bD, sxv, pureEnd_of (fn := Tryd.f25) (rs := [.tmp 6]) (ts := [4]) rfl rfl, *])); repeat' ((first | (refine fork_split (fun _h => ?_) (fun _h => ?_)) | (refine gfork_split (fun _h => ?_) (fun _h => ?_)) | (refine dfork_split (fun _h => ?_) (fun _h => ?_)) | (refine acall1_pure hV rfl rfl ?_) | (refine dcall1_pure hV rfl rfl ?_)) <;> (try (simp only [↓ru, rv, rl, ry, tyf, iM, bM, bsM, cond_true, cond_false, Nat.reduceLT, Nat.reduceBEq, Nat.reduceAdd, Nat.reduceEqDiff, Nat.reduceMul, Nat.reduceLeDiff, Nat.reduceSub, Nat.reduceDiv, Int.reduceLE, Int.reduceLT, Int.reduceNeg, Int.reduceAdd, Int.reduceSub, Int.reduceMul, Int.reduceToNat, Int.reducePow, Int.reduceEq, ne_eq, reduceIte, byteD, dstr, un1_str, iD, bD, sxv, pureEnd_of (fn := Tryd.f25) (rs := [.tmp 6]) (ts := [4]) rfl rfl, *])))
  refine acall1_inl (HasAtt s.att h1 52 [.ptr 1 0, .ptr 2 0] (fun a => !bndF t d a) (fun a => Bounded1 t d a rfl rfl) fun n' hn => ?_)
  simp only [↓ru, rv, rl, ry, tyf, iM, bM, bsM, cond_true, cond_false, Nat.reduceLT, Nat.reduceBEq, Nat.reduceAdd, Nat.reduceEqDiff, Nat.reduceMul, Nat.reduceLeDiff, Nat.reduceSub, Nat.reduceDiv, Int.reduceLE, Int.reduceLT, Int.reduceNeg, Int.reduceAdd, Int.reduceSub, Int.reduceMul, Int.reduceToNat, Int.reducePow, Int.reduceEq, ne_eq, reduceIte, byteD, dstr, un1_str, iD, bD, sxv, any_not, pureEnd_of (fn := Tryd.f25) (rs := [.tmp 6]) (ts := [4]) rfl rfl]
theorem BoundedR (s : Scr) (hs : Sz s) (t d : Int) : PFn Tryd.prog 26 [scrM s, iM t, iM d] (bM (scrOK s && s.att.all (bndF t d))) := by
  have hV := ScriptR s hs
  obtain ⟨h1, h2⟩ := hs
  obtain ⟨l, lp, c⟩ := s
  simp only at h1 h2
  (refine PFn.of (prs := []) Tryd.func26 rfl rfl mix (by kernel_rfl) rfl rfl ?_; simp only [Tryd.ntmps26, argUpd])
  simp only [↓ru, rv, rl, ry, tyf, iM, bM, bsM, cond_true, cond_false, Nat.reduceLT, Nat.reduceBEq, Nat.reduceAdd, Nat.reduceEqDiff, Nat.reduceMul, Nat.reduceLeDiff, Nat.reduceSub, Nat.reduceDiv, Int.reduceLE, Int.reduceLT, Int.reduceNeg, Int.reduceAdd, Int.reduceSub, Int.reduceMul, Int.reduceToNat, Int.reducePow, Int.reduceEq, ne_eq, reduceIte, byteD, dstr, un1_str, iD, bD, sxv]
  refine aloop_lv (fun i : Nat => [(1, iM t), (2, iM d), (3, .ptr 0 0), (7, iM i)]) (fun _ => [(0, .st [attsM l, bM lp, crsM c])]) (fun i => i ≤ l.length ∧ (l.take i).all (bndF t d) = true) (fun i => l.length - i) 0 0 ?_ rfl ⟨by omega, by simp⟩ (by omega) ?_
  · simp only [↓ru, rv, rl, ry, tyf, iM, bM, bsM, cond_true, cond_false, Nat.reduceLT, Nat.reduceBEq, Nat.reduceAdd, Nat.reduceEqDiff, Nat.reduceMul, Nat.reduceLeDiff, Nat.reduceSub, Nat.reduceDiv, Int.reduceLE, Int.reduceLT, Int.reduceNeg, Int.reduceAdd, Int.reduceSub, Int.reduceMul, Int.reduceToNat, Int.reducePow, Int.reduceEq, ne_eq, reduceIte, byteD, dstr, un1_str, iD, bD, sxv]
  intro i e0 n ⟨hi, ha⟩
  simp only [↓ru, rv, rl, ry, tyf, iM, bM, bsM, cond_true, cond_false, Nat.reduceLT, Nat.reduceBEq, Nat.reduceAdd, Nat.reduceEqDiff, Nat.reduceMul, Nat.reduceLeDiff, Nat.reduceSub, Nat.reduceDiv, Int.reduceLE, Int.reduceLT, Int.reduceNeg, Int.reduceAdd, Int.reduceSub, Int.reduceMul, Int.reduceToNat, Int.reducePow, Int.reduceEq, ne_eq, reduceIte, byteD, dstr, un1_str, iD, bD, sxv]
  refine fork_split (fun h => ?_) (fun h => ?_)
  · have h' := of_decide_eq_true h
    obtain ⟨y, hy⟩ := get_of_lt (l := l) (i := i) (by omega)
    cases hv : bndF t d y with
    | false =>
      have hf : l.all (bndF t d) = false := by rw [List.all_eq_false]; exact ⟨y, List.mem_of_getElem? hy, by simp [hv]⟩
      have hv2 : t < y.lat ∨ (¬ t < y.lat ∧ d < y.ticks) := by
        have := hv
        simp only [bndF, Bool.and_eq_false_iff, decide_eq_false_iff_not] at this
        omega
      rcases hv2 with hv2 | ⟨hv2, hv3⟩
      · simp only [↓ru, rv, rl, ry, tyf, iM, bM, bsM, cond_true, cond_false, Nat.reduceLT, Nat.reduceBEq, Nat.reduceAdd, Nat.reduceEqDiff, Nat.reduceMul, Nat.reduceLeDiff, Nat.reduceSub, Nat.reduceDiv, Int.reduceLE, Int.reduceLT, Int.reduceNeg, Int.reduceAdd, Int.reduceSub, Int.reduceMul, Int.reduceToNat, Int.reducePow, Int.reduceEq, ne_eq, reduceIte, byteD, dstr, un1_str, iD, bD, sxv, hy, decide_eq_true hv2, pureEnd_of (fn := Tryd.f26) (rs := [.tmp 6]) (ts := [4]) rfl rfl]
        rw [hf, Bool.and_false]
      · simp only [↓ru, rv, rl, ry, tyf, iM, bM, bsM, cond_true, cond_false, Nat.reduceLT, Nat.reduceBEq, Nat.reduceAdd, Nat.reduceEqDiff, Nat.reduceMul, Nat.reduceLeDiff, Nat.reduceSub, Nat.reduceDiv, Int.reduceLE, Int.reduceLT, Int.reduceNeg, Int.reduceAdd, Int.reduceSub, Int.reduceMul, Int.reduceToNat, Int.reducePow, Int.reduceEq, ne_eq, reduceIte, byteD, dstr, un1_str, iD, bD, sxv, hy, decide_eq_false hv2, decide_eq_true hv3, pureEnd_of (fn := Tryd.f26) (rs := [.tmp 6]) (ts := [4]) rfl rfl]
        rw [hf, Bool.and_false]
    | true =>
      have hv2 : ¬ t < y.lat ∧ ¬ d < y.ticks := by
        have := hv
        simp only [bndF, Bool.and_eq_true, decide_eq_true_eq] at this
        omega
      simp only [↓ru, rv, rl, ry, tyf, iM, bM, bsM, cond_true, cond_false, Nat.reduceLT, Nat.reduceBEq, Nat.reduceAdd, Nat.reduceEqDiff, Nat.reduceMul, Nat.reduceLeDiff, Nat.reduceSub, Nat.reduceDiv, Int.reduceLE, Int.reduceLT, Int.reduceNeg, Int.reduceAdd, Int.reduceSub, Int.reduceMul, Int.reduceToNat, Int.reducePow, Int.reduceEq, ne_eq, reduceIte, byteD, dstr, un1_str, iD, bD, sxv, hy, decide_eq_false hv2.1, decide_eq_false hv2.2]
      simp (disch := omega) only [wrap_i64, wrap_u8, wrap_u16, wrap_u64]
      refine loopL_next (i + 1) ?_ rfl ⟨by omega, ?_⟩ (by omega) (by omega)
      · simp only [↓ru, rv, rl, ry, tyf, iM, bM, bsM, cond_true, cond_false, Nat.reduceLT, Nat.reduceBEq, Nat.reduceAdd, Nat.reduceEqDiff, Nat.reduceMul, Nat.reduceLeDiff, Nat.reduceSub, Nat.reduceDiv, Int.reduceLE, Int.reduceLT, Int.reduceNeg, Int.reduceAdd, Int.reduceSub, Int.reduceMul, Int.reduceToNat, Int.reducePow, Int.reduceEq, ne_eq, reduceIte, byteD, dstr, un1_str, iD, bD, sxv]
        simp
      · rw [List.take_add_one, hy, List.all_append, ha]
        simp [hv]
  · have h' := of_decide_eq_false h
    have : i = l.length := by omega
    subst this
    rw [List.take_length] at ha
    simp only [↓ru, rv, rl, ry, tyf, iM, bM, bsM, cond_true, cond_false, Nat.reduceLT, Nat.reduceBEq, Nat.reduceAdd, Nat.reduceEqDiff, Nat.reduceMul, Nat.reduceLeDiff, Nat.reduceSub, Nat.reduceDiv, Int.reduceLE, Int.reduceLT, Int.reduceNeg, Int.reduceAdd, Int.reduceSub, Int.reduceMul, Int.reduceToNat, Int.reducePow, Int.reduceEq, ne_eq, reduceIte, byteD, dstr, un1_str, iD, bD, sxv]
    refine acall1_pure hV rfl rfl ?_
    simp only [↓ru, rv, rl, ry, tyf, iM, bM, bsM, cond_true, cond_false, Nat.reduceLT, Nat.reduceBEq, Nat.reduceAdd, Nat.reduceEqDiff, Nat.reduceMul, Nat.reduceLeDiff, Nat.reduceSub, Nat.reduceDiv, Int.reduceLE, Int.reduceLT, Int.reduceNeg, Int.reduceAdd, Int.reduceSub, Int.reduceMul, Int.reduceToNat, Int.reducePow, Int.reduceEq, ne_eq, reduceIte, byteD, dstr, un1_str, iD, bD, sxv, pureEnd_of (fn := Tryd.f26) (rs := [.tmp 6]) (ts := [4]) rfl rfl]
    rw [ha, Bool.and_true]
end Go.SC

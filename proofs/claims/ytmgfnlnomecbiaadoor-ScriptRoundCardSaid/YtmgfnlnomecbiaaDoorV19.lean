import Derived.Test.YtmgfnlnomecbiaaDoorV18
set_option linter.all false
open Go.Proofs Go.Abs Go.Fa Go.BU Go.TX Go.TW
namespace Go.SC
set_option maxRecDepth 10000
/- What is read is what would be written. -/
theorem pdec_inv {s : List UInt8} (h : (pdec s).2 = true) : dec (pdec s).1 = s ∧ nb (pdec s).1 := by
  unfold pdec at h ⊢
  split at h
  · rename_i hc
    rw [if_pos hc]
    refine ⟨hc.2.2, ?_⟩
    by_cases hr : decVal s 0 < 0 ∨ 999999999 < decVal s 0
    · have := dec_nil hr
      rw [hc.2.2] at this
      exact absurd this hc.1
    · exact ⟨by simp only; omega, by simp only; omega⟩
  · cases h
theorem hexV_inv0 : ∀ x : Fin 256, 0 ≤ hexV (UInt8.ofNat x.val) → hexC (hexV (UInt8.ofNat x.val)).toNat = UInt8.ofNat x.val ∧ hexV (UInt8.ofNat x.val) < 16 := by decide +kernel
theorem hexV_inv {b : UInt8} (h : 0 ≤ hexV b) : hexC (hexV b).toNat = b ∧ hexV b < 16 := by
  have := hexV_inv0 ⟨b.toNat, b.toNat_lt⟩
  simp only [UInt8.ofNat_toNat] at this
  exact this h
theorem hexVal_inv : ∀ (s : List UInt8) (n : Nat) (m : Int), hexVal s n = some m → ∃ k : Nat, m = k ∧ n * 16 ^ s.length ≤ k ∧ k < (n + 1) * 16 ^ s.length ∧ hexD s.length k = s
  | [], n, m, h => by
    simp only [hexVal, Option.some.injEq] at h
    exact ⟨n, h.symm, by simp, by simp, rfl⟩
  | b :: l, n, m, h => by
    rw [hexVal] at h
    split at h
    · cases h
    · rename_i hb
      obtain ⟨h1, h2⟩ := hexV_inv (b := b) (by omega)
      have e : (16 * (n : Int) + hexV b) = ((16 * n + (hexV b).toNat : Nat) : Int) := by omega
      rw [e] at h
      obtain ⟨k, hk, ha, hb2, hc⟩ := hexVal_inv l _ m h
      have hv : (hexV b).toNat < 16 := by omega
      generalize (hexV b).toNat = v at *
      refine ⟨k, hk, ?_, ?_, ?_⟩
      · rw [List.length_cons, Nat.pow_succ]
        refine Nat.le_trans ?_ ha
        rw [Nat.mul_comm (16 ^ l.length) 16, ← Nat.mul_assoc]
        exact Nat.mul_le_mul_right _ (by omega)
      · rw [List.length_cons, Nat.pow_succ]
        refine Nat.lt_of_lt_of_le hb2 ?_
        rw [Nat.mul_comm (16 ^ l.length) 16, ← Nat.mul_assoc]
        exact Nat.mul_le_mul_right _ (by omega)
      · rw [List.length_cons, hexD_cons, hc]
        have hd : k / 16 ^ l.length = 16 * n + v := Nat.div_eq_of_lt_le ha hb2
        rw [hd, show (16 * n + v) % 16 = v by omega, h1]
theorem phex_inv {s : List UInt8} (h : (phex s).2 = true) (hl : s.length = 4) : hexF (phex s).1 4 = s ∧ (0 ≤ (phex s).1 ∧ (phex s).1 ≤ 65535) := by
  unfold phex at h ⊢
  split at h
  · cases h
  · rename_i hc
    rw [if_neg hc]
    cases hv : hexVal s 0 with
    | none => rw [hv] at h; cases h
    | some n =>
      obtain ⟨k, hk, ha, hb, hd⟩ := hexVal_inv s 0 n (by simpa using hv)
      subst hk
      rw [hl] at hb hd
      simp only
      have hb' : k < 65536 := by simpa using hb
      refine ⟨?_, by omega, by omega⟩
      rw [hexF, if_neg (by simp; omega)]
      exact hd
theorem kindI_inv {w : List UInt8} {i : Nat} (h : kindI w = some i) : i < 7 ∧ kindW i = w := by
  obtain ⟨h1, h2, _⟩ := List.findIdx?_eq_some_iff_getElem.1 h
  refine ⟨h1, ?_⟩
  have := of_decide_eq_true h2
  rw [kindW, List.getD_eq_getElem?_getD, List.getElem?_eq_getElem h1]
  exact this
theorem nb0 : nb 0 := ⟨by decide, by decide⟩
theorem fault_inv {x y : List UInt8} (w : List UInt8) (r : List (List UInt8)) (hx : (pdec x).2 = true) (hy : (pdec y).2 = true)
    (h : (faultF ⟨(pdec x).1, 0, 0, 0, 0, (pdec y).1⟩ w r).2 = true) :
    attWs (faultF ⟨(pdec x).1, 0, 0, 0, 0, (pdec y).1⟩ w r).1 = attW :: x :: y :: w :: r ∧ AttB (faultF ⟨(pdec x).1, 0, 0, 0, 0, (pdec y).1⟩ w r).1 := by
  obtain ⟨x1, x2⟩ := pdec_inv hx
  obtain ⟨y1, y2⟩ := pdec_inv hy
  generalize (pdec x).1 = X at *
  generalize (pdec y).1 = Y at *
  unfold faultF at h ⊢
  cases hk : kindI w with
  | none => rw [hk] at h; cases h
  | some i =>
    rw [hk] at h
    simp only at h ⊢
    obtain ⟨hi, hw⟩ := kindI_inv hk
    clear hk
    unfold restF at h ⊢
    by_cases h3 : i = 3
    · subst h3
      simp only [if_true] at h ⊢
      split at h
      · rename_i hr
        rw [if_pos hr]
        split at h
        · cases h
        · rename_i hp
          rw [if_neg hp]
          split at h
          · rename_i hd
            rw [if_pos hd]
            obtain ⟨p1, p2⟩ := phex_inv (by simpa using hp) hr.2
            obtain ⟨d1, d2⟩ := pdec_inv hd
            obtain ⟨hr1, hr2⟩ := hr
            match r, hr1 with
            | [a, b], _ =>
              simp only [List.getD_cons_zero, List.getD_cons_succ] at *
              refine ⟨?_, ⟨by simp only; omega, by simp only; omega⟩, x2, d2, ⟨p2.1, by have := p2.2; simp only; omega⟩, nb0, y2⟩
              simp [attWs, x1, y1, hw, d1, p1]
          · cases h
      · cases h
    · rw [if_neg h3] at h ⊢
      by_cases h4 : i = 4
      · subst h4
        simp only [if_true] at h ⊢
        split at h
        · rename_i hr
          rw [if_pos hr]
          obtain ⟨hr1, hr2⟩ := hr
          obtain ⟨d1, d2⟩ := pdec_inv hr2
          match r, hr1 with
          | [a], _ =>
            simp only [List.getD_cons_zero] at *
            refine ⟨?_, ⟨by simp only; omega, by simp only; omega⟩, x2, nb0, nb0, d2, y2⟩
            simp [attWs, x1, y1, hw, d1]
        · cases h
      · rw [if_neg h4] at h ⊢
        by_cases h6 : i = 6
        · subst h6
          simp only [if_true] at h ⊢
          split at h
          · rename_i hr
            rw [if_pos hr]
            obtain ⟨hr1, hr2, hr3⟩ := hr
            obtain ⟨d1, d2⟩ := pdec_inv hr2
            obtain ⟨e1, e2⟩ := pdec_inv hr3
            match r, hr1 with
            | [a, b], _ =>
              simp only [List.getD_cons_zero, List.getD_cons_succ] at *
              refine ⟨?_, ⟨by simp only; omega, by simp only; omega⟩, x2, d2, nb0, e2, y2⟩
              simp [attWs, x1, y1, hw, d1, e1]
          · cases h
        · rw [if_neg h6] at h ⊢
          split at h
          · rename_i hr
            rw [if_pos hr]
            have : r = [] := List.length_eq_zero_iff.1 hr
            subst this
            refine ⟨?_, ⟨by simp only; omega, by simp only; omega⟩, x2, nb0, nb0, nb0, y2⟩
            have q3 : ¬ ((i : Int) = 3) := by omega
            have q4 : ¬ ((i : Int) = 4) := by omega
            have q6 : ¬ ((i : Int) = 6) := by omega
            simp [attWs, x1, y1, hw, q3, q4, q6]
          · cases h
def OKb (s : Scr) : Prop := (∀ a ∈ s.att, AttB a) ∧ ∀ c ∈ s.crs, nb c.step ∧ nb c.keep
theorem read_inv {s : Scr} {ws : List (List UInt8)} (h : (readF s ws).2 = true) (hs : OKb s) : linesT (readF s ws).1 = linesT s ++ [joinSp ws] ∧ OKb (readF s ws).1 := by
  obtain ⟨l, lp, c⟩ := s
  match ws, h with
  | [], h => cases h
  | [w, x], h => cases h
  | [w], h =>
    by_cases hw : w = loopW
    · subst hw
      simp only [readF, if_true, Bool.and_eq_true, Bool.not_eq_true', decide_eq_true_eq] at h ⊢
      obtain ⟨h1, h2⟩ := h
      have : c = [] := List.length_eq_zero_iff.1 h2
      subst this; subst h1
      exact ⟨by simp [linesT], hs⟩
    · simp only [readF, if_neg hw] at h; cases h
  | [w, x, y], h =>
    by_cases hw : w = crashW
    · subst hw
      simp only [readF, if_true] at h ⊢
      split at h
      · rename_i hc
        rw [if_pos hc]
        obtain ⟨x1, x2⟩ := pdec_inv hc.1
        obtain ⟨y1, y2⟩ := pdec_inv hc.2
        refine ⟨by simp [linesT, crWs, x1, y1], hs.1, fun q hq => ?_⟩
        rcases List.mem_append.1 hq with hq | hq
        · exact hs.2 q hq
        · have : q = ⟨(pdec x).1, (pdec y).1⟩ := by simpa using hq
          rw [this]; exact ⟨x2, y2⟩
      · cases h
    · simp only [readF, if_neg hw] at h; cases h
  | w :: x :: y :: z :: t, h =>
    by_cases hw : w = attW
    · subst hw
      simp only [readF, if_true] at h ⊢
      split at h
      · rename_i hc
        rw [if_pos hc]
        obtain ⟨hx, hy, hl, hcr⟩ := hc
        have : c = [] := List.length_eq_zero_iff.1 hcr
        subst this
        obtain ⟨f1, f2⟩ := fault_inv z t hx hy h
        generalize (faultF ⟨(pdec x).1, 0, 0, 0, 0, (pdec y).1⟩ z t).1 = A at *
        refine ⟨by simp [linesT, f1, hl], fun q hq => ?_, hs.2⟩
        rcases List.mem_append.1 hq with hq | hq
        · exact hs.1 q hq
        · have : q = A := by simpa using hq
          rw [this]; exact f2
      · cases h
    · simp only [readF, if_neg hw] at h; cases h
theorem go_inv : ∀ (ls : List (List UInt8)) (s x : Scr), goF s ls = some x → OKb s → linesT x = linesT s ++ ls ∧ OKb x
  | [], s, x, h, hs => by
    simp only [goF, Option.some.injEq] at h
    subst h
    exact ⟨by simp, hs⟩
  | ln :: r, s, x, h, hs => by
    rw [goF] at h
    cases hw : wordsF ln with
    | none => rw [hw] at h; cases h
    | some ws =>
      rw [hw] at h
      simp only at h
      split at h
      · rename_i hr
        obtain ⟨i1, i2⟩ := read_inv hr hs
        obtain ⟨j1, j2⟩ := go_inv r _ x h i2
        refine ⟨?_, j2⟩
        rw [j1, i1, words_join hw]
        simp
      · cases h
theorem par_inv (b : List UInt8) : ((parF b).2 = 0 ∧ scrTxt (parF b).1 = b ∧ scrOK (parF b).1 = true ∧ OKb (parF b).1) ∨ (((parF b).2 = 1 ∨ (parF b).2 = 5) ∧ (parF b).1 = scr0) := by
  unfold parF
  cases hl : linesF b with
  | none => exact .inr ⟨.inl rfl, rfl⟩
  | some ls =>
    simp only
    cases hg : goF scr0 ls with
    | none => exact .inr ⟨.inl rfl, rfl⟩
    | some s =>
      simp only
      cases hk : scrOK s with
      | false => simp only [Bool.false_eq_true, if_false]; exact .inr (by simp)
      | true =>
        simp only [if_true]
        obtain ⟨g1, g2⟩ := go_inv ls scr0 s hg ⟨by simp [scr0], by simp [scr0]⟩
        have e : scrTxt s = b := by
          rw [txt_lines, g1, lines_join hl]
          simp [linesT, scr0]
        exact .inl ⟨trivial, e, hk, g2⟩
theorem scrOK_len {s : Scr} (h : scrOK s = true) : s.att.length ≤ 4096 ∧ s.crs.length ≤ 8 := by
  simp only [scrOK, Bool.and_eq_true, decide_eq_true_eq] at h
  exact ⟨h.1.1.1.1, h.1.1.2⟩
theorem crs_nb {l : List Cr} (h : crsOK l = true) : ∀ c ∈ l, nb c.step ∧ nb c.keep := by
  intro c hc
  obtain ⟨i, hi, rfl⟩ := List.getElem_of_mem hc
  rw [crsOK, List.all_eq_true] at h
  have h2 := h i (by simpa using hi)
  rw [stepC, List.getElem?_eq_getElem hi] at h2
  simp only [Bool.and_eq_true, wi_iff] at h2
  exact ⟨h2.1.1, by have := h2.1.2; exact ⟨this.1, by omega⟩⟩
theorem scrOK_b {s : Scr} (h : scrOK s = true) : OKs s := by
  simp only [scrOK, Bool.and_eq_true] at h
  refine ⟨fun a ha => ?_, crs_nb h.1.2⟩
  have h2 := attOK_iff.1 (List.all_eq_true.1 h.2 a ha)
  obtain ⟨a1, a2, a3⟩ := h2
  unfold OKa AttB nb
  omega
end Go.SC

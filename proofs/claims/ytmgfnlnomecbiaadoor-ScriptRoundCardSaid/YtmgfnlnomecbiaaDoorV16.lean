import Derived.Test.YtmgfnlnomecbiaaDoorV15
set_option linter.all false
open Go.Proofs Go.Abs Go.Fa Go.BU Go.TX Go.TW
namespace Go.SC
set_option maxRecDepth 10000
/-- A word of plain letters. -/
def plW (w : List UInt8) : Prop := w ≠ [] ∧ ∀ b ∈ w, wc b = true ∧ b ≠ 34
theorem wordL_app {w r : List UInt8} (h : plW w) : wordL (w ++ 32 :: r) = w.length := by
  obtain ⟨h0, h1⟩ := h
  cases w with
  | nil => exact absurd rfl h0
  | cons b l =>
    have hb := (h1 b (by simp)).2
    have : ((b :: l) ++ 32 :: r).takeWhile wc = b :: l := by
      rw [List.takeWhile_append_of_pos (fun a ha => (h1 a ha).1)]
      rw [List.takeWhile_cons_of_neg (by decide)]; simp
    simp only [wordL, List.cons_append, if_neg hb]
    rw [List.cons_append] at this
    rw [this]
theorem wordL_self {w : List UInt8} (h : plW w) : wordL w = w.length := by
  obtain ⟨h0, h1⟩ := h
  cases w with
  | nil => exact absurd rfl h0
  | cons b l =>
    have hb := (h1 b (by simp)).2
    have : (b :: l).takeWhile wc = b :: l := by
      have := List.takeWhile_append_of_pos (p := wc) (l₁ := b :: l) (l₂ := []) (fun a ha => (h1 a ha).1)
      simpa using this
    simp only [wordL, if_neg hb]
    rw [this]
/-- Words joined are read again. -/
theorem wordsG_of : ∀ ws : List (List UInt8), ws ≠ [] → (∀ w ∈ ws, plW w) → wordsG (joinSp ws) = some ws
  | [], h, _ => absurd rfl h
  | [w], _, hw => by
    have hp := hw w (by simp)
    have hl := wordL_self hp
    have hn : w.length ≠ 0 := fun e => hp.1 (List.length_eq_zero_iff.1 e)
    rw [joinSp, wordsG_step hp.1, hl, if_neg hn, List.drop_length, if_pos rfl]
  | w :: x :: r, _, hw => by
    have hp := hw w (by simp)
    have ih := wordsG_of (x :: r) (by simp) (fun v hv => hw v (by simp at hv ⊢; rcases hv with hv | hv <;> simp [hv]))
    have hj : joinSp (w :: x :: r) = w ++ 32 :: joinSp (x :: r) := by simp [joinSp]
    have hl := wordL_app (r := joinSp (x :: r)) hp
    have hn : w.length ≠ 0 := fun e => hp.1 (List.length_eq_zero_iff.1 e)
    rw [hj, wordsG_step (by simp), hl, if_neg hn]
    have hd : (w ++ 32 :: joinSp (x :: r)).drop w.length = 32 :: joinSp (x :: r) := by simp
    have hd1 : (w ++ 32 :: joinSp (x :: r)).drop (w.length + 1) = joinSp (x :: r) := by rw [← List.drop_drop, hd]; rfl
    have ht : (w ++ 32 :: joinSp (x :: r)).take w.length = w := by simp
    rw [hd, hd1, ht, if_neg (by simp), List.head?_cons, if_pos rfl, ih]
    rfl
theorem wordsF_of {ws : List (List UInt8)} (h : ws ≠ []) (hw : ∀ w ∈ ws, plW w) : wordsF (joinSp ws) = some ws := by
  have hg := wordsG_of ws h hw
  have hne : joinSp ws ≠ [] := by intro e; rw [e, wordsG_nil] at hg; cases hg
  rw [wordsF, if_neg hne]
  exact hg
theorem plW_dec {n : Int} (h : nb n) : plW (dec n) := by
  refine ⟨dec_ne h, fun b hb => ?_⟩
  have := dec_dig n
  rw [List.all_eq_true] at this
  have h2 := of_decide_eq_true (this b hb)
  refine ⟨decide_eq_true ⟨by omega, by omega, by omega⟩, fun e => ?_⟩
  subst e
  revert h2; decide
theorem plW_kind {i : Nat} (h : i < 7) : plW (kindW i) := by
  have : i = 0 ∨ i = 1 ∨ i = 2 ∨ i = 3 ∨ i = 4 ∨ i = 5 ∨ i = 6 := by omega
  rcases this with rfl | rfl | rfl | rfl | rfl | rfl | rfl <;> exact ⟨by decide, by decide⟩
theorem kindI_kind {i : Nat} (h : i < 7) : kindI (kindW i) = some i := by
  have : i = 0 ∨ i = 1 ∨ i = 2 ∨ i = 3 ∨ i = 4 ∨ i = 5 ∨ i = 6 := by omega
  rcases this with rfl | rfl | rfl | rfl | rfl | rfl | rfl <;> rfl
theorem hexF_ne {m : Int} (h : 0 ≤ m ∧ m ≤ 65535) : hexF m 4 ≠ [] := by
  rw [hexF, if_neg (by simp; omega)]
  intro e
  have := congrArg List.length e
  rw [hexD_length] at this
  simp at this
theorem pdec_nb {n : Int} (h : nb n) : pdec (dec n) = (n, true) := pdec_dec h
def restW (a : Att) : List (List UInt8) := if a.fault = 3 then [dec a.pos, hexF a.mask 4] else if a.fault = 4 then [dec a.ticks] else if a.fault = 6 then [dec a.pos, dec a.ticks] else []
theorem fault_of {a : Att} (h : AttB a) (hm : a.mask ≤ 65535) : faultF ⟨a.lat, 0, 0, 0, 0, a.val⟩ (kindW a.fault.toNat) (restW a) = (plainA a, true) := by
  obtain ⟨lat, fault, pos, mask, ticks, val⟩ := a
  obtain ⟨⟨hf0, hf6⟩, b1, b2, b3, b4, b5⟩ := h
  simp only at hf0 hf6 b1 b2 b3 b4 b5 hm
  have hx := hexF_ne (m := mask) ⟨b3.1, hm⟩
  obtain ⟨hx1, hx2⟩ := phex_hex hx
  have hx3 : (hexF mask 4).length = 4 := by omega
  have p2 := pdec_nb b2
  have p4 := pdec_nb b4
  have hff : fault = 0 ∨ fault = 1 ∨ fault = 2 ∨ fault = 3 ∨ fault = 4 ∨ fault = 5 ∨ fault = 6 := by omega
  rcases hff with rfl | rfl | rfl | rfl | rfl | rfl | rfl
  · rw [faultF, kindI_kind (by simp)]; simp [restF, restW, plainA]
  · rw [faultF, kindI_kind (by simp)]; simp [restF, restW, plainA]
  · rw [faultF, kindI_kind (by simp)]; simp [restF, restW, plainA]
  · rw [faultF, kindI_kind (by simp)]; simp [restF, restW, plainA, hx1, hx3, p2]
  · rw [faultF, kindI_kind (by simp)]; simp [restF, restW, plainA, p4]
  · rw [faultF, kindI_kind (by simp)]; simp [restF, restW, plainA]
  · rw [faultF, kindI_kind (by simp)]; simp [restF, restW, plainA, p2, p4]
theorem read_att {s : Scr} {a : Att} (h : AttB a) (hm : a.mask ≤ 65535) (h1 : s.loop = false) (h2 : s.crs = []) : readF s (attWs a) = ({ s with att := s.att ++ [plainA a] }, true) := by
  have hf := fault_of h hm
  have e : attWs a = attW :: dec a.lat :: dec a.val :: kindW a.fault.toNat :: restW a := rfl
  obtain ⟨_, b1, _, _, _, b5⟩ := h
  rw [e, readF, if_pos rfl, pdec_nb b1, pdec_nb b5, hf, if_pos ⟨rfl, rfl, h1, by rw [h2]; rfl⟩]
end Go.SC

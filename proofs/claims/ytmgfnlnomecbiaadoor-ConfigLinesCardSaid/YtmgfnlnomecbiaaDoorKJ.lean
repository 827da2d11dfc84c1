import Derived.Test.YtmgfnlnomecbiaaDoorKI
set_option linter.all false
open Go.Proofs Go.Abs Go.Fa Go.BU Go.TX Go.TW
/- What the rows must be. -/
namespace Go.CF
set_option maxHeartbeats 1000000
set_option maxRecDepth 10000
def wdsL : List (List UInt8) := [unitsW, retriesW, timeoutW, delayW, windowW, windowW, windowW, windowW, everyW, storeW]
def szsL : List Nat := [2, 1, 1, 1, 3, 3, 3, 3, 1, 1]
/-- The numbers of row i. -/
def rowV (R : Rows) (i : Nat) : Option (List Int) := match numR (R.getD i []) (wdsL.getD i []) (szsL.getD i 0) with
  | some l => if szsL.getD i 0 = 3 ∧ l.getD 0 0 ≠ (i : Int) - 3 then none else some l
  | none => none
def celV (R : Rows) (i j : Nat) : Int := ((rowV R i).getD []).getD j 0
def mkR (s : List Stg) (R : Rows) : Cfg := ⟨s, celV R 0 0, celV R 0 1, celV R 1 0, celV R 2 0, celV R 3 0, ⟨celV R 4 1, celV R 4 2⟩, ⟨celV R 5 1, celV R 5 2⟩, ⟨celV R 6 1, celV R 6 2⟩, ⟨celV R 7 1, celV R 7 2⟩, celV R 8 0, celV R 9 0⟩
def fineR (L : Rows) (bad : Bool) : Prop := bad = false ∧ (setsF L).2.1 = true ∧ (setsF L).2.2.length = 10 ∧ ∀ i, i < 10 → (rowV (setsF L).2.2 i).isSome = true
theorem numR_some {row : List (List UInt8)} {w : List UInt8} {k : Nat} {l : List Int} (h : numR row w k = some l) : row.length = k + 1 ∧ row.getD 0 [] = w ∧ (row.drop 1).all (fun s => (pdec s).2) = true ∧ l = (row.drop 1).map fun s => (pdec s).1 := by
  unfold numR at h
  split at h
  · rename_i hc; cases h; exact ⟨hc.1.1, hc.1.2, hc.2, rfl⟩
  · cases h
theorem val_of {row : List (List UInt8)} {w : List UInt8} {k : Nat} {l : List Int} {rest : Rows} {b : Bool} (h : numR row w k = some l) {i : Nat} {old : Int} (hi : i < k) : valF (rest, b, some (row.drop 1)) i old = l.getD i 0 := by
  obtain ⟨h1, _, _, rfl⟩ := numR_some h
  have hl : i < (row.drop 1).length := by simp; omega
  simp only [valF, List.getD_eq_getElem?_getD, List.getElem?_map, List.getElem?_eq_getElem hl, Option.map_some, Option.getD_some]
theorem take_inv {L : Rows} {b : Bool} {w : List UInt8} {k : Nat} (h : (takeF L b w k).2.1 = false) : b = false ∧ ∃ row l, L = row :: (takeF L b w k).1 ∧ numR row w k = some l ∧ takeF L b w k = ((takeF L b w k).1, false, some (row.drop 1)) := by
  cases b with
  | true => cases L <;> cases h
  | false =>
    cases L with
    | nil => cases h
    | cons row rest =>
      unfold takeF at h ⊢
      simp only at h ⊢
      split at h
      · rename_i hc
        rw [if_pos hc]
        simp only [Bool.not_eq_false'] at h
        refine ⟨trivial, row, (row.drop 1).map fun s => (pdec s).1, rfl, ?_, by rw [h]; rfl⟩
        rw [numR, if_pos ⟨⟨by omega, hc.2⟩, h⟩]
      · cases h
theorem rowV_plain {R : Rows} {i : Nat} {l : List Int} (h : numR (R.getD i []) (wdsL.getD i []) (szsL.getD i 0) = some l) (h2 : ¬ (szsL.getD i 0 = 3 ∧ l.getD 0 0 ≠ (i : Int) - 3)) : rowV R i = some l := by
  rw [rowV, h]; simp only; rw [if_neg h2]
theorem rowV_some {R : Rows} {i : Nat} (h : (rowV R i).isSome = true) : ∃ l, rowV R i = some l ∧ numR (R.getD i []) (wdsL.getD i []) (szsL.getD i 0) = some l ∧ ¬ (szsL.getD i 0 = 3 ∧ l.getD 0 0 ≠ (i : Int) - 3) := by
  cases hn : numR (R.getD i []) (wdsL.getD i []) (szsL.getD i 0) with
  | none => rw [rowV, hn] at h; cases h
  | some l =>
    have hr : rowV R i = if szsL.getD i 0 = 3 ∧ l.getD 0 0 ≠ (i : Int) - 3 then none else some l := by rw [rowV, hn]
    by_cases hc : szsL.getD i 0 = 3 ∧ l.getD 0 0 ≠ (i : Int) - 3
    · rw [hr, if_pos hc] at h; cases h
    · exact ⟨l, by rw [hr, if_neg hc], rfl, hc⟩
theorem wst_inv {L : Rows} {b : Bool} {k : Nat} (h : (wst L b (k + 1)).b = false) : (wst L b k).b = false ∧ ∃ row l, (wst L b k).L = row :: (wst L b (k + 1)).L ∧ numR row windowW 3 = some l ∧ l.getD 0 0 = (k : Int) + 1 ∧ (wst L b (k + 1)).v = ((wst L b k).v.set (2 * k) (l.getD 1 0)).set (2 * k + 1) (l.getD 2 0) := by
  rw [wst_succ] at h ⊢
  simp only at h ⊢
  rw [Bool.or_eq_false_iff] at h
  obtain ⟨h1, row, l, h2, h3, h4⟩ := take_inv h.1
  refine ⟨h1, row, l, h2, h3, ?_, ?_⟩
  · have := h.2
    rw [h4, val_of h3 (by decide)] at this
    simpa using this
  · rw [h4, val_of h3 (by decide), val_of h3 (by decide)]
theorem fine_of {L : Rows} {bad : Bool} (h1 : (parX6 L bad).2.1 = false) (h2 : (parX6 L bad).1 = []) : fineR L bad ∧ parR L bad = if chkF (mkR (setsF L).1 (setsF L).2.2) = 0 then (mkR (setsF L).1 (setsF L).2.2, 0) else (cfg0, chkF (mkR (setsF L).1 (setsF L).2.2)) := by
  have e6 : parX6 L bad = takeF (parX5 L bad).1 (parX5 L bad).2.1 storeW 1 := rfl
  have e5 : parX5 L bad = takeF (parS L bad).L (parS L bad).b everyW 1 := rfl
  have eS : parS L bad = wst (parX4 L bad).1 (parX4 L bad).2.1 4 := rfl
  have e4 : parX4 L bad = takeF (parX3 L bad).1 (parX3 L bad).2.1 delayW 1 := rfl
  have e3 : parX3 L bad = takeF (parX2 L bad).1 (parX2 L bad).2.1 timeoutW 1 := rfl
  have e2 : parX2 L bad = takeF (parX1 L bad).1 (parX1 L bad).2.1 retriesW 1 := rfl
  have e1 : parX1 L bad = takeF (setsF L).2.2 (bad || !(setsF L).2.1) unitsW 2 := rfl
  obtain ⟨b6, r10, l10, c6, d6, f6⟩ := take_inv (e6 ▸ h1)
  rw [← e6] at c6 f6
  obtain ⟨b5, r9, l9, c5, d5, f5⟩ := take_inv (e5 ▸ b6)
  rw [← e5] at c5 f5
  rw [eS] at b5
  obtain ⟨b44, r8, l8, c44, d44, v44, u44⟩ := wst_inv b5
  obtain ⟨b43, r7, l7, c43, d43, v43, u43⟩ := wst_inv b44
  obtain ⟨b42, r6, l6, c42, d42, v42, u42⟩ := wst_inv b43
  obtain ⟨b41, r5, l5, c41, d41, v41, u41⟩ := wst_inv b42
  have b4 : (parX4 L bad).2.1 = false := b41
  have c40 : (parX4 L bad).1 = r5 :: (wst (parX4 L bad).1 (parX4 L bad).2.1 (0 + 1)).L := c41
  obtain ⟨b3, r4, l4, c4, d4, f4⟩ := take_inv (e4 ▸ b4)
  rw [← e4] at c4 f4
  obtain ⟨b2, r3, l3, c3, d3, f3⟩ := take_inv (e3 ▸ b3)
  rw [← e3] at c3 f3
  obtain ⟨b1, r2, l2, c2, d2, f2⟩ := take_inv (e2 ▸ b2)
  rw [← e2] at c2 f2
  obtain ⟨b0, r1, l1, c1, d1, f1⟩ := take_inv (e1 ▸ b1)
  rw [← e1] at c1 f1
  rw [Bool.or_eq_false_iff] at b0
  have hR : (setsF L).2.2 = [r1, r2, r3, r4, r5, r6, r7, r8, r9, r10] := by
    rw [c1, c2, c3, c4, c40, c42, c43, c44, ← eS, c5, c6, h2]
  have w0 : rowV (setsF L).2.2 0 = some l1 := rowV_plain (by rw [hR]; exact d1) (fun h => absurd h.1 (by decide))
  have w1 : rowV (setsF L).2.2 1 = some l2 := rowV_plain (by rw [hR]; exact d2) (fun h => absurd h.1 (by decide))
  have w2 : rowV (setsF L).2.2 2 = some l3 := rowV_plain (by rw [hR]; exact d3) (fun h => absurd h.1 (by decide))
  have w3 : rowV (setsF L).2.2 3 = some l4 := rowV_plain (by rw [hR]; exact d4) (fun h => absurd h.1 (by decide))
  have w4 : rowV (setsF L).2.2 4 = some l5 := rowV_plain (by rw [hR]; exact d41) (fun h => h.2 (by rw [v41]; rfl))
  have w5 : rowV (setsF L).2.2 5 = some l6 := rowV_plain (by rw [hR]; exact d42) (fun h => h.2 (by rw [v42]; rfl))
  have w6 : rowV (setsF L).2.2 6 = some l7 := rowV_plain (by rw [hR]; exact d43) (fun h => h.2 (by rw [v43]; rfl))
  have w7 : rowV (setsF L).2.2 7 = some l8 := rowV_plain (by rw [hR]; exact d44) (fun h => h.2 (by rw [v44]; rfl))
  have w8 : rowV (setsF L).2.2 8 = some l9 := rowV_plain (by rw [hR]; exact d5) (fun h => absurd h.1 (by decide))
  have w9 : rowV (setsF L).2.2 9 = some l10 := rowV_plain (by rw [hR]; exact d6) (fun h => absurd h.1 (by decide))
  refine ⟨⟨b0.1, by simpa using b0.2, by rw [hR]; rfl, fun i hi => ?_⟩, ?_⟩
  · have : i = 0 ∨ i = 1 ∨ i = 2 ∨ i = 3 ∨ i = 4 ∨ i = 5 ∨ i = 6 ∨ i = 7 ∨ i = 8 ∨ i = 9 := by omega
    rcases this with rfl | rfl | rfl | rfl | rfl | rfl | rfl | rfl | rfl | rfl
    · rw [w0]; rfl
    · rw [w1]; rfl
    · rw [w2]; rfl
    · rw [w3]; rfl
    · rw [w4]; rfl
    · rw [w5]; rfl
    · rw [w6]; rfl
    · rw [w7]; rfl
    · rw [w8]; rfl
    · rw [w9]; rfl
  · have hv : (parS L bad).v = [l5.getD 1 0, l5.getD 2 0, l6.getD 1 0, l6.getD 2 0, l7.getD 1 0, l7.getD 2 0, l8.getD 1 0, l8.getD 2 0] := by
      rw [eS, u44, u43, u42, u41]
      rfl
    have hm : mkC (setsF L).1 (parX1 L bad) (parX2 L bad) (parX3 L bad) (parX4 L bad) (parX5 L bad) (parX6 L bad) (parS L bad).v = mkR (setsF L).1 (setsF L).2.2 := by
      rw [mkC, hv, f1, f2, f3, f4, f5, f6]
      rw [val_of d1 (by decide), val_of d1 (by decide), val_of d2 (by decide), val_of d3 (by decide), val_of d4 (by decide), val_of d5 (by decide), val_of d6 (by decide)]
      simp only [mkR, celV, w0, w1, w2, w3, w4, w5, w6, w7, w8, w9, Option.getD_some, List.getD_cons_zero, List.getD_cons_succ]
    rw [parR, finC, if_neg (by rw [h1, h2]; simp), hm]
theorem par_bad {L : Rows} {bad : Bool} (h : ¬ fineR L bad) : parR L bad = (cfg0, 1) := by
  rw [parR, finC]
  by_cases hx : (parX6 L bad).2.1 = true ∨ (parX6 L bad).1 ≠ []
  · rw [if_pos hx]
  · exfalso
    have h1 : (parX6 L bad).2.1 = false := by
      cases hb : (parX6 L bad).2.1 with
      | false => rfl
      | true => exact absurd (.inl hb) hx
    have h2 : (parX6 L bad).1 = [] := Decidable.not_not.1 fun hh => hx (.inr hh)
    exact h (fine_of h1 h2).1
end Go.CF

import Derived.Test.YtmgfnlnomecbiaaDoorKF
set_option linter.all false
open Go.Proofs Go.Abs Go.Fa Go.BU Go.TX Go.TW
/- What is written is read again. -/
namespace Go.CF
set_option maxHeartbeats 1000000
set_option maxRecDepth 10000
/-- A word of plain letters. -/
def plW (w : List UInt8) : Prop := w ≠ [] ∧ ∀ b ∈ w, wc b = true ∧ b ≠ 34
theorem wordL_app {w r : List UInt8} (h : plW w) : wordL (w ++ 32 :: r) = w.length := by
  obtain ⟨h0, h1⟩ := h
  cases w with
  | nil => exact absurd rfl h0
  | cons b l =>
    have hb := (h1 b (by simp)).2
    have : ((b :: l) ++ 32 :: r).takeWhile wc = b :: l := by
      rw [List.takeWhile_append_of_pos (fun a ha => (h1 a ha).1)]
      rw [List.takeWhile_cons_of_neg (by decide)]; simp
    simp only [wordL, List.cons_append, if_neg hb]
    rw [List.cons_append] at this
    rw [this]
theorem wordL_self {w : List UInt8} (h : plW w) : wordL w = w.length := by
  obtain ⟨h0, h1⟩ := h
  cases w with
  | nil => exact absurd rfl h0
  | cons b l =>
    have hb := (h1 b (by simp)).2
    have : (b :: l).takeWhile wc = b :: l := by
      have := List.takeWhile_append_of_pos (p := wc) (l₁ := b :: l) (l₂ := []) (fun a ha => (h1 a ha).1)
      simpa using this
    simp only [wordL, if_neg hb]
    rw [this]
/-- Words joined are read again. -/
theorem wordsG_of : ∀ ws : List (List UInt8), ws ≠ [] → (∀ w ∈ ws, plW w) → wordsG (joinSp ws) = some ws
  | [], h, _ => absurd rfl h
  | [w], _, hw => by
    have hp := hw w (by simp)
    have hl := wordL_self hp
    have hn : w.length ≠ 0 := fun e => hp.1 (List.length_eq_zero_iff.1 e)
    rw [joinSp, wordsG_step hp.1, hl, if_neg hn, List.drop_length, if_pos rfl]
  | w :: x :: r, _, hw => by
    have hp := hw w (by simp)
    have ih := wordsG_of (x :: r) (by simp) (fun v hv => hw v (by simp at hv ⊢; rcases hv with hv | hv <;> simp [hv]))
    have hj : joinSp (w :: x :: r) = w ++ 32 :: joinSp (x :: r) := by simp [joinSp]
    have hl := wordL_app (r := joinSp (x :: r)) hp
    have hn : w.length ≠ 0 := fun e => hp.1 (List.length_eq_zero_iff.1 e)
    rw [hj, wordsG_step (by simp), hl, if_neg hn]
    have hd : (w ++ 32 :: joinSp (x :: r)).drop w.length = 32 :: joinSp (x :: r) := by simp
    have hd1 : (w ++ 32 :: joinSp (x :: r)).drop (w.length + 1) = joinSp (x :: r) := by rw [← List.drop_drop, hd]; rfl
    have ht : (w ++ 32 :: joinSp (x :: r)).take w.length = w := by simp
    rw [hd, hd1, ht, if_neg (by simp), List.head?_cons, if_pos rfl, ih]
    rfl
theorem wordsF_of {ws : List (List UInt8)} (h : ws ≠ []) (hw : ∀ w ∈ ws, plW w) : wordsF (joinSp ws) = some ws := by
  have hg := wordsG_of ws h hw
  have hne : joinSp ws ≠ [] := by intro e; rw [e, wordsG_nil] at hg; cases hg
  rw [wordsF, if_neg hne]
  exact hg
theorem plW_dec {n : Int} (h : 0 ≤ n ∧ n ≤ 999999999) : plW (dec n) := by
  refine ⟨dec_ne h, fun b hb => ?_⟩
  have := dec_dig n
  rw [List.all_eq_true] at this
  have h2 := of_decide_eq_true (this b hb)
  refine ⟨decide_eq_true ⟨by omega, by omega, by omega⟩, fun e => ?_⟩
  subst e
  revert h2; decide
theorem join_pr : ∀ ws : List (List UInt8), (∀ w ∈ ws, plW w) → (joinSp ws).all prB = true
  | [], _ => rfl
  | [w], h => by
    have hp := h w (by simp)
    rw [joinSp, List.all_eq_true]
    intro b hb
    have := of_decide_eq_true (hp.2 b hb).1
    exact decide_eq_true ⟨by omega, by omega⟩
  | w :: x :: r, h => by
    have ih := join_pr (x :: r) (fun v hv => h v (by simp at hv ⊢; rcases hv with hv | hv <;> simp [hv]))
    have hj : joinSp (w :: x :: r) = w ++ 32 :: joinSp (x :: r) := by simp [joinSp]
    have hp := h w (by simp)
    rw [hj, List.all_append, List.all_cons, ih]
    have : w.all prB = true := by
      rw [List.all_eq_true]
      intro b hb
      have := of_decide_eq_true (hp.2 b hb).1
      exact decide_eq_true ⟨by omega, by omega⟩
    rw [this]; decide

theorem plW_set {s : Stg} (h : validS s = true) : plW (fmtS s) := by
  obtain ⟨h1, h2, h3⟩ := validS_range h
  obtain ⟨q1, q2⟩ := plW_dec (n := s.baud) ⟨by omega, by omega⟩
  rw [fmtS, if_pos h]
  refine ⟨by simp, fun b hb => ?_⟩
  rcases List.mem_append.1 hb with hb | hb
  · exact q2 b hb
  · have : b = 45 ∨ b = parL s.par := by simpa using hb
    rcases this with rfl | rfl
    · decide
    · rcases h3 with h | h | h <;> rw [h] <;> decide
theorem parseS_fmt {s : Stg} (h : validS s = true) : parseS (fmtS s) = (s, true) := by rw [← parse_eq]; exact parse2_fmt h
def tailR (c : Cfg) : Rows := [unitsW :: [c.first, c.last].map dec, retriesW :: [c.ret].map dec, timeoutW :: [c.tmo].map dec, delayW :: [c.del].map dec,
  windowW :: [1, c.w0.f, c.w0.c].map dec, windowW :: [2, c.w1.f, c.w1.c].map dec, windowW :: [3, c.w2.f, c.w2.c].map dec, windowW :: [4, c.w3.f, c.w3.c].map dec, everyW :: [c.every].map dec, storeW :: [c.store].map dec]
def rowsC (c : Cfg) : Rows := c.set.map (fun s => [settingW, fmtS s]) ++ tailR c
theorem txt_rows (c : Cfg) : cfgTxt c = unlines ((rowsC c).map joinSp) := by
  simp only [cfgTxt, setT, winsT, winT, ← numT_ln, lnT, rowsC, tailR, unlines, List.map_append, List.map_map, List.flatMap_append, List.map_cons, List.map_nil, List.flatMap_cons, List.flatMap_nil, List.append_nil]
  simp [List.flatMap, Function.comp_def]
theorem list_valid {l : List Stg} (h : listS l = true) : ∀ s ∈ l, validS s = true := by
  intro s hs
  obtain ⟨i, hi, rfl⟩ := List.getElem_of_mem hs
  simp only [listS, Bool.and_eq_true] at h
  have h2 := List.all_eq_true.1 h.2 i (by simpa using hi)
  rw [stepS, List.getElem?_eq_getElem hi] at h2
  simp only [Bool.and_eq_true] at h2
  exact h2.1
/-- The numbers of a valid configuration. -/
theorem okN {c : Cfg} (h : chkF c = 0) : ∀ n ∈ [c.first, c.last, c.ret, c.tmo, c.del, c.w0.f, c.w0.c, c.w1.f, c.w1.c, c.w2.f, c.w2.c, c.w3.f, c.w3.c, c.every, c.store], 0 ≤ n ∧ n ≤ 999999999 := by
  obtain ⟨_, h2, h3, h4⟩ := chk0 h
  unfold rngP at h2
  unfold lenR at h3
  unfold ordR at h4
  intro n hn
  simp only [List.mem_cons, List.not_mem_nil, or_false] at hn
  omega
theorem sets_ok : ∀ (l : List Stg) (t : Rows), (∀ s ∈ l, validS s = true) → setsF t = ([], true, t) → setsF (l.map (fun s => [settingW, fmtS s]) ++ t) = (l, true, t)
  | [], t, _, h => h
  | s :: l, t, hl, h => by
    have ih := sets_ok l t (fun x hx => hl x (by simp [hx])) h
    have hs := parseS_fmt (hl s (by simp))
    rw [List.map_cons, List.cons_append, setsF, if_pos ⟨rfl, rfl⟩, ih]
    simp [hs]
end Go.CF

import Derived.Test.YtmgfnlnomecbiaaDoorV16
set_option linter.all false
open Go.Proofs Go.Abs Go.Fa Go.BU Go.TX Go.TW
namespace Go.SC
set_option maxRecDepth 10000
theorem read_loop {s : Scr} (h1 : s.loop = false) (h2 : s.crs = []) : readF s [loopW] = ({ s with loop := true }, true) := by
  simp [readF, h1, h2]
theorem read_crash {s : Scr} {c : Cr} (h : nb c.step ∧ nb c.keep) : readF s (crWs c) = ({ s with crs := s.crs ++ [c] }, true) := by
  simp [readF, crWs, pdec_nb h.1, pdec_nb h.2]
theorem plW_hex {m : Int} (h : 0 ≤ m ∧ m ≤ 65535) : plW (hexF m 4) := by
  refine ⟨hexF_ne h, ?_⟩
  rw [hexF, if_neg (by simp; omega)]
  intro b hb
  have key : ∀ (k n : Nat), ∀ b ∈ hexD k n, ∃ d, d < 16 ∧ b = hexC d := by
    intro k
    induction k with
    | zero => intro n b hb; simp [hexD] at hb
    | succ k ih =>
      intro n b hb
      rw [hexD] at hb
      rcases List.mem_append.1 hb with hb | hb
      · exact ih _ b hb
      · exact ⟨n % 16, Nat.mod_lt _ (by decide), by simpa using hb⟩
  obtain ⟨d, hd, rfl⟩ := key _ _ b hb
  have : ∀ d : Fin 16, wc (hexC d.val) = true ∧ hexC d.val ≠ 34 := by decide
  exact this ⟨d, hd⟩
def OKa (a : Att) : Prop := AttB a ∧ a.mask ≤ 65535
theorem attWs_pl {a : Att} (h : OKa a) : ∀ w ∈ attWs a, plW w := by
  obtain ⟨⟨⟨hf0, hf6⟩, b1, b2, b3, b4, b5⟩, hm⟩ := h
  have q1 := plW_dec b1
  have q2 := plW_dec b2
  have q3 := plW_hex ⟨b3.1, hm⟩
  have q4 := plW_dec b4
  have q5 := plW_dec b5
  have q6 : plW (kindW a.fault.toNat) := plW_kind (by omega)
  have q7 : plW attW := ⟨by decide, by decide⟩
  intro w hw
  unfold attWs at hw
  split at hw
  · simp at hw; rcases hw with rfl | rfl | rfl | rfl | rfl | rfl <;> assumption
  · split at hw
    · simp at hw; rcases hw with rfl | rfl | rfl | rfl | rfl <;> assumption
    · split at hw
      · simp at hw; rcases hw with rfl | rfl | rfl | rfl | rfl | rfl <;> assumption
      · simp at hw; rcases hw with rfl | rfl | rfl | rfl <;> assumption
theorem crWs_pl {c : Cr} (h : nb c.step ∧ nb c.keep) : ∀ w ∈ crWs c, plW w := by
  have q1 := plW_dec h.1
  have q2 := plW_dec h.2
  have q7 : plW crashW := ⟨by decide, by decide⟩
  intro w hw
  simp [crWs] at hw
  rcases hw with rfl | rfl | rfl <;> assumption
theorem goF_att : ∀ (l : List Att) (s : Scr) (rest : List (List UInt8)), (∀ a ∈ l, OKa a) → s.loop = false → s.crs = [] → goF s (l.map (fun a => joinSp (attWs a)) ++ rest) = goF { s with att := s.att ++ l.map plainA } rest
  | [], s, rest, _, _, _ => by simp
  | a :: l, s, rest, h, h1, h2 => by
    have ha := h a (by simp)
    have hw := wordsF_of (ws := attWs a) (by simp [attWs]) (attWs_pl ha)
    rw [List.map_cons, List.cons_append, goF, hw]
    simp only
    rw [read_att ha.1 ha.2 h1 h2]
    simp only [if_true]
    rw [goF_att l { s with att := s.att ++ [plainA a] } rest (fun x hx => h x (by simp [hx])) h1 h2]
    simp
theorem goF_crash : ∀ (l : List Cr) (s : Scr), (∀ c ∈ l, nb c.step ∧ nb c.keep) → goF s (l.map fun c => joinSp (crWs c)) = some { s with crs := s.crs ++ l }
  | [], s, _ => by simp [goF]
  | c :: l, s, h => by
    have hc := h c (by simp)
    have hw := wordsF_of (ws := crWs c) (by simp [crWs]) (crWs_pl hc)
    rw [List.map_cons, goF, hw]
    simp only
    rw [read_crash hc]
    simp only [if_true]
    rw [goF_crash l _ (fun x hx => h x (by simp [hx]))]
    simp
theorem join_pr : ∀ ws : List (List UInt8), (∀ w ∈ ws, plW w) → (joinSp ws).all prB = true
  | [], _ => rfl
  | [w], h => by
    have hp := h w (by simp)
    rw [joinSp, List.all_eq_true]
    intro b hb
    have := of_decide_eq_true (hp.2 b hb).1
    exact decide_eq_true ⟨by omega, by omega⟩
  | w :: x :: r, h => by
    have ih := join_pr (x :: r) (fun v hv => h v (by simp at hv ⊢; rcases hv with hv | hv <;> simp [hv]))
    have hj : joinSp (w :: x :: r) = w ++ 32 :: joinSp (x :: r) := by simp [joinSp]
    have hp := h w (by simp)
    rw [hj, List.all_append, List.all_cons, ih]
    have : w.all prB = true := by
      rw [List.all_eq_true]
      intro b hb
      have := of_decide_eq_true (hp.2 b hb).1
      exact decide_eq_true ⟨by omega, by omega⟩
    rw [this]; decide
def linesT (s : Scr) : List (List UInt8) := (s.att.map fun a => joinSp (attWs a)) ++ ((if s.loop then [joinSp [loopW]] else []) ++ s.crs.map fun c => joinSp (crWs c))
theorem txt_lines (s : Scr) : scrTxt s = unlines (linesT s) := by
  obtain ⟨l, lp, c⟩ := s
  cases lp <;> simp [scrTxt, linesT, unlines, lineT, List.flatMap, Function.comp_def]
def OKs (s : Scr) : Prop := (∀ a ∈ s.att, OKa a) ∧ ∀ c ∈ s.crs, nb c.step ∧ nb c.keep
theorem par_txt {s : Scr} (h : OKs s) : parF (scrTxt s) = if scrOK (plainF s) = true then (plainF s, 0) else (scr0, 5) := by
  obtain ⟨hA, hC⟩ := h
  have hl : linesF (scrTxt s) = some (linesT s) := by
    rw [txt_lines]
    refine lines_unlines _ fun w hw => ?_
    simp only [linesT, List.mem_append, List.mem_map] at hw
    rcases hw with ⟨a, ha, rfl⟩ | hw | ⟨c, hc, rfl⟩
    · exact join_pr _ (attWs_pl (hA a ha))
    · split at hw
      · have : w = joinSp [loopW] := by simpa using hw
        rw [this]; decide
      · cases hw
    · exact join_pr _ (crWs_pl (hC c hc))
  have hg : goF scr0 (linesT s) = some (plainF s) := by
    rw [linesT, goF_att s.att scr0 _ hA rfl rfl]
    cases hlp : s.loop with
    | false =>
      simp only [Bool.false_eq_true, if_false, List.nil_append]
      rw [goF_crash _ _ hC]
      simp [plainF, scr0, hlp]
    | true =>
      simp only [if_true, List.cons_append, List.nil_append]
      rw [goF, wordsF_of (ws := [loopW]) (by simp) (by intro w hw; have : w = loopW := by simpa using hw
                                                       rw [this]; exact ⟨by decide, by decide⟩)]
      simp only
      rw [read_loop (by rfl) (by rfl)]
      simp only [if_true]
      rw [goF_crash _ _ hC]
      simp [plainF, scr0, hlp]
  rw [parF, hl]
  simp only
  rw [hg]
end Go.SC

import Derived.Test.YtmgfnlnomecbiaaDoorKM
set_option linter.all false
open Go.Proofs Go.Abs Go.Fa Go.BU Go.TX Go.TW
/- A line left out, repeated, exchanged. -/
namespace Go.CF
set_option maxHeartbeats 4000000
set_option maxRecDepth 10000
theorem Wk.frzSlot {N : Nat} {env : Nat → M} {B : Bx} {n t q k sz : Nat} {tg : TypeId} {fz : Bool} {l : List (List D)} (ht : env t = .hsl q k) (hq : B.get q = some (.ar fz sz (pure2 l) tg)) (hl : l.length = k) :
    Wk N env B n (upd env t (.d (.sl sz l))) (B.set q (.ar true sz (pure2 l))) n := fun w Γ a hr => by
  subst hl
  have hm := hr.er.slot t
  rw [ht] at hm
  obtain ⟨Γ', e1, w1, u1, d1⟩ := hr.wr.snap hq hm
  have h2 := hr.er.ext e1 hr.wr.lt
  refine ⟨Γ', e1, w1, ⟨h2.defers, h2.size, fun s => ?_⟩, fun r hr' => by rw [u1] at hr'; exact hr.lt r hr'⟩
  simp only [upd]
  split
  · rename_i e; subst e; exact .d d1
  · exact h2.slot s
theorem loopL_frz {P : Program} {N : Nat} {prs : Prs} {env : Nat → M} {B : Bx} {n : Nat} {Q : QT} {σ : Type} {live : σ → List (Nat × M)} {bx : σ → Bx} {ok : σ → Prop} {μ : σ → Nat} {lo m : Nat} {t q k sz : Nat} {tg : TypeId} {fz : Bool} {l : List (List D)} (s : σ)
    (ht : env t = .hsl q k) (hq : B.get q = some (.ar fz sz (pure2 l) tg)) (hl : l.length = k) (h1 : lvOK (upd env t (.d (.sl sz l))) (live s)) (h2 : subOK (B.set q (.ar true sz (pure2 l))) (bx s)) (h3 : ok s) (hlo : lo ≤ n) (h4 : μ s < m) :
    loopL live bx ok μ lo N m Q .normal env B n :=
  ⟨s, _, bx s, n, (Wk.frzSlot ht hq hl).trans (Wk.sub (subOK_sub h2)), ⟨h1, rfl, h3, hlo⟩, h4⟩
/-- The lines of a text, each with its end. -/
def lns : List UInt8 → List UInt8 → List (List UInt8)
  | [], _ => []
  | x :: r, cur => if x = 10 then (cur ++ [10]) :: lns r [] else lns r (cur ++ [x])
theorem lns_line : ∀ (w cur r : List UInt8), 10 ∉ w → lns (w ++ 10 :: r) cur = (cur ++ w ++ [10]) :: lns r []
  | [], cur, r, _ => by simp [lns]
  | x :: w, cur, r, h => by
    have hx : x ≠ 10 := fun e => h (by simp [e])
    rw [List.cons_append, lns, if_neg hx, lns_line w (cur ++ [x]) r (fun hh => h (by simp [hh]))]
    simp
theorem lns_lines : ∀ L : Rows, (∀ r ∈ L, 10 ∉ joinSp r) → lns ((L.map lnT).flatten) [] = L.map lnT
  | [], _ => rfl
  | r :: L, h => by
    have ih := lns_lines L (fun x hx => h x (by simp [hx]))
    have e : ((r :: L).map lnT).flatten = joinSp r ++ 10 :: (L.map lnT).flatten := by simp [lnT]
    rw [e, lns_line _ _ _ (h r (by simp)), ih]
    simp [lnT]
theorem flat_unlines (L : Rows) : (L.map lnT).flatten = unlines (L.map joinSp) := by
  simp [unlines, List.flatMap, Function.comp_def]
  rfl
theorem pl_no10 {r : List (List UInt8)} (h : ∀ w ∈ r, plW w) : 10 ∉ joinSp r := fun hm => by
  have := List.all_eq_true.1 (join_pr r h) 10 hm
  revert this; decide
theorem tail_head {c : Cfg} : ∀ r ∈ tailR c, r.getD 0 [] ≠ settingW := by
  intro r hr
  simp only [tailR, List.mem_cons, List.not_mem_nil, or_false] at hr
  rcases hr with rfl | rfl | rfl | rfl | rfl | rfl | rfl | rfl | rfl | rfl <;> simp [unitsW, retriesW, timeoutW, delayW, windowW, everyW, storeW, settingW]
theorem sets_stop {R : Rows} (h : ∀ r ∈ R, r.getD 0 [] ≠ settingW) : setsF R = ([], true, R) := by
  cases R with
  | nil => rfl
  | cons r R => rw [setsF, if_neg (fun hh => h r (by simp) hh.2)]
/-- Rows behind the settings that are no configuration. -/
theorem bad_rest {c : Cfg} (h : chkF c = 0) {R : Rows} (hm : ∀ r ∈ R, r ∈ tailR c) (hb : ¬ (R.length = 10 ∧ ∀ i, i < 10 → (rowV R i).isSome = true)) : parC (((c.set.map (fun s => [settingW, fmtS s]) ++ R).map lnT).flatten) = (cfg0, 1) := by
  have hp := row_pl h
  have hp' : ∀ r ∈ c.set.map (fun s => [settingW, fmtS s]) ++ R, r ≠ [] ∧ ∀ w ∈ r, plW w := fun r hr => hp r (by
    rcases List.mem_append.1 hr with hr | hr
    · exact List.mem_append_left _ hr
    · exact List.mem_append_right _ (hm r hr))
  obtain ⟨h1, h2, h3⟩ := rows_read hp'
  rw [flat_unlines, parC_eq, h1]
  simp only [Option.getD_some, Option.isSome_some, h2, h3, Bool.true_and, Bool.not_true]
  have hs := sets_ok c.set R (list_valid (chk0 h).1) (sets_stop fun r hr => tail_head r (hm r hr))
  refine par_bad fun hf => hb ?_
  have := hf.2.2
  rw [hs] at this
  exact this
theorem tail_row {c : Cfg} {i : Nat} (hi : i < 10) : ∃ (r : List (List UInt8)) (l : List Int), (tailR c)[i]? = some r ∧ r = wdsL.getD i [] :: l.map dec ∧ (4 ≤ i ∧ i ≤ 7 → l.getD 0 0 = (i : Int) - 3 ∧ 0 < l.length) := by
  have : i = 0 ∨ i = 1 ∨ i = 2 ∨ i = 3 ∨ i = 4 ∨ i = 5 ∨ i = 6 ∨ i = 7 ∨ i = 8 ∨ i = 9 := by omega
  rcases this with rfl | rfl | rfl | rfl | rfl | rfl | rfl | rfl | rfl | rfl
  · exact ⟨_, [c.first, c.last], rfl, rfl, fun h => by omega⟩
  · exact ⟨_, [c.ret], rfl, rfl, fun h => by omega⟩
  · exact ⟨_, [c.tmo], rfl, rfl, fun h => by omega⟩
  · exact ⟨_, [c.del], rfl, rfl, fun h => by omega⟩
  · exact ⟨_, [1, c.w0.f, c.w0.c], rfl, rfl, fun h => ⟨rfl, by simp⟩⟩
  · exact ⟨_, [2, c.w1.f, c.w1.c], rfl, rfl, fun h => ⟨rfl, by simp⟩⟩
  · exact ⟨_, [3, c.w2.f, c.w2.c], rfl, rfl, fun h => ⟨rfl, by simp⟩⟩
  · exact ⟨_, [4, c.w3.f, c.w3.c], rfl, rfl, fun h => ⟨rfl, by simp⟩⟩
  · exact ⟨_, [c.every], rfl, rfl, fun h => by omega⟩
  · exact ⟨_, [c.store], rfl, rfl, fun h => by omega⟩
theorem wds_ne : ∀ i k : Fin 10, wdsL.getD i.val [] = wdsL.getD k.val [] → i = k ∨ ((4 ≤ i.val ∧ i.val ≤ 7) ∧ 4 ≤ k.val ∧ k.val ≤ 7) := by decide +kernel
/-- Row k does not pass for row i. -/
theorem swap_bad {c : Cfg} {i k : Nat} (hi : i < 10) (hk : k < 10) (hne : i ≠ k) {R : Rows} (hR : R[i]? = (tailR c)[k]?) : (rowV R i).isSome = false := by
  obtain ⟨r, l, h1, h2, h3⟩ := tail_row (c := c) hk
  rw [h1] at hR
  have hg : R.getD i [] = r := by rw [List.getD_eq_getElem?_getD, hR]; rfl
  cases hs : (rowV R i).isSome with
  | false => rfl
  | true =>
    exfalso
    obtain ⟨l', _, hn, hq⟩ := rowV_some hs
    rw [hg] at hn
    obtain ⟨g1, g2, g3, g4⟩ := numR_some hn
    have hw : wdsL.getD i [] = wdsL.getD k [] := by rw [← g2, h2]; rfl
    rcases wds_ne ⟨i, hi⟩ ⟨k, hk⟩ hw with e | ⟨⟨a1, a2⟩, a3, a4⟩
    · exact hne (congrArg Fin.val e)
    · simp only at a1 a2 a3 a4
      obtain ⟨b1, b2⟩ := h3 ⟨a3, a4⟩
      have hsz : szsL.getD i 0 = 3 := by
        have : i = 4 ∨ i = 5 ∨ i = 6 ∨ i = 7 := by omega
        rcases this with rfl | rfl | rfl | rfl <;> rfl
      have h0 := Decidable.not_not.1 fun hh => hq ⟨hsz, hh⟩
      match l, b1, b2, h2 with
      | a :: l2, b1, _, h2 =>
        rw [g4, h2] at h0
        have b1 : a = (k : Int) - 3 := b1
        have h0' : (pdec (dec a)).1 = (i : Int) - 3 := h0
        rw [pdec_dec (by omega)] at h0'
        simp only at h0'
        omega
end Go.CF

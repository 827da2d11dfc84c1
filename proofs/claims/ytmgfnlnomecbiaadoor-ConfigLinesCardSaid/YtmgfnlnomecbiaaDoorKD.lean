import Derived.Test.YtmgfnlnomecbiaaDoorKB
import Derived.Test.YtmgfnlnomecbiaaDoorKC
set_option linter.all false
open Go.Proofs Go.Abs Go.Fa Go.BU Go.TX Go.TW
namespace Go.CF
set_option maxHeartbeats 4000000
set_option maxRecDepth 10000
-- rules: byteD, dstr, un1_str, iD, bD

theorem AFn.drop {P : Program} {f : FuncId} {args : List M} {B : Bx} {n : Nat} {K : KT} (h : AFn P f args B n fun m B' n' => ∃ B1, (∀ p x, Bx.get B1 p = some x → Bx.get B' p = some x) ∧ K m B1 n') : AFn P f args B n K :=
  ⟨h.1, fun Γ w vs h0 h1 h2 h3 => (h.2 Γ w vs h0 h1 h2 h3).mono fun e w' ⟨cv, Γ', m, B', n', he, ⟨B1, hs, hk⟩, hx, hw, hlt, hm⟩ => by
    obtain ⟨Γ2, e2, w2, u2, l2⟩ := hw.sub B1 hs
    exact ⟨cv, Γ2, m, B1, n', he, hk, hx.trans e2, w2, fun p hp => hlt p (by rw [← u2]; exact hp), hm.ext e2 hw.lt⟩⟩
theorem RK_take {L : Rows} (h : RK L) (b : Bool) (w : List UInt8) (k : Nat) : RK (takeF L b w k).1 := by
  unfold takeF
  split
  · rename_i row rest
    have hr : RK rest := ⟨by have := h.1; simp at this; omega, fun r hr => h.2 r (by simp [hr])⟩
    split
    · exact hr
    · exact h
  · exact h
theorem RK_sets : ∀ {L : Rows}, RK L → RK (setsF L).2.2
  | [], h => h
  | row :: rest, h => by
    have hr : RK rest := ⟨by have := h.1; simp at this; omega, fun r hr => h.2 r (by simp [hr])⟩
    rw [setsF]
    split
    · exact RK_sets hr
    · exact h
theorem sets_len : ∀ L : Rows, (setsF L).1.length ≤ L.length
  | [] => by simp [setsF]
  | row :: rest => by
    rw [setsF]
    split
    · have := sets_len rest; simp; omega
    · simp
theorem RK_words {b : List UInt8} (hb : b.length ≤ 300000) : RK (wordsL ((linesF b).getD [])) := by
  cases h : linesF b with
  | none => exact ⟨by simp [wordsL], by simp [wordsL]⟩
  | some ls =>
    have h1 := lines_join h
    have h2 := unlines_len ls
    have h3 := sum_len ls
    rw [← h1] at h2
    have hm : ∀ w ∈ ls, w.length ≤ b.length := fun w hw => by
      have h4 : w.length + 1 ≤ (ls.map fun w => w.length + 1).sum := by
        clear h1 h2 h3 h
        induction ls with
        | nil => cases hw
        | cons x l ih =>
          simp only [List.map_cons, List.sum_cons]
          rcases List.mem_cons.1 hw with rfl | h
          · omega
          · have := ih h; omega
      omega
    refine ⟨by simp [wordsL]; omega, fun row hrow => ?_⟩
    simp only [Option.getD_some, wordsL, List.mem_map] at hrow
    obtain ⟨l, hl, rfl⟩ := hrow
    have hll := hm l hl
    cases hw : wordsF l with
    | none => simp
    | some ws =>
      have g1 := words_len hw
      have g2 := sum_len ws
      refine ⟨by simp only [Option.getD_some]; omega, fun w hwm => ?_⟩
      simp only [Option.getD_some] at hwm
      have g3 : w.length + 1 ≤ (ws.map fun w => w.length + 1).sum := by
        clear g1 g2 hw
        induction ws with
        | nil => cases hwm
        | cons x l ih =>
          simp only [List.map_cons, List.sum_cons]
          rcases List.mem_cons.1 hwm with rfl | h
          · omega
          · have := ih h; omega
      omega
end Go.CF

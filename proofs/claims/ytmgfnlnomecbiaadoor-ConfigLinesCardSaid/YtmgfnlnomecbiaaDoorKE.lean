import Derived.Test.YtmgfnlnomecbiaaDoorKD
set_option linter.all false
open Go.Proofs Go.Abs Go.Fa Go.BU Go.TX Go.TW
namespace Go.CF
set_option maxHeartbeats 4000000
set_option maxRecDepth 10000
-- rules: byteD, dstr, un1_str, iD, bD

theorem un1_ptr {p o : Nat} {c : List M} : unpure1 (M.ptr p o :: c) = none := rfl
theorem frzUn_none {p k sz : Nat} {l : List (List M)} {B : Bx} : frzUn p k sz l B none = (.hsl p k, B) := rfl
structure WS where
  L : Rows
  b : Bool
  v : List Int
/-- What has been read behind k windows. -/
def wst (L : Rows) (b : Bool) : Nat → WS
  | 0 => ⟨L, b, [0, 0, 0, 0, 0, 0, 0, 0]⟩
  | k + 1 => ⟨(takeF (wst L b k).L (wst L b k).b windowW 3).1, (takeF (wst L b k).L (wst L b k).b windowW 3).2.1 || !decide (valF (takeF (wst L b k).L (wst L b k).b windowW 3) 0 0 = (k : Int) + 1),
      ((wst L b k).v.set (2 * k) (valF (takeF (wst L b k).L (wst L b k).b windowW 3) 1 ((wst L b k).v.getD (2 * k) 0))).set (2 * k + 1) (valF (takeF (wst L b k).L (wst L b k).b windowW 3) 2 ((wst L b k).v.getD (2 * k + 1) 0))⟩
theorem wst_succ (L : Rows) (b : Bool) (k : Nat) : wst L b (k + 1) = ⟨(takeF (wst L b k).L (wst L b k).b windowW 3).1, (takeF (wst L b k).L (wst L b k).b windowW 3).2.1 || !decide (valF (takeF (wst L b k).L (wst L b k).b windowW 3) 0 0 = (k : Int) + 1),
      ((wst L b k).v.set (2 * k) (valF (takeF (wst L b k).L (wst L b k).b windowW 3) 1 ((wst L b k).v.getD (2 * k) 0))).set (2 * k + 1) (valF (takeF (wst L b k).L (wst L b k).b windowW 3) 2 ((wst L b k).v.getD (2 * k + 1) 0))⟩ := rfl
theorem wst_len (L : Rows) (b : Bool) : ∀ k, (wst L b k).v.length = 8
  | 0 => rfl
  | k + 1 => by rw [wst]; simp [wst_len L b k]
theorem wst_RK {L : Rows} (h : RK L) (b : Bool) : ∀ k, RK (wst L b k).L
  | 0 => h
  | k + 1 => RK_take (wst_RK h b k) _ _ _
theorem list8 {v : List Int} (h : v.length = 8) : ∃ a1 a2 a3 a4 a5 a6 a7 a8, v = [a1, a2, a3, a4, a5, a6, a7, a8] := by
  match v, h with
  | [a1, a2, a3, a4, a5, a6, a7, a8], _ => exact ⟨a1, a2, a3, a4, a5, a6, a7, a8, rfl⟩
def cfg0 : Cfg := ⟨[], 0, 0, 0, 0, 0, ⟨0, 0⟩, ⟨0, 0⟩, ⟨0, 0⟩, ⟨0, 0⟩, 0, 0⟩
def mkC (s : List Stg) (x1 x2 x3 x4 x5 x6 : Rows × Bool × Option (List (List UInt8))) (v : List Int) : Cfg :=
  ⟨s, valF x1 0 0, valF x1 1 0, valF x2 0 0, valF x3 0 0, valF x4 0 0, ⟨v.getD 0 0, v.getD 1 0⟩, ⟨v.getD 2 0, v.getD 3 0⟩, ⟨v.getD 4 0, v.getD 5 0⟩, ⟨v.getD 6 0, v.getD 7 0⟩, valF x5 0 0, valF x6 0 0⟩
def finC (s : List Stg) (x1 x2 x3 x4 x5 x6 : Rows × Bool × Option (List (List UInt8))) (v : List Int) : Cfg × Int :=
  if x6.2.1 = true ∨ x6.1 ≠ [] then (cfg0, 1) else if chkF (mkC s x1 x2 x3 x4 x5 x6 v) = 0 then (mkC s x1 x2 x3 x4 x5 x6 v, 0) else (cfg0, chkF (mkC s x1 x2 x3 x4 x5 x6 v))
def parX1 (L : Rows) (bad : Bool) := takeF (setsF L).2.2 (bad || !(setsF L).2.1) unitsW 2
def parX2 (L : Rows) (bad : Bool) := takeF (parX1 L bad).1 (parX1 L bad).2.1 retriesW 1
def parX3 (L : Rows) (bad : Bool) := takeF (parX2 L bad).1 (parX2 L bad).2.1 timeoutW 1
def parX4 (L : Rows) (bad : Bool) := takeF (parX3 L bad).1 (parX3 L bad).2.1 delayW 1
def parS (L : Rows) (bad : Bool) := wst (parX4 L bad).1 (parX4 L bad).2.1 4
def parX5 (L : Rows) (bad : Bool) := takeF (parS L bad).L (parS L bad).b everyW 1
def parX6 (L : Rows) (bad : Bool) := takeF (parX5 L bad).1 (parX5 L bad).2.1 storeW 1
/-- What the rows say. -/
def parR (L : Rows) (bad : Bool) : Cfg × Int := finC (setsF L).1 (parX1 L bad) (parX2 L bad) (parX3 L bad) (parX4 L bad) (parX5 L bad) (parX6 L bad) (parS L bad).v
def parC (b : List UInt8) : Cfg × Int := parR (wordsL ((linesF b).getD [])) (!((linesF b).isSome && wordsK ((linesF b).getD [])))
theorem Parse (b : List UInt8) (hb : b.length ≤ 300000) : PFn Tryd.prog 40 [bsM b] (.tup [cfgM (parC b).1, iM (parC b).2]) := by
  unfold parC parR parX6 parX5 parS parX4 parX3 parX2 parX1
  (refine PFn.of (prs := [(12, [(10, 10)])]) Tryd.func40 rfl rfl mix (by kernel_rfl) rfl rfl ?_; simp only [Tryd.ntmps40, argUpd])
  simp only [↓ru, rv, rl, ry, tyf, iM, bM, bsM, cond_true, cond_false, Nat.reduceLT, Nat.reduceBEq, Nat.reduceAdd, Nat.reduceEqDiff, Nat.reduceMul, Nat.reduceLeDiff, Nat.reduceSub, Nat.reduceDiv, Int.reduceLE, Int.reduceLT, Int.reduceNeg, Int.reduceAdd, Int.reduceSub, Int.reduceMul, Int.reduceToNat, Int.reducePow, Int.reduceEq, ne_eq, reduceIte, byteD, dstr, un1_str, iD, bD]
  refine acall1_inl (NewReader b hb fun n' hn => ?_)
  obtain ⟨n0, rfl⟩ : ∃ n0, n' = n0 + 21 := ⟨n' - 21, by omega⟩
  have hK0 := RK_words hb
  generalize wordsL _ = L at hK0 ⊢
  generalize (!(_ && _)) = bad
  clear hn
  simp only [↓ru, rv, rl, ry, tyf, iM, bM, bsM, cond_true, cond_false, Nat.reduceLT, Nat.reduceBEq, Nat.reduceAdd, Nat.reduceEqDiff, Nat.reduceMul, Nat.reduceLeDiff, Nat.reduceSub, Nat.reduceDiv, Int.reduceLE, Int.reduceLT, Int.reduceNeg, Int.reduceAdd, Int.reduceSub, Int.reduceMul, Int.reduceToNat, Int.reducePow, Int.reduceEq, ne_eq, reduceIte, byteD, dstr, un1_str, iD, bD]
  refine acall1_inl (AFn.frzBox (p := 15) (j := 0) (q := 20) (sz := 1) (l := L.map rowD) (k := L.length) (c := [.hsl 20 L.length, bM bad]) (tg := 0) (tg2 := 0) (fz := false) (by simp only [↓ru, rv, rl, ry, tyf, iM, bM, bsM, cond_true, cond_false, Nat.reduceLT, Nat.reduceBEq, Nat.reduceAdd, Nat.reduceEqDiff, Nat.reduceMul, Nat.reduceLeDiff, Nat.reduceSub, Nat.reduceDiv, Int.reduceLE, Int.reduceLT, Int.reduceNeg, Int.reduceAdd, Int.reduceSub, Int.reduceMul, Int.reduceToNat, Int.reducePow, Int.reduceEq, ne_eq, reduceIte, byteD, dstr, un1_str, iD, bD]) rfl (by simp only [↓ru, rv, rl, ry, tyf, iM, bM, bsM, cond_true, cond_false, Nat.reduceLT, Nat.reduceBEq, Nat.reduceAdd, Nat.reduceEqDiff, Nat.reduceMul, Nat.reduceLeDiff, Nat.reduceSub, Nat.reduceDiv, Int.reduceLE, Int.reduceLT, Int.reduceNeg, Int.reduceAdd, Int.reduceSub, Int.reduceMul, Int.reduceToNat, Int.reducePow, Int.reduceEq, ne_eq, reduceIte, byteD, dstr, un1_str, iD, bD]) (by simp) ?_)
  refine Settings L bad hK0 (n0 := n0) (c := cfgZ) (X := .ar true 1 (pure2 (L.map rowD))) fun n1 hn1 => ?_
  have hK1 := RK_sets hK0
  have hsl := sets_len L
  have hLl := hK0.1
  generalize hx0 : setsF L = x0 at hK1 hsl ⊢
  generalize hb0 : (bad || !x0.2.1) = b0
  obtain ⟨L0, hL0⟩ : ∃ l, l = x0.2.2 := ⟨_, rfl⟩
  rw [← hL0] at hK1 ⊢
  have f1 : ∀ k, ¬ (n1 + k = n0 + 27) := fun k => by omega
  have f2 : ∀ k, ¬ (n1 + k = n0 + 22) := fun k => by omega
  have f4 : ∀ k, ¬ (n1 + k = 15) := fun k => by omega
  have f5 : ∀ k, ¬ (n1 + k = 0) := fun k => by omega
  have g1 : ∀ k, ¬ (n0 + 27 = n1 + k) := fun k => by omega
  have g2 : ∀ k, ¬ (n0 + 22 = n1 + k) := fun k => by omega
  have g4 : ∀ k, ¬ (15 = n1 + k) := fun k => by omega
  have g5 : ∀ k, ¬ (0 = n1 + k) := fun k => by omega
  rw [← Nat.add_zero n1]
  simp only [↓ru, rv, rl, ry, tyf, iM, bM, bsM, cond_true, cond_false, Nat.reduceLT, Nat.reduceBEq, Nat.reduceAdd, Nat.reduceEqDiff, Nat.reduceMul, Nat.reduceLeDiff, Nat.reduceSub, Nat.reduceDiv, Int.reduceLE, Int.reduceLT, Int.reduceNeg, Int.reduceAdd, Int.reduceSub, Int.reduceMul, Int.reduceToNat, Int.reducePow, Int.reduceEq, ne_eq, reduceIte, byteD, dstr, un1_str, iD, bD, f1, f2, f4, f5, g1, g2, g4, g5, un1_ptr, frzUn_none, Option.bind_none]
  refine acall1_inl (AFn.drop (Take2 L0 b0 unitsW hK1 (by decide) (p := n0 + 22) (fz := false) (c := [.hsl (n0 + 27) x0.1.length, iM 0, iM 0, iM 0, iM 0, iM 0, iM 0, iM 0, iM 0, iM 0, iM 0, iM 0, iM 0, iM 0, iM 0, iM 0]) (o := 1) (o2 := 2) (old := 0) (old2 := 0) (by simp only [↓ru, rv, rl, ry, tyf, iM, bM, bsM, cond_true, cond_false, Nat.reduceLT, Nat.reduceBEq, Nat.reduceAdd, Nat.reduceEqDiff, Nat.reduceMul, Nat.reduceLeDiff, Nat.reduceSub, Nat.reduceDiv, Int.reduceLE, Int.reduceLT, Int.reduceNeg, Int.reduceAdd, Int.reduceSub, Int.reduceMul, Int.reduceToNat, Int.reducePow, Int.reduceEq, ne_eq, reduceIte, byteD, dstr, un1_str, iD, bD, f1, f2, f4, f5, g1, g2, g4, g5]) (by simp only [↓ru, rv, rl, ry, tyf, iM, bM, bsM, cond_true, cond_false, Nat.reduceLT, Nat.reduceBEq, Nat.reduceAdd, Nat.reduceEqDiff, Nat.reduceMul, Nat.reduceLeDiff, Nat.reduceSub, Nat.reduceDiv, Int.reduceLE, Int.reduceLT, Int.reduceNeg, Int.reduceAdd, Int.reduceSub, Int.reduceMul, Int.reduceToNat, Int.reducePow, Int.reduceEq, ne_eq, reduceIte, byteD, dstr, un1_str, iD, bD, f1, f2, f4, f5, g1, g2, g4, g5]) (by simp only [↓ru, rv, rl, ry, tyf, iM, bM, bsM, cond_true, cond_false, Nat.reduceLT, Nat.reduceBEq, Nat.reduceAdd, Nat.reduceEqDiff, Nat.reduceMul, Nat.reduceLeDiff, Nat.reduceSub, Nat.reduceDiv, Int.reduceLE, Int.reduceLT, Int.reduceNeg, Int.reduceAdd, Int.reduceSub, Int.reduceMul, Int.reduceToNat, Int.reducePow, Int.reduceEq, ne_eq, reduceIte, byteD, dstr, un1_str, iD, bD, f1, f2, f4, f5, g1, g2, g4, g5]) rfl rfl (by decide) (by omega) (by omega) (by omega) (by omega) (by omega) (by omega) fun n2 hn2 => ⟨[(n0 + 27, .ar false 2 (pure2 (x0.1.map stgD))), (n0 + 22, .st [.hsl (n0 + 27) x0.1.length, iM (valF (takeF L0 b0 unitsW 2) 0 0), iM (valF (takeF L0 b0 unitsW 2) 1 0), iM 0, iM 0, iM 0, iM 0, iM 0, iM 0, iM 0, iM 0, iM 0, iM 0, iM 0, iM 0, iM 0]), (15, .st [rowsM (takeF L0 b0 unitsW 2).1, bM (takeF L0 b0 unitsW 2).2.1]), (0, cfgZ)], subOK_sub (by simp only [↓ru, rv, rl, ry, tyf, iM, bM, bsM, cond_true, cond_false, Nat.reduceLT, Nat.reduceBEq, Nat.reduceAdd, Nat.reduceEqDiff, Nat.reduceMul, Nat.reduceLeDiff, Nat.reduceSub, Nat.reduceDiv, Int.reduceLE, Int.reduceLT, Int.reduceNeg, Int.reduceAdd, Int.reduceSub, Int.reduceMul, Int.reduceToNat, Int.reducePow, Int.reduceEq, ne_eq, reduceIte, byteD, dstr, un1_str, iD, bD, f1, f2, f4, f5, g1, g2, g4, g5]), ?_⟩))
  have hK2 := RK_take hK1 b0 unitsW 2
  generalize hx1 : takeF L0 b0 unitsW 2 = x1 at hK2 ⊢
  clear f1 f2 f4 f5 g1 g2 g4 g5
  have f1 : ∀ k, ¬ (n2 + k = n0 + 27) := fun k => by omega
  have f2 : ∀ k, ¬ (n2 + k = n0 + 22) := fun k => by omega
  have f4 : ∀ k, ¬ (n2 + k = 15) := fun k => by omega
  have f5 : ∀ k, ¬ (n2 + k = 0) := fun k => by omega
  have g1 : ∀ k, ¬ (n0 + 27 = n2 + k) := fun k => by omega
  have g2 : ∀ k, ¬ (n0 + 22 = n2 + k) := fun k => by omega
  have g4 : ∀ k, ¬ (15 = n2 + k) := fun k => by omega
  have g5 : ∀ k, ¬ (0 = n2 + k) := fun k => by omega
  rw [← Nat.add_zero n2]
  simp only [↓ru, rv, rl, ry, tyf, iM, bM, bsM, cond_true, cond_false, Nat.reduceLT, Nat.reduceBEq, Nat.reduceAdd, Nat.reduceEqDiff, Nat.reduceMul, Nat.reduceLeDiff, Nat.reduceSub, Nat.reduceDiv, Int.reduceLE, Int.reduceLT, Int.reduceNeg, Int.reduceAdd, Int.reduceSub, Int.reduceMul, Int.reduceToNat, Int.reducePow, Int.reduceEq, ne_eq, reduceIte, byteD, dstr, un1_str, iD, bD, f1, f2, f4, f5, g1, g2, g4, g5, un1_ptr, frzUn_none, Option.bind_none]
  refine acall1_inl (AFn.drop (Take1 x1.1 x1.2.1 retriesW hK2 (by decide) (p := n0 + 22) (fz := false) (c := [.hsl (n0 + 27) x0.1.length, iM (valF x1 0 0), iM (valF x1 1 0), iM 0, iM 0, iM 0, iM 0, iM 0, iM 0, iM 0, iM 0, iM 0, iM 0, iM 0, iM 0, iM 0]) (o := 3) (old := 0) (by simp only [↓ru, rv, rl, ry, tyf, iM, bM, bsM, cond_true, cond_false, Nat.reduceLT, Nat.reduceBEq, Nat.reduceAdd, Nat.reduceEqDiff, Nat.reduceMul, Nat.reduceLeDiff, Nat.reduceSub, Nat.reduceDiv, Int.reduceLE, Int.reduceLT, Int.reduceNeg, Int.reduceAdd, Int.reduceSub, Int.reduceMul, Int.reduceToNat, Int.reducePow, Int.reduceEq, ne_eq, reduceIte, byteD, dstr, un1_str, iD, bD, f1, f2, f4, f5, g1, g2, g4, g5]) (by simp only [↓ru, rv, rl, ry, tyf, iM, bM, bsM, cond_true, cond_false, Nat.reduceLT, Nat.reduceBEq, Nat.reduceAdd, Nat.reduceEqDiff, Nat.reduceMul, Nat.reduceLeDiff, Nat.reduceSub, Nat.reduceDiv, Int.reduceLE, Int.reduceLT, Int.reduceNeg, Int.reduceAdd, Int.reduceSub, Int.reduceMul, Int.reduceToNat, Int.reducePow, Int.reduceEq, ne_eq, reduceIte, byteD, dstr, un1_str, iD, bD, f1, f2, f4, f5, g1, g2, g4, g5]) (by simp only [↓ru, rv, rl, ry, tyf, iM, bM, bsM, cond_true, cond_false, Nat.reduceLT, Nat.reduceBEq, Nat.reduceAdd, Nat.reduceEqDiff, Nat.reduceMul, Nat.reduceLeDiff, Nat.reduceSub, Nat.reduceDiv, Int.reduceLE, Int.reduceLT, Int.reduceNeg, Int.reduceAdd, Int.reduceSub, Int.reduceMul, Int.reduceToNat, Int.reducePow, Int.reduceEq, ne_eq, reduceIte, byteD, dstr, un1_str, iD, bD, f1, f2, f4, f5, g1, g2, g4, g5]) rfl (by omega) (by omega) (by omega) (by omega) (by omega) (by omega) fun n3 hn3 => ⟨[(n0 + 27, .ar false 2 (pure2 (x0.1.map stgD))), (n0 + 22, .st [.hsl (n0 + 27) x0.1.length, iM (valF x1 0 0), iM (valF x1 1 0), iM (valF (takeF x1.1 x1.2.1 retriesW 1) 0 0), iM 0, iM 0, iM 0, iM 0, iM 0, iM 0, iM 0, iM 0, iM 0, iM 0, iM 0, iM 0]), (15, .st [rowsM (takeF x1.1 x1.2.1 retriesW 1).1, bM (takeF x1.1 x1.2.1 retriesW 1).2.1]), (0, cfgZ)], subOK_sub (by simp only [↓ru, rv, rl, ry, tyf, iM, bM, bsM, cond_true, cond_false, Nat.reduceLT, Nat.reduceBEq, Nat.reduceAdd, Nat.reduceEqDiff, Nat.reduceMul, Nat.reduceLeDiff, Nat.reduceSub, Nat.reduceDiv, Int.reduceLE, Int.reduceLT, Int.reduceNeg, Int.reduceAdd, Int.reduceSub, Int.reduceMul, Int.reduceToNat, Int.reducePow, Int.reduceEq, ne_eq, reduceIte, byteD, dstr, un1_str, iD, bD, f1, f2, f4, f5, g1, g2, g4, g5]), ?_⟩))
  have hK3 := RK_take hK2 x1.2.1 retriesW 1
  generalize hx2 : takeF x1.1 x1.2.1 retriesW 1 = x2 at hK3 ⊢
  clear f1 f2 f4 f5 g1 g2 g4 g5
  have f1 : ∀ k, ¬ (n3 + k = n0 + 27) := fun k => by omega
  have f2 : ∀ k, ¬ (n3 + k = n0 + 22) := fun k => by omega
  have f4 : ∀ k, ¬ (n3 + k = 15) := fun k => by omega
  have f5 : ∀ k, ¬ (n3 + k = 0) := fun k => by omega
  have g1 : ∀ k, ¬ (n0 + 27 = n3 + k) := fun k => by omega
  have g2 : ∀ k, ¬ (n0 + 22 = n3 + k) := fun k => by omega
  have g4 : ∀ k, ¬ (15 = n3 + k) := fun k => by omega
  have g5 : ∀ k, ¬ (0 = n3 + k) := fun k => by omega
  rw [← Nat.add_zero n3]
  simp only [↓ru, rv, rl, ry, tyf, iM, bM, bsM, cond_true, cond_false, Nat.reduceLT, Nat.reduceBEq, Nat.reduceAdd, Nat.reduceEqDiff, Nat.reduceMul, Nat.reduceLeDiff, Nat.reduceSub, Nat.reduceDiv, Int.reduceLE, Int.reduceLT, Int.reduceNeg, Int.reduceAdd, Int.reduceSub, Int.reduceMul, Int.reduceToNat, Int.reducePow, Int.reduceEq, ne_eq, reduceIte, byteD, dstr, un1_str, iD, bD, f1, f2, f4, f5, g1, g2, g4, g5, un1_ptr, frzUn_none, Option.bind_none]
  refine acall1_inl (AFn.drop (Take1 x2.1 x2.2.1 timeoutW hK3 (by decide) (p := n0 + 22) (fz := false) (c := [.hsl (n0 + 27) x0.1.length, iM (valF x1 0 0), iM (valF x1 1 0), iM (valF x2 0 0), iM 0, iM 0, iM 0, iM 0, iM 0, iM 0, iM 0, iM 0, iM 0, iM 0, iM 0, iM 0]) (o := 4) (old := 0) (by simp only [↓ru, rv, rl, ry, tyf, iM, bM, bsM, cond_true, cond_false, Nat.reduceLT, Nat.reduceBEq, Nat.reduceAdd, Nat.reduceEqDiff, Nat.reduceMul, Nat.reduceLeDiff, Nat.reduceSub, Nat.reduceDiv, Int.reduceLE, Int.reduceLT, Int.reduceNeg, Int.reduceAdd, Int.reduceSub, Int.reduceMul, Int.reduceToNat, Int.reducePow, Int.reduceEq, ne_eq, reduceIte, byteD, dstr, un1_str, iD, bD, f1, f2, f4, f5, g1, g2, g4, g5]) (by simp only [↓ru, rv, rl, ry, tyf, iM, bM, bsM, cond_true, cond_false, Nat.reduceLT, Nat.reduceBEq, Nat.reduceAdd, Nat.reduceEqDiff, Nat.reduceMul, Nat.reduceLeDiff, Nat.reduceSub, Nat.reduceDiv, Int.reduceLE, Int.reduceLT, Int.reduceNeg, Int.reduceAdd, Int.reduceSub, Int.reduceMul, Int.reduceToNat, Int.reducePow, Int.reduceEq, ne_eq, reduceIte, byteD, dstr, un1_str, iD, bD, f1, f2, f4, f5, g1, g2, g4, g5]) (by simp only [↓ru, rv, rl, ry, tyf, iM, bM, bsM, cond_true, cond_false, Nat.reduceLT, Nat.reduceBEq, Nat.reduceAdd, Nat.reduceEqDiff, Nat.reduceMul, Nat.reduceLeDiff, Nat.reduceSub, Nat.reduceDiv, Int.reduceLE, Int.reduceLT, Int.reduceNeg, Int.reduceAdd, Int.reduceSub, Int.reduceMul, Int.reduceToNat, Int.reducePow, Int.reduceEq, ne_eq, reduceIte, byteD, dstr, un1_str, iD, bD, f1, f2, f4, f5, g1, g2, g4, g5]) rfl (by omega) (by omega) (by omega) (by omega) (by omega) (by omega) fun n4 hn4 => ⟨[(n0 + 27, .ar false 2 (pure2 (x0.1.map stgD))), (n0 + 22, .st [.hsl (n0 + 27) x0.1.length, iM (valF x1 0 0), iM (valF x1 1 0), iM (valF x2 0 0), iM (valF (takeF x2.1 x2.2.1 timeoutW 1) 0 0), iM 0, iM 0, iM 0, iM 0, iM 0, iM 0, iM 0, iM 0, iM 0, iM 0, iM 0]), (15, .st [rowsM (takeF x2.1 x2.2.1 timeoutW 1).1, bM (takeF x2.1 x2.2.1 timeoutW 1).2.1]), (0, cfgZ)], subOK_sub (by simp only [↓ru, rv, rl, ry, tyf, iM, bM, bsM, cond_true, cond_false, Nat.reduceLT, Nat.reduceBEq, Nat.reduceAdd, Nat.reduceEqDiff, Nat.reduceMul, Nat.reduceLeDiff, Nat.reduceSub, Nat.reduceDiv, Int.reduceLE, Int.reduceLT, Int.reduceNeg, Int.reduceAdd, Int.reduceSub, Int.reduceMul, Int.reduceToNat, Int.reducePow, Int.reduceEq, ne_eq, reduceIte, byteD, dstr, un1_str, iD, bD, f1, f2, f4, f5, g1, g2, g4, g5]), ?_⟩))
  have hK4 := RK_take hK3 x2.2.1 timeoutW 1
  generalize hx3 : takeF x2.1 x2.2.1 timeoutW 1 = x3 at hK4 ⊢
  clear f1 f2 f4 f5 g1 g2 g4 g5
  have f1 : ∀ k, ¬ (n4 + k = n0 + 27) := fun k => by omega
  have f2 : ∀ k, ¬ (n4 + k = n0 + 22) := fun k => by omega
  have f4 : ∀ k, ¬ (n4 + k = 15) := fun k => by omega
  have f5 : ∀ k, ¬ (n4 + k = 0) := fun k => by omega
  have g1 : ∀ k, ¬ (n0 + 27 = n4 + k) := fun k => by omega
  have g2 : ∀ k, ¬ (n0 + 22 = n4 + k) := fun k => by omega
  have g4 : ∀ k, ¬ (15 = n4 + k) := fun k => by omega
  have g5 : ∀ k, ¬ (0 = n4 + k) := fun k => by omega
  rw [← Nat.add_zero n4]
  simp only [↓ru, rv, rl, ry, tyf, iM, bM, bsM, cond_true, cond_false, Nat.reduceLT, Nat.reduceBEq, Nat.reduceAdd, Nat.reduceEqDiff, Nat.reduceMul, Nat.reduceLeDiff, Nat.reduceSub, Nat.reduceDiv, Int.reduceLE, Int.reduceLT, Int.reduceNeg, Int.reduceAdd, Int.reduceSub, Int.reduceMul, Int.reduceToNat, Int.reducePow, Int.reduceEq, ne_eq, reduceIte, byteD, dstr, un1_str, iD, bD, f1, f2, f4, f5, g1, g2, g4, g5, un1_ptr, frzUn_none, Option.bind_none]
  refine acall1_inl (AFn.drop (Take1 x3.1 x3.2.1 delayW hK4 (by decide) (p := n0 + 22) (fz := false) (c := [.hsl (n0 + 27) x0.1.length, iM (valF x1 0 0), iM (valF x1 1 0), iM (valF x2 0 0), iM (valF x3 0 0), iM 0, iM 0, iM 0, iM 0, iM 0, iM 0, iM 0, iM 0, iM 0, iM 0, iM 0]) (o := 5) (old := 0) (by simp only [↓ru, rv, rl, ry, tyf, iM, bM, bsM, cond_true, cond_false, Nat.reduceLT, Nat.reduceBEq, Nat.reduceAdd, Nat.reduceEqDiff, Nat.reduceMul, Nat.reduceLeDiff, Nat.reduceSub, Nat.reduceDiv, Int.reduceLE, Int.reduceLT, Int.reduceNeg, Int.reduceAdd, Int.reduceSub, Int.reduceMul, Int.reduceToNat, Int.reducePow, Int.reduceEq, ne_eq, reduceIte, byteD, dstr, un1_str, iD, bD, f1, f2, f4, f5, g1, g2, g4, g5]) (by simp only [↓ru, rv, rl, ry, tyf, iM, bM, bsM, cond_true, cond_false, Nat.reduceLT, Nat.reduceBEq, Nat.reduceAdd, Nat.reduceEqDiff, Nat.reduceMul, Nat.reduceLeDiff, Nat.reduceSub, Nat.reduceDiv, Int.reduceLE, Int.reduceLT, Int.reduceNeg, Int.reduceAdd, Int.reduceSub, Int.reduceMul, Int.reduceToNat, Int.reducePow, Int.reduceEq, ne_eq, reduceIte, byteD, dstr, un1_str, iD, bD, f1, f2, f4, f5, g1, g2, g4, g5]) (by simp only [↓ru, rv, rl, ry, tyf, iM, bM, bsM, cond_true, cond_false, Nat.reduceLT, Nat.reduceBEq, Nat.reduceAdd, Nat.reduceEqDiff, Nat.reduceMul, Nat.reduceLeDiff, Nat.reduceSub, Nat.reduceDiv, Int.reduceLE, Int.reduceLT, Int.reduceNeg, Int.reduceAdd, Int.reduceSub, Int.reduceMul, Int.reduceToNat, Int.reducePow, Int.reduceEq, ne_eq, reduceIte, byteD, dstr, un1_str, iD, bD, f1, f2, f4, f5, g1, g2, g4, g5]) rfl (by omega) (by omega) (by omega) (by omega) (by omega) (by omega) fun n5 hn5 => ⟨[(n0 + 27, .ar false 2 (pure2 (x0.1.map stgD))), (n0 + 22, .st [.hsl (n0 + 27) x0.1.length, iM (valF x1 0 0), iM (valF x1 1 0), iM (valF x2 0 0), iM (valF x3 0 0), iM (valF (takeF x3.1 x3.2.1 delayW 1) 0 0), iM 0, iM 0, iM 0, iM 0, iM 0, iM 0, iM 0, iM 0, iM 0, iM 0]), (15, .st [rowsM (takeF x3.1 x3.2.1 delayW 1).1, bM (takeF x3.1 x3.2.1 delayW 1).2.1]), (0, cfgZ)], subOK_sub (by simp only [↓ru, rv, rl, ry, tyf, iM, bM, bsM, cond_true, cond_false, Nat.reduceLT, Nat.reduceBEq, Nat.reduceAdd, Nat.reduceEqDiff, Nat.reduceMul, Nat.reduceLeDiff, Nat.reduceSub, Nat.reduceDiv, Int.reduceLE, Int.reduceLT, Int.reduceNeg, Int.reduceAdd, Int.reduceSub, Int.reduceMul, Int.reduceToNat, Int.reducePow, Int.reduceEq, ne_eq, reduceIte, byteD, dstr, un1_str, iD, bD, f1, f2, f4, f5, g1, g2, g4, g5]), ?_⟩))
  have hK5 := RK_take hK4 x3.2.1 delayW 1
  generalize hx4 : takeF x3.1 x3.2.1 delayW 1 = x4 at hK5 ⊢
  clear f1 f2 f4 f5 g1 g2 g4 g5
  have f1 : ∀ k, ¬ (n5 + k = n0 + 27) := fun k => by omega
  have f2 : ∀ k, ¬ (n5 + k = n0 + 22) := fun k => by omega
  have f4 : ∀ k, ¬ (n5 + k = 15) := fun k => by omega
  have f5 : ∀ k, ¬ (n5 + k = 0) := fun k => by omega
  have g1 : ∀ k, ¬ (n0 + 27 = n5 + k) := fun k => by omega
  have g2 : ∀ k, ¬ (n0 + 22 = n5 + k) := fun k => by omega
  have g4 : ∀ k, ¬ (15 = n5 + k) := fun k => by omega
  have g5 : ∀ k, ¬ (0 = n5 + k) := fun k => by omega
  rw [← Nat.add_zero n5]
  simp only [↓ru, rv, rl, ry, tyf, iM, bM, bsM, cond_true, cond_false, Nat.reduceLT, Nat.reduceBEq, Nat.reduceAdd, Nat.reduceEqDiff, Nat.reduceMul, Nat.reduceLeDiff, Nat.reduceSub, Nat.reduceDiv, Int.reduceLE, Int.reduceLT, Int.reduceNeg, Int.reduceAdd, Int.reduceSub, Int.reduceMul, Int.reduceToNat, Int.reducePow, Int.reduceEq, ne_eq, reduceIte, byteD, dstr, un1_str, iD, bD, f1, f2, f4, f5, g1, g2, g4, g5, un1_ptr, frzUn_none, Option.bind_none]
  clear f1 f2 f4 f5 g1 g2 g4 g5
  have hKw := wst_RK hK5 x4.2.1
  have hlw := wst_len x4.1 x4.2.1
  have hs0 : wst x4.1 x4.2.1 0 = ⟨x4.1, x4.2.1, [0, 0, 0, 0, 0, 0, 0, 0]⟩ := rfl
  have hsS := wst_succ x4.1 x4.2.1
  refine aloop_lv (fun k : Nat => [(2, .ptr 0 0), (3, iM 0), (4, .ptr 15 0), (5, .ptr (n0 + 22) 0), (31, iM k)]) (fun k => [(n0 + 27, .ar false 2 (pure2 (x0.1.map stgD))), (n0 + 22, .st ([.hsl (n0 + 27) x0.1.length, iM (valF x1 0 0), iM (valF x1 1 0), iM (valF x2 0 0), iM (valF x3 0 0), iM (valF x4 0 0)] ++ ((wst x4.1 x4.2.1 k).v.map fun z => iM z) ++ [iM 0, iM 0])), (15, .st [rowsM (wst x4.1 x4.2.1 k).L, bM (wst x4.1 x4.2.1 k).b]), (0, cfgZ)]) (fun k => k ≤ 4) (fun k => 4 - k) (n0 + 28) 0 ?_ ?_ (by omega) (by omega) ?_
  · simp only [↓ru, rv, rl, ry, tyf, iM, bM, bsM, cond_true, cond_false, Nat.reduceLT, Nat.reduceBEq, Nat.reduceAdd, Nat.reduceEqDiff, Nat.reduceMul, Nat.reduceLeDiff, Nat.reduceSub, Nat.reduceDiv, Int.reduceLE, Int.reduceLT, Int.reduceNeg, Int.reduceAdd, Int.reduceSub, Int.reduceMul, Int.reduceToNat, Int.reducePow, Int.reduceEq, ne_eq, reduceIte, byteD, dstr, un1_str, iD, bD]
    try simp
  · rw [hs0]
    rfl
  intro k f0 n hk
  rw [show n + (n0 + 28) = n0 + (n + 28) by omega]
  generalize hm : n0 + (n + 28) = m
  have hm' : n0 + 28 ≤ m := by omega
  clear hm
  have f1 : ∀ k, ¬ (m + k = n0 + 27) := fun k => by omega
  have f2 : ∀ k, ¬ (m + k = n0 + 22) := fun k => by omega
  have f4 : ∀ k, ¬ (m + k = 15) := fun k => by omega
  have f5 : ∀ k, ¬ (m + k = 0) := fun k => by omega
  have g1 : ∀ k, ¬ (n0 + 27 = m + k) := fun k => by omega
  have g2 : ∀ k, ¬ (n0 + 22 = m + k) := fun k => by omega
  have g4 : ∀ k, ¬ (15 = m + k) := fun k => by omega
  have g5 : ∀ k, ¬ (0 = m + k) := fun k => by omega
  rw [← Nat.add_zero m]
  have hk4 : k = 0 ∨ k = 1 ∨ k = 2 ∨ k = 3 ∨ k = 4 := by omega
  rcases hk4 with rfl | rfl | rfl | rfl | rfl
  · have hKk := hKw 0
    obtain ⟨a1, a2, a3, a4, a5, a6, a7, a8, hv⟩ := list8 (hlw 0)
    have hS : wst x4.1 x4.2.1 1 = _ := hsS 0
    generalize wst x4.1 x4.2.1 0 = S at hKk hv hS ⊢
    obtain ⟨SL, sb, sv⟩ := S
    simp only at hv
    subst hv
    simp only [List.map_cons, List.map_nil, List.cons_append, List.nil_append]
    simp only [↓ru, rv, rl, ry, tyf, iM, bM, bsM, cond_true, cond_false, Nat.reduceLT, Nat.reduceBEq, Nat.reduceAdd, Nat.reduceEqDiff, Nat.reduceMul, Nat.reduceLeDiff, Nat.reduceSub, Nat.reduceDiv, Int.reduceLE, Int.reduceLT, Int.reduceNeg, Int.reduceAdd, Int.reduceSub, Int.reduceMul, Int.reduceToNat, Int.reducePow, Int.reduceEq, ne_eq, reduceIte, byteD, dstr, un1_str, iD, bD, f1, f2, f4, f5, g1, g2, g4, g5, un1_ptr, frzUn_none, Option.bind_none]
    refine ⟨by simp [noC], ?_⟩
    refine acall1_inl (AFn.drop (Take3 SL sb windowW hKk (by decide) (tb := m + 3) (p := n0 + 22) (fz := false) (c := [.hsl (n0 + 27) x0.1.length, iM (valF x1 0 0), iM (valF x1 1 0), iM (valF x2 0 0), iM (valF x3 0 0), iM (valF x4 0 0), iM a1, iM a2, iM a3, iM a4, iM a5, iM a6, iM a7, iM a8, iM 0, iM 0]) (o := 6) (o2 := 7) (old := a1) (old2 := a2) (by simp only [↓ru, rv, rl, ry, tyf, iM, bM, bsM, cond_true, cond_false, Nat.reduceLT, Nat.reduceBEq, Nat.reduceAdd, Nat.reduceEqDiff, Nat.reduceMul, Nat.reduceLeDiff, Nat.reduceSub, Nat.reduceDiv, Int.reduceLE, Int.reduceLT, Int.reduceNeg, Int.reduceAdd, Int.reduceSub, Int.reduceMul, Int.reduceToNat, Int.reducePow, Int.reduceEq, ne_eq, reduceIte, byteD, dstr, un1_str, iD, bD, f1, f2, f4, f5, g1, g2, g4, g5]) (by simp only [↓ru, rv, rl, ry, tyf, iM, bM, bsM, cond_true, cond_false, Nat.reduceLT, Nat.reduceBEq, Nat.reduceAdd, Nat.reduceEqDiff, Nat.reduceMul, Nat.reduceLeDiff, Nat.reduceSub, Nat.reduceDiv, Int.reduceLE, Int.reduceLT, Int.reduceNeg, Int.reduceAdd, Int.reduceSub, Int.reduceMul, Int.reduceToNat, Int.reducePow, Int.reduceEq, ne_eq, reduceIte, byteD, dstr, un1_str, iD, bD, f1, f2, f4, f5, g1, g2, g4, g5]) (by simp only [↓ru, rv, rl, ry, tyf, iM, bM, bsM, cond_true, cond_false, Nat.reduceLT, Nat.reduceBEq, Nat.reduceAdd, Nat.reduceEqDiff, Nat.reduceMul, Nat.reduceLeDiff, Nat.reduceSub, Nat.reduceDiv, Int.reduceLE, Int.reduceLT, Int.reduceNeg, Int.reduceAdd, Int.reduceSub, Int.reduceMul, Int.reduceToNat, Int.reducePow, Int.reduceEq, ne_eq, reduceIte, byteD, dstr, un1_str, iD, bD, f1, f2, f4, f5, g1, g2, g4, g5]) rfl rfl (by decide) (by simp only [↓ru, rv, rl, ry, tyf, iM, bM, bsM, cond_true, cond_false, Nat.reduceLT, Nat.reduceBEq, Nat.reduceAdd, Nat.reduceEqDiff, Nat.reduceMul, Nat.reduceLeDiff, Nat.reduceSub, Nat.reduceDiv, Int.reduceLE, Int.reduceLT, Int.reduceNeg, Int.reduceAdd, Int.reduceSub, Int.reduceMul, Int.reduceToNat, Int.reducePow, Int.reduceEq, ne_eq, reduceIte, byteD, dstr, un1_str, iD, bD, f1, f2, f4, f5, g1, g2, g4, g5]) (by omega) (by omega) (by omega) (by omega) (by omega) (by omega) (by omega) (by omega) (by omega) (by omega) (by omega) (by omega) fun m2 hm2 => ⟨[(m + 3, .st [iM (valF (takeF SL sb windowW 3) 0 0)]), (n0 + 27, .ar false 2 (pure2 (x0.1.map stgD))), (n0 + 22, .st [.hsl (n0 + 27) x0.1.length, iM (valF x1 0 0), iM (valF x1 1 0), iM (valF x2 0 0), iM (valF x3 0 0), iM (valF x4 0 0), iM (valF (takeF SL sb windowW 3) 1 a1), iM (valF (takeF SL sb windowW 3) 2 a2), iM (a3), iM (a4), iM (a5), iM (a6), iM (a7), iM (a8), iM 0, iM 0]), (15, .st [rowsM (takeF SL sb windowW 3).1, bM (takeF SL sb windowW 3).2.1]), (0, cfgZ)], subOK_sub (by simp only [↓ru, rv, rl, ry, tyf, iM, bM, bsM, cond_true, cond_false, Nat.reduceLT, Nat.reduceBEq, Nat.reduceAdd, Nat.reduceEqDiff, Nat.reduceMul, Nat.reduceLeDiff, Nat.reduceSub, Nat.reduceDiv, Int.reduceLE, Int.reduceLT, Int.reduceNeg, Int.reduceAdd, Int.reduceSub, Int.reduceMul, Int.reduceToNat, Int.reducePow, Int.reduceEq, ne_eq, reduceIte, byteD, dstr, un1_str, iD, bD, f1, f2, f4, f5, g1, g2, g4, g5]), ?_⟩))
    simp only at hS
    generalize (takeF SL sb windowW 3) = x at hS ⊢
    clear f1 f2 f4 f5 g1 g2 g4 g5
    have f1 : ∀ k, ¬ (m2 + k = n0 + 27) := fun k => by omega
    have f2 : ∀ k, ¬ (m2 + k = n0 + 22) := fun k => by omega
    have f4 : ∀ k, ¬ (m2 + k = 15) := fun k => by omega
    have f5 : ∀ k, ¬ (m2 + k = 0) := fun k => by omega
    have g1 : ∀ k, ¬ (n0 + 27 = m2 + k) := fun k => by omega
    have g2 : ∀ k, ¬ (n0 + 22 = m2 + k) := fun k => by omega
    have g4 : ∀ k, ¬ (15 = m2 + k) := fun k => by omega
    have g5 : ∀ k, ¬ (0 = m2 + k) := fun k => by omega
    have e1 : ∀ k, ¬ (m2 + k = m + 3) := fun k => by omega
    have e2 : ∀ k, ¬ (m + 3 = m2 + k) := fun k => by omega
    have e3 : ¬ (m + 3 = n0 + 27) := by omega
    have e4 : ¬ (m + 3 = n0 + 22) := by omega
    have e5 : ¬ (m + 3 = 15) := by omega
    have e6 : ¬ (m + 3 = 0) := by omega
    have wk : IntKind.i64.wrap 1 = 1 := by decide
    rw [← Nat.add_zero m2]
    obtain ⟨xL, xb, xo⟩ := x
    cases xb
    all_goals
      simp only [↓ru, rv, rl, ry, tyf, iM, bM, bsM, cond_true, cond_false, Nat.reduceLT, Nat.reduceBEq, Nat.reduceAdd, Nat.reduceEqDiff, Nat.reduceMul, Nat.reduceLeDiff, Nat.reduceSub, Nat.reduceDiv, Int.reduceLE, Int.reduceLT, Int.reduceNeg, Int.reduceAdd, Int.reduceSub, Int.reduceMul, Int.reduceToNat, Int.reducePow, Int.reduceEq, ne_eq, reduceIte, byteD, dstr, un1_str, iD, bD, f1, f2, f4, f5, g1, g2, g4, g5, e1, e2, e3, e4, e5, e6, un1_ptr, frzUn_none, Option.bind_none]
      try simp only [Bool.true_or, Bool.false_or, Nat.reduceMul, Nat.reduceAdd, List.set_cons_zero, List.set_cons_succ, List.getD_cons_zero, List.getD_cons_succ] at hS
      refine loopL_drop 1 ?_ ?_ (by decide) (by omega) (by decide)
      · simp only [↓ru, rv, rl, ry, tyf, iM, bM, bsM, cond_true, cond_false, Nat.reduceLT, Nat.reduceBEq, Nat.reduceAdd, Nat.reduceEqDiff, Nat.reduceMul, Nat.reduceLeDiff, Nat.reduceSub, Nat.reduceDiv, Int.reduceLE, Int.reduceLT, Int.reduceNeg, Int.reduceAdd, Int.reduceSub, Int.reduceMul, Int.reduceToNat, Int.reducePow, Int.reduceEq, ne_eq, reduceIte, byteD, dstr, un1_str, iD, bD, wk]
        try rfl
      · rw [hS]
        simp only [↓ru, rv, rl, ry, tyf, iM, bM, bsM, cond_true, cond_false, Nat.reduceLT, Nat.reduceBEq, Nat.reduceAdd, Nat.reduceEqDiff, Nat.reduceMul, Nat.reduceLeDiff, Nat.reduceSub, Nat.reduceDiv, Int.reduceLE, Int.reduceLT, Int.reduceNeg, Int.reduceAdd, Int.reduceSub, Int.reduceMul, Int.reduceToNat, Int.reducePow, Int.reduceEq, ne_eq, reduceIte, byteD, dstr, un1_str, iD, bD, f1, f2, f4, f5, g1, g2, g4, g5, e1, e2, e3, e4, e5, e6, wk]
        try simp [wk]
  · have hKk := hKw 1
    obtain ⟨a1, a2, a3, a4, a5, a6, a7, a8, hv⟩ := list8 (hlw 1)
    have hS : wst x4.1 x4.2.1 2 = _ := hsS 1
    generalize wst x4.1 x4.2.1 1 = S at hKk hv hS ⊢
    obtain ⟨SL, sb, sv⟩ := S
    simp only at hv
    subst hv
    simp only [List.map_cons, List.map_nil, List.cons_append, List.nil_append]
    simp only [↓ru, rv, rl, ry, tyf, iM, bM, bsM, cond_true, cond_false, Nat.reduceLT, Nat.reduceBEq, Nat.reduceAdd, Nat.reduceEqDiff, Nat.reduceMul, Nat.reduceLeDiff, Nat.reduceSub, Nat.reduceDiv, Int.reduceLE, Int.reduceLT, Int.reduceNeg, Int.reduceAdd, Int.reduceSub, Int.reduceMul, Int.reduceToNat, Int.reducePow, Int.reduceEq, ne_eq, reduceIte, byteD, dstr, un1_str, iD, bD, f1, f2, f4, f5, g1, g2, g4, g5, un1_ptr, frzUn_none, Option.bind_none]
    refine ⟨by simp [noC], ?_⟩
    refine acall1_inl (AFn.drop (Take3 SL sb windowW hKk (by decide) (tb := m + 3) (p := n0 + 22) (fz := false) (c := [.hsl (n0 + 27) x0.1.length, iM (valF x1 0 0), iM (valF x1 1 0), iM (valF x2 0 0), iM (valF x3 0 0), iM (valF x4 0 0), iM a1, iM a2, iM a3, iM a4, iM a5, iM a6, iM a7, iM a8, iM 0, iM 0]) (o := 8) (o2 := 9) (old := a3) (old2 := a4) (by simp only [↓ru, rv, rl, ry, tyf, iM, bM, bsM, cond_true, cond_false, Nat.reduceLT, Nat.reduceBEq, Nat.reduceAdd, Nat.reduceEqDiff, Nat.reduceMul, Nat.reduceLeDiff, Nat.reduceSub, Nat.reduceDiv, Int.reduceLE, Int.reduceLT, Int.reduceNeg, Int.reduceAdd, Int.reduceSub, Int.reduceMul, Int.reduceToNat, Int.reducePow, Int.reduceEq, ne_eq, reduceIte, byteD, dstr, un1_str, iD, bD, f1, f2, f4, f5, g1, g2, g4, g5]) (by simp only [↓ru, rv, rl, ry, tyf, iM, bM, bsM, cond_true, cond_false, Nat.reduceLT, Nat.reduceBEq, Nat.reduceAdd, Nat.reduceEqDiff, Nat.reduceMul, Nat.reduceLeDiff, Nat.reduceSub, Nat.reduceDiv, Int.reduceLE, Int.reduceLT, Int.reduceNeg, Int.reduceAdd, Int.reduceSub, Int.reduceMul, Int.reduceToNat, Int.reducePow, Int.reduceEq, ne_eq, reduceIte, byteD, dstr, un1_str, iD, bD, f1, f2, f4, f5, g1, g2, g4, g5]) (by simp only [↓ru, rv, rl, ry, tyf, iM, bM, bsM, cond_true, cond_false, Nat.reduceLT, Nat.reduceBEq, Nat.reduceAdd, Nat.reduceEqDiff, Nat.reduceMul, Nat.reduceLeDiff, Nat.reduceSub, Nat.reduceDiv, Int.reduceLE, Int.reduceLT, Int.reduceNeg, Int.reduceAdd, Int.reduceSub, Int.reduceMul, Int.reduceToNat, Int.reducePow, Int.reduceEq, ne_eq, reduceIte, byteD, dstr, un1_str, iD, bD, f1, f2, f4, f5, g1, g2, g4, g5]) rfl rfl (by decide) (by simp only [↓ru, rv, rl, ry, tyf, iM, bM, bsM, cond_true, cond_false, Nat.reduceLT, Nat.reduceBEq, Nat.reduceAdd, Nat.reduceEqDiff, Nat.reduceMul, Nat.reduceLeDiff, Nat.reduceSub, Nat.reduceDiv, Int.reduceLE, Int.reduceLT, Int.reduceNeg, Int.reduceAdd, Int.reduceSub, Int.reduceMul, Int.reduceToNat, Int.reducePow, Int.reduceEq, ne_eq, reduceIte, byteD, dstr, un1_str, iD, bD, f1, f2, f4, f5, g1, g2, g4, g5]) (by omega) (by omega) (by omega) (by omega) (by omega) (by omega) (by omega) (by omega) (by omega) (by omega) (by omega) (by omega) fun m2 hm2 => ⟨[(m + 3, .st [iM (valF (takeF SL sb windowW 3) 0 0)]), (n0 + 27, .ar false 2 (pure2 (x0.1.map stgD))), (n0 + 22, .st [.hsl (n0 + 27) x0.1.length, iM (valF x1 0 0), iM (valF x1 1 0), iM (valF x2 0 0), iM (valF x3 0 0), iM (valF x4 0 0), iM (a1), iM (a2), iM (valF (takeF SL sb windowW 3) 1 a3), iM (valF (takeF SL sb windowW 3) 2 a4), iM (a5), iM (a6), iM (a7), iM (a8), iM 0, iM 0]), (15, .st [rowsM (takeF SL sb windowW 3).1, bM (takeF SL sb windowW 3).2.1]), (0, cfgZ)], subOK_sub (by simp only [↓ru, rv, rl, ry, tyf, iM, bM, bsM, cond_true, cond_false, Nat.reduceLT, Nat.reduceBEq, Nat.reduceAdd, Nat.reduceEqDiff, Nat.reduceMul, Nat.reduceLeDiff, Nat.reduceSub, Nat.reduceDiv, Int.reduceLE, Int.reduceLT, Int.reduceNeg, Int.reduceAdd, Int.reduceSub, Int.reduceMul, Int.reduceToNat, Int.reducePow, Int.reduceEq, ne_eq, reduceIte, byteD, dstr, un1_str, iD, bD, f1, f2, f4, f5, g1, g2, g4, g5]), ?_⟩))
    simp only at hS
    generalize (takeF SL sb windowW 3) = x at hS ⊢
    clear f1 f2 f4 f5 g1 g2 g4 g5
    have f1 : ∀ k, ¬ (m2 + k = n0 + 27) := fun k => by omega
    have f2 : ∀ k, ¬ (m2 + k = n0 + 22) := fun k => by omega
    have f4 : ∀ k, ¬ (m2 + k = 15) := fun k => by omega
    have f5 : ∀ k, ¬ (m2 + k = 0) := fun k => by omega
    have g1 : ∀ k, ¬ (n0 + 27 = m2 + k) := fun k => by omega
    have g2 : ∀ k, ¬ (n0 + 22 = m2 + k) := fun k => by omega
    have g4 : ∀ k, ¬ (15 = m2 + k) := fun k => by omega
    have g5 : ∀ k, ¬ (0 = m2 + k) := fun k => by omega
    have e1 : ∀ k, ¬ (m2 + k = m + 3) := fun k => by omega
    have e2 : ∀ k, ¬ (m + 3 = m2 + k) := fun k => by omega
    have e3 : ¬ (m + 3 = n0 + 27) := by omega
    have e4 : ¬ (m + 3 = n0 + 22) := by omega
    have e5 : ¬ (m + 3 = 15) := by omega
    have e6 : ¬ (m + 3 = 0) := by omega
    have wk : IntKind.i64.wrap 2 = 2 := by decide
    rw [← Nat.add_zero m2]
    obtain ⟨xL, xb, xo⟩ := x
    cases xb
    all_goals
      simp only [↓ru, rv, rl, ry, tyf, iM, bM, bsM, cond_true, cond_false, Nat.reduceLT, Nat.reduceBEq, Nat.reduceAdd, Nat.reduceEqDiff, Nat.reduceMul, Nat.reduceLeDiff, Nat.reduceSub, Nat.reduceDiv, Int.reduceLE, Int.reduceLT, Int.reduceNeg, Int.reduceAdd, Int.reduceSub, Int.reduceMul, Int.reduceToNat, Int.reducePow, Int.reduceEq, ne_eq, reduceIte, byteD, dstr, un1_str, iD, bD, f1, f2, f4, f5, g1, g2, g4, g5, e1, e2, e3, e4, e5, e6, un1_ptr, frzUn_none, Option.bind_none]
      try simp only [Bool.true_or, Bool.false_or, Nat.reduceMul, Nat.reduceAdd, List.set_cons_zero, List.set_cons_succ, List.getD_cons_zero, List.getD_cons_succ] at hS
      refine loopL_drop 2 ?_ ?_ (by decide) (by omega) (by decide)
      · simp only [↓ru, rv, rl, ry, tyf, iM, bM, bsM, cond_true, cond_false, Nat.reduceLT, Nat.reduceBEq, Nat.reduceAdd, Nat.reduceEqDiff, Nat.reduceMul, Nat.reduceLeDiff, Nat.reduceSub, Nat.reduceDiv, Int.reduceLE, Int.reduceLT, Int.reduceNeg, Int.reduceAdd, Int.reduceSub, Int.reduceMul, Int.reduceToNat, Int.reducePow, Int.reduceEq, ne_eq, reduceIte, byteD, dstr, un1_str, iD, bD, wk]
        try rfl
      · rw [hS]
        simp only [↓ru, rv, rl, ry, tyf, iM, bM, bsM, cond_true, cond_false, Nat.reduceLT, Nat.reduceBEq, Nat.reduceAdd, Nat.reduceEqDiff, Nat.reduceMul, Nat.reduceLeDiff, Nat.reduceSub, Nat.reduceDiv, Int.reduceLE, Int.reduceLT, Int.reduceNeg, Int.reduceAdd, Int.reduceSub, Int.reduceMul, Int.reduceToNat, Int.reducePow, Int.reduceEq, ne_eq, reduceIte, byteD, dstr, un1_str, iD, bD, f1, f2, f4, f5, g1, g2, g4, g5, e1, e2, e3, e4, e5, e6, wk]
        try simp [wk]
  · have hKk := hKw 2
    obtain ⟨a1, a2, a3, a4, a5, a6, a7, a8, hv⟩ := list8 (hlw 2)
    have hS : wst x4.1 x4.2.1 3 = _ := hsS 2
    generalize wst x4.1 x4.2.1 2 = S at hKk hv hS ⊢
    obtain ⟨SL, sb, sv⟩ := S
    simp only at hv
    subst hv
    simp only [List.map_cons, List.map_nil, List.cons_append, List.nil_append]
    simp only [↓ru, rv, rl, ry, tyf, iM, bM, bsM, cond_true, cond_false, Nat.reduceLT, Nat.reduceBEq, Nat.reduceAdd, Nat.reduceEqDiff, Nat.reduceMul, Nat.reduceLeDiff, Nat.reduceSub, Nat.reduceDiv, Int.reduceLE, Int.reduceLT, Int.reduceNeg, Int.reduceAdd, Int.reduceSub, Int.reduceMul, Int.reduceToNat, Int.reducePow, Int.reduceEq, ne_eq, reduceIte, byteD, dstr, un1_str, iD, bD, f1, f2, f4, f5, g1, g2, g4, g5, un1_ptr, frzUn_none, Option.bind_none]
    refine ⟨by simp [noC], ?_⟩
    refine acall1_inl (AFn.drop (Take3 SL sb windowW hKk (by decide) (tb := m + 3) (p := n0 + 22) (fz := false) (c := [.hsl (n0 + 27) x0.1.length, iM (valF x1 0 0), iM (valF x1 1 0), iM (valF x2 0 0), iM (valF x3 0 0), iM (valF x4 0 0), iM a1, iM a2, iM a3, iM a4, iM a5, iM a6, iM a7, iM a8, iM 0, iM 0]) (o := 10) (o2 := 11) (old := a5) (old2 := a6) (by simp only [↓ru, rv, rl, ry, tyf, iM, bM, bsM, cond_true, cond_false, Nat.reduceLT, Nat.reduceBEq, Nat.reduceAdd, Nat.reduceEqDiff, Nat.reduceMul, Nat.reduceLeDiff, Nat.reduceSub, Nat.reduceDiv, Int.reduceLE, Int.reduceLT, Int.reduceNeg, Int.reduceAdd, Int.reduceSub, Int.reduceMul, Int.reduceToNat, Int.reducePow, Int.reduceEq, ne_eq, reduceIte, byteD, dstr, un1_str, iD, bD, f1, f2, f4, f5, g1, g2, g4, g5]) (by simp only [↓ru, rv, rl, ry, tyf, iM, bM, bsM, cond_true, cond_false, Nat.reduceLT, Nat.reduceBEq, Nat.reduceAdd, Nat.reduceEqDiff, Nat.reduceMul, Nat.reduceLeDiff, Nat.reduceSub, Nat.reduceDiv, Int.reduceLE, Int.reduceLT, Int.reduceNeg, Int.reduceAdd, Int.reduceSub, Int.reduceMul, Int.reduceToNat, Int.reducePow, Int.reduceEq, ne_eq, reduceIte, byteD, dstr, un1_str, iD, bD, f1, f2, f4, f5, g1, g2, g4, g5]) (by simp only [↓ru, rv, rl, ry, tyf, iM, bM, bsM, cond_true, cond_false, Nat.reduceLT, Nat.reduceBEq, Nat.reduceAdd, Nat.reduceEqDiff, Nat.reduceMul, Nat.reduceLeDiff, Nat.reduceSub, Nat.reduceDiv, Int.reduceLE, Int.reduceLT, Int.reduceNeg, Int.reduceAdd, Int.reduceSub, Int.reduceMul, Int.reduceToNat, Int.reducePow, Int.reduceEq, ne_eq, reduceIte, byteD, dstr, un1_str, iD, bD, f1, f2, f4, f5, g1, g2, g4, g5]) rfl rfl (by decide) (by simp only [↓ru, rv, rl, ry, tyf, iM, bM, bsM, cond_true, cond_false, Nat.reduceLT, Nat.reduceBEq, Nat.reduceAdd, Nat.reduceEqDiff, Nat.reduceMul, Nat.reduceLeDiff, Nat.reduceSub, Nat.reduceDiv, Int.reduceLE, Int.reduceLT, Int.reduceNeg, Int.reduceAdd, Int.reduceSub, Int.reduceMul, Int.reduceToNat, Int.reducePow, Int.reduceEq, ne_eq, reduceIte, byteD, dstr, un1_str, iD, bD, f1, f2, f4, f5, g1, g2, g4, g5]) (by omega) (by omega) (by omega) (by omega) (by omega) (by omega) (by omega) (by omega) (by omega) (by omega) (by omega) (by omega) fun m2 hm2 => ⟨[(m + 3, .st [iM (valF (takeF SL sb windowW 3) 0 0)]), (n0 + 27, .ar false 2 (pure2 (x0.1.map stgD))), (n0 + 22, .st [.hsl (n0 + 27) x0.1.length, iM (valF x1 0 0), iM (valF x1 1 0), iM (valF x2 0 0), iM (valF x3 0 0), iM (valF x4 0 0), iM (a1), iM (a2), iM (a3), iM (a4), iM (valF (takeF SL sb windowW 3) 1 a5), iM (valF (takeF SL sb windowW 3) 2 a6), iM (a7), iM (a8), iM 0, iM 0]), (15, .st [rowsM (takeF SL sb windowW 3).1, bM (takeF SL sb windowW 3).2.1]), (0, cfgZ)], subOK_sub (by simp only [↓ru, rv, rl, ry, tyf, iM, bM, bsM, cond_true, cond_false, Nat.reduceLT, Nat.reduceBEq, Nat.reduceAdd, Nat.reduceEqDiff, Nat.reduceMul, Nat.reduceLeDiff, Nat.reduceSub, Nat.reduceDiv, Int.reduceLE, Int.reduceLT, Int.reduceNeg, Int.reduceAdd, Int.reduceSub, Int.reduceMul, Int.reduceToNat, Int.reducePow, Int.reduceEq, ne_eq, reduceIte, byteD, dstr, un1_str, iD, bD, f1, f2, f4, f5, g1, g2, g4, g5]), ?_⟩))
    simp only at hS
    generalize (takeF SL sb windowW 3) = x at hS ⊢
    clear f1 f2 f4 f5 g1 g2 g4 g5
    have f1 : ∀ k, ¬ (m2 + k = n0 + 27) := fun k => by omega
    have f2 : ∀ k, ¬ (m2 + k = n0 + 22) := fun k => by omega
    have f4 : ∀ k, ¬ (m2 + k = 15) := fun k => by omega
    have f5 : ∀ k, ¬ (m2 + k = 0) := fun k => by omega
    have g1 : ∀ k, ¬ (n0 + 27 = m2 + k) := fun k => by omega
    have g2 : ∀ k, ¬ (n0 + 22 = m2 + k) := fun k => by omega
    have g4 : ∀ k, ¬ (15 = m2 + k) := fun k => by omega
    have g5 : ∀ k, ¬ (0 = m2 + k) := fun k => by omega
    have e1 : ∀ k, ¬ (m2 + k = m + 3) := fun k => by omega
    have e2 : ∀ k, ¬ (m + 3 = m2 + k) := fun k => by omega
    have e3 : ¬ (m + 3 = n0 + 27) := by omega
    have e4 : ¬ (m + 3 = n0 + 22) := by omega
    have e5 : ¬ (m + 3 = 15) := by omega
    have e6 : ¬ (m + 3 = 0) := by omega
    have wk : IntKind.i64.wrap 3 = 3 := by decide
    rw [← Nat.add_zero m2]
    obtain ⟨xL, xb, xo⟩ := x
    cases xb
    all_goals
      simp only [↓ru, rv, rl, ry, tyf, iM, bM, bsM, cond_true, cond_false, Nat.reduceLT, Nat.reduceBEq, Nat.reduceAdd, Nat.reduceEqDiff, Nat.reduceMul, Nat.reduceLeDiff, Nat.reduceSub, Nat.reduceDiv, Int.reduceLE, Int.reduceLT, Int.reduceNeg, Int.reduceAdd, Int.reduceSub, Int.reduceMul, Int.reduceToNat, Int.reducePow, Int.reduceEq, ne_eq, reduceIte, byteD, dstr, un1_str, iD, bD, f1, f2, f4, f5, g1, g2, g4, g5, e1, e2, e3, e4, e5, e6, un1_ptr, frzUn_none, Option.bind_none]
      try simp only [Bool.true_or, Bool.false_or, Nat.reduceMul, Nat.reduceAdd, List.set_cons_zero, List.set_cons_succ, List.getD_cons_zero, List.getD_cons_succ] at hS
      refine loopL_drop 3 ?_ ?_ (by decide) (by omega) (by decide)
      · simp only [↓ru, rv, rl, ry, tyf, iM, bM, bsM, cond_true, cond_false, Nat.reduceLT, Nat.reduceBEq, Nat.reduceAdd, Nat.reduceEqDiff, Nat.reduceMul, Nat.reduceLeDiff, Nat.reduceSub, Nat.reduceDiv, Int.reduceLE, Int.reduceLT, Int.reduceNeg, Int.reduceAdd, Int.reduceSub, Int.reduceMul, Int.reduceToNat, Int.reducePow, Int.reduceEq, ne_eq, reduceIte, byteD, dstr, un1_str, iD, bD, wk]
        try rfl
      · rw [hS]
        simp only [↓ru, rv, rl, ry, tyf, iM, bM, bsM, cond_true, cond_false, Nat.reduceLT, Nat.reduceBEq, Nat.reduceAdd, Nat.reduceEqDiff, Nat.reduceMul, Nat.reduceLeDiff, Nat.reduceSub, Nat.reduceDiv, Int.reduceLE, Int.reduceLT, Int.reduceNeg, Int.reduceAdd, Int.reduceSub, Int.reduceMul, Int.reduceToNat, Int.reducePow, Int.reduceEq, ne_eq, reduceIte, byteD, dstr, un1_str, iD, bD, f1, f2, f4, f5, g1, g2, g4, g5, e1, e2, e3, e4, e5, e6, wk]
        try simp [wk]
  · have hKk := hKw 3
    obtain ⟨a1, a2, a3, a4, a5, a6, a7, a8, hv⟩ := list8 (hlw 3)
    have hS : wst x4.1 x4.2.1 4 = _ := hsS 3
    generalize wst x4.1 x4.2.1 3 = S at hKk hv hS ⊢
    obtain ⟨SL, sb, sv⟩ := S
    simp only at hv
    subst hv
    simp only [List.map_cons, List.map_nil, List.cons_append, List.nil_append]
    simp only [↓ru, rv, rl, ry, tyf, iM, bM, bsM, cond_true, cond_false, Nat.reduceLT, Nat.reduceBEq, Nat.reduceAdd, Nat.reduceEqDiff, Nat.reduceMul, Nat.reduceLeDiff, Nat.reduceSub, Nat.reduceDiv, Int.reduceLE, Int.reduceLT, Int.reduceNeg, Int.reduceAdd, Int.reduceSub, Int.reduceMul, Int.reduceToNat, Int.reducePow, Int.reduceEq, ne_eq, reduceIte, byteD, dstr, un1_str, iD, bD, f1, f2, f4, f5, g1, g2, g4, g5, un1_ptr, frzUn_none, Option.bind_none]
    refine ⟨by simp [noC], ?_⟩
    refine acall1_inl (AFn.drop (Take3 SL sb windowW hKk (by decide) (tb := m + 3) (p := n0 + 22) (fz := false) (c := [.hsl (n0 + 27) x0.1.length, iM (valF x1 0 0), iM (valF x1 1 0), iM (valF x2 0 0), iM (valF x3 0 0), iM (valF x4 0 0), iM a1, iM a2, iM a3, iM a4, iM a5, iM a6, iM a7, iM a8, iM 0, iM 0]) (o := 12) (o2 := 13) (old := a7) (old2 := a8) (by simp only [↓ru, rv, rl, ry, tyf, iM, bM, bsM, cond_true, cond_false, Nat.reduceLT, Nat.reduceBEq, Nat.reduceAdd, Nat.reduceEqDiff, Nat.reduceMul, Nat.reduceLeDiff, Nat.reduceSub, Nat.reduceDiv, Int.reduceLE, Int.reduceLT, Int.reduceNeg, Int.reduceAdd, Int.reduceSub, Int.reduceMul, Int.reduceToNat, Int.reducePow, Int.reduceEq, ne_eq, reduceIte, byteD, dstr, un1_str, iD, bD, f1, f2, f4, f5, g1, g2, g4, g5]) (by simp only [↓ru, rv, rl, ry, tyf, iM, bM, bsM, cond_true, cond_false, Nat.reduceLT, Nat.reduceBEq, Nat.reduceAdd, Nat.reduceEqDiff, Nat.reduceMul, Nat.reduceLeDiff, Nat.reduceSub, Nat.reduceDiv, Int.reduceLE, Int.reduceLT, Int.reduceNeg, Int.reduceAdd, Int.reduceSub, Int.reduceMul, Int.reduceToNat, Int.reducePow, Int.reduceEq, ne_eq, reduceIte, byteD, dstr, un1_str, iD, bD, f1, f2, f4, f5, g1, g2, g4, g5]) (by simp only [↓ru, rv, rl, ry, tyf, iM, bM, bsM, cond_true, cond_false, Nat.reduceLT, Nat.reduceBEq, Nat.reduceAdd, Nat.reduceEqDiff, Nat.reduceMul, Nat.reduceLeDiff, Nat.reduceSub, Nat.reduceDiv, Int.reduceLE, Int.reduceLT, Int.reduceNeg, Int.reduceAdd, Int.reduceSub, Int.reduceMul, Int.reduceToNat, Int.reducePow, Int.reduceEq, ne_eq, reduceIte, byteD, dstr, un1_str, iD, bD, f1, f2, f4, f5, g1, g2, g4, g5]) rfl rfl (by decide) (by simp only [↓ru, rv, rl, ry, tyf, iM, bM, bsM, cond_true, cond_false, Nat.reduceLT, Nat.reduceBEq, Nat.reduceAdd, Nat.reduceEqDiff, Nat.reduceMul, Nat.reduceLeDiff, Nat.reduceSub, Nat.reduceDiv, Int.reduceLE, Int.reduceLT, Int.reduceNeg, Int.reduceAdd, Int.reduceSub, Int.reduceMul, Int.reduceToNat, Int.reducePow, Int.reduceEq, ne_eq, reduceIte, byteD, dstr, un1_str, iD, bD, f1, f2, f4, f5, g1, g2, g4, g5]) (by omega) (by omega) (by omega) (by omega) (by omega) (by omega) (by omega) (by omega) (by omega) (by omega) (by omega) (by omega) fun m2 hm2 => ⟨[(m + 3, .st [iM (valF (takeF SL sb windowW 3) 0 0)]), (n0 + 27, .ar false 2 (pure2 (x0.1.map stgD))), (n0 + 22, .st [.hsl (n0 + 27) x0.1.length, iM (valF x1 0 0), iM (valF x1 1 0), iM (valF x2 0 0), iM (valF x3 0 0), iM (valF x4 0 0), iM (a1), iM (a2), iM (a3), iM (a4), iM (a5), iM (a6), iM (valF (takeF SL sb windowW 3) 1 a7), iM (valF (takeF SL sb windowW 3) 2 a8), iM 0, iM 0]), (15, .st [rowsM (takeF SL sb windowW 3).1, bM (takeF SL sb windowW 3).2.1]), (0, cfgZ)], subOK_sub (by simp only [↓ru, rv, rl, ry, tyf, iM, bM, bsM, cond_true, cond_false, Nat.reduceLT, Nat.reduceBEq, Nat.reduceAdd, Nat.reduceEqDiff, Nat.reduceMul, Nat.reduceLeDiff, Nat.reduceSub, Nat.reduceDiv, Int.reduceLE, Int.reduceLT, Int.reduceNeg, Int.reduceAdd, Int.reduceSub, Int.reduceMul, Int.reduceToNat, Int.reducePow, Int.reduceEq, ne_eq, reduceIte, byteD, dstr, un1_str, iD, bD, f1, f2, f4, f5, g1, g2, g4, g5]), ?_⟩))
    simp only at hS
    generalize (takeF SL sb windowW 3) = x at hS ⊢
    clear f1 f2 f4 f5 g1 g2 g4 g5
    have f1 : ∀ k, ¬ (m2 + k = n0 + 27) := fun k => by omega
    have f2 : ∀ k, ¬ (m2 + k = n0 + 22) := fun k => by omega
    have f4 : ∀ k, ¬ (m2 + k = 15) := fun k => by omega
    have f5 : ∀ k, ¬ (m2 + k = 0) := fun k => by omega
    have g1 : ∀ k, ¬ (n0 + 27 = m2 + k) := fun k => by omega
    have g2 : ∀ k, ¬ (n0 + 22 = m2 + k) := fun k => by omega
    have g4 : ∀ k, ¬ (15 = m2 + k) := fun k => by omega
    have g5 : ∀ k, ¬ (0 = m2 + k) := fun k => by omega
    have e1 : ∀ k, ¬ (m2 + k = m + 3) := fun k => by omega
    have e2 : ∀ k, ¬ (m + 3 = m2 + k) := fun k => by omega
    have e3 : ¬ (m + 3 = n0 + 27) := by omega
    have e4 : ¬ (m + 3 = n0 + 22) := by omega
    have e5 : ¬ (m + 3 = 15) := by omega
    have e6 : ¬ (m + 3 = 0) := by omega
    have wk : IntKind.i64.wrap 4 = 4 := by decide
    rw [← Nat.add_zero m2]
    obtain ⟨xL, xb, xo⟩ := x
    cases xb
    all_goals
      simp only [↓ru, rv, rl, ry, tyf, iM, bM, bsM, cond_true, cond_false, Nat.reduceLT, Nat.reduceBEq, Nat.reduceAdd, Nat.reduceEqDiff, Nat.reduceMul, Nat.reduceLeDiff, Nat.reduceSub, Nat.reduceDiv, Int.reduceLE, Int.reduceLT, Int.reduceNeg, Int.reduceAdd, Int.reduceSub, Int.reduceMul, Int.reduceToNat, Int.reducePow, Int.reduceEq, ne_eq, reduceIte, byteD, dstr, un1_str, iD, bD, f1, f2, f4, f5, g1, g2, g4, g5, e1, e2, e3, e4, e5, e6, un1_ptr, frzUn_none, Option.bind_none]
      try simp only [Bool.true_or, Bool.false_or, Nat.reduceMul, Nat.reduceAdd, List.set_cons_zero, List.set_cons_succ, List.getD_cons_zero, List.getD_cons_succ] at hS
      refine loopL_drop 4 ?_ ?_ (by decide) (by omega) (by decide)
      · simp only [↓ru, rv, rl, ry, tyf, iM, bM, bsM, cond_true, cond_false, Nat.reduceLT, Nat.reduceBEq, Nat.reduceAdd, Nat.reduceEqDiff, Nat.reduceMul, Nat.reduceLeDiff, Nat.reduceSub, Nat.reduceDiv, Int.reduceLE, Int.reduceLT, Int.reduceNeg, Int.reduceAdd, Int.reduceSub, Int.reduceMul, Int.reduceToNat, Int.reducePow, Int.reduceEq, ne_eq, reduceIte, byteD, dstr, un1_str, iD, bD, wk]
        try rfl
      · rw [hS]
        simp only [↓ru, rv, rl, ry, tyf, iM, bM, bsM, cond_true, cond_false, Nat.reduceLT, Nat.reduceBEq, Nat.reduceAdd, Nat.reduceEqDiff, Nat.reduceMul, Nat.reduceLeDiff, Nat.reduceSub, Nat.reduceDiv, Int.reduceLE, Int.reduceLT, Int.reduceNeg, Int.reduceAdd, Int.reduceSub, Int.reduceMul, Int.reduceToNat, Int.reducePow, Int.reduceEq, ne_eq, reduceIte, byteD, dstr, un1_str, iD, bD, f1, f2, f4, f5, g1, g2, g4, g5, e1, e2, e3, e4, e5, e6, wk]
        try simp [wk]
  · clear hk
    have hKk := hKw 4
    obtain ⟨a1, a2, a3, a4, a5, a6, a7, a8, hv⟩ := list8 (hlw 4)
    generalize wst x4.1 x4.2.1 4 = S at hKk hv ⊢
    clear hKw hlw hs0 hsS
    obtain ⟨SL, sb, sv⟩ := S
    simp only at hv
    subst hv
    simp only [List.map_cons, List.map_nil, List.cons_append, List.nil_append]
    simp only [↓ru, rv, rl, ry, tyf, iM, bM, bsM, cond_true, cond_false, Nat.reduceLT, Nat.reduceBEq, Nat.reduceAdd, Nat.reduceEqDiff, Nat.reduceMul, Nat.reduceLeDiff, Nat.reduceSub, Nat.reduceDiv, Int.reduceLE, Int.reduceLT, Int.reduceNeg, Int.reduceAdd, Int.reduceSub, Int.reduceMul, Int.reduceToNat, Int.reducePow, Int.reduceEq, ne_eq, reduceIte, byteD, dstr, un1_str, iD, bD, f1, f2, f4, f5, g1, g2, g4, g5, un1_ptr, frzUn_none, Option.bind_none]
    refine acall1_inl (AFn.drop (Take1 SL sb everyW hKk (by decide) (p := n0 + 22) (fz := false) (c := [.hsl (n0 + 27) x0.1.length, iM (valF x1 0 0), iM (valF x1 1 0), iM (valF x2 0 0), iM (valF x3 0 0), iM (valF x4 0 0), iM a1, iM a2, iM a3, iM a4, iM a5, iM a6, iM a7, iM a8, iM 0, iM 0]) (o := 14) (old := 0) (by simp only [↓ru, rv, rl, ry, tyf, iM, bM, bsM, cond_true, cond_false, Nat.reduceLT, Nat.reduceBEq, Nat.reduceAdd, Nat.reduceEqDiff, Nat.reduceMul, Nat.reduceLeDiff, Nat.reduceSub, Nat.reduceDiv, Int.reduceLE, Int.reduceLT, Int.reduceNeg, Int.reduceAdd, Int.reduceSub, Int.reduceMul, Int.reduceToNat, Int.reducePow, Int.reduceEq, ne_eq, reduceIte, byteD, dstr, un1_str, iD, bD, f1, f2, f4, f5, g1, g2, g4, g5]) (by simp only [↓ru, rv, rl, ry, tyf, iM, bM, bsM, cond_true, cond_false, Nat.reduceLT, Nat.reduceBEq, Nat.reduceAdd, Nat.reduceEqDiff, Nat.reduceMul, Nat.reduceLeDiff, Nat.reduceSub, Nat.reduceDiv, Int.reduceLE, Int.reduceLT, Int.reduceNeg, Int.reduceAdd, Int.reduceSub, Int.reduceMul, Int.reduceToNat, Int.reducePow, Int.reduceEq, ne_eq, reduceIte, byteD, dstr, un1_str, iD, bD, f1, f2, f4, f5, g1, g2, g4, g5]) (by simp only [↓ru, rv, rl, ry, tyf, iM, bM, bsM, cond_true, cond_false, Nat.reduceLT, Nat.reduceBEq, Nat.reduceAdd, Nat.reduceEqDiff, Nat.reduceMul, Nat.reduceLeDiff, Nat.reduceSub, Nat.reduceDiv, Int.reduceLE, Int.reduceLT, Int.reduceNeg, Int.reduceAdd, Int.reduceSub, Int.reduceMul, Int.reduceToNat, Int.reducePow, Int.reduceEq, ne_eq, reduceIte, byteD, dstr, un1_str, iD, bD, f1, f2, f4, f5, g1, g2, g4, g5]) rfl (by omega) (by omega) (by omega) (by omega) (by omega) (by omega) fun n6 hn6 => ⟨[(n0 + 27, .ar false 2 (pure2 (x0.1.map stgD))), (n0 + 22, .st [.hsl (n0 + 27) x0.1.length, iM (valF x1 0 0), iM (valF x1 1 0), iM (valF x2 0 0), iM (valF x3 0 0), iM (valF x4 0 0), iM a1, iM a2, iM a3, iM a4, iM a5, iM a6, iM a7, iM a8, iM (valF (takeF SL sb everyW 1) 0 0), iM 0]), (15, .st [rowsM (takeF SL sb everyW 1).1, bM (takeF SL sb everyW 1).2.1]), (0, cfgZ)], subOK_sub (by simp only [↓ru, rv, rl, ry, tyf, iM, bM, bsM, cond_true, cond_false, Nat.reduceLT, Nat.reduceBEq, Nat.reduceAdd, Nat.reduceEqDiff, Nat.reduceMul, Nat.reduceLeDiff, Nat.reduceSub, Nat.reduceDiv, Int.reduceLE, Int.reduceLT, Int.reduceNeg, Int.reduceAdd, Int.reduceSub, Int.reduceMul, Int.reduceToNat, Int.reducePow, Int.reduceEq, ne_eq, reduceIte, byteD, dstr, un1_str, iD, bD, f1, f2, f4, f5, g1, g2, g4, g5]), ?_⟩))
    have hK6 := RK_take hKk sb everyW 1
    generalize hx5 : takeF SL sb everyW 1 = x5 at hK6 ⊢
    clear f1 f2 f4 f5 g1 g2 g4 g5
    have f1 : ∀ k, ¬ (n6 + k = n0 + 27) := fun k => by omega
    have f2 : ∀ k, ¬ (n6 + k = n0 + 22) := fun k => by omega
    have f4 : ∀ k, ¬ (n6 + k = 15) := fun k => by omega
    have f5 : ∀ k, ¬ (n6 + k = 0) := fun k => by omega
    have g1 : ∀ k, ¬ (n0 + 27 = n6 + k) := fun k => by omega
    have g2 : ∀ k, ¬ (n0 + 22 = n6 + k) := fun k => by omega
    have g4 : ∀ k, ¬ (15 = n6 + k) := fun k => by omega
    have g5 : ∀ k, ¬ (0 = n6 + k) := fun k => by omega
    rw [← Nat.add_zero n6]
    simp only [↓ru, rv, rl, ry, tyf, iM, bM, bsM, cond_true, cond_false, Nat.reduceLT, Nat.reduceBEq, Nat.reduceAdd, Nat.reduceEqDiff, Nat.reduceMul, Nat.reduceLeDiff, Nat.reduceSub, Nat.reduceDiv, Int.reduceLE, Int.reduceLT, Int.reduceNeg, Int.reduceAdd, Int.reduceSub, Int.reduceMul, Int.reduceToNat, Int.reducePow, Int.reduceEq, ne_eq, reduceIte, byteD, dstr, un1_str, iD, bD, f1, f2, f4, f5, g1, g2, g4, g5, un1_ptr, frzUn_none, Option.bind_none]
    refine acall1_inl (AFn.drop (Take1 x5.1 x5.2.1 storeW hK6 (by decide) (p := n0 + 22) (fz := false) (c := [.hsl (n0 + 27) x0.1.length, iM (valF x1 0 0), iM (valF x1 1 0), iM (valF x2 0 0), iM (valF x3 0 0), iM (valF x4 0 0), iM a1, iM a2, iM a3, iM a4, iM a5, iM a6, iM a7, iM a8, iM (valF x5 0 0), iM 0]) (o := 15) (old := 0) (by simp only [↓ru, rv, rl, ry, tyf, iM, bM, bsM, cond_true, cond_false, Nat.reduceLT, Nat.reduceBEq, Nat.reduceAdd, Nat.reduceEqDiff, Nat.reduceMul, Nat.reduceLeDiff, Nat.reduceSub, Nat.reduceDiv, Int.reduceLE, Int.reduceLT, Int.reduceNeg, Int.reduceAdd, Int.reduceSub, Int.reduceMul, Int.reduceToNat, Int.reducePow, Int.reduceEq, ne_eq, reduceIte, byteD, dstr, un1_str, iD, bD, f1, f2, f4, f5, g1, g2, g4, g5]) (by simp only [↓ru, rv, rl, ry, tyf, iM, bM, bsM, cond_true, cond_false, Nat.reduceLT, Nat.reduceBEq, Nat.reduceAdd, Nat.reduceEqDiff, Nat.reduceMul, Nat.reduceLeDiff, Nat.reduceSub, Nat.reduceDiv, Int.reduceLE, Int.reduceLT, Int.reduceNeg, Int.reduceAdd, Int.reduceSub, Int.reduceMul, Int.reduceToNat, Int.reducePow, Int.reduceEq, ne_eq, reduceIte, byteD, dstr, un1_str, iD, bD, f1, f2, f4, f5, g1, g2, g4, g5]) (by simp only [↓ru, rv, rl, ry, tyf, iM, bM, bsM, cond_true, cond_false, Nat.reduceLT, Nat.reduceBEq, Nat.reduceAdd, Nat.reduceEqDiff, Nat.reduceMul, Nat.reduceLeDiff, Nat.reduceSub, Nat.reduceDiv, Int.reduceLE, Int.reduceLT, Int.reduceNeg, Int.reduceAdd, Int.reduceSub, Int.reduceMul, Int.reduceToNat, Int.reducePow, Int.reduceEq, ne_eq, reduceIte, byteD, dstr, un1_str, iD, bD, f1, f2, f4, f5, g1, g2, g4, g5]) rfl (by omega) (by omega) (by omega) (by omega) (by omega) (by omega) fun n7 hn7 => ⟨[(n0 + 27, .ar false 2 (pure2 (x0.1.map stgD))), (n0 + 22, .st [.hsl (n0 + 27) x0.1.length, iM (valF x1 0 0), iM (valF x1 1 0), iM (valF x2 0 0), iM (valF x3 0 0), iM (valF x4 0 0), iM a1, iM a2, iM a3, iM a4, iM a5, iM a6, iM a7, iM a8, iM (valF x5 0 0), iM (valF (takeF x5.1 x5.2.1 storeW 1) 0 0)]), (15, .st [rowsM (takeF x5.1 x5.2.1 storeW 1).1, bM (takeF x5.1 x5.2.1 storeW 1).2.1]), (0, cfgZ)], subOK_sub (by simp only [↓ru, rv, rl, ry, tyf, iM, bM, bsM, cond_true, cond_false, Nat.reduceLT, Nat.reduceBEq, Nat.reduceAdd, Nat.reduceEqDiff, Nat.reduceMul, Nat.reduceLeDiff, Nat.reduceSub, Nat.reduceDiv, Int.reduceLE, Int.reduceLT, Int.reduceNeg, Int.reduceAdd, Int.reduceSub, Int.reduceMul, Int.reduceToNat, Int.reducePow, Int.reduceEq, ne_eq, reduceIte, byteD, dstr, un1_str, iD, bD, f1, f2, f4, f5, g1, g2, g4, g5]), ?_⟩))
    have hK7 := RK_take hK6 x5.2.1 storeW 1
    generalize hx6 : takeF x5.1 x5.2.1 storeW 1 = x6 at hK7 ⊢
    clear f1 f2 f4 f5 g1 g2 g4 g5
    have f1 : ∀ k, ¬ (n7 + k = n0 + 27) := fun k => by omega
    have f2 : ∀ k, ¬ (n7 + k = n0 + 22) := fun k => by omega
    have f4 : ∀ k, ¬ (n7 + k = 15) := fun k => by omega
    have f5 : ∀ k, ¬ (n7 + k = 0) := fun k => by omega
    have g1 : ∀ k, ¬ (n0 + 27 = n7 + k) := fun k => by omega
    have g2 : ∀ k, ¬ (n0 + 22 = n7 + k) := fun k => by omega
    have g4 : ∀ k, ¬ (15 = n7 + k) := fun k => by omega
    have g5 : ∀ k, ¬ (0 = n7 + k) := fun k => by omega
    rw [← Nat.add_zero n7]
    simp only [↓ru, rv, rl, ry, tyf, iM, bM, bsM, cond_true, cond_false, Nat.reduceLT, Nat.reduceBEq, Nat.reduceAdd, Nat.reduceEqDiff, Nat.reduceMul, Nat.reduceLeDiff, Nat.reduceSub, Nat.reduceDiv, Int.reduceLE, Int.reduceLT, Int.reduceNeg, Int.reduceAdd, Int.reduceSub, Int.reduceMul, Int.reduceToNat, Int.reducePow, Int.reduceEq, ne_eq, reduceIte, byteD, dstr, un1_str, iD, bD, f1, f2, f4, f5, g1, g2, g4, g5, un1_ptr, frzUn_none, Option.bind_none]
    unfold finC
    obtain ⟨xL, xb, xo⟩ := x6
    cases xb with
    | true =>
      rw [if_pos (.inl rfl)]
      (try (simp only [↓ru, rv, rl, ry, tyf, iM, bM, bsM, cond_true, cond_false, Nat.reduceLT, Nat.reduceBEq, Nat.reduceAdd, Nat.reduceEqDiff, Nat.reduceMul, Nat.reduceLeDiff, Nat.reduceSub, Nat.reduceDiv, Int.reduceLE, Int.reduceLT, Int.reduceNeg, Int.reduceAdd, Int.reduceSub, Int.reduceMul, Int.reduceToNat, Int.reducePow, Int.reduceEq, ne_eq, reduceIte, byteD, dstr, un1_str, iD, bD, f1, f2, f4, f5, g1, g2, g4, g5, pureEnd_of (fn := Tryd.f40) (rs := [.cell 2 53, .tmp 3]) (ts := [53, 37]) rfl rfl, *])); repeat' ((first | (refine fork_split (fun _h => ?_) (fun _h => ?_)) | (refine gfork_split (fun _h => ?_) (fun _h => ?_)) | (refine dfork_split (fun _h => ?_) (fun _h => ?_))) <;> (try (simp only [↓ru, rv, rl, ry, tyf, iM, bM, bsM, cond_true, cond_false, Nat.reduceLT, Nat.reduceBEq, Nat.reduceAdd, Nat.reduceEqDiff, Nat.reduceMul, Nat.reduceLeDiff, Nat.reduceSub, Nat.reduceDiv, Int.reduceLE, Int.reduceLT, Int.reduceNeg, Int.reduceAdd, Int.reduceSub, Int.reduceMul, Int.reduceToNat, Int.reducePow, Int.reduceEq, ne_eq, reduceIte, byteD, dstr, un1_str, iD, bD, f1, f2, f4, f5, g1, g2, g4, g5, pureEnd_of (fn := Tryd.f40) (rs := [.cell 2 53, .tmp 3]) (ts := [53, 37]) rfl rfl, *])))
      all_goals try rfl
    | false =>
      cases xL with
      | cons row rest =>
        rw [if_pos (.inr (by simp))]
        have d0 : decide ((0 : Int) < ((rest.length + 1 : Nat) : Int)) = true := decide_eq_true (by omega)
        (try (simp only [↓ru, rv, rl, ry, tyf, iM, bM, bsM, cond_true, cond_false, Nat.reduceLT, Nat.reduceBEq, Nat.reduceAdd, Nat.reduceEqDiff, Nat.reduceMul, Nat.reduceLeDiff, Nat.reduceSub, Nat.reduceDiv, Int.reduceLE, Int.reduceLT, Int.reduceNeg, Int.reduceAdd, Int.reduceSub, Int.reduceMul, Int.reduceToNat, Int.reducePow, Int.reduceEq, ne_eq, reduceIte, byteD, dstr, un1_str, iD, bD, f1, f2, f4, f5, g1, g2, g4, g5, d0, List.length_cons, pureEnd_of (fn := Tryd.f40) (rs := [.cell 2 53, .tmp 3]) (ts := [53, 37]) rfl rfl, *])); repeat' ((first | (refine fork_split (fun _h => ?_) (fun _h => ?_)) | (refine gfork_split (fun _h => ?_) (fun _h => ?_)) | (refine dfork_split (fun _h => ?_) (fun _h => ?_))) <;> (try (simp only [↓ru, rv, rl, ry, tyf, iM, bM, bsM, cond_true, cond_false, Nat.reduceLT, Nat.reduceBEq, Nat.reduceAdd, Nat.reduceEqDiff, Nat.reduceMul, Nat.reduceLeDiff, Nat.reduceSub, Nat.reduceDiv, Int.reduceLE, Int.reduceLT, Int.reduceNeg, Int.reduceAdd, Int.reduceSub, Int.reduceMul, Int.reduceToNat, Int.reducePow, Int.reduceEq, ne_eq, reduceIte, byteD, dstr, un1_str, iD, bD, f1, f2, f4, f5, g1, g2, g4, g5, d0, List.length_cons, pureEnd_of (fn := Tryd.f40) (rs := [.cell 2 53, .tmp 3]) (ts := [53, 37]) rfl rfl, *])))
        all_goals try rfl
      | nil =>
        rw [if_neg (by simp)]
        have hC := Check (mkC x0.1 x1 x2 x3 x4 x5 ([], false, xo) [a1, a2, a3, a4, a5, a6, a7, a8]) (by simp only [mkC]; omega)
        by_cases h0 : chkF (mkC x0.1 x1 x2 x3 x4 x5 ([], false, xo) [a1, a2, a3, a4, a5, a6, a7, a8]) = 0
        · rw [if_pos h0]
          rw [h0] at hC
          simp only [mkC, List.getD_cons_zero, List.getD_cons_succ] at hC ⊢
          (try (simp only [↓ru, rv, rl, ry, tyf, iM, bM, bsM, cond_true, cond_false, Nat.reduceLT, Nat.reduceBEq, Nat.reduceAdd, Nat.reduceEqDiff, Nat.reduceMul, Nat.reduceLeDiff, Nat.reduceSub, Nat.reduceDiv, Int.reduceLE, Int.reduceLT, Int.reduceNeg, Int.reduceAdd, Int.reduceSub, Int.reduceMul, Int.reduceToNat, Int.reducePow, Int.reduceEq, ne_eq, reduceIte, byteD, dstr, un1_str, iD, bD, f1, f2, f4, f5, g1, g2, g4, g5, List.length_nil, pureEnd_of (fn := Tryd.f40) (rs := [.cell 2 53, .tmp 3]) (ts := [53, 37]) rfl rfl, *])); repeat' ((first | (refine fork_split (fun _h => ?_) (fun _h => ?_)) | (refine gfork_split (fun _h => ?_) (fun _h => ?_)) | (refine dfork_split (fun _h => ?_) (fun _h => ?_)) | (refine acall1_pure hC rfl rfl ?_) | (refine dcall1_pure hC rfl rfl ?_)) <;> (try (simp only [↓ru, rv, rl, ry, tyf, iM, bM, bsM, cond_true, cond_false, Nat.reduceLT, Nat.reduceBEq, Nat.reduceAdd, Nat.reduceEqDiff, Nat.reduceMul, Nat.reduceLeDiff, Nat.reduceSub, Nat.reduceDiv, Int.reduceLE, Int.reduceLT, Int.reduceNeg, Int.reduceAdd, Int.reduceSub, Int.reduceMul, Int.reduceToNat, Int.reducePow, Int.reduceEq, ne_eq, reduceIte, byteD, dstr, un1_str, iD, bD, f1, f2, f4, f5, g1, g2, g4, g5, List.length_nil, pureEnd_of (fn := Tryd.f40) (rs := [.cell 2 53, .tmp 3]) (ts := [53, 37]) rfl rfl, *])))
          all_goals try rfl
        · rw [if_neg h0]
          have d0 : decide (chkF (mkC x0.1 x1 x2 x3 x4 x5 ([], false, xo) [a1, a2, a3, a4, a5, a6, a7, a8]) = 0) = false := decide_eq_false h0
          generalize hR : chkF (mkC x0.1 x1 x2 x3 x4 x5 ([], false, xo) [a1, a2, a3, a4, a5, a6, a7, a8]) = RR at hC d0 ⊢
          simp only [mkC, List.getD_cons_zero, List.getD_cons_succ] at hC
          (try (simp only [↓ru, rv, rl, ry, tyf, iM, bM, bsM, cond_true, cond_false, Nat.reduceLT, Nat.reduceBEq, Nat.reduceAdd, Nat.reduceEqDiff, Nat.reduceMul, Nat.reduceLeDiff, Nat.reduceSub, Nat.reduceDiv, Int.reduceLE, Int.reduceLT, Int.reduceNeg, Int.reduceAdd, Int.reduceSub, Int.reduceMul, Int.reduceToNat, Int.reducePow, Int.reduceEq, ne_eq, reduceIte, byteD, dstr, un1_str, iD, bD, f1, f2, f4, f5, g1, g2, g4, g5, d0, List.length_nil, pureEnd_of (fn := Tryd.f40) (rs := [.cell 2 53, .tmp 3]) (ts := [53, 37]) rfl rfl, *])); repeat' ((first | (refine fork_split (fun _h => ?_) (fun _h => ?_)) | (refine gfork_split (fun _h => ?_) (fun _h => ?_)) | (refine dfork_split (fun _h => ?_) (fun _h => ?_)) | (refine acall1_pure hC rfl rfl ?_) | (refine dcall1_pure hC rfl rfl ?_)) <;> (try (simp only [↓ru, rv, rl, ry, tyf, iM, bM, bsM, cond_true, cond_false, Nat.reduceLT, Nat.reduceBEq, Nat.reduceAdd, Nat.reduceEqDiff, Nat.reduceMul, Nat.reduceLeDiff, Nat.reduceSub, Nat.reduceDiv, Int.reduceLE, Int.reduceLT, Int.reduceNeg, Int.reduceAdd, Int.reduceSub, Int.reduceMul, Int.reduceToNat, Int.reducePow, Int.reduceEq, ne_eq, reduceIte, byteD, dstr, un1_str, iD, bD, f1, f2, f4, f5, g1, g2, g4, g5, d0, List.length_nil, pureEnd_of (fn := Tryd.f40) (rs := [.cell 2 53, .tmp 3]) (ts := [53, 37]) rfl rfl, *])))
          all_goals try rfl
end Go.CF

import Derived.Test.YtmgfnlnomecbiaaDoorT9
set_option linter.all false
open Go.Proofs Go.Abs Go.Fa Go.BU Go.TX
namespace Go.TW
set_option maxHeartbeats 4000000
set_option maxRecDepth 10000
-- rules: byteD, dstr, un1_str

theorem beql {xo yo : Operand} {a b : Bool} {B : Bx} {K : K2} : aBin Tryd.prog .eql 4 xo yo (bM a) (bM b) B K = kk K (bM (a == b)) B := bin_bool_eql Tryd.underlying4
theorem bneq {xo yo : Operand} {a b : Bool} {B : Bx} {K : K2} : aBin Tryd.prog .neq 4 xo yo (bM a) (bM b) B K = kk K (bM (!(a == b))) B := bin_bool_neq Tryd.underlying4
theorem phex_nil : phex [] = (0, false) := rfl
theorem body_le (l : List UInt8) : l.length ≤ (quBody l).length := by
  induction l with
  | nil => simp
  | cons b l ih =>
    rw [quBody_cons, List.length_append, List.length_cons]
    have : 1 ≤ (quB b).length := by unfold quB; split <;> simp
    omega
theorem unq_len {s l : List UInt8} (h : unq s = some l) : l.length ≤ s.length := by
  have := unq_some h
  rw [← this, quote_len]
  have := body_le l
  omega
theorem joinSp_sum : ∀ (l : List (List UInt8)), (l.map fun w => w.length + 1).sum ≤ (joinSp l).length + 1
  | [] => by simp [joinSp]
  | [w] => by simp [joinSp]
  | w :: x :: r => by
    have := joinSp_sum (x :: r)
    simp [joinSp] at this ⊢; omega
theorem words_len {s : List UInt8} {l : List (List UInt8)} (h : wordsF s = some l) : (l.map fun w => w.length + 1).sum ≤ s.length + 1 := by
  have := joinSp_sum l
  rw [words_join h] at this
  exact this
theorem sum_len (l : List (List UInt8)) : l.length ≤ (l.map fun w => w.length + 1).sum := by
  induction l with
  | nil => simp
  | cons w l ih => simp; omega
theorem unlines_len (l : List (List UInt8)) : (unlines l).length = (l.map fun w => w.length + 1).sum := by
  induction l with
  | nil => rfl
  | cons w l ih => simp [unlines] at ih ⊢; omega
theorem unlines_le (l : List (List UInt8)) (i : Nat) : (unlines (l.take i)).length ≤ (unlines l).length := by
  rw [unlines_len, unlines_len]
  have e : (l.map fun w => w.length + 1) = ((l.take i).map fun w => w.length + 1) ++ ((l.drop i).map fun w => w.length + 1) := by rw [← List.map_append, List.take_append_drop]
  rw [e, List.sum_append]; omega
theorem unlines_app (l : List (List UInt8)) (x : List UInt8) : unlines (l ++ [x]) = unlines l ++ (x ++ [10]) := by simp [unlines]
end Go.TW

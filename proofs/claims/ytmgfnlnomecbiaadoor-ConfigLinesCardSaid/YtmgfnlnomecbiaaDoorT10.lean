import Derived.Test.YtmgfnlnomecbiaaDoorT9
set_option linter.all false
open Go.Proofs Go.Abs Go.Fa Go.BU Go.TX
namespace Go.TW
set_option maxHeartbeats 4000000
set_option maxRecDepth 10000
-- rules: byteD, dstr, un1_str

theorem joinSp_sum : ∀ (l : List (List UInt8)), (l.map fun w => w.length + 1).sum ≤ (joinSp l).length + 1
  | [] => by simp [joinSp]
  | [w] => by simp [joinSp]
  | w :: x :: r => by
    have := joinSp_sum (x :: r)
    simp [joinSp] at this ⊢; omega
theorem words_len {s : List UInt8} {l : List (List UInt8)} (h : wordsF s = some l) : (l.map fun w => w.length + 1).sum ≤ s.length + 1 := by
  have := joinSp_sum l
  rw [words_join h] at this
  exact this
theorem sum_len (l : List (List UInt8)) : l.length ≤ (l.map fun w => w.length + 1).sum := by
  induction l with
  | nil => simp
  | cons w l ih => simp; omega
theorem unlines_len (l : List (List UInt8)) : (unlines l).length = (l.map fun w => w.length + 1).sum := by
  induction l with
  | nil => rfl
  | cons w l ih => simp [unlines] at ih ⊢; omega
end Go.TW

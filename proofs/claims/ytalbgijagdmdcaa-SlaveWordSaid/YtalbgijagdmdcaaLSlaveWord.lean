/- SlaveWord: for all numbers, Word returns the prescribed contents. No condition. -/
import Derived.Test.YtalbgijagdmdcaaL3
import Derived.Test.YtalbgijagdmdcaaC2
import Derived.Test.YtalbgijagdmdcaaRows
import Derived.ProofKit
import Derived.JoinedOf
set_option linter.all false
namespace Go.Proofs.Ytalbgijagdmdcaa.lawSlaveWord
open Go.Abs Go.R2 Go.ChangeShapes Go.WideShapes Go.ChangeAt Go.RowKit

theorem args (cs : List (List D)) (h : ShArgs [.int .i64, .int .i64, .int .i64] cs) : PFn Try.prog 17 (argMs [.int .i64, .int .i64, .int .i64] cs) (.d (.v (.bool true))) := by
  obtain ⟨c0, r0, rfl, h0, h⟩ := args_cons h
  obtain ⟨c1, r1, rfl, h1, h⟩ := args_cons h
  obtain ⟨c2, r2, rfl, h2, h⟩ := args_cons h
  obtain rfl := args_nil h
  obtain ⟨n0, rfl, w0⟩ := sh_i64 h0
  obtain ⟨n1, rfl, w1⟩ := sh_i64 h1
  obtain ⟨n2, rfl, w2⟩ := sh_i64 h2
  exact t17 n0 n1 n2

theorem shapes : Try.f17.params.toList.mapM (tyOf Try.prog 9) = some [.int .i64, .int .i64, .int .i64] := by kernel_rfl
theorem readable : (Try.f17.params.toList.all fun t => Try.prog.readableRec t && decide (t < Try.prog.types.size)) = true := by kernel_rfl

set_option maxRecDepth 100000 in
theorem lifted (os : Os) (started : os.Started) (H : Type) (enc : TypeId × Value → H) :
    ReturnsInHanded {} Try.checked os 17 .any (Rows.slaveWordSpec.pre6 enc Try.prog Try.f17 Rows.slaveWordRow.domain false) (Rows.slaveWordSpec.post enc Try.prog Try.f17 false true false false) := by
  refine returnsInHanded_of_change (C := Try.checked) own started (by kernel_rfl) Try.func17
    (ChangeSpec.witness6 (enc := enc) (C := Try.checked) false ⟨#[], #[.int .i64 0, .int .i64 0, .int .i64 0], []⟩ 8 (by kernel_rfl) (by kernel_rfl) (by kernel_rfl) (by kernel_rfl)) ?_
  intro W base xs ds gs before hval hW _ _
  refine law_contract (P := Try.prog) (fn := Try.f17) (s := Rows.slaveWordSpec) (n := 9) (tb := 4) laid shapes readable (by kernel_rfl) und4 rfl ?_ args W base xs ds gs before hval hW
  intro ds hl
  have hl' : ds.length = 3 := hl
  match ds, hl' with
  | [d0, d1, d2], _ => exact ⟨rfl, rfl, rfl⟩

theorem facts : joinedFacts Try.prog 17 Try.f17 Rows.slaveWordSpec Rows.slaveWordRow = true := by
  simp only [joinedFacts, Bool.and_eq_true, cMay, cLift, cMake]
  repeat' apply And.intro
  all_goals first | exact True.intro | (as_aux_lemma => kernel_rfl)
theorem proved : Rows.SlaveWordSaid :=
  OpenClaim.holds_of_wide 17 Try.f17 rfl rfl rfl rfl rfl rfl rfl ⟨rfl, rfl, rfl, rfl, rfl⟩ rfl rfl rfl rfl rfl (by kernel_rfl) Try.func17 facts
    (of_decide_eq_true (by kernel_rfl)) (by unfold Func.isWrapper; first | (rw [if_pos (by decide +kernel)]; kernel_rfl) | (rw [if_neg (by decide +kernel)]; exact ⟨rfl, rfl⟩))
    fun os started H enc _ => lifted os started H enc
end Go.Proofs.Ytalbgijagdmdcaa.lawSlaveWord

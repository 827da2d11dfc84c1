/- SlaveObjects: asking again and again yields every object exactly once, for every slave. No condition. -/
import Derived.Test.YtalbgijagdmdcaaL4
import Derived.Test.YtalbgijagdmdcaaC2
import Derived.Test.YtalbgijagdmdcaaRows
import Derived.ProofKit
import Derived.JoinedOf
set_option linter.all false
namespace Go.Proofs.Ytalbgijagdmdcaa.lawSlaveObjects
open Go.Abs Go.R2 Go.ChangeShapes Go.WideShapes Go.ChangeAt Go.RowKit

set_option maxHeartbeats 4000000
theorem args (cs : List (List D)) (h : ShArgs [tySlv, .int .i64] cs) : PFn Try.prog 20 (argMs [tySlv, .int .i64] cs) (.d (.v (.bool true))) := by
  obtain ⟨c0, r0, rfl, h0, h⟩ := args_cons h
  obtain ⟨c1, r1, rfl, h1, h⟩ := args_cons h
  obtain rfl := args_nil h
  obtain ⟨s, rfl, hs, hso⟩ := sh_slv h0
  obtain ⟨n1, rfl, w1⟩ := sh_i64 h1
  exact t20 s n1 hs

theorem shapes : Try.f20.params.toList.mapM (tyOf Try.prog 9) = some [tySlv, .int .i64] := by kernel_rfl
theorem readable : (Try.f20.params.toList.all fun t => Try.prog.readableRec t && decide (t < Try.prog.types.size)) = true := by kernel_rfl

set_option maxRecDepth 100000 in
theorem lifted (os : Os) (started : os.Started) (H : Type) (enc : TypeId × Value → H) :
    ReturnsInHanded {} Try.checked os 20 .any (Rows.slaveObjectsSpec.pre6 enc Try.prog Try.f20 Rows.slaveObjectsRow.domain false) (Rows.slaveObjectsSpec.post enc Try.prog Try.f20 false true false false) := by
  refine returnsInHanded_of_change (C := Try.checked) own started (by kernel_rfl) Try.func20
    (ChangeSpec.witness6 (enc := enc) (C := Try.checked) false ⟨#[], #[.agg #[.int .i64 0, .int .i64 0, .int .i64 0, .bool false, .slice none 0 0, .int .i64 0, .bool false, .slice none 0 0, .int .i64 0, .bool false, .slice none 0 0, .int .i64 0, .bool false, .slice none 0 0, .int .i64 0, .int .i64 0, .slice none 0 0, .bool false, .slice none 0 0], .int .i64 0], []⟩ 8 (by kernel_rfl) (by kernel_rfl) (by kernel_rfl) (by kernel_rfl)) ?_
  intro W base xs ds gs before hval hW _ _
  refine law_contract (P := Try.prog) (fn := Try.f20) (s := Rows.slaveObjectsSpec) (n := 9) (tb := 4) laid shapes readable (by kernel_rfl) und4 rfl ?_ args W base xs ds gs before hval hW
  intro ds hl
  have hl' : ds.length = 2 := hl
  match ds, hl' with
  | [d0, d1], _ => exact ⟨rfl, rfl, rfl⟩

theorem facts : joinedFacts Try.prog 20 Try.f20 Rows.slaveObjectsSpec Rows.slaveObjectsRow = true := by
  simp only [joinedFacts, Bool.and_eq_true, cMay, cLift, cMake]
  repeat' apply And.intro
  all_goals first | exact True.intro | (as_aux_lemma => kernel_rfl)
theorem proved : Rows.SlaveObjectsSaid :=
  OpenClaim.holds_of_wide 20 Try.f20 rfl rfl rfl rfl rfl rfl rfl ⟨rfl, rfl, rfl, rfl, rfl⟩ rfl rfl rfl rfl rfl (by kernel_rfl) Try.func20 facts
    (of_decide_eq_true (by kernel_rfl)) (by unfold Func.isWrapper; first | (rw [if_pos (by decide +kernel)]; kernel_rfl) | (rw [if_neg (by decide +kernel)]; exact ⟨rfl, rfl⟩))
    fun os started H enc _ => lifted os started H enc
end Go.Proofs.Ytalbgijagdmdcaa.lawSlaveObjects

/- SlaveAnswer: for every slave, request and value, Answer returns the prescribed reply, and of a valid slave and request it is a reply to the request. No condition. -/
import Derived.Test.YtalbgijagdmdcaaL3
import Derived.Test.YtalbgijagdmdcaaC2
import Derived.Test.YtalbgijagdmdcaaRows
import Derived.ProofKit
import Derived.JoinedOf
set_option linter.all false
namespace Go.Proofs.Ytalbgijagdmdcaa.lawSlaveAnswer
open Go.Abs Go.R2 Go.ChangeShapes Go.WideShapes Go.ChangeAt Go.RowKit

set_option maxHeartbeats 4000000
theorem args (cs : List (List D)) (h : ShArgs [tySlv, tyReq, .int .i64, .bool, .int .i64, .int .i64, .int .i64] cs) : PFn Try.prog 21 (argMs [tySlv, tyReq, .int .i64, .bool, .int .i64, .int .i64, .int .i64] cs) (.d (.v (.bool true))) := by
  obtain ⟨c0, r0, rfl, h0, h⟩ := args_cons h
  obtain ⟨c1, r1, rfl, h1, h⟩ := args_cons h
  obtain ⟨c2, r2, rfl, h2, h⟩ := args_cons h
  obtain ⟨c3, r3, rfl, h3, h⟩ := args_cons h
  obtain ⟨c4, r4, rfl, h4, h⟩ := args_cons h
  obtain ⟨c5, r5, rfl, h5, h⟩ := args_cons h
  obtain ⟨c6, r6, rfl, h6, h⟩ := args_cons h
  obtain rfl := args_nil h
  obtain ⟨s, rfl, hs, hso⟩ := sh_slv h0
  obtain ⟨q, rfl⟩ := sh_req h1
  obtain ⟨n2, rfl, w2⟩ := sh_i64 h2
  obtain ⟨b3, rfl⟩ := sh_bool h3
  obtain ⟨n4, rfl, w4⟩ := sh_i64 h4
  obtain ⟨n5, rfl, w5⟩ := sh_i64 h5
  obtain ⟨n6, rfl, w6⟩ := sh_i64 h6
  exact t21 s q n2 b3 n4 n5 n6 hs

theorem shapes : Try.f21.params.toList.mapM (tyOf Try.prog 9) = some [tySlv, tyReq, .int .i64, .bool, .int .i64, .int .i64, .int .i64] := by kernel_rfl
theorem readable : (Try.f21.params.toList.all fun t => Try.prog.readableRec t && decide (t < Try.prog.types.size)) = true := by kernel_rfl

set_option maxRecDepth 100000 in
theorem lifted (os : Os) (started : os.Started) (H : Type) (enc : TypeId × Value → H) :
    ReturnsInHanded {} Try.checked os 21 .any (Rows.slaveAnswerSpec.pre6 enc Try.prog Try.f21 Rows.slaveAnswerRow.domain false) (Rows.slaveAnswerSpec.post enc Try.prog Try.f21 false true false false) := by
  refine returnsInHanded_of_change (C := Try.checked) own started (by kernel_rfl) Try.func21
    (ChangeSpec.witness6 (enc := enc) (C := Try.checked) false ⟨#[], #[.agg #[.int .i64 0, .int .i64 0, .int .i64 0, .bool false, .slice none 0 0, .int .i64 0, .bool false, .slice none 0 0, .int .i64 0, .bool false, .slice none 0 0, .int .i64 0, .bool false, .slice none 0 0, .int .i64 0, .int .i64 0, .slice none 0 0, .bool false, .slice none 0 0], .agg #[.int .i64 0, .int .i64 0, .int .i64 0, .int .i64 0, .int .i64 0], .int .i64 0, .bool false, .int .i64 0, .int .i64 0, .int .i64 0], []⟩ 8 (by kernel_rfl) (by kernel_rfl) (by kernel_rfl) (by kernel_rfl)) ?_
  intro W base xs ds gs before hval hW _ _
  refine law_contract (P := Try.prog) (fn := Try.f21) (s := Rows.slaveAnswerSpec) (n := 9) (tb := 4) laid shapes readable (by kernel_rfl) und4 rfl ?_ args W base xs ds gs before hval hW
  intro ds hl
  have hl' : ds.length = 7 := hl
  match ds, hl' with
  | [d0, d1, d2, d3, d4, d5, d6], _ => exact ⟨rfl, rfl, rfl⟩

theorem facts : joinedFacts Try.prog 21 Try.f21 Rows.slaveAnswerSpec Rows.slaveAnswerRow = true := by
  simp only [joinedFacts, Bool.and_eq_true, cMay, cLift, cMake]
  repeat' apply And.intro
  all_goals first | exact True.intro | (as_aux_lemma => kernel_rfl)
theorem proved : Rows.SlaveAnswerSaid :=
  OpenClaim.holds_of_wide 21 Try.f21 rfl rfl rfl rfl rfl rfl rfl ⟨rfl, rfl, rfl, rfl, rfl⟩ rfl rfl rfl rfl rfl (by kernel_rfl) Try.func21 facts
    (of_decide_eq_true (by kernel_rfl)) (by unfold Func.isWrapper; first | (rw [if_pos (by decide +kernel)]; kernel_rfl) | (rw [if_neg (by decide +kernel)]; exact ⟨rfl, rfl⟩))
    fun os started H enc _ => lifted os started H enc
end Go.Proofs.Ytalbgijagdmdcaa.lawSlaveAnswer

/- ReplyRead: for every request and all bytes, Read returns what the document says, and what it returns matches the request. No condition. -/
import Derived.Test.YtalbgijagdmdcaaC2
import Derived.Test.YtalbgijagdmdcaaRows
import Derived.ProofKit
import Derived.JoinedOf
set_option linter.all false
namespace Go.Proofs.Ytalbgijagdmdcaa.lawReplyRead
open Go.Abs Go.R2 Go.ChangeShapes Go.WideShapes Go.ChangeAt Go.RowKit

theorem args (cs : List (List D)) (h : ShArgs [tyReq, .sl 1 (.int .u8), .bool, .int .i64, .int .i64, .int .i64] cs) : PFn Try.prog 13 (argMs [tyReq, .sl 1 (.int .u8), .bool, .int .i64, .int .i64, .int .i64] cs) (.d (.v (.bool true))) := by
  obtain ⟨c0, r0, rfl, h0, h⟩ := args_cons h
  obtain ⟨c1, r1, rfl, h1, h⟩ := args_cons h
  obtain ⟨c2, r2, rfl, h2, h⟩ := args_cons h
  obtain ⟨c3, r3, rfl, h3, h⟩ := args_cons h
  obtain ⟨c4, r4, rfl, h4, h⟩ := args_cons h
  obtain ⟨c5, r5, rfl, h5, h⟩ := args_cons h
  obtain rfl := args_nil h
  obtain ⟨q, rfl⟩ := sh_req h0
  obtain ⟨v1, rfl, w1⟩ := sh_bytes h1
  obtain ⟨b2, rfl⟩ := sh_bool h2
  obtain ⟨n3, rfl, w3⟩ := sh_i64 h3
  obtain ⟨n4, rfl, w4⟩ := sh_i64 h4
  obtain ⟨n5, rfl, w5⟩ := sh_i64 h5
  exact t13 q v1 b2 n3 n4 n5 w1

theorem shapes : Try.f13.params.toList.mapM (tyOf Try.prog 9) = some [tyReq, .sl 1 (.int .u8), .bool, .int .i64, .int .i64, .int .i64] := by kernel_rfl
theorem readable : (Try.f13.params.toList.all fun t => Try.prog.readableRec t && decide (t < Try.prog.types.size)) = true := by kernel_rfl

set_option maxRecDepth 100000 in
theorem lifted (os : Os) (started : os.Started) (H : Type) (enc : TypeId × Value → H) :
    ReturnsInHanded {} Try.checked os 13 .any (Rows.replyReadSpec.pre6 enc Try.prog Try.f13 Rows.replyReadRow.domain false) (Rows.replyReadSpec.post enc Try.prog Try.f13 false true false false) := by
  refine returnsInHanded_of_change (C := Try.checked) own started (by kernel_rfl) Try.func13
    (ChangeSpec.witness6 (enc := enc) (C := Try.checked) false ⟨#[], #[.agg #[.int .i64 0, .int .i64 0, .int .i64 0, .int .i64 0, .int .i64 0], .slice none 0 0, .bool false, .int .i64 0, .int .i64 0, .int .i64 0], []⟩ 8 (by kernel_rfl) (by kernel_rfl) (by kernel_rfl) (by kernel_rfl)) ?_
  intro W base xs ds gs before hval hW _ _
  refine law_contract (P := Try.prog) (fn := Try.f13) (s := Rows.replyReadSpec) (n := 9) (tb := 4) laid shapes readable (by kernel_rfl) und4 rfl ?_ args W base xs ds gs before hval hW
  intro ds hl
  have hl' : ds.length = 6 := hl
  match ds, hl' with
  | [d0, d1, d2, d3, d4, d5], _ => exact ⟨rfl, rfl, rfl⟩

theorem facts : joinedFacts Try.prog 13 Try.f13 Rows.replyReadSpec Rows.replyReadRow = true := by
  simp only [joinedFacts, Bool.and_eq_true, cMay, cLift, cMake]
  repeat' apply And.intro
  all_goals first | exact True.intro | (as_aux_lemma => kernel_rfl)
theorem proved : Rows.ReplyReadSaid :=
  OpenClaim.holds_of_wide 13 Try.f13 rfl rfl rfl rfl rfl rfl rfl ⟨rfl, rfl, rfl, rfl, rfl⟩ rfl rfl rfl rfl rfl (by kernel_rfl) Try.func13 facts
    (of_decide_eq_true (by kernel_rfl)) (by unfold Func.isWrapper; first | (rw [if_pos (by decide +kernel)]; kernel_rfl) | (rw [if_neg (by decide +kernel)]; exact ⟨rfl, rfl⟩))
    fun os started H enc _ => lifted os started H enc
end Go.Proofs.Ytalbgijagdmdcaa.lawReplyRead

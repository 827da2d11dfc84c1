/- ReplyPrefix: no proper prefix of the PDU of a reply, and nothing longer that begins with it, is the PDU of a reply. No condition. -/
import Derived.Test.YtalbgijagdmdcaaC2
import Derived.Test.YtalbgijagdmdcaaRows
import Derived.ProofKit
import Derived.JoinedOf
set_option linter.all false
namespace Go.Proofs.Ytalbgijagdmdcaa.lawReplyPrefix
open Go.Abs Go.R2 Go.ChangeShapes Go.WideShapes Go.ChangeAt Go.RowKit

theorem args (cs : List (List D)) (h : ShArgs [tyRep, .int .i64, .sl 1 (.int .u8)] cs) : PFn Try.prog 14 (argMs [tyRep, .int .i64, .sl 1 (.int .u8)] cs) (.d (.v (.bool true))) := by
  obtain ⟨c0, r0, rfl, h0, h⟩ := args_cons h
  obtain ⟨c1, r1, rfl, h1, h⟩ := args_cons h
  obtain ⟨c2, r2, rfl, h2, h⟩ := args_cons h
  obtain rfl := args_nil h
  obtain ⟨r, rfl, hr, ho⟩ := sh_rep h0
  obtain ⟨n1, rfl, w1⟩ := sh_i64 h1
  obtain ⟨v2, rfl, w2⟩ := sh_bytes h2
  exact t14 r n1 v2 hr w2

theorem shapes : Try.f14.params.toList.mapM (tyOf Try.prog 9) = some [tyRep, .int .i64, .sl 1 (.int .u8)] := by kernel_rfl
theorem readable : (Try.f14.params.toList.all fun t => Try.prog.readableRec t && decide (t < Try.prog.types.size)) = true := by kernel_rfl

set_option maxRecDepth 100000 in
theorem lifted (os : Os) (started : os.Started) (H : Type) (enc : TypeId × Value → H) :
    ReturnsInHanded {} Try.checked os 14 .any (Rows.replyPrefixSpec.pre6 enc Try.prog Try.f14 Rows.replyPrefixRow.domain false) (Rows.replyPrefixSpec.post enc Try.prog Try.f14 false true false false) := by
  refine returnsInHanded_of_change (C := Try.checked) own started (by kernel_rfl) Try.func14
    (ChangeSpec.witness6 (enc := enc) (C := Try.checked) false ⟨#[], #[.agg #[.int .i64 0, .int .i64 0, .slice none 0 0, .int .i64 0, .int .i64 0, .bool false, .int .i64 0, .slice none 0 0], .int .i64 0, .slice none 0 0], []⟩ 8 (by kernel_rfl) (by kernel_rfl) (by kernel_rfl) (by kernel_rfl)) ?_
  intro W base xs ds gs before hval hW _ _
  refine law_contract (P := Try.prog) (fn := Try.f14) (s := Rows.replyPrefixSpec) (n := 9) (tb := 4) laid shapes readable (by kernel_rfl) und4 rfl ?_ args W base xs ds gs before hval hW
  intro ds hl
  have hl' : ds.length = 3 := hl
  match ds, hl' with
  | [d0, d1, d2], _ => exact ⟨rfl, rfl, rfl⟩

theorem facts : joinedFacts Try.prog 14 Try.f14 Rows.replyPrefixSpec Rows.replyPrefixRow = true := by
  simp only [joinedFacts, Bool.and_eq_true, cMay, cLift, cMake]
  repeat' apply And.intro
  all_goals first | exact True.intro | (as_aux_lemma => kernel_rfl)
theorem proved : Rows.ReplyPrefixSaid :=
  OpenClaim.holds_of_wide 14 Try.f14 rfl rfl rfl rfl rfl rfl rfl ⟨rfl, rfl, rfl, rfl, rfl⟩ rfl rfl rfl rfl rfl (by kernel_rfl) Try.func14 facts
    (of_decide_eq_true (by kernel_rfl)) (by unfold Func.isWrapper; first | (rw [if_pos (by decide +kernel)]; kernel_rfl) | (rw [if_neg (by decide +kernel)]; exact ⟨rfl, rfl⟩))
    fun os started H enc _ => lifted os started H enc
end Go.Proofs.Ytalbgijagdmdcaa.lawReplyPrefix

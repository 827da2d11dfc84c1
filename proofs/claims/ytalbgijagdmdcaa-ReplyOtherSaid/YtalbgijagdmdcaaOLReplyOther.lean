/- ReplyOther: a reply to a read request of a table is no reply to a request of the same table with another quantity, unless both need the same number of bytes; for all numbers and bytes. No condition. -/
import Derived.Test.YtalbgijagdmdcaaOL5
import Derived.Test.YtalbgijagdmdcaaOC2
import Derived.Test.YtalbgijagdmdcaaRows
import Derived.ProofKit
import Derived.JoinedOf
set_option linter.all false
namespace Go.Proofs.Ytalbgijagdmdcaa.lawReplyOther
open Go.Abs Go.R2 Go.ChangeShapes Go.WideShapes Go.ChangeAt Go.RowKit

set_option maxHeartbeats 4000000
theorem args (cs : List (List D)) (h : ShArgs [.int .i64, .int .i64, .int .i64, .int .i64, .sl 1 (.int .u8)] cs) : PFn Try.prog 15 (argMs [.int .i64, .int .i64, .int .i64, .int .i64, .sl 1 (.int .u8)] cs) (.d (.v (.bool true))) := by
  obtain ⟨c0, r0, rfl, h0, h⟩ := args_cons h
  obtain ⟨c1, r1, rfl, h1, h⟩ := args_cons h
  obtain ⟨c2, r2, rfl, h2, h⟩ := args_cons h
  obtain ⟨c3, r3, rfl, h3, h⟩ := args_cons h
  obtain ⟨c4, r4, rfl, h4, h⟩ := args_cons h
  obtain rfl := args_nil h
  obtain ⟨n0, rfl, w0⟩ := sh_i64 h0
  obtain ⟨n1, rfl, w1⟩ := sh_i64 h1
  obtain ⟨n2, rfl, w2⟩ := sh_i64 h2
  obtain ⟨n3, rfl, w3⟩ := sh_i64 h3
  obtain ⟨v4, rfl, w4⟩ := sh_bytes h4
  exact t15 n0 n1 n2 n3 v4 w4

theorem shapes : Try.f15.params.toList.mapM (tyOf Try.prog 9) = some [.int .i64, .int .i64, .int .i64, .int .i64, .sl 1 (.int .u8)] := by kernel_rfl
theorem readable : (Try.f15.params.toList.all fun t => Try.prog.readableRec t && decide (t < Try.prog.types.size)) = true := by kernel_rfl

set_option maxRecDepth 100000 in
theorem lifted (os : Os) (started : os.Started) (H : Type) (enc : TypeId × Value → H) :
    ReturnsInHanded {} Try.checked os 15 .any (Rows.replyOtherSpec.pre6 enc Try.prog Try.f15 Rows.replyOtherRow.domain false) (Rows.replyOtherSpec.post enc Try.prog Try.f15 false true false false) := by
  refine returnsInHanded_of_change (C := Try.checked) own started (by kernel_rfl) Try.func15
    (ChangeSpec.witness6 (enc := enc) (C := Try.checked) false ⟨#[], #[.int .i64 0, .int .i64 0, .int .i64 0, .int .i64 0, .slice none 0 0], []⟩ 8 (by kernel_rfl) (by kernel_rfl) (by kernel_rfl) (by kernel_rfl)) ?_
  intro W base xs ds gs before hval hW _ _
  refine law_contract (P := Try.prog) (fn := Try.f15) (s := Rows.replyOtherSpec) (n := 9) (tb := 4) laid shapes readable (by kernel_rfl) und4 rfl ?_ args W base xs ds gs before hval hW
  intro ds hl
  have hl' : ds.length = 5 := hl
  match ds, hl' with
  | [d0, d1, d2, d3, d4], _ => exact ⟨rfl, rfl, rfl⟩

theorem facts : joinedFacts Try.prog 15 Try.f15 Rows.replyOtherSpec Rows.replyOtherRow = true := by
  simp only [joinedFacts, Bool.and_eq_true, cMay, cLift, cMake]
  repeat' apply And.intro
  all_goals first | exact True.intro | (as_aux_lemma => kernel_rfl)
theorem proved : Rows.ReplyOtherSaid :=
  OpenClaim.holds_of_wide 15 Try.f15 rfl rfl rfl rfl rfl rfl rfl ⟨rfl, rfl, rfl, rfl, rfl⟩ rfl rfl rfl rfl rfl (by kernel_rfl) Try.func15 facts
    (of_decide_eq_true (by kernel_rfl)) (by unfold Func.isWrapper; first | (rw [if_pos (by decide +kernel)]; kernel_rfl) | (rw [if_neg (by decide +kernel)]; exact ⟨rfl, rfl⟩))
    fun os started H enc _ => lifted os started H enc
end Go.Proofs.Ytalbgijagdmdcaa.lawReplyOther

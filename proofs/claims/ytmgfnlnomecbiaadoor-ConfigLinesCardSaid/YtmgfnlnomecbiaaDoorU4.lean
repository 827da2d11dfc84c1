import Derived.Test.YtmgfnlnomecbiaaDoorU3
set_option linter.all false
open Go.Proofs Go.Abs Go.Fa Go.BU Go.TX
namespace Go.TW
set_option maxHeartbeats 4000000
set_option maxRecDepth 10000
-- rules: byteD, dstr, un1_str, iD

theorem sh_stg {c : List D} (h : Sh (.st [(1, .int .i64), (1, .int .i64)]) c) : ∃ a b : Int, c = [iD a, iD b] := by
  obtain ⟨x, y, rfl, h1, h2⟩ := sh_cons (sh_st h)
  obtain ⟨z, u, rfl, h3, h4⟩ := sh_cons h2
  obtain rfl := sh_nil h4
  obtain ⟨a, rfl, _⟩ := sh_i64 h1
  obtain ⟨b, rfl, _⟩ := sh_i64 h3
  exact ⟨a, b, rfl⟩
theorem sh_stgs {c : List D} (h : Sh (.sl 2 (.st [(1, .int .i64), (1, .int .i64)])) c) : ∃ l : List Stg, c = [.sl 2 (l.map stgD)] ∧ l.length ≤ 9223372036854775807 := by
  obtain ⟨l, hl, hw, _⟩ := sh_sl (f := stgD) (Q := fun _ => True) (fun c h => by obtain ⟨a, b, h⟩ := sh_stg h; exact ⟨⟨a, b⟩, h, trivial⟩) h
  exact ⟨l, hl, hw⟩
end Go.TW

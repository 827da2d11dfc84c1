import Derived.Test.YtmgfnlnomecbiaaDoorU3
set_option linter.all false
open Go.Proofs Go.Abs Go.Fa Go.BU Go.TX
namespace Go.TW
set_option maxHeartbeats 4000000
set_option maxRecDepth 10000
-- rules: byteD, dstr, un1_str, iD

theorem beqS {xo yo : Operand} {a b : Bool} {B : Bx} {K : K2} : aBin Tryd.prog .eql 4 xo yo (bM a) (bM b) B K = kk K (bM (a == b)) B := bin_bool_eql Tryd.underlying4
theorem bneqS {xo yo : Operand} {a b : Bool} {B : Bx} {K : K2} : aBin Tryd.prog .neq 4 xo yo (bM a) (bM b) B K = kk K (bM (!(a == b))) B := bin_bool_neq Tryd.underlying4
theorem beqS' {xo yo : Operand} {a b : Bool} {B : Bx} {K : K2} : aBin Tryd.prog .eql 4 xo yo (.d (.v (.bool a))) (.d (.v (.bool b))) B K = kk K (bM (a == b)) B := bin_bool_eql Tryd.underlying4
theorem bneqS' {xo yo : Operand} {a b : Bool} {B : Bx} {K : K2} : aBin Tryd.prog .neq 4 xo yo (.d (.v (.bool a))) (.d (.v (.bool b))) B K = kk K (bM (!(a == b))) B := bin_bool_neq Tryd.underlying4
theorem fmt_len (s : Stg) : (fmtS s).length ≤ 20 := by
  have := dec_len s.baud
  unfold fmtS; split <;> simp; omega
theorem cmp_neg (a b : Stg) : cmpS a b = -cmpS b a := by
  simp only [cmpS, orI, cmpI]; repeat' split
  all_goals omega
theorem cmp_zero (a b : Stg) : decide (cmpS a b = 0) = decide (a = b) := by
  obtain ⟨b1, p1⟩ := a
  obtain ⟨b2, p2⟩ := b
  apply decide_eq_decide.2
  simp only [cmpS, orI, cmpI, Stg.mk.injEq]; repeat' split
  all_goals omega
theorem cmp_lt (a b : Stg) : decide (cmpS a b < 0) = lessS a b := by
  have := cmpS_less a b
  rw [← Bool.not_not (lessS a b), ← this, ← decide_not]
  apply decide_eq_decide.2; omega
theorem cmp_le (a b : Stg) : -1 ≤ cmpS a b ∧ cmpS a b ≤ 1 := by
  simp only [cmpS, orI, cmpI]; repeat' split
  all_goals omega
theorem cmp_trans {a b c : Stg} (h1 : cmpS a b < 0) (h2 : cmpS b c < 0) : cmpS a c < 0 := by
  have l1 := cmp_lt a b
  have l2 := cmp_lt b c
  have l3 := cmp_lt a c
  rw [decide_eq_true h1] at l1
  rw [decide_eq_true h2] at l2
  have : lessS a c = true := by
    have l1 := l1.symm
    have l2 := l2.symm
    simp only [lessS, Bool.or_eq_true, Bool.and_eq_true, decide_eq_true_eq] at l1 l2 ⊢
    omega
  rw [this] at l3
  exact of_decide_eq_true l3
theorem sh_stg {c : List D} (h : Sh (.st [(1, .int .i64), (1, .int .i64)]) c) : ∃ a b : Int, c = [iD a, iD b] := by
  obtain ⟨x, y, rfl, h1, h2⟩ := sh_cons (sh_st h)
  obtain ⟨z, u, rfl, h3, h4⟩ := sh_cons h2
  obtain rfl := sh_nil h4
  obtain ⟨a, rfl, _⟩ := sh_i64 h1
  obtain ⟨b, rfl, _⟩ := sh_i64 h3
  exact ⟨a, b, rfl⟩
theorem sh_stgs {c : List D} (h : Sh (.sl 2 (.st [(1, .int .i64), (1, .int .i64)])) c) : ∃ l : List Stg, c = [.sl 2 (l.map stgD)] ∧ l.length ≤ 9223372036854775807 := by
  obtain ⟨l, hl, hw, _⟩ := sh_sl (f := stgD) (Q := fun _ => True) (fun c h => by obtain ⟨a, b, h⟩ := sh_stg h; exact ⟨⟨a, b⟩, h, trivial⟩) h
  exact ⟨l, hl, hw⟩
end Go.TW

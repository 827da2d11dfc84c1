import Derived.Test.YtalbgijagdmdcaaL2
import Derived.Test.YtalbgijagdmdcaaS14
set_option linter.all false
/- The arguments of the laws of slaves. -/
open Go.Proofs Go.Abs Go.FaR2
namespace Go.R2
def tyRan : Ty := .st [(1, .int .i64), (1, .int .i64)]
def tyTab : Ty := .st [(1, .bool), (1, .sl 2 tyRan), (1, .int .i64)]
def tySlv : Ty := .st [(2, .st [(1, .int .i64), (1, .int .i64)]), (1, .int .i64), (12, .st [(3, tyTab), (3, tyTab), (3, tyTab), (3, tyTab)]), (1, .int .i64), (1, .sl 2 tyObj), (1, .bool), (1, .sl 1 (.int .u8))]
theorem ty47 : tyOf Try.prog 9 47 = some tySlv := by kernel_rfl
def Ran.Wf (r : Ran) : Prop := (-9223372036854775808 ≤ r.first ∧ r.first ≤ 9223372036854775807) ∧ -9223372036854775808 ≤ r.count ∧ r.count ≤ 9223372036854775807
theorem sh_ran {c : List D} (h : Sh tyRan c) : ∃ o : Ran, c = o.cells ∧ o.Wf := by
  obtain ⟨a, _, rfl, h1, h⟩ := sh_cons (sh_st h)
  obtain ⟨b, _, rfl, h2, h⟩ := sh_cons h
  obtain rfl := sh_nil h
  obtain ⟨n, rfl, hn⟩ := sh_i64 h1
  obtain ⟨v, rfl, hv⟩ := sh_i64 h2
  exact ⟨⟨n, v⟩, rfl, hn, hv⟩
def Tab.cells (t : Tab) : List D := [bD t.sup, .sl 2 (t.read.map Ran.cells), iD t.most]
theorem sh_tab {c : List D} (h : Sh tyTab c) : ∃ t : Tab, c = t.cells ∧ t.read.length ≤ 9223372036854775807 := by
  obtain ⟨_, _, rfl, h0, h⟩ := sh_cons (sh_st h)
  obtain ⟨_, _, rfl, h1, h⟩ := sh_cons h
  obtain ⟨_, _, rfl, h2, h⟩ := sh_cons h
  obtain rfl := sh_nil h
  obtain ⟨n0, rfl⟩ := sh_bool h0
  obtain ⟨n1, rfl, w1, _⟩ := sh_sl (f := Ran.cells) (Q := Ran.Wf) (fun c hc => sh_ran hc) h1
  obtain ⟨n2, rfl, _⟩ := sh_i64 h2
  exact ⟨⟨n0, n1, n2⟩, rfl, w1⟩
theorem sh_slv {c : List D} (h : Sh tySlv c) : ∃ s : Slv, c = s.cells ∧ s.Wf ∧ ∀ o, o ∈ s.objs → o.Wf := by
  obtain ⟨_, _, rfl, h0, h⟩ := sh_cons (sh_st h)
  obtain ⟨_, _, rfl, h1, h⟩ := sh_cons h
  obtain ⟨_, _, rfl, h2, h⟩ := sh_cons h
  obtain ⟨_, _, rfl, h3, h⟩ := sh_cons h
  obtain ⟨_, _, rfl, h4, h⟩ := sh_cons h
  obtain ⟨_, _, rfl, h5, h⟩ := sh_cons h
  obtain ⟨_, _, rfl, h6, h⟩ := sh_cons h
  obtain rfl := sh_nil h
  obtain ⟨_, _, rfl, ha, h0⟩ := sh_cons (sh_st h0)
  obtain ⟨_, _, rfl, hb, h0⟩ := sh_cons h0
  obtain rfl := sh_nil h0
  obtain ⟨_, _, rfl, hc, h2⟩ := sh_cons (sh_st h2)
  obtain ⟨_, _, rfl, hd, h2⟩ := sh_cons h2
  obtain ⟨_, _, rfl, he, h2⟩ := sh_cons h2
  obtain ⟨_, _, rfl, hf, h2⟩ := sh_cons h2
  obtain rfl := sh_nil h2
  obtain ⟨na, rfl, _⟩ := sh_i64 ha
  obtain ⟨nb, rfl, _⟩ := sh_i64 hb
  obtain ⟨n1, rfl, _⟩ := sh_i64 h1
  obtain ⟨c0, rfl, wc⟩ := sh_tab hc
  obtain ⟨c1, rfl, wd⟩ := sh_tab hd
  obtain ⟨c2, rfl, we⟩ := sh_tab he
  obtain ⟨c3, rfl, wf⟩ := sh_tab hf
  obtain ⟨n3, rfl, _⟩ := sh_i64 h3
  obtain ⟨n4, rfl, w4, w4'⟩ := sh_sl (f := Obj.cells) (Q := Obj.Wf) (fun c hc => sh_obj hc) h4
  obtain ⟨n5, rfl⟩ := sh_bool h5
  obtain ⟨n6, rfl, w6⟩ := sh_bytes h6
  exact ⟨⟨⟨na, nb⟩, n1, c0, c1, c2, c3, n3, n4, n5, n6⟩, rfl, ⟨wc, wd, we, wf, w4, w6⟩, w4'⟩
end Go.R2

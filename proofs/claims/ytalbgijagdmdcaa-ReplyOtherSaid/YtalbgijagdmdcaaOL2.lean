import Derived.Test.YtalbgijagdmdcaaOR11
import Derived.Test.YtalbgijagdmdcaaOAbs4
set_option linter.all false
/- The arguments of this seat's laws. -/
open Go.Proofs Go.Abs Go.FaR2
namespace Go.R2
theorem ty3 : tyOf Try.prog 9 3 = some (.int .i64) := by kernel_rfl
theorem ty4 : tyOf Try.prog 9 4 = some .bool := by kernel_rfl
theorem ty22 : tyOf Try.prog 9 22 = some (.sl 1 (.int .u8)) := by kernel_rfl
def tyObj : Ty := .st [(1, .int .i64), (1, .sl 1 (.int .u8))]
def tyRep : Ty := .st [(1, .int .i64), (1, .int .i64), (1, .sl 1 (.int .u8)), (1, .int .i64), (1, .int .i64), (1, .bool), (1, .int .i64), (1, .sl 2 tyObj)]
def tyReq : Ty := .st [(1, .int .i64), (1, .int .i64), (1, .int .i64), (1, .int .i64), (1, .int .i64)]
theorem ty77 : tyOf Try.prog 9 77 = some tyRep := by kernel_rfl
theorem ty85 : tyOf Try.prog 9 85 = some tyReq := by kernel_rfl

/-- An object whose numbers are those of the program. -/
def Obj.Wf (o : Obj) : Prop := (-9223372036854775808 ≤ o.id ∧ o.id ≤ 9223372036854775807) ∧ o.val.length ≤ 9223372036854775807
theorem sh_obj {c : List D} (h : Sh tyObj c) : ∃ o : Obj, c = o.cells ∧ o.Wf := by
  obtain ⟨a, _, rfl, h1, h⟩ := sh_cons (sh_st h)
  obtain ⟨b, _, rfl, h2, h⟩ := sh_cons h
  obtain rfl := sh_nil h
  obtain ⟨n, rfl, hn⟩ := sh_i64 h1
  obtain ⟨v, rfl, hv⟩ := sh_bytes h2
  exact ⟨⟨n, v⟩, rfl, hn, hv⟩
def Rep.cells (r : Rep) : List D := [iD r.fn, iD r.ex, bsD r.data, iD r.code, iD r.level, bD r.more, iD r.next, .sl 2 (r.objs.map Obj.cells)]
theorem sh_rep {c : List D} (h : Sh tyRep c) : ∃ r : Rep, c = r.cells ∧ r.Wf ∧ ∀ o, o ∈ r.objs → o.Wf := by
  obtain ⟨_, _, rfl, h0, h⟩ := sh_cons (sh_st h)
  obtain ⟨_, _, rfl, h1, h⟩ := sh_cons h
  obtain ⟨_, _, rfl, h2, h⟩ := sh_cons h
  obtain ⟨_, _, rfl, h3, h⟩ := sh_cons h
  obtain ⟨_, _, rfl, h4, h⟩ := sh_cons h
  obtain ⟨_, _, rfl, h5, h⟩ := sh_cons h
  obtain ⟨_, _, rfl, h6, h⟩ := sh_cons h
  obtain ⟨_, _, rfl, h7, h⟩ := sh_cons h
  obtain rfl := sh_nil h
  obtain ⟨n0, rfl, w0⟩ := sh_i64 h0
  obtain ⟨n1, rfl, w1⟩ := sh_i64 h1
  obtain ⟨n2, rfl, w2⟩ := sh_bytes h2
  obtain ⟨n3, rfl, w3⟩ := sh_i64 h3
  obtain ⟨n4, rfl, w4⟩ := sh_i64 h4
  obtain ⟨n5, rfl⟩ := sh_bool h5
  obtain ⟨n6, rfl, w6⟩ := sh_i64 h6
  obtain ⟨n7, rfl, w7, w8⟩ := sh_sl (f := Obj.cells) (Q := Obj.Wf) (fun c hc => sh_obj hc) h7
  exact ⟨⟨n0, n1, n2, n3, n4, n5, n6, n7⟩, rfl, ⟨w7, w2, w0, w4⟩, w8⟩
def Req.cells (r : Req) : List D := [iD r.fn, iD r.addr, iD r.qty, iD r.code, iD r.obj]
theorem sh_req {c : List D} (h : Sh tyReq c) : ∃ r : Req, c = r.cells := by
  obtain ⟨_, _, rfl, h0, h⟩ := sh_cons (sh_st h)
  obtain ⟨_, _, rfl, h1, h⟩ := sh_cons h
  obtain ⟨_, _, rfl, h2, h⟩ := sh_cons h
  obtain ⟨_, _, rfl, h3, h⟩ := sh_cons h
  obtain ⟨_, _, rfl, h4, h⟩ := sh_cons h
  obtain rfl := sh_nil h
  obtain ⟨n0, rfl, w0⟩ := sh_i64 h0
  obtain ⟨n1, rfl, w1⟩ := sh_i64 h1
  obtain ⟨n2, rfl, w2⟩ := sh_i64 h2
  obtain ⟨n3, rfl, w3⟩ := sh_i64 h3
  obtain ⟨n4, rfl, w4⟩ := sh_i64 h4
  exact ⟨⟨n0, n1, n2, n3, n4⟩, rfl⟩
theorem own : ownKnob Try.prog.godebug = none := by kernel_rfl
theorem laid : laidOutB Try.prog = true := by kernel_rfl
theorem und4 : Try.prog.underlying 4 = some .bool := by kernel_rfl
end Go.R2

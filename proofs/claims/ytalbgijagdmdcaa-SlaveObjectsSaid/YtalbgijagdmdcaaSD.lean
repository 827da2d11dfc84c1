import Derived.Test.YtalbgijagdmdcaaR9
import Derived.Test.YtalbgijagdmdcaaAbs4
set_option linter.all false
open Go.Proofs Go.Abs Go.FaR2
namespace Go.R2
/- The data of slaves. -/
def intD (n : Int) : List D := [iD n]
abbrev intsM (l : List Int) : M := .d (.sl 1 (l.map intD))
structure Setg where
  baud : Int
  par : Int
def Setg.cells (s : Setg) : List D := [iD s.baud, iD s.par]
abbrev setM (s : Setg) : M := .agg [iM s.baud, iM s.par]
abbrev setsM (l : List Setg) : M := .d (.sl 2 (l.map Setg.cells))
structure Ran where
  first : Int
  count : Int
def Ran.cells (r : Ran) : List D := [iD r.first, iD r.count]
abbrev ranM (r : Ran) : M := .agg [iM r.first, iM r.count]
abbrev ransM (l : List Ran) : M := .d (.sl 2 (l.map Ran.cells))
structure Tab where
  sup : Bool
  read : List Ran
  most : Int
abbrev tabM (t : Tab) : M := .agg [bM t.sup, ransM t.read, iM t.most]
structure Slv where
  set : Setg
  unit : Int
  t0 : Tab
  t1 : Tab
  t2 : Tab
  t3 : Tab
  level : Int
  objs : List Obj
  has : Bool
  server : List UInt8
abbrev slvM (s : Slv) : M := .agg [iM s.set.baud, iM s.set.par, iM s.unit, bM s.t0.sup, ransM s.t0.read, iM s.t0.most, bM s.t1.sup, ransM s.t1.read, iM s.t1.most,
  bM s.t2.sup, ransM s.t2.read, iM s.t2.most, bM s.t3.sup, ransM s.t3.read, iM s.t3.most, iM s.level, objsM s.objs, bM s.has, bsM s.server]
def Slv.cells (s : Slv) : List D := [iD s.set.baud, iD s.set.par, iD s.unit, bD s.t0.sup, .sl 2 (s.t0.read.map Ran.cells), iD s.t0.most, bD s.t1.sup, .sl 2 (s.t1.read.map Ran.cells), iD s.t1.most,
  bD s.t2.sup, .sl 2 (s.t2.read.map Ran.cells), iD s.t2.most, bD s.t3.sup, .sl 2 (s.t3.read.map Ran.cells), iD s.t3.most, iD s.level, .sl 2 (s.objs.map Obj.cells), bD s.has, bsD s.server]
abbrev slvsM (l : List Slv) : M := .d (.sl 19 (l.map Slv.cells))
end Go.R2

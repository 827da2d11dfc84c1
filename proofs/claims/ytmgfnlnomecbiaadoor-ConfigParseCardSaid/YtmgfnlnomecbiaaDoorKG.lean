import Derived.Test.YtmgfnlnomecbiaaDoorKF
set_option linter.all false
open Go.Proofs Go.Abs Go.Fa Go.BU Go.TX Go.TW
/- What is written is read again. -/
namespace Go.CF
set_option maxHeartbeats 1000000
set_option maxRecDepth 10000
def tailR (c : Cfg) : Rows := [unitsW :: [c.first, c.last].map dec, retriesW :: [c.ret].map dec, timeoutW :: [c.tmo].map dec, delayW :: [c.del].map dec,
  windowW :: [1, c.w0.f, c.w0.c].map dec, windowW :: [2, c.w1.f, c.w1.c].map dec, windowW :: [3, c.w2.f, c.w2.c].map dec, windowW :: [4, c.w3.f, c.w3.c].map dec, everyW :: [c.every].map dec, storeW :: [c.store].map dec]
def rowsC (c : Cfg) : Rows := c.set.map (fun s => [settingW, fmtS s]) ++ tailR c
theorem txt_rows (c : Cfg) : cfgTxt c = unlines ((rowsC c).map joinSp) := by
  simp only [cfgTxt, setT, winsT, winT, ← numT_ln, lnT, rowsC, tailR, unlines, List.map_append, List.map_map, List.flatMap_append, List.map_cons, List.map_nil, List.flatMap_cons, List.flatMap_nil, List.append_nil]
  simp [List.flatMap, Function.comp_def]
end Go.CF

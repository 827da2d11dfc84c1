import Derived.Test.YtmgfnlnomecbiaaDoorKG
set_option linter.all false
open Go.Proofs Go.Abs Go.Fa Go.BU Go.TX Go.TW
namespace Go.CF
set_option maxHeartbeats 4000000
set_option maxRecDepth 10000
-- rules: byteD, dstr, un1_str, iD, bD

theorem cfgTxt_len {c : Cfg} (h : chkF c = 0) : (cfgTxt c).length ≤ 1000 := by
  obtain ⟨⟨s1, s2⟩, _⟩ := okB h
  have hSl := setT_len c.set
  have n0 := numT_len unitsW [c.first, c.last]
  have n1 := numT_len windowW [1, c.w0.f, c.w0.c]
  have n2 := numT_len windowW [2, c.w1.f, c.w1.c]
  have n3 := numT_len windowW [3, c.w2.f, c.w2.c]
  have n4 := numT_len windowW [4, c.w3.f, c.w3.c]
  have n5 := numT_len retriesW [c.ret]
  have n6 := numT_len timeoutW [c.tmo]
  have n7 := numT_len delayW [c.del]
  have n8 := numT_len everyW [c.every]
  have n9 := numT_len storeW [c.store]
  simp only [cfgTxt, winsT, winT, List.length_append]
  simp only [unitsW, windowW, retriesW, timeoutW, delayW, everyW, storeW, List.length_cons, List.length_nil] at *
  omega
end Go.CF

import Derived.Test.YtmgfnlnomecbiaaDoorKG
set_option linter.all false
open Go.Proofs Go.Abs Go.Fa Go.BU Go.TX Go.TW
namespace Go.CF
set_option maxHeartbeats 4000000
set_option maxRecDepth 10000
-- rules: byteD, dstr, un1_str, iD, bD

theorem row_pl {c : Cfg} (h : chkF c = 0) : ∀ r ∈ rowsC c, r ≠ [] ∧ ∀ w ∈ r, plW w := by
  have hN := okN h
  have hV := list_valid (chk0 h).1
  have key : ∀ (w : List UInt8) (l : List Int), plW w → (∀ n ∈ l, 0 ≤ n ∧ n ≤ 999999999) → (w :: l.map dec) ≠ [] ∧ ∀ x ∈ w :: l.map dec, plW x := fun w l hw hl => ⟨by simp, fun x hx => by
    rcases List.mem_cons.1 hx with rfl | hx
    · exact hw
    · obtain ⟨n, hn, rfl⟩ := List.mem_map.1 hx
      exact plW_dec (hl n hn)⟩
  intro r hr
  rcases List.mem_append.1 hr with hr | hr
  · obtain ⟨s, hs, rfl⟩ := List.mem_map.1 hr
    refine ⟨by simp, fun w hw => ?_⟩
    have : w = settingW ∨ w = fmtS s := by simpa using hw
    rcases this with rfl | rfl
    · exact ⟨by decide, by decide⟩
    · exact plW_set (hV s hs)
  · simp only [tailR, List.mem_cons, List.not_mem_nil, or_false] at hr
    rcases hr with rfl | rfl | rfl | rfl | rfl | rfl | rfl | rfl | rfl | rfl
    all_goals
      refine key _ _ ⟨by decide, by decide⟩ fun n hn => ?_
      simp only [List.mem_cons, List.not_mem_nil, or_false] at hn
      first
      | (refine hN n ?_; simp only [List.mem_cons, List.not_mem_nil, or_false]; simp [hn]; done)
      | (refine hN n ?_; simp only [List.mem_cons, List.not_mem_nil, or_false]; rcases hn with hn | hn <;> simp [hn]; done)
      | (rcases hn with rfl | hn
         · exact ⟨by decide, by decide⟩
         · refine hN n ?_; simp only [List.mem_cons, List.not_mem_nil, or_false]; rcases hn with hn | hn <;> simp [hn])
theorem rows_read {L : Rows} (h : ∀ r ∈ L, r ≠ [] ∧ ∀ w ∈ r, plW w) : linesF (unlines (L.map joinSp)) = some (L.map joinSp) ∧ wordsL (L.map joinSp) = L ∧ wordsK (L.map joinSp) = true := by
  have hw : ∀ r ∈ L, wordsF (joinSp r) = some r := fun r hr => wordsF_of (h r hr).1 (h r hr).2
  refine ⟨lines_unlines _ fun w hw' => ?_, ?_, ?_⟩
  · obtain ⟨r, hr, rfl⟩ := List.mem_map.1 hw'
    exact join_pr r (h r hr).2
  · rw [wordsL, List.map_map]
    have : L.map ((fun l => (wordsF l).getD []) ∘ joinSp) = L.map id := List.map_congr_left fun r hr => by simp [hw r hr]
    rw [this, List.map_id]
  · rw [wordsK, List.all_eq_true]
    intro x hx
    obtain ⟨r, hr, rfl⟩ := List.mem_map.1 hx
    rw [hw r hr]; rfl
theorem cfgTxt_len {c : Cfg} (h : chkF c = 0) : (cfgTxt c).length ≤ 1000 := by
  obtain ⟨⟨s1, s2⟩, _⟩ := okB h
  have hSl := setT_len c.set
  have n0 := numT_len unitsW [c.first, c.last]
  have n1 := numT_len windowW [1, c.w0.f, c.w0.c]
  have n2 := numT_len windowW [2, c.w1.f, c.w1.c]
  have n3 := numT_len windowW [3, c.w2.f, c.w2.c]
  have n4 := numT_len windowW [4, c.w3.f, c.w3.c]
  have n5 := numT_len retriesW [c.ret]
  have n6 := numT_len timeoutW [c.tmo]
  have n7 := numT_len delayW [c.del]
  have n8 := numT_len everyW [c.every]
  have n9 := numT_len storeW [c.store]
  simp only [cfgTxt, winsT, winT, List.length_append]
  simp only [unitsW, windowW, retriesW, timeoutW, delayW, everyW, storeW, List.length_cons, List.length_nil] at *
  omega
end Go.CF

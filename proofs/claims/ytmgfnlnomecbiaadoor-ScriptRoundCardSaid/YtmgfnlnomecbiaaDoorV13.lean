import Derived.Test.YtmgfnlnomecbiaaDoorV12
set_option linter.all false
open Go.Proofs Go.Abs Go.Fa Go.BU Go.TX Go.TW
namespace Go.SC
set_option maxHeartbeats 4000000
set_option maxRecDepth 10000
-- rules: byteD, dstr, un1_str, iD, bD

def nb (n : Int) : Prop := 0 ≤ n ∧ n ≤ 999999999
/-- What can be written. -/
def AttB (a : Att) : Prop := (0 ≤ a.fault ∧ a.fault ≤ 6) ∧ nb a.lat ∧ nb a.pos ∧ nb a.mask ∧ nb a.ticks ∧ nb a.val
def kindW (i : Nat) : List UInt8 := (kindsL.getD i ([], false, false, false)).1
def attWs (a : Att) : List (List UInt8) := [attW, dec a.lat, dec a.val, kindW a.fault.toNat] ++
  (if a.fault = 3 then [dec a.pos, hexF a.mask 4] else if a.fault = 4 then [dec a.ticks] else if a.fault = 6 then [dec a.pos, dec a.ticks] else [])
def lineT (ws : List (List UInt8)) : List UInt8 := joinSp ws ++ [10]
def crWs (c : Cr) : List (List UInt8) := [crashW, dec c.step, dec c.keep]
def scrTxt (s : Scr) : List UInt8 := (s.att.map fun a => lineT (attWs a)).flatten ++ (if s.loop then lineT [loopW] else []) ++ (s.crs.map fun c => lineT (crWs c)).flatten
theorem nbI {n : Int} (h : nb n) : -9223372036854775808 ≤ n ∧ n ≤ 9223372036854775807 := ⟨by have := h.1; omega, by have := h.2; omega⟩
theorem hex4 (n : Int) : (hexF n 4).length ≤ 4 := by
  unfold hexF; split
  · simp
  · rw [hexD_length]; omega
theorem kindW_len : ∀ i : Nat, (kindW i).length ≤ 7 := by
  intro i
  unfold kindW
  by_cases h : i < 7
  · have : i = 0 ∨ i = 1 ∨ i = 2 ∨ i = 3 ∨ i = 4 ∨ i = 5 ∨ i = 6 := by omega
    rcases this with rfl | rfl | rfl | rfl | rfl | rfl | rfl <;> decide
  · rw [List.getD_eq_getElem?_getD, List.getElem?_eq_none (by simp [kindsL]; omega)]; simp
theorem attWs_sum (a : Att) : ((attWs a).map fun w => w.length + 1).sum ≤ 70 := by
  have h1 := dec_len a.lat
  have h2 := dec_len a.val
  have h3 := dec_len a.pos
  have h4 := dec_len a.ticks
  have h5 := hex4 a.mask
  have h6 := kindW_len a.fault.toNat
  unfold attWs
  split
  · simp [attW]; omega
  · split
    · simp [attW]; omega
    · split
      · simp [attW]; omega
      · simp [attW]; omega
theorem line_len (ws : List (List UInt8)) : (lineT ws).length ≤ (ws.map fun w => w.length + 1).sum + 1 := by
  unfold lineT
  induction ws with
  | nil => simp [joinSp]
  | cons w l ih =>
    cases l with
    | nil => simp [joinSp]
    | cons x r => simp [joinSp] at ih ⊢; omega
theorem attL_len (l : List Att) : ((l.map fun a => lineT (attWs a)).flatten).length ≤ 71 * l.length := by
  induction l with
  | nil => simp
  | cons a l ih =>
    have h1 := line_len (attWs a)
    have h2 := attWs_sum a
    simp only [List.map_cons, List.flatten_cons, List.length_append, List.length_cons]
    omega
theorem crWs_sum (c : Cr) : ((crWs c).map fun w => w.length + 1).sum ≤ 40 := by
  have h1 := dec_len c.step
  have h2 := dec_len c.keep
  simp [crWs, crashW]; omega
theorem crL_len (l : List Cr) : ((l.map fun a => lineT (crWs a)).flatten).length ≤ 41 * l.length := by
  induction l with
  | nil => simp
  | cons a l ih =>
    have h1 := line_len (crWs a)
    have h2 := crWs_sum a
    simp only [List.map_cons, List.flatten_cons, List.length_append, List.length_cons]
    omega
theorem take_flat {α : Type} (l : List α) (g : α → List UInt8) {i : Nat} {y : α} (hy : l[i]? = some y) : ((l.take (i + 1)).map g).flatten = ((l.take i).map g).flatten ++ g y := by
  rw [List.take_add_one, hy]; simp
theorem ScriptTextR (s : Scr) (h1 : s.att.length ≤ 5000) (h2 : s.crs.length ≤ 5000) (hA : ∀ a ∈ s.att, AttB a) (hC : ∀ c ∈ s.crs, nb c.step ∧ nb c.keep) : PFn Tryd.prog 20 [scrM s] (strM (scrTxt s)) := by
  obtain ⟨l, lp, c⟩ := s
  simp only at h1 h2 hA hC
  unfold scrTxt
  simp only
  (refine PFn.of (prs := [(6, [(2, 3), (2, 4), (0, 6), (1, 6), (2, 6), (3, 6), (4, 6), (5, 6), (2, 7), (5, 7), (6, 7), (2, 8), (5, 8), (6, 8), (2, 9), (5, 9), (2, 10), (5, 10)]), (9, [(3, 4), (3, 5)]), (13, [(3, 4), (3, 5)]), (20, [(7, 8), (7, 9), (7, 11), (7, 12), (7, 13)])]) Tryd.func20 rfl rfl mix (by kernel_rfl) rfl rfl ?_; simp only [Tryd.ntmps20, argUpd])
  simp only [↓ru, rv, rl, ry, tyf, iM, bM, bsM, cond_true, cond_false, Nat.reduceLT, Nat.reduceBEq, Nat.reduceAdd, Nat.reduceEqDiff, Nat.reduceMul, Nat.reduceLeDiff, Nat.reduceSub, Nat.reduceDiv, Int.reduceLE, Int.reduceLT, Int.reduceNeg, Int.reduceAdd, Int.reduceSub, Int.reduceMul, Int.reduceToNat, Int.reducePow, Int.reduceEq, ne_eq, reduceIte, byteD, dstr, un1_str, iD, bD]
  refine aloop_lv (fun i : Nat => [(1, .ptr 0 0), (3, strM ((l.take i).map fun a => lineT (attWs a)).flatten), (4, iM i)]) (fun _ => [(0, .st [attsM l, bM lp, crsM c])]) (fun i => i ≤ l.length) (fun i => l.length - i) 0 0 ?_ rfl (by omega) (by omega) ?_
  · simp only [↓ru, rv, rl, ry, tyf, iM, bM, bsM, cond_true, cond_false, Nat.reduceLT, Nat.reduceBEq, Nat.reduceAdd, Nat.reduceEqDiff, Nat.reduceMul, Nat.reduceLeDiff, Nat.reduceSub, Nat.reduceDiv, Int.reduceLE, Int.reduceLT, Int.reduceNeg, Int.reduceAdd, Int.reduceSub, Int.reduceMul, Int.reduceToNat, Int.reducePow, Int.reduceEq, ne_eq, reduceIte, byteD, dstr, un1_str, iD, bD]
    try simp
  intro i e0 n hi
  have hln := attL_len (l.take i)
  have hlt : (l.take i).length ≤ 5000 := by simp; omega
  have hnx : Shut (∀ y, l[i]? = some y → ((l.take (i + 1)).map fun a => lineT (attWs a)).flatten = ((l.take i).map fun a => lineT (attWs a)).flatten ++ lineT (attWs y)) := fun y hy => take_flat l _ hy
  have hnd : Shut (¬ i < l.length → ((l.take i).map fun a => lineT (attWs a)).flatten = (l.map fun a => lineT (attWs a)).flatten) := fun h => by rw [List.take_of_length_le (by omega)]
  generalize ((l.take i).map fun a => lineT (attWs a)).flatten = T at hln hnx hnd ⊢
  simp only [↓ru, rv, rl, ry, tyf, iM, bM, bsM, cond_true, cond_false, Nat.reduceLT, Nat.reduceBEq, Nat.reduceAdd, Nat.reduceEqDiff, Nat.reduceMul, Nat.reduceLeDiff, Nat.reduceSub, Nat.reduceDiv, Int.reduceLE, Int.reduceLT, Int.reduceNeg, Int.reduceAdd, Int.reduceSub, Int.reduceMul, Int.reduceToNat, Int.reducePow, Int.reduceEq, ne_eq, reduceIte, byteD, dstr, un1_str, iD, bD]
  refine fork_split (fun h => ?_) (fun h => ?_)
  · have h' := of_decide_eq_true h
    obtain ⟨y, hy⟩ := get_of_lt (l := l) (i := i) (by omega)
    have hB := hA y (List.mem_of_getElem? hy)
    have hny := hnx y hy
    have hsum := attWs_sum y
    have hll := line_len (attWs y)
    obtain ⟨X, hX⟩ : ∃ X, X = lineT (attWs y) := ⟨_, rfl⟩
    have hLn : PFn Tryd.prog 47 [strsM (attWs y)] (strM X) := by rw [hX]; exact Line (attWs y) (by omega)
    rw [← hX] at hll hny
    have hXl : X.length ≤ 71 := by omega
    clear hX hll hsum hnx hnd
    have hny' : Shut (((l.take (i + 1)).map fun a => lineT (attWs a)).flatten = T ++ X) := hny
    clear hny
    obtain ⟨lat, fault, pos, mask, ticks, val⟩ := y
    obtain ⟨⟨hf0, hf6⟩, b1, b2, b3, b4, b5⟩ := hB
    simp only at hf0 hf6 b1 b2 b3 b4 b5
    have d1 := DecimalR lat (nbI b1)
    have d2 := DecimalR pos (nbI b2)
    have d3 := HexR mask 4 (nbI b3) (by decide)
    have d4 := DecimalR ticks (nbI b4)
    have d5 := DecimalR val (nbI b5)
    have hff : fault = 0 ∨ fault = 1 ∨ fault = 2 ∨ fault = 3 ∨ fault = 4 ∨ fault = 5 ∨ fault = 6 := by omega
    rcases hff with rfl | rfl | rfl | rfl | rfl | rfl | rfl
    all_goals
      (try (simp only [↓ru, rv, rl, ry, tyf, iM, bM, bsM, cond_true, cond_false, Nat.reduceLT, Nat.reduceBEq, Nat.reduceAdd, Nat.reduceEqDiff, Nat.reduceMul, Nat.reduceLeDiff, Nat.reduceSub, Nat.reduceDiv, Int.reduceLE, Int.reduceLT, Int.reduceNeg, Int.reduceAdd, Int.reduceSub, Int.reduceMul, Int.reduceToNat, Int.reducePow, Int.reduceEq, ne_eq, reduceIte, byteD, dstr, un1_str, iD, bD, hy, *])); repeat' ((first | (refine fork_split (fun _h => ?_) (fun _h => ?_)) | (refine gfork_split (fun _h => ?_) (fun _h => ?_)) | (refine dfork_split (fun _h => ?_) (fun _h => ?_)) | (refine acall1_pure d1 rfl rfl ?_) | (refine dcall1_pure d1 rfl rfl ?_) | (refine acall1_pure d2 rfl rfl ?_) | (refine dcall1_pure d2 rfl rfl ?_) | (refine acall1_pure d3 rfl rfl ?_) | (refine dcall1_pure d3 rfl rfl ?_) | (refine acall1_pure d4 rfl rfl ?_) | (refine dcall1_pure d4 rfl rfl ?_) | (refine acall1_pure d5 rfl rfl ?_) | (refine dcall1_pure d5 rfl rfl ?_)) <;> (try (simp only [↓ru, rv, rl, ry, tyf, iM, bM, bsM, cond_true, cond_false, Nat.reduceLT, Nat.reduceBEq, Nat.reduceAdd, Nat.reduceEqDiff, Nat.reduceMul, Nat.reduceLeDiff, Nat.reduceSub, Nat.reduceDiv, Int.reduceLE, Int.reduceLT, Int.reduceNeg, Int.reduceAdd, Int.reduceSub, Int.reduceMul, Int.reduceToNat, Int.reducePow, Int.reduceEq, ne_eq, reduceIte, byteD, dstr, un1_str, iD, bD, hy, *])))
      refine acall1_pure hLn rfl rfl ?_
      simp only [↓ru, rv, rl, ry, tyf, iM, bM, bsM, cond_true, cond_false, Nat.reduceLT, Nat.reduceBEq, Nat.reduceAdd, Nat.reduceEqDiff, Nat.reduceMul, Nat.reduceLeDiff, Nat.reduceSub, Nat.reduceDiv, Int.reduceLE, Int.reduceLT, Int.reduceNeg, Int.reduceAdd, Int.reduceSub, Int.reduceMul, Int.reduceToNat, Int.reducePow, Int.reduceEq, ne_eq, reduceIte, byteD, dstr, un1_str, iD, bD]
      simp (disch := (first | omega | (simp only [List.length_append, List.length_cons, List.length_nil, List.length_map, List.length_take, List.length_replicate, List.length_drop] <;> omega))) only [bin_str_add, kk_eq, wrap_i64, wrap_u8, wrap_u16, wrap_u64]
      simp only [↓ru, rv, rl, ry, tyf, iM, bM, bsM, cond_true, cond_false, Nat.reduceLT, Nat.reduceBEq, Nat.reduceAdd, Nat.reduceEqDiff, Nat.reduceMul, Nat.reduceLeDiff, Nat.reduceSub, Nat.reduceDiv, Int.reduceLE, Int.reduceLT, Int.reduceNeg, Int.reduceAdd, Int.reduceSub, Int.reduceMul, Int.reduceToNat, Int.reducePow, Int.reduceEq, ne_eq, reduceIte, byteD, dstr, un1_str, iD, bD]
      simp (disch := omega) only [wrap_i64, wrap_u8, wrap_u16, wrap_u64]
      refine loopL_drop (i + 1) ?_ ?_ (by omega) (by omega) (by omega)
      · unfold Shut at hny'
        simp only [↓ru, rv, rl, ry, tyf, iM, bM, bsM, cond_true, cond_false, Nat.reduceLT, Nat.reduceBEq, Nat.reduceAdd, Nat.reduceEqDiff, Nat.reduceMul, Nat.reduceLeDiff, Nat.reduceSub, Nat.reduceDiv, Int.reduceLE, Int.reduceLT, Int.reduceNeg, Int.reduceAdd, Int.reduceSub, Int.reduceMul, Int.reduceToNat, Int.reducePow, Int.reduceEq, ne_eq, reduceIte, byteD, dstr, un1_str, iD, bD, hny']
        try simp
      · simp only [↓ru, rv, rl, ry, tyf, iM, bM, bsM, cond_true, cond_false, Nat.reduceLT, Nat.reduceBEq, Nat.reduceAdd, Nat.reduceEqDiff, Nat.reduceMul, Nat.reduceLeDiff, Nat.reduceSub, Nat.reduceDiv, Int.reduceLE, Int.reduceLT, Int.reduceNeg, Int.reduceAdd, Int.reduceSub, Int.reduceMul, Int.reduceToNat, Int.reducePow, Int.reduceEq, ne_eq, reduceIte, byteD, dstr, un1_str, iD, bD]
  · have h' := of_decide_eq_false h
    have hT := hnd (by omega)
    have hTl : T.length ≤ 400000 := by omega
    rw [← hT]
    clear hnx hnd hT hln hlt
    have hlw : lineT [loopW] = [108, 111, 111, 112, 10] := rfl
    obtain ⟨U, hU, hUl⟩ : ∃ U, U = T ++ (if lp then lineT [loopW] else []) ∧ U.length ≤ 400005 := ⟨_, rfl, by rw [hlw]; cases lp <;> simp <;> omega⟩
    rw [← hU]
    rw [hlw] at hU
    cases lp
    all_goals
      simp only [if_true, if_false, Bool.false_eq_true, List.append_nil] at hU
      have hU' : Shut (U = _) := hU
      clear hU
      simp only [↓ru, rv, rl, ry, tyf, iM, bM, bsM, cond_true, cond_false, Nat.reduceLT, Nat.reduceBEq, Nat.reduceAdd, Nat.reduceEqDiff, Nat.reduceMul, Nat.reduceLeDiff, Nat.reduceSub, Nat.reduceDiv, Int.reduceLE, Int.reduceLT, Int.reduceNeg, Int.reduceAdd, Int.reduceSub, Int.reduceMul, Int.reduceToNat, Int.reducePow, Int.reduceEq, ne_eq, reduceIte, byteD, dstr, un1_str, iD, bD]
      (try simp (disch := (first | omega | (simp only [List.length_append, List.length_cons, List.length_nil, List.length_map, List.length_take, List.length_replicate, List.length_drop] <;> omega))) only [bin_str_add, kk_eq, wrap_i64, wrap_u8, wrap_u16, wrap_u64])
      (try simp only [↓ru, rv, rl, ry, tyf, iM, bM, bsM, cond_true, cond_false, Nat.reduceLT, Nat.reduceBEq, Nat.reduceAdd, Nat.reduceEqDiff, Nat.reduceMul, Nat.reduceLeDiff, Nat.reduceSub, Nat.reduceDiv, Int.reduceLE, Int.reduceLT, Int.reduceNeg, Int.reduceAdd, Int.reduceSub, Int.reduceMul, Int.reduceToNat, Int.reducePow, Int.reduceEq, ne_eq, reduceIte, byteD, dstr, un1_str, iD, bD])
      refine aloop_lv (fun j : Nat => [(1, .ptr 0 0), (3, strM (U ++ ((c.take j).map fun a => lineT (crWs a)).flatten)), (7, iM j)]) (fun _ => [(0, .st [attsM l, _, crsM c])]) (fun j => j ≤ c.length) (fun j => c.length - j) 0 0 ?_ rfl (by omega) (by omega) ?_
      · unfold Shut at hU'
        simp only [↓ru, rv, rl, ry, tyf, iM, bM, bsM, cond_true, cond_false, Nat.reduceLT, Nat.reduceBEq, Nat.reduceAdd, Nat.reduceEqDiff, Nat.reduceMul, Nat.reduceLeDiff, Nat.reduceSub, Nat.reduceDiv, Int.reduceLE, Int.reduceLT, Int.reduceNeg, Int.reduceAdd, Int.reduceSub, Int.reduceMul, Int.reduceToNat, Int.reducePow, Int.reduceEq, ne_eq, reduceIte, byteD, dstr, un1_str, iD, bD, hU']
        try simp
      intro j e1 n2 hj
      have hln := crL_len (c.take j)
      have hlt : (c.take j).length ≤ 5000 := by simp; omega
      have hnx : Shut (∀ y, c[j]? = some y → ((c.take (j + 1)).map fun a => lineT (crWs a)).flatten = ((c.take j).map fun a => lineT (crWs a)).flatten ++ lineT (crWs y)) := fun y hy => take_flat c _ hy
      have hnd : Shut (¬ j < c.length → ((c.take j).map fun a => lineT (crWs a)).flatten = (c.map fun a => lineT (crWs a)).flatten) := fun h => by rw [List.take_of_length_le (by omega)]
      generalize ((c.take j).map fun a => lineT (crWs a)).flatten = V at hln hnx hnd ⊢
      simp only [↓ru, rv, rl, ry, tyf, iM, bM, bsM, cond_true, cond_false, Nat.reduceLT, Nat.reduceBEq, Nat.reduceAdd, Nat.reduceEqDiff, Nat.reduceMul, Nat.reduceLeDiff, Nat.reduceSub, Nat.reduceDiv, Int.reduceLE, Int.reduceLT, Int.reduceNeg, Int.reduceAdd, Int.reduceSub, Int.reduceMul, Int.reduceToNat, Int.reducePow, Int.reduceEq, ne_eq, reduceIte, byteD, dstr, un1_str, iD, bD]
      refine fork_split (fun h2 => ?_) (fun h2 => ?_)
      · have h2' := of_decide_eq_true h2
        obtain ⟨y, hy⟩ := get_of_lt (l := c) (i := j) (by omega)
        have hB := hC y (List.mem_of_getElem? hy)
        have hny := hnx y hy
        have hsum := crWs_sum y
        have hll := line_len (crWs y)
        obtain ⟨X, hX⟩ : ∃ X, X = lineT (crWs y) := ⟨_, rfl⟩
        have hLn : PFn Tryd.prog 47 [strsM (crWs y)] (strM X) := by rw [hX]; exact Line (crWs y) (by omega)
        rw [← hX] at hll hny
        have hXl : X.length ≤ 41 := by omega
        clear hX hll hsum hnx hnd
        have hny' : Shut (((c.take (j + 1)).map fun a => lineT (crWs a)).flatten = V ++ X) := hny
        clear hny
        obtain ⟨step, keep⟩ := y
        have d1 := DecimalR step (nbI hB.1)
        have d2 := DecimalR keep (nbI hB.2)
        (try (simp only [↓ru, rv, rl, ry, tyf, iM, bM, bsM, cond_true, cond_false, Nat.reduceLT, Nat.reduceBEq, Nat.reduceAdd, Nat.reduceEqDiff, Nat.reduceMul, Nat.reduceLeDiff, Nat.reduceSub, Nat.reduceDiv, Int.reduceLE, Int.reduceLT, Int.reduceNeg, Int.reduceAdd, Int.reduceSub, Int.reduceMul, Int.reduceToNat, Int.reducePow, Int.reduceEq, ne_eq, reduceIte, byteD, dstr, un1_str, iD, bD, hy, *])); repeat' ((first | (refine fork_split (fun _h => ?_) (fun _h => ?_)) | (refine gfork_split (fun _h => ?_) (fun _h => ?_)) | (refine dfork_split (fun _h => ?_) (fun _h => ?_)) | (refine acall1_pure d1 rfl rfl ?_) | (refine dcall1_pure d1 rfl rfl ?_) | (refine acall1_pure d2 rfl rfl ?_) | (refine dcall1_pure d2 rfl rfl ?_)) <;> (try (simp only [↓ru, rv, rl, ry, tyf, iM, bM, bsM, cond_true, cond_false, Nat.reduceLT, Nat.reduceBEq, Nat.reduceAdd, Nat.reduceEqDiff, Nat.reduceMul, Nat.reduceLeDiff, Nat.reduceSub, Nat.reduceDiv, Int.reduceLE, Int.reduceLT, Int.reduceNeg, Int.reduceAdd, Int.reduceSub, Int.reduceMul, Int.reduceToNat, Int.reducePow, Int.reduceEq, ne_eq, reduceIte, byteD, dstr, un1_str, iD, bD, hy, *])))
        refine dcall1_pure hLn rfl rfl ?_
        simp only [↓ru, rv, rl, ry, tyf, iM, bM, bsM, cond_true, cond_false, Nat.reduceLT, Nat.reduceBEq, Nat.reduceAdd, Nat.reduceEqDiff, Nat.reduceMul, Nat.reduceLeDiff, Nat.reduceSub, Nat.reduceDiv, Int.reduceLE, Int.reduceLT, Int.reduceNeg, Int.reduceAdd, Int.reduceSub, Int.reduceMul, Int.reduceToNat, Int.reducePow, Int.reduceEq, ne_eq, reduceIte, byteD, dstr, un1_str, iD, bD]
        simp (disch := (first | omega | (simp only [List.length_append, List.length_cons, List.length_nil, List.length_map, List.length_take, List.length_replicate, List.length_drop] <;> omega))) only [bin_str_add, kk_eq, wrap_i64, wrap_u8, wrap_u16, wrap_u64]
        simp only [↓ru, rv, rl, ry, tyf, iM, bM, bsM, cond_true, cond_false, Nat.reduceLT, Nat.reduceBEq, Nat.reduceAdd, Nat.reduceEqDiff, Nat.reduceMul, Nat.reduceLeDiff, Nat.reduceSub, Nat.reduceDiv, Int.reduceLE, Int.reduceLT, Int.reduceNeg, Int.reduceAdd, Int.reduceSub, Int.reduceMul, Int.reduceToNat, Int.reducePow, Int.reduceEq, ne_eq, reduceIte, byteD, dstr, un1_str, iD, bD]
        (try simp (disch := omega) only [wrap_i64, wrap_u8, wrap_u16, wrap_u64])
        refine loopL_drop (j + 1) ?_ ?_ (by omega) (by omega) (by omega)
        · unfold Shut at hny'
          simp only [↓ru, rv, rl, ry, tyf, iM, bM, bsM, cond_true, cond_false, Nat.reduceLT, Nat.reduceBEq, Nat.reduceAdd, Nat.reduceEqDiff, Nat.reduceMul, Nat.reduceLeDiff, Nat.reduceSub, Nat.reduceDiv, Int.reduceLE, Int.reduceLT, Int.reduceNeg, Int.reduceAdd, Int.reduceSub, Int.reduceMul, Int.reduceToNat, Int.reducePow, Int.reduceEq, ne_eq, reduceIte, byteD, dstr, un1_str, iD, bD, hny']
          try simp
        · simp only [↓ru, rv, rl, ry, tyf, iM, bM, bsM, cond_true, cond_false, Nat.reduceLT, Nat.reduceBEq, Nat.reduceAdd, Nat.reduceEqDiff, Nat.reduceMul, Nat.reduceLeDiff, Nat.reduceSub, Nat.reduceDiv, Int.reduceLE, Int.reduceLT, Int.reduceNeg, Int.reduceAdd, Int.reduceSub, Int.reduceMul, Int.reduceToNat, Int.reducePow, Int.reduceEq, ne_eq, reduceIte, byteD, dstr, un1_str, iD, bD]
      · have h2' := of_decide_eq_false h2
        have hV := hnd (by omega)
        rw [← hV]
        simp only [↓ru, rv, rl, ry, tyf, iM, bM, bsM, cond_true, cond_false, Nat.reduceLT, Nat.reduceBEq, Nat.reduceAdd, Nat.reduceEqDiff, Nat.reduceMul, Nat.reduceLeDiff, Nat.reduceSub, Nat.reduceDiv, Int.reduceLE, Int.reduceLT, Int.reduceNeg, Int.reduceAdd, Int.reduceSub, Int.reduceMul, Int.reduceToNat, Int.reducePow, Int.reduceEq, ne_eq, reduceIte, byteD, dstr, un1_str, iD, bD, pureEnd_of (fn := Tryd.f20) (rs := [.tmp 2]) (ts := [9]) rfl rfl]
end Go.SC

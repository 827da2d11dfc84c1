import Derived.Test.YtmgfnlnomecbiaaDoorKN
set_option linter.all false
open Go.Proofs Go.Abs Go.Fa Go.BU Go.TX Go.TW
/- ConfigLines: the walk. -/
namespace Go.CF
set_option maxHeartbeats 4000000
set_option maxRecDepth 10000
-- rules: byteD, dstr, un1_str, iD, bD
/-- The lines of the text of a configuration. -/
def linC (c : Cfg) : List (List UInt8) := (rowsC c).map lnT
theorem linC_lns {c : Cfg} (h : chkF c = 0) : lns (cfgTxt c) [] = linC c := by
  have hp := row_pl h
  rw [txt_rows, ← flat_unlines]
  exact lns_lines _ fun r hr => pl_no10 (hp r hr).2
theorem linC_flat {c : Cfg} : (linC c).flatten = cfgTxt c := by rw [txt_rows, ← flat_unlines]; rfl
theorem tailR_len (c : Cfg) : (tailR c).length = 10 := rfl
theorem linC_eq (c : Cfg) : linC c = (c.set.map (fun s => [settingW, fmtS s])).map lnT ++ (tailR c).map lnT := by rw [linC, rowsC, List.map_append]
theorem linC_len (c : Cfg) : (linC c).length = c.set.length + 10 := by rw [linC_eq]; simp [tailR_len]
theorem lin_take (c : Cfg) (I : Nat) : (linC c).take (c.set.length + I) = (c.set.map (fun s => [settingW, fmtS s])).map lnT ++ ((tailR c).take I).map lnT := by
  rw [linC_eq, List.take_append, List.take_of_length_le (by simp)]
  simp
theorem lin_drop (c : Cfg) (I : Nat) : (linC c).drop (c.set.length + I) = ((tailR c).drop I).map lnT := by
  rw [linC_eq, List.drop_append, List.drop_eq_nil_of_le (by simp)]
  simp
theorem flat_len {L X : List (List UInt8)} (h : ∀ x ∈ X, x ∈ L) : X.flatten.length ≤ X.length * L.flatten.length := by
  induction X with
  | nil => simp
  | cons x X ih =>
    have h1 := ih fun y hy => h y (by simp [hy])
    have h2 : x.length ≤ L.flatten.length := by
      obtain ⟨a, b, e⟩ := List.append_of_mem (h x (by simp))
      rw [e]; simp; omega
    simp only [List.flatten_cons, List.length_append, List.length_cons, Nat.succ_mul]
    omega
theorem take_flat {X : List (List UInt8)} {j : Nat} (h : j < X.length) : (X.take (j + 1)).flatten = (X.take j).flatten ++ X[j] := by
  rw [show X.take (j + 1) = X.take j ++ [X[j]] from by simp]; simp [-List.take_append_getElem]
theorem flat_take {X : List (List UInt8)} (j : Nat) : (X.take j).flatten.length ≤ X.flatten.length := by
  conv => rhs; rw [← List.take_append_drop j X]
  rw [List.flatten_append, List.length_append]; omega
theorem cut_bad {c : Cfg} (h : chkF c = 0) {I : Nat} (hI : I < 10) : parC ((linC c).take (c.set.length + I) ++ (linC c).drop (c.set.length + I + 1)).flatten = (cfg0, 1) := by
  rw [lin_take, Nat.add_assoc, lin_drop, List.append_assoc, ← List.map_append, ← List.map_append]
  refine bad_rest h (fun r hr => ?_) (fun hb => ?_)
  · rcases List.mem_append.1 hr with hr | hr
    · exact List.mem_of_mem_take hr
    · exact List.mem_of_mem_drop hr
  · have := hb.1
    simp [tailR_len] at this
    omega
theorem rep_bad {c : Cfg} (h : chkF c = 0) {I : Nat} (hI : I < 10) : parC ((linC c).take (c.set.length + I + 1) ++ (linC c).drop (c.set.length + I)).flatten = (cfg0, 1) := by
  rw [Nat.add_assoc, lin_take, lin_drop, List.append_assoc, ← List.map_append, ← List.map_append]
  refine bad_rest h (fun r hr => ?_) (fun hb => ?_)
  · rcases List.mem_append.1 hr with hr | hr
    · exact List.mem_of_mem_take hr
    · exact List.mem_of_mem_drop hr
  · have := hb.1
    simp [tailR_len] at this
    omega
theorem swp_bad {c : Cfg} (h : chkF c = 0) {I K : Nat} (hI : I < 10) (hK : K < 10) (hne : I ≠ K) {x y : List UInt8} (hx : (linC c)[c.set.length + I]? = some x) (hy : (linC c)[c.set.length + K]? = some y) :
    parC (((linC c).set (c.set.length + I) y).set (c.set.length + K) x).flatten = (cfg0, 1) := by
  rw [linC_eq, List.getElem?_append_right (by simp)] at hx hy
  simp only [List.length_map, Nat.add_sub_cancel_left, List.getElem?_map] at hx hy
  obtain ⟨rI, h1, rfl⟩ := Option.map_eq_some_iff.1 hx
  obtain ⟨rK, h2, rfl⟩ := Option.map_eq_some_iff.1 hy
  rw [linC_eq, List.set_append_right _ _ (by simp), List.set_append_right _ _ (by simp)]
  simp only [List.length_map, Nat.add_sub_cancel_left, ← List.map_set]
  rw [← List.map_append]
  refine bad_rest h (fun r hr => ?_) (fun hb => ?_)
  · rcases List.mem_or_eq_of_mem_set hr with hr | rfl
    · rcases List.mem_or_eq_of_mem_set hr with hr | rfl
      · exact hr
      · exact List.mem_of_getElem? h2
    · exact List.mem_of_getElem? h1
  · have := hb.2 I hI
    rw [swap_bad (c := c) hI hK hne] at this
    · cases this
    · rw [List.getElem?_set_ne (fun e => hne e.symm), List.getElem?_set_self (by rw [tailR_len]; omega), h2]
theorem lConfigLines (c : Cfg) (hc : c.set.length ≤ 9223372036854775807) (i k d : Int) (hi : -9223372036854775808 ≤ i ∧ i ≤ 9223372036854775807) (hk : -9223372036854775808 ≤ k ∧ k ≤ 9223372036854775807) (hd : -9223372036854775808 ≤ d ∧ d ≤ 9223372036854775807) :
    PFn Tryd.prog 12 [cfgM c, iM i, iM k, iM d] (bM true) := by
  have hSh := Short c
  by_cases h0 : chkF c = 0
  · have hF := FormatR c h0
    have htl := cfgTxt_len h0
    have hne := cfg_ne c
    have hLn := linC_lns h0
    have hLl := linC_len c
    have hLf := linC_flat (c := c)
    have hcut := fun (I : Nat) (hI : I < 10) => cut_bad h0 hI
    have hrep := fun (I : Nat) (hI : I < 10) => rep_bad h0 hI
    have hswp := fun (I K : Nat) (hI : I < 10) (hK : K < 10) => swp_bad h0 hI hK
    have hs6 := (okB h0).1
    clear h0
    generalize linC c = L at *
    generalize cfgTxt c = T at *
    generalize hsh : decide ((c.set.length : Int) ≤ 10) = sh at *
    generalize hfl : (!decide (d % 3 = 2)) = fl
    obtain ⟨set, first, last, ret, tmo, del, w0, w1, w2, w3, every, store⟩ := c
    simp only at hLl hcut hrep hswp hs6 hsh
    have hMi := ModC i 10 hi (by decide)
    have hMk := ModC k 10 hk (by decide)
    have hMd := ModC d 3 hd (by decide)
    obtain ⟨I, eI⟩ : ∃ I : Nat, i % 10 = I := ⟨(i % 10).toNat, by omega⟩
    obtain ⟨K, eK⟩ : ∃ K : Nat, k % 10 = K := ⟨(k % 10).toNat, by omega⟩
    have hI : I < 10 := by omega
    have hK : K < 10 := by omega
    rw [eI] at hMi
    rw [eK] at hMk
    clear eI eK
    (refine PFn.of (prs := [(19, [(2, 6), (3, 6), (2, 7), (3, 7)]), (21, [(2, 7), (3, 7), (4, 7)]), (17, [])]) Tryd.func12 rfl rfl mix (by kernel_rfl) rfl rfl ?_; simp only [Tryd.ntmps12, argUpd])
    cases sh
    · (try (simp only [↓ru, rv, rl, ry, tyf, iM, bM, bsM, cond_true, cond_false, Nat.reduceLT, Nat.reduceBEq, Nat.reduceAdd, Nat.reduceEqDiff, Nat.reduceMul, Nat.reduceLeDiff, Nat.reduceSub, Nat.reduceDiv, Int.reduceLE, Int.reduceLT, Int.reduceNeg, Int.reduceAdd, Int.reduceSub, Int.reduceMul, Int.reduceToNat, Int.reducePow, Int.reduceEq, ne_eq, reduceIte, byteD, dstr, un1_str, iD, bD, decide_true, pureEnd_of (fn := Tryd.f12) (rs := [.tmp 8]) (ts := [4]) rfl rfl, *])); repeat' ((first | (refine fork_split (fun _h => ?_) (fun _h => ?_)) | (refine gfork_split (fun _h => ?_) (fun _h => ?_)) | (refine dfork_split (fun _h => ?_) (fun _h => ?_)) | (refine acall1_pure hSh rfl rfl ?_) | (refine dcall1_pure hSh rfl rfl ?_) | (refine acall1_pure hF rfl rfl ?_) | (refine dcall1_pure hF rfl rfl ?_) | (refine acall1_pure Awake17 rfl rfl ?_) | (refine dcall1_pure Awake17 rfl rfl ?_)) <;> (try (simp only [↓ru, rv, rl, ry, tyf, iM, bM, bsM, cond_true, cond_false, Nat.reduceLT, Nat.reduceBEq, Nat.reduceAdd, Nat.reduceEqDiff, Nat.reduceMul, Nat.reduceLeDiff, Nat.reduceSub, Nat.reduceDiv, Int.reduceLE, Int.reduceLT, Int.reduceNeg, Int.reduceAdd, Int.reduceSub, Int.reduceMul, Int.reduceToNat, Int.reducePow, Int.reduceEq, ne_eq, reduceIte, byteD, dstr, un1_str, iD, bD, decide_true, pureEnd_of (fn := Tryd.f12) (rs := [.tmp 8]) (ts := [4]) rfl rfl, *])))
    (try (simp only [↓ru, rv, rl, ry, tyf, iM, bM, bsM, cond_true, cond_false, Nat.reduceLT, Nat.reduceBEq, Nat.reduceAdd, Nat.reduceEqDiff, Nat.reduceMul, Nat.reduceLeDiff, Nat.reduceSub, Nat.reduceDiv, Int.reduceLE, Int.reduceLT, Int.reduceNeg, Int.reduceAdd, Int.reduceSub, Int.reduceMul, Int.reduceToNat, Int.reducePow, Int.reduceEq, ne_eq, reduceIte, byteD, dstr, un1_str, iD, bD, decide_true, pureEnd_of (fn := Tryd.f12) (rs := [.tmp 8]) (ts := [4]) rfl rfl, *])); repeat' ((first | (refine fork_split (fun _h => ?_) (fun _h => ?_)) | (refine gfork_split (fun _h => ?_) (fun _h => ?_)) | (refine dfork_split (fun _h => ?_) (fun _h => ?_)) | (refine acall1_pure hSh rfl rfl ?_) | (refine dcall1_pure hSh rfl rfl ?_) | (refine acall1_pure hF rfl rfl ?_) | (refine dcall1_pure hF rfl rfl ?_) | (refine acall1_pure Awake17 rfl rfl ?_) | (refine dcall1_pure Awake17 rfl rfl ?_)) <;> (try (simp only [↓ru, rv, rl, ry, tyf, iM, bM, bsM, cond_true, cond_false, Nat.reduceLT, Nat.reduceBEq, Nat.reduceAdd, Nat.reduceEqDiff, Nat.reduceMul, Nat.reduceLeDiff, Nat.reduceSub, Nat.reduceDiv, Int.reduceLE, Int.reduceLT, Int.reduceNeg, Int.reduceAdd, Int.reduceSub, Int.reduceMul, Int.reduceToNat, Int.reducePow, Int.reduceEq, ne_eq, reduceIte, byteD, dstr, un1_str, iD, bD, decide_true, pureEnd_of (fn := Tryd.f12) (rs := [.tmp 8]) (ts := [4]) rfl rfl, *])))
    refine aloop_thaw (t := 11) 1 (h := by simp only [↓ru, rv, rl, ry, tyf, iM, bM, bsM, cond_true, cond_false, Nat.reduceLT, Nat.reduceBEq, Nat.reduceAdd, Nat.reduceEqDiff, Nat.reduceMul, Nat.reduceLeDiff, Nat.reduceSub, Nat.reduceDiv, Int.reduceLE, Int.reduceLT, Int.reduceNeg, Int.reduceAdd, Int.reduceSub, Int.reduceMul, Int.reduceToNat, Int.reducePow, Int.reduceEq, ne_eq, reduceIte, byteD, dstr, un1_str, iD, bD]) ?_
    have hT0 : 0 < T.length := List.length_pos_iff.2 hne
    refine aloop_lv (fun p : Bool × Nat × List (List UInt8) × List UInt8 => [(1, iM i), (2, iM k), (3, iM d), (4, .ptr 0 0), (9, bsM T), (11, cond p.1 (.d (.sl 1 (p.2.2.1.map fun w => [strD w]))) (.hsl 19 p.2.2.1.length)), (12, strM p.2.2.2), (13, iM p.2.1)])
      (fun p => [(19, .ar p.1 1 (pure2 (p.2.2.1.map fun w => [strD w]))), (0, .st [stgsM set, iM first, iM last, iM ret, iM tmo, iM del, iM w0.f, iM w0.c, iM w1.f, iM w1.c, iM w2.f, iM w2.c, iM w3.f, iM w3.c, iM every, iM store])])
      (fun p => (fl && decide (p.2.1 = T.length)) = p.1 ∧ p.2.1 ≤ T.length ∧ p.2.2.1 ++ lns (T.drop p.2.1) p.2.2.2 = L ∧ p.2.2.1.length ≤ p.2.1 ∧ p.2.2.2.length ≤ p.2.1) (fun p => T.length - p.2.1) 20 (false, 0, [], []) ?_ rfl ?_ (by omega) ?_
    · simp only [↓ru, rv, rl, ry, tyf, iM, bM, bsM, cond_true, cond_false, Nat.reduceLT, Nat.reduceBEq, Nat.reduceAdd, Nat.reduceEqDiff, Nat.reduceMul, Nat.reduceLeDiff, Nat.reduceSub, Nat.reduceDiv, Int.reduceLE, Int.reduceLT, Int.reduceNeg, Int.reduceAdd, Int.reduceSub, Int.reduceMul, Int.reduceToNat, Int.reducePow, Int.reduceEq, ne_eq, reduceIte, byteD, dstr, un1_str, iD, bD]
    · refine ⟨?_, by simp, by simpa using hLn, by simp, by simp⟩
      have : decide ((0 : Nat) = T.length) = false := decide_eq_false (by omega)
      simp only [this, Bool.and_false]
    rintro ⟨fz, j, acc, cur⟩ e0 n ⟨hz, hj, hl, ha, hcu⟩
    simp only at hz hj hl ha hcu
    cases fz with
    | true =>
      have hz2 : fl = true ∧ j = T.length := by simpa using hz
      obtain ⟨rfl, rfl⟩ := hz2
      have hd2 : d % 3 ≠ 2 := by simpa using hfl
      rw [List.drop_length, lns, List.append_nil] at hl
      subst hl
      clear hLn hz hj ha hcu hfl hF hSh hsh hc
      have h10 : IntKind.i64.wrap (((set.length + 10 : Nat) : Int) - set.length) = 10 := by rw [wrap_i64 (by omega) (by omega)]; omega
      simp only [↓ru, rv, rl, ry, tyf, iM, bM, bsM, cond_true, cond_false, Nat.reduceLT, Nat.reduceBEq, Nat.reduceAdd, Nat.reduceEqDiff, Nat.reduceMul, Nat.reduceLeDiff, Nat.reduceSub, Nat.reduceDiv, Int.reduceLE, Int.reduceLT, Int.reduceNeg, Int.reduceAdd, Int.reduceSub, Int.reduceMul, Int.reduceToNat, Int.reducePow, Int.reduceEq, ne_eq, reduceIte, byteD, dstr, un1_str, iD, bD]
      refine fork_split (fun h => absurd (of_decide_eq_true h) (by omega)) (fun _ => ?_)
      have eA : IntKind.i64.wrap ((set.length : Int) + I) = ((set.length + I : Nat) : Int) := by rw [wrap_i64 (by omega) (by omega)]; omega
      have eK : IntKind.i64.wrap ((set.length : Int) + K) = ((set.length + K : Nat) : Int) := by rw [wrap_i64 (by omega) (by omega)]; omega
      have eB : IntKind.i64.wrap (((set.length + I : Nat) : Int) + 1) = ((set.length + I + 1 : Nat) : Int) := by rw [wrap_i64 (by omega) (by omega)]; omega
      have eT : (((set.length + 10 : Nat) : Int) - ((set.length + I + 1 : Nat) : Int)).toNat = 9 - I := by omega
      have eU : (((set.length + 10 : Nat) : Int) - ((set.length + I : Nat) : Int)).toNat = 10 - I := by omega
      have eD : acc.drop (set.length + I + 1) = (acc.drop (set.length + I + 1)).take (9 - I) := (List.take_of_length_le (by simp; omega)).symm
      have eE : acc.drop (set.length + I) = (acc.drop (set.length + I)).take (10 - I) := (List.take_of_length_le (by simp; omega)).symm
      have hcut := hcut I hI
      have hrep := hrep I hI
      rw [eD] at hcut
      rw [eE] at hrep
      clear eD eE hswp
      have m1 : ∀ x ∈ acc.take (set.length + I) ++ (acc.drop (set.length + I + 1)).take (9 - I), x ∈ acc := fun x hx => by
        rcases List.mem_append.1 hx with h | h
        · exact List.mem_of_mem_take h
        · exact List.mem_of_mem_drop (List.mem_of_mem_take h)
      have m2 : ∀ x ∈ acc.take (set.length + I + 1) ++ (acc.drop (set.length + I)).take (10 - I), x ∈ acc := fun x hx => by
        rcases List.mem_append.1 hx with h | h
        · exact List.mem_of_mem_take h
        · exact List.mem_of_mem_drop (List.mem_of_mem_take h)
      have l1 : (acc.take (set.length + I) ++ (acc.drop (set.length + I + 1)).take (9 - I)).length ≤ 20 := by simp; omega
      have l2 : (acc.take (set.length + I + 1) ++ (acc.drop (set.length + I)).take (10 - I)).length ≤ 20 := by simp; omega
      have f1 := flat_len m1
      have f2 := flat_len m2
      rw [hLf] at f1 f2
      have p1 := Parse _ (show _ ≤ 300000 from Nat.le_trans f1 (Nat.le_trans (Nat.mul_le_mul l1 htl) (by decide)))
      have p2 := Parse _ (show _ ≤ 300000 from Nat.le_trans f2 (Nat.le_trans (Nat.mul_le_mul l2 htl) (by decide)))
      have g1 := Nat.le_trans f1 (Nat.mul_le_mul l1 htl)
      have g2 := Nat.le_trans f2 (Nat.mul_le_mul l2 htl)
      rw [hcut] at p1
      rw [hrep] at p2
      clear hcut hrep m1 m2 f1 f2
      have hd3 : d % 3 = 0 ∨ d % 3 = 1 := by omega
      clear hd2
      rcases hd3 with e3 | e3
      · rw [e3] at hMd
        clear e3 p2 l2 g2 eU
        (try (simp only [↓ru, rv, rl, ry, tyf, iM, bM, bsM, cond_true, cond_false, Nat.reduceLT, Nat.reduceBEq, Nat.reduceAdd, Nat.reduceEqDiff, Nat.reduceMul, Nat.reduceLeDiff, Nat.reduceSub, Nat.reduceDiv, Int.reduceLE, Int.reduceLT, Int.reduceNeg, Int.reduceAdd, Int.reduceSub, Int.reduceMul, Int.reduceToNat, Int.reducePow, Int.reduceEq, ne_eq, reduceIte, byteD, dstr, un1_str, iD, bD, h10, eA, eK, eB, eT, *])); repeat' ((first | (refine fork_split (fun _h => ?_) (fun _h => ?_)) | (refine gfork_split (fun _h => ?_) (fun _h => ?_)) | (refine dfork_split (fun _h => ?_) (fun _h => ?_)) | (refine acall1_pure hMi rfl rfl ?_) | (refine dcall1_pure hMi rfl rfl ?_) | (refine acall1_pure hMk rfl rfl ?_) | (refine dcall1_pure hMk rfl rfl ?_) | (refine acall1_pure hMd rfl rfl ?_) | (refine dcall1_pure hMd rfl rfl ?_)) <;> (try (simp only [↓ru, rv, rl, ry, tyf, iM, bM, bsM, cond_true, cond_false, Nat.reduceLT, Nat.reduceBEq, Nat.reduceAdd, Nat.reduceEqDiff, Nat.reduceMul, Nat.reduceLeDiff, Nat.reduceSub, Nat.reduceDiv, Int.reduceLE, Int.reduceLT, Int.reduceNeg, Int.reduceAdd, Int.reduceSub, Int.reduceMul, Int.reduceToNat, Int.reducePow, Int.reduceEq, ne_eq, reduceIte, byteD, dstr, un1_str, iD, bD, h10, eA, eK, eB, eT, *])))
        refine grd_intro (by omega) ?_
        (try (simp only [↓ru, rv, rl, ry, tyf, iM, bM, bsM, cond_true, cond_false, Nat.reduceLT, Nat.reduceBEq, Nat.reduceAdd, Nat.reduceEqDiff, Nat.reduceMul, Nat.reduceLeDiff, Nat.reduceSub, Nat.reduceDiv, Int.reduceLE, Int.reduceLT, Int.reduceNeg, Int.reduceAdd, Int.reduceSub, Int.reduceMul, Int.reduceToNat, Int.reducePow, Int.reduceEq, ne_eq, reduceIte, byteD, dstr, un1_str, iD, bD, h10, eA, eK, eB, eT, *])); repeat' ((first | (refine fork_split (fun _h => ?_) (fun _h => ?_)) | (refine gfork_split (fun _h => ?_) (fun _h => ?_)) | (refine dfork_split (fun _h => ?_) (fun _h => ?_))) <;> (try (simp only [↓ru, rv, rl, ry, tyf, iM, bM, bsM, cond_true, cond_false, Nat.reduceLT, Nat.reduceBEq, Nat.reduceAdd, Nat.reduceEqDiff, Nat.reduceMul, Nat.reduceLeDiff, Nat.reduceSub, Nat.reduceDiv, Int.reduceLE, Int.reduceLT, Int.reduceNeg, Int.reduceAdd, Int.reduceSub, Int.reduceMul, Int.reduceToNat, Int.reducePow, Int.reduceEq, ne_eq, reduceIte, byteD, dstr, un1_str, iD, bD, h10, eA, eK, eB, eT, *])))
        try refine grd_intro (by omega) ?_
        try (try (simp only [↓ru, rv, rl, ry, tyf, iM, bM, bsM, cond_true, cond_false, Nat.reduceLT, Nat.reduceBEq, Nat.reduceAdd, Nat.reduceEqDiff, Nat.reduceMul, Nat.reduceLeDiff, Nat.reduceSub, Nat.reduceDiv, Int.reduceLE, Int.reduceLT, Int.reduceNeg, Int.reduceAdd, Int.reduceSub, Int.reduceMul, Int.reduceToNat, Int.reducePow, Int.reduceEq, ne_eq, reduceIte, byteD, dstr, un1_str, iD, bD, h10, eA, eK, eB, eT, *])); repeat' ((first | (refine fork_split (fun _h => ?_) (fun _h => ?_)) | (refine gfork_split (fun _h => ?_) (fun _h => ?_)) | (refine dfork_split (fun _h => ?_) (fun _h => ?_))) <;> (try (simp only [↓ru, rv, rl, ry, tyf, iM, bM, bsM, cond_true, cond_false, Nat.reduceLT, Nat.reduceBEq, Nat.reduceAdd, Nat.reduceEqDiff, Nat.reduceMul, Nat.reduceLeDiff, Nat.reduceSub, Nat.reduceDiv, Int.reduceLE, Int.reduceLT, Int.reduceNeg, Int.reduceAdd, Int.reduceSub, Int.reduceMul, Int.reduceToNat, Int.reducePow, Int.reduceEq, ne_eq, reduceIte, byteD, dstr, un1_str, iD, bD, h10, eA, eK, eB, eT, *])))
        try refine grd_intro (by simp [pure2]; omega) ?_
        try (try (simp only [↓ru, rv, rl, ry, tyf, iM, bM, bsM, cond_true, cond_false, Nat.reduceLT, Nat.reduceBEq, Nat.reduceAdd, Nat.reduceEqDiff, Nat.reduceMul, Nat.reduceLeDiff, Nat.reduceSub, Nat.reduceDiv, Int.reduceLE, Int.reduceLT, Int.reduceNeg, Int.reduceAdd, Int.reduceSub, Int.reduceMul, Int.reduceToNat, Int.reducePow, Int.reduceEq, ne_eq, reduceIte, byteD, dstr, un1_str, iD, bD, h10, eA, eK, eB, eT, *])); repeat' ((first | (refine fork_split (fun _h => ?_) (fun _h => ?_)) | (refine gfork_split (fun _h => ?_) (fun _h => ?_)) | (refine dfork_split (fun _h => ?_) (fun _h => ?_))) <;> (try (simp only [↓ru, rv, rl, ry, tyf, iM, bM, bsM, cond_true, cond_false, Nat.reduceLT, Nat.reduceBEq, Nat.reduceAdd, Nat.reduceEqDiff, Nat.reduceMul, Nat.reduceLeDiff, Nat.reduceSub, Nat.reduceDiv, Int.reduceLE, Int.reduceLT, Int.reduceNeg, Int.reduceAdd, Int.reduceSub, Int.reduceMul, Int.reduceToNat, Int.reducePow, Int.reduceEq, ne_eq, reduceIte, byteD, dstr, un1_str, iD, bD, h10, eA, eK, eB, eT, *])))
        repeat (refine grd_intro (by simp; omega) ?_)
        simp only [← List.map_append, List.length_map]
        generalize acc.take (set.length + I) ++ (acc.drop (set.length + I + 1)).take (9 - I) = X1 at *
        clear hMi hMk hMd h10 eA eK eB hLl hLf
        refine aloop_drop [(n + 53, .ar false 1 (pure2 (X1.map fun w => [strD w])))] ?_ ?_
        · simp only [↓ru, rv, rl, ry, tyf, iM, bM, bsM, cond_true, cond_false, Nat.reduceLT, Nat.reduceBEq, Nat.reduceAdd, Nat.reduceEqDiff, Nat.reduceMul, Nat.reduceLeDiff, Nat.reduceSub, Nat.reduceDiv, Int.reduceLE, Int.reduceLT, Int.reduceNeg, Int.reduceAdd, Int.reduceSub, Int.reduceMul, Int.reduceToNat, Int.reducePow, Int.reduceEq, ne_eq, reduceIte, byteD, dstr, un1_str, iD, bD]
        refine aloop_lv (fun j : Nat => [(11, .hsl (n + 53) X1.length), (15, strM (X1.take j).flatten), (16, iM j)]) (fun _ => [(n + 53, .ar false 1 (pure2 (X1.map fun w => [strD w])))]) (fun j => j ≤ X1.length) (fun j => X1.length - j) (n + 53 + 1) 0 ?_ rfl (by omega) (by omega) ?_
        · simp only [↓ru, rv, rl, ry, tyf, iM, bM, bsM, cond_true, cond_false, Nat.reduceLT, Nat.reduceBEq, Nat.reduceAdd, Nat.reduceEqDiff, Nat.reduceMul, Nat.reduceLeDiff, Nat.reduceSub, Nat.reduceDiv, Int.reduceLE, Int.reduceLT, Int.reduceNeg, Int.reduceAdd, Int.reduceSub, Int.reduceMul, Int.reduceToNat, Int.reducePow, Int.reduceEq, ne_eq, reduceIte, byteD, dstr, un1_str, iD, bD]
          try simp
        intro j f0 n2 hj
        by_cases hjx : j < X1.length
        · have hx : (pure2 (X1.map fun w => [strD w]))[j]? = some [strM X1[j]] := by rw [pure2_get, List.getElem?_map, List.getElem?_eq_getElem hjx]; rfl
          have ht := take_flat hjx
          generalize X1[j] = x at hx ht
          have hb : (X1.take (j + 1)).flatten.length ≤ X1.flatten.length := flat_take (j + 1)
          rw [ht, List.length_append] at hb
          simp only [↓ru, rv, rl, ry, tyf, iM, bM, bsM, cond_true, cond_false, Nat.reduceLT, Nat.reduceBEq, Nat.reduceAdd, Nat.reduceEqDiff, Nat.reduceMul, Nat.reduceLeDiff, Nat.reduceSub, Nat.reduceDiv, Int.reduceLE, Int.reduceLT, Int.reduceNeg, Int.reduceAdd, Int.reduceSub, Int.reduceMul, Int.reduceToNat, Int.reducePow, Int.reduceEq, ne_eq, reduceIte, byteD, dstr, un1_str, iD, bD]
          refine fork_split (fun _ => ?_) (fun h => absurd (of_decide_eq_false h) (by omega))
          simp only [↓ru, rv, rl, ry, tyf, iM, bM, bsM, cond_true, cond_false, Nat.reduceLT, Nat.reduceBEq, Nat.reduceAdd, Nat.reduceEqDiff, Nat.reduceMul, Nat.reduceLeDiff, Nat.reduceSub, Nat.reduceDiv, Int.reduceLE, Int.reduceLT, Int.reduceNeg, Int.reduceAdd, Int.reduceSub, Int.reduceMul, Int.reduceToNat, Int.reducePow, Int.reduceEq, ne_eq, reduceIte, byteD, dstr, un1_str, iD, bD, hx]
          repeat (refine grd_intro (by omega) ?_)
          (try simp only [↓ru, rv, rl, ry, tyf, iM, bM, bsM, cond_true, cond_false, Nat.reduceLT, Nat.reduceBEq, Nat.reduceAdd, Nat.reduceEqDiff, Nat.reduceMul, Nat.reduceLeDiff, Nat.reduceSub, Nat.reduceDiv, Int.reduceLE, Int.reduceLT, Int.reduceNeg, Int.reduceAdd, Int.reduceSub, Int.reduceMul, Int.reduceToNat, Int.reducePow, Int.reduceEq, ne_eq, reduceIte, byteD, dstr, un1_str, iD, bD, hx])
          (try simp (disch := (first | omega | (simp only [List.length_append, List.length_cons, List.length_nil, List.length_map, List.length_take, List.length_replicate, List.length_drop] <;> omega))) only [bin_str_add, kk_eq, wrap_i64, wrap_u8, wrap_u16, wrap_u64])
          (try simp only [↓ru, rv, rl, ry, tyf, iM, bM, bsM, cond_true, cond_false, Nat.reduceLT, Nat.reduceBEq, Nat.reduceAdd, Nat.reduceEqDiff, Nat.reduceMul, Nat.reduceLeDiff, Nat.reduceSub, Nat.reduceDiv, Int.reduceLE, Int.reduceLT, Int.reduceNeg, Int.reduceAdd, Int.reduceSub, Int.reduceMul, Int.reduceToNat, Int.reducePow, Int.reduceEq, ne_eq, reduceIte, byteD, dstr, un1_str, iD, bD])
          simp (disch := omega) only [wrap_i64, wrap_u8, wrap_u16, wrap_u64]
          refine loopL_next (j + 1) ?_ ?_ (by omega) (by omega) (by omega)
          · simp only [↓ru, rv, rl, ry, tyf, iM, bM, bsM, cond_true, cond_false, Nat.reduceLT, Nat.reduceBEq, Nat.reduceAdd, Nat.reduceEqDiff, Nat.reduceMul, Nat.reduceLeDiff, Nat.reduceSub, Nat.reduceDiv, Int.reduceLE, Int.reduceLT, Int.reduceNeg, Int.reduceAdd, Int.reduceSub, Int.reduceMul, Int.reduceToNat, Int.reducePow, Int.reduceEq, ne_eq, reduceIte, byteD, dstr, un1_str, iD, bD]
            try simp [ht]
          · try simp only [↓ru, rv, rl, ry, tyf, iM, bM, bsM, cond_true, cond_false, Nat.reduceLT, Nat.reduceBEq, Nat.reduceAdd, Nat.reduceEqDiff, Nat.reduceMul, Nat.reduceLeDiff, Nat.reduceSub, Nat.reduceDiv, Int.reduceLE, Int.reduceLT, Int.reduceNeg, Int.reduceAdd, Int.reduceSub, Int.reduceMul, Int.reduceToNat, Int.reducePow, Int.reduceEq, ne_eq, reduceIte, byteD, dstr, un1_str, iD, bD]
        · have hje : j = X1.length := by omega
          subst hje
          rw [List.take_length]
          generalize X1.flatten = S at *
          simp only [↓ru, rv, rl, ry, tyf, iM, bM, bsM, cond_true, cond_false, Nat.reduceLT, Nat.reduceBEq, Nat.reduceAdd, Nat.reduceEqDiff, Nat.reduceMul, Nat.reduceLeDiff, Nat.reduceSub, Nat.reduceDiv, Int.reduceLE, Int.reduceLT, Int.reduceNeg, Int.reduceAdd, Int.reduceSub, Int.reduceMul, Int.reduceToNat, Int.reducePow, Int.reduceEq, ne_eq, reduceIte, byteD, dstr, un1_str, iD, bD]
          refine fork_split (fun h => absurd (of_decide_eq_true h) (by omega)) (fun _ => ?_)
          (try (simp only [↓ru, rv, rl, ry, tyf, iM, bM, bsM, cond_true, cond_false, Nat.reduceLT, Nat.reduceBEq, Nat.reduceAdd, Nat.reduceEqDiff, Nat.reduceMul, Nat.reduceLeDiff, Nat.reduceSub, Nat.reduceDiv, Int.reduceLE, Int.reduceLT, Int.reduceNeg, Int.reduceAdd, Int.reduceSub, Int.reduceMul, Int.reduceToNat, Int.reducePow, Int.reduceEq, ne_eq, reduceIte, byteD, dstr, un1_str, iD, bD, decide_true, pureEnd_of (fn := Tryd.f12) (rs := [.tmp 8]) (ts := [4]) rfl rfl, *])); repeat' ((first | (refine fork_split (fun _h => ?_) (fun _h => ?_)) | (refine gfork_split (fun _h => ?_) (fun _h => ?_)) | (refine dfork_split (fun _h => ?_) (fun _h => ?_)) | (refine acall1_pure p1 rfl rfl ?_) | (refine dcall1_pure p1 rfl rfl ?_) | (refine acall1_pure Awake17 rfl rfl ?_) | (refine dcall1_pure Awake17 rfl rfl ?_)) <;> (try (simp only [↓ru, rv, rl, ry, tyf, iM, bM, bsM, cond_true, cond_false, Nat.reduceLT, Nat.reduceBEq, Nat.reduceAdd, Nat.reduceEqDiff, Nat.reduceMul, Nat.reduceLeDiff, Nat.reduceSub, Nat.reduceDiv, Int.reduceLE, Int.reduceLT, Int.reduceNeg, Int.reduceAdd, Int.reduceSub, Int.reduceMul, Int.reduceToNat, Int.reducePow, Int.reduceEq, ne_eq, reduceIte, byteD, dstr, un1_str, iD, bD, decide_true, pureEnd_of (fn := Tryd.f12) (rs := [.tmp 8]) (ts := [4]) rfl rfl, *])))
      · rw [e3] at hMd
        clear e3 p1 l1 g1 eT
        (try (simp only [↓ru, rv, rl, ry, tyf, iM, bM, bsM, cond_true, cond_false, Nat.reduceLT, Nat.reduceBEq, Nat.reduceAdd, Nat.reduceEqDiff, Nat.reduceMul, Nat.reduceLeDiff, Nat.reduceSub, Nat.reduceDiv, Int.reduceLE, Int.reduceLT, Int.reduceNeg, Int.reduceAdd, Int.reduceSub, Int.reduceMul, Int.reduceToNat, Int.reducePow, Int.reduceEq, ne_eq, reduceIte, byteD, dstr, un1_str, iD, bD, h10, eA, eK, eB, eU, *])); repeat' ((first | (refine fork_split (fun _h => ?_) (fun _h => ?_)) | (refine gfork_split (fun _h => ?_) (fun _h => ?_)) | (refine dfork_split (fun _h => ?_) (fun _h => ?_)) | (refine acall1_pure hMi rfl rfl ?_) | (refine dcall1_pure hMi rfl rfl ?_) | (refine acall1_pure hMk rfl rfl ?_) | (refine dcall1_pure hMk rfl rfl ?_) | (refine acall1_pure hMd rfl rfl ?_) | (refine dcall1_pure hMd rfl rfl ?_)) <;> (try (simp only [↓ru, rv, rl, ry, tyf, iM, bM, bsM, cond_true, cond_false, Nat.reduceLT, Nat.reduceBEq, Nat.reduceAdd, Nat.reduceEqDiff, Nat.reduceMul, Nat.reduceLeDiff, Nat.reduceSub, Nat.reduceDiv, Int.reduceLE, Int.reduceLT, Int.reduceNeg, Int.reduceAdd, Int.reduceSub, Int.reduceMul, Int.reduceToNat, Int.reducePow, Int.reduceEq, ne_eq, reduceIte, byteD, dstr, un1_str, iD, bD, h10, eA, eK, eB, eU, *])))
        refine grd_intro (by omega) ?_
        (try (simp only [↓ru, rv, rl, ry, tyf, iM, bM, bsM, cond_true, cond_false, Nat.reduceLT, Nat.reduceBEq, Nat.reduceAdd, Nat.reduceEqDiff, Nat.reduceMul, Nat.reduceLeDiff, Nat.reduceSub, Nat.reduceDiv, Int.reduceLE, Int.reduceLT, Int.reduceNeg, Int.reduceAdd, Int.reduceSub, Int.reduceMul, Int.reduceToNat, Int.reducePow, Int.reduceEq, ne_eq, reduceIte, byteD, dstr, un1_str, iD, bD, h10, eA, eK, eB, eU, *])); repeat' ((first | (refine fork_split (fun _h => ?_) (fun _h => ?_)) | (refine gfork_split (fun _h => ?_) (fun _h => ?_)) | (refine dfork_split (fun _h => ?_) (fun _h => ?_))) <;> (try (simp only [↓ru, rv, rl, ry, tyf, iM, bM, bsM, cond_true, cond_false, Nat.reduceLT, Nat.reduceBEq, Nat.reduceAdd, Nat.reduceEqDiff, Nat.reduceMul, Nat.reduceLeDiff, Nat.reduceSub, Nat.reduceDiv, Int.reduceLE, Int.reduceLT, Int.reduceNeg, Int.reduceAdd, Int.reduceSub, Int.reduceMul, Int.reduceToNat, Int.reducePow, Int.reduceEq, ne_eq, reduceIte, byteD, dstr, un1_str, iD, bD, h10, eA, eK, eB, eU, *])))
        try refine grd_intro (by omega) ?_
        try (try (simp only [↓ru, rv, rl, ry, tyf, iM, bM, bsM, cond_true, cond_false, Nat.reduceLT, Nat.reduceBEq, Nat.reduceAdd, Nat.reduceEqDiff, Nat.reduceMul, Nat.reduceLeDiff, Nat.reduceSub, Nat.reduceDiv, Int.reduceLE, Int.reduceLT, Int.reduceNeg, Int.reduceAdd, Int.reduceSub, Int.reduceMul, Int.reduceToNat, Int.reducePow, Int.reduceEq, ne_eq, reduceIte, byteD, dstr, un1_str, iD, bD, h10, eA, eK, eB, eU, *])); repeat' ((first | (refine fork_split (fun _h => ?_) (fun _h => ?_)) | (refine gfork_split (fun _h => ?_) (fun _h => ?_)) | (refine dfork_split (fun _h => ?_) (fun _h => ?_))) <;> (try (simp only [↓ru, rv, rl, ry, tyf, iM, bM, bsM, cond_true, cond_false, Nat.reduceLT, Nat.reduceBEq, Nat.reduceAdd, Nat.reduceEqDiff, Nat.reduceMul, Nat.reduceLeDiff, Nat.reduceSub, Nat.reduceDiv, Int.reduceLE, Int.reduceLT, Int.reduceNeg, Int.reduceAdd, Int.reduceSub, Int.reduceMul, Int.reduceToNat, Int.reducePow, Int.reduceEq, ne_eq, reduceIte, byteD, dstr, un1_str, iD, bD, h10, eA, eK, eB, eU, *])))
        try refine grd_intro (by simp [pure2]; omega) ?_
        try (try (simp only [↓ru, rv, rl, ry, tyf, iM, bM, bsM, cond_true, cond_false, Nat.reduceLT, Nat.reduceBEq, Nat.reduceAdd, Nat.reduceEqDiff, Nat.reduceMul, Nat.reduceLeDiff, Nat.reduceSub, Nat.reduceDiv, Int.reduceLE, Int.reduceLT, Int.reduceNeg, Int.reduceAdd, Int.reduceSub, Int.reduceMul, Int.reduceToNat, Int.reducePow, Int.reduceEq, ne_eq, reduceIte, byteD, dstr, un1_str, iD, bD, h10, eA, eK, eB, eU, *])); repeat' ((first | (refine fork_split (fun _h => ?_) (fun _h => ?_)) | (refine gfork_split (fun _h => ?_) (fun _h => ?_)) | (refine dfork_split (fun _h => ?_) (fun _h => ?_))) <;> (try (simp only [↓ru, rv, rl, ry, tyf, iM, bM, bsM, cond_true, cond_false, Nat.reduceLT, Nat.reduceBEq, Nat.reduceAdd, Nat.reduceEqDiff, Nat.reduceMul, Nat.reduceLeDiff, Nat.reduceSub, Nat.reduceDiv, Int.reduceLE, Int.reduceLT, Int.reduceNeg, Int.reduceAdd, Int.reduceSub, Int.reduceMul, Int.reduceToNat, Int.reducePow, Int.reduceEq, ne_eq, reduceIte, byteD, dstr, un1_str, iD, bD, h10, eA, eK, eB, eU, *])))
        repeat (refine grd_intro (by simp; omega) ?_)
        simp only [← List.map_append, List.length_map]
        generalize acc.take (set.length + I + 1) ++ (acc.drop (set.length + I)).take (10 - I) = X2 at *
        clear hMi hMk hMd h10 eA eK eB hLl hLf
        refine aloop_drop [(n + 56, .ar false 1 (pure2 (X2.map fun w => [strD w])))] ?_ ?_
        · simp only [↓ru, rv, rl, ry, tyf, iM, bM, bsM, cond_true, cond_false, Nat.reduceLT, Nat.reduceBEq, Nat.reduceAdd, Nat.reduceEqDiff, Nat.reduceMul, Nat.reduceLeDiff, Nat.reduceSub, Nat.reduceDiv, Int.reduceLE, Int.reduceLT, Int.reduceNeg, Int.reduceAdd, Int.reduceSub, Int.reduceMul, Int.reduceToNat, Int.reducePow, Int.reduceEq, ne_eq, reduceIte, byteD, dstr, un1_str, iD, bD]
        refine aloop_lv (fun j : Nat => [(11, .hsl (n + 56) X2.length), (15, strM (X2.take j).flatten), (16, iM j)]) (fun _ => [(n + 56, .ar false 1 (pure2 (X2.map fun w => [strD w])))]) (fun j => j ≤ X2.length) (fun j => X2.length - j) (n + 56 + 1) 0 ?_ rfl (by omega) (by omega) ?_
        · simp only [↓ru, rv, rl, ry, tyf, iM, bM, bsM, cond_true, cond_false, Nat.reduceLT, Nat.reduceBEq, Nat.reduceAdd, Nat.reduceEqDiff, Nat.reduceMul, Nat.reduceLeDiff, Nat.reduceSub, Nat.reduceDiv, Int.reduceLE, Int.reduceLT, Int.reduceNeg, Int.reduceAdd, Int.reduceSub, Int.reduceMul, Int.reduceToNat, Int.reducePow, Int.reduceEq, ne_eq, reduceIte, byteD, dstr, un1_str, iD, bD]
          try simp
        intro j f0 n2 hj
        by_cases hjx : j < X2.length
        · have hx : (pure2 (X2.map fun w => [strD w]))[j]? = some [strM X2[j]] := by rw [pure2_get, List.getElem?_map, List.getElem?_eq_getElem hjx]; rfl
          have ht := take_flat hjx
          generalize X2[j] = x at hx ht
          have hb : (X2.take (j + 1)).flatten.length ≤ X2.flatten.length := flat_take (j + 1)
          rw [ht, List.length_append] at hb
          simp only [↓ru, rv, rl, ry, tyf, iM, bM, bsM, cond_true, cond_false, Nat.reduceLT, Nat.reduceBEq, Nat.reduceAdd, Nat.reduceEqDiff, Nat.reduceMul, Nat.reduceLeDiff, Nat.reduceSub, Nat.reduceDiv, Int.reduceLE, Int.reduceLT, Int.reduceNeg, Int.reduceAdd, Int.reduceSub, Int.reduceMul, Int.reduceToNat, Int.reducePow, Int.reduceEq, ne_eq, reduceIte, byteD, dstr, un1_str, iD, bD]
          refine fork_split (fun _ => ?_) (fun h => absurd (of_decide_eq_false h) (by omega))
          simp only [↓ru, rv, rl, ry, tyf, iM, bM, bsM, cond_true, cond_false, Nat.reduceLT, Nat.reduceBEq, Nat.reduceAdd, Nat.reduceEqDiff, Nat.reduceMul, Nat.reduceLeDiff, Nat.reduceSub, Nat.reduceDiv, Int.reduceLE, Int.reduceLT, Int.reduceNeg, Int.reduceAdd, Int.reduceSub, Int.reduceMul, Int.reduceToNat, Int.reducePow, Int.reduceEq, ne_eq, reduceIte, byteD, dstr, un1_str, iD, bD, hx]
          repeat (refine grd_intro (by omega) ?_)
          (try simp only [↓ru, rv, rl, ry, tyf, iM, bM, bsM, cond_true, cond_false, Nat.reduceLT, Nat.reduceBEq, Nat.reduceAdd, Nat.reduceEqDiff, Nat.reduceMul, Nat.reduceLeDiff, Nat.reduceSub, Nat.reduceDiv, Int.reduceLE, Int.reduceLT, Int.reduceNeg, Int.reduceAdd, Int.reduceSub, Int.reduceMul, Int.reduceToNat, Int.reducePow, Int.reduceEq, ne_eq, reduceIte, byteD, dstr, un1_str, iD, bD, hx])
          (try simp (disch := (first | omega | (simp only [List.length_append, List.length_cons, List.length_nil, List.length_map, List.length_take, List.length_replicate, List.length_drop] <;> omega))) only [bin_str_add, kk_eq, wrap_i64, wrap_u8, wrap_u16, wrap_u64])
          (try simp only [↓ru, rv, rl, ry, tyf, iM, bM, bsM, cond_true, cond_false, Nat.reduceLT, Nat.reduceBEq, Nat.reduceAdd, Nat.reduceEqDiff, Nat.reduceMul, Nat.reduceLeDiff, Nat.reduceSub, Nat.reduceDiv, Int.reduceLE, Int.reduceLT, Int.reduceNeg, Int.reduceAdd, Int.reduceSub, Int.reduceMul, Int.reduceToNat, Int.reducePow, Int.reduceEq, ne_eq, reduceIte, byteD, dstr, un1_str, iD, bD])
          simp (disch := omega) only [wrap_i64, wrap_u8, wrap_u16, wrap_u64]
          refine loopL_next (j + 1) ?_ ?_ (by omega) (by omega) (by omega)
          · simp only [↓ru, rv, rl, ry, tyf, iM, bM, bsM, cond_true, cond_false, Nat.reduceLT, Nat.reduceBEq, Nat.reduceAdd, Nat.reduceEqDiff, Nat.reduceMul, Nat.reduceLeDiff, Nat.reduceSub, Nat.reduceDiv, Int.reduceLE, Int.reduceLT, Int.reduceNeg, Int.reduceAdd, Int.reduceSub, Int.reduceMul, Int.reduceToNat, Int.reducePow, Int.reduceEq, ne_eq, reduceIte, byteD, dstr, un1_str, iD, bD]
            try simp [ht]
          · try simp only [↓ru, rv, rl, ry, tyf, iM, bM, bsM, cond_true, cond_false, Nat.reduceLT, Nat.reduceBEq, Nat.reduceAdd, Nat.reduceEqDiff, Nat.reduceMul, Nat.reduceLeDiff, Nat.reduceSub, Nat.reduceDiv, Int.reduceLE, Int.reduceLT, Int.reduceNeg, Int.reduceAdd, Int.reduceSub, Int.reduceMul, Int.reduceToNat, Int.reducePow, Int.reduceEq, ne_eq, reduceIte, byteD, dstr, un1_str, iD, bD]
        · have hje : j = X2.length := by omega
          subst hje
          rw [List.take_length]
          generalize X2.flatten = S at *
          simp only [↓ru, rv, rl, ry, tyf, iM, bM, bsM, cond_true, cond_false, Nat.reduceLT, Nat.reduceBEq, Nat.reduceAdd, Nat.reduceEqDiff, Nat.reduceMul, Nat.reduceLeDiff, Nat.reduceSub, Nat.reduceDiv, Int.reduceLE, Int.reduceLT, Int.reduceNeg, Int.reduceAdd, Int.reduceSub, Int.reduceMul, Int.reduceToNat, Int.reducePow, Int.reduceEq, ne_eq, reduceIte, byteD, dstr, un1_str, iD, bD]
          refine fork_split (fun h => absurd (of_decide_eq_true h) (by omega)) (fun _ => ?_)
          (try (simp only [↓ru, rv, rl, ry, tyf, iM, bM, bsM, cond_true, cond_false, Nat.reduceLT, Nat.reduceBEq, Nat.reduceAdd, Nat.reduceEqDiff, Nat.reduceMul, Nat.reduceLeDiff, Nat.reduceSub, Nat.reduceDiv, Int.reduceLE, Int.reduceLT, Int.reduceNeg, Int.reduceAdd, Int.reduceSub, Int.reduceMul, Int.reduceToNat, Int.reducePow, Int.reduceEq, ne_eq, reduceIte, byteD, dstr, un1_str, iD, bD, decide_true, pureEnd_of (fn := Tryd.f12) (rs := [.tmp 8]) (ts := [4]) rfl rfl, *])); repeat' ((first | (refine fork_split (fun _h => ?_) (fun _h => ?_)) | (refine gfork_split (fun _h => ?_) (fun _h => ?_)) | (refine dfork_split (fun _h => ?_) (fun _h => ?_)) | (refine acall1_pure p2 rfl rfl ?_) | (refine dcall1_pure p2 rfl rfl ?_) | (refine acall1_pure Awake17 rfl rfl ?_) | (refine dcall1_pure Awake17 rfl rfl ?_)) <;> (try (simp only [↓ru, rv, rl, ry, tyf, iM, bM, bsM, cond_true, cond_false, Nat.reduceLT, Nat.reduceBEq, Nat.reduceAdd, Nat.reduceEqDiff, Nat.reduceMul, Nat.reduceLeDiff, Nat.reduceSub, Nat.reduceDiv, Int.reduceLE, Int.reduceLT, Int.reduceNeg, Int.reduceAdd, Int.reduceSub, Int.reduceMul, Int.reduceToNat, Int.reducePow, Int.reduceEq, ne_eq, reduceIte, byteD, dstr, un1_str, iD, bD, decide_true, pureEnd_of (fn := Tryd.f12) (rs := [.tmp 8]) (ts := [4]) rfl rfl, *])))
    | false =>
      by_cases hjl : j < T.length
      · have hdr : T.drop j = T[j] :: T.drop (j + 1) := List.drop_eq_getElem_cons hjl
        have hy : T[j]? = some T[j] := List.getElem?_eq_getElem hjl
        generalize T[j] = y at hdr hy
        rw [hdr, lns] at hl
        simp only [↓ru, rv, rl, ry, tyf, iM, bM, bsM, cond_true, cond_false, Nat.reduceLT, Nat.reduceBEq, Nat.reduceAdd, Nat.reduceEqDiff, Nat.reduceMul, Nat.reduceLeDiff, Nat.reduceSub, Nat.reduceDiv, Int.reduceLE, Int.reduceLT, Int.reduceNeg, Int.reduceAdd, Int.reduceSub, Int.reduceMul, Int.reduceToNat, Int.reducePow, Int.reduceEq, ne_eq, reduceIte, byteD, dstr, un1_str, iD, bD]
        refine fork_split (fun _ => ?_) (fun h => absurd (of_decide_eq_false h) (by omega))
        have hb : bytesOf [[D.v (.int .u8 y.toNat)]] = some [y] := bytesOf_map (l := [y])
        (try (simp only [↓ru, rv, rl, ry, tyf, iM, bM, bsM, cond_true, cond_false, Nat.reduceLT, Nat.reduceBEq, Nat.reduceAdd, Nat.reduceEqDiff, Nat.reduceMul, Nat.reduceLeDiff, Nat.reduceSub, Nat.reduceDiv, Int.reduceLE, Int.reduceLT, Int.reduceNeg, Int.reduceAdd, Int.reduceSub, Int.reduceMul, Int.reduceToNat, Int.reducePow, Int.reduceEq, ne_eq, reduceIte, byteD, dstr, un1_str, iD, bD, hy, hb, *])); repeat' ((first | (refine fork_split (fun _h => ?_) (fun _h => ?_)) | (refine gfork_split (fun _h => ?_) (fun _h => ?_)) | (refine dfork_split (fun _h => ?_) (fun _h => ?_))) <;> (try (simp only [↓ru, rv, rl, ry, tyf, iM, bM, bsM, cond_true, cond_false, Nat.reduceLT, Nat.reduceBEq, Nat.reduceAdd, Nat.reduceEqDiff, Nat.reduceMul, Nat.reduceLeDiff, Nat.reduceSub, Nat.reduceDiv, Int.reduceLE, Int.reduceLT, Int.reduceNeg, Int.reduceAdd, Int.reduceSub, Int.reduceMul, Int.reduceToNat, Int.reducePow, Int.reduceEq, ne_eq, reduceIte, byteD, dstr, un1_str, iD, bD, hy, hb, *])))
        simp (disch := (first | omega | (simp only [List.length_append, List.length_cons, List.length_nil, List.length_map, List.length_take, List.length_replicate, List.length_drop] <;> omega))) only [bin_str_add, kk_eq, wrap_i64, wrap_u8, wrap_u16, wrap_u64]
        (try (simp only [↓ru, rv, rl, ry, tyf, iM, bM, bsM, cond_true, cond_false, Nat.reduceLT, Nat.reduceBEq, Nat.reduceAdd, Nat.reduceEqDiff, Nat.reduceMul, Nat.reduceLeDiff, Nat.reduceSub, Nat.reduceDiv, Int.reduceLE, Int.reduceLT, Int.reduceNeg, Int.reduceAdd, Int.reduceSub, Int.reduceMul, Int.reduceToNat, Int.reducePow, Int.reduceEq, ne_eq, reduceIte, byteD, dstr, un1_str, iD, bD, hy, hb, *])); repeat' ((first | (refine fork_split (fun _h => ?_) (fun _h => ?_)) | (refine gfork_split (fun _h => ?_) (fun _h => ?_)) | (refine dfork_split (fun _h => ?_) (fun _h => ?_))) <;> (try (simp only [↓ru, rv, rl, ry, tyf, iM, bM, bsM, cond_true, cond_false, Nat.reduceLT, Nat.reduceBEq, Nat.reduceAdd, Nat.reduceEqDiff, Nat.reduceMul, Nat.reduceLeDiff, Nat.reduceSub, Nat.reduceDiv, Int.reduceLE, Int.reduceLT, Int.reduceNeg, Int.reduceAdd, Int.reduceSub, Int.reduceMul, Int.reduceToNat, Int.reducePow, Int.reduceEq, ne_eq, reduceIte, byteD, dstr, un1_str, iD, bD, hy, hb, *])))
        · refine grd_intro (by simp [pure2]; omega) ?_
          have hy10 : y = 10 := by
            have h1 := of_decide_eq_true _h
            exact UInt8.toNat_inj.1 (by simpa using (by omega : y.toNat = 10))
          subst hy10
          rw [if_pos rfl] at hl
          simp (disch := omega) only [wrap_i64, wrap_u8, wrap_u16, wrap_u64]
          by_cases hfz : (fl && decide (j + 1 = T.length)) = true
          · refine loopL_frz (P := Tryd.prog) (prs := []) (t := 11) (q := 19) (sz := 1) (tg := 0) (fz := false) (k := (pure2 (acc.map fun w => [strD w]) ++ [[strM (cur ++ [10])]]).length) (l := (acc ++ [cur ++ [10]]).map fun w => [strD w]) (true, j + 1, acc ++ [cur ++ [10]], []) (by simp only [↓ru, rv, rl, ry, tyf, iM, bM, bsM, cond_true, cond_false, Nat.reduceLT, Nat.reduceBEq, Nat.reduceAdd, Nat.reduceEqDiff, Nat.reduceMul, Nat.reduceLeDiff, Nat.reduceSub, Nat.reduceDiv, Int.reduceLE, Int.reduceLT, Int.reduceNeg, Int.reduceAdd, Int.reduceSub, Int.reduceMul, Int.reduceToNat, Int.reducePow, Int.reduceEq, ne_eq, reduceIte, byteD, dstr, un1_str, iD, bD]) (by simp only [↓ru, rv, rl, ry, tyf, iM, bM, bsM, cond_true, cond_false, Nat.reduceLT, Nat.reduceBEq, Nat.reduceAdd, Nat.reduceEqDiff, Nat.reduceMul, Nat.reduceLeDiff, Nat.reduceSub, Nat.reduceDiv, Int.reduceLE, Int.reduceLT, Int.reduceNeg, Int.reduceAdd, Int.reduceSub, Int.reduceMul, Int.reduceToNat, Int.reducePow, Int.reduceEq, ne_eq, reduceIte, byteD, dstr, un1_str, iD, bD]; simp [pure2, strM, strD]) (by simp [pure2]) ?_ ?_ ⟨hfz, by simp only; omega, by simp only; rw [← hl]; simp, by simp; omega, by simp⟩ (by omega) (by simp only; omega)
            · simp only [↓ru, rv, rl, ry, tyf, iM, bM, bsM, cond_true, cond_false, Nat.reduceLT, Nat.reduceBEq, Nat.reduceAdd, Nat.reduceEqDiff, Nat.reduceMul, Nat.reduceLeDiff, Nat.reduceSub, Nat.reduceDiv, Int.reduceLE, Int.reduceLT, Int.reduceNeg, Int.reduceAdd, Int.reduceSub, Int.reduceMul, Int.reduceToNat, Int.reducePow, Int.reduceEq, ne_eq, reduceIte, byteD, dstr, un1_str, iD, bD]
              simp
            · simp only [↓ru, rv, rl, ry, tyf, iM, bM, bsM, cond_true, cond_false, Nat.reduceLT, Nat.reduceBEq, Nat.reduceAdd, Nat.reduceEqDiff, Nat.reduceMul, Nat.reduceLeDiff, Nat.reduceSub, Nat.reduceDiv, Int.reduceLE, Int.reduceLT, Int.reduceNeg, Int.reduceAdd, Int.reduceSub, Int.reduceMul, Int.reduceToNat, Int.reducePow, Int.reduceEq, ne_eq, reduceIte, byteD, dstr, un1_str, iD, bD]
          · refine loopL_drop (false, j + 1, acc ++ [cur ++ [10]], []) ?_ ?_ ⟨by simpa using hfz, by simp only; omega, by simp only; rw [← hl]; simp, by simp; omega, by simp⟩ (by omega) (by simp only; omega)
            · simp only [↓ru, rv, rl, ry, tyf, iM, bM, bsM, cond_true, cond_false, Nat.reduceLT, Nat.reduceBEq, Nat.reduceAdd, Nat.reduceEqDiff, Nat.reduceMul, Nat.reduceLeDiff, Nat.reduceSub, Nat.reduceDiv, Int.reduceLE, Int.reduceLT, Int.reduceNeg, Int.reduceAdd, Int.reduceSub, Int.reduceMul, Int.reduceToNat, Int.reducePow, Int.reduceEq, ne_eq, reduceIte, byteD, dstr, un1_str, iD, bD]
              simp [pure2]
            · simp only [↓ru, rv, rl, ry, tyf, iM, bM, bsM, cond_true, cond_false, Nat.reduceLT, Nat.reduceBEq, Nat.reduceAdd, Nat.reduceEqDiff, Nat.reduceMul, Nat.reduceLeDiff, Nat.reduceSub, Nat.reduceDiv, Int.reduceLE, Int.reduceLT, Int.reduceNeg, Int.reduceAdd, Int.reduceSub, Int.reduceMul, Int.reduceToNat, Int.reducePow, Int.reduceEq, ne_eq, reduceIte, byteD, dstr, un1_str, iD, bD]
              simp [pure2, strM, strD]
        · have hy10 : y ≠ 10 := by
            intro e
            subst e
            exact absurd (of_decide_eq_false _h) (by decide)
          rw [if_neg hy10] at hl
          simp (disch := omega) only [wrap_i64, wrap_u8, wrap_u16, wrap_u64]
          by_cases hfz : (fl && decide (j + 1 = T.length)) = true
          · refine loopL_frz (P := Tryd.prog) (prs := []) (t := 11) (q := 19) (sz := 1) (tg := 0) (fz := false) (k := acc.length) (l := acc.map fun w => [strD w]) (true, j + 1, acc, cur ++ [y]) (by simp only [↓ru, rv, rl, ry, tyf, iM, bM, bsM, cond_true, cond_false, Nat.reduceLT, Nat.reduceBEq, Nat.reduceAdd, Nat.reduceEqDiff, Nat.reduceMul, Nat.reduceLeDiff, Nat.reduceSub, Nat.reduceDiv, Int.reduceLE, Int.reduceLT, Int.reduceNeg, Int.reduceAdd, Int.reduceSub, Int.reduceMul, Int.reduceToNat, Int.reducePow, Int.reduceEq, ne_eq, reduceIte, byteD, dstr, un1_str, iD, bD]) (by simp only [↓ru, rv, rl, ry, tyf, iM, bM, bsM, cond_true, cond_false, Nat.reduceLT, Nat.reduceBEq, Nat.reduceAdd, Nat.reduceEqDiff, Nat.reduceMul, Nat.reduceLeDiff, Nat.reduceSub, Nat.reduceDiv, Int.reduceLE, Int.reduceLT, Int.reduceNeg, Int.reduceAdd, Int.reduceSub, Int.reduceMul, Int.reduceToNat, Int.reducePow, Int.reduceEq, ne_eq, reduceIte, byteD, dstr, un1_str, iD, bD]) (by simp) ?_ ?_ ⟨hfz, by simp only; omega, by simp only; rw [← hl], by simp only; omega, by simp; omega⟩ (by omega) (by simp only; omega)
            · simp only [↓ru, rv, rl, ry, tyf, iM, bM, bsM, cond_true, cond_false, Nat.reduceLT, Nat.reduceBEq, Nat.reduceAdd, Nat.reduceEqDiff, Nat.reduceMul, Nat.reduceLeDiff, Nat.reduceSub, Nat.reduceDiv, Int.reduceLE, Int.reduceLT, Int.reduceNeg, Int.reduceAdd, Int.reduceSub, Int.reduceMul, Int.reduceToNat, Int.reducePow, Int.reduceEq, ne_eq, reduceIte, byteD, dstr, un1_str, iD, bD]
              simp
            · simp only [↓ru, rv, rl, ry, tyf, iM, bM, bsM, cond_true, cond_false, Nat.reduceLT, Nat.reduceBEq, Nat.reduceAdd, Nat.reduceEqDiff, Nat.reduceMul, Nat.reduceLeDiff, Nat.reduceSub, Nat.reduceDiv, Int.reduceLE, Int.reduceLT, Int.reduceNeg, Int.reduceAdd, Int.reduceSub, Int.reduceMul, Int.reduceToNat, Int.reducePow, Int.reduceEq, ne_eq, reduceIte, byteD, dstr, un1_str, iD, bD]
          · refine loopL_drop (false, j + 1, acc, cur ++ [y]) ?_ ?_ ⟨by simpa using hfz, by simp only; omega, by simp only; rw [← hl], by simp only; omega, by simp; omega⟩ (by omega) (by simp only; omega)
            · simp only [↓ru, rv, rl, ry, tyf, iM, bM, bsM, cond_true, cond_false, Nat.reduceLT, Nat.reduceBEq, Nat.reduceAdd, Nat.reduceEqDiff, Nat.reduceMul, Nat.reduceLeDiff, Nat.reduceSub, Nat.reduceDiv, Int.reduceLE, Int.reduceLT, Int.reduceNeg, Int.reduceAdd, Int.reduceSub, Int.reduceMul, Int.reduceToNat, Int.reducePow, Int.reduceEq, ne_eq, reduceIte, byteD, dstr, un1_str, iD, bD]
              simp
            · simp only [↓ru, rv, rl, ry, tyf, iM, bM, bsM, cond_true, cond_false, Nat.reduceLT, Nat.reduceBEq, Nat.reduceAdd, Nat.reduceEqDiff, Nat.reduceMul, Nat.reduceLeDiff, Nat.reduceSub, Nat.reduceDiv, Int.reduceLE, Int.reduceLT, Int.reduceNeg, Int.reduceAdd, Int.reduceSub, Int.reduceMul, Int.reduceToNat, Int.reducePow, Int.reduceEq, ne_eq, reduceIte, byteD, dstr, un1_str, iD, bD]
      · have hje : j = T.length := by omega
        subst hje
        have hf2 : fl = false := by simpa using hz
        subst hf2
        have hd2 : d % 3 = 2 := by simpa using hfl
        rw [List.drop_length, lns, List.append_nil] at hl
        subst hl
        clear hLn hz hj ha hcu hfl hF hSh hsh hc hcut hrep
        have h10 : IntKind.i64.wrap (((set.length + 10 : Nat) : Int) - set.length) = 10 := by rw [wrap_i64 (by omega) (by omega)]; omega
        have eA : IntKind.i64.wrap ((set.length : Int) + I) = ((set.length + I : Nat) : Int) := by rw [wrap_i64 (by omega) (by omega)]; omega
        have eK : IntKind.i64.wrap ((set.length : Int) + K) = ((set.length + K : Nat) : Int) := by rw [wrap_i64 (by omega) (by omega)]; omega
        rw [hd2] at hMd
        clear hd2
        simp only [↓ru, rv, rl, ry, tyf, iM, bM, bsM, cond_true, cond_false, Nat.reduceLT, Nat.reduceBEq, Nat.reduceAdd, Nat.reduceEqDiff, Nat.reduceMul, Nat.reduceLeDiff, Nat.reduceSub, Nat.reduceDiv, Int.reduceLE, Int.reduceLT, Int.reduceNeg, Int.reduceAdd, Int.reduceSub, Int.reduceMul, Int.reduceToNat, Int.reducePow, Int.reduceEq, ne_eq, reduceIte, byteD, dstr, un1_str, iD, bD]
        refine fork_split (fun h => absurd (of_decide_eq_true h) (by omega)) (fun _ => ?_)
        by_cases hIK : I = K
        · subst hIK
          clear hswp
          have eD : decide (((set.length + I : Nat) : Int) = ((set.length + I : Nat) : Int)) = true := decide_eq_true rfl
          (try (simp only [↓ru, rv, rl, ry, tyf, iM, bM, bsM, cond_true, cond_false, Nat.reduceLT, Nat.reduceBEq, Nat.reduceAdd, Nat.reduceEqDiff, Nat.reduceMul, Nat.reduceLeDiff, Nat.reduceSub, Nat.reduceDiv, Int.reduceLE, Int.reduceLT, Int.reduceNeg, Int.reduceAdd, Int.reduceSub, Int.reduceMul, Int.reduceToNat, Int.reducePow, Int.reduceEq, ne_eq, reduceIte, byteD, dstr, un1_str, iD, bD, h10, eA, eK, eD, pureEnd_of (fn := Tryd.f12) (rs := [.tmp 8]) (ts := [4]) rfl rfl, *])); repeat' ((first | (refine fork_split (fun _h => ?_) (fun _h => ?_)) | (refine gfork_split (fun _h => ?_) (fun _h => ?_)) | (refine dfork_split (fun _h => ?_) (fun _h => ?_)) | (refine acall1_pure hMi rfl rfl ?_) | (refine dcall1_pure hMi rfl rfl ?_) | (refine acall1_pure hMk rfl rfl ?_) | (refine dcall1_pure hMk rfl rfl ?_) | (refine acall1_pure hMd rfl rfl ?_) | (refine dcall1_pure hMd rfl rfl ?_) | (refine acall1_pure Awake17 rfl rfl ?_) | (refine dcall1_pure Awake17 rfl rfl ?_)) <;> (try (simp only [↓ru, rv, rl, ry, tyf, iM, bM, bsM, cond_true, cond_false, Nat.reduceLT, Nat.reduceBEq, Nat.reduceAdd, Nat.reduceEqDiff, Nat.reduceMul, Nat.reduceLeDiff, Nat.reduceSub, Nat.reduceDiv, Int.reduceLE, Int.reduceLT, Int.reduceNeg, Int.reduceAdd, Int.reduceSub, Int.reduceMul, Int.reduceToNat, Int.reducePow, Int.reduceEq, ne_eq, reduceIte, byteD, dstr, un1_str, iD, bD, h10, eA, eK, eD, pureEnd_of (fn := Tryd.f12) (rs := [.tmp 8]) (ts := [4]) rfl rfl, *])))
        · have eD : decide (((set.length + I : Nat) : Int) = ((set.length + K : Nat) : Int)) = false := decide_eq_false (by omega)
          have hIl : set.length + I < acc.length := by omega
          have hKl : set.length + K < acc.length := by omega
          have xI : (pure2 (acc.map fun w => [strD w]))[set.length + I]? = some [strM acc[set.length + I]] := by rw [pure2_get, List.getElem?_map, List.getElem?_eq_getElem hIl]; rfl
          have xK : (pure2 (acc.map fun w => [strD w]))[set.length + K]? = some [strM acc[set.length + K]] := by rw [pure2_get, List.getElem?_map, List.getElem?_eq_getElem hKl]; rfl
          have hbad := hswp I K hI hK hIK (List.getElem?_eq_getElem hIl) (List.getElem?_eq_getElem hKl)
          have mI := List.getElem_mem hIl
          have mK := List.getElem_mem hKl
          clear hswp
          generalize acc[set.length + I] = x at *
          generalize acc[set.length + K] = y at *
          have xJ : ((pure2 (acc.map fun w => [strD w])).set (set.length + I) [strM y])[set.length + K]? = some [strM y] := by rw [List.getElem?_set_ne (by omega)]; exact xK
          have ln : ((pure2 (acc.map fun w => [strD w])).set (set.length + I) [strM y]).length = set.length + 10 := by simp [pure2, hLl]
          (try (simp only [↓ru, rv, rl, ry, tyf, iM, bM, bsM, cond_true, cond_false, Nat.reduceLT, Nat.reduceBEq, Nat.reduceAdd, Nat.reduceEqDiff, Nat.reduceMul, Nat.reduceLeDiff, Nat.reduceSub, Nat.reduceDiv, Int.reduceLE, Int.reduceLT, Int.reduceNeg, Int.reduceAdd, Int.reduceSub, Int.reduceMul, Int.reduceToNat, Int.reducePow, Int.reduceEq, ne_eq, reduceIte, byteD, dstr, un1_str, iD, bD, h10, eA, eK, eD, xI, xK, xJ, ln, List.drop_one, List.tail_cons, *])); repeat' ((first | (refine fork_split (fun _h => ?_) (fun _h => ?_)) | (refine gfork_split (fun _h => ?_) (fun _h => ?_)) | (refine dfork_split (fun _h => ?_) (fun _h => ?_)) | (refine acall1_pure hMi rfl rfl ?_) | (refine dcall1_pure hMi rfl rfl ?_) | (refine acall1_pure hMk rfl rfl ?_) | (refine dcall1_pure hMk rfl rfl ?_) | (refine acall1_pure hMd rfl rfl ?_) | (refine dcall1_pure hMd rfl rfl ?_)) <;> (try (simp only [↓ru, rv, rl, ry, tyf, iM, bM, bsM, cond_true, cond_false, Nat.reduceLT, Nat.reduceBEq, Nat.reduceAdd, Nat.reduceEqDiff, Nat.reduceMul, Nat.reduceLeDiff, Nat.reduceSub, Nat.reduceDiv, Int.reduceLE, Int.reduceLT, Int.reduceNeg, Int.reduceAdd, Int.reduceSub, Int.reduceMul, Int.reduceToNat, Int.reducePow, Int.reduceEq, ne_eq, reduceIte, byteD, dstr, un1_str, iD, bD, h10, eA, eK, eD, xI, xK, xJ, ln, List.drop_one, List.tail_cons, *])))
          repeat (refine grd_intro (by omega) ?_)
          (try simp only [↓ru, rv, rl, ry, tyf, iM, bM, bsM, cond_true, cond_false, Nat.reduceLT, Nat.reduceBEq, Nat.reduceAdd, Nat.reduceEqDiff, Nat.reduceMul, Nat.reduceLeDiff, Nat.reduceSub, Nat.reduceDiv, Int.reduceLE, Int.reduceLT, Int.reduceNeg, Int.reduceAdd, Int.reduceSub, Int.reduceMul, Int.reduceToNat, Int.reducePow, Int.reduceEq, ne_eq, reduceIte, byteD, dstr, un1_str, iD, bD, ln, xJ, List.drop_one, List.tail_cons])
          repeat (refine grd_intro (by omega) ?_)
          (try simp only [↓ru, rv, rl, ry, tyf, iM, bM, bsM, cond_true, cond_false, Nat.reduceLT, Nat.reduceBEq, Nat.reduceAdd, Nat.reduceEqDiff, Nat.reduceMul, Nat.reduceLeDiff, Nat.reduceSub, Nat.reduceDiv, Int.reduceLE, Int.reduceLT, Int.reduceNeg, Int.reduceAdd, Int.reduceSub, Int.reduceMul, Int.reduceToNat, Int.reducePow, Int.reduceEq, ne_eq, reduceIte, byteD, dstr, un1_str, iD, bD, ln, xJ, List.drop_one, List.tail_cons])
          repeat (refine grd_intro ⟨by omega, by omega⟩ ?_)
          have hset : ((pure2 (acc.map fun w => [strD w])).set (set.length + I) [strM y]).set (set.length + K) [strM x] = pure2 (((acc.set (set.length + I) y).set (set.length + K) x).map fun w => [strD w]) := by simp [pure2, List.map_set, strM, strD]
          (try simp only [↓ru, rv, rl, ry, tyf, iM, bM, bsM, cond_true, cond_false, Nat.reduceLT, Nat.reduceBEq, Nat.reduceAdd, Nat.reduceEqDiff, Nat.reduceMul, Nat.reduceLeDiff, Nat.reduceSub, Nat.reduceDiv, Int.reduceLE, Int.reduceLT, Int.reduceNeg, Int.reduceAdd, Int.reduceSub, Int.reduceMul, Int.reduceToNat, Int.reducePow, Int.reduceEq, ne_eq, reduceIte, byteD, dstr, un1_str, iD, bD, ln, xJ, List.drop_one, List.tail_cons])
          have m1 : ∀ z ∈ (acc.set (set.length + I) y).set (set.length + K) x, z ∈ acc := fun z hz => by
            rcases List.mem_or_eq_of_mem_set hz with hz | rfl
            · rcases List.mem_or_eq_of_mem_set hz with hz | rfl
              · exact hz
              · exact mK
            · exact mI
          have l1 : ((acc.set (set.length + I) y).set (set.length + K) x).length ≤ 20 := by simp; omega
          have f1 := flat_len m1
          rw [hLf] at f1
          have p1 := Parse _ (show _ ≤ 300000 from Nat.le_trans f1 (Nat.le_trans (Nat.mul_le_mul l1 htl) (by decide)))
          have g1 := Nat.le_trans f1 (Nat.mul_le_mul l1 htl)
          rw [hbad] at p1
          rw [hset]
          have hXl : set.length + 10 = ((acc.set (set.length + I) y).set (set.length + K) x).length := by simp [hLl]
          rw [hXl]
          clear hbad m1 f1 hset ln xI xJ xK mI mK
          generalize (acc.set (set.length + I) y).set (set.length + K) x = X3 at *
          refine aloop_drop [(19, .ar false 1 (pure2 (X3.map fun w => [strD w])))] ?_ ?_
          · simp only [↓ru, rv, rl, ry, tyf, iM, bM, bsM, cond_true, cond_false, Nat.reduceLT, Nat.reduceBEq, Nat.reduceAdd, Nat.reduceEqDiff, Nat.reduceMul, Nat.reduceLeDiff, Nat.reduceSub, Nat.reduceDiv, Int.reduceLE, Int.reduceLT, Int.reduceNeg, Int.reduceAdd, Int.reduceSub, Int.reduceMul, Int.reduceToNat, Int.reducePow, Int.reduceEq, ne_eq, reduceIte, byteD, dstr, un1_str, iD, bD]
          refine aloop_lv (fun j : Nat => [(11, .hsl (19) X3.length), (15, strM (X3.take j).flatten), (16, iM j)]) (fun _ => [(19, .ar false 1 (pure2 (X3.map fun w => [strD w])))]) (fun j => j ≤ X3.length) (fun j => X3.length - j) (19 + 1) 0 ?_ rfl (by omega) (by omega) ?_
          · simp only [↓ru, rv, rl, ry, tyf, iM, bM, bsM, cond_true, cond_false, Nat.reduceLT, Nat.reduceBEq, Nat.reduceAdd, Nat.reduceEqDiff, Nat.reduceMul, Nat.reduceLeDiff, Nat.reduceSub, Nat.reduceDiv, Int.reduceLE, Int.reduceLT, Int.reduceNeg, Int.reduceAdd, Int.reduceSub, Int.reduceMul, Int.reduceToNat, Int.reducePow, Int.reduceEq, ne_eq, reduceIte, byteD, dstr, un1_str, iD, bD]
            try simp
          intro j f0 n2 hj
          by_cases hjx : j < X3.length
          · have hx : (pure2 (X3.map fun w => [strD w]))[j]? = some [strM X3[j]] := by rw [pure2_get, List.getElem?_map, List.getElem?_eq_getElem hjx]; rfl
            have ht := take_flat hjx
            generalize X3[j] = x at hx ht
            have hb : (X3.take (j + 1)).flatten.length ≤ X3.flatten.length := flat_take (j + 1)
            rw [ht, List.length_append] at hb
            simp only [↓ru, rv, rl, ry, tyf, iM, bM, bsM, cond_true, cond_false, Nat.reduceLT, Nat.reduceBEq, Nat.reduceAdd, Nat.reduceEqDiff, Nat.reduceMul, Nat.reduceLeDiff, Nat.reduceSub, Nat.reduceDiv, Int.reduceLE, Int.reduceLT, Int.reduceNeg, Int.reduceAdd, Int.reduceSub, Int.reduceMul, Int.reduceToNat, Int.reducePow, Int.reduceEq, ne_eq, reduceIte, byteD, dstr, un1_str, iD, bD]
            refine fork_split (fun _ => ?_) (fun h => absurd (of_decide_eq_false h) (by omega))
            simp only [↓ru, rv, rl, ry, tyf, iM, bM, bsM, cond_true, cond_false, Nat.reduceLT, Nat.reduceBEq, Nat.reduceAdd, Nat.reduceEqDiff, Nat.reduceMul, Nat.reduceLeDiff, Nat.reduceSub, Nat.reduceDiv, Int.reduceLE, Int.reduceLT, Int.reduceNeg, Int.reduceAdd, Int.reduceSub, Int.reduceMul, Int.reduceToNat, Int.reducePow, Int.reduceEq, ne_eq, reduceIte, byteD, dstr, un1_str, iD, bD, hx]
            repeat (refine grd_intro (by omega) ?_)
            (try simp only [↓ru, rv, rl, ry, tyf, iM, bM, bsM, cond_true, cond_false, Nat.reduceLT, Nat.reduceBEq, Nat.reduceAdd, Nat.reduceEqDiff, Nat.reduceMul, Nat.reduceLeDiff, Nat.reduceSub, Nat.reduceDiv, Int.reduceLE, Int.reduceLT, Int.reduceNeg, Int.reduceAdd, Int.reduceSub, Int.reduceMul, Int.reduceToNat, Int.reducePow, Int.reduceEq, ne_eq, reduceIte, byteD, dstr, un1_str, iD, bD, hx])
            (try simp (disch := (first | omega | (simp only [List.length_append, List.length_cons, List.length_nil, List.length_map, List.length_take, List.length_replicate, List.length_drop] <;> omega))) only [bin_str_add, kk_eq, wrap_i64, wrap_u8, wrap_u16, wrap_u64])
            (try simp only [↓ru, rv, rl, ry, tyf, iM, bM, bsM, cond_true, cond_false, Nat.reduceLT, Nat.reduceBEq, Nat.reduceAdd, Nat.reduceEqDiff, Nat.reduceMul, Nat.reduceLeDiff, Nat.reduceSub, Nat.reduceDiv, Int.reduceLE, Int.reduceLT, Int.reduceNeg, Int.reduceAdd, Int.reduceSub, Int.reduceMul, Int.reduceToNat, Int.reducePow, Int.reduceEq, ne_eq, reduceIte, byteD, dstr, un1_str, iD, bD])
            simp (disch := omega) only [wrap_i64, wrap_u8, wrap_u16, wrap_u64]
            refine loopL_next (j + 1) ?_ ?_ (by omega) (by omega) (by omega)
            · simp only [↓ru, rv, rl, ry, tyf, iM, bM, bsM, cond_true, cond_false, Nat.reduceLT, Nat.reduceBEq, Nat.reduceAdd, Nat.reduceEqDiff, Nat.reduceMul, Nat.reduceLeDiff, Nat.reduceSub, Nat.reduceDiv, Int.reduceLE, Int.reduceLT, Int.reduceNeg, Int.reduceAdd, Int.reduceSub, Int.reduceMul, Int.reduceToNat, Int.reducePow, Int.reduceEq, ne_eq, reduceIte, byteD, dstr, un1_str, iD, bD]
              try simp [ht]
            · try simp only [↓ru, rv, rl, ry, tyf, iM, bM, bsM, cond_true, cond_false, Nat.reduceLT, Nat.reduceBEq, Nat.reduceAdd, Nat.reduceEqDiff, Nat.reduceMul, Nat.reduceLeDiff, Nat.reduceSub, Nat.reduceDiv, Int.reduceLE, Int.reduceLT, Int.reduceNeg, Int.reduceAdd, Int.reduceSub, Int.reduceMul, Int.reduceToNat, Int.reducePow, Int.reduceEq, ne_eq, reduceIte, byteD, dstr, un1_str, iD, bD]
          · have hje : j = X3.length := by omega
            subst hje
            rw [List.take_length]
            generalize X3.flatten = S at *
            simp only [↓ru, rv, rl, ry, tyf, iM, bM, bsM, cond_true, cond_false, Nat.reduceLT, Nat.reduceBEq, Nat.reduceAdd, Nat.reduceEqDiff, Nat.reduceMul, Nat.reduceLeDiff, Nat.reduceSub, Nat.reduceDiv, Int.reduceLE, Int.reduceLT, Int.reduceNeg, Int.reduceAdd, Int.reduceSub, Int.reduceMul, Int.reduceToNat, Int.reducePow, Int.reduceEq, ne_eq, reduceIte, byteD, dstr, un1_str, iD, bD]
            refine fork_split (fun h => absurd (of_decide_eq_true h) (by omega)) (fun _ => ?_)
            (try (simp only [↓ru, rv, rl, ry, tyf, iM, bM, bsM, cond_true, cond_false, Nat.reduceLT, Nat.reduceBEq, Nat.reduceAdd, Nat.reduceEqDiff, Nat.reduceMul, Nat.reduceLeDiff, Nat.reduceSub, Nat.reduceDiv, Int.reduceLE, Int.reduceLT, Int.reduceNeg, Int.reduceAdd, Int.reduceSub, Int.reduceMul, Int.reduceToNat, Int.reducePow, Int.reduceEq, ne_eq, reduceIte, byteD, dstr, un1_str, iD, bD, decide_true, pureEnd_of (fn := Tryd.f12) (rs := [.tmp 8]) (ts := [4]) rfl rfl, *])); repeat' ((first | (refine fork_split (fun _h => ?_) (fun _h => ?_)) | (refine gfork_split (fun _h => ?_) (fun _h => ?_)) | (refine dfork_split (fun _h => ?_) (fun _h => ?_)) | (refine acall1_pure p1 rfl rfl ?_) | (refine dcall1_pure p1 rfl rfl ?_) | (refine acall1_pure Awake17 rfl rfl ?_) | (refine dcall1_pure Awake17 rfl rfl ?_)) <;> (try (simp only [↓ru, rv, rl, ry, tyf, iM, bM, bsM, cond_true, cond_false, Nat.reduceLT, Nat.reduceBEq, Nat.reduceAdd, Nat.reduceEqDiff, Nat.reduceMul, Nat.reduceLeDiff, Nat.reduceSub, Nat.reduceDiv, Int.reduceLE, Int.reduceLT, Int.reduceNeg, Int.reduceAdd, Int.reduceSub, Int.reduceMul, Int.reduceToNat, Int.reducePow, Int.reduceEq, ne_eq, reduceIte, byteD, dstr, un1_str, iD, bD, decide_true, pureEnd_of (fn := Tryd.f12) (rs := [.tmp 8]) (ts := [4]) rfl rfl, *])))
  · have hF0 := FormatNoR c hc h0
    have d0 : decide (chkF c = 0) = false := decide_eq_false h0
    generalize chkF c = R at *
    obtain ⟨set, first, last, ret, tmo, del, w0, w1, w2, w3, every, store⟩ := c
    (refine PFn.of (prs := [(19, [(2, 6), (3, 6), (2, 7), (3, 7)]), (21, [(2, 7), (3, 7), (4, 7)]), (17, [])]) Tryd.func12 rfl rfl mix (by kernel_rfl) rfl rfl ?_; simp only [Tryd.ntmps12, argUpd])
    (try (simp only [↓ru, rv, rl, ry, tyf, iM, bM, bsM, cond_true, cond_false, Nat.reduceLT, Nat.reduceBEq, Nat.reduceAdd, Nat.reduceEqDiff, Nat.reduceMul, Nat.reduceLeDiff, Nat.reduceSub, Nat.reduceDiv, Int.reduceLE, Int.reduceLT, Int.reduceNeg, Int.reduceAdd, Int.reduceSub, Int.reduceMul, Int.reduceToNat, Int.reducePow, Int.reduceEq, ne_eq, reduceIte, byteD, dstr, un1_str, iD, bD, d0, pureEnd_of (fn := Tryd.f12) (rs := [.tmp 8]) (ts := [4]) rfl rfl, *])); repeat' ((first | (refine fork_split (fun _h => ?_) (fun _h => ?_)) | (refine gfork_split (fun _h => ?_) (fun _h => ?_)) | (refine dfork_split (fun _h => ?_) (fun _h => ?_)) | (refine acall1_pure hSh rfl rfl ?_) | (refine dcall1_pure hSh rfl rfl ?_) | (refine acall1_pure hF0 rfl rfl ?_) | (refine dcall1_pure hF0 rfl rfl ?_) | (refine acall1_pure Awake17 rfl rfl ?_) | (refine dcall1_pure Awake17 rfl rfl ?_)) <;> (try (simp only [↓ru, rv, rl, ry, tyf, iM, bM, bsM, cond_true, cond_false, Nat.reduceLT, Nat.reduceBEq, Nat.reduceAdd, Nat.reduceEqDiff, Nat.reduceMul, Nat.reduceLeDiff, Nat.reduceSub, Nat.reduceDiv, Int.reduceLE, Int.reduceLT, Int.reduceNeg, Int.reduceAdd, Int.reduceSub, Int.reduceMul, Int.reduceToNat, Int.reducePow, Int.reduceEq, ne_eq, reduceIte, byteD, dstr, un1_str, iD, bD, d0, pureEnd_of (fn := Tryd.f12) (rs := [.tmp 8]) (ts := [4]) rfl rfl, *])))
end Go.CF

import Derived.Test.YtmgfnlnomecbiaaDoorK3
import Derived.Test.YtmgfnlnomecbiaaDoorB3
import Derived.Test.YtmgfnlnomecbiaaDoorT9
set_option linter.all false
open Go.Proofs Go.Abs Go.Fa Go.BU Go.TX Go.TW
namespace Go.CF
set_option maxHeartbeats 4000000
set_option maxRecDepth 10000
-- rules: byteD, dstr, un1_str, iD, bD

def settingW : List UInt8 := [115, 101, 116, 116, 105, 110, 103]
def unitsW : List UInt8 := [117, 110, 105, 116, 115]
def retriesW : List UInt8 := [114, 101, 116, 114, 105, 101, 115]
def timeoutW : List UInt8 := [116, 105, 109, 101, 111, 117, 116]
def delayW : List UInt8 := [100, 101, 108, 97, 121]
def windowW : List UInt8 := [119, 105, 110, 100, 111, 119]
def everyW : List UInt8 := [101, 118, 101, 114, 121]
def storeW : List UInt8 := [115, 116, 111, 114, 101]
def decs (l : List Int) : List UInt8 := l.flatMap fun n => 32 :: dec n
def lnT (ws : List (List UInt8)) : List UInt8 := joinSp ws ++ [10]
def numT (w : List UInt8) (l : List Int) : List UInt8 := w ++ decs l ++ [10]
theorem join_decs : ∀ (l : List Int) (w : List UInt8), joinSp (w :: l.map dec) = w ++ decs l
  | [], w => by simp [joinSp, decs]
  | x :: l, w => by
    have ih := join_decs l (dec x)
    have hj : joinSp (w :: (x :: l).map dec) = w ++ 32 :: joinSp (dec x :: l.map dec) := by simp [joinSp]
    rw [hj, ih]
    simp [decs]
theorem numT_ln (w : List UInt8) (l : List Int) : lnT (w :: l.map dec) = numT w l := by rw [lnT, join_decs, numT]
theorem decs_len (l : List Int) : (decs l).length ≤ 10 * l.length := by
  induction l with
  | nil => simp [decs]
  | cons x l ih =>
    have := dec_len x
    simp only [decs, List.flatMap_cons, List.length_append, List.length_cons] at ih ⊢
    omega
theorem numT_len (w : List UInt8) (l : List Int) : (numT w l).length ≤ w.length + 10 * l.length + 1 := by
  have := decs_len l
  simp only [numT, List.length_append, List.length_cons, List.length_nil]; omega
def setT (l : List Stg) : List UInt8 := (l.map fun s => lnT [settingW, fmtS s]).flatten
def winT (k : Int) (w : Rg) : List UInt8 := numT windowW [k, w.f, w.c]
def winsT (a b c d : Rg) : List UInt8 := winT 1 a ++ winT 2 b ++ winT 3 c ++ winT 4 d
def cfgTxt (c : Cfg) : List UInt8 := setT c.set ++ numT unitsW [c.first, c.last] ++ (numT retriesW [c.ret] ++ numT timeoutW [c.tmo] ++ numT delayW [c.del]) ++ winsT c.w0 c.w1 c.w2 c.w3 ++ (numT everyW [c.every] ++ numT storeW [c.store])
theorem fmtS_len (s : Stg) : (fmtS s).length ≤ 11 := by
  have := dec_len s.baud
  unfold fmtS
  split <;> simp <;> omega
theorem set1_len (s : Stg) : (lnT [settingW, fmtS s]).length ≤ 20 := by
  have := fmtS_len s
  simp [lnT, joinSp, settingW]; omega
theorem set1_eq (s : Stg) : lnT [settingW, fmtS s] = 115 :: 101 :: 116 :: 116 :: 105 :: 110 :: 103 :: 32 :: (fmtS s ++ [10]) := by simp [lnT, joinSp, settingW]
theorem setT_len (l : List Stg) : (setT l).length ≤ 20 * l.length := by
  induction l with
  | nil => simp [setT]
  | cons s l ih =>
    have := set1_len s
    simp only [setT, List.map_cons, List.flatten_cons, List.length_append, List.length_cons] at ih ⊢
    omega
theorem take_set {l : List Stg} {i : Nat} {y : Stg} (hy : l[i]? = some y) : setT (l.take (i + 1)) = setT (l.take i) ++ lnT [settingW, fmtS y] := by
  unfold setT; rw [List.take_add_one, hy]; simp
theorem LineW (ws : List (List UInt8)) (h : (ws.map fun w => w.length + 1).sum ≤ 1000000000) : PFn Tryd.prog 47 [strsM ws] (strM (lnT ws)) := Line ws h
theorem LineN (w : List UInt8) (l : List Int) (h : w.length ≤ 100) (hl : l.length ≤ 100) : PFn Tryd.prog 47 [strsM (w :: l.map dec)] (strM (numT w l)) := by
  rw [← numT_ln]
  refine LineW _ ?_
  have : ((l.map dec).map fun w => w.length + 1).sum ≤ 10 * l.length := by
    clear hl
    induction l with
    | nil => simp
    | cons x l ih =>
      have := dec_len x
      simp only [List.map_cons, List.sum_cons, List.length_cons]
      omega
  simp only [List.map_cons, List.sum_cons]
  omega
theorem SettingLines (l : List Stg) (hl : l.length ≤ 1000) : PFn Tryd.prog 69 [stgsM l] (strM (setT l)) := by
  (refine PFn.of (prs := []) Tryd.func69 rfl rfl mix (by kernel_rfl) rfl rfl ?_; simp only [Tryd.ntmps69, argUpd])
  simp only [↓ru, rv, rl, ry, tyf, iM, bM, bsM, cond_true, cond_false, Nat.reduceLT, Nat.reduceBEq, Nat.reduceAdd, Nat.reduceEqDiff, Nat.reduceMul, Nat.reduceLeDiff, Nat.reduceSub, Nat.reduceDiv, Int.reduceLE, Int.reduceLT, Int.reduceNeg, Int.reduceAdd, Int.reduceSub, Int.reduceMul, Int.reduceToNat, Int.reducePow, Int.reduceEq, ne_eq, reduceIte, byteD, dstr, un1_str, iD, bD]
  refine aloop_lv (fun i : Nat => [(0, stgsM l), (3, strM (setT (l.take i))), (4, iM i)]) (fun _ => []) (fun i => i ≤ l.length) (fun i => l.length - i) 0 0 ?_ rfl (by omega) (by omega) ?_
  · simp only [↓ru, rv, rl, ry, tyf, iM, bM, bsM, cond_true, cond_false, Nat.reduceLT, Nat.reduceBEq, Nat.reduceAdd, Nat.reduceEqDiff, Nat.reduceMul, Nat.reduceLeDiff, Nat.reduceSub, Nat.reduceDiv, Int.reduceLE, Int.reduceLT, Int.reduceNeg, Int.reduceAdd, Int.reduceSub, Int.reduceMul, Int.reduceToNat, Int.reducePow, Int.reduceEq, ne_eq, reduceIte, byteD, dstr, un1_str, iD, bD]
    rfl
  intro i e0 n hi
  have hln := setT_len (l.take i)
  have hlt : (l.take i).length ≤ 1000 := by simp; omega
  have hnx : Shut (∀ y, l[i]? = some y → setT (l.take (i + 1)) = setT (l.take i) ++ lnT [settingW, fmtS y]) := fun y hy => take_set hy
  have hnd : Shut (¬ i < l.length → setT (l.take i) = setT l) := fun h => by rw [List.take_of_length_le (by omega)]
  generalize setT (l.take i) = T at hln hnx hnd ⊢
  simp only [↓ru, rv, rl, ry, tyf, iM, bM, bsM, cond_true, cond_false, Nat.reduceLT, Nat.reduceBEq, Nat.reduceAdd, Nat.reduceEqDiff, Nat.reduceMul, Nat.reduceLeDiff, Nat.reduceSub, Nat.reduceDiv, Int.reduceLE, Int.reduceLT, Int.reduceNeg, Int.reduceAdd, Int.reduceSub, Int.reduceMul, Int.reduceToNat, Int.reducePow, Int.reduceEq, ne_eq, reduceIte, byteD, dstr, un1_str, iD, bD]
  refine fork_split (fun h => ?_) (fun h => ?_)
  · have h' := of_decide_eq_true h
    obtain ⟨y, hy⟩ := get_of_lt (l := l) (i := i) (by omega)
    have hny := hnx y hy
    have hF := FormatR y
    have hLn := LineW [settingW, fmtS y] (by have := fmtS_len y; simp [settingW]; omega)
    have hyl := set1_len y
    generalize lnT [settingW, fmtS y] = X at hLn hny hyl
    clear hnx hnd
    have hny' : Shut (setT (l.take (i + 1)) = T ++ X) := hny
    clear hny
    (try (simp only [↓ru, rv, rl, ry, tyf, iM, bM, bsM, cond_true, cond_false, Nat.reduceLT, Nat.reduceBEq, Nat.reduceAdd, Nat.reduceEqDiff, Nat.reduceMul, Nat.reduceLeDiff, Nat.reduceSub, Nat.reduceDiv, Int.reduceLE, Int.reduceLT, Int.reduceNeg, Int.reduceAdd, Int.reduceSub, Int.reduceMul, Int.reduceToNat, Int.reducePow, Int.reduceEq, ne_eq, reduceIte, byteD, dstr, un1_str, iD, bD, hy, *])); repeat' ((first | (refine fork_split (fun _h => ?_) (fun _h => ?_)) | (refine gfork_split (fun _h => ?_) (fun _h => ?_)) | (refine dfork_split (fun _h => ?_) (fun _h => ?_)) | (refine acall1_pure hF rfl rfl ?_) | (refine dcall1_pure hF rfl rfl ?_) | (refine acall1_pure hLn rfl rfl ?_) | (refine dcall1_pure hLn rfl rfl ?_)) <;> (try (simp only [↓ru, rv, rl, ry, tyf, iM, bM, bsM, cond_true, cond_false, Nat.reduceLT, Nat.reduceBEq, Nat.reduceAdd, Nat.reduceEqDiff, Nat.reduceMul, Nat.reduceLeDiff, Nat.reduceSub, Nat.reduceDiv, Int.reduceLE, Int.reduceLT, Int.reduceNeg, Int.reduceAdd, Int.reduceSub, Int.reduceMul, Int.reduceToNat, Int.reducePow, Int.reduceEq, ne_eq, reduceIte, byteD, dstr, un1_str, iD, bD, hy, *])))
    simp (disch := (first | omega | (simp only [List.length_append, List.length_cons, List.length_nil, List.length_map, List.length_take, List.length_replicate, List.length_drop] <;> omega))) only [bin_str_add, kk_eq, wrap_i64, wrap_u8, wrap_u16, wrap_u64]
    (try simp only [↓ru, rv, rl, ry, tyf, iM, bM, bsM, cond_true, cond_false, Nat.reduceLT, Nat.reduceBEq, Nat.reduceAdd, Nat.reduceEqDiff, Nat.reduceMul, Nat.reduceLeDiff, Nat.reduceSub, Nat.reduceDiv, Int.reduceLE, Int.reduceLT, Int.reduceNeg, Int.reduceAdd, Int.reduceSub, Int.reduceMul, Int.reduceToNat, Int.reducePow, Int.reduceEq, ne_eq, reduceIte, byteD, dstr, un1_str, iD, bD])
    (try simp (disch := omega) only [wrap_i64, wrap_u8, wrap_u16, wrap_u64])
    refine loopL_drop (i + 1) ?_ ?_ (by omega) (by omega) (by omega)
    · unfold Shut at hny'
      simp only [↓ru, rv, rl, ry, tyf, iM, bM, bsM, cond_true, cond_false, Nat.reduceLT, Nat.reduceBEq, Nat.reduceAdd, Nat.reduceEqDiff, Nat.reduceMul, Nat.reduceLeDiff, Nat.reduceSub, Nat.reduceDiv, Int.reduceLE, Int.reduceLT, Int.reduceNeg, Int.reduceAdd, Int.reduceSub, Int.reduceMul, Int.reduceToNat, Int.reducePow, Int.reduceEq, ne_eq, reduceIte, byteD, dstr, un1_str, iD, bD, hny']
      try simp
    · simp only [↓ru, rv, rl, ry, tyf, iM, bM, bsM, cond_true, cond_false, Nat.reduceLT, Nat.reduceBEq, Nat.reduceAdd, Nat.reduceEqDiff, Nat.reduceMul, Nat.reduceLeDiff, Nat.reduceSub, Nat.reduceDiv, Int.reduceLE, Int.reduceLT, Int.reduceNeg, Int.reduceAdd, Int.reduceSub, Int.reduceMul, Int.reduceToNat, Int.reducePow, Int.reduceEq, ne_eq, reduceIte, byteD, dstr, un1_str, iD, bD]
  · have h' := of_decide_eq_false h
    have hT := hnd (by omega)
    simp only [↓ru, rv, rl, ry, tyf, iM, bM, bsM, cond_true, cond_false, Nat.reduceLT, Nat.reduceBEq, Nat.reduceAdd, Nat.reduceEqDiff, Nat.reduceMul, Nat.reduceLeDiff, Nat.reduceSub, Nat.reduceDiv, Int.reduceLE, Int.reduceLT, Int.reduceNeg, Int.reduceAdd, Int.reduceSub, Int.reduceMul, Int.reduceToNat, Int.reducePow, Int.reduceEq, ne_eq, reduceIte, byteD, dstr, un1_str, iD, bD, pureEnd_of (fn := Tryd.f69) (rs := [.tmp 2]) (ts := [9]) rfl rfl]
    rw [hT]
theorem WindowLines (a b c d : Rg) (ha : a.f.natAbs ≤ 1000000 ∧ a.c.natAbs ≤ 1000000) (hb : b.f.natAbs ≤ 1000000 ∧ b.c.natAbs ≤ 1000000) (hc : c.f.natAbs ≤ 1000000 ∧ c.c.natAbs ≤ 1000000) (hd : d.f.natAbs ≤ 1000000 ∧ d.c.natAbs ≤ 1000000) :
    PFn Tryd.prog 70 [winM a b c d] (strM (winsT a b c d)) := by
  have k1 := DecimalR 1 (by decide)
  have k2 := DecimalR 2 (by decide)
  have k3 := DecimalR 3 (by decide)
  have k4 := DecimalR 4 (by decide)
  have f1 := DecimalR a.f (by omega)
  have f2 := DecimalR b.f (by omega)
  have f3 := DecimalR c.f (by omega)
  have f4 := DecimalR d.f (by omega)
  have c1 := DecimalR a.c (by omega)
  have c2 := DecimalR b.c (by omega)
  have c3 := DecimalR c.c (by omega)
  have c4 := DecimalR d.c (by omega)
  have l1 := LineN windowW [1, a.f, a.c] (by decide) (by simp)
  have l2 := LineN windowW [2, b.f, b.c] (by decide) (by simp)
  have l3 := LineN windowW [3, c.f, c.c] (by decide) (by simp)
  have l4 := LineN windowW [4, d.f, d.c] (by decide) (by simp)
  have n1 := numT_len windowW [1, a.f, a.c]
  have n2 := numT_len windowW [2, b.f, b.c]
  have n3 := numT_len windowW [3, c.f, c.c]
  have n4 := numT_len windowW [4, d.f, d.c]
  unfold winsT winT
  generalize numT windowW [1, a.f, a.c] = X1 at *
  generalize numT windowW [2, b.f, b.c] = X2 at *
  generalize numT windowW [3, c.f, c.c] = X3 at *
  generalize numT windowW [4, d.f, d.c] = X4 at *
  simp only [windowW, List.length_cons, List.length_nil] at n1 n2 n3 n4
  have e : X1 ++ X2 ++ X3 ++ X4 = ([X1, X2, X3, X4].take 4).flatten := by simp
  rw [e]
  clear e
  (refine PFn.of (prs := [(5, [(3, 5), (3, 6), (3, 7), (3, 10), (8, 10), (3, 11), (8, 11), (3, 12), (8, 12)])]) Tryd.func70 rfl rfl mix (by kernel_rfl) rfl rfl ?_; simp only [Tryd.ntmps70, argUpd])
  simp only [↓ru, rv, rl, ry, tyf, iM, bM, bsM, cond_true, cond_false, Nat.reduceLT, Nat.reduceBEq, Nat.reduceAdd, Nat.reduceEqDiff, Nat.reduceMul, Nat.reduceLeDiff, Nat.reduceSub, Nat.reduceDiv, Int.reduceLE, Int.reduceLT, Int.reduceNeg, Int.reduceAdd, Int.reduceSub, Int.reduceMul, Int.reduceToNat, Int.reducePow, Int.reduceEq, ne_eq, reduceIte, byteD, dstr, un1_str, iD, bD]
  refine aloop_lv (fun k : Nat => [(1, .ptr 0 0), (3, strM ([X1, X2, X3, X4].take k).flatten), (4, iM k)]) (fun _ => [(0, .st (winC a b c d))]) (fun k => k ≤ 4) (fun k => 4 - k) 0 0 ?_ rfl (by omega) (by omega) ?_
  · simp only [↓ru, rv, rl, ry, tyf, iM, bM, bsM, cond_true, cond_false, Nat.reduceLT, Nat.reduceBEq, Nat.reduceAdd, Nat.reduceEqDiff, Nat.reduceMul, Nat.reduceLeDiff, Nat.reduceSub, Nat.reduceDiv, Int.reduceLE, Int.reduceLT, Int.reduceNeg, Int.reduceAdd, Int.reduceSub, Int.reduceMul, Int.reduceToNat, Int.reducePow, Int.reduceEq, ne_eq, reduceIte, byteD, dstr, un1_str, iD, bD]
    try rfl
  intro k e0 n hk
  have hk4 : k = 0 ∨ k = 1 ∨ k = 2 ∨ k = 3 ∨ k = 4 := by omega
  rcases hk4 with rfl | rfl | rfl | rfl | rfl
  · have hl : ([X1, X2, X3, X4].take 0).flatten.length ≤ 200 := by simp; try omega
    have hs : ([X1, X2, X3, X4].take 1).flatten = ([X1, X2, X3, X4].take 0).flatten ++ X1 := by simp
    generalize ([X1, X2, X3, X4].take 0).flatten = T at hl hs ⊢
    (try (simp only [↓ru, rv, rl, ry, tyf, iM, bM, bsM, cond_true, cond_false, Nat.reduceLT, Nat.reduceBEq, Nat.reduceAdd, Nat.reduceEqDiff, Nat.reduceMul, Nat.reduceLeDiff, Nat.reduceSub, Nat.reduceDiv, Int.reduceLE, Int.reduceLT, Int.reduceNeg, Int.reduceAdd, Int.reduceSub, Int.reduceMul, Int.reduceToNat, Int.reducePow, Int.reduceEq, ne_eq, reduceIte, byteD, dstr, un1_str, iD, bD, *])); repeat' ((first | (refine fork_split (fun _h => ?_) (fun _h => ?_)) | (refine gfork_split (fun _h => ?_) (fun _h => ?_)) | (refine dfork_split (fun _h => ?_) (fun _h => ?_)) | (refine acall1_pure k1 rfl rfl ?_) | (refine dcall1_pure k1 rfl rfl ?_) | (refine acall1_pure f1 rfl rfl ?_) | (refine dcall1_pure f1 rfl rfl ?_) | (refine acall1_pure c1 rfl rfl ?_) | (refine dcall1_pure c1 rfl rfl ?_) | (refine acall1_pure l1 rfl rfl ?_) | (refine dcall1_pure l1 rfl rfl ?_)) <;> (try (simp only [↓ru, rv, rl, ry, tyf, iM, bM, bsM, cond_true, cond_false, Nat.reduceLT, Nat.reduceBEq, Nat.reduceAdd, Nat.reduceEqDiff, Nat.reduceMul, Nat.reduceLeDiff, Nat.reduceSub, Nat.reduceDiv, Int.reduceLE, Int.reduceLT, Int.reduceNeg, Int.reduceAdd, Int.reduceSub, Int.reduceMul, Int.reduceToNat, Int.reducePow, Int.reduceEq, ne_eq, reduceIte, byteD, dstr, un1_str, iD, bD, *])))
    simp (disch := (first | omega | (simp only [List.length_append, List.length_cons, List.length_nil, List.length_map, List.length_take, List.length_replicate, List.length_drop] <;> omega))) only [bin_str_add, kk_eq, wrap_i64, wrap_u8, wrap_u16, wrap_u64]
    (try simp only [↓ru, rv, rl, ry, tyf, iM, bM, bsM, cond_true, cond_false, Nat.reduceLT, Nat.reduceBEq, Nat.reduceAdd, Nat.reduceEqDiff, Nat.reduceMul, Nat.reduceLeDiff, Nat.reduceSub, Nat.reduceDiv, Int.reduceLE, Int.reduceLT, Int.reduceNeg, Int.reduceAdd, Int.reduceSub, Int.reduceMul, Int.reduceToNat, Int.reducePow, Int.reduceEq, ne_eq, reduceIte, byteD, dstr, un1_str, iD, bD])
    (try simp (disch := omega) only [wrap_i64, wrap_u8, wrap_u16, wrap_u64])
    refine loopL_drop 1 ?_ ?_ (by decide) (by omega) (by decide)
    · rw [hs]
      simp only [↓ru, rv, rl, ry, tyf, iM, bM, bsM, cond_true, cond_false, Nat.reduceLT, Nat.reduceBEq, Nat.reduceAdd, Nat.reduceEqDiff, Nat.reduceMul, Nat.reduceLeDiff, Nat.reduceSub, Nat.reduceDiv, Int.reduceLE, Int.reduceLT, Int.reduceNeg, Int.reduceAdd, Int.reduceSub, Int.reduceMul, Int.reduceToNat, Int.reducePow, Int.reduceEq, ne_eq, reduceIte, byteD, dstr, un1_str, iD, bD]
      try rfl
    · simp only [↓ru, rv, rl, ry, tyf, iM, bM, bsM, cond_true, cond_false, Nat.reduceLT, Nat.reduceBEq, Nat.reduceAdd, Nat.reduceEqDiff, Nat.reduceMul, Nat.reduceLeDiff, Nat.reduceSub, Nat.reduceDiv, Int.reduceLE, Int.reduceLT, Int.reduceNeg, Int.reduceAdd, Int.reduceSub, Int.reduceMul, Int.reduceToNat, Int.reducePow, Int.reduceEq, ne_eq, reduceIte, byteD, dstr, un1_str, iD, bD]
  · have hl : ([X1, X2, X3, X4].take 1).flatten.length ≤ 200 := by simp; try omega
    have hs : ([X1, X2, X3, X4].take 2).flatten = ([X1, X2, X3, X4].take 1).flatten ++ X2 := by simp
    generalize ([X1, X2, X3, X4].take 1).flatten = T at hl hs ⊢
    (try (simp only [↓ru, rv, rl, ry, tyf, iM, bM, bsM, cond_true, cond_false, Nat.reduceLT, Nat.reduceBEq, Nat.reduceAdd, Nat.reduceEqDiff, Nat.reduceMul, Nat.reduceLeDiff, Nat.reduceSub, Nat.reduceDiv, Int.reduceLE, Int.reduceLT, Int.reduceNeg, Int.reduceAdd, Int.reduceSub, Int.reduceMul, Int.reduceToNat, Int.reducePow, Int.reduceEq, ne_eq, reduceIte, byteD, dstr, un1_str, iD, bD, *])); repeat' ((first | (refine fork_split (fun _h => ?_) (fun _h => ?_)) | (refine gfork_split (fun _h => ?_) (fun _h => ?_)) | (refine dfork_split (fun _h => ?_) (fun _h => ?_)) | (refine acall1_pure k2 rfl rfl ?_) | (refine dcall1_pure k2 rfl rfl ?_) | (refine acall1_pure f2 rfl rfl ?_) | (refine dcall1_pure f2 rfl rfl ?_) | (refine acall1_pure c2 rfl rfl ?_) | (refine dcall1_pure c2 rfl rfl ?_) | (refine acall1_pure l2 rfl rfl ?_) | (refine dcall1_pure l2 rfl rfl ?_)) <;> (try (simp only [↓ru, rv, rl, ry, tyf, iM, bM, bsM, cond_true, cond_false, Nat.reduceLT, Nat.reduceBEq, Nat.reduceAdd, Nat.reduceEqDiff, Nat.reduceMul, Nat.reduceLeDiff, Nat.reduceSub, Nat.reduceDiv, Int.reduceLE, Int.reduceLT, Int.reduceNeg, Int.reduceAdd, Int.reduceSub, Int.reduceMul, Int.reduceToNat, Int.reducePow, Int.reduceEq, ne_eq, reduceIte, byteD, dstr, un1_str, iD, bD, *])))
    simp (disch := (first | omega | (simp only [List.length_append, List.length_cons, List.length_nil, List.length_map, List.length_take, List.length_replicate, List.length_drop] <;> omega))) only [bin_str_add, kk_eq, wrap_i64, wrap_u8, wrap_u16, wrap_u64]
    (try simp only [↓ru, rv, rl, ry, tyf, iM, bM, bsM, cond_true, cond_false, Nat.reduceLT, Nat.reduceBEq, Nat.reduceAdd, Nat.reduceEqDiff, Nat.reduceMul, Nat.reduceLeDiff, Nat.reduceSub, Nat.reduceDiv, Int.reduceLE, Int.reduceLT, Int.reduceNeg, Int.reduceAdd, Int.reduceSub, Int.reduceMul, Int.reduceToNat, Int.reducePow, Int.reduceEq, ne_eq, reduceIte, byteD, dstr, un1_str, iD, bD])
    (try simp (disch := omega) only [wrap_i64, wrap_u8, wrap_u16, wrap_u64])
    refine loopL_drop 2 ?_ ?_ (by decide) (by omega) (by decide)
    · rw [hs]
      simp only [↓ru, rv, rl, ry, tyf, iM, bM, bsM, cond_true, cond_false, Nat.reduceLT, Nat.reduceBEq, Nat.reduceAdd, Nat.reduceEqDiff, Nat.reduceMul, Nat.reduceLeDiff, Nat.reduceSub, Nat.reduceDiv, Int.reduceLE, Int.reduceLT, Int.reduceNeg, Int.reduceAdd, Int.reduceSub, Int.reduceMul, Int.reduceToNat, Int.reducePow, Int.reduceEq, ne_eq, reduceIte, byteD, dstr, un1_str, iD, bD]
      try rfl
    · simp only [↓ru, rv, rl, ry, tyf, iM, bM, bsM, cond_true, cond_false, Nat.reduceLT, Nat.reduceBEq, Nat.reduceAdd, Nat.reduceEqDiff, Nat.reduceMul, Nat.reduceLeDiff, Nat.reduceSub, Nat.reduceDiv, Int.reduceLE, Int.reduceLT, Int.reduceNeg, Int.reduceAdd, Int.reduceSub, Int.reduceMul, Int.reduceToNat, Int.reducePow, Int.reduceEq, ne_eq, reduceIte, byteD, dstr, un1_str, iD, bD]
  · have hl : ([X1, X2, X3, X4].take 2).flatten.length ≤ 200 := by simp; try omega
    have hs : ([X1, X2, X3, X4].take 3).flatten = ([X1, X2, X3, X4].take 2).flatten ++ X3 := by simp
    generalize ([X1, X2, X3, X4].take 2).flatten = T at hl hs ⊢
    (try (simp only [↓ru, rv, rl, ry, tyf, iM, bM, bsM, cond_true, cond_false, Nat.reduceLT, Nat.reduceBEq, Nat.reduceAdd, Nat.reduceEqDiff, Nat.reduceMul, Nat.reduceLeDiff, Nat.reduceSub, Nat.reduceDiv, Int.reduceLE, Int.reduceLT, Int.reduceNeg, Int.reduceAdd, Int.reduceSub, Int.reduceMul, Int.reduceToNat, Int.reducePow, Int.reduceEq, ne_eq, reduceIte, byteD, dstr, un1_str, iD, bD, *])); repeat' ((first | (refine fork_split (fun _h => ?_) (fun _h => ?_)) | (refine gfork_split (fun _h => ?_) (fun _h => ?_)) | (refine dfork_split (fun _h => ?_) (fun _h => ?_)) | (refine acall1_pure k3 rfl rfl ?_) | (refine dcall1_pure k3 rfl rfl ?_) | (refine acall1_pure f3 rfl rfl ?_) | (refine dcall1_pure f3 rfl rfl ?_) | (refine acall1_pure c3 rfl rfl ?_) | (refine dcall1_pure c3 rfl rfl ?_) | (refine acall1_pure l3 rfl rfl ?_) | (refine dcall1_pure l3 rfl rfl ?_)) <;> (try (simp only [↓ru, rv, rl, ry, tyf, iM, bM, bsM, cond_true, cond_false, Nat.reduceLT, Nat.reduceBEq, Nat.reduceAdd, Nat.reduceEqDiff, Nat.reduceMul, Nat.reduceLeDiff, Nat.reduceSub, Nat.reduceDiv, Int.reduceLE, Int.reduceLT, Int.reduceNeg, Int.reduceAdd, Int.reduceSub, Int.reduceMul, Int.reduceToNat, Int.reducePow, Int.reduceEq, ne_eq, reduceIte, byteD, dstr, un1_str, iD, bD, *])))
    simp (disch := (first | omega | (simp only [List.length_append, List.length_cons, List.length_nil, List.length_map, List.length_take, List.length_replicate, List.length_drop] <;> omega))) only [bin_str_add, kk_eq, wrap_i64, wrap_u8, wrap_u16, wrap_u64]
    (try simp only [↓ru, rv, rl, ry, tyf, iM, bM, bsM, cond_true, cond_false, Nat.reduceLT, Nat.reduceBEq, Nat.reduceAdd, Nat.reduceEqDiff, Nat.reduceMul, Nat.reduceLeDiff, Nat.reduceSub, Nat.reduceDiv, Int.reduceLE, Int.reduceLT, Int.reduceNeg, Int.reduceAdd, Int.reduceSub, Int.reduceMul, Int.reduceToNat, Int.reducePow, Int.reduceEq, ne_eq, reduceIte, byteD, dstr, un1_str, iD, bD])
    (try simp (disch := omega) only [wrap_i64, wrap_u8, wrap_u16, wrap_u64])
    refine loopL_drop 3 ?_ ?_ (by decide) (by omega) (by decide)
    · rw [hs]
      simp only [↓ru, rv, rl, ry, tyf, iM, bM, bsM, cond_true, cond_false, Nat.reduceLT, Nat.reduceBEq, Nat.reduceAdd, Nat.reduceEqDiff, Nat.reduceMul, Nat.reduceLeDiff, Nat.reduceSub, Nat.reduceDiv, Int.reduceLE, Int.reduceLT, Int.reduceNeg, Int.reduceAdd, Int.reduceSub, Int.reduceMul, Int.reduceToNat, Int.reducePow, Int.reduceEq, ne_eq, reduceIte, byteD, dstr, un1_str, iD, bD]
      try rfl
    · simp only [↓ru, rv, rl, ry, tyf, iM, bM, bsM, cond_true, cond_false, Nat.reduceLT, Nat.reduceBEq, Nat.reduceAdd, Nat.reduceEqDiff, Nat.reduceMul, Nat.reduceLeDiff, Nat.reduceSub, Nat.reduceDiv, Int.reduceLE, Int.reduceLT, Int.reduceNeg, Int.reduceAdd, Int.reduceSub, Int.reduceMul, Int.reduceToNat, Int.reducePow, Int.reduceEq, ne_eq, reduceIte, byteD, dstr, un1_str, iD, bD]
  · have hl : ([X1, X2, X3, X4].take 3).flatten.length ≤ 200 := by simp; try omega
    have hs : ([X1, X2, X3, X4].take 4).flatten = ([X1, X2, X3, X4].take 3).flatten ++ X4 := by simp
    generalize ([X1, X2, X3, X4].take 3).flatten = T at hl hs ⊢
    (try (simp only [↓ru, rv, rl, ry, tyf, iM, bM, bsM, cond_true, cond_false, Nat.reduceLT, Nat.reduceBEq, Nat.reduceAdd, Nat.reduceEqDiff, Nat.reduceMul, Nat.reduceLeDiff, Nat.reduceSub, Nat.reduceDiv, Int.reduceLE, Int.reduceLT, Int.reduceNeg, Int.reduceAdd, Int.reduceSub, Int.reduceMul, Int.reduceToNat, Int.reducePow, Int.reduceEq, ne_eq, reduceIte, byteD, dstr, un1_str, iD, bD, *])); repeat' ((first | (refine fork_split (fun _h => ?_) (fun _h => ?_)) | (refine gfork_split (fun _h => ?_) (fun _h => ?_)) | (refine dfork_split (fun _h => ?_) (fun _h => ?_)) | (refine acall1_pure k4 rfl rfl ?_) | (refine dcall1_pure k4 rfl rfl ?_) | (refine acall1_pure f4 rfl rfl ?_) | (refine dcall1_pure f4 rfl rfl ?_) | (refine acall1_pure c4 rfl rfl ?_) | (refine dcall1_pure c4 rfl rfl ?_) | (refine acall1_pure l4 rfl rfl ?_) | (refine dcall1_pure l4 rfl rfl ?_)) <;> (try (simp only [↓ru, rv, rl, ry, tyf, iM, bM, bsM, cond_true, cond_false, Nat.reduceLT, Nat.reduceBEq, Nat.reduceAdd, Nat.reduceEqDiff, Nat.reduceMul, Nat.reduceLeDiff, Nat.reduceSub, Nat.reduceDiv, Int.reduceLE, Int.reduceLT, Int.reduceNeg, Int.reduceAdd, Int.reduceSub, Int.reduceMul, Int.reduceToNat, Int.reducePow, Int.reduceEq, ne_eq, reduceIte, byteD, dstr, un1_str, iD, bD, *])))
    simp (disch := (first | omega | (simp only [List.length_append, List.length_cons, List.length_nil, List.length_map, List.length_take, List.length_replicate, List.length_drop] <;> omega))) only [bin_str_add, kk_eq, wrap_i64, wrap_u8, wrap_u16, wrap_u64]
    (try simp only [↓ru, rv, rl, ry, tyf, iM, bM, bsM, cond_true, cond_false, Nat.reduceLT, Nat.reduceBEq, Nat.reduceAdd, Nat.reduceEqDiff, Nat.reduceMul, Nat.reduceLeDiff, Nat.reduceSub, Nat.reduceDiv, Int.reduceLE, Int.reduceLT, Int.reduceNeg, Int.reduceAdd, Int.reduceSub, Int.reduceMul, Int.reduceToNat, Int.reducePow, Int.reduceEq, ne_eq, reduceIte, byteD, dstr, un1_str, iD, bD])
    (try simp (disch := omega) only [wrap_i64, wrap_u8, wrap_u16, wrap_u64])
    refine loopL_drop 4 ?_ ?_ (by decide) (by omega) (by decide)
    · rw [hs]
      simp only [↓ru, rv, rl, ry, tyf, iM, bM, bsM, cond_true, cond_false, Nat.reduceLT, Nat.reduceBEq, Nat.reduceAdd, Nat.reduceEqDiff, Nat.reduceMul, Nat.reduceLeDiff, Nat.reduceSub, Nat.reduceDiv, Int.reduceLE, Int.reduceLT, Int.reduceNeg, Int.reduceAdd, Int.reduceSub, Int.reduceMul, Int.reduceToNat, Int.reducePow, Int.reduceEq, ne_eq, reduceIte, byteD, dstr, un1_str, iD, bD]
      try rfl
    · simp only [↓ru, rv, rl, ry, tyf, iM, bM, bsM, cond_true, cond_false, Nat.reduceLT, Nat.reduceBEq, Nat.reduceAdd, Nat.reduceEqDiff, Nat.reduceMul, Nat.reduceLeDiff, Nat.reduceSub, Nat.reduceDiv, Int.reduceLE, Int.reduceLT, Int.reduceNeg, Int.reduceAdd, Int.reduceSub, Int.reduceMul, Int.reduceToNat, Int.reducePow, Int.reduceEq, ne_eq, reduceIte, byteD, dstr, un1_str, iD, bD]
  · (try (simp only [↓ru, rv, rl, ry, tyf, iM, bM, bsM, cond_true, cond_false, Nat.reduceLT, Nat.reduceBEq, Nat.reduceAdd, Nat.reduceEqDiff, Nat.reduceMul, Nat.reduceLeDiff, Nat.reduceSub, Nat.reduceDiv, Int.reduceLE, Int.reduceLT, Int.reduceNeg, Int.reduceAdd, Int.reduceSub, Int.reduceMul, Int.reduceToNat, Int.reducePow, Int.reduceEq, ne_eq, reduceIte, byteD, dstr, un1_str, iD, bD, pureEnd_of (fn := Tryd.f70) (rs := [.tmp 2]) (ts := [9]) rfl rfl, *])); repeat' ((first | (refine fork_split (fun _h => ?_) (fun _h => ?_)) | (refine gfork_split (fun _h => ?_) (fun _h => ?_)) | (refine dfork_split (fun _h => ?_) (fun _h => ?_))) <;> (try (simp only [↓ru, rv, rl, ry, tyf, iM, bM, bsM, cond_true, cond_false, Nat.reduceLT, Nat.reduceBEq, Nat.reduceAdd, Nat.reduceEqDiff, Nat.reduceMul, Nat.reduceLeDiff, Nat.reduceSub, Nat.reduceDiv, Int.reduceLE, Int.reduceLT, Int.reduceNeg, Int.reduceAdd, Int.reduceSub, Int.reduceMul, Int.reduceToNat, Int.reducePow, Int.reduceEq, ne_eq, reduceIte, byteD, dstr, un1_str, iD, bD, pureEnd_of (fn := Tryd.f70) (rs := [.tmp 2]) (ts := [9]) rfl rfl, *])))
theorem okB {c : Cfg} (h : chkF c = 0) : (1 ≤ c.set.length ∧ c.set.length ≤ 6) ∧ rngP c ∧ (c.w0.f.natAbs ≤ 1000000 ∧ c.w0.c.natAbs ≤ 1000000) ∧ (c.w1.f.natAbs ≤ 1000000 ∧ c.w1.c.natAbs ≤ 1000000) ∧ (c.w2.f.natAbs ≤ 1000000 ∧ c.w2.c.natAbs ≤ 1000000) ∧ (c.w3.f.natAbs ≤ 1000000 ∧ c.w3.c.natAbs ≤ 1000000) := by
  obtain ⟨h1, h2, h3, h4⟩ := chk0 h
  refine ⟨list_len h1, h2, ?_⟩
  unfold lenR at h3
  unfold ordR at h4
  omega
theorem FormatNoR (c : Cfg) (hl : c.set.length ≤ 9223372036854775807) (h : chkF c ≠ 0) : PFn Tryd.prog 39 [cfgM c] (.tup [bsM [], iM (chkF c)]) := by
  have hC := CheckR c hl
  have d : decide (chkF c = 0) = false := decide_eq_false h
  obtain ⟨set, first, last, ret, tmo, del, w0, w1, w2, w3, every, store⟩ := c
  generalize chkF _ = R at *
  (refine PFn.of (prs := [(5, [(3, 4), (3, 5)]), (6, [(3, 6), (4, 6), (5, 6), (3, 7), (4, 7), (5, 7), (3, 12), (4, 12), (5, 12), (8, 12), (9, 12), (10, 12), (3, 13), (4, 13), (5, 13), (8, 13), (9, 13), (10, 13), (11, 14), (11, 15), (11, 16)]), (8, [(3, 6), (4, 6), (5, 6), (3, 7), (4, 7), (5, 7)])]) Tryd.func39 rfl rfl mix (by kernel_rfl) rfl rfl ?_; simp only [Tryd.ntmps39, argUpd])
  (try (simp only [↓ru, rv, rl, ry, tyf, iM, bM, bsM, cond_true, cond_false, Nat.reduceLT, Nat.reduceBEq, Nat.reduceAdd, Nat.reduceEqDiff, Nat.reduceMul, Nat.reduceLeDiff, Nat.reduceSub, Nat.reduceDiv, Int.reduceLE, Int.reduceLT, Int.reduceNeg, Int.reduceAdd, Int.reduceSub, Int.reduceMul, Int.reduceToNat, Int.reducePow, Int.reduceEq, ne_eq, reduceIte, byteD, dstr, un1_str, iD, bD, d, pureEnd_of (fn := Tryd.f39) (rs := [.tmp 2, .tmp 3]) (ts := [33, 37]) rfl rfl, *])); repeat' ((first | (refine fork_split (fun _h => ?_) (fun _h => ?_)) | (refine gfork_split (fun _h => ?_) (fun _h => ?_)) | (refine dfork_split (fun _h => ?_) (fun _h => ?_)) | (refine acall1_pure hC rfl rfl ?_) | (refine dcall1_pure hC rfl rfl ?_)) <;> (try (simp only [↓ru, rv, rl, ry, tyf, iM, bM, bsM, cond_true, cond_false, Nat.reduceLT, Nat.reduceBEq, Nat.reduceAdd, Nat.reduceEqDiff, Nat.reduceMul, Nat.reduceLeDiff, Nat.reduceSub, Nat.reduceDiv, Int.reduceLE, Int.reduceLT, Int.reduceNeg, Int.reduceAdd, Int.reduceSub, Int.reduceMul, Int.reduceToNat, Int.reducePow, Int.reduceEq, ne_eq, reduceIte, byteD, dstr, un1_str, iD, bD, d, pureEnd_of (fn := Tryd.f39) (rs := [.tmp 2, .tmp 3]) (ts := [33, 37]) rfl rfl, *])))
theorem FormatR (c : Cfg) (h : chkF c = 0) : PFn Tryd.prog 39 [cfgM c] (.tup [bsM (cfgTxt c), iM 0]) := by
  obtain ⟨⟨s1, s2⟩, hr, a0, a1, a2, a3⟩ := okB h
  have hC := CheckR c (by omega)
  rw [h] at hC
  have hS := SettingLines c.set (by omega)
  have hSl := setT_len c.set
  have hW := WindowLines c.w0 c.w1 c.w2 c.w3 a0 a1 a2 a3
  have hWl : (winsT c.w0 c.w1 c.w2 c.w3).length ≤ 160 := by
    have n1 := numT_len windowW [1, c.w0.f, c.w0.c]
    have n2 := numT_len windowW [2, c.w1.f, c.w1.c]
    have n3 := numT_len windowW [3, c.w2.f, c.w2.c]
    have n4 := numT_len windowW [4, c.w3.f, c.w3.c]
    simp only [windowW, List.length_cons, List.length_nil] at n1 n2 n3 n4
    simp only [winsT, winT, List.length_append, windowW]
    omega
  unfold rngP at hr
  unfold cfgTxt
  generalize setT c.set = S at *
  generalize winsT c.w0 c.w1 c.w2 c.w3 = W at *
  clear h a0 a1 a2 a3
  obtain ⟨set, first, last, ret, tmo, del, w0, w1, w2, w3, every, store⟩ := c
  simp only at hr s1 s2 hSl
  have d1 := DecimalR first (by omega)
  have d2 := DecimalR last (by omega)
  have d3 := DecimalR ret (by omega)
  have d4 := DecimalR tmo (by omega)
  have d5 := DecimalR del (by omega)
  have d6 := DecimalR every (by omega)
  have d7 := DecimalR store (by omega)
  have l1 := LineN unitsW [first, last] (by decide) (by simp)
  have n1 := numT_len unitsW [first, last]
  generalize numT unitsW [first, last] = X1 at *
  simp only [unitsW, List.length_cons, List.length_nil] at n1
  have l2 := LineN retriesW [ret] (by decide) (by simp)
  have n2 := numT_len retriesW [ret]
  generalize numT retriesW [ret] = X2 at *
  simp only [retriesW, List.length_cons, List.length_nil] at n2
  have l3 := LineN timeoutW [tmo] (by decide) (by simp)
  have n3 := numT_len timeoutW [tmo]
  generalize numT timeoutW [tmo] = X3 at *
  simp only [timeoutW, List.length_cons, List.length_nil] at n3
  have l4 := LineN delayW [del] (by decide) (by simp)
  have n4 := numT_len delayW [del]
  generalize numT delayW [del] = X4 at *
  simp only [delayW, List.length_cons, List.length_nil] at n4
  have l5 := LineN everyW [every] (by decide) (by simp)
  have n5 := numT_len everyW [every]
  generalize numT everyW [every] = X5 at *
  simp only [everyW, List.length_cons, List.length_nil] at n5
  have l6 := LineN storeW [store] (by decide) (by simp)
  have n6 := numT_len storeW [store]
  generalize numT storeW [store] = X6 at *
  simp only [storeW, List.length_cons, List.length_nil] at n6
  (refine PFn.of (prs := [(5, [(3, 4), (3, 5)]), (6, [(3, 6), (4, 6), (5, 6), (3, 7), (4, 7), (5, 7), (3, 12), (4, 12), (5, 12), (8, 12), (9, 12), (10, 12), (3, 13), (4, 13), (5, 13), (8, 13), (9, 13), (10, 13), (11, 14), (11, 15), (11, 16)]), (8, [(3, 6), (4, 6), (5, 6), (3, 7), (4, 7), (5, 7)])]) Tryd.func39 rfl rfl mix (by kernel_rfl) rfl rfl ?_; simp only [Tryd.ntmps39, argUpd])
  (try (simp only [↓ru, rv, rl, ry, tyf, iM, bM, bsM, cond_true, cond_false, Nat.reduceLT, Nat.reduceBEq, Nat.reduceAdd, Nat.reduceEqDiff, Nat.reduceMul, Nat.reduceLeDiff, Nat.reduceSub, Nat.reduceDiv, Int.reduceLE, Int.reduceLT, Int.reduceNeg, Int.reduceAdd, Int.reduceSub, Int.reduceMul, Int.reduceToNat, Int.reducePow, Int.reduceEq, ne_eq, reduceIte, byteD, dstr, un1_str, iD, bD, *])); repeat' ((first | (refine fork_split (fun _h => ?_) (fun _h => ?_)) | (refine gfork_split (fun _h => ?_) (fun _h => ?_)) | (refine dfork_split (fun _h => ?_) (fun _h => ?_)) | (refine acall1_pure hC rfl rfl ?_) | (refine dcall1_pure hC rfl rfl ?_) | (refine acall1_pure hS rfl rfl ?_) | (refine dcall1_pure hS rfl rfl ?_) | (refine acall1_pure d1 rfl rfl ?_) | (refine dcall1_pure d1 rfl rfl ?_) | (refine acall1_pure d2 rfl rfl ?_) | (refine dcall1_pure d2 rfl rfl ?_) | (refine acall1_pure l1 rfl rfl ?_) | (refine dcall1_pure l1 rfl rfl ?_)) <;> (try (simp only [↓ru, rv, rl, ry, tyf, iM, bM, bsM, cond_true, cond_false, Nat.reduceLT, Nat.reduceBEq, Nat.reduceAdd, Nat.reduceEqDiff, Nat.reduceMul, Nat.reduceLeDiff, Nat.reduceSub, Nat.reduceDiv, Int.reduceLE, Int.reduceLT, Int.reduceNeg, Int.reduceAdd, Int.reduceSub, Int.reduceMul, Int.reduceToNat, Int.reducePow, Int.reduceEq, ne_eq, reduceIte, byteD, dstr, un1_str, iD, bD, *])))
  simp (disch := (first | omega | (simp only [List.length_append, List.length_cons, List.length_nil, List.length_map, List.length_take, List.length_replicate, List.length_drop] <;> omega))) only [bin_str_add, kk_eq, wrap_i64, wrap_u8, wrap_u16, wrap_u64]
  (try simp only [↓ru, rv, rl, ry, tyf, iM, bM, bsM, cond_true, cond_false, Nat.reduceLT, Nat.reduceBEq, Nat.reduceAdd, Nat.reduceEqDiff, Nat.reduceMul, Nat.reduceLeDiff, Nat.reduceSub, Nat.reduceDiv, Int.reduceLE, Int.reduceLT, Int.reduceNeg, Int.reduceAdd, Int.reduceSub, Int.reduceMul, Int.reduceToNat, Int.reducePow, Int.reduceEq, ne_eq, reduceIte, byteD, dstr, un1_str, iD, bD])
  (try (simp only [↓ru, rv, rl, ry, tyf, iM, bM, bsM, cond_true, cond_false, Nat.reduceLT, Nat.reduceBEq, Nat.reduceAdd, Nat.reduceEqDiff, Nat.reduceMul, Nat.reduceLeDiff, Nat.reduceSub, Nat.reduceDiv, Int.reduceLE, Int.reduceLT, Int.reduceNeg, Int.reduceAdd, Int.reduceSub, Int.reduceMul, Int.reduceToNat, Int.reducePow, Int.reduceEq, ne_eq, reduceIte, byteD, dstr, un1_str, iD, bD, *])); repeat' ((first | (refine fork_split (fun _h => ?_) (fun _h => ?_)) | (refine gfork_split (fun _h => ?_) (fun _h => ?_)) | (refine dfork_split (fun _h => ?_) (fun _h => ?_)) | (refine acall1_pure d3 rfl rfl ?_) | (refine dcall1_pure d3 rfl rfl ?_) | (refine acall1_pure d4 rfl rfl ?_) | (refine dcall1_pure d4 rfl rfl ?_) | (refine acall1_pure d5 rfl rfl ?_) | (refine dcall1_pure d5 rfl rfl ?_) | (refine acall1_pure l2 rfl rfl ?_) | (refine dcall1_pure l2 rfl rfl ?_) | (refine acall1_pure l3 rfl rfl ?_) | (refine dcall1_pure l3 rfl rfl ?_) | (refine acall1_pure l4 rfl rfl ?_) | (refine dcall1_pure l4 rfl rfl ?_)) <;> (try (simp only [↓ru, rv, rl, ry, tyf, iM, bM, bsM, cond_true, cond_false, Nat.reduceLT, Nat.reduceBEq, Nat.reduceAdd, Nat.reduceEqDiff, Nat.reduceMul, Nat.reduceLeDiff, Nat.reduceSub, Nat.reduceDiv, Int.reduceLE, Int.reduceLT, Int.reduceNeg, Int.reduceAdd, Int.reduceSub, Int.reduceMul, Int.reduceToNat, Int.reducePow, Int.reduceEq, ne_eq, reduceIte, byteD, dstr, un1_str, iD, bD, *])))
  simp (disch := (first | omega | (simp only [List.length_append, List.length_cons, List.length_nil, List.length_map, List.length_take, List.length_replicate, List.length_drop] <;> omega))) only [bin_str_add, kk_eq, wrap_i64, wrap_u8, wrap_u16, wrap_u64]
  (try simp only [↓ru, rv, rl, ry, tyf, iM, bM, bsM, cond_true, cond_false, Nat.reduceLT, Nat.reduceBEq, Nat.reduceAdd, Nat.reduceEqDiff, Nat.reduceMul, Nat.reduceLeDiff, Nat.reduceSub, Nat.reduceDiv, Int.reduceLE, Int.reduceLT, Int.reduceNeg, Int.reduceAdd, Int.reduceSub, Int.reduceMul, Int.reduceToNat, Int.reducePow, Int.reduceEq, ne_eq, reduceIte, byteD, dstr, un1_str, iD, bD])
  (try simp (disch := (first | omega | (simp only [List.length_append, List.length_cons, List.length_nil, List.length_map, List.length_take, List.length_replicate, List.length_drop] <;> omega))) only [bin_str_add, kk_eq, wrap_i64, wrap_u8, wrap_u16, wrap_u64])
  (try simp only [↓ru, rv, rl, ry, tyf, iM, bM, bsM, cond_true, cond_false, Nat.reduceLT, Nat.reduceBEq, Nat.reduceAdd, Nat.reduceEqDiff, Nat.reduceMul, Nat.reduceLeDiff, Nat.reduceSub, Nat.reduceDiv, Int.reduceLE, Int.reduceLT, Int.reduceNeg, Int.reduceAdd, Int.reduceSub, Int.reduceMul, Int.reduceToNat, Int.reducePow, Int.reduceEq, ne_eq, reduceIte, byteD, dstr, un1_str, iD, bD])
  (try (simp only [↓ru, rv, rl, ry, tyf, iM, bM, bsM, cond_true, cond_false, Nat.reduceLT, Nat.reduceBEq, Nat.reduceAdd, Nat.reduceEqDiff, Nat.reduceMul, Nat.reduceLeDiff, Nat.reduceSub, Nat.reduceDiv, Int.reduceLE, Int.reduceLT, Int.reduceNeg, Int.reduceAdd, Int.reduceSub, Int.reduceMul, Int.reduceToNat, Int.reducePow, Int.reduceEq, ne_eq, reduceIte, byteD, dstr, un1_str, iD, bD, *])); repeat' ((first | (refine fork_split (fun _h => ?_) (fun _h => ?_)) | (refine gfork_split (fun _h => ?_) (fun _h => ?_)) | (refine dfork_split (fun _h => ?_) (fun _h => ?_)) | (refine acall1_pure d3 rfl rfl ?_) | (refine dcall1_pure d3 rfl rfl ?_) | (refine acall1_pure d4 rfl rfl ?_) | (refine dcall1_pure d4 rfl rfl ?_) | (refine acall1_pure d5 rfl rfl ?_) | (refine dcall1_pure d5 rfl rfl ?_) | (refine acall1_pure l2 rfl rfl ?_) | (refine dcall1_pure l2 rfl rfl ?_) | (refine acall1_pure l3 rfl rfl ?_) | (refine dcall1_pure l3 rfl rfl ?_) | (refine acall1_pure l4 rfl rfl ?_) | (refine dcall1_pure l4 rfl rfl ?_)) <;> (try (simp only [↓ru, rv, rl, ry, tyf, iM, bM, bsM, cond_true, cond_false, Nat.reduceLT, Nat.reduceBEq, Nat.reduceAdd, Nat.reduceEqDiff, Nat.reduceMul, Nat.reduceLeDiff, Nat.reduceSub, Nat.reduceDiv, Int.reduceLE, Int.reduceLT, Int.reduceNeg, Int.reduceAdd, Int.reduceSub, Int.reduceMul, Int.reduceToNat, Int.reducePow, Int.reduceEq, ne_eq, reduceIte, byteD, dstr, un1_str, iD, bD, *])))
  simp (disch := (first | omega | (simp only [List.length_append, List.length_cons, List.length_nil, List.length_map, List.length_take, List.length_replicate, List.length_drop] <;> omega))) only [bin_str_add, kk_eq, wrap_i64, wrap_u8, wrap_u16, wrap_u64]
  (try simp only [↓ru, rv, rl, ry, tyf, iM, bM, bsM, cond_true, cond_false, Nat.reduceLT, Nat.reduceBEq, Nat.reduceAdd, Nat.reduceEqDiff, Nat.reduceMul, Nat.reduceLeDiff, Nat.reduceSub, Nat.reduceDiv, Int.reduceLE, Int.reduceLT, Int.reduceNeg, Int.reduceAdd, Int.reduceSub, Int.reduceMul, Int.reduceToNat, Int.reducePow, Int.reduceEq, ne_eq, reduceIte, byteD, dstr, un1_str, iD, bD])
  (try simp (disch := (first | omega | (simp only [List.length_append, List.length_cons, List.length_nil, List.length_map, List.length_take, List.length_replicate, List.length_drop] <;> omega))) only [bin_str_add, kk_eq, wrap_i64, wrap_u8, wrap_u16, wrap_u64])
  (try simp only [↓ru, rv, rl, ry, tyf, iM, bM, bsM, cond_true, cond_false, Nat.reduceLT, Nat.reduceBEq, Nat.reduceAdd, Nat.reduceEqDiff, Nat.reduceMul, Nat.reduceLeDiff, Nat.reduceSub, Nat.reduceDiv, Int.reduceLE, Int.reduceLT, Int.reduceNeg, Int.reduceAdd, Int.reduceSub, Int.reduceMul, Int.reduceToNat, Int.reducePow, Int.reduceEq, ne_eq, reduceIte, byteD, dstr, un1_str, iD, bD])
  (try (simp only [↓ru, rv, rl, ry, tyf, iM, bM, bsM, cond_true, cond_false, Nat.reduceLT, Nat.reduceBEq, Nat.reduceAdd, Nat.reduceEqDiff, Nat.reduceMul, Nat.reduceLeDiff, Nat.reduceSub, Nat.reduceDiv, Int.reduceLE, Int.reduceLT, Int.reduceNeg, Int.reduceAdd, Int.reduceSub, Int.reduceMul, Int.reduceToNat, Int.reducePow, Int.reduceEq, ne_eq, reduceIte, byteD, dstr, un1_str, iD, bD, *])); repeat' ((first | (refine fork_split (fun _h => ?_) (fun _h => ?_)) | (refine gfork_split (fun _h => ?_) (fun _h => ?_)) | (refine dfork_split (fun _h => ?_) (fun _h => ?_)) | (refine acall1_pure hW rfl rfl ?_) | (refine dcall1_pure hW rfl rfl ?_)) <;> (try (simp only [↓ru, rv, rl, ry, tyf, iM, bM, bsM, cond_true, cond_false, Nat.reduceLT, Nat.reduceBEq, Nat.reduceAdd, Nat.reduceEqDiff, Nat.reduceMul, Nat.reduceLeDiff, Nat.reduceSub, Nat.reduceDiv, Int.reduceLE, Int.reduceLT, Int.reduceNeg, Int.reduceAdd, Int.reduceSub, Int.reduceMul, Int.reduceToNat, Int.reducePow, Int.reduceEq, ne_eq, reduceIte, byteD, dstr, un1_str, iD, bD, *])))
  simp (disch := (first | omega | (simp only [List.length_append, List.length_cons, List.length_nil, List.length_map, List.length_take, List.length_replicate, List.length_drop] <;> omega))) only [bin_str_add, kk_eq, wrap_i64, wrap_u8, wrap_u16, wrap_u64]
  (try simp only [↓ru, rv, rl, ry, tyf, iM, bM, bsM, cond_true, cond_false, Nat.reduceLT, Nat.reduceBEq, Nat.reduceAdd, Nat.reduceEqDiff, Nat.reduceMul, Nat.reduceLeDiff, Nat.reduceSub, Nat.reduceDiv, Int.reduceLE, Int.reduceLT, Int.reduceNeg, Int.reduceAdd, Int.reduceSub, Int.reduceMul, Int.reduceToNat, Int.reducePow, Int.reduceEq, ne_eq, reduceIte, byteD, dstr, un1_str, iD, bD])
  (try (simp only [↓ru, rv, rl, ry, tyf, iM, bM, bsM, cond_true, cond_false, Nat.reduceLT, Nat.reduceBEq, Nat.reduceAdd, Nat.reduceEqDiff, Nat.reduceMul, Nat.reduceLeDiff, Nat.reduceSub, Nat.reduceDiv, Int.reduceLE, Int.reduceLT, Int.reduceNeg, Int.reduceAdd, Int.reduceSub, Int.reduceMul, Int.reduceToNat, Int.reducePow, Int.reduceEq, ne_eq, reduceIte, byteD, dstr, un1_str, iD, bD, *])); repeat' ((first | (refine fork_split (fun _h => ?_) (fun _h => ?_)) | (refine gfork_split (fun _h => ?_) (fun _h => ?_)) | (refine dfork_split (fun _h => ?_) (fun _h => ?_)) | (refine acall1_pure d6 rfl rfl ?_) | (refine dcall1_pure d6 rfl rfl ?_) | (refine acall1_pure d7 rfl rfl ?_) | (refine dcall1_pure d7 rfl rfl ?_) | (refine acall1_pure l5 rfl rfl ?_) | (refine dcall1_pure l5 rfl rfl ?_) | (refine acall1_pure l6 rfl rfl ?_) | (refine dcall1_pure l6 rfl rfl ?_)) <;> (try (simp only [↓ru, rv, rl, ry, tyf, iM, bM, bsM, cond_true, cond_false, Nat.reduceLT, Nat.reduceBEq, Nat.reduceAdd, Nat.reduceEqDiff, Nat.reduceMul, Nat.reduceLeDiff, Nat.reduceSub, Nat.reduceDiv, Int.reduceLE, Int.reduceLT, Int.reduceNeg, Int.reduceAdd, Int.reduceSub, Int.reduceMul, Int.reduceToNat, Int.reducePow, Int.reduceEq, ne_eq, reduceIte, byteD, dstr, un1_str, iD, bD, *])))
  simp (disch := (first | omega | (simp only [List.length_append, List.length_cons, List.length_nil, List.length_map, List.length_take, List.length_replicate, List.length_drop] <;> omega))) only [bin_str_add, kk_eq, wrap_i64, wrap_u8, wrap_u16, wrap_u64]
  (try simp only [↓ru, rv, rl, ry, tyf, iM, bM, bsM, cond_true, cond_false, Nat.reduceLT, Nat.reduceBEq, Nat.reduceAdd, Nat.reduceEqDiff, Nat.reduceMul, Nat.reduceLeDiff, Nat.reduceSub, Nat.reduceDiv, Int.reduceLE, Int.reduceLT, Int.reduceNeg, Int.reduceAdd, Int.reduceSub, Int.reduceMul, Int.reduceToNat, Int.reducePow, Int.reduceEq, ne_eq, reduceIte, byteD, dstr, un1_str, iD, bD])
  (try simp (disch := (first | omega | (simp only [List.length_append, List.length_cons, List.length_nil, List.length_map, List.length_take, List.length_replicate, List.length_drop] <;> omega))) only [bin_str_add, kk_eq, wrap_i64, wrap_u8, wrap_u16, wrap_u64])
  (try simp only [↓ru, rv, rl, ry, tyf, iM, bM, bsM, cond_true, cond_false, Nat.reduceLT, Nat.reduceBEq, Nat.reduceAdd, Nat.reduceEqDiff, Nat.reduceMul, Nat.reduceLeDiff, Nat.reduceSub, Nat.reduceDiv, Int.reduceLE, Int.reduceLT, Int.reduceNeg, Int.reduceAdd, Int.reduceSub, Int.reduceMul, Int.reduceToNat, Int.reducePow, Int.reduceEq, ne_eq, reduceIte, byteD, dstr, un1_str, iD, bD])
  simp only [↓ru, rv, rl, ry, tyf, iM, bM, bsM, cond_true, cond_false, Nat.reduceLT, Nat.reduceBEq, Nat.reduceAdd, Nat.reduceEqDiff, Nat.reduceMul, Nat.reduceLeDiff, Nat.reduceSub, Nat.reduceDiv, Int.reduceLE, Int.reduceLT, Int.reduceNeg, Int.reduceAdd, Int.reduceSub, Int.reduceMul, Int.reduceToNat, Int.reducePow, Int.reduceEq, ne_eq, reduceIte, byteD, dstr, un1_str, iD, bD, pureEnd_of (fn := Tryd.f39) (rs := [.tmp 2, .tmp 3]) (ts := [33, 37]) rfl rfl]
end Go.CF

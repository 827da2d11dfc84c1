import Derived.Test.YtmgfnlnomecbiaaDoorK7
set_option linter.all false
open Go.Proofs Go.Abs Go.Fa Go.BU Go.TX Go.TW
namespace Go.CF
set_option maxHeartbeats 4000000
set_option maxRecDepth 10000
-- rules: byteD, dstr, un1_str, iD, bD

def takeF (L : Rows) (bad : Bool) (w : List UInt8) (k : Nat) : Rows × Bool × Option (List (List UInt8)) := match bad, L with
  | false, row :: rest => if row.length = 1 + k ∧ row.getD 0 [] = w then (rest, !(row.drop 1).all (fun s => (pdec s).2), some (row.drop 1)) else (row :: rest, true, none)
  | _, L => (L, true, none)
def valF (x : Rows × Bool × Option (List (List UInt8))) (i : Nat) (old : Int) : Int := match x.2.2 with | some l => (pdec (l.getD i [])).1 | none => old
theorem set_self {c : List M} {o : Nat} {m : M} (h : c[o]? = some m) : c.set o m = c := by
  obtain ⟨hlt, rfl⟩ := List.getElem?_eq_some_iff.1 h
  exact List.set_getElem_self hlt
theorem get_set_self {B : Bx} {p q : Nat} {x : Box} (h : B.get p = some x) : (B.set p x).get q = B.get q := by
  rw [Bx.get_set]
  by_cases e : p = q
  · subst e; rw [if_pos rfl, h]; rfl
  · rw [if_neg e]
theorem set_set {B : Bx} {p : Nat} {x y : Box} : (B.set p x).set p y = B.set p y := by
  simp only [Bx.set, List.map_map]
  apply List.map_congr_left
  intro z _
  simp only [Function.comp]
  by_cases h : z.1 = p <;> simp [h]
theorem splice1 {l : List M} {i : Nat} (h : i < l.length) (v : M) : l.take i ++ [v] ++ l.drop (i + 1) = l.set i v := by
  rw [List.set_eq_take_append_cons_drop, if_pos h]; simp
theorem aEnd_nrm {P : Program} {env : Nat → M} {B : Bx} {n : Nat} {fn : Func} {K : KT} {rs : List ResultVar} (h : fn.results.toList = rs) : aEnd P fn K .normal env B n = rvs P env B rs (aFin K B n) := aEnd_of h
theorem bset_comm {B : Bx} {p q : Nat} {x y : Box} (h : ¬ (p = q)) : (B.set p x).set q y = (B.set q y).set p x := by
  simp only [Bx.set, List.map_map]
  apply List.map_congr_left
  intro z _
  simp only [Function.comp]
  by_cases h1 : z.1 = p
  · by_cases h2 : z.1 = q
    · exact absurd (h1.symm.trans h2) h
    · have : ¬ (p = q) := h
      simp [h1, h2, this]
  · by_cases h2 : z.1 = q
    · have : ¬ (q = p) := fun e => h e.symm
      simp [h1, h2, this]
    · simp [h1, h2]
theorem take_no {L : Rows} {bad : Bool} {w : List UInt8} {k : Nat} (h : takeF L bad w k = (L, true, none)) (i : Nat) (old : Int) : valF (takeF L bad w k) i old = old := by rw [h]; rfl
theorem Take1 (L : Rows) (bad : Bool) (w : List UInt8) (hL : RK L) (hw : w.length ≤ 1000) {B : Bx} {n q p o : Nat} {fz : Bool} {c : List M} {old : Int} {K : KT} (hr : B.get 15 = some (.st [rowsM L, bM bad])) (hq : B.get q = some (.ar fz 1 [[.ptr p o]]))
    (hp : B.get p = some (.st c)) (ho : c[o]? = some (iM old)) (d1 : ¬ (15 = p)) (d2 : ¬ (15 = q)) (d3 : ¬ (p = 15)) (d4 : ¬ (p = q)) (d5 : ¬ (q = 15)) (d6 : ¬ (q = p))
    (hK : ∀ n', n ≤ n' → K (.tup []) ((B.set p (.st (c.set o (iM (valF (takeF L bad w 1) 0 old))))).set 15 (.st [rowsM (takeF L bad w 1).1, bM (takeF L bad w 1).2.1])) n') :
    AFn Tryd.prog 73 [.ptr 15 0, strM w, .hsl q 1] B n K := by
  have w2 : IntKind.i64.wrap 2 = 2 := by decide
  have hoc : o < c.length := (List.getElem?_eq_some_iff.1 ho).1
  have sp : ∀ v, List.take o c ++ [v] ++ List.drop (o + 1) c = c.set o v := fun v => splice1 hoc v
  have gs : ∀ x, (B.set 15 x).get 15 = some x := fun x => by rw [Bx.get_set, if_pos rfl, hr]; rfl
  have stop : takeF L bad w 1 = (L, true, none) → ∀ n', n ≤ n' → aFin K (B.set 15 (.st [rowsM L, bM true])) n' [] := fun h n' hn => by
    have h1 := hK n' hn
    simp only [take_no h] at h1
    rw [set_self ho, h] at h1
    refine ⟨_, fun r x hx => ?_, h1⟩
    rw [Bx.get_set] at hx ⊢
    rw [get_set_self hp] at hx
    exact hx
  cases bad with
  | true =>
    have hs := stop rfl
    (refine AFn.intro (prs := []) Tryd.func73 rfl rfl mix (by kernel_rfl) rfl (fun hB => ?_); simp only [Tryd.ntmps73, argUpd])
    (try (simp only [↓ru, rv, rl, ry, tyf, iM, bM, bsM, cond_true, cond_false, Nat.reduceLT, Nat.reduceBEq, Nat.reduceAdd, Nat.reduceEqDiff, Nat.reduceMul, Nat.reduceLeDiff, Nat.reduceSub, Nat.reduceDiv, Int.reduceLE, Int.reduceLT, Int.reduceNeg, Int.reduceAdd, Int.reduceSub, Int.reduceMul, Int.reduceToNat, Int.reducePow, Int.reduceEq, ne_eq, reduceIte, byteD, dstr, un1_str, iD, bD, hr, gs, set_set, aEnd_of (fn := Tryd.f73) (rs := []) rfl, *])); repeat' ((first | (refine fork_split (fun _h => ?_) (fun _h => ?_)) | (refine gfork_split (fun _h => ?_) (fun _h => ?_)) | (refine dfork_split (fun _h => ?_) (fun _h => ?_))) <;> (try (simp only [↓ru, rv, rl, ry, tyf, iM, bM, bsM, cond_true, cond_false, Nat.reduceLT, Nat.reduceBEq, Nat.reduceAdd, Nat.reduceEqDiff, Nat.reduceMul, Nat.reduceLeDiff, Nat.reduceSub, Nat.reduceDiv, Int.reduceLE, Int.reduceLT, Int.reduceNeg, Int.reduceAdd, Int.reduceSub, Int.reduceMul, Int.reduceToNat, Int.reducePow, Int.reduceEq, ne_eq, reduceIte, byteD, dstr, un1_str, iD, bD, hr, gs, set_set, aEnd_of (fn := Tryd.f73) (rs := []) rfl, *])))
    exact hs _ (by omega)
  | false =>
    cases L with
    | nil =>
      have hs := stop rfl
      (refine AFn.intro (prs := []) Tryd.func73 rfl rfl mix (by kernel_rfl) rfl (fun hB => ?_); simp only [Tryd.ntmps73, argUpd])
      (try (simp only [↓ru, rv, rl, ry, tyf, iM, bM, bsM, cond_true, cond_false, Nat.reduceLT, Nat.reduceBEq, Nat.reduceAdd, Nat.reduceEqDiff, Nat.reduceMul, Nat.reduceLeDiff, Nat.reduceSub, Nat.reduceDiv, Int.reduceLE, Int.reduceLT, Int.reduceNeg, Int.reduceAdd, Int.reduceSub, Int.reduceMul, Int.reduceToNat, Int.reducePow, Int.reduceEq, ne_eq, reduceIte, byteD, dstr, un1_str, iD, bD, hr, gs, set_set, List.length_nil, aEnd_of (fn := Tryd.f73) (rs := []) rfl, *])); repeat' ((first | (refine fork_split (fun _h => ?_) (fun _h => ?_)) | (refine gfork_split (fun _h => ?_) (fun _h => ?_)) | (refine dfork_split (fun _h => ?_) (fun _h => ?_))) <;> (try (simp only [↓ru, rv, rl, ry, tyf, iM, bM, bsM, cond_true, cond_false, Nat.reduceLT, Nat.reduceBEq, Nat.reduceAdd, Nat.reduceEqDiff, Nat.reduceMul, Nat.reduceLeDiff, Nat.reduceSub, Nat.reduceDiv, Int.reduceLE, Int.reduceLT, Int.reduceNeg, Int.reduceAdd, Int.reduceSub, Int.reduceMul, Int.reduceToNat, Int.reducePow, Int.reduceEq, ne_eq, reduceIte, byteD, dstr, un1_str, iD, bD, hr, gs, set_set, List.length_nil, aEnd_of (fn := Tryd.f73) (rs := []) rfl, *])))
      exact hs _ (by omega)
    | cons row rest =>
      obtain ⟨q1, q2⟩ := hL
      have hrow := q2 row (by simp)
      have hll : rest.length + 1 ≤ 300000 := by simpa using q1
      have d0 : decide (((rest.length + 1 : Nat) : Int) = 0) = false := decide_eq_false (by omega)
      by_cases hr2 : row.length = 2
      · match row, hr2, hrow, stop with
        | [w0, x], _, hrow, stop =>
          by_cases hw0 : w0 = w
          · subst hw0
            have ht0 : takeF ([w0, x] :: rest) false w0 1 = (rest, !((pdec x).2), some [x]) := by simp [takeF, Bool.and_assoc]
            rw [ht0] at hK
            simp only [valF, List.getD_cons_zero, List.getD_cons_succ] at hK
            have dq : decide (w0 = w0) = true := decide_eq_true rfl
            have hP0 := ParseDecimal x (by have := hrow.2 x (by simp); omega)
            clear ht0 stop q1 q2 hrow
            generalize pdec x = e0 at *
            obtain ⟨v0, k0⟩ := e0
            simp only at hK hP0
            cases k0
            all_goals
              (refine AFn.intro (prs := []) Tryd.func73 rfl rfl mix (by kernel_rfl) rfl (fun hB => ?_); simp only [Tryd.ntmps73, argUpd])
              (try (simp only [↓ru, rv, rl, ry, tyf, iM, bM, bsM, cond_true, cond_false, Nat.reduceLT, Nat.reduceBEq, Nat.reduceAdd, Nat.reduceEqDiff, Nat.reduceMul, Nat.reduceLeDiff, Nat.reduceSub, Nat.reduceDiv, Int.reduceLE, Int.reduceLT, Int.reduceNeg, Int.reduceAdd, Int.reduceSub, Int.reduceMul, Int.reduceToNat, Int.reducePow, Int.reduceEq, ne_eq, reduceIte, byteD, dstr, un1_str, iD, bD, unR_ret, unR_exit, wrap_i64, wrap_u8, wrap_u16, hr, gs, set_set, w2, d0, dq, sp, Bx.get_set, d1, d2, d3, d4, d5, d6, hp, hq, List.take_length, List.length_cons, List.length_nil, aEnd_of (fn := Tryd.f73) (rs := []) rfl, *])); repeat' ((first | (refine unR_next ?_) | (refine aloop_unroll 2 ?_) | (refine fork_split (fun _h => ?_) (fun _h => ?_)) | (refine gfork_split (fun _h => ?_) (fun _h => ?_)) | (refine dfork_split (fun _h => ?_) (fun _h => ?_)) | (refine acall1_pure hP0 rfl rfl ?_) | (refine dcall1_pure hP0 rfl rfl ?_)) <;> (try (simp only [↓ru, rv, rl, ry, tyf, iM, bM, bsM, cond_true, cond_false, Nat.reduceLT, Nat.reduceBEq, Nat.reduceAdd, Nat.reduceEqDiff, Nat.reduceMul, Nat.reduceLeDiff, Nat.reduceSub, Nat.reduceDiv, Int.reduceLE, Int.reduceLT, Int.reduceNeg, Int.reduceAdd, Int.reduceSub, Int.reduceMul, Int.reduceToNat, Int.reducePow, Int.reduceEq, ne_eq, reduceIte, byteD, dstr, un1_str, iD, bD, unR_ret, unR_exit, wrap_i64, wrap_u8, wrap_u16, hr, gs, set_set, w2, d0, dq, sp, Bx.get_set, d1, d2, d3, d4, d5, d6, hp, hq, List.take_length, List.length_cons, List.length_nil, aEnd_of (fn := Tryd.f73) (rs := []) rfl, *])))
              (try (refine grd_intro (by first | omega | (simp; omega)) ?_))
              (try (try (simp only [↓ru, rv, rl, ry, tyf, iM, bM, bsM, cond_true, cond_false, Nat.reduceLT, Nat.reduceBEq, Nat.reduceAdd, Nat.reduceEqDiff, Nat.reduceMul, Nat.reduceLeDiff, Nat.reduceSub, Nat.reduceDiv, Int.reduceLE, Int.reduceLT, Int.reduceNeg, Int.reduceAdd, Int.reduceSub, Int.reduceMul, Int.reduceToNat, Int.reducePow, Int.reduceEq, ne_eq, reduceIte, byteD, dstr, un1_str, iD, bD, unR_ret, unR_exit, wrap_i64, wrap_u8, wrap_u16, hr, gs, set_set, w2, d0, dq, sp, Bx.get_set, d1, d2, d3, d4, d5, d6, hp, hq, List.take_length, List.length_cons, List.length_nil, aEnd_of (fn := Tryd.f73) (rs := []) rfl, *])); repeat' ((first | (refine unR_next ?_) | (refine aloop_unroll 2 ?_) | (refine fork_split (fun _h => ?_) (fun _h => ?_)) | (refine gfork_split (fun _h => ?_) (fun _h => ?_)) | (refine dfork_split (fun _h => ?_) (fun _h => ?_)) | (refine acall1_pure hP0 rfl rfl ?_) | (refine dcall1_pure hP0 rfl rfl ?_)) <;> (try (simp only [↓ru, rv, rl, ry, tyf, iM, bM, bsM, cond_true, cond_false, Nat.reduceLT, Nat.reduceBEq, Nat.reduceAdd, Nat.reduceEqDiff, Nat.reduceMul, Nat.reduceLeDiff, Nat.reduceSub, Nat.reduceDiv, Int.reduceLE, Int.reduceLT, Int.reduceNeg, Int.reduceAdd, Int.reduceSub, Int.reduceMul, Int.reduceToNat, Int.reducePow, Int.reduceEq, ne_eq, reduceIte, byteD, dstr, un1_str, iD, bD, unR_ret, unR_exit, wrap_i64, wrap_u8, wrap_u16, hr, gs, set_set, w2, d0, dq, sp, Bx.get_set, d1, d2, d3, d4, d5, d6, hp, hq, List.take_length, List.length_cons, List.length_nil, aEnd_of (fn := Tryd.f73) (rs := []) rfl, *]))))
              (try (refine grd_intro (by first | omega | (simp; omega)) ?_))
              (try (try (simp only [↓ru, rv, rl, ry, tyf, iM, bM, bsM, cond_true, cond_false, Nat.reduceLT, Nat.reduceBEq, Nat.reduceAdd, Nat.reduceEqDiff, Nat.reduceMul, Nat.reduceLeDiff, Nat.reduceSub, Nat.reduceDiv, Int.reduceLE, Int.reduceLT, Int.reduceNeg, Int.reduceAdd, Int.reduceSub, Int.reduceMul, Int.reduceToNat, Int.reducePow, Int.reduceEq, ne_eq, reduceIte, byteD, dstr, un1_str, iD, bD, unR_ret, unR_exit, wrap_i64, wrap_u8, wrap_u16, hr, gs, set_set, w2, d0, dq, sp, Bx.get_set, d1, d2, d3, d4, d5, d6, hp, hq, List.take_length, List.length_cons, List.length_nil, aEnd_of (fn := Tryd.f73) (rs := []) rfl, *])); repeat' ((first | (refine unR_next ?_) | (refine aloop_unroll 2 ?_) | (refine fork_split (fun _h => ?_) (fun _h => ?_)) | (refine gfork_split (fun _h => ?_) (fun _h => ?_)) | (refine dfork_split (fun _h => ?_) (fun _h => ?_)) | (refine acall1_pure hP0 rfl rfl ?_) | (refine dcall1_pure hP0 rfl rfl ?_)) <;> (try (simp only [↓ru, rv, rl, ry, tyf, iM, bM, bsM, cond_true, cond_false, Nat.reduceLT, Nat.reduceBEq, Nat.reduceAdd, Nat.reduceEqDiff, Nat.reduceMul, Nat.reduceLeDiff, Nat.reduceSub, Nat.reduceDiv, Int.reduceLE, Int.reduceLT, Int.reduceNeg, Int.reduceAdd, Int.reduceSub, Int.reduceMul, Int.reduceToNat, Int.reducePow, Int.reduceEq, ne_eq, reduceIte, byteD, dstr, un1_str, iD, bD, unR_ret, unR_exit, wrap_i64, wrap_u8, wrap_u16, hr, gs, set_set, w2, d0, dq, sp, Bx.get_set, d1, d2, d3, d4, d5, d6, hp, hq, List.take_length, List.length_cons, List.length_nil, aEnd_of (fn := Tryd.f73) (rs := []) rfl, *]))))
              simp only [↓ru, rv, rl, ry, tyf, iM, bM, bsM, cond_true, cond_false, Nat.reduceLT, Nat.reduceBEq, Nat.reduceAdd, Nat.reduceEqDiff, Nat.reduceMul, Nat.reduceLeDiff, Nat.reduceSub, Nat.reduceDiv, Int.reduceLE, Int.reduceLT, Int.reduceNeg, Int.reduceAdd, Int.reduceSub, Int.reduceMul, Int.reduceToNat, Int.reducePow, Int.reduceEq, ne_eq, reduceIte, byteD, dstr, un1_str, iD, bD, aEnd_nrm (P := Tryd.prog) (fn := Tryd.f73) (rs := []) rfl]
              exact aFin_same (hK _ (by omega))
          · have hs := stop (by simp [takeF, hw0])
            have dq : decide (w0 = w) = false := decide_eq_false hw0
            (refine AFn.intro (prs := []) Tryd.func73 rfl rfl mix (by kernel_rfl) rfl (fun hB => ?_); simp only [Tryd.ntmps73, argUpd])
            (try (simp only [↓ru, rv, rl, ry, tyf, iM, bM, bsM, cond_true, cond_false, Nat.reduceLT, Nat.reduceBEq, Nat.reduceAdd, Nat.reduceEqDiff, Nat.reduceMul, Nat.reduceLeDiff, Nat.reduceSub, Nat.reduceDiv, Int.reduceLE, Int.reduceLT, Int.reduceNeg, Int.reduceAdd, Int.reduceSub, Int.reduceMul, Int.reduceToNat, Int.reducePow, Int.reduceEq, ne_eq, reduceIte, byteD, dstr, un1_str, iD, bD, hr, gs, set_set, w2, d0, dq, List.length_cons, List.length_nil, aEnd_of (fn := Tryd.f73) (rs := []) rfl, *])); repeat' ((first | (refine fork_split (fun _h => ?_) (fun _h => ?_)) | (refine gfork_split (fun _h => ?_) (fun _h => ?_)) | (refine dfork_split (fun _h => ?_) (fun _h => ?_))) <;> (try (simp only [↓ru, rv, rl, ry, tyf, iM, bM, bsM, cond_true, cond_false, Nat.reduceLT, Nat.reduceBEq, Nat.reduceAdd, Nat.reduceEqDiff, Nat.reduceMul, Nat.reduceLeDiff, Nat.reduceSub, Nat.reduceDiv, Int.reduceLE, Int.reduceLT, Int.reduceNeg, Int.reduceAdd, Int.reduceSub, Int.reduceMul, Int.reduceToNat, Int.reducePow, Int.reduceEq, ne_eq, reduceIte, byteD, dstr, un1_str, iD, bD, hr, gs, set_set, w2, d0, dq, List.length_cons, List.length_nil, aEnd_of (fn := Tryd.f73) (rs := []) rfl, *])))
            all_goals exact hs _ (by omega)
      · have hs := stop (by rw [takeF, if_neg (fun h => hr2 (by omega))])
        have d2' : decide ((row.length : Int) = 2) = false := decide_eq_false (by omega)
        (refine AFn.intro (prs := []) Tryd.func73 rfl rfl mix (by kernel_rfl) rfl (fun hB => ?_); simp only [Tryd.ntmps73, argUpd])
        (try (simp only [↓ru, rv, rl, ry, tyf, iM, bM, bsM, cond_true, cond_false, Nat.reduceLT, Nat.reduceBEq, Nat.reduceAdd, Nat.reduceEqDiff, Nat.reduceMul, Nat.reduceLeDiff, Nat.reduceSub, Nat.reduceDiv, Int.reduceLE, Int.reduceLT, Int.reduceNeg, Int.reduceAdd, Int.reduceSub, Int.reduceMul, Int.reduceToNat, Int.reducePow, Int.reduceEq, ne_eq, reduceIte, byteD, dstr, un1_str, iD, bD, hr, gs, set_set, w2, d0, d2', List.length_cons, List.length_nil, aEnd_of (fn := Tryd.f73) (rs := []) rfl, *])); repeat' ((first | (refine fork_split (fun _h => ?_) (fun _h => ?_)) | (refine gfork_split (fun _h => ?_) (fun _h => ?_)) | (refine dfork_split (fun _h => ?_) (fun _h => ?_))) <;> (try (simp only [↓ru, rv, rl, ry, tyf, iM, bM, bsM, cond_true, cond_false, Nat.reduceLT, Nat.reduceBEq, Nat.reduceAdd, Nat.reduceEqDiff, Nat.reduceMul, Nat.reduceLeDiff, Nat.reduceSub, Nat.reduceDiv, Int.reduceLE, Int.reduceLT, Int.reduceNeg, Int.reduceAdd, Int.reduceSub, Int.reduceMul, Int.reduceToNat, Int.reducePow, Int.reduceEq, ne_eq, reduceIte, byteD, dstr, un1_str, iD, bD, hr, gs, set_set, w2, d0, d2', List.length_cons, List.length_nil, aEnd_of (fn := Tryd.f73) (rs := []) rfl, *])))
        exact hs _ (by omega)
end Go.CF

import Derived.Test.YtmgfnlnomecbiaaDoorKA
set_option linter.all false
open Go.Proofs Go.Abs Go.Fa Go.BU Go.TX Go.TW
namespace Go.CF
set_option maxHeartbeats 4000000
set_option maxRecDepth 10000
-- rules: byteD, dstr, un1_str, iD, bD

theorem Take2 (L : Rows) (bad : Bool) (w : List UInt8) (hL : RK L) (hw : w.length ≤ 1000) {B : Bx} {n q p o : Nat} {fz : Bool} {c : List M} {old : Int} {o2 : Nat} {old2 : Int} {K : KT} (hr : B.get 15 = some (.st [rowsM L, bM bad])) (hq : B.get q = some (.ar fz 1 [[.ptr p o], [.ptr p o2]]))
    (hp : B.get p = some (.st c)) (ho : c[o]? = some (iM old)) (ho2 : c[o2]? = some (iM old2)) (hoo : ¬ (o = o2)) (d1 : ¬ (15 = p)) (d2 : ¬ (15 = q)) (d3 : ¬ (p = 15)) (d4 : ¬ (p = q)) (d5 : ¬ (q = 15)) (d6 : ¬ (q = p))
    (hK : ∀ n', n ≤ n' → K (.tup []) ((B.set p (.st ((c.set o (iM (valF (takeF L bad w 2) 0 old))).set o2 (iM (valF (takeF L bad w 2) 1 old2))))).set 15 (.st [rowsM (takeF L bad w 2).1, bM (takeF L bad w 2).2.1])) n') :
    AFn Tryd.prog 73 [.ptr 15 0, strM w, .hsl q 2] B n K := by
  have w2 : IntKind.i64.wrap 3 = 3 := by decide
  have hoc : o < c.length := (List.getElem?_eq_some_iff.1 ho).1
  have sp : ∀ v, List.take o c ++ [v] ++ List.drop (o + 1) c = c.set o v := fun v => splice1 hoc v
  have hoc2 : o2 < c.length := (List.getElem?_eq_some_iff.1 ho2).1
  have sp2 : ∀ u v, List.take o2 (c.set o u) ++ [v] ++ List.drop (o2 + 1) (c.set o u) = (c.set o u).set o2 v := fun u v => splice1 (by simpa using hoc2) v
  have sl : ∀ u, (c.set o u).length = c.length := fun u => by simp
  have hoo2 : ¬ (o2 = o) := fun e => hoo e.symm
  have c1 : ∀ (C : Bx) (x y : Box), (C.set 15 y).set p x = (C.set p x).set 15 y := fun C x y => bset_comm (by assumption)
  have gs : ∀ x, (B.set 15 x).get 15 = some x := fun x => by rw [Bx.get_set, if_pos rfl, hr]; rfl
  have stop : takeF L bad w 2 = (L, true, none) → ∀ n', n ≤ n' → aFin K (B.set 15 (.st [rowsM L, bM true])) n' [] := fun h n' hn => by
    have h1 := hK n' hn
    simp only [take_no h] at h1
    rw [set_self ho, set_self ho2, h] at h1
    refine ⟨_, fun r x hx => ?_, h1⟩
    rw [Bx.get_set] at hx ⊢
    rw [get_set_self hp] at hx
    exact hx
  cases bad with
  | true =>
    have hs := stop rfl
    (refine AFn.intro (prs := []) Tryd.func73 rfl rfl mix (by kernel_rfl) rfl (fun hB => ?_); simp only [Tryd.ntmps73, argUpd])
    (try (simp only [↓ru, rv, rl, ry, tyf, iM, bM, bsM, cond_true, cond_false, Nat.reduceLT, Nat.reduceBEq, Nat.reduceAdd, Nat.reduceEqDiff, Nat.reduceMul, Nat.reduceLeDiff, Nat.reduceSub, Nat.reduceDiv, Int.reduceLE, Int.reduceLT, Int.reduceNeg, Int.reduceAdd, Int.reduceSub, Int.reduceMul, Int.reduceToNat, Int.reducePow, Int.reduceEq, ne_eq, reduceIte, byteD, dstr, un1_str, iD, bD, hr, gs, set_set, aEnd_of (fn := Tryd.f73) (rs := []) rfl, *])); repeat' ((first | (refine fork_split (fun _h => ?_) (fun _h => ?_)) | (refine gfork_split (fun _h => ?_) (fun _h => ?_)) | (refine dfork_split (fun _h => ?_) (fun _h => ?_))) <;> (try (simp only [↓ru, rv, rl, ry, tyf, iM, bM, bsM, cond_true, cond_false, Nat.reduceLT, Nat.reduceBEq, Nat.reduceAdd, Nat.reduceEqDiff, Nat.reduceMul, Nat.reduceLeDiff, Nat.reduceSub, Nat.reduceDiv, Int.reduceLE, Int.reduceLT, Int.reduceNeg, Int.reduceAdd, Int.reduceSub, Int.reduceMul, Int.reduceToNat, Int.reducePow, Int.reduceEq, ne_eq, reduceIte, byteD, dstr, un1_str, iD, bD, hr, gs, set_set, aEnd_of (fn := Tryd.f73) (rs := []) rfl, *])))
    exact hs _ (by omega)
  | false =>
    cases L with
    | nil =>
      have hs := stop rfl
      (refine AFn.intro (prs := []) Tryd.func73 rfl rfl mix (by kernel_rfl) rfl (fun hB => ?_); simp only [Tryd.ntmps73, argUpd])
      (try (simp only [↓ru, rv, rl, ry, tyf, iM, bM, bsM, cond_true, cond_false, Nat.reduceLT, Nat.reduceBEq, Nat.reduceAdd, Nat.reduceEqDiff, Nat.reduceMul, Nat.reduceLeDiff, Nat.reduceSub, Nat.reduceDiv, Int.reduceLE, Int.reduceLT, Int.reduceNeg, Int.reduceAdd, Int.reduceSub, Int.reduceMul, Int.reduceToNat, Int.reducePow, Int.reduceEq, ne_eq, reduceIte, byteD, dstr, un1_str, iD, bD, hr, gs, set_set, List.length_nil, aEnd_of (fn := Tryd.f73) (rs := []) rfl, *])); repeat' ((first | (refine fork_split (fun _h => ?_) (fun _h => ?_)) | (refine gfork_split (fun _h => ?_) (fun _h => ?_)) | (refine dfork_split (fun _h => ?_) (fun _h => ?_))) <;> (try (simp only [↓ru, rv, rl, ry, tyf, iM, bM, bsM, cond_true, cond_false, Nat.reduceLT, Nat.reduceBEq, Nat.reduceAdd, Nat.reduceEqDiff, Nat.reduceMul, Nat.reduceLeDiff, Nat.reduceSub, Nat.reduceDiv, Int.reduceLE, Int.reduceLT, Int.reduceNeg, Int.reduceAdd, Int.reduceSub, Int.reduceMul, Int.reduceToNat, Int.reducePow, Int.reduceEq, ne_eq, reduceIte, byteD, dstr, un1_str, iD, bD, hr, gs, set_set, List.length_nil, aEnd_of (fn := Tryd.f73) (rs := []) rfl, *])))
      exact hs _ (by omega)
    | cons row rest =>
      obtain ⟨q1, q2⟩ := hL
      have hrow := q2 row (by simp)
      have hll : rest.length + 1 ≤ 300000 := by simpa using q1
      have d0 : decide (((rest.length + 1 : Nat) : Int) = 0) = false := decide_eq_false (by omega)
      by_cases hr2 : row.length = 3
      · match row, hr2, hrow, stop with
        | [w0, x, y], _, hrow, stop =>
          by_cases hw0 : w0 = w
          · subst hw0
            have ht0 : takeF ([w0, x, y] :: rest) false w0 2 = (rest, !((pdec x).2 && (pdec y).2), some [x, y]) := by simp [takeF, Bool.and_assoc]
            rw [ht0] at hK
            simp only [valF, List.getD_cons_zero, List.getD_cons_succ] at hK
            have dq : decide (w0 = w0) = true := decide_eq_true rfl
            have hP0 := ParseDecimal x (by have := hrow.2 x (by simp); omega)
            have hP1 := ParseDecimal y (by have := hrow.2 y (by simp); omega)
            clear ht0 stop q1 q2 hrow
            generalize pdec x = e0 at *
            obtain ⟨v0, k0⟩ := e0
            generalize pdec y = e1 at *
            obtain ⟨v1, k1⟩ := e1
            simp only at hK hP0 hP1
            cases k0 <;> cases k1
            all_goals
              (refine AFn.intro (prs := []) Tryd.func73 rfl rfl mix (by kernel_rfl) rfl (fun hB => ?_); simp only [Tryd.ntmps73, argUpd])
              (try (simp only [↓ru, rv, rl, ry, tyf, iM, bM, bsM, cond_true, cond_false, Nat.reduceLT, Nat.reduceBEq, Nat.reduceAdd, Nat.reduceEqDiff, Nat.reduceMul, Nat.reduceLeDiff, Nat.reduceSub, Nat.reduceDiv, Int.reduceLE, Int.reduceLT, Int.reduceNeg, Int.reduceAdd, Int.reduceSub, Int.reduceMul, Int.reduceToNat, Int.reducePow, Int.reduceEq, ne_eq, reduceIte, byteD, dstr, un1_str, iD, bD, unR_ret, unR_exit, wrap_i64, wrap_u8, wrap_u16, hr, gs, set_set, w2, d0, dq, sp, sp2, sl, Bx.get_set, d1, d2, d3, d4, d5, d6, hp, hq, List.take_length, List.length_cons, List.length_nil, aEnd_of (fn := Tryd.f73) (rs := []) rfl, *])); repeat' ((first | (refine unR_next ?_) | (refine aloop_unroll 3 ?_) | (refine fork_split (fun _h => ?_) (fun _h => ?_)) | (refine gfork_split (fun _h => ?_) (fun _h => ?_)) | (refine dfork_split (fun _h => ?_) (fun _h => ?_)) | (refine acall1_pure hP0 rfl rfl ?_) | (refine dcall1_pure hP0 rfl rfl ?_) | (refine acall1_pure hP1 rfl rfl ?_) | (refine dcall1_pure hP1 rfl rfl ?_)) <;> (try (simp only [↓ru, rv, rl, ry, tyf, iM, bM, bsM, cond_true, cond_false, Nat.reduceLT, Nat.reduceBEq, Nat.reduceAdd, Nat.reduceEqDiff, Nat.reduceMul, Nat.reduceLeDiff, Nat.reduceSub, Nat.reduceDiv, Int.reduceLE, Int.reduceLT, Int.reduceNeg, Int.reduceAdd, Int.reduceSub, Int.reduceMul, Int.reduceToNat, Int.reducePow, Int.reduceEq, ne_eq, reduceIte, byteD, dstr, un1_str, iD, bD, unR_ret, unR_exit, wrap_i64, wrap_u8, wrap_u16, hr, gs, set_set, w2, d0, dq, sp, sp2, sl, Bx.get_set, d1, d2, d3, d4, d5, d6, hp, hq, List.take_length, List.length_cons, List.length_nil, aEnd_of (fn := Tryd.f73) (rs := []) rfl, *])))
              (try (refine grd_intro (by first | omega | (simp; omega)) ?_))
              (try (try (simp only [↓ru, rv, rl, ry, tyf, iM, bM, bsM, cond_true, cond_false, Nat.reduceLT, Nat.reduceBEq, Nat.reduceAdd, Nat.reduceEqDiff, Nat.reduceMul, Nat.reduceLeDiff, Nat.reduceSub, Nat.reduceDiv, Int.reduceLE, Int.reduceLT, Int.reduceNeg, Int.reduceAdd, Int.reduceSub, Int.reduceMul, Int.reduceToNat, Int.reducePow, Int.reduceEq, ne_eq, reduceIte, byteD, dstr, un1_str, iD, bD, unR_ret, unR_exit, wrap_i64, wrap_u8, wrap_u16, hr, gs, set_set, w2, d0, dq, sp, sp2, sl, Bx.get_set, d1, d2, d3, d4, d5, d6, hp, hq, List.take_length, List.length_cons, List.length_nil, aEnd_of (fn := Tryd.f73) (rs := []) rfl, *])); repeat' ((first | (refine unR_next ?_) | (refine aloop_unroll 3 ?_) | (refine fork_split (fun _h => ?_) (fun _h => ?_)) | (refine gfork_split (fun _h => ?_) (fun _h => ?_)) | (refine dfork_split (fun _h => ?_) (fun _h => ?_)) | (refine acall1_pure hP0 rfl rfl ?_) | (refine dcall1_pure hP0 rfl rfl ?_) | (refine acall1_pure hP1 rfl rfl ?_) | (refine dcall1_pure hP1 rfl rfl ?_)) <;> (try (simp only [↓ru, rv, rl, ry, tyf, iM, bM, bsM, cond_true, cond_false, Nat.reduceLT, Nat.reduceBEq, Nat.reduceAdd, Nat.reduceEqDiff, Nat.reduceMul, Nat.reduceLeDiff, Nat.reduceSub, Nat.reduceDiv, Int.reduceLE, Int.reduceLT, Int.reduceNeg, Int.reduceAdd, Int.reduceSub, Int.reduceMul, Int.reduceToNat, Int.reducePow, Int.reduceEq, ne_eq, reduceIte, byteD, dstr, un1_str, iD, bD, unR_ret, unR_exit, wrap_i64, wrap_u8, wrap_u16, hr, gs, set_set, w2, d0, dq, sp, sp2, sl, Bx.get_set, d1, d2, d3, d4, d5, d6, hp, hq, List.take_length, List.length_cons, List.length_nil, aEnd_of (fn := Tryd.f73) (rs := []) rfl, *]))))
              (try (refine grd_intro (by first | omega | (simp; omega)) ?_))
              (try (try (simp only [↓ru, rv, rl, ry, tyf, iM, bM, bsM, cond_true, cond_false, Nat.reduceLT, Nat.reduceBEq, Nat.reduceAdd, Nat.reduceEqDiff, Nat.reduceMul, Nat.reduceLeDiff, Nat.reduceSub, Nat.reduceDiv, Int.reduceLE, Int.reduceLT, Int.reduceNeg, Int.reduceAdd, Int.reduceSub, Int.reduceMul, Int.reduceToNat, Int.reducePow, Int.reduceEq, ne_eq, reduceIte, byteD, dstr, un1_str, iD, bD, unR_ret, unR_exit, wrap_i64, wrap_u8, wrap_u16, hr, gs, set_set, w2, d0, dq, sp, sp2, sl, Bx.get_set, d1, d2, d3, d4, d5, d6, hp, hq, List.take_length, List.length_cons, List.length_nil, aEnd_of (fn := Tryd.f73) (rs := []) rfl, *])); repeat' ((first | (refine unR_next ?_) | (refine aloop_unroll 3 ?_) | (refine fork_split (fun _h => ?_) (fun _h => ?_)) | (refine gfork_split (fun _h => ?_) (fun _h => ?_)) | (refine dfork_split (fun _h => ?_) (fun _h => ?_)) | (refine acall1_pure hP0 rfl rfl ?_) | (refine dcall1_pure hP0 rfl rfl ?_) | (refine acall1_pure hP1 rfl rfl ?_) | (refine dcall1_pure hP1 rfl rfl ?_)) <;> (try (simp only [↓ru, rv, rl, ry, tyf, iM, bM, bsM, cond_true, cond_false, Nat.reduceLT, Nat.reduceBEq, Nat.reduceAdd, Nat.reduceEqDiff, Nat.reduceMul, Nat.reduceLeDiff, Nat.reduceSub, Nat.reduceDiv, Int.reduceLE, Int.reduceLT, Int.reduceNeg, Int.reduceAdd, Int.reduceSub, Int.reduceMul, Int.reduceToNat, Int.reducePow, Int.reduceEq, ne_eq, reduceIte, byteD, dstr, un1_str, iD, bD, unR_ret, unR_exit, wrap_i64, wrap_u8, wrap_u16, hr, gs, set_set, w2, d0, dq, sp, sp2, sl, Bx.get_set, d1, d2, d3, d4, d5, d6, hp, hq, List.take_length, List.length_cons, List.length_nil, aEnd_of (fn := Tryd.f73) (rs := []) rfl, *]))))
              (try (refine grd_intro (by first | omega | (simp; omega)) ?_))
              (try (try (simp only [↓ru, rv, rl, ry, tyf, iM, bM, bsM, cond_true, cond_false, Nat.reduceLT, Nat.reduceBEq, Nat.reduceAdd, Nat.reduceEqDiff, Nat.reduceMul, Nat.reduceLeDiff, Nat.reduceSub, Nat.reduceDiv, Int.reduceLE, Int.reduceLT, Int.reduceNeg, Int.reduceAdd, Int.reduceSub, Int.reduceMul, Int.reduceToNat, Int.reducePow, Int.reduceEq, ne_eq, reduceIte, byteD, dstr, un1_str, iD, bD, unR_ret, unR_exit, wrap_i64, wrap_u8, wrap_u16, hr, gs, set_set, w2, d0, dq, sp, sp2, sl, Bx.get_set, d1, d2, d3, d4, d5, d6, hp, hq, List.take_length, List.length_cons, List.length_nil, aEnd_of (fn := Tryd.f73) (rs := []) rfl, *])); repeat' ((first | (refine unR_next ?_) | (refine aloop_unroll 3 ?_) | (refine fork_split (fun _h => ?_) (fun _h => ?_)) | (refine gfork_split (fun _h => ?_) (fun _h => ?_)) | (refine dfork_split (fun _h => ?_) (fun _h => ?_)) | (refine acall1_pure hP0 rfl rfl ?_) | (refine dcall1_pure hP0 rfl rfl ?_) | (refine acall1_pure hP1 rfl rfl ?_) | (refine dcall1_pure hP1 rfl rfl ?_)) <;> (try (simp only [↓ru, rv, rl, ry, tyf, iM, bM, bsM, cond_true, cond_false, Nat.reduceLT, Nat.reduceBEq, Nat.reduceAdd, Nat.reduceEqDiff, Nat.reduceMul, Nat.reduceLeDiff, Nat.reduceSub, Nat.reduceDiv, Int.reduceLE, Int.reduceLT, Int.reduceNeg, Int.reduceAdd, Int.reduceSub, Int.reduceMul, Int.reduceToNat, Int.reducePow, Int.reduceEq, ne_eq, reduceIte, byteD, dstr, un1_str, iD, bD, unR_ret, unR_exit, wrap_i64, wrap_u8, wrap_u16, hr, gs, set_set, w2, d0, dq, sp, sp2, sl, Bx.get_set, d1, d2, d3, d4, d5, d6, hp, hq, List.take_length, List.length_cons, List.length_nil, aEnd_of (fn := Tryd.f73) (rs := []) rfl, *]))))
              simp only [↓ru, rv, rl, ry, tyf, iM, bM, bsM, cond_true, cond_false, Nat.reduceLT, Nat.reduceBEq, Nat.reduceAdd, Nat.reduceEqDiff, Nat.reduceMul, Nat.reduceLeDiff, Nat.reduceSub, Nat.reduceDiv, Int.reduceLE, Int.reduceLT, Int.reduceNeg, Int.reduceAdd, Int.reduceSub, Int.reduceMul, Int.reduceToNat, Int.reducePow, Int.reduceEq, ne_eq, reduceIte, byteD, dstr, un1_str, iD, bD, aEnd_nrm (P := Tryd.prog) (fn := Tryd.f73) (rs := []) rfl]
              (try simp only [c1, set_set])
              exact aFin_same (hK _ (by omega))
          · have hs := stop (by simp [takeF, hw0])
            have dq : decide (w0 = w) = false := decide_eq_false hw0
            (refine AFn.intro (prs := []) Tryd.func73 rfl rfl mix (by kernel_rfl) rfl (fun hB => ?_); simp only [Tryd.ntmps73, argUpd])
            (try (simp only [↓ru, rv, rl, ry, tyf, iM, bM, bsM, cond_true, cond_false, Nat.reduceLT, Nat.reduceBEq, Nat.reduceAdd, Nat.reduceEqDiff, Nat.reduceMul, Nat.reduceLeDiff, Nat.reduceSub, Nat.reduceDiv, Int.reduceLE, Int.reduceLT, Int.reduceNeg, Int.reduceAdd, Int.reduceSub, Int.reduceMul, Int.reduceToNat, Int.reducePow, Int.reduceEq, ne_eq, reduceIte, byteD, dstr, un1_str, iD, bD, hr, gs, set_set, w2, d0, dq, List.length_cons, List.length_nil, aEnd_of (fn := Tryd.f73) (rs := []) rfl, *])); repeat' ((first | (refine fork_split (fun _h => ?_) (fun _h => ?_)) | (refine gfork_split (fun _h => ?_) (fun _h => ?_)) | (refine dfork_split (fun _h => ?_) (fun _h => ?_))) <;> (try (simp only [↓ru, rv, rl, ry, tyf, iM, bM, bsM, cond_true, cond_false, Nat.reduceLT, Nat.reduceBEq, Nat.reduceAdd, Nat.reduceEqDiff, Nat.reduceMul, Nat.reduceLeDiff, Nat.reduceSub, Nat.reduceDiv, Int.reduceLE, Int.reduceLT, Int.reduceNeg, Int.reduceAdd, Int.reduceSub, Int.reduceMul, Int.reduceToNat, Int.reducePow, Int.reduceEq, ne_eq, reduceIte, byteD, dstr, un1_str, iD, bD, hr, gs, set_set, w2, d0, dq, List.length_cons, List.length_nil, aEnd_of (fn := Tryd.f73) (rs := []) rfl, *])))
            all_goals exact hs _ (by omega)
      · have hs := stop (by rw [takeF, if_neg (fun h => hr2 (by omega))])
        have d2' : decide ((row.length : Int) = 3) = false := decide_eq_false (by omega)
        (refine AFn.intro (prs := []) Tryd.func73 rfl rfl mix (by kernel_rfl) rfl (fun hB => ?_); simp only [Tryd.ntmps73, argUpd])
        (try (simp only [↓ru, rv, rl, ry, tyf, iM, bM, bsM, cond_true, cond_false, Nat.reduceLT, Nat.reduceBEq, Nat.reduceAdd, Nat.reduceEqDiff, Nat.reduceMul, Nat.reduceLeDiff, Nat.reduceSub, Nat.reduceDiv, Int.reduceLE, Int.reduceLT, Int.reduceNeg, Int.reduceAdd, Int.reduceSub, Int.reduceMul, Int.reduceToNat, Int.reducePow, Int.reduceEq, ne_eq, reduceIte, byteD, dstr, un1_str, iD, bD, hr, gs, set_set, w2, d0, d2', List.length_cons, List.length_nil, aEnd_of (fn := Tryd.f73) (rs := []) rfl, *])); repeat' ((first | (refine fork_split (fun _h => ?_) (fun _h => ?_)) | (refine gfork_split (fun _h => ?_) (fun _h => ?_)) | (refine dfork_split (fun _h => ?_) (fun _h => ?_))) <;> (try (simp only [↓ru, rv, rl, ry, tyf, iM, bM, bsM, cond_true, cond_false, Nat.reduceLT, Nat.reduceBEq, Nat.reduceAdd, Nat.reduceEqDiff, Nat.reduceMul, Nat.reduceLeDiff, Nat.reduceSub, Nat.reduceDiv, Int.reduceLE, Int.reduceLT, Int.reduceNeg, Int.reduceAdd, Int.reduceSub, Int.reduceMul, Int.reduceToNat, Int.reducePow, Int.reduceEq, ne_eq, reduceIte, byteD, dstr, un1_str, iD, bD, hr, gs, set_set, w2, d0, d2', List.length_cons, List.length_nil, aEnd_of (fn := Tryd.f73) (rs := []) rfl, *])))
        exact hs _ (by omega)
end Go.CF

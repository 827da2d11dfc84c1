import Derived.Test.YtmgfnlnomecbiaaDoorV10
import Derived.Test.YtmgfnlnomecbiaaDoorU4
set_option linter.all false
open Go.Proofs Go.Abs Go.Fa Go.BU Go.TX Go.TW
namespace Go.SC
set_option maxHeartbeats 4000000
set_option maxRecDepth 10000
-- rules: byteD, dstr, un1_str, iD, bD

theorem att_eq {xo yo : Operand} {a b : Att} {B : Bx} {K : K2} : aBin Tryd.prog .eql 31 xo yo (attM a) (attM b) B K = kk K (bM (decide (a = b))) B := by
  rw [bin_struct_eql Tryd.underlying31 (by kernel_rfl) (by kernel_rfl) rfl rfl (by simp [eqInts, Tryd.underlying3]; rfl)]
  congr 4
  rw [Bool.eq_iff_iff]
  obtain ⟨b1, p1, x1, y1, z1, u1⟩ := a
  obtain ⟨b2, p2, x2, y2, z2, u2⟩ := b
  simp
theorem att_eq' {xo yo : Operand} {a1 a2 a3 a4 a5 a6 b1 b2 b3 b4 b5 b6 : Int} {B : Bx} {K : K2} : aBin Tryd.prog .eql 31 xo yo (.agg [.d (.v (.int .i64 a1)), .d (.v (.int .i64 a2)), .d (.v (.int .i64 a3)), .d (.v (.int .i64 a4)), .d (.v (.int .i64 a5)), .d (.v (.int .i64 a6))]) (.agg [.d (.v (.int .i64 b1)), .d (.v (.int .i64 b2)), .d (.v (.int .i64 b3)), .d (.v (.int .i64 b4)), .d (.v (.int .i64 b5)), .d (.v (.int .i64 b6))]) B K = kk K (bM (decide ((⟨a1, a2, a3, a4, a5, a6⟩ : Att) = ⟨b1, b2, b3, b4, b5, b6⟩))) B := att_eq (a := ⟨a1, a2, a3, a4, a5, a6⟩) (b := ⟨b1, b2, b3, b4, b5, b6⟩)
def txt1 : List UInt8 := [97, 116, 116, 101, 109, 112, 116, 32, 49, 48, 48, 32, 55, 32, 100, 97, 109, 97, 103, 101, 32, 50, 32, 48, 49, 48, 48, 10, 108, 111, 111, 112, 10]
def txt2 : List UInt8 := [97, 116, 116, 101, 109, 112, 116, 32, 49, 48, 48, 32, 55, 32, 100, 97, 109, 97, 103, 101, 32, 50, 32, 48, 48, 48, 49, 10, 108, 111, 111, 112, 10]
def scrA : Scr := ⟨[⟨100, 3, 2, 1, 0, 7⟩], true, []⟩
theorem Awake15 : PFn Tryd.prog 14 [] (bM true) := by
  have e1 : parF txt1 = (scr0, 5) := by decide +kernel
  have e2 : parF txt2 = (scrA, 0) := by decide +kernel
  have e3 : fairF scrA 5 = false := by decide +kernel
  have e4 : fairF scr0 0 = true := by decide +kernel
  have h1 := Parse txt1 (by decide)
  have h2 := Parse txt2 (by decide)
  have h3 := Fair scrA ⟨by decide, by decide⟩ 5
  have h4 := Fair scr0 ⟨by decide, by decide⟩ 0
  rw [e1] at h1
  rw [e2] at h2
  rw [e3] at h3
  rw [e4] at h4
  clear e1 e2 e3 e4
  (refine PFn.of (prs := []) Tryd.func14 rfl rfl mix (by kernel_rfl) rfl rfl ?_; simp only [Tryd.ntmps14, argUpd])
  simp only [↓ru, rv, rl, ry, tyf, iM, bM, bsM, cond_true, cond_false, Nat.reduceLT, Nat.reduceBEq, Nat.reduceAdd, Nat.reduceEqDiff, Nat.reduceMul, Nat.reduceLeDiff, Nat.reduceSub, Nat.reduceDiv, Int.reduceLE, Int.reduceLT, Int.reduceNeg, Int.reduceAdd, Int.reduceSub, Int.reduceMul, Int.reduceToNat, Int.reducePow, Int.reduceEq, ne_eq, reduceIte, byteD, dstr, un1_str, iD, bD]
  refine conv_same (e := 5) (by kernel_rfl) (by kernel_rfl) rfl rfl (by decide) ?_
  (try (simp only [↓ru, rv, rl, ry, tyf, iM, bM, bsM, cond_true, cond_false, Nat.reduceLT, Nat.reduceBEq, Nat.reduceAdd, Nat.reduceEqDiff, Nat.reduceMul, Nat.reduceLeDiff, Nat.reduceSub, Nat.reduceDiv, Int.reduceLE, Int.reduceLT, Int.reduceNeg, Int.reduceAdd, Int.reduceSub, Int.reduceMul, Int.reduceToNat, Int.reducePow, Int.reduceEq, ne_eq, reduceIte, byteD, dstr, un1_str, iD, bD, pureEnd_of (fn := Tryd.f14) (rs := [.tmp 0]) (ts := [4]) rfl rfl, *])); repeat' ((first | (refine fork_split (fun _h => ?_) (fun _h => ?_)) | (refine gfork_split (fun _h => ?_) (fun _h => ?_)) | (refine dfork_split (fun _h => ?_) (fun _h => ?_)) | (refine acall1_pure h1 rfl rfl ?_) | (refine dcall1_pure h1 rfl rfl ?_) | (refine acall1_pure h2 rfl rfl ?_) | (refine dcall1_pure h2 rfl rfl ?_) | (refine acall1_pure h3 rfl rfl ?_) | (refine dcall1_pure h3 rfl rfl ?_) | (refine acall1_pure h4 rfl rfl ?_) | (refine dcall1_pure h4 rfl rfl ?_)) <;> (try (simp only [↓ru, rv, rl, ry, tyf, iM, bM, bsM, cond_true, cond_false, Nat.reduceLT, Nat.reduceBEq, Nat.reduceAdd, Nat.reduceEqDiff, Nat.reduceMul, Nat.reduceLeDiff, Nat.reduceSub, Nat.reduceDiv, Int.reduceLE, Int.reduceLT, Int.reduceNeg, Int.reduceAdd, Int.reduceSub, Int.reduceMul, Int.reduceToNat, Int.reducePow, Int.reduceEq, ne_eq, reduceIte, byteD, dstr, un1_str, iD, bD, pureEnd_of (fn := Tryd.f14) (rs := [.tmp 0]) (ts := [4]) rfl rfl, *])))
  refine conv_same (e := 5) (by kernel_rfl) (by kernel_rfl) rfl rfl (by decide) ?_
  (try (simp only [↓ru, rv, rl, ry, tyf, iM, bM, bsM, cond_true, cond_false, Nat.reduceLT, Nat.reduceBEq, Nat.reduceAdd, Nat.reduceEqDiff, Nat.reduceMul, Nat.reduceLeDiff, Nat.reduceSub, Nat.reduceDiv, Int.reduceLE, Int.reduceLT, Int.reduceNeg, Int.reduceAdd, Int.reduceSub, Int.reduceMul, Int.reduceToNat, Int.reducePow, Int.reduceEq, ne_eq, reduceIte, byteD, dstr, un1_str, iD, bD, pureEnd_of (fn := Tryd.f14) (rs := [.tmp 0]) (ts := [4]) rfl rfl, *])); repeat' ((first | (refine fork_split (fun _h => ?_) (fun _h => ?_)) | (refine gfork_split (fun _h => ?_) (fun _h => ?_)) | (refine dfork_split (fun _h => ?_) (fun _h => ?_)) | (refine acall1_pure h1 rfl rfl ?_) | (refine dcall1_pure h1 rfl rfl ?_) | (refine acall1_pure h2 rfl rfl ?_) | (refine dcall1_pure h2 rfl rfl ?_) | (refine acall1_pure h3 rfl rfl ?_) | (refine dcall1_pure h3 rfl rfl ?_) | (refine acall1_pure h4 rfl rfl ?_) | (refine dcall1_pure h4 rfl rfl ?_)) <;> (try (simp only [↓ru, rv, rl, ry, tyf, iM, bM, bsM, cond_true, cond_false, Nat.reduceLT, Nat.reduceBEq, Nat.reduceAdd, Nat.reduceEqDiff, Nat.reduceMul, Nat.reduceLeDiff, Nat.reduceSub, Nat.reduceDiv, Int.reduceLE, Int.reduceLT, Int.reduceNeg, Int.reduceAdd, Int.reduceSub, Int.reduceMul, Int.reduceToNat, Int.reducePow, Int.reduceEq, ne_eq, reduceIte, byteD, dstr, un1_str, iD, bD, pureEnd_of (fn := Tryd.f14) (rs := [.tmp 0]) (ts := [4]) rfl rfl, *])))
  · exact absurd _h (by decide)
  · exact absurd _h (by decide)
theorem lScriptBounded (s : Scr) (hs : Sz s) (t d : Int) : PFn Tryd.prog 6 [scrM s, iM t, iM d] (bM true) := by
  have hm := MkScript s hs 30
  have h1 := Bounded s hs t d
  have h2 := BoundedR s hs t d
  (refine PFn.of (prs := [(3, [(5, 6)])]) Tryd.func6 rfl rfl mix (by kernel_rfl) rfl rfl ?_; simp only [Tryd.ntmps6, argUpd])
  (try (simp only [↓ru, rv, rl, ry, tyf, iM, bM, bsM, cond_true, cond_false, Nat.reduceLT, Nat.reduceBEq, Nat.reduceAdd, Nat.reduceEqDiff, Nat.reduceMul, Nat.reduceLeDiff, Nat.reduceSub, Nat.reduceDiv, Int.reduceLE, Int.reduceLT, Int.reduceNeg, Int.reduceAdd, Int.reduceSub, Int.reduceMul, Int.reduceToNat, Int.reducePow, Int.reduceEq, ne_eq, reduceIte, byteD, dstr, un1_str, iD, bD, beqS', beq_self_eq_true, pureEnd_of (fn := Tryd.f6) (rs := [.tmp 6]) (ts := [4]) rfl rfl, *])); repeat' ((first | (refine fork_split (fun _h => ?_) (fun _h => ?_)) | (refine gfork_split (fun _h => ?_) (fun _h => ?_)) | (refine dfork_split (fun _h => ?_) (fun _h => ?_)) | (refine acall1_pure hm rfl rfl ?_) | (refine dcall1_pure hm rfl rfl ?_) | (refine acall1_pure h1 rfl rfl ?_) | (refine dcall1_pure h1 rfl rfl ?_) | (refine acall1_pure h2 rfl rfl ?_) | (refine dcall1_pure h2 rfl rfl ?_) | (refine acall1_pure Awake15 rfl rfl ?_) | (refine dcall1_pure Awake15 rfl rfl ?_)) <;> (try (simp only [↓ru, rv, rl, ry, tyf, iM, bM, bsM, cond_true, cond_false, Nat.reduceLT, Nat.reduceBEq, Nat.reduceAdd, Nat.reduceEqDiff, Nat.reduceMul, Nat.reduceLeDiff, Nat.reduceSub, Nat.reduceDiv, Int.reduceLE, Int.reduceLT, Int.reduceNeg, Int.reduceAdd, Int.reduceSub, Int.reduceMul, Int.reduceToNat, Int.reducePow, Int.reduceEq, ne_eq, reduceIte, byteD, dstr, un1_str, iD, bD, beqS', beq_self_eq_true, pureEnd_of (fn := Tryd.f6) (rs := [.tmp 6]) (ts := [4]) rfl rfl, *])))
theorem lScriptValid (s : Scr) (hs : Sz s) (i : Int) : PFn Tryd.prog 7 [scrM s, iM i] (bM true) := by
  have hm := MkScript s hs 30
  have h1 := Entry s hs i
  have h2 := EntryR s hs i
  have h3 := Valid s hs
  have h4 := ScriptR s hs
  have h5 := Unf (entF s i)
  have h6 := UnfR (entF s i)
  (refine PFn.of (prs := [(4, [(3, 4), (9, 12), (17, 18)])]) Tryd.func7 rfl rfl mix (by kernel_rfl) rfl rfl ?_; simp only [Tryd.ntmps7, argUpd])
  (try (simp only [↓ru, rv, rl, ry, tyf, iM, bM, bsM, cond_true, cond_false, Nat.reduceLT, Nat.reduceBEq, Nat.reduceAdd, Nat.reduceEqDiff, Nat.reduceMul, Nat.reduceLeDiff, Nat.reduceSub, Nat.reduceDiv, Int.reduceLE, Int.reduceLT, Int.reduceNeg, Int.reduceAdd, Int.reduceSub, Int.reduceMul, Int.reduceToNat, Int.reducePow, Int.reduceEq, ne_eq, reduceIte, byteD, dstr, un1_str, iD, bD, beqS', att_eq', beq_self_eq_true, pureEnd_of (fn := Tryd.f7) (rs := [.tmp 4]) (ts := [4]) rfl rfl, *])); repeat' ((first | (refine fork_split (fun _h => ?_) (fun _h => ?_)) | (refine gfork_split (fun _h => ?_) (fun _h => ?_)) | (refine dfork_split (fun _h => ?_) (fun _h => ?_)) | (refine acall1_pure hm rfl rfl ?_) | (refine dcall1_pure hm rfl rfl ?_) | (refine acall1_pure h1 rfl rfl ?_) | (refine dcall1_pure h1 rfl rfl ?_) | (refine acall1_pure h2 rfl rfl ?_) | (refine dcall1_pure h2 rfl rfl ?_) | (refine acall1_pure h3 rfl rfl ?_) | (refine dcall1_pure h3 rfl rfl ?_) | (refine acall1_pure h4 rfl rfl ?_) | (refine dcall1_pure h4 rfl rfl ?_) | (refine acall1_pure h5 rfl rfl ?_) | (refine dcall1_pure h5 rfl rfl ?_) | (refine acall1_pure h6 rfl rfl ?_) | (refine dcall1_pure h6 rfl rfl ?_) | (refine acall1_pure Awake15 rfl rfl ?_) | (refine dcall1_pure Awake15 rfl rfl ?_)) <;> (try (simp only [↓ru, rv, rl, ry, tyf, iM, bM, bsM, cond_true, cond_false, Nat.reduceLT, Nat.reduceBEq, Nat.reduceAdd, Nat.reduceEqDiff, Nat.reduceMul, Nat.reduceLeDiff, Nat.reduceSub, Nat.reduceDiv, Int.reduceLE, Int.reduceLT, Int.reduceNeg, Int.reduceAdd, Int.reduceSub, Int.reduceMul, Int.reduceToNat, Int.reducePow, Int.reduceEq, ne_eq, reduceIte, byteD, dstr, un1_str, iD, bD, beqS', att_eq', beq_self_eq_true, pureEnd_of (fn := Tryd.f7) (rs := [.tmp 4]) (ts := [4]) rfl rfl, *])))
theorem sh_att {c : List D} (h : Sh (.st [(1, .int .i64), (1, .int .i64), (1, .int .i64), (1, .int .i64), (1, .int .i64), (1, .int .i64)]) c) : ∃ a : Att, c = attD a := by
  obtain ⟨x1, y1, rfl, h1, g1⟩ := sh_cons (sh_st h)
  obtain ⟨x2, y2, rfl, h2, g2⟩ := sh_cons g1
  obtain ⟨x3, y3, rfl, h3, g3⟩ := sh_cons g2
  obtain ⟨x4, y4, rfl, h4, g4⟩ := sh_cons g3
  obtain ⟨x5, y5, rfl, h5, g5⟩ := sh_cons g4
  obtain ⟨x6, y6, rfl, h6, g6⟩ := sh_cons g5
  obtain rfl := sh_nil g6
  obtain ⟨a1, rfl, _⟩ := sh_i64 h1
  obtain ⟨a2, rfl, _⟩ := sh_i64 h2
  obtain ⟨a3, rfl, _⟩ := sh_i64 h3
  obtain ⟨a4, rfl, _⟩ := sh_i64 h4
  obtain ⟨a5, rfl, _⟩ := sh_i64 h5
  obtain ⟨a6, rfl, _⟩ := sh_i64 h6
  exact ⟨⟨a1, a2, a3, a4, a5, a6⟩, rfl⟩
theorem sh_crash {c : List D} (h : Sh (.st [(1, .int .i64), (1, .int .i64)]) c) : ∃ a : Cr, c = crD a := by
  obtain ⟨a, b, rfl⟩ := sh_stg h
  exact ⟨⟨a, b⟩, rfl⟩
abbrev scrTy : Ty := .st [(1, .sl 6 (.st [(1, .int .i64), (1, .int .i64), (1, .int .i64), (1, .int .i64), (1, .int .i64), (1, .int .i64)])), (1, .bool), (1, .sl 2 (.st [(1, .int .i64), (1, .int .i64)]))]
theorem sh_scr {c : List D} (h : Sh scrTy c) : ∃ s : Scr, c = [.sl 6 (s.att.map attD), bD s.loop, .sl 2 (s.crs.map crD)] ∧ Sz s := by
  obtain ⟨x1, y1, rfl, h1, g1⟩ := sh_cons (sh_st h)
  obtain ⟨x2, y2, rfl, h2, g2⟩ := sh_cons g1
  obtain ⟨x3, y3, rfl, h3, g3⟩ := sh_cons g2
  obtain rfl := sh_nil g3
  obtain ⟨l, rfl, hl, _⟩ := sh_sl (f := attD) (Q := fun _ => True) (fun c h => by obtain ⟨a, h⟩ := sh_att h; exact ⟨a, h, trivial⟩) h1
  obtain ⟨b, rfl⟩ := sh_bool h2
  obtain ⟨m, rfl, hm, _⟩ := sh_sl (f := crD) (Q := fun _ => True) (fun c h => by obtain ⟨a, h⟩ := sh_crash h; exact ⟨a, h, trivial⟩) h3
  exact ⟨⟨l, b, m⟩, rfl, hl, hm⟩
end Go.SC

import Derived.Test.YtmgfnlnomecbiaaDoorU3
set_option linter.all false
open Go.Proofs Go.Abs Go.Fa Go.BU Go.TX Go.TW
/- Scripts: attempts. -/
namespace Go.SC
set_option maxHeartbeats 4000000
set_option maxRecDepth 10000
-- rules: byteD, dstr, un1_str, iD, bD

structure Att where
  lat : Int
  fault : Int
  pos : Int
  mask : Int
  ticks : Int
  val : Int
deriving DecidableEq
structure Cr where
  step : Int
  keep : Int
deriving DecidableEq
structure Scr where
  att : List Att
  loop : Bool
  crs : List Cr
deriving DecidableEq
abbrev attM (a : Att) : M := .agg [iM a.lat, iM a.fault, iM a.pos, iM a.mask, iM a.ticks, iM a.val]
abbrev attD (a : Att) : List D := [iD a.lat, iD a.fault, iD a.pos, iD a.mask, iD a.ticks, iD a.val]
abbrev crM (c : Cr) : M := .agg [iM c.step, iM c.keep]
abbrev crD (c : Cr) : List D := [iD c.step, iD c.keep]
abbrev attsM (l : List Att) : M := .d (.sl 6 (l.map attD))
abbrev crsM (l : List Cr) : M := .d (.sl 2 (l.map crD))
abbrev scrM (s : Scr) : M := .agg [attsM s.att, bM s.loop, crsM s.crs]
def wi (n m : Int) : Bool := decide (0 ≤ n) && decide (n ≤ m)
def attOK (a : Att) : Bool := wi a.lat 5000000 && wi a.val 65535 &&
  (if a.fault = 3 then decide (a.mask % 256 ≠ 0) && wi a.pos 255 && wi a.mask 65535 && decide (a.ticks = 0)
  else if a.fault = 4 then decide (a.pos = 0) && decide (a.mask = 0) && wi a.ticks 5000000
  else if a.fault = 6 then decide (1 ≤ a.pos) && wi a.pos 255 && decide (a.mask = 0) && wi a.ticks 5000000
  else (decide (a.fault = 0) || decide (a.fault = 1) || decide (a.fault = 2) || decide (a.fault = 5)) && decide (a.pos = 0) && decide (a.mask = 0) && decide (a.ticks = 0))
def unf (a : Att) : Bool := decide (a.fault = 0) || (decide (a.fault = 6) && decide (a.ticks ≤ 750))
theorem wi_iff {n m : Int} : wi n m = true ↔ 0 ≤ n ∧ n ≤ m := by simp [wi]
theorem wi_false {n m : Int} : wi n m = false ↔ ¬ (0 ≤ n ∧ n ≤ m) := by rw [← wi_iff]; simp
theorem Within (n m : Int) : PFn Tryd.prog 44 [iM n, iM m] (bM (wi n m)) := by
  (refine PFn.of (prs := []) Tryd.func44 rfl rfl mix (by kernel_rfl) rfl rfl ?_; simp only [Tryd.ntmps44, argUpd])
  (try (simp only [↓ru, rv, rl, ry, tyf, iM, bM, bsM, cond_true, cond_false, Nat.reduceLT, Nat.reduceBEq, Nat.reduceAdd, Nat.reduceEqDiff, Nat.reduceMul, Nat.reduceLeDiff, Nat.reduceSub, Nat.reduceDiv, Int.reduceLE, Int.reduceLT, Int.reduceNeg, Int.reduceAdd, Int.reduceSub, Int.reduceMul, Int.reduceToNat, Int.reducePow, Int.reduceEq, ne_eq, reduceIte, byteD, dstr, un1_str, iD, bD, pureEnd_of (fn := Tryd.f44) (rs := [.tmp 4]) (ts := [4]) rfl rfl, *])); repeat' ((first | (refine fork_split (fun _h => ?_) (fun _h => ?_)) | (refine gfork_split (fun _h => ?_) (fun _h => ?_)) | (refine dfork_split (fun _h => ?_) (fun _h => ?_))) <;> (try (simp only [↓ru, rv, rl, ry, tyf, iM, bM, bsM, cond_true, cond_false, Nat.reduceLT, Nat.reduceBEq, Nat.reduceAdd, Nat.reduceEqDiff, Nat.reduceMul, Nat.reduceLeDiff, Nat.reduceSub, Nat.reduceDiv, Int.reduceLE, Int.reduceLT, Int.reduceNeg, Int.reduceAdd, Int.reduceSub, Int.reduceMul, Int.reduceToNat, Int.reducePow, Int.reduceEq, ne_eq, reduceIte, byteD, dstr, un1_str, iD, bD, pureEnd_of (fn := Tryd.f44) (rs := [.tmp 4]) (ts := [4]) rfl rfl, *])))
  · rw [wi, _h]; rfl
  · rw [wi, _h]; rfl
theorem Unf (a : Att) : PFn Tryd.prog 30 [attM a] (bM (unf a)) := by
  (refine PFn.of (prs := []) Tryd.func30 rfl rfl mix (by kernel_rfl) rfl rfl ?_; simp only [Tryd.ntmps30, argUpd])
  (try (simp only [↓ru, rv, rl, ry, tyf, iM, bM, bsM, cond_true, cond_false, Nat.reduceLT, Nat.reduceBEq, Nat.reduceAdd, Nat.reduceEqDiff, Nat.reduceMul, Nat.reduceLeDiff, Nat.reduceSub, Nat.reduceDiv, Int.reduceLE, Int.reduceLT, Int.reduceNeg, Int.reduceAdd, Int.reduceSub, Int.reduceMul, Int.reduceToNat, Int.reducePow, Int.reduceEq, ne_eq, reduceIte, byteD, dstr, un1_str, iD, bD, pureEnd_of (fn := Tryd.f30) (rs := [.tmp 2]) (ts := [4]) rfl rfl, *])); repeat' ((first | (refine fork_split (fun _h => ?_) (fun _h => ?_)) | (refine gfork_split (fun _h => ?_) (fun _h => ?_)) | (refine dfork_split (fun _h => ?_) (fun _h => ?_))) <;> (try (simp only [↓ru, rv, rl, ry, tyf, iM, bM, bsM, cond_true, cond_false, Nat.reduceLT, Nat.reduceBEq, Nat.reduceAdd, Nat.reduceEqDiff, Nat.reduceMul, Nat.reduceLeDiff, Nat.reduceSub, Nat.reduceDiv, Int.reduceLE, Int.reduceLT, Int.reduceNeg, Int.reduceAdd, Int.reduceSub, Int.reduceMul, Int.reduceToNat, Int.reducePow, Int.reduceEq, ne_eq, reduceIte, byteD, dstr, un1_str, iD, bD, pureEnd_of (fn := Tryd.f30) (rs := [.tmp 2]) (ts := [4]) rfl rfl, *])))
  all_goals simp_all [unf]
theorem UnfR (a : Att) : PFn Tryd.prog 16 [attM a] (bM (unf a)) := by
  (refine PFn.of (prs := []) Tryd.func16 rfl rfl mix (by kernel_rfl) rfl rfl ?_; simp only [Tryd.ntmps16, argUpd])
  (try (simp only [↓ru, rv, rl, ry, tyf, iM, bM, bsM, cond_true, cond_false, Nat.reduceLT, Nat.reduceBEq, Nat.reduceAdd, Nat.reduceEqDiff, Nat.reduceMul, Nat.reduceLeDiff, Nat.reduceSub, Nat.reduceDiv, Int.reduceLE, Int.reduceLT, Int.reduceNeg, Int.reduceAdd, Int.reduceSub, Int.reduceMul, Int.reduceToNat, Int.reducePow, Int.reduceEq, ne_eq, reduceIte, byteD, dstr, un1_str, iD, bD, pureEnd_of (fn := Tryd.f16) (rs := [.tmp 2]) (ts := [4]) rfl rfl, *])); repeat' ((first | (refine fork_split (fun _h => ?_) (fun _h => ?_)) | (refine gfork_split (fun _h => ?_) (fun _h => ?_)) | (refine dfork_split (fun _h => ?_) (fun _h => ?_))) <;> (try (simp only [↓ru, rv, rl, ry, tyf, iM, bM, bsM, cond_true, cond_false, Nat.reduceLT, Nat.reduceBEq, Nat.reduceAdd, Nat.reduceEqDiff, Nat.reduceMul, Nat.reduceLeDiff, Nat.reduceSub, Nat.reduceDiv, Int.reduceLE, Int.reduceLT, Int.reduceNeg, Int.reduceAdd, Int.reduceSub, Int.reduceMul, Int.reduceToNat, Int.reducePow, Int.reduceEq, ne_eq, reduceIte, byteD, dstr, un1_str, iD, bD, pureEnd_of (fn := Tryd.f16) (rs := [.tmp 2]) (ts := [4]) rfl rfl, *])))
  all_goals simp_all [unf]
/-- The kinds of faults: word, pos, mask, ticks. -/
def kindsL : List (List UInt8 × Bool × Bool × Bool) := [([110, 111, 110, 101], false, false, false), ([114, 101, 113, 117, 101, 115, 116], false, false, false), ([114, 101, 112, 108, 121], false, false, false), ([100, 97, 109, 97, 103, 101], true, true, false), ([100, 101, 108, 97, 121], false, false, true), ([98, 117, 115, 121], false, false, false), ([103, 97, 112], true, false, true)]
abbrev kindD (k : List UInt8 × Bool × Bool × Bool) : List D := [strD k.1, bD k.2.1, bD k.2.2.1, bD k.2.2.2]
abbrev kindM (k : List UInt8 × Bool × Bool × Bool) : M := .agg [strM k.1, bM k.2.1, bM k.2.2.1, bM k.2.2.2]
abbrev kindsM : M := .d (.sl 4 (kindsL.map kindD))
theorem Kinds : PFn Tryd.prog 55 [] kindsM := by
  (refine PFn.of (prs := []) Tryd.func55 rfl rfl mix (by kernel_rfl) rfl rfl ?_; simp only [Tryd.ntmps55, argUpd])
  (try (simp only [↓ru, rv, rl, ry, tyf, iM, bM, bsM, cond_true, cond_false, Nat.reduceLT, Nat.reduceBEq, Nat.reduceAdd, Nat.reduceEqDiff, Nat.reduceMul, Nat.reduceLeDiff, Nat.reduceSub, Nat.reduceDiv, Int.reduceLE, Int.reduceLT, Int.reduceNeg, Int.reduceAdd, Int.reduceSub, Int.reduceMul, Int.reduceToNat, Int.reducePow, Int.reduceEq, ne_eq, reduceIte, byteD, dstr, un1_str, iD, bD, pureEnd_of (fn := Tryd.f55) (rs := [.tmp 0]) (ts := [79]) rfl rfl, *])); repeat' ((first | (refine fork_split (fun _h => ?_) (fun _h => ?_)) | (refine gfork_split (fun _h => ?_) (fun _h => ?_)) | (refine dfork_split (fun _h => ?_) (fun _h => ?_))) <;> (try (simp only [↓ru, rv, rl, ry, tyf, iM, bM, bsM, cond_true, cond_false, Nat.reduceLT, Nat.reduceBEq, Nat.reduceAdd, Nat.reduceEqDiff, Nat.reduceMul, Nat.reduceLeDiff, Nat.reduceSub, Nat.reduceDiv, Int.reduceLE, Int.reduceLT, Int.reduceNeg, Int.reduceAdd, Int.reduceSub, Int.reduceMul, Int.reduceToNat, Int.reducePow, Int.reduceEq, ne_eq, reduceIte, byteD, dstr, un1_str, iD, bD, pureEnd_of (fn := Tryd.f55) (rs := [.tmp 0]) (ts := [79]) rfl rfl, *])))
  rfl
theorem bAnd255 {n : Int} (h : 0 ≤ n) (h2 : n ≤ 9223372036854775807) : bAnd .i64 n 255 = n % 256 := by
  unfold bAnd
  have h1 : (BitVec.ofInt IntKind.i64.bits n).toNat = n.toNat := by simp only [IntKind.bits, BitVec.toNat_ofInt]; omega
  have h3 : (BitVec.ofInt IntKind.i64.bits 255).toNat = 2 ^ 8 - 1 := by rfl
  rw [BitVec.toNat_and, h1, h3, Nat.and_two_pow_sub_one_eq_mod, wrap_i64 (by omega) (by omega)]; omega
theorem and255 {m : Int} (h : wi m 65535 = true) : bAnd .i64 m 255 = m % 256 := by
  rw [wi_iff] at h; exact bAnd255 (by omega) (by omega)
theorem VAtt (a : Att) : PFn Tryd.prog 54 [attM a] (bM (attOK a)) := by
  obtain ⟨lat, fault, pos, mask, ticks, val⟩ := a
  have e6 : IntKind.i64.wrap 6 = 6 := rfl
  have hf : (fault = 0 ∨ fault = 1 ∨ fault = 2 ∨ fault = 3 ∨ fault = 4 ∨ fault = 5 ∨ fault = 6) ∨ wi fault 6 = false := by
    rw [wi_false]; omega
  have hm := @and255 mask
  rcases hf with (rfl | rfl | rfl | rfl | rfl | rfl | rfl) | hf
  case inr =>
    (refine PFn.of (prs := [(5, [])]) Tryd.func54 rfl rfl mix (by kernel_rfl) rfl rfl ?_; simp only [Tryd.ntmps54, argUpd])
    (try (simp only [↓ru, rv, rl, ry, tyf, iM, bM, bsM, cond_true, cond_false, Nat.reduceLT, Nat.reduceBEq, Nat.reduceAdd, Nat.reduceEqDiff, Nat.reduceMul, Nat.reduceLeDiff, Nat.reduceSub, Nat.reduceDiv, Int.reduceLE, Int.reduceLT, Int.reduceNeg, Int.reduceAdd, Int.reduceSub, Int.reduceMul, Int.reduceToNat, Int.reducePow, Int.reduceEq, ne_eq, reduceIte, byteD, dstr, un1_str, iD, bD, kindsL, pureEnd_of (fn := Tryd.f54) (rs := [.tmp 2]) (ts := [4]) rfl rfl, *])); repeat' ((first | (refine fork_split (fun _h => ?_) (fun _h => ?_)) | (refine gfork_split (fun _h => ?_) (fun _h => ?_)) | (refine dfork_split (fun _h => ?_) (fun _h => ?_)) | (refine acall1_pure Kinds rfl rfl ?_) | (refine dcall1_pure Kinds rfl rfl ?_) | (refine acall1_pure (Within _ _) rfl rfl ?_) | (refine dcall1_pure (Within _ _) rfl rfl ?_)) <;> (try (simp only [↓ru, rv, rl, ry, tyf, iM, bM, bsM, cond_true, cond_false, Nat.reduceLT, Nat.reduceBEq, Nat.reduceAdd, Nat.reduceEqDiff, Nat.reduceMul, Nat.reduceLeDiff, Nat.reduceSub, Nat.reduceDiv, Int.reduceLE, Int.reduceLT, Int.reduceNeg, Int.reduceAdd, Int.reduceSub, Int.reduceMul, Int.reduceToNat, Int.reducePow, Int.reduceEq, ne_eq, reduceIte, byteD, dstr, un1_str, iD, bD, kindsL, pureEnd_of (fn := Tryd.f54) (rs := [.tmp 2]) (ts := [4]) rfl rfl, *])))
    refine congrArg (fun z => M.d (D.v (Value.bool z))) ?_
    rw [wi_false] at hf
    symm
    rw [attOK]
    have h : fault ≠ 0 ∧ fault ≠ 1 ∧ fault ≠ 2 ∧ fault ≠ 3 ∧ fault ≠ 4 ∧ fault ≠ 5 ∧ fault ≠ 6 := by omega
    simp [h]
  case inl.inl =>
    have e0 : wi 0 6 = true := rfl
    (refine PFn.of (prs := [(5, [])]) Tryd.func54 rfl rfl mix (by kernel_rfl) rfl rfl ?_; simp only [Tryd.ntmps54, argUpd])
    (try (simp only [↓ru, rv, rl, ry, tyf, iM, bM, bsM, cond_true, cond_false, Nat.reduceLT, Nat.reduceBEq, Nat.reduceAdd, Nat.reduceEqDiff, Nat.reduceMul, Nat.reduceLeDiff, Nat.reduceSub, Nat.reduceDiv, Int.reduceLE, Int.reduceLT, Int.reduceNeg, Int.reduceAdd, Int.reduceSub, Int.reduceMul, Int.reduceToNat, Int.reducePow, Int.reduceEq, ne_eq, reduceIte, byteD, dstr, un1_str, iD, bD, kindsL, pureEnd_of (fn := Tryd.f54) (rs := [.tmp 2]) (ts := [4]) rfl rfl, *])); repeat' ((first | (refine fork_split (fun _h => ?_) (fun _h => ?_)) | (refine gfork_split (fun _h => ?_) (fun _h => ?_)) | (refine dfork_split (fun _h => ?_) (fun _h => ?_)) | (refine acall1_pure Kinds rfl rfl ?_) | (refine dcall1_pure Kinds rfl rfl ?_) | (refine acall1_pure (Within _ _) rfl rfl ?_) | (refine dcall1_pure (Within _ _) rfl rfl ?_)) <;> (try (simp only [↓ru, rv, rl, ry, tyf, iM, bM, bsM, cond_true, cond_false, Nat.reduceLT, Nat.reduceBEq, Nat.reduceAdd, Nat.reduceEqDiff, Nat.reduceMul, Nat.reduceLeDiff, Nat.reduceSub, Nat.reduceDiv, Int.reduceLE, Int.reduceLT, Int.reduceNeg, Int.reduceAdd, Int.reduceSub, Int.reduceMul, Int.reduceToNat, Int.reducePow, Int.reduceEq, ne_eq, reduceIte, byteD, dstr, un1_str, iD, bD, kindsL, pureEnd_of (fn := Tryd.f54) (rs := [.tmp 2]) (ts := [4]) rfl rfl, *])))
    all_goals (refine congrArg (fun z => M.d (D.v (Value.bool z))) ?_)
    all_goals (first | (simp_all [attOK]; done) | (simp_all [attOK]; omega) | skip)
  case inl.inr.inl =>
    have e0 : wi 1 6 = true := rfl
    (refine PFn.of (prs := [(5, [])]) Tryd.func54 rfl rfl mix (by kernel_rfl) rfl rfl ?_; simp only [Tryd.ntmps54, argUpd])
    (try (simp only [↓ru, rv, rl, ry, tyf, iM, bM, bsM, cond_true, cond_false, Nat.reduceLT, Nat.reduceBEq, Nat.reduceAdd, Nat.reduceEqDiff, Nat.reduceMul, Nat.reduceLeDiff, Nat.reduceSub, Nat.reduceDiv, Int.reduceLE, Int.reduceLT, Int.reduceNeg, Int.reduceAdd, Int.reduceSub, Int.reduceMul, Int.reduceToNat, Int.reducePow, Int.reduceEq, ne_eq, reduceIte, byteD, dstr, un1_str, iD, bD, kindsL, pureEnd_of (fn := Tryd.f54) (rs := [.tmp 2]) (ts := [4]) rfl rfl, *])); repeat' ((first | (refine fork_split (fun _h => ?_) (fun _h => ?_)) | (refine gfork_split (fun _h => ?_) (fun _h => ?_)) | (refine dfork_split (fun _h => ?_) (fun _h => ?_)) | (refine acall1_pure Kinds rfl rfl ?_) | (refine dcall1_pure Kinds rfl rfl ?_) | (refine acall1_pure (Within _ _) rfl rfl ?_) | (refine dcall1_pure (Within _ _) rfl rfl ?_)) <;> (try (simp only [↓ru, rv, rl, ry, tyf, iM, bM, bsM, cond_true, cond_false, Nat.reduceLT, Nat.reduceBEq, Nat.reduceAdd, Nat.reduceEqDiff, Nat.reduceMul, Nat.reduceLeDiff, Nat.reduceSub, Nat.reduceDiv, Int.reduceLE, Int.reduceLT, Int.reduceNeg, Int.reduceAdd, Int.reduceSub, Int.reduceMul, Int.reduceToNat, Int.reducePow, Int.reduceEq, ne_eq, reduceIte, byteD, dstr, un1_str, iD, bD, kindsL, pureEnd_of (fn := Tryd.f54) (rs := [.tmp 2]) (ts := [4]) rfl rfl, *])))
    all_goals (refine congrArg (fun z => M.d (D.v (Value.bool z))) ?_)
    all_goals (first | (simp_all [attOK]; done) | (simp_all [attOK]; omega) | skip)
  case inl.inr.inr.inl =>
    have e0 : wi 2 6 = true := rfl
    (refine PFn.of (prs := [(5, [])]) Tryd.func54 rfl rfl mix (by kernel_rfl) rfl rfl ?_; simp only [Tryd.ntmps54, argUpd])
    (try (simp only [↓ru, rv, rl, ry, tyf, iM, bM, bsM, cond_true, cond_false, Nat.reduceLT, Nat.reduceBEq, Nat.reduceAdd, Nat.reduceEqDiff, Nat.reduceMul, Nat.reduceLeDiff, Nat.reduceSub, Nat.reduceDiv, Int.reduceLE, Int.reduceLT, Int.reduceNeg, Int.reduceAdd, Int.reduceSub, Int.reduceMul, Int.reduceToNat, Int.reducePow, Int.reduceEq, ne_eq, reduceIte, byteD, dstr, un1_str, iD, bD, kindsL, pureEnd_of (fn := Tryd.f54) (rs := [.tmp 2]) (ts := [4]) rfl rfl, *])); repeat' ((first | (refine fork_split (fun _h => ?_) (fun _h => ?_)) | (refine gfork_split (fun _h => ?_) (fun _h => ?_)) | (refine dfork_split (fun _h => ?_) (fun _h => ?_)) | (refine acall1_pure Kinds rfl rfl ?_) | (refine dcall1_pure Kinds rfl rfl ?_) | (refine acall1_pure (Within _ _) rfl rfl ?_) | (refine dcall1_pure (Within _ _) rfl rfl ?_)) <;> (try (simp only [↓ru, rv, rl, ry, tyf, iM, bM, bsM, cond_true, cond_false, Nat.reduceLT, Nat.reduceBEq, Nat.reduceAdd, Nat.reduceEqDiff, Nat.reduceMul, Nat.reduceLeDiff, Nat.reduceSub, Nat.reduceDiv, Int.reduceLE, Int.reduceLT, Int.reduceNeg, Int.reduceAdd, Int.reduceSub, Int.reduceMul, Int.reduceToNat, Int.reducePow, Int.reduceEq, ne_eq, reduceIte, byteD, dstr, un1_str, iD, bD, kindsL, pureEnd_of (fn := Tryd.f54) (rs := [.tmp 2]) (ts := [4]) rfl rfl, *])))
    all_goals (refine congrArg (fun z => M.d (D.v (Value.bool z))) ?_)
    all_goals (first | (simp_all [attOK]; done) | (simp_all [attOK]; omega) | skip)
  case inl.inr.inr.inr.inl =>
    have e0 : wi 3 6 = true := rfl
    (refine PFn.of (prs := [(5, [])]) Tryd.func54 rfl rfl mix (by kernel_rfl) rfl rfl ?_; simp only [Tryd.ntmps54, argUpd])
    (try (simp only [↓ru, rv, rl, ry, tyf, iM, bM, bsM, cond_true, cond_false, Nat.reduceLT, Nat.reduceBEq, Nat.reduceAdd, Nat.reduceEqDiff, Nat.reduceMul, Nat.reduceLeDiff, Nat.reduceSub, Nat.reduceDiv, Int.reduceLE, Int.reduceLT, Int.reduceNeg, Int.reduceAdd, Int.reduceSub, Int.reduceMul, Int.reduceToNat, Int.reducePow, Int.reduceEq, ne_eq, reduceIte, byteD, dstr, un1_str, iD, bD, kindsL, pureEnd_of (fn := Tryd.f54) (rs := [.tmp 2]) (ts := [4]) rfl rfl, *])); repeat' ((first | (refine fork_split (fun _h => ?_) (fun _h => ?_)) | (refine gfork_split (fun _h => ?_) (fun _h => ?_)) | (refine dfork_split (fun _h => ?_) (fun _h => ?_)) | (refine acall1_pure Kinds rfl rfl ?_) | (refine dcall1_pure Kinds rfl rfl ?_) | (refine acall1_pure (Within _ _) rfl rfl ?_) | (refine dcall1_pure (Within _ _) rfl rfl ?_)) <;> (try (simp only [↓ru, rv, rl, ry, tyf, iM, bM, bsM, cond_true, cond_false, Nat.reduceLT, Nat.reduceBEq, Nat.reduceAdd, Nat.reduceEqDiff, Nat.reduceMul, Nat.reduceLeDiff, Nat.reduceSub, Nat.reduceDiv, Int.reduceLE, Int.reduceLT, Int.reduceNeg, Int.reduceAdd, Int.reduceSub, Int.reduceMul, Int.reduceToNat, Int.reducePow, Int.reduceEq, ne_eq, reduceIte, byteD, dstr, un1_str, iD, bD, kindsL, pureEnd_of (fn := Tryd.f54) (rs := [.tmp 2]) (ts := [4]) rfl rfl, *])))
    all_goals (refine congrArg (fun z => M.d (D.v (Value.bool z))) ?_)
    all_goals (first | (simp_all [attOK]; done) | (simp_all [attOK]; omega) | skip)
  case inl.inr.inr.inr.inr.inl =>
    have e0 : wi 4 6 = true := rfl
    (refine PFn.of (prs := [(5, [])]) Tryd.func54 rfl rfl mix (by kernel_rfl) rfl rfl ?_; simp only [Tryd.ntmps54, argUpd])
    (try (simp only [↓ru, rv, rl, ry, tyf, iM, bM, bsM, cond_true, cond_false, Nat.reduceLT, Nat.reduceBEq, Nat.reduceAdd, Nat.reduceEqDiff, Nat.reduceMul, Nat.reduceLeDiff, Nat.reduceSub, Nat.reduceDiv, Int.reduceLE, Int.reduceLT, Int.reduceNeg, Int.reduceAdd, Int.reduceSub, Int.reduceMul, Int.reduceToNat, Int.reducePow, Int.reduceEq, ne_eq, reduceIte, byteD, dstr, un1_str, iD, bD, kindsL, pureEnd_of (fn := Tryd.f54) (rs := [.tmp 2]) (ts := [4]) rfl rfl, *])); repeat' ((first | (refine fork_split (fun _h => ?_) (fun _h => ?_)) | (refine gfork_split (fun _h => ?_) (fun _h => ?_)) | (refine dfork_split (fun _h => ?_) (fun _h => ?_)) | (refine acall1_pure Kinds rfl rfl ?_) | (refine dcall1_pure Kinds rfl rfl ?_) | (refine acall1_pure (Within _ _) rfl rfl ?_) | (refine dcall1_pure (Within _ _) rfl rfl ?_)) <;> (try (simp only [↓ru, rv, rl, ry, tyf, iM, bM, bsM, cond_true, cond_false, Nat.reduceLT, Nat.reduceBEq, Nat.reduceAdd, Nat.reduceEqDiff, Nat.reduceMul, Nat.reduceLeDiff, Nat.reduceSub, Nat.reduceDiv, Int.reduceLE, Int.reduceLT, Int.reduceNeg, Int.reduceAdd, Int.reduceSub, Int.reduceMul, Int.reduceToNat, Int.reducePow, Int.reduceEq, ne_eq, reduceIte, byteD, dstr, un1_str, iD, bD, kindsL, pureEnd_of (fn := Tryd.f54) (rs := [.tmp 2]) (ts := [4]) rfl rfl, *])))
    all_goals (refine congrArg (fun z => M.d (D.v (Value.bool z))) ?_)
    all_goals (first | (simp_all [attOK]; done) | (simp_all [attOK]; omega) | skip)
  case inl.inr.inr.inr.inr.inr.inl =>
    have e0 : wi 5 6 = true := rfl
    (refine PFn.of (prs := [(5, [])]) Tryd.func54 rfl rfl mix (by kernel_rfl) rfl rfl ?_; simp only [Tryd.ntmps54, argUpd])
    (try (simp only [↓ru, rv, rl, ry, tyf, iM, bM, bsM, cond_true, cond_false, Nat.reduceLT, Nat.reduceBEq, Nat.reduceAdd, Nat.reduceEqDiff, Nat.reduceMul, Nat.reduceLeDiff, Nat.reduceSub, Nat.reduceDiv, Int.reduceLE, Int.reduceLT, Int.reduceNeg, Int.reduceAdd, Int.reduceSub, Int.reduceMul, Int.reduceToNat, Int.reducePow, Int.reduceEq, ne_eq, reduceIte, byteD, dstr, un1_str, iD, bD, kindsL, pureEnd_of (fn := Tryd.f54) (rs := [.tmp 2]) (ts := [4]) rfl rfl, *])); repeat' ((first | (refine fork_split (fun _h => ?_) (fun _h => ?_)) | (refine gfork_split (fun _h => ?_) (fun _h => ?_)) | (refine dfork_split (fun _h => ?_) (fun _h => ?_)) | (refine acall1_pure Kinds rfl rfl ?_) | (refine dcall1_pure Kinds rfl rfl ?_) | (refine acall1_pure (Within _ _) rfl rfl ?_) | (refine dcall1_pure (Within _ _) rfl rfl ?_)) <;> (try (simp only [↓ru, rv, rl, ry, tyf, iM, bM, bsM, cond_true, cond_false, Nat.reduceLT, Nat.reduceBEq, Nat.reduceAdd, Nat.reduceEqDiff, Nat.reduceMul, Nat.reduceLeDiff, Nat.reduceSub, Nat.reduceDiv, Int.reduceLE, Int.reduceLT, Int.reduceNeg, Int.reduceAdd, Int.reduceSub, Int.reduceMul, Int.reduceToNat, Int.reducePow, Int.reduceEq, ne_eq, reduceIte, byteD, dstr, un1_str, iD, bD, kindsL, pureEnd_of (fn := Tryd.f54) (rs := [.tmp 2]) (ts := [4]) rfl rfl, *])))
    all_goals (refine congrArg (fun z => M.d (D.v (Value.bool z))) ?_)
    all_goals (first | (simp_all [attOK]; done) | (simp_all [attOK]; omega) | skip)
  case inl.inr.inr.inr.inr.inr.inr =>
    have e0 : wi 6 6 = true := rfl
    (refine PFn.of (prs := [(5, [])]) Tryd.func54 rfl rfl mix (by kernel_rfl) rfl rfl ?_; simp only [Tryd.ntmps54, argUpd])
    (try (simp only [↓ru, rv, rl, ry, tyf, iM, bM, bsM, cond_true, cond_false, Nat.reduceLT, Nat.reduceBEq, Nat.reduceAdd, Nat.reduceEqDiff, Nat.reduceMul, Nat.reduceLeDiff, Nat.reduceSub, Nat.reduceDiv, Int.reduceLE, Int.reduceLT, Int.reduceNeg, Int.reduceAdd, Int.reduceSub, Int.reduceMul, Int.reduceToNat, Int.reducePow, Int.reduceEq, ne_eq, reduceIte, byteD, dstr, un1_str, iD, bD, kindsL, pureEnd_of (fn := Tryd.f54) (rs := [.tmp 2]) (ts := [4]) rfl rfl, *])); repeat' ((first | (refine fork_split (fun _h => ?_) (fun _h => ?_)) | (refine gfork_split (fun _h => ?_) (fun _h => ?_)) | (refine dfork_split (fun _h => ?_) (fun _h => ?_)) | (refine acall1_pure Kinds rfl rfl ?_) | (refine dcall1_pure Kinds rfl rfl ?_) | (refine acall1_pure (Within _ _) rfl rfl ?_) | (refine dcall1_pure (Within _ _) rfl rfl ?_)) <;> (try (simp only [↓ru, rv, rl, ry, tyf, iM, bM, bsM, cond_true, cond_false, Nat.reduceLT, Nat.reduceBEq, Nat.reduceAdd, Nat.reduceEqDiff, Nat.reduceMul, Nat.reduceLeDiff, Nat.reduceSub, Nat.reduceDiv, Int.reduceLE, Int.reduceLT, Int.reduceNeg, Int.reduceAdd, Int.reduceSub, Int.reduceMul, Int.reduceToNat, Int.reducePow, Int.reduceEq, ne_eq, reduceIte, byteD, dstr, un1_str, iD, bD, kindsL, pureEnd_of (fn := Tryd.f54) (rs := [.tmp 2]) (ts := [4]) rfl rfl, *])))
    all_goals (refine congrArg (fun z => M.d (D.v (Value.bool z))) ?_)
    all_goals (first | (simp_all [attOK]; done) | (simp_all [attOK]; omega) | skip)
end Go.SC

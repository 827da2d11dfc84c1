import Derived.Test.YtmgfnlnomecbiaaDoorU4
import Derived.Test.YtmgfnlnomecbiaaDoorAbs4
set_option linter.all false
open Go.Proofs Go.Abs Go.Fa Go.BU Go.TX Go.TW
/- Configurations: Check. -/
namespace Go.CF
set_option maxHeartbeats 4000000
set_option maxRecDepth 10000
-- rules: byteD, dstr, un1_str, iD, bD

def Shut (p : Prop) : Prop := p
structure Rg where
  f : Int
  c : Int
deriving DecidableEq
structure Cfg where
  set : List Stg
  first : Int
  last : Int
  ret : Int
  tmo : Int
  del : Int
  w0 : Rg
  w1 : Rg
  w2 : Rg
  w3 : Rg
  every : Int
  store : Int
deriving DecidableEq
abbrev winM (a b c d : Rg) : M := .agg [iM a.f, iM a.c, iM b.f, iM b.c, iM c.f, iM c.c, iM d.f, iM d.c]
abbrev cfgM (c : Cfg) : M := .agg [stgsM c.set, iM c.first, iM c.last, iM c.ret, iM c.tmo, iM c.del, iM c.w0.f, iM c.w0.c, iM c.w1.f, iM c.w1.c, iM c.w2.f, iM c.w2.c, iM c.w3.f, iM c.w3.c, iM c.every, iM c.store]
def wiB (n a b : Int) : Bool := decide (a ≤ n) && decide (n ≤ b)
theorem wiB_true {n a b : Int} : wiB n a b = true ↔ a ≤ n ∧ n ≤ b := by simp [wiB]
theorem wiB_false {n a b : Int} : wiB n a b = false ↔ ¬ (a ≤ n ∧ n ≤ b) := by rw [← wiB_true]; simp
theorem Within (n a b : Int) : PFn Tryd.prog 63 [iM n, iM a, iM b] (bM (wiB n a b)) := by
  (refine PFn.of (prs := []) Tryd.func63 rfl rfl mix (by kernel_rfl) rfl rfl ?_; simp only [Tryd.ntmps63, argUpd])
  (try (simp only [↓ru, rv, rl, ry, tyf, iM, bM, bsM, cond_true, cond_false, Nat.reduceLT, Nat.reduceBEq, Nat.reduceAdd, Nat.reduceEqDiff, Nat.reduceMul, Nat.reduceLeDiff, Nat.reduceSub, Nat.reduceDiv, Int.reduceLE, Int.reduceLT, Int.reduceNeg, Int.reduceAdd, Int.reduceSub, Int.reduceMul, Int.reduceToNat, Int.reducePow, Int.reduceEq, ne_eq, reduceIte, byteD, dstr, un1_str, iD, bD, pureEnd_of (fn := Tryd.f63) (rs := [.tmp 6]) (ts := [4]) rfl rfl, *])); repeat' ((first | (refine fork_split (fun _h => ?_) (fun _h => ?_)) | (refine gfork_split (fun _h => ?_) (fun _h => ?_)) | (refine dfork_split (fun _h => ?_) (fun _h => ?_))) <;> (try (simp only [↓ru, rv, rl, ry, tyf, iM, bM, bsM, cond_true, cond_false, Nat.reduceLT, Nat.reduceBEq, Nat.reduceAdd, Nat.reduceEqDiff, Nat.reduceMul, Nat.reduceLeDiff, Nat.reduceSub, Nat.reduceDiv, Int.reduceLE, Int.reduceLT, Int.reduceNeg, Int.reduceAdd, Int.reduceSub, Int.reduceMul, Int.reduceToNat, Int.reducePow, Int.reduceEq, ne_eq, reduceIte, byteD, dstr, un1_str, iD, bD, pureEnd_of (fn := Tryd.f63) (rs := [.tmp 6]) (ts := [4]) rfl rfl, *])))
  all_goals (rw [wiB, _h]; rfl)
theorem In (n a b : Int) : PFn Tryd.prog 65 [iM n, iM a, iM b] (bM (wiB n a b)) := by
  (refine PFn.of (prs := []) Tryd.func65 rfl rfl mix (by kernel_rfl) rfl rfl ?_; simp only [Tryd.ntmps65, argUpd])
  (try (simp only [↓ru, rv, rl, ry, tyf, iM, bM, bsM, cond_true, cond_false, Nat.reduceLT, Nat.reduceBEq, Nat.reduceAdd, Nat.reduceEqDiff, Nat.reduceMul, Nat.reduceLeDiff, Nat.reduceSub, Nat.reduceDiv, Int.reduceLE, Int.reduceLT, Int.reduceNeg, Int.reduceAdd, Int.reduceSub, Int.reduceMul, Int.reduceToNat, Int.reducePow, Int.reduceEq, ne_eq, reduceIte, byteD, dstr, un1_str, iD, bD, pureEnd_of (fn := Tryd.f65) (rs := [.tmp 6]) (ts := [4]) rfl rfl, *])); repeat' ((first | (refine fork_split (fun _h => ?_) (fun _h => ?_)) | (refine gfork_split (fun _h => ?_) (fun _h => ?_)) | (refine dfork_split (fun _h => ?_) (fun _h => ?_))) <;> (try (simp only [↓ru, rv, rl, ry, tyf, iM, bM, bsM, cond_true, cond_false, Nat.reduceLT, Nat.reduceBEq, Nat.reduceAdd, Nat.reduceEqDiff, Nat.reduceMul, Nat.reduceLeDiff, Nat.reduceSub, Nat.reduceDiv, Int.reduceLE, Int.reduceLT, Int.reduceNeg, Int.reduceAdd, Int.reduceSub, Int.reduceMul, Int.reduceToNat, Int.reducePow, Int.reduceEq, ne_eq, reduceIte, byteD, dstr, un1_str, iD, bD, pureEnd_of (fn := Tryd.f65) (rs := [.tmp 6]) (ts := [4]) rfl rfl, *])))
  all_goals (rw [wiB, _h]; rfl)
def rngP (c : Cfg) : Prop := (1 ≤ c.first ∧ c.first ≤ c.last) ∧ c.last ≤ 247 ∧ (0 ≤ c.ret ∧ c.ret ≤ 5) ∧ (1 ≤ c.tmo ∧ c.tmo ≤ 5000000) ∧ (0 ≤ c.del ∧ c.del ≤ 5000000) ∧ (1 ≤ c.every ∧ c.every ≤ 64) ∧ 0 ≤ c.store ∧ c.store ≤ 1000000
instance (c : Cfg) : Decidable (rngP c) := by unfold rngP; infer_instance
def lenR (w : Rg) : Prop := 0 ≤ w.c ∧ w.c ≤ 512
def ordR (w : Rg) : Prop := 0 ≤ w.f ∧ (0 < w.c → w.f ≤ 65536 - w.c) ∧ (¬ 0 < w.c → w.f ≤ 0)
instance (w : Rg) : Decidable (lenR w) := by unfold lenR; infer_instance
instance (w : Rg) : Decidable (ordR w) := by unfold ordR; infer_instance
def winF (a b c d : Rg) : Int := if ¬ (lenR a ∧ lenR b ∧ lenR c ∧ lenR d) then 4 else if ¬ (ordR a ∧ ordR b ∧ ordR c ∧ ordR d) then 7 else 0
def chkF (c : Cfg) : Int := if listS c.set = false then 5 else if ¬ rngP c then 3 else winF c.w0 c.w1 c.w2 c.w3
theorem win4 {a b c d : Rg} (h : ¬ (lenR a ∧ lenR b ∧ lenR c ∧ lenR d)) : winF a b c d = 4 := by rw [winF, if_pos h]
theorem win7 {a b c d : Rg} (h : lenR a ∧ lenR b ∧ lenR c ∧ lenR d) (h2 : ¬ (ordR a ∧ ordR b ∧ ordR c ∧ ordR d)) : winF a b c d = 7 := by rw [winF, if_neg (fun g => g h), if_pos h2]
theorem win0 {a b c d : Rg} (h : lenR a ∧ lenR b ∧ lenR c ∧ lenR d) (h2 : ordR a ∧ ordR b ∧ ordR c ∧ ordR d) : winF a b c d = 0 := by rw [winF, if_neg (fun g => g h), if_neg (fun g => g h2)]
def nthW (a b c d : Rg) : Nat → Rg | 0 => a | 1 => b | 2 => c | _ => d
abbrev winC (a b c d : Rg) : List M := [iM a.f, iM a.c, iM b.f, iM b.c, iM c.f, iM c.c, iM d.f, iM d.c]
theorem all4 {a b c d : Rg} {P : Rg → Prop} (h : ∀ j, j < 4 → P (nthW a b c d j)) : P a ∧ P b ∧ P c ∧ P d := ⟨h 0 (by decide), h 1 (by decide), h 2 (by decide), h 3 (by decide)⟩
theorem not4 {a b c d : Rg} {P : Rg → Prop} {j : Nat} (hj : j < 4) (h : ¬ P (nthW a b c d j)) : ¬ (P a ∧ P b ∧ P c ∧ P d) := by
  rintro ⟨h1, h2, h3, h4⟩
  have : j = 0 ∨ j = 1 ∨ j = 2 ∨ j = 3 := by omega
  rcases this with rfl | rfl | rfl | rfl
  · exact h h1
  · exact h h2
  · exact h h3
  · exact h h4
theorem ext4 {a b c d : Rg} {P : Rg → Prop} {k : Nat} (h : ∀ j, j < k → P (nthW a b c d j)) (h2 : P (nthW a b c d k)) : ∀ j, j < k + 1 → P (nthW a b c d j) := fun j hj => by
  by_cases e : j = k
  · subst e; exact h2
  · exact h j (by omega)
theorem WindowsR (a b c d : Rg) : PFn Tryd.prog 66 [winM a b c d] (iM (winF a b c d)) := by
  (refine PFn.of (prs := [(9, [])]) Tryd.func66 rfl rfl mix (by kernel_rfl) rfl rfl ?_; simp only [Tryd.ntmps66, argUpd])
  simp only [↓ru, rv, rl, ry, tyf, iM, bM, bsM, cond_true, cond_false, Nat.reduceLT, Nat.reduceBEq, Nat.reduceAdd, Nat.reduceEqDiff, Nat.reduceMul, Nat.reduceLeDiff, Nat.reduceSub, Nat.reduceDiv, Int.reduceLE, Int.reduceLT, Int.reduceNeg, Int.reduceAdd, Int.reduceSub, Int.reduceMul, Int.reduceToNat, Int.reducePow, Int.reduceEq, ne_eq, reduceIte, byteD, dstr, un1_str, iD, bD]
  refine aloop_lv (fun k : Nat => [(1, .ptr 0 0), (3, iM k)]) (fun _ => [(0, .st (winC a b c d))]) (fun k => k ≤ 4 ∧ ∀ j, j < k → lenR (nthW a b c d j)) (fun k => 4 - k) 0 0 ?_ rfl ⟨by omega, fun j hj => by omega⟩ (by omega) ?_
  · simp only [↓ru, rv, rl, ry, tyf, iM, bM, bsM, cond_true, cond_false, Nat.reduceLT, Nat.reduceBEq, Nat.reduceAdd, Nat.reduceEqDiff, Nat.reduceMul, Nat.reduceLeDiff, Nat.reduceSub, Nat.reduceDiv, Int.reduceLE, Int.reduceLT, Int.reduceNeg, Int.reduceAdd, Int.reduceSub, Int.reduceMul, Int.reduceToNat, Int.reducePow, Int.reduceEq, ne_eq, reduceIte, byteD, dstr, un1_str, iD, bD]
    try simp
  intro k e0 n ⟨hk, hL⟩
  by_cases h4 : k = 4
  · subst h4
    have hL4 := all4 hL
    clear hL
    simp only [↓ru, rv, rl, ry, tyf, iM, bM, bsM, cond_true, cond_false, Nat.reduceLT, Nat.reduceBEq, Nat.reduceAdd, Nat.reduceEqDiff, Nat.reduceMul, Nat.reduceLeDiff, Nat.reduceSub, Nat.reduceDiv, Int.reduceLE, Int.reduceLT, Int.reduceNeg, Int.reduceAdd, Int.reduceSub, Int.reduceMul, Int.reduceToNat, Int.reducePow, Int.reduceEq, ne_eq, reduceIte, byteD, dstr, un1_str, iD, bD]
    refine aloop_lv (fun k : Nat => [(1, .ptr 0 0), (4, iM k)]) (fun _ => [(0, .st (winC a b c d))]) (fun k => k ≤ 4 ∧ ∀ j, j < k → ordR (nthW a b c d j)) (fun k => 4 - k) 0 0 ?_ rfl ⟨by omega, fun j hj => by omega⟩ (by omega) ?_
    · simp only [↓ru, rv, rl, ry, tyf, iM, bM, bsM, cond_true, cond_false, Nat.reduceLT, Nat.reduceBEq, Nat.reduceAdd, Nat.reduceEqDiff, Nat.reduceMul, Nat.reduceLeDiff, Nat.reduceSub, Nat.reduceDiv, Int.reduceLE, Int.reduceLT, Int.reduceNeg, Int.reduceAdd, Int.reduceSub, Int.reduceMul, Int.reduceToNat, Int.reducePow, Int.reduceEq, ne_eq, reduceIte, byteD, dstr, un1_str, iD, bD]
      try simp
    intro k e1 n1 ⟨hk1, hO⟩
    by_cases h5 : k = 4
    · subst h5
      have e := win0 hL4 (all4 hO)
      clear hO
      (try (simp only [↓ru, rv, rl, ry, tyf, iM, bM, bsM, cond_true, cond_false, Nat.reduceLT, Nat.reduceBEq, Nat.reduceAdd, Nat.reduceEqDiff, Nat.reduceMul, Nat.reduceLeDiff, Nat.reduceSub, Nat.reduceDiv, Int.reduceLE, Int.reduceLT, Int.reduceNeg, Int.reduceAdd, Int.reduceSub, Int.reduceMul, Int.reduceToNat, Int.reducePow, Int.reduceEq, ne_eq, reduceIte, byteD, dstr, un1_str, iD, bD, e, pureEnd_of (fn := Tryd.f66) (rs := [.tmp 2]) (ts := [37]) rfl rfl, *])); repeat' ((first | (refine fork_split (fun _h => ?_) (fun _h => ?_)) | (refine gfork_split (fun _h => ?_) (fun _h => ?_)) | (refine dfork_split (fun _h => ?_) (fun _h => ?_))) <;> (try (simp only [↓ru, rv, rl, ry, tyf, iM, bM, bsM, cond_true, cond_false, Nat.reduceLT, Nat.reduceBEq, Nat.reduceAdd, Nat.reduceEqDiff, Nat.reduceMul, Nat.reduceLeDiff, Nat.reduceSub, Nat.reduceDiv, Int.reduceLE, Int.reduceLT, Int.reduceNeg, Int.reduceAdd, Int.reduceSub, Int.reduceMul, Int.reduceToNat, Int.reducePow, Int.reduceEq, ne_eq, reduceIte, byteD, dstr, un1_str, iD, bD, e, pureEnd_of (fn := Tryd.f66) (rs := [.tmp 2]) (ts := [37]) rfl rfl, *])))
    · have hk4 : k = 0 ∨ k = 1 ∨ k = 2 ∨ k = 3 := by omega
      have hnot := fun h => win7 (a := a) (b := b) (c := c) (d := d) hL4 (not4 (P := ordR) (j := k) (by omega) h)
      obtain ⟨l0, l1, l2, l3⟩ := hL4
      unfold lenR at l0 l1 l2 l3
      rcases hk4 with rfl | rfl | rfl | rfl
      · have ew : IntKind.i64.wrap (65536 - a.c) = 65536 - a.c := wrap_i64 (by omega) (by omega)
        simp only [nthW] at hnot
        (try (simp only [↓ru, rv, rl, ry, tyf, iM, bM, bsM, cond_true, cond_false, Nat.reduceLT, Nat.reduceBEq, Nat.reduceAdd, Nat.reduceEqDiff, Nat.reduceMul, Nat.reduceLeDiff, Nat.reduceSub, Nat.reduceDiv, Int.reduceLE, Int.reduceLT, Int.reduceNeg, Int.reduceAdd, Int.reduceSub, Int.reduceMul, Int.reduceToNat, Int.reducePow, Int.reduceEq, ne_eq, reduceIte, byteD, dstr, un1_str, iD, bD, ew, pureEnd_of (fn := Tryd.f66) (rs := [.tmp 2]) (ts := [37]) rfl rfl, *])); repeat' ((first | (refine fork_split (fun _h => ?_) (fun _h => ?_)) | (refine gfork_split (fun _h => ?_) (fun _h => ?_)) | (refine dfork_split (fun _h => ?_) (fun _h => ?_)) | (refine acall1_pure (In _ _ _) rfl rfl ?_) | (refine dcall1_pure (In _ _ _) rfl rfl ?_)) <;> (try (simp only [↓ru, rv, rl, ry, tyf, iM, bM, bsM, cond_true, cond_false, Nat.reduceLT, Nat.reduceBEq, Nat.reduceAdd, Nat.reduceEqDiff, Nat.reduceMul, Nat.reduceLeDiff, Nat.reduceSub, Nat.reduceDiv, Int.reduceLE, Int.reduceLT, Int.reduceNeg, Int.reduceAdd, Int.reduceSub, Int.reduceMul, Int.reduceToNat, Int.reducePow, Int.reduceEq, ne_eq, reduceIte, byteD, dstr, un1_str, iD, bD, ew, pureEnd_of (fn := Tryd.f66) (rs := [.tmp 2]) (ts := [37]) rfl rfl, *])))
        all_goals
          first
          | (refine congrArg (fun z => M.d (D.v (Value.int .i64 z))) (hnot ?_).symm
             (try simp only [Bool.not_eq_true', Bool.not_eq_false', decide_eq_true_eq, decide_eq_false_iff_not] at *)
             (try simp only [wiB_false, wiB_true, ordR] at *)
             omega)
          | (exfalso
             (try simp only [Bool.not_eq_true', Bool.not_eq_false', decide_eq_true_eq, decide_eq_false_iff_not] at *)
             (try simp only [wiB_false, wiB_true] at *)
             omega)
          | ((try simp (disch := omega) only [wrap_i64, wrap_u8, wrap_u16, wrap_u64])
             refine loopL_next 1 ?_ rfl ⟨by decide, fun j hj => ?_⟩ (by omega) (by decide)
             · simp only [↓ru, rv, rl, ry, tyf, iM, bM, bsM, cond_true, cond_false, Nat.reduceLT, Nat.reduceBEq, Nat.reduceAdd, Nat.reduceEqDiff, Nat.reduceMul, Nat.reduceLeDiff, Nat.reduceSub, Nat.reduceDiv, Int.reduceLE, Int.reduceLT, Int.reduceNeg, Int.reduceAdd, Int.reduceSub, Int.reduceMul, Int.reduceToNat, Int.reducePow, Int.reduceEq, ne_eq, reduceIte, byteD, dstr, un1_str, iD, bD]
               try rfl
             · (try simp only [Bool.not_eq_true', Bool.not_eq_false', decide_eq_true_eq, decide_eq_false_iff_not] at *)
               (try simp only [wiB_false, wiB_true] at *)
               refine ext4 (k := 0) hO ?_ j hj
               simp only [nthW, ordR]
               omega)
      · have ew : IntKind.i64.wrap (65536 - b.c) = 65536 - b.c := wrap_i64 (by omega) (by omega)
        simp only [nthW] at hnot
        (try (simp only [↓ru, rv, rl, ry, tyf, iM, bM, bsM, cond_true, cond_false, Nat.reduceLT, Nat.reduceBEq, Nat.reduceAdd, Nat.reduceEqDiff, Nat.reduceMul, Nat.reduceLeDiff, Nat.reduceSub, Nat.reduceDiv, Int.reduceLE, Int.reduceLT, Int.reduceNeg, Int.reduceAdd, Int.reduceSub, Int.reduceMul, Int.reduceToNat, Int.reducePow, Int.reduceEq, ne_eq, reduceIte, byteD, dstr, un1_str, iD, bD, ew, pureEnd_of (fn := Tryd.f66) (rs := [.tmp 2]) (ts := [37]) rfl rfl, *])); repeat' ((first | (refine fork_split (fun _h => ?_) (fun _h => ?_)) | (refine gfork_split (fun _h => ?_) (fun _h => ?_)) | (refine dfork_split (fun _h => ?_) (fun _h => ?_)) | (refine acall1_pure (In _ _ _) rfl rfl ?_) | (refine dcall1_pure (In _ _ _) rfl rfl ?_)) <;> (try (simp only [↓ru, rv, rl, ry, tyf, iM, bM, bsM, cond_true, cond_false, Nat.reduceLT, Nat.reduceBEq, Nat.reduceAdd, Nat.reduceEqDiff, Nat.reduceMul, Nat.reduceLeDiff, Nat.reduceSub, Nat.reduceDiv, Int.reduceLE, Int.reduceLT, Int.reduceNeg, Int.reduceAdd, Int.reduceSub, Int.reduceMul, Int.reduceToNat, Int.reducePow, Int.reduceEq, ne_eq, reduceIte, byteD, dstr, un1_str, iD, bD, ew, pureEnd_of (fn := Tryd.f66) (rs := [.tmp 2]) (ts := [37]) rfl rfl, *])))
        all_goals
          first
          | (refine congrArg (fun z => M.d (D.v (Value.int .i64 z))) (hnot ?_).symm
             (try simp only [Bool.not_eq_true', Bool.not_eq_false', decide_eq_true_eq, decide_eq_false_iff_not] at *)
             (try simp only [wiB_false, wiB_true, ordR] at *)
             omega)
          | (exfalso
             (try simp only [Bool.not_eq_true', Bool.not_eq_false', decide_eq_true_eq, decide_eq_false_iff_not] at *)
             (try simp only [wiB_false, wiB_true] at *)
             omega)
          | ((try simp (disch := omega) only [wrap_i64, wrap_u8, wrap_u16, wrap_u64])
             refine loopL_next 2 ?_ rfl ⟨by decide, fun j hj => ?_⟩ (by omega) (by decide)
             · simp only [↓ru, rv, rl, ry, tyf, iM, bM, bsM, cond_true, cond_false, Nat.reduceLT, Nat.reduceBEq, Nat.reduceAdd, Nat.reduceEqDiff, Nat.reduceMul, Nat.reduceLeDiff, Nat.reduceSub, Nat.reduceDiv, Int.reduceLE, Int.reduceLT, Int.reduceNeg, Int.reduceAdd, Int.reduceSub, Int.reduceMul, Int.reduceToNat, Int.reducePow, Int.reduceEq, ne_eq, reduceIte, byteD, dstr, un1_str, iD, bD]
               try rfl
             · (try simp only [Bool.not_eq_true', Bool.not_eq_false', decide_eq_true_eq, decide_eq_false_iff_not] at *)
               (try simp only [wiB_false, wiB_true] at *)
               refine ext4 (k := 1) hO ?_ j hj
               simp only [nthW, ordR]
               omega)
      · have ew : IntKind.i64.wrap (65536 - c.c) = 65536 - c.c := wrap_i64 (by omega) (by omega)
        simp only [nthW] at hnot
        (try (simp only [↓ru, rv, rl, ry, tyf, iM, bM, bsM, cond_true, cond_false, Nat.reduceLT, Nat.reduceBEq, Nat.reduceAdd, Nat.reduceEqDiff, Nat.reduceMul, Nat.reduceLeDiff, Nat.reduceSub, Nat.reduceDiv, Int.reduceLE, Int.reduceLT, Int.reduceNeg, Int.reduceAdd, Int.reduceSub, Int.reduceMul, Int.reduceToNat, Int.reducePow, Int.reduceEq, ne_eq, reduceIte, byteD, dstr, un1_str, iD, bD, ew, pureEnd_of (fn := Tryd.f66) (rs := [.tmp 2]) (ts := [37]) rfl rfl, *])); repeat' ((first | (refine fork_split (fun _h => ?_) (fun _h => ?_)) | (refine gfork_split (fun _h => ?_) (fun _h => ?_)) | (refine dfork_split (fun _h => ?_) (fun _h => ?_)) | (refine acall1_pure (In _ _ _) rfl rfl ?_) | (refine dcall1_pure (In _ _ _) rfl rfl ?_)) <;> (try (simp only [↓ru, rv, rl, ry, tyf, iM, bM, bsM, cond_true, cond_false, Nat.reduceLT, Nat.reduceBEq, Nat.reduceAdd, Nat.reduceEqDiff, Nat.reduceMul, Nat.reduceLeDiff, Nat.reduceSub, Nat.reduceDiv, Int.reduceLE, Int.reduceLT, Int.reduceNeg, Int.reduceAdd, Int.reduceSub, Int.reduceMul, Int.reduceToNat, Int.reducePow, Int.reduceEq, ne_eq, reduceIte, byteD, dstr, un1_str, iD, bD, ew, pureEnd_of (fn := Tryd.f66) (rs := [.tmp 2]) (ts := [37]) rfl rfl, *])))
        all_goals
          first
          | (refine congrArg (fun z => M.d (D.v (Value.int .i64 z))) (hnot ?_).symm
             (try simp only [Bool.not_eq_true', Bool.not_eq_false', decide_eq_true_eq, decide_eq_false_iff_not] at *)
             (try simp only [wiB_false, wiB_true, ordR] at *)
             omega)
          | (exfalso
             (try simp only [Bool.not_eq_true', Bool.not_eq_false', decide_eq_true_eq, decide_eq_false_iff_not] at *)
             (try simp only [wiB_false, wiB_true] at *)
             omega)
          | ((try simp (disch := omega) only [wrap_i64, wrap_u8, wrap_u16, wrap_u64])
             refine loopL_next 3 ?_ rfl ⟨by decide, fun j hj => ?_⟩ (by omega) (by decide)
             · simp only [↓ru, rv, rl, ry, tyf, iM, bM, bsM, cond_true, cond_false, Nat.reduceLT, Nat.reduceBEq, Nat.reduceAdd, Nat.reduceEqDiff, Nat.reduceMul, Nat.reduceLeDiff, Nat.reduceSub, Nat.reduceDiv, Int.reduceLE, Int.reduceLT, Int.reduceNeg, Int.reduceAdd, Int.reduceSub, Int.reduceMul, Int.reduceToNat, Int.reducePow, Int.reduceEq, ne_eq, reduceIte, byteD, dstr, un1_str, iD, bD]
               try rfl
             · (try simp only [Bool.not_eq_true', Bool.not_eq_false', decide_eq_true_eq, decide_eq_false_iff_not] at *)
               (try simp only [wiB_false, wiB_true] at *)
               refine ext4 (k := 2) hO ?_ j hj
               simp only [nthW, ordR]
               omega)
      · have ew : IntKind.i64.wrap (65536 - d.c) = 65536 - d.c := wrap_i64 (by omega) (by omega)
        simp only [nthW] at hnot
        (try (simp only [↓ru, rv, rl, ry, tyf, iM, bM, bsM, cond_true, cond_false, Nat.reduceLT, Nat.reduceBEq, Nat.reduceAdd, Nat.reduceEqDiff, Nat.reduceMul, Nat.reduceLeDiff, Nat.reduceSub, Nat.reduceDiv, Int.reduceLE, Int.reduceLT, Int.reduceNeg, Int.reduceAdd, Int.reduceSub, Int.reduceMul, Int.reduceToNat, Int.reducePow, Int.reduceEq, ne_eq, reduceIte, byteD, dstr, un1_str, iD, bD, ew, pureEnd_of (fn := Tryd.f66) (rs := [.tmp 2]) (ts := [37]) rfl rfl, *])); repeat' ((first | (refine fork_split (fun _h => ?_) (fun _h => ?_)) | (refine gfork_split (fun _h => ?_) (fun _h => ?_)) | (refine dfork_split (fun _h => ?_) (fun _h => ?_)) | (refine acall1_pure (In _ _ _) rfl rfl ?_) | (refine dcall1_pure (In _ _ _) rfl rfl ?_)) <;> (try (simp only [↓ru, rv, rl, ry, tyf, iM, bM, bsM, cond_true, cond_false, Nat.reduceLT, Nat.reduceBEq, Nat.reduceAdd, Nat.reduceEqDiff, Nat.reduceMul, Nat.reduceLeDiff, Nat.reduceSub, Nat.reduceDiv, Int.reduceLE, Int.reduceLT, Int.reduceNeg, Int.reduceAdd, Int.reduceSub, Int.reduceMul, Int.reduceToNat, Int.reducePow, Int.reduceEq, ne_eq, reduceIte, byteD, dstr, un1_str, iD, bD, ew, pureEnd_of (fn := Tryd.f66) (rs := [.tmp 2]) (ts := [37]) rfl rfl, *])))
        all_goals
          first
          | (refine congrArg (fun z => M.d (D.v (Value.int .i64 z))) (hnot ?_).symm
             (try simp only [Bool.not_eq_true', Bool.not_eq_false', decide_eq_true_eq, decide_eq_false_iff_not] at *)
             (try simp only [wiB_false, wiB_true, ordR] at *)
             omega)
          | (exfalso
             (try simp only [Bool.not_eq_true', Bool.not_eq_false', decide_eq_true_eq, decide_eq_false_iff_not] at *)
             (try simp only [wiB_false, wiB_true] at *)
             omega)
          | ((try simp (disch := omega) only [wrap_i64, wrap_u8, wrap_u16, wrap_u64])
             refine loopL_next 4 ?_ rfl ⟨by decide, fun j hj => ?_⟩ (by omega) (by decide)
             · simp only [↓ru, rv, rl, ry, tyf, iM, bM, bsM, cond_true, cond_false, Nat.reduceLT, Nat.reduceBEq, Nat.reduceAdd, Nat.reduceEqDiff, Nat.reduceMul, Nat.reduceLeDiff, Nat.reduceSub, Nat.reduceDiv, Int.reduceLE, Int.reduceLT, Int.reduceNeg, Int.reduceAdd, Int.reduceSub, Int.reduceMul, Int.reduceToNat, Int.reducePow, Int.reduceEq, ne_eq, reduceIte, byteD, dstr, un1_str, iD, bD]
               try rfl
             · (try simp only [Bool.not_eq_true', Bool.not_eq_false', decide_eq_true_eq, decide_eq_false_iff_not] at *)
               (try simp only [wiB_false, wiB_true] at *)
               refine ext4 (k := 3) hO ?_ j hj
               simp only [nthW, ordR]
               omega)
  · have hk4 : k = 0 ∨ k = 1 ∨ k = 2 ∨ k = 3 := by omega
    have hnot := fun h => win4 (a := a) (b := b) (c := c) (d := d) (not4 (P := lenR) (j := k) (by omega) h)
    rcases hk4 with rfl | rfl | rfl | rfl
    · simp only [nthW] at hnot
      (try (simp only [↓ru, rv, rl, ry, tyf, iM, bM, bsM, cond_true, cond_false, Nat.reduceLT, Nat.reduceBEq, Nat.reduceAdd, Nat.reduceEqDiff, Nat.reduceMul, Nat.reduceLeDiff, Nat.reduceSub, Nat.reduceDiv, Int.reduceLE, Int.reduceLT, Int.reduceNeg, Int.reduceAdd, Int.reduceSub, Int.reduceMul, Int.reduceToNat, Int.reducePow, Int.reduceEq, ne_eq, reduceIte, byteD, dstr, un1_str, iD, bD, pureEnd_of (fn := Tryd.f66) (rs := [.tmp 2]) (ts := [37]) rfl rfl, *])); repeat' ((first | (refine fork_split (fun _h => ?_) (fun _h => ?_)) | (refine gfork_split (fun _h => ?_) (fun _h => ?_)) | (refine dfork_split (fun _h => ?_) (fun _h => ?_)) | (refine acall1_pure (In _ _ _) rfl rfl ?_) | (refine dcall1_pure (In _ _ _) rfl rfl ?_)) <;> (try (simp only [↓ru, rv, rl, ry, tyf, iM, bM, bsM, cond_true, cond_false, Nat.reduceLT, Nat.reduceBEq, Nat.reduceAdd, Nat.reduceEqDiff, Nat.reduceMul, Nat.reduceLeDiff, Nat.reduceSub, Nat.reduceDiv, Int.reduceLE, Int.reduceLT, Int.reduceNeg, Int.reduceAdd, Int.reduceSub, Int.reduceMul, Int.reduceToNat, Int.reducePow, Int.reduceEq, ne_eq, reduceIte, byteD, dstr, un1_str, iD, bD, pureEnd_of (fn := Tryd.f66) (rs := [.tmp 2]) (ts := [37]) rfl rfl, *])))
      · refine congrArg (fun z => M.d (D.v (Value.int .i64 z))) (hnot ?_).symm
        (try simp only [Bool.not_eq_true', Bool.not_eq_false', decide_eq_true_eq, decide_eq_false_iff_not] at *)
        (try simp only [wiB_false, wiB_true] at *)
        exact ‹_›
      · (try simp (disch := omega) only [wrap_i64, wrap_u8, wrap_u16, wrap_u64])
        refine loopL_next 1 ?_ rfl ⟨by decide, fun j hj => ?_⟩ (by omega) (by decide)
        · simp only [↓ru, rv, rl, ry, tyf, iM, bM, bsM, cond_true, cond_false, Nat.reduceLT, Nat.reduceBEq, Nat.reduceAdd, Nat.reduceEqDiff, Nat.reduceMul, Nat.reduceLeDiff, Nat.reduceSub, Nat.reduceDiv, Int.reduceLE, Int.reduceLT, Int.reduceNeg, Int.reduceAdd, Int.reduceSub, Int.reduceMul, Int.reduceToNat, Int.reducePow, Int.reduceEq, ne_eq, reduceIte, byteD, dstr, un1_str, iD, bD]
          try rfl
        · (try simp only [Bool.not_eq_true', Bool.not_eq_false', decide_eq_true_eq, decide_eq_false_iff_not] at *)
          (try simp only [wiB_false, wiB_true] at *)
          exact ext4 (k := 0) hL ‹_› j hj
    · simp only [nthW] at hnot
      (try (simp only [↓ru, rv, rl, ry, tyf, iM, bM, bsM, cond_true, cond_false, Nat.reduceLT, Nat.reduceBEq, Nat.reduceAdd, Nat.reduceEqDiff, Nat.reduceMul, Nat.reduceLeDiff, Nat.reduceSub, Nat.reduceDiv, Int.reduceLE, Int.reduceLT, Int.reduceNeg, Int.reduceAdd, Int.reduceSub, Int.reduceMul, Int.reduceToNat, Int.reducePow, Int.reduceEq, ne_eq, reduceIte, byteD, dstr, un1_str, iD, bD, pureEnd_of (fn := Tryd.f66) (rs := [.tmp 2]) (ts := [37]) rfl rfl, *])); repeat' ((first | (refine fork_split (fun _h => ?_) (fun _h => ?_)) | (refine gfork_split (fun _h => ?_) (fun _h => ?_)) | (refine dfork_split (fun _h => ?_) (fun _h => ?_)) | (refine acall1_pure (In _ _ _) rfl rfl ?_) | (refine dcall1_pure (In _ _ _) rfl rfl ?_)) <;> (try (simp only [↓ru, rv, rl, ry, tyf, iM, bM, bsM, cond_true, cond_false, Nat.reduceLT, Nat.reduceBEq, Nat.reduceAdd, Nat.reduceEqDiff, Nat.reduceMul, Nat.reduceLeDiff, Nat.reduceSub, Nat.reduceDiv, Int.reduceLE, Int.reduceLT, Int.reduceNeg, Int.reduceAdd, Int.reduceSub, Int.reduceMul, Int.reduceToNat, Int.reducePow, Int.reduceEq, ne_eq, reduceIte, byteD, dstr, un1_str, iD, bD, pureEnd_of (fn := Tryd.f66) (rs := [.tmp 2]) (ts := [37]) rfl rfl, *])))
      · refine congrArg (fun z => M.d (D.v (Value.int .i64 z))) (hnot ?_).symm
        (try simp only [Bool.not_eq_true', Bool.not_eq_false', decide_eq_true_eq, decide_eq_false_iff_not] at *)
        (try simp only [wiB_false, wiB_true] at *)
        exact ‹_›
      · (try simp (disch := omega) only [wrap_i64, wrap_u8, wrap_u16, wrap_u64])
        refine loopL_next 2 ?_ rfl ⟨by decide, fun j hj => ?_⟩ (by omega) (by decide)
        · simp only [↓ru, rv, rl, ry, tyf, iM, bM, bsM, cond_true, cond_false, Nat.reduceLT, Nat.reduceBEq, Nat.reduceAdd, Nat.reduceEqDiff, Nat.reduceMul, Nat.reduceLeDiff, Nat.reduceSub, Nat.reduceDiv, Int.reduceLE, Int.reduceLT, Int.reduceNeg, Int.reduceAdd, Int.reduceSub, Int.reduceMul, Int.reduceToNat, Int.reducePow, Int.reduceEq, ne_eq, reduceIte, byteD, dstr, un1_str, iD, bD]
          try rfl
        · (try simp only [Bool.not_eq_true', Bool.not_eq_false', decide_eq_true_eq, decide_eq_false_iff_not] at *)
          (try simp only [wiB_false, wiB_true] at *)
          exact ext4 (k := 1) hL ‹_› j hj
    · simp only [nthW] at hnot
      (try (simp only [↓ru, rv, rl, ry, tyf, iM, bM, bsM, cond_true, cond_false, Nat.reduceLT, Nat.reduceBEq, Nat.reduceAdd, Nat.reduceEqDiff, Nat.reduceMul, Nat.reduceLeDiff, Nat.reduceSub, Nat.reduceDiv, Int.reduceLE, Int.reduceLT, Int.reduceNeg, Int.reduceAdd, Int.reduceSub, Int.reduceMul, Int.reduceToNat, Int.reducePow, Int.reduceEq, ne_eq, reduceIte, byteD, dstr, un1_str, iD, bD, pureEnd_of (fn := Tryd.f66) (rs := [.tmp 2]) (ts := [37]) rfl rfl, *])); repeat' ((first | (refine fork_split (fun _h => ?_) (fun _h => ?_)) | (refine gfork_split (fun _h => ?_) (fun _h => ?_)) | (refine dfork_split (fun _h => ?_) (fun _h => ?_)) | (refine acall1_pure (In _ _ _) rfl rfl ?_) | (refine dcall1_pure (In _ _ _) rfl rfl ?_)) <;> (try (simp only [↓ru, rv, rl, ry, tyf, iM, bM, bsM, cond_true, cond_false, Nat.reduceLT, Nat.reduceBEq, Nat.reduceAdd, Nat.reduceEqDiff, Nat.reduceMul, Nat.reduceLeDiff, Nat.reduceSub, Nat.reduceDiv, Int.reduceLE, Int.reduceLT, Int.reduceNeg, Int.reduceAdd, Int.reduceSub, Int.reduceMul, Int.reduceToNat, Int.reducePow, Int.reduceEq, ne_eq, reduceIte, byteD, dstr, un1_str, iD, bD, pureEnd_of (fn := Tryd.f66) (rs := [.tmp 2]) (ts := [37]) rfl rfl, *])))
      · refine congrArg (fun z => M.d (D.v (Value.int .i64 z))) (hnot ?_).symm
        (try simp only [Bool.not_eq_true', Bool.not_eq_false', decide_eq_true_eq, decide_eq_false_iff_not] at *)
        (try simp only [wiB_false, wiB_true] at *)
        exact ‹_›
      · (try simp (disch := omega) only [wrap_i64, wrap_u8, wrap_u16, wrap_u64])
        refine loopL_next 3 ?_ rfl ⟨by decide, fun j hj => ?_⟩ (by omega) (by decide)
        · simp only [↓ru, rv, rl, ry, tyf, iM, bM, bsM, cond_true, cond_false, Nat.reduceLT, Nat.reduceBEq, Nat.reduceAdd, Nat.reduceEqDiff, Nat.reduceMul, Nat.reduceLeDiff, Nat.reduceSub, Nat.reduceDiv, Int.reduceLE, Int.reduceLT, Int.reduceNeg, Int.reduceAdd, Int.reduceSub, Int.reduceMul, Int.reduceToNat, Int.reducePow, Int.reduceEq, ne_eq, reduceIte, byteD, dstr, un1_str, iD, bD]
          try rfl
        · (try simp only [Bool.not_eq_true', Bool.not_eq_false', decide_eq_true_eq, decide_eq_false_iff_not] at *)
          (try simp only [wiB_false, wiB_true] at *)
          exact ext4 (k := 2) hL ‹_› j hj
    · simp only [nthW] at hnot
      (try (simp only [↓ru, rv, rl, ry, tyf, iM, bM, bsM, cond_true, cond_false, Nat.reduceLT, Nat.reduceBEq, Nat.reduceAdd, Nat.reduceEqDiff, Nat.reduceMul, Nat.reduceLeDiff, Nat.reduceSub, Nat.reduceDiv, Int.reduceLE, Int.reduceLT, Int.reduceNeg, Int.reduceAdd, Int.reduceSub, Int.reduceMul, Int.reduceToNat, Int.reducePow, Int.reduceEq, ne_eq, reduceIte, byteD, dstr, un1_str, iD, bD, pureEnd_of (fn := Tryd.f66) (rs := [.tmp 2]) (ts := [37]) rfl rfl, *])); repeat' ((first | (refine fork_split (fun _h => ?_) (fun _h => ?_)) | (refine gfork_split (fun _h => ?_) (fun _h => ?_)) | (refine dfork_split (fun _h => ?_) (fun _h => ?_)) | (refine acall1_pure (In _ _ _) rfl rfl ?_) | (refine dcall1_pure (In _ _ _) rfl rfl ?_)) <;> (try (simp only [↓ru, rv, rl, ry, tyf, iM, bM, bsM, cond_true, cond_false, Nat.reduceLT, Nat.reduceBEq, Nat.reduceAdd, Nat.reduceEqDiff, Nat.reduceMul, Nat.reduceLeDiff, Nat.reduceSub, Nat.reduceDiv, Int.reduceLE, Int.reduceLT, Int.reduceNeg, Int.reduceAdd, Int.reduceSub, Int.reduceMul, Int.reduceToNat, Int.reducePow, Int.reduceEq, ne_eq, reduceIte, byteD, dstr, un1_str, iD, bD, pureEnd_of (fn := Tryd.f66) (rs := [.tmp 2]) (ts := [37]) rfl rfl, *])))
      · refine congrArg (fun z => M.d (D.v (Value.int .i64 z))) (hnot ?_).symm
        (try simp only [Bool.not_eq_true', Bool.not_eq_false', decide_eq_true_eq, decide_eq_false_iff_not] at *)
        (try simp only [wiB_false, wiB_true] at *)
        exact ‹_›
      · (try simp (disch := omega) only [wrap_i64, wrap_u8, wrap_u16, wrap_u64])
        refine loopL_next 4 ?_ rfl ⟨by decide, fun j hj => ?_⟩ (by omega) (by decide)
        · simp only [↓ru, rv, rl, ry, tyf, iM, bM, bsM, cond_true, cond_false, Nat.reduceLT, Nat.reduceBEq, Nat.reduceAdd, Nat.reduceEqDiff, Nat.reduceMul, Nat.reduceLeDiff, Nat.reduceSub, Nat.reduceDiv, Int.reduceLE, Int.reduceLT, Int.reduceNeg, Int.reduceAdd, Int.reduceSub, Int.reduceMul, Int.reduceToNat, Int.reducePow, Int.reduceEq, ne_eq, reduceIte, byteD, dstr, un1_str, iD, bD]
          try rfl
        · (try simp only [Bool.not_eq_true', Bool.not_eq_false', decide_eq_true_eq, decide_eq_false_iff_not] at *)
          (try simp only [wiB_false, wiB_true] at *)
          exact ext4 (k := 3) hL ‹_› j hj
end Go.CF

import Derived.Test.YtmgfnlnomecbiaaDoorV13
set_option linter.all false
open Go.Proofs Go.Abs Go.Fa Go.BU Go.TX Go.TW
namespace Go.SC
set_option maxHeartbeats 4000000
set_option maxRecDepth 10000
-- rules: byteD, dstr, un1_str, iD, bD

theorem att_neq' {xo yo : Operand} {a1 a2 a3 a4 a5 a6 b1 b2 b3 b4 b5 b6 : Int} {B : Bx} {K : K2} : aBin Tryd.prog .neq 31 xo yo (.agg [.d (.v (.int .i64 a1)), .d (.v (.int .i64 a2)), .d (.v (.int .i64 a3)), .d (.v (.int .i64 a4)), .d (.v (.int .i64 a5)), .d (.v (.int .i64 a6))]) (.agg [.d (.v (.int .i64 b1)), .d (.v (.int .i64 b2)), .d (.v (.int .i64 b3)), .d (.v (.int .i64 b4)), .d (.v (.int .i64 b5)), .d (.v (.int .i64 b6))]) B K = kk K (bM (!decide ((⟨a1, a2, a3, a4, a5, a6⟩ : Att) = ⟨b1, b2, b3, b4, b5, b6⟩))) B := by
  rw [bin_struct_neq Tryd.underlying31 (by kernel_rfl) (by kernel_rfl) rfl rfl (by simp [eqInts, Tryd.underlying3]; rfl)]
  congr 5
  rw [Bool.eq_iff_iff]
  simp
theorem cr_neq' {xo yo : Operand} {a1 a2 b1 b2 : Int} {B : Bx} {K : K2} : aBin Tryd.prog .neq 42 xo yo (.agg [.d (.v (.int .i64 a1)), .d (.v (.int .i64 a2))]) (.agg [.d (.v (.int .i64 b1)), .d (.v (.int .i64 b2))]) B K = kk K (bM (!decide ((⟨a1, a2⟩ : Cr) = ⟨b1, b2⟩))) B := by
  rw [bin_struct_neq Tryd.underlying42 (by kernel_rfl) (by kernel_rfl) rfl rfl (by simp [eqInts, Tryd.underlying3]; rfl)]
  congr 5
  rw [Bool.eq_iff_iff]
  simp
theorem take_ext {α : Type} {l m : List α} {i : Nat} {x : α} (h : l.take i = m.take i) (h1 : l[i]? = some x) (h2 : m[i]? = some x) : l.take (i + 1) = m.take (i + 1) := by
  rw [List.take_add_one, List.take_add_one, h, h1, h2]
theorem SameS (a b : Scr) (ha : Sz a) (hb : Sz b) : PFn Tryd.prog 24 [scrM a, scrM b] (bM (decide (a = b))) := by
  obtain ⟨l1, p1, c1⟩ := a
  obtain ⟨l2, p2, c2⟩ := b
  obtain ⟨a1, a2⟩ := ha
  obtain ⟨b1, b2⟩ := hb
  simp only at a1 a2 b1 b2
  by_cases hall : l1.length = l2.length ∧ c1.length = c2.length ∧ p1 = p2
  · obtain ⟨hl, hc, rfl⟩ := hall
    have d1 : decide ((l1.length : Int) = (l2.length : Int)) = true := decide_eq_true (by omega)
    have d2 : decide ((c1.length : Int) = (c2.length : Int)) = true := decide_eq_true (by omega)
    (refine PFn.of (prs := [(6, []), (11, [])]) Tryd.func24 rfl rfl mix (by kernel_rfl) rfl rfl ?_; simp only [Tryd.ntmps24, argUpd])
    (try (simp only [↓ru, rv, rl, ry, tyf, iM, bM, bsM, cond_true, cond_false, Nat.reduceLT, Nat.reduceBEq, Nat.reduceAdd, Nat.reduceEqDiff, Nat.reduceMul, Nat.reduceLeDiff, Nat.reduceSub, Nat.reduceDiv, Int.reduceLE, Int.reduceLT, Int.reduceNeg, Int.reduceAdd, Int.reduceSub, Int.reduceMul, Int.reduceToNat, Int.reducePow, Int.reduceEq, ne_eq, reduceIte, byteD, dstr, un1_str, iD, bD, d1, d2, bneqS', beq_self_eq_true, *])); repeat' ((first | (refine fork_split (fun _h => ?_) (fun _h => ?_)) | (refine gfork_split (fun _h => ?_) (fun _h => ?_)) | (refine dfork_split (fun _h => ?_) (fun _h => ?_))) <;> (try (simp only [↓ru, rv, rl, ry, tyf, iM, bM, bsM, cond_true, cond_false, Nat.reduceLT, Nat.reduceBEq, Nat.reduceAdd, Nat.reduceEqDiff, Nat.reduceMul, Nat.reduceLeDiff, Nat.reduceSub, Nat.reduceDiv, Int.reduceLE, Int.reduceLT, Int.reduceNeg, Int.reduceAdd, Int.reduceSub, Int.reduceMul, Int.reduceToNat, Int.reducePow, Int.reduceEq, ne_eq, reduceIte, byteD, dstr, un1_str, iD, bD, d1, d2, bneqS', beq_self_eq_true, *])))
    refine aloop_lv (fun i : Nat => [(2, .ptr 0 0), (3, .ptr 1 0), (5, iM i)]) (fun _ => [(1, .st [attsM l2, bM p1, crsM c2]), (0, .st [attsM l1, bM p1, crsM c1])]) (fun i => i ≤ l1.length ∧ l1.take i = l2.take i) (fun i => l1.length - i) 0 0 ?_ rfl ⟨by omega, by simp⟩ (by omega) ?_
    · simp only [↓ru, rv, rl, ry, tyf, iM, bM, bsM, cond_true, cond_false, Nat.reduceLT, Nat.reduceBEq, Nat.reduceAdd, Nat.reduceEqDiff, Nat.reduceMul, Nat.reduceLeDiff, Nat.reduceSub, Nat.reduceDiv, Int.reduceLE, Int.reduceLT, Int.reduceNeg, Int.reduceAdd, Int.reduceSub, Int.reduceMul, Int.reduceToNat, Int.reducePow, Int.reduceEq, ne_eq, reduceIte, byteD, dstr, un1_str, iD, bD]
    intro i e0 n ⟨hi, ht⟩
    have ht' : Shut (l1.take i = l2.take i) := ht
    clear ht
    simp only [↓ru, rv, rl, ry, tyf, iM, bM, bsM, cond_true, cond_false, Nat.reduceLT, Nat.reduceBEq, Nat.reduceAdd, Nat.reduceEqDiff, Nat.reduceMul, Nat.reduceLeDiff, Nat.reduceSub, Nat.reduceDiv, Int.reduceLE, Int.reduceLT, Int.reduceNeg, Int.reduceAdd, Int.reduceSub, Int.reduceMul, Int.reduceToNat, Int.reducePow, Int.reduceEq, ne_eq, reduceIte, byteD, dstr, un1_str, iD, bD]
    refine fork_split (fun h => ?_) (fun h => ?_)
    · have h' := of_decide_eq_true h
      obtain ⟨x, hx⟩ := get_of_lt (l := l1) (i := i) (by omega)
      obtain ⟨y, hy⟩ := get_of_lt (l := l2) (i := i) (by omega)
      by_cases hxy : x = y
      · subst hxy
        have de : decide ((⟨x.lat, x.fault, x.pos, x.mask, x.ticks, x.val⟩ : Att) = ⟨x.lat, x.fault, x.pos, x.mask, x.ticks, x.val⟩) = true := decide_eq_true rfl
        simp only [↓ru, rv, rl, ry, tyf, iM, bM, bsM, cond_true, cond_false, Nat.reduceLT, Nat.reduceBEq, Nat.reduceAdd, Nat.reduceEqDiff, Nat.reduceMul, Nat.reduceLeDiff, Nat.reduceSub, Nat.reduceDiv, Int.reduceLE, Int.reduceLT, Int.reduceNeg, Int.reduceAdd, Int.reduceSub, Int.reduceMul, Int.reduceToNat, Int.reducePow, Int.reduceEq, ne_eq, reduceIte, byteD, dstr, un1_str, iD, bD, hx, hy, att_neq', de]
        simp (disch := omega) only [wrap_i64, wrap_u8, wrap_u16, wrap_u64]
        refine loopL_next (i + 1) ?_ rfl ⟨by omega, take_ext ht' hx hy⟩ (by omega) (by omega)
        simp only [↓ru, rv, rl, ry, tyf, iM, bM, bsM, cond_true, cond_false, Nat.reduceLT, Nat.reduceBEq, Nat.reduceAdd, Nat.reduceEqDiff, Nat.reduceMul, Nat.reduceLeDiff, Nat.reduceSub, Nat.reduceDiv, Int.reduceLE, Int.reduceLT, Int.reduceNeg, Int.reduceAdd, Int.reduceSub, Int.reduceMul, Int.reduceToNat, Int.reducePow, Int.reduceEq, ne_eq, reduceIte, byteD, dstr, un1_str, iD, bD]
        simp
      · have de : decide ((⟨x.lat, x.fault, x.pos, x.mask, x.ticks, x.val⟩ : Att) = ⟨y.lat, y.fault, y.pos, y.mask, y.ticks, y.val⟩) = false := decide_eq_false hxy
        simp only [↓ru, rv, rl, ry, tyf, iM, bM, bsM, cond_true, cond_false, Nat.reduceLT, Nat.reduceBEq, Nat.reduceAdd, Nat.reduceEqDiff, Nat.reduceMul, Nat.reduceLeDiff, Nat.reduceSub, Nat.reduceDiv, Int.reduceLE, Int.reduceLT, Int.reduceNeg, Int.reduceAdd, Int.reduceSub, Int.reduceMul, Int.reduceToNat, Int.reducePow, Int.reduceEq, ne_eq, reduceIte, byteD, dstr, un1_str, iD, bD, hx, hy, att_neq', de, pureEnd_of (fn := Tryd.f24) (rs := [.tmp 4]) (ts := [4]) rfl rfl]
        rw [decide_eq_false]
        intro e
        cases e
        rw [hx] at hy; cases hy; exact hxy rfl
    · have h' := of_decide_eq_false h
      have : i = l1.length := by omega
      subst this
      have hle : l1 = l2 := by
        have : l1.take l1.length = l2.take l1.length := ht'
        rw [List.take_length, hl, List.take_length] at this; exact this
      subst hle
      clear ht'
      simp only [↓ru, rv, rl, ry, tyf, iM, bM, bsM, cond_true, cond_false, Nat.reduceLT, Nat.reduceBEq, Nat.reduceAdd, Nat.reduceEqDiff, Nat.reduceMul, Nat.reduceLeDiff, Nat.reduceSub, Nat.reduceDiv, Int.reduceLE, Int.reduceLT, Int.reduceNeg, Int.reduceAdd, Int.reduceSub, Int.reduceMul, Int.reduceToNat, Int.reducePow, Int.reduceEq, ne_eq, reduceIte, byteD, dstr, un1_str, iD, bD]
      refine aloop_lv (fun i : Nat => [(2, .ptr 0 0), (3, .ptr 1 0), (6, iM i)]) (fun _ => [(1, .st [attsM l1, bM p1, crsM c2]), (0, .st [attsM l1, bM p1, crsM c1])]) (fun i => i ≤ c1.length ∧ c1.take i = c2.take i) (fun i => c1.length - i) 0 0 ?_ rfl ⟨by omega, by simp⟩ (by omega) ?_
      · simp only [↓ru, rv, rl, ry, tyf, iM, bM, bsM, cond_true, cond_false, Nat.reduceLT, Nat.reduceBEq, Nat.reduceAdd, Nat.reduceEqDiff, Nat.reduceMul, Nat.reduceLeDiff, Nat.reduceSub, Nat.reduceDiv, Int.reduceLE, Int.reduceLT, Int.reduceNeg, Int.reduceAdd, Int.reduceSub, Int.reduceMul, Int.reduceToNat, Int.reducePow, Int.reduceEq, ne_eq, reduceIte, byteD, dstr, un1_str, iD, bD]
      intro i e0 n ⟨hi, ht⟩
      have ht' : Shut (c1.take i = c2.take i) := ht
      clear ht
      simp only [↓ru, rv, rl, ry, tyf, iM, bM, bsM, cond_true, cond_false, Nat.reduceLT, Nat.reduceBEq, Nat.reduceAdd, Nat.reduceEqDiff, Nat.reduceMul, Nat.reduceLeDiff, Nat.reduceSub, Nat.reduceDiv, Int.reduceLE, Int.reduceLT, Int.reduceNeg, Int.reduceAdd, Int.reduceSub, Int.reduceMul, Int.reduceToNat, Int.reducePow, Int.reduceEq, ne_eq, reduceIte, byteD, dstr, un1_str, iD, bD]
      refine fork_split (fun h => ?_) (fun h => ?_)
      · have h' := of_decide_eq_true h
        obtain ⟨x, hx⟩ := get_of_lt (l := c1) (i := i) (by omega)
        obtain ⟨y, hy⟩ := get_of_lt (l := c2) (i := i) (by omega)
        by_cases hxy : x = y
        · subst hxy
          have de : decide ((⟨x.step, x.keep⟩ : Cr) = ⟨x.step, x.keep⟩) = true := decide_eq_true rfl
          simp only [↓ru, rv, rl, ry, tyf, iM, bM, bsM, cond_true, cond_false, Nat.reduceLT, Nat.reduceBEq, Nat.reduceAdd, Nat.reduceEqDiff, Nat.reduceMul, Nat.reduceLeDiff, Nat.reduceSub, Nat.reduceDiv, Int.reduceLE, Int.reduceLT, Int.reduceNeg, Int.reduceAdd, Int.reduceSub, Int.reduceMul, Int.reduceToNat, Int.reducePow, Int.reduceEq, ne_eq, reduceIte, byteD, dstr, un1_str, iD, bD, hx, hy, cr_neq', de]
          simp (disch := omega) only [wrap_i64, wrap_u8, wrap_u16, wrap_u64]
          refine loopL_next (i + 1) ?_ rfl ⟨by omega, take_ext ht' hx hy⟩ (by omega) (by omega)
          simp only [↓ru, rv, rl, ry, tyf, iM, bM, bsM, cond_true, cond_false, Nat.reduceLT, Nat.reduceBEq, Nat.reduceAdd, Nat.reduceEqDiff, Nat.reduceMul, Nat.reduceLeDiff, Nat.reduceSub, Nat.reduceDiv, Int.reduceLE, Int.reduceLT, Int.reduceNeg, Int.reduceAdd, Int.reduceSub, Int.reduceMul, Int.reduceToNat, Int.reducePow, Int.reduceEq, ne_eq, reduceIte, byteD, dstr, un1_str, iD, bD]
          simp
        · have de : decide ((⟨x.step, x.keep⟩ : Cr) = ⟨y.step, y.keep⟩) = false := decide_eq_false hxy
          simp only [↓ru, rv, rl, ry, tyf, iM, bM, bsM, cond_true, cond_false, Nat.reduceLT, Nat.reduceBEq, Nat.reduceAdd, Nat.reduceEqDiff, Nat.reduceMul, Nat.reduceLeDiff, Nat.reduceSub, Nat.reduceDiv, Int.reduceLE, Int.reduceLT, Int.reduceNeg, Int.reduceAdd, Int.reduceSub, Int.reduceMul, Int.reduceToNat, Int.reducePow, Int.reduceEq, ne_eq, reduceIte, byteD, dstr, un1_str, iD, bD, hx, hy, cr_neq', de, pureEnd_of (fn := Tryd.f24) (rs := [.tmp 4]) (ts := [4]) rfl rfl]
          rw [decide_eq_false]
          intro e
          cases e
          rw [hx] at hy; cases hy; exact hxy rfl
      · have h' := of_decide_eq_false h
        have : i = c1.length := by omega
        subst this
        have hce : c1 = c2 := by
          have : c1.take c1.length = c2.take c1.length := ht'
          rw [List.take_length, hc, List.take_length] at this; exact this
        subst hce
        simp only [↓ru, rv, rl, ry, tyf, iM, bM, bsM, cond_true, cond_false, Nat.reduceLT, Nat.reduceBEq, Nat.reduceAdd, Nat.reduceEqDiff, Nat.reduceMul, Nat.reduceLeDiff, Nat.reduceSub, Nat.reduceDiv, Int.reduceLE, Int.reduceLT, Int.reduceNeg, Int.reduceAdd, Int.reduceSub, Int.reduceMul, Int.reduceToNat, Int.reducePow, Int.reduceEq, ne_eq, reduceIte, byteD, dstr, un1_str, iD, bD, pureEnd_of (fn := Tryd.f24) (rs := [.tmp 4]) (ts := [4]) rfl rfl]
  · have e : decide ((⟨l1, p1, c1⟩ : Scr) = ⟨l2, p2, c2⟩) = false := decide_eq_false (fun e => by cases e; exact hall ⟨rfl, rfl, rfl⟩)
    rw [e]
    clear e
    (refine PFn.of (prs := [(6, []), (11, [])]) Tryd.func24 rfl rfl mix (by kernel_rfl) rfl rfl ?_; simp only [Tryd.ntmps24, argUpd])
    (try (simp only [↓ru, rv, rl, ry, tyf, iM, bM, bsM, cond_true, cond_false, Nat.reduceLT, Nat.reduceBEq, Nat.reduceAdd, Nat.reduceEqDiff, Nat.reduceMul, Nat.reduceLeDiff, Nat.reduceSub, Nat.reduceDiv, Int.reduceLE, Int.reduceLT, Int.reduceNeg, Int.reduceAdd, Int.reduceSub, Int.reduceMul, Int.reduceToNat, Int.reducePow, Int.reduceEq, ne_eq, reduceIte, byteD, dstr, un1_str, iD, bD, bneqS', pureEnd_of (fn := Tryd.f24) (rs := [.tmp 4]) (ts := [4]) rfl rfl, *])); repeat' ((first | (refine fork_split (fun _h => ?_) (fun _h => ?_)) | (refine gfork_split (fun _h => ?_) (fun _h => ?_)) | (refine dfork_split (fun _h => ?_) (fun _h => ?_))) <;> (try (simp only [↓ru, rv, rl, ry, tyf, iM, bM, bsM, cond_true, cond_false, Nat.reduceLT, Nat.reduceBEq, Nat.reduceAdd, Nat.reduceEqDiff, Nat.reduceMul, Nat.reduceLeDiff, Nat.reduceSub, Nat.reduceDiv, Int.reduceLE, Int.reduceLT, Int.reduceNeg, Int.reduceAdd, Int.reduceSub, Int.reduceMul, Int.reduceToNat, Int.reducePow, Int.reduceEq, ne_eq, reduceIte, byteD, dstr, un1_str, iD, bD, bneqS', pureEnd_of (fn := Tryd.f24) (rs := [.tmp 4]) (ts := [4]) rfl rfl, *])))
    exact absurd ⟨Int.ofNat.inj (by simpa using ‹(!decide ((l1.length : Int) = (l2.length : Int))) = false›), Int.ofNat.inj (by simpa using ‹(!decide ((c1.length : Int) = (c2.length : Int))) = false›), by simpa using _h⟩ hall
end Go.SC

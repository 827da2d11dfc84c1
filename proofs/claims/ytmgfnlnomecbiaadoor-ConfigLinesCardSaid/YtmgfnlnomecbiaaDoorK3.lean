import Derived.Test.YtmgfnlnomecbiaaDoorK2
set_option linter.all false
open Go.Proofs Go.Abs Go.Fa Go.BU Go.TX Go.TW
namespace Go.CF
set_option maxHeartbeats 4000000
set_option maxRecDepth 10000
-- rules: byteD, dstr, un1_str, iD, bD

theorem eqStructIn {P : Program} {t : TypeId} {fs : Array Field} {xs ys : Array Value} {r : Bool} {d : Nat} (hu : P.underlying t = some (.struct fs)) (hs : P.stoodInHeld t = false) (h : eqInts P xs ys fs.toList = some r) :
    pureSem P (Op.equalIn (d + 2) t (.agg xs) (.agg ys)) = some r := by
  rw [show d + 2 = (d + 1) + 1 from rfl, Op.equalIn]
  simp only [pureSem_bind, ps_und hu, Option.bind_some, ps_prog, hs, Bool.false_eq_true, if_false]
  have := eqFields_ok (d := d) h
  rw [Array.forIn_toList] at this
  simp only [ne_eq] at this ⊢
  refine (congrArg (fun o => Option.bind o _) this).trans ?_
  cases r <;> rfl
theorem eqRg {a b c d : Int} {n : Nat} : pureSem Tryd.prog (Op.equalIn (n + 2) 50 (.agg #[.int .i64 a, .int .i64 b]) (.agg #[.int .i64 c, .int .i64 d])) = some (decide ((⟨a, b⟩ : Rg) = ⟨c, d⟩)) := by
  rw [eqStructIn Tryd.underlying50 (by kernel_rfl) (r := decide ((⟨a, b⟩ : Rg) = ⟨c, d⟩))]
  simp [eqInts, Tryd.underlying3]
theorem partRg {xs : Array Value} {k : Nat} : pureSem Tryd.prog (part 50 xs k) = some (.agg (xs.extract k (k + 2))) := by
  have hz : pureSem Tryd.prog (sizeOf 50) = some 2 := by
    unfold sizeOf
    simp only [pureSem_bind, ps_prog]
    kernel_rfl
  unfold part isAgg
  simp only [pureSem_bind, ps_und Tryd.underlying50, Option.bind_some, ps_pure, if_true, hz]
theorem eqWin {a1 a2 a3 a4 a5 a6 a7 a8 b1 b2 b3 b4 b5 b6 b7 b8 : Int} : pureSem Tryd.prog (Op.equal 51 (.agg #[.int .i64 a1, .int .i64 a2, .int .i64 a3, .int .i64 a4, .int .i64 a5, .int .i64 a6, .int .i64 a7, .int .i64 a8])
    (.agg #[.int .i64 b1, .int .i64 b2, .int .i64 b3, .int .i64 b4, .int .i64 b5, .int .i64 b6, .int .i64 b7, .int .i64 b8])) = some (decide ([a1, a2, a3, a4, a5, a6, a7, a8] = [b1, b2, b3, b4, b5, b6, b7, b8])) := by
  have hz : pureSem Tryd.prog (sizeOf 50) = some 2 := by
    unfold sizeOf
    simp only [pureSem_bind, ps_prog]
    kernel_rfl
  rw [Op.equal, show Op.maxDepth = 9997 + 1 + 1 + 1 from rfl, Op.equalIn]
  simp only [pureSem_bind, ps_und Tryd.underlying51, Option.bind_some, hz]
  have e : ∀ (f : Nat → (Option Bool × Unit) → Sem (ForInStep (Option Bool × Unit))), (forIn [:4] ((none, ()) : Option Bool × Unit) f) = forIn [0, 1, 2, 3] ((none, ()) : Option Bool × Unit) f := fun f => by
    simp [List.range']
  rw [e]
  have g : ∀ (a b c d : Int), pureSem Tryd.prog (Op.equalIn 9999 50 (.agg #[.int .i64 a, .int .i64 b]) (.agg #[.int .i64 c, .int .i64 d])) = some (decide (a = c ∧ b = d)) := fun a b c d => by
    have := eqRg (a := a) (b := b) (c := c) (d := d) (n := 9997)
    simpa using this
  have x0 : ∀ (a1 a2 a3 a4 a5 a6 a7 a8 : Value), (#[a1, a2, a3, a4, a5, a6, a7, a8] : Array Value).extract 0 2 = #[a1, a2] := fun _ _ _ _ _ _ _ _ => rfl
  have x1 : ∀ (a1 a2 a3 a4 a5 a6 a7 a8 : Value), (#[a1, a2, a3, a4, a5, a6, a7, a8] : Array Value).extract 2 4 = #[a3, a4] := fun _ _ _ _ _ _ _ _ => rfl
  have x2 : ∀ (a1 a2 a3 a4 a5 a6 a7 a8 : Value), (#[a1, a2, a3, a4, a5, a6, a7, a8] : Array Value).extract 4 6 = #[a5, a6] := fun _ _ _ _ _ _ _ _ => rfl
  have x3 : ∀ (a1 a2 a3 a4 a5 a6 a7 a8 : Value), (#[a1, a2, a3, a4, a5, a6, a7, a8] : Array Value).extract 6 8 = #[a7, a8] := fun _ _ _ _ _ _ _ _ => rfl
  by_cases h0 : a1 = b1 ∧ a2 = b2
  · by_cases h1 : a3 = b3 ∧ a4 = b4
    · by_cases h2 : a5 = b5 ∧ a6 = b6
      · by_cases h3 : a7 = b7 ∧ a8 = b8
        · simp [h0, h1, h2, h3, ps_pure, pureSem_bind, partRg, g, x0, x1, x2, x3]
        · simp [h0, h1, h2, h3, ps_pure, pureSem_bind, partRg, g, x0, x1, x2, x3]
      · simp [h0, h1, h2, ps_pure, pureSem_bind, partRg, g, x0, x1, x2, x3]
        intro g1 g2; exact absurd ⟨g1, g2⟩ h2
    · simp [h0, h1, ps_pure, pureSem_bind, partRg, g, x0, x1, x2, x3]
      intro g1 g2; exact absurd ⟨g1, g2⟩ h1
  · simp [h0, ps_pure, pureSem_bind, partRg, g, x0, x1, x2, x3]
    intro g1 g2; exact absurd ⟨g1, g2⟩ h0
theorem bin_agg_neq {P : Program} {t : TypeId} {xo yo : Operand} {cs ds : List M} {xs ys : List Value} {r : Bool} {B : Bx} {K : K2} (hg : P.eqGuardType P.depth t = false) (hx : cs.mapM val1 = some xs) (hy : ds.mapM val1 = some ys)
    (h : pureSem P (Op.equal t (.agg xs.toArray) (.agg ys.toArray)) = some r) : aBin P .neq t xo yo (.agg cs) (.agg ds) B K = kk K (.d (.v (.bool (!r)))) B := by
  have hxv : M.val? (.agg cs) = some (.agg xs.toArray) := by simp [M.val?, hx]
  have hyv : M.val? (.agg ds) = some (.agg ys.toArray) := by simp [M.val?, hy]
  unfold aBin
  simp only [hxv, hyv]
  have he : pureSem P (do eqGuard .neq t xo yo (.agg xs.toArray) (.agg ys.toArray); binOp .neq t (.agg xs.toArray) (.agg ys.toArray)) = some (.bool (!r)) := by
    rw [pureSem_bind]
    have h1 : pureSem P (eqGuard .neq t xo yo (.agg xs.toArray) (.agg ys.toArray)) = some () := by
      simp [eqGuard, pureSem_bind, ps_prog, hg, ps_pure]
    rw [h1, Option.bind_some, show binOp .neq t (.agg xs.toArray) (.agg ys.toArray) = (Op.equal t (.agg xs.toArray) (.agg ys.toArray) >>= fun e => pure (.bool (!e))) from rfl, pureSem_bind, h]
    rfl
  rw [he]
  rfl
theorem win_neq' {xo yo : Operand} {a1 a2 a3 a4 a5 a6 a7 a8 b1 b2 b3 b4 b5 b6 b7 b8 : Int} {B : Bx} {K : K2} : aBin Tryd.prog .neq 51 xo yo
    (.agg [.d (.v (.int .i64 a1)), .d (.v (.int .i64 a2)), .d (.v (.int .i64 a3)), .d (.v (.int .i64 a4)), .d (.v (.int .i64 a5)), .d (.v (.int .i64 a6)), .d (.v (.int .i64 a7)), .d (.v (.int .i64 a8))])
    (.agg [.d (.v (.int .i64 b1)), .d (.v (.int .i64 b2)), .d (.v (.int .i64 b3)), .d (.v (.int .i64 b4)), .d (.v (.int .i64 b5)), .d (.v (.int .i64 b6)), .d (.v (.int .i64 b7)), .d (.v (.int .i64 b8))]) B K
    = kk K (bM (!decide ([a1, a2, a3, a4, a5, a6, a7, a8] = [b1, b2, b3, b4, b5, b6, b7, b8]))) B := bin_agg_neq (by kernel_rfl) rfl rfl eqWin
theorem stg_neq' {xo yo : Operand} {a1 a2 b1 b2 : Int} {B : Bx} {K : K2} : aBin Tryd.prog .neq 92 xo yo (.agg [.d (.v (.int .i64 a1)), .d (.v (.int .i64 a2))]) (.agg [.d (.v (.int .i64 b1)), .d (.v (.int .i64 b2))]) B K = kk K (bM (!decide ((⟨a1, a2⟩ : Stg) = ⟨b1, b2⟩))) B := by
  rw [bin_struct_neq Tryd.underlying92 (by kernel_rfl) (by kernel_rfl) rfl rfl (by simp [eqInts, Tryd.underlying3]; rfl)]
  congr 5
  rw [Bool.eq_iff_iff]
  simp
theorem take_ext {α : Type} {l m : List α} {i : Nat} {x : α} (h : l.take i = m.take i) (h1 : l[i]? = some x) (h2 : m[i]? = some x) : l.take (i + 1) = m.take (i + 1) := by
  rw [List.take_add_one, List.take_add_one, h, h1, h2]
def unitsF (c : Cfg) : Int := if chkF c = 0 then c.set.length * (c.last - c.first + 1) else 0
theorem chk0 {c : Cfg} (h : chkF c = 0) : listS c.set = true ∧ rngP c ∧ (lenR c.w0 ∧ lenR c.w1 ∧ lenR c.w2 ∧ lenR c.w3) ∧ ordR c.w0 ∧ ordR c.w1 ∧ ordR c.w2 ∧ ordR c.w3 := by
  unfold chkF at h
  split at h
  · cases h
  · rename_i h1
    split at h
    · cases h
    · rename_i h2
      unfold winF at h
      split at h
      · cases h
      · rename_i h3
        split at h
        · cases h
        · rename_i h4
          exact ⟨by simpa using h1, Decidable.not_not.1 h2, Decidable.not_not.1 h3, Decidable.not_not.1 h4⟩
theorem list_len {l : List Stg} (h : listS l = true) : 1 ≤ l.length ∧ l.length ≤ 6 := by
  unfold listS at h
  simp only [Bool.and_eq_true, decide_eq_true_eq] at h
  exact h.1
theorem Units (c : Cfg) (hl : c.set.length ≤ 9223372036854775807) : PFn Tryd.prog 36 [cfgM c] (iM (unitsF c)) := by
  have hC := Check c hl
  by_cases h : chkF c = 0
  · obtain ⟨h1, h2, _, _⟩ := chk0 h
    obtain ⟨h3, h4⟩ := list_len h1
    have e : unitsF c = c.set.length * (c.last - c.first + 1) := by rw [unitsF, if_pos h]
    rw [e]
    rw [h] at hC
    clear e h h1
    obtain ⟨set, first, last, ret, tmo, del, w0, w1, w2, w3, every, store⟩ := c
    unfold rngP at h2
    simp only at h2 h3 h4 hl
    have m1 : (0 : Int) ≤ set.length * (last - first + 1) := Int.mul_nonneg (by omega) (by omega)
    have m2 : (set.length : Int) * (last - first + 1) ≤ 6 * 300 := Int.mul_le_mul (by omega) (by omega) (by omega) (by omega)
    have w3' : IntKind.i64.wrap (last - first) = last - first := wrap_i64 (by omega) (by omega)
    have w4' : IntKind.i64.wrap (last - first + 1) = last - first + 1 := wrap_i64 (by omega) (by omega)
    have w5' : IntKind.i64.wrap (set.length * (last - first + 1)) = set.length * (last - first + 1) := wrap_i64 (by omega) (by omega)
    (refine PFn.of (prs := []) Tryd.func36 rfl rfl mix (by kernel_rfl) rfl rfl ?_; simp only [Tryd.ntmps36, argUpd])
    (try (simp only [↓ru, rv, rl, ry, tyf, iM, bM, bsM, cond_true, cond_false, Nat.reduceLT, Nat.reduceBEq, Nat.reduceAdd, Nat.reduceEqDiff, Nat.reduceMul, Nat.reduceLeDiff, Nat.reduceSub, Nat.reduceDiv, Int.reduceLE, Int.reduceLT, Int.reduceNeg, Int.reduceAdd, Int.reduceSub, Int.reduceMul, Int.reduceToNat, Int.reducePow, Int.reduceEq, ne_eq, reduceIte, byteD, dstr, un1_str, iD, bD, w3', w4', w5', pureEnd_of (fn := Tryd.f36) (rs := [.tmp 2]) (ts := [3]) rfl rfl, *])); repeat' ((first | (refine fork_split (fun _h => ?_) (fun _h => ?_)) | (refine gfork_split (fun _h => ?_) (fun _h => ?_)) | (refine dfork_split (fun _h => ?_) (fun _h => ?_)) | (refine acall1_pure hC rfl rfl ?_) | (refine dcall1_pure hC rfl rfl ?_)) <;> (try (simp only [↓ru, rv, rl, ry, tyf, iM, bM, bsM, cond_true, cond_false, Nat.reduceLT, Nat.reduceBEq, Nat.reduceAdd, Nat.reduceEqDiff, Nat.reduceMul, Nat.reduceLeDiff, Nat.reduceSub, Nat.reduceDiv, Int.reduceLE, Int.reduceLT, Int.reduceNeg, Int.reduceAdd, Int.reduceSub, Int.reduceMul, Int.reduceToNat, Int.reducePow, Int.reduceEq, ne_eq, reduceIte, byteD, dstr, un1_str, iD, bD, w3', w4', w5', pureEnd_of (fn := Tryd.f36) (rs := [.tmp 2]) (ts := [3]) rfl rfl, *])))
  · have e : unitsF c = 0 := by rw [unitsF, if_neg h]
    rw [e]
    have d : decide (chkF c = 0) = false := decide_eq_false h
    obtain ⟨set, first, last, ret, tmo, del, w0, w1, w2, w3, every, store⟩ := c
    (refine PFn.of (prs := []) Tryd.func36 rfl rfl mix (by kernel_rfl) rfl rfl ?_; simp only [Tryd.ntmps36, argUpd])
    (try (simp only [↓ru, rv, rl, ry, tyf, iM, bM, bsM, cond_true, cond_false, Nat.reduceLT, Nat.reduceBEq, Nat.reduceAdd, Nat.reduceEqDiff, Nat.reduceMul, Nat.reduceLeDiff, Nat.reduceSub, Nat.reduceDiv, Int.reduceLE, Int.reduceLT, Int.reduceNeg, Int.reduceAdd, Int.reduceSub, Int.reduceMul, Int.reduceToNat, Int.reducePow, Int.reduceEq, ne_eq, reduceIte, byteD, dstr, un1_str, iD, bD, d, pureEnd_of (fn := Tryd.f36) (rs := [.tmp 2]) (ts := [3]) rfl rfl, *])); repeat' ((first | (refine fork_split (fun _h => ?_) (fun _h => ?_)) | (refine gfork_split (fun _h => ?_) (fun _h => ?_)) | (refine dfork_split (fun _h => ?_) (fun _h => ?_)) | (refine acall1_pure hC rfl rfl ?_) | (refine dcall1_pure hC rfl rfl ?_)) <;> (try (simp only [↓ru, rv, rl, ry, tyf, iM, bM, bsM, cond_true, cond_false, Nat.reduceLT, Nat.reduceBEq, Nat.reduceAdd, Nat.reduceEqDiff, Nat.reduceMul, Nat.reduceLeDiff, Nat.reduceSub, Nat.reduceDiv, Int.reduceLE, Int.reduceLT, Int.reduceNeg, Int.reduceAdd, Int.reduceSub, Int.reduceMul, Int.reduceToNat, Int.reducePow, Int.reduceEq, ne_eq, reduceIte, byteD, dstr, un1_str, iD, bD, d, pureEnd_of (fn := Tryd.f36) (rs := [.tmp 2]) (ts := [3]) rfl rfl, *])))
theorem Short (c : Cfg) : PFn Tryd.prog 32 [cfgM c] (bM (decide ((c.set.length : Int) ≤ 10))) := by
  obtain ⟨set, first, last, ret, tmo, del, w0, w1, w2, w3, every, store⟩ := c
  (refine PFn.of (prs := []) Tryd.func32 rfl rfl mix (by kernel_rfl) rfl rfl ?_; simp only [Tryd.ntmps32, argUpd])
  (try (simp only [↓ru, rv, rl, ry, tyf, iM, bM, bsM, cond_true, cond_false, Nat.reduceLT, Nat.reduceBEq, Nat.reduceAdd, Nat.reduceEqDiff, Nat.reduceMul, Nat.reduceLeDiff, Nat.reduceSub, Nat.reduceDiv, Int.reduceLE, Int.reduceLT, Int.reduceNeg, Int.reduceAdd, Int.reduceSub, Int.reduceMul, Int.reduceToNat, Int.reducePow, Int.reduceEq, ne_eq, reduceIte, byteD, dstr, un1_str, iD, bD, pureEnd_of (fn := Tryd.f32) (rs := [.tmp 2]) (ts := [4]) rfl rfl, *])); repeat' ((first | (refine fork_split (fun _h => ?_) (fun _h => ?_)) | (refine gfork_split (fun _h => ?_) (fun _h => ?_)) | (refine dfork_split (fun _h => ?_) (fun _h => ?_))) <;> (try (simp only [↓ru, rv, rl, ry, tyf, iM, bM, bsM, cond_true, cond_false, Nat.reduceLT, Nat.reduceBEq, Nat.reduceAdd, Nat.reduceEqDiff, Nat.reduceMul, Nat.reduceLeDiff, Nat.reduceSub, Nat.reduceDiv, Int.reduceLE, Int.reduceLT, Int.reduceNeg, Int.reduceAdd, Int.reduceSub, Int.reduceMul, Int.reduceToNat, Int.reducePow, Int.reduceEq, ne_eq, reduceIte, byteD, dstr, un1_str, iD, bD, pureEnd_of (fn := Tryd.f32) (rs := [.tmp 2]) (ts := [4]) rfl rfl, *])))
def smpC : Cfg := ⟨[⟨9600, 1⟩], 1, 2, 1, 1000, 0, ⟨0, 0⟩, ⟨0, 0⟩, ⟨100, 8⟩, ⟨0, 0⟩, 1, 10000⟩
theorem Sample : PFn Tryd.prog 61 [] (cfgM smpC) := by
  (refine PFn.of (prs := []) Tryd.func61 rfl rfl mix (by kernel_rfl) rfl rfl ?_; simp only [Tryd.ntmps61, argUpd])
  (try (simp only [↓ru, rv, rl, ry, tyf, iM, bM, bsM, cond_true, cond_false, Nat.reduceLT, Nat.reduceBEq, Nat.reduceAdd, Nat.reduceEqDiff, Nat.reduceMul, Nat.reduceLeDiff, Nat.reduceSub, Nat.reduceDiv, Int.reduceLE, Int.reduceLT, Int.reduceNeg, Int.reduceAdd, Int.reduceSub, Int.reduceMul, Int.reduceToNat, Int.reducePow, Int.reduceEq, ne_eq, reduceIte, byteD, dstr, un1_str, iD, bD, pureEnd_of (fn := Tryd.f61) (rs := [.cell 0 53]) (ts := [53]) rfl rfl, *])); repeat' ((first | (refine fork_split (fun _h => ?_) (fun _h => ?_)) | (refine gfork_split (fun _h => ?_) (fun _h => ?_)) | (refine dfork_split (fun _h => ?_) (fun _h => ?_))) <;> (try (simp only [↓ru, rv, rl, ry, tyf, iM, bM, bsM, cond_true, cond_false, Nat.reduceLT, Nat.reduceBEq, Nat.reduceAdd, Nat.reduceEqDiff, Nat.reduceMul, Nat.reduceLeDiff, Nat.reduceSub, Nat.reduceDiv, Int.reduceLE, Int.reduceLT, Int.reduceNeg, Int.reduceAdd, Int.reduceSub, Int.reduceMul, Int.reduceToNat, Int.reducePow, Int.reduceEq, ne_eq, reduceIte, byteD, dstr, un1_str, iD, bD, pureEnd_of (fn := Tryd.f61) (rs := [.cell 0 53]) (ts := [53]) rfl rfl, *])))
  try rfl
end Go.CF

import Derived.Test.YtalbgijagdmdcaaS5
set_option linter.all false
open Go.Proofs Go.Abs Go.FaR2
namespace Go.R2
-- rules: intsM, intD, iD, bsD, bD, setM, setsM, Setg.cells, ranM, ransM, Ran.cells, tabM, slvM, slvsM, Slv.cells, objsM, Obj.cells, reqM, repM
set_option maxHeartbeats 4000000
set_option maxRecDepth 10000
def possF (n : Int) : Bool := decide (0 ≤ n ∧ n < 65536)
theorem t101 (n : Int) : PFn Try.prog 101 [iM n] (bM (possF n)) := by
  refine PFn.of (prs := []) Try.func101 rfl rfl mix (by kernel_rfl) rfl rfl ?_
  simp only [Try.ntmps101, argUpd]
  (try (simp only [↓ru, rv, rl, ry, tyf, iM, bM, bsM, cond_true, cond_false, Nat.reduceLT, Nat.reduceBEq, Nat.reduceAdd, Nat.reduceEqDiff, Nat.reduceMul, Nat.reduceLeDiff, Nat.reduceSub, Nat.reduceDiv, Int.reduceLE, Int.reduceLT, Int.reduceNeg, Int.reduceAdd, Int.reduceSub, Int.reduceMul, Int.reduceToNat, Int.reducePow, Int.reduceEq, ne_eq, reduceIte, intsM, intD, iD, bsD, bD, setM, setsM, Setg.cells, ranM, ransM, Ran.cells, tabM, slvM, slvsM, Slv.cells, objsM, Obj.cells, reqM, repM, pureEnd_of (fn := Try.f101) (rs := [.tmp 2]) (ts := [4]) rfl rfl, *])); repeat' ((first | (refine fork_split (fun _h => ?_) (fun _h => ?_)) | (refine gfork_split (fun _h => ?_) (fun _h => ?_)) | (refine dfork_split (fun _h => ?_) (fun _h => ?_))) <;> (try (simp only [↓ru, rv, rl, ry, tyf, iM, bM, bsM, cond_true, cond_false, Nat.reduceLT, Nat.reduceBEq, Nat.reduceAdd, Nat.reduceEqDiff, Nat.reduceMul, Nat.reduceLeDiff, Nat.reduceSub, Nat.reduceDiv, Int.reduceLE, Int.reduceLT, Int.reduceNeg, Int.reduceAdd, Int.reduceSub, Int.reduceMul, Int.reduceToNat, Int.reducePow, Int.reduceEq, ne_eq, reduceIte, intsM, intD, iD, bsD, bD, setM, setsM, Setg.cells, ranM, ransM, Ran.cells, tabM, slvM, slvsM, Slv.cells, objsM, Obj.cells, reqM, repM, pureEnd_of (fn := Try.f101) (rs := [.tmp 2]) (ts := [4]) rfl rfl, *])))
  all_goals simp_all [possF]
  all_goals omega
def wordF (t a v : Int) : Int := if t < 1 ∨ 4 < t ∨ a < 0 ∨ 65536 ≤ a ∨ v < 0 ∨ 65536 ≤ v then 0 else (v + 7919 * a + 104729 * t) % 65536
theorem leafI {F x : Int} (h : F = x) : M.d (D.v (Value.int .i64 x)) = M.d (D.v (Value.int .i64 F)) := by rw [h]
theorem possF_true {n : Int} (h : possF n = true) : 0 ≤ n ∧ n < 65536 := by simpa [possF] using h
theorem possF_false {n : Int} (h : possF n = false) : n < 0 ∨ 65536 ≤ n := by simp [possF] at h; omega
theorem wordF_in {t a v : Int} (h : ¬ (t < 1 ∨ 4 < t ∨ a < 0 ∨ 65536 ≤ a ∨ v < 0 ∨ 65536 ≤ v)) :
    wordF t a v = (IntKind.i64.wrap (IntKind.i64.wrap (v + IntKind.i64.wrap (7919 * a)) + IntKind.i64.wrap (104729 * t))).tmod 65536 := by
  rw [wrap_i64 (x := 7919 * a) (by omega) (by omega), wrap_i64 (x := 104729 * t) (by omega) (by omega), wrap_i64 (x := v + 7919 * a) (by omega) (by omega), wrap_i64 (by omega) (by omega), wordF, if_neg h,
    Int.tmod_eq_emod_of_nonneg (by omega)]
theorem t61 (t a v : Int) : PFn Try.prog 61 [iM t, iM a, iM v] (iM (wordF t a v)) := by
  refine PFn.of (prs := []) Try.func61 rfl rfl mix (by kernel_rfl) rfl rfl ?_
  simp only [Try.ntmps61, argUpd]
  (try (simp only [↓ru, rv, rl, ry, tyf, iM, bM, bsM, cond_true, cond_false, Nat.reduceLT, Nat.reduceBEq, Nat.reduceAdd, Nat.reduceEqDiff, Nat.reduceMul, Nat.reduceLeDiff, Nat.reduceSub, Nat.reduceDiv, Int.reduceLE, Int.reduceLT, Int.reduceNeg, Int.reduceAdd, Int.reduceSub, Int.reduceMul, Int.reduceToNat, Int.reducePow, Int.reduceEq, ne_eq, reduceIte, intsM, intD, iD, bsD, bD, setM, setsM, Setg.cells, ranM, ransM, Ran.cells, tabM, slvM, slvsM, Slv.cells, objsM, Obj.cells, reqM, repM, pureEnd_of (fn := Try.f61) (rs := [.tmp 6]) (ts := [3]) rfl rfl, *])); repeat' ((first | (refine fork_split (fun _h => ?_) (fun _h => ?_)) | (refine gfork_split (fun _h => ?_) (fun _h => ?_)) | (refine dfork_split (fun _h => ?_) (fun _h => ?_)) | (refine acall1_pure (t101 _) rfl rfl ?_) | (refine dcall1_pure (t101 _) rfl rfl ?_)) <;> (try (simp only [↓ru, rv, rl, ry, tyf, iM, bM, bsM, cond_true, cond_false, Nat.reduceLT, Nat.reduceBEq, Nat.reduceAdd, Nat.reduceEqDiff, Nat.reduceMul, Nat.reduceLeDiff, Nat.reduceSub, Nat.reduceDiv, Int.reduceLE, Int.reduceLT, Int.reduceNeg, Int.reduceAdd, Int.reduceSub, Int.reduceMul, Int.reduceToNat, Int.reducePow, Int.reduceEq, ne_eq, reduceIte, intsM, intD, iD, bsD, bD, setM, setsM, Setg.cells, ranM, ransM, Ran.cells, tabM, slvM, slvsM, Slv.cells, objsM, Obj.cells, reqM, repM, pureEnd_of (fn := Try.f61) (rs := [.tmp 6]) (ts := [3]) rfl rfl, *])))
  all_goals (try simp only [Bool.not_eq_true', Bool.not_eq_false', decide_eq_true_eq, decide_eq_false_iff_not] at *)
  all_goals first
    | (refine leafI ?_; rw [wordF, if_pos (by omega)])
    | (have := possF_false ‹_›; refine leafI ?_; rw [wordF, if_pos (by omega)])
    | skip
  have h1 := possF_true ‹possF a = true›
  have h2 := possF_true ‹possF v = true›
  exact leafI (wordF_in (by omega))
theorem t62 (t a v : Int) : PFn Try.prog 62 [iM t, iM a, iM v] (iM (wordF t a v)) := by
  refine PFn.of (prs := []) Try.func62 rfl rfl mix (by kernel_rfl) rfl rfl ?_
  simp only [Try.ntmps62, argUpd]
  (try (simp only [↓ru, rv, rl, ry, tyf, iM, bM, bsM, cond_true, cond_false, Nat.reduceLT, Nat.reduceBEq, Nat.reduceAdd, Nat.reduceEqDiff, Nat.reduceMul, Nat.reduceLeDiff, Nat.reduceSub, Nat.reduceDiv, Int.reduceLE, Int.reduceLT, Int.reduceNeg, Int.reduceAdd, Int.reduceSub, Int.reduceMul, Int.reduceToNat, Int.reducePow, Int.reduceEq, ne_eq, reduceIte, intsM, intD, iD, bsD, bD, setM, setsM, Setg.cells, ranM, ransM, Ran.cells, tabM, slvM, slvsM, Slv.cells, objsM, Obj.cells, reqM, repM, pureEnd_of (fn := Try.f62) (rs := [.tmp 6]) (ts := [3]) rfl rfl, *])); repeat' ((first | (refine fork_split (fun _h => ?_) (fun _h => ?_)) | (refine gfork_split (fun _h => ?_) (fun _h => ?_)) | (refine dfork_split (fun _h => ?_) (fun _h => ?_))) <;> (try (simp only [↓ru, rv, rl, ry, tyf, iM, bM, bsM, cond_true, cond_false, Nat.reduceLT, Nat.reduceBEq, Nat.reduceAdd, Nat.reduceEqDiff, Nat.reduceMul, Nat.reduceLeDiff, Nat.reduceSub, Nat.reduceDiv, Int.reduceLE, Int.reduceLT, Int.reduceNeg, Int.reduceAdd, Int.reduceSub, Int.reduceMul, Int.reduceToNat, Int.reducePow, Int.reduceEq, ne_eq, reduceIte, intsM, intD, iD, bsD, bD, setM, setsM, Setg.cells, ranM, ransM, Ran.cells, tabM, slvM, slvsM, Slv.cells, objsM, Obj.cells, reqM, repM, pureEnd_of (fn := Try.f62) (rs := [.tmp 6]) (ts := [3]) rfl rfl, *])))
  all_goals (try simp only [Bool.not_eq_true', Bool.not_eq_false', decide_eq_true_eq, decide_eq_false_iff_not] at *)
  all_goals first
    | (refine leafI ?_; rw [wordF, if_pos (by omega)])
    | exact leafI (wordF_in (by omega))
def refF (q : Req) (e : Int) : Rep := ⟨q.fn, e, [], 0, 0, false, 0, []⟩
theorem t104 (q : Req) (e : Int) : PFn Try.prog 104 [reqM q, iM e] (repM (refF q e)) := by
  refine PFn.of (prs := []) Try.func104 rfl rfl mix (by kernel_rfl) rfl rfl ?_
  simp only [Try.ntmps104, argUpd]
  simp only [↓ru, rv, rl, ry, tyf, iM, bM, bsM, cond_true, cond_false, Nat.reduceLT, Nat.reduceBEq, Nat.reduceAdd, Nat.reduceEqDiff, Nat.reduceMul, Nat.reduceLeDiff, Nat.reduceSub, Nat.reduceDiv, Int.reduceLE, Int.reduceLT, Int.reduceNeg, Int.reduceAdd, Int.reduceSub, Int.reduceMul, Int.reduceToNat, Int.reducePow, Int.reduceEq, ne_eq, reduceIte, intsM, intD, iD, bsD, bD, setM, setsM, Setg.cells, ranM, ransM, Ran.cells, tabM, slvM, slvsM, Slv.cells, objsM, Obj.cells, reqM, repM, pureEnd_of (fn := Try.f104) (rs := [.cell 4 77]) (ts := [77]) rfl rfl, refF]
def setRF (l : List Ran) : List Ran := if ransF l 0 then l else []
theorem t129 (l : List Ran) (hl : l.length ≤ 9223372036854775807) : PFn Try.prog 129 [ransM l] (ransM (setRF l)) := by
  refine PFn.of (prs := []) Try.func129 rfl rfl mix (by kernel_rfl) rfl rfl ?_
  simp only [Try.ntmps129, argUpd]
  (try (simp only [↓ru, rv, rl, ry, tyf, iM, bM, bsM, cond_true, cond_false, Nat.reduceLT, Nat.reduceBEq, Nat.reduceAdd, Nat.reduceEqDiff, Nat.reduceMul, Nat.reduceLeDiff, Nat.reduceSub, Nat.reduceDiv, Int.reduceLE, Int.reduceLT, Int.reduceNeg, Int.reduceAdd, Int.reduceSub, Int.reduceMul, Int.reduceToNat, Int.reducePow, Int.reduceEq, ne_eq, reduceIte, intsM, intD, iD, bsD, bD, setM, setsM, Setg.cells, ranM, ransM, Ran.cells, tabM, slvM, slvsM, Slv.cells, objsM, Obj.cells, reqM, repM, pureEnd_of (fn := Try.f129) (rs := [.tmp 2]) (ts := [41]) rfl rfl, *])); repeat' ((first | (refine fork_split (fun _h => ?_) (fun _h => ?_)) | (refine gfork_split (fun _h => ?_) (fun _h => ?_)) | (refine dfork_split (fun _h => ?_) (fun _h => ?_)) | (refine acall1_pure (t122 l hl) rfl rfl ?_) | (refine dcall1_pure (t122 l hl) rfl rfl ?_)) <;> (try (simp only [↓ru, rv, rl, ry, tyf, iM, bM, bsM, cond_true, cond_false, Nat.reduceLT, Nat.reduceBEq, Nat.reduceAdd, Nat.reduceEqDiff, Nat.reduceMul, Nat.reduceLeDiff, Nat.reduceSub, Nat.reduceDiv, Int.reduceLE, Int.reduceLT, Int.reduceNeg, Int.reduceAdd, Int.reduceSub, Int.reduceMul, Int.reduceToNat, Int.reducePow, Int.reduceEq, ne_eq, reduceIte, intsM, intD, iD, bsD, bD, setM, setsM, Setg.cells, ranM, ransM, Ran.cells, tabM, slvM, slvsM, Slv.cells, objsM, Obj.cells, reqM, repM, pureEnd_of (fn := Try.f129) (rs := [.tmp 2]) (ts := [41]) rfl rfl, *])))
  all_goals simp_all [setRF]

/-! Is a range covered by a set? -/
def inX (x : Ran) (a : Int) : Bool := decide (x.first ≤ a ∧ a < x.first + x.count)
def coverX (r x : Ran) : Bool := decide (x.first ≤ r.first ∧ r.first + r.count ≤ x.first + x.count)
def coverF (l : List Ran) (r : Ran) : Bool := ransF [r] 0 && (ransF l 0 && l.any (coverX r))
theorem ransF_mem : ∀ (l : List Ran) (f : Int), ransF l f = true → ∀ x, x ∈ l → f ≤ x.first ∧ x.first < 65536 ∧ 1 ≤ x.count ∧ x.count ≤ 65536 - x.first
  | [], f, _, x, hx => by simp at hx
  | a :: l, f, h, x, hx => by
    rw [ransF] at h
    split at h
    · cases h
    · rcases List.mem_cons.1 hx with rfl | hx
      · omega
      · have := ransF_mem l _ h x hx
        omega
theorem t130 (r x : Ran) {p : Nat} {B : Bx} {n : Nat} {K : KT} (hp : Bx.get B p = some (.st [iM r.first, iM r.count]))
    (hk : ∀ j, K (bM (decide (x.first ≤ r.first) && decide (IntKind.i64.wrap (r.first + r.count) ≤ IntKind.i64.wrap (x.first + x.count)))) B (n + j)) :
    AFn Try.prog 130 [.agg [iM x.first, iM x.count], .ptr p 0] B n K := by
  refine AFn.intro (prs := []) Try.func130 rfl rfl mix (by kernel_rfl) rfl (fun hB => ?_)
  simp only [Try.ntmps130, argUpd]
  have hne : ∀ k, (n + k = p) = False := fun k => by
    have := hB p _ hp
    apply propext; constructor
    · intro h; omega
    · intro h; exact h.elim
  simp only [↓ru, rv, rl, ry, tyf, iM, bM, bsM, cond_true, cond_false, Nat.reduceLT, Nat.reduceBEq, Nat.reduceAdd, Nat.reduceEqDiff, Nat.reduceMul, Nat.reduceLeDiff, Nat.reduceSub, Nat.reduceDiv, Int.reduceLE, Int.reduceLT, Int.reduceNeg, Int.reduceAdd, Int.reduceSub, Int.reduceMul, Int.reduceToNat, Int.reducePow, Int.reduceEq, ne_eq, reduceIte, intsM, intD, iD, bsD, bD, setM, setsM, Setg.cells, ranM, ransM, Ran.cells, tabM, slvM, slvsM, Slv.cells, objsM, Obj.cells, reqM, repM, hp, hne]
  by_cases h : x.first ≤ r.first
  · have d : decide (x.first ≤ r.first) = true := by simpa using h
    rw [d, Bool.true_and] at hk
    simp only [↓ru, rv, rl, ry, tyf, iM, bM, bsM, cond_true, cond_false, Nat.reduceLT, Nat.reduceBEq, Nat.reduceAdd, Nat.reduceEqDiff, Nat.reduceMul, Nat.reduceLeDiff, Nat.reduceSub, Nat.reduceDiv, Int.reduceLE, Int.reduceLT, Int.reduceNeg, Int.reduceAdd, Int.reduceSub, Int.reduceMul, Int.reduceToNat, Int.reducePow, Int.reduceEq, ne_eq, reduceIte, intsM, intD, iD, bsD, bD, setM, setsM, Setg.cells, ranM, ransM, Ran.cells, tabM, slvM, slvsM, Slv.cells, objsM, Obj.cells, reqM, repM, d, hp, hne, aEnd_of (fn := Try.f130) (rs := [.tmp 3]) rfl]
    exact aFin_one (fun p x h => hB p x h) (hk' hk (by omega))
  · have d : decide (x.first ≤ r.first) = false := by simpa using h
    rw [d, Bool.false_and] at hk
    simp only [↓ru, rv, rl, ry, tyf, iM, bM, bsM, cond_true, cond_false, Nat.reduceLT, Nat.reduceBEq, Nat.reduceAdd, Nat.reduceEqDiff, Nat.reduceMul, Nat.reduceLeDiff, Nat.reduceSub, Nat.reduceDiv, Int.reduceLE, Int.reduceLT, Int.reduceNeg, Int.reduceAdd, Int.reduceSub, Int.reduceMul, Int.reduceToNat, Int.reducePow, Int.reduceEq, ne_eq, reduceIte, intsM, intD, iD, bsD, bD, setM, setsM, Setg.cells, ranM, ransM, Ran.cells, tabM, slvM, slvsM, Slv.cells, objsM, Obj.cells, reqM, repM, d, hp, hne, aEnd_of (fn := Try.f130) (rs := [.tmp 3]) rfl]
    exact aFin_one (fun p x h => hB p x h) (hk' hk (by omega))
def idxR (f : Ran → Bool) : List Ran → Nat → Int
  | [], _ => -1
  | o :: l, i => if f o then i else idxR f l (i + 1)
theorem t132 (l : List Ran) (hl : l.length ≤ 9223372036854775807) (k : FuncId) (fs cs : List M) (f : Ran → Bool) {B : Bx} {n : Nat} {K : KT}
    (hf : ∀ o n (K : KT), (∀ j, K (bM (f o)) B (n + j)) → AFn Try.prog k (fs ++ [.agg [iM o.first, iM o.count]] ++ cs) B n K) (hk : ∀ j, K (iM (idxR f l 0)) B (n + j)) :
    AFn Try.prog 132 [ransM l, .fn (.func k) fs cs] B n K := by
  refine AFn.intro (prs := []) Try.func132 rfl rfl mix (by kernel_rfl) rfl (fun hB => ?_)
  simp only [Try.ntmps132, argUpd]
  simp only [↓ru, rv, rl, ry, tyf, iM, bM, bsM, cond_true, cond_false, Nat.reduceLT, Nat.reduceBEq, Nat.reduceAdd, Nat.reduceEqDiff, Nat.reduceMul, Nat.reduceLeDiff, Nat.reduceSub, Nat.reduceDiv, Int.reduceLE, Int.reduceLT, Int.reduceNeg, Int.reduceAdd, Int.reduceSub, Int.reduceMul, Int.reduceToNat, Int.reducePow, Int.reduceEq, ne_eq, reduceIte, intsM, intD, iD, bsD, bD, setM, setsM, Setg.cells, ranM, ransM, Ran.cells, tabM, slvM, slvsM, Slv.cells, objsM, Obj.cells, reqM, repM]
  refine aloop_lv (fun s : Nat => [(0, ransM l), (1, .fn (.func k) fs cs), (7, iM l.length), (8, iM s)]) (fun _ => B) (fun s => s ≤ l.length ∧ idxR f (l.drop s) s = idxR f l 0) (fun s => l.length - s) n 0 ?_ rfl ⟨by omega, by simp⟩ (by omega) ?_
  · simp only [↓ru, rv, rl, ry, tyf, iM, bM, bsM, cond_true, cond_false, Nat.reduceLT, Nat.reduceBEq, Nat.reduceAdd, Nat.reduceEqDiff, Nat.reduceMul, Nat.reduceLeDiff, Nat.reduceSub, Nat.reduceDiv, Int.reduceLE, Int.reduceLT, Int.reduceNeg, Int.reduceAdd, Int.reduceSub, Int.reduceMul, Int.reduceToNat, Int.reducePow, Int.reduceEq, ne_eq, reduceIte, intsM, intD, iD, bsD, bD, setM, setsM, Setg.cells, ranM, ransM, Ran.cells, tabM, slvM, slvsM, Slv.cells, objsM, Obj.cells, reqM, repM]
  · intro i e0 m ⟨hi, hr⟩
    simp only [↓ru, rv, rl, ry, tyf, iM, bM, bsM, cond_true, cond_false, Nat.reduceLT, Nat.reduceBEq, Nat.reduceAdd, Nat.reduceEqDiff, Nat.reduceMul, Nat.reduceLeDiff, Nat.reduceSub, Nat.reduceDiv, Int.reduceLE, Int.reduceLT, Int.reduceNeg, Int.reduceAdd, Int.reduceSub, Int.reduceMul, Int.reduceToNat, Int.reducePow, Int.reduceEq, ne_eq, reduceIte, intsM, intD, iD, bsD, bD, setM, setsM, Setg.cells, ranM, ransM, Ran.cells, tabM, slvM, slvsM, Slv.cells, objsM, Obj.cells, reqM, repM]
    refine fork_split (fun h1 => ?_) (fun h1 => ?_)
    · have h1' := of_decide_eq_true h1
      obtain ⟨o, ho⟩ := get_of_lt (l := l) (i := i) (by omega)
      rw [List.drop_of_get ho, idxR] at hr
      simp only [↓ru, rv, rl, ry, tyf, iM, bM, bsM, cond_true, cond_false, Nat.reduceLT, Nat.reduceBEq, Nat.reduceAdd, Nat.reduceEqDiff, Nat.reduceMul, Nat.reduceLeDiff, Nat.reduceSub, Nat.reduceDiv, Int.reduceLE, Int.reduceLT, Int.reduceNeg, Int.reduceAdd, Int.reduceSub, Int.reduceMul, Int.reduceToNat, Int.reducePow, Int.reduceEq, ne_eq, reduceIte, intsM, intD, iD, bsD, bD, setM, setsM, Setg.cells, ranM, ransM, Ran.cells, tabM, slvM, slvsM, Slv.cells, objsM, Obj.cells, reqM, repM, ho]
      refine acall1_inl (hf o _ _ fun j => ?_)
      simp only [↓ru, rv, rl, ry, tyf, iM, bM, bsM, cond_true, cond_false, Nat.reduceLT, Nat.reduceBEq, Nat.reduceAdd, Nat.reduceEqDiff, Nat.reduceMul, Nat.reduceLeDiff, Nat.reduceSub, Nat.reduceDiv, Int.reduceLE, Int.reduceLT, Int.reduceNeg, Int.reduceAdd, Int.reduceSub, Int.reduceMul, Int.reduceToNat, Int.reducePow, Int.reduceEq, ne_eq, reduceIte, intsM, intD, iD, bsD, bD, setM, setsM, Setg.cells, ranM, ransM, Ran.cells, tabM, slvM, slvsM, Slv.cells, objsM, Obj.cells, reqM, repM]
      refine fork_split (fun h2 => ?_) (fun h2 => ?_)
      · simp only [↓ru, rv, rl, ry, tyf, iM, bM, bsM, cond_true, cond_false, Nat.reduceLT, Nat.reduceBEq, Nat.reduceAdd, Nat.reduceEqDiff, Nat.reduceMul, Nat.reduceLeDiff, Nat.reduceSub, Nat.reduceDiv, Int.reduceLE, Int.reduceLT, Int.reduceNeg, Int.reduceAdd, Int.reduceSub, Int.reduceMul, Int.reduceToNat, Int.reducePow, Int.reduceEq, ne_eq, reduceIte, intsM, intD, iD, bsD, bD, setM, setsM, Setg.cells, ranM, ransM, Ran.cells, tabM, slvM, slvsM, Slv.cells, objsM, Obj.cells, reqM, repM, aEnd_of (fn := Try.f132) (rs := [.tmp 4]) rfl]
        rw [if_pos h2] at hr
        rw [← hr] at hk
        exact aFin_same (hk' hk (by omega))
      · simp only [↓ru, rv, rl, ry, tyf, iM, bM, bsM, cond_true, cond_false, Nat.reduceLT, Nat.reduceBEq, Nat.reduceAdd, Nat.reduceEqDiff, Nat.reduceMul, Nat.reduceLeDiff, Nat.reduceSub, Nat.reduceDiv, Int.reduceLE, Int.reduceLT, Int.reduceNeg, Int.reduceAdd, Int.reduceSub, Int.reduceMul, Int.reduceToNat, Int.reducePow, Int.reduceEq, ne_eq, reduceIte, intsM, intD, iD, bsD, bD, setM, setsM, Setg.cells, ranM, ransM, Ran.cells, tabM, slvM, slvsM, Slv.cells, objsM, Obj.cells, reqM, repM]
        simp (disch := omega) only [wrap_i64, wrap_u8, wrap_u16, wrap_u64]
        rw [h2, if_neg (by simp)] at hr
        refine ⟨i + 1, _, _, _, Wk.refl, ⟨?_, rfl, ⟨by omega, hr⟩, by omega⟩, by simp only; omega⟩
        simp only [↓ru, rv, rl, ry, tyf, iM, bM, bsM, cond_true, cond_false, Nat.reduceLT, Nat.reduceBEq, Nat.reduceAdd, Nat.reduceEqDiff, Nat.reduceMul, Nat.reduceLeDiff, Nat.reduceSub, Nat.reduceDiv, Int.reduceLE, Int.reduceLT, Int.reduceNeg, Int.reduceAdd, Int.reduceSub, Int.reduceMul, Int.reduceToNat, Int.reducePow, Int.reduceEq, ne_eq, reduceIte, intsM, intD, iD, bsD, bD, setM, setsM, Setg.cells, ranM, ransM, Ran.cells, tabM, slvM, slvsM, Slv.cells, objsM, Obj.cells, reqM, repM] <;> simp
    · have h1' := of_decide_eq_false h1
      obtain rfl : i = l.length := by omega
      rw [List.drop_length, idxR] at hr
      simp only [↓ru, rv, rl, ry, tyf, iM, bM, bsM, cond_true, cond_false, Nat.reduceLT, Nat.reduceBEq, Nat.reduceAdd, Nat.reduceEqDiff, Nat.reduceMul, Nat.reduceLeDiff, Nat.reduceSub, Nat.reduceDiv, Int.reduceLE, Int.reduceLT, Int.reduceNeg, Int.reduceAdd, Int.reduceSub, Int.reduceMul, Int.reduceToNat, Int.reducePow, Int.reduceEq, ne_eq, reduceIte, intsM, intD, iD, bsD, bD, setM, setsM, Setg.cells, ranM, ransM, Ran.cells, tabM, slvM, slvsM, Slv.cells, objsM, Obj.cells, reqM, repM, aEnd_of (fn := Try.f132) (rs := [.tmp 4]) rfl]
      refine aFin_same ?_
      rw [← hr] at hk
      exact hk' hk (by omega)
theorem idxR_neg (f : Ran → Bool) : ∀ (l : List Ran) (i : Nat), decide (0 ≤ idxR f l i) = l.any f
  | [], i => by simp [idxR]
  | o :: l, i => by
    rw [idxR]
    split
    · rename_i h; simp [h]
    · rename_i h; rw [idxR_neg f l (i + 1)]; simp [h]
theorem t128 (l : List Ran) (hl : l.length ≤ 9223372036854775807) (k : FuncId) (fs cs : List M) (f : Ran → Bool) {B : Bx} {n : Nat} {K : KT}
    (hf : ∀ o n (K : KT), (∀ j, K (bM (f o)) B (n + j)) → AFn Try.prog k (fs ++ [.agg [iM o.first, iM o.count]] ++ cs) B n K) (hk : ∀ j, K (bM (l.any f)) B (n + j)) :
    AFn Try.prog 128 [ransM l, .fn (.func k) fs cs] B n K := by
  refine AFn.intro (prs := []) Try.func128 rfl rfl mix (by kernel_rfl) rfl (fun hB => ?_)
  simp only [Try.ntmps128, argUpd]
  simp only [↓ru, rv, rl, ry, tyf, iM, bM, bsM, cond_true, cond_false, Nat.reduceLT, Nat.reduceBEq, Nat.reduceAdd, Nat.reduceEqDiff, Nat.reduceMul, Nat.reduceLeDiff, Nat.reduceSub, Nat.reduceDiv, Int.reduceLE, Int.reduceLT, Int.reduceNeg, Int.reduceAdd, Int.reduceSub, Int.reduceMul, Int.reduceToNat, Int.reducePow, Int.reduceEq, ne_eq, reduceIte, intsM, intD, iD, bsD, bD, setM, setsM, Setg.cells, ranM, ransM, Ran.cells, tabM, slvM, slvsM, Slv.cells, objsM, Obj.cells, reqM, repM]
  refine acall1_inl (t132 l hl k fs cs f hf fun j => ?_)
  simp only [↓ru, rv, rl, ry, tyf, iM, bM, bsM, cond_true, cond_false, Nat.reduceLT, Nat.reduceBEq, Nat.reduceAdd, Nat.reduceEqDiff, Nat.reduceMul, Nat.reduceLeDiff, Nat.reduceSub, Nat.reduceDiv, Int.reduceLE, Int.reduceLT, Int.reduceNeg, Int.reduceAdd, Int.reduceSub, Int.reduceMul, Int.reduceToNat, Int.reducePow, Int.reduceEq, ne_eq, reduceIte, intsM, intD, iD, bsD, bD, setM, setsM, Setg.cells, ranM, ransM, Ran.cells, tabM, slvM, slvsM, Slv.cells, objsM, Obj.cells, reqM, repM, idxR_neg, aEnd_of (fn := Try.f128) (rs := [.tmp 4]) rfl]
  exact aFin_same (hk' hk (by omega))
theorem any_congr' {α : Type} {l : List α} {f g : α → Bool} (h : ∀ x, x ∈ l → f x = g x) : l.any f = l.any g := by
  induction l with
  | nil => rfl
  | cons a l ih => rw [List.any_cons, List.any_cons, h a (List.mem_cons_self ..), ih fun x hx => h x (List.mem_cons_of_mem _ hx)]
theorem t123 (l : List Ran) (r : Ran) (hl : l.length ≤ 9223372036854775807) : PFn Try.prog 123 [ransM l, ranM r] (bM (coverF l r)) := by
  refine PFn.of (prs := []) Try.func123 rfl rfl mix (by kernel_rfl) rfl rfl ?_
  simp only [Try.ntmps123, argUpd]
  simp only [↓ru, rv, rl, ry, tyf, iM, bM, bsM, cond_true, cond_false, Nat.reduceLT, Nat.reduceBEq, Nat.reduceAdd, Nat.reduceEqDiff, Nat.reduceMul, Nat.reduceLeDiff, Nat.reduceSub, Nat.reduceDiv, Int.reduceLE, Int.reduceLT, Int.reduceNeg, Int.reduceAdd, Int.reduceSub, Int.reduceMul, Int.reduceToNat, Int.reducePow, Int.reduceEq, ne_eq, reduceIte, intsM, intD, iD, bsD, bD, setM, setsM, Setg.cells, ranM, ransM, Ran.cells, tabM, slvM, slvsM, Slv.cells, objsM, Obj.cells, reqM, repM]
  refine acall1_pure (t122 [r] (by simp)) rfl rfl ?_
  cases hr : ransF [r] 0 with
  | false => simp only [↓ru, rv, rl, ry, tyf, iM, bM, bsM, cond_true, cond_false, Nat.reduceLT, Nat.reduceBEq, Nat.reduceAdd, Nat.reduceEqDiff, Nat.reduceMul, Nat.reduceLeDiff, Nat.reduceSub, Nat.reduceDiv, Int.reduceLE, Int.reduceLT, Int.reduceNeg, Int.reduceAdd, Int.reduceSub, Int.reduceMul, Int.reduceToNat, Int.reducePow, Int.reduceEq, ne_eq, reduceIte, intsM, intD, iD, bsD, bD, setM, setsM, Setg.cells, ranM, ransM, Ran.cells, tabM, slvM, slvsM, Slv.cells, objsM, Obj.cells, reqM, repM, pureEnd_of (fn := Try.f123) (rs := [.tmp 4]) (ts := [4]) rfl rfl, coverF, hr, Bool.false_and]
  | true =>
    simp only [↓ru, rv, rl, ry, tyf, iM, bM, bsM, cond_true, cond_false, Nat.reduceLT, Nat.reduceBEq, Nat.reduceAdd, Nat.reduceEqDiff, Nat.reduceMul, Nat.reduceLeDiff, Nat.reduceSub, Nat.reduceDiv, Int.reduceLE, Int.reduceLT, Int.reduceNeg, Int.reduceAdd, Int.reduceSub, Int.reduceMul, Int.reduceToNat, Int.reducePow, Int.reduceEq, ne_eq, reduceIte, intsM, intD, iD, bsD, bD, setM, setsM, Setg.cells, ranM, ransM, Ran.cells, tabM, slvM, slvsM, Slv.cells, objsM, Obj.cells, reqM, repM]
    refine acall1_pure (t129 l hl) rfl rfl ?_
    simp only [↓ru, rv, rl, ry, tyf, iM, bM, bsM, cond_true, cond_false, Nat.reduceLT, Nat.reduceBEq, Nat.reduceAdd, Nat.reduceEqDiff, Nat.reduceMul, Nat.reduceLeDiff, Nat.reduceSub, Nat.reduceDiv, Int.reduceLE, Int.reduceLT, Int.reduceNeg, Int.reduceAdd, Int.reduceSub, Int.reduceMul, Int.reduceToNat, Int.reducePow, Int.reduceEq, ne_eq, reduceIte, intsM, intD, iD, bsD, bD, setM, setsM, Setg.cells, ranM, ransM, Ran.cells, tabM, slvM, slvsM, Slv.cells, objsM, Obj.cells, reqM, repM]
    refine acall1_inl (t128 (setRF l) (by unfold setRF; split; exact hl; simp) 130 [] [.ptr 0 0] (fun x => decide (x.first ≤ r.first) && decide (IntKind.i64.wrap (r.first + r.count) ≤ IntKind.i64.wrap (x.first + x.count)))
      (fun o n K hk => t130 r o rfl hk) fun j => ?_)
    simp only [↓ru, rv, rl, ry, tyf, iM, bM, bsM, cond_true, cond_false, Nat.reduceLT, Nat.reduceBEq, Nat.reduceAdd, Nat.reduceEqDiff, Nat.reduceMul, Nat.reduceLeDiff, Nat.reduceSub, Nat.reduceDiv, Int.reduceLE, Int.reduceLT, Int.reduceNeg, Int.reduceAdd, Int.reduceSub, Int.reduceMul, Int.reduceToNat, Int.reducePow, Int.reduceEq, ne_eq, reduceIte, intsM, intD, iD, bsD, bD, setM, setsM, Setg.cells, ranM, ransM, Ran.cells, tabM, slvM, slvsM, Slv.cells, objsM, Obj.cells, reqM, repM, pureEnd_of (fn := Try.f123) (rs := [.tmp 4]) (ts := [4]) rfl rfl]
    refine leafB ?_
    rw [coverF, hr, Bool.true_and]
    cases hs : ransF l 0 with
    | false => simp [setRF, hs]
    | true =>
      have hR := ransF_mem [r] 0 hr r (by simp)
      have hL := ransF_mem l 0 hs
      rw [Bool.true_and, setRF, if_pos hs]
      refine any_congr' fun x hx => ?_
      have := hL x hx
      rw [wrap_i64 (by omega) (by omega), wrap_i64 (by omega) (by omega), coverX, Bool.decide_and]
end Go.R2

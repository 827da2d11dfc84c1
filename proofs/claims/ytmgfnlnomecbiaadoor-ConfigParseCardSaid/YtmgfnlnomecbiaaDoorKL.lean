import Derived.Test.YtmgfnlnomecbiaaDoorKJ
set_option linter.all false
open Go.Proofs Go.Abs Go.Fa Go.BU Go.TX Go.TW
namespace Go.CF
set_option maxHeartbeats 400000
set_option maxRecDepth 10000
-- rules: byteD, dstr, un1_str, iD, bD
/-- Elements of one cell, each in its place. -/
theorem fill_seq {z : M} : ∀ (l : List M) (pre : List M) (k : Nat), (∀ m ∈ l, stores m = some [m]) → l.length ≤ k →
    fillM (Pl.es 1).at (pre ++ List.replicate k z) ((l.zipIdx pre.length).map fun x => (x.2, x.1)) = some (pre ++ l ++ List.replicate (k - l.length) z)
  | [], pre, k, _, _ => by simp [fillM]
  | m :: l, pre, k, h, hk => by
    obtain ⟨k', rfl⟩ : ∃ k', k = k' + 1 := ⟨k - 1, by simp at hk; omega⟩
    have ih := fill_seq (z := z) l (pre ++ [m]) k' (fun x hx => h x (by simp [hx])) (by simpa using hk)
    rw [List.zipIdx_cons, List.map_cons, fillM_cons]
    have e1 : (Pl.es 1).at pre.length = some (pre.length * 1, 1) := rfl
    rw [e1, h m (by simp)]
    simp only [Option.bind_some]
    rw [if_pos ⟨rfl, by simp⟩]
    have e2 : splice (pre ++ List.replicate (k' + 1) z) (pre.length * 1) [m] = pre ++ [m] ++ List.replicate k' z := by
      rw [splice_eq]; simp [List.replicate_succ]
    rw [e2]
    simp only [List.length_append, List.length_cons, List.length_nil] at ih
    rw [ih]
    simp
theorem frzP_all {P : Program} {t : TypeId} {B : Bx} : ∀ {ps : List (Nat × M)}, (∀ x ∈ ps, frzT P B t x.2 = (x.2, B)) → frzP P t B ps = (ps, B)
  | [], _ => rfl
  | (i, m) :: r, h => by
    have h1 := h (i, m) (by simp)
    have ih := frzP_all (ps := r) (fun x hx => h x (by simp [hx]))
    simp only at h1
    rw [frzP_cons, h1, ih]
theorem chunks1 : ∀ (l : List M), chunks 1 l l.length = l.map fun m => [m]
  | [] => rfl
  | m :: l => by rw [List.length_cons, chunks_succ]; simp [chunks1 l]
theorem bs_seq {P : Program} {t e : TypeId} {by' : Nat} {z : M} {l : List M} {len : Nat} {ps : List (Nat × M)} {B : Bx} {n : Nat} {K : K2} (hr : tel P t = some (1, by', [z])) (he : telem P t = some e) (hps : ps = (l.zipIdx 0).map fun x => (x.2, x.1)) (hl : l.length = len) (h16 : len ≤ 16777216)
    (hf : ∀ m ∈ l, frzT P B e m = (m, B)) (ho : ∀ m ∈ l, m.one = true) : aBuildSlice P t len ps B n K = kk K (.hsl n len) ((n, .ar false 1 (l.map fun m => [m])) :: B) := by
  subst hl hps
  have hz : frzP P e B ((l.zipIdx 0).map fun x => (x.2, x.1)) = ((l.zipIdx 0).map fun x => (x.2, x.1), B) := frzP_all fun x hx => by
    obtain ⟨y, hy, rfl⟩ := List.mem_map.1 hx
    exact hf y.1 (List.fst_mem_of_mem_zipIdx hy)
  have hfill := fill_seq (z := z) l [] l.length (fun m hm => stores_one (ho m hm)) (Nat.le_refl _)
  simp only [List.nil_append, List.length_nil, Nat.sub_self, List.replicate_zero, List.append_nil] at hfill
  have hfl : (List.replicate l.length [z]).flatten = List.replicate l.length z := by
    generalize l.length = k
    induction k with
    | zero => rfl
    | succ k ih => rw [List.replicate_succ, List.flatten_cons, ih]; rfl
  rw [a_buildSlice (by rw [hr]; rfl), hr, he]
  simp only [ob_some, vb_eq, hz]
  rw [hfl, hfill]
  have g : (l.length * 1 ≤ 16777216 ∧ l.all M.one = true) = True := eq_true ⟨by omega, List.all_eq_true.2 ho⟩
  simp only [ob_some]
  rw [g, grd_true, chunks1]
theorem bs10s {w0 w1 w2 w3 w4 w5 w6 w7 w8 w9 : List UInt8} {B : Bx} {n : Nat} {K : K2} : aBuildSlice Tryd.prog 62 10 [(0, strM w0), (1, strM w1), (2, strM w2), (3, strM w3), (4, strM w4), (5, strM w5), (6, strM w6), (7, strM w7), (8, strM w8), (9, strM w9)] B n K = kk K (.hsl n 10) ((n, .ar false 1 [[strM w0], [strM w1], [strM w2], [strM w3], [strM w4], [strM w5], [strM w6], [strM w7], [strM w8], [strM w9]]) :: B) :=
  bs_seq (l := [strM w0, strM w1, strM w2, strM w3, strM w4, strM w5, strM w6, strM w7, strM w8, strM w9]) (by simp only [tyf]; rfl) (by simp only [tyf]; rfl) rfl rfl (by decide) (fun m hm => by
    simp only [List.mem_cons, List.not_mem_nil, or_false] at hm
    rcases hm with rfl | rfl | rfl | rfl | rfl | rfl | rfl | rfl | rfl | rfl <;> rfl) (fun m hm => by
    simp only [List.mem_cons, List.not_mem_nil, or_false] at hm
    rcases hm with rfl | rfl | rfl | rfl | rfl | rfl | rfl | rfl | rfl | rfl <;> rfl)
theorem bs10i {w0 w1 w2 w3 w4 w5 w6 w7 w8 w9 : Int} {B : Bx} {n : Nat} {K : K2} : aBuildSlice Tryd.prog 109 10 [(0, iM w0), (1, iM w1), (2, iM w2), (3, iM w3), (4, iM w4), (5, iM w5), (6, iM w6), (7, iM w7), (8, iM w8), (9, iM w9)] B n K = kk K (.hsl n 10) ((n, .ar false 1 [[iM w0], [iM w1], [iM w2], [iM w3], [iM w4], [iM w5], [iM w6], [iM w7], [iM w8], [iM w9]]) :: B) :=
  bs_seq (l := [iM w0, iM w1, iM w2, iM w3, iM w4, iM w5, iM w6, iM w7, iM w8, iM w9]) (by simp only [tyf]; rfl) (by simp only [tyf]; rfl) rfl rfl (by decide) (fun m hm => by
    simp only [List.mem_cons, List.not_mem_nil, or_false] at hm
    rcases hm with rfl | rfl | rfl | rfl | rfl | rfl | rfl | rfl | rfl | rfl <;> rfl) (fun m hm => by
    simp only [List.mem_cons, List.not_mem_nil, or_false] at hm
    rcases hm with rfl | rfl | rfl | rfl | rfl | rfl | rfl | rfl | rfl | rfl <;> rfl)
end Go.CF

import Derived.Test.YtmgfnlnomecbiaaDoorB1
import Derived.Test.YtmgfnlnomecbiaaDoorTP
set_option linter.all false
open Go.Proofs Go.Abs Go.Fa
/- strings.Builder: the contracts of its functions in the layer. -/
namespace Go.BU
-- rules: Bx.get_set
set_option maxHeartbeats 4000000
set_option maxRecDepth 10000

theorem cc {B : Bx} {p n : Nat} {a m : M} {K : KT} (hB : B.get p = some (.st [a, m] 76)) (ha : a = nilP ∨ a = .ptr p 0) (hK : K (.tup []) (B.set p (.st [.ptr p 0, m] 76)) n) :
    AFn Tryd.prog 84 [.ptr p 0] B n K := by
  refine ⟨⟨_, Tryd.func84, rfl, rfl⟩, fun Γ w vs hb hw hlt hargs => ?_⟩
  obtain ⟨v, rfl, hv⟩ := args1 hargs
  obtain ⟨b, hbx, rfl⟩ := mr_ptr_live hw (by simp [hB]) hv
  obtain ⟨⟨hl, htg⟩, cs, t, fz, hbk, hs, hf, hm⟩ := hw.ok p _ _ hB hbx
  obtain ⟨x, y, rfl⟩ := cells2 hs
  have hx := (hm 0 a x rfl rfl).1
  have hc0 : w.cell? ⟨b, 0, none⟩ = some x := by rw [World.cell?_of_heap hbk]; rfl
  rcases ha with rfl | rfl
  · obtain rfl := mr_v hx
    have ht : t = 76 := by
      rcases htg with h | ⟨_, cs', fz', h⟩
      · cases h
      · rw [hbk] at h; cases h; rfl
    subst ht
    refine (Tryd.cc_fresh b w hc0 (by simp [World.shape?, hbk]) (hf 0 (by simp))).mono fun e w' ⟨he, hw'⟩ => ?_
    subst hw'
    obtain ⟨e2, hw2⟩ := hw.storeSt (o := 0) hB hbx (m := .ptr p 0) (v := .pointer (some ⟨b, 0, none⟩)) ⟨.ptr hbx, rfl⟩ (by simp)
    exact ⟨_, Γ, _, _, n, he, hK, e2, hw2, hlt, .tup (by simp) fun i x y h => by simp at h⟩
  · obtain ⟨b', hb', rfl⟩ := mr_ptr_live hw (by simp [hB]) hx
    rw [hbx] at hb'; cases hb'
    refine (Tryd.cc_used b w hc0).mono fun e w' ⟨he, hw'⟩ => ?_
    subst hw'
    exact ⟨_, Γ, _, _, n, he, hK, Ext.refl _ _, hw.sameBox hB, hlt, .tup (by simp) fun i x y h => by simp at h⟩

/-- A builder at p whose bytes lie in the row q. -/
structure Bld (B : Bx) (p q : Nat) (l : List UInt8) : Prop where
  hB : ∃ a, B.get p = some (.st [a, .hsl q l.length] 76) ∧ (a = nilP ∨ a = .ptr p 0)
  hq : ∃ fz, B.get q = some (.ar fz 1 (pure2 (l.map byteD)) 5)

abbrev nilE : M := .d (.v .nilIface)
theorem ev_iface {env : Nat → M} : ev env (.const .nilIface) = nilE := rfl
theorem byte_row (l : List UInt8) (b : UInt8) : pure2 (l.map byteD) ++ [[M.d (.v (.int .u8 b.toNat))]] = pure2 ((l ++ [b]).map byteD) := by simp [pure2, byteD]
theorem wb {B : Bx} {p q n : Nat} {l : List UInt8} {x : Int} {b : UInt8} {K : KT} (h : Bld B p q l) (hx : x = b.toNat) (hpq : p ≠ q) (hl : l.length < 140737488355328)
    (hK : ∀ fz, B.get q = some (.ar fz 1 (pure2 (l.map byteD)) 5) → K nilE ((B.set p (.st [.ptr p 0, .hsl q (l ++ [b]).length] 76)).set q (.ar fz 1 (pure2 ((l ++ [b]).map byteD)) 5)) (bump n)) :
    AFn Tryd.prog 123 [.ptr p 0, .d (.v (.int .u8 x))] B n K := by
  subst hx
  obtain ⟨⟨a, hBp, ha⟩, fz, hq⟩ := h
  have hK := hK fz hq
  refine AFn.bump ?_
  (refine AFn.intro (prs := []) Tryd.func123 rfl rfl mix (by kernel_rfl) rfl (fun hB => ?_); simp only [Tryd.ntmps123, argUpd])
  have hqn := hB _ _ hq
  have hpn := hB _ _ hBp
  simp only [↓ru, rv, rl, ry, tyf, iM, bM, bsM, cond_true, cond_false, Nat.reduceLT, Nat.reduceBEq, Nat.reduceAdd, Nat.reduceEqDiff, Nat.reduceMul, Nat.reduceLeDiff, Nat.reduceSub, Nat.reduceDiv, Int.reduceLE, Int.reduceLT, Int.reduceNeg, Int.reduceAdd, Int.reduceSub, Int.reduceMul, Int.reduceToNat, Int.reducePow, Int.reduceEq, ne_eq, reduceIte, Bx.get_set]
  refine acall1_inl (cc hBp ha ?_)
  have g1 : (B.set p (.st [.ptr p 0, .hsl q l.length] 76)).get p = some (.st [.ptr p 0, .hsl q l.length] 76) := by rw [Bx.get_set, if_pos rfl, hBp]; rfl
  have g2 : (B.set p (.st [.ptr p 0, .hsl q l.length] 76)).get q = some (.ar fz 1 (pure2 (l.map byteD)) 5) := by rw [Bx.get_set, if_neg hpq]; exact hq
  generalize hB1 : B.set p (.st [.ptr p 0, .hsl q l.length] 76) = B1 at g1 g2 ⊢
  have e1 : ∀ j, (n + j = q) = False := fun j => by simp; omega
  have e2 : ∀ j, (n + j = p) = False := fun j => by simp; omega
  have e3 : (q = p) = False := by simp; omega
  have e4 : (p = q) = False := by simp; omega
  simp only [↓ru, rv, rl, ry, tyf, iM, bM, bsM, cond_true, cond_false, Nat.reduceLT, Nat.reduceBEq, Nat.reduceAdd, Nat.reduceEqDiff, Nat.reduceMul, Nat.reduceLeDiff, Nat.reduceSub, Nat.reduceDiv, Int.reduceLE, Int.reduceLT, Int.reduceNeg, Int.reduceAdd, Int.reduceSub, Int.reduceMul, Int.reduceToNat, Int.reducePow, Int.reduceEq, ne_eq, reduceIte, Bx.get_set, g1, g2, e1, e2, e3, e4, byte_row, ev_iface, aEnd_of (fn := Tryd.f123) (rs := [.tmp 4]) rfl]
  refine grd_intro (by simp [pure2]; omega) ?_
  refine ⟨_, fun r x hr => ?_, _, by unfold bump; omega, hK⟩
  have hrn : (n + 9 = r) = False := by
    rw [Bx.get_set, Bx.get_set] at hr
    have hs : ∃ y, B.get r = some y := by
      cases hg : B.get r with
      | some y => exact ⟨y, rfl⟩
      | none => rw [hg] at hr; simp at hr
    obtain ⟨y, hy⟩ := hs
    have := hB _ _ hy
    simp; omega
  rw [← hr]
  simp only [get_cons, hrn, if_false, Bx.get_set, ← hB1]
  by_cases h1 : p = r
  · subst h1; simp [hBp, e3]
  · by_cases h2 : q = r
    · subst h2; simp [hq, e4]
    · simp [h1, h2]
theorem ws {B : Bx} {p q n : Nat} {l s : List UInt8} {K : KT} (h : Bld B p q l) (hpq : p ≠ q) (hl : l.length + s.length ≤ 140737488355328)
    (hK : ∀ fz, B.get q = some (.ar fz 1 (pure2 (l.map byteD)) 5) → K (.tup [iM s.length, nilE]) ((B.set p (.st [.ptr p 0, .hsl q (l ++ s).length] 76)).set q (.ar fz 1 (pure2 ((l ++ s).map byteD)) 5)) (bump n)) :
    AFn Tryd.prog 58 [.ptr p 0, strM s] B n K := by
  obtain ⟨⟨a, hBp, ha⟩, fz, hq⟩ := h
  have hK := hK fz hq
  refine AFn.bump ?_
  (refine AFn.intro (prs := []) Tryd.func58 rfl rfl mix (by kernel_rfl) rfl (fun hB => ?_); simp only [Tryd.ntmps58, argUpd])
  have hqn := hB _ _ hq
  have hpn := hB _ _ hBp
  simp only [↓ru, rv, rl, ry, tyf, iM, bM, bsM, cond_true, cond_false, Nat.reduceLT, Nat.reduceBEq, Nat.reduceAdd, Nat.reduceEqDiff, Nat.reduceMul, Nat.reduceLeDiff, Nat.reduceSub, Nat.reduceDiv, Int.reduceLE, Int.reduceLT, Int.reduceNeg, Int.reduceAdd, Int.reduceSub, Int.reduceMul, Int.reduceToNat, Int.reducePow, Int.reduceEq, ne_eq, reduceIte, Bx.get_set]
  refine acall1_inl (cc hBp ha ?_)
  have g1 : (B.set p (.st [.ptr p 0, .hsl q l.length] 76)).get p = some (.st [.ptr p 0, .hsl q l.length] 76) := by rw [Bx.get_set, if_pos rfl, hBp]; rfl
  have g2 : (B.set p (.st [.ptr p 0, .hsl q l.length] 76)).get q = some (.ar fz 1 (pure2 (l.map byteD)) 5) := by rw [Bx.get_set, if_neg hpq]; exact hq
  generalize hB1 : B.set p (.st [.ptr p 0, .hsl q l.length] 76) = B1 at g1 g2 ⊢
  have e3 : (q = p) = False := by simp; omega
  have e4 : (p = q) = False := by simp; omega
  simp only [↓ru, rv, rl, ry, tyf, iM, bM, bsM, cond_true, cond_false, Nat.reduceLT, Nat.reduceBEq, Nat.reduceAdd, Nat.reduceEqDiff, Nat.reduceMul, Nat.reduceLeDiff, Nat.reduceSub, Nat.reduceDiv, Int.reduceLE, Int.reduceLT, Int.reduceNeg, Int.reduceAdd, Int.reduceSub, Int.reduceMul, Int.reduceToNat, Int.reducePow, Int.reduceEq, ne_eq, reduceIte, Bx.get_set, g1, g2, e3, e4, pure2_append, ← List.map_append, ev_iface, aEnd_of (fn := Tryd.f58) (rs := [.tmp 4, .tmp 5]) rfl]
  refine grd_intro (by simp [pure2]; omega) ?_
  refine ⟨_, fun r x hr => ?_, _, by unfold bump; omega, hK⟩
  rw [← hr]
  simp only [get_cons, Bx.get_set, ← hB1]
  by_cases h1 : p = r
  · subst h1; simp [hBp, e3]
  · by_cases h2 : q = r
    · subst h2; simp [hq, e4]
    · simp [h1, h2]
/-- A builder that holds nothing yet, and has no row. -/
theorem wb0 {B : Bx} {p n : Nat} {a : M} {x : Int} {b : UInt8} {K : KT} (hBp : B.get p = some (.st [a, .d (.v (.slice none 0 0))] 76)) (ha : a = nilP ∨ a = .ptr p 0) (hx : x = b.toNat) (hp : p ≠ n)
    (hK : K nilE ((Bx.set ((n, .ar false 1 [] 5) :: B.set p (.st [a, .hsl n 0] 76)) p (.st [.ptr p 0, .hsl n [b].length] 76)).set n (.ar false 1 (pure2 ([b].map byteD)) 5)) (bump (n + 1))) :
    AFn Tryd.prog 123 [.ptr p 0, .d (.v (.int .u8 x))] B n K := by
  have g2 : Bx.get ((n, .ar false 1 [] 5) :: B.set p (.st [a, .hsl n 0] 76)) n = some (.ar false 1 [] 5) := by rw [get_cons, if_pos rfl]
  have g1 : Bx.get ((n, .ar false 1 [] 5) :: B.set p (.st [a, .hsl n 0] 76)) p = some (.st [a, .hsl n 0] 76) := by
    rw [get_cons, if_neg (fun e => hp e.symm), Bx.get_set, if_pos rfl, hBp]; rfl
  refine AFn.thawBox (j := 1) 1 5 hBp rfl ?_
  refine wb (l := []) (q := n) ⟨⟨a, g1, ha⟩, false, g2⟩ hx hp (by simp) fun fz hfz => ?_
  have hfz' := g2.symm.trans hfz
  cases hfz'
  exact hK
/-- String: the row is let go. -/
theorem str {B : Bx} {p q n : Nat} {l : List UInt8} {K : KT} (h : Bld B p q l) (hlen : l.length ≤ 9223372036854775807) (hK : K (strM l) (B.drop q) n) : AFn Tryd.prog 60 [.ptr p 0] B n K := by
  obtain ⟨⟨a, hBp, ha⟩, fz, hq⟩ := h
  refine ⟨⟨_, Tryd.func60, rfl, rfl⟩, fun Γ w vs hb hw hlt hargs => ?_⟩
  obtain ⟨v, rfl, hv⟩ := args1 hargs
  obtain ⟨b, hbx, rfl⟩ := mr_ptr_live hw (by simp [hBp]) hv
  obtain ⟨_, cs, t, fz1, hbk, hs, hf, hm⟩ := hw.ok p _ _ hBp hbx
  obtain ⟨x, y, rfl⟩ := cells2 hs
  have hy := (hm 1 (.hsl q l.length) y rfl rfl).1
  have hll : (pure2 (l.map byteD)).length = l.length := by simp [pure2]
  have fin : ∀ g, ((∃ bi, Γ.box q = some bi ∧ bi.blk = some g) ∨ w.heap.size ≤ g) → ∀ e w', e = Ending.returned (.string ⟨l.toArray⟩) → Frz g w w' →
      ∃ cv Γ' m B' n', e = .returned cv ∧ K m B' n' ∧ Ext Γ w Γ' w' ∧ WR w' Γ' B' ∧ (∀ p, Γ'.used p → p < n') ∧ MR w' Γ' m cv := fun g hg e w' he hf => by
    obtain ⟨Γ', e1, e2, e3⟩ := hw.frz q g hg hf
    exact ⟨_, Γ', _, _, n, he, hK, e1, e2, fun p hp => hlt p (by rw [← e3]; exact hp), .d (.v _)⟩
  rcases mr_hsl_live hw hq hll hy with ⟨_, rfl, hz⟩ | ⟨g, off, cap, hbq, rfl, hcap⟩
  · have hl0 : l = [] := List.length_eq_zero_iff.1 hz
    subst hl0
    exact (Tryd.str_nil b x fz1 t w hbk).mono fun e w' ⟨he, hf⟩ => fin w.heap.size (.inr (Nat.le_refl _)) e w' he (hf _)
  · obtain ⟨_, h1, h2, h3, h3f, cs, t2, fz2, hg, hsz, hfr, hc⟩ := hw.ok q _ _ hq hbq
    by_cases hl0 : l = []
    · subst hl0
      by_cases hc0 : cap = 0
      · subst hc0
        exact (Tryd.str_noroom b g off x cs fz1 (fz2.1, fz2.1 + fz2.2) t t2 w hbk hg).mono fun e w' ⟨he, hf⟩ => fin w.heap.size (.inr (Nat.le_refl _)) e w' he (hf _)
      · exact (Tryd.str_room b g off cap x fz1 t w hc0 hbk).mono fun e w' ⟨he, hf⟩ => fin w.heap.size (.inr (Nat.le_refl _)) e w' he (hf _)
    · obtain ⟨h0, cs', fz', hg'⟩ : off = 0 ∧ ∃ (cs' : Array Value) (fz' : Nat × Nat), w.heap[g]? = some (.cells cs' 5 fz') := by
        rcases h3f.2 with h | h
        · cases h
        · exact h
      subst h0
      rw [hg] at hg'
      cases hg'
      have hcs : cap ≤ cs.size := by
        generalize l.length = nn at hy hbq
        cases hy with
        | hsl hb2 _ hs2 =>
          obtain ⟨cs2, e2, fz3, hg2, hle⟩ := hs2
          rw [hbq] at hb2; cases hb2
          rw [hg] at hg2; cases hg2
          omega
        | hslStale hb2 hn _ => rw [hbq] at hb2; cases hb2; omega
        | hslDead hb2 _ _ => rw [hbq] at hb2; cases hb2
      refine (Tryd.str_row b g cap l x cs fz1 (fz2.1, fz2.1 + fz2.2) t w hbk hg hcap hcs hlen hl0 fun j y hj => ?_).mono fun e w' ⟨he, hf⟩ => fin g (.inl ⟨_, hbq, rfl⟩) e w' he hf
      have hjl : j < l.length := (List.getElem?_eq_some_iff.1 hj).1
      obtain ⟨v, hv1, hv2⟩ := (box_row hw hq hbq).2 j 0 [M.d (.v (.int .u8 y.toNat))] _ (by rw [pure2_get, List.getElem?_map, hj]; rfl) rfl
      obtain rfl := mr_v hv2.1
      rw [show 0 + j * 1 + 0 = j by omega] at hv1
      exact hv1
/-- The same, with what is asked one by one. -/
theorem wbA {B : Bx} {p q n k : Nat} (l : List UInt8) {l' : List (List M)} {x : Int} {b : UInt8} {K : KT} {a : M} {fz : Bool} (hB : B.get p = some (.st [a, .hsl q k] 76)) (hk : k = l.length) (ha : a = nilP ∨ a = .ptr p 0)
    (hq : B.get q = some (.ar fz 1 l' 5)) (hl' : l' = pure2 (l.map byteD)) (hx : x = b.toNat) (hpq : p ≠ q) (hl : l.length < 140737488355328)
    (hK : K nilE ((B.set p (.st [.ptr p 0, .hsl q (l ++ [b]).length] 76)).set q (.ar fz 1 (pure2 ((l ++ [b]).map byteD)) 5)) (bump n)) :
    AFn Tryd.prog 123 [.ptr p 0, .d (.v (.int .u8 x))] B n K := by
  subst hl' hk
  refine wb (l := l) (q := q) ⟨⟨a, hB, ha⟩, fz, hq⟩ hx hpq hl fun fz' h => ?_
  rw [hq] at h
  cases h
  exact hK
theorem wsA {B : Bx} {p q n k : Nat} (l : List UInt8) {l' : List (List M)} {s : List UInt8} {K : KT} {a : M} {fz : Bool} (hB : B.get p = some (.st [a, .hsl q k] 76)) (hk : k = l.length) (ha : a = nilP ∨ a = .ptr p 0)
    (hq : B.get q = some (.ar fz 1 l' 5)) (hl' : l' = pure2 (l.map byteD)) (hpq : p ≠ q) (hl : l.length + s.length ≤ 140737488355328)
    (hK : K (.tup [iM s.length, nilE]) ((B.set p (.st [.ptr p 0, .hsl q (l ++ s).length] 76)).set q (.ar fz 1 (pure2 ((l ++ s).map byteD)) 5)) (bump n)) :
    AFn Tryd.prog 58 [.ptr p 0, strM s] B n K := by
  subst hl' hk
  refine ws (l := l) (q := q) ⟨⟨a, hB, ha⟩, fz, hq⟩ hpq hl fun fz' h => ?_
  rw [hq] at h
  cases h
  exact hK
theorem strA {B : Bx} {p q n k : Nat} (l : List UInt8) {l' : List (List M)} {K : KT} {a : M} {fz : Bool} (hB : B.get p = some (.st [a, .hsl q k] 76)) (hk : k = l.length) (ha : a = nilP ∨ a = .ptr p 0)
    (hq : B.get q = some (.ar fz 1 l' 5)) (hl' : l' = pure2 (l.map byteD)) (hl : l.length ≤ 9223372036854775807) (hK : K (strM l) (B.drop q) n) : AFn Tryd.prog 60 [.ptr p 0] B n K := by
  subst hl' hk
  exact str (l := l) (q := q) ⟨⟨a, hB, ha⟩, fz, hq⟩ hl hK
end Go.BU

import Derived.Test.YtmgfnlnomecbiaaDoorV19
import Derived.Test.YtmgfnlnomecbiaaDoorB3
set_option linter.all false
open Go.Proofs Go.Abs Go.Fa Go.BU Go.TX Go.TW Go.RowKit
namespace Go.SC
set_option maxHeartbeats 4000000
set_option maxRecDepth 10000
-- rules: byteD, dstr, un1_str, iD, bD

theorem join_joinSp : ∀ l : List (List UInt8), Lib.join l [32] = joinSp l
  | [] => rfl
  | [x] => by rw [Lib.join_one]; rfl
  | x :: y :: r => by
    have ih := join_joinSp (y :: r)
    rw [Lib.join_cons] at ih ⊢
    have hj : joinSp (x :: y :: r) = x ++ 32 :: joinSp (y :: r) := by simp [joinSp]
    rw [hj, ← ih]
    simp [Lib.joinTail]
theorem JoinS (l : List (List UInt8)) (h0 : l ≠ []) (hl : (joinSp l).length ≤ 1000000000) (hn : l.length ≤ 1000000000) : PFn Tryd.prog 59 [strsM l, strM [32]] (strM (joinSp l)) := by
  refine ⟨⟨_, Tryd.func59, rfl, rfl⟩, fun lim w vs hL ha => ?_⟩
  obtain ⟨v1, vs1, rfl, h1, h2⟩ := ha.cons_inv
  obtain ⟨v2, vs2, rfl, h3, h4⟩ := h2.cons_inv
  obtain rfl := List.length_eq_zero_iff.1 (by simpa using h4.1)
  obtain rfl := mr_v h3
  have key : ∀ (b off c : Nat), l.length ≤ c → b < w.heap.size → (∀ (j : Nat) x, l[j]? = some x → w.cell? ⟨b, off + j, none⟩ = some (.string ⟨x.toArray⟩)) →
      Calls Tryd.prog 59 #[.slice (some ⟨b, off, none⟩) l.length c, .string ⟨[32].toArray⟩] w fun e w' => ∃ cv lim', e = .returned cv ∧ Ext (pureG lim) w (pureG lim') w' ∧ MR w' (pureG lim') (strM (joinSp l)) cv := by
    intro b off c hc hb hcell
    have e1 : ((l.map fun x => (⟨x.toArray⟩ : ByteArray)).map (·.data.toList)) = l := by simp [Function.comp_def]
    have h := Tryd.strings_Join b off c (l.map fun x => ⟨x.toArray⟩) ⟨[32].toArray⟩ w (fun j x hx => by
      rw [List.getElem?_map] at hx
      cases hj : l[j]? with
      | none => rw [hj] at hx; cases hx
      | some y => rw [hj] at hx; cases hx; exact hcell j y hj) hb (by simp; omega) (by simpa using hc) (by rw [e1]; show (Lib.join l [32]).length ≤ _; rw [join_joinSp]; omega)
    rw [e1, List.length_map] at h
    refine h.mono fun e w' ⟨he, hw⟩ => ⟨_, lim, he, ext_of_below hw, ?_⟩
    show MR _ _ _ (.string ⟨(Lib.join l [32]).toArray⟩)
    rw [join_joinSp]
    exact .d (.v _)
  cases h1 with
  | d h1 =>
    generalize hrow : (l.map fun w => [strD w]) = rows at h1
    have hlen : rows.length = l.length := by rw [← hrow]; simp
    cases h1 with
    | slNil => simp at hlen; exact absurd hlen.symm (by simpa using h0)
    | slE sz a cap => simp at hlen; exact absurd hlen.symm (by simpa using h0)
    | sl sz l' b off cap g hsz hcap hlim hb hcell hrel hone =>
      have hpos : 0 < rows.length := by rw [hlen]; exact List.length_pos_iff.2 h0
      rw [hlen] at hcap ⊢
      refine key b off cap hcap (hb hpos) fun j x hx => ?_
      have hr : rows[j]? = some [strD x] := by rw [← hrow, List.getElem?_map, hx]; rfl
      have hc := hcell j 0 _ _ hr rfl
      have hd := hrel j 0 _ _ hr rfl
      have hv := mr_v (Γ := pureG lim) (.d hd)
      rw [hv] at hc
      simpa using hc
theorem plainA_id {a : Att} (h : attOK a = true) : plainA a = a := by
  obtain ⟨_, _, h⟩ := attOK_iff.1 h
  obtain ⟨lat, fault, pos, mask, ticks, val⟩ := a
  simp only at h
  rcases h with ⟨hf, rfl, rfl, rfl⟩ | ⟨rfl, _, _, _, rfl⟩ | ⟨rfl, rfl, rfl, _⟩ | ⟨rfl, _, rfl, _⟩
  · rcases hf with rfl | rfl | rfl | rfl <;> simp [plainA]
  · simp [plainA]
  · simp [plainA]
  · simp [plainA]
theorem plainF_id {s : Scr} (h : scrOK s = true) : plainF s = s := by
  simp only [scrOK, Bool.and_eq_true] at h
  obtain ⟨l, lp, c⟩ := s
  have : l.map plainA = l := by
    have h2 : ∀ a ∈ l, plainA a = a := fun a ha => plainA_id (List.all_eq_true.1 h.2 a ha)
    rw [List.map_congr_left h2]; exact List.map_id' l
  simp [plainF, this]
theorem par_ok {s : Scr} (h : scrOK s = true) : parF (scrTxt s) = (s, 0) := by
  rw [par_txt (scrOK_b h), plainF_id h, if_pos h]
end Go.SC

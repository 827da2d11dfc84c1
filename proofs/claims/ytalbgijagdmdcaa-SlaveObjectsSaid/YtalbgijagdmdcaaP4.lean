import Derived.Test.YtalbgijagdmdcaaS13
set_option linter.all false
open Go.Proofs Go.Abs Go.FaR2
namespace Go.R2
-- rules: intsM, intD, iD, bsD, bD, setM, setsM, Setg.cells, ranM, ransM, Ran.cells, tabM, slvM, slvsM, Slv.cells, objsM, Obj.cells, reqM, repM, byteD
set_option maxHeartbeats 4000000
set_option maxRecDepth 10000
/- Plain laws of slaves: what a slave answers is a reply to the request. -/
theorem rising_low : ∀ (l : List Obj) (p p' : Int), risingF l p = true → p' ≤ p → risingF l p' = true
  | [], _, _, _, _ => rfl
  | o :: l, p, p', h, hp => by
    rw [risingF, Bool.and_eq_true, decide_eq_true_eq] at h ⊢
    exact ⟨⟨by omega, h.1.2⟩, h.2⟩
theorem rising_sub {l' l : List Obj} (hs : l'.Sublist l) : ∀ (p : Int), risingF l p = true → risingF l' p = true := by
  induction hs with
  | slnil => intro p h; exact h
  | cons a _ ih =>
    intro p h
    rw [risingF, Bool.and_eq_true, decide_eq_true_eq] at h
    exact rising_low _ _ _ (ih _ h.2) (by omega)
  | cons_cons a _ ih =>
    intro p h
    rw [risingF, Bool.and_eq_true] at h ⊢
    exact ⟨h.1, ih _ h.2⟩
theorem rising_app : ∀ (a : List Obj) (o : Obj) (b : List Obj) (p : Int), risingF (a ++ o :: b) p = true → lastId a p < o.id ∧ o.id ≤ 255
  | [], o, b, p, h => by
    rw [List.nil_append, risingF, Bool.and_eq_true, decide_eq_true_eq] at h
    exact h.1
  | x :: a, o, b, p, h => by
    rw [List.cons_append, risingF, Bool.and_eq_true] at h
    exact rising_app a o b x.id h.2
theorem refF_match {q : Req} {e : Int} (hq : reqF q = true) (he : 1 ≤ e ∧ e ≤ 255) : matchF q (refF q e) = true := by
  have hk : knownF q.fn = true := by
    rcases reqF_kinds hq with ⟨h, _⟩ | h | ⟨h, _⟩
    · have := h.fn; simp [knownF]; omega
    · simp [knownF, h]
    · simp [knownF, h]
  have hv : validF (refF q e) = true := by
    rw [validF, if_pos (show knownF (refF q e).fn = true from hk), if_pos (show (refF q e).ex ≠ 0 from by show e ≠ 0; omega)]
    simp [refF, plainF]; omega
  rw [matchF, if_neg (by rw [hq, hv]; simp [refF]), if_pos (.inl (show (refF q e).ex ≠ 0 from by show e ≠ 0; omega))]
theorem dataF_len {q : Req} {v : Int} (hq : q.Tb) : ((dataF q v).length : Int) = if 3 ≤ q.fn then 2 * q.qty else (q.qty + 7) / 8 := by
  have := hq.qty
  unfold dataF
  split
  · rw [regs_len]; omega
  · rw [packB_len]; omega
theorem data_match {q : Req} {v : Int} (h : reqF q = true) (hq : q.Tb) (hl : q.qty ≤ limitF q.fn) : matchF q ⟨q.fn, 0, dataF q v, 0, 0, false, 0, []⟩ = true := by
  have hfn := hq.fn
  have hqt := hq.qty
  have hlen := dataF_len (v := v) hq
  have hlim : 3 ≤ q.fn → q.qty ≤ 125 := fun h3 => by
    unfold limitF at hl; rw [if_neg (by omega)] at hl; split at hl <;> omega
  have hb : 1 ≤ ((dataF q v).length : Int) ∧ ((dataF q v).length : Int) ≤ 250 := by
    rw [hlen]; split
    · rename_i h3; have := hlim h3; omega
    · omega
  have hv : validF ⟨q.fn, 0, dataF q v, 0, 0, false, 0, []⟩ = true := by
    rw [validF, if_pos (by simp [knownF]; omega), if_neg (by simp), if_neg (by simp only; omega), if_neg (by simp only; omega)]
    simp [plainF]; omega
  rw [matchF, if_neg (by rw [h, hv]; simp), if_neg (by simp only; omega), if_neg (by simp only; omega)]
  simp only
  split
  · rename_i h34
    rw [hlen, if_pos (by omega)]; simp
  · rename_i h34
    rw [hlen, if_neg (by omega)]
    by_cases h8 : q.qty % 8 = 0
    · simp [h8]
    · have hd : dataF q v = packB (bitAt q v) q.qty.toNat ((q.qty.toNat + 7) / 8) := by rw [dataF, if_neg (by omega)]
      have hz : lastB (dataF q v) / 2 ^ (q.qty % 8).toNat = 0 := by
        rw [lastB, hd, packB_len, packB_get _ _ _ _ (by omega), Option.getD_some]
        have e : min 8 (q.qty.toNat - 8 * ((q.qty.toNat + 7) / 8 - 1)) = (q.qty % 8).toNat := by omega
        rw [e]
        have hlt := bb_lt (bitAt q v) (8 * ((q.qty.toNat + 7) / 8 - 1)) (q.qty % 8).toNat
        have hp := Nat.pow_le_pow_right (show 0 < 2 by omega) (show (q.qty % 8).toNat ≤ 7 by omega)
        have e2 : ((UInt8.ofNat (bb (bitAt q v) (8 * ((q.qty.toNat + 7) / 8 - 1)) (q.qty % 8).toNat)).toNat : Int) = (bb (bitAt q v) (8 * ((q.qty.toNat + 7) / 8 - 1)) (q.qty % 8).toNat : Nat) := by
          simp only [UInt8.toNat_ofNat']; omega
        rw [e2]
        apply Int.ediv_eq_zero_of_lt (by omega)
        have : ((2 ^ (q.qty % 8).toNat : Nat) : Int) = 2 ^ (q.qty % 8).toNat := by simp
        omega
      simp [hz]
theorem readT_match {t : Tab} {q : Req} {v : Int} (h : reqF q = true) (hq : q.Tb) (hl : q.qty ≤ limitF q.fn) : matchF q (readT t q v) = true := by
  unfold readT
  split
  · exact refF_match h (by omega)
  · split
    · exact refF_match h (by omega)
    · split
      · exact refF_match h (by omega)
      · exact data_match h hq hl
theorem identF_match {s : Slv} {q : Req} (h : reqF q = true) (h43 : q.fn = 43) (hc : 1 ≤ q.code ∧ q.code ≤ 3) (hs : objsV s.level s.objs = true) : matchF q (identF s q) = true := by
  unfold identF
  split
  · exact refF_match h (by omega)
  · rename_i h0
    obtain ⟨ho1, ho2⟩ := objsV_parts hs
    have hlv : 1 ≤ s.level ∧ s.level ≤ 3 ∧ 3 ≤ s.objs.length := by
      rw [objsV, if_neg h0] at hs
      split at hs
      · cases hs
      · omega
    have hr : risingF s.objs (-1) = true := by
      rw [objs_ref ⟨hlv.1, hlv.2.1⟩ ⟨hlv.2.2, ho1⟩, Bool.and_eq_true] at hs
      exact hs.1
    rw [idl_eq, List.nil_append]
    have hf : risingF (fltF q s.objs) (-1) = true := rising_sub List.filter_sublist _ hr
    have hge : ∀ o, o ∈ fltF q s.objs → q.obj ≤ o.id := fun o ho => by
      have := (List.mem_filter.1 ho).2
      simp at this; exact this.1
    have hvl : ∀ o, o ∈ fltF q s.objs → o.val.length ≤ 64 := fun o ho => ho2 o (List.mem_filter.1 ho).1
    generalize fltF q s.objs = l at hf hge hvl
    by_cases hn : l = []
    · subst hn
      rw [identR, if_pos (by simp)]
      exact refF_match h (by omega)
    · have hk : 0 < fitG l 0 := by
        match l, hn, hvl with
        | o :: r, _, hvl =>
          have := hvl o (List.mem_cons_self ..)
          rw [fitG, if_neg (by omega)]; omega
      have hkl := fitG_le l 0
      have hsz : sizeF (l.take (fitG l 0)) 0 ≤ 246 := by
        have := fitG_size l 0 (fitG l 0) (by omega) hkl hvl
        omega
      generalize fitG l 0 = k at hk hkl hsz
      have hlen : (l.take k).length = k := by simp; omega
      have hft : risingF (l.take k) (-1) = true := rising_sub (List.take_sublist _ _) _ hf
      have hd := devObjs_eq (l.take k) (-1) 0 (by omega) (by omega)
      rw [if_pos ⟨hft, hsz⟩] at hd
      have hge' : ((l.take k).any fun o => decide (o.id < q.obj)) = false := by
        rw [List.any_eq_false]
        intro o ho
        have := hge o (List.mem_of_mem_take ho)
        simp; omega
      rw [identR, if_neg (by simp only [hlen]; omega)]
      have key : ∀ (more : Bool) (next : Int), 0 ≤ next → next ≤ 255 → (if more then decide (0 < (l.take k).length ∧ lastId (l.take k) (-1) < next) else decide (next = 0)) = true →
          matchF q ⟨q.fn, 0, [], q.code, s.level, more, next, l.take k⟩ = true := by
        intro more next hn0 hn1 hm
        have hv : validF ⟨q.fn, 0, [], q.code, s.level, more, next, l.take k⟩ = true := by
          rw [validF, if_pos (by simp [knownF, h43]), if_neg (by simp), if_pos h43, devF]
          simp only [hd]
          rw [if_neg (by rw [if_neg (by omega)]; simp; omega)]
          exact hm
        rw [matchF, if_neg (by rw [h, hv]; simp), if_neg (by simp only; omega), if_pos h43]
        simp [hge']
      simp only
      by_cases hkk : k < l.length
      · obtain ⟨o, ho⟩ := get_of_lt (l := l) (i := k) hkk
        rw [ho]
        have happ : l = l.take k ++ o :: l.drop (k + 1) := by rw [← List.drop_of_get ho, List.take_append_drop]
        have hr2 := rising_app (l.take k) o (l.drop (k + 1)) (-1) (by rw [← happ]; exact hf)
        have hl0 := (rising_last (l.take k) (-1) hft).1
        refine key true o.id ?_ hr2.2 ?_
        · omega
        · simp [hlen, hr2.1]; omega
      · rw [List.getElem?_eq_none (by omega)]
        exact key false 0 (by omega) (by omega) (by simp)
theorem ansF_match {s : Slv} {q : Req} {v : Int} (h1 : slvF s = true) (h2 : reqF q = true) (h3 : possF v = true) : matchF q (ansF s q v) = true := by
  obtain ⟨ho, hs⟩ := slvF_parts h1
  rw [ansF, if_neg (by simp [h1, h2, h3])]
  rcases reqF_kinds h2 with ⟨hq, hl, _⟩ | h17 | ⟨h43, hc1, hc2, _⟩
  · have := hq.fn
    rw [if_neg (by omega), if_pos (by omega)]
    exact readT_match h2 hq hl
  · rw [if_neg (by omega), if_neg (by omega)]
    split
    · exact refF_match h2 (by omega)
    · rename_i hh
      have hsrv : srvF s = true := by
        simp only [slvF, Bool.and_eq_true] at h1
        exact h1.2.2.2.2.2.2.2
      have hh' : s.has = true := by simpa using hh
      rw [srvF, if_pos hh'] at hsrv
      have hsrv := of_decide_eq_true hsrv
      have hv : validF ⟨17, 0, s.server, 0, 0, false, 0, []⟩ = true := by
        rw [validF, if_pos (by simp [knownF]), if_neg (by simp), if_neg (by simp), if_pos rfl]
        simp [plainF]; omega
      rw [matchF, if_neg (by rw [h2, hv]; simp [h17]), if_pos (.inr rfl)]
  · rw [if_pos h43]
    exact identF_match h2 h43 ⟨hc1, hc2⟩ ho
theorem match_valid {q : Req} {r : Rep} (h : matchF q r = true) : validF r = true := by
  unfold matchF at h
  split at h
  · cases h
  · rename_i hn
    cases hv : validF r with
    | true => rfl
    | false => exact absurd (.inr (.inl hv)) hn
theorem ansF_ok (s : Slv) (q : Req) (v : Int) (h : s.Wf) : (ansF s q v).OK ∧ (ansF s q v).objs.length ≤ 1000000 ∧ (ansF s q v).data.length ≤ 1000000 := by
  unfold ansF
  split
  · exact ⟨⟨by simp [rep0], by simp [rep0]⟩, by simp [rep0], by simp [rep0]⟩
  · rename_i hn
    have h1 : slvF s = true := by cases hh : slvF s with
      | true => rfl
      | false => exact absurd (.inl hh) hn
    have h2 : reqF q = true := by cases hh : reqF q with
      | true => rfl
      | false => exact absurd (.inr (.inl hh)) hn
    have href : ∀ e, (refF q e).OK ∧ (refF q e).objs.length ≤ 1000000 ∧ (refF q e).data.length ≤ 1000000 := fun e => ⟨⟨by simp [refF], by simp [refF]⟩, by simp [refF], by simp [refF]⟩
    obtain ⟨ho, hs⟩ := slvF_parts h1
    obtain ⟨ho1, ho2⟩ := objsV_parts ho
    split
    · unfold identF
      split
      · exact href 1
      · rename_i h0
        have hlv : 1 ≤ s.level ∧ s.level ≤ 3 := by
          rw [objsV, if_neg h0] at ho
          split at ho
          · cases ho
          · omega
        rw [idl_eq, identR]
        split
        · exact href 2
        · have hle : (fltF q s.objs).length ≤ s.objs.length := List.length_filter_le _ _
          refine ⟨⟨?_, by simp only; omega⟩, ?_, by simp⟩ <;> simp only [List.nil_append, List.length_take] <;> omega
    · split
      · unfold readT
        split
        · exact href 1
        · split
          · exact href 3
          · split
            · exact href 2
            · rcases reqF_kinds h2 with ⟨hq, _⟩ | h17 | ⟨h43, _⟩
              · have hdl := dataF_len (v := v) hq
                have := hq.qty
                refine ⟨⟨by simp, by simp⟩, by simp, ?_⟩
                show (dataF q v).length ≤ 1000000
                split at hdl <;> omega
              · omega
              · omega
      · split
        · exact href 1
        · exact ⟨⟨by simp, by simp⟩, by simp, by show s.server.length ≤ _; omega⟩
end Go.R2

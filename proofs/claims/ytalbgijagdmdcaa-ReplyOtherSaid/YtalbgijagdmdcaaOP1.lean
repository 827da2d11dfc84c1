import Derived.Test.YtalbgijagdmdcaaOR10
set_option linter.all false
open Go.Proofs Go.Abs Go.FaR2
namespace Go.R2
/- Plain laws of replies: what is encoded decodes to itself, and the other way round; a PDU says itself where it ends. -/

theorem u8_nat (b : UInt8) : u8 (b.toNat : Int) = b := by
  have := b.toNat_lt
  unfold u8
  rw [show ((b.toNat : Int) % 256).toNat = b.toNat by omega]
  simp
theorem u8_nat' (x : Int) (h : 0 ≤ x ∧ x ≤ 255) : ((u8 x).toNat : Int) = x := by
  rw [u8_toNat]; omega

theorem decObjs_inv : ∀ (n : Nat) (rest : List UInt8) (acc l : List Obj) (r : List UInt8), decObjs n rest acc = some (l, r) → ∃ m, l = acc ++ m ∧ m.length = n ∧ rest = encObjs m ++ r
  | 0, rest, acc, l, r, h => by
    simp only [decObjs, Option.some.injEq, Prod.mk.injEq] at h
    obtain ⟨rfl, rfl⟩ := h
    exact ⟨[], by simp, rfl, by simp [encObjs]⟩
  | n + 1, a :: c :: x, acc, l, r, h => by
    rw [decObjs] at h
    split at h
    · cases h
    · rename_i hl
      obtain ⟨m, rfl, hm, hx⟩ := decObjs_inv n _ _ _ _ h
      refine ⟨⟨a.toNat, x.take c.toNat⟩ :: m, by simp, by simp [hm], ?_⟩
      have e1 : (x.take c.toNat).length = c.toNat := by simp; omega
      rw [encObjs, List.flatMap_cons]
      simp only
      rw [u8_nat, e1, u8_nat]
      have : x = x.take c.toNat ++ (encObjs m ++ r) := by rw [← hx, List.take_append_drop]
      simp only [List.cons_append, List.append_assoc, List.cons.injEq, true_and]
      exact this
  | _ + 1, [], _, _, _, h => by simp [decObjs] at h
  | _ + 1, [_], _, _, _, h => by simp [decObjs] at h

theorem decObjs_enc : ∀ (m : List Obj) (r : List UInt8) (acc : List Obj), (∀ o, o ∈ m → 0 ≤ o.id ∧ o.id ≤ 255 ∧ o.val.length ≤ 255) → decObjs m.length (encObjs m ++ r) acc = some (acc ++ m, r)
  | [], r, acc, h => by simp [encObjs, decObjs]
  | o :: m, r, acc, h => by
    obtain ⟨h1, h2, h3⟩ := h o (List.mem_cons_self ..)
    have e : (u8 (o.val.length : Int)).toNat = o.val.length := by
      have := u8_nat' (o.val.length : Int) (by omega)
      omega
    rw [encObjs, List.flatMap_cons, List.length_cons]
    simp only [List.cons_append, List.append_assoc]
    rw [decObjs, if_neg (by rw [e]; simp), e, u8_nat' o.id ⟨h1, h2⟩]
    rw [show (o.val ++ (List.flatMap (fun o => u8 o.id :: u8 (o.val.length : Int) :: o.val) m ++ r)).drop o.val.length = encObjs m ++ r by rw [List.drop_left' rfl]; rfl]
    rw [List.take_left' rfl, decObjs_enc m r _ fun o h' => h o (List.mem_cons_of_mem _ h')]
    simp

theorem decObjs_more : ∀ (n : Nat) (rest y : List UInt8) (acc l : List Obj) (r : List UInt8), decObjs n rest acc = some (l, r) → decObjs n (rest ++ y) acc = some (l, r ++ y)
  | 0, rest, y, acc, l, r, h => by
    simp only [decObjs, Option.some.injEq, Prod.mk.injEq] at h ⊢
    obtain ⟨rfl, rfl⟩ := h
    exact ⟨rfl, rfl⟩
  | n + 1, a :: c :: x, y, acc, l, r, h => by
    rw [decObjs] at h
    split at h
    · cases h
    · rename_i hl
      rw [List.cons_append, List.cons_append, decObjs, if_neg (by simp; omega), List.drop_append_of_le_length (by omega), List.take_append_of_le_length (by omega)]
      exact decObjs_more n _ y _ _ _ h
  | _ + 1, [], _, _, _, _, h => by simp [decObjs] at h
  | _ + 1, [_], _, _, _, _, h => by simp [decObjs] at h

theorem devObjs_in : ∀ (l : List Obj) (last size x : Int), -1 ≤ last → 0 ≤ size → devObjs l last size = some x → ∀ o, o ∈ l → 0 ≤ o.id ∧ o.id ≤ 255 ∧ o.val.length ≤ 255
  | [], _, _, _, _, _, _, o, ho => by simp at ho
  | a :: l, last, size, x, h0, h1, h, o, ho => by
    simp only [devObjs] at h
    split at h
    · cases h
    · rcases List.mem_cons.1 ho with rfl | ho
      · omega
      · exact devObjs_in l a.id _ x (by omega) (by omega) h o ho

theorem known_cases' {f : Int} (h : knownF f = true) : (1 ≤ f ∧ f ≤ 4) ∨ f = 17 ∨ f = 43 := by simpa [knownF] using h
theorem plainF_eq {r : Rep} (h : plainF r = true) : r.code = 0 ∧ r.level = 0 ∧ r.more = false ∧ r.next = 0 ∧ r.objs = [] := by simpa [plainF] using h

theorem devF_parts {r : Rep} (h : devF r = true) : r.data.length = 0 ∧ 1 ≤ r.code ∧ r.code ≤ 3 ∧ 1 ≤ r.level ∧ r.level ≤ 131 ∧ 0 ≤ r.next ∧ r.next ≤ 255 ∧ ∃ x, devObjs r.objs (-1) 0 = some x := by
  unfold devF at h
  simp only at h
  generalize hlv : (if 128 < r.level then r.level - 128 else r.level) = lv at h
  split at h
  · cases h
  · rename_i hn
    cases hd : devObjs r.objs (-1) 0 with
    | none => rw [hd] at h; cases h
    | some x =>
      have : 1 ≤ r.level ∧ r.level ≤ 131 := by split at hlv <;> omega
      exact ⟨by omega, by omega, by omega, this.1, this.2, by omega, by omega, x, rfl⟩
/-- A valid reply is of one of three kinds. -/
theorem valid_kinds {r : Rep} (h : validF r = true) :
    (∃ f e : Int, r = excRep f e ∧ knownF f = true ∧ 1 ≤ e ∧ e ≤ 255) ∨ (∃ (f : Int) (d : List UInt8), r = dataRep f d ∧ knownF f = true ∧ f ≠ 43 ∧ 1 ≤ d.length ∧ d.length ≤ 251) ∨
      (r.fn = 43 ∧ r.ex = 0 ∧ r.data = [] ∧ devF r = true ∧ 1 ≤ r.code ∧ r.code ≤ 3 ∧ 1 ≤ r.level ∧ r.level ≤ 131 ∧ 0 ≤ r.next ∧ r.next ≤ 255 ∧ (∀ o, o ∈ r.objs → 0 ≤ o.id ∧ o.id ≤ 255 ∧ o.val.length ≤ 255)) := by
  obtain ⟨fn, ex, data, code, level, more, next, objs⟩ := r
  unfold validF at h
  split at h
  · rename_i hk
    split at h
    · simp only [Bool.and_eq_true, decide_eq_true_eq] at h
      obtain ⟨⟨h1, h2, h3⟩, hp⟩ := h
      obtain ⟨p1, p2, p3, p4, p5⟩ := plainF_eq hp
      simp only at p1 p2 p3 p4 p5 h1 h2 h3
      subst p1; subst p2; subst p3; subst p4; subst p5
      have := List.eq_nil_of_length_eq_zero h3
      subst this
      exact .inl ⟨fn, ex, rfl, hk, h1, h2⟩
    · rename_i hex
      simp only [ne_eq, Decidable.not_not] at hex
      subst hex
      split at h
      · rename_i hf
        simp only at hf
        subst hf
        obtain ⟨h1, h2, h3, h4, h5, h6, h7, x, h8⟩ := devF_parts h
        exact .inr (.inr ⟨rfl, rfl, List.eq_nil_of_length_eq_zero h1, h, h2, h3, h4, h5, h6, h7, devObjs_in objs (-1) 0 x (by omega) (by omega) h8⟩)
      · rename_i hf
        split at h
        · simp only [Bool.and_eq_true, decide_eq_true_eq] at h
          obtain ⟨⟨h1, h2⟩, hp⟩ := h
          obtain ⟨p1, p2, p3, p4, p5⟩ := plainF_eq hp
          simp only at p1 p2 p3 p4 p5 h1 h2
          subst p1; subst p2; subst p3; subst p4; subst p5
          exact .inr (.inl ⟨fn, data, rfl, hk, hf, by omega, by omega⟩)
        · simp only [Bool.and_eq_true, decide_eq_true_eq] at h
          obtain ⟨⟨h1, h2⟩, hp⟩ := h
          obtain ⟨p1, p2, p3, p4, p5⟩ := plainF_eq hp
          simp only at p1 p2 p3 p4 p5 h1 h2
          subst p1; subst p2; subst p3; subst p4; subst p5
          exact .inr (.inl ⟨fn, data, rfl, hk, hf, by omega, by omega⟩)
  · cases h

theorem known_no {f : Int} (h : knownF f = true) : knownF (f - 128) = false ∧ knownF (f + 128) = false := by
  have := known_cases' h
  simp only [knownF, decide_eq_false_iff_not]
  constructor <;> omega

/-- What is encoded decodes to itself. -/
theorem dec_enc {r : Rep} (h : validF r = true) : decF (encF r) = (r, 0) ∧ (encF r).length ≤ 253 ∧ 2 ≤ (encF r).length := by
  rcases valid_kinds h with ⟨f, e, rfl, hk, he1, he2⟩ | ⟨f, d, rfl, hk, hf, hd1, hd2⟩ | ⟨hfn, hex, hdata, hdev, hc1, hc2, hl1, hl2, hn1, hn2, ho⟩
  · have hkc := known_cases' hk
    have e1 : encF (excRep f e) = [u8 (f + 128), u8 e] := by
      rw [encF, if_pos (by simp [excRep]; omega)]; rfl
    rw [e1]
    refine ⟨?_, by simp, by simp⟩
    have e2 : ((u8 (f + 128)).toNat : Int) = f + 128 := u8_nat' _ (by omega)
    have e3 : ((u8 e).toNat : Int) = e := u8_nat' _ (by omega)
    rw [decF, e2, e3, if_neg (by simp), show f + 128 - 128 = f by omega, hk, if_pos rfl, if_neg (by simp), if_neg (by omega)]
  · have hkc := known_cases' hk
    have e1 : encF (dataRep f d) = u8 f :: u8 d.length :: d := by
      rw [encF, if_neg (by simp [dataRep]), if_pos (by simpa [dataRep] using hf)]; rfl
    rw [e1]
    refine ⟨?_, by simp; omega, by simp⟩
    have e2 : ((u8 f).toNat : Int) = f := u8_nat' _ (by omega)
    have e3 : ((u8 (d.length : Int)).toNat : Int) = d.length := u8_nat' _ (by omega)
    rw [decF, e2, e3, if_neg (by omega), (known_no hk).1, hk, if_neg (by simp), if_pos rfl, if_neg hf, if_neg (by simp), h, if_pos rfl]
  · have hlen := validF_dev h hex hfn
    have hol := objs_len_enc r.objs
    have e1 : encF r = encHead r ++ encObjs r.objs := by
      rw [encF, if_neg (by simp [hex]), if_neg (by simp [hfn])]
    rw [e1]
    refine ⟨?_, by simp [encHead]; omega, by simp [encHead]⟩
    have ec : ((u8 r.code).toNat : Int) = r.code := u8_nat' _ (by omega)
    have el : ((u8 r.level).toNat : Int) = r.level := u8_nat' _ (by omega)
    have en : ((u8 r.next).toNat : Int) = r.next := u8_nat' _ (by omega)
    have ek : (u8 (r.objs.length : Int)).toNat = r.objs.length := by
      have := u8_nat' (r.objs.length : Int) (by omega); omega
    have hd := decObjs_enc r.objs [] [] ho
    rw [List.append_nil, List.nil_append] at hd
    have hdec : devDec (encHead r ++ encObjs r.objs) = (r, 0) := by
      simp only [encHead, List.cons_append, List.nil_append]
      rw [devDec, if_neg (by decide), ek, hd]
      simp only
      have er : devRep (u8 r.code) (u8 r.level) (if r.more then 255 else 0) (u8 r.next) r.objs = r := by
        unfold devRep
        rw [ec, el, en]
        obtain ⟨fn, ex, data, code, level, more, next, objs⟩ := r
        simp only at hfn hex hdata
        subst hfn; subst hex; subst hdata
        cases more <;> simp
      rw [er, if_neg (by simp), if_neg]
      rintro (h' | h')
      · rw [h] at h'; cases h'
      · cases hm : r.more <;> rw [hm] at h' <;> simp at h'
    simp only [encHead, List.cons_append, List.nil_append] at hdec ⊢
    rw [decF, if_neg (by simp; omega), if_neg (by decide), if_pos (by decide), if_pos (by decide)]
    exact hdec

/-- What decodes is what encodes. -/
theorem enc_dec {b : List UInt8} {r : Rep} (h : decF b = (r, 0)) : validF r = true ∧ encF r = b := by
  match b, h with
  | b0 :: b1 :: rest, h =>
    have hb0 := b0.toNat_lt
    have hb1 := b1.toNat_lt
    rw [decF] at h
    split at h
    · simp at h
    · split at h
      · rename_i hk
        split at h
        · simp at h
        · rename_i hr
          split at h
          · simp at h
          · rename_i h0
            simp only [Prod.mk.injEq, and_true] at h
            subst h
            have hr : rest = [] := List.eq_nil_of_length_eq_zero (by omega)
            subst hr
            constructor
            · have hx : (excRep ((b0.toNat : Int) - 128) b1.toNat).ex ≠ 0 := h0
              have hk' : knownF (excRep ((b0.toNat : Int) - 128) b1.toNat).fn = true := hk
              rw [validF, if_pos hk', if_pos hx]
              simp [plainF, excRep]
              omega
            · rw [encF, if_pos (by simp [excRep]; omega)]
              simp only [excRep]
              rw [show (b0.toNat : Int) - 128 + 128 = b0.toNat by omega, u8_nat, u8_nat]
      · split at h
        · rename_i hk
          split at h
          · rename_i h43
            match rest, h with
            | b2 :: b3 :: b4 :: b5 :: b6 :: rs, h =>
              rw [devDec] at h
              split at h
              · simp at h
              · rename_i h14
                split at h
                · simp at h
                · rename_i l rr hd
                  split at h
                  · simp at h
                  · rename_i hrl
                    split at h
                    · simp at h
                    · rename_i hv
                      simp only [Prod.mk.injEq, and_true] at h
                      subst h
                      have hrr : rr = [] := List.eq_nil_of_length_eq_zero (by omega)
                      subst hrr
                      obtain ⟨m, hl, hm, hrs⟩ := decObjs_inv _ _ _ _ _ hd
                      rw [List.nil_append] at hl
                      subst hl
                      rw [List.append_nil] at hrs
                      subst hrs
                      have hv1 : validF (devRep b2 b3 b4 b5 l) = true := by
                        cases hvv : validF (devRep b2 b3 b4 b5 l) with
                        | true => rfl
                        | false => exact absurd (.inl hvv) hv
                      refine ⟨hv1, ?_⟩
                      have e0 : b0 = 43 := by
                        have : b0.toNat = 43 := by omega
                        exact UInt8.toNat_inj.1 this
                      have e1 : b1 = 14 := by
                        have : b1.toNat = 14 := by omega
                        exact UInt8.toNat_inj.1 this
                      have e4 : (if decide ((b4.toNat : Int) = 255) = true then (255 : UInt8) else 0) = b4 := by
                        by_cases h255 : (b4.toNat : Int) = 255
                        · rw [if_pos (by simpa using h255)]
                          exact (UInt8.toNat_inj.1 (show b4.toNat = 255 by omega)).symm
                        · rw [if_neg (by simpa using h255)]
                          have : ¬ ((b4.toNat : Int) ≠ 0 ∧ (b4.toNat : Int) ≠ 255) := fun h' => hv (.inr h')
                          exact (UInt8.toNat_inj.1 (show b4.toNat = 0 by omega)).symm
                      rw [encF, if_neg (by simp [devRep]), if_neg (by simp [devRep])]
                      have e5 : (if (devRep b2 b3 b4 b5 l).more = true then (255 : UInt8) else 0) = b4 := e4
                      have hh : encHead (devRep b2 b3 b4 b5 l) = [43, 14, b2, b3, b4, b5, b6] := by
                        unfold encHead
                        rw [e5]
                        simp only [devRep, u8_nat, hm]
                      rw [hh, e0, e1]
                      rfl
            | [], h => simp [devDec] at h
            | [_], h => simp [devDec] at h
            | [_, _], h => simp [devDec] at h
            | [_, _, _], h => simp [devDec] at h
            | [_, _, _, _], h => simp [devDec] at h
          · rename_i h43
            split at h
            · simp at h
            · rename_i hc
              split at h
              · rename_i hv
                simp only [Prod.mk.injEq, and_true] at h
                subst h
                refine ⟨hv, ?_⟩
                rw [encF, if_neg (by simp [dataRep]), if_pos (by simpa [dataRep] using h43)]
                simp only [dataRep]
                rw [u8_nat, show (rest.length : Int) = (b1.toNat : Int) by omega, u8_nat]
              · simp at h
        · simp at h
  | [], h => simp [decF] at h
  | [_], h => simp [decF] at h

/-- A PDU says itself where it ends. -/
theorem dec_ends {x y : List UInt8} {r r' : Rep} (h : decF x = (r, 0)) (h' : decF (x ++ y) = (r', 0)) : y = [] := by
  obtain ⟨hv, rfl⟩ := enc_dec h
  obtain ⟨hv', he'⟩ := enc_dec h'
  have hlen := congrArg List.length he'
  rw [List.length_append] at hlen
  refine List.eq_nil_of_length_eq_zero ?_
  rcases valid_kinds hv with ⟨f, e, rfl, hk, he1, he2⟩ | ⟨f, d, rfl, hk, hf, hd1, hd2⟩ | ⟨hfn, hex, hdata, hdev, hc1, hc2, hl1, hl2, hn1, hn2, ho⟩
  · have hkc := known_cases' hk
    have e1 : encF (excRep f e) = [u8 (f + 128), u8 e] := by
      rw [encF, if_pos (by simp [excRep]; omega)]; rfl
    rw [e1] at h'
    have e2 : ((u8 (f + 128)).toNat : Int) = f + 128 := u8_nat' _ (by omega)
    simp only [List.cons_append, List.nil_append] at h'
    rw [decF, e2, show f + 128 - 128 = f by omega, hk] at h'
    split at h'
    · simp at h'
    · rw [if_pos rfl] at h'
      split at h'
      · simp at h'
      · omega
  · have hkc := known_cases' hk
    have e1 : encF (dataRep f d) = u8 f :: u8 d.length :: d := by
      rw [encF, if_neg (by simp [dataRep]), if_pos (by simpa [dataRep] using hf)]; rfl
    rw [e1] at h'
    have e2 : ((u8 f).toNat : Int) = f := u8_nat' _ (by omega)
    have e3 : ((u8 (d.length : Int)).toNat : Int) = d.length := u8_nat' _ (by omega)
    simp only [List.cons_append] at h'
    rw [decF, e2, e3, (known_no hk).1, hk] at h'
    split at h'
    · simp at h'
    · rw [if_neg (by simp), if_pos rfl] at h'
      split at h'
      · simp at h'
      · rename_i hc
        rw [List.length_append] at hc
        omega
  · have e1 : encF r = encHead r ++ encObjs r.objs := by
      rw [encF, if_neg (by simp [hex]), if_neg (by simp [hfn])]
    have hol := objs_len_enc r.objs
    have hlen := validF_dev hv hex hfn
    rw [e1] at h'
    have ek : (u8 (r.objs.length : Int)).toNat = r.objs.length := by
      have := u8_nat' (r.objs.length : Int) (by omega); omega
    have hd := decObjs_more _ _ y _ _ _ (decObjs_enc r.objs [] [] ho)
    rw [List.append_nil, List.nil_append, List.nil_append] at hd
    simp only [encHead, List.cons_append, List.nil_append] at h'
    generalize (if r.more = true then (255 : UInt8) else 0) = b4 at h'
    rw [decF] at h'
    split at h'
    · simp at h'
    · rw [if_neg (by decide), if_pos (by decide), if_pos (by decide), devDec, if_neg (by decide), ek, hd] at h'
      simp only at h'
      split at h'
      · simp at h'
      · omega
end Go.R2

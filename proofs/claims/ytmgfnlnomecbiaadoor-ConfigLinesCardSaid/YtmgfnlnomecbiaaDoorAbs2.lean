import Derived.Test.YtmgfnlnomecbiaaDoorAbs1
import Derived.Laws.IdiomCopy
import Derived.Orders
set_option linter.all false
/- The abstract layer, part K: append, conversions, slice expressions, literals, make. -/
namespace Go.Abs

section
variable {P : Program} {w : World} {Γ : G} {B : Bx} {id : Nat} {K : K2}

theorem good_append {ts : List TypeId} {ty : TypeId} {x y : M} {xv yv : Value} (hx : MR w Γ x xv) (hy : MR w Γ y yv) (hw : WR w Γ B) (hid : ¬ Γ.used id) (h : aAppend P ts x y B id K) :
    Good Γ w id ((do pure (.value (← Builtin.append_ ts.toArray ty #[xv, yv])) : Sem Next).run P w) K := by
  unfold aAppend at h
  split at h
  · rename_i t u
    split at h
    · rename_i e ht
      split at h
      · rename_i sz by' z h1 h2 h3
        split at h
        · rename_i l2 ha
          obtain ⟨⟨hby, hsz, hz, hu⟩, h⟩ := h
          split at h
          · rename_i p k
            split at h
            · rename_i fz s l tg hB
              obtain ⟨⟨rfl, rfl, hroom, htg⟩, h⟩ := h
              obtain ⟨cv, w', Γ', hr, e1, e2, e3, e4⟩ := good_append_box (ty := ty) hw ht htg h1 h2 h3 hby hz hu hB hx hy ha hroom
              exact .new (by simp [hr]) h e1 e2 (fun p hp => .inr (by rw [← e3]; exact hp)) e4
            · exact h.elim
          · obtain ⟨hroom, h⟩ := h
            obtain rfl := mr_v hx
            obtain ⟨f1, f2, f3⟩ := hw.thaw id hid sz
            have hB : Bx.get ((id, .ar false sz []) :: B) id = some (.ar false sz []) := by simp [Bx.get_cons]
            have ha' : appL ((id, .ar false sz []) :: B) sz y = some l2 := by
              unfold appL at ha ⊢
              split at ha
              · exact ha
              · exact ha
              · exact ha
              · rename_i p n
                split at ha
                · rename_i fz' s' l' tg' hB'
                  have hne : id ≠ p := fun e => by
                    have := hw.getnlt hid
                    rw [e, hB'] at this; cases this
                  simp only [Bx.get_cons, if_neg hne, hB']
                  exact ha
                · cases ha
              · cases ha
            obtain ⟨cv, w', Γ', hr, e1, e2, e3, e4⟩ := good_append_box (ty := ty) f2 ht (.inl rfl) h1 h2 h3 hby hz hu hB f3 (hy.ext f1 hw.lt) ha' (by simpa using hroom)
            have hset : Bx.set ((id, .ar false sz []) :: B) id (.ar false sz ([] ++ l2)) = (id, .ar false sz l2) :: B := by
              have : Bx.set B id (.ar false sz l2) = B := by
                unfold Bx.set
                conv => rhs; rw [← List.map_id B]
                apply List.map_congr_left
                intro y hy
                have : y.1 ≠ id := fun e => by
                  have hn := hw.getnlt hid
                  have : (B.find? fun x => x.1 == id).isSome = true := by
                    rw [List.find?_isSome]
                    exact ⟨y, hy, by simpa using e⟩
                  unfold Bx.get at hn
                  cases hh : B.find? (fun x => x.1 == id) with
                  | none => rw [hh] at this; cases this
                  | some q => rw [hh] at hn; cases hn
                simp [this]
              simp only [List.nil_append]
              show (if id = id then (id, _) else _) :: Bx.set B id _ = _
              rw [if_pos rfl, this]
            rw [hset] at e2
            simp only [List.length_nil, Nat.zero_add] at e4
            exact .new (by simp [hr]) h (f1.trans e1) e2 (fun p hp => by rw [e3] at hp; exact hp) e4
          · exact h.elim
        · exact h.elim
      · exact h.elim
    · exact h.elim
  · exact h.elim

theorem World.freeze_new (w : World) (c : Array Value) (e : TypeId) : (w.alloc (.cells c e)).freeze ⟨w.heap.size, c.size, none⟩ 1 = w.alloc (.cells c e (c.size, c.size + 1)) := by
  simp only [World.freeze, World.alloc]
  simp only [show (1 : Nat) ≠ 0 by decide, if_false]
  congr 1
  apply Array.ext_getElem?
  intro k
  rw [Array.getElem?_modify]
  by_cases hk : k = w.heap.size
  · subst hk; simp
  · rw [if_neg (fun h => hk h.symm)]
    simp only [Array.getElem?_push, if_neg hk]

theorem bytesOf_some : ∀ {l : List (List D)} {bs : List UInt8}, bytesOf l = some bs → l.length = bs.length ∧ ∀ (i : Nat) (c : List D), l[i]? = some c → ∃ n : Int, c = [D.v (.int .u8 n)] ∧ bs[i]? = some (UInt8.ofNat n.toNat) := by
  intro l
  induction l with
  | nil => intro bs h; simp [bytesOf] at h; subst h; exact ⟨rfl, fun i c h => by simp at h⟩
  | cons c l ih =>
    intro bs h
    unfold bytesOf at h
    split at h
    · rename_i hh; cases hh
    · rename_i n l' hh
      cases hh
      simp only [Option.map_eq_some_iff] at h
      obtain ⟨bs', hb, rfl⟩ := h
      obtain ⟨h1, h2⟩ := ih hb
      refine ⟨by simp [h1], fun i c hi => ?_⟩
      cases i with
      | zero => simp at hi; subst hi; exact ⟨n, rfl, rfl⟩
      | succ i => exact h2 i c (by simpa using hi)
    · cases h

theorem bytesOf_byteD (bs : List UInt8) : bytesOf (bs.map byteD) = some bs := by
  induction bs with
  | nil => rfl
  | cons b bs ih => simp [bytesOf, byteD] at ih ⊢; exact ih

theorem push_all (r : ByteArray) (ns : List Int) : (ns.foldl (fun r n => r.push (UInt8.ofNat n.toNat)) r).data.toList = r.data.toList ++ ns.map fun n => UInt8.ofNat n.toNat := by
  induction ns generalizing r with
  | nil => simp
  | cons n ns ih =>
    simp only [List.foldl_cons, ih, List.map_cons]
    simp [ByteArray.push]

/-- The bytes of a row, as a string. -/
theorem run_bytes {b off cap len : Nat} {l : List (List D)} {bs : List UInt8} (h : bytesOf l = some bs) (hlen : len = l.length)
    (hr : ∀ (i j : Nat) (c : List M) (x : M), (pure2 l)[i]? = some c → c[j]? = some x → ∃ y, w.cell? ⟨b, off + i * 1 + j, none⟩ = some y ∧ MR1 w Γ x y) :
    (Conv.bytesToString (.slice (some ⟨b, off, none⟩) len cap)).run P w = .ok (.string ⟨bs.toArray⟩) w := by
  obtain ⟨h1, h2⟩ := bytesOf_some h
  subst hlen
  have hcell : ∀ i, i < l.length → ∃ n : Int, w.cell? ⟨b, off + i, none⟩ = some (.int .u8 n) ∧ bs[i]? = some (UInt8.ofNat n.toNat) := fun i hi => by
    obtain ⟨n, hc, hb⟩ := h2 i l[i] (by simp [hi])
    obtain ⟨y, hy, hm⟩ := hr i 0 (l[i].map M.d) (.d (.v (.int .u8 n))) (by rw [pure2_get]; simp [hi]) (by rw [hc]; rfl)
    have := mr_v hm.1
    subst this
    exact ⟨n, by simpa using hy, hb⟩
  let f : Nat → Int := fun i => match w.cell? ⟨b, off + i, none⟩ with | some (.int _ n) => n | _ => 0
  have hf : ∀ i, i < l.length → w.cell? ⟨b, off + i, none⟩ = some (.int .u8 (f i)) ∧ bs[i]? = some (UInt8.ofNat (f i).toNat) := fun i hi => by
    obtain ⟨n, hn, hb⟩ := hcell i hi
    have : f i = n := by simp only [f]; rw [hn]
    rw [this]; exact ⟨hn, hb⟩
  have hload := run_loadCells (P := P) w ⟨b, off, none⟩ l.length (fun i => .int .u8 (f i)) (fun j hj => by rw [add_addr]; exact (hf j hj).1)
  have := run_bytesToString (P := P) w ⟨b, off, none⟩ l.length cap ((List.range l.length).map f) (by rw [hload]; simp [List.map_map])
  rw [this]
  congr 2
  apply ByteArray.ext
  apply Array.ext'
  rw [push_all]
  simp only [List.map_map]
  apply List.ext_getElem?
  intro i
  by_cases hi : i < l.length
  · simp [hi, (hf i hi).2]
  · simp [hi, List.getElem?_eq_none (show bs.length ≤ i by omega)]

theorem seqD_row {m : M} {v : Value} {sz : Nat} {l : List (List D)} (hm : MR w Γ m v) (hw : WR w Γ B) (h : seqD B m = some (sz, l)) :
    ((v = .slice none 0 0 ∨ ∃ a cap, v = .slice (some a) 0 cap) ∧ l = []) ∨ ∃ b off cap, v = .slice (some ⟨b, off, none⟩) l.length cap ∧ ∀ (i j : Nat) (c : List M) (x : M), (pure2 l)[i]? = some c → c[j]? = some x →
      ∃ y, w.cell? ⟨b, off + i * sz + j, none⟩ = some y ∧ MR1 w Γ x y := by
  unfold seqD at h
  split at h
  · cases h
    have hd := hm.d_inv
    cases hd with
    | slNil => exact .inl ⟨.inl rfl, rfl⟩
    | slE _ a cap => exact .inl ⟨.inr ⟨a, cap, rfl⟩, rfl⟩
    | sl _ _ b off cap g hsz hcap hlim hb hcell hrel hone =>
      have := dr_row (w := w) (Γ := Γ) (.sl sz l b off cap g hsz hcap hlim hb hcell hrel hone)
      exact .inr ⟨b, off, cap, rfl, this.2.2⟩
  · rename_i p n
    split at h
    · rename_i fz s l' hB
      split at h
      · rename_i hn
        simp only [Option.map_eq_some_iff, Prod.mk.injEq] at h
        obtain ⟨l2, hl, rfl, rfl⟩ := h
        have := unpure2_some hl
        subst this
        rcases mr_hsl_live hw hB hn hm with ⟨_, rfl, hz⟩ | ⟨b, off, cap, hb, rfl, _⟩
        · refine .inl ⟨.inl rfl, ?_⟩
          rw [pure2_length] at hn
          exact List.length_eq_zero_iff.1 (by omega)
        · obtain ⟨_, h2⟩ := box_row hw hB hb
          exact .inr ⟨b, off, cap, by rw [← hn, pure2_length], h2⟩
      · cases h
    · cases h
  · cases h

theorem good_conv0 {src dst : TypeId} {x : M} {v : Value} (hx : MR w Γ x v) (hw : WR w Γ B) (hid : ¬ Γ.used id) (h : aConv0 P src dst x B id K) :
    Good Γ w id ((do pure (.value (← convert src dst v)) : Sem Next).run P w) K := by
  unfold aConv0 at h
  split at h
  · rename_i s
    obtain rfl := mr_v hx
    split at h
    · rename_i e he
      obtain ⟨⟨h1, h2⟩, h⟩ := h
      have hu := telem_some he
      have hcap : s.size ≤ grownCap w s.size 0 e := grownCap_ge w s.size 0 e
      let cs : Array Value := s.data.map (fun b => Value.int .u8 b.toNat) ++ Array.replicate (grownCap w s.size 0 e - s.size) (.int .u8 0)
      have hcs : cs.size = grownCap w s.size 0 e := by
        simp only [cs, Array.size_append, Array.size_map, Array.size_replicate, ByteArray.size_data]
        omega
      have hB := byteD_cells (w := w) (Γ := Γ) s.data.toList
      have hlen : (pure2 (s.data.toList.map byteD)).length = s.size := by simp [pure2]
      have hle : s.size ≤ cs.size := by omega
      obtain ⟨e1, e2⟩ := (WR.drew hw).alloc id hid (.cells cs e (cs.size, cs.size + 1)) (.ar w.heap.size 0 1 s.size) (.ar false 1 (pure2 (s.data.toList.map byteD))) rfl (fun ee => by
        refine ⟨rfl, hlen.symm, hB.1, by simp [G.add, BI.blk], ⟨by simp [G.add, BI.blk], .inl rfl⟩, cs, e, (cs.size, 1), World.heap_alloc_new _ _, by omega, fun j hj => ?_, fun i j c x y hi hj hy => ?_⟩
        · simp only [World.frozen?, show (w.drew.alloc (Obj.cells cs e (cs.size, cs.size + 1))).heap[w.heap.size]? = _ from World.heap_alloc_new w.drew _]
          simp; omega
        · have hlt := idx_lt (β := Unit) hB.1 hi hj ()
          rw [hlen] at hlt
          rw [Nat.zero_add] at hy
          simp only [cs] at hy
          rw [Array.getElem?_append_left (by simp; omega)] at hy
          refine ((hB.2.2 i j c x y hi hj ?_).ext (Ext.drew Γ w) hw.lt).ext ee hw.lt
          simpa using hy)
      refine .new (cv := .slice (some ⟨w.heap.size, 0, none⟩) s.size (grownCap w s.size 0 e)) (w' := w.drew.alloc (.cells cs e (cs.size, cs.size + 1))) ?_ h ((Ext.drew Γ w).trans e1) e2 add_used
        (.hsl (off := 0) (sz := 1) (by simp [G.add]) hcap ⟨cs, e, _, World.heap_alloc_new _ _, by omega⟩)
      have hfr := World.freeze_new w.drew cs e
      simp only [World.size_drew] at hfr
      have hsh : (w.drew.alloc (.cells cs e)).shape? w.heap.size = some (e, cs.size) := by
        simp only [World.shape?]
        rw [show (w.drew.alloc (.cells cs e)).heap[w.heap.size]? = _ from World.heap_alloc_new w.drew _]
      simp only [cs] at hfr hsh
      simp only [convert, Sem.run_bind, run_underlying (isStr_some h2), run_underlying hu, Result.andThen_ok, run_underlying (isU8_some h1), Conv.stringToBytes, run_choose, Question.forced]
      simp only [Bool.false_eq_true, if_false, Result.andThen_ok, newRow, Sem.run_bind, run_newObj, World.alloc_eq, World.drew_eq, markStringish, run_shape, Sem.run_pure]
      simp only [show (Question.appendCap s.size 0 e).cut (w.tape w.drawn (Question.appendCap s.size 0 e)) = grownCap w s.size 0 e from rfl, World.size_drew, hsh, run_freeze, hfr, Result.andThen_ok]
      rfl
    · exact good_kopt (by simp) hw h
  · rename_i v' _
    obtain rfl := mr_v hx
    exact good_kopt (by simp) hw h
  · split at h
    · rename_i sz l e hq he
      split at h
      · rename_i bs hbs
        obtain ⟨⟨rfl, h1, h2⟩, h⟩ := h
        rcases seqD_row hx hw hq with ⟨rfl | ⟨a, cap, rfl⟩, rfl⟩ | ⟨b, off, cap, rfl, hr⟩
        · simp [bytesOf] at hbs
          subst hbs
          refine .same hw ?_ h (.d (.v _))
          simp [convert, run_underlying (isStr_some h2), run_underlying (telem_some he), run_underlying (isU8_some h1), Conv.bytesToString]
          rfl
        · simp [bytesOf] at hbs
          subst hbs
          refine .same hw ?_ h (.d (.v _))
          simp [convert, run_underlying (isStr_some h2), run_underlying (telem_some he), run_underlying (isU8_some h1), Conv.bytesToString, loadCells]
          rfl
        · refine .same hw ?_ h (.d (.v _))
          simp [convert, run_underlying (isStr_some h2), run_underlying (telem_some he), run_underlying (isU8_some h1), run_bytes hbs rfl hr]
      · exact h.elim
    · exact h.elim

def frzO (o : Nat) : Obj → Obj
  | .cells c elem (lo, hi) => .cells c elem (if lo == hi then (o, o + 1) else (min lo o, max hi (o + 1)))
  | x => x
theorem freeze_heap (w : World) (b o : Nat) : (w.freeze ⟨b, o, none⟩ 1).heap = w.heap.modify b (frzO o) := by
  have h : ¬ ((1 : Nat) = 0) := by decide
  simp only [World.freeze, if_neg h]
  rfl
theorem frzO_cells (o : Nat) (cs : Array Value) (e : TypeId) (fz : Nat × Nat) : frzO o (.cells cs e fz) = .cells cs e (if fz.1 == fz.2 then (o, o + 1) else (min fz.1 o, max fz.2 (o + 1))) := by
  cases fz; rfl
theorem good_conv {src dst : TypeId} {x : M} {v : Value} (hx : MR w Γ x v) (hw : WR w Γ B) (hid : ¬ Γ.used id) (h : aConv P src dst x B id K) :
    Good Γ w id ((do pure (.value (← convert src dst v)) : Sem Next).run P w) K := by
  unfold aConv at h
  split at h
  · rename_i hs
    cases x with
    | hsl p n =>
      simp only [sameSl, Bool.and_eq_true, beq_iff_eq] at hs
      obtain ⟨rfl, hs⟩ := hs
      split at hs
      · rename_i e fz sz l tg he hB
        simp only [Bool.and_eq_true, beq_iff_eq, decide_eq_true_eq] at hs
        obtain ⟨⟨hu, hln⟩, hn⟩ := hs
        obtain ⟨bi, hbi⟩ := (hw.dom p).1 ⟨_, hB⟩
        have hok := hw.ok p _ bi hB hbi
        cases bi with
        | st b => exact hok.elim
        | nl =>
          have : l = [] := hok
          subst this; simp at hln; omega
        | ar b off sz' n' =>
          obtain ⟨rfl, hn', hc, hlim, ⟨hfz, htag⟩, cs, e', fr, hheap, hsz, hfro, hcell⟩ := hok
          have hv : ∃ cap, v = .slice (some ⟨b, off, none⟩) n cap := by
            cases hx with
            | hslNil h2 => rw [hbi] at h2; cases h2
            | hsl h2 _ _ => rw [hbi] at h2; cases h2; exact ⟨_, rfl⟩
            | hslStale h2 h3 _ => rw [hbi] at h2; cases h2; omega
            | hslDead h2 _ _ => rw [hbi] at h2; cases h2
          obtain ⟨cap, rfl⟩ := hv
          have hF := freeze_heap w b cs.size
          have hF2 := frzO_cells cs.size
          have hbs : b < w.heap.size := (Array.getElem?_eq_some_iff.1 hheap).1
          have ho : ∀ k, k ≠ b → (w.freeze ⟨b, cs.size, none⟩ 1).heap[k]? = w.heap[k]? := fun k hk => by rw [hF, Array.getElem?_modify, if_neg (fun e => hk e.symm)]
          have hb2 : (w.freeze ⟨b, cs.size, none⟩ 1).heap[b]? = some (frzO cs.size (.cells cs e' (fr.1, fr.1 + fr.2))) := by rw [hF, Array.getElem?_modify, if_pos rfl, hheap]; rfl
          rw [hF2] at hb2
          have hd : ∃ d, (if fr.1 == fr.1 + fr.2 then (cs.size, cs.size + 1) else (min fr.1 cs.size, max (fr.1 + fr.2) (cs.size + 1))) = (cs.size, cs.size + d) := by
            by_cases h0 : fr.2 = 0
            · exact ⟨1, by simp [h0]⟩
            · have h1 : ¬ (fr.1 < cs.size) := fun hlt => by
                have := hfro fr.1 hlt
                simp only [World.frozen?, hheap] at this
                simp at this
                omega
              refine ⟨fr.1 + fr.2 - cs.size, ?_⟩
              rw [if_neg (by simp; omega)]
              simp only [Prod.mk.injEq]; omega
          obtain ⟨d, hd⟩ := hd
          simp only at hb2
          rw [hd] at hb2
          have hob : Γ.owns b := ⟨p, _, hbi, rfl⟩
          have hsize : (w.freeze ⟨b, cs.size, none⟩ 1).heap.size = w.heap.size := by rw [hF, Array.size_modify]
          have hfo : (w.freeze ⟨b, cs.size, none⟩ 1).os = w.os ∧ (w.freeze ⟨b, cs.size, none⟩ 1).tape = w.tape ∧ (w.freeze ⟨b, cs.size, none⟩ 1).output = w.output := by
            refine ⟨?_, ?_, ?_⟩ <;> simp [World.freeze]
          have hext : Ext Γ w Γ (w.freeze ⟨b, cs.size, none⟩ 1) :=
            { os := hfo.1, tape := hfo.2.1, output := hfo.2.2, size := by omega
              used := fun _ h => h
              keep := fun k hk hno => ⟨ho k (fun e => hno (e ▸ hob)), rfl⟩
              cells := fun k o v _ hv => by
                by_cases hk : k = b
                · subst hk
                  simp only [World.cell?, hheap] at hv
                  simp only [World.cell?, hb2]
                  exact hv
                · simp only [World.cell?, ho k hk] at hv ⊢
                  exact hv
              lim := fun k hk => Nat.le_refl _
              shape := fun k cs2 e2 fz2 hk => by
                by_cases hkb : k = b
                · subst hkb
                  rw [hheap] at hk; cases hk
                  exact ⟨cs, _, hb2, rfl⟩
                · exact ⟨cs2, fz2, by rw [ho k hkb]; exact hk, rfl⟩
              box := fun _ _ => BI.to_refl _
              new := fun _ h => .inl h }
          have hok2 : BoxOK (w.freeze ⟨b, cs.size, none⟩ 1) Γ (.ar fz sz l tg) (.ar b off sz n') := by
            refine ⟨rfl, hn', hc, hlim, ⟨hfz, htag.ext hext⟩, cs, e', (cs.size, d), hb2, hsz, fun j hj => ?_, fun i j c x y h1 h2 h3 => (hcell i j c x y h1 h2 h3).ext hext hw.lt⟩
            simp only [World.frozen?, hb2]
            simp; omega
          have hput := WR.put hw hB hbi rfl hext hsize ho hok2
          have hget : ∀ q, (B.set p (.ar fz sz l tg)).get q = B.get q := fun q => by
            rw [Bx.get_set]
            by_cases hq : p = q
            · subst hq; rw [if_pos rfl, hB]; rfl
            · rw [if_neg hq]
          have hwr : WR (w.freeze ⟨b, cs.size, none⟩ 1) Γ B :=
            ⟨fun q => by rw [← hget]; exact hput.dom q, fun q bx bi h1 h2 => hput.ok q bx bi (by rw [hget]; exact h1) h2, hput.inj, hput.lt, hput.blk⟩
          refine ⟨.slice (some ⟨b, off, none⟩) n cap, w.freeze ⟨b, cs.size, none⟩ 1, Γ, _, B, .inl ?_, h, hext, hwr, fun _ h => .inr h, hx.ext hext hw.lt⟩
          have hut := telem_some he
          simp only [convert, Sem.run_bind, run_underlying hut, Result.andThen_ok, run_underlying (isU8_some hu), markStringish, run_shape]
          simp [World.shape?, hheap]
      · simp at hs
    | _ => simp [sameSl] at hs
  · exact good_conv0 hx hw hid h

end
end Go.Abs

/- The abstract layer, part L: slice expressions, literals of structs and slices, make. -/
namespace Go.Abs

section
variable {P : Program} {w : World} {Γ : G} {B : Bx} {id : Nat} {K : K2}

/-- An operand of a slice expression, where there is one. -/
def OptMR (w : World) (Γ : G) : Option M → Option Value → Prop
  | none, none => True
  | some m, some v => MR w Γ m v
  | _, _ => False

theorem bnd_none {d a : Int} {v : Option Value} (h : bnd d none = some a) (hm : OptMR w Γ none v) : v = none ∧ a = d := by
  cases v with
  | none => simp [bnd] at h; exact ⟨rfl, h.symm⟩
  | some v => exact hm.elim
theorem bnd_some {d a : Int} {m : Option M} {v : Option Value} (h : bnd d m = some a) (hm : OptMR w Γ m v) : (v = none ∧ a = d) ∨ ∃ k, v = some (.int k a) := by
  cases m with
  | none => exact .inl (bnd_none h hm)
  | some m =>
    cases v with
    | none => exact hm.elim
    | some v =>
      unfold bnd at h
      split at h
      · rename_i hh; cases hh
      · rename_i kk k hh
        cases hh
        cases h
        have := mr_v (show MR w Γ _ v from hm)
        exact .inr ⟨kk, by rw [this]⟩
      · cases h

theorem run_sliceBounds {isSl : Bool} {len cap : Nat} {a b : Int} {lo hi : Option Value} (ha : (lo = none ∧ a = 0) ∨ ∃ k, lo = some (.int k a)) (hb : (hi = none ∧ b = len) ∨ ∃ k, hi = some (.int k b))
    (h0 : 0 ≤ a) (h1 : a ≤ b) (h2 : b ≤ len) (hc : len ≤ cap) : (Instr.sliceBounds isSl len cap lo hi none).run P w = .ok (a.toNat, b.toNat, cap) w := by
  rcases ha with ⟨rfl, rfl⟩ | ⟨ka, rfl⟩ <;> rcases hb with ⟨rfl, rfl⟩ | ⟨kb, rfl⟩
  · simp [Instr.sliceBounds]
  · have g1 : 0 ≤ b ∧ b ≤ (cap : Int) := by omega
    simp [Instr.sliceBounds, Instr.sliceBound, asIntOf, g1]
  · have g1 : 0 ≤ a ∧ a ≤ (len : Int) := by omega
    simp [Instr.sliceBounds, Instr.sliceBound, asIntOf, g1]
  · have g1 : 0 ≤ b ∧ b ≤ (cap : Int) := by omega
    have g2 : 0 ≤ a ∧ a ≤ b := by omega
    have g3 : max b 0 = b := by omega
    simp [Instr.sliceBounds, Instr.sliceBound, asIntOf, g1, g2, g3]

theorem dr_sub {sz b off cap : Nat} {l : List (List D)} {lim : Nat → Nat} (i j : Nat) (hij : i ≤ j) (hj : j ≤ l.length) (h : DR w lim (.sl sz l) (.slice (some ⟨b, off, none⟩) l.length cap)) :
    DR w lim (.sl sz ((l.drop i).take (j - i))) (.slice (some ⟨b, off + i * sz, none⟩) (j - i) (cap - i)) := by
  generalize hn : l.length = n at h
  cases h with
  | slE =>
    have hi : i = 0 := by simp at hj; omega
    have hj0 : j = 0 := by simpa using hj
    subst hi; subst hj0
    simp
    exact .slE _ _ _
  | sl _ _ _ _ _ g hsz hcap hlim hb hcell hrel hone =>
    have hlen : ((l.drop i).take (j - i)).length = j - i := by simp; omega
    have hget : ∀ (a : Nat) (c : List D), ((l.drop i).take (j - i))[a]? = some c → l[i + a]? = some c ∧ a < j - i := fun a c ha => by
      have hlt : a < j - i := by rw [← hlen]; exact (List.getElem?_eq_some_iff.1 ha).1
      rw [List.getElem?_take, if_pos hlt, List.getElem?_drop] at ha
      exact ⟨ha, hlt⟩
    have hmul : j * sz ≤ l.length * sz := Nat.mul_le_mul_right _ hj
    have hs : (j - i) * sz + i * sz = j * sz := by rw [← Nat.add_mul]; congr 1; omega
    have := DR.sl (w := w) (lim := lim) sz ((l.drop i).take (j - i)) b (off + i * sz) (cap - i) (fun a c => g (i + a) c) (fun c hc => hsz c (List.mem_of_mem_drop (List.mem_of_mem_take hc)))
      (by rw [hlen]; omega) (fun hp => by rw [hlen] at hp ⊢; have := hlim (by omega); omega) (fun hp => hb (by rw [hlen] at hp; omega))
      (fun a c d x ha hx => by
        obtain ⟨g1, g2⟩ := hget a d ha
        have := hcell _ c d x g1 hx
        rw [Nat.add_mul, ← Nat.add_assoc] at this
        exact this)
      (fun a c d x ha hx => hrel _ c d x (hget a d ha).1 hx) (fun a c d x ha hx => hone _ c d x (hget a d ha).1 hx)
    rw [hlen] at this
    exact this

theorem run_slice_sl {t e : TypeId} {sz b off len cap : Nat} {i j : Int} {lo hi : Option Value} (ht : telem P t = some e) (hs : tsz P e = some sz)
    (ha : (lo = none ∧ i = 0) ∨ ∃ k, lo = some (.int k i)) (hb : (hi = none ∧ j = len) ∨ ∃ k, hi = some (.int k j)) (h0 : 0 ≤ i) (h1 : i ≤ j) (h2 : j ≤ len) (hc : len ≤ cap) :
    ∃ off', (Instr.sliceAt t (.slice (some ⟨b, off, none⟩) len cap) lo hi none).run P w = .ok (.slice (some ⟨b, off', none⟩) (j.toNat - i.toNat) (cap - i.toNat)) w ∧
      (off' = off + i.toNat * sz ∨ (cap = i.toNat ∧ off' = off)) := by
  have hrun := run_sliceBounds (P := P) (w := w) (isSl := true) ha hb h0 h1 h2 hc
  by_cases hcap : cap = i.toNat
  · refine ⟨off, ?_, .inr ⟨hcap, rfl⟩⟩
    rw [hcap] at hrun
    simp [Instr.sliceAt, Instr.slice, run_underlying (telem_some ht), hrun, run_sizeOf_t hs, hcap]
  · refine ⟨off + i.toNat * sz, ?_, .inl rfl⟩
    simp [Instr.sliceAt, Instr.slice, run_underlying (telem_some ht), hrun, run_sizeOf_t hs, hcap, add_addr]

/-- A part of a row, as a value: what is found at capacity's end has no element. -/
theorem dr_slice {sz b off cap off' : Nat} {l : List (List D)} {lim : Nat → Nat} {i j : Int} (h0 : 0 ≤ i) (h1 : i ≤ j) (h2 : j ≤ l.length)
    (h : DR w lim (.sl sz l) (.slice (some ⟨b, off, none⟩) l.length cap)) (ho : off' = off + i.toNat * sz ∨ (cap = i.toNat ∧ off' = off)) :
    DR w lim (.sl sz ((l.drop i.toNat).take (j - i).toNat)) (.slice (some ⟨b, off', none⟩) (j.toNat - i.toNat) (cap - i.toNat)) := by
  have hsub := dr_sub i.toNat j.toNat (by omega) (by omega) h
  have e1 : (j - i).toNat = j.toNat - i.toNat := by omega
  rw [e1]
  rcases ho with rfl | ⟨hc, rfl⟩
  · exact hsub
  · have hcl : l.length ≤ cap := by
      generalize hn : l.length = n at h
      cases h with
      | slE => simp
      | sl _ _ _ _ _ g hsz hcap hlim hb hcell hrel hone => omega
    have hz : j.toNat - i.toNat = 0 := by omega
    rw [hz, hc]
    simp only [List.take_zero, Nat.sub_self]
    generalize hn : l.length = n at h
    cases h with
    | slE => exact .slE _ _ _
    | sl _ _ _ _ _ g hsz hcap hlim hb hcell hrel hone =>
      exact .sl sz [] b off' 0 (fun _ _ => undef) (fun c hc => by simp at hc) (Nat.le_refl _) (fun h => by simp at h) (fun h => by simp at h) (fun a c d x ha => by simp at ha) (fun a c d x ha => by simp at ha) (fun a c d x ha => by simp at ha)

theorem good_slice {t : TypeId} {x : M} {v : Value} {lo hi mx : Option M} {lov hiv mxv : Option Value} (hx : MR w Γ x v) (hlo : OptMR w Γ lo lov) (hhi : OptMR w Γ hi hiv) (hmx : OptMR w Γ mx mxv)
    (hw : WR w Γ B) (h : aSlice P t x lo hi mx B K) : Good Γ w id ((do pure (.value (← Instr.sliceAt t v lov hiv mxv)) : Sem Next).run P w) K := by
  unfold aSlice at h
  split at h
  · rename_i s
    obtain rfl := mr_v hx
    split at h
    · rename_i a b ha hb
      obtain ⟨⟨ht, h0, h1, h2⟩, h⟩ := h
      have hmxn : mxv = none := by cases mxv with | none => rfl | some _ => exact hmx.elim
      subst hmxn
      have hrun := run_sliceBounds (P := P) (w := w) (isSl := false) (bnd_some ha hlo) (bnd_some hb hhi) h0 h1 h2 (Nat.le_refl _)
      refine .same hw ?_ h (.d (.v _))
      simp [Instr.sliceAt, Instr.slice, run_underlying (isStr_some ht), hrun]
    · exact h.elim
  · split at h
    · rename_i v' _ h1 h2
      obtain rfl := mr_v hx
      have e1 : lov = none := by
        cases lo with
        | none => (cases lov with | none => rfl | some _ => exact hlo.elim)
        | some _ => simp at h1
      have e2 : hiv = none := by
        cases hi with
        | none => (cases hiv with | none => rfl | some _ => exact hhi.elim)
        | some _ => simp at h2
      have e3 : mxv = none := by cases mxv with | none => rfl | some _ => exact hmx.elim
      subst e1; subst e2; subst e3
      exact good_kopt (by simp) hw h
    · exact h.elim
  · rename_i sz l
    split at h
    · rename_i e a b he ha hb
      obtain ⟨⟨hs, h0, h1, h2⟩, h⟩ := h
      have hmxn : mxv = none := by cases mxv with | none => rfl | some _ => exact hmx.elim
      subst hmxn
      have hd := hx.d_inv
      cases hd with
      | slNil =>
        have hrun := run_sliceBounds (P := P) (w := w) (isSl := true) (len := 0) (cap := 0) (bnd_some ha hlo) (bnd_some hb hhi) h0 h1 h2 (Nat.le_refl _)
        simp only [List.length_nil] at h2
        refine .same hw (cv := .slice none 0 0) ?_ h (.d ?_)
        · have : a.toNat = 0 := by omega
          have hb0 : b.toNat = 0 := by omega
          simp [Instr.sliceAt, Instr.slice, run_underlying (telem_some he), hrun, run_sizeOf_t hs, this, hb0]
        · simp; exact .slNil
      | slE _ ad cap =>
        have hrun := run_sliceBounds (P := P) (w := w) (isSl := true) (len := 0) (cap := cap) (bnd_some ha hlo) (bnd_some hb hhi) h0 h1 h2 (by omega)
        simp only [List.length_nil] at h2
        have a0 : a.toNat = 0 := by omega
        have b0 : b.toNat = 0 := by omega
        refine .same hw (cv := .slice (some ad) 0 cap) ?_ h (.d ?_)
        · simp only [a0, b0] at hrun
          by_cases hc : cap = 0
          · subst hc
            simp [Instr.sliceAt, Instr.slice, run_underlying (telem_some he), hrun, run_sizeOf_t hs]
          · simp [Instr.sliceAt, Instr.slice, run_underlying (telem_some he), hrun, run_sizeOf_t hs, hc, Addr.add]
        · simp; exact .slE _ _ _
      | sl _ _ b' off cap g hsz hcap hlim hblt hcell hrel hone =>
        obtain ⟨off', hrun, ho⟩ := run_slice_sl (P := P) (w := w) (b := b') (off := off) he hs (bnd_some ha hlo) (bnd_some hb hhi) h0 h1 h2 hcap
        exact .same hw (by rw [Sem.run_bind, hrun]; rfl) h (.d (dr_slice h0 h1 h2 (.sl sz l b' off cap g hsz hcap hlim hblt hcell hrel hone) ho))
    · exact h.elim
  · rename_i p n
    split at h
    · rename_i fz sz l hB
      split at h
      · rename_i l' e a b hl he ha hb
        obtain ⟨⟨hn, hs, h0, h1, h2⟩, h⟩ := h
        have hmxn : mxv = none := by cases mxv with | none => rfl | some _ => exact hmx.elim
        subst hmxn
        have hl' := unpure2_some hl
        subst hl'
        have hsn := hw.snap (l := l') (v := v) hB (by rw [← pure2_length, hn]; exact hx)
        obtain ⟨Γ', e1, e2, e3, e4⟩ := hsn
        rw [pure2_length] at h2 hb
        rcases mr_hsl_live hw hB hn hx with ⟨_, rfl, hz⟩ | ⟨b', off, cap, hbx, rfl, hcap⟩
        · have hrun := run_sliceBounds (P := P) (w := w) (isSl := true) (len := 0) (cap := 0) (a := a) (b := b) (bnd_some ha hlo) (by
            have := bnd_some hb hhi
            rw [pure2_length] at hn
            rcases this with ⟨q1, q2⟩ | q
            · exact .inl ⟨q1, by omega⟩
            · exact .inr q) h0 h1 (by rw [pure2_length] at hn; omega) (Nat.le_refl _)
          rw [pure2_length] at hn
          have hl0 : l' = [] := List.length_eq_zero_iff.1 (by omega)
          subst hl0
          simp only [List.length_nil] at h2
          refine ⟨.slice none 0 0, w, Γ', _, _, .inl ?_, h, e1, e2, fun p hp => .inr (by rw [← e3]; exact hp), .d ?_⟩
          · have h3 : a.toNat = 0 := by omega
            have h4 : b.toNat = 0 := by omega
            simp [Instr.sliceAt, Instr.slice, run_underlying (telem_some he), hrun, run_sizeOf_t hs, h3, h4]
          · simp; exact .slNil
        · rw [pure2_length] at hn
          subst hn
          obtain ⟨off', hrun, ho⟩ := run_slice_sl (P := P) (w := w) (b := b') (off := off) he hs (bnd_some ha hlo) (bnd_some hb hhi) h0 h1 h2 hcap
          exact ⟨_, w, Γ', _, _, .inl (by rw [Sem.run_bind, hrun]; rfl), h, e1, e2, fun p hp => .inr (by rw [← e3]; exact hp), .d (dr_slice h0 h1 h2 e4 ho)⟩
      · exact h.elim
    · exact h.elim
  · exact h.elim

end
end Go.Abs

/- The abstract layer, part M: literals of structs and slices, make. -/
namespace Go.Abs

section
variable {P : Program} {w : World} {Γ : G} {B : Bx} {id : Nat} {K : K2}

/-- Cells of a value and what they show. -/
def CR (w : World) (Γ : G) (cs : List M) (vs : Array Value) : Prop :=
  vs.size = cs.length ∧ ∀ (i : Nat) (x : M) (y : Value), cs[i]? = some x → vs[i]? = some y → MR w Γ x y

theorem CR.ofV (vs : Array Value) : CR w Γ (vs.toList.map fun x => .d (.v x)) vs :=
  ⟨by simp, fun i x y hx hy => by rw [list_map_get hx hy]; exact .d (.v y)⟩

theorem foldl_set_size (off : Nat) : ∀ (l : List (Value × Nat)) (cs : Array Value), (l.foldl (fun cs (x : Value × Nat) => cs.setIfInBounds (off + x.2) x.1) cs).size = cs.size
  | [], cs => rfl
  | x :: l, cs => by rw [List.foldl_cons, foldl_set_size off l]; simp

theorem foldl_set_get (off : Nat) : ∀ (l : List Value) (n : Nat) (cs : Array Value) (k : Nat), off + n + l.length ≤ cs.size →
    ((l.zipIdx n).foldl (fun cs (x : Value × Nat) => cs.setIfInBounds (off + x.2) x.1) cs)[k]? = if off + n ≤ k ∧ k < off + n + l.length then l[k - (off + n)]? else cs[k]?
  | [], n, cs, k, _ => by
    rw [if_neg (by simp)]
    rfl
  | x :: l, n, cs, k, h => by
    simp only [List.length_cons] at h
    rw [List.zipIdx_cons, List.foldl_cons, foldl_set_get off l (n + 1) _ k (by simp; omega)]
    by_cases hk : k = off + n
    · subst hk
      rw [if_neg (by omega), if_pos (by simp)]
      have : off + n < cs.size := by omega
      simp [this]
    · rw [Array.getElem?_setIfInBounds_ne (fun e => hk e.symm)]
      by_cases h2 : off + n ≤ k ∧ k < off + n + (l.length + 1)
      · rw [if_pos (by omega), if_pos (by simpa using h2)]
        have : k - (off + n) = (k - (off + (n + 1))) + 1 := by omega
        rw [this, List.getElem?_cons_succ]
      · rw [if_neg (by omega), if_neg (by simpa using h2)]

/-- The parts of a literal. -/
def Parts (w : World) (Γ : G) : List (Nat × M) → List (Nat × Value) → Prop
  | [], [] => True
  | (i, m) :: ps, (j, v) :: vs => i = j ∧ MR w Γ m v ∧ Parts w Γ ps vs
  | _, _ => False

theorem fill_ok {place : Nat → Option (Nat × Nat)} : ∀ {ps : List (Nat × M)} {vs : List (Nat × Value)} {cs cs' : List M} {cv : Array Value}, Parts w Γ ps vs → CR w Γ cs cv →
    fillM place cs ps = some cs' → ∃ cv', Instr.fill place cv vs = some cv' ∧ CR w Γ cs' cv'
  | [], [], cs, cs', cv, _, hc, h => by
    simp [fillM] at h; subst h
    exact ⟨cv, rfl, hc⟩
  | [], _ :: _, _, _, _, hp, _, _ => hp.elim
  | _ :: _, [], _, _, _, hp, _, _ => hp.elim
  | (i, m) :: ps, (j, v) :: vs, cs, cs', cv, hp, hc, h => by
    obtain ⟨rfl, hm, hps⟩ := hp
    unfold fillM at h
    split at h
    · rename_i off size cs2 hpl hst
      split at h
      · rename_i hle
        obtain ⟨h1, h2⟩ := hle
        obtain ⟨g1, g2⟩ := stores_some hm hst
        have hsz : v.cells.size = size := by omega
        have hcs : cv.size = cs.length := hc.1
        let cv2 := v.cells.zipIdx.foldl (fun cs (x : Value × Nat) => cs.setIfInBounds (off + x.2) x.1) cv
        have e0 : cv2 = (v.cells.toList.zipIdx 0).foldl (fun cs (x : Value × Nat) => cs.setIfInBounds (off + x.2) x.1) cv := by
          simp only [cv2]
          rw [← Array.foldl_toList]
          congr 1
          simp
        have hc2 : CR w Γ (splice cs off cs2) cv2 := by
          refine ⟨?_, fun k x y hx hy => ?_⟩
          · rw [e0, foldl_set_size, splice_length (by omega)]; exact hcs
          · rw [e0, foldl_set_get off _ 0 cv k (by simp; omega)] at hy
            rw [splice_get (by omega)] at hx
            by_cases hk : k < off
            · rw [if_pos hk] at hx
              rw [if_neg (by omega)] at hy
              exact hc.2 k x y hx hy
            · rw [if_neg hk] at hx
              by_cases hk2 : k < off + cs2.length
              · rw [if_pos hk2] at hx
                rw [if_pos (by simp; omega)] at hy
                exact (g2 _ x y hx (by simpa using hy)).1
              · rw [if_neg hk2] at hx
                rw [if_neg (by simp; omega)] at hy
                exact hc.2 k x y hx hy
        obtain ⟨cv', f1, f2⟩ := fill_ok hps hc2 h
        refine ⟨cv', ?_, f2⟩
        rw [Instr.fill, hpl]
        simp only
        have e : (v.cells.size ≠ size || off + v.cells.size > cv.size) = false := by
          simp; omega
        rw [hsz] at e ⊢
        have c1 : ¬ ((decide (size ≠ size) || decide (off + size > cv.size)) = true) := by simp; omega
        rw [if_neg c1]
        exact f1
      · cases h
    · cases h

theorem run_places {fs : Array Field} {pl : List (Nat × Nat)} (h : fs.toList.mapM (fun f => (tsz P f.type).map fun s => (f.offset, s)) = some pl) :
    (fs.mapM (fun f => do pure (f.offset, ← sizeOf f.type) : Field → Sem (Nat × Nat))).run P w = .ok pl.toArray w := by
  have key : ∀ (l : List Field) (pl : List (Nat × Nat)), l.mapM (fun f => (tsz P f.type).map fun s => (f.offset, s)) = some pl →
      (l.mapM (fun f => do pure (f.offset, ← sizeOf f.type) : Field → Sem (Nat × Nat))).run P w = .ok pl w := by
    intro l
    induction l with
    | nil => intro pl h; simp at h; subst h; simp
    | cons f l ih =>
      intro pl h
      simp only [List.mapM_cons, Option.pure_def, Option.bind_eq_bind, Option.bind_eq_some_iff, Option.map_eq_some_iff, Option.some.injEq] at h
      obtain ⟨x, ⟨s, hs, rfl⟩, pl', hpl, rfl⟩ := h
      have ihr := ih pl' hpl
      simp only [List.mapM_cons, Sem.run_bind, run_sizeOf_t hs, Result.andThen_ok, Sem.run_pure, ihr]
  rw [Array.mapM_eq_mapM_toList]
  simp only [Sem.run_map, key _ _ h]
  rfl

theorem good_build {t : TypeId} {ps : List (Nat × M)} {vs : Array (Nat × Value)} (hp : Parts w Γ ps vs.toList) (hw : WR w Γ B) (h : aBuild P t ps B K) :
    Good Γ w id ((do pure (.value (← Instr.build t vs)) : Sem Next).run P w) K := by
  unfold aBuild at h
  split at h
  · rename_i z hz
    split at h
    · rename_i pl hpl
      split at h
      · rename_i cs hcs
        unfold tplaces at hpl
        split at hpl
        · rename_i fs hu
          obtain ⟨cv, f1, f2⟩ := fill_ok hp (CR.ofV z.cells) hcs
          have hr := run_places (P := P) (w := w) hpl
          refine .same hw (cv := .agg cv) ?_ h (.agg f2.1 f2.2)
          have e : (fun (i : Nat) => pl.toArray[i]?) = fun (i : Nat) => pl[i]? := by funext i; simp
          simp only [Instr.build, Sem.run_bind, run_zeroValue_t hz, Result.andThen_ok, run_underlying hu, hr, e, f1]
          rfl
        · cases hpl
      · exact h.elim
    · split at h
      · rename_i n e ht
        split at h
        · rename_i s hs
          split at h
          · rename_i cs hcs
            obtain ⟨cv, f1, f2⟩ := fill_ok hp (CR.ofV z.cells) hcs
            refine .same hw (cv := .agg cv) ?_ h (.agg f2.1 f2.2)
            simp only [Instr.build, Sem.run_bind, run_zeroValue_t hz, Result.andThen_ok, run_underlying (tarr_some ht), run_sizeOf_t hs, f1]
            rfl
          · exact h.elim
        · exact h.elim
      · exact h.elim
  · exact h.elim

theorem zcells_cr {z : Value} (n : Nat) : CR w Γ (zcells z n) ((Array.range (n * z.cells.size)).map (z.cells[· % z.cells.size]!)) := by
  have hlen : (zcells z n).length = n * z.cells.size := by simp [zcells]
  refine ⟨by simp [hlen], fun k x y hx hy => ?_⟩
  have hlt : k < n * z.cells.size := by rw [← hlen]; exact (List.getElem?_eq_some_iff.1 hx).1
  have hpos : 0 < z.cells.size := by
    rcases Nat.eq_zero_or_pos z.cells.size with h0 | h0
    · rw [h0] at hlt; simp at hlt
    · exact h0
  have hm : k % z.cells.size < z.cells.size := Nat.mod_lt _ hpos
  have key : ∀ (n k : Nat), k < n * z.cells.size → (zcells z n)[k]? = some (.d (.v (z.cells[k % z.cells.size]'(Nat.mod_lt _ hpos)))) := by
    intro n
    induction n with
    | zero => intro k hk; simp at hk
    | succ n ih =>
      intro k hk
      have e : zcells z (n + 1) = (z.cells.toList.map fun x => M.d (.v x)) ++ zcells z n := by simp [zcells, List.replicate_succ]
      rw [e]
      by_cases hks : k < z.cells.size
      · rw [List.getElem?_append_left (by simpa using hks)]
        simp [hks, Nat.mod_eq_of_lt hks]
      · rw [List.getElem?_append_right (by simp; omega)]
        simp only [List.length_map, Array.length_toList]
        rw [Nat.add_mul, Nat.one_mul] at hk
        rw [ih _ (by omega)]
        simp only [Nat.mod_eq_sub_mod (show k ≥ z.cells.size by omega)]
  rw [key n k hlt] at hx
  simp [hlt] at hy
  cases hx
  rw [← hy]
  have : z.cells[k % z.cells.size]! = z.cells[k % z.cells.size] := getElem!_pos z.cells _ hm
  rw [this]
  exact .d (.v _)

theorem chunks_length (sz : Nat) : ∀ (n : Nat) (cs : List M), (chunks sz cs n).length = n
  | 0, _ => rfl
  | n + 1, cs => by simp [chunks, chunks_length sz n]

theorem chunks_get (sz : Nat) : ∀ (n : Nat) (cs : List M) (i : Nat), i < n → (chunks sz cs n)[i]? = some ((cs.drop (i * sz)).take sz)
  | 0, _, i, h => by omega
  | n + 1, cs, 0, _ => by simp [chunks]
  | n + 1, cs, i + 1, h => by
    simp only [chunks, List.getElem?_cons_succ]
    rw [chunks_get sz n _ i (by omega), List.drop_drop]
    congr 3
    rw [Nat.add_mul, Nat.one_mul, Nat.add_comm]

theorem Parts.ext {Γ Γ1 : G} (e : Ext Γ w Γ1 w) (hn : ∀ p bi, Γ.box p = some bi → Γ.used p) : ∀ {ps : List (Nat × M)} {vs : List (Nat × Value)}, Parts w Γ ps vs → Parts w Γ1 ps vs
  | [], [], _ => trivial
  | [], _ :: _, h => h.elim
  | _ :: _, [], h => h.elim
  | _ :: _, _ :: _, ⟨h1, h2, h3⟩ => ⟨h1, h2.ext e hn, Parts.ext e hn h3⟩

theorem frzP_ok {t : TypeId} : ∀ {ps : List (Nat × M)} {vs : List (Nat × Value)} {Γ : G} {B : Bx}, WR w Γ B → Parts w Γ ps vs →
    ∃ Γ', Ext Γ w Γ' w ∧ WR w Γ' (frzP P t B ps).2 ∧ Γ'.used = Γ.used ∧ Parts w Γ' (frzP P t B ps).1 vs
  | [], vs, Γ, B, h, hp => ⟨Γ, Ext.refl _ _, by simpa [frzP] using h, rfl, by simpa [frzP] using hp⟩
  | _ :: _, [], _, _, _, hp => hp.elim
  | (i, m) :: ps, (j, v) :: vs, Γ, B, h, hp => by
    obtain ⟨rfl, hm, hps⟩ := hp
    obtain ⟨Γ1, e1, w1, n1, m1⟩ := frzT_ok (P := P) h t hm
    have hps1 : Parts w Γ1 ps vs := hps.ext e1 h.lt
    obtain ⟨Γ2, e2, w2, n2, a2⟩ := frzP_ok (t := t) w1 hps1
    exact ⟨Γ2, e1.trans e2, w2, n2.trans n1, rfl, m1.ext e2 w1.lt, a2⟩

theorem good_buildSlice {t : TypeId} {len : Nat} {ps : List (Nat × M)} {vs : Array (Nat × Value)} (hp : Parts w Γ ps vs.toList) (hw : WR w Γ B) (hid : ¬ Γ.used id)
    (h : aBuildSlice P t len ps B id K) : Good Γ w id ((do pure (.value (← Instr.buildSlice t len vs)) : Sem Next).run P w) K := by
  unfold aBuildSlice at h
  split at h
  · rename_i e he
    split at h
    · rename_i s z hs hz
      split at h
      · rename_i cs hcs
        obtain ⟨⟨hmax, hzs, hpos, hone⟩, h⟩ := h
        obtain ⟨Γ1, e1, w1, n1, p1⟩ := frzP_ok (P := P) (t := e) hw hp
        have hz0 := zcells_cr (w := w) (Γ := Γ1) (z := z) len
        rw [hzs] at hz0
        obtain ⟨cv, f1, f2⟩ := fill_ok p1 hz0 hcs
        have hcvs : cv.size = len * s := by
          have : ∀ {place : Nat → Option (Nat × Nat)} {ps : List (Nat × M)} {cs cs' : List M}, fillM place cs ps = some cs' → cs'.length = cs.length := by
            intro place ps
            induction ps with
            | nil => intro cs cs' h; simp [fillM] at h; rw [h]
            | cons a ps ih =>
              intro cs cs' h
              obtain ⟨i, m⟩ := a
              unfold fillM at h
              split at h
              · split at h
                · rename_i hle
                  rw [ih h, splice_length (by omega)]
                · cases h
              · cases h
          rw [f2.1, this hcs]
          simp [zcells, hzs]
        have hclen : cs.length = len * s := by rw [← f2.1]; exact hcvs
        have hall := all_one f2.2 hone
        obtain ⟨g1, g2, g3⟩ := w1.allocAr id (by rw [n1]; exact hid) cv e (chunks s cs len) s len (fun c hc => by
            obtain ⟨i, hi⟩ := List.mem_iff_getElem?.1 hc
            have hlt : i < len := by
              have := (List.getElem?_eq_some_iff.1 hi).1
              rwa [chunks_length] at this
            rw [chunks_get s len cs i hlt] at hi
            cases hi
            have : (i + 1) * s ≤ len * s := Nat.mul_le_mul_right _ hlt
            rw [Nat.add_mul, Nat.one_mul] at this
            simp; omega) (by rw [chunks_length]; exact Nat.le_refl _) (by omega) (fun i j c x y hi hj hy => by
            have hlt : i < len := by
              have := (List.getElem?_eq_some_iff.1 hi).1
              rwa [chunks_length] at this
            rw [chunks_get s len cs i hlt] at hi
            cases hi
            have hjs : j < s := by
              have := (List.getElem?_eq_some_iff.1 hj).1
              simp at this; omega
            rw [List.getElem?_take, if_pos hjs, List.getElem?_drop] at hj
            exact hall _ x y hj hy)
        rw [chunks_length] at g1 g2 g3
        refine .new ?_ h (e1.trans g1) g2 (fun p hp => ?_) g3
        · have hz1 : len * s = 0 → (Array.range (len * s)).map (fun k => (#[] : Array Value)[k % (#[] : Array Value).size]!) = (Array.range (len * s)).map (z.cells[· % s]!) := by
            intro h0; rw [h0]; simp
          by_cases h0 : len * s = 0
          · have hm : ¬ (16777216 < len * s) := by omega
            simp only [Instr.buildSlice, Sem.run_bind, run_underlying (telem_some he), Result.andThen_ok, run_sizeOf_t hs]
            simp only [show (2 : Nat) ^ 24 = 16777216 by decide, gt_iff_lt, if_neg hm, if_pos h0, Sem.run_bind, Sem.run_pure, Result.andThen_ok, hz1 h0, f1, newRow, run_newObj, World.alloc_eq]
          · have hm : ¬ (16777216 < len * s) := by omega
            simp only [Instr.buildSlice, Sem.run_bind, run_underlying (telem_some he), Result.andThen_ok, run_sizeOf_t hs]
            simp only [show (2 : Nat) ^ 24 = 16777216 by decide, gt_iff_lt, if_neg hm, if_neg h0, Sem.run_bind, Sem.run_pure, Result.andThen_ok, run_zeroValue_t hz, hzs, f1, newRow, run_newObj, World.alloc_eq]
        · rcases add_used p hp with h' | h'
          · exact .inl h'
          · exact .inr (by rw [← n1]; exact h')
      · exact h.elim
    · exact h.elim
  · exact h.elim

theorem good_makeSlice {t : TypeId} {l c : M} {lv cv : Value} (hl : MR w Γ l lv) (hc : MR w Γ c cv) (hw : WR w Γ B) (hid : ¬ Γ.used id) (h : aMakeSlice P t l c B id K) :
    Good Γ w id ((do pure (.value (← Instr.makeSlice t lv cv)) : Sem Next).run P w) K := by
  unfold aMakeSlice at h
  split at h
  · rename_i kl a kc b e he
    obtain rfl := mr_v hl
    obtain rfl := mr_v hc
    split at h
    · rename_i s by' z h1 h2 h3
      obtain ⟨⟨h0, hab, hbb, hb, hzs, hpos, hone⟩, h⟩ := h
      obtain ⟨i, hi, rfl, rfl, hzi⟩ := zero_size h1 h2 h3
      have hrun := run_make (P := P) w t e i z (telem_some he) hi hzi kl kc a b h0 hab (by rw [Int.mul_comm]; omega) (by omega)
      have hms : (madeCells z.cells (b.toNat * i.size)).size = b.toNat * i.size := size_madeCells _ _
      obtain ⟨g1, g2, g3⟩ := hw.allocAr id hid (madeCells z.cells (b.toNat * i.size)) e (List.replicate a.toNat (z.cells.toList.map fun x => .d (.v x))) i.size b.toNat (fun c hc => by
          rw [List.mem_replicate] at hc
          rw [hc.2]; simp [hzs]) (by simp; omega) (by rw [hms]; exact Nat.le_refl _) (fun k j c x y hk hj hy => by
          rw [List.getElem?_replicate] at hk
          split at hk
          · cases hk
            have hjs : j < i.size := by
              have := (List.getElem?_eq_some_iff.1 hj).1
              simpa [hzs] using this
            have hlt : k * i.size + j < b.toNat * i.size := by
              have hkb : k < b.toNat := by omega
              have : (k + 1) * i.size ≤ b.toNat * i.size := Nat.mul_le_mul_right _ hkb
              rw [Nat.add_mul, Nat.one_mul] at this
              omega
            have hmod : (k * i.size + j) % i.size = j := by rw [Nat.mul_comm, Nat.mul_add_mod, Nat.mod_eq_of_lt hjs]
            have hzj : j < z.cells.size := by omega
            simp only [madeCells, hzs, Array.getElem?_map, Array.getElem?_range, if_pos hlt, Option.map_some, hmod, Option.some.injEq] at hy
            rw [getElem!_pos z.cells j hzj] at hy
            simp [hzj] at hj
            subst hj; subst hy
            exact mr1_v (all_get hone (j := j) (by simp [hzj]))
          · cases hk)
      rw [List.length_replicate] at g1 g2 g3
      exact .new (by simp [hrun]) h g1 g2 add_used g3
    · exact h.elim
  · exact h.elim

end
end Go.Abs

/- The abstract layer, part N: every operation that calls no function of the program. -/
namespace Go.Abs

section
variable {P : Program} {w : World} {Γ : G} {B : Bx} {id : Nat} {K : K2}

theorem parts_map {ρ : Operand → M} {η : Operand → Value} (hρ : ∀ x, MR w Γ (ρ x) (η x)) : ∀ (l : List (Nat × Operand)),
    Parts w Γ (l.map fun (i, x) => (i, ρ x)) (l.map fun (i, x) => (i, η x))
  | [] => trivial
  | (i, x) :: l => ⟨rfl, hρ x, parts_map hρ l⟩

theorem map_get {ρ : Operand → M} {η : Operand → Value} (hρ : ∀ x, MR w Γ (ρ x) (η x)) (l : Array Operand) (i : Nat) (x : M) (y : Value)
    (h1 : (l.toList.map ρ)[i]? = some x) (h2 : (l.map η)[i]? = some y) : MR w Γ x y := by
  simp only [List.getElem?_map, Array.getElem?_toList, Option.map_eq_some_iff] at h1
  simp only [Array.getElem?_map, Option.map_eq_some_iff] at h2
  obtain ⟨a, ha, rfl⟩ := h1
  obtain ⟨b, hb, rfl⟩ := h2
  rw [ha] at hb; cases hb
  exact hρ a

theorem optMR_map {ρ : Operand → M} {η : Operand → Value} (hρ : ∀ x, MR w Γ (ρ x) (η x)) (o : Option Operand) : OptMR w Γ (o.map ρ) (o.map η) := by
  cases o with
  | none => trivial
  | some x => exact hρ x

theorem builtin_exec {b : Builtin} {args : Array Operand} {ts : Array TypeId} {η : Operand → Value} {o : Oper} (ho : o.op = .call { callee := .builtin b, args := args, argTypes := ts }) :
    ∃ consts, execOp η o = builtin b ts o.type consts (args.map η) := by
  refine ⟨args.map fun | .const _ => true | _ => false, ?_⟩
  unfold execOp
  rw [ho]
  rfl

theorem WR.sameBox (h : WR w Γ B) {p : Nat} {bx : Box} (hB : B.get p = some bx) : WR w Γ (B.set p bx) := by
  refine ⟨fun q => ?_, fun q bx bi g1 g2 => ?_, h.inj, h.lt, h.blk⟩
  · rw [Bx.get_set]
    by_cases hq : p = q
    · subst hq; simpa [hB] using h.dom p
    · simp [hq, h.dom q]
  · rw [Bx.get_set] at g1
    by_cases hq : p = q
    · subst hq
      rw [hB] at g1; simp at g1; subst g1
      exact h.ok p _ _ hB g2
    · rw [if_neg hq] at g1
      exact h.ok q _ _ g1 g2

/-- What a row was made as may be forgotten. -/
theorem WR.untag (h : WR w Γ B) {p : Nat} {fz : Bool} {sz : Nat} {l : List (List M)} {tg : TypeId} (hB : B.get p = some (.ar fz sz l tg)) : WR w Γ (B.set p (.ar fz sz l)) := by
  refine ⟨fun q => ?_, fun q bx bi g1 g2 => ?_, h.inj, h.lt, h.blk⟩
  · rw [Bx.get_set, ← h.dom q]
    by_cases hq : p = q
    · subst hq; simp [hB]
    · simp [hq]
  · rw [Bx.get_set] at g1
    by_cases hq : p = q
    · subst hq
      rw [if_pos rfl, hB] at g1
      simp at g1
      subst g1
      have := h.ok p _ bi hB g2
      cases bi with
      | st b => exact this.elim
      | nl => exact this
      | ar b off s n =>
        obtain ⟨h0, h1, h2, h3, h3f, r⟩ := this
        exact ⟨h0, h1, h2, h3, ⟨h3f.1, .inl rfl⟩, r⟩
    · rw [if_neg hq] at g1
      exact h.ok q bx bi g1 g2

theorem tsz_one {e : TypeId} (h : tsz P e = some 1) : (P.info? e).map (·.size) = some 1 := h

theorem cpL_some {y : M} {yv : Value} {ys : List (List D)} (hy : MR w Γ y yv) (h : cpL y = some ys) :
    (ys = [] ∧ ∃ a cap, yv = .slice a 0 cap) ∨ ∃ b off cap news, yv = .slice (some ⟨b, off, none⟩) ys.length cap ∧ Cells w Γ 1 (pure2 ys) news ∧
      ∀ j v, news[j]? = some v → w.cell? ((⟨b, off, none⟩ : Addr).add j) = some v := by
  unfold cpL at h
  split at h
  · rename_i s l
    split at h
    · rename_i hs
      subst hs
      cases h
      have hd := hy.d_inv
      cases hd with
      | slNil => exact .inl ⟨rfl, _, _, rfl⟩
      | slE _ a cap => exact .inl ⟨rfl, _, _, rfl⟩
      | sl _ _ b off cap g hsz hcap hlim hb hcell hrel hone =>
        have := dr_row (w := w) (Γ := Γ) (.sl 1 _ b off cap g hsz hcap hlim hb hcell hrel hone)
        obtain ⟨news, hc, hn⟩ := row_cells this.2.1 this.2.2
        exact .inr ⟨b, off, cap, news, rfl, hc, hn⟩
    · cases h
  · cases h
    obtain rfl := mr_v hy
    exact .inl ⟨rfl, _, _, rfl⟩
  · cases h

theorem good_copy {ts : List TypeId} {ty : TypeId} {x y : M} {xv yv : Value} (hx : MR w Γ x xv) (hy : MR w Γ y yv) (hw : WR w Γ B) (h : aCopy P ts x y B K) :
    Good Γ w id ((do pure (.value (← Builtin.copy_ ts.toArray ty #[xv, yv])) : Sem Next).run P w) K := by
  unfold aCopy at h
  split at h
  · rename_i t u p n
    split at h
    · rename_i e sz l tg ys ht hB hys
      obtain ⟨⟨h1, rfl, hn⟩, h⟩ := h
      have hut := telem_some ht
      have none_ : ∀ {d a : Option Addr} {dCap sLen sCap : Nat}, xv = .slice d n dCap → yv = .slice a sLen sCap → sLen = ys.length → min n ys.length = 0 →
          Good Γ w id ((do pure (.value (← Builtin.copy_ #[t, u] ty #[xv, yv])) : Sem Next).run P w) K := by
        intro d a dCap sLen sCap e1 e2 e3 e4
        rw [e1, e2, e3]
        have hr := run_copy_none (P := P) w t u ty e d a n dCap ys.length sCap hut (tsz_one h1) (by rw [← e4]; exact Nat.min_comm _ _)
        have e5 : (pure2 ys).take n ++ l.drop ys.length = l := by
          rcases Nat.eq_zero_or_pos n with h0 | h0
          · subst h0; rw [List.length_eq_zero_iff.1 hn]; simp
          · have : ys = [] := List.length_eq_zero_iff.1 (by omega)
            subst this; simp [pure2]
        rw [e5, e4] at h
        exact .new (w' := w) (by simp [hr]; rfl) h (Ext.refl _ _) (hw.untag hB) (fun _ h => .inr h) (.d (.v _))
      rcases mr_hsl_live hw hB hn hx with ⟨_, rfl, hz⟩ | ⟨b, off, cap, hb, rfl, hcap⟩
      · rcases cpL_some hy hys with ⟨rfl, a, cap, rfl⟩ | ⟨b, off, cap, news, rfl, _, _⟩
        · exact none_ (by rw [hz]) rfl rfl (by simp)
        · exact none_ (by rw [hz]) rfl rfl (by simp [hz])
      · rcases cpL_some hy hys with ⟨rfl, a, cap2, rfl⟩ | ⟨b2, off2, cap2, news, rfl, hc, hn2⟩
        · exact none_ rfl rfl rfl (by simp)
        · obtain ⟨_, hln, hall, hlim, hlim0, cv, ty', fr, hbk, hsz2, hf, hcm⟩ := hw.ok p _ _ hB hb
          have hl0 := hlim0.1 rfl
          obtain ⟨k1, k2, k3⟩ := hc
          simp only [Nat.mul_one, pure2_length] at k2
          have hlen : (news.take n).length = min n ys.length := by simp [k2]
          have hrow : ∀ (i : Nat) (m : M) (y : Value), (pure2 ys)[i]? = some [m] → news[i]? = some y → MR1 w Γ m y := fun i m y hi hy' => k3 i 0 [m] m y hi rfl (by simpa using hy')
          have hone : ∀ v ∈ news.take n, v.oneCell' = true := fun v hv => by
            obtain ⟨j, hj⟩ := List.mem_iff_getElem?.1 (List.mem_of_mem_take hv)
            have hjl : j < (pure2 ys).length := by
              have := (List.getElem?_eq_some_iff.1 hj).1
              simp [pure2]; omega
            have hk := k1 _ (List.getElem_mem hjl)
            match hq : (pure2 ys)[j], hk with
            | [m], _ => exact (hrow j m v (by rw [List.getElem?_eq_getElem hjl, hq]) hj).2
          have hrun := run_copy_cells (P := P) w t u ty e b off n cap ⟨b2, off2, none⟩ ys.length cap2 (news.take n) hut (tsz_one h1) (by rw [hlen]; exact Nat.min_comm _ _)
            (fun j v hj => hn2 j v (by rw [List.getElem?_take] at hj; split at hj <;> simp_all))
            (fun j hj => by
              rw [World.cell?_of_heap hbk]
              have : off + j < cv.size := by omega
              simp [this]) (fun j hj => hf _ (by omega)) hone
          rw [hlen] at hrun
          have ex : Ext Γ w Γ (w.setCells b off (news.take n)) := Ext.setCells Γ b ⟨p, _, hb, rfl⟩ _ _ _ (by omega)
          obtain ⟨cv', g1, g2, g3, g4, g5⟩ := World.setCells_same b ty' (fr.1, fr.1 + fr.2) (news.take n) off w cv hbk (by omega)
          refine .new (w' := w.setCells b off (news.take n)) (Γ' := Γ) (by simp [hrun, goInt]) h ex
            (hw.put hB hb rfl ex (World.setCells_size _ _ _ _) (fun k hk => World.setCells_other b k hk _ _ _) ?_) (fun _ h => .inr h) (.d (.v _))
          have hll : ((pure2 ys).take n ++ l.drop ys.length).length = n := by simp [pure2_length]; omega
          refine ⟨rfl, hll.symm, fun d hd => ?_, hlim, ⟨hlim0.1, .inl rfl⟩, cv', ty', fr, g1, by omega, fun j hj => by rw [World.setCells_frozen]; exact hf j (by omega), fun i' j c' m y hi' hj' hy' => ?_⟩
          · rcases List.mem_append.1 hd with hd | hd
            · exact k1 d (List.mem_of_mem_take hd)
            · exact hall d (List.mem_of_mem_drop hd)
          · have hii : i' < n := by rw [← hll]; exact (List.getElem?_eq_some_iff.1 hi').1
            by_cases hik : i' < ys.length
            · rw [List.getElem?_append_left (by simp [pure2_length]; omega), List.getElem?_take, if_pos hii] at hi'
              have hk := k1 _ (List.mem_of_getElem? hi')
              match c', hk with
              | [m'], _ =>
                cases j with
                | succ j => simp at hj'
                | zero =>
                  simp at hj'
                  subst hj'
                  have := g4 i' (by omega)
                  rw [Nat.mul_one, Nat.add_zero, this, List.getElem?_take, if_pos hii] at hy'
                  exact (hrow i' m' y hi' hy').ext ex hw.lt
            · have htl : ((pure2 ys).take n).length = ys.length := by simp [pure2_length]; omega
              rw [List.getElem?_append_right (by omega), htl, List.getElem?_drop, show ys.length + (i' - ys.length) = i' by omega] at hi'
              rw [g5 _ (by omega)] at hy'
              exact (hcm i' j c' m y hi' hj' hy').ext ex hw.lt
    · exact h.elim
  · exact h.elim

theorem good_builtin {b : Builtin} {args : Array Operand} {ts : Array TypeId} {ρ : Operand → M} {η : Operand → Value} {o : Oper}
    (ho : o.op = .call { callee := .builtin b, args := args, argTypes := ts }) (hρ : ∀ x, MR w Γ (ρ x) (η x)) (hw : WR w Γ B) (hid : ¬ Γ.used id)
    (h : aBuiltin P b ts.toList (args.toList.map ρ) B id K) : Good Γ w id ((execOp η o).run P w) K := by
  obtain ⟨consts, he⟩ := builtin_exec (η := η) ho
  rw [he]
  unfold aBuiltin at h
  have one : ∀ {x : M}, args.toList.map ρ = [x] → ∃ a, args = #[a] ∧ ρ a = x := fun {x} hx => by
    obtain ⟨l⟩ := args
    cases l with
    | nil => simp at hx
    | cons a l =>
      cases l with
      | nil => exact ⟨a, rfl, by simpa using hx⟩
      | cons b l => simp at hx
  have two : ∀ {x y : M}, args.toList.map ρ = [x, y] → ∃ a b, args = #[a, b] ∧ ρ a = x ∧ ρ b = y := fun {x y} hx => by
    obtain ⟨l⟩ := args
    match l, hx with
    | [a, b], hx => exact ⟨a, b, rfl, by simpa using hx⟩
    | [], hx => simp at hx
    | [_], hx => simp at hx
    | _ :: _ :: _ :: _, hx => simp at hx
  split at h
  · rename_i x hx
    obtain ⟨a, rfl, rfl⟩ := one hx
    have := good_len (id := id) (ty := o.type) (hρ a) hw h
    simpa [builtin] using this
  · rename_i x y hx
    obtain ⟨a, b, rfl, rfl, rfl⟩ := two hx
    have := good_min (P := P) (id := id) (ts := ts) (ty := o.type) (hρ a) (hρ b) hw h
    simpa [builtin] using this
  · rename_i x y hx
    obtain ⟨a, b, rfl, rfl, rfl⟩ := two hx
    have := good_max (P := P) (id := id) (ts := ts) (ty := o.type) (hρ a) (hρ b) hw h
    simpa [builtin] using this
  · rename_i x y hx
    obtain ⟨a, b, rfl, rfl, rfl⟩ := two hx
    have := good_append (ty := o.type) (hρ a) (hρ b) hw hid h
    simpa [builtin] using this
  · rename_i x y hx
    obtain ⟨a, b, rfl, rfl, rfl⟩ := two hx
    have := good_copy (id := id) (ty := o.type) (hρ a) (hρ b) hw h
    simpa [builtin] using this
  · exact h.elim

theorem op_sound {ρ : Operand → M} {η : Operand → Value} {o : Oper} (hρ : ∀ x, MR w Γ (ρ x) (η x)) (hw : WR w Γ B) (hid : ¬ Γ.used id) (h : aop P ρ B id o.op K) :
    Good Γ w id ((execOp η o).run P w) K := by
  generalize hop : o.op = op at h
  cases op <;> simp only [aop] at h <;> try exact h.elim
  case move x => unfold execOp; rw [hop]; exact .same hw rfl h (hρ x)
  case assign x => unfold execOp; rw [hop]; exact .same hw rfl h (hρ x)
  case pick c a b => unfold execOp; rw [hop]; exact good_pick (hρ c) (hρ a) (hρ b) hw h
  case alloc t => unfold execOp; rw [hop]; exact good_alloc hw hid h
  case box t x => unfold execOp; rw [hop]; exact good_box (hρ x) hw hid h
  case build t parts =>
    unfold execOp; rw [hop]
    exact good_build (by simpa using parts_map hρ parts.toList) hw h
  case buildSlice t len parts =>
    unfold execOp; rw [hop]
    exact good_buildSlice (by simpa using parts_map hρ parts.toList) hw hid h
  case load t a => unfold execOp; rw [hop]; exact good_load (hρ a) hw h
  case store t a x => unfold execOp; rw [hop]; exact good_store (hρ a) (hρ x) hw h
  case nilCheck x => exact good_nilCheck hop (hρ x) hw h
  case binOp op t x y yt => unfold execOp; rw [hop]; exact good_bin (hρ x) (hρ y) hw h
  case unOp op t x => unfold execOp; rw [hop]; exact good_un (hρ x) hw h
  case convert s t x => unfold execOp; rw [hop]; exact good_conv (hρ x) hw hid h
  case makeFunc f first captured =>
    unfold execOp; rw [hop]
    exact good_makeFunc (by simp) (by simp) (map_get hρ first) (map_get hρ captured) hw h
  case makeSlice t l c => unfold execOp; rw [hop]; exact good_makeSlice (hρ l) (hρ c) hw hid h
  case slice t x lo hi mx => unfold execOp; rw [hop]; exact good_slice (hρ x) (optMR_map hρ lo) (optMR_map hρ hi) (optMR_map hρ mx) hw h
  case fieldAddr s x f => unfold execOp; rw [hop]; exact good_fieldAddr (hρ x) hw h
  case field s x f => unfold execOp; rw [hop]; exact good_field (hρ x) hw h
  case indexAddr t x i => unfold execOp; rw [hop]; exact good_indexAddr (hρ x) (hρ i) hw h
  case index t x i => unfold execOp; rw [hop]; exact good_index (hρ x) (hρ i) hw h
  case extract t i => unfold execOp; rw [hop]; exact good_extract (hρ t) hw h
  case call c =>
    obtain ⟨callee, args, ts⟩ := c
    cases callee with
    | builtin b => exact good_builtin hop hρ hw hid (by simpa [aop] using h)
    | value f => simp [aop] at h
    | invoke r m => simp [aop] at h

end
end Go.Abs

/- The abstract layer, part O: regions in the order of the text, code, loops, and contracts. -/
namespace Go.Abs

def ev (env : Nat → M) : Operand → M
  | .tmp t => env t
  | .const v => ofV v
  | .global g => .d (.v (.pointer (some ⟨g, 0, none⟩)))
  | .func f => .fn (.func f) [] []

structure Rel (w : World) (Γ : G) (N : Nat) (env : Nat → M) (B : Bx) (n : Nat) (a : Act) : Prop where
  wr : WR w Γ B
  er : ER w Γ N env a
  lt : ∀ p, Γ.used p → p < n

theorem ev_ok {w : World} {Γ : G} {N : Nat} {env : Nat → M} {a : Act} (h : ER w Γ N env a) (x : Operand) : MR w Γ (ev env x) (a.eval x) := by
  cases x with
  | tmp t => exact h.slot t
  | const v => exact MR.ofV v
  | global g => exact .d (.v _)
  | func f => exact .fn rfl rfl (fun i x y h => by simp at h) (fun i x y h => by simp at h)

/-- The result laid into its slot. -/
def aput (N : Nat) (env : Nat → M) (dst : Option Tmp) (m : M) (K : (Nat → M) → Prop) : Prop := match dst with
  | none => K env
  | some t => t < N ∧ K (upd env t m)

theorem aput_ok {w : World} {Γ : G} {N : Nat} {env : Nat → M} {a : Act} {dst : Option Tmp} {m : M} {v : Value} {K : (Nat → M) → Prop} (h : ER w Γ N env a) (hm : MR w Γ m v)
    (hk : aput N env dst m K) : ∃ env', ER w Γ N env' (a.put dst v) ∧ K env' := by
  cases dst with
  | none => exact ⟨env, h, hk⟩
  | some t => exact ⟨_, h.put hk.1 hm, hk.2⟩

/-- A call of a function of the program: of pure data, by its contract; or the caller's boxes go along. -/
def acall (P : Program) (f : FuncId) (ts : List TypeId) (fs args cs : List M) (B : Bx) (n : Nat) (K : KT) : Prop :=
  (∃ m, PFn P f (fs ++ (frzA P B ts args).1 ++ cs) m ∧ (fs ++ (frzA P B ts args).1 ++ cs).all M.p1 = true ∧ m.p2 = true ∧ K m (frzA P B ts args).2 n) ∨ AFn P f (fs ++ args ++ cs) B n K ∨ AFn P f (fs ++ (frzA P B ts args).1 ++ cs) (frzA P B ts args).2 n K

/-- One operation. -/
def astep (P : Program) (env : Nat → M) (B : Bx) (n : Nat) (o : Op) (K : KT) : Prop := match o with
  | .call { callee := .value f, args, argTypes } => (match ev env f with
    | .fn (.func k) fs cs => acall P k argTypes.toList fs (args.toList.map (ev env)) cs B (n + 1) K
    | _ => False)
  | o => aop P (ev env) B n o fun m B' => K m B' (n + 1)

def guardV (ops : Array Oper) (env : Nat → M) (j : Nat) : M := match (ops[j]?).bind (·.dst) with
  | some t => env t
  | none => undefM

/-- The slot that a guard reads, with what is now known of it. -/
def gset (ops : Array Oper) (env : Nat → M) (j : Nat) (b : Bool) : Nat → M := match (ops[j]?).bind (·.dst) with
  | some t => upd env t (.d (.v (.bool b)))
  | none => env

theorem gset_eq {ops : Array Oper} {env : Nat → M} {j : Nat} {b : Bool} (h : guardV ops env j = .d (.v (.bool b))) : gset ops env j b = env := by
  unfold guardV at h
  unfold gset
  cases hd : (ops[j]?).bind (·.dst) with
  | none => rfl
  | some t =>
    rw [hd] at h
    funext s
    simp only [upd]
    split
    · rename_i e; subst e; exact h.symm
    · rfl

def aops (P : Program) (N : Nat) (ops : Array Oper) : List Oper → (Nat → M) → Bx → Nat → ((Nat → M) → Bx → Nat → Prop) → Prop
  | [], env, B, n, Q => Q env B n
  | o :: l, env, B, n, Q => match o.guard with
    | none => astep P env B n o.op fun m B' n' => aput N env o.dst m fun env' => aops P N ops l env' B' n' Q
    | some (j, want) => match guardV ops env j with
      | .d (.v (.bool b)) =>
        (b = want → astep P (gset ops env j want) B n o.op fun m B' n' => aput N (gset ops env j want) o.dst m fun env' => aops P N ops l env' B' n' Q) ∧
        ((b = !want) → aput N (gset ops env j (!want)) o.dst undefM fun env' => aops P N ops l env' B n Q)
      | m => m = undefM ∧ aput N env o.dst undefM fun env' => aops P N ops l env' B n Q

section
variable {P : Program} {N : Nat} {ops : Array Oper}

theorem wanted_none {o : Oper} {y : Nat → Option Bool} (h : o.guard = none) : Region.wanted o y = true := by unfold Region.wanted; rw [h]
theorem wanted_some {o : Oper} {y : Nat → Option Bool} {j : Nat} {want : Bool} (h : o.guard = some (j, want)) : Region.wanted o y = (y j == some want) := by unfold Region.wanted; rw [h]

theorem guardV_ok {w : World} {Γ : G} {env : Nat → M} {a : Act} (h : ER w Γ N env a) {j : Nat} {b : Bool} (hg : guardV ops env j = .d (.v (.bool b))) : yielded ops a.tmps j = some b := by
  unfold guardV at hg
  unfold yielded
  split at hg
  · rename_i t ht
    rw [ht]
    have hm := h.slot t
    rw [hg] at hm
    have := mr_v hm
    simp only [Option.bind_some]
    by_cases hlt : t < a.tmps.size
    · simp [Array.getD, hlt] at this
      simp [hlt, this]
    · simp [Array.getD, hlt] at this
      cases this
  · simp [undefM, undef] at hg

theorem guardV_undef {w : World} {Γ : G} {env : Nat → M} {a : Act} (h : ER w Γ N env a) {j : Nat} (hg : guardV ops env j = undefM) : yielded ops a.tmps j = none := by
  unfold guardV at hg
  unfold yielded
  split at hg
  · rename_i t ht
    rw [ht]
    have hm := h.slot t
    rw [hg] at hm
    have := mr_v hm
    simp only [Option.bind_some]
    by_cases hlt : t < a.tmps.size
    · simp [Array.getD, hlt] at this
      simp [hlt, this, undef]
    · simp [hlt]
  · rename_i hn
    rw [hn]; rfl

theorem call_exec {f : Operand} {args : Array Operand} {ts : Array TypeId} {η : Operand → Value} {o : Oper} {w : World} {k : FuncId} {fs cs : Array Value} {fn : Func}
    (ho : o.op = .call { callee := .value f, args := args, argTypes := ts }) (hf : η f = .func (.func k) fs cs) (hk : P.funcs[k]? = some fn) (hb : fn.body.isSome = true) (hn : (fn.name == "runtime.NumGoroutine") = false) :
    (execOp η o).run P w = .ok (.enter k (fs ++ args.map η ++ cs)) w := by
  have hnone : fn.body.isNone = false := by cases h : fn.body <;> simp_all
  unfold execOp
  rw [ho]
  simp only [resolve, hf, Deferred.ofValue, Sem.run_bind, Sem.run_pure, Result.andThen_ok, invoke, callFunc, run_program, hk, hn, hnone, Bool.false_eq_true, if_false]

/-- One step, on the model's side. -/
theorem step_sound {env : Nat → M} {B : Bx} {n : Nat} {o : Oper} {K : KT} {w : World} {Γ : G} {a : Act} {next : Act → World → Prop} {Q : Exit → Act → World → Prop}
    (hb : Base P Γ w) (hr : Rel w Γ N env B n a) (h : astep P env B n o.op K)
    (hnext : ∀ (cv : Value) (w' : World) (Γ' : G) (m : M) (B' : Bx) (n' : Nat), K m B' n' → Ext Γ w Γ' w' → WR w' Γ' B' → (∀ p, Γ'.used p → p < n') → MR w' Γ' m cv → next (a.put o.dst cv) w') :
    o.wp P a w next Q := by
  have hid : ¬ Γ.used n := fun hu => by have := hr.lt n hu; omega
  have plain : (∀ m B', K m B' (n + 1) → K m B' (n + 1)) → aop P (ev env) B n o.op (fun m B' => K m B' (n + 1)) → o.wp P a w next Q := by
    intro _ h
    obtain ⟨cv, w', Γ', m, B', hrun, hk, he, hw, hu, hm⟩ := op_sound (η := a.eval) (ev_ok hr.er) hr.wr hid h
    have hlt : ∀ p, Γ'.used p → p < n + 1 := fun p hp => by
      rcases hu p hp with rfl | h'
      · omega
      · have := hr.lt p h'; omega
    have := hnext cv w' Γ' m B' (n + 1) hk he hw hlt hm
    unfold Oper.wp
    rcases hrun with hrun | ⟨hrun, rfl⟩
    · rw [hrun]; exact this
    · rw [hrun]; exact this
  unfold astep at h
  split at h
  · rename_i f args ts hop
    split at h
    · rename_i k fs cs hf
      have hfv := ev_ok hr.er f
      rw [hf] at hfv
      generalize hv : a.eval f = v at hfv
      cases hfv with
      | @fn _ _ _ fv cv h1 h2 h3 h4 =>
        have hargs : Args w Γ (args.toList.map (ev env)) (args.map a.eval).toList :=
          ⟨by simp, fun i x y hx hy => map_get (ev_ok hr.er) args i x y hx (by simpa using hy)⟩
        have hfs : Args w Γ fs fv.toList := ⟨by simpa using h1, fun i x y hx hy => h3 i x y hx (by simpa using hy)⟩
        have hcs : Args w Γ cs cv.toList := ⟨by simpa using h2, fun i x y hx hy => h4 i x y hx (by simpa using hy)⟩
        have hmain : (∃ Γ1 B1 args1, Ext Γ w Γ1 w ∧ WR w Γ1 B1 ∧ Γ1.used = Γ.used ∧ Args w Γ1 args1 (args.map a.eval).toList ∧ AFn P k (fs ++ args1 ++ cs) B1 (n + 1) K) ∨ ∃ Γ1 B1 args1 m, Ext Γ w Γ1 w ∧ WR w Γ1 B1 ∧ Γ1.used = Γ.used ∧ Args w Γ1 args1 (args.map a.eval).toList ∧
            PFn P k (fs ++ args1 ++ cs) m ∧ (fs ++ args1 ++ cs).all M.p1 = true ∧ m.p2 = true ∧ K m B1 (n + 1) := by
          rcases h with ⟨m, hp, ha, hm, hk⟩ | h
          · obtain ⟨Γ1, e1, w1, u1, a1⟩ := frzA_ok (P := P) (ts := ts.toList) hr.wr hargs
            exact .inr ⟨Γ1, _, _, m, e1, w1, u1, a1, hp, ha, hm, hk⟩
          · rcases h with h | h
            · exact .inl ⟨Γ, B, _, Ext.refl _ _, hr.wr, rfl, hargs, h⟩
            · obtain ⟨Γ1, e1, w1, u1, a1⟩ := frzA_ok (P := P) (ts := ts.toList) hr.wr hargs
              exact .inl ⟨Γ1, _, _, e1, w1, u1, a1, h⟩
        have hvs : (fv.toList ++ (args.map a.eval).toList ++ cv.toList).toArray = fv ++ args.map a.eval ++ cv := by
          apply Array.ext'
          simp
        have hent : Enters P k := by
          rcases hmain with ⟨_, _, _, _, _, _, _, h⟩ | ⟨_, _, _, _, _, _, _, _, hp, _⟩
          · exact h.1
          · exact hp.1
        have hcall : Calls P k (fv ++ args.map a.eval ++ cv) w fun e w' => ∃ cv Γ' m B' n', e = .returned cv ∧ K m B' n' ∧ Ext Γ w Γ' w' ∧ WR w' Γ' B' ∧ (∀ p, Γ'.used p → p < n') ∧ MR w' Γ' m cv := by
          rcases hmain with ⟨Γ1, B1, args1, e1, w1, u1, a1, h⟩ | ⟨Γ1, B1, args1, m, e1, w1, u1, a1, hp, ha, hm, hk⟩
          · have := h.2 Γ1 w _ (hb.ext e1) w1 (fun p hp => by rw [u1] at hp; have := hr.lt p hp; omega) (((hfs.ext e1 hr.wr.lt).append a1).append (hcs.ext e1 hr.wr.lt))
            rw [hvs] at this
            exact this.mono fun e w' ⟨cv, Γ', m', B', n', q1, q2, q3, q4⟩ => ⟨cv, Γ', m', B', n', q1, q2, e1.trans q3, q4⟩
          · have := (AFn.of_pure hp ha hm (B := B1) (n := n + 1) (K := K) hk).2 Γ1 w _ (hb.ext e1) w1 (fun p hp => by rw [u1] at hp; have := hr.lt p hp; omega)
              (((hfs.ext e1 hr.wr.lt).append a1).append (hcs.ext e1 hr.wr.lt))
            rw [hvs] at this
            exact this.mono fun e w' ⟨cv, Γ', m', B', n', q1, q2, q3, q4⟩ => ⟨cv, Γ', m', B', n', q1, q2, e1.trans q3, q4⟩
        obtain ⟨fn, hfn, hbody, hname⟩ := hent
        have hrun := call_exec (P := P) (w := w) (η := a.eval) hop hv hfn hbody hname
        unfold Oper.wp
        rw [hrun, Oper.upon_enter]
        exact hcall.mono fun e w' ⟨cv, Γ', m, B', n', he, hk, hx, hw, hu, hm⟩ => by
          subst he
          exact hnext cv w' Γ' m B' n' hk hx hw hu hm
    · exact h.elim
  · rename_i hne
    exact plain (fun _ _ h => h) h

end
end Go.Abs

/- The abstract layer, part Q: what an operation looks at, and what it leaves alone. -/
namespace Go.Abs

def M.id1 : M → List Nat
  | .ptr p _ | .hsl p _ | .aptr p _ _ _ => [p]
  | _ => []
def M.ids : M → List Nat
  | .agg cs => cs.flatMap M.id1
  | m => m.id1

/-- The boxes that an operation looks at. -/
def touch (ρ : Operand → M) : Op → List Nat
  | .load _ a | .nilCheck a | .fieldAddr _ a _ | .indexAddr _ a _ | .slice _ a _ _ _ | .convert _ _ a | .binOp _ _ a _ _ | .store _ a _ => (ρ a).ids
  | .buildSlice _ _ parts => parts.toList.flatMap fun x => (ρ x.2).ids
  | .call c => c.args.toList.flatMap fun x => (ρ x).ids
  | _ => []

def kT : Op → Bool
  | .load .. | .nilCheck .. | .fieldAddr .. | .indexAddr .. | .slice .. | .convert .. | .binOp .. | .store .. | .buildSlice .. | .call .. => true
  | _ => false

def kW : Op → Bool
  | .slice .. | .convert .. | .store .. | .buildSlice .. | .call .. | .alloc .. | .box .. | .makeSlice .. => true
  | _ => false

/-- The boxes that it may write, the new one among them. -/
def wrs (ρ : Operand → M) (id : Nat) (o : Op) : List Nat := if kW o then id :: touch ρ o else []

theorem touch_kT {ρ : Operand → M} {o : Op} (h : kT o = false) : touch ρ o = [] := by cases o <;> first | rfl | cases h

/-- B with U laid over it. -/
def over (U B : Bx) (q : Nat) : Option Box := match U.get q with | some x => some x | none => B.get q

theorem get_one (p q : Nat) (x : Box) : Bx.get [(p, x)] q = if p = q then some x else none := by rw [Bx.get_cons]; rfl

theorem over_cons (B : Bx) (p q : Nat) (x : Box) : Bx.get ((p, x) :: B) q = over [(p, x)] B q := by
  rw [Bx.get_cons, over, get_one]
  by_cases h : p = q <;> simp [h]

theorem over_set {B : Bx} {p q : Nat} {x y : Box} (h : B.get p = some y) : Bx.get (B.set p x) q = over [(p, x)] B q := by
  rw [Bx.get_set, over, get_one]
  by_cases hq : p = q
  · subst hq; simp [h]
  · simp [hq]

/-- Two stocks of boxes agree on some of them. -/
def Agr (T : List Nat) (B B' : Bx) : Prop := ∀ p, p ∈ T → B'.get p = B.get p

theorem cellsAt_agr {B B' : Bx} {m : M} (h : Agr m.ids B B') : cellsAt B' m = cellsAt B m := by
  cases m <;> first
    | rfl
    | (simp only [cellsAt]; rw [h _ (by simp [M.ids, M.id1])])

theorem seqD_agr {B B' : Bx} {m : M} (h : Agr m.ids B B') : seqD B' m = seqD B m := by
  cases m <;> first
    | rfl
    | (simp only [seqD]; rw [h _ (by simp [M.ids, M.id1])])
    | (rename_i x; cases x <;> rfl)

theorem appL_agr {B B' : Bx} {m : M} {sz : Nat} (h : Agr m.ids B B') : appL B' sz m = appL B sz m := by
  cases m <;> first
    | rfl
    | (simp only [appL]; rw [h _ (by simp [M.ids, M.id1])])
    | (rename_i x; clear h; unfold appL; split <;> first | rfl | simp_all)

theorem over_over (U V B : Bx) : ∀ q, over (V ++ U) B q = match V.get q with | some x => some x | none => over U B q := by
  intro q
  have : Bx.get (V ++ U) q = match V.get q with | some x => some x | none => U.get q := by
    induction V with
    | nil => rfl
    | cons y V ih =>
      have h1 : Bx.get (y :: V ++ U) q = if y.1 = q then some y.2 else Bx.get (V ++ U) q := Bx.get_cons _ _ _ _
      have h2 : Bx.get (y :: V) q = if y.1 = q then some y.2 else Bx.get V q := Bx.get_cons _ _ _ _
      rw [h1, h2]
      by_cases hq : y.1 = q
      · simp [hq]
      · simp [hq, ih]
  simp only [over, this]
  cases V.get q <;> rfl

/-- A freeze, at whatever boxes agree: the same value, the same turns. -/
theorem frz1_loc (B : Bx) (s : Option Nat) (m : M) : ∃ U : Bx, (∀ x, x ∈ U → x.1 ∈ m.id1) ∧ (∀ q, (frz1 B s m).2.get q = over U B q) ∧
    ∀ B', Agr m.id1 B B' → (frz1 B' s m).1 = (frz1 B s m).1 ∧ ∀ q, (frz1 B' s m).2.get q = over U B' q := by
  have none : (∀ B', Agr m.id1 B B' → (frz1 B' s m).1 = (frz1 B s m).1 ∧ (frz1 B' s m).2 = B') → (frz1 B s m).2 = B → ∃ U : Bx, (∀ x, x ∈ U → x.1 ∈ m.id1) ∧ (∀ q, (frz1 B s m).2.get q = over U B q) ∧
    ∀ B', Agr m.id1 B B' → (frz1 B' s m).1 = (frz1 B s m).1 ∧ ∀ q, (frz1 B' s m).2.get q = over U B' q := fun h1 h2 =>
    ⟨[], fun x hx => by simp at hx, fun q => by rw [h2]; rfl, fun B' hB => ⟨(h1 B' hB).1, fun q => by rw [(h1 B' hB).2]; rfl⟩⟩
  cases m with
  | hsl p k =>
    cases hp : B.get p with
    | none =>
      refine none (fun B' hB => ?_) (by simp [frz1, hp])
      have := hB p (by simp [M.id1])
      rw [hp] at this
      simp [frz1, hp, this]
    | some bx =>
      cases bx with
      | st c =>
        refine none (fun B' hB => ?_) (by simp [frz1, hp])
        have := hB p (by simp [M.id1])
        rw [hp] at this
        simp [frz1, hp, this]
      | ar fz sz l tg =>
        by_cases hk : l.length = k
        · cases hu : unpure2 l with
          | none =>
            refine none (fun B' hB => ?_) (by simp [frz1, hp, hk, hu])
            have := hB p (by simp [M.id1])
            rw [hp] at this
            simp [frz1, hp, this, hk, hu]
          | some l' =>
            refine ⟨[(p, .ar true sz l)], fun x hx => ?_, fun q => ?_, fun B' hB => ?_⟩
            · simp at hx; subst hx; simp [M.id1]
            · simp only [frz1, hp, hk, hu, if_true]
              exact over_set hp
            · have hp' := hB p (by simp [M.id1])
              rw [hp] at hp'
              simp only [frz1, hp, hp', hk, hu, if_true]
              exact ⟨trivial, fun q => over_set hp'⟩
        · refine none (fun B' hB => ?_) (by simp [frz1, hp, hk])
          have := hB p (by simp [M.id1])
          rw [hp] at this
          simp [frz1, hp, this, hk]
  | d x =>
    have h2 : ∀ B, (frz1 B s (.d x)).2 = B := fun B => by
      unfold frz1
      split
      · rename_i h; cases h
      · split <;> rfl
      · rfl
    refine none (fun B' _ => ⟨?_, h2 B'⟩) (h2 B)
    unfold frz1
    split
    · rename_i h; cases h
    · split <;> rfl
    · rfl
  | _ => exact none (fun B' _ => ⟨rfl, rfl⟩) rfl

theorem frzs_loc : ∀ (ss : List (Option Nat)) (ms : List M) (B : Bx), ∃ U : Bx, (∀ x, x ∈ U → x.1 ∈ ms.flatMap M.id1) ∧ (∀ q, (frzs B ss ms).2.get q = over U B q) ∧
    ∀ B', Agr (ms.flatMap M.id1) B B' → (frzs B' ss ms).1 = (frzs B ss ms).1 ∧ ∀ q, (frzs B' ss ms).2.get q = over U B' q
  | [], ms, B => ⟨[], fun x hx => by simp at hx, fun q => by simp [frzs]; rfl, fun B' _ => ⟨by simp [frzs], fun q => by simp [frzs]; rfl⟩⟩
  | _ :: _, [], B => ⟨[], fun x hx => by simp at hx, fun q => by simp [frzs]; rfl, fun B' _ => ⟨by simp [frzs], fun q => by simp [frzs]; rfl⟩⟩
  | s :: ss, m :: ms, B => by
    obtain ⟨U1, a1, a2, a3⟩ := frz1_loc B s m
    obtain ⟨U2, b1, b2, b3⟩ := frzs_loc ss ms (frz1 B s m).2
    have hov : ∀ q, over U2 (frz1 B s m).2 q = over (U2 ++ U1) B q := fun q => by
      rw [over_over, over]
      cases U2.get q with
      | none => exact a2 q
      | some _ => rfl
    refine ⟨U2 ++ U1, fun x hx => ?_, fun q => ?_, fun B' hB => ?_⟩
    · simp only [List.flatMap_cons, List.mem_append]
      rcases List.mem_append.1 hx with hx | hx
      · exact .inr (b1 x hx)
      · exact .inl (a1 x hx)
    · simp only [frzs]
      rw [b2 q, hov q]
    · obtain ⟨c1, c2⟩ := a3 B' (fun p hp => hB p (by simp [hp]))
      have hB2 : Agr (ms.flatMap M.id1) (frz1 B s m).2 (frz1 B' s m).2 := fun p hp => by
        rw [c2, a2, over, over, hB p (by simp only [List.flatMap_cons, List.mem_append]; exact .inr hp)]
      obtain ⟨d1, d2⟩ := b3 (frz1 B' s m).2 hB2
      simp only [frzs]
      refine ⟨by rw [c1, d1], fun q => ?_⟩
      rw [d2 q, over_over, over]
      cases U2.get q with
      | none => exact c2 q
      | some _ => rfl

theorem frzT_loc (P : Program) (t : TypeId) (m : M) (B : Bx) : ∃ U : Bx, (∀ x, x ∈ U → x.1 ∈ m.ids) ∧ (∀ q, (frzT P B t m).2.get q = over U B q) ∧
    ∀ B', Agr m.ids B B' → (frzT P B' t m).1 = (frzT P B t m).1 ∧ ∀ q, (frzT P B' t m).2.get q = over U B' q := by
  cases m with
  | agg cs =>
    obtain ⟨U, a1, a2, a3⟩ := frzs_loc (cty P 9 t) cs B
    exact ⟨U, a1, a2, fun B' hB => by
      obtain ⟨c1, c2⟩ := a3 B' hB
      exact ⟨by simp only [frzT, c1], c2⟩⟩
  | d x => exact frz1_loc B ((cty P 9 t).headD none) (.d x)
  | ptr p o => exact frz1_loc B ((cty P 9 t).headD none) (.ptr p o)
  | eptr c o => exact frz1_loc B ((cty P 9 t).headD none) (.eptr c o)
  | hsl p n => exact frz1_loc B ((cty P 9 t).headD none) (.hsl p n)
  | aptr p n i o => exact frz1_loc B ((cty P 9 t).headD none) (.aptr p n i o)
  | tup c => exact frz1_loc B ((cty P 9 t).headD none) (.tup c)
  | fn f a b => exact frz1_loc B ((cty P 9 t).headD none) (.fn f a b)

theorem frzA_loc (P : Program) : ∀ (ts : List TypeId) (ms : List M) (B : Bx), ∃ U : Bx, (∀ x, x ∈ U → x.1 ∈ ms.flatMap M.ids) ∧ (∀ q, (frzA P B ts ms).2.get q = over U B q) ∧
    ∀ B', Agr (ms.flatMap M.ids) B B' → (frzA P B' ts ms).1 = (frzA P B ts ms).1 ∧ ∀ q, (frzA P B' ts ms).2.get q = over U B' q
  | [], ms, B => ⟨[], fun x hx => by simp at hx, fun q => by simp [frzA]; rfl, fun B' _ => ⟨by simp [frzA], fun q => by simp [frzA]; rfl⟩⟩
  | _ :: _, [], B => ⟨[], fun x hx => by simp at hx, fun q => by simp [frzA]; rfl, fun B' _ => ⟨by simp [frzA], fun q => by simp [frzA]; rfl⟩⟩
  | s :: ss, m :: ms, B => by
    obtain ⟨U1, a1, a2, a3⟩ := frzT_loc P s m B
    obtain ⟨U2, b1, b2, b3⟩ := frzA_loc P ss ms (frzT P B s m).2
    have hov : ∀ q, over U2 (frzT P B s m).2 q = over (U2 ++ U1) B q := fun q => by
      rw [over_over, over]
      cases U2.get q with
      | none => exact a2 q
      | some _ => rfl
    refine ⟨U2 ++ U1, fun x hx => ?_, fun q => ?_, fun B' hB => ?_⟩
    · simp only [List.flatMap_cons, List.mem_append]
      rcases List.mem_append.1 hx with hx | hx
      · exact .inr (b1 x hx)
      · exact .inl (a1 x hx)
    · simp only [frzA]
      rw [b2 q, hov q]
    · obtain ⟨c1, c2⟩ := a3 B' (fun p hp => hB p (by simp [hp]))
      have hB2 : Agr (ms.flatMap M.ids) (frzT P B s m).2 (frzT P B' s m).2 := fun p hp => by
        rw [c2, a2, over, over, hB p (by simp only [List.flatMap_cons, List.mem_append]; exact .inr hp)]
      obtain ⟨d1, d2⟩ := b3 (frzT P B' s m).2 hB2
      simp only [frzA]
      refine ⟨by rw [c1, d1], fun q => ?_⟩
      rw [d2 q, over_over, over]
      cases U2.get q with
      | none => exact c2 q
      | some _ => rfl

theorem frzP_loc (P : Program) (t : TypeId) : ∀ (ps : List (Nat × M)) (B : Bx), ∃ U : Bx, (∀ x, x ∈ U → x.1 ∈ ps.flatMap fun y => y.2.ids) ∧ (∀ q, (frzP P t B ps).2.get q = over U B q) ∧
    ∀ B', Agr (ps.flatMap fun y => y.2.ids) B B' → (frzP P t B' ps).1 = (frzP P t B ps).1 ∧ ∀ q, (frzP P t B' ps).2.get q = over U B' q
  | [], B => ⟨[], fun x hx => by simp at hx, fun q => by simp [frzP]; rfl, fun B' _ => ⟨by simp [frzP], fun q => by simp [frzP]; rfl⟩⟩
  | (i, m) :: ms, B => by
    obtain ⟨U1, a1, a2, a3⟩ := frzT_loc P t m B
    obtain ⟨U2, b1, b2, b3⟩ := frzP_loc P t ms (frzT P B t m).2
    have hov : ∀ q, over U2 (frzT P B t m).2 q = over (U2 ++ U1) B q := fun q => by
      rw [over_over, over]
      cases U2.get q with
      | none => exact a2 q
      | some _ => rfl
    refine ⟨U2 ++ U1, fun x hx => ?_, fun q => ?_, fun B' hB => ?_⟩
    · simp only [List.flatMap_cons, List.mem_append]
      rcases List.mem_append.1 hx with hx | hx
      · exact .inr (b1 x hx)
      · exact .inl (a1 x hx)
    · simp only [frzP]
      rw [b2 q, hov q]
    · obtain ⟨c1, c2⟩ := a3 B' (fun p hp => hB p (by simp only [List.flatMap_cons, List.mem_append]; exact .inl hp))
      have hB2 : Agr (ms.flatMap fun y => y.2.ids) (frzT P B t m).2 (frzT P B' t m).2 := fun p hp => by
        rw [c2, a2, over, over, hB p (by simp only [List.flatMap_cons, List.mem_append]; exact .inr hp)]
      obtain ⟨d1, d2⟩ := b3 (frzT P B' t m).2 hB2
      simp only [frzP]
      refine ⟨by rw [c1, d1], fun q => ?_⟩
      rw [d2 q, over_over, over]
      cases U2.get q with
      | none => exact c2 q
      | some _ => rfl

end Go.Abs

/- The abstract layer, part R: each operation looks at its own boxes alone. -/
namespace Go.Abs

def Loc (F : Bx → K2 → Prop) (T W : List Nat) : Prop :=
  ∀ (B : Bx) (K : K2), F B K → ∃ (m : M) (B1 : Bx) (U : Bx), K m B1 ∧ (∀ q, B1.get q = over U B q) ∧ (∀ x, x ∈ U → x.1 ∈ W) ∧
    ∀ (B' : Bx), Agr T B B' → F B' fun m' B'' => m' = m ∧ ∀ q, B''.get q = over U B' q

theorem Loc.same {F : Bx → K2 → Prop} {T W : List Nat} (h : ∀ (B : Bx) (K : K2), F B K → ∃ m, K m B ∧ ∀ (B' : Bx), Agr T B B' → ∀ K' : K2, K' m B' → F B' K') : Loc F T W :=
  fun B K hF => by
    obtain ⟨m, h1, h2⟩ := h B K hF
    exact ⟨m, B, [], h1, fun q => rfl, fun x hx => by simp at hx, fun B' hB => h2 B' hB _ ⟨rfl, fun q => rfl⟩⟩

theorem Loc.new {F : Bx → K2 → Prop} {T W : List Nat} {id : Nat} (hW : id ∈ W)
    (h : ∀ (B : Bx) (K : K2), F B K → ∃ m x, K m ((id, x) :: B) ∧ ∀ (B' : Bx), Agr T B B' → ∀ K' : K2, K' m ((id, x) :: B') → F B' K') : Loc F T W :=
  fun B K hF => by
    obtain ⟨m, x, h1, h2⟩ := h B K hF
    exact ⟨m, (id, x) :: B, [(id, x)], h1, fun q => over_cons B id q x, fun y hy => by simp at hy; subst hy; exact hW,
      fun B' hB => h2 B' hB _ ⟨rfl, fun q => over_cons B' id q x⟩⟩

/-- An operation that writes one box that it looks at. -/
theorem Loc.set {F : Bx → K2 → Prop} {T W : List Nat}
    (h : ∀ (B : Bx) (K : K2), F B K → ∃ m p x y, p ∈ T ∧ p ∈ W ∧ B.get p = some y ∧ K m (B.set p x) ∧ ∀ (B' : Bx), Agr T B B' → ∀ K' : K2, K' m (B'.set p x) → F B' K') : Loc F T W :=
  fun B K hF => by
    obtain ⟨m, p, x, y, hp, hW, hy, h1, h2⟩ := h B K hF
    exact ⟨m, B.set p x, [(p, x)], h1, fun q => over_set hy, fun z hz => by simp at hz; subst hz; exact hW,
      fun B' hB => h2 B' hB _ ⟨rfl, fun q => over_set (by rw [hB p hp]; exact hy)⟩⟩

section
variable {P : Program} {id : Nat} {W : List Nat}

theorem loc_kopt (o : Option Value) (T : List Nat) : Loc (kopt o) T W := Loc.same fun B K h => by
  unfold kopt at h ⊢
  split at h
  · exact ⟨_, h, fun _ _ _ h => h⟩
  · exact h.elim

theorem loc_pick (c a b : M) (T : List Nat) : Loc (aPick c a b) T W := Loc.same fun B K h => by
  unfold aPick at h ⊢
  split at h
  · rename_i t
    split at h
    · exact ⟨_, h, fun _ _ _ h => h⟩
    · by_cases ht : t = true
      · exact ⟨a, h.1 ht, fun _ _ _ h => ⟨fun _ => h, fun hh => by rw [ht] at hh; cases hh⟩⟩
      · have ht' : t = false := by simpa using ht
        exact ⟨b, h.2 ht', fun _ _ _ h => ⟨fun hh => absurd hh ht, fun _ => h⟩⟩
  · exact h.elim

theorem loc_alloc (t : TypeId) (T : List Nat) (hW : id ∈ W) : Loc (fun B K => aAlloc P t B id K) T W := Loc.new hW fun B K h => by
  unfold aAlloc at h ⊢
  split at h
  · exact ⟨_, _, h.2, fun _ _ _ hk => ⟨h.1, hk⟩⟩
  · exact h.elim

theorem loc_box (m : M) (T : List Nat) (hW : id ∈ W) : Loc (fun B K => aBox m B id K) T W := Loc.new hW fun B K h => by
  unfold aBox at h ⊢
  split at h
  · exact ⟨_, _, h.2, fun _ _ _ hk => ⟨h.1, hk⟩⟩
  · exact ⟨_, _, h.2, fun _ _ _ hk => ⟨h.1, hk⟩⟩

theorem loc_load (t : TypeId) (a : M) : Loc (aLoad P t a) a.ids W := Loc.same fun B K h => by
  unfold aLoad at h
  split at h
  · rename_i c o hc
    split at h
    · rename_i m hm
      exact ⟨m, h, fun B' hB K' hk => by unfold aLoad; rw [cellsAt_agr hB, hc]; simp only [hm]; exact hk⟩
    · exact h.elim
  · exact h.elim

theorem loc_store (t : TypeId) (a x : M) (hW : ∀ p, p ∈ a.ids → p ∈ W) : Loc (aStore P t a x) a.ids W := Loc.set fun B K h => by
  unfold aStore at h
  split at h
  · exact h.elim
  · rename_i cs hcs
    obtain ⟨hs, h⟩ := h
    split at h
    · rename_i p o
      split at h
      · rename_i c hB
        refine ⟨_, p, _, _, by simp [M.ids, M.id1], hW p (by simp [M.ids, M.id1]), hB, h.2, fun B' hB' K' hk => ?_⟩
        unfold aStore
        rw [hcs]
        simp only [hB' p (by simp [M.ids, M.id1]), hB]
        exact ⟨hs, h.1, hk⟩
      · exact h.elim
    · rename_i p n i o
      split at h
      · rename_i fz sz l hB
        split at h
        · rename_i c hi
          refine ⟨_, p, _, _, by simp [M.ids, M.id1], hW p (by simp [M.ids, M.id1]), hB, h.2, fun B' hB' K' hk => ?_⟩
          unfold aStore
          rw [hcs]
          simp only [hB' p (by simp [M.ids, M.id1]), hB, hi]
          exact ⟨hs, h.1, hk⟩
        · exact h.elim
      · exact h.elim
    · exact h.elim

theorem loc_nilCheck (a : M) : Loc (aNilCheck a) a.ids W := Loc.same fun B K h => by
  unfold aNilCheck at h
  split at h
  · exact ⟨_, h, fun _ _ _ h => h⟩
  · rename_i hne
    split at h
    · rename_i y hc
      refine ⟨a, h, fun B' hB K' hk => ?_⟩
      unfold aNilCheck
      split
      · rename_i f fs cs
        exact absurd rfl (hne f fs cs)
      · rw [cellsAt_agr hB, hc]; exact hk
    · exact h.elim

/-- '==' as a region that draws its order takes it: not of a slice and nil. -/
def aBinD (P : Program) (op : BinOp) (t : TypeId) (xo yo : Operand) (x y : M) (B : Bx) (K : K2) : Prop := match x with
  | .d (.sl _ _) => False
  | x => aBin P op t xo yo x y B K

theorem loc_bin (op : BinOp) (t : TypeId) (xo yo : Operand) (x y : M) : Loc (aBinD P op t xo yo x y) x.ids W := fun B K h => by
  unfold aBinD at h ⊢
  split at h
  · exact h.elim
  · rename_i hns
    have key : Loc (aBin P op t xo yo x y) x.ids W := Loc.same fun B K h => by
      unfold aBin at h
      split at h
      · rename_i a b ha hb
        unfold kopt at h
        split at h
        · rename_i v hv
          exact ⟨_, h, fun B' _ K' hk => by unfold aBin; rw [ha, hb]; simp only [kopt, hv]; exact hk⟩
        · exact h.elim
      · rename_i hno
        split at h
        · exact absurd rfl (hns _ _)
        · rename_i p o _
          obtain ⟨⟨h1, h2, h3⟩, h⟩ := h
          have fin : ∀ (B' : Bx), Agr (M.ptr p o).ids B B' → (Bx.get B' p).isSome = true := fun B' hB => by
            rw [hB p (by simp [M.ids, M.id1])]; exact h3
          have hv : (M.ptr p o).val? = none := rfl
          cases op <;> try exact h.elim
          · exact ⟨_, h, fun B' hB K' hk => by unfold aBin; simp only [hv]; exact ⟨⟨h1, h2, fin B' hB⟩, hk⟩⟩
          · exact ⟨_, h, fun B' hB K' hk => by unfold aBin; simp only [hv]; exact ⟨⟨h1, h2, fin B' hB⟩, hk⟩⟩
        · exact h.elim
    obtain ⟨m, B1, U, g1, g2, g3, g4⟩ := key B K h
    refine ⟨m, B1, U, g1, g2, g3, fun B' hB => ?_⟩
    exact g4 B' hB

theorem loc_un (op : UnOp) (x : M) (T : List Nat) : Loc (aUn P op x) T W := fun B K h => by
  unfold aUn at h ⊢
  split at h
  · exact loc_kopt _ T B K h
  · exact h.elim

theorem loc_extract (m : M) (i : Nat) (T : List Nat) : Loc (aExtract m i) T W := Loc.same fun B K h => by
  unfold aExtract at h ⊢
  split at h
  · split at h
    · exact ⟨_, h, fun _ _ _ h => h⟩
    · exact h.elim
  · exact h.elim

theorem loc_field (t : TypeId) (m : M) (f : Nat) (T : List Nat) : Loc (aField P t m f) T W := Loc.same fun B K h => by
  unfold aField at h ⊢
  split at h
  · split at h
    · exact ⟨_, h, fun _ _ _ h => h⟩
    · exact h.elim
  · exact h.elim

theorem loc_index (t : TypeId) (m i : M) (T : List Nat) : Loc (aIndex P t m i) T W := Loc.same fun B K h => by
  unfold aIndex at h ⊢
  split at h
  · split at h
    · exact ⟨_, h.2, fun _ _ _ hk => ⟨h.1, hk⟩⟩
    · split at h
      · split at h
        · obtain ⟨h0, h⟩ := h
          split at h
          · exact ⟨_, h, fun _ _ _ hk => ⟨h0, hk⟩⟩
          · exact h.elim
        · exact h.elim
      · exact h.elim
    · exact h.elim
  · exact h.elim

theorem loc_fieldAddr (t : TypeId) (a : M) (f : Nat) : Loc (aFieldAddr P t a f) a.ids W := Loc.same fun B K h => by
  unfold aFieldAddr at h
  split at h
  · rename_i k p o hf
    exact ⟨_, h.2, fun B' hB K' hk => by unfold aFieldAddr; simp only [hf, hB p (by simp [M.ids, M.id1])]; exact ⟨h.1, hk⟩⟩
  · rename_i k c o hf
    exact ⟨_, h, fun B' hB K' hk => by unfold aFieldAddr; simp only [hf]; exact hk⟩
  · rename_i k p n i o hf
    exact ⟨_, h.2, fun B' hB K' hk => by unfold aFieldAddr; simp only [hf, cellsAt_agr hB]; exact ⟨h.1, hk⟩⟩
  · exact h.elim

theorem loc_indexAddr (t : TypeId) (a i : M) : Loc (aIndexAddr P t a i) a.ids W := Loc.same fun B K h => by
  unfold aIndexAddr at h
  split at h
  · rename_i kk k
    split at h
    · rename_i sz l
      split at h
      · rename_i e he
        split at h
        · rename_i c hc
          exact ⟨_, h.2, fun B' hB K' hk => by unfold aIndexAddr; simp only [he, hc]; exact ⟨h.1, hk⟩⟩
        · exact h.elim
      · exact h.elim
    · rename_i p n
      split at h
      · rename_i e fz sz l he hp
        exact ⟨_, h.2, fun B' hB K' hk => by unfold aIndexAddr; simp only [he, hB p (by simp [M.ids, M.id1]), hp]; exact ⟨h.1, hk⟩⟩
      · exact h.elim
    · rename_i p o
      split at h
      · rename_i len e ht
        split at h
        · rename_i s hs
          exact ⟨_, h.2, fun B' hB K' hk => by unfold aIndexAddr; simp only [ht, hs, hB p (by simp [M.ids, M.id1])]; exact ⟨h.1, hk⟩⟩
        · exact h.elim
      · exact h.elim
    · rename_i c o
      split at h
      · rename_i len e ht
        split at h
        · rename_i s hs
          exact ⟨_, h.2, fun B' hB K' hk => by unfold aIndexAddr; simp only [ht, hs]; exact ⟨h.1, hk⟩⟩
        · exact h.elim
      · exact h.elim
    · rename_i p n j o
      split at h
      · rename_i len e ht
        split at h
        · rename_i s hs
          exact ⟨_, h.2, fun B' hB K' hk => by unfold aIndexAddr; simp only [ht, hs, cellsAt_agr hB]; exact ⟨h.1, hk⟩⟩
        · exact h.elim
      · exact h.elim
    · exact h.elim
  · exact h.elim

theorem loc_conv0 (s t : TypeId) (x : M) (hW : id ∈ W) : Loc (fun B K => aConv0 P s t x B id K) x.ids W := fun B K h => by
  unfold aConv0 at h
  split at h
  · rename_i str
    split at h
    · rename_i e he
      exact Loc.new (F := fun B K => aConv0 P s t (.d (.v (.string str))) B id K) (T := (M.d (.v (.string str))).ids) hW (fun B K h => by
        unfold aConv0 at h
        simp only [he] at h
        exact ⟨_, _, h.2, fun B' _ K' hk => by unfold aConv0; simp only [he]; exact ⟨h.1, hk⟩⟩) B K (by unfold aConv0; simp only [he]; exact h)
    · rename_i he
      obtain ⟨m, B1, U, g1, g2, g3, g4⟩ := loc_kopt (W := W) _ (M.d (.v (.string str))).ids B K h
      exact ⟨m, B1, U, g1, g2, g3, fun B' hB => by simp only [aConv0, he]; exact g4 B' hB⟩
  · rename_i v hv
    obtain ⟨m, B1, U, g1, g2, g3, g4⟩ := loc_kopt (W := W) _ (M.d (.v v)).ids B K h
    exact ⟨m, B1, U, g1, g2, g3, fun B' hB => by
      unfold aConv0
      split
      · rename_i hh; cases hh; exact absurd rfl (hv _)
      · rename_i hh; cases hh; exact g4 B' hB
      · rename_i h1 h2; exact absurd rfl (h2 _)⟩
  · rename_i h1 h2
    split at h
    · rename_i sz l e hq he
      split at h
      · rename_i bs hbs
        refine ⟨_, B, [], h.2, fun q => rfl, fun x hx => by simp at hx, fun B' hB => ?_⟩
        unfold aConv0
        split
        · rename_i hh; exact absurd rfl (h1 _)
        · rename_i hh; exact absurd rfl (h2 _)
        · rw [seqD_agr hB, hq, he]
          simp only [hbs]
          exact ⟨h.1, trivial, fun q => rfl⟩
      · exact h.elim
    · exact h.elim

theorem sameSl_agr {s t : TypeId} {x : M} {B B' : Bx} (h : Agr x.ids B B') : sameSl P s t x B' = sameSl P s t x B := by
  cases x with
  | hsl p n =>
    have : B'.get p = B.get p := h p (by simp [M.ids, M.id1])
    simp only [sameSl, this]
  | _ => rfl
theorem loc_conv (s t : TypeId) (x : M) (hW : id ∈ W) : Loc (fun B K => aConv P s t x B id K) x.ids W := fun B K h => by
  by_cases hs : sameSl P s t x B = true
  · have h' : K x B := by unfold aConv at h; simp only [if_pos hs] at h; exact h
    refine ⟨x, B, [], h', fun q => rfl, fun x hx => by simp at hx, fun B' hB => ?_⟩
    have h2 : sameSl P s t x B' = true := by rw [sameSl_agr hB, hs]
    unfold aConv
    simp only [if_pos h2]
    exact ⟨trivial, fun q => rfl⟩
  · have h' : aConv0 P s t x B id K := by unfold aConv at h; simp only [if_neg hs] at h; exact h
    obtain ⟨m, B1, U, g1, g2, g3, g4⟩ := loc_conv0 s t x hW B K h'
    refine ⟨m, B1, U, g1, g2, g3, fun B' hB => ?_⟩
    have h2 : ¬ sameSl P s t x B' = true := by rw [sameSl_agr hB]; exact hs
    unfold aConv
    simp only [if_neg h2]
    exact g4 B' hB

theorem loc_slice (t : TypeId) (x : M) (lo hi mx : Option M) (hW : ∀ p, p ∈ x.ids → p ∈ W) : Loc (aSlice P t x lo hi mx) x.ids W := fun B K h => by
  unfold aSlice at h
  split at h
  · split at h
    · rename_i a b ha hb
      exact ⟨_, B, [], h.2, fun q => rfl, fun x hx => by simp at hx, fun B' hB => by unfold aSlice; simp only [ha, hb]; exact ⟨h.1, trivial, fun q => rfl⟩⟩
    · exact h.elim
  · rename_i v hv
    split at h
    · rename_i h1 h2
      obtain ⟨m, B1, U, g1, g2, g3, g4⟩ := loc_kopt (W := W) _ (M.d (.v v)).ids B K h
      exact ⟨m, B1, U, g1, g2, g3, fun B' hB => by
        unfold aSlice
        split
        · rename_i hh; cases hh; exact absurd rfl (hv _)
        · rename_i hh; cases hh
          simp only [h1, h2]
          exact g4 B' hB
        · rename_i hh; cases hh
        · rename_i hh; cases hh
        · rename_i q1 q2 q3 q4; exact absurd rfl (q2 _)⟩
    · exact h.elim
  · rename_i sz l
    split at h
    · rename_i e a b he ha hb
      exact ⟨_, B, [], h.2, fun q => rfl, fun x hx => by simp at hx, fun B' hB => by unfold aSlice; simp only [he, ha, hb]; exact ⟨h.1, trivial, fun q => rfl⟩⟩
    · exact h.elim
  · rename_i p n
    split at h
    · rename_i fz sz l tg hp
      split at h
      · rename_i l' e a b hl he ha hb
        refine ⟨_, _, [(p, .ar true sz l)], h.2, fun q => over_set hp, fun x hx => by simp at hx; subst hx; exact hW p (by simp [M.ids, M.id1]), fun B' hB => ?_⟩
        have hp' := hB p (by simp [M.ids, M.id1])
        rw [hp] at hp'
        unfold aSlice
        simp only [hp', hl, he, ha, hb]
        exact ⟨h.1, trivial, fun q => over_set hp'⟩
      · exact h.elim
    · exact h.elim
  · exact h.elim

theorem loc_build (t : TypeId) (ps : List (Nat × M)) (T : List Nat) : Loc (aBuild P t ps) T W := Loc.same fun B K h => by
  unfold aBuild at h ⊢
  split at h
  · split at h
    · split at h
      · exact ⟨_, h, fun _ _ _ h => h⟩
      · exact h.elim
    · split at h
      · split at h
        · split at h
          · exact ⟨_, h, fun _ _ _ h => h⟩
          · exact h.elim
        · exact h.elim
      · exact h.elim
  · exact h.elim

theorem loc_buildSlice (t : TypeId) (len : Nat) (ps : List (Nat × M)) (hW : id ∈ W) (hW2 : ∀ p, p ∈ (ps.flatMap fun y => y.2.ids) → p ∈ W) :
    Loc (fun B K => aBuildSlice P t len ps B id K) (ps.flatMap fun y => y.2.ids) W := fun B K h => by
  unfold aBuildSlice at h
  split at h
  · rename_i e he
    split at h
    · rename_i s z hs hz
      split at h
      · rename_i cs hcs
        obtain ⟨U, a1, a2, a3⟩ := frzP_loc P e ps B
        refine ⟨_, _, (id, .ar false s (chunks s cs len)) :: U, h.2, fun q => ?_, fun x hx => ?_, fun B' hB => ?_⟩
        · rw [Bx.get_cons, over, Bx.get_cons]
          by_cases hq : id = q
          · simp [hq]
          · simp only [if_neg hq]; exact a2 q
        · rcases List.mem_cons.1 hx with rfl | hx
          · exact hW
          · exact hW2 _ (a1 x hx)
        · obtain ⟨c1, c2⟩ := a3 B' hB
          unfold aBuildSlice
          simp only [he, hs, hz, c1, hcs]
          refine ⟨h.1, trivial, fun q => ?_⟩
          rw [Bx.get_cons, over, Bx.get_cons]
          by_cases hq : id = q
          · simp [hq]
          · simp only [if_neg hq]; exact c2 q
      · exact h.elim
    · exact h.elim
  · exact h.elim

theorem loc_makeSlice (t : TypeId) (l c : M) (T : List Nat) (hW : id ∈ W) : Loc (fun B K => aMakeSlice P t l c B id K) T W := Loc.new hW fun B K h => by
  unfold aMakeSlice at h ⊢
  split at h
  · split at h
    · exact ⟨_, _, h.2, fun _ _ _ hk => ⟨h.1, hk⟩⟩
    · exact h.elim
  · exact h.elim

theorem loc_append (ts : List TypeId) (x y : M) (hW : id ∈ W) (hW2 : ∀ p, p ∈ x.ids → p ∈ W) : Loc (fun B K => aAppend P ts x y B id K) (x.ids ++ y.ids) W := fun B K h => by
  unfold aAppend at h
  split at h
  · rename_i t u
    split at h
    · rename_i e he
      split at h
      · rename_i sz by' z h1 h2 h3
        split at h
        · rename_i l2 ha
          have ha' : ∀ B', Agr (x.ids ++ y.ids) B B' → appL B' sz y = some l2 := fun B' hB => by
            rw [appL_agr (fun p hp => hB p (by simp [hp])), ha]
          obtain ⟨h0, h⟩ := h
          split at h
          · rename_i p k
            split at h
            · rename_i fz s l tg hp
              refine ⟨_, _, [(p, .ar fz sz (l ++ l2) tg)], h.2, fun q => over_set hp, fun x hx => by simp at hx; subst hx; exact hW2 p (by simp [M.ids, M.id1]), fun B' hB => ?_⟩
              have hp' := hB p (by simp [M.ids, M.id1])
              rw [hp] at hp'
              unfold aAppend
              simp only [he, h1, h2, h3, ha' B' hB, hp']
              exact ⟨h0, h.1, trivial, fun q => over_set hp'⟩
            · exact h.elim
          · refine ⟨_, _, [(id, .ar false sz l2)], h.2, fun q => over_cons _ _ _ _, fun x hx => by simp at hx; subst hx; exact hW, fun B' hB => ?_⟩
            unfold aAppend
            simp only [he, h1, h2, h3, ha' B' hB]
            exact ⟨h0, h.1, trivial, fun q => over_cons _ _ _ _⟩
          · exact h.elim
        · exact h.elim
      · exact h.elim
    · exact h.elim
  · exact h.elim

theorem loc_len (ts : List TypeId) (x : M) : Loc (aLen P ts x) x.ids W := Loc.same fun B K h => by
  unfold aLen at h
  split at h
  · split at h
    · exact ⟨_, h.2, fun _ _ _ hk => by unfold aLen; exact ⟨h.1, hk⟩⟩
    · rename_i p n
      obtain ⟨h0, h⟩ := h
      split at h
      · rename_i fz sz l tg hp
        exact ⟨_, h.2, fun B' hB K' hk => by unfold aLen; simp only [hB p (by simp [M.ids, M.id1]), hp]; exact ⟨h0, h.1, hk⟩⟩
      · exact h.elim
    · exact ⟨_, h.2, fun _ _ _ hk => by unfold aLen; exact ⟨h.1, hk⟩⟩
    · exact ⟨_, h.2, fun _ _ _ hk => by unfold aLen; exact ⟨h.1, hk⟩⟩
    · exact h.elim
  · exact h.elim

theorem loc_min (x y : M) (T : List Nat) : Loc (aMin x y) T W := Loc.same fun B K h => by
  unfold aMin at h ⊢
  split at h
  · exact ⟨_, h, fun _ _ _ h => h⟩
  · exact h.elim

theorem loc_max (x y : M) (T : List Nat) : Loc (aMax x y) T W := Loc.same fun B K h => by
  unfold aMax at h ⊢
  split at h
  · exact ⟨_, h, fun _ _ _ h => h⟩
  · exact h.elim

theorem loc_copy (ts : List TypeId) (x y : M) (hW2 : ∀ p, p ∈ x.ids → p ∈ W) : Loc (fun B K => aCopy P ts x y B K) (x.ids ++ y.ids) W := fun B K h => by
  unfold aCopy at h
  split at h
  · rename_i t u p n
    split at h
    · rename_i e sz l tg ys ht hB hys
      refine ⟨_, _, [(p, .ar false sz ((pure2 ys).take n ++ l.drop ys.length))], h.2, fun q => over_set hB, fun x hx => by simp at hx; subst hx; exact hW2 p (by simp [M.ids, M.id1]), fun B' hB' => ?_⟩
      have hp' := hB' p (by simp [M.ids, M.id1])
      rw [hB] at hp'
      unfold aCopy
      simp only [ht, hp', hys]
      exact ⟨h.1, trivial, fun q => over_set hp'⟩
    · exact h.elim
  · exact h.elim
theorem loc_builtin (b : Builtin) (ts : List TypeId) (args : List M) (hW : id ∈ W) (hW2 : ∀ p, p ∈ args.flatMap M.ids → p ∈ W) :
    Loc (fun B K => aBuiltin P b ts args B id K) (args.flatMap M.ids) W := fun B K h => by
  unfold aBuiltin at h
  split at h
  · rename_i x
    have := loc_len (P := P) (W := W) ts x B K h
    simpa [aBuiltin] using this
  · rename_i x y
    have := loc_min (W := W) x y ([x, y].flatMap M.ids) B K h
    simpa [aBuiltin] using this
  · rename_i x y
    have := loc_max (W := W) x y ([x, y].flatMap M.ids) B K h
    simpa [aBuiltin] using this
  · rename_i x y
    have := loc_append (P := P) (W := W) ts x y hW (fun p hp => hW2 p (by simp [hp])) B K h
    simpa [aBuiltin] using this
  · rename_i x y
    have := loc_copy (P := P) (W := W) ts x y (fun p hp => hW2 p (by simp [hp])) B K h
    simpa [aBuiltin] using this
  · exact h.elim

/-- An operation in a region that draws its order. -/
def aopD (P : Program) (ρ : Operand → M) (B : Bx) (id : Nat) (o : Op) (K : K2) : Prop := match o with
  | .binOp op t x y _ => aBinD P op t x y (ρ x) (ρ y) B K
  | o => aop P ρ B id o K

theorem aopD_aop {ρ : Operand → M} {B : Bx} {o : Op} {K : K2} (h : aopD P ρ B id o K) : aop P ρ B id o K := by
  unfold aopD at h
  split at h
  · unfold aBinD at h
    split at h
    · exact h.elim
    · exact h
  · exact h

/-- The operands alone decide. -/
theorem aopD_congr {ρ ρ' : Operand → M} {B : Bx} {o : Op} {K : K2} (h : ∀ x, x ∈ o.operands → ρ' x = ρ x) (hh : aopD P ρ B id o K) : aopD P ρ' B id o K := by
  have pairs : ∀ ps : Array (Nat × Operand), (∀ x, x ∈ ps.map (·.2) → ρ' x = ρ x) → (ps.toList.map fun (i, x) => (i, ρ' x)) = (ps.toList.map fun (i, x) => (i, ρ x)) := fun ps hp =>
    List.map_congr_left fun p hm => by
      obtain ⟨i, x⟩ := p
      simp only [hp x (by simp; exact ⟨i, by simpa using hm⟩)]
  have lists : ∀ xs : Array Operand, (∀ x, x ∈ xs → ρ' x = ρ x) → xs.toList.map ρ' = xs.toList.map ρ := fun xs hp => List.map_congr_left fun x hx => hp x (by simpa using hx)
  cases o <;> simp only [Op.operands] at h <;> simp only [aopD, aop] at hh ⊢ <;> try exact hh
  case build t ps => rw [pairs ps fun x hx => h x (by simpa using hx)]; exact hh
  case buildSlice t n ps => rw [pairs ps fun x hx => h x (by simpa using hx)]; exact hh
  case makeFunc fn first captured =>
    rw [lists first fun x hx => h x (by simp [hx]), lists captured fun x hx => h x (by simp [hx])]; exact hh
  case slice t x lo hi mx =>
    have e1 : lo.map ρ' = lo.map ρ := by cases lo with | none => rfl | some y => simp [h y (by simp)]
    have e2 : hi.map ρ' = hi.map ρ := by cases hi with | none => rfl | some y => simp [h y (by simp)]
    have e3 : mx.map ρ' = mx.map ρ := by cases mx with | none => rfl | some y => simp [h y (by simp)]
    rw [h x (by simp), e1, e2, e3]; exact hh
  case call c =>
    obtain ⟨callee, args, ts⟩ := c
    cases callee with
    | builtin b =>
      simp only at hh ⊢
      rw [lists args fun x hx => h x (by simp [Call.operands, hx])]
      exact hh
    | value f => exact hh
    | invoke r m => exact hh
  all_goals (simp_all; done)

theorem aopD_loc (ρ : Operand → M) (o : Op) : Loc (fun B K => aopD P ρ B id o K) (touch ρ o) (wrs ρ id o) := by
  cases o <;> simp only [aopD, aop] <;> try exact fun B K h => h.elim
  case move x => exact Loc.same fun B K h => ⟨_, h, fun _ _ _ h => h⟩
  case assign x => exact Loc.same fun B K h => ⟨_, h, fun _ _ _ h => h⟩
  case pick c a b => exact loc_pick _ _ _ _
  case alloc t => exact loc_alloc _ _ (by simp [wrs, kW])
  case box t x => exact loc_box _ _ (by simp [wrs, kW])
  case build t ps => exact loc_build _ _ _
  case buildSlice t n ps =>
    have := loc_buildSlice (P := P) (id := id) (W := wrs ρ id (.buildSlice t n ps)) t n (ps.toList.map fun (i, x) => (i, ρ x)) (by simp [wrs, kW]) (fun p hp => by
      simp only [wrs, kW, touch, if_true, List.mem_cons]
      rw [List.flatMap_map] at hp
      exact .inr hp)
    rw [List.flatMap_map] at this
    exact this
  case load t a => exact loc_load _ _
  case store t a x => exact loc_store _ _ _ (fun p hp => by simp [wrs, kW, touch, hp])
  case nilCheck a => exact loc_nilCheck _
  case binOp op t x y yt => exact loc_bin _ _ _ _ _ _
  case unOp op t x => exact loc_un _ _ _
  case convert s t x => exact loc_conv _ _ _ (by simp [wrs, kW])
  case makeFunc f a b => exact Loc.same fun B K h => ⟨_, h, fun _ _ _ h => h⟩
  case makeSlice t l c => exact loc_makeSlice _ _ _ _ (by simp [wrs, kW])
  case slice t x lo hi mx => exact loc_slice _ _ _ _ _ (fun p hp => by simp [wrs, kW, touch, hp])
  case fieldAddr s x f => exact loc_fieldAddr _ _ _
  case field s x f => exact loc_field _ _ _ _
  case indexAddr t x i => exact loc_indexAddr _ _ _
  case index t x i => exact loc_index _ _ _ _
  case extract t i => exact loc_extract _ _ _
  case call c =>
    obtain ⟨callee, args, ts⟩ := c
    cases callee with
    | builtin b =>
      have := loc_builtin (P := P) (id := id) (W := wrs ρ id (.call ⟨.builtin b, args, ts⟩)) b ts.toList (args.toList.map ρ) (by simp [wrs, kW]) (fun p hp => by
        simp only [wrs, kW, touch, if_true, List.mem_cons]
        rw [List.flatMap_map] at hp
        exact .inr hp)
      rw [List.flatMap_map] at this
      exact this
    | value f => exact fun B K h => h.elim
    | invoke r m => exact fun B K h => h.elim

end
end Go.Abs

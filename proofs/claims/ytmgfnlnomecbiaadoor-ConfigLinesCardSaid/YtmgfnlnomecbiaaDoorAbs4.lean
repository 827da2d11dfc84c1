import Derived.Test.YtmgfnlnomecbiaaDoorAbs3
import Derived.ProofKit
import Derived.OpenShut
import Derived.Sort.Grow
import Derived.Deep.Draws
set_option linter.all false
/- The abstract layer, part W: the operations on values that are known in part, as equations. -/
namespace Go.Abs

/-- A condition, and what comes behind it. -/
def grd (p x : Prop) : Prop := p ∧ x
@[congr] theorem grd_congr {p p' x : Prop} (h : p = p') : grd p x = grd p' x := by rw [h]
theorem grd_true (x : Prop) : grd True x = x := by simp [grd]
theorem grd_intro {p x : Prop} (h : p) (hx : x) : grd p x := ⟨h, hx⟩

def kk (K : K2) (m : M) (B : Bx) : Prop := K m B
@[congr] theorem kk_congr {K : K2} {m m' : M} {B : Bx} (h : m = m') : kk K m B = kk K m' B := by rw [h]
theorem kk_eq {K : K2} {m : M} {B : Bx} : kk K m B = K m B := rfl

def stOf : Option Box → Option (List M × TypeId) | some (.st c e) => some (c, e) | _ => none
def arOf : Option Box → Option (Bool × Nat × List (List M)) | some (.ar f s l _) => some (f, s, l) | _ => none
def arT : Option Box → TypeId | some (.ar _ _ _ e) => e | _ => 0
/-- What is asked of what a row was made as, where it is appended to. -/
def tagOK (o : Option TypeId) (e : TypeId) : Prop := e = 0 ∨ o = some e
theorem stOf_st {c : List M} {e : TypeId} : stOf (some (.st c e)) = some (c, e) := rfl
theorem arOf_ar {f : Bool} {s : Nat} {l : List (List M)} {e : TypeId} : arOf (some (.ar f s l e)) = some (f, s, l) := rfl
theorem arT_ar {f : Bool} {s : Nat} {l : List (List M)} {e : TypeId} : arT (some (.ar f s l e)) = e := rfl
theorem tagOK_zero {o : Option TypeId} : tagOK o 0 = True := by simp [tagOK]
theorem tagOK_eq {e : TypeId} : tagOK (some e) e = True := by simp [tagOK]

theorem get_nil {q : Nat} : Bx.get [] q = none := rfl
theorem get_cons {B : Bx} {p q : Nat} {x : Box} : Bx.get ((p, x) :: B) q = if p = q then some x else Bx.get B q := Bx.get_cons _ _ _ _
theorem set_nil {q : Nat} {x : Box} : Bx.set [] q x = [] := rfl
theorem set_cons {B : Bx} {p q : Nat} {x y : Box} : Bx.set ((q, y) :: B) p x = (if q = p then (p, x) else (q, y)) :: Bx.set B p x := rfl

section
variable {P : Program} {B : Bx} {n : Nat} {K : K2} {a m x y : M} {t : TypeId} {p o i f sz len : Nat} {kd kd' : IntKind} {v w : Int}

theorem cellsAt_ptr : cellsAt B (.ptr p o) = (stOf (B.get p)).map fun c => (c.1, o) := by
  simp only [cellsAt, stOf]
  cases B.get p with
  | none => rfl
  | some b => cases b <;> rfl
theorem cellsAt_eptr {c : List D} : cellsAt B (.eptr c o) = some (c.map M.d, o) := rfl
def rowAt (n i o : Nat) : Option (Bool × Nat × List (List M)) → Option (List M × Nat)
  | some (_, _, l) => if l.length = n then (l[i]?).map fun c => (c, o) else none
  | none => none
theorem cellsAt_aptr {k : Nat} : cellsAt B (.aptr p k i o) = rowAt k i o (arOf (B.get p)) := by
  simp only [cellsAt, rowAt, arOf]
  cases B.get p with
  | none => rfl
  | some b => cases b <;> rfl
theorem rowAt_eq {k : Nat} {f : Bool} {l : List (List M)} : rowAt k i o (some (f, sz, l)) = if l.length = k then (l[i]?).map fun c => (c, o) else none := rfl

def tzc (P : Program) (t : TypeId) : Option (List M) := match tzero P t with
  | some z => if z.cells.all (·.oneCell') then some (z.cells.toList.map fun x => .d (.v x)) else none
  | none => none
theorem a_alloc : aAlloc P t B n K = ob (tzc P t) fun cs => vb (btag P t) fun e => kk K (.ptr n 0) ((n, .st cs e) :: B) := by
  unfold aAlloc tzc
  cases tzero P t with
  | none => rfl
  | some z =>
    simp only
    by_cases h : z.cells.all (·.oneCell') = true
    · simp [h, ob, vb, kk]
    · simp [h, ob]
theorem a_box : aBox m B n K = ob (stores m) fun cs => kk K (.ptr n 0) ((n, .st cs) :: B) := by
  unfold aBox stores
  cases m with
  | agg cs => by_cases h : cs.all M.one = true <;> simp [h, ob, kk]
  | _ => simp only; split <;> simp_all [ob, kk]
theorem a_load : aLoad P t a B K = ob (cellsAt B a) fun r => ob (loadM P t r.1 r.2) fun m => kk K m B := by
  unfold aLoad
  cases cellsAt B a with
  | none => rfl
  | some r =>
    simp only [ob]
    cases loadM P t r.1 r.2 <;> rfl
def ldm (a : Option Bool) (s : Option Nat) (c : List M) (o : Nat) : Option M := match a with
  | some true => match s with
    | some s => if o + s ≤ c.length then some (.agg ((c.drop o).take s)) else none
    | none => none
  | some false => c[o]?
  | none => none
theorem loadM_eq {c : List M} : loadM P t c o = ldm (tagg P t) (tsz P t) c o := rfl
theorem ldm_one {c : List M} {s : Option Nat} : ldm (some false) s c o = c[o]? := rfl
theorem ldm_agg {c : List M} : ldm (some true) (some sz) c o = if o + sz ≤ c.length then some (.agg ((c.drop o).take sz)) else none := rfl
theorem a_store_ptr : aStore P t (.ptr p o) x B K = ob (stores x) fun cs => grd (tsz P t = some cs.length) (ob (stOf (B.get p)) fun c => grd (o + cs.length ≤ c.1.length) (vb (B.set p (.st (splice c.1 o cs) c.2)) fun B => kk K undefM B)) := by
  simp only [aStore]
  cases stores x with
  | none => rfl
  | some cs =>
    simp only [ob, grd, vb, kk, stOf]
    cases B.get p with
    | none => rfl
    | some b => cases b <;> rfl
theorem a_store_aptr {k : Nat} : aStore P t (.aptr p k i o) x B K = ob (stores x) fun cs => grd (tsz P t = some cs.length) (ob (arOf (B.get p)) fun r => ob (r.2.2[i]?) fun c =>
    grd (r.1 = false ∧ r.2.2.length = k ∧ o + cs.length ≤ c.length) (vb (B.set p (.ar false r.2.1 (r.2.2.set i (splice c o cs)))) fun B => kk K undefM B)) := by
  simp only [aStore]
  cases stores x with
  | none => rfl
  | some cs =>
    simp only [ob, grd, vb, kk, arOf]
    cases B.get p with
    | none => rfl
    | some b =>
      cases b with
      | st _ => rfl
      | ar f s l tg =>
        simp only
        cases l[i]? <;> rfl
theorem a_nil_fn {k : FuncId} {fs cs : List M} : aNilCheck (.fn (.func k) fs cs) B K = kk K (.fn (.func k) fs cs) B := rfl
theorem a_nil_ptr : aNilCheck (.ptr p o) B K = ob (cellsAt B (.ptr p o)) fun _ => kk K (.ptr p o) B := by
  show (match cellsAt B (.ptr p o) with | some _ => _ | none => _) = _
  cases cellsAt B (.ptr p o) <;> rfl
theorem a_nil_eptr {c : List D} : aNilCheck (.eptr c o) B K = kk K (.eptr c o) B := rfl
theorem a_nil_aptr {k : Nat} : aNilCheck (.aptr p k i o) B K = ob (cellsAt B (.aptr p k i o)) fun _ => kk K (.aptr p k i o) B := by
  show (match cellsAt B (.aptr p k i o) with | some _ => _ | none => _) = _
  cases cellsAt B (.aptr p k i o) <;> rfl
theorem a_field {cs : List M} : aField P t (.agg cs) f B K = ob (tfldt P t f) fun r => ob (loadM P r.2 cs r.1) fun m => kk K m B := by
  unfold aField
  cases tfldt P t f with
  | none => rfl
  | some r =>
    simp only [ob]
    cases loadM P r.2 cs r.1 <;> rfl
theorem a_extract {cs : List M} : aExtract (.tup cs) i B K = ob (cs[i]?) fun m => kk K m B := by
  unfold aExtract
  simp only [ob]
  cases cs[i]? <;> rfl
theorem a_fieldAddr_ptr : aFieldAddr P t (.ptr p o) f B K = ob (tfld P t f) fun k => grd ((Bx.get B p).isSome = true) (vb (o + k) fun o => kk K (.ptr p o) B) := by
  unfold aFieldAddr; cases tfld P t f <;> rfl
theorem a_fieldAddr_eptr {c : List D} : aFieldAddr P t (.eptr c o) f B K = ob (tfld P t f) fun k => vb (o + k) fun o => kk K (.eptr c o) B := by
  unfold aFieldAddr; cases tfld P t f <;> rfl
theorem a_fieldAddr_aptr {k : Nat} : aFieldAddr P t (.aptr p k i o) f B K = ob (tfld P t f) fun j => grd ((cellsAt B (.aptr p k i o)).isSome = true) (vb (o + j) fun o => kk K (.aptr p k i o) B) := by
  unfold aFieldAddr; cases tfld P t f <;> rfl
theorem a_iA_sl {l : List (List D)} : aIndexAddr P t (.d (.sl sz l)) (.d (.v (.int kd v))) B K = ob (telem P t) fun e => grd (0 ≤ v ∧ tsz P e = some sz) (ob (l[v.toNat]?) fun c => kk K (.eptr c 0) B) := by
  unfold aIndexAddr
  simp only
  cases telem P t with
  | none => rfl
  | some e =>
    simp only [ob, grd, kk]
    cases l[v.toNat]? with
    | none => simp
    | some c => rfl
theorem a_iA_hsl {k : Nat} : aIndexAddr P t (.hsl p k) (.d (.v (.int kd v))) B K = ob (telem P t) fun e => ob (arOf (B.get p)) fun r =>
    grd (r.2.2.length = k ∧ 0 ≤ v ∧ v < k ∧ tsz P e = some r.2.1) (vb v.toNat fun j => kk K (.aptr p k j 0) B) := by
  unfold aIndexAddr
  simp only
  cases telem P t with
  | none => cases B.get p <;> rfl
  | some e =>
    simp only [ob, arOf]
    cases B.get p with
    | none => rfl
    | some b => cases b <;> rfl
theorem a_iA_ptr : aIndexAddr P t (.ptr p o) (.d (.v (.int kd v))) B K = ob (tarr P t) fun r => ob (tsz P r.2) fun s => grd ((Bx.get B p).isSome = true ∧ 0 ≤ v ∧ v < r.1) (vb (o + v.toNat * s) fun o => kk K (.ptr p o) B) := by
  unfold aIndexAddr
  simp only
  cases tarr P t with
  | none => rfl
  | some r =>
    simp only [ob]
    cases tsz P r.2 <;> rfl
theorem a_iA_eptr {c : List D} : aIndexAddr P t (.eptr c o) (.d (.v (.int kd v))) B K = ob (tarr P t) fun r => ob (tsz P r.2) fun s => grd (0 ≤ v ∧ v < r.1) (vb (o + v.toNat * s) fun o => kk K (.eptr c o) B) := by
  unfold aIndexAddr
  simp only
  cases tarr P t with
  | none => rfl
  | some r =>
    simp only [ob]
    cases tsz P r.2 <;> rfl
theorem a_iA_aptr {k : Nat} : aIndexAddr P t (.aptr p k i o) (.d (.v (.int kd v))) B K = ob (tarr P t) fun r => ob (tsz P r.2) fun s => grd ((cellsAt B (.aptr p k i o)).isSome = true ∧ 0 ≤ v ∧ v < r.1) (vb (o + v.toNat * s) fun o => kk K (.aptr p k i o) B) := by
  unfold aIndexAddr
  simp only
  cases tarr P t with
  | none => rfl
  | some r =>
    simp only [ob]
    cases tsz P r.2 <;> rfl
theorem a_index_agg {cs : List M} : aIndex P t (.agg cs) (.d (.v (.int kd v))) B K = ob (tarr P t) fun r => ob (tsz P r.2) fun s => grd (0 ≤ v ∧ v < r.1) (ob (loadM P r.2 cs (v.toNat * s)) fun m => kk K m B) := by
  unfold aIndex
  simp only
  cases tarr P t with
  | none => rfl
  | some r =>
    simp only [ob]
    cases tsz P r.2 with
    | none => rfl
    | some s =>
      simp only [grd]
      cases loadM P r.2 cs (v.toNat * s) <;> rfl

/-! strings as lists of bytes -/
def strM (l : List UInt8) : M := .d (.v (.string ⟨l.toArray⟩))
theorem size_mk {l : List UInt8} : (⟨l.toArray⟩ : ByteArray).size = l.length := by simp [ByteArray.size]
theorem a_index_str {l : List UInt8} : aIndex P t (strM l) (.d (.v (.int kd v))) B K = grd (isStr P t = true ∧ 0 ≤ v ∧ v < l.length) (kk K (.d (.v (.int .u8 (l.getD v.toNat 0).toNat))) B) := by
  unfold aIndex strM
  simp only [size_mk, grd, kk]
theorem extract_mk {l : List UInt8} {a b : Nat} (h : a ≤ b) : (⟨l.toArray⟩ : ByteArray).extract a b = ⟨((l.drop a).take (b - a)).toArray⟩ := by
  apply ByteArray.ext
  simp [ByteArray.data_extract]
theorem a_slice_str {l : List UInt8} {lo hi : Option M} : aSlice P t (strM l) lo hi none B K = ob (bnd 0 lo) fun u => ob (bnd l.length hi) fun v =>
    grd (isStr P t = true ∧ 0 ≤ u ∧ u ≤ v ∧ v ≤ l.length) (kk K (strM ((l.drop u.toNat).take (v - u).toNat)) B) := by
  unfold aSlice strM
  simp only [size_mk]
  cases bnd 0 lo with
  | none => rfl
  | some u =>
    cases bnd l.length hi with
    | none => rfl
    | some v =>
      simp only [ob, grd, kk]
      apply propext
      constructor
      · rintro ⟨⟨h1, h2, h3, h4⟩, h⟩
        rw [extract_mk (by omega), show v.toNat - u.toNat = (v - u).toNat by omega] at h
        exact ⟨⟨h1, h2, h3, h4⟩, h⟩
      · rintro ⟨⟨h1, h2, h3, h4⟩, h⟩
        rw [extract_mk (by omega), show v.toNat - u.toNat = (v - u).toNat by omega]
        exact ⟨⟨h1, h2, h3, h4⟩, h⟩
theorem a_slice_sl {l : List (List D)} {lo hi : Option M} : aSlice P t (.d (.sl sz l)) lo hi none B K = ob (telem P t) fun e => ob (bnd 0 lo) fun u => ob (bnd l.length hi) fun v =>
    grd (tsz P e = some sz ∧ 0 ≤ u ∧ u ≤ v ∧ v ≤ l.length) (kk K (.d (.sl sz ((l.drop u.toNat).take (v - u).toNat))) B) := by
  unfold aSlice
  simp only
  cases telem P t with
  | none => rfl
  | some e =>
    cases bnd 0 lo with
    | none => rfl
    | some u => cases bnd l.length hi <;> rfl
theorem a_slice_hsl {k : Nat} {lo hi : Option M} : aSlice P t (.hsl p k) lo hi none B K = ob (arOf (B.get p)) fun r => ob (unpure2 r.2.2) fun l => ob (telem P t) fun e => ob (bnd 0 lo) fun u => ob (bnd r.2.2.length hi) fun v =>
    grd (r.2.2.length = k ∧ tsz P e = some r.2.1 ∧ 0 ≤ u ∧ u ≤ v ∧ v ≤ r.2.2.length) (vb (B.set p (.ar true r.2.1 r.2.2)) fun B => kk K (.d (.sl r.2.1 ((l.drop u.toNat).take (v - u).toNat))) B) := by
  unfold aSlice
  simp only [arOf]
  cases B.get p with
  | none => rfl
  | some b =>
    cases b with
    | st _ => rfl
    | ar fz s l tg =>
      simp only [ob]
      cases unpure2 l with
      | none => rfl
      | some l' =>
        cases telem P t with
        | none => rfl
        | some e =>
          cases bnd 0 lo with
          | none => rfl
          | some u => cases bnd l.length hi <;> rfl
theorem bnd_no {d : Int} : bnd d none = some d := rfl
theorem bnd_yes {d : Int} : bnd d (some (.d (.v (.int kd v)))) = some v := rfl

/-- The cells of a zero, and the places of the parts. -/
def tz (P : Program) (t : TypeId) : Option (List M) := (tzero P t).map fun z => z.cells.toList.map fun x => M.d (.v x)
inductive Pl where
  | fs (l : List (Nat × Nat))
  | es (s : Nat)
def Pl.at : Pl → Nat → Option (Nat × Nat)
  | .fs l, i => l[i]?
  | .es s, i => some (i * s, s)
def tpl (P : Program) (t : TypeId) : Option Pl := match tplaces P t with
  | some l => some (.fs l)
  | none => match tarr P t with
    | some (_, e) => (tsz P e).map .es
    | none => none
theorem pl_fs {l : List (Nat × Nat)} : Pl.at (.fs l) i = l[i]? := rfl
theorem pl_es {s : Nat} : Pl.at (.es s) i = some (i * s, s) := rfl
theorem a_build {ps : List (Nat × M)} : aBuild P t ps B K = ob (tz P t) fun z => ob (tpl P t) fun pl => ob (fillM pl.at z ps) fun cs => kk K (.agg cs) B := by
  unfold aBuild tz tpl
  cases tzero P t with
  | none => rfl
  | some z =>
    simp only [Option.map_some, ob]
    cases tplaces P t with
    | some l =>
      simp only
      have e : Pl.at (.fs l) = fun i => l[i]? := by funext i; rfl
      rw [e]
      cases fillM (fun i => l[i]?) (z.cells.toList.map fun x => M.d (.v x)) ps <;> rfl
    | none =>
      cases tarr P t with
      | none => rfl
      | some r =>
        simp only
        cases tsz P r.2 with
        | none => rfl
        | some s =>
          simp only [Option.map_some]
          have e : Pl.at (.es s) = fun i => some (i * s, s) := by funext i; rfl
          rw [e]
          cases fillM (fun i => some (i * s, s)) (z.cells.toList.map fun x => M.d (.v x)) ps <;> rfl
theorem fillM_nil {pl : Nat → Option (Nat × Nat)} {cells : List M} : fillM pl cells [] = some cells := rfl
theorem fillM_cons {pl : Nat → Option (Nat × Nat)} {cells : List M} {i : Nat} {m : M} {r : List (Nat × M)} : fillM pl cells ((i, m) :: r) = (pl i).bind fun q => (stores m).bind fun cs =>
    if cs.length = q.2 ∧ q.1 + q.2 ≤ cells.length then fillM pl (splice cells q.1 cs) r else none := by
  rw [fillM]
  cases pl i with
  | none => rfl
  | some q => cases stores m <;> rfl
theorem stores_agg {cs : List M} (h : cs.all M.one = true) : stores (.agg cs) = some cs := by simp [stores, h]
theorem stores_one (h : m.one = true) : stores m = some [m] := by
  cases m with
  | agg cs => cases h
  | _ => simp [stores, h]
theorem one_int : M.one (.d (.v (.int kd v))) = true := rfl
theorem one_bool {b : Bool} : M.one (.d (.v (.bool b))) = true := rfl
theorem one_str {s : ByteArray} : M.one (.d (.v (.string s))) = true := rfl
theorem one_strM {s : List UInt8} : M.one (strM s) = true := rfl
theorem one_nil : M.one (.d (.v (.slice none 0 0))) = true := rfl
theorem one_sl {l : List (List D)} : M.one (.d (.sl sz l)) = true := rfl
theorem one_hsl {k : Nat} : M.one (.hsl p k) = true := rfl
theorem one_ptr : M.one (.ptr p o) = true := rfl

/-- What a type is made of, for a slice of it: size of an element, bytes of one, the cells of a zero. -/
def tel (P : Program) (t : TypeId) : Option (Nat × Nat × List M) := match telem P t with
  | some e => match tsz P e, tby P e, tzero P e with
    | some s, some b, some z => if z.cells.size = s ∧ 0 < s ∧ 0 < b ∧ z.cells.all (·.oneCell') = true then some (s, b, z.cells.toList.map fun x => .d (.v x)) else none
    | _, _, _ => none
  | none => none
theorem tel_some {s b : Nat} {z : List M} (h : tel P t = some (s, b, z)) : ∃ e zv, telem P t = some e ∧ tsz P e = some s ∧ tby P e = some b ∧ tzero P e = some zv ∧
    zv.cells.size = s ∧ 0 < s ∧ 0 < b ∧ zv.cells.all (·.oneCell') = true ∧ (zv.cells.toList.map fun x => M.d (.v x)) = z := by
  unfold tel at h
  split at h
  · rename_i e he
    split at h
    · rename_i s' b' zv h1 h2 h3
      split at h
      · rename_i h4
        simp only [Option.some.injEq, Prod.mk.injEq] at h
        obtain ⟨rfl, rfl, rfl⟩ := h
        exact ⟨e, zv, he, h1, h2, h3, h4.1, h4.2.1, h4.2.2.1, h4.2.2.2, rfl⟩
      · cases h
    · cases h
  · cases h
theorem buildSlice_of {ps : List (Nat × M)} {e s b : Nat} {z : List M} (h : tel P t = some (s, b, z)) (he : telem P t = some e) : aBuildSlice P t len ps B n K =
    ob (fillM (fun i => some (i * s, s)) (List.replicate len z).flatten (frzP P e B ps).1) fun cs => grd (len * s ≤ 16777216 ∧ cs.all M.one = true) (kk K (.hsl n len) ((n, .ar false s (chunks s cs len)) :: (frzP P e B ps).2)) := by
  obtain ⟨e', zv, h1, h2, h3, h4, h5, h6, h7, h8, h9⟩ := tel_some h
  rw [he] at h1
  cases h1
  unfold aBuildSlice
  simp only [he, h2, h4, zcells, h9, h5, h6]
  cases fillM (fun i => some (i * s, s)) (List.replicate len z).flatten (frzP P e B ps).1 with
  | none => rfl
  | some cs => simp [ob, grd, kk]
theorem makeSlice_of {s b : Nat} {z : List M} (h : tel P t = some (s, b, z)) : aMakeSlice P t (.d (.v (.int kd v))) (.d (.v (.int kd' w))) B n K =
    grd (0 ≤ v ∧ v ≤ w ∧ w * b ≤ 1099511627776 ∧ w ≤ 1099511627776) (vb v.toNat fun k => kk K (.hsl n k) ((n, .ar false s (List.replicate k z)) :: B)) := by
  obtain ⟨e, zv, h1, h2, h3, h4, h5, h6, h7, h8, h9⟩ := tel_some h
  unfold aMakeSlice
  simp only [h1, h2, h3, h4, h9, h5, h6, h8, grd, vb, kk]
  apply propext
  constructor
  · rintro ⟨⟨q1, q2, q3, q4, _⟩, q⟩
    exact ⟨⟨q1, q2, q3, q4⟩, q⟩
  · rintro ⟨⟨q1, q2, q3, q4⟩, q⟩
    rw [h5] at h8
    exact ⟨⟨q1, q2, q3, q4, trivial, trivial, h8⟩, q⟩
theorem append_hsl_of {k u s b : Nat} {z : List M} (h : tel P t = some (s, b, z)) (hu : ((telem P u).isSome || isStr P u) = true) : aAppend P [t, u] (.hsl p k) y B n K =
    ob (appL B s y) fun l2 => ob (arOf (B.get p)) fun r => vb (arT (B.get p)) fun e => grd (r.2.1 = s ∧ r.2.2.length = k ∧ (k + l2.length) * b ≤ 140737488355328 ∧ tagOK (telem P t) e) (vb (k + l2.length) fun k => vb (B.set p (.ar r.1 s (r.2.2 ++ l2) e)) fun B => kk K (.hsl p k) B) := by
  obtain ⟨e, zv, h1, h2, h3, h4, h5, h6, h7, h8, h9⟩ := tel_some h
  unfold aAppend
  simp only [h1, h2, h3, h4, h5, h6, h7, hu]
  cases appL B s y with
  | none => rfl
  | some l2 =>
    simp only [ob, arOf]
    cases B.get p with
    | none => simp
    | some bx =>
      cases bx with
      | st _ => simp
      | ar f s' l tg => simp [grd, vb, kk, arT, tagOK, eq_comm]
theorem append_nil_of {u s b : Nat} {z : List M} (h : tel P t = some (s, b, z)) (hu : ((telem P u).isSome || isStr P u) = true) : aAppend P [t, u] (.d (.v (.slice none 0 0))) y B n K =
    ob (appL B s y) fun l2 => grd (l2.length * b ≤ 140737488355328) (vb l2.length fun k => kk K (.hsl n k) ((n, .ar false s l2) :: B)) := by
  obtain ⟨e, zv, h1, h2, h3, h4, h5, h6, h7, h8, h9⟩ := tel_some h
  unfold aAppend
  simp only [h1, h2, h3, h4, h5, h6, h7, hu]
  cases appL B s y with
  | none => rfl
  | some l2 => simp [ob, grd, vb, kk]
theorem a_buildSlice {ps : List (Nat × M)} (h : (tel P t).isSome = true) : aBuildSlice P t len ps B n K = ob (tel P t) fun r => ob (telem P t) fun e =>
    vb (frzP P e B ps) fun q => ob (fillM (Pl.at (.es r.1)) (List.replicate len r.2.2).flatten q.1) fun cs => grd (len * r.1 ≤ 16777216 ∧ cs.all M.one = true) (vb (chunks r.1 cs len) fun l => kk K (.hsl n len) ((n, .ar false r.1 l) :: q.2)) := by
  obtain ⟨r, hr⟩ := Option.isSome_iff_exists.1 h
  obtain ⟨s, b, z⟩ := r
  obtain ⟨e, _, he, _⟩ := tel_some hr
  rw [buildSlice_of hr he, hr, he]
  rfl
theorem a_makeSlice (h : (tel P t).isSome = true) : aMakeSlice P t (.d (.v (.int kd v))) (.d (.v (.int kd' w))) B n K = ob (tel P t) fun r =>
    grd (0 ≤ v ∧ v ≤ w ∧ w * r.2.1 ≤ 1099511627776 ∧ w ≤ 1099511627776) (vb v.toNat fun k => kk K (.hsl n k) ((n, .ar false r.1 (List.replicate k r.2.2)) :: B)) := by
  obtain ⟨r, hr⟩ := Option.isSome_iff_exists.1 h
  obtain ⟨s, b, z⟩ := r
  rw [makeSlice_of hr, hr]
  rfl
theorem a_append_hsl {k u : Nat} (h : (tel P t).isSome = true) (hu : ((telem P u).isSome || isStr P u) = true) : aAppend P [t, u] (.hsl p k) y B n K = ob (tel P t) fun q =>
    ob (appL B q.1 y) fun l2 => ob (arOf (B.get p)) fun r => vb (arT (B.get p)) fun e => grd (r.2.1 = q.1 ∧ r.2.2.length = k ∧ tagOK (telem P t) e) (vb (r.2.2 ++ l2) fun l => vb l.length fun k => grd (k * q.2.1 ≤ 140737488355328) (vb (B.set p (.ar r.1 q.1 l e)) fun B => kk K (.hsl p k) B)) := by
  obtain ⟨r, hr⟩ := Option.isSome_iff_exists.1 h
  obtain ⟨s, b, z⟩ := r
  rw [append_hsl_of hr hu, hr]
  simp only [ob]
  cases appL B s y with
  | none => rfl
  | some l2 =>
    simp only
    cases arOf (B.get p) with
    | none => rfl
    | some r =>
      simp only [grd, vb, List.length_append]
      apply propext
      constructor
      · rintro ⟨⟨h1, h2, h3, h5⟩, h4⟩
        subst h2
        exact ⟨⟨h1, rfl, h5⟩, h3, h4⟩
      · rintro ⟨⟨h1, h2, h5⟩, h3, h4⟩
        subst h2
        exact ⟨⟨h1, rfl, h3, h5⟩, h4⟩
theorem a_append_nil {u : Nat} (h : (tel P t).isSome = true) (hu : ((telem P u).isSome || isStr P u) = true) : aAppend P [t, u] (.d (.v (.slice none 0 0))) y B n K = ob (tel P t) fun q =>
    ob (appL B q.1 y) fun l2 => grd (l2.length * q.2.1 ≤ 140737488355328) (vb l2.length fun k => kk K (.hsl n k) ((n, .ar false q.1 l2) :: B)) := by
  obtain ⟨r, hr⟩ := Option.isSome_iff_exists.1 h
  obtain ⟨s, b, z⟩ := r
  rw [append_nil_of hr hu, hr]
  rfl
theorem appL_sl {l : List (List D)} : appL B sz (.d (.sl sz l)) = some (pure2 l) := by simp [appL]
theorem appL_nil : appL B sz (.d (.v (.slice none 0 0))) = some [] := rfl
theorem appL_str {l : List UInt8} : appL B 1 (strM l) = some (pure2 (l.map byteD)) := by simp [appL, strM]
def rowAll (sz k : Nat) : Option (Bool × Nat × List (List M)) → Option (List (List M))
  | some (_, s, l) => if s = sz ∧ l.length = k then some l else none
  | none => none
theorem appL_hsl {k : Nat} : appL B sz (.hsl p k) = rowAll sz k (arOf (B.get p)) := by
  simp only [appL, rowAll, arOf]
  cases B.get p with
  | none => rfl
  | some b => cases b <;> rfl
theorem rowAll_eq {k s : Nat} {fb : Bool} {l : List (List M)} : rowAll sz k (some (fb, s, l)) = if s = sz ∧ l.length = k then some l else none := rfl

theorem a_len_sl {l : List (List D)} : aLen P [t] (.d (.sl sz l)) B K = grd ((telem P t).isSome = true) (kk K (.d (.v (.int .i64 l.length))) B) := rfl
theorem a_len_nil : aLen P [t] (.d (.v (.slice none 0 0))) B K = grd ((telem P t).isSome = true) (kk K (.d (.v (.int .i64 0))) B) := rfl
theorem a_len_str {l : List UInt8} : aLen P [t] (strM l) B K = grd (isStr P t = true) (kk K (.d (.v (.int .i64 l.length))) B) := by
  show (_ ∧ K (.d (.v (.int .i64 (⟨l.toArray⟩ : ByteArray).size))) B) = _
  rw [size_mk]; rfl
theorem a_len_hsl {k : Nat} : aLen P [t] (.hsl p k) B K = grd ((telem P t).isSome = true) (ob (arOf (B.get p)) fun r => grd (r.2.2.length = k) (kk K (.d (.v (.int .i64 k))) B)) := by
  unfold aLen
  simp only [grd, ob, arOf, kk]
  cases B.get p with
  | none => rfl
  | some b => cases b <;> rfl
theorem a_min : aMin (.d (.v (.int kd v))) (.d (.v (.int kd' w))) B K = kk K (.d (.v (.int kd (if w < v then w else v)))) B := rfl
theorem a_max : aMax (.d (.v (.int kd v))) (.d (.v (.int kd' w))) B K = kk K (.d (.v (.int kd (if w > v then w else v)))) B := rfl
theorem b_len {ts : List TypeId} : aBuiltin P .len ts [x] B n K = aLen P ts x B K := rfl
theorem b_min {ts : List TypeId} : aBuiltin P .min ts [x, y] B n K = aMin x y B K := rfl
theorem b_max {ts : List TypeId} : aBuiltin P .max ts [x, y] B n K = aMax x y B K := rfl
theorem b_copy {ts : List TypeId} : aBuiltin P .copy ts [x, y] B n K = aCopy P ts x y B K := rfl
theorem cpL_sl {l : List (List D)} : cpL (.d (.sl 1 l)) = some l := rfl
theorem cpL_nil : cpL (.d (.v (.slice none 0 0))) = some [] := rfl
theorem a_copy {k u : Nat} (h : (tel P t).isSome = true) : aCopy P [t, u] (.hsl p k) y B K = ob (tel P t) fun q => ob (cpL y) fun ys => ob (arOf (B.get p)) fun r =>
    grd (q.1 = 1 ∧ r.1 = false ∧ r.2.1 = 1 ∧ r.2.2.length = k) (vb ((pure2 ys).take k ++ r.2.2.drop ys.length) fun l => vb (B.set p (.ar false 1 l)) fun B => kk K (.d (.v (.int .i64 (min k ys.length : Nat)))) B) := by
  obtain ⟨r, hr⟩ := Option.isSome_iff_exists.1 h
  obtain ⟨s, b, z⟩ := r
  obtain ⟨e, zv, h1, h2, h3, h4, h5, h6, h7, h8, h9⟩ := tel_some hr
  unfold aCopy
  simp only [hr, h1, h2, ob]
  cases cpL y with
  | none => simp only; split <;> first | rfl | simp_all
  | some ys =>
    simp only [arOf]
    cases B.get p with
    | none => rfl
    | some bx =>
      cases bx with
      | st _ => rfl
      | ar f s' l tg =>
        cases f with
        | true => simp [grd]
        | false =>
          simp only [grd, vb, kk]
          apply propext
          constructor
          · rintro ⟨⟨q1, rfl, q3⟩, q⟩
            exact ⟨⟨by rw [h2] at q1; simpa using q1, trivial, rfl, q3⟩, q⟩
          · rintro ⟨⟨q1, _, rfl, q3⟩, q⟩
            exact ⟨⟨by rw [h2, q1], rfl, q3⟩, q⟩
theorem b_append {ts : List TypeId} : aBuiltin P .append ts [x, y] B n K = aAppend P ts x y B n K := rfl

/-! conversions -/
theorem conv0_d {s : TypeId} {x : D} : aConv P s t (.d x) B n K = aConv0 P s t (.d x) B n K := rfl
theorem conv0_str {s : TypeId} {x : M} (h : isStr P t = true) : aConv P s t x B n K = aConv0 P s t x B n K := by
  have hs : ¬ sameSl P s t x B = true := by
    cases x with
    | hsl p k =>
      have ht : telem P t = none := by
        unfold isStr at h
        unfold telem
        split at h <;> simp_all
      simp [sameSl, ht]
    | _ => simp [sameSl]
  unfold aConv
  rw [if_neg hs]
theorem conv_str_bytes_of {l : List UInt8} {s e : TypeId} (h : telem P t = some e) (h1 : isU8 P e = true) (h2 : isStr P s = true) :
    aConv P s t (strM l) B n K = kk K (.hsl n l.length) ((n, .ar false 1 (pure2 (l.map byteD))) :: B) := by
  unfold strM
  rw [conv0_d]
  unfold aConv0
  simp only [h, h1, h2, size_mk]
  simp [kk]
theorem bytesOf_map {l : List UInt8} : bytesOf (l.map byteD) = some l := bytesOf_byteD l
theorem conv_bytes_str_of {l : List (List D)} {s e : TypeId} (h : telem P s = some e) (h1 : isU8 P e = true) (h2 : isStr P t = true) :
    aConv P s t (.d (.sl 1 l)) B n K = ob (bytesOf l) fun bs => kk K (strM bs) B := by
  rw [conv0_d]
  unfold aConv0
  simp only [seqD, h, h1, h2]
  cases bytesOf l with
  | none => rfl
  | some bs => simp [ob, kk, strM]
theorem conv_nil_str_of {s e : TypeId} (h : telem P s = some e) (h1 : isU8 P e = true) (h2 : isStr P t = true) : pureSem P (convert s t (.slice none 0 0)) = some (.string ⟨#[]⟩) →
    aConv P s t (.d (.v (.slice none 0 0))) B n K = kk K (strM []) B := fun hp => by
  show kopt _ B K = _
  rw [hp]; rfl
def barOf (k : Nat) : Option (Bool × Nat × List (List M)) → Option (List UInt8)
  | some (_, s, l) => if l.length = k ∧ s = 1 then (unpure2 l).bind bytesOf else none
  | none => none
theorem conv_hsl_str_of {k : Nat} {s e : TypeId} (h : telem P s = some e) (h1 : isU8 P e = true) (h2 : isStr P t = true) :
    aConv P s t (.hsl p k) B n K = ob (barOf k (arOf (B.get p))) fun bs => kk K (strM bs) B := by
  rw [conv0_str h2]
  unfold aConv0
  simp only [seqD, h, h1, h2, barOf, arOf]
  cases B.get p with
  | none => rfl
  | some b =>
    cases b with
    | st _ => rfl
    | ar f s l tg =>
      simp only
      by_cases hk : l.length = k
      · simp only [hk, true_and, if_true]
        cases unpure2 l with
        | none => simp [ob]
        | some l' =>
          simp only [Option.map_some, Option.bind_some]
          by_cases hs : s = 1
          · subst hs
            simp only [if_true]
            cases bytesOf l' with
            | none => rfl
            | some bs => simp [ob, kk, strM, h1]
          · simp only [hs, if_false]
            cases bytesOf l' with
            | none => rfl
            | some bs => simp [ob]
      · simp [hk, ob]
theorem barOf_eq {k s : Nat} {fb : Bool} {l : List (List M)} : barOf k (some (fb, s, l)) = if l.length = k ∧ s = 1 then (unpure2 l).bind bytesOf else none := rfl
/-- A type of byte slices. -/
def tbytes (P : Program) (t : TypeId) : Bool := match telem P t with | some e => isU8 P e | none => false
theorem tbytes_some (h : tbytes P t = true) : ∃ e, telem P t = some e ∧ isU8 P e = true := by
  unfold tbytes at h
  split at h
  · rename_i e he; exact ⟨e, he, h⟩
  · cases h
theorem conv_str_bytes {l : List UInt8} {s : TypeId} (h : tbytes P t = true) (h2 : isStr P s = true) : aConv P s t (strM l) B n K = kk K (.hsl n l.length) ((n, .ar false 1 (pure2 (l.map byteD))) :: B) := by
  obtain ⟨e, he, h1⟩ := tbytes_some h
  exact conv_str_bytes_of he h1 h2
theorem conv_bytes_str {l : List (List D)} {s : TypeId} (h : tbytes P s = true) (h2 : isStr P t = true) : aConv P s t (.d (.sl 1 l)) B n K = ob (bytesOf l) fun bs => kk K (strM bs) B := by
  obtain ⟨e, he, h1⟩ := tbytes_some h
  exact conv_bytes_str_of he h1 h2
theorem conv_hsl_str {k : Nat} {s : TypeId} (h : tbytes P s = true) (h2 : isStr P t = true) : aConv P s t (.hsl p k) B n K = ob (barOf k (arOf (B.get p))) fun bs => kk K (strM bs) B := by
  obtain ⟨e, he, h1⟩ := tbytes_some h
  exact conv_hsl_str_of he h1 h2
theorem conv_nil_str {s : TypeId} (h : tbytes P s = true) (h2 : isStr P t = true) : aConv P s t (.d (.v (.slice none 0 0))) B n K = kk K (strM []) B := by
  obtain ⟨e, he, h1⟩ := tbytes_some h
  refine conv_nil_str_of he h1 h2 ?_
  have hu : ∀ {u d}, P.underlying u = some d → pureSem P (underlying u) = some d := fun {u d} h => by
    simp [underlying, pureSem_bind, program, pureSem, h]
    rfl
  have hs : P.underlying t = some .string := by
    unfold isStr at h2
    split at h2 <;> simp_all
  have hb : P.underlying e = some (.int .u8) := by
    unfold isU8 at h1
    split at h1 <;> simp_all
  simp [convert, pureSem_bind, hu (telem_some he), hu hs, hu hb]
  rfl
theorem conv_ints {s : TypeId} (h1 : tint P s = some kd) (h : (tint P t).isSome = true) : aConv P s t (.d (.v (.int kd v))) B n K = ob (tint P t) fun k => kk K (.d (.v (.int k (k.wrap v)))) B := by
  obtain ⟨k, hk⟩ := Option.isSome_iff_exists.1 h
  rw [conv_int h1 hk, hk]
  rfl
theorem conv_str_str {l : List UInt8} {s : TypeId} (h : telem P t = none) (hp : isStr P s = true ∧ isStr P t = true) : aConv P s t (strM l) B n K = kk K (strM l) B := by
  unfold strM
  rw [conv0_d]
  unfold aConv0
  simp only [h]
  obtain ⟨h1, h2⟩ := hp
  have hu : ∀ {u d}, P.underlying u = some d → pureSem P (underlying u) = some d := fun {u d} h => by
    simp [underlying, pureSem_bind, program, pureSem, h]
    rfl
  have hs : ∀ {u}, isStr P u = true → P.underlying u = some .string := fun {u} h => by
    unfold isStr at h
    split at h <;> simp_all
  have : pureSem P (convert s t (.string ⟨l.toArray⟩)) = some (.string ⟨l.toArray⟩) := by
    simp [convert, pureSem_bind, hu (hs h1), hu (hs h2), pureSem_pure]
  rw [this]; rfl

/-! comparisons and sums of strings, of truth values, against nil -/
variable {xo yo : Operand}
theorem eqGuard_str {op : BinOp} {a b : ByteArray} : pureSem P (eqGuard op t xo yo (.string a) (.string b)) = some () := by cases op <;> rfl
theorem toList_mk {l : List UInt8} : (⟨l.toArray⟩ : ByteArray).toList = l := ByteArray.toList_mk l
theorem bin_str_eql {a b : List UInt8} : aBin P .eql t xo yo (strM a) (strM b) B K = kk K (.d (.v (.bool (decide (a = b))))) B :=
  bin_of (.bool (decide (a = b))) eqGuard_str (by
    have : (a == b) = decide (a = b) := by rw [Bool.eq_iff_iff]; simp
    simp [binOp, Op.stringOp, toList_mk, this]; rfl)
theorem bin_str_neq {a b : List UInt8} : aBin P .neq t xo yo (strM a) (strM b) B K = kk K (.d (.v (.bool (!decide (a = b))))) B :=
  bin_of (.bool (!decide (a = b))) eqGuard_str (by
    have : (a == b) = decide (a = b) := by rw [Bool.eq_iff_iff]; simp
    simp [binOp, Op.stringOp, toList_mk, this]; rfl)
theorem bin_str_lss {a b : List UInt8} : aBin P .lss t xo yo (strM a) (strM b) B K = kk K (.d (.v (.bool (Op.bytesLess a b)))) B :=
  bin_of (.bool (Op.bytesLess a b)) eqGuard_str (by simp [binOp, Op.stringOp, toList_mk]; rfl)
theorem bin_str_leq {a b : List UInt8} : aBin P .leq t xo yo (strM a) (strM b) B K = kk K (.d (.v (.bool (Op.bytesLess a b || a == b)))) B :=
  bin_of (.bool (Op.bytesLess a b || a == b)) eqGuard_str (by simp [binOp, Op.stringOp, toList_mk]; rfl)
theorem bin_str_gtr {a b : List UInt8} : aBin P .gtr t xo yo (strM a) (strM b) B K = kk K (.d (.v (.bool (!(Op.bytesLess a b || a == b))))) B :=
  bin_of (.bool (!(Op.bytesLess a b || a == b))) eqGuard_str (by simp [binOp, Op.stringOp, toList_mk]; rfl)
theorem bin_str_geq {a b : List UInt8} : aBin P .geq t xo yo (strM a) (strM b) B K = kk K (.d (.v (.bool (!Op.bytesLess a b)))) B :=
  bin_of (.bool (!Op.bytesLess a b)) eqGuard_str (by simp [binOp, Op.stringOp, toList_mk]; rfl)
theorem append_mk {a b : List UInt8} : (⟨a.toArray⟩ : ByteArray) ++ ⟨b.toArray⟩ = ⟨(a ++ b).toArray⟩ := by
  apply ByteArray.ext
  simp
theorem bin_str_add {a b : List UInt8} (h : a.length + b.length ≤ 9223372036854775807) : aBin P .add t xo yo (strM a) (strM b) B K = kk K (strM (a ++ b)) B :=
  bin_of (.string ⟨(a ++ b).toArray⟩) eqGuard_str (by
    have hm : IntKind.i64.max = 9223372036854775807 := rfl
    have h2 : ¬ (((⟨a.toArray⟩ : ByteArray).size : Int) + ((⟨b.toArray⟩ : ByteArray).size : Int) > IntKind.i64.max) := by rw [size_mk, size_mk, hm]; omega
    simp only [binOp, Op.stringOp]
    rw [append_mk]
    simp [size_mk, hm]
    rw [if_neg (by omega)]
    rfl)
end
end Go.Abs

/- The abstract layer, part X: a region that draws, step by step; and the rules in two sets. -/
namespace Go.Abs
section
variable {P : Program} {env : Nat → M} {B : Bx} {n : Nat} {K : K2} {ρ : Operand → M}

theorem d_move {x : Operand} : astepD P env B n (.move x) K = kk K (ev env x) B := rfl
theorem d_assign {x : Operand} : astepD P env B n (.assign x) K = kk K (ev env x) B := rfl
theorem d_pick {c a b : Operand} : astepD P env B n (.pick c a b) K = aPick (ev env c) (ev env a) (ev env b) B K := rfl
theorem d_alloc {t : TypeId} : astepD P env B n (.alloc t) K = aAlloc P t B n K := rfl
theorem d_box {t : TypeId} {x : Operand} : astepD P env B n (.box t x) K = aBox (ev env x) B n K := rfl
theorem d_build {t : TypeId} {ps : Array (Nat × Operand)} : astepD P env B n (.build t ps) K = vb (ps.toList.map fun (i, x) => (i, ev env x)) fun ps => aBuild P t ps B K := rfl
theorem d_buildSlice {t : TypeId} {len : Nat} {ps : Array (Nat × Operand)} : astepD P env B n (.buildSlice t len ps) K = vb (ps.toList.map fun (i, x) => (i, ev env x)) fun ps => aBuildSlice P t len ps B n K := rfl
theorem d_load {t : TypeId} {a : Operand} : astepD P env B n (.load t a) K = aLoad P t (ev env a) B K := rfl
theorem d_store {t : TypeId} {a x : Operand} : astepD P env B n (.store t a x) K = aStore P t (ev env a) (ev env x) B K := rfl
theorem d_nilCheck {a : Operand} : astepD P env B n (.nilCheck a) K = aNilCheck (ev env a) B K := rfl
theorem d_binOp {o : BinOp} {t u : TypeId} {x y : Operand} : astepD P env B n (.binOp o t x y u) K = aBinD P o t x y (ev env x) (ev env y) B K := rfl
theorem d_unOp {o : UnOp} {t : TypeId} {x : Operand} : astepD P env B n (.unOp o t x) K = aUn P o (ev env x) B K := rfl
theorem d_convert {s t : TypeId} {x : Operand} : astepD P env B n (.convert s t x) K = aConv P s t (ev env x) B n K := rfl
theorem d_makeFunc {f : Fn} {a b : Array Operand} : astepD P env B n (.makeFunc f a b) K = vb (a.toList.map (ev env)) fun a => vb (b.toList.map (ev env)) fun b => kk K (.fn f a b) B := rfl
theorem d_makeSlice {t : TypeId} {a b : Operand} : astepD P env B n (.makeSlice t a b) K = aMakeSlice P t (ev env a) (ev env b) B n K := rfl
theorem d_slice {t : TypeId} {x : Operand} {a b c : Option Operand} : astepD P env B n (.slice t x a b c) K = vb (a.map (ev env)) fun a => vb (b.map (ev env)) fun b => vb (c.map (ev env)) fun c => aSlice P t (ev env x) a b c B K := rfl
theorem d_fieldAddr {t : TypeId} {x : Operand} {f : Nat} : astepD P env B n (.fieldAddr t x f) K = aFieldAddr P t (ev env x) f B K := rfl
theorem d_field {t : TypeId} {x : Operand} {f : Nat} : astepD P env B n (.field t x f) K = aField P t (ev env x) f B K := rfl
theorem d_indexAddr {t : TypeId} {x i : Operand} : astepD P env B n (.indexAddr t x i) K = aIndexAddr P t (ev env x) (ev env i) B K := rfl
theorem d_index {t : TypeId} {x i : Operand} : astepD P env B n (.index t x i) K = aIndex P t (ev env x) (ev env i) B K := rfl
theorem d_extract {x : Operand} {i : Nat} : astepD P env B n (.extract x i) K = aExtract (ev env x) i B K := rfl
theorem d_builtin {b : Builtin} {args : Array Operand} {ts : Array TypeId} : astepD P env B n (.call { callee := .builtin b, args := args, argTypes := ts }) K = vb (args.toList.map (ev env)) fun as => aBuiltin P b ts.toList as B n K := rfl
theorem d_call {f : Operand} {args : Array Operand} {ts : Array TypeId} : astepD P env B n (.call { callee := .value f, args := args, argTypes := ts }) K =
    vb (ev env f) fun v => match v with
      | .fn (.func k) fs cs => vb (args.toList.map (ev env)) fun as => vb (frzA P B ts.toList as) fun r => dcall1 P k (fs ++ r.1 ++ cs) r.2 n K
      | _ => False := rfl
theorem t_move {x : Operand} : touch ρ (.move x) = [] := rfl
theorem w_move {x : Operand} : wrs ρ n (.move x) = [] := rfl
theorem t_assign {x : Operand} : touch ρ (.assign x) = [] := rfl
theorem w_assign {x : Operand} : wrs ρ n (.assign x) = [] := rfl
theorem t_pick {c a b : Operand} : touch ρ (.pick c a b) = [] := rfl
theorem w_pick {c a b : Operand} : wrs ρ n (.pick c a b) = [] := rfl
theorem t_alloc {t : TypeId} : touch ρ (.alloc t) = [] := rfl
theorem w_alloc {t : TypeId} : wrs ρ n (.alloc t) = n :: touch ρ (.alloc t) := rfl
theorem t_box {t : TypeId} {x : Operand} : touch ρ (.box t x) = [] := rfl
theorem w_box {t : TypeId} {x : Operand} : wrs ρ n (.box t x) = n :: touch ρ (.box t x) := rfl
theorem t_build {t : TypeId} {ps : Array (Nat × Operand)} : touch ρ (.build t ps) = [] := rfl
theorem w_build {t : TypeId} {ps : Array (Nat × Operand)} : wrs ρ n (.build t ps) = [] := rfl
theorem t_buildSlice {t : TypeId} {len : Nat} {ps : Array (Nat × Operand)} : touch ρ (.buildSlice t len ps) = ps.toList.flatMap fun x => (ρ x.2).ids := rfl
theorem w_buildSlice {t : TypeId} {len : Nat} {ps : Array (Nat × Operand)} : wrs ρ n (.buildSlice t len ps) = n :: touch ρ (.buildSlice t len ps) := rfl
theorem t_load {t : TypeId} {a : Operand} : touch ρ (.load t a) = (ρ a).ids := rfl
theorem w_load {t : TypeId} {a : Operand} : wrs ρ n (.load t a) = [] := rfl
theorem t_store {t : TypeId} {a x : Operand} : touch ρ (.store t a x) = (ρ a).ids := rfl
theorem w_store {t : TypeId} {a x : Operand} : wrs ρ n (.store t a x) = n :: touch ρ (.store t a x) := rfl
theorem t_nilCheck {a : Operand} : touch ρ (.nilCheck a) = (ρ a).ids := rfl
theorem w_nilCheck {a : Operand} : wrs ρ n (.nilCheck a) = [] := rfl
theorem t_binOp {o : BinOp} {t u : TypeId} {x y : Operand} : touch ρ (.binOp o t x y u) = (ρ x).ids := rfl
theorem w_binOp {o : BinOp} {t u : TypeId} {x y : Operand} : wrs ρ n (.binOp o t x y u) = [] := rfl
theorem t_unOp {o : UnOp} {t : TypeId} {x : Operand} : touch ρ (.unOp o t x) = [] := rfl
theorem w_unOp {o : UnOp} {t : TypeId} {x : Operand} : wrs ρ n (.unOp o t x) = [] := rfl
theorem t_convert {s t : TypeId} {x : Operand} : touch ρ (.convert s t x) = (ρ x).ids := rfl
theorem w_convert {s t : TypeId} {x : Operand} : wrs ρ n (.convert s t x) = n :: touch ρ (.convert s t x) := rfl
theorem t_makeFunc {f : Fn} {a b : Array Operand} : touch ρ (.makeFunc f a b) = [] := rfl
theorem w_makeFunc {f : Fn} {a b : Array Operand} : wrs ρ n (.makeFunc f a b) = [] := rfl
theorem t_makeSlice {t : TypeId} {a b : Operand} : touch ρ (.makeSlice t a b) = [] := rfl
theorem w_makeSlice {t : TypeId} {a b : Operand} : wrs ρ n (.makeSlice t a b) = n :: touch ρ (.makeSlice t a b) := rfl
theorem t_slice {t : TypeId} {x : Operand} {a b c : Option Operand} : touch ρ (.slice t x a b c) = (ρ x).ids := rfl
theorem w_slice {t : TypeId} {x : Operand} {a b c : Option Operand} : wrs ρ n (.slice t x a b c) = n :: touch ρ (.slice t x a b c) := rfl
theorem t_fieldAddr {t : TypeId} {x : Operand} {f : Nat} : touch ρ (.fieldAddr t x f) = (ρ x).ids := rfl
theorem w_fieldAddr {t : TypeId} {x : Operand} {f : Nat} : wrs ρ n (.fieldAddr t x f) = [] := rfl
theorem t_field {t : TypeId} {x : Operand} {f : Nat} : touch ρ (.field t x f) = [] := rfl
theorem w_field {t : TypeId} {x : Operand} {f : Nat} : wrs ρ n (.field t x f) = [] := rfl
theorem t_indexAddr {t : TypeId} {x i : Operand} : touch ρ (.indexAddr t x i) = (ρ x).ids := rfl
theorem w_indexAddr {t : TypeId} {x i : Operand} : wrs ρ n (.indexAddr t x i) = [] := rfl
theorem t_index {t : TypeId} {x i : Operand} : touch ρ (.index t x i) = [] := rfl
theorem w_index {t : TypeId} {x i : Operand} : wrs ρ n (.index t x i) = [] := rfl
theorem t_extract {x : Operand} {i : Nat} : touch ρ (.extract x i) = [] := rfl
theorem w_extract {x : Operand} {i : Nat} : wrs ρ n (.extract x i) = [] := rfl
theorem t_builtin {b : Builtin} {args : Array Operand} {ts : Array TypeId} : touch ρ (.call { callee := .builtin b, args := args, argTypes := ts }) = args.toList.flatMap fun x => (ρ x).ids := rfl
theorem w_builtin {b : Builtin} {args : Array Operand} {ts : Array TypeId} : wrs ρ n (.call { callee := .builtin b, args := args, argTypes := ts }) = n :: touch ρ (.call { callee := .builtin b, args := args, argTypes := ts }) := rfl
theorem t_call {f : Operand} {args : Array Operand} {ts : Array TypeId} : touch ρ (.call { callee := .value f, args := args, argTypes := ts }) = args.toList.flatMap fun x => (ρ x).ids := rfl
theorem w_call {f : Operand} {args : Array Operand} {ts : Array TypeId} : wrs ρ n (.call { callee := .value f, args := args, argTypes := ts }) = n :: args.toList.flatMap fun x => (ρ x).ids := rfl
theorem ids_d {x : D} : M.ids (.d x) = [] := rfl
theorem ids_strM {l : List UInt8} : M.ids (strM l) = [] := rfl
theorem ids_ptr {p o : Nat} : M.ids (.ptr p o) = [p] := rfl
theorem ids_hsl {p k : Nat} : M.ids (.hsl p k) = [p] := rfl
theorem ids_aptr {p k i o : Nat} : M.ids (.aptr p k i o) = [p] := rfl
theorem ids_eptr {c : List D} {o : Nat} : M.ids (.eptr c o) = [] := rfl
theorem ids_fn {f : Fn} {a b : List M} : M.ids (.fn f a b) = [] := rfl
theorem ids_tup {a : List M} : M.ids (.tup a) = [] := rfl
theorem ids_agg {a : List M} : M.ids (.agg a) = a.flatMap M.id1 := rfl
theorem id1_d {x : D} : M.id1 (.d x) = [] := rfl
theorem id1_strM {l : List UInt8} : M.id1 (strM l) = [] := rfl
theorem id1_ptr {p o : Nat} : M.id1 (.ptr p o) = [p] := rfl
theorem id1_hsl {p k : Nat} : M.id1 (.hsl p k) = [p] := rfl
theorem binD_v {o : BinOp} {t : TypeId} {x y : Operand} {v : Value} {b : M} : aBinD P o t x y (.d (.v v)) b B K = aBin P o t x y (.d (.v v)) b B K := rfl
theorem binD_str {o : BinOp} {t : TypeId} {x y : Operand} {v : List UInt8} {b : M} : aBinD P o t x y (strM v) b B K = aBin P o t x y (strM v) b B K := rfl
theorem binD_agg {o : BinOp} {t : TypeId} {x y : Operand} {v : List M} {b : M} : aBinD P o t x y (.agg v) b B K = aBin P o t x y (.agg v) b B K := rfl
theorem binD_ptr {o : BinOp} {t : TypeId} {x y : Operand} {p q : Nat} {b : M} : aBinD P o t x y (.ptr p q) b B K = aBin P o t x y (.ptr p q) b B K := rfl
theorem acc_get_zero {e : List Nat × List Nat} {l : Acc} : (e :: l).getD 0 ([], []) = e := rfl
theorem acc_get_succ {e : List Nat × List Nat} {l : Acc} {k : Nat} : (e :: l).getD (k + 1) ([], []) = l.getD k ([], []) := rfl
theorem clashes_nil {acc : Acc} : clashes acc [] = True := rfl
theorem clashes_cons {acc : Acc} {pr : Nat × Nat} {l : List (Nat × Nat)} : clashes acc (pr :: l) = (clashFree acc pr ∧ clashes acc l) := rfl
theorem clashFree_eq {acc : Acc} {i j : Nat} : clashFree acc (i, j) = (noC (acc.getD i ([], [])).2 (acc.getD j ([], [])).1 ∧ noC (acc.getD j ([], [])).2 (acc.getD i ([], [])).1) := rfl
theorem noC_nil {T : List Nat} : noC [] T = True := by simp [noC]
theorem noC_nil' {T : List Nat} : noC T [] = True := by simp [noC]
theorem noC_cons {p : Nat} {l T : List Nat} : noC (p :: l) T = (p ∉ T ∧ noC l T) := by
  apply propext; simp [noC]
theorem prs_get {id : Nat} {l : List (Nat × Nat)} {r : Prs} : Prs.get ((id, l) :: r) id = some l := by simp [Prs.get]
theorem prs_next {id k : Nat} {l : List (Nat × Nat)} {r : Prs} (h : (k == id) = false) : Prs.get ((k, l) :: r) id = Prs.get r id := by simp [Prs.get, List.find?_cons, h]

/-- A guard's value, and what is known of it then, by the slot. -/
def gvs (o : Option Tmp) (env : Nat → M) : M := match o with | some t => env t | none => undefM
def gss (o : Option Tmp) (env : Nat → M) (b : Bool) : Nat → M := match o with | some t => upd env t (.d (.v (.bool b))) | none => env
theorem guardV_s {ops : Array Oper} {j : Nat} : guardV ops env j = gvs (gslot ops j) env := rfl
theorem gset_s {ops : Array Oper} {j : Nat} {b : Bool} : gset ops env j b = gss (gslot ops j) env b := rfl
theorem gvs_some {t : Nat} : gvs (some t) env = env t := rfl
theorem gss_some {t : Nat} {b : Bool} : gss (some t) env b = upd env t (.d (.v (.bool b))) := rfl
/-- The slot, by counting. -/
def gl : List Oper → Nat → Option Tmp
  | [], _ => none
  | o :: _, 0 => o.dst
  | _ :: l, j + 1 => gl l j
theorem gl_eq : ∀ (l : List Oper) (j : Nat), gl l j = (l[j]?).bind (·.dst)
  | [], j => by simp [gl]
  | o :: l, 0 => by simp [gl]
  | o :: l, j + 1 => by simp [gl, gl_eq l j]
theorem gslot_gl {ops : Array Oper} {j : Nat} : gslot ops j = gl ops.toList j := by
  rw [gl_eq]; simp [gslot]
theorem gl_zero {d : Option Tmp} {op : Op} {ty : TypeId} {pos : String} {af : Array Edge} {g : Option (Nat × Bool)} {l : List Oper} : gl ({ dst := d, op := op, type := ty, pos := pos, after := af, guard := g } :: l) 0 = d := rfl
theorem gl_succ {o : Oper} {l : List Oper} {j : Nat} : gl (o :: l) (j + 1) = gl l j := rfl

/-! The end of a function of pure data. -/
theorem frzA_nil {ts : List TypeId} : frzA P B ts [] = ([], B) := by cases ts <;> rfl
theorem frzA_cons {t : TypeId} {ts : List TypeId} {m : M} {ms : List M} : frzA P B (t :: ts) (m :: ms) = ((frzT P B t m).1 :: (frzA P (frzT P B t m).2 ts ms).1, (frzA P (frzT P B t m).2 ts ms).2) := rfl
theorem frzT_int {t : TypeId} {k : IntKind} {x : Int} : frzT P B t (.d (.v (.int k x))) = (.d (.v (.int k x)), B) := rfl
theorem frzT_bool {t : TypeId} {x : Bool} : frzT P B t (.d (.v (.bool x))) = (.d (.v (.bool x)), B) := rfl
theorem frzT_str {t : TypeId} {x : List UInt8} : frzT P B t (strM x) = (strM x, B) := rfl
theorem frzT_sl {t : TypeId} {sz : Nat} {l : List (List D)} : frzT P B t (.d (.sl sz l)) = (.d (.sl sz l), B) := rfl
theorem frzT_fn {t : TypeId} {f : Fn} {a b : List M} : frzT P B t (.fn f a b) = (.fn f a b, B) := rfl
theorem frzT_ptr {t : TypeId} {p o : Nat} : frzT P B t (.ptr p o) = (.ptr p o, B) := rfl
theorem frzT_aptr {t : TypeId} {p k i o : Nat} : frzT P B t (.aptr p k i o) = (.aptr p k i o, B) := rfl
/-- The size of an element of the slice in the one cell of a type. -/
def tsl (P : Program) (t : TypeId) : Option Nat := (cty P 9 t).headD none
def nilS : Option Nat → M | some sz => .d (.sl sz []) | none => .d (.v (.slice none 0 0))
theorem nilS_some {sz : Nat} : nilS (some sz) = .d (.sl sz []) := rfl
theorem frzT_nil {t : TypeId} : frzT P B t (.d (.v (.slice none 0 0))) = (nilS (tsl P t), B) := by
  rw [show frzT P B t (.d (.v (.slice none 0 0))) = frz1 B ((cty P 9 t).headD none) (.d (.v (.slice none 0 0))) from rfl]
  show _ = (nilS ((cty P 9 t).headD none), B)
  cases (cty P 9 t).headD none <;> rfl
def frzRow (p k : Nat) (B : Bx) : Option (Bool × Nat × List (List M)) → M × Bx
  | some (_, sz, l) => if l.length = k then (match unpure2 l with | some l' => (.d (.sl sz l'), B.set p (.ar true sz l)) | none => (.hsl p k, B)) else (.hsl p k, B)
  | none => (.hsl p k, B)
theorem frz1_hsl {s : Option Nat} {p k : Nat} : frz1 B s (.hsl p k) = frzRow p k B (arOf (B.get p)) := by
  simp only [frz1, frzRow, arOf]
  cases B.get p with
  | none => rfl
  | some b => cases b <;> rfl
theorem frzT_hsl {t : TypeId} {p k : Nat} : frzT P B t (.hsl p k) = frzRow p k B (arOf (B.get p)) := frz1_hsl (s := (cty P 9 t).headD none)
def frzUn (p k sz : Nat) (l : List (List M)) (B : Bx) : Option (List (List D)) → M × Bx
  | some l' => (.d (.sl sz l'), B.set p (.ar true sz l))
  | none => (.hsl p k, B)
theorem frzRow_eq {p k sz : Nat} {f : Bool} {l : List (List M)} (h : l.length = k) : frzRow p k B (some (f, sz, l)) = frzUn p k sz l B (unpure2 l) := by
  simp only [frzRow, h, if_true, frzUn]
theorem frzUn_some {p k sz : Nat} {l : List (List M)} {l' : List (List D)} : frzUn p k sz l B (some l') = (.d (.sl sz l'), B.set p (.ar true sz l)) := rfl
theorem frzT_agg {t : TypeId} {cs : List M} : frzT P B t (.agg cs) = (.agg (frzs B (cty P 9 t) cs).1, (frzs B (cty P 9 t) cs).2) := rfl
theorem frzP_nil {t : TypeId} : frzP P t B [] = ([], B) := rfl
theorem frzP_cons {t : TypeId} {i : Nat} {m : M} {r : List (Nat × M)} : frzP P t B ((i, m) :: r) = ((i, (frzT P B t m).1) :: (frzP P t (frzT P B t m).2 r).1, (frzP P t (frzT P B t m).2 r).2) := rfl
theorem chunks_zero {s : Nat} {c : List M} : chunks s c 0 = [] := rfl
theorem chunks_succ {s k : Nat} {c : List M} : chunks s c (k + 1) = c.take s :: chunks s (c.drop s) k := rfl
theorem splice_eq {o : Nat} {c cs : List M} : splice c o cs = c.take o ++ cs ++ c.drop (o + cs.length) := rfl
theorem frzs_nil {ss : List (Option Nat)} : frzs B ss [] = ([], B) := by cases ss <;> rfl
theorem frzs_cons {s : Option Nat} {ss : List (Option Nat)} {m : M} {ms : List M} : frzs B (s :: ss) (m :: ms) = ((frz1 B s m).1 :: (frzs (frz1 B s m).2 ss ms).1, (frzs (frz1 B s m).2 ss ms).2) := rfl
theorem frz1_int {s : Option Nat} {k : IntKind} {x : Int} : frz1 B s (.d (.v (.int k x))) = (.d (.v (.int k x)), B) := rfl
theorem frz1_bool {s : Option Nat} {x : Bool} : frz1 B s (.d (.v (.bool x))) = (.d (.v (.bool x)), B) := rfl
theorem frz1_str {s : Option Nat} {x : List UInt8} : frz1 B s (strM x) = (strM x, B) := rfl
theorem frz1_sl {s : Option Nat} {sz : Nat} {l : List (List D)} : frz1 B s (.d (.sl sz l)) = (.d (.sl sz l), B) := rfl
theorem frz1_nil {sz : Nat} : frz1 B (some sz) (.d (.v (.slice none 0 0))) = (.d (.sl sz []), B) := rfl
theorem pureFin_eq {ts : List TypeId} {m : M} {ms : List M} : pureFin P ts m ms B = (resM (frzA P B ts ms).1 = m) := rfl
theorem resM1 {a : M} : resM [a] = a := rfl
theorem resM2 {a b : M} {l : List M} : resM (a :: b :: l) = .tup (a :: b :: l) := rfl
end

/-! The rules that come first, for what is carried out; and the rules for values. -/
theorem ev_tmp {env : Nat → M} {t : Nat} : ev env (.tmp t) = env t := rfl
theorem ev_int {env : Nat → M} {k : IntKind} {x : Int} : ev env (.const (.int k x)) = .d (.v (.int k x)) := rfl
theorem ev_bool {env : Nat → M} {x : Bool} : ev env (.const (.bool x)) = .d (.v (.bool x)) := rfl
theorem ev_nil {env : Nat → M} : ev env (.const (.slice none 0 0)) = .d (.v (.slice none 0 0)) := rfl
theorem ev_strc {env : Nat → M} {l : List UInt8} : ev env (.const (.string ⟨⟨l⟩⟩)) = strM l := rfl
theorem ev_func {env : Nat → M} {f : FuncId} : ev env (.func f) = .fn (.func f) [] [] := rfl

/-! lists and the like, at one universe -/
section
variable {α β : Type} {a : α} {l m : List α} {f : α → β} {p : α → Bool} {i k : Nat} {b : Bool} {x : Option α}
theorem l_ca : a :: l ++ m = a :: (l ++ m) := rfl
theorem l_na : [] ++ l = l := rfl
theorem l_an : l ++ [] = l := List.append_nil l
theorem l_allc : (a :: l).all p = (p a && l.all p) := List.all_cons
theorem l_alln : ([] : List α).all p = true := rfl
theorem l_mapc : (a :: l).map f = f a :: l.map f := rfl
theorem l_mapn : ([] : List α).map f = [] := rfl
theorem l_fmc {g : α → List β} : (a :: l).flatMap g = g a ++ l.flatMap g := List.flatMap_cons
theorem l_fmn {g : α → List β} : ([] : List α).flatMap g = [] := rfl
theorem o_maps : (some a).map f = some (f a) := rfl
theorem o_mapn : (none : Option α).map f = none := rfl
theorem o_iss : (some a).isSome = true := rfl
theorem o_bs {g : α → Option β} : (some a).bind g = g a := rfl
theorem o_bn {g : α → Option β} : (none : Option α).bind g = none := rfl
theorem l_lenm : (l.map f).length = l.length := List.length_map f
theorem l_lenc : (a :: l).length = l.length + 1 := rfl
theorem l_lenn : ([] : List α).length = 0 := rfl
theorem l_g0 : (a :: l)[0]? = some a := rfl
theorem l_gs : (a :: l)[i + 1]? = l[i]? := rfl
theorem l_gm : (l.map f)[i]? = (l[i]?).map f := List.getElem?_map
theorem l_gn : ([] : List α)[i]? = none := rfl
theorem l_t0 : l.take 0 = [] := List.take_zero
theorem l_ts : (a :: l).take (i + 1) = a :: l.take i := rfl
theorem l_d0 : l.drop 0 = l := rfl
theorem l_ds : (a :: l).drop (i + 1) = l.drop i := rfl
theorem l_tn : ([] : List α).take i = [] := List.take_nil
theorem l_dn : ([] : List α).drop i = [] := List.drop_nil
theorem l_tm : (l.map f).take i = (l.take i).map f := List.map_take.symm
theorem l_dm : (l.map f).drop i = (l.drop i).map f := List.map_drop.symm
theorem l_lenr : (List.replicate k a).length = k := List.length_replicate
theorem l_r0 : List.replicate 0 a = [] := rfl
theorem l_rs : List.replicate (k + 1) a = a :: List.replicate k a := rfl
theorem l_flc {g : List (List α)} : (l :: g).flatten = l ++ g.flatten := rfl
theorem l_fln : ([] : List (List α)).flatten = [] := rfl
theorem l_s0 {c : α} : (a :: l).set 0 c = c :: l := rfl
theorem l_ss {c : α} : (a :: l).set (i + 1) c = a :: l.set i c := rfl
theorem n_tonat : ((k : Int)).toNat = k := Int.toNat_natCast k
theorem n_0le : (0 ≤ (k : Int)) = True := by simp
theorem n_c0 : ((0 : Nat) : Int) = 0 := rfl
theorem n_cp : ((k + 1 : Nat) : Int) - 1 = k := by omega
theorem i_za {z : Int} : 0 + z = z := Int.zero_add z
theorem i_az {z : Int} : z + 0 = z := Int.add_zero z
theorem i_sz {z : Int} : z - 0 = z := Int.sub_zero z
theorem m_c {x y : Nat} {l : List Nat} : (x ∈ y :: l) = (x = y ∨ x ∈ l) := by simp
theorem m_n {x : Nat} : (x ∈ ([] : List Nat)) = False := by simp
theorem p_of {p : Prop} : (p ∨ False) = p := by simp
theorem p_fo {p : Prop} : (False ∨ p) = p := by simp
theorem p_nf : (¬ False) = True := by simp
theorem n_za : 0 + k = k := Nat.zero_add k
theorem n_om : 1 * k = k := Nat.one_mul k
theorem n_mo : k * 1 = k := Nat.mul_one k
theorem n_ler : (k ≤ k) = True := by simp
theorem b_at : (b && true) = b := Bool.and_true b
theorem b_ta : (true && b) = b := Bool.true_and b
theorem b_af : (b && false) = false := Bool.and_false b
theorem b_fa : (false && b) = false := Bool.false_and b
theorem b_of : (b || false) = b := Bool.or_false b
theorem b_fo : (false || b) = b := Bool.false_or b
theorem b_ot : (b || true) = true := Bool.or_true b
theorem b_to : (true || b) = true := Bool.true_or b
end
def ru0 := And.intro @awp_seq (And.intro @awp_region (And.intro @awp_draw (And.intro @dgo_none (And.intro @dgo_some (And.intro @tailOf_nil (And.intro @tailOf_cons (And.intro @aops_cons (And.intro @aops_guard (And.intro @aops_nil (And.intro @opK_some (@opK_none)))))))))))
def ru1 := And.intro @seqK_normal (And.intro @seqK_ret (And.intro @seqK_exit (And.intro @blockK_normal (And.intro @blockK_ret (And.intro @blockK_exit (And.intro @loopL_ret (And.intro @loopL_exit (And.intro @awp_block (And.intro @awp_cond (And.intro @awp_loop (@awp_skip)))))))))))
def ru2 := And.intro @awp_label (And.intro @awp_exit (And.intro @awp_ret (And.intro @fork_true (And.intro @fork_false (And.intro @gdo_eq (And.intro @gask_some (And.intro @gask_none (And.intro @dask_some (And.intro @dask_none (And.intro @gpass_some (@gpass_none)))))))))))
def ru3 := And.intro @gfork_tt (And.intro @gfork_ft (And.intro @gfork_tf (And.intro @gfork_ff (And.intro @aopsD_nil (And.intro @aopsD_cons (And.intro @aopsD_guard (And.intro @dstep_eq (And.intro @opKD_some (And.intro @opKD_none (And.intro @dpass_some (@dpass_none)))))))))))
def ru4 := And.intro @dfork_tt (And.intro @dfork_ft (And.intro @dfork_tf (And.intro @dfork_ff (And.intro @drawK_eq (And.intro @s_move (And.intro @s_assign (And.intro @s_pick (And.intro @s_alloc (And.intro @s_box (And.intro @s_build (@s_buildSlice)))))))))))
def ru5 := And.intro @s_load (And.intro @s_store (And.intro @s_nilCheck (And.intro @s_binOp (And.intro @s_unOp (And.intro @s_convert (And.intro @s_makeFunc (And.intro @s_makeSlice (And.intro @s_slice (And.intro @s_fieldAddr (And.intro @s_field (@s_indexAddr)))))))))))
def ru6 := And.intro @s_index (And.intro @s_extract (And.intro @s_builtin (And.intro @s_call (And.intro @d_move (And.intro @d_assign (And.intro @d_pick (And.intro @d_alloc (And.intro @d_box (And.intro @d_build (And.intro @d_buildSlice (@d_load)))))))))))
def ru7 := And.intro @d_store (And.intro @d_nilCheck (And.intro @d_binOp (And.intro @d_unOp (And.intro @d_convert (And.intro @d_makeFunc (And.intro @d_makeSlice (And.intro @d_slice (And.intro @d_fieldAddr (And.intro @d_field (And.intro @d_indexAddr (@d_index)))))))))))
def ru8 := And.intro @d_extract (And.intro @d_builtin (And.intro @d_call (And.intro @t_move (And.intro @t_assign (And.intro @t_pick (And.intro @t_alloc (And.intro @t_box (And.intro @t_build (And.intro @t_buildSlice (And.intro @t_load (@t_store)))))))))))
def ru9 := And.intro @t_nilCheck (And.intro @t_binOp (And.intro @t_unOp (And.intro @t_convert (And.intro @t_makeFunc (And.intro @t_makeSlice (And.intro @t_slice (And.intro @t_fieldAddr (And.intro @t_field (And.intro @t_indexAddr (And.intro @t_index (@t_extract)))))))))))
def ru10 := And.intro @t_builtin (And.intro @t_call (And.intro @w_move (And.intro @w_assign (And.intro @w_pick (And.intro @w_alloc (And.intro @w_box (And.intro @w_build (And.intro @w_buildSlice (And.intro @w_load (And.intro @w_store (@w_nilCheck)))))))))))
def ru11 := And.intro @w_binOp (And.intro @w_unOp (And.intro @w_convert (And.intro @w_makeFunc (And.intro @w_makeSlice (And.intro @w_slice (And.intro @w_fieldAddr (And.intro @w_field (And.intro @w_indexAddr (And.intro @w_index (And.intro @w_extract (@w_builtin)))))))))))
def ru12 := @w_call
def rv0 := And.intro @k1_eq (And.intro @sx_add (And.intro @sx_lit (And.intro @bits_u8 (And.intro @bits_u16 (And.intro @bits_u32 (And.intro @bits_u64 (And.intro @bits_i64 (And.intro @vb_eq (And.intro @kk_eq (And.intro @ob_some (@b?_bool)))))))))))
def rv1 := And.intro @g?_bool (And.intro @g?_undef (And.intro @grd_true (And.intro @ob_none (And.intro @stOf_st (And.intro @arOf_ar (And.intro @arT_ar (And.intro @oRes_none (And.intro @oRes_some (And.intro @tagOK_zero (And.intro @tagOK_eq (@get_nil)))))))))))
def rv2 := And.intro @get_cons (And.intro @set_nil (And.intro @set_cons (And.intro @cellsAt_ptr (And.intro @cellsAt_eptr (And.intro @cellsAt_aptr (And.intro @rowAt_eq (And.intro @a_alloc (And.intro @a_box (And.intro @a_load (And.intro @loadM_eq (@ldm_one)))))))))))
def rv3 := And.intro @ldm_agg (And.intro @a_store_ptr (And.intro @a_store_aptr (And.intro @a_nil_fn (And.intro @a_nil_ptr (And.intro @a_nil_eptr (And.intro @a_nil_aptr (And.intro @a_field (And.intro @a_extract (And.intro @a_fieldAddr_ptr (And.intro @a_fieldAddr_eptr (@a_fieldAddr_aptr)))))))))))
def rv4 := And.intro @a_iA_sl (And.intro @a_iA_hsl (And.intro @a_iA_ptr (And.intro @a_iA_eptr (And.intro @a_iA_aptr (And.intro @a_index_agg (And.intro @a_index_str (And.intro @a_slice_str (And.intro @a_slice_sl (And.intro @a_slice_hsl (And.intro @bnd_no (@bnd_yes)))))))))))
def rv5 := And.intro @pl_fs (And.intro @pl_es (And.intro @a_build (And.intro @a_buildSlice (And.intro @a_makeSlice (And.intro @a_append_hsl (And.intro @a_append_nil (And.intro @conv_ints (And.intro @conv_str_bytes (And.intro @conv_bytes_str (And.intro @conv_hsl_str (@conv_nil_str)))))))))))
def rv6 := And.intro @conv_str_str (And.intro @frzP_nil (And.intro @frzP_cons (And.intro @chunks_zero (And.intro @chunks_succ (And.intro @splice_eq (And.intro @nilS_some (And.intro @frzT_agg (And.intro @fillM_nil (And.intro @fillM_cons (And.intro @stores_agg (@stores_one)))))))))))
def rv7 := And.intro @one_int (And.intro @one_bool (And.intro @one_str (And.intro @one_strM (And.intro @one_nil (And.intro @one_sl (And.intro @one_hsl (And.intro @one_ptr (And.intro @appL_sl (And.intro @appL_nil (And.intro @appL_str (@appL_hsl)))))))))))
def rv8 := And.intro @rowAll_eq (And.intro @a_len_sl (And.intro @a_len_nil (And.intro @a_len_str (And.intro @a_len_hsl (And.intro @a_min (And.intro @a_max (And.intro @b_len (And.intro @b_min (And.intro @b_max (And.intro @b_append (@barOf_eq)))))))))))
def rv9 := And.intro @bin_str_eql (And.intro @bin_str_neq (And.intro @bin_str_lss (And.intro @bin_str_leq (And.intro @bin_str_gtr (And.intro @bin_str_geq (And.intro @bin_add (And.intro @bin_sub (And.intro @bin_mul (And.intro @bin_quo (And.intro @bin_rem (@bin_and)))))))))))
def rv10 := And.intro @bin_or (And.intro @bin_xor (And.intro @bin_lss (And.intro @bin_leq (And.intro @bin_gtr (And.intro @bin_geq (And.intro @bin_eql (And.intro @bin_neq (And.intro @bin_shl (And.intro @bin_shr (And.intro @un_not (@un_neg)))))))))))
def rv11 := And.intro @pick_true (And.intro @pick_false (And.intro @pick_bool (And.intro @upd_same (And.intro @upd_ne (And.intro @ids_d (And.intro @ids_strM (And.intro @ids_ptr (And.intro @ids_hsl (And.intro @ids_aptr (And.intro @ids_eptr (@ids_fn)))))))))))
def rv12 := And.intro @ids_tup (And.intro @ids_agg (And.intro @id1_d (And.intro @id1_strM (And.intro @id1_ptr (And.intro @id1_hsl (And.intro @binD_v (And.intro @binD_str (And.intro @binD_agg (And.intro @binD_ptr (And.intro @acc_get_zero (@acc_get_succ)))))))))))
def rv13 := And.intro @clashes_nil (And.intro @clashes_cons (And.intro @clashFree_eq (And.intro @noC_nil (And.intro @noC_nil' (And.intro @noC_cons (And.intro @prs_get (And.intro @prs_next (And.intro @guardV_s (And.intro @gset_s (And.intro @gvs_some (@gss_some)))))))))))
def rv14 := And.intro @gslot_gl (And.intro @gl_zero (And.intro @gl_succ (And.intro @frzA_nil (And.intro @frzA_cons (And.intro @frzT_int (And.intro @frzT_bool (And.intro @frzT_str (And.intro @frzT_sl (And.intro @frzT_fn (And.intro @frzT_hsl (@frzT_ptr)))))))))))
def rv15 := And.intro @frzT_aptr (And.intro @frzT_nil (And.intro @frzRow_eq (And.intro @frzUn_some (And.intro @frzs_nil (And.intro @frzs_cons (And.intro @frz1_int (And.intro @frz1_bool (And.intro @frz1_str (And.intro @frz1_sl (And.intro @frz1_nil (@frz1_hsl)))))))))))
def rv16 := And.intro @pureFin_eq (And.intro @resM1 (And.intro @resM2 (And.intro @unpure2_pure2 (And.intro @pure2_length (And.intro @pure2_append (And.intro @bytesOf_map (And.intro @lv_nil (And.intro @lv_cons (And.intro @lvOK_nil (And.intro @lvOK_cons (@ev_tmp)))))))))))
def rv17 := And.intro @ev_int (And.intro @ev_bool (And.intro @ev_nil (And.intro @ev_strc (@ev_func))))
def rl0 := And.intro @l_ca (And.intro @l_na (And.intro @l_an (And.intro @l_allc (And.intro @l_alln (And.intro @l_mapc (And.intro @l_mapn (And.intro @l_fmc (And.intro @l_fmn (And.intro @o_maps (And.intro @o_mapn (@o_iss)))))))))))
def rl1 := And.intro @o_bs (And.intro @o_bn (And.intro @l_lenm (And.intro @l_lenc (And.intro @l_lenn (And.intro @l_g0 (And.intro @l_gs (And.intro @l_gm (And.intro @l_gn (And.intro @l_t0 (And.intro @l_ts (@l_d0)))))))))))
def rl2 := And.intro @l_ds (And.intro @l_tn (And.intro @l_dn (And.intro @l_tm (And.intro @l_dm (And.intro @l_lenr (And.intro @l_r0 (And.intro @l_rs (And.intro @l_flc (And.intro @l_fln (And.intro @l_s0 (@l_ss)))))))))))
def rl3 := And.intro @m_c (And.intro @m_n (And.intro @p_of (And.intro @p_fo (And.intro @p_nf (And.intro @n_tonat (And.intro @n_c0 (And.intro @n_cp (And.intro @i_za (And.intro @i_az (And.intro @i_sz (@n_0le)))))))))))
def rl4 := And.intro @n_za (And.intro @n_om (And.intro @n_mo (And.intro @n_ler (And.intro @b_at (And.intro @b_ta (And.intro @b_af (And.intro @b_fa (And.intro @b_of (And.intro @b_fo (And.intro @b_ot (@b_to)))))))))))
def ru := And.intro @ru0 (And.intro @ru1 (And.intro @ru2 (And.intro @ru3 (And.intro @ru4 (And.intro @ru5 (And.intro @ru6 (And.intro @ru7 (And.intro @ru8 (And.intro @ru9 (And.intro @ru10 (And.intro @ru11 (@ru12))))))))))))
def rv := And.intro @rv0 (And.intro @rv1 (And.intro @rv2 (And.intro @rv3 (And.intro @rv4 (And.intro @rv5 (And.intro @rv6 (And.intro @rv7 (And.intro @rv8 (And.intro @rv9 (And.intro @rv10 (And.intro @rv11 (And.intro @rv12 (And.intro @rv13 (And.intro @rv14 (And.intro @rv15 (And.intro @rv16 (@rv17)))))))))))))))))
def rl := And.intro @rl0 (And.intro @rl1 (And.intro @rl2 (And.intro @rl3 (@rl4))))
end Go.Abs

/- The abstract layer, part Y: cuts, and lists of bytes as data. -/
namespace Go.Abs
section
variable {P : Program} {N : Nat} {prs : Prs} {env : Nat → M} {B : Bx} {n : Nat} {Q : QT}

/-- A piece of code that is not entered until it is said so. -/
def hold (c : Code) : Code := c
def cutAt : Nat → Code → Code
  | 0, c => hold c
  | k + 1, .seq a b => .seq a (cutAt k b)
  | _ + 1, c => c
theorem cutAt_zero {c : Code} : cutAt 0 c = hold c := rfl
theorem cutAt_succ {k : Nat} {a b : Code} : cutAt (k + 1) (.seq a b) = .seq a (cutAt k b) := rfl
end

section
variable {P : Program} {N : Nat} {prs : Prs} {env : Nat → M} {B : Bx} {n : Nat} {Q : QT}
/-- Boxes may be forgotten. -/
theorem Wk.sub {B' : Bx} (hs : ∀ p bx, B'.get p = some bx → B.get p = some bx) : Wk N env B n env B' n := fun w Γ a h => by
  obtain ⟨Γ', e, hw, hu, hl⟩ := h.wr.sub B' hs
  exact ⟨Γ', e, hw, h.er.ext e h.wr.lt, fun p hp => h.lt p (by rw [← hu]; exact hp)⟩
def subOK (B : Bx) : Bx → Prop
  | [] => True
  | (p, x) :: l => B.get p = some x ∧ subOK B l
theorem subOK_nil : subOK B [] = True := rfl
theorem subOK_cons {p : Nat} {x : Box} {l : Bx} : subOK B ((p, x) :: l) = (B.get p = some x ∧ subOK B l) := rfl
theorem subOK_sub : ∀ {l : Bx}, subOK B l → ∀ p bx, Bx.get l p = some bx → B.get p = some bx
  | [], _, p, bx, h => by cases h
  | (q, x) :: l, hs, p, bx, h => by
    rw [get_cons] at h
    split at h
    · rename_i e; subst e; cases h; exact hs.1
    · exact subOK_sub hs.2 p bx h
/-- A nil slice may be taken for an empty row. -/
theorem Wk.thaw {t : Nat} (sz : Nat) (tg : TypeId := 0) (h : env t = .d (.v (.slice none 0 0))) : Wk N env B n (upd env t (.hsl n 0)) ((n, .ar false sz [] tg) :: B) (n + 1) := fun w Γ a hr => by
  have hn : ¬ Γ.used n := fun hu => by have := hr.lt n hu; omega
  obtain ⟨e, hw, hm⟩ := hr.wr.thaw n hn sz tg
  refine ⟨_, e, hw, ?_, fun p hp => ?_⟩
  · refine ⟨hr.er.defers, hr.er.size, fun s => ?_⟩
    simp only [upd]
    split
    · rename_i hs
      subst hs
      have := hr.er.slot s
      rw [h] at this
      rw [mr_v this]
      exact hm
    · exact (hr.er.slot s).ext e hr.wr.lt
  · rcases hp with rfl | hp
    · omega
    · have := hr.lt p hp; omega

variable {σ : Type} {live : σ → List (Nat × M)} {bx : σ → Bx} {ok : σ → Prop} {μ : σ → Nat} {lo k : Nat}
/-- On to the next round; boxes that are not needed any more are forgotten. -/
theorem loopL_drop (s : σ) (h1 : lvOK env (live s)) (h2 : subOK B (bx s)) (h3 : ok s) (hl : lo ≤ n) (h4 : μ s < k) : loopL live bx ok μ lo N k Q .normal env B n :=
  ⟨s, env, bx s, n, Wk.sub (subOK_sub h2), ⟨h1, rfl, h3, hl⟩, h4⟩
theorem aloop_thaw {t : Nat} (sz : Nat) {c : Code} (h : env t = .d (.v (.slice none 0 0))) (k : aloop P N prs c (upd env t (.hsl n 0)) ((n, .ar false sz []) :: B) (n + 1) Q) : aloop P N prs c env B n Q :=
  aloop_wk (Wk.thaw sz (h := h)) k
theorem aloop_drop {c : Code} (B' : Bx) (h : subOK B B') (k : aloop P N prs c env B' n Q) : aloop P N prs c env B n Q := aloop_wk (Wk.sub (subOK_sub h)) k
end

/-- The cells of a variable seen otherwise. -/
theorem WR.view {w : World} {Γ : G} {B : Bx} (h : WR w Γ B) {p : Nat} {c : List M} {tg : TypeId} (hB : B.get p = some (.st c tg)) (c' : List M) (hl : c'.length = c.length)
    (hv : ∀ (i : Nat) (x x' : M) (y : Value), c[i]? = some x → c'[i]? = some x' → MR1 w Γ x y → MR1 w Γ x' y) : WR w Γ (B.set p (.st c' tg)) := by
  have hg : ∀ q, Bx.get (B.set p (.st c' tg)) q = if p = q then some (.st c' tg) else B.get q := fun q => by
    rw [Bx.get_set]
    by_cases hq : p = q
    · subst hq; simp [hB]
    · simp [hq]
  refine ⟨fun q => ?_, fun q bx bi g1 g2 => ?_, h.inj, h.lt, h.blk⟩
  · rw [hg, ← h.dom q]
    by_cases hq : p = q
    · subst hq; simp [hB]
    · simp [hq]
  · rw [hg] at g1
    by_cases hq : p = q
    · subst hq
      rw [if_pos rfl] at g1
      cases g1
      have := h.ok p _ bi hB g2
      cases bi with
      | st b =>
        obtain ⟨a1, cs, e, fz, a2, a3, a4, a5⟩ := this
        refine ⟨a1, cs, e, fz, a2, by rw [a3, hl], a4, fun j x y hx hy => ?_⟩
        have hj : j < c.length := by
          have := (List.getElem?_eq_some_iff.1 hx).1
          omega
        exact hv j c[j] x y (by simp [hj]) hx (a5 j c[j] y (by simp [hj]) hy)
      | nl => exact this.elim
      | ar b off sz n => exact this.elim
    · rw [if_neg hq] at g1
      exact h.ok q bx bi g1 g2
/-- A nil slice in a variable may be taken for an empty row. -/
theorem Wk.thawBox {N : Nat} {env : Nat → M} {B : Bx} {n p j : Nat} {c : List M} {tg : TypeId} (sz : Nat) (t2 : TypeId := 0) (hB : B.get p = some (.st c tg)) (hj : c[j]? = some (.d (.v (.slice none 0 0)))) :
    Wk N env B n env ((n, .ar false sz [] t2) :: B.set p (.st (c.set j (.hsl n 0)) tg)) (n + 1) := fun w Γ a hr => by
  have hn : ¬ Γ.used n := fun hu => by have := hr.lt n hu; omega
  obtain ⟨e, hw, hm⟩ := hr.wr.thaw n hn sz t2
  have hpn : n ≠ p := fun h => by
    subst h
    obtain ⟨bi, hbi⟩ := (hr.wr.dom n).1 ⟨_, hB⟩
    exact hn (hr.wr.lt _ _ hbi)
  have hB' : Bx.get ((n, .ar false sz [] t2) :: B) p = some (.st c tg) := by rw [get_cons, if_neg hpn]; exact hB
  have hw2 := hw.view hB' (c.set j (.hsl n 0)) (by simp) fun i x x' y hx hx' hm1 => by
    rw [List.getElem?_set] at hx'
    by_cases hi : j = i
    · subst hi
      rw [if_pos rfl] at hx'
      split at hx'
      · cases hx'
        rw [hj] at hx
        cases hx
        rw [mr_v hm1.1]
        exact ⟨hm, rfl⟩
      · cases hx'
    · rw [if_neg hi, hx] at hx'
      cases hx'
      exact hm1
  have hset : Bx.set ((n, .ar false sz [] t2) :: B) p (.st (c.set j (.hsl n 0)) tg) = (n, .ar false sz [] t2) :: B.set p (.st (c.set j (.hsl n 0)) tg) := by
    rw [set_cons, if_neg hpn]
  rw [hset] at hw2
  refine ⟨_, e, hw2, hr.er.ext e hr.wr.lt, fun q hq => ?_⟩
  rcases hq with rfl | hq
  · omega
  · have := hr.lt q hq; omega
theorem aloop_thawBox {P : Program} {N : Nat} {prs : Prs} {env : Nat → M} {B : Bx} {n p j : Nat} {Q : QT} {cd : Code} {c : List M} (sz : Nat) (hB : B.get p = some (.st c)) (hj : c[j]? = some (.d (.v (.slice none 0 0))))
    (k : aloop P N prs cd env ((n, .ar false sz []) :: B.set p (.st (c.set j (.hsl n 0)))) (n + 1) Q) : aloop P N prs cd env B n Q := aloop_wk (Wk.thawBox sz (hB := hB) (hj := hj)) k
/-- .. of a Builder: what the row was made as is kept in mind. -/
theorem aloop_thawB {P : Program} {N : Nat} {prs : Prs} {env : Nat → M} {B : Bx} {n p j : Nat} {Q : QT} {cd : Code} {c : List M} {tg : TypeId} (sz : Nat) (t2 : TypeId) (hB : B.get p = some (.st c tg)) (hj : c[j]? = some (.d (.v (.slice none 0 0))))
    (k : aloop P N prs cd env ((n, .ar false sz [] t2) :: B.set p (.st (c.set j (.hsl n 0)) tg)) (n + 1) Q) : aloop P N prs cd env B n Q := aloop_wk (Wk.thawBox sz t2 hB hj) k

/-- The results, one by one. -/
def rvs (P : Program) (env : Nat → M) (B : Bx) : List ResultVar → (List M → Prop) → Prop
  | [], k => k []
  | .tmp t :: l, k => vb (env t) fun x => rvs P env B l fun xs => k (x :: xs)
  | .cell a t :: l, k => vb (env a) fun p => ob (cellsAt B p) fun r => ob (loadM P t r.1 r.2) fun x => rvs P env B l fun xs => k (x :: xs)
theorem rvs_nil {P : Program} {env : Nat → M} {B : Bx} {k : List M → Prop} : rvs P env B [] k = k [] := rfl
theorem rvs_tmp {P : Program} {env : Nat → M} {B : Bx} {k : List M → Prop} {t : Nat} {l : List ResultVar} : rvs P env B (.tmp t :: l) k = vb (env t) fun x => rvs P env B l fun xs => k (x :: xs) := rfl
theorem rvs_cell {P : Program} {env : Nat → M} {B : Bx} {k : List M → Prop} {a t : Nat} {l : List ResultVar} : rvs P env B (.cell a t :: l) k = vb (env a) fun p => ob (cellsAt B p) fun r => ob (loadM P t r.1 r.2) fun x => rvs P env B l fun xs => k (x :: xs) := rfl
theorem rvs_eq {P : Program} {env : Nat → M} {B : Bx} : ∀ {l : List ResultVar} {k : List M → Prop}, rvs P env B l k = ob (resVals P env B l) k
  | [], k => rfl
  | .tmp t :: l, k => by
    rw [rvs_tmp, vb, rvs_eq, resVals, resVal]
    cases resVals P env B l <;> rfl
  | .cell a t :: l, k => by
    rw [rvs_cell, vb, resVals, resVal]
    cases cellsAt B (env a) with
    | none => rfl
    | some r =>
      simp only [ob]
      cases loadM P t r.1 r.2 with
      | none => rfl
      | some x =>
        simp only
        rw [rvs_eq]
        cases resVals P env B l <;> rfl
theorem pureEnd_of {P : Program} {env : Nat → M} {B : Bx} {n : Nat} {fn : Func} {m : M} {rs : List ResultVar} {ts : List TypeId} (h : fn.results.toList = rs) (h2 : fn.resultTypes.toList = ts) :
    pureEnd P fn m .ret env B n = rvs P env B rs fun ms => pureFin P ts m ms B := by
  rw [rvs_eq]
  unfold pureEnd
  rw [h, h2]
  cases resVals P env B rs <;> rfl

/-- '==' of a slice and nil, left as it stands. -/
def nilF (l : List (List D)) (x y : Prop) : Prop := (l = [] → x) ∧ y
section
variable {P : Program} {B : Bx} {K : K2} {t : TypeId} {xo yo : Operand} {sz : Nat} {l : List (List D)}
theorem a_eq_nil : aBin P .eql t xo yo (.d (.sl sz l)) (.d (.v (.slice none 0 0))) B K = grd ((telem P t).isSome = true) (nilF l (kk K (.d (.v (.bool true))) B) (kk K (.d (.v (.bool false))) B)) := by
  simp only [aBin, M.val?, val1, isNilC, grd, nilF, kk, true_and]
theorem a_ne_nil : aBin P .neq t xo yo (.d (.sl sz l)) (.d (.v (.slice none 0 0))) B K = grd ((telem P t).isSome = true) (nilF l (kk K (.d (.v (.bool false))) B) (kk K (.d (.v (.bool true))) B)) := by
  simp only [aBin, M.val?, val1, isNilC, grd, nilF, kk, true_and]
theorem un2_nil : unpure2 [] = some [] := rfl
theorem un2_cons {c : List M} {r : List (List M)} : unpure2 (c :: r) = (unpure1 c).bind fun c' => (unpure2 r).map (c' :: ·) := rfl
theorem un1_nil : unpure1 [] = some [] := rfl
theorem un1_cons {x : D} {c : List M} : unpure1 (.d x :: c) = (unpure1 c).map (x :: ·) := rfl
end
/-- The byte of a number. -/
def u8 (x : Int) : UInt8 := UInt8.ofNat (x % 256).toNat
theorem u8_toNat (x : Int) : ((u8 x).toNat : Int) = x % 256 := by
  have h1 : 0 ≤ x % 256 := Int.emod_nonneg _ (by omega)
  have h2 : x % 256 < 256 := Int.emod_lt_of_pos _ (by omega)
  simp only [u8, UInt8.toNat_ofNat']
  omega
theorem wrap_byte {x : Int} : IntKind.u8.wrap x = ((u8 x).toNat : Int) := by
  rw [u8_toNat]
  simp [IntKind.wrap, IntKind.bits, IntKind.signed]
theorem u8_small {x : Int} (h1 : 0 ≤ x) (h2 : x < 256) : ((u8 x).toNat : Int) = x := by rw [u8_toNat]; omega
theorem u8_of (b : UInt8) : u8 (b.toNat : Int) = b := by
  apply UInt8.toNat.inj
  have := u8_toNat (b.toNat : Int)
  have h := b.toNat_lt
  omega
theorem wrap_b {b : UInt8} : IntKind.i64.wrap (b.toNat : Int) = b.toNat := by have := b.toNat_lt; exact wrap_i64 (by omega) (by omega)
theorem id1 {n k a b : Nat} : (n + k + a = k + b) = (n + a = b) := by apply propext; omega
theorem id2 {n k a b : Nat} : (k + b = n + k + a) = (b = n + a) := by apply propext; omega
theorem id3 {n b : Nat} : (n + b = n) = (b = 0) := by apply propext; omega
theorem id4 {n b : Nat} : (n = n + b) = (b = 0) := by apply propext; omega
def iD (x : Int) : D := .v (.int .i64 x)
def bD (x : Bool) : D := .v (.bool x)
abbrev iM (x : Int) : M := .d (.v (.int .i64 x))
abbrev bM (x : Bool) : M := .d (.v (.bool x))
abbrev bsM (l : List UInt8) : M := .d (.sl 1 (l.map byteD))
def rz := And.intro @b_copy <| And.intro @cpL_sl <| And.intro @cpL_nil <| And.intro @a_copy <| And.intro @cutAt_zero (And.intro @cutAt_succ (And.intro @subOK_nil (And.intro @subOK_cons (And.intro @decide_true (And.intro @decide_false (And.intro @Bool.not_true (And.intro @Bool.not_false (And.intro @Int.cast_ofNat_Int (And.intro @and_self (And.intro @and_true @true_and))))))))))
def ry := And.intro rz <| And.intro @wrap_b (And.intro @rvs_nil (And.intro @rvs_tmp (And.intro @rvs_cell (And.intro @id3 (And.intro @id4 (And.intro @id1 (And.intro @id2 (And.intro @a_eq_nil (And.intro @a_ne_nil (And.intro @un2_nil (And.intro @un2_cons (And.intro @un1_nil (And.intro @un1_cons (And.intro @wrap_byte (And.intro @unpure2_append @u8_of)))))))))))))))
end Go.Abs

/- The abstract layer, part Z: '==' of structs of numbers. -/
namespace Go.Abs
section
variable {P : Program}
theorem ps_und {t : TypeId} {d : TypeDesc} (h : P.underlying t = some d) : pureSem P (underlying t) = some d := by
  simp [underlying, pureSem_bind, program, pureSem, h]
  rfl
theorem ps_prog : pureSem P program = some P := rfl
theorem ps_pure {α : Type} {a : α} : pureSem P (pure a : Sem α) = some a := rfl

/-- Whether two structs of numbers are equal, field by field. -/
def eqInts (P : Program) (xs ys : Array Value) : List Field → Option Bool
  | [] => some true
  | f :: l => if f.name = "_" then none else match P.underlying f.type, xs[f.offset]?, ys[f.offset]? with
    | some (.int _), some (.int k a), some (.int k' b) => if k = k' then (eqInts P xs ys l).map (decide (a = b) && ·) else none
    | _, _, _ => none

theorem ps_part {t : TypeId} {cs : Array Value} {off : Nat} {k : IntKind} {v : Value} (hu : P.underlying t = some (.int k)) (hv : cs[off]? = some v) : pureSem P (part t cs off) = some v := by
  unfold part isAgg
  simp only [pureSem_bind, ps_und hu, Option.bind_some, ps_pure, Bool.false_eq_true, if_false, hv]

theorem eqFields_ok {xs ys : Array Value} {d : Nat} : ∀ {l : List Field} {r : Bool}, eqInts P xs ys l = some r →
    pureSem P (forIn l ((none, ()) : Option Bool × Unit) fun f s => if f.name ≠ "_" then do
        let a ← part f.type xs f.offset
        let b ← part f.type ys f.offset
        let e ← Op.equalIn (d + 1) f.type a b
        if (!e) = true then pure (ForInStep.done (some false, ())) else pure (ForInStep.yield (none, ()))
      else pure (ForInStep.yield (none, ()))) = some (if r then (none, ()) else (some false, ()))
  | [], r, h => by simp [eqInts] at h; subst h; rfl
  | f :: l, r, h => by
    simp only [eqInts] at h
    split at h
    · cases h
    · rename_i hn
      split at h
      · rename_i k0 k a k' b hu hx hy
        split at h
        · rename_i hk
          subst hk
          simp only [Option.map_eq_some_iff] at h
          obtain ⟨r', hr', rfl⟩ := h
          have he : pureSem P (Op.equalIn (d + 1) f.type (.int k a) (.int k b)) = some (a == b) := by
            simp [Op.equalIn, pureSem_bind, ps_und hu, ps_pure]
          rw [List.forIn_cons]
          simp only [pureSem_bind, hn, ne_eq, not_false_eq_true, if_true, ps_part hu hx, ps_part hu hy, Option.bind_some, he]
          by_cases hab : a = b
          · subst hab
            simp only [BEq.rfl, Bool.not_true, Bool.false_eq_true, if_false, ps_pure, Option.bind_some, decide_true, Bool.true_and]
            have := eqFields_ok (d := d) hr'
            simp only [pureSem_bind, ne_eq] at this
            exact this
          · have hb : (a == b) = false := by simpa using hab
            simp only [hb, Bool.not_false, if_true, ps_pure, Option.bind_some, hab, decide_false, Bool.false_and, Bool.false_eq_true, if_false]
        · cases h
      · cases h

theorem eqStruct_ok {t : TypeId} {fs : Array Field} {xs ys : Array Value} {r : Bool} (hu : P.underlying t = some (.struct fs)) (hs : P.stoodInHeld t = false) (h : eqInts P xs ys fs.toList = some r) :
    pureSem P (Op.equal t (.agg xs) (.agg ys)) = some r := by
  rw [Op.equal, show Op.maxDepth = 9998 + 1 + 1 from rfl, Op.equalIn]
  simp only [pureSem_bind, ps_und hu, Option.bind_some, ps_prog, hs, Bool.false_eq_true, if_false]
  have := eqFields_ok (d := 9998) h
  rw [Array.forIn_toList] at this
  simp only [ne_eq] at this ⊢
  refine (congrArg (fun o => Option.bind o _) this).trans ?_
  cases r <;> rfl

/-- '==' of two structs of numbers. -/
theorem bin_struct_eql {t : TypeId} {fs : Array Field} {xo yo : Operand} {cs ds : List M} {xs ys : List Value} {r : Bool} {B : Bx} {K : K2} (hu : P.underlying t = some (.struct fs)) (hs : P.stoodInHeld t = false)
    (hg : P.eqGuardType P.depth t = false) (hx : cs.mapM val1 = some xs) (hy : ds.mapM val1 = some ys) (h : eqInts P xs.toArray ys.toArray fs.toList = some r) :
    aBin P .eql t xo yo (.agg cs) (.agg ds) B K = kk K (.d (.v (.bool r))) B := by
  have hxv : M.val? (.agg cs) = some (.agg xs.toArray) := by simp [M.val?, hx]
  have hyv : M.val? (.agg ds) = some (.agg ys.toArray) := by simp [M.val?, hy]
  unfold aBin
  simp only [hxv, hyv]
  have he : pureSem P (do eqGuard .eql t xo yo (.agg xs.toArray) (.agg ys.toArray); binOp .eql t (.agg xs.toArray) (.agg ys.toArray)) = some (.bool r) := by
    rw [pureSem_bind]
    have h1 : pureSem P (eqGuard .eql t xo yo (.agg xs.toArray) (.agg ys.toArray)) = some () := by
      simp [eqGuard, pureSem_bind, ps_prog, hg, ps_pure]
    rw [h1, Option.bind_some, show binOp .eql t (.agg xs.toArray) (.agg ys.toArray) = (Op.equal t (.agg xs.toArray) (.agg ys.toArray) >>= fun e => pure (.bool e)) from rfl, pureSem_bind, eqStruct_ok hu hs h]
    rfl
  rw [he]
  rfl
theorem bin_struct_neq {t : TypeId} {fs : Array Field} {xo yo : Operand} {cs ds : List M} {xs ys : List Value} {r : Bool} {B : Bx} {K : K2} (hu : P.underlying t = some (.struct fs)) (hs : P.stoodInHeld t = false)
    (hg : P.eqGuardType P.depth t = false) (hx : cs.mapM val1 = some xs) (hy : ds.mapM val1 = some ys) (h : eqInts P xs.toArray ys.toArray fs.toList = some r) :
    aBin P .neq t xo yo (.agg cs) (.agg ds) B K = kk K (.d (.v (.bool (!r)))) B := by
  have hxv : M.val? (.agg cs) = some (.agg xs.toArray) := by simp [M.val?, hx]
  have hyv : M.val? (.agg ds) = some (.agg ys.toArray) := by simp [M.val?, hy]
  unfold aBin
  simp only [hxv, hyv]
  have he : pureSem P (do eqGuard .neq t xo yo (.agg xs.toArray) (.agg ys.toArray); binOp .neq t (.agg xs.toArray) (.agg ys.toArray)) = some (.bool (!r)) := by
    rw [pureSem_bind]
    have h1 : pureSem P (eqGuard .neq t xo yo (.agg xs.toArray) (.agg ys.toArray)) = some () := by
      simp [eqGuard, pureSem_bind, ps_prog, hg, ps_pure]
    rw [h1, Option.bind_some, show binOp .neq t (.agg xs.toArray) (.agg ys.toArray) = (Op.equal t (.agg xs.toArray) (.agg ys.toArray) >>= fun e => pure (.bool (!e))) from rfl, pureSem_bind, eqStruct_ok hu hs h]
    rfl
  rw [he]
  rfl
/-- At the end of a function that is called with boxes: what it has made itself may be forgotten. -/
def aEnd (P : Program) (fn : Func) (K : KT) : QT := fun x env B n => match x with
  | .exit _ => False
  | _ => match resVals P env B fn.results.toList with
    | some ms => ∃ B1, (∀ p x, Bx.get B1 p = some x → Bx.get B p = some x) ∧ K (resM ms) B1 n
    | none => False

theorem AFn.intro {prs : Prs} {f : FuncId} {fn : Func} {c : Code} {args : List M} {B : Bx} {n : Nat} {K : KT}
    (hf : P.funcs[f]? = some fn) (hb : fn.body = some c) (hname : (fn.name == "runtime.NumGoroutine") = false) (hmix : P.follows .mixedOrders = true) (hd : drawsOK prs c = true) (hN : decide (args.length ≤ fn.ntmps) = true)
    (h : (∀ p x, Bx.get B p = some x → p < n) → awp P fn.ntmps prs c (argUpd 0 args) B (n + 0) (aEnd P fn K)) : AFn P f args B n K := by
  rw [← argEnv_upd] at h
  refine ⟨⟨fn, hf, by rw [hb]; rfl, hname⟩, fun Γ w vs hbase hw hlt ha => ?_⟩
  refine calls_of_wp hf hb ?_
  have hr : Rel w Γ fn.ntmps (argEnv args) B n { tmps := vs.toArray ++ Array.replicate (fn.ntmps - vs.toArray.size) undef, defers := [] } :=
    ⟨hw, er_begin ha (of_decide_eq_true hN), hlt⟩
  have hlt2 : ∀ p x, Bx.get B p = some x → p < n := fun p x hp => by
    obtain ⟨bi, hbi⟩ := (hw.dom p).1 ⟨x, hp⟩
    exact hlt p (hw.lt p bi hbi)
  refine awp_sound hmix c hd hbase hr (h hlt2) fun x env' B' n' Γ' w' a' q1 q2 q3 => ?_
  have fin : (match resVals P env' B' fn.results.toList with
    | some ms => ∃ B1, (∀ p x, Bx.get B1 p = some x → Bx.get B' p = some x) ∧ K (resM ms) B1 n'
    | none => False) → a'.defers = [] ∧ ∃ v, (results fn a'.tmps).run P w' = .ok v w' ∧ ∃ cv Γ' m B' n', Ending.returned v = .returned cv ∧ K m B' n' ∧ Ext Γ w Γ' w' ∧ WR w' Γ' B' ∧ (∀ p, Γ'.used p → p < n') ∧ MR w' Γ' m cv := by
    intro hres
    split at hres
    · rename_i ms hms
      obtain ⟨B1, hs, hk⟩ := hres
      obtain ⟨vs', hrun, hargs⟩ := results_ok (P := P) q3.wr q3.er hms
      have hmr := resM_ok hargs
      obtain ⟨Γ2, e2, w2, u2, l2⟩ := q3.wr.sub B1 hs
      exact ⟨q3.er.defers, _, run_results hrun, _, Γ2, _, B1, n', rfl, hk, q2.trans e2, w2, fun p hp => q3.lt p (by rw [← u2]; exact hp), hmr.ext e2 q3.wr.lt⟩
    · exact hres.elim
  cases x with
  | exit i => exact q1.elim
  | normal => exact fin q1
  | ret => exact fin q1
def aFin (K : KT) (B : Bx) (n : Nat) (ms : List M) : Prop := ∃ B1, (∀ p x, Bx.get B1 p = some x → Bx.get B p = some x) ∧ K (resM ms) B1 n
theorem aEnd_of {env : Nat → M} {B : Bx} {n : Nat} {fn : Func} {K : KT} {rs : List ResultVar} (h : fn.results.toList = rs) : aEnd P fn K .ret env B n = rvs P env B rs (aFin K B n) := by
  rw [rvs_eq]
  unfold aEnd
  rw [h]
  cases resVals P env B rs <;> rfl
/-- At the end of a function that returns a row of its own. -/
theorem aFin_own {B : Bx} {n p k k' sz : Nat} {l : List (List D)} {l' : List (List M)} (h : B.get p = some (.ar false sz l')) (hl : l' = pure2 l) (hk : k = k') :
    aFin (fun m B' _ => ∃ id, m = .hsl id k' ∧ B' = [(id, .ar false sz (pure2 l))]) B n [.hsl p k] := by
  subst hl
  refine ⟨[(p, .ar false sz (pure2 l))], fun q x hq => ?_, p, by subst hk; rfl, rfl⟩
  rw [get_single] at hq
  split at hq
  · rename_i e; subst e; cases hq; exact h
  · cases hq
theorem aFin_same {K : KT} {B : Bx} {n : Nat} {ms : List M} (h2 : K (resM ms) B n) : aFin K B n ms := ⟨B, fun _ _ h => h, h2⟩
end
end Go.Abs

/- The abstract layer, the bridge: a statement's arguments, read as data, are pure data; what the call leaves behind reads as it did. -/
namespace Go.Abs
open Go.ChangeShapes Go.WideShapes Go.RowKit

/-- What a type of plain data is made of. -/
inductive Ty where
  | bool
  | int (k : IntKind)
  | str
  | sl (sz : Nat) (e : Ty)
  | st (fs : List (Nat × Ty))

mutual
/-- Data of a type, cell by cell. -/
def Sh : Ty → List D → Prop
  | .bool, c => ∃ b, c = [.v (.bool b)]
  | .int k, c => ∃ n, c = [.v (.int k n)] ∧ (Lit.int k n).wf = true
  | .str, c => ∃ s : ByteArray, c = [.v (.string s)] ∧ s.size ≤ maxLen
  | .sl sz e, c => ∃ l, c = [.sl sz l] ∧ l.length ≤ maxLen ∧ (∀ x, x ∈ l → x.length = sz) ∧ ∀ x, x ∈ l → Sh e x
  | .st fs, c => ShAll fs c
def ShAll : List (Nat × Ty) → List D → Prop
  | [], c => c = []
  | (s, t) :: r, c => ∃ a b, c = a ++ b ∧ a.length = s ∧ Sh t a ∧ ShAll r b
end

section
variable {P : Program}

/-- The parts of a struct: their offsets are those of their sizes, one behind the other. -/
def tyFields (P : Program) (f : TypeId → Option Ty) : Nat → List (Nat × TypeId) → Option (List (Nat × Ty))
  | _, [] => some []
  | off, (o, t) :: r => if o = off then (f t).bind fun ty => (tyFields P f (off + P.cellsOf t) r).map ((P.cellsOf t, ty) :: ·) else none
def tyOf (P : Program) : Nat → TypeId → Option Ty
  | 0, _ => none
  | n + 1, t => match P.underlying t with
    | some .bool => some .bool
    | some (.int k) => some (.int k)
    | some .string => some .str
    | some (.slice e) => if 0 < P.cellsOf e then (tyOf P n e).map (.sl (P.cellsOf e)) else none
    | some (.struct fs) => if (fs.toList.map fun f => P.cellsOf f.type).sum = P.cellsOf t then (tyFields P (tyOf P n) 0 (fs.toList.map fun f => (f.offset, f.type))).map .st else none
    | some (.array k e) => if k * P.cellsOf e = P.cellsOf t then (tyFields P (tyOf P n) 0 ((List.range k).map fun i => (i * P.cellsOf e, e))).map .st else none
    | _ => none

section
variable {H : Type} {enc : TypeId × Value → H} {w : World} {base : Nat} {spare : Nat → Bool} {held : Bool}

/-- How many cells a block has. -/
def lim0 (w : World) (k : Nat) : Nat := match w.heap[k]? with | some (.cells cs _ _) => cs.size | _ => 0

def DRs (w : World) (c : List D) (cs : List Value) : Prop := c.length = cs.length ∧ ∀ (j : Nat) (x : D) (y : Value), c[j]? = some x → cs[j]? = some y → DR w (lim0 w) x y ∧ y.oneCell' = true

theorem DRs.one {x : D} {y : Value} (h : DR w (lim0 w) x y) (h1 : y.oneCell' = true) : DRs w [x] [y] :=
  ⟨rfl, fun j a b ha hb => by
    cases j with
    | zero => simp at ha hb; subst ha; subst hb; exact ⟨h, h1⟩
    | succ j => simp at ha⟩
theorem DRs.append {c c' : List D} {cs cs' : List Value} (h : DRs w c cs) (h' : DRs w c' cs') : DRs w (c ++ c') (cs ++ cs') := by
  refine ⟨by simp [h.1, h'.1], fun j x y hx hy => ?_⟩
  by_cases hj : j < c.length
  · rw [List.getElem?_append_left hj] at hx
    rw [List.getElem?_append_left (by rw [← h.1]; exact hj)] at hy
    exact h.2 j x y hx hy
  · rw [List.getElem?_append_right (by omega)] at hx
    rw [List.getElem?_append_right (by have := h.1; omega), ← h.1] at hy
    exact h'.2 _ x y hx hy

theorem cells?_get {a : Addr} {n : Nat} {l : List Value} (h : w.cells? base a n = some l) : l.length = n ∧ ∀ j, j < n → w.cell? (a.add j) = l[j]? := by
  unfold World.cells? at h
  split at h
  · refine ⟨by simpa using mapM_some_length h, fun j hj => ?_⟩
    exact mapM_some_get h j j (by simp [hj])
  · cases h

theorem add_zero' (a : Addr) : a.add 0 = a := by simp [Addr.add]
theorem cell_lim {a : Addr} {v : Value} (h : w.cell? a = some v) : a.spot = none ∧ a.off < lim0 w a.block ∧ a.block < w.heap.size := by
  unfold World.cell? at h
  unfold lim0
  split at h
  · rename_i c e fz hb
    split at h
    · cases h
    · rename_i hs
      rw [hb]
      refine ⟨by simpa using hs, ?_, ?_⟩
      · exact (Array.getElem?_eq_some_iff.1 h).1
      · exact (Array.getElem?_eq_some_iff.1 hb).1
  · cases h

theorem choose_list {α : Type} {p : Nat → α → Prop} : ∀ (n : Nat), (∀ i, i < n → ∃ x, p i x) → ∃ l : List α, l.length = n ∧ ∀ (i : Nat) (x : α), l[i]? = some x → p i x
  | 0, _ => ⟨[], rfl, fun i x h => by simp at h⟩
  | n + 1, h => by
    obtain ⟨l, hl, hp⟩ := choose_list n fun i hi => h i (by omega)
    obtain ⟨x, hx⟩ := h n (by omega)
    refine ⟨l ++ [x], by simp [hl], fun i y hy => ?_⟩
    by_cases hi : i < n
    · rw [List.getElem?_append_left (by omega)] at hy
      exact hp i y hy
    · have hlt := (List.getElem?_eq_some_iff.1 hy).1
      simp at hlt
      have : i = n := by omega
      subst this
      rw [List.getElem?_append_right (by omega)] at hy
      simp [hl] at hy
      subst hy; exact hx

theorem trod_fields {n m : Nat} {fs : List (Nat × TypeId)} : ∀ {off : Nat} {tys : List (Nat × Ty)} {cs : List Value} {total : Nat},
    tyFields P (tyOf P n) off fs = some tys → cs.length = total → off + (fs.map fun f => P.cellsOf f.2).sum = total →
    (∀ f, f ∈ fs → ∃ x, DataW.trod enc P w base spare held m f.2 ((cs.drop f.1).take (P.cellsOf f.2)) = some x) →
    (∀ (ty : Ty) (t : TypeId) (cs : List Value) (x : DataW H × List MemPlace), tyOf P n t = some ty → DataW.trod enc P w base spare held m t cs = some x → ∃ c, Sh ty c ∧ DRs w c cs) →
    ∃ c, ShAll tys c ∧ DRs w c (cs.drop off) := by
  induction fs with
  | nil =>
    intro off tys cs total h hl hs _ _
    simp [tyFields] at h
    subst h
    simp at hs
    exact ⟨[], by simp [ShAll], by rw [List.drop_eq_nil_of_le (by omega)]; exact ⟨rfl, fun j x y h => by simp at h⟩⟩
  | cons f fs ih =>
    obtain ⟨o, t⟩ := f
    intro off tys cs total h hl hs hf ht
    simp only [tyFields] at h
    split at h
    · rename_i ho
      subst ho
      simp only [Option.bind_eq_some_iff, Option.map_eq_some_iff] at h
      obtain ⟨ty, h1, r, h2, rfl⟩ := h
      simp only [List.map_cons, List.sum_cons] at hs
      obtain ⟨x, hx⟩ := hf (o, t) (List.mem_cons_self ..)
      obtain ⟨a, sa, da⟩ := ht ty t _ x h1 hx
      obtain ⟨b, sb, db⟩ := ih h2 hl (by omega) (fun f hm => hf f (List.mem_cons_of_mem _ hm)) ht
      refine ⟨a ++ b, ?_, ?_⟩
      · rw [ShAll]
        refine ⟨a, b, rfl, ?_, sa, sb⟩
        rw [da.1]; simp; omega
      · have e : cs.drop o = (cs.drop o).take (P.cellsOf t) ++ cs.drop (o + P.cellsOf t) := by
          rw [← List.drop_drop, List.take_append_drop]
        rw [e]
        exact da.append db
    · cases h

theorem trod_dr : ∀ (n m : Nat) (ty : Ty) (t : TypeId) (cs : List Value) (x : DataW H × List MemPlace), tyOf P n t = some ty → DataW.trod enc P w base spare held m t cs = some x →
    ∃ c, Sh ty c ∧ DRs w c cs
  | 0, _, _, _, _, _, h, _ => by simp [tyOf] at h
  | n + 1, m, ty, t, cs, x, h, hx => by
    unfold tyOf at h
    split at h
    · rename_i hu
      cases h
      obtain ⟨b, rfl, _⟩ := DataW.trod_bool hu hx
      exact ⟨_, by simp only [Sh]; exact ⟨b, rfl⟩, .one (.v _) rfl⟩
    · rename_i k hu
      cases h
      obtain ⟨v, rfl, _, hw⟩ := DataW.trod_int hu hx
      exact ⟨_, by simp only [Sh]; exact ⟨v, rfl, hw⟩, .one (.v _) rfl⟩
    · rename_i hu
      cases h
      obtain ⟨s, rfl, _, hs⟩ := DataW.trod_string hu hx
      exact ⟨_, by simp only [Sh]; exact ⟨s, rfl, hs⟩, .one (.v _) rfl⟩
    · rename_i e hu
      split at h
      · rename_i hpos
        simp only [Option.map_eq_some_iff] at h
        obtain ⟨te, he, rfl⟩ := h
        rcases DataW.trod_slice hu hx with ⟨rfl, _⟩ | ⟨a, len, cap, elems, rest, k, rfl, rfl, _, _, hlc, hcm, hlen, hel, _, _⟩
        · exact ⟨_, by simp only [Sh]; exact ⟨[], rfl, by simp, by simp, by simp⟩, .one .slNil rfl⟩
        · have hx : ∀ i, i < len → ∃ r : List D × List Value, Sh te r.1 ∧ DRs w r.1 r.2 ∧ w.cells? base (a.add (i * P.cellsOf e)) (P.cellsOf e) = some r.2 := fun i hi => by
            have h1 := hel i hi
            have h2 : i < elems.length := by omega
            rw [List.getElem?_eq_getElem h2] at h1
            simp only [Option.bind_eq_some_iff] at h1
            obtain ⟨cv, hc1, hc2⟩ := h1
            obtain ⟨c, sc, dc⟩ := trod_dr n k te e cv _ he hc2
            exact ⟨(c, cv), sc, dc, hc1⟩
          obtain ⟨l, hl, hp⟩ := choose_list len hx
          have hsz : ∀ (i : Nat) (r : List D × List Value), l[i]? = some r → r.1.length = P.cellsOf e := fun i r hr => by
            obtain ⟨_, d, hc⟩ := hp i r hr
            rw [d.1]; exact (cells?_get hc).1
          have hmem : ∀ c, c ∈ l.map (·.1) → ∃ (i : Nat) (r : List D × List Value), l[i]? = some r ∧ r.1 = c := fun c hc => by
            obtain ⟨r, hr, rfl⟩ := List.mem_map.1 hc
            obtain ⟨i, hi⟩ := List.mem_iff_getElem?.1 hr
            exact ⟨i, r, hi, rfl⟩
          refine ⟨[.sl (P.cellsOf e) (l.map (·.1))], ?_, .one ?_ rfl⟩
          · simp only [Sh]
            refine ⟨_, rfl, by simp; omega, fun c hc => ?_, fun c hc => ?_⟩
            · obtain ⟨i, r, hi, rfl⟩ := hmem c hc
              exact hsz i r hi
            · obtain ⟨i, r, hi, rfl⟩ := hmem c hc
              exact (hp i r hi).1
          · cases hn : l with
            | nil =>
              subst hn
              simp at hl
              subst hl
              simp only [List.map_nil]
              exact .slE _ a cap
            | cons r0 l0 =>
              rw [← hn]
              have hl0 : 0 < len := by rw [← hl, hn]; simp
              -- the last cell tells where the block ends
              have hspot : a.spot = none := by
                obtain ⟨_, _, hc⟩ := hp 0 r0 (by rw [hn]; rfl)
                obtain ⟨c1, c2⟩ := cells?_get hc
                have h3 := c2 0 hpos
                rw [Nat.zero_mul, add_zero', add_zero', List.getElem?_eq_getElem (by omega)] at h3
                exact (cell_lim h3).1
              obtain ⟨b, off, sp⟩ := a
              simp only at hspot
              subst hspot
              have cellAt : ∀ (i j : Nat) (r : List D × List Value), l[i]? = some r → j < P.cellsOf e → ∃ y, r.2[j]? = some y ∧ w.cell? ⟨b, off + i * P.cellsOf e + j, none⟩ = some y := fun i j r hr hj => by
                obtain ⟨_, _, hc⟩ := hp i r hr
                obtain ⟨c1, c2⟩ := cells?_get hc
                have h3 := c2 j hj
                rw [add_addr, add_addr] at h3
                have h4 : j < r.2.length := by omega
                exact ⟨r.2[j], by rw [List.getElem?_eq_getElem h4], by rw [h3, List.getElem?_eq_getElem h4]⟩
              have hlast : off + len * P.cellsOf e ≤ lim0 w b ∧ b < w.heap.size := by
                have h1 : len - 1 < l.length := by omega
                obtain ⟨y, _, hy⟩ := cellAt (len - 1) (P.cellsOf e - 1) l[len - 1] (List.getElem?_eq_getElem h1) (by omega)
                obtain ⟨_, h2, h3⟩ := cell_lim hy
                refine ⟨?_, h3⟩
                simp only at h2
                have e1 : len * P.cellsOf e = (len - 1) * P.cellsOf e + P.cellsOf e := by
                  rw [show len = (len - 1) + 1 from by omega, Nat.add_mul, Nat.one_mul]; simp
                omega
              have hll : (l.map (·.1)).length = len := by simp [hl]
              have key : ∀ (i j : Nat) (c : List D) (x : D), (l.map (·.1))[i]? = some c → c[j]? = some x → ∃ r y, l[i]? = some r ∧ r.1 = c ∧ r.2[j]? = some y ∧
                  w.cell? ⟨b, off + i * P.cellsOf e + j, none⟩ = some y ∧ DR w (lim0 w) x y ∧ y.oneCell' = true := fun i j c x hi hj => by
                rw [List.getElem?_map] at hi
                simp only [Option.map_eq_some_iff] at hi
                obtain ⟨r, hr, rfl⟩ := hi
                have hjl : j < P.cellsOf e := by
                  have := (List.getElem?_eq_some_iff.1 hj).1
                  rw [hsz i r hr] at this; exact this
                obtain ⟨y, hy1, hy2⟩ := cellAt i j r hr hjl
                obtain ⟨_, d, _⟩ := hp i r hr
                obtain ⟨d1, d2⟩ := d.2 j x y hj hy1
                exact ⟨r, y, hr, rfl, hy1, hy2, d1, d2⟩
              have := DR.sl (w := w) (lim := lim0 w) (P.cellsOf e) (l.map (·.1)) b off cap (fun i j => ((l[i]?).bind fun r => r.2[j]?).getD undef)
                (fun c hc => by obtain ⟨i, r, hi, rfl⟩ := hmem c hc; exact hsz i r hi) (by omega) (fun _ => by rw [hll]; exact hlast.1) (fun _ => hlast.2)
                (fun i j c x hi hj => by
                  obtain ⟨r, y, h1, h2, h3, h4, h5, h6⟩ := key i j c x hi hj
                  rw [h4, h1]; simp [h3])
                (fun i j c x hi hj => by
                  obtain ⟨r, y, h1, h2, h3, h4, h5, h6⟩ := key i j c x hi hj
                  rw [h1]; simpa [h3] using h5)
                (fun i j c x hi hj => by
                  obtain ⟨r, y, h1, h2, h3, h4, h5, h6⟩ := key i j c x hi hj
                  rw [h1]; simpa [h3] using h6)
              rw [hll] at this
              exact this
      · cases h
    · rename_i fs hu
      split at h
      · rename_i hsum
        simp only [Option.map_eq_some_iff] at h
        obtain ⟨tys, h1, rfl⟩ := h
        obtain ⟨xs, k, rfl, _, hl, hxl, hf⟩ := DataW.trod_struct hu hx
        obtain ⟨c, s, d⟩ := trod_fields (n := n) (m := k) (enc := enc) (w := w) (base := base) (spare := spare) (held := held) (cs := cs) h1 hl (by simp [List.map_map, Function.comp_def, hsum]) (fun f hm => by
          obtain ⟨g, hg, rfl⟩ := List.mem_map.1 hm
          obtain ⟨i, hi⟩ := List.mem_iff_getElem?.1 hg
          have h2 := hf i g (by simpa using hi)
          have h3 : i < xs.length := by
            have := (List.getElem?_eq_some_iff.1 hi).1
            rw [hxl]; simpa using this
          rw [List.getElem?_eq_getElem h3] at h2
          exact ⟨_, h2⟩) (fun ty t cs x h1 h2 => trod_dr n k ty t cs x h1 h2)
        exact ⟨c, by simpa only [Sh] using s, by simpa using d⟩
      · cases h
    · rename_i q e hu
      split at h
      · rename_i hsum
        simp only [Option.map_eq_some_iff] at h
        obtain ⟨tys, h1, rfl⟩ := h
        obtain ⟨xs, k, rfl, _, hl, hxl, hf⟩ := DataW.trod_array hu hx
        have hs : (((List.range q).map fun i => (i * P.cellsOf e, e)).map fun f : Nat × TypeId => P.cellsOf f.2).sum = q * P.cellsOf e := by
          simp [List.map_map, Function.comp_def, List.map_const', List.sum_replicate_nat]
        obtain ⟨c, s, d⟩ := trod_fields (n := n) (m := k) (enc := enc) (w := w) (base := base) (spare := spare) (held := held) (cs := cs) h1 hl (by rw [hs]; omega) (fun f hm => by
          obtain ⟨i, hi, rfl⟩ := List.mem_map.1 hm
          have hi' : i < q := by simpa using hi
          have h2 := hf i hi'
          have h3 : i < xs.length := by omega
          rw [List.getElem?_eq_getElem h3] at h2
          exact ⟨_, h2⟩) (fun ty t cs x h1 h2 => trod_dr n k ty t cs x h1 h2)
        exact ⟨c, by simpa only [Sh] using s, by simpa using d⟩
      · cases h
    · cases h

/-- A parameter as the walk takes it. -/
def argM : Ty → List D → M
  | .st _, c => .agg (c.map M.d)
  | _, [x] => .d x
  | _, _ => undefM

theorem trod_arg {n : Nat} {ty : Ty} {t : TypeId} {v : Value} {d : DataW H} {ps : List MemPlace} {r : Reach} {b0 : Nat} (h : tyOf P n t = some ty) (hval : Value.okWide P w r b0 t v)
    (hd : DataW.Trod enc P w base spare held t v d ps) : ∃ c, Sh ty c ∧ MR w (pureG (lim0 w)) (argM ty c) v := by
  obtain ⟨m, hm⟩ := hd
  obtain ⟨c, s, dr⟩ := trod_dr n m ty t _ _ h hm
  refine ⟨c, s, ?_⟩
  have one : ∀ x, c = [x] → v.cells = #[v] → MR w (pureG (lim0 w)) (.d x) v := fun x hx hv => by
    subst hx
    exact .d (dr.2 0 x v rfl (by rw [hv]; rfl)).1
  cases n with
  | zero => simp [tyOf] at h
  | succ n =>
    unfold tyOf at h
    split at h
    · rename_i hu
      cases h
      simp only [Sh] at s
      obtain ⟨b, rfl⟩ := s
      obtain ⟨b, rfl⟩ := okWide_bool hu hval
      exact one _ rfl rfl
    · rename_i k hu
      cases h
      simp only [Sh] at s
      obtain ⟨b, rfl, _⟩ := s
      obtain ⟨b, rfl⟩ := okWide_int hu hval
      exact one _ rfl rfl
    · rename_i hu
      cases h
      simp only [Sh] at s
      obtain ⟨b, rfl, _⟩ := s
      obtain ⟨b, rfl⟩ := okWide_string hu hval
      exact one _ rfl rfl
    · rename_i e hu
      split at h
      · simp only [Option.map_eq_some_iff] at h
        obtain ⟨te, he, rfl⟩ := h
        simp only [Sh] at s
        obtain ⟨l, rfl, _⟩ := s
        obtain ⟨a, len, cap, rfl⟩ := okWide_slice hu hval
        exact one _ rfl rfl
      · cases h
    · rename_i fs hu
      split at h
      · simp only [Option.map_eq_some_iff] at h
        obtain ⟨te, he, rfl⟩ := h
        obtain ⟨cs, rfl, _⟩ := okWide_struct hu hval
        refine .agg (by have := dr.1; simp [Value.cells] at this ⊢; omega) fun i x y hx hy => ?_
        rw [List.getElem?_map] at hx
        simp only [Option.map_eq_some_iff] at hx
        obtain ⟨z, hz, rfl⟩ := hx
        exact .d (dr.2 i z y hz (by simpa [Value.cells] using hy)).1
      · cases h
    · rename_i q e hu
      split at h
      · simp only [Option.map_eq_some_iff] at h
        obtain ⟨te, he, rfl⟩ := h
        have hv : ∃ cs, v = .agg cs := by
          unfold Value.okWide at hval
          rw [hu] at hval
          obtain ⟨cs, rfl, _⟩ := hval
          exact ⟨cs, rfl⟩
        obtain ⟨cs, rfl⟩ := hv
        refine .agg (by have := dr.1; simp [Value.cells] at this ⊢; omega) fun i x y hx hy => ?_
        rw [List.getElem?_map] at hx
        simp only [Option.map_eq_some_iff] at hx
        obtain ⟨z, hz, rfl⟩ := hx
        exact .d (dr.2 i z y hz (by simpa [Value.cells] using hy)).1
      · cases h
    · cases h

/-- The shapes of all arguments. -/
def ShArgs : List Ty → List (List D) → Prop
  | [], cs => cs = []
  | t :: ts, cs => ∃ c r, cs = c :: r ∧ Sh t c ∧ ShArgs ts r
def argMs : List Ty → List (List D) → List M
  | t :: ts, c :: cs => argM t c :: argMs ts cs
  | _, _ => []

theorem trod_args {n : Nat} : ∀ {ts : List TypeId} {tys : List Ty} {vs : List Value} {ds : List (DataW H)} {ps : List MemPlace} {r : Reach} {b0 : Nat}, ts.mapM (tyOf P n) = some tys →
    (∀ (j : Nat) t v, ts[j]? = some t → vs[j]? = some v → Value.okWide P w r b0 t v) → DataW.TrodAll enc P w base spare held ts vs ds ps →
    ∃ cs, ShArgs tys cs ∧ Args w (pureG (lim0 w)) (argMs tys cs) vs
  | [], tys, vs, ds, ps, r, b0, h, hv, hd => by
    obtain ⟨rfl, rfl, rfl⟩ := trodAll_nil hd
    simp at h
    subst h
    exact ⟨[], by simp [ShArgs], by simpa [argMs] using Args.nil⟩
  | t :: ts, tys, vs, ds, ps, r, b0, h, hv, hd => by
    obtain ⟨v, vs1, d, ds1, a, b, rfl, rfl, rfl, h1, h2⟩ := trodAll_cons hd
    rw [List.mapM_cons] at h
    simp only [Option.bind_eq_bind, Option.bind_eq_some_iff] at h
    obtain ⟨ty, ht, tys', hts, h⟩ := h
    cases h
    obtain ⟨c, s, m⟩ := trod_arg ht (hv 0 t v rfl rfl) h1
    obtain ⟨cs, ss, ms⟩ := trod_args (ts := ts) (tys := tys') hts (fun j t v h1 h2 => hv (j + 1) t v (by simpa using h1) (by simpa using h2)) h2
    exact ⟨c :: cs, by simp only [ShArgs]; exact ⟨c, cs, rfl, s, ss⟩, by simpa [argMs] using Args.cons m ms⟩
end

theorem Ext.below {lim lim' : Nat → Nat} {w w' : World} (h : Ext (pureG lim) w (pureG lim') w') : Below w.heap.size w w' :=
  ⟨h.os, h.tape, h.output, h.size, fun k hk => (h.keep k hk (fun ⟨p, bi, hb, _⟩ => by simp [pureG] at hb)).1⟩

theorem trodAll_below {H : Type} {enc : TypeId × Value → H} (hl : laidOutB P = true) {W W' : World} (hb : Below W.heap.size W W') {sp : Nat → Bool} : ∀ {ts : List TypeId} {vs : List Value} {ds : List (DataW H)} {ps : List MemPlace},
    (ts.all fun t => P.readableRec t && decide (t < P.types.size)) = true → (∀ x ∈ ps, x.block < W.heap.size) → (∀ x ∈ ps, sp x.block = true) →
    DataW.TrodAll enc P W 0 (fun _ => true) true ts vs ds ps → DataW.TrodAll enc P W' 0 sp true ts vs ds ps
  | [], _, _, _, _, _, _, h => by
    obtain ⟨rfl, rfl, rfl⟩ := trodAll_nil h
    exact trodAll_mk0
  | t :: ts, _, _, _, hr, hlt, hsp, h => by
    obtain ⟨v, vs1, d, ds1, a, b, rfl, rfl, rfl, h1, h2⟩ := trodAll_cons h
    simp only [List.all_cons, Bool.and_eq_true, decide_eq_true_eq] at hr
    refine trodAll_cons_mk (WideElems.Trod_stays hl hr.1.1 hr.1.2 h1 (fun x hx => hb.same (hlt x (List.mem_append_left _ hx))) (fun x hx => hsp x (List.mem_append_left _ hx))) ?_
    exact trodAll_below hl hb hr.2 (fun x hx => hlt x (List.mem_append_right _ hx)) (fun x hx => hsp x (List.mem_append_right _ hx)) h2

/-- As the kit's 'post_of_same', with what is asked of freezing asked of old places alone. -/
theorem post_below {H : Type} {enc : TypeId × Value → H} {f : Func} {s : ChangeSpec} {fresh handsOn again : Bool} {W W' : World} {args : Array Value} {v : Value} {ds gs : List (DataW H)} {before pa pv : List MemPlace}
    (hW : DataW.Whole enc P f.params.toList s.vars false W args.toList ds gs before) (hb : Below W.heap.size W W')
    (hres : ∀ (b : Nat) (sp : Nat → Bool) (hd : Bool), DataW.TrodAll enc P W' b sp hd f.resultTypes.toList (v.resultList f.resultTypes.size) (s.fn H (ds ++ gs)).results [])
    (hargs : ∀ sp : Nat → Bool, (∀ p ∈ before, sp p.block = true) → DataW.TrodAll enc P W' 0 sp true f.params.toList args.toList (s.fn H (ds ++ gs)).args pa)
    (hvars : ∀ sp : Nat → Bool, (∀ p ∈ before, sp p.block = true) → DataW.TrodVars enc P W' sp s.vars (s.fn H (ds ++ gs)).vars pv)
    (hps : before = pa ++ pv)
    (hok : ∀ (j : Nat) (t : TypeId) (r : Value), f.resultTypes[j]? = some t → (v.resultList f.resultTypes.size)[j]? = some r → Value.okWide P W' .any 0 t r) :
    s.post enc P f false fresh handsOn again W args v W' := by
  have hold : ∀ p ∈ before, (fun b => decide (b < W.heap.size)) p.block = true := fun p hp => by simpa using hW.lt p hp
  refine ⟨ds, gs, before, [], pa, pv, hW, hres _ _ _, hargs _ hold, hvars _ hold, World.keptBut_mono (fun p hp => ⟨hp, ?_⟩) (hb.frame _), fun _ => ?_⟩
  · rw [hps, List.mem_append] at hp
    exact Or.inr hp
  · have hlt := hW.lt
    obtain ⟨_, _, _, _, _, hz, _⟩ := hW
    refine ⟨hok, _, _, ([] ++ pa) ++ pv, ⟨[] ++ pa, pv, trodAll_append (hargs _ (fun _ _ => rfl)) (hres _ _ _), hvars _ (fun _ _ => rfl), rfl, ?_, fun h => by cases h⟩, ?_⟩
    · intro b off hp
      have hp' : MemPlace.cell b off ∈ before := by rw [hps]; simpa using hp
      rw [hb.frozen (p := ⟨b, off, none⟩) (hlt _ hp')]
      exact hz b off hp'
    · intro p hp _
      rw [hps]
      simpa using hp

theorem trodAll_len {H : Type} {enc : TypeId × Value → H} {w : World} {base : Nat} {spare : Nat → Bool} {held : Bool} : ∀ {ts : List TypeId} {vs : List Value} {ds : List (DataW H)} {ps : List MemPlace},
    DataW.TrodAll enc P w base spare held ts vs ds ps → vs.length = ts.length ∧ ds.length = ts.length
  | [], _, _, _, h => by
    obtain ⟨rfl, rfl, _⟩ := trodAll_nil h
    exact ⟨rfl, rfl⟩
  | _ :: _, _, _, _, h => by
    obtain ⟨v, vs1, d, ds1, a, b, rfl, rfl, rfl, _, h2⟩ := trodAll_cons h
    have := trodAll_len h2
    simp [this.1, this.2]

/-- A law: it answers true, whatever plain data it is called with; so the statement's post holds. -/
theorem law_contract {H : Type} {enc : TypeId × Value → H} {f : FuncId} {fn : Func} {s : ChangeSpec} {n : Nat} {tys : List Ty} {tb : TypeId} (hl : laidOutB P = true)
    (hty : fn.params.toList.mapM (tyOf P n) = some tys) (hr : (fn.params.toList.all fun t => P.readableRec t && decide (t < P.types.size)) = true)
    (hres : fn.resultTypes = #[tb]) (hb : P.underlying tb = some .bool) (hvars : s.vars = [])
    (hs : ∀ ds : List (DataW H), ds.length = fn.params.size → (s.fn H ds).results = [.lit (.bool true)] ∧ (s.fn H ds).args = ds ∧ (s.fn H ds).vars = [])
    (h : ∀ cs, ShArgs tys cs → PFn P f (argMs tys cs) (.d (.v (.bool true))))
    (W : World) (base : Nat) (args : Array Value) (ds gs : List (DataW H)) (before : List MemPlace)
    (hval : ∀ (j : Nat) t v, fn.params[j]? = some t → args[j]? = some v → Value.okWide P W .any base t v)
    (hW : DataW.Whole enc P fn.params.toList s.vars false W args.toList ds gs before) (hL : Laid P W) :
    Calls P f args W fun e W' => ∃ v, e = .returned v ∧ s.post enc P fn false true false false W args v W' := by
  have hW' := hW
  obtain ⟨p, q, hA, hV, rfl, hfz, hnd⟩ := hW
  rw [hvars] at hV
  obtain ⟨rfl, rfl⟩ := trodVars_none hV
  obtain ⟨cs, ss, ms⟩ := trod_args (P := P) (n := n) hty (fun j t v h1 h2 => hval j t v (by simpa using h1) (by simpa using h2)) hA
  have hc := (h cs ss).2 (lim0 W) W args.toList hL ms
  refine hc.mono fun e W' ⟨cv, lim', he, hext, hmr⟩ => ?_
  have hcv : cv = .bool true := hmr.val1 rfl
  subst hcv
  refine ⟨_, he, ?_⟩
  have hbel := hext.below
  have hlen : ds.length = fn.params.size := by
    have := (trodAll_len hA).2
    simpa using this
  obtain ⟨s1, s2, s3⟩ := hs ds hlen
  have hlt : ∀ x ∈ p, x.block < W.heap.size := fun x hx => hW'.lt x (by simp [hx])
  refine post_below (pa := p) (pv := []) hW' hbel (fun b sp hd => ?_) (fun sp hsp => ?_) (fun sp _ => ?_) rfl ?_
  · rw [List.append_nil, s1, hres]
    exact trodAll_cons_mk (shut_bool hb true) trodAll_mk0
  · rw [List.append_nil, s2]
    exact trodAll_below hl hbel hr hlt (fun x hx => hsp x (by simp [hx])) hA
  · rw [List.append_nil, s3, hvars]
    exact rfl
  · exact ok_one hres rfl (okWide_bool_mk hb true)
end
end Go.Abs

/- The abstract layer, the bridge's second part: the shapes of arguments as Lean's own data. -/
namespace Go.Abs
open Go.ChangeShapes Go.WideShapes Go.RowKit

theorem sh_i64 {c : List D} (h : Sh (.int .i64) c) : ∃ n : Int, c = [iD n] ∧ -9223372036854775808 ≤ n ∧ n ≤ 9223372036854775807 := by
  simp only [Sh] at h
  obtain ⟨n, rfl, hw⟩ := h
  simp [Lit.wf, IntKind.min, IntKind.max, IntKind.signed, IntKind.bits] at hw
  exact ⟨n, rfl, by omega, by omega⟩
def strD (l : List UInt8) : D := .v (.string ⟨l.toArray⟩)
theorem list_of {α : Type} {f : α → List D} {Q : α → Prop} : ∀ {l : List (List D)}, (∀ c, c ∈ l → ∃ o, c = f o ∧ Q o) → ∃ os : List α, l = os.map f ∧ ∀ o, o ∈ os → Q o
  | [], _ => ⟨[], rfl, by simp⟩
  | c :: l, h => by
    obtain ⟨o, rfl, ho⟩ := h c (List.mem_cons_self ..)
    obtain ⟨os, rfl, hos⟩ := list_of (l := l) fun c hc => h c (List.mem_cons_of_mem _ hc)
    exact ⟨o :: os, rfl, fun x hx => by
      rcases List.mem_cons.1 hx with rfl | hx
      · exact ho
      · exact hos x hx⟩
theorem sh_sl {α : Type} {f : α → List D} {Q : α → Prop} {e : Ty} {sz : Nat} {c : List D} (he : ∀ c, Sh e c → ∃ o, c = f o ∧ Q o) (h : Sh (.sl sz e) c) :
    ∃ os : List α, c = [.sl sz (os.map f)] ∧ os.length ≤ 9223372036854775807 ∧ ∀ o, o ∈ os → Q o := by
  simp only [Sh] at h
  obtain ⟨l, rfl, hl, _, hx⟩ := h
  obtain ⟨os, rfl, hos⟩ := list_of (f := f) (Q := Q) fun c hc => he c (hx c hc)
  have hl' : os.length ≤ maxLen := by simpa using hl
  exact ⟨os, rfl, hl', hos⟩
/-- The parts of a struct, one by one. -/
theorem sh_st {fs : List (Nat × Ty)} {c : List D} (h : Sh (.st fs) c) : ShAll fs c := by simpa only [Sh] using h
theorem sh_cons {s : Nat} {t : Ty} {r : List (Nat × Ty)} {c : List D} (h : ShAll ((s, t) :: r) c) : ∃ a b, c = a ++ b ∧ Sh t a ∧ ShAll r b := by
  rw [ShAll] at h
  obtain ⟨a, b, h1, _, h2, h3⟩ := h
  exact ⟨a, b, h1, h2, h3⟩
theorem sh_nil {c : List D} (h : ShAll [] c) : c = [] := by rw [ShAll] at h; exact h
theorem args_cons {t : Ty} {ts : List Ty} {cs : List (List D)} (h : ShArgs (t :: ts) cs) : ∃ c r, cs = c :: r ∧ Sh t c ∧ ShArgs ts r := by
  simp only [ShArgs] at h; exact h
theorem args_nil {cs : List (List D)} (h : ShArgs [] cs) : cs = [] := by
  simp only [ShArgs] at h; exact h
end Go.Abs

/- The abstract layer: a loop carried out round by round, of so many rounds at the most. -/
namespace Go.Abs
section
variable {P : Program} {N : Nat} {prs : Prs} {env : Nat → M} {B : Bx} {n : Nat} {Q : QT}
/-- Behind a round: so many more. -/
def unR (P : Program) (N : Nat) (prs : Prs) (c : Code) (Q : QT) (k : Nat) : QT := fun x env B n => match x with
  | .normal => ∃ (j : Nat) (env1 : Nat → M) (B1 : Bx) (n1 : Nat), Wk N env B n env1 B1 n1 ∧ (∃ _h : j < k, awp P N prs c env1 B1 n1 (unR P N prs c Q j))
  | .ret => Q .ret env B n
  | .exit i => Q (.exit i) env B n
termination_by k
theorem unR_ret {c : Code} {k : Nat} : unR P N prs c Q k .ret env B n = Q .ret env B n := by rw [unR]
theorem unR_exit {c : Code} {k i : Nat} : unR P N prs c Q k (.exit i) env B n = Q (.exit i) env B n := by rw [unR]
theorem unR_next {c : Code} {k : Nat} (h : awp P N prs c env B n (unR P N prs c Q k)) : unR P N prs c Q (k + 1) .normal env B n := by
  rw [unR]
  exact ⟨k, env, B, n, Wk.refl, Nat.lt_succ_self k, h⟩
theorem aloop_unroll {c : Code} (k : Nat) (h : awp P N prs c env B n (unR P N prs c Q k)) : aloop P N prs c env B n Q := by
  refine aloop_intro (fun (k : Nat) env B n => awp P N prs c env B n (unR P N prs c Q k)) (fun k => k) ⟨k, env, B, n, Wk.refl, h⟩ fun s env B n hI => ?_
  have e : loopK (fun (k : Nat) env B n => awp P N prs c env B n (unR P N prs c Q k)) (fun k => k) N s Q = unR P N prs c Q s := by
    funext x env B n
    apply propext
    cases x with
    | normal =>
      rw [unR]
      constructor
      · rintro ⟨s1, e1, B1, n1, h1, h2, h3⟩; exact ⟨s1, e1, B1, n1, h1, h3, h2⟩
      · rintro ⟨s1, e1, B1, n1, h1, h3, h2⟩; exact ⟨s1, e1, B1, n1, h1, h2, h3⟩
    | ret => rw [unR]; exact Iff.rfl
    | exit i => rw [unR]; exact Iff.rfl
  rw [e]
  exact hI
end
end Go.Abs

/- The abstract layer: contracts of the kit's shelf as contracts of this layer. -/
namespace Go.Abs
open Go.RowKit

theorem ext_of_below {lim : Nat → Nat} {w w' : World} (h : Below w.heap.size w w') : Ext (pureG lim) w (pureG lim) w' :=
  { os := h.os, tape := h.tape, output := h.output, size := h.size, used := fun _ h => h
    keep := fun k hk _ => ⟨h.block k hk, rfl⟩
    cells := fun k o v _ hc => by
      have hk : k < w.heap.size := by
        rcases Nat.lt_or_ge k w.heap.size with hh | hh
        · exact hh
        · rw [World.cell?, Array.getElem?_eq_none hh] at hc; cases hc
      unfold World.cell? at hc ⊢
      simp only [h.block k hk]; exact hc
    lim := fun _ _ => Nat.le_refl _
    shape := fun k cs e fz hh => by
      have hk : k < w.heap.size := (Array.getElem?_eq_some_iff.1 hh).1
      exact ⟨cs, fz, by rw [h.block k hk]; exact hh, rfl⟩
    box := fun _ h => by cases h
    new := fun k ⟨p, bi, h, _⟩ => by simp [pureG] at h }

theorem below_grow (w : World) (k : Nat) (os : Array Obj) : Below w.heap.size w (Sort.grow (w.drewN k) os) := by
  refine ⟨rfl, rfl, rfl, ?_, fun i hi => ?_⟩
  · show _ ≤ (w.heap ++ os).size
    simp
  · show (w.heap ++ os)[i]? = _
    rw [Array.getElem?_append_left hi]

theorem Args.vals {w : World} {Γ : G} : ∀ {l vs : List Value}, Args w Γ (l.map fun x => M.d (.v x)) vs → vs = l
  | [], vs, h => List.length_eq_zero_iff.1 (by simpa using h.1)
  | x :: l, vs, h => by
    obtain ⟨v, vs', rfl, h1, h2⟩ := h.cons_inv
    obtain rfl := mr_v h1
    rw [Args.vals h2]

section
variable {P : Program}
/-- A contract of the shelf, of scalars and strings. -/
theorem PFn.of_vals {f : FuncId} (l : List Value) (r : Value) (he : Enters P f)
    (h : ∀ w, Laid P w → Calls P f l.toArray w fun e w' => e = .returned r ∧ Below w.heap.size w w') : PFn P f (l.map fun x => .d (.v x)) (.d (.v r)) :=
  ⟨he, fun lim w vs hL ha => by
    obtain rfl := ha.vals
    exact (h w hL).mono fun e w' ⟨h1, h2⟩ => ⟨r, lim, h1, ext_of_below h2, .d (.v r)⟩⟩
theorem laid_pow10 {w : World} (h : Laid P w) (hs : (P.globalNamed "internal/strconv.uint64pow10").isSome = true) : Lib.TabIs P w "internal/strconv.uint64pow10" .u64 Lib.pow10Tab :=
  h.1 _ (List.mem_cons_self ..) hs
theorem laid_maxLen {w : World} (h : Laid P w) {g : Nat} (hg : P.globalNamed "internal/bytealg.MaxLen" = some g) : ∃ m : Int, w.cell? ⟨g, 0, none⟩ = some (.int .i64 m) :=
  h.2 _ (List.mem_cons_self ..) g hg
end
end Go.Abs

/- The abstract layer: a call that freezes a row and lets it go; a nil slice of a variable taken for an empty row ahead of a call. -/
namespace Go.Abs
open Go.RowKit

/-- What String does to the world: it draws, it may lay a block, it freezes in the block g. -/
structure Frz (g : Nat) (w w' : World) : Prop where
  os : w'.os = w.os
  tape : w'.tape = w.tape
  output : w'.output = w.output
  size : w.heap.size ≤ w'.heap.size
  block : ∀ k, k < w.heap.size → k ≠ g → w'.heap[k]? = w.heap[k]?
  here : ∀ cs e fz, w.heap[g]? = some (.cells cs e fz) → ∃ fz', w'.heap[g]? = some (.cells cs e fz')
theorem Frz.of_below {g : Nat} {w w' : World} (h : Below w.heap.size w w') : Frz g w w' :=
  ⟨h.os, h.tape, h.output, h.size, fun k hk _ => h.block k hk, fun cs e fz hg => ⟨fz, by
    have : g < w.heap.size := (Array.getElem?_eq_some_iff.1 hg).1
    rw [h.block g this]; exact hg⟩⟩
theorem Frz.freeze {g n : Nat} {w w' : World} (h : Frz g w w') : Frz g w (w'.freeze ⟨g, 0, none⟩ n) := by
  by_cases hn : n = 0
  · have : w'.freeze ⟨g, 0, none⟩ n = w' := by simp [World.freeze, hn]
    rw [this]; exact h
  · have e : ∃ F : Obj → Obj, (w'.freeze ⟨g, 0, none⟩ n).heap = w'.heap.modify g F ∧ ∀ cs e fz, ∃ fz', F (.cells cs e fz) = .cells cs e fz' := by
      simp only [World.freeze, if_neg hn]
      exact ⟨_, rfl, fun cs e fz => ⟨_, rfl⟩⟩
    obtain ⟨F, e, hF⟩ := e
    refine ⟨?_, ?_, ?_, ?_, fun k hk hne => ?_, fun cs e' fz hg => ?_⟩
    · simp only [World.freeze, if_neg hn]; exact h.os
    · simp only [World.freeze, if_neg hn]; exact h.tape
    · simp only [World.freeze, if_neg hn]; exact h.output
    · rw [e, Array.size_modify]; exact h.size
    · rw [e, ← h.block k hk hne, Array.getElem?_modify, if_neg (fun e => hne e.symm)]
    · obtain ⟨fz', hg'⟩ := h.here cs e' fz hg
      obtain ⟨fz2, h2⟩ := hF cs e' fz'
      exact ⟨fz2, by rw [e, Array.getElem?_modify, if_pos rfl, hg', Option.map_some, h2]⟩
theorem Frz.alloc {g : Nat} {w w' : World} (o : Obj) (h : Frz g w w') : Frz g w (w'.alloc o) := by
  refine ⟨h.os, h.tape, h.output, by have := h.size; simp; omega, fun k hk hne => ?_, fun cs e fz hg => ?_⟩
  · rw [Below.heap_alloc _ _ _ (by have := h.size; omega)]; exact h.block k hk hne
  · obtain ⟨fz', hg'⟩ := h.here cs e fz hg
    refine ⟨fz', ?_⟩
    rw [Below.heap_alloc _ _ _ (Array.getElem?_eq_some_iff.1 hg').1]; exact hg'
theorem Frz.drew {g : Nat} {w w' : World} (h : Frz g w w') : Frz g w w'.drew := ⟨h.os, h.tape, h.output, h.size, h.block, h.here⟩


/-- The row of the box q is frozen, and let go. -/
theorem WR.frz {w w' : World} {Γ : G} {B : Bx} (h : WR w Γ B) (q g : Nat) (hg : (∃ bi, Γ.box q = some bi ∧ bi.blk = some g) ∨ w.heap.size ≤ g) (hf : Frz g w w') :
    ∃ Γ', Ext Γ w Γ' w' ∧ WR w' Γ' (B.drop q) ∧ Γ'.used = Γ.used := by
  let Γ' : G := { Γ with box := fun r => if r = q then Option.none else Γ.box r }
  have hbox : ∀ r bi, Γ'.box r = some bi → r ≠ q ∧ Γ.box r = some bi := fun r bi hr => by
    simp only [Γ'] at hr
    split at hr
    · cases hr
    · exact ⟨by assumption, hr⟩
  have e : Ext Γ w Γ' w' :=
    { os := hf.os, tape := hf.tape, output := hf.output, size := hf.size, used := fun _ h => h
      keep := fun k hk ho => ⟨hf.block k hk fun e => by
        subst e
        rcases hg with ⟨bi, g1, g2⟩ | hg
        · exact ho ⟨q, bi, g1, g2⟩
        · omega, rfl⟩
      cells := fun k o v _ hc => by
        by_cases hk : k = g
        · subst hk
          unfold World.cell? at hc ⊢
          split at hc
          · rename_i c e fz hb
            obtain ⟨fz', hb'⟩ := hf.here c e fz hb
            rw [hb']; exact hc
          · cases hc
        · have hlt := World.block_lt_of_cell? _ _ hc
          unfold World.cell? at hc ⊢
          simp only [hf.block k hlt hk]; exact hc
      lim := fun _ _ => Nat.le_refl _
      shape := fun k cs e fz hk => by
        by_cases hkg : k = g
        · subst hkg
          obtain ⟨fz', hb'⟩ := hf.here cs e fz hk
          exact ⟨cs, fz', hb', rfl⟩
        · exact ⟨cs, fz, by rw [hf.block k (Array.getElem?_eq_some_iff.1 hk).1 hkg]; exact hk, rfl⟩
      box := fun p _ => by
        simp only [Γ']
        split
        · cases hb : Γ.box p with
          | none => rfl
          | some bi => cases bi <;> simp [BI.to]
        · exact BI.to_refl _
      new := fun k ⟨p, bi, g1, g2⟩ => .inl ⟨p, bi, (hbox p bi g1).2, g2⟩ }
  refine ⟨Γ', e, ⟨fun p => ?_, fun p bx bi g1 g2 => ?_, fun p r bi bj k g1 g2 => ?_, fun p bi g1 => ?_, fun k ⟨p, bi, g1, g2⟩ => ?_⟩, rfl⟩
  · rw [Bx.get_drop]
    simp only [Γ']
    by_cases hp : q = p
    · simp [hp]
    · rw [if_neg hp, if_neg (fun h => hp h.symm)]; exact h.dom p
  · rw [Bx.get_drop] at g1
    split at g1
    · cases g1
    · rename_i hpq
      obtain ⟨g3, g4⟩ := hbox p bi g2
      refine (h.ok p bx bi g1 g4).keep e h.lt fun b hb => ⟨hf.block b (h.blk b ⟨p, bi, g4, hb⟩) fun ee => ?_, rfl⟩
      subst ee
      rcases hg with ⟨bj, g5, g6⟩ | hg
      · exact g3 (h.inj p q bi bj b g4 g5 hb g6)
      · have := h.blk b ⟨p, bi, g4, hb⟩
        omega
  · exact h.inj p r bi bj k (hbox p bi g1).2 (hbox r bj g2).2
  · exact h.lt p bi (hbox p bi g1).2
  · exact Nat.lt_of_lt_of_le (h.blk k ⟨p, bi, (hbox p bi g1).2, g2⟩) e.size

theorem AFn.bump {P : Program} {f : FuncId} {args : List M} {B : Bx} {n : Nat} {K : KT} (h : AFn P f args B n fun m B' k => ∃ k', k ≤ k' ∧ K m B' k') : AFn P f args B n K :=
  ⟨h.1, fun Γ w vs h0 h1 h2 h3 => (h.2 Γ w vs h0 h1 h2 h3).mono fun _ _ ⟨cv, Γ', m, B', n', a, ⟨k', hk, hK⟩, c1, c2, c3, c4⟩ => ⟨cv, Γ', m, B', k', a, hK, c1, c2, fun p hp => Nat.lt_of_lt_of_le (c3 p hp) hk, c4⟩⟩
/-- The number behind a call. -/
def bump (n : Nat) : Nat := n + 40
theorem bump_add {n a : Nat} : bump (n + a) = n + (a + 40) := rfl
theorem bump_lit {n : Nat} (_ : n / 1 = n) : bump n = n + 40 := rfl
abbrev nilP : M := .d (.v (.pointer none))

theorem AFn.thawBox {P : Program} {f : FuncId} {args : List M} {B : Bx} {n p j : Nat} {K : KT} {c : List M} {tg : TypeId} (sz : Nat) (t2 : TypeId) (hB : B.get p = some (.st c tg)) (hj : c[j]? = some (.d (.v (.slice none 0 0))))
    (h : AFn P f args ((n, .ar false sz [] t2) :: B.set p (.st (c.set j (.hsl n 0)) tg)) (n + 1) K) : AFn P f args B n K := by
  refine ⟨h.1, fun Γ w vs h0 h1 h2 h3 => ?_⟩
  have hr : Rel w Γ 0 (fun _ => undefM) B n { tmps := #[], defers := [] } := ⟨h1, ⟨rfl, rfl, fun t => by simpa [undefM] using (MR.d (.v undef) : MR w Γ (.d (.v undef)) undef)⟩, h2⟩
  obtain ⟨Γ', e, r⟩ := Wk.thawBox sz t2 hB hj w Γ _ hr
  refine (h.2 Γ' w vs (h0.ext e) r.wr r.lt (h3.ext e h1.lt)).mono fun _ _ ⟨cv, Γ2, m, B', n', a, b, c1, c2⟩ => ⟨cv, Γ2, m, B', n', a, b, e.trans c1, c2⟩

theorem args1 {w : World} {Γ : G} {m : M} {vs : List Value} (h : Args w Γ [m] vs) : ∃ v, vs = [v] ∧ MR w Γ m v := by
  obtain ⟨v, vs', rfl, hv, hr⟩ := h.cons_inv
  have : vs' = [] := List.length_eq_zero_iff.1 (by simpa using hr.1)
  subst this
  exact ⟨v, rfl, hv⟩

theorem cells2 {cs : Array Value} (h : cs.size = 2) : ∃ x y, cs = #[x, y] := by
  obtain ⟨l⟩ := cs
  match l, h with
  | [x, y], _ => exact ⟨x, y, rfl⟩

theorem drop_nil {q : Nat} : Bx.drop [] q = [] := rfl
/-- A row of a slot may be taken for a value. -/
theorem Wk.snap {N : Nat} {env : Nat → M} {B : Bx} {n t p sz : Nat} {fz : Bool} {tg : TypeId} {l : List (List D)} (h : env t = .hsl p l.length) (hB : B.get p = some (.ar fz sz (pure2 l) tg)) :
    Wk N env B n (upd env t (.d (.sl sz l))) (B.set p (.ar true sz (pure2 l))) n := fun w Γ a hr => by
  have hs := hr.er.slot t
  rw [h] at hs
  obtain ⟨Γ', e, hw, hu, hd⟩ := hr.wr.snap hB hs
  refine ⟨Γ', e, hw, ⟨hr.er.defers, hr.er.size, fun s => ?_⟩, fun p hp => hr.lt p (by rw [← hu]; exact hp)⟩
  simp only [upd]
  split
  · rename_i e2; subst e2; exact .d hd
  · exact (hr.er.slot s).ext e hr.wr.lt
theorem get_head {B : Bx} {p : Nat} {x : Box} : Bx.get ((p, x) :: B) p = some x := get_cons.trans (if_pos rfl)
theorem loopL_snap {N : Nat} {env : Nat → M} {B : Bx} {n : Nat} {Q : QT} {σ : Type} {live : σ → List (Nat × M)} {bx : σ → Bx} {ok : σ → Prop} {μ : σ → Nat} {lo k : Nat} (s : σ) (t : Nat) {p sz k' : Nat} (l : List (List D)) {l' : List (List M)} {fz : Bool} {tg : TypeId}
    (h : env t = .hsl p k') (hB : B.get p = some (.ar fz sz l' tg)) (hl' : l' = pure2 l) (hk : k' = l.length) (h1 : lvOK (upd env t (.d (.sl sz l))) (live s)) (h2 : subOK (B.set p (.ar true sz (pure2 l))) (bx s)) (h3 : ok s) (hl : lo ≤ n) (h4 : μ s < k) :
    loopL live bx ok μ lo N k Q .normal env B n := by
  subst hl' hk
  exact ⟨s, _, bx s, n, (Wk.snap h hB).trans (Wk.sub (subOK_sub h2)), ⟨h1, rfl, h3, hl⟩, h4⟩
end Go.Abs

/- The abstract layer: a row that a variable holds, seen as what it shows. -/
namespace Go.Abs

theorem WR.viewAt {w : World} {Γ : G} {B : Bx} (h : WR w Γ B) {p j : Nat} {c : List M} {tg : TypeId} (hB : B.get p = some (.st c tg)) (m : M)
    (hv : ∀ (b : Nat) (cs : Array Value) (e : TypeId) (fz : Nat × Nat) (y : Value), Γ.box p = some (.st b) → w.heap[b]? = some (.cells cs e fz) → cs[j]? = some y → MR1 w Γ m y) :
    WR w Γ (B.set p (.st (c.set j m) tg)) := by
  have hg : ∀ q, Bx.get (B.set p (.st (c.set j m) tg)) q = if p = q then some (.st (c.set j m) tg) else B.get q := fun q => by
    rw [Bx.get_set]
    by_cases hq : p = q
    · subst hq; simp [hB]
    · simp [hq]
  refine ⟨fun q => ?_, fun q bx bi g1 g2 => ?_, h.inj, h.lt, h.blk⟩
  · rw [hg, ← h.dom q]
    by_cases hq : p = q
    · subst hq; simp [hB]
    · simp [hq]
  · rw [hg] at g1
    by_cases hq : p = q
    · subst hq
      rw [if_pos rfl] at g1
      cases g1
      have := h.ok p _ bi hB g2
      cases bi with
      | st b =>
        obtain ⟨a1, cs, e, fz, a2, a3, a4, a5⟩ := this
        refine ⟨a1, cs, e, fz, a2, by rw [a3, List.length_set], a4, fun i x y hx hy => ?_⟩
        rw [List.getElem?_set] at hx
        by_cases hi : j = i
        · subst hi
          rw [if_pos rfl] at hx
          split at hx
          · cases hx
            exact hv b cs e fz y g2 a2 hy
          · cases hx
        · rw [if_neg hi] at hx
          exact a5 i x y hx hy
      | nl => exact this.elim
      | ar => exact this.elim
    · rw [if_neg hq] at g1
      exact h.ok q bx bi g1 g2
theorem Wk.frzBox {N : Nat} {env : Nat → M} {B : Bx} {n p j q k sz : Nat} {c : List M} {tg tg2 : TypeId} {fz : Bool} {l : List (List D)} (hB : B.get p = some (.st c tg)) (hj : c[j]? = some (.hsl q k))
    (hq : B.get q = some (.ar fz sz (pure2 l) tg2)) (hl : l.length = k) : Wk N env B n env ((B.set q (.ar true sz (pure2 l))).set p (.st (c.set j (.d (.sl sz l))) tg)) n := fun w Γ a hr => by
  subst hl
  obtain ⟨bi, hbi⟩ := (hr.wr.dom p).1 ⟨_, hB⟩
  have hok := hr.wr.ok p _ bi hB hbi
  cases bi with
  | st b =>
    obtain ⟨a1, cs, e, fz1, a2, a3, a4, a5⟩ := hok
    have hjc : j < c.length := (List.getElem?_eq_some_iff.1 hj).1
    have hjs : j < cs.size := by omega
    have hy : cs[j]? = some cs[j] := by simp [hjs]
    have hm := a5 j _ _ hj hy
    obtain ⟨Γ', e1, w1, u1, d1⟩ := hr.wr.snap hq hm.1
    have hpq : q ≠ p := fun h => by subst h; rw [hB] at hq; cases hq
    have hB' : Bx.get (B.set q (.ar true sz (pure2 l))) p = some (.st c tg) := by rw [Bx.get_set, if_neg hpq]; exact hB
    refine ⟨Γ', e1, w1.viewAt hB' (.d (.sl sz l)) fun b' cs' e' fz' y hb' hc' hy' => ?_, hr.er.ext e1 hr.wr.lt, fun r hr' => by rw [u1] at hr'; exact hr.lt r hr'⟩
    have hto := e1.box p (hr.wr.lt _ _ hbi)
    rw [hb', hbi] at hto
    have hbb : b' = b := by
      rcases hto with h | h
      · cases h; rfl
      · cases h
    subst hbb
    rw [a2] at hc'
    cases hc'
    rw [hy] at hy'
    cases hy'
    exact ⟨.d d1, hm.2⟩
  | nl => exact hok.elim
  | ar => exact hok.elim
theorem AFn.frzBox {P : Program} {f : FuncId} {args : List M} {B : Bx} {n p j q k sz : Nat} {K : KT} {c : List M} {tg tg2 : TypeId} {fz : Bool} {l : List (List D)} (hB : B.get p = some (.st c tg)) (hj : c[j]? = some (.hsl q k))
    (hq : B.get q = some (.ar fz sz (pure2 l) tg2)) (hl : l.length = k) (h : AFn P f args ((B.set q (.ar true sz (pure2 l))).set p (.st (c.set j (.d (.sl sz l))) tg)) n K) : AFn P f args B n K := by
  refine ⟨h.1, fun Γ w vs h0 h1 h2 h3 => ?_⟩
  have hr : Rel w Γ 0 (fun _ => undefM) B n { tmps := #[], defers := [] } := ⟨h1, ⟨rfl, rfl, fun t => by simpa [undefM] using (MR.d (.v undef) : MR w Γ (.d (.v undef)) undef)⟩, h2⟩
  obtain ⟨Γ', e, r⟩ := Wk.frzBox hB hj hq hl w Γ _ hr
  refine (h.2 Γ' w vs (h0.ext e) r.wr r.lt (h3.ext e h1.lt)).mono fun _ _ ⟨cv, Γ2, m, B', n', a, b, c1, c2⟩ => ⟨cv, Γ2, m, B', n', a, b, e.trans c1, c2⟩
end Go.Abs

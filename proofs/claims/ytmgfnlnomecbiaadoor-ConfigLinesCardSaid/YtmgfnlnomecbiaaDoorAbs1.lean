import Derived.Calls
import Derived.Tactics
import Derived.Below
import Derived.Laws.Cells
import Derived.Laws.IdiomCopy
import Derived.Laws.Strings
import Derived.Lib.LaidTab
import Derived.Lib.ItoaNum
import Derived.Laws.MakeOwn
import Derived.Laws.AppendOwn
import Derived.Laws.BytesString
set_option linter.all false
/- The abstract layer, part A: pure data, machine data, the relation to the model's values, and what a step may change. -/
namespace Go.Abs

/-- Pure data: a scalar of the model, or a slice as the list of its elements, each a list of sz cells (a nil slice reads as one without elements, too). -/
inductive D where
  | v (x : Value)
  | sl (sz : Nat) (l : List (List D))

/-- What a slot may hold. -/
inductive M where
  | d (x : D)
  | ptr (p o : Nat)
  | eptr (c : List D) (o : Nat)
  | hsl (p n : Nat)
  | aptr (p n i o : Nat)
  | agg (c : List M)
  | tup (c : List M)
  | fn (f : Fn) (first cap : List M)

inductive Box where
  | st (c : List M) (e : TypeId := 0)
  | ar (fz : Bool) (sz : Nat) (l : List (List M)) (e : TypeId := 0)

abbrev Bx := List (Nat × Box)
def Bx.get (B : Bx) (p : Nat) : Option Box := (B.find? fun x => x.1 == p).map (·.2)

/-- Where a box lies: a variable's block; a nil slice; an array's row. -/
inductive BI where
  | st (b : Nat)
  | nl
  | ar (b off sz len : Nat)

def BI.blk : BI → Option Nat
  | .st b => some b
  | .nl => none
  | .ar b _ _ _ => some b

structure G where
  lim : Nat → Nat
  box : Nat → Option BI
  used : Nat → Prop

inductive DR (w : World) (lim : Nat → Nat) : D → Value → Prop
  | v (x : Value) : DR w lim (.v x) x
  | slNil {sz : Nat} : DR w lim (.sl sz []) (.slice none 0 0)
  | slE (sz : Nat) (a : Addr) (cap : Nat) : DR w lim (.sl sz []) (.slice (some a) 0 cap)
  | sl (sz : Nat) (l : List (List D)) (b off cap : Nat) (g : Nat → Nat → Value)
      (hsz : ∀ c, c ∈ l → c.length = sz) (hcap : l.length ≤ cap) (hlim : 0 < l.length → off + l.length * sz ≤ lim b) (hb : 0 < l.length → b < w.heap.size)
      (hcell : ∀ (i j : Nat) (c : List D) (x : D), l[i]? = some c → c[j]? = some x → w.cell? ⟨b, off + i * sz + j, none⟩ = some (g i j))
      (hrel : ∀ (i j : Nat) (c : List D) (x : D), l[i]? = some c → c[j]? = some x → DR w lim x (g i j))
      (hone : ∀ (i j : Nat) (c : List D) (x : D), l[i]? = some c → c[j]? = some x → (g i j).oneCell' = true) :
      DR w lim (.sl sz l) (.slice (some ⟨b, off, none⟩) l.length cap)

inductive MR (w : World) (Γ : G) : M → Value → Prop
  | d {x : D} {v : Value} (h : DR w Γ.lim x v) : MR w Γ (.d x) v
  | ptr {p o b : Nat} (h : Γ.box p = some (.st b)) : MR w Γ (.ptr p o) (.pointer (some ⟨b, o, none⟩))
  | ptrDead {p o : Nat} {v : Value} (h : Γ.box p = none) (hn : Γ.used p) (ho : v.oneCell' = true) : MR w Γ (.ptr p o) v
  | eptr {c : List D} {o b base : Nat} (g : Nat → Value) (hl : base + c.length ≤ Γ.lim b) (hb : b < w.heap.size)
      (hcell : ∀ (j : Nat) (x : D), c[j]? = some x → w.cell? ⟨b, base + j, none⟩ = some (g j))
      (hrel : ∀ (j : Nat) (x : D), c[j]? = some x → DR w Γ.lim x (g j)) : MR w Γ (.eptr c o) (.pointer (some ⟨b, base + o, none⟩))
  | hslNil {p : Nat} (h : Γ.box p = some .nl) : MR w Γ (.hsl p 0) (.slice none 0 0)
  | hsl {p n b off sz cap : Nat} (h : Γ.box p = some (.ar b off sz n)) (hc : n ≤ cap)
      (hs : ∃ (cs : Array Value) (e : TypeId) (fz : Nat × Nat), w.heap[b]? = some (.cells cs e fz) ∧ off + cap * sz ≤ cs.size) : MR w Γ (.hsl p n) (.slice (some ⟨b, off, none⟩) n cap)
  | hslStale {p n b off sz len : Nat} {v : Value} (h : Γ.box p = some (.ar b off sz len)) (hn : n < len) (ho : v.oneCell' = true) : MR w Γ (.hsl p n) v
  | hslDead {p n : Nat} {v : Value} (h : Γ.box p = none) (hn : Γ.used p) (ho : v.oneCell' = true) : MR w Γ (.hsl p n) v
  | aptr {p n i o b off sz : Nat} (h : Γ.box p = some (.ar b off sz n)) : MR w Γ (.aptr p n i o) (.pointer (some ⟨b, off + i * sz + o, none⟩))
  | aptrStale {p n i o b off sz len : Nat} {v : Value} (h : Γ.box p = some (.ar b off sz len)) (hn : n < len) (ho : v.oneCell' = true) : MR w Γ (.aptr p n i o) v
  | aptrDead {p n i o : Nat} {v : Value} (h : Γ.box p = none) (hn : Γ.used p) (ho : v.oneCell' = true) : MR w Γ (.aptr p n i o) v
  | agg {cs : List M} {vs : Array Value} (hs : vs.size = cs.length) (h : ∀ (i : Nat) (x : M) (y : Value), cs[i]? = some x → vs[i]? = some y → MR w Γ x y) : MR w Γ (.agg cs) (.agg vs)
  | tup {cs : List M} {vs : Array Value} (hs : vs.size = cs.length) (h : ∀ (i : Nat) (x : M) (y : Value), cs[i]? = some x → vs[i]? = some y → MR w Γ x y) : MR w Γ (.tup cs) (.tuple vs)
  | fn {f : Fn} {fs cs : List M} {fv cv : Array Value} (h1 : fv.size = fs.length) (h2 : cv.size = cs.length)
      (h3 : ∀ (i : Nat) (x : M) (y : Value), fs[i]? = some x → fv[i]? = some y → MR w Γ x y) (h4 : ∀ (i : Nat) (x : M) (y : Value), cs[i]? = some x → cv[i]? = some y → MR w Γ x y) :
      MR w Γ (.fn f fs cs) (.func f fv cv)

/-- What a step may do to the box p. -/
def BI.to (next : Option BI) : Option BI → Prop
  | none => next = none
  | some (.st b) => next = some (.st b) ∨ next = none
  | some .nl => next = some .nl ∨ next = none ∨ ∃ b off sz n, 0 < n ∧ next = some (.ar b off sz n)
  | some (.ar b off sz n) => next = some (.ar b off sz n) ∨ next = none ∨ ∃ b' off' sz' n', n < n' ∧ next = some (.ar b' off' sz' n')

/-- Γ owns the block k. -/
def G.owns (Γ : G) (k : Nat) : Prop := ∃ p bi, Γ.box p = some bi ∧ bi.blk = some k

structure Ext (Γ₀ : G) (w₀ : World) (Γ : G) (w : World) : Prop where
  os : w.os = w₀.os
  tape : w.tape = w₀.tape
  output : w.output = w₀.output
  size : w₀.heap.size ≤ w.heap.size
  used : ∀ p, Γ₀.used p → Γ.used p
  keep : ∀ k, k < w₀.heap.size → ¬ Γ₀.owns k → w.heap[k]? = w₀.heap[k]? ∧ Γ.lim k = Γ₀.lim k
  cells : ∀ k o v, o < Γ₀.lim k → w₀.cell? ⟨k, o, none⟩ = some v → w.cell? ⟨k, o, none⟩ = some v
  lim : ∀ k, k < w₀.heap.size → Γ₀.lim k ≤ Γ.lim k
  shape : ∀ (k : Nat) (cs : Array Value) (e : TypeId) (fz : Nat × Nat), w₀.heap[k]? = some (.cells cs e fz) → ∃ (cs' : Array Value) (fz' : Nat × Nat), w.heap[k]? = some (.cells cs' e fz') ∧ cs'.size = cs.size
  box : ∀ p, Γ₀.used p → BI.to (Γ.box p) (Γ₀.box p)
  new : ∀ k, Γ.owns k → Γ₀.owns k ∨ w₀.heap.size ≤ k

theorem BI.to_refl (x : Option BI) : BI.to x x := by
  cases x with
  | none => rfl
  | some b => cases b <;> simp [BI.to]

theorem BI.to_trans {a b c : Option BI} (h1 : BI.to b a) (h2 : BI.to c b) : BI.to c a := by
  cases a with
  | none => simp only [BI.to] at h1; subst h1; exact h2
  | some x =>
    cases x with
    | st k =>
      simp only [BI.to] at h1 ⊢
      rcases h1 with rfl | rfl
      · exact h2
      · exact .inr h2
    | nl =>
      simp only [BI.to] at h1 ⊢
      rcases h1 with rfl | rfl | ⟨b', o', s', n', hn, rfl⟩
      · exact h2
      · exact .inr (.inl h2)
      · simp only [BI.to] at h2
        rcases h2 with rfl | rfl | ⟨b2, o2, s2, n2, hn2, rfl⟩
        · exact .inr (.inr ⟨_, _, _, _, hn, rfl⟩)
        · exact .inr (.inl rfl)
        · exact .inr (.inr ⟨_, _, _, _, by omega, rfl⟩)
    | ar k off sz n =>
      simp only [BI.to] at h1 ⊢
      rcases h1 with rfl | rfl | ⟨b', o', s', n', hn, rfl⟩
      · exact h2
      · exact .inr (.inl h2)
      · simp only [BI.to] at h2
        rcases h2 with rfl | rfl | ⟨b2, o2, s2, n2, hn2, rfl⟩
        · exact .inr (.inr ⟨_, _, _, _, hn, rfl⟩)
        · exact .inr (.inl rfl)
        · exact .inr (.inr ⟨_, _, _, _, by omega, rfl⟩)

theorem Ext.refl (Γ : G) (w : World) : Ext Γ w Γ w :=
  ⟨rfl, rfl, rfl, Nat.le_refl _, fun _ h => h, fun _ _ _ => ⟨rfl, rfl⟩, fun _ _ _ _ h => h, fun _ _ => Nat.le_refl _,
    fun _ cs _ fz h => ⟨cs, fz, h, rfl⟩, fun _ _ => BI.to_refl _, fun _ h => .inl h⟩

theorem Ext.trans {Γ₀ Γ₁ Γ₂ : G} {w₀ w₁ w₂ : World} (h : Ext Γ₀ w₀ Γ₁ w₁) (k : Ext Γ₁ w₁ Γ₂ w₂) : Ext Γ₀ w₀ Γ₂ w₂ where
  os := k.os.trans h.os
  tape := k.tape.trans h.tape
  output := k.output.trans h.output
  size := Nat.le_trans h.size k.size
  used := fun p hp => k.used p (h.used p hp)
  keep := fun b hb ho => by
    obtain ⟨e1, l1⟩ := h.keep b hb ho
    have ho1 : ¬ Γ₁.owns b := fun hh => by
      rcases h.new b hh with h' | h'
      · exact ho h'
      · omega
    obtain ⟨e2, l2⟩ := k.keep b (by have := h.size; omega) ho1
    exact ⟨e2.trans e1, l2.trans l1⟩
  cells := fun b o v hl hc => by
    have hb : b < w₀.heap.size := World.block_lt_of_cell? _ _ hc
    exact k.cells b o v (Nat.lt_of_lt_of_le hl (h.lim b hb)) (h.cells b o v hl hc)
  lim := fun b hb => Nat.le_trans (h.lim b hb) (k.lim b (by have := h.size; omega))
  shape := fun b cs e fz hb => by
    obtain ⟨cs1, fz1, h1, s1⟩ := h.shape b cs e fz hb
    obtain ⟨cs2, fz2, h2, s2⟩ := k.shape b cs1 e fz1 h1
    exact ⟨cs2, fz2, h2, s2.trans s1⟩
  box := fun p hp => BI.to_trans (h.box p hp) (k.box p (h.used p hp))
  new := fun b hb => by
    rcases k.new b hb with h' | h'
    · exact h.new b h'
    · exact .inr (by have := h.size; omega)

theorem DR.mono {w₀ w : World} {lim₀ lim : Nat → Nat} (hs : w₀.heap.size ≤ w.heap.size)
    (hc : ∀ k o v, o < lim₀ k → w₀.cell? ⟨k, o, none⟩ = some v → w.cell? ⟨k, o, none⟩ = some v)
    (hl : ∀ k, k < w₀.heap.size → lim₀ k ≤ lim k) {x : D} {v : Value} (h : DR w₀ lim₀ x v) : DR w lim x v := by
  induction h with
  | v x => exact .v x
  | slNil => exact .slNil
  | slE sz a cap => exact .slE sz a cap
  | sl sz l b off cap g hsz hcap hlim hb hcell hrel hone ih =>
    refine .sl sz l b off cap g hsz hcap (fun h => Nat.le_trans (hlim h) (hl b (hb h))) (fun h => by have := hb h; omega) (fun i j c x hi hj => ?_) ih hone
    refine hc _ _ _ ?_ (hcell i j c x hi hj)
    have hi' : i < l.length := (List.getElem?_eq_some_iff.1 hi).1
    have hj' : j < c.length := (List.getElem?_eq_some_iff.1 hj).1
    have hcs := hsz c (List.mem_of_getElem? hi)
    have hlim := hlim (by omega)
    have : (i + 1) * sz ≤ l.length * sz := Nat.mul_le_mul_right _ hi'
    rw [Nat.add_mul, Nat.one_mul] at this
    omega

theorem DR.ext {Γ₀ Γ : G} {w₀ w : World} (e : Ext Γ₀ w₀ Γ w) {x : D} {v : Value} (h : DR w₀ Γ₀.lim x v) : DR w Γ.lim x v :=
  DR.mono e.size e.cells e.lim h

theorem MR.ext {Γ₀ Γ : G} {w₀ w : World} (e : Ext Γ₀ w₀ Γ w) (hn : ∀ p bi, Γ₀.box p = some bi → Γ₀.used p) {m : M} {v : Value}
    (h : MR w₀ Γ₀ m v) : MR w Γ m v := by
  induction h with
  | d h => exact .d (h.ext e)
  | @ptr p o b h =>
    have := e.box p (hn _ _ h)
    rw [h] at this
    rcases this with h' | h'
    · exact .ptr h'
    · exact .ptrDead h' (e.used _ (hn _ _ h)) rfl
  | @ptrDead p o v h hp ho =>
    have := e.box p hp
    rw [h] at this
    exact .ptrDead this (e.used _ hp) ho
  | @eptr c o b base g hl hb hcell hrel =>
    refine .eptr g (Nat.le_trans hl (e.lim b hb)) (Nat.lt_of_lt_of_le hb e.size) (fun j x hj => ?_) (fun j x hj => (hrel j x hj).ext e)
    have hj' : j < c.length := (List.getElem?_eq_some_iff.1 hj).1
    exact e.cells _ _ _ (by omega) (hcell j x hj)
  | @hslNil p h =>
    have := e.box p (hn _ _ h)
    rw [h] at this
    rcases this with h' | h' | ⟨b, off, sz, n, hn', h'⟩
    · exact .hslNil h'
    · exact .hslDead h' (e.used _ (hn _ _ h)) rfl
    · exact .hslStale h' hn' rfl
  | @hsl p n b off sz cap h hc hs =>
    have := e.box p (hn _ _ h)
    rw [h] at this
    rcases this with h' | h' | ⟨b', off', sz', n', hn', h'⟩
    · obtain ⟨cs, t, fz, hb, hsz⟩ := hs
      obtain ⟨cs', fz', hb', hsz'⟩ := e.shape _ _ _ _ hb
      exact .hsl h' hc ⟨cs', t, fz', hb', by omega⟩
    · exact .hslDead h' (e.used _ (hn _ _ h)) rfl
    · exact .hslStale h' hn' rfl
  | @hslStale p n b off sz len v h hlt ho =>
    have := e.box p (hn _ _ h)
    rw [h] at this
    rcases this with h' | h' | ⟨b', off', sz', n', hn', h'⟩
    · exact .hslStale h' hlt ho
    · exact .hslDead h' (e.used _ (hn _ _ h)) ho
    · exact .hslStale h' (by omega) ho
  | @hslDead p n v h hp ho =>
    have := e.box p hp
    rw [h] at this
    exact .hslDead this (e.used _ hp) ho
  | @aptr p n i o b off sz h =>
    have := e.box p (hn _ _ h)
    rw [h] at this
    rcases this with h' | h' | ⟨b', off', sz', n', hn', h'⟩
    · exact .aptr h'
    · exact .aptrDead h' (e.used _ (hn _ _ h)) rfl
    · exact .aptrStale h' hn' rfl
  | @aptrStale p n i o b off sz len v h hlt ho =>
    have := e.box p (hn _ _ h)
    rw [h] at this
    rcases this with h' | h' | ⟨b', off', sz', n', hn', h'⟩
    · exact .aptrStale h' hlt ho
    · exact .aptrDead h' (e.used _ (hn _ _ h)) ho
    · exact .aptrStale h' (by omega) ho
  | @aptrDead p n i o v h hp ho =>
    have := e.box p hp
    rw [h] at this
    exact .aptrDead this (e.used _ hp) ho
  | agg hs _ ih => exact .agg hs ih
  | tup hs _ ih => exact .tup hs ih
  | fn h1 h2 _ _ ih3 ih4 => exact .fn h1 h2 ih3 ih4

/-- A value of one cell, in memory. -/
def MR1 (w : World) (Γ : G) (m : M) (v : Value) : Prop := MR w Γ m v ∧ v.oneCell' = true
theorem MR1.ext {Γ₀ Γ : G} {w₀ w : World} {m : M} {v : Value} (h : MR1 w₀ Γ₀ m v) (e : Ext Γ₀ w₀ Γ w) (hn : ∀ p bi, Γ₀.box p = some bi → Γ₀.used p) : MR1 w Γ m v :=
  ⟨h.1.ext e hn, h.2⟩

/-- The type that a variable was made as, where it is written down (not 0). -/
def TagOK (w : World) (b : Nat) (e : TypeId) (off : Nat := 0) : Prop := e = 0 ∨ off = 0 ∧ ∃ (cs : Array Value) (fz : Nat × Nat), w.heap[b]? = some (.cells cs e fz)
theorem TagOK.ext {Γ₀ Γ : G} {w₀ w : World} {b off : Nat} {t : TypeId} (h : TagOK w₀ b t off) (e : Ext Γ₀ w₀ Γ w) : TagOK w b t off := by
  rcases h with h | ⟨h0, cs, fz, h⟩
  · exact .inl h
  · obtain ⟨cs', fz', h', _⟩ := e.shape _ _ _ _ h
    exact .inr ⟨h0, cs', fz', h'⟩

def BoxOK (w : World) (Γ : G) : Box → BI → Prop
  | .st c t, .st b => (Γ.lim b = 0 ∧ TagOK w b t) ∧ ∃ (cs : Array Value) (e : TypeId) (fz : Nat × Nat), w.heap[b]? = some (.cells cs e fz) ∧ cs.size = c.length ∧ (∀ j, j < cs.size → w.frozen? ⟨b, j, none⟩ = false) ∧
      ∀ (j : Nat) (x : M) (y : Value), c[j]? = some x → cs[j]? = some y → MR1 w Γ x y
  | .ar _ _ l _, .nl => l = []
  | .ar fz sz' l t, .ar b off sz n => sz' = sz ∧ n = l.length ∧ (∀ c, c ∈ l → c.length = sz) ∧ Γ.lim b ≤ off + n * sz ∧ ((fz = false → Γ.lim b = 0) ∧ TagOK w b t off) ∧
      ∃ (cs : Array Value) (e : TypeId) (fz : Nat × Nat), w.heap[b]? = some (.cells cs e (fz.1, fz.1 + fz.2)) ∧ off + n * sz ≤ cs.size ∧ (∀ j, j < cs.size → w.frozen? ⟨b, j, none⟩ = false) ∧
      ∀ (i j : Nat) (c : List M) (x : M) (y : Value), l[i]? = some c → c[j]? = some x → cs[off + i * sz + j]? = some y → MR1 w Γ x y
  | _, _ => False

structure WR (w : World) (Γ : G) (B : Bx) : Prop where
  dom : ∀ p, (∃ bx, B.get p = some bx) ↔ (∃ bi, Γ.box p = some bi)
  ok : ∀ p bx bi, B.get p = some bx → Γ.box p = some bi → BoxOK w Γ bx bi
  inj : ∀ p q bi bj k, Γ.box p = some bi → Γ.box q = some bj → bi.blk = some k → bj.blk = some k → p = q
  lt : ∀ p bi, Γ.box p = some bi → Γ.used p
  blk : ∀ k, Γ.owns k → k < w.heap.size

/-- The frame's slots. -/
structure ER (w : World) (Γ : G) (N : Nat) (env : Nat → M) (a : Act) : Prop where
  defers : a.defers = []
  size : a.tmps.size = N
  slot : ∀ t, MR w Γ (env t) (a.tmps.getD t undef)

theorem ER.ext {Γ₀ Γ : G} {w₀ w : World} (e : Ext Γ₀ w₀ Γ w) (hn : ∀ p bi, Γ₀.box p = some bi → Γ₀.used p) {N : Nat} {env : Nat → M} {a : Act}
    (h : ER w₀ Γ₀ N env a) : ER w Γ N env a := ⟨h.defers, h.size, fun t => (h.slot t).ext e hn⟩

def upd (env : Nat → M) (t : Nat) (m : M) : Nat → M := fun s => if s = t then m else env s

theorem ER.put {w : World} {Γ : G} {N : Nat} {env : Nat → M} {a : Act} (h : ER w Γ N env a) {t : Nat} (ht : t < N) {m : M} {v : Value} (hm : MR w Γ m v) :
    ER w Γ N (upd env t m) (a.put (some t) v) := by
  refine ⟨h.defers, by simp [Act.put, h.size], fun s => ?_⟩
  have hs := h.slot s
  simp only [upd, Act.put]
  by_cases e : s = t
  · subst e
    rw [if_pos rfl]
    have : s < a.tmps.size := by rw [h.size]; exact ht
    simpa [Array.getD, this] using hm
  · rw [if_neg e]
    have : (a.tmps.setIfInBounds t v).getD s undef = a.tmps.getD s undef := by
      simp only [Array.getD_eq_getD_getElem?, Array.getElem?_setIfInBounds]
      rw [if_neg (fun h => e h.symm)]
    rw [this]; exact hs

end Go.Abs

/- The abstract layer, part B: what the steps on memory do: a new variable, a new row, a store, an append in place. -/
namespace Go.Abs

theorem Bx.get_cons (B : Bx) (p q : Nat) (x : Box) : Bx.get ((p, x) :: B) q = if p = q then some x else Bx.get B q := by
  by_cases h : p = q <;> simp [Bx.get, h]

theorem BoxOK.keep {w w' : World} {Γ Γ' : G} {bx : Box} {bi : BI} (h : BoxOK w Γ bx bi) (e : Ext Γ w Γ' w')
    (hn : ∀ p bi, Γ.box p = some bi → Γ.used p)
    (hk : ∀ b, bi.blk = some b → w'.heap[b]? = w.heap[b]? ∧ Γ'.lim b = Γ.lim b) : BoxOK w' Γ' bx bi := by
  cases bx with
  | st c tg =>
    cases bi with
    | st b =>
      obtain ⟨⟨hl, ht⟩, cs, t, fz, hb, hs, hf, hm⟩ := h
      obtain ⟨k1, k2⟩ := hk b rfl
      refine ⟨⟨k2.trans hl, ht.ext e⟩, cs, t, fz, k1.trans hb, hs, fun j hj => ?_, fun j x y hx hy => (hm j x y hx hy).ext e hn⟩
      have := hf j hj
      simp only [World.frozen?] at this ⊢
      rw [k1]; exact this
    | nl => exact h.elim
    | ar b off sz n => exact h.elim
  | ar fz0 sz0 l tg0 =>
    cases bi with
    | st b => exact h.elim
    | nl => exact h
    | ar b off sz n =>
      obtain ⟨h0, h1, h2, h3, h3f, cs, t, fz, hb, hs, hf, hm⟩ := h
      obtain ⟨k1, k2⟩ := hk b rfl
      refine ⟨h0, h1, h2, by rw [k2]; exact h3, ⟨by rw [k2]; exact h3f.1, h3f.2.ext e⟩, cs, t, fz, k1.trans hb, hs, fun j hj => ?_, fun i j c x y hi hx hy => (hm i j c x y hi hx hy).ext e hn⟩
      have := hf j hj
      simp only [World.frozen?] at this ⊢
      rw [k1]; exact this

def G.add (Γ : G) (p : Nat) (bi : BI) : G :=
  { lim := fun k => if bi.blk = some k then 0 else Γ.lim k, box := fun q => if q = p then some bi else Γ.box q, used := fun q => q = p ∨ Γ.used q }

theorem Ext.alloc (Γ : G) (w : World) (o : Obj) (p : Nat) (hp : ¬ Γ.used p) (bi : BI) (hb : bi.blk = some w.heap.size) :
    Ext Γ w (Γ.add p bi) (w.alloc o) where
  os := rfl
  tape := rfl
  output := rfl
  size := by simp
  used := fun q hq => .inr hq
  keep := fun k hk _ => by
    have hne : k ≠ w.heap.size := Nat.ne_of_lt hk
    refine ⟨RowKit.Below.heap_alloc _ _ _ hk, ?_⟩
    simp only [G.add, hb]
    rw [if_neg (by simpa using fun h => hne h.symm)]
  cells := fun k off v _ hc => by rw [World.cell?_alloc_lt _ _ _ (World.block_lt_of_cell? _ _ hc)]; exact hc
  lim := fun k hk => by
    have hne : k ≠ w.heap.size := Nat.ne_of_lt hk
    simp only [G.add, hb]
    rw [if_neg (by simpa using fun h => hne h.symm)]
    exact Nat.le_refl _
  shape := fun k cs e fz hk => by
    have hlt : k < w.heap.size := by
      rcases Nat.lt_or_ge k w.heap.size with h | h
      · exact h
      · simp [Array.getElem?_eq_none h] at hk
    exact ⟨cs, fz, by rw [RowKit.Below.heap_alloc _ _ _ hlt]; exact hk, rfl⟩
  box := fun q hq => by
    simp only [G.add]
    rw [if_neg (fun e => hp (by rw [← e]; exact hq))]
    exact BI.to_refl _
  new := fun k hk => by
    obtain ⟨q, bj, h1, h2⟩ := hk
    simp only [G.add] at h1
    by_cases hp : q = p
    · rw [if_pos hp] at h1
      cases h1
      rw [hb] at h2
      cases h2
      exact .inr (Nat.le_refl _)
    · rw [if_neg hp] at h1
      exact .inl ⟨q, bj, h1, h2⟩

theorem WR.getnlt {w : World} {Γ : G} {B : Bx} (h : WR w Γ B) {p : Nat} (hp : ¬ Γ.used p) : B.get p = none := by
  cases hh : B.get p with
  | none => rfl
  | some bx =>
    obtain ⟨bi, hb⟩ := (h.dom p).1 ⟨bx, hh⟩
    exact absurd (h.lt p bi hb) hp

/-- A new block with a new box n over it. -/
theorem WR.alloc {w : World} {Γ : G} {B : Bx} (h : WR w Γ B) (n : Nat) (hnew : ¬ Γ.used n) (o : Obj) (bi : BI) (bx : Box) (hb : bi.blk = some w.heap.size)
    (hok : Ext Γ w (Γ.add n bi) (w.alloc o) → BoxOK (w.alloc o) (Γ.add n bi) bx bi) :
    Ext Γ w (Γ.add n bi) (w.alloc o) ∧ WR (w.alloc o) (Γ.add n bi) ((n, bx) :: B) := by
  have e := Ext.alloc Γ w o n hnew bi hb
  refine ⟨e, ⟨fun p => ?_, fun p bx' bi' h1 h2 => ?_, fun p q bi' bj k h1 h2 h3 h4 => ?_, fun p bi' h1 => ?_, fun k hk => ?_⟩⟩
  · rw [Bx.get_cons]
    simp only [G.add]
    by_cases hp : n = p
    · simp [hp]
    · rw [if_neg hp, if_neg (fun h => hp h.symm)]; exact h.dom p
  · rw [Bx.get_cons] at h1
    simp only [G.add] at h2
    by_cases hp : n = p
    · rw [if_pos hp] at h1; rw [if_pos hp.symm] at h2
      cases h1; cases h2
      exact hok e
    · rw [if_neg hp] at h1; rw [if_neg (fun h => hp h.symm)] at h2
      refine (h.ok p bx' bi' h1 h2).keep e h.lt fun b hbb => ?_
      have hlt := h.blk b ⟨p, bi', h2, hbb⟩
      refine ⟨RowKit.Below.heap_alloc _ _ _ hlt, ?_⟩
      simp only [G.add, hb]
      rw [if_neg (by simp; omega)]
  · simp only [G.add] at h1 h2
    by_cases hp : p = n
    · rw [if_pos hp] at h1
      cases h1
      rw [hb] at h3
      cases h3
      by_cases hq : q = n
      · omega
      · rw [if_neg hq] at h2
        have := h.blk _ ⟨q, bj, h2, h4⟩
        omega
    · rw [if_neg hp] at h1
      by_cases hq : q = n
      · rw [if_pos hq] at h2
        cases h2
        rw [hb] at h4
        cases h4
        have := h.blk _ ⟨p, bi', h1, h3⟩
        omega
      · rw [if_neg hq] at h2
        exact h.inj p q bi' bj k h1 h2 h3 h4
  · simp only [G.add] at h1 ⊢
    by_cases hp : p = n
    · exact .inl hp
    · rw [if_neg hp] at h1
      exact .inr (h.lt p bi' h1)
  · rcases e.new k hk with h' | h'
    · have := h.blk k h'; simp; omega
    · obtain ⟨p, bj, h1, h2⟩ := hk
      simp only [G.add] at h1
      by_cases hp : p = n
      · rw [if_pos hp] at h1
        cases h1
        rw [hb] at h2; cases h2
        simp
      · rw [if_neg hp] at h1
        have := h.blk k ⟨p, bj, h1, h2⟩
        simp; omega

theorem World.heap_alloc_new (w : World) (o : Obj) : (w.alloc o).heap[w.heap.size]? = some o := by
  show (w.heap.push o)[w.heap.size]? = _
  simp

/-- A new variable. -/
theorem WR.allocSt {w : World} {Γ : G} {B : Bx} (h : WR w Γ B) (n : Nat) (hnew : ¬ Γ.used n) (cs : Array Value) (t : TypeId) (c : List M) (tg : TypeId) (htg : tg = 0 ∨ tg = t) (hs : cs.size = c.length)
    (hm : ∀ (j : Nat) (x : M) (y : Value), c[j]? = some x → cs[j]? = some y → MR1 w Γ x y) :
    Ext Γ w (Γ.add n (.st w.heap.size)) (w.alloc (.cells cs t)) ∧ WR (w.alloc (.cells cs t)) (Γ.add n (.st w.heap.size)) ((n, .st c tg) :: B) ∧
      MR (w.alloc (.cells cs t)) (Γ.add n (.st w.heap.size)) (.ptr n 0) (.pointer (some ⟨w.heap.size, 0, none⟩)) := by
  have hh := h.alloc n hnew (.cells cs t) (.st w.heap.size) (.st c tg) rfl (fun e => by
    refine ⟨⟨by simp [G.add, BI.blk], htg.imp id fun h => ⟨rfl, cs, (0, 0), by rw [h]; exact World.heap_alloc_new _ _⟩⟩, cs, t, (0, 0), World.heap_alloc_new _ _, hs, fun j _ => by simp, fun j x y hx hy => (hm j x y hx hy).ext e h.lt⟩)
  exact ⟨hh.1, hh.2, .ptr (by simp [G.add])⟩

/-- A new row, whole: the cells cs, of which the first are the elements l. -/
theorem WR.allocAr {w : World} {Γ : G} {B : Bx} (h : WR w Γ B) (n : Nat) (hnew : ¬ Γ.used n) (cs : Array Value) (t : TypeId) (l : List (List M)) (sz cap : Nat)
    (hsz : ∀ c, c ∈ l → c.length = sz) (hc : l.length ≤ cap) (hs : cap * sz ≤ cs.size)
    (hm : ∀ (i j : Nat) (c : List M) (x : M) (y : Value), l[i]? = some c → c[j]? = some x → cs[i * sz + j]? = some y → MR1 w Γ x y) :
    Ext Γ w (Γ.add n (.ar w.heap.size 0 sz l.length)) (w.alloc (.cells cs t)) ∧
      WR (w.alloc (.cells cs t)) (Γ.add n (.ar w.heap.size 0 sz l.length)) ((n, .ar false sz l) :: B) ∧
      MR (w.alloc (.cells cs t)) (Γ.add n (.ar w.heap.size 0 sz l.length)) (.hsl n l.length) (.slice (some ⟨w.heap.size, 0, none⟩) l.length cap) := by
  have hle : l.length * sz ≤ cap * sz := Nat.mul_le_mul_right _ hc
  have hh := h.alloc n hnew (.cells cs t) (.ar w.heap.size 0 sz l.length) (.ar false sz l) rfl (fun e => by
    refine ⟨rfl, rfl, hsz, by simp [G.add, BI.blk], ⟨by simp [G.add, BI.blk], .inl rfl⟩, cs, t, (0, 0), World.heap_alloc_new _ _, by omega, fun j _ => by simp, fun i j c x y hi hx hy => ?_⟩
    rw [Nat.zero_add] at hy
    exact (hm i j c x y hi hx hy).ext e h.lt)
  exact ⟨hh.1, hh.2, .hsl (off := 0) (sz := sz) (by simp [G.add]) hc ⟨cs, t, (0, 0), World.heap_alloc_new _ _, by omega⟩⟩

/-- A draw of the tape. -/
theorem Ext.drew (Γ : G) (w : World) : Ext Γ w Γ w.drew :=
  ⟨rfl, rfl, rfl, Nat.le_refl _, fun _ h => h, fun _ _ _ => ⟨rfl, rfl⟩, fun _ _ _ _ h => h, fun _ _ => Nat.le_refl _,
    fun _ cs _ fz h => ⟨cs, fz, h, rfl⟩, fun _ _ => BI.to_refl _, fun _ h => .inl h⟩

theorem WR.drew {w : World} {Γ : G} {B : Bx} (h : WR w Γ B) : WR w.drew Γ B :=
  ⟨h.dom, fun p bx bi h1 h2 => (h.ok p bx bi h1 h2).keep (Ext.drew Γ w) h.lt fun _ _ => ⟨rfl, rfl⟩, h.inj, h.lt, h.blk⟩

def Bx.set (B : Bx) (p : Nat) (x : Box) : Bx := B.map fun y => if y.1 = p then (p, x) else y

theorem Bx.get_set (B : Bx) (p q : Nat) (x : Box) : (B.set p x).get q = if p = q then (B.get q).map fun _ => x else B.get q := by
  induction B with
  | nil => simp [Bx.set, Bx.get]
  | cons y B ih =>
    have h1 : Bx.set (y :: B) p x = (if y.1 = p then (p, x) else y) :: Bx.set B p x := rfl
    rw [h1]
    by_cases hy : y.1 = p
    · rw [if_pos hy]
      rw [Bx.get_cons, show Bx.get (y :: B) q = if y.1 = q then some y.2 else Bx.get B q from Bx.get_cons B y.1 q y.2, ih]
      by_cases hq : p = q
      · simp [hq, hy]
      · simp [hq, hy]
    · rw [if_neg hy]
      rw [show Bx.get (y :: Bx.set B p x) q = if y.1 = q then some y.2 else Bx.get (Bx.set B p x) q from Bx.get_cons _ y.1 q y.2,
        show Bx.get (y :: B) q = if y.1 = q then some y.2 else Bx.get B q from Bx.get_cons B y.1 q y.2, ih]
      by_cases hq : p = q
      · subst hq; simp [hy]
      · simp [hq]

theorem World.cell?_of_heap {w : World} {b o : Nat} {cs : Array Value} {e : TypeId} {fz : Nat × Nat} (h : w.heap[b]? = some (.cells cs e fz)) :
    w.cell? ⟨b, o, none⟩ = cs[o]? := by simp [World.cell?, h]

theorem World.setCell_heap_same {w : World} {b o : Nat} {v : Value} {cs : Array Value} {e : TypeId} {fz : Nat × Nat} (h : w.heap[b]? = some (.cells cs e fz)) :
    (w.setCell ⟨b, o, none⟩ v).heap[b]? = some (.cells (cs.setIfInBounds o v) e fz) := by
  simp [World.setCell, Array.getElem?_modify, h]

/-- A store into a cell of a block that Γ owns, above the limit of the views. -/
theorem Ext.store (Γ : G) (w : World) (b o : Nat) (v : Value) (ho : Γ.owns b) (hl : Γ.lim b ≤ o) :
    Ext Γ w Γ (w.setCell ⟨b, o, none⟩ v) where
  os := rfl
  tape := rfl
  output := rfl
  size := by simp
  used := fun _ h => h
  keep := fun k _ hk => ⟨RowKit.Below.heap_setCell _ _ _ _ (fun e => hk (by rw [e]; exact ho)), rfl⟩
  cells := fun k off u hlt hc => by
    rw [World.cell?_setCell_other _ _ _ _ (fun e => ?_)]
    · exact hc
    · injection e with e1 e2 e3
      subst e1; omega
  lim := fun _ _ => Nat.le_refl _
  shape := fun k cs e fz hk => by
    by_cases hb : k = b
    · subst hb
      exact ⟨_, fz, World.setCell_heap_same hk, by simp⟩
    · exact ⟨cs, fz, by rw [RowKit.Below.heap_setCell _ _ _ _ hb]; exact hk, rfl⟩
  box := fun _ _ => BI.to_refl _
  new := fun _ h => .inl h

/-- A store into a variable's cell. -/
theorem WR.storeSt {w : World} {Γ : G} {B : Bx} (h : WR w Γ B) {p b o : Nat} {c : List M} {tg : TypeId} (hB : B.get p = some (.st c tg)) (hp : Γ.box p = some (.st b))
    {m : M} {v : Value} (hm : MR1 w Γ m v) (_ho : o < c.length) :
    Ext Γ w Γ (w.setCell ⟨b, o, none⟩ v) ∧ WR (w.setCell ⟨b, o, none⟩ v) Γ (B.set p (.st (c.set o m) tg)) := by
  have hok := h.ok p _ _ hB hp
  obtain ⟨⟨hl, htg⟩, cs, t, fz, hb, hs, hf, hc⟩ := hok
  have e : Ext Γ w Γ (w.setCell ⟨b, o, none⟩ v) := Ext.store Γ w b o v ⟨p, _, hp, rfl⟩ (by omega)
  refine ⟨e, ⟨fun q => ?_, fun q bx bi h1 h2 => ?_, h.inj, h.lt, fun k hk => by simp; exact h.blk k hk⟩⟩
  · rw [Bx.get_set]
    by_cases hq : p = q
    · subst hq; simp [hB, hp]
    · simp [hq, h.dom q]
  · rw [Bx.get_set] at h1
    by_cases hq : p = q
    · subst hq
      rw [hp] at h2; cases h2
      simp [hB] at h1
      subst h1
      refine ⟨⟨hl, htg.ext e⟩, _, t, fz, World.setCell_heap_same hb, by simp [hs], fun j hj => ?_, fun j x y hx hy => ?_⟩
      · simp at hj ⊢; exact hf j hj
      · by_cases hj : j = o
        · subst hj
          have hlt : j < c.length := by
            have := (List.getElem?_eq_some_iff.1 hx).1
            simpa using this
          have hlt' : j < cs.size := by omega
          simp [hlt] at hx
          simp [hlt'] at hy
          subst hx; subst hy
          exact hm.ext e h.lt
        · rw [List.getElem?_set_ne (fun e => hj e.symm)] at hx
          rw [Array.getElem?_setIfInBounds_ne (fun e => hj e.symm)] at hy
          exact (hc j x y hx hy).ext e h.lt
    · rw [if_neg hq] at h1
      refine (h.ok q bx bi h1 h2).keep e h.lt fun k hk => ⟨?_, rfl⟩
      refine RowKit.Below.heap_setCell _ _ _ _ (fun e => ?_)
      subst e
      exact hq (h.inj p q _ _ _ hp h2 rfl hk)

end Go.Abs

/- The abstract layer, part C: rows: an append in place, an append that moves, a store into an element, a snapshot. -/
namespace Go.Abs

theorem Ext.setCells (Γ : G) (b : Nat) (ho : Γ.owns b) : ∀ (vs : List Value) (o : Nat) (w : World), Γ.lim b ≤ o → Ext Γ w Γ (w.setCells b o vs)
  | [], _, w, _ => Ext.refl Γ w
  | v :: vs, o, w, hl => by
    rw [World.setCells]
    exact (Ext.store Γ w b o v ho hl).trans (Ext.setCells Γ b ho vs (o + 1) _ (by omega))

theorem World.setCells_other (b k : Nat) (hk : k ≠ b) : ∀ (vs : List Value) (o : Nat) (w : World), (w.setCells b o vs).heap[k]? = w.heap[k]?
  | [], _, _ => rfl
  | v :: vs, o, w => by
    rw [World.setCells, World.setCells_other b k hk vs, RowKit.Below.heap_setCell _ _ _ _ hk]

theorem World.setCells_size (b : Nat) : ∀ (vs : List Value) (o : Nat) (w : World), (w.setCells b o vs).heap.size = w.heap.size
  | [], _, _ => rfl
  | v :: vs, o, w => by rw [World.setCells, World.setCells_size b vs, World.size_setCell]

theorem World.setCells_frozen (b : Nat) (a : Addr) : ∀ (vs : List Value) (o : Nat) (w : World), (w.setCells b o vs).frozen? a = w.frozen? a
  | [], _, _ => rfl
  | v :: vs, o, w => by rw [World.setCells, World.setCells_frozen b a vs, World.frozen?_setCell]

theorem World.setCells_same (b : Nat) (e : TypeId) (fz : Nat × Nat) : ∀ (vs : List Value) (o : Nat) (w : World) (cs : Array Value), w.heap[b]? = some (.cells cs e fz) →
    o + vs.length ≤ cs.size →
    ∃ cs' : Array Value, (w.setCells b o vs).heap[b]? = some (.cells cs' e fz) ∧ cs'.size = cs.size ∧
      (∀ j, j < o → cs'[j]? = cs[j]?) ∧ (∀ j, j < vs.length → cs'[o + j]? = vs[j]?) ∧ (∀ j, o + vs.length ≤ j → cs'[j]? = cs[j]?)
  | [], o, w, cs, h, _ => ⟨cs, h, rfl, fun _ _ => rfl, fun _ h => by simp at h, fun _ _ => rfl⟩
  | v :: vs, o, w, cs, h, hs => by
    simp only [List.length_cons] at hs
    obtain ⟨cs', h1, h2, h3, h4, h5⟩ := World.setCells_same b e fz vs (o + 1) (w.setCell ⟨b, o, none⟩ v) _ (World.setCell_heap_same h) (by simp; omega)
    refine ⟨cs', h1, by simpa using h2, fun j hj => ?_, fun j hj => ?_, fun j hj => ?_⟩
    · rw [h3 j (by omega), Array.getElem?_setIfInBounds_ne (by omega)]
    · cases j with
      | zero =>
        have : o < cs.size := by omega
        rw [Nat.add_zero, h3 o (by omega)]
        simp [this]
      | succ j =>
        have := h4 j (by simpa using hj)
        rw [show o + (j + 1) = o + 1 + j by omega, this]
        simp
    · simp only [List.length_cons] at hj
      rw [h5 j (by omega), Array.getElem?_setIfInBounds_ne (by omega)]

/-- The box p anew: what it holds and where it lies. -/
def G.place (Γ : G) (p : Nat) (bi : BI) (lim : Nat → Nat) : G := { Γ with box := fun q => if q = p then some bi else Γ.box q, lim := lim }

/-- The elements of a row, cell by cell: 'vs' holds the cells of l, one element behind the other. -/
def Cells (w : World) (Γ : G) (sz : Nat) (l : List (List M)) (vs : List Value) : Prop :=
  (∀ c, c ∈ l → c.length = sz) ∧ vs.length = l.length * sz ∧
    ∀ (i j : Nat) (c : List M) (x : M) (y : Value), l[i]? = some c → c[j]? = some x → vs[i * sz + j]? = some y → MR1 w Γ x y

theorem idx_lt {α β : Type} {l : List (List α)} {sz i j : Nat} {c : List α} {x : α} (hsz : ∀ c, c ∈ l → c.length = sz) (hi : l[i]? = some c) (hj : c[j]? = some x)
    (_ : β) : i * sz + j < l.length * sz := by
  have hi' : i < l.length := (List.getElem?_eq_some_iff.1 hi).1
  have hj' : j < c.length := (List.getElem?_eq_some_iff.1 hj).1
  have hcs := hsz c (List.mem_of_getElem? hi)
  have : (i + 1) * sz ≤ l.length * sz := Nat.mul_le_mul_right _ hi'
  rw [Nat.add_mul, Nat.one_mul] at this
  omega

/-- Append in place: there is room. -/
theorem WR.appendIn {w : World} {Γ : G} {B : Bx} (h : WR w Γ B) {p b off sz n cap : Nat} {fz : Bool} {tg : TypeId} {l l2 : List (List M)} {vs : List Value}
    (hB : B.get p = some (.ar fz sz l tg)) (hp : Γ.box p = some (.ar b off sz n)) (hv : MR w Γ (.hsl p n) (.slice (some ⟨b, off, none⟩) n cap))
    (hc2 : Cells w Γ sz l2 vs) (hroom : n + l2.length ≤ cap) (hne : l2 ≠ []) :
    ∃ Γ', Ext Γ w Γ' (w.setCells b (off + n * sz) vs) ∧ WR (w.setCells b (off + n * sz) vs) Γ' (B.set p (.ar fz sz (l ++ l2) tg)) ∧ Γ'.used = Γ.used ∧
      MR (w.setCells b (off + n * sz) vs) Γ' (.hsl p (n + l2.length)) (.slice (some ⟨b, off, none⟩) (n + l2.length) cap) := by
  obtain ⟨_, h1, h2, h3, h3f, cs, t, fr, hb, hs, hf, hm⟩ := h.ok p _ _ hB hp
  have hcap : off + cap * sz ≤ cs.size := by
    cases hv with
    | hsl h' hc hs' =>
      rw [hp] at h'; cases h'
      obtain ⟨cs', e', fz', hb', hle⟩ := hs'
      rw [hb] at hb'; cases hb'; exact hle
    | hslStale h' hn' => rw [hp] at h'; cases h'; omega
    | hslDead h' _ => rw [hp] at h'; cases h'
  obtain ⟨k1, k2, k3⟩ := hc2
  have hmul : (n + l2.length) * sz ≤ cap * sz := Nat.mul_le_mul_right _ hroom
  rw [Nat.add_mul] at hmul
  obtain ⟨cs', e1, e2, e3, e4, e5⟩ := World.setCells_same b t (fr.1, fr.1 + fr.2) vs (off + n * sz) w cs hb (by omega)
  have eA := Ext.setCells Γ b ⟨p, _, hp, rfl⟩ vs (off + n * sz) w (by omega)
  have hpos : 0 < l2.length := List.length_pos_iff.2 hne
  let Γ' := Γ.place p (.ar b off sz (n + l2.length)) Γ.lim
  have eB : Ext Γ w Γ' (w.setCells b (off + n * sz) vs) :=
    { eA with
      box := fun q hq => by
        simp only [Γ', G.place]
        by_cases hqp : q = p
        · subst hqp
          rw [if_pos rfl, hp]
          exact .inr (.inr ⟨b, off, sz, _, by omega, rfl⟩)
        · rw [if_neg hqp]; exact eA.box q hq
      new := fun k hk => by
        obtain ⟨q, bj, g1, g2⟩ := hk
        simp only [Γ', G.place] at g1
        by_cases hqp : q = p
        · rw [if_pos hqp] at g1; cases g1
          cases g2
          exact .inl ⟨p, _, hp, rfl⟩
        · rw [if_neg hqp] at g1
          exact .inl ⟨q, bj, g1, g2⟩
      keep := eA.keep, cells := eA.cells, lim := eA.lim }
  refine ⟨Γ', eB, ⟨fun q => ?_, fun q bx bi g1 g2 => ?_, fun q r bi bj k g1 g2 g3 g4 => ?_, fun q bi g1 => ?_, fun k hk => ?_⟩, rfl, ?_⟩
  · rw [Bx.get_set]
    simp only [Γ', G.place]
    by_cases hq : p = q
    · subst hq; simp [hB]
    · rw [if_neg hq, if_neg (fun h => hq h.symm)]; exact h.dom q
  · rw [Bx.get_set] at g1
    simp only [Γ', G.place] at g2
    by_cases hq : p = q
    · subst hq
      rw [if_pos rfl] at g1 g2
      rw [hB] at g1
      simp at g1; cases g2
      subst g1
      refine ⟨rfl, by simp [h1], fun c hc => ?_, ?_, ⟨h3f.1, h3f.2.ext eB⟩, cs', t, fr, e1, by rw [e2, Nat.add_mul]; omega, fun j hj => ?_, fun i j c x y hi hx hy => ?_⟩
      · rcases List.mem_append.1 hc with hc | hc
        · exact h2 c hc
        · exact k1 c hc
      · show Γ.lim b ≤ _
        rw [Nat.add_mul]; omega
      · rw [World.setCells_frozen]; exact hf j (by omega)
      · by_cases hil : i < l.length
        · rw [List.getElem?_append_left hil] at hi
          have := idx_lt (β := Unit) h2 hi hx ()
          rw [← h1] at this
          rw [e3 _ (by omega)] at hy
          exact (hm i j c x y hi hx hy).ext eB h.lt
        · rw [List.getElem?_append_right (by omega)] at hi
          have := idx_lt (β := Unit) k1 hi hx ()
          have e6 := e4 ((i - l.length) * sz + j) (by omega)
          rw [show off + n * sz + ((i - l.length) * sz + j) = off + i * sz + j by
            have : i = n + (i - l.length) := by omega
            have : i * sz = n * sz + (i - l.length) * sz := by rw [← Nat.add_mul, ← this]
            omega] at e6
          rw [e6] at hy
          exact (k3 _ j c x y hi hx hy).ext eB h.lt
    · rw [if_neg hq] at g1
      rw [if_neg (fun h => hq h.symm)] at g2
      refine (h.ok q bx bi g1 g2).keep eB h.lt fun k hk => ⟨?_, rfl⟩
      exact World.setCells_other b k (fun e => by subst e; exact hq (h.inj p q _ _ _ hp g2 rfl hk)) _ _ _
  · simp only [Γ', G.place] at g1 g2
    by_cases hq : q = p
    · rw [if_pos hq] at g1; cases g1
      by_cases hr : r = p
      · rw [hq, hr]
      · rw [if_neg hr] at g2
        rw [hq]; exact h.inj p r _ _ k hp g2 g3 g4
    · rw [if_neg hq] at g1
      by_cases hr : r = p
      · rw [if_pos hr] at g2; cases g2
        rw [hr]; exact h.inj q p _ _ k g1 hp g3 g4
      · rw [if_neg hr] at g2
        exact h.inj q r _ _ k g1 g2 g3 g4
  · simp only [Γ', G.place] at g1 ⊢
    by_cases hq : q = p
    · subst hq; exact h.lt _ _ hp
    · rw [if_neg hq] at g1; exact h.lt _ _ g1
  · rw [World.setCells_size]
    rcases eB.new k hk with h' | h'
    · exact h.blk k h'
    · obtain ⟨q, bj, g1, g2⟩ := hk
      simp only [Γ', G.place] at g1
      by_cases hqp : q = p
      · rw [if_pos hqp] at g1; cases g1; cases g2
        exact h.blk _ ⟨p, _, hp, rfl⟩
      · rw [if_neg hqp] at g1
        exact h.blk _ ⟨q, bj, g1, g2⟩
  · exact .hsl (off := off) (sz := sz) (by simp [Γ', G.place]) hroom ⟨cs', t, _, e1, by omega⟩

/-- The row of the box p in a new block (the old one, if there is one, is left behind). -/
theorem WR.moveAr {w : World} {Γ : G} {B : Bx} (h : WR w Γ B) {p : Nat} {bi : BI} {fz : Bool} {l l' : List (List M)} {sz cap : Nat} {tg : TypeId} (cs : Array Value) (t : TypeId) (htg : tg = 0 ∨ tg = t)
    (hB : B.get p = some (.ar fz sz l tg)) (hp : Γ.box p = some bi) (hgrow : l.length < l'.length)
    (hsz : ∀ c, c ∈ l' → c.length = sz) (hc : l'.length ≤ cap) (hs : cap * sz ≤ cs.size)
    (hm : ∀ (i j : Nat) (c : List M) (x : M) (y : Value), l'[i]? = some c → c[j]? = some x → cs[i * sz + j]? = some y → MR1 w Γ x y) :
    ∃ Γ', Ext Γ w Γ' (w.alloc (.cells cs t)) ∧ WR (w.alloc (.cells cs t)) Γ' (B.set p (.ar fz sz l' tg)) ∧ Γ'.used = Γ.used ∧
      MR (w.alloc (.cells cs t)) Γ' (.hsl p l'.length) (.slice (some ⟨w.heap.size, 0, none⟩) l'.length cap) := by
  have hok := h.ok p _ _ hB hp
  have hle : l'.length * sz ≤ cap * sz := Nat.mul_le_mul_right _ hc
  have hplt := h.lt p bi hp
  let Γ' := Γ.place p (.ar w.heap.size 0 sz l'.length) (fun k => if k = w.heap.size then 0 else Γ.lim k)
  have eB : Ext Γ w Γ' (w.alloc (.cells cs t)) :=
    { os := rfl, tape := rfl, output := rfl, size := by simp only [World.size_alloc]; omega, used := fun _ h => h
      keep := fun k hk _ => ⟨RowKit.Below.heap_alloc _ _ _ hk, by simp only [Γ', G.place]; rw [if_neg (Nat.ne_of_lt hk)]⟩
      cells := fun k off v _ hc => by rw [World.cell?_alloc_lt _ _ _ (World.block_lt_of_cell? _ _ hc)]; exact hc
      lim := fun k hk => by simp only [Γ', G.place]; rw [if_neg (Nat.ne_of_lt hk)]; exact Nat.le_refl _
      shape := fun k cs e fz hk => by
        have hlt : k < w.heap.size := by
          rcases Nat.lt_or_ge k w.heap.size with h | h
          · exact h
          · simp [Array.getElem?_eq_none h] at hk
        exact ⟨cs, fz, by rw [RowKit.Below.heap_alloc _ _ _ hlt]; exact hk, rfl⟩
      box := fun q hq => by
        simp only [Γ', G.place]
        by_cases hqp : q = p
        · subst hqp
          rw [if_pos rfl, hp]
          cases bi with
          | st b => exact hok.elim
          | nl =>
            have : l = [] := hok
            subst this
            exact .inr (.inr ⟨_, _, _, _, by simpa using hgrow, rfl⟩)
          | ar b off s n => exact .inr (.inr ⟨_, _, _, _, by rw [hok.2.1]; exact hgrow, rfl⟩)
        · rw [if_neg hqp]; exact BI.to_refl _
      new := fun k hk => by
        obtain ⟨q, bj, g1, g2⟩ := hk
        simp only [Γ', G.place] at g1
        by_cases hqp : q = p
        · rw [if_pos hqp] at g1; cases g1; cases g2
          exact .inr (Nat.le_refl _)
        · rw [if_neg hqp] at g1
          exact .inl ⟨q, bj, g1, g2⟩ }
  refine ⟨Γ', eB, ⟨fun q => ?_, fun q bx bi' g1 g2 => ?_, fun q r bi' bj k g1 g2 g3 g4 => ?_, fun q bi' g1 => ?_, fun k hk => ?_⟩, rfl, ?_⟩
  · rw [Bx.get_set]
    simp only [Γ', G.place]
    by_cases hq : p = q
    · subst hq; simp [hB]
    · rw [if_neg hq, if_neg (fun h => hq h.symm)]; exact h.dom q
  · rw [Bx.get_set] at g1
    simp only [Γ', G.place] at g2
    by_cases hq : p = q
    · subst hq
      rw [if_pos rfl] at g1 g2
      rw [hB] at g1
      simp at g1; cases g2
      subst g1
      refine ⟨rfl, rfl, hsz, by simp [Γ', G.place], ⟨by simp [Γ', G.place], htg.imp id fun h => ⟨rfl, cs, (0, 0), by rw [h]; exact World.heap_alloc_new _ _⟩⟩, cs, t, (0, 0), World.heap_alloc_new _ _, by omega, fun j _ => by simp, fun i j c x y hi hx hy => ?_⟩
      rw [Nat.zero_add] at hy
      exact (hm i j c x y hi hx hy).ext eB h.lt
    · rw [if_neg hq] at g1
      rw [if_neg (fun h => hq h.symm)] at g2
      refine (h.ok q bx bi' g1 g2).keep eB h.lt fun k hk => ?_
      have hlt := h.blk k ⟨q, bi', g2, hk⟩
      exact ⟨RowKit.Below.heap_alloc _ _ _ hlt, by simp only [Γ', G.place]; rw [if_neg (Nat.ne_of_lt hlt)]⟩
  · simp only [Γ', G.place] at g1 g2
    by_cases hq : q = p
    · rw [if_pos hq] at g1; cases g1; cases g3
      by_cases hr : r = p
      · rw [hq, hr]
      · rw [if_neg hr] at g2
        have := h.blk _ ⟨r, _, g2, g4⟩
        omega
    · rw [if_neg hq] at g1
      by_cases hr : r = p
      · rw [if_pos hr] at g2; cases g2; cases g4
        have := h.blk _ ⟨q, _, g1, g3⟩
        omega
      · rw [if_neg hr] at g2
        exact h.inj q r _ _ k g1 g2 g3 g4
  · simp only [Γ', G.place] at g1 ⊢
    by_cases hq : q = p
    · subst hq; exact hplt
    · rw [if_neg hq] at g1; exact h.lt _ _ g1
  · obtain ⟨q, bj, g1, g2⟩ := hk
    simp only [Γ', G.place] at g1
    by_cases hqp : q = p
    · rw [if_pos hqp] at g1; cases g1; cases g2
      simp
    · rw [if_neg hqp] at g1
      have := h.blk _ ⟨q, bj, g1, g2⟩
      simp; omega
  · exact .hsl (off := 0) (sz := sz) (by simp [Γ', G.place]) hc ⟨cs, t, (0, 0), World.heap_alloc_new _ _, by omega⟩

end Go.Abs

/- The abstract layer, part D: a store into an element, a snapshot, a nil slice taken for an empty row, a box forgotten. -/
namespace Go.Abs

def pure2 (l : List (List D)) : List (List M) := l.map fun c => c.map M.d

theorem pure2_get {l : List (List D)} {i : Nat} : (pure2 l)[i]? = (l[i]?).map fun c => c.map M.d := by simp [pure2]

theorem MR.d_inv {w : World} {Γ : G} {x : D} {v : Value} (h : MR w Γ (.d x) v) : DR w Γ.lim x v := by cases h; assumption

/-- The limit of a block raised: views of what lies below it are let. -/
theorem Ext.raise {w : World} {Γ : G} {B : Bx} (h : WR w Γ B) {p b off sz n : Nat} {fz : Bool} {l : List (List M)} {tg : TypeId} (hB : B.get p = some (.ar fz sz l tg))
    (hp : Γ.box p = some (.ar b off sz n)) :
    let Γ' : G := { Γ with lim := fun k => if k = b then off + n * sz else Γ.lim k }
    Ext Γ w Γ' w ∧ WR w Γ' (B.set p (.ar true sz l)) := by
  intro Γ'
  obtain ⟨_, h1, h2, h3, h3f, cs, t, fr, hb, hs, hf, hc⟩ := h.ok p _ _ hB hp
  have hown : Γ.owns b := ⟨p, _, hp, rfl⟩
  have e : Ext Γ w Γ' w :=
    { os := rfl, tape := rfl, output := rfl, size := Nat.le_refl _, used := fun _ h => h
      keep := fun k _ hk => ⟨rfl, by simp only [Γ']; rw [if_neg (fun e => hk (by rw [e]; exact hown))]⟩
      cells := fun _ _ _ _ h => h
      lim := fun k _ => by
        simp only [Γ']
        by_cases hk : k = b
        · rw [if_pos hk, hk]; exact h3
        · rw [if_neg hk]; exact Nat.le_refl _
      shape := fun _ cs _ fz h => ⟨cs, fz, h, rfl⟩
      box := fun _ _ => BI.to_refl _
      new := fun _ h => .inl h }
  refine ⟨e, ⟨fun q => ?_, fun q bx bi g1 g2 => ?_, h.inj, h.lt, h.blk⟩⟩
  · rw [Bx.get_set]
    by_cases hq : p = q
    · subst hq; simp only [if_pos, hB, hp, Γ']; simp
    · rw [if_neg hq]; exact h.dom q
  · rw [Bx.get_set] at g1
    by_cases hq : p = q
    · subst hq
      rw [if_pos rfl, hB] at g1
      simp at g1
      have g2' : Γ.box p = some bi := g2
      rw [hp] at g2'; cases g2'
      subst g1
      refine ⟨rfl, h1, h2, by simp [Γ'], ⟨by simp, .inl rfl⟩, cs, t, fr, hb, hs, hf, fun i j c x y hi hx hy => (hc i j c x y hi hx hy).ext e h.lt⟩
    · rw [if_neg hq] at g1
      refine (h.ok q bx bi g1 g2).keep e h.lt fun k hk => ⟨rfl, ?_⟩
      simp only [Γ']
      rw [if_neg]
      intro ee; subst ee
      exact hq (h.inj p q _ _ _ hp g2 rfl hk)

/-- A row of pure elements, seen as a value: from now on no element of it may be stored into. -/
theorem WR.snap {w : World} {Γ : G} {B : Bx} (h : WR w Γ B) {p sz : Nat} {fz : Bool} {l : List (List D)} {v : Value} {tg : TypeId} (hB : B.get p = some (.ar fz sz (pure2 l) tg))
    (hv : MR w Γ (.hsl p l.length) v) :
    ∃ Γ', Ext Γ w Γ' w ∧ WR w Γ' (B.set p (.ar true sz (pure2 l))) ∧ Γ'.used = Γ.used ∧ DR w Γ'.lim (.sl sz l) v := by
  obtain ⟨bi, hp⟩ := (h.dom p).1 ⟨_, hB⟩
  have hok := h.ok p _ _ hB hp
  cases bi with
  | st b => exact hok.elim
  | nl =>
    have hl : pure2 l = [] := hok
    have hl' : l = [] := by simpa [pure2] using hl
    subst hl'
    have hvn : v = .slice none 0 0 := by
      cases hv with
      | hslNil _ => rfl
      | hslDead h' _ => rw [hp] at h'; cases h'
      | hsl h' => rw [hp] at h'; cases h'
      | hslStale h' => rw [hp] at h'; cases h'
    subst hvn
    refine ⟨Γ, Ext.refl _ _, ⟨fun q => ?_, fun q bx bi g1 g2 => ?_, h.inj, h.lt, h.blk⟩, rfl, .slNil⟩
    · rw [Bx.get_set]
      by_cases hq : p = q
      · subst hq; simp only [if_pos, hB, hp]; simp
      · rw [if_neg hq]; exact h.dom q
    · rw [Bx.get_set] at g1
      by_cases hq : p = q
      · subst hq
        rw [if_pos rfl, hB] at g1
        rw [hp] at g2; cases g2
        simp at g1
        subst g1
        exact hl
      · rw [if_neg hq] at g1
        exact h.ok q bx bi g1 g2
  | ar b off sz' n =>
    obtain ⟨hzz, h1, h2, h3, h3f, cs, t, fr, hb, hs, hf, hc⟩ := hok
    subst hzz
    have hn : n = l.length := by rw [h1]; simp [pure2]
    subst hn
    obtain ⟨e, hw⟩ := Ext.raise h hB hp
    refine ⟨_, e, hw, rfl, ?_⟩
    obtain ⟨len, hlen⟩ : ∃ len, len = l.length := ⟨_, rfl⟩
    rw [← hlen] at hv hp
    have hsz : ∀ c, c ∈ l → c.length = sz := fun c hc' => by
      have := h2 (c.map M.d) (List.mem_map.2 ⟨c, hc', rfl⟩)
      simpa using this
    have hblt : b < w.heap.size := h.blk b ⟨p, _, hp, rfl⟩
    cases hv with
    | hslNil h' => rw [hp] at h'; cases h'
    | hsl h' hcap hs' =>
      rw [hp] at h'; cases h'
      subst hlen
      refine .sl sz l b off _ (fun i j => cs.getD (off + i * sz + j) undef) hsz hcap (fun _ => by simp) (fun _ => hblt) (fun i j c x hi hj => ?_) (fun i j c x hi hj => ?_) (fun i j c x hi hj => ?_)
      · have := idx_lt (β := Unit) hsz hi hj ()
        rw [World.cell?_of_heap hb]
        have hlt : off + i * sz + j < cs.size := by omega
        simp [Array.getD, hlt]
      · have := idx_lt (β := Unit) hsz hi hj ()
        have hlt : off + i * sz + j < cs.size := by omega
        have hx := hc i j (c.map M.d) (.d x) (cs[off + i * sz + j]) (by rw [pure2_get, hi]; rfl) (by simp [hj]) (by simp [hlt])
        have := (hx.1.d_inv).ext e
        simpa [Array.getD, hlt] using this
      · have := idx_lt (β := Unit) hsz hi hj ()
        have hlt : off + i * sz + j < cs.size := by omega
        have hx := hc i j (c.map M.d) (.d x) (cs[off + i * sz + j]) (by rw [pure2_get, hi]; rfl) (by simp [hj]) (by simp [hlt])
        simpa [Array.getD, hlt] using hx.2
    | hslStale h' hn => rw [hp] at h'; cases h'; omega
    | hslDead h' _ => rw [hp] at h'; cases h'

/-- A box forgotten. -/
def Bx.drop (B : Bx) (p : Nat) : Bx := B.filter fun y => decide (y.1 ≠ p)

theorem Bx.get_drop (B : Bx) (p q : Nat) : (B.drop p).get q = if p = q then none else B.get q := by
  induction B with
  | nil => simp [Bx.drop, Bx.get]
  | cons y B ih =>
    have hy : Bx.get (y :: B) q = if y.1 = q then some y.2 else Bx.get B q := Bx.get_cons B y.1 q y.2
    by_cases h : y.1 = p
    · have h1 : Bx.drop (y :: B) p = Bx.drop B p := by simp [Bx.drop, h]
      rw [h1, ih, hy, h]
      by_cases hq : p = q <;> simp [hq]
    · have h1 : Bx.drop (y :: B) p = y :: Bx.drop B p := by simp [Bx.drop, h]
      have hy' : Bx.get (y :: Bx.drop B p) q = if y.1 = q then some y.2 else Bx.get (Bx.drop B p) q := Bx.get_cons _ y.1 q y.2
      rw [h1, hy', ih, hy]
      by_cases hq : p = q
      · subst hq; simp [h]
      · simp [hq]

/-- Forget every box that B' does not know: B' holds some of the boxes of B. -/
theorem WR.sub {w : World} {Γ : G} {B : Bx} (h : WR w Γ B) (B' : Bx) (hs : ∀ p bx, B'.get p = some bx → B.get p = some bx) :
    ∃ Γ', Ext Γ w Γ' w ∧ WR w Γ' B' ∧ Γ'.used = Γ.used ∧ Γ'.lim = Γ.lim := by
  let Γ' : G := { Γ with box := fun q => if (B'.get q).isSome then Γ.box q else none }
  have hbox : ∀ q bi, Γ'.box q = some bi → Γ.box q = some bi ∧ (B'.get q).isSome := fun q bi hq => by
    simp only [Γ'] at hq
    split at hq
    · exact ⟨hq, by assumption⟩
    · cases hq
  have e : Ext Γ w Γ' w :=
    { os := rfl, tape := rfl, output := rfl, size := Nat.le_refl _, used := fun _ h => h
      keep := fun _ _ _ => ⟨rfl, rfl⟩
      cells := fun _ _ _ _ h => h
      lim := fun _ _ => Nat.le_refl _
      shape := fun _ cs _ fz h => ⟨cs, fz, h, rfl⟩
      box := fun p _ => by
        simp only [Γ']
        split
        · exact BI.to_refl _
        · cases hb : Γ.box p with
          | none => rfl
          | some bi => cases bi <;> simp [BI.to]
      new := fun k ⟨p, bi, g1, g2⟩ => .inl ⟨p, bi, (hbox p bi g1).1, g2⟩ }
  refine ⟨Γ', e, ⟨fun p => ⟨fun ⟨bx, hb⟩ => ?_, fun ⟨bi, hb⟩ => ?_⟩, fun p bx bi g1 g2 => ?_, fun p q bi bj k g1 g2 => ?_, fun p bi g1 => ?_, fun k ⟨p, bi, g1, g2⟩ => ?_⟩, rfl, rfl⟩
  · obtain ⟨bi, hbi⟩ := (h.dom p).1 ⟨bx, hs p bx hb⟩
    exact ⟨bi, by simp [Γ', hb, hbi]⟩
  · obtain ⟨_, h2⟩ := hbox p bi hb
    exact Option.isSome_iff_exists.1 h2
  · exact (h.ok p bx bi (hs p bx g1) (hbox p bi g2).1).keep e h.lt fun _ _ => ⟨rfl, rfl⟩
  · exact h.inj p q bi bj k (hbox p bi g1).1 (hbox q bj g2).1
  · exact h.lt p bi (hbox p bi g1).1
  · exact h.blk k ⟨p, bi, (hbox p bi g1).1, g2⟩

/-- A nil slice taken for an empty row of a box of its own. -/
theorem WR.thaw {w : World} {Γ : G} {B : Bx} (h : WR w Γ B) (n : Nat) (hnew : ¬ Γ.used n) (sz : Nat) (tg : TypeId := 0) :
    Ext Γ w (Γ.add n .nl) w ∧ WR w (Γ.add n .nl) ((n, .ar false sz [] tg) :: B) ∧ MR w (Γ.add n .nl) (.hsl n 0) (.slice none 0 0) := by
  have e : Ext Γ w (Γ.add n .nl) w :=
    { os := rfl, tape := rfl, output := rfl, size := Nat.le_refl _, used := fun _ h => .inr h
      keep := fun _ _ _ => ⟨rfl, by simp [G.add, BI.blk]⟩
      cells := fun _ _ _ _ h => h
      lim := fun _ _ => by simp [G.add, BI.blk]
      shape := fun _ cs _ fz h => ⟨cs, fz, h, rfl⟩
      box := fun p hp => by simp only [G.add]; rw [if_neg (fun e => hnew (by rw [← e]; exact hp))]; exact BI.to_refl _
      new := fun k ⟨p, bi, g1, g2⟩ => by
        simp only [G.add] at g1
        by_cases hp : p = n
        · rw [if_pos hp] at g1; cases g1; cases g2
        · rw [if_neg hp] at g1; exact .inl ⟨p, bi, g1, g2⟩ }
  refine ⟨e, ⟨fun p => ?_, fun p bx bi g1 g2 => ?_, fun p q bi bj k g1 g2 g3 g4 => ?_, fun p bi g1 => ?_, fun k ⟨p, bi, g1, g2⟩ => ?_⟩, .hslNil (by simp [G.add])⟩
  · rw [Bx.get_cons]
    simp only [G.add]
    by_cases hp : n = p
    · simp [hp]
    · rw [if_neg hp, if_neg (fun h => hp h.symm)]; exact h.dom p
  · rw [Bx.get_cons] at g1
    simp only [G.add] at g2
    by_cases hp : n = p
    · rw [if_pos hp] at g1; rw [if_pos hp.symm] at g2
      cases g1; cases g2
      rfl
    · rw [if_neg hp] at g1; rw [if_neg (fun h => hp h.symm)] at g2
      exact (h.ok p bx bi g1 g2).keep e h.lt fun b _ => ⟨rfl, by simp [G.add, BI.blk]⟩
  · simp only [G.add] at g1 g2
    by_cases hp : p = n
    · rw [if_pos hp] at g1; cases g1; cases g3
    · rw [if_neg hp] at g1
      by_cases hq : q = n
      · rw [if_pos hq] at g2; cases g2; cases g4
      · rw [if_neg hq] at g2; exact h.inj p q bi bj k g1 g2 g3 g4
  · simp only [G.add] at g1 ⊢
    by_cases hp : p = n
    · exact .inl hp
    · rw [if_neg hp] at g1
      exact .inr (h.lt p bi g1)
  · simp only [G.add] at g1
    by_cases hp : p = n
    · rw [if_pos hp] at g1; cases g1; cases g2
    · rw [if_neg hp] at g1; exact h.blk k ⟨p, bi, g1, g2⟩

end Go.Abs

/- The abstract layer, part E: what the operations do to abstract values: 'aop'. -/
namespace Go.Abs

def tsz (P : Program) (t : TypeId) : Option Nat := (P.info? t).map (·.size)
def tby (P : Program) (t : TypeId) : Option Nat := (P.info? t).map (·.bytes)
def tzero (P : Program) (t : TypeId) : Option Value := (P.info? t).bind (·.zero)
def tagg (P : Program) (t : TypeId) : Option Bool := (P.underlying t).map fun | .struct _ | .array _ _ => true | _ => false
def telem (P : Program) (t : TypeId) : Option TypeId := match P.underlying t with | some (.slice e) => some e | _ => none
def tarr (P : Program) (t : TypeId) : Option (Nat × TypeId) := match P.underlying t with | some (.array n e) => some (n, e) | _ => none
def tfldt (P : Program) (s : TypeId) (f : Nat) : Option (Nat × TypeId) := match P.underlying s with | some (.struct fs) => (fs[f]?).map fun x => (x.offset, x.type) | _ => none
/-- The offset of a field that has a cell. -/
def tfld (P : Program) (s : TypeId) (f : Nat) : Option Nat := match tfldt P s f with
  | some (o, t) => match tsz P t with | some (_ + 1) => some o | _ => none
  | none => none

/-- A run that asks nothing of the world. -/
def pureSem {α : Type} (P : Program) : Sem α → Option α
  | .pure a => some a
  | .program k => pureSem P (k P)
  | _ => none

theorem pureSem_run {α : Type} {P : Program} {s : Sem α} {a : α} (h : pureSem P s = some a) (w : World) : s.run P w = .ok a w := by
  induction s with
  | pure b => simp [pureSem] at h; subst h; rfl
  | program k ih => simp only [pureSem] at h; simp only [Sem.run]; exact ih P h
  | _ => simp [pureSem] at h

def ofV : Value → M
  | .agg cs => .agg (cs.toList.map fun x => .d (.v x))
  | .tuple cs => .tup (cs.toList.map fun x => .d (.v x))
  | x => .d (.v x)

theorem MR.ofV {w : World} {Γ : G} (v : Value) : MR w Γ (ofV v) v := by
  cases v <;> first
    | exact .d (.v _)
    | (refine .agg (by simp) fun i x y hx hy => ?_
       simp only [List.getElem?_map] at hx
       simp at hx
       obtain ⟨z, h1, rfl⟩ := hx
       rw [hy] at h1; cases h1
       exact .d (.v _))
    | (refine .tup (by simp) fun i x y hx hy => ?_
       simp only [List.getElem?_map] at hx
       simp at hx
       obtain ⟨z, h1, rfl⟩ := hx
       rw [hy] at h1; cases h1
       exact .d (.v _))

def val1 : M → Option Value
  | .d (.v x) => some x
  | _ => none

/-- The model's value, where it is known whole. -/
def M.val? : M → Option Value
  | .agg cs => (cs.mapM val1).map fun l => .agg l.toArray
  | m => val1 m

theorem MR.val1 {w : World} {Γ : G} {m : M} {v x : Value} (h : MR w Γ m v) (hx : val1 m = some x) : v = x := by
  cases m with
  | d y =>
    cases y with
    | v z => cases hx; cases h with | d h => cases h; rfl
    | sl _ _ => cases hx
  | _ => cases hx

theorem mapM_val1 {w : World} {Γ : G} : ∀ {cs : List M} {l vs : List Value}, vs.length = cs.length →
    (∀ (i : Nat) (x : M) (y : Value), cs[i]? = some x → vs[i]? = some y → MR w Γ x y) → cs.mapM val1 = some l → vs = l
  | [], l, vs, hs, _, h => by
    simp at h; subst h
    exact List.length_eq_zero_iff.1 (by simpa using hs)
  | c :: cs, l, [], hs, _, _ => by simp at hs
  | c :: cs, l, v :: vs, hs, hm, h => by
    simp only [List.mapM_cons, Option.pure_def, Option.bind_eq_bind, Option.bind_eq_some_iff, Option.some.injEq] at h
    obtain ⟨x, hx, l', hl', rfl⟩ := h
    have h0 := (hm 0 c v rfl rfl).val1 hx
    have ih := mapM_val1 (vs := vs) (by simpa using hs) (fun i a b ha hb => hm (i + 1) a b ha hb) hl'
    rw [h0, ih]

theorem MR.val? {w : World} {Γ : G} {m : M} {v x : Value} (h : MR w Γ m v) (hx : m.val? = some x) : v = x := by
  cases m with
  | agg cs =>
    simp only [M.val?, Option.map_eq_some_iff] at hx
    obtain ⟨l, hl, rfl⟩ := hx
    cases h with
    | @agg _ vs hs hm =>
      have := mapM_val1 (vs := vs.toList) (by simpa using hs) (fun i a b ha hb => hm i a b ha (by simpa using hb)) hl
      rw [← this]
  | _ => exact h.val1 hx

def M.one : M → Bool
  | .d (.v x) => x.oneCell'
  | .agg _ | .tup _ => false
  | _ => true

theorem MR.one {w : World} {Γ : G} {m : M} {v : Value} (h : MR w Γ m v) (ho : m.one = true) : v.oneCell' = true := by
  cases h with
  | d h => cases h <;> first | exact ho | rfl
  | agg _ _ => cases ho
  | tup _ _ => cases ho
  | _ => first | rfl | assumption

/-- The cells that lie one behind the other from 'base' on. -/
def Lies (w : World) (Γ : G) (b base : Nat) (c : List M) : Prop :=
  ∀ (j : Nat) (x : M), c[j]? = some x → ∃ y, w.cell? ⟨b, base + j, none⟩ = some y ∧ MR w Γ x y

/-- Where a pointer points: the cells of the variable, or of the element, and the place among them. -/
def cellsAt (B : Bx) : M → Option (List M × Nat)
  | .ptr p o => match B.get p with | some (.st c _) => some (c, o) | _ => none
  | .eptr c o => some (c.map M.d, o)
  | .aptr p n i o => match B.get p with
    | some (.ar _ _ l _) => if l.length = n then (l[i]?).map fun c => (c, o) else none
    | _ => none
  | _ => none

theorem cellsAt_lies {w : World} {Γ : G} {B : Bx} (h : WR w Γ B) {m : M} {v : Value} {c : List M} {o : Nat} (hm : MR w Γ m v) (hc : cellsAt B m = some (c, o)) :
    ∃ b base, v = .pointer (some ⟨b, base + o, none⟩) ∧ Lies w Γ b base c := by
  cases hm with
  | @ptr p o' b hp =>
    simp only [cellsAt] at hc
    cases hB : B.get p with
    | none => simp [hB] at hc
    | some bx =>
      rw [hB] at hc
      cases bx with
      | ar _ _ _ => cases hc
      | st c' tg =>
        cases hc
        obtain ⟨_, cs, t, fz, hb, hs, _, hx⟩ := h.ok p _ _ hB hp
        refine ⟨b, 0, by simp, fun j x hj => ?_⟩
        have hlt : j < cs.size := by have := (List.getElem?_eq_some_iff.1 hj).1; omega
        refine ⟨cs[j], ?_, (hx j x _ hj (by simp [hlt])).1⟩
        rw [World.cell?_of_heap hb]
        simp [hlt]
  | @ptrDead p o' v hp _ _ =>
    simp only [cellsAt] at hc
    cases hB : B.get p with
    | none => simp [hB] at hc
    | some bx => obtain ⟨bi, hbi⟩ := (h.dom p).1 ⟨bx, hB⟩; rw [hp] at hbi; cases hbi
  | @eptr c' o' b base g hl hb hcell hrel =>
    cases hc
    refine ⟨b, base, rfl, fun j x hj => ?_⟩
    simp only [List.getElem?_map, Option.map_eq_some_iff] at hj
    obtain ⟨y, hy, rfl⟩ := hj
    exact ⟨g j, hcell j y hy, .d (hrel j y hy)⟩
  | @aptr p n i o' b off sz hp =>
    simp only [cellsAt] at hc
    cases hB : B.get p with
    | none => simp [hB] at hc
    | some bx =>
      rw [hB] at hc
      cases bx with
      | st _ => cases hc
      | ar fz sz' l tg =>
        simp only at hc
        split at hc
        · rename_i hn
          simp only [Option.map_eq_some_iff, Prod.mk.injEq] at hc
          obtain ⟨c', hi, rfl, rfl⟩ := hc
          obtain ⟨_, h1, h2, _, _, cs, t, fr, hb, hs, _, hx⟩ := h.ok p _ _ hB hp
          refine ⟨b, off + i * sz, rfl, fun j x hj => ?_⟩
          have := idx_lt (β := Unit) h2 hi hj ()
          rw [← h1] at this
          have hlt : off + i * sz + j < cs.size := by omega
          refine ⟨cs[off + i * sz + j], ?_, (hx i j c' x _ hi hj (by simp [hlt])).1⟩
          rw [World.cell?_of_heap hb]
          simp [hlt]
        · cases hc
  | @aptrStale p n i o' b off sz len v hp hn =>
    simp only [cellsAt] at hc
    cases hB : B.get p with
    | none => simp [hB] at hc
    | some bx =>
      rw [hB] at hc
      cases bx with
      | st _ => cases hc
      | ar fz sz' l tg =>
        simp only at hc
        split at hc
        · obtain ⟨_, h1, _⟩ := h.ok p _ _ hB hp
          omega
        · cases hc
  | @aptrDead p n i o' v hp _ _ =>
    simp only [cellsAt] at hc
    cases hB : B.get p with
    | none => simp [hB] at hc
    | some bx => obtain ⟨bi, hbi⟩ := (h.dom p).1 ⟨bx, hB⟩; rw [hp] at hbi; cases hbi
  | _ => cases hc

theorem run_sizeOf_t {P : Program} {t : TypeId} {s : Nat} (h : tsz P t = some s) (w : World) : (sizeOf t).run P w = .ok s w := by
  simp only [tsz, Option.map_eq_some_iff] at h
  obtain ⟨i, hi, rfl⟩ := h
  simp [sizeOf, typeInfo, hi]

theorem run_isAgg_t {P : Program} {t : TypeId} {b : Bool} (h : tagg P t = some b) (w : World) : (isAgg t).run P w = .ok b w := by
  simp only [tagg, Option.map_eq_some_iff] at h
  obtain ⟨d, hd, rfl⟩ := h
  simp only [isAgg, Sem.run_bind, run_underlying hd, Result.andThen_ok]
  cases d <;> rfl

theorem run_zeroValue_t {P : Program} {t : TypeId} {z : Value} (h : tzero P t = some z) (w : World) : (zeroValue t).run P w = .ok z w := by
  simp only [tzero, Option.bind_eq_some_iff] at h
  obtain ⟨i, hi, hz⟩ := h
  simp [zeroValue, typeInfo, hi, hz]

theorem telem_some {P : Program} {t e : TypeId} (h : telem P t = some e) : P.underlying t = some (.slice e) := by
  unfold telem at h
  split at h
  · cases h; assumption
  · cases h

theorem tarr_some {P : Program} {t e : TypeId} {n : Nat} (h : tarr P t = some (n, e)) : P.underlying t = some (.array n e) := by
  unfold tarr at h
  split at h
  · cases h; assumption
  · cases h

theorem add_addr (b o n : Nat) : (⟨b, o, none⟩ : Addr).add n = ⟨b, o + n, none⟩ := by
  unfold Addr.add; split <;> simp_all

/-- What is read at the place o of the cells c as a value of type t. -/
def loadM (P : Program) (t : TypeId) (c : List M) (o : Nat) : Option M :=
  match tagg P t with
  | some true => match tsz P t with
    | some s => if o + s ≤ c.length then some (.agg ((c.drop o).take s)) else none
    | none => none
  | some false => c[o]?
  | none => none

theorem run_load_t {P : Program} {w : World} {Γ : G} {t : TypeId} {c : List M} {b base o : Nat} {m : M} (hl : Lies w Γ b base c) (h : loadM P t c o = some m) :
    ∃ v, (Instr.loadAt t (.pointer (some ⟨b, base + o, none⟩))).run P w = .ok v w ∧ MR w Γ m v := by
  unfold loadM at h
  split at h
  · rename_i ha
    split at h
    · rename_i s hs
      split at h
      · rename_i hle
        cases h
        have hcell : ∀ j, j < s → ∃ y, w.cell? ⟨b, base + o + j, none⟩ = some y ∧ ∀ x, c[o + j]? = some x → MR w Γ x y := fun j hj => by
          have hlt : o + j < c.length := by omega
          obtain ⟨y, h1, h2⟩ := hl (o + j) c[o + j] (by simp [hlt])
          refine ⟨y, by rw [show base + o + j = base + (o + j) by omega]; exact h1, fun x hx => ?_⟩
          simp [hlt] at hx; subst hx; exact h2
        let f : Nat → Value := fun j => (w.cell? ⟨b, base + o + j, none⟩).getD undef
        have hf : ∀ j, j < s → w.cell? ((⟨b, base + o, none⟩ : Addr).add j) = some (f j) := fun j hj => by
          obtain ⟨y, h1, _⟩ := hcell j hj
          rw [add_addr]
          simp [f, h1]
        have hrun := run_loadCells (P := P) w ⟨b, base + o, none⟩ s f hf
        refine ⟨.agg ((List.range s).map f).toArray, ?_, .agg (by simp; omega) fun i x y hx hy => ?_⟩
        · simp [Instr.loadAt, Instr.sureAddr, loadVar, run_isAgg_t ha, run_sizeOf_t hs, hrun]
        · have hi : i < s := by
            have := (List.getElem?_eq_some_iff.1 hx).1
            simp at this; omega
          simp only [List.getElem?_take, if_pos hi, List.getElem?_drop] at hx
          obtain ⟨z, h1, h2⟩ := hcell i hi
          simp [hi, f, h1] at hy
          subst hy
          exact h2 x hx
      · cases h
    · cases h
  · rename_i ha
    obtain ⟨y, h1, h2⟩ := hl o m h
    exact ⟨y, by simp [Instr.loadAt, Instr.sureAddr, loadVar, run_isAgg_t ha, h1], h2⟩
  · cases h

end Go.Abs

/- The abstract layer, part F: the definition of 'aop', and contracts of functions. -/
namespace Go.Abs

abbrev KT := M → Bx → Nat → Prop

def unpure1 : List M → Option (List D)
  | [] => some []
  | .d x :: l => (unpure1 l).map (x :: ·)
  | _ => none
def unpure2 : List (List M) → Option (List (List D))
  | [] => some []
  | c :: l => (unpure1 c).bind fun c' => (unpure2 l).map (c' :: ·)

theorem unpure1_some : ∀ {c : List M} {x : List D}, unpure1 c = some x → c = x.map M.d
  | [], x, h => by simp [unpure1] at h; subst h; rfl
  | .d y :: c, x, h => by
    simp only [unpure1, Option.map_eq_some_iff] at h
    obtain ⟨z, hz, rfl⟩ := h
    rw [unpure1_some hz]; rfl
  | .ptr .. :: _, _, h | .eptr .. :: _, _, h | .hsl .. :: _, _, h | .aptr .. :: _, _, h | .agg .. :: _, _, h | .tup .. :: _, _, h | .fn .. :: _, _, h => by simp [unpure1] at h

theorem unpure2_some : ∀ {l : List (List M)} {x : List (List D)}, unpure2 l = some x → l = pure2 x
  | [], x, h => by simp [unpure2] at h; subst h; rfl
  | c :: l, x, h => by
    simp only [unpure2, Option.bind_eq_some_iff, Option.map_eq_some_iff] at h
    obtain ⟨c', hc, l', hl, rfl⟩ := h
    rw [unpure1_some hc, unpure2_some hl]; rfl

theorem unpure1_d (x : List D) : unpure1 (x.map M.d) = some x := by
  induction x with
  | nil => rfl
  | cons y x ih => simp [unpure1, ih]

theorem unpure2_pure2 (l : List (List D)) : unpure2 (pure2 l) = some l := by
  induction l with
  | nil => rfl
  | cons c l ih =>
    have : pure2 (c :: l) = c.map M.d :: pure2 l := rfl
    rw [this]; simp [unpure2, ih, unpure1_d]

theorem unpure2_append (a b : List (List M)) : unpure2 (a ++ b) = (unpure2 a).bind fun x => (unpure2 b).map (x ++ ·) := by
  induction a with
  | nil => simp [unpure2]
  | cons c a ih =>
    simp only [List.cons_append, unpure2, ih]
    cases unpure1 c <;> simp
    cases unpure2 a <;> simp
    rfl

theorem pure2_append (a b : List (List D)) : pure2 a ++ pure2 b = pure2 (a ++ b) := by simp [pure2]
theorem pure2_length (l : List (List D)) : (pure2 l).length = l.length := by simp [pure2]
/-- The cells of a type, which of them are slices, and of what size their elements are. -/
def cty (P : Program) : Nat → TypeId → List (Option Nat)
  | 0, _ => []
  | d + 1, t => match P.underlying t with
    | some (.struct fs) => fs.toList.flatMap fun f => cty P d f.type
    | some (.array n e) => (List.replicate n (cty P d e)).flatten
    | some (.slice e) => [tsz P e]
    | _ => [none]

/-- A handle becomes the value that it shows, a nil slice one without elements. -/
def frz1 (B : Bx) (s : Option Nat) : M → M × Bx
  | .hsl p k => match B.get p with
    | some (.ar _ sz l _) => if l.length = k then (match unpure2 l with | some l' => (.d (.sl sz l'), B.set p (.ar true sz l)) | none => (.hsl p k, B)) else (.hsl p k, B)
    | _ => (.hsl p k, B)
  | .d (.v (.slice none 0 0)) => match s with | some sz => (.d (.sl sz []), B) | none => (.d (.v (.slice none 0 0)), B)
  | m => (m, B)

def frzs : Bx → List (Option Nat) → List M → List M × Bx
  | B, s :: ss, m :: ms => ((frz1 B s m).1 :: (frzs (frz1 B s m).2 ss ms).1, (frzs (frz1 B s m).2 ss ms).2)
  | B, _, ms => (ms, B)

def frzT (P : Program) (B : Bx) (t : TypeId) : M → M × Bx
  | .agg cs => (.agg (frzs B (cty P 9 t) cs).1, (frzs B (cty P 9 t) cs).2)
  | m => frz1 B ((cty P 9 t).headD none) m

def frzA (P : Program) : Bx → List TypeId → List M → List M × Bx
  | B, t :: ts, m :: ms => ((frzT P B t m).1 :: (frzA P (frzT P B t m).2 ts ms).1, (frzA P (frzT P B t m).2 ts ms).2)
  | B, _, ms => (ms, B)

def Args (w : World) (Γ : G) (ms : List M) (vs : List Value) : Prop :=
  vs.length = ms.length ∧ ∀ (i : Nat) (x : M) (y : Value), ms[i]? = some x → vs[i]? = some y → MR w Γ x y

theorem Args.nil {w : World} {Γ : G} : Args w Γ [] [] := ⟨rfl, fun i x y h => by simp at h⟩
theorem Args.cons {w : World} {Γ : G} {m : M} {v : Value} {ms : List M} {vs : List Value} (h : MR w Γ m v) (hs : Args w Γ ms vs) : Args w Γ (m :: ms) (v :: vs) :=
  ⟨by simp [hs.1], fun i x y hx hy => by
    cases i with
    | zero => simp at hx hy; subst hx; subst hy; exact h
    | succ i => exact hs.2 i x y (by simpa using hx) (by simpa using hy)⟩
theorem Args.cons_inv {w : World} {Γ : G} {m : M} {ms : List M} {vs : List Value} (h : Args w Γ (m :: ms) vs) : ∃ v vs', vs = v :: vs' ∧ MR w Γ m v ∧ Args w Γ ms vs' := by
  cases vs with
  | nil => simp [Args] at h
  | cons v vs =>
    refine ⟨v, vs, rfl, h.2 0 m v rfl rfl, by simpa using h.1, fun i x y hx hy => h.2 (i + 1) x y (by simpa using hx) (by simpa using hy)⟩
theorem Args.ext {Γ₀ Γ : G} {w₀ w : World} (e : Ext Γ₀ w₀ Γ w) (hn : ∀ p bi, Γ₀.box p = some bi → Γ₀.used p) {ms : List M} {vs : List Value} (h : Args w₀ Γ₀ ms vs) :
    Args w Γ ms vs := ⟨h.1, fun i x y hx hy => (h.2 i x y hx hy).ext e hn⟩
theorem Args.append {w : World} {Γ : G} : ∀ {ms ms' : List M} {vs vs' : List Value}, Args w Γ ms vs → Args w Γ ms' vs' → Args w Γ (ms ++ ms') (vs ++ vs')
  | [], ms', vs, vs', h, h' => by
    have : vs = [] := List.length_eq_zero_iff.1 (by simpa using h.1)
    subst this; exact h'
  | m :: ms, ms', vs, vs', h, h' => by
    obtain ⟨v, vs1, rfl, h1, h2⟩ := h.cons_inv
    exact Args.cons h1 (Args.append h2 h')

theorem frz1_ok {w : World} {Γ : G} {B : Bx} (h : WR w Γ B) (s : Option Nat) {m : M} {v : Value} (hm : MR w Γ m v) :
    ∃ Γ', Ext Γ w Γ' w ∧ WR w Γ' (frz1 B s m).2 ∧ Γ'.used = Γ.used ∧ MR w Γ' (frz1 B s m).1 v := by
  have same : ∃ Γ', Ext Γ w Γ' w ∧ WR w Γ' B ∧ Γ'.used = Γ.used ∧ MR w Γ' m v := ⟨Γ, Ext.refl _ _, h, rfl, hm⟩
  unfold frz1
  split
  · rename_i p k
    split
    · rename_i fz sz l hB
      split
      · rename_i hk
        split
        · rename_i l' hl
          have he := unpure2_some hl
          rw [he] at hB hk ⊢
          rw [pure2_length] at hk
          subst hk
          obtain ⟨Γ', e, hw, hn, hd⟩ := h.snap hB hm
          exact ⟨Γ', e, hw, hn, .d hd⟩
        · exact same
      · exact same
    · exact same
  · split
    · refine ⟨Γ, Ext.refl _ _, h, rfl, ?_⟩
      cases hm with
      | d hd => cases hd; exact .d .slNil
    · exact same
  · exact same

theorem frzs_ok {w : World} : ∀ {ss : List (Option Nat)} {ms : List M} {vs : List Value} {Γ : G} {B : Bx}, WR w Γ B → Args w Γ ms vs →
    ∃ Γ', Ext Γ w Γ' w ∧ WR w Γ' (frzs B ss ms).2 ∧ Γ'.used = Γ.used ∧ Args w Γ' (frzs B ss ms).1 vs
  | [], ms, vs, Γ, B, h, ha => ⟨Γ, Ext.refl _ _, by simpa [frzs] using h, rfl, by simpa [frzs] using ha⟩
  | s :: ss, [], vs, Γ, B, h, ha => ⟨Γ, Ext.refl _ _, by simpa [frzs] using h, rfl, by simpa [frzs] using ha⟩
  | s :: ss, m :: ms, vs, Γ, B, h, ha => by
    obtain ⟨v, vs', rfl, hm, hs⟩ := ha.cons_inv
    obtain ⟨Γ1, e1, w1, n1, m1⟩ := frz1_ok h s hm
    obtain ⟨Γ2, e2, w2, n2, a2⟩ := frzs_ok (ss := ss) w1 (hs.ext e1 h.lt)
    exact ⟨Γ2, e1.trans e2, w2, n2.trans n1, Args.cons (m1.ext e2 w1.lt) a2⟩

theorem frzT_ok {P : Program} {w : World} {Γ : G} {B : Bx} (h : WR w Γ B) (t : TypeId) {m : M} {v : Value} (hm : MR w Γ m v) :
    ∃ Γ', Ext Γ w Γ' w ∧ WR w Γ' (frzT P B t m).2 ∧ Γ'.used = Γ.used ∧ MR w Γ' (frzT P B t m).1 v := by
  unfold frzT
  split
  · rename_i cs
    cases hm with
    | @agg _ vs hs hh =>
      obtain ⟨Γ', e, hw, hn, ha⟩ := frzs_ok (ss := cty P 9 t) (vs := vs.toList) h (ms := cs) ⟨by simpa using hs, fun i x y hx hy => hh i x y hx (by simpa using hy)⟩
      exact ⟨Γ', e, hw, hn, .agg (by simpa using ha.1) fun i x y hx hy => ha.2 i x y hx (by simpa using hy)⟩
  · exact frz1_ok h _ hm

theorem frzA_ok {P : Program} {w : World} : ∀ {ts : List TypeId} {ms : List M} {vs : List Value} {Γ : G} {B : Bx}, WR w Γ B → Args w Γ ms vs →
    ∃ Γ', Ext Γ w Γ' w ∧ WR w Γ' (frzA P B ts ms).2 ∧ Γ'.used = Γ.used ∧ Args w Γ' (frzA P B ts ms).1 vs
  | [], ms, vs, Γ, B, h, ha => ⟨Γ, Ext.refl _ _, by simpa [frzA] using h, rfl, by simpa [frzA] using ha⟩
  | s :: ss, [], vs, Γ, B, h, ha => ⟨Γ, Ext.refl _ _, by simpa [frzA] using h, rfl, by simpa [frzA] using ha⟩
  | t :: ts, m :: ms, vs, Γ, B, h, ha => by
    obtain ⟨v, vs', rfl, hm, hs⟩ := ha.cons_inv
    obtain ⟨Γ1, e1, w1, n1, m1⟩ := frzT_ok (P := P) h t hm
    obtain ⟨Γ2, e2, w2, n2, a2⟩ := frzA_ok (ts := ts) w1 (hs.ext e1 h.lt)
    exact ⟨Γ2, e1.trans e2, w2, n2.trans n1, Args.cons (m1.ext e2 w1.lt) a2⟩

/-- A function of the program that a call enters. -/
def Enters (P : Program) (f : FuncId) : Prop := ∃ fn, P.funcs[f]? = some fn ∧ fn.body.isSome = true ∧ (fn.name == "runtime.NumGoroutine") = false

/-- The package-level tables that the library reads, as start-up lays them. -/
def knownTabs : List (String × IntKind × List Int) := [("internal/strconv.uint64pow10", .u64, Lib.pow10Tab)]
/-- The library's numbers that start-up sets by the machine: some number. -/
def knownInts : List String := ["internal/bytealg.MaxLen"]
/-- The tables that the program has hold what start-up lays, the numbers some number. -/
def Laid (P : Program) (w : World) : Prop := (∀ t, t ∈ knownTabs → (P.globalNamed t.1).isSome = true → Lib.TabIs P w t.1 t.2.1 t.2.2) ∧
  ∀ t, t ∈ knownInts → ∀ g, P.globalNamed t = some g → ∃ m : Int, w.cell? ⟨g, 0, none⟩ = some (.int .i64 m)
/-- .. and no box stands for one of them. -/
def Base (P : Program) (Γ : G) (w : World) : Prop := Laid P w ∧ (∀ t, t ∈ knownTabs → ∀ g, P.globalNamed t.1 = some g → ¬ Γ.owns g) ∧ ∀ t, t ∈ knownInts → ∀ g, P.globalNamed t = some g → ¬ Γ.owns g
theorem Base.ext {P : Program} {Γ Γ' : G} {w w' : World} (h : Base P Γ w) (e : Ext Γ w Γ' w') : Base P Γ' w' := by
  have key : ∀ t, t ∈ knownTabs → ∀ g, P.globalNamed t.1 = some g → g < w.heap.size ∧ w'.heap[g]? = w.heap[g]? := fun t ht g hg => by
    have h1 := h.1.1 t ht (by rw [hg]; rfl)
    unfold Lib.TabIs World.var? at h1
    rw [hg] at h1
    have hlt : g < w.heap.size := by
      rcases Nat.lt_or_ge g w.heap.size with hh | hh
      · exact hh
      · rw [Option.bind_some, Array.getElem?_eq_none hh] at h1; cases h1
    exact ⟨hlt, (e.keep g hlt (h.2.1 t ht g hg)).1⟩
  have key2 : ∀ t, t ∈ knownInts → ∀ g, P.globalNamed t = some g → g < w.heap.size ∧ w'.heap[g]? = w.heap[g]? := fun t ht g hg => by
    obtain ⟨m, hm⟩ := h.1.2 t ht g hg
    have hlt : g < w.heap.size := World.block_lt_of_cell? _ _ hm
    exact ⟨hlt, (e.keep g hlt (h.2.2 t ht g hg)).1⟩
  refine ⟨⟨fun t ht hs => ?_, fun t ht g hg => ?_⟩, fun t ht g hg ho => ?_, fun t ht g hg ho => ?_⟩
  · obtain ⟨g, hg⟩ := Option.isSome_iff_exists.1 hs
    have h1 := h.1.1 t ht hs
    unfold Lib.TabIs World.var? at h1 ⊢
    rw [hg, Option.bind_some] at h1 ⊢
    rw [(key t ht g hg).2]; exact h1
  · obtain ⟨m, hm⟩ := h.1.2 t ht g hg
    refine ⟨m, ?_⟩
    unfold World.cell? at hm ⊢
    simp only [(key2 t ht g hg).2]; exact hm
  · rcases e.new g ho with h' | h'
    · exact h.2.1 t ht g hg h'
    · have := (key t ht g hg).1; omega
  · rcases e.new g ho with h' | h'
    · exact h.2.2 t ht g hg h'
    · have := (key2 t ht g hg).1; omega

/-- The contract of a call: it returns, and K holds of what it returns and of the boxes behind it. -/
def AFn (P : Program) (f : FuncId) (args : List M) (B : Bx) (n : Nat) (K : KT) : Prop :=
  Enters P f ∧ ∀ (Γ : G) (w : World) (vs : List Value), Base P Γ w → WR w Γ B → (∀ p, Γ.used p → p < n) → Args w Γ args vs → Calls P f vs.toArray w fun e w' =>
    ∃ cv Γ' m B' n', e = .returned cv ∧ K m B' n' ∧ Ext Γ w Γ' w' ∧ WR w' Γ' B' ∧ (∀ p, Γ'.used p → p < n') ∧ MR w' Γ' m cv

def pureG (lim : Nat → Nat) : G := { lim := lim, box := fun _ => none, used := fun _ => False }

/-- The contract of a function of pure data: it returns m. -/
def PFn (P : Program) (f : FuncId) (args : List M) (m : M) : Prop :=
  Enters P f ∧ ∀ (lim : Nat → Nat) (w : World) (vs : List Value), Laid P w → Args w (pureG lim) args vs → Calls P f vs.toArray w fun e w' =>
    ∃ cv lim', e = .returned cv ∧ Ext (pureG lim) w (pureG lim') w' ∧ MR w' (pureG lim') m cv

def M.p0 : M → Bool | .d _ => true | _ => false
def M.p1 : M → Bool | .agg l => l.all M.p0 | m => m.p0
def M.p2 : M → Bool | .tup l => l.all M.p1 | m => m.p1

theorem MR.p0 {w : World} {Γ Γ' : G} (hl : Γ'.lim = Γ.lim) {m : M} {v : Value} (hp : m.p0 = true) (h : MR w Γ m v) : MR w Γ' m v := by
  cases h with
  | d h => exact .d (by rw [hl]; exact h)
  | _ => cases hp

theorem MR.p1 {w : World} {Γ Γ' : G} (hl : Γ'.lim = Γ.lim) {m : M} {v : Value} (hp : m.p1 = true) (h : MR w Γ m v) : MR w Γ' m v := by
  cases m with
  | agg l =>
    cases h with
    | agg hs hh =>
      simp only [M.p1, List.all_eq_true] at hp
      exact .agg hs fun i x y hx hy => (hh i x y hx hy).p0 hl (hp x (List.mem_of_getElem? hx))
  | _ => exact h.p0 hl hp

theorem MR.p2 {w : World} {Γ Γ' : G} (hl : Γ'.lim = Γ.lim) {m : M} {v : Value} (hp : m.p2 = true) (h : MR w Γ m v) : MR w Γ' m v := by
  cases m with
  | tup l =>
    cases h with
    | tup hs hh =>
      simp only [M.p2, List.all_eq_true] at hp
      exact .tup hs fun i x y hx hy => (hh i x y hx hy).p1 hl (hp x (List.mem_of_getElem? hx))
  | _ => exact h.p1 hl hp

theorem Base.pure {P : Program} {w : World} {lim : Nat → Nat} (h : Laid P w) : Base P (pureG lim) w := ⟨h, fun _ _ _ _ ⟨p, bi, hb, _⟩ => by simp [pureG] at hb, fun _ _ _ _ ⟨p, bi, hb, _⟩ => by simp [pureG] at hb⟩

theorem Args.pure {w : World} {Γ Γ' : G} (hl : Γ'.lim = Γ.lim) {ms : List M} {vs : List Value} (hp : ms.all M.p1 = true) (h : Args w Γ ms vs) : Args w Γ' ms vs :=
  ⟨h.1, fun i x y hx hy => (h.2 i x y hx hy).p1 hl (by simp only [List.all_eq_true] at hp; exact hp x (List.mem_of_getElem? hx))⟩

theorem WR.none (w : World) (lim : Nat → Nat) : WR w (pureG lim) [] :=
  ⟨fun p => by simp [Bx.get, pureG], fun p bx bi h => by simp [Bx.get] at h, fun p q bi bj k h => by simp [pureG] at h, fun p bi h => by simp [pureG] at h,
    fun k ⟨p, bi, h, _⟩ => by simp [pureG] at h⟩

/-- A pure contract in a frame with boxes: they stay. -/
theorem AFn.of_pure {P : Program} {f : FuncId} {args : List M} {m : M} (h : PFn P f args m) (ha : args.all M.p1 = true) (hm : m.p2 = true) {B : Bx} {n : Nat} {K : KT}
    (hK : K m B n) : AFn P f args B n K := by
  refine ⟨h.1, ?_⟩
  intro Γ w vs hb hw hn hargs
  refine (h.2 Γ.lim w vs hb.1 (Args.pure (Γ := Γ) (Γ' := pureG Γ.lim) rfl ha hargs)).mono fun e w' ⟨cv, lim', he, hext, hmr⟩ => ?_
  let Γ' : G := { Γ with lim := lim' }
  have hkeep : ∀ k, k < w.heap.size → w'.heap[k]? = w.heap[k]? ∧ lim' k = Γ.lim k := fun k hk => by
    obtain ⟨h1, h2⟩ := hext.keep k hk (fun ⟨p, bi, hb, _⟩ => by simp [pureG] at hb)
    exact ⟨h1, h2⟩
  have e2 : Ext Γ w Γ' w' :=
    { os := hext.os, tape := hext.tape, output := hext.output, size := hext.size, used := fun _ h => h
      keep := fun k hk _ => hkeep k hk
      cells := hext.cells
      lim := hext.lim
      shape := hext.shape
      box := fun _ _ => BI.to_refl _
      new := fun _ h => .inl h }
  refine ⟨cv, Γ', m, B, n, he, hK, e2, ⟨hw.dom, fun p bx bi h1 h2 => (hw.ok p bx bi h1 h2).keep e2 hw.lt fun b hbb => ?_, hw.inj, hw.lt, fun k hk => ?_⟩, hn, MR.p2 (Γ := pureG lim') (Γ' := Γ') rfl hm hmr⟩
  · exact hkeep b (hw.blk b ⟨p, bi, h2, hbb⟩)
  · exact Nat.lt_of_lt_of_le (hw.blk k hk) hext.size

theorem AFn.mono {P : Program} {f : FuncId} {args : List M} {B : Bx} {n : Nat} {K K' : KT} (h : AFn P f args B n K) (hk : ∀ m B n, K m B n → K' m B n) : AFn P f args B n K' :=
  ⟨h.1, fun Γ w vs h0 h1 h2 h3 => (h.2 Γ w vs h0 h1 h2 h3).mono fun _ _ ⟨cv, Γ', m, B', n', a, b, c⟩ => ⟨cv, Γ', m, B', n', a, hk _ _ _ b, c⟩⟩

/-- What comes back: a handle, or a handle and other results. -/
def oRes (h : M) : Option (List M) → M
  | none => h
  | some r => .tup (h :: r)
def oOK : Option (List M) → Bool
  | none => true
  | some r => r.all M.p1

/-- The contract of a function of pure data that returns a row of its own: the caller may append to it. -/
def OFn (P : Program) (f : FuncId) (args : List M) (sz : Nat) (l : List (List D)) (r : Option (List M)) : Prop :=
  AFn P f args [] 0 fun m B' _ => ∃ id, m = oRes (.hsl id l.length) r ∧ B' = [(id, .ar false sz (pure2 l))]

theorem get_single (p q : Nat) (x : Box) : Bx.get [(p, x)] q = if p = q then some x else none := by rw [Bx.get_cons]; rfl

theorem OFn.use {P : Program} {f : FuncId} {args : List M} {sz : Nat} {l : List (List D)} {r : Option (List M)} (h : OFn P f args sz l r) (ha : args.all M.p1 = true) (hr : oOK r = true) {w : World} {Γ : G} {B : Bx} {n : Nat} {vs : List Value}
    (hL : Laid P w) (hw : WR w Γ B) (hn : ¬ Γ.used n) (hargs : Args w Γ args vs) : Calls P f vs.toArray w fun e w' => ∃ cv Γ', e = .returned cv ∧ Ext Γ w Γ' w' ∧ WR w' Γ' ((n, .ar false sz (pure2 l)) :: B) ∧
      (∀ p, Γ'.used p → p = n ∨ Γ.used p) ∧ MR w' Γ' (oRes (.hsl n l.length) r) cv := by
  refine (h.2 (pureG Γ.lim) w vs (Base.pure hL) (WR.none w Γ.lim) (fun p hp => hp.elim) (Args.pure (Γ := Γ) (Γ' := pureG Γ.lim) rfl ha hargs)).mono fun e w' ⟨cv, Γ1, m, B', n', he, ⟨id, hm, hB⟩, hext, hw1, _, hmr⟩ => ?_
  subst hm; subst hB
  obtain ⟨bi, hbi⟩ := (hw1.dom id).1 ⟨_, by rw [get_single, if_pos rfl]⟩
  have hok1 := hw1.ok id _ bi (by rw [get_single, if_pos rfl]) hbi
  let Γ' : G := { lim := Γ1.lim, box := fun p => if p = n then some bi else Γ.box p, used := fun p => p = n ∨ Γ.used p }
  have hkeep : ∀ k, k < w.heap.size → w'.heap[k]? = w.heap[k]? ∧ Γ1.lim k = Γ.lim k := fun k hk => hext.keep k hk (fun ⟨p, bi, hb, _⟩ => by simp [pureG] at hb)
  have hnew : ∀ k, bi.blk = some k → w.heap.size ≤ k := fun k hk => by
    rcases hext.new k ⟨id, bi, hbi, hk⟩ with ⟨p, bj, hb, _⟩ | h
    · simp [pureG] at hb
    · exact h
  have hbn : Γ.box n = none := by
    cases hh : Γ.box n with
    | none => rfl
    | some bj => exact absurd (hw.lt n bj hh) hn
  have e2 : Ext Γ w Γ' w' :=
    { os := hext.os, tape := hext.tape, output := hext.output, size := hext.size, used := fun _ h => .inr h
      keep := fun k hk _ => hkeep k hk
      cells := hext.cells
      lim := hext.lim
      shape := hext.shape
      box := fun p hp => by
        simp only [Γ']
        rw [if_neg (fun e => hn (by rw [← e]; exact hp))]
        exact BI.to_refl _
      new := fun k ⟨p, bj, g1, g2⟩ => by
        simp only [Γ'] at g1
        split at g1
        · cases g1; exact .inr (hnew k g2)
        · exact .inl ⟨p, bj, g1, g2⟩ }
  have hsl : ∀ k v, MR w' Γ1 (.hsl id k) v → MR w' Γ' (.hsl n k) v := fun k v hv => by
    cases hv with
    | hslNil h' => exact .hslNil (by simp only [Γ', if_pos]; rw [← hbi]; exact h')
    | hsl h' hc hs => exact .hsl (by simp only [Γ', if_pos]; rw [← hbi]; exact h') hc hs
    | hslStale h' hlt ho => exact .hslStale (by simp only [Γ', if_pos]; rw [← hbi]; exact h') hlt ho
    | hslDead h' _ _ => rw [h'] at hbi; cases hbi
  refine ⟨cv, Γ', he, e2, ⟨fun p => ?_, fun p bx bj g1 g2 => ?_, fun p q bj bk k g1 g2 g3 g4 => ?_, fun p bj g1 => ?_, fun k ⟨p, bj, g1, g2⟩ => ?_⟩, fun p hp => hp, ?_⟩
  · rw [Bx.get_cons]
    simp only [Γ']
    by_cases hp : n = p
    · simp [hp]
    · rw [if_neg hp, if_neg (fun h => hp h.symm)]; exact hw.dom p
  · rw [Bx.get_cons] at g1
    simp only [Γ'] at g2
    by_cases hp : n = p
    · rw [if_pos hp] at g1; rw [if_pos hp.symm] at g2
      cases g1; cases g2
      cases bi with
      | st b => exact hok1.elim
      | nl => exact hok1
      | ar b off s k =>
        obtain ⟨h0, h1, h2, h3, h3f, cs, t, fr, hb, hs, hf, hm⟩ := hok1
        refine ⟨h0, h1, h2, h3, h3f, cs, t, fr, hb, hs, hf, fun i j c x y hi hx hy => ?_⟩
        have := hm i j c x y hi hx hy
        refine ⟨MR.p0 (Γ := Γ1) (Γ' := Γ') rfl ?_ this.1, this.2⟩
        rw [pure2_get] at hi
        simp only [Option.map_eq_some_iff] at hi
        obtain ⟨d, _, rfl⟩ := hi
        simp only [List.getElem?_map, Option.map_eq_some_iff] at hx
        obtain ⟨z, _, rfl⟩ := hx
        rfl
    · rw [if_neg hp] at g1; rw [if_neg (fun h => hp h.symm)] at g2
      exact (hw.ok p bx bj g1 g2).keep e2 hw.lt fun b hb => hkeep b (hw.blk b ⟨p, bj, g2, hb⟩)
  · simp only [Γ'] at g1 g2
    by_cases hp : p = n
    · rw [if_pos hp] at g1; cases g1
      by_cases hq : q = n
      · rw [hp, hq]
      · rw [if_neg hq] at g2
        have := hw.blk k ⟨q, bk, g2, g4⟩
        have := hnew k g3
        omega
    · rw [if_neg hp] at g1
      by_cases hq : q = n
      · rw [if_pos hq] at g2; cases g2
        have := hw.blk k ⟨p, bj, g1, g3⟩
        have := hnew k g4
        omega
      · rw [if_neg hq] at g2; exact hw.inj p q bj bk k g1 g2 g3 g4
  · simp only [Γ'] at g1 ⊢
    by_cases hp : p = n
    · exact .inl hp
    · rw [if_neg hp] at g1; exact .inr (hw.lt p bj g1)
  · simp only [Γ'] at g1
    by_cases hp : p = n
    · rw [if_pos hp] at g1; cases g1
      exact hw1.blk k ⟨id, bi, hbi, g2⟩
    · rw [if_neg hp] at g1
      exact Nat.lt_of_lt_of_le (hw.blk k ⟨p, bj, g1, g2⟩) hext.size
  · cases r with
    | none => exact hsl _ cv hmr
    | some rs =>
      cases hmr with
      | @tup _ vs hs hx =>
        refine .tup hs fun i x y hi hy => ?_
        cases i with
        | zero =>
          simp at hi; subst hi
          exact hsl _ y (hx 0 _ y rfl hy)
        | succ i =>
          simp at hi
          refine (hx (i + 1) x y (by simpa using hi) hy).p1 (Γ := Γ1) (Γ' := Γ') rfl ?_
          simp only [oOK, List.all_eq_true] at hr
          exact hr x (List.mem_of_getElem? hi)

theorem AFn.of_own {P : Program} {f : FuncId} {args : List M} {sz : Nat} {l : List (List D)} {r : Option (List M)} (h : OFn P f args sz l r) (ha : args.all M.p1 = true) (hr : oOK r = true) {B : Bx} {n : Nat} {K : KT}
    (hK : K (oRes (.hsl n l.length) r) ((n, .ar false sz (pure2 l)) :: B) (n + 1)) : AFn P f args B n K :=
  ⟨h.1, fun Γ w vs hb hw hlt hargs => (h.use ha hr hb.1 hw (fun hu => by have := hlt n hu; omega) hargs).mono fun e w' ⟨cv, Γ', he, hx, hw', hu, hm⟩ =>
    ⟨cv, Γ', _, _, n + 1, he, hK, hx, hw', fun p hp => by rcases hu p hp with rfl | h; omega; have := hlt p h; omega, hm⟩⟩

/-- .. and the caller may take it as a value. -/
theorem PFn.of_own {P : Program} {f : FuncId} {args : List M} {sz : Nat} {l : List (List D)} {r : Option (List M)} (h : OFn P f args sz l r) (hr : oOK r = true) : PFn P f args (oRes (.d (.sl sz l)) r) := by
  refine ⟨h.1, fun lim w vs hL ha => (h.2 (pureG lim) w vs (Base.pure hL) (WR.none w lim) (fun p hp => hp.elim) ha).mono fun e w' ⟨cv, Γ1, m, B', n', he, ⟨id, hm, hB⟩, hext, hw1, _, hmr⟩ => ?_⟩
  subst hm; subst hB
  have hg : Bx.get [(id, .ar false sz (pure2 l))] id = some (.ar false sz (pure2 l)) := by rw [get_single, if_pos rfl]
  have strip : ∀ Γ2 : G, Ext (pureG lim) w Γ2 w' → Ext (pureG lim) w (pureG Γ2.lim) w' := fun Γ2 e3 =>
    { os := e3.os, tape := e3.tape, output := e3.output, size := e3.size, used := fun _ h => h
      keep := fun k hk ho => e3.keep k hk ho
      cells := e3.cells
      lim := e3.lim
      shape := e3.shape
      box := fun _ _ => BI.to_refl _
      new := fun k ⟨p, bi, h, _⟩ => by simp [pureG] at h }
  cases r with
  | none =>
    obtain ⟨Γ2, e2, _, _, hd⟩ := hw1.snap hg hmr
    exact ⟨cv, Γ2.lim, he, strip Γ2 (hext.trans e2), .d hd⟩
  | some rs =>
    cases hmr with
    | @tup _ vs hs hx =>
      have h0 : 0 < vs.size := by rw [hs]; simp
      obtain ⟨Γ2, e2, _, _, hd⟩ := hw1.snap hg (hx 0 _ vs[0] rfl (by simp [h0]))
      refine ⟨_, Γ2.lim, he, strip Γ2 (hext.trans e2), .tup hs fun i x y hi hy => ?_⟩
      cases i with
      | zero =>
        simp at hi; subst hi
        simp [h0] at hy; subst hy
        exact .d hd
      | succ i =>
        simp at hi
        refine ((hx (i + 1) x y (by simpa using hi) hy).ext e2 hw1.lt).p1 (Γ := Γ2) (Γ' := pureG Γ2.lim) rfl ?_
        simp only [oOK, List.all_eq_true] at hr
        exact hr x (List.mem_of_getElem? hi)

end Go.Abs

/- The abstract layer, part G: the operations. -/
namespace Go.Abs

abbrev K2 := M → Bx → Prop

def kopt (o : Option Value) (B : Bx) (K : K2) : Prop := match o with | some v => K (ofV v) B | none => False

def aPick (c a b : M) (B : Bx) (K : K2) : Prop := match c with
  | .d (.v (.bool t)) => (match a, b with
    | .d (.v (.bool x)), .d (.v (.bool y)) => K (.d (.v (.bool (bif t then x else y)))) B
    | _, _ => (t = true → K a B) ∧ (t = false → K b B))
  | _ => False

/-- The type, if it is a struct of two fields of which the first points at such a struct (strings.Builder); else 0. -/
def btag (P : Program) (t : TypeId) : TypeId := match P.underlying t with
  | some (.struct fs) => (match fs.toList with
    | [f0, _] => (match P.underlying f0.type with
      | some (.pointer u) => if u = t then t else 0
      | _ => 0)
    | _ => 0)
  | _ => 0
theorem btag_or (P : Program) (t : TypeId) : btag P t = 0 ∨ btag P t = t := by
  unfold btag
  repeat' split
  all_goals first | exact .inl rfl | exact .inr rfl

def aAlloc (P : Program) (t : TypeId) (B : Bx) (id : Nat) (K : K2) : Prop := match tzero P t with
  | some z => z.cells.all (·.oneCell') = true ∧ K (.ptr id 0) ((id, .st (z.cells.toList.map fun x => .d (.v x)) (btag P t)) :: B)
  | none => False

def M.cells : M → List M | .agg cs => cs | m => [m]

def aBox (m : M) (B : Bx) (id : Nat) (K : K2) : Prop := match m with
  | .agg cs => cs.all M.one = true ∧ K (.ptr id 0) ((id, .st cs) :: B)
  | m => m.one = true ∧ K (.ptr id 0) ((id, .st [m]) :: B)

def aLoad (P : Program) (t : TypeId) (a : M) (B : Bx) (K : K2) : Prop := match cellsAt B a with
  | some (c, o) => (match loadM P t c o with | some m => K m B | none => False)
  | none => False

def splice (c : List M) (o : Nat) (cs : List M) : List M := c.take o ++ cs ++ c.drop (o + cs.length)

/-- The cells of a value that is to be stored, if each of them is a value of one cell. -/
def stores (m : M) : Option (List M) := match m with
  | .agg cs => if cs.all M.one then some cs else none
  | m => if m.one then some [m] else none

def undefM : M := .d (.v undef)

def aStore (P : Program) (t : TypeId) (a x : M) (B : Bx) (K : K2) : Prop := match stores x with
  | none => False
  | some cs => tsz P t = some cs.length ∧ match a with
    | .ptr p o => (match B.get p with
      | some (.st c e) => o + cs.length ≤ c.length ∧ K undefM (B.set p (.st (splice c o cs) e))
      | _ => False)
    | .aptr p n i o => (match B.get p with
      | some (.ar fz sz l _) => (match l[i]? with
        | some c => (fz = false ∧ l.length = n ∧ o + cs.length ≤ c.length) ∧ K undefM (B.set p (.ar false sz (l.set i (splice c o cs))))
        | none => False)
      | _ => False)
    | _ => False

def aNilCheck (a : M) (B : Bx) (K : K2) : Prop := match a with
  | .fn (.func f) fs cs => K (.fn (.func f) fs cs) B
  | m => match cellsAt B m with
    | some _ => K m B
    | none => False

def isNilC : M → Bool | .d (.v (.slice none 0 0)) => true | _ => false
def isNilP : M → Bool | .d (.v (.pointer none)) => true | _ => false

def aBin (P : Program) (op : BinOp) (t : TypeId) (xo yo : Operand) (x y : M) (B : Bx) (K : K2) : Prop :=
  match x.val?, y.val? with
  | some a, some b => kopt (pureSem P (do eqGuard op t xo yo a b; binOp op t a b)) B K
  | _, _ => match x with
    | .d (.sl _ l) => (isNilC y = true ∧ (telem P t).isSome = true) ∧ (match op with
      | .eql => (l = [] → K (.d (.v (.bool true))) B) ∧ K (.d (.v (.bool false))) B
      | .neq => (l = [] → K (.d (.v (.bool false))) B) ∧ K (.d (.v (.bool true))) B
      | _ => False)
    | .ptr p _ => (isNilP y = true ∧ (∃ e, P.underlying t = some (.pointer e)) ∧ (Bx.get B p).isSome = true) ∧ (match op with
      | .eql => K (.d (.v (.bool false))) B
      | .neq => K (.d (.v (.bool true))) B
      | _ => False)
    | _ => False

def aUn (P : Program) (op : UnOp) (x : M) (B : Bx) (K : K2) : Prop := match x.val? with
  | some a => kopt (pureSem P (Op.unary op a)) B K
  | none => False

def bytesOf : List (List D) → Option (List UInt8)
  | [] => some []
  | [.v (.int .u8 n)] :: l => (bytesOf l).map (UInt8.ofNat n.toNat :: ·)
  | _ => none

def byteD (b : UInt8) : List D := [.v (.int .u8 b.toNat)]

/-- The elements of a slice, as data. -/
def seqD (B : Bx) : M → Option (Nat × List (List D))
  | .d (.sl sz l) => some (sz, l)
  | .hsl p n => match B.get p with
    | some (.ar _ sz l _) => if l.length = n then (unpure2 l).map fun l' => (sz, l') else none
    | _ => none
  | _ => none

def isU8 (P : Program) (e : TypeId) : Bool := match P.underlying e with | some (.int .u8) => true | _ => false
def isStr (P : Program) (e : TypeId) : Bool := match P.underlying e with | some .string => true | _ => false

def aConv0 (P : Program) (src dst : TypeId) (x : M) (B : Bx) (id : Nat) (K : K2) : Prop := match x with
  | .d (.v (.string s)) => (match telem P dst with
    | some e => (isU8 P e = true ∧ isStr P src = true) ∧ K (.hsl id s.size) ((id, .ar false 1 (pure2 (s.data.toList.map byteD))) :: B)
    | none => kopt (pureSem P (convert src dst (.string s))) B K)
  | .d (.v v) => kopt (pureSem P (convert src dst v)) B K
  | m => match seqD B m, telem P src with
    | some (sz, l), some e => (match bytesOf l with
      | some bs => (sz = 1 ∧ isU8 P e = true ∧ isStr P dst = true) ∧ K (.d (.v (.string ⟨bs.toArray⟩))) B
      | none => False)
    | _, _ => False

/-- A row of bytes converted to its own type. -/
def sameSl (P : Program) (src dst : TypeId) (x : M) (B : Bx) : Bool := match x with
  | .hsl p n => (src == dst) && (match telem P dst, B.get p with
    | some e, some (.ar _ _ l _) => isU8 P e && (l.length == n) && decide (0 < n)
    | _, _ => false)
  | _ => false
def aConv (P : Program) (src dst : TypeId) (x : M) (B : Bx) (id : Nat) (K : K2) : Prop := if sameSl P src dst x B = true then K x B else aConv0 P src dst x B id K

def aExtract (m : M) (i : Nat) (B : Bx) (K : K2) : Prop := match m with
  | .tup cs => (match cs[i]? with | some m => K m B | none => False)
  | _ => False

def aField (P : Program) (t : TypeId) (m : M) (f : Nat) (B : Bx) (K : K2) : Prop := match m, tfldt P t f with
  | .agg cs, some (o, ft) => (match loadM P ft cs o with | some m => K m B | none => False)
  | _, _ => False

def aIndex (P : Program) (t : TypeId) (m i : M) (B : Bx) (K : K2) : Prop := match i with
  | .d (.v (.int _ k)) => (match m with
    | .d (.v (.string s)) => (isStr P t = true ∧ 0 ≤ k ∧ k < s.size) ∧ K (.d (.v (.int .u8 (s.data.toList.getD k.toNat 0).toNat))) B
    | .agg cs => (match tarr P t with
      | some (len, e) => (match tsz P e with
        | some s => (0 ≤ k ∧ k < len) ∧ (match loadM P e cs (k.toNat * s) with | some m => K m B | none => False)
        | none => False)
      | none => False)
    | _ => False)
  | _ => False

def aFieldAddr (P : Program) (t : TypeId) (a : M) (f : Nat) (B : Bx) (K : K2) : Prop := match tfld P t f, a with
  | some k, .ptr p o => (Bx.get B p).isSome = true ∧ K (.ptr p (o + k)) B
  | some k, .eptr c o => K (.eptr c (o + k)) B
  | some k, .aptr p n i o => (cellsAt B (.aptr p n i o)).isSome = true ∧ K (.aptr p n i (o + k)) B
  | _, _ => False

def aIndexAddr (P : Program) (t : TypeId) (a i : M) (B : Bx) (K : K2) : Prop := match i with
  | .d (.v (.int _ k)) => (match a with
    | .d (.sl sz l) => (match telem P t with
      | some e => (match l[k.toNat]? with
        | some c => (0 ≤ k ∧ tsz P e = some sz) ∧ K (.eptr c 0) B
        | none => False)
      | none => False)
    | .hsl p n => (match telem P t, B.get p with
      | some e, some (.ar _ sz l _) => (l.length = n ∧ 0 ≤ k ∧ k < n ∧ tsz P e = some sz) ∧ K (.aptr p n k.toNat 0) B
      | _, _ => False)
    | .ptr p o => (match tarr P t with
      | some (len, e) => (match tsz P e with
        | some s => ((Bx.get B p).isSome = true ∧ 0 ≤ k ∧ k < len) ∧ K (.ptr p (o + k.toNat * s)) B
        | none => False)
      | none => False)
    | .eptr c o => (match tarr P t with
      | some (len, e) => (match tsz P e with
        | some s => (0 ≤ k ∧ k < len) ∧ K (.eptr c (o + k.toNat * s)) B
        | none => False)
      | none => False)
    | .aptr p n j o => (match tarr P t with
      | some (len, e) => (match tsz P e with
        | some s => ((cellsAt B (.aptr p n j o)).isSome = true ∧ 0 ≤ k ∧ k < len) ∧ K (.aptr p n j (o + k.toNat * s)) B
        | none => False)
      | none => False)
    | _ => False)
  | _ => False

def bnd (d : Int) : Option M → Option Int
  | none => some d
  | some (.d (.v (.int _ k))) => some k
  | _ => none

def aSlice (P : Program) (t : TypeId) (x : M) (lo hi mx : Option M) (B : Bx) (K : K2) : Prop := match x with
  | .d (.v (.string s)) => (match bnd 0 lo, bnd s.size hi, mx with
    | some a, some b, none => (isStr P t = true ∧ 0 ≤ a ∧ a ≤ b ∧ b ≤ s.size) ∧ K (.d (.v (.string (s.extract a.toNat b.toNat)))) B
    | _, _, _ => False)
  | .d (.v v) => (match (lo.map M.val?), (hi.map M.val?), mx with
    | none, none, none => kopt (pureSem P (Instr.sliceAt t v none none none)) B K
    | _, _, _ => False)
  | .d (.sl sz l) => (match telem P t, bnd 0 lo, bnd l.length hi, mx with
    | some e, some a, some b, none => (tsz P e = some sz ∧ 0 ≤ a ∧ a ≤ b ∧ b ≤ l.length) ∧ K (.d (.sl sz ((l.drop a.toNat).take (b - a).toNat))) B
    | _, _, _, _ => False)
  | .hsl p n => (match B.get p with
    | some (.ar _ sz l _) => (match unpure2 l, telem P t, bnd 0 lo, bnd l.length hi, mx with
      | some l', some e, some a, some b, none => (l.length = n ∧ tsz P e = some sz ∧ 0 ≤ a ∧ a ≤ b ∧ b ≤ l.length) ∧
          K (.d (.sl sz ((l'.drop a.toNat).take (b - a).toNat))) (B.set p (.ar true sz l))
      | _, _, _, _, _ => False)
    | _ => False)
  | _ => False

/-- Parts laid over cells: each at its place. -/
def fillM (place : Nat → Option (Nat × Nat)) (cells : List M) : List (Nat × M) → Option (List M)
  | [] => some cells
  | (i, m) :: rest => match place i, stores m with
    | some (off, size), some cs => if cs.length = size ∧ off + size ≤ cells.length then fillM place (splice cells off cs) rest else none
    | _, _ => none

def tplaces (P : Program) (t : TypeId) : Option (List (Nat × Nat)) := match P.underlying t with
  | some (.struct fs) => fs.toList.mapM fun f => (tsz P f.type).map fun s => (f.offset, s)
  | _ => none

def aBuild (P : Program) (t : TypeId) (parts : List (Nat × M)) (B : Bx) (K : K2) : Prop := match tzero P t with
  | some z => (match tplaces P t with
    | some pl => (match fillM (fun i => pl[i]?) (z.cells.toList.map fun x => .d (.v x)) parts with
      | some cs => K (.agg cs) B
      | none => False)
    | none => (match tarr P t with
      | some (_, e) => (match tsz P e with
        | some s => (match fillM (fun i => some (i * s, s)) (z.cells.toList.map fun x => .d (.v x)) parts with
          | some cs => K (.agg cs) B
          | none => False)
        | none => False)
      | none => False))
  | none => False

def chunks (sz : Nat) (cells : List M) : Nat → List (List M)
  | 0 => []
  | k + 1 => cells.take sz :: chunks sz (cells.drop sz) k

def zcells (z : Value) (n : Nat) : List M := (List.replicate n (z.cells.toList.map fun x => M.d (.v x))).flatten

/-- Handles among the parts become values. -/
def frzP (P : Program) (t : TypeId) : Bx → List (Nat × M) → List (Nat × M) × Bx
  | B, [] => ([], B)
  | B, (i, m) :: r => ((i, (frzT P B t m).1) :: (frzP P t (frzT P B t m).2 r).1, (frzP P t (frzT P B t m).2 r).2)

def aBuildSlice (P : Program) (t : TypeId) (len : Nat) (parts : List (Nat × M)) (B : Bx) (id : Nat) (K : K2) : Prop := match telem P t with
  | some e => (match tsz P e, tzero P e with
    | some s, some z => (match fillM (fun i => some (i * s, s)) (zcells z len) (frzP P e B parts).1 with
      | some cs => (len * s ≤ 16777216 ∧ z.cells.size = s ∧ 0 < s ∧ cs.all M.one = true) ∧ K (.hsl id len) ((id, .ar false s (chunks s cs len)) :: (frzP P e B parts).2)
      | none => False)
    | _, _ => False)
  | none => False

def aMakeSlice (P : Program) (t : TypeId) (l c : M) (B : Bx) (id : Nat) (K : K2) : Prop := match l, c, telem P t with
  | .d (.v (.int _ a)), .d (.v (.int _ b)), some e => (match tsz P e, tby P e, tzero P e with
    | some s, some by', some z => (0 ≤ a ∧ a ≤ b ∧ b * by' ≤ 1099511627776 ∧ b ≤ 1099511627776 ∧ z.cells.size = s ∧ 0 < s ∧ z.cells.all (·.oneCell') = true) ∧
        K (.hsl id a.toNat) ((id, .ar false s (List.replicate a.toNat (z.cells.toList.map fun x => .d (.v x)))) :: B)
    | _, _, _ => False)
  | _, _, _ => False

/-- What is appended, as elements of sz cells. -/
def appL (B : Bx) (sz : Nat) : M → Option (List (List M))
  | .d (.sl s l) => if s = sz then some (pure2 l) else none
  | .d (.v (.slice none 0 0)) => some []
  | .d (.v (.string s)) => if sz = 1 then some (pure2 (s.data.toList.map byteD)) else none
  | .hsl p n => match B.get p with
    | some (.ar _ s l _) => if s = sz ∧ l.length = n then some l else none
    | _ => none
  | _ => none

def aAppend (P : Program) (ts : List TypeId) (x y : M) (B : Bx) (id : Nat) (K : K2) : Prop := match ts with
  | [t, u] => (match telem P t with
    | some e => (match tsz P e, tby P e, tzero P e with
      | some sz, some by', some z => (match appL B sz y with
        | some l2 => (0 < by' ∧ 0 < sz ∧ z.cells.size = sz ∧ ((telem P u).isSome || isStr P u) = true) ∧ (match x with
          | .hsl p k => (match B.get p with
            | some (.ar fz s l tg) => (s = sz ∧ l.length = k ∧ (k + l2.length) * by' ≤ 140737488355328 ∧ (tg = 0 ∨ tg = e)) ∧ K (.hsl p (k + l2.length)) (B.set p (.ar fz sz (l ++ l2) tg))
            | _ => False)
          | .d (.v (.slice none 0 0)) => l2.length * by' ≤ 140737488355328 ∧ K (.hsl id l2.length) ((id, .ar false sz l2) :: B)
          | _ => False)
        | none => False)
      | _, _, _ => False)
    | none => False)
  | _ => False

def aLen (P : Program) (ts : List TypeId) (x : M) (B : Bx) (K : K2) : Prop := match ts with
  | [t] => (match x with
    | .d (.sl _ l) => (telem P t).isSome = true ∧ K (.d (.v (.int .i64 l.length))) B
    | .hsl p n => (telem P t).isSome = true ∧ (match B.get p with
      | some (.ar _ _ l _) => l.length = n ∧ K (.d (.v (.int .i64 n))) B
      | _ => False)
    | .d (.v (.string s)) => isStr P t = true ∧ K (.d (.v (.int .i64 s.size))) B
    | .d (.v (.slice none 0 0)) => (telem P t).isSome = true ∧ K (.d (.v (.int .i64 0))) B
    | _ => False)
  | _ => False

def aMin (x y : M) (B : Bx) (K : K2) : Prop := match x, y with
  | .d (.v (.int k a)), .d (.v (.int _ b)) => K (.d (.v (.int k (if b < a then b else a)))) B
  | _, _ => False

def aMax (x y : M) (B : Bx) (K : K2) : Prop := match x, y with
  | .d (.v (.int k a)), .d (.v (.int _ b)) => K (.d (.v (.int k (if b > a then b else a)))) B
  | _, _ => False

def cpL : M → Option (List (List D))
  | .d (.sl s l) => if s = 1 then some l else none
  | .d (.v (.slice none 0 0)) => some []
  | _ => none

def aCopy (P : Program) (ts : List TypeId) (x y : M) (B : Bx) (K : K2) : Prop := match ts, x with
  | [t, _], .hsl p n => (match telem P t, B.get p, cpL y with
    | some e, some (.ar false sz l _), some ys => (tsz P e = some 1 ∧ sz = 1 ∧ l.length = n) ∧
        K (.d (.v (.int .i64 (min n ys.length : Nat)))) (B.set p (.ar false sz ((pure2 ys).take n ++ l.drop ys.length)))
    | _, _, _ => False)
  | _, _ => False

def aBuiltin (P : Program) (b : Builtin) (ts : List TypeId) (args : List M) (B : Bx) (id : Nat) (K : K2) : Prop := match b, args with
  | .len, [x] => aLen P ts x B K
  | .min, [x, y] => aMin x y B K
  | .max, [x, y] => aMax x y B K
  | .append, [x, y] => aAppend P ts x y B id K
  | .copy, [x, y] => aCopy P ts x y B K
  | _, _ => False

/-- An operation that calls no function. -/
def aop (P : Program) (ρ : Operand → M) (B : Bx) (id : Nat) : Op → K2 → Prop
  | .move x, K | .assign x, K => K (ρ x) B
  | .pick c a b, K => aPick (ρ c) (ρ a) (ρ b) B K
  | .alloc t, K => aAlloc P t B id K
  | .box _ x, K => aBox (ρ x) B id K
  | .build t parts, K => aBuild P t (parts.toList.map fun (i, x) => (i, ρ x)) B K
  | .buildSlice t len parts, K => aBuildSlice P t len (parts.toList.map fun (i, x) => (i, ρ x)) B id K
  | .load t a, K => aLoad P t (ρ a) B K
  | .store t a x, K => aStore P t (ρ a) (ρ x) B K
  | .nilCheck x, K => aNilCheck (ρ x) B K
  | .binOp op t x y _, K => aBin P op t x y (ρ x) (ρ y) B K
  | .unOp op _ x, K => aUn P op (ρ x) B K
  | .convert s t x, K => aConv P s t (ρ x) B id K
  | .makeFunc f first captured, K => K (.fn f (first.toList.map ρ) (captured.toList.map ρ)) B
  | .makeSlice t l c, K => aMakeSlice P t (ρ l) (ρ c) B id K
  | .slice t x lo hi mx, K => aSlice P t (ρ x) (lo.map ρ) (hi.map ρ) (mx.map ρ) B K
  | .fieldAddr s x f, K => aFieldAddr P s (ρ x) f B K
  | .field s x f, K => aField P s (ρ x) f B K
  | .indexAddr t x i, K => aIndexAddr P t (ρ x) (ρ i) B K
  | .index t x i, K => aIndex P t (ρ x) (ρ i) B K
  | .extract t i, K => aExtract (ρ t) i B K
  | .call { callee := .builtin b, args, argTypes }, K => aBuiltin P b argTypes.toList (args.toList.map ρ) B id K
  | _, _ => False

end Go.Abs

/- The abstract layer, part H: each operation does what 'aop' says: the ones without new memory. -/
namespace Go.Abs

def Good (Γ : G) (w : World) (id : Nat) (r : Result Next) (K : K2) : Prop :=
  ∃ cv w' Γ' m B', (r = .ok (.value cv) w' ∨ (r = .ok .skip w' ∧ cv = undef)) ∧ K m B' ∧ Ext Γ w Γ' w' ∧ WR w' Γ' B' ∧
    (∀ p, Γ'.used p → p = id ∨ Γ.used p) ∧ MR w' Γ' m cv

theorem Good.same {Γ : G} {w : World} {id : Nat} {r : Result Next} {K : K2} {B : Bx} {cv : Value} {m : M} (hw : WR w Γ B) (hr : r = .ok (.value cv) w) (hk : K m B)
    (hm : MR w Γ m cv) : Good Γ w id r K :=
  ⟨cv, w, Γ, m, B, .inl hr, hk, Ext.refl _ _, hw, fun _ h => .inr h, hm⟩

section
variable {P : Program} {w : World} {Γ : G} {B : Bx} {id : Nat} {K : K2}

theorem good_kopt {s : Sem Value} {r : Result Next} (hr : r = (s.run P w).andThen fun v w' => .ok (.value v) w') (hw : WR w Γ B) (h : kopt (pureSem P s) B K) : Good Γ w id r K := by
  unfold kopt at h
  split at h
  · rename_i v hv
    exact .same hw (by rw [hr, pureSem_run hv]; rfl) h (MR.ofV v)
  · exact h.elim

theorem mr_v {x v : Value} (h : MR w Γ (.d (.v x)) v) : v = x := h.val1 rfl

theorem good_pick {c a b : M} {cv av bv : Value} (hc : MR w Γ c cv) (ha : MR w Γ a av) (hb : MR w Γ b bv) (hw : WR w Γ B) (h : aPick c a b B K) :
    Good Γ w id ((do pure (.value (if ← asBool cv then av else bv)) : Sem Next).run P w) K := by
  unfold aPick at h
  split at h
  · rename_i t
    obtain rfl := mr_v hc
    split at h
    · rename_i x y
      obtain rfl := mr_v ha
      obtain rfl := mr_v hb
      refine .same hw (cv := .bool (bif t then x else y)) ?_ h (.d (.v _))
      cases t <;> simp [asBool]
    · cases t with
      | true => exact .same hw (cv := av) (by simp [asBool]) (h.1 rfl) ha
      | false => exact .same hw (cv := bv) (by simp [asBool]) (h.2 rfl) hb
  · exact h.elim

theorem good_load {t : TypeId} {a : M} {av : Value} (ha : MR w Γ a av) (hw : WR w Γ B) (h : aLoad P t a B K) :
    Good Γ w id ((do pure (.value (← Instr.loadAt t av)) : Sem Next).run P w) K := by
  unfold aLoad at h
  split at h
  · rename_i c o hc
    split at h
    · rename_i m hm
      obtain ⟨b, base, rfl, hl⟩ := cellsAt_lies hw ha hc
      obtain ⟨v, hv, hmr⟩ := run_load_t hl hm
      exact .same hw (by simp [hv]) h hmr
    · exact h.elim
  · exact h.elim

theorem good_nilCheck {a : M} {x : Operand} {η : Operand → Value} {o : Oper} (hop : o.op = .nilCheck x) (ha : MR w Γ a (η x)) (hw : WR w Γ B) (h : aNilCheck a B K) :
    Good Γ w id ((execOp η o).run P w) K := by
  unfold aNilCheck at h
  split at h
  · generalize hv : η x = v at ha
    cases ha with
    | fn h1 h2 h3 h4 =>
      refine .same hw ?_ h (.fn h1 h2 h3 h4)
      unfold execOp
      rw [hop]
      simp only [hv]
      rfl
  · split at h
    · rename_i y hc
      obtain ⟨c, o'⟩ := y
      obtain ⟨b, base, hv, hl⟩ := cellsAt_lies hw ha hc
      refine .same hw (cv := η x) ?_ h ha
      unfold execOp
      rw [hop]
      simp only [hv]
      rfl
    · exact h.elim

theorem isNilC_v {y : M} (h : isNilC y = true) : y = .d (.v (.slice none 0 0)) := by
  unfold isNilC at h; split at h
  · rfl
  · cases h
theorem isNilP_v {y : M} (h : isNilP y = true) : y = .d (.v (.pointer none)) := by
  unfold isNilP at h; split at h
  · rfl
  · cases h

theorem eqGuard_slice {op : BinOp} {t : TypeId} {x y : Operand} {a b : Option Addr} {i j k l : Nat} :
    (eqGuard op t x y (.slice a i j) (.slice b k l)).run P w = .ok () w := by
  cases op <;> rfl
theorem eqGuard_ptr {op : BinOp} {t : TypeId} {x y : Operand} {a b : Option Addr} :
    (eqGuard op t x y (.pointer a) (.pointer b)).run P w = .ok () w := by
  cases op <;> rfl

theorem good_bin {op : BinOp} {t : TypeId} {xo yo : Operand} {x y : M} {xv yv : Value} (hx : MR w Γ x xv) (hy : MR w Γ y yv) (hw : WR w Γ B) (h : aBin P op t xo yo x y B K) :
    Good Γ w id ((do pure (.value (← (do eqGuard op t xo yo xv yv; binOp op t xv yv))) : Sem Next).run P w) K := by
  unfold aBin at h
  split at h
  · rename_i a b ha hb
    rw [hx.val? ha, hy.val? hb]
    exact good_kopt (by rw [Sem.run_bind]; rfl) hw h
  · split at h
    · rename_i sz l _
      obtain ⟨⟨hn, ht⟩, h⟩ := h
      obtain rfl := isNilC_v hn
      obtain rfl := mr_v hy
      obtain ⟨e, he⟩ := Option.isSome_iff_exists.1 ht
      have hu := telem_some he
      have hd := hx.d_inv
      obtain ⟨oa, len, cap, rfl⟩ : ∃ oa len cap, xv = .slice oa len cap := by
        cases hd with
        | slNil => exact ⟨_, _, _, rfl⟩
        | slE => exact ⟨_, _, _, rfl⟩
        | sl => exact ⟨_, _, _, rfl⟩
      have hrun : ∀ d, (Op.equalIn (d + 1) t (.slice oa len cap) (.slice none 0 0)).run P w = .ok oa.isNone w := by
        intro d
        cases oa <;> simp [Op.equalIn, run_underlying hu]
      have hg := eqGuard_slice (P := P) (w := w) (op := op) (t := t) (x := xo) (y := yo) (a := oa) (b := none) (i := len) (j := cap) (k := 0) (l := 0)
      have hnil : oa = none → l = [] := by
        intro ho
        cases hd with
        | slNil => rfl
        | slE => rfl
        | sl => cases ho
      cases op <;> try exact h.elim
      all_goals
        cases ho : oa with
        | none =>
          subst ho
          refine .same hw ?_ (h.1 (hnil rfl)) (.d (.v _))
          simp [hg, binOp, Op.equal, Op.maxDepth, hrun 9999]
        | some a =>
          subst ho
          refine .same hw ?_ h.2 (.d (.v _))
          simp [hg, binOp, Op.equal, Op.maxDepth, hrun 9999]
    · rename_i p o _
      obtain ⟨⟨hn, ⟨e, hu⟩, hB⟩, h⟩ := h
      obtain rfl := isNilP_v hn
      obtain rfl := mr_v hy
      obtain ⟨bx, hbx⟩ := Option.isSome_iff_exists.1 hB
      obtain ⟨bi, hbi⟩ := (hw.dom p).1 ⟨bx, hbx⟩
      have : ∃ a, xv = .pointer (some a) := by
        cases hx with
        | ptr _ => exact ⟨_, rfl⟩
        | ptrDead h' _ _ => rw [hbi] at h'; cases h'
      obtain ⟨a, rfl⟩ := this
      have hrun : ∀ d, (Op.equalIn (d + 1) t (.pointer (some a)) (.pointer none)).run P w = .ok false w := by
        intro d
        simp [Op.equalIn, run_underlying hu]
      have hg := eqGuard_ptr (P := P) (w := w) (op := op) (t := t) (x := xo) (y := yo) (a := some a) (b := none)
      cases op <;> try exact h.elim
      all_goals
        refine .same hw ?_ h (.d (.v _))
        simp [hg, binOp, Op.equal, Op.maxDepth, hrun 9999]
    · exact h.elim

theorem good_un {op : UnOp} {x : M} {xv : Value} (hx : MR w Γ x xv) (hw : WR w Γ B) (h : aUn P op x B K) :
    Good Γ w id ((do pure (.value (← Op.unary op xv)) : Sem Next).run P w) K := by
  unfold aUn at h
  split at h
  · rename_i a ha
    rw [hx.val? ha]
    exact good_kopt (by simp) hw h
  · exact h.elim

theorem good_extract {m : M} {v : Value} {i : Nat} (hm : MR w Γ m v) (hw : WR w Γ B) (h : aExtract m i B K) :
    Good Γ w id ((do pure (.value (← Instr.extract v i)) : Sem Next).run P w) K := by
  unfold aExtract at h
  split at h
  · split at h
    · rename_i cs x hx
      cases hm with
      | @tup _ vs hs hh =>
        have hlt : i < vs.size := by have := (List.getElem?_eq_some_iff.1 hx).1; omega
        exact .same hw (cv := vs[i]) (by simp [Instr.extract, hlt]) h (hh i x _ hx (by simp [hlt]))
    · exact h.elim
  · exact h.elim

/-- The part of an aggregate. -/
theorem run_part {t : TypeId} {cs : List M} {vs : Array Value} {o : Nat} {m : M} (hs : vs.size = cs.length) (hh : ∀ (i : Nat) (x : M) (y : Value), cs[i]? = some x → vs[i]? = some y → MR w Γ x y)
    (h : loadM P t cs o = some m) : ∃ v, (part t vs o).run P w = .ok v w ∧ MR w Γ m v := by
  unfold loadM at h
  split at h
  · rename_i ha
    split at h
    · rename_i s hsz
      split at h
      · rename_i hle
        cases h
        refine ⟨.agg (vs.extract o (o + s)), by simp [part, run_isAgg_t ha, run_sizeOf_t hsz], .agg (by simp; omega) fun i x y hx hy => ?_⟩
        have hi : i < s := by
          have := (List.getElem?_eq_some_iff.1 hx).1
          simp at this; omega
        simp only [List.getElem?_take, if_pos hi, List.getElem?_drop] at hx
        rw [Array.getElem?_extract] at hy
        rw [if_pos (by omega)] at hy
        exact hh _ x y hx hy
      · cases h
    · cases h
  · rename_i ha
    have hlt : o < vs.size := by have := (List.getElem?_eq_some_iff.1 h).1; omega
    exact ⟨vs[o], by simp [part, run_isAgg_t ha, hlt], hh o m _ h (by simp [hlt])⟩
  · cases h

theorem tfldt_some {t : TypeId} {f o : Nat} {ft : TypeId} (h : tfldt P t f = some (o, ft)) :
    ∃ fs fd, P.underlying t = some (.struct fs) ∧ fs[f]? = some fd ∧ fd.offset = o ∧ fd.type = ft := by
  unfold tfldt at h
  split at h
  · rename_i fs hu
    simp only [Option.map_eq_some_iff, Prod.mk.injEq] at h
    obtain ⟨fd, h1, h2, h3⟩ := h
    exact ⟨fs, fd, hu, h1, h2, h3⟩
  · cases h

theorem good_field {t : TypeId} {m : M} {v : Value} {f : Nat} (hm : MR w Γ m v) (hw : WR w Γ B) (h : aField P t m f B K) :
    Good Γ w id ((do pure (.value (← Instr.field t v f)) : Sem Next).run P w) K := by
  unfold aField at h
  split at h
  · rename_i cs o ft hft
    split at h
    · rename_i m' hm'
      obtain ⟨fs, fd, hu, hf, rfl, rfl⟩ := tfldt_some hft
      cases hm with
      | agg hs hh =>
        obtain ⟨v, hv, hmr⟩ := run_part (P := P) hs hh hm'
        exact .same hw (by simp [Instr.field, run_underlying hu, hf, asAgg, hv]) h hmr
    · exact h.elim
  · exact h.elim

theorem isStr_some {t : TypeId} (h : isStr P t = true) : P.underlying t = some .string := by
  unfold isStr at h; split at h
  · assumption
  · cases h
theorem isU8_some {t : TypeId} (h : isU8 P t = true) : P.underlying t = some (.int .u8) := by
  unfold isU8 at h; split at h
  · assumption
  · cases h

theorem good_index {t : TypeId} {m i : M} {v iv : Value} (hm : MR w Γ m v) (hi : MR w Γ i iv) (hw : WR w Γ B) (h : aIndex P t m i B K) :
    Good Γ w id ((do pure (.value (← Instr.index t v iv)) : Sem Next).run P w) K := by
  unfold aIndex at h
  split at h
  · rename_i kk k
    obtain rfl := mr_v hi
    split at h
    · rename_i s
      obtain rfl := mr_v hm
      obtain ⟨⟨ht, h0, h1⟩, h⟩ := h
      have hlt : k.toNat < s.size := by omega
      have hlt' : k.toNat < s.data.toList.length := by simpa using hlt
      have hg : s[k.toNat]? = some (s.data.toList.getD k.toNat 0) := by
        rw [getElem?_pos s k.toNat hlt]
        simp only [List.getD, List.getElem?_eq_getElem hlt', Option.getD_some, Array.getElem_toList]
        rfl
      refine .same hw ?_ h (.d (.v _))
      simp [Instr.index, asIntOf, run_underlying (isStr_some ht), h0, hg]
    · rename_i cs
      split at h
      · rename_i len e ht
        split at h
        · rename_i s hs
          obtain ⟨⟨h0, h1⟩, h⟩ := h
          split at h
          · rename_i m' hm'
            cases hm with
            | agg hs' hh =>
              obtain ⟨v, hv, hmr⟩ := run_part (P := P) hs' hh hm'
              refine .same hw ?_ h hmr
              simp [Instr.index, asIntOf, run_underlying (tarr_some ht), h0, h1, run_sizeOf_t hs, hv]
          · exact h.elim
        · exact h.elim
      · exact h.elim
    · exact h.elim
  · exact h.elim

theorem tfld_some {t : TypeId} {f o : Nat} (h : tfld P t f = some o) :
    ∃ fs fd s, P.underlying t = some (.struct fs) ∧ fs[f]? = some fd ∧ fd.offset = o ∧ tsz P fd.type = some (s + 1) := by
  unfold tfld at h
  split at h
  · rename_i o' ft hft
    obtain ⟨fs, fd, hu, hf, rfl, rfl⟩ := tfldt_some hft
    split at h
    · rename_i s hs
      cases h
      exact ⟨fs, fd, s, hu, hf, rfl, hs⟩
    · cases h
  · cases h

theorem run_fieldAt {t : TypeId} {f k b o : Nat} (h : tfld P t f = some k) :
    (Instr.fieldAt t (.pointer (some ⟨b, o, none⟩)) f).run P w = .ok (.pointer (some ⟨b, o + k, none⟩)) w := by
  obtain ⟨fs, fd, s, hu, hf, rfl, hs⟩ := tfld_some h
  simp [Instr.fieldAt, run_underlying hu, hf, Instr.sureAddr, fieldPlace, run_sizeOf_t hs, add_addr]

theorem mr_ptr_live {p o : Nat} {v : Value} (hw : WR w Γ B) (hB : (Bx.get B p).isSome = true) (h : MR w Γ (.ptr p o) v) : ∃ b, Γ.box p = some (.st b) ∧ v = .pointer (some ⟨b, o, none⟩) := by
  obtain ⟨bx, hbx⟩ := Option.isSome_iff_exists.1 hB
  obtain ⟨bi, hbi⟩ := (hw.dom p).1 ⟨bx, hbx⟩
  cases h with
  | ptr h' => exact ⟨_, h', rfl⟩
  | ptrDead h' _ _ => rw [hbi] at h'; cases h'

theorem mr_aptr_live {p n i o : Nat} {v : Value} (hw : WR w Γ B) (hB : (cellsAt B (.aptr p n i o)).isSome = true) (h : MR w Γ (.aptr p n i o) v) :
    ∃ b off sz, Γ.box p = some (.ar b off sz n) ∧ v = .pointer (some ⟨b, off + i * sz + o, none⟩) := by
  obtain ⟨x, hx⟩ := Option.isSome_iff_exists.1 hB
  simp only [cellsAt] at hx
  cases hb : B.get p with
  | none => simp [hb] at hx
  | some bx =>
    rw [hb] at hx
    obtain ⟨bi, hbi⟩ := (hw.dom p).1 ⟨bx, hb⟩
    cases bx with
    | st _ => cases hx
    | ar fz sz' l tg =>
      simp only at hx
      split at hx
      · cases h with
        | aptr h' => exact ⟨_, _, _, h', rfl⟩
        | aptrStale h' hn _ =>
          have := hw.ok p _ _ hb h'
          have := this.2.1
          omega
        | aptrDead h' _ _ => rw [hbi] at h'; cases h'
      · cases hx

theorem good_fieldAddr {t : TypeId} {a : M} {av : Value} {f : Nat} (ha : MR w Γ a av) (hw : WR w Γ B) (h : aFieldAddr P t a f B K) :
    Good Γ w id ((do pure (.value (← Instr.fieldAt t av f)) : Sem Next).run P w) K := by
  unfold aFieldAddr at h
  split at h
  · rename_i k p o hf
    obtain ⟨b, hb, rfl⟩ := mr_ptr_live hw h.1 ha
    exact .same hw (by simp [run_fieldAt hf]) h.2 (.ptr hb)
  · rename_i k c o hf
    cases ha with
    | @eptr _ _ b base g hl hb hcell hrel =>
      exact .same hw (by simp [run_fieldAt hf]; rfl) h (by rw [Nat.add_assoc]; exact .eptr g hl hb hcell hrel)
  · rename_i k p n i o hf
    obtain ⟨b, off, sz, hb, rfl⟩ := mr_aptr_live hw h.1 ha
    exact .same hw (by simp [run_fieldAt hf]; rfl) h.2 (by rw [Nat.add_assoc]; exact .aptr hb)
  · exact h.elim

theorem run_indexAt_arr {t e : TypeId} {len s b o : Nat} {kk : IntKind} {k : Int} (ht : tarr P t = some (len, e)) (hs : tsz P e = some s) (h0 : 0 ≤ k) (h1 : k < len) :
    (Instr.indexAt t (.pointer (some ⟨b, o, none⟩)) (.int kk k)).run P w = .ok (.pointer (some ⟨b, o + k.toNat * s, none⟩)) w := by
  simp [Instr.indexAt, asIntOf, run_underlying (tarr_some ht), Instr.sureAddr, h0, h1, run_sizeOf_t hs, add_addr]

theorem run_indexAt_sl {t e : TypeId} {len cap s b o : Nat} {kk : IntKind} {k : Int} (ht : telem P t = some e) (hs : tsz P e = some s) (h0 : 0 ≤ k) (h1 : k < len) :
    (Instr.indexAt t (.slice (some ⟨b, o, none⟩) len cap) (.int kk k)).run P w = .ok (.pointer (some ⟨b, o + k.toNat * s, none⟩)) w := by
  simp [Instr.indexAt, asIntOf, run_underlying (telem_some ht), h0, h1, run_sizeOf_t hs, add_addr]

theorem mr_hsl_live {p n sz : Nat} {fz : Bool} {l : List (List M)} {v : Value} {tg : TypeId} (hw : WR w Γ B) (hB : B.get p = some (.ar fz sz l tg)) (hn : l.length = n) (h : MR w Γ (.hsl p n) v) :
    (Γ.box p = some .nl ∧ v = .slice none 0 0 ∧ n = 0) ∨ ∃ b off cap, Γ.box p = some (.ar b off sz n) ∧ v = .slice (some ⟨b, off, none⟩) n cap ∧ n ≤ cap := by
  cases h with
  | hslNil h' => exact .inl ⟨h', rfl, rfl⟩
  | @hsl _ _ b off s cap h' hc _ =>
    have := (hw.ok p _ _ hB h').1
    subst this
    exact .inr ⟨b, off, cap, h', rfl, hc⟩
  | hslStale h' hlt _ =>
    have := (hw.ok p _ _ hB h').2.1
    omega
  | hslDead h' _ _ =>
    obtain ⟨bi, hbi⟩ := (hw.dom p).1 ⟨_, hB⟩
    rw [h'] at hbi; cases hbi

theorem good_indexAddr {t : TypeId} {a i : M} {av iv : Value} (ha : MR w Γ a av) (hi : MR w Γ i iv) (hw : WR w Γ B) (h : aIndexAddr P t a i B K) :
    Good Γ w id ((do pure (.value (← Instr.indexAt t av iv)) : Sem Next).run P w) K := by
  unfold aIndexAddr at h
  split at h
  · rename_i kk k
    obtain rfl := mr_v hi
    split at h
    · rename_i sz l
      split at h
      · rename_i e he
        split at h
        · rename_i c hc
          obtain ⟨⟨h0, hs⟩, h⟩ := h
          have hlt : k.toNat < l.length := (List.getElem?_eq_some_iff.1 hc).1
          have hd := ha.d_inv
          cases hd with
          | slNil => simp at hc
          | slE => simp at hc
          | sl _ _ b off cap g hsz hcap hlim hb hcell hrel hone =>
            have hcz := hsz c (List.mem_of_getElem? hc)
            have hlim := hlim (by omega)
            have hb := hb (by omega)
            refine .same hw (by rw [Sem.run_bind, run_indexAt_sl he hs h0 (by omega)]; rfl) h ?_
            have := MR.eptr (w := w) (Γ := Γ) (c := c) (o := 0) (b := b) (base := off + k.toNat * sz) (g k.toNat) ?_ hb (fun j x hj => hcell _ j c x hc hj) (fun j x hj => hrel _ j c x hc hj)
            · simpa using this
            · have : (k.toNat + 1) * sz ≤ l.length * sz := Nat.mul_le_mul_right _ hlt
              rw [Nat.add_mul, Nat.one_mul] at this
              omega
        · exact h.elim
      · exact h.elim
    · rename_i p n
      split at h
      · rename_i e fz sz l he hB
        obtain ⟨⟨hl, h0, h1, hs⟩, h⟩ := h
        rcases mr_hsl_live hw hB hl ha with ⟨_, _, hn⟩ | ⟨b, off, cap, hb, rfl, hc⟩
        · omega
        · exact .same hw (by rw [Sem.run_bind, run_indexAt_sl he hs h0 (by omega)]; rfl) h (.aptr hb)
      · exact h.elim
    · rename_i p o
      split at h
      · rename_i len e ht
        split at h
        · rename_i s hs
          obtain ⟨⟨hB, h0, h1⟩, h⟩ := h
          obtain ⟨b, hb, rfl⟩ := mr_ptr_live hw hB ha
          exact .same hw (by rw [Sem.run_bind, run_indexAt_arr ht hs h0 h1]; rfl) h (.ptr hb)
        · exact h.elim
      · exact h.elim
    · rename_i c o
      split at h
      · rename_i len e ht
        split at h
        · rename_i s hs
          obtain ⟨⟨h0, h1⟩, h⟩ := h
          cases ha with
          | @eptr _ _ b base g hl hb hcell hrel =>
            exact .same hw (by rw [Sem.run_bind, run_indexAt_arr ht hs h0 h1]; rfl) h (by rw [Nat.add_assoc]; exact .eptr g hl hb hcell hrel)
        · exact h.elim
      · exact h.elim
    · rename_i p n j o
      split at h
      · rename_i len e ht
        split at h
        · rename_i s hs
          obtain ⟨⟨hB, h0, h1⟩, h⟩ := h
          obtain ⟨b, off, sz, hb, rfl⟩ := mr_aptr_live hw hB ha
          exact .same hw (by rw [Sem.run_bind, run_indexAt_arr ht hs h0 h1]; rfl) h (by rw [Nat.add_assoc]; exact .aptr hb)
        · exact h.elim
      · exact h.elim
    · exact h.elim
  · exact h.elim

end
end Go.Abs

/- The abstract layer, part I: the operations that store, and those that make memory. -/
namespace Go.Abs

section
variable {P : Program} {w : World} {Γ : G} {B : Bx} {id : Nat} {K : K2}

theorem Good.new {r : Result Next} {cv : Value} {w' : World} {Γ' : G} {m : M} {B' : Bx} (hr : r = .ok (.value cv) w') (hk : K m B') (he : Ext Γ w Γ' w') (hw : WR w' Γ' B')
    (hu : ∀ p, Γ'.used p → p = id ∨ Γ.used p) (hm : MR w' Γ' m cv) : Good Γ w id r K := ⟨cv, w', Γ', m, B', .inl hr, hk, he, hw, hu, hm⟩

theorem add_used {bi : BI} : ∀ p, (Γ.add id bi).used p → p = id ∨ Γ.used p := fun _ h => h

theorem mr1_v {x : Value} (h : x.oneCell' = true) : MR1 w Γ (.d (.v x)) x := ⟨.d (.v x), h⟩

theorem list_map_get {cs : Array Value} {j : Nat} {x : M} {y : Value} (h1 : (cs.toList.map fun x => M.d (.v x))[j]? = some x) (h2 : cs[j]? = some y) : x = .d (.v y) := by
  simp only [List.getElem?_map, Array.getElem?_toList, h2, Option.map_some, Option.some.injEq] at h1
  exact h1.symm

theorem all_get {cs : Array Value} (h : cs.all (·.oneCell') = true) {j : Nat} {y : Value} (hy : cs[j]? = some y) : y.oneCell' = true := by
  rw [Array.all_eq_true] at h
  obtain ⟨hlt, rfl⟩ := Array.getElem?_eq_some_iff.1 hy
  exact h j hlt

theorem good_alloc {t : TypeId} (hw : WR w Γ B) (hid : ¬ Γ.used id) (h : aAlloc P t B id K) :
    Good Γ w id ((do pure (.value (← Instr.alloc t true (.tuple #[]))) : Sem Next).run P w) K := by
  unfold aAlloc at h
  split at h
  · rename_i z hz
    obtain ⟨h1, h⟩ := h
    obtain ⟨e, hw', hm⟩ := hw.allocSt id hid z.cells t (z.cells.toList.map fun x => .d (.v x)) _ (btag_or P t) (by simp)
      (fun j x y hx hy => by rw [list_map_get hx hy]; exact mr1_v (all_get h1 hy))
    refine .new ?_ h e hw' add_used hm
    simp [Instr.alloc, run_zeroValue_t hz, newVar, newRow]
  · exact h.elim

theorem cells_one {v : Value} (h : v.oneCell' = true) : v.cells = #[v] := by
  cases v <;> first | rfl | cases h

theorem all_one {cs : List M} {vs : Array Value} (hh : ∀ (i : Nat) (x : M) (y : Value), cs[i]? = some x → vs[i]? = some y → MR w Γ x y) (h : cs.all M.one = true) :
    ∀ (i : Nat) (x : M) (y : Value), cs[i]? = some x → vs[i]? = some y → MR1 w Γ x y := fun i x y hx hy => by
  have := hh i x y hx hy
  simp only [List.all_eq_true] at h
  exact ⟨this, this.one (h x (List.mem_of_getElem? hx))⟩

theorem good_box {t : TypeId} {m : M} {v : Value} (hm : MR w Γ m v) (hw : WR w Γ B) (hid : ¬ Γ.used id) (h : aBox m B id K) :
    Good Γ w id ((do pure (.value (← Instr.box t v)) : Sem Next).run P w) K := by
  unfold aBox at h
  split at h
  · rename_i cs
    obtain ⟨h1, h⟩ := h
    cases hm with
    | @agg _ vs hs hh =>
      obtain ⟨e, hw', hm'⟩ := hw.allocSt id hid vs t cs 0 (.inl rfl) hs (all_one hh h1)
      refine .new ?_ h e hw' add_used hm'
      simp [Instr.box, newVar, newRow, Value.cells]
  · obtain ⟨ho, h⟩ := h
    have hv := hm.one ho
    obtain ⟨e, hw', hm'⟩ := hw.allocSt id hid #[v] t [m] 0 (.inl rfl) rfl (fun j x y hx hy => by
      cases j with
      | zero => simp at hx hy; subst hx; subst hy; exact ⟨hm, hv⟩
      | succ j => simp at hx)
    refine .new ?_ h e hw' add_used hm'
    simp [Instr.box, newVar, newRow, cells_one hv]

/-- A box with new contents: only its own block has changed, if any. -/
theorem WR.put {w w' : World} {Γ : G} {B : Bx} (h : WR w Γ B) {p b : Nat} {bx bx' : Box} {bi : BI} (hB : B.get p = some bx) (hp : Γ.box p = some bi) (hb : bi.blk = some b)
    (e : Ext Γ w Γ w') (hs : w'.heap.size = w.heap.size) (ho : ∀ k, k ≠ b → w'.heap[k]? = w.heap[k]?) (hok : BoxOK w' Γ bx' bi) : WR w' Γ (B.set p bx') := by
  refine ⟨fun q => ?_, fun q bx2 bi2 g1 g2 => ?_, h.inj, h.lt, fun k hk => by rw [hs]; exact h.blk k hk⟩
  · rw [Bx.get_set]
    by_cases hq : p = q
    · subst hq; simp [hB, hp]
    · simp [hq, h.dom q]
  · rw [Bx.get_set] at g1
    by_cases hq : p = q
    · subst hq
      rw [hp] at g2; cases g2
      simp [hB] at g1
      subst g1
      exact hok
    · rw [if_neg hq] at g1
      refine (h.ok q bx2 bi2 g1 g2).keep e h.lt fun k hk => ⟨ho k (fun ee => ?_), rfl⟩
      subst ee
      exact hq (h.inj p q _ _ _ hp g2 hb hk)

theorem splice_length {c cs : List M} {o : Nat} (h : o + cs.length ≤ c.length) : (splice c o cs).length = c.length := by
  simp [splice]; omega

theorem splice_get {c cs : List M} {o j : Nat} (h : o + cs.length ≤ c.length) :
    (splice c o cs)[j]? = if j < o then c[j]? else if j < o + cs.length then cs[j - o]? else c[j]? := by
  unfold splice
  by_cases h1 : j < o
  · rw [if_pos h1, List.append_assoc, List.getElem?_append_left (by simp; omega), List.getElem?_take, if_pos h1]
  · rw [if_neg h1, List.append_assoc, List.getElem?_append_right (by simp; omega)]
    have e1 : j - (c.take o).length = j - o := by simp; omega
    rw [e1]
    by_cases h2 : j < o + cs.length
    · rw [if_pos h2, List.getElem?_append_left (by omega)]
    · rw [if_neg h2, List.getElem?_append_right (by omega), List.getElem?_drop]
      congr 1
      omega

theorem stores_some {x : M} {v : Value} {cs : List M} (hx : MR w Γ x v) (h : stores x = some cs) :
    v.cells.size = cs.length ∧ ∀ (j : Nat) (m : M) (y : Value), cs[j]? = some m → v.cells[j]? = some y → MR1 w Γ m y := by
  unfold stores at h
  split at h
  · split at h
    · cases h
      cases hx with
      | agg hs hh => exact ⟨hs, all_one hh (by assumption)⟩
    · cases h
  · split at h
    · rename_i ho
      cases h
      have hv := hx.one ho
      rw [cells_one hv]
      refine ⟨rfl, fun j m y h1 h2 => ?_⟩
      cases j with
      | zero => simp at h1 h2; subst h1; subst h2; exact ⟨hx, hv⟩
      | succ j => simp at h1
    · cases h

theorem run_storeAt {t : TypeId} {b o : Nat} {v : Value} (hs : tsz P t = some v.cells.size) (hc : ∀ j, j < v.cells.size → (w.cell? ⟨b, o + j, none⟩).isSome = true)
    (hf : ∀ j, j < v.cells.size → w.frozen? ⟨b, o + j, none⟩ = false) (h1 : ∀ y ∈ v.cells.toList, y.oneCell' = true) :
    (Instr.storeAt t (.pointer (some ⟨b, o, none⟩)) v).run P w = .ok () (w.setCells b o v.cells.toList) := by
  have := run_storeCells_cells (P := P) b o v.cells.toList 0 w (by simpa using hc) (by simpa using hf) h1
  simp [Instr.storeAt, Instr.sureAddr, storeVar, run_sizeOf_t hs, this]

theorem good_store {t : TypeId} {a x : M} {av xv : Value} (ha : MR w Γ a av) (hx : MR w Γ x xv) (hw : WR w Γ B) (h : aStore P t a x B K) :
    Good Γ w id ((do Instr.storeAt t av xv; pure .skip : Sem Next).run P w) K := by
  unfold aStore at h
  split at h
  · exact h.elim
  · rename_i cs hcs
    obtain ⟨hs, h⟩ := h
    obtain ⟨hsz, hmr⟩ := stores_some hx hcs
    rw [← hsz] at hs
    have hone : ∀ y ∈ xv.cells.toList, y.oneCell' = true := fun y hy => by
      obtain ⟨j, hj⟩ := List.mem_iff_getElem?.1 hy
      have hlt : j < cs.length := by
        have := (List.getElem?_eq_some_iff.1 hj).1
        rw [← hsz]; simpa using this
      exact (hmr j cs[j] y (by simp [hlt]) (by simpa using hj)).2
    split at h
    · rename_i p o
      split at h
      · rename_i c tg hB
        obtain ⟨hle, h⟩ := h
        obtain ⟨b, hb, rfl⟩ := mr_ptr_live hw (by rw [hB]; rfl) ha
        obtain ⟨⟨hl, htg⟩, cv, ty, fz, hbk, hsz2, hf, hc⟩ := hw.ok p _ _ hB hb
        have hrun := run_storeAt (P := P) (w := w) (b := b) (o := o) hs (fun j hj => by
            rw [World.cell?_of_heap hbk]
            have : o + j < cv.size := by omega
            simp [this]) (fun j hj => hf _ (by omega)) hone
        have e : Ext Γ w Γ (w.setCells b o xv.cells.toList) := Ext.setCells Γ b ⟨p, _, hb, rfl⟩ _ _ _ (by omega)
        obtain ⟨cv', g1, g2, g3, g4, g5⟩ := World.setCells_same b ty fz xv.cells.toList o w cv hbk (by simp; omega)
        refine ⟨undef, _, Γ, undefM, _, .inr ⟨by simp [hrun], rfl⟩, h, e, hw.put hB hb rfl e (World.setCells_size _ _ _ _) (fun k hk => World.setCells_other b k hk _ _ _) ?_, fun _ h => .inr h, .d (.v _)⟩
        refine ⟨⟨hl, htg.ext e⟩, cv', ty, fz, g1, by rw [g2, hsz2, splice_length hle], fun j hj => by rw [World.setCells_frozen]; exact hf j (by omega), fun j m y h1 h2 => ?_⟩
        rw [splice_get hle] at h1
        split at h1
        · rw [g3 j (by omega)] at h2
          exact (hc j m y h1 h2).ext e hw.lt
        · split at h1
          · have := g4 (j - o) (by simp; omega)
            rw [show o + (j - o) = j by omega] at this
            rw [this] at h2
            exact (hmr _ m y h1 (by simpa using h2)).ext e hw.lt
          · rw [g5 j (by simp; omega)] at h2
            exact (hc j m y h1 h2).ext e hw.lt
      · exact h.elim
    · rename_i p n i o
      split at h
      · rename_i fz sz l tg hB
        split at h
        · rename_i c hi
          obtain ⟨⟨hfz, hn, hle⟩, h⟩ := h
          subst hfz
          obtain ⟨b, off, sz', hb, rfl⟩ := mr_aptr_live hw (by simp [cellsAt, hB, hn, hi]) ha
          obtain ⟨hzz, hln, hall, hlim, hlim0, cv, ty, fr, hbk, hsz2, hf, hc⟩ := hw.ok p _ _ hB hb
          subst hzz
          have hl0 := hlim0.1 rfl
          have hil : i < l.length := (List.getElem?_eq_some_iff.1 hi).1
          have hcz := hall c (List.mem_of_getElem? hi)
          have hmul : (i + 1) * sz ≤ n * sz := Nat.mul_le_mul_right _ (by omega)
          rw [Nat.add_mul, Nat.one_mul] at hmul
          have hrun := run_storeAt (P := P) (w := w) (b := b) (o := off + i * sz + o) hs (fun j hj => by
              rw [World.cell?_of_heap hbk]
              have : off + i * sz + o + j < cv.size := by omega
              simp [this]) (fun j hj => hf _ (by omega)) hone
          have e : Ext Γ w Γ (w.setCells b (off + i * sz + o) xv.cells.toList) := Ext.setCells Γ b ⟨p, _, hb, rfl⟩ _ _ _ (by omega)
          obtain ⟨cv', g1, g2, g3, g4, g5⟩ := World.setCells_same b ty (fr.1, fr.1 + fr.2) xv.cells.toList (off + i * sz + o) w cv hbk (by simp; omega)
          refine ⟨undef, _, Γ, undefM, _, .inr ⟨by simp [hrun], rfl⟩, h, e, hw.put hB hb rfl e (World.setCells_size _ _ _ _) (fun k hk => World.setCells_other b k hk _ _ _) ?_, fun _ h => .inr h, .d (.v _)⟩
          refine ⟨rfl, by simp [hn], fun d hd => ?_, hlim, ⟨hlim0.1, .inl rfl⟩, cv', ty, fr, g1, by omega, fun j hj => by rw [World.setCells_frozen]; exact hf j (by omega), fun i' j c' m y hi' h1 h2 => ?_⟩
          · rcases List.mem_or_eq_of_mem_set hd with hd | rfl
            · exact hall d hd
            · rw [splice_length hle]; exact hcz
          · by_cases hii : i' = i
            · subst hii
              simp [hil] at hi'
              subst hi'
              rw [splice_get hle] at h1
              split at h1
              · rw [g3 _ (by omega)] at h2
                exact (hc _ j c m y hi h1 h2).ext e hw.lt
              · split at h1
                · have := g4 (j - o) (by simp; omega)
                  rw [show off + i' * sz + o + (j - o) = off + i' * sz + j by omega] at this
                  rw [this] at h2
                  exact (hmr _ m y h1 (by simpa using h2)).ext e hw.lt
                · rw [g5 _ (by simp; omega)] at h2
                  exact (hc _ j c m y hi h1 h2).ext e hw.lt
            · rw [List.getElem?_set_ne (fun e => hii e.symm)] at hi'
              have hj : j < sz := by
                have := (List.getElem?_eq_some_iff.1 h1).1
                have hz := hall c' (List.mem_of_getElem? hi')
                omega
              have hout : cv'[off + i' * sz + j]? = cv[off + i' * sz + j]? := by
                rcases Nat.lt_or_gt_of_ne hii with hlt | hlt
                · have : (i' + 1) * sz ≤ i * sz := Nat.mul_le_mul_right _ hlt
                  rw [Nat.add_mul, Nat.one_mul] at this
                  exact g3 _ (by omega)
                · have : (i + 1) * sz ≤ i' * sz := Nat.mul_le_mul_right _ hlt
                  rw [Nat.add_mul, Nat.one_mul] at this
                  exact g5 _ (by simp; omega)
              rw [hout] at h2
              exact (hc i' j c' m y hi' h1 h2).ext e hw.lt
        · exact h.elim
      · exact h.elim
    · exact h.elim

theorem good_makeFunc {f : Fn} {fs cs : List M} {fv cv : Array Value} (h1 : fv.size = fs.length) (h2 : cv.size = cs.length)
    (h3 : ∀ (i : Nat) (x : M) (y : Value), fs[i]? = some x → fv[i]? = some y → MR w Γ x y) (h4 : ∀ (i : Nat) (x : M) (y : Value), cs[i]? = some x → cv[i]? = some y → MR w Γ x y)
    (hw : WR w Γ B) (h : K (.fn f fs cs) B) :
    Good Γ w id ((do pure (.value (← Instr.makeFunc f fv cv)) : Sem Next).run P w) K :=
  .same hw (by simp [Instr.makeFunc]) h (.fn h1 h2 h3 h4)

theorem good_len {ts : List TypeId} {ty : TypeId} {x : M} {v : Value} (hx : MR w Γ x v) (hw : WR w Γ B) (h : aLen P ts x B K) :
    Good Γ w id ((do pure (.value (← Builtin.len_ ts.toArray ty #[v])) : Sem Next).run P w) K := by
  unfold aLen at h
  split at h
  · rename_i t
    split at h
    · rename_i sz l
      obtain ⟨ht, h⟩ := h
      obtain ⟨e, he⟩ := Option.isSome_iff_exists.1 ht
      have hu := telem_some he
      cases hx.d_inv with
      | slNil => exact .same hw (by simp [Builtin.len_, run_underlying hu, goInt]) h (.d (.v _))
      | slE => exact .same hw (by simp [Builtin.len_, run_underlying hu, goInt]) h (.d (.v _))
      | sl => exact .same hw (by simp [Builtin.len_, run_underlying hu, goInt]) h (.d (.v _))
    · rename_i p n
      obtain ⟨ht, h⟩ := h
      obtain ⟨e, he⟩ := Option.isSome_iff_exists.1 ht
      have hu := telem_some he
      split at h
      · rename_i fz sz l hB
        obtain ⟨hn, h⟩ := h
        rcases mr_hsl_live hw hB hn hx with ⟨_, rfl, rfl⟩ | ⟨b, off, cap, _, rfl, _⟩
        · exact .same hw (by simp [Builtin.len_, run_underlying hu, goInt]) h (.d (.v _))
        · exact .same hw (by simp [Builtin.len_, run_underlying hu, goInt]) h (.d (.v _))
      · exact h.elim
    · rename_i s
      obtain ⟨ht, h⟩ := h
      obtain rfl := mr_v hx
      exact .same hw (by simp [Builtin.len_, run_underlying (isStr_some ht), goInt]) h (.d (.v _))
    · obtain ⟨ht, h⟩ := h
      obtain ⟨e, he⟩ := Option.isSome_iff_exists.1 ht
      obtain rfl := mr_v hx
      exact .same hw (by simp [Builtin.len_, run_underlying (telem_some he), goInt]) h (.d (.v _))
    · exact h.elim
  · exact h.elim

theorem good_min {ts : Array TypeId} {ty : TypeId} {x y : M} {xv yv : Value} (hx : MR w Γ x xv) (hy : MR w Γ y yv) (hw : WR w Γ B) (h : aMin x y B K) :
    Good Γ w id ((do pure (.value (← Builtin.min_ ts ty #[xv, yv])) : Sem Next).run P w) K := by
  unfold aMin at h
  split at h
  · obtain rfl := mr_v hx
    obtain rfl := mr_v hy
    exact .same hw (by simp [Builtin.min_, Builtin.min2]) h (.d (.v _))
  · exact h.elim

theorem good_max {ts : Array TypeId} {ty : TypeId} {x y : M} {xv yv : Value} (hx : MR w Γ x xv) (hy : MR w Γ y yv) (hw : WR w Γ B) (h : aMax x y B K) :
    Good Γ w id ((do pure (.value (← Builtin.max_ ts ty #[xv, yv])) : Sem Next).run P w) K := by
  unfold aMax at h
  split at h
  · obtain rfl := mr_v hx
    obtain rfl := mr_v hy
    exact .same hw (by simp [Builtin.max_, Builtin.max2]) h (.d (.v _))
  · exact h.elim

end
end Go.Abs

/- The abstract layer, part J: conversions, slice expressions, literals, make, append. -/
namespace Go.Abs

section
variable {P : Program} {w : World} {Γ : G} {B : Bx} {id : Nat} {K : K2}

/-- The cells of a row, gathered. -/
theorem row_cells {b off sz : Nat} {l : List (List M)} (hsz : ∀ c, c ∈ l → c.length = sz)
    (h : ∀ (i j : Nat) (c : List M) (x : M), l[i]? = some c → c[j]? = some x → ∃ y, w.cell? ⟨b, off + i * sz + j, none⟩ = some y ∧ MR1 w Γ x y) :
    ∃ vs, Cells w Γ sz l vs ∧ ∀ j v, vs[j]? = some v → w.cell? ((⟨b, off, none⟩ : Addr).add j) = some v := by
  let vs := (List.range (l.length * sz)).map fun k => (w.cell? ⟨b, off + k, none⟩).getD undef
  have hin : ∀ k, k < l.length * sz → ∃ y, w.cell? ⟨b, off + k, none⟩ = some y := fun k hk => by
    have hpos : 0 < sz := by
      rcases Nat.eq_zero_or_pos sz with h0 | h0
      · subst h0; simp at hk
      · exact h0
    have hi : k / sz < l.length := Nat.div_lt_of_lt_mul (by rwa [Nat.mul_comm])
    have hj : k % sz < sz := Nat.mod_lt _ hpos
    have hc := hsz l[k / sz] (List.getElem_mem hi)
    obtain ⟨y, hy, _⟩ := h (k / sz) (k % sz) l[k / sz] (l[k / sz][k % sz]'(by omega)) (by simp [hi]) (by simp [hc, hj])
    refine ⟨y, ?_⟩
    rw [show off + k = off + k / sz * sz + k % sz by rw [Nat.add_assoc, Nat.div_add_mod' k sz]]
    exact hy
  refine ⟨vs, ⟨hsz, by simp [vs], fun i j c x y hi hj hy => ?_⟩, fun j v hj => ?_⟩
  · have hlt := idx_lt (β := Unit) hsz hi hj ()
    obtain ⟨z, hz, hm⟩ := h i j c x hi hj
    have : y = z := by
      simp only [vs, List.getElem?_map, List.getElem?_range hlt, Option.map_some, Option.some.injEq] at hy
      rw [← hy, ← Nat.add_assoc, hz]; rfl
    rw [this]; exact hm
  · have hlt : j < l.length * sz := by
      have := (List.getElem?_eq_some_iff.1 hj).1
      simpa [vs] using this
    obtain ⟨y, hy⟩ := hin j hlt
    simp only [vs, List.getElem?_map, List.getElem?_range hlt, Option.map_some, Option.some.injEq] at hj
    rw [add_addr, hy, ← hj, hy]; rfl

theorem dr_row {sz b off cap : Nat} {l : List (List D)} {len : Nat} (h : DR w Γ.lim (.sl sz l) (.slice (some ⟨b, off, none⟩) len cap)) :
    len = l.length ∧ (∀ c, c ∈ pure2 l → c.length = sz) ∧ ∀ (i j : Nat) (c : List M) (x : M), (pure2 l)[i]? = some c → c[j]? = some x →
      ∃ y, w.cell? ⟨b, off + i * sz + j, none⟩ = some y ∧ MR1 w Γ x y := by
  cases h with
  | slE => exact ⟨rfl, fun c hc => by simp [pure2] at hc, fun i j c x hi => by simp [pure2] at hi⟩
  | sl _ _ _ _ _ g hsz hcap hlim hb hcell hrel hone =>
    refine ⟨rfl, fun c hc => ?_, fun i j c x hi hj => ?_⟩
    · simp only [pure2, List.mem_map] at hc
      obtain ⟨d, hd, rfl⟩ := hc
      simpa using hsz d hd
    · rw [pure2_get, Option.map_eq_some_iff] at hi
      obtain ⟨d, hd, rfl⟩ := hi
      simp only [List.getElem?_map, Option.map_eq_some_iff] at hj
      obtain ⟨z, hz, rfl⟩ := hj
      exact ⟨g i j, hcell i j d z hd hz, .d (hrel i j d z hd hz), hone i j d z hd hz⟩

theorem box_row {p b off sz n : Nat} {fz : Bool} {l : List (List M)} {tg : TypeId} (hw : WR w Γ B) (hB : B.get p = some (.ar fz sz l tg)) (hp : Γ.box p = some (.ar b off sz n)) :
    (∀ c, c ∈ l → c.length = sz) ∧ ∀ (i j : Nat) (c : List M) (x : M), l[i]? = some c → c[j]? = some x →
      ∃ y, w.cell? ⟨b, off + i * sz + j, none⟩ = some y ∧ MR1 w Γ x y := by
  obtain ⟨_, h1, h2, _, _, cs, t, fr, hb, hs, _, hx⟩ := hw.ok p _ _ hB hp
  refine ⟨h2, fun i j c x hi hj => ?_⟩
  have := idx_lt (β := Unit) h2 hi hj ()
  rw [← h1] at this
  have hlt : off + i * sz + j < cs.size := by omega
  refine ⟨cs[off + i * sz + j], ?_, hx i j c x _ hi hj (by simp [hlt])⟩
  rw [World.cell?_of_heap hb]
  simp [hlt]

theorem cells_nil {sz : Nat} : Cells w Γ sz [] [] := ⟨fun c h => by simp at h, by simp, fun i j c x y h => by simp at h⟩

theorem byteD_cells (bs : List UInt8) : Cells w Γ 1 (pure2 (bs.map byteD)) (bs.map fun b => .int .u8 b.toNat) := by
  refine ⟨fun c hc => ?_, by simp [pure2], fun i j c x y hi hj hy => ?_⟩
  · simp only [pure2, List.map_map, List.mem_map] at hc
    obtain ⟨b, _, rfl⟩ := hc
    rfl
  · rw [pure2_get, List.getElem?_map] at hi
    cases hb : bs[i]? with
    | none => simp [hb] at hi
    | some b =>
      simp [hb, byteD] at hi
      subst hi
      cases j with
      | succ j => simp at hj
      | zero =>
        simp at hj
        subst hj
        simp only [Nat.mul_one, Nat.add_zero, List.getElem?_map, hb, Option.map_some, Option.some.injEq] at hy
        subst hy
        exact ⟨.d (.v _), rfl⟩

/-- What append reads of its second argument. -/
theorem appL_some {sz : Nat} {y : M} {yv : Value} {l2 : List (List M)} (hy : MR w Γ y yv) (hw : WR w Γ B) (h : appL B sz y = some l2) :
    ∃ news, Cells w Γ sz l2 news ∧ (∀ w', (Builtin.lenOf yv).run P w' = .ok l2.length w') ∧
      (∀ w', (∀ a v, w.cell? a = some v → w'.cell? a = some v) → (Builtin.firstCells sz l2.length yv).run P w' = .ok news.toArray w') := by
  have fromRow : ∀ {b off cap : Nat}, (∀ c, c ∈ l2 → c.length = sz) → (∀ (i j : Nat) (c : List M) (x : M), l2[i]? = some c → c[j]? = some x →
      ∃ y, w.cell? ⟨b, off + i * sz + j, none⟩ = some y ∧ MR1 w Γ x y) → yv = .slice (some ⟨b, off, none⟩) l2.length cap →
      ∃ news, Cells w Γ sz l2 news ∧ (∀ w', (Builtin.lenOf yv).run P w' = .ok l2.length w') ∧
      (∀ w', (∀ a v, w.cell? a = some v → w'.cell? a = some v) → (Builtin.firstCells sz l2.length yv).run P w' = .ok news.toArray w') := by
    intro b off cap h1 h2 hv
    subst hv
    obtain ⟨news, hc, hn⟩ := row_cells h1 h2
    refine ⟨news, hc, fun w' => rfl, fun w' hk => ?_⟩
    exact run_firstCells_some (P := P) w' sz l2.length ⟨b, off, none⟩ l2.length cap news hc.2.1 (fun j v hj => hk _ _ (hn j v hj))
  have fromNil : l2 = [] → (∃ c, yv = .slice none 0 c) →
      ∃ news, Cells w Γ sz l2 news ∧ (∀ w', (Builtin.lenOf yv).run P w' = .ok l2.length w') ∧
      (∀ w', (∀ a v, w.cell? a = some v → w'.cell? a = some v) → (Builtin.firstCells sz l2.length yv).run P w' = .ok news.toArray w') := by
    rintro rfl ⟨c, rfl⟩
    exact ⟨[], cells_nil, fun w' => rfl, fun w' _ => by simp [Builtin.firstCells]⟩
  unfold appL at h
  split at h
  · rename_i s l
    split at h
    · rename_i hs
      subst hs
      cases h
      have hd := hy.d_inv
      cases hd with
      | slNil => exact fromNil rfl ⟨_, rfl⟩
      | slE _ a cap => exact ⟨[], cells_nil, fun w' => rfl, fun w' _ => run_firstCells_some (P := P) w' s 0 a 0 cap [] (by simp) (fun j v hj => by simp at hj)⟩
      | sl _ _ b off cap g hsz hcap hlim hb hcell hrel hone =>
        have := dr_row (w := w) (Γ := Γ) (.sl s l b off cap g hsz hcap hlim hb hcell hrel hone)
        exact fromRow this.2.1 this.2.2 (by rw [pure2_length])
    · cases h
  · cases h
    obtain rfl := mr_v hy
    exact fromNil rfl ⟨_, rfl⟩
  · rename_i s
    split at h
    · rename_i hs
      subst hs
      cases h
      obtain rfl := mr_v hy
      refine ⟨_, byteD_cells s.data.toList, fun w' => ?_, fun w' _ => ?_⟩
      · simp [Builtin.lenOf, pure2]
      · have hlen : (pure2 (s.data.toList.map byteD)).length = s.size := by simp [pure2]
        rw [hlen]
        simp only [Builtin.firstCells, Sem.run_pure]
        congr 1
        apply Array.ext'
        simp
    · cases h
  · rename_i p n
    split at h
    · rename_i fz s l hB
      split at h
      · rename_i hs
        obtain ⟨rfl, hn⟩ := hs
        cases h
        rcases mr_hsl_live hw hB hn hy with ⟨_, rfl, rfl⟩ | ⟨b, off, cap, hb, rfl, _⟩
        · exact fromNil (List.length_eq_zero_iff.1 hn) ⟨_, rfl⟩
        · obtain ⟨h1, h2⟩ := box_row hw hB hb
          exact fromRow h1 h2 (by rw [hn])
      · cases h
    · cases h
  · cases h

theorem zero_size {e : TypeId} {sz by' : Nat} {z : Value} (h1 : tsz P e = some sz) (h2 : tby P e = some by') (h3 : tzero P e = some z) :
    ∃ i, P.info? e = some i ∧ i.size = sz ∧ i.bytes = by' ∧ i.zero = some z := by
  simp only [tsz, Option.map_eq_some_iff] at h1
  obtain ⟨i, hi, rfl⟩ := h1
  simp only [tby, hi, Option.map_some, Option.some.injEq] at h2
  simp only [tzero, hi, Option.bind_some] at h3
  exact ⟨i, hi, rfl, h2, h3⟩

theorem notInt {u : TypeId} (h : ((telem P u).isSome || isStr P u) = true) : (∃ e, P.underlying u = some (.slice e)) ∨ P.underlying u = some .string := by
  rcases Bool.or_eq_true_iff.1 h with h | h
  · obtain ⟨e, he⟩ := Option.isSome_iff_exists.1 h
    exact .inl ⟨_, telem_some he⟩
  · exact .inr (isStr_some h)

/-- append on a row that a box holds. -/
theorem good_append_box {t u e ty : TypeId} {p sz by' : Nat} {z : Value} {fz : Bool} {l l2 : List (List M)} {y : M} {xv yv : Value} {tg : TypeId} (hw : WR w Γ B) (ht : telem P t = some e) (htg : tg = 0 ∨ tg = e)
    (h1 : tsz P e = some sz) (h2 : tby P e = some by') (h3 : tzero P e = some z) (hby : 0 < by') (hz : z.cells.size = sz) (hu : ((telem P u).isSome || isStr P u) = true)
    (hB : B.get p = some (.ar fz sz l tg)) (hx : MR w Γ (.hsl p l.length) xv) (hy : MR w Γ y yv) (ha : appL B sz y = some l2) (hroom : (l.length + l2.length) * by' ≤ 140737488355328) :
    ∃ cv w' Γ', (Builtin.append_ #[t, u] ty #[xv, yv]).run P w = .ok cv w' ∧ Ext Γ w Γ' w' ∧ WR w' Γ' (B.set p (.ar fz sz (l ++ l2) tg)) ∧
      Γ'.used = Γ.used ∧ MR w' Γ' (.hsl p (l.length + l2.length)) cv := by
  obtain ⟨news, hc2, hlen, hfirst⟩ := appL_some (P := P) hy hw ha
  obtain ⟨i, hi, rfl, rfl, hzi⟩ := zero_size h1 h2 h3
  have hd := notInt hu
  have hut := telem_some ht
  have hm : (l.length + l2.length) ≤ 140737488355328 := by
    have : (l.length + l2.length) * 1 ≤ (l.length + l2.length) * i.bytes := Nat.mul_le_mul_left _ hby
    omega
  have hzs : ∀ c, (zeroValue e).run P c = .ok z c := fun c => run_zeroValue_t h3 c
  by_cases hne : l2 = []
  · subst hne
    have hsame : (Builtin.append_ #[t, u] ty #[xv, yv]).run P w = .ok xv w := by
      have hnews : news = [] := by
        have := hc2.2.1
        simpa using this
      subst hnews
      have hl := hlen w
      have hf := hfirst w (fun _ _ h => h)
      rcases mr_hsl_live hw hB rfl hx with ⟨_, rfl, hz0⟩ | ⟨b, off, cap, hb, rfl, hcap⟩
      · rcases hd with ⟨e', hd⟩ | hd <;> simp [Builtin.append_, run_underlying hut, run_underlying hd, sizeOf, typeInfo, hi, hl] at hf ⊢ <;> simp [hf]
      · have hcap' : l.length + 0 ≤ cap := by omega
        rcases hd with ⟨e', hd⟩ | hd <;> simp [Builtin.append_, run_underlying hut, run_underlying hd, sizeOf, typeInfo, hi, hl] at hf ⊢ <;> simp [hf, hcap, storeCells]
    refine ⟨xv, w, Γ, hsame, Ext.refl _ _, ?_, rfl, by simpa using hx⟩
    refine ⟨fun q => ?_, fun q bx bi g1 g2 => ?_, hw.inj, hw.lt, hw.blk⟩
    · rw [Bx.get_set]
      by_cases hq : p = q
      · subst hq
        have := hw.dom p
        rw [hB] at this
        simp only [if_pos, hB, Option.map_some]
        exact ⟨fun _ => this.1 ⟨_, rfl⟩, fun _ => ⟨_, rfl⟩⟩
      · rw [if_neg hq]; exact hw.dom q
    · rw [Bx.get_set] at g1
      by_cases hq : p = q
      · subst hq
        rw [if_pos rfl, hB] at g1
        simp at g1
        subst g1
        exact hw.ok p _ bi hB g2
      · rw [if_neg hq] at g1
        exact hw.ok q bx bi g1 g2
  · have hpos : 0 < l2.length := List.length_pos_iff.2 hne
    obtain ⟨bi, hbi⟩ := (hw.dom p).1 ⟨_, hB⟩
    -- the move to a new block: from whatever capacity
    have grown : ∀ (old : Nat) (olds : List Value), old < l.length + l2.length → Cells w Γ i.size l olds →
        ∃ Γ', Ext Γ w Γ' (w.drew.alloc (.cells (olds.toArray ++ news.toArray ++ Builtin.zeroCells z.cells (grownCap w (l.length + l2.length) old e - (l.length + l2.length))) e)) ∧
          WR (w.drew.alloc (.cells (olds.toArray ++ news.toArray ++ Builtin.zeroCells z.cells (grownCap w (l.length + l2.length) old e - (l.length + l2.length))) e)) Γ' (B.set p (.ar fz i.size (l ++ l2) tg)) ∧
          Γ'.used = Γ.used ∧ MR (w.drew.alloc (.cells (olds.toArray ++ news.toArray ++ Builtin.zeroCells z.cells (grownCap w (l.length + l2.length) old e - (l.length + l2.length))) e)) Γ'
            (.hsl p (l.length + l2.length)) (.slice (some ⟨w.heap.size, 0, none⟩) (l.length + l2.length) (grownCap w (l.length + l2.length) old e)) := by
      intro old olds ho hco
      have hge := grownCap_ge w (l.length + l2.length) old e
      have hsz : ∀ c, c ∈ l ++ l2 → c.length = i.size := fun c hc => by
        rcases List.mem_append.1 hc with hc | hc
        · exact hco.1 c hc
        · exact hc2.1 c hc
      obtain ⟨Γ', e1, e2, e3, e4⟩ := (WR.drew hw).moveAr (sz := i.size) (cap := grownCap w (l.length + l2.length) old e) (l' := l ++ l2)
        (olds.toArray ++ news.toArray ++ Builtin.zeroCells z.cells (grownCap w (l.length + l2.length) old e - (l.length + l2.length))) e htg hB hbi (by simp; omega) hsz (by simpa using hge)
        (by
          simp only [Array.size_append, List.size_toArray, size_zeroCells, hz, hco.2.1, hc2.2.1, ← Nat.add_mul]
          exact Nat.mul_le_mul_right _ (by omega))
        (fun a j c x y ha hj hy => by
          have hlt := idx_lt (β := Unit) hsz ha hj ()
          rw [List.length_append, Nat.add_mul] at hlt
          have ho1 := hco.2.1
          have ho2 := hc2.2.1
          by_cases hal : a < l.length
          · rw [List.getElem?_append_left hal] at ha
            have hlt2 := idx_lt (β := Unit) hco.1 ha hj ()
            rw [Array.getElem?_append_left (by simp; omega), Array.getElem?_append_left (by simp; omega)] at hy
            exact (hco.2.2 a j c x y ha hj (by simpa using hy)).ext (Ext.drew Γ w) hw.lt
          · rw [List.getElem?_append_right (by omega)] at ha
            have hlt2 := idx_lt (β := Unit) hc2.1 ha hj ()
            rw [Array.getElem?_append_left (by simp; omega), Array.getElem?_append_right (by simp; rw [ho1]; exact Nat.le_trans (Nat.mul_le_mul_right _ (by omega)) (Nat.le_add_right _ _))] at hy
            have e5 : a * i.size + j - olds.toArray.size = (a - l.length) * i.size + j := by
              simp only [List.size_toArray, ho1]
              have : a * i.size = l.length * i.size + (a - l.length) * i.size := by rw [← Nat.add_mul]; congr 1; omega
              omega
            rw [e5] at hy
            exact (hc2.2.2 _ j c x y ha hj (by simpa using hy)).ext (Ext.drew Γ w) hw.lt)
      refine ⟨Γ', (Ext.drew Γ w).trans e1, e2, e3, ?_⟩
      rw [List.length_append] at e4
      exact e4
    rcases mr_hsl_live hw hB rfl hx with ⟨_, rfl, hz0⟩ | ⟨b, off, cap, hb, rfl, hcap⟩
    · have hl0 : l = [] := List.length_eq_zero_iff.1 hz0
      subst hl0
      obtain ⟨Γ', g1, g2, g3, g4⟩ := grown 0 [] (by simpa using hpos) cells_nil
      refine ⟨_, _, Γ', ?_, g1, g2, g3, g4⟩
      have hf := hfirst w.drew (fun _ _ h => h)
      have hl := hlen w
      have n0 : l2.length ≠ 0 := by omega
      have hfit : ¬ (281474976710656 < Builtin.nextslicecap l2.length 0 * i.bytes) := by
        have := growslice_fits (need := l2.length) (old := 0) (bytes := i.bytes) hpos (by simpa using hroom)
        omega
      have h63 : ¬ (9223372036854775807 < (l2.length : Int)) := by simp at hm; omega
      have hbz : ¬ i.bytes = 0 := by omega
      rcases hd with ⟨e', hd⟩ | hd <;> simp [Builtin.append_, run_underlying hut, run_underlying hd, sizeOf, typeInfo, hi, hl, n0, hfit, h63, hbz, Question.forced, run_firstCells_none, zeroValue, hzi, hf, newRow, grownCap]
    · by_cases hr : l.length + l2.length ≤ cap
      · obtain ⟨Γ', g1, g2, g3, g4⟩ := hw.appendIn hB hb hx hc2 hr hne
        refine ⟨_, _, Γ', ?_, g1, g2, g3, g4⟩
        have hf := hfirst w (fun _ _ h => h)
        have hl := hlen w
        obtain ⟨_, _, hall, hlim, _, cs, ct, fr, hbk, hsz2, hfz, hcx⟩ := hw.ok p _ _ hB hb
        have hcap2 : off + cap * i.size ≤ cs.size := by
          generalize hn : l.length = n at hx hb
          cases hx with
          | hsl h' hc hs' =>
            rw [hb] at h'; cases h'
            obtain ⟨cs', e', fz', hb', hle⟩ := hs'
            rw [hbk] at hb'; cases hb'; exact hle
          | hslStale h' hn' => rw [hb] at h'; cases h'; omega
          | hslDead h' _ => rw [hb] at h'; cases h'
        have hmul : (l.length + l2.length) * i.size ≤ cap * i.size := Nat.mul_le_mul_right _ hr
        rw [Nat.add_mul] at hmul
        have hst := run_storeCells_cells (P := P) b (off + l.length * i.size) news 0 w (fun j hj => by
            have hn2 := hc2.2.1
            rw [World.cell?_of_heap hbk]
            have : off + l.length * i.size + 0 + j < cs.size := by omega
            simp only [Nat.add_zero] at this
            simp [this]) (fun j hj => hfz _ (by have hn2 := hc2.2.1; omega)) (fun v hv => by
            obtain ⟨j, hj⟩ := List.mem_iff_getElem?.1 hv
            have hn2 := hc2.2.1
            have hlt : j < l2.length * i.size := by rw [← hn2]; exact (List.getElem?_eq_some_iff.1 hj).1
            have hsp : 0 < i.size := by
              rcases Nat.eq_zero_or_pos i.size with h0 | h0
              · rw [h0] at hlt; simp at hlt
              · exact h0
            have hq : j / i.size < l2.length := Nat.div_lt_of_lt_mul (by rwa [Nat.mul_comm])
            have hc := hc2.1 l2[j / i.size] (List.getElem_mem hq)
            have hmod : j % i.size < i.size := Nat.mod_lt _ hsp
            exact (hc2.2.2 (j / i.size) (j % i.size) l2[j / i.size] (l2[j / i.size][j % i.size]'(by omega)) v (by simp [hq]) (by simp [hc, hmod]) (by rw [Nat.div_add_mod' j i.size]; exact hj)).2)
        simp only [Nat.add_zero] at hst
        rcases hd with ⟨e', hd⟩ | hd <;> simp [Builtin.append_, run_underlying hut, run_underlying hd, sizeOf, typeInfo, hi, hl, hr, hf, add_addr, hst]
      · obtain ⟨h1, h2⟩ := box_row hw hB hb
        obtain ⟨olds, hco, hold⟩ := row_cells h1 h2
        obtain ⟨Γ', g1, g2, g3, g4⟩ := grown cap olds (by omega) hco
        refine ⟨_, _, Γ', ?_, g1, g2, g3, g4⟩
        have hf := hfirst w.drew (fun _ _ h => h)
        have hl := hlen w
        have hfo := run_firstCells_some (P := P) w.drew i.size l.length ⟨b, off, none⟩ l.length cap olds hco.2.1 (fun j v hj => hold j v hj)
        have hfit : ¬ (281474976710656 < Builtin.nextslicecap (l.length + l2.length) cap * i.bytes) := by
          have := growslice_fits (need := l.length + l2.length) (old := cap) (bytes := i.bytes) (by omega) hroom
          omega
        have h63 : ¬ (9223372036854775807 < ((l.length : Int) + (l2.length : Int))) := by omega
        have hbz : ¬ i.bytes = 0 := by omega
        rcases hd with ⟨e', hd⟩ | hd <;> simp [Builtin.append_, run_underlying hut, run_underlying hd, sizeOf, typeInfo, hi, hl, hr, hfit, h63, hbz, Question.forced, zeroValue, hzi, hf, hfo, newRow, grownCap] <;>
          (congr 2; apply Array.ext'; simp [List.append_assoc])

end
end Go.Abs

import Derived.Test.YtmgfnlnomecbiaaDoorAbs2
set_option linter.all false
/- The abstract layer, part S: regions that draw their order. -/
namespace Go.Abs

/-! What is asked of the text of a region. -/

def dpre (o : Oper) : List Nat := (o.after.toList.filter fun e => Region.binds .any e).map (·.on)
def opAt (ops : Array Oper) (i : Nat) : Oper := ops.getD i default

/-- Of each of the first k operations: the ones that must come before it. -/
def preN (ops : Array Oper) : Nat → List (List Nat)
  | 0 => []
  | k + 1 => preN ops k ++ [((dpre (opAt ops k)).flatMap fun d => d :: (preN ops k).getD d []).eraseDups]

def preOf (pre : List (List Nat)) (j : Nat) : List Nat := pre.getD j []

def relev (x y : Op) : Bool := (kW x && kT y) || (kW y && kT x)

def edgesOK (ops : Array Oper) : Bool := (List.range ops.size).all fun i => (dpre (opAt ops i)).all fun d => decide (d < i)
def tmpsOK (ops : Array Oper) (pre : List (List Nat)) : Bool :=
  (List.range ops.size).all fun j => (List.range j).all fun i => (preOf pre j).contains i || Oper.apart ops (opAt ops i) (opAt ops j)
def needOf (ops : Array Oper) (pre : List (List Nat)) : List (Nat × Nat) :=
  (List.range ops.size).flatMap fun j => (List.range j).filterMap fun i => if (preOf pre j).contains i then none else if relev (opAt ops i).op (opAt ops j).op then some (i, j) else none

/-- The operation that is taken behind all the others, in sequence: told by a pair of the same two. -/
def tailOf : List (Nat × Nat) → Option Nat
  | [] => none
  | (a, b) :: l => if a = b then some a else tailOf l
def tailOK (ops : Array Oper) (pairs : List (Nat × Nat)) : Bool := match tailOf pairs with
  | none => true
  | some k => decide (k + 1 = ops.size) && ((opAt ops k).guard.isNone && (List.range k).all fun j => (preOf (preN ops ops.size) k).contains j)

def goodOps (ops : Array Oper) (pairs : List (Nat × Nat)) : Bool :=
  edgesOK ops && (tmpsOK ops (preN ops ops.size) && ((needOf ops (preN ops ops.size)).all (fun p => pairs.contains p) && tailOK ops pairs))

/-! The rule. -/

def astepD (P : Program) (env : Nat → M) (B : Bx) (n : Nat) (o : Op) (K : K2) : Prop := match o with
  | .call { callee := .value f, args, argTypes } => (match ev env f with
    | .fn (.func k) fs cs => (∃ m, PFn P k (fs ++ (frzA P B argTypes.toList (args.toList.map (ev env))).1 ++ cs) m ∧
        (fs ++ (frzA P B argTypes.toList (args.toList.map (ev env))).1 ++ cs).all M.p1 = true ∧ m.p2 = true ∧ K m (frzA P B argTypes.toList (args.toList.map (ev env))).2) ∨
      (∃ sz l r, OFn P k (fs ++ (frzA P B argTypes.toList (args.toList.map (ev env))).1 ++ cs) sz l r ∧
        (fs ++ (frzA P B argTypes.toList (args.toList.map (ev env))).1 ++ cs).all M.p1 = true ∧ oOK r = true ∧ K (oRes (.hsl n l.length) r) ((n, .ar false sz (pure2 l)) :: (frzA P B argTypes.toList (args.toList.map (ev env))).2))
    | _ => False)
  | o => aopD P (ev env) B n o K

abbrev Acc := List (List Nat × List Nat)

def aopsD (P : Program) (N : Nat) (ops : Array Oper) : List Oper → (Nat → M) → Bx → Nat → Acc → ((Nat → M) → Bx → Nat → Acc → Prop) → Prop
  | [], env, B, n, acc, Q => Q env B n acc
  | o :: l, env, B, n, acc, Q => match o.guard with
    | none => astepD P env B n o.op fun m B' => aput N env o.dst m fun env' => aopsD P N ops l env' B' (n + 1) (acc ++ [(touch (ev env) o.op, wrs (ev env) n o.op)]) Q
    | some (j, want) => match guardV ops env j with
      | .d (.v (.bool b)) =>
        (b = want → astepD P (gset ops env j want) B n o.op fun m B' => aput N (gset ops env j want) o.dst m fun env' => aopsD P N ops l env' B' (n + 1) (acc ++ [(touch (ev (gset ops env j want)) o.op, wrs (ev (gset ops env j want)) n o.op)]) Q) ∧
        ((b = !want) → aput N (gset ops env j (!want)) o.dst undefM fun env' => aopsD P N ops l env' B (n + 1) (acc ++ [([], [])]) Q)
      | m => m = undefM ∧ aput N env o.dst undefM fun env' => aopsD P N ops l env' B (n + 1) (acc ++ [([], [])]) Q

def noC (W T : List Nat) : Prop := ∀ p, p ∈ W → p ∉ T
def clashFree (acc : Acc) (pr : Nat × Nat) : Prop :=
  noC (acc.getD pr.1 ([], [])).2 (acc.getD pr.2 ([], [])).1 ∧ noC (acc.getD pr.2 ([], [])).2 (acc.getD pr.1 ([], [])).1
def clashes (acc : Acc) : List (Nat × Nat) → Prop
  | [] => True
  | pr :: l => clashFree acc pr ∧ clashes acc l

theorem clashes_mem {acc : Acc} : ∀ {l : List (Nat × Nat)} {pr : Nat × Nat}, clashes acc l → pr ∈ l → clashFree acc pr
  | x :: l, pr, h, hm => by
    rcases List.mem_cons.1 hm with rfl | hm
    · exact h.1
    · exact clashes_mem h.2 hm

abbrev Prs := List (Nat × List (Nat × Nat))
def Prs.get (prs : Prs) (id : Nat) : Option (List (Nat × Nat)) := (prs.find? fun x => x.1 == id).map (·.2)

def adraw (P : Program) (N : Nat) (prs : Prs) (id : Nat) (env : Nat → M) (B : Bx) (n : Nat) (ops : Array Oper) (Q : (Nat → M) → Bx → Nat → Prop) : Prop :=
  match prs.get id with
  | some pairs => (match tailOf pairs with
    | none => aopsD P N ops ops.toList env B n [] fun env' B' n' acc => clashes acc pairs ∧ Q env' B' n'
    | some k => aopsD P N ops (ops.toList.take k) env B n [] fun env' B' n' acc => clashes acc pairs ∧ aops P N ops (ops.toList.drop k) env' B' n' Q)
  | none => False

/-! Why it holds: whatever has been carried out so far, each slot and each box is as the last of its writers in the text has left it. -/

def updo (env : Nat → M) (dst : Option Tmp) (m : M) : Nat → M := match dst with | none => env | some t => upd env t m
abbrev BF := Nat → Option Box
def overF (U : Bx) (f : BF) : BF := fun q => match U.get q with | some x => some x | none => f q

theorem over_overF {U B : Bx} {f : BF} (h : ∀ q, B.get q = f q) (q : Nat) : over U B q = overF U f q := by
  unfold over overF
  cases U.get q with
  | none => exact h q
  | some _ => rfl

structure Sp where
  m : M
  T : List Nat
  W : List Nat
  U : Bx

def envS (ops : Array Oper) : Nat → (Nat → M) → List Sp → (Nat → Bool) → (Nat → M)
  | _, env, [], _ => env
  | k, env, s :: l, S => envS ops (k + 1) (if S k then updo env (opAt ops k).dst s.m else env) l S
def boxS : Nat → BF → List Sp → (Nat → Bool) → BF
  | _, f, [], _ => f
  | k, f, s :: l, S => boxS (k + 1) (if S k then overF s.U f else f) l S

theorem updo_other {env : Nat → M} {dst : Option Tmp} {m : M} {t : Nat} (h : dst ≠ some t) : updo env dst m t = env t := by
  cases dst with
  | none => rfl
  | some d => simp only [updo, upd]; rw [if_neg (fun e => h (by rw [e]))]
theorem updo_same {env : Nat → M} {m : M} {t : Nat} : updo env (some t) m t = m := by simp [updo, upd]

theorem envS_agree (ops : Array Oper) (t : Nat) : ∀ (l : List Sp) (k : Nat) (env env' : Nat → M) (S S' : Nat → Bool), env t = env' t →
    (∀ j, k ≤ j → j < k + l.length → (opAt ops j).dst = some t → S j = S' j) → envS ops k env l S t = envS ops k env' l S' t
  | [], k, env, env', S, S', h, _ => h
  | s :: l, k, env, env', S, S', h, hs => by
    simp only [envS]
    refine envS_agree ops t l (k + 1) _ _ S S' ?_ (fun j h1 h2 h3 => hs j (by omega) (by simp; omega) h3)
    by_cases hd : (opAt ops k).dst = some t
    · rw [hs k (Nat.le_refl _) (by simp) hd]
      cases S' k with
      | false => exact h
      | true => simp only [if_true, hd, updo_same]
    · have e1 : ∀ (b : Bool) (e : Nat → M), (if b = true then updo e (opAt ops k).dst s.m else e) t = e t := fun b e => by
        cases b with
        | false => rfl
        | true => simp only [if_true]; exact updo_other hd
      rw [e1, e1]; exact h

theorem boxS_agree (q : Nat) : ∀ (l : List Sp) (k : Nat) (f f' : BF) (S S' : Nat → Bool), f q = f' q →
    (∀ j s, l[j]? = some s → (∃ x, x ∈ s.U ∧ x.1 = q) → S (k + j) = S' (k + j)) → boxS k f l S q = boxS k f' l S' q
  | [], k, f, f', S, S', h, _ => h
  | s :: l, k, f, f', S, S', h, hs => by
    simp only [boxS]
    refine boxS_agree q l (k + 1) _ _ S S' ?_ (fun j s' h1 h2 => by
      have := hs (j + 1) s' (by simpa using h1) h2
      rwa [show k + (j + 1) = k + 1 + j by omega] at this)
    by_cases hd : ∃ x, x ∈ s.U ∧ x.1 = q
    · have := hs 0 s rfl hd
      rw [Nat.add_zero] at this
      rw [this]
      cases S' k with
      | false => exact h
      | true =>
        simp only [if_true, overF]
        cases s.U.get q with
        | none => exact h
        | some _ => rfl
    · have hg : s.U.get q = none := by
        unfold Bx.get
        cases hf : s.U.find? (fun x => x.1 == q) with
        | none => rfl
        | some x =>
          have h1 := List.mem_of_find?_eq_some hf
          have h2 := List.find?_some hf
          exact absurd ⟨x, h1, by simpa using h2⟩ hd
      have e1 : ∀ (b : Bool) (e : BF), (if b = true then overF s.U e else e) q = e q := fun b e => by
        cases b with
        | false => rfl
        | true => simp only [if_true, overF, hg]
      rw [e1, e1]; exact h

theorem envS_false (ops : Array Oper) : ∀ (l : List Sp) (k : Nat) (env : Nat → M) (S : Nat → Bool), (∀ j, k ≤ j → S j = false) → envS ops k env l S = env
  | [], _, _, _, _ => rfl
  | s :: l, k, env, S, h => by
    simp only [envS, h k (Nat.le_refl _)]
    exact envS_false ops l (k + 1) env S fun j hj => h j (by omega)
theorem boxS_false : ∀ (l : List Sp) (k : Nat) (f : BF) (S : Nat → Bool), (∀ j, k ≤ j → S j = false) → boxS k f l S = f
  | [], _, _, _, _ => rfl
  | s :: l, k, f, S, h => by
    simp only [boxS, h k (Nat.le_refl _)]
    exact boxS_false l (k + 1) f S fun j hj => h j (by omega)

def WRf (w : World) (Γ : G) (f : BF) : Prop := ∃ B : Bx, (∀ q, B.get q = f q) ∧ WR w Γ B

theorem WR.congr {w : World} {Γ : G} {B B' : Bx} (h : WR w Γ B) (e : ∀ q, B'.get q = B.get q) : WR w Γ B' :=
  ⟨fun p => by rw [e]; exact h.dom p, fun p bx bi h1 h2 => h.ok p bx bi (by rw [← e]; exact h1) h2, h.inj, h.lt, h.blk⟩

/-- The operation i, wherever the slots that it reads and the boxes that it looks at are as they were in the text. -/
def LocStep (P : Program) (N n0 : Nat) (ops : Array Oper) (i : Nat) (env : Nat → M) (f : BF) (s : Sp) : Prop :=
  (∀ x, x ∈ s.U → x.1 ∈ s.W) ∧ (kT (opAt ops i).op = false → s.T = []) ∧ (kW (opAt ops i).op = false → s.W = []) ∧ (s.W = [] ∨ s.W = (n0 + i) :: s.T) ∧
  ∀ (env' : Nat → M) (f' : BF), (∀ t, t ∈ (opAt ops i).looksAt ops → env' t = env t) → (∀ p, p ∈ s.T → f' p = f p) →
    ∀ (w : World) (Γ : G) (a : Act) (Q : Exit → Act → World → Prop) (K : Act → World → Prop), Base P Γ w → WRf w Γ f' → ER w Γ N env' a → ¬ Γ.used (n0 + i) →
      (∀ (w' : World) (Γ' : G) (a' : Act), Ext Γ w Γ' w' → WRf w' Γ' (overF s.U f') → (∀ p, Γ'.used p → p = n0 + i ∨ Γ.used p) →
        ER w' Γ' N (updo env' (opAt ops i).dst s.m) a' → K a' w') → wpOp P ops Q i K a w

section
variable {P : Program} {N : Nat} {ops : Array Oper}

theorem aput_updo {env : Nat → M} {dst : Option Tmp} {m : M} {K : (Nat → M) → Prop} (h : aput N env dst m K) : K (updo env dst m) ∧ ∀ t, dst = some t → t < N := by
  cases dst with
  | none => exact ⟨h, fun t ht => by cases ht⟩
  | some t => exact ⟨h.2, fun t' ht => by cases ht; exact h.1⟩

theorem ER.updo {w : World} {Γ : G} {env : Nat → M} {a : Act} (h : ER w Γ N env a) {dst : Option Tmp} (hd : ∀ t, dst = some t → t < N) {m : M} {v : Value} (hm : MR w Γ m v) :
    ER w Γ N (updo env dst m) (a.put dst v) := by
  cases dst with
  | none => exact h
  | some t => exact h.put (hd t rfl) hm

theorem looks_op {o : Oper} {t : Tmp} (h : .tmp t ∈ o.op.operands) : t ∈ o.looksAt ops := by
  unfold Oper.looksAt
  exact List.mem_append_left _ (List.mem_filterMap.2 ⟨.tmp t, by simpa using h, rfl⟩)

theorem ev_looks {env env' : Nat → M} {o : Oper} (h : ∀ t, t ∈ o.looksAt ops → env' t = env t) : ∀ x, x ∈ o.op.operands → ev env' x = ev env x := fun x hx => by
  cases x with
  | tmp t => exact h t (looks_op hx)
  | _ => rfl

theorem guard_looks {env env' : Nat → M} {o : Oper} {j : Nat} {want : Bool} (hg : o.guard = some (j, want)) (h : ∀ t, t ∈ o.looksAt ops → env' t = env t) : guardV ops env' j = guardV ops env j := by
  unfold guardV
  cases hb : (ops[j]?).bind (·.dst) with
  | none => rfl
  | some t =>
    refine h t ?_
    unfold Oper.looksAt
    rw [hg]
    exact List.mem_append_right _ (by simp [hb])

/-- A pure contract, used. -/
theorem PFn.use {f : FuncId} {args : List M} {m : M} (h : PFn P f args m) (ha : args.all M.p1 = true) (hm : m.p2 = true) {w : World} {Γ : G} {B : Bx} {vs : List Value}
    (hL : Laid P w) (hw : WR w Γ B) (hargs : Args w Γ args vs) : Calls P f vs.toArray w fun e w' => ∃ cv Γ', e = .returned cv ∧ Ext Γ w Γ' w' ∧ WR w' Γ' B ∧ Γ'.used = Γ.used ∧ MR w' Γ' m cv := by
  refine (h.2 Γ.lim w vs hL (Args.pure (Γ := Γ) (Γ' := pureG Γ.lim) rfl ha hargs)).mono fun e w' ⟨cv, lim', he, hext, hmr⟩ => ?_
  let Γ' : G := { Γ with lim := lim' }
  have hkeep : ∀ k, k < w.heap.size → w'.heap[k]? = w.heap[k]? ∧ lim' k = Γ.lim k := fun k hk => by
    obtain ⟨h1, h2⟩ := hext.keep k hk (fun ⟨p, bi, hb, _⟩ => by simp [pureG] at hb)
    exact ⟨h1, h2⟩
  have e2 : Ext Γ w Γ' w' :=
    { os := hext.os, tape := hext.tape, output := hext.output, size := hext.size, used := fun _ h => h
      keep := fun k hk _ => hkeep k hk
      cells := hext.cells
      lim := hext.lim
      shape := hext.shape
      box := fun _ _ => BI.to_refl _
      new := fun _ h => .inl h }
  refine ⟨cv, Γ', he, e2, ⟨hw.dom, fun p bx bi h1 h2 => (hw.ok p bx bi h1 h2).keep e2 hw.lt fun b hb => ?_, hw.inj, hw.lt, fun k hk => ?_⟩, rfl, MR.p2 (Γ := pureG lim') (Γ' := Γ') rfl hm hmr⟩
  · exact hkeep b (hw.blk b ⟨p, bi, h2, hb⟩)
  · exact Nat.lt_of_lt_of_le (hw.blk k hk) hext.size

theorem call_wp {f : Operand} {args : Array Operand} {ts : Array TypeId} {o : Oper} {w : World} {Γ : G} {B B2 : Bx} {env : Nat → M} {a : Act} {k : FuncId} {fs cs ar : List M} {m : M}
    {next : Act → World → Prop} {Q : Exit → Act → World → Prop}
    (ho : o.op = .call { callee := .value f, args := args, argTypes := ts }) (hL : Laid P w) (hw : WR w Γ B) (he : ER w Γ N env a) (hf : ev env f = .fn (.func k) fs cs)
    (hfr : frzA P B ts.toList (args.toList.map (ev env)) = (ar, B2)) (hp : PFn P k (fs ++ ar ++ cs) m) (ha : (fs ++ ar ++ cs).all M.p1 = true) (hm : m.p2 = true)
    (hnext : ∀ (cv : Value) (w' : World) (Γ' : G), Ext Γ w Γ' w' → WR w' Γ' B2 → Γ'.used = Γ.used → MR w' Γ' m cv → next (a.put o.dst cv) w') : o.wp P a w next Q := by
  have hfv := ev_ok he f
  rw [hf] at hfv
  generalize hv : a.eval f = v at hfv
  cases hfv with
  | @fn _ _ _ fv cv h1 h2 h3 h4 =>
    have hargs : Args w Γ (args.toList.map (ev env)) (args.map a.eval).toList :=
      ⟨by simp, fun i x y hx hy => map_get (ev_ok he) args i x y hx (by simpa using hy)⟩
    have hfs : Args w Γ fs fv.toList := ⟨by simpa using h1, fun i x y hx hy => h3 i x y hx (by simpa using hy)⟩
    have hcs : Args w Γ cs cv.toList := ⟨by simpa using h2, fun i x y hx hy => h4 i x y hx (by simpa using hy)⟩
    obtain ⟨Γ1, e1, w1, u1, a1⟩ := frzA_ok (P := P) (ts := ts.toList) hw hargs
    rw [hfr] at w1 a1
    have hvs : (fv.toList ++ (args.map a.eval).toList ++ cv.toList).toArray = fv ++ args.map a.eval ++ cv := by
      apply Array.ext'
      simp
    have hcall := hp.use ha hm hL w1 (((hfs.ext e1 hw.lt).append a1).append (hcs.ext e1 hw.lt))
    rw [hvs] at hcall
    obtain ⟨fn, hfn, hbody, hname⟩ := hp.1
    have hrun := call_exec (P := P) (w := w) (η := a.eval) ho hv hfn hbody hname
    unfold Oper.wp
    rw [hrun, Oper.upon_enter]
    exact hcall.mono fun e w' ⟨cv, Γ', he, hx, hw', hu, hm'⟩ => by
      subst he
      exact hnext cv w' Γ' (e1.trans hx) hw' (hu.trans u1) hm'

theorem call_wpO {f : Operand} {args : Array Operand} {ts : Array TypeId} {o : Oper} {w : World} {Γ : G} {B B2 : Bx} {env : Nat → M} {a : Act} {k : FuncId} {fs cs ar : List M} {sz n : Nat} {l : List (List D)} {r : Option (List M)}
    {next : Act → World → Prop} {Q : Exit → Act → World → Prop}
    (ho : o.op = .call { callee := .value f, args := args, argTypes := ts }) (hL : Laid P w) (hw : WR w Γ B) (he : ER w Γ N env a) (hf : ev env f = .fn (.func k) fs cs)
    (hfr : frzA P B ts.toList (args.toList.map (ev env)) = (ar, B2)) (hp : OFn P k (fs ++ ar ++ cs) sz l r) (ha : (fs ++ ar ++ cs).all M.p1 = true) (hr : oOK r = true) (hn : ¬ Γ.used n)
    (hnext : ∀ (cv : Value) (w' : World) (Γ' : G), Ext Γ w Γ' w' → WR w' Γ' ((n, .ar false sz (pure2 l)) :: B2) → (∀ p, Γ'.used p → p = n ∨ Γ.used p) → MR w' Γ' (oRes (.hsl n l.length) r) cv → next (a.put o.dst cv) w') : o.wp P a w next Q := by
  have hfv := ev_ok he f
  rw [hf] at hfv
  generalize hv : a.eval f = v at hfv
  cases hfv with
  | @fn _ _ _ fv cv h1 h2 h3 h4 =>
    have hargs : Args w Γ (args.toList.map (ev env)) (args.map a.eval).toList :=
      ⟨by simp, fun i x y hx hy => map_get (ev_ok he) args i x y hx (by simpa using hy)⟩
    have hfs : Args w Γ fs fv.toList := ⟨by simpa using h1, fun i x y hx hy => h3 i x y hx (by simpa using hy)⟩
    have hcs : Args w Γ cs cv.toList := ⟨by simpa using h2, fun i x y hx hy => h4 i x y hx (by simpa using hy)⟩
    obtain ⟨Γ1, e1, w1, u1, a1⟩ := frzA_ok (P := P) (ts := ts.toList) hw hargs
    rw [hfr] at w1 a1
    have hvs : (fv.toList ++ (args.map a.eval).toList ++ cv.toList).toArray = fv ++ args.map a.eval ++ cv := by
      apply Array.ext'
      simp
    have hcall := hp.use ha hr hL w1 (n := n) (by rw [u1]; exact hn) (((hfs.ext e1 hw.lt).append a1).append (hcs.ext e1 hw.lt))
    rw [hvs] at hcall
    obtain ⟨fn, hfn, hbody, hname⟩ := hp.1
    have hrun := call_exec (P := P) (w := w) (η := a.eval) ho hv hfn hbody hname
    unfold Oper.wp
    rw [hrun, Oper.upon_enter]
    exact hcall.mono fun e w' ⟨cv, Γ', he, hx, hw', hu, hm'⟩ => by
      subst he
      exact hnext cv w' Γ' (e1.trans hx) hw' (fun p hp => by rw [u1] at hu; exact hu p hp) hm'

theorem wpOp_run {i : Nat} {o : Oper} {a : Act} {w : World} {K : Act → World → Prop} {Q : Exit → Act → World → Prop} (hi : ops[i]? = some o) (hg : Region.wanted o (yielded ops a.tmps) = true)
    (h : o.wp P a w K Q) : wpOp P ops Q i K a w := by
  unfold wpOp
  simp only [hi, hg, if_true]
  exact .inl h
theorem wpOp_skip {i : Nat} {o : Oper} {a : Act} {w : World} {K : Act → World → Prop} {Q : Exit → Act → World → Prop} (hi : ops[i]? = some o) (hg : Region.wanted o (yielded ops a.tmps) = false)
    (h : K (a.put o.dst undef) w) : wpOp P ops Q i K a w := by
  unfold wpOp
  simp only [hi, hg, Bool.false_eq_true, if_false]
  exact h

/-- Carried out as its guard asks. -/
def Runs (ops : Array Oper) (env : Nat → M) (o : Oper) : Prop :=
  o.guard = none ∨ ∃ j want, o.guard = some (j, want) ∧ guardV ops env j = .d (.v (.bool want))

theorem runs_wanted {env env' : Nat → M} {o : Oper} {w : World} {Γ : G} {a : Act} (h : Runs ops env o) (hl : ∀ t, t ∈ o.looksAt ops → env' t = env t) (he : ER w Γ N env' a) :
    Region.wanted o (yielded ops a.tmps) = true := by
  rcases h with hg | ⟨j, want, hg, hv⟩
  · exact wanted_none hg
  · rw [wanted_some hg]
    rw [← guard_looks hg hl] at hv
    rw [guardV_ok he hv]; simp

theorem astepD_loc {n0 i : Nat} {env : Nat → M} {B : Bx} {o : Oper} {K : K2} (hi : ops[i]? = some o) (hg : Runs ops env o) (h : astepD P env B (n0 + i) o.op K) :
    ∃ m B1 U, K m B1 ∧ (∀ q, B1.get q = overF U B.get q) ∧
      ((∀ t, o.dst = some t → t < N) → LocStep P N n0 ops i env B.get ⟨m, touch (ev env) o.op, wrs (ev env) (n0 + i) o.op, U⟩) := by
  have hoi : opAt ops i = o := by unfold opAt; rw [Array.getD_eq_getD_getElem?, hi]; rfl
  have kT0 : kT o.op = false → touch (ev env) o.op = [] := touch_kT
  have kW0 : kW o.op = false → wrs (ev env) (n0 + i) o.op = [] := fun h => by unfold wrs; rw [h]; rfl
  have hWT : wrs (ev env) (n0 + i) o.op = [] ∨ wrs (ev env) (n0 + i) o.op = (n0 + i) :: touch (ev env) o.op := by
    unfold wrs
    split
    · exact .inr rfl
    · exact .inl rfl
  have plain : aopD P (ev env) B (n0 + i) o.op K → ∃ m B1 U, K m B1 ∧ (∀ q, B1.get q = overF U B.get q) ∧
      ((∀ t, o.dst = some t → t < N) → LocStep P N n0 ops i env B.get ⟨m, touch (ev env) o.op, wrs (ev env) (n0 + i) o.op, U⟩) := fun h => by
    obtain ⟨m, B1, U, h1, h2, h3, h4⟩ := aopD_loc (P := P) (id := n0 + i) (ev env) o.op B K h
    refine ⟨m, B1, U, h1, h2, fun hd => ⟨h3, by rw [hoi]; exact kT0, by rw [hoi]; exact kW0, hWT, ?_⟩⟩
    rw [hoi]
    intro env' f' hl hf w Γ a Q K' _ ⟨B', hB', hw⟩ he hid hk
    have hagr : Agr (touch (ev env) o.op) B B' := fun p hp => by rw [hB']; exact hf p hp
    have hop := aopD_aop (aopD_congr (ev_looks hl) (h4 B' hagr))
    obtain ⟨cv, w', Γ', m', B'', hrun, ⟨rfl, hB''⟩, hx, hw', hu, hmr⟩ := op_sound (η := a.eval) (ev_ok he) hw hid hop
    have hfin := hk w' Γ' (a.put o.dst cv) hx ⟨B'', fun q => by rw [hB'' q, over_overF hB'], hw'⟩ hu ((he.ext hx hw.lt).updo hd hmr)
    refine wpOp_run hi (runs_wanted hg hl he) ?_
    unfold Oper.wp
    rcases hrun with hrun | ⟨hrun, rfl⟩
    · rw [hrun]; exact hfin
    · rw [hrun]; exact hfin
  unfold astepD at h
  split at h
  · rename_i f args ts hop
    split at h
    · rename_i k fs cs hf
      obtain ⟨U, a1, a2, a3⟩ := frzA_loc P ts.toList (args.toList.map (ev env)) B
      have ht : touch (ev env) o.op = (args.toList.map (ev env)).flatMap M.ids := by rw [hop]; simp only [touch]; rw [List.flatMap_map]
      rcases h with ⟨m, hp, ha, hm, hk⟩ | ⟨sz, l, r, hp, ha, hr, hk⟩
      rotate_left
      · refine ⟨_, _, (n0 + i, .ar false sz (pure2 l)) :: U, hk, fun q => by rw [Bx.get_cons]; show _ = overF _ _ _; unfold overF; rw [Bx.get_cons]; by_cases hq : n0 + i = q <;> simp [hq]; exact a2 q, fun hd => ⟨fun x hx => ?_, by rw [hoi]; exact kT0, by rw [hoi]; exact kW0, hWT, ?_⟩⟩
        · unfold wrs
          rw [hop]
          simp only [kW, if_true]
          rcases List.mem_cons.1 hx with rfl | hx
          · exact List.mem_cons_self ..
          · have := a1 x hx
            rw [← ht, hop] at this
            exact List.mem_cons_of_mem _ this
        · rw [hoi]
          intro env' f' hl hfe w Γ a Q K' hbase ⟨B', hB', hw⟩ he hid hk'
          have hagr : Agr ((args.toList.map (ev env)).flatMap M.ids) B B' := fun p hp => by rw [hB']; exact hfe p (by rw [ht]; exact hp)
          obtain ⟨c1, c2⟩ := a3 B' hagr
          have hev := ev_looks hl
          rw [hop] at hev
          have hargs : args.toList.map (ev env') = args.toList.map (ev env) := List.map_congr_left fun x hx => hev x (by simp [Op.operands, Call.operands]; right; simpa using hx)
          have hf' : ev env' f = .fn (.func k) fs cs := by rw [hev f (by simp [Op.operands, Call.operands])]; exact hf
          refine wpOp_run hi (runs_wanted hg hl he) (call_wpO (n := n0 + i) (B2 := (frzA P B' ts.toList (args.toList.map (ev env))).2) hop hbase.1 hw he hf' (by rw [hargs, ← c1]) hp ha hr hid fun cv w' Γ' hx hw' hu hmr => ?_)
          refine hk' w' Γ' _ hx ⟨_, fun q => ?_, hw'⟩ hu ((he.ext hx hw.lt).updo hd hmr)
          rw [Bx.get_cons]
          unfold overF
          rw [Bx.get_cons]
          by_cases hq : n0 + i = q
          · simp [hq]
          · rw [if_neg hq, if_neg hq, c2 q, over_overF hB']; rfl
      refine ⟨m, _, U, hk, a2, fun hd => ⟨fun x hx => ?_, by rw [hoi]; exact kT0, by rw [hoi]; exact kW0, hWT, ?_⟩⟩
      · have := a1 x hx
        rw [← ht] at this
        unfold wrs
        rw [hop] at this ⊢
        simp only [kW, if_true]
        exact List.mem_cons_of_mem _ this
      · rw [hoi]
        intro env' f' hl hfe w Γ a Q K' hbase ⟨B', hB', hw⟩ he hid hk'
        have hagr : Agr ((args.toList.map (ev env)).flatMap M.ids) B B' := fun p hp => by rw [hB']; exact hfe p (by rw [ht]; exact hp)
        obtain ⟨c1, c2⟩ := a3 B' hagr
        have hev := ev_looks hl
        rw [hop] at hev
        have hargs : args.toList.map (ev env') = args.toList.map (ev env) := List.map_congr_left fun x hx => hev x (by simp [Op.operands, Call.operands]; right; simpa using hx)
        have hf' : ev env' f = .fn (.func k) fs cs := by rw [hev f (by simp [Op.operands, Call.operands])]; exact hf
        refine wpOp_run hi (runs_wanted hg hl he) (call_wp (B2 := (frzA P B' ts.toList (args.toList.map (ev env))).2) hop hbase.1 hw he hf' (by rw [hargs, ← c1]) hp ha hm fun cv w' Γ' hx hw' hu hmr => ?_)
        exact hk' w' Γ' _ hx ⟨_, fun q => by rw [c2 q, over_overF hB'], hw'⟩ (fun p hp => .inr (by rw [← hu]; exact hp)) ((he.ext hx hw.lt).updo hd hmr)
    · exact h.elim
  · exact plain h

/-- Passed over, as its guard asks. -/
theorem skip_loc {n0 i : Nat} {env : Nat → M} {f : BF} {o : Oper} {j : Nat} {want : Bool} (hi : ops[i]? = some o) (hg : o.guard = some (j, want)) (hv : guardV ops env j = .d (.v (.bool (!want))) ∨ guardV ops env j = undefM)
    (hd : ∀ t, o.dst = some t → t < N) : LocStep P N n0 ops i env f ⟨undefM, [], [], []⟩ := by
  have hoi : opAt ops i = o := by unfold opAt; rw [Array.getD_eq_getD_getElem?, hi]; rfl
  refine ⟨fun x hx => by simp at hx, fun _ => rfl, fun _ => rfl, .inl rfl, ?_⟩
  rw [hoi]
  intro env' f' hl hf w Γ a Q K' _ hw he hid hk
  have hgw : Region.wanted o (yielded ops a.tmps) = false := by
    rw [wanted_some hg]
    have := guard_looks hg hl
    rcases hv with hv | hv
    · rw [hv] at this
      rw [guardV_ok he this]
      cases want <;> rfl
    · rw [hv] at this
      rw [guardV_undef he this]
      rfl
  refine wpOp_skip hi hgw (hk w Γ _ (Ext.refl _ _) ?_ (fun _ h => .inr h) (he.updo hd (.d (.v _))))
  obtain ⟨B, h1, h2⟩ := hw
  exact ⟨B, fun q => by rw [h1]; rfl, h2⟩

/-- The text, step by step. -/
theorem aopsD_trace {n0 : Nat} : ∀ {l : List Oper} {k : Nat} {env : Nat → M} {B : Bx} {acc : Acc} {Q : (Nat → M) → Bx → Nat → Acc → Prop},
    (∀ j, j < l.length → l[j]? = ops[k + j]?) → aopsD P N ops l env B (n0 + k) acc Q →
    ∃ ss : List Sp, ss.length = l.length ∧ (∀ i s, ss[i]? = some s → LocStep P N n0 ops (k + i) (envS ops k env ss fun j => decide (j < k + i)) (boxS k B.get ss fun j => decide (j < k + i)) s) ∧
      ∃ env' B', Q env' B' (n0 + k + l.length) (acc ++ ss.map fun s => (s.T, s.W)) ∧ env' = envS ops k env ss (fun _ => true) ∧ ∀ q, B'.get q = boxS k B.get ss (fun _ => true) q
  | [], k, env, B, acc, Q, _, h => ⟨[], rfl, fun i s hs => by simp at hs, env, B, by simpa [aopsD] using h, rfl, fun q => rfl⟩
  | o :: l, k, env, B, acc, Q, hl, h => by
    have hi : ops[k]? = some o := by have := hl 0 (by simp); simpa using this.symm
    have hoi : opAt ops k = o := by unfold opAt; rw [Array.getD_eq_getD_getElem?, hi]; rfl
    have hl' : ∀ j, j < l.length → l[j]? = ops[k + 1 + j]? := fun j hj => by
      have := hl (j + 1) (by simp; omega)
      rw [show k + (j + 1) = k + 1 + j by omega] at this
      simpa using this
    have glue : ∀ (s0 : Sp) (B1 : Bx), (∀ q, B1.get q = overF s0.U B.get q) → LocStep P N n0 ops k env B.get s0 →
        aopsD P N ops l (updo env o.dst s0.m) B1 (n0 + k + 1) (acc ++ [(s0.T, s0.W)]) Q →
        ∃ ss : List Sp, ss.length = (o :: l).length ∧ (∀ i s, ss[i]? = some s → LocStep P N n0 ops (k + i) (envS ops k env ss fun j => decide (j < k + i)) (boxS k B.get ss fun j => decide (j < k + i)) s) ∧
        ∃ env' B', Q env' B' (n0 + k + (o :: l).length) (acc ++ ss.map fun s => (s.T, s.W)) ∧ env' = envS ops k env ss (fun _ => true) ∧ ∀ q, B'.get q = boxS k B.get ss (fun _ => true) q := by
      intro s0 B1 hB1 hs0 hrest
      have hB1' : B1.get = overF s0.U B.get := funext hB1
      obtain ⟨ss, g1, g2, env', B', g3, g4, g5⟩ := aopsD_trace (k := k + 1) hl' hrest
      refine ⟨s0 :: ss, by simp [g1], fun i s hs => ?_, env', B', ?_, ?_, fun q => ?_⟩
      · cases i with
        | zero =>
          simp at hs; subst hs
          rw [Nat.add_zero, envS_false ops _ k env _ (fun j hj => by simp; omega), boxS_false _ k _ _ (fun j hj => by simp; omega)]
          exact hs0
        | succ i =>
          have := g2 i s (by simpa using hs)
          simp only [envS, boxS]
          rw [show k + (i + 1) = k + 1 + i by omega]
          simp only [show decide (k < k + 1 + i) = true by simp; omega, if_true, hoi]
          rw [hB1'] at this
          exact this
      · rw [show n0 + k + (o :: l).length = n0 + (k + 1) + l.length by simp; omega]
        simpa using g3
      · rw [g4]; simp only [envS, if_true, hoi]
      · rw [g5, hB1']; simp only [boxS, if_true]
    unfold aopsD at h
    split at h
    · rename_i hg
      obtain ⟨m, B1, U, h1, h2, h3⟩ := astepD_loc (N := N) hi (.inl hg) h
      obtain ⟨q1, q2⟩ := aput_updo h1
      exact glue ⟨m, _, _, U⟩ B1 h2 (h3 q2) q1
    · rename_i j want hg
      split at h
      · rename_i b hb
        by_cases hbw : b = want
        · subst hbw
          have h' := h.1 rfl
          rw [gset_eq hb] at h'
          obtain ⟨m, B1, U, h1, h2, h3⟩ := astepD_loc (N := N) hi (.inr ⟨j, _, hg, hb⟩) h'
          obtain ⟨q1, q2⟩ := aput_updo h1
          exact glue ⟨m, _, _, U⟩ B1 h2 (h3 q2) q1
        · have hbn : b = !want := by cases b <;> cases want <;> simp_all
          have h' := h.2 hbn
          rw [gset_eq (b := !want) (by rw [hb, hbn])] at h'
          obtain ⟨q1, q2⟩ := aput_updo h'
          exact glue ⟨undefM, [], [], []⟩ B (fun q => rfl) (skip_loc hi hg (.inl (by rw [hb, hbn])) q2) q1
      · obtain ⟨hu, h'⟩ := h
        obtain ⟨q1, q2⟩ := aput_updo h'
        exact glue ⟨undefM, [], [], []⟩ B (fun q => rfl) (skip_loc hi hg (.inr hu) q2) q1

end
end Go.Abs

/- The abstract layer, part T: a region that draws its order, whatever order is drawn. -/
namespace Go.Abs

theorem preN_length (ops : Array Oper) : ∀ k, (preN ops k).length = k
  | 0 => rfl
  | k + 1 => by simp [preN, preN_length ops k]

theorem preN_get (ops : Array Oper) : ∀ (n k : Nat), k < n → preOf (preN ops n) k = ((dpre (opAt ops k)).flatMap fun d => d :: (preN ops k).getD d []).eraseDups
  | 0, k, h => by omega
  | n + 1, k, h => by
    have hlen := preN_length ops n
    by_cases hk : k = n
    · subst hk
      simp [preOf, preN, List.getD, hlen]
    · have := preN_get ops n k (by omega)
      rw [← this]
      simp only [preOf, preN, List.getD]
      rw [List.getElem?_append_left (by rw [hlen]; omega)]

theorem preN_le (ops : Array Oper) (n k d : Nat) (hk : k ≤ n) (hd : d < k) : preOf (preN ops n) d = (preN ops k).getD d [] := by
  rw [preN_get ops n d (by omega)]
  have := preN_get ops k d hd
  rw [← this]; rfl

/-- What a closed set holds beside each of its operations: all that must come before. -/
theorem pre_closed {ops : Array Oper} {S : Nat → Bool} (he : ∀ i, i < ops.size → ∀ d, d ∈ dpre (opAt ops i) → d < i)
    (hS : ∀ i, i < ops.size → S i = true → ∀ d, d ∈ dpre (opAt ops i) → S d = true) :
    ∀ (j : Nat), j < ops.size → (∀ d, d ∈ dpre (opAt ops j) → S d = true) → ∀ p, p ∈ preOf (preN ops ops.size) j → S p = true := by
  intro j
  induction j using Nat.strongRecOn with
  | _ j ih =>
    intro hj hd p hp
    rw [preN_get ops ops.size j hj, List.mem_eraseDups, List.mem_flatMap] at hp
    obtain ⟨d, hdm, hp⟩ := hp
    have hlt := he j hj d hdm
    rcases List.mem_cons.1 hp with rfl | hp
    · exact hd _ hdm
    · rw [← preN_le ops ops.size j d (by omega) hlt] at hp
      exact ih d hlt (by omega) (fun d' hd' => hS d (by omega) (hd d hdm) d' hd') p hp

theorem goodOps_some {ops : Array Oper} {pairs : List (Nat × Nat)} (h : goodOps ops pairs = true) :
    (∀ i, i < ops.size → ∀ d, d ∈ dpre (opAt ops i) → d < i) ∧
    (∀ i j, i < j → j < ops.size → i ∉ preOf (preN ops ops.size) j → Oper.apart ops (opAt ops i) (opAt ops j) = true) ∧
    (∀ i j, i < j → j < ops.size → i ∉ preOf (preN ops ops.size) j → relev (opAt ops i).op (opAt ops j).op = true → (i, j) ∈ pairs) ∧ tailOK ops pairs = true := by
  simp only [goodOps, Bool.and_eq_true] at h
  obtain ⟨h1, h2, h3, h4⟩ := h
  refine ⟨fun i hi d hd => ?_, fun i j hij hj hn => ?_, fun i j hij hj hn hr => ?_, h4⟩
  · simp only [edgesOK, List.all_eq_true, List.mem_range, decide_eq_true_eq] at h1
    exact h1 i hi d hd
  · simp only [tmpsOK, List.all_eq_true, List.mem_range, Bool.or_eq_true, List.contains_iff_mem] at h2
    rcases h2 j hj i hij with h | h
    · exact absurd h hn
    · exact h
  · simp only [List.all_eq_true, List.contains_iff_mem] at h3
    refine h3 (i, j) ?_
    unfold needOf
    rw [List.mem_flatMap]
    refine ⟨j, by simpa using hj, ?_⟩
    rw [List.mem_filterMap]
    refine ⟨i, by simpa using hij, ?_⟩
    rw [if_neg (by simpa [List.contains_iff_mem] using hn), if_pos hr]

theorem envS_last (ops : Array Oper) (t : Nat) : ∀ (l : List Sp) (k i : Nat) (env : Nat → M) (S : Nat → Bool) (s : Sp), l[i]? = some s → (opAt ops (k + i)).dst = some t → S (k + i) = true →
    (∀ j, k + i < j → S j = false) → envS ops k env l S t = s.m
  | [], k, i, env, S, s, h, _, _, _ => by simp at h
  | s0 :: l, k, 0, env, S, s, h, hd, hS, hlater => by
    simp at h; subst h
    simp only [Nat.add_zero] at hd hS hlater
    simp only [envS, hS, if_true]
    rw [envS_false ops l (k + 1) _ S (fun j hj => hlater j (by omega)), hd, updo_same]
  | s0 :: l, k, i + 1, env, S, s, h, hd, hS, hlater => by
    simp only [envS]
    exact envS_last ops t l (k + 1) i _ S s (by simpa using h) (by rw [show k + 1 + i = k + (i + 1) by omega]; exact hd) (by rw [show k + 1 + i = k + (i + 1) by omega]; exact hS)
      (fun j hj => hlater j (by omega))

theorem boxS_last (q : Nat) (b : Box) : ∀ (l : List Sp) (k i : Nat) (f : BF) (S : Nat → Bool) (s : Sp), l[i]? = some s → s.U.get q = some b → S (k + i) = true →
    (∀ j, k + i < j → S j = false) → boxS k f l S q = some b
  | [], k, i, f, S, s, h, _, _, _ => by simp at h
  | s0 :: l, k, 0, f, S, s, h, hd, hS, hlater => by
    simp at h; subst h
    simp only [Nat.add_zero] at hS hlater
    simp only [boxS, hS, if_true]
    rw [boxS_false l (k + 1) _ S (fun j hj => hlater j (by omega))]
    simp only [overF, hd]
  | s0 :: l, k, i + 1, f, S, s, h, hd, hS, hlater => by
    simp only [boxS]
    exact boxS_last q b l (k + 1) i _ S s (by simpa using h) hd (by rw [show k + 1 + i = k + (i + 1) by omega]; exact hS) (fun j hj => hlater j (by omega))

theorem get_some_of_mem {U : Bx} {q : Nat} (h : ∃ x, x ∈ U ∧ x.1 = q) : ∃ b, U.get q = some b := by
  obtain ⟨x, hx, rfl⟩ := h
  unfold Bx.get
  cases hf : U.find? (fun y => y.1 == x.1) with
  | none =>
    rw [List.find?_eq_none] at hf
    exact absurd (by simp) (hf x hx)
  | some y => exact ⟨y.2, rfl⟩

section
variable {P : Program} {N : Nat} {ops : Array Oper}

theorem ready_nil {listed : Array Bool} (hs : listed.size = ops.size) (he : ∀ i, i < ops.size → ∀ d, d ∈ dpre (opAt ops i) → d < i) (h : Region.ready .any ops listed = []) :
    ∀ i, i < ops.size → listed.getD i false = true := by
  intro i
  induction i using Nat.strongRecOn with
  | _ i ih =>
    intro hi
    cases hl : listed.getD i false with
    | true => rfl
    | false =>
      exfalso
      have : i ∈ Region.ready .any ops listed := by
        unfold Region.ready
        rw [List.mem_filter]
        refine ⟨by simpa using hi, ?_⟩
        have h1 : listed.getD i true = false := by
          simp only [Array.getD, hs, hi, dif_pos] at hl ⊢
          exact hl
        have h2 : ops[i]? = some (opAt ops i) := by simp [opAt, Array.getD, hi]
        simp only [h1, Bool.not_false, Bool.true_and, h2, Option.map_some, Option.getD_some, Array.all_eq_true_iff_forall_mem, Bool.or_eq_true, Bool.not_eq_true']
        intro e hee
        cases hb : Region.binds .any e with
        | false => exact .inl rfl
        | true =>
          have hd : e.on ∈ dpre (opAt ops i) := by
            unfold dpre
            rw [List.mem_map]
            exact ⟨e, by rw [List.mem_filter]; exact ⟨by simpa using hee, hb⟩, rfl⟩
          have hlt := he i hi _ hd
          exact .inr (ih _ hlt (by omega))
      rw [h] at this
      cases this

theorem ready_mem {listed : Array Bool} {i : Nat} (hs : listed.size = ops.size) (h : i ∈ Region.ready .any ops listed) :
    i < ops.size ∧ listed.getD i false = false ∧ ∀ d, d ∈ dpre (opAt ops i) → listed.getD d false = true := by
  unfold Region.ready at h
  rw [List.mem_filter] at h
  obtain ⟨hi, h⟩ := h
  have hi' : i < ops.size := by simpa using hi
  have h2 : ops[i]? = some (opAt ops i) := by simp [opAt, Array.getD, hi']
  simp only [Bool.and_eq_true, Bool.not_eq_true', h2, Option.map_some, Option.getD_some, Array.all_eq_true_iff_forall_mem, Bool.or_eq_true] at h
  refine ⟨hi', ?_, fun d hd => ?_⟩
  · have := h.1
    simp only [Array.getD, hs, hi', dif_pos] at this ⊢
    exact this
  · unfold dpre at hd
    rw [List.mem_map] at hd
    obtain ⟨e, he, rfl⟩ := hd
    rw [List.mem_filter] at he
    rcases h.2 e (by simpa using he.1) with hb | hb
    · rw [he.2] at hb; cases hb
    · exact hb

theorem adraw_core {id : Nat} {pairs : List (Nat × Nat)} (hmix : P.follows .mixedOrders = true) (hgood : goodOps ops pairs = true) {m : Nat} (hm : m ≤ ops.size)
    (htail : m < ops.size → m + 1 = ops.size ∧ ∀ j, j < m → j ∈ preOf (preN ops ops.size) m)
    {env : Nat → M} {B : Bx} {n : Nat} {Qa : (Nat → M) → Bx → Nat → Prop} {w : World} {Γ : G} {a : Act} {Q : Exit → Act → World → Prop}
    (hb : Base P Γ w) (hr : Rel w Γ N env B n a) (h : aopsD P N ops (ops.toList.take m) env B n [] fun env' B' n' acc => clashes acc pairs ∧ Qa env' B' n')
    (hq : ∀ (env' : Nat → M) (B' : Bx) (n' : Nat) (Γ' : G) (w' : World) (a' : Act), Qa env' B' n' → Ext Γ w Γ' w' → Rel w' Γ' N env' B' n' a' →
      (m = ops.size → Q .normal a' w') ∧ (m < ops.size → wpOp P ops Q m (fun a w => Q .normal a w) a' w')) :
    (Code.region id ops true).wp P Q a w := by
  obtain ⟨hedge, hapart, hneed, _⟩ := goodOps_some hgood
  obtain ⟨ss, hlen, htr, env', B', ⟨hcl, hQa⟩, henv, hB⟩ := aopsD_trace (n0 := n) (k := 0) (ops := ops) (l := ops.toList.take m) (fun j hj => by
    have hj' : j < m := by simp at hj; omega
    rw [List.getElem?_take, if_pos hj']; simp) h
  have hlen' : ss.length = m := by simp at hlen; omega
  simp only [Nat.zero_add] at htr
  simp only [List.nil_append] at hcl
  have hacc : ∀ i s, ss[i]? = some s → (ss.map fun s => (s.T, s.W)).getD i ([], []) = (s.T, s.W) := fun i s hs => by simp [List.getD, hs]
  -- two operations of which neither must come first do not meet
  have hclash : ∀ i j si sj, i < j → j < ops.size → i ∉ preOf (preN ops ops.size) j → ss[i]? = some si → ss[j]? = some sj → (∀ p, p ∈ si.W → p ∉ sj.T) ∧ (∀ p, p ∈ sj.W → p ∉ si.T) := by
    intro i j si sj hij hj hn hi' hj'
    have li := htr i si hi'
    have lj := htr j sj hj'
    by_cases hrel : relev (opAt ops i).op (opAt ops j).op = true
    · have := clashes_mem hcl (hneed i j hij hj hn hrel)
      unfold clashFree at this
      rw [hacc i si hi', hacc j sj hj'] at this
      exact this
    · simp only [relev, Bool.or_eq_true, Bool.and_eq_true, not_or, not_and, Bool.not_eq_true] at hrel
      refine ⟨fun p hpW hpT => ?_, fun p hpW hpT => ?_⟩
      · cases hk : kW (opAt ops i).op with
        | false => rw [li.2.2.1 hk] at hpW; cases hpW
        | true => rw [lj.2.1 (hrel.1 hk)] at hpT; cases hpT
      · cases hk : kW (opAt ops j).op with
        | false => rw [lj.2.2.1 hk] at hpW; cases hpW
        | true => rw [li.2.1 (hrel.2 hk)] at hpT; cases hpT
  let Inv : (Nat → Bool) → Act → World → Prop := fun S a' w' => ∃ Γ', Ext Γ w Γ' w' ∧ WRf w' Γ' (boxS 0 B.get ss S) ∧ ER w' Γ' N (envS ops 0 env ss S) a' ∧
    ∀ p, Γ'.used p → p < n ∨ ∃ j, S j = true ∧ p = n + j
  -- one step
  have step : ∀ (S S' : Nat → Bool) (i : Nat) (a' : Act) (w' : World) (K : Act → World → Prop), i < ops.size → i < m → S i = false → (∀ d, d ∈ dpre (opAt ops i) → S d = true) →
      (∀ j, j < ops.size → S j = true → ∀ d, d ∈ dpre (opAt ops j) → S d = true) → (∀ j, j < ops.size → S' j = (S j || decide (j = i))) → (∀ j, S j = true → S' j = true) → (∀ j, ops.size ≤ j → S j = false) →
      Inv S a' w' → (∀ a'' w'', Inv S' a'' w'' → K a'' w'') → wpOp P ops Q i K a' w' := by
    intro S S' i a' w' K hi him hSi hdi hcS hS' hmono hout ⟨Γ', e1, r1, r2, r3⟩ hK
    have hsi : i < ss.length := by omega
    obtain ⟨si, hsi'⟩ : ∃ s, ss[i]? = some s := ⟨ss[i], by simp [hsi]⟩
    have li := htr i si hsi'
    have hpi : ∀ p, p ∈ preOf (preN ops ops.size) i → S p = true := pre_closed hedge hcS i hi hdi
    have hpj : ∀ j, j < ops.size → S j = true → i ∉ preOf (preN ops ops.size) j := fun j hj hSj hmem => by
      have := pre_closed hedge hcS j hj (hcS j hj hSj) i hmem
      rw [hSi] at this; cases this
    have hWT := li.2.2.2.1
    have hUW := li.1
    -- writers of a slot that i reads
    have slots : ∀ t, t ∈ (opAt ops i).looksAt ops → envS ops 0 env ss S t = envS ops 0 env ss (fun j => decide (j < i)) t := fun t ht => by
      refine envS_agree ops t ss 0 env env S _ rfl fun j _ hjl hdst => ?_
      have hj : j < ops.size := by omega
      rcases Nat.lt_trichotomy j i with hlt | heq | hgt
      · by_cases hmem : j ∈ preOf (preN ops ops.size) i
        · rw [hpi j hmem]; simp [hlt]
        · exact absurd ht ((Oper.apart_spec (hapart j i hlt hi hmem)).1 t hdst)
      · subst heq; rw [hSi]; simp
      · cases hSj : S j with
        | false => simp; omega
        | true => exact absurd ht ((Oper.apart_spec (hapart i j hgt hj (hpj j hj hSj))).2.2 t hdst)
    have boxes : ∀ p, p ∈ si.T → boxS 0 B.get ss S p = boxS 0 B.get ss (fun j => decide (j < i)) p := fun p hpT => by
      refine boxS_agree p ss 0 B.get B.get S _ rfl fun j sj hj' ⟨x, hx, hxp⟩ => ?_
      rw [Nat.zero_add]
      have hj : j < ops.size := by have := (List.getElem?_eq_some_iff.1 hj').1; omega
      have hpW : p ∈ sj.W := by rw [← hxp]; exact (htr j sj hj').1 x hx
      rcases Nat.lt_trichotomy j i with hlt | heq | hgt
      · by_cases hmem : j ∈ preOf (preN ops ops.size) i
        · rw [hpi j hmem]; simp [hlt]
        · exact absurd hpT ((hclash j i sj si hlt hi hmem hj' hsi').1 p hpW)
      · subst heq; rw [hSi]; simp
      · cases hSj : S j with
        | false => simp; omega
        | true => exact absurd hpT ((hclash i j si sj hgt hj (hpj j hj hSj) hsi' hj').2 p hpW)
    refine li.2.2.2.2 (envS ops 0 env ss S) (boxS 0 B.get ss S) slots boxes w' Γ' a' Q K (hb.ext e1) r1 r2 (fun hu => ?_) fun w'' Γ'' a'' e2 g1 g2 g3 => hK a'' w'' ⟨Γ'', e1.trans e2, ?_, ?_, fun p hp => ?_⟩
    · rcases r3 _ hu with hlt | ⟨j, hSj, hj⟩
      · omega
      · have : j = i := by omega
        subst this
        rw [hSi] at hSj; cases hSj
    · obtain ⟨B2, hB2, hw2⟩ := g1
      refine ⟨B2, fun q => ?_, hw2⟩
      rw [hB2]
      by_cases hU : ∃ x, x ∈ si.U ∧ x.1 = q
      · obtain ⟨b, hb⟩ := get_some_of_mem hU
        have hqW : q ∈ si.W := by obtain ⟨x, hx, hxq⟩ := hU; rw [← hxq]; exact hUW x hx
        have h1 : boxS 0 B.get ss S' q = boxS 0 B.get ss (fun j => decide (j < i + 1)) q := by
          refine boxS_agree q ss 0 B.get B.get S' _ rfl fun j sj hj' ⟨x, hx, hxq⟩ => ?_
          rw [Nat.zero_add]
          have hj : j < ops.size := by have := (List.getElem?_eq_some_iff.1 hj').1; omega
          have hqWj : q ∈ sj.W := by rw [← hxq]; exact (htr j sj hj').1 x hx
          have meet : j ≠ i → (i < j → i ∉ preOf (preN ops ops.size) j) → (j < i → j ∉ preOf (preN ops ops.size) i) → False := fun hne h1 h2 => by
            have hWTj := (htr j sj hj').2.2.2.1
            have hc : (∀ p, p ∈ si.W → p ∉ sj.T) ∧ (∀ p, p ∈ sj.W → p ∉ si.T) := by
              rcases Nat.lt_or_gt_of_ne hne with hlt | hgt
              · have := hclash j i sj si hlt hi (h2 hlt) hj' hsi'
                exact ⟨this.2, this.1⟩
              · exact hclash i j si sj hgt hj (h1 hgt) hsi' hj'
            rcases hWT with h0 | h0
            · rw [h0] at hqW; cases hqW
            · rcases hWTj with h0j | h0j
              · rw [h0j] at hqWj; cases hqWj
              · have hqW' := hqW
                rw [h0] at hqW'
                rcases List.mem_cons.1 hqW' with hq1 | hq1
                · have hqWj' := hqWj
                  rw [h0j] at hqWj'
                  rcases List.mem_cons.1 hqWj' with hq2 | hq2
                  · omega
                  · exact hc.1 q hqW hq2
                · exact hc.2 q hqWj hq1
          rcases Nat.lt_trichotomy j i with hlt | heq | hgt
          · by_cases hmem : j ∈ preOf (preN ops ops.size) i
            · rw [hmono j (hpi j hmem)]; simp; omega
            · exact (meet (by omega) (fun h => by omega) (fun _ => hmem)).elim
          · subst heq; rw [hS' j hj]; simp
          · cases hSj : S j with
            | false => rw [hS' j hj, hSj]; simp; omega
            | true => exact (meet (by omega) (fun _ => hpj j hj hSj) (fun h => by omega)).elim
        rw [h1, boxS_last q b ss 0 i B.get _ si hsi' hb (by simp) (fun j hj => by simp; omega)]
        simp only [overF, hb]
      · have hg : si.U.get q = none := by
          cases hgq : si.U.get q with
          | none => rfl
          | some b =>
            unfold Bx.get at hgq
            cases hf : si.U.find? (fun x => x.1 == q) with
            | none => rw [hf] at hgq; cases hgq
            | some x => exact absurd ⟨x, List.mem_of_find?_eq_some hf, by simpa using List.find?_some hf⟩ hU
        have h1 : boxS 0 B.get ss S q = boxS 0 B.get ss S' q := by
          refine boxS_agree q ss 0 B.get B.get S S' rfl fun j sj hj' hx => ?_
          rw [Nat.zero_add]
          have hj : j < ops.size := by have := (List.getElem?_eq_some_iff.1 hj').1; omega
          have hne : j ≠ i := fun e => by
            subst e
            rw [hsi'] at hj'; cases hj'
            exact hU hx
          rw [hS' j hj]; simp [hne]
        rw [← h1]
        simp only [overF, hg]
    · have hfun : updo (envS ops 0 env ss S) (opAt ops i).dst si.m = envS ops 0 env ss S' := by
        funext t
        by_cases hd : (opAt ops i).dst = some t
        · rw [hd, updo_same]
          have h1 : envS ops 0 env ss S' t = envS ops 0 env ss (fun j => decide (j < i + 1)) t := by
            refine envS_agree ops t ss 0 env env S' _ rfl fun j _ hjl hdst => ?_
            have hj : j < ops.size := by omega
            rcases Nat.lt_trichotomy j i with hlt | heq | hgt
            · by_cases hmem : j ∈ preOf (preN ops ops.size) i
              · rw [hmono j (hpi j hmem)]; simp; omega
              · exact absurd hd ((Oper.apart_spec (hapart j i hlt hi hmem)).2.1 t hdst)
            · subst heq; rw [hS' j hj]; simp
            · cases hSj : S j with
              | false => rw [hS' j hj, hSj]; simp; omega
              | true => exact absurd hdst ((Oper.apart_spec (hapart i j hgt hj (hpj j hj hSj))).2.1 t hd)
          rw [h1, envS_last ops t ss 0 i env _ si hsi' (by rw [Nat.zero_add]; exact hd) (by simp) (fun j hj => by simp; omega)]
        · rw [updo_other hd]
          refine envS_agree ops t ss 0 env env S S' rfl fun j _ hjl hdst => ?_
          have hj : j < ops.size := by omega
          have hne : j ≠ i := fun e => by subst e; exact hd hdst
          rw [hS' j hj]; simp [hne]
      rw [← hfun]; exact g3
    · rcases g2 p hp with rfl | hp
      · exact .inr ⟨i, by rw [hS' i hi]; simp, rfl⟩
      · rcases r3 p hp with hlt | ⟨j, hSj, rfl⟩
        · exact .inl hlt
        · exact .inr ⟨j, hmono j hSj, rfl⟩
  -- all of them
  have all : ∀ (fuel : Nat) (listed : Array Bool) (a' : Act) (w' : World), listed.size = ops.size →
      ((List.range ops.size).filter fun j => !listed.getD j false).length ≤ fuel →
      (∀ j, j < ops.size → listed.getD j false = true → ∀ d, d ∈ dpre (opAt ops j) → listed.getD d false = true) → (m < ops.size → listed.getD m false = false) → Inv (fun j => listed.getD j false) a' w' →
      wpAny P .any ops Q fuel listed a' w' := by
    have fin : ∀ (listed : Array Bool) (a' : Act) (w' : World), listed.size = ops.size → (∀ j, j < m → listed.getD j false = true) → (m < ops.size → listed.getD m false = false) → Inv (fun j => listed.getD j false) a' w' →
        (m = ops.size → Q .normal a' w') ∧ (m < ops.size → wpOp P ops Q m (fun a w => Q .normal a w) a' w') := by
      intro listed a' w' hs hall hnt ⟨Γ', e1, r1, r2, r3⟩
      obtain ⟨B2, hB2, hw2⟩ := r1
      have he : envS ops 0 env ss (fun j => listed.getD j false) = env' := by
        rw [henv]
        funext t
        exact envS_agree ops t ss 0 env env _ _ rfl fun j _ hj _ => by simpa using hall j (by omega)
      have hb : ∀ q, B'.get q = B2.get q := fun q => by
        rw [hB2, hB]
        exact boxS_agree q ss 0 B.get B.get _ _ rfl fun j sj hj' _ => by
          have := (List.getElem?_eq_some_iff.1 hj').1
          rw [Nat.zero_add]
          exact (hall j (by omega)).symm
      rw [he] at r2
      refine hq env' B' (n + 0 + (ops.toList.take m).length) Γ' w' a' hQa e1 ⟨hw2.congr hb, r2, fun p hp => ?_⟩
      rcases r3 p hp with hlt | ⟨j, hj, rfl⟩
      · omega
      · have : j < ops.size := by
          rcases Nat.lt_or_ge j ops.size with h | h
          · exact h
          · have h0 : listed.getD j false = false := by simp only [Array.getD, hs]; rw [dif_neg (by omega)]
            exact absurd (hj.symm.trans h0) (by simp)
        have hjm : j ≠ m := fun e => by
          subst e
          have h0 := hnt this
          exact absurd (hj.symm.trans h0) (by simp)
        have htl := htail
        simp; omega
    intro fuel
    induction fuel with
    | zero =>
      intro listed a' w' hs hcnt hc hnt hi
      have hall : ∀ j, j < ops.size → listed.getD j false = true := fun j hj => by
        have h0 := List.length_eq_zero_iff.1 (Nat.le_zero.1 hcnt)
        rw [List.filter_eq_nil_iff] at h0
        have := h0 j (by simpa using hj)
        simpa using this
      have hmo : m = ops.size := by
        rcases Nat.lt_or_ge m ops.size with hlt | hge
        · have h0 := hnt hlt
          rw [hall m hlt] at h0; cases h0
        · omega
      refine ⟨?_, (fin listed a' w' hs (fun j hj => hall j (by omega)) hnt hi).1 hmo⟩
      rw [List.eq_nil_iff_forall_not_mem]
      intro i hmem
      obtain ⟨h1, h2, _⟩ := ready_mem hs hmem
      rw [hall i h1] at h2; cases h2
    | succ fuel ih =>
      intro listed a' w' hs hcnt hc hnt hi
      refine ⟨fun hnil => ?_, fun i hmem => ?_⟩
      · have hall := ready_nil hs hedge hnil
        have hmo : m = ops.size := by
          rcases Nat.lt_or_ge m ops.size with hlt | hge
          · have h0 := hnt hlt
            rw [hall m hlt] at h0; cases h0
          · omega
        exact (fin listed a' w' hs (fun j hj => hall j (by omega)) hnt hi).1 hmo
      obtain ⟨h1, h2, h3⟩ := ready_mem hs hmem
      have hget : ∀ j, (listed.setIfInBounds i true).getD j false = (listed.getD j false || decide (j = i)) := fun j => by
        rw [Array.getD_eq_getD_getElem?, Array.getD_eq_getD_getElem?, Array.getElem?_setIfInBounds]
        by_cases hj : i = j
        · subst hj
          have : i < listed.size := by omega
          simp [this]
        · have hj' : ¬ j = i := fun e => hj e.symm
          simp [hj, hj']
      by_cases him : i < m
      rotate_left
      · have hlt : m < ops.size := by omega
        obtain ⟨hm1, hpre⟩ := htail hlt
        have : i = m := by omega
        subst this
        have hall : ∀ j, j < i → listed.getD j false = true := fun j hj => pre_closed (S := fun j => listed.getD j false) hedge hc i h1 h3 j (hpre j hj)
        refine wpOp_mono (fun a2 w2 hQ2 => ?_) ((fin listed a' w' hs hall hnt hi).2 hlt)
        have hnone : Region.ready .any ops (listed.setIfInBounds i true) = [] := by
          rw [List.eq_nil_iff_forall_not_mem]
          intro j hj
          obtain ⟨g1, g2, _⟩ := ready_mem (by simp [hs]) hj
          rw [hget] at g2
          by_cases hji : j = i
          · subst hji; simp at g2
          · rw [hall j (by omega)] at g2; simp at g2
        cases fuel with
        | zero => exact ⟨hnone, hQ2⟩
        | succ fuel => exact ⟨fun _ => hQ2, fun j hj => by rw [hnone] at hj; cases hj⟩
      refine step (fun j => listed.getD j false) (fun j => (listed.setIfInBounds i true).getD j false) i a' w' _ h1 him h2 h3 hc (fun j _ => hget j) (fun j hj => by
          show (listed.setIfInBounds i true).getD j false = true
          rw [hget]
          have : listed.getD j false = true := hj
          rw [this]; rfl) (fun j hj => by
          show listed.getD j false = false
          simp only [Array.getD, hs]; rw [dif_neg (by omega)]) hi fun a'' w'' hi' => ih _ a'' w'' (by simp [hs]) ?_ ?_ (fun hlt => by rw [hget, hnt hlt]; simp; omega) hi'
      · have hlt : ((List.range ops.size).filter fun j => !(listed.setIfInBounds i true).getD j false).length < ((List.range ops.size).filter fun j => !listed.getD j false).length := by
          have : ((List.range ops.size).filter fun j => !(listed.setIfInBounds i true).getD j false) = ((List.range ops.size).filter fun j => !listed.getD j false).filter fun j => !decide (j = i) := by
            rw [List.filter_filter]
            congr 1
            funext j
            rw [hget]
            cases listed.getD j false <;> simp
          rw [this]
          refine List.length_filter_lt_length_iff_exists.2 ⟨i, ?_, by simp⟩
          rw [List.mem_filter]
          exact ⟨by simpa using h1, by rw [h2]; rfl⟩
        omega
      · intro j hj hl d hd
        rw [hget] at hl ⊢
        rcases Bool.or_eq_true_iff.1 hl with hl | hl
        · rw [hc j hj hl d hd]; rfl
        · have : j = i := by simpa using hl
          subst this
          rw [h3 d hd]; rfl
  refine wp_region_any hmix (all ops.size _ a _ (by simp) ?_ (fun j hj hl => ?_) (fun hlt => by simp [Array.getD]) ⟨Γ, ?_, ?_, ?_, ?_⟩)
  · refine Nat.le_trans (List.length_filter_le _ _) (by simp)
  · simp [Array.getD] at hl
  · exact Ext.drew Γ w
  · have : boxS 0 B.get ss (fun j => (Array.replicate ops.size false).getD j false) = B.get := boxS_false _ _ _ _ (fun j _ => by simp [Array.getD])
    rw [this]
    exact ⟨B, fun q => rfl, hr.wr.drew⟩
  · have : envS ops 0 env ss (fun j => (Array.replicate ops.size false).getD j false) = env := envS_false _ _ _ _ _ (fun j _ => by simp [Array.getD])
    rw [this]
    exact hr.er.ext (Ext.drew Γ w) hr.wr.lt
  · intro p hp
    exact .inl (hr.lt p hp)

theorem adraw_sound {prs : Prs} {id : Nat} {pairs : List (Nat × Nat)} (hmix : P.follows .mixedOrders = true) (hp : prs.get id = some pairs) (hgood : goodOps ops pairs = true)
    {env : Nat → M} {B : Bx} {n : Nat} {Qa : (Nat → M) → Bx → Nat → Prop} {w : World} {Γ : G} {a : Act} {Q : Exit → Act → World → Prop}
    (hb : Base P Γ w) (hr : Rel w Γ N env B n a) (h : adraw P N prs id env B n ops Qa)
    (hq : ∀ (env' : Nat → M) (B' : Bx) (n' : Nat) (Γ' : G) (w' : World) (a' : Act), Qa env' B' n' → Ext Γ w Γ' w' → Rel w' Γ' N env' B' n' a' → Q .normal a' w') :
    (Code.region id ops true).wp P Q a w := by
  unfold adraw at h
  rw [hp] at h
  simp only at h
  have htl := (goodOps_some hgood).2.2.2
  unfold tailOK at htl
  cases ht : tailOf pairs with
  | none =>
    rw [ht] at h
    simp only at h
    refine adraw_core hmix hgood (m := ops.size) (Nat.le_refl _) (fun h => by omega) hb hr (Qa := Qa) (by rw [List.take_of_length_le (by simp)]; exact h) fun env' B' n' Γ' w' a' q1 q2 q3 => ⟨fun _ => hq env' B' n' Γ' w' a' q1 q2 q3, fun h => by omega⟩
  | some k =>
    rw [ht] at h htl
    simp only [Bool.and_eq_true, decide_eq_true_eq, Option.isNone_iff_eq_none, List.all_eq_true, List.mem_range, List.contains_iff_mem] at h htl
    obtain ⟨hk, hg, hpre⟩ := htl
    refine adraw_core hmix hgood (m := k) (by omega) (fun _ => ⟨hk, hpre⟩) hb hr (Qa := fun env' B' n' => aops P N ops (ops.toList.drop k) env' B' n' Qa) h fun env' B' n' Γ' w' a' q1 q2 q3 => ⟨fun e => by omega, fun _ => ?_⟩
    have hi : ops[k]? = some (opAt ops k) := by simp [opAt, Array.getD, show k < ops.size by omega]
    have hd : ops.toList.drop k = [opAt ops k] := by
      rw [List.drop_eq_getElem_cons (by simp; omega), List.drop_of_length_le (by simp; omega)]
      simp [opAt, Array.getD, show k < ops.size by omega]
    rw [hd] at q1
    unfold aops at q1
    rw [hg] at q1
    simp only at q1
    refine wpOp_run hi (wanted_none hg) (step_sound (hb.ext q2) q3 q1 fun cv w2 Γ2 m2 B2 n2 hk2 he hw hlt hm2 => ?_)
    obtain ⟨env2, g1, g2⟩ := aput_ok (q3.er.ext he q3.wr.lt) hm2 hk2
    exact hq env2 B2 n2 Γ2 w2 _ (by simpa [aops] using g2) (q2.trans he) ⟨hw, g1, hlt⟩

end
end Go.Abs

/- The abstract layer, part U: code, loops, functions. -/
namespace Go.Abs

inductive Ex where
  | normal
  | exit (id : Nat)
  | ret

def Ex.to : Ex → Exit
  | .normal => .normal
  | .exit i => .exit i
  | .ret => .ret

abbrev QT := Ex → (Nat → M) → Bx → Nat → Prop

/-- What may be forgotten, or seen otherwise, without a step. -/
def Wk (N : Nat) (env : Nat → M) (B : Bx) (n : Nat) (env' : Nat → M) (B' : Bx) (n' : Nat) : Prop :=
  ∀ (w : World) (Γ : G) (a : Act), Rel w Γ N env B n a → ∃ Γ', Ext Γ w Γ' w ∧ Rel w Γ' N env' B' n' a

/-- What holds behind a piece of code. 'prs': of each region that draws its order the pairs of operations that are looked at. -/
def awp (P : Program) (N : Nat) (prs : Prs) : Code → (Nat → M) → Bx → Nat → QT → Prop
  | .skip, env, B, n, Q => Q .normal env B n
  | .label _, env, B, n, Q => Q .normal env B n
  | .exit id, env, B, n, Q => Q (.exit id) env B n
  | .ret, env, B, n, Q => Q .ret env B n
  | .seq a b, env, B, n, Q => awp P N prs a env B n fun x env' B' n' => match x with
    | .normal => awp P N prs b env' B' n' Q
    | x => Q x env' B' n'
  | .cond c x y, env, B, n, Q => match ev env c with
    | .d (.v (.bool b)) => (b = true → awp P N prs x env B n Q) ∧ (b = false → awp P N prs y env B n Q)
    | _ => False
  | .block id c, env, B, n, Q => awp P N prs c env B n fun x env' B' n' => match x with
    | .exit i => if i = id then Q .normal env' B' n' else Q (.exit i) env' B' n'
    | x => Q x env' B' n'
  | .loop c, env, B, n, Q => ∃ (σ : Type) (I : σ → (Nat → M) → Bx → Nat → Prop) (μ : σ → Nat),
    (∃ s0 env0 B0 n0, Wk N env B n env0 B0 n0 ∧ I s0 env0 B0 n0) ∧
    ∀ s env B n, I s env B n → awp P N prs c env B n fun x env' B' n' => match x with
      | .normal => ∃ s1 env1 B1 n1, Wk N env' B' n' env1 B1 n1 ∧ I s1 env1 B1 n1 ∧ μ s1 < μ s
      | x => Q x env' B' n'
  | .region _ ops false, env, B, n, Q => aops P N ops ops.toList env B n (Q .normal)
  | .region id ops true, env, B, n, Q => adraw P N prs id env B n ops (Q .normal)
  | _, _, _, _, _ => False

section
variable {P : Program} {N : Nat}

theorem aops_sound {ops : Array Oper} {Q : Exit → Act → World → Prop} : ∀ {l : List Oper} {env : Nat → M} {B : Bx} {n : Nat} {Qa : (Nat → M) → Bx → Nat → Prop} {w : World} {Γ : G} {a : Act},
    Base P Γ w → Rel w Γ N env B n a → aops P N ops l env B n Qa →
    (∀ (env' : Nat → M) (B' : Bx) (n' : Nat) (Γ' : G) (w' : World) (a' : Act), Qa env' B' n' → Ext Γ w Γ' w' → Rel w' Γ' N env' B' n' a' → Q .normal a' w') →
    wpList P ops Q l a w
  | [], env, B, n, Qa, w, Γ, a, hb, hr, h, hq => hq env B n Γ w a h (Ext.refl _ _) hr
  | o :: l, env, B, n, Qa, w, Γ, a, hbase, hr, h, hq => by
    have run : astep P env B n o.op (fun m B' n' => aput N env o.dst m fun env' => aops P N ops l env' B' n' Qa) → o.wp P a w (wpList P ops Q l) Q := fun h =>
      step_sound hbase hr h fun cv w' Γ' m B' n' hk he hw hlt hm => by
        obtain ⟨env', h1, h2⟩ := aput_ok (hr.er.ext he hr.wr.lt) hm hk
        exact aops_sound (hbase.ext he) ⟨hw, h1, hlt⟩ h2 fun env2 B2 n2 Γ2 w2 a2 q1 q2 q3 => hq env2 B2 n2 Γ2 w2 a2 q1 (he.trans q2) q3
    unfold wpList
    unfold aops at h
    split at h
    · rename_i hg
      rw [if_pos (wanted_none hg)]
      exact .inl (run h)
    · rename_i j want hg
      split at h
      · rename_i b hb
        have hy := guardV_ok hr.er hb
        by_cases hbw : b = want
        · rw [if_pos (by rw [wanted_some hg, hy, hbw]; simp)]
          have h' := h.1 hbw
          rw [gset_eq (b := want) (by rw [hb, hbw])] at h'
          exact .inl (run h')
        · rw [if_neg (by rw [wanted_some hg, hy]; simpa using hbw)]
          have hbn : b = !want := by cases b <;> cases want <;> simp_all
          have h' := h.2 hbn
          rw [gset_eq (b := !want) (by rw [hb, hbn])] at h'
          obtain ⟨env', h1, h2⟩ := aput_ok hr.er (m := undefM) (v := undef) (.d (.v _)) h'
          exact aops_sound hbase ⟨hr.wr, h1, hr.lt⟩ h2 hq
      · obtain ⟨hu, h'⟩ := h
        rw [if_neg (by rw [wanted_some hg, guardV_undef hr.er hu]; simp)]
        obtain ⟨env', h1, h2⟩ := aput_ok hr.er (m := undefM) (v := undef) (.d (.v _)) h'
        exact aops_sound hbase ⟨hr.wr, h1, hr.lt⟩ h2 hq

/-- The pairs of the regions that draw their order are as they should be. -/
def drawsOK (prs : Prs) : Code → Bool
  | .region id ops true => match prs.get id with
    | some pairs => goodOps ops pairs
    | none => false
  | .seq a b => drawsOK prs a && drawsOK prs b
  | .cond _ a b => drawsOK prs a && drawsOK prs b
  | .block _ c => drawsOK prs c
  | .loop c => drawsOK prs c
  | _ => true

theorem awp_sound {prs : Prs} (hmix : P.follows .mixedOrders = true) :
    ∀ (c : Code) (_ : drawsOK prs c = true) {env : Nat → M} {B : Bx} {n : Nat} {Qa : QT} {w : World} {Γ : G} {a : Act} {Q : Exit → Act → World → Prop},
    Base P Γ w → Rel w Γ N env B n a → awp P N prs c env B n Qa →
    (∀ (x : Ex) (env' : Nat → M) (B' : Bx) (n' : Nat) (Γ' : G) (w' : World) (a' : Act), Qa x env' B' n' → Ext Γ w Γ' w' → Rel w' Γ' N env' B' n' a' → Q x.to a' w') →
    c.wp P Q a w
  | .skip, _, env, B, n, Qa, w, Γ, a, Q, hbase, hr, h, hq => wp_skip (hq .normal env B n Γ w a h (Ext.refl _ _) hr)
  | .label _, _, env, B, n, Qa, w, Γ, a, Q, hbase, hr, h, hq => wp_label (hq .normal env B n Γ w a h (Ext.refl _ _) hr)
  | .exit id, _, env, B, n, Qa, w, Γ, a, Q, hbase, hr, h, hq => wp_exit (hq (.exit id) env B n Γ w a h (Ext.refl _ _) hr)
  | .ret, _, env, B, n, Qa, w, Γ, a, Q, hbase, hr, h, hq => wp_ret (hq .ret env B n Γ w a h (Ext.refl _ _) hr)
  | .seq x y, hd, env, B, n, Qa, w, Γ, a, Q, hbase, hr, h, hq => by
    have hd' := Bool.and_eq_true_iff.1 hd
    refine wp_seq (awp_sound hmix x hd'.1 hbase hr h fun e env' B' n' Γ' w' a' q1 q2 q3 => ?_)
    cases e with
    | normal => exact awp_sound hmix y hd'.2 (hbase.ext q2) q3 q1 fun e2 env2 B2 n2 Γ2 w2 a2 r1 r2 r3 => hq e2 env2 B2 n2 Γ2 w2 a2 r1 (q2.trans r2) r3
    | exit i => exact hq (.exit i) env' B' n' Γ' w' a' q1 q2 q3
    | ret => exact hq .ret env' B' n' Γ' w' a' q1 q2 q3
  | .cond c x y, hd, env, B, n, Qa, w, Γ, a, Q, hbase, hr, h, hq => by
    unfold awp at h
    split at h
    · rename_i b hb
      have hc := ev_ok hr.er c
      rw [hb] at hc
      have hd' := Bool.and_eq_true_iff.1 hd
      exact wp_cond_split (mr_v hc) (fun ht => awp_sound hmix x hd'.1 hbase hr (h.1 ht) hq) (fun hf => awp_sound hmix y hd'.2 hbase hr (h.2 hf) hq)
    · exact h.elim
  | .block id c, hd, env, B, n, Qa, w, Γ, a, Q, hbase, hr, h, hq => by
    refine wp_block (awp_sound hmix c hd hbase hr h fun e env' B' n' Γ' w' a' q1 q2 q3 => ?_)
    cases e with
    | normal => exact hq .normal env' B' n' Γ' w' a' q1 q2 q3
    | ret => exact hq .ret env' B' n' Γ' w' a' q1 q2 q3
    | exit i =>
      simp only [Ex.to, Exit.inBlock]
      simp only at q1
      by_cases hi : i = id
      · rw [if_pos hi] at q1 ⊢
        exact hq .normal env' B' n' Γ' w' a' q1 q2 q3
      · rw [if_neg hi] at q1 ⊢
        exact hq (.exit i) env' B' n' Γ' w' a' q1 q2 q3
  | .loop c, hd, env, B, n, Qa, w, Γ, a, Q, hbase, hr, h, hq => by
    obtain ⟨σ, I, μ, ⟨s0, env0, B0, n0, hwk, hI⟩, hround⟩ := h
    let Rep : Nat → Act → World → Prop := fun k a' w' => ∃ s env' B' n' Γ', I s env' B' n' ∧ μ s = k ∧ Ext Γ w Γ' w' ∧ Rel w' Γ' N env' B' n' a'
    have hmin : ∀ a' w', (∃ k, Rep k a' w') → ∃ k, Rep k a' w' ∧ ∀ j, j < k → ¬ Rep j a' w' := fun a' w' ⟨k, hk⟩ => by
      induction k using Nat.strongRecOn with
      | _ k ih =>
        by_cases hj : ∃ j, j < k ∧ Rep j a' w'
        · obtain ⟨j, hjk, hj⟩ := hj
          exact ih j hjk hj
        · exact ⟨k, hk, fun j hjk hr => hj ⟨j, hjk, hr⟩⟩
    let μc : Act → World → Nat := fun a' w' => by
      classical
      exact if h : ∃ k, Rep k a' w' then Classical.choose (hmin a' w' h) else 0
    have hμ : ∀ a' w' (h : ∃ k, Rep k a' w'), Rep (μc a' w') a' w' ∧ ∀ j, j < μc a' w' → ¬ Rep j a' w' := fun a' w' h => by
      simp only [μc, dif_pos h]
      exact Classical.choose_spec (hmin a' w' h)
    obtain ⟨Γ0, e0, r0⟩ := hwk w Γ a hr
    refine wp_loop (fun a' w' => ∃ k, Rep k a' w') μc ⟨_, s0, env0, B0, n0, Γ0, hI, rfl, e0, r0⟩ fun a' w' hi => ?_
    obtain ⟨⟨s1, env1, B1, n1, Γ1, i1, hm, e1, r1⟩, hleast⟩ := hμ a' w' hi
    refine awp_sound hmix c hd (hbase.ext e1) r1 (hround s1 env1 B1 n1 i1) fun x env2 B2 n2 Γ2 w2 a2 q1 q2 q3 => ?_
    cases x with
    | normal =>
      obtain ⟨s3, env3, B3, n3, hwk3, i3, hlt⟩ := q1
      obtain ⟨Γ3, e3, r3⟩ := hwk3 w2 Γ2 a2 q3
      have hrep : Rep (μ s3) a2 w2 := ⟨s3, env3, B3, n3, Γ3, i3, rfl, (e1.trans q2).trans e3, r3⟩
      refine ⟨⟨_, hrep⟩, ?_⟩
      have := (hμ a2 w2 ⟨_, hrep⟩).2
      have h2 : μc a2 w2 ≤ μ s3 := by
        rcases Nat.lt_or_ge (μ s3) (μc a2 w2) with hh | hh
        · exact absurd hrep (this _ hh)
        · exact hh
      omega
    | exit i => exact hq (.exit i) env2 B2 n2 Γ2 w2 a2 q1 (e1.trans q2) q3
    | ret => exact hq .ret env2 B2 n2 Γ2 w2 a2 q1 (e1.trans q2) q3
  | .region id ops false, _, env, B, n, Qa, w, Γ, a, Q, hbase, hr, h, hq => by
    refine wp_region_list (aops_sound hbase hr h fun env' B' n' Γ' w' a' q1 q2 q3 => hq .normal env' B' n' Γ' w' a' q1 q2 q3)
  | .region id ops true, hd, env, B, n, Qa, w, Γ, a, Q, hbase, hr, h, hq => by
    unfold drawsOK at hd
    split at hd
    · rename_i pairs hp
      exact adraw_sound hmix hp hd hbase hr h fun env' B' n' Γ' w' a' q1 q2 q3 => hq .normal env' B' n' Γ' w' a' q1 q2 q3
    · cases hd
  | .rangeFunc _ _ _ _, _, _, _, _, _, _, _, _, _, _, _, h, _ => h.elim
  | .scope _, _, _, _, _, _, _, _, _, _, _, _, h, _ => h.elim
  | .goto _, _, _, _, _, _, _, _, _, _, _, _, h, _ => h.elim
  | .refuse _, _, _, _, _, _, _, _, _, _, _, _, h, _ => h.elim

/-- The frame at the beginning. -/
def argEnv (args : List M) : Nat → M := fun t => (args[t]?).getD undefM

theorem er_begin {w : World} {Γ : G} {args : List M} {vs : List Value} (h : Args w Γ args vs) (hN : args.length ≤ N) :
    ER w Γ N (argEnv args) { tmps := vs.toArray ++ Array.replicate (N - vs.toArray.size) undef, defers := [] } := by
  refine ⟨rfl, by simp [h.1]; omega, fun t => ?_⟩
  simp only [argEnv]
  by_cases ht : t < args.length
  · have ht' : t < vs.length := by rw [h.1]; exact ht
    have := h.2 t args[t] vs[t] (by simp [ht]) (by simp [ht'])
    simp only [List.getElem?_eq_getElem ht, Option.getD_some]
    rw [Array.getD_eq_getD_getElem?, Array.getElem?_append_left (by simpa using ht')]
    simpa [ht'] using this
  · rw [List.getElem?_eq_none (by omega)]
    have hu : (vs.toArray ++ Array.replicate (N - vs.toArray.size) undef).getD t undef = undef := by
      rw [Array.getD_eq_getD_getElem?, Array.getElem?_append_right (by simp; rw [h.1]; omega), Array.getElem?_replicate]
      split <;> rfl
    rw [hu]
    exact .d (.v _)

/-- What a result variable holds at the end. -/
def resVal (P : Program) (env : Nat → M) (B : Bx) : ResultVar → Option M
  | .tmp t => some (env t)
  | .cell a t => match cellsAt B (env a) with
    | some (c, o) => loadM P t c o
    | none => none

def resVals (P : Program) (env : Nat → M) (B : Bx) : List ResultVar → Option (List M)
  | [] => some []
  | r :: l => match resVal P env B r, resVals P env B l with
    | some m, some ms => some (m :: ms)
    | _, _ => none

theorem results_ok {w : World} {Γ : G} {env : Nat → M} {B : Bx} {a : Act} (hw : WR w Γ B) (he : ER w Γ N env a) : ∀ {l : List ResultVar} {ms : List M}, resVals P env B l = some ms →
    ∃ vs, (l.mapM (fun r => match r with
      | .tmp t => pure (a.tmps.getD t undef)
      | .cell x t => do loadVar t (← asAddr (a.tmps.getD x undef)) : ResultVar → Sem Value)).run P w = .ok vs w ∧ Args w Γ ms vs
  | [], ms, h => by simp [resVals] at h; subst h; exact ⟨[], by simp, Args.nil⟩
  | r :: l, ms, h => by
    unfold resVals at h
    split at h
    · rename_i m ms' h1 h2
      cases h
      obtain ⟨vs, hr, ha⟩ := results_ok hw he h2
      cases r with
      | tmp t =>
        simp only [resVal, Option.some.injEq] at h1
        subst h1
        exact ⟨_ :: vs, by simp only [List.mapM_cons, Sem.run_bind, Sem.run_pure, Result.andThen_ok, hr], Args.cons (he.slot t) ha⟩
      | cell x t =>
        simp only [resVal] at h1
        split at h1
        · rename_i c o hc
          obtain ⟨b, base, hv, hl⟩ := cellsAt_lies hw (he.slot x) hc
          obtain ⟨v, hrun, hm⟩ := run_load_t hl h1
          refine ⟨v :: vs, ?_, Args.cons hm ha⟩
          simp only [Instr.loadAt, Instr.sureAddr, Sem.run_bind, Sem.run_pure, Result.andThen_ok] at hrun
          have hadr : ∀ x, (asAddr (.pointer (some x))).run P w = .ok x w := fun _ => rfl
          simp only [List.mapM_cons, Sem.run_bind, Sem.run_pure, Result.andThen_ok, hv, hadr, hrun, hr]
        · cases h1
    · cases h

/-- The results in one value. -/
def outV (vs : List Value) : Value := match vs with | [v] => v | vs => .tuple vs.toArray

theorem run_results {w : World} {fn : Func} {a : Act} {vs : List Value} (h : (fn.results.toList.mapM (fun r => match r with
      | .tmp t => pure (a.tmps.getD t undef)
      | .cell x t => do loadVar t (← asAddr (a.tmps.getD x undef)) : ResultVar → Sem Value)).run P w = .ok vs w) :
    (results fn a.tmps).run P w = .ok (outV vs) w := by
  unfold results
  rw [Array.mapM_eq_mapM_toList]
  simp only [Sem.run_bind, Sem.run_map]
  refine (congrArg (fun r => Result.andThen (Result.andThen r _) _) h).trans ?_
  simp only [Result.andThen_ok, Sem.run_pure]
  congr 1
  clear h
  match vs with
  | [] => rfl
  | [v] => rfl
  | _ :: _ :: _ => simp; rfl

/-- What the function returns, in one. -/
def resM (ms : List M) : M := match ms with | [m] => m | ms => .tup ms

theorem resM_ok {w : World} {Γ : G} {ms : List M} {vs : List Value} (h : Args w Γ ms vs) : MR w Γ (resM ms) (outV vs) := by
  match ms, vs, h with
  | [], vs, h =>
    have : vs = [] := List.length_eq_zero_iff.1 (by simpa using h.1)
    subst this
    exact .tup rfl fun i x y h => by simp at h
  | [m], vs, h =>
    obtain ⟨v, vs', rfl, h1, h2⟩ := h.cons_inv
    have : vs' = [] := List.length_eq_zero_iff.1 (by simpa using h2.1)
    subst this
    exact h1
  | m1 :: m2 :: ms, vs, h =>
    obtain ⟨v1, vs1, rfl, h1, h2⟩ := h.cons_inv
    obtain ⟨v2, vs2, rfl, h3, h4⟩ := h2.cons_inv
    exact .tup (by simpa using h.1) fun i x y hx hy => h.2 i x y hx (by simpa using hy)

/-- At the end of a function of pure data. -/
def pureEnd (P : Program) (fn : Func) (m : M) : QT := fun x env B _ => match x with
  | .exit _ => False
  | _ => match resVals P env B fn.results.toList with
    | some ms => resM (frzA P B fn.resultTypes.toList ms).1 = m
    | none => False

theorem PFn.intro {prs : Prs} {f : FuncId} {fn : Func} {c : Code} {args : List M} {m : M}
    (hf : P.funcs[f]? = some fn) (hb : fn.body = some c) (hname : (fn.name == "runtime.NumGoroutine") = false) (hmix : P.follows .mixedOrders = true) (hd : drawsOK prs c = true) (hN : args.length ≤ fn.ntmps)
    (hm : m.p2 = true) (h : awp P fn.ntmps prs c (argEnv args) [] 0 (pureEnd P fn m)) : PFn P f args m := by
  refine ⟨⟨fn, hf, by rw [hb]; rfl, hname⟩, fun lim w vs hL ha => ?_⟩
  refine calls_of_wp hf hb ?_
  have hr : Rel w (pureG lim) fn.ntmps (argEnv args) [] 0 { tmps := vs.toArray ++ Array.replicate (fn.ntmps - vs.toArray.size) undef, defers := [] } :=
    ⟨WR.none w lim, er_begin ha hN, fun p hp => hp.elim⟩
  refine awp_sound hmix c hd (Base.pure hL) hr h fun x env' B' n' Γ' w' a' q1 q2 q3 => ?_
  have fin : (match resVals P env' B' fn.results.toList with
    | some ms => resM (frzA P B' fn.resultTypes.toList ms).1 = m
    | none => False) → a'.defers = [] ∧ ∃ v, (results fn a'.tmps).run P w' = .ok v w' ∧ ∃ cv lim', Ending.returned v = .returned cv ∧ Ext (pureG lim) w (pureG lim') w' ∧ MR w' (pureG lim') m cv := by
    intro hres
    split at hres
    · rename_i ms hms
      obtain ⟨vs', hrun, hargs⟩ := results_ok (P := P) q3.wr q3.er hms
      obtain ⟨Γ2, e2, w2, u2, a2⟩ := frzA_ok (P := P) (ts := fn.resultTypes.toList) q3.wr hargs
      have hmr := resM_ok a2
      rw [hres] at hmr
      have e3 := q2.trans e2
      refine ⟨q3.er.defers, _, run_results hrun, _, Γ2.lim, rfl, ?_, MR.p2 (Γ := Γ2) (Γ' := pureG Γ2.lim) rfl hm hmr⟩
      exact
        { os := e3.os, tape := e3.tape, output := e3.output, size := e3.size, used := fun _ h => h
          keep := fun k hk ho => e3.keep k hk ho
          cells := e3.cells
          lim := e3.lim
          shape := e3.shape
          box := fun _ _ => BI.to_refl _
          new := fun k ⟨p, bi, h, _⟩ => by simp [pureG] at h }
    · exact hres.elim
  cases x with
  | exit i => exact q1.elim
  | normal => exact fin q1
  | ret => exact fin q1

end
end Go.Abs

/- The abstract layer, part V: the rules by which simp carries out a function: values first, one operation at a time. -/
namespace Go.Abs

/-- The next number. -/
def sx (n : Nat) : Nat := n + 1
theorem sx_add {n a : Nat} : sx (n + a) = n + (a + 1) := rfl
theorem sx_lit {n : Nat} (_ : n / 1 = n) : sx n = n + 1 := rfl
/-- x first, then f: simp works on x alone until it is done. -/
def vb {α : Type} (x : α) (f : α → Prop) : Prop := f x
@[congr] theorem vb_congr {α : Type} {x y : α} {f : α → Prop} (h : x = y) : vb x f = vb y f := by rw [h]
theorem vb_eq {α : Type} (x : α) (f : α → Prop) : vb x f = f x := rfl

/-- What is there, then f. -/
def ob {α : Type} (x : Option α) (f : α → Prop) : Prop := match x with | some a => f a | none => False
@[congr] theorem ob_congr {α : Type} {x y : Option α} {f : α → Prop} (h : x = y) : ob x f = ob y f := by rw [h]
theorem ob_some {α : Type} (a : α) (f : α → Prop) : ob (some a) f = f a := rfl
theorem ob_none {α : Type} (f : α → Prop) : ob none f = False := rfl

/-- A test. -/
def bs (b : Bool) (x y : Prop) : Prop := (b = true → x) ∧ (b = false → y)
@[congr] theorem bs_congr {a b : Bool} {x y : Prop} (h : a = b) : bs a x y = bs b x y := by rw [h]
def M.b? : M → Option Bool | .d (.v (.bool b)) => some b | _ => none
theorem b?_bool (b : Bool) : M.b? (.d (.v (.bool b))) = some b := rfl

section
variable {P : Program} {N : Nat} {prs : Prs} {env : Nat → M} {B : Bx} {n : Nat} {Q : QT}

theorem awp_skip : awp P N prs .skip env B n Q = Q .normal env B n := rfl
theorem awp_label {l : Nat} : awp P N prs (.label l) env B n Q = Q .normal env B n := rfl
theorem awp_exit {i : Nat} : awp P N prs (.exit i) env B n Q = Q (.exit i) env B n := rfl
theorem awp_ret : awp P N prs .ret env B n Q = Q .ret env B n := rfl

/-- Behind the first of two pieces. -/
def seqK (P : Program) (N : Nat) (prs : Prs) (b : Code) (Q : QT) : QT := fun x env B n => match x with
  | .normal => awp P N prs b env B n Q
  | x => Q x env B n
theorem awp_seq {a b : Code} : awp P N prs (.seq a b) env B n Q = awp P N prs a env B n (seqK P N prs b Q) := rfl
theorem seqK_normal {b : Code} : seqK P N prs b Q .normal env B n = awp P N prs b env B n Q := rfl
theorem seqK_ret {b : Code} : seqK P N prs b Q .ret env B n = Q .ret env B n := rfl
theorem seqK_exit {b : Code} {i : Nat} : seqK P N prs b Q (.exit i) env B n = Q (.exit i) env B n := rfl

def blockK (id : Nat) (Q : QT) : QT := fun x env B n => match x with
  | .exit i => if i = id then Q .normal env B n else Q (.exit i) env B n
  | x => Q x env B n
theorem awp_block {id : Nat} {c : Code} : awp P N prs (.block id c) env B n Q = awp P N prs c env B n (blockK id Q) := rfl
theorem blockK_normal {id : Nat} : blockK id Q .normal env B n = Q .normal env B n := rfl
theorem blockK_ret {id : Nat} : blockK id Q .ret env B n = Q .ret env B n := rfl
theorem blockK_exit {id i : Nat} : blockK id Q (.exit i) env B n = if i = id then Q .normal env B n else Q (.exit i) env B n := rfl

/-- A fork, left as it stands until the test is known. -/
def fork (P : Program) (N : Nat) (prs : Prs) (b : Bool) (x y : Code) (env : Nat → M) (B : Bx) (n : Nat) (Q : QT) : Prop := (b = true → awp P N prs x env B n Q) ∧ (b = false → awp P N prs y env B n Q)
theorem fork_true {x y : Code} : fork P N prs true x y env B n Q = awp P N prs x env B n Q := by simp [fork]
theorem fork_false {x y : Code} : fork P N prs false x y env B n Q = awp P N prs y env B n Q := by simp [fork]
theorem fork_split {b : Bool} {x y : Code} (h1 : b = true → awp P N prs x env B n Q) (h2 : b = false → awp P N prs y env B n Q) : fork P N prs b x y env B n Q := ⟨h1, h2⟩
@[congr] theorem fork_congr {b b' : Bool} {x y : Code} (h : b = b') : fork P N prs b x y env B n Q = fork P N prs b' x y env B n Q := by rw [h]
theorem awp_cond {c : Operand} {x y : Code} : awp P N prs (.cond c x y) env B n Q = vb (ev env c) fun v => ob v.b? fun b => fork P N prs b x y env B n Q := by
  show (match ev env c with
    | .d (.v (.bool b)) => (b = true → awp P N prs x env B n Q) ∧ (b = false → awp P N prs y env B n Q)
    | _ => False) = _
  simp only [vb]
  generalize ev env c = v
  unfold M.b?
  split
  · rfl
  · rfl

/-- A loop, left as it stands. -/
def aloop (P : Program) (N : Nat) (prs : Prs) (c : Code) (env : Nat → M) (B : Bx) (n : Nat) (Q : QT) : Prop := awp P N prs (.loop c) env B n Q
@[congr] theorem aloop_congr {c : Code} : aloop P N prs c env B n Q = aloop P N prs c env B n Q := rfl
theorem awp_loop {c : Code} : awp P N prs (.loop c) env B n Q = aloop P N prs c env B n Q := rfl

def loopK {σ : Type} (I : σ → (Nat → M) → Bx → Nat → Prop) (μ : σ → Nat) (N k : Nat) (Q : QT) : QT := fun x env B n => match x with
  | .normal => ∃ s1 env1 B1 n1, Wk N env B n env1 B1 n1 ∧ I s1 env1 B1 n1 ∧ μ s1 < k
  | x => Q x env B n

theorem aloop_intro {c : Code} {σ : Type} (I : σ → (Nat → M) → Bx → Nat → Prop) (μ : σ → Nat) (h0 : ∃ s0 env0 B0 n0, Wk N env B n env0 B0 n0 ∧ I s0 env0 B0 n0)
    (h : ∀ s env B n, I s env B n → awp P N prs c env B n (loopK I μ N (μ s) Q)) : aloop P N prs c env B n Q :=
  ⟨σ, I, μ, h0, h⟩

theorem Wk.refl : Wk N env B n env B n := fun _ Γ _ h => ⟨Γ, Ext.refl _ _, h⟩
theorem Wk.trans {env1 env2 : Nat → M} {B1 B2 : Bx} {n1 n2 : Nat} (h1 : Wk N env B n env1 B1 n1) (h2 : Wk N env1 B1 n1 env2 B2 n2) : Wk N env B n env2 B2 n2 := fun w Γ a h => by
  obtain ⟨Γ1, e1, r1⟩ := h1 w Γ a h
  obtain ⟨Γ2, e2, r2⟩ := h2 w Γ1 a r1
  exact ⟨Γ2, e1.trans e2, r2⟩
theorem aloop_wk {c : Code} {env1 : Nat → M} {B1 : Bx} {n1 : Nat} (h1 : Wk N env B n env1 B1 n1) (h : aloop P N prs c env1 B1 n1 Q) : aloop P N prs c env B n Q := by
  obtain ⟨σ, I, μ, ⟨s0, env0, B0, n0, hwk, hI⟩, hround⟩ := h
  exact ⟨σ, I, μ, ⟨s0, env0, B0, n0, h1.trans hwk, hI⟩, hround⟩

/-- The slots that a loop needs, laid over the others. -/
def lv (e0 : Nat → M) : List (Nat × M) → (Nat → M)
  | [] => e0
  | (k, m) :: l => upd (lv e0 l) k m
def lvOK (env : Nat → M) : List (Nat × M) → Prop
  | [] => True
  | (k, m) :: l => env k = m ∧ lvOK env l
theorem lv_nil {e0 : Nat → M} : lv e0 [] = e0 := rfl
theorem lv_cons {e0 : Nat → M} {k : Nat} {m : M} {l : List (Nat × M)} : lv e0 ((k, m) :: l) = upd (lv e0 l) k m := rfl
theorem lvOK_nil : lvOK env [] = True := rfl
theorem lvOK_cons {k : Nat} {m : M} {l : List (Nat × M)} : lvOK env ((k, m) :: l) = (env k = m ∧ lvOK env l) := rfl
theorem lv_self : ∀ {l : List (Nat × M)}, lvOK env l → lv env l = env
  | [], _ => rfl
  | (k, m) :: l, h => by
    rw [lv_cons, lv_self h.2]
    funext t
    simp only [upd]
    split
    · rename_i e; subst e; exact h.1.symm
    · rfl

/-- Behind a round of a loop: the slots that count, and the boxes, are those of a state that is nearer to the end. -/
def loopL {σ : Type} (live : σ → List (Nat × M)) (bx : σ → Bx) (ok : σ → Prop) (μ : σ → Nat) (lo N k : Nat) (Q : QT) : QT := fun x env B n => match x with
  | .normal => ∃ s env1 B1 n1, Wk N env B n env1 B1 n1 ∧ (lvOK env1 (live s) ∧ B1 = bx s ∧ ok s ∧ lo ≤ n1) ∧ μ s < k
  | x => Q x env B n
section
variable {σ : Type} {live : σ → List (Nat × M)} {bx : σ → Bx} {ok : σ → Prop} {μ : σ → Nat} {lo k : Nat}
theorem loopL_ret : loopL live bx ok μ lo N k Q .ret env B n = Q .ret env B n := rfl
theorem loopL_exit {i : Nat} : loopL live bx ok μ lo N k Q (.exit i) env B n = Q (.exit i) env B n := rfl
theorem loopL_next (s : σ) (h1 : lvOK env (live s)) (h2 : B = bx s) (h3 : ok s) (hl : lo ≤ n) (h4 : μ s < k) : ∃ s env1 B1 n1, Wk N env B n env1 B1 n1 ∧ (lvOK env1 (live s) ∧ B1 = bx s ∧ ok s ∧ lo ≤ n1) ∧ μ s < k :=
  ⟨s, env, B, n, Wk.refl, ⟨h1, h2, h3, hl⟩, h4⟩
end
theorem aloop_lv {c : Code} {σ : Type} (live : σ → List (Nat × M)) (bx : σ → Bx) (ok : σ → Prop) (μ : σ → Nat) (lo : Nat) (s0 : σ) (h0 : lvOK env (live s0)) (hb : B = bx s0) (hok : ok s0) (hl : lo ≤ n)
    (h : ∀ s e0 n, ok s → awp P N prs c (lv e0 (live s)) (bx s) (n + lo) (loopL live bx ok μ lo N (μ s) Q)) : aloop P N prs c env B n Q :=
  ⟨σ, fun s env B n => lvOK env (live s) ∧ B = bx s ∧ ok s ∧ lo ≤ n, μ, ⟨s0, env, B, n, Wk.refl, h0, hb, hok, hl⟩, fun s env B n ⟨h1, h2, h3, h4⟩ => by
    have := h s env (n - lo) h3
    rw [lv_self h1, ← h2, Nat.sub_add_cancel h4] at this
    exact this⟩

theorem awp_region {id : Nat} {ops : Array Oper} : awp P N prs (.region id ops false) env B n Q = aops P N ops ops.toList env B n (Q .normal) := rfl

/-- The end of a region that draws its order. -/
def drawK (pairs : List (Nat × Nat)) (Q : (Nat → M) → Bx → Nat → Prop) : (Nat → M) → Bx → Nat → Acc → Prop := fun env B n acc => clashes acc pairs ∧ Q env B n
/-- What is drawn, and what comes behind it in sequence. -/
def dgo (P : Program) (N : Nat) (ops : Array Oper) (pairs : List (Nat × Nat)) (env : Nat → M) (B : Bx) (n : Nat) (Q : (Nat → M) → Bx → Nat → Prop) : Option Nat → Prop
  | none => aopsD P N ops ops.toList env B n [] (drawK pairs Q)
  | some k => aopsD P N ops (ops.toList.take k) env B n [] (drawK pairs fun env' B' n' => aops P N ops (ops.toList.drop k) env' B' n' Q)
@[congr] theorem dgo_congr {ops : Array Oper} {pairs : List (Nat × Nat)} {Q : (Nat → M) → Bx → Nat → Prop} {x x' : Option Nat} (h : x = x') : dgo P N ops pairs env B n Q x = dgo P N ops pairs env B n Q x' := by rw [h]
theorem dgo_none {ops : Array Oper} {pairs : List (Nat × Nat)} {Q : (Nat → M) → Bx → Nat → Prop} : dgo P N ops pairs env B n Q none = aopsD P N ops ops.toList env B n [] (drawK pairs Q) := rfl
theorem dgo_some {ops : Array Oper} {pairs : List (Nat × Nat)} {Q : (Nat → M) → Bx → Nat → Prop} {k : Nat} : dgo P N ops pairs env B n Q (some k) = aopsD P N ops (ops.toList.take k) env B n [] (drawK pairs fun env' B' n' => aops P N ops (ops.toList.drop k) env' B' n' Q) := rfl
theorem tailOf_nil : tailOf [] = none := rfl
theorem tailOf_cons {a b : Nat} {l : List (Nat × Nat)} : tailOf ((a, b) :: l) = if a = b then some a else tailOf l := rfl
theorem awp_draw {id : Nat} {ops : Array Oper} : awp P N prs (.region id ops true) env B n Q =
    ob (prs.get id) fun pairs => dgo P N ops pairs env B n (Q .normal) (tailOf pairs) := by
  show adraw P N prs id env B n ops (Q .normal) = _
  unfold adraw
  cases prs.get id with
  | none => rfl
  | some pairs =>
    simp only [ob, dgo, drawK]
    cases tailOf pairs <;> rfl
theorem drawK_eq {pairs : List (Nat × Nat)} {Q : (Nat → M) → Bx → Nat → Prop} {acc : Acc} : drawK pairs Q env B n acc = (clashes acc pairs ∧ Q env B n) := rfl

variable {ops : Array Oper} {l : List Oper} {QA : (Nat → M) → Bx → Nat → Prop} {d : Option Tmp} {op : Op} {ty : TypeId} {pos : String} {af : Array Edge}

/-- Behind an operation. -/
def opK (P : Program) (N : Nat) (ops : Array Oper) (d : Option Tmp) (l : List Oper) (env : Nat → M) (Q : (Nat → M) → Bx → Nat → Prop) : KT :=
  fun m B' n' => aput N env d m fun env' => aops P N ops l env' B' n' Q
theorem opK_some {t : Nat} {m : M} (h : t < N) : opK P N ops (some t) l env QA m B n = vb m fun m => aops P N ops l (upd env t m) B n QA := by
  simp [opK, aput, h, vb]
theorem opK_none {m : M} : opK P N ops none l env QA m B n = aops P N ops l env B n QA := rfl
theorem aops_nil : aops P N ops [] env B n QA = QA env B n := rfl
theorem aops_cons : aops P N ops ({ dst := d, op := op, type := ty, pos := pos, after := af, guard := none } :: l) env B n QA = astep P env B n op (opK P N ops d l env QA) := rfl
/-- What a guard says: yes, no, or that it has not been asked itself. -/
def M.g? : M → Option (Option Bool) | .d (.v (.bool b)) => some (some b) | .d (.v (.tuple ⟨[]⟩)) => some none | _ => none
theorem g?_bool (b : Bool) : M.g? (.d (.v (.bool b))) = some (some b) := rfl
theorem g?_undef : M.g? undefM = some none := rfl
/-- A guarded operation, left as it stands until the guard is known. -/
def gfork (P : Program) (N : Nat) (ops : Array Oper) (j : Nat) (want : Bool) (d : Option Tmp) (op : Op) (l : List Oper) (b : Bool) (env : Nat → M) (B : Bx) (n : Nat) (Q : (Nat → M) → Bx → Nat → Prop) : Prop :=
  (b = want → astep P (gset ops env j want) B n op (opK P N ops d l (gset ops env j want) Q)) ∧ ((b = !want) → aput N (gset ops env j (!want)) d undefM fun env' => aops P N ops l env' B n Q)
@[congr] theorem gfork_congr {j : Nat} {want b b' : Bool} (h : b = b') : gfork P N ops j want d op l b env B n QA = gfork P N ops j want d op l b' env B n QA := by rw [h]
def gpass (P : Program) (N : Nat) (ops : Array Oper) (d : Option Tmp) (l : List Oper) (env : Nat → M) (B : Bx) (n : Nat) (Q : (Nat → M) → Bx → Nat → Prop) : Prop := aput N env d undefM fun env' => aops P N ops l env' B n Q
/-- The guard's answer. -/
def gask (P : Program) (N : Nat) (ops : Array Oper) (j : Nat) (want : Bool) (d : Option Tmp) (op : Op) (l : List Oper) (env : Nat → M) (B : Bx) (n : Nat) (Q : (Nat → M) → Bx → Nat → Prop) : Option Bool → Prop
  | some b => gfork P N ops j want d op l b env B n Q
  | none => gpass P N ops d l env B n Q
theorem gask_some {j : Nat} {want b : Bool} : gask P N ops j want d op l env B n QA (some b) = gfork P N ops j want d op l b env B n QA := rfl
theorem gask_none {j : Nat} {want : Bool} : gask P N ops j want d op l env B n QA none = gpass P N ops d l env B n QA := rfl
theorem g?_cases (v : M) : (∃ b, v = .d (.v (.bool b))) ∨ v = undefM ∨ (v.g? = none ∧ v ≠ undefM ∧ ∀ b, v ≠ .d (.v (.bool b))) := by
  by_cases h1 : ∃ b, v = .d (.v (.bool b))
  · exact .inl h1
  · by_cases h2 : v = undefM
    · exact .inr (.inl h2)
    · refine .inr (.inr ⟨?_, h2, fun b hb => h1 ⟨b, hb⟩⟩)
      unfold M.g?
      split
      · exact absurd ⟨_, rfl⟩ h1
      · exact absurd rfl h2
      · rfl
theorem guard_match {α : Prop} {v : M} {f : Bool → Prop} (hb : ∀ b, v = .d (.v (.bool b)) → α = f b) {p : Prop} (hu : v = undefM → α = p) (hn : v ≠ undefM → (∀ b, v ≠ .d (.v (.bool b))) → ¬ α) :
    α = ob v.g? fun o => match o with | some b => f b | none => p := by
  rcases g?_cases v with ⟨b, hv⟩ | hv | ⟨h1, h2, h3⟩
  · rw [hb b hv, hv]; rfl
  · rw [hu hv, hv]; rfl
  · rw [h1]
    exact propext ⟨fun h => hn h2 h3 h, fun h => h.elim⟩
theorem aops_guard {j : Nat} {want : Bool} : aops P N ops ({ dst := d, op := op, type := ty, pos := pos, after := af, guard := some (j, want) } :: l) env B n QA = ob (guardV ops env j).g? (gask P N ops j want d op l env B n QA) := by
  have e : gask P N ops j want d op l env B n QA = fun o => match o with | some b => gfork P N ops j want d op l b env B n QA | none => gpass P N ops d l env B n QA := by
    funext o; cases o <;> rfl
  rw [e]
  refine guard_match (fun b hb => ?_) (fun hu => ?_) (fun h1 h2 => ?_)
  · rw [aops]; simp only [hb]; rfl
  · rw [aops]; simp only [hu]; simp only [undefM, undef]; simp; rfl
  · rw [aops]
    simp only
    exact fun h => h1 h.1
/-- The guarded operation is carried out, or passed over. -/
def gdo (P : Program) (N : Nat) (ops : Array Oper) (d : Option Tmp) (op : Op) (l : List Oper) (env : Nat → M) (B : Bx) (n : Nat) (Q : (Nat → M) → Bx → Nat → Prop) : Prop := astep P env B n op (opK P N ops d l env Q)
theorem gdo_eq : gdo P N ops d op l env B n QA = astep P env B n op (opK P N ops d l env QA) := rfl
theorem gpass_some {t : Nat} (h : t < N) : gpass P N ops (some t) l env B n QA = aops P N ops l (upd env t undefM) B n QA := by simp [gpass, aput, h]
theorem gpass_none : gpass P N ops none l env B n QA = aops P N ops l env B n QA := rfl
theorem gfork_tt {j : Nat} : gfork P N ops j true d op l true env B n QA = vb (gset ops env j true) fun env => gdo P N ops d op l env B n QA := by simp [gfork, vb, gdo]
theorem gfork_ft {j : Nat} : gfork P N ops j true d op l false env B n QA = vb (gset ops env j false) fun env => gpass P N ops d l env B n QA := by simp [gfork, vb, gpass]
theorem gfork_tf {j : Nat} : gfork P N ops j false d op l true env B n QA = vb (gset ops env j true) fun env => gpass P N ops d l env B n QA := by simp [gfork, vb, gpass]
theorem gfork_ff {j : Nat} : gfork P N ops j false d op l false env B n QA = vb (gset ops env j false) fun env => gdo P N ops d op l env B n QA := by simp [gfork, vb, gdo]
theorem gfork_split {j : Nat} {want b : Bool} (h1 : b = true → gfork P N ops j want d op l true env B n QA) (h2 : b = false → gfork P N ops j want d op l false env B n QA) :
    gfork P N ops j want d op l b env B n QA := by cases b <;> simp_all

/-- The slot of an operation. -/
def gslot (ops : Array Oper) (j : Nat) : Option Tmp := (ops[j]?).bind (·.dst)
/-! A region that draws its order. -/
variable {acc : Acc} {QD : (Nat → M) → Bx → Nat → Acc → Prop}
def opKD (P : Program) (N : Nat) (ops : Array Oper) (d : Option Tmp) (l : List Oper) (env : Nat → M) (n : Nat) (acc : Acc) (Q : (Nat → M) → Bx → Nat → Acc → Prop) : K2 :=
  fun m B' => aput N env d m fun env' => aopsD P N ops l env' B' (n + 1) acc Q
theorem opKD_some {t : Nat} {m : M} (h : t < N) : opKD P N ops (some t) l env n acc QD m B = vb m fun m => vb (sx n) fun n => aopsD P N ops l (upd env t m) B n acc QD := by
  simp [opKD, aput, h, vb, sx]
theorem opKD_none {m : M} : opKD P N ops none l env n acc QD m B = vb (sx n) fun n => aopsD P N ops l env B n acc QD := rfl
theorem aopsD_nil : aopsD P N ops [] env B n acc QD = QD env B n acc := rfl
/-- The operation, and what it looks at and writes. -/
def dstep (P : Program) (N : Nat) (ops : Array Oper) (d : Option Tmp) (op : Op) (l : List Oper) (env : Nat → M) (B : Bx) (n : Nat) (acc : Acc) (Q : (Nat → M) → Bx → Nat → Acc → Prop) : Prop :=
  vb (touch (ev env) op) fun T => vb (wrs (ev env) n op) fun W => vb (acc ++ [(T, W)]) fun acc => astepD P env B n op (opKD P N ops d l env n acc Q)
theorem dstep_eq : dstep P N ops d op l env B n acc QD = vb (touch (ev env) op) fun T => vb (wrs (ev env) n op) fun W => vb (acc ++ [(T, W)]) fun acc => astepD P env B n op (opKD P N ops d l env n acc QD) := rfl
theorem aopsD_cons : aopsD P N ops ({ dst := d, op := op, type := ty, pos := pos, after := af, guard := none } :: l) env B n acc QD = dstep P N ops d op l env B n acc QD := rfl
def dfork (P : Program) (N : Nat) (ops : Array Oper) (j : Nat) (want : Bool) (d : Option Tmp) (op : Op) (l : List Oper) (b : Bool) (env : Nat → M) (B : Bx) (n : Nat) (acc : Acc) (Q : (Nat → M) → Bx → Nat → Acc → Prop) : Prop :=
  (b = want → dstep P N ops d op l (gset ops env j want) B n acc Q) ∧ ((b = !want) → aput N (gset ops env j (!want)) d undefM fun env' => aopsD P N ops l env' B (n + 1) (acc ++ [([], [])]) Q)
@[congr] theorem dfork_congr {j : Nat} {want b b' : Bool} (h : b = b') : dfork P N ops j want d op l b env B n acc QD = dfork P N ops j want d op l b' env B n acc QD := by rw [h]
def dpass (P : Program) (N : Nat) (ops : Array Oper) (d : Option Tmp) (l : List Oper) (env : Nat → M) (B : Bx) (n : Nat) (acc : Acc) (Q : (Nat → M) → Bx → Nat → Acc → Prop) : Prop :=
  aput N env d undefM fun env' => aopsD P N ops l env' B (n + 1) (acc ++ [([], [])]) Q
def dask (P : Program) (N : Nat) (ops : Array Oper) (j : Nat) (want : Bool) (d : Option Tmp) (op : Op) (l : List Oper) (env : Nat → M) (B : Bx) (n : Nat) (acc : Acc) (Q : (Nat → M) → Bx → Nat → Acc → Prop) : Option Bool → Prop
  | some b => dfork P N ops j want d op l b env B n acc Q
  | none => dpass P N ops d l env B n acc Q
theorem dask_some {j : Nat} {want b : Bool} : dask P N ops j want d op l env B n acc QD (some b) = dfork P N ops j want d op l b env B n acc QD := rfl
theorem dask_none {j : Nat} {want : Bool} : dask P N ops j want d op l env B n acc QD none = dpass P N ops d l env B n acc QD := rfl
theorem aopsD_guard {j : Nat} {want : Bool} : aopsD P N ops ({ dst := d, op := op, type := ty, pos := pos, after := af, guard := some (j, want) } :: l) env B n acc QD = ob (guardV ops env j).g? (dask P N ops j want d op l env B n acc QD) := by
  have e : dask P N ops j want d op l env B n acc QD = fun o => match o with | some b => dfork P N ops j want d op l b env B n acc QD | none => dpass P N ops d l env B n acc QD := by
    funext o; cases o <;> rfl
  rw [e]
  refine guard_match (fun b hb => ?_) (fun hu => ?_) (fun h1 h2 => ?_)
  · rw [aopsD]; simp only [hb]; rfl
  · rw [aopsD]; simp only [hu]; simp only [undefM, undef]; simp; rfl
  · rw [aopsD]
    simp only
    exact fun h => h1 h.1
theorem dpass_some {t : Nat} (h : t < N) : dpass P N ops (some t) l env B n acc QD = vb (sx n) fun n => vb (acc ++ [([], [])]) fun acc => aopsD P N ops l (upd env t undefM) B n acc QD := by simp [dpass, aput, h, vb, sx]
theorem dpass_none : dpass P N ops none l env B n acc QD = vb (sx n) fun n => vb (acc ++ [([], [])]) fun acc => aopsD P N ops l env B n acc QD := rfl
theorem dfork_tt {j : Nat} : dfork P N ops j true d op l true env B n acc QD = vb (gset ops env j true) fun env => dstep P N ops d op l env B n acc QD := by simp [dfork, vb]
theorem dfork_ft {j : Nat} : dfork P N ops j true d op l false env B n acc QD = vb (gset ops env j false) fun env => dpass P N ops d l env B n acc QD := by simp [dfork, vb, dpass]
theorem dfork_tf {j : Nat} : dfork P N ops j false d op l true env B n acc QD = vb (gset ops env j true) fun env => dpass P N ops d l env B n acc QD := by simp [dfork, vb, dpass]
theorem dfork_ff {j : Nat} : dfork P N ops j false d op l false env B n acc QD = vb (gset ops env j false) fun env => dstep P N ops d op l env B n acc QD := by simp [dfork, vb]
theorem dfork_split {j : Nat} {want b : Bool} (h1 : b = true → dfork P N ops j want d op l true env B n acc QD) (h2 : b = false → dfork P N ops j want d op l false env B n acc QD) :
    dfork P N ops j want d op l b env B n acc QD := by cases b <;> simp_all

/-! One operation. -/
variable {K : KT} {K2' : K2}

/-- On to the next number. -/
def k1 (K : KT) (n : Nat) : K2 := fun m B' => K m B' (n + 1)
theorem k1_eq {m : M} : k1 K n m B = vb (sx n) fun n => K m B n := rfl

theorem s_move {x : Operand} : astep P env B n (.move x) K = k1 K n (ev env x) B := rfl
theorem s_assign {x : Operand} : astep P env B n (.assign x) K = k1 K n (ev env x) B := rfl
theorem s_pick {c a b : Operand} : astep P env B n (.pick c a b) K = aPick (ev env c) (ev env a) (ev env b) B (k1 K n) := rfl
theorem s_alloc {t : TypeId} : astep P env B n (.alloc t) K = aAlloc P t B n (k1 K n) := rfl
theorem s_box {t : TypeId} {x : Operand} : astep P env B n (.box t x) K = aBox (ev env x) B n (k1 K n) := rfl
theorem s_build {t : TypeId} {ps : Array (Nat × Operand)} : astep P env B n (.build t ps) K = vb (ps.toList.map fun (i, x) => (i, ev env x)) fun ps => aBuild P t ps B (k1 K n) := rfl
theorem s_buildSlice {t : TypeId} {len : Nat} {ps : Array (Nat × Operand)} :
    astep P env B n (.buildSlice t len ps) K = vb (ps.toList.map fun (i, x) => (i, ev env x)) fun ps => aBuildSlice P t len ps B n (k1 K n) := rfl
theorem s_load {t : TypeId} {a : Operand} : astep P env B n (.load t a) K = aLoad P t (ev env a) B (k1 K n) := rfl
theorem s_store {t : TypeId} {a x : Operand} : astep P env B n (.store t a x) K = aStore P t (ev env a) (ev env x) B (k1 K n) := rfl
theorem s_nilCheck {a : Operand} : astep P env B n (.nilCheck a) K = aNilCheck (ev env a) B (k1 K n) := rfl
theorem s_binOp {o : BinOp} {t u : TypeId} {x y : Operand} : astep P env B n (.binOp o t x y u) K = aBin P o t x y (ev env x) (ev env y) B (k1 K n) := rfl
theorem s_unOp {o : UnOp} {t : TypeId} {x : Operand} : astep P env B n (.unOp o t x) K = aUn P o (ev env x) B (k1 K n) := rfl
theorem s_convert {s t : TypeId} {x : Operand} : astep P env B n (.convert s t x) K = aConv P s t (ev env x) B n (k1 K n) := rfl
theorem s_makeFunc {f : Fn} {a b : Array Operand} : astep P env B n (.makeFunc f a b) K = vb (a.toList.map (ev env)) fun a => vb (b.toList.map (ev env)) fun b => k1 K n (.fn f a b) B := rfl
theorem s_makeSlice {t : TypeId} {a b : Operand} : astep P env B n (.makeSlice t a b) K = aMakeSlice P t (ev env a) (ev env b) B n (k1 K n) := rfl
theorem s_slice {t : TypeId} {x : Operand} {a b c : Option Operand} : astep P env B n (.slice t x a b c) K =
    vb (a.map (ev env)) fun a => vb (b.map (ev env)) fun b => vb (c.map (ev env)) fun c => aSlice P t (ev env x) a b c B (k1 K n) := rfl
theorem s_fieldAddr {t : TypeId} {x : Operand} {f : Nat} : astep P env B n (.fieldAddr t x f) K = aFieldAddr P t (ev env x) f B (k1 K n) := rfl
theorem s_field {t : TypeId} {x : Operand} {f : Nat} : astep P env B n (.field t x f) K = aField P t (ev env x) f B (k1 K n) := rfl
theorem s_indexAddr {t : TypeId} {x i : Operand} : astep P env B n (.indexAddr t x i) K = aIndexAddr P t (ev env x) (ev env i) B (k1 K n) := rfl
theorem s_index {t : TypeId} {x i : Operand} : astep P env B n (.index t x i) K = aIndex P t (ev env x) (ev env i) B (k1 K n) := rfl
theorem s_extract {x : Operand} {i : Nat} : astep P env B n (.extract x i) K = aExtract (ev env x) i B (k1 K n) := rfl
theorem s_builtin {b : Builtin} {args : Array Operand} {ts : Array TypeId} : astep P env B n (.call { callee := .builtin b, args := args, argTypes := ts }) K =
    vb (args.toList.map (ev env)) fun as => aBuiltin P b ts.toList as B n (k1 K n) := rfl

/-- A call, with the arguments as they go. -/
def acall1 (P : Program) (f : FuncId) (pa : List M) (B' : Bx) (as : List M) (B : Bx) (n : Nat) (K : KT) : Prop :=
  (∃ m, PFn P f pa m ∧ pa.all M.p1 = true ∧ m.p2 = true ∧ K m B' n) ∨ AFn P f as B n K ∨ AFn P f pa B' n K
@[congr] theorem acall1_congr {f : FuncId} {pa pa' as as' : List M} {B' B'' : Bx} (h1 : pa = pa') (h2 : as = as') (h3 : B' = B'') :
    acall1 P f pa B' as B n K = acall1 P f pa' B'' as' B n K := by rw [h1, h2, h3]
theorem s_call {f : Operand} {args : Array Operand} {ts : Array TypeId} : astep P env B n (.call { callee := .value f, args := args, argTypes := ts }) K =
    vb (ev env f) fun v => match v with
      | .fn (.func k) fs cs => vb (args.toList.map (ev env)) fun as => vb (frzA P B ts.toList as) fun r => vb (sx n) fun n => acall1 P k (fs ++ r.1 ++ cs) r.2 (fs ++ as ++ cs) B n K
      | _ => False := rfl
theorem acall1_pure {f : FuncId} {pa as : List M} {B' : Bx} {m : M} (h : PFn P f pa m) (h1 : pa.all M.p1 = true) (h2 : m.p2 = true) (hk : K m B' n) : acall1 P f pa B' as B n K :=
  .inl ⟨m, h, h1, h2, hk⟩
theorem acall1_inl {f : FuncId} {pa as : List M} {B' : Bx} (h : AFn P f as B n K) : acall1 P f pa B' as B n K := .inr (.inl h)
/-- A call in a region that draws. -/
def dcall1 (P : Program) (f : FuncId) (pa : List M) (B : Bx) (n : Nat) (K : K2) : Prop := (∃ m, PFn P f pa m ∧ pa.all M.p1 = true ∧ m.p2 = true ∧ K m B) ∨
  (∃ sz l r, OFn P f pa sz l r ∧ pa.all M.p1 = true ∧ oOK r = true ∧ K (oRes (.hsl n l.length) r) ((n, .ar false sz (pure2 l)) :: B))
@[congr] theorem dcall1_congr {f : FuncId} {pa pa' : List M} {B' B'' : Bx} (h1 : pa = pa') (h3 : B' = B'') : dcall1 P f pa B' n K2' = dcall1 P f pa' B'' n K2' := by rw [h1, h3]
theorem dcall1_pure {f : FuncId} {pa : List M} {B' : Bx} {m : M} (h : PFn P f pa m) (h1 : pa.all M.p1 = true) (h2 : m.p2 = true) (hk : K2' m B') : dcall1 P f pa B' n K2' := .inl ⟨m, h, h1, h2, hk⟩
theorem dcall1_own {f : FuncId} {pa : List M} {B' : Bx} {sz : Nat} {l : List (List D)} {r : Option (List M)} (h : OFn P f pa sz l r) (h1 : pa.all M.p1 = true) (h2 : oOK r = true)
    (hk : vb (oRes (.hsl n l.length) r) fun m => K2' m ((n, .ar false sz (pure2 l)) :: B')) : dcall1 P f pa B' n K2' := .inr ⟨sz, l, r, h, h1, h2, hk⟩
theorem oRes_none {h : M} : oRes h none = h := rfl
theorem oRes_some {h : M} {r : List M} : oRes h (some r) = .tup (h :: r) := rfl

end

/-! simp works on the values of an operation alone. -/
section
variable {P : Program} {B : Bx} {n : Nat} {K : K2} {a a' b b' c c' : M} {t : TypeId}
@[congr] theorem cg_k1 {K : KT} (h : a = a') : k1 K n a B = k1 K n a' B := by rw [h]
@[congr] theorem cg_pick (h1 : a = a') (h2 : b = b') (h3 : c = c') : aPick a b c B K = aPick a' b' c' B K := by rw [h1, h2, h3]
@[congr] theorem cg_alloc : aAlloc P t B n K = aAlloc P t B n K := rfl
@[congr] theorem cg_box (h : a = a') : aBox a B n K = aBox a' B n K := by rw [h]
@[congr] theorem cg_load (h : a = a') : aLoad P t a B K = aLoad P t a' B K := by rw [h]
@[congr] theorem cg_store (h1 : a = a') (h2 : b = b') : aStore P t a b B K = aStore P t a' b' B K := by rw [h1, h2]
@[congr] theorem cg_nil (h : a = a') : aNilCheck a B K = aNilCheck a' B K := by rw [h]
@[congr] theorem cg_bin {o : BinOp} {x y : Operand} (h1 : a = a') (h2 : b = b') : aBin P o t x y a b B K = aBin P o t x y a' b' B K := by rw [h1, h2]
@[congr] theorem cg_un {o : UnOp} (h : a = a') : aUn P o a B K = aUn P o a' B K := by rw [h]
@[congr] theorem cg_conv {s : TypeId} (h : a = a') : aConv P s t a B n K = aConv P s t a' B n K := by rw [h]
@[congr] theorem cg_mkS (h1 : a = a') (h2 : b = b') : aMakeSlice P t a b B n K = aMakeSlice P t a' b' B n K := by rw [h1, h2]
@[congr] theorem cg_slice {x y z : Option M} (h : a = a') : aSlice P t a x y z B K = aSlice P t a' x y z B K := by rw [h]
@[congr] theorem cg_fA {f : Nat} (h : a = a') : aFieldAddr P t a f B K = aFieldAddr P t a' f B K := by rw [h]
@[congr] theorem cg_f {f : Nat} (h : a = a') : aField P t a f B K = aField P t a' f B K := by rw [h]
@[congr] theorem cg_iA (h1 : a = a') (h2 : b = b') : aIndexAddr P t a b B K = aIndexAddr P t a' b' B K := by rw [h1, h2]
@[congr] theorem cg_i (h1 : a = a') (h2 : b = b') : aIndex P t a b B K = aIndex P t a' b' B K := by rw [h1, h2]
@[congr] theorem cg_ex {i : Nat} (h : a = a') : aExtract a i B K = aExtract a' i B K := by rw [h]
@[congr] theorem cg_build {ps : List (Nat × M)} : aBuild P t ps B K = aBuild P t ps B K := rfl
@[congr] theorem cg_buildS {ps : List (Nat × M)} {l : Nat} : aBuildSlice P t l ps B n K = aBuildSlice P t l ps B n K := rfl
@[congr] theorem cg_builtin {o : Builtin} {ts : List TypeId} {as : List M} : aBuiltin P o ts as B n K = aBuiltin P o ts as B n K := rfl
@[congr] theorem cg_append {ts : List TypeId} : aAppend P ts a b B n K = aAppend P ts a b B n K := rfl
@[congr] theorem cg_copy {ts : List TypeId} : aCopy P ts a b B K = aCopy P ts a b B K := rfl
@[congr] theorem cg_len {ts : List TypeId} : aLen P ts a B K = aLen P ts a B K := rfl
@[congr] theorem cg_min : aMin a b B K = aMin a b B K := rfl
@[congr] theorem cg_max : aMax a b B K = aMax a b B K := rfl
@[congr] theorem cg_kopt {o o' : Option Value} (h : o = o') : kopt o B K = kopt o' B K := by rw [h]

theorem pureSem_bind {α β : Type} (s : Sem α) (f : α → Sem β) : pureSem P (s >>= f) = (pureSem P s).bind fun a => pureSem P (f a) := by
  show pureSem P (s.bind f) = _
  induction s with
  | pure a => rfl
  | program k ih => exact ih P
  | _ => rfl
theorem pureSem_pure {α : Type} (a : α) : pureSem P (pure a : Sem α) = some a := rfl

theorem pick_true : aPick (.d (.v (.bool true))) a b B K = K a B := by
  unfold aPick
  split
  · rename_i t h
    cases h
    split
    · rfl
    · simp
  · rename_i h; exact absurd rfl (h true)
theorem pick_false : aPick (.d (.v (.bool false))) a b B K = K b B := by
  unfold aPick
  split
  · rename_i t h
    cases h
    split
    · rfl
    · simp
  · rename_i h; exact absurd rfl (h false)
theorem pick_bool {t x y : Bool} : aPick (.d (.v (.bool t))) (.d (.v (.bool x))) (.d (.v (.bool y))) B K = K (.d (.v (.bool (bif t then x else y)))) B := rfl

variable {xo yo : Operand} {k : IntKind} {x y : Int}
theorem eqGuard_int {op : BinOp} {k' : IntKind} : pureSem P (eqGuard op t xo yo (.int k x) (.int k' y)) = some () := by cases op <;> rfl
theorem bin_of {op : BinOp} {v w : Value} (r : Value) (hg : pureSem P (eqGuard op t xo yo v w) = some ()) (h : pureSem P (binOp op t v w) = some r) :
    aBin P op t xo yo (.d (.v v)) (.d (.v w)) B K = K (ofV r) B := by
  show kopt (pureSem P (eqGuard op t xo yo v w >>= fun _ => binOp op t v w)) B K = _
  rw [pureSem_bind, hg, Option.bind_some, h]
  rfl
theorem bin_add : aBin P .add t xo yo (.d (.v (.int k x))) (.d (.v (.int k y))) B K = K (.d (.v (.int k (k.wrap (x + y))))) B :=
  bin_of (.int k (k.wrap (x + y))) eqGuard_int (by simp [binOp, Op.intArith] <;> rfl)
theorem bin_sub : aBin P .sub t xo yo (.d (.v (.int k x))) (.d (.v (.int k y))) B K = K (.d (.v (.int k (k.wrap (x - y))))) B :=
  bin_of (.int k (k.wrap (x - y))) eqGuard_int (by simp [binOp, Op.intArith] <;> rfl)
theorem bin_mul : aBin P .mul t xo yo (.d (.v (.int k x))) (.d (.v (.int k y))) B K = K (.d (.v (.int k (k.wrap (x * y))))) B :=
  bin_of (.int k (k.wrap (x * y))) eqGuard_int (by simp [binOp, Op.intArith] <;> rfl)
theorem bin_quo (h : y ≠ 0) : aBin P .quo t xo yo (.d (.v (.int k x))) (.d (.v (.int k y))) B K = K (.d (.v (.int k (k.wrap (x.tdiv y))))) B :=
  bin_of (.int k (k.wrap (x.tdiv y))) eqGuard_int (by simp [binOp, Op.intDiv, h] <;> rfl)
theorem bin_rem (h : y ≠ 0) : aBin P .rem t xo yo (.d (.v (.int k x))) (.d (.v (.int k y))) B K = K (.d (.v (.int k (x.tmod y)))) B :=
  bin_of (.int k (x.tmod y)) eqGuard_int (by simp [binOp, Op.intDiv, h] <;> rfl)
def bAnd (k : IntKind) (x y : Int) : Int := k.wrap (BitVec.ofInt k.bits x &&& BitVec.ofInt k.bits y).toNat
def bOr (k : IntKind) (x y : Int) : Int := k.wrap (BitVec.ofInt k.bits x ||| BitVec.ofInt k.bits y).toNat
def bXor (k : IntKind) (x y : Int) : Int := k.wrap (BitVec.ofInt k.bits x ^^^ BitVec.ofInt k.bits y).toNat
theorem bin_and : aBin P .and t xo yo (.d (.v (.int k x))) (.d (.v (.int k y))) B K = K (.d (.v (.int k (bAnd k x y)))) B :=
  bin_of (.int k (bAnd k x y)) eqGuard_int (by simp [binOp, Op.intBits] <;> rfl)
theorem bin_or : aBin P .or t xo yo (.d (.v (.int k x))) (.d (.v (.int k y))) B K = K (.d (.v (.int k (bOr k x y)))) B :=
  bin_of (.int k (bOr k x y)) eqGuard_int (by simp [binOp, Op.intBits] <;> rfl)
theorem bin_xor : aBin P .xor t xo yo (.d (.v (.int k x))) (.d (.v (.int k y))) B K = K (.d (.v (.int k (bXor k x y)))) B :=
  bin_of (.int k (bXor k x y)) eqGuard_int (by simp [binOp, Op.intBits] <;> rfl)
theorem bin_lss : aBin P .lss t xo yo (.d (.v (.int k x))) (.d (.v (.int k y))) B K = K (.d (.v (.bool (decide (x < y))))) B :=
  bin_of (.bool (decide (x < y))) eqGuard_int (by simp [binOp, Op.intCmp] <;> rfl)
theorem bin_leq : aBin P .leq t xo yo (.d (.v (.int k x))) (.d (.v (.int k y))) B K = K (.d (.v (.bool (decide (x ≤ y))))) B :=
  bin_of (.bool (decide (x ≤ y))) eqGuard_int (by simp [binOp, Op.intCmp] <;> rfl)
theorem bin_gtr : aBin P .gtr t xo yo (.d (.v (.int k x))) (.d (.v (.int k y))) B K = K (.d (.v (.bool (decide (y < x))))) B :=
  bin_of (.bool (decide (y < x))) eqGuard_int (by simp [binOp, Op.intCmp] <;> rfl)
theorem bin_geq : aBin P .geq t xo yo (.d (.v (.int k x))) (.d (.v (.int k y))) B K = K (.d (.v (.bool (decide (y ≤ x))))) B :=
  bin_of (.bool (decide (y ≤ x))) eqGuard_int (by simp [binOp, Op.intCmp] <;> rfl)
theorem bin_eql : aBin P .eql t xo yo (.d (.v (.int k x))) (.d (.v (.int k y))) B K = K (.d (.v (.bool (decide (x = y))))) B :=
  bin_of (.bool (decide (x = y))) eqGuard_int (by
    have : (x == y) = decide (x = y) := by { rw [Bool.eq_iff_iff]; simp }
    simp [binOp, Op.intCmp, this] <;> rfl)
theorem bin_neq : aBin P .neq t xo yo (.d (.v (.int k x))) (.d (.v (.int k y))) B K = K (.d (.v (.bool (!decide (x = y))))) B :=
  bin_of (.bool (!decide (x = y))) eqGuard_int (by
    have : (x == y) = decide (x = y) := by { rw [Bool.eq_iff_iff]; simp }
    simp [binOp, Op.intCmp, bne, this] <;> rfl)
theorem bin_shl {k' : IntKind} (h : 0 ≤ y) (h1 : y ≤ k.bits) : aBin P .shl t xo yo (.d (.v (.int k x))) (.d (.v (.int k' y))) B K = K (.d (.v (.int k (k.wrap (x * 2 ^ y.toNat))))) B :=
  bin_of (.int k (k.wrap (x * 2 ^ y.toNat))) eqGuard_int (by
    have h' : ¬ y < 0 := by omega
    have h2 : min y.toNat k.bits = y.toNat := by omega
    simp [binOp, Op.shift, h', h2] <;> rfl)
theorem bin_shr {k' : IntKind} (h : 0 ≤ y) (h1 : y ≤ k.bits) : aBin P .shr t xo yo (.d (.v (.int k x))) (.d (.v (.int k' y))) B K = K (.d (.v (.int k (x / 2 ^ y.toNat)))) B :=
  bin_of (.int k (x / 2 ^ y.toNat)) eqGuard_int (by
    have h' : ¬ y < 0 := by omega
    have h2 : min y.toNat k.bits = y.toNat := by omega
    have h3 : x.fdiv (2 ^ y.toNat) = x / 2 ^ y.toNat := Int.fdiv_eq_ediv_of_nonneg _ (by have : (0 : Int) < 2 ^ y.toNat := Int.pow_pos (by omega); omega)
    simp [binOp, Op.shift, h', h2, h3] <;> rfl)
theorem bits_u8 : ((IntKind.bits .u8 : Nat) : Int) = 8 := rfl
theorem bits_u16 : ((IntKind.bits .u16 : Nat) : Int) = 16 := rfl
theorem bits_u32 : ((IntKind.bits .u32 : Nat) : Int) = 32 := rfl
theorem bits_u64 : ((IntKind.bits .u64 : Nat) : Int) = 64 := rfl
theorem bits_i64 : ((IntKind.bits .i64 : Nat) : Int) = 64 := rfl
theorem un_not {b : Bool} : aUn P .not (.d (.v (.bool b))) B K = K (.d (.v (.bool (!b)))) B := rfl
theorem un_neg : aUn P .neg (.d (.v (.int k x))) B K = K (.d (.v (.int k (k.wrap (0 - x))))) B := rfl

/-! conversions between integers -/
def tint (P : Program) (t : TypeId) : Option IntKind := match P.underlying t with | some (.int k) => some k | _ => none
theorem conv_int {s : TypeId} {k' : IntKind} (h1 : tint P s = some k') (h : tint P t = some k) : aConv P s t (.d (.v (.int k' x))) B n K = K (.d (.v (.int k (k.wrap x)))) B := by
  unfold tint at h h1
  split at h
  · rename_i k1 hk
    cases h
    split at h1
    · rename_i k2 hk2
      cases h1
      have e : pureSem P (convert s t (.int k' x)) = some (.int k (k.wrap x)) := by
        have hu : ∀ {u d}, P.underlying u = some d → pureSem P (underlying u) = some d := fun {u d} h => by
          simp [underlying, pureSem_bind, program, pureSem, h]
          rfl
        simp [convert, pureSem_bind, hu hk, hu hk2, Conv.intToInt, pureSem_pure]
      show kopt _ B K = _
      rw [e]; rfl
    · cases h1
  · cases h

theorem wrap_i64 (h1 : -9223372036854775808 ≤ x) (h2 : x ≤ 9223372036854775807) : IntKind.i64.wrap x = x := by rw [IntKind.wrap_i64]; omega
theorem wrap_u8 (h1 : 0 ≤ x) (h2 : x ≤ 255) : IntKind.u8.wrap x = x := by
  simp [IntKind.wrap, IntKind.bits, IntKind.signed]; omega
theorem wrap_u16 (h1 : 0 ≤ x) (h2 : x ≤ 65535) : IntKind.u16.wrap x = x := by
  simp [IntKind.wrap, IntKind.bits, IntKind.signed]; omega
theorem wrap_u64 (h1 : 0 ≤ x) (h2 : x ≤ 18446744073709551615) : IntKind.u64.wrap x = x := by
  simp [IntKind.wrap, IntKind.bits, IntKind.signed]; omega

theorem upd_same {env : Nat → M} {s : Nat} : upd env s a s = a := by simp [upd]
theorem upd_ne {env : Nat → M} {s u : Nat} (h : (u == s) = false) : upd env s a u = env u := by
  have : ¬ u = s := by simpa using h
  simp [upd, this]

/-- The slots at the beginning, one by one. -/
def argUpd : Nat → List M → (Nat → M)
  | _, [] => fun _ => undefM
  | k, a :: l => upd (argUpd (k + 1) l) k a
theorem argUpd_get : ∀ (l : List M) (k t : Nat), argUpd k l t = if k ≤ t then (l[t - k]?).getD undefM else undefM
  | [], k, t => by simp [argUpd]
  | a :: l, k, t => by
    simp only [argUpd, upd, argUpd_get l (k + 1) t]
    by_cases h : t = k
    · subst h; simp
    · by_cases h2 : k ≤ t
      · rw [if_neg h, if_pos (by omega), if_pos h2, show t - k = (t - (k + 1)) + 1 by omega, List.getElem?_cons_succ]
      · rw [if_neg h, if_neg (by omega), if_neg h2]
theorem argEnv_upd (l : List M) : argEnv l = argUpd 0 l := by
  funext t
  simp [argEnv, argUpd_get]
end

/-! The end. -/
section
variable {P : Program} {env : Nat → M} {B : Bx} {n : Nat} {fn : Func} {m : M}
/-- What is left to show at the end of a function of pure data. -/
def pureFin (P : Program) (ts : List TypeId) (m : M) (ms : List M) (B : Bx) : Prop := resM (frzA P B ts ms).1 = m
end

theorem PFn.of {P : Program} {prs : Prs} {f : FuncId} {fn : Func} {c : Code} {args : List M} {m : M}
    (hf : P.funcs[f]? = some fn) (hb : fn.body = some c) (hname : (fn.name == "runtime.NumGoroutine") = false) (hmix : P.follows .mixedOrders = true) (hd : drawsOK prs c = true)
    (hN : decide (args.length ≤ fn.ntmps) = true) (hm : m.p2 = true) (h : awp P fn.ntmps prs c (argUpd 0 args) [] 0 (pureEnd P fn m)) : PFn P f args m :=
  PFn.intro hf hb hname hmix hd (of_decide_eq_true hN) hm (by rw [argEnv_upd]; exact h)

end Go.Abs

import Derived.Test.YtmgfnlnomecbiaaDoorAbs4
import Derived.Lib.ItoaNum
set_option linter.all false
/- Texts of numbers, quoted strings, lines and words: what the functions compute, in plain Lean. -/
namespace Go.TX
open Go.Lib

/-! decimal numbers -/
def dec (n : Int) : List UInt8 := if n < 0 ∨ 999999999 < n then [] else decDigits n.toNat
def decVal : List UInt8 → Int → Int
  | [], n => n
  | b :: l, n => decVal l (10 * n + ((b.toNat : Int) - 48))
def isDig (b : UInt8) : Bool := decide (48 ≤ (b.toNat : Int) ∧ (b.toNat : Int) ≤ 57)
def pdec (s : List UInt8) : Int × Bool := if s ≠ [] ∧ s.length ≤ 9 ∧ dec (decVal s 0) = s then (decVal s 0, true) else (0, false)

theorem decVal_append (a b : List UInt8) (n : Int) : decVal (a ++ b) n = decVal b (decVal a n) := by
  induction a generalizing n with
  | nil => rfl
  | cons x a ih => simp only [List.cons_append, decVal, ih]
theorem digB (d : Nat) (h : d < 10) : ((UInt8.ofNat (48 + d)).toNat : Int) = 48 + d := by
  simp only [UInt8.toNat_ofNat']; omega
theorem decVal_digits (u : Nat) : decVal (decDigits u) 0 = u := by
  induction u using Nat.strongRecOn with
  | _ u ih =>
    rw [decDigits]
    split
    · rename_i h
      simp only [decVal, digB u h]; omega
    · rename_i h
      rw [decVal_append, ih (u / 10) (by omega)]
      simp only [decVal, digB (u % 10) (by omega)]; omega
theorem isDig_digits (u : Nat) : (decDigits u).all isDig = true := by
  induction u using Nat.strongRecOn with
  | _ u ih =>
    rw [decDigits]
    split
    · rename_i h
      simp [isDig, digB u h]; omega
    · rename_i h
      rw [List.all_append, ih (u / 10) (by omega)]
      have := digB (u % 10) (by omega)
      simp [isDig]
      omega
theorem digits_len (u : Nat) (h : u ≤ 999999999) : (decDigits u).length ≤ 9 ∧ decDigits u ≠ [] := by
  rw [decDigits_length]
  constructor
  · rcases Nat.lt_or_ge 9 (nDigits u) with h' | h'
    · have h2 : 10 ^ (nDigits u - 1) ≤ u := by
        rcases Nat.lt_or_ge u (10 ^ (nDigits u - 1)) with h3 | h3
        · exfalso
          have := decDigits_length u
          have key : ∀ k u, u < 10 ^ (k + 1) → nDigits u ≤ k + 1 := fun k => by
            induction k with
            | zero => intro u hu; rw [nDigits_small (by simpa using hu)]; omega
            | succ k ih =>
              intro u hu
              by_cases hs : u < 10
              · rw [nDigits_small hs]; omega
              · rw [nDigits_big hs]
                have := ih (u / 10) (by rw [Nat.pow_succ] at hu; omega)
                omega
          have := key (nDigits u - 2) u (by rw [show nDigits u - 2 + 1 = nDigits u - 1 by omega]; exact h3)
          omega
        · exact h3
      have h3 : 10 ^ 9 ≤ 10 ^ (nDigits u - 1) := Nat.pow_le_pow_right (by omega) (by omega)
      omega
    · exact h'
  · intro he
    have := decDigits_length u
    rw [he] at this
    have := nDigits_pos u
    simp at *
    omega
theorem pdec_dec {n : Int} (h : 0 ≤ n ∧ n ≤ 999999999) : pdec (dec n) = (n, true) := by
  have e : dec n = decDigits n.toNat := by rw [dec, if_neg (by omega)]
  obtain ⟨h1, h2⟩ := digits_len n.toNat (by omega)
  have hv : decVal (decDigits n.toNat) 0 = n := by rw [decVal_digits]; omega
  rw [pdec, e, if_pos ⟨h2, h1, by rw [hv, e]⟩, hv]
theorem dec_ne {n : Int} (h : 0 ≤ n ∧ n ≤ 999999999) : dec n ≠ [] := by
  rw [dec, if_neg (by omega)]
  exact (digits_len n.toNat (by omega)).2
theorem dec_dig (n : Int) : (dec n).all isDig = true := by
  unfold dec
  split
  · rfl
  · exact isDig_digits _
theorem dec_len (n : Int) : (dec n).length ≤ 9 := by
  unfold dec
  split
  · simp
  · exact (digits_len n.toNat (by omega)).1
theorem pdec_nil : pdec [] = (0, false) := by simp [pdec]
/-! hexadecimal numbers -/
def hexC (d : Nat) : UInt8 := if d < 10 then UInt8.ofNat (48 + d) else UInt8.ofNat (55 + d)
def hexD : Nat → Nat → List UInt8
  | 0, _ => []
  | k + 1, n => hexD k (n / 16) ++ [hexC (n % 16)]
def hexF (n d : Int) : List UInt8 := if d < 1 ∨ 8 < d ∨ n < 0 ∨ (16 : Int) ^ d.toNat ≤ n then [] else hexD d.toNat n.toNat
/-- The value of a digit. -/
def hexV (b : UInt8) : Int := if 48 ≤ (b.toNat : Int) ∧ (b.toNat : Int) ≤ 57 then (b.toNat : Int) - 48 else if 65 ≤ (b.toNat : Int) ∧ (b.toNat : Int) ≤ 70 then (b.toNat : Int) - 55 else -1
def hexVal : List UInt8 → Int → Option Int
  | [], n => some n
  | b :: l, n => if hexV b < 0 then none else hexVal l (16 * n + hexV b)
def phex (s : List UInt8) : Int × Bool := if s = [] ∨ 8 < s.length then (0, false) else match hexVal s 0 with | some n => (n, true) | none => (0, false)
theorem hexV_C (d : Nat) (h : d < 16) : hexV (hexC d) = d := by
  unfold hexC hexV
  split <;> simp only [UInt8.toNat_ofNat'] <;> repeat' split <;> omega
  all_goals omega
theorem hexD_length (k n : Nat) : (hexD k n).length = k := by
  induction k generalizing n with
  | zero => rfl
  | succ k ih => simp [hexD, ih]
theorem hexVal_append (a b : List UInt8) (n : Int) : hexVal (a ++ b) n = (hexVal a n).bind (hexVal b) := by
  induction a generalizing n with
  | nil => rfl
  | cons x a ih =>
    simp only [List.cons_append, hexVal]
    split
    · rfl
    · exact ih _
theorem hexVal_D (k n : Nat) (h : n < 16 ^ k) : hexVal (hexD k n) 0 = some (n : Int) := by
  induction k generalizing n with
  | zero => simp at h; subst h; rfl
  | succ k ih =>
    rw [hexD, hexVal_append, ih (n / 16) (by rw [Nat.pow_succ] at h; omega)]
    have := hexV_C (n % 16) (by omega)
    simp only [Option.bind_some, hexVal, this]
    rw [if_neg (by omega)]
    congr 1; omega
/-- The digits to a base. -/
def digs (b u : Nat) : List Int := if h : u < b ∨ b < 2 then [(u : Int)] else digs b (u / b) ++ [((u % b : Nat) : Int)]
termination_by u
decreasing_by
  have : u / b < u := Nat.div_lt_self (by omega) (by omega)
  exact this
theorem digs_small {b u : Nat} (h : u < b) : digs b u = [(u : Int)] := by rw [digs, dif_pos (.inl h)]
theorem digs_big {b u : Nat} (h : ¬ u < b) (h2 : 2 ≤ b) : digs b u = digs b (u / b) ++ [((u % b : Nat) : Int)] := by
  conv => lhs; rw [digs, dif_neg (show ¬ (u < b ∨ b < 2) by omega)]
theorem digs_range (b : Nat) (hb : 2 ≤ b) (u : Nat) : ∀ d, d ∈ digs b u → 0 ≤ d ∧ d < b := by
  induction u using Nat.strongRecOn with
  | _ u ih =>
    intro d hd
    by_cases h : u < b
    · rw [digs_small h] at hd; simp at hd; omega
    · rw [digs_big h hb] at hd
      rcases List.mem_append.1 hd with hd | hd
      · exact ih (u / b) (Nat.div_lt_self (by omega) (by omega)) d hd
      · simp at hd; subst hd
        have := Nat.mod_lt u (show b > 0 by omega)
        have h2 : (0 : Int) ≤ (u : Int) % (b : Int) := Int.emod_nonneg _ (by omega)
        omega
theorem digs_dec (u : Nat) : (digs 10 u).map (fun d => hexC d.toNat) = decDigits u := by
  induction u using Nat.strongRecOn with
  | _ u ih =>
    rw [decDigits]
    by_cases h : u < 10
    · rw [digs_small h, dif_pos h]; simp only [List.map_cons, List.map_nil, Int.toNat_natCast]; rw [hexC, if_pos h]
    · rw [digs_big h (by omega), dif_neg h, List.map_append, ih (u / 10) (by omega)]
      have : u % 10 < 10 := by omega
      simp only [List.map_cons, List.map_nil, Int.toNat_natCast]
      rw [hexC, if_pos this]
theorem digs_hexlen (k u : Nat) (h : u < 16 ^ (k + 1)) : (digs 16 u).length ≤ k + 1 := by
  induction k generalizing u with
  | zero => rw [digs_small (by simpa using h)]; simp
  | succ k ih =>
    by_cases hs : u < 16
    · rw [digs_small hs]; simp
    · rw [digs_big hs (by omega)]
      have := ih (u / 16) (by rw [Nat.pow_succ] at h; omega)
      simp; omega
theorem digs_hexlen2 (k u : Nat) (h : 16 ^ k ≤ u) (hu : 0 < u) : k + 1 ≤ (digs 16 u).length := by
  induction k generalizing u with
  | zero =>
    by_cases hs : u < 16
    · rw [digs_small hs]; simp
    · rw [digs_big hs (by omega)]; simp
  | succ k ih =>
    have hs : ¬ u < 16 := by
      have : 1 ≤ 16 ^ k := Nat.one_le_pow _ _ (by omega)
      rw [Nat.pow_succ] at h; omega
    rw [digs_big hs (by omega)]
    have := ih (u / 16) (by rw [Nat.pow_succ] at h; omega) (by omega)
    simp; omega
theorem hexD_zero (k : Nat) : hexD k 0 = List.replicate k 48 := by
  induction k with
  | zero => rfl
  | succ k ih => rw [hexD]; simp only [Nat.zero_div, ih, List.replicate_succ']; rfl
/-- The digits, filled up. -/
theorem digs_hex (k u : Nat) (h : u < 16 ^ k) (hk : (digs 16 u).length ≤ k) : List.replicate (k - (digs 16 u).length) 48 ++ (digs 16 u).map (fun d => hexC d.toNat) = hexD k u := by
  induction k generalizing u with
  | zero =>
    have : u = 0 := by simpa using h
    subst this; rw [digs_small (by omega)] at hk; simp at hk
  | succ k ih =>
    rw [hexD]
    by_cases hs : u < 16
    · rw [digs_small hs]
      have e1 : u / 16 = 0 := by omega
      have e2 : u % 16 = u := by omega
      rw [e1, e2, hexD_zero]; simp
    · rw [digs_big hs (by omega)] at hk ⊢
      simp at hk
      rw [← ih (u / 16) (by rw [Nat.pow_succ] at h; omega) (by omega)]
      simp only [List.length_append, List.length_cons, List.length_nil, List.map_append, List.map_cons, List.map_nil, Int.toNat_natCast, List.append_assoc]
      rw [show k + 1 - ((digs 16 (u / 16)).length + (0 + 1)) = k - (digs 16 (u / 16)).length by omega]

/-! quoted strings -/
def plainB (b : UInt8) : Bool := decide (32 ≤ (b.toNat : Int) ∧ (b.toNat : Int) ≤ 126 ∧ (b.toNat : Int) ≠ 34 ∧ (b.toNat : Int) ≠ 92)
def quB (b : UInt8) : List UInt8 := if plainB b then [b] else 92 :: hexD 2 b.toNat
def quBody (l : List UInt8) : List UInt8 := l.flatMap quB
def quote (l : List UInt8) : List UInt8 := 34 :: (quBody l ++ [34])
theorem quBody_cons (b : UInt8) (l : List UInt8) : quBody (b :: l) = quB b ++ quBody l := by simp [quBody]
theorem quBody_append (a b : List UInt8) : quBody (a ++ b) = quBody a ++ quBody b := by simp [quBody]
theorem hexF2 (b : UInt8) : hexF (b.toNat : Int) 2 = hexD 2 b.toNat := by
  have := b.toNat_lt
  rw [hexF, if_neg (by simp; omega)]; rfl

theorem phex2 (b : UInt8) : phex (hexD 2 b.toNat) = ((b.toNat : Int), true) := by
  have h := b.toNat_lt
  rw [phex, if_neg (by rw [hexD_length]; exact fun h' => h'.elim (fun h2 => by have := congrArg List.length h2; rw [hexD_length] at this; simp at this) (by omega)), hexVal_D _ _ (by simpa using h)]
theorem hexD2 (n : Nat) : ∃ a b, hexD 2 n = [a, b] := by
  simp [hexD]
/-- Reading as the program does: the body without its last byte. -/
def upP : List UInt8 → Option (List UInt8)
  | [] => some []
  | x :: r => if x ≠ 92 then (upP r).map (x :: ·) else match r with
    | a :: b :: r' => if (phex [a, b]).2 then (upP r').map (Go.Abs.u8 (phex [a, b]).1 :: ·) else none
    | _ => none
theorem upP_nil : upP [] = some [] := rfl
theorem upP_plain {x : UInt8} {r : List UInt8} (h : x ≠ 92) : upP (x :: r) = (upP r).map (x :: ·) := by
  rw [upP.eq_def]; simp only; rw [if_pos h]
theorem upP_esc {a b : UInt8} {r : List UInt8} : upP (92 :: a :: b :: r) = if (phex [a, b]).2 then (upP r).map (Go.Abs.u8 (phex [a, b]).1 :: ·) else none := by
  rw [upP.eq_def]; simp
theorem upP_short {r : List UInt8} (h : r.length < 2) : upP (92 :: r) = none := by
  rw [upP.eq_def]; simp only; rw [if_neg (by simp)]
  match r, h with
  | [], _ => rfl
  | [_], _ => rfl
theorem upP_body (l : List UInt8) : upP (quBody l) = some l := by
  induction l with
  | nil => rfl
  | cons b l ih =>
    rw [quBody_cons, quB]
    split
    · rename_i h
      simp only [List.cons_append, List.nil_append]
      rw [upP_plain, ih]; rfl
      intro e; subst e; simp [plainB] at h
    · obtain ⟨x, y, hxy⟩ := hexD2 b.toNat
      have h2 := phex2 b
      rw [hxy] at h2 ⊢
      simp only [List.cons_append, List.nil_append]
      rw [upP_esc, h2, ih, Go.Abs.u8_of]
      rfl
/-- Reading as the document does. -/
def upR : List UInt8 → List UInt8
  | [] => []
  | [_] => []
  | x :: y :: r => if x = 92 then match r with
    | [] => x :: upR [y]
    | z :: r' => Go.Abs.u8 (phex [y, z]).1 :: upR r'
    else x :: upR (y :: r)
theorem upR_nil : upR [] = [] := by rw [upR]
theorem upR_one {x : UInt8} : upR [x] = [] := by rw [upR]
theorem upR_plain {x y : UInt8} {r : List UInt8} (h : x ≠ 92) : upR (x :: y :: r) = x :: upR (y :: r) := by
  rw [upR.eq_def]; simp only; rw [if_neg h]
theorem upR_esc {y z : UInt8} {r : List UInt8} : upR (92 :: y :: z :: r) = Go.Abs.u8 (phex [y, z]).1 :: upR r := by
  rw [upR.eq_def]; simp
theorem upR_two {x y : UInt8} : upR [x, y] = [x] := by
  by_cases h : x = 92
  · rw [upR.eq_def]; simp only; rw [if_pos h, upR_one]
  · rw [upR_plain h, upR_one]
theorem quBody_ne (l : List UInt8) : ∃ y r, quBody l ++ [34] = y :: r := by
  cases h : quBody l with
  | nil => exact ⟨_, _, rfl⟩
  | cons x r => exact ⟨_, _, rfl⟩
theorem upR_body (l : List UInt8) : upR (quBody l ++ [34]) = l := by
  induction l with
  | nil => exact upR_one
  | cons b l ih =>
    rw [quBody_cons, quB]
    split
    · rename_i h
      obtain ⟨y, r, hr⟩ := quBody_ne l
      simp only [List.cons_append, List.nil_append]
      rw [hr] at ih ⊢
      rw [upR_plain, ih]
      intro e; subst e; simp [plainB] at h
    · obtain ⟨x, y, hxy⟩ := hexD2 b.toNat
      have h2 := phex2 b
      rw [hxy] at h2 ⊢
      simp only [List.cons_append, List.nil_append]
      rw [upR_esc, h2, ih, Go.Abs.u8_of]
/-- What a quoted string stands for. -/
def inner (s : List UInt8) : List UInt8 := (s.drop 1).take (s.length - 2)
def unq (s : List UInt8) : Option (List UInt8) := if s.length < 2 then none else (upP (inner s)).bind fun l => if quote l = s then some l else none
theorem quote_len (l : List UInt8) : (quote l).length = (quBody l).length + 2 := by simp [quote]
theorem unq_quote (l : List UInt8) : unq (quote l) = some l := by
  rw [unq, if_neg (by rw [quote_len]; omega)]
  have : inner (quote l) = quBody l := by
    rw [inner, quote_len]; simp [quote]
  rw [this, upP_body]; simp
theorem unq_some {s l : List UInt8} (h : unq s = some l) : quote l = s := by
  unfold unq at h
  split at h
  · cases h
  · simp only [Option.bind_eq_some_iff] at h
    obtain ⟨a, _, h⟩ := h
    split at h
    · cases h; assumption
    · cases h
theorem unq_ref (s : List UInt8) : unq s = if s.length < 2 then none else if quote (upR (s.drop 1)) = s then some (upR (s.drop 1)) else none := by
  by_cases h : s.length < 2
  · rw [unq, if_pos h, if_pos h]
  · rw [if_neg h]
    split
    · rename_i h2
      conv => lhs; rw [← h2]
      rw [unq_quote]
    · rename_i h2
      cases h3 : unq s with
      | none => rfl
      | some l =>
        have := unq_some h3
        subst this
        exfalso; apply h2
        rw [show (quote l).drop 1 = quBody l ++ [34] from rfl, upR_body]
theorem quB_length (b : UInt8) : (quB b).length ≤ 3 := by
  unfold quB; split <;> simp [hexD_length]
theorem quBody_length (l : List UInt8) : (quBody l).length ≤ 3 * l.length := by
  induction l with
  | nil => simp [quBody]
  | cons b l ih =>
    rw [quBody_cons, List.length_append, List.length_cons]
    have := quB_length b
    omega

/-! lines -/
def prB (b : UInt8) : Bool := decide (32 ≤ (b.toNat : Int) ∧ (b.toNat : Int) ≤ 126)
def lsp : List UInt8 → List UInt8 → Option (List (List UInt8))
  | [], cur => if cur = [] then some [] else none
  | b :: r, cur => if b = 10 then (lsp r []).map (cur :: ·) else if prB b then lsp r (cur ++ [b]) else none
/-- Without the look at the end. -/
def lpp : List UInt8 → List UInt8 → Option (List (List UInt8))
  | [], _ => some []
  | b :: r, cur => if b = 10 then (lpp r []).map (cur :: ·) else if prB b then lpp r (cur ++ [b]) else none
def linesF (b : List UInt8) : Option (List (List UInt8)) := lsp b []
theorem lsp_last : ∀ (b cur : List UInt8), b.getLast? = some 10 → lsp b cur = lpp b cur
  | [], cur, h => by simp at h
  | [x], cur, h => by simp at h; subst h; simp [lsp, lpp]
  | x :: y :: r, cur, h => by
    have h' : (y :: r).getLast? = some 10 := by simpa [List.getLast?_cons_cons] using h
    rw [lsp, lpp, lsp_last (y :: r) [] h', lsp_last (y :: r) (cur ++ [x]) h']
theorem lsp_notlast : ∀ (b cur : List UInt8) (z : UInt8), b.getLast? = some z → z ≠ 10 → lsp b cur = none
  | [], cur, z, h, _ => by simp at h
  | [x], cur, z, h, hz => by
    simp at h; subst h
    simp [lsp, hz]
  | x :: y :: r, cur, z, h, hz => by
    have h' : (y :: r).getLast? = some z := by simpa [List.getLast?_cons_cons] using h
    rw [lsp, lsp_notlast (y :: r) [] z h' hz, lsp_notlast (y :: r) (cur ++ [x]) z h' hz]
    simp
def unlines (l : List (List UInt8)) : List UInt8 := l.flatMap (· ++ [10])
theorem lsp_join : ∀ (b cur : List UInt8) (l : List (List UInt8)), lsp b cur = some l → cur ++ b = unlines l
  | [], cur, l, h => by
    simp only [lsp] at h
    split at h
    · rename_i hc; cases h; simp [hc, unlines]
    · cases h
  | x :: r, cur, l, h => by
    simp only [lsp] at h
    split at h
    · rename_i hx
      simp only [Option.map_eq_some_iff] at h
      obtain ⟨l', hl, rfl⟩ := h
      have := lsp_join r [] l' hl
      simp only [List.nil_append] at this
      rw [this, hx]; simp [unlines]
    · split at h
      · have := lsp_join r (cur ++ [x]) l h
        rw [← this]; simp
      · cases h
theorem lines_join {b : List UInt8} {l : List (List UInt8)} (h : linesF b = some l) : b = unlines l := by
  simpa using lsp_join b [] l h
theorem lsp_app : ∀ (w : List UInt8) (cur r : List UInt8), w.all prB = true → lsp (w ++ 10 :: r) cur = (lsp r []).map ((cur ++ w) :: ·)
  | [], cur, r, _ => by simp [lsp]
  | x :: w, cur, r, h => by
    simp only [List.all_cons, Bool.and_eq_true] at h
    have hx : x ≠ 10 := fun e => by subst e; simp [prB] at h
    rw [List.cons_append, lsp, if_neg hx, if_pos h.1, lsp_app w _ _ h.2]
    simp
/-- The lines of lines. -/
theorem lines_unlines : ∀ (l : List (List UInt8)), (∀ w, w ∈ l → w.all prB = true) → linesF (unlines l) = some l
  | [], _ => by simp [linesF, unlines, lsp]
  | w :: l, h => by
    have e : unlines (w :: l) = w ++ 10 :: unlines l := by simp [unlines]
    rw [linesF, e, lsp_app w [] _ (h w (List.mem_cons_self ..))]
    have := lines_unlines l fun w hw => h w (List.mem_cons_of_mem _ hw)
    rw [linesF] at this
    rw [this]; simp
/-! words -/
def wc (b : UInt8) : Bool := decide (33 ≤ (b.toNat : Int) ∧ (b.toNat : Int) ≤ 126 ∧ (b.toNat : Int) ≠ 34)
/-- Where a byte stands first. -/
def idx (c : UInt8) : List UInt8 → Option Nat
  | [] => none
  | b :: l => if b = c then some 0 else (idx c l).map (· + 1)
def wordL (s : List UInt8) : Nat := match s with
  | [] => 0
  | b :: l => if b = 34 then match idx 34 l with
      | none => 0
      | some e => if (unq ((b :: l).take (e + 2))).isSome then e + 2 else 0
    else ((b :: l).takeWhile wc).length
def wordsN : Nat → List UInt8 → Option (List (List UInt8))
  | 0, _ => none
  | k + 1, s => if wordL s = 0 then none else if s.drop (wordL s) = [] then some [s] else if (s.drop (wordL s)).head? = some 32 then (wordsN k (s.drop (wordL s + 1))).map (s.take (wordL s) :: ·) else none
def wordsF (s : List UInt8) : Option (List (List UInt8)) := if s = [] then some [] else wordsN s.length s
theorem idx_lt {c : UInt8} : ∀ {l : List UInt8} {e : Nat}, idx c l = some e → e < l.length ∧ l[e]? = some c ∧ ∀ j, j < e → l[j]? ≠ some c
  | [], e, h => by simp [idx] at h
  | b :: l, e, h => by
    simp only [idx] at h
    split at h
    · rename_i hb; cases h; subst hb; simp
    · rename_i hb
      simp only [Option.map_eq_some_iff] at h
      obtain ⟨e', he, rfl⟩ := h
      obtain ⟨h1, h2, h3⟩ := idx_lt he
      refine ⟨by simp; omega, by simpa using h2, fun j hj => ?_⟩
      cases j with
      | zero => simpa using hb
      | succ j => simpa using h3 j (by omega)
theorem wordL_le (s : List UInt8) : wordL s ≤ s.length := by
  unfold wordL
  match s with
  | [] => simp
  | b :: l =>
    simp only
    split
    · cases h : idx 34 l with
      | none => simp
      | some e =>
        have := (idx_lt h).1
        simp only
        split
        · simp; omega
        · simp
    · exact (List.takeWhile_prefix _).length_le
theorem wordsN_mono : ∀ (k j : Nat) (s : List UInt8), s.length ≤ k → s.length ≤ j → wordsN k s = wordsN j s
  | 0, j, s, h, _ => by
    have : s = [] := List.length_eq_zero_iff.1 (by omega)
    subst this
    cases j with
    | zero => rfl
    | succ j => simp [wordsN, wordL]
  | k + 1, 0, s, _, h => by
    have : s = [] := List.length_eq_zero_iff.1 (by omega)
    subst this
    simp [wordsN, wordL]
  | k + 1, j + 1, s, h1, h2 => by
    have hl := wordL_le s
    by_cases hz : wordL s = 0
    · rw [wordsN, if_pos hz, wordsN, if_pos hz]
    · rw [wordsN, wordsN, wordsN_mono k j (s.drop (wordL s + 1)) (by simp; omega) (by simp; omega)]
def joinSp : List (List UInt8) → List UInt8
  | [] => []
  | [w] => w
  | w :: x :: r => w ++ 32 :: joinSp (x :: r)
theorem wordsN_ne : ∀ (k : Nat) (s : List UInt8) (l : List (List UInt8)), wordsN k s = some l → l ≠ []
  | 0, s, l, h => by simp [wordsN] at h
  | k + 1, s, l, h => by
    simp only [wordsN] at h
    repeat' split at h
    · cases h
    · cases h; simp
    · simp only [Option.map_eq_some_iff] at h
      obtain ⟨_, _, rfl⟩ := h; simp
    · cases h
theorem wordsN_join : ∀ (k : Nat) (s : List UInt8) (l : List (List UInt8)), wordsN k s = some l → joinSp l = s
  | 0, s, l, h => by simp [wordsN] at h
  | k + 1, s, l, h => by
    simp only [wordsN] at h
    split at h
    · cases h
    · split at h
      · cases h; rfl
      · split at h
        · rename_i hh
          simp only [Option.map_eq_some_iff] at h
          obtain ⟨l', hl, rfl⟩ := h
          have h1 := wordsN_join k _ l' hl
          have h2 := wordsN_ne k _ l' hl
          match l', h2 with
          | x :: r, _ =>
            rw [joinSp, h1]
            have e : s.drop (wordL s) = 32 :: s.drop (wordL s + 1) := by
              cases hd : s.drop (wordL s) with
              | nil => rw [hd] at hh; cases hh
              | cons y t =>
                rw [hd] at hh; simp at hh; subst hh
                rw [← List.drop_drop, hd]; rfl
            rw [← e, List.take_append_drop]
        · cases h
theorem words_join {s : List UInt8} {l : List (List UInt8)} (h : wordsF s = some l) : joinSp l = s := by
  unfold wordsF at h
  split at h
  · rename_i hs; cases h; rw [hs]; rfl
  · exact wordsN_join _ _ _ h

def wordsG (s : List UInt8) : Option (List (List UInt8)) := wordsN s.length s
theorem wordsG_nil : wordsG [] = none := rfl
theorem wordsG_step {s : List UInt8} (h : s ≠ []) : wordsG s = if wordL s = 0 then none else if s.drop (wordL s) = [] then some [s] else if (s.drop (wordL s)).head? = some 32 then (wordsG (s.drop (wordL s + 1))).map (s.take (wordL s) :: ·) else none := by
  obtain ⟨k, hk⟩ : ∃ k, s.length = k + 1 := ⟨s.length - 1, by have := List.length_pos_iff.2 h; omega⟩
  have hl := wordL_le s
  by_cases hz : wordL s = 0
  · rw [wordsG, hk, wordsN, if_pos hz, if_pos hz]
  · rw [wordsG, hk, wordsN, wordsG, wordsN_mono k (s.drop (wordL s + 1)).length (s.drop (wordL s + 1)) (by simp; omega) (Nat.le_refl _)]
theorem lpp_ten {r cur : List UInt8} : lpp (10 :: r) cur = (lpp r []).map (cur :: ·) := by rw [lpp, if_pos rfl]
theorem lpp_pr {x : UInt8} {r cur : List UInt8} (h : x ≠ 10) (hp : prB x = true) : lpp (x :: r) cur = lpp r (cur ++ [x]) := by rw [lpp, if_neg h, if_pos hp]
theorem lpp_bad {x : UInt8} {r cur : List UInt8} (h : x ≠ 10) (hp : prB x = false) : lpp (x :: r) cur = none := by rw [lpp, if_neg h, if_neg (by simp [hp])]
theorem linesF_lpp {b : List UInt8} (h : b = [] ∨ b.getLast? = some 10) : linesF b = lpp b [] := by
  rcases h with rfl | h
  · rfl
  · exact lsp_last b [] h
theorem linesF_no {b : List UInt8} {z : UInt8} (h : b.getLast? = some z) (hz : z ≠ 10) : linesF b = none := lsp_notlast b [] z h hz
end Go.TX

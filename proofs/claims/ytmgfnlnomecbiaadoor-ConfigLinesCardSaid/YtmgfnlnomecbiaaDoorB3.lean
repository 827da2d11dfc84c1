import Derived.Test.YtmgfnlnomecbiaaDoorB2
import Derived.Test.YtmgfnlnomecbiaaDoorShelf
set_option linter.all false
open Go.Proofs Go.Abs Go.Fa Go.RowKit
/- Contracts of the library's functions. -/
namespace Go.BU
set_option maxHeartbeats 4000000
theorem gTab : (Tryd.prog.globalNamed "internal/strconv.uint64pow10").isSome = true := by kernel_rfl
theorem itoa (n : Int) (h0 : -9223372036854775808 ≤ n) (h1 : n ≤ 9223372036854775807) : PFn Tryd.prog 83 [iM n] (strM (Lib.itoa n)) :=
  PFn.of_vals [.int .i64 n] _ ⟨_, Tryd.func83, rfl, rfl⟩ fun w hL => (Tryd.strconv_Itoa n h0 h1 w (laid_pow10 hL gTab)).mono fun e w' ⟨he, k, os, hw⟩ => ⟨he, by rw [hw]; exact below_grow w k os⟩
theorem idxB_eq : ∀ (l : List UInt8) (c : UInt8), Lib.indexByte l c = match TX.idx c l with | some k => (k : Int) | none => -1 := by
  intro l c
  induction l with
  | nil => rfl
  | cons b l ih =>
    rw [Lib.indexByte, TX.idx]
    by_cases h : b = c
    · simp [h]
    · rw [if_neg (by simpa using h), if_neg h, ih]
      cases TX.idx c l with
      | none => simp
      | some k => simp <;> omega
def idxM (c : UInt8) (l : List UInt8) : Int := match TX.idx c l with | some k => (k : Int) | none => -1
theorem indexByte (s : List UInt8) (c : UInt8) {x : Int} (hx : x = c.toNat) : PFn Tryd.prog 97 [strM s, .d (.v (.int .u8 x))] (iM (idxM c s)) := by
  subst hx
  refine PFn.of_vals [.string ⟨s.toArray⟩, .int .u8 c.toNat] _ ⟨_, Tryd.func97, rfl, rfl⟩ fun w _ => (Tryd.strings_IndexByte ⟨s.toArray⟩ c.toNat w).mono fun e w' ⟨he, hw⟩ => ⟨?_, by rw [hw]; exact Below.refl _ _⟩
  rw [he, idxB_eq]
  simp [idxM]
end Go.BU

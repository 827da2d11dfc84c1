/-
  NARROWER THAN 'FOR EVERY INPUT', by the rows' own cells (each row's printed sentence says how): TextHex: laid · TextQuote: laid · TextUnquote: laid · TextWords: laid · TextName: laid · TextDecimal: laid · TextLines: laid · SettingParse: laid · SettingRound: laid · SettingValid: laid · SettingCompare: laid · SettingList: laid.
  DERIVED. THE GIVEN ROWS OF THIS SEAT. 12 by the template 'for every input the law returns true; each argument reads behind the call as it read before'; 0 by the template 'total and deterministic' (their statements: YtahfchfjhgpgfaaDoorTotals.lean).
  GIVEN WITH THE SEED: the statements are not yours to turn. If you find one false, say at which input.
  Laid BY PROGRAM, IN A SANDBOX (cutbox-rows.mjs): the forced cells as the released guide's own fill.sh prints them over the translation 96f4de2905d7be8b… (all of the seat's roots in one cut). By AI agents, Wed Nov 11 2026. No macro, syntax, notation, axiom, sorry.
-/
import Derived.Test.YtahfchfjhgpgfaaDoorChecked
import GoSem.Claim
import GoSem.ClaimJoined
import GoSem.ClaimMapViews
import Derived.JoinedTies
import Derived.KernelRfl
namespace Go.Proofs.YtahfchfjhgpgfaaDoor
/- THE CELL 'sum', in the pinned program and in every row, IS THE sha256 OF THE DUMP (.gsa) THAT YtahfchfjhgpgfaaDoorProg.lean LOADS. Nothing in Lean hashes anything: it is a label: what it is worth is what the hold of that sum in a sandbox is worth. -/
noncomputable def Tryd.pinned : Pinned := { name := "ytahfchfjhgpgfaadoor", sum := "96f4de2905d7be8b8ef952b87d80d71cdec0c1cd78c31c8cc4869a9181e052e7", checked := Tryd.checked }
namespace Rows
def none {H : Type} : Left H := { results := [], args := [] }

/- WHAT THE LISTED PACKAGE-LEVEL VARIABLES READ AS WHEN THE CALL BEGINS. Each datum BY PROGRAM (the guide's laid-datum.mjs) off the statement by which the dump's own 'gosem.cut.vars' lays the variable. In a bare row this is a premise. The card (YtahfchfjhgpgfaaDoorCards.lean) ties it to the program's text. -/
def laid_math_bits_deBruijn32tab {H : Type} : DataW H := .agg [.lit (.int .u8 0), .lit (.int .u8 1), .lit (.int .u8 28), .lit (.int .u8 2), .lit (.int .u8 29), .lit (.int .u8 14), .lit (.int .u8 24), .lit (.int .u8 3), .lit (.int .u8 30), .lit (.int .u8 22), .lit (.int .u8 20), .lit (.int .u8 15), .lit (.int .u8 25), .lit (.int .u8 17), .lit (.int .u8 4), .lit (.int .u8 8), .lit (.int .u8 31), .lit (.int .u8 27), .lit (.int .u8 13), .lit (.int .u8 23), .lit (.int .u8 21), .lit (.int .u8 19), .lit (.int .u8 16), .lit (.int .u8 7), .lit (.int .u8 26), .lit (.int .u8 12), .lit (.int .u8 18), .lit (.int .u8 6), .lit (.int .u8 11), .lit (.int .u8 5), .lit (.int .u8 10), .lit (.int .u8 9)]
def laid_math_bits_deBruijn64tab {H : Type} : DataW H := .agg [.lit (.int .u8 0), .lit (.int .u8 1), .lit (.int .u8 56), .lit (.int .u8 2), .lit (.int .u8 57), .lit (.int .u8 49), .lit (.int .u8 28), .lit (.int .u8 3), .lit (.int .u8 61), .lit (.int .u8 58), .lit (.int .u8 42), .lit (.int .u8 50), .lit (.int .u8 38), .lit (.int .u8 29), .lit (.int .u8 17), .lit (.int .u8 4), .lit (.int .u8 62), .lit (.int .u8 47), .lit (.int .u8 59), .lit (.int .u8 36), .lit (.int .u8 45), .lit (.int .u8 43), .lit (.int .u8 51), .lit (.int .u8 22), .lit (.int .u8 53), .lit (.int .u8 39), .lit (.int .u8 33), .lit (.int .u8 30), .lit (.int .u8 24), .lit (.int .u8 18), .lit (.int .u8 12), .lit (.int .u8 5), .lit (.int .u8 63), .lit (.int .u8 55), .lit (.int .u8 48), .lit (.int .u8 27), .lit (.int .u8 60), .lit (.int .u8 41), .lit (.int .u8 37), .lit (.int .u8 16), .lit (.int .u8 46), .lit (.int .u8 35), .lit (.int .u8 44), .lit (.int .u8 21), .lit (.int .u8 52), .lit (.int .u8 32), .lit (.int .u8 23), .lit (.int .u8 11), .lit (.int .u8 54), .lit (.int .u8 26), .lit (.int .u8 40), .lit (.int .u8 15), .lit (.int .u8 34), .lit (.int .u8 20), .lit (.int .u8 31), .lit (.int .u8 10), .lit (.int .u8 25), .lit (.int .u8 14), .lit (.int .u8 19), .lit (.int .u8 9), .lit (.int .u8 13), .lit (.int .u8 8), .lit (.int .u8 7), .lit (.int .u8 6)]
def laid_internal_strconv_uint64pow10 {H : Type} : DataW H := .agg [.lit (.int .u64 1), .lit (.int .u64 10), .lit (.int .u64 100), .lit (.int .u64 1000), .lit (.int .u64 10000), .lit (.int .u64 100000), .lit (.int .u64 1000000), .lit (.int .u64 10000000), .lit (.int .u64 100000000), .lit (.int .u64 1000000000), .lit (.int .u64 10000000000), .lit (.int .u64 100000000000), .lit (.int .u64 1000000000000), .lit (.int .u64 10000000000000), .lit (.int .u64 100000000000000), .lit (.int .u64 1000000000000000), .lit (.int .u64 10000000000000000), .lit (.int .u64 100000000000000000), .lit (.int .u64 1000000000000000000), .lit (.int .u64 10000000000000000000)]

/-- 'modscanlaw02.TextHex': WHATEVER THE INPUT: true; the input reads as it did. -/
def textHexSpec : ChangeSpec := { name := "textHex", fn := fun _ => fun
  | [d1, d2] => { results := [.lit (.bool true)], args := [d1, d2] }
  | _ => none }
def textHexRow : OpenClaim := { program := "ytahfchfjhgpgfaadoor", sum := "96f4de2905d7be8b8ef952b87d80d71cdec0c1cd78c31c8cc4869a9181e052e7", func := "modscan/modscanlaw02.TextHex", spec := "textHex", inPlace := ["internal/bytealg.IndexByteString", "internal/abi.NoEscape"], recurses := true, named := ["internal/strconv.uint64pow10", "math/bits.deBruijn32tab", "math/bits.deBruijn64tab"], apart := false, laid := [("math/bits.deBruijn32tab", laid_math_bits_deBruijn32tab), ("math/bits.deBruijn64tab", laid_math_bits_deBruijn64tab), ("internal/strconv.uint64pow10", laid_internal_strconv_uint64pow10)] }
def TextHexSaid : Prop := textHexRow.holds Tryd.pinned (OpenSpec.ofChange textHexSpec)

/-- ITS FALSE NEIGHBOUR: 'it returns false'. Refute it at one input. -/
def textHexWrong : ChangeSpec := { name := "textHex", fn := fun _ => fun
  | [d1, d2] => { results := [.lit (.bool false)], args := [d1, d2] }
  | _ => none }
def TextHexWrongFalsely : Prop := textHexRow.holds Tryd.pinned (OpenSpec.ofChange textHexWrong)

/-- 'modscanlaw02.TextQuote': WHATEVER THE INPUT: true; the input reads as it did. -/
def textQuoteSpec : ChangeSpec := { name := "textQuote", fn := fun _ => fun
  | [d] => { results := [.lit (.bool true)], args := [d] }
  | _ => none }
def textQuoteRow : OpenClaim := { program := "ytahfchfjhgpgfaadoor", sum := "96f4de2905d7be8b8ef952b87d80d71cdec0c1cd78c31c8cc4869a9181e052e7", func := "modscan/modscanlaw02.TextQuote", spec := "textQuote", inPlace := ["internal/abi.NoEscape", "internal/bytealg.IndexByteString"], recurses := true, named := ["internal/strconv.uint64pow10", "math/bits.deBruijn32tab", "math/bits.deBruijn64tab"], apart := false, laid := [("math/bits.deBruijn32tab", laid_math_bits_deBruijn32tab), ("math/bits.deBruijn64tab", laid_math_bits_deBruijn64tab), ("internal/strconv.uint64pow10", laid_internal_strconv_uint64pow10)] }
def TextQuoteSaid : Prop := textQuoteRow.holds Tryd.pinned (OpenSpec.ofChange textQuoteSpec)

/-- ITS FALSE NEIGHBOUR: 'it returns false'. Refute it at one input. -/
def textQuoteWrong : ChangeSpec := { name := "textQuote", fn := fun _ => fun
  | [d] => { results := [.lit (.bool false)], args := [d] }
  | _ => none }
def TextQuoteWrongFalsely : Prop := textQuoteRow.holds Tryd.pinned (OpenSpec.ofChange textQuoteWrong)

/-- 'modscanlaw02.TextUnquote': WHATEVER THE INPUT: true; the input reads as it did. -/
def textUnquoteSpec : ChangeSpec := { name := "textUnquote", fn := fun _ => fun
  | [d] => { results := [.lit (.bool true)], args := [d] }
  | _ => none }
def textUnquoteRow : OpenClaim := { program := "ytahfchfjhgpgfaadoor", sum := "96f4de2905d7be8b8ef952b87d80d71cdec0c1cd78c31c8cc4869a9181e052e7", func := "modscan/modscanlaw02.TextUnquote", spec := "textUnquote", inPlace := ["internal/bytealg.IndexByteString", "internal/abi.NoEscape"], recurses := true, named := ["internal/strconv.uint64pow10", "math/bits.deBruijn32tab", "math/bits.deBruijn64tab"], apart := false, laid := [("math/bits.deBruijn32tab", laid_math_bits_deBruijn32tab), ("math/bits.deBruijn64tab", laid_math_bits_deBruijn64tab), ("internal/strconv.uint64pow10", laid_internal_strconv_uint64pow10)] }
def TextUnquoteSaid : Prop := textUnquoteRow.holds Tryd.pinned (OpenSpec.ofChange textUnquoteSpec)

/-- ITS FALSE NEIGHBOUR: 'it returns false'. Refute it at one input. -/
def textUnquoteWrong : ChangeSpec := { name := "textUnquote", fn := fun _ => fun
  | [d] => { results := [.lit (.bool false)], args := [d] }
  | _ => none }
def TextUnquoteWrongFalsely : Prop := textUnquoteRow.holds Tryd.pinned (OpenSpec.ofChange textUnquoteWrong)

/-- 'modscanlaw02.TextWords': WHATEVER THE INPUT: true; the input reads as it did. -/
def textWordsSpec : ChangeSpec := { name := "textWords", fn := fun _ => fun
  | [d] => { results := [.lit (.bool true)], args := [d] }
  | _ => none }
def textWordsRow : OpenClaim := { program := "ytahfchfjhgpgfaadoor", sum := "96f4de2905d7be8b8ef952b87d80d71cdec0c1cd78c31c8cc4869a9181e052e7", func := "modscan/modscanlaw02.TextWords", spec := "textWords", inPlace := ["internal/bytealg.IndexByteString", "internal/abi.NoEscape"], recurses := true, named := ["internal/strconv.uint64pow10", "math/bits.deBruijn32tab", "math/bits.deBruijn64tab"], apart := false, laid := [("math/bits.deBruijn32tab", laid_math_bits_deBruijn32tab), ("math/bits.deBruijn64tab", laid_math_bits_deBruijn64tab), ("internal/strconv.uint64pow10", laid_internal_strconv_uint64pow10)] }
def TextWordsSaid : Prop := textWordsRow.holds Tryd.pinned (OpenSpec.ofChange textWordsSpec)

/-- ITS FALSE NEIGHBOUR: 'it returns false'. Refute it at one input. -/
def textWordsWrong : ChangeSpec := { name := "textWords", fn := fun _ => fun
  | [d] => { results := [.lit (.bool false)], args := [d] }
  | _ => none }
def TextWordsWrongFalsely : Prop := textWordsRow.holds Tryd.pinned (OpenSpec.ofChange textWordsWrong)

/-- 'modscanlaw02.TextName': WHATEVER THE INPUT: true; the input reads as it did. -/
def textNameSpec : ChangeSpec := { name := "textName", fn := fun _ => fun
  | [d] => { results := [.lit (.bool true)], args := [d] }
  | _ => none }
def textNameRow : OpenClaim := { program := "ytahfchfjhgpgfaadoor", sum := "96f4de2905d7be8b8ef952b87d80d71cdec0c1cd78c31c8cc4869a9181e052e7", func := "modscan/modscanlaw02.TextName", spec := "textName", inPlace := ["internal/bytealg.IndexByteString", "internal/abi.NoEscape"], named := ["internal/strconv.uint64pow10", "math/bits.deBruijn32tab", "math/bits.deBruijn64tab"], apart := false, laid := [("math/bits.deBruijn32tab", laid_math_bits_deBruijn32tab), ("math/bits.deBruijn64tab", laid_math_bits_deBruijn64tab), ("internal/strconv.uint64pow10", laid_internal_strconv_uint64pow10)] }
def TextNameSaid : Prop := textNameRow.holds Tryd.pinned (OpenSpec.ofChange textNameSpec)

/-- ITS FALSE NEIGHBOUR: 'it returns false'. Refute it at one input. -/
def textNameWrong : ChangeSpec := { name := "textName", fn := fun _ => fun
  | [d] => { results := [.lit (.bool false)], args := [d] }
  | _ => none }
def TextNameWrongFalsely : Prop := textNameRow.holds Tryd.pinned (OpenSpec.ofChange textNameWrong)

/-- 'modscanlaw02.TextDecimal': WHATEVER THE INPUT: true; the input reads as it did. -/
def textDecimalSpec : ChangeSpec := { name := "textDecimal", fn := fun _ => fun
  | [d] => { results := [.lit (.bool true)], args := [d] }
  | _ => none }
def textDecimalRow : OpenClaim := { program := "ytahfchfjhgpgfaadoor", sum := "96f4de2905d7be8b8ef952b87d80d71cdec0c1cd78c31c8cc4869a9181e052e7", func := "modscan/modscanlaw02.TextDecimal", spec := "textDecimal", inPlace := ["internal/bytealg.IndexByteString", "internal/abi.NoEscape"], recurses := true, named := ["internal/strconv.uint64pow10", "math/bits.deBruijn32tab", "math/bits.deBruijn64tab"], apart := false, laid := [("math/bits.deBruijn32tab", laid_math_bits_deBruijn32tab), ("math/bits.deBruijn64tab", laid_math_bits_deBruijn64tab), ("internal/strconv.uint64pow10", laid_internal_strconv_uint64pow10)] }
def TextDecimalSaid : Prop := textDecimalRow.holds Tryd.pinned (OpenSpec.ofChange textDecimalSpec)

/-- ITS FALSE NEIGHBOUR: 'it returns false'. Refute it at one input. -/
def textDecimalWrong : ChangeSpec := { name := "textDecimal", fn := fun _ => fun
  | [d] => { results := [.lit (.bool false)], args := [d] }
  | _ => none }
def TextDecimalWrongFalsely : Prop := textDecimalRow.holds Tryd.pinned (OpenSpec.ofChange textDecimalWrong)

/-- 'modscanlaw02.TextLines': WHATEVER THE INPUT: true; the input reads as it did. -/
def textLinesSpec : ChangeSpec := { name := "textLines", fn := fun _ => fun
  | [d] => { results := [.lit (.bool true)], args := [d] }
  | _ => none }
def textLinesRow : OpenClaim := { program := "ytahfchfjhgpgfaadoor", sum := "96f4de2905d7be8b8ef952b87d80d71cdec0c1cd78c31c8cc4869a9181e052e7", func := "modscan/modscanlaw02.TextLines", spec := "textLines", inPlace := ["internal/bytealg.IndexByteString", "internal/abi.NoEscape"], named := ["internal/strconv.uint64pow10", "math/bits.deBruijn32tab", "math/bits.deBruijn64tab"], apart := false, laid := [("math/bits.deBruijn32tab", laid_math_bits_deBruijn32tab), ("math/bits.deBruijn64tab", laid_math_bits_deBruijn64tab), ("internal/strconv.uint64pow10", laid_internal_strconv_uint64pow10)] }
def TextLinesSaid : Prop := textLinesRow.holds Tryd.pinned (OpenSpec.ofChange textLinesSpec)

/-- ITS FALSE NEIGHBOUR: 'it returns false'. Refute it at one input. -/
def textLinesWrong : ChangeSpec := { name := "textLines", fn := fun _ => fun
  | [d] => { results := [.lit (.bool false)], args := [d] }
  | _ => none }
def TextLinesWrongFalsely : Prop := textLinesRow.holds Tryd.pinned (OpenSpec.ofChange textLinesWrong)

/-- 'modscanlaw05.SettingParse': WHATEVER THE INPUT: true; the input reads as it did. -/
def settingParseSpec : ChangeSpec := { name := "settingParse", fn := fun _ => fun
  | [d] => { results := [.lit (.bool true)], args := [d] }
  | _ => none }
def settingParseRow : OpenClaim := { program := "ytahfchfjhgpgfaadoor", sum := "96f4de2905d7be8b8ef952b87d80d71cdec0c1cd78c31c8cc4869a9181e052e7", func := "modscan/modscanlaw05.SettingParse", spec := "settingParse", inPlace := ["internal/bytealg.IndexByteString", "internal/bytealg.IndexString"], recurses := true, named := ["internal/bytealg.MaxLen", "internal/strconv.uint64pow10", "math/bits.deBruijn32tab", "math/bits.deBruijn64tab"], apart := false, laid := [("math/bits.deBruijn32tab", laid_math_bits_deBruijn32tab), ("math/bits.deBruijn64tab", laid_math_bits_deBruijn64tab), ("internal/strconv.uint64pow10", laid_internal_strconv_uint64pow10)] }
def SettingParseSaid : Prop := settingParseRow.holds Tryd.pinned (OpenSpec.ofChange settingParseSpec)

/-- ITS FALSE NEIGHBOUR: 'it returns false'. Refute it at one input. -/
def settingParseWrong : ChangeSpec := { name := "settingParse", fn := fun _ => fun
  | [d] => { results := [.lit (.bool false)], args := [d] }
  | _ => none }
def SettingParseWrongFalsely : Prop := settingParseRow.holds Tryd.pinned (OpenSpec.ofChange settingParseWrong)

/-- 'modscanlaw05.SettingRound': WHATEVER THE INPUT: true; the input reads as it did. -/
def settingRoundSpec : ChangeSpec := { name := "settingRound", fn := fun _ => fun
  | [d] => { results := [.lit (.bool true)], args := [d] }
  | _ => none }
def settingRoundRow : OpenClaim := { program := "ytahfchfjhgpgfaadoor", sum := "96f4de2905d7be8b8ef952b87d80d71cdec0c1cd78c31c8cc4869a9181e052e7", func := "modscan/modscanlaw05.SettingRound", spec := "settingRound", inPlace := ["internal/bytealg.IndexByteString", "internal/bytealg.IndexString"], named := ["internal/strconv.uint64pow10", "math/bits.deBruijn32tab", "math/bits.deBruijn64tab", "internal/bytealg.MaxLen"], apart := false, laid := [("math/bits.deBruijn32tab", laid_math_bits_deBruijn32tab), ("math/bits.deBruijn64tab", laid_math_bits_deBruijn64tab), ("internal/strconv.uint64pow10", laid_internal_strconv_uint64pow10)] }
def SettingRoundSaid : Prop := settingRoundRow.holds Tryd.pinned (OpenSpec.ofChange settingRoundSpec)

/-- ITS FALSE NEIGHBOUR: 'it returns false'. Refute it at one input. -/
def settingRoundWrong : ChangeSpec := { name := "settingRound", fn := fun _ => fun
  | [d] => { results := [.lit (.bool false)], args := [d] }
  | _ => none }
def SettingRoundWrongFalsely : Prop := settingRoundRow.holds Tryd.pinned (OpenSpec.ofChange settingRoundWrong)

/-- 'modscanlaw05.SettingValid': WHATEVER THE INPUT: true; the input reads as it did. -/
def settingValidSpec : ChangeSpec := { name := "settingValid", fn := fun _ => fun
  | [d1, d2] => { results := [.lit (.bool true)], args := [d1, d2] }
  | _ => none }
def settingValidRow : OpenClaim := { program := "ytahfchfjhgpgfaadoor", sum := "96f4de2905d7be8b8ef952b87d80d71cdec0c1cd78c31c8cc4869a9181e052e7", func := "modscan/modscanlaw05.SettingValid", spec := "settingValid", inPlace := ["internal/bytealg.IndexByteString", "internal/bytealg.IndexString"], recurses := true, named := ["internal/bytealg.MaxLen", "internal/strconv.uint64pow10", "math/bits.deBruijn32tab", "math/bits.deBruijn64tab"], apart := false, laid := [("math/bits.deBruijn32tab", laid_math_bits_deBruijn32tab), ("math/bits.deBruijn64tab", laid_math_bits_deBruijn64tab), ("internal/strconv.uint64pow10", laid_internal_strconv_uint64pow10)] }
def SettingValidSaid : Prop := settingValidRow.holds Tryd.pinned (OpenSpec.ofChange settingValidSpec)

/-- ITS FALSE NEIGHBOUR: 'it returns false'. Refute it at one input. -/
def settingValidWrong : ChangeSpec := { name := "settingValid", fn := fun _ => fun
  | [d1, d2] => { results := [.lit (.bool false)], args := [d1, d2] }
  | _ => none }
def SettingValidWrongFalsely : Prop := settingValidRow.holds Tryd.pinned (OpenSpec.ofChange settingValidWrong)

/-- 'modscanlaw05.SettingCompare': WHATEVER THE INPUT: true; the input reads as it did. -/
def settingCompareSpec : ChangeSpec := { name := "settingCompare", fn := fun _ => fun
  | [d1, d2, d3] => { results := [.lit (.bool true)], args := [d1, d2, d3] }
  | _ => none }
def settingCompareRow : OpenClaim := { program := "ytahfchfjhgpgfaadoor", sum := "96f4de2905d7be8b8ef952b87d80d71cdec0c1cd78c31c8cc4869a9181e052e7", func := "modscan/modscanlaw05.SettingCompare", spec := "settingCompare", inPlace := ["internal/bytealg.IndexByteString", "internal/bytealg.IndexString"], named := ["internal/bytealg.MaxLen", "internal/strconv.uint64pow10", "math/bits.deBruijn32tab", "math/bits.deBruijn64tab"], apart := false, laid := [("math/bits.deBruijn32tab", laid_math_bits_deBruijn32tab), ("math/bits.deBruijn64tab", laid_math_bits_deBruijn64tab), ("internal/strconv.uint64pow10", laid_internal_strconv_uint64pow10)] }
def SettingCompareSaid : Prop := settingCompareRow.holds Tryd.pinned (OpenSpec.ofChange settingCompareSpec)

/-- ITS FALSE NEIGHBOUR: 'it returns false'. Refute it at one input. -/
def settingCompareWrong : ChangeSpec := { name := "settingCompare", fn := fun _ => fun
  | [d1, d2, d3] => { results := [.lit (.bool false)], args := [d1, d2, d3] }
  | _ => none }
def SettingCompareWrongFalsely : Prop := settingCompareRow.holds Tryd.pinned (OpenSpec.ofChange settingCompareWrong)

/-- 'modscanlaw05.SettingList': WHATEVER THE INPUT: true; the input reads as it did. -/
def settingListSpec : ChangeSpec := { name := "settingList", fn := fun _ => fun
  | [d] => { results := [.lit (.bool true)], args := [d] }
  | _ => none }
def settingListRow : OpenClaim := { program := "ytahfchfjhgpgfaadoor", sum := "96f4de2905d7be8b8ef952b87d80d71cdec0c1cd78c31c8cc4869a9181e052e7", func := "modscan/modscanlaw05.SettingList", spec := "settingList", inPlace := ["internal/bytealg.IndexByteString", "internal/bytealg.IndexString"], named := ["internal/bytealg.MaxLen", "internal/strconv.uint64pow10", "math/bits.deBruijn32tab", "math/bits.deBruijn64tab"], apart := false, laid := [("math/bits.deBruijn32tab", laid_math_bits_deBruijn32tab), ("math/bits.deBruijn64tab", laid_math_bits_deBruijn64tab), ("internal/strconv.uint64pow10", laid_internal_strconv_uint64pow10)] }
def SettingListSaid : Prop := settingListRow.holds Tryd.pinned (OpenSpec.ofChange settingListSpec)

/-- ITS FALSE NEIGHBOUR: 'it returns false'. Refute it at one input. -/
def settingListWrong : ChangeSpec := { name := "settingList", fn := fun _ => fun
  | [d] => { results := [.lit (.bool false)], args := [d] }
  | _ => none }
def SettingListWrongFalsely : Prop := settingListRow.holds Tryd.pinned (OpenSpec.ofChange settingListWrong)

/- THE SECOND FORM. 'bulk': how many values and letters a reading holds, each counted each time it is reached (what is shared counts as often as it is met; a slice's spare places count too). A statement '..UptoSaid' is the law's where the arguments, and the package variables that the reading takes, are together of bulk at most 1048576: NARROWER than '..Said'. Prove '..Said' where nothing that the law and all that it calls make is longer than what came in: it says more and counts as full. Else prove '..UptoSaid'. A law counts once. -/
mutual
def uptoBulk {H : Type} : DataW H → Nat
  | .lit (.string bytes) => bytes.length + 1
  | .lit _ => 1
  | .nil => 1
  | .ptr d => uptoBulk d + 1
  | .slice elems spare => uptoBulkAll elems + uptoBulkAll spare + 1
  | .agg parts => uptoBulkAll parts + 1
  | .iface _ d => uptoBulk d + 1
  | .map entries => uptoBulkEntries entries + 1
  | .held _ => 1
def uptoBulkAll {H : Type} : List (DataW H) → Nat
  | [] => 0
  | d :: r => uptoBulk d + uptoBulkAll r
def uptoBulkEntries {H : Type} : List (Lit × DataW H) → Nat
  | [] => 0
  | x :: r => uptoBulkEntry x + uptoBulkEntries r
def uptoBulkEntry {H : Type} : Lit × DataW H → Nat
  | (.string bytes, d) => bytes.length + uptoBulk d + 1
  | (_, d) => uptoBulk d + 1
 end
def uptoSmall : (H : Type) → List (DataW H) → Bool := fun _ ds => decide (uptoBulkAll ds ≤ 1048576)
def OpenSpec.upto (s : _root_.Go.ChangeSpec) : _root_.Go.OpenSpec := { _root_.Go.OpenSpec.ofChange s with cond := some uptoSmall }

/-- 'modscanlaw02.TextHex', WHERE WHAT IT READS IS OF BULK AT MOST 1048576: true; the input reads as it did. -/
def textHexUptoRow : OpenClaim := { program := "ytahfchfjhgpgfaadoor", sum := "96f4de2905d7be8b8ef952b87d80d71cdec0c1cd78c31c8cc4869a9181e052e7", func := "modscan/modscanlaw02.TextHex", spec := "textHex", inPlace := ["internal/bytealg.IndexByteString", "internal/abi.NoEscape"], recurses := true, named := ["internal/strconv.uint64pow10", "math/bits.deBruijn32tab", "math/bits.deBruijn64tab"], apart := false, laid := [("math/bits.deBruijn32tab", laid_math_bits_deBruijn32tab), ("math/bits.deBruijn64tab", laid_math_bits_deBruijn64tab), ("internal/strconv.uint64pow10", laid_internal_strconv_uint64pow10)], narrowed := true }
def TextHexUptoSaid : Prop := textHexUptoRow.holds Tryd.pinned (OpenSpec.upto textHexSpec)

/-- 'modscanlaw02.TextQuote', WHERE WHAT IT READS IS OF BULK AT MOST 1048576: true; the input reads as it did. -/
def textQuoteUptoRow : OpenClaim := { program := "ytahfchfjhgpgfaadoor", sum := "96f4de2905d7be8b8ef952b87d80d71cdec0c1cd78c31c8cc4869a9181e052e7", func := "modscan/modscanlaw02.TextQuote", spec := "textQuote", inPlace := ["internal/abi.NoEscape", "internal/bytealg.IndexByteString"], recurses := true, named := ["internal/strconv.uint64pow10", "math/bits.deBruijn32tab", "math/bits.deBruijn64tab"], apart := false, laid := [("math/bits.deBruijn32tab", laid_math_bits_deBruijn32tab), ("math/bits.deBruijn64tab", laid_math_bits_deBruijn64tab), ("internal/strconv.uint64pow10", laid_internal_strconv_uint64pow10)], narrowed := true }
def TextQuoteUptoSaid : Prop := textQuoteUptoRow.holds Tryd.pinned (OpenSpec.upto textQuoteSpec)

/-- 'modscanlaw02.TextUnquote', WHERE WHAT IT READS IS OF BULK AT MOST 1048576: true; the input reads as it did. -/
def textUnquoteUptoRow : OpenClaim := { program := "ytahfchfjhgpgfaadoor", sum := "96f4de2905d7be8b8ef952b87d80d71cdec0c1cd78c31c8cc4869a9181e052e7", func := "modscan/modscanlaw02.TextUnquote", spec := "textUnquote", inPlace := ["internal/bytealg.IndexByteString", "internal/abi.NoEscape"], recurses := true, named := ["internal/strconv.uint64pow10", "math/bits.deBruijn32tab", "math/bits.deBruijn64tab"], apart := false, laid := [("math/bits.deBruijn32tab", laid_math_bits_deBruijn32tab), ("math/bits.deBruijn64tab", laid_math_bits_deBruijn64tab), ("internal/strconv.uint64pow10", laid_internal_strconv_uint64pow10)], narrowed := true }
def TextUnquoteUptoSaid : Prop := textUnquoteUptoRow.holds Tryd.pinned (OpenSpec.upto textUnquoteSpec)

/-- 'modscanlaw02.TextWords', WHERE WHAT IT READS IS OF BULK AT MOST 1048576: true; the input reads as it did. -/
def textWordsUptoRow : OpenClaim := { program := "ytahfchfjhgpgfaadoor", sum := "96f4de2905d7be8b8ef952b87d80d71cdec0c1cd78c31c8cc4869a9181e052e7", func := "modscan/modscanlaw02.TextWords", spec := "textWords", inPlace := ["internal/bytealg.IndexByteString", "internal/abi.NoEscape"], recurses := true, named := ["internal/strconv.uint64pow10", "math/bits.deBruijn32tab", "math/bits.deBruijn64tab"], apart := false, laid := [("math/bits.deBruijn32tab", laid_math_bits_deBruijn32tab), ("math/bits.deBruijn64tab", laid_math_bits_deBruijn64tab), ("internal/strconv.uint64pow10", laid_internal_strconv_uint64pow10)], narrowed := true }
def TextWordsUptoSaid : Prop := textWordsUptoRow.holds Tryd.pinned (OpenSpec.upto textWordsSpec)

/-- 'modscanlaw02.TextName', WHERE WHAT IT READS IS OF BULK AT MOST 1048576: true; the input reads as it did. -/
def textNameUptoRow : OpenClaim := { program := "ytahfchfjhgpgfaadoor", sum := "96f4de2905d7be8b8ef952b87d80d71cdec0c1cd78c31c8cc4869a9181e052e7", func := "modscan/modscanlaw02.TextName", spec := "textName", inPlace := ["internal/bytealg.IndexByteString", "internal/abi.NoEscape"], named := ["internal/strconv.uint64pow10", "math/bits.deBruijn32tab", "math/bits.deBruijn64tab"], apart := false, laid := [("math/bits.deBruijn32tab", laid_math_bits_deBruijn32tab), ("math/bits.deBruijn64tab", laid_math_bits_deBruijn64tab), ("internal/strconv.uint64pow10", laid_internal_strconv_uint64pow10)], narrowed := true }
def TextNameUptoSaid : Prop := textNameUptoRow.holds Tryd.pinned (OpenSpec.upto textNameSpec)

/-- 'modscanlaw02.TextDecimal', WHERE WHAT IT READS IS OF BULK AT MOST 1048576: true; the input reads as it did. -/
def textDecimalUptoRow : OpenClaim := { program := "ytahfchfjhgpgfaadoor", sum := "96f4de2905d7be8b8ef952b87d80d71cdec0c1cd78c31c8cc4869a9181e052e7", func := "modscan/modscanlaw02.TextDecimal", spec := "textDecimal", inPlace := ["internal/bytealg.IndexByteString", "internal/abi.NoEscape"], recurses := true, named := ["internal/strconv.uint64pow10", "math/bits.deBruijn32tab", "math/bits.deBruijn64tab"], apart := false, laid := [("math/bits.deBruijn32tab", laid_math_bits_deBruijn32tab), ("math/bits.deBruijn64tab", laid_math_bits_deBruijn64tab), ("internal/strconv.uint64pow10", laid_internal_strconv_uint64pow10)], narrowed := true }
def TextDecimalUptoSaid : Prop := textDecimalUptoRow.holds Tryd.pinned (OpenSpec.upto textDecimalSpec)

/-- 'modscanlaw02.TextLines', WHERE WHAT IT READS IS OF BULK AT MOST 1048576: true; the input reads as it did. -/
def textLinesUptoRow : OpenClaim := { program := "ytahfchfjhgpgfaadoor", sum := "96f4de2905d7be8b8ef952b87d80d71cdec0c1cd78c31c8cc4869a9181e052e7", func := "modscan/modscanlaw02.TextLines", spec := "textLines", inPlace := ["internal/bytealg.IndexByteString", "internal/abi.NoEscape"], named := ["internal/strconv.uint64pow10", "math/bits.deBruijn32tab", "math/bits.deBruijn64tab"], apart := false, laid := [("math/bits.deBruijn32tab", laid_math_bits_deBruijn32tab), ("math/bits.deBruijn64tab", laid_math_bits_deBruijn64tab), ("internal/strconv.uint64pow10", laid_internal_strconv_uint64pow10)], narrowed := true }
def TextLinesUptoSaid : Prop := textLinesUptoRow.holds Tryd.pinned (OpenSpec.upto textLinesSpec)

/-- 'modscanlaw05.SettingParse', WHERE WHAT IT READS IS OF BULK AT MOST 1048576: true; the input reads as it did. -/
def settingParseUptoRow : OpenClaim := { program := "ytahfchfjhgpgfaadoor", sum := "96f4de2905d7be8b8ef952b87d80d71cdec0c1cd78c31c8cc4869a9181e052e7", func := "modscan/modscanlaw05.SettingParse", spec := "settingParse", inPlace := ["internal/bytealg.IndexByteString", "internal/bytealg.IndexString"], recurses := true, named := ["internal/bytealg.MaxLen", "internal/strconv.uint64pow10", "math/bits.deBruijn32tab", "math/bits.deBruijn64tab"], apart := false, laid := [("math/bits.deBruijn32tab", laid_math_bits_deBruijn32tab), ("math/bits.deBruijn64tab", laid_math_bits_deBruijn64tab), ("internal/strconv.uint64pow10", laid_internal_strconv_uint64pow10)], narrowed := true }
def SettingParseUptoSaid : Prop := settingParseUptoRow.holds Tryd.pinned (OpenSpec.upto settingParseSpec)

/-- 'modscanlaw05.SettingRound', WHERE WHAT IT READS IS OF BULK AT MOST 1048576: true; the input reads as it did. -/
def settingRoundUptoRow : OpenClaim := { program := "ytahfchfjhgpgfaadoor", sum := "96f4de2905d7be8b8ef952b87d80d71cdec0c1cd78c31c8cc4869a9181e052e7", func := "modscan/modscanlaw05.SettingRound", spec := "settingRound", inPlace := ["internal/bytealg.IndexByteString", "internal/bytealg.IndexString"], named := ["internal/strconv.uint64pow10", "math/bits.deBruijn32tab", "math/bits.deBruijn64tab", "internal/bytealg.MaxLen"], apart := false, laid := [("math/bits.deBruijn32tab", laid_math_bits_deBruijn32tab), ("math/bits.deBruijn64tab", laid_math_bits_deBruijn64tab), ("internal/strconv.uint64pow10", laid_internal_strconv_uint64pow10)], narrowed := true }
def SettingRoundUptoSaid : Prop := settingRoundUptoRow.holds Tryd.pinned (OpenSpec.upto settingRoundSpec)

/-- 'modscanlaw05.SettingValid', WHERE WHAT IT READS IS OF BULK AT MOST 1048576: true; the input reads as it did. -/
def settingValidUptoRow : OpenClaim := { program := "ytahfchfjhgpgfaadoor", sum := "96f4de2905d7be8b8ef952b87d80d71cdec0c1cd78c31c8cc4869a9181e052e7", func := "modscan/modscanlaw05.SettingValid", spec := "settingValid", inPlace := ["internal/bytealg.IndexByteString", "internal/bytealg.IndexString"], recurses := true, named := ["internal/bytealg.MaxLen", "internal/strconv.uint64pow10", "math/bits.deBruijn32tab", "math/bits.deBruijn64tab"], apart := false, laid := [("math/bits.deBruijn32tab", laid_math_bits_deBruijn32tab), ("math/bits.deBruijn64tab", laid_math_bits_deBruijn64tab), ("internal/strconv.uint64pow10", laid_internal_strconv_uint64pow10)], narrowed := true }
def SettingValidUptoSaid : Prop := settingValidUptoRow.holds Tryd.pinned (OpenSpec.upto settingValidSpec)

/-- 'modscanlaw05.SettingCompare', WHERE WHAT IT READS IS OF BULK AT MOST 1048576: true; the input reads as it did. -/
def settingCompareUptoRow : OpenClaim := { program := "ytahfchfjhgpgfaadoor", sum := "96f4de2905d7be8b8ef952b87d80d71cdec0c1cd78c31c8cc4869a9181e052e7", func := "modscan/modscanlaw05.SettingCompare", spec := "settingCompare", inPlace := ["internal/bytealg.IndexByteString", "internal/bytealg.IndexString"], named := ["internal/bytealg.MaxLen", "internal/strconv.uint64pow10", "math/bits.deBruijn32tab", "math/bits.deBruijn64tab"], apart := false, laid := [("math/bits.deBruijn32tab", laid_math_bits_deBruijn32tab), ("math/bits.deBruijn64tab", laid_math_bits_deBruijn64tab), ("internal/strconv.uint64pow10", laid_internal_strconv_uint64pow10)], narrowed := true }
def SettingCompareUptoSaid : Prop := settingCompareUptoRow.holds Tryd.pinned (OpenSpec.upto settingCompareSpec)

/-- 'modscanlaw05.SettingList', WHERE WHAT IT READS IS OF BULK AT MOST 1048576: true; the input reads as it did. -/
def settingListUptoRow : OpenClaim := { program := "ytahfchfjhgpgfaadoor", sum := "96f4de2905d7be8b8ef952b87d80d71cdec0c1cd78c31c8cc4869a9181e052e7", func := "modscan/modscanlaw05.SettingList", spec := "settingList", inPlace := ["internal/bytealg.IndexByteString", "internal/bytealg.IndexString"], named := ["internal/bytealg.MaxLen", "internal/strconv.uint64pow10", "math/bits.deBruijn32tab", "math/bits.deBruijn64tab"], apart := false, laid := [("math/bits.deBruijn32tab", laid_math_bits_deBruijn32tab), ("math/bits.deBruijn64tab", laid_math_bits_deBruijn64tab), ("internal/strconv.uint64pow10", laid_internal_strconv_uint64pow10)], narrowed := true }
def SettingListUptoSaid : Prop := settingListUptoRow.holds Tryd.pinned (OpenSpec.upto settingListSpec)

end Rows
end Go.Proofs.YtahfchfjhgpgfaaDoor

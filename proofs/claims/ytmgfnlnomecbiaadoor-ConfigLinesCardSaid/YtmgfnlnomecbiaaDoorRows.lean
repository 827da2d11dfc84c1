/-
  NARROWER THAN 'FOR EVERY INPUT', by the rows' own cells (each row's printed sentence says how): ScriptFair: laid · ScriptParse: laid · ScriptRefuses: laid · ScriptBounded: laid · ScriptValid: laid · ScriptRound: laid · ConfigCheck: laid · ConfigRound: laid · ConfigParse: laid · ConfigLines: laid.
  DERIVED. THE GIVEN ROWS OF THIS SEAT. 10 by the template 'for every input the law returns true; each argument reads behind the call as it read before'; 0 by the template 'total and deterministic' (their statements: YtmgfnlnomecbiaaDoorTotals.lean).
  GIVEN WITH THE SEED: the statements are not yours to turn. If you find one false, say at which input.
  Laid BY PROGRAM, IN A SANDBOX (cutbox-rows.mjs): the forced cells as the released guide's own fill.sh prints them over the translation a5631419b440297f… (all of the seat's roots in one cut). By AI agents, Wed Nov 11 2026. No macro, syntax, notation, axiom, sorry.
-/
import Derived.Test.YtmgfnlnomecbiaaDoorChecked
import GoSem.Claim
import GoSem.ClaimJoined
import GoSem.ClaimMapViews
import Derived.JoinedTies
import Derived.KernelRfl
namespace Go.Proofs.YtmgfnlnomecbiaaDoor
/- THE CELL 'sum', in the pinned program and in every row, IS THE sha256 OF THE DUMP (.gsa) THAT YtmgfnlnomecbiaaDoorProg.lean LOADS. Nothing in Lean hashes anything: it is a label: what it is worth is what the hold of that sum in a sandbox is worth. -/
noncomputable def Tryd.pinned : Pinned := { name := "ytmgfnlnomecbiaadoor", sum := "a5631419b440297f6899f86e0f2a3b51c8c7ed160409a72b4a0e6a18d756bffa", checked := Tryd.checked }
namespace Rows
def none {H : Type} : Left H := { results := [], args := [] }

/- WHAT THE LISTED PACKAGE-LEVEL VARIABLES READ AS WHEN THE CALL BEGINS. Each datum BY PROGRAM (the guide's laid-datum.mjs) off the statement by which the dump's own 'gosem.cut.vars' lays the variable. In a bare row this is a premise. The card (YtmgfnlnomecbiaaDoorCards.lean) ties it to the program's text. -/
def laid_math_bits_deBruijn32tab {H : Type} : DataW H := .agg [.lit (.int .u8 0), .lit (.int .u8 1), .lit (.int .u8 28), .lit (.int .u8 2), .lit (.int .u8 29), .lit (.int .u8 14), .lit (.int .u8 24), .lit (.int .u8 3), .lit (.int .u8 30), .lit (.int .u8 22), .lit (.int .u8 20), .lit (.int .u8 15), .lit (.int .u8 25), .lit (.int .u8 17), .lit (.int .u8 4), .lit (.int .u8 8), .lit (.int .u8 31), .lit (.int .u8 27), .lit (.int .u8 13), .lit (.int .u8 23), .lit (.int .u8 21), .lit (.int .u8 19), .lit (.int .u8 16), .lit (.int .u8 7), .lit (.int .u8 26), .lit (.int .u8 12), .lit (.int .u8 18), .lit (.int .u8 6), .lit (.int .u8 11), .lit (.int .u8 5), .lit (.int .u8 10), .lit (.int .u8 9)]
def laid_math_bits_deBruijn64tab {H : Type} : DataW H := .agg [.lit (.int .u8 0), .lit (.int .u8 1), .lit (.int .u8 56), .lit (.int .u8 2), .lit (.int .u8 57), .lit (.int .u8 49), .lit (.int .u8 28), .lit (.int .u8 3), .lit (.int .u8 61), .lit (.int .u8 58), .lit (.int .u8 42), .lit (.int .u8 50), .lit (.int .u8 38), .lit (.int .u8 29), .lit (.int .u8 17), .lit (.int .u8 4), .lit (.int .u8 62), .lit (.int .u8 47), .lit (.int .u8 59), .lit (.int .u8 36), .lit (.int .u8 45), .lit (.int .u8 43), .lit (.int .u8 51), .lit (.int .u8 22), .lit (.int .u8 53), .lit (.int .u8 39), .lit (.int .u8 33), .lit (.int .u8 30), .lit (.int .u8 24), .lit (.int .u8 18), .lit (.int .u8 12), .lit (.int .u8 5), .lit (.int .u8 63), .lit (.int .u8 55), .lit (.int .u8 48), .lit (.int .u8 27), .lit (.int .u8 60), .lit (.int .u8 41), .lit (.int .u8 37), .lit (.int .u8 16), .lit (.int .u8 46), .lit (.int .u8 35), .lit (.int .u8 44), .lit (.int .u8 21), .lit (.int .u8 52), .lit (.int .u8 32), .lit (.int .u8 23), .lit (.int .u8 11), .lit (.int .u8 54), .lit (.int .u8 26), .lit (.int .u8 40), .lit (.int .u8 15), .lit (.int .u8 34), .lit (.int .u8 20), .lit (.int .u8 31), .lit (.int .u8 10), .lit (.int .u8 25), .lit (.int .u8 14), .lit (.int .u8 19), .lit (.int .u8 9), .lit (.int .u8 13), .lit (.int .u8 8), .lit (.int .u8 7), .lit (.int .u8 6)]
def laid_internal_strconv_uint64pow10 {H : Type} : DataW H := .agg [.lit (.int .u64 1), .lit (.int .u64 10), .lit (.int .u64 100), .lit (.int .u64 1000), .lit (.int .u64 10000), .lit (.int .u64 100000), .lit (.int .u64 1000000), .lit (.int .u64 10000000), .lit (.int .u64 100000000), .lit (.int .u64 1000000000), .lit (.int .u64 10000000000), .lit (.int .u64 100000000000), .lit (.int .u64 1000000000000), .lit (.int .u64 10000000000000), .lit (.int .u64 100000000000000), .lit (.int .u64 1000000000000000), .lit (.int .u64 10000000000000000), .lit (.int .u64 100000000000000000), .lit (.int .u64 1000000000000000000), .lit (.int .u64 10000000000000000000)]

/-- 'modscanlaw15.ScriptFair': WHATEVER THE INPUT: true; the input reads as it did. -/
def scriptFairSpec : ChangeSpec := { name := "scriptFair", fn := fun _ => fun
  | [d1, d2] => { results := [.lit (.bool true)], args := [d1, d2] }
  | _ => none }
def scriptFairRow : OpenClaim := { program := "ytmgfnlnomecbiaadoor", sum := "a5631419b440297f6899f86e0f2a3b51c8c7ed160409a72b4a0e6a18d756bffa", func := "modscan/modscanlaw15.ScriptFair", spec := "scriptFair", inPlace := ["internal/bytealg.IndexByteString", "internal/abi.NoEscape"], unfollowed := true, recurses := true, named := ["internal/strconv.uint64pow10", "math/bits.deBruijn32tab", "math/bits.deBruijn64tab"], apart := false, laid := [("math/bits.deBruijn32tab", laid_math_bits_deBruijn32tab), ("math/bits.deBruijn64tab", laid_math_bits_deBruijn64tab), ("internal/strconv.uint64pow10", laid_internal_strconv_uint64pow10)] }
def ScriptFairSaid : Prop := scriptFairRow.holds Tryd.pinned (OpenSpec.ofChange scriptFairSpec)

/-- ITS FALSE NEIGHBOUR: 'it returns false'. Refute it at one input. -/
def scriptFairWrong : ChangeSpec := { name := "scriptFair", fn := fun _ => fun
  | [d1, d2] => { results := [.lit (.bool false)], args := [d1, d2] }
  | _ => none }
def ScriptFairWrongFalsely : Prop := scriptFairRow.holds Tryd.pinned (OpenSpec.ofChange scriptFairWrong)

/-- 'modscanlaw15.ScriptParse': WHATEVER THE INPUT: true; the input reads as it did. -/
def scriptParseSpec : ChangeSpec := { name := "scriptParse", fn := fun _ => fun
  | [d1, d2, d3, d4, d5] => { results := [.lit (.bool true)], args := [d1, d2, d3, d4, d5] }
  | _ => none }
def scriptParseRow : OpenClaim := { program := "ytmgfnlnomecbiaadoor", sum := "a5631419b440297f6899f86e0f2a3b51c8c7ed160409a72b4a0e6a18d756bffa", func := "modscan/modscanlaw15.ScriptParse", spec := "scriptParse", inPlace := ["internal/bytealg.IndexByteString", "internal/abi.NoEscape"], unfollowed := true, recurses := true, named := ["internal/strconv.uint64pow10", "math/bits.deBruijn32tab", "math/bits.deBruijn64tab"], apart := false, laid := [("math/bits.deBruijn32tab", laid_math_bits_deBruijn32tab), ("math/bits.deBruijn64tab", laid_math_bits_deBruijn64tab), ("internal/strconv.uint64pow10", laid_internal_strconv_uint64pow10)] }
def ScriptParseSaid : Prop := scriptParseRow.holds Tryd.pinned (OpenSpec.ofChange scriptParseSpec)

/-- ITS FALSE NEIGHBOUR: 'it returns false'. Refute it at one input. -/
def scriptParseWrong : ChangeSpec := { name := "scriptParse", fn := fun _ => fun
  | [d1, d2, d3, d4, d5] => { results := [.lit (.bool false)], args := [d1, d2, d3, d4, d5] }
  | _ => none }
def ScriptParseWrongFalsely : Prop := scriptParseRow.holds Tryd.pinned (OpenSpec.ofChange scriptParseWrong)

/-- 'modscanlaw15.ScriptRefuses': WHATEVER THE INPUT: true; the input reads as it did. -/
def scriptRefusesSpec : ChangeSpec := { name := "scriptRefuses", fn := fun _ => fun
  | [d] => { results := [.lit (.bool true)], args := [d] }
  | _ => none }
def scriptRefusesRow : OpenClaim := { program := "ytmgfnlnomecbiaadoor", sum := "a5631419b440297f6899f86e0f2a3b51c8c7ed160409a72b4a0e6a18d756bffa", func := "modscan/modscanlaw15.ScriptRefuses", spec := "scriptRefuses", inPlace := ["internal/bytealg.IndexByteString", "internal/abi.NoEscape"], unfollowed := true, recurses := true, named := ["internal/strconv.uint64pow10", "math/bits.deBruijn32tab", "math/bits.deBruijn64tab"], apart := false, laid := [("math/bits.deBruijn32tab", laid_math_bits_deBruijn32tab), ("math/bits.deBruijn64tab", laid_math_bits_deBruijn64tab), ("internal/strconv.uint64pow10", laid_internal_strconv_uint64pow10)] }
def ScriptRefusesSaid : Prop := scriptRefusesRow.holds Tryd.pinned (OpenSpec.ofChange scriptRefusesSpec)

/-- ITS FALSE NEIGHBOUR: 'it returns false'. Refute it at one input. -/
def scriptRefusesWrong : ChangeSpec := { name := "scriptRefuses", fn := fun _ => fun
  | [d] => { results := [.lit (.bool false)], args := [d] }
  | _ => none }
def ScriptRefusesWrongFalsely : Prop := scriptRefusesRow.holds Tryd.pinned (OpenSpec.ofChange scriptRefusesWrong)

/-- 'modscanlaw15.ScriptBounded': WHATEVER THE INPUT: true; the input reads as it did. -/
def scriptBoundedSpec : ChangeSpec := { name := "scriptBounded", fn := fun _ => fun
  | [d1, d2, d3] => { results := [.lit (.bool true)], args := [d1, d2, d3] }
  | _ => none }
def scriptBoundedRow : OpenClaim := { program := "ytmgfnlnomecbiaadoor", sum := "a5631419b440297f6899f86e0f2a3b51c8c7ed160409a72b4a0e6a18d756bffa", func := "modscan/modscanlaw15.ScriptBounded", spec := "scriptBounded", inPlace := ["internal/bytealg.IndexByteString", "internal/abi.NoEscape"], unfollowed := true, recurses := true, named := ["internal/strconv.uint64pow10", "math/bits.deBruijn32tab", "math/bits.deBruijn64tab"], apart := false, laid := [("math/bits.deBruijn32tab", laid_math_bits_deBruijn32tab), ("math/bits.deBruijn64tab", laid_math_bits_deBruijn64tab), ("internal/strconv.uint64pow10", laid_internal_strconv_uint64pow10)] }
def ScriptBoundedSaid : Prop := scriptBoundedRow.holds Tryd.pinned (OpenSpec.ofChange scriptBoundedSpec)

/-- ITS FALSE NEIGHBOUR: 'it returns false'. Refute it at one input. -/
def scriptBoundedWrong : ChangeSpec := { name := "scriptBounded", fn := fun _ => fun
  | [d1, d2, d3] => { results := [.lit (.bool false)], args := [d1, d2, d3] }
  | _ => none }
def ScriptBoundedWrongFalsely : Prop := scriptBoundedRow.holds Tryd.pinned (OpenSpec.ofChange scriptBoundedWrong)

/-- 'modscanlaw15.ScriptValid': WHATEVER THE INPUT: true; the input reads as it did. -/
def scriptValidSpec : ChangeSpec := { name := "scriptValid", fn := fun _ => fun
  | [d1, d2] => { results := [.lit (.bool true)], args := [d1, d2] }
  | _ => none }
def scriptValidRow : OpenClaim := { program := "ytmgfnlnomecbiaadoor", sum := "a5631419b440297f6899f86e0f2a3b51c8c7ed160409a72b4a0e6a18d756bffa", func := "modscan/modscanlaw15.ScriptValid", spec := "scriptValid", inPlace := ["internal/bytealg.IndexByteString", "internal/abi.NoEscape"], unfollowed := true, recurses := true, named := ["internal/strconv.uint64pow10", "math/bits.deBruijn32tab", "math/bits.deBruijn64tab"], apart := false, laid := [("math/bits.deBruijn32tab", laid_math_bits_deBruijn32tab), ("math/bits.deBruijn64tab", laid_math_bits_deBruijn64tab), ("internal/strconv.uint64pow10", laid_internal_strconv_uint64pow10)] }
def ScriptValidSaid : Prop := scriptValidRow.holds Tryd.pinned (OpenSpec.ofChange scriptValidSpec)

/-- ITS FALSE NEIGHBOUR: 'it returns false'. Refute it at one input. -/
def scriptValidWrong : ChangeSpec := { name := "scriptValid", fn := fun _ => fun
  | [d1, d2] => { results := [.lit (.bool false)], args := [d1, d2] }
  | _ => none }
def ScriptValidWrongFalsely : Prop := scriptValidRow.holds Tryd.pinned (OpenSpec.ofChange scriptValidWrong)

/-- 'modscanlaw15.ScriptRound': WHATEVER THE INPUT: true; the input reads as it did. -/
def scriptRoundSpec : ChangeSpec := { name := "scriptRound", fn := fun _ => fun
  | [d] => { results := [.lit (.bool true)], args := [d] }
  | _ => none }
def scriptRoundRow : OpenClaim := { program := "ytmgfnlnomecbiaadoor", sum := "a5631419b440297f6899f86e0f2a3b51c8c7ed160409a72b4a0e6a18d756bffa", func := "modscan/modscanlaw15.ScriptRound", spec := "scriptRound", inPlace := ["internal/bytealg.IndexByteString", "internal/abi.NoEscape", "internal/bytealg.MakeNoZero"], unfollowed := true, recurses := true, named := ["internal/strconv.uint64pow10", "math/bits.deBruijn32tab", "math/bits.deBruijn64tab"], apart := false, laid := [("math/bits.deBruijn32tab", laid_math_bits_deBruijn32tab), ("math/bits.deBruijn64tab", laid_math_bits_deBruijn64tab), ("internal/strconv.uint64pow10", laid_internal_strconv_uint64pow10)] }
def ScriptRoundSaid : Prop := scriptRoundRow.holds Tryd.pinned (OpenSpec.ofChange scriptRoundSpec)

/-- ITS FALSE NEIGHBOUR: 'it returns false'. Refute it at one input. -/
def scriptRoundWrong : ChangeSpec := { name := "scriptRound", fn := fun _ => fun
  | [d] => { results := [.lit (.bool false)], args := [d] }
  | _ => none }
def ScriptRoundWrongFalsely : Prop := scriptRoundRow.holds Tryd.pinned (OpenSpec.ofChange scriptRoundWrong)

/-- 'modscanlaw17.ConfigCheck': WHATEVER THE INPUT: true; the input reads as it did. -/
def configCheckSpec : ChangeSpec := { name := "configCheck", fn := fun _ => fun
  | [d] => { results := [.lit (.bool true)], args := [d] }
  | _ => none }
def configCheckRow : OpenClaim := { program := "ytmgfnlnomecbiaadoor", sum := "a5631419b440297f6899f86e0f2a3b51c8c7ed160409a72b4a0e6a18d756bffa", func := "modscan/modscanlaw17.ConfigCheck", spec := "configCheck", inPlace := ["internal/bytealg.IndexByteString", "internal/abi.NoEscape", "internal/bytealg.IndexString"], named := ["internal/bytealg.MaxLen", "internal/strconv.uint64pow10", "math/bits.deBruijn32tab", "math/bits.deBruijn64tab"], apart := false, laid := [("math/bits.deBruijn32tab", laid_math_bits_deBruijn32tab), ("math/bits.deBruijn64tab", laid_math_bits_deBruijn64tab), ("internal/strconv.uint64pow10", laid_internal_strconv_uint64pow10)] }
def ConfigCheckSaid : Prop := configCheckRow.holds Tryd.pinned (OpenSpec.ofChange configCheckSpec)

/-- ITS FALSE NEIGHBOUR: 'it returns false'. Refute it at one input. -/
def configCheckWrong : ChangeSpec := { name := "configCheck", fn := fun _ => fun
  | [d] => { results := [.lit (.bool false)], args := [d] }
  | _ => none }
def ConfigCheckWrongFalsely : Prop := configCheckRow.holds Tryd.pinned (OpenSpec.ofChange configCheckWrong)

/-- 'modscanlaw17.ConfigRound': WHATEVER THE INPUT: true; the input reads as it did. -/
def configRoundSpec : ChangeSpec := { name := "configRound", fn := fun _ => fun
  | [d] => { results := [.lit (.bool true)], args := [d] }
  | _ => none }
def configRoundRow : OpenClaim := { program := "ytmgfnlnomecbiaadoor", sum := "a5631419b440297f6899f86e0f2a3b51c8c7ed160409a72b4a0e6a18d756bffa", func := "modscan/modscanlaw17.ConfigRound", spec := "configRound", inPlace := ["internal/bytealg.IndexByteString", "internal/abi.NoEscape", "internal/bytealg.IndexString"], recurses := true, named := ["internal/bytealg.MaxLen", "internal/strconv.uint64pow10", "math/bits.deBruijn32tab", "math/bits.deBruijn64tab"], apart := false, laid := [("math/bits.deBruijn32tab", laid_math_bits_deBruijn32tab), ("math/bits.deBruijn64tab", laid_math_bits_deBruijn64tab), ("internal/strconv.uint64pow10", laid_internal_strconv_uint64pow10)] }
def ConfigRoundSaid : Prop := configRoundRow.holds Tryd.pinned (OpenSpec.ofChange configRoundSpec)

/-- ITS FALSE NEIGHBOUR: 'it returns false'. Refute it at one input. -/
def configRoundWrong : ChangeSpec := { name := "configRound", fn := fun _ => fun
  | [d] => { results := [.lit (.bool false)], args := [d] }
  | _ => none }
def ConfigRoundWrongFalsely : Prop := configRoundRow.holds Tryd.pinned (OpenSpec.ofChange configRoundWrong)

/-- 'modscanlaw17.ConfigParse': WHATEVER THE INPUT: true; the input reads as it did. -/
def configParseSpec : ChangeSpec := { name := "configParse", fn := fun _ => fun
  | [d1, d2, d3, d4, d5] => { results := [.lit (.bool true)], args := [d1, d2, d3, d4, d5] }
  | _ => none }
def configParseRow : OpenClaim := { program := "ytmgfnlnomecbiaadoor", sum := "a5631419b440297f6899f86e0f2a3b51c8c7ed160409a72b4a0e6a18d756bffa", func := "modscan/modscanlaw17.ConfigParse", spec := "configParse", inPlace := ["internal/bytealg.IndexByteString", "internal/abi.NoEscape", "internal/bytealg.IndexString"], recurses := true, named := ["internal/bytealg.MaxLen", "internal/strconv.uint64pow10", "math/bits.deBruijn32tab", "math/bits.deBruijn64tab"], apart := false, laid := [("math/bits.deBruijn32tab", laid_math_bits_deBruijn32tab), ("math/bits.deBruijn64tab", laid_math_bits_deBruijn64tab), ("internal/strconv.uint64pow10", laid_internal_strconv_uint64pow10)] }
def ConfigParseSaid : Prop := configParseRow.holds Tryd.pinned (OpenSpec.ofChange configParseSpec)

/-- ITS FALSE NEIGHBOUR: 'it returns false'. Refute it at one input. -/
def configParseWrong : ChangeSpec := { name := "configParse", fn := fun _ => fun
  | [d1, d2, d3, d4, d5] => { results := [.lit (.bool false)], args := [d1, d2, d3, d4, d5] }
  | _ => none }
def ConfigParseWrongFalsely : Prop := configParseRow.holds Tryd.pinned (OpenSpec.ofChange configParseWrong)

/-- 'modscanlaw17.ConfigLines': WHATEVER THE INPUT: true; the input reads as it did. -/
def configLinesSpec : ChangeSpec := { name := "configLines", fn := fun _ => fun
  | [d1, d2, d3, d4] => { results := [.lit (.bool true)], args := [d1, d2, d3, d4] }
  | _ => none }
def configLinesRow : OpenClaim := { program := "ytmgfnlnomecbiaadoor", sum := "a5631419b440297f6899f86e0f2a3b51c8c7ed160409a72b4a0e6a18d756bffa", func := "modscan/modscanlaw17.ConfigLines", spec := "configLines", inPlace := ["internal/bytealg.IndexByteString", "internal/abi.NoEscape", "internal/bytealg.IndexString"], recurses := true, named := ["internal/bytealg.MaxLen", "internal/strconv.uint64pow10", "math/bits.deBruijn32tab", "math/bits.deBruijn64tab"], apart := false, laid := [("math/bits.deBruijn32tab", laid_math_bits_deBruijn32tab), ("math/bits.deBruijn64tab", laid_math_bits_deBruijn64tab), ("internal/strconv.uint64pow10", laid_internal_strconv_uint64pow10)] }
def ConfigLinesSaid : Prop := configLinesRow.holds Tryd.pinned (OpenSpec.ofChange configLinesSpec)

/-- ITS FALSE NEIGHBOUR: 'it returns false'. Refute it at one input. -/
def configLinesWrong : ChangeSpec := { name := "configLines", fn := fun _ => fun
  | [d1, d2, d3, d4] => { results := [.lit (.bool false)], args := [d1, d2, d3, d4] }
  | _ => none }
def ConfigLinesWrongFalsely : Prop := configLinesRow.holds Tryd.pinned (OpenSpec.ofChange configLinesWrong)

/- THE SECOND FORM. 'bulk': how many values and letters a reading holds, each counted each time it is reached (what is shared counts as often as it is met; a slice's spare places count too). A statement '..UptoSaid' is the law's where the arguments, and the package variables that the reading takes, are together of bulk at most 1048576: NARROWER than '..Said'. Prove '..Said' where nothing that the law and all that it calls make is longer than what came in: it says more and counts as full. Else prove '..UptoSaid'. A law counts once. -/
mutual
def uptoBulk {H : Type} : DataW H → Nat
  | .lit (.string bytes) => bytes.length + 1
  | .lit _ => 1
  | .nil => 1
  | .ptr d => uptoBulk d + 1
  | .slice elems spare => uptoBulkAll elems + uptoBulkAll spare + 1
  | .agg parts => uptoBulkAll parts + 1
  | .iface _ d => uptoBulk d + 1
  | .map entries => uptoBulkEntries entries + 1
  | .held _ => 1
def uptoBulkAll {H : Type} : List (DataW H) → Nat
  | [] => 0
  | d :: r => uptoBulk d + uptoBulkAll r
def uptoBulkEntries {H : Type} : List (Lit × DataW H) → Nat
  | [] => 0
  | x :: r => uptoBulkEntry x + uptoBulkEntries r
def uptoBulkEntry {H : Type} : Lit × DataW H → Nat
  | (.string bytes, d) => bytes.length + uptoBulk d + 1
  | (_, d) => uptoBulk d + 1
 end
def uptoSmall : (H : Type) → List (DataW H) → Bool := fun _ ds => decide (uptoBulkAll ds ≤ 1048576)
def OpenSpec.upto (s : _root_.Go.ChangeSpec) : _root_.Go.OpenSpec := { _root_.Go.OpenSpec.ofChange s with cond := some uptoSmall }

/-- 'modscanlaw15.ScriptFair', WHERE WHAT IT READS IS OF BULK AT MOST 1048576: true; the input reads as it did. -/
def scriptFairUptoRow : OpenClaim := { program := "ytmgfnlnomecbiaadoor", sum := "a5631419b440297f6899f86e0f2a3b51c8c7ed160409a72b4a0e6a18d756bffa", func := "modscan/modscanlaw15.ScriptFair", spec := "scriptFair", inPlace := ["internal/bytealg.IndexByteString", "internal/abi.NoEscape"], unfollowed := true, recurses := true, named := ["internal/strconv.uint64pow10", "math/bits.deBruijn32tab", "math/bits.deBruijn64tab"], apart := false, laid := [("math/bits.deBruijn32tab", laid_math_bits_deBruijn32tab), ("math/bits.deBruijn64tab", laid_math_bits_deBruijn64tab), ("internal/strconv.uint64pow10", laid_internal_strconv_uint64pow10)], narrowed := true }
def ScriptFairUptoSaid : Prop := scriptFairUptoRow.holds Tryd.pinned (OpenSpec.upto scriptFairSpec)

/-- 'modscanlaw15.ScriptParse', WHERE WHAT IT READS IS OF BULK AT MOST 1048576: true; the input reads as it did. -/
def scriptParseUptoRow : OpenClaim := { program := "ytmgfnlnomecbiaadoor", sum := "a5631419b440297f6899f86e0f2a3b51c8c7ed160409a72b4a0e6a18d756bffa", func := "modscan/modscanlaw15.ScriptParse", spec := "scriptParse", inPlace := ["internal/bytealg.IndexByteString", "internal/abi.NoEscape"], unfollowed := true, recurses := true, named := ["internal/strconv.uint64pow10", "math/bits.deBruijn32tab", "math/bits.deBruijn64tab"], apart := false, laid := [("math/bits.deBruijn32tab", laid_math_bits_deBruijn32tab), ("math/bits.deBruijn64tab", laid_math_bits_deBruijn64tab), ("internal/strconv.uint64pow10", laid_internal_strconv_uint64pow10)], narrowed := true }
def ScriptParseUptoSaid : Prop := scriptParseUptoRow.holds Tryd.pinned (OpenSpec.upto scriptParseSpec)

/-- 'modscanlaw15.ScriptRefuses', WHERE WHAT IT READS IS OF BULK AT MOST 1048576: true; the input reads as it did. -/
def scriptRefusesUptoRow : OpenClaim := { program := "ytmgfnlnomecbiaadoor", sum := "a5631419b440297f6899f86e0f2a3b51c8c7ed160409a72b4a0e6a18d756bffa", func := "modscan/modscanlaw15.ScriptRefuses", spec := "scriptRefuses", inPlace := ["internal/bytealg.IndexByteString", "internal/abi.NoEscape"], unfollowed := true, recurses := true, named := ["internal/strconv.uint64pow10", "math/bits.deBruijn32tab", "math/bits.deBruijn64tab"], apart := false, laid := [("math/bits.deBruijn32tab", laid_math_bits_deBruijn32tab), ("math/bits.deBruijn64tab", laid_math_bits_deBruijn64tab), ("internal/strconv.uint64pow10", laid_internal_strconv_uint64pow10)], narrowed := true }
def ScriptRefusesUptoSaid : Prop := scriptRefusesUptoRow.holds Tryd.pinned (OpenSpec.upto scriptRefusesSpec)

/-- 'modscanlaw15.ScriptBounded', WHERE WHAT IT READS IS OF BULK AT MOST 1048576: true; the input reads as it did. -/
def scriptBoundedUptoRow : OpenClaim := { program := "ytmgfnlnomecbiaadoor", sum := "a5631419b440297f6899f86e0f2a3b51c8c7ed160409a72b4a0e6a18d756bffa", func := "modscan/modscanlaw15.ScriptBounded", spec := "scriptBounded", inPlace := ["internal/bytealg.IndexByteString", "internal/abi.NoEscape"], unfollowed := true, recurses := true, named := ["internal/strconv.uint64pow10", "math/bits.deBruijn32tab", "math/bits.deBruijn64tab"], apart := false, laid := [("math/bits.deBruijn32tab", laid_math_bits_deBruijn32tab), ("math/bits.deBruijn64tab", laid_math_bits_deBruijn64tab), ("internal/strconv.uint64pow10", laid_internal_strconv_uint64pow10)], narrowed := true }
def ScriptBoundedUptoSaid : Prop := scriptBoundedUptoRow.holds Tryd.pinned (OpenSpec.upto scriptBoundedSpec)

/-- 'modscanlaw15.ScriptValid', WHERE WHAT IT READS IS OF BULK AT MOST 1048576: true; the input reads as it did. -/
def scriptValidUptoRow : OpenClaim := { program := "ytmgfnlnomecbiaadoor", sum := "a5631419b440297f6899f86e0f2a3b51c8c7ed160409a72b4a0e6a18d756bffa", func := "modscan/modscanlaw15.ScriptValid", spec := "scriptValid", inPlace := ["internal/bytealg.IndexByteString", "internal/abi.NoEscape"], unfollowed := true, recurses := true, named := ["internal/strconv.uint64pow10", "math/bits.deBruijn32tab", "math/bits.deBruijn64tab"], apart := false, laid := [("math/bits.deBruijn32tab", laid_math_bits_deBruijn32tab), ("math/bits.deBruijn64tab", laid_math_bits_deBruijn64tab), ("internal/strconv.uint64pow10", laid_internal_strconv_uint64pow10)], narrowed := true }
def ScriptValidUptoSaid : Prop := scriptValidUptoRow.holds Tryd.pinned (OpenSpec.upto scriptValidSpec)

/-- 'modscanlaw15.ScriptRound', WHERE WHAT IT READS IS OF BULK AT MOST 1048576: true; the input reads as it did. -/
def scriptRoundUptoRow : OpenClaim := { program := "ytmgfnlnomecbiaadoor", sum := "a5631419b440297f6899f86e0f2a3b51c8c7ed160409a72b4a0e6a18d756bffa", func := "modscan/modscanlaw15.ScriptRound", spec := "scriptRound", inPlace := ["internal/bytealg.IndexByteString", "internal/abi.NoEscape", "internal/bytealg.MakeNoZero"], unfollowed := true, recurses := true, named := ["internal/strconv.uint64pow10", "math/bits.deBruijn32tab", "math/bits.deBruijn64tab"], apart := false, laid := [("math/bits.deBruijn32tab", laid_math_bits_deBruijn32tab), ("math/bits.deBruijn64tab", laid_math_bits_deBruijn64tab), ("internal/strconv.uint64pow10", laid_internal_strconv_uint64pow10)], narrowed := true }
def ScriptRoundUptoSaid : Prop := scriptRoundUptoRow.holds Tryd.pinned (OpenSpec.upto scriptRoundSpec)

/-- 'modscanlaw17.ConfigCheck', WHERE WHAT IT READS IS OF BULK AT MOST 1048576: true; the input reads as it did. -/
def configCheckUptoRow : OpenClaim := { program := "ytmgfnlnomecbiaadoor", sum := "a5631419b440297f6899f86e0f2a3b51c8c7ed160409a72b4a0e6a18d756bffa", func := "modscan/modscanlaw17.ConfigCheck", spec := "configCheck", inPlace := ["internal/bytealg.IndexByteString", "internal/abi.NoEscape", "internal/bytealg.IndexString"], named := ["internal/bytealg.MaxLen", "internal/strconv.uint64pow10", "math/bits.deBruijn32tab", "math/bits.deBruijn64tab"], apart := false, laid := [("math/bits.deBruijn32tab", laid_math_bits_deBruijn32tab), ("math/bits.deBruijn64tab", laid_math_bits_deBruijn64tab), ("internal/strconv.uint64pow10", laid_internal_strconv_uint64pow10)], narrowed := true }
def ConfigCheckUptoSaid : Prop := configCheckUptoRow.holds Tryd.pinned (OpenSpec.upto configCheckSpec)

/-- 'modscanlaw17.ConfigRound', WHERE WHAT IT READS IS OF BULK AT MOST 1048576: true; the input reads as it did. -/
def configRoundUptoRow : OpenClaim := { program := "ytmgfnlnomecbiaadoor", sum := "a5631419b440297f6899f86e0f2a3b51c8c7ed160409a72b4a0e6a18d756bffa", func := "modscan/modscanlaw17.ConfigRound", spec := "configRound", inPlace := ["internal/bytealg.IndexByteString", "internal/abi.NoEscape", "internal/bytealg.IndexString"], recurses := true, named := ["internal/bytealg.MaxLen", "internal/strconv.uint64pow10", "math/bits.deBruijn32tab", "math/bits.deBruijn64tab"], apart := false, laid := [("math/bits.deBruijn32tab", laid_math_bits_deBruijn32tab), ("math/bits.deBruijn64tab", laid_math_bits_deBruijn64tab), ("internal/strconv.uint64pow10", laid_internal_strconv_uint64pow10)], narrowed := true }
def ConfigRoundUptoSaid : Prop := configRoundUptoRow.holds Tryd.pinned (OpenSpec.upto configRoundSpec)

/-- 'modscanlaw17.ConfigParse', WHERE WHAT IT READS IS OF BULK AT MOST 1048576: true; the input reads as it did. -/
def configParseUptoRow : OpenClaim := { program := "ytmgfnlnomecbiaadoor", sum := "a5631419b440297f6899f86e0f2a3b51c8c7ed160409a72b4a0e6a18d756bffa", func := "modscan/modscanlaw17.ConfigParse", spec := "configParse", inPlace := ["internal/bytealg.IndexByteString", "internal/abi.NoEscape", "internal/bytealg.IndexString"], recurses := true, named := ["internal/bytealg.MaxLen", "internal/strconv.uint64pow10", "math/bits.deBruijn32tab", "math/bits.deBruijn64tab"], apart := false, laid := [("math/bits.deBruijn32tab", laid_math_bits_deBruijn32tab), ("math/bits.deBruijn64tab", laid_math_bits_deBruijn64tab), ("internal/strconv.uint64pow10", laid_internal_strconv_uint64pow10)], narrowed := true }
def ConfigParseUptoSaid : Prop := configParseUptoRow.holds Tryd.pinned (OpenSpec.upto configParseSpec)

/-- 'modscanlaw17.ConfigLines', WHERE WHAT IT READS IS OF BULK AT MOST 1048576: true; the input reads as it did. -/
def configLinesUptoRow : OpenClaim := { program := "ytmgfnlnomecbiaadoor", sum := "a5631419b440297f6899f86e0f2a3b51c8c7ed160409a72b4a0e6a18d756bffa", func := "modscan/modscanlaw17.ConfigLines", spec := "configLines", inPlace := ["internal/bytealg.IndexByteString", "internal/abi.NoEscape", "internal/bytealg.IndexString"], recurses := true, named := ["internal/bytealg.MaxLen", "internal/strconv.uint64pow10", "math/bits.deBruijn32tab", "math/bits.deBruijn64tab"], apart := false, laid := [("math/bits.deBruijn32tab", laid_math_bits_deBruijn32tab), ("math/bits.deBruijn64tab", laid_math_bits_deBruijn64tab), ("internal/strconv.uint64pow10", laid_internal_strconv_uint64pow10)], narrowed := true }
def ConfigLinesUptoSaid : Prop := configLinesUptoRow.holds Tryd.pinned (OpenSpec.upto configLinesSpec)

end Rows
end Go.Proofs.YtmgfnlnomecbiaaDoor

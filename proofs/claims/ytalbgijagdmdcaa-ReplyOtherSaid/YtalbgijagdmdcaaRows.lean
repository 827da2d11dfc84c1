/-
  No cell of these rows narrows 'for every input' (looked for: loops, veiled, ifaces, maps, wideKeys, modest, calm, conditions, laid).
  DERIVED. THE GIVEN ROWS OF THIS SEAT. 19 by the template 'for every input the law returns true; each argument reads behind the call as it read before'; 0 by the template 'total and deterministic' (their statements: YtalbgijagdmdcaaTotals.lean).
  GIVEN WITH THE SEED: the statements are not yours to turn. If you find one false, say at which input.
  Laid BY PROGRAM, IN A SANDBOX (cutbox-rows.mjs): the forced cells as the released guide's own fill.sh prints them over the translation 27fb948d8717c929… (all of the seat's roots in one cut). By AI agents, Wed Nov 11 2026. No macro, syntax, notation, axiom, sorry.
-/
import Derived.Test.YtalbgijagdmdcaaChecked
import GoSem.Claim
import GoSem.ClaimJoined
import GoSem.ClaimMapViews
import Derived.JoinedTies
import Derived.KernelRfl
namespace Go.Proofs.Ytalbgijagdmdcaa
/- THE CELL 'sum', in the pinned program and in every row, IS THE sha256 OF THE DUMP (.gsa) THAT YtalbgijagdmdcaaProg.lean LOADS. Nothing in Lean hashes anything: it is a label: what it is worth is what the hold of that sum in a sandbox is worth. -/
noncomputable def Try.pinned : Pinned := { name := "ytalbgijagdmdcaa", sum := "27fb948d8717c929baa67c389bf7bc48ba3c2a04d4098ba03fb7e71e8cb091ef", checked := Try.checked }
namespace Rows
def none {H : Type} : Left H := { results := [], args := [] }

/-- 'modscanlaw29.JournalFrame': WHATEVER THE INPUT: true; the input reads as it did. -/
def journalFrameSpec : ChangeSpec := { name := "journalFrame", fn := fun _ => fun
  | [d1, d2] => { results := [.lit (.bool true)], args := [d1, d2] }
  | _ => none }
def journalFrameRow : OpenClaim := { program := "ytalbgijagdmdcaa", sum := "27fb948d8717c929baa67c389bf7bc48ba3c2a04d4098ba03fb7e71e8cb091ef", func := "modscan/modscanlaw29.JournalFrame", spec := "journalFrame", apart := false }
def JournalFrameSaid : Prop := journalFrameRow.holds Try.pinned (OpenSpec.ofChange journalFrameSpec)

/-- ITS FALSE NEIGHBOUR: 'it returns false'. Refute it at one input. -/
def journalFrameWrong : ChangeSpec := { name := "journalFrame", fn := fun _ => fun
  | [d1, d2] => { results := [.lit (.bool false)], args := [d1, d2] }
  | _ => none }
def JournalFrameWrongFalsely : Prop := journalFrameRow.holds Try.pinned (OpenSpec.ofChange journalFrameWrong)

/-- 'modscanlaw29.JournalScan': WHATEVER THE INPUT: true; the input reads as it did. -/
def journalScanSpec : ChangeSpec := { name := "journalScan", fn := fun _ => fun
  | [d1, d2, d3, d4, d5] => { results := [.lit (.bool true)], args := [d1, d2, d3, d4, d5] }
  | _ => none }
def journalScanRow : OpenClaim := { program := "ytalbgijagdmdcaa", sum := "27fb948d8717c929baa67c389bf7bc48ba3c2a04d4098ba03fb7e71e8cb091ef", func := "modscan/modscanlaw29.JournalScan", spec := "journalScan", apart := false }
def JournalScanSaid : Prop := journalScanRow.holds Try.pinned (OpenSpec.ofChange journalScanSpec)

/-- ITS FALSE NEIGHBOUR: 'it returns false'. Refute it at one input. -/
def journalScanWrong : ChangeSpec := { name := "journalScan", fn := fun _ => fun
  | [d1, d2, d3, d4, d5] => { results := [.lit (.bool false)], args := [d1, d2, d3, d4, d5] }
  | _ => none }
def JournalScanWrongFalsely : Prop := journalScanRow.holds Try.pinned (OpenSpec.ofChange journalScanWrong)

/-- 'modscanlaw29.JournalTorn': WHATEVER THE INPUT: true; the input reads as it did. -/
def journalTornSpec : ChangeSpec := { name := "journalTorn", fn := fun _ => fun
  | [d1, d2, d3] => { results := [.lit (.bool true)], args := [d1, d2, d3] }
  | _ => none }
def journalTornRow : OpenClaim := { program := "ytalbgijagdmdcaa", sum := "27fb948d8717c929baa67c389bf7bc48ba3c2a04d4098ba03fb7e71e8cb091ef", func := "modscan/modscanlaw29.JournalTorn", spec := "journalTorn", apart := false }
def JournalTornSaid : Prop := journalTornRow.holds Try.pinned (OpenSpec.ofChange journalTornSpec)

/-- ITS FALSE NEIGHBOUR: 'it returns false'. Refute it at one input. -/
def journalTornWrong : ChangeSpec := { name := "journalTorn", fn := fun _ => fun
  | [d1, d2, d3] => { results := [.lit (.bool false)], args := [d1, d2, d3] }
  | _ => none }
def JournalTornWrongFalsely : Prop := journalTornRow.holds Try.pinned (OpenSpec.ofChange journalTornWrong)

/-- 'modscanlaw31.ProfileValid': WHATEVER THE INPUT: true; the input reads as it did. -/
def profileValidSpec : ChangeSpec := { name := "profileValid", fn := fun _ => fun
  | [d] => { results := [.lit (.bool true)], args := [d] }
  | _ => none }
def profileValidRow : OpenClaim := { program := "ytalbgijagdmdcaa", sum := "27fb948d8717c929baa67c389bf7bc48ba3c2a04d4098ba03fb7e71e8cb091ef", func := "modscan/modscanlaw31.ProfileValid", spec := "profileValid", apart := false }
def ProfileValidSaid : Prop := profileValidRow.holds Try.pinned (OpenSpec.ofChange profileValidSpec)

/-- ITS FALSE NEIGHBOUR: 'it returns false'. Refute it at one input. -/
def profileValidWrong : ChangeSpec := { name := "profileValid", fn := fun _ => fun
  | [d] => { results := [.lit (.bool false)], args := [d] }
  | _ => none }
def ProfileValidWrongFalsely : Prop := profileValidRow.holds Try.pinned (OpenSpec.ofChange profileValidWrong)

/-- 'modscanlaw31.ProfileSlave': WHATEVER THE INPUT: true; the input reads as it did. -/
def profileSlaveSpec : ChangeSpec := { name := "profileSlave", fn := fun _ => fun
  | [d1, d2, d3] => { results := [.lit (.bool true)], args := [d1, d2, d3] }
  | _ => none }
def profileSlaveRow : OpenClaim := { program := "ytalbgijagdmdcaa", sum := "27fb948d8717c929baa67c389bf7bc48ba3c2a04d4098ba03fb7e71e8cb091ef", func := "modscan/modscanlaw31.ProfileSlave", spec := "profileSlave", apart := false }
def ProfileSlaveSaid : Prop := profileSlaveRow.holds Try.pinned (OpenSpec.ofChange profileSlaveSpec)

/-- ITS FALSE NEIGHBOUR: 'it returns false'. Refute it at one input. -/
def profileSlaveWrong : ChangeSpec := { name := "profileSlave", fn := fun _ => fun
  | [d1, d2, d3] => { results := [.lit (.bool false)], args := [d1, d2, d3] }
  | _ => none }
def ProfileSlaveWrongFalsely : Prop := profileSlaveRow.holds Try.pinned (OpenSpec.ofChange profileSlaveWrong)

/-- 'modscanlaw31.ProfileChoose': WHATEVER THE INPUT: true; the input reads as it did. -/
def profileChooseSpec : ChangeSpec := { name := "profileChoose", fn := fun _ => fun
  | [d1, d2, d3] => { results := [.lit (.bool true)], args := [d1, d2, d3] }
  | _ => none }
def profileChooseRow : OpenClaim := { program := "ytalbgijagdmdcaa", sum := "27fb948d8717c929baa67c389bf7bc48ba3c2a04d4098ba03fb7e71e8cb091ef", func := "modscan/modscanlaw31.ProfileChoose", spec := "profileChoose", apart := false }
def ProfileChooseSaid : Prop := profileChooseRow.holds Try.pinned (OpenSpec.ofChange profileChooseSpec)

/-- ITS FALSE NEIGHBOUR: 'it returns false'. Refute it at one input. -/
def profileChooseWrong : ChangeSpec := { name := "profileChoose", fn := fun _ => fun
  | [d1, d2, d3] => { results := [.lit (.bool false)], args := [d1, d2, d3] }
  | _ => none }
def ProfileChooseWrongFalsely : Prop := profileChooseRow.holds Try.pinned (OpenSpec.ofChange profileChooseWrong)

/-- 'modscanlaw11.ReplyValid': WHATEVER THE INPUT: true; the input reads as it did. -/
def replyValidSpec : ChangeSpec := { name := "replyValid", fn := fun _ => fun
  | [d] => { results := [.lit (.bool true)], args := [d] }
  | _ => none }
def replyValidRow : OpenClaim := { program := "ytalbgijagdmdcaa", sum := "27fb948d8717c929baa67c389bf7bc48ba3c2a04d4098ba03fb7e71e8cb091ef", func := "modscan/modscanlaw11.ReplyValid", spec := "replyValid", unfollowed := true, recurses := true, apart := false }
def ReplyValidSaid : Prop := replyValidRow.holds Try.pinned (OpenSpec.ofChange replyValidSpec)

/-- ITS FALSE NEIGHBOUR: 'it returns false'. Refute it at one input. -/
def replyValidWrong : ChangeSpec := { name := "replyValid", fn := fun _ => fun
  | [d] => { results := [.lit (.bool false)], args := [d] }
  | _ => none }
def ReplyValidWrongFalsely : Prop := replyValidRow.holds Try.pinned (OpenSpec.ofChange replyValidWrong)

/-- 'modscanlaw11.ReplyEncode': WHATEVER THE INPUT: true; the input reads as it did. -/
def replyEncodeSpec : ChangeSpec := { name := "replyEncode", fn := fun _ => fun
  | [d] => { results := [.lit (.bool true)], args := [d] }
  | _ => none }
def replyEncodeRow : OpenClaim := { program := "ytalbgijagdmdcaa", sum := "27fb948d8717c929baa67c389bf7bc48ba3c2a04d4098ba03fb7e71e8cb091ef", func := "modscan/modscanlaw11.ReplyEncode", spec := "replyEncode", unfollowed := true, recurses := true, apart := false }
def ReplyEncodeSaid : Prop := replyEncodeRow.holds Try.pinned (OpenSpec.ofChange replyEncodeSpec)

/-- ITS FALSE NEIGHBOUR: 'it returns false'. Refute it at one input. -/
def replyEncodeWrong : ChangeSpec := { name := "replyEncode", fn := fun _ => fun
  | [d] => { results := [.lit (.bool false)], args := [d] }
  | _ => none }
def ReplyEncodeWrongFalsely : Prop := replyEncodeRow.holds Try.pinned (OpenSpec.ofChange replyEncodeWrong)

/-- 'modscanlaw11.ReplyDecode': WHATEVER THE INPUT: true; the input reads as it did. -/
def replyDecodeSpec : ChangeSpec := { name := "replyDecode", fn := fun _ => fun
  | [d] => { results := [.lit (.bool true)], args := [d] }
  | _ => none }
def replyDecodeRow : OpenClaim := { program := "ytalbgijagdmdcaa", sum := "27fb948d8717c929baa67c389bf7bc48ba3c2a04d4098ba03fb7e71e8cb091ef", func := "modscan/modscanlaw11.ReplyDecode", spec := "replyDecode", unfollowed := true, recurses := true, apart := false }
def ReplyDecodeSaid : Prop := replyDecodeRow.holds Try.pinned (OpenSpec.ofChange replyDecodeSpec)

/-- ITS FALSE NEIGHBOUR: 'it returns false'. Refute it at one input. -/
def replyDecodeWrong : ChangeSpec := { name := "replyDecode", fn := fun _ => fun
  | [d] => { results := [.lit (.bool false)], args := [d] }
  | _ => none }
def ReplyDecodeWrongFalsely : Prop := replyDecodeRow.holds Try.pinned (OpenSpec.ofChange replyDecodeWrong)

/-- 'modscanlaw11.ReplyMatch': WHATEVER THE INPUT: true; the input reads as it did. -/
def replyMatchSpec : ChangeSpec := { name := "replyMatch", fn := fun _ => fun
  | [d1, d2, d3, d4, d5, d6] => { results := [.lit (.bool true)], args := [d1, d2, d3, d4, d5, d6] }
  | _ => none }
def replyMatchRow : OpenClaim := { program := "ytalbgijagdmdcaa", sum := "27fb948d8717c929baa67c389bf7bc48ba3c2a04d4098ba03fb7e71e8cb091ef", func := "modscan/modscanlaw11.ReplyMatch", spec := "replyMatch", unfollowed := true, recurses := true, apart := false }
def ReplyMatchSaid : Prop := replyMatchRow.holds Try.pinned (OpenSpec.ofChange replyMatchSpec)

/-- ITS FALSE NEIGHBOUR: 'it returns false'. Refute it at one input. -/
def replyMatchWrong : ChangeSpec := { name := "replyMatch", fn := fun _ => fun
  | [d1, d2, d3, d4, d5, d6] => { results := [.lit (.bool false)], args := [d1, d2, d3, d4, d5, d6] }
  | _ => none }
def ReplyMatchWrongFalsely : Prop := replyMatchRow.holds Try.pinned (OpenSpec.ofChange replyMatchWrong)

/-- 'modscanlaw11.ReplyRead': WHATEVER THE INPUT: true; the input reads as it did. -/
def replyReadSpec : ChangeSpec := { name := "replyRead", fn := fun _ => fun
  | [d1, d2, d3, d4, d5, d6] => { results := [.lit (.bool true)], args := [d1, d2, d3, d4, d5, d6] }
  | _ => none }
def replyReadRow : OpenClaim := { program := "ytalbgijagdmdcaa", sum := "27fb948d8717c929baa67c389bf7bc48ba3c2a04d4098ba03fb7e71e8cb091ef", func := "modscan/modscanlaw11.ReplyRead", spec := "replyRead", unfollowed := true, recurses := true, apart := false }
def ReplyReadSaid : Prop := replyReadRow.holds Try.pinned (OpenSpec.ofChange replyReadSpec)

/-- ITS FALSE NEIGHBOUR: 'it returns false'. Refute it at one input. -/
def replyReadWrong : ChangeSpec := { name := "replyRead", fn := fun _ => fun
  | [d1, d2, d3, d4, d5, d6] => { results := [.lit (.bool false)], args := [d1, d2, d3, d4, d5, d6] }
  | _ => none }
def ReplyReadWrongFalsely : Prop := replyReadRow.holds Try.pinned (OpenSpec.ofChange replyReadWrong)

/-- 'modscanlaw11.ReplyPrefix': WHATEVER THE INPUT: true; the input reads as it did. -/
def replyPrefixSpec : ChangeSpec := { name := "replyPrefix", fn := fun _ => fun
  | [d1, d2, d3] => { results := [.lit (.bool true)], args := [d1, d2, d3] }
  | _ => none }
def replyPrefixRow : OpenClaim := { program := "ytalbgijagdmdcaa", sum := "27fb948d8717c929baa67c389bf7bc48ba3c2a04d4098ba03fb7e71e8cb091ef", func := "modscan/modscanlaw11.ReplyPrefix", spec := "replyPrefix", unfollowed := true, recurses := true, apart := false }
def ReplyPrefixSaid : Prop := replyPrefixRow.holds Try.pinned (OpenSpec.ofChange replyPrefixSpec)

/-- ITS FALSE NEIGHBOUR: 'it returns false'. Refute it at one input. -/
def replyPrefixWrong : ChangeSpec := { name := "replyPrefix", fn := fun _ => fun
  | [d1, d2, d3] => { results := [.lit (.bool false)], args := [d1, d2, d3] }
  | _ => none }
def ReplyPrefixWrongFalsely : Prop := replyPrefixRow.holds Try.pinned (OpenSpec.ofChange replyPrefixWrong)

/-- 'modscanlaw11.ReplyOther': WHATEVER THE INPUT: true; the input reads as it did. -/
def replyOtherSpec : ChangeSpec := { name := "replyOther", fn := fun _ => fun
  | [d1, d2, d3, d4, d5] => { results := [.lit (.bool true)], args := [d1, d2, d3, d4, d5] }
  | _ => none }
def replyOtherRow : OpenClaim := { program := "ytalbgijagdmdcaa", sum := "27fb948d8717c929baa67c389bf7bc48ba3c2a04d4098ba03fb7e71e8cb091ef", func := "modscan/modscanlaw11.ReplyOther", spec := "replyOther", unfollowed := true, recurses := true, apart := false }
def ReplyOtherSaid : Prop := replyOtherRow.holds Try.pinned (OpenSpec.ofChange replyOtherSpec)

/-- ITS FALSE NEIGHBOUR: 'it returns false'. Refute it at one input. -/
def replyOtherWrong : ChangeSpec := { name := "replyOther", fn := fun _ => fun
  | [d1, d2, d3, d4, d5] => { results := [.lit (.bool false)], args := [d1, d2, d3, d4, d5] }
  | _ => none }
def ReplyOtherWrongFalsely : Prop := replyOtherRow.holds Try.pinned (OpenSpec.ofChange replyOtherWrong)

/-- 'modscanlaw13.SlaveValid': WHATEVER THE INPUT: true; the input reads as it did. -/
def slaveValidSpec : ChangeSpec := { name := "slaveValid", fn := fun _ => fun
  | [d] => { results := [.lit (.bool true)], args := [d] }
  | _ => none }
def slaveValidRow : OpenClaim := { program := "ytalbgijagdmdcaa", sum := "27fb948d8717c929baa67c389bf7bc48ba3c2a04d4098ba03fb7e71e8cb091ef", func := "modscan/modscanlaw13.SlaveValid", spec := "slaveValid", unfollowed := true, recurses := true, apart := false }
def SlaveValidSaid : Prop := slaveValidRow.holds Try.pinned (OpenSpec.ofChange slaveValidSpec)

/-- ITS FALSE NEIGHBOUR: 'it returns false'. Refute it at one input. -/
def slaveValidWrong : ChangeSpec := { name := "slaveValid", fn := fun _ => fun
  | [d] => { results := [.lit (.bool false)], args := [d] }
  | _ => none }
def SlaveValidWrongFalsely : Prop := slaveValidRow.holds Try.pinned (OpenSpec.ofChange slaveValidWrong)

/-- 'modscanlaw13.SlaveWord': WHATEVER THE INPUT: true; the input reads as it did. -/
def slaveWordSpec : ChangeSpec := { name := "slaveWord", fn := fun _ => fun
  | [d1, d2, d3] => { results := [.lit (.bool true)], args := [d1, d2, d3] }
  | _ => none }
def slaveWordRow : OpenClaim := { program := "ytalbgijagdmdcaa", sum := "27fb948d8717c929baa67c389bf7bc48ba3c2a04d4098ba03fb7e71e8cb091ef", func := "modscan/modscanlaw13.SlaveWord", spec := "slaveWord", unfollowed := true, recurses := true, apart := false }
def SlaveWordSaid : Prop := slaveWordRow.holds Try.pinned (OpenSpec.ofChange slaveWordSpec)

/-- ITS FALSE NEIGHBOUR: 'it returns false'. Refute it at one input. -/
def slaveWordWrong : ChangeSpec := { name := "slaveWord", fn := fun _ => fun
  | [d1, d2, d3] => { results := [.lit (.bool false)], args := [d1, d2, d3] }
  | _ => none }
def SlaveWordWrongFalsely : Prop := slaveWordRow.holds Try.pinned (OpenSpec.ofChange slaveWordWrong)

/-- 'modscanlaw13.SlaveOrder': WHATEVER THE INPUT: true; the input reads as it did. -/
def slaveOrderSpec : ChangeSpec := { name := "slaveOrder", fn := fun _ => fun
  | [d1, d2, d3, d4, d5] => { results := [.lit (.bool true)], args := [d1, d2, d3, d4, d5] }
  | _ => none }
def slaveOrderRow : OpenClaim := { program := "ytalbgijagdmdcaa", sum := "27fb948d8717c929baa67c389bf7bc48ba3c2a04d4098ba03fb7e71e8cb091ef", func := "modscan/modscanlaw13.SlaveOrder", spec := "slaveOrder", unfollowed := true, recurses := true, apart := false }
def SlaveOrderSaid : Prop := slaveOrderRow.holds Try.pinned (OpenSpec.ofChange slaveOrderSpec)

/-- ITS FALSE NEIGHBOUR: 'it returns false'. Refute it at one input. -/
def slaveOrderWrong : ChangeSpec := { name := "slaveOrder", fn := fun _ => fun
  | [d1, d2, d3, d4, d5] => { results := [.lit (.bool false)], args := [d1, d2, d3, d4, d5] }
  | _ => none }
def SlaveOrderWrongFalsely : Prop := slaveOrderRow.holds Try.pinned (OpenSpec.ofChange slaveOrderWrong)

/-- 'modscanlaw13.SlaveParts': WHATEVER THE INPUT: true; the input reads as it did. -/
def slavePartsSpec : ChangeSpec := { name := "slaveParts", fn := fun _ => fun
  | [d1, d2, d3, d4, d5] => { results := [.lit (.bool true)], args := [d1, d2, d3, d4, d5] }
  | _ => none }
def slavePartsRow : OpenClaim := { program := "ytalbgijagdmdcaa", sum := "27fb948d8717c929baa67c389bf7bc48ba3c2a04d4098ba03fb7e71e8cb091ef", func := "modscan/modscanlaw13.SlaveParts", spec := "slaveParts", unfollowed := true, recurses := true, apart := false }
def SlavePartsSaid : Prop := slavePartsRow.holds Try.pinned (OpenSpec.ofChange slavePartsSpec)

/-- ITS FALSE NEIGHBOUR: 'it returns false'. Refute it at one input. -/
def slavePartsWrong : ChangeSpec := { name := "slaveParts", fn := fun _ => fun
  | [d1, d2, d3, d4, d5] => { results := [.lit (.bool false)], args := [d1, d2, d3, d4, d5] }
  | _ => none }
def SlavePartsWrongFalsely : Prop := slavePartsRow.holds Try.pinned (OpenSpec.ofChange slavePartsWrong)

/-- 'modscanlaw13.SlaveObjects': WHATEVER THE INPUT: true; the input reads as it did. -/
def slaveObjectsSpec : ChangeSpec := { name := "slaveObjects", fn := fun _ => fun
  | [d1, d2] => { results := [.lit (.bool true)], args := [d1, d2] }
  | _ => none }
def slaveObjectsRow : OpenClaim := { program := "ytalbgijagdmdcaa", sum := "27fb948d8717c929baa67c389bf7bc48ba3c2a04d4098ba03fb7e71e8cb091ef", func := "modscan/modscanlaw13.SlaveObjects", spec := "slaveObjects", unfollowed := true, recurses := true, apart := false }
def SlaveObjectsSaid : Prop := slaveObjectsRow.holds Try.pinned (OpenSpec.ofChange slaveObjectsSpec)

/-- ITS FALSE NEIGHBOUR: 'it returns false'. Refute it at one input. -/
def slaveObjectsWrong : ChangeSpec := { name := "slaveObjects", fn := fun _ => fun
  | [d1, d2] => { results := [.lit (.bool false)], args := [d1, d2] }
  | _ => none }
def SlaveObjectsWrongFalsely : Prop := slaveObjectsRow.holds Try.pinned (OpenSpec.ofChange slaveObjectsWrong)

/-- 'modscanlaw13.SlaveAnswer': WHATEVER THE INPUT: true; the input reads as it did. -/
def slaveAnswerSpec : ChangeSpec := { name := "slaveAnswer", fn := fun _ => fun
  | [d1, d2, d3, d4, d5, d6, d7] => { results := [.lit (.bool true)], args := [d1, d2, d3, d4, d5, d6, d7] }
  | _ => none }
def slaveAnswerRow : OpenClaim := { program := "ytalbgijagdmdcaa", sum := "27fb948d8717c929baa67c389bf7bc48ba3c2a04d4098ba03fb7e71e8cb091ef", func := "modscan/modscanlaw13.SlaveAnswer", spec := "slaveAnswer", unfollowed := true, recurses := true, apart := false }
def SlaveAnswerSaid : Prop := slaveAnswerRow.holds Try.pinned (OpenSpec.ofChange slaveAnswerSpec)

/-- ITS FALSE NEIGHBOUR: 'it returns false'. Refute it at one input. -/
def slaveAnswerWrong : ChangeSpec := { name := "slaveAnswer", fn := fun _ => fun
  | [d1, d2, d3, d4, d5, d6, d7] => { results := [.lit (.bool false)], args := [d1, d2, d3, d4, d5, d6, d7] }
  | _ => none }
def SlaveAnswerWrongFalsely : Prop := slaveAnswerRow.holds Try.pinned (OpenSpec.ofChange slaveAnswerWrong)

/- THE SECOND FORM. 'bulk': how many values and letters a reading holds, each counted each time it is reached (what is shared counts as often as it is met; a slice's spare places count too). A statement '..UptoSaid' is the law's where the arguments, and the package variables that the reading takes, are together of bulk at most 1048576: NARROWER than '..Said'. Prove '..Said' where nothing that the law and all that it calls make is longer than what came in: it says more and counts as full. Else prove '..UptoSaid'. A law counts once. -/
mutual
def uptoBulk {H : Type} : DataW H → Nat
  | .lit (.string bytes) => bytes.length + 1
  | .lit _ => 1
  | .nil => 1
  | .ptr d => uptoBulk d + 1
  | .slice elems spare => uptoBulkAll elems + uptoBulkAll spare + 1
  | .agg parts => uptoBulkAll parts + 1
  | .iface _ d => uptoBulk d + 1
  | .map entries => uptoBulkEntries entries + 1
  | .held _ => 1
def uptoBulkAll {H : Type} : List (DataW H) → Nat
  | [] => 0
  | d :: r => uptoBulk d + uptoBulkAll r
def uptoBulkEntries {H : Type} : List (Lit × DataW H) → Nat
  | [] => 0
  | x :: r => uptoBulkEntry x + uptoBulkEntries r
def uptoBulkEntry {H : Type} : Lit × DataW H → Nat
  | (.string bytes, d) => bytes.length + uptoBulk d + 1
  | (_, d) => uptoBulk d + 1
 end
def uptoSmall : (H : Type) → List (DataW H) → Bool := fun _ ds => decide (uptoBulkAll ds ≤ 1048576)
def OpenSpec.upto (s : _root_.Go.ChangeSpec) : _root_.Go.OpenSpec := { _root_.Go.OpenSpec.ofChange s with cond := some uptoSmall }

/-- 'modscanlaw29.JournalFrame', WHERE WHAT IT READS IS OF BULK AT MOST 1048576: true; the input reads as it did. -/
def journalFrameUptoRow : OpenClaim := { program := "ytalbgijagdmdcaa", sum := "27fb948d8717c929baa67c389bf7bc48ba3c2a04d4098ba03fb7e71e8cb091ef", func := "modscan/modscanlaw29.JournalFrame", spec := "journalFrame", apart := false, narrowed := true }
def JournalFrameUptoSaid : Prop := journalFrameUptoRow.holds Try.pinned (OpenSpec.upto journalFrameSpec)

/-- 'modscanlaw29.JournalScan', WHERE WHAT IT READS IS OF BULK AT MOST 1048576: true; the input reads as it did. -/
def journalScanUptoRow : OpenClaim := { program := "ytalbgijagdmdcaa", sum := "27fb948d8717c929baa67c389bf7bc48ba3c2a04d4098ba03fb7e71e8cb091ef", func := "modscan/modscanlaw29.JournalScan", spec := "journalScan", apart := false, narrowed := true }
def JournalScanUptoSaid : Prop := journalScanUptoRow.holds Try.pinned (OpenSpec.upto journalScanSpec)

/-- 'modscanlaw29.JournalTorn', WHERE WHAT IT READS IS OF BULK AT MOST 1048576: true; the input reads as it did. -/
def journalTornUptoRow : OpenClaim := { program := "ytalbgijagdmdcaa", sum := "27fb948d8717c929baa67c389bf7bc48ba3c2a04d4098ba03fb7e71e8cb091ef", func := "modscan/modscanlaw29.JournalTorn", spec := "journalTorn", apart := false, narrowed := true }
def JournalTornUptoSaid : Prop := journalTornUptoRow.holds Try.pinned (OpenSpec.upto journalTornSpec)

/-- 'modscanlaw31.ProfileValid', WHERE WHAT IT READS IS OF BULK AT MOST 1048576: true; the input reads as it did. -/
def profileValidUptoRow : OpenClaim := { program := "ytalbgijagdmdcaa", sum := "27fb948d8717c929baa67c389bf7bc48ba3c2a04d4098ba03fb7e71e8cb091ef", func := "modscan/modscanlaw31.ProfileValid", spec := "profileValid", apart := false, narrowed := true }
def ProfileValidUptoSaid : Prop := profileValidUptoRow.holds Try.pinned (OpenSpec.upto profileValidSpec)

/-- 'modscanlaw31.ProfileSlave', WHERE WHAT IT READS IS OF BULK AT MOST 1048576: true; the input reads as it did. -/
def profileSlaveUptoRow : OpenClaim := { program := "ytalbgijagdmdcaa", sum := "27fb948d8717c929baa67c389bf7bc48ba3c2a04d4098ba03fb7e71e8cb091ef", func := "modscan/modscanlaw31.ProfileSlave", spec := "profileSlave", apart := false, narrowed := true }
def ProfileSlaveUptoSaid : Prop := profileSlaveUptoRow.holds Try.pinned (OpenSpec.upto profileSlaveSpec)

/-- 'modscanlaw31.ProfileChoose', WHERE WHAT IT READS IS OF BULK AT MOST 1048576: true; the input reads as it did. -/
def profileChooseUptoRow : OpenClaim := { program := "ytalbgijagdmdcaa", sum := "27fb948d8717c929baa67c389bf7bc48ba3c2a04d4098ba03fb7e71e8cb091ef", func := "modscan/modscanlaw31.ProfileChoose", spec := "profileChoose", apart := false, narrowed := true }
def ProfileChooseUptoSaid : Prop := profileChooseUptoRow.holds Try.pinned (OpenSpec.upto profileChooseSpec)

/-- 'modscanlaw11.ReplyValid', WHERE WHAT IT READS IS OF BULK AT MOST 1048576: true; the input reads as it did. -/
def replyValidUptoRow : OpenClaim := { program := "ytalbgijagdmdcaa", sum := "27fb948d8717c929baa67c389bf7bc48ba3c2a04d4098ba03fb7e71e8cb091ef", func := "modscan/modscanlaw11.ReplyValid", spec := "replyValid", unfollowed := true, recurses := true, apart := false, narrowed := true }
def ReplyValidUptoSaid : Prop := replyValidUptoRow.holds Try.pinned (OpenSpec.upto replyValidSpec)

/-- 'modscanlaw11.ReplyEncode', WHERE WHAT IT READS IS OF BULK AT MOST 1048576: true; the input reads as it did. -/
def replyEncodeUptoRow : OpenClaim := { program := "ytalbgijagdmdcaa", sum := "27fb948d8717c929baa67c389bf7bc48ba3c2a04d4098ba03fb7e71e8cb091ef", func := "modscan/modscanlaw11.ReplyEncode", spec := "replyEncode", unfollowed := true, recurses := true, apart := false, narrowed := true }
def ReplyEncodeUptoSaid : Prop := replyEncodeUptoRow.holds Try.pinned (OpenSpec.upto replyEncodeSpec)

/-- 'modscanlaw11.ReplyDecode', WHERE WHAT IT READS IS OF BULK AT MOST 1048576: true; the input reads as it did. -/
def replyDecodeUptoRow : OpenClaim := { program := "ytalbgijagdmdcaa", sum := "27fb948d8717c929baa67c389bf7bc48ba3c2a04d4098ba03fb7e71e8cb091ef", func := "modscan/modscanlaw11.ReplyDecode", spec := "replyDecode", unfollowed := true, recurses := true, apart := false, narrowed := true }
def ReplyDecodeUptoSaid : Prop := replyDecodeUptoRow.holds Try.pinned (OpenSpec.upto replyDecodeSpec)

/-- 'modscanlaw11.ReplyMatch', WHERE WHAT IT READS IS OF BULK AT MOST 1048576: true; the input reads as it did. -/
def replyMatchUptoRow : OpenClaim := { program := "ytalbgijagdmdcaa", sum := "27fb948d8717c929baa67c389bf7bc48ba3c2a04d4098ba03fb7e71e8cb091ef", func := "modscan/modscanlaw11.ReplyMatch", spec := "replyMatch", unfollowed := true, recurses := true, apart := false, narrowed := true }
def ReplyMatchUptoSaid : Prop := replyMatchUptoRow.holds Try.pinned (OpenSpec.upto replyMatchSpec)

/-- 'modscanlaw11.ReplyRead', WHERE WHAT IT READS IS OF BULK AT MOST 1048576: true; the input reads as it did. -/
def replyReadUptoRow : OpenClaim := { program := "ytalbgijagdmdcaa", sum := "27fb948d8717c929baa67c389bf7bc48ba3c2a04d4098ba03fb7e71e8cb091ef", func := "modscan/modscanlaw11.ReplyRead", spec := "replyRead", unfollowed := true, recurses := true, apart := false, narrowed := true }
def ReplyReadUptoSaid : Prop := replyReadUptoRow.holds Try.pinned (OpenSpec.upto replyReadSpec)

/-- 'modscanlaw11.ReplyPrefix', WHERE WHAT IT READS IS OF BULK AT MOST 1048576: true; the input reads as it did. -/
def replyPrefixUptoRow : OpenClaim := { program := "ytalbgijagdmdcaa", sum := "27fb948d8717c929baa67c389bf7bc48ba3c2a04d4098ba03fb7e71e8cb091ef", func := "modscan/modscanlaw11.ReplyPrefix", spec := "replyPrefix", unfollowed := true, recurses := true, apart := false, narrowed := true }
def ReplyPrefixUptoSaid : Prop := replyPrefixUptoRow.holds Try.pinned (OpenSpec.upto replyPrefixSpec)

/-- 'modscanlaw11.ReplyOther', WHERE WHAT IT READS IS OF BULK AT MOST 1048576: true; the input reads as it did. -/
def replyOtherUptoRow : OpenClaim := { program := "ytalbgijagdmdcaa", sum := "27fb948d8717c929baa67c389bf7bc48ba3c2a04d4098ba03fb7e71e8cb091ef", func := "modscan/modscanlaw11.ReplyOther", spec := "replyOther", unfollowed := true, recurses := true, apart := false, narrowed := true }
def ReplyOtherUptoSaid : Prop := replyOtherUptoRow.holds Try.pinned (OpenSpec.upto replyOtherSpec)

/-- 'modscanlaw13.SlaveValid', WHERE WHAT IT READS IS OF BULK AT MOST 1048576: true; the input reads as it did. -/
def slaveValidUptoRow : OpenClaim := { program := "ytalbgijagdmdcaa", sum := "27fb948d8717c929baa67c389bf7bc48ba3c2a04d4098ba03fb7e71e8cb091ef", func := "modscan/modscanlaw13.SlaveValid", spec := "slaveValid", unfollowed := true, recurses := true, apart := false, narrowed := true }
def SlaveValidUptoSaid : Prop := slaveValidUptoRow.holds Try.pinned (OpenSpec.upto slaveValidSpec)

/-- 'modscanlaw13.SlaveWord', WHERE WHAT IT READS IS OF BULK AT MOST 1048576: true; the input reads as it did. -/
def slaveWordUptoRow : OpenClaim := { program := "ytalbgijagdmdcaa", sum := "27fb948d8717c929baa67c389bf7bc48ba3c2a04d4098ba03fb7e71e8cb091ef", func := "modscan/modscanlaw13.SlaveWord", spec := "slaveWord", unfollowed := true, recurses := true, apart := false, narrowed := true }
def SlaveWordUptoSaid : Prop := slaveWordUptoRow.holds Try.pinned (OpenSpec.upto slaveWordSpec)

/-- 'modscanlaw13.SlaveOrder', WHERE WHAT IT READS IS OF BULK AT MOST 1048576: true; the input reads as it did. -/
def slaveOrderUptoRow : OpenClaim := { program := "ytalbgijagdmdcaa", sum := "27fb948d8717c929baa67c389bf7bc48ba3c2a04d4098ba03fb7e71e8cb091ef", func := "modscan/modscanlaw13.SlaveOrder", spec := "slaveOrder", unfollowed := true, recurses := true, apart := false, narrowed := true }
def SlaveOrderUptoSaid : Prop := slaveOrderUptoRow.holds Try.pinned (OpenSpec.upto slaveOrderSpec)

/-- 'modscanlaw13.SlaveParts', WHERE WHAT IT READS IS OF BULK AT MOST 1048576: true; the input reads as it did. -/
def slavePartsUptoRow : OpenClaim := { program := "ytalbgijagdmdcaa", sum := "27fb948d8717c929baa67c389bf7bc48ba3c2a04d4098ba03fb7e71e8cb091ef", func := "modscan/modscanlaw13.SlaveParts", spec := "slaveParts", unfollowed := true, recurses := true, apart := false, narrowed := true }
def SlavePartsUptoSaid : Prop := slavePartsUptoRow.holds Try.pinned (OpenSpec.upto slavePartsSpec)

/-- 'modscanlaw13.SlaveObjects', WHERE WHAT IT READS IS OF BULK AT MOST 1048576: true; the input reads as it did. -/
def slaveObjectsUptoRow : OpenClaim := { program := "ytalbgijagdmdcaa", sum := "27fb948d8717c929baa67c389bf7bc48ba3c2a04d4098ba03fb7e71e8cb091ef", func := "modscan/modscanlaw13.SlaveObjects", spec := "slaveObjects", unfollowed := true, recurses := true, apart := false, narrowed := true }
def SlaveObjectsUptoSaid : Prop := slaveObjectsUptoRow.holds Try.pinned (OpenSpec.upto slaveObjectsSpec)

/-- 'modscanlaw13.SlaveAnswer', WHERE WHAT IT READS IS OF BULK AT MOST 1048576: true; the input reads as it did. -/
def slaveAnswerUptoRow : OpenClaim := { program := "ytalbgijagdmdcaa", sum := "27fb948d8717c929baa67c389bf7bc48ba3c2a04d4098ba03fb7e71e8cb091ef", func := "modscan/modscanlaw13.SlaveAnswer", spec := "slaveAnswer", unfollowed := true, recurses := true, apart := false, narrowed := true }
def SlaveAnswerUptoSaid : Prop := slaveAnswerUptoRow.holds Try.pinned (OpenSpec.upto slaveAnswerSpec)

end Rows
end Go.Proofs.Ytalbgijagdmdcaa

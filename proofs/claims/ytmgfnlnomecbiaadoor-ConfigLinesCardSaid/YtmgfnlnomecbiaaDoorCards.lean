/-
  DERIVED. GIVEN WITH THE SEED: THE CARDS: each row of YtmgfnlnomecbiaaDoorRows.lean that lists a variable, with what it lists TIED to the program's text (the seventh form; the later family's looks); each row that meets fmt, with fmt's text TOLD by the authors' own Lean function (tested against real Go, not proved from fmt's source: count such statements apart). THE CARD IS WHAT COUNTS. Prove the row's statement (the work); the ties are given (YtmgfnlnomecbiaaDoorTie.lean); close each card by the builder's one call (the guide's Derived/Test/ToyasCard.lean, 'card_holds'). Laid BY PROGRAM, IN A SANDBOX (cutbox-door.mjs). By AI agents, Wed Nov 11 2026. No macro, syntax, notation, axiom, sorry.
-/
import Derived.Test.YtmgfnlnomecbiaaDoorRows
import GoSem.ClaimSeven
namespace Go.Proofs.YtmgfnlnomecbiaaDoor
namespace Rows

/-- THE TIED CARD OF 'modscanlaw15.ScriptFair'. -/
def scriptFairCard : Claim7 := { stood := { row := scriptFairRow, standIns := [], harness := (true, "8eb8e33668e453df0d255b6341c1e3d7ef2c80838209d9eee4a77a65136d31dd"), looks := false }, kinds := [], alts := [], laidByText := true, laidKinds := [.data, .data, .data], laidTests := true, laidLooks := .later }
def ScriptFairCardSaid : Prop := Claim7.holds Tryd.pinned (.plain (OpenSpec.ofChange scriptFairSpec)) scriptFairCard

/-- THE TIED CARD OF 'modscanlaw15.ScriptParse'. -/
def scriptParseCard : Claim7 := { stood := { row := scriptParseRow, standIns := [], harness := (true, "8eb8e33668e453df0d255b6341c1e3d7ef2c80838209d9eee4a77a65136d31dd"), looks := false }, kinds := [], alts := [], laidByText := true, laidKinds := [.data, .data, .data], laidTests := true, laidLooks := .later }
def ScriptParseCardSaid : Prop := Claim7.holds Tryd.pinned (.plain (OpenSpec.ofChange scriptParseSpec)) scriptParseCard

/-- THE TIED CARD OF 'modscanlaw15.ScriptRefuses'. -/
def scriptRefusesCard : Claim7 := { stood := { row := scriptRefusesRow, standIns := [], harness := (true, "8eb8e33668e453df0d255b6341c1e3d7ef2c80838209d9eee4a77a65136d31dd"), looks := false }, kinds := [], alts := [], laidByText := true, laidKinds := [.data, .data, .data], laidTests := true, laidLooks := .later }
def ScriptRefusesCardSaid : Prop := Claim7.holds Tryd.pinned (.plain (OpenSpec.ofChange scriptRefusesSpec)) scriptRefusesCard

/-- THE TIED CARD OF 'modscanlaw15.ScriptBounded'. -/
def scriptBoundedCard : Claim7 := { stood := { row := scriptBoundedRow, standIns := [], harness := (true, "8eb8e33668e453df0d255b6341c1e3d7ef2c80838209d9eee4a77a65136d31dd"), looks := false }, kinds := [], alts := [], laidByText := true, laidKinds := [.data, .data, .data], laidTests := true, laidLooks := .later }
def ScriptBoundedCardSaid : Prop := Claim7.holds Tryd.pinned (.plain (OpenSpec.ofChange scriptBoundedSpec)) scriptBoundedCard

/-- THE TIED CARD OF 'modscanlaw15.ScriptValid'. -/
def scriptValidCard : Claim7 := { stood := { row := scriptValidRow, standIns := [], harness := (true, "8eb8e33668e453df0d255b6341c1e3d7ef2c80838209d9eee4a77a65136d31dd"), looks := false }, kinds := [], alts := [], laidByText := true, laidKinds := [.data, .data, .data], laidTests := true, laidLooks := .later }
def ScriptValidCardSaid : Prop := Claim7.holds Tryd.pinned (.plain (OpenSpec.ofChange scriptValidSpec)) scriptValidCard

/-- THE TIED CARD OF 'modscanlaw15.ScriptRound'. -/
def scriptRoundCard : Claim7 := { stood := { row := scriptRoundRow, standIns := [], harness := (true, "8eb8e33668e453df0d255b6341c1e3d7ef2c80838209d9eee4a77a65136d31dd"), looks := false }, kinds := [], alts := [], laidByText := true, laidKinds := [.data, .data, .data], laidTests := true, laidLooks := .later }
def ScriptRoundCardSaid : Prop := Claim7.holds Tryd.pinned (.plain (OpenSpec.ofChange scriptRoundSpec)) scriptRoundCard

/-- THE TIED CARD OF 'modscanlaw17.ConfigCheck'. -/
def configCheckCard : Claim7 := { stood := { row := configCheckRow, standIns := [], harness := (true, "8eb8e33668e453df0d255b6341c1e3d7ef2c80838209d9eee4a77a65136d31dd"), looks := false }, kinds := [], alts := [], laidByText := true, laidKinds := [.data, .data, .data], laidTests := true, laidLooks := .later }
def ConfigCheckCardSaid : Prop := Claim7.holds Tryd.pinned (.plain (OpenSpec.ofChange configCheckSpec)) configCheckCard

/-- THE TIED CARD OF 'modscanlaw17.ConfigRound'. -/
def configRoundCard : Claim7 := { stood := { row := configRoundRow, standIns := [], harness := (true, "8eb8e33668e453df0d255b6341c1e3d7ef2c80838209d9eee4a77a65136d31dd"), looks := false }, kinds := [], alts := [], laidByText := true, laidKinds := [.data, .data, .data], laidTests := true, laidLooks := .later }
def ConfigRoundCardSaid : Prop := Claim7.holds Tryd.pinned (.plain (OpenSpec.ofChange configRoundSpec)) configRoundCard

/-- THE TIED CARD OF 'modscanlaw17.ConfigParse'. -/
def configParseCard : Claim7 := { stood := { row := configParseRow, standIns := [], harness := (true, "8eb8e33668e453df0d255b6341c1e3d7ef2c80838209d9eee4a77a65136d31dd"), looks := false }, kinds := [], alts := [], laidByText := true, laidKinds := [.data, .data, .data], laidTests := true, laidLooks := .later }
def ConfigParseCardSaid : Prop := Claim7.holds Tryd.pinned (.plain (OpenSpec.ofChange configParseSpec)) configParseCard

/-- THE TIED CARD OF 'modscanlaw17.ConfigLines'. -/
def configLinesCard : Claim7 := { stood := { row := configLinesRow, standIns := [], harness := (true, "8eb8e33668e453df0d255b6341c1e3d7ef2c80838209d9eee4a77a65136d31dd"), looks := false }, kinds := [], alts := [], laidByText := true, laidKinds := [.data, .data, .data], laidTests := true, laidLooks := .later }
def ConfigLinesCardSaid : Prop := Claim7.holds Tryd.pinned (.plain (OpenSpec.ofChange configLinesSpec)) configLinesCard

/-- THE SECOND FORM's CARD OF 'modscanlaw15.ScriptFair'. -/
def scriptFairUptoCard : Claim7 := { stood := { row := scriptFairUptoRow, standIns := [], harness := (true, "8eb8e33668e453df0d255b6341c1e3d7ef2c80838209d9eee4a77a65136d31dd"), looks := false }, kinds := [], alts := [], laidByText := true, laidKinds := [.data, .data, .data], laidTests := true, laidLooks := .later }
def ScriptFairUptoCardSaid : Prop := Claim7.holds Tryd.pinned (.plain (OpenSpec.upto scriptFairSpec)) scriptFairUptoCard

/-- THE SECOND FORM's CARD OF 'modscanlaw15.ScriptParse'. -/
def scriptParseUptoCard : Claim7 := { stood := { row := scriptParseUptoRow, standIns := [], harness := (true, "8eb8e33668e453df0d255b6341c1e3d7ef2c80838209d9eee4a77a65136d31dd"), looks := false }, kinds := [], alts := [], laidByText := true, laidKinds := [.data, .data, .data], laidTests := true, laidLooks := .later }
def ScriptParseUptoCardSaid : Prop := Claim7.holds Tryd.pinned (.plain (OpenSpec.upto scriptParseSpec)) scriptParseUptoCard

/-- THE SECOND FORM's CARD OF 'modscanlaw15.ScriptRefuses'. -/
def scriptRefusesUptoCard : Claim7 := { stood := { row := scriptRefusesUptoRow, standIns := [], harness := (true, "8eb8e33668e453df0d255b6341c1e3d7ef2c80838209d9eee4a77a65136d31dd"), looks := false }, kinds := [], alts := [], laidByText := true, laidKinds := [.data, .data, .data], laidTests := true, laidLooks := .later }
def ScriptRefusesUptoCardSaid : Prop := Claim7.holds Tryd.pinned (.plain (OpenSpec.upto scriptRefusesSpec)) scriptRefusesUptoCard

/-- THE SECOND FORM's CARD OF 'modscanlaw15.ScriptBounded'. -/
def scriptBoundedUptoCard : Claim7 := { stood := { row := scriptBoundedUptoRow, standIns := [], harness := (true, "8eb8e33668e453df0d255b6341c1e3d7ef2c80838209d9eee4a77a65136d31dd"), looks := false }, kinds := [], alts := [], laidByText := true, laidKinds := [.data, .data, .data], laidTests := true, laidLooks := .later }
def ScriptBoundedUptoCardSaid : Prop := Claim7.holds Tryd.pinned (.plain (OpenSpec.upto scriptBoundedSpec)) scriptBoundedUptoCard

/-- THE SECOND FORM's CARD OF 'modscanlaw15.ScriptValid'. -/
def scriptValidUptoCard : Claim7 := { stood := { row := scriptValidUptoRow, standIns := [], harness := (true, "8eb8e33668e453df0d255b6341c1e3d7ef2c80838209d9eee4a77a65136d31dd"), looks := false }, kinds := [], alts := [], laidByText := true, laidKinds := [.data, .data, .data], laidTests := true, laidLooks := .later }
def ScriptValidUptoCardSaid : Prop := Claim7.holds Tryd.pinned (.plain (OpenSpec.upto scriptValidSpec)) scriptValidUptoCard

/-- THE SECOND FORM's CARD OF 'modscanlaw15.ScriptRound'. -/
def scriptRoundUptoCard : Claim7 := { stood := { row := scriptRoundUptoRow, standIns := [], harness := (true, "8eb8e33668e453df0d255b6341c1e3d7ef2c80838209d9eee4a77a65136d31dd"), looks := false }, kinds := [], alts := [], laidByText := true, laidKinds := [.data, .data, .data], laidTests := true, laidLooks := .later }
def ScriptRoundUptoCardSaid : Prop := Claim7.holds Tryd.pinned (.plain (OpenSpec.upto scriptRoundSpec)) scriptRoundUptoCard

/-- THE SECOND FORM's CARD OF 'modscanlaw17.ConfigCheck'. -/
def configCheckUptoCard : Claim7 := { stood := { row := configCheckUptoRow, standIns := [], harness := (true, "8eb8e33668e453df0d255b6341c1e3d7ef2c80838209d9eee4a77a65136d31dd"), looks := false }, kinds := [], alts := [], laidByText := true, laidKinds := [.data, .data, .data], laidTests := true, laidLooks := .later }
def ConfigCheckUptoCardSaid : Prop := Claim7.holds Tryd.pinned (.plain (OpenSpec.upto configCheckSpec)) configCheckUptoCard

/-- THE SECOND FORM's CARD OF 'modscanlaw17.ConfigRound'. -/
def configRoundUptoCard : Claim7 := { stood := { row := configRoundUptoRow, standIns := [], harness := (true, "8eb8e33668e453df0d255b6341c1e3d7ef2c80838209d9eee4a77a65136d31dd"), looks := false }, kinds := [], alts := [], laidByText := true, laidKinds := [.data, .data, .data], laidTests := true, laidLooks := .later }
def ConfigRoundUptoCardSaid : Prop := Claim7.holds Tryd.pinned (.plain (OpenSpec.upto configRoundSpec)) configRoundUptoCard

/-- THE SECOND FORM's CARD OF 'modscanlaw17.ConfigParse'. -/
def configParseUptoCard : Claim7 := { stood := { row := configParseUptoRow, standIns := [], harness := (true, "8eb8e33668e453df0d255b6341c1e3d7ef2c80838209d9eee4a77a65136d31dd"), looks := false }, kinds := [], alts := [], laidByText := true, laidKinds := [.data, .data, .data], laidTests := true, laidLooks := .later }
def ConfigParseUptoCardSaid : Prop := Claim7.holds Tryd.pinned (.plain (OpenSpec.upto configParseSpec)) configParseUptoCard

/-- THE SECOND FORM's CARD OF 'modscanlaw17.ConfigLines'. -/
def configLinesUptoCard : Claim7 := { stood := { row := configLinesUptoRow, standIns := [], harness := (true, "8eb8e33668e453df0d255b6341c1e3d7ef2c80838209d9eee4a77a65136d31dd"), looks := false }, kinds := [], alts := [], laidByText := true, laidKinds := [.data, .data, .data], laidTests := true, laidLooks := .later }
def ConfigLinesUptoCardSaid : Prop := Claim7.holds Tryd.pinned (.plain (OpenSpec.upto configLinesSpec)) configLinesUptoCard
end Rows
end Go.Proofs.YtmgfnlnomecbiaaDoor

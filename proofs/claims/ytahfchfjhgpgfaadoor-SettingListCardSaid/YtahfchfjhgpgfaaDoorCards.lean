/-
  DERIVED. GIVEN WITH THE SEED: THE CARDS: each row of YtahfchfjhgpgfaaDoorRows.lean that lists a variable, with what it lists TIED to the program's text (the seventh form; the later family's looks); each row that meets fmt, with fmt's text TOLD by the authors' own Lean function (tested against real Go, not proved from fmt's source: count such statements apart). THE CARD IS WHAT COUNTS. Prove the row's statement (the work); the ties are given (YtahfchfjhgpgfaaDoorTie.lean); close each card by the builder's one call (the guide's Derived/Test/ToyasCard.lean, 'card_holds'). Laid BY PROGRAM, IN A SANDBOX (cutbox-door.mjs). By AI agents, Wed Nov 11 2026. No macro, syntax, notation, axiom, sorry.
-/
import Derived.Test.YtahfchfjhgpgfaaDoorRows
import GoSem.ClaimSeven
namespace Go.Proofs.YtahfchfjhgpgfaaDoor
namespace Rows

/-- THE TIED CARD OF 'modscanlaw02.TextHex'. -/
def textHexCard : Claim7 := { stood := { row := textHexRow, standIns := [], harness := (true, "c404e5448b82fcdeb06bb8557a651306c3841673d766e3de013e6e7ff054a3f3"), looks := false }, kinds := [], alts := [], laidByText := true, laidKinds := [.data, .data, .data], laidTests := true, laidLooks := .later }
def TextHexCardSaid : Prop := Claim7.holds Tryd.pinned (.plain (OpenSpec.ofChange textHexSpec)) textHexCard

/-- THE TIED CARD OF 'modscanlaw02.TextQuote'. -/
def textQuoteCard : Claim7 := { stood := { row := textQuoteRow, standIns := [], harness := (true, "c404e5448b82fcdeb06bb8557a651306c3841673d766e3de013e6e7ff054a3f3"), looks := false }, kinds := [], alts := [], laidByText := true, laidKinds := [.data, .data, .data], laidTests := true, laidLooks := .later }
def TextQuoteCardSaid : Prop := Claim7.holds Tryd.pinned (.plain (OpenSpec.ofChange textQuoteSpec)) textQuoteCard

/-- THE TIED CARD OF 'modscanlaw02.TextUnquote'. -/
def textUnquoteCard : Claim7 := { stood := { row := textUnquoteRow, standIns := [], harness := (true, "c404e5448b82fcdeb06bb8557a651306c3841673d766e3de013e6e7ff054a3f3"), looks := false }, kinds := [], alts := [], laidByText := true, laidKinds := [.data, .data, .data], laidTests := true, laidLooks := .later }
def TextUnquoteCardSaid : Prop := Claim7.holds Tryd.pinned (.plain (OpenSpec.ofChange textUnquoteSpec)) textUnquoteCard

/-- THE TIED CARD OF 'modscanlaw02.TextWords'. -/
def textWordsCard : Claim7 := { stood := { row := textWordsRow, standIns := [], harness := (true, "c404e5448b82fcdeb06bb8557a651306c3841673d766e3de013e6e7ff054a3f3"), looks := false }, kinds := [], alts := [], laidByText := true, laidKinds := [.data, .data, .data], laidTests := true, laidLooks := .later }
def TextWordsCardSaid : Prop := Claim7.holds Tryd.pinned (.plain (OpenSpec.ofChange textWordsSpec)) textWordsCard

/-- THE TIED CARD OF 'modscanlaw02.TextName'. -/
def textNameCard : Claim7 := { stood := { row := textNameRow, standIns := [], harness := (true, "c404e5448b82fcdeb06bb8557a651306c3841673d766e3de013e6e7ff054a3f3"), looks := false }, kinds := [], alts := [], laidByText := true, laidKinds := [.data, .data, .data], laidTests := true, laidLooks := .later }
def TextNameCardSaid : Prop := Claim7.holds Tryd.pinned (.plain (OpenSpec.ofChange textNameSpec)) textNameCard

/-- THE TIED CARD OF 'modscanlaw02.TextDecimal'. -/
def textDecimalCard : Claim7 := { stood := { row := textDecimalRow, standIns := [], harness := (true, "c404e5448b82fcdeb06bb8557a651306c3841673d766e3de013e6e7ff054a3f3"), looks := false }, kinds := [], alts := [], laidByText := true, laidKinds := [.data, .data, .data], laidTests := true, laidLooks := .later }
def TextDecimalCardSaid : Prop := Claim7.holds Tryd.pinned (.plain (OpenSpec.ofChange textDecimalSpec)) textDecimalCard

/-- THE TIED CARD OF 'modscanlaw02.TextLines'. -/
def textLinesCard : Claim7 := { stood := { row := textLinesRow, standIns := [], harness := (true, "c404e5448b82fcdeb06bb8557a651306c3841673d766e3de013e6e7ff054a3f3"), looks := false }, kinds := [], alts := [], laidByText := true, laidKinds := [.data, .data, .data], laidTests := true, laidLooks := .later }
def TextLinesCardSaid : Prop := Claim7.holds Tryd.pinned (.plain (OpenSpec.ofChange textLinesSpec)) textLinesCard

/-- THE TIED CARD OF 'modscanlaw05.SettingParse'. -/
def settingParseCard : Claim7 := { stood := { row := settingParseRow, standIns := [], harness := (true, "c404e5448b82fcdeb06bb8557a651306c3841673d766e3de013e6e7ff054a3f3"), looks := false }, kinds := [], alts := [], laidByText := true, laidKinds := [.data, .data, .data], laidTests := true, laidLooks := .later }
def SettingParseCardSaid : Prop := Claim7.holds Tryd.pinned (.plain (OpenSpec.ofChange settingParseSpec)) settingParseCard

/-- THE TIED CARD OF 'modscanlaw05.SettingRound'. -/
def settingRoundCard : Claim7 := { stood := { row := settingRoundRow, standIns := [], harness := (true, "c404e5448b82fcdeb06bb8557a651306c3841673d766e3de013e6e7ff054a3f3"), looks := false }, kinds := [], alts := [], laidByText := true, laidKinds := [.data, .data, .data], laidTests := true, laidLooks := .later }
def SettingRoundCardSaid : Prop := Claim7.holds Tryd.pinned (.plain (OpenSpec.ofChange settingRoundSpec)) settingRoundCard

/-- THE TIED CARD OF 'modscanlaw05.SettingValid'. -/
def settingValidCard : Claim7 := { stood := { row := settingValidRow, standIns := [], harness := (true, "c404e5448b82fcdeb06bb8557a651306c3841673d766e3de013e6e7ff054a3f3"), looks := false }, kinds := [], alts := [], laidByText := true, laidKinds := [.data, .data, .data], laidTests := true, laidLooks := .later }
def SettingValidCardSaid : Prop := Claim7.holds Tryd.pinned (.plain (OpenSpec.ofChange settingValidSpec)) settingValidCard

/-- THE TIED CARD OF 'modscanlaw05.SettingCompare'. -/
def settingCompareCard : Claim7 := { stood := { row := settingCompareRow, standIns := [], harness := (true, "c404e5448b82fcdeb06bb8557a651306c3841673d766e3de013e6e7ff054a3f3"), looks := false }, kinds := [], alts := [], laidByText := true, laidKinds := [.data, .data, .data], laidTests := true, laidLooks := .later }
def SettingCompareCardSaid : Prop := Claim7.holds Tryd.pinned (.plain (OpenSpec.ofChange settingCompareSpec)) settingCompareCard

/-- THE TIED CARD OF 'modscanlaw05.SettingList'. -/
def settingListCard : Claim7 := { stood := { row := settingListRow, standIns := [], harness := (true, "c404e5448b82fcdeb06bb8557a651306c3841673d766e3de013e6e7ff054a3f3"), looks := false }, kinds := [], alts := [], laidByText := true, laidKinds := [.data, .data, .data], laidTests := true, laidLooks := .later }
def SettingListCardSaid : Prop := Claim7.holds Tryd.pinned (.plain (OpenSpec.ofChange settingListSpec)) settingListCard

/-- THE SECOND FORM's CARD OF 'modscanlaw02.TextHex'. -/
def textHexUptoCard : Claim7 := { stood := { row := textHexUptoRow, standIns := [], harness := (true, "c404e5448b82fcdeb06bb8557a651306c3841673d766e3de013e6e7ff054a3f3"), looks := false }, kinds := [], alts := [], laidByText := true, laidKinds := [.data, .data, .data], laidTests := true, laidLooks := .later }
def TextHexUptoCardSaid : Prop := Claim7.holds Tryd.pinned (.plain (OpenSpec.upto textHexSpec)) textHexUptoCard

/-- THE SECOND FORM's CARD OF 'modscanlaw02.TextQuote'. -/
def textQuoteUptoCard : Claim7 := { stood := { row := textQuoteUptoRow, standIns := [], harness := (true, "c404e5448b82fcdeb06bb8557a651306c3841673d766e3de013e6e7ff054a3f3"), looks := false }, kinds := [], alts := [], laidByText := true, laidKinds := [.data, .data, .data], laidTests := true, laidLooks := .later }
def TextQuoteUptoCardSaid : Prop := Claim7.holds Tryd.pinned (.plain (OpenSpec.upto textQuoteSpec)) textQuoteUptoCard

/-- THE SECOND FORM's CARD OF 'modscanlaw02.TextUnquote'. -/
def textUnquoteUptoCard : Claim7 := { stood := { row := textUnquoteUptoRow, standIns := [], harness := (true, "c404e5448b82fcdeb06bb8557a651306c3841673d766e3de013e6e7ff054a3f3"), looks := false }, kinds := [], alts := [], laidByText := true, laidKinds := [.data, .data, .data], laidTests := true, laidLooks := .later }
def TextUnquoteUptoCardSaid : Prop := Claim7.holds Tryd.pinned (.plain (OpenSpec.upto textUnquoteSpec)) textUnquoteUptoCard

/-- THE SECOND FORM's CARD OF 'modscanlaw02.TextWords'. -/
def textWordsUptoCard : Claim7 := { stood := { row := textWordsUptoRow, standIns := [], harness := (true, "c404e5448b82fcdeb06bb8557a651306c3841673d766e3de013e6e7ff054a3f3"), looks := false }, kinds := [], alts := [], laidByText := true, laidKinds := [.data, .data, .data], laidTests := true, laidLooks := .later }
def TextWordsUptoCardSaid : Prop := Claim7.holds Tryd.pinned (.plain (OpenSpec.upto textWordsSpec)) textWordsUptoCard

/-- THE SECOND FORM's CARD OF 'modscanlaw02.TextName'. -/
def textNameUptoCard : Claim7 := { stood := { row := textNameUptoRow, standIns := [], harness := (true, "c404e5448b82fcdeb06bb8557a651306c3841673d766e3de013e6e7ff054a3f3"), looks := false }, kinds := [], alts := [], laidByText := true, laidKinds := [.data, .data, .data], laidTests := true, laidLooks := .later }
def TextNameUptoCardSaid : Prop := Claim7.holds Tryd.pinned (.plain (OpenSpec.upto textNameSpec)) textNameUptoCard

/-- THE SECOND FORM's CARD OF 'modscanlaw02.TextDecimal'. -/
def textDecimalUptoCard : Claim7 := { stood := { row := textDecimalUptoRow, standIns := [], harness := (true, "c404e5448b82fcdeb06bb8557a651306c3841673d766e3de013e6e7ff054a3f3"), looks := false }, kinds := [], alts := [], laidByText := true, laidKinds := [.data, .data, .data], laidTests := true, laidLooks := .later }
def TextDecimalUptoCardSaid : Prop := Claim7.holds Tryd.pinned (.plain (OpenSpec.upto textDecimalSpec)) textDecimalUptoCard

/-- THE SECOND FORM's CARD OF 'modscanlaw02.TextLines'. -/
def textLinesUptoCard : Claim7 := { stood := { row := textLinesUptoRow, standIns := [], harness := (true, "c404e5448b82fcdeb06bb8557a651306c3841673d766e3de013e6e7ff054a3f3"), looks := false }, kinds := [], alts := [], laidByText := true, laidKinds := [.data, .data, .data], laidTests := true, laidLooks := .later }
def TextLinesUptoCardSaid : Prop := Claim7.holds Tryd.pinned (.plain (OpenSpec.upto textLinesSpec)) textLinesUptoCard

/-- THE SECOND FORM's CARD OF 'modscanlaw05.SettingParse'. -/
def settingParseUptoCard : Claim7 := { stood := { row := settingParseUptoRow, standIns := [], harness := (true, "c404e5448b82fcdeb06bb8557a651306c3841673d766e3de013e6e7ff054a3f3"), looks := false }, kinds := [], alts := [], laidByText := true, laidKinds := [.data, .data, .data], laidTests := true, laidLooks := .later }
def SettingParseUptoCardSaid : Prop := Claim7.holds Tryd.pinned (.plain (OpenSpec.upto settingParseSpec)) settingParseUptoCard

/-- THE SECOND FORM's CARD OF 'modscanlaw05.SettingRound'. -/
def settingRoundUptoCard : Claim7 := { stood := { row := settingRoundUptoRow, standIns := [], harness := (true, "c404e5448b82fcdeb06bb8557a651306c3841673d766e3de013e6e7ff054a3f3"), looks := false }, kinds := [], alts := [], laidByText := true, laidKinds := [.data, .data, .data], laidTests := true, laidLooks := .later }
def SettingRoundUptoCardSaid : Prop := Claim7.holds Tryd.pinned (.plain (OpenSpec.upto settingRoundSpec)) settingRoundUptoCard

/-- THE SECOND FORM's CARD OF 'modscanlaw05.SettingValid'. -/
def settingValidUptoCard : Claim7 := { stood := { row := settingValidUptoRow, standIns := [], harness := (true, "c404e5448b82fcdeb06bb8557a651306c3841673d766e3de013e6e7ff054a3f3"), looks := false }, kinds := [], alts := [], laidByText := true, laidKinds := [.data, .data, .data], laidTests := true, laidLooks := .later }
def SettingValidUptoCardSaid : Prop := Claim7.holds Tryd.pinned (.plain (OpenSpec.upto settingValidSpec)) settingValidUptoCard

/-- THE SECOND FORM's CARD OF 'modscanlaw05.SettingCompare'. -/
def settingCompareUptoCard : Claim7 := { stood := { row := settingCompareUptoRow, standIns := [], harness := (true, "c404e5448b82fcdeb06bb8557a651306c3841673d766e3de013e6e7ff054a3f3"), looks := false }, kinds := [], alts := [], laidByText := true, laidKinds := [.data, .data, .data], laidTests := true, laidLooks := .later }
def SettingCompareUptoCardSaid : Prop := Claim7.holds Tryd.pinned (.plain (OpenSpec.upto settingCompareSpec)) settingCompareUptoCard

/-- THE SECOND FORM's CARD OF 'modscanlaw05.SettingList'. -/
def settingListUptoCard : Claim7 := { stood := { row := settingListUptoRow, standIns := [], harness := (true, "c404e5448b82fcdeb06bb8557a651306c3841673d766e3de013e6e7ff054a3f3"), looks := false }, kinds := [], alts := [], laidByText := true, laidKinds := [.data, .data, .data], laidTests := true, laidLooks := .later }
def SettingListUptoCardSaid : Prop := Claim7.holds Tryd.pinned (.plain (OpenSpec.upto settingListSpec)) settingListUptoCard
end Rows
end Go.Proofs.YtahfchfjhgpgfaaDoor

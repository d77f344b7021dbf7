/-
  DERIVED. GIVEN WITH THE SEED: THE CARDS: each row of YtokcllgekkhaaaaGreatDoorRows.lean that lists a variable, with what it lists TIED to the program's text (the seventh form; the later family's looks); each row that meets fmt, with fmt's text TOLD by the authors' own Lean function (tested against real Go, not proved from fmt's source: count such statements apart). THE CARD IS WHAT COUNTS. Prove the row's statement (the work); the ties are given (YtokcllgekkhaaaaGreatDoorTie.lean); close each card by the builder's one call (the guide's Derived/Test/ToyasCard.lean, 'card_holds'). Laid BY PROGRAM, IN A SANDBOX (cutbox-door.mjs). By AI agents, Wed Nov 11 2026. No macro, syntax, notation, axiom, sorry.
-/
import Derived.Test.YtokcllgekkhaaaaGreatDoorRows
import GoSem.ClaimSeven
namespace Go.Proofs.YtokcllgekkhaaaaGreatDoor
namespace Rows

/-- THE TIED CARD OF 'oculuslaw28.SheetPlays'. -/
def sheetPlaysCard : Claim7 := { stood := { row := sheetPlaysRow, standIns := [], harness := (true, "cde32a07b4f25ef2bf03d5b2bf5b764eb5f5130039d1afff1b1fb9dcd1e1b9df"), looks := false }, kinds := [], alts := [], laidByText := true, laidKinds := [.data, .data, .data, .data, .pinned], laidTests := true, laidLooks := .later }
def SheetPlaysCardSaid : Prop := Claim7.holds Tryz.pinned (.plain (OpenSpec.ofChange sheetPlaysSpec)) sheetPlaysCard

/-- THE TIED CARD OF 'oculuslaw28.SheetNil'. -/
def sheetNilCard : Claim7 := { stood := { row := sheetNilRow, standIns := [], harness := (true, "cde32a07b4f25ef2bf03d5b2bf5b764eb5f5130039d1afff1b1fb9dcd1e1b9df"), looks := false }, kinds := [], alts := [], laidByText := true, laidKinds := [.data, .data, .data, .data, .pinned], laidTests := true, laidLooks := .later }
def SheetNilCardSaid : Prop := Claim7.holds Tryz.pinned (.plain (OpenSpec.ofChange sheetNilSpec)) sheetNilCard

/-- THE TIED CARD OF 'oculuslaw45.ReplyTells'. -/
def replyTellsCard : Claim7 := { stood := { row := replyTellsRow, standIns := [], harness := (true, "cde32a07b4f25ef2bf03d5b2bf5b764eb5f5130039d1afff1b1fb9dcd1e1b9df"), looks := false }, kinds := [], alts := [], laidByText := true, laidKinds := [.data, .data, .data, .data, .listed, .data, .pinned], laidTests := true, laidLooks := .later }
def ReplyTellsCardSaid : Prop := Claim7.holds Tryz.pinned (.plain (OpenSpec.ofChange replyTellsSpec)) replyTellsCard

/-- THE TIED CARD OF 'oculuslaw23.ParseTells'. -/
def parseTellsCard : Claim7 := { stood := { row := parseTellsRow, standIns := [], harness := (true, "cde32a07b4f25ef2bf03d5b2bf5b764eb5f5130039d1afff1b1fb9dcd1e1b9df"), looks := false }, kinds := [], alts := [], laidByText := true, laidKinds := [.data, .data, .data, .data, .listed, .data, .pinned], laidTests := true, laidLooks := .later }
def ParseTellsCardSaid : Prop := Claim7.holds Tryz.pinned (.plain (OpenSpec.ofChange parseTellsSpec)) parseTellsCard

/-- THE TIED CARD OF 'oculuslaw23.ParseBrackets'. -/
def parseBracketsCard : Claim7 := { stood := { row := parseBracketsRow, standIns := [], harness := (true, "cde32a07b4f25ef2bf03d5b2bf5b764eb5f5130039d1afff1b1fb9dcd1e1b9df"), looks := false }, kinds := [], alts := [], laidByText := true, laidKinds := [.data, .data, .data, .data, .listed, .data, .pinned], laidTests := true, laidLooks := .later }
def ParseBracketsCardSaid : Prop := Claim7.holds Tryz.pinned (.plain (OpenSpec.ofChange parseBracketsSpec)) parseBracketsCard

/-- THE TIED CARD OF 'oculuslaw45.ReplyBack'. -/
def replyBackCard : Claim7 := { stood := { row := replyBackRow, standIns := [], harness := (true, "cde32a07b4f25ef2bf03d5b2bf5b764eb5f5130039d1afff1b1fb9dcd1e1b9df"), looks := false }, kinds := [], alts := [], laidByText := true, laidKinds := [.data, .data, .data, .data, .listed, .data, .pinned], laidTests := true, laidLooks := .later }
def ReplyBackCardSaid : Prop := Claim7.holds Tryz.pinned (.plain (OpenSpec.ofChange replyBackSpec)) replyBackCard

/-- THE TIED CARD OF 'oculuslaw23.ParseRight'. -/
def parseRightCard : Claim7 := { stood := { row := parseRightRow, standIns := [], harness := (true, "cde32a07b4f25ef2bf03d5b2bf5b764eb5f5130039d1afff1b1fb9dcd1e1b9df"), looks := false }, kinds := [], alts := [], laidByText := true, laidKinds := [.data, .data, .data, .data, .listed, .data, .pinned], laidTests := true, laidLooks := .later }
def ParseRightCardSaid : Prop := Claim7.holds Tryz.pinned (.plain (OpenSpec.ofChange parseRightSpec)) parseRightCard

/-- THE TIED CARD OF 'oculuslaw42.LedgerParts'. -/
def ledgerPartsCard : Claim7 := { stood := { row := ledgerPartsRow, standIns := [], harness := (true, "cde32a07b4f25ef2bf03d5b2bf5b764eb5f5130039d1afff1b1fb9dcd1e1b9df"), looks := false }, kinds := [], alts := [], laidByText := true, laidKinds := [.data, .data, .data, .data, .pinned], laidTests := true, laidLooks := .later }
def LedgerPartsCardSaid : Prop := Claim7.holds Tryz.pinned (.plain (OpenSpec.ofChange ledgerPartsSpec)) ledgerPartsCard

/-- THE TIED CARD OF 'oculuslaw32.CodeTells'. -/
def codeTellsCard : Claim7 := { stood := { row := codeTellsRow, standIns := [], harness := (true, "cde32a07b4f25ef2bf03d5b2bf5b764eb5f5130039d1afff1b1fb9dcd1e1b9df"), looks := false }, kinds := [], alts := [], laidByText := true, laidKinds := [.data, .data, .data, .data, .listed, .data, .pinned], laidTests := true, laidLooks := .later }
def CodeTellsCardSaid : Prop := Claim7.holds Tryz.pinned (.plain (OpenSpec.ofChange codeTellsSpec)) codeTellsCard

/-- THE TIED CARD OF 'oculuslaw32.CodeOn'. -/
def codeOnCard : Claim7 := { stood := { row := codeOnRow, standIns := [], harness := (true, "cde32a07b4f25ef2bf03d5b2bf5b764eb5f5130039d1afff1b1fb9dcd1e1b9df"), looks := false }, kinds := [], alts := [], laidByText := true, laidKinds := [.data, .data, .data, .data, .listed, .data, .pinned], laidTests := true, laidLooks := .later }
def CodeOnCardSaid : Prop := Claim7.holds Tryz.pinned (.plain (OpenSpec.ofChange codeOnSpec)) codeOnCard

/-- THE TIED CARD OF 'oculuslaw32.CodeAsks'. -/
def codeAsksCard : Claim7 := { stood := { row := codeAsksRow, standIns := [], harness := (true, "cde32a07b4f25ef2bf03d5b2bf5b764eb5f5130039d1afff1b1fb9dcd1e1b9df"), looks := false }, kinds := [], alts := [], laidByText := true, laidKinds := [.data, .data, .data, .data, .listed, .data, .pinned], laidTests := true, laidLooks := .later }
def CodeAsksCardSaid : Prop := Claim7.holds Tryz.pinned (.plain (OpenSpec.ofChange codeAsksSpec)) codeAsksCard

/-- THE TIED CARD OF 'oculuslaw24.CanonTells'. -/
def canonTellsCard : Claim7 := { stood := { row := canonTellsRow, standIns := [], harness := (true, "cde32a07b4f25ef2bf03d5b2bf5b764eb5f5130039d1afff1b1fb9dcd1e1b9df"), looks := false }, kinds := [], alts := [], laidByText := true, laidKinds := [.data, .data, .data, .data, .listed, .data, .pinned], laidTests := true, laidLooks := .later }
def CanonTellsCardSaid : Prop := Claim7.holds Tryz.pinned (.plain (OpenSpec.ofChange canonTellsSpec)) canonTellsCard

/-- THE SECOND FORM's CARD OF 'oculuslaw28.SheetPlays'. -/
def sheetPlaysUptoCard : Claim7 := { stood := { row := sheetPlaysUptoRow, standIns := [], harness := (true, "cde32a07b4f25ef2bf03d5b2bf5b764eb5f5130039d1afff1b1fb9dcd1e1b9df"), looks := false }, kinds := [], alts := [], laidByText := true, laidKinds := [.data, .data, .data, .data, .pinned], laidTests := true, laidLooks := .later }
def SheetPlaysUptoCardSaid : Prop := Claim7.holds Tryz.pinned (.plain (OpenSpec.upto sheetPlaysSpec)) sheetPlaysUptoCard

/-- THE SECOND FORM's CARD OF 'oculuslaw28.SheetNil'. -/
def sheetNilUptoCard : Claim7 := { stood := { row := sheetNilUptoRow, standIns := [], harness := (true, "cde32a07b4f25ef2bf03d5b2bf5b764eb5f5130039d1afff1b1fb9dcd1e1b9df"), looks := false }, kinds := [], alts := [], laidByText := true, laidKinds := [.data, .data, .data, .data, .pinned], laidTests := true, laidLooks := .later }
def SheetNilUptoCardSaid : Prop := Claim7.holds Tryz.pinned (.plain (OpenSpec.upto sheetNilSpec)) sheetNilUptoCard

/-- THE SECOND FORM's CARD OF 'oculuslaw45.ReplyTells'. -/
def replyTellsUptoCard : Claim7 := { stood := { row := replyTellsUptoRow, standIns := [], harness := (true, "cde32a07b4f25ef2bf03d5b2bf5b764eb5f5130039d1afff1b1fb9dcd1e1b9df"), looks := false }, kinds := [], alts := [], laidByText := true, laidKinds := [.data, .data, .data, .data, .listed, .data, .pinned], laidTests := true, laidLooks := .later }
def ReplyTellsUptoCardSaid : Prop := Claim7.holds Tryz.pinned (.plain (OpenSpec.upto replyTellsSpec)) replyTellsUptoCard

/-- THE SECOND FORM's CARD OF 'oculuslaw23.ParseTells'. -/
def parseTellsUptoCard : Claim7 := { stood := { row := parseTellsUptoRow, standIns := [], harness := (true, "cde32a07b4f25ef2bf03d5b2bf5b764eb5f5130039d1afff1b1fb9dcd1e1b9df"), looks := false }, kinds := [], alts := [], laidByText := true, laidKinds := [.data, .data, .data, .data, .listed, .data, .pinned], laidTests := true, laidLooks := .later }
def ParseTellsUptoCardSaid : Prop := Claim7.holds Tryz.pinned (.plain (OpenSpec.upto parseTellsSpec)) parseTellsUptoCard

/-- THE SECOND FORM's CARD OF 'oculuslaw23.ParseBrackets'. -/
def parseBracketsUptoCard : Claim7 := { stood := { row := parseBracketsUptoRow, standIns := [], harness := (true, "cde32a07b4f25ef2bf03d5b2bf5b764eb5f5130039d1afff1b1fb9dcd1e1b9df"), looks := false }, kinds := [], alts := [], laidByText := true, laidKinds := [.data, .data, .data, .data, .listed, .data, .pinned], laidTests := true, laidLooks := .later }
def ParseBracketsUptoCardSaid : Prop := Claim7.holds Tryz.pinned (.plain (OpenSpec.upto parseBracketsSpec)) parseBracketsUptoCard

/-- THE SECOND FORM's CARD OF 'oculuslaw45.ReplyBack'. -/
def replyBackUptoCard : Claim7 := { stood := { row := replyBackUptoRow, standIns := [], harness := (true, "cde32a07b4f25ef2bf03d5b2bf5b764eb5f5130039d1afff1b1fb9dcd1e1b9df"), looks := false }, kinds := [], alts := [], laidByText := true, laidKinds := [.data, .data, .data, .data, .listed, .data, .pinned], laidTests := true, laidLooks := .later }
def ReplyBackUptoCardSaid : Prop := Claim7.holds Tryz.pinned (.plain (OpenSpec.upto replyBackSpec)) replyBackUptoCard

/-- THE SECOND FORM's CARD OF 'oculuslaw23.ParseRight'. -/
def parseRightUptoCard : Claim7 := { stood := { row := parseRightUptoRow, standIns := [], harness := (true, "cde32a07b4f25ef2bf03d5b2bf5b764eb5f5130039d1afff1b1fb9dcd1e1b9df"), looks := false }, kinds := [], alts := [], laidByText := true, laidKinds := [.data, .data, .data, .data, .listed, .data, .pinned], laidTests := true, laidLooks := .later }
def ParseRightUptoCardSaid : Prop := Claim7.holds Tryz.pinned (.plain (OpenSpec.upto parseRightSpec)) parseRightUptoCard

/-- THE SECOND FORM's CARD OF 'oculuslaw42.LedgerParts'. -/
def ledgerPartsUptoCard : Claim7 := { stood := { row := ledgerPartsUptoRow, standIns := [], harness := (true, "cde32a07b4f25ef2bf03d5b2bf5b764eb5f5130039d1afff1b1fb9dcd1e1b9df"), looks := false }, kinds := [], alts := [], laidByText := true, laidKinds := [.data, .data, .data, .data, .pinned], laidTests := true, laidLooks := .later }
def LedgerPartsUptoCardSaid : Prop := Claim7.holds Tryz.pinned (.plain (OpenSpec.upto ledgerPartsSpec)) ledgerPartsUptoCard

/-- THE SECOND FORM's CARD OF 'oculuslaw32.CodeTells'. -/
def codeTellsUptoCard : Claim7 := { stood := { row := codeTellsUptoRow, standIns := [], harness := (true, "cde32a07b4f25ef2bf03d5b2bf5b764eb5f5130039d1afff1b1fb9dcd1e1b9df"), looks := false }, kinds := [], alts := [], laidByText := true, laidKinds := [.data, .data, .data, .data, .listed, .data, .pinned], laidTests := true, laidLooks := .later }
def CodeTellsUptoCardSaid : Prop := Claim7.holds Tryz.pinned (.plain (OpenSpec.upto codeTellsSpec)) codeTellsUptoCard

/-- THE SECOND FORM's CARD OF 'oculuslaw32.CodeOn'. -/
def codeOnUptoCard : Claim7 := { stood := { row := codeOnUptoRow, standIns := [], harness := (true, "cde32a07b4f25ef2bf03d5b2bf5b764eb5f5130039d1afff1b1fb9dcd1e1b9df"), looks := false }, kinds := [], alts := [], laidByText := true, laidKinds := [.data, .data, .data, .data, .listed, .data, .pinned], laidTests := true, laidLooks := .later }
def CodeOnUptoCardSaid : Prop := Claim7.holds Tryz.pinned (.plain (OpenSpec.upto codeOnSpec)) codeOnUptoCard

/-- THE SECOND FORM's CARD OF 'oculuslaw32.CodeAsks'. -/
def codeAsksUptoCard : Claim7 := { stood := { row := codeAsksUptoRow, standIns := [], harness := (true, "cde32a07b4f25ef2bf03d5b2bf5b764eb5f5130039d1afff1b1fb9dcd1e1b9df"), looks := false }, kinds := [], alts := [], laidByText := true, laidKinds := [.data, .data, .data, .data, .listed, .data, .pinned], laidTests := true, laidLooks := .later }
def CodeAsksUptoCardSaid : Prop := Claim7.holds Tryz.pinned (.plain (OpenSpec.upto codeAsksSpec)) codeAsksUptoCard

/-- THE SECOND FORM's CARD OF 'oculuslaw24.CanonTells'. -/
def canonTellsUptoCard : Claim7 := { stood := { row := canonTellsUptoRow, standIns := [], harness := (true, "cde32a07b4f25ef2bf03d5b2bf5b764eb5f5130039d1afff1b1fb9dcd1e1b9df"), looks := false }, kinds := [], alts := [], laidByText := true, laidKinds := [.data, .data, .data, .data, .listed, .data, .pinned], laidTests := true, laidLooks := .later }
def CanonTellsUptoCardSaid : Prop := Claim7.holds Tryz.pinned (.plain (OpenSpec.upto canonTellsSpec)) canonTellsUptoCard
end Rows
end Go.Proofs.YtokcllgekkhaaaaGreatDoor

/-
  DERIVED. GIVEN WITH THE SEED: THE CARDS: each row of YtbfbmgkgaokecaaDoorRows.lean that lists a variable, with what it lists TIED to the program's text (the seventh form; the later family's looks); each row that meets fmt, with fmt's text TOLD by the authors' own Lean function (tested against real Go, not proved from fmt's source: count such statements apart). THE CARD IS WHAT COUNTS. Prove the row's statement (the work); the ties are given (YtbfbmgkgaokecaaDoorTie.lean); close each card by the builder's one call (the guide's Derived/Test/ToyasCard.lean, 'card_holds'). Laid BY PROGRAM, IN A SANDBOX (cutbox-door.mjs). By AI agents, Wed Nov 11 2026. No macro, syntax, notation, axiom, sorry.
-/
import Derived.Test.YtbfbmgkgaokecaaDoorRows
import GoSem.ClaimSeven
namespace Go.Proofs.YtbfbmgkgaokecaaDoor
namespace Rows

/-- THE TIED CARD OF 'intagliolaw19.RespCommands'. -/
def respCommandsCard : Claim7 := { stood := { row := respCommandsRow, standIns := [], harness := (true, "93c150c6dd771c0d2864f654f1df9ab82bbc5b2cd7fcd6bd8934fb7f71226d67"), looks := true }, kinds := [], alts := [], laidByText := true, laidKinds := [.data, .data, .data, .sentinel, .sentinel], laidTests := true, laidLooks := .later }
def RespCommandsCardSaid : Prop := Claim7.holds Tryd.pinned (.plain (OpenSpec.ofChange respCommandsSpec)) respCommandsCard

/-- THE TIED CARD OF 'intagliolaw19.RespParses'. -/
def respParsesCard : Claim7 := { stood := { row := respParsesRow, standIns := [], harness := (true, "93c150c6dd771c0d2864f654f1df9ab82bbc5b2cd7fcd6bd8934fb7f71226d67"), looks := true }, kinds := [], alts := [], laidByText := true, laidKinds := [.data, .data, .data, .sentinel, .sentinel], laidTests := true, laidLooks := .later }
def RespParsesCardSaid : Prop := Claim7.holds Tryd.pinned (.plain (OpenSpec.ofChange respParsesSpec)) respParsesCard

/-- THE TIED CARD OF 'intagliolaw19.RespPieces'. -/
def respPiecesCard : Claim7 := { stood := { row := respPiecesRow, standIns := [], harness := (true, "93c150c6dd771c0d2864f654f1df9ab82bbc5b2cd7fcd6bd8934fb7f71226d67"), looks := true }, kinds := [], alts := [], laidByText := true, laidKinds := [.data, .data, .data, .sentinel, .sentinel], laidTests := true, laidLooks := .later }
def RespPiecesCardSaid : Prop := Claim7.holds Tryd.pinned (.plain (OpenSpec.ofChange respPiecesSpec)) respPiecesCard

/-- THE TIED CARD OF 'intagliolaw19.RespNobody'. -/
def respNobodyCard : Claim7 := { stood := { row := respNobodyRow, standIns := [], harness := (true, "93c150c6dd771c0d2864f654f1df9ab82bbc5b2cd7fcd6bd8934fb7f71226d67"), looks := true }, kinds := [], alts := [], laidByText := true, laidKinds := [.data, .data, .data, .sentinel, .sentinel], laidTests := true, laidLooks := .later }
def RespNobodyCardSaid : Prop := Claim7.holds Tryd.pinned (.plain (OpenSpec.ofChange respNobodySpec)) respNobodyCard

/-- THE TIED CARD OF 'intagliolaw19.RespEncodes'. -/
def respEncodesCard : Claim7 := { stood := { row := respEncodesRow, standIns := [], harness := (true, "93c150c6dd771c0d2864f654f1df9ab82bbc5b2cd7fcd6bd8934fb7f71226d67"), looks := true }, kinds := [], alts := [], laidByText := true, laidKinds := [.data, .data, .data, .sentinel, .sentinel], laidTests := true, laidLooks := .later }
def RespEncodesCardSaid : Prop := Claim7.holds Tryd.pinned (.plain (OpenSpec.ofChange respEncodesSpec)) respEncodesCard

/-- THE TIED CARD OF 'intagliolaw17.VerbSpecs'. -/
def verbSpecsCard : Claim7 := { stood := { row := verbSpecsRow, standIns := [], harness := (true, "93c150c6dd771c0d2864f654f1df9ab82bbc5b2cd7fcd6bd8934fb7f71226d67"), looks := true }, kinds := [], alts := [], laidByText := true, laidKinds := [.data, .data, .data, .sentinel, .sentinel, .data, .data, .data], laidTests := true, laidLooks := .later }
def VerbSpecsCardSaid : Prop := Claim7.holds Tryd.pinned (.plain (OpenSpec.ofChange verbSpecsSpec)) verbSpecsCard

/-- THE TIED CARD OF 'intagliolaw17.VerbInts'. -/
def verbIntsCard : Claim7 := { stood := { row := verbIntsRow, standIns := [], harness := (true, "93c150c6dd771c0d2864f654f1df9ab82bbc5b2cd7fcd6bd8934fb7f71226d67"), looks := true }, kinds := [], alts := [], laidByText := true, laidKinds := [.data, .data, .data, .sentinel, .sentinel, .data, .data, .data], laidTests := true, laidLooks := .later }
def VerbIntsCardSaid : Prop := Claim7.holds Tryd.pinned (.plain (OpenSpec.ofChange verbIntsSpec)) verbIntsCard

/-- THE TIED CARD OF 'intagliolaw17.VerbNumbers'. -/
def verbNumbersCard : Claim7 := { stood := { row := verbNumbersRow, standIns := [], harness := (true, "93c150c6dd771c0d2864f654f1df9ab82bbc5b2cd7fcd6bd8934fb7f71226d67"), looks := true }, kinds := [], alts := [], laidByText := true, laidKinds := [.data, .data, .data, .sentinel, .sentinel, .data, .data, .data], laidTests := true, laidLooks := .later }
def VerbNumbersCardSaid : Prop := Claim7.holds Tryd.pinned (.plain (OpenSpec.ofChange verbNumbersSpec)) verbNumbersCard

/-- THE TIED CARD OF 'intagliolaw17.VerbMatches'. -/
def verbMatchesCard : Claim7 := { stood := { row := verbMatchesRow, standIns := [], harness := (true, "93c150c6dd771c0d2864f654f1df9ab82bbc5b2cd7fcd6bd8934fb7f71226d67"), looks := true }, kinds := [], alts := [], laidByText := true, laidKinds := [.data, .data, .data, .sentinel, .sentinel, .data, .data, .data], laidTests := true, laidLooks := .later }
def VerbMatchesCardSaid : Prop := Claim7.holds Tryd.pinned (.plain (OpenSpec.ofChange verbMatchesSpec)) verbMatchesCard

/-- THE TIED CARD OF 'intagliolaw17.VerbPlain'. -/
def verbPlainCard : Claim7 := { stood := { row := verbPlainRow, standIns := [], harness := (true, "93c150c6dd771c0d2864f654f1df9ab82bbc5b2cd7fcd6bd8934fb7f71226d67"), looks := true }, kinds := [], alts := [], laidByText := true, laidKinds := [.data, .data, .data, .sentinel, .sentinel, .data, .data, .data], laidTests := true, laidLooks := .later }
def VerbPlainCardSaid : Prop := Claim7.holds Tryd.pinned (.plain (OpenSpec.ofChange verbPlainSpec)) verbPlainCard

/-- THE TIED CARD OF 'intagliolaw17.VerbChecks'. -/
def verbChecksCard : Claim7 := { stood := { row := verbChecksRow, standIns := [], harness := (true, "93c150c6dd771c0d2864f654f1df9ab82bbc5b2cd7fcd6bd8934fb7f71226d67"), looks := true }, kinds := [], alts := [], laidByText := true, laidKinds := [.data, .data, .data, .sentinel, .sentinel, .data, .data, .data], laidTests := true, laidLooks := .later }
def VerbChecksCardSaid : Prop := Claim7.holds Tryd.pinned (.plain (OpenSpec.ofChange verbChecksSpec)) verbChecksCard

/-- THE TIED CARD OF 'intagliolaw19.RespReplies'. -/
def respRepliesCard : Claim7 := { stood := { row := respRepliesRow, standIns := [], harness := (true, "93c150c6dd771c0d2864f654f1df9ab82bbc5b2cd7fcd6bd8934fb7f71226d67"), looks := true }, kinds := [], alts := [], laidByText := true, laidKinds := [.data, .data, .data, .sentinel, .sentinel], laidTests := true, laidLooks := .later }
def RespRepliesCardSaid : Prop := Claim7.holds Tryd.pinned (.plain (OpenSpec.ofChange respRepliesSpec)) respRepliesCard

/-- THE SECOND FORM's CARD OF 'intagliolaw19.RespCommands'. -/
def respCommandsUptoCard : Claim7 := { stood := { row := respCommandsUptoRow, standIns := [], harness := (true, "93c150c6dd771c0d2864f654f1df9ab82bbc5b2cd7fcd6bd8934fb7f71226d67"), looks := true }, kinds := [], alts := [], laidByText := true, laidKinds := [.data, .data, .data, .sentinel, .sentinel], laidTests := true, laidLooks := .later }
def RespCommandsUptoCardSaid : Prop := Claim7.holds Tryd.pinned (.plain (OpenSpec.upto respCommandsSpec)) respCommandsUptoCard

/-- THE SECOND FORM's CARD OF 'intagliolaw19.RespParses'. -/
def respParsesUptoCard : Claim7 := { stood := { row := respParsesUptoRow, standIns := [], harness := (true, "93c150c6dd771c0d2864f654f1df9ab82bbc5b2cd7fcd6bd8934fb7f71226d67"), looks := true }, kinds := [], alts := [], laidByText := true, laidKinds := [.data, .data, .data, .sentinel, .sentinel], laidTests := true, laidLooks := .later }
def RespParsesUptoCardSaid : Prop := Claim7.holds Tryd.pinned (.plain (OpenSpec.upto respParsesSpec)) respParsesUptoCard

/-- THE SECOND FORM's CARD OF 'intagliolaw19.RespPieces'. -/
def respPiecesUptoCard : Claim7 := { stood := { row := respPiecesUptoRow, standIns := [], harness := (true, "93c150c6dd771c0d2864f654f1df9ab82bbc5b2cd7fcd6bd8934fb7f71226d67"), looks := true }, kinds := [], alts := [], laidByText := true, laidKinds := [.data, .data, .data, .sentinel, .sentinel], laidTests := true, laidLooks := .later }
def RespPiecesUptoCardSaid : Prop := Claim7.holds Tryd.pinned (.plain (OpenSpec.upto respPiecesSpec)) respPiecesUptoCard

/-- THE SECOND FORM's CARD OF 'intagliolaw19.RespNobody'. -/
def respNobodyUptoCard : Claim7 := { stood := { row := respNobodyUptoRow, standIns := [], harness := (true, "93c150c6dd771c0d2864f654f1df9ab82bbc5b2cd7fcd6bd8934fb7f71226d67"), looks := true }, kinds := [], alts := [], laidByText := true, laidKinds := [.data, .data, .data, .sentinel, .sentinel], laidTests := true, laidLooks := .later }
def RespNobodyUptoCardSaid : Prop := Claim7.holds Tryd.pinned (.plain (OpenSpec.upto respNobodySpec)) respNobodyUptoCard

/-- THE SECOND FORM's CARD OF 'intagliolaw19.RespEncodes'. -/
def respEncodesUptoCard : Claim7 := { stood := { row := respEncodesUptoRow, standIns := [], harness := (true, "93c150c6dd771c0d2864f654f1df9ab82bbc5b2cd7fcd6bd8934fb7f71226d67"), looks := true }, kinds := [], alts := [], laidByText := true, laidKinds := [.data, .data, .data, .sentinel, .sentinel], laidTests := true, laidLooks := .later }
def RespEncodesUptoCardSaid : Prop := Claim7.holds Tryd.pinned (.plain (OpenSpec.upto respEncodesSpec)) respEncodesUptoCard

/-- THE SECOND FORM's CARD OF 'intagliolaw17.VerbSpecs'. -/
def verbSpecsUptoCard : Claim7 := { stood := { row := verbSpecsUptoRow, standIns := [], harness := (true, "93c150c6dd771c0d2864f654f1df9ab82bbc5b2cd7fcd6bd8934fb7f71226d67"), looks := true }, kinds := [], alts := [], laidByText := true, laidKinds := [.data, .data, .data, .sentinel, .sentinel, .data, .data, .data], laidTests := true, laidLooks := .later }
def VerbSpecsUptoCardSaid : Prop := Claim7.holds Tryd.pinned (.plain (OpenSpec.upto verbSpecsSpec)) verbSpecsUptoCard

/-- THE SECOND FORM's CARD OF 'intagliolaw17.VerbInts'. -/
def verbIntsUptoCard : Claim7 := { stood := { row := verbIntsUptoRow, standIns := [], harness := (true, "93c150c6dd771c0d2864f654f1df9ab82bbc5b2cd7fcd6bd8934fb7f71226d67"), looks := true }, kinds := [], alts := [], laidByText := true, laidKinds := [.data, .data, .data, .sentinel, .sentinel, .data, .data, .data], laidTests := true, laidLooks := .later }
def VerbIntsUptoCardSaid : Prop := Claim7.holds Tryd.pinned (.plain (OpenSpec.upto verbIntsSpec)) verbIntsUptoCard

/-- THE SECOND FORM's CARD OF 'intagliolaw17.VerbNumbers'. -/
def verbNumbersUptoCard : Claim7 := { stood := { row := verbNumbersUptoRow, standIns := [], harness := (true, "93c150c6dd771c0d2864f654f1df9ab82bbc5b2cd7fcd6bd8934fb7f71226d67"), looks := true }, kinds := [], alts := [], laidByText := true, laidKinds := [.data, .data, .data, .sentinel, .sentinel, .data, .data, .data], laidTests := true, laidLooks := .later }
def VerbNumbersUptoCardSaid : Prop := Claim7.holds Tryd.pinned (.plain (OpenSpec.upto verbNumbersSpec)) verbNumbersUptoCard

/-- THE SECOND FORM's CARD OF 'intagliolaw17.VerbMatches'. -/
def verbMatchesUptoCard : Claim7 := { stood := { row := verbMatchesUptoRow, standIns := [], harness := (true, "93c150c6dd771c0d2864f654f1df9ab82bbc5b2cd7fcd6bd8934fb7f71226d67"), looks := true }, kinds := [], alts := [], laidByText := true, laidKinds := [.data, .data, .data, .sentinel, .sentinel, .data, .data, .data], laidTests := true, laidLooks := .later }
def VerbMatchesUptoCardSaid : Prop := Claim7.holds Tryd.pinned (.plain (OpenSpec.upto verbMatchesSpec)) verbMatchesUptoCard

/-- THE SECOND FORM's CARD OF 'intagliolaw17.VerbPlain'. -/
def verbPlainUptoCard : Claim7 := { stood := { row := verbPlainUptoRow, standIns := [], harness := (true, "93c150c6dd771c0d2864f654f1df9ab82bbc5b2cd7fcd6bd8934fb7f71226d67"), looks := true }, kinds := [], alts := [], laidByText := true, laidKinds := [.data, .data, .data, .sentinel, .sentinel, .data, .data, .data], laidTests := true, laidLooks := .later }
def VerbPlainUptoCardSaid : Prop := Claim7.holds Tryd.pinned (.plain (OpenSpec.upto verbPlainSpec)) verbPlainUptoCard

/-- THE SECOND FORM's CARD OF 'intagliolaw17.VerbChecks'. -/
def verbChecksUptoCard : Claim7 := { stood := { row := verbChecksUptoRow, standIns := [], harness := (true, "93c150c6dd771c0d2864f654f1df9ab82bbc5b2cd7fcd6bd8934fb7f71226d67"), looks := true }, kinds := [], alts := [], laidByText := true, laidKinds := [.data, .data, .data, .sentinel, .sentinel, .data, .data, .data], laidTests := true, laidLooks := .later }
def VerbChecksUptoCardSaid : Prop := Claim7.holds Tryd.pinned (.plain (OpenSpec.upto verbChecksSpec)) verbChecksUptoCard

/-- THE SECOND FORM's CARD OF 'intagliolaw19.RespReplies'. -/
def respRepliesUptoCard : Claim7 := { stood := { row := respRepliesUptoRow, standIns := [], harness := (true, "93c150c6dd771c0d2864f654f1df9ab82bbc5b2cd7fcd6bd8934fb7f71226d67"), looks := true }, kinds := [], alts := [], laidByText := true, laidKinds := [.data, .data, .data, .sentinel, .sentinel], laidTests := true, laidLooks := .later }
def RespRepliesUptoCardSaid : Prop := Claim7.holds Tryd.pinned (.plain (OpenSpec.upto respRepliesSpec)) respRepliesUptoCard
end Rows
end Go.Proofs.YtbfbmgkgaokecaaDoor

/-
  DERIVED. GIVEN WITH THE SEED: THE CARDS: each row of YtdjfdopgjlbloaaDoorRows.lean that lists a variable, with what it lists TIED to the program's text (the seventh form; the later family's looks); each row that meets fmt, with fmt's text TOLD by the authors' own Lean function (tested against real Go, not proved from fmt's source: count such statements apart). THE CARD IS WHAT COUNTS. Prove the row's statement (the work); the ties are given (YtdjfdopgjlbloaaDoorTie.lean); close each card by the builder's one call (the guide's Derived/Test/ToyasCard.lean, 'card_holds'). Laid BY PROGRAM, IN A SANDBOX (cutbox-door.mjs). By AI agents, Wed Nov 11 2026. No macro, syntax, notation, axiom, sorry.
-/
import Derived.Test.YtdjfdopgjlbloaaDoorRows
import GoSem.ClaimSeven
namespace Go.Proofs.YtdjfdopgjlbloaaDoor
namespace Rows

/-- THE TIED CARD OF 'laws.FnExactFormatCase'. -/
def fnExactFormatCaseCard : Claim7 := { stood := { row := fnExactFormatCaseRow, standIns := [], harness := (true, "19ebff2dccb78d430281292d87472427f805a16e38913ea795b3a99f47bfcad7"), looks := false }, kinds := [], alts := [], laidByText := true, laidKinds := [.data, .data, .data], laidTests := true, laidLooks := .later }
def FnExactFormatCaseCardSaid : Prop := Claim7.holds Tryd.pinned (.plain (OpenSpec.ofChange fnExactFormatCaseSpec)) fnExactFormatCaseCard

/-- THE TIED CARD OF 'laws.FnExactParseCase'. -/
def fnExactParseCaseCard : Claim7 := { stood := { row := fnExactParseCaseRow, standIns := [], harness := (true, "19ebff2dccb78d430281292d87472427f805a16e38913ea795b3a99f47bfcad7"), looks := false }, kinds := [], alts := [], laidByText := true, laidKinds := [.data, .pinned], laidTests := true, laidLooks := .later }
def FnExactParseCaseCardSaid : Prop := Claim7.holds Tryd.pinned (.plain (OpenSpec.ofChange fnExactParseCaseSpec)) fnExactParseCaseCard

/-- THE SECOND FORM's CARD OF 'laws.FnExactFormatCase'. -/
def fnExactFormatCaseUptoCard : Claim7 := { stood := { row := fnExactFormatCaseUptoRow, standIns := [], harness := (true, "19ebff2dccb78d430281292d87472427f805a16e38913ea795b3a99f47bfcad7"), looks := false }, kinds := [], alts := [], laidByText := true, laidKinds := [.data, .data, .data], laidTests := true, laidLooks := .later }
def FnExactFormatCaseUptoCardSaid : Prop := Claim7.holds Tryd.pinned (.plain (OpenSpec.upto fnExactFormatCaseSpec)) fnExactFormatCaseUptoCard

/-- THE SECOND FORM's CARD OF 'laws.FnExactParseCase'. -/
def fnExactParseCaseUptoCard : Claim7 := { stood := { row := fnExactParseCaseUptoRow, standIns := [], harness := (true, "19ebff2dccb78d430281292d87472427f805a16e38913ea795b3a99f47bfcad7"), looks := false }, kinds := [], alts := [], laidByText := true, laidKinds := [.data, .pinned], laidTests := true, laidLooks := .later }
def FnExactParseCaseUptoCardSaid : Prop := Claim7.holds Tryd.pinned (.plain (OpenSpec.upto fnExactParseCaseSpec)) fnExactParseCaseUptoCard
end Rows
end Go.Proofs.YtdjfdopgjlbloaaDoor

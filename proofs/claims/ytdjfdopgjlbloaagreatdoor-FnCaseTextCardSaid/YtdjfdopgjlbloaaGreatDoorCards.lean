/-
  DERIVED. GIVEN WITH THE SEED: THE CARDS: each row of YtdjfdopgjlbloaaGreatDoorRows.lean that lists a variable, with what it lists TIED to the program's text (the seventh form; the later family's looks); each row that meets fmt, with fmt's text TOLD by the authors' own Lean function (tested against real Go, not proved from fmt's source: count such statements apart). THE CARD IS WHAT COUNTS. Prove the row's statement (the work); the ties are given (YtdjfdopgjlbloaaGreatDoorTie.lean); close each card by the builder's one call (the guide's Derived/Test/ToyasCard.lean, 'card_holds'). Laid BY PROGRAM, IN A SANDBOX (cutbox-door.mjs). By AI agents, Wed Nov 11 2026. No macro, syntax, notation, axiom, sorry.
-/
import Derived.Test.YtdjfdopgjlbloaaGreatDoorRows
import GoSem.ClaimSeven
namespace Go.Proofs.YtdjfdopgjlbloaaGreatDoor
namespace Rows

/-- THE TIED CARD OF 'laws.FnCaseText'. -/
def fnCaseTextCard : Claim7 := { stood := { row := fnCaseTextRow, standIns := [], harness := (true, "28e443d620228c3d0bcf25e0b8762e54044eb59c16b435765ee3624ad6399535"), looks := false }, kinds := [], alts := [], laidByText := true, laidKinds := [.data, .data, .data, .data, .pinned], laidTests := true, laidLooks := .later }
def FnCaseTextCardSaid : Prop := Claim7.holds Tryz.pinned (.plain (OpenSpec.ofChange fnCaseTextSpec)) fnCaseTextCard

/-- THE SECOND FORM's CARD OF 'laws.FnCaseText'. -/
def fnCaseTextUptoCard : Claim7 := { stood := { row := fnCaseTextUptoRow, standIns := [], harness := (true, "28e443d620228c3d0bcf25e0b8762e54044eb59c16b435765ee3624ad6399535"), looks := false }, kinds := [], alts := [], laidByText := true, laidKinds := [.data, .data, .data, .data, .pinned], laidTests := true, laidLooks := .later }
def FnCaseTextUptoCardSaid : Prop := Claim7.holds Tryz.pinned (.plain (OpenSpec.upto fnCaseTextSpec)) fnCaseTextUptoCard
end Rows
end Go.Proofs.YtdjfdopgjlbloaaGreatDoor

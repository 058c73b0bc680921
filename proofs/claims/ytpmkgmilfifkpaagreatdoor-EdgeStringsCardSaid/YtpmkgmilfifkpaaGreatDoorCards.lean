/-
  DERIVED. GIVEN WITH THE SEED: THE CARDS: each row of YtpmkgmilfifkpaaGreatDoorRows.lean that lists a variable, with what it lists TIED to the program's text (the seventh form; the later family's looks); each row that meets fmt, with fmt's text TOLD by the authors' own Lean function (tested against real Go, not proved from fmt's source: count such statements apart). THE CARD IS WHAT COUNTS. Prove the row's statement (the work); the ties are given (YtpmkgmilfifkpaaGreatDoorTie.lean); close each card by the builder's one call (the guide's Derived/Test/ToyasCard.lean, 'card_holds'). Laid BY PROGRAM, IN A SANDBOX (cutbox-door.mjs). By AI agents, Wed Nov 11 2026. No macro, syntax, notation, axiom, sorry.
-/
import Derived.Test.YtpmkgmilfifkpaaGreatDoorRows
import GoSem.ClaimSeven
namespace Go.Proofs.YtpmkgmilfifkpaaGreatDoor
namespace Rows

/-- THE TIED CARD OF 'conjoinlaw03.EdgeStrings'. -/
def edgeStringsCard : Claim7 := { stood := { row := edgeStringsRow, standIns := [], harness := (true, "d6a60f7fe68933b1e784f1fdc74dcd44bf0f0a8d3d0c0b16ab5f237923852ff3"), looks := true }, kinds := [], alts := [], laidByText := true, laidKinds := [.data, .data, .data, .data, .sentinel, .sentinel, .pinned], laidTests := true, laidLooks := .later }
def EdgeStringsCardSaid : Prop := Claim7.holds Tryz.pinned (.plain (OpenSpec.ofChange edgeStringsSpec)) edgeStringsCard

/-- THE SECOND FORM's CARD OF 'conjoinlaw03.EdgeStrings'. -/
def edgeStringsUptoCard : Claim7 := { stood := { row := edgeStringsUptoRow, standIns := [], harness := (true, "d6a60f7fe68933b1e784f1fdc74dcd44bf0f0a8d3d0c0b16ab5f237923852ff3"), looks := true }, kinds := [], alts := [], laidByText := true, laidKinds := [.data, .data, .data, .data, .sentinel, .sentinel, .pinned], laidTests := true, laidLooks := .later }
def EdgeStringsUptoCardSaid : Prop := Claim7.holds Tryz.pinned (.plain (OpenSpec.upto edgeStringsSpec)) edgeStringsUptoCard
end Rows
end Go.Proofs.YtpmkgmilfifkpaaGreatDoor

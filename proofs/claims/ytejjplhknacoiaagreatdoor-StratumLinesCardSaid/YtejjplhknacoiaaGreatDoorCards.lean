/-
  DERIVED. GIVEN WITH THE SEED: THE CARDS: each row of YtejjplhknacoiaaGreatDoorRows.lean that lists a variable, with what it lists TIED to the program's text (the seventh form; the later family's looks); each row that meets fmt, with fmt's text TOLD by the authors' own Lean function (tested against real Go, not proved from fmt's source: count such statements apart). THE CARD IS WHAT COUNTS. Prove the row's statement (the work); the ties are given (YtejjplhknacoiaaGreatDoorTie.lean); close each card by the builder's one call (the guide's Derived/Test/ToyasCard.lean, 'card_holds'). Laid BY PROGRAM, IN A SANDBOX (cutbox-door.mjs). By AI agents, Wed Nov 11 2026. No macro, syntax, notation, axiom, sorry.
-/
import Derived.Test.YtejjplhknacoiaaGreatDoorRows
import GoSem.ClaimSeven
namespace Go.Proofs.YtejjplhknacoiaaGreatDoor
namespace Rows

/-- THE TIED CARD OF 'conjoinlaw08.StratumLines'. -/
def stratumLinesCard : Claim7 := { stood := { row := stratumLinesRow, standIns := [], harness := (true, "ee9eec7dcb4369bfa04a152a1c6a2915129c7bf9687f601f209d0d082e671031"), looks := true }, kinds := [], alts := [], laidByText := true, laidKinds := [.data, .data, .data, .data, .sentinel, .sentinel, .pinned], laidTests := true, laidLooks := .later }
def StratumLinesCardSaid : Prop := Claim7.holds Tryz.pinned (.plain (OpenSpec.ofChange stratumLinesSpec)) stratumLinesCard

/-- THE SECOND FORM's CARD OF 'conjoinlaw08.StratumLines'. -/
def stratumLinesUptoCard : Claim7 := { stood := { row := stratumLinesUptoRow, standIns := [], harness := (true, "ee9eec7dcb4369bfa04a152a1c6a2915129c7bf9687f601f209d0d082e671031"), looks := true }, kinds := [], alts := [], laidByText := true, laidKinds := [.data, .data, .data, .data, .sentinel, .sentinel, .pinned], laidTests := true, laidLooks := .later }
def StratumLinesUptoCardSaid : Prop := Claim7.holds Tryz.pinned (.plain (OpenSpec.upto stratumLinesSpec)) stratumLinesUptoCard
end Rows
end Go.Proofs.YtejjplhknacoiaaGreatDoor

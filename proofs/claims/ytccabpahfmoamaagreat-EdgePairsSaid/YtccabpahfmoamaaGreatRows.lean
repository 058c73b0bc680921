/-
  No cell of these rows narrows 'for every input' (looked for: loops, veiled, ifaces, maps, wideKeys, modest, calm, conditions, laid).
  DERIVED. THE GIVEN ROWS OF THIS SEAT. 13 by the template 'for every input the law returns true; each argument reads behind the call as it read before'; 0 by the template 'total and deterministic' (their statements: YtccabpahfmoamaaGreatTotals.lean).
  GIVEN WITH THE SEED: the statements are not yours to turn. If you find one false, say at which input.
  Laid BY PROGRAM, IN A SANDBOX (cutbox-rows.mjs): the forced cells as the released guide's own fill.sh prints them over the translation 56c82071e648a7d1… (all of the seat's roots in one cut). By AI agents, Wed Nov 11 2026. No macro, syntax, notation, axiom, sorry.
-/
import Derived.Test.YtccabpahfmoamaaGreatChecked
import GoSem.Claim
import GoSem.ClaimJoined
import GoSem.ClaimMapViews
import Derived.JoinedTies
import Derived.KernelRfl
namespace Go.Proofs.YtccabpahfmoamaaGreat
/- THE CELL 'sum', in the pinned program and in every row, IS THE sha256 OF THE DUMP (.gsa) THAT YtccabpahfmoamaaGreatProg.lean LOADS. Nothing in Lean hashes anything: it is a label: what it is worth is what the hold of that sum in a sandbox is worth. -/
noncomputable def Tryz.pinned : Pinned := { name := "ytccabpahfmoamaagreat", sum := "56c82071e648a7d1151a09da1362ecbc47e3361b0dea2d7bba9ff5914a5d35ce", checked := Tryz.checked }
namespace Rows
def none {H : Type} : Left H := { results := [], args := [] }

/-- 'conjoinlaw03.EdgeChecks': WHATEVER THE INPUT: true; the input reads as it did. -/
def edgeChecksSpec : ChangeSpec := { name := "edgeChecks", fn := fun _ => fun
  | [d1, d2, d3, d4, d5] => { results := [.lit (.bool true)], args := [d1, d2, d3, d4, d5] }
  | _ => none }
def edgeChecksRow : OpenClaim := { program := "ytccabpahfmoamaagreat", sum := "56c82071e648a7d1151a09da1362ecbc47e3361b0dea2d7bba9ff5914a5d35ce", func := "conjoin/conjoinlaw03.EdgeChecks", spec := "edgeChecks", unfollowed := true, recurses := true, plainKeys := false, apart := false }
def EdgeChecksSaid : Prop := edgeChecksRow.holds Tryz.pinned (OpenSpec.ofChange edgeChecksSpec)

/-- ITS FALSE NEIGHBOUR: 'it returns false'. Refute it at one input. -/
def edgeChecksWrong : ChangeSpec := { name := "edgeChecks", fn := fun _ => fun
  | [d1, d2, d3, d4, d5] => { results := [.lit (.bool false)], args := [d1, d2, d3, d4, d5] }
  | _ => none }
def EdgeChecksWrongFalsely : Prop := edgeChecksRow.holds Tryz.pinned (OpenSpec.ofChange edgeChecksWrong)

/-- 'conjoinlaw03.EdgeTurned': WHATEVER THE INPUT: true; the input reads as it did. -/
def edgeTurnedSpec : ChangeSpec := { name := "edgeTurned", fn := fun _ => fun
  | [d1, d2, d3] => { results := [.lit (.bool true)], args := [d1, d2, d3] }
  | _ => none }
def edgeTurnedRow : OpenClaim := { program := "ytccabpahfmoamaagreat", sum := "56c82071e648a7d1151a09da1362ecbc47e3361b0dea2d7bba9ff5914a5d35ce", func := "conjoin/conjoinlaw03.EdgeTurned", spec := "edgeTurned", unfollowed := true, recurses := true, plainKeys := false, apart := false }
def EdgeTurnedSaid : Prop := edgeTurnedRow.holds Tryz.pinned (OpenSpec.ofChange edgeTurnedSpec)

/-- ITS FALSE NEIGHBOUR: 'it returns false'. Refute it at one input. -/
def edgeTurnedWrong : ChangeSpec := { name := "edgeTurned", fn := fun _ => fun
  | [d1, d2, d3] => { results := [.lit (.bool false)], args := [d1, d2, d3] }
  | _ => none }
def EdgeTurnedWrongFalsely : Prop := edgeTurnedRow.holds Tryz.pinned (OpenSpec.ofChange edgeTurnedWrong)

/-- 'conjoinlaw03.EdgeParts': WHATEVER THE INPUT: true; the input reads as it did. -/
def edgePartsSpec : ChangeSpec := { name := "edgeParts", fn := fun _ => fun
  | [d1, d2, d3] => { results := [.lit (.bool true)], args := [d1, d2, d3] }
  | _ => none }
def edgePartsRow : OpenClaim := { program := "ytccabpahfmoamaagreat", sum := "56c82071e648a7d1151a09da1362ecbc47e3361b0dea2d7bba9ff5914a5d35ce", func := "conjoin/conjoinlaw03.EdgeParts", spec := "edgeParts", unfollowed := true, recurses := true, plainKeys := false, apart := false }
def EdgePartsSaid : Prop := edgePartsRow.holds Tryz.pinned (OpenSpec.ofChange edgePartsSpec)

/-- ITS FALSE NEIGHBOUR: 'it returns false'. Refute it at one input. -/
def edgePartsWrong : ChangeSpec := { name := "edgeParts", fn := fun _ => fun
  | [d1, d2, d3] => { results := [.lit (.bool false)], args := [d1, d2, d3] }
  | _ => none }
def EdgePartsWrongFalsely : Prop := edgePartsRow.holds Tryz.pinned (OpenSpec.ofChange edgePartsWrong)

/-- 'conjoinlaw03.EdgeWhole': WHATEVER THE INPUT: true; the input reads as it did. -/
def edgeWholeSpec : ChangeSpec := { name := "edgeWhole", fn := fun _ => fun
  | [d1, d2, d3] => { results := [.lit (.bool true)], args := [d1, d2, d3] }
  | _ => none }
def edgeWholeRow : OpenClaim := { program := "ytccabpahfmoamaagreat", sum := "56c82071e648a7d1151a09da1362ecbc47e3361b0dea2d7bba9ff5914a5d35ce", func := "conjoin/conjoinlaw03.EdgeWhole", spec := "edgeWhole", unfollowed := true, recurses := true, plainKeys := false, apart := false }
def EdgeWholeSaid : Prop := edgeWholeRow.holds Tryz.pinned (OpenSpec.ofChange edgeWholeSpec)

/-- ITS FALSE NEIGHBOUR: 'it returns false'. Refute it at one input. -/
def edgeWholeWrong : ChangeSpec := { name := "edgeWhole", fn := fun _ => fun
  | [d1, d2, d3] => { results := [.lit (.bool false)], args := [d1, d2, d3] }
  | _ => none }
def EdgeWholeWrongFalsely : Prop := edgeWholeRow.holds Tryz.pinned (OpenSpec.ofChange edgeWholeWrong)

/-- 'conjoinlaw03.EdgeMore': WHATEVER THE INPUT: true; the input reads as it did. -/
def edgeMoreSpec : ChangeSpec := { name := "edgeMore", fn := fun _ => fun
  | [d1, d2, d3, d4, d5] => { results := [.lit (.bool true)], args := [d1, d2, d3, d4, d5] }
  | _ => none }
def edgeMoreRow : OpenClaim := { program := "ytccabpahfmoamaagreat", sum := "56c82071e648a7d1151a09da1362ecbc47e3361b0dea2d7bba9ff5914a5d35ce", func := "conjoin/conjoinlaw03.EdgeMore", spec := "edgeMore", unfollowed := true, recurses := true, plainKeys := false, apart := false }
def EdgeMoreSaid : Prop := edgeMoreRow.holds Tryz.pinned (OpenSpec.ofChange edgeMoreSpec)

/-- ITS FALSE NEIGHBOUR: 'it returns false'. Refute it at one input. -/
def edgeMoreWrong : ChangeSpec := { name := "edgeMore", fn := fun _ => fun
  | [d1, d2, d3, d4, d5] => { results := [.lit (.bool false)], args := [d1, d2, d3, d4, d5] }
  | _ => none }
def EdgeMoreWrongFalsely : Prop := edgeMoreRow.holds Tryz.pinned (OpenSpec.ofChange edgeMoreWrong)

/-- 'conjoinlaw03.EdgeOutlines': WHATEVER THE INPUT: true; the input reads as it did. -/
def edgeOutlinesSpec : ChangeSpec := { name := "edgeOutlines", fn := fun _ => fun
  | [d1, d2, d3, d4, d5, d6] => { results := [.lit (.bool true)], args := [d1, d2, d3, d4, d5, d6] }
  | _ => none }
def edgeOutlinesRow : OpenClaim := { program := "ytccabpahfmoamaagreat", sum := "56c82071e648a7d1151a09da1362ecbc47e3361b0dea2d7bba9ff5914a5d35ce", func := "conjoin/conjoinlaw03.EdgeOutlines", spec := "edgeOutlines", unfollowed := true, recurses := true, plainKeys := false, apart := false }
def EdgeOutlinesSaid : Prop := edgeOutlinesRow.holds Tryz.pinned (OpenSpec.ofChange edgeOutlinesSpec)

/-- ITS FALSE NEIGHBOUR: 'it returns false'. Refute it at one input. -/
def edgeOutlinesWrong : ChangeSpec := { name := "edgeOutlines", fn := fun _ => fun
  | [d1, d2, d3, d4, d5, d6] => { results := [.lit (.bool false)], args := [d1, d2, d3, d4, d5, d6] }
  | _ => none }
def EdgeOutlinesWrongFalsely : Prop := edgeOutlinesRow.holds Tryz.pinned (OpenSpec.ofChange edgeOutlinesWrong)

/-- 'conjoinlaw03.EdgeFlaws': WHATEVER THE INPUT: true; the input reads as it did. -/
def edgeFlawsSpec : ChangeSpec := { name := "edgeFlaws", fn := fun _ => fun
  | [d1, d2, d3] => { results := [.lit (.bool true)], args := [d1, d2, d3] }
  | _ => none }
def edgeFlawsRow : OpenClaim := { program := "ytccabpahfmoamaagreat", sum := "56c82071e648a7d1151a09da1362ecbc47e3361b0dea2d7bba9ff5914a5d35ce", func := "conjoin/conjoinlaw03.EdgeFlaws", spec := "edgeFlaws", unfollowed := true, recurses := true, plainKeys := false, apart := false }
def EdgeFlawsSaid : Prop := edgeFlawsRow.holds Tryz.pinned (OpenSpec.ofChange edgeFlawsSpec)

/-- ITS FALSE NEIGHBOUR: 'it returns false'. Refute it at one input. -/
def edgeFlawsWrong : ChangeSpec := { name := "edgeFlaws", fn := fun _ => fun
  | [d1, d2, d3] => { results := [.lit (.bool false)], args := [d1, d2, d3] }
  | _ => none }
def EdgeFlawsWrongFalsely : Prop := edgeFlawsRow.holds Tryz.pinned (OpenSpec.ofChange edgeFlawsWrong)

/-- 'conjoinlaw03.EdgePairs': WHATEVER THE INPUT: true; the input reads as it did. -/
def edgePairsSpec : ChangeSpec := { name := "edgePairs", fn := fun _ => fun
  | [d1, d2, d3] => { results := [.lit (.bool true)], args := [d1, d2, d3] }
  | _ => none }
def edgePairsRow : OpenClaim := { program := "ytccabpahfmoamaagreat", sum := "56c82071e648a7d1151a09da1362ecbc47e3361b0dea2d7bba9ff5914a5d35ce", func := "conjoin/conjoinlaw03.EdgePairs", spec := "edgePairs", unfollowed := true, recurses := true, plainKeys := false, apart := false }
def EdgePairsSaid : Prop := edgePairsRow.holds Tryz.pinned (OpenSpec.ofChange edgePairsSpec)

/-- ITS FALSE NEIGHBOUR: 'it returns false'. Refute it at one input. -/
def edgePairsWrong : ChangeSpec := { name := "edgePairs", fn := fun _ => fun
  | [d1, d2, d3] => { results := [.lit (.bool false)], args := [d1, d2, d3] }
  | _ => none }
def EdgePairsWrongFalsely : Prop := edgePairsRow.holds Tryz.pinned (OpenSpec.ofChange edgePairsWrong)

/-- 'conjoinlaw03.EdgeFits': WHATEVER THE INPUT: true; the input reads as it did. -/
def edgeFitsSpec : ChangeSpec := { name := "edgeFits", fn := fun _ => fun
  | [d1, d2, d3, d4] => { results := [.lit (.bool true)], args := [d1, d2, d3, d4] }
  | _ => none }
def edgeFitsRow : OpenClaim := { program := "ytccabpahfmoamaagreat", sum := "56c82071e648a7d1151a09da1362ecbc47e3361b0dea2d7bba9ff5914a5d35ce", func := "conjoin/conjoinlaw03.EdgeFits", spec := "edgeFits", unfollowed := true, recurses := true, plainKeys := false, apart := false }
def EdgeFitsSaid : Prop := edgeFitsRow.holds Tryz.pinned (OpenSpec.ofChange edgeFitsSpec)

/-- ITS FALSE NEIGHBOUR: 'it returns false'. Refute it at one input. -/
def edgeFitsWrong : ChangeSpec := { name := "edgeFits", fn := fun _ => fun
  | [d1, d2, d3, d4] => { results := [.lit (.bool false)], args := [d1, d2, d3, d4] }
  | _ => none }
def EdgeFitsWrongFalsely : Prop := edgeFitsRow.holds Tryz.pinned (OpenSpec.ofChange edgeFitsWrong)

/-- 'conjoinlaw03.EdgeSides': WHATEVER THE INPUT: true; the input reads as it did. -/
def edgeSidesSpec : ChangeSpec := { name := "edgeSides", fn := fun _ => fun
  | [d1, d2, d3, d4] => { results := [.lit (.bool true)], args := [d1, d2, d3, d4] }
  | _ => none }
def edgeSidesRow : OpenClaim := { program := "ytccabpahfmoamaagreat", sum := "56c82071e648a7d1151a09da1362ecbc47e3361b0dea2d7bba9ff5914a5d35ce", func := "conjoin/conjoinlaw03.EdgeSides", spec := "edgeSides", unfollowed := true, recurses := true, plainKeys := false, apart := false }
def EdgeSidesSaid : Prop := edgeSidesRow.holds Tryz.pinned (OpenSpec.ofChange edgeSidesSpec)

/-- ITS FALSE NEIGHBOUR: 'it returns false'. Refute it at one input. -/
def edgeSidesWrong : ChangeSpec := { name := "edgeSides", fn := fun _ => fun
  | [d1, d2, d3, d4] => { results := [.lit (.bool false)], args := [d1, d2, d3, d4] }
  | _ => none }
def EdgeSidesWrongFalsely : Prop := edgeSidesRow.holds Tryz.pinned (OpenSpec.ofChange edgeSidesWrong)

/-- 'conjoinlaw03.EdgeMeets': WHATEVER THE INPUT: true; the input reads as it did. -/
def edgeMeetsSpec : ChangeSpec := { name := "edgeMeets", fn := fun _ => fun
  | [d1, d2, d3] => { results := [.lit (.bool true)], args := [d1, d2, d3] }
  | _ => none }
def edgeMeetsRow : OpenClaim := { program := "ytccabpahfmoamaagreat", sum := "56c82071e648a7d1151a09da1362ecbc47e3361b0dea2d7bba9ff5914a5d35ce", func := "conjoin/conjoinlaw03.EdgeMeets", spec := "edgeMeets", unfollowed := true, recurses := true, plainKeys := false, apart := false }
def EdgeMeetsSaid : Prop := edgeMeetsRow.holds Tryz.pinned (OpenSpec.ofChange edgeMeetsSpec)

/-- ITS FALSE NEIGHBOUR: 'it returns false'. Refute it at one input. -/
def edgeMeetsWrong : ChangeSpec := { name := "edgeMeets", fn := fun _ => fun
  | [d1, d2, d3] => { results := [.lit (.bool false)], args := [d1, d2, d3] }
  | _ => none }
def EdgeMeetsWrongFalsely : Prop := edgeMeetsRow.holds Tryz.pinned (OpenSpec.ofChange edgeMeetsWrong)

/-- 'conjoinlaw03.EdgeShared': WHATEVER THE INPUT: true; the input reads as it did. -/
def edgeSharedSpec : ChangeSpec := { name := "edgeShared", fn := fun _ => fun
  | [d1, d2, d3, d4] => { results := [.lit (.bool true)], args := [d1, d2, d3, d4] }
  | _ => none }
def edgeSharedRow : OpenClaim := { program := "ytccabpahfmoamaagreat", sum := "56c82071e648a7d1151a09da1362ecbc47e3361b0dea2d7bba9ff5914a5d35ce", func := "conjoin/conjoinlaw03.EdgeShared", spec := "edgeShared", unfollowed := true, recurses := true, plainKeys := false, apart := false }
def EdgeSharedSaid : Prop := edgeSharedRow.holds Tryz.pinned (OpenSpec.ofChange edgeSharedSpec)

/-- ITS FALSE NEIGHBOUR: 'it returns false'. Refute it at one input. -/
def edgeSharedWrong : ChangeSpec := { name := "edgeShared", fn := fun _ => fun
  | [d1, d2, d3, d4] => { results := [.lit (.bool false)], args := [d1, d2, d3, d4] }
  | _ => none }
def EdgeSharedWrongFalsely : Prop := edgeSharedRow.holds Tryz.pinned (OpenSpec.ofChange edgeSharedWrong)

/-- 'conjoinlaw03.EdgeEither': WHATEVER THE INPUT: true; the input reads as it did. -/
def edgeEitherSpec : ChangeSpec := { name := "edgeEither", fn := fun _ => fun
  | [d1, d2, d3, d4, d5] => { results := [.lit (.bool true)], args := [d1, d2, d3, d4, d5] }
  | _ => none }
def edgeEitherRow : OpenClaim := { program := "ytccabpahfmoamaagreat", sum := "56c82071e648a7d1151a09da1362ecbc47e3361b0dea2d7bba9ff5914a5d35ce", func := "conjoin/conjoinlaw03.EdgeEither", spec := "edgeEither", unfollowed := true, recurses := true, plainKeys := false, apart := false }
def EdgeEitherSaid : Prop := edgeEitherRow.holds Tryz.pinned (OpenSpec.ofChange edgeEitherSpec)

/-- ITS FALSE NEIGHBOUR: 'it returns false'. Refute it at one input. -/
def edgeEitherWrong : ChangeSpec := { name := "edgeEither", fn := fun _ => fun
  | [d1, d2, d3, d4, d5] => { results := [.lit (.bool false)], args := [d1, d2, d3, d4, d5] }
  | _ => none }
def EdgeEitherWrongFalsely : Prop := edgeEitherRow.holds Tryz.pinned (OpenSpec.ofChange edgeEitherWrong)

/- THE SECOND FORM. 'bulk': how many values and letters a reading holds, each counted each time it is reached (what is shared counts as often as it is met; a slice's spare places count too). A statement '..UptoSaid' is the law's where the arguments, and the package variables that the reading takes, are together of bulk at most 1048576: NARROWER than '..Said'. Prove '..Said' where nothing that the law and all that it calls make is longer than what came in: it says more and counts as full. Else prove '..UptoSaid'. A law counts once. -/
mutual
def uptoBulk {H : Type} : DataW H → Nat
  | .lit (.string bytes) => bytes.length + 1
  | .lit _ => 1
  | .nil => 1
  | .ptr d => uptoBulk d + 1
  | .slice elems spare => uptoBulkAll elems + uptoBulkAll spare + 1
  | .agg parts => uptoBulkAll parts + 1
  | .iface _ d => uptoBulk d + 1
  | .map entries => uptoBulkEntries entries + 1
  | .held _ => 1
def uptoBulkAll {H : Type} : List (DataW H) → Nat
  | [] => 0
  | d :: r => uptoBulk d + uptoBulkAll r
def uptoBulkEntries {H : Type} : List (Lit × DataW H) → Nat
  | [] => 0
  | x :: r => uptoBulkEntry x + uptoBulkEntries r
def uptoBulkEntry {H : Type} : Lit × DataW H → Nat
  | (.string bytes, d) => bytes.length + uptoBulk d + 1
  | (_, d) => uptoBulk d + 1
 end
def uptoSmall : (H : Type) → List (DataW H) → Bool := fun _ ds => decide (uptoBulkAll ds ≤ 1048576)
def OpenSpec.upto (s : _root_.Go.ChangeSpec) : _root_.Go.OpenSpec := { _root_.Go.OpenSpec.ofChange s with cond := some uptoSmall }

/-- 'conjoinlaw03.EdgeChecks', WHERE WHAT IT READS IS OF BULK AT MOST 1048576: true; the input reads as it did. -/
def edgeChecksUptoRow : OpenClaim := { program := "ytccabpahfmoamaagreat", sum := "56c82071e648a7d1151a09da1362ecbc47e3361b0dea2d7bba9ff5914a5d35ce", func := "conjoin/conjoinlaw03.EdgeChecks", spec := "edgeChecks", unfollowed := true, recurses := true, plainKeys := false, apart := false, narrowed := true }
def EdgeChecksUptoSaid : Prop := edgeChecksUptoRow.holds Tryz.pinned (OpenSpec.upto edgeChecksSpec)

/-- 'conjoinlaw03.EdgeTurned', WHERE WHAT IT READS IS OF BULK AT MOST 1048576: true; the input reads as it did. -/
def edgeTurnedUptoRow : OpenClaim := { program := "ytccabpahfmoamaagreat", sum := "56c82071e648a7d1151a09da1362ecbc47e3361b0dea2d7bba9ff5914a5d35ce", func := "conjoin/conjoinlaw03.EdgeTurned", spec := "edgeTurned", unfollowed := true, recurses := true, plainKeys := false, apart := false, narrowed := true }
def EdgeTurnedUptoSaid : Prop := edgeTurnedUptoRow.holds Tryz.pinned (OpenSpec.upto edgeTurnedSpec)

/-- 'conjoinlaw03.EdgeParts', WHERE WHAT IT READS IS OF BULK AT MOST 1048576: true; the input reads as it did. -/
def edgePartsUptoRow : OpenClaim := { program := "ytccabpahfmoamaagreat", sum := "56c82071e648a7d1151a09da1362ecbc47e3361b0dea2d7bba9ff5914a5d35ce", func := "conjoin/conjoinlaw03.EdgeParts", spec := "edgeParts", unfollowed := true, recurses := true, plainKeys := false, apart := false, narrowed := true }
def EdgePartsUptoSaid : Prop := edgePartsUptoRow.holds Tryz.pinned (OpenSpec.upto edgePartsSpec)

/-- 'conjoinlaw03.EdgeWhole', WHERE WHAT IT READS IS OF BULK AT MOST 1048576: true; the input reads as it did. -/
def edgeWholeUptoRow : OpenClaim := { program := "ytccabpahfmoamaagreat", sum := "56c82071e648a7d1151a09da1362ecbc47e3361b0dea2d7bba9ff5914a5d35ce", func := "conjoin/conjoinlaw03.EdgeWhole", spec := "edgeWhole", unfollowed := true, recurses := true, plainKeys := false, apart := false, narrowed := true }
def EdgeWholeUptoSaid : Prop := edgeWholeUptoRow.holds Tryz.pinned (OpenSpec.upto edgeWholeSpec)

/-- 'conjoinlaw03.EdgeMore', WHERE WHAT IT READS IS OF BULK AT MOST 1048576: true; the input reads as it did. -/
def edgeMoreUptoRow : OpenClaim := { program := "ytccabpahfmoamaagreat", sum := "56c82071e648a7d1151a09da1362ecbc47e3361b0dea2d7bba9ff5914a5d35ce", func := "conjoin/conjoinlaw03.EdgeMore", spec := "edgeMore", unfollowed := true, recurses := true, plainKeys := false, apart := false, narrowed := true }
def EdgeMoreUptoSaid : Prop := edgeMoreUptoRow.holds Tryz.pinned (OpenSpec.upto edgeMoreSpec)

/-- 'conjoinlaw03.EdgeOutlines', WHERE WHAT IT READS IS OF BULK AT MOST 1048576: true; the input reads as it did. -/
def edgeOutlinesUptoRow : OpenClaim := { program := "ytccabpahfmoamaagreat", sum := "56c82071e648a7d1151a09da1362ecbc47e3361b0dea2d7bba9ff5914a5d35ce", func := "conjoin/conjoinlaw03.EdgeOutlines", spec := "edgeOutlines", unfollowed := true, recurses := true, plainKeys := false, apart := false, narrowed := true }
def EdgeOutlinesUptoSaid : Prop := edgeOutlinesUptoRow.holds Tryz.pinned (OpenSpec.upto edgeOutlinesSpec)

/-- 'conjoinlaw03.EdgeFlaws', WHERE WHAT IT READS IS OF BULK AT MOST 1048576: true; the input reads as it did. -/
def edgeFlawsUptoRow : OpenClaim := { program := "ytccabpahfmoamaagreat", sum := "56c82071e648a7d1151a09da1362ecbc47e3361b0dea2d7bba9ff5914a5d35ce", func := "conjoin/conjoinlaw03.EdgeFlaws", spec := "edgeFlaws", unfollowed := true, recurses := true, plainKeys := false, apart := false, narrowed := true }
def EdgeFlawsUptoSaid : Prop := edgeFlawsUptoRow.holds Tryz.pinned (OpenSpec.upto edgeFlawsSpec)

/-- 'conjoinlaw03.EdgePairs', WHERE WHAT IT READS IS OF BULK AT MOST 1048576: true; the input reads as it did. -/
def edgePairsUptoRow : OpenClaim := { program := "ytccabpahfmoamaagreat", sum := "56c82071e648a7d1151a09da1362ecbc47e3361b0dea2d7bba9ff5914a5d35ce", func := "conjoin/conjoinlaw03.EdgePairs", spec := "edgePairs", unfollowed := true, recurses := true, plainKeys := false, apart := false, narrowed := true }
def EdgePairsUptoSaid : Prop := edgePairsUptoRow.holds Tryz.pinned (OpenSpec.upto edgePairsSpec)

/-- 'conjoinlaw03.EdgeFits', WHERE WHAT IT READS IS OF BULK AT MOST 1048576: true; the input reads as it did. -/
def edgeFitsUptoRow : OpenClaim := { program := "ytccabpahfmoamaagreat", sum := "56c82071e648a7d1151a09da1362ecbc47e3361b0dea2d7bba9ff5914a5d35ce", func := "conjoin/conjoinlaw03.EdgeFits", spec := "edgeFits", unfollowed := true, recurses := true, plainKeys := false, apart := false, narrowed := true }
def EdgeFitsUptoSaid : Prop := edgeFitsUptoRow.holds Tryz.pinned (OpenSpec.upto edgeFitsSpec)

/-- 'conjoinlaw03.EdgeSides', WHERE WHAT IT READS IS OF BULK AT MOST 1048576: true; the input reads as it did. -/
def edgeSidesUptoRow : OpenClaim := { program := "ytccabpahfmoamaagreat", sum := "56c82071e648a7d1151a09da1362ecbc47e3361b0dea2d7bba9ff5914a5d35ce", func := "conjoin/conjoinlaw03.EdgeSides", spec := "edgeSides", unfollowed := true, recurses := true, plainKeys := false, apart := false, narrowed := true }
def EdgeSidesUptoSaid : Prop := edgeSidesUptoRow.holds Tryz.pinned (OpenSpec.upto edgeSidesSpec)

/-- 'conjoinlaw03.EdgeMeets', WHERE WHAT IT READS IS OF BULK AT MOST 1048576: true; the input reads as it did. -/
def edgeMeetsUptoRow : OpenClaim := { program := "ytccabpahfmoamaagreat", sum := "56c82071e648a7d1151a09da1362ecbc47e3361b0dea2d7bba9ff5914a5d35ce", func := "conjoin/conjoinlaw03.EdgeMeets", spec := "edgeMeets", unfollowed := true, recurses := true, plainKeys := false, apart := false, narrowed := true }
def EdgeMeetsUptoSaid : Prop := edgeMeetsUptoRow.holds Tryz.pinned (OpenSpec.upto edgeMeetsSpec)

/-- 'conjoinlaw03.EdgeShared', WHERE WHAT IT READS IS OF BULK AT MOST 1048576: true; the input reads as it did. -/
def edgeSharedUptoRow : OpenClaim := { program := "ytccabpahfmoamaagreat", sum := "56c82071e648a7d1151a09da1362ecbc47e3361b0dea2d7bba9ff5914a5d35ce", func := "conjoin/conjoinlaw03.EdgeShared", spec := "edgeShared", unfollowed := true, recurses := true, plainKeys := false, apart := false, narrowed := true }
def EdgeSharedUptoSaid : Prop := edgeSharedUptoRow.holds Tryz.pinned (OpenSpec.upto edgeSharedSpec)

/-- 'conjoinlaw03.EdgeEither', WHERE WHAT IT READS IS OF BULK AT MOST 1048576: true; the input reads as it did. -/
def edgeEitherUptoRow : OpenClaim := { program := "ytccabpahfmoamaagreat", sum := "56c82071e648a7d1151a09da1362ecbc47e3361b0dea2d7bba9ff5914a5d35ce", func := "conjoin/conjoinlaw03.EdgeEither", spec := "edgeEither", unfollowed := true, recurses := true, plainKeys := false, apart := false, narrowed := true }
def EdgeEitherUptoSaid : Prop := edgeEitherUptoRow.holds Tryz.pinned (OpenSpec.upto edgeEitherSpec)

end Rows
end Go.Proofs.YtccabpahfmoamaaGreat

/-
  No cell of these rows narrows 'for every input' (looked for: loops, veiled, ifaces, maps, wideKeys, modest, calm, conditions, laid).
  DERIVED. THE GIVEN ROWS OF THIS SEAT. 17 by the template 'for every input the law returns true; each argument reads behind the call as it read before'; 0 by the template 'total and deterministic' (their statements: YtelnkflmnbhclaaGreatTotals.lean).
  GIVEN WITH THE SEED: the statements are not yours to turn. If you find one false, say at which input.
  Laid BY PROGRAM, IN A SANDBOX (cutbox-rows.mjs): the forced cells as the released guide's own fill.sh prints them over the translation 94dc9e47e2a54ec4… (all of the seat's roots in one cut). By AI agents, Wed Nov 11 2026. No macro, syntax, notation, axiom, sorry.
-/
import Derived.Test.YtelnkflmnbhclaaGreatChecked
import GoSem.Claim
import GoSem.ClaimJoined
import GoSem.ClaimMapViews
import Derived.JoinedTies
import Derived.KernelRfl
namespace Go.Proofs.YtelnkflmnbhclaaGreat
/- THE CELL 'sum', in the pinned program and in every row, IS THE sha256 OF THE DUMP (.gsa) THAT YtelnkflmnbhclaaGreatProg.lean LOADS. Nothing in Lean hashes anything: it is a label: what it is worth is what the hold of that sum in a sandbox is worth. -/
noncomputable def Tryz.pinned : Pinned := { name := "ytelnkflmnbhclaagreat", sum := "94dc9e47e2a54ec44b28d0fb7943ff4f3b2b7315e7b296501068d02f8a53a073", checked := Tryz.checked }
namespace Rows
def none {H : Type} : Left H := { results := [], args := [] }

/-- 'conjoinlaw08.StratumMost': WHATEVER THE INPUT: true; the input reads as it did. -/
def stratumMostSpec : ChangeSpec := { name := "stratumMost", fn := fun _ => fun
  | [d] => { results := [.lit (.bool true)], args := [d] }
  | _ => none }
def stratumMostRow : OpenClaim := { program := "ytelnkflmnbhclaagreat", sum := "94dc9e47e2a54ec44b28d0fb7943ff4f3b2b7315e7b296501068d02f8a53a073", func := "conjoin/conjoinlaw08.StratumMost", spec := "stratumMost", unfollowed := true, recurses := true, plainKeys := false, apart := false }
def StratumMostSaid : Prop := stratumMostRow.holds Tryz.pinned (OpenSpec.ofChange stratumMostSpec)

/-- ITS FALSE NEIGHBOUR: 'it returns false'. Refute it at one input. -/
def stratumMostWrong : ChangeSpec := { name := "stratumMost", fn := fun _ => fun
  | [d] => { results := [.lit (.bool false)], args := [d] }
  | _ => none }
def StratumMostWrongFalsely : Prop := stratumMostRow.holds Tryz.pinned (OpenSpec.ofChange stratumMostWrong)

/-- 'conjoinlaw08.StratumEarlier': WHATEVER THE INPUT: true; the input reads as it did. -/
def stratumEarlierSpec : ChangeSpec := { name := "stratumEarlier", fn := fun _ => fun
  | [d1, d2, d3, d4, d5] => { results := [.lit (.bool true)], args := [d1, d2, d3, d4, d5] }
  | _ => none }
def stratumEarlierRow : OpenClaim := { program := "ytelnkflmnbhclaagreat", sum := "94dc9e47e2a54ec44b28d0fb7943ff4f3b2b7315e7b296501068d02f8a53a073", func := "conjoin/conjoinlaw08.StratumEarlier", spec := "stratumEarlier", unfollowed := true, recurses := true, plainKeys := false, apart := false }
def StratumEarlierSaid : Prop := stratumEarlierRow.holds Tryz.pinned (OpenSpec.ofChange stratumEarlierSpec)

/-- ITS FALSE NEIGHBOUR: 'it returns false'. Refute it at one input. -/
def stratumEarlierWrong : ChangeSpec := { name := "stratumEarlier", fn := fun _ => fun
  | [d1, d2, d3, d4, d5] => { results := [.lit (.bool false)], args := [d1, d2, d3, d4, d5] }
  | _ => none }
def StratumEarlierWrongFalsely : Prop := stratumEarlierRow.holds Tryz.pinned (OpenSpec.ofChange stratumEarlierWrong)

/-- 'conjoinlaw08.StratumPlaces': WHATEVER THE INPUT: true; the input reads as it did. -/
def stratumPlacesSpec : ChangeSpec := { name := "stratumPlaces", fn := fun _ => fun
  | [d1, d2, d3, d4] => { results := [.lit (.bool true)], args := [d1, d2, d3, d4] }
  | _ => none }
def stratumPlacesRow : OpenClaim := { program := "ytelnkflmnbhclaagreat", sum := "94dc9e47e2a54ec44b28d0fb7943ff4f3b2b7315e7b296501068d02f8a53a073", func := "conjoin/conjoinlaw08.StratumPlaces", spec := "stratumPlaces", unfollowed := true, recurses := true, plainKeys := false, apart := false }
def StratumPlacesSaid : Prop := stratumPlacesRow.holds Tryz.pinned (OpenSpec.ofChange stratumPlacesSpec)

/-- ITS FALSE NEIGHBOUR: 'it returns false'. Refute it at one input. -/
def stratumPlacesWrong : ChangeSpec := { name := "stratumPlaces", fn := fun _ => fun
  | [d1, d2, d3, d4] => { results := [.lit (.bool false)], args := [d1, d2, d3, d4] }
  | _ => none }
def StratumPlacesWrongFalsely : Prop := stratumPlacesRow.holds Tryz.pinned (OpenSpec.ofChange stratumPlacesWrong)

/-- 'conjoinlaw08.StratumNarrower': WHATEVER THE INPUT: true; the input reads as it did. -/
def stratumNarrowerSpec : ChangeSpec := { name := "stratumNarrower", fn := fun _ => fun
  | [d1, d2, d3, d4, d5, d6] => { results := [.lit (.bool true)], args := [d1, d2, d3, d4, d5, d6] }
  | _ => none }
def stratumNarrowerRow : OpenClaim := { program := "ytelnkflmnbhclaagreat", sum := "94dc9e47e2a54ec44b28d0fb7943ff4f3b2b7315e7b296501068d02f8a53a073", func := "conjoin/conjoinlaw08.StratumNarrower", spec := "stratumNarrower", unfollowed := true, recurses := true, plainKeys := false, apart := false }
def StratumNarrowerSaid : Prop := stratumNarrowerRow.holds Tryz.pinned (OpenSpec.ofChange stratumNarrowerSpec)

/-- ITS FALSE NEIGHBOUR: 'it returns false'. Refute it at one input. -/
def stratumNarrowerWrong : ChangeSpec := { name := "stratumNarrower", fn := fun _ => fun
  | [d1, d2, d3, d4, d5, d6] => { results := [.lit (.bool false)], args := [d1, d2, d3, d4, d5, d6] }
  | _ => none }
def StratumNarrowerWrongFalsely : Prop := stratumNarrowerRow.holds Tryz.pinned (OpenSpec.ofChange stratumNarrowerWrong)

/-- 'conjoinlaw08.StratumCheapest': WHATEVER THE INPUT: true; the input reads as it did. -/
def stratumCheapestSpec : ChangeSpec := { name := "stratumCheapest", fn := fun _ => fun
  | [d1, d2, d3] => { results := [.lit (.bool true)], args := [d1, d2, d3] }
  | _ => none }
def stratumCheapestRow : OpenClaim := { program := "ytelnkflmnbhclaagreat", sum := "94dc9e47e2a54ec44b28d0fb7943ff4f3b2b7315e7b296501068d02f8a53a073", func := "conjoin/conjoinlaw08.StratumCheapest", spec := "stratumCheapest", unfollowed := true, recurses := true, plainKeys := false, apart := false }
def StratumCheapestSaid : Prop := stratumCheapestRow.holds Tryz.pinned (OpenSpec.ofChange stratumCheapestSpec)

/-- ITS FALSE NEIGHBOUR: 'it returns false'. Refute it at one input. -/
def stratumCheapestWrong : ChangeSpec := { name := "stratumCheapest", fn := fun _ => fun
  | [d1, d2, d3] => { results := [.lit (.bool false)], args := [d1, d2, d3] }
  | _ => none }
def StratumCheapestWrongFalsely : Prop := stratumCheapestRow.holds Tryz.pinned (OpenSpec.ofChange stratumCheapestWrong)

/-- 'conjoinlaw08.StratumOrder': WHATEVER THE INPUT: true; the input reads as it did. -/
def stratumOrderSpec : ChangeSpec := { name := "stratumOrder", fn := fun _ => fun
  | [d1, d2, d3, d4, d5] => { results := [.lit (.bool true)], args := [d1, d2, d3, d4, d5] }
  | _ => none }
def stratumOrderRow : OpenClaim := { program := "ytelnkflmnbhclaagreat", sum := "94dc9e47e2a54ec44b28d0fb7943ff4f3b2b7315e7b296501068d02f8a53a073", func := "conjoin/conjoinlaw08.StratumOrder", spec := "stratumOrder", unfollowed := true, recurses := true, plainKeys := false, apart := false }
def StratumOrderSaid : Prop := stratumOrderRow.holds Tryz.pinned (OpenSpec.ofChange stratumOrderSpec)

/-- ITS FALSE NEIGHBOUR: 'it returns false'. Refute it at one input. -/
def stratumOrderWrong : ChangeSpec := { name := "stratumOrder", fn := fun _ => fun
  | [d1, d2, d3, d4, d5] => { results := [.lit (.bool false)], args := [d1, d2, d3, d4, d5] }
  | _ => none }
def StratumOrderWrongFalsely : Prop := stratumOrderRow.holds Tryz.pinned (OpenSpec.ofChange stratumOrderWrong)

/-- 'conjoinlaw08.StratumChecks': WHATEVER THE INPUT: true; the input reads as it did. -/
def stratumChecksSpec : ChangeSpec := { name := "stratumChecks", fn := fun _ => fun
  | [d1, d2, d3, d4] => { results := [.lit (.bool true)], args := [d1, d2, d3, d4] }
  | _ => none }
def stratumChecksRow : OpenClaim := { program := "ytelnkflmnbhclaagreat", sum := "94dc9e47e2a54ec44b28d0fb7943ff4f3b2b7315e7b296501068d02f8a53a073", func := "conjoin/conjoinlaw08.StratumChecks", spec := "stratumChecks", unfollowed := true, recurses := true, plainKeys := false, apart := false }
def StratumChecksSaid : Prop := stratumChecksRow.holds Tryz.pinned (OpenSpec.ofChange stratumChecksSpec)

/-- ITS FALSE NEIGHBOUR: 'it returns false'. Refute it at one input. -/
def stratumChecksWrong : ChangeSpec := { name := "stratumChecks", fn := fun _ => fun
  | [d1, d2, d3, d4] => { results := [.lit (.bool false)], args := [d1, d2, d3, d4] }
  | _ => none }
def StratumChecksWrongFalsely : Prop := stratumChecksRow.holds Tryz.pinned (OpenSpec.ofChange stratumChecksWrong)

/-- 'conjoinlaw08.StratumMemory': WHATEVER THE INPUT: true; the input reads as it did. -/
def stratumMemorySpec : ChangeSpec := { name := "stratumMemory", fn := fun _ => fun
  | [d1, d2, d3, d4] => { results := [.lit (.bool true)], args := [d1, d2, d3, d4] }
  | _ => none }
def stratumMemoryRow : OpenClaim := { program := "ytelnkflmnbhclaagreat", sum := "94dc9e47e2a54ec44b28d0fb7943ff4f3b2b7315e7b296501068d02f8a53a073", func := "conjoin/conjoinlaw08.StratumMemory", spec := "stratumMemory", unfollowed := true, recurses := true, plainKeys := false, apart := false }
def StratumMemorySaid : Prop := stratumMemoryRow.holds Tryz.pinned (OpenSpec.ofChange stratumMemorySpec)

/-- ITS FALSE NEIGHBOUR: 'it returns false'. Refute it at one input. -/
def stratumMemoryWrong : ChangeSpec := { name := "stratumMemory", fn := fun _ => fun
  | [d1, d2, d3, d4] => { results := [.lit (.bool false)], args := [d1, d2, d3, d4] }
  | _ => none }
def StratumMemoryWrongFalsely : Prop := stratumMemoryRow.holds Tryz.pinned (OpenSpec.ofChange stratumMemoryWrong)

/-- 'conjoinlaw08.StratumBetween': WHATEVER THE INPUT: true; the input reads as it did. -/
def stratumBetweenSpec : ChangeSpec := { name := "stratumBetween", fn := fun _ => fun
  | [d1, d2, d3, d4, d5, d6] => { results := [.lit (.bool true)], args := [d1, d2, d3, d4, d5, d6] }
  | _ => none }
def stratumBetweenRow : OpenClaim := { program := "ytelnkflmnbhclaagreat", sum := "94dc9e47e2a54ec44b28d0fb7943ff4f3b2b7315e7b296501068d02f8a53a073", func := "conjoin/conjoinlaw08.StratumBetween", spec := "stratumBetween", unfollowed := true, recurses := true, plainKeys := false, apart := false }
def StratumBetweenSaid : Prop := stratumBetweenRow.holds Tryz.pinned (OpenSpec.ofChange stratumBetweenSpec)

/-- ITS FALSE NEIGHBOUR: 'it returns false'. Refute it at one input. -/
def stratumBetweenWrong : ChangeSpec := { name := "stratumBetween", fn := fun _ => fun
  | [d1, d2, d3, d4, d5, d6] => { results := [.lit (.bool false)], args := [d1, d2, d3, d4, d5, d6] }
  | _ => none }
def StratumBetweenWrongFalsely : Prop := stratumBetweenRow.holds Tryz.pinned (OpenSpec.ofChange stratumBetweenWrong)

/-- 'conjoinlaw08.StratumDates': WHATEVER THE INPUT: true; the input reads as it did. -/
def stratumDatesSpec : ChangeSpec := { name := "stratumDates", fn := fun _ => fun
  | [d1, d2, d3, d4, d5] => { results := [.lit (.bool true)], args := [d1, d2, d3, d4, d5] }
  | _ => none }
def stratumDatesRow : OpenClaim := { program := "ytelnkflmnbhclaagreat", sum := "94dc9e47e2a54ec44b28d0fb7943ff4f3b2b7315e7b296501068d02f8a53a073", func := "conjoin/conjoinlaw08.StratumDates", spec := "stratumDates", unfollowed := true, recurses := true, plainKeys := false, apart := false }
def StratumDatesSaid : Prop := stratumDatesRow.holds Tryz.pinned (OpenSpec.ofChange stratumDatesSpec)

/-- ITS FALSE NEIGHBOUR: 'it returns false'. Refute it at one input. -/
def stratumDatesWrong : ChangeSpec := { name := "stratumDates", fn := fun _ => fun
  | [d1, d2, d3, d4, d5] => { results := [.lit (.bool false)], args := [d1, d2, d3, d4, d5] }
  | _ => none }
def StratumDatesWrongFalsely : Prop := stratumDatesRow.holds Tryz.pinned (OpenSpec.ofChange stratumDatesWrong)

/-- 'conjoinlaw08.StratumConflicts': WHATEVER THE INPUT: true; the input reads as it did. -/
def stratumConflictsSpec : ChangeSpec := { name := "stratumConflicts", fn := fun _ => fun
  | [d1, d2, d3, d4, d5] => { results := [.lit (.bool true)], args := [d1, d2, d3, d4, d5] }
  | _ => none }
def stratumConflictsRow : OpenClaim := { program := "ytelnkflmnbhclaagreat", sum := "94dc9e47e2a54ec44b28d0fb7943ff4f3b2b7315e7b296501068d02f8a53a073", func := "conjoin/conjoinlaw08.StratumConflicts", spec := "stratumConflicts", unfollowed := true, recurses := true, plainKeys := false, apart := false }
def StratumConflictsSaid : Prop := stratumConflictsRow.holds Tryz.pinned (OpenSpec.ofChange stratumConflictsSpec)

/-- ITS FALSE NEIGHBOUR: 'it returns false'. Refute it at one input. -/
def stratumConflictsWrong : ChangeSpec := { name := "stratumConflicts", fn := fun _ => fun
  | [d1, d2, d3, d4, d5] => { results := [.lit (.bool false)], args := [d1, d2, d3, d4, d5] }
  | _ => none }
def StratumConflictsWrongFalsely : Prop := stratumConflictsRow.holds Tryz.pinned (OpenSpec.ofChange stratumConflictsWrong)

/-- 'conjoinlaw08.StratumSharp': WHATEVER THE INPUT: true; the input reads as it did. -/
def stratumSharpSpec : ChangeSpec := { name := "stratumSharp", fn := fun _ => fun
  | [d1, d2, d3, d4, d5, d6, d7, d8] => { results := [.lit (.bool true)], args := [d1, d2, d3, d4, d5, d6, d7, d8] }
  | _ => none }
def stratumSharpRow : OpenClaim := { program := "ytelnkflmnbhclaagreat", sum := "94dc9e47e2a54ec44b28d0fb7943ff4f3b2b7315e7b296501068d02f8a53a073", func := "conjoin/conjoinlaw08.StratumSharp", spec := "stratumSharp", unfollowed := true, recurses := true, plainKeys := false, apart := false }
def StratumSharpSaid : Prop := stratumSharpRow.holds Tryz.pinned (OpenSpec.ofChange stratumSharpSpec)

/-- ITS FALSE NEIGHBOUR: 'it returns false'. Refute it at one input. -/
def stratumSharpWrong : ChangeSpec := { name := "stratumSharp", fn := fun _ => fun
  | [d1, d2, d3, d4, d5, d6, d7, d8] => { results := [.lit (.bool false)], args := [d1, d2, d3, d4, d5, d6, d7, d8] }
  | _ => none }
def StratumSharpWrongFalsely : Prop := stratumSharpRow.holds Tryz.pinned (OpenSpec.ofChange stratumSharpWrong)

/-- 'conjoinlaw08.StratumEither': WHATEVER THE INPUT: true; the input reads as it did. -/
def stratumEitherSpec : ChangeSpec := { name := "stratumEither", fn := fun _ => fun
  | [d1, d2, d3, d4, d5, d6] => { results := [.lit (.bool true)], args := [d1, d2, d3, d4, d5, d6] }
  | _ => none }
def stratumEitherRow : OpenClaim := { program := "ytelnkflmnbhclaagreat", sum := "94dc9e47e2a54ec44b28d0fb7943ff4f3b2b7315e7b296501068d02f8a53a073", func := "conjoin/conjoinlaw08.StratumEither", spec := "stratumEither", unfollowed := true, recurses := true, plainKeys := false, apart := false }
def StratumEitherSaid : Prop := stratumEitherRow.holds Tryz.pinned (OpenSpec.ofChange stratumEitherSpec)

/-- ITS FALSE NEIGHBOUR: 'it returns false'. Refute it at one input. -/
def stratumEitherWrong : ChangeSpec := { name := "stratumEither", fn := fun _ => fun
  | [d1, d2, d3, d4, d5, d6] => { results := [.lit (.bool false)], args := [d1, d2, d3, d4, d5, d6] }
  | _ => none }
def StratumEitherWrongFalsely : Prop := stratumEitherRow.holds Tryz.pinned (OpenSpec.ofChange stratumEitherWrong)

/-- 'conjoinlaw08.StratumLeast': WHATEVER THE INPUT: true; the input reads as it did. -/
def stratumLeastSpec : ChangeSpec := { name := "stratumLeast", fn := fun _ => fun
  | [d1, d2, d3, d4, d5, d6] => { results := [.lit (.bool true)], args := [d1, d2, d3, d4, d5, d6] }
  | _ => none }
def stratumLeastRow : OpenClaim := { program := "ytelnkflmnbhclaagreat", sum := "94dc9e47e2a54ec44b28d0fb7943ff4f3b2b7315e7b296501068d02f8a53a073", func := "conjoin/conjoinlaw08.StratumLeast", spec := "stratumLeast", unfollowed := true, recurses := true, plainKeys := false, apart := false }
def StratumLeastSaid : Prop := stratumLeastRow.holds Tryz.pinned (OpenSpec.ofChange stratumLeastSpec)

/-- ITS FALSE NEIGHBOUR: 'it returns false'. Refute it at one input. -/
def stratumLeastWrong : ChangeSpec := { name := "stratumLeast", fn := fun _ => fun
  | [d1, d2, d3, d4, d5, d6] => { results := [.lit (.bool false)], args := [d1, d2, d3, d4, d5, d6] }
  | _ => none }
def StratumLeastWrongFalsely : Prop := stratumLeastRow.holds Tryz.pinned (OpenSpec.ofChange stratumLeastWrong)

/-- 'conjoinlaw08.StratumProofs': WHATEVER THE INPUT: true; the input reads as it did. -/
def stratumProofsSpec : ChangeSpec := { name := "stratumProofs", fn := fun _ => fun
  | [d1, d2, d3, d4, d5] => { results := [.lit (.bool true)], args := [d1, d2, d3, d4, d5] }
  | _ => none }
def stratumProofsRow : OpenClaim := { program := "ytelnkflmnbhclaagreat", sum := "94dc9e47e2a54ec44b28d0fb7943ff4f3b2b7315e7b296501068d02f8a53a073", func := "conjoin/conjoinlaw08.StratumProofs", spec := "stratumProofs", unfollowed := true, recurses := true, plainKeys := false, apart := false }
def StratumProofsSaid : Prop := stratumProofsRow.holds Tryz.pinned (OpenSpec.ofChange stratumProofsSpec)

/-- ITS FALSE NEIGHBOUR: 'it returns false'. Refute it at one input. -/
def stratumProofsWrong : ChangeSpec := { name := "stratumProofs", fn := fun _ => fun
  | [d1, d2, d3, d4, d5] => { results := [.lit (.bool false)], args := [d1, d2, d3, d4, d5] }
  | _ => none }
def StratumProofsWrongFalsely : Prop := stratumProofsRow.holds Tryz.pinned (OpenSpec.ofChange stratumProofsWrong)

/-- 'conjoinlaw08.StratumKnown': WHATEVER THE INPUT: true; the input reads as it did. -/
def stratumKnownSpec : ChangeSpec := { name := "stratumKnown", fn := fun _ => fun
  | [d1, d2, d3, d4, d5] => { results := [.lit (.bool true)], args := [d1, d2, d3, d4, d5] }
  | _ => none }
def stratumKnownRow : OpenClaim := { program := "ytelnkflmnbhclaagreat", sum := "94dc9e47e2a54ec44b28d0fb7943ff4f3b2b7315e7b296501068d02f8a53a073", func := "conjoin/conjoinlaw08.StratumKnown", spec := "stratumKnown", unfollowed := true, recurses := true, plainKeys := false, apart := false }
def StratumKnownSaid : Prop := stratumKnownRow.holds Tryz.pinned (OpenSpec.ofChange stratumKnownSpec)

/-- ITS FALSE NEIGHBOUR: 'it returns false'. Refute it at one input. -/
def stratumKnownWrong : ChangeSpec := { name := "stratumKnown", fn := fun _ => fun
  | [d1, d2, d3, d4, d5] => { results := [.lit (.bool false)], args := [d1, d2, d3, d4, d5] }
  | _ => none }
def StratumKnownWrongFalsely : Prop := stratumKnownRow.holds Tryz.pinned (OpenSpec.ofChange stratumKnownWrong)

/-- 'conjoinlaw08.StratumReached': WHATEVER THE INPUT: true; the input reads as it did. -/
def stratumReachedSpec : ChangeSpec := { name := "stratumReached", fn := fun _ => fun
  | [d1, d2, d3, d4] => { results := [.lit (.bool true)], args := [d1, d2, d3, d4] }
  | _ => none }
def stratumReachedRow : OpenClaim := { program := "ytelnkflmnbhclaagreat", sum := "94dc9e47e2a54ec44b28d0fb7943ff4f3b2b7315e7b296501068d02f8a53a073", func := "conjoin/conjoinlaw08.StratumReached", spec := "stratumReached", unfollowed := true, recurses := true, plainKeys := false, apart := false }
def StratumReachedSaid : Prop := stratumReachedRow.holds Tryz.pinned (OpenSpec.ofChange stratumReachedSpec)

/-- ITS FALSE NEIGHBOUR: 'it returns false'. Refute it at one input. -/
def stratumReachedWrong : ChangeSpec := { name := "stratumReached", fn := fun _ => fun
  | [d1, d2, d3, d4] => { results := [.lit (.bool false)], args := [d1, d2, d3, d4] }
  | _ => none }
def StratumReachedWrongFalsely : Prop := stratumReachedRow.holds Tryz.pinned (OpenSpec.ofChange stratumReachedWrong)

/- THE SECOND FORM. 'bulk': how many values and letters a reading holds, each counted each time it is reached (what is shared counts as often as it is met; a slice's spare places count too). A statement '..UptoSaid' is the law's where the arguments, and the package variables that the reading takes, are together of bulk at most 1048576: NARROWER than '..Said'. Prove '..Said' where nothing that the law and all that it calls make is longer than what came in: it says more and counts as full. Else prove '..UptoSaid'. A law counts once. -/
mutual
def uptoBulk {H : Type} : DataW H → Nat
  | .lit (.string bytes) => bytes.length + 1
  | .lit _ => 1
  | .nil => 1
  | .ptr d => uptoBulk d + 1
  | .slice elems spare => uptoBulkAll elems + uptoBulkAll spare + 1
  | .agg parts => uptoBulkAll parts + 1
  | .iface _ d => uptoBulk d + 1
  | .map entries => uptoBulkEntries entries + 1
  | .held _ => 1
def uptoBulkAll {H : Type} : List (DataW H) → Nat
  | [] => 0
  | d :: r => uptoBulk d + uptoBulkAll r
def uptoBulkEntries {H : Type} : List (Lit × DataW H) → Nat
  | [] => 0
  | x :: r => uptoBulkEntry x + uptoBulkEntries r
def uptoBulkEntry {H : Type} : Lit × DataW H → Nat
  | (.string bytes, d) => bytes.length + uptoBulk d + 1
  | (_, d) => uptoBulk d + 1
 end
def uptoSmall : (H : Type) → List (DataW H) → Bool := fun _ ds => decide (uptoBulkAll ds ≤ 1048576)
def OpenSpec.upto (s : _root_.Go.ChangeSpec) : _root_.Go.OpenSpec := { _root_.Go.OpenSpec.ofChange s with cond := some uptoSmall }

/-- 'conjoinlaw08.StratumMost', WHERE WHAT IT READS IS OF BULK AT MOST 1048576: true; the input reads as it did. -/
def stratumMostUptoRow : OpenClaim := { program := "ytelnkflmnbhclaagreat", sum := "94dc9e47e2a54ec44b28d0fb7943ff4f3b2b7315e7b296501068d02f8a53a073", func := "conjoin/conjoinlaw08.StratumMost", spec := "stratumMost", unfollowed := true, recurses := true, plainKeys := false, apart := false, narrowed := true }
def StratumMostUptoSaid : Prop := stratumMostUptoRow.holds Tryz.pinned (OpenSpec.upto stratumMostSpec)

/-- 'conjoinlaw08.StratumEarlier', WHERE WHAT IT READS IS OF BULK AT MOST 1048576: true; the input reads as it did. -/
def stratumEarlierUptoRow : OpenClaim := { program := "ytelnkflmnbhclaagreat", sum := "94dc9e47e2a54ec44b28d0fb7943ff4f3b2b7315e7b296501068d02f8a53a073", func := "conjoin/conjoinlaw08.StratumEarlier", spec := "stratumEarlier", unfollowed := true, recurses := true, plainKeys := false, apart := false, narrowed := true }
def StratumEarlierUptoSaid : Prop := stratumEarlierUptoRow.holds Tryz.pinned (OpenSpec.upto stratumEarlierSpec)

/-- 'conjoinlaw08.StratumPlaces', WHERE WHAT IT READS IS OF BULK AT MOST 1048576: true; the input reads as it did. -/
def stratumPlacesUptoRow : OpenClaim := { program := "ytelnkflmnbhclaagreat", sum := "94dc9e47e2a54ec44b28d0fb7943ff4f3b2b7315e7b296501068d02f8a53a073", func := "conjoin/conjoinlaw08.StratumPlaces", spec := "stratumPlaces", unfollowed := true, recurses := true, plainKeys := false, apart := false, narrowed := true }
def StratumPlacesUptoSaid : Prop := stratumPlacesUptoRow.holds Tryz.pinned (OpenSpec.upto stratumPlacesSpec)

/-- 'conjoinlaw08.StratumNarrower', WHERE WHAT IT READS IS OF BULK AT MOST 1048576: true; the input reads as it did. -/
def stratumNarrowerUptoRow : OpenClaim := { program := "ytelnkflmnbhclaagreat", sum := "94dc9e47e2a54ec44b28d0fb7943ff4f3b2b7315e7b296501068d02f8a53a073", func := "conjoin/conjoinlaw08.StratumNarrower", spec := "stratumNarrower", unfollowed := true, recurses := true, plainKeys := false, apart := false, narrowed := true }
def StratumNarrowerUptoSaid : Prop := stratumNarrowerUptoRow.holds Tryz.pinned (OpenSpec.upto stratumNarrowerSpec)

/-- 'conjoinlaw08.StratumCheapest', WHERE WHAT IT READS IS OF BULK AT MOST 1048576: true; the input reads as it did. -/
def stratumCheapestUptoRow : OpenClaim := { program := "ytelnkflmnbhclaagreat", sum := "94dc9e47e2a54ec44b28d0fb7943ff4f3b2b7315e7b296501068d02f8a53a073", func := "conjoin/conjoinlaw08.StratumCheapest", spec := "stratumCheapest", unfollowed := true, recurses := true, plainKeys := false, apart := false, narrowed := true }
def StratumCheapestUptoSaid : Prop := stratumCheapestUptoRow.holds Tryz.pinned (OpenSpec.upto stratumCheapestSpec)

/-- 'conjoinlaw08.StratumOrder', WHERE WHAT IT READS IS OF BULK AT MOST 1048576: true; the input reads as it did. -/
def stratumOrderUptoRow : OpenClaim := { program := "ytelnkflmnbhclaagreat", sum := "94dc9e47e2a54ec44b28d0fb7943ff4f3b2b7315e7b296501068d02f8a53a073", func := "conjoin/conjoinlaw08.StratumOrder", spec := "stratumOrder", unfollowed := true, recurses := true, plainKeys := false, apart := false, narrowed := true }
def StratumOrderUptoSaid : Prop := stratumOrderUptoRow.holds Tryz.pinned (OpenSpec.upto stratumOrderSpec)

/-- 'conjoinlaw08.StratumChecks', WHERE WHAT IT READS IS OF BULK AT MOST 1048576: true; the input reads as it did. -/
def stratumChecksUptoRow : OpenClaim := { program := "ytelnkflmnbhclaagreat", sum := "94dc9e47e2a54ec44b28d0fb7943ff4f3b2b7315e7b296501068d02f8a53a073", func := "conjoin/conjoinlaw08.StratumChecks", spec := "stratumChecks", unfollowed := true, recurses := true, plainKeys := false, apart := false, narrowed := true }
def StratumChecksUptoSaid : Prop := stratumChecksUptoRow.holds Tryz.pinned (OpenSpec.upto stratumChecksSpec)

/-- 'conjoinlaw08.StratumMemory', WHERE WHAT IT READS IS OF BULK AT MOST 1048576: true; the input reads as it did. -/
def stratumMemoryUptoRow : OpenClaim := { program := "ytelnkflmnbhclaagreat", sum := "94dc9e47e2a54ec44b28d0fb7943ff4f3b2b7315e7b296501068d02f8a53a073", func := "conjoin/conjoinlaw08.StratumMemory", spec := "stratumMemory", unfollowed := true, recurses := true, plainKeys := false, apart := false, narrowed := true }
def StratumMemoryUptoSaid : Prop := stratumMemoryUptoRow.holds Tryz.pinned (OpenSpec.upto stratumMemorySpec)

/-- 'conjoinlaw08.StratumBetween', WHERE WHAT IT READS IS OF BULK AT MOST 1048576: true; the input reads as it did. -/
def stratumBetweenUptoRow : OpenClaim := { program := "ytelnkflmnbhclaagreat", sum := "94dc9e47e2a54ec44b28d0fb7943ff4f3b2b7315e7b296501068d02f8a53a073", func := "conjoin/conjoinlaw08.StratumBetween", spec := "stratumBetween", unfollowed := true, recurses := true, plainKeys := false, apart := false, narrowed := true }
def StratumBetweenUptoSaid : Prop := stratumBetweenUptoRow.holds Tryz.pinned (OpenSpec.upto stratumBetweenSpec)

/-- 'conjoinlaw08.StratumDates', WHERE WHAT IT READS IS OF BULK AT MOST 1048576: true; the input reads as it did. -/
def stratumDatesUptoRow : OpenClaim := { program := "ytelnkflmnbhclaagreat", sum := "94dc9e47e2a54ec44b28d0fb7943ff4f3b2b7315e7b296501068d02f8a53a073", func := "conjoin/conjoinlaw08.StratumDates", spec := "stratumDates", unfollowed := true, recurses := true, plainKeys := false, apart := false, narrowed := true }
def StratumDatesUptoSaid : Prop := stratumDatesUptoRow.holds Tryz.pinned (OpenSpec.upto stratumDatesSpec)

/-- 'conjoinlaw08.StratumConflicts', WHERE WHAT IT READS IS OF BULK AT MOST 1048576: true; the input reads as it did. -/
def stratumConflictsUptoRow : OpenClaim := { program := "ytelnkflmnbhclaagreat", sum := "94dc9e47e2a54ec44b28d0fb7943ff4f3b2b7315e7b296501068d02f8a53a073", func := "conjoin/conjoinlaw08.StratumConflicts", spec := "stratumConflicts", unfollowed := true, recurses := true, plainKeys := false, apart := false, narrowed := true }
def StratumConflictsUptoSaid : Prop := stratumConflictsUptoRow.holds Tryz.pinned (OpenSpec.upto stratumConflictsSpec)

/-- 'conjoinlaw08.StratumSharp', WHERE WHAT IT READS IS OF BULK AT MOST 1048576: true; the input reads as it did. -/
def stratumSharpUptoRow : OpenClaim := { program := "ytelnkflmnbhclaagreat", sum := "94dc9e47e2a54ec44b28d0fb7943ff4f3b2b7315e7b296501068d02f8a53a073", func := "conjoin/conjoinlaw08.StratumSharp", spec := "stratumSharp", unfollowed := true, recurses := true, plainKeys := false, apart := false, narrowed := true }
def StratumSharpUptoSaid : Prop := stratumSharpUptoRow.holds Tryz.pinned (OpenSpec.upto stratumSharpSpec)

/-- 'conjoinlaw08.StratumEither', WHERE WHAT IT READS IS OF BULK AT MOST 1048576: true; the input reads as it did. -/
def stratumEitherUptoRow : OpenClaim := { program := "ytelnkflmnbhclaagreat", sum := "94dc9e47e2a54ec44b28d0fb7943ff4f3b2b7315e7b296501068d02f8a53a073", func := "conjoin/conjoinlaw08.StratumEither", spec := "stratumEither", unfollowed := true, recurses := true, plainKeys := false, apart := false, narrowed := true }
def StratumEitherUptoSaid : Prop := stratumEitherUptoRow.holds Tryz.pinned (OpenSpec.upto stratumEitherSpec)

/-- 'conjoinlaw08.StratumLeast', WHERE WHAT IT READS IS OF BULK AT MOST 1048576: true; the input reads as it did. -/
def stratumLeastUptoRow : OpenClaim := { program := "ytelnkflmnbhclaagreat", sum := "94dc9e47e2a54ec44b28d0fb7943ff4f3b2b7315e7b296501068d02f8a53a073", func := "conjoin/conjoinlaw08.StratumLeast", spec := "stratumLeast", unfollowed := true, recurses := true, plainKeys := false, apart := false, narrowed := true }
def StratumLeastUptoSaid : Prop := stratumLeastUptoRow.holds Tryz.pinned (OpenSpec.upto stratumLeastSpec)

/-- 'conjoinlaw08.StratumProofs', WHERE WHAT IT READS IS OF BULK AT MOST 1048576: true; the input reads as it did. -/
def stratumProofsUptoRow : OpenClaim := { program := "ytelnkflmnbhclaagreat", sum := "94dc9e47e2a54ec44b28d0fb7943ff4f3b2b7315e7b296501068d02f8a53a073", func := "conjoin/conjoinlaw08.StratumProofs", spec := "stratumProofs", unfollowed := true, recurses := true, plainKeys := false, apart := false, narrowed := true }
def StratumProofsUptoSaid : Prop := stratumProofsUptoRow.holds Tryz.pinned (OpenSpec.upto stratumProofsSpec)

/-- 'conjoinlaw08.StratumKnown', WHERE WHAT IT READS IS OF BULK AT MOST 1048576: true; the input reads as it did. -/
def stratumKnownUptoRow : OpenClaim := { program := "ytelnkflmnbhclaagreat", sum := "94dc9e47e2a54ec44b28d0fb7943ff4f3b2b7315e7b296501068d02f8a53a073", func := "conjoin/conjoinlaw08.StratumKnown", spec := "stratumKnown", unfollowed := true, recurses := true, plainKeys := false, apart := false, narrowed := true }
def StratumKnownUptoSaid : Prop := stratumKnownUptoRow.holds Tryz.pinned (OpenSpec.upto stratumKnownSpec)

/-- 'conjoinlaw08.StratumReached', WHERE WHAT IT READS IS OF BULK AT MOST 1048576: true; the input reads as it did. -/
def stratumReachedUptoRow : OpenClaim := { program := "ytelnkflmnbhclaagreat", sum := "94dc9e47e2a54ec44b28d0fb7943ff4f3b2b7315e7b296501068d02f8a53a073", func := "conjoin/conjoinlaw08.StratumReached", spec := "stratumReached", unfollowed := true, recurses := true, plainKeys := false, apart := false, narrowed := true }
def StratumReachedUptoSaid : Prop := stratumReachedUptoRow.holds Tryz.pinned (OpenSpec.upto stratumReachedSpec)

end Rows
end Go.Proofs.YtelnkflmnbhclaaGreat

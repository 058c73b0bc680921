/- Contracts that the laws lean on: Dug. -/
import Derived.Test.YtejjplhknacoiaaGreatDoorLK23
section
namespace Go.Proofs.YtejjplhknacoiaaGreatDoor
open Go.RowKit Go.Proofs Go.Shelf
def sysF (mv:List Place):List Bound:=(linksL (counting pitL 2) bondL mv).map (boundOf (ptsM [⟨1,1⟩,⟨1,2⟩,⟨1,3⟩,⟨2,1⟩] 4))
theorem dug_sysB:sysB (counting pitL 2) bondL=sysF:=by funext mv;unfold sysB sysF;rw [dug_places2];rfl
theorem dug_earl1:earlierV pitL 2 bondL otherP topP=(1,0):=by
 unfold earlierV
 rw [dug_ask2,dug_pts2,dug_sets2,dug_places2,dug_sysB]
 decide +kernel
theorem dug_earl2:earlierV pitL 2 bondL topP otherP=(2,0):=by
 unfold earlierV
 rw [dug_ask2,dug_pts2,dug_sets2,dug_places2,dug_sysB]
 decide +kernel
theorem dug_any (w:World):Calls Tryz.prog 4 #[] w fun e w'=>e = .returned (.bool true)∧Below w.heap.size w w':=
 dug_of (fun A n c bA bn bc W hl hb=>by
  have h:=Earlier_any A n c pitL 2 bA bn bc bondL otherP topP W hl hb
  rw [dug_earl1] at h;exact h) (fun A n c bA bn bc W hl hb=>by
  have h:=Earlier_any A n c pitL 2 bA bn bc bondL topP otherP W hl hb
  rw [dug_earl2] at h;exact h) w
end Go.Proofs.YtejjplhknacoiaaGreatDoor
end

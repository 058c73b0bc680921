/- Contracts that the laws lean on: Fresh, Same. -/
import Derived.Test.YtelnkflmnbhclaaGreatPfH02
section
namespace Go.Proofs.YtelnkflmnbhclaaGreat
open Go.RowKit Go.Proofs
theorem Own.fresh {α:Type} (enc:α→List Value) (k:Nat) (e:TypeId) {B:Nat} (w:World) (hB:B≤w.heap.size):Own enc k e B (w.alloc (.cells #[] e)) (some ⟨w.heap.size,0,none⟩) 0 0 []:=
 ⟨rfl,by simp,.inr ⟨w.heap.size,0,#[],rfl,hB,heap_alloc_new w _,Nat.le_refl _,by decide,by simp,by simp⟩⟩
open Go.Shelf
end Go.Proofs.YtelnkflmnbhclaaGreat
end

/- Contracts that the laws lean on: EitL. -/
import Derived.Test.YtccabpahfmoamaaGreatSE27
import Derived.Test.YtccabpahfmoamaaGreatSE33
section
namespace Go.Proofs.YtccabpahfmoamaaGreat
open Go.RowKit Go.Proofs Go.Shelf
theorem placeV_len {A B:Outl} {p:Pairing} (h:AskOk A B p):(placeV A B p).1.length≤100∧(placeV A B p).2.1.length≤100∧(placeV A B p).2.2.1.length≤100∧(placeV A B p).2.2.2.length≤100:=by
 obtain ⟨_,n2,_,_⟩:=checkOut_zero.1 h.a
 obtain ⟨_,n4,_,_⟩:=checkOut_zero.1 h.b
 unfold placeV
 split
 · unfold placeX
   simp only [partL_len,List.length_take]
   omega
 · simp
end Go.Proofs.YtccabpahfmoamaaGreat
end

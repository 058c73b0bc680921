/- Contracts that the laws lean on: FewP, RFeR, RFew. -/
import Derived.Test.YtccabpahfmoamaaGreatPE49
section
namespace Go.Proofs.YtccabpahfmoamaaGreat
open Go.RowKit Go.Proofs Go.Shelf
def fewStep (x y:List Int) (b:Bound):List Int:=if rAt x b.src<farV then rPut y b.dst (min (rAt y b.dst) (rAt x b.src+b.most)) else y
def fewTo (bs:List Bound) (x y0:List Int):Nat→List Int
 | 0=>y0
 | k+1=>match bs[k]? with
   | some b=>fewStep x (fewTo bs x y0 k) b
   | none=>fewTo bs x y0 k
def fewRow (m:Nat) (bs:List Bound) (x:List Int):List Int:=fewTo bs x (List.replicate m farV) bs.length
def fewIter (m:Nat) (bs:List Bound) (p:Nat):Nat→List Int
 | 0=>(List.replicate m farV).set p 0
 | k+1=>fewRow m bs (fewIter m bs p k)
section
variable {pts:Int} {bs:List Bound}
structure FewInv (m:Nat) (bs:List Bound) (a best:Nat):Prop where
 is:best=0∨∃ p,p<m∧1≤best∧best≤m∧val (fewIter m bs p best) p<0
 no:∀ p k,p<a→1≤k→k≤m→(best=0∨k<best)→¬val (fewIter m bs p k) p<0
structure FewMid (m:Nat) (bs:List Bound) (a many best:Nat):Prop where
 inv:FewInv m bs a best
 mid:∀ k,1≤k→k<many→(best=0∨k<best)→¬val (fewIter m bs a k) a<0
theorem FewInv.zero (m:Nat) (bs:List Bound):FewInv m bs 0 0:=⟨.inl rfl,fun p k h=>absurd h (by omega)⟩
theorem FewMid.start {m a best:Nat} (h:FewInv m bs a best):FewMid m bs a 1 best:=⟨h,fun k h1 h2=>absurd h2 (by omega)⟩
theorem FewMid.next {m a many best:Nat} (h:FewMid m bs a many best) (_:best=0∨many<best) (hv:¬val (fewIter m bs a many) a<0):FewMid m bs a (many+1) best:=
 ⟨h.inv,fun k k1 k2 k3=>by
   by_cases e:k=many
   · rw [e];exact hv
   · exact h.mid k k1 (by omega) k3⟩
theorem FewMid.hit {m a many best:Nat} (h:FewMid m bs a many best) (ha:a<m) (h0:1≤many) (hm:many≤m) (h1:best=0∨many<best) (hv:val (fewIter m bs a many) a<0):FewMid m bs a (many+1) many:=
 ⟨⟨.inr ⟨a,ha,h0,hm,hv⟩,fun p k p1 k1 k2 k3=>h.inv.no p k p1 k1 k2 (by omega)⟩,fun k k1 k2 k3=>h.mid k k1 (by omega) (by omega)⟩
theorem FewMid.done {m a many best:Nat} (h:FewMid m bs a many best) (hm:m<many∨(best≠0∧best≤many)):FewInv m bs (a+1) best:=
 ⟨h.inv.is,fun p k p1 k1 k2 k3=>by
   by_cases e:p=a
   · rw [e];exact h.mid k k1 (by omega) k3
   · exact h.inv.no p k (by omega) k1 k2 k3⟩
end
end Go.Proofs.YtccabpahfmoamaaGreat
end
section
namespace Go.Proofs.YtccabpahfmoamaaGreat
open Go.RowKit Go.Proofs
open Go.Shelf
end Go.Proofs.YtccabpahfmoamaaGreat
end

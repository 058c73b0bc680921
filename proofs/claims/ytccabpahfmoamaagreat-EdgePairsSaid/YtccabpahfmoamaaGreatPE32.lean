/- Contracts that the laws lean on: WhoP, WhoL. -/
import Derived.Test.YtccabpahfmoamaaGreatPE27
section
namespace Go.Proofs.YtccabpahfmoamaaGreat
theorem mem_meetL {A B:Outl} {s:Int} {p:Pairing} : p∈meetL A B s↔p∈pairsL A.n B.n s∧meetsV A B p=true:=by unfold meetL;rw [List.mem_filter]
theorem mem_seenTo {A B:Outl} {p:Pairing} :∀ {j:Nat},p∈seenTo A B j ↔ ∃ i,i<j∧p∈meetL A B (16-(i:Int))
 | 0=>by simp [seenTo]
 | j+1=>by
   rw [seenTo,List.mem_append,mem_seenTo (j:=j)]
   constructor
   · rintro (⟨i,h1,h2⟩|h)
     · exact ⟨i,by omega,h2⟩
     · exact ⟨j,by omega,h⟩
   · rintro ⟨i,h1,h2⟩
     rcases Nat.lt_or_ge i j with h|h
     · exact .inl ⟨i,h,h2⟩
     · have:i=j:=by omega
       subst this;exact .inr h2
theorem mem_outTo {A B:Outl} {p:Pairing} :∀ {j:Nat},p∈outTo A B j ↔ ∃ i,i<j∧p∈meetL A B (16-(i:Int))∧aloneB (seenTo A B i) p=true
 | 0=>by simp [outTo]
 | j+1=>by
   rw [outTo,List.mem_append,mem_outTo (j:=j),List.mem_filter]
   constructor
   · rintro (⟨i,h1,h2⟩|h)
     · exact ⟨i,by omega,h2⟩
     · exact ⟨j,by omega,h⟩
   · rintro ⟨i,h1,h2⟩
     rcases Nat.lt_or_ge i j with h|h
     · exact .inl ⟨i,h,h2⟩
     · have:i=j:=by omega
       subst this;exact .inr h2
section
variable {A B:Outl} {p:Pairing}
theorem meetL_less {s:Int} (ht:twiceErr A B=0) (hs:1≤s) (h:meetL A B (s+1) ≠ []):meetL A B s ≠ []:=by
 obtain ⟨p,hp⟩:=List.exists_mem_of_ne_nil _ h
 obtain ⟨h1,h2⟩:=mem_meetL.1 hp
 have hk:=askedErr_zero.1 (pairs_ask (twice_zero.1 ht).1 (twice_zero.1 ht).2 (by omega) h1)
 obtain ⟨g1,g2,g3,g4,g5,g6⟩:=(mem_pairsL (by omega)).1 h1
 have hm:=meets_front hk (by omega) h2
 refine List.ne_nil_of_mem (a:=frontP p) (mem_meetL.2 ⟨(mem_pairsL hs).2 ?_,hm⟩)
 simp only [frontP]
 omega
theorem snoc_rec {P:List Pairing→Prop} (h0:P []) (h1:∀ l x,P l→P (l ++ [x])) (l:List Pairing):P l:=by
 have h:∀ l:List Pairing,P l.reverse:=by
  intro l
  induction l with
  | nil=>exact h0
  | cons x l ih=>rw [List.reverse_cons];exact h1 _ _ ih
 have:=h l.reverse
 rwa [List.reverse_reverse] at this
end
open Go.RowKit Go.Proofs Go.Shelf
end Go.Proofs.YtccabpahfmoamaaGreat
end

/- Contracts that the laws lean on: FacW, R3WR, R3W. -/
import Derived.Test.YtccabpahfmoamaaGreatME39
section
namespace Go.Proofs.YtccabpahfmoamaaGreat
open Go.RowKit Go.Proofs
structure FactsAtW (ops:Array Oper) (a:Act) (Fact:Nat→Value→Prop) (X:(Nat→Value)→(Nat→Bool)→World→Prop) (V:Nat→Value) (listed:Array Bool) (b:Act) (W:World):Prop where
 tab:TabAt ops V a listed b
 later:Later ops a listed b
 fact:∀ j,listed.getD j false=true→Fact j (V j)
 x:X V (fun j=>listed.getD j false) W
def FactsGoW (Fact:Nat→Value→Prop) (X:(Nat→Value)→(Nat→Bool)→World→Prop) (V:Nat→Value) (listed:Array Bool) (i:Nat) (d:Option Tmp) (b b':Act) (W':World):Prop:=
 ∃ v,b'=b.put d v∧Fact i v∧X (nextV V i v) (nextL listed i) W'
section
variable {P:Program} {nn:Nat} {ops:Array Oper} {a:Act} {Fact:Nat→Value→Prop} {X:(Nat→Value)→(Nat→Bool)→World→Prop}
theorem FactsAtW.next {m:Nat} (hok:tabOk ops m=true) (hT:m=a.tmps.size) {V:Nat→Value} {listed:Array Bool} {i:Nat} {o:Oper} {b b':Act} {W W':World} (h:FactsAtW ops a Fact X V listed b W) (hi:i∈Region.ready .any ops listed) (ho:ops[i]? = some o)
 (hg:FactsGoW Fact X V listed i o.dst b b' W'):∃ V',FactsAtW ops a Fact X V' (listed.setIfInBounds i true) b' W':=by
 obtain ⟨v,rfl,h1,h5⟩:=hg
 obtain ⟨hun,_⟩:=mem_ready.1 hi
 have hun':listed.getD i false=false:=getD_both hun
 have hV:∀ j,nextV V i v j=if j=i then v else V j:=fun _=>rfl
 have hi':nextV V i v i=v:=by rw [hV,if_pos rfl]
 have hcon:TabAt ops (nextV V i v) a listed b:=h.tab.congr (fun j hj=>by
  rw [hV,if_neg]
  intro e;subst e;rw [hun'] at hj;cases hj)
 have hlt:i<listed.size:=by rw [h.tab.size];exact (Array.getElem?_eq_some_iff.1 ho).1
 have hset:=hcon.set hok hT hi ho
 have hlat:=h.later.set (V:=nextV V i v) hok ho h.tab.size
 rw [hi'] at hset hlat
 have hL:nextL listed i=fun j=>(listed.setIfInBounds i true).getD j false:=by
  funext j
  by_cases e:j=i
  · subst e;rw [nextL_at,getD_set_self rfl hlt]
  · rw [nextL_ne e,getD_set_ne false (Ne.symm e)]
 refine ⟨nextV V i v,hset,hlat,fun j hj=> ?_,hL ▸ h5⟩
 by_cases e:j=i
 · subst e;rw [hi'];exact h1
 · rw [getD_set_ne false (Ne.symm e)] at hj
   rw [hV,if_neg e]
   exact h.fact j hj
end
open Go.Shelf
def WthX (w0:World) (bo fl sn:Nat) (xs:List Bound) (x:Bound) (V:Nat→Value) (L:Nat→Bool) (W:World):Prop:=
 (L 8=false→Below w0.heap.size w0 W)∧
 (L 0=true→L 3=false→∃ g,V 0 = .slice (some ⟨g,0,none⟩) 0 0∧w0.heap.size≤g∧W.heap[g]? = some (.cells #[] 56 (0,0)))∧
 (L 3=true→L 6=false→∃ A' c',V 3 = .slice A' sn c'∧Own encBound 4 56 w0.heap.size W A' sn c' xs)∧
 (L 5=true→L 6=false→∃ g,V 5 = .slice (some ⟨g,0,none⟩) 1 1∧Rd encBound 4 W (some ⟨g,0,none⟩) 1 1 [x])∧
 (L 6=true→L 8=false→∃ A' c',V 6 = .slice A' (sn+1) c'∧Own encBound 4 56 w0.heap.size W A' (sn+1) c' (xs ++ [x]))∧
 (L 8=true→∃ W0 A' c',V 6 = .slice A' (sn+1) c'∧Below w0.heap.size w0 W0∧Own encBound 4 56 w0.heap.size W0 A' (sn+1) c' (xs ++ [x])∧W=W0.setCell ⟨bo,fl,none⟩ (.slice A' (sn+1) c'))
theorem false_true {b:Bool} {p:Prop} (h:b=false) (h2:b=true):p:=by rw [h] at h2;cases h2
section
variable {w0:World} {bo fl sn:Nat} {xs:List Bound} {x:Bound} {V:Nat→Value} {L:Nat→Bool} {W:World}
theorem WthX.pure {listed:Array Bool} {i:Nat} {v:Value} (h:WthX w0 bo fl sn xs x V (fun j=>listed.getD j false) W) (h0:i≠0) (h3:i≠3) (h5:i≠5) (h6:i≠6) (h8:i≠8):WthX w0 bo fl sn xs x (nextV V i v) (nextL listed i) W:=by
 unfold WthX
 rw [nextL_ne (Ne.symm h0),nextL_ne (Ne.symm h3),nextL_ne (Ne.symm h5),nextL_ne (Ne.symm h6),nextL_ne (Ne.symm h8),nextV_ne (Ne.symm h0),nextV_ne (Ne.symm h3),nextV_ne (Ne.symm h5),nextV_ne (Ne.symm h6)]
 exact h
theorem WthX.below {W':World} (h:WthX w0 bo fl sn xs x V L W) (h8:L 8=false) (hb:Below W.heap.size W W'):WthX w0 bo fl sn xs x V L W':=by
 obtain ⟨h1,h2,h3,h4,h5,_⟩:=h
 refine ⟨fun e=>(h1 e).trans (hb.mono (h1 e).size),fun e0 e3=> ?_,fun e3 e6=> ?_,fun e5 e6=> ?_,fun e6 e8=> ?_,fun e=>false_true h8 e⟩
 · obtain ⟨g,q1,q2,q3⟩:=h2 e0 e3
   exact ⟨g,q1,q2,(hb.block g (Array.getElem?_eq_some_iff.1 q3).1).trans q3⟩
 · obtain ⟨A',c',q1,q2⟩:=h3 e3 e6
   exact ⟨A',c',q1,q2.below hb (Nat.le_refl _)⟩
 · obtain ⟨g,q1,q2⟩:=h4 e5 e6
   exact ⟨g,q1,q2.below hb (Nat.le_refl _)⟩
 · obtain ⟨A',c',q1,q2⟩:=h5 e6 e8
   exact ⟨A',c',q1,q2.below hb (Nat.le_refl _)⟩
end
end Go.Proofs.YtccabpahfmoamaaGreat
end

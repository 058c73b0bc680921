/- Contracts that the laws lean on: RJnR, RJnt. -/
import Derived.Test.YtccabpahfmoamaaGreatFE38
section
namespace Go.Proofs.YtccabpahfmoamaaGreat
open Go.RowKit Go.Proofs Go.Shelf
def JntI (gs B:Nat) (As:Option Addr) (ns _:Nat) (xs:List Bound) (b:Bound) (w:World):List Value→World→Prop
 | [],W=>Below w.heap.size w W
 | [v],W=>Below w.heap.size w W∧∃ nb,v = .slice (some ⟨nb,0,none⟩) 1 1∧Rd encBound 4 W (some ⟨nb,0,none⟩) 1 1 [b]
 | [v,u],W=>w.grownBy W (blockOf As)∧∃ nb A' c',v = .slice (some ⟨nb,0,none⟩) 1 1∧u = .slice A' (ns+1) c'∧Own encBound 4 56 B W A' (ns+1) c' (xs ++ [b])
 | [v,u,_],W=> ∃ W0,w.grownBy W0 (blockOf As)∧∃ nb A' c',v = .slice (some ⟨nb,0,none⟩) 1 1∧u = .slice A' (ns+1) c'∧Own encBound 4 56 B W0 A' (ns+1) c' (xs ++ [b])∧W=W0.setCell ⟨gs,1,none⟩ u
 | _,_=>False
theorem JntI.grown {gs B:Nat} {As:Option Addr} {ns cs:Nat} {xs:List Bound} {b:Bound} {w W:World} {cv:List Value} (h:JntI gs B As ns cs xs b w cv W) (hl:cv.length≤1):w.grownBy W (blockOf As):=by
 match cv,h,hl with
 | [],h,_=>exact ⟨h.os,h.tape,h.output,h.size,fun i hi _=>h.block i hi⟩
 | [v],⟨h,_⟩,_=>exact ⟨h.os,h.tape,h.output,h.size,fun i hi _=>h.block i hi⟩
 | _::_::_,_,hl=>simp at hl
def factjnt3 (w0:World) (b4 b5:Nat) (an bn k:Int) (SA:Option Addr) (sn sc:Nat) (xs:List Bound):Nat→Value→World→Prop
 | 0,v,_=>v = .pointer (some ⟨b4,0,none⟩)
 | 1,v,_=>v = .int .i64 an
 | 2,v,_=>v = .pointer (some ⟨b5,0,none⟩)
 | 3,v,_=>v = .int .i64 bn
 | 4,v,_=>v = .int .i64 (an+bn)
 | 5,v,_=>v = .int .i64 k
 | 6,v,_=>v = .int .i64 (an+bn-k)
 | 8,v,_=>v = .pointer (some ⟨b4,0+2,none⟩)
 | 9,v,_=>v = .slice SA sn sc
 | 7,v,W=> ∃ g,v = .slice (some ⟨g,0,none⟩) 0 0∧w0.heap.size≤g∧W.heap[g]? = some (.cells #[] 56 (0,0))
 | 10,v,W=> ∃ A' c',v = .slice A' sn c'∧Own encBound 4 56 w0.heap.size W A' sn c' xs
 | 11,v,W=> ∃ A' c',v = .agg #[.int .i64 (an+bn-k),.slice A' sn c']∧Own encBound 4 56 w0.heap.size W A' sn c' xs
 | 12,v,W=> ∃ g,v = .pointer (some ⟨g,0,none⟩)∧w0.heap.size≤g∧∃ u0 u1,W.heap[g]? = some (.cells #[u0,u1] 73 (0,0))
 | 13,v,W=> ∃ g A' c',v = .pointer (some ⟨g,0,none⟩)∧w0.heap.size≤g∧W.heap[g]? = some (.cells #[.int .i64 (an+bn-k),.slice A' sn c'] 73 (0,0))∧Own encBound 4 56 w0.heap.size W A' sn c' xs
 | _,_,_=>True
def exjnt3 (V:Nat→Value) (L:Nat→Bool):Prop:=L 13=true→V 13=V 12
theorem exjnt3.pure {V:Nat→Value} {listed:Array Bool} {i:Nat} {v:Value} (h:exjnt3 V (fun j=>listed.getD j false)) (h8:i≠12) (h9:i≠13):exjnt3 (nextV V i v) (nextL listed i):=by
 unfold exjnt3
 rw [nextL_ne (Ne.symm h9),nextV_ne (Ne.symm h8),nextV_ne (Ne.symm h9)]
 exact h
theorem factjnt3.below {w0:World} {b4 b5:Nat} {an bn k:Int} {SA:Option Addr} {sn sc:Nat} {xs:List Bound} {j:Nat} {v:Value} {W W':World} (h:factjnt3 w0 b4 b5 an bn k SA sn sc xs j v W) (hb:Below W.heap.size W W'):factjnt3 w0 b4 b5 an bn k SA sn sc xs j v W':=by
 unfold factjnt3 at h ⊢
 split at h
 all_goals first
  | exact h
  | (obtain ⟨g,h1,h2,h3⟩:=h;exact ⟨g,h1,h2,(hb.block g (Array.getElem?_eq_some_iff.1 h3).1).trans h3⟩)
  | (obtain ⟨g,h1,h2,u0,u1,h3⟩:=h;exact ⟨g,h1,h2,u0,u1,(hb.block g (Array.getElem?_eq_some_iff.1 h3).1).trans h3⟩)
  | (obtain ⟨A',c',h1,h2⟩:=h;exact ⟨A',c',h1,h2.below hb (Nat.le_refl _)⟩)
  | (obtain ⟨g,A',c',h1,h2,h3,h4⟩:=h;exact ⟨g,A',c',h1,h2,(hb.block g (Array.getElem?_eq_some_iff.1 h3).1).trans h3,h4.below hb (Nat.le_refl _)⟩)
theorem factjnt3.grow {w0:World} {b4 b5:Nat} {an bn k:Int} {SA:Option Addr} {sn sc:Nat} {xs:List Bound} {ops:Array Oper} {a:Act} {V:Nat→Value} {listed:Array Bool} {i:Nat} {d:Option Tmp} {b:Act} {W W':World} {v:Value}
 (h:FactsAtX ops a (factjnt3 w0 b4 b5 an bn k SA sn sc xs) (fun _ _=>True) (fun W=>Below w0.heap.size w0 W) exjnt3 V listed b W) (hb:Below W.heap.size W W') (hf:factjnt3 w0 b4 b5 an bn k SA sn sc xs i v W') (hx:exjnt3 (nextV V i v) (nextL listed i)):FactsGoX ops (factjnt3 w0 b4 b5 an bn k SA sn sc xs) (fun _ _=>True) (fun W=>Below w0.heap.size w0 W) exjnt3 V listed i d b W (b.put d v) W':=
 ⟨v,rfl,hf,fun _ _ _ h=>h.below hb,fun _ _ _ _ _=>trivial,h.glob.trans (hb.mono h.glob.size),hx⟩
def factjnt10 (w0:World) (b4 b5:Nat) (an bn k:Int) (SA:Option Addr) (sn sc:Nat) (xs:List Bound):Nat→Value→World→Prop
 | 0,v,_=>v = .pointer (some ⟨b4,0,none⟩)
 | 1,v,_=>v = .int .i64 an
 | 2,v,_=>v = .pointer (some ⟨b5,0,none⟩)
 | 3,v,_=>v = .int .i64 bn
 | 4,v,_=>v = .int .i64 (an+bn)
 | 5,v,_=>v = .int .i64 (an+bn+2)
 | 6,v,_=>v = .int .i64 k
 | 7,v,_=>v = .int .i64 (k+1)
 | 8,v,_=>v = .int .i64 (an+bn+2-(k+1))
 | 10,v,_=>v = .pointer (some ⟨b4,0+1,none⟩)
 | 11,v,_=>v = .slice SA sn sc
 | 9,v,W=> ∃ g,v = .slice (some ⟨g,0,none⟩) 0 0∧w0.heap.size≤g∧W.heap[g]? = some (.cells #[] 56 (0,0))
 | 12,v,W=> ∃ A' c',v = .slice A' sn c'∧Own encBound 4 56 w0.heap.size W A' sn c' xs
 | 13,v,W=> ∃ A' c',v = .agg #[.int .i64 (an+bn+2-(k+1)),.slice A' sn c']∧Own encBound 4 56 w0.heap.size W A' sn c' xs
 | 14,v,W=> ∃ g,v = .pointer (some ⟨g,0,none⟩)∧w0.heap.size≤g∧∃ u0 u1,W.heap[g]? = some (.cells #[u0,u1] 73 (0,0))
 | 15,v,W=> ∃ g A' c',v = .pointer (some ⟨g,0,none⟩)∧w0.heap.size≤g∧W.heap[g]? = some (.cells #[.int .i64 (an+bn+2-(k+1)),.slice A' sn c'] 73 (0,0))∧Own encBound 4 56 w0.heap.size W A' sn c' xs
 | _,_,_=>True
def exjnt10 (V:Nat→Value) (L:Nat→Bool):Prop:=L 15=true→V 15=V 14
theorem exjnt10.pure {V:Nat→Value} {listed:Array Bool} {i:Nat} {v:Value} (h:exjnt10 V (fun j=>listed.getD j false)) (h8:i≠14) (h9:i≠15):exjnt10 (nextV V i v) (nextL listed i):=by
 unfold exjnt10
 rw [nextL_ne (Ne.symm h9),nextV_ne (Ne.symm h8),nextV_ne (Ne.symm h9)]
 exact h
theorem factjnt10.below {w0:World} {b4 b5:Nat} {an bn k:Int} {SA:Option Addr} {sn sc:Nat} {xs:List Bound} {j:Nat} {v:Value} {W W':World} (h:factjnt10 w0 b4 b5 an bn k SA sn sc xs j v W) (hb:Below W.heap.size W W'):factjnt10 w0 b4 b5 an bn k SA sn sc xs j v W':=by
 unfold factjnt10 at h ⊢
 split at h
 all_goals first
  | exact h
  | (obtain ⟨g,h1,h2,h3⟩:=h;exact ⟨g,h1,h2,(hb.block g (Array.getElem?_eq_some_iff.1 h3).1).trans h3⟩)
  | (obtain ⟨g,h1,h2,u0,u1,h3⟩:=h;exact ⟨g,h1,h2,u0,u1,(hb.block g (Array.getElem?_eq_some_iff.1 h3).1).trans h3⟩)
  | (obtain ⟨A',c',h1,h2⟩:=h;exact ⟨A',c',h1,h2.below hb (Nat.le_refl _)⟩)
  | (obtain ⟨g,A',c',h1,h2,h3,h4⟩:=h;exact ⟨g,A',c',h1,h2,(hb.block g (Array.getElem?_eq_some_iff.1 h3).1).trans h3,h4.below hb (Nat.le_refl _)⟩)
theorem factjnt10.grow {w0:World} {b4 b5:Nat} {an bn k:Int} {SA:Option Addr} {sn sc:Nat} {xs:List Bound} {ops:Array Oper} {a:Act} {V:Nat→Value} {listed:Array Bool} {i:Nat} {d:Option Tmp} {b:Act} {W W':World} {v:Value}
 (h:FactsAtX ops a (factjnt10 w0 b4 b5 an bn k SA sn sc xs) (fun _ _=>True) (fun W=>Below w0.heap.size w0 W) exjnt10 V listed b W) (hb:Below W.heap.size W W') (hf:factjnt10 w0 b4 b5 an bn k SA sn sc xs i v W') (hx:exjnt10 (nextV V i v) (nextL listed i)):FactsGoX ops (factjnt10 w0 b4 b5 an bn k SA sn sc xs) (fun _ _=>True) (fun W=>Below w0.heap.size w0 W) exjnt10 V listed i d b W (b.put d v) W':=
 ⟨v,rfl,hf,fun _ _ _ h=>h.below hb,fun _ _ _ _ _=>trivial,h.glob.trans (hb.mono h.glob.size),hx⟩
end Go.Proofs.YtccabpahfmoamaaGreat
end

/- Contracts that the laws lean on: Prt, PlcR, PlcV, PlcW. -/
import Derived.Test.YtccabpahfmoamaaGreatFE26
section
namespace Go.Proofs.YtccabpahfmoamaaGreat
open Go.RowKit Go.Proofs Go.Shelf
def PlcI (b6 m q q2:Nat) (x0 x1 x2 x3:List Int) (w:World):List Value→World→Prop
 | [],W=>Below w.heap.size w W
 | [v0],W=>Below w.heap.size w W∧∃ A0 c0,v0 = .slice A0 (m+1) c0∧Own encInt 1 3 w.heap.size W A0 (m+1) c0 x0
 | [v0,v1],W=>Below w.heap.size w W∧∃ A0 c0 A1 c1,v0 = .slice A0 (m+1) c0∧v1 = .slice A1 q c1∧Own encInt 1 3 w.heap.size W A0 (m+1) c0 x0∧Own encInt 1 3 w.heap.size W A1 q c1 x1
 | [v0,v1,v2],W=>Below w.heap.size w W∧∃ A0 c0 A1 c1 A2 c2,v0 = .slice A0 (m+1) c0∧v1 = .slice A1 q c1∧v2 = .slice A2 m c2∧Own encInt 1 3 w.heap.size W A0 (m+1) c0 x0∧Own encInt 1 3 w.heap.size W A1 q c1 x1∧Own encInt 1 3 w.heap.size W A2 m c2 x2
 | [v0,v1,v2,v3],W=>Below w.heap.size w W∧∃ A0 c0 A1 c1 A2 c2 A3 c3,v0 = .slice A0 (m+1) c0∧v1 = .slice A1 q c1∧v2 = .slice A2 m c2∧v3 = .slice A3 q2 c3∧Own encInt 1 3 w.heap.size W A0 (m+1) c0 x0∧Own encInt 1 3 w.heap.size W A1 q c1 x1∧Own encInt 1 3 w.heap.size W A2 m c2 x2∧Own encInt 1 3 w.heap.size W A3 q2 c3 x3
 | [v0,v1,v2,v3,_],W=> ∃ W0,Below w.heap.size w W0∧∃ A0 c0 A1 c1 A2 c2 A3 c3,v0 = .slice A0 (m+1) c0∧v1 = .slice A1 q c1∧v2 = .slice A2 m c2∧v3 = .slice A3 q2 c3∧Own encInt 1 3 w.heap.size W0 A0 (m+1) c0 x0∧Own encInt 1 3 w.heap.size W0 A1 q c1 x1∧Own encInt 1 3 w.heap.size W0 A2 m c2 x2∧Own encInt 1 3 w.heap.size W0 A3 q2 c3 x3∧W=(((W0.setCell ⟨b6,0,none⟩ v0).setCell ⟨b6,1,none⟩ v1).setCell ⟨b6,2,none⟩ v2).setCell ⟨b6,3,none⟩ v3
 | _,_=>False
theorem PlcI.b {b6 m q q2:Nat} {x0 x1 x2 x3:List Int} {w W:World} {cv:List Value} (hl:cv.length≤4) (h:PlcI b6 m q q2 x0 x1 x2 x3 w cv W):Below w.heap.size w W:=by
 match cv,hl,h with
 | [],_,h=>exact h
 | [_],_,h=>exact h.1
 | [_,_],_,h=>exact h.1
 | [_,_,_],_,h=>exact h.1
 | [_,_,_,_],_,h=>exact h.1
 | _::_::_::_::_::_,hl,_=>simp at hl
theorem circleX_yes {pts:Int} {bs:List Bound} (hok:SysOk pts bs) (h:circOk pts bs=true):circleB bs (circleX pts bs)=true:=by
 rcases circle_law hok with ⟨h1,_⟩|⟨p,ws,_,hix,hl,hne,hs,hw,hneg,hmin⟩
 · exact absurd h1 (circOk_iff.1 h)
 · refine (circleB_iff hok hix hs).2 ⟨?_,⟨p,hw⟩,least_simple hs hw hneg hmin,hneg⟩
   match ws,hne,hw,hs with
   | [b],_,hw,hs=>
     have hb:=hok.b b (hs b List.mem_cons_self)
     have h1:b.src.toNat=p∧b.dst.toNat=p:=by simpa [isWalk] using hw
     omega
   | _::_::_,_,_,_=>simp
section
variable {A B:Outl} {p:Pairing}
end
section
variable {W:World} {k:Nat} {x0 x1 x2 x3:Value} {t:TypeId}
end
def PlcR (B:Nat) (V:List Int×List Int×List Int×List Int) (u:Value) (W:World):Prop:=∃ A0 c0 A1 c1 A2 c2 A3 c3,u = .agg #[.slice A0 V.1.length c0,.slice A1 V.2.1.length c1,.slice A2 V.2.2.1.length c2,.slice A3 V.2.2.2.length c3]∧Own encInt 1 3 B W A0 V.1.length c0 V.1∧Own encInt 1 3 B W A1 V.2.1.length c1 V.2.1∧Own encInt 1 3 B W A2 V.2.2.1.length c2 V.2.2.1∧Own encInt 1 3 B W A3 V.2.2.2.length c3 V.2.2.2
theorem PlcR.none_ (B:Nat) (W:World):PlcR B ([],[],[],[]) (.agg #[.slice none 0 0,.slice none 0 0,.slice none 0 0,.slice none 0 0]) W:=⟨none,0,none,0,none,0,none,0,rfl,Own.none_ _ _ _ _ _,Own.none_ _ _ _ _ _,Own.none_ _ _ _ _ _,Own.none_ _ _ _ _ _⟩
end Go.Proofs.YtccabpahfmoamaaGreat
end

/- Contracts that the laws lean on: RefS, RPnt, R1Sy, RSuR, RSum, RSlR, RSyR, RSys, REno. -/
import Derived.Test.YtelnkflmnbhclaaGreatPfH06
import Derived.Test.YtelnkflmnbhclaaGreatPfH09
section
namespace Go.Proofs.YtelnkflmnbhclaaGreat
open Go.RowKit Go.Proofs Go.Shelf
def farV:Int:=1000000000
section
variable {pts:Nat} {K:Int} {x:List Int} {st:Row×Row} {bs:List Bound}
end
section
variable {pts:Int} {bs:List Bound}
end
end Go.Proofs.YtelnkflmnbhclaaGreat
end
section
namespace Go.Proofs.YtelnkflmnbhclaaGreat
open Go.RowKit Go.Proofs
open Go.Shelf
def SlvI (m:Nat) (ok:Bool) (w:World):List Value→World→Prop
 | [],W=>Below w.heap.size w W
 | [v],W=>Below w.heap.size w W∧∃ Az cz,v = .slice Az m cz∧Rd encInt 1 W Az m cz (List.replicate m 0)
 | [_,u],W=>Below w.heap.size w W∧∃ A' n' c',u = .tuple #[.slice A' n' c',.bool ok]
 | _,_=>False
theorem SlvI.two {m:Nat} {ok:Bool} {w W:World} {cv:List Value} (hl:2≤cv.length) (h:SlvI m ok w cv W):∃ v A' n' c',cv = [v,.tuple #[.slice A' n' c',.bool ok]]:=by
 match cv,hl,h with
 | [v,u],_,⟨_,A',n',c',e⟩=>exact ⟨v,A',n',c',by rw [e]⟩
 | [],hl,_=>simp at hl
 | [_],hl,_=>simp at hl
def SysI (gs B:Nat) (As:Option Addr) (ns _:Nat) (xs:List Bound) (b:Bound) (w:World):List Value→World→Prop
 | [],W=>Below w.heap.size w W
 | [v],W=>Below w.heap.size w W∧∃ nb,v = .slice (some ⟨nb,0,none⟩) 1 1∧Rd encBound 4 W (some ⟨nb,0,none⟩) 1 1 [b]
 | [v,u],W=>w.grownBy W (blockOf As)∧∃ nb A' c',v = .slice (some ⟨nb,0,none⟩) 1 1∧u = .slice A' (ns+1) c'∧Own encBound 4 186 B W A' (ns+1) c' (xs ++ [b])
 | [v,u,_],W=> ∃ W0,w.grownBy W0 (blockOf As)∧∃ nb A' c',v = .slice (some ⟨nb,0,none⟩) 1 1∧u = .slice A' (ns+1) c'∧Own encBound 4 186 B W0 A' (ns+1) c' (xs ++ [b])∧W=W0.setCell ⟨gs,1,none⟩ u
 | _,_=>False
theorem SysI.grown {gs B:Nat} {As:Option Addr} {ns cs:Nat} {xs:List Bound} {b:Bound} {w W:World} {cv:List Value} (h:SysI gs B As ns cs xs b w cv W) (hl:cv.length≤1):w.grownBy W (blockOf As):=by
 match cv,h,hl with
 | [],h,_=>exact ⟨h.os,h.tape,h.output,h.size,fun i hi _=>h.block i hi⟩
 | [v],⟨h,_⟩,_=>exact ⟨h.os,h.tape,h.output,h.size,fun i hi _=>h.block i hi⟩
 | _::_::_,_,hl=>simp at hl
end Go.Proofs.YtelnkflmnbhclaaGreat
end

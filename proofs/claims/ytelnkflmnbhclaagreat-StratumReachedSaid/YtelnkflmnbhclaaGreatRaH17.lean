/- Contracts that the laws lean on: Trd2, PthR, PthP, Pth1, Pth2, Pth3, RPth, PthL, BetL. -/
import Derived.Test.YtelnkflmnbhclaaGreatRaH03
import Derived.Test.YtelnkflmnbhclaaGreatRaH14
import Derived.Test.YtelnkflmnbhclaaGreatRaK24
section
namespace Go.Proofs.YtelnkflmnbhclaaGreat
open Go.RowKit Go.Proofs Go.Shelf
def PthI (bo B:Nat) (Ao:Option Addr) (no:Nat) (xs:List Int) (x:Int) (w:World):List Value→World→Prop
 | [],W=>Below w.heap.size w W
 | [v],W=>Below w.heap.size w W∧∃ nb,v = .slice (some ⟨nb,0,none⟩) 1 1∧Rd encInt 1 W (some ⟨nb,0,none⟩) 1 1 [x]
 | [v,u],W=>w.grownBy W (blockOf Ao)∧∃ nb A' c',v = .slice (some ⟨nb,0,none⟩) 1 1∧u = .slice A' (no+1) c'∧Own encInt 1 3 B W A' (no+1) c' (xs ++ [x])
 | [v,u,_],W=> ∃ W0,w.grownBy W0 (blockOf Ao)∧∃ nb A' c',v = .slice (some ⟨nb,0,none⟩) 1 1∧u = .slice A' (no+1) c'∧Own encInt 1 3 B W0 A' (no+1) c' (xs ++ [x])∧W=W0.setCell ⟨bo,0,none⟩ u
 | _,_=>False
theorem PthI.grown {bo B:Nat} {Ao:Option Addr} {no:Nat} {xs:List Int} {x:Int} {w W:World} {cv:List Value} (h:PthI bo B Ao no xs x w cv W) (hl:cv.length≤1):w.grownBy W (blockOf Ao):=by
 match cv,h,hl with
 | [],h,_=>exact ⟨h.os,h.tape,h.output,h.size,fun i hi _=>h.block i hi⟩
 | [v],⟨h,_⟩,_=>exact ⟨h.os,h.tape,h.output,h.size,fun i hi _=>h.block i hi⟩
 | _::_::_,_,hl=>simp at hl
inductive Chn (bs:List Bound) (last:Row) (a:Nat):Nat→List Nat→List Bound→Prop
 | nil:Chn bs last a a [] []
 | cons (p i:Nat) (b:Bound) (is:List Nat) (ws:List Bound):p≠a→val last p=i→bs[i]? = some b→b.dst.toNat=p→Chn bs last a b.src.toNat is ws→Chn bs last a p (i::is) (b::ws)
section
variable {bs:List Bound} {last last' r:Row} {a:Nat}
theorem Chn.later {p:Nat} {is:List Nat} {ws:List Bound} (h:Chn bs last a p is ws):∀ q∈ws.map (fun b=>b.src.toNat),∃ is' ws',is'.length<is.length∧Chn bs last a q is' ws':=by
 induction h with
 | nil=>intro q hq;cases hq
 | cons p i b is ws h1 h2 h3 h4 h5 ih=>
   intro q hq;rw [List.map_cons] at hq
   rcases List.mem_cons.1 hq with rfl|hq
   · exact ⟨is,ws,by simp,h5⟩
   · obtain ⟨is',ws',k1,k2⟩:=ih q hq
     exact ⟨is',ws',by simp;omega,k2⟩
end
theorem GrownT.grown {T:Nat→Prop} {A B C:World} {r:Option Nat} (h:GrownT T A B) (g:B.grownBy C r) (hr:∀ j,r=some j→A.heap.size≤j):GrownT T A C:=
 ⟨g.os.trans h.os,g.tape.trans h.tape,g.output.trans h.output,Nat.le_trans h.size g.size,fun k hk ht=>(g.block k (by have:=h.size;omega) (fun e=>by have:=hr k e.symm;omega)).trans (h.block k hk ht)⟩
theorem GrownT.setCell {T:Nat→Prop} {A B:World} (h:GrownT T A B) {b:Nat} (hb:T b) (o:Nat) (v:Value):GrownT T A (B.setCell ⟨b,o,none⟩ v):=
 ⟨h.os,h.tape,h.output,by simpa using h.size,fun k hk ht=>(Below.heap_setCell _ _ _ k (fun e=>ht (by rw [e];exact hb))).trans (h.block k hk ht)⟩
theorem Chn.next {bs:List Bound} {last:Row} {a p:Nat} {is:List Nat} {ws:List Bound} (h:Chn bs last a p is ws) (hp:p≠a):∃ (i:Nat) (b:Bound) (is':List Nat) (ws':List Bound),is=i::is'∧val last p=i∧bs[i]? = some b∧Chn bs last a b.src.toNat is' ws':=by
 cases h with
 | nil=>exact absurd rfl hp
 | cons _ i b is' ws' h1 h2 h3 h4 h5=>exact ⟨i,b,is',ws',rfl,h2,h3,h5⟩
open Classical in
theorem greatest_le {pts:Int} {bs:List Bound} {a b:Int} (hok:SysOk pts bs) (a1:0≤a) (a2:a<pts) (_:0≤b) (b2:b<pts):greatestR pts bs a b≤noneV:=by
 have hp:=hok.p2;have:=from_le (a:=a) hok a1 a2 b.toNat;rw [greatestR_val];refine Int.le_trans this ?_
 split
 · decide
 · rw [if_pos (by omega)];exact Int.le_refl _
end Go.Proofs.YtelnkflmnbhclaaGreat
end
section
namespace Go.Proofs.YtelnkflmnbhclaaGreat
open Go.RowKit Go.Proofs Go.Shelf
end Go.Proofs.YtelnkflmnbhclaaGreat
end

/- Contracts that the laws lean on: R3ClR, WthP, WthI, R1Id, R3Cl. -/
import Derived.Test.YtccabpahfmoamaaGreatME44
import Derived.Test.YtccabpahfmoamaaGreatME42
set_option maxRecDepth 100000
set_option maxHeartbeats 4000000
section
namespace Go.Proofs.YtccabpahfmoamaaGreat
open Go.RowKit Go.Proofs Go.Shelf
def Cl2I (J2:Value→World→Prop) (J3:Value→Value→World→Prop) (w:World):List Value→World→Prop
 | [],W=>Below w.heap.size w W
 | [v],W=>Below w.heap.size w W∧J2 v W
 | [_,z],W=>Below w.heap.size w W∧∃ a b,z = .tuple #[a,b]∧J3 a b W
 | _,_=>False
section
variable {J2:Value→World→Prop} {J3:Value→Value→World→Prop}
theorem Cl2I.b {w W:World} {cv:List Value} (h:Cl2I J2 J3 w cv W):Below w.heap.size w W:=by
 match cv,h with
 | [],h=>exact h
 | [_],h=>exact h.1
 | [_,_],h=>exact h.1
theorem Cl2I.two {w W:World} {cv:List Value} (hl:2≤cv.length) (h:Cl2I J2 J3 w cv W):∃ v a b,cv = [v,.tuple #[a,b]]:=by
 match cv,hl,h with
 | [v,y],_,⟨_,a,b,e,_⟩=>exact ⟨v,a,b,by rw [e]⟩
 | [],hl,_=>simp at hl
 | [_],hl,_=>simp at hl
end
def codeR3cls4:Option Code→Code
 | some (.seq _ (.seq _ (.seq _ (.seq c _))))=>c
 | _=> .skip
def Tr3cls4 (_ _ _ b7:Nat) (an bn p0 p1 p2 p3:Int) (aw at_ bw bt tn sl:Value) (cv:List Value):List Value:=
 [.agg #[.int .i64 an,aw,at_],.agg #[.int .i64 bn,bw,bt],.agg #[.int .i64 p0,.int .i64 p1,.int .i64 p2,.int .i64 p3],.pointer (some ⟨b7,0,none⟩),tn,cv.getD 0 undef,.pointer (some ⟨b7,0+1,none⟩),sl,cv.getD 1 undef,exA (cv.getD 1 undef),exB (cv.getD 1 undef),exA (cv.getD 1 undef),exB (cv.getD 1 undef)]
theorem r3cls4 (cC:Code) (hc:cC=codeR3cls4 Tryz.f21.body) (b4 b5 b6 b7:Nat) (an bn p0 p1 p2 p3:Int) (aw at_ bw bt tn sl:Value) (a:Act) (w:World) (Q:Exit→Act→World→Prop)
 (hT:a.tmps.size=29) (t4:a.tmps.getD 4 undef = .pointer (some ⟨b4,0,none⟩)) (t5:a.tmps.getD 5 undef = .pointer (some ⟨b5,0,none⟩)) (t6:a.tmps.getD 6 undef = .pointer (some ⟨b6,0,none⟩)) (t7:a.tmps.getD 7 undef = .pointer (some ⟨b7,0,none⟩))
 (J2:Value→World→Prop) (J3:Value→Value→World→Prop) (CE:∀ W,Below w.heap.size w W→W.cell? ⟨b4,0,none⟩=some (.int .i64 an)∧W.cell? ⟨b4,1,none⟩=some (aw)∧W.cell? ⟨b4,2,none⟩=some (at_)∧W.cell? ⟨b5,0,none⟩=some (.int .i64 bn)∧W.cell? ⟨b5,1,none⟩=some (bw)∧W.cell? ⟨b5,2,none⟩=some (bt)∧W.cell? ⟨b6,0,none⟩=some (.int .i64 p0)∧W.cell? ⟨b6,1,none⟩=some (.int .i64 p1)∧W.cell? ⟨b6,2,none⟩=some (.int .i64 p2)∧W.cell? ⟨b6,3,none⟩=some (.int .i64 p3)∧W.cell? ⟨b7,0,none⟩=some (tn)∧W.cell? ⟨b7,1,none⟩=some (sl))
 (C2:∀ W,Below w.heap.size w W→Calls Tryz.prog 74 #[.agg #[.int .i64 an,aw,at_],.agg #[.int .i64 bn,bw,bt],.agg #[.int .i64 p0,.int .i64 p1,.int .i64 p2,.int .i64 p3],tn] W fun e w'=> ∃ v,e = .returned v∧Below W.heap.size W w'∧J2 v w')
 (C3:∀ W v,Below w.heap.size w W→J2 v W→Calls Tryz.prog 73 #[v,sl] W fun e w'=> ∃ a b,e = .returned (.tuple #[a,b])∧Below W.heap.size W w'∧J3 a b w')
 (hQ:∀ v r1 r2 W,Below w.heap.size w W→J3 r1 r2 W→Q .normal { tmps:=setsL (setsL (a.tmps) 18 [.agg #[.int .i64 an,aw,at_],.agg #[.int .i64 bn,bw,bt],.agg #[.int .i64 p0,.int .i64 p1,.int .i64 p2,.int .i64 p3],.pointer (some ⟨b7,0,none⟩),tn,v,.pointer (some ⟨b7,0+1,none⟩),sl,.tuple #[r1,r2],r1,r2]) 8 [r1,r2],defers:=a.defers } W):
 cC.wp Tryz.prog Q a w:=by
 subst hc
 unfold codeR3cls4 Tryz.f21
 dsimp only
 refine wpIn_wide.1 (wpIn_region_chain (nn:=5) 29 (by kernel_rfl) (by kernel_rfl) (by kernel_rfl) hT (fun i cv=>(Tr3cls4 b4 b5 b6 b7 an bn p0 p1 p2 p3 aw at_ bw bt tn sl cv).getD i undef) (fun i=>([0,0,0,0,0,0,0,0,0,2,2,2,2]:List Nat).getD i 0) (fun i=>([0,0,0,0,0,1,1,1,2,2,2,2,2]:List Nat).getD i 0) [5,8] (by kernel_rfl) (by kernel_rfl) (by kernel_rfl) (by kernel_rfl) (Cl2I J2 J3 w) ((Below.refl _ _).drew) (fun b cv hE hold=> ?_) (fun cv W hl hI=> ?_))
 · clear hQ
   have q4:=hold 4 _ (by kernel_rfl) t4
   have q5:=hold 5 _ (by kernel_rfl) t5
   have q6:=hold 6 _ (by kernel_rfl) t6
   have q7:=hold 7 _ (by kernel_rfl) t7
   simp only [factsL,Vc,idxC,Tr3cls4,List.getD_cons_zero,List.getD_cons_succ,Nat.reduceAdd,Nat.reduceEqDiff,reduceIte,Option.map_some,Option.map_none] at hE
   repeat' first|exact chain_nil|refine chain_op 0 rfl rfl ?_ ?_|refine chain_op 1 rfl rfl ?_ ?_|refine chain_skip rfl rfl rfl rfl ?_|refine chain_quiet rfl rfl ?_ ?_
   all_goals intro hl
   any_goals (
    intro hl2;simp only [List.getD_cons_zero,List.getD_cons_succ,Nat.reduceAdd] at hl hl2
    first
     | (obtain rfl:=List.eq_nil_of_length_eq_zero (Nat.le_zero.1 hl2);intro W hW;have hWb:Below w.heap.size w W:=hW;obtain ⟨e0,e1,e2,e3,e4,e5,e6,e7,e8,e9,e10,e11⟩:=CE W hWb;simp only [Tr3cls4,List.getD_cons_zero,List.getD_cons_succ,Nat.reduceAdd]
        first
         | (refine .inl ?_;go_simp;done)
         | (refine .inl ?_;go_simp;rfl))
     | (intro W hW;simp only [Tr3cls4,List.getD_cons_zero,List.getD_cons_succ,Nat.reduceAdd];refine .inl ?_;go_simp;(try rfl);done)
     | (intro W hW;obtain ⟨e0,e1,e2,e3,e4,e5,e6,e7,e8,e9,e10,e11⟩:=CE W (Cl2I.b hW);simp only [Tr3cls4,List.getD_cons_zero,List.getD_cons_succ,Nat.reduceAdd]
        first
         | (refine .inl ?_;go_simp;done)
         | (refine .inl ?_;go_simp;rfl))
     | (intro W hW;obtain ⟨v,a,b',rfl⟩:=Cl2I.two hl hW;simp only [Tr3cls4,List.getD_cons_zero,List.getD_cons_succ,Nat.reduceAdd] at hE ⊢;refine .inl ?_;go_simp;(try rfl);done)
    done)
   · obtain rfl:=List.eq_nil_of_length_eq_zero hl
     intro W hW
     have hWb:Below w.heap.size w W:=hW
     refine .inr ⟨74,#[.agg #[.int .i64 an,aw,at_],.agg #[.int .i64 bn,bw,bt],.agg #[.int .i64 p0,.int .i64 p1,.int .i64 p2,.int .i64 p3],tn],?_,(C2 W hWb).mono ?_⟩
     · go_simp<;>done
     · rintro e w' ⟨v,rfl,hb',hr⟩;exact ⟨_,rfl,hWb.trans (hb'.mono hWb.size),hr⟩
   · obtain ⟨v,rfl⟩:=len1 hl
     rintro W ⟨hWb,hj⟩
     simp only [List.getD_cons_zero] at hE
     refine .inr ⟨73,#[v,sl],?_,(C3 W v hWb hj).mono ?_⟩
     · go_simp<;>done
     · rintro e w' ⟨a,b,rfl,hb',hr⟩;exact ⟨_,rfl,hWb.trans (hb'.mono hWb.size),a,b,rfl,hr⟩
 · match cv,hl,hI with
   | [v,y],_,⟨hb,a,b,e,hj⟩=>subst e;exact hQ v a b W hb hj
end Go.Proofs.YtccabpahfmoamaaGreat
end
section
namespace Go.Proofs.YtccabpahfmoamaaGreat
open Go.RowKit Go.Proofs Go.Shelf
def WtiX (w0:World) (n at_:Nat) (xs:List Int) (x:Int) (V:Nat→Value) (L:Nat→Bool) (W:World):Prop:=
 Below w0.heap.size w0 W∧
 (L 0=true→L 4=false→∃ g,V 0 = .slice (some ⟨g,0,none⟩) 0 0∧w0.heap.size≤g∧W.heap[g]? = some (.cells #[] 3 (0,0)))∧
 (L 4=true→L 7=false→∃ A' c',V 4 = .slice A' at_ c'∧Own encInt 1 3 w0.heap.size W A' at_ c' (xs.take at_))∧
 (L 6=true→L 7=false→∃ g,V 6 = .slice (some ⟨g,0,none⟩) 1 1∧Rd encInt 1 W (some ⟨g,0,none⟩) 1 1 [x])∧
 (L 7=true→L 11=false→∃ A' c',V 7 = .slice A' (at_+1) c'∧Own encInt 1 3 w0.heap.size W A' (at_+1) c' (xs.take at_ ++ [x]))∧
 (L 11=true→∃ A' c',V 11 = .slice A' (at_+1+(n-at_)) c'∧Own encInt 1 3 w0.heap.size W A' (at_+1+(n-at_)) c' (xs.take at_ ++ [x]++xs.drop at_))∧
 (L 12=true→V 12=V 11)
section
variable {w0:World} {n at_:Nat} {xs:List Int} {x:Int} {V:Nat→Value} {L:Nat→Bool} {W:World}
theorem WtiX.pure {listed:Array Bool} {i:Nat} {v:Value} (h:WtiX w0 n at_ xs x V (fun j=>listed.getD j false) W) (h0:i≠0) (h4:i≠4) (h6:i≠6) (h7:i≠7) (h11:i≠11) (h12:i≠12):WtiX w0 n at_ xs x (nextV V i v) (nextL listed i) W:=by
 unfold WtiX
 rw [nextL_ne (Ne.symm h0),nextL_ne (Ne.symm h4),nextL_ne (Ne.symm h6),nextL_ne (Ne.symm h7),nextL_ne (Ne.symm h11),nextL_ne (Ne.symm h12),nextV_ne (Ne.symm h0),nextV_ne (Ne.symm h4),nextV_ne (Ne.symm h6),nextV_ne (Ne.symm h7),nextV_ne (Ne.symm h11),nextV_ne (Ne.symm h12)]
 exact h
theorem WtiX.below {W':World} (h:WtiX w0 n at_ xs x V L W) (hb:Below W.heap.size W W'):WtiX w0 n at_ xs x V L W':=by
 obtain ⟨h1,h2,h3,h4,h5,h6,h7⟩:=h
 refine ⟨h1.trans (hb.mono h1.size),fun e0 e3=> ?_,fun e3 e6=> ?_,fun e5 e6=> ?_,fun e6 e8=> ?_,fun e=> ?_,h7⟩
 · obtain ⟨g,q1,q2,q3⟩:=h2 e0 e3
   exact ⟨g,q1,q2,(hb.block g (Array.getElem?_eq_some_iff.1 q3).1).trans q3⟩
 · obtain ⟨A',c',q1,q2⟩:=h3 e3 e6
   exact ⟨A',c',q1,q2.below hb (Nat.le_refl _)⟩
 · obtain ⟨g,q1,q2⟩:=h4 e5 e6
   exact ⟨g,q1,q2.below hb (Nat.le_refl _)⟩
 · obtain ⟨A',c',q1,q2⟩:=h5 e6 e8
   exact ⟨A',c',q1,q2.below hb (Nat.le_refl _)⟩
 · obtain ⟨A',c',q1,q2⟩:=h6 e
   exact ⟨A',c',q1,q2.below hb (Nat.le_refl _)⟩
end
theorem r3joint_one (A:Outl) (AwA:Option Addr) (Awn Awc:Nat) (AtA:Option Addr) (Atn Atc:Nat) (B:Outl) (BwA:Option Addr) (Bwn Bwc:Nat) (BtA:Option Addr) (Btn Btc:Nat) (p:Pairing) (tn:Bool) (w:World) (Aw:Rd encBound 4 w AwA Awn Awc A.ways) (At:Rd encBound 4 w AtA Atn Atc A.turns) (Bw:Rd encBound 4 w BwA Bwn Bwc B.ways) (Bt:Rd encBound 4 w BtA Btn Btc B.turns) (h:AskOk A B p):
 Calls Tryz.prog 74 #[.agg #[.int .i64 A.n,.slice AwA Awn Awc,.slice AtA Atn Atc],.agg #[.int .i64 B.n,.slice BwA Bwn Bwc,.slice BtA Btn Btc],.agg #[.int .i64 p.a.lo,.int .i64 p.a.hi,.int .i64 p.b.lo,.int .i64 p.b.hi],.bool tn] w fun e w'=> ∃ v,e = .returned v∧Below w.heap.size w w'∧OneSys (clashN A B p tn) (clashL A B p tn) v w':=by
 have l1:=Aw.len;have l2:=At.len;have l3:=Bw.len;have l4:=Bt.len
 have r1:=h.r1;have r2:=h.r2
 cases tn
 · refine (r3joint_false A AwA Awn Awc AtA Atn Atc B BwA Bwn Bwc BtA Btn Btc p w Aw At Bw Bt h.toPairOk).mono ?_
   rintro e w' ⟨A',c',rfl,hb,ho⟩
   exact ⟨_,rfl,hb,A',_,c',rfl,ho.rd (fun _=>rfl) (by omega)⟩
 · refine (r3joint_true A AwA Awn Awc AtA Atn Atc B BwA Bwn Bwc BtA Btn Btc p w Aw At Bw Bt h.toPairOk).mono ?_
   rintro e w' ⟨A',c',rfl,hb,ho⟩
   exact ⟨_,rfl,hb,A',_,c',rfl,ho.rd (fun _=>rfl) (by omega)⟩
theorem r3CheckClash_any (A:Outl) (AwA:Option Addr) (Awn Awc:Nat) (AtA:Option Addr) (Atn Atc:Nat) (B:Outl) (BwA:Option Addr) (Bwn Bwc:Nat) (BtA:Option Addr) (Btn Btc:Nat) (p:Pairing) (tn:Bool) (L:Option Addr) (m lc:Nat) (l:List Int) (w:World) (Aw:Rd encBound 4 w AwA Awn Awc A.ways) (At:Rd encBound 4 w AtA Atn Atc A.turns) (Bw:Rd encBound 4 w BwA Bwn Bwc B.ways) (Bt:Rd encBound 4 w BtA Btn Btc B.turns) (hL:Rd encInt 1 w L m lc l) (hm:m≤1000000):
 Calls Tryz.prog 21 #[.agg #[.int .i64 A.n,.slice AwA Awn Awc,.slice AtA Atn Atc],.agg #[.int .i64 B.n,.slice BwA Bwn Bwc,.slice BtA Btn Btc],.agg #[.int .i64 p.a.lo,.int .i64 p.a.hi,.int .i64 p.b.lo,.int .i64 p.b.hi],.agg #[.bool tn,.slice L m lc]] w fun e w'=>e = .returned (.tuple #[.bool (clashB A B p tn l),.int .i64 (askedErr A B p)])∧Below w.heap.size w w':=by
 obtain ⟨w1,hw1,hb1,hz1,hbx⟩:=boxABP w A AwA Awn Awc AtA Atn Atc B BwA Bwn Bwc BtA Btn Btc p
 obtain ⟨w2,a2,b2,z2,e2⟩:=alloc_facts w1 #[.bool tn,.slice L m lc] 33
 rw [hz1] at e2
 have hb2:=hb1.trans (b2.mono hb1.size)
 have HCE:Hid (∀ W,Below w2.heap.size w2 W→BoxABP w.heap.size A AwA Awn Awc AtA Atn Atc B BwA Bwn Bwc BtA Btn Btc p W∧W.cell? ⟨w.heap.size+1+1+1,0,none⟩=some (.bool tn)∧W.cell? ⟨w.heap.size+1+1+1,1,none⟩=some (.slice L m lc)):=(show ∀ W,_→_ from fun W h=>by
  have q2:=(h.block (w.heap.size+1+1+1) (by omega)).trans e2
  refine ⟨hbx W (b2.trans (h.mono b2.size)),?_⟩
  simp [World.cell?,q2])
 have RA:Hid (∀ W,Below w2.heap.size w2 W→Rd encBound 4 W AwA Awn Awc A.ways∧Rd encBound 4 W AtA Atn Atc A.turns∧Rd encBound 4 W BwA Bwn Bwc B.ways∧Rd encBound 4 W BtA Btn Btc B.turns):=(show ∀ W,_→_ from fun W h=>⟨(Aw.below hb2 (Nat.le_refl _)).below h (Nat.le_refl _),(At.below hb2 (Nat.le_refl _)).below h (Nat.le_refl _),(Bw.below hb2 (Nat.le_refl _)).below h (Nat.le_refl _),(Bt.below hb2 (Nat.le_refl _)).below h (Nat.le_refl _)⟩)
 have RL:Hid (∀ W,Below w2.heap.size w2 W→Rd encInt 1 W L m lc l):=(show ∀ W,_→_ from fun W h=>(hL.below hb2 (Nat.le_refl _)).below h (Nat.le_refl _))
 have K1:=Lib.hid (fun W (h:Below w2.heap.size w2 W)=>r3Asked_any A AwA Awn Awc AtA Atn Atc B BwA Bwn Bwc BtA Btn Btc p W (RA.out W h).1 (RA.out W h).2.1 (RA.out W h).2.2.1 (RA.out W h).2.2.2)
 have HB2:=Lib.hid hb2
 have HW1:=Lib.hid hw1
 have HW2:=Lib.hid a2
 obtain ⟨⟨xa0,xa1,xa2,xb0,xb1,xb2,xp0,xp1,xp2,xp3⟩,y0,y1⟩:=HCE.out w2 (Below.refl _ _)
 clear Aw At Bw Bt hL hb1 hbx hw1 a2 b2 z2 e2 hb2
 by_cases h1:askedErr A B p=0
 case neg=>
  have hv:clashB A B p tn l=false:=by unfold clashB;rw [decide_eq_false h1,Bool.false_and]
  rw [hv]
  have h1':(askedErr A B p != 0)=true:=by simpa using h1
  clear h1 hv
  generalize askedErr A B p=er at *
  go_enter Tryz.func21,Tryz.ntmps21
  go_wp2_with (first
   | rw [HW1.out]
   | rw [HW2.out]
   | (go_at_call 67;(with_reducible refine (K1.out _ (Below.refl _ _)).mono ?_);rintro e w3 ⟨rfl,hb3⟩;have HB3:=Lib.hid hb3;obtain ⟨⟨xa0,xa1,xa2,xb0,xb1,xb2,xp0,xp1,xp2,xp3⟩,y0,y1⟩:=HCE.out w3 hb3;clear hb3))
  go_ret2
  exact ⟨rfl,HB2.out.trans (HB3.out.mono HB2.out.size)⟩
 case pos=>
  have hok:=askedErr_zero.1 h1
  have hv:clashB A B p tn l=circleB (clashL A B p tn) l:=by unfold clashB;rw [decide_eq_true h1,Bool.true_and]
  rw [hv]
  have C2:Hid (∀ W,Below w2.heap.size w2 W→Calls Tryz.prog 74 #[.agg #[.int .i64 A.n,.slice AwA Awn Awc,.slice AtA Atn Atc],.agg #[.int .i64 B.n,.slice BwA Bwn Bwc,.slice BtA Btn Btc],.agg #[.int .i64 p.a.lo,.int .i64 p.a.hi,.int .i64 p.b.lo,.int .i64 p.b.hi],.bool tn] W fun e w'=> ∃ v,e = .returned v∧Below W.heap.size W w'∧OneSys (clashN A B p tn) (clashL A B p tn) v w'):=(show ∀ W,_→_ from fun W h=>r3joint_one A AwA Awn Awc AtA Atn Atc B BwA Bwn Bwc BtA Btn Btc p tn W (RA.out W h).1 (RA.out W h).2.1 (RA.out W h).2.2.1 (RA.out W h).2.2.2 hok)
  have C3:Hid (∀ W v,Below w2.heap.size w2 W→OneSys (clashN A B p tn) (clashL A B p tn) v W→Calls Tryz.prog 73 #[v,.slice L m lc] W fun e w'=> ∃ a b,e = .returned (.tuple #[a,b])∧Below W.heap.size W w'∧(a = .bool (circleB (clashL A B p tn) l)∧b = .int .i64 0)):=(show ∀ W v,_→_→_ from by
   rintro W v h ⟨A',k,c',rfl,hr⟩
   have hs:=clash_sys hok tn
   refine (r1CheckCircle_any _ A' k c' _ L m lc l W hr (RL.out W h) hm).mono ?_
   unfold r1cV
   rw [hs,decide_eq_true rfl,Bool.true_and]
   rintro e w' ⟨rfl,hb⟩
   exact ⟨_,_,rfl,hb,rfl,rfl⟩)
  rw [h1] at K1 ⊢
  clear h1 hv hok
  go_enter Tryz.func21,Tryz.ntmps21
  go_upto_region 4 with (first
   | rw [HW1.out]
   | rw [HW2.out]
   | (go_at_call 67;(with_reducible refine (K1.out _ (Below.refl _ _)).mono ?_);rintro e w3 ⟨rfl,hb3⟩;have HB3:=Lib.hid hb3;obtain ⟨⟨xa0,xa1,xa2,xb0,xb1,xb2,xp0,xp1,xp2,xp3⟩,y0,y1⟩:=HCE.out w3 hb3;clear hb3))
  refine r3cls4 _ rfl w.heap.size (w.heap.size+1) (w.heap.size+1+1) (w.heap.size+1+1+1) A.n B.n p.a.lo p.a.hi p.b.lo p.b.hi (.slice AwA Awn Awc) (.slice AtA Atn Atc) (.slice BwA Bwn Bwc) (.slice BtA Btn Btc) (.bool tn) (.slice L m lc) _ w3 _ rfl rfl rfl rfl rfl (OneSys (clashN A B p tn) (clashL A B p tn)) (fun a b _=>a = .bool (circleB (clashL A B p tn) l)∧b = .int .i64 0) (fun W hW=> ?_) (fun W hW=>C2.out W (HB3.out.trans (hW.mono HB3.out.size))) (fun W v hW hv=>C3.out W v (HB3.out.trans (hW.mono HB3.out.size)) hv) ?_
  · obtain ⟨⟨xa0,xa1,xa2,xb0,xb1,xb2,xp0,xp1,xp2,xp3⟩,y0,y1⟩:=HCE.out W (HB3.out.trans (hW.mono HB3.out.size))
    exact ⟨xa0,xa1,xa2,xb0,xb1,xb2,xp0,xp1,xp2,xp3,y0,y1⟩
  rintro v _ _ w5 hb5 ⟨rfl,rfl⟩
  have HB5:=Lib.hid (HB2.out.trans ((HB3.out.trans (hb5.mono HB3.out.size)).mono HB2.out.size))
  clear hb5
  simp only [setsL,List.setIfInBounds_toArray,List.set_cons_succ,List.set_cons_zero,Nat.reduceAdd]
  go_wp2
  go_ret2
  exact ⟨rfl,HB5.out⟩
end Go.Proofs.YtccabpahfmoamaaGreat
end

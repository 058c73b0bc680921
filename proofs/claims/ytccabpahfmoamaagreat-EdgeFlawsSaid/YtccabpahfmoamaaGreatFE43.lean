/- Contracts that the laws lean on: OutR, CFl, SmO. -/
import Derived.Test.YtccabpahfmoamaaGreatFE42
import Derived.Test.YtccabpahfmoamaaGreatFE38
set_option maxRecDepth 100000
set_option maxHeartbeats 4000000
section
namespace Go.Proofs.YtccabpahfmoamaaGreat
open Go.RowKit Go.Proofs Go.Shelf
def codeR3cfl4:Option Code→Code
 | some (.seq _ (.seq _ (.seq _ (.seq c _))))=>c
 | _=> .skip
def Tr3cfl4 (_ b3:Nat) (an:Int) (aw at_ tn sl:Value) (sv:Value) (r:Bool):List Value:=
 [.agg #[.int .i64 an,aw,at_],.pointer (some ⟨b3,0,none⟩),tn,sv,.pointer (some ⟨b3,0+1,none⟩),sl,.tuple #[.bool r,.int .i64 0],.bool r,.int .i64 0,.bool r,.int .i64 0]
theorem r3cfl4 (cC:Code) (hc:cC=codeR3cfl4 Tryz.f34.body) (b2 b3:Nat) (an:Int) (aw at_ tn sl:Value) (sv:Value) (r:Bool) (a:Act) (w:World) (Q:Exit→Act→World→Prop)
 (hT:a.tmps.size=21) (t2:a.tmps.getD 2 undef = .pointer (some ⟨b2,0,none⟩)) (t3:a.tmps.getD 3 undef = .pointer (some ⟨b3,0,none⟩))
 (CE:∀ W,Below w.heap.size w W→W.cell? ⟨b2,0,none⟩=some (.int .i64 an)∧W.cell? ⟨b2,1,none⟩=some (aw)∧W.cell? ⟨b2,2,none⟩=some (at_)∧W.cell? ⟨b3,0,none⟩=some (tn)∧W.cell? ⟨b3,1,none⟩=some (sl))
 (C1:∀ W,Below w.heap.size w W→Calls Tryz.prog 88 #[.agg #[.int .i64 an,aw,at_],tn] W fun e w'=>e = .returned (sv)∧Below W.heap.size W w')
 (C2:∀ W,Below w.heap.size w W→Calls Tryz.prog 73 #[sv,sl] W fun e w'=>e = .returned (.tuple #[.bool r,.int .i64 0])∧Below W.heap.size W w')
 (hQ:∀ W,Below w.heap.size w W→Q .normal { tmps:=setsL (setsL (a.tmps) 12 [.agg #[.int .i64 an,aw,at_],.pointer (some ⟨b3,0,none⟩),tn,sv,.pointer (some ⟨b3,0+1,none⟩),sl,.tuple #[.bool r,.int .i64 0],.bool r,.int .i64 0]) 4 [.bool r,.int .i64 0],defers:=a.defers } W):
 cC.wp Tryz.prog Q a w:=by
 subst hc
 unfold codeR3cfl4 Tryz.f34
 dsimp only
 refine wpIn_wide.1 (wpIn_region_flow (nn:=5) 21 (by kernel_rfl) (by kernel_rfl) (by kernel_rfl) hT (fun i=>(Tr3cfl4 b2 b3 an aw at_ tn sl sv r).getD i undef) (fun W=>Below w.heap.size w W) ((Below.refl _ _).drew) (fun b hE hold=> ?_) hQ)
 clear hQ
 have q2:=hold 2 _ (by kernel_rfl) t2
 have q3:=hold 3 _ (by kernel_rfl) t3
 simp only [factsL,Tr3cfl4,List.getD_cons_zero,List.getD_cons_succ,Nat.reduceAdd] at hE
 repeat' first|exact steps_nil|refine steps_skip rfl rfl ?_|refine steps_go rfl ?_ ?_
 all_goals (intro W hW;have hWb:Below w.heap.size w W:=hW;obtain ⟨e0,e1,e2,e3,e4⟩:=CE W hWb;simp only [Tr3cfl4,List.getD_cons_zero,List.getD_cons_succ,Nat.reduceAdd])
 all_goals first
  | (refine .inl ?_;go_simp;done)
  | (refine .inl ?_;go_simp;rfl)
  | (refine .inr (.inr ⟨88,#[.agg #[.int .i64 an,aw,at_],tn],?_,(C1 W hWb).mono ?_⟩)
     · go_simp<;>done
     · rintro e w' ⟨rfl,hb'⟩;exact ⟨rfl,hWb.trans (hb'.mono hWb.size)⟩)
  | (refine .inr (.inr ⟨73,#[sv,sl],?_,(C2 W hWb).mono ?_⟩)
     · go_simp<;>done
     · rintro e w' ⟨rfl,hb'⟩;exact ⟨rfl,hWb.trans (hb'.mono hWb.size)⟩)
def flawL (A:Outl) (tn:Bool):List Bound:=if tn then A.turns else A.ways
def ownFlawB (A:Outl) (tn:Bool) (l:List Int):Bool:=decide (checkOut A=0)&&circleB (flawL A tn) l
theorem r3Own_any (A:Outl) (AwA:Option Addr) (Awn Awc:Nat) (AtA:Option Addr) (Atn Atc:Nat) (tn:Bool) (w:World) (h1: -1000≤A.n) (h2:A.n≤1000):
 Calls Tryz.prog 88 #[.agg #[.int .i64 A.n,.slice AwA Awn Awc,.slice AtA Atn Atc],.bool tn] w fun e w'=>e = .returned (if tn then .agg #[.int .i64 A.n,.slice AtA Atn Atc] else .agg #[.int .i64 (A.n+1),.slice AwA Awn Awc])∧Below w.heap.size w w':=by
 obtain ⟨wa,hwa,ba,hza,ea⟩:=alloc_facts w #[.int .i64 A.n,.slice AwA Awn Awc,.slice AtA Atn Atc] 24
 obtain ⟨w1,hw1,l1,z1,e1⟩:=alloc_facts wa #[.int .i64 0,.slice none 0 0] 73
 have HA:=Lib.hid (show (w.alloc (.cells #[.int .i64 A.n,.slice AwA Awn Awc,.slice AtA Atn Atc] 24)).alloc (.cells #[.int .i64 0,.slice none 0 0] 73)=w1 by rw [hwa,hw1])
 rw [hza] at e1 z1
 have hA2:=(l1.block w.heap.size (by omega)).trans ea
 obtain ⟨b0,b1,b2,_,_,_⟩:=three_facts hA2
 have K1:=Lib.hid (fun W=>r3ways_any A.n AwA Awn Awc AtA Atn Atc W h1 h2)
 have K2:=Lib.hid (fun W=>r3turns_any A.n AwA Awn Awc AtA Atn Atc W)
 have HB1:=Lib.hid (ba.trans (l1.mono ba.size))
 have HE1:=Lib.hid e1
 have Z1:Hid (w1.heap.size=w.heap.size+1+1):=(show _=_ from z1)
 clear hwa hw1 ba hza ea l1 z1 e1 hA2 h1 h2
 cases tn
 all_goals
  go_enter Tryz.func88,Tryz.ntmps88
  go_wp2_with (first
   | rw [HA.out]
   | (go_at_call 92;(with_reducible refine (K1.out _).mono ?_);rintro e w3 ⟨rfl,hb3⟩
      have hh3:=(hb3.block (w.heap.size+1) (by have:=Z1.out;omega)).trans HE1.out
      have f0:w3.cell? ⟨w.heap.size+1,0,none⟩=some (.int .i64 0):=(by simp [World.cell?,hh3])
      have f1:w3.cell? ⟨w.heap.size+1,1,none⟩=some (.slice none 0 0):=(by simp [World.cell?,hh3])
      have f2:w3.frozen? ⟨w.heap.size+1,0,none⟩=false:=(by simp [World.frozen?,hh3])
      have f3:w3.frozen? ⟨w.heap.size+1,1,none⟩=false:=(by simp [World.frozen?,hh3])
      have HH3:=Lib.hid hh3
      have HB3:=Lib.hid (HB1.out.trans (hb3.mono HB1.out.size))
      clear hb3 hh3)
   | (go_at_call 93;(with_reducible refine (K2.out _).mono ?_);rintro e w3 ⟨rfl,hb3⟩
      have hh3:=(hb3.block (w.heap.size+1) (by have:=Z1.out;omega)).trans HE1.out
      have f0:w3.cell? ⟨w.heap.size+1,0,none⟩=some (.int .i64 0):=(by simp [World.cell?,hh3])
      have f1:w3.cell? ⟨w.heap.size+1,1,none⟩=some (.slice none 0 0):=(by simp [World.cell?,hh3])
      have f2:w3.frozen? ⟨w.heap.size+1,0,none⟩=false:=(by simp [World.frozen?,hh3])
      have f3:w3.frozen? ⟨w.heap.size+1,1,none⟩=false:=(by simp [World.frozen?,hh3])
      have HH3:=Lib.hid hh3
      have HB3:=Lib.hid (HB1.out.trans (hb3.mono HB1.out.size))
      clear hb3 hh3))
  refine bodyPost_ret (results_cell_row rfl _ _ (w.heap.size+1) _ _ (0,0) _ rfl (sys_set HH3.out) Tryz.underlying73 rfl (by kernel_rfl)) rfl ?_
  exact ⟨rfl,(HB3.out.setCell (p:=⟨w.heap.size+1,0,none⟩) (show w.heap.size≤w.heap.size+1 by omega) _).setCell (p:=⟨w.heap.size+1,1,none⟩) (show w.heap.size≤w.heap.size+1 by omega) _⟩
def ownV (n:Int) (AwA:Option Addr) (Awn Awc:Nat) (AtA:Option Addr) (Atn Atc:Nat) (tn:Bool):Value:=if tn then .agg #[.int .i64 n,.slice AtA Atn Atc] else .agg #[.int .i64 (n+1),.slice AwA Awn Awc]
theorem flaw_boxes (A:Outl) (AwA:Option Addr) (Awn Awc:Nat) (AtA:Option Addr) (Atn Atc:Nat) (tn:Bool) (L:Option Addr) (m lc:Nat) (w:World):∃ w1,(w.alloc (.cells #[.int .i64 A.n,.slice AwA Awn Awc,.slice AtA Atn Atc] 24)).alloc (.cells #[.bool tn,.slice L m lc] 33)=w1∧Below w.heap.size w w1∧
 ∀ W,Below w1.heap.size w1 W→W.cell? ⟨w.heap.size,0,none⟩=some (.int .i64 A.n)∧W.cell? ⟨w.heap.size,1,none⟩=some (.slice AwA Awn Awc)∧W.cell? ⟨w.heap.size,2,none⟩=some (.slice AtA Atn Atc)∧W.cell? ⟨w.heap.size+1,0,none⟩=some (.bool tn)∧W.cell? ⟨w.heap.size+1,1,none⟩=some (.slice L m lc):=by
 obtain ⟨wa,hwa,ba,hza,ea⟩:=alloc_facts w #[.int .i64 A.n,.slice AwA Awn Awc,.slice AtA Atn Atc] 24
 obtain ⟨w1,hw1,l1,z1,e1⟩:=alloc_facts wa #[.bool tn,.slice L m lc] 33
 rw [hza] at e1 z1
 refine ⟨w1,by rw [hwa,hw1],ba.trans (l1.mono ba.size),fun W h=> ?_⟩
 have q1:=(h.block w.heap.size (by omega)).trans ((l1.block w.heap.size (by omega)).trans ea)
 have q2:=(h.block (w.heap.size+1) (by omega)).trans e1
 simp [World.cell?,q1,q2]
theorem r3CheckFlaw_any (A:Outl) (AwA:Option Addr) (Awn Awc:Nat) (AtA:Option Addr) (Atn Atc:Nat) (tn:Bool) (L:Option Addr) (m lc:Nat) (l:List Int) (w:World) (Aw:Rd encBound 4 w AwA Awn Awc A.ways) (At:Rd encBound 4 w AtA Atn Atc A.turns) (hL:Rd encInt 1 w L m lc l) (hm:m≤1000000):
 Calls Tryz.prog 34 #[.agg #[.int .i64 A.n,.slice AwA Awn Awc,.slice AtA Atn Atc],.agg #[.bool tn,.slice L m lc]] w fun e w'=>e = .returned (.tuple #[.bool (ownFlawB A tn l),.int .i64 (checkOut A)])∧Below w.heap.size w w':=by
 obtain ⟨w1,hw1,hb1,hce⟩:=flaw_boxes A AwA Awn Awc AtA Atn Atc tn L m lc w
 have HCE:=Lib.hid hce
 have RA:Hid (∀ W,Below w1.heap.size w1 W→Rd encBound 4 W AwA Awn Awc A.ways):=(show ∀ W,_→_ from fun W h=>(Aw.below hb1 (Nat.le_refl _)).below h (Nat.le_refl _))
 have RT:Hid (∀ W,Below w1.heap.size w1 W→Rd encBound 4 W AtA Atn Atc A.turns):=(show ∀ W,_→_ from fun W h=>(At.below hb1 (Nat.le_refl _)).below h (Nat.le_refl _))
 have RL:Hid (∀ W,Below w1.heap.size w1 W→Rd encInt 1 W L m lc l):=(show ∀ W,_→_ from fun W h=>(hL.below hb1 (Nat.le_refl _)).below h (Nat.le_refl _))
 have K1:=Lib.hid (fun W (h:Below w1.heap.size w1 W)=>r3CheckOutline_any A AwA Awn Awc AtA Atn Atc W (RA.out W h) (RT.out W h))
 have HB1:=Lib.hid hb1
 have HW1:=Lib.hid hw1
 obtain ⟨x0,x1,x2,x3,x4⟩:=hce w1 (Below.refl _ _)
 clear Aw At hL hb1 hw1 hce
 by_cases h1:checkOut A=0
 case neg=>
  have hv:ownFlawB A tn l=false:=by unfold ownFlawB;rw [decide_eq_false h1,Bool.false_and]
  rw [hv]
  have h1':(checkOut A != 0)=true:=by simpa using h1
  clear h1 hv
  generalize checkOut A=er at *
  go_enter Tryz.func34,Tryz.ntmps34
  go_wp2_with (first
   | rw [HW1.out]
   | (go_at_call 36;(with_reducible refine (K1.out _ (Below.refl _ _)).mono ?_);rintro e w2 ⟨rfl,hb2⟩;have HB2:=Lib.hid hb2;clear hb2))
  go_ret2
  exact ⟨rfl,HB1.out.trans (HB2.out.mono HB1.out.size)⟩
 case pos=>
  obtain ⟨n1,n2,s1,s2⟩:=checkOut_zero.1 h1
  have hv:ownFlawB A tn l=circleB (flawL A tn) l:=by unfold ownFlawB;rw [decide_eq_true h1,Bool.true_and]
  rw [hv]
  have C1:Hid (∀ W,Calls Tryz.prog 88 #[.agg #[.int .i64 A.n,.slice AwA Awn Awc,.slice AtA Atn Atc],.bool tn] W fun e w'=>e = .returned (ownV A.n AwA Awn Awc AtA Atn Atc tn)∧Below W.heap.size W w'):=(show ∀ W,_ from fun W=>r3Own_any A AwA Awn Awc AtA Atn Atc tn W (by omega) (by omega))
  have C2:Hid (∀ W,Below w1.heap.size w1 W→Calls Tryz.prog 73 #[ownV A.n AwA Awn Awc AtA Atn Atc tn,.slice L m lc] W fun e w'=>e = .returned (.tuple #[.bool (circleB (flawL A tn) l),.int .i64 0])∧Below W.heap.size W w'):=(show ∀ W,_→_ from fun W h=>by
   cases tn
   · have:=r1CheckCircle_any (A.n+1) AwA Awn Awc A.ways L m lc l W (RA.out W h) (RL.out W h) hm
     unfold r1cV at this
     rw [s1,decide_eq_true rfl,Bool.true_and] at this
     exact this
   · have:=r1CheckCircle_any A.n AtA Atn Atc A.turns L m lc l W (RT.out W h) (RL.out W h) hm
     unfold r1cV at this
     rw [s2,decide_eq_true rfl,Bool.true_and] at this
     exact this)
  rw [h1] at K1 ⊢
  generalize circleB (flawL A tn) l=R at *
  clear h1 hv n1 n2 s1 s2
  generalize ownV A.n AwA Awn Awc AtA Atn Atc tn=sv at *
  go_enter Tryz.func34,Tryz.ntmps34
  go_upto_region 4 with (first
   | rw [HW1.out]
   | (go_at_call 36;(with_reducible refine (K1.out _ (Below.refl _ _)).mono ?_);rintro e w2 ⟨rfl,hb2⟩;have HB2:=Lib.hid hb2;clear hb2))
  refine r3cfl4 _ rfl w.heap.size (w.heap.size+1) A.n (.slice AwA Awn Awc) (.slice AtA Atn Atc) (.bool tn) (.slice L m lc) sv R _ w2 _ rfl rfl rfl (fun W hW=>HCE.out W (HB2.out.trans (hW.mono HB2.out.size))) (fun W _=>C1.out W) (fun W hW=>C2.out W (HB2.out.trans (hW.mono HB2.out.size))) ?_
  intro w3 hb3
  have HB3:=Lib.hid (HB1.out.trans ((HB2.out.trans (hb3.mono HB2.out.size)).mono HB1.out.size))
  clear hb3
  simp only [setsL,Nat.reduceAdd,List.setIfInBounds_toArray,List.set_cons_succ,List.set_cons_zero]
  go_wp2
  go_ret2
  exact ⟨rfl,HB3.out⟩
end Go.Proofs.YtccabpahfmoamaaGreat
end

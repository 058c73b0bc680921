/- Contracts that the laws lean on: FitE. -/
import Derived.Test.YtccabpahfmoamaaGreatE39
section
namespace Go.Proofs.YtccabpahfmoamaaGreat
open Go.RowKit Go.Proofs Go.Shelf
def fitErr (A B:Outl) (p:Pairing) (turned:Bool):Int:=if pairErr A B p≠0 then pairErr A B p else if 400<(jntL A B p turned).length then 2 else 0
def fitV (A B:Outl) (p:Pairing) (turned:Bool):Int×List Bound:=if fitErr A B p turned=0 then (jntN A B p turned,jntL A B p turned) else (0,[])
theorem jntL_len (A B:Outl) (p:Pairing) (turned:Bool):(jntL A B p turned).length=if turned then A.turns.length+B.turns.length else A.ways.length+B.ways.length:=by
 unfold jntL
 cases turned
 · show (waysB A B p).length=_
   unfold waysB jointB
   rw [List.length_append,List.length_map];rfl
 · show (dirsB A B p).length=_
   unfold dirsB jointB
   rw [List.length_append,List.length_map];rfl
set_option maxRecDepth 100000 in
set_option maxHeartbeats 8000000 in
theorem r3Fit_any (A:Outl) (AwA:Option Addr) (Awn Awc:Nat) (AtA:Option Addr) (Atn Atc:Nat) (B:Outl) (BwA:Option Addr) (Bwn Bwc:Nat) (BtA:Option Addr) (Btn Btc:Nat) (p:Pairing) (turned:Bool) (w:World) (Aw:Rd encBound 4 w AwA Awn Awc A.ways) (At:Rd encBound 4 w AtA Atn Atc A.turns) (Bw:Rd encBound 4 w BwA Bwn Bwc B.ways) (Bt:Rd encBound 4 w BtA Btn Btc B.turns):
 Calls Tryz.prog 48 #[.agg #[.int .i64 A.n,.slice AwA Awn Awc,.slice AtA Atn Atc],.agg #[.int .i64 B.n,.slice BwA Bwn Bwc,.slice BtA Btn Btc],.agg #[.int .i64 p.a.lo,.int .i64 p.a.hi,.int .i64 p.b.lo,.int .i64 p.b.hi],.bool turned] w fun e w'=> ∃ A' c',e = .returned (.tuple #[.agg #[.int .i64 (fitV A B p turned).1,.slice A' (fitV A B p turned).2.length c'],.int .i64 (fitErr A B p turned)])∧Below w.heap.size w w'∧Own encBound 4 56 w.heap.size w' A' (fitV A B p turned).2.length c' (fitV A B p turned).2:=by
 obtain ⟨w1,hw1,hb1,hz1,hbx⟩:=boxABP w A AwA Awn Awc AtA Atn Atc B BwA Bwn Bwc BtA Btn Btc p
 obtain ⟨w2,hw2,lb2,z2,e2⟩:=alloc_facts w1 #[.int .i64 0,.slice none 0 0] 73
 have hb2:=hb1.trans (lb2.mono hb1.size)
 rw [hz1] at e2
 have KX:Hid (∀ W,Below w2.heap.size w2 W→BoxABP w.heap.size A AwA Awn Awc AtA Atn Atc B BwA Bwn Bwc BtA Btn Btc p W):=(show ∀ W,_→_ from fun W hW=>hbx W (lb2.trans (hW.mono lb2.size)))
 have HRZ:Hid (∀ W,Below w2.heap.size w2 W→W.heap[w.heap.size+1+1+1]? = some (.cells #[.int .i64 0,.slice none 0 0] 73 (0,0))):=(show ∀ W,_→_ from fun W hW=>(hW.block (w.heap.size+1+1+1) (by omega)).trans e2)
 have HCZ:Hid (∀ W:World,W.heap[w.heap.size+1+1+1]? = some (.cells #[.int .i64 0,.slice none 0 0] 73 (0,0))→W.cell? ⟨w.heap.size+1+1+1,0,none⟩=some (.int .i64 0)∧W.cell? ⟨w.heap.size+1+1+1,1,none⟩=some (.slice none 0 0)∧W.frozen? ⟨w.heap.size+1+1+1,0,none⟩=false∧W.frozen? ⟨w.heap.size+1+1+1,1,none⟩=false):=(show ∀ W:World,_→_ from fun W h=>by simp [World.cell?,World.frozen?,h])
 have RD:Hid (∀ W,Below w2.heap.size w2 W→Rd encBound 4 W AwA Awn Awc A.ways∧Rd encBound 4 W AtA Atn Atc A.turns∧Rd encBound 4 W BwA Bwn Bwc B.ways∧Rd encBound 4 W BtA Btn Btc B.turns):=(show ∀ W,_→_ from fun W h=>⟨(Aw.below hb2 (Nat.le_refl _)).below h (Nat.le_refl _),(At.below hb2 (Nat.le_refl _)).below h (Nat.le_refl _),(Bw.below hb2 (Nat.le_refl _)).below h (Nat.le_refl _),(Bt.below hb2 (Nat.le_refl _)).below h (Nat.le_refl _)⟩)
 have KP:Hid (∀ W,Below w2.heap.size w2 W→Calls Tryz.prog 38 #[.agg #[.int .i64 A.n,.slice AwA Awn Awc,.slice AtA Atn Atc],.agg #[.int .i64 B.n,.slice BwA Bwn Bwc,.slice BtA Btn Btc],.agg #[.int .i64 p.a.lo,.int .i64 p.a.hi,.int .i64 p.b.lo,.int .i64 p.b.hi]] W fun e w'=>e = .returned (.int .i64 (pairErr A B p))∧Below W.heap.size W w'):=(show ∀ W,_→_ from fun W h=>r3CheckPairing_any A AwA Awn Awc AtA Atn Atc B BwA Bwn Bwc BtA Btn Btc p W (RD.out W h).1 (RD.out W h).2.1 (RD.out W h).2.2.1 (RD.out W h).2.2.2)
 have l1:=Aw.len;have l2:=At.len;have l3:=Bw.len;have l4:=Bt.len
 have HB2:=Lib.hid hb2
 have HW1:=Lib.hid hw1
 have HW2:=Lib.hid hw2
 have hz2:w2.heap.size=w.heap.size+1+1+1+1:=(by omega)
 obtain ⟨xa0,xa1,xa2,xb0,xb1,xb2,xp0,xp1,xp2,xp3⟩:=KX.out w2 (Below.refl _ _)
 clear Aw At Bw Bt hb1 hw1 hbx hw2 lb2 z2 e2 hb2
 by_cases h1:pairErr A B p=0
 case neg=>
  have hv:fitErr A B p turned=pairErr A B p:=if_pos h1
  have hv2:fitV A B p turned=(0,[]):=if_neg (by rw [hv];exact h1)
  rw [hv,hv2]
  have h1':(pairErr A B p != 0)=true:=by simpa using h1
  clear h1 hv hv2 l1 l2 l3 l4
  generalize pairErr A B p=er at *
  go_enter Tryz.func48,Tryz.ntmps48
  go_wp2_with (first
   | rw [HW1.out]
   | rw [HW2.out]
   | (go_at_call 38;(with_reducible refine (KP.out _ (Below.refl _ _)).mono ?_);rintro e w3 ⟨rfl,hb3⟩
      have HB3:=Lib.hid hb3
      have HH3:=Lib.hid (HRZ.out w3 hb3)
      obtain ⟨f0,f1,g0,g1⟩:=HCZ.out w3 HH3.out
      clear hb3))
  refine bodyPost_ret (results_ct rfl _ _ (w.heap.size+1+1+1) _ _ (0,0) _ rfl (sys_set HH3.out) Tryz.underlying73 rfl (by kernel_rfl)) rfl ?_
  exact ⟨none,0,rfl,((HB2.out.trans (HB3.out.mono HB2.out.size)).setCell (p:=⟨w.heap.size+1+1+1,0,none⟩) (show w.heap.size≤w.heap.size+1+1+1 by omega) _).setCell (p:=⟨w.heap.size+1+1+1,1,none⟩) (show w.heap.size≤w.heap.size+1+1+1 by omega) _,Own.none_ _ _ _ _ _⟩
 case pos=>
  have hok:=pairErr_zero.1 h1
  cases turned
  case true=>
   have hlen:(jntL A B p true).length=(Atn+Btn):=by rw [jntL_len];simp only [if_true];omega
   have KJ:Hid (∀ W,Below w2.heap.size w2 W→Calls Tryz.prog 74 #[.agg #[.int .i64 A.n,.slice AwA Awn Awc,.slice AtA Atn Atc],.agg #[.int .i64 B.n,.slice BwA Bwn Bwc,.slice BtA Btn Btc],.agg #[.int .i64 p.a.lo,.int .i64 p.a.hi,.int .i64 p.b.lo,.int .i64 p.b.hi],.bool true] W fun e w'=> ∃ A' c',e = .returned (.agg #[.int .i64 (jntN A B p true),.slice A' (Atn+Btn) c'])∧Below W.heap.size W w'∧Own encBound 4 56 W.heap.size w' A' (Atn+Btn) c' (jntL A B p true)):=(show ∀ W,_→_ from fun W h=>r3joint_true A AwA Awn Awc AtA Atn Atc B BwA Bwn Bwc BtA Btn Btc p W (RD.out W h).1 (RD.out W h).2.1 (RD.out W h).2.2.1 (RD.out W h).2.2.2 hok)
   by_cases hfit:(400:Int)<((Atn+Btn:Nat):Int)
   · have hv:fitErr A B p true=2:=by unfold fitErr;rw [if_neg (fun h=>h h1),if_pos (by rw [hlen];omega)]
     have hv2:fitV A B p true=(0,[]):=if_neg (by rw [hv];decide)
     rw [hv,hv2]
     rw [h1] at KP
     clear h1 hv hv2 hok hlen l1 l2 l3 l4
     generalize jntL A B p true=JL at *
     generalize jntN A B p true=JN at *
     go_enter Tryz.func48,Tryz.ntmps48
     go_wp2_with (first
      | rw [HW1.out]
      | rw [HW2.out]
      | (go_at_call 38;(with_reducible refine (KP.out _ (Below.refl _ _)).mono ?_);rintro e w3 ⟨rfl,hb3⟩
         have HB3:=Lib.hid hb3
         obtain ⟨ya0,ya1,ya2,yb0,yb1,yb2,yp0,yp1,yp2,yp3⟩:=KX.out w3 hb3
         clear hb3)
      | (go_at_call 74;(with_reducible refine (KJ.out _ HB3.out).mono ?_);rintro e w4 ⟨A4,c4,rfl,hb4,ho4⟩
         obtain ⟨w5,a5,b5,z5,e5⟩:=alloc_facts w4 #[.int .i64 (JN),.slice A4 (Atn+Btn) c4] 73
         have HB5:=Lib.hid (HB3.out.trans ((hb4.trans (b5.mono hb4.size)).mono HB3.out.size))
         have HA5:=Lib.hid a5
         obtain ⟨d0,d1⟩:w5.cell? ⟨w4.heap.size,0,none⟩=some (.int .i64 (JN))∧w5.cell? ⟨w4.heap.size,1,none⟩=some (.slice A4 (Atn+Btn) c4):=(by simp [World.cell?,e5])
         have HH5:=Lib.hid (HRZ.out w5 HB5.out)
         obtain ⟨f0,f1,g0,g1⟩:=HCZ.out w5 HH5.out
         have HO5:=Lib.hid ((ho4.below b5 (Nat.le_refl _)).mono (B':=w.heap.size) (Nat.le_trans HB2.out.size HB3.out.size))
         have hz5:w.heap.size+1+1+1<w5.heap.size:=(by have:=HB5.out.size;omega)
         clear hb4 ho4 a5 b5 z5 e5)
      | rw [HA5.out])
     refine bodyPost_ret (results_ct rfl _ _ (w.heap.size+1+1+1) _ _ (0,0) _ rfl (sys_set HH5.out) Tryz.underlying73 rfl (by kernel_rfl)) rfl ?_
     have HBE:=((HB2.out.trans (HB5.out.mono HB2.out.size)).setCell (p:=⟨w.heap.size+1+1+1,0,none⟩) (show w.heap.size≤w.heap.size+1+1+1 by omega) (.int .i64 0)).setCell (p:=⟨w.heap.size+1+1+1,1,none⟩) (show w.heap.size≤w.heap.size+1+1+1 by omega) (.slice none 0 0)
     exact ⟨none,0,rfl,HBE,Own.none_ _ _ _ _ _⟩
   · have hv:fitErr A B p true=0:=by unfold fitErr;rw [if_neg (fun h=>h h1),if_neg (by rw [hlen];omega)]
     have hv2:fitV A B p true=(jntN A B p true,jntL A B p true):=if_pos hv
     rw [hv,hv2]
     simp only
     rw [hlen]
     rw [h1] at KP
     clear h1 hv hv2 hok hlen l1 l2 l3 l4
     generalize jntL A B p true=JL at *
     generalize jntN A B p true=JN at *
     go_enter Tryz.func48,Tryz.ntmps48
     go_wp2_with (first
      | rw [HW1.out]
      | rw [HW2.out]
      | (go_at_call 38;(with_reducible refine (KP.out _ (Below.refl _ _)).mono ?_);rintro e w3 ⟨rfl,hb3⟩
         have HB3:=Lib.hid hb3
         obtain ⟨ya0,ya1,ya2,yb0,yb1,yb2,yp0,yp1,yp2,yp3⟩:=KX.out w3 hb3
         clear hb3)
      | (go_at_call 74;(with_reducible refine (KJ.out _ HB3.out).mono ?_);rintro e w4 ⟨A4,c4,rfl,hb4,ho4⟩
         obtain ⟨w5,a5,b5,z5,e5⟩:=alloc_facts w4 #[.int .i64 (JN),.slice A4 (Atn+Btn) c4] 73
         have HB5:=Lib.hid (HB3.out.trans ((hb4.trans (b5.mono hb4.size)).mono HB3.out.size))
         have HA5:=Lib.hid a5
         obtain ⟨d0,d1⟩:w5.cell? ⟨w4.heap.size,0,none⟩=some (.int .i64 (JN))∧w5.cell? ⟨w4.heap.size,1,none⟩=some (.slice A4 (Atn+Btn) c4):=(by simp [World.cell?,e5])
         have HH5:=Lib.hid (HRZ.out w5 HB5.out)
         obtain ⟨f0,f1,g0,g1⟩:=HCZ.out w5 HH5.out
         have HO5:=Lib.hid ((ho4.below b5 (Nat.le_refl _)).mono (B':=w.heap.size) (Nat.le_trans HB2.out.size HB3.out.size))
         have hz5:w.heap.size+1+1+1<w5.heap.size:=(by have:=HB5.out.size;omega)
         clear hb4 ho4 a5 b5 z5 e5)
      | rw [HA5.out])
     refine bodyPost_ret (results_ct rfl _ _ (w.heap.size+1+1+1) _ _ (0,0) _ rfl (sys_set HH5.out) Tryz.underlying73 rfl (by kernel_rfl)) rfl ?_
     have HBE:=((HB2.out.trans (HB5.out.mono HB2.out.size)).setCell (p:=⟨w.heap.size+1+1+1,0,none⟩) (show w.heap.size≤w.heap.size+1+1+1 by omega) (.int .i64 (JN))).setCell (p:=⟨w.heap.size+1+1+1,1,none⟩) (show w.heap.size≤w.heap.size+1+1+1 by omega) (.slice A4 (Atn+Btn) c4)
     exact ⟨A4,c4,rfl,HBE,own_set (own_set HO5.out HH5.out (by decide) (i:=0) _) (heap_setCell_obj HH5.out) (by decide) (i:=1) _⟩
  case false=>
   have hlen:(jntL A B p false).length=(Awn+Bwn):=by rw [jntL_len];simp only [Bool.false_eq_true,if_false];omega
   have KJ:Hid (∀ W,Below w2.heap.size w2 W→Calls Tryz.prog 74 #[.agg #[.int .i64 A.n,.slice AwA Awn Awc,.slice AtA Atn Atc],.agg #[.int .i64 B.n,.slice BwA Bwn Bwc,.slice BtA Btn Btc],.agg #[.int .i64 p.a.lo,.int .i64 p.a.hi,.int .i64 p.b.lo,.int .i64 p.b.hi],.bool false] W fun e w'=> ∃ A' c',e = .returned (.agg #[.int .i64 (jntN A B p false),.slice A' (Awn+Bwn) c'])∧Below W.heap.size W w'∧Own encBound 4 56 W.heap.size w' A' (Awn+Bwn) c' (jntL A B p false)):=(show ∀ W,_→_ from fun W h=>r3joint_false A AwA Awn Awc AtA Atn Atc B BwA Bwn Bwc BtA Btn Btc p W (RD.out W h).1 (RD.out W h).2.1 (RD.out W h).2.2.1 (RD.out W h).2.2.2 hok)
   by_cases hfit:(400:Int)<((Awn+Bwn:Nat):Int)
   · have hv:fitErr A B p false=2:=by unfold fitErr;rw [if_neg (fun h=>h h1),if_pos (by rw [hlen];omega)]
     have hv2:fitV A B p false=(0,[]):=if_neg (by rw [hv];decide)
     rw [hv,hv2]
     rw [h1] at KP
     clear h1 hv hv2 hok hlen l1 l2 l3 l4
     generalize jntL A B p false=JL at *
     generalize jntN A B p false=JN at *
     go_enter Tryz.func48,Tryz.ntmps48
     go_wp2_with (first
      | rw [HW1.out]
      | rw [HW2.out]
      | (go_at_call 38;(with_reducible refine (KP.out _ (Below.refl _ _)).mono ?_);rintro e w3 ⟨rfl,hb3⟩
         have HB3:=Lib.hid hb3
         obtain ⟨ya0,ya1,ya2,yb0,yb1,yb2,yp0,yp1,yp2,yp3⟩:=KX.out w3 hb3
         clear hb3)
      | (go_at_call 74;(with_reducible refine (KJ.out _ HB3.out).mono ?_);rintro e w4 ⟨A4,c4,rfl,hb4,ho4⟩
         obtain ⟨w5,a5,b5,z5,e5⟩:=alloc_facts w4 #[.int .i64 (JN),.slice A4 (Awn+Bwn) c4] 73
         have HB5:=Lib.hid (HB3.out.trans ((hb4.trans (b5.mono hb4.size)).mono HB3.out.size))
         have HA5:=Lib.hid a5
         obtain ⟨d0,d1⟩:w5.cell? ⟨w4.heap.size,0,none⟩=some (.int .i64 (JN))∧w5.cell? ⟨w4.heap.size,1,none⟩=some (.slice A4 (Awn+Bwn) c4):=(by simp [World.cell?,e5])
         have HH5:=Lib.hid (HRZ.out w5 HB5.out)
         obtain ⟨f0,f1,g0,g1⟩:=HCZ.out w5 HH5.out
         have HO5:=Lib.hid ((ho4.below b5 (Nat.le_refl _)).mono (B':=w.heap.size) (Nat.le_trans HB2.out.size HB3.out.size))
         have hz5:w.heap.size+1+1+1<w5.heap.size:=(by have:=HB5.out.size;omega)
         clear hb4 ho4 a5 b5 z5 e5)
      | rw [HA5.out])
     refine bodyPost_ret (results_ct rfl _ _ (w.heap.size+1+1+1) _ _ (0,0) _ rfl (sys_set HH5.out) Tryz.underlying73 rfl (by kernel_rfl)) rfl ?_
     have HBE:=((HB2.out.trans (HB5.out.mono HB2.out.size)).setCell (p:=⟨w.heap.size+1+1+1,0,none⟩) (show w.heap.size≤w.heap.size+1+1+1 by omega) (.int .i64 0)).setCell (p:=⟨w.heap.size+1+1+1,1,none⟩) (show w.heap.size≤w.heap.size+1+1+1 by omega) (.slice none 0 0)
     exact ⟨none,0,rfl,HBE,Own.none_ _ _ _ _ _⟩
   · have hv:fitErr A B p false=0:=by unfold fitErr;rw [if_neg (fun h=>h h1),if_neg (by rw [hlen];omega)]
     have hv2:fitV A B p false=(jntN A B p false,jntL A B p false):=if_pos hv
     rw [hv,hv2]
     simp only
     rw [hlen]
     rw [h1] at KP
     clear h1 hv hv2 hok hlen l1 l2 l3 l4
     generalize jntL A B p false=JL at *
     generalize jntN A B p false=JN at *
     go_enter Tryz.func48,Tryz.ntmps48
     go_wp2_with (first
      | rw [HW1.out]
      | rw [HW2.out]
      | (go_at_call 38;(with_reducible refine (KP.out _ (Below.refl _ _)).mono ?_);rintro e w3 ⟨rfl,hb3⟩
         have HB3:=Lib.hid hb3
         obtain ⟨ya0,ya1,ya2,yb0,yb1,yb2,yp0,yp1,yp2,yp3⟩:=KX.out w3 hb3
         clear hb3)
      | (go_at_call 74;(with_reducible refine (KJ.out _ HB3.out).mono ?_);rintro e w4 ⟨A4,c4,rfl,hb4,ho4⟩
         obtain ⟨w5,a5,b5,z5,e5⟩:=alloc_facts w4 #[.int .i64 (JN),.slice A4 (Awn+Bwn) c4] 73
         have HB5:=Lib.hid (HB3.out.trans ((hb4.trans (b5.mono hb4.size)).mono HB3.out.size))
         have HA5:=Lib.hid a5
         obtain ⟨d0,d1⟩:w5.cell? ⟨w4.heap.size,0,none⟩=some (.int .i64 (JN))∧w5.cell? ⟨w4.heap.size,1,none⟩=some (.slice A4 (Awn+Bwn) c4):=(by simp [World.cell?,e5])
         have HH5:=Lib.hid (HRZ.out w5 HB5.out)
         obtain ⟨f0,f1,g0,g1⟩:=HCZ.out w5 HH5.out
         have HO5:=Lib.hid ((ho4.below b5 (Nat.le_refl _)).mono (B':=w.heap.size) (Nat.le_trans HB2.out.size HB3.out.size))
         have hz5:w.heap.size+1+1+1<w5.heap.size:=(by have:=HB5.out.size;omega)
         clear hb4 ho4 a5 b5 z5 e5)
      | rw [HA5.out])
     refine bodyPost_ret (results_ct rfl _ _ (w.heap.size+1+1+1) _ _ (0,0) _ rfl (sys_set HH5.out) Tryz.underlying73 rfl (by kernel_rfl)) rfl ?_
     have HBE:=((HB2.out.trans (HB5.out.mono HB2.out.size)).setCell (p:=⟨w.heap.size+1+1+1,0,none⟩) (show w.heap.size≤w.heap.size+1+1+1 by omega) (.int .i64 (JN))).setCell (p:=⟨w.heap.size+1+1+1,1,none⟩) (show w.heap.size≤w.heap.size+1+1+1 by omega) (.slice A4 (Awn+Bwn) c4)
     exact ⟨A4,c4,rfl,HBE,own_set (own_set HO5.out HH5.out (by decide) (i:=0) _) (heap_setCell_obj HH5.out) (by decide) (i:=1) _⟩
set_option maxRecDepth 100000 in
set_option maxHeartbeats 8000000 in
theorem FitE_any (A:Outl) (AwA:Option Addr) (Awn Awc:Nat) (AtA:Option Addr) (Atn Atc:Nat) (B:Outl) (BwA:Option Addr) (Bwn Bwc:Nat) (BtA:Option Addr) (Btn Btc:Nat) (p:Pairing) (turned:Bool) (w:World) (Aw:Rd encBound 4 w AwA Awn Awc A.ways) (At:Rd encBound 4 w AtA Atn Atc A.turns) (Bw:Rd encBound 4 w BwA Bwn Bwc B.ways) (Bt:Rd encBound 4 w BtA Btn Btc B.turns):
 Calls Tryz.prog 47 #[.agg #[.int .i64 A.n,.slice AwA Awn Awc,.slice AtA Atn Atc],.agg #[.int .i64 B.n,.slice BwA Bwn Bwc,.slice BtA Btn Btc],.agg #[.int .i64 p.a.lo,.int .i64 p.a.hi,.int .i64 p.b.lo,.int .i64 p.b.hi],.bool turned] w fun e w'=> ∃ A' c',e = .returned (.tuple #[.agg #[.int .i64 (fitV A B p turned).1,.slice A' (fitV A B p turned).2.length c'],.int .i64 (fitErr A B p turned)])∧Below w.heap.size w w'∧Own encBound 4 56 w.heap.size w' A' (fitV A B p turned).2.length c' (fitV A B p turned).2:=by
 obtain ⟨w1,hw1,hb1,hz1,hbx⟩:=boxABP w A AwA Awn Awc AtA Atn Atc B BwA Bwn Bwc BtA Btn Btc p
 obtain ⟨w2,hw2,lb2,z2,e2⟩:=alloc_facts w1 #[.int .i64 0,.slice none 0 0] 73
 have hb2:=hb1.trans (lb2.mono hb1.size)
 rw [hz1] at e2
 have KX:Hid (∀ W,Below w2.heap.size w2 W→BoxABP w.heap.size A AwA Awn Awc AtA Atn Atc B BwA Bwn Bwc BtA Btn Btc p W):=(show ∀ W,_→_ from fun W hW=>hbx W (lb2.trans (hW.mono lb2.size)))
 have HRZ:Hid (∀ W,Below w2.heap.size w2 W→W.heap[w.heap.size+1+1+1]? = some (.cells #[.int .i64 0,.slice none 0 0] 73 (0,0))):=(show ∀ W,_→_ from fun W hW=>(hW.block (w.heap.size+1+1+1) (by omega)).trans e2)
 have HCZ:Hid (∀ W:World,W.heap[w.heap.size+1+1+1]? = some (.cells #[.int .i64 0,.slice none 0 0] 73 (0,0))→W.cell? ⟨w.heap.size+1+1+1,0,none⟩=some (.int .i64 0)∧W.cell? ⟨w.heap.size+1+1+1,1,none⟩=some (.slice none 0 0)∧W.frozen? ⟨w.heap.size+1+1+1,0,none⟩=false∧W.frozen? ⟨w.heap.size+1+1+1,1,none⟩=false):=(show ∀ W:World,_→_ from fun W h=>by simp [World.cell?,World.frozen?,h])
 have RD:Hid (∀ W,Below w2.heap.size w2 W→Rd encBound 4 W AwA Awn Awc A.ways∧Rd encBound 4 W AtA Atn Atc A.turns∧Rd encBound 4 W BwA Bwn Bwc B.ways∧Rd encBound 4 W BtA Btn Btc B.turns):=(show ∀ W,_→_ from fun W h=>⟨(Aw.below hb2 (Nat.le_refl _)).below h (Nat.le_refl _),(At.below hb2 (Nat.le_refl _)).below h (Nat.le_refl _),(Bw.below hb2 (Nat.le_refl _)).below h (Nat.le_refl _),(Bt.below hb2 (Nat.le_refl _)).below h (Nat.le_refl _)⟩)
 have KP:Hid (∀ W,Below w2.heap.size w2 W→Calls Tryz.prog 37 #[.agg #[.int .i64 A.n,.slice AwA Awn Awc,.slice AtA Atn Atc],.agg #[.int .i64 B.n,.slice BwA Bwn Bwc,.slice BtA Btn Btc],.agg #[.int .i64 p.a.lo,.int .i64 p.a.hi,.int .i64 p.b.lo,.int .i64 p.b.hi]] W fun e w'=>e = .returned (.int .i64 (pairErr A B p))∧Below W.heap.size W w'):=(show ∀ W,_→_ from fun W h=>CheckPairing_any A AwA Awn Awc AtA Atn Atc B BwA Bwn Bwc BtA Btn Btc p W (RD.out W h).1 (RD.out W h).2.1 (RD.out W h).2.2.1 (RD.out W h).2.2.2)
 have l1:=Aw.len;have l2:=At.len;have l3:=Bw.len;have l4:=Bt.len
 have HB2:=Lib.hid hb2
 have HW1:=Lib.hid hw1
 have HW2:=Lib.hid hw2
 have hz2:w2.heap.size=w.heap.size+1+1+1+1:=(by omega)
 obtain ⟨xa0,xa1,xa2,xb0,xb1,xb2,xp0,xp1,xp2,xp3⟩:=KX.out w2 (Below.refl _ _)
 clear Aw At Bw Bt hb1 hw1 hbx hw2 lb2 z2 e2 hb2
 by_cases h1:pairErr A B p=0
 case neg=>
  have hv:fitErr A B p turned=pairErr A B p:=if_pos h1
  have hv2:fitV A B p turned=(0,[]):=if_neg (by rw [hv];exact h1)
  rw [hv,hv2]
  have h1':(pairErr A B p != 0)=true:=by simpa using h1
  clear h1 hv hv2 l1 l2 l3 l4
  generalize pairErr A B p=er at *
  go_enter Tryz.func47,Tryz.ntmps47
  go_wp2_with (first
   | rw [HW1.out]
   | rw [HW2.out]
   | (go_at_call 37;(with_reducible refine (KP.out _ (Below.refl _ _)).mono ?_);rintro e w3 ⟨rfl,hb3⟩
      have HB3:=Lib.hid hb3
      have HH3:=Lib.hid (HRZ.out w3 hb3)
      obtain ⟨f0,f1,g0,g1⟩:=HCZ.out w3 HH3.out
      clear hb3))
  refine bodyPost_ret (results_ct rfl _ _ (w.heap.size+1+1+1) _ _ (0,0) _ rfl (sys_set HH3.out) Tryz.underlying73 rfl (by kernel_rfl)) rfl ?_
  exact ⟨none,0,rfl,((HB2.out.trans (HB3.out.mono HB2.out.size)).setCell (p:=⟨w.heap.size+1+1+1,0,none⟩) (show w.heap.size≤w.heap.size+1+1+1 by omega) _).setCell (p:=⟨w.heap.size+1+1+1,1,none⟩) (show w.heap.size≤w.heap.size+1+1+1 by omega) _,Own.none_ _ _ _ _ _⟩
 case pos=>
  have hok:=pairErr_zero.1 h1
  cases turned
  case true=>
   have hlen:(jntL A B p true).length=(Atn+Btn):=by rw [jntL_len];simp only [if_true];omega
   have KW:Hid (∀ W,Below w2.heap.size w2 W→Calls Tryz.prog 79 #[.agg #[.int .i64 A.n,.slice AwA Awn Awc,.slice AtA Atn Atc,.int .i64 B.n,.slice BwA Bwn Bwc,.slice BtA Btn Btc,.int .i64 p.a.lo,.int .i64 p.a.hi,.int .i64 p.b.lo,.int .i64 p.b.hi]] W fun e w'=> ∃ A' c',e = .returned (.agg #[.int .i64 (waysN A B p),.slice A' (Awn+Bwn) c'])∧Below W.heap.size W w'∧RowS AwA Awn A.ways W.heap.size w' A' (Awn+Bwn) c' (waysB A B p)):=(show ∀ W,_→_ from fun W h=>pways_any A AwA Awn Awc AtA Atn Atc B BwA Bwn Bwc BtA Btn Btc p W (RD.out W h).1 (RD.out W h).2.1 (RD.out W h).2.2.1 (RD.out W h).2.2.2 hok)
   have KD:Hid (∀ W,Below w2.heap.size w2 W→Calls Tryz.prog 104 #[.agg #[.int .i64 A.n,.slice AwA Awn Awc,.slice AtA Atn Atc,.int .i64 B.n,.slice BwA Bwn Bwc,.slice BtA Btn Btc,.int .i64 p.a.lo,.int .i64 p.a.hi,.int .i64 p.b.lo,.int .i64 p.b.hi]] W fun e w'=> ∃ A' c',e = .returned (.agg #[.int .i64 (dirsN A B p),.slice A' (Atn+Btn) c'])∧Below W.heap.size W w'∧RowS AtA Atn A.turns W.heap.size w' A' (Atn+Btn) c' (dirsB A B p)):=(show ∀ W,_→_ from fun W h=>pdirs_any A AwA Awn Awc AtA Atn Atc B BwA Bwn Bwc BtA Btn Btc p W (RD.out W h).1 (RD.out W h).2.1 (RD.out W h).2.2.1 (RD.out W h).2.2.2 hok)
   have hb400:Awn≤400∧Atn≤400∧Bwn≤400∧Btn≤400:=by
    obtain ⟨_,_,n3,n4⟩:=checkOut_zero.1 hok.a
    obtain ⟨_,_,m3,m4⟩:=checkOut_zero.1 hok.b
    have:=(checkSys_zero.1 n3).2.2.1;have:=(checkSys_zero.1 n4).2.2.1;have:=(checkSys_zero.1 m3).2.2.1;have:=(checkSys_zero.1 m4).2.2.1
    omega
   have HJN:Hid (jntN A B p true=dirsN A B p∧jntL A B p true=dirsB A B p):=(show _∧_ from ⟨rfl,rfl⟩)
   by_cases hfit:(400:Int)<((Atn+Btn:Nat):Int)
   · have hv:fitErr A B p true=2:=by unfold fitErr;rw [if_neg (fun h=>h h1),if_pos (by rw [hlen];omega)]
     have hv2:fitV A B p true=(0,[]):=if_neg (by rw [hv];decide)
     rw [hv,hv2]
     rw [h1] at KP
     clear h1 hv hv2 hok hlen l1 l2 l3 l4
     go_enter Tryz.func47,Tryz.ntmps47
     go_wp2_with (first
      | rw [HW1.out]
      | rw [HW2.out]
      | (go_at_call 37;(with_reducible refine (KP.out _ (Below.refl _ _)).mono ?_);rintro e w3 ⟨rfl,hb3⟩
         obtain ⟨w4,a4,b4,z4,e4⟩:=alloc_facts w3 #[.int .i64 A.n,.slice AwA Awn Awc,.slice AtA Atn Atc,.int .i64 B.n,.slice BwA Bwn Bwc,.slice BtA Btn Btc,.int .i64 p.a.lo,.int .i64 p.a.hi,.int .i64 p.b.lo,.int .i64 p.b.hi] 91
         have HB4:=Lib.hid (hb3.trans (b4.mono hb3.size))
         have HA4:=Lib.hid a4
         have HE4:=Lib.hid e4
         have Z4:Hid (w4.heap.size=w3.heap.size+1):=(show _=_ from z4)
         obtain ⟨ya0,ya1,ya2,yb0,yb1,yb2,yp0,yp1,yp2,yp3⟩:=KX.out w3 hb3
         obtain ⟨t0,t1,t2,t3,t4,t5,t6,t7,t8,t9⟩:=ten_cells e4
         clear hb3 a4 b4 z4 e4)
      | rw [HA4.out]
      | (go_at_call 79;(with_reducible refine (KW.out _ HB4.out).mono ?_);rintro e w5 ⟨A5,c5,rfl,hb5,hr5⟩
         obtain ⟨w6,a6,b6,z6,e6⟩:=alloc_facts w5 #[.int .i64 (waysN A B p),.slice A5 (Awn+Bwn) c5] 73
         have HB6:=Lib.hid (HB4.out.trans ((hb5.trans (b6.mono hb5.size)).mono HB4.out.size))
         have HA6:=Lib.hid a6
         have HE6:=Lib.hid e6
         have Z6:Hid (w6.heap.size=w5.heap.size+1∧w4.heap.size≤w5.heap.size):=(show _∧_ from ⟨z6,hb5.size⟩)
         have HR6:=Lib.hid ((hr5.below b6 (Nat.le_refl _)).rd (RD.out w6 HB6.out).1 (by omega))
         obtain ⟨d0,d1⟩:w6.cell? ⟨w5.heap.size,0,none⟩=some (.int .i64 (waysN A B p))∧w6.cell? ⟨w5.heap.size,1,none⟩=some (.slice A5 (Awn+Bwn) c5):=(by simp [World.cell?,e6])
         obtain ⟨d2,d3⟩:w6.frozen? ⟨w5.heap.size,0,none⟩=false∧w6.frozen? ⟨w5.heap.size,1,none⟩=false:=(by simp [World.frozen?,e6])
         have hh4:=((b6.block w3.heap.size (by have:=hb5.size;have:=Z4.out;omega)).trans (hb5.block w3.heap.size (by have:=Z4.out;omega))).trans HE4.out
         obtain ⟨u0,u1,u2,u3,u4,u5,u6,u7,u8,u9⟩:=ten_cells hh4
         have hne6:w5.heap.size≠w.heap.size+1+1+1:=(by have:=HB4.out.size;have:=hb5.size;omega)
         have HH6:=Lib.hid (HRZ.out w6 HB6.out)
         obtain ⟨f0,f1,g0,g1⟩:=HCZ.out w6 HH6.out
         clear hb5 hr5 a6 b6 z6 e6 hh4)
      | rw [HA6.out]
      | (go_at_call 104;(with_reducible refine (KD.out _ HB6.out).mono ?_);rintro e w7 ⟨A7,c7,rfl,hb7,hr7⟩
         have hh7:=(hb7.block w5.heap.size (by have:=Z6.out;omega)).trans HE6.out
         obtain ⟨v0,v1⟩:w7.cell? ⟨w5.heap.size,0,none⟩=some (.int .i64 (waysN A B p))∧w7.cell? ⟨w5.heap.size,1,none⟩=some (.slice A5 (Awn+Bwn) c5):=(by simp [World.cell?,hh7])
         obtain ⟨v2,v3⟩:w7.frozen? ⟨w5.heap.size,0,none⟩=false∧w7.frozen? ⟨w5.heap.size,1,none⟩=false:=(by simp [World.frozen?,hh7])
         obtain ⟨w8,hw8⟩:∃ w8,(w7.setCell ⟨w5.heap.size,0,none⟩ (.int .i64 (dirsN A B p))).setCell ⟨w5.heap.size,1,none⟩ (.slice A7 (Atn+Btn) c7)=w8:=⟨_,rfl⟩
         have hb67:=HB6.out.trans (hb7.mono HB6.out.size)
         have hh8:w8.heap[w5.heap.size]? = some (.cells #[.int .i64 (dirsN A B p),.slice A7 (Atn+Btn) c7] 73 (0,0)):=(by rw [←hw8];exact sys_set hh7)
         have hb8:Below w2.heap.size w2 w8:=(by rw [←hw8];exact (hb67.setCell (p:=⟨w5.heap.size,0,none⟩) (show w2.heap.size≤w5.heap.size from Nat.le_trans HB4.out.size Z6.out.2) _).setCell (p:=⟨w5.heap.size,1,none⟩) (show w2.heap.size≤w5.heap.size from Nat.le_trans HB4.out.size Z6.out.2) _)
         have hr8:RowS AtA Atn A.turns w6.heap.size w8 A7 (Atn+Btn) c7 (dirsB A B p):=(by rw [←hw8];exact (hr7.set hh7 (by decide) _).set (heap_setCell_obj hh7) (by decide) _)
         have HR8:=Lib.hid (hr8.rd (RD.out w8 hb8).2.1 (by omega))
         have HB8:=Lib.hid hb8
         have HH8:=Lib.hid hh8
         have HW8:=Lib.hid hw8
         have hs8:w8.heap.size=w7.heap.size:=(by rw [←hw8];simp)
         have Z8:Hid (w5.heap.size<w8.heap.size):=(show _<_ from (by have:=Z6.out;have:=hb7.size;omega))
         have HHZ8:=Lib.hid (HRZ.out w8 hb8)
         obtain ⟨f8,f9,g8,g9⟩:=HCZ.out w8 HHZ8.out
         obtain ⟨m0,m1,m2,m3⟩:w8.cell? ⟨w5.heap.size,0,none⟩=some (.int .i64 (dirsN A B p))∧w8.cell? ⟨w5.heap.size,1,none⟩=some (.slice A7 (Atn+Btn) c7)∧w8.frozen? ⟨w5.heap.size,0,none⟩=false∧w8.frozen? ⟨w5.heap.size,1,none⟩=false:=(by simp [World.cell?,World.frozen?,hh8])
         clear hb7 hr7 hh7 hw8 hb67 hh8 hb8 hr8 hs8)
      | rw [HW8.out])
     refine bodyPost_ret (results_ct rfl _ _ (w.heap.size+1+1+1) _ _ (0,0) _ rfl (sys_set HHZ8.out) Tryz.underlying73 rfl (by kernel_rfl)) rfl ?_
     have HBE:=((HB2.out.trans (HB8.out.mono HB2.out.size)).setCell (p:=⟨w.heap.size+1+1+1,0,none⟩) (show w.heap.size≤w.heap.size+1+1+1 by omega) (.int .i64 0)).setCell (p:=⟨w.heap.size+1+1+1,1,none⟩) (show w.heap.size≤w.heap.size+1+1+1 by omega) (.slice none 0 0)
     exact ⟨none,0,rfl,HBE,Own.none_ _ _ _ _ _⟩
   · have hv:fitErr A B p true=0:=by unfold fitErr;rw [if_neg (fun h=>h h1),if_neg (by rw [hlen];omega)]
     have hv2:fitV A B p true=(jntN A B p true,jntL A B p true):=if_pos hv
     rw [hv,hv2]
     simp only
     rw [hlen,HJN.out.1,HJN.out.2]
     rw [h1] at KP
     clear h1 hv hv2 hok hlen l1 l2 l3 l4
     go_enter Tryz.func47,Tryz.ntmps47
     go_wp2_with (first
      | rw [HW1.out]
      | rw [HW2.out]
      | (go_at_call 37;(with_reducible refine (KP.out _ (Below.refl _ _)).mono ?_);rintro e w3 ⟨rfl,hb3⟩
         obtain ⟨w4,a4,b4,z4,e4⟩:=alloc_facts w3 #[.int .i64 A.n,.slice AwA Awn Awc,.slice AtA Atn Atc,.int .i64 B.n,.slice BwA Bwn Bwc,.slice BtA Btn Btc,.int .i64 p.a.lo,.int .i64 p.a.hi,.int .i64 p.b.lo,.int .i64 p.b.hi] 91
         have HB4:=Lib.hid (hb3.trans (b4.mono hb3.size))
         have HA4:=Lib.hid a4
         have HE4:=Lib.hid e4
         have Z4:Hid (w4.heap.size=w3.heap.size+1):=(show _=_ from z4)
         obtain ⟨ya0,ya1,ya2,yb0,yb1,yb2,yp0,yp1,yp2,yp3⟩:=KX.out w3 hb3
         obtain ⟨t0,t1,t2,t3,t4,t5,t6,t7,t8,t9⟩:=ten_cells e4
         clear hb3 a4 b4 z4 e4)
      | rw [HA4.out]
      | (go_at_call 79;(with_reducible refine (KW.out _ HB4.out).mono ?_);rintro e w5 ⟨A5,c5,rfl,hb5,hr5⟩
         obtain ⟨w6,a6,b6,z6,e6⟩:=alloc_facts w5 #[.int .i64 (waysN A B p),.slice A5 (Awn+Bwn) c5] 73
         have HB6:=Lib.hid (HB4.out.trans ((hb5.trans (b6.mono hb5.size)).mono HB4.out.size))
         have HA6:=Lib.hid a6
         have HE6:=Lib.hid e6
         have Z6:Hid (w6.heap.size=w5.heap.size+1∧w4.heap.size≤w5.heap.size):=(show _∧_ from ⟨z6,hb5.size⟩)
         have HR6:=Lib.hid ((hr5.below b6 (Nat.le_refl _)).rd (RD.out w6 HB6.out).1 (by omega))
         obtain ⟨d0,d1⟩:w6.cell? ⟨w5.heap.size,0,none⟩=some (.int .i64 (waysN A B p))∧w6.cell? ⟨w5.heap.size,1,none⟩=some (.slice A5 (Awn+Bwn) c5):=(by simp [World.cell?,e6])
         obtain ⟨d2,d3⟩:w6.frozen? ⟨w5.heap.size,0,none⟩=false∧w6.frozen? ⟨w5.heap.size,1,none⟩=false:=(by simp [World.frozen?,e6])
         have hh4:=((b6.block w3.heap.size (by have:=hb5.size;have:=Z4.out;omega)).trans (hb5.block w3.heap.size (by have:=Z4.out;omega))).trans HE4.out
         obtain ⟨u0,u1,u2,u3,u4,u5,u6,u7,u8,u9⟩:=ten_cells hh4
         have hne6:w5.heap.size≠w.heap.size+1+1+1:=(by have:=HB4.out.size;have:=hb5.size;omega)
         have HH6:=Lib.hid (HRZ.out w6 HB6.out)
         obtain ⟨f0,f1,g0,g1⟩:=HCZ.out w6 HH6.out
         clear hb5 hr5 a6 b6 z6 e6 hh4)
      | rw [HA6.out]
      | (go_at_call 104;(with_reducible refine (KD.out _ HB6.out).mono ?_);rintro e w7 ⟨A7,c7,rfl,hb7,hr7⟩
         have hh7:=(hb7.block w5.heap.size (by have:=Z6.out;omega)).trans HE6.out
         obtain ⟨v0,v1⟩:w7.cell? ⟨w5.heap.size,0,none⟩=some (.int .i64 (waysN A B p))∧w7.cell? ⟨w5.heap.size,1,none⟩=some (.slice A5 (Awn+Bwn) c5):=(by simp [World.cell?,hh7])
         obtain ⟨v2,v3⟩:w7.frozen? ⟨w5.heap.size,0,none⟩=false∧w7.frozen? ⟨w5.heap.size,1,none⟩=false:=(by simp [World.frozen?,hh7])
         obtain ⟨w8,hw8⟩:∃ w8,(w7.setCell ⟨w5.heap.size,0,none⟩ (.int .i64 (dirsN A B p))).setCell ⟨w5.heap.size,1,none⟩ (.slice A7 (Atn+Btn) c7)=w8:=⟨_,rfl⟩
         have hb67:=HB6.out.trans (hb7.mono HB6.out.size)
         have hh8:w8.heap[w5.heap.size]? = some (.cells #[.int .i64 (dirsN A B p),.slice A7 (Atn+Btn) c7] 73 (0,0)):=(by rw [←hw8];exact sys_set hh7)
         have hb8:Below w2.heap.size w2 w8:=(by rw [←hw8];exact (hb67.setCell (p:=⟨w5.heap.size,0,none⟩) (show w2.heap.size≤w5.heap.size from Nat.le_trans HB4.out.size Z6.out.2) _).setCell (p:=⟨w5.heap.size,1,none⟩) (show w2.heap.size≤w5.heap.size from Nat.le_trans HB4.out.size Z6.out.2) _)
         have hr8:RowS AtA Atn A.turns w6.heap.size w8 A7 (Atn+Btn) c7 (dirsB A B p):=(by rw [←hw8];exact (hr7.set hh7 (by decide) _).set (heap_setCell_obj hh7) (by decide) _)
         have HR8:=Lib.hid (hr8.rd (RD.out w8 hb8).2.1 (by omega))
         have HB8:=Lib.hid hb8
         have HH8:=Lib.hid hh8
         have HW8:=Lib.hid hw8
         have hs8:w8.heap.size=w7.heap.size:=(by rw [←hw8];simp)
         have Z8:Hid (w5.heap.size<w8.heap.size):=(show _<_ from (by have:=Z6.out;have:=hb7.size;omega))
         have HHZ8:=Lib.hid (HRZ.out w8 hb8)
         obtain ⟨f8,f9,g8,g9⟩:=HCZ.out w8 HHZ8.out
         obtain ⟨m0,m1,m2,m3⟩:w8.cell? ⟨w5.heap.size,0,none⟩=some (.int .i64 (dirsN A B p))∧w8.cell? ⟨w5.heap.size,1,none⟩=some (.slice A7 (Atn+Btn) c7)∧w8.frozen? ⟨w5.heap.size,0,none⟩=false∧w8.frozen? ⟨w5.heap.size,1,none⟩=false:=(by simp [World.cell?,World.frozen?,hh8])
         clear hb7 hr7 hh7 hw8 hb67 hh8 hb8 hr8 hs8)
      | rw [HW8.out]
      | (go_at_call 87;(with_reducible refine (Clone_Bound A7 (Atn+Btn) c7 _ _ HR8.out (by omega)).mono ?_);rintro e w9 ⟨A9,c9,rfl,ho9,hb9⟩
         have hh9:=(hb9.block w5.heap.size (by exact Z8.out)).trans HH8.out
         obtain ⟨k0,k1,k2,k3⟩:w9.cell? ⟨w5.heap.size,0,none⟩=some (.int .i64 (dirsN A B p))∧w9.cell? ⟨w5.heap.size,1,none⟩=some (.slice A7 (Atn+Btn) c7)∧w9.frozen? ⟨w5.heap.size,0,none⟩=false∧w9.frozen? ⟨w5.heap.size,1,none⟩=false:=(by simp [World.cell?,World.frozen?,hh9])
         have HB9:=Lib.hid (HB8.out.trans (hb9.mono HB8.out.size))
         have HHZ9:=Lib.hid (HRZ.out w9 HB9.out)
         obtain ⟨f10,f11,g10,g11⟩:=HCZ.out w9 HHZ9.out
         obtain ⟨wt,hwt⟩:∃ wt,w9.setCell ⟨w5.heap.size,1,none⟩ (.slice A9 (Atn+Btn) c9)=wt:=⟨_,rfl⟩
         have HWT:=Lib.hid hwt
         have hht:wt.heap[w5.heap.size]? = some (.cells #[.int .i64 (dirsN A B p),.slice A9 (Atn+Btn) c9] 73 (0,0)):=(by rw [←hwt,heap_setCell_obj hh9];rfl)
         have hbt:Below w2.heap.size w2 wt:=(by rw [←hwt];exact HB9.out.setCell (p:=⟨w5.heap.size,1,none⟩) (show w2.heap.size≤w5.heap.size from Nat.le_trans HB4.out.size Z6.out.2) _)
         have HBT:=Lib.hid hbt
         have HHT:=Lib.hid (HRZ.out wt hbt)
         obtain ⟨f12,f13,g12,g13⟩:=HCZ.out wt HHT.out
         obtain ⟨j0,j1⟩:wt.cell? ⟨w5.heap.size,0,none⟩=some (.int .i64 (dirsN A B p))∧wt.cell? ⟨w5.heap.size,1,none⟩=some (.slice A9 (Atn+Btn) c9):=(by simp [World.cell?,hht])
         have HOT:Hid (Own encBound 4 56 w.heap.size wt A9 (Atn+Btn) c9 (dirsB A B p)):=(show Own _ _ _ _ _ _ _ _ _ from by rw [←hwt];exact own_set (ho9.mono (Nat.le_trans HB2.out.size HB8.out.size)) hh9 (by decide) _)
         clear hb9 ho9 hh9 hwt hht hbt)
      | rw [HWT.out])
     refine bodyPost_ret (results_ct rfl _ _ (w.heap.size+1+1+1) _ _ (0,0) _ rfl (sys_set HHT.out) Tryz.underlying73 rfl (by kernel_rfl)) rfl ?_
     have HBE:=((HB2.out.trans (HBT.out.mono HB2.out.size)).setCell (p:=⟨w.heap.size+1+1+1,0,none⟩) (show w.heap.size≤w.heap.size+1+1+1 by omega) (.int .i64 (dirsN A B p))).setCell (p:=⟨w.heap.size+1+1+1,1,none⟩) (show w.heap.size≤w.heap.size+1+1+1 by omega) (.slice A9 (Atn+Btn) c9)
     exact ⟨A9,c9,rfl,HBE,own_set (own_set HOT.out HHT.out (by decide) (i:=0) _) (heap_setCell_obj HHT.out) (by decide) (i:=1) _⟩
  case false=>
   have hlen:(jntL A B p false).length=(Awn+Bwn):=by rw [jntL_len];simp only [Bool.false_eq_true,if_false];omega
   have KW:Hid (∀ W,Below w2.heap.size w2 W→Calls Tryz.prog 79 #[.agg #[.int .i64 A.n,.slice AwA Awn Awc,.slice AtA Atn Atc,.int .i64 B.n,.slice BwA Bwn Bwc,.slice BtA Btn Btc,.int .i64 p.a.lo,.int .i64 p.a.hi,.int .i64 p.b.lo,.int .i64 p.b.hi]] W fun e w'=> ∃ A' c',e = .returned (.agg #[.int .i64 (waysN A B p),.slice A' (Awn+Bwn) c'])∧Below W.heap.size W w'∧RowS AwA Awn A.ways W.heap.size w' A' (Awn+Bwn) c' (waysB A B p)):=(show ∀ W,_→_ from fun W h=>pways_any A AwA Awn Awc AtA Atn Atc B BwA Bwn Bwc BtA Btn Btc p W (RD.out W h).1 (RD.out W h).2.1 (RD.out W h).2.2.1 (RD.out W h).2.2.2 hok)
   have KD:Hid (∀ W,Below w2.heap.size w2 W→Calls Tryz.prog 104 #[.agg #[.int .i64 A.n,.slice AwA Awn Awc,.slice AtA Atn Atc,.int .i64 B.n,.slice BwA Bwn Bwc,.slice BtA Btn Btc,.int .i64 p.a.lo,.int .i64 p.a.hi,.int .i64 p.b.lo,.int .i64 p.b.hi]] W fun e w'=> ∃ A' c',e = .returned (.agg #[.int .i64 (dirsN A B p),.slice A' (Atn+Btn) c'])∧Below W.heap.size W w'∧RowS AtA Atn A.turns W.heap.size w' A' (Atn+Btn) c' (dirsB A B p)):=(show ∀ W,_→_ from fun W h=>pdirs_any A AwA Awn Awc AtA Atn Atc B BwA Bwn Bwc BtA Btn Btc p W (RD.out W h).1 (RD.out W h).2.1 (RD.out W h).2.2.1 (RD.out W h).2.2.2 hok)
   have hb400:Awn≤400∧Atn≤400∧Bwn≤400∧Btn≤400:=by
    obtain ⟨_,_,n3,n4⟩:=checkOut_zero.1 hok.a
    obtain ⟨_,_,m3,m4⟩:=checkOut_zero.1 hok.b
    have:=(checkSys_zero.1 n3).2.2.1;have:=(checkSys_zero.1 n4).2.2.1;have:=(checkSys_zero.1 m3).2.2.1;have:=(checkSys_zero.1 m4).2.2.1
    omega
   have HJN:Hid (jntN A B p false=waysN A B p∧jntL A B p false=waysB A B p):=(show _∧_ from ⟨rfl,rfl⟩)
   by_cases hfit:(400:Int)<((Awn+Bwn:Nat):Int)
   · have hv:fitErr A B p false=2:=by unfold fitErr;rw [if_neg (fun h=>h h1),if_pos (by rw [hlen];omega)]
     have hv2:fitV A B p false=(0,[]):=if_neg (by rw [hv];decide)
     rw [hv,hv2]
     rw [h1] at KP
     clear h1 hv hv2 hok hlen l1 l2 l3 l4
     go_enter Tryz.func47,Tryz.ntmps47
     go_wp2_with (first
      | rw [HW1.out]
      | rw [HW2.out]
      | (go_at_call 37;(with_reducible refine (KP.out _ (Below.refl _ _)).mono ?_);rintro e w3 ⟨rfl,hb3⟩
         obtain ⟨w4,a4,b4,z4,e4⟩:=alloc_facts w3 #[.int .i64 A.n,.slice AwA Awn Awc,.slice AtA Atn Atc,.int .i64 B.n,.slice BwA Bwn Bwc,.slice BtA Btn Btc,.int .i64 p.a.lo,.int .i64 p.a.hi,.int .i64 p.b.lo,.int .i64 p.b.hi] 91
         have HB4:=Lib.hid (hb3.trans (b4.mono hb3.size))
         have HA4:=Lib.hid a4
         have HE4:=Lib.hid e4
         have Z4:Hid (w4.heap.size=w3.heap.size+1):=(show _=_ from z4)
         obtain ⟨ya0,ya1,ya2,yb0,yb1,yb2,yp0,yp1,yp2,yp3⟩:=KX.out w3 hb3
         obtain ⟨t0,t1,t2,t3,t4,t5,t6,t7,t8,t9⟩:=ten_cells e4
         clear hb3 a4 b4 z4 e4)
      | rw [HA4.out]
      | (go_at_call 79;(with_reducible refine (KW.out _ HB4.out).mono ?_);rintro e w5 ⟨A5,c5,rfl,hb5,hr5⟩
         obtain ⟨w6,a6,b6,z6,e6⟩:=alloc_facts w5 #[.int .i64 (waysN A B p),.slice A5 (Awn+Bwn) c5] 73
         have HB6:=Lib.hid (HB4.out.trans ((hb5.trans (b6.mono hb5.size)).mono HB4.out.size))
         have HA6:=Lib.hid a6
         have HE6:=Lib.hid e6
         have Z6:Hid (w6.heap.size=w5.heap.size+1∧w4.heap.size≤w5.heap.size):=(show _∧_ from ⟨z6,hb5.size⟩)
         have HR6:=Lib.hid ((hr5.below b6 (Nat.le_refl _)).rd (RD.out w6 HB6.out).1 (by omega))
         obtain ⟨d0,d1⟩:w6.cell? ⟨w5.heap.size,0,none⟩=some (.int .i64 (waysN A B p))∧w6.cell? ⟨w5.heap.size,1,none⟩=some (.slice A5 (Awn+Bwn) c5):=(by simp [World.cell?,e6])
         obtain ⟨d2,d3⟩:w6.frozen? ⟨w5.heap.size,0,none⟩=false∧w6.frozen? ⟨w5.heap.size,1,none⟩=false:=(by simp [World.frozen?,e6])
         have hh4:=((b6.block w3.heap.size (by have:=hb5.size;have:=Z4.out;omega)).trans (hb5.block w3.heap.size (by have:=Z4.out;omega))).trans HE4.out
         obtain ⟨u0,u1,u2,u3,u4,u5,u6,u7,u8,u9⟩:=ten_cells hh4
         have hne6:w5.heap.size≠w.heap.size+1+1+1:=(by have:=HB4.out.size;have:=hb5.size;omega)
         have HH6:=Lib.hid (HRZ.out w6 HB6.out)
         obtain ⟨f0,f1,g0,g1⟩:=HCZ.out w6 HH6.out
         clear hb5 hr5 a6 b6 z6 e6 hh4)
      | rw [HA6.out])
     refine bodyPost_ret (results_ct rfl _ _ (w.heap.size+1+1+1) _ _ (0,0) _ rfl (sys_set HH6.out) Tryz.underlying73 rfl (by kernel_rfl)) rfl ?_
     have HBE:=((HB2.out.trans (HB6.out.mono HB2.out.size)).setCell (p:=⟨w.heap.size+1+1+1,0,none⟩) (show w.heap.size≤w.heap.size+1+1+1 by omega) (.int .i64 0)).setCell (p:=⟨w.heap.size+1+1+1,1,none⟩) (show w.heap.size≤w.heap.size+1+1+1 by omega) (.slice none 0 0)
     exact ⟨none,0,rfl,HBE,Own.none_ _ _ _ _ _⟩
   · have hv:fitErr A B p false=0:=by unfold fitErr;rw [if_neg (fun h=>h h1),if_neg (by rw [hlen];omega)]
     have hv2:fitV A B p false=(jntN A B p false,jntL A B p false):=if_pos hv
     rw [hv,hv2]
     simp only
     rw [hlen,HJN.out.1,HJN.out.2]
     rw [h1] at KP
     clear h1 hv hv2 hok hlen l1 l2 l3 l4
     go_enter Tryz.func47,Tryz.ntmps47
     go_wp2_with (first
      | rw [HW1.out]
      | rw [HW2.out]
      | (go_at_call 37;(with_reducible refine (KP.out _ (Below.refl _ _)).mono ?_);rintro e w3 ⟨rfl,hb3⟩
         obtain ⟨w4,a4,b4,z4,e4⟩:=alloc_facts w3 #[.int .i64 A.n,.slice AwA Awn Awc,.slice AtA Atn Atc,.int .i64 B.n,.slice BwA Bwn Bwc,.slice BtA Btn Btc,.int .i64 p.a.lo,.int .i64 p.a.hi,.int .i64 p.b.lo,.int .i64 p.b.hi] 91
         have HB4:=Lib.hid (hb3.trans (b4.mono hb3.size))
         have HA4:=Lib.hid a4
         have HE4:=Lib.hid e4
         have Z4:Hid (w4.heap.size=w3.heap.size+1):=(show _=_ from z4)
         obtain ⟨ya0,ya1,ya2,yb0,yb1,yb2,yp0,yp1,yp2,yp3⟩:=KX.out w3 hb3
         obtain ⟨t0,t1,t2,t3,t4,t5,t6,t7,t8,t9⟩:=ten_cells e4
         clear hb3 a4 b4 z4 e4)
      | rw [HA4.out]
      | (go_at_call 79;(with_reducible refine (KW.out _ HB4.out).mono ?_);rintro e w5 ⟨A5,c5,rfl,hb5,hr5⟩
         obtain ⟨w6,a6,b6,z6,e6⟩:=alloc_facts w5 #[.int .i64 (waysN A B p),.slice A5 (Awn+Bwn) c5] 73
         have HB6:=Lib.hid (HB4.out.trans ((hb5.trans (b6.mono hb5.size)).mono HB4.out.size))
         have HA6:=Lib.hid a6
         have HE6:=Lib.hid e6
         have Z6:Hid (w6.heap.size=w5.heap.size+1∧w4.heap.size≤w5.heap.size):=(show _∧_ from ⟨z6,hb5.size⟩)
         have HR6:=Lib.hid ((hr5.below b6 (Nat.le_refl _)).rd (RD.out w6 HB6.out).1 (by omega))
         obtain ⟨d0,d1⟩:w6.cell? ⟨w5.heap.size,0,none⟩=some (.int .i64 (waysN A B p))∧w6.cell? ⟨w5.heap.size,1,none⟩=some (.slice A5 (Awn+Bwn) c5):=(by simp [World.cell?,e6])
         obtain ⟨d2,d3⟩:w6.frozen? ⟨w5.heap.size,0,none⟩=false∧w6.frozen? ⟨w5.heap.size,1,none⟩=false:=(by simp [World.frozen?,e6])
         have hh4:=((b6.block w3.heap.size (by have:=hb5.size;have:=Z4.out;omega)).trans (hb5.block w3.heap.size (by have:=Z4.out;omega))).trans HE4.out
         obtain ⟨u0,u1,u2,u3,u4,u5,u6,u7,u8,u9⟩:=ten_cells hh4
         have hne6:w5.heap.size≠w.heap.size+1+1+1:=(by have:=HB4.out.size;have:=hb5.size;omega)
         have HH6:=Lib.hid (HRZ.out w6 HB6.out)
         obtain ⟨f0,f1,g0,g1⟩:=HCZ.out w6 HH6.out
         clear hb5 hr5 a6 b6 z6 e6 hh4)
      | rw [HA6.out]
      | (go_at_call 87;(with_reducible refine (Clone_Bound A5 (Awn+Bwn) c5 _ _ HR6.out (by omega)).mono ?_);rintro e w9 ⟨A9,c9,rfl,ho9,hb9⟩
         have hh9:=(hb9.block w5.heap.size (by have:=Z6.out;omega)).trans HE6.out
         obtain ⟨k0,k1,k2,k3⟩:w9.cell? ⟨w5.heap.size,0,none⟩=some (.int .i64 (waysN A B p))∧w9.cell? ⟨w5.heap.size,1,none⟩=some (.slice A5 (Awn+Bwn) c5)∧w9.frozen? ⟨w5.heap.size,0,none⟩=false∧w9.frozen? ⟨w5.heap.size,1,none⟩=false:=(by simp [World.cell?,World.frozen?,hh9])
         have HB9:=Lib.hid (HB6.out.trans (hb9.mono HB6.out.size))
         have HHZ9:=Lib.hid (HRZ.out w9 HB9.out)
         obtain ⟨f10,f11,g10,g11⟩:=HCZ.out w9 HHZ9.out
         obtain ⟨wt,hwt⟩:∃ wt,w9.setCell ⟨w5.heap.size,1,none⟩ (.slice A9 (Awn+Bwn) c9)=wt:=⟨_,rfl⟩
         have HWT:=Lib.hid hwt
         have hht:wt.heap[w5.heap.size]? = some (.cells #[.int .i64 (waysN A B p),.slice A9 (Awn+Bwn) c9] 73 (0,0)):=(by rw [←hwt,heap_setCell_obj hh9];rfl)
         have hbt:Below w2.heap.size w2 wt:=(by rw [←hwt];exact HB9.out.setCell (p:=⟨w5.heap.size,1,none⟩) (show w2.heap.size≤w5.heap.size from Nat.le_trans HB4.out.size Z6.out.2) _)
         have HBT:=Lib.hid hbt
         have HHT:=Lib.hid (HRZ.out wt hbt)
         obtain ⟨f12,f13,g12,g13⟩:=HCZ.out wt HHT.out
         obtain ⟨j0,j1⟩:wt.cell? ⟨w5.heap.size,0,none⟩=some (.int .i64 (waysN A B p))∧wt.cell? ⟨w5.heap.size,1,none⟩=some (.slice A9 (Awn+Bwn) c9):=(by simp [World.cell?,hht])
         have HOT:Hid (Own encBound 4 56 w.heap.size wt A9 (Awn+Bwn) c9 (waysB A B p)):=(show Own _ _ _ _ _ _ _ _ _ from by rw [←hwt];exact own_set (ho9.mono (Nat.le_trans HB2.out.size HB6.out.size)) hh9 (by decide) _)
         clear hb9 ho9 hh9 hwt hht hbt)
      | rw [HWT.out])
     refine bodyPost_ret (results_ct rfl _ _ (w.heap.size+1+1+1) _ _ (0,0) _ rfl (sys_set HHT.out) Tryz.underlying73 rfl (by kernel_rfl)) rfl ?_
     have HBE:=((HB2.out.trans (HBT.out.mono HB2.out.size)).setCell (p:=⟨w.heap.size+1+1+1,0,none⟩) (show w.heap.size≤w.heap.size+1+1+1 by omega) (.int .i64 (waysN A B p))).setCell (p:=⟨w.heap.size+1+1+1,1,none⟩) (show w.heap.size≤w.heap.size+1+1+1 by omega) (.slice A9 (Awn+Bwn) c9)
     exact ⟨A9,c9,rfl,HBE,own_set (own_set HOT.out HHT.out (by decide) (i:=0) _) (heap_setCell_obj HHT.out) (by decide) (i:=1) _⟩
end Go.Proofs.YtccabpahfmoamaaGreat
end

/- Contracts that the laws lean on: R3P. -/
import Derived.Test.YtccabpahfmoamaaGreatME35
import Derived.Test.YtccabpahfmoamaaGreatME24
set_option maxHeartbeats 4000000
section
namespace Go.Proofs.YtccabpahfmoamaaGreat
open Go.RowKit Go.Proofs Go.Shelf
theorem r3CheckPairing_any (A:Outl) (AwA:Option Addr) (Awn Awc:Nat) (AtA:Option Addr) (Atn Atc:Nat) (B:Outl) (BwA:Option Addr) (Bwn Bwc:Nat) (BtA:Option Addr) (Btn Btc:Nat) (p:Pairing) (w:World) (Aw:Rd encBound 4 w AwA Awn Awc A.ways) (At:Rd encBound 4 w AtA Atn Atc A.turns) (Bw:Rd encBound 4 w BwA Bwn Bwc B.ways) (Bt:Rd encBound 4 w BtA Btn Btc B.turns):
 Calls Tryz.prog 38 #[.agg #[.int .i64 A.n,.slice AwA Awn Awc,.slice AtA Atn Atc],.agg #[.int .i64 B.n,.slice BwA Bwn Bwc,.slice BtA Btn Btc],.agg #[.int .i64 p.a.lo,.int .i64 p.a.hi,.int .i64 p.b.lo,.int .i64 p.b.hi]] w fun e w'=>e = .returned (.int .i64 (pairErr A B p))∧Below w.heap.size w w':=by
 obtain ⟨w1,hw1,hb1,hz1,hbx⟩:=boxABP w A AwA Awn Awc AtA Atn Atc B BwA Bwn Bwc BtA Btn Btc p
 have KX:=Lib.hid hbx
 have K1:=Lib.hid (fun W (h:Below w1.heap.size w1 W)=>r3CheckOutline_any A AwA Awn Awc AtA Atn Atc W ((Aw.below hb1 (Nat.le_refl _)).below h (Nat.le_refl _)) ((At.below hb1 (Nat.le_refl _)).below h (Nat.le_refl _)))
 have K2:=Lib.hid (fun W (h:Below w1.heap.size w1 W)=>r3CheckOutline_any B BwA Bwn Bwc BtA Btn Btc W ((Bw.below hb1 (Nat.le_refl _)).below h (Nat.le_refl _)) ((Bt.below hb1 (Nat.le_refl _)).below h (Nat.le_refl _)))
 have HB1:=Lib.hid hb1
 have HW1:=Lib.hid hw1
 have HS1:Hid (∀ W,Calls Tryz.prog 96 #[.int .i64 A.n,.agg #[.int .i64 p.a.lo,.int .i64 p.a.hi]] W fun e w'=>e = .returned (.bool (ofB A p.a))∧Below W.heap.size W w'):=(show ∀ W,_ from fun W=>r3stretch_any A.n p.a W)
 have HS2:Hid (∀ W,Calls Tryz.prog 96 #[.int .i64 B.n,.agg #[.int .i64 p.b.lo,.int .i64 p.b.hi]] W fun e w'=>e = .returned (.bool (ofB B p.b))∧Below W.heap.size W w'):=(show ∀ W,_ from fun W=>r3stretch_any B.n p.b W)
 obtain ⟨xa0,xa1,xa2,xb0,xb1,xb2,xp0,xp1,xp2,xp3⟩:=KX.out w1 (Below.refl _ _)
 clear Aw At Bw Bt hb1 hw1 hbx
 by_cases h1:checkOut A=0
 case neg=>
  have hv:pairErr A B p=checkOut A:=by unfold pairErr bothErr;rw [if_pos h1,if_pos h1]
  rw [hv]
  have h1':(checkOut A==0)=false:=by simpa using h1
  have h1'':(checkOut A != 0)=true:=by simpa using h1
  clear h1 hv HS1 HS2 K2
  generalize checkOut A=s1 at *
  go_enter Tryz.func38,Tryz.ntmps38
  go_wp2_with (first
   | rw [HW1.out]
   | (go_at_call 36;(with_reducible refine (K1.out _ (Below.refl _ _)).mono ?_);rintro e w2 ⟨rfl,hb2⟩;have HB2:=Lib.hid hb2;clear hb2))
  go_ret
  exact ⟨rfl,HB1.out.trans (HB2.out.mono HB1.out.size)⟩
 case pos=>
 by_cases h2:checkOut B=0
 case neg=>
  have hv:pairErr A B p=checkOut B:=by
   have hbo:bothErr A B=checkOut B:=by unfold bothErr;rw [if_neg (fun h=>h h1)]
   unfold pairErr
   rw [hbo,if_pos h2]
  rw [hv]
  rw [h1] at K1
  have h2'':(checkOut B != 0)=true:=by simpa using h2
  clear h1 h2 hv HS1 HS2
  generalize checkOut B=s2 at *
  go_enter Tryz.func38,Tryz.ntmps38
  go_wp2_with (first
   | rw [HW1.out]
   | (go_at_call 36;(with_reducible refine (K1.out _ (Below.refl _ _)).mono ?_);rintro e w2 ⟨rfl,hb2⟩;have HB2:=Lib.hid hb2;obtain ⟨ya0,ya1,ya2,yb0,yb1,yb2,yp0,yp1,yp2,yp3⟩:=KX.out w2 hb2;clear hb2)
   | (go_at_call 36;(with_reducible refine (K2.out _ HB2.out).mono ?_);rintro e w3 ⟨rfl,hb3⟩;have HB3:=Lib.hid (HB2.out.trans (hb3.mono HB2.out.size));clear hb3))
  go_ret
  exact ⟨rfl,HB1.out.trans (HB3.out.mono HB1.out.size)⟩
 case pos=>
 obtain ⟨_,n2,_,_⟩:=checkOut_zero.1 h1
 obtain ⟨_,m2,_,_⟩:=checkOut_zero.1 h2
 have hbo:bothErr A B=0:=bothErr_zero.2 ⟨h1,h2⟩
 rw [h1] at K1
 rw [h2] at K2
 by_cases h3:ofB A p.a=true
 case neg=>
  rw [Bool.not_eq_true] at h3
  have hv:pairErr A B p=1:=by
   unfold pairErr
   rw [if_neg (fun h=>h hbo),if_pos (.inl h3)]
  rw [hv]
  rw [h3] at HS1
  clear h1 h2 hv HS2 h3 hbo n2 m2
  go_enter Tryz.func38,Tryz.ntmps38
  go_wp2_with (first
   | rw [HW1.out]
   | (go_at_call 36;(with_reducible refine (K1.out _ (Below.refl _ _)).mono ?_);rintro e w2 ⟨rfl,hb2⟩;have HB2:=Lib.hid hb2;obtain ⟨ya0,ya1,ya2,yb0,yb1,yb2,yp0,yp1,yp2,yp3⟩:=KX.out w2 hb2;clear hb2)
   | (go_at_call 36;(with_reducible refine (K2.out _ HB2.out).mono ?_);rintro e w3 ⟨rfl,hb3⟩;have HB3:=Lib.hid (HB2.out.trans (hb3.mono HB2.out.size));obtain ⟨za0,za1,za2,zb0,zb1,zb2,zp0,zp1,zp2,zp3⟩:=KX.out w3 HB3.out;clear hb3)
   | (go_at_call 96;(with_reducible refine (HS1.out _).mono ?_);rintro e w4 ⟨rfl,hb4⟩;have HB4:=Lib.hid (HB3.out.trans (hb4.mono HB3.out.size));clear hb4))
  go_ret
  exact ⟨rfl,HB1.out.trans (HB4.out.mono HB1.out.size)⟩
 case pos=>
 rw [h3] at HS1
 by_cases h4:ofB B p.b=true
 case neg=>
  rw [Bool.not_eq_true] at h4
  have hv:pairErr A B p=1:=by
   unfold pairErr
   rw [if_neg (fun h=>h hbo),if_pos (.inr h4)]
  rw [hv]
  rw [h4] at HS2
  clear h1 h2 hv h3 h4 hbo n2 m2
  go_enter Tryz.func38,Tryz.ntmps38
  go_wp2_with (first
   | rw [HW1.out]
   | (go_at_call 36;(with_reducible refine (K1.out _ (Below.refl _ _)).mono ?_);rintro e w2 ⟨rfl,hb2⟩;have HB2:=Lib.hid hb2;obtain ⟨ya0,ya1,ya2,yb0,yb1,yb2,yp0,yp1,yp2,yp3⟩:=KX.out w2 hb2;clear hb2)
   | (go_at_call 36;(with_reducible refine (K2.out _ HB2.out).mono ?_);rintro e w3 ⟨rfl,hb3⟩;have HB3:=Lib.hid (HB2.out.trans (hb3.mono HB2.out.size));obtain ⟨za0,za1,za2,zb0,zb1,zb2,zp0,zp1,zp2,zp3⟩:=KX.out w3 HB3.out;clear hb3)
   | (go_at_call 96;(with_reducible refine (HS1.out _).mono ?_);rintro e w4 ⟨rfl,hb4⟩;have HB4:=Lib.hid (HB3.out.trans (hb4.mono HB3.out.size));obtain ⟨va0,va1,va2,vb0,vb1,vb2,vp0,vp1,vp2,vp3⟩:=KX.out w4 HB4.out;clear hb4)
   | (go_at_call 96;(with_reducible refine (HS2.out _).mono ?_);rintro e w5 ⟨rfl,hb5⟩;have HB5:=Lib.hid (HB4.out.trans (hb5.mono HB4.out.size));clear hb5))
  go_ret
  exact ⟨rfl,HB1.out.trans (HB5.out.mono HB1.out.size)⟩
 case pos=>
  rw [h4] at HS2
  obtain ⟨a0,a1,a2⟩:=ofB_iff.1 h3
  obtain ⟨b0,b1,b2⟩:=ofB_iff.1 h4
  have u1:IntKind.i64.wrap (p.a.hi-p.a.lo)=p.a.hi-p.a.lo:=(by rw [IntKind.wrap_i64];omega)
  have u2:IntKind.i64.wrap (p.b.hi-p.b.lo)=p.b.hi-p.b.lo:=(by rw [IntKind.wrap_i64];omega)
  have hv:pairErr A B p=if p.a.hi-p.a.lo≠p.b.hi-p.b.lo then 31 else 0:=by
   unfold pairErr
   rw [if_neg (fun h=>h hbo),if_neg (by rw [h3,h4];simp)]
  rw [hv]
  obtain ⟨d1,hd1⟩:∃ d1,p.a.hi-p.a.lo=d1:=⟨_,rfl⟩
  obtain ⟨d2,hd2⟩:∃ d2,p.b.hi-p.b.lo=d2:=⟨_,rfl⟩
  rw [hd1] at u1
  rw [hd2] at u2
  rw [hd1,hd2]
  have v1:IntKind.i64.wrap (p.a.hi-p.a.lo)=d1:=(by rw [hd1];exact u1)
  have v2:IntKind.i64.wrap (p.b.hi-p.b.lo)=d2:=(by rw [hd2];exact u2)
  clear h1 h2 hv h3 h4 hbo n2 m2 a0 a1 a2 b0 b1 b2 hd1 hd2 u1 u2
  by_cases h5:d1=d2
  · subst h5
    rw [if_neg (fun h=>h rfl)]
    have h5':(d1 != d1)=false:=(by simp)
    go_enter Tryz.func38,Tryz.ntmps38
    go_wp2_with (first
     | rw [HW1.out]
     | (go_at_call 36;(with_reducible refine (K1.out _ (Below.refl _ _)).mono ?_);rintro e w2 ⟨rfl,hb2⟩;have HB2:=Lib.hid hb2;obtain ⟨ya0,ya1,ya2,yb0,yb1,yb2,yp0,yp1,yp2,yp3⟩:=KX.out w2 hb2;clear hb2)
     | (go_at_call 36;(with_reducible refine (K2.out _ HB2.out).mono ?_);rintro e w3 ⟨rfl,hb3⟩;have HB3:=Lib.hid (HB2.out.trans (hb3.mono HB2.out.size));obtain ⟨za0,za1,za2,zb0,zb1,zb2,zp0,zp1,zp2,zp3⟩:=KX.out w3 HB3.out;clear hb3)
     | (go_at_call 96;(with_reducible refine (HS1.out _).mono ?_);rintro e w4 ⟨rfl,hb4⟩;have HB4:=Lib.hid (HB3.out.trans (hb4.mono HB3.out.size));obtain ⟨va0,va1,va2,vb0,vb1,vb2,vp0,vp1,vp2,vp3⟩:=KX.out w4 HB4.out;clear hb4)
     | (go_at_call 96;(with_reducible refine (HS2.out _).mono ?_);rintro e w5 ⟨rfl,hb5⟩;have HB5:=Lib.hid (HB4.out.trans (hb5.mono HB4.out.size));obtain ⟨ua0,ua1,ua2,ub0,ub1,ub2,up0,up1,up2,up3⟩:=KX.out w5 HB5.out;clear hb5))
    go_ret
    exact ⟨rfl,HB1.out.trans (HB5.out.mono HB1.out.size)⟩
  · rw [if_pos h5]
    have h5':(d1 != d2)=true:=(by simpa using h5)
    go_enter Tryz.func38,Tryz.ntmps38
    go_wp2_with (first
     | rw [HW1.out]
     | (go_at_call 36;(with_reducible refine (K1.out _ (Below.refl _ _)).mono ?_);rintro e w2 ⟨rfl,hb2⟩;have HB2:=Lib.hid hb2;obtain ⟨ya0,ya1,ya2,yb0,yb1,yb2,yp0,yp1,yp2,yp3⟩:=KX.out w2 hb2;clear hb2)
     | (go_at_call 36;(with_reducible refine (K2.out _ HB2.out).mono ?_);rintro e w3 ⟨rfl,hb3⟩;have HB3:=Lib.hid (HB2.out.trans (hb3.mono HB2.out.size));obtain ⟨za0,za1,za2,zb0,zb1,zb2,zp0,zp1,zp2,zp3⟩:=KX.out w3 HB3.out;clear hb3)
     | (go_at_call 96;(with_reducible refine (HS1.out _).mono ?_);rintro e w4 ⟨rfl,hb4⟩;have HB4:=Lib.hid (HB3.out.trans (hb4.mono HB3.out.size));obtain ⟨va0,va1,va2,vb0,vb1,vb2,vp0,vp1,vp2,vp3⟩:=KX.out w4 HB4.out;clear hb4)
     | (go_at_call 96;(with_reducible refine (HS2.out _).mono ?_);rintro e w5 ⟨rfl,hb5⟩;have HB5:=Lib.hid (HB4.out.trans (hb5.mono HB4.out.size));obtain ⟨ua0,ua1,ua2,ub0,ub1,ub2,up0,up1,up2,up3⟩:=KX.out w5 HB5.out;clear hb5))
    go_ret
    exact ⟨rfl,HB1.out.trans (HB5.out.mono HB1.out.size)⟩
theorem r3many_any (A:Outl) (AwA:Option Addr) (Awn Awc:Nat) (AtA:Option Addr) (Atn Atc:Nat) (B:Outl) (BwA:Option Addr) (Bwn Bwc:Nat) (BtA:Option Addr) (Btn Btc:Nat) (w:World) (Aw:Rd encBound 4 w AwA Awn Awc A.ways) (At:Rd encBound 4 w AtA Atn Atc A.turns) (Bw:Rd encBound 4 w BwA Bwn Bwc B.ways) (Bt:Rd encBound 4 w BtA Btn Btc B.turns):
 Calls Tryz.prog 116 #[.agg #[.int .i64 A.n,.slice AwA Awn Awc,.slice AtA Atn Atc],.agg #[.int .i64 B.n,.slice BwA Bwn Bwc,.slice BtA Btn Btc]] w fun e w'=>e = .returned (.int .i64 (roomErr A B))∧Below w.heap.size w w':=by
 have l1:=Aw.len;have l2:=At.len;have l3:=Bw.len;have l4:=Bt.len
 have b1:=Aw.big;have b2:=At.big;have b3:=Bw.big;have b4:=Bt.big
 have w1:IntKind.i64.wrap ((Awn:Int)+(Bwn:Int))=(Awn:Int)+(Bwn:Int):=(by rw [IntKind.wrap_i64];omega)
 have w2:IntKind.i64.wrap ((Atn:Int)+(Btn:Int))=(Atn:Int)+(Btn:Int):=(by rw [IntKind.wrap_i64];omega)
 have hv:roomErr A B=if 400<Awn+Bwn∨400<Atn+Btn then 2 else 0:=by unfold roomErr;rw [l1,l2,l3,l4]
 rw [hv]
 clear Aw At Bw Bt l1 l2 l3 l4 hv
 by_cases c1:(400:Int)<(Awn:Int)+Bwn
 · rw [if_pos (by omega)]
   go_enter Tryz.func116,Tryz.ntmps116
   go_wp2
   go_ret
   exact ⟨rfl,((Below.refl _ _).alloc (Nat.le_refl _) _).alloc (by simp) _⟩
 · by_cases c2:(400:Int)<(Atn:Int)+Btn
   · rw [if_pos (by omega)]
     go_enter Tryz.func116,Tryz.ntmps116
     go_wp2
     go_ret
     exact ⟨rfl,((Below.refl _ _).alloc (Nat.le_refl _) _).alloc (by simp) _⟩
   · rw [if_neg (by omega)]
     go_enter Tryz.func116,Tryz.ntmps116
     go_wp2
     go_ret
     exact ⟨rfl,((Below.refl _ _).alloc (Nat.le_refl _) _).alloc (by simp) _⟩
theorem r3Asked_any (A:Outl) (AwA:Option Addr) (Awn Awc:Nat) (AtA:Option Addr) (Atn Atc:Nat) (B:Outl) (BwA:Option Addr) (Bwn Bwc:Nat) (BtA:Option Addr) (Btn Btc:Nat) (p:Pairing) (w:World) (Aw:Rd encBound 4 w AwA Awn Awc A.ways) (At:Rd encBound 4 w AtA Atn Atc A.turns) (Bw:Rd encBound 4 w BwA Bwn Bwc B.ways) (Bt:Rd encBound 4 w BtA Btn Btc B.turns):
 Calls Tryz.prog 67 #[.agg #[.int .i64 A.n,.slice AwA Awn Awc,.slice AtA Atn Atc],.agg #[.int .i64 B.n,.slice BwA Bwn Bwc,.slice BtA Btn Btc],.agg #[.int .i64 p.a.lo,.int .i64 p.a.hi,.int .i64 p.b.lo,.int .i64 p.b.hi]] w fun e w'=>e = .returned (.int .i64 (askedErr A B p))∧Below w.heap.size w w':=by
 obtain ⟨w1,hw1,hb1,hz1,hbx⟩:=boxABP w A AwA Awn Awc AtA Atn Atc B BwA Bwn Bwc BtA Btn Btc p
 have KX:=Lib.hid hbx
 have K1:=Lib.hid (fun W (h:Below w1.heap.size w1 W)=>r3CheckPairing_any A AwA Awn Awc AtA Atn Atc B BwA Bwn Bwc BtA Btn Btc p W ((Aw.below hb1 (Nat.le_refl _)).below h (Nat.le_refl _)) ((At.below hb1 (Nat.le_refl _)).below h (Nat.le_refl _)) ((Bw.below hb1 (Nat.le_refl _)).below h (Nat.le_refl _)) ((Bt.below hb1 (Nat.le_refl _)).below h (Nat.le_refl _)))
 have K2:=Lib.hid (fun W (h:Below w1.heap.size w1 W)=>r3many_any A AwA Awn Awc AtA Atn Atc B BwA Bwn Bwc BtA Btn Btc W ((Aw.below hb1 (Nat.le_refl _)).below h (Nat.le_refl _)) ((At.below hb1 (Nat.le_refl _)).below h (Nat.le_refl _)) ((Bw.below hb1 (Nat.le_refl _)).below h (Nat.le_refl _)) ((Bt.below hb1 (Nat.le_refl _)).below h (Nat.le_refl _)))
 have HB1:=Lib.hid hb1
 have HW1:=Lib.hid hw1
 obtain ⟨xa0,xa1,xa2,xb0,xb1,xb2,xp0,xp1,xp2,xp3⟩:=KX.out w1 (Below.refl _ _)
 have hv:askedErr A B p=if pairErr A B p≠0 then pairErr A B p else roomErr A B:=rfl
 rw [hv]
 clear Aw At Bw Bt hb1 hw1 hbx hv
 generalize pairErr A B p=s1 at *
 generalize roomErr A B=s2 at *
 by_cases h1:s1=0
 · subst h1
   rw [if_neg (fun h=>h rfl)]
   go_enter Tryz.func67,Tryz.ntmps67
   go_wp2_with (first
    | rw [HW1.out]
    | (go_at_call 38;(with_reducible refine (K1.out _ (Below.refl _ _)).mono ?_);rintro e w2 ⟨rfl,hb2⟩;have HB2:=Lib.hid hb2;obtain ⟨ya0,ya1,ya2,yb0,yb1,yb2,yp0,yp1,yp2,yp3⟩:=KX.out w2 hb2;clear hb2)
    | (go_at_call 116;(with_reducible refine (K2.out _ HB2.out).mono ?_);rintro e w3 ⟨rfl,hb3⟩;have HB3:=Lib.hid (HB2.out.trans (hb3.mono HB2.out.size));clear hb3))
   go_ret
   exact ⟨rfl,HB1.out.trans (HB3.out.mono HB1.out.size)⟩
 · rw [if_pos h1]
   have h1':(s1==0)=false:=(by simpa using h1)
   clear h1
   go_enter Tryz.func67,Tryz.ntmps67
   go_wp2_with (first
    | rw [HW1.out]
    | (go_at_call 38;(with_reducible refine (K1.out _ (Below.refl _ _)).mono ?_);rintro e w2 ⟨rfl,hb2⟩;have HB2:=Lib.hid hb2;clear hb2))
   go_ret
   exact ⟨rfl,HB1.out.trans (HB2.out.mono HB1.out.size)⟩
def Mid (n:Int):Prop:= -1000000≤n∧n≤1000000
theorem r3corner_any (n:Int) (WA:Option Addr) (wn wc:Nat) (TA:Option Addr) (tn tc:Nat) (p:Pairing) (i:Int) (w:World) (hn:Mid n) (h0:Mid p.a.lo) (h1:Mid p.b.lo) (h2:Mid p.b.hi) (hi:Mid i):
 Calls Tryz.prog 121 #[.agg #[.int .i64 n,.slice WA wn wc,.slice TA tn tc],.agg #[.int .i64 p.a.lo,.int .i64 p.a.hi,.int .i64 p.b.lo,.int .i64 p.b.hi],.int .i64 i] w fun e w'=>e = .returned (.int .i64 (whereF (n+1) p.b.lo p.b.hi p.a.lo i))∧Below w.heap.size w w':=by
 obtain ⟨n1,n2⟩:=hn;obtain ⟨a1,a2⟩:=h0;obtain ⟨b1,b2⟩:=h1;obtain ⟨c1,c2⟩:=h2;obtain ⟨i1,i2⟩:=hi
 have e1:IntKind.i64.wrap (p.a.lo+p.b.hi)=p.a.lo+p.b.hi:=(by rw [IntKind.wrap_i64];omega)
 have e2:IntKind.i64.wrap (p.a.lo+p.b.hi-i)=p.a.lo+p.b.hi-i:=(by rw [IntKind.wrap_i64];omega)
 have e3:IntKind.i64.wrap (n+1)=n+1:=(by rw [IntKind.wrap_i64];omega)
 have e4:IntKind.i64.wrap (n+1+i)=n+1+i:=(by rw [IntKind.wrap_i64];omega)
 have e5:IntKind.i64.wrap (n+1+p.b.lo)=n+1+p.b.lo:=(by rw [IntKind.wrap_i64];omega)
 have e6:IntKind.i64.wrap (n+1+p.b.lo+i)=n+1+p.b.lo+i:=(by rw [IntKind.wrap_i64];omega)
 have e7:IntKind.i64.wrap (n+1+p.b.lo+i-p.b.hi)=n+1+p.b.lo+i-p.b.hi:=(by rw [IntKind.wrap_i64];omega)
 have e8:IntKind.i64.wrap (n+1+p.b.lo+i-p.b.hi-1)=n+1+p.b.lo+i-p.b.hi-1:=(by rw [IntKind.wrap_i64];omega)
 clear n1 n2 a1 a2 b1 b2 c1 c2 i1 i2
 by_cases q1:i≥p.b.lo
 · by_cases q2:i≤p.b.hi
   · have hv:whereF (n+1) p.b.lo p.b.hi p.a.lo i=p.a.lo+p.b.hi-i:=if_pos ⟨q1,q2⟩
     rw [hv]
     go_enter Tryz.func121,Tryz.ntmps121
     go_wp2
     go_ret
     exact ⟨rfl,((Below.refl _ _).alloc (Nat.le_refl _) _).alloc (by simp) _⟩
   · have q3:¬i<p.b.lo:=(by omega)
     have hv:whereF (n+1) p.b.lo p.b.hi p.a.lo i=n+1+p.b.lo+i-p.b.hi-1:=by
      unfold whereF
      rw [if_neg (fun h=>q2 h.2),if_neg q3]
      omega
     rw [hv]
     go_enter Tryz.func121,Tryz.ntmps121
     go_wp2
     go_ret
     exact ⟨rfl,((Below.refl _ _).alloc (Nat.le_refl _) _).alloc (by simp) _⟩
 · have q3:i<p.b.lo:=(by omega)
   have hv:whereF (n+1) p.b.lo p.b.hi p.a.lo i=n+1+i:=by
    unfold whereF
    rw [if_neg (fun h=>q1 h.1),if_pos q3]
   rw [hv]
   go_enter Tryz.func121,Tryz.ntmps121
   go_wp2
   go_ret
   exact ⟨rfl,((Below.refl _ _).alloc (Nat.le_refl _) _).alloc (by simp) _⟩
theorem r3side_any (n:Int) (WA:Option Addr) (wn wc:Nat) (TA:Option Addr) (tn tc:Nat) (p:Pairing) (i:Int) (w:World) (hn:Mid n) (h0:Mid p.a.lo) (h1:Mid p.b.lo) (h2:Mid p.b.hi) (hi:Mid i):
 Calls Tryz.prog 120 #[.agg #[.int .i64 n,.slice WA wn wc,.slice TA tn tc],.agg #[.int .i64 p.a.lo,.int .i64 p.a.hi,.int .i64 p.b.lo,.int .i64 p.b.hi],.int .i64 i] w fun e w'=>e = .returned (.int .i64 (whereF n p.b.lo (p.b.hi-1) p.a.lo i))∧Below w.heap.size w w':=by
 obtain ⟨n1,n2⟩:=hn;obtain ⟨a1,a2⟩:=h0;obtain ⟨b1,b2⟩:=h1;obtain ⟨c1,c2⟩:=h2;obtain ⟨i1,i2⟩:=hi
 have e1:IntKind.i64.wrap (p.a.lo+p.b.hi)=p.a.lo+p.b.hi:=(by rw [IntKind.wrap_i64];omega)
 have e2:IntKind.i64.wrap (p.a.lo+p.b.hi-1)=p.a.lo+p.b.hi-1:=(by rw [IntKind.wrap_i64];omega)
 have e2':IntKind.i64.wrap (p.a.lo+p.b.hi-1-i)=p.a.lo+p.b.hi-1-i:=(by rw [IntKind.wrap_i64];omega)
 have e4:IntKind.i64.wrap (n+i)=n+i:=(by rw [IntKind.wrap_i64];omega)
 have e5:IntKind.i64.wrap (n+p.b.lo)=n+p.b.lo:=(by rw [IntKind.wrap_i64];omega)
 have e6:IntKind.i64.wrap (n+p.b.lo+i)=n+p.b.lo+i:=(by rw [IntKind.wrap_i64];omega)
 have e7:IntKind.i64.wrap (n+p.b.lo+i-p.b.hi)=n+p.b.lo+i-p.b.hi:=(by rw [IntKind.wrap_i64];omega)
 clear n1 n2 a1 a2 b1 b2 c1 c2 i1 i2
 by_cases q1:i≥p.b.lo
 · by_cases q2:i<p.b.hi
   · have hv:whereF n p.b.lo (p.b.hi-1) p.a.lo i=p.a.lo+p.b.hi-1-i:=by
      unfold whereF
      rw [if_pos ⟨q1,by omega⟩]
      omega
     rw [hv]
     go_enter Tryz.func120,Tryz.ntmps120
     go_wp2
     go_ret
     exact ⟨rfl,((Below.refl _ _).alloc (Nat.le_refl _) _).alloc (by simp) _⟩
   · have q3:¬i<p.b.lo:=(by omega)
     have hv:whereF n p.b.lo (p.b.hi-1) p.a.lo i=n+p.b.lo+i-p.b.hi:=by
      unfold whereF
      rw [if_neg (by omega),if_neg q3]
      omega
     rw [hv]
     go_enter Tryz.func120,Tryz.ntmps120
     go_wp2
     go_ret
     exact ⟨rfl,((Below.refl _ _).alloc (Nat.le_refl _) _).alloc (by simp) _⟩
 · have q3:i<p.b.lo:=(by omega)
   have hv:whereF n p.b.lo (p.b.hi-1) p.a.lo i=n+i:=by
    unfold whereF
    rw [if_neg (fun h=>q1 h.1),if_pos q3]
   rw [hv]
   go_enter Tryz.func120,Tryz.ntmps120
   go_wp2
   go_ret
   exact ⟨rfl,((Below.refl _ _).alloc (Nat.le_refl _) _).alloc (by simp) _⟩
end Go.Proofs.YtccabpahfmoamaaGreat
end

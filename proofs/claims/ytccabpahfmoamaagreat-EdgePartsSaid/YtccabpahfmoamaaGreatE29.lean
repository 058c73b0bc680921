/- Contracts that the laws lean on: ParL. -/
import Derived.Test.YtccabpahfmoamaaGreatE27
section
namespace Go.Proofs.YtccabpahfmoamaaGreat
open Go.RowKit Go.Proofs Go.Shelf
theorem askedErr_of (A B:Outl) (p:Pairing) (h:askedErr A B p=0):AskOk A B p:=askedErr_zero.1 h
set_option maxRecDepth 100000 in
set_option maxHeartbeats 8000000 in
theorem edgeParts_of (A:Outl) (AwA:Option Addr) (Awn Awc:Nat) (AtA:Option Addr) (Atn Atc:Nat) (B:Outl) (BwA:Option Addr) (Bwn Bwc:Nat) (BtA:Option Addr) (Btn Btc:Nat) (p:Pairing) (w:World) (Aw:InL encBound 4 w AwA Awn Awc A.ways) (At:InL encBound 4 w AtA Atn Atc A.turns) (Bw:InL encBound 4 w BwA Bwn Bwc B.ways) (Bt:InL encBound 4 w BtA Btn Btc B.turns):
 Calls Tryz.prog 5 #[.agg #[.int .i64 A.n,.slice AwA Awn Awc,.slice AtA Atn Atc],.agg #[.int .i64 B.n,.slice BwA Bwn Bwc,.slice BtA Btn Btc],.agg #[.int .i64 p.a.lo,.int .i64 p.a.hi,.int .i64 p.b.lo,.int .i64 p.b.hi]] w fun e w'=>e = .returned (.bool true)∧Below w.heap.size w w':=by
 obtain ⟨w1,hw1,hb1,hz1,hcx⟩:=boxABP w A AwA Awn Awc AtA Atn Atc B BwA Bwn Bwc BtA Btn Btc p
 have HW1:=Lib.hid hw1
 obtain ⟨w2,a2,b2,z2,e2⟩:=alloc_facts w1 #[.int .i64 A.n,.slice AwA Awn Awc,.slice AtA Atn Atc,.int .i64 B.n,.slice BwA Bwn Bwc,.slice BtA Btn Btc] 24
 rw [hz1] at e2
 have HB1:=Lib.hid hb1
 have HB12:=Lib.hid (hb1.trans (b2.mono hb1.size))
 have HW2:=Lib.hid a2
 have KS:=Lib.hid (small_any (w.heap.size+1+1+1) (.int .i64 A.n) (.int .i64 B.n) AwA AtA BwA BtA Awn Awc Atn Atc Bwn Bwc Btn Btc w2 e2)
 have HCE:Hid (∀ W,Below w1.heap.size w1 W→BoxABP w.heap.size A AwA Awn Awc AtA Atn Atc B BwA Bwn Bwc BtA Btn Btc p W):=(show ∀ W,_→_ from hcx)
 obtain ⟨xa0,xa1,xa2,xb0,xb1,xb2,xp0,xp1,xp2,xp3⟩:=hcx w1 (Below.refl _ _)
 have hz2:=b2.size
 by_cases hsm:smallN Awn Atn Bwn Btn=true
 case neg=>
  have hsf:smallN Awn Atn Bwn Btn=false:=by simpa using hsm
  rw [hsf] at KS
  clear Aw At Bw Bt hsm hsf hb1 hw1 a2 b2 z2 e2 hcx HCE
  go_enter Tryz.func5,Tryz.ntmps5
  go_wp2_with (first
   | rw [HW1.out]
   | rw [HW2.out]
   | (go_at_call 25;(with_reducible refine KS.out.mono ?_);rintro e w3 ⟨rfl,hb3⟩;have HB3:=Lib.hid (HB12.out.trans (hb3.mono HB12.out.size));clear hb3)
   | (go_at_call 17;(with_reducible refine (joined_any _).mono ?_);rintro e w4 ⟨rfl,hb4⟩;have HB4:=Lib.hid (HB3.out.trans (hb4.mono HB3.out.size));clear hb4))
  go_ret
  exact ⟨rfl,HB4.out⟩
 case pos=>
  obtain ⟨s1,s2,s3,s4⟩:=smallN_iff.1 hsm
  rw [hsm] at KS
  have ra:=Aw.2 (by omega);have rt:=At.2 (by omega);have rb:=Bw.2 (by omega);have ru:=Bt.2 (by omega)
  have la:=Aw.1;have lt:=At.1;have lb:=Bw.1;have lu:=Bt.1
  have RD:Hid (∀ W,Below w1.heap.size w1 W→Rd encBound 4 W AwA Awn Awc A.ways∧Rd encBound 4 W AtA Atn Atc A.turns∧Rd encBound 4 W BwA Bwn Bwc B.ways∧Rd encBound 4 W BtA Btn Btc B.turns):=(show ∀ W,_→_ from fun W h=>⟨(ra.below hb1 (Nat.le_refl _)).below h (Nat.le_refl _),(rt.below hb1 (Nat.le_refl _)).below h (Nat.le_refl _),(rb.below hb1 (Nat.le_refl _)).below h (Nat.le_refl _),(ru.below hb1 (Nat.le_refl _)).below h (Nat.le_refl _)⟩)
  have KM:Hid (∀ (p:Pairing) W,Below w1.heap.size w1 W→Calls Tryz.prog 26 #[.agg #[.int .i64 A.n,.slice AwA Awn Awc,.slice AtA Atn Atc],.agg #[.int .i64 B.n,.slice BwA Bwn Bwc,.slice BtA Btn Btc],.agg #[.int .i64 p.a.lo,.int .i64 p.a.hi,.int .i64 p.b.lo,.int .i64 p.b.hi]] W fun e w'=>e = .returned (.tuple #[.bool (decide (askedErr A B p=0)&&meetsV A B p),.int .i64 (askedErr A B p)])∧Below W.heap.size W w'):=(show ∀ p W,_→_ from fun p W hW=>MeetsE_any A AwA Awn Awc AtA Atn Atc B BwA Bwn Bwc BtA Btn Btc p W (RD.out W hW).1 (RD.out W hW).2.1 (RD.out W hW).2.2.1 (RD.out W hW).2.2.2)
  have HB2':=Lib.hid b2
  clear Aw At Bw Bt hsm hb1 hw1 a2 b2 z2 e2 hcx ra rt rb ru
  have KM1:=Lib.hid (KM.out p)
  by_cases hask:askedErr A B p=0
  case neg=>
   have hk:(askedErr A B p != 0)=true:=by simpa using hask
   rw [decide_eq_false hask,Bool.false_and] at KM1
   clear KM la lt lb lu s1 s2 s3 s4 hask
   generalize askedErr A B p=er at *
   go_enter Tryz.func5,Tryz.ntmps5
   go_wp2_with (first
   | rw [HW1.out]
   | rw [HW2.out]
   | (go_at_call 25;(with_reducible refine KS.out.mono ?_);rintro e w3 ⟨rfl,hb3⟩;have HB3:=Lib.hid (HB12.out.trans (hb3.mono HB12.out.size));have HC3:=Lib.hid (HB2'.out.trans (hb3.mono HB2'.out.size));obtain ⟨ya0,ya1,ya2,yb0,yb1,yb2,yp0,yp1,yp2,yp3⟩:=HCE.out w3 HC3.out;clear hb3)
   | (go_at_call 26;(with_reducible refine (KM1.out _ HC3.out).mono ?_);rintro e w4 ⟨rfl,hb4⟩
      have HC4:=Lib.hid (HC3.out.trans (hb4.mono HC3.out.size))
      obtain ⟨ca04,ca14,ca24,cb04,cb14,cb24,cp04,cp14,cp24,cp34⟩:=HCE.out w4 HC4.out
      clear hb4)
   | (go_at_call 17;(with_reducible refine (joined_any _).mono ?_);rintro e w5 ⟨rfl,hb5⟩;have HJ:=Lib.hid (HB1.out.trans ((HC4.out.trans (hb5.mono HC4.out.size)).mono HB1.out.size));clear hb5))
   go_ret
   exact ⟨rfl,HJ.out⟩
  case pos=>
  have hok:=askedErr_zero.1 hask
  rw [hask,decide_eq_true rfl,Bool.true_and] at KM1
  by_cases hm:meetsV A B p=true
  case neg=>
   have hmf:meetsV A B p=false:=by simpa using hm
   rw [hmf] at KM1
   clear KM la lt lb lu s1 s2 s3 s4 hask hm hmf hok
   go_enter Tryz.func5,Tryz.ntmps5
   go_wp2_with (first
   | rw [HW1.out]
   | rw [HW2.out]
   | (go_at_call 25;(with_reducible refine KS.out.mono ?_);rintro e w3 ⟨rfl,hb3⟩;have HB3:=Lib.hid (HB12.out.trans (hb3.mono HB12.out.size));have HC3:=Lib.hid (HB2'.out.trans (hb3.mono HB2'.out.size));obtain ⟨ya0,ya1,ya2,yb0,yb1,yb2,yp0,yp1,yp2,yp3⟩:=HCE.out w3 HC3.out;clear hb3)
   | (go_at_call 26;(with_reducible refine (KM1.out _ HC3.out).mono ?_);rintro e w4 ⟨rfl,hb4⟩
      have HC4:=Lib.hid (HC3.out.trans (hb4.mono HC3.out.size))
      obtain ⟨ca04,ca14,ca24,cb04,cb14,cb24,cp04,cp14,cp24,cp34⟩:=HCE.out w4 HC4.out
      clear hb4)
   | (go_at_call 17;(with_reducible refine (joined_any _).mono ?_);rintro e w5 ⟨rfl,hb5⟩;have HJ:=Lib.hid (HB1.out.trans ((HC4.out.trans (hb5.mono HC4.out.size)).mono HB1.out.size));clear hb5))
   go_ret
   exact ⟨rfl,HJ.out⟩
  case pos=>
  rw [hm] at KM1
  have pa0:=hok.a0;have pa1:=hok.a1;have pa2:=hok.a2;have pb0:=hok.b0;have pb1:=hok.b1;have pb2:=hok.b2
  obtain ⟨cA1,cA2,_,_⟩:=checkOut_zero.1 hok.a
  obtain ⟨cB1,cB2,_,_⟩:=checkOut_zero.1 hok.b
  have v1:IntKind.i64.wrap (p.a.hi-p.a.lo)=p.a.hi-p.a.lo:=(by rw [IntKind.wrap_i64];omega)
  have v2:IntKind.i64.wrap (p.a.lo+1)=p.a.lo+1:=(by rw [IntKind.wrap_i64];omega)
  have v3:IntKind.i64.wrap (p.b.hi-1)=p.b.hi-1:=(by rw [IntKind.wrap_i64];omega)
  have v4:IntKind.i64.wrap (p.a.hi-1)=p.a.hi-1:=(by rw [IntKind.wrap_i64];omega)
  have v5:IntKind.i64.wrap (p.b.lo+1)=p.b.lo+1:=(by rw [IntKind.wrap_i64];omega)
  by_cases h2:p.a.hi-p.a.lo<2
  case pos=>
   clear KM la lt lb lu s1 s2 s3 s4 hask hm hok pa0 pa1 pa2 pb0 pb1 pb2 cA1 cA2 cB1 cB2
   go_enter Tryz.func5,Tryz.ntmps5
   go_wp2_with (first
   | rw [HW1.out]
   | rw [HW2.out]
   | (go_at_call 25;(with_reducible refine KS.out.mono ?_);rintro e w3 ⟨rfl,hb3⟩;have HB3:=Lib.hid (HB12.out.trans (hb3.mono HB12.out.size));have HC3:=Lib.hid (HB2'.out.trans (hb3.mono HB2'.out.size));obtain ⟨ya0,ya1,ya2,yb0,yb1,yb2,yp0,yp1,yp2,yp3⟩:=HCE.out w3 HC3.out;clear hb3)
   | (go_at_call 26;(with_reducible refine (KM1.out _ HC3.out).mono ?_);rintro e w4 ⟨rfl,hb4⟩
      have HC4:=Lib.hid (HC3.out.trans (hb4.mono HC3.out.size))
      obtain ⟨ca04,ca14,ca24,cb04,cb14,cb24,cp04,cp14,cp24,cp34⟩:=HCE.out w4 HC4.out
      clear hb4)
   | (go_at_call 17;(with_reducible refine (joined_any _).mono ?_);rintro e w5 ⟨rfl,hb5⟩;have HJ:=Lib.hid (HB1.out.trans ((HC4.out.trans (hb5.mono HC4.out.size)).mono HB1.out.size));clear hb5))
   go_ret
   exact ⟨rfl,HJ.out⟩
  case neg=>
   have hof:=hok.front (by omega)
   have hob:=hok.back (by omega)
   have KF:Hid (∀ W,Below w1.heap.size w1 W→Calls Tryz.prog 26 #[.agg #[.int .i64 A.n,.slice AwA Awn Awc,.slice AtA Atn Atc],.agg #[.int .i64 B.n,.slice BwA Bwn Bwc,.slice BtA Btn Btc],.agg #[.int .i64 (p.a.lo+1),.int .i64 p.a.hi,.int .i64 p.b.lo,.int .i64 (p.b.hi-1)]] W fun e w'=>e = .returned (.tuple #[.bool true,.int .i64 0])∧Below W.heap.size W w'):=(show ∀ W,_→_ from fun W hW=>by
    have h:=KM.out (frontP p) W hW
    rw [askedErr_zero.2 hof,meets_front hok (by omega) hm] at h
    exact h)
   have KB:Hid (∀ W,Below w1.heap.size w1 W→Calls Tryz.prog 26 #[.agg #[.int .i64 A.n,.slice AwA Awn Awc,.slice AtA Atn Atc],.agg #[.int .i64 B.n,.slice BwA Bwn Bwc,.slice BtA Btn Btc],.agg #[.int .i64 p.a.lo,.int .i64 (p.a.hi-1),.int .i64 (p.b.lo+1),.int .i64 p.b.hi]] W fun e w'=>e = .returned (.tuple #[.bool true,.int .i64 0])∧Below W.heap.size W w'):=(show ∀ W,_→_ from fun W hW=>by
    have h:=KM.out (backP p) W hW
    rw [askedErr_zero.2 hob,meets_back hok (by omega) hm] at h
    exact h)
   clear KM la lt lb lu s1 s2 s3 s4 hask hm hok hof hob pa0 pa1 pa2 pb0 pb1 pb2 cA1 cA2 cB1 cB2
   go_enter Tryz.func5,Tryz.ntmps5
   go_wp2_with (first
   | rw [HW1.out]
   | rw [HW2.out]
   | (go_at_call 25;(with_reducible refine KS.out.mono ?_);rintro e w3 ⟨rfl,hb3⟩;have HB3:=Lib.hid (HB12.out.trans (hb3.mono HB12.out.size));have HC3:=Lib.hid (HB2'.out.trans (hb3.mono HB2'.out.size));obtain ⟨ya0,ya1,ya2,yb0,yb1,yb2,yp0,yp1,yp2,yp3⟩:=HCE.out w3 HC3.out;clear hb3)
   | (go_at_call 26;(with_reducible refine (KM1.out _ HC3.out).mono ?_);rintro e w4 ⟨rfl,hb4⟩
      have HC4:=Lib.hid (HC3.out.trans (hb4.mono HC3.out.size))
      obtain ⟨ca04,ca14,ca24,cb04,cb14,cb24,cp04,cp14,cp24,cp34⟩:=HCE.out w4 HC4.out
      clear hb4)
   | (go_at_call 28;(with_reducible refine (of_any (p.a.lo+1) (p.a.hi) (p.b.lo) (p.b.hi-1) w4).mono ?_);rintro e w5 ⟨rfl,hb5⟩
      obtain ⟨w6,a6,b6,z6,e6⟩:=alloc_facts w5 #[.int .i64 (p.a.lo+1),.int .i64 p.a.hi,.int .i64 p.b.lo,.int .i64 (p.b.hi-1)] 28
      have HC5:=Lib.hid (HC4.out.trans (hb5.mono HC4.out.size))
      have HC6:=Lib.hid (HC5.out.trans (b6.mono HC5.out.size))
      have HA6:=Lib.hid a6
      have HE6:=Lib.hid e6
      have HZ6:=Lib.hid z6
      obtain ⟨da05,da15,da25,db05,db15,db25,dp05,dp15,dp25,dp35⟩:=HCE.out w5 HC5.out
      obtain ⟨ea06,ea16,ea26,eb06,eb16,eb26,ep06,ep16,ep26,ep36⟩:=HCE.out w6 HC6.out
      clear hb5 a6 b6 z6 e6)
   | rw [HA6.out]
   | (go_at_call 28;(with_reducible refine (of_any (p.a.lo) (p.a.hi-1) (p.b.lo+1) (p.b.hi) w6).mono ?_);rintro e w7 ⟨rfl,hb7⟩
      obtain ⟨w8,a8,b8,z8,e8⟩:=alloc_facts w7 #[.int .i64 p.a.lo,.int .i64 (p.a.hi-1),.int .i64 (p.b.lo+1),.int .i64 p.b.hi] 28
      have HC7:=Lib.hid (HC6.out.trans (hb7.mono HC6.out.size))
      have HC8:=Lib.hid (HC7.out.trans (b8.mono HC7.out.size))
      have HA8:=Lib.hid a8
      have HE8:=Lib.hid e8
      have HZ8:=Lib.hid z8
      have hh6:=(b8.block w5.heap.size (by have:=HZ6.out;have:=hb7.size;omega)).trans ((hb7.block w5.heap.size (by have:=HZ6.out;omega)).trans HE6.out)
      obtain ⟨q0,q1,q2,q3⟩:w8.cell? ⟨w5.heap.size,0,none⟩=some (.int .i64 (p.a.lo+1))∧w8.cell? ⟨w5.heap.size,1,none⟩=some (.int .i64 p.a.hi)∧w8.cell? ⟨w5.heap.size,2,none⟩=some (.int .i64 p.b.lo)∧w8.cell? ⟨w5.heap.size,3,none⟩=some (.int .i64 (p.b.hi-1)):=(by simp [World.cell?,hh6])
      obtain ⟨da07,da17,da27,db07,db17,db27,dp07,dp17,dp27,dp37⟩:=HCE.out w7 HC7.out
      obtain ⟨ea08,ea18,ea28,eb08,eb18,eb28,ep08,ep18,ep28,ep38⟩:=HCE.out w8 HC8.out
      clear hb7 a8 b8 z8 e8 hh6)
   | rw [HA8.out]
   | (go_at_call 26;(with_reducible refine (KF.out _ HC8.out).mono ?_);rintro e w9 ⟨rfl,hb9⟩
      have HC9:=Lib.hid (HC8.out.trans (hb9.mono HC8.out.size))
      obtain ⟨fa0,fa1,fa2,fb0,fb1,fb2,fp0,fp1,fp2,fp3⟩:=HCE.out w9 HC9.out
      have hh8:=(hb9.block w7.heap.size (by have:=HZ8.out;omega)).trans HE8.out
      obtain ⟨r0,r1,r2,r3⟩:w9.cell? ⟨w7.heap.size,0,none⟩=some (.int .i64 p.a.lo)∧w9.cell? ⟨w7.heap.size,1,none⟩=some (.int .i64 (p.a.hi-1))∧w9.cell? ⟨w7.heap.size,2,none⟩=some (.int .i64 (p.b.lo+1))∧w9.cell? ⟨w7.heap.size,3,none⟩=some (.int .i64 p.b.hi):=(by simp [World.cell?,hh8])
      clear hb9 hh8)
   | (go_at_call 26;(with_reducible refine (KB.out _ HC9.out).mono ?_);rintro e w10 ⟨rfl,hb10⟩
      have HC10:=Lib.hid (HC9.out.trans (hb10.mono HC9.out.size))
      clear hb10)
   | (go_at_call 17;(with_reducible refine (joined_any _).mono ?_);rintro e w11 ⟨rfl,hb11⟩;have HJ:=Lib.hid (HB1.out.trans ((HC10.out.trans (hb11.mono HC10.out.size)).mono HB1.out.size));clear hb11))
   go_ret
   exact ⟨rfl,HJ.out⟩
end Go.Proofs.YtccabpahfmoamaaGreat
end

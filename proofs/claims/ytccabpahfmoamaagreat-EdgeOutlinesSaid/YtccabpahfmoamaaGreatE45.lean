/- Contracts that the laws lean on: OutL. -/
import Derived.Test.YtccabpahfmoamaaGreatE27
import Derived.Test.YtccabpahfmoamaaGreatE36
import Derived.Test.YtccabpahfmoamaaGreatE43
import Derived.Test.YtccabpahfmoamaaGreatE44
import Derived.Test.YtccabpahfmoamaaGreatE26
section
namespace Go.Proofs.YtccabpahfmoamaaGreat
open Go.RowKit Go.Proofs Go.Shelf
theorem withV_len (A:Outl) (turned:Bool) (x:Bound):(withV A turned x).1.ways.length≤400∧(withV A turned x).1.turns.length≤400:=by
 unfold withV
 split
 · exact ⟨by simp [outl0],by simp [outl0]⟩
 · split
   · exact ⟨by simp [outl0],by simp [outl0]⟩
   · rename_i h
     have h0:checkOut (withB A turned x)=0:=by omega
     obtain ⟨_,_,q3,q4⟩:=checkOut_zero.1 h0
     exact ⟨(checkSys_zero.1 q3).2.2.1,(checkSys_zero.1 q4).2.2.1⟩
set_option maxRecDepth 100000 in
set_option maxHeartbeats 8000000 in
theorem edgeOutlines_of (A:Outl) (AwA:Option Addr) (Awn Awc:Nat) (AtA:Option Addr) (Atn Atc:Nat) (B:Outl) (BwA:Option Addr) (Bwn Bwc:Nat) (BtA:Option Addr) (Btn Btc:Nat) (p:Pairing) (turned:Bool) (x:Bound) (tn:Bool) (L:Option Addr) (m lc:Nat) (l:List Int) (w:World) (Aw:InL encBound 4 w AwA Awn Awc A.ways) (At:InL encBound 4 w AtA Atn Atc A.turns) (Bw:InL encBound 4 w BwA Bwn Bwc B.ways) (Bt:InL encBound 4 w BtA Btn Btc B.turns) (hL:InL encInt 1 w L m lc l):
 Calls Tryz.prog 8 #[.agg #[.int .i64 A.n,.slice AwA Awn Awc,.slice AtA Atn Atc],.agg #[.int .i64 B.n,.slice BwA Bwn Bwc,.slice BtA Btn Btc],.agg #[.int .i64 p.a.lo,.int .i64 p.a.hi,.int .i64 p.b.lo,.int .i64 p.b.hi],.bool turned,.agg #[.int .i64 x.src,.int .i64 x.dst,.int .i64 x.most,.int .i64 x.by_],.agg #[.bool tn,.slice L m lc]] w fun e w'=>e = .returned (.bool true)∧Below w.heap.size w w':=by
 obtain ⟨wp,hwp,hbp,hzp,hbx⟩:=boxABP w A AwA Awn Awc AtA Atn Atc B BwA Bwn Bwc BtA Btn Btc p
 obtain ⟨wq,hwq,bq,zq,eq⟩:=alloc_facts wp #[.int .i64 x.src,.int .i64 x.dst,.int .i64 x.most,.int .i64 x.by_] 56
 obtain ⟨w1,hw1,b1,z1,e1⟩:=alloc_facts wq #[.bool tn,.slice L m lc] 33
 have hbq:=hbp.trans (bq.mono hbp.size)
 have hb1:=hbq.trans (b1.mono hbq.size)
 have hzp':wp.heap.size=w.heap.size+1+1+1:=(by omega)
 rw [hzp'] at eq zq
 rw [zq] at e1 z1
 have HCE:Hid (∀ W,Below w1.heap.size w1 W→BoxABP w.heap.size A AwA Awn Awc AtA Atn Atc B BwA Bwn Bwc BtA Btn Btc p W∧(W.cell? ⟨w.heap.size+1+1+1,0,none⟩=some (.int .i64 x.src)∧W.cell? ⟨w.heap.size+1+1+1,1,none⟩=some (.int .i64 x.dst)∧W.cell? ⟨w.heap.size+1+1+1,2,none⟩=some (.int .i64 x.most)∧W.cell? ⟨w.heap.size+1+1+1,3,none⟩=some (.int .i64 x.by_))∧W.cell? ⟨w.heap.size+1+1+1+1,0,none⟩=some (.bool tn)∧W.cell? ⟨w.heap.size+1+1+1+1,1,none⟩=some (.slice L m lc)):=(show ∀ W,_→_ from fun W h=>by
  have hq:=b1.trans (h.mono b1.size)
  have q1:=(hq.block (w.heap.size+1+1+1) (by omega)).trans eq
  have q2:=(h.block (w.heap.size+1+1+1+1) (by omega)).trans e1
  refine ⟨hbx W (bq.trans (hq.mono bq.size)),?_⟩
  simp [World.cell?,q1,q2])
 have HWP:=Lib.hid hwp
 have HWQ:=Lib.hid hwq
 have HW1:=Lib.hid hw1
 have HB1:=Lib.hid hb1
 have KF1:=Lib.hid (fun W=>few_any (.int .i64 A.n) AwA AtA Awn Awc Atn Atc W)
 have KF2:=Lib.hid (fun W=>few_any (.int .i64 B.n) BwA BtA Bwn Bwc Btn Btc W)
 have Z1:Hid (w1.heap.size=w.heap.size+1+1+1+1+1):=(show _=_ from by omega)
 obtain ⟨⟨a01,a11,a21,b01,b11,b21,p01,p11,p21,p31⟩,⟨x01,x11,x21,x31⟩,f01,f11⟩:=HCE.out w1 (Below.refl _ _)
 have c0:=hbp.size
 clear hwp hwq hw1 hbx bq eq b1 z1 e1 hbq hzp hbp c0
 by_cases hf1:(fewN Awn&&fewN Atn)=true
 case neg=>
  rw [Bool.not_eq_true] at hf1
  rw [hf1] at KF1
  clear Aw At Bw Bt hL hf1 hb1
  go_enter Tryz.func8,Tryz.ntmps8
  go_wp2_with (first
   | rw [HWP.out]
   | rw [HWQ.out]
   | rw [HW1.out]
   | (go_at_call 16;(with_reducible refine (KF1.out _).mono ?_);rintro e w2 ⟨rfl,hb2⟩
      have HC2:=Lib.hid (hb2)
      obtain ⟨⟨a02,a12,a22,b02,b12,b22,p02,p12,p22,p32⟩,⟨x02,x12,x22,x32⟩,f02,f12⟩:=HCE.out w2 HC2.out
      clear hb2)
   | (go_at_call 17;(with_reducible refine (joined_any _).mono ?_);rintro e wj ⟨rfl,hbj⟩
      have HJ:=Lib.hid (HB1.out.trans ((HC2.out.trans (hbj.mono HC2.out.size)).mono HB1.out.size))
      clear hbj))
  go_ret
  exact ⟨rfl,HJ.out⟩
 case pos=>
 rw [hf1] at KF1
 by_cases hf2:(fewN Bwn&&fewN Btn)=true
 case neg=>
  rw [Bool.not_eq_true] at hf2
  rw [hf2] at KF2
  clear Aw At Bw Bt hL hf1 hf2 hb1
  go_enter Tryz.func8,Tryz.ntmps8
  go_wp2_with (first
   | rw [HWP.out]
   | rw [HWQ.out]
   | rw [HW1.out]
   | (go_at_call 16;(with_reducible refine (KF1.out _).mono ?_);rintro e w2 ⟨rfl,hb2⟩
      have HC2:=Lib.hid (hb2)
      obtain ⟨⟨a02,a12,a22,b02,b12,b22,p02,p12,p22,p32⟩,⟨x02,x12,x22,x32⟩,f02,f12⟩:=HCE.out w2 HC2.out
      clear hb2)
   | (go_at_call 16;(with_reducible refine (KF2.out _).mono ?_);rintro e w3 ⟨rfl,hb3⟩
      have HC3:=Lib.hid (HC2.out.trans (hb3.mono HC2.out.size))
      obtain ⟨⟨a03,a13,a23,b03,b13,b23,p03,p13,p23,p33⟩,⟨x03,x13,x23,x33⟩,f03,f13⟩:=HCE.out w3 HC3.out
      clear hb3)
   | (go_at_call 17;(with_reducible refine (joined_any _).mono ?_);rintro e wj ⟨rfl,hbj⟩
      have HJ:=Lib.hid (HB1.out.trans ((HC3.out.trans (hbj.mono HC3.out.size)).mono HB1.out.size))
      clear hbj))
  go_ret
  exact ⟨rfl,HJ.out⟩
 case pos=>
 rw [hf2] at KF2
 by_cases hm:(100:Int)<m
 case pos=>
  have d1:decide ((m:Int)>100)=true:=decide_eq_true hm
  clear Aw At Bw Bt hL hf1 hf2 hb1
  go_enter Tryz.func8,Tryz.ntmps8
  go_wp2_with (first
   | rw [HWP.out]
   | rw [HWQ.out]
   | rw [HW1.out]
   | (go_at_call 16;(with_reducible refine (KF1.out _).mono ?_);rintro e w2 ⟨rfl,hb2⟩
      have HC2:=Lib.hid (hb2)
      obtain ⟨⟨a02,a12,a22,b02,b12,b22,p02,p12,p22,p32⟩,⟨x02,x12,x22,x32⟩,f02,f12⟩:=HCE.out w2 HC2.out
      clear hb2)
   | (go_at_call 16;(with_reducible refine (KF2.out _).mono ?_);rintro e w3 ⟨rfl,hb3⟩
      have HC3:=Lib.hid (HC2.out.trans (hb3.mono HC2.out.size))
      obtain ⟨⟨a03,a13,a23,b03,b13,b23,p03,p13,p23,p33⟩,⟨x03,x13,x23,x33⟩,f03,f13⟩:=HCE.out w3 HC3.out
      clear hb3)
   | (go_at_call 17;(with_reducible refine (joined_any _).mono ?_);rintro e wj ⟨rfl,hbj⟩
      have HJ:=Lib.hid (HB1.out.trans ((HC3.out.trans (hbj.mono HC3.out.size)).mono HB1.out.size))
      clear hbj))
  go_ret
  exact ⟨rfl,HJ.out⟩
 case neg=>
  have d1:decide ((m:Int)>100)=false:=decide_eq_false hm
  obtain ⟨f1,f2⟩:=Bool.and_eq_true_iff.1 hf1
  obtain ⟨f3,f4⟩:=Bool.and_eq_true_iff.1 hf2
  have f5:=fewN_iff.1 f1;have f6:=fewN_iff.1 f2;have f7:=fewN_iff.1 f3;have f8:=fewN_iff.1 f4
  have ra:=Aw.2 (by omega);have rt:=At.2 (by omega);have rb:=Bw.2 (by omega);have ru:=Bt.2 (by omega);have rl:=hL.2 (by omega)
  have RA:Hid (∀ W,Below w1.heap.size w1 W→Rd encBound 4 W AwA Awn Awc A.ways):=(show ∀ W,_→_ from fun W h=>(ra.below hb1 (Nat.le_refl _)).below h (Nat.le_refl _))
  have RT:Hid (∀ W,Below w1.heap.size w1 W→Rd encBound 4 W AtA Atn Atc A.turns):=(show ∀ W,_→_ from fun W h=>(rt.below hb1 (Nat.le_refl _)).below h (Nat.le_refl _))
  have RB:Hid (∀ W,Below w1.heap.size w1 W→Rd encBound 4 W BwA Bwn Bwc B.ways):=(show ∀ W,_→_ from fun W h=>(rb.below hb1 (Nat.le_refl _)).below h (Nat.le_refl _))
  have RU:Hid (∀ W,Below w1.heap.size w1 W→Rd encBound 4 W BtA Btn Btc B.turns):=(show ∀ W,_→_ from fun W h=>(ru.below hb1 (Nat.le_refl _)).below h (Nat.le_refl _))
  have RL:Hid (∀ W,Below w1.heap.size w1 W→Rd encInt 1 W L m lc l):=(show ∀ W,_→_ from fun W h=>(rl.below hb1 (Nat.le_refl _)).below h (Nat.le_refl _))
  have KW:=Lib.hid (fun W (h:Below w1.heap.size w1 W)=>WithE_any A AwA Awn Awc AtA Atn Atc turned x W (RA.out W h) (RT.out W h))
  have KX:=Lib.hid (fun W (h:Below w1.heap.size w1 W)=>r3With_any A AwA Awn Awc AtA Atn Atc turned x W (RA.out W h) (RT.out W h))
  have KC:=Lib.hid (fun W (h:Below w1.heap.size w1 W)=>CheckFlaw_any A AwA Awn Awc AtA Atn Atc tn L m lc l W (RA.out W h) (RT.out W h) (RL.out W h) (by omega))
  have KD:=Lib.hid (fun W (h:Below w1.heap.size w1 W)=>r3CheckFlaw_any A AwA Awn Awc AtA Atn Atc tn L m lc l W (RA.out W h) (RT.out W h) (RL.out W h) (by omega))
  have C2:=Lib.hid (fun W (h:Below w1.heap.size w1 W)=>CheckOutline_any A AwA Awn Awc AtA Atn Atc W (RA.out W h) (RT.out W h))
  have C3:=Lib.hid (fun W (h:Below w1.heap.size w1 W)=>r3CheckOutline_any A AwA Awn Awc AtA Atn Atc W (RA.out W h) (RT.out W h))
  have C4:=Lib.hid (fun W (h:Below w1.heap.size w1 W)=>CheckPairing_any A AwA Awn Awc AtA Atn Atc B BwA Bwn Bwc BtA Btn Btc p W (RA.out W h) (RT.out W h) (RB.out W h) (RU.out W h))
  have C5:=Lib.hid (fun W (h:Below w1.heap.size w1 W)=>r3CheckPairing_any A AwA Awn Awc AtA Atn Atc B BwA Bwn Bwc BtA Btn Btc p W (RA.out W h) (RT.out W h) (RB.out W h) (RU.out W h))
  have HLN:=Lib.hid (withV_len A turned x)
  clear Aw At Bw Bt hL hf1 hf2 hb1 f1 f2 f3 f4 f5 f6 f7 f8 ra rt rb ru rl hm
  generalize withV A turned x=fv at *
  obtain ⟨R,ev⟩:=fv
  generalize ownFlawB A tn l=rv at *
  generalize checkOut A=cv at *
  generalize pairErr A B p=pv at *
  simp only at KW KX HLN
  go_enter Tryz.func8,Tryz.ntmps8
  go_upto_region 7 with (first
   | rw [HWP.out]
   | rw [HWQ.out]
   | rw [HW1.out]
   | (go_at_call 16;(with_reducible refine (KF1.out _).mono ?_);rintro e w2 ⟨rfl,hb2⟩
      have HC2:=Lib.hid (hb2)
      obtain ⟨⟨a02,a12,a22,b02,b12,b22,p02,p12,p22,p32⟩,⟨x02,x12,x22,x32⟩,f02,f12⟩:=HCE.out w2 HC2.out
      clear hb2)
   | (go_at_call 16;(with_reducible refine (KF2.out _).mono ?_);rintro e w3 ⟨rfl,hb3⟩
      have HC3:=Lib.hid (HC2.out.trans (hb3.mono HC2.out.size))
      obtain ⟨⟨a03,a13,a23,b03,b13,b23,p03,p13,p23,p33⟩,⟨x03,x13,x23,x33⟩,f03,f13⟩:=HCE.out w3 HC3.out
      clear hb3)
   | (go_at_call 31;(with_reducible refine (KW.out _ HC3.out).mono ?_);rintro e w4 ⟨W4,n4,c4,T4,m4,d4,rfl,hb4,ho4,hq4⟩
      obtain ⟨w5,a5x,b5x,z5x,e5x⟩:=alloc_facts w4 #[.int .i64 R.n,.slice W4 n4 c4,.slice T4 m4 d4] 24
      have HC5:=Lib.hid (HC3.out.trans ((hb4.trans (b5x.mono hb4.size)).mono HC3.out.size))
      have HA5:=Lib.hid a5x
      have HE5:=Lib.hid e5x
      have Z5:Hid (w5.heap.size=w4.heap.size+1):=(show _=_ from z5x)
      have q1:=ho4.len;have q2:=hq4.len;have q3:=HLN.out
      have RW4a:=Lib.hid ((ho4.below b5x (Nat.le_refl _)).rd (fun _=>rfl) (by omega))
      have RT4a:=Lib.hid ((hq4.below b5x (Nat.le_refl _)).rd (fun _=>rfl) (by omega))
      clear q1 q2 q3
      obtain ⟨⟨a05,a15,a25,b05,b15,b25,p05,p15,p25,p35⟩,⟨x05,x15,x25,x35⟩,f05,f15⟩:=HCE.out w5 HC5.out
      clear hb4 ho4 hq4 a5x b5x z5x e5x)
   | rw [HA5.out]
   | (go_at_call 32;(with_reducible refine (KX.out _ HC5.out).mono ?_);rintro e w6 ⟨W6,n6,c6,T6,m6,d6,rfl,hb6,ho6,hq6⟩
      obtain ⟨w7,a7x,b7x,z7x,e7x⟩:=alloc_facts w6 #[.int .i64 R.n,.slice W6 n6 c6,.slice T6 m6 d6] 24
      have HC7:=Lib.hid (HC5.out.trans ((hb6.trans (b7x.mono hb6.size)).mono HC5.out.size))
      have HA7:=Lib.hid a7x
      have HE7:=Lib.hid e7x
      have Z7:Hid (w7.heap.size=w6.heap.size+1):=(show _=_ from z7x)
      have hb67:=hb6.trans (b7x.mono hb6.size)
      have RW6a:=Lib.hid (ho6.below b7x (Nat.le_refl _))
      have RT6a:=Lib.hid (hq6.below b7x (Nat.le_refl _))
      have RW4b:=Lib.hid (RW4a.out.below hb67 (Nat.le_refl _))
      have RT4b:=Lib.hid (RT4a.out.below hb67 (Nat.le_refl _))
      have hh5:=(hb67.block w4.heap.size (by have:=Z5.out;omega)).trans HE5.out
      have HK7:Hid (∀ W,Below w7.heap.size w7 W→(W.cell? ⟨w4.heap.size,0,none⟩=some (.int .i64 R.n)∧W.cell? ⟨w4.heap.size,1,none⟩=some (.slice W4 n4 c4)∧W.cell? ⟨w4.heap.size,2,none⟩=some (.slice T4 m4 d4))∧W.cell? ⟨w6.heap.size,0,none⟩=some (.int .i64 R.n)∧W.cell? ⟨w6.heap.size,1,none⟩=some (.slice W6 n6 c6)∧W.cell? ⟨w6.heap.size,2,none⟩=some (.slice T6 m6 d6)):=(show ∀ W,_→_ from fun W hW=>by
       have q1:=(hW.block w4.heap.size (by have:=hb67.size;have:=Z5.out;omega)).trans hh5
       have q2:=(hW.block w6.heap.size (by omega)).trans e7x
       simp [World.cell?,q1,q2])
      clear hb67 hh5
      obtain ⟨⟨a07,a17,a27,b07,b17,b27,p07,p17,p27,p37⟩,⟨x07,x17,x27,x37⟩,f07,f17⟩:=HCE.out w7 HC7.out
      clear hb6 ho6 hq6 a7x b7x z7x e7x)
   | rw [HA7.out]
   | (go_at_call 33;(with_reducible refine (KC.out _ HC7.out).mono ?_);rintro e w8 ⟨rfl,hb8⟩
      have HC8:=Lib.hid (HC7.out.trans (hb8.mono HC7.out.size))
      obtain ⟨⟨a08,a18,a28,b08,b18,b28,p08,p18,p28,p38⟩,⟨x08,x18,x28,x38⟩,f08,f18⟩:=HCE.out w8 HC8.out
      have HB78:=Lib.hid hb8
      clear hb8)
   | (go_at_call 34;(with_reducible refine (KD.out _ HC8.out).mono ?_);rintro e w9 ⟨rfl,hb9⟩
      have HC9:=Lib.hid (HC8.out.trans (hb9.mono HC8.out.size))
      obtain ⟨⟨a09,a19,a29,b09,b19,b29,p09,p19,p29,p39⟩,⟨x09,x19,x29,x39⟩,f09,f19⟩:=HCE.out w9 HC9.out
      have HB79:=Lib.hid (HB78.out.trans (hb9.mono HB78.out.size))
      have HK9:Hid (∀ W,Below w9.heap.size w9 W→_):=(show ∀ W,_→_ from fun W hW=>HK7.out W (HB79.out.trans (hW.mono HB79.out.size)))
      have RW4:Hid (∀ W,Below w9.heap.size w9 W→_):=(show ∀ W,_→_ from fun W hW=>RW4b.out.below (HB79.out.trans (hW.mono HB79.out.size)) (Nat.le_refl _))
      have RT4:Hid (∀ W,Below w9.heap.size w9 W→_):=(show ∀ W,_→_ from fun W hW=>RT4b.out.below (HB79.out.trans (hW.mono HB79.out.size)) (Nat.le_refl _))
      have RW6:Hid (∀ W,Below w9.heap.size w9 W→_):=(show ∀ W,_→_ from fun W hW=>RW6a.out.below (HB79.out.trans (hW.mono HB79.out.size)) (Nat.le_refl _))
      have RT6:Hid (∀ W,Below w9.heap.size w9 W→_):=(show ∀ W,_→_ from fun W hW=>RT6a.out.below (HB79.out.trans (hW.mono HB79.out.size)) (Nat.le_refl _))
      clear hb9))
  have hsz:=HC9.out.size
  refine out7 _ rfl w.heap.size (w.heap.size+1) (w.heap.size+1+1) w4.heap.size w6.heap.size A.n B.n p.a.lo p.a.hi p.b.lo p.b.hi R.n R.n (.slice AwA Awn Awc) (.slice AtA Atn Atc) (.slice BwA Bwn Bwc) (.slice BtA Btn Btc) (.slice W4 n4 c4) (.slice T4 m4 d4) (.slice W6 n6 c6) (.slice T6 m6 d6) ev cv pv rv _ w9 _ rfl rfl rfl rfl rfl rfl rfl rfl rfl rfl rfl rfl ?_ (fun W _=>joined_any W) (fun W h=>C2.out W (HC9.out.trans (h.mono HC9.out.size))) (fun W h=>C3.out W (HC9.out.trans (h.mono HC9.out.size))) (fun W h=>C4.out W (HC9.out.trans (h.mono HC9.out.size))) (fun W h=>C5.out W (HC9.out.trans (h.mono HC9.out.size))) (fun W h=>sameOut_true R.n R.ways R.turns W4 n4 c4 T4 m4 d4 W6 n6 c6 T6 m6 d6 W (RW4.out W h) (RT4.out W h) (RW6.out W h) (RT6.out W h)) ?_
  · intro W h
    obtain ⟨⟨a0,a1,a2,b0,b1,b2,p0,p1,p2,p3⟩,_⟩:=HCE.out W (HC9.out.trans (h.mono HC9.out.size))
    obtain ⟨⟨u0,u1,u2⟩,v0,v1,v2⟩:=HK9.out W h
    exact ⟨a0,a1,a2,b0,b1,b2,p0,p1,p2,p3,u0,u1,u2,v0,v1,v2⟩
  intro w10 hb10
  have HJ:=Lib.hid (HB1.out.trans ((HC9.out.trans (hb10.mono HC9.out.size)).mono HB1.out.size))
  clear hb10
  simp only [setsL,Nat.reduceAdd,List.setIfInBounds_toArray,List.set_cons_succ,List.set_cons_zero]
  go_wp2
  go_ret
  exact ⟨rfl,HJ.out⟩
end Go.Proofs.YtccabpahfmoamaaGreat
end

/- Contracts that the laws lean on: ChkL. -/
import Derived.Test.YtccabpahfmoamaaGreatE27
import Derived.Test.YtccabpahfmoamaaGreatE36
import Derived.Test.YtccabpahfmoamaaGreatE26
import Derived.Test.YtccabpahfmoamaaGreatE46
import Derived.Test.YtccabpahfmoamaaGreatE47
section
namespace Go.Proofs.YtccabpahfmoamaaGreat
open Go.RowKit Go.Proofs Go.Shelf
theorem restsV_len (A B:Outl) (p:Pairing) (tn:Bool) (l:List Int):(restsV A B p tn l).length≤l.length:=by
 unfold restsV
 split
 · unfold idsAt pickB
   refine Nat.le_trans (idsE_len _) ?_
   rw [List.length_map]
   exact List.length_filterMap_le _ _
 · simp
set_option maxRecDepth 100000 in
set_option maxHeartbeats 8000000 in
theorem edgeChecks_of (A:Outl) (AwA:Option Addr) (Awn Awc:Nat) (AtA:Option Addr) (Atn Atc:Nat) (B:Outl) (BwA:Option Addr) (Bwn Bwc:Nat) (BtA:Option Addr) (Btn Btc:Nat) (p:Pairing) (X0 X1 X2 X3:Option Addr) (n0 k0 n1 k1 n2 k2 n3 k3:Nat) (xa xb da db:List Int) (tn:Bool) (L:Option Addr) (m lc:Nat) (l:List Int) (w:World) (hsz:Awn≤17592186044416∧Atn≤17592186044416∧Bwn≤17592186044416∧Btn≤17592186044416∧n0≤17592186044416∧n1≤17592186044416∧n2≤17592186044416∧n3≤17592186044416) (Aw:InL encBound 4 w AwA Awn Awc A.ways) (At:InL encBound 4 w AtA Atn Atc A.turns) (Bw:InL encBound 4 w BwA Bwn Bwc B.ways) (Bt:InL encBound 4 w BtA Btn Btc B.turns) (hX0:InL encInt 1 w X0 n0 k0 xa) (hX1:InL encInt 1 w X1 n1 k1 xb) (hX2:InL encInt 1 w X2 n2 k2 da) (hX3:InL encInt 1 w X3 n3 k3 db) (hL:InL encInt 1 w L m lc l):
 Calls Tryz.prog 3 #[.agg #[.int .i64 A.n,.slice AwA Awn Awc,.slice AtA Atn Atc],.agg #[.int .i64 B.n,.slice BwA Bwn Bwc,.slice BtA Btn Btc],.agg #[.int .i64 p.a.lo,.int .i64 p.a.hi,.int .i64 p.b.lo,.int .i64 p.b.hi],.agg #[.slice X0 n0 k0,.slice X1 n1 k1,.slice X2 n2 k2,.slice X3 n3 k3],.agg #[.bool tn,.slice L m lc]] w fun e w'=>e = .returned (.bool true)∧Below w.heap.size w w':=by
 obtain ⟨wp,hwp,hbp,hzp,hbx⟩:=boxABP w A AwA Awn Awc AtA Atn Atc B BwA Bwn Bwc BtA Btn Btc p
 obtain ⟨wq,hwq,bq,zq,eq⟩:=alloc_facts wp #[.slice X0 n0 k0,.slice X1 n1 k1,.slice X2 n2 k2,.slice X3 n3 k3] 31
 obtain ⟨w1,hw1,b1,z1,e1⟩:=alloc_facts wq #[.bool tn,.slice L m lc] 33
 have hbq:=hbp.trans (bq.mono hbp.size)
 have hb1:=hbq.trans (b1.mono hbq.size)
 have hzp':wp.heap.size=w.heap.size+1+1+1:=(by omega)
 rw [hzp'] at eq zq
 rw [zq] at e1 z1
 have HCE:Hid (∀ W,Below w1.heap.size w1 W→BoxABP w.heap.size A AwA Awn Awc AtA Atn Atc B BwA Bwn Bwc BtA Btn Btc p W∧(W.cell? ⟨w.heap.size+1+1+1,0,none⟩=some (.slice X0 n0 k0)∧W.cell? ⟨w.heap.size+1+1+1,1,none⟩=some (.slice X1 n1 k1)∧W.cell? ⟨w.heap.size+1+1+1,2,none⟩=some (.slice X2 n2 k2)∧W.cell? ⟨w.heap.size+1+1+1,3,none⟩=some (.slice X3 n3 k3))∧W.cell? ⟨w.heap.size+1+1+1+1,0,none⟩=some (.bool tn)∧W.cell? ⟨w.heap.size+1+1+1+1,1,none⟩=some (.slice L m lc)):=(show ∀ W,_→_ from fun W h=>by
  have hq:=b1.trans (h.mono b1.size)
  have q1:=(hq.block (w.heap.size+1+1+1) (by omega)).trans eq
  have q2:=(h.block (w.heap.size+1+1+1+1) (by omega)).trans e1
  refine ⟨hbx W (bq.trans (hq.mono bq.size)),?_⟩
  simp [World.cell?,q1,q2])
 have HWP:=Lib.hid hwp
 have HWQ:=Lib.hid hwq
 have HW1:=Lib.hid hw1
 have HB1:=Lib.hid hb1
 have KF1:=Lib.hid (fun W=>few_any (.int .i64 A.n) AwA AtA Awn Awc Atn Atc W)
 have KF2:=Lib.hid (fun W=>few_any (.int .i64 B.n) BwA BtA Bwn Bwc Btn Btc W)
 have v1:IntKind.i64.wrap ((n0:Int)+n1)=n0+n1:=(by rw [IntKind.wrap_i64];omega)
 have v2:IntKind.i64.wrap ((n0:Int)+n1+n2)=n0+n1+n2:=(by rw [IntKind.wrap_i64];omega)
 have v3:IntKind.i64.wrap ((n0:Int)+n1+n2+n3)=n0+n1+n2+n3:=(by rw [IntKind.wrap_i64];omega)
 obtain ⟨⟨a01,a11,a21,b01,b11,b21,p01,p11,p21,p31⟩,⟨x01,x11,x21,x31⟩,f01,f11⟩:=HCE.out w1 (Below.refl _ _)
 have HSZ:=Lib.hid hsz
 clear hwp hwq hw1 hbx bq eq b1 z1 e1 hbq hzp hbp hsz
 by_cases hf1:(fewN Awn&&fewN Atn)=true
 case neg=>
  rw [Bool.not_eq_true] at hf1
  rw [hf1] at KF1
  clear Aw At Bw Bt hL hX0 hX1 hX2 hX3 hf1 hb1
  go_enter Tryz.func3,Tryz.ntmps3
  go_wp2_with (first
   | rw [HWP.out]
   | rw [HWQ.out]
   | rw [HW1.out]
   | (go_at_call 16;(with_reducible refine (KF1.out _).mono ?_);rintro e w2 ⟨rfl,hb2⟩
      have HC2:=Lib.hid (hb2)
      obtain ⟨⟨a02,a12,a22,b02,b12,b22,p02,p12,p22,p32⟩,⟨x02,x12,x22,x32⟩,f02,f12⟩:=HCE.out w2 HC2.out
      clear hb2)
   | (go_at_call 17;(with_reducible refine (joined_any _).mono ?_);rintro e wj ⟨rfl,hbj⟩
      have HJ:=Lib.hid (HB1.out.trans ((HC2.out.trans (hbj.mono HC2.out.size)).mono HB1.out.size))
      clear hbj))
  go_ret
  exact ⟨rfl,HJ.out⟩
 case pos=>
 rw [hf1] at KF1
 by_cases hf2:(fewN Bwn&&fewN Btn)=true
 case neg=>
  rw [Bool.not_eq_true] at hf2
  rw [hf2] at KF2
  clear Aw At Bw Bt hL hX0 hX1 hX2 hX3 hf1 hf2 hb1
  go_enter Tryz.func3,Tryz.ntmps3
  go_wp2_with (first
   | rw [HWP.out]
   | rw [HWQ.out]
   | rw [HW1.out]
   | (go_at_call 16;(with_reducible refine (KF1.out _).mono ?_);rintro e w2 ⟨rfl,hb2⟩
      have HC2:=Lib.hid (hb2)
      obtain ⟨⟨a02,a12,a22,b02,b12,b22,p02,p12,p22,p32⟩,⟨x02,x12,x22,x32⟩,f02,f12⟩:=HCE.out w2 HC2.out
      clear hb2)
   | (go_at_call 16;(with_reducible refine (KF2.out _).mono ?_);rintro e w3 ⟨rfl,hb3⟩
      have HC3:=Lib.hid (HC2.out.trans (hb3.mono HC2.out.size))
      obtain ⟨⟨a03,a13,a23,b03,b13,b23,p03,p13,p23,p33⟩,⟨x03,x13,x23,x33⟩,f03,f13⟩:=HCE.out w3 HC3.out
      clear hb3)
   | (go_at_call 17;(with_reducible refine (joined_any _).mono ?_);rintro e wj ⟨rfl,hbj⟩
      have HJ:=Lib.hid (HB1.out.trans ((HC3.out.trans (hbj.mono HC3.out.size)).mono HB1.out.size))
      clear hbj))
  go_ret
  exact ⟨rfl,HJ.out⟩
 case pos=>
 rw [hf2] at KF2
 by_cases hm:(100:Int)<m
 case pos=>
  have d1:decide ((m:Int)>100)=true:=decide_eq_true hm
  clear Aw At Bw Bt hL hX0 hX1 hX2 hX3 hf1 hf2 hb1
  go_enter Tryz.func3,Tryz.ntmps3
  go_wp2_with (first
   | rw [HWP.out]
   | rw [HWQ.out]
   | rw [HW1.out]
   | (go_at_call 16;(with_reducible refine (KF1.out _).mono ?_);rintro e w2 ⟨rfl,hb2⟩
      have HC2:=Lib.hid (hb2)
      obtain ⟨⟨a02,a12,a22,b02,b12,b22,p02,p12,p22,p32⟩,⟨x02,x12,x22,x32⟩,f02,f12⟩:=HCE.out w2 HC2.out
      clear hb2)
   | (go_at_call 16;(with_reducible refine (KF2.out _).mono ?_);rintro e w3 ⟨rfl,hb3⟩
      have HC3:=Lib.hid (HC2.out.trans (hb3.mono HC2.out.size))
      obtain ⟨⟨a03,a13,a23,b03,b13,b23,p03,p13,p23,p33⟩,⟨x03,x13,x23,x33⟩,f03,f13⟩:=HCE.out w3 HC3.out
      clear hb3)
   | (go_at_call 17;(with_reducible refine (joined_any _).mono ?_);rintro e wj ⟨rfl,hbj⟩
      have HJ:=Lib.hid (HB1.out.trans ((HC3.out.trans (hbj.mono HC3.out.size)).mono HB1.out.size))
      clear hbj))
  go_ret
  exact ⟨rfl,HJ.out⟩
 case neg=>
 have d1:decide ((m:Int)>100)=false:=decide_eq_false hm
 by_cases hs:(100:Int)<n0+n1+n2+n3
 case pos=>
  have d2:decide ((n0:Int)+n1+n2+n3>100)=true:=decide_eq_true hs
  clear Aw At Bw Bt hL hX0 hX1 hX2 hX3 hf1 hf2 hb1
  go_enter Tryz.func3,Tryz.ntmps3
  go_wp2_with (first
   | rw [HWP.out]
   | rw [HWQ.out]
   | rw [HW1.out]
   | (go_at_call 16;(with_reducible refine (KF1.out _).mono ?_);rintro e w2 ⟨rfl,hb2⟩
      have HC2:=Lib.hid (hb2)
      obtain ⟨⟨a02,a12,a22,b02,b12,b22,p02,p12,p22,p32⟩,⟨x02,x12,x22,x32⟩,f02,f12⟩:=HCE.out w2 HC2.out
      clear hb2)
   | (go_at_call 16;(with_reducible refine (KF2.out _).mono ?_);rintro e w3 ⟨rfl,hb3⟩
      have HC3:=Lib.hid (HC2.out.trans (hb3.mono HC2.out.size))
      obtain ⟨⟨a03,a13,a23,b03,b13,b23,p03,p13,p23,p33⟩,⟨x03,x13,x23,x33⟩,f03,f13⟩:=HCE.out w3 HC3.out
      clear hb3)
   | (go_at_call 17;(with_reducible refine (joined_any _).mono ?_);rintro e wj ⟨rfl,hbj⟩
      have HJ:=Lib.hid (HB1.out.trans ((HC3.out.trans (hbj.mono HC3.out.size)).mono HB1.out.size))
      clear hbj))
  go_ret
  exact ⟨rfl,HJ.out⟩
 case neg=>
  have d2:decide ((n0:Int)+n1+n2+n3>100)=false:=decide_eq_false hs
  obtain ⟨f1,f2⟩:=Bool.and_eq_true_iff.1 hf1
  obtain ⟨f3,f4⟩:=Bool.and_eq_true_iff.1 hf2
  have f5:=fewN_iff.1 f1;have f6:=fewN_iff.1 f2;have f7:=fewN_iff.1 f3;have f8:=fewN_iff.1 f4
  have ra:=Aw.2 (by omega);have rt:=At.2 (by omega);have rb:=Bw.2 (by omega);have ru:=Bt.2 (by omega);have rl:=hL.2 (by omega)
  have r0:=hX0.2 (by omega);have r1:=hX1.2 (by omega);have r2:=hX2.2 (by omega);have r3:=hX3.2 (by omega)
  have RA:Hid (∀ W,Below w1.heap.size w1 W→Rd encBound 4 W AwA Awn Awc A.ways∧Rd encBound 4 W AtA Atn Atc A.turns∧Rd encBound 4 W BwA Bwn Bwc B.ways∧Rd encBound 4 W BtA Btn Btc B.turns):=(show ∀ W,_→_ from fun W h=>⟨(ra.below hb1 (Nat.le_refl _)).below h (Nat.le_refl _),(rt.below hb1 (Nat.le_refl _)).below h (Nat.le_refl _),(rb.below hb1 (Nat.le_refl _)).below h (Nat.le_refl _),(ru.below hb1 (Nat.le_refl _)).below h (Nat.le_refl _)⟩)
  have RX:Hid (∀ W,Below w1.heap.size w1 W→Rd encInt 1 W X0 n0 k0 xa∧Rd encInt 1 W X1 n1 k1 xb∧Rd encInt 1 W X2 n2 k2 da∧Rd encInt 1 W X3 n3 k3 db):=(show ∀ W,_→_ from fun W h=>⟨(r0.below hb1 (Nat.le_refl _)).below h (Nat.le_refl _),(r1.below hb1 (Nat.le_refl _)).below h (Nat.le_refl _),(r2.below hb1 (Nat.le_refl _)).below h (Nat.le_refl _),(r3.below hb1 (Nat.le_refl _)).below h (Nat.le_refl _)⟩)
  have RL:Hid (∀ W,Below w1.heap.size w1 W→Rd encInt 1 W L m lc l):=(show ∀ W,_→_ from fun W h=>(rl.below hb1 (Nat.le_refl _)).below h (Nat.le_refl _))
  have C1:=Lib.hid (fun W (h:Below w1.heap.size w1 W)=>CheckPlace_any A AwA Awn Awc AtA Atn Atc B BwA Bwn Bwc BtA Btn Btc p X0 X1 X2 X3 n0 k0 n1 k1 n2 k2 n3 k3 xa xb da db W (RA.out W h).1 (RA.out W h).2.1 (RA.out W h).2.2.1 (RA.out W h).2.2.2 (RX.out W h).1 (RX.out W h).2.1 (RX.out W h).2.2.1 (RX.out W h).2.2.2)
  have C2:=Lib.hid (fun W (h:Below w1.heap.size w1 W)=>r3CheckPlace_any A AwA Awn Awc AtA Atn Atc B BwA Bwn Bwc BtA Btn Btc p X0 X1 X2 X3 n0 k0 n1 k1 n2 k2 n3 k3 xa xb da db W (RA.out W h).1 (RA.out W h).2.1 (RA.out W h).2.2.1 (RA.out W h).2.2.2 (RX.out W h).1 (RX.out W h).2.1 (RX.out W h).2.2.1 (RX.out W h).2.2.2)
  have C3:=Lib.hid (fun W (h:Below w1.heap.size w1 W)=>CheckClash_any A AwA Awn Awc AtA Atn Atc B BwA Bwn Bwc BtA Btn Btc p tn L m lc l W (RA.out W h).1 (RA.out W h).2.1 (RA.out W h).2.2.1 (RA.out W h).2.2.2 (RL.out W h) (by omega))
  have C4:=Lib.hid (fun W (h:Below w1.heap.size w1 W)=>r3CheckClash_any A AwA Awn Awc AtA Atn Atc B BwA Bwn Bwc BtA Btn Btc p tn L m lc l W (RA.out W h).1 (RA.out W h).2.1 (RA.out W h).2.2.1 (RA.out W h).2.2.2 (RL.out W h) (by omega))
  have C5:=Lib.hid (fun W (h:Below w1.heap.size w1 W)=>Rests_any A AwA Awn Awc AtA Atn Atc B BwA Bwn Bwc BtA Btn Btc p tn L m lc l W (RA.out W h).1 (RA.out W h).2.1 (RA.out W h).2.2.1 (RA.out W h).2.2.2 (RL.out W h) (by omega))
  have C6:=Lib.hid (fun W (h:Below w1.heap.size w1 W)=>r3Rests_any A AwA Awn Awc AtA Atn Atc B BwA Bwn Bwc BtA Btn Btc p tn L m lc l W (RA.out W h).1 (RA.out W h).2.1 (RA.out W h).2.2.1 (RA.out W h).2.2.2 (RL.out W h) (by omega))
  have HLR:=Lib.hid (restsV_len A B p tn l)
  have hll:=hL.1
  have hll2:l.length≤100:=(by omega)
  have HLL:=Lib.hid hll2
  clear Aw At Bw Bt hL hX0 hX1 hX2 hX3 hf1 hf2 hb1 f1 f2 f3 f4 f5 f6 f7 f8 ra rt rb ru rl r0 r1 r2 r3 hm hs hll hll2
  generalize plcB A B p xa xb da db=pb at *
  generalize clashB A B p tn l=cb at *
  generalize askedErr A B p=ae at *
  generalize restsErr A B p tn l=re at *
  generalize restsV A B p tn l=rv at *
  have s1:(ae==ae)=true:=(by simp)
  have s2:(pb==pb)=true:=(by simp)
  have s3:(cb==cb)=true:=(by simp)
  have s4:(re==re)=true:=(by simp)
  go_enter Tryz.func3,Tryz.ntmps3
  go_wp2_with (first
   | rw [HWP.out]
   | rw [HWQ.out]
   | rw [HW1.out]
   | (go_at_call 16;(with_reducible refine (KF1.out _).mono ?_);rintro e w2 ⟨rfl,hb2⟩
      have HC2:=Lib.hid (hb2)
      obtain ⟨⟨a02,a12,a22,b02,b12,b22,p02,p12,p22,p32⟩,⟨x02,x12,x22,x32⟩,f02,f12⟩:=HCE.out w2 HC2.out
      clear hb2)
   | (go_at_call 16;(with_reducible refine (KF2.out _).mono ?_);rintro e w3 ⟨rfl,hb3⟩
      have HC3:=Lib.hid (HC2.out.trans (hb3.mono HC2.out.size))
      obtain ⟨⟨a03,a13,a23,b03,b13,b23,p03,p13,p23,p33⟩,⟨x03,x13,x23,x33⟩,f03,f13⟩:=HCE.out w3 HC3.out
      clear hb3)
   | (go_at_call 18;(with_reducible refine (C1.out _ HC3.out).mono ?_);rintro e w4 ⟨rfl,hb4⟩
      have HC4:=Lib.hid (HC3.out.trans (hb4.mono HC3.out.size))
      obtain ⟨⟨a04,a14,a24,b04,b14,b24,p04,p14,p24,p34⟩,⟨x04,x14,x24,x34⟩,f04,f14⟩:=HCE.out w4 HC4.out
      clear hb4)
   | (go_at_call 19;(with_reducible refine (C2.out _ HC4.out).mono ?_);rintro e w5 ⟨rfl,hb5⟩
      have HC5:=Lib.hid (HC4.out.trans (hb5.mono HC4.out.size))
      obtain ⟨⟨a05,a15,a25,b05,b15,b25,p05,p15,p25,p35⟩,⟨x05,x15,x25,x35⟩,f05,f15⟩:=HCE.out w5 HC5.out
      clear hb5)
   | (go_at_call 20;(with_reducible refine (C3.out _ HC5.out).mono ?_);rintro e w6 ⟨rfl,hb6⟩
      have HC6:=Lib.hid (HC5.out.trans (hb6.mono HC5.out.size))
      obtain ⟨⟨a06,a16,a26,b06,b16,b26,p06,p16,p26,p36⟩,⟨x06,x16,x26,x36⟩,f06,f16⟩:=HCE.out w6 HC6.out
      clear hb6)
   | (go_at_call 21;(with_reducible refine (C4.out _ HC6.out).mono ?_);rintro e w7 ⟨rfl,hb7⟩
      have HC7:=Lib.hid (HC6.out.trans (hb7.mono HC6.out.size))
      obtain ⟨⟨a07,a17,a27,b07,b17,b27,p07,p17,p27,p37⟩,⟨x07,x17,x27,x37⟩,f07,f17⟩:=HCE.out w7 HC7.out
      clear hb7)
   | (go_at_call 22;(with_reducible refine (C5.out _ HC7.out).mono ?_);rintro e w8 ⟨A8,c8,rfl,hb8,ho8⟩
      have HC8:=Lib.hid (HC7.out.trans (hb8.mono HC7.out.size))
      have hrl:=HLR.out;have hrm:=HLL.out
      have HR8:=Lib.hid (ho8.rd (fun _=>rfl) (by omega))
      obtain ⟨⟨a08,a18,a28,b08,b18,b28,p08,p18,p28,p38⟩,⟨x08,x18,x28,x38⟩,f08,f18⟩:=HCE.out w8 HC8.out
      clear hb8 ho8 hrl hrm)
   | (go_at_call 23;(with_reducible refine (C6.out _ HC8.out).mono ?_);rintro e w9 ⟨A9,c9,rfl,hb9,hr9⟩
      have HC9:=Lib.hid (HC8.out.trans (hb9.mono HC8.out.size))
      have HR89:=Lib.hid (HR8.out.below hb9 (Nat.le_refl _))
      have HR9:=Lib.hid hr9
      clear hb9 hr9)
   | (go_at_call 17;(with_reducible refine (joined_any _).mono ?_);rintro e w10 ⟨rfl,hb10⟩
      have HC10:=Lib.hid (HC9.out.trans (hb10.mono HC9.out.size))
      have HSM:Hid (Calls Tryz.prog 24 #[.slice A8 rv.length c8,.slice A9 rv.length c9] w10 fun e w'=>e = .returned (.bool true)∧Below w10.heap.size w10 w'):=(show Calls _ _ _ _ _ from (same_any A8 rv.length c8 rv A9 rv.length c9 rv w10 (HR89.out.below hb10 (Nat.le_refl _)) (HR9.out.below hb10 (Nat.le_refl _))).mono fun e w' h=>⟨h.1.trans (by simp),h.2⟩)
      clear hb10)
   | (go_at_call 24;(with_reducible refine (HSM.out).mono ?_);rintro e w11 ⟨rfl,hb11⟩
      have HJ:=Lib.hid (HB1.out.trans ((HC10.out.trans (hb11.mono HC10.out.size)).mono HB1.out.size))
      clear hb11))
  go_ret
  exact ⟨rfl,HJ.out⟩
end Go.Proofs.YtccabpahfmoamaaGreat
end

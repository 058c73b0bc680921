/- Contracts that the laws lean on: TurL. -/
import Derived.Test.YtccabpahfmoamaaGreatE27
section
namespace Go.Proofs.YtccabpahfmoamaaGreat
open Go.RowKit Go.Proofs Go.Shelf
theorem turn_turn (p:Pairing):turnP (turnP p)=p:=rfl
theorem turn_ok {A B:Outl} {p:Pairing} : askedErr A B p=0↔askedErr B A (turnP p)=0:=by
 rw [askedErr_zero,askedErr_zero]
 exact ⟨fun h=>h.turn,fun h=>h.turn⟩
theorem turned_vals (A B:Outl) (p:Pairing):∃ (b:Bool) (e1 e2 l m g1 g2:Int),(decide (askedErr A B p=0)&&meetsV A B p)=b∧(decide (askedErr B A (turnP p)=0)&&meetsV B A (turnP p))=b∧askedErr A B p=e1∧askedErr B A (turnP p)=e2∧sharedV A B p=(l,m,g1)∧sharedV B A (turnP p)=(l,m,g2)∧((e1=0∧e2=0)∨(e1≠0∧e2≠0))∧((g1=0∧g2=0)∨(g1≠0∧g2≠0)):=by
 by_cases h:askedErr A B p=0
 · have h':=turn_ok.1 h
   have hk:=askedErr_zero.1 h
   have ht:=meets_turn hk
   cases hm:meetsV A B p with
   | true=>
     rw [hm] at ht
     obtain ⟨s1,s2⟩:=shared_turn hk hm
     refine ⟨true,0,0,sharedLow A B p,sharedHigh A B p,0,0,by simp [h],by simp [h',←ht],h,h',?_,?_,.inl ⟨rfl,rfl⟩,.inl ⟨rfl,rfl⟩⟩
     · unfold sharedV;simp [h,hm]
     · unfold sharedV;simp [h',←ht,s1,s2]
   | false=>
     rw [hm] at ht
     refine ⟨false,0,0,0,0,30,30,by simp,by simp [←ht],h,h',?_,?_,.inl ⟨rfl,rfl⟩,.inr ⟨by decide,by decide⟩⟩
     · unfold sharedV;simp [h,hm]
     · unfold sharedV;simp [h',←ht]
 · have h':askedErr B A (turnP p)≠0:=fun e=>h (turn_ok.2 e)
   refine ⟨false,askedErr A B p,askedErr B A (turnP p),0,0,askedErr A B p,askedErr B A (turnP p),by simp [h],by simp [h'],rfl,rfl,?_,?_,.inr ⟨h,h'⟩,.inr ⟨h,h'⟩⟩
   · unfold sharedV;simp [h]
   · unfold sharedV;simp [h']
set_option maxRecDepth 100000 in
set_option maxHeartbeats 8000000 in
theorem edgeTurned_of (A:Outl) (AwA:Option Addr) (Awn Awc:Nat) (AtA:Option Addr) (Atn Atc:Nat) (B:Outl) (BwA:Option Addr) (Bwn Bwc:Nat) (BtA:Option Addr) (Btn Btc:Nat) (p:Pairing) (w:World) (Aw:InL encBound 4 w AwA Awn Awc A.ways) (At:InL encBound 4 w AtA Atn Atc A.turns) (Bw:InL encBound 4 w BwA Bwn Bwc B.ways) (Bt:InL encBound 4 w BtA Btn Btc B.turns):
 Calls Tryz.prog 4 #[.agg #[.int .i64 A.n,.slice AwA Awn Awc,.slice AtA Atn Atc],.agg #[.int .i64 B.n,.slice BwA Bwn Bwc,.slice BtA Btn Btc],.agg #[.int .i64 p.a.lo,.int .i64 p.a.hi,.int .i64 p.b.lo,.int .i64 p.b.hi]] w fun e w'=>e = .returned (.bool true)∧Below w.heap.size w w':=by
 obtain ⟨w1,hw1,hb1,hz1,hcx⟩:=boxABP w A AwA Awn Awc AtA Atn Atc B BwA Bwn Bwc BtA Btn Btc p
 have HW1:=Lib.hid hw1
 obtain ⟨w2,a2,b2,z2,e2⟩:=alloc_facts w1 #[.int .i64 A.n,.slice AwA Awn Awc,.slice AtA Atn Atc,.int .i64 B.n,.slice BwA Bwn Bwc,.slice BtA Btn Btc] 24
 rw [hz1] at e2
 have HB1:=Lib.hid hb1
 have HB12:=Lib.hid (hb1.trans (b2.mono hb1.size))
 have HW2:=Lib.hid a2
 have KS:=Lib.hid (small_any (w.heap.size+1+1+1) (.int .i64 A.n) (.int .i64 B.n) AwA AtA BwA BtA Awn Awc Atn Atc Bwn Bwc Btn Btc w2 e2)
 have HCE:Hid (∀ W,Below w1.heap.size w1 W→BoxABP w.heap.size A AwA Awn Awc AtA Atn Atc B BwA Bwn Bwc BtA Btn Btc p W):=(show ∀ W,_→_ from hcx)
 obtain ⟨xa0,xa1,xa2,xb0,xb1,xb2,xp0,xp1,xp2,xp3⟩:=hcx w1 (Below.refl _ _)
 have hz2:=b2.size
 by_cases hsm:smallN Awn Atn Bwn Btn=true
 case neg=>
  have hsf:smallN Awn Atn Bwn Btn=false:=by simpa using hsm
  rw [hsf] at KS
  clear Aw At Bw Bt hsm hsf hb1 hw1 a2 b2 z2 e2 hcx HCE
  go_enter Tryz.func4,Tryz.ntmps4
  go_wp2_with (first
   | rw [HW1.out]
   | rw [HW2.out]
   | (go_at_call 25;(with_reducible refine KS.out.mono ?_);rintro e w3 ⟨rfl,hb3⟩;have HB3:=Lib.hid (HB12.out.trans (hb3.mono HB12.out.size));clear hb3)
   | (go_at_call 17;(with_reducible refine (joined_any _).mono ?_);rintro e w4 ⟨rfl,hb4⟩;have HB4:=Lib.hid (HB3.out.trans (hb4.mono HB3.out.size));clear hb4))
  go_ret
  exact ⟨rfl,HB4.out⟩
 case pos=>
  obtain ⟨s1,s2,s3,s4⟩:=smallN_iff.1 hsm
  rw [hsm] at KS
  have ra:=Aw.2 (by omega);have rt:=At.2 (by omega);have rb:=Bw.2 (by omega);have ru:=Bt.2 (by omega)
  have la:=Aw.1;have lt:=At.1;have lb:=Bw.1;have lu:=Bt.1
  have RD:Hid (∀ W,Below w1.heap.size w1 W→Rd encBound 4 W AwA Awn Awc A.ways∧Rd encBound 4 W AtA Atn Atc A.turns∧Rd encBound 4 W BwA Bwn Bwc B.ways∧Rd encBound 4 W BtA Btn Btc B.turns):=(show ∀ W,_→_ from fun W h=>⟨(ra.below hb1 (Nat.le_refl _)).below h (Nat.le_refl _),(rt.below hb1 (Nat.le_refl _)).below h (Nat.le_refl _),(rb.below hb1 (Nat.le_refl _)).below h (Nat.le_refl _),(ru.below hb1 (Nat.le_refl _)).below h (Nat.le_refl _)⟩)
  have KM:Hid (∀ (p:Pairing) W,Below w1.heap.size w1 W→Calls Tryz.prog 26 #[.agg #[.int .i64 A.n,.slice AwA Awn Awc,.slice AtA Atn Atc],.agg #[.int .i64 B.n,.slice BwA Bwn Bwc,.slice BtA Btn Btc],.agg #[.int .i64 p.a.lo,.int .i64 p.a.hi,.int .i64 p.b.lo,.int .i64 p.b.hi]] W fun e w'=>e = .returned (.tuple #[.bool (decide (askedErr A B p=0)&&meetsV A B p),.int .i64 (askedErr A B p)])∧Below W.heap.size W w'):=(show ∀ p W,_→_ from fun p W hW=>MeetsE_any A AwA Awn Awc AtA Atn Atc B BwA Bwn Bwc BtA Btn Btc p W (RD.out W hW).1 (RD.out W hW).2.1 (RD.out W hW).2.2.1 (RD.out W hW).2.2.2)
  have HB2':=Lib.hid b2
  clear Aw At Bw Bt hsm hb1 hw1 a2 b2 z2 e2 hcx ra rt rb ru
  have KN:Hid (∀ W,Below w1.heap.size w1 W→Calls Tryz.prog 26 #[.agg #[.int .i64 B.n,.slice BwA Bwn Bwc,.slice BtA Btn Btc],.agg #[.int .i64 A.n,.slice AwA Awn Awc,.slice AtA Atn Atc],.agg #[.int .i64 p.b.lo,.int .i64 p.b.hi,.int .i64 p.a.lo,.int .i64 p.a.hi]] W fun e w'=>e = .returned (.tuple #[.bool (decide (askedErr B A (turnP p)=0)&&meetsV B A (turnP p)),.int .i64 (askedErr B A (turnP p))])∧Below W.heap.size W w'):=(show ∀ W,_→_ from fun W hW=>MeetsE_any B BwA Bwn Bwc BtA Btn Btc A AwA Awn Awc AtA Atn Atc (turnP p) W (RD.out W hW).2.2.1 (RD.out W hW).2.2.2 (RD.out W hW).1 (RD.out W hW).2.1)
  have KH:Hid (∀ W,Below w1.heap.size w1 W→Calls Tryz.prog 27 #[.agg #[.int .i64 A.n,.slice AwA Awn Awc,.slice AtA Atn Atc],.agg #[.int .i64 B.n,.slice BwA Bwn Bwc,.slice BtA Btn Btc],.agg #[.int .i64 p.a.lo,.int .i64 p.a.hi,.int .i64 p.b.lo,.int .i64 p.b.hi]] W fun e w'=>e = .returned (.tuple #[.int .i64 (sharedV A B p).1,.int .i64 (sharedV A B p).2.1,.int .i64 (sharedV A B p).2.2])∧Below W.heap.size W w'):=(show ∀ W,_→_ from fun W hW=>Shared_any A AwA Awn Awc AtA Atn Atc B BwA Bwn Bwc BtA Btn Btc p W (RD.out W hW).1 (RD.out W hW).2.1 (RD.out W hW).2.2.1 (RD.out W hW).2.2.2)
  have KI:Hid (∀ W,Below w1.heap.size w1 W→Calls Tryz.prog 27 #[.agg #[.int .i64 B.n,.slice BwA Bwn Bwc,.slice BtA Btn Btc],.agg #[.int .i64 A.n,.slice AwA Awn Awc,.slice AtA Atn Atc],.agg #[.int .i64 p.b.lo,.int .i64 p.b.hi,.int .i64 p.a.lo,.int .i64 p.a.hi]] W fun e w'=>e = .returned (.tuple #[.int .i64 (sharedV B A (turnP p)).1,.int .i64 (sharedV B A (turnP p)).2.1,.int .i64 (sharedV B A (turnP p)).2.2])∧Below W.heap.size W w'):=(show ∀ W,_→_ from fun W hW=>Shared_any B BwA Bwn Bwc BtA Btn Btc A AwA Awn Awc AtA Atn Atc (turnP p) W (RD.out W hW).2.2.1 (RD.out W hW).2.2.2 (RD.out W hW).1 (RD.out W hW).2.1)
  have KM1:=Lib.hid (KM.out p)
  obtain ⟨b,e1,e2,l,m,g1,g2,v1,v2,v3,v4,v5,v6,he,hg⟩:=turned_vals A B p
  rw [v1,v3] at KM1
  rw [v2,v4] at KN
  rw [v5] at KH
  rw [v6] at KI
  clear v1 v2 v3 v4 v5 v6 KM la lt lb lu s1 s2 s3 s4
  have hbb:(b==b)=true:=(by simp)
  have hll:(l==l)=true:=(by simp)
  have hmm:(m==m)=true:=(by simp)
  rcases he with ⟨rfl,rfl⟩|⟨he1,he2⟩<;>rcases hg with ⟨rfl,rfl⟩|⟨hg1,hg2⟩
  all_goals
   try have kb1:(e1==0)=false:=(by simpa using he1)
   try have kb2:(e2==0)=false:=(by simpa using he2)
   try have kb3:(g1==0)=false:=(by simpa using hg1)
   try have kb4:(g2==0)=false:=(by simpa using hg2)
   go_enter Tryz.func4,Tryz.ntmps4
   cases b
   all_goals
    go_wp2_with (first
    | rw [HW1.out]
    | rw [HW2.out]
    | (go_at_call 25;(with_reducible refine KS.out.mono ?_);rintro e w3 ⟨rfl,hb3⟩
       obtain ⟨w4,a4,b4,z4,e4⟩:=alloc_facts w3 #[.int .i64 p.b.lo,.int .i64 p.b.hi,.int .i64 p.a.lo,.int .i64 p.a.hi] 28
       have HC3:=Lib.hid (HB2'.out.trans (hb3.mono HB2'.out.size))
       have HC4:=Lib.hid (HC3.out.trans (b4.mono HC3.out.size))
       have HA4:=Lib.hid a4
       have HE4:=Lib.hid e4
       have hz4:w4.heap.size=w3.heap.size+1:=z4
       obtain ⟨ya0,ya1,ya2,yb0,yb1,yb2,yp0,yp1,yp2,yp3⟩:=HCE.out w3 HC3.out
       obtain ⟨za0,za1,za2,zb0,zb1,zb2,zp0,zp1,zp2,zp3⟩:=HCE.out w4 HC4.out
       obtain ⟨q0,q1,q2,q3⟩:w4.cell? ⟨w3.heap.size,0,none⟩=some (.int .i64 p.b.lo)∧w4.cell? ⟨w3.heap.size,1,none⟩=some (.int .i64 p.b.hi)∧w4.cell? ⟨w3.heap.size,2,none⟩=some (.int .i64 p.a.lo)∧w4.cell? ⟨w3.heap.size,3,none⟩=some (.int .i64 p.a.hi):=(by simp [World.cell?,e4])
       clear hb3 a4 b4 z4 e4)
    | rw [HA4.out]
    | (go_at_call 26;(with_reducible refine (KM1.out _ HC4.out).mono ?_);rintro e w5 ⟨rfl,hb5⟩
       have HC5:=Lib.hid (HC4.out.trans (hb5.mono HC4.out.size))
       obtain ⟨ca05,ca15,ca25,cb05,cb15,cb25,cp05,cp15,cp25,cp35⟩:=HCE.out w5 HC5.out
       have HD5:=Lib.hid (hb5)
       obtain ⟨q05,q15,q25,q35⟩:w5.cell? ⟨w3.heap.size,0,none⟩=some (.int .i64 p.b.lo)∧w5.cell? ⟨w3.heap.size,1,none⟩=some (.int .i64 p.b.hi)∧w5.cell? ⟨w3.heap.size,2,none⟩=some (.int .i64 p.a.lo)∧w5.cell? ⟨w3.heap.size,3,none⟩=some (.int .i64 p.a.hi):=(by have hh:=(HD5.out.block w3.heap.size (by omega)).trans HE4.out;simp [World.cell?,hh])
       clear hb5)
    | (go_at_call 26;(with_reducible refine (KN.out _ HC5.out).mono ?_);rintro e w6 ⟨rfl,hb6⟩
       have HC6:=Lib.hid (HC5.out.trans (hb6.mono HC5.out.size))
       obtain ⟨ca06,ca16,ca26,cb06,cb16,cb26,cp06,cp16,cp26,cp36⟩:=HCE.out w6 HC6.out
       have HD6:=Lib.hid (HD5.out.trans (hb6.mono HD5.out.size))
       obtain ⟨q06,q16,q26,q36⟩:w6.cell? ⟨w3.heap.size,0,none⟩=some (.int .i64 p.b.lo)∧w6.cell? ⟨w3.heap.size,1,none⟩=some (.int .i64 p.b.hi)∧w6.cell? ⟨w3.heap.size,2,none⟩=some (.int .i64 p.a.lo)∧w6.cell? ⟨w3.heap.size,3,none⟩=some (.int .i64 p.a.hi):=(by have hh:=(HD6.out.block w3.heap.size (by omega)).trans HE4.out;simp [World.cell?,hh])
       clear hb6)
    | (go_at_call 27;(with_reducible refine (KH.out _ HC6.out).mono ?_);rintro e w7 ⟨rfl,hb7⟩
       have HC7:=Lib.hid (HC6.out.trans (hb7.mono HC6.out.size))
       obtain ⟨ca07,ca17,ca27,cb07,cb17,cb27,cp07,cp17,cp27,cp37⟩:=HCE.out w7 HC7.out
       have HD7:=Lib.hid (HD6.out.trans (hb7.mono HD6.out.size))
       obtain ⟨q07,q17,q27,q37⟩:w7.cell? ⟨w3.heap.size,0,none⟩=some (.int .i64 p.b.lo)∧w7.cell? ⟨w3.heap.size,1,none⟩=some (.int .i64 p.b.hi)∧w7.cell? ⟨w3.heap.size,2,none⟩=some (.int .i64 p.a.lo)∧w7.cell? ⟨w3.heap.size,3,none⟩=some (.int .i64 p.a.hi):=(by have hh:=(HD7.out.block w3.heap.size (by omega)).trans HE4.out;simp [World.cell?,hh])
       clear hb7)
    | (go_at_call 27;(with_reducible refine (KI.out _ HC7.out).mono ?_);rintro e w8 ⟨rfl,hb8⟩
       have HC8:=Lib.hid (HC7.out.trans (hb8.mono HC7.out.size))
       obtain ⟨ca08,ca18,ca28,cb08,cb18,cb28,cp08,cp18,cp28,cp38⟩:=HCE.out w8 HC8.out
       have HD8:=Lib.hid (HD7.out.trans (hb8.mono HD7.out.size))
       obtain ⟨q08,q18,q28,q38⟩:w8.cell? ⟨w3.heap.size,0,none⟩=some (.int .i64 p.b.lo)∧w8.cell? ⟨w3.heap.size,1,none⟩=some (.int .i64 p.b.hi)∧w8.cell? ⟨w3.heap.size,2,none⟩=some (.int .i64 p.a.lo)∧w8.cell? ⟨w3.heap.size,3,none⟩=some (.int .i64 p.a.hi):=(by have hh:=(HD8.out.block w3.heap.size (by omega)).trans HE4.out;simp [World.cell?,hh])
       clear hb8)
    | (go_at_call 17;(with_reducible refine (joined_any _).mono ?_);rintro e w9 ⟨rfl,hb9⟩;have HJ:=Lib.hid (HB1.out.trans ((HC8.out.trans (hb9.mono HC8.out.size)).mono HB1.out.size));clear hb9))
    go_ret
    exact ⟨rfl,HJ.out⟩
end Go.Proofs.YtccabpahfmoamaaGreat
end

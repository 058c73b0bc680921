/- Contracts that the laws lean on: MorL. -/
import Derived.Test.YtccabpahfmoamaaGreatE27
section
namespace Go.Proofs.YtccabpahfmoamaaGreat
open Go.RowKit Go.Proofs Go.Shelf
theorem more_err {A B:Outl} {p:Pairing} {t:Bool} {x:Bound} (h:checkOut A=0) (h':checkOut (withB A t x)=0) (l1:A.ways.length≤40) (l2:A.turns.length≤40) (l3:B.ways.length≤40) (l4:B.turns.length≤40):askedErr (withB A t x) B p=askedErr A B p:=by
 have r1:roomErr A B=0:=roomErr_zero.2 ⟨by omega,by omega⟩
 have r2:roomErr (withB A t x) B=0:=roomErr_zero.2 (by unfold withB;cases t<;>simp<;>omega)
 have ho:∀ s,ofB (withB A t x) s=ofB A s:=fun s=>by unfold ofB;rw [withB_n]
 unfold askedErr pairErr bothErr
 rw [r1,r2,h,h',ho]
theorem withV_zero {A:Outl} {t:Bool} {x:Bound} (h:(withV A t x).2=0):withV A t x=(withB A t x,0)∧checkOut A=0∧checkOut (withB A t x)=0:=by
 unfold withV at h ⊢
 by_cases h1:checkOut A=0
 · by_cases h2:checkOut (withB A t x)=0
   · simp [h1,h2]
   · simp [h1,h2] at h
 · simp [h1] at h
set_option maxRecDepth 100000 in
set_option maxHeartbeats 8000000 in
theorem edgeMore_of (A:Outl) (AwA:Option Addr) (Awn Awc:Nat) (AtA:Option Addr) (Atn Atc:Nat) (B:Outl) (BwA:Option Addr) (Bwn Bwc:Nat) (BtA:Option Addr) (Btn Btc:Nat) (p:Pairing) (turned:Bool) (x:Bound) (w:World) (Aw:InL encBound 4 w AwA Awn Awc A.ways) (At:InL encBound 4 w AtA Atn Atc A.turns) (Bw:InL encBound 4 w BwA Bwn Bwc B.ways) (Bt:InL encBound 4 w BtA Btn Btc B.turns):
 Calls Tryz.prog 7 #[.agg #[.int .i64 A.n,.slice AwA Awn Awc,.slice AtA Atn Atc],.agg #[.int .i64 B.n,.slice BwA Bwn Bwc,.slice BtA Btn Btc],.agg #[.int .i64 p.a.lo,.int .i64 p.a.hi,.int .i64 p.b.lo,.int .i64 p.b.hi],.bool turned,.agg #[.int .i64 x.src,.int .i64 x.dst,.int .i64 x.most,.int .i64 x.by_]] w fun e w'=>e = .returned (.bool true)∧Below w.heap.size w w':=by
 obtain ⟨w0,hw0,hb0,hz0,hbx⟩:=boxABP w A AwA Awn Awc AtA Atn Atc B BwA Bwn Bwc BtA Btn Btc p
 obtain ⟨w1,hw1,l1,z1,e1⟩:=alloc_facts w0 #[.int .i64 x.src,.int .i64 x.dst,.int .i64 x.most,.int .i64 x.by_] 56
 have hb1:=hb0.trans (l1.mono hb0.size)
 have hz1:w1.heap.size=w.heap.size+1+1+1+1:=(by omega)
 have hcx:∀ W,Below w1.heap.size w1 W→BoxABP w.heap.size A AwA Awn Awc AtA Atn Atc B BwA Bwn Bwc BtA Btn Btc p W:=fun W h=>hbx W (l1.trans (h.mono l1.size))
 rw [hz0] at e1
 have HX1:=Lib.hid e1
 have HW0:=Lib.hid hw0
 have HW1:=Lib.hid hw1
 clear hw0 hb0 hbx l1 z1 e1
 obtain ⟨w2,a2,b2,z2,e2⟩:=alloc_facts w1 #[.int .i64 A.n,.slice AwA Awn Awc,.slice AtA Atn Atc,.int .i64 B.n,.slice BwA Bwn Bwc,.slice BtA Btn Btc] 24
 rw [hz1] at e2
 have HB1:=Lib.hid hb1
 have HB12:=Lib.hid (hb1.trans (b2.mono hb1.size))
 have HW2:=Lib.hid a2
 have KS:=Lib.hid (small_any (w.heap.size+1+1+1+1) (.int .i64 A.n) (.int .i64 B.n) AwA AtA BwA BtA Awn Awc Atn Atc Bwn Bwc Btn Btc w2 e2)
 have HCE:Hid (∀ W,Below w1.heap.size w1 W→BoxABP w.heap.size A AwA Awn Awc AtA Atn Atc B BwA Bwn Bwc BtA Btn Btc p W):=(show ∀ W,_→_ from hcx)
 obtain ⟨xa0,xa1,xa2,xb0,xb1,xb2,xp0,xp1,xp2,xp3⟩:=hcx w1 (Below.refl _ _)
 have hz2:=b2.size
 by_cases hsm:smallN Awn Atn Bwn Btn=true
 case neg=>
  have hsf:smallN Awn Atn Bwn Btn=false:=by simpa using hsm
  rw [hsf] at KS
  clear Aw At Bw Bt hsm hsf hb1 hw1 a2 b2 z2 e2 hcx HCE
  go_enter Tryz.func7,Tryz.ntmps7
  go_wp2_with (first
   | rw [HW1.out]
   | rw [HW0.out]
   | rw [HW2.out]
   | (go_at_call 25;(with_reducible refine KS.out.mono ?_);rintro e w3 ⟨rfl,hb3⟩;have HB3:=Lib.hid (HB12.out.trans (hb3.mono HB12.out.size));clear hb3)
   | (go_at_call 17;(with_reducible refine (joined_any _).mono ?_);rintro e w4 ⟨rfl,hb4⟩;have HB4:=Lib.hid (HB3.out.trans (hb4.mono HB3.out.size));clear hb4))
  go_ret
  exact ⟨rfl,HB4.out⟩
 case pos=>
  obtain ⟨s1,s2,s3,s4⟩:=smallN_iff.1 hsm
  rw [hsm] at KS
  have ra:=Aw.2 (by omega);have rt:=At.2 (by omega);have rb:=Bw.2 (by omega);have ru:=Bt.2 (by omega)
  have la:=Aw.1;have lt:=At.1;have lb:=Bw.1;have lu:=Bt.1
  have RD:Hid (∀ W,Below w1.heap.size w1 W→Rd encBound 4 W AwA Awn Awc A.ways∧Rd encBound 4 W AtA Atn Atc A.turns∧Rd encBound 4 W BwA Bwn Bwc B.ways∧Rd encBound 4 W BtA Btn Btc B.turns):=(show ∀ W,_→_ from fun W h=>⟨(ra.below hb1 (Nat.le_refl _)).below h (Nat.le_refl _),(rt.below hb1 (Nat.le_refl _)).below h (Nat.le_refl _),(rb.below hb1 (Nat.le_refl _)).below h (Nat.le_refl _),(ru.below hb1 (Nat.le_refl _)).below h (Nat.le_refl _)⟩)
  have KM:Hid (∀ (p:Pairing) W,Below w1.heap.size w1 W→Calls Tryz.prog 26 #[.agg #[.int .i64 A.n,.slice AwA Awn Awc,.slice AtA Atn Atc],.agg #[.int .i64 B.n,.slice BwA Bwn Bwc,.slice BtA Btn Btc],.agg #[.int .i64 p.a.lo,.int .i64 p.a.hi,.int .i64 p.b.lo,.int .i64 p.b.hi]] W fun e w'=>e = .returned (.tuple #[.bool (decide (askedErr A B p=0)&&meetsV A B p),.int .i64 (askedErr A B p)])∧Below W.heap.size W w'):=(show ∀ p W,_→_ from fun p W hW=>MeetsE_any A AwA Awn Awc AtA Atn Atc B BwA Bwn Bwc BtA Btn Btc p W (RD.out W hW).1 (RD.out W hW).2.1 (RD.out W hW).2.2.1 (RD.out W hW).2.2.2)
  have HB2':=Lib.hid b2
  clear Aw At Bw Bt hsm hb1 hw1 a2 b2 z2 e2 hcx ra rt rb ru
  have KM1:=Lib.hid (KM.out p)
  have KW0:Hid (∀ W,Below w1.heap.size w1 W→Calls Tryz.prog 31 #[.agg #[.int .i64 A.n,.slice AwA Awn Awc,.slice AtA Atn Atc],.bool turned,.agg #[.int .i64 x.src,.int .i64 x.dst,.int .i64 x.most,.int .i64 x.by_]] W fun e w'=> ∃ WA wn wc TA tn tc,e = .returned (.tuple #[.agg #[.int .i64 (withV A turned x).1.n,.slice WA wn wc,.slice TA tn tc],.int .i64 (withV A turned x).2])∧Below W.heap.size W w'∧OutlO W.heap.size w' (withV A turned x).1 WA wn wc TA tn tc):=(show ∀ W,_→_ from fun W hW=>WithE_any A AwA Awn Awc AtA Atn Atc turned x W (RD.out W hW).1 (RD.out W hW).2.1)
  have KH:Hid (∀ W,Below w1.heap.size w1 W→Calls Tryz.prog 27 #[.agg #[.int .i64 A.n,.slice AwA Awn Awc,.slice AtA Atn Atc],.agg #[.int .i64 B.n,.slice BwA Bwn Bwc,.slice BtA Btn Btc],.agg #[.int .i64 p.a.lo,.int .i64 p.a.hi,.int .i64 p.b.lo,.int .i64 p.b.hi]] W fun e w'=>e = .returned (.tuple #[.int .i64 (sharedV A B p).1,.int .i64 (sharedV A B p).2.1,.int .i64 (sharedV A B p).2.2])∧Below W.heap.size W w'):=(show ∀ W,_→_ from fun W hW=>Shared_any A AwA Awn Awc AtA Atn Atc B BwA Bwn Bwc BtA Btn Btc p W (RD.out W hW).1 (RD.out W hW).2.1 (RD.out W hW).2.2.1 (RD.out W hW).2.2.2)
  by_cases hwe:(withV A turned x).2=0
  case neg=>
   have KW:=KW0
   have hk:((withV A turned x).2 != 0)=true:=by simpa using hwe
   have HLC:Hid ((withV A turned x).1.ways.length≤100∧(withV A turned x).1.turns.length≤100):=(show _∧_ from by
    have:(withV A turned x).1=outl0:=by
     unfold withV at hwe ⊢
     by_cases h1:checkOut A=0
     · by_cases h2:checkOut (withB A turned x)=0
       · simp [h1,h2] at hwe
       · simp [h1,h2]
     · simp [h1]
    rw [this];exact ⟨by decide,by decide⟩)
   clear KM KM1 KH KW0 hwe la lt lb lu s1 s2 s3 s4
   generalize (withV A turned x).2=er at *
   generalize (withV A turned x).1=C at *
   go_enter Tryz.func7,Tryz.ntmps7
   go_wp2_with (first
   | rw [HW0.out]
   | rw [HW1.out]
   | rw [HW2.out]
   | (go_at_call 25;(with_reducible refine KS.out.mono ?_);rintro e w3 ⟨rfl,hb3⟩;have HB3:=Lib.hid (HB12.out.trans (hb3.mono HB12.out.size));have HC3:=Lib.hid (HB2'.out.trans (hb3.mono HB2'.out.size));obtain ⟨ya0,ya1,ya2,yb0,yb1,yb2,yp0,yp1,yp2,yp3⟩:=HCE.out w3 HC3.out;have hhx:=(HC3.out.block (w.heap.size+1+1+1) (by omega)).trans HX1.out;obtain ⟨j0,j1,j2,j3⟩:w3.cell? ⟨w.heap.size+1+1+1,0,none⟩=some (.int .i64 x.src)∧w3.cell? ⟨w.heap.size+1+1+1,1,none⟩=some (.int .i64 x.dst)∧w3.cell? ⟨w.heap.size+1+1+1,2,none⟩=some (.int .i64 x.most)∧w3.cell? ⟨w.heap.size+1+1+1,3,none⟩=some (.int .i64 x.by_):=(by simp [World.cell?,hhx]);clear hb3 hhx)
   | (go_at_call 31;(with_reducible refine (KW.out _ HC3.out).mono ?_);rintro e w4 ⟨WA,wn,wc,TA,tn,tc,rfl,hb4,ho4⟩
      obtain ⟨w5,a5,b5,z5,e5⟩:=alloc_facts w4 #[.int .i64 C.n,.slice WA wn wc,.slice TA tn tc] 24
      have HC4:=Lib.hid (HC3.out.trans (hb4.mono HC3.out.size))
      have HC5:=Lib.hid (HC4.out.trans (b5.mono HC4.out.size))
      have HA5:=Lib.hid a5
      have HZ5:=Lib.hid z5
      have HE5:=Lib.hid e5
      obtain ⟨ca05,ca15,ca25,cb05,cb15,cb25,cp05,cp15,cp25,cp35⟩:=HCE.out w5 HC5.out
      have hl1:=ho4.1.len
      have hl2:=ho4.2.len
      have HQ:Hid (∀ W,Below w5.heap.size w5 W→(W.cell? ⟨w4.heap.size,0,none⟩=some (.int .i64 C.n)∧W.cell? ⟨w4.heap.size,1,none⟩=some (.slice WA wn wc)∧W.cell? ⟨w4.heap.size,2,none⟩=some (.slice TA tn tc))∧Rd encBound 4 W WA wn wc C.ways∧Rd encBound 4 W TA tn tc C.turns):=(show ∀ W,_→_ from fun W hW=>by
       have hh:=(hW.block w4.heap.size (by omega)).trans e5
       obtain ⟨t0,t1,t2,_⟩:=three_facts hh
       exact ⟨⟨t0,t1,t2⟩,((ho4.1.below b5 (Nat.le_refl _)).below hW (Nat.le_refl _)).rd (fun _=>rfl) (by have:=HLC.out;omega),((ho4.2.below b5 (Nat.le_refl _)).below hW (Nat.le_refl _)).rd (fun _=>rfl) (by have:=HLC.out;omega)⟩)
      clear hb4 a5 b5 z5 e5 ho4 hl1 hl2)
   | rw [HA5.out]
   | (go_at_call 17;(with_reducible refine (joined_any _).mono ?_);rintro e w6 ⟨rfl,hb6⟩;have HJ:=Lib.hid (HB1.out.trans ((HC5.out.trans (hb6.mono HC5.out.size)).mono HB1.out.size));clear hb6))
   go_ret
   exact ⟨rfl,HJ.out⟩
  case pos=>
  obtain ⟨hv,hcA,hcC⟩:=withV_zero hwe
  have hle:=more_err (A:=A) (B:=B) (p:=p) (t:=turned) (x:=x) hcA hcC (by omega) (by omega) (by omega) (by omega)
  have hmore:=fun h h'=>meets_more (A:=A) (B:=B) (p:=p) (turned:=turned) (x:=x) h h'
  have hsh:=fun h h'=>shared_more (A:=A) (B:=B) (p:=p) (turned:=turned) (x:=x) h h'
  have hlen:(withB A turned x).ways.length≤100∧(withB A turned x).turns.length≤100:=by unfold withB;cases turned<;>simp<;>omega
  have KW:=KW0
  rw [hv] at KW
  simp only at KW
  obtain ⟨C,hC⟩:∃ C,withB A turned x=C:=⟨_,rfl⟩
  rw [hC] at hle hmore hsh hlen KW
  have HLC:=Lib.hid hlen
  clear KM KW0 hwe hv hcA hcC hC hlen la lt lb lu s1 s2 s3 s4
  by_cases hask:askedErr A B p=0
  case neg=>
   have hk:(askedErr A B p != 0)=true:=by simpa using hask
   have HCM:Hid (askedErr C B p=askedErr A B p∧(decide (askedErr C B p=0)&&meetsV C B p)=false):=(show _∧_ from ⟨hle,by simp [hle,hask]⟩)
   have HCS:Hid (sharedV C B p=(0,0,askedErr A B p)):=(show _=_ from by unfold sharedV;rw [hle];simp [hask])
   have hsa:sharedV A B p=(0,0,askedErr A B p):=by unfold sharedV;simp [hask]
   rw [decide_eq_false hask,Bool.false_and] at KM1
   rw [hsa] at KH
   have hee:(askedErr A B p==askedErr A B p)=true:=(by simp)
   clear hle hmore hsh hask hsa
   generalize askedErr A B p=er at *
   go_enter Tryz.func7,Tryz.ntmps7
   go_wp2_with (first
   | rw [HW0.out]
   | rw [HW1.out]
   | rw [HW2.out]
   | (go_at_call 25;(with_reducible refine KS.out.mono ?_);rintro e w3 ⟨rfl,hb3⟩;have HB3:=Lib.hid (HB12.out.trans (hb3.mono HB12.out.size));have HC3:=Lib.hid (HB2'.out.trans (hb3.mono HB2'.out.size));obtain ⟨ya0,ya1,ya2,yb0,yb1,yb2,yp0,yp1,yp2,yp3⟩:=HCE.out w3 HC3.out;have hhx:=(HC3.out.block (w.heap.size+1+1+1) (by omega)).trans HX1.out;obtain ⟨j0,j1,j2,j3⟩:w3.cell? ⟨w.heap.size+1+1+1,0,none⟩=some (.int .i64 x.src)∧w3.cell? ⟨w.heap.size+1+1+1,1,none⟩=some (.int .i64 x.dst)∧w3.cell? ⟨w.heap.size+1+1+1,2,none⟩=some (.int .i64 x.most)∧w3.cell? ⟨w.heap.size+1+1+1,3,none⟩=some (.int .i64 x.by_):=(by simp [World.cell?,hhx]);clear hb3 hhx)
   | (go_at_call 31;(with_reducible refine (KW.out _ HC3.out).mono ?_);rintro e w4 ⟨WA,wn,wc,TA,tn,tc,rfl,hb4,ho4⟩
      obtain ⟨w5,a5,b5,z5,e5⟩:=alloc_facts w4 #[.int .i64 C.n,.slice WA wn wc,.slice TA tn tc] 24
      have HC4:=Lib.hid (HC3.out.trans (hb4.mono HC3.out.size))
      have HC5:=Lib.hid (HC4.out.trans (b5.mono HC4.out.size))
      have HA5:=Lib.hid a5
      have HZ5:=Lib.hid z5
      have HE5:=Lib.hid e5
      obtain ⟨ca05,ca15,ca25,cb05,cb15,cb25,cp05,cp15,cp25,cp35⟩:=HCE.out w5 HC5.out
      have hl1:=ho4.1.len
      have hl2:=ho4.2.len
      have HQ:Hid (∀ W,Below w5.heap.size w5 W→(W.cell? ⟨w4.heap.size,0,none⟩=some (.int .i64 C.n)∧W.cell? ⟨w4.heap.size,1,none⟩=some (.slice WA wn wc)∧W.cell? ⟨w4.heap.size,2,none⟩=some (.slice TA tn tc))∧Rd encBound 4 W WA wn wc C.ways∧Rd encBound 4 W TA tn tc C.turns):=(show ∀ W,_→_ from fun W hW=>by
       have hh:=(hW.block w4.heap.size (by omega)).trans e5
       obtain ⟨t0,t1,t2,_⟩:=three_facts hh
       exact ⟨⟨t0,t1,t2⟩,((ho4.1.below b5 (Nat.le_refl _)).below hW (Nat.le_refl _)).rd (fun _=>rfl) (by have:=HLC.out;omega),((ho4.2.below b5 (Nat.le_refl _)).below hW (Nat.le_refl _)).rd (fun _=>rfl) (by have:=HLC.out;omega)⟩)
      clear hb4 a5 b5 z5 e5 ho4 hl1 hl2)
   | rw [HA5.out]
   | (go_at_call 26;(with_reducible refine (KM1.out _ HC5.out).mono ?_);rintro e w6 ⟨rfl,hb6⟩
      have HC6:=Lib.hid (HC5.out.trans (hb6.mono HC5.out.size))
      have HD6:=Lib.hid hb6
      obtain ⟨ca06,ca16,ca26,cb06,cb16,cb26,cp06,cp16,cp26,cp36⟩:=HCE.out w6 HC6.out
      obtain ⟨⟨k06,k16,k26⟩,rc6,rt6⟩:=HQ.out w6 HD6.out
      have KC:=Lib.hid (MeetsE_any C WA wn wc TA tn tc B BwA Bwn Bwc BtA Btn Btc p w6 rc6 rt6 (RD.out w6 HC6.out).2.2.1 (RD.out w6 HC6.out).2.2.2)
      rw [HCM.out.2,HCM.out.1] at KC
      clear hb6 rc6 rt6)
   | (go_at_call 26;(with_reducible refine (KC.out).mono ?_);rintro e w7 ⟨rfl,hb7⟩
      have HC7:=Lib.hid (HC6.out.trans (hb7.mono HC6.out.size))
      have HD7:=Lib.hid (HD6.out.trans (hb7.mono HD6.out.size))
      obtain ⟨ca07,ca17,ca27,cb07,cb17,cb27,cp07,cp17,cp27,cp37⟩:=HCE.out w7 HC7.out
      clear hb7)
   | (go_at_call 27;(with_reducible refine (KH.out _ HC7.out).mono ?_);rintro e w8 ⟨rfl,hb8⟩
      have HC8:=Lib.hid (HC7.out.trans (hb8.mono HC7.out.size))
      have HD8:=Lib.hid (HD7.out.trans (hb8.mono HD7.out.size))
      obtain ⟨ca08,ca18,ca28,cb08,cb18,cb28,cp08,cp18,cp28,cp38⟩:=HCE.out w8 HC8.out
      obtain ⟨⟨k08,k18,k28⟩,rc8,rt8⟩:=HQ.out w8 HD8.out
      have KG:=Lib.hid (Shared_any C WA wn wc TA tn tc B BwA Bwn Bwc BtA Btn Btc p w8 rc8 rt8 (RD.out w8 HC8.out).2.2.1 (RD.out w8 HC8.out).2.2.2)
      rw [HCS.out] at KG
      clear hb8 rc8 rt8)
   | (go_at_call 27;(with_reducible refine (KG.out).mono ?_);rintro e w9 ⟨rfl,hb9⟩
      have HC9:=Lib.hid (HC8.out.trans (hb9.mono HC8.out.size))
      clear hb9)
   | (go_at_call 17;(with_reducible refine (joined_any _).mono ?_);rintro e w10 ⟨rfl,hb10⟩;have HJ:=Lib.hid (HB1.out.trans ((HC9.out.trans (hb10.mono HC9.out.size)).mono HB1.out.size));clear hb10))
   go_ret
   exact ⟨rfl,HJ.out⟩
  case pos=>
  have hkA:=askedErr_zero.1 hask
  have hcz:askedErr C B p=0:=hle.trans hask
  have hkC:=askedErr_zero.1 hcz
  have hm1:=hmore hkA hkC
  have hs1:=hsh hkA hkC
  cases hmc:meetsV C B p with
  | true=>
    have hma:=hm1 hmc
    obtain ⟨g1,g2⟩:=hs1 hmc
    have HCM:Hid (askedErr C B p=0∧(decide (askedErr C B p=0)&&meetsV C B p)=true):=(show _∧_ from ⟨hcz,by simp [hcz,hmc]⟩)
    have HCS:Hid (sharedV C B p=(sharedLow C B p,sharedHigh C B p,0)):=(show _=_ from by unfold sharedV;simp [hcz,hmc])
    have hsa:sharedV A B p=(sharedLow A B p,sharedHigh A B p,0):=by unfold sharedV;simp [hask,hma]
    rw [hask,hma] at KM1
    rw [hsa] at KH
    clear hle hmore hsh hask hsa hm1 hs1 hkA hkC hcz hmc hma
    generalize sharedLow C B p=lc at *
    generalize sharedHigh C B p=hc at *
    generalize sharedLow A B p=lo at *
    generalize sharedHigh A B p=hi at *
    go_enter Tryz.func7,Tryz.ntmps7
    go_wp2_with (first
    | rw [HW0.out]
    | rw [HW1.out]
    | rw [HW2.out]
    | (go_at_call 25;(with_reducible refine KS.out.mono ?_);rintro e w3 ⟨rfl,hb3⟩;have HB3:=Lib.hid (HB12.out.trans (hb3.mono HB12.out.size));have HC3:=Lib.hid (HB2'.out.trans (hb3.mono HB2'.out.size));obtain ⟨ya0,ya1,ya2,yb0,yb1,yb2,yp0,yp1,yp2,yp3⟩:=HCE.out w3 HC3.out;have hhx:=(HC3.out.block (w.heap.size+1+1+1) (by omega)).trans HX1.out;obtain ⟨j0,j1,j2,j3⟩:w3.cell? ⟨w.heap.size+1+1+1,0,none⟩=some (.int .i64 x.src)∧w3.cell? ⟨w.heap.size+1+1+1,1,none⟩=some (.int .i64 x.dst)∧w3.cell? ⟨w.heap.size+1+1+1,2,none⟩=some (.int .i64 x.most)∧w3.cell? ⟨w.heap.size+1+1+1,3,none⟩=some (.int .i64 x.by_):=(by simp [World.cell?,hhx]);clear hb3 hhx)
    | (go_at_call 31;(with_reducible refine (KW.out _ HC3.out).mono ?_);rintro e w4 ⟨WA,wn,wc,TA,tn,tc,rfl,hb4,ho4⟩
       obtain ⟨w5,a5,b5,z5,e5⟩:=alloc_facts w4 #[.int .i64 C.n,.slice WA wn wc,.slice TA tn tc] 24
       have HC4:=Lib.hid (HC3.out.trans (hb4.mono HC3.out.size))
       have HC5:=Lib.hid (HC4.out.trans (b5.mono HC4.out.size))
       have HA5:=Lib.hid a5
       have HZ5:=Lib.hid z5
       have HE5:=Lib.hid e5
       obtain ⟨ca05,ca15,ca25,cb05,cb15,cb25,cp05,cp15,cp25,cp35⟩:=HCE.out w5 HC5.out
       have hl1:=ho4.1.len
       have hl2:=ho4.2.len
       have HQ:Hid (∀ W,Below w5.heap.size w5 W→(W.cell? ⟨w4.heap.size,0,none⟩=some (.int .i64 C.n)∧W.cell? ⟨w4.heap.size,1,none⟩=some (.slice WA wn wc)∧W.cell? ⟨w4.heap.size,2,none⟩=some (.slice TA tn tc))∧Rd encBound 4 W WA wn wc C.ways∧Rd encBound 4 W TA tn tc C.turns):=(show ∀ W,_→_ from fun W hW=>by
        have hh:=(hW.block w4.heap.size (by omega)).trans e5
        obtain ⟨t0,t1,t2,_⟩:=three_facts hh
        exact ⟨⟨t0,t1,t2⟩,((ho4.1.below b5 (Nat.le_refl _)).below hW (Nat.le_refl _)).rd (fun _=>rfl) (by have:=HLC.out;omega),((ho4.2.below b5 (Nat.le_refl _)).below hW (Nat.le_refl _)).rd (fun _=>rfl) (by have:=HLC.out;omega)⟩)
       clear hb4 a5 b5 z5 e5 ho4 hl1 hl2)
    | rw [HA5.out]
    | (go_at_call 26;(with_reducible refine (KM1.out _ HC5.out).mono ?_);rintro e w6 ⟨rfl,hb6⟩
       have HC6:=Lib.hid (HC5.out.trans (hb6.mono HC5.out.size))
       have HD6:=Lib.hid hb6
       obtain ⟨ca06,ca16,ca26,cb06,cb16,cb26,cp06,cp16,cp26,cp36⟩:=HCE.out w6 HC6.out
       obtain ⟨⟨k06,k16,k26⟩,rc6,rt6⟩:=HQ.out w6 HD6.out
       have KC:=Lib.hid (MeetsE_any C WA wn wc TA tn tc B BwA Bwn Bwc BtA Btn Btc p w6 rc6 rt6 (RD.out w6 HC6.out).2.2.1 (RD.out w6 HC6.out).2.2.2)
       rw [HCM.out.2,HCM.out.1] at KC
       clear hb6 rc6 rt6)
    | (go_at_call 26;(with_reducible refine (KC.out).mono ?_);rintro e w7 ⟨rfl,hb7⟩
       have HC7:=Lib.hid (HC6.out.trans (hb7.mono HC6.out.size))
       have HD7:=Lib.hid (HD6.out.trans (hb7.mono HD6.out.size))
       obtain ⟨ca07,ca17,ca27,cb07,cb17,cb27,cp07,cp17,cp27,cp37⟩:=HCE.out w7 HC7.out
       clear hb7)
    | (go_at_call 27;(with_reducible refine (KH.out _ HC7.out).mono ?_);rintro e w8 ⟨rfl,hb8⟩
       have HC8:=Lib.hid (HC7.out.trans (hb8.mono HC7.out.size))
       have HD8:=Lib.hid (HD7.out.trans (hb8.mono HD7.out.size))
       obtain ⟨ca08,ca18,ca28,cb08,cb18,cb28,cp08,cp18,cp28,cp38⟩:=HCE.out w8 HC8.out
       obtain ⟨⟨k08,k18,k28⟩,rc8,rt8⟩:=HQ.out w8 HD8.out
       have KG:=Lib.hid (Shared_any C WA wn wc TA tn tc B BwA Bwn Bwc BtA Btn Btc p w8 rc8 rt8 (RD.out w8 HC8.out).2.2.1 (RD.out w8 HC8.out).2.2.2)
       rw [HCS.out] at KG
       clear hb8 rc8 rt8)
    | (go_at_call 27;(with_reducible refine (KG.out).mono ?_);rintro e w9 ⟨rfl,hb9⟩
       have HC9:=Lib.hid (HC8.out.trans (hb9.mono HC8.out.size))
       clear hb9)
    | (go_at_call 17;(with_reducible refine (joined_any _).mono ?_);rintro e w10 ⟨rfl,hb10⟩;have HJ:=Lib.hid (HB1.out.trans ((HC9.out.trans (hb10.mono HC9.out.size)).mono HB1.out.size));clear hb10))
    go_ret
    exact ⟨rfl,HJ.out⟩
  | false=>
    have HCM:Hid (askedErr C B p=0∧(decide (askedErr C B p=0)&&meetsV C B p)=false):=(show _∧_ from ⟨hcz,by simp [hmc]⟩)
    have HCS:Hid (sharedV C B p=(0,0,30)):=(show _=_ from by unfold sharedV;simp [hcz,hmc])
    obtain ⟨ba,hba⟩:∃ ba,(decide (askedErr A B p=0)&&meetsV A B p)=ba:=⟨_,rfl⟩
    rw [hba,hask] at KM1
    clear hle hmore hsh hask hm1 hs1 hkA hkC hcz hmc hba
    generalize sharedV A B p=sv at *
    go_enter Tryz.func7,Tryz.ntmps7
    go_wp2_with (first
    | rw [HW0.out]
    | rw [HW1.out]
    | rw [HW2.out]
    | (go_at_call 25;(with_reducible refine KS.out.mono ?_);rintro e w3 ⟨rfl,hb3⟩;have HB3:=Lib.hid (HB12.out.trans (hb3.mono HB12.out.size));have HC3:=Lib.hid (HB2'.out.trans (hb3.mono HB2'.out.size));obtain ⟨ya0,ya1,ya2,yb0,yb1,yb2,yp0,yp1,yp2,yp3⟩:=HCE.out w3 HC3.out;have hhx:=(HC3.out.block (w.heap.size+1+1+1) (by omega)).trans HX1.out;obtain ⟨j0,j1,j2,j3⟩:w3.cell? ⟨w.heap.size+1+1+1,0,none⟩=some (.int .i64 x.src)∧w3.cell? ⟨w.heap.size+1+1+1,1,none⟩=some (.int .i64 x.dst)∧w3.cell? ⟨w.heap.size+1+1+1,2,none⟩=some (.int .i64 x.most)∧w3.cell? ⟨w.heap.size+1+1+1,3,none⟩=some (.int .i64 x.by_):=(by simp [World.cell?,hhx]);clear hb3 hhx)
    | (go_at_call 31;(with_reducible refine (KW.out _ HC3.out).mono ?_);rintro e w4 ⟨WA,wn,wc,TA,tn,tc,rfl,hb4,ho4⟩
       obtain ⟨w5,a5,b5,z5,e5⟩:=alloc_facts w4 #[.int .i64 C.n,.slice WA wn wc,.slice TA tn tc] 24
       have HC4:=Lib.hid (HC3.out.trans (hb4.mono HC3.out.size))
       have HC5:=Lib.hid (HC4.out.trans (b5.mono HC4.out.size))
       have HA5:=Lib.hid a5
       have HZ5:=Lib.hid z5
       have HE5:=Lib.hid e5
       obtain ⟨ca05,ca15,ca25,cb05,cb15,cb25,cp05,cp15,cp25,cp35⟩:=HCE.out w5 HC5.out
       have hl1:=ho4.1.len
       have hl2:=ho4.2.len
       have HQ:Hid (∀ W,Below w5.heap.size w5 W→(W.cell? ⟨w4.heap.size,0,none⟩=some (.int .i64 C.n)∧W.cell? ⟨w4.heap.size,1,none⟩=some (.slice WA wn wc)∧W.cell? ⟨w4.heap.size,2,none⟩=some (.slice TA tn tc))∧Rd encBound 4 W WA wn wc C.ways∧Rd encBound 4 W TA tn tc C.turns):=(show ∀ W,_→_ from fun W hW=>by
        have hh:=(hW.block w4.heap.size (by omega)).trans e5
        obtain ⟨t0,t1,t2,_⟩:=three_facts hh
        exact ⟨⟨t0,t1,t2⟩,((ho4.1.below b5 (Nat.le_refl _)).below hW (Nat.le_refl _)).rd (fun _=>rfl) (by have:=HLC.out;omega),((ho4.2.below b5 (Nat.le_refl _)).below hW (Nat.le_refl _)).rd (fun _=>rfl) (by have:=HLC.out;omega)⟩)
       clear hb4 a5 b5 z5 e5 ho4 hl1 hl2)
    | rw [HA5.out]
    | (go_at_call 26;(with_reducible refine (KM1.out _ HC5.out).mono ?_);rintro e w6 ⟨rfl,hb6⟩
       have HC6:=Lib.hid (HC5.out.trans (hb6.mono HC5.out.size))
       have HD6:=Lib.hid hb6
       obtain ⟨ca06,ca16,ca26,cb06,cb16,cb26,cp06,cp16,cp26,cp36⟩:=HCE.out w6 HC6.out
       obtain ⟨⟨k06,k16,k26⟩,rc6,rt6⟩:=HQ.out w6 HD6.out
       have KC:=Lib.hid (MeetsE_any C WA wn wc TA tn tc B BwA Bwn Bwc BtA Btn Btc p w6 rc6 rt6 (RD.out w6 HC6.out).2.2.1 (RD.out w6 HC6.out).2.2.2)
       rw [HCM.out.2,HCM.out.1] at KC
       clear hb6 rc6 rt6)
    | (go_at_call 26;(with_reducible refine (KC.out).mono ?_);rintro e w7 ⟨rfl,hb7⟩
       have HC7:=Lib.hid (HC6.out.trans (hb7.mono HC6.out.size))
       have HD7:=Lib.hid (HD6.out.trans (hb7.mono HD6.out.size))
       obtain ⟨ca07,ca17,ca27,cb07,cb17,cb27,cp07,cp17,cp27,cp37⟩:=HCE.out w7 HC7.out
       clear hb7)
    | (go_at_call 27;(with_reducible refine (KH.out _ HC7.out).mono ?_);rintro e w8 ⟨rfl,hb8⟩
       have HC8:=Lib.hid (HC7.out.trans (hb8.mono HC7.out.size))
       have HD8:=Lib.hid (HD7.out.trans (hb8.mono HD7.out.size))
       obtain ⟨ca08,ca18,ca28,cb08,cb18,cb28,cp08,cp18,cp28,cp38⟩:=HCE.out w8 HC8.out
       obtain ⟨⟨k08,k18,k28⟩,rc8,rt8⟩:=HQ.out w8 HD8.out
       have KG:=Lib.hid (Shared_any C WA wn wc TA tn tc B BwA Bwn Bwc BtA Btn Btc p w8 rc8 rt8 (RD.out w8 HC8.out).2.2.1 (RD.out w8 HC8.out).2.2.2)
       rw [HCS.out] at KG
       clear hb8 rc8 rt8)
    | (go_at_call 27;(with_reducible refine (KG.out).mono ?_);rintro e w9 ⟨rfl,hb9⟩
       have HC9:=Lib.hid (HC8.out.trans (hb9.mono HC8.out.size))
       clear hb9)
    | (go_at_call 17;(with_reducible refine (joined_any _).mono ?_);rintro e w10 ⟨rfl,hb10⟩;have HJ:=Lib.hid (HB1.out.trans ((HC9.out.trans (hb10.mono HC9.out.size)).mono HB1.out.size));clear hb10))
    go_ret
    exact ⟨rfl,HJ.out⟩
end Go.Proofs.YtccabpahfmoamaaGreat
end

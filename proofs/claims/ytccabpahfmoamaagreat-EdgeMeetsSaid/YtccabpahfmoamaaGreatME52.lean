/- Contracts that the laws lean on: MetL. -/
import Derived.Test.YtccabpahfmoamaaGreatME34
import Derived.Test.YtccabpahfmoamaaGreatME46
import Derived.Test.YtccabpahfmoamaaGreatME47
import Derived.Test.YtccabpahfmoamaaGreatME51
set_option maxRecDepth 100000
set_option maxHeartbeats 8000000
section
namespace Go.Proofs.YtccabpahfmoamaaGreat
open Go.RowKit Go.Proofs Go.Shelf
theorem placeV_no {A B:Outl} {p:Pairing} (h:¬(askedErr A B p=0∧meetsV A B p=true)):placeV A B p=([],[],[],[]):=if_neg h
theorem clashV_err {A B:Outl} {p:Pairing} (h:¬askedErr A B p=0):clashV A B p=(false,[],false):=if_neg h
theorem clashV_ok {A B:Outl} {p:Pairing} (h:askedErr A B p=0):clashV A B p=circV (waysN A B p) (waysB A B p) (dirsN A B p) (dirsB A B p):=if_pos h
theorem clashV_meets {A B:Outl} {p:Pairing} (h:askedErr A B p=0) (hm:meetsV A B p=true):clashV A B p=(false,[],false):=by
 have hok:=askedErr_zero.1 h
 rw [clashV_ok h]
 unfold meetsV at hm
 obtain ⟨h1,h2⟩:=Bool.and_eq_true_iff.1 hm
 exact few_none (sysOk_of hok.ways_sys) (sysOk_of hok.dirs_sys) h1 h2
theorem edgeMeets_of (A:Outl) (AwA:Option Addr) (Awn Awc:Nat) (AtA:Option Addr) (Atn Atc:Nat) (B:Outl) (BwA:Option Addr) (Bwn Bwc:Nat) (BtA:Option Addr) (Btn Btc:Nat) (p:Pairing) (w:World) (Aw:InL encBound 4 w AwA Awn Awc A.ways) (At:InL encBound 4 w AtA Atn Atc A.turns) (Bw:InL encBound 4 w BwA Bwn Bwc B.ways) (Bt:InL encBound 4 w BtA Btn Btc B.turns):
 Calls Tryz.prog 13 #[.agg #[.int .i64 A.n,.slice AwA Awn Awc,.slice AtA Atn Atc],.agg #[.int .i64 B.n,.slice BwA Bwn Bwc,.slice BtA Btn Btc],.agg #[.int .i64 p.a.lo,.int .i64 p.a.hi,.int .i64 p.b.lo,.int .i64 p.b.hi]] w fun e w'=>e = .returned (.bool true)∧Below w.heap.size w w':=by
 obtain ⟨w1,hw1,hb1,hz1,hbx⟩:=boxABP w A AwA Awn Awc AtA Atn Atc B BwA Bwn Bwc BtA Btn Btc p
 obtain ⟨w2,a2,b2,z2,e2⟩:=alloc_facts w1 #[.int .i64 A.n,.slice AwA Awn Awc,.slice AtA Atn Atc,.int .i64 B.n,.slice BwA Bwn Bwc,.slice BtA Btn Btc] 24
 rw [hz1] at e2
 have HB1:=Lib.hid hb1
 have HW1:=Lib.hid hw1
 have HW2:=Lib.hid a2
 have KS:=Lib.hid (small_any (w.heap.size+1+1+1) (.int .i64 A.n) (.int .i64 B.n) AwA AtA BwA BtA Awn Awc Atn Atc Bwn Bwc Btn Btc w2 e2)
 have HCE:Hid (∀ W,Below w1.heap.size w1 W→BoxABP w.heap.size A AwA Awn Awc AtA Atn Atc B BwA Bwn Bwc BtA Btn Btc p W):=(show ∀ W,_→_ from hbx)
 obtain ⟨xa0,xa1,xa2,xb0,xb1,xb2,xp0,xp1,xp2,xp3⟩:=hbx w1 (Below.refl _ _)
 have HB2':=Lib.hid b2
 by_cases hsm:smallN Awn Atn Bwn Btn=true
 case neg=>
  have hsf:smallN Awn Atn Bwn Btn=false:=by simpa using hsm
  rw [hsf] at KS
  clear Aw At Bw Bt hsm hsf hb1 a2 b2 z2 e2 hbx HCE hw1
  go_enter Tryz.func13,Tryz.ntmps13
  go_wp2_with (first
   | rw [HW1.out]
   | rw [HW2.out]
   | (go_at_call 25;(with_reducible refine KS.out.mono ?_);rintro e w3 ⟨rfl,hb3⟩
      have HC3:=Lib.hid (HB2'.out.trans (hb3.mono HB2'.out.size))
      clear hb3)
   | (go_at_call 17;(with_reducible refine (joined_any _).mono ?_);rintro e w4 ⟨rfl,hb4⟩
      have HJ:=Lib.hid (HB1.out.trans ((HC3.out.trans (hb4.mono HC3.out.size)).mono HB1.out.size))
      clear hb4))
  go_ret
  exact ⟨rfl,HJ.out⟩
 case pos=>
  obtain ⟨s1,s2,s3,s4⟩:=smallN_iff.1 hsm
  rw [hsm] at KS
  have ra:=Aw.2 (by omega);have rt:=At.2 (by omega);have rb:=Bw.2 (by omega);have ru:=Bt.2 (by omega)
  have RD:Hid (∀ W,Below w1.heap.size w1 W→Rd encBound 4 W AwA Awn Awc A.ways∧Rd encBound 4 W AtA Atn Atc A.turns∧Rd encBound 4 W BwA Bwn Bwc B.ways∧Rd encBound 4 W BtA Btn Btc B.turns):=(show ∀ W,_→_ from fun W h=>⟨(ra.below hb1 (Nat.le_refl _)).below h (Nat.le_refl _),(rt.below hb1 (Nat.le_refl _)).below h (Nat.le_refl _),(rb.below hb1 (Nat.le_refl _)).below h (Nat.le_refl _),(ru.below hb1 (Nat.le_refl _)).below h (Nat.le_refl _)⟩)
  have KM:Hid (∀ W,Below w1.heap.size w1 W→Calls Tryz.prog 26 #[.agg #[.int .i64 A.n,.slice AwA Awn Awc,.slice AtA Atn Atc],.agg #[.int .i64 B.n,.slice BwA Bwn Bwc,.slice BtA Btn Btc],.agg #[.int .i64 p.a.lo,.int .i64 p.a.hi,.int .i64 p.b.lo,.int .i64 p.b.hi]] W fun e w'=>e = .returned (.tuple #[.bool (decide (askedErr A B p=0)&&meetsV A B p),.int .i64 (askedErr A B p)])∧Below W.heap.size W w'):=(show ∀ W,_→_ from fun W hW=>MeetsE_any A AwA Awn Awc AtA Atn Atc B BwA Bwn Bwc BtA Btn Btc p W (RD.out W hW).1 (RD.out W hW).2.1 (RD.out W hW).2.2.1 (RD.out W hW).2.2.2)
  have KN:Hid (∀ W,Below w1.heap.size w1 W→Calls Tryz.prog 56 #[.agg #[.int .i64 A.n,.slice AwA Awn Awc,.slice AtA Atn Atc],.agg #[.int .i64 B.n,.slice BwA Bwn Bwc,.slice BtA Btn Btc],.agg #[.int .i64 p.a.lo,.int .i64 p.a.hi,.int .i64 p.b.lo,.int .i64 p.b.hi]] W fun e w'=>e = .returned (.tuple #[.bool (decide (askedErr A B p=0)&&meetsV A B p),.int .i64 (askedErr A B p)])∧Below W.heap.size W w'):=(show ∀ W,_→_ from fun W hW=>r3Meets_any A AwA Awn Awc AtA Atn Atc B BwA Bwn Bwc BtA Btn Btc p W (RD.out W hW).1 (RD.out W hW).2.1 (RD.out W hW).2.2.1 (RD.out W hW).2.2.2)
  have KPL:Hid (∀ W,Below w1.heap.size w1 W→Calls Tryz.prog 54 #[.agg #[.int .i64 A.n,.slice AwA Awn Awc,.slice AtA Atn Atc],.agg #[.int .i64 B.n,.slice BwA Bwn Bwc,.slice BtA Btn Btc],.agg #[.int .i64 p.a.lo,.int .i64 p.a.hi,.int .i64 p.b.lo,.int .i64 p.b.hi]] W fun e w'=> ∃ u,e = .returned (.tuple #[u,.bool (decide (askedErr A B p=0)&&meetsV A B p),.int .i64 (askedErr A B p)])∧Below W.heap.size W w'∧PlcR W.heap.size (placeV A B p) u w'):=(show ∀ W,_→_ from fun W hW=>Place_any A AwA Awn Awc AtA Atn Atc B BwA Bwn Bwc BtA Btn Btc p W (RD.out W hW).1 (RD.out W hW).2.1 (RD.out W hW).2.2.1 (RD.out W hW).2.2.2)
  have KCL:Hid (∀ W,Below w1.heap.size w1 W→Calls Tryz.prog 55 #[.agg #[.int .i64 A.n,.slice AwA Awn Awc,.slice AtA Atn Atc],.agg #[.int .i64 B.n,.slice BwA Bwn Bwc,.slice BtA Btn Btc],.agg #[.int .i64 p.a.lo,.int .i64 p.a.hi,.int .i64 p.b.lo,.int .i64 p.b.hi]] W fun e w'=> ∃ A' c',e = .returned (.tuple #[.agg #[.bool (clashV A B p).1,.slice A' (clashV A B p).2.1.length c'],.bool (clashV A B p).2.2,.int .i64 (askedErr A B p)])∧Below W.heap.size W w'∧Own encInt 1 3 W.heap.size w' A' (clashV A B p).2.1.length c' (clashV A B p).2.1):=(show ∀ W,_→_ from fun W hW=>Clash_any A AwA Awn Awc AtA Atn Atc B BwA Bwn Bwc BtA Btn Btc p W (RD.out W hW).1 (RD.out W hW).2.1 (RD.out W hW).2.2.1 (RD.out W hW).2.2.2)
  clear Aw At Bw Bt hsm hb1 a2 b2 z2 e2 hbx ra rt rb ru hw1
  by_cases h0:askedErr A B p=0
  case neg=>
   have hn0:(askedErr A B p != 0)=true:=by simpa using h0
   have hee:(askedErr A B p != askedErr A B p)=false:=(by simp)
   have hM:(decide (askedErr A B p=0)&&meetsV A B p)=false:=by rw [decide_eq_false h0];rfl
   rw [hM] at KM KN KPL
   rw [placeV_no (fun h=>h0 h.1)] at KPL
   rw [clashV_err h0] at KCL
   clear RD hM h0
   generalize askedErr A B p=er at *
   obtain ⟨p0,p1,p2,p3,hp0,hp1,hp2,hp3⟩:∃ p0 p1 p2 p3:List Int,p0 = []∧p1 = []∧p2 = []∧p3 = []:=⟨_,_,_,_,rfl,rfl,rfl,rfl⟩
   have HLP:Hid (p0.length≤100∧p1.length≤100∧p2.length≤100∧p3.length≤100):=(show _∧_ from by subst hp0 hp1 hp2 hp3;simp)
   subst hp0 hp1 hp2 hp3
   simp only [List.length_nil] at KCL
   go_enter Tryz.func13,Tryz.ntmps13
   go_wp2_with (first
    | rw [HW1.out]
    | rw [HW2.out]
    | (go_at_call 25;(with_reducible refine KS.out.mono ?_);rintro e w3 ⟨rfl,hb3⟩
       have HC3:=Lib.hid (HB2'.out.trans (hb3.mono HB2'.out.size))
       obtain ⟨ca03,ca13,ca23,cb03,cb13,cb23,cp03,cp13,cp23,cp33⟩:=HCE.out w3 HC3.out
       clear hb3)
    | (go_at_call 26;(with_reducible refine (KM.out _ HC3.out).mono ?_);rintro e w4 ⟨rfl,hb4⟩
       have HC4:=Lib.hid (HC3.out.trans (hb4.mono HC3.out.size))
       obtain ⟨ca04,ca14,ca24,cb04,cb14,cb24,cp04,cp14,cp24,cp34⟩:=HCE.out w4 HC4.out
       clear hb4)
    | (go_at_call 54;(with_reducible refine (KPL.out _ HC4.out).mono ?_);rintro e w5 ⟨u,rfl,hb5,Z0,q0,Z1,q1,Z2,q2,Z3,q3,hu,o0,o1,o2,o3⟩
       simp only [List.length_nil] at hu o0 o1 o2 o3
       subst hu
       obtain ⟨w6,a6,b6,z6,e6⟩:=alloc_facts w5 #[.slice Z0 0 q0,.slice Z1 0 q1,.slice Z2 0 q2,.slice Z3 0 q3] 31
       have HC5:=Lib.hid (HC4.out.trans (hb5.mono HC4.out.size))
       have HC6:=Lib.hid (HC5.out.trans (b6.mono HC5.out.size))
       have HA6:=Lib.hid a6
       have HE6:=Lib.hid e6
       have Z6:Hid (w6.heap.size=w5.heap.size+1):=(show _=_ from z6)
       obtain ⟨ca06,ca16,ca26,cb06,cb16,cb26,cp06,cp16,cp26,cp36⟩:=HCE.out w6 HC6.out
       clear hb5 a6 b6 z6 e6 o0 o1 o2 o3)
    | rw [HA6.out]
    | (go_at_call 55;(with_reducible refine (KCL.out _ HC6.out).mono ?_);rintro e w7 ⟨ZL,ql,rfl,hb7,ho⟩
       obtain ⟨w8,a8,b8,z8,e8⟩:=alloc_facts w7 #[.bool false,.slice ZL 0 ql] 33
       have HC7:=Lib.hid (HC6.out.trans (hb7.mono HC6.out.size))
       have HC8:=Lib.hid (HC7.out.trans (b8.mono HC7.out.size))
       have HD8:=Lib.hid (hb7.trans (b8.mono hb7.size))
       have HA8:=Lib.hid a8
       have HE8:=Lib.hid e8
       have Z8:Hid (w8.heap.size=w7.heap.size+1):=(show _=_ from z8)
       obtain ⟨ca08,ca18,ca28,cb08,cb18,cb28,cp08,cp18,cp28,cp38⟩:=HCE.out w8 HC8.out
       clear hb7 a8 b8 z8 e8 ho)
    | rw [HA8.out]
    | (go_at_call 56;(with_reducible refine (KN.out _ HC8.out).mono ?_);rintro e w9 ⟨rfl,hb9⟩
       have HC9:=Lib.hid (HC8.out.trans (hb9.mono HC8.out.size))
       obtain ⟨ca09,ca19,ca29,cb09,cb19,cb29,cp09,cp19,cp29,cp39⟩:=HCE.out w9 HC9.out
       have HG9:=Lib.hid (hb9)
       obtain ⟨r09,r19,r29,r39,s09,s19⟩:w9.cell? ⟨w5.heap.size,0,none⟩=some (.slice Z0 0 q0)∧w9.cell? ⟨w5.heap.size,1,none⟩=some (.slice Z1 0 q1)∧w9.cell? ⟨w5.heap.size,2,none⟩=some (.slice Z2 0 q2)∧w9.cell? ⟨w5.heap.size,3,none⟩=some (.slice Z3 0 q3)∧w9.cell? ⟨w7.heap.size,0,none⟩=some (.bool false)∧w9.cell? ⟨w7.heap.size,1,none⟩=some (.slice ZL 0 ql):=(by
        have hy:=HD8.out.size
        have hx:=Z6.out
        have hw:=Z8.out
        have y1:=(HG9.out.block w5.heap.size (by omega)).trans ((HD8.out.block w5.heap.size (by omega)).trans HE6.out)
        have y2:=(HG9.out.block w7.heap.size (by omega)).trans HE8.out
        simp [World.cell?,y1,y2])
       clear hb9)
    | (go_at_call 17;(with_reducible refine (joined_any _).mono ?_);rintro e w10 ⟨rfl,hb10⟩
       have HJ:=Lib.hid (HB1.out.trans ((HC9.out.trans (hb10.mono HC9.out.size)).mono HB1.out.size))
       have HG10:=Lib.hid (HG9.out.trans (hb10.mono HG9.out.size))
       obtain ⟨r010,r110,r210,r310,s010,s110⟩:w10.cell? ⟨w5.heap.size,0,none⟩=some (.slice Z0 0 q0)∧w10.cell? ⟨w5.heap.size,1,none⟩=some (.slice Z1 0 q1)∧w10.cell? ⟨w5.heap.size,2,none⟩=some (.slice Z2 0 q2)∧w10.cell? ⟨w5.heap.size,3,none⟩=some (.slice Z3 0 q3)∧w10.cell? ⟨w7.heap.size,0,none⟩=some (.bool false)∧w10.cell? ⟨w7.heap.size,1,none⟩=some (.slice ZL 0 ql):=(by
        have hy:=HD8.out.size
        have hx:=Z6.out
        have hw:=Z8.out
        have y1:=(HG10.out.block w5.heap.size (by omega)).trans ((HD8.out.block w5.heap.size (by omega)).trans HE6.out)
        have y2:=(HG10.out.block w7.heap.size (by omega)).trans HE8.out
        simp [World.cell?,y1,y2])
       clear hb10))
   go_ret
   exact ⟨rfl,HJ.out⟩
  case pos=>
   have hok:=askedErr_zero.1 h0
   have hcl:=clash_yes hok
   have hpl:=place_law hok
   have hll:=clashV_len hok
   have hlp:=placeV_len hok
   have hdec:(decide ((0:Int)=0))=true:=rfl
   cases hm:meetsV A B p with
   | true=>
     have KP2:Hid (∀ Z0 Z1 Z2 Z3 q0 q1 q2 q3 W,Below w1.heap.size w1 W→Rd encInt 1 W Z0 (placeV A B p).1.length q0 (placeV A B p).1→Rd encInt 1 W Z1 (placeV A B p).2.1.length q1 (placeV A B p).2.1→Rd encInt 1 W Z2 (placeV A B p).2.2.1.length q2 (placeV A B p).2.2.1→Rd encInt 1 W Z3 (placeV A B p).2.2.2.length q3 (placeV A B p).2.2.2→Calls Tryz.prog 19 #[.agg #[.int .i64 A.n,.slice AwA Awn Awc,.slice AtA Atn Atc],.agg #[.int .i64 B.n,.slice BwA Bwn Bwc,.slice BtA Btn Btc],.agg #[.int .i64 p.a.lo,.int .i64 p.a.hi,.int .i64 p.b.lo,.int .i64 p.b.hi],.agg #[.slice Z0 (placeV A B p).1.length q0,.slice Z1 (placeV A B p).2.1.length q1,.slice Z2 (placeV A B p).2.2.1.length q2,.slice Z3 (placeV A B p).2.2.2.length q3]] W fun e w'=>e = .returned (.tuple #[.bool true,.int .i64 0])∧Below W.heap.size W w'):=(show ∀ Z0 Z1 Z2 Z3 q0 q1 q2 q3 W,_→_→_→_→_→_ from fun Z0 Z1 Z2 Z3 q0 q1 q2 q3 W hW h0' h1 h2 h3=>by
      have:=r3CheckPlace_any A AwA Awn Awc AtA Atn Atc B BwA Bwn Bwc BtA Btn Btc p Z0 Z1 Z2 Z3 _ q0 _ q1 _ q2 _ q3 _ _ _ _ W (RD.out W hW).1 (RD.out W hW).2.1 (RD.out W hW).2.2.1 (RD.out W hW).2.2.2 h0' h1 h2 h3
      rw [hpl,hm,h0] at this
      exact this)
     rw [clashV_meets h0 hm] at KCL
     rw [h0,hm,hdec] at KM KN KPL
     rw [h0] at KCL
     have HLP:=Lib.hid hlp
     simp only [Bool.and_self,List.length_nil] at KM KN KPL KCL
     clear RD hok hcl hpl hll hlp hdec h0 hm
     generalize placeV A B p=pl at *
     obtain ⟨p0,p1,p2,p3⟩:=pl
     simp only at KP2 KPL HLP
     go_enter Tryz.func13,Tryz.ntmps13
     go_wp2_with (first
      | rw [HW1.out]
      | rw [HW2.out]
      | (go_at_call 25;(with_reducible refine KS.out.mono ?_);rintro e w3 ⟨rfl,hb3⟩
         have HC3:=Lib.hid (HB2'.out.trans (hb3.mono HB2'.out.size))
         obtain ⟨ca03,ca13,ca23,cb03,cb13,cb23,cp03,cp13,cp23,cp33⟩:=HCE.out w3 HC3.out
         clear hb3)
      | (go_at_call 26;(with_reducible refine (KM.out _ HC3.out).mono ?_);rintro e w4 ⟨rfl,hb4⟩
         have HC4:=Lib.hid (HC3.out.trans (hb4.mono HC3.out.size))
         obtain ⟨ca04,ca14,ca24,cb04,cb14,cb24,cp04,cp14,cp24,cp34⟩:=HCE.out w4 HC4.out
         clear hb4)
      | (go_at_call 54;(with_reducible refine (KPL.out _ HC4.out).mono ?_);rintro e w5 ⟨u,rfl,hb5,Z0,q0,Z1,q1,Z2,q2,Z3,q3,hu,o0,o1,o2,o3⟩
         simp only at hu o0 o1 o2 o3
         subst hu
         obtain ⟨w6,a6,b6,z6,e6⟩:=alloc_facts w5 #[.slice Z0 p0.length q0,.slice Z1 p1.length q1,.slice Z2 p2.length q2,.slice Z3 p3.length q3] 31
         have HC5:=Lib.hid (HC4.out.trans (hb5.mono HC4.out.size))
         have HC6:=Lib.hid (HC5.out.trans (b6.mono HC5.out.size))
         have HA6:=Lib.hid a6
         have HE6:=Lib.hid e6
         have Z6:Hid (w6.heap.size=w5.heap.size+1):=(show _=_ from z6)
         have RP:Hid (∀ W,Below w6.heap.size w6 W→Rd encInt 1 W Z0 p0.length q0 p0∧Rd encInt 1 W Z1 p1.length q1 p1∧Rd encInt 1 W Z2 p2.length q2 p2∧Rd encInt 1 W Z3 p3.length q3 p3):=(show ∀ W,_→_ from fun W hW=>by
          obtain ⟨g0,g1,g2,g3⟩:=HLP.out
          exact ⟨((o0.below b6 (Nat.le_refl _)).below hW (Nat.le_refl _)).rd (fun _=>rfl) (by omega),((o1.below b6 (Nat.le_refl _)).below hW (Nat.le_refl _)).rd (fun _=>rfl) (by omega),((o2.below b6 (Nat.le_refl _)).below hW (Nat.le_refl _)).rd (fun _=>rfl) (by omega),((o3.below b6 (Nat.le_refl _)).below hW (Nat.le_refl _)).rd (fun _=>rfl) (by omega)⟩)
         obtain ⟨ca06,ca16,ca26,cb06,cb16,cb26,cp06,cp16,cp26,cp36⟩:=HCE.out w6 HC6.out
         clear hb5 a6 b6 z6 e6 o0 o1 o2 o3)
      | rw [HA6.out]
      | (go_at_call 55;(with_reducible refine (KCL.out _ HC6.out).mono ?_);rintro e w7 ⟨ZL,ql,rfl,hb7,ho⟩
         obtain ⟨w8,a8,b8,z8,e8⟩:=alloc_facts w7 #[.bool false,.slice ZL 0 ql] 33
         have HC7:=Lib.hid (HC6.out.trans (hb7.mono HC6.out.size))
         have HC8:=Lib.hid (HC7.out.trans (b8.mono HC7.out.size))
         have HD8:=Lib.hid (hb7.trans (b8.mono hb7.size))
         have HA8:=Lib.hid a8
         have HE8:=Lib.hid e8
         have Z8:Hid (w8.heap.size=w7.heap.size+1):=(show _=_ from z8)
         obtain ⟨ca08,ca18,ca28,cb08,cb18,cb28,cp08,cp18,cp28,cp38⟩:=HCE.out w8 HC8.out
         clear hb7 a8 b8 z8 e8 ho)
      | rw [HA8.out]
      | (go_at_call 56;(with_reducible refine (KN.out _ HC8.out).mono ?_);rintro e w9 ⟨rfl,hb9⟩
         have HC9:=Lib.hid (HC8.out.trans (hb9.mono HC8.out.size))
         obtain ⟨ca09,ca19,ca29,cb09,cb19,cb29,cp09,cp19,cp29,cp39⟩:=HCE.out w9 HC9.out
         have HG9:=Lib.hid (hb9)
         obtain ⟨r09,r19,r29,r39,s09,s19⟩:w9.cell? ⟨w5.heap.size,0,none⟩=some (.slice Z0 p0.length q0)∧w9.cell? ⟨w5.heap.size,1,none⟩=some (.slice Z1 p1.length q1)∧w9.cell? ⟨w5.heap.size,2,none⟩=some (.slice Z2 p2.length q2)∧w9.cell? ⟨w5.heap.size,3,none⟩=some (.slice Z3 p3.length q3)∧w9.cell? ⟨w7.heap.size,0,none⟩=some (.bool false)∧w9.cell? ⟨w7.heap.size,1,none⟩=some (.slice ZL 0 ql):=(by
          have hy:=HD8.out.size
          have hx:=Z6.out
          have hw:=Z8.out
          have y1:=(HG9.out.block w5.heap.size (by omega)).trans ((HD8.out.block w5.heap.size (by omega)).trans HE6.out)
          have y2:=(HG9.out.block w7.heap.size (by omega)).trans HE8.out
          simp [World.cell?,y1,y2])
         clear hb9)
      | (go_at_call 19;(with_reducible refine (KP2.out Z0 Z1 Z2 Z3 q0 q1 q2 q3 _ HC9.out (RP.out _ (HD8.out.trans (HG9.out.mono HD8.out.size))).1 (RP.out _ (HD8.out.trans (HG9.out.mono HD8.out.size))).2.1 (RP.out _ (HD8.out.trans (HG9.out.mono HD8.out.size))).2.2.1 (RP.out _ (HD8.out.trans (HG9.out.mono HD8.out.size))).2.2.2).mono ?_);rintro e w10 ⟨rfl,hb10⟩
         have HC10:=Lib.hid (HC9.out.trans (hb10.mono HC9.out.size))
         obtain ⟨ca010,ca110,ca210,cb010,cb110,cb210,cp010,cp110,cp210,cp310⟩:=HCE.out w10 HC10.out
         have HG10:=Lib.hid (HG9.out.trans (hb10.mono HG9.out.size))
         obtain ⟨r010,r110,r210,r310,s010,s110⟩:w10.cell? ⟨w5.heap.size,0,none⟩=some (.slice Z0 p0.length q0)∧w10.cell? ⟨w5.heap.size,1,none⟩=some (.slice Z1 p1.length q1)∧w10.cell? ⟨w5.heap.size,2,none⟩=some (.slice Z2 p2.length q2)∧w10.cell? ⟨w5.heap.size,3,none⟩=some (.slice Z3 p3.length q3)∧w10.cell? ⟨w7.heap.size,0,none⟩=some (.bool false)∧w10.cell? ⟨w7.heap.size,1,none⟩=some (.slice ZL 0 ql):=(by
          have hy:=HD8.out.size
          have hx:=Z6.out
          have hw:=Z8.out
          have y1:=(HG10.out.block w5.heap.size (by omega)).trans ((HD8.out.block w5.heap.size (by omega)).trans HE6.out)
          have y2:=(HG10.out.block w7.heap.size (by omega)).trans HE8.out
          simp [World.cell?,y1,y2])
         clear hb10)
      | (go_at_call 17;(with_reducible refine (joined_any _).mono ?_);rintro e w11 ⟨rfl,hb11⟩
         have HJ:=Lib.hid (HB1.out.trans ((HC10.out.trans (hb11.mono HC10.out.size)).mono HB1.out.size))
         have HG11:=Lib.hid (HG10.out.trans (hb11.mono HG10.out.size))
         obtain ⟨r011,r111,r211,r311,s011,s111⟩:w11.cell? ⟨w5.heap.size,0,none⟩=some (.slice Z0 p0.length q0)∧w11.cell? ⟨w5.heap.size,1,none⟩=some (.slice Z1 p1.length q1)∧w11.cell? ⟨w5.heap.size,2,none⟩=some (.slice Z2 p2.length q2)∧w11.cell? ⟨w5.heap.size,3,none⟩=some (.slice Z3 p3.length q3)∧w11.cell? ⟨w7.heap.size,0,none⟩=some (.bool false)∧w11.cell? ⟨w7.heap.size,1,none⟩=some (.slice ZL 0 ql):=(by
          have hy:=HD8.out.size
          have hx:=Z6.out
          have hw:=Z8.out
          have y1:=(HG11.out.block w5.heap.size (by omega)).trans ((HD8.out.block w5.heap.size (by omega)).trans HE6.out)
          have y2:=(HG11.out.block w7.heap.size (by omega)).trans HE8.out
          simp [World.cell?,y1,y2])
         clear hb11))
     go_ret
     exact ⟨rfl,HJ.out⟩
   | false=>
     have KC2:Hid (∀ L lc W,Below w1.heap.size w1 W→Rd encInt 1 W L (clashV A B p).2.1.length lc (clashV A B p).2.1→Calls Tryz.prog 21 #[.agg #[.int .i64 A.n,.slice AwA Awn Awc,.slice AtA Atn Atc],.agg #[.int .i64 B.n,.slice BwA Bwn Bwc,.slice BtA Btn Btc],.agg #[.int .i64 p.a.lo,.int .i64 p.a.hi,.int .i64 p.b.lo,.int .i64 p.b.hi],.agg #[.bool (clashV A B p).1,.slice L (clashV A B p).2.1.length lc]] W fun e w'=>e = .returned (.tuple #[.bool true,.int .i64 0])∧Below W.heap.size W w'):=(show ∀ L lc W,_→_→_ from fun L lc W hW hL=>by
      have:=r3CheckClash_any A AwA Awn Awc AtA Atn Atc B BwA Bwn Bwc BtA Btn Btc p (clashV A B p).1 L _ lc _ W (RD.out W hW).1 (RD.out W hW).2.1 (RD.out W hW).2.2.1 (RD.out W hW).2.2.2 hL (by omega)
      rw [hcl.2,hm,h0] at this
      exact this)
     have KFW:Hid (∀ W,Below w1.heap.size w1 W→Calls Tryz.prog 57 #[.agg #[.int .i64 A.n,.slice AwA Awn Awc,.slice AtA Atn Atc],.agg #[.int .i64 B.n,.slice BwA Bwn Bwc,.slice BtA Btn Btc],.agg #[.int .i64 p.a.lo,.int .i64 p.a.hi,.int .i64 p.b.lo,.int .i64 p.b.hi]] W fun e w'=>e = .returned (.tuple #[.int .i64 (clashV A B p).2.1.length,.bool (clashV A B p).1])∧Below W.heap.size W w'):=(show ∀ W,_→_ from fun W hW=>by
      rw [clashV_ok h0]
      exact r3Fewest_any A AwA Awn Awc AtA Atn Atc B BwA Bwn Bwc BtA Btn Btc p W (RD.out W hW).1 (RD.out W hW).2.1 (RD.out W hW).2.2.1 (RD.out W hW).2.2.2 hok)
     have hc1:=hcl.1
     rw [hm] at hc1
     rw [placeV_no (fun h=>by rw [hm] at h;cases h.2)] at KPL
     rw [h0,hm,hdec] at KM KN KPL
     rw [h0,hc1] at KCL
     have HLL:=Lib.hid hll
     simp only [Bool.and_false,Bool.not_false] at KM KN KPL KCL
     clear RD hok hcl hpl hll hlp hdec h0 hm hc1
     generalize clashV A B p=cv at *
     obtain ⟨c0,c1,c2⟩:=cv
     simp only at KC2 KFW KCL HLL
     obtain ⟨p0,p1,p2,p3,hp0,hp1,hp2,hp3⟩:∃ p0 p1 p2 p3:List Int,p0 = []∧p1 = []∧p2 = []∧p3 = []:=⟨_,_,_,_,rfl,rfl,rfl,rfl⟩
     have HLP:Hid (p0.length≤100∧p1.length≤100∧p2.length≤100∧p3.length≤100):=(show _∧_ from by subst hp0 hp1 hp2 hp3;simp)
     subst hp0 hp1 hp2 hp3
     have t1:((c1.length:Int)==(c1.length:Int))=true:=(by simp)
     have t2:(c0==c0)=true:=(by simp)
     go_enter Tryz.func13,Tryz.ntmps13
     go_wp2_with (first
      | rw [HW1.out]
      | rw [HW2.out]
      | (go_at_call 25;(with_reducible refine KS.out.mono ?_);rintro e w3 ⟨rfl,hb3⟩
         have HC3:=Lib.hid (HB2'.out.trans (hb3.mono HB2'.out.size))
         obtain ⟨ca03,ca13,ca23,cb03,cb13,cb23,cp03,cp13,cp23,cp33⟩:=HCE.out w3 HC3.out
         clear hb3)
      | (go_at_call 26;(with_reducible refine (KM.out _ HC3.out).mono ?_);rintro e w4 ⟨rfl,hb4⟩
         have HC4:=Lib.hid (HC3.out.trans (hb4.mono HC3.out.size))
         obtain ⟨ca04,ca14,ca24,cb04,cb14,cb24,cp04,cp14,cp24,cp34⟩:=HCE.out w4 HC4.out
         clear hb4)
      | (go_at_call 54;(with_reducible refine (KPL.out _ HC4.out).mono ?_);rintro e w5 ⟨u,rfl,hb5,Z0,q0,Z1,q1,Z2,q2,Z3,q3,hu,o0,o1,o2,o3⟩
         simp only [List.length_nil] at hu o0 o1 o2 o3
         subst hu
         obtain ⟨w6,a6,b6,z6,e6⟩:=alloc_facts w5 #[.slice Z0 0 q0,.slice Z1 0 q1,.slice Z2 0 q2,.slice Z3 0 q3] 31
         have HC5:=Lib.hid (HC4.out.trans (hb5.mono HC4.out.size))
         have HC6:=Lib.hid (HC5.out.trans (b6.mono HC5.out.size))
         have HA6:=Lib.hid a6
         have HE6:=Lib.hid e6
         have Z6:Hid (w6.heap.size=w5.heap.size+1):=(show _=_ from z6)
         obtain ⟨ca06,ca16,ca26,cb06,cb16,cb26,cp06,cp16,cp26,cp36⟩:=HCE.out w6 HC6.out
         clear hb5 a6 b6 z6 e6 o0 o1 o2 o3)
      | rw [HA6.out]
      | (go_at_call 55;(with_reducible refine (KCL.out _ HC6.out).mono ?_);rintro e w7 ⟨ZL,ql,rfl,hb7,ho⟩
         obtain ⟨w8,a8,b8,z8,e8⟩:=alloc_facts w7 #[.bool c0,.slice ZL c1.length ql] 33
         have HC7:=Lib.hid (HC6.out.trans (hb7.mono HC6.out.size))
         have HC8:=Lib.hid (HC7.out.trans (b8.mono HC7.out.size))
         have HD8:=Lib.hid (hb7.trans (b8.mono hb7.size))
         have HA8:=Lib.hid a8
         have HE8:=Lib.hid e8
         have Z8:Hid (w8.heap.size=w7.heap.size+1):=(show _=_ from z8)
         have RF:Hid (∀ W,Below w8.heap.size w8 W→Rd encInt 1 W ZL c1.length ql c1):=(show ∀ W,_→_ from fun W hW=>by
          have g0:=HLL.out
          exact ((ho.below b8 (Nat.le_refl _)).below hW (Nat.le_refl _)).rd (fun _=>rfl) (by omega))
         obtain ⟨ca08,ca18,ca28,cb08,cb18,cb28,cp08,cp18,cp28,cp38⟩:=HCE.out w8 HC8.out
         clear hb7 a8 b8 z8 e8 ho)
      | rw [HA8.out]
      | (go_at_call 56;(with_reducible refine (KN.out _ HC8.out).mono ?_);rintro e w9 ⟨rfl,hb9⟩
         have HC9:=Lib.hid (HC8.out.trans (hb9.mono HC8.out.size))
         obtain ⟨ca09,ca19,ca29,cb09,cb19,cb29,cp09,cp19,cp29,cp39⟩:=HCE.out w9 HC9.out
         have HG9:=Lib.hid (hb9)
         obtain ⟨r09,r19,r29,r39,s09,s19⟩:w9.cell? ⟨w5.heap.size,0,none⟩=some (.slice Z0 0 q0)∧w9.cell? ⟨w5.heap.size,1,none⟩=some (.slice Z1 0 q1)∧w9.cell? ⟨w5.heap.size,2,none⟩=some (.slice Z2 0 q2)∧w9.cell? ⟨w5.heap.size,3,none⟩=some (.slice Z3 0 q3)∧w9.cell? ⟨w7.heap.size,0,none⟩=some (.bool c0)∧w9.cell? ⟨w7.heap.size,1,none⟩=some (.slice ZL c1.length ql):=(by
          have hy:=HD8.out.size
          have hx:=Z6.out
          have hw:=Z8.out
          have y1:=(HG9.out.block w5.heap.size (by omega)).trans ((HD8.out.block w5.heap.size (by omega)).trans HE6.out)
          have y2:=(HG9.out.block w7.heap.size (by omega)).trans HE8.out
          simp [World.cell?,y1,y2])
         clear hb9)
      | (go_at_call 21;(with_reducible refine (KC2.out ZL ql _ HC9.out (RF.out _ HG9.out)).mono ?_);rintro e w10 ⟨rfl,hb10⟩
         have HC10:=Lib.hid (HC9.out.trans (hb10.mono HC9.out.size))
         obtain ⟨ca010,ca110,ca210,cb010,cb110,cb210,cp010,cp110,cp210,cp310⟩:=HCE.out w10 HC10.out
         have HG10:=Lib.hid (HG9.out.trans (hb10.mono HG9.out.size))
         obtain ⟨r010,r110,r210,r310,s010,s110⟩:w10.cell? ⟨w5.heap.size,0,none⟩=some (.slice Z0 0 q0)∧w10.cell? ⟨w5.heap.size,1,none⟩=some (.slice Z1 0 q1)∧w10.cell? ⟨w5.heap.size,2,none⟩=some (.slice Z2 0 q2)∧w10.cell? ⟨w5.heap.size,3,none⟩=some (.slice Z3 0 q3)∧w10.cell? ⟨w7.heap.size,0,none⟩=some (.bool c0)∧w10.cell? ⟨w7.heap.size,1,none⟩=some (.slice ZL c1.length ql):=(by
          have hy:=HD8.out.size
          have hx:=Z6.out
          have hw:=Z8.out
          have y1:=(HG10.out.block w5.heap.size (by omega)).trans ((HD8.out.block w5.heap.size (by omega)).trans HE6.out)
          have y2:=(HG10.out.block w7.heap.size (by omega)).trans HE8.out
          simp [World.cell?,y1,y2])
         clear hb10)
      | (go_at_call 57;(with_reducible refine (KFW.out _ HC10.out).mono ?_);rintro e w11 ⟨rfl,hb11⟩
         have HC11:=Lib.hid (HC10.out.trans (hb11.mono HC10.out.size))
         obtain ⟨ca011,ca111,ca211,cb011,cb111,cb211,cp011,cp111,cp211,cp311⟩:=HCE.out w11 HC11.out
         have HG11:=Lib.hid (HG10.out.trans (hb11.mono HG10.out.size))
         obtain ⟨r011,r111,r211,r311,s011,s111⟩:w11.cell? ⟨w5.heap.size,0,none⟩=some (.slice Z0 0 q0)∧w11.cell? ⟨w5.heap.size,1,none⟩=some (.slice Z1 0 q1)∧w11.cell? ⟨w5.heap.size,2,none⟩=some (.slice Z2 0 q2)∧w11.cell? ⟨w5.heap.size,3,none⟩=some (.slice Z3 0 q3)∧w11.cell? ⟨w7.heap.size,0,none⟩=some (.bool c0)∧w11.cell? ⟨w7.heap.size,1,none⟩=some (.slice ZL c1.length ql):=(by
          have hy:=HD8.out.size
          have hx:=Z6.out
          have hw:=Z8.out
          have y1:=(HG11.out.block w5.heap.size (by omega)).trans ((HD8.out.block w5.heap.size (by omega)).trans HE6.out)
          have y2:=(HG11.out.block w7.heap.size (by omega)).trans HE8.out
          simp [World.cell?,y1,y2])
         clear hb11)
      | (go_at_call 17;(with_reducible refine (joined_any _).mono ?_);rintro e w12 ⟨rfl,hb12⟩
         have HJ:=Lib.hid (HB1.out.trans ((HC11.out.trans (hb12.mono HC11.out.size)).mono HB1.out.size))
         have HG12:=Lib.hid (HG11.out.trans (hb12.mono HG11.out.size))
         obtain ⟨r012,r112,r212,r312,s012,s112⟩:w12.cell? ⟨w5.heap.size,0,none⟩=some (.slice Z0 0 q0)∧w12.cell? ⟨w5.heap.size,1,none⟩=some (.slice Z1 0 q1)∧w12.cell? ⟨w5.heap.size,2,none⟩=some (.slice Z2 0 q2)∧w12.cell? ⟨w5.heap.size,3,none⟩=some (.slice Z3 0 q3)∧w12.cell? ⟨w7.heap.size,0,none⟩=some (.bool c0)∧w12.cell? ⟨w7.heap.size,1,none⟩=some (.slice ZL c1.length ql):=(by
          have hy:=HD8.out.size
          have hx:=Z6.out
          have hw:=Z8.out
          have y1:=(HG12.out.block w5.heap.size (by omega)).trans ((HD8.out.block w5.heap.size (by omega)).trans HE6.out)
          have y2:=(HG12.out.block w7.heap.size (by omega)).trans HE8.out
          simp [World.cell?,y1,y2])
         clear hb12))
     go_ret
     exact ⟨rfl,HJ.out⟩
end Go.Proofs.YtccabpahfmoamaaGreat
end

/- Contracts that the laws lean on: EitL. -/
import Derived.Test.YtccabpahfmoamaaGreatE27
import Derived.Test.YtccabpahfmoamaaGreatE33
import Derived.Test.YtccabpahfmoamaaGreatE26
section
namespace Go.Proofs.YtccabpahfmoamaaGreat
open Go.RowKit Go.Proofs Go.Shelf
theorem circleX_len {pts:Int} {bs:List Bound} (hok:SysOk pts bs):(circleX pts bs).length≤60:=by
 rcases circle_law hok with ⟨h1,_⟩|⟨p,ws,_,hix,hl,hne,hs,hw,hneg,hmin⟩
 · rw [h1];simp
 · rw [hl]
   have hn:=least_simple hs hw hneg hmin
   have hz60:zeroRow.length=60:=by simp [zeroRow]
   have:=nodup_range (n:=60) hn (fun x hx=>by
    unfold leaves at hx
    obtain ⟨b,hb,rfl⟩:=List.mem_map.1 hx
    have h60:=(ends60 hok (r:=zeroRow) hz60 b (hs b hb)).1
    omega)
   unfold leaves at this
   rwa [List.length_map] at this
theorem clashV_len {A B:Outl} {p:Pairing} (h:AskOk A B p):(clashV A B p).2.1.length≤60:=by
 unfold clashV circV
 rw [if_pos (askedErr_zero.2 h)]
 split
 · exact circleX_len (sysOk_of h.ways_sys)
 · split
   · exact circleX_len (sysOk_of h.dirs_sys)
   · simp
theorem placeV_len {A B:Outl} {p:Pairing} (h:AskOk A B p):(placeV A B p).1.length≤100∧(placeV A B p).2.1.length≤100∧(placeV A B p).2.2.1.length≤100∧(placeV A B p).2.2.2.length≤100:=by
 obtain ⟨_,n2,_,_⟩:=checkOut_zero.1 h.a
 obtain ⟨_,n4,_,_⟩:=checkOut_zero.1 h.b
 unfold placeV
 split
 · unfold placeX
   simp only [partL_len,List.length_take]
   omega
 · simp
set_option maxRecDepth 100000 in
set_option maxHeartbeats 8000000 in
theorem edgeEither_of (A:Outl) (AwA:Option Addr) (Awn Awc:Nat) (AtA:Option Addr) (Atn Atc:Nat) (B:Outl) (BwA:Option Addr) (Bwn Bwc:Nat) (BtA:Option Addr) (Btn Btc:Nat) (p:Pairing) (X0 X1 X2 X3:Option Addr) (n0 k0 n1 k1 n2 k2 n3 k3:Nat) (xa xb da db:List Int) (tn:Bool) (L:Option Addr) (m lc:Nat) (l:List Int) (w:World) (hsz:Awn≤17592186044416∧Atn≤17592186044416∧Bwn≤17592186044416∧Btn≤17592186044416∧n0≤17592186044416∧n1≤17592186044416∧n2≤17592186044416∧n3≤17592186044416) (Aw:InL encBound 4 w AwA Awn Awc A.ways) (At:InL encBound 4 w AtA Atn Atc A.turns) (Bw:InL encBound 4 w BwA Bwn Bwc B.ways) (Bt:InL encBound 4 w BtA Btn Btc B.turns) (Y0:InL encInt 1 w X0 n0 k0 xa) (Y1:InL encInt 1 w X1 n1 k1 xb) (Y2:InL encInt 1 w X2 n2 k2 da) (Y3:InL encInt 1 w X3 n3 k3 db) (YL:InL encInt 1 w L m lc l):
 Calls Tryz.prog 15 #[.agg #[.int .i64 A.n,.slice AwA Awn Awc,.slice AtA Atn Atc],.agg #[.int .i64 B.n,.slice BwA Bwn Bwc,.slice BtA Btn Btc],.agg #[.int .i64 p.a.lo,.int .i64 p.a.hi,.int .i64 p.b.lo,.int .i64 p.b.hi],.agg #[.slice X0 n0 k0,.slice X1 n1 k1,.slice X2 n2 k2,.slice X3 n3 k3],.agg #[.bool tn,.slice L m lc]] w fun e w'=>e = .returned (.bool true)∧Below w.heap.size w w':=by
 obtain ⟨sz1,sz2,sz3,sz4,sz5,sz6,sz7,sz8⟩:=hsz
 obtain ⟨wa,hwa,hba,hza,hbx⟩:=boxABP w A AwA Awn Awc AtA Atn Atc B BwA Bwn Bwc BtA Btn Btc p
 obtain ⟨wb,hwb,lb,zb,eb⟩:=alloc_facts wa #[.slice X0 n0 k0,.slice X1 n1 k1,.slice X2 n2 k2,.slice X3 n3 k3] 31
 obtain ⟨w1,hw1,l1,z1,e1⟩:=alloc_facts wb #[.bool tn,.slice L m lc] 33
 have hab:=hba.trans (lb.mono hba.size)
 have hb1:=hab.trans (l1.mono hab.size)
 have hz1:w1.heap.size=w.heap.size+1+1+1+1+1:=(by omega)
 rw [hza] at eb
 have ezb:wb.heap.size=w.heap.size+1+1+1+1:=(by omega)
 rw [ezb] at e1
 have hcx:∀ W,Below w1.heap.size w1 W→BoxABP w.heap.size A AwA Awn Awc AtA Atn Atc B BwA Bwn Bwc BtA Btn Btc p W∧(W.cell? ⟨w.heap.size+1+1+1,0,none⟩=some (.slice X0 n0 k0)∧W.cell? ⟨w.heap.size+1+1+1,1,none⟩=some (.slice X1 n1 k1)∧W.cell? ⟨w.heap.size+1+1+1,2,none⟩=some (.slice X2 n2 k2)∧W.cell? ⟨w.heap.size+1+1+1,3,none⟩=some (.slice X3 n3 k3)∧W.cell? ⟨w.heap.size+1+1+1+1,0,none⟩=some (.bool tn)∧W.cell? ⟨w.heap.size+1+1+1+1,1,none⟩=some (.slice L m lc)):=fun W h=>by
  have hbW:=l1.trans (h.mono l1.size)
  have hh:=(hbW.block (w.heap.size+1+1+1) (by omega)).trans eb
  have hf:=(h.block (w.heap.size+1+1+1+1) (by omega)).trans e1
  exact ⟨hbx W (lb.trans (hbW.mono lb.size)),by simp [World.cell?,hh,hf]⟩
 have HWA:=Lib.hid hwa
 have HWB:=Lib.hid hwb
 have HW1:=Lib.hid hw1
 clear hwa hwb hw1 hba hbx lb zb eb l1 z1 e1 hab
 obtain ⟨w2,a2,b2,z2,e2⟩:=alloc_facts w1 #[.int .i64 A.n,.slice AwA Awn Awc,.slice AtA Atn Atc,.int .i64 B.n,.slice BwA Bwn Bwc,.slice BtA Btn Btc] 24
 rw [hz1] at e2
 have HB1:=Lib.hid hb1
 have HB12:=Lib.hid (hb1.trans (b2.mono hb1.size))
 have HW2:=Lib.hid a2
 have KS:=Lib.hid (small_any (w.heap.size+1+1+1+1+1) (.int .i64 A.n) (.int .i64 B.n) AwA AtA BwA BtA Awn Awc Atn Atc Bwn Bwc Btn Btc w2 e2)
 have HCE:Hid (∀ W,Below w1.heap.size w1 W→BoxABP w.heap.size A AwA Awn Awc AtA Atn Atc B BwA Bwn Bwc BtA Btn Btc p W∧(W.cell? ⟨w.heap.size+1+1+1,0,none⟩=some (.slice X0 n0 k0)∧W.cell? ⟨w.heap.size+1+1+1,1,none⟩=some (.slice X1 n1 k1)∧W.cell? ⟨w.heap.size+1+1+1,2,none⟩=some (.slice X2 n2 k2)∧W.cell? ⟨w.heap.size+1+1+1,3,none⟩=some (.slice X3 n3 k3)∧W.cell? ⟨w.heap.size+1+1+1+1,0,none⟩=some (.bool tn)∧W.cell? ⟨w.heap.size+1+1+1+1,1,none⟩=some (.slice L m lc))):=(show ∀ W,_→_ from hcx)
 obtain ⟨⟨xa0,xa1,xa2,xb0,xb1,xb2,xp0,xp1,xp2,xp3⟩,xq0,xq1,xq2,xq3,xf0,xf1⟩:=hcx w1 (Below.refl _ _)
 have HB2':=Lib.hid b2
 by_cases hsm:smallN Awn Atn Bwn Btn=true
 case neg=>
  have hsf:smallN Awn Atn Bwn Btn=false:=by simpa using hsm
  rw [hsf] at KS
  clear Aw At Bw Bt Y0 Y1 Y2 Y3 YL hsm hsf hb1 a2 b2 z2 e2 hcx HCE
  go_enter Tryz.func15,Tryz.ntmps15
  go_wp2_with (first
   | rw [HWA.out]
   | rw [HWB.out]
   | rw [HW1.out]
   | rw [HW2.out]
   | (go_at_call 25;(with_reducible refine KS.out.mono ?_);rintro e w3 ⟨rfl,hb3⟩
      have HC3:=Lib.hid (HB2'.out.trans (hb3.mono HB2'.out.size))
      clear hb3)
   | (go_at_call 17;(with_reducible refine (joined_any _).mono ?_);rintro e w4 ⟨rfl,hb4⟩
      have HJ:=Lib.hid (HB1.out.trans ((HC3.out.trans (hb4.mono HC3.out.size)).mono HB1.out.size))
      clear hb4))
  go_ret
  exact ⟨rfl,HJ.out⟩
 case pos=>
 by_cases hfl:100<m
 case pos=>
  have hfi:(100:Int)<m:=(by omega)
  rw [hsm] at KS
  clear Aw At Bw Bt Y0 Y1 Y2 Y3 YL hsm hb1 a2 b2 z2 e2 hcx
  go_enter Tryz.func15,Tryz.ntmps15
  go_wp2_with (first
   | rw [HWA.out]
   | rw [HWB.out]
   | rw [HW1.out]
   | rw [HW2.out]
   | (go_at_call 25;(with_reducible refine KS.out.mono ?_);rintro e w3 ⟨rfl,hb3⟩
      have HC3:=Lib.hid (HB2'.out.trans (hb3.mono HB2'.out.size))
      obtain ⟨⟨ca03,ca13,ca23,cb03,cb13,cb23,cp03,cp13,cp23,cp33⟩,cq03,cq13,cq23,cq33,cf03,cf13⟩:=HCE.out w3 HC3.out
      clear hb3)
   | (go_at_call 17;(with_reducible refine (joined_any _).mono ?_);rintro e w4 ⟨rfl,hb4⟩
      have HJ:=Lib.hid (HB1.out.trans ((HC3.out.trans (hb4.mono HC3.out.size)).mono HB1.out.size))
      clear hb4))
  go_ret
  exact ⟨rfl,HJ.out⟩
 case neg=>
 have hfi:¬(100:Int)<m:=(by omega)
 by_cases hxl:100<n0+n1+n2+n3
 case pos=>
  have hxi:(100:Int)<(n0:Int)+n1+n2+n3:=(by omega)
  rw [hsm] at KS
  clear Aw At Bw Bt Y0 Y1 Y2 Y3 YL hsm hb1 a2 b2 z2 e2 hcx
  go_enter Tryz.func15,Tryz.ntmps15
  go_wp2_with (first
   | rw [HWA.out]
   | rw [HWB.out]
   | rw [HW1.out]
   | rw [HW2.out]
   | (go_at_call 25;(with_reducible refine KS.out.mono ?_);rintro e w3 ⟨rfl,hb3⟩
      have HC3:=Lib.hid (HB2'.out.trans (hb3.mono HB2'.out.size))
      obtain ⟨⟨ca03,ca13,ca23,cb03,cb13,cb23,cp03,cp13,cp23,cp33⟩,cq03,cq13,cq23,cq33,cf03,cf13⟩:=HCE.out w3 HC3.out
      clear hb3)
   | (go_at_call 17;(with_reducible refine (joined_any _).mono ?_);rintro e w4 ⟨rfl,hb4⟩
      have HJ:=Lib.hid (HB1.out.trans ((HC3.out.trans (hb4.mono HC3.out.size)).mono HB1.out.size))
      clear hb4))
  go_ret
  exact ⟨rfl,HJ.out⟩
 case neg=>
  have hxi:¬(100:Int)<(n0:Int)+n1+n2+n3:=(by omega)
  obtain ⟨s1,s2,s3,s4⟩:=smallN_iff.1 hsm
  rw [hsm] at KS
  have ra:=Aw.2 (by omega);have rt:=At.2 (by omega);have rb:=Bw.2 (by omega);have ru:=Bt.2 (by omega)
  have y0:=Y0.2 (by omega);have y1:=Y1.2 (by omega);have y2:=Y2.2 (by omega);have y3:=Y3.2 (by omega);have yl:=YL.2 (by omega)
  have RD:Hid (∀ W,Below w1.heap.size w1 W→Rd encBound 4 W AwA Awn Awc A.ways∧Rd encBound 4 W AtA Atn Atc A.turns∧Rd encBound 4 W BwA Bwn Bwc B.ways∧Rd encBound 4 W BtA Btn Btc B.turns):=(show ∀ W,_→_ from fun W h=>⟨(ra.below hb1 (Nat.le_refl _)).below h (Nat.le_refl _),(rt.below hb1 (Nat.le_refl _)).below h (Nat.le_refl _),(rb.below hb1 (Nat.le_refl _)).below h (Nat.le_refl _),(ru.below hb1 (Nat.le_refl _)).below h (Nat.le_refl _)⟩)
  have RX:Hid (∀ W,Below w1.heap.size w1 W→Rd encInt 1 W X0 n0 k0 xa∧Rd encInt 1 W X1 n1 k1 xb∧Rd encInt 1 W X2 n2 k2 da∧Rd encInt 1 W X3 n3 k3 db∧Rd encInt 1 W L m lc l):=(show ∀ W,_→_ from fun W h=>⟨(y0.below hb1 (Nat.le_refl _)).below h (Nat.le_refl _),(y1.below hb1 (Nat.le_refl _)).below h (Nat.le_refl _),(y2.below hb1 (Nat.le_refl _)).below h (Nat.le_refl _),(y3.below hb1 (Nat.le_refl _)).below h (Nat.le_refl _),(yl.below hb1 (Nat.le_refl _)).below h (Nat.le_refl _)⟩)
  have KM:Hid (∀ W,Below w1.heap.size w1 W→Calls Tryz.prog 26 #[.agg #[.int .i64 A.n,.slice AwA Awn Awc,.slice AtA Atn Atc],.agg #[.int .i64 B.n,.slice BwA Bwn Bwc,.slice BtA Btn Btc],.agg #[.int .i64 p.a.lo,.int .i64 p.a.hi,.int .i64 p.b.lo,.int .i64 p.b.hi]] W fun e w'=>e = .returned (.tuple #[.bool (decide (askedErr A B p=0)&&meetsV A B p),.int .i64 (askedErr A B p)])∧Below W.heap.size W w'):=(show ∀ W,_→_ from fun W hW=>MeetsE_any A AwA Awn Awc AtA Atn Atc B BwA Bwn Bwc BtA Btn Btc p W (RD.out W hW).1 (RD.out W hW).2.1 (RD.out W hW).2.2.1 (RD.out W hW).2.2.2)
  have KP:Hid (∀ (Z0 Z1 Z2 Z3:Option Addr) (m0 q0 m1 q1 m2 q2 m3 q3:Nat) (za zb dza dzb:List Int) W,Below w1.heap.size w1 W→Rd encInt 1 W Z0 m0 q0 za→Rd encInt 1 W Z1 m1 q1 zb→Rd encInt 1 W Z2 m2 q2 dza→Rd encInt 1 W Z3 m3 q3 dzb→Calls Tryz.prog 18 #[.agg #[.int .i64 A.n,.slice AwA Awn Awc,.slice AtA Atn Atc],.agg #[.int .i64 B.n,.slice BwA Bwn Bwc,.slice BtA Btn Btc],.agg #[.int .i64 p.a.lo,.int .i64 p.a.hi,.int .i64 p.b.lo,.int .i64 p.b.hi],.agg #[.slice Z0 m0 q0,.slice Z1 m1 q1,.slice Z2 m2 q2,.slice Z3 m3 q3]] W fun e w'=>e = .returned (.tuple #[.bool (plcB A B p za zb dza dzb),.int .i64 (askedErr A B p)])∧Below W.heap.size W w'):=(show ∀ (Z0 Z1 Z2 Z3:Option Addr) (m0 q0 m1 q1 m2 q2 m3 q3:Nat) (za zb dza dzb:List Int) W,_→_→_→_→_→_ from fun Z0 Z1 Z2 Z3 m0 q0 m1 q1 m2 q2 m3 q3 za zb dza dzb W hW h0 h1 h2 h3=>CheckPlace_any A AwA Awn Awc AtA Atn Atc B BwA Bwn Bwc BtA Btn Btc p Z0 Z1 Z2 Z3 m0 q0 m1 q1 m2 q2 m3 q3 za zb dza dzb W (RD.out W hW).1 (RD.out W hW).2.1 (RD.out W hW).2.2.1 (RD.out W hW).2.2.2 h0 h1 h2 h3)
  have KC:Hid (∀ (tn:Bool) (L:Option Addr) (m lc:Nat) (l:List Int) W,Below w1.heap.size w1 W→Rd encInt 1 W L m lc l→m≤1000000→Calls Tryz.prog 20 #[.agg #[.int .i64 A.n,.slice AwA Awn Awc,.slice AtA Atn Atc],.agg #[.int .i64 B.n,.slice BwA Bwn Bwc,.slice BtA Btn Btc],.agg #[.int .i64 p.a.lo,.int .i64 p.a.hi,.int .i64 p.b.lo,.int .i64 p.b.hi],.agg #[.bool tn,.slice L m lc]] W fun e w'=>e = .returned (.tuple #[.bool (clashB A B p tn l),.int .i64 (askedErr A B p)])∧Below W.heap.size W w'):=(show ∀ (tn:Bool) (L:Option Addr) (m lc:Nat) (l:List Int) W,_→_→_→_ from fun tn L m lc l W hW hL hm=>CheckClash_any A AwA Awn Awc AtA Atn Atc B BwA Bwn Bwc BtA Btn Btc p tn L m lc l W (RD.out W hW).1 (RD.out W hW).2.1 (RD.out W hW).2.2.1 (RD.out W hW).2.2.2 hL hm)
  have KPL:Hid (∀ W,Below w1.heap.size w1 W→Calls Tryz.prog 54 #[.agg #[.int .i64 A.n,.slice AwA Awn Awc,.slice AtA Atn Atc],.agg #[.int .i64 B.n,.slice BwA Bwn Bwc,.slice BtA Btn Btc],.agg #[.int .i64 p.a.lo,.int .i64 p.a.hi,.int .i64 p.b.lo,.int .i64 p.b.hi]] W fun e w'=> ∃ u,e = .returned (.tuple #[u,.bool (decide (askedErr A B p=0)&&meetsV A B p),.int .i64 (askedErr A B p)])∧Below W.heap.size W w'∧PlcR W.heap.size (placeV A B p) u w'):=(show ∀ W,_→_ from fun W hW=>Place_any A AwA Awn Awc AtA Atn Atc B BwA Bwn Bwc BtA Btn Btc p W (RD.out W hW).1 (RD.out W hW).2.1 (RD.out W hW).2.2.1 (RD.out W hW).2.2.2)
  have KCL:Hid (∀ W,Below w1.heap.size w1 W→Calls Tryz.prog 55 #[.agg #[.int .i64 A.n,.slice AwA Awn Awc,.slice AtA Atn Atc],.agg #[.int .i64 B.n,.slice BwA Bwn Bwc,.slice BtA Btn Btc],.agg #[.int .i64 p.a.lo,.int .i64 p.a.hi,.int .i64 p.b.lo,.int .i64 p.b.hi]] W fun e w'=> ∃ A' c',e = .returned (.tuple #[.agg #[.bool (clashV A B p).1,.slice A' (clashV A B p).2.1.length c'],.bool (clashV A B p).2.2,.int .i64 (askedErr A B p)])∧Below W.heap.size W w'∧Own encInt 1 3 W.heap.size w' A' (clashV A B p).2.1.length c' (clashV A B p).2.1):=(show ∀ W,_→_ from fun W hW=>Clash_any A AwA Awn Awc AtA Atn Atc B BwA Bwn Bwc BtA Btn Btc p W (RD.out W hW).1 (RD.out W hW).2.1 (RD.out W hW).2.2.1 (RD.out W hW).2.2.2)
  clear Aw At Bw Bt Y0 Y1 Y2 Y3 YL hsm hb1 a2 b2 z2 e2 hcx ra rt rb ru y0 y1 y2 y3 yl RD
  by_cases h0:askedErr A B p=0
  case neg=>
   have hn0:(askedErr A B p != 0)=true:=by simpa using h0
   have hee:(askedErr A B p != askedErr A B p)=false:=(by simp)
   have hM:(decide (askedErr A B p=0)&&meetsV A B p)=false:=by rw [decide_eq_false h0];rfl
   have hP:plcB A B p xa xb da db=false:=by unfold plcB;rw [decide_eq_false h0];rfl
   have hC:clashB A B p tn l=false:=by unfold clashB;rw [decide_eq_false h0];rfl
   have KP1:=Lib.hid (fun W hW=>KP.out X0 X1 X2 X3 n0 k0 n1 k1 n2 k2 n3 k3 xa xb da db W hW (RX.out W hW).1 (RX.out W hW).2.1 (RX.out W hW).2.2.1 (RX.out W hW).2.2.2.1)
   have KC1:=Lib.hid (fun W hW=>KC.out tn L m lc l W hW (RX.out W hW).2.2.2.2 (by omega))
   rw [hM] at KM
   rw [hP] at KP1
   rw [hC] at KC1
   clear KP KC KPL KCL RX hM hP hC h0
   generalize askedErr A B p=er at *
   go_enter Tryz.func15,Tryz.ntmps15
   go_wp2_with (first
    | rw [HWA.out]
    | rw [HWB.out]
    | rw [HW1.out]
    | rw [HW2.out]
    | (go_at_call 25;(with_reducible refine KS.out.mono ?_);rintro e w3 ⟨rfl,hb3⟩
       have HC3:=Lib.hid (HB2'.out.trans (hb3.mono HB2'.out.size))
       obtain ⟨⟨ca03,ca13,ca23,cb03,cb13,cb23,cp03,cp13,cp23,cp33⟩,cq03,cq13,cq23,cq33,cf03,cf13⟩:=HCE.out w3 HC3.out
       clear hb3)
    | (go_at_call 26;(with_reducible refine (KM.out _ HC3.out).mono ?_);rintro e w4 ⟨rfl,hb4⟩
       have HC4:=Lib.hid (HC3.out.trans (hb4.mono HC3.out.size))
       obtain ⟨⟨ca04,ca14,ca24,cb04,cb14,cb24,cp04,cp14,cp24,cp34⟩,cq04,cq14,cq24,cq34,cf04,cf14⟩:=HCE.out w4 HC4.out
       clear hb4)
    | (go_at_call 18;(with_reducible refine (KP1.out _ HC4.out).mono ?_);rintro e w5 ⟨rfl,hb5⟩
       have HC5:=Lib.hid (HC4.out.trans (hb5.mono HC4.out.size))
       obtain ⟨⟨ca05,ca15,ca25,cb05,cb15,cb25,cp05,cp15,cp25,cp35⟩,cq05,cq15,cq25,cq35,cf05,cf15⟩:=HCE.out w5 HC5.out
       clear hb5)
    | (go_at_call 20;(with_reducible refine (KC1.out _ HC5.out).mono ?_);rintro e w6 ⟨rfl,hb6⟩
       have HC6:=Lib.hid (HC5.out.trans (hb6.mono HC5.out.size))
       obtain ⟨⟨ca06,ca16,ca26,cb06,cb16,cb26,cp06,cp16,cp26,cp36⟩,cq06,cq16,cq26,cq36,cf06,cf16⟩:=HCE.out w6 HC6.out
       clear hb6)
    | (go_at_call 17;(with_reducible refine (joined_any _).mono ?_);rintro e w7 ⟨rfl,hb7⟩
       have HJ:=Lib.hid (HB1.out.trans ((HC6.out.trans (hb7.mono HC6.out.size)).mono HB1.out.size))
       clear hb7))
   go_ret
   exact ⟨rfl,HJ.out⟩
  case pos=>
   have hok:=askedErr_zero.1 h0
   have hcl:=clash_yes hok
   have hpl:=place_law hok
   have hll:=clashV_len hok
   have hlp:=placeV_len hok
   have hcases:(meetsV A B p=true∧clashB A B p tn l=false)∨(meetsV A B p=false∧plcB A B p xa xb da db=false):=by
    cases hm:meetsV A B p with
    | true=>exact .inl ⟨rfl,by
       rw [←Bool.not_eq_true]
       intro hh
       unfold clashB at hh
       rw [decide_eq_true h0,Bool.true_and] at hh
       rw [clash_no hok hh] at hm
       cases hm⟩
    | false=>exact .inr ⟨rfl,by
       rw [←Bool.not_eq_true]
       intro hh
       rw [plc_meets hh] at hm
       cases hm⟩
   have KP1:=Lib.hid (fun W hW=>KP.out X0 X1 X2 X3 n0 k0 n1 k1 n2 k2 n3 k3 xa xb da db W hW (RX.out W hW).1 (RX.out W hW).2.1 (RX.out W hW).2.2.1 (RX.out W hW).2.2.2.1)
   have KC1:=Lib.hid (fun W hW=>KC.out tn L m lc l W hW (RX.out W hW).2.2.2.2 (by omega))
   have KP2:=Lib.hid (fun Z0 Z1 Z2 Z3 q0 q1 q2 q3=>KP.out Z0 Z1 Z2 Z3 (placeV A B p).1.length q0 (placeV A B p).2.1.length q1 (placeV A B p).2.2.1.length q2 (placeV A B p).2.2.2.length q3 (placeV A B p).1 (placeV A B p).2.1 (placeV A B p).2.2.1 (placeV A B p).2.2.2)
   have KC2:=Lib.hid (fun L lc=>KC.out (clashV A B p).1 L (clashV A B p).2.1.length lc (clashV A B p).2.1)
   rw [hpl] at KP2
   rw [hcl.2] at KC2
   rw [hcl.1] at KCL
   rw [h0] at KM KP1 KC1 KP2 KC2 KPL KCL
   have hdec:(decide ((0:Int)=0))=true:=rfl
   rw [hdec,Bool.true_and] at KM KPL
   have HLL:=Lib.hid hll
   have HLP:=Lib.hid hlp
   clear KP KC RX h0 hok hcl hpl hll hlp hdec
   generalize placeV A B p=pl at *
   obtain ⟨p0,p1,p2,p3⟩:=pl
   generalize clashV A B p=cv at *
   obtain ⟨c0,c1,c2⟩:=cv
   generalize meetsV A B p=mv at *
   generalize plcB A B p xa xb da db=pv at *
   generalize clashB A B p tn l=bv at *
   have hc4:(mv=true∧bv=false∧pv=true)∨(mv=true∧bv=false∧pv=false)∨(mv=false∧pv=false∧bv=true)∨(mv=false∧pv=false∧bv=false):=by
    cases mv<;>cases bv<;>cases pv<;>simp_all
   clear hcases
   simp only at KP2 KC2 KPL KCL HLL HLP
   rcases hc4 with ⟨rfl,rfl,rfl⟩|⟨rfl,rfl,rfl⟩|⟨rfl,rfl,rfl⟩|⟨rfl,rfl,rfl⟩
   all_goals simp only [Bool.not_true,Bool.not_false] at KC2 KCL
   all_goals (
    go_enter Tryz.func15,Tryz.ntmps15
    go_wp2_with (first
     | rw [HWA.out]
     | rw [HWB.out]
     | rw [HW1.out]
     | rw [HW2.out]
     | (go_at_call 25;(with_reducible refine KS.out.mono ?_);rintro e w3 ⟨rfl,hb3⟩
        have HC3:=Lib.hid (HB2'.out.trans (hb3.mono HB2'.out.size))
        obtain ⟨⟨ca03,ca13,ca23,cb03,cb13,cb23,cp03,cp13,cp23,cp33⟩,cq03,cq13,cq23,cq33,cf03,cf13⟩:=HCE.out w3 HC3.out
        clear hb3)
     | (go_at_call 26;(with_reducible refine (KM.out _ HC3.out).mono ?_);rintro e w4 ⟨rfl,hb4⟩
        have HC4:=Lib.hid (HC3.out.trans (hb4.mono HC3.out.size))
        obtain ⟨⟨ca04,ca14,ca24,cb04,cb14,cb24,cp04,cp14,cp24,cp34⟩,cq04,cq14,cq24,cq34,cf04,cf14⟩:=HCE.out w4 HC4.out
        clear hb4)
     | (go_at_call 18;(with_reducible refine (KP1.out _ HC4.out).mono ?_);rintro e w5 ⟨rfl,hb5⟩
        have HC5:=Lib.hid (HC4.out.trans (hb5.mono HC4.out.size))
        obtain ⟨⟨ca05,ca15,ca25,cb05,cb15,cb25,cp05,cp15,cp25,cp35⟩,cq05,cq15,cq25,cq35,cf05,cf15⟩:=HCE.out w5 HC5.out
        clear hb5)
     | (go_at_call 20;(with_reducible refine (KC1.out _ HC5.out).mono ?_);rintro e w6 ⟨rfl,hb6⟩
        have HC6:=Lib.hid (HC5.out.trans (hb6.mono HC5.out.size))
        obtain ⟨⟨ca06,ca16,ca26,cb06,cb16,cb26,cp06,cp16,cp26,cp36⟩,cq06,cq16,cq26,cq36,cf06,cf16⟩:=HCE.out w6 HC6.out
        clear hb6)
     | (go_at_call 54;(with_reducible refine (KPL.out _ HC6.out).mono ?_);rintro e w7 ⟨u,rfl,hb7,Z0,q0,Z1,q1,Z2,q2,Z3,q3,hu,o0,o1,o2,o3⟩
        simp only at hu o0 o1 o2 o3
        subst hu
        obtain ⟨w8,a8,b8,z8,e8⟩:=alloc_facts w7 #[.slice Z0 p0.length q0,.slice Z1 p1.length q1,.slice Z2 p2.length q2,.slice Z3 p3.length q3] 31
        have HC7:=Lib.hid (HC6.out.trans (hb7.mono HC6.out.size))
        have HC8:=Lib.hid (HC7.out.trans (b8.mono HC7.out.size))
        have HA8:=Lib.hid a8
        have HE8:=Lib.hid e8
        have Z8:Hid (w8.heap.size=w7.heap.size+1):=(show _=_ from z8)
        have RP:Hid (∀ W,Below w8.heap.size w8 W→Rd encInt 1 W Z0 p0.length q0 p0∧Rd encInt 1 W Z1 p1.length q1 p1∧Rd encInt 1 W Z2 p2.length q2 p2∧Rd encInt 1 W Z3 p3.length q3 p3):=(show ∀ W,_→_ from fun W hW=>by
         obtain ⟨g0,g1,g2,g3⟩:=HLP.out
         exact ⟨((o0.below b8 (Nat.le_refl _)).below hW (Nat.le_refl _)).rd (fun _=>rfl) (by omega),((o1.below b8 (Nat.le_refl _)).below hW (Nat.le_refl _)).rd (fun _=>rfl) (by omega),((o2.below b8 (Nat.le_refl _)).below hW (Nat.le_refl _)).rd (fun _=>rfl) (by omega),((o3.below b8 (Nat.le_refl _)).below hW (Nat.le_refl _)).rd (fun _=>rfl) (by omega)⟩)
        obtain ⟨⟨ca08,ca18,ca28,cb08,cb18,cb28,cp08,cp18,cp28,cp38⟩,cq08,cq18,cq28,cq38,cf08,cf18⟩:=HCE.out w8 HC8.out
        clear hb7 a8 b8 z8 e8 o0 o1 o2 o3)
     | rw [HA8.out]
     | (go_at_call 55;(with_reducible refine (KCL.out _ HC8.out).mono ?_);rintro e w9 ⟨ZL,ql,rfl,hb9,ho⟩
        obtain ⟨w10,a10,b10,z10,e10⟩:=alloc_facts w9 #[.bool c0,.slice ZL c1.length ql] 33
        have HC9:=Lib.hid (HC8.out.trans (hb9.mono HC8.out.size))
        have HC10:=Lib.hid (HC9.out.trans (b10.mono HC9.out.size))
        have HD10:=Lib.hid (hb9.trans (b10.mono hb9.size))
        have HA10:=Lib.hid a10
        have HE10:=Lib.hid e10
        have Z10:Hid (w10.heap.size=w9.heap.size+1):=(show _=_ from z10)
        have RF:Hid (∀ W,Below w10.heap.size w10 W→Rd encInt 1 W ZL c1.length ql c1):=(show ∀ W,_→_ from fun W hW=>by
         have g0:=HLL.out
         exact ((ho.below b10 (Nat.le_refl _)).below hW (Nat.le_refl _)).rd (fun _=>rfl) (by omega))
        obtain ⟨⟨ca010,ca110,ca210,cb010,cb110,cb210,cp010,cp110,cp210,cp310⟩,cq010,cq110,cq210,cq310,cf010,cf110⟩:=HCE.out w10 HC10.out
        have hh8:=(HD10.out.block w7.heap.size (by have:=Z8.out;omega)).trans HE8.out
        obtain ⟨r0,r1,r2,r3⟩:w10.cell? ⟨w7.heap.size,0,none⟩=some (.slice Z0 p0.length q0)∧w10.cell? ⟨w7.heap.size,1,none⟩=some (.slice Z1 p1.length q1)∧w10.cell? ⟨w7.heap.size,2,none⟩=some (.slice Z2 p2.length q2)∧w10.cell? ⟨w7.heap.size,3,none⟩=some (.slice Z3 p3.length q3):=(by simp [World.cell?,hh8])
        clear hb9 a10 b10 z10 e10 ho hh8)
     | rw [HA10.out]
     | (go_at_call 18;(with_reducible refine (KP2.out Z0 Z1 Z2 Z3 q0 q1 q2 q3 _ HC10.out (RP.out _ HD10.out).1 (RP.out _ HD10.out).2.1 (RP.out _ HD10.out).2.2.1 (RP.out _ HD10.out).2.2.2).mono ?_);rintro e w11 ⟨rfl,hb11⟩
        have HC11:=Lib.hid (HC10.out.trans (hb11.mono HC10.out.size))
        have RF11:=Lib.hid (RF.out w11 hb11)
        obtain ⟨⟨ca011,ca111,ca211,cb011,cb111,cb211,cp011,cp111,cp211,cp311⟩,cq011,cq111,cq211,cq311,cf011,cf111⟩:=HCE.out w11 HC11.out
        have hh11:=(hb11.block w9.heap.size (by have:=Z10.out;omega)).trans HE10.out
        obtain ⟨u0,u1⟩:w11.cell? ⟨w9.heap.size,0,none⟩=some (.bool c0)∧w11.cell? ⟨w9.heap.size,1,none⟩=some (.slice ZL c1.length ql):=(by simp [World.cell?,hh11])
        clear hb11 hh11)
     | (go_at_call 20;(with_reducible refine (KC2.out ZL ql _ HC11.out RF11.out (by have:=HLL.out;omega)).mono ?_);rintro e w12 ⟨rfl,hb12⟩
        have HC12:=Lib.hid (HC11.out.trans (hb12.mono HC11.out.size))
        clear hb12)
     | (go_at_call 17;(with_reducible refine (joined_any _).mono ?_);rintro e w13 ⟨rfl,hb13⟩
        have HJ:=Lib.hid (HB1.out.trans ((HC12.out.trans (hb13.mono HC12.out.size)).mono HB1.out.size))
        clear hb13))
    go_ret
    exact ⟨rfl,HJ.out⟩)
end Go.Proofs.YtccabpahfmoamaaGreat
end

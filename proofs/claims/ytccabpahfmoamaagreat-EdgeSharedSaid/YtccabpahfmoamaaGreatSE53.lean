/- Contracts that the laws lean on: R3Sh, ShdL. -/
import Derived.Test.YtccabpahfmoamaaGreatSE51
import Derived.Test.YtccabpahfmoamaaGreatSE34
set_option maxRecDepth 100000
set_option maxHeartbeats 8000000
section
namespace Go.Proofs.YtccabpahfmoamaaGreat
open Go.RowKit Go.Proofs Go.Shelf
theorem rLeast_any (pts:Int) (A:Option Addr) (n c:Nat) (bs:List Bound) (a b:Int) (w:World) (hl:Rd encBound 4 w A n c bs) (hk:checkSys pts bs=0) (hs:solvedOk pts bs=true) (a1:0≤a) (a2:a<pts) (b1:0≤b) (b2:b<pts):
 Calls Tryz.prog 111 #[.agg #[.int .i64 pts,.slice A n c],.int .i64 a,.int .i64 b] w fun e w'=>e = .returned (.tuple #[.int .i64 (-(greatestV pts bs b a).1),.bool (greatestV pts bs b a).2.1,.int .i64 (greatestV pts bs b a).2.2])∧Below w.heap.size w w':=by
 have HA:=Lib.hid (fun W (h:Below w.heap.size w W)=>r1asked_ok pts A n c bs a b W (hl.below h (Nat.le_refl _)) hk a1 a2 b1 b2)
 have HG:=Lib.hid (fun W (h:Below w.heap.size w W)=>rGreatest_any pts A n c bs b a W (hl.below h (Nat.le_refl _)) (sysOk_of hk) hk b1 b2 a1 a2)
 have hbd: -100000000≤(greatestV pts bs b a).1∧(greatestV pts bs b a).1≤100000000:=by
  rw [greatestV_ok hs]
  split
  · simp
  · rename_i hne
    have hn:=gr_none (sysOk_of hk) hs b1 b2 a1 a2
    have:=gr_bound (sysOk_of hk) hs b1 b2 a1 a2 (by omega)
    simp only;omega
 have SE:=Lib.hid (sysBox pts A n c w)
 obtain ⟨w1,hw1⟩:∃ w1,w.alloc (.cells #[.int .i64 pts,.slice A n c] 73)=w1:=⟨_,rfl⟩
 have hb1:Below w.heap.size w w1:=(by rw [←hw1];exact (Below.refl _ w).alloc (Nat.le_refl _) _)
 rw [hw1] at SE
 have HB1:=Lib.hid hb1
 have HW1:=Lib.hid hw1
 obtain ⟨s0,s1⟩:=SE.out w1 (Below.refl _ _)
 generalize greatestV pts bs b a=gv at *
 obtain ⟨g1,g2,g3⟩:=gv
 simp only at hbd HG ⊢
 have hw:IntKind.i64.wrap (-g1) = -g1:=(by rw [IntKind.wrap_i64];omega)
 clear hl hk hb1 hw1 hbd hs
 go_enter Tryz.func111,Tryz.ntmps111
 go_wp2_with (first
  | rw [HW1.out]
  | (go_at_call 143;(with_reducible refine (HA.out _ HB1.out).mono ?_);rintro e w2 ⟨rfl,hb2⟩;have HB2:=Lib.hid (HB1.out.trans (hb2.mono HB1.out.size));obtain ⟨s2,s3⟩:=SE.out w2 hb2;clear hb2)
  | (go_at_call 112;(with_reducible refine (HG.out _ HB2.out).mono ?_);rintro e w3 ⟨rfl,hb3⟩;have HB3:=Lib.hid (HB2.out.trans (hb3.mono HB2.out.size));clear hb3))
 go_ret3
 exact ⟨rfl,HB3.out⟩
section
variable {A B:Outl} {p:Pairing}
theorem plc_waysF {xa xb da db:List Int} (h:plcB A B p xa xb da db=true):WaysF A B p (fun i=>gI xa i+0) (fun i=>gI xb i+(-(gI xb p.b.hi+gI xa p.a.lo))):=by
 obtain ⟨h0,r1,r2,r3,r4,hr⟩:=plc_rows h
 have hok:=askedErr_zero.1 h0
 have hk:=hok.k
 refine ⟨gI_shift (rowK_keeps r1) _,gI_shift (rowK_keeps r2) _,fun i h1 h2=> ?_⟩
 have:=hr (p.b.hi-i).toNat (by omega)
 unfold roundB roundW at this
 rw [Bool.and_eq_true,decide_eq_true_eq] at this
 have h3:=this.1
 rw [show (((p.b.hi-i).toNat:Nat):Int)=p.b.hi-i from Int.toNat_of_nonneg (by omega),show p.b.hi-(p.b.hi-i)=i from by omega,show p.a.lo+(p.b.hi-i)=p.a.lo+p.b.hi-i from by omega] at h3
 simp only [sgn,if_true]
 omega
theorem shared_bnd {xa xb da db:List Int} (h:plcB A B p xa xb da db=true):(xa.length:Int)=A.n+1∧(sharedLow A B p≤gI xa p.a.hi-gI xa p.a.lo∧gI xa p.a.hi-gI xa p.a.lo≤sharedHigh A B p)∧∀ i:Int,-100000000≤gI xa i∧gI xa i≤100000000:=by
 obtain ⟨h0,r1,_,_,_,_⟩:=plc_rows h
 have hm:=plc_meets h
 have hok:=askedErr_zero.1 h0
 obtain ⟨m1,m2,m3⟩:=hok.n_ways
 have hs:=meets_solved hm
 have hk:=sysOk_of hok.ways_sys
 obtain ⟨y,hy,he⟩:=hok.ways_mk (plc_waysF h)
 obtain ⟨l1,l2⟩:=rowK_true r1
 have hg:∀ i:Int,-100000000≤gI xa i∧gI xa i≤100000000:=gI_bnd l2
 have e1:=he p.a.hi (by omega) hok.a2
 have e2:=he p.a.lo hok.a0 (by have:=hok.a1;have:=hok.a2;omega)
 simp only [Int.add_zero] at e1 e2
 refine ⟨l1,⟨?_,?_⟩,hg⟩
 · unfold sharedLow
   have b1:=hg p.a.hi
   have b2:=hg p.a.lo
   split
   · omega
   · rename_i hne
     have hn:=gr_none hk hs m2 m1 hok.a0 m3
     have:=gr_up hk hs m2 m1 hok.a0 m3 (by omega) hy
     omega
 · unfold sharedHigh
   have b1:=hg p.a.hi
   have b2:=hg p.a.lo
   split
   · omega
   · rename_i hne
     have hn:=gr_none hk hs hok.a0 m3 m2 m1
     have:=gr_up hk hs hok.a0 m3 m2 m1 (by omega) hy
     omega
end
theorem r3Shared_any (A:Outl) (AwA:Option Addr) (Awn Awc:Nat) (AtA:Option Addr) (Atn Atc:Nat) (B:Outl) (BwA:Option Addr) (Bwn Bwc:Nat) (BtA:Option Addr) (Btn Btc:Nat) (p:Pairing) (w:World) (Aw:Rd encBound 4 w AwA Awn Awc A.ways) (At:Rd encBound 4 w AtA Atn Atc A.turns) (Bw:Rd encBound 4 w BwA Bwn Bwc B.ways) (Bt:Rd encBound 4 w BtA Btn Btc B.turns):
 Calls Tryz.prog 58 #[.agg #[.int .i64 A.n,.slice AwA Awn Awc,.slice AtA Atn Atc],.agg #[.int .i64 B.n,.slice BwA Bwn Bwc,.slice BtA Btn Btc],.agg #[.int .i64 p.a.lo,.int .i64 p.a.hi,.int .i64 p.b.lo,.int .i64 p.b.hi]] w fun e w'=>e = .returned (.tuple #[.int .i64 (sharedV A B p).1,.int .i64 (sharedV A B p).2.1,.int .i64 (sharedV A B p).2.2])∧Below w.heap.size w w':=by
 obtain ⟨w1,hw1,hb1,hz1,hbx⟩:=boxABP w A AwA Awn Awc AtA Atn Atc B BwA Bwn Bwc BtA Btn Btc p
 have KX:=Lib.hid hbx
 have RA:Hid (∀ W,Below w1.heap.size w1 W→Rd encBound 4 W AwA Awn Awc A.ways∧Rd encBound 4 W AtA Atn Atc A.turns∧Rd encBound 4 W BwA Bwn Bwc B.ways∧Rd encBound 4 W BtA Btn Btc B.turns):=(show ∀ W,_→_ from fun W h=>⟨(Aw.below hb1 (Nat.le_refl _)).below h (Nat.le_refl _),(At.below hb1 (Nat.le_refl _)).below h (Nat.le_refl _),(Bw.below hb1 (Nat.le_refl _)).below h (Nat.le_refl _),(Bt.below hb1 (Nat.le_refl _)).below h (Nat.le_refl _)⟩)
 have HB1:=Lib.hid hb1
 have HW1:=Lib.hid hw1
 obtain ⟨xa0,xa1,xa2,xb0,xb1,xb2,xp0,xp1,xp2,xp3⟩:=hbx w1 (Below.refl _ _)
 have KA:=Lib.hid (fun W (h:Below w1.heap.size w1 W)=>r3Asked_any A AwA Awn Awc AtA Atn Atc B BwA Bwn Bwc BtA Btn Btc p W (RA.out W h).1 (RA.out W h).2.1 (RA.out W h).2.2.1 (RA.out W h).2.2.2)
 clear Aw At Bw Bt hb1 hbx hw1
 by_cases h1:askedErr A B p=0
 case neg=>
  have hv:sharedV A B p=(0,0,askedErr A B p):=by unfold sharedV;rw [if_pos h1]
  rw [hv]
  have h1':(askedErr A B p != 0)=true:=by simpa using h1
  clear h1 hv
  generalize askedErr A B p=er at *
  go_enter Tryz.func58,Tryz.ntmps58
  go_wp2_with (first
   | rw [HW1.out]
   | (go_at_call 67;(with_reducible refine (KA.out _ (Below.refl _ _)).mono ?_);rintro e w2 ⟨rfl,hb2⟩
      have HB2:=Lib.hid hb2
      obtain ⟨xa0,xa1,xa2,xb0,xb1,xb2,xp0,xp1,xp2,xp3⟩:=KX.out w2 HB2.out
      clear hb2))
  go_ret3
  exact ⟨rfl,HB1.out.trans (HB2.out.mono HB1.out.size)⟩
 case pos=>
  have hok:=askedErr_zero.1 h1
  have KM:=Lib.hid (fun W (h:Below w1.heap.size w1 W)=>r3meets_any A AwA Awn Awc AtA Atn Atc B BwA Bwn Bwc BtA Btn Btc p W (RA.out W h).1 (RA.out W h).2.1 (RA.out W h).2.2.1 (RA.out W h).2.2.2 hok)
  cases hm:meetsV A B p with
  | false=>
    have hv:sharedV A B p=(0,0,30):=by unfold sharedV;rw [if_neg (by simpa using h1),if_pos hm]
    rw [hv]
    rw [h1] at KA
    rw [hm] at KM
    clear h1 hv hok hm
    go_enter Tryz.func58,Tryz.ntmps58
    go_wp2_with (first
     | rw [HW1.out]
     | (go_at_call 67;(with_reducible refine (KA.out _ (Below.refl _ _)).mono ?_);rintro e w2 ⟨rfl,hb2⟩
        have HB2:=Lib.hid hb2
        obtain ⟨xa0,xa1,xa2,xb0,xb1,xb2,xp0,xp1,xp2,xp3⟩:=KX.out w2 HB2.out
        clear hb2)
     | (go_at_call 101;(with_reducible refine (KM.out _ HB2.out).mono ?_);rintro e w3 ⟨rfl,hb3⟩
        have HB3:=Lib.hid (HB2.out.trans (hb3.mono HB2.out.size))
        obtain ⟨xa0,xa1,xa2,xb0,xb1,xb2,xp0,xp1,xp2,xp3⟩:=KX.out w3 HB3.out
        clear hb3))
    go_ret3
    exact ⟨rfl,HB1.out.trans (HB3.out.mono HB1.out.size)⟩
  | true=>
    have hv:sharedV A B p=(sharedLow A B p,sharedHigh A B p,0):=by unfold sharedV;rw [if_neg (by simpa using h1),if_neg (by rw [hm];simp)]
    rw [hv,shared_low hm,shared_high hm]
    rw [h1] at KA
    rw [hm] at KM
    obtain ⟨n1,n2,n3⟩:=hok.n_ways
    have ha0:=hok.a0
    have hsy:=hok.ways_sys
    have hso:=meets_solved hm
    have KJ:Hid (∀ W,Below w1.heap.size w1 W→Calls Tryz.prog 74 #[.agg #[.int .i64 A.n,.slice AwA Awn Awc,.slice AtA Atn Atc],.agg #[.int .i64 B.n,.slice BwA Bwn Bwc,.slice BtA Btn Btc],.agg #[.int .i64 p.a.lo,.int .i64 p.a.hi,.int .i64 p.b.lo,.int .i64 p.b.hi],.bool false] W fun e w'=> ∃ v,e = .returned v∧Below W.heap.size W w'∧OneSys (waysN A B p) (waysB A B p) v w'):=(show ∀ W,_→_ from fun W h=>joint_sys A AwA Awn Awc AtA Atn Atc B BwA Bwn Bwc BtA Btn Btc p false W (RA.out W h).1 (RA.out W h).2.1 (RA.out W h).2.2.1 (RA.out W h).2.2.2 hok)
    have KL:Hid (∀ W A' k c,Rd encBound 4 W A' k c (waysB A B p)→Calls Tryz.prog 111 #[.agg #[.int .i64 (waysN A B p),.slice A' k c],.int .i64 p.a.lo,.int .i64 p.a.hi] W fun e w'=>e = .returned (.tuple #[.int .i64 (-(greatestV (waysN A B p) (waysB A B p) p.a.hi p.a.lo).1),.bool (greatestV (waysN A B p) (waysB A B p) p.a.hi p.a.lo).2.1,.int .i64 (greatestV (waysN A B p) (waysB A B p) p.a.hi p.a.lo).2.2])∧Below W.heap.size W w'):=(show ∀ W A' k c,_→_ from fun W A' k c hr=>rLeast_any (waysN A B p) A' k c (waysB A B p) p.a.lo p.a.hi W hr hsy hso ha0 n3 n2 n1)
    have KG:Hid (∀ W A' k c,Rd encBound 4 W A' k c (waysB A B p)→Calls Tryz.prog 112 #[.agg #[.int .i64 (waysN A B p),.slice A' k c],.int .i64 p.a.lo,.int .i64 p.a.hi] W fun e w'=>e = .returned (.tuple #[.int .i64 (greatestV (waysN A B p) (waysB A B p) p.a.lo p.a.hi).1,.bool (greatestV (waysN A B p) (waysB A B p) p.a.lo p.a.hi).2.1,.int .i64 (greatestV (waysN A B p) (waysB A B p) p.a.lo p.a.hi).2.2])∧Below W.heap.size W w'):=(show ∀ W A' k c,_→_ from fun W A' k c hr=>rGreatest_any (waysN A B p) A' k c (waysB A B p) p.a.lo p.a.hi W hr (sysOk_of hsy) hsy ha0 n3 n2 n1)
    clear h1 hv hok hm n1 n2 n3 ha0 hsy hso
    generalize greatestV (waysN A B p) (waysB A B p) p.a.hi p.a.lo=gl at *
    generalize greatestV (waysN A B p) (waysB A B p) p.a.lo p.a.hi=gg at *
    generalize waysN A B p=N at *
    generalize waysB A B p=L at *
    obtain ⟨l1,l2,l3⟩:=gl
    obtain ⟨g1,g2,g3⟩:=gg
    simp only at KL KG ⊢
    cases l2<;>cases g2
    all_goals
     go_enter Tryz.func58,Tryz.ntmps58
     go_wp2_with (first
      | rw [HW1.out]
      | (go_at_call 67;(with_reducible refine (KA.out _ (Below.refl _ _)).mono ?_);rintro e w2 ⟨rfl,hb2⟩
         have HB2:=Lib.hid hb2
         obtain ⟨xa0,xa1,xa2,xb0,xb1,xb2,xp0,xp1,xp2,xp3⟩:=KX.out w2 HB2.out
         clear hb2)
      | (go_at_call 101;(with_reducible refine (KM.out _ HB2.out).mono ?_);rintro e w3 ⟨rfl,hb3⟩
         have HB3:=Lib.hid (HB2.out.trans (hb3.mono HB2.out.size))
         obtain ⟨xa0,xa1,xa2,xb0,xb1,xb2,xp0,xp1,xp2,xp3⟩:=KX.out w3 HB3.out
         clear hb3)
      | (go_at_call 74;(with_reducible refine (KJ.out _ HB3.out).mono ?_);rintro e w4 ⟨v4,rfl,hb4,A4,k4,c4,rfl,hr4⟩
         obtain ⟨w5,a5,b5,z5,e5⟩:=alloc_facts w4 #[.int .i64 N,.slice A4 k4 c4] 73
         have HB5:=Lib.hid (HB3.out.trans ((hb4.trans (b5.mono hb4.size)).mono HB3.out.size))
         have HA5:=Lib.hid a5
         have HE5:Hid (∀ W,Below w5.heap.size w5 W→W.cell? ⟨w4.heap.size,0,none⟩=some (.int .i64 N)∧W.cell? ⟨w4.heap.size,1,none⟩=some (.slice A4 k4 c4)):=(show ∀ W,_→_ from fun W hW=>by
          have q:=(hW.block w4.heap.size (by omega)).trans e5
          simp [World.cell?,q])
         have HR5:Hid (∀ W,Below w5.heap.size w5 W→Rd encBound 4 W A4 k4 c4 L):=(show ∀ W,_→_ from fun W hW=>(hr4.below b5 (Nat.le_refl _)).below hW (Nat.le_refl _))
         obtain ⟨y0,y1⟩:=HE5.out w5 (Below.refl _ _)
         obtain ⟨xa0,xa1,xa2,xb0,xb1,xb2,xp0,xp1,xp2,xp3⟩:=KX.out w5 HB5.out
         clear hb4 hr4 a5 b5 z5 e5)
      | rw [HA5.out]
      | (go_at_call 111;(with_reducible refine (KL.out _ _ _ _ (HR5.out _ (Below.refl _ _))).mono ?_);rintro e w6 ⟨rfl,hb6⟩
         have HB6:=Lib.hid (HB5.out.trans (hb6.mono HB5.out.size))
         have HD6:=Lib.hid hb6
         obtain ⟨y06,y16⟩:=HE5.out w6 hb6
         obtain ⟨xa0,xa1,xa2,xb0,xb1,xb2,xp0,xp1,xp2,xp3⟩:=KX.out w6 HB6.out
         clear hb6)
      | (go_at_call 112;(with_reducible refine (KG.out _ _ _ _ (HR5.out _ HD6.out)).mono ?_);rintro e w7 ⟨rfl,hb7⟩
         have HB7:=Lib.hid (HB6.out.trans (hb7.mono HB6.out.size))
         clear hb7))
     go_ret3
     exact ⟨rfl,HB1.out.trans (HB7.out.mono HB1.out.size)⟩
theorem edgeShared_of (A:Outl) (AwA:Option Addr) (Awn Awc:Nat) (AtA:Option Addr) (Atn Atc:Nat) (B:Outl) (BwA:Option Addr) (Bwn Bwc:Nat) (BtA:Option Addr) (Btn Btc:Nat) (p:Pairing) (X0 X1 X2 X3:Option Addr) (n0 k0 n1 k1 n2 k2 n3 k3:Nat) (xa xb da db:List Int) (w:World) (hsz:Awn≤17592186044416∧Atn≤17592186044416∧Bwn≤17592186044416∧Btn≤17592186044416∧n0≤17592186044416∧n1≤17592186044416∧n2≤17592186044416∧n3≤17592186044416) (Aw:InL encBound 4 w AwA Awn Awc A.ways) (At:InL encBound 4 w AtA Atn Atc A.turns) (Bw:InL encBound 4 w BwA Bwn Bwc B.ways) (Bt:InL encBound 4 w BtA Btn Btc B.turns) (Y0:InL encInt 1 w X0 n0 k0 xa) (Y1:InL encInt 1 w X1 n1 k1 xb) (Y2:InL encInt 1 w X2 n2 k2 da) (Y3:InL encInt 1 w X3 n3 k3 db):
 Calls Tryz.prog 14 #[.agg #[.int .i64 A.n,.slice AwA Awn Awc,.slice AtA Atn Atc],.agg #[.int .i64 B.n,.slice BwA Bwn Bwc,.slice BtA Btn Btc],.agg #[.int .i64 p.a.lo,.int .i64 p.a.hi,.int .i64 p.b.lo,.int .i64 p.b.hi],.agg #[.slice X0 n0 k0,.slice X1 n1 k1,.slice X2 n2 k2,.slice X3 n3 k3]] w fun e w'=>e = .returned (.bool true)∧Below w.heap.size w w':=by
 obtain ⟨sz1,sz2,sz3,sz4,sz5,sz6,sz7,sz8⟩:=hsz
 obtain ⟨wa,hwa,hba,hza,hbx⟩:=boxABP w A AwA Awn Awc AtA Atn Atc B BwA Bwn Bwc BtA Btn Btc p
 obtain ⟨w1,hw1,l1,z1,e1⟩:=alloc_facts wa #[.slice X0 n0 k0,.slice X1 n1 k1,.slice X2 n2 k2,.slice X3 n3 k3] 31
 have hb1:=hba.trans (l1.mono hba.size)
 have hz1:w1.heap.size=w.heap.size+1+1+1+1:=(by omega)
 rw [hza] at e1
 have hcx:∀ W,Below w1.heap.size w1 W→BoxABP w.heap.size A AwA Awn Awc AtA Atn Atc B BwA Bwn Bwc BtA Btn Btc p W∧(W.cell? ⟨w.heap.size+1+1+1,0,none⟩=some (.slice X0 n0 k0)∧W.cell? ⟨w.heap.size+1+1+1,1,none⟩=some (.slice X1 n1 k1)∧W.cell? ⟨w.heap.size+1+1+1,2,none⟩=some (.slice X2 n2 k2)∧W.cell? ⟨w.heap.size+1+1+1,3,none⟩=some (.slice X3 n3 k3)):=fun W h=>by
  have hh:=(h.block (w.heap.size+1+1+1) (by omega)).trans e1
  exact ⟨hbx W (l1.trans (h.mono l1.size)),by simp [World.cell?,hh]⟩
 have HWA:=Lib.hid hwa
 have HW1:=Lib.hid hw1
 clear hwa hw1 hba hbx l1 z1 e1
 obtain ⟨w2,a2,b2,z2,e2⟩:=alloc_facts w1 #[.int .i64 A.n,.slice AwA Awn Awc,.slice AtA Atn Atc,.int .i64 B.n,.slice BwA Bwn Bwc,.slice BtA Btn Btc] 24
 rw [hz1] at e2
 have HB1:=Lib.hid hb1
 have HW2:=Lib.hid a2
 have KS:=Lib.hid (small_any (w.heap.size+1+1+1+1) (.int .i64 A.n) (.int .i64 B.n) AwA AtA BwA BtA Awn Awc Atn Atc Bwn Bwc Btn Btc w2 e2)
 have HCE:Hid (∀ W,Below w1.heap.size w1 W→BoxABP w.heap.size A AwA Awn Awc AtA Atn Atc B BwA Bwn Bwc BtA Btn Btc p W∧(W.cell? ⟨w.heap.size+1+1+1,0,none⟩=some (.slice X0 n0 k0)∧W.cell? ⟨w.heap.size+1+1+1,1,none⟩=some (.slice X1 n1 k1)∧W.cell? ⟨w.heap.size+1+1+1,2,none⟩=some (.slice X2 n2 k2)∧W.cell? ⟨w.heap.size+1+1+1,3,none⟩=some (.slice X3 n3 k3))):=(show ∀ W,_→_ from hcx)
 obtain ⟨⟨xa0,xa1,xa2,xb0,xb1,xb2,xp0,xp1,xp2,xp3⟩,xq0,xq1,xq2,xq3⟩:=hcx w1 (Below.refl _ _)
 have HB2':=Lib.hid b2
 have v1:IntKind.i64.wrap ((n0:Int)+n1)=n0+n1:=(by rw [IntKind.wrap_i64];omega)
 have v2:IntKind.i64.wrap ((n0:Int)+n1+n2)=n0+n1+n2:=(by rw [IntKind.wrap_i64];omega)
 have v3:IntKind.i64.wrap ((n0:Int)+n1+n2+n3)=n0+n1+n2+n3:=(by rw [IntKind.wrap_i64];omega)
 by_cases hsm:smallN Awn Atn Bwn Btn=true
 case neg=>
  have hsf:smallN Awn Atn Bwn Btn=false:=by simpa using hsm
  rw [hsf] at KS
  clear Aw At Bw Bt Y0 Y1 Y2 Y3 hsm hsf hb1 a2 b2 z2 e2 hcx HCE
  go_enter Tryz.func14,Tryz.ntmps14
  go_wp2_with (first
   | rw [HWA.out]
   | rw [HW1.out]
   | rw [HW2.out]
   | (go_at_call 25;(with_reducible refine KS.out.mono ?_);rintro e w3 ⟨rfl,hb3⟩
      have HC3:=Lib.hid (HB2'.out.trans (hb3.mono HB2'.out.size))
      clear hb3)
   | (go_at_call 17;(with_reducible refine (joined_any _).mono ?_);rintro e w4 ⟨rfl,hb4⟩
      have HJ:=Lib.hid (HB1.out.trans ((HC3.out.trans (hb4.mono HC3.out.size)).mono HB1.out.size))
      clear hb4))
  go_ret
  exact ⟨rfl,HJ.out⟩
 case pos=>
 by_cases hxl:100<n0+n1+n2+n3
 case pos=>
  have hxi:(100:Int)<(n0:Int)+n1+n2+n3:=(by omega)
  rw [hsm] at KS
  clear Aw At Bw Bt Y0 Y1 Y2 Y3 hsm hb1 a2 b2 z2 e2 hcx
  go_enter Tryz.func14,Tryz.ntmps14
  go_wp2_with (first
   | rw [HWA.out]
   | rw [HW1.out]
   | rw [HW2.out]
   | (go_at_call 25;(with_reducible refine KS.out.mono ?_);rintro e w3 ⟨rfl,hb3⟩
      have HC3:=Lib.hid (HB2'.out.trans (hb3.mono HB2'.out.size))
      obtain ⟨⟨ca03,ca13,ca23,cb03,cb13,cb23,cp03,cp13,cp23,cp33⟩,cq03,cq13,cq23,cq33⟩:=HCE.out w3 HC3.out
      clear hb3)
   | (go_at_call 17;(with_reducible refine (joined_any _).mono ?_);rintro e w4 ⟨rfl,hb4⟩
      have HJ:=Lib.hid (HB1.out.trans ((HC3.out.trans (hb4.mono HC3.out.size)).mono HB1.out.size))
      clear hb4))
  go_ret
  exact ⟨rfl,HJ.out⟩
 case neg=>
  have hxi:¬(100:Int)<(n0:Int)+n1+n2+n3:=(by omega)
  obtain ⟨s1,s2,s3,s4⟩:=smallN_iff.1 hsm
  rw [hsm] at KS
  have ra:=Aw.2 (by omega);have rt:=At.2 (by omega);have rb:=Bw.2 (by omega);have ru:=Bt.2 (by omega)
  have y0:=Y0.2 (by omega);have y1:=Y1.2 (by omega);have y2:=Y2.2 (by omega);have y3:=Y3.2 (by omega)
  have RD:Hid (∀ W,Below w1.heap.size w1 W→Rd encBound 4 W AwA Awn Awc A.ways∧Rd encBound 4 W AtA Atn Atc A.turns∧Rd encBound 4 W BwA Bwn Bwc B.ways∧Rd encBound 4 W BtA Btn Btc B.turns):=(show ∀ W,_→_ from fun W h=>⟨(ra.below hb1 (Nat.le_refl _)).below h (Nat.le_refl _),(rt.below hb1 (Nat.le_refl _)).below h (Nat.le_refl _),(rb.below hb1 (Nat.le_refl _)).below h (Nat.le_refl _),(ru.below hb1 (Nat.le_refl _)).below h (Nat.le_refl _)⟩)
  have RX:Hid (∀ W,Below w1.heap.size w1 W→Rd encInt 1 W X0 n0 k0 xa∧Rd encInt 1 W X1 n1 k1 xb∧Rd encInt 1 W X2 n2 k2 da∧Rd encInt 1 W X3 n3 k3 db):=(show ∀ W,_→_ from fun W h=>⟨(y0.below hb1 (Nat.le_refl _)).below h (Nat.le_refl _),(y1.below hb1 (Nat.le_refl _)).below h (Nat.le_refl _),(y2.below hb1 (Nat.le_refl _)).below h (Nat.le_refl _),(y3.below hb1 (Nat.le_refl _)).below h (Nat.le_refl _)⟩)
  have KH:Hid (∀ W,Below w1.heap.size w1 W→Calls Tryz.prog 27 #[.agg #[.int .i64 A.n,.slice AwA Awn Awc,.slice AtA Atn Atc],.agg #[.int .i64 B.n,.slice BwA Bwn Bwc,.slice BtA Btn Btc],.agg #[.int .i64 p.a.lo,.int .i64 p.a.hi,.int .i64 p.b.lo,.int .i64 p.b.hi]] W fun e w'=>e = .returned (.tuple #[.int .i64 (sharedV A B p).1,.int .i64 (sharedV A B p).2.1,.int .i64 (sharedV A B p).2.2])∧Below W.heap.size W w'):=(show ∀ W,_→_ from fun W hW=>Shared_any A AwA Awn Awc AtA Atn Atc B BwA Bwn Bwc BtA Btn Btc p W (RD.out W hW).1 (RD.out W hW).2.1 (RD.out W hW).2.2.1 (RD.out W hW).2.2.2)
  have KI:Hid (∀ W,Below w1.heap.size w1 W→Calls Tryz.prog 58 #[.agg #[.int .i64 A.n,.slice AwA Awn Awc,.slice AtA Atn Atc],.agg #[.int .i64 B.n,.slice BwA Bwn Bwc,.slice BtA Btn Btc],.agg #[.int .i64 p.a.lo,.int .i64 p.a.hi,.int .i64 p.b.lo,.int .i64 p.b.hi]] W fun e w'=>e = .returned (.tuple #[.int .i64 (sharedV A B p).1,.int .i64 (sharedV A B p).2.1,.int .i64 (sharedV A B p).2.2])∧Below W.heap.size W w'):=(show ∀ W,_→_ from fun W hW=>r3Shared_any A AwA Awn Awc AtA Atn Atc B BwA Bwn Bwc BtA Btn Btc p W (RD.out W hW).1 (RD.out W hW).2.1 (RD.out W hW).2.2.1 (RD.out W hW).2.2.2)
  have KP:Hid (∀ W,Below w1.heap.size w1 W→Calls Tryz.prog 18 #[.agg #[.int .i64 A.n,.slice AwA Awn Awc,.slice AtA Atn Atc],.agg #[.int .i64 B.n,.slice BwA Bwn Bwc,.slice BtA Btn Btc],.agg #[.int .i64 p.a.lo,.int .i64 p.a.hi,.int .i64 p.b.lo,.int .i64 p.b.hi],.agg #[.slice X0 n0 k0,.slice X1 n1 k1,.slice X2 n2 k2,.slice X3 n3 k3]] W fun e w'=>e = .returned (.tuple #[.bool (plcB A B p xa xb da db),.int .i64 (askedErr A B p)])∧Below W.heap.size W w'):=(show ∀ W,_→_ from fun W hW=>CheckPlace_any A AwA Awn Awc AtA Atn Atc B BwA Bwn Bwc BtA Btn Btc p X0 X1 X2 X3 n0 k0 n1 k1 n2 k2 n3 k3 xa xb da db W (RD.out W hW).1 (RD.out W hW).2.1 (RD.out W hW).2.2.1 (RD.out W hW).2.2.2 (RX.out W hW).1 (RX.out W hW).2.1 (RX.out W hW).2.2.1 (RX.out W hW).2.2.2)
  have KPL:Hid (∀ W,Below w1.heap.size w1 W→Calls Tryz.prog 54 #[.agg #[.int .i64 A.n,.slice AwA Awn Awc,.slice AtA Atn Atc],.agg #[.int .i64 B.n,.slice BwA Bwn Bwc,.slice BtA Btn Btc],.agg #[.int .i64 p.a.lo,.int .i64 p.a.hi,.int .i64 p.b.lo,.int .i64 p.b.hi]] W fun e w'=> ∃ u,e = .returned (.tuple #[u,.bool (decide (askedErr A B p=0)&&meetsV A B p),.int .i64 (askedErr A B p)])∧Below W.heap.size W w'∧PlcR W.heap.size (placeV A B p) u w'):=(show ∀ W,_→_ from fun W hW=>Place_any A AwA Awn Awc AtA Atn Atc B BwA Bwn Bwc BtA Btn Btc p W (RD.out W hW).1 (RD.out W hW).2.1 (RD.out W hW).2.2.1 (RD.out W hW).2.2.2)
  have HX0:Hid (∀ W,Below w1.heap.size w1 W→Rd encInt 1 W X0 n0 k0 xa):=(show ∀ W,_→_ from fun W h=>(RX.out W h).1)
  have hx0l:xa.length=n0:=Y0.1
  clear Aw At Bw Bt Y0 Y1 Y2 Y3 hsm hb1 a2 b2 z2 e2 hcx ra rt rb ru y0 y1 y2 y3 RD RX
  by_cases h0:askedErr A B p=0
  case neg=>
   have hn0:(askedErr A B p==0)=false:=by simpa using h0
   have hv:sharedV A B p=(0,0,askedErr A B p):=by unfold sharedV;rw [if_pos h0]
   have hee:(askedErr A B p != askedErr A B p)=false:=(by simp)
   have hM:(decide (askedErr A B p=0)&&meetsV A B p)=false:=by rw [decide_eq_false h0];rfl
   have hP:plcB A B p xa xb da db=false:=by unfold plcB;rw [decide_eq_false h0];rfl
   have hlp:(placeV A B p).1.length≤100∧(placeV A B p).2.1.length≤100∧(placeV A B p).2.2.1.length≤100∧(placeV A B p).2.2.2.length≤100:=by
    unfold placeV
    rw [if_neg (fun h=>h0 h.1)]
    simp
   have HLP:=Lib.hid hlp
   rw [hv] at KH KI
   rw [hM] at KPL
   rw [hP] at KP
   clear HX0 hM hP hv h0 hlp
   generalize askedErr A B p=er at *
   generalize placeV A B p=pl at *
   obtain ⟨p0,p1,p2,p3⟩:=pl
   simp only at HLP
   go_enter Tryz.func14,Tryz.ntmps14
   go_wp2_with (first
    | rw [HWA.out]
    | rw [HW1.out]
    | rw [HW2.out]
    | (go_at_call 25;(with_reducible refine KS.out.mono ?_);rintro e w3 ⟨rfl,hb3⟩
       have HC3:=Lib.hid (HB2'.out.trans (hb3.mono HB2'.out.size))
       obtain ⟨⟨ca03,ca13,ca23,cb03,cb13,cb23,cp03,cp13,cp23,cp33⟩,cq03,cq13,cq23,cq33⟩:=HCE.out w3 HC3.out
       clear hb3)
    | (go_at_call 27;(with_reducible refine (KH.out _ HC3.out).mono ?_);rintro e w4 ⟨rfl,hb4⟩
       have HC4:=Lib.hid (HC3.out.trans (hb4.mono HC3.out.size))
       obtain ⟨⟨ca04,ca14,ca24,cb04,cb14,cb24,cp04,cp14,cp24,cp34⟩,cq04,cq14,cq24,cq34⟩:=HCE.out w4 HC4.out
       clear hb4)
    | (go_at_call 58;(with_reducible refine (KI.out _ HC4.out).mono ?_);rintro e w5 ⟨rfl,hb5⟩
       have HC5:=Lib.hid (HC4.out.trans (hb5.mono HC4.out.size))
       obtain ⟨⟨ca05,ca15,ca25,cb05,cb15,cb25,cp05,cp15,cp25,cp35⟩,cq05,cq15,cq25,cq35⟩:=HCE.out w5 HC5.out
       clear hb5)
    | (go_at_call 54;(with_reducible refine (KPL.out _ HC5.out).mono ?_);rintro e w6 ⟨u,rfl,hb6,Z0,q0',Z1,q1',Z2,q2',Z3,q3',hu,o0,o1,o2,o3⟩
       simp only at hu o0 o1 o2 o3
       subst hu
       obtain ⟨w7,a7,b7,z7,e7⟩:=alloc_facts w6 #[.slice Z0 p0.length q0',.slice Z1 p1.length q1',.slice Z2 p2.length q2',.slice Z3 p3.length q3'] 31
       have HC7:=Lib.hid (HC5.out.trans ((hb6.trans (b7.mono hb6.size)).mono HC5.out.size))
       have HA7:=Lib.hid a7
       obtain ⟨⟨ca07,ca17,ca27,cb07,cb17,cb27,cp07,cp17,cp27,cp37⟩,cq07,cq17,cq27,cq37⟩:=HCE.out w7 HC7.out
       clear hb6 a7 b7 z7 e7 o0 o1 o2 o3)
    | rw [HA7.out]
    | (go_quiet (fail))
    | (go_at_call 18;(with_reducible refine (KP.out _ (by first|exact HC7.out|exact HC7.out.drew|exact below_drewN' HC7.out _)).mono ?_);rintro e w8 ⟨rfl,hb8⟩
       have HC8:=Lib.hid ((show Below w1.heap.size w1 _ from by first|exact HC7.out|exact HC7.out.drew|exact below_drewN' HC7.out _).trans (hb8.mono HC7.out.size))
       obtain ⟨⟨ca08,ca18,ca28,cb08,cb18,cb28,cp08,cp18,cp28,cp38⟩,cq08,cq18,cq28,cq38⟩:=HCE.out w8 HC8.out
       clear hb8)
    | (go_at_call 17;(with_reducible refine (joined_any _).mono ?_);rintro e wj ⟨rfl,hbj⟩
       have HJ:=Lib.hid (HB1.out.trans (((show Below w1.heap.size w1 _ from by first|exact HC8.out|exact HC8.out.drew|exact below_drewN' HC8.out _).trans (hbj.mono HC8.out.size)).mono HB1.out.size))
       clear hbj))
   go_ret
   exact ⟨rfl,HJ.out⟩
  case pos=>
   have hok:=askedErr_zero.1 h0
   have hlp:=placeV_len hok
   have hdec:(decide ((0:Int)=0))=true:=rfl
   cases hm:meetsV A B p with
   | false=>
     have hv:sharedV A B p=(0,0,30):=by unfold sharedV;rw [if_neg (by simpa using h0),if_pos hm]
     have hP:plcB A B p xa xb da db=false:=by
      rw [←Bool.not_eq_true]
      intro hh
      rw [plc_meets hh] at hm
      cases hm
     have HLP:=Lib.hid hlp
     rw [hv] at KH KI
     rw [h0,hm,Bool.and_false] at KPL
     rw [hP,h0] at KP
     clear HX0 hP hv h0 hlp hok hdec hm
     generalize placeV A B p=pl at *
     obtain ⟨p0,p1,p2,p3⟩:=pl
     simp only at HLP
     go_enter Tryz.func14,Tryz.ntmps14
     go_wp2_with (first
      | rw [HWA.out]
      | rw [HW1.out]
      | rw [HW2.out]
      | (go_at_call 25;(with_reducible refine KS.out.mono ?_);rintro e w3 ⟨rfl,hb3⟩
         have HC3:=Lib.hid (HB2'.out.trans (hb3.mono HB2'.out.size))
         obtain ⟨⟨ca03,ca13,ca23,cb03,cb13,cb23,cp03,cp13,cp23,cp33⟩,cq03,cq13,cq23,cq33⟩:=HCE.out w3 HC3.out
         clear hb3)
      | (go_at_call 27;(with_reducible refine (KH.out _ HC3.out).mono ?_);rintro e w4 ⟨rfl,hb4⟩
         have HC4:=Lib.hid (HC3.out.trans (hb4.mono HC3.out.size))
         obtain ⟨⟨ca04,ca14,ca24,cb04,cb14,cb24,cp04,cp14,cp24,cp34⟩,cq04,cq14,cq24,cq34⟩:=HCE.out w4 HC4.out
         clear hb4)
      | (go_at_call 58;(with_reducible refine (KI.out _ HC4.out).mono ?_);rintro e w5 ⟨rfl,hb5⟩
         have HC5:=Lib.hid (HC4.out.trans (hb5.mono HC4.out.size))
         obtain ⟨⟨ca05,ca15,ca25,cb05,cb15,cb25,cp05,cp15,cp25,cp35⟩,cq05,cq15,cq25,cq35⟩:=HCE.out w5 HC5.out
         clear hb5)
      | (go_at_call 54;(with_reducible refine (KPL.out _ HC5.out).mono ?_);rintro e w6 ⟨u,rfl,hb6,Z0,q0',Z1,q1',Z2,q2',Z3,q3',hu,o0,o1,o2,o3⟩
         simp only at hu o0 o1 o2 o3
         subst hu
         obtain ⟨w7,a7,b7,z7,e7⟩:=alloc_facts w6 #[.slice Z0 p0.length q0',.slice Z1 p1.length q1',.slice Z2 p2.length q2',.slice Z3 p3.length q3'] 31
         have HC7:=Lib.hid (HC5.out.trans ((hb6.trans (b7.mono hb6.size)).mono HC5.out.size))
         have HA7:=Lib.hid a7
         obtain ⟨⟨ca07,ca17,ca27,cb07,cb17,cb27,cp07,cp17,cp27,cp37⟩,cq07,cq17,cq27,cq37⟩:=HCE.out w7 HC7.out
         clear hb6 a7 b7 z7 e7 o0 o1 o2 o3)
      | rw [HA7.out]
      | (go_quiet (fail))
      | (go_at_call 18;(with_reducible refine (KP.out _ (by first|exact HC7.out|exact HC7.out.drew|exact below_drewN' HC7.out _)).mono ?_);rintro e w8 ⟨rfl,hb8⟩
         have HC8:=Lib.hid ((show Below w1.heap.size w1 _ from by first|exact HC7.out|exact HC7.out.drew|exact below_drewN' HC7.out _).trans (hb8.mono HC7.out.size))
         obtain ⟨⟨ca08,ca18,ca28,cb08,cb18,cb28,cp08,cp18,cp28,cp38⟩,cq08,cq18,cq28,cq38⟩:=HCE.out w8 HC8.out
         clear hb8)
      | (go_at_call 17;(with_reducible refine (joined_any _).mono ?_);rintro e wj ⟨rfl,hbj⟩
         have HJ:=Lib.hid (HB1.out.trans (((show Below w1.heap.size w1 _ from by first|exact HC8.out|exact HC8.out.drew|exact below_drewN' HC8.out _).trans (hbj.mono HC8.out.size)).mono HB1.out.size))
         clear hbj))
     go_ret
     exact ⟨rfl,HJ.out⟩
   | true=>
     have hv:sharedV A B p=(sharedLow A B p,sharedHigh A B p,0):=by unfold sharedV;rw [if_neg (by simpa using h0),if_neg (by rw [hm];simp)]
     have hpl:=place_law hok
     rw [hm] at hpl
     obtain ⟨gl,⟨gb1,gb2⟩,gn⟩:=shared_bnd hpl
     have HXB:=Lib.hid (fun h=>shared_bnd (A:=A) (B:=B) (p:=p) (xa:=xa) (xb:=xb) (da:=da) (db:=db) h)
     obtain ⟨cn1,cn2,_,_⟩:=checkOut_zero.1 hok.a
     have ha0:=hok.a0;have ha1:=hok.a1;have ha2:=hok.a2
     have HLP:=Lib.hid hlp
     rw [hv] at KH KI
     rw [h0,hm,hdec,Bool.and_self] at KPL
     rw [h0] at KP
     clear hv h0 hlp hok hdec hm hpl
     generalize placeV A B p=pl at *
     obtain ⟨p0,p1,p2,p3⟩:=pl
     generalize sharedLow A B p=low at *
     generalize sharedHigh A B p=high at *
     simp only at HLP gl gb1 gb2 gn
     have u1:=gn p.a.hi
     have u2:=gn p.a.lo
     obtain ⟨c1,hc1⟩:∃ c,gI p0 p.a.hi=c:=⟨_,rfl⟩
     obtain ⟨c2,hc2⟩:∃ c,gI p0 p.a.lo=c:=⟨_,rfl⟩
     rw [hc1,hc2] at gb1 gb2
     rw [hc1] at u1
     rw [hc2] at u2
     have HG1:=Lib.hid hc1
     have HG2:=Lib.hid hc2
     have q1:(low != low)=false:=(by simp)
     have q2:(high != high)=false:=(by simp)
     have wn:IntKind.i64.wrap (A.n+1)=A.n+1:=(by rw [IntKind.wrap_i64];omega)
     have wc:IntKind.i64.wrap (c1-c2)=c1-c2:=(by rw [IntKind.wrap_i64];omega)
     have q3:((p0.length:Int) != A.n+1)=false:=(by simp;omega)
     have q4:decide (c1-c2<low)=false:=decide_eq_false (by omega)
     have q5:decide (c1-c2>high)=false:=decide_eq_false (by omega)
     have i1:0≤p.a.hi:=(by omega)
     have i2:p.a.hi<(p0.length:Int):=(by omega)
     have i3:p.a.lo<(p0.length:Int):=(by omega)
     clear gn hc1 hc2 u1 u2 gb1 gb2
     cases hpv:plcB A B p xa xb da db with
     | false=>
       rw [hpv] at KP
       clear HX0 HXB hpv
       go_enter Tryz.func14,Tryz.ntmps14
       go_upto_region 8 with (first
        | rw [HWA.out]
        | rw [HW1.out]
        | rw [HW2.out]
        | (go_at_call 25;(with_reducible refine KS.out.mono ?_);rintro e w3 ⟨rfl,hb3⟩
           have HC3:=Lib.hid (HB2'.out.trans (hb3.mono HB2'.out.size))
           obtain ⟨⟨ca03,ca13,ca23,cb03,cb13,cb23,cp03,cp13,cp23,cp33⟩,cq03,cq13,cq23,cq33⟩:=HCE.out w3 HC3.out
           clear hb3)
        | (go_at_call 27;(with_reducible refine (KH.out _ HC3.out).mono ?_);rintro e w4 ⟨rfl,hb4⟩
           have HC4:=Lib.hid (HC3.out.trans (hb4.mono HC3.out.size))
           obtain ⟨⟨ca04,ca14,ca24,cb04,cb14,cb24,cp04,cp14,cp24,cp34⟩,cq04,cq14,cq24,cq34⟩:=HCE.out w4 HC4.out
           clear hb4)
        | (go_at_call 58;(with_reducible refine (KI.out _ HC4.out).mono ?_);rintro e w5 ⟨rfl,hb5⟩
           have HC5:=Lib.hid (HC4.out.trans (hb5.mono HC4.out.size))
           obtain ⟨⟨ca05,ca15,ca25,cb05,cb15,cb25,cp05,cp15,cp25,cp35⟩,cq05,cq15,cq25,cq35⟩:=HCE.out w5 HC5.out
           clear hb5)
        | (go_at_call 54;(with_reducible refine (KPL.out _ HC5.out).mono ?_);rintro e w6 ⟨u,rfl,hb6,Z0,q0',Z1,q1',Z2,q2',Z3,q3',hu,o0,o1,o2,o3⟩
           simp only at hu o0 o1 o2 o3
           subst hu
           obtain ⟨w7,a7,b7,z7,e7⟩:=alloc_facts w6 #[.slice Z0 p0.length q0',.slice Z1 p1.length q1',.slice Z2 p2.length q2',.slice Z3 p3.length q3'] 31
           have HC7:=Lib.hid (HC5.out.trans ((hb6.trans (b7.mono hb6.size)).mono HC5.out.size))
           have HA7:=Lib.hid a7
           have HR7:Hid (Rd encInt 1 w7 Z0 p0.length q0' p0):=(show Rd _ _ _ _ _ _ _ from (o0.below b7 (Nat.le_refl _)).rd (fun _=>rfl) (by have:=HLP.out.1;omega))
           obtain ⟨r0,r1,r2,r3⟩:w7.cell? ⟨w6.heap.size,0,none⟩=some (.slice Z0 p0.length q0')∧w7.cell? ⟨w6.heap.size,1,none⟩=some (.slice Z1 p1.length q1')∧w7.cell? ⟨w6.heap.size,2,none⟩=some (.slice Z2 p2.length q2')∧w7.cell? ⟨w6.heap.size,3,none⟩=some (.slice Z3 p3.length q3'):=(by simp [World.cell?,e7])
           have hz67:w6.heap.size<w7.heap.size:=(by omega)
           obtain ⟨⟨ca07,ca17,ca27,cb07,cb17,cb27,cp07,cp17,cp27,cp37⟩,cq07,cq17,cq27,cq37⟩:=HCE.out w7 HC7.out
           clear hb6 a7 b7 z7 e7 o0 o1 o2 o3)
        | rw [HA7.out])
       obtain ⟨t0,o0,hZ,ht0,hj0⟩:=HR7.out.gI (show 0<p0.length by omega)
       subst hZ
       have g1:=hj0 p.a.hi i1 i2
       have g2:=hj0 p.a.lo ha0 i3
       rw [HG1.out] at g1
       rw [HG2.out] at g2
       clear hj0
       go_quiet (fail)
       go_wp2_with (first
        | (go_at_call 18;(with_reducible refine (KP.out _ (by first|exact HC7.out|exact HC7.out.drew|exact below_drewN' HC7.out _)).mono ?_);rintro e w8 ⟨rfl,hb8⟩
           have HC8:=Lib.hid ((show Below w1.heap.size w1 _ from by first|exact HC7.out|exact HC7.out.drew|exact below_drewN' HC7.out _).trans (hb8.mono HC7.out.size))
           obtain ⟨⟨ca08,ca18,ca28,cb08,cb18,cb28,cp08,cp18,cp28,cp38⟩,cq08,cq18,cq28,cq38⟩:=HCE.out w8 HC8.out
           clear hb8)
        | (go_quiet (fail))
        | (go_at_call 17;(with_reducible refine (joined_any _).mono ?_);rintro e wj ⟨rfl,hbj⟩
           have HJ:=Lib.hid (HB1.out.trans (((show Below w1.heap.size w1 _ from by first|exact HC8.out|exact HC8.out.drew|exact below_drewN' HC8.out _).trans (hbj.mono HC8.out.size)).mono HB1.out.size))
           clear hbj))
       go_ret
       exact ⟨rfl,HJ.out⟩
     | true=>
       rw [hpv] at KP
       obtain ⟨fl,⟨fb1,fb2⟩,fn⟩:=HXB.out hpv
       rw [hx0l] at fl
       have u1:=fn p.a.hi
       have u2:=fn p.a.lo
       obtain ⟨d1,hd1⟩:∃ c,gI xa p.a.hi=c:=⟨_,rfl⟩
       obtain ⟨d2,hd2⟩:∃ c,gI xa p.a.lo=c:=⟨_,rfl⟩
       rw [hd1,hd2] at fb1 fb2
       rw [hd1] at u1
       rw [hd2] at u2
       have HG3:=Lib.hid hd1
       have HG4:=Lib.hid hd2
       have wd:IntKind.i64.wrap (d1-d2)=d1-d2:=(by rw [IntKind.wrap_i64];omega)
       have q6:((n0:Int) != A.n+1)=false:=(by simp;omega)
       have q7:decide (d1-d2<low)=false:=decide_eq_false (by omega)
       have q8:decide (d1-d2>high)=false:=decide_eq_false (by omega)
       have i5:p.a.hi<(n0:Int):=(by omega)
       have i6:p.a.lo<(n0:Int):=(by omega)
       clear HXB hpv fn hd1 hd2 u1 u2 fb1 fb2
       go_enter Tryz.func14,Tryz.ntmps14
       go_upto_region 8 with (first
        | rw [HWA.out]
        | rw [HW1.out]
        | rw [HW2.out]
        | (go_at_call 25;(with_reducible refine KS.out.mono ?_);rintro e w3 ⟨rfl,hb3⟩
           have HC3:=Lib.hid (HB2'.out.trans (hb3.mono HB2'.out.size))
           obtain ⟨⟨ca03,ca13,ca23,cb03,cb13,cb23,cp03,cp13,cp23,cp33⟩,cq03,cq13,cq23,cq33⟩:=HCE.out w3 HC3.out
           clear hb3)
        | (go_at_call 27;(with_reducible refine (KH.out _ HC3.out).mono ?_);rintro e w4 ⟨rfl,hb4⟩
           have HC4:=Lib.hid (HC3.out.trans (hb4.mono HC3.out.size))
           obtain ⟨⟨ca04,ca14,ca24,cb04,cb14,cb24,cp04,cp14,cp24,cp34⟩,cq04,cq14,cq24,cq34⟩:=HCE.out w4 HC4.out
           clear hb4)
        | (go_at_call 58;(with_reducible refine (KI.out _ HC4.out).mono ?_);rintro e w5 ⟨rfl,hb5⟩
           have HC5:=Lib.hid (HC4.out.trans (hb5.mono HC4.out.size))
           obtain ⟨⟨ca05,ca15,ca25,cb05,cb15,cb25,cp05,cp15,cp25,cp35⟩,cq05,cq15,cq25,cq35⟩:=HCE.out w5 HC5.out
           clear hb5)
        | (go_at_call 54;(with_reducible refine (KPL.out _ HC5.out).mono ?_);rintro e w6 ⟨u,rfl,hb6,Z0,q0',Z1,q1',Z2,q2',Z3,q3',hu,o0,o1,o2,o3⟩
           simp only at hu o0 o1 o2 o3
           subst hu
           obtain ⟨w7,a7,b7,z7,e7⟩:=alloc_facts w6 #[.slice Z0 p0.length q0',.slice Z1 p1.length q1',.slice Z2 p2.length q2',.slice Z3 p3.length q3'] 31
           have HC7:=Lib.hid (HC5.out.trans ((hb6.trans (b7.mono hb6.size)).mono HC5.out.size))
           have HA7:=Lib.hid a7
           have HR7:Hid (Rd encInt 1 w7 Z0 p0.length q0' p0):=(show Rd _ _ _ _ _ _ _ from (o0.below b7 (Nat.le_refl _)).rd (fun _=>rfl) (by have:=HLP.out.1;omega))
           obtain ⟨r0,r1,r2,r3⟩:w7.cell? ⟨w6.heap.size,0,none⟩=some (.slice Z0 p0.length q0')∧w7.cell? ⟨w6.heap.size,1,none⟩=some (.slice Z1 p1.length q1')∧w7.cell? ⟨w6.heap.size,2,none⟩=some (.slice Z2 p2.length q2')∧w7.cell? ⟨w6.heap.size,3,none⟩=some (.slice Z3 p3.length q3'):=(by simp [World.cell?,e7])
           have hz67:w6.heap.size<w7.heap.size:=(by omega)
           obtain ⟨⟨ca07,ca17,ca27,cb07,cb17,cb27,cp07,cp17,cp27,cp37⟩,cq07,cq17,cq27,cq37⟩:=HCE.out w7 HC7.out
           clear hb6 a7 b7 z7 e7 o0 o1 o2 o3)
        | rw [HA7.out])
       obtain ⟨t0,o0,hZ,ht0,hj0⟩:=HR7.out.gI (show 0<p0.length by omega)
       subst hZ
       have g1:=hj0 p.a.hi i1 i2
       have g2:=hj0 p.a.lo ha0 i3
       rw [HG1.out] at g1
       rw [HG2.out] at g2
       clear hj0
       go_quiet (fail)
       go_upto_region 11 with (first
        | (go_at_call 18;(with_reducible refine (KP.out _ (by first|exact HC7.out|exact HC7.out.drew|exact below_drewN' HC7.out _)).mono ?_);rintro e w8 ⟨rfl,hb8⟩
           have HC8:=Lib.hid ((show Below w1.heap.size w1 _ from by first|exact HC7.out|exact HC7.out.drew|exact below_drewN' HC7.out _).trans (hb8.mono HC7.out.size))
           obtain ⟨⟨ca08,ca18,ca28,cb08,cb18,cb28,cp08,cp18,cp28,cp38⟩,cq08,cq18,cq28,cq38⟩:=HCE.out w8 HC8.out
           clear hb8))
       obtain ⟨t1,o1,hX,ht1,hj1⟩:=(HX0.out w8 HC8.out).gI (show 0<n0 by omega)
       subst hX
       have g3:=hj1 p.a.hi i1 i5
       have g4:=hj1 p.a.lo ha0 i6
       rw [HG3.out] at g3
       rw [HG4.out] at g4
       clear hj1
       go_wp2_with (first
        | (go_quiet (fail))
        | (go_at_call 17;(with_reducible refine (joined_any _).mono ?_);rintro e wj ⟨rfl,hbj⟩
           have HJ:=Lib.hid (HB1.out.trans (((show Below w1.heap.size w1 _ from by first|exact HC8.out|exact HC8.out.drew|exact below_drewN' HC8.out _).trans (hbj.mono HC8.out.size)).mono HB1.out.size))
           clear hbj))
       go_ret
       exact ⟨rfl,HJ.out⟩
end Go.Proofs.YtccabpahfmoamaaGreat
end

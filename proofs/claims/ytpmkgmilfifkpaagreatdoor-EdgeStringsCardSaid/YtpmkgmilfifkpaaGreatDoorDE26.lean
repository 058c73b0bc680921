/- Contracts that the laws lean on: Cpl, JoW. -/
import Derived.Test.YtpmkgmilfifkpaaGreatDoorDE25
import Derived.Test.YtpmkgmilfifkpaaGreatDoorDE24
set_option maxRecDepth 100000
set_option maxHeartbeats 8000000
section
namespace Go.Proofs.YtpmkgmilfifkpaaGreatDoor
open Go.RowKit Go.Proofs Go.Shelf
theorem CheckPlace_any (A:Outl) (AwA:Option Addr) (Awn Awc:Nat) (AtA:Option Addr) (Atn Atc:Nat) (B:Outl) (BwA:Option Addr) (Bwn Bwc:Nat) (BtA:Option Addr) (Btn Btc:Nat) (p:Pairing) (X0 X1 X2 X3:Option Addr) (n0 k0 n1 k1 n2 k2 n3 k3:Nat) (xa xb da db:List Int) (w:World) (Aw:Rd encBound 4 w AwA Awn Awc A.ways) (At:Rd encBound 4 w AtA Atn Atc A.turns) (Bw:Rd encBound 4 w BwA Bwn Bwc B.ways) (Bt:Rd encBound 4 w BtA Btn Btc B.turns) (h0:Rd encInt 1 w X0 n0 k0 xa) (h1:Rd encInt 1 w X1 n1 k1 xb) (h2:Rd encInt 1 w X2 n2 k2 da) (h3:Rd encInt 1 w X3 n3 k3 db):
 Calls Tryz.prog 18 #[.agg #[.int .i64 A.n,.slice AwA Awn Awc,.slice AtA Atn Atc],.agg #[.int .i64 B.n,.slice BwA Bwn Bwc,.slice BtA Btn Btc],.agg #[.int .i64 p.a.lo,.int .i64 p.a.hi,.int .i64 p.b.lo,.int .i64 p.b.hi],.agg #[.slice X0 n0 k0,.slice X1 n1 k1,.slice X2 n2 k2,.slice X3 n3 k3]] w fun e w'=>e = .returned (.tuple #[.bool (plcB A B p xa xb da db),.int .i64 (askedErr A B p)])∧Below w.heap.size w w':=by
 obtain ⟨w1,hw1,hb1,hz1,hbx⟩:=boxABP w A AwA Awn Awc AtA Atn Atc B BwA Bwn Bwc BtA Btn Btc p
 obtain ⟨w2,a2,b2,z2,e2⟩:=alloc_facts w1 #[.slice X0 n0 k0,.slice X1 n1 k1,.slice X2 n2 k2,.slice X3 n3 k3] 58
 have KX:=Lib.hid hbx
 have RA:Hid (∀ W,Below w1.heap.size w1 W→Rd encBound 4 W AwA Awn Awc A.ways∧Rd encBound 4 W AtA Atn Atc A.turns∧Rd encBound 4 W BwA Bwn Bwc B.ways∧Rd encBound 4 W BtA Btn Btc B.turns):=(show ∀ W,_→_ from fun W h=>⟨(Aw.below hb1 (Nat.le_refl _)).below h (Nat.le_refl _),(At.below hb1 (Nat.le_refl _)).below h (Nat.le_refl _),(Bw.below hb1 (Nat.le_refl _)).below h (Nat.le_refl _),(Bt.below hb1 (Nat.le_refl _)).below h (Nat.le_refl _)⟩)
 have RX:Hid (∀ W,Below w1.heap.size w1 W→Rd encInt 1 W X0 n0 k0 xa∧Rd encInt 1 W X1 n1 k1 xb∧Rd encInt 1 W X2 n2 k2 da∧Rd encInt 1 W X3 n3 k3 db):=(show ∀ W,_→_ from fun W h=>⟨(h0.below hb1 (Nat.le_refl _)).below h (Nat.le_refl _),(h1.below hb1 (Nat.le_refl _)).below h (Nat.le_refl _),(h2.below hb1 (Nat.le_refl _)).below h (Nat.le_refl _),(h3.below hb1 (Nat.le_refl _)).below h (Nat.le_refl _)⟩)
 have K1:=Lib.hid (fun W (h:Below w1.heap.size w1 W)=>asked_any A AwA Awn Awc AtA Atn Atc B BwA Bwn Bwc BtA Btn Btc p W (RA.out W h).1 (RA.out W h).2.1 (RA.out W h).2.2.1 (RA.out W h).2.2.2)
 have hl0:=h0.len;have hl1:=h1.len;have hl2:=h2.len;have hl3:=h3.len
 have HB1:=Lib.hid hb1
 have HB12:=Lib.hid b2
 have HW1:=Lib.hid hw1
 have HW2:=Lib.hid a2
 have HE2:=Lib.hid e2
 have Z2:=Lib.hid z2
 obtain ⟨xa0,xa1,xa2,xb0,xb1,xb2,xp0,xp1,xp2,xp3⟩:=KX.out w2 b2
 clear Aw At Bw Bt hb1 hbx hw1 a2 b2 e2 h0 h1 h2 h3
 by_cases h1:askedErr A B p=0
 case neg=>
  have hv:plcB A B p xa xb da db=false:=by unfold plcB;rw [decide_eq_false h1,Bool.false_and]
  rw [hv]
  have h1':(askedErr A B p != 0)=true:=by simpa using h1
  clear h1 hv hl0 hl1 hl2 hl3
  generalize askedErr A B p=er at *
  go_enter Tryz.func18,Tryz.ntmps18
  go_wp2_with (first
   | rw [HW1.out]
   | rw [HW2.out]
   | (go_at_call 28;(with_reducible refine (K1.out _ HB12.out).mono ?_);rintro e w3 ⟨rfl,hb3⟩;have HB3:=Lib.hid (HB12.out.trans (hb3.mono HB12.out.size));clear hb3))
  go_ret2
  exact ⟨rfl,(HB1.out.trans (HB3.out.mono HB1.out.size)).alloc (HB1.out.trans (HB3.out.mono HB1.out.size)).size _⟩
 case pos=>
  have hok:=askedErr_zero.1 h1
  have HPR:=Lib.hid (fun k r (h:(rowsL A B xa xb da db)[k]? = some r) (hr:rowK r=false)=>plcB_row (A:=A) (B:=B) (p:=p) h hr)
  have HPM:=Lib.hid (fun m (hm:m≤(p.a.hi-p.a.lo).toNat) (hr:roundB p xa xb da db m=false)=>plcB_round (A:=A) (B:=B) (p:=p) hm hr)
  have HPT:=Lib.hid (plcB_true (xa:=xa) (xb:=xb) (da:=da) (db:=db) h1)
  obtain ⟨cA1,cA2,cA3,cA4⟩:=checkOut_zero.1 hok.a
  obtain ⟨cB1,cB2,cB3,cB4⟩:=checkOut_zero.1 hok.b
  have HCK:Hid (checkSys (A.n+1) A.ways=0∧checkSys A.n A.turns=0∧checkSys (B.n+1) B.ways=0∧checkSys B.n B.turns=0):=(show _∧_ from ⟨cA3,cA4,cB3,cB4⟩)
  have pa0:=hok.a0;have pa1:=hok.a1;have pa2:=hok.a2;have pb0:=hok.b0;have pb1:=hok.b1;have pb2:=hok.b2
  have HPK:=Lib.hid hok.k
  rw [h1] at K1 ⊢
  clear h1 hok cA3 cA4 cB3 cB4
  generalize plcB A B p xa xb da db=pv at *
  go_enter Tryz.func18,Tryz.ntmps18
  go_upto_region 4 with (first
   | rw [HW1.out]
   | rw [HW2.out]
   | (go_at_call 28;(with_reducible refine (K1.out _ HB12.out).mono ?_);rintro e w3 ⟨rfl,hb3⟩
      obtain ⟨w4,a4,b4,z4,e4⟩:=alloc_facts w3 #[.int .i64 A.n,.slice AwA Awn Awc,.slice AtA Atn Atc,.int .i64 B.n,.slice BwA Bwn Bwc,.slice BtA Btn Btc,.int .i64 p.a.lo,.int .i64 p.a.hi,.int .i64 p.b.lo,.int .i64 p.b.hi] 77
      have HB4:=Lib.hid (HB12.out.trans ((hb3.trans (b4.mono hb3.size)).mono HB12.out.size))
      have HH:=Lib.hid (((b4.block w1.heap.size (by have:=hb3.size;omega)).trans (hb3.block w1.heap.size (by omega))).trans HE2.out)
      have Z4:=Lib.hid z4
      have Z3:=Lib.hid hb3.size
      have HA4:=Lib.hid a4
      clear hb3 a4 b4 z4 e4)
   | rw [HA4.out])
  clear xa0 xa1 xa2 xb0 xb1 xb2 xp0 xp1 xp2 xp3
  have HCX:Hid (∀ W,Below w4.heap.size w4 W→W.cell? ⟨w.heap.size+1+1+1,0,none⟩=some (.slice X0 n0 k0)∧W.cell? ⟨w.heap.size+1+1+1,1,none⟩=some (.slice X1 n1 k1)∧W.cell? ⟨w.heap.size+1+1+1,2,none⟩=some (.slice X2 n2 k2)∧W.cell? ⟨w.heap.size+1+1+1,3,none⟩=some (.slice X3 n3 k3)):=(show ∀ W,_→_ from fun W hW=>by
   have hf:=(hW.block w1.heap.size (by have:=Z4.out;have:=Z3.out;omega)).trans HH.out
   rw [hz1] at hf
   simp [World.cell?,hf])
  refine cpl4 _ rfl w.heap.size (w.heap.size+1) (w.heap.size+1+1+1) A.n B.n (.slice AwA Awn Awc) (.slice AtA Atn Atc) (.slice BwA Bwn Bwc) (.slice BtA Btn Btc) X0 X1 X2 X3 n0 k0 n1 k1 n2 k2 n3 k3 _ w4 _ rfl rfl rfl rfl (fun W hW=> ?_) (fun W _=>waysE_any _ _ _ _ _ _ _ W (by omega) (by omega)) (fun W _=>waysE_any _ _ _ _ _ _ _ W (by omega) (by omega)) (fun W _=>turnsE_any _ _ _ _ _ _ _ W) (fun W _=>turnsE_any _ _ _ _ _ _ _ W) ?_
  · have h1:=KX.out W (HB4.out.trans (hW.mono HB4.out.size))
    obtain ⟨xa0,xa1,xa2,xb0,xb1,xb2,_⟩:=h1
    exact ⟨xa0,xa1,xa2,xb0,xb1,xb2,HCX.out W hW⟩
  intro g w5 hb5 hg5 hc5
  have HB5:=Lib.hid (HB4.out.trans (hb5.mono HB4.out.size))
  have HC5:=Lib.hid hc5
  have HZ5:=Lib.hid hb5
  have hgl:g<w5.heap.size:=(Array.getElem?_eq_some_iff.1 hc5).1
  clear hb5 hc5
  simp only [setsL,Tcpl4,List.getD_cons_zero,Nat.reduceAdd,List.setIfInBounds_toArray,List.set_cons_succ,List.set_cons_zero]
  have HROW:Hid (∀ W,Below w5.heap.size w5 W→∀ k r,(rowsL A B xa xb da db)[k]? = some r→RowAt W g k r):=(show ∀ W,_→_ from fun W hW k r hr=>by
   have hh:=(hW.block g hgl).trans HC5.out
   obtain ⟨ra,rt,rb,ru⟩:=RA.out W (HB5.out.trans (hW.mono HB5.out.size))
   obtain ⟨r0,r1,r2,r3⟩:=RX.out W (HB5.out.trans (hW.mono HB5.out.size))
   obtain ⟨q1,q2,q3,q4⟩:=HCK.out
   have hk4:k=0∨k=1∨k=2∨k=3:=by
    have:=(List.getElem?_eq_some_iff.1 hr).1
    simp [rowsL] at this
    omega
   rcases hk4 with rfl|rfl|rfl|rfl
   · simp [rowsL] at hr;subst hr;exact ⟨_,_,_,_,_,_,by simp [World.cell?,hh],by simp [World.cell?,hh],by simp [World.cell?,hh],ra,r0,q1⟩
   · simp [rowsL] at hr;subst hr;exact ⟨_,_,_,_,_,_,by simp [World.cell?,hh],by simp [World.cell?,hh],by simp [World.cell?,hh],rb,r1,q3⟩
   · simp [rowsL] at hr;subst hr;exact ⟨_,_,_,_,_,_,by simp [World.cell?,hh],by simp [World.cell?,hh],by simp [World.cell?,hh],rt,r2,q2⟩
   · simp [rowsL] at hr;subst hr;exact ⟨_,_,_,_,_,_,by simp [World.cell?,hh],by simp [World.cell?,hh],by simp [World.cell?,hh],ru,r3,q4⟩)
  have hz5:=HZ5.out.size
  have HB6:=Lib.hid (HB1.out.trans (HB5.out.mono HB1.out.size))
  go_wp2_with fail
  go_loopw [51] (fun s51 wr=> ∃ k:Nat,k≤4∧s51 = .int .i64 k∧Hid (Below w5.heap.size w5 wr)∧Hid (∀ j r,j<k→(rowsL A B xa xb da db)[j]? = some r→rowK r=true)) (fun s51 _=>4-(intOf s51).toNat)
  case atStart=>exact ⟨0,by omega,rfl,(show Below _ _ _ from Below.refl _ _),(show ∀ (j:Nat) (r:Row3),_ from fun j r h=>by omega)⟩
  case round=>
   obtain ⟨k,hk,rfl,hbr,hall⟩:=hrel
   have hzr:=hbr.out.size
   by_cases hlt:k<4
   · obtain ⟨r,hr⟩:∃ r,(rowsL A B xa xb da db)[k]? = some r:=⟨_,List.getElem?_eq_getElem (show k<(rowsL A B xa xb da db).length from hlt)⟩
     obtain ⟨Ab,nb,cb,Xa,nx,cx,c0,c1,c2,rb,rx,hcs⟩:=HROW.out wr hbr.out k r hr
     obtain ⟨w6,a6,b6,z6,e6⟩:=alloc_facts wr #[.int .i64 r.1,.slice Ab nb cb,.slice Xa nx cx] 100
     obtain ⟨d0,d1,d2⟩:w6.cell? ⟨wr.heap.size,0,none⟩=some (.int .i64 r.1)∧w6.cell? ⟨wr.heap.size,1,none⟩=some (.slice Ab nb cb)∧w6.cell? ⟨wr.heap.size,2,none⟩=some (.slice Xa nx cx):=(by simp [World.cell?,e6])
     have HCF:=Lib.hid (ContainsFunc_Int 46 #[] ent_cpl1 farN Xa nx cx r.2.2 w6 (rx.below b6 (Nat.le_refl _)) (far_pred w6))
     have HKP:Hid (∀ W,Below wr.heap.size wr W→Calls Tryz.prog 47 #[.agg #[.int .i64 r.1,.slice Ab nb cb],.slice Xa nx cx] W fun e w'=>e = .returned (.tuple #[.bool (keepsC r.1 r.2.1 r.2.2),.int .i64 (if fitsB r.1 r.2.2 then 0 else 1)])∧Below W.heap.size W w'):=(show ∀ W,_→_ from fun W hW=>Keeps_all r.1 Ab nb cb r.2.1 Xa nx cx r.2.2 W (rb.below hW (Nat.le_refl _)) (rx.below hW (Nat.le_refl _)) hcs)
     have HRK:Hid (rowK r=(!r.2.2.any farN&&keepsC r.1 r.2.1 r.2.2)):=(show _=_ from rfl)
     have HFI:Hid (keepsC r.1 r.2.1 r.2.2=true→fitsB r.1 r.2.2=true):=(show _→_ from fun h=>by unfold keepsC at h;simp only [Bool.and_eq_true] at h;exact h.1)
     have HR:=Lib.hid hr
     have HA6:=Lib.hid a6
     have HB26:=Lib.hid b6
     have HE6:=Lib.hid e6
     have HBR:=Lib.hid (hbr.out.trans (b6.mono hbr.out.size))
     clear hr rb rx hcs a6 b6 e6
     generalize r.2.2.any farN=fv at *
     generalize keepsC r.1 r.2.1 r.2.2=kv at *
     obtain ⟨ev,hev⟩:∃ ev:Int,(if fitsB r.1 r.2.2 then (0:Int) else 1)=ev:=⟨_,rfl⟩
     have HFE:Hid (kv=true→ev=0):=(show _→_ from fun h=>by rw [←hev,HFI.out h];rfl)
     rw [hev] at HKP
     clear hev HFI
     cases fv with
     | true=>
       go_wp2_with (first
        | rw [HA6.out]
        | (go_at_call 45;(with_reducible refine HCF.out.mono ?_);rintro e w7 ⟨rfl,hb7⟩
           have HB7:=Lib.hid hb7
           have hh7:=(hb7.block wr.heap.size (by omega)).trans HE6.out
           obtain ⟨f0,f1,f2⟩:w7.cell? ⟨wr.heap.size,0,none⟩=some (.int .i64 r.1)∧w7.cell? ⟨wr.heap.size,1,none⟩=some (.slice Ab nb cb)∧w7.cell? ⟨wr.heap.size,2,none⟩=some (.slice Xa nx cx):=(by simp [World.cell?,hh7])
           clear hb7 hh7)
        | (go_at_call 47;(with_reducible refine (HKP.out _ (HB26.out.trans (HB7.out.mono HB26.out.size))).mono ?_);rintro e w8 ⟨rfl,hb8⟩;have HB8:=Lib.hid hb8;clear hb8))
       go_ret2
       have hpv:=HPR.out k r HR.out (by rw [HRK.out];rfl)
       exact ⟨by rw [hpv];rfl,HB6.out.trans ((HBR.out.trans ((HB7.out.trans (HB8.out.mono HB7.out.size)).mono HBR.out.size)).mono HB6.out.size)⟩
     | false=>
       cases kv with
       | false=>
         go_wp2_with (first
          | rw [HA6.out]
          | (go_at_call 45;(with_reducible refine HCF.out.mono ?_);rintro e w7 ⟨rfl,hb7⟩
             have HB7:=Lib.hid hb7
             have hh7:=(hb7.block wr.heap.size (by omega)).trans HE6.out
             obtain ⟨f0,f1,f2⟩:w7.cell? ⟨wr.heap.size,0,none⟩=some (.int .i64 r.1)∧w7.cell? ⟨wr.heap.size,1,none⟩=some (.slice Ab nb cb)∧w7.cell? ⟨wr.heap.size,2,none⟩=some (.slice Xa nx cx):=(by simp [World.cell?,hh7])
             clear hb7 hh7)
          | (go_at_call 47;(with_reducible refine (HKP.out _ (HB26.out.trans (HB7.out.mono HB26.out.size))).mono ?_);rintro e w8 ⟨rfl,hb8⟩;have HB8:=Lib.hid hb8;clear hb8))
         go_ret2
         have hpv:=HPR.out k r HR.out (by rw [HRK.out];rfl)
         exact ⟨by rw [hpv];rfl,HB6.out.trans ((HBR.out.trans ((HB7.out.trans (HB8.out.mono HB7.out.size)).mono HBR.out.size)).mono HB6.out.size)⟩
       | true=>
         obtain rfl:=HFE.out rfl
         go_wp2_with (first
          | rw [HA6.out]
          | (go_at_call 45;(with_reducible refine HCF.out.mono ?_);rintro e w7 ⟨rfl,hb7⟩
             have HB7:=Lib.hid hb7
             have hh7:=(hb7.block wr.heap.size (by omega)).trans HE6.out
             obtain ⟨f0,f1,f2⟩:w7.cell? ⟨wr.heap.size,0,none⟩=some (.int .i64 r.1)∧w7.cell? ⟨wr.heap.size,1,none⟩=some (.slice Ab nb cb)∧w7.cell? ⟨wr.heap.size,2,none⟩=some (.slice Xa nx cx):=(by simp [World.cell?,hh7])
             clear hb7 hh7)
          | (go_at_call 47;(with_reducible refine (HKP.out _ (HB26.out.trans (HB7.out.mono HB26.out.size))).mono ?_);rintro e w8 ⟨rfl,hb8⟩;have HB8:=Lib.hid hb8;clear hb8))
         go_roundw
         case rel=>exact ⟨k+1,by omega,by go_num,(show Below _ _ _ from HBR.out.trans ((HB7.out.trans (HB8.out.mono HB7.out.size)).mono HBR.out.size)),(show ∀ (j:Nat) (r:Row3),_ from fun j r' hj hr'=>by
          by_cases e:j=k
          · subst e;rw [HR.out] at hr';cases hr';rw [HRK.out];rfl
          · exact hall.out j r' (by omega) hr')⟩
         case measure=>simp [intOf];omega
   · have hk4:k=4:=by omega
     subst hk4
     have hW:=HZ5.out.size
     have HBX:=Lib.hid (HB5.out.trans (hbr.out.mono HB5.out.size))
     have HBF:=Lib.hid (HB6.out.trans (hbr.out.mono HB6.out.size))
     obtain ⟨xa0,xa1,xa2,xb0,xb1,xb2,xp0,xp1,xp2,xp3⟩:=KX.out wr HBX.out
     obtain ⟨y0,y1,y2,y3⟩:=HCX.out wr (HZ5.out.trans (hbr.out.mono HZ5.out.size))
     obtain ⟨g0,g1,g2,g3⟩:=RX.out wr HBX.out
     have r0:=rowK_true (hall.out 0 _ (by omega) rfl)
     have r1:=rowK_true (hall.out 1 _ (by omega) rfl)
     have r2:=rowK_true (hall.out 2 _ (by omega) rfl)
     have r3:=rowK_true (hall.out 3 _ (by omega) rfl)
     simp only [hl0,hl1,hl2,hl3] at r0 r1 r2 r3
     have HN0:=Lib.hid (gI_bnd r0.2)
     have HN1:=Lib.hid (gI_bnd r1.2)
     have HN2:=Lib.hid (gI_bnd r2.2)
     have HN3:=Lib.hid (gI_bnd r3.2)
     have HLN:=Lib.hid (And.intro r0.1 (And.intro r1.1 (And.intro r2.1 r3.1)))
     have ln0:=r0.1;have ln1:=r1.1;have ln2:=r2.1;have ln3:=r3.1
     obtain ⟨t0,o0,rfl,hs0,hi0⟩:=g0.gI (by omega)
     obtain ⟨t1,o1,rfl,hs1,hi1⟩:=g1.gI (by omega)
     obtain ⟨t2,o2,rfl,hs2,hi2⟩:=g2.gI (by omega)
     obtain ⟨t3,o3,rfl,hs3,hi3⟩:=g3.gI (by omega)
     have HIX:Hid (∀ W,Below wr.heap.size wr W→(∀ i:Int,0≤i→i<n0→W.cell? ⟨t0,o0+i.toNat,none⟩=some (.int .i64 (gI xa i)))∧(∀ i:Int,0≤i→i<n1→W.cell? ⟨t1,o1+i.toNat,none⟩=some (.int .i64 (gI xb i)))∧(∀ i:Int,0≤i→i<n2→W.cell? ⟨t2,o2+i.toNat,none⟩=some (.int .i64 (gI da i)))∧(∀ i:Int,0≤i→i<n3→W.cell? ⟨t3,o3+i.toNat,none⟩=some (.int .i64 (gI db i)))):=(show ∀ W,_→_ from fun W hW=>⟨fun i a b=>(hW.cell hs0).trans (hi0 i a b),fun i a b=>(hW.cell hs1).trans (hi1 i a b),fun i a b=>(hW.cell hs2).trans (hi2 i a b),fun i a b=>(hW.cell hs3).trans (hi3 i a b)⟩)
     have HPX:Hid (∀ W,Below wr.heap.size wr W→(W.cell? ⟨w.heap.size+1+1+1,0,none⟩=some (.slice (some ⟨t0,o0,none⟩) n0 k0)∧W.cell? ⟨w.heap.size+1+1+1,1,none⟩=some (.slice (some ⟨t1,o1,none⟩) n1 k1)∧W.cell? ⟨w.heap.size+1+1+1,2,none⟩=some (.slice (some ⟨t2,o2,none⟩) n2 k2)∧W.cell? ⟨w.heap.size+1+1+1,3,none⟩=some (.slice (some ⟨t3,o3,none⟩) n3 k3))∧(W.cell? ⟨w.heap.size+1+1,0,none⟩=some (.int .i64 p.a.lo)∧W.cell? ⟨w.heap.size+1+1,1,none⟩=some (.int .i64 p.a.hi)∧W.cell? ⟨w.heap.size+1+1,2,none⟩=some (.int .i64 p.b.lo)∧W.cell? ⟨w.heap.size+1+1,3,none⟩=some (.int .i64 p.b.hi))):=(show ∀ W,_→_ from fun W hW=>by
      have hq:=KX.out W (HBX.out.trans (hW.mono HBX.out.size))
      obtain ⟨_,_,_,_,_,_,z0,z1,z2,z3⟩:=hq
      exact ⟨HCX.out W ((HZ5.out.trans (hbr.out.mono HZ5.out.size)).trans (hW.mono (HZ5.out.trans (hbr.out.mono HZ5.out.size)).size)),z0,z1,z2,z3⟩)
     have HAL:=Lib.hid hall.out
     clear r0 r1 r2 r3 g0 g1 g2 g3 hi0 hi1 hi2 hi3 hl0 hl1 hl2 hl3 hall HCK HROW HC5 HCX KX RA RX K1 HPR HA4 HW1 HW2 HE2 HH xa0 xa1 xa2 xb0 xb1 xb2
     clear ln0 ln1 ln2 ln3
     have vk:IntKind.i64.wrap (p.a.hi-p.a.lo)=p.a.hi-p.a.lo:=(by rw [IntKind.wrap_i64];omega)
     have vk1:IntKind.i64.wrap (p.a.hi-p.a.lo+1)=p.a.hi-p.a.lo+1:=(by rw [IntKind.wrap_i64];omega)
     go_wp2_with fail
     rename World=>wm
     go_loopw [85] (fun s85 wr=> ∃ m:Nat,(m:Int)≤p.a.hi-p.a.lo+1∧s85 = .int .i64 m∧Hid (Below wm.heap.size wm wr)∧Hid (∀ j,j<m→roundB p xa xb da db j=true)) (fun s85 _=>(p.a.hi-p.a.lo+1-intOf s85).toNat)
     case atStart=>exact ⟨0,by omega,rfl,(show Below _ _ _ from Below.refl _ _),(show ∀ j:Nat,_ from fun j h=>by omega)⟩
     case round=>
      obtain ⟨m,hm,rfl,hw,hrs⟩:=hrel
      by_cases hlm:(m:Int)<p.a.hi-p.a.lo+1
      · obtain ⟨ln0,ln1,ln2,ln3⟩:=HLN.out
        have pk:=HPK.out
        obtain ⟨hi0,hi1,hi2,hi3⟩:=HIX.out wr hw.out
        obtain ⟨⟨y0,y1,y2,y3⟩,xp0,xp1,xp2,xp3⟩:=HPX.out wr hw.out
        have HI2:=Lib.hid hi2
        have HI3:=Lib.hid hi3
        have q1:=hi0 (p.a.lo+m) (by omega) (by omega)
        have q2:=hi0 p.a.lo (by omega) (by omega)
        have q3:=hi1 p.b.hi (by omega) (by omega)
        have q4:=hi1 (p.b.hi-m) (by omega) (by omega)
        have q4b:=q4
        rw [show (p.b.hi-(m:Int)).toNat=p.b.hi.toNat-m from by omega] at q4b
        have u1:=HN0.out (p.a.lo+m)
        have u2:=HN0.out p.a.lo
        have u3:=HN1.out p.b.hi
        have u4:=HN1.out (p.b.hi-m)
        have v1:IntKind.i64.wrap (p.a.lo+m)=p.a.lo+m:=(by rw [IntKind.wrap_i64];omega)
        have v4:IntKind.i64.wrap (p.b.hi-m)=p.b.hi-m:=(by rw [IntKind.wrap_i64];omega)
        have j1:0≤p.a.lo+(m:Int):=(by omega)
        have j2:p.a.lo+(m:Int)<n0:=(by omega)
        have j3:p.a.lo<n0:=(by omega)
        have j4:0≤p.b.hi:=(by omega)
        have j5:p.b.hi<n1:=(by omega)
        have j6:0≤p.b.hi-(m:Int):=(by omega)
        have j7:p.b.hi-(m:Int)<n1:=(by omega)
        clear hi0 hi1 hi2 hi3
        have HW1:Hid (roundW p xa xb m=decide (gI xa (p.a.lo+m)-gI xa p.a.lo=gI xb p.b.hi-gI xb (p.b.hi-m))):=(show _=_ from rfl)
        generalize gI xa (p.a.lo+m)=c1 at *
        generalize gI xa p.a.lo=c2 at *
        generalize gI xb p.b.hi=c3 at *
        generalize gI xb (p.b.hi-m)=c4 at *
        have v5:IntKind.i64.wrap (c1-c2)=c1-c2:=(by rw [IntKind.wrap_i64];omega)
        have v6:IntKind.i64.wrap (c3-c4)=c3-c4:=(by rw [IntKind.wrap_i64];omega)
        by_cases hc:c1-c2=c3-c4
        · have hcb:(c1-c2 != c3-c4)=false:=(by simp [hc])
          have HWT:Hid (roundW p xa xb m=true):=(show _=_ by rw [HW1.out];simp [hc])
          clear HW1 u1 u2 u3 u4
          by_cases hmk:(m:Int)<p.a.hi-p.a.lo
          · have q5:=HI2.out (p.a.lo+m) (by omega) (by omega)
            have q6:=HI2.out p.a.lo (by omega) (by omega)
            have q7:=HI3.out (p.b.hi-1-m) (by omega) (by omega)
            have q8:=HI3.out (p.b.hi-1) (by omega) (by omega)
            have q7b:=q7
            rw [show (p.b.hi-1-(m:Int)).toNat=(p.b.hi-1).toNat-m from by omega] at q7b
            have q7c:=q7
            rw [show (p.b.hi-1-(m:Int)).toNat=p.b.hi.toNat-1-m from by omega] at q7c
            have q8b:=q8
            rw [show (p.b.hi-1).toNat=p.b.hi.toNat-1 from by omega] at q8b
            have u5:=HN2.out (p.a.lo+m)
            have u6:=HN2.out p.a.lo
            have u7:=HN3.out (p.b.hi-1-m)
            have u8:=HN3.out (p.b.hi-1)
            have v7:IntKind.i64.wrap (p.b.hi-1)=p.b.hi-1:=(by rw [IntKind.wrap_i64];omega)
            have v8:IntKind.i64.wrap (p.b.hi-1-m)=p.b.hi-1-m:=(by rw [IntKind.wrap_i64];omega)
            have l2:p.a.lo+(m:Int)<n2:=(by omega)
            have l3:p.a.lo<n2:=(by omega)
            have l4:0≤p.b.hi-1:=(by omega)
            have l5:p.b.hi-1<n3:=(by omega)
            have l6:0≤p.b.hi-1-(m:Int):=(by omega)
            have l7:p.b.hi-1-(m:Int)<n3:=(by omega)
            have HD1:Hid (roundD p da db m=decide (gI da (p.a.lo+m)-gI da p.a.lo=gI db (p.b.hi-1-m)-gI db (p.b.hi-1))):=(show _=_ by unfold roundD;rw [decide_eq_true hmk];rfl)
            generalize gI da (p.a.lo+m)=c5 at *
            generalize gI da p.a.lo=c6 at *
            generalize gI db (p.b.hi-1-m)=c7 at *
            generalize gI db (p.b.hi-1)=c8 at *
            have v9:IntKind.i64.wrap (c5-c6)=c5-c6:=(by rw [IntKind.wrap_i64];omega)
            have v0:IntKind.i64.wrap (c7-c8)=c7-c8:=(by rw [IntKind.wrap_i64];omega)
            have hmd:decide ((m:Int)<p.a.hi-p.a.lo)=true:=decide_eq_true hmk
            by_cases hd:c5-c6=c7-c8
            · have hdb:(c5-c6 != c7-c8)=false:=(by simp [hd])
              have HRD:Hid (roundB p xa xb da db m=true):=(show _=_ by unfold roundB;rw [HWT.out,HD1.out];simp [hd])
              clear HD1 u5 u6 u7 u8 HWT pk ln0 ln1 ln2 ln3
              go_wp2_with (go_quiet (fail))
              go_roundw
              case rel=>exact ⟨m+1,by omega,by go_num,(show Below _ _ _ from below_drewN' hw.out _),(show ∀ j:Nat,_ from fun j hj=>by
               by_cases e:j=m
               · subst e;exact HRD.out
               · exact hrs.out j (by omega))⟩
              case measure=>simp [intOf];omega
            · have hdb:(c5-c6 != c7-c8)=true:=(by simp [hd])
              have HRD:Hid (roundB p xa xb da db m=false):=(show _=_ by unfold roundB;rw [HWT.out,HD1.out];simp [hd])
              clear HD1 u5 u6 u7 u8 HWT pk ln0 ln1 ln2 ln3
              go_wp2_with (go_quiet (fail))
              go_ret2
              have hpv:=HPM.out m (by omega) HRD.out
              exact ⟨by rw [hpv];rfl,HBF.out.trans (Below.mono (by repeat' (first|(with_reducible exact hw.out)|(with_reducible refine below_drewN' ?_ _))) HBF.out.size)⟩
          · have hmd:decide ((m:Int)<p.a.hi-p.a.lo)=false:=decide_eq_false hmk
            have HRD:Hid (roundB p xa xb da db m=true):=(show _=_ by unfold roundB roundD;rw [HWT.out,hmd];rfl)
            clear HWT pk ln0 ln1 ln2 ln3
            go_wp2_with (go_quiet (fail))
            go_roundw
            case rel=>exact ⟨m+1,by omega,by go_num,(show Below _ _ _ from below_drewN' hw.out _),(show ∀ j:Nat,_ from fun j hj=>by
             by_cases e:j=m
             · subst e;exact HRD.out
             · exact hrs.out j (by omega))⟩
            case measure=>simp [intOf];omega
        · have hcb:(c1-c2 != c3-c4)=true:=(by simp [hc])
          have HRD:Hid (roundB p xa xb da db m=false):=(show _=_ by unfold roundB;rw [HW1.out];simp [hc])
          clear HW1 u1 u2 u3 u4 pk ln0 ln1 ln2 ln3
          go_wp2_with (go_quiet (fail))
          go_ret2
          have hpv:=HPM.out m (by omega) HRD.out
          exact ⟨by rw [hpv];rfl,HBF.out.trans (Below.mono (by repeat' (first|(with_reducible exact hw.out)|(with_reducible refine below_drewN' ?_ _))) HBF.out.size)⟩
      · have hmk:m=(p.a.hi-p.a.lo).toNat+1:=by omega
        go_wp2
        go_ret2
        have hpv:=HPT.out HAL.out (fun j hj=>hrs.out j (by omega))
        exact ⟨by rw [hpv];rfl,HBF.out.trans (Below.mono (by repeat' (first|(with_reducible exact hw.out)|(with_reducible refine below_drewN' ?_ _))) HBF.out.size)⟩
theorem joined_any (w:World):Calls Tryz.prog 4 #[] w fun e w'=>e = .returned (.bool true)∧Below w.heap.size w w':=by
 go_enter Tryz.func4,Tryz.ntmps4
 go_upto_region 3 with (first
  | (go_at_call 9;(with_reducible refine (first_any _).mono ?_);rintro e w1 ⟨A1,c1,A2,c2,rfl,hb1,ra,rt⟩
     obtain ⟨w2,a2,b2,z2,e2⟩:=alloc_facts w1 #[.int .i64 3,.slice A1 6 c1,.slice A2 4 c2] 35
     have HB2:=Lib.hid (hb1.trans (b2.mono hb1.size))
     have RA:=Lib.hid (ra.below b2 (Nat.le_refl _))
     have RT:=Lib.hid (rt.below b2 (Nat.le_refl _))
     have HE2:=Lib.hid e2
     have HA2:=Lib.hid a2
     have Z2:=Lib.hid z2
     clear hb1 ra rt a2 b2 z2 e2)
  | rw [HA2.out]
  | (go_at_call 10;(with_reducible refine (second_any _).mono ?_);rintro e w3 ⟨B1,d1,B2,d2,rfl,hb3,rb,ru⟩
     obtain ⟨w4,a4,b4,z4,e4⟩:=alloc_facts w3 #[.int .i64 3,.slice B1 6 d1,.slice B2 4 d2] 35
     have HB24:=Lib.hid (hb3.trans (b4.mono hb3.size))
     have HB4:=Lib.hid (HB2.out.trans (HB24.out.mono HB2.out.size))
     have RB:=Lib.hid (rb.below b4 (Nat.le_refl _))
     have RU:=Lib.hid (ru.below b4 (Nat.le_refl _))
     have HE4:=Lib.hid e4
     have HA4:=Lib.hid a4
     have Z4:=Lib.hid z4
     have Z3:=Lib.hid hb3.size
     clear hb3 rb ru a4 b4 z4 e4)
  | rw [HA4.out])
 have CE:Hid (∀ W,Below w4.heap.size w4 W→W.cell? ⟨w1.heap.size,0,none⟩=some (.int .i64 3)∧W.cell? ⟨w1.heap.size,1,none⟩=some (.slice A1 6 c1)∧W.cell? ⟨w1.heap.size,2,none⟩=some (.slice A2 4 c2)∧W.cell? ⟨w3.heap.size,0,none⟩=some (.int .i64 3)∧W.cell? ⟨w3.heap.size,1,none⟩=some (.slice B1 6 d1)∧W.cell? ⟨w3.heap.size,2,none⟩=some (.slice B2 4 d2)):=(show ∀ W,_→_ from fun W hW=>by
  have z2:=Z2.out;have z3:=Z3.out;have z4:=Z4.out
  have h1:=(hW.block w1.heap.size (by omega)).trans ((HB24.out.block w1.heap.size (by omega)).trans HE2.out)
  have h2:=(hW.block w3.heap.size (by omega)).trans HE4.out
  obtain ⟨q1,q2,q3,_⟩:=three_facts h1
  obtain ⟨p1,p2,p3,_⟩:=three_facts h2
  exact ⟨q1,q2,q3,p1,p2,p3⟩)
 have RD:Hid (∀ W,Below w4.heap.size w4 W→Rd encBound 4 W A1 6 c1 outF.ways∧Rd encBound 4 W A2 4 c2 outF.turns∧Rd encBound 4 W B1 6 d1 outS.ways∧Rd encBound 4 W B2 4 d2 outS.turns):=(show ∀ W,_→_ from fun W hW=>⟨(RA.out.below HB24.out (Nat.le_refl _)).below hW (Nat.le_refl _),(RT.out.below HB24.out (Nat.le_refl _)).below hW (Nat.le_refl _),RB.out.below hW (Nat.le_refl _),RU.out.below hW (Nat.le_refl _)⟩)
 have KM:Hid (∀ (p:Pairing) W,Below w4.heap.size w4 W→Calls Tryz.prog 11 #[.agg #[.int .i64 3,.slice A1 6 c1,.slice A2 4 c2],.agg #[.int .i64 3,.slice B1 6 d1,.slice B2 4 d2],.agg #[.int .i64 p.a.lo,.int .i64 p.a.hi,.int .i64 p.b.lo,.int .i64 p.b.hi]] W fun e w'=>e = .returned (.tuple #[.bool (decide (askedErr outF outS p=0)&&meetsV outF outS p),.int .i64 (askedErr outF outS p)])∧Below W.heap.size W w'):=(show ∀ p W,_→_ from fun p W hW=>MeetsE_any outF A1 6 c1 A2 4 c2 outS B1 6 d1 B2 4 d2 p W (RD.out W hW).1 (RD.out W hW).2.1 (RD.out W hW).2.2.1 (RD.out W hW).2.2.2)
 have K3:=Lib.hid (KM.out (prO 0 2 0 2))
 have K4:=Lib.hid (KM.out (prO 0 1 0 1))
 rw [jo_ask1,jo_meets1] at K3
 rw [jo_ask2,jo_meets2] at K4
 refine joi3 _ rfl w1.heap.size w3.heap.size 3 3 (.slice A1 6 c1) (.slice A2 4 c2) (.slice B1 6 d1) (.slice B2 4 d2) true 0 _ w4 _ rfl rfl rfl CE.out (fun W _=>of_any 0 2 0 2 W) (fun W hW=>K3.out W hW) ?_
 intro w5 hb5
 have HB5:=Lib.hid hb5
 clear hb5
 simp only [setsL,Nat.reduceAdd,List.setIfInBounds_toArray,List.set_cons_succ,List.set_cons_zero]
 go_upto_region 4 with (fail)
 refine joi4 _ rfl w1.heap.size w3.heap.size 3 3 (.slice A1 6 c1) (.slice A2 4 c2) (.slice B1 6 d1) (.slice B2 4 d2) false 0 _ w5 _ rfl rfl rfl (fun W hW=>CE.out W (HB5.out.trans (hW.mono HB5.out.size))) (fun W _=>of_any 0 1 0 1 W) (fun W hW=>K4.out W (HB5.out.trans (hW.mono HB5.out.size))) ?_
 intro w6 hb6
 have HB6:=Lib.hid (HB5.out.trans (hb6.mono HB5.out.size))
 clear hb6
 simp only [setsL,Nat.reduceAdd,List.setIfInBounds_toArray,List.set_cons_succ,List.set_cons_zero]
 go_upto_region 5 with (fail)
 have hsv:sharedV outF outS (prO 0 1 1 2)=(11,12,0):=(by unfold sharedV;rw [jo_ask3,jo_meets3,jo_low,jo_high];rfl)
 have K5:=Lib.hid (fun W (hW:Below w4.heap.size w4 W)=>Shared_any outF A1 6 c1 A2 4 c2 outS B1 6 d1 B2 4 d2 (prO 0 1 1 2) W (RD.out W hW).1 (RD.out W hW).2.1 (RD.out W hW).2.2.1 (RD.out W hW).2.2.2)
 rw [hsv] at K5
 clear hsv
 refine joi5 _ rfl w1.heap.size w3.heap.size 3 3 (.slice A1 6 c1) (.slice A2 4 c2) (.slice B1 6 d1) (.slice B2 4 d2) 11 12 0 _ w6 _ rfl rfl rfl (fun W hW=>CE.out W (HB6.out.trans (hW.mono HB6.out.size))) (fun W _=>of_any 0 1 1 2 W) (fun W hW=>K5.out W (HB6.out.trans (hW.mono HB6.out.size))) ?_
 intro w7 hb7
 have HB7:=Lib.hid (HB6.out.trans (hb7.mono HB6.out.size))
 clear hb7
 simp only [setsL,Nat.reduceAdd,List.setIfInBounds_toArray,List.set_cons_succ,List.set_cons_zero]
 have K6:Hid (∀ W,Below w4.heap.size w4 W→Calls Tryz.prog 14 #[.agg #[.int .i64 3,.slice A1 6 c1,.slice A2 4 c2],.agg #[.int .i64 3,.slice B1 6 d1,.slice B2 4 d2]] W fun e w'=> ∃ A' c',e = .returned (.tuple #[.slice A' 1 c',.int .i64 0])∧Below W.heap.size W w'∧Own encPairing 4 25 W.heap.size w' A' 1 c' [prO 0 2 0 2]):=(show ∀ W,_→_ from fun W hW=>by
  have h:=Maximal_any outF A1 6 c1 A2 4 c2 outS B1 6 d1 B2 4 d2 W (RD.out W hW).1 (RD.out W hW).2.1 (RD.out W hW).2.2.1 (RD.out W hW).2.2.2
  rw [jo_twice,if_pos rfl,jo_max] at h
  exact h)
 have K7:Hid (∀ W,Below w4.heap.size w4 W→Calls Tryz.prog 15 #[.agg #[.int .i64 3,.slice A1 6 c1,.slice A2 4 c2],.agg #[.int .i64 3,.slice B1 6 d1,.slice B2 4 d2]] W fun e w'=>e = .returned (.tuple #[.int .i64 2,.int .i64 0])∧Below W.heap.size W w'):=(show ∀ W,_→_ from fun W hW=>by
  have h:=Longest_any outF A1 6 c1 A2 4 c2 outS B1 6 d1 B2 4 d2 W (RD.out W hW).1 (RD.out W hW).2.1 (RD.out W hW).2.2.1 (RD.out W hW).2.2.2
  rw [jo_twice] at h
  refine h.mono ?_
  rintro e w' ⟨n,rfl,hn,_,hb⟩
  rw [jo_long (hn rfl)]
  exact ⟨rfl,hb⟩)
 have K8:Hid (∀ W,Below w4.heap.size w4 W→Calls Tryz.prog 16 #[.agg #[.int .i64 3,.slice B1 6 d1,.slice B2 4 d2],.bool true,.agg #[.int .i64 0,.int .i64 1,.int .i64 (-101),.int .i64 11]] W fun e w'=> ∃ WA wn wc TA tn tc,e = .returned (.tuple #[.agg #[.int .i64 3,.slice WA wn wc,.slice TA tn tc],.int .i64 0])∧Below W.heap.size W w'∧OutlO W.heap.size w' outC WA wn wc TA tn tc):=(show ∀ W,_→_ from fun W hW=>by
  have h:=WithE_any outS B1 6 d1 B2 4 d2 true ⟨0,1,-101,11⟩ W (RD.out W hW).2.2.1 (RD.out W hW).2.2.2
  rw [jo_with] at h
  exact h)
 obtain ⟨m0,m1,m2,n0,n1,n2⟩:=CE.out w7 HB7.out
 go_upto_region 9 with (first
  | (go_at_call 14;(with_reducible refine (K6.out _ HB7.out).mono ?_);rintro e w8 ⟨MA,mc,rfl,hb8,hm8⟩
     have HB8:=Lib.hid (HB7.out.trans (hb8.mono HB7.out.size))
     have HM8:=Lib.hid hm8
     obtain ⟨x0,x1,x2,y0,y1,y2⟩:=CE.out w8 HB8.out
     clear hb8 hm8)
  | (go_at_call 15;(with_reducible refine (K7.out _ HB8.out).mono ?_);rintro e w9 ⟨rfl,hb9⟩
     have HB89:=Lib.hid hb9
     have HB9:=Lib.hid (HB8.out.trans (hb9.mono HB8.out.size))
     obtain ⟨x3,x4,x5,y3,y4,y5⟩:=CE.out w9 HB9.out
     clear hb9)
  | (go_at_call 16;(with_reducible refine (K8.out _ HB9.out).mono ?_);rintro e w10 ⟨WA,wn,wc,TA,tn,tc,rfl,hb10,ho10⟩
     obtain ⟨w11,a11,b11,z11,e11⟩:=alloc_facts w10 #[.int .i64 3,.slice WA wn wc,.slice TA tn tc] 35
     have HB10:=Lib.hid (HB9.out.trans (hb10.mono HB9.out.size))
     have HB11:=Lib.hid (HB10.out.trans (b11.mono HB10.out.size))
     have HB911:=Lib.hid (hb10.trans (b11.mono hb10.size))
     have HO11:=Lib.hid (And.intro (ho10.1.below b11 (Nat.le_refl _)) (ho10.2.below b11 (Nat.le_refl _)))
     have HE11:=Lib.hid e11
     have HA11:=Lib.hid a11
     have Z11:=Lib.hid z11
     clear hb10 ho10 a11 b11 z11 e11)
  | rw [HA11.out])
 have hlw:=HO11.out.1.len
 have hlt:=HO11.out.2.len
 obtain rfl:wn=6:=hlw.symm
 obtain rfl:tn=5:=hlt.symm
 have RC:Hid (∀ W,Below w11.heap.size w11 W→Rd encBound 4 W WA 6 wc outC.ways∧Rd encBound 4 W TA 5 tc outC.turns):=(show ∀ W,_→_ from fun W hW=>⟨((HO11.out.1.below hW (Nat.le_refl _)).rd (fun _=>rfl) (by omega)),((HO11.out.2.below hW (Nat.le_refl _)).rd (fun _=>rfl) (by omega))⟩)
 have K9:=Lib.hid (fun W (hW:Below w11.heap.size w11 W)=>Clash_any outF A1 6 c1 A2 4 c2 outC WA 6 wc TA 5 tc (prO 0 2 0 2) W (RD.out W (HB11.out.trans (hW.mono HB11.out.size))).1 (RD.out W (HB11.out.trans (hW.mono HB11.out.size))).2.1 (RC.out W hW).1 (RC.out W hW).2)
 rw [jo_ask4,jo_clash.1,jo_clash.2.1,jo_clash.2.2] at K9
 clear hlw hlt
 refine joi9 _ rfl w1.heap.size w10.heap.size 3 3 (.slice A1 6 c1) (.slice A2 4 c2) (.slice WA 6 wc) (.slice TA 5 tc) true true 0 2 _ w11 _ rfl rfl rfl (fun W hW=> ?_) (fun W _=>of_any 0 2 0 2 W) (fun W hW=> ?_) ?_
 · obtain ⟨q1,q2,q3,_⟩:=CE.out W (HB11.out.trans (hW.mono HB11.out.size))
   have h2:=(hW.block w10.heap.size (by have:=Z11.out;omega)).trans HE11.out
   obtain ⟨p1,p2,p3,_⟩:=three_facts h2
   exact ⟨q1,q2,q3,p1,p2,p3⟩
 · refine (K9.out W hW).mono ?_
   rintro e w' ⟨A',c',rfl,hb,_⟩
   exact ⟨A',c',rfl,hb⟩
 intro w12 g FA fc v3 v4 v5 hb12 hg12 he12
 have HB1112:=Lib.hid hb12
 have HB12:=Lib.hid (HB11.out.trans (hb12.mono HB11.out.size))
 have HE12:=Lib.hid he12
 have hgl:g<w12.heap.size:=(Array.getElem?_eq_some_iff.1 he12).1
 clear hb12 he12
 simp only [List.setIfInBounds_toArray,List.set_cons_succ,List.set_cons_zero]
 go_upto_region 10 with (fail)
 have K10:Hid (∀ W s0 s1 s2 s3,Below w4.heap.size w4 W→Rd encInt 1 W (some ⟨s0,0,none⟩) 4 4 [0,11,31,36]→Rd encInt 1 W (some ⟨s1,0,none⟩) 4 4 [0,20,31,40]→Rd encInt 1 W (some ⟨s2,0,none⟩) 3 3 [0,90,190]→Rd encInt 1 W (some ⟨s3,0,none⟩) 3 3 [0,-95,-115]→Calls Tryz.prog 18 #[.agg #[.int .i64 3,.slice A1 6 c1,.slice A2 4 c2],.agg #[.int .i64 3,.slice B1 6 d1,.slice B2 4 d2],.agg #[.int .i64 0,.int .i64 1,.int .i64 1,.int .i64 2],.agg #[.slice (some ⟨s0,0,none⟩) 4 4,.slice (some ⟨s1,0,none⟩) 4 4,.slice (some ⟨s2,0,none⟩) 3 3,.slice (some ⟨s3,0,none⟩) 3 3]] W fun e w'=>e = .returned (.tuple #[.bool (plcB outF outS (prO 0 1 1 2) [0,11,31,36] [0,20,31,40] [0,90,190] [0,-95,-115]),.int .i64 (askedErr outF outS (prO 0 1 1 2))])∧Below W.heap.size W w'):=(show ∀ W s0 s1 s2 s3,_→_→_→_→_→_ from fun W s0 s1 s2 s3 hW r0 r1 r2 r3=>
  CheckPlace_any outF A1 6 c1 A2 4 c2 outS B1 6 d1 B2 4 d2 (prO 0 1 1 2) (some ⟨s0,0,none⟩) (some ⟨s1,0,none⟩) (some ⟨s2,0,none⟩) (some ⟨s3,0,none⟩) 4 4 4 4 3 3 3 3 _ _ _ _ W (RD.out W hW).1 (RD.out W hW).2.1 (RD.out W hW).2.2.1 (RD.out W hW).2.2.2 r0 r1 r2 r3)
 rw [jo_plc,jo_ask3] at K10
 refine joi10 _ rfl w1.heap.size w3.heap.size 3 3 (.slice A1 6 c1) (.slice A2 4 c2) (.slice B1 6 d1) (.slice B2 4 d2) true 0 _ w12 _ rfl rfl rfl (fun W hW=>CE.out W (HB12.out.trans (hW.mono HB12.out.size))) (fun W _=>of_any 0 1 1 2 W) (fun W s0 s1 s2 s3 hW r0 r1 r2 r3=>K10.out W s0 s1 s2 s3 (HB12.out.trans (hW.mono HB12.out.size)) r0 r1 r2 r3) ?_
 intro w13 v73 v74 v75 v76 v77 hb13
 have HB1213:=Lib.hid hb13
 have HB13:=Lib.hid (HB12.out.trans (hb13.mono HB12.out.size))
 clear hb13
 simp only [List.setIfInBounds_toArray,List.set_cons_succ,List.set_cons_zero]
 go_upto_region 13 with (fail)
 have K13:Hid (∀ W g,Below w4.heap.size w4 W→Rd encInt 1 W (some ⟨g,0,none⟩) 2 2 [0,7]→Calls Tryz.prog 19 #[.agg #[.int .i64 3,.slice A1 6 c1,.slice A2 4 c2],.agg #[.int .i64 3,.slice B1 6 d1,.slice B2 4 d2],.agg #[.int .i64 0,.int .i64 1,.int .i64 0,.int .i64 1],.agg #[.bool false,.slice (some ⟨g,0,none⟩) 2 2]] W fun e w'=> ∃ a b,e = .returned (.tuple #[a,b])∧Below W.heap.size W w'∧(b = .int .i64 0∧∃ A' c',a = .slice A' 2 c'∧Rd encInt 1 w' A' 2 c' [1,6])):=(show ∀ W g,_→_→_ from fun W g hW hr=>by
  have h:=Rests_any outF A1 6 c1 A2 4 c2 outS B1 6 d1 B2 4 d2 (prO 0 1 0 1) false (some ⟨g,0,none⟩) 2 2 [0,7] W (RD.out W hW).1 (RD.out W hW).2.1 (RD.out W hW).2.2.1 (RD.out W hW).2.2.2 hr (by omega)
  rw [jo_rerr,jo_rests] at h
  refine Calls.mono h ?_
  rintro e w' ⟨A',c',rfl,hb,ho⟩
  exact ⟨_,_,rfl,hb,rfl,A',c',rfl,ho.rd (fun _=>rfl) (by simp)⟩)
 refine joi13 _ rfl w1.heap.size w3.heap.size 3 3 (.slice A1 6 c1) (.slice A2 4 c2) (.slice B1 6 d1) (.slice B2 4 d2) _ w13 _ rfl rfl rfl (fun a b W=>b = .int .i64 0∧∃ A' c',a = .slice A' 2 c'∧Rd encInt 1 W A' 2 c' [1,6]) (fun W hW=>CE.out W (HB13.out.trans (hW.mono HB13.out.size))) (fun W _=>of_any 0 1 0 1 W) (fun W g hW hr=>K13.out W g (HB13.out.trans (hW.mono HB13.out.size)) hr) ?_
 rintro v78 r1 r2 w14 hb14 ⟨rfl,IA,ic,rfl,hi14⟩
 have HB14:=Lib.hid (HB13.out.trans (hb14.mono HB13.out.size))
 have HBG:=Lib.hid (HB1213.out.trans (hb14.mono HB1213.out.size))
 have HI14:=Lib.hid hi14
 clear hb14 hi14
 simp only [setsL,Nat.reduceAdd,List.setIfInBounds_toArray,List.set_cons_succ,List.set_cons_zero]
 have HFB:Hid (∀ W,Below w14.heap.size w14 W→W.cell? ⟨g,0,none⟩=some (.bool true)∧W.cell? ⟨g,1,none⟩=some (.slice FA 2 fc)):=(show ∀ W,_→_ from fun W hW=>by
  have hh:=(hW.block g (by have:=HBG.out.size;omega)).trans ((HBG.out.block g hgl).trans HE12.out)
  simp [World.cell?,hh])
 have HMR:Hid (∀ W,Below w14.heap.size w14 W→Rd encPairing 4 W MA 1 mc [prO 0 2 0 2]∧Rd encInt 1 W IA 2 ic [1,6]):=(show ∀ W,_→_ from fun W hW=>by
  have hw8:Below w8.heap.size w8 w14:=(HB89.out.trans ((HB911.out.trans ((HB1112.out.trans (HBG.out.mono HB1112.out.size)).mono HB911.out.size)).mono HB89.out.size))
  exact ⟨((HM8.out.below hw8 (Nat.le_refl _)).below hW (Nat.le_refl _)).rd (fun _=>rfl) (by omega),HI14.out.below hW (Nat.le_refl _)⟩)
 have HWW:=Lib.hid (HB4.out.trans (HB14.out.mono HB4.out.size))
 clear CE RD KM K3 K4 K5 K6 K7 K8 K9 K10 K13 RC
 go_wp2_with (first
  | (go_at_call 12;(with_reducible refine (of_any 0 2 0 2 _).mono ?_);rintro e w15 ⟨rfl,hb15⟩
     have HB15:=Lib.hid hb15
     obtain ⟨w16,a16,b16,z16,e16⟩:=alloc_facts w15 #[.int .i64 0,.int .i64 2,.int .i64 0,.int .i64 2] 25
     have HA16:=Lib.hid a16
     have HB16:=Lib.hid (hb15.trans (b16.mono hb15.size))
     have hrs:=Rd.single (enc:=encPairing) (k:=4) w15 #[.int .i64 0,.int .i64 2,.int .i64 0,.int .i64 2] 25 [prO 0 2 0 2] 1 rfl (by omega) (fun _=>rfl) (by simp [encPairing,prO])
     rw [a16] at hrs
     have HRS:=Lib.hid hrs
     clear hb15 a16 b16 e16 hrs)
  | rw [HA16.out]
  | (go_at_call 20;(with_reducible refine (samePr_any _ _ _ _ _ _ _ _ w16 (HMR.out w16 HB16.out).1 HRS.out).mono ?_);rintro e w17 ⟨rfl,hb17⟩
     rw [decide_eq_true rfl]
     have HB17:=Lib.hid (HB16.out.trans (hb17.mono HB16.out.size))
     obtain ⟨f0,f1⟩:=HFB.out w17 HB17.out
     obtain ⟨w18,a18,b18,z18,e18⟩:=alloc_facts w17 #[.int .i64 1,.int .i64 6] 3
     have HA18:=Lib.hid a18
     have HB18:=Lib.hid (HB17.out.trans (b18.mono HB17.out.size))
     have hrt:=Rd.single (enc:=encInt) (k:=1) w17 #[.int .i64 1,.int .i64 6] 3 [1,6] 2 rfl (by omega) (fun _=>rfl) (by simp [encInt])
     rw [a18] at hrt
     have HRT:=Lib.hid hrt
     clear hb17 a18 b18 e18 hrt)
  | rw [HA18.out]
  | (go_at_call 21;(with_reducible refine (same_any _ _ _ _ _ _ _ _ w18 (HMR.out w18 HB18.out).2 HRT.out).mono ?_);rintro e w19 ⟨rfl,hb19⟩
     rw [decide_eq_true rfl]
     have HB19:=Lib.hid (HB18.out.trans (hb19.mono HB18.out.size))
     clear hb19))
 go_ret
 exact ⟨rfl,HWW.out.trans (HB19.out.mono HWW.out.size)⟩
end Go.Proofs.YtpmkgmilfifkpaaGreatDoor
end

/- Contracts that the laws lean on: R3K, R3Cp. -/
import Derived.Test.YtccabpahfmoamaaGreatME38
set_option maxRecDepth 100000
set_option maxHeartbeats 16000000
section
namespace Go.Proofs.YtccabpahfmoamaaGreat
open Go.RowKit Go.Proofs Go.Shelf
theorem r3near_any (A:Option Addr) (n c:Nat) (xs:List Int) (v:Int) (w:World) (hx:Rd encInt 1 w A n c xs):
 Calls Tryz.prog 68 #[.slice A n c,.int .i64 v] w fun e w'=>e = .returned (.bool (!xs.any farN&&decide ((xs.length:Int)=v)))∧Below w.heap.size w w':=by
 have hlx:=hx.len
 have hbx:=hx.big
 have HX:=Lib.hid hx
 have HLX:=Lib.hid hlx
 have HBAD:Hid (∀ (j:Nat) (x:Int),xs[j]? = some x→farN x=true→xs.any farN=true):=(show ∀ (j:Nat) (x:Int),_ from fun j x h1 h2=>List.any_eq_true.2 ⟨x,List.mem_of_getElem? h1,h2⟩)
 have HGOOD:Hid ((∀ (j:Nat) (x:Int),j<n→xs[j]? = some x→farN x=false)→xs.any farN=false):=(show _→_ from fun h=>by
  rw [List.any_eq_false]
  intro x hx
  obtain ⟨j,hj,hjx⟩:=List.getElem_of_mem hx
  rw [h j x (by omega) (by rw [List.getElem?_eq_getElem hj,hjx])]
  decide)
 clear hx hlx
 generalize xs.any farN=fv at *
 go_enter Tryz.func68,Tryz.ntmps68
 go_wp2
 go_loopw [5] (fun s5 wr=> ∃ k:Nat,k≤n∧s5 = .int .i64 k∧Hid (Below w.heap.size w wr)∧Hid (∀ (j:Nat) (x:Int),j<k→xs[j]? = some x→farN x=false)) (fun s5 _=>n-(intOf s5).toNat)
 case atStart=>exact ⟨0,Nat.zero_le _,rfl,(show Below _ _ _ from Below.refl _ _),(show ∀ (j:Nat) (x:Int),_ from fun j x h=>by omega)⟩
 case round=>
  obtain ⟨k,hk,rfl,hbr,hall⟩:=hrel
  by_cases hlt:k<n
  · obtain ⟨b,off,x,rfl,hbw,hxk,hcx⟩:=(HX.out.below hbr.out (Nat.le_refl _)).one hlt
    have g1:wr.cell? ⟨b,off+k,none⟩=some (.int .i64 x):=(by have:=hcx 0 _ rfl;simpa using this)
    have HXK:=Lib.hid hxk
    clear hcx hxk
    by_cases h1:x < -100000000
    · have hf:farN x=true:=by unfold farN;rw [decide_eq_true h1];rfl
      obtain rfl:=HBAD.out k x HXK.out hf
      have d1:decide (x < -100000000)=true:=decide_eq_true h1
      clear hf
      go_wp2
      go_ret
      exact ⟨rfl,hbr.out⟩
    · have d1:decide (x < -100000000)=false:=decide_eq_false h1
      by_cases h2:(100000000:Int)<x
      · have hf:farN x=true:=by unfold farN;rw [decide_eq_true h2,Bool.or_true]
        obtain rfl:=HBAD.out k x HXK.out hf
        have d2:decide (x>100000000)=true:=decide_eq_true h2
        clear hf
        go_wp2
        go_ret
        exact ⟨rfl,hbr.out⟩
      · have hf:farN x=false:=by unfold farN;rw [decide_eq_false h1,decide_eq_false h2];rfl
        have d2:decide (x>100000000)=false:=decide_eq_false h2
        have HF:=Lib.hid hf
        clear hf
        go_wp2
        go_roundw
        case rel=>exact ⟨k+1,by omega,by go_num,(show Below _ _ _ from hbr.out),(show ∀ (j:Nat) (y:Int),_ from fun j y hj hy=>by
         by_cases e:j=k
         · subst e
           rw [HXK.out] at hy
           cases hy
           exact HF.out
         · exact hall.out j y (by omega) hy)⟩
        case measure=>simp [intOf];omega
  · have hkn:k=n:=by omega
    subst hkn
    obtain rfl:=HGOOD.out hall.out
    go_wp2
    go_ret
    refine ⟨?_,hbr.out⟩
    rw [HLX.out]
    simp only
    rfl
theorem r3keeps_any (A:Option Addr) (n c:Nat) (bs:List Bound) (X:Option Addr) (m d:Nat) (xs:List Int) (w:World) (hl:Rd encBound 4 w A n c bs) (hx:Rd encInt 1 w X m d xs) (hb:∀ b∈bs,0≤b.src∧b.src<m∧0≤b.dst∧b.dst<m∧ -1000000≤b.most∧b.most≤1000000) (hv:∀ x∈xs,-100000000≤x∧x≤100000000):
 Calls Tryz.prog 69 #[.slice A n c,.slice X m d] w fun e w'=>e = .returned (.bool (keepsB bs xs))∧Below w.heap.size w w':=by
 have hll:=hl.len
 have hbl:=hl.big
 have HL:=Lib.hid hl
 have HX:=Lib.hid hx
 have HLL:=Lib.hid hll
 have HP:Hid (∀ (j:Nat) (b:Bound),bs[j]? = some b→0≤b.src∧b.src<m∧0≤b.dst∧b.dst<m∧ -1000000≤b.most∧b.most≤1000000):=(show ∀ (j:Nat) (b:Bound),_→_ from fun j b h=>hb b (List.mem_of_getElem? h))
 have HV:=Lib.hid (gI_bnd hv)
 have HBAD:Hid (∀ (j:Nat) (b:Bound),bs[j]? = some b→b.most<gI xs b.dst-gI xs b.src→keepsB bs xs=false):=(show ∀ (j:Nat) (b:Bound),_ from fun j b h1 h2=>by
  unfold keepsB
  rw [List.all_eq_false]
  exact ⟨b,List.mem_of_getElem? h1,by rw [show decide (b.most<xs.getD b.dst.toNat 0-xs.getD b.src.toNat 0)=true from decide_eq_true h2];decide⟩)
 have HGOOD:Hid ((∀ (j:Nat) (b:Bound),j<n→bs[j]? = some b→gI xs b.dst-gI xs b.src≤b.most)→keepsB bs xs=true):=(show _→_ from fun h=>by
  unfold keepsB
  rw [List.all_eq_true]
  intro b hb
  obtain ⟨j,hj,hjx⟩:=List.getElem_of_mem hb
  have:=h j b (by omega) (by rw [List.getElem?_eq_getElem hj,hjx])
  rw [Bool.not_eq_true',decide_eq_false_iff_not]
  unfold gI at this
  omega)
 clear hl hll hx hb hv
 generalize keepsB bs xs=kv at *
 go_enter Tryz.func69,Tryz.ntmps69
 go_wp2
 go_loopw [5] (fun s5 wr=> ∃ k:Nat,k≤n∧s5 = .int .i64 k∧Hid (Below w.heap.size w wr)∧Hid (∀ (j:Nat) (b:Bound),j<k→bs[j]? = some b→gI xs b.dst-gI xs b.src≤b.most)) (fun s5 _=>n-(intOf s5).toNat)
 case atStart=>exact ⟨0,Nat.zero_le _,rfl,(show Below _ _ _ from Below.refl _ _),(show ∀ (j:Nat) (b:Bound),_ from fun j x h=>by omega)⟩
 case round=>
  obtain ⟨k,hk,rfl,hbr,hall⟩:=hrel
  by_cases hlt:k<n
  · obtain ⟨b,off,x,rfl,hbw,hxk,hcx⟩:=(HL.out.below hbr.out (Nat.le_refl _)).one hlt
    obtain ⟨p1,p2,p3,p4,p5,p6⟩:=HP.out k x hxk
    have c0:wr.cell? ⟨b,off+k * 4,none⟩=some (.int .i64 x.src):=hcx 0 _ rfl
    have c1:wr.cell? ⟨b,off+k * 4+1,none⟩=some (.int .i64 x.dst):=hcx 1 _ rfl
    have c2:wr.cell? ⟨b,off+k * 4+2,none⟩=some (.int .i64 x.most):=hcx 2 _ rfl
    obtain ⟨bx,ox,rfl,hxw,hci⟩:=(HX.out.below hbr.out (Nat.le_refl _)).gI (by omega)
    have g1:=hci x.src p1 p2
    have g2:=hci x.dst p3 p4
    have u1:=HV.out x.src
    have u2:=HV.out x.dst
    have HXK:=Lib.hid hxk
    have HBK:=Lib.hid (fun h=>HBAD.out k x hxk h)
    clear hcx hxk hci
    have HAK:Hid (∀ h:gI xs x.dst-gI xs x.src≤x.most,∀ (j:Nat) (b:Bound),j<k+1→bs[j]? = some b→gI xs b.dst-gI xs b.src≤b.most):=(show ∀ _,_ from fun h j y hj hy=>by
     by_cases e:j=k
     · subst e
       rw [HXK.out] at hy
       cases hy
       exact h
     · exact hall.out j y (by omega) hy)
    generalize gI xs x.src=y1 at *
    generalize gI xs x.dst=y2 at *
    have v1:IntKind.i64.wrap (y2-y1)=y2-y1:=(by rw [IntKind.wrap_i64];omega)
    by_cases h1:x.most<y2-y1
    · obtain rfl:=HBK.out h1
      have d1:decide (y2-y1>x.most)=true:=decide_eq_true h1
      go_wp2_with (go_quiet (fail))
      go_ret
      exact ⟨rfl,by first|exact hbr.out|exact hbr.out.drew|exact below_drewN' hbr.out _⟩
    · have d1:decide (y2-y1>x.most)=false:=decide_eq_false h1
      have HA2:=Lib.hid (HAK.out (by omega))
      clear HAK HBK u1 u2
      go_wp2_with (go_quiet (fail))
      go_roundw
      case rel=>exact ⟨k+1,by omega,by go_num,(show Below _ _ _ from by first|exact hbr.out|exact hbr.out.drew|exact below_drewN' hbr.out _),HA2⟩
      case measure=>simp [intOf];omega
  · have hkn:k=n:=by omega
    subst hkn
    obtain rfl:=HGOOD.out hall.out
    go_wp2
    go_ret
    exact ⟨rfl,hbr.out⟩
def nearR (pts:Int) (xs:List Int):Bool:= !xs.any farN&&decide ((xs.length:Int)=pts)
theorem rowK_no {r:Row3} (h:nearR r.1 r.2.2=false):rowK r=false:=by
 unfold nearR at h
 unfold rowK keepsC fitsB
 cases ha:r.2.2.any farN
 · rw [ha,Bool.not_false,Bool.true_and] at h
   rw [h]
   rfl
 · rfl
theorem nearR_true {pts:Int} {xs:List Int} (h:nearR pts xs=true):(xs.length:Int)=pts∧∀ x∈xs,-100000000≤x∧x≤100000000:=by
 unfold nearR at h
 simp only [Bool.and_eq_true,Bool.not_eq_true',List.any_eq_false,decide_eq_true_eq] at h
 refine ⟨h.2,fun x hx=> ?_⟩
 have:=h.1 x hx
 unfold farN at this
 simp only [Bool.or_eq_true,decide_eq_true_eq,not_or,Int.not_lt] at this
 omega
theorem rowK_near {r:Row3} (h:nearR r.1 r.2.2=true):rowK r=keepsB r.2.1 r.2.2:=by
 obtain ⟨h1,h2⟩:=nearR_true h
 have hf:r.2.2.any farN=false:=by
  unfold nearR at h
  rw [Bool.and_eq_true,Bool.not_eq_true'] at h
  exact h.1
 have hn:r.2.2.all nearN=true:=List.all_eq_true.2 fun x hx=>withinB_iff.2 (by have:=h2 x hx;omega)
 unfold rowK keepsC fitsB
 rw [hf,hn,decide_eq_true h1]
 rfl
theorem rowK_keep {r:Row3} (h:nearR r.1 r.2.2=true) {b:Bool} (hb:keepsB r.2.1 r.2.2=b):rowK r=b:=(rowK_near h).trans hb
theorem four_bools (b0 b1 b2 b3:Bool):(b0=true∧b1=true∧b2=true∧b3=true)∨b0=false∨(b0=true∧b1=false)∨(b0=true∧b1=true∧b2=false)∨(b0=true∧b1=true∧b2=true∧b3=false):=by
 revert b0 b1 b2 b3
 decide
theorem r3CheckPlace_any (A:Outl) (AwA:Option Addr) (Awn Awc:Nat) (AtA:Option Addr) (Atn Atc:Nat) (B:Outl) (BwA:Option Addr) (Bwn Bwc:Nat) (BtA:Option Addr) (Btn Btc:Nat) (p:Pairing) (X0 X1 X2 X3:Option Addr) (n0 k0 n1 k1 n2 k2 n3 k3:Nat) (xa xb da db:List Int) (w:World) (Aw:Rd encBound 4 w AwA Awn Awc A.ways) (At:Rd encBound 4 w AtA Atn Atc A.turns) (Bw:Rd encBound 4 w BwA Bwn Bwc B.ways) (Bt:Rd encBound 4 w BtA Btn Btc B.turns) (h0:Rd encInt 1 w X0 n0 k0 xa) (h1:Rd encInt 1 w X1 n1 k1 xb) (h2:Rd encInt 1 w X2 n2 k2 da) (h3:Rd encInt 1 w X3 n3 k3 db):
 Calls Tryz.prog 19 #[.agg #[.int .i64 A.n,.slice AwA Awn Awc,.slice AtA Atn Atc],.agg #[.int .i64 B.n,.slice BwA Bwn Bwc,.slice BtA Btn Btc],.agg #[.int .i64 p.a.lo,.int .i64 p.a.hi,.int .i64 p.b.lo,.int .i64 p.b.hi],.agg #[.slice X0 n0 k0,.slice X1 n1 k1,.slice X2 n2 k2,.slice X3 n3 k3]] w fun e w'=>e = .returned (.tuple #[.bool (plcB A B p xa xb da db),.int .i64 (askedErr A B p)])∧Below w.heap.size w w':=by
 obtain ⟨w1,hw1,hb1,hz1,hbx⟩:=boxABP w A AwA Awn Awc AtA Atn Atc B BwA Bwn Bwc BtA Btn Btc p
 obtain ⟨w2,a2,b2,z2,e2⟩:=alloc_facts w1 #[.slice X0 n0 k0,.slice X1 n1 k1,.slice X2 n2 k2,.slice X3 n3 k3] 31
 have KX:Hid (∀ W,Below w2.heap.size w2 W→BoxABP w.heap.size A AwA Awn Awc AtA Atn Atc B BwA Bwn Bwc BtA Btn Btc p W):=(show ∀ W,_→_ from fun W h=>hbx W (b2.trans (h.mono b2.size)))
 rw [hz1] at e2
 have HCX:Hid (∀ W,Below w2.heap.size w2 W→W.cell? ⟨w.heap.size+1+1+1,0,none⟩=some (.slice X0 n0 k0)∧W.cell? ⟨w.heap.size+1+1+1,1,none⟩=some (.slice X1 n1 k1)∧W.cell? ⟨w.heap.size+1+1+1,2,none⟩=some (.slice X2 n2 k2)∧W.cell? ⟨w.heap.size+1+1+1,3,none⟩=some (.slice X3 n3 k3)):=(show ∀ W,_→_ from fun W hW=>by
  have hf:=(hW.block (w.heap.size+1+1+1) (by omega)).trans e2
  simp [World.cell?,hf])
 have hb2:=hb1.trans (b2.mono hb1.size)
 have RA:Hid (∀ W,Below w2.heap.size w2 W→Rd encBound 4 W AwA Awn Awc A.ways∧Rd encBound 4 W AtA Atn Atc A.turns∧Rd encBound 4 W BwA Bwn Bwc B.ways∧Rd encBound 4 W BtA Btn Btc B.turns):=(show ∀ W,_→_ from fun W h=>⟨(Aw.below hb2 (Nat.le_refl _)).below h (Nat.le_refl _),(At.below hb2 (Nat.le_refl _)).below h (Nat.le_refl _),(Bw.below hb2 (Nat.le_refl _)).below h (Nat.le_refl _),(Bt.below hb2 (Nat.le_refl _)).below h (Nat.le_refl _)⟩)
 have RX:Hid (∀ W,Below w2.heap.size w2 W→Rd encInt 1 W X0 n0 k0 xa∧Rd encInt 1 W X1 n1 k1 xb∧Rd encInt 1 W X2 n2 k2 da∧Rd encInt 1 W X3 n3 k3 db):=(show ∀ W,_→_ from fun W h=>⟨(h0.below hb2 (Nat.le_refl _)).below h (Nat.le_refl _),(h1.below hb2 (Nat.le_refl _)).below h (Nat.le_refl _),(h2.below hb2 (Nat.le_refl _)).below h (Nat.le_refl _),(h3.below hb2 (Nat.le_refl _)).below h (Nat.le_refl _)⟩)
 have K1:=Lib.hid (fun W (h:Below w2.heap.size w2 W)=>r3Asked_any A AwA Awn Awc AtA Atn Atc B BwA Bwn Bwc BtA Btn Btc p W (RA.out W h).1 (RA.out W h).2.1 (RA.out W h).2.2.1 (RA.out W h).2.2.2)
 have hl0:=h0.len;have hl1:=h1.len;have hl2:=h2.len;have hl3:=h3.len
 have HB2:=Lib.hid hb2
 have HW1:=Lib.hid hw1
 have HW2:=Lib.hid a2
 obtain ⟨xa0,xa1,xa2,xb0,xb1,xb2,xp0,xp1,xp2,xp3⟩:=KX.out w2 (Below.refl _ _)
 clear Aw At Bw Bt hb1 hbx hw1 a2 b2 z2 e2 h0 h1 h2 h3 hb2
 by_cases h1:askedErr A B p=0
 case neg=>
  have hv:plcB A B p xa xb da db=false:=by unfold plcB;rw [decide_eq_false h1,Bool.false_and]
  rw [hv]
  have h1':(askedErr A B p != 0)=true:=by simpa using h1
  clear h1 hv hl0 hl1 hl2 hl3
  generalize askedErr A B p=er at *
  go_enter Tryz.func19,Tryz.ntmps19
  go_wp2_with (first
   | rw [HW1.out]
   | rw [HW2.out]
   | (go_at_call 67;(with_reducible refine (K1.out _ (Below.refl _ _)).mono ?_);rintro e w3 ⟨rfl,hb3⟩;have HB3:=Lib.hid hb3;clear hb3))
  go_ret2
  exact ⟨rfl,HB2.out.trans (HB3.out.mono HB2.out.size)⟩
 case pos=>
  have hok:=askedErr_zero.1 h1
  have HPR:=Lib.hid (fun k r (h:(rowsL A B xa xb da db)[k]? = some r) (hr:rowK r=false)=>plcB_row (A:=A) (B:=B) (p:=p) h hr)
  have HPM:=Lib.hid (fun m (hm:m≤(p.a.hi-p.a.lo).toNat) (hr:roundB p xa xb da db m=false)=>plcB_round (A:=A) (B:=B) (p:=p) hm hr)
  have HPT:=Lib.hid (plcB_true (xa:=xa) (xb:=xb) (da:=da) (db:=db) h1)
  obtain ⟨cA1,cA2,cA3,cA4⟩:=checkOut_zero.1 hok.a
  obtain ⟨cB1,cB2,cB3,cB4⟩:=checkOut_zero.1 hok.b
  have HCK:Hid (checkSys (A.n+1) A.ways=0∧checkSys A.n A.turns=0∧checkSys (B.n+1) B.ways=0∧checkSys B.n B.turns=0):=(show _∧_ from ⟨cA3,cA4,cB3,cB4⟩)
  have pa0:=hok.a0;have pa1:=hok.a1;have pa2:=hok.a2;have pb0:=hok.b0;have pb1:=hok.b1;have pb2:=hok.b2
  have HPK:=Lib.hid hok.k
  have wA:IntKind.i64.wrap (A.n+1)=A.n+1:=(by rw [IntKind.wrap_i64];omega)
  have wB:IntKind.i64.wrap (B.n+1)=B.n+1:=(by rw [IntKind.wrap_i64];omega)
  rw [h1] at K1 ⊢
  clear h1 hok cA3 cA4 cB3 cB4
  generalize plcB A B p xa xb da db=pv at *
  have KN0:Hid (∀ W,Below w2.heap.size w2 W→Calls Tryz.prog 68 #[.slice X0 n0 k0,.int .i64 (A.n+1)] W fun e w'=>e = .returned (.bool (nearR (A.n+1) xa))∧Below W.heap.size W w'):=(show ∀ W,_→_ from fun W h=>r3near_any X0 n0 k0 xa (A.n+1) W (RX.out W h).1)
  have KN1:Hid (∀ W,Below w2.heap.size w2 W→Calls Tryz.prog 68 #[.slice X1 n1 k1,.int .i64 (B.n+1)] W fun e w'=>e = .returned (.bool (nearR (B.n+1) xb))∧Below W.heap.size W w'):=(show ∀ W,_→_ from fun W h=>r3near_any X1 n1 k1 xb (B.n+1) W (RX.out W h).2.1)
  have KN2:Hid (∀ W,Below w2.heap.size w2 W→Calls Tryz.prog 68 #[.slice X2 n2 k2,.int .i64 A.n] W fun e w'=>e = .returned (.bool (nearR A.n da))∧Below W.heap.size W w'):=(show ∀ W,_→_ from fun W h=>r3near_any X2 n2 k2 da A.n W (RX.out W h).2.2.1)
  have KN3:Hid (∀ W,Below w2.heap.size w2 W→Calls Tryz.prog 68 #[.slice X3 n3 k3,.int .i64 B.n] W fun e w'=>e = .returned (.bool (nearR B.n db))∧Below W.heap.size W w'):=(show ∀ W,_→_ from fun W h=>r3near_any X3 n3 k3 db B.n W (RX.out W h).2.2.2)
  have HQ0:Hid (nearR (A.n+1) xa=false→pv=false):=(show _→_ from fun h=>HPR.out 0 _ rfl (rowK_no h))
  have HQ1:Hid (nearR (B.n+1) xb=false→pv=false):=(show _→_ from fun h=>HPR.out 1 _ rfl (rowK_no h))
  have HQ2:Hid (nearR A.n da=false→pv=false):=(show _→_ from fun h=>HPR.out 2 _ rfl (rowK_no h))
  have HQ3:Hid (nearR B.n db=false→pv=false):=(show _→_ from fun h=>HPR.out 3 _ rfl (rowK_no h))
  obtain ⟨b0,hb0⟩:∃ b,nearR (A.n+1) xa=b:=⟨_,rfl⟩
  obtain ⟨b1,hb1⟩:∃ b,nearR (B.n+1) xb=b:=⟨_,rfl⟩
  obtain ⟨b2,hb2⟩:∃ b,nearR A.n da=b:=⟨_,rfl⟩
  obtain ⟨b3,hb3⟩:∃ b,nearR B.n db=b:=⟨_,rfl⟩
  rw [hb0] at KN0 HQ0
  rw [hb1] at KN1 HQ1
  rw [hb2] at KN2 HQ2
  rw [hb3] at KN3 HQ3
  rcases four_bools b0 b1 b2 b3 with ⟨rfl,rfl,rfl,rfl⟩|h|h|h|h
  case inr.inl=>
   subst h
   obtain rfl:=HQ0.out rfl
   clear hb0 hb1 hb2 hb3 hl0 hl1 hl2 hl3
   go_enter Tryz.func19,Tryz.ntmps19
   go_wp2_with (first
    | rw [HW1.out]
    | rw [HW2.out]
    | (go_at_call 67;(with_reducible refine (K1.out _ (Below.refl _ _)).mono ?_);rintro e w3 ⟨rfl,hb3⟩
       have HB3:=Lib.hid (hb3)
       obtain ⟨xa0,xa1,xa2,xb0,xb1,xb2,xp0,xp1,xp2,xp3⟩:=KX.out w3 HB3.out
       obtain ⟨y0,y1,y2,y3⟩:=HCX.out w3 HB3.out
       clear hb3)
    | (go_at_call 68;(with_reducible refine (KN0.out _ HB3.out).mono ?_);rintro e w4 ⟨rfl,hb4⟩
       have HB4:=Lib.hid (HB3.out.trans (hb4.mono HB3.out.size))
       obtain ⟨xa0,xa1,xa2,xb0,xb1,xb2,xp0,xp1,xp2,xp3⟩:=KX.out w4 HB4.out
       obtain ⟨y0,y1,y2,y3⟩:=HCX.out w4 HB4.out
       clear hb4))
   go_ret2
   exact ⟨rfl,HB2.out.trans (HB4.out.mono HB2.out.size)⟩
  case inr.inr.inl=>
   obtain ⟨rfl,rfl⟩:=h
   obtain rfl:=HQ1.out rfl
   clear hb0 hb1 hb2 hb3 hl0 hl1 hl2 hl3
   go_enter Tryz.func19,Tryz.ntmps19
   go_wp2_with (first
    | rw [HW1.out]
    | rw [HW2.out]
    | (go_at_call 67;(with_reducible refine (K1.out _ (Below.refl _ _)).mono ?_);rintro e w3 ⟨rfl,hb3⟩
       have HB3:=Lib.hid (hb3)
       obtain ⟨xa0,xa1,xa2,xb0,xb1,xb2,xp0,xp1,xp2,xp3⟩:=KX.out w3 HB3.out
       obtain ⟨y0,y1,y2,y3⟩:=HCX.out w3 HB3.out
       clear hb3)
    | (go_at_call 68;(with_reducible refine (KN0.out _ HB3.out).mono ?_);rintro e w4 ⟨rfl,hb4⟩
       have HB4:=Lib.hid (HB3.out.trans (hb4.mono HB3.out.size))
       obtain ⟨xa0,xa1,xa2,xb0,xb1,xb2,xp0,xp1,xp2,xp3⟩:=KX.out w4 HB4.out
       obtain ⟨y0,y1,y2,y3⟩:=HCX.out w4 HB4.out
       clear hb4)
    | (go_at_call 68;(with_reducible refine (KN1.out _ HB4.out).mono ?_);rintro e w5 ⟨rfl,hb5⟩
       have HB5:=Lib.hid (HB4.out.trans (hb5.mono HB4.out.size))
       obtain ⟨xa0,xa1,xa2,xb0,xb1,xb2,xp0,xp1,xp2,xp3⟩:=KX.out w5 HB5.out
       obtain ⟨y0,y1,y2,y3⟩:=HCX.out w5 HB5.out
       clear hb5))
   go_ret2
   exact ⟨rfl,HB2.out.trans (HB5.out.mono HB2.out.size)⟩
  case inr.inr.inr.inl=>
   obtain ⟨rfl,rfl,rfl⟩:=h
   obtain rfl:=HQ2.out rfl
   clear hb0 hb1 hb2 hb3 hl0 hl1 hl2 hl3
   go_enter Tryz.func19,Tryz.ntmps19
   go_wp2_with (first
    | rw [HW1.out]
    | rw [HW2.out]
    | (go_at_call 67;(with_reducible refine (K1.out _ (Below.refl _ _)).mono ?_);rintro e w3 ⟨rfl,hb3⟩
       have HB3:=Lib.hid (hb3)
       obtain ⟨xa0,xa1,xa2,xb0,xb1,xb2,xp0,xp1,xp2,xp3⟩:=KX.out w3 HB3.out
       obtain ⟨y0,y1,y2,y3⟩:=HCX.out w3 HB3.out
       clear hb3)
    | (go_at_call 68;(with_reducible refine (KN0.out _ HB3.out).mono ?_);rintro e w4 ⟨rfl,hb4⟩
       have HB4:=Lib.hid (HB3.out.trans (hb4.mono HB3.out.size))
       obtain ⟨xa0,xa1,xa2,xb0,xb1,xb2,xp0,xp1,xp2,xp3⟩:=KX.out w4 HB4.out
       obtain ⟨y0,y1,y2,y3⟩:=HCX.out w4 HB4.out
       clear hb4)
    | (go_at_call 68;(with_reducible refine (KN1.out _ HB4.out).mono ?_);rintro e w5 ⟨rfl,hb5⟩
       have HB5:=Lib.hid (HB4.out.trans (hb5.mono HB4.out.size))
       obtain ⟨xa0,xa1,xa2,xb0,xb1,xb2,xp0,xp1,xp2,xp3⟩:=KX.out w5 HB5.out
       obtain ⟨y0,y1,y2,y3⟩:=HCX.out w5 HB5.out
       clear hb5)
    | (go_at_call 68;(with_reducible refine (KN2.out _ HB5.out).mono ?_);rintro e w6 ⟨rfl,hb6⟩
       have HB6:=Lib.hid (HB5.out.trans (hb6.mono HB5.out.size))
       obtain ⟨xa0,xa1,xa2,xb0,xb1,xb2,xp0,xp1,xp2,xp3⟩:=KX.out w6 HB6.out
       obtain ⟨y0,y1,y2,y3⟩:=HCX.out w6 HB6.out
       clear hb6))
   go_ret2
   exact ⟨rfl,HB2.out.trans (HB6.out.mono HB2.out.size)⟩
  case inr.inr.inr.inr=>
   obtain ⟨rfl,rfl,rfl,rfl⟩:=h
   obtain rfl:=HQ3.out rfl
   clear hb0 hb1 hb2 hb3 hl0 hl1 hl2 hl3
   go_enter Tryz.func19,Tryz.ntmps19
   go_wp2_with (first
    | rw [HW1.out]
    | rw [HW2.out]
    | (go_at_call 67;(with_reducible refine (K1.out _ (Below.refl _ _)).mono ?_);rintro e w3 ⟨rfl,hb3⟩
       have HB3:=Lib.hid (hb3)
       obtain ⟨xa0,xa1,xa2,xb0,xb1,xb2,xp0,xp1,xp2,xp3⟩:=KX.out w3 HB3.out
       obtain ⟨y0,y1,y2,y3⟩:=HCX.out w3 HB3.out
       clear hb3)
    | (go_at_call 68;(with_reducible refine (KN0.out _ HB3.out).mono ?_);rintro e w4 ⟨rfl,hb4⟩
       have HB4:=Lib.hid (HB3.out.trans (hb4.mono HB3.out.size))
       obtain ⟨xa0,xa1,xa2,xb0,xb1,xb2,xp0,xp1,xp2,xp3⟩:=KX.out w4 HB4.out
       obtain ⟨y0,y1,y2,y3⟩:=HCX.out w4 HB4.out
       clear hb4)
    | (go_at_call 68;(with_reducible refine (KN1.out _ HB4.out).mono ?_);rintro e w5 ⟨rfl,hb5⟩
       have HB5:=Lib.hid (HB4.out.trans (hb5.mono HB4.out.size))
       obtain ⟨xa0,xa1,xa2,xb0,xb1,xb2,xp0,xp1,xp2,xp3⟩:=KX.out w5 HB5.out
       obtain ⟨y0,y1,y2,y3⟩:=HCX.out w5 HB5.out
       clear hb5)
    | (go_at_call 68;(with_reducible refine (KN2.out _ HB5.out).mono ?_);rintro e w6 ⟨rfl,hb6⟩
       have HB6:=Lib.hid (HB5.out.trans (hb6.mono HB5.out.size))
       obtain ⟨xa0,xa1,xa2,xb0,xb1,xb2,xp0,xp1,xp2,xp3⟩:=KX.out w6 HB6.out
       obtain ⟨y0,y1,y2,y3⟩:=HCX.out w6 HB6.out
       clear hb6)
    | (go_at_call 68;(with_reducible refine (KN3.out _ HB6.out).mono ?_);rintro e w7 ⟨rfl,hb7⟩
       have HB7:=Lib.hid (HB6.out.trans (hb7.mono HB6.out.size))
       obtain ⟨xa0,xa1,xa2,xb0,xb1,xb2,xp0,xp1,xp2,xp3⟩:=KX.out w7 HB7.out
       obtain ⟨y0,y1,y2,y3⟩:=HCX.out w7 HB7.out
       clear hb7))
   go_ret2
   exact ⟨rfl,HB2.out.trans (HB7.out.mono HB2.out.size)⟩
  case inl=>
   have r0:=nearR_true hb0
   have r1:=nearR_true hb1
   have r2:=nearR_true hb2
   have r3:=nearR_true hb3
   simp only [hl0,hl1,hl2,hl3] at r0 r1 r2 r3
   have KP:Hid (∀ (A':Option Addr) (n' c':Nat) (bs:List Bound) (X:Option Addr) (m d:Nat) (xs:List Int) (W:World),checkSys m bs=0→Rd encBound 4 W A' n' c' bs→Rd encInt 1 W X m d xs→(∀ x∈xs,-100000000≤x∧x≤100000000)→Calls Tryz.prog 69 #[.slice A' n' c',.slice X m d] W fun e w'=>e = .returned (.bool (keepsB bs xs))∧Below W.heap.size W w'):=(show ∀ A' n' c' bs X m d xs W,_→_→_→_→_ from fun A' n' c' bs X m d xs W hs h1 h2 hv=>r3keeps_any A' n' c' bs X m d xs W h1 h2 (fun b hb=>by
    obtain ⟨_,_,_,t4⟩:=checkSys_zero.1 hs
    obtain ⟨q1,q2,q3,q4,q5,q6,q7,_⟩:=wrongB_no.1 (t4 b hb)
    exact ⟨by omega,by omega,by omega,by omega,by omega,by omega⟩) hv)
   have KK0:Hid (∀ W,Below w2.heap.size w2 W→Calls Tryz.prog 69 #[.slice AwA Awn Awc,.slice X0 n0 k0] W fun e w'=>e = .returned (.bool (keepsB A.ways xa))∧Below W.heap.size W w'):=(show ∀ W,_→_ from fun W h=>KP.out _ _ _ _ _ _ _ _ W (by rw [r0.1];exact HCK.out.1) (RA.out W h).1 (RX.out W h).1 r0.2)
   have KK1:Hid (∀ W,Below w2.heap.size w2 W→Calls Tryz.prog 69 #[.slice BwA Bwn Bwc,.slice X1 n1 k1] W fun e w'=>e = .returned (.bool (keepsB B.ways xb))∧Below W.heap.size W w'):=(show ∀ W,_→_ from fun W h=>KP.out _ _ _ _ _ _ _ _ W (by rw [r1.1];exact HCK.out.2.2.1) (RA.out W h).2.2.1 (RX.out W h).2.1 r1.2)
   have KK2:Hid (∀ W,Below w2.heap.size w2 W→Calls Tryz.prog 69 #[.slice AtA Atn Atc,.slice X2 n2 k2] W fun e w'=>e = .returned (.bool (keepsB A.turns da))∧Below W.heap.size W w'):=(show ∀ W,_→_ from fun W h=>KP.out _ _ _ _ _ _ _ _ W (by rw [r2.1];exact HCK.out.2.1) (RA.out W h).2.1 (RX.out W h).2.2.1 r2.2)
   have KK3:Hid (∀ W,Below w2.heap.size w2 W→Calls Tryz.prog 69 #[.slice BtA Btn Btc,.slice X3 n3 k3] W fun e w'=>e = .returned (.bool (keepsB B.turns db))∧Below W.heap.size W w'):=(show ∀ W,_→_ from fun W h=>KP.out _ _ _ _ _ _ _ _ W (by rw [r3.1];exact HCK.out.2.2.2) (RA.out W h).2.2.2 (RX.out W h).2.2.2 r3.2)
   obtain ⟨e0,he0⟩:∃ b,keepsB A.ways xa=b:=⟨_,rfl⟩
   obtain ⟨e1,he1⟩:∃ b,keepsB B.ways xb=b:=⟨_,rfl⟩
   obtain ⟨e2,he2⟩:∃ b,keepsB A.turns da=b:=⟨_,rfl⟩
   obtain ⟨e3,he3⟩:∃ b,keepsB B.turns db=b:=⟨_,rfl⟩
   rw [he0] at KK0
   rw [he1] at KK1
   rw [he2] at KK2
   rw [he3] at KK3
   have HS0:=Lib.hid (rowK_keep (r:=(A.n+1,A.ways,xa)) hb0 he0)
   have HS1:=Lib.hid (rowK_keep (r:=(B.n+1,B.ways,xb)) hb1 he1)
   have HS2:=Lib.hid (rowK_keep (r:=(A.n,A.turns,da)) hb2 he2)
   have HS3:=Lib.hid (rowK_keep (r:=(B.n,B.turns,db)) hb3 he3)
   have HRR:=Lib.hid (And.intro r0 (And.intro r1 (And.intro r2 r3)))
   clear hb0 hb1 hb2 hb3 he0 he1 he2 he3 r0 r1 r2 r3 KP HQ0 HQ1 HQ2 HQ3
   rcases four_bools e0 e1 e2 e3 with ⟨rfl,rfl,rfl,rfl⟩|h|h|h|h
   case inr.inl=>
    subst h
    obtain rfl:=HPR.out 0 _ rfl HS0.out
    clear hl0 hl1 hl2 hl3
    go_enter Tryz.func19,Tryz.ntmps19
    go_wp2_with (first
     | rw [HW1.out]
     | rw [HW2.out]
     | (go_at_call 67;(with_reducible refine (K1.out _ (Below.refl _ _)).mono ?_);rintro e w3 ⟨rfl,hb3⟩
        have HB3:=Lib.hid (hb3)
        obtain ⟨xa0,xa1,xa2,xb0,xb1,xb2,xp0,xp1,xp2,xp3⟩:=KX.out w3 HB3.out
        obtain ⟨y0,y1,y2,y3⟩:=HCX.out w3 HB3.out
        clear hb3)
     | (go_at_call 68;(with_reducible refine (KN0.out _ HB3.out).mono ?_);rintro e w4 ⟨rfl,hb4⟩
        have HB4:=Lib.hid (HB3.out.trans (hb4.mono HB3.out.size))
        obtain ⟨xa0,xa1,xa2,xb0,xb1,xb2,xp0,xp1,xp2,xp3⟩:=KX.out w4 HB4.out
        obtain ⟨y0,y1,y2,y3⟩:=HCX.out w4 HB4.out
        clear hb4)
     | (go_at_call 68;(with_reducible refine (KN1.out _ HB4.out).mono ?_);rintro e w5 ⟨rfl,hb5⟩
        have HB5:=Lib.hid (HB4.out.trans (hb5.mono HB4.out.size))
        obtain ⟨xa0,xa1,xa2,xb0,xb1,xb2,xp0,xp1,xp2,xp3⟩:=KX.out w5 HB5.out
        obtain ⟨y0,y1,y2,y3⟩:=HCX.out w5 HB5.out
        clear hb5)
     | (go_at_call 68;(with_reducible refine (KN2.out _ HB5.out).mono ?_);rintro e w6 ⟨rfl,hb6⟩
        have HB6:=Lib.hid (HB5.out.trans (hb6.mono HB5.out.size))
        obtain ⟨xa0,xa1,xa2,xb0,xb1,xb2,xp0,xp1,xp2,xp3⟩:=KX.out w6 HB6.out
        obtain ⟨y0,y1,y2,y3⟩:=HCX.out w6 HB6.out
        clear hb6)
     | (go_at_call 68;(with_reducible refine (KN3.out _ HB6.out).mono ?_);rintro e w7 ⟨rfl,hb7⟩
        have HB7:=Lib.hid (HB6.out.trans (hb7.mono HB6.out.size))
        obtain ⟨xa0,xa1,xa2,xb0,xb1,xb2,xp0,xp1,xp2,xp3⟩:=KX.out w7 HB7.out
        obtain ⟨y0,y1,y2,y3⟩:=HCX.out w7 HB7.out
        clear hb7)
     | (go_at_call 69;(with_reducible refine (KK0.out _ HB7.out).mono ?_);rintro e w8 ⟨rfl,hb8⟩
        have HB8:=Lib.hid (HB7.out.trans (hb8.mono HB7.out.size))
        obtain ⟨xa0,xa1,xa2,xb0,xb1,xb2,xp0,xp1,xp2,xp3⟩:=KX.out w8 HB8.out
        obtain ⟨y0,y1,y2,y3⟩:=HCX.out w8 HB8.out
        clear hb8))
    go_ret2
    exact ⟨rfl,HB2.out.trans (HB8.out.mono HB2.out.size)⟩
   case inr.inr.inl=>
    obtain ⟨rfl,rfl⟩:=h
    obtain rfl:=HPR.out 1 _ rfl HS1.out
    clear hl0 hl1 hl2 hl3
    go_enter Tryz.func19,Tryz.ntmps19
    go_wp2_with (first
     | rw [HW1.out]
     | rw [HW2.out]
     | (go_at_call 67;(with_reducible refine (K1.out _ (Below.refl _ _)).mono ?_);rintro e w3 ⟨rfl,hb3⟩
        have HB3:=Lib.hid (hb3)
        obtain ⟨xa0,xa1,xa2,xb0,xb1,xb2,xp0,xp1,xp2,xp3⟩:=KX.out w3 HB3.out
        obtain ⟨y0,y1,y2,y3⟩:=HCX.out w3 HB3.out
        clear hb3)
     | (go_at_call 68;(with_reducible refine (KN0.out _ HB3.out).mono ?_);rintro e w4 ⟨rfl,hb4⟩
        have HB4:=Lib.hid (HB3.out.trans (hb4.mono HB3.out.size))
        obtain ⟨xa0,xa1,xa2,xb0,xb1,xb2,xp0,xp1,xp2,xp3⟩:=KX.out w4 HB4.out
        obtain ⟨y0,y1,y2,y3⟩:=HCX.out w4 HB4.out
        clear hb4)
     | (go_at_call 68;(with_reducible refine (KN1.out _ HB4.out).mono ?_);rintro e w5 ⟨rfl,hb5⟩
        have HB5:=Lib.hid (HB4.out.trans (hb5.mono HB4.out.size))
        obtain ⟨xa0,xa1,xa2,xb0,xb1,xb2,xp0,xp1,xp2,xp3⟩:=KX.out w5 HB5.out
        obtain ⟨y0,y1,y2,y3⟩:=HCX.out w5 HB5.out
        clear hb5)
     | (go_at_call 68;(with_reducible refine (KN2.out _ HB5.out).mono ?_);rintro e w6 ⟨rfl,hb6⟩
        have HB6:=Lib.hid (HB5.out.trans (hb6.mono HB5.out.size))
        obtain ⟨xa0,xa1,xa2,xb0,xb1,xb2,xp0,xp1,xp2,xp3⟩:=KX.out w6 HB6.out
        obtain ⟨y0,y1,y2,y3⟩:=HCX.out w6 HB6.out
        clear hb6)
     | (go_at_call 68;(with_reducible refine (KN3.out _ HB6.out).mono ?_);rintro e w7 ⟨rfl,hb7⟩
        have HB7:=Lib.hid (HB6.out.trans (hb7.mono HB6.out.size))
        obtain ⟨xa0,xa1,xa2,xb0,xb1,xb2,xp0,xp1,xp2,xp3⟩:=KX.out w7 HB7.out
        obtain ⟨y0,y1,y2,y3⟩:=HCX.out w7 HB7.out
        clear hb7)
     | (go_at_call 69;(with_reducible refine (KK0.out _ HB7.out).mono ?_);rintro e w8 ⟨rfl,hb8⟩
        have HB8:=Lib.hid (HB7.out.trans (hb8.mono HB7.out.size))
        obtain ⟨xa0,xa1,xa2,xb0,xb1,xb2,xp0,xp1,xp2,xp3⟩:=KX.out w8 HB8.out
        obtain ⟨y0,y1,y2,y3⟩:=HCX.out w8 HB8.out
        clear hb8)
     | (go_at_call 69;(with_reducible refine (KK1.out _ HB8.out).mono ?_);rintro e w9 ⟨rfl,hb9⟩
        have HB9:=Lib.hid (HB8.out.trans (hb9.mono HB8.out.size))
        obtain ⟨xa0,xa1,xa2,xb0,xb1,xb2,xp0,xp1,xp2,xp3⟩:=KX.out w9 HB9.out
        obtain ⟨y0,y1,y2,y3⟩:=HCX.out w9 HB9.out
        clear hb9))
    go_ret2
    exact ⟨rfl,HB2.out.trans (HB9.out.mono HB2.out.size)⟩
   case inr.inr.inr.inl=>
    obtain ⟨rfl,rfl,rfl⟩:=h
    obtain rfl:=HPR.out 2 _ rfl HS2.out
    clear hl0 hl1 hl2 hl3
    go_enter Tryz.func19,Tryz.ntmps19
    go_wp2_with (first
     | rw [HW1.out]
     | rw [HW2.out]
     | (go_at_call 67;(with_reducible refine (K1.out _ (Below.refl _ _)).mono ?_);rintro e w3 ⟨rfl,hb3⟩
        have HB3:=Lib.hid (hb3)
        obtain ⟨xa0,xa1,xa2,xb0,xb1,xb2,xp0,xp1,xp2,xp3⟩:=KX.out w3 HB3.out
        obtain ⟨y0,y1,y2,y3⟩:=HCX.out w3 HB3.out
        clear hb3)
     | (go_at_call 68;(with_reducible refine (KN0.out _ HB3.out).mono ?_);rintro e w4 ⟨rfl,hb4⟩
        have HB4:=Lib.hid (HB3.out.trans (hb4.mono HB3.out.size))
        obtain ⟨xa0,xa1,xa2,xb0,xb1,xb2,xp0,xp1,xp2,xp3⟩:=KX.out w4 HB4.out
        obtain ⟨y0,y1,y2,y3⟩:=HCX.out w4 HB4.out
        clear hb4)
     | (go_at_call 68;(with_reducible refine (KN1.out _ HB4.out).mono ?_);rintro e w5 ⟨rfl,hb5⟩
        have HB5:=Lib.hid (HB4.out.trans (hb5.mono HB4.out.size))
        obtain ⟨xa0,xa1,xa2,xb0,xb1,xb2,xp0,xp1,xp2,xp3⟩:=KX.out w5 HB5.out
        obtain ⟨y0,y1,y2,y3⟩:=HCX.out w5 HB5.out
        clear hb5)
     | (go_at_call 68;(with_reducible refine (KN2.out _ HB5.out).mono ?_);rintro e w6 ⟨rfl,hb6⟩
        have HB6:=Lib.hid (HB5.out.trans (hb6.mono HB5.out.size))
        obtain ⟨xa0,xa1,xa2,xb0,xb1,xb2,xp0,xp1,xp2,xp3⟩:=KX.out w6 HB6.out
        obtain ⟨y0,y1,y2,y3⟩:=HCX.out w6 HB6.out
        clear hb6)
     | (go_at_call 68;(with_reducible refine (KN3.out _ HB6.out).mono ?_);rintro e w7 ⟨rfl,hb7⟩
        have HB7:=Lib.hid (HB6.out.trans (hb7.mono HB6.out.size))
        obtain ⟨xa0,xa1,xa2,xb0,xb1,xb2,xp0,xp1,xp2,xp3⟩:=KX.out w7 HB7.out
        obtain ⟨y0,y1,y2,y3⟩:=HCX.out w7 HB7.out
        clear hb7)
     | (go_at_call 69;(with_reducible refine (KK0.out _ HB7.out).mono ?_);rintro e w8 ⟨rfl,hb8⟩
        have HB8:=Lib.hid (HB7.out.trans (hb8.mono HB7.out.size))
        obtain ⟨xa0,xa1,xa2,xb0,xb1,xb2,xp0,xp1,xp2,xp3⟩:=KX.out w8 HB8.out
        obtain ⟨y0,y1,y2,y3⟩:=HCX.out w8 HB8.out
        clear hb8)
     | (go_at_call 69;(with_reducible refine (KK1.out _ HB8.out).mono ?_);rintro e w9 ⟨rfl,hb9⟩
        have HB9:=Lib.hid (HB8.out.trans (hb9.mono HB8.out.size))
        obtain ⟨xa0,xa1,xa2,xb0,xb1,xb2,xp0,xp1,xp2,xp3⟩:=KX.out w9 HB9.out
        obtain ⟨y0,y1,y2,y3⟩:=HCX.out w9 HB9.out
        clear hb9)
     | (go_at_call 69;(with_reducible refine (KK2.out _ HB9.out).mono ?_);rintro e w10 ⟨rfl,hb10⟩
        have HB10:=Lib.hid (HB9.out.trans (hb10.mono HB9.out.size))
        obtain ⟨xa0,xa1,xa2,xb0,xb1,xb2,xp0,xp1,xp2,xp3⟩:=KX.out w10 HB10.out
        obtain ⟨y0,y1,y2,y3⟩:=HCX.out w10 HB10.out
        clear hb10))
    go_ret2
    exact ⟨rfl,HB2.out.trans (HB10.out.mono HB2.out.size)⟩
   case inr.inr.inr.inr=>
    obtain ⟨rfl,rfl,rfl,rfl⟩:=h
    obtain rfl:=HPR.out 3 _ rfl HS3.out
    clear hl0 hl1 hl2 hl3
    go_enter Tryz.func19,Tryz.ntmps19
    go_wp2_with (first
     | rw [HW1.out]
     | rw [HW2.out]
     | (go_at_call 67;(with_reducible refine (K1.out _ (Below.refl _ _)).mono ?_);rintro e w3 ⟨rfl,hb3⟩
        have HB3:=Lib.hid (hb3)
        obtain ⟨xa0,xa1,xa2,xb0,xb1,xb2,xp0,xp1,xp2,xp3⟩:=KX.out w3 HB3.out
        obtain ⟨y0,y1,y2,y3⟩:=HCX.out w3 HB3.out
        clear hb3)
     | (go_at_call 68;(with_reducible refine (KN0.out _ HB3.out).mono ?_);rintro e w4 ⟨rfl,hb4⟩
        have HB4:=Lib.hid (HB3.out.trans (hb4.mono HB3.out.size))
        obtain ⟨xa0,xa1,xa2,xb0,xb1,xb2,xp0,xp1,xp2,xp3⟩:=KX.out w4 HB4.out
        obtain ⟨y0,y1,y2,y3⟩:=HCX.out w4 HB4.out
        clear hb4)
     | (go_at_call 68;(with_reducible refine (KN1.out _ HB4.out).mono ?_);rintro e w5 ⟨rfl,hb5⟩
        have HB5:=Lib.hid (HB4.out.trans (hb5.mono HB4.out.size))
        obtain ⟨xa0,xa1,xa2,xb0,xb1,xb2,xp0,xp1,xp2,xp3⟩:=KX.out w5 HB5.out
        obtain ⟨y0,y1,y2,y3⟩:=HCX.out w5 HB5.out
        clear hb5)
     | (go_at_call 68;(with_reducible refine (KN2.out _ HB5.out).mono ?_);rintro e w6 ⟨rfl,hb6⟩
        have HB6:=Lib.hid (HB5.out.trans (hb6.mono HB5.out.size))
        obtain ⟨xa0,xa1,xa2,xb0,xb1,xb2,xp0,xp1,xp2,xp3⟩:=KX.out w6 HB6.out
        obtain ⟨y0,y1,y2,y3⟩:=HCX.out w6 HB6.out
        clear hb6)
     | (go_at_call 68;(with_reducible refine (KN3.out _ HB6.out).mono ?_);rintro e w7 ⟨rfl,hb7⟩
        have HB7:=Lib.hid (HB6.out.trans (hb7.mono HB6.out.size))
        obtain ⟨xa0,xa1,xa2,xb0,xb1,xb2,xp0,xp1,xp2,xp3⟩:=KX.out w7 HB7.out
        obtain ⟨y0,y1,y2,y3⟩:=HCX.out w7 HB7.out
        clear hb7)
     | (go_at_call 69;(with_reducible refine (KK0.out _ HB7.out).mono ?_);rintro e w8 ⟨rfl,hb8⟩
        have HB8:=Lib.hid (HB7.out.trans (hb8.mono HB7.out.size))
        obtain ⟨xa0,xa1,xa2,xb0,xb1,xb2,xp0,xp1,xp2,xp3⟩:=KX.out w8 HB8.out
        obtain ⟨y0,y1,y2,y3⟩:=HCX.out w8 HB8.out
        clear hb8)
     | (go_at_call 69;(with_reducible refine (KK1.out _ HB8.out).mono ?_);rintro e w9 ⟨rfl,hb9⟩
        have HB9:=Lib.hid (HB8.out.trans (hb9.mono HB8.out.size))
        obtain ⟨xa0,xa1,xa2,xb0,xb1,xb2,xp0,xp1,xp2,xp3⟩:=KX.out w9 HB9.out
        obtain ⟨y0,y1,y2,y3⟩:=HCX.out w9 HB9.out
        clear hb9)
     | (go_at_call 69;(with_reducible refine (KK2.out _ HB9.out).mono ?_);rintro e w10 ⟨rfl,hb10⟩
        have HB10:=Lib.hid (HB9.out.trans (hb10.mono HB9.out.size))
        obtain ⟨xa0,xa1,xa2,xb0,xb1,xb2,xp0,xp1,xp2,xp3⟩:=KX.out w10 HB10.out
        obtain ⟨y0,y1,y2,y3⟩:=HCX.out w10 HB10.out
        clear hb10)
     | (go_at_call 69;(with_reducible refine (KK3.out _ HB10.out).mono ?_);rintro e w11 ⟨rfl,hb11⟩
        have HB11:=Lib.hid (HB10.out.trans (hb11.mono HB10.out.size))
        obtain ⟨xa0,xa1,xa2,xb0,xb1,xb2,xp0,xp1,xp2,xp3⟩:=KX.out w11 HB11.out
        obtain ⟨y0,y1,y2,y3⟩:=HCX.out w11 HB11.out
        clear hb11))
    go_ret2
    exact ⟨rfl,HB2.out.trans (HB11.out.mono HB2.out.size)⟩
   case inl=>
    have HAL:Hid (∀ j r,j<4→(rowsL A B xa xb da db)[j]? = some r→rowK r=true):=(show ∀ (j:Nat) (r:Row3),_ from fun j r hj hr=>by
     rcases (by omega:j=0∨j=1∨j=2∨j=3) with rfl|rfl|rfl|rfl
     · cases hr;exact HS0.out
     · cases hr;exact HS1.out
     · cases hr;exact HS2.out
     · cases hr;exact HS3.out)
    go_enter Tryz.func19,Tryz.ntmps19
    have vk:IntKind.i64.wrap (p.a.hi-p.a.lo)=p.a.hi-p.a.lo:=(by rw [IntKind.wrap_i64];omega)
    go_wp2_with (first
     | rw [HW1.out]
     | rw [HW2.out]
     | (go_at_call 67;(with_reducible refine (K1.out _ (Below.refl _ _)).mono ?_);rintro e w3 ⟨rfl,hb3⟩
        have HB3:=Lib.hid (hb3)
        obtain ⟨xa0,xa1,xa2,xb0,xb1,xb2,xp0,xp1,xp2,xp3⟩:=KX.out w3 HB3.out
        obtain ⟨y0,y1,y2,y3⟩:=HCX.out w3 HB3.out
        clear hb3)
     | (go_at_call 68;(with_reducible refine (KN0.out _ HB3.out).mono ?_);rintro e w4 ⟨rfl,hb4⟩
        have HB4:=Lib.hid (HB3.out.trans (hb4.mono HB3.out.size))
        obtain ⟨xa0,xa1,xa2,xb0,xb1,xb2,xp0,xp1,xp2,xp3⟩:=KX.out w4 HB4.out
        obtain ⟨y0,y1,y2,y3⟩:=HCX.out w4 HB4.out
        clear hb4)
     | (go_at_call 68;(with_reducible refine (KN1.out _ HB4.out).mono ?_);rintro e w5 ⟨rfl,hb5⟩
        have HB5:=Lib.hid (HB4.out.trans (hb5.mono HB4.out.size))
        obtain ⟨xa0,xa1,xa2,xb0,xb1,xb2,xp0,xp1,xp2,xp3⟩:=KX.out w5 HB5.out
        obtain ⟨y0,y1,y2,y3⟩:=HCX.out w5 HB5.out
        clear hb5)
     | (go_at_call 68;(with_reducible refine (KN2.out _ HB5.out).mono ?_);rintro e w6 ⟨rfl,hb6⟩
        have HB6:=Lib.hid (HB5.out.trans (hb6.mono HB5.out.size))
        obtain ⟨xa0,xa1,xa2,xb0,xb1,xb2,xp0,xp1,xp2,xp3⟩:=KX.out w6 HB6.out
        obtain ⟨y0,y1,y2,y3⟩:=HCX.out w6 HB6.out
        clear hb6)
     | (go_at_call 68;(with_reducible refine (KN3.out _ HB6.out).mono ?_);rintro e w7 ⟨rfl,hb7⟩
        have HB7:=Lib.hid (HB6.out.trans (hb7.mono HB6.out.size))
        obtain ⟨xa0,xa1,xa2,xb0,xb1,xb2,xp0,xp1,xp2,xp3⟩:=KX.out w7 HB7.out
        obtain ⟨y0,y1,y2,y3⟩:=HCX.out w7 HB7.out
        clear hb7)
     | (go_at_call 69;(with_reducible refine (KK0.out _ HB7.out).mono ?_);rintro e w8 ⟨rfl,hb8⟩
        have HB8:=Lib.hid (HB7.out.trans (hb8.mono HB7.out.size))
        obtain ⟨xa0,xa1,xa2,xb0,xb1,xb2,xp0,xp1,xp2,xp3⟩:=KX.out w8 HB8.out
        obtain ⟨y0,y1,y2,y3⟩:=HCX.out w8 HB8.out
        clear hb8)
     | (go_at_call 69;(with_reducible refine (KK1.out _ HB8.out).mono ?_);rintro e w9 ⟨rfl,hb9⟩
        have HB9:=Lib.hid (HB8.out.trans (hb9.mono HB8.out.size))
        obtain ⟨xa0,xa1,xa2,xb0,xb1,xb2,xp0,xp1,xp2,xp3⟩:=KX.out w9 HB9.out
        obtain ⟨y0,y1,y2,y3⟩:=HCX.out w9 HB9.out
        clear hb9)
     | (go_at_call 69;(with_reducible refine (KK2.out _ HB9.out).mono ?_);rintro e w10 ⟨rfl,hb10⟩
        have HB10:=Lib.hid (HB9.out.trans (hb10.mono HB9.out.size))
        obtain ⟨xa0,xa1,xa2,xb0,xb1,xb2,xp0,xp1,xp2,xp3⟩:=KX.out w10 HB10.out
        obtain ⟨y0,y1,y2,y3⟩:=HCX.out w10 HB10.out
        clear hb10)
     | (go_at_call 69;(with_reducible refine (KK3.out _ HB10.out).mono ?_);rintro e w11 ⟨rfl,hb11⟩
        have HB11:=Lib.hid (HB10.out.trans (hb11.mono HB10.out.size))
        obtain ⟨xa0,xa1,xa2,xb0,xb1,xb2,xp0,xp1,xp2,xp3⟩:=KX.out w11 HB11.out
        obtain ⟨y0,y1,y2,y3⟩:=HCX.out w11 HB11.out
        clear hb11))
    have HBX:=Lib.hid (HB11.out)
    have HBF:=Lib.hid (HB2.out.trans (HB11.out.mono HB2.out.size))
    rename World=>wr
    obtain ⟨xa0,xa1,xa2,xb0,xb1,xb2,xp0,xp1,xp2,xp3⟩:=KX.out wr HBX.out
    obtain ⟨y0,y1,y2,y3⟩:=HCX.out wr HBX.out
    obtain ⟨g0,g1,g2,g3⟩:=RX.out wr HBX.out
    obtain ⟨r0,r1,r2,r3⟩:=HRR.out
    have HN0:=Lib.hid (gI_bnd r0.2)
    have HN1:=Lib.hid (gI_bnd r1.2)
    have HN2:=Lib.hid (gI_bnd r2.2)
    have HN3:=Lib.hid (gI_bnd r3.2)
    have HLN:=Lib.hid (And.intro r0.1 (And.intro r1.1 (And.intro r2.1 r3.1)))
    have ln0:=r0.1;have ln1:=r1.1;have ln2:=r2.1;have ln3:=r3.1
    obtain ⟨t0,o0,rfl,hs0,hi0⟩:=g0.gI (by omega)
    obtain ⟨t1,o1,rfl,hs1,hi1⟩:=g1.gI (by omega)
    obtain ⟨t2,o2,rfl,hs2,hi2⟩:=g2.gI (by omega)
    obtain ⟨t3,o3,rfl,hs3,hi3⟩:=g3.gI (by omega)
    have HIX:Hid (∀ W,Below wr.heap.size wr W→(∀ i:Int,0≤i→i<n0→W.cell? ⟨t0,o0+i.toNat,none⟩=some (.int .i64 (gI xa i)))∧(∀ i:Int,0≤i→i<n1→W.cell? ⟨t1,o1+i.toNat,none⟩=some (.int .i64 (gI xb i)))∧(∀ i:Int,0≤i→i<n2→W.cell? ⟨t2,o2+i.toNat,none⟩=some (.int .i64 (gI da i)))∧(∀ i:Int,0≤i→i<n3→W.cell? ⟨t3,o3+i.toNat,none⟩=some (.int .i64 (gI db i)))):=(show ∀ W,_→_ from fun W hW=>⟨fun i a b=>(hW.cell hs0).trans (hi0 i a b),fun i a b=>(hW.cell hs1).trans (hi1 i a b),fun i a b=>(hW.cell hs2).trans (hi2 i a b),fun i a b=>(hW.cell hs3).trans (hi3 i a b)⟩)
    have HPX:Hid (∀ W,Below wr.heap.size wr W→(W.cell? ⟨w.heap.size+1+1+1,0,none⟩=some (.slice (some ⟨t0,o0,none⟩) n0 k0)∧W.cell? ⟨w.heap.size+1+1+1,1,none⟩=some (.slice (some ⟨t1,o1,none⟩) n1 k1)∧W.cell? ⟨w.heap.size+1+1+1,2,none⟩=some (.slice (some ⟨t2,o2,none⟩) n2 k2)∧W.cell? ⟨w.heap.size+1+1+1,3,none⟩=some (.slice (some ⟨t3,o3,none⟩) n3 k3))∧(W.cell? ⟨w.heap.size+1+1,0,none⟩=some (.int .i64 p.a.lo)∧W.cell? ⟨w.heap.size+1+1,1,none⟩=some (.int .i64 p.a.hi)∧W.cell? ⟨w.heap.size+1+1,2,none⟩=some (.int .i64 p.b.lo)∧W.cell? ⟨w.heap.size+1+1,3,none⟩=some (.int .i64 p.b.hi))):=(show ∀ W,_→_ from fun W hW=>by
     have hq:=KX.out W (HBX.out.trans (hW.mono HBX.out.size))
     obtain ⟨_,_,_,_,_,_,z0,z1,z2,z3⟩:=hq
     exact ⟨HCX.out W (HBX.out.trans (hW.mono HBX.out.size)),z0,z1,z2,z3⟩)
    clear r0 r1 r2 r3 g0 g1 g2 g3 hi0 hi1 hi2 hi3 hl0 hl1 hl2 hl3 HCK HCX KX RA RX K1 HPR HW1 HW2 xa0 xa1 xa2 xb0 xb1 xb2 HRR HS0 HS1 HS2 HS3 KN0 KN1 KN2 KN3 KK0 KK1 KK2 KK3
    clear ln0 ln1 ln2 ln3
    rename World=>wm
    go_loopw [12] (fun s12 wq=> ∃ m:Nat,(m:Int)≤p.a.hi-p.a.lo+1∧s12 = .int .i64 m∧Hid (Below wm.heap.size wm wq)∧Hid (∀ j,j<m→roundB p xa xb da db j=true)) (fun s12 _=>(p.a.hi-p.a.lo+1-intOf s12).toNat)
    case atStart=>exact ⟨0,by omega,rfl,(show Below _ _ _ from Below.refl _ _),(show ∀ j:Nat,_ from fun j h=>by omega)⟩
    case round=>
     obtain ⟨m,hm,rfl,hw,hrs⟩:=hrel
     by_cases hlm:(m:Int)<p.a.hi-p.a.lo+1
     · have hle:decide ((m:Int)≤p.a.hi-p.a.lo)=true:=decide_eq_true (by omega)
       obtain ⟨ln0,ln1,ln2,ln3⟩:=HLN.out
       have pk:=HPK.out
       obtain ⟨hi0,hi1,hi2,hi3⟩:=HIX.out wr hw.out
       obtain ⟨⟨y0,y1,y2,y3⟩,xp0,xp1,xp2,xp3⟩:=HPX.out wr hw.out
       have HI2:=Lib.hid hi2
       have HI3:=Lib.hid hi3
       have q1:=hi0 (p.a.lo+m) (by omega) (by omega)
       have q2:=hi0 p.a.lo (by omega) (by omega)
       have q3:=hi1 p.b.hi (by omega) (by omega)
       have q4:=hi1 (p.b.hi-m) (by omega) (by omega)
       have q4b:=q4
       rw [show (p.b.hi-(m:Int)).toNat=p.b.hi.toNat-m from by omega] at q4b
       have u1:=HN0.out (p.a.lo+m)
       have u2:=HN0.out p.a.lo
       have u3:=HN1.out p.b.hi
       have u4:=HN1.out (p.b.hi-m)
       have v1:IntKind.i64.wrap (p.a.lo+m)=p.a.lo+m:=(by rw [IntKind.wrap_i64];omega)
       have v4:IntKind.i64.wrap (p.b.hi-m)=p.b.hi-m:=(by rw [IntKind.wrap_i64];omega)
       have j1:0≤p.a.lo+(m:Int):=(by omega)
       have j2:p.a.lo+(m:Int)<n0:=(by omega)
       have j3:p.a.lo<n0:=(by omega)
       have j4:0≤p.b.hi:=(by omega)
       have j5:p.b.hi<n1:=(by omega)
       have j6:0≤p.b.hi-(m:Int):=(by omega)
       have j7:p.b.hi-(m:Int)<n1:=(by omega)
       clear hi0 hi1 hi2 hi3
       have HW1:Hid (roundW p xa xb m=decide (gI xa (p.a.lo+m)-gI xa p.a.lo=gI xb p.b.hi-gI xb (p.b.hi-m))):=(show _=_ from rfl)
       generalize gI xa (p.a.lo+m)=c1 at *
       generalize gI xa p.a.lo=c2 at *
       generalize gI xb p.b.hi=c3 at *
       generalize gI xb (p.b.hi-m)=c4 at *
       have v5:IntKind.i64.wrap (c1-c2)=c1-c2:=(by rw [IntKind.wrap_i64];omega)
       have v6:IntKind.i64.wrap (c3-c4)=c3-c4:=(by rw [IntKind.wrap_i64];omega)
       by_cases hc:c1-c2=c3-c4
       · have hcb:(c1-c2 != c3-c4)=false:=(by simp [hc])
         have HWT:Hid (roundW p xa xb m=true):=(show _=_ by rw [HW1.out];simp [hc])
         clear HW1 u1 u2 u3 u4
         by_cases hmk:(m:Int)<p.a.hi-p.a.lo
         · have q5:=HI2.out (p.a.lo+m) (by omega) (by omega)
           have q6:=HI2.out p.a.lo (by omega) (by omega)
           have q7:=HI3.out (p.b.hi-1-m) (by omega) (by omega)
           have q8:=HI3.out (p.b.hi-1) (by omega) (by omega)
           have q7b:=q7
           rw [show (p.b.hi-1-(m:Int)).toNat=(p.b.hi-1).toNat-m from by omega] at q7b
           have q7c:=q7
           rw [show (p.b.hi-1-(m:Int)).toNat=p.b.hi.toNat-1-m from by omega] at q7c
           have q8b:=q8
           rw [show (p.b.hi-1).toNat=p.b.hi.toNat-1 from by omega] at q8b
           have u5:=HN2.out (p.a.lo+m)
           have u6:=HN2.out p.a.lo
           have u7:=HN3.out (p.b.hi-1-m)
           have u8:=HN3.out (p.b.hi-1)
           have v7:IntKind.i64.wrap (p.b.hi-1)=p.b.hi-1:=(by rw [IntKind.wrap_i64];omega)
           have v8:IntKind.i64.wrap (p.b.hi-1-m)=p.b.hi-1-m:=(by rw [IntKind.wrap_i64];omega)
           have l2:p.a.lo+(m:Int)<n2:=(by omega)
           have l3:p.a.lo<n2:=(by omega)
           have l4:0≤p.b.hi-1:=(by omega)
           have l5:p.b.hi-1<n3:=(by omega)
           have l6:0≤p.b.hi-1-(m:Int):=(by omega)
           have l7:p.b.hi-1-(m:Int)<n3:=(by omega)
           have HD1:Hid (roundD p da db m=decide (gI da (p.a.lo+m)-gI da p.a.lo=gI db (p.b.hi-1-m)-gI db (p.b.hi-1))):=(show _=_ by unfold roundD;rw [decide_eq_true hmk];rfl)
           generalize gI da (p.a.lo+m)=c5 at *
           generalize gI da p.a.lo=c6 at *
           generalize gI db (p.b.hi-1-m)=c7 at *
           generalize gI db (p.b.hi-1)=c8 at *
           have v9:IntKind.i64.wrap (c5-c6)=c5-c6:=(by rw [IntKind.wrap_i64];omega)
           have v0:IntKind.i64.wrap (c7-c8)=c7-c8:=(by rw [IntKind.wrap_i64];omega)
           have hmd:decide ((m:Int)<p.a.hi-p.a.lo)=true:=decide_eq_true hmk
           by_cases hd:c5-c6=c7-c8
           · have hdb:(c5-c6 != c7-c8)=false:=(by simp [hd])
             have HRD:Hid (roundB p xa xb da db m=true):=(show _=_ by unfold roundB;rw [HWT.out,HD1.out];simp [hd])
             clear HD1 u5 u6 u7 u8 HWT pk ln0 ln1 ln2 ln3
             go_wp2_with (go_quiet (fail))
             go_roundw
             case rel=>exact ⟨m+1,by omega,by go_num,(show Below _ _ _ from below_drewN' hw.out _),(show ∀ j:Nat,_ from fun j hj=>by
              by_cases e:j=m
              · subst e;exact HRD.out
              · exact hrs.out j (by omega))⟩
             case measure=>simp [intOf];omega
           · have hdb:(c5-c6 != c7-c8)=true:=(by simp [hd])
             have HRD:Hid (roundB p xa xb da db m=false):=(show _=_ by unfold roundB;rw [HWT.out,HD1.out];simp [hd])
             clear HD1 u5 u6 u7 u8 HWT pk ln0 ln1 ln2 ln3
             go_wp2_with (go_quiet (fail))
             go_ret2
             have hpv:=HPM.out m (by omega) HRD.out
             exact ⟨by rw [hpv];rfl,HBF.out.trans (Below.mono (by repeat' (first|(with_reducible exact hw.out)|(with_reducible refine below_drewN' ?_ _))) HBF.out.size)⟩
         · have hmd:decide ((m:Int)<p.a.hi-p.a.lo)=false:=decide_eq_false hmk
           have HRD:Hid (roundB p xa xb da db m=true):=(show _=_ by unfold roundB roundD;rw [HWT.out,hmd];rfl)
           clear HWT pk ln0 ln1 ln2 ln3
           go_wp2_with (go_quiet (fail))
           go_roundw
           case rel=>exact ⟨m+1,by omega,by go_num,(show Below _ _ _ from below_drewN' hw.out _),(show ∀ j:Nat,_ from fun j hj=>by
            by_cases e:j=m
            · subst e;exact HRD.out
            · exact hrs.out j (by omega))⟩
           case measure=>simp [intOf];omega
       · have hcb:(c1-c2 != c3-c4)=true:=(by simp [hc])
         have HRD:Hid (roundB p xa xb da db m=false):=(show _=_ by unfold roundB;rw [HW1.out];simp [hc])
         clear HW1 u1 u2 u3 u4 pk ln0 ln1 ln2 ln3
         go_wp2_with (go_quiet (fail))
         go_ret2
         have hpv:=HPM.out m (by omega) HRD.out
         exact ⟨by rw [hpv];rfl,HBF.out.trans (Below.mono (by repeat' (first|(with_reducible exact hw.out)|(with_reducible refine below_drewN' ?_ _))) HBF.out.size)⟩
     · have hmk:m=(p.a.hi-p.a.lo).toNat+1:=by omega
       have hle:decide ((m:Int)≤p.a.hi-p.a.lo)=false:=decide_eq_false (by omega)
       go_wp2
       go_ret2
       have hpv:=HPT.out HAL.out (fun j hj=>hrs.out j (by omega))
       exact ⟨by rw [hpv];rfl,HBF.out.trans (Below.mono (by repeat' (first|(with_reducible exact hw.out)|(with_reducible refine below_drewN' ?_ _))) HBF.out.size)⟩
end Go.Proofs.YtccabpahfmoamaaGreat
end

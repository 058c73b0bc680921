/- Contracts that the laws lean on: R3Bo. -/
import Derived.Test.YtccabpahfmoamaaGreatPE38
set_option maxRecDepth 100000
set_option maxHeartbeats 8000000
section
namespace Go.Proofs.YtccabpahfmoamaaGreat
open Go.RowKit Go.Proofs Go.Shelf
structure BoxAB (k:Nat) (A:Outl) (AwA:Option Addr) (Awn Awc:Nat) (AtA:Option Addr) (Atn Atc:Nat) (B:Outl) (BwA:Option Addr) (Bwn Bwc:Nat) (BtA:Option Addr) (Btn Btc:Nat) (W:World):Prop where
 a0:W.cell? ⟨k,0,none⟩=some (.int .i64 A.n)
 a1:W.cell? ⟨k,1,none⟩=some (.slice AwA Awn Awc)
 a2:W.cell? ⟨k,2,none⟩=some (.slice AtA Atn Atc)
 b0:W.cell? ⟨k+1,0,none⟩=some (.int .i64 B.n)
 b1:W.cell? ⟨k+1,1,none⟩=some (.slice BwA Bwn Bwc)
 b2:W.cell? ⟨k+1,2,none⟩=some (.slice BtA Btn Btc)
theorem boxAB (w:World) (A:Outl) (AwA:Option Addr) (Awn Awc:Nat) (AtA:Option Addr) (Atn Atc:Nat) (B:Outl) (BwA:Option Addr) (Bwn Bwc:Nat) (BtA:Option Addr) (Btn Btc:Nat):∃ w1,((w.alloc (.cells #[.int .i64 A.n,.slice AwA Awn Awc,.slice AtA Atn Atc] 24)).alloc (.cells #[.int .i64 B.n,.slice BwA Bwn Bwc,.slice BtA Btn Btc] 24))=w1∧
 Below w.heap.size w w1∧w1.heap.size=w.heap.size+1+1∧∀ W,Below w1.heap.size w1 W→BoxAB w.heap.size A AwA Awn Awc AtA Atn Atc B BwA Bwn Bwc BtA Btn Btc W:=by
 refine ⟨_,rfl,((Below.refl _ w).alloc (Nat.le_refl _) _).alloc (by simp) _,by simp,fun W hb2=> ?_⟩
 obtain ⟨r0,r1,r2⟩:=box3 hb2
 have hb3:=(Below.refl _ _).alloc (Nat.le_refl _) (.cells #[.int .i64 B.n,.slice BwA Bwn Bwc,.slice BtA Btn Btc] 24) |>.trans (hb2.mono (by simp))
 obtain ⟨s0,s1,s2⟩:=box3 hb3
 exact ⟨s0,s1,s2,by simpa using r0,by simpa using r1,by simpa using r2⟩
section
variable {A B:Outl}
theorem twice_a (h:checkOut A≠0):twiceErr A B=checkOut A:=by unfold twiceErr bothErr;simp [h]
theorem twice_b (h:checkOut A=0) (h2:checkOut B≠0):twiceErr A B=checkOut B:=by unfold twiceErr bothErr;simp [h,h2]
theorem twice_r (h:checkOut A=0) (h2:checkOut B=0):twiceErr A B=roomErr A B:=by unfold twiceErr bothErr;simp [h,h2]
def pairsV (A B:Outl) (s:Int):List Pairing:=if twiceErr A B=0∧1≤s∧s≤16 then meetL A B s else []
end
theorem r3both_any (A:Outl) (AwA:Option Addr) (Awn Awc:Nat) (AtA:Option Addr) (Atn Atc:Nat) (B:Outl) (BwA:Option Addr) (Bwn Bwc:Nat) (BtA:Option Addr) (Btn Btc:Nat) (w:World) (Aw:Rd encBound 4 w AwA Awn Awc A.ways) (At:Rd encBound 4 w AtA Atn Atc A.turns) (Bw:Rd encBound 4 w BwA Bwn Bwc B.ways) (Bt:Rd encBound 4 w BtA Btn Btc B.turns):
 Calls Tryz.prog 100 #[.agg #[.int .i64 A.n,.slice AwA Awn Awc,.slice AtA Atn Atc],.agg #[.int .i64 B.n,.slice BwA Bwn Bwc,.slice BtA Btn Btc]] w fun e w'=>e = .returned (.int .i64 (twiceErr A B))∧Below w.heap.size w w':=by
 obtain ⟨w1,hw1,hb1,hz1,hbx⟩:=boxAB w A AwA Awn Awc AtA Atn Atc B BwA Bwn Bwc BtA Btn Btc
 have KX:=Lib.hid hbx
 have KA:=Lib.hid (fun W (h:Below w1.heap.size w1 W)=>r3CheckOutline_any A AwA Awn Awc AtA Atn Atc W ((Aw.below hb1 (Nat.le_refl _)).below h (Nat.le_refl _)) ((At.below hb1 (Nat.le_refl _)).below h (Nat.le_refl _)))
 have KB:=Lib.hid (fun W (h:Below w1.heap.size w1 W)=>r3CheckOutline_any B BwA Bwn Bwc BtA Btn Btc W ((Bw.below hb1 (Nat.le_refl _)).below h (Nat.le_refl _)) ((Bt.below hb1 (Nat.le_refl _)).below h (Nat.le_refl _)))
 have KM:=Lib.hid (fun W (h:Below w1.heap.size w1 W)=>r3many_any A AwA Awn Awc AtA Atn Atc B BwA Bwn Bwc BtA Btn Btc W ((Aw.below hb1 (Nat.le_refl _)).below h (Nat.le_refl _)) ((At.below hb1 (Nat.le_refl _)).below h (Nat.le_refl _)) ((Bw.below hb1 (Nat.le_refl _)).below h (Nat.le_refl _)) ((Bt.below hb1 (Nat.le_refl _)).below h (Nat.le_refl _)))
 have HB1:=Lib.hid hb1
 have HW1:=Lib.hid hw1
 obtain ⟨xa0,xa1,xa2,xb0,xb1,xb2⟩:=hbx w1 (Below.refl _ _)
 clear Aw At Bw Bt hb1 hw1 hbx
 by_cases h1:checkOut A=0
 case neg=>
  rw [twice_a h1]
  have h1':(checkOut A==0)=false:=by simpa using h1
  clear h1 KM KB
  generalize checkOut A=er at *
  go_enter Tryz.func100,Tryz.ntmps100
  go_wp2_with (first
   | rw [HW1.out]
   | (go_at_call 36;(with_reducible refine (KA.out _ (Below.refl _ _)).mono ?_);rintro e w2 ⟨rfl,hb2⟩;have HB2:=Lib.hid (hb2);obtain ⟨ya02,ya12,ya22,yb02,yb12,yb22⟩:=KX.out w2 HB2.out;clear hb2))
  go_ret
  exact ⟨rfl,HB1.out.trans (HB2.out.mono HB1.out.size)⟩
 case pos=>
  by_cases h2:checkOut B=0
  case neg=>
   rw [twice_b h1 h2]
   rw [h1] at KA
   have h2':(checkOut B==0)=false:=by simpa using h2
   clear h1 h2 KM
   generalize checkOut B=er at *
   go_enter Tryz.func100,Tryz.ntmps100
   go_wp2_with (first
    | rw [HW1.out]
    | (go_at_call 36;(with_reducible refine (KB.out _ HB2.out).mono ?_);rintro e w3 ⟨rfl,hb3⟩;have HB3:=Lib.hid (HB2.out.trans (hb3.mono HB2.out.size));obtain ⟨ya03,ya13,ya23,yb03,yb13,yb23⟩:=KX.out w3 HB3.out;clear hb3)
    | (go_at_call 36;(with_reducible refine (KA.out _ (Below.refl _ _)).mono ?_);rintro e w2 ⟨rfl,hb2⟩;have HB2:=Lib.hid (hb2);obtain ⟨ya02,ya12,ya22,yb02,yb12,yb22⟩:=KX.out w2 HB2.out;clear hb2))
   go_ret
   exact ⟨rfl,HB1.out.trans (HB3.out.mono HB1.out.size)⟩
  case pos=>
   rw [twice_r h1 h2]
   rw [h1] at KA
   rw [h2] at KB
   clear h1 h2
   generalize roomErr A B=er at *
   go_enter Tryz.func100,Tryz.ntmps100
   go_wp2_with (first
    | rw [HW1.out]
    | (go_at_call 116;(with_reducible refine (KM.out _ HB3.out).mono ?_);rintro e w4 ⟨rfl,hb4⟩;have HB4:=Lib.hid (HB3.out.trans (hb4.mono HB3.out.size));obtain ⟨ya04,ya14,ya24,yb04,yb14,yb24⟩:=KX.out w4 HB4.out;clear hb4)
    | (go_at_call 36;(with_reducible refine (KB.out _ HB2.out).mono ?_);rintro e w3 ⟨rfl,hb3⟩;have HB3:=Lib.hid (HB2.out.trans (hb3.mono HB2.out.size));obtain ⟨ya03,ya13,ya23,yb03,yb13,yb23⟩:=KX.out w3 HB3.out;clear hb3)
    | (go_at_call 36;(with_reducible refine (KA.out _ (Below.refl _ _)).mono ?_);rintro e w2 ⟨rfl,hb2⟩;have HB2:=Lib.hid (hb2);obtain ⟨ya02,ya12,ya22,yb02,yb12,yb22⟩:=KX.out w2 HB2.out;clear hb2))
   go_ret
   exact ⟨rfl,HB1.out.trans (HB4.out.mono HB1.out.size)⟩
def befB (p q:Pairing):Bool:=if p.a.lo≠q.a.lo then decide (p.a.lo<q.a.lo) else if p.a.hi≠q.a.hi then decide (p.a.hi<q.a.hi) else decide (p.b.lo<q.b.lo)
theorem r3before_any (p q:Pairing) (w:World):Calls Tryz.prog 103 #[.agg #[.int .i64 p.a.lo,.int .i64 p.a.hi,.int .i64 p.b.lo,.int .i64 p.b.hi],.agg #[.int .i64 q.a.lo,.int .i64 q.a.hi,.int .i64 q.b.lo,.int .i64 q.b.hi]] w fun e w'=>e = .returned (.bool (befB p q))∧Below w.heap.size w w':=by
 obtain ⟨wa,hwa,ba,hza,ea⟩:=alloc_facts w #[.int .i64 p.a.lo,.int .i64 p.a.hi,.int .i64 p.b.lo,.int .i64 p.b.hi] 28
 obtain ⟨w1,hw1,b1,hz1,e1⟩:=alloc_facts wa #[.int .i64 q.a.lo,.int .i64 q.a.hi,.int .i64 q.b.lo,.int .i64 q.b.hi] 28
 have hb:=ba.trans (b1.mono ba.size)
 have ea1:=(b1.block w.heap.size (by omega)).trans ea
 rw [hza] at e1
 have HW:Hid ((w.alloc (.cells #[.int .i64 p.a.lo,.int .i64 p.a.hi,.int .i64 p.b.lo,.int .i64 p.b.hi] 28)).alloc (.cells #[.int .i64 q.a.lo,.int .i64 q.a.hi,.int .i64 q.b.lo,.int .i64 q.b.hi] 28)=w1):=(show _=_ from by rw [hwa,hw1])
 obtain ⟨c0,c1,c2,c3⟩:w1.cell? ⟨w.heap.size,0,none⟩=some (.int .i64 p.a.lo)∧w1.cell? ⟨w.heap.size,1,none⟩=some (.int .i64 p.a.hi)∧w1.cell? ⟨w.heap.size,2,none⟩=some (.int .i64 p.b.lo)∧w1.cell? ⟨w.heap.size,3,none⟩=some (.int .i64 p.b.hi):=(by simp [World.cell?,ea1])
 obtain ⟨d0,d1,d2,d3⟩:w1.cell? ⟨w.heap.size+1,0,none⟩=some (.int .i64 q.a.lo)∧w1.cell? ⟨w.heap.size+1,1,none⟩=some (.int .i64 q.a.hi)∧w1.cell? ⟨w.heap.size+1,2,none⟩=some (.int .i64 q.b.lo)∧w1.cell? ⟨w.heap.size+1,3,none⟩=some (.int .i64 q.b.hi):=(by simp [World.cell?,e1])
 have HB:=Lib.hid hb
 clear hwa hw1 ba b1 hb ea ea1 e1
 by_cases h1:p.a.lo=q.a.lo
 case neg=>
  have hv:befB p q=decide (p.a.lo<q.a.lo):=if_pos h1
  rw [hv]
  have h1':(p.a.lo != q.a.lo)=true:=by simpa using h1
  clear h1 hv
  go_enter Tryz.func103,Tryz.ntmps103
  go_wp2_with (rw [HW.out])
  go_ret
  exact ⟨rfl,HB.out⟩
 case pos=>
  have h1':(p.a.lo != q.a.lo)=false:=by simpa using h1
  by_cases h2:p.a.hi=q.a.hi
  case neg=>
   have hv:befB p q=decide (p.a.hi<q.a.hi):=by unfold befB;rw [if_neg (fun h=>h h1),if_pos h2]
   rw [hv]
   have h2':(p.a.hi != q.a.hi)=true:=by simpa using h2
   clear h1 h2 hv
   go_enter Tryz.func103,Tryz.ntmps103
   go_wp2_with (rw [HW.out])
   go_ret
   exact ⟨rfl,HB.out⟩
  case pos=>
   have hv:befB p q=decide (p.b.lo<q.b.lo):=by unfold befB;rw [if_neg (fun h=>h h1),if_neg (fun h=>h h2)]
   rw [hv]
   have h2':(p.a.hi != q.a.hi)=false:=by simpa using h2
   clear h1 h2 hv
   go_enter Tryz.func103,Tryz.ntmps103
   go_wp2_with (rw [HW.out])
   go_ret
   exact ⟨rfl,HB.out⟩
theorem alone_any {l:List Pairing} {p x:Pairing} {k:Nat} (hx:l[k]? = some x) (h:x=growF p∨x=growB p):aloneB l p=false:=by
 unfold aloneB
 have hm:=List.mem_of_getElem? hx
 rcases h with rfl|rfl
 · rw [decide_eq_true hm];rfl
 · rw [decide_eq_true hm];simp
theorem alone_all {l:List Pairing} {p:Pairing} (h:∀ (j:Nat) x,j<l.length→l[j]? = some x→x≠growF p∧x≠growB p):aloneB l p=true:=by
 unfold aloneB
 have hq:∀ x∈l,x≠growF p∧x≠growB p:=fun x hx=>by
  obtain ⟨j,hj,hjx⟩:=List.getElem_of_mem hx
  exact h j x hj (by rw [List.getElem?_eq_getElem hj,hjx])
 rw [decide_eq_false (fun hm=>(hq _ hm).1 rfl),decide_eq_false (fun hm=>(hq _ hm).2 rfl)]
 rfl
theorem r3longer_any (L:Option Addr) (n c:Nat) (l:List Pairing) (p:Pairing) (w:World) (hL:Rd encPairing 4 w L n c l) (hp:(-1000≤p.a.lo∧p.a.lo≤1000)∧(-1000≤p.a.hi∧p.a.hi≤1000)∧(-1000≤p.b.lo∧p.b.lo≤1000)∧(-1000≤p.b.hi∧p.b.hi≤1000)):
 Calls Tryz.prog 102 #[.slice L n c,.agg #[.int .i64 p.a.lo,.int .i64 p.a.hi,.int .i64 p.b.lo,.int .i64 p.b.hi]] w fun e w'=>e = .returned (.bool (!aloneB l p))∧Below w.heap.size w w':=by
 obtain ⟨w1,hw1,hb1,hz1,e1⟩:=alloc_facts w #[.int .i64 p.a.lo,.int .i64 p.a.hi,.int .i64 p.b.lo,.int .i64 p.b.hi] 28
 have HW1:=Lib.hid hw1
 have HB1:=Lib.hid hb1
 have HCE:Hid (∀ W,Below w1.heap.size w1 W→W.cell? ⟨w.heap.size,0,none⟩=some (.int .i64 p.a.lo)∧W.cell? ⟨w.heap.size,1,none⟩=some (.int .i64 p.a.hi)∧W.cell? ⟨w.heap.size,2,none⟩=some (.int .i64 p.b.lo)∧W.cell? ⟨w.heap.size,3,none⟩=some (.int .i64 p.b.hi)):=(show ∀ W,_→_ from fun W h=>by
  have hh:=(h.block w.heap.size (by omega)).trans e1
  simp [World.cell?,hh])
 have RL:Hid (∀ W,Below w1.heap.size w1 W→Rd encPairing 4 W L n c l):=(show ∀ W,_→_ from fun W h=>(hL.below hb1 (Nat.le_refl _)).below h (Nat.le_refl _))
 have HLN:=Lib.hid hL.len
 have hbig:=hL.big
 clear hL hw1 hb1 e1
 go_enter Tryz.func102,Tryz.ntmps102
 go_wp2_with (rw [HW1.out])
 go_loopw [5] (fun s5 wr=> ∃ k:Nat,k≤n∧s5 = .int .i64 k∧Hid (Below w1.heap.size w1 wr)∧Hid (∀ (j:Nat) x,j<k→l[j]? = some x→x≠growF p∧x≠growB p)) (fun s5 _=>n-(intOf s5).toNat)
 case atStart=>exact ⟨0,by omega,rfl,(show Below _ _ _ from Below.refl _ _),(show ∀ (j:Nat) (x:Pairing),_ from fun j x h=>by omega)⟩
 case round=>
  obtain ⟨k,hk,rfl,hbr,hall⟩:=hrel
  have hzr:=hbr.out.size
  by_cases hlt:k<n
  · obtain ⟨bb,ob,x,rfl,hbb,hx,hcx⟩:=(RL.out wr hbr.out).one hlt
    have c0:wr.cell? ⟨bb,ob+k * 4,none⟩=some (.int .i64 x.a.lo):=hcx 0 _ rfl
    have c1:wr.cell? ⟨bb,ob+k * 4+1,none⟩=some (.int .i64 x.a.hi):=hcx 1 _ rfl
    have c2:wr.cell? ⟨bb,ob+k * 4+2,none⟩=some (.int .i64 x.b.lo):=hcx 2 _ rfl
    have c3:wr.cell? ⟨bb,ob+k * 4+3,none⟩=some (.int .i64 x.b.hi):=hcx 3 _ rfl
    obtain ⟨y0,y1,y2,y3⟩:=HCE.out wr hbr.out
    obtain ⟨w5,a5,b5,z5,e5⟩:=alloc_facts wr #[.int .i64 x.a.lo,.int .i64 x.a.hi,.int .i64 x.b.lo,.int .i64 x.b.hi] 28
    have HX:=Lib.hid hx
    have HA5:=Lib.hid a5
    have HB5:=Lib.hid (hbr.out.trans (b5.mono hbr.out.size))
    obtain ⟨v0,v1,v2,v3⟩:=HCE.out w5 HB5.out
    obtain ⟨u0,u1,u2,u3⟩:w5.cell? ⟨wr.heap.size,0,none⟩=some (.int .i64 x.a.lo)∧w5.cell? ⟨wr.heap.size,1,none⟩=some (.int .i64 x.a.hi)∧w5.cell? ⟨wr.heap.size,2,none⟩=some (.int .i64 x.b.lo)∧w5.cell? ⟨wr.heap.size,3,none⟩=some (.int .i64 x.b.hi):=(by simp [World.cell?,e5])
    clear hcx hx a5 b5 e5
    have hcase:(x=growF p∨x=growB p)∨(x≠growF p∧x≠growB p):=(by
     by_cases q1:x=growF p
     · exact .inl (.inl q1)
     · by_cases q2:x=growB p
       · exact .inl (.inr q2)
       · exact .inr ⟨q1,q2⟩)
    have hF:∀ y:Pairing,y=growF p↔y.a.lo=p.a.lo-1∧y.a.hi=p.a.hi∧y.b.lo=p.b.lo∧y.b.hi=p.b.hi+1:=(fun y=>by
     obtain ⟨⟨a,b⟩,c,d⟩:=y
     simp only [growF,Pairing.mk.injEq,Stretch.mk.injEq,and_assoc])
    have hB:∀ y:Pairing,y=growB p↔y.a.lo=p.a.lo∧y.a.hi=p.a.hi+1∧y.b.lo=p.b.lo-1∧y.b.hi=p.b.hi:=(fun y=>by
     obtain ⟨⟨a,b⟩,c,d⟩:=y
     simp only [growB,Pairing.mk.injEq,Stretch.mk.injEq,and_assoc])
    have hHF:=Lib.hid (hF x)
    have hHB:=Lib.hid (hB x)
    have hyes:(x=growF p∨x=growB p)→aloneB l p=false:=fun h=>alone_any HX.out h
    have HY:=Lib.hid hyes
    have hno:(x≠growF p∧x≠growB p)→∀ (j:Nat) y,j<k+1→l[j]? = some y→y≠growF p∧y≠growB p:=(fun h j y hj hy=>by
     rcases Nat.lt_or_ge j k with h2|h2
     · exact hall.out j y h2 hy
     · have:j=k:=by omega
       subst this
       rw [HX.out] at hy
       cases hy
       exact h)
    have HN:=Lib.hid hno
    clear hcase hF hB hyes hno hall
    obtain ⟨⟨p0,p1⟩,p2,p3⟩:=p
    obtain ⟨⟨x0,x1⟩,x2,x3⟩:=x
    simp only at *
    have sp0:IntKind.i64.wrap (p0-1)=p0-1:=(by rw [IntKind.wrap_i64];omega)
    have sp3:IntKind.i64.wrap (p3+1)=p3+1:=(by rw [IntKind.wrap_i64];omega)
    have sp1:IntKind.i64.wrap (p1+1)=p1+1:=(by rw [IntKind.wrap_i64];omega)
    have sp2:IntKind.i64.wrap (p2-1)=p2-1:=(by rw [IntKind.wrap_i64];omega)
    by_cases f0:x0=p0-1
    · have f0':(x0==p0-1)=true:=(by simpa using f0)
      have g0':(x0==p0)=false:=(by rw [beq_eq_false_iff_ne];omega)
      have F0:=Lib.hid f0
      clear f0
      by_cases f1:x1=p1
      case neg=>
       have f1':(x1==p1)=false:=(by simpa using f1)
       go_wp2_with (rw [HA5.out])
       go_roundw
       case rel=>exact ⟨k+1,by omega,by go_num,HB5,(show ∀ (j:Nat) (y:Pairing),_ from HN.out ⟨fun e=>by have h:=hHF.out.1 e;have F0x:=F0.out;omega,fun e=>by have h:=hHB.out.1 e;have F0x:=F0.out;omega⟩)⟩
       case measure=>simp [intOf];omega
      have f1':(x1==p1)=true:=(by simpa using f1)
      have F1:=Lib.hid f1
      clear f1
      by_cases f2:x2=p2
      case neg=>
       have f2':(x2==p2)=false:=(by simpa using f2)
       go_wp2_with (rw [HA5.out])
       go_roundw
       case rel=>exact ⟨k+1,by omega,by go_num,HB5,(show ∀ (j:Nat) (y:Pairing),_ from HN.out ⟨fun e=>by have h:=hHF.out.1 e;have F0x:=F0.out;have F1x:=F1.out;omega,fun e=>by have h:=hHB.out.1 e;have F0x:=F0.out;have F1x:=F1.out;omega⟩)⟩
       case measure=>simp [intOf];omega
      have f2':(x2==p2)=true:=(by simpa using f2)
      have F2:=Lib.hid f2
      clear f2
      by_cases f3:x3=p3+1
      case neg=>
       have f3':(x3==p3+1)=false:=(by simpa using f3)
       go_wp2_with (rw [HA5.out])
       go_roundw
       case rel=>exact ⟨k+1,by omega,by go_num,HB5,(show ∀ (j:Nat) (y:Pairing),_ from HN.out ⟨fun e=>by have h:=hHF.out.1 e;have F0x:=F0.out;have F1x:=F1.out;have F2x:=F2.out;omega,fun e=>by have h:=hHB.out.1 e;have F0x:=F0.out;have F1x:=F1.out;have F2x:=F2.out;omega⟩)⟩
       case measure=>simp [intOf];omega
      have f3':(x3==p3+1)=true:=(by simpa using f3)
      have F3:=Lib.hid f3
      clear f3
      go_wp2_with (rw [HA5.out])
      go_ret
      refine ⟨?_,HB1.out.trans (HB5.out.mono HB1.out.size)⟩
      rw [HY.out (.inl (hHF.out.2 ⟨F0.out,F1.out,F2.out,F3.out⟩))]
      rfl
    · have f0':(x0==p0-1)=false:=(by simpa using f0)
      by_cases g0:x0=p0
      case neg=>
       have g0':(x0==p0)=false:=(by simpa using g0)
       go_wp2_with (rw [HA5.out])
       go_roundw
       case rel=>exact ⟨k+1,by omega,by go_num,HB5,(show ∀ (j:Nat) (y:Pairing),_ from HN.out ⟨fun e=>by have h:=hHF.out.1 e;omega,fun e=>by have h:=hHB.out.1 e;omega⟩)⟩
       case measure=>simp [intOf];omega
      have g0':(x0==p0)=true:=(by simpa using g0)
      have G0:=Lib.hid g0
      clear g0
      by_cases g1:x1=p1+1
      case neg=>
       have g1':(x1==p1+1)=false:=(by simpa using g1)
       go_wp2_with (rw [HA5.out])
       go_roundw
       case rel=>exact ⟨k+1,by omega,by go_num,HB5,(show ∀ (j:Nat) (y:Pairing),_ from HN.out ⟨fun e=>by have h:=hHF.out.1 e;have G0x:=G0.out;omega,fun e=>by have h:=hHB.out.1 e;have G0x:=G0.out;omega⟩)⟩
       case measure=>simp [intOf];omega
      have g1':(x1==p1+1)=true:=(by simpa using g1)
      have G1:=Lib.hid g1
      clear g1
      by_cases g2:x2=p2-1
      case neg=>
       have g2':(x2==p2-1)=false:=(by simpa using g2)
       go_wp2_with (rw [HA5.out])
       go_roundw
       case rel=>exact ⟨k+1,by omega,by go_num,HB5,(show ∀ (j:Nat) (y:Pairing),_ from HN.out ⟨fun e=>by have h:=hHF.out.1 e;have G0x:=G0.out;have G1x:=G1.out;omega,fun e=>by have h:=hHB.out.1 e;have G0x:=G0.out;have G1x:=G1.out;omega⟩)⟩
       case measure=>simp [intOf];omega
      have g2':(x2==p2-1)=true:=(by simpa using g2)
      have G2:=Lib.hid g2
      clear g2
      by_cases g3:x3=p3
      case neg=>
       have g3':(x3==p3)=false:=(by simpa using g3)
       go_wp2_with (rw [HA5.out])
       go_roundw
       case rel=>exact ⟨k+1,by omega,by go_num,HB5,(show ∀ (j:Nat) (y:Pairing),_ from HN.out ⟨fun e=>by have h:=hHF.out.1 e;have G0x:=G0.out;have G1x:=G1.out;have G2x:=G2.out;omega,fun e=>by have h:=hHB.out.1 e;have G0x:=G0.out;have G1x:=G1.out;have G2x:=G2.out;omega⟩)⟩
       case measure=>simp [intOf];omega
      have g3':(x3==p3)=true:=(by simpa using g3)
      have G3:=Lib.hid g3
      clear g3
      go_wp2_with (rw [HA5.out])
      go_ret
      refine ⟨?_,HB1.out.trans (HB5.out.mono HB1.out.size)⟩
      rw [HY.out (.inr (hHB.out.2 ⟨G0.out,G1.out,G2.out,G3.out⟩))]
      rfl
  · have hkn:k=n:=by omega
    subst hkn
    have hv:aloneB l p=true:=alone_all (fun j x hj=>hall.out j x (by rw [←HLN.out];exact hj))
    have HV:=Lib.hid hv
    clear hv hall
    go_wp2
    go_ret
    refine ⟨?_,HB1.out.trans (hbr.out.mono HB1.out.size)⟩
    rw [HV.out]
    rfl
def innB (s:Int):Bool:=inB s 1 16
theorem PairsE_any (A:Outl) (AwA:Option Addr) (Awn Awc:Nat) (AtA:Option Addr) (Atn Atc:Nat) (B:Outl) (BwA:Option Addr) (Bwn Bwc:Nat) (BtA:Option Addr) (Btn Btc:Nat) (s:Int) (w:World) (Aw:Rd encBound 4 w AwA Awn Awc A.ways) (At:Rd encBound 4 w AtA Atn Atc A.turns) (Bw:Rd encBound 4 w BwA Bwn Bwc B.ways) (Bt:Rd encBound 4 w BtA Btn Btc B.turns):
 Calls Tryz.prog 42 #[.agg #[.int .i64 A.n,.slice AwA Awn Awc,.slice AtA Atn Atc],.agg #[.int .i64 B.n,.slice BwA Bwn Bwc,.slice BtA Btn Btc],.int .i64 s] w fun e w'=> ∃ A' c',e = .returned (.tuple #[.slice A' (pairsV A B s).length c',.int .i64 (twiceErr A B)])∧Below w.heap.size w w'∧Own encPairing 4 28 w.heap.size w' A' (pairsV A B s).length c' (pairsV A B s):=by
 obtain ⟨x2,hw1,hb1,hz1,hbx⟩:=boxAB w A AwA Awn Awc AtA Atn Atc B BwA Bwn Bwc BtA Btn Btc
 have K1:=Lib.hid (fun W (h:Below x2.heap.size x2 W)=>twice_any A AwA Awn Awc AtA Atn Atc B BwA Bwn Bwc BtA Btn Btc W ((Aw.below hb1 (Nat.le_refl _)).below h (Nat.le_refl _)) ((At.below hb1 (Nat.le_refl _)).below h (Nat.le_refl _)) ((Bw.below hb1 (Nat.le_refl _)).below h (Nat.le_refl _)) ((Bt.below hb1 (Nat.le_refl _)).below h (Nat.le_refl _)))
 have K2:Hid (twiceErr A B=0→∀ W (s:Int),Below x2.heap.size x2 W→1≤s∧s≤16→Calls Tryz.prog 82 #[.agg #[.int .i64 A.n,.slice AwA Awn Awc,.slice AtA Atn Atc,.int .i64 B.n,.slice BwA Bwn Bwc,.slice BtA Btn Btc],.int .i64 s] W fun e w'=> ∃ A' c',e = .returned (.slice A' (meetL A B s).length c')∧Below W.heap.size W w'∧Own encPairing 4 28 W.heap.size w' A' (meetL A B s).length c' (meetL A B s)):=(show _→∀ W s,_→_→_ from fun h0 W s h hs=>
  meeting_any A AwA Awn Awc AtA Atn Atc B BwA Bwn Bwc BtA Btn Btc s W ((Aw.below hb1 (Nat.le_refl _)).below h (Nat.le_refl _)) ((At.below hb1 (Nat.le_refl _)).below h (Nat.le_refl _)) ((Bw.below hb1 (Nat.le_refl _)).below h (Nat.le_refl _)) ((Bt.below hb1 (Nat.le_refl _)).below h (Nat.le_refl _)) (twice_zero.1 h0).1 (twice_zero.1 h0).2 hs)
 have HI:Hid (∀ W,Calls Tryz.prog 89 #[.int .i64 s,.int .i64 1,.int .i64 16] W fun e w'=>e = .returned (.bool (innB s))∧w'=W):=(show ∀ W,_ from fun W=>inE_any s 1 16 W)
 have HB2:=Lib.hid hb1
 have HW1:=Lib.hid hw1
 obtain ⟨xa0,xa1,xa2,xb0,xb1,xb2⟩:=hbx x2 (Below.refl _ _)
 clear Aw At Bw Bt hb1 hw1 hbx
 by_cases h1:twiceErr A B=0
 case neg=>
  have hv:pairsV A B s = []:=if_neg (fun h=>h1 h.1)
  rw [hv]
  have h1':(twiceErr A B != 0)=true:=by simpa using h1
  clear h1 K2 hv
  generalize twiceErr A B=er at *
  go_enter Tryz.func42,Tryz.ntmps42
  go_wp2_with (first
   | rw [HW1.out]
   | (go_at_call 81;(with_reducible refine (K1.out _ (Below.refl _ _)).mono ?_);rintro e w3 ⟨rfl,hb⟩;have HB:=Lib.hid (HB2.out.trans (hb.mono HB2.out.size));clear hb))
  go_ret2
  exact ⟨none,0,rfl,HB.out.alloc HB.out.size _,Own.none_ _ _ _ _ _⟩
 case pos=>
  have K3:=Lib.hid (K2.out h1)
  rw [h1] at K1 ⊢
  clear K2
  cases hi:innB s with
  | false=>
    have hv:pairsV A B s = []:=if_neg (fun h=>by
     have:innB s=true:=by simpa [innB,inB] using h.2
     rw [hi] at this;cases this)
    rw [hv]
    rw [hi] at HI
    clear h1 hi hv K3
    go_enter Tryz.func42,Tryz.ntmps42
    go_wp2_with (first
     | rw [HW1.out]
     | (go_at_call 89;(with_reducible refine (HI.out _).mono ?_);rintro e w2 ⟨rfl,hw2⟩;obtain rfl:=hw2.symm)
     | (go_at_call 81;(with_reducible refine (K1.out _ (Below.refl _ _)).mono ?_);rintro e w3 ⟨rfl,hb⟩;have HB:=Lib.hid (HB2.out.trans (hb.mono HB2.out.size));clear hb))
    go_ret2
    exact ⟨none,0,rfl,HB.out.alloc HB.out.size _,Own.none_ _ _ _ _ _⟩
  | true=>
    have hs:1≤s∧s≤16:=by simpa [innB,inB] using hi
    have hv:pairsV A B s=meetL A B s:=if_pos ⟨h1,hs⟩
    rw [hv]
    rw [hi] at HI
    have HS:=Lib.hid hs
    clear h1 hi hv hs
    go_enter Tryz.func42,Tryz.ntmps42
    go_wp2_with (first
     | rw [HW1.out]
     | (go_at_call 89;(with_reducible refine (HI.out _).mono ?_);rintro e w2 ⟨rfl,hw2⟩;obtain rfl:=hw2.symm)
     | (go_at_call 81;(with_reducible refine (K1.out _ (Below.refl _ _)).mono ?_);rintro e w3 ⟨rfl,hb⟩
        obtain ⟨x4,a4,l4,z4,e4⟩:=alloc_facts w3 #[.int .i64 A.n,.slice AwA Awn Awc,.slice AtA Atn Atc,.int .i64 B.n,.slice BwA Bwn Bwc,.slice BtA Btn Btc] 89
        obtain ⟨c0,c1,c2,c3,c4,c5⟩:=six_cells e4
        have HB:=Lib.hid (hb.trans (l4.mono hb.size))
        have H4:=Lib.hid a4
        clear hb a4 l4 e4)
     | rw [H4.out]
     | (go_at_call 82;(with_reducible refine (K3.out _ s HB.out HS.out).mono ?_);rintro e w5 ⟨A5,q5,rfl,hb5,ho5⟩;have HB5:=Lib.hid hb5;have HO5:=Lib.hid ho5;clear hb5 ho5))
    go_ret2
    exact ⟨A5,q5,rfl,HB2.out.trans ((HB.out.trans (HB5.out.mono HB.out.size)).mono HB2.out.size),HO5.out.mono (by have:=HB.out.size;have:=HB2.out.size;omega)⟩
end Go.Proofs.YtccabpahfmoamaaGreat
end

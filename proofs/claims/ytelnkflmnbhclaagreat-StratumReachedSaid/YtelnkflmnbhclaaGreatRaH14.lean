/- Contracts that the laws lean on: RGst, RBtR, RBtw. -/
import Derived.Test.YtelnkflmnbhclaaGreatRaH10
set_option maxRecDepth 100000
set_option maxHeartbeats 8000000
section
namespace Go.Proofs.YtelnkflmnbhclaaGreat
open Go.RowKit Go.Proofs Go.Shelf
theorem r1asked_ok (pts:Int) (A:Option Addr) (n c:Nat) (bs:List Bound) (a b:Int) (w:World) (hl:Rd encBound 4 w A n c bs) (hk:checkSys pts bs=0) (a1:0≤a) (a2:a<pts) (b1:0≤b) (b2:b<pts):
 Calls Tryz.prog 156 #[.agg #[.int .i64 pts,.slice A n c],.int .i64 a,.int .i64 b] w fun e w'=>e = .returned (.int .i64 0)∧Below w.heap.size w w':=by
 have HK:=Lib.hid (fun W (h:Below w.heap.size w W)=>r1Check_ok pts A n c bs W (hl.below h (Nat.le_refl _)) hk);have SE:=Lib.hid (sysBox pts A n c w)
 obtain ⟨w1,hw1⟩:∃ w1,w.alloc (.cells #[.int .i64 pts,.slice A n c] 117)=w1:=⟨_,rfl⟩
 have hb1:Below w.heap.size w w1:=(by rw [←hw1];exact (Below.refl _ w).alloc (Nat.le_refl _) _)
 rw [hw1] at SE;have HB1:=Lib.hid hb1;have HW1:=Lib.hid hw1;obtain ⟨s0,s1⟩:=SE.out w1 (Below.refl _ _);clear hl hk hb1 hw1;go_enter Tryz.func156,Tryz.ntmps156
 go_wp2_with (first
  | rw [HW1.out]
  | (go_at_call 205;(with_reducible refine (HK.out _ HB1.out).mono ?_);rintro e w2 ⟨rfl,hb2⟩;have HB2:=Lib.hid hb2;obtain ⟨s2,s3⟩:=SE.out w2 hb2;clear hb2)
  | (go_at_call 208;(with_reducible refine (r1Point_in pts _ n c a _ a1 a2).mono ?_);rintro e w3 ⟨rfl,hb3⟩;have HB3:=Lib.hid (HB2.out.trans (hb3.mono HB2.out.size));obtain ⟨s4,s5⟩:=SE.out w3 HB3.out;clear hb3)
  | (go_at_call 208;(with_reducible refine (r1Point_in pts _ n c b _ b1 b2).mono ?_);rintro e w4 ⟨rfl,hb4⟩;have HB4:=Lib.hid (HB3.out.trans (hb4.mono HB3.out.size));clear hb4))
 go_ret;exact ⟨rfl,HB1.out.trans (HB4.out.mono HB1.out.size)⟩
theorem r1solved_any (pts:Int) (A:Option Addr) (n c:Nat) (bs:List Bound) (w:World) (hl:Rd encBound 4 w A n c bs) (hs:SmallSys pts bs):
 Calls Tryz.prog 157 #[.agg #[.int .i64 pts,.slice A n c]] w fun e w'=>e = .returned (.int .i64 (if solvedOk pts bs then 0 else 10))∧Below w.heap.size w w':=by
 have HS:=Lib.hid (fun W (h:Below w.heap.size w W)=>rsolve_any pts A n c bs W (hl.below h (Nat.le_refl _)) hs);have SE:=Lib.hid (sysBox pts A n c w)
 obtain ⟨w1,hw1⟩:∃ w1,w.alloc (.cells #[.int .i64 pts,.slice A n c] 117)=w1:=⟨_,rfl⟩
 have hb1:Below w.heap.size w w1:=(by rw [←hw1];exact (Below.refl _ w).alloc (Nat.le_refl _) _)
 rw [hw1] at SE;have HB1:=Lib.hid hb1;have HW1:=Lib.hid hw1;obtain ⟨s0,s1⟩:=SE.out w1 (Below.refl _ _);clear hl hs hb1 hw1;cases hR:solvedOk pts bs
 all_goals
  rw [hR] at HS;clear hR;go_enter Tryz.func157,Tryz.ntmps157
  go_wp2_with (first
   | rw [HW1.out]
   | (go_at_call 206;(with_reducible refine (HS.out _ HB1.out).mono ?_);rintro e w3 ⟨A3,n3,c3,rfl,hb3⟩;have HB3:=Lib.hid (HB1.out.trans (hb3.mono HB1.out.size));clear hb3))
  go_ret;exact ⟨rfl,HB3.out⟩
theorem r1greatest_any (pts:Int) (A:Option Addr) (n c:Nat) (bs:List Bound) (a b:Int) (w:World) (hl:Rd encBound 4 w A n c bs) (hs:SmallSys pts bs) (a1:0≤a) (a2:a<pts) (b1:0≤b) (b2:b<pts):
 Calls Tryz.prog 158 #[.agg #[.int .i64 pts,.slice A n c],.int .i64 a,.int .i64 b] w fun e w'=>e = .returned (.tuple #[.int .i64 (refGreatest pts bs a b).1,.bool (refGreatest pts bs a b).2])∧Below w.heap.size w w':=by
 have hp51:=hs.p;have hp1:=hs.ok.p1
 obtain ⟨m,hm⟩:∃ m:Nat,(m:Int)=pts:=⟨pts.toNat,by omega⟩
 obtain ⟨aN,haN⟩:∃ aN:Nat,(aN:Int)=a:=⟨a.toNat,by omega⟩
 obtain ⟨bN,hbN⟩:∃ bN:Nat,(bN:Int)=b:=⟨b.toNat,by omega⟩
 subst hm haN hbN;have ham:aN<m:=by omega
 have hbm:bN<m:=by omega
 have hm51:m≤51:=by omega
 have hfar:refFar m aN=(List.replicate m farV).set aN 0:=by unfold refFar rPut;rw [Int.toNat_natCast,Int.toNat_natCast]
 have hG:refGreatest m bs aN bN=if (refSums m bs ((List.replicate m farV).set aN 0)).1.length≠m∨1000000000≤(refSums m bs ((List.replicate m farV).set aN 0)).1.getD bN 0 then (0,false) else ((refSums m bs ((List.replicate m farV).set aN 0)).1.getD bN 0,true):=by
  unfold refGreatest;rw [hfar,Int.toNat_natCast];unfold rAt farV;rw [Int.toNat_natCast]
 have SE:=Lib.hid (sysBox m A n c w)
 obtain ⟨w1,hw1⟩:∃ w1,w.alloc (.cells #[.int .i64 m,.slice A n c] 117)=w1:=⟨_,rfl⟩
 have hb1:Below w.heap.size w w1:=(by rw [←hw1];exact (Below.refl _ w).alloc (Nat.le_refl _) _)
 rw [hw1] at SE
 have HS:Hid (∀ W A2 c2,Below w1.heap.size w1 W→Rd encInt 1 W A2 m c2 ((List.replicate m farV).set aN 0)→_):=Lib.hid (fun W A2 c2 (h:Below w1.heap.size w1 W) (h2:Rd encInt 1 W A2 m c2 ((List.replicate m farV).set aN 0))=>rsums_any m A n c bs A2 m c2 _ W ((hl.below hb1 (Nat.le_refl _)).below h (Nat.le_refl _)) h2 hs rfl (fun v hv=>by
  rcases List.mem_or_eq_of_mem_set hv with h3|h3
  · rw [List.eq_of_mem_replicate h3];unfold farV;omega
  · subst h3;omega))
 rw [hG];clear hG hfar;generalize refSums m bs ((List.replicate m farV).set aN 0)=R at *
 obtain ⟨G,hG⟩:∃ G:Int×Bool,(if R.1.length≠m∨1000000000≤R.1.getD bN 0 then (0,false) else (R.1.getD bN 0,true))=G:=⟨_,rfl⟩
 rw [hG];have HGV:=Lib.hid hG;clear hG;have HB1:=Lib.hid hb1;have HW1:=Lib.hid hw1;have HZ1:=Lib.hid (show w1.heap.size=w.heap.size+1 from by rw [←hw1];simp);obtain ⟨s0,s1⟩:=SE.out w1 (Below.refl _ _);clear hl hs hb1 hw1 hp51 hp1;go_enter Tryz.func158,Tryz.ntmps158;go_wp2_with (rw [HW1.out]);clear s0 s1;go_loopw [8,9] (fun s8 s9 wr=> ∃ (k:Nat) (A':Option Addr) (c':Nat),k≤m∧s8 = .slice A' k c'∧s9 = .int .i64 k∧Hid (Below w1.heap.size w1 wr)∧Hid (Own encInt 1 3 w1.heap.size wr A' k c' (List.replicate k farV))) (fun _ s9 _=>m-(intOf s9).toNat)
 case atStart=>exact ⟨0,none,0,Nat.zero_le _,rfl,rfl,(show Below _ _ _ from Below.refl _ _),(show Own _ _ _ _ _ _ _ _ _ from Own.none_ _ _ _ _ _)⟩
 case round=>
  obtain ⟨k,A',c',hk,rfl,rfl,hbl,hO⟩:=hrel;rename World=>wo;have hzr:=hbl.out.size
  have hwl:w.heap.size<wo.heap.size:=(by have:=HZ1.out;omega)
  obtain ⟨s0,s1⟩:=SE.out wo hbl.out;by_cases hlt:k<m
  · have hO1:=hO.out.alloc (.cells #[.int .i64 1000000000] 3)
    have hrd1:=Rd.single (enc:=encInt) (k:=1) wo #[.int .i64 1000000000] 3 [farV] 1 rfl (by omega) (fun _=>rfl) (by simp [encInt,farV]);have HBA:=Lib.hid (hbl.out.alloc hzr (.cells #[.int .i64 1000000000] 3))
    go_wp2_with (at_builtin;refine wpList_append_src elInt (fun _=>rfl) oneInt rfl _ _ rfl _ _ _ _ rfl rfl hO1 hrd1 (by omega) (by decide) (by simp;omega) ?_;intro A8 c8 w8 hO8 hg8 hA8
                 have HB8:=Lib.hid (HBA.out.grown hg8 (by simp;omega) (fun j e=>hO1.ltB j e));have HO8:=Lib.hid hO8
                 clear hO8 hg8 hA8)
    go_roundw
    all_goals first
     | (simp [intOf];omega)
     | exact ⟨k+1,A8,c8,by omega,rfl,by go_num,HB8.out,(show Own _ _ _ _ _ _ _ _ _ by rw [List.replicate_succ'];exact HO8.out)⟩
  · have hkm:k=m:=by omega
    subst hkm
    obtain ⟨g,rfl⟩:∃ g,A'=some ⟨g,0,none⟩:=by
     rcases hO.out.form with ⟨_,h0,_⟩|⟨g,h,_⟩
     · omega
     · exact ⟨g,h⟩
    have hgl:=hO.out.lt;have f0:=hO.out.free aN
    have ca:wo.cell? ⟨g,aN,none⟩=some (.int .i64 farV):=by
     have:=hO.out.cells (fun _=>rfl) (i:=aN) (x:=farV) (by rw [List.getElem?_replicate,if_pos ham]) 0 _ rfl;rw [Nat.mul_one,Nat.add_zero] at this;exact this
    obtain ⟨o1,o2⟩:=hO.out.set (fun _=>rfl) (i:=aN) ham 0;have hst:wo.setCells g (aN * 1) (encInt 0)=wo.setCell ⟨g,aN,none⟩ (.int .i64 0):=by simp [encInt,World.setCells]
    rw [hst] at o1;have hbs:=hbl.out.setCell (p:=⟨g,aN,none⟩) hgl.1 (.int .i64 0)
    obtain ⟨ws,hws⟩:∃ ws,wo.setCell ⟨g,aN,none⟩ (.int .i64 0)=ws:=⟨_,rfl⟩
    rw [hws] at o1 hbs;have HWS:=Lib.hid hws;have HBS:=Lib.hid hbs;have HRS:=Lib.hid (o1.rd (fun _=>rfl) (by omega));obtain ⟨s2,s3⟩:=SE.out ws hbs;clear hst o1 o2 hws hbs hO
    obtain ⟨x,hx⟩:∃ x,R.1.getD bN 0=x:=⟨_,rfl⟩
    have hgv:=HGV.out;rw [hx] at hgv;have HX:=Lib.hid hx;clear hx;by_cases hlen:R.1.length=k
    · have hne:((R.1.length:Int) != (k:Int))=false:=(by rw [hlen];simp)
      have HLEN:=Lib.hid hlen;by_cases hge:1000000000≤x
      · rw [if_pos (.inr hge)] at hgv
        have HV:=Lib.hid hgv;clear hgv;have hd:decide (x≥1000000000)=true:=decide_eq_true hge
        go_wp2_with (first
         | rw [HWS.out]
         | (go_at_call 209;(with_reducible refine (HS.out _ _ _ HBS.out HRS.out).mono ?_);rintro e w6 ⟨A6,c6,rfl,hO6,hb6⟩
            have HB6:=Lib.hid (HBS.out.trans (hb6.mono HBS.out.size));obtain ⟨s4,s5⟩:=SE.out w6 HB6.out
            have hwl6:w.heap.size<w6.heap.size:=(by have:=HZ1.out;have:=HB6.out.size;omega)
            have HO6:=Lib.hid hO6
            obtain ⟨g6,rfl⟩:∃ g6,A6=some ⟨g6,0,none⟩:=(by
             rcases HO6.out.form with ⟨_,h0,_⟩|⟨g6,h,_⟩
             · omega
             · exact ⟨g6,h⟩)
            have hc6:w6.cell? ⟨g6,bN,none⟩=some (.int .i64 x):=(by
             have:=HO6.out.cells (fun _=>rfl) (i:=bN) (x:=x) (by rw [←HX.out,List.getD_eq_getElem?_getD,List.getElem?_eq_getElem (by omega)];rfl) 0 _ rfl;rw [Nat.mul_one,Nat.add_zero] at this
             exact this)
            have hgl6:=HO6.out.lt.2
            clear hb6 hO6))
        go_ret2;exact ⟨by rw [←HV.out];rfl,HB1.out.trans (HB6.out.mono HB1.out.size)⟩
      · rw [if_neg (fun h=>by rcases h with h|h<;>omega)] at hgv
        have HV:=Lib.hid hgv;clear hgv;have hd:decide (x≥1000000000)=false:=decide_eq_false hge
        go_wp2_with (first
         | rw [HWS.out]
         | (go_at_call 209;(with_reducible refine (HS.out _ _ _ HBS.out HRS.out).mono ?_);rintro e w6 ⟨A6,c6,rfl,hO6,hb6⟩
            have HB6:=Lib.hid (HBS.out.trans (hb6.mono HBS.out.size));obtain ⟨s4,s5⟩:=SE.out w6 HB6.out
            have hwl6:w.heap.size<w6.heap.size:=(by have:=HZ1.out;have:=HB6.out.size;omega)
            have HO6:=Lib.hid hO6
            obtain ⟨g6,rfl⟩:∃ g6,A6=some ⟨g6,0,none⟩:=(by
             rcases HO6.out.form with ⟨_,h0,_⟩|⟨g6,h,_⟩
             · omega
             · exact ⟨g6,h⟩)
            have hc6:w6.cell? ⟨g6,bN,none⟩=some (.int .i64 x):=(by
             have:=HO6.out.cells (fun _=>rfl) (i:=bN) (x:=x) (by rw [←HX.out,List.getD_eq_getElem?_getD,List.getElem?_eq_getElem (by omega)];rfl) 0 _ rfl;rw [Nat.mul_one,Nat.add_zero] at this
             exact this)
            have hgl6:=HO6.out.lt.2
            clear hb6 hO6))
        go_ret2;exact ⟨by rw [←HV.out];rfl,HB1.out.trans (HB6.out.mono HB1.out.size)⟩
    · have hne:((R.1.length:Int) != (k:Int))=true:=(by simp;omega)
      rw [if_pos (.inl hlen)] at hgv;have HV:=Lib.hid hgv;clear hgv
      go_wp2_with (first
       | rw [HWS.out]
       | (go_at_call 209;(with_reducible refine (HS.out _ _ _ HBS.out HRS.out).mono ?_);rintro e w6 ⟨A6,c6,rfl,hO6,hb6⟩
          have HB6:=Lib.hid (HBS.out.trans (hb6.mono HBS.out.size));obtain ⟨s4,s5⟩:=SE.out w6 HB6.out
          have hwl6:w.heap.size<w6.heap.size:=(by have:=HZ1.out;have:=HB6.out.size;omega)
          have HO6:=Lib.hid hO6
          clear hb6 hO6))
      go_ret2;exact ⟨by rw [←HV.out];rfl,HB1.out.trans (HB6.out.mono HB1.out.size)⟩
theorem rGreatest_any (pts:Int) (A:Option Addr) (n c:Nat) (bs:List Bound) (a b:Int) (w:World) (hl:Rd encBound 4 w A n c bs) (hs:SmallSys pts bs) (hk:checkSys pts bs=0) (a1:0≤a) (a2:a<pts) (b1:0≤b) (b2:b<pts):
 Calls Tryz.prog 105 #[.agg #[.int .i64 pts,.slice A n c],.int .i64 a,.int .i64 b] w fun e w'=>e = .returned (.tuple #[.int .i64 (greatestV pts bs a b).1,.bool (greatestV pts bs a b).2.1,.int .i64 (greatestV pts bs a b).2.2])∧Below w.heap.size w w':=by
 have HA:=Lib.hid (fun W (h:Below w.heap.size w W)=>r1asked_ok pts A n c bs a b W (hl.below h (Nat.le_refl _)) hk a1 a2 b1 b2);have HS:=Lib.hid (fun W (h:Below w.heap.size w W)=>r1solved_any pts A n c bs W (hl.below h (Nat.le_refl _)) hs);have HG:=Lib.hid (fun W (h:Below w.heap.size w W)=>r1greatest_any pts A n c bs a b W (hl.below h (Nat.le_refl _)) hs a1 a2 b1 b2);have hrg:=fun h=>ref_greatest hs h a1 a2 b1 b2
 have hbad:solvedOk pts bs=false→greatestV pts bs a b=(0,false,10):=fun h=>by unfold greatestV;rw [h];rfl
 have hgood:solvedOk pts bs=true→(greatestV pts bs a b).2.2=0:=fun h=>by unfold greatestV;rw [h,if_pos rfl];split<;>rfl
 have SE:=Lib.hid (sysBox pts A n c w)
 obtain ⟨w1,hw1⟩:∃ w1,w.alloc (.cells #[.int .i64 pts,.slice A n c] 117)=w1:=⟨_,rfl⟩
 have hb1:Below w.heap.size w w1:=(by rw [←hw1];exact (Below.refl _ w).alloc (Nat.le_refl _) _)
 rw [hw1] at SE;have HB1:=Lib.hid hb1;have HW1:=Lib.hid hw1;obtain ⟨s0,s1⟩:=SE.out w1 (Below.refl _ _);clear hl hs hk hb1 hw1
 cases hR:solvedOk pts bs with
 | false=>
   rw [hbad hR];rw [hR] at HS;clear hR hbad hgood hrg HG;go_enter Tryz.func105,Tryz.ntmps105
   go_wp2_with (first
    | rw [HW1.out]
    | (go_at_call 156;(with_reducible refine (HA.out _ HB1.out).mono ?_);rintro e w2 ⟨rfl,hb2⟩;have HB2:=Lib.hid (HB1.out.trans (hb2.mono HB1.out.size));obtain ⟨s2,s3⟩:=SE.out w2 hb2;clear hb2)
    | (go_at_call 157;(with_reducible refine (HS.out _ HB2.out).mono ?_);rintro e w3 ⟨rfl,hb3⟩;have HB3:=Lib.hid (HB2.out.trans (hb3.mono HB2.out.size));clear hb3))
   go_ret3;exact ⟨rfl,HB3.out⟩
 | true=>
   have h0:=hgood hR;rw [hrg hR] at HG;rw [hR] at HS;clear hR hbad hgood hrg
   obtain ⟨⟨g1,g2,g3⟩,hg⟩:∃ q,greatestV pts bs a b=q:=⟨_,rfl⟩
   rw [hg] at h0 HG ⊢;simp only at h0 HG;subst h0;clear hg;go_enter Tryz.func105,Tryz.ntmps105
   go_wp2_with (first
    | rw [HW1.out]
    | (go_at_call 156;(with_reducible refine (HA.out _ HB1.out).mono ?_);rintro e w2 ⟨rfl,hb2⟩;have HB2:=Lib.hid (HB1.out.trans (hb2.mono HB1.out.size));have HX2:=Lib.hid hb2;obtain ⟨s2,s3⟩:=SE.out w2 hb2;clear hb2)
    | (go_at_call 157;(with_reducible refine (HS.out _ HB2.out).mono ?_);rintro e w3 ⟨rfl,hb3⟩;have HB3:=Lib.hid (HB2.out.trans (hb3.mono HB2.out.size));have HX3:=Lib.hid (HX2.out.trans (hb3.mono HX2.out.size));obtain ⟨s4,s5⟩:=SE.out w3 HX3.out;clear hb3)
    | (go_at_call 158;(with_reducible refine (HG.out _ HB3.out).mono ?_);rintro e w4 ⟨rfl,hb4⟩;have HB4:=Lib.hid (HB3.out.trans (hb4.mono HB3.out.size));clear hb4))
   go_ret3;exact ⟨rfl,HB4.out⟩
def codeBtw8:Option Code→Code
 | some (.seq _ (.seq _ (.seq _ (.seq _ (.seq _ (.seq _ (.seq c _)))))))=>c
 | _=> .skip
def BtwI (np:Nat) (S:List Bound) (L:List Link) (z:Value) (w:World):List Value→World→Prop
 | [],W=>Below w.heap.size w W
 | [v],W=>Below w.heap.size w W∧∃ A c,v = .slice A L.length c∧Rd encLink 6 W A L.length c L
 | [_,u],W=>Below w.heap.size w W∧∃ A c,u = .agg #[.int .i64 (np+1),.slice A L.length c]∧Rd encBound 4 W A L.length c S
 | [_,_,y],W=>Below w.heap.size w W∧y=z
 | _,_=>False
theorem BtwI.b {np:Nat} {S:List Bound} {L:List Link} {z:Value} {w W:World} {cv:List Value} (h:BtwI np S L z w cv W):Below w.heap.size w W:=by
 match cv,h with
 | [],h=>exact h
 | [_],h=>exact h.1
 | [_,_],h=>exact h.1
 | [_,_,_],h=>exact h.1
theorem BtwI.below {np:Nat} {S:List Bound} {L:List Link} {z:Value} {w W W':World} {cv:List Value} (h:BtwI np S L z w cv W) (hb:Below W.heap.size W W'):BtwI np S L z w cv W':=by
 have h1:Below w.heap.size w W':=h.b.trans (hb.mono h.b.size)
 match cv,h with
 | [],_=>exact h1
 | [_],⟨_,A,c,e,h2⟩=>exact ⟨h1,A,c,e,h2.below hb (Nat.le_refl _)⟩
 | [_,_],⟨_,A,c,e,h2⟩=>exact ⟨h1,A,c,e,h2.below hb (Nat.le_refl _)⟩
 | [_,_,_],⟨_,e⟩=>exact ⟨h1,e⟩
theorem BtwI.three {np:Nat} {S:List Bound} {L:List Link} {z:Value} {w W:World} {cv:List Value} (hl:3≤cv.length) (h:BtwI np S L z w cv W):∃ v u,cv = [v,u,z]:=by
 match cv,hl,h with
 | [v,u,y],_,⟨_,e⟩=>exact ⟨v,u,by rw [e]⟩
 | [],hl,_=>simp at hl
 | [_],hl,_=>simp at hl
 | [_,_],hl,_=>simp at hl
def Trbtw8 (At:Option Addr) (nt ct:Nat) (B:Option Addr) (m d:Nat) (M:Option Addr) (mn mc:Nat) (Ap:Option Addr) (np cp _ _:Nat) (p q:Place) (va vb g1:Int) (g2:Bool) (g3:Int) (_:List Link) (_:List Bound) (cv:List Value):List Value:=
 [.slice Ap np cp,.slice At nt ct,.slice B m d,.slice M mn mc,cv.getD 0 undef,cv.getD 1 undef,.slice Ap np cp,.agg #[.int .i64 p.pit,.int .i64 p.layer],.int .i64 va,.slice Ap np cp,.agg #[.int .i64 q.pit,.int .i64 q.layer],.int .i64 vb,cv.getD 2 undef,.tuple #[.int .i64 g1,.bool g2,.int .i64 g3],.int .i64 g1,.bool g2,.int .i64 g3,.int .i64 g1,.bool g2,.int .i64 g3]
theorem rbtw8 (cC:Code) (hc:cC=codeBtw8 Tryz.f52.body) (At:Option Addr) (nt ct:Nat) (B:Option Addr) (m d:Nat) (M:Option Addr) (mn mc:Nat) (Ap:Option Addr) (np cp ba bb:Nat) (p q:Place) (va vb g1:Int) (g2:Bool) (g3:Int) (L:List Link) (S:List Bound) (a:Act) (w:World) (Q:Exit→Act→World→Prop)
 (hT:a.tmps.size=64) (t2:a.tmps.getD 2 undef = .slice B m d) (t3:a.tmps.getD 3 undef = .slice M mn mc) (t10:a.tmps.getD 10 undef = .pointer (some ⟨ba,0,none⟩)) (t11:a.tmps.getD 11 undef = .pointer (some ⟨bb,0,none⟩)) (t16:a.tmps.getD 16 undef = .slice At nt ct) (t17:a.tmps.getD 17 undef = .slice Ap np cp)
 (CE:∀ W,Below w.heap.size w W→W.cell? ⟨ba,0,none⟩=some (.int .i64 p.pit)∧W.cell? ⟨ba,1,none⟩=some (.int .i64 p.layer)∧W.cell? ⟨bb,0,none⟩=some (.int .i64 q.pit)∧W.cell? ⟨bb,1,none⟩=some (.int .i64 q.layer))
 (C1:∀ W,Below w.heap.size w W→Calls Tryz.prog 107 #[.slice Ap np cp,.agg #[.int .i64 p.pit,.int .i64 p.layer]] W fun e w'=>e = .returned (.int .i64 va)∧Below W.heap.size W w')
 (C2:∀ W,Below w.heap.size w W→Calls Tryz.prog 107 #[.slice Ap np cp,.agg #[.int .i64 q.pit,.int .i64 q.layer]] W fun e w'=>e = .returned (.int .i64 vb)∧Below W.heap.size W w')
 (CL:∀ W,Below w.heap.size w W→Calls Tryz.prog 87 #[.slice At nt ct,.slice B m d,.slice M mn mc] W fun e w'=> ∃ A' c',e = .returned (.slice A' L.length c')∧Own encLink 6 74 W.heap.size w' A' L.length c' L∧Below W.heap.size W w')
 (CS:∀ W A c,Below w.heap.size w W→Rd encLink 6 W A L.length c L→Calls Tryz.prog 106 #[.slice Ap np cp,.slice A L.length c] W fun e w'=> ∃ A' c',e = .returned (.agg #[.int .i64 (np+1),.slice A' L.length c'])∧Own encBound 4 186 W.heap.size w' A' L.length c' S∧Below W.heap.size W w')
 (CG:∀ W A c,Below w.heap.size w W→Rd encBound 4 W A L.length c S→Calls Tryz.prog 105 #[.agg #[.int .i64 (np+1),.slice A L.length c],.int .i64 va,.int .i64 vb] W fun e w'=>e = .returned (.tuple #[.int .i64 g1,.bool g2,.int .i64 g3])∧Below W.heap.size W w') (hll:L.length≤1000000)
 (hQ:∀ v u W,Below w.heap.size w W→Q .normal { tmps:=setsL (setsL ((setsL (a.tmps) 44 [.slice Ap np cp,.slice At nt ct,.slice B m d,.slice M mn mc,v,u,.slice Ap np cp,.agg #[.int .i64 p.pit,.int .i64 p.layer],.int .i64 va,.slice Ap np cp,.agg #[.int .i64 q.pit,.int .i64 q.layer],.int .i64 vb,.tuple #[.int .i64 g1,.bool g2,.int .i64 g3]]).setIfInBounds 43 (.tuple #[.int .i64 g1,.bool g2,.int .i64 g3])) 57 [.int .i64 g1,.bool g2,.int .i64 g3]) 18 [.int .i64 g1,.bool g2,.int .i64 g3],defers:=a.defers } W):
 cC.wp Tryz.prog Q a w:=by
 subst hc;unfold codeBtw8 Tryz.f52;dsimp only;refine wpIn_wide.1 (wpIn_region_chain (nn:=5) 64 (by kernel_rfl) (by kernel_rfl) (by kernel_rfl) hT (fun i cv=>(Trbtw8 At nt ct B m d M mn mc Ap np cp ba bb p q va vb g1 g2 g3 L S cv).getD i undef) (fun i=>([0,0,0,0,0,0,0,0,0,0,0,0,0,3,0,0,0,0,0,0]:List Nat).getD i 0) (fun i=>([1,0,0,0,1,2,2,2,2,2,2,2,3,3,3,3,3,3,3,3]:List Nat).getD i 0) [4,5,12] (by kernel_rfl) (by kernel_rfl) (by kernel_rfl) (by kernel_rfl) (BtwI np S L (.tuple #[.int .i64 g1,.bool g2,.int .i64 g3]) w) ((Below.refl _ _).drew) (fun b cv hE hold=> ?_) (fun cv W hl hI=> ?_))
 · clear hQ
   have q2:=hold 2 _ (by kernel_rfl) t2;have q3:=hold 3 _ (by kernel_rfl) t3;have q10:=hold 10 _ (by kernel_rfl) t10;have q11:=hold 11 _ (by kernel_rfl) t11;have q16:=hold 16 _ (by kernel_rfl) t16;have q17:=hold 17 _ (by kernel_rfl) t17;simp only [factsL,Vc,idxC,Trbtw8,List.getD_cons_zero,List.getD_cons_succ,Nat.reduceAdd,Nat.reduceEqDiff,reduceIte,Option.map_some,Option.map_none] at hE
   repeat' first|exact chain_nil|refine chain_op 0 rfl rfl ?_ ?_|refine chain_op 1 rfl rfl ?_ ?_|refine chain_op 2 rfl rfl ?_ ?_|refine chain_skip rfl rfl rfl rfl ?_|refine chain_quiet rfl rfl ?_ ?_
   all_goals intro hl
   any_goals (
    intro hl2;simp only [List.getD_cons_zero,List.getD_cons_succ,Nat.reduceAdd] at hl hl2
    first
     | (obtain rfl:=List.eq_nil_of_length_eq_zero (Nat.le_zero.1 hl2);intro W hW;have hWb:Below w.heap.size w W:=hW;obtain ⟨a0,a1,b0,b1⟩:=CE W hWb;simp only [Trbtw8,List.getD_cons_zero,List.getD_cons_succ,Nat.reduceAdd]
        first
         | (refine .inl ?_;go_simp;done)
         | (refine .inl ?_;go_simp;rfl)
         | (refine .inr (.inr ⟨107,#[.slice Ap np cp,.agg #[.int .i64 p.pit,.int .i64 p.layer]],?_,(C1 W hW).mono ?_⟩)
            · go_simp<;>done
            · rintro e w' ⟨rfl,hb'⟩;exact ⟨rfl,hW.below hb'⟩)
         | (refine .inr (.inr ⟨107,#[.slice Ap np cp,.agg #[.int .i64 q.pit,.int .i64 q.layer]],?_,(C2 W hW).mono ?_⟩)
            · go_simp<;>done
            · rintro e w' ⟨rfl,hb'⟩;exact ⟨rfl,hW.below hb'⟩))
     | (intro W hW;simp only [Trbtw8,List.getD_cons_zero,List.getD_cons_succ,Nat.reduceAdd];refine .inl ?_;go_simp;(try rfl);done)
     | (intro W hW;obtain ⟨a0,a1,b0,b1⟩:=CE W (BtwI.b hW);simp only [Trbtw8,List.getD_cons_zero,List.getD_cons_succ,Nat.reduceAdd]
        first
         | (refine .inl ?_;go_simp;done)
         | (refine .inl ?_;go_simp;rfl)
         | (refine .inr (.inr ⟨107,#[.slice Ap np cp,.agg #[.int .i64 p.pit,.int .i64 p.layer]],?_,(C1 W hW.b).mono ?_⟩)
            · go_simp<;>done
            · rintro e w' ⟨rfl,hb'⟩;exact ⟨rfl,hW.below hb'⟩)
         | (refine .inr (.inr ⟨107,#[.slice Ap np cp,.agg #[.int .i64 q.pit,.int .i64 q.layer]],?_,(C2 W hW.b).mono ?_⟩)
            · go_simp<;>done
            · rintro e w' ⟨rfl,hb'⟩;exact ⟨rfl,hW.below hb'⟩))
     | (intro W hW;obtain ⟨v,u,rfl⟩:=BtwI.three hl hW;simp only [Trbtw8,List.getD_cons_zero,List.getD_cons_succ,Nat.reduceAdd] at hE ⊢;refine .inl ?_;go_simp;(try rfl);done)
    done)
   · obtain rfl:=List.eq_nil_of_length_eq_zero hl
     intro W hW;have hWb:Below w.heap.size w W:=hW;refine .inr ⟨87,#[.slice At nt ct,.slice B m d,.slice M mn mc],?_,(CL W hWb).mono ?_⟩
     · go_simp<;>done
     · rintro e w' ⟨A',c',rfl,hO,hb'⟩;exact ⟨_,rfl,hWb.trans (hb'.mono hWb.size),A',c',rfl,hO.rd (fun _=>rfl) (by omega)⟩
   · obtain ⟨v,rfl⟩:=len1 hl
     rintro W ⟨hWb,A0,c0,rfl,hrd⟩;simp only [List.getD_cons_zero] at hE;refine .inr ⟨106,#[.slice Ap np cp,.slice A0 L.length c0],?_,(CS W A0 c0 hWb hrd).mono ?_⟩
     · go_simp<;>done
     · rintro e w' ⟨A',c',rfl,hO,hb'⟩;exact ⟨_,rfl,hWb.trans (hb'.mono hWb.size),A',c',rfl,hO.rd (fun _=>rfl) (by omega)⟩
   · obtain ⟨v,u,rfl⟩:=len2 hl
     rintro W ⟨hWb,A0,c0,rfl,hrd⟩;simp only [List.getD_cons_zero,List.getD_cons_succ] at hE;refine .inr ⟨105,#[.agg #[.int .i64 (np+1),.slice A0 L.length c0],.int .i64 va,.int .i64 vb],?_,(CG W A0 c0 hWb hrd).mono ?_⟩
     · go_simp<;>done
     · rintro e w' ⟨rfl,hb'⟩;exact ⟨_,rfl,hWb.trans (hb'.mono hWb.size),rfl⟩
 · match cv,hl,hI with
   | [v,u,y],_,⟨hb,e⟩=>subst e;exact hQ v u W hb
theorem rpoint_no (A:Option Addr) (n c:Nat) (ps:List Place) (p:Place) (w:World) (hl:Rd encPlace 2 w A n c ps) (h0:p≠z00) (hp:p∉ps) (hbig:n≤1000000):
 Calls Tryz.prog 107 #[.slice A n c,.agg #[.int .i64 p.pit,.int .i64 p.layer]] w fun e w'=>e = .returned (.int .i64 (-1))∧Below w.heap.size w w':=by
 have HP:=Lib.hid hp;have q0:eqPlace ⟨p.pit,p.layer⟩ ⟨0,0⟩=false:=eqPlace_no.2 h0;clear hp h0;go_enter Tryz.func107,Tryz.ntmps107;go_wp2_with (fail);go_loopw [5] (fun i wr=> ∃ k:Nat,k≤n∧i = .int .i64 k∧Below (w.heap.size+1) (w.alloc (.cells #[.int .i64 p.pit,.int .i64 p.layer] 37)) wr) (fun i _=>n-(intOf i).toNat)
 case atStart=>exact ⟨0,Nat.zero_le _,rfl,Below.refl _ _⟩
 case round=>
  obtain ⟨k,hk,rfl,hb⟩:=hrel;have hzr:=hb.size;simp only [World.size_alloc] at hzr;have hbw0:Below w.heap.size w wr:=((Below.refl _ w).alloc (Nat.le_refl _) _).trans (hb.mono (by omega));obtain ⟨hcc,hff⟩:=bcell hb;have p0:wr.cell? ⟨w.heap.size,0,none⟩=some (.int .i64 p.pit):=by rw [hcc _ _ (by omega)];simp
  have p1:wr.cell? ⟨w.heap.size,1,none⟩=some (.int .i64 p.layer):=by rw [hcc _ _ (by omega)];simp
  clear hcc hff;by_cases hlt:k<n
  · have hlr:=hl.below hbw0 (Nat.le_refl _)
    obtain ⟨b,off,x,rfl,hbw,hx,hcell⟩:=hlr.one hlt;have c0:wr.cell? ⟨b,off+k * 2,none⟩=some (.int .i64 x.pit):=hcell 0 _ rfl;have c1:wr.cell? ⟨b,off+k * 2+1,none⟩=some (.int .i64 x.layer):=hcell 1 _ rfl;have hq:eqPlace x p=false:=eqPlace_no.2 (fun e=>by subst e;exact HP.out (List.mem_of_getElem? hx));clear hlr hcell hx;go_wp2_with (fail);go_region
    all_goals go_wp2
    all_goals go_roundw
    all_goals first
     | exact ⟨k+1,by omega,by go_num,hb.drew⟩
     | (simp [intOf];omega)
  · have hkn:k=n:=by omega
    subst hkn;go_wp2;go_ret;exact ⟨rfl,hbw0⟩
theorem rpointD_any (A:Option Addr) (n c:Nat) (ps:List Place) (p:Place) (w:World) (hl:Rd encPlace 2 w A n c ps) (hn:ps.Nodup) (hz:z00∉ps) (hbig:n≤1000000):
 Calls Tryz.prog 107 #[.slice A n c,.agg #[.int .i64 p.pit,.int .i64 p.layer]] w fun e w'=>e = .returned (.int .i64 ((getM (ptsM ps ps.length) p).getD (-1)))∧Below w.heap.size w w':=by
 cases h:getM (ptsM ps ps.length) p with
 | some v=>exact rpoint_any A n c ps p v w hl hn hz h hbig
 | none=>
   have hno:¬(p=z00∨p∈ps):=fun hp=>by
    obtain ⟨v,hv⟩:=ptsM_some ps hn hz hp;rw [h] at hv;cases hv
   exact rpoint_no A n c ps p w hl (fun e=>hno (.inl e)) (fun e=>hno (.inr e)) hbig
def twoV (ps:List Place) (a b:Place):Int:=if (getM (ptsM ps ps.length) a).isSome&&(getM (ptsM ps ps.length) b).isSome then 0 else 5
theorem boxes2 (a b:Place) (w:World) (w1:World) (hw1:(w.alloc (.cells #[.int .i64 a.pit,.int .i64 a.layer] 37)).alloc (.cells #[.int .i64 b.pit,.int .i64 b.layer] 37)=w1):Below w.heap.size w w1∧
 ∀ W,Below w1.heap.size w1 W→W.cell? ⟨w.heap.size,0,none⟩=some (.int .i64 a.pit)∧W.cell? ⟨w.heap.size,1,none⟩=some (.int .i64 a.layer)∧W.cell? ⟨w.heap.size+1,0,none⟩=some (.int .i64 b.pit)∧W.cell? ⟨w.heap.size+1,1,none⟩=some (.int .i64 b.layer):=by
 have hz1:w1.heap.size=w.heap.size+2:=(by rw [←hw1];simp)
 have hra:w1.heap[w.heap.size]? = some (.cells #[.int .i64 a.pit,.int .i64 a.layer] 37 (0,0)):=(by rw [←hw1,Below.heap_alloc _ _ _ (by simp)];exact heap_alloc_new w _)
 have hrb:w1.heap[w.heap.size+1]? = some (.cells #[.int .i64 b.pit,.int .i64 b.layer] 37 (0,0)):=(by
  rw [←hw1];have:=heap_alloc_new (w.alloc (.cells #[.int .i64 a.pit,.int .i64 a.layer] 37)) (.cells #[.int .i64 b.pit,.int .i64 b.layer] 37)
  rw [World.size_alloc] at this;exact this)
 refine ⟨by rw [←hw1];exact ((Below.refl _ w).alloc (Nat.le_refl _) _).alloc (by simp) _,fun W h=> ?_⟩;have h1:=(h.block _ (by omega)).trans hra;have h2:=(h.block _ (by omega)).trans hrb;simp [World.cell?,h1,h2]
theorem rtwo_any (A:Option Addr) (n c:Nat) (l:List Trace) (known:Int) (B:Option Addr) (m d:Nat) (bs:List Bond) (a b:Place) (w:World) (hl:Rd encTrace 10 w A n c l) (hb:Rd encBond 5 w B m d bs) (hask:askErr l known bs=0):
 Calls Tryz.prog 81 #[.slice A n c,.int .i64 known,.slice B m d,.agg #[.int .i64 a.pit,.int .i64 a.layer],.agg #[.int .i64 b.pit,.int .i64 b.layer]] w fun e w'=>e = .returned (.int .i64 (twoV (placesOf (counting l known) bs) a b))∧Below w.heap.size w w':=by
 have hO:=okO_of hask
 have hck:(check l).2=0:=by rcases askErr_cases l known bs with ⟨h,h'⟩|⟨h,_⟩|⟨h,_⟩|⟨h,_⟩|⟨h,_⟩<;>first|exact h|exact absurd (h'.symm.trans hask) h
 have hs1:=check_small hck;have hln:=hl.len;have hbn:=hb.len;have hl1:=hO.tn;have hl2:=hO.bn;have hps:=hO.pn;have HK:=Lib.hid (fun W (h:Below w.heap.size w W)=>rcounting_any A n c l known W (hl.below h (Nat.le_refl _)) (by omega));have HP:=Lib.hid (fun W A4 m4 c4 (h:Below w.heap.size w W) (hr:Rd encTrace 10 W A4 m4 c4 (counting l known))=>rplaces_any A4 m4 c4 (counting l known) B m d bs W hr (hb.below h (Nat.le_refl _)) (by have:=hr.len;omega) (by omega));have PT:=Lib.hid (fun W Ap cp p (h:Rd encPlace 2 W Ap (placesOf (counting l known) bs).length cp (placesOf (counting l known) bs))=>rpointD_any Ap (placesOf (counting l known) bs).length cp (placesOf (counting l known) bs) p W h (placesOf_nodup _ _) (z00_not hO) (by omega));have hcl:(counting l known).length≤17592186044416:=by omega
 have hrng:=fun p v=> @ptsM_range (placesOf (counting l known) bs) p v
 clear hO hask hck hs1 hln hbn hl1 hl2 hps hl hb;generalize placesOf (counting l known) bs=ps at *;generalize counting l known=ts at *
 obtain ⟨w1,hw1⟩:∃ w1,(w.alloc (.cells #[.int .i64 a.pit,.int .i64 a.layer] 37)).alloc (.cells #[.int .i64 b.pit,.int .i64 b.layer] 37)=w1:=⟨_,rfl⟩
 obtain ⟨hb1,hce⟩:=boxes2 a b w w1 hw1;have HB1:=Lib.hid hb1;have CE:=Lib.hid hce;have HW1:=Lib.hid hw1;obtain ⟨a0,a1,b0,b1⟩:=CE.out w1 (Below.refl _ _);clear hb1 hce hw1
 have hcase:(∃ va,(getM (ptsM ps ps.length) a).getD (-1)=va∧va<0∧twoV ps a b=5)∨(∃ va vb,(getM (ptsM ps ps.length) a).getD (-1)=va∧¬va<0∧(getM (ptsM ps ps.length) b).getD (-1)=vb∧((vb<0∧twoV ps a b=5)∨(¬vb<0∧twoV ps a b=0))):=by
  unfold twoV
  cases h1:getM (ptsM ps ps.length) a with
  | none=>exact .inl ⟨_,rfl,by decide,rfl⟩
  | some va=>
    have r1:=(hrng a va h1).1
    cases h2:getM (ptsM ps ps.length) b with
    | none=>exact .inr ⟨_,_,rfl,by simpa using r1,rfl,.inl ⟨by decide,rfl⟩⟩
    | some vb=>
      have r2:=(hrng b vb h2).1;exact .inr ⟨_,_,rfl,by simpa using r1,rfl,.inr ⟨by simpa using r2,rfl⟩⟩
 clear hrng
 rcases hcase with ⟨va,h1,h2,h3⟩|⟨va,vb,h1,h2,h3,h4⟩
 · rw [h3]
   have K1:Hid (∀ W Ap cp,Rd encPlace 2 W Ap ps.length cp ps→_):=Lib.hid (fun W Ap cp h=>PT.out W Ap cp a h);rw [h1] at K1;clear h1 h3 PT;go_enter Tryz.func81,Tryz.ntmps81
   go_wp2_with (first
    | rw [HW1.out]
    | (go_at_call 83;(with_reducible refine (HK.out _ HB1.out).mono ?_);rintro e w4 ⟨A4,m4,c4,rfl,hO4,hb4⟩
       have HB4:=Lib.hid (HB1.out.trans (hb4.mono HB1.out.size));have HX4:=Lib.hid ((Below.refl _ w1).trans hb4);have hm4:=hO4.len;have HR4:=Lib.hid (hO4.rd (fun _=>rfl) (by omega))
       clear hb4 hO4 hm4)
    | (go_at_call 82;(with_reducible refine (HP.out _ _ _ _ HB4.out HR4.out).mono ?_);rintro e w5 ⟨Ap,cp,rfl,hR5,hb5⟩
       have HB5:=Lib.hid (HB4.out.trans (hb5.mono HB4.out.size));have HX5:=Lib.hid (HX4.out.trans (hb5.mono HX4.out.size));have HR5:=Lib.hid hR5;obtain ⟨a2,a3,b2,b3⟩:=CE.out w5 HX5.out
       clear hb5 hR5)
    | (go_at_call 107;(with_reducible refine (K1.out _ _ _ HR5.out).mono ?_);rintro e w6 ⟨rfl,hb6⟩;have HB6:=Lib.hid (HB5.out.trans (hb6.mono HB5.out.size));clear hb6))
   go_ret;exact ⟨rfl,HB6.out⟩
 · have K1:Hid (∀ W Ap cp,Rd encPlace 2 W Ap ps.length cp ps→_):=Lib.hid (fun W Ap cp h=>PT.out W Ap cp a h)
   have K2:Hid (∀ W Ap cp,Rd encPlace 2 W Ap ps.length cp ps→_):=Lib.hid (fun W Ap cp h=>PT.out W Ap cp b h);rw [h1] at K1;rw [h3] at K2;clear h1 h3 PT
   rcases h4 with ⟨h4,h5⟩|⟨h4,h5⟩
   all_goals
    rw [h5];clear h5;go_enter Tryz.func81,Tryz.ntmps81
    go_wp2_with (first
     | rw [HW1.out]
     | (go_at_call 83;(with_reducible refine (HK.out _ HB1.out).mono ?_);rintro e w4 ⟨A4,m4,c4,rfl,hO4,hb4⟩
        have HB4:=Lib.hid (HB1.out.trans (hb4.mono HB1.out.size));have HX4:=Lib.hid ((Below.refl _ w1).trans hb4);have hm4:=hO4.len;have HR4:=Lib.hid (hO4.rd (fun _=>rfl) (by omega))
        clear hb4 hO4 hm4)
     | (go_at_call 82;(with_reducible refine (HP.out _ _ _ _ HB4.out HR4.out).mono ?_);rintro e w5 ⟨Ap,cp,rfl,hR5,hb5⟩
        have HB5:=Lib.hid (HB4.out.trans (hb5.mono HB4.out.size));have HX5:=Lib.hid (HX4.out.trans (hb5.mono HX4.out.size));have HR5:=Lib.hid hR5;obtain ⟨a2,a3,b2,b3⟩:=CE.out w5 HX5.out
        clear hb5 hR5)
     | (go_at_call 107;(with_reducible refine (K1.out _ _ _ HR5.out).mono ?_);rintro e w6 ⟨rfl,hb6⟩
        have HB6:=Lib.hid (HB5.out.trans (hb6.mono HB5.out.size));have HX6:=Lib.hid (HX5.out.trans (hb6.mono HX5.out.size));have HR6:=Lib.hid (HR5.out.below hb6 (Nat.le_refl _));obtain ⟨a4,a5,b4,b5⟩:=CE.out w6 HX6.out
        clear hb6)
     | (go_at_call 107;(with_reducible refine (K2.out _ _ _ HR6.out).mono ?_);rintro e w7 ⟨rfl,hb7⟩;have HB7:=Lib.hid (HB6.out.trans (hb7.mono HB6.out.size));clear hb7))
    go_ret;exact ⟨rfl,HB7.out⟩
theorem rBetween_any (A:Option Addr) (n c:Nat) (l:List Trace) (known:Int) (B:Option Addr) (m d:Nat) (bs:List Bond) (M:Option Addr) (mn mc:Nat) (mv:List Place) (a b:Place) (w:World) (hl:Rd encTrace 10 w A n c l) (hb:Rd encBond 5 w B m d bs) (hm:Rd encPlace 2 w M mn mc mv):
 Calls Tryz.prog 52 #[.slice A n c,.int .i64 known,.slice B m d,.slice M mn mc,.agg #[.int .i64 a.pit,.int .i64 a.layer],.agg #[.int .i64 b.pit,.int .i64 b.layer]] w fun e w'=>e = .returned (.tuple #[.int .i64 (betweenV l known bs mv a b).1,.bool (betweenV l known bs mv a b).2.1,.int .i64 (betweenV l known bs mv a b).2.2])∧Below w.heap.size w w':=by
 have HMO:=Lib.hid (fun W (h:Below w.heap.size w W)=>rmoves_any A n c l known B m d bs M mn mc mv W (hl.below h (Nat.le_refl _)) (hb.below h (Nat.le_refl _)) (hm.below h (Nat.le_refl _)))
 obtain ⟨w1,hw1⟩:∃ w1,(w.alloc (.cells #[.int .i64 a.pit,.int .i64 a.layer] 37)).alloc (.cells #[.int .i64 b.pit,.int .i64 b.layer] 37)=w1:=⟨_,rfl⟩
 obtain ⟨hb1,hce⟩:=boxes2 a b w w1 hw1;have HB1:=Lib.hid hb1;have CE:=Lib.hid hce;have HW1:=Lib.hid hw1;obtain ⟨a0,a1,b0,b1⟩:=CE.out w1 (Below.refl _ _)
 have hz1:w1.heap.size=w.heap.size+2:=(by rw [←hw1];simp)
 have HZ1:=Lib.hid hz1;clear hb1 hce hw1 hz1;by_cases he:withErr l known bs mv=0
 case neg=>
  have he':=neBool he;have hne:(withErr l known bs mv==0)=false:=by simpa using he
  have hv:betweenV l known bs mv a b=(0,false,withErr l known bs mv):=by
   have h1:endsErr l known bs mv a b=withErr l known bs mv:=by unfold endsErr;rw [if_pos he]
   unfold betweenV;rw [if_pos (by rw [h1];exact he),h1]
  rw [hv];clear hv he hl hb hm;generalize withErr l known bs mv=er at *;go_enter Tryz.func52,Tryz.ntmps52
  go_wp2_with (first
   | rw [HW1.out]
   | (go_at_call 86;(with_reducible refine (HMO.out _ HB1.out).mono ?_);rintro e w2 ⟨rfl,hb2⟩;have HB2:=Lib.hid (HB1.out.trans (hb2.mono HB1.out.size));clear hb2))
  go_ret3;exact ⟨rfl,HB2.out⟩
 case pos=>
  have hask:=askErr_of_with he;have hO:=okO_of hask
  have hck:(check l).2=0:=by rcases askErr_cases l known bs with ⟨h,h'⟩|⟨h,_⟩|⟨h,_⟩|⟨h,_⟩|⟨h,_⟩<;>first|exact h|exact absurd (h'.symm.trans hask) h
  have hs1:=check_small hck;have hln:=hl.len;have hbn:=hb.len;have hps:=hO.pn;have hl1:=hO.tn;have hl2:=hO.bn;have hll:=linksL_len (counting l known) bs mv;rw [he] at HMO;have hends:endsErr l known bs mv a b=twoV (placesOf (counting l known) bs) a b:=by unfold endsErr twoV;rw [if_neg (by simpa using he)];rfl
  have HTW:=Lib.hid (fun W (h:Below w.heap.size w W)=>rtwo_any A n c l known B m d bs a b W (hl.below h (Nat.le_refl _)) (hb.below h (Nat.le_refl _)) hask);by_cases h2:twoV (placesOf (counting l known) bs) a b=0
  case neg=>
   have h2':=neBool h2;have hv:betweenV l known bs mv a b=(0,false,twoV (placesOf (counting l known) bs) a b):=by unfold betweenV;rw [if_pos (by rw [hends];exact h2),hends]
   rw [hv];clear hv h2 he hl hb hm hO hask hck hs1 hln hbn hps hl1 hl2 hll hends;generalize twoV (placesOf (counting l known) bs) a b=er at *;go_enter Tryz.func52,Tryz.ntmps52
   go_wp2_with (first
    | rw [HW1.out]
    | (go_at_call 86;(with_reducible refine (HMO.out _ HB1.out).mono ?_);rintro e w2 ⟨rfl,hb2⟩;have HB2:=Lib.hid (HB1.out.trans (hb2.mono HB1.out.size));obtain ⟨a2,a3,b2,b3⟩:=CE.out w2 hb2;clear hb2)
    | (go_at_call 81;(with_reducible refine (HTW.out _ HB2.out).mono ?_);rintro e w3 ⟨rfl,hb3⟩;have HB3:=Lib.hid (HB2.out.trans (hb3.mono HB2.out.size));clear hb3))
   go_ret3;exact ⟨rfl,HB3.out⟩
  case pos=>
   have hv0:betweenV l known bs mv a b=if (greatestV ((placesOf (counting l known) bs).length+1) (sysB (counting l known) bs mv) ((getM (ptsOf l known bs) a).getD 0) ((getM (ptsOf l known bs) b).getD 0)).2.2≠0 then (0,false,81) else ((greatestV ((placesOf (counting l known) bs).length+1) (sysB (counting l known) bs mv) ((getM (ptsOf l known bs) a).getD 0) ((getM (ptsOf l known bs) b).getD 0)).1,(greatestV ((placesOf (counting l known) bs).length+1) (sysB (counting l known) bs mv) ((getM (ptsOf l known bs) a).getD 0) ((getM (ptsOf l known bs) b).getD 0)).2.1,0):=by
    unfold betweenV;rw [if_neg (by rw [hends];simpa using h2)];rfl
   obtain ⟨va,vb,h3,h4⟩:∃ va vb,getM (ptsOf l known bs) a=some va∧getM (ptsOf l known bs) b=some vb:=by
    have h5:twoV (placesOf (counting l known) bs) a b=if (getM (ptsOf l known bs) a).isSome&&(getM (ptsOf l known bs) b).isSome then 0 else 5:=rfl
    rw [h5] at h2
    cases g1:getM (ptsOf l known bs) a with
    | none=>rw [g1] at h2;exact absurd h2 (by simp)
    | some va=>
      cases g2:getM (ptsOf l known bs) b with
      | none=>rw [g1,g2] at h2;exact absurd h2 (by simp)
      | some vb=>exact ⟨va,vb,rfl,rfl⟩
   rw [hv0,h3,h4,Option.getD_some,Option.getD_some];rw [h2] at HTW;have r1:=ptsM_range (placesOf (counting l known) bs) (show getM (ptsM (placesOf (counting l known) bs) (placesOf (counting l known) bs).length) a=some va from h3);have r2:=ptsM_range (placesOf (counting l known) bs) (show getM (ptsM (placesOf (counting l known) bs) (placesOf (counting l known) bs).length) b=some vb from h4);have HK:=Lib.hid (fun W (h:Below w.heap.size w W)=>rcounting_any A n c l known W (hl.below h (Nat.le_refl _)) (by omega));have HP:=Lib.hid (fun W A4 m4 c4 (h:Below w.heap.size w W) (hr:Rd encTrace 10 W A4 m4 c4 (counting l known))=>rplaces_any A4 m4 c4 (counting l known) B m d bs W hr (hb.below h (Nat.le_refl _)) (by have:=hr.len;omega) (by omega));have PA:=Lib.hid (fun W Ap cp (h:Rd encPlace 2 W Ap (placesOf (counting l known) bs).length cp (placesOf (counting l known) bs))=>rpoint_any Ap (placesOf (counting l known) bs).length cp (placesOf (counting l known) bs) a va W h (placesOf_nodup _ _) (z00_not hO) h3 (by omega));have PB:=Lib.hid (fun W Ap cp (h:Rd encPlace 2 W Ap (placesOf (counting l known) bs).length cp (placesOf (counting l known) bs))=>rpoint_any Ap (placesOf (counting l known) bs).length cp (placesOf (counting l known) bs) b vb W h (placesOf_nodup _ _) (z00_not hO) h4 (by omega));have HLK:=Lib.hid (fun W A4 m4 c4 (h:Below w.heap.size w W) (hr:Rd encTrace 10 W A4 m4 c4 (counting l known))=>rlinks_any A4 m4 c4 (counting l known) B m d bs M mn mc mv W hr (hb.below h (Nat.le_refl _)) (hm.below h (Nat.le_refl _)) (by have:=hr.len;omega) (by omega) (okLT_counting hck));have HSY:=Lib.hid (fun W Ap cp Al cl (h1:Rd encPlace 2 W Ap (placesOf (counting l known) bs).length cp (placesOf (counting l known) bs)) (h2:Rd encLink 6 W Al (linksL (counting l known) bs mv).length cl (linksL (counting l known) bs mv))=>rsystem_any Ap (placesOf (counting l known) bs).length cp (placesOf (counting l known) bs) Al (linksL (counting l known) bs mv).length cl (linksL (counting l known) bs mv) W h1 h2 (placesOf_nodup _ _) (z00_not hO) (linksL_good hO mv) (by omega) (by omega));have HGR:=Lib.hid (fun W A' c' (h1:Rd encBound 4 W A' (linksL (counting l known) bs mv).length c' (sysB (counting l known) bs mv))=>rGreatest_any ((placesOf (counting l known) bs).length+1) A' (linksL (counting l known) bs mv).length c' (sysB (counting l known) bs mv) va vb W h1 (smallSys_years hO mv) (checkSys_years hO mv) r1.1 r1.2 r2.1 r2.2);have hcl:(counting l known).length≤17592186044416:=by omega
   have hlb:(linksL (counting l known) bs mv).length≤1000000:=by omega
   have hsE:(linksL (counting l known) bs mv).map (boundOf (ptsM (placesOf (counting l known) bs) (placesOf (counting l known) bs).length))=sysB (counting l known) bs mv:=rfl;rw [hsE] at HSY;clear hv0 hends h2 h3 h4 hsE he hO hask hck hs1 hln hbn hps hl1 hl2 hll hl hb hm r1 r2
   obtain ⟨⟨g1,g2,g3⟩,hg⟩:∃ q,greatestV ((placesOf (counting l known) bs).length+1) (sysB (counting l known) bs mv) va vb=q:=⟨_,rfl⟩
   rw [hg] at HGR ⊢;clear hg;simp only at HGR ⊢
   obtain ⟨bv,hbv⟩:∃ bv:Int×Bool×Int,(if g3≠0 then ((0:Int),false,(81:Int)) else (g1,g2,0))=bv:=⟨_,rfl⟩
   rw [hbv];have HBV:=Lib.hid hbv;clear hbv;generalize sysB (counting l known) bs mv=S at *;generalize linksL (counting l known) bs mv=L at *;generalize placesOf (counting l known) bs=ps at *;generalize counting l known=ts at *;go_enter Tryz.func52,Tryz.ntmps52
   go_upto_region 8 with (first
    | rw [HW1.out]
    | (go_at_call 86;(with_reducible refine (HMO.out _ HB1.out).mono ?_);rintro e w2 ⟨rfl,hb2⟩;have HB2:=Lib.hid (HB1.out.trans (hb2.mono HB1.out.size));have HX2:=Lib.hid ((Below.refl _ w1).trans hb2);obtain ⟨a2,a3,b2,b3⟩:=CE.out w2 hb2;clear hb2)
    | (go_at_call 81;(with_reducible refine (HTW.out _ HB2.out).mono ?_);rintro e w3 ⟨rfl,hb3⟩;have HB3:=Lib.hid (HB2.out.trans (hb3.mono HB2.out.size));have HX3:=Lib.hid (HX2.out.trans (hb3.mono HX2.out.size));clear hb3)
    | (go_at_call 83;(with_reducible refine (HK.out _ HB3.out).mono ?_);rintro e w4 ⟨A4,m4,c4,rfl,hO4,hb4⟩
       have HB4:=Lib.hid (HB3.out.trans (hb4.mono HB3.out.size));have HX4:=Lib.hid (HX3.out.trans (hb4.mono HX3.out.size));have hm4:=hO4.len;have HR4:=Lib.hid (hO4.rd (fun _=>rfl) (by omega))
       clear hb4 hO4 hm4)
    | (go_at_call 82;(with_reducible refine (HP.out _ _ _ _ HB4.out HR4.out).mono ?_);rintro e w5 ⟨Ap,cp,rfl,hR5,hb5⟩
       have HB5:=Lib.hid (HB4.out.trans (hb5.mono HB4.out.size));have HX5:=Lib.hid (HX4.out.trans (hb5.mono HX4.out.size));have HT5:=Lib.hid (HR4.out.below hb5 (Nat.le_refl _));have HR5:=Lib.hid hR5
       clear hb5 hR5))
   have hz5:=HB5.out.size
   refine rbtw8 _ rfl A4 m4 c4 B m d M mn mc Ap ps.length cp w.heap.size (w.heap.size+1) a b va vb g1 g2 g3 L S _ w5 _ rfl rfl rfl rfl rfl rfl rfl (fun W h=>CE.out W (HX5.out.trans (h.mono HX5.out.size))) (fun W h=>PA.out W Ap cp (HR5.out.below h (Nat.le_refl _))) (fun W h=>PB.out W Ap cp (HR5.out.below h (Nat.le_refl _)))
    (fun W h=>HLK.out W A4 m4 c4 (HB5.out.trans (h.mono hz5)) (HT5.out.below h (Nat.le_refl _))) (fun W A c h h2=>HSY.out W Ap cp A c (HR5.out.below h (Nat.le_refl _)) h2) (fun W A c h h2=>HGR.out W A c h2) hlb ?_
   intro v u w6 hb6;have HB6:=Lib.hid (HB5.out.trans (hb6.mono hz5));clear hb6;simp only [setsL,Nat.reduceAdd,List.setIfInBounds_toArray,List.set_cons_succ,List.set_cons_zero];by_cases hg3:g3=0
   · subst hg3
     have HV:Hid (bv=(g1,g2,0)):=(show _=_ by rw [←HBV.out,if_neg (by simp)])
     clear HBV;go_wp2;go_ret3;exact ⟨by rw [HV.out];rfl,HB6.out⟩
   · have HV:Hid (bv=(0,false,81)):=(show _=_ by rw [←HBV.out,if_pos hg3])
     have hn3:=neBool hg3;clear HBV;go_wp2;go_ret3;exact ⟨by rw [HV.out];rfl,HB6.out⟩
end Go.Proofs.YtelnkflmnbhclaaGreat
end

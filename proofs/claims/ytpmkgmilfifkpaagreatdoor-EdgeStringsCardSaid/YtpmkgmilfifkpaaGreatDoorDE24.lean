/- Contracts that the laws lean on: Shr, JoV, JoS, JoT. -/
import Derived.Test.YtpmkgmilfifkpaaGreatDoorDE23
set_option maxRecDepth 100000
set_option maxHeartbeats 8000000
section
namespace Go.Proofs.YtpmkgmilfifkpaaGreatDoor
open Go.RowKit Go.Proofs Go.Shelf
theorem greatestV_ok {pts:Int} {bs:List Bound} (hs:solvedOk pts bs=true) (a b:Int):greatestV pts bs a b=if greatestR pts bs a b=noneV then (0,false,0) else (greatestR pts bs a b,true,0):=by
 unfold greatestV
 rw [hs]
 rfl
theorem Least_any (pts:Int) (A:Option Addr) (n c:Nat) (bs:List Bound) (a b:Int) (w:World) (hl:Rd encBound 4 w A n c bs) (hk:checkSys pts bs=0) (hs:solvedOk pts bs=true) (h1:0≤a) (h2:a<pts) (h3:0≤b) (h4:b<pts):
 Calls Tryz.prog 30 #[.agg #[.int .i64 pts,.slice A n c],.int .i64 a,.int .i64 b] w fun e w'=>e = .returned (.tuple #[.int .i64 (-(greatestV pts bs b a).1),.bool (greatestV pts bs b a).2.1,.int .i64 (greatestV pts bs b a).2.2])∧Below w.heap.size w w':=by
 have hg:=Greatest_any pts A n c bs b a _ (hl.alloc (.cells #[.int .i64 pts,.slice A n c] 83)) hk h3 h4 h1 h2
 have hbd: -100000000≤(greatestV pts bs b a).1∧(greatestV pts bs b a).1≤100000000:=by
  rw [greatestV_ok hs]
  split
  · simp
  · rename_i hne
    have hn:=gr_none (sysOk_of hk) hs h3 h4 h1 h2
    have:=gr_bound (sysOk_of hk) hs h3 h4 h1 h2 (by omega)
    simp only;omega
 have HG:=Lib.hid hg
 generalize greatestV pts bs b a=gv at *
 obtain ⟨g1,g2,g3⟩:=gv
 simp only at hbd HG ⊢
 have hw:IntKind.i64.wrap (-g1) = -g1:=(by rw [IntKind.wrap_i64];omega)
 clear hg hl hk hs h1 h2 h3 h4 hbd
 go_enter Tryz.func30,Tryz.ntmps30
 go_wp2_with (go_at_call 32;(with_reducible refine HG.out.mono ?_);rintro e w3 ⟨rfl,hb3⟩;have HB3:=Lib.hid hb3;clear hb3)
 go_ret3
 exact ⟨rfl,((Below.refl _ w).alloc (Nat.le_refl _) _).trans (HB3.out.mono (by simp))⟩
def sharedV (A B:Outl) (p:Pairing):Int×Int×Int:=if askedErr A B p≠0 then (0,0,askedErr A B p) else if meetsV A B p=false then (0,0,30) else (sharedLow A B p,sharedHigh A B p,0)
theorem shared_low {A B:Outl} {p:Pairing} (hm:meetsV A B p=true):sharedLow A B p=if (greatestV (waysN A B p) (waysB A B p) p.a.hi p.a.lo).2.1 then -(greatestV (waysN A B p) (waysB A B p) p.a.hi p.a.lo).1 else -1000000000:=by
 rw [greatestV_ok (meets_solved hm)]
 unfold sharedLow
 split<;>rfl
theorem shared_high {A B:Outl} {p:Pairing} (hm:meetsV A B p=true):sharedHigh A B p=if (greatestV (waysN A B p) (waysB A B p) p.a.lo p.a.hi).2.1 then (greatestV (waysN A B p) (waysB A B p) p.a.lo p.a.hi).1 else 1000000000:=by
 rw [greatestV_ok (meets_solved hm)]
 unfold sharedHigh
 split<;>rfl
theorem Shared_any (A:Outl) (AwA:Option Addr) (Awn Awc:Nat) (AtA:Option Addr) (Atn Atc:Nat) (B:Outl) (BwA:Option Addr) (Bwn Bwc:Nat) (BtA:Option Addr) (Btn Btc:Nat) (p:Pairing) (w:World) (Aw:Rd encBound 4 w AwA Awn Awc A.ways) (At:Rd encBound 4 w AtA Atn Atc A.turns) (Bw:Rd encBound 4 w BwA Bwn Bwc B.ways) (Bt:Rd encBound 4 w BtA Btn Btc B.turns):
 Calls Tryz.prog 13 #[.agg #[.int .i64 A.n,.slice AwA Awn Awc,.slice AtA Atn Atc],.agg #[.int .i64 B.n,.slice BwA Bwn Bwc,.slice BtA Btn Btc],.agg #[.int .i64 p.a.lo,.int .i64 p.a.hi,.int .i64 p.b.lo,.int .i64 p.b.hi]] w fun e w'=>e = .returned (.tuple #[.int .i64 (sharedV A B p).1,.int .i64 (sharedV A B p).2.1,.int .i64 (sharedV A B p).2.2])∧Below w.heap.size w w':=by
 obtain ⟨w1,hw1,hb1,hz1,hbx⟩:=boxABP w A AwA Awn Awc AtA Atn Atc B BwA Bwn Bwc BtA Btn Btc p
 have KX:=Lib.hid hbx
 have RAw:Hid (∀ W,Below w1.heap.size w1 W→Rd encBound 4 W AwA Awn Awc A.ways):=(show ∀ W,_→_ from fun W h=>(Aw.below hb1 (Nat.le_refl _)).below h (Nat.le_refl _))
 have RAt:Hid (∀ W,Below w1.heap.size w1 W→Rd encBound 4 W AtA Atn Atc A.turns):=(show ∀ W,_→_ from fun W h=>(At.below hb1 (Nat.le_refl _)).below h (Nat.le_refl _))
 have RBw:Hid (∀ W,Below w1.heap.size w1 W→Rd encBound 4 W BwA Bwn Bwc B.ways):=(show ∀ W,_→_ from fun W h=>(Bw.below hb1 (Nat.le_refl _)).below h (Nat.le_refl _))
 have RBt:Hid (∀ W,Below w1.heap.size w1 W→Rd encBound 4 W BtA Btn Btc B.turns):=(show ∀ W,_→_ from fun W h=>(Bt.below hb1 (Nat.le_refl _)).below h (Nat.le_refl _))
 have K1:=Lib.hid (fun W (h:Below w1.heap.size w1 W)=>asked_any A AwA Awn Awc AtA Atn Atc B BwA Bwn Bwc BtA Btn Btc p W (RAw.out W h) (RAt.out W h) (RBw.out W h) (RBt.out W h))
 have la:=Aw.len;have lb:=Bw.len
 have HB1:=Lib.hid hb1
 have HB11:=Lib.hid (Below.refl w1.heap.size w1)
 have HW1:=Lib.hid hw1
 obtain ⟨xa0,xa1,xa2,xb0,xb1,xb2,xp0,xp1,xp2,xp3⟩:=KX.out w1 HB11.out
 clear Aw At Bw Bt hb1 hbx hw1
 by_cases h1:askedErr A B p=0
 case neg=>
  have hv:sharedV A B p=(0,0,askedErr A B p):=by unfold sharedV;rw [if_pos h1]
  rw [hv]
  have h1':(askedErr A B p != 0)=true:=by simpa using h1
  clear h1 hv la lb
  generalize askedErr A B p=er at *
  go_enter Tryz.func13,Tryz.ntmps13
  go_wp2_with (first
   | rw [HW1.out]
   | (go_at_call 28;(with_reducible refine (K1.out _ HB11.out).mono ?_);rintro e w2 ⟨rfl,hb2⟩;have HB2:=Lib.hid hb2;clear hb2))
  go_ret3
  exact ⟨rfl,(HB1.out.trans (HB2.out.mono HB1.out.size)).alloc (HB1.out.trans (HB2.out.mono HB1.out.size)).size _⟩
 case pos=>
  have hok:=askedErr_zero.1 h1
  have K2:=Lib.hid (fun W (h:Below w1.heap.size w1 W)=>pmeets_any A AwA Awn Awc AtA Atn Atc B BwA Bwn Bwc BtA Btn Btc p W (RAw.out W h) (RAt.out W h) (RBw.out W h) (RBt.out W h) hok)
  cases hm:meetsV A B p with
  | false=>
    have hv:sharedV A B p=(0,0,30):=by unfold sharedV;rw [if_neg (by simpa using h1),if_pos hm]
    rw [hv]
    rw [h1] at K1
    rw [hm] at K2
    clear h1 hv la lb hok hm
    go_enter Tryz.func13,Tryz.ntmps13
    go_wp2_with (first
     | rw [HW1.out]
     | (go_at_call 28;(with_reducible refine (K1.out _ HB11.out).mono ?_);rintro e w2 ⟨rfl,hb2⟩;have HB2:=Lib.hid hb2;clear hb2)
     | (go_at_call 29;(with_reducible refine (K2.out _ (HB2.out.alloc HB2.out.size _)).mono ?_);rintro e w3 ⟨rfl,hb3⟩;have HB3:=Lib.hid ((HB2.out.alloc HB2.out.size (.cells #[.int .i64 A.n,.slice AwA Awn Awc,.slice AtA Atn Atc,.int .i64 B.n,.slice BwA Bwn Bwc,.slice BtA Btn Btc,.int .i64 p.a.lo,.int .i64 p.a.hi,.int .i64 p.b.lo,.int .i64 p.b.hi] 77)).trans (hb3.mono (HB2.out.alloc HB2.out.size _).size));clear hb3))
    go_ret3
    exact ⟨rfl,HB1.out.trans (HB3.out.mono HB1.out.size)⟩
  | true=>
    have hv:sharedV A B p=(sharedLow A B p,sharedHigh A B p,0):=by unfold sharedV;rw [if_neg (by simpa using h1),if_neg (by rw [hm];simp)]
    rw [hv,shared_low hm,shared_high hm]
    rw [h1] at K1
    rw [hm] at K2
    obtain ⟨n1,n2,n3⟩:=hok.n_ways
    have hr1:=hok.r1
    have hN:Awn+Bwn≤400:=by omega
    have C1:Hid (∀ W,Below w1.heap.size w1 W→Calls Tryz.prog 31 #[.agg #[.int .i64 A.n,.slice AwA Awn Awc,.slice AtA Atn Atc,.int .i64 B.n,.slice BwA Bwn Bwc,.slice BtA Btn Btc,.int .i64 p.a.lo,.int .i64 p.a.hi,.int .i64 p.b.lo,.int .i64 p.b.hi]] W fun e w'=> ∃ A' c,e = .returned (.agg #[.int .i64 (waysN A B p),.slice A' (Awn+Bwn) c])∧Below W.heap.size W w'∧Rd encBound 4 w' A' (Awn+Bwn) c (waysB A B p)):=(show ∀ W,_→_ from fun W h=>(pways_any A AwA Awn Awc AtA Atn Atc B BwA Bwn Bwc BtA Btn Btc p W (RAw.out W h) (RAt.out W h) (RBw.out W h) (RBt.out W h) hok.toPairOk).mono (by
     rintro e w' ⟨A',c',rfl,hb',hr'⟩
     exact ⟨A',c',rfl,hb',hr'.rd (RAw.out w' (h.trans (hb'.mono h.size))) (by omega)⟩))
    have C2:=Lib.hid (fun W A' c (hr:Rd encBound 4 W A' (Awn+Bwn) c (waysB A B p))=>Least_any (waysN A B p) A' (Awn+Bwn) c (waysB A B p) p.a.lo p.a.hi W hr hok.ways_sys (meets_solved hm) hok.a0 n3 n2 n1)
    have C3:=Lib.hid (fun W A' c (hr:Rd encBound 4 W A' (Awn+Bwn) c (waysB A B p))=>Greatest_any (waysN A B p) A' (Awn+Bwn) c (waysB A B p) p.a.lo p.a.hi W hr hok.ways_sys hok.a0 n3 n2 n1)
    clear h1 hv la lb hok hm n1 n2 n3 hr1 hN
    generalize greatestV (waysN A B p) (waysB A B p) p.a.hi p.a.lo=gl at *
    generalize greatestV (waysN A B p) (waysB A B p) p.a.lo p.a.hi=gg at *
    generalize waysN A B p=N at *
    generalize waysB A B p=L at *
    obtain ⟨l1,l2,l3⟩:=gl
    obtain ⟨g1,g2,g3⟩:=gg
    simp only at C2 C3 ⊢
    go_enter Tryz.func13,Tryz.ntmps13
    go_upto_region 7 with (first
     | rw [HW1.out]
     | (go_at_call 28;(with_reducible refine (K1.out _ HB11.out).mono ?_);rintro e w2 ⟨rfl,hb2⟩
        obtain ⟨w3,a3,l3_,z3,e3⟩:=alloc_facts w2 (#[.int .i64 A.n,.slice AwA Awn Awc,.slice AtA Atn Atc,.int .i64 B.n,.slice BwA Bwn Bwc,.slice BtA Btn Btc,.int .i64 p.a.lo,.int .i64 p.a.hi,.int .i64 p.b.lo,.int .i64 p.b.hi]) 77
        obtain ⟨d0,d1,d2,d3,d4,d5,d6,d7,d8,d9⟩:=ten_cells e3
        have HB2:=Lib.hid (hb2.trans (l3_.mono hb2.size))
        have E3:=Lib.hid e3
        have Z3:=Lib.hid z3
        have HA3:=Lib.hid a3
        clear hb2 a3 l3_ z3 e3)
     | rw [HA3.out]
     | (go_at_call 29;(with_reducible refine (K2.out _ HB2.out).mono ?_);rintro e w4 ⟨rfl,hb4⟩;have HB34:=Lib.hid hb4;have HB4:=Lib.hid (HB2.out.trans (hb4.mono HB2.out.size));clear hb4))
    have HCE:Hid (∀ W,Below w4.heap.size w4 W→Below w1.heap.size w1 W∧(W.cell? ⟨w2.heap.size,0,none⟩=some (.int .i64 A.n)∧W.cell? ⟨w2.heap.size,1,none⟩=some (.slice AwA Awn Awc)∧W.cell? ⟨w2.heap.size,2,none⟩=some (.slice AtA Atn Atc)∧W.cell? ⟨w2.heap.size,3,none⟩=some (.int .i64 B.n)∧W.cell? ⟨w2.heap.size,4,none⟩=some (.slice BwA Bwn Bwc)∧W.cell? ⟨w2.heap.size,5,none⟩=some (.slice BtA Btn Btc)∧W.cell? ⟨w2.heap.size,6,none⟩=some (.int .i64 p.a.lo)∧W.cell? ⟨w2.heap.size,7,none⟩=some (.int .i64 p.a.hi)∧W.cell? ⟨w2.heap.size,8,none⟩=some (.int .i64 p.b.lo)∧W.cell? ⟨w2.heap.size,9,none⟩=some (.int .i64 p.b.hi)∧W.cell? ⟨w.heap.size+1+1,0,none⟩=some (.int .i64 p.a.lo)∧W.cell? ⟨w.heap.size+1+1,1,none⟩=some (.int .i64 p.a.hi))):=(show ∀ W,_→_ from fun W hW=>by
     have hB:=HB4.out.trans (hW.mono HB4.out.size)
     have hh:=((HB34.out.trans (hW.mono HB34.out.size)).block w2.heap.size (by have:=Z3.out;omega)).trans E3.out
     obtain ⟨c0,c1,c2,c3,c4,c5,c6,c7,c8,c9⟩:=ten_cells hh
     have hx:=KX.out W hB
     exact ⟨hB,c0,c1,c2,c3,c4,c5,c6,c7,c8,c9,hx.p0,hx.p1⟩)
    refine shr7 _ rfl w2.heap.size (w.heap.size+1+1) (.int .i64 A.n) (.slice AwA Awn Awc) (.slice AtA Atn Atc) (.int .i64 B.n) (.slice BwA Bwn Bwc) (.slice BtA Btn Btc) (.int .i64 p.a.lo) (.int .i64 p.a.hi) (.int .i64 p.b.lo) (.int .i64 p.b.hi) (.int .i64 p.b.lo) (.int .i64 p.b.hi) p.a.lo p.a.hi N (Awn+Bwn) L (-l1) l2 l3 _ w4 _ rfl rfl rfl (fun W hW=>(HCE.out W hW).2) (fun W hW=>C1.out W (HCE.out W hW).1) (fun W A' c hW hr=>C2.out W A' c hr) ?_
    intro u5 w5 hb5
    have HB5:=Lib.hid hb5
    clear hb5
    cases l2<;>cases g2
    all_goals
     simp only [setsL,Nat.reduceAdd,List.setIfInBounds_toArray,List.set_cons_succ,List.set_cons_zero]
     go_upto_region 10 with (fail)
     refine shr10 _ rfl w2.heap.size (w.heap.size+1+1) (.int .i64 A.n) (.slice AwA Awn Awc) (.slice AtA Atn Atc) (.int .i64 B.n) (.slice BwA Bwn Bwc) (.slice BtA Btn Btc) (.int .i64 p.a.lo) (.int .i64 p.a.hi) (.int .i64 p.b.lo) (.int .i64 p.b.hi) (.int .i64 p.b.lo) (.int .i64 p.b.hi) p.a.lo p.a.hi N (Awn+Bwn) L g1 _ g3 _ w5 _ rfl rfl rfl (fun W hW=>(HCE.out W (HB5.out.trans (hW.mono HB5.out.size))).2) (fun W hW=>C1.out W (HCE.out W (HB5.out.trans (hW.mono HB5.out.size))).1) (fun W A' c hW hr=>C3.out W A' c hr) ?_
     intro u6 w6 hb6
     have HB6:=Lib.hid (HB4.out.trans ((HB5.out.trans (hb6.mono HB5.out.size)).mono HB4.out.size))
     clear hb6
     simp only [setsL,Nat.reduceAdd,List.setIfInBounds_toArray,List.set_cons_succ,List.set_cons_zero]
     go_wp2
     go_ret3
     exact ⟨rfl,HB1.out.trans (HB6.out.mono HB1.out.size)⟩
end Go.Proofs.YtpmkgmilfifkpaaGreatDoor
end
section
namespace Go.Proofs.YtpmkgmilfifkpaaGreatDoor
def outF:Outl:=⟨3,[⟨0,1,12,1⟩,⟨1,0,-10,1⟩,⟨1,2,22,2⟩,⟨2,1,-20,2⟩,⟨2,3,5,3⟩,⟨3,2,-5,3⟩],[⟨0,1,100,4⟩,⟨1,0,-90,4⟩,⟨1,2,140,5⟩,⟨2,1,-100,5⟩]⟩
def outS:Outl:=⟨3,[⟨0,1,25,6⟩,⟨1,0,-20,6⟩,⟨1,2,15,7⟩,⟨2,1,-11,7⟩,⟨2,3,9,8⟩,⟨3,2,-9,8⟩],[⟨0,1,-95,9⟩,⟨1,0,120,9⟩,⟨1,2,-20,10⟩,⟨2,1,30,10⟩]⟩
def outC:Outl:=⟨3,outS.ways,outS.turns ++ [⟨0,1,-101,11⟩]⟩
def prO (a b c d:Int):Pairing:=⟨⟨a,b⟩,⟨c,d⟩⟩
theorem jo_ask1:askedErr outF outS (prO 0 2 0 2)=0:=by decide +kernel
theorem jo_ask2:askedErr outF outS (prO 0 1 0 1)=0:=by decide +kernel
theorem jo_ask3:askedErr outF outS (prO 0 1 1 2)=0:=by decide +kernel
theorem jo_ask4:askedErr outF outC (prO 0 2 0 2)=0:=by decide +kernel
theorem jo_meets1:meetsV outF outS (prO 0 2 0 2)=true:=by decide +kernel
theorem jo_meets2:meetsV outF outS (prO 0 1 0 1)=false:=by decide +kernel
theorem jo_meets3:meetsV outF outS (prO 0 1 1 2)=true:=by decide +kernel
theorem jo_low:sharedLow outF outS (prO 0 1 1 2)=11:=by decide +kernel
theorem jo_high:sharedHigh outF outS (prO 0 1 1 2)=12:=by decide +kernel
theorem jo_with:withV outS true ⟨0,1,-101,11⟩=(outC,0):=by decide +kernel
theorem jo_twice:twiceErr outF outS=0:=by decide +kernel
theorem jo_clash:(clashV outF outC (prO 0 2 0 2)).1=true∧(clashV outF outC (prO 0 2 0 2)).2.1.length=2∧(clashV outF outC (prO 0 2 0 2)).2.2=true:=by decide +kernel
theorem jo_plc:plcB outF outS (prO 0 1 1 2) [0,11,31,36] [0,20,31,40] [0,90,190] [0,-95,-115]=true:=by decide +kernel
theorem jo_rerr:restsErr outF outS (prO 0 1 0 1) false [0,7]=0:=by decide +kernel
theorem jo_rests:restsV outF outS (prO 0 1 0 1) false [0,7] = [1,6]:=by decide +kernel
theorem jo_m3:meetL outF outS 3 = []:=by decide +kernel
theorem jo_m2:meetL outF outS 2 = [prO 0 2 0 2]:=by decide +kernel
theorem jo_m1:meetL outF outS 1 ≠ []:=by decide +kernel
theorem jo_out:outTo outF outS 16 = [prO 0 2 0 2]:=by decide +kernel
theorem jo_max:maxL outF outS = [prO 0 2 0 2]:=by
 unfold maxL
 rw [jo_out]
 simp [sortTri,toTri,triP,prO]
theorem jo_long {n:Nat} (h:LongOk outF outS n):n=2:=h.unique ⟨by omega,fun k h1 h2=>by
 rcases (by omega:k=1∨k=2) with rfl|rfl
 · exact jo_m1
 · rw [show ((2:Nat):Int)=2 from rfl,jo_m2];simp,.inr jo_m3⟩
open Go.RowKit Go.Proofs Go.Shelf
theorem same_ext {α:Type} {xs ys:List α} (hl:xs.length=ys.length) (h:∀ j:Nat,j<xs.length→xs[j]? = ys[j]?):xs=ys:=by
 apply List.ext_getElem? ;intro j
 rcases Nat.lt_or_ge j xs.length with hj|hj
 · exact h j hj
 · rw [List.getElem?_eq_none hj,List.getElem?_eq_none (by omega)]
theorem same_any (A:Option Addr) (n c:Nat) (xs:List Int) (A':Option Addr) (n' c':Nat) (ys:List Int) (w:World) (hx:Rd encInt 1 w A n c xs) (hy:Rd encInt 1 w A' n' c' ys):
 Calls Tryz.prog 21 #[.slice A n c,.slice A' n' c'] w fun e w'=>e = .returned (.bool (decide (xs=ys)))∧Below w.heap.size w w':=by
 have hlx:=hx.len;have hly:=hy.len
 have hbx:=hx.big;have hby:=hy.big
 by_cases hn:n=n'
 · subst hn
   have HX:=Lib.hid hx
   have HY:=Lib.hid hy
   have HLX:=Lib.hid hlx
   have HLY:=Lib.hid hly
   clear hx hy hlx hly hby
   have hee:((n:Int) != (n:Int))=false:=(by simp)
   go_enter Tryz.func21,Tryz.ntmps21
   go_wp2
   go_loopw [5] (fun s5 wr=> ∃ k:Nat,k≤n∧s5 = .int .i64 k∧Hid (Below w.heap.size w wr)∧Hid (∀ j,j<k→xs[j]? = ys[j]?)) (fun s5 _=>n-(intOf s5).toNat)
   case atStart=>exact ⟨0,Nat.zero_le _,rfl,(show Below _ _ _ from Below.refl _ _),(show ∀ j:Nat,_ from fun j h=>by omega)⟩
   case round=>
    obtain ⟨k,hk,rfl,hbr,hall⟩:=hrel
    by_cases hlt:k<n
    · obtain ⟨b,off,x,rfl,hbw,hxk,hcx⟩:=(HX.out.below hbr.out (Nat.le_refl _)).one hlt
      obtain ⟨b',off',y,rfl,hbw',hyk,hcy⟩:=(HY.out.below hbr.out (Nat.le_refl _)).one hlt
      have g1:wr.cell? ⟨b,off+k,none⟩=some (.int .i64 x):=(by have:=hcx 0 _ rfl;simpa using this)
      have g2:wr.cell? ⟨b',off'+k,none⟩=some (.int .i64 y):=(by have:=hcy 0 _ rfl;simpa using this)
      have HXK:=Lib.hid hxk
      have HYK:=Lib.hid hyk
      clear hcx hcy hxk hyk
      by_cases hq:x=y
      · subst hq
        have hqq:(x != x)=false:=(by simp)
        go_wp2_with (go_quiet (fail))
        go_roundw
        case rel=>exact ⟨k+1,by omega,by go_num,(show Below _ _ _ from below_drewN' hbr.out _),(show ∀ j:Nat,_ from fun j hj=>by
         by_cases e:j=k
         · subst e;rw [HXK.out,HYK.out]
         · exact hall.out j (by omega))⟩
        case measure=>simp [intOf];omega
      · have hqq:(x != y)=true:=(by simpa using hq)
        go_wp2_with (go_quiet (fail))
        go_ret
        refine ⟨?_,below_drewN' hbr.out _⟩
        rw [decide_eq_false (fun e=>hq (by have:=HXK.out;rw [e,HYK.out] at this;exact (Option.some.inj this).symm))]
        rfl
    · have hkn:k=n:=by omega
      subst hkn
      go_wp2
      go_ret
      refine ⟨?_,hbr.out⟩
      rw [decide_eq_true (same_ext (by rw [HLX.out,HLY.out]) (fun j hj=>hall.out j (by rw [HLX.out] at hj;exact hj)))]
      rfl
 · have hd:decide (xs=ys)=false:=decide_eq_false (fun e=>hn (by rw [←hlx,←hly,e]))
   rw [hd]
   have hee:((n:Int) != (n':Int))=true:=(by simp;omega)
   clear hx hy hlx hly hd
   go_enter Tryz.func21,Tryz.ntmps21
   go_wp2
   go_ret
   exact ⟨rfl,Below.refl _ _⟩
theorem eqPairing_self (p:Pairing):eqPairing p p=true:=eqPairing_iff.2 rfl
theorem samePr_any (A:Option Addr) (n c:Nat) (xs:List Pairing) (A':Option Addr) (n' c':Nat) (ys:List Pairing) (w:World) (hx:Rd encPairing 4 w A n c xs) (hy:Rd encPairing 4 w A' n' c' ys):
 Calls Tryz.prog 20 #[.slice A n c,.slice A' n' c'] w fun e w'=>e = .returned (.bool (decide (xs=ys)))∧Below w.heap.size w w':=by
 have hlx:=hx.len;have hly:=hy.len
 have hbx:=hx.big;have hby:=hy.big
 by_cases hn:n=n'
 · subst hn
   have HX:=Lib.hid hx
   have HY:=Lib.hid hy
   have HLX:=Lib.hid hlx
   have HLY:=Lib.hid hly
   clear hx hy hlx hly hby
   have hee:((n:Int) != (n:Int))=false:=(by simp)
   go_enter Tryz.func20,Tryz.ntmps20
   go_wp2
   go_loopw [5] (fun s5 wr=> ∃ k:Nat,k≤n∧s5 = .int .i64 k∧Hid (Below w.heap.size w wr)∧Hid (∀ j,j<k→xs[j]? = ys[j]?)) (fun s5 _=>n-(intOf s5).toNat)
   case atStart=>exact ⟨0,Nat.zero_le _,rfl,(show Below _ _ _ from Below.refl _ _),(show ∀ j:Nat,_ from fun j h=>by omega)⟩
   case round=>
    obtain ⟨k,hk,rfl,hbr,hall⟩:=hrel
    by_cases hlt:k<n
    · obtain ⟨b,off,x,rfl,hbw,hxk,hcx⟩:=(HX.out.below hbr.out (Nat.le_refl _)).one hlt
      obtain ⟨b',off',y,rfl,hbw',hyk,hcy⟩:=(HY.out.below hbr.out (Nat.le_refl _)).one hlt
      have g0:wr.cell? ⟨b,off+k * 4,none⟩=some (.int .i64 x.a.lo):=hcx 0 _ rfl
      have g1:wr.cell? ⟨b,off+k * 4+1,none⟩=some (.int .i64 x.a.hi):=hcx 1 _ rfl
      have g2:wr.cell? ⟨b,off+k * 4+2,none⟩=some (.int .i64 x.b.lo):=hcx 2 _ rfl
      have g3:wr.cell? ⟨b,off+k * 4+3,none⟩=some (.int .i64 x.b.hi):=hcx 3 _ rfl
      have f0:wr.cell? ⟨b',off'+k * 4,none⟩=some (.int .i64 y.a.lo):=hcy 0 _ rfl
      have f1:wr.cell? ⟨b',off'+k * 4+1,none⟩=some (.int .i64 y.a.hi):=hcy 1 _ rfl
      have f2:wr.cell? ⟨b',off'+k * 4+2,none⟩=some (.int .i64 y.b.lo):=hcy 2 _ rfl
      have f3:wr.cell? ⟨b',off'+k * 4+3,none⟩=some (.int .i64 y.b.hi):=hcy 3 _ rfl
      have HXK:=Lib.hid hxk
      have HYK:=Lib.hid hyk
      clear hcx hcy hxk hyk
      by_cases hq:x=y
      · subst hq
        have hqq:=eqPairing_self x
        go_wp2_with (go_quiet (fail))
        go_roundw
        case rel=>exact ⟨k+1,by omega,by go_num,(show Below _ _ _ from below_drewN' hbr.out _),(show ∀ j:Nat,_ from fun j hj=>by
         by_cases e:j=k
         · subst e;rw [HXK.out,HYK.out]
         · exact hall.out j (by omega))⟩
        case measure=>simp [intOf];omega
      · have hqq:eqPairing x y=false:=eqPairing_no.2 hq
        go_wp2_with (go_quiet (fail))
        go_ret
        refine ⟨?_,below_drewN' hbr.out _⟩
        rw [decide_eq_false (fun e=>hq (by have:=HXK.out;rw [e,HYK.out] at this;exact (Option.some.inj this).symm))]
        rfl
    · have hkn:k=n:=by omega
      subst hkn
      go_wp2
      go_ret
      refine ⟨?_,hbr.out⟩
      rw [decide_eq_true (same_ext (by rw [HLX.out,HLY.out]) (fun j hj=>hall.out j (by rw [HLX.out] at hj;exact hj)))]
      rfl
 · have hd:decide (xs=ys)=false:=decide_eq_false (fun e=>hn (by rw [←hlx,←hly,e]))
   rw [hd]
   have hee:((n:Int) != (n':Int))=true:=(by simp;omega)
   clear hx hy hlx hly hd
   go_enter Tryz.func20,Tryz.ntmps20
   go_wp2
   go_ret
   exact ⟨rfl,Below.refl _ _⟩
theorem of_any (a b c d:Int) (w:World):Calls Tryz.prog 12 #[.int .i64 a,.int .i64 b,.int .i64 c,.int .i64 d] w fun e w'=>e = .returned (.agg #[.int .i64 a,.int .i64 b,.int .i64 c,.int .i64 d])∧Below w.heap.size w w':=by
 go_enter Tryz.func12,Tryz.ntmps12
 go_wp2
 exact bodyPost_ret (v:=.agg #[.int .i64 a,.int .i64 b,.int .i64 c,.int .i64 d]) (by simp [results,Tryz.results12,go_sem]) rfl ⟨rfl,(Below.refl _ _).alloc (Nat.le_refl _) _⟩
theorem first_any (w:World):Calls Tryz.prog 9 #[] w fun e w'=> ∃ A1 c1 A2 c2,e = .returned (.agg #[.int .i64 3,.slice A1 6 c1,.slice A2 4 c2])∧Below w.heap.size w w'∧Rd encBound 4 w' A1 6 c1 outF.ways∧Rd encBound 4 w' A2 4 c2 outF.turns:=by
 obtain ⟨w1,a1,l1,z1,e1⟩:=alloc_facts w #[.int .i64 0,.slice none 0 0,.slice none 0 0] 35
 have r2:=Rd.single (enc:=encBound) (k:=4) w1 #[.int .i64 0,.int .i64 1,.int .i64 12,.int .i64 1,.int .i64 1,.int .i64 0,.int .i64 (-10),.int .i64 1,.int .i64 1,.int .i64 2,.int .i64 22,.int .i64 2,.int .i64 2,.int .i64 1,.int .i64 (-20),.int .i64 2,.int .i64 2,.int .i64 3,.int .i64 5,.int .i64 3,.int .i64 3,.int .i64 2,.int .i64 (-5),.int .i64 3] 50 outF.ways 6 rfl (by omega) (fun _=>rfl) rfl
 obtain ⟨w2,a2,l2,z2,e2⟩:=alloc_facts w1 #[.int .i64 0,.int .i64 1,.int .i64 12,.int .i64 1,.int .i64 1,.int .i64 0,.int .i64 (-10),.int .i64 1,.int .i64 1,.int .i64 2,.int .i64 22,.int .i64 2,.int .i64 2,.int .i64 1,.int .i64 (-20),.int .i64 2,.int .i64 2,.int .i64 3,.int .i64 5,.int .i64 3,.int .i64 3,.int .i64 2,.int .i64 (-5),.int .i64 3] 50
 rw [a2] at r2
 have r3:=Rd.single (enc:=encBound) (k:=4) w2 #[.int .i64 0,.int .i64 1,.int .i64 100,.int .i64 4,.int .i64 1,.int .i64 0,.int .i64 (-90),.int .i64 4,.int .i64 1,.int .i64 2,.int .i64 140,.int .i64 5,.int .i64 2,.int .i64 1,.int .i64 (-100),.int .i64 5] 50 outF.turns 4 rfl (by omega) (fun _=>rfl) rfl
 obtain ⟨w3,a3,l3,z3,e3⟩:=alloc_facts w2 #[.int .i64 0,.int .i64 1,.int .i64 100,.int .i64 4,.int .i64 1,.int .i64 0,.int .i64 (-90),.int .i64 4,.int .i64 1,.int .i64 2,.int .i64 140,.int .i64 5,.int .i64 2,.int .i64 1,.int .i64 (-100),.int .i64 5] 50
 rw [a3] at r3
 have hx:=((l2.trans (l3.mono l2.size)).block w.heap.size (by omega)).trans e1
 have hB3:=l1.trans ((l2.trans (l3.mono l2.size)).mono l1.size)
 obtain ⟨k1,k2,k3,k4,k5,k6⟩:=three_facts hx
 have HS:=Lib.hid (three_set (v0:=.int .i64 3) (v1:=.slice (some ⟨w1.heap.size,0,none⟩) 6 6) (v2:=.slice (some ⟨w2.heap.size,0,none⟩) 4 4) hx)
 have HR2:=Lib.hid (r2.below l3 (Nat.le_refl _))
 have HR3:=Lib.hid r3
 have HB3:=Lib.hid hB3
 have HA1:=Lib.hid a1
 have HA2:=Lib.hid a2
 have HA3:=Lib.hid a3
 clear a1 a2 a3 l1 l2 l3 e1 e2 e3 r2 r3 hx hB3
 go_enter Tryz.func9,Tryz.ntmps9
 go_wp2_with (first
  | rw [HA1.out]
  | rw [HA2.out]
  | rw [HA3.out])
 have hg:w3.grownBy (((w3.setCell ⟨w.heap.size,0,none⟩ (.int .i64 3)).setCell ⟨w.heap.size,1,none⟩ (.slice (some ⟨w1.heap.size,0,none⟩) 6 6)).setCell ⟨w.heap.size,2,none⟩ (.slice (some ⟨w2.heap.size,0,none⟩) 4 4)) (some w.heap.size):=((grownBy_setCell' _ _ _ _).trans (grownBy_setCell' _ _ _ _)).trans (grownBy_setCell' _ _ _ _)
 have hs:=HS.out
 have hb4:Below w.heap.size w (((w3.setCell ⟨w.heap.size,0,none⟩ (.int .i64 3)).setCell ⟨w.heap.size,1,none⟩ (.slice (some ⟨w1.heap.size,0,none⟩) 6 6)).setCell ⟨w.heap.size,2,none⟩ (.slice (some ⟨w2.heap.size,0,none⟩) 4 4)):=HB3.out.grown hg HB3.out.size (fun k e=>by cases e;exact Nat.le_refl _)
 have g2:=HR2.out.grown hg (fun _ b e=>by have e2:=Option.some.inj e;simp only at e2;intro e3;have e4:=Option.some.inj e3;omega)
 have g3:=HR3.out.grown hg (fun _ b e=>by have e2:=Option.some.inj e;simp only at e2;intro e3;have e4:=Option.some.inj e3;omega)
 rw [z2,z1] at hs hb4 g2 g3
 obtain ⟨W4,hW4⟩:∃ W4,(((w3.setCell ⟨w.heap.size,0,none⟩ (.int .i64 3)).setCell ⟨w.heap.size,1,none⟩ (.slice (some ⟨w.heap.size+1,0,none⟩) 6 6)).setCell ⟨w.heap.size,2,none⟩ (.slice (some ⟨w.heap.size+1+1,0,none⟩) 4 4))=W4:=⟨_,rfl⟩
 rw [hW4] at hs hb4 g2 g3 ⊢
 obtain ⟨f1,f2,f3,_,_,_⟩:=three_facts hs
 exact bodyPost_ret (v:=.agg #[.int .i64 3,.slice (some ⟨w.heap.size+1,0,none⟩) 6 6,.slice (some ⟨w.heap.size+1+1,0,none⟩) 4 4]) (by simp [results,Tryz.results9,go_sem,f1,f2,f3]) rfl ⟨_,_,_,_,rfl,hb4,g2,g3⟩
theorem second_any (w:World):Calls Tryz.prog 10 #[] w fun e w'=> ∃ A1 c1 A2 c2,e = .returned (.agg #[.int .i64 3,.slice A1 6 c1,.slice A2 4 c2])∧Below w.heap.size w w'∧Rd encBound 4 w' A1 6 c1 outS.ways∧Rd encBound 4 w' A2 4 c2 outS.turns:=by
 obtain ⟨w1,a1,l1,z1,e1⟩:=alloc_facts w #[.int .i64 0,.slice none 0 0,.slice none 0 0] 35
 have r2:=Rd.single (enc:=encBound) (k:=4) w1 #[.int .i64 0,.int .i64 1,.int .i64 25,.int .i64 6,.int .i64 1,.int .i64 0,.int .i64 (-20),.int .i64 6,.int .i64 1,.int .i64 2,.int .i64 15,.int .i64 7,.int .i64 2,.int .i64 1,.int .i64 (-11),.int .i64 7,.int .i64 2,.int .i64 3,.int .i64 9,.int .i64 8,.int .i64 3,.int .i64 2,.int .i64 (-9),.int .i64 8] 50 outS.ways 6 rfl (by omega) (fun _=>rfl) rfl
 obtain ⟨w2,a2,l2,z2,e2⟩:=alloc_facts w1 #[.int .i64 0,.int .i64 1,.int .i64 25,.int .i64 6,.int .i64 1,.int .i64 0,.int .i64 (-20),.int .i64 6,.int .i64 1,.int .i64 2,.int .i64 15,.int .i64 7,.int .i64 2,.int .i64 1,.int .i64 (-11),.int .i64 7,.int .i64 2,.int .i64 3,.int .i64 9,.int .i64 8,.int .i64 3,.int .i64 2,.int .i64 (-9),.int .i64 8] 50
 rw [a2] at r2
 have r3:=Rd.single (enc:=encBound) (k:=4) w2 #[.int .i64 0,.int .i64 1,.int .i64 (-95),.int .i64 9,.int .i64 1,.int .i64 0,.int .i64 120,.int .i64 9,.int .i64 1,.int .i64 2,.int .i64 (-20),.int .i64 10,.int .i64 2,.int .i64 1,.int .i64 30,.int .i64 10] 50 outS.turns 4 rfl (by omega) (fun _=>rfl) rfl
 obtain ⟨w3,a3,l3,z3,e3⟩:=alloc_facts w2 #[.int .i64 0,.int .i64 1,.int .i64 (-95),.int .i64 9,.int .i64 1,.int .i64 0,.int .i64 120,.int .i64 9,.int .i64 1,.int .i64 2,.int .i64 (-20),.int .i64 10,.int .i64 2,.int .i64 1,.int .i64 30,.int .i64 10] 50
 rw [a3] at r3
 have hx:=((l2.trans (l3.mono l2.size)).block w.heap.size (by omega)).trans e1
 have hB3:=l1.trans ((l2.trans (l3.mono l2.size)).mono l1.size)
 obtain ⟨k1,k2,k3,k4,k5,k6⟩:=three_facts hx
 have HS:=Lib.hid (three_set (v0:=.int .i64 3) (v1:=.slice (some ⟨w1.heap.size,0,none⟩) 6 6) (v2:=.slice (some ⟨w2.heap.size,0,none⟩) 4 4) hx)
 have HR2:=Lib.hid (r2.below l3 (Nat.le_refl _))
 have HR3:=Lib.hid r3
 have HB3:=Lib.hid hB3
 have HA1:=Lib.hid a1
 have HA2:=Lib.hid a2
 have HA3:=Lib.hid a3
 clear a1 a2 a3 l1 l2 l3 e1 e2 e3 r2 r3 hx hB3
 go_enter Tryz.func10,Tryz.ntmps10
 go_wp2_with (first
  | rw [HA1.out]
  | rw [HA2.out]
  | rw [HA3.out])
 have hg:w3.grownBy (((w3.setCell ⟨w.heap.size,0,none⟩ (.int .i64 3)).setCell ⟨w.heap.size,1,none⟩ (.slice (some ⟨w1.heap.size,0,none⟩) 6 6)).setCell ⟨w.heap.size,2,none⟩ (.slice (some ⟨w2.heap.size,0,none⟩) 4 4)) (some w.heap.size):=((grownBy_setCell' _ _ _ _).trans (grownBy_setCell' _ _ _ _)).trans (grownBy_setCell' _ _ _ _)
 have hs:=HS.out
 have hb4:Below w.heap.size w (((w3.setCell ⟨w.heap.size,0,none⟩ (.int .i64 3)).setCell ⟨w.heap.size,1,none⟩ (.slice (some ⟨w1.heap.size,0,none⟩) 6 6)).setCell ⟨w.heap.size,2,none⟩ (.slice (some ⟨w2.heap.size,0,none⟩) 4 4)):=HB3.out.grown hg HB3.out.size (fun k e=>by cases e;exact Nat.le_refl _)
 have g2:=HR2.out.grown hg (fun _ b e=>by have e2:=Option.some.inj e;simp only at e2;intro e3;have e4:=Option.some.inj e3;omega)
 have g3:=HR3.out.grown hg (fun _ b e=>by have e2:=Option.some.inj e;simp only at e2;intro e3;have e4:=Option.some.inj e3;omega)
 rw [z2,z1] at hs hb4 g2 g3
 obtain ⟨W4,hW4⟩:∃ W4,(((w3.setCell ⟨w.heap.size,0,none⟩ (.int .i64 3)).setCell ⟨w.heap.size,1,none⟩ (.slice (some ⟨w.heap.size+1,0,none⟩) 6 6)).setCell ⟨w.heap.size,2,none⟩ (.slice (some ⟨w.heap.size+1+1,0,none⟩) 4 4))=W4:=⟨_,rfl⟩
 rw [hW4] at hs hb4 g2 g3 ⊢
 obtain ⟨f1,f2,f3,_,_,_⟩:=three_facts hs
 exact bodyPost_ret (v:=.agg #[.int .i64 3,.slice (some ⟨w.heap.size+1,0,none⟩) 6 6,.slice (some ⟨w.heap.size+1+1,0,none⟩) 4 4]) (by simp [results,Tryz.results10,go_sem,f1,f2,f3]) rfl ⟨_,_,_,_,rfl,hb4,g2,g3⟩
def SlF (n:Nat) (xs:List Int) (v:Value) (W:World):Prop:=∃ g,v = .slice (some ⟨g,0,none⟩) n n∧Rd encInt 1 W (some ⟨g,0,none⟩) n n xs
theorem SlF.below {n:Nat} {xs:List Int} {v:Value} {W W':World} (h:SlF n xs v W) (hb:Below W.heap.size W W'):SlF n xs v W':=by
 obtain ⟨g,h1,h2⟩:=h
 exact ⟨g,h1,h2.below hb (Nat.le_refl _)⟩
def factJ (an bn:Int) (aw at_ bw bt:Value) (g1:Bool) (g2:Int):Nat→Value→World→Prop
 | 0,v,_=>v = .agg #[.int .i64 an,aw,at_]
 | 1,v,_=>v = .agg #[.int .i64 bn,bw,bt]
 | 2,v,_=>v = .agg #[.int .i64 0,.int .i64 1,.int .i64 1,.int .i64 2]
 | 3,v,W=>SlF 4 [0,11,31,36] v W
 | 4,v,W=>SlF 4 [0,20,31,40] v W
 | 5,v,W=>SlF 3 [0,90,190] v W
 | 6,v,W=>SlF 3 [0,-95,-115] v W
 | 7,v,W=> ∃ s0 s1 s2 s3,v = .agg #[.slice (some ⟨s0,0,none⟩) 4 4,.slice (some ⟨s1,0,none⟩) 4 4,.slice (some ⟨s2,0,none⟩) 3 3,.slice (some ⟨s3,0,none⟩) 3 3]∧Rd encInt 1 W (some ⟨s0,0,none⟩) 4 4 [0,11,31,36]∧Rd encInt 1 W (some ⟨s1,0,none⟩) 4 4 [0,20,31,40]∧Rd encInt 1 W (some ⟨s2,0,none⟩) 3 3 [0,90,190]∧Rd encInt 1 W (some ⟨s3,0,none⟩) 3 3 [0,-95,-115]
 | 8,v,_=>v = .tuple #[.bool g1,.int .i64 g2]
 | 9,v,_=>v = .tuple #[.bool g1,.int .i64 g2]
 | 10,v,_=>v = .bool g1
 | 11,v,_=>v = .int .i64 g2
 | 12,v,_=>v = .bool g1
 | 13,v,_=>v = .int .i64 g2
 | _,_,_=>True
theorem factJ.below {an bn:Int} {aw at_ bw bt:Value} {g1:Bool} {g2:Int} {j:Nat} {v:Value} {W W':World} (h:factJ an bn aw at_ bw bt g1 g2 j v W) (hb:Below W.heap.size W W'):factJ an bn aw at_ bw bt g1 g2 j v W':=by
 unfold factJ at h ⊢
 split at h
 all_goals first
  | exact h
  | exact SlF.below h hb
  | (obtain ⟨s0,s1,s2,s3,h1,r0,r1,r2,r3⟩:=h;exact ⟨s0,s1,s2,s3,h1,r0.below hb (Nat.le_refl _),r1.below hb (Nat.le_refl _),r2.below hb (Nat.le_refl _),r3.below hb (Nat.le_refl _)⟩)
theorem factJ.grow {an bn:Int} {aw at_ bw bt:Value} {g1:Bool} {g2:Int} {ops:Array Oper} {a:Act} {w:World} {V:Nat→Value} {listed:Array Bool} {i:Nat} {d:Option Tmp} {b:Act} {W W':World} {v:Value}
 (h:FactsAt ops a (factJ an bn aw at_ bw bt g1 g2) (fun _ _=>True) (fun W=>Below w.heap.size w W) V listed b W) (hb:Below W.heap.size W W') (hf:factJ an bn aw at_ bw bt g1 g2 i v W'):FactsGo ops (factJ an bn aw at_ bw bt g1 g2) (fun _ _=>True) (fun W=>Below w.heap.size w W) V listed i d b W (b.put d v) W':=
 ⟨v,rfl,hf,fun _ _ _ h=>h.below hb,fun _ _ _ _ _=>trivial,h.glob.trans (hb.mono h.glob.size)⟩
def codeJoi10:Option Code→Code
 | some (.seq _ (.seq _ (.seq _ (.seq _ (.seq _ (.seq _ (.seq _ (.seq _ (.seq _ (.seq _ (.seq c _)))))))))))=>c
 | _=> .skip
theorem joi10 (c:Code) (hc:c=codeJoi10 Tryz.f4.body) (b1 b2:Nat) (an bn:Int) (aw at_ bw bt:Value) (g1:Bool) (g2:Int) (a:Act) (w:World) (Q:Exit→Act→World→Prop)
 (hT:a.tmps.size=172) (t1:a.tmps.getD 1 undef = .pointer (some ⟨b1,0,none⟩)) (t2:a.tmps.getD 2 undef = .pointer (some ⟨b2,0,none⟩))
 (CE:∀ W,Below w.heap.size w W→W.cell? ⟨b1,0,none⟩=some (.int .i64 an)∧W.cell? ⟨b1,1,none⟩=some aw∧W.cell? ⟨b1,2,none⟩=some at_∧W.cell? ⟨b2,0,none⟩=some (.int .i64 bn)∧W.cell? ⟨b2,1,none⟩=some bw∧W.cell? ⟨b2,2,none⟩=some bt)
 (C1:∀ W,Below w.heap.size w W→Calls Tryz.prog 12 #[.int .i64 0,.int .i64 1,.int .i64 1,.int .i64 2] W fun e w'=>e = .returned (.agg #[.int .i64 0,.int .i64 1,.int .i64 1,.int .i64 2])∧Below W.heap.size W w')
 (C2:∀ W s0 s1 s2 s3,Below w.heap.size w W→Rd encInt 1 W (some ⟨s0,0,none⟩) 4 4 [0,11,31,36]→Rd encInt 1 W (some ⟨s1,0,none⟩) 4 4 [0,20,31,40]→Rd encInt 1 W (some ⟨s2,0,none⟩) 3 3 [0,90,190]→Rd encInt 1 W (some ⟨s3,0,none⟩) 3 3 [0,-95,-115]→Calls Tryz.prog 18 #[.agg #[.int .i64 an,aw,at_],.agg #[.int .i64 bn,bw,bt],.agg #[.int .i64 0,.int .i64 1,.int .i64 1,.int .i64 2],.agg #[.slice (some ⟨s0,0,none⟩) 4 4,.slice (some ⟨s1,0,none⟩) 4 4,.slice (some ⟨s2,0,none⟩) 3 3,.slice (some ⟨s3,0,none⟩) 3 3]] W fun e w'=>e = .returned (.tuple #[.bool g1,.int .i64 g2])∧Below W.heap.size W w')
 (hQ:∀ W v3 v4 v5 v6 v7,Below w.heap.size w W→Q .normal { tmps:=((((((((((((((a.tmps.setIfInBounds 74 (.agg #[.int .i64 an,aw,at_])).setIfInBounds 75 (.agg #[.int .i64 bn,bw,bt])).setIfInBounds 76 (.agg #[.int .i64 0,.int .i64 1,.int .i64 1,.int .i64 2])).setIfInBounds 77 (v3)).setIfInBounds 78 (v4)).setIfInBounds 79 (v5)).setIfInBounds 80 (v6)).setIfInBounds 81 (v7)).setIfInBounds 82 (.tuple #[.bool g1,.int .i64 g2])).setIfInBounds 73 (.tuple #[.bool g1,.int .i64 g2])).setIfInBounds 83 (.bool g1)).setIfInBounds 84 (.int .i64 g2)).setIfInBounds 19 (.bool g1)).setIfInBounds 20 (.int .i64 g2)),defers:=a.defers } W):
 c.wp Tryz.prog Q a w:=by
 subst hc
 unfold codeJoi10 Tryz.f4
 dsimp only
 refine wpIn_wide.1 (wpIn_region_facts (nn:=5) 172 (by kernel_rfl) (by kernel_rfl) hT.symm (factJ an bn aw at_ bw bt g1 g2) (fun _ _=>True) (fun W=>Below w.heap.size w W) (Below.refl _ w).drew (fun _ _=>trivial) ?_ ?_)
 · intro V listed i o b W hi ho h
   obtain ⟨hun,oi,hoi,hall⟩:=mem_ready.1 hi
   have:oi=o:=Option.some.inj (hoi.symm.trans ho)
   subst this
   clear hoi hi
   have hlt:i<14:=(by have:=(Array.getElem?_eq_some_iff.1 ho).1;simpa using this)
   have hun':listed.getD i false=false:=getD_both hun
   have hpre:=h.pre i (by simpa using hlt) hun'
   rcases (by omega:i=0∨i=1∨i=2∨i=3∨i=4∨i=5∨i=6∨i=7∨i=8∨i=9∨i=10∨i=11∨i=12∨i=13) with rfl|rfl|rfl|rfl|rfl|rfl|rfl|rfl|rfl|rfl|rfl|rfl|rfl|rfl
   all_goals simp only [List.getElem?_toArray,List.getElem?_cons_zero,List.getElem?_cons_succ] at ho
   all_goals cases ho
   ·
    have q1:=(h.tab.old 1 (dst_no h.tab (by kernel_rfl))).trans t1
    have q1':b.tmps[1]?.getD undef=_:=(by simpa using q1)
    obtain ⟨c0,c1,c2,c3,c4,c5⟩:=CE W h.glob
    refine wide_val (v:=.agg #[.int .i64 an,aw,at_]) (by go_simp;try rfl) (FactsGo.same h.glob rfl)
   ·
    have q2:=(h.tab.old 2 (dst_no h.tab (by kernel_rfl))).trans t2
    have q2':b.tmps[2]?.getD undef=_:=(by simpa using q2)
    obtain ⟨c0,c1,c2,c3,c4,c5⟩:=CE W h.glob
    refine wide_val (v:=.agg #[.int .i64 bn,bw,bt]) (by go_simp;try rfl) (FactsGo.same h.glob rfl)
   ·
    refine wide_call (f:=12) (args:=#[.int .i64 0,.int .i64 1,.int .i64 1,.int .i64 2]) (by go_simp) ((C1 W h.glob).mono ?_)
    rintro e wl ⟨rfl,hbl⟩
    exact ⟨_,rfl,factJ.grow h hbl rfl⟩
   ·
    refine wide_val (W':=W.alloc (.cells #[.int .i64 0,.int .i64 11,.int .i64 31,.int .i64 36] 3)) (v:=.slice (some ⟨W.heap.size,0,none⟩) 4 4) (by go_simp) (factJ.grow h ((Below.refl _ W).alloc (Nat.le_refl _) _) ⟨W.heap.size,rfl,Rd.single (enc:=encInt) (k:=1) W #[.int .i64 0,.int .i64 11,.int .i64 31,.int .i64 36] 3 [0,11,31,36] 4 rfl (by omega) (fun _=>rfl) (by simp [encInt])⟩)
   ·
    refine wide_val (W':=W.alloc (.cells #[.int .i64 0,.int .i64 20,.int .i64 31,.int .i64 40] 3)) (v:=.slice (some ⟨W.heap.size,0,none⟩) 4 4) (by go_simp) (factJ.grow h ((Below.refl _ W).alloc (Nat.le_refl _) _) ⟨W.heap.size,rfl,Rd.single (enc:=encInt) (k:=1) W #[.int .i64 0,.int .i64 20,.int .i64 31,.int .i64 40] 3 [0,20,31,40] 4 rfl (by omega) (fun _=>rfl) (by simp [encInt])⟩)
   ·
    refine wide_val (W':=W.alloc (.cells #[.int .i64 0,.int .i64 90,.int .i64 190] 3)) (v:=.slice (some ⟨W.heap.size,0,none⟩) 3 3) (by go_simp) (factJ.grow h ((Below.refl _ W).alloc (Nat.le_refl _) _) ⟨W.heap.size,rfl,Rd.single (enc:=encInt) (k:=1) W #[.int .i64 0,.int .i64 90,.int .i64 190] 3 [0,90,190] 3 rfl (by omega) (fun _=>rfl) (by simp [encInt])⟩)
   ·
    refine wide_val (W':=W.alloc (.cells #[.int .i64 0,.int .i64 (-95),.int .i64 (-115)] 3)) (v:=.slice (some ⟨W.heap.size,0,none⟩) 3 3) (by go_simp) (factJ.grow h ((Below.refl _ W).alloc (Nat.le_refl _) _) ⟨W.heap.size,rfl,Rd.single (enc:=encInt) (k:=1) W #[.int .i64 0,.int .i64 (-95),.int .i64 (-115)] 3 [0,-95,-115] 3 rfl (by omega) (fun _=>rfl) (by simp [encInt])⟩)
   ·
    have l3:=hall ⟨3,.data⟩ (by simp) rfl
    have l4:=hall ⟨4,.data⟩ (by simp) rfl
    have l5:=hall ⟨5,.data⟩ (by simp) rfl
    have l6:=hall ⟨6,.data⟩ (by simp) rfl
    obtain ⟨s0,a0,r0⟩:=h.fact 3 l3
    have e3:b.tmps.getD 77 undef = .slice (some ⟨s0,0,none⟩) 4 4:=(h.tab.val 3 77 rfl l3).trans a0
    have e3':b.tmps[77]?.getD undef = .slice (some ⟨s0,0,none⟩) 4 4:=(by simpa using e3)
    obtain ⟨s1,a1,r1⟩:=h.fact 4 l4
    have e4:b.tmps.getD 78 undef = .slice (some ⟨s1,0,none⟩) 4 4:=(h.tab.val 4 78 rfl l4).trans a1
    have e4':b.tmps[78]?.getD undef = .slice (some ⟨s1,0,none⟩) 4 4:=(by simpa using e4)
    obtain ⟨s2,a2,r2⟩:=h.fact 5 l5
    have e5:b.tmps.getD 79 undef = .slice (some ⟨s2,0,none⟩) 3 3:=(h.tab.val 5 79 rfl l5).trans a2
    have e5':b.tmps[79]?.getD undef = .slice (some ⟨s2,0,none⟩) 3 3:=(by simpa using e5)
    obtain ⟨s3,a3,r3⟩:=h.fact 6 l6
    have e6:b.tmps.getD 80 undef = .slice (some ⟨s3,0,none⟩) 3 3:=(h.tab.val 6 80 rfl l6).trans a3
    have e6':b.tmps[80]?.getD undef = .slice (some ⟨s3,0,none⟩) 3 3:=(by simpa using e6)
    refine wide_val (v:=.agg #[.slice (some ⟨s0,0,none⟩) 4 4,.slice (some ⟨s1,0,none⟩) 4 4,.slice (some ⟨s2,0,none⟩) 3 3,.slice (some ⟨s3,0,none⟩) 3 3]) (by go_simp;try rfl) (FactsGo.same h.glob ⟨s0,s1,s2,s3,rfl,r0,r1,r2,r3⟩)
   ·
    have l0:=hall ⟨0,.data⟩ (by simp) rfl
    have e0:b.tmps.getD 74 undef = .agg #[.int .i64 an,aw,at_]:=(h.tab.val 0 74 rfl l0).trans (h.fact 0 l0)
    have e0':b.tmps[74]?.getD undef = .agg #[.int .i64 an,aw,at_]:=(by simpa using e0)
    have l1:=hall ⟨1,.data⟩ (by simp) rfl
    have e1:b.tmps.getD 75 undef = .agg #[.int .i64 bn,bw,bt]:=(h.tab.val 1 75 rfl l1).trans (h.fact 1 l1)
    have e1':b.tmps[75]?.getD undef = .agg #[.int .i64 bn,bw,bt]:=(by simpa using e1)
    have l2:=hall ⟨2,.data⟩ (by simp) rfl
    have e2:b.tmps.getD 76 undef = .agg #[.int .i64 0,.int .i64 1,.int .i64 1,.int .i64 2]:=(h.tab.val 2 76 rfl l2).trans (h.fact 2 l2)
    have e2':b.tmps[76]?.getD undef = .agg #[.int .i64 0,.int .i64 1,.int .i64 1,.int .i64 2]:=(by simpa using e2)
    have l7:=hall ⟨7,.data⟩ (by simp) rfl
    obtain ⟨s0,s1,s2,s3,a7,r0,r1,r2,r3⟩:=h.fact 7 l7
    have e7:b.tmps.getD 81 undef = .agg #[.slice (some ⟨s0,0,none⟩) 4 4,.slice (some ⟨s1,0,none⟩) 4 4,.slice (some ⟨s2,0,none⟩) 3 3,.slice (some ⟨s3,0,none⟩) 3 3]:=(h.tab.val 7 81 rfl l7).trans a7
    have e7':b.tmps[81]?.getD undef = .agg #[.slice (some ⟨s0,0,none⟩) 4 4,.slice (some ⟨s1,0,none⟩) 4 4,.slice (some ⟨s2,0,none⟩) 3 3,.slice (some ⟨s3,0,none⟩) 3 3]:=(by simpa using e7)
    refine wide_call (f:=18) (args:=#[.agg #[.int .i64 an,aw,at_],.agg #[.int .i64 bn,bw,bt],.agg #[.int .i64 0,.int .i64 1,.int .i64 1,.int .i64 2],.agg #[.slice (some ⟨s0,0,none⟩) 4 4,.slice (some ⟨s1,0,none⟩) 4 4,.slice (some ⟨s2,0,none⟩) 3 3,.slice (some ⟨s3,0,none⟩) 3 3]]) (by go_simp) ((C2 W s0 s1 s2 s3 h.glob r0 r1 r2 r3).mono ?_)
    rintro e wl ⟨rfl,hbl⟩
    exact ⟨_,rfl,factJ.grow h hbl rfl⟩
   ·
    have l8:=hall ⟨8,.data⟩ (by simp) rfl
    have e8:b.tmps.getD 82 undef = .tuple #[.bool g1,.int .i64 g2]:=(h.tab.val 8 82 rfl l8).trans (h.fact 8 l8)
    have e8':b.tmps[82]?.getD undef = .tuple #[.bool g1,.int .i64 g2]:=(by simpa using e8)
    refine wide_val (v:=.tuple #[.bool g1,.int .i64 g2]) (by go_simp;try rfl) (FactsGo.same h.glob rfl)
   ·
    have l9:=hall ⟨9,.data⟩ (by simp) rfl
    have e9:b.tmps.getD 73 undef = .tuple #[.bool g1,.int .i64 g2]:=(h.tab.val 9 73 rfl l9).trans (h.fact 9 l9)
    have e9':b.tmps[73]?.getD undef = .tuple #[.bool g1,.int .i64 g2]:=(by simpa using e9)
    refine wide_val (v:=.bool g1) (by go_simp;try rfl) (FactsGo.same h.glob rfl)
   ·
    have l9:=hall ⟨9,.data⟩ (by simp) rfl
    have e9:b.tmps.getD 73 undef = .tuple #[.bool g1,.int .i64 g2]:=(h.tab.val 9 73 rfl l9).trans (h.fact 9 l9)
    have e9':b.tmps[73]?.getD undef = .tuple #[.bool g1,.int .i64 g2]:=(by simpa using e9)
    refine wide_val (v:=.int .i64 g2) (by go_simp;try rfl) (FactsGo.same h.glob rfl)
   ·
    have l10:=hall ⟨10,.data⟩ (by simp) rfl
    have e10:b.tmps.getD 83 undef = .bool g1:=(h.tab.val 10 83 rfl l10).trans (h.fact 10 l10)
    have e10':b.tmps[83]?.getD undef = .bool g1:=(by simpa using e10)
    refine wide_val (v:=.bool g1) (by go_simp;try rfl) (FactsGo.same h.glob rfl)
   ·
    have l11:=hall ⟨11,.data⟩ (by simp) rfl
    have e11:b.tmps.getD 84 undef = .int .i64 g2:=(h.tab.val 11 84 rfl l11).trans (h.fact 11 l11)
    have e11':b.tmps[84]?.getD undef = .int .i64 g2:=(by simpa using e11)
    refine wide_val (v:=.int .i64 g2) (by go_simp;try rfl) (FactsGo.same h.glob rfl)
 · intro V W hf hg
   have:=hQ W (V 3) (V 4) (V 5) (V 6) (V 7) hg
   have hV:V 0 = .agg #[.int .i64 an,aw,at_]∧V 1 = .agg #[.int .i64 bn,bw,bt]∧V 2 = .agg #[.int .i64 0,.int .i64 1,.int .i64 1,.int .i64 2]∧V 8 = .tuple #[.bool g1,.int .i64 g2]∧V 9 = .tuple #[.bool g1,.int .i64 g2]∧V 10 = .bool g1∧V 11 = .int .i64 g2∧V 12 = .bool g1∧V 13 = .int .i64 g2:=⟨hf 0 (by decide),hf 1 (by decide),hf 2 (by decide),hf 8 (by decide),hf 9 (by decide),hf 10 (by decide),hf 11 (by decide),hf 12 (by decide),hf 13 (by decide)⟩
   obtain ⟨v0,v1,v2,v8,v9,v10,v11,v12,v13⟩:=hV
   simp only [List.size_toArray,List.length_cons,List.length_nil,Nat.reduceAdd,framed,dstOf,List.getElem?_toArray,List.getElem?_cons_zero,List.getElem?_cons_succ,Option.bind_some,v0,v1,v2,v8,v9,v10,v11,v12,v13]
   exact this
end Go.Proofs.YtpmkgmilfifkpaaGreatDoor
end

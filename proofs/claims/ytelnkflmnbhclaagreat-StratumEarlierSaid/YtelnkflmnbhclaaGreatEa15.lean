/- Contracts that the laws lean on: REaR, REar, EarL. -/
import Derived.Test.YtelnkflmnbhclaaGreatK13
import Derived.Test.YtelnkflmnbhclaaGreatEa01
import Derived.Test.YtelnkflmnbhclaaGreatEa14
import Derived.Test.YtelnkflmnbhclaaGreatEa13
import Derived.Test.YtelnkflmnbhclaaGreatEa12
import Derived.Test.YtelnkflmnbhclaaGreatEa02
import Derived.Test.YtelnkflmnbhclaaGreatK24
section
namespace Go.Proofs.YtelnkflmnbhclaaGreat
open Go.RowKit Go.Proofs Go.Shelf
def EarCells (g k ba bb:Nat) (x:Hdr) (p q:Place) (w:World):Prop:=∀ W,Below w.heap.size w W→W.cell? ⟨g,k,none⟩=some (.slice x.A x.n x.c)∧W.cell? ⟨ba,0,none⟩=some (.int .i64 p.pit)∧W.cell? ⟨ba,1,none⟩=some (.int .i64 p.layer)∧W.cell? ⟨bb,0,none⟩=some (.int .i64 q.pit)∧W.cell? ⟨bb,1,none⟩=some (.int .i64 q.layer)
def codeEar14:Option Code→Code
 | some (.seq _ (.seq _ (.seq _ (.seq _ (.seq _ (.seq _ (.seq _ (.seq _ (.seq (.seq _ (.block _ (.loop (.seq _ (.seq (.block _ (.seq c _)) _))))) _)))))))))=>c
 | _=> .skip
def Trear14 (A:Option Addr) (n c:Nat) (known:Int) (B:Option Addr) (m d g ns cs k _ _:Nat) (x:Hdr) (p q:Place) (g1:Int) (g2:Bool) (g3:Int):List Value:=
 [.slice A n c,.int .i64 known,.slice B m d,.slice (some ⟨g,0,none⟩) ns cs,.int .i64 k,.pointer (some ⟨g,k,none⟩),.slice x.A x.n x.c,.agg #[.int .i64 q.pit,.int .i64 q.layer],.agg #[.int .i64 p.pit,.int .i64 p.layer],.tuple #[.int .i64 g1,.bool g2,.int .i64 g3],.tuple #[.int .i64 g1,.bool g2,.int .i64 g3],.int .i64 g1,.bool g2,.int .i64 g3,.int .i64 g1,.bool g2,.int .i64 g3]
set_option maxRecDepth 100000 in
set_option maxHeartbeats 4000000 in
theorem rear14 (cC:Code) (hc:cC=codeEar14 Tryz.f26.body) (A:Option Addr) (n c:Nat) (known:Int) (B:Option Addr) (m d g ns cs k ba bb:Nat) (x:Hdr) (p q:Place) (g1:Int) (g2:Bool) (g3:Int) (a:Act) (w:World) (Q:Exit→Act→World→Prop)
 (hT:a.tmps.size=100) (t0:a.tmps.getD 0 undef = .slice A n c) (t1:a.tmps.getD 1 undef = .int .i64 known) (t2:a.tmps.getD 2 undef = .slice B m d) (t8:a.tmps.getD 8 undef = .pointer (some ⟨ba,0,none⟩)) (t9:a.tmps.getD 9 undef = .pointer (some ⟨bb,0,none⟩)) (t13:a.tmps.getD 13 undef = .slice (some ⟨g,0,none⟩) ns cs) (t16:a.tmps.getD 16 undef = .int .i64 k)
 (CE:EarCells g k ba bb x p q w) (hkn:k<ns) (_:ns≤1000000)
 (C1:∀ W,Below w.heap.size w W→Calls Tryz.prog 52 #[.slice A n c,.int .i64 known,.slice B m d,.slice x.A x.n x.c,.agg #[.int .i64 q.pit,.int .i64 q.layer],.agg #[.int .i64 p.pit,.int .i64 p.layer]] W fun e w'=>e = .returned (.tuple #[.int .i64 g1,.bool g2,.int .i64 g3])∧Below W.heap.size W w')
 (hQ:∀ W,Below w.heap.size w W→Q .normal { tmps:=setsL (setsL ((setsL (a.tmps) 55 [.slice A n c,.int .i64 known,.slice B m d,.slice (some ⟨g,0,none⟩) ns cs,.int .i64 k,.pointer (some ⟨g,k,none⟩),.slice x.A x.n x.c,.agg #[.int .i64 q.pit,.int .i64 q.layer],.agg #[.int .i64 p.pit,.int .i64 p.layer],.tuple #[.int .i64 g1,.bool g2,.int .i64 g3]]).setIfInBounds 54 (.tuple #[.int .i64 g1,.bool g2,.int .i64 g3])) 65 [.int .i64 g1,.bool g2,.int .i64 g3]) 17 [.int .i64 g1,.bool g2,.int .i64 g3],defers:=a.defers } W):
 cC.wp Tryz.prog Q a w:=by
 subst hc
 unfold codeEar14 Tryz.f26
 dsimp only
 refine wpIn_wide.1 (wpIn_region_flow (nn:=5) 100 (by kernel_rfl) (by kernel_rfl) (by kernel_rfl) hT (fun i=>(Trear14 A n c known B m d g ns cs k ba bb x p q g1 g2 g3).getD i undef) (fun W=>Below w.heap.size w W) ((Below.refl _ _).drew) (fun b hE hold=> ?_) hQ)
 clear hQ
 have q0:=hold 0 _ (by kernel_rfl) t0
 have q1:=hold 1 _ (by kernel_rfl) t1
 have q2:=hold 2 _ (by kernel_rfl) t2
 have q8:=hold 8 _ (by kernel_rfl) t8
 have q9:=hold 9 _ (by kernel_rfl) t9
 have q13:=hold 13 _ (by kernel_rfl) t13
 have q16:=hold 16 _ (by kernel_rfl) t16
 simp only [factsL,Trear14,List.getD_cons_zero,List.getD_cons_succ,Nat.reduceAdd] at hE
 repeat' first|exact steps_nil|refine steps_skip rfl rfl ?_|refine steps_go rfl ?_ ?_
 all_goals (intro W hW;obtain ⟨x0,p0,p1,q0,q1⟩:=CE W hW;simp only [Trear14,List.getD_cons_zero,List.getD_cons_succ,Nat.reduceAdd])
 all_goals first
  | (refine .inl ?_;go_simp;done)
  | (refine .inl ?_;go_simp;rfl)
  | (refine .inl ?_;go_simp;simp [*];done)
  | (refine .inr (.inr ⟨52,#[.slice A n c,.int .i64 known,.slice B m d,.slice x.A x.n x.c,.agg #[.int .i64 q.pit,.int .i64 q.layer],.agg #[.int .i64 p.pit,.int .i64 p.layer]],?_,(C1 W hW).mono ?_⟩)
     · go_simp<;>done
     · rintro e w' ⟨rfl,hb'⟩;exact ⟨rfl,(show Below _ _ _ from (show Below _ _ _ from hW).trans (hb'.mono (show Below _ _ _ from hW).size))⟩)
def codeEar15:Option Code→Code
 | some (.seq _ (.seq _ (.seq _ (.seq _ (.seq _ (.seq _ (.seq _ (.seq _ (.seq (.seq _ (.block _ (.loop (.seq _ (.seq (.block _ (.seq _ (.seq c _))) _))))) _)))))))))=>c
 | _=> .skip
def Trear15 (A:Option Addr) (n c:Nat) (known:Int) (B:Option Addr) (m d g ns cs k _ _:Nat) (x:Hdr) (p q:Place) (g1:Int) (g2:Bool) (g3:Int):List Value:=
 [.slice A n c,.int .i64 known,.slice B m d,.slice (some ⟨g,0,none⟩) ns cs,.int .i64 k,.pointer (some ⟨g,k,none⟩),.slice x.A x.n x.c,.agg #[.int .i64 p.pit,.int .i64 p.layer],.agg #[.int .i64 q.pit,.int .i64 q.layer],.tuple #[.int .i64 g1,.bool g2,.int .i64 g3],.tuple #[.int .i64 g1,.bool g2,.int .i64 g3],.int .i64 g1,.bool g2,.int .i64 g3,.int .i64 g1,.bool g2,.int .i64 g3]
set_option maxRecDepth 100000 in
set_option maxHeartbeats 4000000 in
theorem rear15 (cC:Code) (hc:cC=codeEar15 Tryz.f26.body) (A:Option Addr) (n c:Nat) (known:Int) (B:Option Addr) (m d g ns cs k ba bb:Nat) (x:Hdr) (p q:Place) (g1:Int) (g2:Bool) (g3:Int) (a:Act) (w:World) (Q:Exit→Act→World→Prop)
 (hT:a.tmps.size=100) (t0:a.tmps.getD 0 undef = .slice A n c) (t1:a.tmps.getD 1 undef = .int .i64 known) (t2:a.tmps.getD 2 undef = .slice B m d) (t8:a.tmps.getD 8 undef = .pointer (some ⟨ba,0,none⟩)) (t9:a.tmps.getD 9 undef = .pointer (some ⟨bb,0,none⟩)) (t13:a.tmps.getD 13 undef = .slice (some ⟨g,0,none⟩) ns cs) (t16:a.tmps.getD 16 undef = .int .i64 k)
 (CE:EarCells g k ba bb x p q w) (hkn:k<ns) (_:ns≤1000000)
 (C1:∀ W,Below w.heap.size w W→Calls Tryz.prog 52 #[.slice A n c,.int .i64 known,.slice B m d,.slice x.A x.n x.c,.agg #[.int .i64 p.pit,.int .i64 p.layer],.agg #[.int .i64 q.pit,.int .i64 q.layer]] W fun e w'=>e = .returned (.tuple #[.int .i64 g1,.bool g2,.int .i64 g3])∧Below W.heap.size W w')
 (hQ:∀ W,Below w.heap.size w W→Q .normal { tmps:=setsL (setsL ((setsL (a.tmps) 69 [.slice A n c,.int .i64 known,.slice B m d,.slice (some ⟨g,0,none⟩) ns cs,.int .i64 k,.pointer (some ⟨g,k,none⟩),.slice x.A x.n x.c,.agg #[.int .i64 p.pit,.int .i64 p.layer],.agg #[.int .i64 q.pit,.int .i64 q.layer],.tuple #[.int .i64 g1,.bool g2,.int .i64 g3]]).setIfInBounds 68 (.tuple #[.int .i64 g1,.bool g2,.int .i64 g3])) 79 [.int .i64 g1,.bool g2,.int .i64 g3]) 20 [.int .i64 g1,.bool g2,.int .i64 g3],defers:=a.defers } W):
 cC.wp Tryz.prog Q a w:=by
 subst hc
 unfold codeEar15 Tryz.f26
 dsimp only
 refine wpIn_wide.1 (wpIn_region_flow (nn:=5) 100 (by kernel_rfl) (by kernel_rfl) (by kernel_rfl) hT (fun i=>(Trear15 A n c known B m d g ns cs k ba bb x p q g1 g2 g3).getD i undef) (fun W=>Below w.heap.size w W) ((Below.refl _ _).drew) (fun b hE hold=> ?_) hQ)
 clear hQ
 have q0:=hold 0 _ (by kernel_rfl) t0
 have q1:=hold 1 _ (by kernel_rfl) t1
 have q2:=hold 2 _ (by kernel_rfl) t2
 have q8:=hold 8 _ (by kernel_rfl) t8
 have q9:=hold 9 _ (by kernel_rfl) t9
 have q13:=hold 13 _ (by kernel_rfl) t13
 have q16:=hold 16 _ (by kernel_rfl) t16
 simp only [factsL,Trear15,List.getD_cons_zero,List.getD_cons_succ,Nat.reduceAdd] at hE
 repeat' first|exact steps_nil|refine steps_skip rfl rfl ?_|refine steps_go rfl ?_ ?_
 all_goals (intro W hW;obtain ⟨x0,p0,p1,q0,q1⟩:=CE W hW;simp only [Trear15,List.getD_cons_zero,List.getD_cons_succ,Nat.reduceAdd])
 all_goals first
  | (refine .inl ?_;go_simp;done)
  | (refine .inl ?_;go_simp;rfl)
  | (refine .inl ?_;go_simp;simp [*];done)
  | (refine .inr (.inr ⟨52,#[.slice A n c,.int .i64 known,.slice B m d,.slice x.A x.n x.c,.agg #[.int .i64 p.pit,.int .i64 p.layer],.agg #[.int .i64 q.pit,.int .i64 q.layer]],?_,(C1 W hW).mono ?_⟩)
     · go_simp<;>done
     · rintro e w' ⟨rfl,hb'⟩;exact ⟨rfl,(show Below _ _ _ from (show Below _ _ _ from hW).trans (hb'.mono (show Below _ _ _ from hW).size))⟩)
end Go.Proofs.YtelnkflmnbhclaaGreat
end
section
namespace Go.Proofs.YtelnkflmnbhclaaGreat
open Go.RowKit Go.Proofs Go.Shelf
theorem earl_cases (l:List Trace) (known:Int) (bs:List Bond) (a b:Place):(askErr l known bs≠0∧earlierV l known bs a b=(0,askErr l known bs))∨(askErr l known bs=0∧twoV (placesOf (counting l known) bs) a b≠0∧earlierV l known bs a b=(0,twoV (placesOf (counting l known) bs) a b))∨
 (askErr l known bs=0∧twoV (placesOf (counting l known) bs) a b=0∧(setsV l known bs).2≠0∧earlierV l known bs a b=(0,(setsV l known bs).2))∨
 (askErr l known bs=0∧twoV (placesOf (counting l known) bs) a b=0∧(setsV l known bs).2=0∧earlierV l known bs a b=(earlR (ordS l known bs a b (setsV l known bs).1),0)):=by
 by_cases he:askErr l known bs=0
 case neg=>exact .inl ⟨he,by unfold earlierV;rw [if_pos he]⟩
 right
 have h2:twoV (placesOf (counting l known) bs) a b=if ((getM (ptsOf l known bs) a).isSome&&(getM (ptsOf l known bs) b).isSome)=true then 0 else 5:=rfl
 have hs:setsV l known bs=if (setsOf l known bs).2 = [] then ([],81) else ((setsOf l known bs).2,0):=by unfold setsV;rw [if_neg (by simpa using he)]
 cases hq:((getM (ptsOf l known bs) a).isSome&&(getM (ptsOf l known bs) b).isSome) with
 | false=>
   rw [hq] at h2
   refine .inl ⟨he,by rw [h2];simp,?_⟩
   rw [h2]
   unfold earlierV
   rw [if_neg (by simpa using he),if_pos hq];rfl
 | true=>
   rw [hq] at h2
   have h2':twoV (placesOf (counting l known) bs) a b=0:=by rw [h2];rfl
   right
   by_cases hn:(setsOf l known bs).2 = []
   · rw [if_pos hn] at hs
     refine .inl ⟨he,h2',by rw [hs];simp,?_⟩
     rw [hs]
     unfold earlierV
     rw [if_neg (by simpa using he),if_neg (by rw [hq];simp),if_pos hn]
   · rw [if_neg hn] at hs
     refine .inr ⟨he,h2',by rw [hs],?_⟩
     have h0:(earlierV l known bs a b).2=0:=by
      unfold earlierV
      rw [if_neg (by simpa using he),if_neg (by rw [hq];simp),if_neg hn]
     rw [hs]
     exact Prod.ext (earl_ord h0).1 h0
theorem bool3 {p q:Bool} : p=false∨(p=true∧q=false)∨(p=true∧q=true):=by cases p<;>cases q<;>simp
set_option maxHeartbeats 8000000 in
set_option maxRecDepth 100000 in
theorem rEarlier_any (A:Option Addr) (n c:Nat) (l:List Trace) (known:Int) (B:Option Addr) (m d:Nat) (bs:List Bond) (a b:Place) (w:World) (hl:Rd encTrace 10 w A n c l) (hb:Rd encBond 5 w B m d bs):
 Calls Tryz.prog 26 #[.slice A n c,.int .i64 known,.slice B m d,.agg #[.int .i64 a.pit,.int .i64 a.layer],.agg #[.int .i64 b.pit,.int .i64 b.layer]] w fun e w'=>e = .returned (.tuple #[.int .u8 (earlierV l known bs a b).1,.int .i64 (earlierV l known bs a b).2])∧Below w.heap.size w w':=by
 have HA:=Lib.hid (fun W (h:Below w.heap.size w W)=>rAsked_any A n c l known B m d bs W (hl.below h (Nat.le_refl _)) (hb.below h (Nat.le_refl _)))
 obtain ⟨w1,hw1⟩:∃ w1,(w.alloc (.cells #[.int .i64 a.pit,.int .i64 a.layer] 37)).alloc (.cells #[.int .i64 b.pit,.int .i64 b.layer] 37)=w1:=⟨_,rfl⟩
 obtain ⟨hb1,hce⟩:=boxes2 a b w w1 hw1
 have HB1:=Lib.hid hb1
 have CE:=Lib.hid hce
 have HW1:=Lib.hid hw1
 obtain ⟨a0,a1,b0,b1⟩:=CE.out w1 (Below.refl _ _)
 have hz1:w1.heap.size=w.heap.size+2:=(by rw [←hw1];simp)
 have HZ1:=Lib.hid hz1
 clear hb1 hce hw1 hz1
 rcases earl_cases l known bs a b with ⟨h1,h2⟩|⟨h0,h1,h2⟩|⟨h0,h1,h2,h3⟩|⟨h0,h1,h2,h3⟩
 · rw [h2]
   have he':=neBool h1
   have hne:(askErr l known bs==0)=false:=by simpa using h1
   clear h1 h2 hl hb
   generalize askErr l known bs=er at *
   go_enter Tryz.func26,Tryz.ntmps26
   go_wp2_with (first
    | rw [HW1.out]
    | (go_at_call 80;(with_reducible refine (HA.out _ HB1.out).mono ?_);rintro e w2 ⟨rfl,hb2⟩;have HB2:=Lib.hid (HB1.out.trans (hb2.mono HB1.out.size));clear hb2))
   go_ret2
   exact ⟨rfl,HB2.out⟩
 · rw [h2]
   rw [h0] at HA
   have HTW:=Lib.hid (fun W (h:Below w.heap.size w W)=>rtwo_any A n c l known B m d bs a b W (hl.below h (Nat.le_refl _)) (hb.below h (Nat.le_refl _)) h0)
   have he':=neBool h1
   clear h0 h1 h2 hl hb
   generalize twoV (placesOf (counting l known) bs) a b=er at *
   go_enter Tryz.func26,Tryz.ntmps26
   go_wp2_with (first
    | rw [HW1.out]
    | (go_at_call 80;(with_reducible refine (HA.out _ HB1.out).mono ?_);rintro e w2 ⟨rfl,hb2⟩;have HB2:=Lib.hid (HB1.out.trans (hb2.mono HB1.out.size));obtain ⟨a2,a3,b2,b3⟩:=CE.out w2 hb2;clear hb2)
    | (go_at_call 81;(with_reducible refine (HTW.out _ HB2.out).mono ?_);rintro e w3 ⟨rfl,hb3⟩;have HB3:=Lib.hid (HB2.out.trans (hb3.mono HB2.out.size));clear hb3))
   go_ret2
   exact ⟨rfl,HB3.out⟩
 · rw [h3]
   rw [h0] at HA
   have HTW:=Lib.hid (fun W (h:Below w.heap.size w W)=>rtwo_any A n c l known B m d bs a b W (hl.below h (Nat.le_refl _)) (hb.below h (Nat.le_refl _)) h0)
   have HST:=Lib.hid (fun W (h:Below w.heap.size w W)=>rSets_any A n c l known B m d bs W (hl.below h (Nat.le_refl _)) (hb.below h (Nat.le_refl _)))
   rw [h1] at HTW
   have he':=neBool h2
   clear h0 h1 h2 h3 hl hb
   generalize setsV l known bs=SV at *
   obtain ⟨ss,er⟩:=SV
   simp only at HST he'
   go_enter Tryz.func26,Tryz.ntmps26
   go_wp2_with (first
    | rw [HW1.out]
    | (go_at_call 80;(with_reducible refine (HA.out _ HB1.out).mono ?_);rintro e w2 ⟨rfl,hb2⟩;have HB2:=Lib.hid (HB1.out.trans (hb2.mono HB1.out.size));obtain ⟨a2,a3,b2,b3⟩:=CE.out w2 hb2;clear hb2)
    | (go_at_call 81;(with_reducible refine (HTW.out _ HB2.out).mono ?_);rintro e w3 ⟨rfl,hb3⟩;have HB3:=Lib.hid (HB2.out.trans (hb3.mono HB2.out.size));clear hb3)
    | (go_at_call 39;(with_reducible refine (HST.out _ HB3.out).mono ?_);rintro e w4 ⟨A4,c4,rfl,hb4,_⟩;have HB4:=Lib.hid (HB3.out.trans (hb4.mono HB3.out.size));clear hb4))
   go_ret2
   exact ⟨rfl,HB4.out⟩
 · rw [h3]
   rw [h0] at HA
   have HTW:=Lib.hid (fun W (h:Below w.heap.size w W)=>rtwo_any A n c l known B m d bs a b W (hl.below h (Nat.le_refl _)) (hb.below h (Nat.le_refl _)) h0)
   have HST:=Lib.hid (fun W (h:Below w.heap.size w W)=>rSets_any A n c l known B m d bs W (hl.below h (Nat.le_refl _)) (hb.below h (Nat.le_refl _)))
   have HBT:=Lib.hid (fun W S sn sc mv p q (h:Below w.heap.size w W) (h2:Rd encPlace 2 W S sn sc mv)=>rBetween_any A n c l known B m d bs S sn sc mv p q W (hl.below h (Nat.le_refl _)) (hb.below h (Nat.le_refl _)) h2)
   rw [h1] at HTW
   have hsm:=setsV_small (l:=l) (known:=known) (bs:=bs)
   have HOS:=Lib.hid (fun (sets:List (List Place)) (j:Nat) (mv:List Place) (h:sets[j]? = some mv)=>ordS_snoc l known bs a b h)
   have HO0:=Lib.hid (show ordS l known bs a b []=(true,true) from rfl)
   have HOD:=Lib.hid (show ∀ (st:Bool×Bool) (mv:List Place),ordStep l known bs a b st mv=(st.1&&(betweenV l known bs mv b a).2.1&&decide ((betweenV l known bs mv b a).1<0),st.2&&(betweenV l known bs mv a b).2.1&&decide ((betweenV l known bs mv a b).1≤0)) from fun _ _=>rfl)
   clear h0 h1 h3 hl hb
   generalize setsV l known bs=SV at *
   obtain ⟨ss,er⟩:=SV
   simp only at HST h2 hsm
   subst h2
   have hN6:ss.length≤256:=hsm.1
   have HSM:=Lib.hid hsm.2
   clear hsm
   generalize ordS l known bs a b=OS at *
   generalize ordStep l known bs a b=OD at *
   generalize betweenV l known bs=BV at *
   go_enter Tryz.func26,Tryz.ntmps26
   go_wp2_with (first
    | rw [HW1.out]
    | (go_at_call 80;(with_reducible refine (HA.out _ HB1.out).mono ?_);rintro e w2 ⟨rfl,hb2⟩;have HB2:=Lib.hid (HB1.out.trans (hb2.mono HB1.out.size));have HX2:=Lib.hid ((Below.refl _ w1).trans hb2);obtain ⟨a2,a3,b2,b3⟩:=CE.out w2 hb2;clear hb2)
    | (go_at_call 81;(with_reducible refine (HTW.out _ HB2.out).mono ?_);rintro e w3 ⟨rfl,hb3⟩;have HB3:=Lib.hid (HB2.out.trans (hb3.mono HB2.out.size));have HX3:=Lib.hid (HX2.out.trans (hb3.mono HX2.out.size));clear hb3)
    | (go_at_call 39;(with_reducible refine (HST.out _ HB3.out).mono ?_);rintro e w4 ⟨A4,c4,rfl,hb4,hS4⟩;have HB4:=Lib.hid (HB3.out.trans (hb4.mono HB3.out.size));have HX4:=Lib.hid (HX3.out.trans (hb4.mono HX3.out.size));have HS4:=Lib.hid hS4;clear hb4 hS4))
   clear a0 a1 b0 b1 a2 a3 b2 b3
   obtain ⟨hs,o1,o2⟩:=HS4.out
   have HO1:=Lib.hid o1
   have HO2:=Lib.hid o2
   clear o1 o2 HS4
   have hz4:=HB4.out.size
   go_loopw [14,15,16] (fun s14 s15 s16 wr=> ∃ (k:Nat) (su ne:Bool),k≤ss.length∧s16 = .int .i64 k∧s14 = .bool su∧s15 = .bool ne∧Hid (Below w4.heap.size w4 wr)∧Hid (OS (ss.take k)=(su,ne))) (fun _ _ s16 _=>ss.length-(intOf s16).toNat)
   case atStart=>exact ⟨0,true,true,Nat.zero_le _,rfl,rfl,rfl,(show Below _ _ _ from Below.refl _ _),(show _=_ from HO0.out)⟩
   case round=>
    obtain ⟨k,su,ne,hk,rfl,rfl,rfl,hbl,hst⟩:=hrel
    rename World=>wo
    have hzo:=hbl.out.size
    by_cases hlt:k<ss.length
    · obtain ⟨x,hx⟩:∃ h,hs[k]? = some h:=⟨_,List.getElem?_eq_getElem (by have:=HO1.out.len;omega)⟩
      obtain ⟨s,hsk⟩:∃ s,ss[k]? = some s:=⟨_,List.getElem?_eq_getElem hlt⟩
      obtain ⟨e1,e2⟩:=HO2.out k x s hx hsk
      have h8:=HSM.out s (List.mem_of_getElem? hsk)
      obtain ⟨g,rfl⟩:∃ g,A4=some ⟨g,0,none⟩:=by
       rcases HO1.out.form with ⟨_,h0,_⟩|⟨g,h,_⟩
       · omega
       · exact ⟨g,h⟩
      have hgl:=HO1.out.lt.2
      have hcell:=HO1.out.cells (fun _=>rfl) hx 0 _ rfl
      rw [Nat.mul_one,Nat.add_zero] at hcell
      have HRX:Hid (∀ W,Below w4.heap.size w4 W→Rd encPlace 2 W x.A x.n x.c s):=(show ∀ W,_→_ from fun W h=>by rw [e1];exact (e2.below h (Nat.le_refl _)).rd (fun _=>rfl) (by omega))
      have HEC:Hid (∀ W0,Below w4.heap.size w4 W0→EarCells g k w.heap.size (w.heap.size+1) x a b W0):=(show ∀ W0,Below w4.heap.size w4 W0→EarCells g k w.heap.size (w.heap.size+1) x a b W0 from fun W0 h0 W hW=>by
       have h1:=h0.trans (hW.mono h0.size)
       obtain ⟨p0,p1,q0,q1⟩:=CE.out W (HX4.out.trans (h1.mono HX4.out.size))
       exact ⟨(h1.cell (p:=⟨g,k,none⟩) hgl).trans hcell,p0,p1,q0,q1⟩)
      obtain ⟨⟨g1,g2,g3⟩,hg⟩:∃ q,BV s b a=q:=⟨_,rfl⟩
      obtain ⟨⟨f1,f2,f3⟩,hf⟩:∃ q,BV s a b=q:=⟨_,rfl⟩
      have C1:Hid (∀ W,Below w4.heap.size w4 W→Calls Tryz.prog 52 #[.slice A n c,.int .i64 known,.slice B m d,.slice x.A x.n x.c,.agg #[.int .i64 b.pit,.int .i64 b.layer],.agg #[.int .i64 a.pit,.int .i64 a.layer]] W fun e w'=>e = .returned (.tuple #[.int .i64 g1,.bool g2,.int .i64 g3])∧Below W.heap.size W w'):=
       (show ∀ W,_→_ from fun W h=>by have:=HBT.out W x.A x.n x.c s b a (HB4.out.trans (h.mono hz4)) (HRX.out W h);rw [hg] at this;exact this)
      have C2:Hid (∀ W,Below w4.heap.size w4 W→Calls Tryz.prog 52 #[.slice A n c,.int .i64 known,.slice B m d,.slice x.A x.n x.c,.agg #[.int .i64 a.pit,.int .i64 a.layer],.agg #[.int .i64 b.pit,.int .i64 b.layer]] W fun e w'=>e = .returned (.tuple #[.int .i64 f1,.bool f2,.int .i64 f3])∧Below W.heap.size W w'):=
       (show ∀ W,_→_ from fun W h=>by have:=HBT.out W x.A x.n x.c s a b (HB4.out.trans (h.mono hz4)) (HRX.out W h);rw [hf] at this;exact this)
      have HSN:Hid (OS (ss.take (k+1))=(su&&g2&&decide (g1<0),ne&&f2&&decide (f1≤0))):=(show _=_ by rw [HOS.out _ _ _ hsk,hst.out,HOD.out,hg,hf])
      clear hx hsk e1 e2 hcell hg hf
      go_upto_region 14 with (fail)
      refine rear14 _ rfl A n c known B m d g ss.length c4 k w.heap.size (w.heap.size+1) x a b g1 g2 g3 _ wo _ rfl rfl rfl rfl rfl rfl rfl rfl (HEC.out wo hbl.out) hlt (by omega) (fun W h=>C1.out W (hbl.out.trans (h.mono hzo))) ?_
      intro w5 hb5
      have HB5:=Lib.hid (hbl.out.trans (hb5.mono hzo))
      clear hb5
      simp only [setsL,Nat.reduceAdd,List.setIfInBounds_toArray,List.set_cons_succ,List.set_cons_zero]
      go_upto_region 15 with (fail)
      refine rear15 _ rfl A n c known B m d g ss.length c4 k w.heap.size (w.heap.size+1) x a b f1 f2 f3 _ w5 _ rfl rfl rfl rfl rfl rfl rfl rfl (HEC.out w5 HB5.out) hlt (by omega) (fun W h=>C2.out W (HB5.out.trans (h.mono HB5.out.size))) ?_
      intro w6 hb6
      have HB6:=Lib.hid (HB5.out.trans (hb6.mono HB5.out.size))
      clear hb6
      simp only [setsL,Nat.reduceAdd,List.setIfInBounds_toArray,List.set_cons_succ,List.set_cons_zero]
      rcases @bool3 su g2 with rfl|⟨rfl,rfl⟩|⟨rfl,rfl⟩
      all_goals rcases @bool3 ne f2 with rfl|⟨rfl,rfl⟩|⟨rfl,rfl⟩
      all_goals go_wp2
      all_goals go_roundw
      all_goals first
       | (simp [intOf];omega)
       | exact ⟨k+1,_,_,by omega,by go_num,rfl,rfl,HB6.out,(show _=_ by rw [HSN.out];simp)⟩
    · have hkn:k=ss.length:=by omega
      have hfin:OS ss=(su,ne):=by
       have h1:=hst.out
       rwa [hkn,List.take_length] at h1
      have HF:=Lib.hid hfin
      clear hfin hst
      cases su with
      | true=>
        go_wp2
        go_ret2
        exact ⟨by rw [HF.out];rfl,HB4.out.trans (hbl.out.mono hz4)⟩
      | false=>
        cases ne with
        | true=>
          go_wp2
          go_ret2
          exact ⟨by rw [HF.out];rfl,HB4.out.trans (hbl.out.mono hz4)⟩
        | false=>
          go_wp2
          go_ret2
          exact ⟨by rw [HF.out];rfl,HB4.out.trans (hbl.out.mono hz4)⟩
end Go.Proofs.YtelnkflmnbhclaaGreat
end
section
namespace Go.Proofs.YtelnkflmnbhclaaGreat
open Go.RowKit Go.Proofs Go.Shelf
set_option maxRecDepth 100000 in
set_option maxHeartbeats 8000000 in
theorem stratumEarlier_of (lA:Option Addr) (ln lc:Nat) (l:List Trace) (hl0:l.length=ln) (known:Int) (bA:Option Addr) (bn bc:Nat) (b:List Bond) (hb0:b.length=bn) (a c:Place) (w:World) (rl:ln≤17592186044416→Rd encTrace 10 w lA ln lc l) (rb:bn≤17592186044416→Rd encBond 5 w bA bn bc b):
 Calls Tryz.prog 4 #[.slice lA ln lc,.int .i64 known,.slice bA bn bc,.agg #[.int .i64 a.pit,.int .i64 a.layer],.agg #[.int .i64 c.pit,.int .i64 c.layer]] w fun e w'=>e = .returned (.bool true)∧Below w.heap.size w w':=by
 obtain ⟨w1,hw1⟩:∃ w1,(w.alloc (.cells #[.int .i64 a.pit,.int .i64 a.layer] 37)).alloc (.cells #[.int .i64 c.pit,.int .i64 c.layer] 37)=w1:=⟨_,rfl⟩
 obtain ⟨hb1,hce⟩:=boxes2 a c w w1 hw1
 have CE:=Lib.hid hce
 have HW1:=Lib.hid hw1
 have HBW:=Lib.hid hb1
 obtain ⟨a0,a1,b0,b1⟩:=CE.out w1 (Below.refl _ _)
 have hz1:w1.heap.size=w.heap.size+2:=(by rw [←hw1];simp)
 have HZ1:=Lib.hid hz1
 have HDUG:=Lib.hid dug_any
 cases hfew:fewB ln bn 20 with
 | false=>
   have HF:=Lib.hid hfew
   clear hfew rl rb hl0 hb0 hb1 hce hw1 hz1
   go_enter Tryz.func4,Tryz.ntmps4
   go_wp2_with (first
    | rw [HW1.out]
    | (go_at_call 23;(with_reducible refine (few_any _ _ _ _ _ _ _ _).mono ?_);rintro e w2 ⟨rfl,hw2⟩;obtain rfl:=hw2.symm;rw [HF.out])
    | (go_at_call 22;(with_reducible refine (HDUG.out _).mono ?_);rintro e w7 ⟨rfl,hb7⟩;have HB7:=Lib.hid hb7;clear hb7))
   go_ret
   exact ⟨rfl,HBW.out.trans (HB7.out.mono HBW.out.size)⟩
 | true=>
   obtain ⟨hn,hm⟩:=fewB_small hfew (by decide)
   have HF:=Lib.hid hfew
   have RL:Hid (∀ W,Below w1.heap.size w1 W→Rd encTrace 10 W lA ln lc l):=(show ∀ W,Below w1.heap.size w1 W→Rd encTrace 10 W lA ln lc l from fun W h=>(rl (by omega)).below (hb1.trans (h.mono hb1.size)) (Nat.le_refl _))
   have RB:Hid (∀ W,Below w1.heap.size w1 W→Rd encBond 5 W bA bn bc b):=(show ∀ W,Below w1.heap.size w1 W→Rd encBond 5 W bA bn bc b from fun W h=>(rb (by omega)).below (hb1.trans (h.mono hb1.size)) (Nat.le_refl _))
   have HB1:=Lib.hid (Below.refl w1.heap.size w1)
   have HM:=Lib.hid (moderate_any lA ln lc l known bA bn bc b none 0 0 w1 (RL.out w1 HB1.out) (RB.out w1 HB1.out))
   have K1:=Lib.hid (fun W (h:Below w1.heap.size w1 W)=>Earlier_any lA ln lc l known bA bn bc b a c W (RL.out W h) (RB.out W h))
   have K2:=Lib.hid (fun W (h:Below w1.heap.size w1 W)=>rEarlier_any lA ln lc l known bA bn bc b a c W (RL.out W h) (RB.out W h))
   clear hfew rl rb hl0 hb0 hb1 hce hw1 hz1
   generalize earlierV l known b a c=EV at *
   obtain ⟨z,e1⟩:=EV
   simp only at K1 K2
   go_enter Tryz.func4,Tryz.ntmps4
   go_upto_region 3 with (first
    | rw [HW1.out]
    | (go_at_call 23;(with_reducible refine (few_any _ _ _ _ _ _ _ _).mono ?_);rintro e w2 ⟨rfl,hw2⟩;obtain rfl:=hw2.symm;rw [HF.out])
    | (go_at_call 24;(with_reducible refine HM.out.mono ?_);rintro e w3 ⟨md,rfl,hb3⟩;have HB3:=Lib.hid hb3;clear hb3)
    | (go_at_call 22;(with_reducible refine (HDUG.out _).mono ?_);rintro e w7 ⟨rfl,hb7⟩;have HB7:=Lib.hid hb7;clear hb7))
   all_goals first
    | (go_ret;exact ⟨rfl,HBW.out.trans ((HB3.out.trans (HB7.out.mono HB3.out.size)).mono HBW.out.size)⟩)
    | skip
   have hz3:=HB3.out.size
   obtain ⟨a2,a3,b2,b3⟩:=CE.out w3 HB3.out
   go_wp2_with (first
    | (go_at_call 25;(with_reducible refine (K1.out _ HB3.out).mono ?_);rintro e w4 ⟨rfl,hb4⟩
       have HB4:=Lib.hid (HB3.out.trans (hb4.mono hz3))
       obtain ⟨a4,a5,b4,b5⟩:=CE.out w4 HB4.out
       clear hb4)
    | (go_at_call 26;(with_reducible refine (K2.out _ HB4.out).mono ?_);rintro e w5 ⟨rfl,hb5⟩
       have HB5:=Lib.hid (HB4.out.trans (hb5.mono HB4.out.size))
       clear hb5)
    | (go_at_call 22;(with_reducible refine (HDUG.out _).mono ?_);rintro e w9 ⟨rfl,hb9⟩
       have HB9:=Lib.hid (HB5.out.trans (hb9.mono HB5.out.size))
       clear hb9))
   go_ret
   exact ⟨retB (by simp),HBW.out.trans (HB9.out.mono HBW.out.size)⟩
end Go.Proofs.YtelnkflmnbhclaaGreat
end

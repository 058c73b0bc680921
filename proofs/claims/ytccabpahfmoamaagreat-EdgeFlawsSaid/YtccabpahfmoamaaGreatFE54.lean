/- Contracts that the laws lean on: FlwR, Flw, FlwL. -/
import Derived.Test.YtccabpahfmoamaaGreatFE44
import Derived.Test.YtccabpahfmoamaaGreatFE51
import Derived.Test.YtccabpahfmoamaaGreatFE33
import Derived.Test.YtccabpahfmoamaaGreatFE27
import Derived.Test.YtccabpahfmoamaaGreatFE43
set_option maxRecDepth 100000
set_option maxHeartbeats 8000000
section
namespace Go.Proofs.YtccabpahfmoamaaGreat
open Go.RowKit Go.Proofs Go.Shelf
def FlwX (w0:World) (v1 v3:Bool) (xs:List Int) (V:Nat→Value) (L:Nat→Bool) (W:World):Prop:=
 Below w0.heap.size w0 W∧
 (L 5=true→∃ A' c',V 5 = .tuple #[.agg #[.bool v1,.slice A' xs.length c'],.bool v3]∧Own encInt 1 3 w0.heap.size W A' xs.length c' xs)∧
 (L 6=true→V 6=V 5)∧
 (L 7=true→V 5 = .tuple #[V 7,.bool v3])∧
 (L 9=true→L 10=false→∃ g u0 u1,V 9 = .pointer (some ⟨g,0,none⟩)∧w0.heap.size≤g∧W.heap[g]? = some (.cells #[u0,u1] 33 (0,0)))∧
 (L 10=true→∃ g A' c',V 9 = .pointer (some ⟨g,0,none⟩)∧w0.heap.size≤g∧V 7 = .agg #[.bool v1,.slice A' xs.length c']∧W.heap[g]? = some (.cells #[.bool v1,.slice A' xs.length c'] 33 (0,0))∧Own encInt 1 3 w0.heap.size W A' xs.length c' xs)
section
variable {w0:World} {v1 v3:Bool} {xs:List Int} {V:Nat→Value} {L:Nat→Bool} {W:World}
theorem FlwX.pure {listed:Array Bool} {i:Nat} {v:Value} (h:FlwX w0 v1 v3 xs V (fun j=>listed.getD j false) W) (h5:i≠5) (h6:i≠6) (h7:i≠7) (h9:i≠9) (h10:i≠10):FlwX w0 v1 v3 xs (nextV V i v) (nextL listed i) W:=by
 unfold FlwX
 rw [nextL_ne (Ne.symm h5),nextL_ne (Ne.symm h6),nextL_ne (Ne.symm h7),nextL_ne (Ne.symm h9),nextL_ne (Ne.symm h10),nextV_ne (Ne.symm h5),nextV_ne (Ne.symm h6),nextV_ne (Ne.symm h7),nextV_ne (Ne.symm h9)]
 exact h
theorem FlwX.below {W':World} (h:FlwX w0 v1 v3 xs V L W) (hb:Below W.heap.size W W'):FlwX w0 v1 v3 xs V L W':=by
 obtain ⟨h1,h2,h3,h4,h5,h6⟩:=h
 refine ⟨h1.trans (hb.mono h1.size),fun e=> ?_,h3,h4,fun e9 e10=> ?_,fun e=> ?_⟩
 · obtain ⟨A',c',q1,q2⟩:=h2 e
   exact ⟨A',c',q1,q2.below hb (Nat.le_refl _)⟩
 · obtain ⟨g,u0,u1,q1,q2,q3⟩:=h5 e9 e10
   exact ⟨g,u0,u1,q1,q2,(hb.block g (Array.getElem?_eq_some_iff.1 q3).1).trans q3⟩
 · obtain ⟨g,A',c',q1,q2,q3,q4,q5⟩:=h6 e
   exact ⟨g,A',c',q1,q2,q3,(hb.block g (Array.getElem?_eq_some_iff.1 q4).1).trans q4,q5.below hb (Nat.le_refl _)⟩
theorem yes_no {b:Bool} {p:Prop} (h:b=false) (h2:b=true):p:=by rw [h] at h2;cases h2
end
def factFlw (an:Int) (aw at_:Value) (v3:Bool):Nat→Value→Prop
 | 0,v=>v = .agg #[.int .i64 an,aw,at_]
 | 1,v=>v = .agg #[.int .i64 (an+1),aw]
 | 2,v=>v = .agg #[.int .i64 an,aw,at_]
 | 3,v=>v = .agg #[.int .i64 an,at_]
 | 4,v=>v = .agg #[.int .i64 (an+1),aw,.int .i64 an,at_]
 | 8,v=>v = .bool v3
 | 11,v=>v = .bool v3
 | _,_=>True
def codeFlw4:Option Code→Code
 | some (.seq _ (.seq _ (.seq c _)))=>c
 | _=> .skip
theorem flw4 (cC:Code) (hc:cC=codeFlw4 Tryz.f40.body) (b1:Nat) (an:Int) (aw at_:Value) (v1 v3:Bool) (xs:List Int) (a:Act) (w:World) (Q:Exit→Act→World→Prop)
 (hT:a.tmps.size=25) (t1:a.tmps.getD 1 undef = .pointer (some ⟨b1,0,none⟩))
 (CE:∀ W,Below w.heap.size w W→W.cell? ⟨b1,0,none⟩=some (.int .i64 an)∧W.cell? ⟨b1,1,none⟩=some aw∧W.cell? ⟨b1,2,none⟩=some at_)
 (C1:∀ W,Calls Tryz.prog 62 #[.agg #[.int .i64 an,aw,at_]] W fun e w'=>e = .returned (.agg #[.int .i64 (an+1),aw])∧Below W.heap.size W w')
 (C2:∀ W,Calls Tryz.prog 63 #[.agg #[.int .i64 an,aw,at_]] W fun e w'=>e = .returned (.agg #[.int .i64 an,at_])∧Below W.heap.size W w')
 (C3:∀ W,Below w.heap.size w W→Calls Tryz.prog 97 #[.agg #[.int .i64 (an+1),aw,.int .i64 an,at_]] W fun e w'=> ∃ A' c',e = .returned (.tuple #[.agg #[.bool v1,.slice A' xs.length c'],.bool v3])∧Below W.heap.size W w'∧Own encInt 1 3 W.heap.size w' A' xs.length c' xs)
 (hQ:∀ W g A' c',Below w.heap.size w W→w.heap.size≤g→W.heap[g]? = some (.cells #[.bool v1,.slice A' xs.length c'] 33 (0,0))→Own encInt 1 3 w.heap.size W A' xs.length c' xs→Q .normal { tmps:=(((((((((((a.tmps.setIfInBounds 15 (.agg #[.int .i64 an,aw,at_])).setIfInBounds 16 (.agg #[.int .i64 (an+1),aw])).setIfInBounds 17 (.agg #[.int .i64 an,aw,at_])).setIfInBounds 18 (.agg #[.int .i64 an,at_])).setIfInBounds 19 (.agg #[.int .i64 (an+1),aw,.int .i64 an,at_])).setIfInBounds 20 (.tuple #[.agg #[.bool v1,.slice A' xs.length c'],.bool v3])).setIfInBounds 14 (.tuple #[.agg #[.bool v1,.slice A' xs.length c'],.bool v3])).setIfInBounds 21 (.agg #[.bool v1,.slice A' xs.length c'])).setIfInBounds 22 (.bool v3)).setIfInBounds 6 (.pointer (some ⟨g,0,none⟩))).setIfInBounds 7 (.bool v3)),defers:=a.defers } W):
 cC.wp Tryz.prog Q a w:=by
 subst hc
 unfold codeFlw4 Tryz.f40
 dsimp only
 refine wpIn_wide.1 (wpIn_region_factsW (nn:=5) 25 (by kernel_rfl) (by kernel_rfl) hT.symm (factFlw an aw at_ v3) (FlwX w v1 v3 xs) (fun V=>⟨(Below.refl _ w).drew,fun h=>(by cases h),fun h=>(by cases h),fun h=>(by cases h),fun h=>(by cases h),fun h=>(by cases h)⟩) ?_ ?_)
 · intro V listed i o b W hi ho h
   obtain ⟨hun,oi,hoi,hall⟩:=mem_ready.1 hi
   have:oi=o:=Option.some.inj (hoi.symm.trans ho)
   subst this
   clear hoi hi
   have hlt:i<12:=(by have:=(Array.getElem?_eq_some_iff.1 ho).1;simpa using this)
   have hun':listed.getD i false=false:=getD_both hun
   rcases (by omega:i=0∨i=1∨i=2∨i=3∨i=4∨i=5∨i=6∨i=7∨i=8∨i=9∨i=10∨i=11) with rfl|rfl|rfl|rfl|rfl|rfl|rfl|rfl|rfl|rfl|rfl|rfl
   all_goals simp only [List.getElem?_toArray,List.getElem?_cons_zero,List.getElem?_cons_succ] at ho
   all_goals cases ho
   ·
    have q1:=(h.tab.old 1 (dst_no h.tab (by kernel_rfl))).trans t1
    have q1':b.tmps[1]?.getD undef=_:=(by simpa using q1)
    obtain ⟨c0,c1,c2⟩:=CE W h.x.1
    refine wide_val (v:=.agg #[.int .i64 an,aw,at_]) (by go_simp;try rfl) ⟨_,rfl,rfl,h.x.pure (by decide) (by decide) (by decide) (by decide) (by decide)⟩
   ·
    have l0:=hall ⟨0,.data⟩ (by simp) rfl
    have e0:b.tmps.getD 15 undef = .agg #[.int .i64 an,aw,at_]:=(h.tab.val 0 15 rfl l0).trans (h.fact 0 l0)
    have e0':b.tmps[15]?.getD undef = .agg #[.int .i64 an,aw,at_]:=(by simpa using e0)
    refine wide_call (f:=62) (args:=#[.agg #[.int .i64 an,aw,at_]]) (by go_simp) ((C1 W).mono ?_)
    rintro e w' ⟨rfl,hb'⟩
    exact ⟨_,rfl,_,rfl,rfl,(h.x.below hb').pure (by decide) (by decide) (by decide) (by decide) (by decide)⟩
   ·
    have q1:=(h.tab.old 1 (dst_no h.tab (by kernel_rfl))).trans t1
    have q1':b.tmps[1]?.getD undef=_:=(by simpa using q1)
    obtain ⟨c0,c1,c2⟩:=CE W h.x.1
    refine wide_val (v:=.agg #[.int .i64 an,aw,at_]) (by go_simp;try rfl) ⟨_,rfl,rfl,h.x.pure (by decide) (by decide) (by decide) (by decide) (by decide)⟩
   ·
    have l2:=hall ⟨2,.data⟩ (by simp) rfl
    have e2:b.tmps.getD 17 undef = .agg #[.int .i64 an,aw,at_]:=(h.tab.val 2 17 rfl l2).trans (h.fact 2 l2)
    have e2':b.tmps[17]?.getD undef = .agg #[.int .i64 an,aw,at_]:=(by simpa using e2)
    refine wide_call (f:=63) (args:=#[.agg #[.int .i64 an,aw,at_]]) (by go_simp) ((C2 W).mono ?_)
    rintro e w' ⟨rfl,hb'⟩
    exact ⟨_,rfl,_,rfl,rfl,(h.x.below hb').pure (by decide) (by decide) (by decide) (by decide) (by decide)⟩
   ·
    have l1:=hall ⟨1,.data⟩ (by simp) rfl
    have e1:b.tmps.getD 16 undef = .agg #[.int .i64 (an+1),aw]:=(h.tab.val 1 16 rfl l1).trans (h.fact 1 l1)
    have e1':b.tmps[16]?.getD undef = .agg #[.int .i64 (an+1),aw]:=(by simpa using e1)
    have l3:=hall ⟨3,.data⟩ (by simp) rfl
    have e3:b.tmps.getD 18 undef = .agg #[.int .i64 an,at_]:=(h.tab.val 3 18 rfl l3).trans (h.fact 3 l3)
    have e3':b.tmps[18]?.getD undef = .agg #[.int .i64 an,at_]:=(by simpa using e3)
    refine wide_val (v:=.agg #[.int .i64 (an+1),aw,.int .i64 an,at_]) (by go_simp;try rfl) ⟨_,rfl,rfl,h.x.pure (by decide) (by decide) (by decide) (by decide) (by decide)⟩
   ·
    have l4:=hall ⟨4,.data⟩ (by simp) rfl
    have e4:b.tmps.getD 19 undef = .agg #[.int .i64 (an+1),aw,.int .i64 an,at_]:=(h.tab.val 4 19 rfl l4).trans (h.fact 4 l4)
    have e4':b.tmps[19]?.getD undef = .agg #[.int .i64 (an+1),aw,.int .i64 an,at_]:=(by simpa using e4)
    have n6:listed.getD 6 false=false:=not_listed (h.tab.closed 6 _ rfl) ⟨5,.data⟩ (by simp) rfl hun'
    have n7:listed.getD 7 false=false:=not_listed (h.tab.closed 7 _ rfl) ⟨6,.data⟩ (by simp) rfl n6
    have n10:listed.getD 10 false=false:=not_listed (h.tab.closed 10 _ rfl) ⟨7,.data⟩ (by simp) rfl n7
    refine wide_call (f:=97) (args:=#[.agg #[.int .i64 (an+1),aw,.int .i64 an,at_]]) (by go_simp) ((C3 W h.x.1).mono ?_)
    rintro e w' ⟨A',c',rfl,hb',ho'⟩
    obtain ⟨x1,x2,x3,x4,x5,x6⟩:=h.x.below hb'
    refine ⟨_,rfl,_,rfl,trivial,?_⟩
    unfold FlwX
    rw [nextL_at,nextL_ne (show 6≠5 by decide),nextL_ne (show 7≠5 by decide),nextL_ne (show 9≠5 by decide),nextL_ne (show 10≠5 by decide),nextV_at,nextV_ne (show 6≠5 by decide),nextV_ne (show 7≠5 by decide),nextV_ne (show 9≠5 by decide)]
    exact ⟨x1,fun _=>⟨A',c',rfl,ho'.mono h.x.1.size⟩,fun e=>yes_no n6 e,fun e=>yes_no n7 e,x5,fun e=>yes_no n10 e⟩
   ·
    have l5:=hall ⟨5,.data⟩ (by simp) rfl
    have n7:listed.getD 7 false=false:=not_listed (h.tab.closed 7 _ rfl) ⟨6,.data⟩ (by simp) rfl hun'
    have n10:listed.getD 10 false=false:=not_listed (h.tab.closed 10 _ rfl) ⟨7,.data⟩ (by simp) rfl n7
    have e5:b.tmps.getD 20 undef=V 5:=h.tab.val 5 20 rfl l5
    have f5:b.eval (.tmp 20)=V 5:=(by simp only [Act.eval];exact e5)
    obtain ⟨x1,x2,x3,x4,x5,x6⟩:=h.x
    refine wide_val (v:=V 5) (by simp only [execOp,f5];rfl) ⟨_,rfl,trivial,?_⟩
    unfold FlwX
    rw [nextL_ne (show 5≠6 by decide),nextL_at,nextL_ne (show 7≠6 by decide),nextL_ne (show 9≠6 by decide),nextL_ne (show 10≠6 by decide),nextV_ne (show 5≠6 by decide),nextV_at,nextV_ne (show 7≠6 by decide),nextV_ne (show 9≠6 by decide)]
    exact ⟨x1,x2,fun _=>rfl,fun e=>yes_no n7 e,x5,fun e=>yes_no n10 e⟩
   ·
    have l6:=hall ⟨6,.data⟩ (by simp) rfl
    have n10:listed.getD 10 false=false:=not_listed (h.tab.closed 10 _ rfl) ⟨7,.data⟩ (by simp) rfl hun'
    have l5:=h.tab.closed 6 _ rfl l6 ⟨5,.data⟩ (by simp) rfl
    have e6:b.tmps.getD 14 undef=V 6:=h.tab.val 6 14 rfl l6
    have f6:b.eval (.tmp 14)=V 6:=(by simp only [Act.eval];exact e6)
    obtain ⟨x1,x2,x3,x4,x5,x6⟩:=h.x
    obtain ⟨A',c',a5,hO⟩:=x2 l5
    have f6':b.eval (.tmp 14) = .tuple #[.agg #[.bool v1,.slice A' xs.length c'],.bool v3]:=f6.trans ((x3 l6).trans a5)
    refine wide_val (v:=.agg #[.bool v1,.slice A' xs.length c']) (by simp only [execOp,f6'];rfl) ⟨_,rfl,trivial,?_⟩
    unfold FlwX
    rw [nextL_ne (show 5≠7 by decide),nextL_ne (show 6≠7 by decide),nextL_at,nextL_ne (show 9≠7 by decide),nextL_ne (show 10≠7 by decide),nextV_ne (show 5≠7 by decide),nextV_ne (show 6≠7 by decide),nextV_at,nextV_ne (show 9≠7 by decide)]
    exact ⟨x1,x2,x3,fun _=>a5,x5,fun e=>yes_no n10 e⟩
   ·
    have l6:=hall ⟨6,.data⟩ (by simp) rfl
    have l5:=h.tab.closed 6 _ rfl l6 ⟨5,.data⟩ (by simp) rfl
    have e6:b.tmps.getD 14 undef=V 6:=h.tab.val 6 14 rfl l6
    have f6:b.eval (.tmp 14)=V 6:=(by simp only [Act.eval];exact e6)
    obtain ⟨A',c',a5,hO⟩:=h.x.2.1 l5
    have f6':b.eval (.tmp 14) = .tuple #[.agg #[.bool v1,.slice A' xs.length c'],.bool v3]:=f6.trans ((h.x.2.2.1 l6).trans a5)
    refine wide_val (v:=.bool v3) (by simp only [execOp,f6'];rfl) ⟨_,rfl,rfl,h.x.pure (by decide) (by decide) (by decide) (by decide) (by decide)⟩
   ·
    have n10:listed.getD 10 false=false:=not_listed (h.tab.closed 10 _ rfl) ⟨9,.data⟩ (by simp) rfl hun'
    refine wide_val (W':=W.alloc (.cells #[.bool false,.slice none 0 0] 33)) (v:=.pointer (some ⟨W.heap.size,0,none⟩)) (by go_simp) ⟨_,rfl,trivial,?_⟩
    obtain ⟨x1,x2,x3,x4,x5,x6⟩:=h.x.below ((Below.refl _ W).alloc (Nat.le_refl _) (.cells #[.bool false,.slice none 0 0] 33))
    unfold FlwX
    rw [nextL_ne (show 5≠9 by decide),nextL_ne (show 6≠9 by decide),nextL_ne (show 7≠9 by decide),nextL_at,nextL_ne (show 10≠9 by decide),nextV_ne (show 5≠9 by decide),nextV_ne (show 6≠9 by decide),nextV_ne (show 7≠9 by decide),nextV_at]
    exact ⟨x1,x2,x3,x4,fun _ _=>⟨W.heap.size,_,_,rfl,h.x.1.size,heap_alloc_new W _⟩,fun e=>yes_no n10 e⟩
   ·
    have l9:=hall ⟨9,.data⟩ (by simp) rfl
    have l7:=hall ⟨7,.data⟩ (by simp) rfl
    have l6:=h.tab.closed 7 _ rfl l7 ⟨6,.data⟩ (by simp) rfl
    have l5:=h.tab.closed 6 _ rfl l6 ⟨5,.data⟩ (by simp) rfl
    obtain ⟨x1,x2,x3,x4,x5,x6⟩:=h.x
    obtain ⟨A',c',a5,hO⟩:=x2 l5
    obtain ⟨g,u0,u1,a9,hg,hh⟩:=x5 l9 hun'
    have a7:V 7 = .agg #[.bool v1,.slice A' xs.length c']:=(by have:=(x4 l7).symm.trans a5;injection this with this;injection this with this;injection this with this)
    have e7:b.tmps.getD 21 undef=V 7:=h.tab.val 7 21 rfl l7
    have f7:b.eval (.tmp 21)=V 7:=(by simp only [Act.eval];exact e7)
    have e9:b.tmps.getD 6 undef=V 9:=h.tab.val 9 6 rfl l9
    have f9:b.eval (.tmp 6)=V 9:=(by simp only [Act.eval];exact e9)
    have e7':b.tmps[21]?.getD undef = .agg #[.bool v1,.slice A' xs.length c']:=(by rw [←a7];simpa using e7)
    have e9':b.tmps[6]?.getD undef = .pointer (some ⟨g,0,none⟩):=(by rw [←a9];simpa using e9)
    have k0:W.cell? ⟨g,0,none⟩=some u0:=(by simp [World.cell?,hh])
    have k1:W.cell? ⟨g,1,none⟩=some u1:=(by simp [World.cell?,hh])
    have k2:W.frozen? ⟨g,0,none⟩=false:=(by simp [World.frozen?,hh])
    have k3:W.frozen? ⟨g,1,none⟩=false:=(by simp [World.frozen?,hh])
    refine wide_skip (W':=(W.setCell ⟨g,0,none⟩ (.bool v1)).setCell ⟨g,1,none⟩ (.slice A' xs.length c')) (by go_simp;try rfl) ⟨_,rfl,trivial,?_⟩
    unfold FlwX
    rw [nextL_ne (show 5≠10 by decide),nextL_ne (show 6≠10 by decide),nextL_ne (show 7≠10 by decide),nextL_ne (show 9≠10 by decide),nextL_at,nextV_ne (show 5≠10 by decide),nextV_ne (show 6≠10 by decide),nextV_ne (show 7≠10 by decide),nextV_ne (show 9≠10 by decide)]
    have hO':Own encInt 1 3 w.heap.size ((W.setCell ⟨g,0,none⟩ (.bool v1)).setCell ⟨g,1,none⟩ (.slice A' xs.length c')) A' xs.length c' xs:=own_set (own_set hO hh (by decide) _) (heap_setCell_obj hh) (by decide) _
    exact ⟨(x1.setCell (p:=⟨g,0,none⟩) hg _).setCell (p:=⟨g,1,none⟩) hg _,fun _=>⟨A',c',a5,hO'⟩,x3,x4,fun _ e=>(by cases e),fun _=>⟨g,A',c',a9,hg,a7,(by rw [heap_setCell_obj (heap_setCell_obj hh)];rfl),hO'⟩⟩
   ·
    have l8:=hall ⟨8,.data⟩ (by simp) rfl
    have e8:b.tmps.getD 22 undef = .bool v3:=(h.tab.val 8 22 rfl l8).trans (h.fact 8 l8)
    have e8':b.tmps[22]?.getD undef = .bool v3:=(by simpa using e8)
    refine wide_val (v:=.bool v3) (by go_simp;try rfl) ⟨_,rfl,rfl,h.x.pure (by decide) (by decide) (by decide) (by decide) (by decide)⟩
 · intro V W hf hx
   obtain ⟨hb,h5,h6,h7,_,h10⟩:=hx
   obtain ⟨g,A',c',v9,hg,v7,hh,hO⟩:=h10 rfl
   have:=hQ W g A' c' hb hg hh hO
   have v5:V 5 = .tuple #[.agg #[.bool v1,.slice A' xs.length c'],.bool v3]:=(h7 rfl).trans (by rw [v7])
   have v6:V 6 = .tuple #[.agg #[.bool v1,.slice A' xs.length c'],.bool v3]:=(h6 rfl).trans v5
   have w0:V 0=_:=hf 0 (by decide)
   have w1:V 1=_:=hf 1 (by decide)
   have w2:V 2=_:=hf 2 (by decide)
   have w3:V 3=_:=hf 3 (by decide)
   have w4:V 4=_:=hf 4 (by decide)
   have w8:V 8=_:=hf 8 (by decide)
   have w11:V 11=_:=hf 11 (by decide)
   simp only [List.size_toArray,List.length_cons,List.length_nil,Nat.reduceAdd,framed,dstOf,List.getElem?_toArray,List.getElem?_cons_zero,List.getElem?_cons_succ,Option.bind_some,w0,w1,w2,w3,w4,w8,w11,v5,v6,v7,v9]
   exact this
def flawV (A:Outl):Bool×List Int×Bool:=if checkOut A=0 then circV (A.n+1) A.ways A.n A.turns else (false,[],false)
theorem circV_is (n1:Int) (b1:List Bound) (n2:Int) (b2:List Bound):(circV n1 b1 n2 b2).2.2=decide (0<(circV n1 b1 n2 b2).2.1.length):=by
 unfold circV
 split
 · rename_i h
   unfold circOk at h
   exact h.symm
 · split
   · rename_i h
     unfold circOk at h
     exact h.symm
   · rfl
theorem flaw_meets {A:Outl} (h0:checkOut A=0) (hf:(circV (A.n+1) A.ways A.n A.turns).2.2=true) {f g:Int→Int} (hw:KeepsF A.ways f) (ht:KeepsF A.turns g):False:=by
 obtain ⟨_,_,s1,s2⟩:=checkOut_zero.1 h0
 have k1:=sysOk_of s1
 have k2:=sysOk_of s2
 have e1:solvedOk (A.n+1) A.ways=true:=(solvedOk_iff k1).2 ⟨fun i=>f i,fun b hb=>by
  have:=hw b hb
  have hr:=k1.b b hb
  show f ((b.dst.toNat:Nat):Int)≤f ((b.src.toNat:Nat):Int)+b.most
  rw [show ((b.dst.toNat:Nat):Int)=b.dst from Int.toNat_of_nonneg (by omega),show ((b.src.toNat:Nat):Int)=b.src from Int.toNat_of_nonneg (by omega)]
  exact this⟩
 have e2:solvedOk A.n A.turns=true:=(solvedOk_iff k2).2 ⟨fun i=>g i,fun b hb=>by
  have:=ht b hb
  have hr:=k2.b b hb
  show g ((b.dst.toNat:Nat):Int)≤g ((b.src.toNat:Nat):Int)+b.most
  rw [show ((b.dst.toNat:Nat):Int)=b.dst from Int.toNat_of_nonneg (by omega),show ((b.src.toNat:Nat):Int)=b.src from Int.toNat_of_nonneg (by omega)]
  exact this⟩
 rw [few_none k1 k2 e1 e2] at hf
 cases hf
theorem flaw_no {A B:Outl} {p:Pairing} (h0:checkOut A=0) (hf:(circV (A.n+1) A.ways A.n A.turns).2.2=true):(decide (askedErr A B p=0)&&meetsV A B p)=false:=by
 rw [←Bool.not_eq_true,Bool.and_eq_true,decide_eq_true_eq]
 rintro ⟨h1,h2⟩
 obtain ⟨⟨f,g,w1,_⟩,f',g',w2,_⟩:=(askedErr_zero.1 h1).meets_iff.1 h2
 exact flaw_meets h0 hf w1 w2
theorem flaw_no2 {A B:Outl} {p:Pairing} (h0:checkOut A=0) (hf:(circV (A.n+1) A.ways A.n A.turns).2.2=true):(decide (askedErr B A p=0)&&meetsV B A p)=false:=by
 rw [←Bool.not_eq_true,Bool.and_eq_true,decide_eq_true_eq]
 rintro ⟨h1,h2⟩
 obtain ⟨⟨f,g,_,w1,_⟩,f',g',_,w2,_⟩:=(askedErr_zero.1 h1).meets_iff.1 h2
 exact flaw_meets h0 hf w1 w2
theorem flaw_yes {A:Outl} (h0:checkOut A=0) (hf:(circV (A.n+1) A.ways A.n A.turns).2.2=true):circleB (if (circV (A.n+1) A.ways A.n A.turns).1 then A.turns else A.ways) (circV (A.n+1) A.ways A.n A.turns).2.1=true:=by
 obtain ⟨_,_,s1,s2⟩:=checkOut_zero.1 h0
 unfold circV at hf ⊢
 split
 · rename_i h
   exact circleX_yes (sysOk_of s1) h
 · rename_i h
   rw [if_neg h] at hf
   split
   · rename_i h2
     exact circleX_yes (sysOk_of s2) h2
   · rename_i h2
     rw [if_neg h2] at hf
     cases hf
theorem circX_len {pts:Int} {bs:List Bound} (hok:SysOk pts bs):(circleX pts bs).length≤60:=by
 rcases circle_law hok with ⟨h1,_⟩|⟨p,ws,_,hix,hl,hne,hs,hw,hneg,hmin⟩
 · rw [h1];simp
 · rw [hl]
   have hn:=least_simple hs hw hneg hmin
   have hz60:zeroRow.length=60:=by simp [zeroRow]
   have:=nodup_range (n:=60) hn (fun x hx=>by
    unfold leaves at hx
    obtain ⟨b,hb,rfl⟩:=List.mem_map.1 hx
    have h60:=(ends60 hok (r:=zeroRow) hz60 b (hs b hb)).1
    omega)
   unfold leaves at this
   rwa [List.length_map] at this
theorem flaw_len {A:Outl} (h0:checkOut A=0):(circV (A.n+1) A.ways A.n A.turns).2.1.length≤60:=by
 obtain ⟨_,_,s1,s2⟩:=checkOut_zero.1 h0
 unfold circV
 split
 · exact circX_len (sysOk_of s1)
 · split
   · exact circX_len (sysOk_of s2)
   · simp
theorem Flaw_any (A:Outl) (AwA:Option Addr) (Awn Awc:Nat) (AtA:Option Addr) (Atn Atc:Nat) (w:World) (Aw:Rd encBound 4 w AwA Awn Awc A.ways) (At:Rd encBound 4 w AtA Atn Atc A.turns):
 Calls Tryz.prog 40 #[.agg #[.int .i64 A.n,.slice AwA Awn Awc,.slice AtA Atn Atc]] w fun e w'=> ∃ A' c',e = .returned (.tuple #[.agg #[.bool (flawV A).1,.slice A' (flawV A).2.1.length c'],.bool (flawV A).2.2,.int .i64 (checkOut A)])∧Below w.heap.size w w'∧Own encInt 1 3 w.heap.size w' A' (flawV A).2.1.length c' (flawV A).2.1:=by
 obtain ⟨wa,hwa,ba,hza,ea⟩:=alloc_facts w #[.int .i64 A.n,.slice AwA Awn Awc,.slice AtA Atn Atc] 24
 obtain ⟨w1,hw1,l1,z1,e1⟩:=alloc_facts wa #[.bool false,.slice none 0 0] 33
 have hb1:=ba.trans (l1.mono ba.size)
 rw [hza] at e1 z1
 have HW:Hid ((w.alloc (.cells #[.int .i64 A.n,.slice AwA Awn Awc,.slice AtA Atn Atc] 24)).alloc (.cells #[.bool false,.slice none 0 0] 33)=w1):=(show _=_ from by rw [hwa,hw1])
 have HCE:Hid (∀ W,Below w1.heap.size w1 W→W.cell? ⟨w.heap.size,0,none⟩=some (.int .i64 A.n)∧W.cell? ⟨w.heap.size,1,none⟩=some (.slice AwA Awn Awc)∧W.cell? ⟨w.heap.size,2,none⟩=some (.slice AtA Atn Atc)):=(show ∀ W,_→_ from fun W h=>by
  have q:=(h.block w.heap.size (by omega)).trans ((l1.block w.heap.size (by omega)).trans ea)
  simp [World.cell?,q])
 have HRE:Hid (∀ W,Below w1.heap.size w1 W→W.heap[w.heap.size+1]? = some (.cells #[.bool false,.slice none 0 0] 33 (0,0))∧W.cell? ⟨w.heap.size+1,0,none⟩=some (.bool false)∧W.cell? ⟨w.heap.size+1,1,none⟩=some (.slice none 0 0)∧W.frozen? ⟨w.heap.size+1,0,none⟩=false∧W.frozen? ⟨w.heap.size+1,1,none⟩=false):=(show ∀ W,_→_ from fun W h=>by
  have q:=(h.block (w.heap.size+1) (by omega)).trans e1
  refine ⟨q,?_⟩
  simp [World.cell?,World.frozen?,q])
 have RA:Hid (∀ W,Below w1.heap.size w1 W→Rd encBound 4 W AwA Awn Awc A.ways):=(show ∀ W,_→_ from fun W h=>(Aw.below hb1 (Nat.le_refl _)).below h (Nat.le_refl _))
 have RT:Hid (∀ W,Below w1.heap.size w1 W→Rd encBound 4 W AtA Atn Atc A.turns):=(show ∀ W,_→_ from fun W h=>(At.below hb1 (Nat.le_refl _)).below h (Nat.le_refl _))
 have K1:=Lib.hid (fun W (h:Below w1.heap.size w1 W)=>CheckOutline_any A AwA Awn Awc AtA Atn Atc W (RA.out W h) (RT.out W h))
 have HB1:=Lib.hid hb1
 obtain ⟨x0,x1,x2⟩:=HCE.out w1 (Below.refl _ _)
 clear Aw At hwa hw1 ba hza ea l1 z1 e1 hb1
 by_cases h1:checkOut A=0
 case neg=>
  have hv:flawV A=(false,[],false):=if_neg h1
  rw [hv]
  have h1':(checkOut A != 0)=true:=by simpa using h1
  clear h1 hv
  generalize checkOut A=er at *
  go_enter Tryz.func40,Tryz.ntmps40
  go_wp2_with (first
   | rw [HW.out]
   | (go_at_call 35;(with_reducible refine (K1.out _ (Below.refl _ _)).mono ?_);rintro e w2 ⟨rfl,hb2⟩
      have HB2:=Lib.hid hb2
      obtain ⟨q,f0,f1,g0,g1⟩:=HRE.out w2 hb2
      have HQ:=Lib.hid q
      clear hb2 q))
  refine bodyPost_ret (results_ctt rfl _ _ (w.heap.size+1) _ _ (0,0) _ rfl (sys_set HQ.out) Tryz.underlying33 rfl (by kernel_rfl)) rfl ?_
  exact ⟨none,0,rfl,((HB1.out.trans (HB2.out.mono HB1.out.size)).setCell (p:=⟨w.heap.size+1,0,none⟩) (show w.heap.size≤w.heap.size+1 by omega) _).setCell (p:=⟨w.heap.size+1,1,none⟩) (show w.heap.size≤w.heap.size+1 by omega) _,Own.none_ _ _ _ _ _⟩
 case pos=>
  obtain ⟨n1,n2,s1,s2⟩:=checkOut_zero.1 h1
  have hv:flawV A=circV (A.n+1) A.ways A.n A.turns:=if_pos h1
  rw [hv]
  have C1:Hid (∀ W,Calls Tryz.prog 62 #[.agg #[.int .i64 A.n,.slice AwA Awn Awc,.slice AtA Atn Atc]] W fun e w'=>e = .returned (.agg #[.int .i64 (A.n+1),.slice AwA Awn Awc])∧Below W.heap.size W w'):=(show ∀ W,_ from fun W=>waysE_any A.n AwA Awn Awc AtA Atn Atc W (by omega) (by omega))
  have C2:Hid (∀ W,Calls Tryz.prog 63 #[.agg #[.int .i64 A.n,.slice AwA Awn Awc,.slice AtA Atn Atc]] W fun e w'=>e = .returned (.agg #[.int .i64 A.n,.slice AtA Atn Atc])∧Below W.heap.size W w'):=(show ∀ W,_ from fun W=>turnsE_any A.n AwA Awn Awc AtA Atn Atc W)
  have C3:=Lib.hid (fun W (h:Below w1.heap.size w1 W)=>circle_any (A.n+1) AwA Awn Awc A.ways A.n AtA Atn Atc A.turns W (RA.out W h) (RT.out W h) s1 s2)
  rw [h1] at K1 ⊢
  clear h1 hv n1 n2 s1 s2
  generalize circV (A.n+1) A.ways A.n A.turns=cv at *
  obtain ⟨c0,c1,c2⟩:=cv
  simp only at C3 ⊢
  go_enter Tryz.func40,Tryz.ntmps40
  go_upto_region 4 with (first
   | rw [HW.out]
   | (go_at_call 35;(with_reducible refine (K1.out _ (Below.refl _ _)).mono ?_);rintro e w2 ⟨rfl,hb2⟩;have HB2:=Lib.hid hb2;clear hb2))
  refine flw4 _ rfl w.heap.size A.n (.slice AwA Awn Awc) (.slice AtA Atn Atc) c0 c2 c1 _ w2 _ rfl rfl (fun W hW=>HCE.out W (HB2.out.trans (hW.mono HB2.out.size))) (fun W=>C1.out W) (fun W=>C2.out W) (fun W hW=>C3.out W (HB2.out.trans (hW.mono HB2.out.size))) ?_
  intro w3 g A' c' hb3 hg hh hO
  have hb13:=HB2.out.trans (hb3.mono HB2.out.size)
  obtain ⟨q,f0,f1,g0,g1⟩:=HRE.out w3 hb13
  obtain ⟨d0,d1⟩:w3.cell? ⟨g,0,none⟩=some (.bool c0)∧w3.cell? ⟨g,1,none⟩=some (.slice A' c1.length c'):=(by simp [World.cell?,hh])
  have HQ:=Lib.hid q
  have HB3:=Lib.hid (HB1.out.trans (hb13.mono HB1.out.size))
  have HO:=Lib.hid (hO.mono (B':=w.heap.size) (Nat.le_trans HB1.out.size HB2.out.size))
  clear hb3 hg hh hO hb13 q
  simp only [List.setIfInBounds_toArray,List.set_cons_succ,List.set_cons_zero]
  go_wp2
  refine bodyPost_ret (results_ctt rfl _ _ (w.heap.size+1) _ _ (0,0) _ rfl (sys_set HQ.out) Tryz.underlying33 rfl (by kernel_rfl)) rfl ?_
  exact ⟨A',c',rfl,(HB3.out.setCell (p:=⟨w.heap.size+1,0,none⟩) (show w.heap.size≤w.heap.size+1 by omega) _).setCell (p:=⟨w.heap.size+1,1,none⟩) (show w.heap.size≤w.heap.size+1 by omega) _,own_set (own_set HO.out HQ.out (by decide) _) (heap_setCell_obj HQ.out) (by decide) _⟩
theorem r3FewestOwn_any (A:Outl) (AwA:Option Addr) (Awn Awc:Nat) (AtA:Option Addr) (Atn Atc:Nat) (w:World) (Aw:Rd encBound 4 w AwA Awn Awc A.ways) (At:Rd encBound 4 w AtA Atn Atc A.turns) (h0:checkOut A=0):
 Calls Tryz.prog 41 #[.agg #[.int .i64 A.n,.slice AwA Awn Awc,.slice AtA Atn Atc]] w fun e w'=>e = .returned (.tuple #[.int .i64 (circV (A.n+1) A.ways A.n A.turns).2.1.length,.bool (circV (A.n+1) A.ways A.n A.turns).1])∧Below w.heap.size w w':=by
 obtain ⟨n1,n2,s1,s2⟩:=checkOut_zero.1 h0
 obtain ⟨w1,hw1,hb1,z1,e1⟩:=alloc_facts w #[.int .i64 A.n,.slice AwA Awn Awc,.slice AtA Atn Atc] 24
 have HCE:Hid (∀ W,Below w1.heap.size w1 W→W.cell? ⟨w.heap.size,0,none⟩=some (.int .i64 A.n)∧W.cell? ⟨w.heap.size,1,none⟩=some (.slice AwA Awn Awc)∧W.cell? ⟨w.heap.size,2,none⟩=some (.slice AtA Atn Atc)):=(show ∀ W,_→_ from fun W h=>by
  have q:=(h.block w.heap.size (by omega)).trans e1
  simp [World.cell?,q])
 have RA:Hid (∀ W,Below w1.heap.size w1 W→Rd encBound 4 W AwA Awn Awc A.ways):=(show ∀ W,_→_ from fun W h=>(Aw.below hb1 (Nat.le_refl _)).below h (Nat.le_refl _))
 have RT:Hid (∀ W,Below w1.heap.size w1 W→Rd encBound 4 W AtA Atn Atc A.turns):=(show ∀ W,_→_ from fun W h=>(At.below hb1 (Nat.le_refl _)).below h (Nat.le_refl _))
 have C1:Hid (∀ W,Calls Tryz.prog 92 #[.agg #[.int .i64 A.n,.slice AwA Awn Awc,.slice AtA Atn Atc]] W fun e w'=>e = .returned (.agg #[.int .i64 (A.n+1),.slice AwA Awn Awc])∧Below W.heap.size W w'):=(show ∀ W,_ from fun W=>r3ways_any A.n AwA Awn Awc AtA Atn Atc W (by omega) (by omega))
 have C2:Hid (∀ W,Calls Tryz.prog 93 #[.agg #[.int .i64 A.n,.slice AwA Awn Awc,.slice AtA Atn Atc]] W fun e w'=>e = .returned (.agg #[.int .i64 A.n,.slice AtA Atn Atc])∧Below W.heap.size W w'):=(show ∀ W,_ from fun W=>r3turns_any A.n AwA Awn Awc AtA Atn Atc W)
 have KS0:=Lib.hid (fun W (h:Below w1.heap.size w1 W)=>r3solved_any (A.n+1) AwA Awn Awc A.ways W (RA.out W h) s1)
 have KS1:=Lib.hid (fun W (h:Below w1.heap.size w1 W)=>r3solved_any A.n AtA Atn Atc A.turns W (RT.out W h) s2)
 have KF0:=Lib.hid (fun W (h:Below w1.heap.size w1 W)=>rfewest_len (A.n+1) AwA Awn Awc A.ways W (RA.out W h) s1)
 have KF1:=Lib.hid (fun W (h:Below w1.heap.size w1 W)=>rfewest_len A.n AtA Atn Atc A.turns W (RT.out W h) s2)
 have k1:=sysOk_of s1
 have k2:=sysOk_of s2
 have HB1:=Lib.hid hb1
 have HW1:=Lib.hid hw1
 obtain ⟨x0,x1,x2⟩:=HCE.out w1 (Below.refl _ _)
 clear Aw At hw1 hb1 z1 e1 h0 n1 n2 s1 s2
 cases h1:solvedOk (A.n+1) A.ways with
 | false=>
   rw [few_ways k1 h1]
   rw [h1] at KS0
   clear h1 k1 k2
   go_enter Tryz.func41,Tryz.ntmps41
   go_wp2_with (first
    | rw [HW1.out]
    | (go_at_call 99;(with_reducible refine (KF0.out _ HB4.out).mono ?_);rintro e w5 ⟨rfl,hb5⟩
       have HB5:=Lib.hid (HB4.out.trans (hb5.mono HB4.out.size))
       obtain ⟨x0,x1,x2⟩:=HCE.out w5 HB5.out
       clear hb5)
    | (go_at_call 92;(with_reducible refine (C1.out _).mono ?_);rintro e w4 ⟨rfl,hb4⟩
       have HB4:=Lib.hid (HB3.out.trans (hb4.mono HB3.out.size))
       obtain ⟨x0,x1,x2⟩:=HCE.out w4 HB4.out
       clear hb4)
    | (go_at_call 98;(with_reducible refine (KS0.out _ HB2.out).mono ?_);rintro e w3 ⟨rfl,hb3⟩
       have HB3:=Lib.hid (HB2.out.trans (hb3.mono HB2.out.size))
       obtain ⟨x0,x1,x2⟩:=HCE.out w3 HB3.out
       clear hb3)
    | (go_at_call 92;(with_reducible refine (C1.out _).mono ?_);rintro e w2 ⟨rfl,hb2⟩
       have HB2:=Lib.hid (hb2)
       obtain ⟨x0,x1,x2⟩:=HCE.out w2 HB2.out
       clear hb2))
   go_ret2
   exact ⟨rfl,HB1.out.trans (HB5.out.mono HB1.out.size)⟩
 | true=>
   cases h2:solvedOk A.n A.turns with
   | false=>
     rw [few_dirs k1 k2 h1 h2]
     rw [h1] at KS0
     rw [h2] at KS1
     clear h1 h2 k1 k2
     go_enter Tryz.func41,Tryz.ntmps41
     go_wp2_with (first
      | rw [HW1.out]
      | (go_at_call 99;(with_reducible refine (KF1.out _ HB6.out).mono ?_);rintro e w7 ⟨rfl,hb7⟩
         have HB7:=Lib.hid (HB6.out.trans (hb7.mono HB6.out.size))
         obtain ⟨x0,x1,x2⟩:=HCE.out w7 HB7.out
         clear hb7)
      | (go_at_call 93;(with_reducible refine (C2.out _).mono ?_);rintro e w6 ⟨rfl,hb6⟩
         have HB6:=Lib.hid (HB5.out.trans (hb6.mono HB5.out.size))
         obtain ⟨x0,x1,x2⟩:=HCE.out w6 HB6.out
         clear hb6)
      | (go_at_call 98;(with_reducible refine (KS1.out _ HB4.out).mono ?_);rintro e w5 ⟨rfl,hb5⟩
         have HB5:=Lib.hid (HB4.out.trans (hb5.mono HB4.out.size))
         obtain ⟨x0,x1,x2⟩:=HCE.out w5 HB5.out
         clear hb5)
      | (go_at_call 93;(with_reducible refine (C2.out _).mono ?_);rintro e w4 ⟨rfl,hb4⟩
         have HB4:=Lib.hid (HB3.out.trans (hb4.mono HB3.out.size))
         obtain ⟨x0,x1,x2⟩:=HCE.out w4 HB4.out
         clear hb4)
      | (go_at_call 98;(with_reducible refine (KS0.out _ HB2.out).mono ?_);rintro e w3 ⟨rfl,hb3⟩
         have HB3:=Lib.hid (HB2.out.trans (hb3.mono HB2.out.size))
         obtain ⟨x0,x1,x2⟩:=HCE.out w3 HB3.out
         clear hb3)
      | (go_at_call 92;(with_reducible refine (C1.out _).mono ?_);rintro e w2 ⟨rfl,hb2⟩
         have HB2:=Lib.hid (hb2)
         obtain ⟨x0,x1,x2⟩:=HCE.out w2 HB2.out
         clear hb2))
     go_ret2
     exact ⟨rfl,HB1.out.trans (HB7.out.mono HB1.out.size)⟩
   | true=>
     rw [few_none k1 k2 h1 h2]
     rw [h1] at KS0
     rw [h2] at KS1
     clear h1 h2 k1 k2
     go_enter Tryz.func41,Tryz.ntmps41
     go_wp2_with (first
      | rw [HW1.out]
      | (go_at_call 98;(with_reducible refine (KS1.out _ HB4.out).mono ?_);rintro e w5 ⟨rfl,hb5⟩
         have HB5:=Lib.hid (HB4.out.trans (hb5.mono HB4.out.size))
         obtain ⟨x0,x1,x2⟩:=HCE.out w5 HB5.out
         clear hb5)
      | (go_at_call 93;(with_reducible refine (C2.out _).mono ?_);rintro e w4 ⟨rfl,hb4⟩
         have HB4:=Lib.hid (HB3.out.trans (hb4.mono HB3.out.size))
         obtain ⟨x0,x1,x2⟩:=HCE.out w4 HB4.out
         clear hb4)
      | (go_at_call 98;(with_reducible refine (KS0.out _ HB2.out).mono ?_);rintro e w3 ⟨rfl,hb3⟩
         have HB3:=Lib.hid (HB2.out.trans (hb3.mono HB2.out.size))
         obtain ⟨x0,x1,x2⟩:=HCE.out w3 HB3.out
         clear hb3)
      | (go_at_call 92;(with_reducible refine (C1.out _).mono ?_);rintro e w2 ⟨rfl,hb2⟩
         have HB2:=Lib.hid (hb2)
         obtain ⟨x0,x1,x2⟩:=HCE.out w2 HB2.out
         clear hb2))
     go_ret2
     exact ⟨rfl,HB1.out.trans (HB5.out.mono HB1.out.size)⟩
theorem flawL_ok {A:Outl} (h0:checkOut A=0) (hm:(circV (A.n+1) A.ways A.n A.turns).2.2=true):ownFlawB A (circV (A.n+1) A.ways A.n A.turns).1 (circV (A.n+1) A.ways A.n A.turns).2.1=true:=by
 unfold ownFlawB flawL
 rw [flaw_yes h0 hm,decide_eq_true h0]
 rfl
theorem edgeFlaws_of (A:Outl) (AwA:Option Addr) (Awn Awc:Nat) (AtA:Option Addr) (Atn Atc:Nat) (B:Outl) (BwA:Option Addr) (Bwn Bwc:Nat) (BtA:Option Addr) (Btn Btc:Nat) (p:Pairing) (w:World) (Aw:InL encBound 4 w AwA Awn Awc A.ways) (At:InL encBound 4 w AtA Atn Atc A.turns) (Bw:InL encBound 4 w BwA Bwn Bwc B.ways) (Bt:InL encBound 4 w BtA Btn Btc B.turns):
 Calls Tryz.prog 9 #[.agg #[.int .i64 A.n,.slice AwA Awn Awc,.slice AtA Atn Atc],.agg #[.int .i64 B.n,.slice BwA Bwn Bwc,.slice BtA Btn Btc],.agg #[.int .i64 p.a.lo,.int .i64 p.a.hi,.int .i64 p.b.lo,.int .i64 p.b.hi]] w fun e w'=>e = .returned (.bool true)∧Below w.heap.size w w':=by
 obtain ⟨w1,hw1,hb1,hz1,hbx⟩:=boxABP w A AwA Awn Awc AtA Atn Atc B BwA Bwn Bwc BtA Btn Btc p
 obtain ⟨w2,a2,b2,z2,e2⟩:=alloc_facts w1 #[.int .i64 A.n,.slice AwA Awn Awc,.slice AtA Atn Atc,.int .i64 B.n,.slice BwA Bwn Bwc,.slice BtA Btn Btc] 24
 rw [hz1] at e2
 have HB1:=Lib.hid hb1
 have HW1:=Lib.hid hw1
 have HW2:=Lib.hid a2
 have KS:=Lib.hid (small_any (w.heap.size+1+1+1) (.int .i64 A.n) (.int .i64 B.n) AwA AtA BwA BtA Awn Awc Atn Atc Bwn Bwc Btn Btc w2 e2)
 have HCE:Hid (∀ W,Below w1.heap.size w1 W→BoxABP w.heap.size A AwA Awn Awc AtA Atn Atc B BwA Bwn Bwc BtA Btn Btc p W):=(show ∀ W,_→_ from hbx)
 obtain ⟨xa0,xa1,xa2,xb0,xb1,xb2,xp0,xp1,xp2,xp3⟩:=hbx w1 (Below.refl _ _)
 have HB2':=Lib.hid b2
 by_cases hsm:smallN Awn Atn Bwn Btn=true
 case neg=>
  have hsf:smallN Awn Atn Bwn Btn=false:=by simpa using hsm
  rw [hsf] at KS
  clear Aw At Bw Bt hsm hsf hb1 a2 b2 z2 e2 hbx HCE hw1
  go_enter Tryz.func9,Tryz.ntmps9
  go_wp2_with (first
   | rw [HW1.out]
   | rw [HW2.out]
   | (go_at_call 25;(with_reducible refine KS.out.mono ?_);rintro e w3 ⟨rfl,hb3⟩
      have HC3:=Lib.hid (HB2'.out.trans (hb3.mono HB2'.out.size))
      clear hb3)
   | (go_at_call 17;(with_reducible refine (joined_any _).mono ?_);rintro e w4 ⟨rfl,hb4⟩
      have HJ:=Lib.hid (HB1.out.trans ((HC3.out.trans (hb4.mono HC3.out.size)).mono HB1.out.size))
      clear hb4))
  go_ret
  exact ⟨rfl,HJ.out⟩
 case pos=>
  obtain ⟨s1,s2,s3,s4⟩:=smallN_iff.1 hsm
  rw [hsm] at KS
  have ra:=Aw.2 (by omega);have rt:=At.2 (by omega);have rb:=Bw.2 (by omega);have ru:=Bt.2 (by omega)
  have RD:Hid (∀ W,Below w1.heap.size w1 W→Rd encBound 4 W AwA Awn Awc A.ways∧Rd encBound 4 W AtA Atn Atc A.turns∧Rd encBound 4 W BwA Bwn Bwc B.ways∧Rd encBound 4 W BtA Btn Btc B.turns):=(show ∀ W,_→_ from fun W h=>⟨(ra.below hb1 (Nat.le_refl _)).below h (Nat.le_refl _),(rt.below hb1 (Nat.le_refl _)).below h (Nat.le_refl _),(rb.below hb1 (Nat.le_refl _)).below h (Nat.le_refl _),(ru.below hb1 (Nat.le_refl _)).below h (Nat.le_refl _)⟩)
  have KF:Hid (∀ W,Below w1.heap.size w1 W→Calls Tryz.prog 40 #[.agg #[.int .i64 A.n,.slice AwA Awn Awc,.slice AtA Atn Atc]] W fun e w'=> ∃ A' c',e = .returned (.tuple #[.agg #[.bool (flawV A).1,.slice A' (flawV A).2.1.length c'],.bool (flawV A).2.2,.int .i64 (checkOut A)])∧Below W.heap.size W w'∧Own encInt 1 3 W.heap.size w' A' (flawV A).2.1.length c' (flawV A).2.1):=(show ∀ W,_→_ from fun W hW=>Flaw_any A AwA Awn Awc AtA Atn Atc W (RD.out W hW).1 (RD.out W hW).2.1)
  have KO:Hid (∀ W,Below w1.heap.size w1 W→Calls Tryz.prog 36 #[.agg #[.int .i64 A.n,.slice AwA Awn Awc,.slice AtA Atn Atc]] W fun e w'=>e = .returned (.int .i64 (checkOut A))∧Below W.heap.size W w'):=(show ∀ W,_→_ from fun W hW=>r3CheckOutline_any A AwA Awn Awc AtA Atn Atc W (RD.out W hW).1 (RD.out W hW).2.1)
  clear Aw At Bw Bt hsm hb1 a2 b2 z2 e2 hbx ra rt rb ru hw1
  by_cases h0:checkOut A=0
  case neg=>
   have hv:flawV A=(false,[],false):=if_neg h0
   have hn0:(checkOut A != 0)=true:=by simpa using h0
   have hee:(checkOut A==checkOut A)=true:=(by simp)
   rw [hv] at KF
   simp only [List.length_nil] at KF
   clear RD hv h0
   generalize checkOut A=er at *
   go_enter Tryz.func9,Tryz.ntmps9
   go_wp2_with (first
    | rw [HW1.out]
    | rw [HW2.out]
    | (go_at_call 25;(with_reducible refine KS.out.mono ?_);rintro e w3 ⟨rfl,hb3⟩
       have HC3:=Lib.hid (HB2'.out.trans (hb3.mono HB2'.out.size))
       obtain ⟨ca03,ca13,ca23,cb03,cb13,cb23,cp03,cp13,cp23,cp33⟩:=HCE.out w3 HC3.out
       clear hb3)
    | (go_at_call 40;(with_reducible refine (KF.out _ HC3.out).mono ?_);rintro e w4 ⟨ZL,ql,rfl,hb4,ho⟩
       obtain ⟨w5,a5,b5,z5,e5⟩:=alloc_facts w4 #[.bool false,.slice ZL 0 ql] 33
       have HC4:=Lib.hid (HC3.out.trans (hb4.mono HC3.out.size))
       have HC5:=Lib.hid (HC4.out.trans (b5.mono HC4.out.size))
       have HA5:=Lib.hid a5
       have HE5:=Lib.hid e5
       have z5':w5.heap.size=w4.heap.size+1:=z5
       have Z5:=Lib.hid z5'
       obtain ⟨s05,s15⟩:w5.cell? ⟨w4.heap.size,0,none⟩=some (.bool false)∧w5.cell? ⟨w4.heap.size,1,none⟩=some (.slice ZL 0 ql):=(by simp [World.cell?,e5])
       obtain ⟨ca05,ca15,ca25,cb05,cb15,cb25,cp05,cp15,cp25,cp35⟩:=HCE.out w5 HC5.out
       clear hb4 a5 b5 z5 e5 ho)
    | rw [HA5.out]
    | (go_at_call 36;(with_reducible refine (KO.out _ HC5.out).mono ?_);rintro e w6 ⟨rfl,hb6⟩
       have HC6:=Lib.hid (HC5.out.trans (hb6.mono HC5.out.size))
       obtain ⟨ca06,ca16,ca26,cb06,cb16,cb26,cp06,cp16,cp26,cp36⟩:=HCE.out w6 HC6.out
       have HG6:=Lib.hid (hb6)
       obtain ⟨s06,s16⟩:w6.cell? ⟨w4.heap.size,0,none⟩=some (.bool false)∧w6.cell? ⟨w4.heap.size,1,none⟩=some (.slice ZL 0 ql):=(by
        have hw:=Z5.out
        have y2:=(HG6.out.block w4.heap.size (by omega)).trans HE5.out
        simp [World.cell?,y2])
       clear hb6)
    | (go_at_call 17;(with_reducible refine (joined_any _).mono ?_);rintro e w7 ⟨rfl,hb7⟩
       have HJ:=Lib.hid (HB1.out.trans ((HC6.out.trans (hb7.mono HC6.out.size)).mono HB1.out.size))
       have HG7:=Lib.hid (HG6.out.trans (hb7.mono HG6.out.size))
       obtain ⟨s07,s17⟩:w7.cell? ⟨w4.heap.size,0,none⟩=some (.bool false)∧w7.cell? ⟨w4.heap.size,1,none⟩=some (.slice ZL 0 ql):=(by
        have hw:=Z5.out
        have y2:=(HG7.out.block w4.heap.size (by omega)).trans HE5.out
        simp [World.cell?,y2])
       clear hb7))
   go_ret
   exact ⟨rfl,HJ.out⟩
  case pos=>
   have hv:flawV A=circV (A.n+1) A.ways A.n A.turns:=if_pos h0
   rw [hv,h0] at KF
   rw [h0] at KO
   have hlen:=flaw_len h0
   have KN:Hid (∀ W,Below w1.heap.size w1 W→Calls Tryz.prog 41 #[.agg #[.int .i64 A.n,.slice AwA Awn Awc,.slice AtA Atn Atc]] W fun e w'=>e = .returned (.tuple #[.int .i64 (circV (A.n+1) A.ways A.n A.turns).2.1.length,.bool (circV (A.n+1) A.ways A.n A.turns).1])∧Below W.heap.size W w'):=(show ∀ W,_→_ from fun W hW=>r3FewestOwn_any A AwA Awn Awc AtA Atn Atc W (RD.out W hW).1 (RD.out W hW).2.1 h0)
   cases hm:(circV (A.n+1) A.ways A.n A.turns).2.2 with
   | false=>
     have hnil:(circV (A.n+1) A.ways A.n A.turns).2.1 = []:=by
      have:=circV_is (A.n+1) A.ways A.n A.turns
      rw [hm] at this
      have:=of_decide_eq_false this.symm
      exact List.eq_nil_of_length_eq_zero (by omega)
     rw [hm,hnil] at KF
     rw [hnil] at KN
     simp only [List.length_nil] at KF KN
     clear RD hv h0 hm hnil hlen
     generalize (circV (A.n+1) A.ways A.n A.turns).1=c0 at *
     have t2:(c0 != c0)=false:=(by simp)
     go_enter Tryz.func9,Tryz.ntmps9
     go_wp2_with (first
      | rw [HW1.out]
      | rw [HW2.out]
      | (go_at_call 25;(with_reducible refine KS.out.mono ?_);rintro e w3 ⟨rfl,hb3⟩
         have HC3:=Lib.hid (HB2'.out.trans (hb3.mono HB2'.out.size))
         obtain ⟨ca03,ca13,ca23,cb03,cb13,cb23,cp03,cp13,cp23,cp33⟩:=HCE.out w3 HC3.out
         clear hb3)
      | (go_at_call 40;(with_reducible refine (KF.out _ HC3.out).mono ?_);rintro e w4 ⟨ZL,ql,rfl,hb4,ho⟩
         obtain ⟨w5,a5,b5,z5,e5⟩:=alloc_facts w4 #[.bool c0,.slice ZL 0 ql] 33
         have HC4:=Lib.hid (HC3.out.trans (hb4.mono HC3.out.size))
         have HC5:=Lib.hid (HC4.out.trans (b5.mono HC4.out.size))
         have HA5:=Lib.hid a5
         have HE5:=Lib.hid e5
         have z5':w5.heap.size=w4.heap.size+1:=z5
         have Z5:=Lib.hid z5'
         obtain ⟨s05,s15⟩:w5.cell? ⟨w4.heap.size,0,none⟩=some (.bool c0)∧w5.cell? ⟨w4.heap.size,1,none⟩=some (.slice ZL 0 ql):=(by simp [World.cell?,e5])
         obtain ⟨ca05,ca15,ca25,cb05,cb15,cb25,cp05,cp15,cp25,cp35⟩:=HCE.out w5 HC5.out
         clear hb4 a5 b5 z5 e5 ho)
      | rw [HA5.out]
      | (go_at_call 36;(with_reducible refine (KO.out _ HC5.out).mono ?_);rintro e w6 ⟨rfl,hb6⟩
         have HC6:=Lib.hid (HC5.out.trans (hb6.mono HC5.out.size))
         obtain ⟨ca06,ca16,ca26,cb06,cb16,cb26,cp06,cp16,cp26,cp36⟩:=HCE.out w6 HC6.out
         have HG6:=Lib.hid (hb6)
         obtain ⟨s06,s16⟩:w6.cell? ⟨w4.heap.size,0,none⟩=some (.bool c0)∧w6.cell? ⟨w4.heap.size,1,none⟩=some (.slice ZL 0 ql):=(by
          have hw:=Z5.out
          have y2:=(HG6.out.block w4.heap.size (by omega)).trans HE5.out
          simp [World.cell?,y2])
         clear hb6)
      | (go_at_call 41;(with_reducible refine (KN.out _ HC6.out).mono ?_);rintro e w7 ⟨rfl,hb7⟩
         have HC7:=Lib.hid (HC6.out.trans (hb7.mono HC6.out.size))
         obtain ⟨ca07,ca17,ca27,cb07,cb17,cb27,cp07,cp17,cp27,cp37⟩:=HCE.out w7 HC7.out
         have HG7:=Lib.hid (HG6.out.trans (hb7.mono HG6.out.size))
         obtain ⟨s07,s17⟩:w7.cell? ⟨w4.heap.size,0,none⟩=some (.bool c0)∧w7.cell? ⟨w4.heap.size,1,none⟩=some (.slice ZL 0 ql):=(by
          have hw:=Z5.out
          have y2:=(HG7.out.block w4.heap.size (by omega)).trans HE5.out
          simp [World.cell?,y2])
         clear hb7)
      | (go_at_call 17;(with_reducible refine (joined_any _).mono ?_);rintro e w8 ⟨rfl,hb8⟩
         have HJ:=Lib.hid (HB1.out.trans ((HC7.out.trans (hb8.mono HC7.out.size)).mono HB1.out.size))
         clear hb8))
     go_ret
     exact ⟨rfl,HJ.out⟩
   | true=>
     have hpos:0<((circV (A.n+1) A.ways A.n A.turns).2.1.length:Int):=by
      have:=circV_is (A.n+1) A.ways A.n A.turns
      rw [hm] at this
      have:=of_decide_eq_true this.symm
      omega
     have KC:Hid (∀ L lc W,Below w1.heap.size w1 W→Rd encInt 1 W L (circV (A.n+1) A.ways A.n A.turns).2.1.length lc (circV (A.n+1) A.ways A.n A.turns).2.1→Calls Tryz.prog 34 #[.agg #[.int .i64 A.n,.slice AwA Awn Awc,.slice AtA Atn Atc],.agg #[.bool (circV (A.n+1) A.ways A.n A.turns).1,.slice L (circV (A.n+1) A.ways A.n A.turns).2.1.length lc]] W fun e w'=>e = .returned (.tuple #[.bool true,.int .i64 0])∧Below W.heap.size W w'):=(show ∀ L lc W,_→_→_ from fun L lc W hW hL=>by
      have:=r3CheckFlaw_any A AwA Awn Awc AtA Atn Atc (circV (A.n+1) A.ways A.n A.turns).1 L _ lc _ W (RD.out W hW).1 (RD.out W hW).2.1 hL (by omega)
      rw [flawL_ok h0 hm,h0] at this
      exact this)
     have KM:Hid (∀ W,Below w1.heap.size w1 W→Calls Tryz.prog 26 #[.agg #[.int .i64 A.n,.slice AwA Awn Awc,.slice AtA Atn Atc],.agg #[.int .i64 B.n,.slice BwA Bwn Bwc,.slice BtA Btn Btc],.agg #[.int .i64 p.a.lo,.int .i64 p.a.hi,.int .i64 p.b.lo,.int .i64 p.b.hi]] W fun e w'=>e = .returned (.tuple #[.bool false,.int .i64 (askedErr A B p)])∧Below W.heap.size W w'):=(show ∀ W,_→_ from fun W hW=>by
      have:=MeetsE_any A AwA Awn Awc AtA Atn Atc B BwA Bwn Bwc BtA Btn Btc p W (RD.out W hW).1 (RD.out W hW).2.1 (RD.out W hW).2.2.1 (RD.out W hW).2.2.2
      rw [flaw_no h0 hm] at this
      exact this)
     have KT:Hid (∀ W,Below w1.heap.size w1 W→Calls Tryz.prog 26 #[.agg #[.int .i64 B.n,.slice BwA Bwn Bwc,.slice BtA Btn Btc],.agg #[.int .i64 A.n,.slice AwA Awn Awc,.slice AtA Atn Atc],.agg #[.int .i64 p.b.lo,.int .i64 p.b.hi,.int .i64 p.a.lo,.int .i64 p.a.hi]] W fun e w'=>e = .returned (.tuple #[.bool false,.int .i64 (askedErr B A (turnP p))])∧Below W.heap.size W w'):=(show ∀ W,_→_ from fun W hW=>by
      have:=MeetsE_any B BwA Bwn Bwc BtA Btn Btc A AwA Awn Awc AtA Atn Atc (turnP p) W (RD.out W hW).2.2.1 (RD.out W hW).2.2.2 (RD.out W hW).1 (RD.out W hW).2.1
      rw [flaw_no2 h0 hm] at this
      exact this)
     rw [hm] at KF
     have HLL:=Lib.hid hlen
     clear RD hv h0 hm hlen
     generalize circV (A.n+1) A.ways A.n A.turns=cv at *
     generalize askedErr A B p=er1 at *
     generalize askedErr B A (turnP p)=er2 at *
     obtain ⟨c0,c1,c2⟩:=cv
     simp only at KF KN KC HLL hpos
     have t1:((c1.length:Int) != (c1.length:Int))=false:=(by simp)
     have t2:(c0 != c0)=false:=(by simp)
     go_enter Tryz.func9,Tryz.ntmps9
     go_wp2_with (first
      | rw [HW1.out]
      | rw [HW2.out]
      | (go_at_call 25;(with_reducible refine KS.out.mono ?_);rintro e w3 ⟨rfl,hb3⟩
         have HC3:=Lib.hid (HB2'.out.trans (hb3.mono HB2'.out.size))
         obtain ⟨ca03,ca13,ca23,cb03,cb13,cb23,cp03,cp13,cp23,cp33⟩:=HCE.out w3 HC3.out
         clear hb3)
      | (go_at_call 40;(with_reducible refine (KF.out _ HC3.out).mono ?_);rintro e w4 ⟨ZL,ql,rfl,hb4,ho⟩
         obtain ⟨w5,a5,b5,z5,e5⟩:=alloc_facts w4 #[.bool c0,.slice ZL c1.length ql] 33
         have HC4:=Lib.hid (HC3.out.trans (hb4.mono HC3.out.size))
         have HC5:=Lib.hid (HC4.out.trans (b5.mono HC4.out.size))
         have HA5:=Lib.hid a5
         have HE5:=Lib.hid e5
         have z5':w5.heap.size=w4.heap.size+1:=z5
         have Z5:=Lib.hid z5'
         have RF:Hid (∀ W,Below w5.heap.size w5 W→Rd encInt 1 W ZL c1.length ql c1):=(show ∀ W,_→_ from fun W hW=>by
          have g0:=HLL.out
          exact ((ho.below b5 (Nat.le_refl _)).below hW (Nat.le_refl _)).rd (fun _=>rfl) (by omega))
         obtain ⟨s05,s15⟩:w5.cell? ⟨w4.heap.size,0,none⟩=some (.bool c0)∧w5.cell? ⟨w4.heap.size,1,none⟩=some (.slice ZL c1.length ql):=(by simp [World.cell?,e5])
         obtain ⟨ca05,ca15,ca25,cb05,cb15,cb25,cp05,cp15,cp25,cp35⟩:=HCE.out w5 HC5.out
         clear hb4 a5 b5 z5 e5 ho)
      | rw [HA5.out]
      | (go_at_call 36;(with_reducible refine (KO.out _ HC5.out).mono ?_);rintro e w6 ⟨rfl,hb6⟩
         have HC6:=Lib.hid (HC5.out.trans (hb6.mono HC5.out.size))
         obtain ⟨ca06,ca16,ca26,cb06,cb16,cb26,cp06,cp16,cp26,cp36⟩:=HCE.out w6 HC6.out
         have HG6:=Lib.hid (hb6)
         obtain ⟨s06,s16⟩:w6.cell? ⟨w4.heap.size,0,none⟩=some (.bool c0)∧w6.cell? ⟨w4.heap.size,1,none⟩=some (.slice ZL c1.length ql):=(by
          have hw:=Z5.out
          have y2:=(HG6.out.block w4.heap.size (by omega)).trans HE5.out
          simp [World.cell?,y2])
         clear hb6)
      | (go_at_call 41;(with_reducible refine (KN.out _ HC6.out).mono ?_);rintro e w7 ⟨rfl,hb7⟩
         have HC7:=Lib.hid (HC6.out.trans (hb7.mono HC6.out.size))
         obtain ⟨ca07,ca17,ca27,cb07,cb17,cb27,cp07,cp17,cp27,cp37⟩:=HCE.out w7 HC7.out
         have HG7:=Lib.hid (HG6.out.trans (hb7.mono HG6.out.size))
         obtain ⟨s07,s17⟩:w7.cell? ⟨w4.heap.size,0,none⟩=some (.bool c0)∧w7.cell? ⟨w4.heap.size,1,none⟩=some (.slice ZL c1.length ql):=(by
          have hw:=Z5.out
          have y2:=(HG7.out.block w4.heap.size (by omega)).trans HE5.out
          simp [World.cell?,y2])
         clear hb7)
      | (go_at_call 34;(with_reducible refine (KC.out ZL ql _ HC7.out (RF.out _ HG7.out)).mono ?_);rintro e w8 ⟨rfl,hb8⟩
         have HC8:=Lib.hid (HC7.out.trans (hb8.mono HC7.out.size))
         obtain ⟨ca08,ca18,ca28,cb08,cb18,cb28,cp08,cp18,cp28,cp38⟩:=HCE.out w8 HC8.out
         clear hb8)
      | (go_at_call 26;(with_reducible refine (KT.out _ HC9.out).mono ?_);rintro e w10 ⟨rfl,hb10⟩
         have HC10:=Lib.hid (HC9.out.trans (hb10.mono HC9.out.size))
         obtain ⟨ca010,ca110,ca210,cb010,cb110,cb210,cp010,cp110,cp210,cp310⟩:=HCE.out w10 HC10.out
         clear hb10)
      | (go_at_call 26;(with_reducible refine (KM.out _ HC8.out).mono ?_);rintro e w9 ⟨rfl,hb9⟩
         have HC9:=Lib.hid (HC8.out.trans (hb9.mono HC8.out.size))
         obtain ⟨ca09,ca19,ca29,cb09,cb19,cb29,cp09,cp19,cp29,cp39⟩:=HCE.out w9 HC9.out
         clear hb9)
      | (go_at_call 17;(with_reducible refine (joined_any _).mono ?_);rintro e w11 ⟨rfl,hb11⟩
         have HJ:=Lib.hid (HB1.out.trans ((HC10.out.trans (hb11.mono HC10.out.size)).mono HB1.out.size))
         clear hb11))
     go_ret
     exact ⟨rfl,HJ.out⟩
end Go.Proofs.YtccabpahfmoamaaGreat
end

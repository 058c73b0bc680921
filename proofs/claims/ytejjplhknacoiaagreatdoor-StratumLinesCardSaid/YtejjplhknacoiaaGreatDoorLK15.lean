/- Contracts that the laws lean on: Coll, YearA, YearB. -/
import Derived.Test.YtejjplhknacoiaaGreatDoorLK14
import Derived.Carry
import Derived.Test.YtejjplhknacoiaaGreatDoorLK09
set_option maxRecDepth 100000
set_option maxHeartbeats 4000000
section
namespace Go.Proofs.YtejjplhknacoiaaGreatDoor
open Go.RowKit Go.Proofs Go.Shelf
theorem nt_touch {α:Type} {enc:α→List Value} {kk:Nat} {st et:TypeId} {r:Loop} {w0:World} {Bs l D:Nat} {ss:List α} {W W':World} (h:ApAt enc kk st et r w0 Bs l D ss W) (hb:Below W.heap.size W W') (k:Nat) (hk:W.heap.size≤k∨¬Touch st W Bs l k):¬Touch st W' Bs l k:=by
 obtain ⟨A,c,hv,hrow⟩:=h.box
 have hBs:Bs<W.heap.size:=(Array.getElem?_eq_some_iff.1 hv).1
 have hl:l<W.heap.size:=(Array.getElem?_eq_some_iff.1 h.L).1
 have hv':W'.heap[Bs]? = some (.cells #[.slice A ss.length c] st (0,0)):=(hb.block Bs hBs).trans hv
 rintro (e|e|⟨A2,n2,c2,h2,e⟩)
 · rcases hk with hk|hk
   · omega
   · exact hk (.inl e)
 · rcases hk with hk|hk
   · omega
   · exact hk (.inr (.inl e))
 · rw [hv'] at h2
   simp at h2
   obtain ⟨rfl,_,_⟩:=h2
   rcases hk with hk|hk
   · rcases hrow.block with rfl|⟨g,cur,rfl,hg,_⟩
     · simp [blockOf] at e
     · have:g=k:=by simpa [blockOf] using e
       have:=(Array.getElem?_eq_some_iff.1 hg).1
       omega
   · exact hk (.inr (.inr ⟨A,_,_,hv,e⟩))
theorem appendLinks (n Bo Bm Bv o:Nat) (At:Option Addr) (tn ct:Nat) (bA:Option Addr) (bn bc:Nat) (M:Option Addr) (mn mc:Nat) (ts:List Trace) (bs:List Bond) (mv:List Place) (w:World) (henv:LkEnv Bo Bm Bv o At tn ct bA bn bc M mn mc ts bs mv w)
 (hts:∀ x∈ts,okLT x) (htn:tn≤200) (hbn:bn≤200) (_:1≤n):
 CallsIn Fence.wide n Tryz.prog 110 #[.slice none 0 0,.func (.func 114) #[] #[.pointer (some ⟨Bo,0,none⟩),.pointer (some ⟨Bm,0,none⟩),.pointer (some ⟨Bv,0,none⟩)]] w fun e w'=> ∃ A c ss,e = .returned (.slice A ss.length c)∧ss=linksL ts bs mv∧Own encLink 6 138 w.heap.size w' A ss.length c ss∧Below w.heap.size w w':=by
 refine callsIn_of_wp_marks Tryz.func110 rfl trivial ?_ rfl
 simp only [Tryz.ntmps110,List.size_toArray,List.length_cons,List.length_nil,Nat.reduceAdd,Nat.reduceSub,Array.replicate_succ,Array.replicate_zero,List.push_toArray,List.append_toArray,List.nil_append,List.cons_append]
 gi_wp2
 refine wpIn_rangeFunc ?_
 intro fn hfn
 obtain ⟨asg,hasg⟩:∃ asg,asg=asgOf Tryz.f110.body:=⟨_,rfl⟩
 obtain ⟨bod,hbod⟩:∃ bod,bod=bodOf Tryz.f110.body:=⟨_,rfl⟩
 obtain ⟨W0,hW0⟩:∃ W0,w.alloc (.cells #[.slice none 0 0] 48)=W0:=⟨_,rfl⟩
 have hs0:W0.heap.size=w.heap.size+1:=by rw [←hW0];simp
 have hv0:W0.heap[w.heap.size]? = some (.cells #[.slice none 0 0] 48 (0,0)):=by rw [←hW0];exact World.alloc_heap_new w _
 have hb0:Below w.heap.size w W0:=by rw [←hW0];exact (Below.refl _ w).alloc (Nat.le_refl _) _
 rw [hW0]
 obtain ⟨W1,hW1⟩:∃ W1,(W0.alloc (.deferred (some []))).alloc (.loop (recAp asg bod fn (.func (.func 114) #[] #[.pointer (some ⟨Bo,0,none⟩),.pointer (some ⟨Bm,0,none⟩),.pointer (some ⟨Bv,0,none⟩)]) w.heap.size W0.heap.size .ready none))=W1:=⟨_,rfl⟩
 have hold:∀ k,k<W0.heap.size→W1.heap[k]? = W0.heap[k]? := fun k hk=>by
  rw [←hW1];exact (Below.heap_alloc _ _ k (by simp;omega)).trans (Below.heap_alloc _ _ k hk)
 have hb1:Below w.heap.size w W1:=by rw [←hW1];exact (hb0.alloc hb0.size _).alloc (by have:=hb0.size;simp;omega) _
 have hs1:W1.heap.size=W0.heap.size+2:=by rw [←hW1];simp
 have hM:ApAt encLink 6 48 138 (recAp asg bod fn (.func (.func 114) #[] #[.pointer (some ⟨Bo,0,none⟩),.pointer (some ⟨Bm,0,none⟩),.pointer (some ⟨Bv,0,none⟩)]) w.heap.size W0.heap.size .ready none) w w.heap.size (W0.heap.size+1) W0.heap.size [] W1:=
  ⟨⟨none,0,(hold w.heap.size (by omega)).trans hv0,Own.none_ _ _ _ _ _⟩,
   by rw [←hW1];have:=World.alloc_heap_new (W0.alloc (.deferred (some []))) (.loop (recAp asg bod fn (.func (.func 114) #[] #[.pointer (some ⟨Bo,0,none⟩),.pointer (some ⟨Bm,0,none⟩),.pointer (some ⟨Bv,0,none⟩)]) w.heap.size W0.heap.size .ready none));rwa [World.size_alloc] at this,
   by rw [←hW1];exact (Below.heap_alloc _ _ _ (by simp)).trans (World.alloc_heap_new W0 _),hb1⟩
 refine ⟨W0.heap.size+1,[{ target:=.collected W0.heap.size,args:=#[] }],W1,{ target:=.fn (.func 114) #[.pointer (some ⟨Bo,0,none⟩),.pointer (some ⟨Bm,0,none⟩),.pointer (some ⟨Bv,0,none⟩)],args:=#[.func (.yield (W0.heap.size+1)) #[] #[]] },W1,114,
  #[.func (.yield (W0.heap.size+1)) #[] #[]] ++ #[.pointer (some ⟨Bo,0,none⟩),.pointer (some ⟨Bm,0,none⟩),.pointer (some ⟨Bv,0,none⟩)],W1,?_,?_,?_,?_,fun h=>(by cases h),?_⟩
 · rw [←hW1,hasg,hbod];exact run_enterLoop_outer _ _ _ _ _
 · simp [resolve,go_sem]
 · intro f' hf';trivial
 · simp [invoke,go_sem]
 · refine (links1 (W0.heap.size+1) (n-1) Bo Bm Bv o At tn ct bA bn bc M mn mc ts bs mv w henv hts htn hbn (ApAt encLink 6 48 138 (recAp asg bod fn (.func (.func 114) #[] #[.pointer (some ⟨Bo,0,none⟩),.pointer (some ⟨Bm,0,none⟩),.pointer (some ⟨Bv,0,none⟩)]) w.heap.size W0.heap.size .ready none) w w.heap.size (W0.heap.size+1) W0.heap.size) (fun W k=> ¬Touch 48 W w.heap.size (W0.heap.size+1) k)
    ⟨fun h=>h.below,fun h hb=>ap_abides _ _ _ _ _ _ _ _ _ w.heap.size (Nat.le_refl _) _ _ _ none h ⟨hb.os,hb.tape,hb.output,hb.size,fun k hk _=>hb.block k hk⟩ (fun r e=>by cases e),fun h hb k _ hk=>nt_touch h hb k hk⟩
    (fun pre x W hJ hl=>by
      obtain ⟨f1,t1,a1,b1,y1,r1⟩:=apYieldLink asg bod hasg hbod (n-1-1) w fn (.func (.func 114) #[] #[.pointer (some ⟨Bo,0,none⟩),.pointer (some ⟨Bm,0,none⟩),.pointer (some ⟨Bv,0,none⟩)]) w.heap.size (W0.heap.size+1) W0.heap.size (by omega) (by omega) (by omega) (Nat.le_refl _) (by omega) 1000 (by omega) pre x W hJ hl
      exact ⟨f1,t1,a1,b1,y1,r1.mono fun _ _ h=>⟨h.1,h.2.1,h.2.2.2.2⟩⟩) W1 hM).mono ?_
   rintro e W2 ⟨⟨v0,rfl⟩,h2⟩
   obtain ⟨ss,hS⟩:∃ ss,ss=linksL ts bs mv:=⟨_,rfl⟩
   rw [←hS] at h2
   replace hS:=Lib.hid hS
   obtain ⟨A,c,hv,hrow⟩:=h2.box
   have hend:=run_endLoop (P:=Tryz.prog) h2.L (by simp [recAp])
   obtain ⟨W3,hW3⟩:∃ W3,W2.putObj (W0.heap.size+1) (.loop { recAp asg bod fn (.func (.func 114) #[] #[.pointer (some ⟨Bo,0,none⟩),.pointer (some ⟨Bm,0,none⟩),.pointer (some ⟨Bv,0,none⟩)]) w.heap.size W0.heap.size .ready none with state:=.exhausted })=W3:=⟨_,rfl⟩
   rw [hW3] at hend
   have hg3:W2.grownBy W3 (some (W0.heap.size+1)):=by rw [←hW3];exact grownBy_putObj' _ _ _
   have hv3:W3.heap[w.heap.size]? = some (.cells #[.slice A ss.length c] 48 (0,0)):=by rw [←hW3];exact (World.putObj_heap_other (by omega)).trans hv
   have hK3:W3.heap[W0.heap.size]? = some (.deferred (some [])):=by rw [←hW3];exact (World.putObj_heap_other (by omega)).trans h2.K
   have hrow3:=hrow.kept hg3 (hrow.ne h2.L (fun cur e=>by cases e))
   have hb3:Below w.heap.size w W3:=h2.below.grown hg3 h2.below.size (fun k e=>by cases e;omega)
   obtain ⟨hc3,hf3⟩:=cell_of_box' hv3
   clear hW3 hasg hbod
   refine ⟨none,W3,hend,?_⟩
   gi_wp2
   rw [←hs0]
   refine ⟨by simp,.inl ⟨_,_,rfl,run_takeDeferred hK3,?_⟩⟩
   exact ⟨_,results_tmp rfl _ _ _,A,c,ss,rfl,hS.out,hrow3.kept (grownBy_putObj' _ _ _) (hrow3.ne hK3 (fun cur e=>by cases e)),hb3.grown (grownBy_putObj' _ _ _) hb3.size (fun k e=>by cases e;omega)⟩
theorem collectLinks (Bo Bm Bv o:Nat) (At:Option Addr) (tn ct:Nat) (bA:Option Addr) (bn bc:Nat) (M:Option Addr) (mn mc:Nat) (ts:List Trace) (bs:List Bond) (mv:List Place) (w:World) (henv:LkEnv Bo Bm Bv o At tn ct bA bn bc M mn mc ts bs mv w)
 (hts:∀ x∈ts,okLT x) (htn:tn≤200) (hbn:bn≤200):
 Calls Tryz.prog 70 #[.func (.func 114) #[] #[.pointer (some ⟨Bo,0,none⟩),.pointer (some ⟨Bm,0,none⟩),.pointer (some ⟨Bv,0,none⟩)]] w fun e w'=> ∃ A c,e = .returned (.slice A (linksL ts bs mv).length c)∧Own encLink 6 138 w.heap.size w' A (linksL ts bs mv).length c (linksL ts bs mv)∧Below w.heap.size w w':=by
 have hap:=callsIn_wide.1 (appendLinks 6 Bo Bm Bv o At tn ct bA bn bc M mn mc ts bs mv w henv hts htn hbn (by omega))
 clear henv
 go_enter Tryz.func70,Tryz.ntmps70
 go_wp2_with (go_at_call 110;refine hap.mono ?_;rintro e w' ⟨A,c,ss,rfl,hS,hO,hb⟩)
 subst hS
 go_ret
 exact ⟨A,c,rfl,hO,hb⟩
def intE (n:Int):Value:=.int .i64 n
def z00:Place:=⟨0,0⟩
def yearV (o:Nat) (M:Option Addr) (mn mc Bo Bm Bv:Nat) (A:Option Addr) (n c mb yb:Nat):Nat→Value
 | 0=> .pointer (some ⟨o,0,none⟩)
 | 1=> .slice M mn mc
 | 2=> .func (.func 114) #[] #[.pointer (some ⟨Bo,0,none⟩),.pointer (some ⟨Bm,0,none⟩),.pointer (some ⟨Bv,0,none⟩)]
 | 3=> .slice A n c
 | 4=> .map (some mb)
 | 5=>keyV z00
 | 7=> .map (some mb)
 | 8=> .agg #[.int .i64 0,.slice none 0 0,.slice A n c,.map (some mb)]
 | 9=> .pointer (some ⟨yb,0,none⟩)
 | _=>undef
structure YearAt (W:World) (yb:Nat) (v0 v1 v2 v3:Value):Prop where
 at_:W.heap[yb]? = some (.cells #[v0,v1,v2,v3] 87 (0,0))
theorem YearAt.cell {W:World} {yb:Nat} {v0 v1 v2 v3:Value} (h:YearAt W yb v0 v1 v2 v3):
 W.cell? ⟨yb,0,none⟩=some v0∧W.cell? ⟨yb,1,none⟩=some v1∧W.cell? ⟨yb,2,none⟩=some v2∧W.cell? ⟨yb,3,none⟩=some v3∧(∀ j,W.frozen? ⟨yb,j,none⟩=false):=by
 have h1:=h.at_
 refine ⟨?_,?_,?_,?_,fun j=> ?_⟩<;>simp [World.cell?,World.frozen?,h1]
theorem LinksAt.below {W W':World} {Bo Bm Bv o:Nat} {M:Option Addr} {mn mc:Nat} (h:LinksAt W Bo Bm Bv o M mn mc) (hb:∀ k,k<W.heap.size→(∀ es cl,W.heap[k]? ≠ some (.map es cl))→W'.heap[k]? = W.heap[k]?):LinksAt W' Bo Bm Bv o M mn mc:=by
 have key:∀ k cs t f,W.heap[k]? = some (Obj.cells cs t f)→W'.heap[k]? = some (Obj.cells cs t f):=fun k cs t f hk=>(hb k (Array.getElem?_eq_some_iff.1 hk).1 (fun es cl e=>by rw [hk] at e;cases e)).trans hk
 exact ⟨key _ _ _ _ h.ord,key _ _ _ _ h.mov,key _ _ _ _ h.made⟩
structure YI (W:World) (B o:Nat) (M:Option Addr) (mn mc:Nat) (L:List Link) (p2 p3 p4 p6 p9:Bool) (Bo Bm Bv:Nat) (A:Option Addr) (c mb yb:Nat):Prop where
 two:p2=true→LinksAt W Bo Bm Bv o M mn mc
 three:p3=true→Own encLink 6 138 B W A L.length c L
 four:p4=true→MapP intE W mb (if p6 then [(z00,0)] else [])∧B≤mb
 nine:p9=true→YearAt W yb (.int .i64 0) (.slice none 0 0) (.slice none 0 0) (.map none)∧B≤yb
theorem YI.grow {W W':World} {B o:Nat} {M:Option Addr} {mn mc:Nat} {L:List Link} {p2 p3 p4 p6 p9:Bool} {Bo Bm Bv:Nat} {A:Option Addr} {c mb yb:Nat} (h:YI W B o M mn mc L p2 p3 p4 p6 p9 Bo Bm Bv A c mb yb) (hb:Below W.heap.size W W'):
 YI W' B o M mn mc L p2 p3 p4 p6 p9 Bo Bm Bv A c mb yb:=
 ⟨fun p=>(h.two p).below (fun k hk _=>hb.block k hk),fun p=>(h.three p).below hb (Nat.le_refl _),fun p=>⟨(h.four p).1.below hb (h.four p).1.lt,(h.four p).2⟩,
  fun p=>⟨⟨(hb.block yb (Array.getElem?_eq_some_iff.1 (h.nine p).1.at_).1).trans (h.nine p).1.at_⟩,(h.nine p).2⟩⟩
theorem YI.insert {W W':World} {B o:Nat} {M:Option Addr} {mn mc:Nat} {L:List Link} {p2 p3 p9:Bool} {Bo Bm Bv:Nat} {A:Option Addr} {c mb yb:Nat} (h:YI W B o M mn mc L p2 p3 true false p9 Bo Bm Bv A c mb yb) (hg:W.grownBy W' (some mb)) (hm:MapP intE W' mb [(z00,0)]):
 YI W' B o M mn mc L p2 p3 true true p9 Bo Bm Bv A c mb yb:=by
 obtain ⟨es,cl,hmb,_⟩:=(h.four rfl).1.at_
 have hne:∀ k cs t f,W.heap[k]? = some (Obj.cells cs t f)→some k≠some mb:=fun k cs t f hk e=>by
  rw [Option.some.inj e,hmb] at hk;cases hk
 refine ⟨fun p=>(h.two p).below (fun k hk hno=>hg.block k hk (fun e=>hno es cl (by rw [Option.some.inj e];exact hmb))),fun p=> ?_,fun _=>⟨by simpa using hm,(h.four rfl).2⟩,fun p=>⟨⟨?_⟩,(h.nine p).2⟩⟩
 · exact (h.three p).kept hg ((h.three p).ne hmb (fun cur e=>by cases e))
 · have:=(h.nine p).1.at_
   exact (hg.block yb (Array.getElem?_eq_some_iff.1 this).1 (hne _ _ _ _ this)).trans this
structure YF (W:World) (B:Nat) (L:List Link) (A:Option Addr) (c mb yb:Nat):Prop where
 own:Own encLink 6 138 B W A L.length c L
 map:MapP intE W mb [(z00,0)]
 at_:YearAt W yb (.int .i64 0) (.slice none 0 0) (.slice A L.length c) (.map (some mb))
 mb_:B≤mb
 yb_:B≤yb
structure YL (w0 W:World) (yb:Nat) (L:List Link) (Al:Option Addr) (cl mb:Nat) (m:List (Place×Int)) (v0:Int) (Ab:Option Addr) (cb:Nat) (bds:List Bound):Prop where
 own:Own encLink 6 138 w0.heap.size W Al L.length cl L
 ownB:Own encBound 4 148 w0.heap.size W Ab bds.length cb bds
 map:MapP intE W mb m
 at_:YearAt W yb (.int .i64 v0) (.slice Ab bds.length cb) (.slice Al L.length cl) (.map (some mb))
 res:YearAt W w0.heap.size (.int .i64 0) (.slice none 0 0) (.slice none 0 0) (.map none)
 bel:Below w0.heap.size w0 W
 mbB:w0.heap.size<mb
 ybB:w0.heap.size<yb
section
variable {w0 W W':World} {yb:Nat} {L:List Link} {Al:Option Addr} {cl mb:Nat} {m:List (Place×Int)} {v0:Int} {Ab:Option Addr} {cb:Nat} {bds:List Bound}
theorem YearAt.lt {v0 v1 v2 v3:Value} (h:YearAt W yb v0 v1 v2 v3):yb<W.heap.size:=(Array.getElem?_eq_some_iff.1 h.at_).1
theorem YearAt.kept {v0 v1 v2 v3:Value} (h:YearAt W yb v0 v1 v2 v3) {row:Option Nat} (hg:W.grownBy W' row) (hne:some yb≠row):YearAt W' yb v0 v1 v2 v3:=⟨(hg.block _ h.lt hne).trans h.at_⟩
theorem YearAt.not_map {v0 v1 v2 v3:Value} (h:YearAt W yb v0 v1 v2 v3) {V:Type} {E:V→Value} {m:List (Place×V)} {b:Nat} (hm:MapP E W b m):yb≠b:=fun e=>by
 obtain ⟨es,cl,hb,_⟩:=hm.at_
 rw [←e,h.at_] at hb
 cases hb
theorem YL.hB (h:YL w0 W yb L Al cl mb m v0 Ab cb bds):w0.heap.size≤W.heap.size:=h.bel.size
theorem YL.grown (h:YL w0 W yb L Al cl mb m v0 Ab cb bds) (hb:Below W.heap.size W W'):YL w0 W' yb L Al cl mb m v0 Ab cb bds:=
 ⟨h.own.below hb (Nat.le_refl _),h.ownB.below hb (Nat.le_refl _),h.map.below hb h.map.lt,⟨(hb.block _ h.at_.lt).trans h.at_.at_⟩,⟨(hb.block _ h.res.lt).trans h.res.at_⟩,h.bel.trans (hb.mono h.hB),h.mbB,h.ybB⟩
theorem YL.drew (h:YL w0 W yb L Al cl mb m v0 Ab cb bds):YL w0 W.drew yb L Al cl mb m v0 Ab cb bds:=
 ⟨h.own.drew,h.ownB.drew,h.map.drew,⟨h.at_.at_⟩,⟨h.res.at_⟩,h.bel.drew,h.mbB,h.ybB⟩
theorem YL.put (h:YL w0 W yb L Al cl mb m v0 Ab cb bds) {m':List (Place×Int)} (hm:MapP intE W' mb m') (hg:W.grownBy W' (some mb)):YL w0 W' yb L Al cl mb m' v0 Ab cb bds:=by
 obtain ⟨es,clk,hmb,_⟩:=h.map.at_
 have n1:yb≠mb:=h.at_.not_map h.map
 have n2:w0.heap.size≠mb:=h.res.not_map h.map
 exact ⟨h.own.kept hg (h.own.ne hmb (fun cur e=>by cases e)),h.ownB.kept hg (h.ownB.ne hmb (fun cur e=>by cases e)),hm,h.at_.kept hg (fun e=>n1 (Option.some.inj e)),h.res.kept hg (fun e=>n2 (Option.some.inj e)),
  h.bel.grown hg h.hB (fun k e=>by cases e;exact Nat.le_of_lt h.mbB),h.mbB,h.ybB⟩
theorem YL.points (h:YL w0 W yb L Al cl mb m v0 Ab cb bds) (v0':Int):YL w0 (W.setCell ⟨yb,0,none⟩ (.int .i64 v0')) yb L Al cl mb m v0' Ab cb bds:=by
 have hg:=grownBy_setCell' W yb 0 (.int .i64 v0')
 have n1:yb≠mb:=h.at_.not_map h.map
 have hy:=h.ybB
 refine ⟨h.own.kept hg (h.own.ne h.at_.at_ (fun cur e=>by injection e with _ h _;cases h)),h.ownB.kept hg (h.ownB.ne h.at_.at_ (fun cur e=>by injection e with _ h _;cases h)),h.map.kept hg (fun e=>n1 (Option.some.inj e).symm),⟨?_⟩,h.res.kept hg (fun e=>by have:=Option.some.inj e;omega),
  h.bel.grown hg h.hB (fun k e=>by cases e;omega),h.mbB,h.ybB⟩
 rw [heap_setCell_obj h.at_.at_];rfl
theorem YL.push (h:YL w0 W yb L Al cl mb m v0 Ab cb bds) {Ab':Option Addr} {cb':Nat} {bds':List Bound} (hg:W.grownBy W' (blockOf Ab)) (hO:Own encBound 4 148 w0.heap.size W' Ab' bds'.length cb' bds'):
 YL w0 (W'.setCell ⟨yb,1,none⟩ (.slice Ab' bds'.length cb')) yb L Al cl mb m v0 Ab' cb' bds':=by
 have hy:=h.ybB
 have hmm:=h.map
 obtain ⟨es,clk,hmb,_⟩:=h.map.at_
 have n1:yb≠mb:=h.at_.not_map h.map
 have a1:YearAt W' yb _ _ _ _:=h.at_.kept hg (h.ownB.ne' h.at_.at_ (fun cur e=>by injection e with _ h _;cases h))
 have a2:YearAt W' w0.heap.size _ _ _ _:=h.res.kept hg (h.ownB.ne' h.res.at_ (fun cur e=>by injection e with _ h _;cases h))
 have m1:MapP intE W' mb m:=h.map.kept hg (h.ownB.ne' hmb (fun cur e=>by cases e))
 have l1:=h.own.kept hg (h.own.ne_other h.ownB (by decide))
 have b1:Below w0.heap.size w0 W':=h.bel.grown hg h.hB (fun k e=>h.ownB.ltB k e)
 have hg2:=grownBy_setCell' W' yb 1 (.slice Ab' bds'.length cb')
 refine ⟨l1.kept hg2 (l1.ne a1.at_ (fun cur e=>by injection e with _ h _;cases h)),hO.kept hg2 (hO.ne a1.at_ (fun cur e=>by injection e with _ h _;cases h)),m1.kept hg2 (fun e=>n1 (Option.some.inj e).symm),⟨?_⟩,a2.kept hg2 (fun e=>by have:=Option.some.inj e;omega),
  b1.grown hg2 (Nat.le_trans h.hB hg.size) (fun k e=>by cases e;omega),h.mbB,h.ybB⟩
 rw [heap_setCell_obj a1.at_];rfl
end
def code75:Option Code→Code
 | some (.seq _ (.seq c _))=>c
 | _=> .skip
theorem wpIn_region_inv' {P:Program} {F:Fence} {nn:Nat} {id:Nat} {l:List Oper} {Q:Exit→Act→World→Prop} {a:Act} {w:World} (m:Nat) (hm:P.follows .mixedOrders=true) (hF:∀ f,F.fn f) (hok:tabOk l.toArray m=true) (I:Array Oper→Array Bool→Act→World→Prop)
 (h0:I l.toArray (Array.replicate l.toArray.size false) a w.drew)
 (hstep:∀ listed i o b W,listed.size=l.toArray.size→i∈Region.ready .any l.toArray listed→l.toArray[i]? = some o→I l.toArray listed b W→o.wpIn F nn P b W (fun b' W'=>I l.toArray (listed.setIfInBounds i true) b' W') Q)
 (hend:∀ b W,I l.toArray (Array.replicate l.toArray.size true) b W→Q .normal b W):(Code.region id l.toArray true).wpIn F nn P Q a w:=
 wpIn_region_inv m hm hF hok (I l.toArray) h0 hstep hend
theorem years1 (c:Code) (hc:c=code75 Tryz.f38.body) (o:Nat) (At:Option Addr) (tn ct:Nat) (bA:Option Addr) (bn bc:Nat) (M:Option Addr) (mn mc:Nat) (ts:List Trace) (bs:List Bond) (mv:List Place) (w:World) (a:Act)
 (o0:w.cell? ⟨o,0,none⟩=some (.slice At tn ct)) (o1:w.cell? ⟨o,1,none⟩=some (.slice bA bn bc))
 (rt:Rd encTrace 10 w At tn ct ts) (rb:Rd encBond 5 w bA bn bc bs) (rm:Rd encPlace 2 w M mn mc mv) (hts:∀ x∈ts,okLT x) (htn:tn≤200) (hbn:bn≤200)
 (hT:a.tmps.size=73) (t0:a.tmps.getD 0 undef = .pointer (some ⟨o,0,none⟩)) (t1:a.tmps.getD 1 undef = .slice M mn mc)
 (Q:Exit→Act→World→Prop)
 (hQ:∀ Bo Bm Bv W Al cl mb yb,Below w.heap.size w W→YF W w.heap.size (linksL ts bs mv) Al cl mb yb→
   Q .normal { tmps:=((((((((((a.tmps.setIfInBounds 10 (.pointer (some ⟨o,0,none⟩))).setIfInBounds 11 (.slice M mn mc)).setIfInBounds 12 (.func (.func 114) #[] #[.pointer (some ⟨Bo,0,none⟩),.pointer (some ⟨Bm,0,none⟩),.pointer (some ⟨Bv,0,none⟩)])).setIfInBounds 13 (.slice Al (linksL ts bs mv).length cl)).setIfInBounds 14 (.map (some mb))).setIfInBounds 15 (.agg #[.int .i64 0,.int .i64 0])).setIfInBounds 16 (.map (some mb))).setIfInBounds 17 (.agg #[.int .i64 0,.slice none 0 0,.slice Al (linksL ts bs mv).length cl,.map (some mb)])).setIfInBounds 5 (.pointer (some ⟨yb,0,none⟩)))),defers:=a.defers } W):
 c.wp Tryz.prog Q a w:=by
 subst hc
 unfold code75 Tryz.f38
 dsimp only
 obtain ⟨B,hB⟩:∃ B,w.heap.size=B:=⟨_,rfl⟩
 obtain ⟨L,hL⟩:∃ L,linksL ts bs mv=L:=⟨_,rfl⟩
 rw [hB,hL] at hQ
 refine wpIn_wide.1 (wpIn_region_inv' (F:=Fence.wide) (nn:=5) 73 (by kernel_rfl) (fun _=>trivial) (by kernel_rfl)
  (fun ops listed b W=> ∃ Bo Bm Bv A c mb yb,TabAt ops (yearV o M mn mc Bo Bm Bv A L.length c mb yb) a listed b∧Below B w W∧
    (listed.getD 10 false=false→YI W B o M mn mc L (listed.getD 2 false) (listed.getD 3 false) (listed.getD 4 false) (listed.getD 6 false) (listed.getD 9 false) Bo Bm Bv A c mb yb)∧
    (listed.getD 10 false=true→YF W B L A c mb yb)) ?_ ?_ ?_)
 · refine ⟨0,0,0,none,0,0,0,TabAt.start a,(Below.refl _ w).drew,fun _=> ?_,fun h=>(by simp at h)⟩
   simp only [getD_replicate_false]
   exact ⟨fun h=>(by cases h),fun h=>(by cases h),fun h=>(by cases h),fun h=>(by cases h)⟩
 · intro listed i op b W hs hi ho hI
   obtain ⟨hun,oi,hoi,hall⟩:=mem_ready.1 hi
   have:oi=op:=Option.some.inj (hoi.symm.trans ho)
   subst this
   have hlt:i<11:=by have:=(Array.getElem?_eq_some_iff.1 ho).1;simpa using this
   obtain ⟨Bo,Bm,Bv,A,c,mb,yb,hb,hbel,hYI,hYF⟩:=hI
   have hset:∀ V,TabAt _ V a listed b→TabAt _ V a (listed.setIfInBounds i true) (b.put oi.dst (V i)):=fun V hV=>TabAt.set (m:=73) (by kernel_rfl) hT.symm hV hi ho
   have q0:b.eval (.tmp 0)=_:=(hb.old 0 (dst_no hb (by kernel_rfl))).trans t0
   have q1:b.eval (.tmp 1)=_:=(hb.old 1 (dst_no hb (by kernel_rfl))).trans t1
   have g:∀ j,i≠j→(listed.setIfInBounds i true).getD j false=listed.getD j false:=fun j hj=>getD_set_ne false hj
   have gi:(listed.setIfInBounds i true).getD i false=true:=getD_set_self hs hlt
   have hun':listed.getD i false=false:=getD_both hun
   clear hoi hi
   rcases (by omega:i=0∨i=1∨i=2∨i=3∨i=4∨i=5∨i=6∨i=7∨i=8∨i=9∨i=10) with rfl|rfl|rfl|rfl|rfl|rfl|rfl|rfl|rfl|rfl|rfl
   all_goals simp only [List.getElem?_toArray,List.getElem?_cons_zero,List.getElem?_cons_succ] at ho
   all_goals cases ho
   ·
    refine wide_val (v:=yearV o M mn mc Bo Bm Bv A L.length c mb yb 0) (by simp only [execOp,q0];rfl) ⟨Bo,Bm,Bv,A,c,mb,yb,hset _ hb,hbel,?_,?_⟩
    · simpa only [g 2 (by decide),g 3 (by decide),g 4 (by decide),g 6 (by decide),g 9 (by decide),g 10 (by decide)] using hYI
    · simpa only [g 10 (by decide)] using hYF
   ·
    refine wide_val (v:=yearV o M mn mc Bo Bm Bv A L.length c mb yb 1) (by simp only [execOp,q1];rfl) ⟨Bo,Bm,Bv,A,c,mb,yb,hset _ hb,hbel,?_,?_⟩
    · simpa only [g 2 (by decide),g 3 (by decide),g 4 (by decide),g 6 (by decide),g 9 (by decide),g 10 (by decide)] using hYI
    · simpa only [g 10 (by decide)] using hYF
   ·
    have n10:listed.getD 10 false=false:=not_listed (hb.closed 10 _ rfl) ⟨2,.phase⟩ (by simp) rfl hun'
    have e0:b.eval (.tmp 10) = .pointer (some ⟨o,0,none⟩):=hb.val 0 10 rfl (hall ⟨0,.data⟩ (by simp) rfl)
    have e1:b.eval (.tmp 11) = .slice M mn mc:=hb.val 1 11 rfl (hall ⟨1,.data⟩ (by simp) rfl)
    refine wide_call (f:=71) (args:=#[.pointer (some ⟨o,0,none⟩),.slice M mn mc]) (by go_simp;exact ⟨by simpa [Act.eval] using e0,by simpa [Act.eval] using e1⟩) ((links_any o M mn mc W).mono ?_)
    rintro e wl ⟨Bo',Bm',Bv',rfl,hbl,hla,h1,h2,h3⟩
    have hy:=(hYI n10).grow hbl
    have hcon:TabAt _ (yearV o M mn mc Bo' Bm' Bv' A L.length c mb yb) a listed b:=hb.congr (fun j hj=>by
     by_cases h2:j=2
     · subst h2;rw [hun'] at hj;cases hj
     · unfold yearV;split<;>first|rfl|exact absurd rfl h2)
    refine ⟨_,rfl,Bo',Bm',Bv',A,c,mb,yb,hset _ hcon,hbel.trans (hbl.mono (by have:=hbel.size;omega)),fun _=> ?_,fun h=>(by rw [g 10 (by decide),n10] at h;cases h)⟩
    rw [gi,g 3 (by decide),g 4 (by decide),g 6 (by decide),g 9 (by decide)]
    exact ⟨fun _=>hla,hy.three,hy.four,hy.nine⟩
   ·
    have n10:listed.getD 10 false=false:=not_listed (hb.closed 10 _ rfl) ⟨3,.chain⟩ (by simp) rfl hun'
    have n8:listed.getD 8 false=false:=not_listed (hb.closed 8 _ rfl) ⟨3,.data⟩ (by simp) rfl hun'
    have p2:listed.getD 2 false=true:=hall ⟨2,.data⟩ (by simp) rfl
    have e0:b.eval (.tmp 12) = .func (.func 114) #[] #[.pointer (some ⟨Bo,0,none⟩),.pointer (some ⟨Bm,0,none⟩),.pointer (some ⟨Bv,0,none⟩)]:=hb.val 2 12 rfl p2
    have hol:o<w.heap.size:=(by
     rcases Nat.lt_or_ge o w.heap.size with h|h
     · exact h
     · simp [World.cell?,Array.getElem?_eq_none h] at o0)
    have hc0:=hbel.cell (p:=⟨o,0,none⟩) (hB ▸ hol)
    have hc1:=hbel.cell (p:=⟨o,1,none⟩) (hB ▸ hol)
    refine wide_call (f:=70) (args:=#[.func (.func 114) #[] #[.pointer (some ⟨Bo,0,none⟩),.pointer (some ⟨Bm,0,none⟩),.pointer (some ⟨Bv,0,none⟩)]]) (by go_simp;simpa [Act.eval] using e0)
     ((collectLinks Bo Bm Bv o At tn ct bA bn bc M mn mc ts bs mv W ⟨(hYI n10).two p2,hc0.trans o0,hc1.trans o1,rt.below hbel (by omega),rb.below hbel (by omega),rm.below hbel (by omega)⟩ hts htn hbn).mono ?_)
    rintro e wl ⟨A',c',rfl,hO,hbl⟩
    have hy:=(hYI n10).grow hbl
    rw [hL] at hO ⊢
    have hcon:TabAt _ (yearV o M mn mc Bo Bm Bv A' L.length c' mb yb) a listed b:=hb.congr (fun j hj=>by
     by_cases h2:j=3
     · subst h2;rw [hun'] at hj;cases hj
     · by_cases h3:j=8
       · subst h3;rw [n8] at hj;cases hj
       · unfold yearV;split<;>first|rfl|exact absurd rfl h2|exact absurd rfl h3)
    refine ⟨_,rfl,Bo,Bm,Bv,A',c',mb,yb,hset _ hcon,hbel.trans (hbl.mono (by have:=hbel.size;omega)),fun _=> ?_,fun h=>(by rw [g 10 (by decide),n10] at h;cases h)⟩
    rw [gi,g 2 (by decide),g 4 (by decide),g 6 (by decide),g 9 (by decide)]
    exact ⟨hy.two,fun _=>hO.mono (by have:=hbel.size;omega),hy.four,hy.nine⟩
   ·
    have n6:listed.getD 6 false=false:=not_listed (hb.closed 6 _ rfl) ⟨4,.data⟩ (by simp) rfl hun'
    have n7:listed.getD 7 false=false:=not_listed (hb.closed 7 _ rfl) ⟨4,.data⟩ (by simp) rfl hun'
    have n8:listed.getD 8 false=false:=not_listed (hb.closed 8 _ rfl) ⟨7,.data⟩ (by simp) rfl n7
    have n10:listed.getD 10 false=false:=not_listed (hb.closed 10 _ rfl) ⟨4,.phase⟩ (by simp) rfl hun'
    have hcon:TabAt _ (yearV o M mn mc Bo Bm Bv A L.length c W.heap.size yb) a listed b:=hb.congr (fun j hj=>by
     by_cases h2:j=4
     · subst h2;rw [hun'] at hj;cases hj
     · by_cases h3:j=8
       · subst h3;rw [n8] at hj;cases hj
       · by_cases h4:j=7
         · subst h4;rw [n7] at hj;cases hj
         · unfold yearV;split<;>first|rfl|exact absurd rfl h2|exact absurd rfl h3|exact absurd rfl h4)
    have hy:=(hYI n10).grow ((Below.refl _ W).alloc (Nat.le_refl _) (.map #[] 0))
    refine wide_val (v:=yearV o M mn mc Bo Bm Bv A L.length c W.heap.size yb 4) (W':=W.alloc (.map #[] 0)) (by go_simp;rfl) ⟨Bo,Bm,Bv,A,c,W.heap.size,yb,hset _ hcon,hbel.alloc (by have:=hbel.size;omega) _,fun _=> ?_,fun h=>(by rw [g 10 (by decide),n10] at h;cases h)⟩
    rw [gi,g 2 (by decide),g 3 (by decide),g 6 (by decide),g 9 (by decide),n6]
    exact ⟨hy.two,hy.three,fun _=>⟨MapP.made W,by have:=hbel.size;omega⟩,hy.nine⟩
   ·
    refine wide_val (v:=yearV o M mn mc Bo Bm Bv A L.length c mb yb 5) (by go_simp;rfl) ⟨Bo,Bm,Bv,A,c,mb,yb,hset _ hb,hbel,?_,?_⟩
    · simpa only [g 2 (by decide),g 3 (by decide),g 4 (by decide),g 6 (by decide),g 9 (by decide),g 10 (by decide)] using hYI
    · simpa only [g 10 (by decide)] using hYF
   ·
    have n10:listed.getD 10 false=false:=not_listed (hb.closed 10 _ rfl) ⟨6,.phase⟩ (by simp) rfl hun'
    have p4:listed.getD 4 false=true:=hall ⟨4,.data⟩ (by simp) rfl
    have p5:listed.getD 5 false=true:=hall ⟨5,.data⟩ (by simp) rfl
    have e0:b.eval (.tmp 14) = .map (some mb):=hb.val 4 14 rfl p4
    have e1:b.eval (.tmp 15)=keyV z00:=hb.val 5 15 rfl p5
    have hy:=hYI n10
    rw [hun',p4] at hy
    obtain ⟨W',hrun,r1,r2,r3⟩:=run_mapUpdatePl (t:=85) (e:=3) (by kernel_rfl) (hy.four rfl).1 z00 (0:Int)
    have hbg:Below B w W':=hbel.grown r2 (by have:=hbel.size;omega) (fun k e=>by have:=Option.some.inj e;have:=(hy.four rfl).2;omega)
    refine wide_skip (W':=W') (by
     simp only [execOp,e0,e1]
     have:b.eval (.const (.int .i64 0))=intE 0:=rfl
     rw [this]
     simp [hrun]) ⟨Bo,Bm,Bv,A,c,mb,yb,hset (yearV o M mn mc Bo Bm Bv A L.length c mb yb) hb,hbg,fun _=> ?_,fun h=>(by rw [g 10 (by decide),n10] at h;cases h)⟩
    rw [gi,g 2 (by decide),g 3 (by decide),g 4 (by decide),g 9 (by decide),p4]
    exact hy.insert r2 r1
   ·
    have e0:b.eval (.tmp 14) = .map (some mb):=hb.val 4 14 rfl (hall ⟨4,.data⟩ (by simp) rfl)
    refine wide_val (v:=yearV o M mn mc Bo Bm Bv A L.length c mb yb 7) (by simp only [execOp,e0];rfl) ⟨Bo,Bm,Bv,A,c,mb,yb,hset _ hb,hbel,?_,?_⟩
    · simpa only [g 2 (by decide),g 3 (by decide),g 4 (by decide),g 6 (by decide),g 9 (by decide),g 10 (by decide)] using hYI
    · simpa only [g 10 (by decide)] using hYF
   ·
    have e0:b.eval (.tmp 13) = .slice A L.length c:=hb.val 3 13 rfl (hall ⟨3,.data⟩ (by simp) rfl)
    have e1:b.eval (.tmp 16) = .map (some mb):=hb.val 7 16 rfl (hall ⟨7,.data⟩ (by simp) rfl)
    refine wide_val (v:=yearV o M mn mc Bo Bm Bv A L.length c mb yb 8) (by have f0:b.tmps[13]?.getD undef = .slice A L.length c:=(by simpa [Act.eval] using e0);have f1:b.tmps[16]?.getD undef = .map (some mb):=(by simpa [Act.eval] using e1);go_simp;rfl) ⟨Bo,Bm,Bv,A,c,mb,yb,hset _ hb,hbel,?_,?_⟩
    · simpa only [g 2 (by decide),g 3 (by decide),g 4 (by decide),g 6 (by decide),g 9 (by decide),g 10 (by decide)] using hYI
    · simpa only [g 10 (by decide)] using hYF
   ·
    have n10:listed.getD 10 false=false:=not_listed (hb.closed 10 _ rfl) ⟨9,.data⟩ (by simp) rfl hun'
    have hcon:TabAt _ (yearV o M mn mc Bo Bm Bv A L.length c mb W.heap.size) a listed b:=hb.congr (fun j hj=>by
     by_cases h2:j=9
     · subst h2;rw [hun'] at hj;cases hj
     · unfold yearV;split<;>first|rfl|exact absurd rfl h2)
    have hy:=(hYI n10).grow ((Below.refl _ W).alloc (Nat.le_refl _) (.cells #[.int .i64 0,.slice none 0 0,.slice none 0 0,.map none] 87))
    refine wide_val (v:=yearV o M mn mc Bo Bm Bv A L.length c mb W.heap.size 9) (W':=W.alloc (.cells #[.int .i64 0,.slice none 0 0,.slice none 0 0,.map none] 87)) (by go_simp;rfl) ⟨Bo,Bm,Bv,A,c,mb,W.heap.size,hset _ hcon,hbel.alloc (by have:=hbel.size;omega) _,fun _=> ?_,fun h=>(by rw [g 10 (by decide),n10] at h;cases h)⟩
    rw [gi,g 2 (by decide),g 3 (by decide),g 4 (by decide),g 6 (by decide)]
    exact ⟨hy.two,hy.three,hy.four,fun _=>⟨⟨heap_alloc_new W _⟩,by have:=hbel.size;omega⟩⟩
   ·
    have n10:listed.getD 10 false=false:=hun'
    have p3:listed.getD 3 false=true:=hall ⟨3,.phase⟩ (by simp) rfl
    have p4:listed.getD 4 false=true:=hall ⟨4,.phase⟩ (by simp) rfl
    have p6:listed.getD 6 false=true:=hall ⟨6,.phase⟩ (by simp) rfl
    have p9:listed.getD 9 false=true:=hall ⟨9,.phase⟩ (by simp) rfl
    have e0:b.eval (.tmp 5) = .pointer (some ⟨yb,0,none⟩):=hb.val 9 5 rfl p9
    have e1:b.eval (.tmp 17) = .agg #[.int .i64 0,.slice none 0 0,.slice A L.length c,.map (some mb)]:=hb.val 8 17 rfl (hall ⟨8,.data⟩ (by simp) rfl)
    have f0:b.tmps[5]?.getD undef = .pointer (some ⟨yb,0,none⟩):=(by simpa [Act.eval] using e0)
    have f1:b.tmps[17]?.getD undef = .agg #[.int .i64 0,.slice none 0 0,.slice A L.length c,.map (some mb)]:=(by simpa [Act.eval] using e1)
    have hy:=hYI n10
    rw [p3,p4,p6,p9] at hy
    obtain ⟨k0,k1,k2,k3,kf⟩:=(hy.nine rfl).1.cell
    have kf0:=kf 0
    have kf1:=kf 1
    have kf2:=kf 2
    have kf3:=kf 3
    have hyb:=(hy.nine rfl).2
    refine wide_skip (W':=(((W.setCell ⟨yb,0,none⟩ (.int .i64 0)).setCell ⟨yb,1,none⟩ (.slice none 0 0)).setCell ⟨yb,2,none⟩ (.slice A L.length c)).setCell ⟨yb,3,none⟩ (.map (some mb))) (by go_simp) ⟨Bo,Bm,Bv,A,c,mb,yb,hset (yearV o M mn mc Bo Bm Bv A L.length c mb yb) hb,(((hbel.setCell (p:=⟨yb,0,none⟩) hyb _).setCell (p:=⟨yb,1,none⟩) hyb _).setCell (p:=⟨yb,2,none⟩) hyb _).setCell (p:=⟨yb,3,none⟩) hyb _,fun h=>(by rw [gi] at h;cases h),fun _=> ?_⟩
    have n1:A=none∨blockOf A≠some yb:=(hy.three rfl).ne (hy.nine rfl).1.at_ (fun cur e=>(by injection e with _ h _;cases h))
    obtain ⟨es,cl,hmb,_⟩:=(hy.four rfl).1.at_
    have n2:mb≠yb:=fun e=>(by rw [e,(hy.nine rfl).1.at_] at hmb;cases hmb)
    have hs:∀ (W:World) (i:Nat) (v:Value),W.grownBy (W.setCell ⟨yb,i,none⟩ v) (some yb):=fun W i v=>Go.Proofs.YtejjplhknacoiaaGreatDoor.grownBy_setCell' W yb i v
    refine ⟨?_,?_,?_,(hy.four rfl).2,hyb⟩
    · exact ((((hy.three rfl).kept (hs _ _ _) n1).kept (hs _ _ _) n1).kept (hs _ _ _) n1).kept (hs _ _ _) n1
    · exact ((((hy.four rfl).1.setCell _ _ n2).setCell _ _ n2).setCell _ _ n2).setCell _ _ n2
    · refine ⟨?_⟩
      have h1:=heap_setCell_obj (i:=0) (v:=.int .i64 0) (hy.nine rfl).1.at_
      have h2:=heap_setCell_obj (i:=1) (v:=.slice none 0 0) h1
      have h3:=heap_setCell_obj (i:=2) (v:=.slice A L.length c) h2
      have h4:=heap_setCell_obj (i:=3) (v:=.map (some mb)) h3
      rw [h4];rfl
 · rintro b W ⟨Bo,Bm,Bv,A,c,mb,yb,hb,hbel,_,hYF⟩
   have hact:=hb.act (m:=73) (by kernel_rfl) hT.symm
   rw [hact]
   exact hQ Bo Bm Bv W A c mb yb hbel (hYF (by simp))
end Go.Proofs.YtejjplhknacoiaaGreatDoor
end

/- Contracts that the laws lean on: RefS, RSuR, RSum, RSlR, RSol, RGst. -/
import Derived.Test.YtccabpahfmoamaaGreatPE35
set_option maxRecDepth 100000
set_option maxHeartbeats 8000000
section
namespace Go.Proofs.YtccabpahfmoamaaGreat
open Go.RowKit Go.Proofs Go.Shelf
def farV:Int:=1000000000
def refStep (st:List Int×Bool) (b:Bound):List Int×Bool:=
 if rAt st.1 b.src<farV∧rAt st.1 b.src+b.most<rAt st.1 b.dst then (rPut st.1 b.dst (rAt st.1 b.src+b.most),false) else st
def refTo (bs:List Bound) (x:List Int):Nat→List Int×Bool
 | 0=>(x,true)
 | k+1=>match bs[k]? with
   | some b=>refStep (refTo bs x k) b
   | none=>refTo bs x k
def refLoop (bs:List Bound):Nat→List Int→List Int×Bool
 | 0,_=>([],false)
 | n+1,x=>if (refTo bs x bs.length).2 then ((refTo bs x bs.length).1,true) else refLoop bs n (refTo bs x bs.length).1
def refSums (pts:Int) (bs:List Bound) (start:List Int):List Int×Bool:=refLoop bs (pts+1).toNat start
def refZero (pts:Int):List Int:=List.replicate pts.toNat 0
structure SimR (pts:Nat) (x:List Int) (r:Row):Prop where
 lx:x.length=pts
 lr:r.length=60
 p:pts≤60
 at_:∀ v,v<pts→(val r v=noneV∧val x v=farV)∨(val x v=val r v∧val r v≤1000000 * (59-(x.count farV:Int)))
theorem count_put {x:List Int} {i:Nat} {v:Int} (hi:i<x.length) (hv:v≠farV):((x.set i v).count farV:Int)=(x.count farV:Int)-(if val x i=farV then 1 else 0):=by
 have hx:x[i]? = some x[i]:=List.getElem?_eq_getElem hi
 have hval:val x i=x[i]:=by unfold val;rw [List.getD_eq_getElem?_getD,hx];rfl
 have hc:=List.count_set (a:=v) (b:=farV) hi
 rw [show (v==farV)=false from by simpa using hv] at hc
 simp only [Bool.false_eq_true,if_false,Nat.add_zero] at hc
 rw [hc,hval]
 by_cases e:x[i]=farV
 · rw [if_pos (by simpa using e),if_pos e]
   have:0<x.count farV:=List.count_pos_iff.2 (by rw [←e];exact List.getElem_mem hi)
   omega
 · rw [if_neg (by simpa using e),if_neg e]
   omega
section
variable {pts:Nat} {x:List Int} {st:Row×Row} {bs:List Bound}
theorem sim_step {s:Bool} {b:Bound} {i:Nat} (h:SimR pts x st.1) (hs:b.src.toNat<pts) (hd:b.dst.toNat<pts) (h2:b.most≤1000000):
 SimR pts (refStep (x,s) b).1 (relaxStep st b i).1∧(refStep (x,s) b).2=(s && !relaxes st.1 b):=by
 have hs':=h.at_ _ hs
 have hd':=h.at_ _ hd
 have hfar:farV=1000000000:=rfl
 have hnone:noneV=1099511627776:=rfl
 have hu:(0:Int)≤(x.count farV:Int):=Int.natCast_nonneg _
 have hc:relaxes st.1 b=true↔(rAt x b.src<farV∧rAt x b.src+b.most<rAt x b.dst):=by
  rw [relaxes_iff,rAt_val,rAt_val]
  omega
 have hp:=h.p
 unfold refStep relaxStep
 by_cases hr:relaxes st.1 b=true
 · have hx:=hc.1 hr
   rw [if_pos hx,if_pos hr]
   rw [rAt_val,rAt_val] at hx
   have hput:(((rPut x b.dst (rAt x b.src+b.most)).count farV:Nat):Int)=(x.count farV:Int)-(if val x b.dst.toNat=farV then 1 else 0):=count_put (by rw [h.lx];exact hd) (by rw [rAt_val];omega)
   refine ⟨⟨by simp [rPut,h.lx],by simp [rPut,h.lr],h.p,fun v hv=> ?_⟩,by simp [hr]⟩
   rw [hput]
   simp only [rPut]
   rw [val_set _ _ _ _ (by rw [h.lr];omega),val_set _ _ _ _ (by rw [h.lx];exact hd)]
   rw [rAt_val,rAt_val]
   by_cases e:b.dst.toNat=v
   · rw [if_pos e,if_pos e]
     right
     split<;>omega
   · rw [if_neg e,if_neg e]
     have:=h.at_ v hv
     split<;>omega
 · have hx:¬_:=fun e=>hr (hc.2 e)
   rw [if_neg hx,if_neg hr]
   exact ⟨⟨h.lx,h.lr,h.p,h.at_⟩,by simp [hr]⟩
theorem sim_to (he:Ends 60 bs) (hb:∀ b∈bs,b.src.toNat<pts∧b.dst.toNat<pts∧b.most≤1000000) (h:SimR pts x st.1) (k:Nat):
 SimR pts (refTo bs x k).1 (passTo bs st k).1∧(((refTo bs x k).2=true∧(passTo bs st k).1=st.1)∨((refTo bs x k).2=false∧∃ v,val (passTo bs st k).1 v<val st.1 v)):=by
 induction k with
 | zero=>exact ⟨h,.inl ⟨rfl,rfl⟩⟩
 | succ k ih=>
   obtain ⟨ih1,ih2⟩:=ih
   have he':Ends st.1.length bs:=by rw [h.lr];exact he
   cases hbk:bs[k]? with
   | none=>
     have e1:refTo bs x (k+1)=refTo bs x k:=by rw [refTo,hbk]
     rw [e1,passTo_past hbk]
     exact ⟨ih1,ih2⟩
   | some b=>
     have e1:refTo bs x (k+1)=refStep (refTo bs x k) b:=by rw [refTo,hbk]
     obtain ⟨b1,b2,b3⟩:=hb b (List.mem_of_getElem? hbk)
     obtain ⟨g1,g2⟩:=sim_step (s:=(refTo bs x k).2) (i:=k) ih1 b1 b2 b3
     rw [e1,passTo_next hbk]
     refine ⟨g1,?_⟩
     rw [show (refStep (refTo bs x k) b).2=_ from g2]
     have hdl:b.dst.toNat<(passTo bs st k).1.length:=by rw [ih1.lr];exact (he b (List.mem_of_getElem? hbk)).2
     by_cases hr:relaxes (passTo bs st k).1 b=true
     · right
       refine ⟨by simp [hr],b.dst.toNat,?_⟩
       have h3:=relaxes_iff.1 hr
       have h4:=step_hit (i:=k) hdl h3.1
       have h5:=passTo_le he' b.dst.toNat k 0 (Nat.zero_le _)
       simp only [passTo] at h5
       omega
     · have hsame:(relaxStep (passTo bs st k) b k).1=(passTo bs st k).1:=by unfold relaxStep;rw [if_neg hr]
       rw [hsame]
       have hr':relaxes (passTo bs st k).1 b=false:=by simpa using hr
       rw [hr',Bool.not_false,Bool.and_true]
       exact ih2
theorem sim_loop (he:Ends 60 bs) (hb:∀ b∈bs,b.src.toNat<pts∧b.dst.toNat<pts∧b.most≤1000000):∀ (n:Nat) (x:List Int) (st:Row×Row),SimR pts x st.1→
 (refLoop bs n x).2=(settledLoop bs n st).2.2∧((settledLoop bs n st).2.2=true→SimR pts (refLoop bs n x).1 (settledLoop bs n st).1)
 | 0,x,st,h=>⟨rfl,fun e=>by cases e⟩
 | n+1,x,st,h=>by
   obtain ⟨g1,g2⟩:=sim_to he hb h bs.length
   have hw:SimR pts (refTo bs x bs.length).1 (pass bs st).1:=g1
   unfold refLoop settledLoop
   rcases g2 with ⟨g2,g3⟩|⟨g2,v,g3⟩
   · rw [if_pos g2,if_pos (show (pass bs st).1=st.1 from g3)]
     exact ⟨rfl,fun _=>hw⟩
   · rw [if_neg (by rw [g2];decide),if_neg (fun e=>by
      rw [show (passTo bs st bs.length).1=st.1 from e] at g3
      omega)]
     exact sim_loop he hb n _ (pass bs st) hw
end
section
variable {pts:Int} {bs:List Bound}
theorem sys_ends (h:SysOk pts bs):Ends 60 bs:=fun b hb=>by
 have:=h.b b hb
 have:=h.p2
 constructor<;>omega
theorem sys_in (h:SysOk pts bs):∀ b∈bs,b.src.toNat<pts.toNat∧b.dst.toNat<pts.toNat∧b.most≤1000000:=fun b hb=>by
 have:=h.b b hb
 have:=h.p1
 refine ⟨?_,?_,?_⟩<;>omega
theorem sys_in4 (h:SysOk pts bs):∀ b∈bs,b.src.toNat<pts.toNat∧b.dst.toNat<pts.toNat∧ -1000000≤b.most∧b.most≤1000000:=fun b hb=>by
 have:=h.b b hb
 have:=h.p1
 refine ⟨?_,?_,?_,?_⟩<;>omega
theorem val_replicate (n:Nat) (a:Int) (v:Nat):val (List.replicate n a) v=if v<n then a else 0:=by
 unfold val
 rw [List.getD_eq_getElem?_getD,List.getElem?_replicate]
 split<;>rfl
theorem refZero_sim (h:SysOk pts bs):SimR pts.toNat (refZero pts) zeroRow:=by
 have hp2:=h.p2
 refine ⟨by simp [refZero],by simp [zeroRow],by omega,fun v hv=> .inr ?_⟩
 have hc:(refZero pts).count farV=0:=List.count_eq_zero.2 (by unfold refZero farV;intro e;have:=(List.mem_replicate.1 e).2;omega)
 rw [val_zero,hc,refZero,val_replicate,if_pos hv]
 omega
theorem ref_solve (h:SysOk pts bs):(refSums pts bs (refZero pts)).2=solvedOk pts bs:=(sim_loop (sys_ends h) (sys_in h) (pts+1).toNat _ (zeroRow,lasts) (refZero_sim h)).1
end
end Go.Proofs.YtccabpahfmoamaaGreat
end
section
namespace Go.Proofs.YtccabpahfmoamaaGreat
open Go.RowKit Go.Proofs
def codeSum10:Option Code→Code
 | some (.seq _ (.seq _ (.seq (.seq _ (.block _ (.loop (.seq _ (.seq (.block _ (.seq _ (.seq (.seq _ (.block _ (.loop (.seq _ (.seq (.block _ (.seq _ (.seq c _))) _))))) _))) _))))) _)))=>c
 | _=> .skip
def SumCells (bx ox pb sN dN:Nat) (mo xs xd:Int) (w:World):Prop:=∀ W,Below w.heap.size w W→W.cell? ⟨pb,0,none⟩=some (.int .i64 sN)∧W.cell? ⟨pb,1,none⟩=some (.int .i64 dN)∧W.cell? ⟨pb,2,none⟩=some (.int .i64 mo)∧W.cell? ⟨bx,ox+sN,none⟩=some (.int .i64 xs)∧W.cell? ⟨bx,ox+dN,none⟩=some (.int .i64 xd)
def Trsum1 (bx ox n xc pb sN _:Nat) (far _ _ xs _:Int):List Value:=
 [.slice (some ⟨bx,ox,none⟩) n xc,.pointer (some ⟨pb,0,none⟩),.int .i64 sN,.pointer (some ⟨bx,ox+sN,none⟩),.int .i64 xs,.int .i64 far,.bool false,.bool false,undef,undef,undef,undef,undef,undef,undef,undef,undef,undef,undef,undef,undef,undef,.bool false]
theorem rsum1 (cC:Code) (hc:cC=codeSum10 Tryz.f175.body) (bx ox n xc pb sN dN:Nat) (far mo yy xs xd:Int) (a:Act) (w:World) (Q:Exit→Act→World→Prop)
 (hT:a.tmps.size=71) (t2:a.tmps.getD 2 undef = .int .i64 far) (t8:a.tmps.getD 8 undef = .slice (some ⟨bx,ox,none⟩) n xc) (t12:a.tmps.getD 12 undef = .pointer (some ⟨pb,0,none⟩))
 (CE:SumCells bx ox pb sN dN mo xs xd w) (hs:sN<n) (_:dN<n) (_:n≤1000000) (h1:decide (xs<far)=false)
 (hQ:∀ W,Below w.heap.size w W→Q .normal { tmps:=setsL a.tmps 34 (Trsum1 bx ox n xc pb sN dN far mo yy xs xd),defers:=a.defers } W):
 cC.wp Tryz.prog Q a w:=by
 subst hc
 unfold codeSum10 Tryz.f175
 dsimp only
 refine wpIn_wide.1 (wpIn_region_flow (nn:=5) 71 (by kernel_rfl) (by kernel_rfl) (by kernel_rfl) hT (fun i=>(Trsum1 bx ox n xc pb sN dN far mo yy xs xd).getD i undef) (fun W=>Below w.heap.size w W) ((Below.refl _ _).drew) (fun b hE hold=> ?_) hQ)
 clear hQ
 have q2:=hold 2 _ (by kernel_rfl) t2
 have q8:=hold 8 _ (by kernel_rfl) t8
 have q12:=hold 12 _ (by kernel_rfl) t12
 simp only [factsL,Trsum1,List.getD_cons_zero,List.getD_cons_succ,Nat.reduceAdd] at hE
 repeat' first|exact steps_nil|refine steps_skip rfl rfl ?_|refine steps_go rfl ?_ ?_
 all_goals (intro W hW;obtain ⟨b0,b1,b2,a0,a1⟩:=CE W hW;simp only [Trsum1,List.getD_cons_zero,List.getD_cons_succ,Nat.reduceAdd])
 all_goals first
  | (refine .inl ?_;go_simp;done)
  | (refine .inl ?_;go_simp;rfl)
  | (refine .inl ?_;go_simp;simp [*])
def Trsum2 (bx ox n xc pb sN dN:Nat) (far mo _ xs xd:Int):List Value:=
 [.slice (some ⟨bx,ox,none⟩) n xc,.pointer (some ⟨pb,0,none⟩),.int .i64 sN,.pointer (some ⟨bx,ox+sN,none⟩),.int .i64 xs,.int .i64 far,.bool true,.bool true,.slice (some ⟨bx,ox,none⟩) n xc,.pointer (some ⟨pb,0,none⟩),.int .i64 sN,.pointer (some ⟨bx,ox+sN,none⟩),.int .i64 xs,.pointer (some ⟨pb,0+2,none⟩),.int .i64 mo,.int .i64 (xs+mo),.slice (some ⟨bx,ox,none⟩) n xc,.pointer (some ⟨pb,0+1,none⟩),.int .i64 dN,.pointer (some ⟨bx,ox+dN,none⟩),.int .i64 xd,.bool false,.bool false]
theorem rsum2 (cC:Code) (hc:cC=codeSum10 Tryz.f175.body) (bx ox n xc pb sN dN:Nat) (far mo yy xs xd:Int) (a:Act) (w:World) (Q:Exit→Act→World→Prop)
 (hT:a.tmps.size=71) (t2:a.tmps.getD 2 undef = .int .i64 far) (t8:a.tmps.getD 8 undef = .slice (some ⟨bx,ox,none⟩) n xc) (t12:a.tmps.getD 12 undef = .pointer (some ⟨pb,0,none⟩))
 (CE:SumCells bx ox pb sN dN mo xs xd w) (hs:sN<n) (hd:dN<n) (_:n≤1000000) (h1:decide (xs<far)=true) (hw:IntKind.i64.wrap (xs+mo)=xs+mo) (h2:decide (xs+mo<xd)=false)
 (hQ:∀ W,Below w.heap.size w W→Q .normal { tmps:=setsL a.tmps 34 (Trsum2 bx ox n xc pb sN dN far mo yy xs xd),defers:=a.defers } W):
 cC.wp Tryz.prog Q a w:=by
 subst hc
 unfold codeSum10 Tryz.f175
 dsimp only
 refine wpIn_wide.1 (wpIn_region_flow (nn:=5) 71 (by kernel_rfl) (by kernel_rfl) (by kernel_rfl) hT (fun i=>(Trsum2 bx ox n xc pb sN dN far mo yy xs xd).getD i undef) (fun W=>Below w.heap.size w W) ((Below.refl _ _).drew) (fun b hE hold=> ?_) hQ)
 clear hQ
 have q2:=hold 2 _ (by kernel_rfl) t2
 have q8:=hold 8 _ (by kernel_rfl) t8
 have q12:=hold 12 _ (by kernel_rfl) t12
 simp only [factsL,Trsum2,List.getD_cons_zero,List.getD_cons_succ,Nat.reduceAdd] at hE
 repeat' first|exact steps_nil|refine steps_skip rfl rfl ?_|refine steps_go rfl ?_ ?_
 all_goals (intro W hW;obtain ⟨b0,b1,b2,a0,a1⟩:=CE W hW;simp only [Trsum2,List.getD_cons_zero,List.getD_cons_succ,Nat.reduceAdd])
 all_goals first
  | (refine .inl ?_;go_simp;done)
  | (refine .inl ?_;go_simp;rfl)
  | (refine .inl ?_;go_simp;simp [*])
def Trsum3 (bx ox n xc pb sN dN:Nat) (far mo _ xs xd:Int):List Value:=
 [.slice (some ⟨bx,ox,none⟩) n xc,.pointer (some ⟨pb,0,none⟩),.int .i64 sN,.pointer (some ⟨bx,ox+sN,none⟩),.int .i64 xs,.int .i64 far,.bool true,.bool true,.slice (some ⟨bx,ox,none⟩) n xc,.pointer (some ⟨pb,0,none⟩),.int .i64 sN,.pointer (some ⟨bx,ox+sN,none⟩),.int .i64 xs,.pointer (some ⟨pb,0+2,none⟩),.int .i64 mo,.int .i64 (xs+mo),.slice (some ⟨bx,ox,none⟩) n xc,.pointer (some ⟨pb,0+1,none⟩),.int .i64 dN,.pointer (some ⟨bx,ox+dN,none⟩),.int .i64 xd,.bool true,.bool true]
theorem rsum3 (cC:Code) (hc:cC=codeSum10 Tryz.f175.body) (bx ox n xc pb sN dN:Nat) (far mo yy xs xd:Int) (a:Act) (w:World) (Q:Exit→Act→World→Prop)
 (hT:a.tmps.size=71) (t2:a.tmps.getD 2 undef = .int .i64 far) (t8:a.tmps.getD 8 undef = .slice (some ⟨bx,ox,none⟩) n xc) (t12:a.tmps.getD 12 undef = .pointer (some ⟨pb,0,none⟩))
 (CE:SumCells bx ox pb sN dN mo xs xd w) (hs:sN<n) (hd:dN<n) (_:n≤1000000) (h1:decide (xs<far)=true) (hw:IntKind.i64.wrap (xs+mo)=xs+mo) (h2:decide (xs+mo<xd)=true)
 (hQ:∀ W,Below w.heap.size w W→Q .normal { tmps:=setsL a.tmps 34 (Trsum3 bx ox n xc pb sN dN far mo yy xs xd),defers:=a.defers } W):
 cC.wp Tryz.prog Q a w:=by
 subst hc
 unfold codeSum10 Tryz.f175
 dsimp only
 refine wpIn_wide.1 (wpIn_region_flow (nn:=5) 71 (by kernel_rfl) (by kernel_rfl) (by kernel_rfl) hT (fun i=>(Trsum3 bx ox n xc pb sN dN far mo yy xs xd).getD i undef) (fun W=>Below w.heap.size w W) ((Below.refl _ _).drew) (fun b hE hold=> ?_) hQ)
 clear hQ
 have q2:=hold 2 _ (by kernel_rfl) t2
 have q8:=hold 8 _ (by kernel_rfl) t8
 have q12:=hold 12 _ (by kernel_rfl) t12
 simp only [factsL,Trsum3,List.getD_cons_zero,List.getD_cons_succ,Nat.reduceAdd] at hE
 repeat' first|exact steps_nil|refine steps_skip rfl rfl ?_|refine steps_go rfl ?_ ?_
 all_goals (intro W hW;obtain ⟨b0,b1,b2,a0,a1⟩:=CE W hW;simp only [Trsum3,List.getD_cons_zero,List.getD_cons_succ,Nat.reduceAdd])
 all_goals first
  | (refine .inl ?_;go_simp;done)
  | (refine .inl ?_;go_simp;rfl)
  | (refine .inl ?_;go_simp;simp [*])
def codeSum11:Option Code→Code
 | some (.seq _ (.seq _ (.seq (.seq _ (.block _ (.loop (.seq _ (.seq (.block _ (.seq _ (.seq (.seq _ (.block _ (.loop (.seq _ (.seq (.block _ (.seq _ (.seq _ (.cond _ (.seq c _) _)))) _))))) _))) _))))) _)))=>c
 | _=> .skip
def SumI (bx ox dN:Nat) (v:Int) (w:World):List Value→World→Prop
 | [],W=>Below w.heap.size w W
 | [_],W=> ∃ W0,Below w.heap.size w W0∧W=W0.setCell ⟨bx,ox+dN,none⟩ (.int .i64 v)
 | _,_=>False
def Trsum11 (bx ox n xc pb sN dN:Nat) (_ mo _ xs _:Int) (cv:List Value):List Value:=
 [.slice (some ⟨bx,ox,none⟩) n xc,.pointer (some ⟨pb,0+1,none⟩),.int .i64 dN,.slice (some ⟨bx,ox,none⟩) n xc,.pointer (some ⟨pb,0,none⟩),.int .i64 sN,.pointer (some ⟨bx,ox+sN,none⟩),.int .i64 xs,.pointer (some ⟨pb,0+2,none⟩),.int .i64 mo,.int .i64 (xs+mo),.pointer (some ⟨bx,ox+dN,none⟩),cv.getD 0 undef]
theorem rsum11 (cC:Code) (hc:cC=codeSum11 Tryz.f175.body) (bx ox n xc pb sN dN:Nat) (far mo yy xs xd:Int) (a:Act) (w:World) (Q:Exit→Act→World→Prop)
 (hT:a.tmps.size=71) (t8:a.tmps.getD 8 undef = .slice (some ⟨bx,ox,none⟩) n xc) (t12:a.tmps.getD 12 undef = .pointer (some ⟨pb,0,none⟩))
 (CE:SumCells bx ox pb sN dN mo xs xd w) (FE:∀ W,Below w.heap.size w W→W.frozen? ⟨bx,ox+dN,none⟩=false) (hs:sN<n) (hd:dN<n) (_:n≤1000000) (hw:IntKind.i64.wrap (xs+mo)=xs+mo)
 (hQ:∀ W,Below w.heap.size w W→Q .normal { tmps:=setsL a.tmps 57 ((Trsum11 bx ox n xc pb sN dN far mo yy xs xd []).take 12),defers:=a.defers } (W.setCell ⟨bx,ox+dN,none⟩ (.int .i64 (xs+mo)))):
 cC.wp Tryz.prog Q a w:=by
 subst hc
 unfold codeSum11 Tryz.f175
 dsimp only
 refine wpIn_wide.1 (wpIn_region_chain (nn:=5) 71 (by kernel_rfl) (by kernel_rfl) (by kernel_rfl) hT (fun i cv=>(Trsum11 bx ox n xc pb sN dN far mo yy xs xd cv).getD i undef) (fun i=>([0,0,0,0,0,0,0,0,0,0,0,0,0]:List Nat).getD i 0) (fun i=>([0,0,0,0,0,0,0,0,0,0,0,0,1]:List Nat).getD i 0) [12] (by kernel_rfl) (by kernel_rfl) (by kernel_rfl) (by kernel_rfl) (SumI bx ox dN (xs+mo) w) ((Below.refl _ _).drew) (fun b cv hE hold=> ?_) (fun cv W hl hI=> ?_))
 · clear hQ
   have q8:=hold 8 _ (by kernel_rfl) t8
   have q12:=hold 12 _ (by kernel_rfl) t12
   simp only [factsL,Vc,idxC,Trsum11,List.getD_cons_zero,List.getD_cons_succ,Nat.reduceAdd,Nat.reduceEqDiff,reduceIte,Option.map_none] at hE
   repeat' first|exact chain_nil|refine chain_op 0 rfl rfl ?_ ?_|refine chain_skip rfl rfl rfl rfl ?_|refine chain_quiet rfl rfl ?_ ?_
   all_goals intro hl
   any_goals (
    intro hl2;simp only [List.getD_cons_zero,List.getD_cons_succ,Nat.reduceAdd] at hl hl2
    first
     | (obtain rfl:=List.eq_nil_of_length_eq_zero (Nat.le_zero.1 hl2);intro W hW;obtain ⟨b0,b1,b2,a0,a1⟩:=CE W hW;simp only [Trsum11,List.getD_cons_zero,List.getD_cons_succ,Nat.reduceAdd]
        first
         | (refine .inl ?_;go_simp;done)
         | (refine .inl ?_;go_simp;rfl)
         | (refine .inl ?_;go_simp;simp [*]))
    done)
   · obtain rfl:=List.eq_nil_of_length_eq_zero hl
     intro W hW
     obtain ⟨b0,b1,b2,a0,a1⟩:=CE W hW
     have f0:=FE W hW
     refine .inl ⟨undef,_,.inr ⟨?_,rfl⟩,W,hW,rfl⟩
     go_simp
 · match cv,hl,hI with
   | [_],_,⟨W0,h0,e⟩=>subst e;exact hQ W0 h0
open Go.Shelf
theorem refTo_next {bs:List Bound} {x:List Int} {i:Nat} {b:Bound} (h:bs[i]? = some b):refTo bs x (i+1)=refStep (refTo bs x i) b:=by rw [refTo,h]
theorem el_at {xs:List Int} {lo hi:Int} (h:∀ v∈xs,lo≤v∧v≤hi) {i:Nat} (hi':i<xs.length):lo≤xs.getD i 0∧xs.getD i 0≤hi:=by
 rw [List.getD_eq_getElem?_getD,List.getElem?_eq_getElem hi']
 exact h _ (List.getElem_mem hi')
theorem el_set {xs:List Int} {lo hi lo':Int} (h:∀ v∈xs,lo≤v∧v≤hi) (hl:lo'≤lo) {i:Nat} {v:Int} (h1:lo'≤v) (h2:v≤hi):∀ u∈xs.set i v,lo'≤u∧u≤hi:=fun u hu=>by
 rcases List.mem_or_eq_of_mem_set hu with h3|h3
 · have:=h u h3;omega
 · subst h3;exact ⟨h1,h2⟩
theorem rsums_any (pts:Int) (A:Option Addr) (n c:Nat) (bs:List Bound) (A2:Option Addr) (m c2:Nat) (x0:List Int) (w:World) (hl:Rd encBound 4 w A n c bs) (hx:Rd encInt 1 w A2 m c2 x0) (hs:SysOk pts bs) (hm:(m:Int)=pts) (hb:∀ v∈x0,(0:Int)≤v∧v≤1000000000):
 Calls Tryz.prog 175 #[.agg #[.int .i64 pts,.slice A n c],.slice A2 m c2,.int .i64 1000000000] w fun e w'=> ∃ A' c',e = .returned (.tuple #[.slice A' (refSums pts bs x0).1.length c',.bool (refSums pts bs x0).2])∧
  Own encInt 1 3 w.heap.size w' A' (refSums pts bs x0).1.length c' (refSums pts bs x0).1∧Below w.heap.size w w':=by
 have hp51:=hs.p2
 have hp1:=hs.p1
 have hn:=hs.len
 have hnl:=hl.len
 have hml:=hx.len
 obtain ⟨w1,hw1⟩:∃ w1,w.alloc (.cells #[.int .i64 pts,.slice A n c] 73)=w1:=⟨_,rfl⟩
 have hb1:Below w.heap.size w w1:=(by rw [←hw1];exact (Below.refl _ w).alloc (Nat.le_refl _) _)
 have hh1:w1.heap[w.heap.size]? = some (.cells #[.int .i64 pts,.slice A n c] 73 (0,0)):=(by rw [←hw1];exact heap_alloc_new w _)
 have hz1:w.heap.size<w1.heap.size:=(Array.getElem?_eq_some_iff.1 hh1).1
 have SE:Hid (∀ W,Below w1.heap.size w1 W→W.cell? ⟨w.heap.size,0,none⟩=some (.int .i64 pts)∧W.cell? ⟨w.heap.size,1,none⟩=some (.slice A n c)):=(show ∀ W,Below w1.heap.size w1 W→_ from fun W h=>by
  have:=(h.block _ hz1).trans hh1
  simp [World.cell?,this])
 have HL:=Lib.hid (hl.below hb1 (Nat.le_refl _))
 have HB1:=Lib.hid hb1
 have HIN:=Lib.hid (sys_in4 hs)
 have HP:=Lib.hid (show ∀ b∈bs,0≤b.src∧0≤b.dst from fun b h=>by have:=hs.b b h;exact ⟨by omega,by omega⟩)
 have HW1:=Lib.hid hw1
 have HM:=Lib.hid hm
 have HNL:=Lib.hid hnl
 have HEL:=Lib.hid hb
 have hm0:0<m:=by omega
 have hm60:m≤60:=by omega
 have hn400:n≤400:=by omega
 have hO1:=Own.fresh encInt 1 3 w1 (Nat.le_refl _)
 have hx1:=(hx.below hb1 (Nat.le_refl _)).alloc (.cells #[] 3)
 have HBA:=Lib.hid ((Below.refl w1.heap.size w1).alloc (Nat.le_refl _) (.cells #[] 3))
 have hml':x0.length=m:=hml
 have HRS:=Lib.hid (show refSums pts bs x0=refLoop bs (m+1) x0 from by unfold refSums;rw [←hm];rfl)
 clear hb1 hh1 hl hx hs hw1 hnl hml hb hm hn hp1 hp51
 generalize refSums pts bs x0=R at *
 obtain ⟨s0,s1⟩:=SE.out w1 (Below.refl _ _)
 go_enter Tryz.func175,Tryz.ntmps175
 go_wp2_with (first
  | rw [HW1.out]
  | (at_builtin;refine wpList_append_src elInt (fun _=>rfl) oneInt rfl _ _ rfl _ _ _ _ rfl rfl hO1 hx1 (by omega) (by decide) (by simp) ?_;intro A8 c8 w8 hO8 hg8 hA8
     have HB8:=Lib.hid (HBA.out.grown hg8 (by simp) (fun j e=>hO1.ltB j e))
     have HO8:=Lib.hid hO8
     clear hO8 hg8 hA8))
 clear s0 s1 hO1 hx1
 obtain ⟨g,hg⟩:∃ g,A8=some ⟨g,0,none⟩:=by
  rcases HO8.out.form with ⟨_,h0,_⟩|⟨g,h,_⟩
  · omega
  · exact ⟨g,h⟩
 subst hg
 have HO9:Hid (Own encInt 1 3 w1.heap.size w8 (some ⟨g,0,none⟩) m c8 x0):=(show Own _ _ _ _ _ _ _ _ _ from by have:=HO8.out;simpa using this)
 clear HO8
 go_loopw [9] (fun s9 wr=> ∃ (r:Nat) (xs:List Int),r≤m+1∧s9 = .int .i64 r∧xs.length=m∧Hid (Below w1.heap.size w1 wr)∧Hid (Own encInt 1 3 w1.heap.size wr (some ⟨g,0,none⟩) m c8 xs)∧Hid (∀ v∈xs,-(400000000 * (r:Int))≤v∧v≤1000000000)∧Hid (refLoop bs (m+1-r) xs=R)) (fun s9 _=>m+1-(intOf s9).toNat)
 case atStart=>exact ⟨0,x0,by omega,rfl,hml',HB8,HO9,(show ∀ v∈x0,_∧_ from fun v hv=>by have:=HEL.out v hv;omega),(show _=_ from HRS.out.symm)⟩
 case round=>
  obtain ⟨r,xs,hr,rfl,hxl,hbl,hO,hel,hrl⟩:=hrel
  rename World=>wo
  have hzr:=hbl.out.size
  obtain ⟨s0,s1⟩:=SE.out wo hbl.out
  have hwl:w.heap.size<wo.heap.size:=(by omega)
  by_cases hrp:(r:Int)≤pts
  case neg=>
   have hre:m+1-r=0:=by have:=HM.out;omega
   have h1:=hrl.out
   rw [hre] at h1
   simp only [refLoop] at h1
   subst h1
   go_wp2
   go_ret2
   exact ⟨none,0,rfl,(show Own _ _ _ _ _ _ _ _ _ from Own.none_ _ _ _ _ _),HB1.out.trans (hbl.out.mono (by omega))⟩
  case pos=>
   have hrm:m+1-r=(m-r)+1:=by have:=HM.out;omega
   have HRL:Hid (R=if (refTo bs xs n).2 then ((refTo bs xs n).1,true) else refLoop bs (m-r) (refTo bs xs n).1):=(show _=_ from by
    have h1:=hrl.out
    rw [hrm,refLoop,HNL.out] at h1
    exact h1.symm)
   clear hrl hrm
   go_wp2
   go_loopw [10,11] (fun s10 s11 wr=> ∃ (i:Nat) (ys:List Int) (sm:Bool),i≤n∧s11 = .int .i64 i∧s10 = .bool sm∧ys.length=m∧Hid (Below w1.heap.size w1 wr)∧Hid (Own encInt 1 3 w1.heap.size wr (some ⟨g,0,none⟩) m c8 ys)∧Hid (∀ v∈ys,-(400000000 * (r:Int)+1000000 * (i:Int))≤v∧v≤1000000000)∧Hid (refTo bs xs i=(ys,sm))) (fun _ s11 _=>n-(intOf s11).toNat)
   case atStart=>exact ⟨0,xs,true,Nat.zero_le _,rfl,rfl,hxl,hbl,hO,(show ∀ v∈xs,_∧_ from fun v hv=>by have:=hel.out v hv;omega),(show _=_ from rfl)⟩
   case round=>
    obtain ⟨i,ys,sm,hi,rfl,rfl,hyl,hbi,hOi,heli,hti⟩:=hrel
    rename World=>wi
    have hzi:=hbi.out.size
    obtain ⟨u0,u1⟩:=SE.out wi hbi.out
    have hwli:w.heap.size<wi.heap.size:=(by omega)
    by_cases hlt:i<n
    · obtain ⟨bb,ob,x,rfl,hbb,hx,hcx⟩:=(HL.out.below hbi.out (Nat.le_refl _)).one hlt
      obtain ⟨sN,hsN⟩:∃ sN:Nat,x.src=sN:=⟨x.src.toNat,by have:=(HP.out x (List.mem_of_getElem? hx)).1;omega⟩
      obtain ⟨dN,hdN⟩:∃ dN:Nat,x.dst=dN:=⟨x.dst.toNat,by have:=(HP.out x (List.mem_of_getElem? hx)).2;omega⟩
      obtain ⟨b1,b2,b3,b4⟩:=HIN.out x (List.mem_of_getElem? hx)
      rw [hsN] at b1
      rw [hdN] at b2
      have hsm:sN<m:=by have:=HM.out;omega
      have hdm:dN<m:=by have:=HM.out;omega
      have c0:wi.cell? ⟨bb,ob+i * 4,none⟩=some (.int .i64 sN):=by rw [←hsN];exact hcx 0 _ rfl
      have c1:wi.cell? ⟨bb,ob+i * 4+1,none⟩=some (.int .i64 dN):=by rw [←hdN];exact hcx 1 _ rfl
      have c2:wi.cell? ⟨bb,ob+i * 4+2,none⟩=some (.int .i64 x.most):=hcx 2 _ rfl
      have c3:wi.cell? ⟨bb,ob+i * 4+3,none⟩=some (.int .i64 x.by_):=hcx 3 _ rfl
      obtain ⟨xs0,hxs0⟩:∃ v,ys.getD sN 0=v:=⟨_,rfl⟩
      obtain ⟨xd0,hxd0⟩:∃ v,ys.getD dN 0=v:=⟨_,rfl⟩
      have e1:=el_at heli.out (i:=sN) (by omega)
      have e2:=el_at heli.out (i:=dN) (by omega)
      rw [hxs0] at e1
      rw [hxd0] at e2
      have HST:Hid (refTo bs xs (i+1)=if xs0<1000000000∧xs0+x.most<xd0 then (ys.set dN (xs0+x.most),false) else (ys,sm)):=(show _=_ from by
       rw [refTo_next hx,hti.out]
       unfold refStep rAt rPut farV
       simp only [hsN,hdN,Int.toNat_natCast,hxs0,hxd0])
      obtain ⟨mo,hmo⟩:∃ mo,x.most=mo:=⟨_,rfl⟩
      obtain ⟨yy,hyy⟩:∃ yy,x.by_=yy:=⟨_,rfl⟩
      rw [hmo] at c2 HST b3 b4
      rw [hyy] at c3
      have hcs:wi.cell? ⟨g,0+sN,none⟩=some (.int .i64 xs0):=by
       have:=hOi.out.cells (fun _=>rfl) (i:=sN) (x:=xs0) (by rw [←hxs0,List.getD_eq_getElem?_getD,List.getElem?_eq_getElem (by omega)];rfl) 0 _ rfl
       rw [Nat.mul_one,Nat.add_zero] at this
       rw [Nat.zero_add];exact this
      have hcd:wi.cell? ⟨g,0+dN,none⟩=some (.int .i64 xd0):=by
       have:=hOi.out.cells (fun _=>rfl) (i:=dN) (x:=xd0) (by rw [←hxd0,List.getD_eq_getElem?_getD,List.getElem?_eq_getElem (by omega)];rfl) 0 _ rfl
       rw [Nat.mul_one,Nat.add_zero] at this
       rw [Nat.zero_add];exact this
      have hgl:=hOi.out.lt
      obtain ⟨w5,hw5⟩:∃ w5,wi.alloc (.cells #[.int .i64 sN,.int .i64 dN,.int .i64 mo,.int .i64 yy] 56)=w5:=⟨_,rfl⟩
      have hb5:Below wi.heap.size wi w5:=(by rw [←hw5];exact (Below.refl _ wi).alloc (Nat.le_refl _) _)
      have hh5:w5.heap[wi.heap.size]? = some (.cells #[.int .i64 sN,.int .i64 dN,.int .i64 mo,.int .i64 yy] 56 (0,0)):=(by rw [←hw5];exact heap_alloc_new wi _)
      have hz5:wi.heap.size<w5.heap.size:=(Array.getElem?_eq_some_iff.1 hh5).1
      have CE:Hid (SumCells g 0 wi.heap.size sN dN mo xs0 xd0 w5):=(show SumCells g 0 wi.heap.size sN dN mo xs0 xd0 w5 from fun W h=>by
       have h1:=(h.block _ hz5).trans hh5
       have e:=fun o=>(h.cell (p:=⟨g,o,none⟩) (show g<w5.heap.size by omega)).trans (hb5.cell (p:=⟨g,o,none⟩) hgl.2)
       refine ⟨by simp [World.cell?,h1],by simp [World.cell?,h1],by simp [World.cell?,h1],(e _).trans hcs,(e _).trans hcd⟩)
      have FE:Hid (∀ W,Below w5.heap.size w5 W→W.frozen? ⟨g,0+dN,none⟩=false):=(show ∀ W,Below w5.heap.size w5 W→W.frozen? ⟨g,0+dN,none⟩=false from fun W h=>((hOi.out.below hb5 (Nat.le_refl _)).below h (Nat.le_refl _)).free _)
      have HO5:=Lib.hid (hOi.out.below hb5 (Nat.le_refl _))
      have HB5:=Lib.hid (hbi.out.trans (hb5.mono hzi))
      have HW5:=Lib.hid hw5
      have HE:=Lib.hid (And.intro e1 e2)
      have hz15:w1.heap.size≤w5.heap.size:=by omega
      have hm6:m≤1000000:=by omega
      have hw:IntKind.i64.wrap (xs0+mo)=xs0+mo:=by rw [IntKind.wrap_i64];omega
      have HW:=Lib.hid hw
      clear hcx hx hcs hcd hb5 hh5 hw5 hsN hdN hmo hyy hxs0 hxd0 hw e1 e2
      go_upto_region 10 with (rw [HW5.out])
      by_cases h1:xs0<1000000000
      · by_cases h2:xs0+mo<xd0
        · have HIF:=Lib.hid (And.intro h1 h2)
          refine rsum3 _ rfl g 0 m c8 wi.heap.size sN dN _ mo yy xs0 xd0 _ w5 _ rfl rfl rfl rfl CE.out hsm hdm hm6 (decide_eq_true h1) HW.out (decide_eq_true h2) ?_
          clear h1 h2
          intro w6 hb6
          have HB6:=Lib.hid (HB5.out.trans (hb6.mono hz15))
          have HO6:=Lib.hid (HO5.out.below hb6 (Nat.le_refl _))
          have CE6:Hid (SumCells g 0 wi.heap.size sN dN mo xs0 xd0 w6):=(show SumCells g 0 wi.heap.size sN dN mo xs0 xd0 w6 from fun W h=>CE.out W (hb6.trans (h.mono hb6.size)))
          have FE6:Hid (∀ W,Below w6.heap.size w6 W→W.frozen? ⟨g,0+dN,none⟩=false):=(show ∀ W,Below w6.heap.size w6 W→W.frozen? ⟨g,0+dN,none⟩=false from fun W h=>FE.out W (hb6.trans (h.mono hb6.size)))
          clear hb6
          simp only [setsL,Trsum3,Nat.reduceAdd,List.setIfInBounds_toArray,List.set_cons_succ,List.set_cons_zero]
          go_upto_region 11 with (fail)
          refine rsum11 _ rfl g 0 m c8 wi.heap.size sN dN 0 mo yy xs0 xd0 _ w6 _ rfl rfl rfl CE6.out FE6.out hsm hdm hm6 HW.out ?_
          intro w7 hb7
          obtain ⟨o1,o2⟩:=(HO6.out.below hb7 (Nat.le_refl _)).set (fun _=>rfl) (i:=dN) hdm (xs0+mo)
          have hz7:=hb7.size
          have hz16:=HB6.out.size
          have HB7:=Lib.hid ((HB6.out.trans (hb7.mono hz16)).setCell (p:=⟨g,0+dN,none⟩) hgl.1 (.int .i64 (xs0+mo)))
          have HO7:Hid (Own encInt 1 3 w1.heap.size (w7.setCell ⟨g,0+dN,none⟩ (.int .i64 (xs0+mo))) (some ⟨g,0,none⟩) m c8 (ys.set dN (xs0+mo))):=(show Own _ _ _ _ _ _ _ _ _ from by
           have:=o1
           simpa [encInt,World.setCells] using this)
          clear hb7 o1 o2
          generalize w7.setCell ⟨g,0+dN,none⟩ (.int .i64 (xs0+mo))=w8x at *
          simp only [setsL,Trsum11,List.take_succ_cons,List.take_zero,Nat.reduceAdd,List.setIfInBounds_toArray,List.set_cons_succ,List.set_cons_zero]
          go_wp2
          go_roundw
          all_goals first
           | (simp [intOf];omega)
           | exact ⟨i+1,ys.set dN (xs0+mo),false,by omega,by go_num,rfl,by simp [hyl],HB7.out,HO7.out,(show ∀ v∈ys.set dN (xs0+mo),_∧_ from el_set heli.out (by omega) (by have:=HE.out;omega) (by have:=HE.out;have:=HIF.out;omega)),(show _=_ by rw [HST.out,if_pos HIF.out])⟩
        · have HIF:Hid (¬(xs0<1000000000∧xs0+mo<xd0)):=(show ¬_ from fun h=>h2 h.2)
          refine rsum2 _ rfl g 0 m c8 wi.heap.size sN dN _ mo yy xs0 xd0 _ w5 _ rfl rfl rfl rfl CE.out hsm hdm hm6 (decide_eq_true h1) HW.out (decide_eq_false h2) ?_
          clear h1 h2
          intro w6 hb6
          have HB6:=Lib.hid (HB5.out.trans (hb6.mono hz15))
          have HO6:=Lib.hid (HO5.out.below hb6 (Nat.le_refl _))
          clear hb6
          simp only [setsL,Trsum2,Nat.reduceAdd,List.setIfInBounds_toArray,List.set_cons_succ,List.set_cons_zero]
          go_wp2
          go_roundw
          all_goals first
           | (simp [intOf];omega)
           | exact ⟨i+1,ys,sm,by omega,by go_num,rfl,hyl,HB6.out,HO6.out,(show ∀ v∈ys,_∧_ from fun v hv=>by have:=heli.out v hv;omega),(show _=_ by rw [HST.out,if_neg HIF.out])⟩
      · have HIF:Hid (¬(xs0<1000000000∧xs0+mo<xd0)):=(show ¬_ from fun h=>h1 h.1)
        refine rsum1 _ rfl g 0 m c8 wi.heap.size sN dN _ mo yy xs0 xd0 _ w5 _ rfl rfl rfl rfl CE.out hsm hdm hm6 (decide_eq_false h1) ?_
        clear h1
        intro w6 hb6
        have HB6:=Lib.hid (HB5.out.trans (hb6.mono hz15))
        have HO6:=Lib.hid (HO5.out.below hb6 (Nat.le_refl _))
        clear hb6
        simp only [setsL,Trsum1,Nat.reduceAdd,List.setIfInBounds_toArray,List.set_cons_succ,List.set_cons_zero]
        go_wp2
        go_roundw
        all_goals first
         | (simp [intOf];omega)
         | exact ⟨i+1,ys,sm,by omega,by go_num,rfl,hyl,HB6.out,HO6.out,(show ∀ v∈ys,_∧_ from fun v hv=>by have:=heli.out v hv;omega),(show _=_ by rw [HST.out,if_neg HIF.out])⟩
    · have hin:i=n:=by omega
      subst hin
      cases sm with
      | true=>
        have HR:Hid (R=(ys,true)):=(show _=_ by rw [HRL.out,hti.out];rfl)
        clear HRL
        go_wp2
        go_ret2
        have h1:=HR.out
        subst h1
        exact ⟨some ⟨g,0,none⟩,c8,by rw [hyl];rfl,(by rw [hyl];exact hOi.out.mono (by omega)),HB1.out.trans (hbi.out.mono (by omega))⟩
      | false=>
        have HR:Hid (R=refLoop bs (m-r) ys):=(show _=_ by rw [HRL.out,hti.out];rfl)
        have hnr:m+1-(r+1)=m-r:=by omega
        clear HRL
        go_wp2
        go_roundw
        all_goals first
         | (have:=HM.out;simp [intOf];omega)
         | exact ⟨r+1,ys,by have:=HM.out;omega,by go_num,hyl,hbi,hOi,(show ∀ v∈ys,_∧_ from fun v hv=>by have:=heli.out v hv;omega),(show _=_ by rw [hnr];exact HR.out.symm)⟩
theorem zeroIntR:(Tryz.prog.info? 3).bind (·.zero)=some (.int .i64 0):=by kernel_rfl
theorem flat_zerosR (m:Nat):(List.replicate m (0:Int)).flatMap encInt=List.replicate m (.int .i64 0):=by
 induction m with
 | zero=>rfl
 | succ m ih=>rw [List.replicate_succ,List.flatMap_cons,ih];rfl
theorem run_zerosR (B m:Nat) (w:World) (hm:m≤1000000) (hB:B≤w.heap.size):∃ w',(Instr.makeSlice 29 (.int .i64 m) (.int .i64 m)).run Tryz.prog w = .ok (.slice (some ⟨w.heap.size,0,none⟩) m m) w'∧Own encInt 1 3 B w' (some ⟨w.heap.size,0,none⟩) m m (List.replicate m 0)∧w.grownBy w' none:=by
 obtain ⟨i,z,hi,hz0,hz1,hz2,hz3⟩:=elInt.info
 have hzz:z = .int .i64 0:=by
  have h1:=zeroIntR
  rw [hi] at h1
  simpa [hz0] using h1
 obtain ⟨w',h1,h2,h3⟩:=run_makeSlice_full (P:=Tryz.prog) (w:=w) B 29 3 i z 1 elInt.slice hi hz0 hz1 .i64 .i64 m (by omega) (by rw [hz2];omega) (by unfold maxLen;omega) hB
 refine ⟨w',h1,⟨by simp,?_⟩,h3⟩
 rw [flat_zerosR,←toList_madeCells_one]
 have hc:z.cells = #[.int .i64 0]:=by rw [hzz];rfl
 rw [hc,Nat.mul_one] at h2
 exact h2
def codeSlv1:Option Code→Code
 | some (.seq _ (.seq c _))=>c
 | _=> .skip
def SlvI (m:Nat) (ok:Bool) (w:World):List Value→World→Prop
 | [],W=>Below w.heap.size w W
 | [v],W=>Below w.heap.size w W∧∃ Az cz,v = .slice Az m cz∧Rd encInt 1 W Az m cz (List.replicate m 0)
 | [_,u],W=>Below w.heap.size w W∧∃ A' n' c',u = .tuple #[.slice A' n' c',.bool ok]
 | _,_=>False
theorem SlvI.two {m:Nat} {ok:Bool} {w W:World} {cv:List Value} (hl:2≤cv.length) (h:SlvI m ok w cv W):∃ v A' n' c',cv = [v,.tuple #[.slice A' n' c',.bool ok]]:=by
 match cv,hl,h with
 | [v,u],_,⟨_,A',n',c',e⟩=>exact ⟨v,A',n',c',by rw [e]⟩
 | [],hl,_=>simp at hl
 | [_],hl,_=>simp at hl
def Trslv1 (s m:Nat) (A:Option Addr) (n c:Nat) (_:Bool) (cv:List Value):List Value:=
 [.agg #[.int .i64 m,.slice A n c],.pointer (some ⟨s,0,none⟩),.int .i64 m,cv.getD 0 undef,cv.getD 1 undef,prj cv 1 0,prj cv 1 1,prj cv 1 0,prj cv 1 1]
theorem rslv1 (cC:Code) (hc:cC=codeSlv1 Tryz.f172.body) (s m:Nat) (A:Option Addr) (n c:Nat) (ok:Bool) (a:Act) (w:World) (Q:Exit→Act→World→Prop)
 (hT:a.tmps.size=11) (t1:a.tmps.getD 1 undef = .pointer (some ⟨s,0,none⟩))
 (CE:∀ W,Below w.heap.size w W→W.cell? ⟨s,0,none⟩=some (.int .i64 m)∧W.cell? ⟨s,1,none⟩=some (.slice A n c)) (hm:m≤1000)
 (CS:∀ W A2 c2,Below w.heap.size w W→Rd encInt 1 W A2 m c2 (List.replicate m 0)→Calls Tryz.prog 175 #[.agg #[.int .i64 m,.slice A n c],.slice A2 m c2,.int .i64 1000000000] W fun e w'=> ∃ A' n' c',e = .returned (.tuple #[.slice A' n' c',.bool ok])∧Below W.heap.size W w')
 (hQ:∀ v A' n' c' W,Below w.heap.size w W→Q .normal { tmps:=setsL (setsL (a.tmps) 4 [.agg #[.int .i64 m,.slice A n c],.pointer (some ⟨s,0,none⟩),.int .i64 m,v,(.tuple #[.slice A' n' c',.bool ok]),(.slice A' n' c'),(.bool ok)]) 2 [(.slice A' n' c'),(.bool ok)],defers:=a.defers } W):
 cC.wp Tryz.prog Q a w:=by
 subst hc
 unfold codeSlv1 Tryz.f172
 dsimp only
 refine wpIn_wide.1 (wpIn_region_chain (nn:=5) 11 (by kernel_rfl) (by kernel_rfl) (by kernel_rfl) hT (fun i cv=>(Trslv1 s m A n c ok cv).getD i undef) (fun i=>([0,0,0,0,0,2,2,2,2]:List Nat).getD i 0) (fun i=>([1,0,0,1,2,2,2,2,2]:List Nat).getD i 0) [3,4] (by kernel_rfl) (by kernel_rfl) (by kernel_rfl) (by kernel_rfl) (SlvI m ok w) ((Below.refl _ _).drew) (fun b cv hE hold=> ?_) (fun cv W hl hI=> ?_))
 · clear hQ
   have q1:=hold 1 _ (by kernel_rfl) t1
   simp only [factsL,Vc,idxC,Trslv1,List.getD_cons_zero,List.getD_cons_succ,Nat.reduceAdd,Nat.reduceEqDiff,reduceIte,Option.map_some,Option.map_none] at hE
   repeat' first|exact chain_nil|refine chain_op 0 rfl rfl ?_ ?_|refine chain_op 1 rfl rfl ?_ ?_|refine chain_skip rfl rfl rfl rfl ?_|refine chain_quiet rfl rfl ?_ ?_
   all_goals intro hl
   any_goals (
    intro hl2;simp only [List.getD_cons_zero,List.getD_cons_succ,Nat.reduceAdd] at hl hl2
    first
     | (obtain rfl:=List.eq_nil_of_length_eq_zero (Nat.le_zero.1 hl2);intro W hW;have hWb:Below w.heap.size w W:=hW;obtain ⟨s0,s1⟩:=CE W hWb;simp only [Trslv1,List.getD_cons_zero,List.getD_cons_succ,Nat.reduceAdd]
        first
         | (refine .inl ?_;go_simp;done)
         | (refine .inl ?_;go_simp;rfl))
     | (intro W hW;simp only [Trslv1,List.getD_cons_zero,List.getD_cons_succ,Nat.reduceAdd];refine .inl ?_;go_simp;(try rfl);done)
     | (intro W hW;have hWb:Below w.heap.size w W:=(match cv,hl2,hW with | [],_,h=>h | [_],_,h=>h.1);obtain ⟨s0,s1⟩:=CE W hWb;simp only [Trslv1,List.getD_cons_zero,List.getD_cons_succ,Nat.reduceAdd]
        first
         | (refine .inl ?_;go_simp;done)
         | (refine .inl ?_;go_simp;rfl))
     | (intro W hW;obtain ⟨v,A',n',c',rfl⟩:=SlvI.two hl hW;simp only [Trslv1,prj,List.take_succ_cons,List.take_zero,List.getD_cons_zero,List.getD_cons_succ,Nat.reduceAdd] at hE ⊢;refine .inl ?_;go_simp;(try rfl);done)
    done)
   · obtain rfl:=List.eq_nil_of_length_eq_zero hl
     intro W hW
     have hWb:Below w.heap.size w W:=hW
     have f0:b.eval (.tmp 6) = .int .i64 m:=(by simp only [Act.eval,Array.getD_eq_getD_getElem?];simp [hE])
     obtain ⟨w',h1,h2,h3⟩:=run_zerosR W.heap.size m W (by omega) (Nat.le_refl _)
     refine .inl ⟨.slice (some ⟨W.heap.size,0,none⟩) m m,w',.inl ?_,hWb.grown h3 hWb.size (fun j e=>by cases e),_,_,rfl,h2.rd (fun _=>rfl) (by omega)⟩
     simp only [execOp,Sem.run_bind,f0,h1,Result.andThen_ok,Sem.run_pure]
   · obtain ⟨v,rfl⟩:=len1 hl
     rintro W ⟨hWb,Az,cz,rfl,hrd⟩
     simp only [List.getD_cons_zero] at hE
     refine .inr ⟨175,#[.agg #[.int .i64 m,.slice A n c],.slice Az m cz,.int .i64 1000000000],?_,(CS W Az cz hWb hrd).mono ?_⟩
     · go_simp<;>done
     · rintro e w' ⟨A',n',c',rfl,hb'⟩;exact ⟨_,rfl,hWb.trans (hb'.mono hWb.size),A',n',c',rfl⟩
 · match cv,hl,hI with
   | [v,u],_,⟨hb,A',n',c',e⟩=>subst e;exact hQ v A' n' c' W hb
theorem rsolve_any (pts:Int) (A:Option Addr) (n c:Nat) (bs:List Bound) (w:World) (hl:Rd encBound 4 w A n c bs) (hs:SysOk pts bs):
 Calls Tryz.prog 172 #[.agg #[.int .i64 pts,.slice A n c]] w fun e w'=> ∃ A' n' c',e = .returned (.tuple #[.slice A' n' c',.bool (solvedOk pts bs)])∧Below w.heap.size w w':=by
 have hp51:=hs.p2
 have hp1:=hs.p1
 obtain ⟨m,hm⟩:∃ m:Nat,(m:Int)=pts:=⟨pts.toNat,by omega⟩
 have hz:refZero pts=List.replicate m 0:=by unfold refZero;rw [←hm,Int.toNat_natCast]
 have hr:=ref_solve hs
 rw [hz] at hr
 obtain ⟨w1,hw1⟩:∃ w1,w.alloc (.cells #[.int .i64 pts,.slice A n c] 73)=w1:=⟨_,rfl⟩
 have hb1:Below w.heap.size w w1:=(by rw [←hw1];exact (Below.refl _ w).alloc (Nat.le_refl _) _)
 have hh1:w1.heap[w.heap.size]? = some (.cells #[.int .i64 pts,.slice A n c] 73 (0,0)):=(by rw [←hw1];exact heap_alloc_new w _)
 have hz1:w.heap.size<w1.heap.size:=(Array.getElem?_eq_some_iff.1 hh1).1
 have s0:w1.cell? ⟨w.heap.size,0,none⟩=some (.int .i64 m):=(by rw [hm];simp [World.cell?,hh1])
 have s1:w1.cell? ⟨w.heap.size,1,none⟩=some (.slice A n c):=(by simp [World.cell?,hh1])
 have HS:Hid (∀ W A2 c2,Below w1.heap.size w1 W→Rd encInt 1 W A2 m c2 (List.replicate m 0)→Calls Tryz.prog 175 #[.agg #[.int .i64 m,.slice A n c],.slice A2 m c2,.int .i64 1000000000] W fun e w'=> ∃ A' n' c',e = .returned (.tuple #[.slice A' n' c',.bool (solvedOk pts bs)])∧Below W.heap.size W w'):=
  (show ∀ W A2 c2,Below w1.heap.size w1 W→Rd encInt 1 W A2 m c2 (List.replicate m 0)→_ from fun W A2 c2 h h2=>by
    rw [hm]
    refine (rsums_any pts A n c bs A2 m c2 _ W ((hl.below hb1 (Nat.le_refl _)).below h (Nat.le_refl _)) h2 hs hm (fun v hv=>by rw [List.eq_of_mem_replicate hv];omega)).mono ?_
    rintro e w' ⟨A',c',rfl,_,hb⟩
    exact ⟨A',_,c',by rw [hr],hb⟩)
 have HB1:=Lib.hid hb1
 have HW1:=Lib.hid hw1
 have hm60:m≤60:=by omega
 subst hm
 generalize solvedOk (m:Int) bs=R at *
 clear hl hs hz hr hh1 hb1 hw1 hp51 hp1
 go_enter Tryz.func172,Tryz.ntmps172
 go_upto_region 1 with (rw [HW1.out])
 refine rslv1 _ rfl w.heap.size m A n c R _ w1 _ rfl rfl (fun W h=>by
  have e:=fun o=>h.cell (p:=⟨w.heap.size,o,none⟩) hz1
  exact ⟨(e _).trans s0,(e _).trans s1⟩) (by omega) HS.out ?_
 intro v A' n' c' w3 hb3
 have HB3:=Lib.hid hb3
 clear hb3
 simp only [setsL,Nat.reduceAdd,List.setIfInBounds_toArray,List.set_cons_succ,List.set_cons_zero]
 go_wp2
 go_ret2
 exact ⟨A',n',c',rfl,HB1.out.trans (HB3.out.mono HB1.out.size)⟩
def SysBox (s:Nat) (pts:Int) (A:Option Addr) (n c:Nat) (w1:World):Prop:=∀ W,Below w1.heap.size w1 W→W.cell? ⟨s,0,none⟩=some (.int .i64 pts)∧W.cell? ⟨s,1,none⟩=some (.slice A n c)
theorem sysBox (pts:Int) (A:Option Addr) (n c:Nat) (w:World):SysBox w.heap.size pts A n c (w.alloc (.cells #[.int .i64 pts,.slice A n c] 73)):=fun W h=>by
 have h0:=heap_alloc_new w (.cells #[.int .i64 pts,.slice A n c] 73)
 have:=(h.block w.heap.size (by simp)).trans h0
 simp [World.cell?,this]
theorem rSolve_any (pts:Int) (A:Option Addr) (n c:Nat) (bs:List Bound) (w:World) (hl:Rd encBound 4 w A n c bs) (hk:checkSys pts bs=0):
 Calls Tryz.prog 140 #[.agg #[.int .i64 pts,.slice A n c]] w fun e w'=> ∃ A' n' c',e = .returned (.tuple #[.slice A' n' c',.bool (solvedOk pts bs),.int .i64 0])∧Below w.heap.size w w':=by
 have HK:=Lib.hid (fun W (h:Below w.heap.size w W)=>r1Check_any pts A n c bs W (hl.below h (Nat.le_refl _)))
 have HS:=Lib.hid (fun W (h:Below w.heap.size w W)=>rsolve_any pts A n c bs W (hl.below h (Nat.le_refl _)) (sysOk_of hk))
 rw [hk] at HK
 clear hl hk
 generalize solvedOk pts bs=R at *
 have SE:=Lib.hid (sysBox pts A n c w)
 obtain ⟨w1,hw1⟩:∃ w1,w.alloc (.cells #[.int .i64 pts,.slice A n c] 73)=w1:=⟨_,rfl⟩
 have hb1:Below w.heap.size w w1:=(by rw [←hw1];exact (Below.refl _ w).alloc (Nat.le_refl _) _)
 rw [hw1] at SE
 have HB1:=Lib.hid hb1
 have HW1:=Lib.hid hw1
 obtain ⟨s0,s1⟩:=SE.out w1 (Below.refl _ _)
 clear hb1 hw1
 go_enter Tryz.func140,Tryz.ntmps140
 go_wp2_with (first
  | rw [HW1.out]
  | (go_at_call 91;(with_reducible refine (HK.out _ HB1.out).mono ?_);rintro e w2 ⟨rfl,hb2⟩;have HB2:=Lib.hid (HB1.out.trans (hb2.mono HB1.out.size));obtain ⟨s2,s3⟩:=SE.out w2 hb2;clear hb2)
  | (go_at_call 172;(with_reducible refine (HS.out _ HB2.out).mono ?_);rintro e w3 ⟨A3,n3,c3,rfl,hb3⟩;have HB3:=Lib.hid (HB2.out.trans (hb3.mono HB2.out.size));clear hb3))
 go_ret3
 exact ⟨A3,n3,c3,rfl,HB3.out⟩
end Go.Proofs.YtccabpahfmoamaaGreat
end

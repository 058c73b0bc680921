/- Contracts that the laws lean on: FacW, R3WR, R3W. -/
import Derived.Test.YtccabpahfmoamaaGreatE06
import Derived.Test.YtccabpahfmoamaaGreatE39
import Derived.Test.YtccabpahfmoamaaGreatE35
import Derived.Test.YtccabpahfmoamaaGreatE19
section
namespace Go.Proofs.YtccabpahfmoamaaGreat
open Go.RowKit Go.Proofs
structure FactsAtW (ops:Array Oper) (a:Act) (Fact:Nat→Value→Prop) (X:(Nat→Value)→(Nat→Bool)→World→Prop) (V:Nat→Value) (listed:Array Bool) (b:Act) (W:World):Prop where
 tab:TabAt ops V a listed b
 later:Later ops a listed b
 fact:∀ j,listed.getD j false=true→Fact j (V j)
 x:X V (fun j=>listed.getD j false) W
def FactsGoW (Fact:Nat→Value→Prop) (X:(Nat→Value)→(Nat→Bool)→World→Prop) (V:Nat→Value) (listed:Array Bool) (i:Nat) (d:Option Tmp) (b b':Act) (W':World):Prop:=
 ∃ v,b'=b.put d v∧Fact i v∧X (nextV V i v) (nextL listed i) W'
section
variable {P:Program} {nn:Nat} {ops:Array Oper} {a:Act} {Fact:Nat→Value→Prop} {X:(Nat→Value)→(Nat→Bool)→World→Prop}
theorem FactsAtW.next {m:Nat} (hok:tabOk ops m=true) (hT:m=a.tmps.size) {V:Nat→Value} {listed:Array Bool} {i:Nat} {o:Oper} {b b':Act} {W W':World} (h:FactsAtW ops a Fact X V listed b W) (hi:i∈Region.ready .any ops listed) (ho:ops[i]? = some o)
 (hg:FactsGoW Fact X V listed i o.dst b b' W'):∃ V',FactsAtW ops a Fact X V' (listed.setIfInBounds i true) b' W':=by
 obtain ⟨v,rfl,h1,h5⟩:=hg
 obtain ⟨hun,_⟩:=mem_ready.1 hi
 have hun':listed.getD i false=false:=getD_both hun
 have hV:∀ j,nextV V i v j=if j=i then v else V j:=fun _=>rfl
 have hi':nextV V i v i=v:=by rw [hV,if_pos rfl]
 have hcon:TabAt ops (nextV V i v) a listed b:=h.tab.congr (fun j hj=>by
  rw [hV,if_neg]
  intro e;subst e;rw [hun'] at hj;cases hj)
 have hlt:i<listed.size:=by rw [h.tab.size];exact (Array.getElem?_eq_some_iff.1 ho).1
 have hset:=hcon.set hok hT hi ho
 have hlat:=h.later.set (V:=nextV V i v) hok ho h.tab.size
 rw [hi'] at hset hlat
 have hL:nextL listed i=fun j=>(listed.setIfInBounds i true).getD j false:=by
  funext j
  by_cases e:j=i
  · subst e;rw [nextL_at,getD_set_self rfl hlt]
  · rw [nextL_ne e,getD_set_ne false (Ne.symm e)]
 refine ⟨nextV V i v,hset,hlat,fun j hj=> ?_,hL ▸ h5⟩
 by_cases e:j=i
 · subst e;rw [hi'];exact h1
 · rw [getD_set_ne false (Ne.symm e)] at hj
   rw [hV,if_neg e]
   exact h.fact j hj
theorem wpIn_region_factsW {id:Nat} {l:List Oper} {Q:Exit→Act→World→Prop} {a:Act} {w:World} (m:Nat) (hm:P.follows .mixedOrders=true) (hok:tabOk l.toArray m=true) (hT:m=a.tmps.size)
 (Fact:Nat→Value→Prop) (X:(Nat→Value)→(Nat→Bool)→World→Prop) (hX:∀ V,X V (fun _=>false) w.drew)
 (hstep:∀ V listed i o b W,i∈Region.ready .any l.toArray listed→l.toArray[i]? = some o→FactsAtW l.toArray a Fact X V listed b W→o.wpIn Fence.wide nn P b W (fun b' W'=>FactsGoW Fact X V listed i o.dst b b' W') Q)
 (hend:∀ V W,(∀ j,j<l.toArray.size→Fact j (V j))→X V (fun j=>(Array.replicate l.toArray.size true).getD j false) W→Q .normal { tmps:=framed l.toArray V a.tmps l.toArray.size,defers:=a.defers } W):(Code.region id l.toArray true).wpIn Fence.wide nn P Q a w:=by
 refine wpIn_region_inv m hm (fun _=>trivial) hok (fun listed b W=> ∃ V,FactsAtW l.toArray a Fact X V listed b W) ?_ ?_ ?_
 · refine ⟨fun _=>undef,TabAt.start a,fun _ _ _ _=>rfl,fun j hj=>(by rw [getD_replicate_false] at hj;cases hj),?_⟩
   have:(fun j=>(Array.replicate l.toArray.size false).getD j false)=fun _=>false:=by funext j;exact getD_replicate_false _ _
   rw [this];exact hX _
 · rintro listed i o b W hs hi ho ⟨V,h⟩
   exact Oper.wpIn_mono (fun b' W' hg=>h.next hok hT hi ho hg) (hstep V listed i o b W hi ho h)
 · rintro b W ⟨V,h⟩
   have hact:=h.tab.act hok hT
   rw [hact]
   exact hend V W (fun j hj=>h.fact j (by have hj':j<l.length:=(by simpa using hj);simp [hj'])) h.x
end
end Go.Proofs.YtccabpahfmoamaaGreat
end
section
namespace Go.Proofs.YtccabpahfmoamaaGreat
open Go.RowKit Go.Proofs Go.Shelf
def WthX (w0:World) (bo fl sn:Nat) (xs:List Bound) (x:Bound) (V:Nat→Value) (L:Nat→Bool) (W:World):Prop:=
 (L 8=false→Below w0.heap.size w0 W)∧
 (L 0=true→L 3=false→∃ g,V 0 = .slice (some ⟨g,0,none⟩) 0 0∧w0.heap.size≤g∧W.heap[g]? = some (.cells #[] 56 (0,0)))∧
 (L 3=true→L 6=false→∃ A' c',V 3 = .slice A' sn c'∧Own encBound 4 56 w0.heap.size W A' sn c' xs)∧
 (L 5=true→L 6=false→∃ g,V 5 = .slice (some ⟨g,0,none⟩) 1 1∧Rd encBound 4 W (some ⟨g,0,none⟩) 1 1 [x])∧
 (L 6=true→L 8=false→∃ A' c',V 6 = .slice A' (sn+1) c'∧Own encBound 4 56 w0.heap.size W A' (sn+1) c' (xs ++ [x]))∧
 (L 8=true→∃ W0 A' c',V 6 = .slice A' (sn+1) c'∧Below w0.heap.size w0 W0∧Own encBound 4 56 w0.heap.size W0 A' (sn+1) c' (xs ++ [x])∧W=W0.setCell ⟨bo,fl,none⟩ (.slice A' (sn+1) c'))
theorem false_true {b:Bool} {p:Prop} (h:b=false) (h2:b=true):p:=by rw [h] at h2;cases h2
section
variable {w0:World} {bo fl sn:Nat} {xs:List Bound} {x:Bound} {V:Nat→Value} {L:Nat→Bool} {W:World}
theorem WthX.pure {listed:Array Bool} {i:Nat} {v:Value} (h:WthX w0 bo fl sn xs x V (fun j=>listed.getD j false) W) (h0:i≠0) (h3:i≠3) (h5:i≠5) (h6:i≠6) (h8:i≠8):WthX w0 bo fl sn xs x (nextV V i v) (nextL listed i) W:=by
 unfold WthX
 rw [nextL_ne (Ne.symm h0),nextL_ne (Ne.symm h3),nextL_ne (Ne.symm h5),nextL_ne (Ne.symm h6),nextL_ne (Ne.symm h8),nextV_ne (Ne.symm h0),nextV_ne (Ne.symm h3),nextV_ne (Ne.symm h5),nextV_ne (Ne.symm h6)]
 exact h
theorem WthX.below {W':World} (h:WthX w0 bo fl sn xs x V L W) (h8:L 8=false) (hb:Below W.heap.size W W'):WthX w0 bo fl sn xs x V L W':=by
 obtain ⟨h1,h2,h3,h4,h5,_⟩:=h
 refine ⟨fun e=>(h1 e).trans (hb.mono (h1 e).size),fun e0 e3=> ?_,fun e3 e6=> ?_,fun e5 e6=> ?_,fun e6 e8=> ?_,fun e=>false_true h8 e⟩
 · obtain ⟨g,q1,q2,q3⟩:=h2 e0 e3
   exact ⟨g,q1,q2,(hb.block g (Array.getElem?_eq_some_iff.1 q3).1).trans q3⟩
 · obtain ⟨A',c',q1,q2⟩:=h3 e3 e6
   exact ⟨A',c',q1,q2.below hb (Nat.le_refl _)⟩
 · obtain ⟨g,q1,q2⟩:=h4 e5 e6
   exact ⟨g,q1,q2.below hb (Nat.le_refl _)⟩
 · obtain ⟨A',c',q1,q2⟩:=h5 e6 e8
   exact ⟨A',c',q1,q2.below hb (Nat.le_refl _)⟩
end
def factWth (bo _ fl:Nat) (SA:Option Addr) (sn sc:Nat) (x:Bound):Nat→Value→Prop
 | 1,v=>v = .pointer (some ⟨bo,0+fl,none⟩)
 | 2,v=>v = .slice SA sn sc
 | 4,v=>v = .agg #[.int .i64 x.src,.int .i64 x.dst,.int .i64 x.most,.int .i64 x.by_]
 | 7,v=>v = .pointer (some ⟨bo,0+fl,none⟩)
 | _,_=>True
def codewth5:Option Code→Code
 | some (.seq _ (.seq _ (.seq _ (.seq (.seq _ (.cond _ c _)) _))))=>c
 | _=> .skip
set_option maxRecDepth 100000 in
set_option maxHeartbeats 4000000 in
theorem wth5 (c:Code) (hc:c=codewth5 Tryz.f32.body) (bo bx:Nat) (SA:Option Addr) (sn sc:Nat) (xs:List Bound) (x:Bound) (a:Act) (w:World) (Q:Exit→Act→World→Prop)
 (hT:a.tmps.size=39) (t3:a.tmps.getD 3 undef = .pointer (some ⟨bo,0,none⟩)) (t5:a.tmps.getD 5 undef = .pointer (some ⟨bx,0,none⟩))
 (CE:∀ W,Below w.heap.size w W→W.cell? ⟨bo,2,none⟩=some (.slice SA sn sc)∧W.frozen? ⟨bo,2,none⟩=false∧W.cell? ⟨bx,0,none⟩=some (.int .i64 x.src)∧W.cell? ⟨bx,1,none⟩=some (.int .i64 x.dst)∧W.cell? ⟨bx,2,none⟩=some (.int .i64 x.most)∧W.cell? ⟨bx,3,none⟩=some (.int .i64 x.by_))
 (HR:∀ W,Below w.heap.size w W→Rd encBound 4 W SA sn sc xs) (hsn:sn≤1000000)
 (hQ:∀ W A' c' z0 z3 z5,Below w.heap.size w W→Own encBound 4 56 w.heap.size W A' (sn+1) c' (xs ++ [x])→Q .normal { tmps:=((((((((a.tmps.setIfInBounds 16 (z0)).setIfInBounds 17 (.pointer (some ⟨bo,0+2,none⟩))).setIfInBounds 18 (.slice SA sn sc)).setIfInBounds 19 (z3)).setIfInBounds 20 (.agg #[.int .i64 x.src,.int .i64 x.dst,.int .i64 x.most,.int .i64 x.by_])).setIfInBounds 21 (z5)).setIfInBounds 22 (.slice A' (sn+1) c')).setIfInBounds 23 (.pointer (some ⟨bo,0+2,none⟩))),defers:=a.defers } (W.setCell ⟨bo,2,none⟩ (.slice A' (sn+1) c'))):
 c.wp Tryz.prog Q a w:=by
 subst hc
 unfold codewth5 Tryz.f32
 dsimp only
 refine wpIn_wide.1 (wpIn_region_factsW (nn:=5) 39 (by kernel_rfl) (by kernel_rfl) hT.symm (factWth bo bx 2 SA sn sc x) (WthX w bo 2 sn xs x) (fun V=>⟨fun _=>(Below.refl _ w).drew,fun h=>(by cases h),fun h=>(by cases h),fun h=>(by cases h),fun h=>(by cases h),fun h=>(by cases h)⟩) ?_ ?_)
 · intro V listed i o b W hi ho h
   obtain ⟨hun,oi,hoi,hall⟩:=mem_ready.1 hi
   have:oi=o:=Option.some.inj (hoi.symm.trans ho)
   subst this
   clear hoi hi
   have hlt:i<9:=(by have:=(Array.getElem?_eq_some_iff.1 ho).1;simpa using this)
   have hun':listed.getD i false=false:=getD_both hun
   rcases (by omega:i=0∨i=1∨i=2∨i=3∨i=4∨i=5∨i=6∨i=7∨i=8) with rfl|rfl|rfl|rfl|rfl|rfl|rfl|rfl|rfl
   all_goals simp only [List.getElem?_toArray,List.getElem?_cons_zero,List.getElem?_cons_succ] at ho
   all_goals cases ho
   ·
    have n3:listed.getD 3 false=false:=not_listed (h.tab.closed 3 _ rfl) ⟨0,.data⟩ (by simp) rfl hun'
    have n6:listed.getD 6 false=false:=not_listed (h.tab.closed 6 _ rfl) ⟨3,.data⟩ (by simp) rfl n3
    have n8:listed.getD 8 false=false:=not_listed (h.tab.closed 8 _ rfl) ⟨6,.data⟩ (by simp) rfl n6
    refine wide_val (W':=W.alloc (.cells #[] 56)) (v:=.slice (some ⟨W.heap.size,0,none⟩) 0 0) (by go_simp) ⟨_,rfl,trivial,?_⟩
    obtain ⟨x1,x2,x3,x4,x5,x6⟩:=h.x.below n8 ((Below.refl _ W).alloc (Nat.le_refl _) (.cells #[] 56))
    unfold WthX
    rw [nextL_ne (show 8≠0 by decide),nextL_at,nextL_ne (show 3≠0 by decide),nextL_ne (show 6≠0 by decide),nextL_ne (show 5≠0 by decide),nextV_at,nextV_ne (show 3≠0 by decide),nextV_ne (show 5≠0 by decide),nextV_ne (show 6≠0 by decide)]
    exact ⟨x1,fun _ _=>⟨W.heap.size,rfl,(h.x.1 n8).size,heap_alloc_new W _⟩,x3,x4,x5,x6⟩
   ·
    have q3:=(h.tab.old 3 (dst_no h.tab (by kernel_rfl))).trans t3
    have q3':b.tmps[3]?.getD undef=_:=(by simpa using q3)
    refine wide_val (v:=.pointer (some ⟨bo,0+2,none⟩)) (by go_simp;try rfl) ⟨_,rfl,rfl,h.x.pure (by decide) (by decide) (by decide) (by decide) (by decide)⟩
   ·
    have l1:=hall ⟨1,.data⟩ (by simp) rfl
    have e1:b.tmps.getD 17 undef = .pointer (some ⟨bo,0+2,none⟩):=(h.tab.val 1 17 rfl l1).trans (h.fact 1 l1)
    have e1':b.tmps[17]?.getD undef = .pointer (some ⟨bo,0+2,none⟩):=(by simpa using e1)
    have n3:listed.getD 3 false=false:=not_listed (h.tab.closed 3 _ rfl) ⟨2,.data⟩ (by simp) rfl hun'
    have n6:listed.getD 6 false=false:=not_listed (h.tab.closed 6 _ rfl) ⟨3,.data⟩ (by simp) rfl n3
    have n8:listed.getD 8 false=false:=not_listed (h.tab.closed 8 _ rfl) ⟨6,.data⟩ (by simp) rfl n6
    obtain ⟨c0,c1,c2,c3,c4,c5⟩:=CE W (h.x.1 n8)
    refine wide_val (v:=.slice SA sn sc) (by go_simp;try rfl) ⟨_,rfl,rfl,h.x.pure (by decide) (by decide) (by decide) (by decide) (by decide)⟩
   ·
    have l0:=hall ⟨0,.data⟩ (by simp) rfl
    have l2:=hall ⟨2,.data⟩ (by simp) rfl
    have e2:b.tmps.getD 18 undef = .slice SA sn sc:=(h.tab.val 2 18 rfl l2).trans (h.fact 2 l2)
    have e2':b.tmps[18]?.getD undef = .slice SA sn sc:=(by simpa using e2)
    have n6:listed.getD 6 false=false:=not_listed (h.tab.closed 6 _ rfl) ⟨3,.data⟩ (by simp) rfl hun'
    have n8:listed.getD 8 false=false:=not_listed (h.tab.closed 8 _ rfl) ⟨6,.data⟩ (by simp) rfl n6
    obtain ⟨g,a0,hg0,h0⟩:=h.x.2.1 l0 hun'
    have e0:b.tmps.getD 16 undef = .slice (some ⟨g,0,none⟩) 0 0:=(h.tab.val 0 16 rfl l0).trans a0
    have f0:b.eval (.tmp 16) = .slice (some ⟨g,0,none⟩) 0 0:=(by simp only [Act.eval];exact e0)
    have f2:b.eval (.tmp 18) = .slice SA sn sc:=(by simp only [Act.eval];exact e2)
    obtain ⟨A',c',wc,hrun,hO,hbl⟩:=run_append_fresh elBound 22 (fun _=>rfl) oneBound h0 hg0 SA xs (HR W (h.x.1 n8)) (by omega) (by omega)
    refine wide_val (W':=wc) (v:=.slice A' sn c') (by simp only [execOp,resolve,invoke,builtin,Sem.run_bind,Sem.run_pure,Result.andThen_ok,List.map_toArray,List.map_cons,List.map_nil,f0,f2,hrun]) ⟨_,rfl,trivial,?_⟩
    obtain ⟨x1,x2,x3,x4,x5,x6⟩:=h.x.below n8 hbl
    unfold WthX
    rw [nextL_ne (show 8≠3 by decide),nextL_ne (show 0≠3 by decide),nextL_at,nextL_ne (show 6≠3 by decide),nextL_ne (show 5≠3 by decide),nextV_ne (show 0≠3 by decide),nextV_at,nextV_ne (show 5≠3 by decide),nextV_ne (show 6≠3 by decide)]
    exact ⟨x1,fun _ e=>(by cases e),fun _ _=>⟨A',c',rfl,hO⟩,x4,x5,x6⟩
   ·
    have q5:=(h.tab.old 5 (dst_no h.tab (by kernel_rfl))).trans t5
    have q5':b.tmps[5]?.getD undef=_:=(by simpa using q5)
    have n5:listed.getD 5 false=false:=not_listed (h.tab.closed 5 _ rfl) ⟨4,.data⟩ (by simp) rfl hun'
    have n6:listed.getD 6 false=false:=not_listed (h.tab.closed 6 _ rfl) ⟨5,.data⟩ (by simp) rfl n5
    have n8:listed.getD 8 false=false:=not_listed (h.tab.closed 8 _ rfl) ⟨6,.data⟩ (by simp) rfl n6
    obtain ⟨c0,c1,c2,c3,c4,c5⟩:=CE W (h.x.1 n8)
    refine wide_val (v:=.agg #[.int .i64 x.src,.int .i64 x.dst,.int .i64 x.most,.int .i64 x.by_]) (by go_simp;try rfl) ⟨_,rfl,rfl,h.x.pure (by decide) (by decide) (by decide) (by decide) (by decide)⟩
   ·
    have l4:=hall ⟨4,.data⟩ (by simp) rfl
    have e4:b.tmps.getD 20 undef = .agg #[.int .i64 x.src,.int .i64 x.dst,.int .i64 x.most,.int .i64 x.by_]:=(h.tab.val 4 20 rfl l4).trans (h.fact 4 l4)
    have e4':b.tmps[20]?.getD undef = .agg #[.int .i64 x.src,.int .i64 x.dst,.int .i64 x.most,.int .i64 x.by_]:=(by simpa using e4)
    have n6:listed.getD 6 false=false:=not_listed (h.tab.closed 6 _ rfl) ⟨5,.data⟩ (by simp) rfl hun'
    have n8:listed.getD 8 false=false:=not_listed (h.tab.closed 8 _ rfl) ⟨6,.data⟩ (by simp) rfl n6
    refine wide_val (W':=W.alloc (.cells #[.int .i64 x.src,.int .i64 x.dst,.int .i64 x.most,.int .i64 x.by_] 56)) (v:=.slice (some ⟨W.heap.size,0,none⟩) 1 1) (by go_simp) ⟨_,rfl,trivial,?_⟩
    obtain ⟨x1,x2,x3,x4,x5,x6⟩:=h.x.below n8 ((Below.refl _ W).alloc (Nat.le_refl _) (.cells #[.int .i64 x.src,.int .i64 x.dst,.int .i64 x.most,.int .i64 x.by_] 56))
    unfold WthX
    rw [nextL_ne (show 8≠5 by decide),nextL_ne (show 0≠5 by decide),nextL_ne (show 3≠5 by decide),nextL_ne (show 6≠5 by decide),nextL_at,nextV_ne (show 0≠5 by decide),nextV_ne (show 3≠5 by decide),nextV_at,nextV_ne (show 6≠5 by decide)]
    exact ⟨x1,x2,x3,fun _ _=>⟨W.heap.size,rfl,Rd.single (enc:=encBound) (k:=4) W #[.int .i64 x.src,.int .i64 x.dst,.int .i64 x.most,.int .i64 x.by_] 56 [x] 1 rfl (by omega) (fun _=>rfl) (by simp [encBound])⟩,x5,x6⟩
   ·
    have l3:=hall ⟨3,.data⟩ (by simp) rfl
    have l5:=hall ⟨5,.data⟩ (by simp) rfl
    have n8:listed.getD 8 false=false:=not_listed (h.tab.closed 8 _ rfl) ⟨6,.data⟩ (by simp) rfl hun'
    obtain ⟨A1,c1,a3,hO⟩:=h.x.2.2.1 l3 hun'
    obtain ⟨g,a5,hrd⟩:=h.x.2.2.2.1 l5 hun'
    have e3:b.tmps.getD 19 undef = .slice A1 sn c1:=(h.tab.val 3 19 rfl l3).trans a3
    have f3:b.eval (.tmp 19) = .slice A1 sn c1:=(by simp only [Act.eval];exact e3)
    have e5:b.tmps.getD 21 undef = .slice (some ⟨g,0,none⟩) 1 1:=(h.tab.val 5 21 rfl l5).trans a5
    have f5:b.eval (.tmp 21) = .slice (some ⟨g,0,none⟩) 1 1:=(by simp only [Act.eval];exact e5)
    obtain ⟨A',c',wc,hrun,hO2,hg,_⟩:=run_append_src elBound 22 (fun _=>rfl) oneBound hO (some ⟨g,0,none⟩) 1 1 [x] hrd (by omega) (by omega) (h.x.1 n8).size
    refine wide_val (W':=wc) (v:=.slice A' (sn+1) c') (by simp only [execOp,resolve,invoke,builtin,Sem.run_bind,Sem.run_pure,Result.andThen_ok,List.map_toArray,List.map_cons,List.map_nil,f3,f5,hrun]) ⟨_,rfl,trivial,?_⟩
    have hb:=(h.x.1 n8).grown hg (h.x.1 n8).size (fun j e=>hO.ltB j e)
    unfold WthX
    rw [nextL_ne (show 8≠6 by decide),nextL_ne (show 0≠6 by decide),nextL_ne (show 3≠6 by decide),nextL_at,nextL_ne (show 5≠6 by decide),nextV_ne (show 0≠6 by decide),nextV_ne (show 3≠6 by decide),nextV_ne (show 5≠6 by decide),nextV_at]
    exact ⟨fun _=>hb,fun _ e=>false_true e l3,fun _ e=>(by cases e),fun _ e=>(by cases e),fun _ _=>⟨A',c',rfl,hO2⟩,fun e=>false_true n8 e⟩
   ·
    have q3:=(h.tab.old 3 (dst_no h.tab (by kernel_rfl))).trans t3
    have q3':b.tmps[3]?.getD undef=_:=(by simpa using q3)
    refine wide_val (v:=.pointer (some ⟨bo,0+2,none⟩)) (by go_simp;try rfl) ⟨_,rfl,rfl,h.x.pure (by decide) (by decide) (by decide) (by decide) (by decide)⟩
   ·
    have l7:=hall ⟨7,.data⟩ (by simp) rfl
    have e7:b.tmps.getD 23 undef = .pointer (some ⟨bo,0+2,none⟩):=(h.tab.val 7 23 rfl l7).trans (h.fact 7 l7)
    have e7':b.tmps[23]?.getD undef = .pointer (some ⟨bo,0+2,none⟩):=(by simpa using e7)
    have l6:=hall ⟨6,.data⟩ (by simp) rfl
    obtain ⟨A',c',a6,hO⟩:=h.x.2.2.2.2.1 l6 hun'
    have e6:b.tmps.getD 22 undef = .slice A' (sn+1) c':=(h.tab.val 6 22 rfl l6).trans a6
    have f6:b.eval (.tmp 22) = .slice A' (sn+1) c':=(by simp only [Act.eval];exact e6)
    have e6':b.tmps[22]?.getD undef = .slice A' (sn+1) c':=(by simpa using e6)
    have l3:=h.tab.closed 6 _ rfl l6 ⟨3,.data⟩ (by simp) rfl
    have hB:=h.x.1 hun'
    obtain ⟨c0,c1,_⟩:=CE W hB
    refine wide_skip (W':=W.setCell ⟨bo,2,none⟩ (.slice A' (sn+1) c')) (by go_simp;try rfl) ⟨_,rfl,trivial,?_⟩
    unfold WthX
    rw [nextL_at,nextL_ne (show 0≠8 by decide),nextL_ne (show 3≠8 by decide),nextL_ne (show 6≠8 by decide),nextL_ne (show 5≠8 by decide),nextV_ne (show 0≠8 by decide),nextV_ne (show 3≠8 by decide),nextV_ne (show 5≠8 by decide),nextV_ne (show 6≠8 by decide)]
    exact ⟨fun e=>(by cases e),fun _ e=>false_true e l3,fun _ e=>false_true e l6,fun _ e=>false_true e l6,fun _ e=>(by cases e),fun _=>⟨W,A',c',a6,hB,hO,rfl⟩⟩
 · intro V W hf hx
   obtain ⟨W0,A',c',v6,hb,hO,rfl⟩:=hx.2.2.2.2.2 rfl
   have:=hQ W0 A' c' (V 0) (V 3) (V 5) hb hO
   have v1:V 1=_:=hf 1 (by decide)
   have v2:V 2=_:=hf 2 (by decide)
   have v4:V 4=_:=hf 4 (by decide)
   have v7:V 7=_:=hf 7 (by decide)
   simp only [List.size_toArray,List.length_cons,List.length_nil,Nat.reduceAdd,framed,dstOf,List.getElem?_toArray,List.getElem?_cons_zero,List.getElem?_cons_succ,Option.bind_some,v1,v2,v4,v6,v7]
   exact this
def codewth6:Option Code→Code
 | some (.seq _ (.seq _ (.seq _ (.seq (.seq _ (.cond _ _ c)) _))))=>c
 | _=> .skip
set_option maxRecDepth 100000 in
set_option maxHeartbeats 4000000 in
theorem wth6 (c:Code) (hc:c=codewth6 Tryz.f32.body) (bo bx:Nat) (SA:Option Addr) (sn sc:Nat) (xs:List Bound) (x:Bound) (a:Act) (w:World) (Q:Exit→Act→World→Prop)
 (hT:a.tmps.size=39) (t3:a.tmps.getD 3 undef = .pointer (some ⟨bo,0,none⟩)) (t5:a.tmps.getD 5 undef = .pointer (some ⟨bx,0,none⟩))
 (CE:∀ W,Below w.heap.size w W→W.cell? ⟨bo,1,none⟩=some (.slice SA sn sc)∧W.frozen? ⟨bo,1,none⟩=false∧W.cell? ⟨bx,0,none⟩=some (.int .i64 x.src)∧W.cell? ⟨bx,1,none⟩=some (.int .i64 x.dst)∧W.cell? ⟨bx,2,none⟩=some (.int .i64 x.most)∧W.cell? ⟨bx,3,none⟩=some (.int .i64 x.by_))
 (HR:∀ W,Below w.heap.size w W→Rd encBound 4 W SA sn sc xs) (hsn:sn≤1000000)
 (hQ:∀ W A' c' z0 z3 z5,Below w.heap.size w W→Own encBound 4 56 w.heap.size W A' (sn+1) c' (xs ++ [x])→Q .normal { tmps:=((((((((a.tmps.setIfInBounds 24 (z0)).setIfInBounds 25 (.pointer (some ⟨bo,0+1,none⟩))).setIfInBounds 26 (.slice SA sn sc)).setIfInBounds 27 (z3)).setIfInBounds 28 (.agg #[.int .i64 x.src,.int .i64 x.dst,.int .i64 x.most,.int .i64 x.by_])).setIfInBounds 29 (z5)).setIfInBounds 30 (.slice A' (sn+1) c')).setIfInBounds 31 (.pointer (some ⟨bo,0+1,none⟩))),defers:=a.defers } (W.setCell ⟨bo,1,none⟩ (.slice A' (sn+1) c'))):
 c.wp Tryz.prog Q a w:=by
 subst hc
 unfold codewth6 Tryz.f32
 dsimp only
 refine wpIn_wide.1 (wpIn_region_factsW (nn:=5) 39 (by kernel_rfl) (by kernel_rfl) hT.symm (factWth bo bx 1 SA sn sc x) (WthX w bo 1 sn xs x) (fun V=>⟨fun _=>(Below.refl _ w).drew,fun h=>(by cases h),fun h=>(by cases h),fun h=>(by cases h),fun h=>(by cases h),fun h=>(by cases h)⟩) ?_ ?_)
 · intro V listed i o b W hi ho h
   obtain ⟨hun,oi,hoi,hall⟩:=mem_ready.1 hi
   have:oi=o:=Option.some.inj (hoi.symm.trans ho)
   subst this
   clear hoi hi
   have hlt:i<9:=(by have:=(Array.getElem?_eq_some_iff.1 ho).1;simpa using this)
   have hun':listed.getD i false=false:=getD_both hun
   rcases (by omega:i=0∨i=1∨i=2∨i=3∨i=4∨i=5∨i=6∨i=7∨i=8) with rfl|rfl|rfl|rfl|rfl|rfl|rfl|rfl|rfl
   all_goals simp only [List.getElem?_toArray,List.getElem?_cons_zero,List.getElem?_cons_succ] at ho
   all_goals cases ho
   ·
    have n3:listed.getD 3 false=false:=not_listed (h.tab.closed 3 _ rfl) ⟨0,.data⟩ (by simp) rfl hun'
    have n6:listed.getD 6 false=false:=not_listed (h.tab.closed 6 _ rfl) ⟨3,.data⟩ (by simp) rfl n3
    have n8:listed.getD 8 false=false:=not_listed (h.tab.closed 8 _ rfl) ⟨6,.data⟩ (by simp) rfl n6
    refine wide_val (W':=W.alloc (.cells #[] 56)) (v:=.slice (some ⟨W.heap.size,0,none⟩) 0 0) (by go_simp) ⟨_,rfl,trivial,?_⟩
    obtain ⟨x1,x2,x3,x4,x5,x6⟩:=h.x.below n8 ((Below.refl _ W).alloc (Nat.le_refl _) (.cells #[] 56))
    unfold WthX
    rw [nextL_ne (show 8≠0 by decide),nextL_at,nextL_ne (show 3≠0 by decide),nextL_ne (show 6≠0 by decide),nextL_ne (show 5≠0 by decide),nextV_at,nextV_ne (show 3≠0 by decide),nextV_ne (show 5≠0 by decide),nextV_ne (show 6≠0 by decide)]
    exact ⟨x1,fun _ _=>⟨W.heap.size,rfl,(h.x.1 n8).size,heap_alloc_new W _⟩,x3,x4,x5,x6⟩
   ·
    have q3:=(h.tab.old 3 (dst_no h.tab (by kernel_rfl))).trans t3
    have q3':b.tmps[3]?.getD undef=_:=(by simpa using q3)
    refine wide_val (v:=.pointer (some ⟨bo,0+1,none⟩)) (by go_simp;try rfl) ⟨_,rfl,rfl,h.x.pure (by decide) (by decide) (by decide) (by decide) (by decide)⟩
   ·
    have l1:=hall ⟨1,.data⟩ (by simp) rfl
    have e1:b.tmps.getD 25 undef = .pointer (some ⟨bo,0+1,none⟩):=(h.tab.val 1 25 rfl l1).trans (h.fact 1 l1)
    have e1':b.tmps[25]?.getD undef = .pointer (some ⟨bo,0+1,none⟩):=(by simpa using e1)
    have n3:listed.getD 3 false=false:=not_listed (h.tab.closed 3 _ rfl) ⟨2,.data⟩ (by simp) rfl hun'
    have n6:listed.getD 6 false=false:=not_listed (h.tab.closed 6 _ rfl) ⟨3,.data⟩ (by simp) rfl n3
    have n8:listed.getD 8 false=false:=not_listed (h.tab.closed 8 _ rfl) ⟨6,.data⟩ (by simp) rfl n6
    obtain ⟨c0,c1,c2,c3,c4,c5⟩:=CE W (h.x.1 n8)
    refine wide_val (v:=.slice SA sn sc) (by go_simp;try rfl) ⟨_,rfl,rfl,h.x.pure (by decide) (by decide) (by decide) (by decide) (by decide)⟩
   ·
    have l0:=hall ⟨0,.data⟩ (by simp) rfl
    have l2:=hall ⟨2,.data⟩ (by simp) rfl
    have e2:b.tmps.getD 26 undef = .slice SA sn sc:=(h.tab.val 2 26 rfl l2).trans (h.fact 2 l2)
    have e2':b.tmps[26]?.getD undef = .slice SA sn sc:=(by simpa using e2)
    have n6:listed.getD 6 false=false:=not_listed (h.tab.closed 6 _ rfl) ⟨3,.data⟩ (by simp) rfl hun'
    have n8:listed.getD 8 false=false:=not_listed (h.tab.closed 8 _ rfl) ⟨6,.data⟩ (by simp) rfl n6
    obtain ⟨g,a0,hg0,h0⟩:=h.x.2.1 l0 hun'
    have e0:b.tmps.getD 24 undef = .slice (some ⟨g,0,none⟩) 0 0:=(h.tab.val 0 24 rfl l0).trans a0
    have f0:b.eval (.tmp 24) = .slice (some ⟨g,0,none⟩) 0 0:=(by simp only [Act.eval];exact e0)
    have f2:b.eval (.tmp 26) = .slice SA sn sc:=(by simp only [Act.eval];exact e2)
    obtain ⟨A',c',wc,hrun,hO,hbl⟩:=run_append_fresh elBound 22 (fun _=>rfl) oneBound h0 hg0 SA xs (HR W (h.x.1 n8)) (by omega) (by omega)
    refine wide_val (W':=wc) (v:=.slice A' sn c') (by simp only [execOp,resolve,invoke,builtin,Sem.run_bind,Sem.run_pure,Result.andThen_ok,List.map_toArray,List.map_cons,List.map_nil,f0,f2,hrun]) ⟨_,rfl,trivial,?_⟩
    obtain ⟨x1,x2,x3,x4,x5,x6⟩:=h.x.below n8 hbl
    unfold WthX
    rw [nextL_ne (show 8≠3 by decide),nextL_ne (show 0≠3 by decide),nextL_at,nextL_ne (show 6≠3 by decide),nextL_ne (show 5≠3 by decide),nextV_ne (show 0≠3 by decide),nextV_at,nextV_ne (show 5≠3 by decide),nextV_ne (show 6≠3 by decide)]
    exact ⟨x1,fun _ e=>(by cases e),fun _ _=>⟨A',c',rfl,hO⟩,x4,x5,x6⟩
   ·
    have q5:=(h.tab.old 5 (dst_no h.tab (by kernel_rfl))).trans t5
    have q5':b.tmps[5]?.getD undef=_:=(by simpa using q5)
    have n5:listed.getD 5 false=false:=not_listed (h.tab.closed 5 _ rfl) ⟨4,.data⟩ (by simp) rfl hun'
    have n6:listed.getD 6 false=false:=not_listed (h.tab.closed 6 _ rfl) ⟨5,.data⟩ (by simp) rfl n5
    have n8:listed.getD 8 false=false:=not_listed (h.tab.closed 8 _ rfl) ⟨6,.data⟩ (by simp) rfl n6
    obtain ⟨c0,c1,c2,c3,c4,c5⟩:=CE W (h.x.1 n8)
    refine wide_val (v:=.agg #[.int .i64 x.src,.int .i64 x.dst,.int .i64 x.most,.int .i64 x.by_]) (by go_simp;try rfl) ⟨_,rfl,rfl,h.x.pure (by decide) (by decide) (by decide) (by decide) (by decide)⟩
   ·
    have l4:=hall ⟨4,.data⟩ (by simp) rfl
    have e4:b.tmps.getD 28 undef = .agg #[.int .i64 x.src,.int .i64 x.dst,.int .i64 x.most,.int .i64 x.by_]:=(h.tab.val 4 28 rfl l4).trans (h.fact 4 l4)
    have e4':b.tmps[28]?.getD undef = .agg #[.int .i64 x.src,.int .i64 x.dst,.int .i64 x.most,.int .i64 x.by_]:=(by simpa using e4)
    have n6:listed.getD 6 false=false:=not_listed (h.tab.closed 6 _ rfl) ⟨5,.data⟩ (by simp) rfl hun'
    have n8:listed.getD 8 false=false:=not_listed (h.tab.closed 8 _ rfl) ⟨6,.data⟩ (by simp) rfl n6
    refine wide_val (W':=W.alloc (.cells #[.int .i64 x.src,.int .i64 x.dst,.int .i64 x.most,.int .i64 x.by_] 56)) (v:=.slice (some ⟨W.heap.size,0,none⟩) 1 1) (by go_simp) ⟨_,rfl,trivial,?_⟩
    obtain ⟨x1,x2,x3,x4,x5,x6⟩:=h.x.below n8 ((Below.refl _ W).alloc (Nat.le_refl _) (.cells #[.int .i64 x.src,.int .i64 x.dst,.int .i64 x.most,.int .i64 x.by_] 56))
    unfold WthX
    rw [nextL_ne (show 8≠5 by decide),nextL_ne (show 0≠5 by decide),nextL_ne (show 3≠5 by decide),nextL_ne (show 6≠5 by decide),nextL_at,nextV_ne (show 0≠5 by decide),nextV_ne (show 3≠5 by decide),nextV_at,nextV_ne (show 6≠5 by decide)]
    exact ⟨x1,x2,x3,fun _ _=>⟨W.heap.size,rfl,Rd.single (enc:=encBound) (k:=4) W #[.int .i64 x.src,.int .i64 x.dst,.int .i64 x.most,.int .i64 x.by_] 56 [x] 1 rfl (by omega) (fun _=>rfl) (by simp [encBound])⟩,x5,x6⟩
   ·
    have l3:=hall ⟨3,.data⟩ (by simp) rfl
    have l5:=hall ⟨5,.data⟩ (by simp) rfl
    have n8:listed.getD 8 false=false:=not_listed (h.tab.closed 8 _ rfl) ⟨6,.data⟩ (by simp) rfl hun'
    obtain ⟨A1,c1,a3,hO⟩:=h.x.2.2.1 l3 hun'
    obtain ⟨g,a5,hrd⟩:=h.x.2.2.2.1 l5 hun'
    have e3:b.tmps.getD 27 undef = .slice A1 sn c1:=(h.tab.val 3 27 rfl l3).trans a3
    have f3:b.eval (.tmp 27) = .slice A1 sn c1:=(by simp only [Act.eval];exact e3)
    have e5:b.tmps.getD 29 undef = .slice (some ⟨g,0,none⟩) 1 1:=(h.tab.val 5 29 rfl l5).trans a5
    have f5:b.eval (.tmp 29) = .slice (some ⟨g,0,none⟩) 1 1:=(by simp only [Act.eval];exact e5)
    obtain ⟨A',c',wc,hrun,hO2,hg,_⟩:=run_append_src elBound 22 (fun _=>rfl) oneBound hO (some ⟨g,0,none⟩) 1 1 [x] hrd (by omega) (by omega) (h.x.1 n8).size
    refine wide_val (W':=wc) (v:=.slice A' (sn+1) c') (by simp only [execOp,resolve,invoke,builtin,Sem.run_bind,Sem.run_pure,Result.andThen_ok,List.map_toArray,List.map_cons,List.map_nil,f3,f5,hrun]) ⟨_,rfl,trivial,?_⟩
    have hb:=(h.x.1 n8).grown hg (h.x.1 n8).size (fun j e=>hO.ltB j e)
    unfold WthX
    rw [nextL_ne (show 8≠6 by decide),nextL_ne (show 0≠6 by decide),nextL_ne (show 3≠6 by decide),nextL_at,nextL_ne (show 5≠6 by decide),nextV_ne (show 0≠6 by decide),nextV_ne (show 3≠6 by decide),nextV_ne (show 5≠6 by decide),nextV_at]
    exact ⟨fun _=>hb,fun _ e=>false_true e l3,fun _ e=>(by cases e),fun _ e=>(by cases e),fun _ _=>⟨A',c',rfl,hO2⟩,fun e=>false_true n8 e⟩
   ·
    have q3:=(h.tab.old 3 (dst_no h.tab (by kernel_rfl))).trans t3
    have q3':b.tmps[3]?.getD undef=_:=(by simpa using q3)
    refine wide_val (v:=.pointer (some ⟨bo,0+1,none⟩)) (by go_simp;try rfl) ⟨_,rfl,rfl,h.x.pure (by decide) (by decide) (by decide) (by decide) (by decide)⟩
   ·
    have l7:=hall ⟨7,.data⟩ (by simp) rfl
    have e7:b.tmps.getD 31 undef = .pointer (some ⟨bo,0+1,none⟩):=(h.tab.val 7 31 rfl l7).trans (h.fact 7 l7)
    have e7':b.tmps[31]?.getD undef = .pointer (some ⟨bo,0+1,none⟩):=(by simpa using e7)
    have l6:=hall ⟨6,.data⟩ (by simp) rfl
    obtain ⟨A',c',a6,hO⟩:=h.x.2.2.2.2.1 l6 hun'
    have e6:b.tmps.getD 30 undef = .slice A' (sn+1) c':=(h.tab.val 6 30 rfl l6).trans a6
    have f6:b.eval (.tmp 30) = .slice A' (sn+1) c':=(by simp only [Act.eval];exact e6)
    have e6':b.tmps[30]?.getD undef = .slice A' (sn+1) c':=(by simpa using e6)
    have l3:=h.tab.closed 6 _ rfl l6 ⟨3,.data⟩ (by simp) rfl
    have hB:=h.x.1 hun'
    obtain ⟨c0,c1,_⟩:=CE W hB
    refine wide_skip (W':=W.setCell ⟨bo,1,none⟩ (.slice A' (sn+1) c')) (by go_simp;try rfl) ⟨_,rfl,trivial,?_⟩
    unfold WthX
    rw [nextL_at,nextL_ne (show 0≠8 by decide),nextL_ne (show 3≠8 by decide),nextL_ne (show 6≠8 by decide),nextL_ne (show 5≠8 by decide),nextV_ne (show 0≠8 by decide),nextV_ne (show 3≠8 by decide),nextV_ne (show 5≠8 by decide),nextV_ne (show 6≠8 by decide)]
    exact ⟨fun e=>(by cases e),fun _ e=>false_true e l3,fun _ e=>false_true e l6,fun _ e=>false_true e l6,fun _ e=>(by cases e),fun _=>⟨W,A',c',a6,hB,hO,rfl⟩⟩
 · intro V W hf hx
   obtain ⟨W0,A',c',v6,hb,hO,rfl⟩:=hx.2.2.2.2.2 rfl
   have:=hQ W0 A' c' (V 0) (V 3) (V 5) hb hO
   have v1:V 1=_:=hf 1 (by decide)
   have v2:V 2=_:=hf 2 (by decide)
   have v4:V 4=_:=hf 4 (by decide)
   have v7:V 7=_:=hf 7 (by decide)
   simp only [List.size_toArray,List.length_cons,List.length_nil,Nat.reduceAdd,framed,dstOf,List.getElem?_toArray,List.getElem?_cons_zero,List.getElem?_cons_succ,Option.bind_some,v1,v2,v4,v6,v7]
   exact this
end Go.Proofs.YtccabpahfmoamaaGreat
end
section
namespace Go.Proofs.YtccabpahfmoamaaGreat
open Go.RowKit Go.Proofs Go.Shelf
set_option maxRecDepth 100000 in
set_option maxHeartbeats 8000000 in
theorem r3With_any (A:Outl) (AwA:Option Addr) (Awn Awc:Nat) (AtA:Option Addr) (Atn Atc:Nat) (turned:Bool) (x:Bound) (w:World) (Aw:Rd encBound 4 w AwA Awn Awc A.ways) (At:Rd encBound 4 w AtA Atn Atc A.turns):
 Calls Tryz.prog 32 #[.agg #[.int .i64 A.n,.slice AwA Awn Awc,.slice AtA Atn Atc],.bool turned,.agg #[.int .i64 x.src,.int .i64 x.dst,.int .i64 x.most,.int .i64 x.by_]] w fun e w'=> ∃ WA wn wc TA tn tc,e = .returned (.tuple #[.agg #[.int .i64 (withV A turned x).1.n,.slice WA wn wc,.slice TA tn tc],.int .i64 (withV A turned x).2])∧Below w.heap.size w w'∧Rd encBound 4 w' WA wn wc (withV A turned x).1.ways∧Rd encBound 4 w' TA tn tc (withV A turned x).1.turns:=by
 have RA:Hid (∀ W,Below w.heap.size w W→Rd encBound 4 W AwA Awn Awc A.ways):=(show ∀ W,_→_ from fun W h=>Aw.below h (Nat.le_refl _))
 have RT:Hid (∀ W,Below w.heap.size w W→Rd encBound 4 W AtA Atn Atc A.turns):=(show ∀ W,_→_ from fun W h=>At.below h (Nat.le_refl _))
 have K1:=Lib.hid (fun W (h:Below w.heap.size w W)=>r3CheckOutline_any A AwA Awn Awc AtA Atn Atc W (RA.out W h) (RT.out W h))
 have hv:withV A turned x=if checkOut A≠0 then (outl0,checkOut A) else if checkOut (withB A turned x)≠0 then (outl0,checkOut (withB A turned x)) else (withB A turned x,0):=rfl
 have la:=Aw.len;have lt:=At.len
 clear Aw At
 obtain ⟨w1,a1,l1,z1,e1⟩:=alloc_facts w (#[.int .i64 A.n,.slice AwA Awn Awc,.slice AtA Atn Atc]) 24
 obtain ⟨w2,a2,l2,z2,e2⟩:=alloc_facts w1 (#[.int .i64 x.src,.int .i64 x.dst,.int .i64 x.most,.int .i64 x.by_]) 56
 rw [z1] at e2 z2
 obtain ⟨w3,a3,l3,z3,e3⟩:=alloc_facts w2 (#[.int .i64 0,.slice none 0 0,.slice none 0 0]) 24
 rw [z2] at e3 z3
 have m2:Below w1.heap.size w1 w3:=l2.trans (l3.mono l2.size)
 have m1:Below w.heap.size w w3:=l1.trans (m2.mono l1.size)
 have HA:=Lib.hid (show ((w.alloc (.cells #[.int .i64 A.n,.slice AwA Awn Awc,.slice AtA Atn Atc] 24)).alloc (.cells #[.int .i64 x.src,.int .i64 x.dst,.int .i64 x.most,.int .i64 x.by_] 56)).alloc (.cells #[.int .i64 0,.slice none 0 0,.slice none 0 0] 24)=w3 by rw [a1,a2,a3])
 have hA3:=(m2.block w.heap.size (by omega)).trans e1
 have hX3:=(l3.block (w.heap.size+1) (by omega)).trans e2
 obtain ⟨b0,b1,b2,_,_,_⟩:=three_facts hA3
 have HM1:=Lib.hid m1
 have HE1:=Lib.hid hA3
 have HE2:=Lib.hid hX3
 have HE3:=Lib.hid e3
 have Z3:=Lib.hid z3
 clear a1 a2 a3 l1 l2 l3 z1 z2 z3 e1 e2 e3 m1 m2 hA3 hX3
 by_cases h1:checkOut A=0
 case neg=>
  rw [if_pos h1] at hv
  rw [hv]
  have h1':(checkOut A != 0)=true:=by simpa using h1
  clear hv h1 la lt
  generalize checkOut A=er at *
  go_enter Tryz.func32,Tryz.ntmps32
  go_wp2_with (first
   | rw [HA.out]
   | (go_at_call 36;(with_reducible refine (K1.out _ HM1.out).mono ?_);rintro e w4 ⟨rfl,hb4⟩
      have hh:=(hb4.block (w.heap.size+1+1) (by have:=Z3.out;omega)).trans HE3.out
      obtain ⟨d0,d1,d2,f0,f1,f2⟩:=three_facts hh
      have HB4:=Lib.hid (HM1.out.trans (hb4.mono HM1.out.size))
      have HH4:=Lib.hid hh
      clear hb4 hh))
  refine bodyPost_ret (results_ct rfl _ _ (w.heap.size+1+1) _ _ (0,0) _ rfl (three_set HH4.out) Tryz.underlying24 rfl (by kernel_rfl)) rfl ?_
  exact ⟨none,0,0,none,0,0,rfl,((HB4.out.setCell (p:=⟨w.heap.size+1+1,0,none⟩) (show w.heap.size≤w.heap.size+1+1 by omega) _).setCell (p:=⟨w.heap.size+1+1,1,none⟩) (show w.heap.size≤w.heap.size+1+1 by omega) _).setCell (p:=⟨w.heap.size+1+1,2,none⟩) (show w.heap.size≤w.heap.size+1+1 by omega) _,Rd.none_ _ _ (by omega),Rd.none_ _ _ (by omega)⟩
 case pos=>
  rw [if_neg (by simpa using h1)] at hv
  rw [h1] at K1
  obtain ⟨_,_,q3,q4⟩:=checkOut_zero.1 h1
  have hla:Awn≤400:=by have:=(checkSys_zero.1 q3).2.2.1;omega
  have hlt:Atn≤400:=by have:=(checkSys_zero.1 q4).2.2.1;omega
  obtain ⟨⟨R,er⟩,hR⟩:∃ q,withV A turned x=q:=⟨_,rfl⟩
  rw [hR] at hv ⊢
  have HV:=Lib.hid hv
  clear q3 q4 h1 hv hR
  cases turned
  · have hCe:withB A false x=⟨A.n,A.ways ++ [x],A.turns⟩:=rfl
    have hv:=HV.out
    rw [hCe] at hv
    have HV2:=Lib.hid hv
    clear hv hCe HV
    go_enter Tryz.func32,Tryz.ntmps32
    go_upto_region 6 with (first
     | rw [HA.out]
     | (go_at_call 36;(with_reducible refine (K1.out _ HM1.out).mono ?_);rintro e w4 ⟨rfl,hb4⟩
        have hh1:=(hb4.block w.heap.size (by have:=Z3.out;omega)).trans HE1.out
        have hh2:=(hb4.block (w.heap.size+1) (by have:=Z3.out;omega)).trans HE2.out
        have hh3:=(hb4.block (w.heap.size+1+1) (by have:=Z3.out;omega)).trans HE3.out
        have HB4:=Lib.hid (HM1.out.trans (hb4.mono HM1.out.size))
        have HH1:=Lib.hid hh1
        have HH2:=Lib.hid hh2
        have HH3:=Lib.hid hh3
        clear hb4 hh1 hh2 hh3))
    have ZZ:Hid (w.heap.size+1+1<w4.heap.size):=(show _<_ from (Array.getElem?_eq_some_iff.1 HH3.out).1)
    clear b0 b1 b2
    have hz:w.heap.size≤w4.heap.size:=HB4.out.size
    have HCE:Hid (∀ W,Below w4.heap.size w4 W→W.cell? ⟨w.heap.size,1,none⟩=some (.slice AwA Awn Awc)∧W.frozen? ⟨w.heap.size,1,none⟩=false∧W.cell? ⟨w.heap.size+1,0,none⟩=some (.int .i64 x.src)∧W.cell? ⟨w.heap.size+1,1,none⟩=some (.int .i64 x.dst)∧W.cell? ⟨w.heap.size+1,2,none⟩=some (.int .i64 x.most)∧W.cell? ⟨w.heap.size+1,3,none⟩=some (.int .i64 x.by_)):=(show ∀ W,_→_ from fun W h=>by
     have q1:=(h.block w.heap.size (by have:=ZZ.out;omega)).trans HH1.out
     have q2:=(h.block (w.heap.size+1) (by have:=ZZ.out;omega)).trans HH2.out
     simp [World.cell?,World.frozen?,q1,q2])
    have RL:Hid (∀ W,Below w4.heap.size w4 W→Rd encBound 4 W AwA Awn Awc A.ways):=(show ∀ W,_→_ from fun W h=>RA.out W (HB4.out.trans (h.mono HB4.out.size)))
    refine wth6 _ rfl w.heap.size (w.heap.size+1) AwA Awn Awc A.ways x _ w4 _ rfl rfl rfl HCE.out RL.out (by omega) ?_
    intro w9 A9 c9 z0 z3 z5 hb9 hO
    have HB9:=Lib.hid hb9
    clear hb9
    all_goals
     obtain ⟨w5,hw5⟩:∃ w5,w9.setCell ⟨w.heap.size,1,none⟩ (.slice A9 (Awn+1) c9)=w5:=⟨_,rfl⟩
     have hh9:=(HB9.out.block w.heap.size (by have:=ZZ.out;omega)).trans HH1.out
     have hr9:=(HB9.out.block (w.heap.size+1+1) (by have:=ZZ.out;omega)).trans HH3.out
     have hh5:w5.heap[w.heap.size]? = some (.cells #[.int .i64 A.n,.slice A9 (Awn+1) c9,.slice AtA Atn Atc] 24 (0,0)):=(by rw [←hw5,heap_setCell_obj hh9];rfl)
     have hr5:w5.heap[w.heap.size+1+1]? = some (.cells #[.int .i64 0,.slice none 0 0,.slice none 0 0] 24 (0,0)):=(by rw [←hw5,Below.heap_setCell _ _ _ _ (show w.heap.size+1+1≠w.heap.size by omega)];exact hr9)
     have HO5:Hid (Own encBound 4 56 w.heap.size w5 A9 (Awn+1) c9 (A.ways ++ [x])):=(show Own _ _ _ _ _ _ _ _ _ by rw [←hw5];exact (own_set hO hh9 (by decide) _).mono hz)
     have HB5:Hid (Below w.heap.size w w5):=(show Below _ _ _ by rw [←hw5];exact (HB4.out.trans (HB9.out.mono HB4.out.size)).setCell (p:=⟨w.heap.size,1,none⟩) (Nat.le_refl _) _)
     rw [hw5]
     obtain ⟨y0,y1,y2,_,_,_⟩:=three_facts hh5
     have K5:=Lib.hid (r3CheckOutline_any ⟨A.n,A.ways ++ [x],A.turns⟩ A9 (Awn+1) c9 AtA Atn Atc w5 (HO5.out.rd (fun _=>rfl) (by omega)) (RT.out _ HB5.out))
     have HH5:=Lib.hid hh5
     have HR5:=Lib.hid hr5
     clear hw5 hh9 hr9 hh5 hr5 hO
     simp only [List.setIfInBounds_toArray,List.set_cons_succ,List.set_cons_zero]
     by_cases hc:checkOut ⟨A.n,A.ways ++ [x],A.turns⟩=0
     · have hv:=HV2.out
       rw [hc,if_neg (by simp)] at hv
       obtain ⟨rfl,rfl⟩:=Prod.mk.injEq _ _ _ _ |>.mp hv
       rw [hc] at K5
       clear hv hc HV2
       go_wp2_with (first
        | (go_at_call 36;(with_reducible refine K5.out.mono ?_);rintro e w6 ⟨rfl,hb6⟩
           have hh6:=(hb6.block _ (Array.getElem?_eq_some_iff.1 HH5.out).1).trans HH5.out
           have hr6:=(hb6.block _ (Array.getElem?_eq_some_iff.1 HR5.out).1).trans HR5.out
           obtain ⟨p0,p1,p2,_,_,_⟩:=three_facts hh6
           obtain ⟨r0,r1,r2,r3,r4,r5⟩:=three_facts hr6
           have HR6:=Lib.hid hr6
           have HB6:=Lib.hid (HB5.out.trans (hb6.mono HB5.out.size))
           have HO6:=Lib.hid (HO5.out.below hb6 (Nat.le_refl _))
           clear hb6 hh6 hr6))
       have hbe:=((HB6.out.setCell (p:=⟨w.heap.size+1+1,0,none⟩) (show w.heap.size≤w.heap.size+1+1 by omega) (.int .i64 A.n)).setCell (p:=⟨w.heap.size+1+1,1,none⟩) (show w.heap.size≤w.heap.size+1+1 by omega) (.slice A9 (Awn+1) c9)).setCell (p:=⟨w.heap.size+1+1,2,none⟩) (show w.heap.size≤w.heap.size+1+1 by omega) (.slice AtA Atn Atc)
       refine bodyPost_ret (results_ct rfl _ _ (w.heap.size+1+1) _ _ (0,0) _ rfl (three_set HR6.out) Tryz.underlying24 rfl (by kernel_rfl)) rfl ?_
       exact ⟨A9,Awn+1,c9,AtA,Atn,Atc,rfl,hbe,(own_set (own_set (own_set HO6.out HR6.out (by decide) _) (heap_setCell_obj HR6.out) (by decide) _) (heap_setCell_obj (heap_setCell_obj HR6.out)) (by decide) _).rd (fun _=>rfl) (by omega),RT.out _ hbe⟩
     · have hv:=HV2.out
       rw [if_pos hc] at hv
       have hc':(checkOut ⟨A.n,A.ways ++ [x],A.turns⟩ != 0)=true:=by simpa using hc
       obtain ⟨rfl,her⟩:=Prod.mk.injEq _ _ _ _ |>.mp hv
       rw [←her] at K5 hc'
       clear hv hc HV2 her
       go_wp2_with (first
        | (go_at_call 36;(with_reducible refine K5.out.mono ?_);rintro e w6 ⟨rfl,hb6⟩
           have hr6:=(hb6.block _ (Array.getElem?_eq_some_iff.1 HR5.out).1).trans HR5.out
           obtain ⟨r0,r1,r2,r3,r4,r5⟩:=three_facts hr6
           have HR6:=Lib.hid hr6
           have HB6:=Lib.hid (HB5.out.trans (hb6.mono HB5.out.size))
           clear hb6 hr6))
       refine bodyPost_ret (results_ct rfl _ _ (w.heap.size+1+1) _ _ (0,0) _ rfl (three_set HR6.out) Tryz.underlying24 rfl (by kernel_rfl)) rfl ?_
       exact ⟨none,0,0,none,0,0,rfl,((HB6.out.setCell (p:=⟨w.heap.size+1+1,0,none⟩) (show w.heap.size≤w.heap.size+1+1 by omega) _).setCell (p:=⟨w.heap.size+1+1,1,none⟩) (show w.heap.size≤w.heap.size+1+1 by omega) _).setCell (p:=⟨w.heap.size+1+1,2,none⟩) (show w.heap.size≤w.heap.size+1+1 by omega) _,Rd.none_ _ _ (by omega),Rd.none_ _ _ (by omega)⟩
  · have hCe:withB A true x=⟨A.n,A.ways,A.turns ++ [x]⟩:=rfl
    have hv:=HV.out
    rw [hCe] at hv
    have HV2:=Lib.hid hv
    clear hv hCe HV
    go_enter Tryz.func32,Tryz.ntmps32
    go_upto_region 5 with (first
     | rw [HA.out]
     | (go_at_call 36;(with_reducible refine (K1.out _ HM1.out).mono ?_);rintro e w4 ⟨rfl,hb4⟩
        have hh1:=(hb4.block w.heap.size (by have:=Z3.out;omega)).trans HE1.out
        have hh2:=(hb4.block (w.heap.size+1) (by have:=Z3.out;omega)).trans HE2.out
        have hh3:=(hb4.block (w.heap.size+1+1) (by have:=Z3.out;omega)).trans HE3.out
        have HB4:=Lib.hid (HM1.out.trans (hb4.mono HM1.out.size))
        have HH1:=Lib.hid hh1
        have HH2:=Lib.hid hh2
        have HH3:=Lib.hid hh3
        clear hb4 hh1 hh2 hh3))
    have ZZ:Hid (w.heap.size+1+1<w4.heap.size):=(show _<_ from (Array.getElem?_eq_some_iff.1 HH3.out).1)
    clear b0 b1 b2
    have hz:w.heap.size≤w4.heap.size:=HB4.out.size
    have HCE:Hid (∀ W,Below w4.heap.size w4 W→W.cell? ⟨w.heap.size,2,none⟩=some (.slice AtA Atn Atc)∧W.frozen? ⟨w.heap.size,2,none⟩=false∧W.cell? ⟨w.heap.size+1,0,none⟩=some (.int .i64 x.src)∧W.cell? ⟨w.heap.size+1,1,none⟩=some (.int .i64 x.dst)∧W.cell? ⟨w.heap.size+1,2,none⟩=some (.int .i64 x.most)∧W.cell? ⟨w.heap.size+1,3,none⟩=some (.int .i64 x.by_)):=(show ∀ W,_→_ from fun W h=>by
     have q1:=(h.block w.heap.size (by have:=ZZ.out;omega)).trans HH1.out
     have q2:=(h.block (w.heap.size+1) (by have:=ZZ.out;omega)).trans HH2.out
     simp [World.cell?,World.frozen?,q1,q2])
    have RL:Hid (∀ W,Below w4.heap.size w4 W→Rd encBound 4 W AtA Atn Atc A.turns):=(show ∀ W,_→_ from fun W h=>RT.out W (HB4.out.trans (h.mono HB4.out.size)))
    refine wth5 _ rfl w.heap.size (w.heap.size+1) AtA Atn Atc A.turns x _ w4 _ rfl rfl rfl HCE.out RL.out (by omega) ?_
    intro w9 A9 c9 z0 z3 z5 hb9 hO
    have HB9:=Lib.hid hb9
    clear hb9
    all_goals
     obtain ⟨w5,hw5⟩:∃ w5,w9.setCell ⟨w.heap.size,2,none⟩ (.slice A9 (Atn+1) c9)=w5:=⟨_,rfl⟩
     have hh9:=(HB9.out.block w.heap.size (by have:=ZZ.out;omega)).trans HH1.out
     have hr9:=(HB9.out.block (w.heap.size+1+1) (by have:=ZZ.out;omega)).trans HH3.out
     have hh5:w5.heap[w.heap.size]? = some (.cells #[.int .i64 A.n,.slice AwA Awn Awc,.slice A9 (Atn+1) c9] 24 (0,0)):=(by rw [←hw5,heap_setCell_obj hh9];rfl)
     have hr5:w5.heap[w.heap.size+1+1]? = some (.cells #[.int .i64 0,.slice none 0 0,.slice none 0 0] 24 (0,0)):=(by rw [←hw5,Below.heap_setCell _ _ _ _ (show w.heap.size+1+1≠w.heap.size by omega)];exact hr9)
     have HO5:Hid (Own encBound 4 56 w.heap.size w5 A9 (Atn+1) c9 (A.turns ++ [x])):=(show Own _ _ _ _ _ _ _ _ _ by rw [←hw5];exact (own_set hO hh9 (by decide) _).mono hz)
     have HB5:Hid (Below w.heap.size w w5):=(show Below _ _ _ by rw [←hw5];exact (HB4.out.trans (HB9.out.mono HB4.out.size)).setCell (p:=⟨w.heap.size,2,none⟩) (Nat.le_refl _) _)
     rw [hw5]
     obtain ⟨y0,y1,y2,_,_,_⟩:=three_facts hh5
     have K5:=Lib.hid (r3CheckOutline_any ⟨A.n,A.ways,A.turns ++ [x]⟩ AwA Awn Awc A9 (Atn+1) c9 w5 (RA.out _ HB5.out) (HO5.out.rd (fun _=>rfl) (by omega)))
     have HH5:=Lib.hid hh5
     have HR5:=Lib.hid hr5
     clear hw5 hh9 hr9 hh5 hr5 hO
     simp only [List.setIfInBounds_toArray,List.set_cons_succ,List.set_cons_zero]
     by_cases hc:checkOut ⟨A.n,A.ways,A.turns ++ [x]⟩=0
     · have hv:=HV2.out
       rw [hc,if_neg (by simp)] at hv
       obtain ⟨rfl,rfl⟩:=Prod.mk.injEq _ _ _ _ |>.mp hv
       rw [hc] at K5
       clear hv hc HV2
       go_wp2_with (first
        | (go_at_call 36;(with_reducible refine K5.out.mono ?_);rintro e w6 ⟨rfl,hb6⟩
           have hh6:=(hb6.block _ (Array.getElem?_eq_some_iff.1 HH5.out).1).trans HH5.out
           have hr6:=(hb6.block _ (Array.getElem?_eq_some_iff.1 HR5.out).1).trans HR5.out
           obtain ⟨p0,p1,p2,_,_,_⟩:=three_facts hh6
           obtain ⟨r0,r1,r2,r3,r4,r5⟩:=three_facts hr6
           have HR6:=Lib.hid hr6
           have HB6:=Lib.hid (HB5.out.trans (hb6.mono HB5.out.size))
           have HO6:=Lib.hid (HO5.out.below hb6 (Nat.le_refl _))
           clear hb6 hh6 hr6))
       have hbe:=((HB6.out.setCell (p:=⟨w.heap.size+1+1,0,none⟩) (show w.heap.size≤w.heap.size+1+1 by omega) (.int .i64 A.n)).setCell (p:=⟨w.heap.size+1+1,1,none⟩) (show w.heap.size≤w.heap.size+1+1 by omega) (.slice AwA Awn Awc)).setCell (p:=⟨w.heap.size+1+1,2,none⟩) (show w.heap.size≤w.heap.size+1+1 by omega) (.slice A9 (Atn+1) c9)
       refine bodyPost_ret (results_ct rfl _ _ (w.heap.size+1+1) _ _ (0,0) _ rfl (three_set HR6.out) Tryz.underlying24 rfl (by kernel_rfl)) rfl ?_
       exact ⟨AwA,Awn,Awc,A9,Atn+1,c9,rfl,hbe,RA.out _ hbe,(own_set (own_set (own_set HO6.out HR6.out (by decide) _) (heap_setCell_obj HR6.out) (by decide) _) (heap_setCell_obj (heap_setCell_obj HR6.out)) (by decide) _).rd (fun _=>rfl) (by omega)⟩
     · have hv:=HV2.out
       rw [if_pos hc] at hv
       have hc':(checkOut ⟨A.n,A.ways,A.turns ++ [x]⟩ != 0)=true:=by simpa using hc
       obtain ⟨rfl,her⟩:=Prod.mk.injEq _ _ _ _ |>.mp hv
       rw [←her] at K5 hc'
       clear hv hc HV2 her
       go_wp2_with (first
        | (go_at_call 36;(with_reducible refine K5.out.mono ?_);rintro e w6 ⟨rfl,hb6⟩
           have hr6:=(hb6.block _ (Array.getElem?_eq_some_iff.1 HR5.out).1).trans HR5.out
           obtain ⟨r0,r1,r2,r3,r4,r5⟩:=three_facts hr6
           have HR6:=Lib.hid hr6
           have HB6:=Lib.hid (HB5.out.trans (hb6.mono HB5.out.size))
           clear hb6 hr6))
       refine bodyPost_ret (results_ct rfl _ _ (w.heap.size+1+1) _ _ (0,0) _ rfl (three_set HR6.out) Tryz.underlying24 rfl (by kernel_rfl)) rfl ?_
       exact ⟨none,0,0,none,0,0,rfl,((HB6.out.setCell (p:=⟨w.heap.size+1+1,0,none⟩) (show w.heap.size≤w.heap.size+1+1 by omega) _).setCell (p:=⟨w.heap.size+1+1,1,none⟩) (show w.heap.size≤w.heap.size+1+1 by omega) _).setCell (p:=⟨w.heap.size+1+1,2,none⟩) (show w.heap.size≤w.heap.size+1+1 by omega) _,Rd.none_ _ _ (by omega),Rd.none_ _ _ (by omega)⟩
end Go.Proofs.YtccabpahfmoamaaGreat
end

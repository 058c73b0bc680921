/- Contracts that the laws lean on: FewP, RFeR, RFew. -/
import Derived.Test.YtccabpahfmoamaaGreatME49
set_option maxRecDepth 100000
set_option maxHeartbeats 16000000
section
namespace Go.Proofs.YtccabpahfmoamaaGreat
open Go.RowKit Go.Proofs Go.Shelf
def fewStep (x y:List Int) (b:Bound):List Int:=if rAt x b.src<farV then rPut y b.dst (min (rAt y b.dst) (rAt x b.src+b.most)) else y
def fewTo (bs:List Bound) (x y0:List Int):Nat→List Int
 | 0=>y0
 | k+1=>match bs[k]? with
   | some b=>fewStep x (fewTo bs x y0 k) b
   | none=>fewTo bs x y0 k
def fewRow (m:Nat) (bs:List Bound) (x:List Int):List Int:=fewTo bs x (List.replicate m farV) bs.length
def fewIter (m:Nat) (bs:List Bound) (p:Nat):Nat→List Int
 | 0=>(List.replicate m farV).set p 0
 | k+1=>fewRow m bs (fewIter m bs p k)
theorem fewStep_len (x y:List Int) (b:Bound):(fewStep x y b).length=y.length:=by
 unfold fewStep;split<;>simp [rPut]
theorem fewTo_len (bs:List Bound) (x y0:List Int):∀ k,(fewTo bs x y0 k).length=y0.length
 | 0=>rfl
 | k+1=>by
   unfold fewTo
   split
   · rw [fewStep_len,fewTo_len bs x y0 k]
   · exact fewTo_len bs x y0 k
theorem fewTo_next {bs:List Bound} {x y0:List Int} {k:Nat} {b:Bound} (h:bs[k]? = some b):fewTo bs x y0 (k+1)=fewStep x (fewTo bs x y0 k) b:=by rw [fewTo,h]
theorem fewTo_law {bs:List Bound} {x y0:List Int} (hd:∀ b∈bs,b.dst.toNat<y0.length):∀ k,k≤bs.length→
 (∀ v,val (fewTo bs x y0 k) v≤val y0 v)∧(∀ b∈bs.take k,val x b.src.toNat<farV→val (fewTo bs x y0 k) b.dst.toNat≤val x b.src.toNat+b.most)∧
 (∀ v,val (fewTo bs x y0 k) v=val y0 v∨∃ b∈bs,b.dst.toNat=v∧val x b.src.toNat<farV∧val (fewTo bs x y0 k) v=val x b.src.toNat+b.most)
 | 0,_=>⟨fun _=>Int.le_refl _,fun b h=>by simp at h,fun _=> .inl rfl⟩
 | k+1,hk=>by
   obtain ⟨i1,i2,i3⟩:=fewTo_law hd (x:=x) k (by omega)
   have hb:bs[k]? = some bs[k]:=List.getElem?_eq_getElem (by omega)
   have hm:bs[k]∈bs:=List.getElem_mem _
   have hl:bs[k].dst.toNat<(fewTo bs x y0 k).length:=by rw [fewTo_len];exact hd _ hm
   rw [fewTo_next hb]
   generalize bs[k]=b at *
   have ht:bs.take (k+1)=bs.take k ++ [b]:=by rw [List.take_add_one,hb];rfl
   unfold fewStep
   rw [rAt_val,rAt_val]
   by_cases hf:val x b.src.toNat<farV
   · rw [if_pos hf]
     have hv:∀ v,val (rPut (fewTo bs x y0 k) b.dst (min (val (fewTo bs x y0 k) b.dst.toNat) (val x b.src.toNat+b.most))) v=if b.dst.toNat=v then min (val (fewTo bs x y0 k) b.dst.toNat) (val x b.src.toNat+b.most) else val (fewTo bs x y0 k) v:=fun v=>val_set _ _ _ _ hl
     refine ⟨fun v=> ?_,fun c hc hcf=> ?_,fun v=> ?_⟩
     · rw [hv]
       have:=i1 v
       split
       · rename_i e;subst e;omega
       · exact this
     · rw [hv]
       rw [ht] at hc
       rcases List.mem_append.1 hc with hc|hc
       · have:=i2 c hc hcf
         split
         · rename_i e;rw [e];omega
         · exact this
       · have:c=b:=by simpa using hc
         subst this
         rw [if_pos rfl];omega
     · rw [hv]
       split
       · rename_i e
         subst e
         rcases Int.le_total (val (fewTo bs x y0 k) b.dst.toNat) (val x b.src.toNat+b.most) with h|h
         · rw [Int.min_eq_left h];exact i3 _
         · rw [Int.min_eq_right h];exact .inr ⟨b,hm,rfl,hf,rfl⟩
       · exact i3 v
   · rw [if_neg hf]
     refine ⟨i1,fun c hc hcf=> ?_,i3⟩
     rw [ht] at hc
     rcases List.mem_append.1 hc with hc|hc
     · exact i2 c hc hcf
     · have:c=b:=by simpa using hc
       subst this
       exact absurd hcf hf
section
variable {pts:Int} {bs:List Bound}
theorem few_low (h:SysOk pts bs) {p:Nat} (hp:p<pts.toNat):∀ (k v:Nat),v<pts.toNat→val (fewIter pts.toNat bs p k) v<farV→∃ ws:List Bound,(∀ b∈ws,b∈bs)∧ws.length=k∧isWalk p ws v∧sumW ws=val (fewIter pts.toNat bs p k) v
 | 0,v,hv,hlt=>by
   unfold fewIter at hlt ⊢
   rw [val_set _ _ _ _ (by simpa using hp),val_replicate,if_pos hv] at hlt ⊢
   by_cases e:p=v
   · rw [if_pos e]
     exact ⟨[],by simp,rfl,e,rfl⟩
   · rw [if_neg e] at hlt;omega
 | k+1,v,hv,hlt=>by
   have hd:∀ b∈bs,b.dst.toNat<(List.replicate pts.toNat farV).length:=fun b hb=>by rw [List.length_replicate];exact ((sys_in4 h) b hb).2.1
   unfold fewIter fewRow at hlt ⊢
   obtain ⟨_,_,i3⟩:=fewTo_law hd (x:=fewIter pts.toNat bs p k) bs.length (Nat.le_refl _)
   rcases i3 v with e|⟨b,hb,hbv,hbf,e⟩
   · rw [e,val_replicate,if_pos hv] at hlt;omega
   · obtain ⟨ws,w1,w2,w3,w4⟩:=few_low h hp k b.src.toNat ((sys_in4 h) b hb).1 hbf
     refine ⟨ws ++ [b],fun c hc=> ?_,by simp [w2],isWalk_append.2 ⟨_,w3,rfl,hbv⟩,?_⟩
     · rcases List.mem_append.1 hc with hc|hc
       · exact w1 c hc
       · have:c=b:=by simpa using hc
         subst this;exact hb
     · rw [sumW_append,w4,e];simp [sumW]
theorem few_high (h:SysOk pts bs) {p:Nat} (hp:p<pts.toNat):∀ (k v:Nat) (ws:List Bound),k≤100→(∀ b∈ws,b∈bs)→ws.length=k→isWalk p ws v→val (fewIter pts.toNat bs p k) v≤sumW ws∧sumW ws≤1000000 * k
 | 0,v,ws,_,_,hl,hw=>by
   obtain rfl:=List.eq_nil_of_length_eq_zero hl
   obtain rfl:p=v:=hw
   unfold fewIter
   rw [val_set _ _ _ _ (by simpa using hp),if_pos rfl]
   simp [sumW]
 | k+1,v,ws,hk,hs,hl,hw=>by
   have hne:ws ≠ []:=fun e=>by rw [e] at hl;simp at hl
   obtain ⟨us,b,rfl⟩:∃ us b,ws=us ++ [b]:=⟨ws.dropLast,ws.getLast hne,(List.dropLast_concat_getLast hne).symm⟩
   obtain ⟨q,h1,h2,h3⟩:=isWalk_append.1 hw
   have hbm:b∈bs:=hs b (by simp)
   have h3':b.dst.toNat=v:=h3
   obtain ⟨g1,g2⟩:=few_high h hp k q us (by omega) (fun c hc=>hs c (by simp [hc])) (by simpa using hl) h1
   have hd:∀ b∈bs,b.dst.toNat<(List.replicate pts.toNat farV).length:=fun b hb=>by rw [List.length_replicate];exact ((sys_in4 h) b hb).2.1
   unfold fewIter fewRow
   obtain ⟨_,i2,_⟩:=fewTo_law hd (x:=fewIter pts.toNat bs p k) bs.length (Nat.le_refl _)
   have h2':b.src.toNat=q:=h2
   have hfar:farV=1000000000:=rfl
   have h4:=i2 b (by rw [List.take_length];exact hbm) (by rw [h2'];omega)
   rw [h2',h3'] at h4
   have h5:=((sys_in4 h) b hbm).2.2.2
   rw [sumW_append]
   simp only [sumW]
   omega
structure FewInv (m:Nat) (bs:List Bound) (a best:Nat):Prop where
 is:best=0∨∃ p,p<m∧1≤best∧best≤m∧val (fewIter m bs p best) p<0
 no:∀ p k,p<a→1≤k→k≤m→(best=0∨k<best)→¬val (fewIter m bs p k) p<0
structure FewMid (m:Nat) (bs:List Bound) (a many best:Nat):Prop where
 inv:FewInv m bs a best
 mid:∀ k,1≤k→k<many→(best=0∨k<best)→¬val (fewIter m bs a k) a<0
theorem FewInv.zero (m:Nat) (bs:List Bound):FewInv m bs 0 0:=⟨.inl rfl,fun p k h=>absurd h (by omega)⟩
theorem FewMid.start {m a best:Nat} (h:FewInv m bs a best):FewMid m bs a 1 best:=⟨h,fun k h1 h2=>absurd h2 (by omega)⟩
theorem FewMid.next {m a many best:Nat} (h:FewMid m bs a many best) (_:best=0∨many<best) (hv:¬val (fewIter m bs a many) a<0):FewMid m bs a (many+1) best:=
 ⟨h.inv,fun k k1 k2 k3=>by
   by_cases e:k=many
   · rw [e];exact hv
   · exact h.mid k k1 (by omega) k3⟩
theorem FewMid.hit {m a many best:Nat} (h:FewMid m bs a many best) (ha:a<m) (h0:1≤many) (hm:many≤m) (h1:best=0∨many<best) (hv:val (fewIter m bs a many) a<0):FewMid m bs a (many+1) many:=
 ⟨⟨.inr ⟨a,ha,h0,hm,hv⟩,fun p k p1 k1 k2 k3=>h.inv.no p k p1 k1 k2 (by omega)⟩,fun k k1 k2 k3=>h.mid k k1 (by omega) (by omega)⟩
theorem FewMid.done {m a many best:Nat} (h:FewMid m bs a many best) (hm:m<many∨(best≠0∧best≤many)):FewInv m bs (a+1) best:=
 ⟨h.inv.is,fun p k p1 k1 k2 k3=>by
   by_cases e:p=a
   · rw [e];exact h.mid k k1 (by omega) k3
   · exact h.inv.no p k (by omega) k1 k2 k3⟩
theorem few_law (h:SysOk pts bs) {best:Nat} (hi:FewInv pts.toNat bs pts.toNat best):best=(circleX pts bs).length:=by
 have hp:=h.p2
 have hfar:farV=1000000000:=rfl
 have hneg:best≠0→∃ p ws,(∀ b∈ws,b∈bs)∧ws.length=best∧isWalk p ws p∧sumW ws<0:=fun hb=>by
  rcases hi.is with e|⟨p,p1,p2,p3,p4⟩
  · exact absurd e hb
  · obtain ⟨ws,w1,w2,w3,w4⟩:=few_low h p1 best p p1 (by omega)
    exact ⟨p,ws,w1,w2,w3,by omega⟩
 rcases circle_law h with ⟨e,hno⟩|⟨p,ws,hpp,_,hl,hne,hs,hw,hn,hmin⟩
 · rw [e]
   by_cases hb:best=0
   · rw [hb];rfl
   · obtain ⟨p,ws,w1,_,w3,w4⟩:=hneg hb
     have:=hno p ws w1 w3
     omega
 · rw [hl]
   have hsm:=least_simple hs hw hn hmin
   have hlen:ws.length≤pts.toNat:=by
    have:=nodup_range hsm (n:=pts.toNat) (fun x hx=>by
     unfold leaves at hx
     obtain ⟨b,hb,rfl⟩:=List.mem_map.1 hx
     exact ((sys_in4 h) b (hs b hb)).1)
    simpa [leaves] using this
   have hpos:0<ws.length:=List.length_pos_iff.2 hne
   obtain ⟨g1,_⟩:=few_high h hpp ws.length p ws (by omega) hs rfl hw
   by_cases hb:best=0
   · exact absurd (show val (fewIter pts.toNat bs p ws.length) p<0 by omega) (hi.no p ws.length hpp hpos hlen (.inl hb))
   · obtain ⟨q,vs,v1,v2,v3,v4⟩:=hneg hb
     have h1:=hmin q vs v1 v3 v4
     by_cases h2:ws.length<best
     · exact absurd (show val (fewIter pts.toNat bs p ws.length) p<0 by omega) (hi.no p ws.length hpp hpos hlen (.inr h2))
     · omega
end
end Go.Proofs.YtccabpahfmoamaaGreat
end
section
namespace Go.Proofs.YtccabpahfmoamaaGreat
open Go.RowKit Go.Proofs
def codeFew24:Option Code→Code
 | some (.seq _ (.seq _ (.seq (.seq _ (.block _ (.loop (.seq _ (.seq (.block _ (.seq _ (.seq _ (.seq _ (.seq _ (.block _ (.loop (.seq _ (.seq (.block _ (.seq _ (.seq _ (.seq (.seq _ (.block _ (.loop (.seq _ (.seq (.block _ (.seq _ (.seq _ (.cond _ c _)))) _))))) _)))) _))))))))) _))))) _)))=>c
 | _=> .skip
def FewCells (bx by_ pb sN dN:Nat) (mo xs yd:Int) (w:World):Prop:=∀ W,Below w.heap.size w W→W.cell? ⟨pb,0,none⟩=some (.int .i64 sN)∧W.cell? ⟨pb,1,none⟩=some (.int .i64 dN)∧W.cell? ⟨pb,2,none⟩=some (.int .i64 mo)∧W.cell? ⟨bx,sN,none⟩=some (.int .i64 xs)∧W.cell? ⟨by_,dN,none⟩=some (.int .i64 yd)∧W.frozen? ⟨by_,dN,none⟩=false
def FewI (by_ dN:Nat) (v:Int) (w:World):List Value→World→Prop
 | [],W=>Below w.heap.size w W
 | [_],W=> ∃ W0,Below w.heap.size w W0∧W=W0.setCell ⟨by_,dN,none⟩ (.int .i64 v)
 | _,_=>False
def Trfew24 (bx m xc by_ yc pb sN dN:Nat) (mo _ xs yd:Int) (cv:List Value):List Value:=
 [.slice (some ⟨by_,0,none⟩) m yc,.pointer (some ⟨pb,0+1,none⟩),.int .i64 dN,.slice (some ⟨by_,0,none⟩) m yc,.pointer (some ⟨pb,0+1,none⟩),.int .i64 dN,.pointer (some ⟨by_,dN,none⟩),.int .i64 yd,.slice (some ⟨bx,0,none⟩) m xc,.pointer (some ⟨pb,0,none⟩),.int .i64 sN,.pointer (some ⟨bx,sN,none⟩),.int .i64 xs,.pointer (some ⟨pb,0+2,none⟩),.int .i64 mo,.int .i64 (xs+mo),.int .i64 (min yd (xs+mo)),.pointer (some ⟨by_,dN,none⟩),cv.getD 0 undef]
theorem rfew24 (cC:Code) (hc:cC=codeFew24 Tryz.f99.body) (bx m xc by_ yc pb sN dN:Nat) (mo yy xs yd:Int) (a:Act) (w:World) (Q:Exit→Act→World→Prop)
 (hT:a.tmps.size=101) (t5:a.tmps.getD 5 undef = .slice (some ⟨bx,0,none⟩) m xc) (t8:a.tmps.getD 8 undef = .slice (some ⟨by_,0,none⟩) m yc) (t11:a.tmps.getD 11 undef = .pointer (some ⟨pb,0,none⟩))
 (CE:FewCells bx by_ pb sN dN mo xs yd w) (hs:sN<m) (hd:dN<m) (_:m≤1000000) (hw:IntKind.i64.wrap (xs+mo)=xs+mo)
 (hQ:∀ W,Below w.heap.size w W→Q .normal { tmps:=setsL a.tmps 75 ((Trfew24 bx m xc by_ yc pb sN dN mo yy xs yd []).take 18),defers:=a.defers } (W.setCell ⟨by_,dN,none⟩ (.int .i64 (min yd (xs+mo))))):
 cC.wp Tryz.prog Q a w:=by
 subst hc
 unfold codeFew24 Tryz.f99
 dsimp only
 refine wpIn_wide.1 (wpIn_region_chain (nn:=5) 101 (by kernel_rfl) (by kernel_rfl) (by kernel_rfl) hT (fun i cv=>(Trfew24 bx m xc by_ yc pb sN dN mo yy xs yd cv).getD i undef) (fun i=>([0,0,0,0,0,0,0,0,0,0,0,0,0,0,0,0,0,0,0]:List Nat).getD i 0) (fun i=>([0,0,0,0,0,0,0,0,0,0,0,0,0,0,0,0,0,0,1]:List Nat).getD i 0) [18] (by kernel_rfl) (by kernel_rfl) (by kernel_rfl) (by kernel_rfl) (FewI by_ dN (min yd (xs+mo)) w) ((Below.refl _ _).drew) (fun b cv hE hold=> ?_) (fun cv W hl hI=> ?_))
 · clear hQ
   have q5:=hold 5 _ (by kernel_rfl) t5
   have q8:=hold 8 _ (by kernel_rfl) t8
   have q11:=hold 11 _ (by kernel_rfl) t11
   simp only [factsL,Vc,idxC,Trfew24,List.getD_cons_zero,List.getD_cons_succ,Nat.reduceAdd,Nat.reduceEqDiff,reduceIte,Option.map_none] at hE
   repeat' first|exact chain_nil|refine chain_op 0 rfl rfl ?_ ?_|refine chain_skip rfl rfl rfl rfl ?_|refine chain_quiet rfl rfl ?_ ?_
   all_goals intro hl
   any_goals (
    intro hl2;simp only [List.getD_cons_zero,List.getD_cons_succ,Nat.reduceAdd] at hl hl2
    first
     | (obtain rfl:=List.eq_nil_of_length_eq_zero (Nat.le_zero.1 hl2);intro W hW;have hWb:Below w.heap.size w W:=hW;obtain ⟨b0,b1,b2,a0,a1,f1⟩:=CE W hWb;simp only [Trfew24,List.getD_cons_zero,List.getD_cons_succ,Nat.reduceAdd]
        first
         | (refine .inl ?_;go_simp;done)
         | (refine .inl ?_;go_simp;rfl)
         | (refine .inl ?_;go_simp;simp [*];done)
         | (refine .inl ?_;go_simp;simp [*];rfl)
         | (refine .inl ?_;go_simp;(simp only [min_def];split<;>rfl))
         | (refine .inl ?_;go_simp;(simp [min_def];done)))
    done)
   · obtain rfl:=List.eq_nil_of_length_eq_zero hl
     intro W hW
     have hWb:Below w.heap.size w W:=hW
     obtain ⟨b0,b1,b2,a0,a1,f1⟩:=CE W hWb
     refine .inl ⟨undef,_,.inr ⟨?_,rfl⟩,W,hWb,rfl⟩
     go_simp
 · match cv,hl,hI with
   | [_],_,⟨W0,h0,e⟩=>subst e;exact hQ W0 h0
open Go.Shelf
theorem rfewest1_any (pts:Int) (A:Option Addr) (n c:Nat) (bs:List Bound) (w:World) (hl:Rd encBound 4 w A n c bs) (hs:SysOk pts bs):
 Calls Tryz.prog 99 #[.agg #[.int .i64 pts,.slice A n c]] w fun e w'=> ∃ best:Nat,e = .returned (.int .i64 best)∧FewInv pts.toNat bs pts.toNat best∧Below w.heap.size w w':=by
 have hp51:=hs.p2
 have hp1:=hs.p1
 have hn:=hs.len
 obtain ⟨m,hm⟩:∃ m:Nat,(m:Int)=pts:=⟨pts.toNat,by omega⟩
 subst hm
 have HIN:Hid (∀ b∈bs,b.src.toNat<m∧b.dst.toNat<m∧ -1000000≤b.most∧b.most≤1000000):=(show ∀ b∈bs,_ from fun b h=>by have:=sys_in4 hs b h;rwa [Int.toNat_natCast] at this)
 have HP:=Lib.hid (show ∀ b∈bs,0≤b.src∧0≤b.dst from fun b h=>by have:=hs.b b h;exact ⟨by omega,by omega⟩)
 rw [Int.toNat_natCast]
 have hnl:=hl.len
 have HNL:=Lib.hid hnl
 have hm60:m≤60:=by omega
 have hm0:0<m:=by omega
 have hn400:n≤400:=by omega
 have SE:=Lib.hid (sysBox m A n c w)
 obtain ⟨w1,hw1⟩:∃ w1,w.alloc (.cells #[.int .i64 m,.slice A n c] 73)=w1:=⟨_,rfl⟩
 have hb1:Below w.heap.size w w1:=(by rw [←hw1];exact (Below.refl _ w).alloc (Nat.le_refl _) _)
 rw [hw1] at SE
 have HL:=Lib.hid (hl.below hb1 (Nat.le_refl _))
 have HB1:=Lib.hid hb1
 have HW1:=Lib.hid hw1
 have HZ1:=Lib.hid (show w1.heap.size=w.heap.size+1 from by rw [←hw1];simp)
 have HI0:=Lib.hid (FewInv.zero m bs)
 obtain ⟨s0,s1⟩:=SE.out w1 (Below.refl _ _)
 clear hl hs hb1 hw1 hp51 hp1 hn hnl
 go_enter Tryz.func99,Tryz.ntmps99
 go_wp2_with (rw [HW1.out])
 clear s0 s1
 go_loopw [3,4] (fun s3 s4 wr=> ∃ (best a:Nat),a≤m∧best≤m∧s3 = .int .i64 best∧s4 = .int .i64 a∧Hid (Below w1.heap.size w1 wr)∧Hid (FewInv m bs a best)) (fun _ s4 _=>m-(intOf s4).toNat)
 case atStart=>exact ⟨0,0,Nat.zero_le _,Nat.zero_le _,rfl,rfl,(show Below _ _ _ from Below.refl _ _),HI0⟩
 case round=>
  obtain ⟨best,a,ha,hbm,rfl,rfl,hbl,hinv⟩:=hrel
  rename World=>wo
  have hzr:=hbl.out.size
  obtain ⟨s0,s1⟩:=SE.out wo hbl.out
  have hwl:w.heap.size<wo.heap.size:=(by have:=HZ1.out;omega)
  by_cases ham:a<m
  case neg=>
   have hae:a=m:=by omega
   subst hae
   go_wp2
   go_ret
   exact ⟨best,rfl,hinv.out,HB1.out.trans (hbl.out.mono HB1.out.size)⟩
  case pos=>
   go_wp2
   clear s0 s1
   go_loopw [5,6] (fun s5 s6 wr=> ∃ (k:Nat) (A':Option Addr) (c':Nat),k≤m∧s5 = .slice A' k c'∧s6 = .int .i64 k∧Hid (Below w1.heap.size w1 wr)∧Hid (Own encInt 1 3 w1.heap.size wr A' k c' (List.replicate k farV))) (fun _ s6 _=>m-(intOf s6).toNat)
   case atStart=>exact ⟨0,none,0,Nat.zero_le _,rfl,rfl,hbl,(show Own _ _ _ _ _ _ _ _ _ from Own.none_ _ _ _ _ _)⟩
   case round=>
    obtain ⟨k,A',c',hk,rfl,rfl,hb2,hO⟩:=hrel
    rename World=>w2
    have hz2:=hb2.out.size
    have hwl2:w.heap.size<w2.heap.size:=(by have:=HZ1.out;omega)
    obtain ⟨s0,s1⟩:=SE.out w2 hb2.out
    by_cases hlt:k<m
    · have hO1:=hO.out.alloc (.cells #[.int .i64 1000000000] 3)
      have hrd1:=Rd.single (enc:=encInt) (k:=1) w2 #[.int .i64 1000000000] 3 [farV] 1 rfl (by omega) (fun _=>rfl) (by simp [encInt,farV])
      have HBA:=Lib.hid (hb2.out.alloc hz2 (.cells #[.int .i64 1000000000] 3))
      go_wp2_with (at_builtin;refine wpList_append_src elInt (fun _=>rfl) oneInt rfl _ _ rfl _ _ _ _ rfl rfl hO1 hrd1 (by omega) (by decide) (by simp;omega) ?_;intro A8 c8 w8 hO8 hg8 hA8
                   have HB8:=Lib.hid (HBA.out.grown hg8 (by simp;omega) (fun j e=>hO1.ltB j e))
                   have HO8:=Lib.hid hO8
                   clear hO8 hg8 hA8)
      go_roundw
      all_goals first
       | (simp [intOf];omega)
       | exact ⟨k+1,A8,c8,by omega,rfl,by go_num,HB8.out,(show Own _ _ _ _ _ _ _ _ _ by rw [List.replicate_succ'];exact HO8.out)⟩
    · have hkm:k=m:=by omega
      subst hkm
      obtain ⟨g,rfl⟩:∃ g,A'=some ⟨g,0,none⟩:=by
       rcases hO.out.form with ⟨_,h0,_⟩|⟨g,h,_⟩
       · omega
       · exact ⟨g,h⟩
      have hgl:=hO.out.lt
      have f0:=hO.out.free a
      have ca:w2.cell? ⟨g,a,none⟩=some (.int .i64 farV):=by
       have:=hO.out.cells (fun _=>rfl) (i:=a) (x:=farV) (by rw [List.getElem?_replicate,if_pos ham]) 0 _ rfl
       rw [Nat.mul_one,Nat.add_zero] at this
       exact this
      obtain ⟨o1,o2⟩:=hO.out.set (fun _=>rfl) (i:=a) ham 0
      have hst:w2.setCells g (a * 1) (encInt 0)=w2.setCell ⟨g,a,none⟩ (.int .i64 0):=by simp [encInt,World.setCells]
      rw [hst] at o1
      have hbs:=hb2.out.setCell (p:=⟨g,a,none⟩) hgl.1 (.int .i64 0)
      obtain ⟨ws,hws⟩:∃ ws,w2.setCell ⟨g,a,none⟩ (.int .i64 0)=ws:=⟨_,rfl⟩
      rw [hws] at o1 hbs
      have HWS:=Lib.hid hws
      have HBS:=Lib.hid hbs
      have HOS:=Lib.hid o1
      clear hst o1 o2 hws hbs hO
      go_wp2_with (rw [HWS.out])
      clear s0 s1 f0 ca
      go_loopw [3,5,7] (fun s3 s5 s7 wr=> ∃ (best many g c':Nat) (xs:List Int),1≤many∧many≤k+1∧best≤k∧s3 = .int .i64 best∧s5 = .slice (some ⟨g,0,none⟩) k c'∧s7 = .int .i64 many∧Hid (Below w1.heap.size w1 wr)∧Hid (Own encInt 1 3 w1.heap.size wr (some ⟨g,0,none⟩) k c' xs)∧Hid (xs=fewIter k bs a (many-1))∧Hid (FewMid k bs a many best)∧Hid (∀ v∈xs,-(1000000 * ((many-1:Nat):Int))≤v∧v≤1000000000)) (fun _ _ s7 _=>k+1-(intOf s7).toNat)
      case atStart=>exact ⟨best,1,g,c',_,Nat.le_refl _,by omega,hbm,rfl,rfl,rfl,HBS,HOS,(show _=_ from rfl),(show FewMid _ _ _ _ _ from FewMid.start hinv.out),(show ∀ v∈_,_∧_ from fun v hv=>by
       rcases List.mem_or_eq_of_mem_set hv with h3|h3
       · rw [List.eq_of_mem_replicate h3];unfold farV;omega
       · subst h3;omega)⟩
      case round=>
       clear hinv hbm hgl
       obtain ⟨best,many,g,c',xs,hm1,hmk,hbm,rfl,rfl,rfl,hb3,hO3,hxs,hmid,hel⟩:=hrel
       rename World=>w3
       have hz3:=hb3.out.size
       have hwl3:w.heap.size<w3.heap.size:=(by have:=HZ1.out;omega)
       obtain ⟨s0,s1⟩:=SE.out w3 hb3.out
       have hxl:=hO3.out.len
       by_cases hbody:many≤k∧(best=0∨many<best)
       case neg=>
        have HDN:=Lib.hid (FewMid.done hmid.out (by omega))
        by_cases h1:many≤k
        · have h2:¬best=0:=fun h=>hbody ⟨h1,.inl h⟩
          have h3:¬many<best:=fun h=>hbody ⟨h1,.inr h⟩
          have d1:((best:Int)==0)=false:=(by simp;omega)
          have d2:decide ((many:Int)≤(k:Int))=true:=decide_eq_true (by omega)
          have d3:decide ((many:Int)<(best:Int))=false:=decide_eq_false (by omega)
          clear hbody
          go_wp2
          go_roundw
          all_goals first
           | (simp [intOf];omega)
           | exact ⟨best,a+1,by omega,hbm,rfl,by go_num,hb3,HDN⟩
        · have d2:decide ((many:Int)≤(k:Int))=false:=decide_eq_false (by omega)
          clear hbody
          go_wp2
          go_roundw
          all_goals first
           | (simp [intOf];omega)
           | exact ⟨best,a+1,by omega,hbm,rfl,by go_num,hb3,HDN⟩
       case pos=>
        obtain ⟨hmk2,hbb⟩:=hbody
        have HBB:=Lib.hid hbb
        have d2:decide ((many:Int)≤(k:Int))=true:=decide_eq_true (by omega)
        have hO0:=Own.fresh encInt 1 3 w3 (Nat.le_refl _)
        have hx1:=(hO3.out.rd (fun _=>rfl) (by omega)).alloc (.cells #[] 3)
        have HBA:=Lib.hid ((Below.refl w3.heap.size w3).alloc (Nat.le_refl _) (.cells #[] 3))
        by_cases hb0:best=0
        all_goals
         first
          | (have d1:((best:Int)==0)=true:=(by rw [hb0];rfl))
          | (have d1:((best:Int)==0)=false:=(by simp;omega)
             have d3:many<best:=(by have:=HBB.out;omega))
         clear hb0 hbb
         go_wp2_with (at_builtin;refine wpList_append_src elInt (fun _=>rfl) oneInt rfl _ _ rfl _ _ _ _ rfl rfl hO0 hx1 (by omega) (by decide) (by simp) ?_;intro A8 c8 w8 hO8 hg8 hA8
                      have HB8:=Lib.hid (HBA.out.grown hg8 (by simp) (fun j e=>hO0.ltB j e))
                      have HO8:=Lib.hid hO8
                      clear hO8 hg8 hA8)
         clear s0 s1 hO0 hx1
         obtain ⟨gy,hgy⟩:∃ gy,A8=some ⟨gy,0,none⟩:=by
          rcases HO8.out.form with ⟨_,h0,_⟩|⟨g,h,_⟩
          · omega
          · exact ⟨g,h⟩
         subst hgy
         have hgy3:w3.heap.size≤gy:=HO8.out.lt.1
         have HO9:Hid (Own encInt 1 3 w1.heap.size w8 (some ⟨gy,0,none⟩) k c8 xs):=(show Own _ _ _ _ _ _ _ _ _ from by have:=HO8.out.mono hz3;simpa using this)
         have HX8:=Lib.hid (hO3.out.below HB8.out (Nat.le_refl _))
         have hgx:=hO3.out.lt
         have HB38:=Lib.hid (hb3.out.trans (HB8.out.mono hz3))
         clear HO8
         go_loopw [9] (fun s9 wr=> ∃ (i:Nat) (ys:List Int),i≤k∧s9 = .int .i64 i∧ys.length=k∧Hid (Below w1.heap.size w1 wr)∧Hid (Own encInt 1 3 w1.heap.size wr (some ⟨g,0,none⟩) k c' xs)∧Hid (Own encInt 1 3 w1.heap.size wr (some ⟨gy,0,none⟩) k c8 ys)∧Hid (∀ j,j<i→ys[j]? = some farV)) (fun s9 _=>k-(intOf s9).toNat)
         case atStart=>exact ⟨0,xs,Nat.zero_le _,rfl,hxl,HB38,HX8,HO9,(show ∀ j,j<0→_ from fun j h=>absurd h (by omega))⟩
         case round=>
          obtain ⟨i,ys,hi,rfl,hyl,hb4,hX4,hY4,hyf⟩:=hrel
          rename World=>w4
          have hz4:=hb4.out.size
          have hwl4:w.heap.size<w4.heap.size:=(by have:=HZ1.out;omega)
          obtain ⟨s0,s1⟩:=SE.out w4 hb4.out
          have hgy4:=hY4.out.lt
          by_cases hlt:i<k
          · have f0:=hY4.out.free i
            obtain ⟨v0,hv0⟩:∃ v0,ys[i]? = some v0:=⟨_,List.getElem?_eq_getElem (by omega)⟩
            have ca:w4.cell? ⟨gy,i,none⟩=some (.int .i64 v0):=by
             have:=hY4.out.cells (fun _=>rfl) hv0 0 _ rfl
             rw [Nat.mul_one,Nat.add_zero] at this
             exact this
            obtain ⟨o1,o2⟩:=hY4.out.set (fun _=>rfl) (i:=i) hlt farV
            have hst:w4.setCells gy (i * 1) (encInt farV)=w4.setCell ⟨gy,i,none⟩ (.int .i64 1000000000):=by simp [encInt,World.setCells,farV]
            rw [hst] at o1 o2
            have hbs:=hb4.out.setCell (p:=⟨gy,i,none⟩) hgy4.1 (.int .i64 1000000000)
            have hxk:=hX4.out.kept o2 (.inr (by simp [blockOf];omega))
            obtain ⟨ws,hws⟩:∃ ws,w4.setCell ⟨gy,i,none⟩ (.int .i64 1000000000)=ws:=⟨_,rfl⟩
            rw [hws] at o1 hbs hxk
            have HWS:=Lib.hid hws
            have HBS:=Lib.hid hbs
            have HYS:=Lib.hid o1
            have HXS:=Lib.hid hxk
            have HV0:=Lib.hid hv0
            clear hst o1 o2 hws hbs hxk hv0
            go_wp2_with (rw [HWS.out])
            go_roundw
            all_goals first
             | (simp [intOf];omega)
             | exact ⟨i+1,ys.set i farV,by omega,by go_num,by simp [hyl],HBS.out,HXS.out,HYS.out,(show ∀ j,j<i+1→_ from fun j hj=>by
                by_cases e:j=i
                · subst e;rw [List.getElem?_set_self (by omega)]
                · rw [List.getElem?_set_ne (fun h=>e h.symm)];exact hyf.out j (by omega))⟩
          · have hik:i=k:=by omega
            subst hik
            have hye:ys=List.replicate i farV:=List.ext_getElem? fun j=>by
             by_cases hj:j<i
             · rw [hyf.out j hj,List.getElem?_replicate,if_pos hj]
             · rw [List.getElem?_eq_none (by omega),List.getElem?_eq_none (by rw [List.length_replicate];omega)]
            subst hye
            clear hyf hyl
            go_wp2
            clear s0 s1
            go_loopw [10] (fun s10 wr=> ∃ (j:Nat) (ys:List Int),j≤n∧s10 = .int .i64 j∧ys.length=i∧Hid (Below w1.heap.size w1 wr)∧Hid (Own encInt 1 3 w1.heap.size wr (some ⟨g,0,none⟩) i c' xs)∧Hid (Own encInt 1 3 w1.heap.size wr (some ⟨gy,0,none⟩) i c8 ys)∧Hid (ys=fewTo bs xs (List.replicate i farV) j)∧Hid (∀ v∈ys,-(1000000 * (many:Int))≤v∧v≤1000000000)) (fun s10 _=>n-(intOf s10).toNat)
            case atStart=>exact ⟨0,List.replicate i farV,Nat.zero_le _,rfl,by simp,hb4,hX4,hY4,(show _=_ from rfl),(show ∀ v∈_,_∧_ from fun v hv=>by rw [List.eq_of_mem_replicate hv];unfold farV;omega)⟩
            case round=>
             obtain ⟨j,ys,hj,rfl,hyl,hb5,hX5,hY5,hyj,hey⟩:=hrel
             rename World=>w5
             have hz5:=hb5.out.size
             have hwl5:w.heap.size<w5.heap.size:=(by have:=HZ1.out;omega)
             obtain ⟨s0,s1⟩:=SE.out w5 hb5.out
             have hgy5:=hY5.out.lt
             have hgx5:=hX5.out.lt
             by_cases hlt:j<n
             · obtain ⟨bb,ob,x,rfl,hbw,hx,hcx⟩:=(HL.out.below hb5.out (Nat.le_refl _)).one hlt
               obtain ⟨sN,hsN⟩:∃ sN:Nat,x.src=sN:=⟨x.src.toNat,by have:=(HP.out x (List.mem_of_getElem? hx)).1;omega⟩
               obtain ⟨dN,hdN⟩:∃ dN:Nat,x.dst=dN:=⟨x.dst.toNat,by have:=(HP.out x (List.mem_of_getElem? hx)).2;omega⟩
               obtain ⟨b1,b2,b3,b4⟩:=HIN.out x (List.mem_of_getElem? hx)
               rw [hsN,Int.toNat_natCast] at b1
               rw [hdN,Int.toNat_natCast] at b2
               have c0:w5.cell? ⟨bb,ob+j * 4,none⟩=some (.int .i64 sN):=by rw [←hsN];exact hcx 0 _ rfl
               have c1:w5.cell? ⟨bb,ob+j * 4+1,none⟩=some (.int .i64 dN):=by rw [←hdN];exact hcx 1 _ rfl
               have c2:w5.cell? ⟨bb,ob+j * 4+2,none⟩=some (.int .i64 x.most):=hcx 2 _ rfl
               have c3:w5.cell? ⟨bb,ob+j * 4+3,none⟩=some (.int .i64 x.by_):=hcx 3 _ rfl
               obtain ⟨xv,hxv⟩:∃ v,xs.getD sN 0=v:=⟨_,rfl⟩
               obtain ⟨yd,hyd⟩:∃ v,ys.getD dN 0=v:=⟨_,rfl⟩
               have e1:=el_at hel.out (i:=sN) (by omega)
               have e2:=el_at hey.out (i:=dN) (by omega)
               rw [hxv] at e1
               rw [hyd] at e2
               have HST:Hid (fewTo bs xs (List.replicate i farV) (j+1)=if xv<1000000000 then ys.set dN (min yd (xv+x.most)) else ys):=(show _=_ from by
                rw [fewTo_next hx,←hyj.out]
                unfold fewStep rAt rPut farV
                simp only [hsN,hdN,Int.toNat_natCast,hxv,hyd])
               obtain ⟨mo,hmo⟩:∃ mo,x.most=mo:=⟨_,rfl⟩
               obtain ⟨yy,hyy⟩:∃ yy,x.by_=yy:=⟨_,rfl⟩
               rw [hmo] at c2 HST b3 b4
               rw [hyy] at c3
               have hcs:w5.cell? ⟨g,sN,none⟩=some (.int .i64 xv):=by
                have:=hX5.out.cells (fun _=>rfl) (i:=sN) (x:=xv) (by rw [←hxv,List.getD_eq_getElem?_getD,List.getElem?_eq_getElem (by omega)];rfl) 0 _ rfl
                rw [Nat.mul_one,Nat.add_zero] at this
                exact this
               have hcd:w5.cell? ⟨gy,dN,none⟩=some (.int .i64 yd):=by
                have:=hY5.out.cells (fun _=>rfl) (i:=dN) (x:=yd) (by rw [←hyd,List.getD_eq_getElem?_getD,List.getElem?_eq_getElem (by omega)];rfl) 0 _ rfl
                rw [Nat.mul_one,Nat.add_zero] at this
                exact this
               obtain ⟨w6,hw6⟩:∃ w6,w5.alloc (.cells #[.int .i64 sN,.int .i64 dN,.int .i64 mo,.int .i64 yy] 56)=w6:=⟨_,rfl⟩
               have hb6:Below w5.heap.size w5 w6:=(by rw [←hw6];exact (Below.refl _ w5).alloc (Nat.le_refl _) _)
               have hh6:w6.heap[w5.heap.size]? = some (.cells #[.int .i64 sN,.int .i64 dN,.int .i64 mo,.int .i64 yy] 56 (0,0)):=(by rw [←hw6];exact heap_alloc_new w5 _)
               have hz6:w5.heap.size<w6.heap.size:=(Array.getElem?_eq_some_iff.1 hh6).1
               have FE:Hid (∀ W,Below w6.heap.size w6 W→W.frozen? ⟨gy,dN,none⟩=false):=(show ∀ W,Below w6.heap.size w6 W→W.frozen? ⟨gy,dN,none⟩=false from fun W h=>((hY5.out.below hb6 (Nat.le_refl _)).below h (Nat.le_refl _)).free _)
               have CE:Hid (FewCells g gy w5.heap.size sN dN mo xv yd w6):=(show FewCells g gy w5.heap.size sN dN mo xv yd w6 from fun W h=>by
                have h1:=(h.block _ hz6).trans hh6
                have e:=fun o=>(h.cell (p:=⟨g,o,none⟩) (show g<w6.heap.size by omega)).trans (hb6.cell (p:=⟨g,o,none⟩) hgx5.2)
                have f:=fun o=>(h.cell (p:=⟨gy,o,none⟩) (show gy<w6.heap.size by omega)).trans (hb6.cell (p:=⟨gy,o,none⟩) hgy5.2)
                exact ⟨by simp [World.cell?,h1],by simp [World.cell?,h1],by simp [World.cell?,h1],(e _).trans hcs,(f _).trans hcd,FE.out W h⟩)
               have HX6:=Lib.hid (hX5.out.below hb6 (Nat.le_refl _))
               have HY6:=Lib.hid (hY5.out.below hb6 (Nat.le_refl _))
               have HB6:=Lib.hid (hb5.out.trans (hb6.mono hz5))
               have HW6:=Lib.hid hw6
               have HE:=Lib.hid (And.intro e1 e2)
               have hz16:w1.heap.size≤w6.heap.size:=by omega
               have hg6:g<w6.heap.size:=by omega
               have hm6:i≤1000000:=by omega
               have HWR:Hid (IntKind.i64.wrap (xv+mo)=xv+mo):=(show _=_ by rw [IntKind.wrap_i64];omega)
               obtain ⟨q0,q1,q2,q3,_,_⟩:=CE.out w6 (Below.refl _ _)
               clear hcx hx hcs hcd hb6 hh6 hw6 hsN hdN hmo hyy hxv hyd e1 e2
               by_cases h1:xv<1000000000
               · have HIF:=Lib.hid h1
                 go_upto_region 24 with (rw [HW6.out])
                 refine rfew24 _ rfl g i c' gy c8 w5.heap.size sN dN mo yy xv yd _ w6 _ rfl rfl rfl rfl CE.out b1 b2 hm6 HWR.out ?_
                 clear h1 q0 q1 q2 q3
                 intro w7 hb7
                 have hz7:=hb7.size
                 obtain ⟨o1,o2⟩:=(HY6.out.below hb7 (Nat.le_refl _)).set (fun _=>rfl) (i:=dN) b2 (min yd (xv+mo))
                 have hst:w7.setCells gy (dN * 1) (encInt (min yd (xv+mo)))=w7.setCell ⟨gy,dN,none⟩ (.int .i64 (min yd (xv+mo))):=by simp [encInt,World.setCells]
                 rw [hst] at o1 o2
                 have HX7:=Lib.hid ((HX6.out.below hb7 (Nat.le_refl _)).kept o2 (.inr (by simp [blockOf];omega)))
                 have HB7:=Lib.hid ((HB6.out.trans (hb7.mono hz16)).setCell (p:=⟨gy,dN,none⟩) hgy5.1 (.int .i64 (min yd (xv+mo))))
                 have HY7:=Lib.hid o1
                 clear hb7 o1 o2 hst
                 generalize w7.setCell ⟨gy,dN,none⟩ (.int .i64 (min yd (xv+mo)))=w8x at *
                 simp only [setsL,Trfew24,List.take_succ_cons,List.take_zero,Nat.reduceAdd,List.setIfInBounds_toArray,List.set_cons_succ,List.set_cons_zero]
                 go_wp2
                 go_roundw
                 all_goals first
                  | (simp [intOf];omega)
                  | exact ⟨j+1,ys.set dN (min yd (xv+mo)),by omega,by go_num,by simp [hyl],HB7.out,HX7.out,HY7.out,(show _=_ by rw [HST.out,if_pos HIF.out]),(show ∀ v∈ys.set dN (min yd (xv+mo)),_∧_ from el_set hey.out (Int.le_refl _) (by have:=HE.out;rcases Int.le_total yd (xv+mo) with h|h<;>(first|rw [Int.min_eq_left h]|rw [Int.min_eq_right h])<;>omega) (by have:=HE.out;rcases Int.le_total yd (xv+mo) with h|h<;>(first|rw [Int.min_eq_left h]|rw [Int.min_eq_right h])<;>omega))⟩
               · have HIF:=Lib.hid h1
                 go_wp2_with (rw [HW6.out])
                 go_roundw
                 all_goals first
                  | (simp [intOf];omega)
                  | exact ⟨j+1,ys,by omega,by go_num,hyl,HB6.out,HX6.out,HY6.out,(show _=_ by rw [HST.out,if_neg HIF.out]),hey⟩
             · have hjn:j=n:=by omega
               subst hjn
               have HIT:Hid (ys=fewIter i bs a many):=(show _=_ by
                rw [hyj.out,show many=(many-1)+1 by omega,fewIter,fewRow,HNL.out,←hxs.out])
               obtain ⟨va,hva⟩:∃ v,ys.getD a 0=v:=⟨_,rfl⟩
               have hca:w5.cell? ⟨gy,a,none⟩=some (.int .i64 va):=by
                have:=hY5.out.cells (fun _=>rfl) (i:=a) (x:=va) (by rw [←hva,List.getD_eq_getElem?_getD,List.getElem?_eq_getElem (by omega)];rfl) 0 _ rfl
                rw [Nat.mul_one,Nat.add_zero] at this
                exact this
               have HVA:Hid (val (fewIter i bs a many) a=va):=(show _=_ by rw [←HIT.out];exact hva)
               have HEY:Hid (∀ v∈ys,-(1000000 * ((many+1-1:Nat):Int))≤v∧v≤1000000000):=(show ∀ v∈ys,_ from fun v hv=>by have:=hey.out v hv;rw [Nat.add_sub_cancel];exact this)
               have HIT2:Hid (ys=fewIter i bs a (many+1-1)):=(show _=_ by rw [Nat.add_sub_cancel];exact HIT.out)
               clear hva
               by_cases hneg:va<0
               · have HMD:=Lib.hid (FewMid.hit hmid.out ham hm1 hmk2 HBB.out (by rw [HVA.out];exact hneg))
                 go_wp2
                 go_roundw
                 all_goals first
                  | (simp [intOf];omega)
                  | exact ⟨many,many+1,gy,c8,ys,by omega,by omega,by omega,rfl,rfl,by go_num,hb5,hY5,HIT2,HMD,HEY⟩
               · have HMD:=Lib.hid (FewMid.next hmid.out HBB.out (by rw [HVA.out];exact hneg))
                 go_wp2
                 go_roundw
                 all_goals first
                  | (simp [intOf];omega)
                  | exact ⟨best,many+1,gy,c8,ys,by omega,by omega,by omega,rfl,rfl,by go_num,hb5,hY5,HIT2,HMD,HEY⟩
end Go.Proofs.YtccabpahfmoamaaGreat
end

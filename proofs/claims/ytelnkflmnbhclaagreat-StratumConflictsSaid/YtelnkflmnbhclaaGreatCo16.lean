/- Contracts that the laws lean on: FewP, RFeR, RFew, RCir, ConP, RCon, ConL. -/
import Derived.Test.YtelnkflmnbhclaaGreatCo03
import Derived.Test.YtelnkflmnbhclaaGreatCo10
import Derived.Test.YtelnkflmnbhclaaGreatCo02
import Derived.Test.YtelnkflmnbhclaaGreatCo01
import Derived.Test.YtelnkflmnbhclaaGreatK14
import Derived.Test.YtelnkflmnbhclaaGreatK17
import Derived.Test.YtelnkflmnbhclaaGreatCo04
import Derived.Test.YtelnkflmnbhclaaGreatK24
section
namespace Go.Proofs.YtelnkflmnbhclaaGreat
open Go.RowKit Go.Proofs Go.Shelf
def fewStep (x y:List Int) (b:Bound):List Int:=if rAt x b.src<farV then rPut y b.dst (min (rAt y b.dst) (rAt x b.src+b.most)) else y
def fewTo (bs:List Bound) (x y0:List Int):Nat→List Int
 | 0=>y0
 | k+1=>match bs[k]? with
   | some b=>fewStep x (fewTo bs x y0 k) b
   | none=>fewTo bs x y0 k
def fewRow (m:Nat) (bs:List Bound) (x:List Int):List Int:=fewTo bs x (List.replicate m farV) bs.length
def fewIter (m:Nat) (bs:List Bound) (p:Nat):Nat→List Int
 | 0=>(List.replicate m farV).set p 0
 | k+1=>fewRow m bs (fewIter m bs p k)
theorem fewStep_len (x y:List Int) (b:Bound):(fewStep x y b).length=y.length:=by
 unfold fewStep;split<;>simp [rPut]
theorem fewTo_len (bs:List Bound) (x y0:List Int):∀ k,(fewTo bs x y0 k).length=y0.length
 | 0=>rfl
 | k+1=>by
   unfold fewTo
   split
   · rw [fewStep_len,fewTo_len bs x y0 k]
   · exact fewTo_len bs x y0 k
theorem fewTo_next {bs:List Bound} {x y0:List Int} {k:Nat} {b:Bound} (h:bs[k]? = some b):fewTo bs x y0 (k+1)=fewStep x (fewTo bs x y0 k) b:=by rw [fewTo,h]
theorem fewTo_law {bs:List Bound} {x y0:List Int} (hd:∀ b∈bs,b.dst.toNat<y0.length):∀ k,k≤bs.length→
 (∀ v,val (fewTo bs x y0 k) v≤val y0 v)∧(∀ b∈bs.take k,val x b.src.toNat<farV→val (fewTo bs x y0 k) b.dst.toNat≤val x b.src.toNat+b.most)∧
 (∀ v,val (fewTo bs x y0 k) v=val y0 v∨∃ b∈bs,b.dst.toNat=v∧val x b.src.toNat<farV∧val (fewTo bs x y0 k) v=val x b.src.toNat+b.most)
 | 0,_=>⟨fun _=>Int.le_refl _,fun b h=>by simp at h,fun _=> .inl rfl⟩
 | k+1,hk=>by
   obtain ⟨i1,i2,i3⟩:=fewTo_law hd (x:=x) k (by omega)
   have hb:bs[k]? = some bs[k]:=List.getElem?_eq_getElem (by omega)
   have hm:bs[k]∈bs:=List.getElem_mem _
   have hl:bs[k].dst.toNat<(fewTo bs x y0 k).length:=by rw [fewTo_len];exact hd _ hm
   rw [fewTo_next hb]
   generalize bs[k]=b at *
   have ht:bs.take (k+1)=bs.take k ++ [b]:=by rw [List.take_add_one,hb];rfl
   unfold fewStep
   rw [rAt_val,rAt_val]
   by_cases hf:val x b.src.toNat<farV
   · rw [if_pos hf]
     have hv:∀ v,val (rPut (fewTo bs x y0 k) b.dst (min (val (fewTo bs x y0 k) b.dst.toNat) (val x b.src.toNat+b.most))) v=if b.dst.toNat=v then min (val (fewTo bs x y0 k) b.dst.toNat) (val x b.src.toNat+b.most) else val (fewTo bs x y0 k) v:=fun v=>val_set _ _ _ _ hl
     refine ⟨fun v=> ?_,fun c hc hcf=> ?_,fun v=> ?_⟩
     · rw [hv]
       have:=i1 v
       split
       · rename_i e;subst e;omega
       · exact this
     · rw [hv]
       rw [ht] at hc
       rcases List.mem_append.1 hc with hc|hc
       · have:=i2 c hc hcf
         split
         · rename_i e;rw [e];omega
         · exact this
       · have:c=b:=by simpa using hc
         subst this
         rw [if_pos rfl];omega
     · rw [hv]
       split
       · rename_i e
         subst e
         rcases Int.le_total (val (fewTo bs x y0 k) b.dst.toNat) (val x b.src.toNat+b.most) with h|h
         · rw [Int.min_eq_left h];exact i3 _
         · rw [Int.min_eq_right h];exact .inr ⟨b,hm,rfl,hf,rfl⟩
       · exact i3 v
   · rw [if_neg hf]
     refine ⟨i1,fun c hc hcf=> ?_,i3⟩
     rw [ht] at hc
     rcases List.mem_append.1 hc with hc|hc
     · exact i2 c hc hcf
     · have:c=b:=by simpa using hc
       subst this
       exact absurd hcf hf
section
variable {pts:Int} {bs:List Bound}
theorem few_low (h:SmallSys pts bs) {p:Nat} (hp:p<pts.toNat):∀ (k v:Nat),v<pts.toNat→val (fewIter pts.toNat bs p k) v<farV→∃ ws:List Bound,(∀ b∈ws,b∈bs)∧ws.length=k∧isWalk p ws v∧sumW ws=val (fewIter pts.toNat bs p k) v
 | 0,v,hv,hlt=>by
   unfold fewIter at hlt ⊢
   rw [val_set _ _ _ _ (by simpa using hp),val_replicate,if_pos hv] at hlt ⊢
   by_cases e:p=v
   · rw [if_pos e]
     exact ⟨[],by simp,rfl,e,rfl⟩
   · rw [if_neg e] at hlt;omega
 | k+1,v,hv,hlt=>by
   have hd:∀ b∈bs,b.dst.toNat<(List.replicate pts.toNat farV).length:=fun b hb=>by rw [List.length_replicate];exact (h.in_ b hb).2.1
   unfold fewIter fewRow at hlt ⊢
   obtain ⟨_,_,i3⟩:=fewTo_law hd (x:=fewIter pts.toNat bs p k) bs.length (Nat.le_refl _)
   rcases i3 v with e|⟨b,hb,hbv,hbf,e⟩
   · rw [e,val_replicate,if_pos hv] at hlt;omega
   · obtain ⟨ws,w1,w2,w3,w4⟩:=few_low h hp k b.src.toNat (h.in_ b hb).1 hbf
     refine ⟨ws ++ [b],fun c hc=> ?_,by simp [w2],isWalk_append.2 ⟨_,w3,rfl,hbv⟩,?_⟩
     · rcases List.mem_append.1 hc with hc|hc
       · exact w1 c hc
       · have:c=b:=by simpa using hc
         subst this;exact hb
     · rw [sumW_append,w4,e];simp [sumW]
theorem few_high (h:SmallSys pts bs) {p:Nat} (hp:p<pts.toNat):∀ (k v:Nat) (ws:List Bound),k≤1000→(∀ b∈ws,b∈bs)→ws.length=k→isWalk p ws v→val (fewIter pts.toNat bs p k) v≤sumW ws∧sumW ws≤10000 * k
 | 0,v,ws,_,_,hl,hw=>by
   obtain rfl:=List.eq_nil_of_length_eq_zero hl
   obtain rfl:p=v:=hw
   unfold fewIter
   rw [val_set _ _ _ _ (by simpa using hp),if_pos rfl]
   simp [sumW]
 | k+1,v,ws,hk,hs,hl,hw=>by
   have hne:ws ≠ []:=fun e=>by rw [e] at hl;simp at hl
   obtain ⟨us,b,rfl⟩:∃ us b,ws=us ++ [b]:=⟨ws.dropLast,ws.getLast hne,(List.dropLast_concat_getLast hne).symm⟩
   obtain ⟨q,h1,h2,h3⟩:=isWalk_append.1 hw
   have hbm:b∈bs:=hs b (by simp)
   have h3':b.dst.toNat=v:=h3
   obtain ⟨g1,g2⟩:=few_high h hp k q us (by omega) (fun c hc=>hs c (by simp [hc])) (by simpa using hl) h1
   have hd:∀ b∈bs,b.dst.toNat<(List.replicate pts.toNat farV).length:=fun b hb=>by rw [List.length_replicate];exact (h.in_ b hb).2.1
   unfold fewIter fewRow
   obtain ⟨_,i2,_⟩:=fewTo_law hd (x:=fewIter pts.toNat bs p k) bs.length (Nat.le_refl _)
   have h2':b.src.toNat=q:=h2
   have hfar:farV=1000000000:=rfl
   have h4:=i2 b (by rw [List.take_length];exact hbm) (by rw [h2'];omega)
   rw [h2',h3'] at h4
   have h5:=(h.in_ b hbm).2.2.2
   rw [sumW_append]
   simp only [sumW]
   omega
structure FewInv (m:Nat) (bs:List Bound) (a best:Nat):Prop where
 is:best=0∨∃ p,p<m∧1≤best∧best≤m∧val (fewIter m bs p best) p<0
 no:∀ p k,p<a→1≤k→k≤m→(best=0∨k<best)→¬val (fewIter m bs p k) p<0
structure FewMid (m:Nat) (bs:List Bound) (a many best:Nat):Prop where
 inv:FewInv m bs a best
 mid:∀ k,1≤k→k<many→(best=0∨k<best)→¬val (fewIter m bs a k) a<0
theorem FewInv.zero (m:Nat) (bs:List Bound):FewInv m bs 0 0:=⟨.inl rfl,fun p k h=>absurd h (by omega)⟩
theorem FewMid.start {m a best:Nat} (h:FewInv m bs a best):FewMid m bs a 1 best:=⟨h,fun k h1 h2=>absurd h2 (by omega)⟩
theorem FewMid.next {m a many best:Nat} (h:FewMid m bs a many best) (_:best=0∨many<best) (hv:¬val (fewIter m bs a many) a<0):FewMid m bs a (many+1) best:=
 ⟨h.inv,fun k k1 k2 k3=>by
   by_cases e:k=many
   · rw [e];exact hv
   · exact h.mid k k1 (by omega) k3⟩
theorem FewMid.hit {m a many best:Nat} (h:FewMid m bs a many best) (ha:a<m) (h0:1≤many) (hm:many≤m) (h1:best=0∨many<best) (hv:val (fewIter m bs a many) a<0):FewMid m bs a (many+1) many:=
 ⟨⟨.inr ⟨a,ha,h0,hm,hv⟩,fun p k p1 k1 k2 k3=>h.inv.no p k p1 k1 k2 (by omega)⟩,fun k k1 k2 k3=>h.mid k k1 (by omega) (by omega)⟩
theorem FewMid.done {m a many best:Nat} (h:FewMid m bs a many best) (hm:m<many∨(best≠0∧best≤many)):FewInv m bs (a+1) best:=
 ⟨h.inv.is,fun p k p1 k1 k2 k3=>by
   by_cases e:p=a
   · rw [e];exact h.mid k k1 (by omega) k3
   · exact h.inv.no p k (by omega) k1 k2 k3⟩
theorem few_law (h:SmallSys pts bs) {best:Nat} (hi:FewInv pts.toNat bs pts.toNat best):best=(circleX pts bs).length:=by
 have hp:=h.p
 have hfar:farV=1000000000:=rfl
 have hneg:best≠0→∃ p ws,(∀ b∈ws,b∈bs)∧ws.length=best∧isWalk p ws p∧sumW ws<0:=fun hb=>by
  rcases hi.is with e|⟨p,p1,p2,p3,p4⟩
  · exact absurd e hb
  · obtain ⟨ws,w1,w2,w3,w4⟩:=few_low h p1 best p p1 (by omega)
    exact ⟨p,ws,w1,w2,w3,by omega⟩
 rcases circle_law h.ok with ⟨e,hno⟩|⟨p,ws,hpp,_,hl,hne,hs,hw,hn,hmin⟩
 · rw [e]
   by_cases hb:best=0
   · rw [hb];rfl
   · obtain ⟨p,ws,w1,_,w3,w4⟩:=hneg hb
     have:=hno p ws w1 w3
     omega
 · rw [hl]
   have hsm:=least_simple hs hw hn hmin
   have hlen:ws.length≤pts.toNat:=by
    have:=nodup_range hsm (n:=pts.toNat) (fun x hx=>by
     unfold leaves at hx
     obtain ⟨b,hb,rfl⟩:=List.mem_map.1 hx
     exact (h.in_ b (hs b hb)).1)
    simpa [leaves] using this
   have hpos:0<ws.length:=List.length_pos_iff.2 hne
   obtain ⟨g1,_⟩:=few_high h hpp ws.length p ws (by omega) hs rfl hw
   by_cases hb:best=0
   · exact absurd (show val (fewIter pts.toNat bs p ws.length) p<0 by omega) (hi.no p ws.length hpp hpos hlen (.inl hb))
   · obtain ⟨q,vs,v1,v2,v3,v4⟩:=hneg hb
     have h1:=hmin q vs v1 v3 v4
     by_cases h2:ws.length<best
     · exact absurd (show val (fewIter pts.toNat bs p ws.length) p<0 by omega) (hi.no p ws.length hpp hpos hlen (.inr h2))
     · omega
end
end Go.Proofs.YtelnkflmnbhclaaGreat
end
section
namespace Go.Proofs.YtelnkflmnbhclaaGreat
open Go.RowKit Go.Proofs
def codeFew24:Option Code→Code
 | some (.seq _ (.seq _ (.seq (.seq _ (.block _ (.loop (.seq _ (.seq (.block _ (.seq _ (.seq _ (.seq _ (.seq _ (.block _ (.loop (.seq _ (.seq (.block _ (.seq _ (.seq _ (.seq (.seq _ (.block _ (.loop (.seq _ (.seq (.block _ (.seq _ (.seq _ (.cond _ c _)))) _))))) _)))) _))))))))) _))))) _)))=>c
 | _=> .skip
def FewCells (bx by_ pb sN dN:Nat) (mo xs yd:Int) (w:World):Prop:=∀ W,Below w.heap.size w W→W.cell? ⟨pb,0,none⟩=some (.int .i64 sN)∧W.cell? ⟨pb,1,none⟩=some (.int .i64 dN)∧W.cell? ⟨pb,2,none⟩=some (.int .i64 mo)∧W.cell? ⟨bx,sN,none⟩=some (.int .i64 xs)∧W.cell? ⟨by_,dN,none⟩=some (.int .i64 yd)∧W.frozen? ⟨by_,dN,none⟩=false
def FewI (by_ dN:Nat) (v:Int) (w:World):List Value→World→Prop
 | [],W=>Below w.heap.size w W
 | [_],W=> ∃ W0,Below w.heap.size w W0∧W=W0.setCell ⟨by_,dN,none⟩ (.int .i64 v)
 | _,_=>False
def Trfew24 (bx m xc by_ yc pb sN dN:Nat) (mo _ xs yd:Int) (cv:List Value):List Value:=
 [.slice (some ⟨by_,0,none⟩) m yc,.pointer (some ⟨pb,0+1,none⟩),.int .i64 dN,.slice (some ⟨by_,0,none⟩) m yc,.pointer (some ⟨pb,0+1,none⟩),.int .i64 dN,.pointer (some ⟨by_,dN,none⟩),.int .i64 yd,.slice (some ⟨bx,0,none⟩) m xc,.pointer (some ⟨pb,0,none⟩),.int .i64 sN,.pointer (some ⟨bx,sN,none⟩),.int .i64 xs,.pointer (some ⟨pb,0+2,none⟩),.int .i64 mo,.int .i64 (xs+mo),.int .i64 (min yd (xs+mo)),.pointer (some ⟨by_,dN,none⟩),cv.getD 0 undef]
set_option maxRecDepth 100000 in
set_option maxHeartbeats 4000000 in
theorem rfew24 (cC:Code) (hc:cC=codeFew24 Tryz.f112.body) (bx m xc by_ yc pb sN dN:Nat) (mo yy xs yd:Int) (a:Act) (w:World) (Q:Exit→Act→World→Prop)
 (hT:a.tmps.size=101) (t5:a.tmps.getD 5 undef = .slice (some ⟨bx,0,none⟩) m xc) (t8:a.tmps.getD 8 undef = .slice (some ⟨by_,0,none⟩) m yc) (t11:a.tmps.getD 11 undef = .pointer (some ⟨pb,0,none⟩))
 (CE:FewCells bx by_ pb sN dN mo xs yd w) (hs:sN<m) (hd:dN<m) (_:m≤1000000) (hw:IntKind.i64.wrap (xs+mo)=xs+mo)
 (hQ:∀ W,Below w.heap.size w W→Q .normal { tmps:=setsL a.tmps 75 ((Trfew24 bx m xc by_ yc pb sN dN mo yy xs yd []).take 18),defers:=a.defers } (W.setCell ⟨by_,dN,none⟩ (.int .i64 (min yd (xs+mo))))):
 cC.wp Tryz.prog Q a w:=by
 subst hc
 unfold codeFew24 Tryz.f112
 dsimp only
 refine wpIn_wide.1 (wpIn_region_chain (nn:=5) 101 (by kernel_rfl) (by kernel_rfl) (by kernel_rfl) hT (fun i cv=>(Trfew24 bx m xc by_ yc pb sN dN mo yy xs yd cv).getD i undef) (fun i=>([0,0,0,0,0,0,0,0,0,0,0,0,0,0,0,0,0,0,0]:List Nat).getD i 0) (fun i=>([0,0,0,0,0,0,0,0,0,0,0,0,0,0,0,0,0,0,1]:List Nat).getD i 0) [18] (by kernel_rfl) (by kernel_rfl) (by kernel_rfl) (by kernel_rfl) (FewI by_ dN (min yd (xs+mo)) w) ((Below.refl _ _).drew) (fun b cv hE hold=> ?_) (fun cv W hl hI=> ?_))
 · clear hQ
   have q5:=hold 5 _ (by kernel_rfl) t5
   have q8:=hold 8 _ (by kernel_rfl) t8
   have q11:=hold 11 _ (by kernel_rfl) t11
   simp only [factsL,Vc,idxC,Trfew24,List.getD_cons_zero,List.getD_cons_succ,Nat.reduceAdd,Nat.reduceEqDiff,reduceIte,Option.map_none] at hE
   repeat' first|exact chain_nil|refine chain_op 0 rfl rfl ?_ ?_|refine chain_skip rfl rfl rfl rfl ?_|refine chain_quiet rfl rfl ?_ ?_
   all_goals intro hl
   any_goals (
    intro hl2;simp only [List.getD_cons_zero,List.getD_cons_succ,Nat.reduceAdd] at hl hl2
    first
     | (obtain rfl:=List.eq_nil_of_length_eq_zero (Nat.le_zero.1 hl2);intro W hW;have hWb:Below w.heap.size w W:=hW;obtain ⟨b0,b1,b2,a0,a1,f1⟩:=CE W hWb;simp only [Trfew24,List.getD_cons_zero,List.getD_cons_succ,Nat.reduceAdd]
        first
         | (refine .inl ?_;go_simp;done)
         | (refine .inl ?_;go_simp;rfl)
         | (refine .inl ?_;go_simp;simp [*];done)
         | (refine .inl ?_;go_simp;simp [*];rfl)
         | (refine .inl ?_;go_simp;(simp only [min_def];split<;>rfl))
         | (refine .inl ?_;go_simp;(simp [min_def];done)))
    done)
   · obtain rfl:=List.eq_nil_of_length_eq_zero hl
     intro W hW
     have hWb:Below w.heap.size w W:=hW
     obtain ⟨b0,b1,b2,a0,a1,f1⟩:=CE W hWb
     refine .inl ⟨undef,_,.inr ⟨?_,rfl⟩,W,hWb,rfl⟩
     go_simp
 · match cv,hl,hI with
   | [_],_,⟨W0,h0,e⟩=>subst e;exact hQ W0 h0
end Go.Proofs.YtelnkflmnbhclaaGreat
end
section
namespace Go.Proofs.YtelnkflmnbhclaaGreat
open Go.RowKit Go.Proofs Go.Shelf
set_option maxHeartbeats 16000000 in
set_option maxRecDepth 100000 in
theorem rfewest1_any (pts:Int) (A:Option Addr) (n c:Nat) (bs:List Bound) (w:World) (hl:Rd encBound 4 w A n c bs) (hs:SmallSys pts bs):
 Calls Tryz.prog 112 #[.agg #[.int .i64 pts,.slice A n c]] w fun e w'=> ∃ best:Nat,e = .returned (.int .i64 best)∧FewInv pts.toNat bs pts.toNat best∧Below w.heap.size w w':=by
 have hp51:=hs.p
 have hp1:=hs.ok.p1
 have hn:=hs.ok.len
 obtain ⟨m,hm⟩:∃ m:Nat,(m:Int)=pts:=⟨pts.toNat,by omega⟩
 subst hm
 have HIN:Hid (∀ b∈bs,b.src.toNat<m∧b.dst.toNat<m∧ -10000≤b.most∧b.most≤10000):=(show ∀ b∈bs,_ from fun b h=>by have:=hs.in_ b h;rwa [Int.toNat_natCast] at this)
 have HP:=Lib.hid (show ∀ b∈bs,0≤b.src∧0≤b.dst from fun b h=>by have:=hs.ok.b b h;exact ⟨by omega,by omega⟩)
 rw [Int.toNat_natCast]
 have hnl:=hl.len
 have HNL:=Lib.hid hnl
 have hm51:m≤51:=by omega
 have hm0:0<m:=by omega
 have hn400:n≤400:=by omega
 have SE:=Lib.hid (sysBox m A n c w)
 obtain ⟨w1,hw1⟩:∃ w1,w.alloc (.cells #[.int .i64 m,.slice A n c] 117)=w1:=⟨_,rfl⟩
 have hb1:Below w.heap.size w w1:=(by rw [←hw1];exact (Below.refl _ w).alloc (Nat.le_refl _) _)
 rw [hw1] at SE
 have HL:=Lib.hid (hl.below hb1 (Nat.le_refl _))
 have HB1:=Lib.hid hb1
 have HW1:=Lib.hid hw1
 have HZ1:=Lib.hid (show w1.heap.size=w.heap.size+1 from by rw [←hw1];simp)
 have HI0:=Lib.hid (FewInv.zero m bs)
 obtain ⟨s0,s1⟩:=SE.out w1 (Below.refl _ _)
 clear hl hs hb1 hw1 hp51 hp1 hn hnl
 go_enter Tryz.func112,Tryz.ntmps112
 go_wp2_with (rw [HW1.out])
 clear s0 s1
 go_loopw [3,4] (fun s3 s4 wr=> ∃ (best a:Nat),a≤m∧best≤m∧s3 = .int .i64 best∧s4 = .int .i64 a∧Hid (Below w1.heap.size w1 wr)∧Hid (FewInv m bs a best)) (fun _ s4 _=>m-(intOf s4).toNat)
 case atStart=>exact ⟨0,0,Nat.zero_le _,Nat.zero_le _,rfl,rfl,(show Below _ _ _ from Below.refl _ _),HI0⟩
 case round=>
  obtain ⟨best,a,ha,hbm,rfl,rfl,hbl,hinv⟩:=hrel
  rename World=>wo
  have hzr:=hbl.out.size
  obtain ⟨s0,s1⟩:=SE.out wo hbl.out
  have hwl:w.heap.size<wo.heap.size:=(by have:=HZ1.out;omega)
  by_cases ham:a<m
  case neg=>
   have hae:a=m:=by omega
   subst hae
   go_wp2
   go_ret
   exact ⟨best,rfl,hinv.out,HB1.out.trans (hbl.out.mono HB1.out.size)⟩
  case pos=>
   go_wp2
   clear s0 s1
   go_loopw [5,6] (fun s5 s6 wr=> ∃ (k:Nat) (A':Option Addr) (c':Nat),k≤m∧s5 = .slice A' k c'∧s6 = .int .i64 k∧Hid (Below w1.heap.size w1 wr)∧Hid (Own encInt 1 3 w1.heap.size wr A' k c' (List.replicate k farV))) (fun _ s6 _=>m-(intOf s6).toNat)
   case atStart=>exact ⟨0,none,0,Nat.zero_le _,rfl,rfl,hbl,(show Own _ _ _ _ _ _ _ _ _ from Own.none_ _ _ _ _ _)⟩
   case round=>
    obtain ⟨k,A',c',hk,rfl,rfl,hb2,hO⟩:=hrel
    rename World=>w2
    have hz2:=hb2.out.size
    have hwl2:w.heap.size<w2.heap.size:=(by have:=HZ1.out;omega)
    obtain ⟨s0,s1⟩:=SE.out w2 hb2.out
    by_cases hlt:k<m
    · have hO1:=hO.out.alloc (.cells #[.int .i64 1000000000] 3)
      have hrd1:=Rd.single (enc:=encInt) (k:=1) w2 #[.int .i64 1000000000] 3 [farV] 1 rfl (by omega) (fun _=>rfl) (by simp [encInt,farV])
      have HBA:=Lib.hid (hb2.out.alloc hz2 (.cells #[.int .i64 1000000000] 3))
      go_wp2_with (at_builtin;refine wpList_append_src elInt (fun _=>rfl) oneInt rfl _ _ rfl _ _ _ _ rfl rfl hO1 hrd1 (by omega) (by decide) (by simp;omega) ?_;intro A8 c8 w8 hO8 hg8 hA8
                   have HB8:=Lib.hid (HBA.out.grown hg8 (by simp;omega) (fun j e=>hO1.ltB j e))
                   have HO8:=Lib.hid hO8
                   clear hO8 hg8 hA8)
      go_roundw
      all_goals first
       | (simp [intOf];omega)
       | exact ⟨k+1,A8,c8,by omega,rfl,by go_num,HB8.out,(show Own _ _ _ _ _ _ _ _ _ by rw [List.replicate_succ'];exact HO8.out)⟩
    · have hkm:k=m:=by omega
      subst hkm
      obtain ⟨g,rfl⟩:∃ g,A'=some ⟨g,0,none⟩:=by
       rcases hO.out.form with ⟨_,h0,_⟩|⟨g,h,_⟩
       · omega
       · exact ⟨g,h⟩
      have hgl:=hO.out.lt
      have f0:=hO.out.free a
      have ca:w2.cell? ⟨g,a,none⟩=some (.int .i64 farV):=by
       have:=hO.out.cells (fun _=>rfl) (i:=a) (x:=farV) (by rw [List.getElem?_replicate,if_pos ham]) 0 _ rfl
       rw [Nat.mul_one,Nat.add_zero] at this
       exact this
      obtain ⟨o1,o2⟩:=hO.out.set (fun _=>rfl) (i:=a) ham 0
      have hst:w2.setCells g (a * 1) (encInt 0)=w2.setCell ⟨g,a,none⟩ (.int .i64 0):=by simp [encInt,World.setCells]
      rw [hst] at o1
      have hbs:=hb2.out.setCell (p:=⟨g,a,none⟩) hgl.1 (.int .i64 0)
      obtain ⟨ws,hws⟩:∃ ws,w2.setCell ⟨g,a,none⟩ (.int .i64 0)=ws:=⟨_,rfl⟩
      rw [hws] at o1 hbs
      have HWS:=Lib.hid hws
      have HBS:=Lib.hid hbs
      have HOS:=Lib.hid o1
      clear hst o1 o2 hws hbs hO
      go_wp2_with (rw [HWS.out])
      clear s0 s1 f0 ca
      go_loopw [3,5,7] (fun s3 s5 s7 wr=> ∃ (best many g c':Nat) (xs:List Int),1≤many∧many≤k+1∧best≤k∧s3 = .int .i64 best∧s5 = .slice (some ⟨g,0,none⟩) k c'∧s7 = .int .i64 many∧Hid (Below w1.heap.size w1 wr)∧Hid (Own encInt 1 3 w1.heap.size wr (some ⟨g,0,none⟩) k c' xs)∧Hid (xs=fewIter k bs a (many-1))∧Hid (FewMid k bs a many best)∧Hid (∀ v∈xs,-(10000 * ((many-1:Nat):Int))≤v∧v≤1000000000)) (fun _ _ s7 _=>k+1-(intOf s7).toNat)
      case atStart=>exact ⟨best,1,g,c',_,Nat.le_refl _,by omega,hbm,rfl,rfl,rfl,HBS,HOS,(show _=_ from rfl),(show FewMid _ _ _ _ _ from FewMid.start hinv.out),(show ∀ v∈_,_∧_ from fun v hv=>by
       rcases List.mem_or_eq_of_mem_set hv with h3|h3
       · rw [List.eq_of_mem_replicate h3];unfold farV;omega
       · subst h3;omega)⟩
      case round=>
       clear hinv hbm hgl
       obtain ⟨best,many,g,c',xs,hm1,hmk,hbm,rfl,rfl,rfl,hb3,hO3,hxs,hmid,hel⟩:=hrel
       rename World=>w3
       have hz3:=hb3.out.size
       have hwl3:w.heap.size<w3.heap.size:=(by have:=HZ1.out;omega)
       obtain ⟨s0,s1⟩:=SE.out w3 hb3.out
       have hxl:=hO3.out.len
       by_cases hbody:many≤k∧(best=0∨many<best)
       case neg=>
        have HDN:=Lib.hid (FewMid.done hmid.out (by omega))
        by_cases h1:many≤k
        · have h2:¬best=0:=fun h=>hbody ⟨h1,.inl h⟩
          have h3:¬many<best:=fun h=>hbody ⟨h1,.inr h⟩
          have d1:((best:Int)==0)=false:=(by simp;omega)
          have d2:decide ((many:Int)≤(k:Int))=true:=decide_eq_true (by omega)
          have d3:decide ((many:Int)<(best:Int))=false:=decide_eq_false (by omega)
          clear hbody
          go_wp2
          go_roundw
          all_goals first
           | (simp [intOf];omega)
           | exact ⟨best,a+1,by omega,hbm,rfl,by go_num,hb3,HDN⟩
        · have d2:decide ((many:Int)≤(k:Int))=false:=decide_eq_false (by omega)
          clear hbody
          go_wp2
          go_roundw
          all_goals first
           | (simp [intOf];omega)
           | exact ⟨best,a+1,by omega,hbm,rfl,by go_num,hb3,HDN⟩
       case pos=>
        obtain ⟨hmk2,hbb⟩:=hbody
        have HBB:=Lib.hid hbb
        have d2:decide ((many:Int)≤(k:Int))=true:=decide_eq_true (by omega)
        have hO0:=Own.fresh encInt 1 3 w3 (Nat.le_refl _)
        have hx1:=(hO3.out.rd (fun _=>rfl) (by omega)).alloc (.cells #[] 3)
        have HBA:=Lib.hid ((Below.refl w3.heap.size w3).alloc (Nat.le_refl _) (.cells #[] 3))
        by_cases hb0:best=0
        all_goals
         first
          | (have d1:((best:Int)==0)=true:=(by rw [hb0];rfl))
          | (have d1:((best:Int)==0)=false:=(by simp;omega)
             have d3:many<best:=(by have:=HBB.out;omega))
         clear hb0 hbb
         go_wp2_with (at_builtin;refine wpList_append_src elInt (fun _=>rfl) oneInt rfl _ _ rfl _ _ _ _ rfl rfl hO0 hx1 (by omega) (by decide) (by simp) ?_;intro A8 c8 w8 hO8 hg8 hA8
                      have HB8:=Lib.hid (HBA.out.grown hg8 (by simp) (fun j e=>hO0.ltB j e))
                      have HO8:=Lib.hid hO8
                      clear hO8 hg8 hA8)
         clear s0 s1 hO0 hx1
         obtain ⟨gy,hgy⟩:∃ gy,A8=some ⟨gy,0,none⟩:=by
          rcases HO8.out.form with ⟨_,h0,_⟩|⟨g,h,_⟩
          · omega
          · exact ⟨g,h⟩
         subst hgy
         have hgy3:w3.heap.size≤gy:=HO8.out.lt.1
         have HO9:Hid (Own encInt 1 3 w1.heap.size w8 (some ⟨gy,0,none⟩) k c8 xs):=(show Own _ _ _ _ _ _ _ _ _ from by have:=HO8.out.mono hz3;simpa using this)
         have HX8:=Lib.hid (hO3.out.below HB8.out (Nat.le_refl _))
         have hgx:=hO3.out.lt
         have HB38:=Lib.hid (hb3.out.trans (HB8.out.mono hz3))
         clear HO8
         go_loopw [9] (fun s9 wr=> ∃ (i:Nat) (ys:List Int),i≤k∧s9 = .int .i64 i∧ys.length=k∧Hid (Below w1.heap.size w1 wr)∧Hid (Own encInt 1 3 w1.heap.size wr (some ⟨g,0,none⟩) k c' xs)∧Hid (Own encInt 1 3 w1.heap.size wr (some ⟨gy,0,none⟩) k c8 ys)∧Hid (∀ j,j<i→ys[j]? = some farV)) (fun s9 _=>k-(intOf s9).toNat)
         case atStart=>exact ⟨0,xs,Nat.zero_le _,rfl,hxl,HB38,HX8,HO9,(show ∀ j,j<0→_ from fun j h=>absurd h (by omega))⟩
         case round=>
          obtain ⟨i,ys,hi,rfl,hyl,hb4,hX4,hY4,hyf⟩:=hrel
          rename World=>w4
          have hz4:=hb4.out.size
          have hwl4:w.heap.size<w4.heap.size:=(by have:=HZ1.out;omega)
          obtain ⟨s0,s1⟩:=SE.out w4 hb4.out
          have hgy4:=hY4.out.lt
          by_cases hlt:i<k
          · have f0:=hY4.out.free i
            obtain ⟨v0,hv0⟩:∃ v0,ys[i]? = some v0:=⟨_,List.getElem?_eq_getElem (by omega)⟩
            have ca:w4.cell? ⟨gy,i,none⟩=some (.int .i64 v0):=by
             have:=hY4.out.cells (fun _=>rfl) hv0 0 _ rfl
             rw [Nat.mul_one,Nat.add_zero] at this
             exact this
            obtain ⟨o1,o2⟩:=hY4.out.set (fun _=>rfl) (i:=i) hlt farV
            have hst:w4.setCells gy (i * 1) (encInt farV)=w4.setCell ⟨gy,i,none⟩ (.int .i64 1000000000):=by simp [encInt,World.setCells,farV]
            rw [hst] at o1 o2
            have hbs:=hb4.out.setCell (p:=⟨gy,i,none⟩) hgy4.1 (.int .i64 1000000000)
            have hxk:=hX4.out.kept o2 (.inr (by simp [blockOf];omega))
            obtain ⟨ws,hws⟩:∃ ws,w4.setCell ⟨gy,i,none⟩ (.int .i64 1000000000)=ws:=⟨_,rfl⟩
            rw [hws] at o1 hbs hxk
            have HWS:=Lib.hid hws
            have HBS:=Lib.hid hbs
            have HYS:=Lib.hid o1
            have HXS:=Lib.hid hxk
            have HV0:=Lib.hid hv0
            clear hst o1 o2 hws hbs hxk hv0
            go_wp2_with (rw [HWS.out])
            go_roundw
            all_goals first
             | (simp [intOf];omega)
             | exact ⟨i+1,ys.set i farV,by omega,by go_num,by simp [hyl],HBS.out,HXS.out,HYS.out,(show ∀ j,j<i+1→_ from fun j hj=>by
                by_cases e:j=i
                · subst e;rw [List.getElem?_set_self (by omega)]
                · rw [List.getElem?_set_ne (fun h=>e h.symm)];exact hyf.out j (by omega))⟩
          · have hik:i=k:=by omega
            subst hik
            have hye:ys=List.replicate i farV:=List.ext_getElem? fun j=>by
             by_cases hj:j<i
             · rw [hyf.out j hj,List.getElem?_replicate,if_pos hj]
             · rw [List.getElem?_eq_none (by omega),List.getElem?_eq_none (by rw [List.length_replicate];omega)]
            subst hye
            clear hyf hyl
            go_wp2
            clear s0 s1
            go_loopw [10] (fun s10 wr=> ∃ (j:Nat) (ys:List Int),j≤n∧s10 = .int .i64 j∧ys.length=i∧Hid (Below w1.heap.size w1 wr)∧Hid (Own encInt 1 3 w1.heap.size wr (some ⟨g,0,none⟩) i c' xs)∧Hid (Own encInt 1 3 w1.heap.size wr (some ⟨gy,0,none⟩) i c8 ys)∧Hid (ys=fewTo bs xs (List.replicate i farV) j)∧Hid (∀ v∈ys,-(10000 * (many:Int))≤v∧v≤1000000000)) (fun s10 _=>n-(intOf s10).toNat)
            case atStart=>exact ⟨0,List.replicate i farV,Nat.zero_le _,rfl,by simp,hb4,hX4,hY4,(show _=_ from rfl),(show ∀ v∈_,_∧_ from fun v hv=>by rw [List.eq_of_mem_replicate hv];unfold farV;omega)⟩
            case round=>
             obtain ⟨j,ys,hj,rfl,hyl,hb5,hX5,hY5,hyj,hey⟩:=hrel
             rename World=>w5
             have hz5:=hb5.out.size
             have hwl5:w.heap.size<w5.heap.size:=(by have:=HZ1.out;omega)
             obtain ⟨s0,s1⟩:=SE.out w5 hb5.out
             have hgy5:=hY5.out.lt
             have hgx5:=hX5.out.lt
             by_cases hlt:j<n
             · obtain ⟨bb,ob,x,rfl,hbw,hx,hcx⟩:=(HL.out.below hb5.out (Nat.le_refl _)).one hlt
               obtain ⟨sN,hsN⟩:∃ sN:Nat,x.src=sN:=⟨x.src.toNat,by have:=(HP.out x (List.mem_of_getElem? hx)).1;omega⟩
               obtain ⟨dN,hdN⟩:∃ dN:Nat,x.dst=dN:=⟨x.dst.toNat,by have:=(HP.out x (List.mem_of_getElem? hx)).2;omega⟩
               obtain ⟨b1,b2,b3,b4⟩:=HIN.out x (List.mem_of_getElem? hx)
               rw [hsN,Int.toNat_natCast] at b1
               rw [hdN,Int.toNat_natCast] at b2
               have c0:w5.cell? ⟨bb,ob+j * 4,none⟩=some (.int .i64 sN):=by rw [←hsN];exact hcx 0 _ rfl
               have c1:w5.cell? ⟨bb,ob+j * 4+1,none⟩=some (.int .i64 dN):=by rw [←hdN];exact hcx 1 _ rfl
               have c2:w5.cell? ⟨bb,ob+j * 4+2,none⟩=some (.int .i64 x.most):=hcx 2 _ rfl
               have c3:w5.cell? ⟨bb,ob+j * 4+3,none⟩=some (.int .i64 x.by_):=hcx 3 _ rfl
               obtain ⟨xv,hxv⟩:∃ v,xs.getD sN 0=v:=⟨_,rfl⟩
               obtain ⟨yd,hyd⟩:∃ v,ys.getD dN 0=v:=⟨_,rfl⟩
               have e1:=el_at hel.out (i:=sN) (by omega)
               have e2:=el_at hey.out (i:=dN) (by omega)
               rw [hxv] at e1
               rw [hyd] at e2
               have HST:Hid (fewTo bs xs (List.replicate i farV) (j+1)=if xv<1000000000 then ys.set dN (min yd (xv+x.most)) else ys):=(show _=_ from by
                rw [fewTo_next hx,←hyj.out]
                unfold fewStep rAt rPut farV
                simp only [hsN,hdN,Int.toNat_natCast,hxv,hyd])
               obtain ⟨mo,hmo⟩:∃ mo,x.most=mo:=⟨_,rfl⟩
               obtain ⟨yy,hyy⟩:∃ yy,x.by_=yy:=⟨_,rfl⟩
               rw [hmo] at c2 HST b3 b4
               rw [hyy] at c3
               have hcs:w5.cell? ⟨g,sN,none⟩=some (.int .i64 xv):=by
                have:=hX5.out.cells (fun _=>rfl) (i:=sN) (x:=xv) (by rw [←hxv,List.getD_eq_getElem?_getD,List.getElem?_eq_getElem (by omega)];rfl) 0 _ rfl
                rw [Nat.mul_one,Nat.add_zero] at this
                exact this
               have hcd:w5.cell? ⟨gy,dN,none⟩=some (.int .i64 yd):=by
                have:=hY5.out.cells (fun _=>rfl) (i:=dN) (x:=yd) (by rw [←hyd,List.getD_eq_getElem?_getD,List.getElem?_eq_getElem (by omega)];rfl) 0 _ rfl
                rw [Nat.mul_one,Nat.add_zero] at this
                exact this
               obtain ⟨w6,hw6⟩:∃ w6,w5.alloc (.cells #[.int .i64 sN,.int .i64 dN,.int .i64 mo,.int .i64 yy] 186)=w6:=⟨_,rfl⟩
               have hb6:Below w5.heap.size w5 w6:=(by rw [←hw6];exact (Below.refl _ w5).alloc (Nat.le_refl _) _)
               have hh6:w6.heap[w5.heap.size]? = some (.cells #[.int .i64 sN,.int .i64 dN,.int .i64 mo,.int .i64 yy] 186 (0,0)):=(by rw [←hw6];exact heap_alloc_new w5 _)
               have hz6:w5.heap.size<w6.heap.size:=(Array.getElem?_eq_some_iff.1 hh6).1
               have FE:Hid (∀ W,Below w6.heap.size w6 W→W.frozen? ⟨gy,dN,none⟩=false):=(show ∀ W,Below w6.heap.size w6 W→W.frozen? ⟨gy,dN,none⟩=false from fun W h=>((hY5.out.below hb6 (Nat.le_refl _)).below h (Nat.le_refl _)).free _)
               have CE:Hid (FewCells g gy w5.heap.size sN dN mo xv yd w6):=(show FewCells g gy w5.heap.size sN dN mo xv yd w6 from fun W h=>by
                have h1:=(h.block _ hz6).trans hh6
                have e:=fun o=>(h.cell (p:=⟨g,o,none⟩) (show g<w6.heap.size by omega)).trans (hb6.cell (p:=⟨g,o,none⟩) hgx5.2)
                have f:=fun o=>(h.cell (p:=⟨gy,o,none⟩) (show gy<w6.heap.size by omega)).trans (hb6.cell (p:=⟨gy,o,none⟩) hgy5.2)
                exact ⟨by simp [World.cell?,h1],by simp [World.cell?,h1],by simp [World.cell?,h1],(e _).trans hcs,(f _).trans hcd,FE.out W h⟩)
               have HX6:=Lib.hid (hX5.out.below hb6 (Nat.le_refl _))
               have HY6:=Lib.hid (hY5.out.below hb6 (Nat.le_refl _))
               have HB6:=Lib.hid (hb5.out.trans (hb6.mono hz5))
               have HW6:=Lib.hid hw6
               have HE:=Lib.hid (And.intro e1 e2)
               have hz16:w1.heap.size≤w6.heap.size:=by omega
               have hg6:g<w6.heap.size:=by omega
               have hm6:i≤1000000:=by omega
               have HWR:Hid (IntKind.i64.wrap (xv+mo)=xv+mo):=(show _=_ by rw [IntKind.wrap_i64];omega)
               obtain ⟨q0,q1,q2,q3,_,_⟩:=CE.out w6 (Below.refl _ _)
               clear hcx hx hcs hcd hb6 hh6 hw6 hsN hdN hmo hyy hxv hyd e1 e2
               by_cases h1:xv<1000000000
               · have HIF:=Lib.hid h1
                 go_upto_region 24 with (rw [HW6.out])
                 refine rfew24 _ rfl g i c' gy c8 w5.heap.size sN dN mo yy xv yd _ w6 _ rfl rfl rfl rfl CE.out b1 b2 hm6 HWR.out ?_
                 clear h1 q0 q1 q2 q3
                 intro w7 hb7
                 have hz7:=hb7.size
                 obtain ⟨o1,o2⟩:=(HY6.out.below hb7 (Nat.le_refl _)).set (fun _=>rfl) (i:=dN) b2 (min yd (xv+mo))
                 have hst:w7.setCells gy (dN * 1) (encInt (min yd (xv+mo)))=w7.setCell ⟨gy,dN,none⟩ (.int .i64 (min yd (xv+mo))):=by simp [encInt,World.setCells]
                 rw [hst] at o1 o2
                 have HX7:=Lib.hid ((HX6.out.below hb7 (Nat.le_refl _)).kept o2 (.inr (by simp [blockOf];omega)))
                 have HB7:=Lib.hid ((HB6.out.trans (hb7.mono hz16)).setCell (p:=⟨gy,dN,none⟩) hgy5.1 (.int .i64 (min yd (xv+mo))))
                 have HY7:=Lib.hid o1
                 clear hb7 o1 o2 hst
                 generalize w7.setCell ⟨gy,dN,none⟩ (.int .i64 (min yd (xv+mo)))=w8x at *
                 simp only [setsL,Trfew24,List.take_succ_cons,List.take_zero,Nat.reduceAdd,List.setIfInBounds_toArray,List.set_cons_succ,List.set_cons_zero]
                 go_wp2
                 go_roundw
                 all_goals first
                  | (simp [intOf];omega)
                  | exact ⟨j+1,ys.set dN (min yd (xv+mo)),by omega,by go_num,by simp [hyl],HB7.out,HX7.out,HY7.out,(show _=_ by rw [HST.out,if_pos HIF.out]),(show ∀ v∈ys.set dN (min yd (xv+mo)),_∧_ from el_set hey.out (Int.le_refl _) (by have:=HE.out;rcases Int.le_total yd (xv+mo) with h|h<;>(first|rw [Int.min_eq_left h]|rw [Int.min_eq_right h])<;>omega) (by have:=HE.out;rcases Int.le_total yd (xv+mo) with h|h<;>(first|rw [Int.min_eq_left h]|rw [Int.min_eq_right h])<;>omega))⟩
               · have HIF:=Lib.hid h1
                 go_wp2_with (rw [HW6.out])
                 go_roundw
                 all_goals first
                  | (simp [intOf];omega)
                  | exact ⟨j+1,ys,by omega,by go_num,hyl,HB6.out,HX6.out,HY6.out,(show _=_ by rw [HST.out,if_neg HIF.out]),hey⟩
             · have hjn:j=n:=by omega
               subst hjn
               have HIT:Hid (ys=fewIter i bs a many):=(show _=_ by
                rw [hyj.out,show many=(many-1)+1 by omega,fewIter,fewRow,HNL.out,←hxs.out])
               obtain ⟨va,hva⟩:∃ v,ys.getD a 0=v:=⟨_,rfl⟩
               have hca:w5.cell? ⟨gy,a,none⟩=some (.int .i64 va):=by
                have:=hY5.out.cells (fun _=>rfl) (i:=a) (x:=va) (by rw [←hva,List.getD_eq_getElem?_getD,List.getElem?_eq_getElem (by omega)];rfl) 0 _ rfl
                rw [Nat.mul_one,Nat.add_zero] at this
                exact this
               have HVA:Hid (val (fewIter i bs a many) a=va):=(show _=_ by rw [←HIT.out];exact hva)
               have HEY:Hid (∀ v∈ys,-(10000 * ((many+1-1:Nat):Int))≤v∧v≤1000000000):=(show ∀ v∈ys,_ from fun v hv=>by have:=hey.out v hv;rw [Nat.add_sub_cancel];exact this)
               have HIT2:Hid (ys=fewIter i bs a (many+1-1)):=(show _=_ by rw [Nat.add_sub_cancel];exact HIT.out)
               clear hva
               by_cases hneg:va<0
               · have HMD:=Lib.hid (FewMid.hit hmid.out ham hm1 hmk2 HBB.out (by rw [HVA.out];exact hneg))
                 go_wp2
                 go_roundw
                 all_goals first
                  | (simp [intOf];omega)
                  | exact ⟨many,many+1,gy,c8,ys,by omega,by omega,by omega,rfl,rfl,by go_num,hb5,hY5,HIT2,HMD,HEY⟩
               · have HMD:=Lib.hid (FewMid.next hmid.out HBB.out (by rw [HVA.out];exact hneg))
                 go_wp2
                 go_roundw
                 all_goals first
                  | (simp [intOf];omega)
                  | exact ⟨best,many+1,gy,c8,ys,by omega,by omega,by omega,rfl,rfl,by go_num,hb5,hY5,HIT2,HMD,HEY⟩
end Go.Proofs.YtelnkflmnbhclaaGreat
end
section
namespace Go.Proofs.YtelnkflmnbhclaaGreat
open Go.RowKit Go.Proofs Go.Shelf
def msum:List Link→Int
 | []=>0
 | x::l=>x.most+msum l
theorem msum_append:∀ u v:List Link,msum (u++v)=msum u+msum v
 | [],v=>by simp [msum]
 | x::u,v=>by simp [msum,msum_append u v];omega
def stepOk (L C:List Link) (i:Nat):Prop:=∃ x y,C[i]? = some x∧C[(i+1) % C.length]? = some y∧x∈L∧x.dst=y.src∧∀ (k:Nat) (z:Link),k<i→C[k]? = some z→z.src≠x.src
def RCirP (L C:List Link):Prop:=2≤C.length∧(∀ i,i<C.length→stepOk L C i)∧msum C<0
theorem circ_no {L C:List Link} {i:Nat} (hi:i<C.length) (h:¬stepOk L C i):¬RCirP L C:=fun hc=>h (hc.2.1 i hi)
set_option maxHeartbeats 16000000 in
set_option maxRecDepth 100000 in
theorem rcircle_any (Al:Option Addr) (m cl:Nat) (L:List Link) (Ac:Option Addr) (n cc:Nat) (C:List Link) (w:World) (hl:Rd encLink 6 w Al m cl L) (hc:Rd encLink 6 w Ac n cc C) (hm:m≤1000000) (hn:n≤1000000) (hmost:∀ x∈L,-10000≤x.most∧x.most≤10000):
 Calls Tryz.prog 114 #[.slice Al m cl,.slice Ac n cc] w fun e w'=> ∃ b:Bool,e = .returned (.bool b)∧(b=true↔RCirP L C)∧Below w.heap.size w w':=by
 have HLL:=Lib.hid hl.len
 have hCL:=hc.len
 have HL:=Lib.hid hl
 have HC:=Lib.hid hc
 have HMO:=Lib.hid hmost
 clear hl hc hmost
 by_cases h2:n<2
 · have HNO:Hid (¬RCirP L C):=(show ¬_ from fun h=>by have:=h.1;omega)
   go_enter Tryz.func114,Tryz.ntmps114
   go_wp2
   go_ret
   exact ⟨false,rfl,⟨fun h=>(by cases h),fun h=>absurd h HNO.out⟩,Below.refl _ _⟩
 have HCL:=Lib.hid hCL
 clear hCL
 go_enter Tryz.func114,Tryz.ntmps114
 go_wp2
 go_loopw [5,6] (fun s5 s6 wr=> ∃ (i:Nat) (z:Int),i≤n∧s5 = .int .i64 z∧s6 = .int .i64 i∧Hid (Below w.heap.size w wr)∧Hid (∀ j,j<i→stepOk L C j)∧Hid (msum (C.take i)=z)∧ -(10000 * (i:Int))≤z∧z≤10000 * (i:Int)) (fun _ s6 _=>n-(intOf s6).toNat)
 case atStart=>exact ⟨0,0,Nat.zero_le _,rfl,rfl,(show Below _ _ _ from Below.refl _ _),(show ∀ j,j<0→_ from fun j h=>absurd h (by omega)),(show _=_ from rfl),by omega,by omega⟩
 case round=>
  obtain ⟨i,z,hi,rfl,rfl,hb,hok,hz,hz1,hz2⟩:=hrel
  rename World=>wo
  have hzr:=hb.out.size
  by_cases hlt:i<n
  case neg=>
   have hin:i=n:=by omega
   have HFIN:Hid (decide (z<0)=true↔RCirP L C):=(show _↔_ by
    have h1:=hz.out
    rw [hin,List.take_of_length_le (by rw [HCL.out];exact Nat.le_refl _)] at h1
    rw [decide_eq_true_iff,←h1]
    exact ⟨fun h=>⟨by have:=HCL.out;omega,fun j hj=>hok.out j (by have:=HCL.out;omega),h⟩,fun h=>h.2.2⟩)
   go_wp2
   go_ret
   exact ⟨_,rfl,HFIN.out,hb.out⟩
  case pos=>
   obtain ⟨bc,oc,x,hA,hbcw,hx,hcx⟩:=(HC.out.below hb.out (Nat.le_refl _)).one hlt
   subst hA
   have HX:=Lib.hid hx
   have hbcB:bc<w.heap.size:=(by obtain ⟨b',o',e',hb',_⟩:=HC.out.at_ (show 0<n by omega);cases e';exact hb')
   have CC:Hid (∀ (W:World) (k:Nat) (y:Link),Below w.heap.size w W→C[k]? = some y→W.cell? ⟨bc,oc+k * 6,none⟩=some (.int .i64 y.src.pit)∧W.cell? ⟨bc,oc+k * 6+1,none⟩=some (.int .i64 y.src.layer)∧W.cell? ⟨bc,oc+k * 6+2,none⟩=some (.int .i64 y.dst.pit)∧W.cell? ⟨bc,oc+k * 6+3,none⟩=some (.int .i64 y.dst.layer)∧W.cell? ⟨bc,oc+k * 6+4,none⟩=some (.int .i64 y.most)∧W.cell? ⟨bc,oc+k * 6+5,none⟩=some (.int .i64 y.by_)):=(show ∀ (W:World) (k:Nat) (y:Link),_→_→_ from fun W k y h1 h2=>by
    have hk:k<n:=by have:=(List.getElem?_eq_some_iff.1 h2).1;have:=HCL.out;omega
    obtain ⟨b3,o3,y3,e3,_,h3,c3⟩:=(HC.out.below h1 (Nat.le_refl _)).one hk
    cases e3
    obtain rfl:y=y3:=Option.some.inj (h2.symm.trans h3)
    exact ⟨c3 0 _ rfl,c3 1 _ rfl,c3 2 _ rfl,c3 3 _ rfl,c3 4 _ rfl,c3 5 _ rfl⟩)
   clear hcx hx
   go_wp2
   go_loopw [7,8] (fun s7 s8 wr=> ∃ (k:Nat) (b:Bool),k≤m∧s7 = .bool b∧s8 = .int .i64 k∧Hid (Below w.heap.size w wr)∧Hid (b=true↔x∈L.take k)) (fun _ s8 _=>m-(intOf s8).toNat)
   case atStart=>exact ⟨0,false,Nat.zero_le _,rfl,rfl,hb,(show _↔_ by simp)⟩
   case round=>
    obtain ⟨k,b,hk,rfl,rfl,hb2,hbi⟩:=hrel
    rename World=>w2
    have hz2':=hb2.out.size
    have hbcw2:bc<w2.heap.size:=(by omega)
    obtain ⟨x0,x1,x2,x3,x4,x5⟩:=CC.out w2 i x hb2.out HX.out
    by_cases hlt2:k<m
    · obtain ⟨bl,ol,y,hAl,hblw,hy,hcy⟩:=(HL.out.below hb2.out (Nat.le_refl _)).one hlt2
      subst hAl
      have y0:w2.cell? ⟨bl,ol+k * 6,none⟩=some (.int .i64 y.src.pit):=hcy 0 _ rfl
      have y1:w2.cell? ⟨bl,ol+k * 6+1,none⟩=some (.int .i64 y.src.layer):=hcy 1 _ rfl
      have y2:w2.cell? ⟨bl,ol+k * 6+2,none⟩=some (.int .i64 y.dst.pit):=hcy 2 _ rfl
      have y3:w2.cell? ⟨bl,ol+k * 6+3,none⟩=some (.int .i64 y.dst.layer):=hcy 3 _ rfl
      have y4:w2.cell? ⟨bl,ol+k * 6+4,none⟩=some (.int .i64 y.most):=hcy 4 _ rfl
      have y5:w2.cell? ⟨bl,ol+k * 6+5,none⟩=some (.int .i64 y.by_):=hcy 5 _ rfl
      have HTK:Hid (L.take (k+1)=L.take k ++ [y]):=(show _=_ by rw [List.take_add_one,hy];rfl)
      clear hcy hy
      cases b with
      | true=>
        go_wp2_with (go_quiet (fail))
        go_roundw
        all_goals first
         | (simp [intOf];omega)
         | exact ⟨k+1,true,by omega,rfl,by go_num,(show Below _ _ _ from below_drewN' hb2.out _),(show _↔_ from ⟨fun _=>by rw [HTK.out];exact List.mem_append_left _ (hbi.out.1 rfl),fun _=>rfl⟩)⟩
      | false=>
        have hno:x∉L.take k:=fun h=>by have:=hbi.out.2 h;cases this
        have HNO:=Lib.hid hno
        clear hno
        cases hq:eqLink ⟨⟨y.src.pit,y.src.layer⟩,⟨y.dst.pit,y.dst.layer⟩,y.most,y.by_⟩ ⟨⟨x.src.pit,x.src.layer⟩,⟨x.dst.pit,x.dst.layer⟩,x.most,x.by_⟩
        all_goals
         have HQ:=Lib.hid hq
         go_wp2_with (go_quiet (fail))
         clear hq
         go_roundw
        all_goals first
         | (simp [intOf];omega)
         | exact ⟨k+1,_,by omega,rfl,by go_num,(show Below _ _ _ from below_drewN' hb2.out _),(show _↔_ from by
            rw [HTK.out,List.mem_append,List.mem_singleton]
            first
             | exact ⟨fun _=> .inr (eqLink_iff.1 HQ.out).symm,fun _=>rfl⟩
             | exact ⟨fun h=>(by cases h),fun h=>by
                rcases h with h|h
                · exact absurd h HNO.out
                · have:=eqLink_iff.2 h.symm
                  have h2:=HQ.out
                  rw [show eqLink ⟨⟨y.src.pit,y.src.layer⟩,⟨y.dst.pit,y.dst.layer⟩,y.most,y.by_⟩ ⟨⟨x.src.pit,x.src.layer⟩,⟨x.dst.pit,x.dst.layer⟩,x.most,x.by_⟩=eqLink y x from rfl,this] at h2
                  cases h2⟩)⟩
    · have hkm:k=m:=by omega
      have HIN:Hid (b=true↔x∈L):=(show _↔_ by have h1:=hbi.out;rwa [hkm,List.take_of_length_le (by rw [HLL.out];exact Nat.le_refl _)] at h1)
      clear hbi
      cases b with
      | false=>
        have HNO:Hid (¬RCirP L C):=(show ¬_ from circ_no (i:=i) (by have:=HCL.out;omega) (fun ⟨x',_,h1,_,h3,_⟩=>by
         rw [HX.out] at h1
         cases h1
         have:=HIN.out.2 h3
         cases this))
        go_wp2_with (go_quiet (fail))
        go_ret
        exact ⟨false,rfl,⟨fun h=>(by cases h),fun h=>absurd h HNO.out⟩,below_drewN' hb2.out _⟩
      | true=>
        have HXL:Hid (x∈L):=(show x∈L from HIN.out.1 rfl)
        obtain ⟨r,hr⟩:∃ r,(i+1) % n=r:=⟨_,rfl⟩
        have hrn:r<n:=(by rw [←hr];exact Nat.mod_lt _ (by omega))
        obtain ⟨y2,hy2⟩:∃ y,C[r]? = some y:=⟨_,List.getElem?_eq_getElem (by have:=HCL.out;omega)⟩
        obtain ⟨e0,e1,e2,e3,e4,e5⟩:=CC.out w2 r y2 hb2.out hy2
        have hr1:((i:Int)+1).tmod (n:Int)=(r:Int):=by
         rw [Int.tmod_eq_emod_of_nonneg (by omega),←hr]
         exact (Int.natCast_emod (i+1) n).symm
        have HY2:Hid (C[(i+1) % C.length]? = some y2):=(show _=_ by rw [HCL.out,hr];exact hy2)
        have hn0:(n:Int)≠0:=by omega
        have hnz:((n:Int)==0)=false:=by simp;omega
        clear hr hy2 HIN e2 e3 e4 e5
        cases q1:eqPlace ⟨x.dst.pit,x.dst.layer⟩ ⟨y2.src.pit,y2.src.layer⟩ with
        | false=>
          have HQ1:=Lib.hid q1
          have HNO:Hid (¬RCirP L C):=(show ¬_ from circ_no (i:=i) (by have:=HCL.out;omega) (fun ⟨x',y',h1,h3,_,h4,_⟩=>by
           rw [HX.out] at h1
           rw [HY2.out] at h3
           cases h1
           cases h3
           exact eqPlace_no.1 HQ1.out h4))
          go_wp2_with (go_quiet (fail))
          go_ret
          exact ⟨false,rfl,⟨fun h=>(by cases h),fun h=>absurd h HNO.out⟩,below_drewN' hb2.out _⟩
        | true=>
          have HQ1:=Lib.hid q1
          go_wp2_with (go_quiet (fail))
          clear q1 e0 e1 x0 x1 x2 x3 x4 x5 hr1 hnz hn0
          go_loopw [9] (fun s9 wr=> ∃ (k:Nat),k≤i∧s9 = .int .i64 k∧Hid (Below w.heap.size w wr)∧Hid (∀ (j:Nat) (z:Link),j<k→C[j]? = some z→z.src≠x.src)) (fun s9 _=>i-(intOf s9).toNat)
          case atStart=>exact ⟨0,Nat.zero_le _,rfl,(show Below _ _ _ from below_drewN' hb2.out _),(show ∀ (j:Nat) (z:Link),j<0→_ from fun j z h=>absurd h (by omega))⟩
          case round=>
           obtain ⟨k3,hk3,rfl,hb3,hds⟩:=hrel
           rename World=>w3
           have hz3:=hb3.out.size
           have hbcw3:bc<w3.heap.size:=(by omega)
           obtain ⟨x0,x1,x2,x3,x4,x5⟩:=CC.out w3 i x hb3.out HX.out
           by_cases hlt3:k3<i
           · obtain ⟨u,hu⟩:∃ u,C[k3]? = some u:=⟨_,List.getElem?_eq_getElem (by have:=HCL.out;omega)⟩
             obtain ⟨u0,u1,_,_,_,_⟩:=CC.out w3 k3 u hb3.out hu
             have HU:=Lib.hid hu
             clear hu
             cases q2:eqPlace ⟨u.src.pit,u.src.layer⟩ ⟨x.src.pit,x.src.layer⟩ with
             | true=>
               have HQ2:=Lib.hid q2
               have HNO:Hid (¬RCirP L C):=(show ¬_ from circ_no (i:=i) (by have:=HCL.out;omega) (fun ⟨x',_,h1,_,_,_,h4⟩=>by
                rw [HX.out] at h1
                cases h1
                exact h4 k3 u hlt3 HU.out (eqPlace_iff.1 HQ2.out)))
               go_wp2_with (go_quiet (fail))
               go_ret
               exact ⟨false,rfl,⟨fun h=>(by cases h),fun h=>absurd h HNO.out⟩,below_drewN' hb3.out _⟩
             | false=>
               have HQ2:=Lib.hid q2
               go_wp2_with (go_quiet (fail))
               clear q2
               go_roundw
               all_goals first
                | (simp [intOf];omega)
                | exact ⟨k3+1,by omega,by go_num,(show Below _ _ _ from below_drewN' hb3.out _),(show ∀ (j:Nat) (z:Link),j<k3+1→C[j]? = some z→z.src≠x.src from fun j z hj h=>by
                   by_cases e:j=k3
                   · subst e
                     rw [HU.out] at h
                     cases h
                     exact eqPlace_no.1 HQ2.out
                   · exact hds.out j z (by omega) h)⟩
           · have hki:k3=i:=by omega
             have HOK:Hid (∀ j,j<i+1→stepOk L C j):=(show ∀ j,j<i+1→stepOk L C j from fun j hj=>by
              by_cases e:j=i
              · subst e
                exact ⟨x,y2,HX.out,HY2.out,HXL.out,eqPlace_iff.1 HQ1.out,fun q z hq h=>hds.out q z (by omega) h⟩
              · exact hok.out j (by omega))
             have HSU:Hid (msum (C.take (i+1))=z+x.most):=(show _=_ by rw [List.take_add_one,HX.out,Option.toList_some,msum_append,hz.out];simp [msum])
             have hmx:=HMO.out x HXL.out
             have hw:IntKind.i64.wrap (z+x.most)=z+x.most:=by rw [IntKind.wrap_i64];omega
             go_wp2
             go_roundw
             all_goals first
              | (simp [intOf];omega)
              | exact ⟨i+1,z+x.most,by omega,by go_num,by go_num,hb3,HOK,HSU,by omega,by omega⟩
end Go.Proofs.YtelnkflmnbhclaaGreat
end
section
namespace Go.Proofs.YtelnkflmnbhclaaGreat
open Go.RowKit Go.Proofs Go.Shelf
theorem walk_iff:∀ (ws:List Bound) (a p:Nat),ws ≠ []→(isWalk a ws p↔(∃ b,ws[0]? = some b∧b.src.toNat=a)∧(∀ (i:Nat) (b b':Bound),ws[i]? = some b→ws[i+1]? = some b'→b.dst.toNat=b'.src.toNat)∧∃ b,ws[ws.length-1]? = some b∧b.dst.toNat=p)
 | [],_,_,h=>absurd rfl h
 | [b],a,p,_=>by
   constructor
   · rintro ⟨h1,h2⟩
     exact ⟨⟨b,rfl,h1⟩,fun i c c' hc hc'=>by simp at hc',⟨b,rfl,h2⟩⟩
   · rintro ⟨⟨c,h1,h2⟩,_,⟨c',h3,h4⟩⟩
     cases h1
     cases h3
     exact ⟨h2,h4⟩
 | b::b'::t,a,p,_=>by
   have ih:=walk_iff (b'::t) b.dst.toNat p (by simp)
   constructor
   · rintro ⟨h1,h2⟩
     obtain ⟨⟨c,g1,g2⟩,g3,c',g4,g5⟩:=ih.1 h2
     cases g1
     refine ⟨⟨b,rfl,h1⟩,fun i u u' hu hu'=> ?_,c',?_,g5⟩
     · cases i with
       | zero=>
         cases hu
         cases hu'
         exact g2.symm
       | succ i=>
         rw [List.getElem?_cons_succ] at hu hu'
         exact g3 i u u' hu hu'
     · have:(b::b'::t).length-1=(b'::t).length-1+1:=by simp
       rw [this,List.getElem?_cons_succ];exact g4
   · rintro ⟨⟨c,g1,g2⟩,g3,c',g4,g5⟩
     cases g1
     refine ⟨g2,ih.2 ⟨⟨b',rfl,(g3 0 b b' rfl rfl).symm⟩,fun i u u' hu hu'=>g3 (i+1) u u' (by rw [List.getElem?_cons_succ];exact hu) (by rw [List.getElem?_cons_succ];exact hu'),c',?_,g5⟩⟩
     have:(b::b'::t).length-1=(b'::t).length-1+1:=by simp
     rw [this,List.getElem?_cons_succ] at g4;exact g4
theorem sumW_msum (m:List (Place×Int)):∀ C:List Link,sumW (C.map (boundOf m))=msum C
 | []=>rfl
 | x::C=>by rw [List.map_cons,sumW,msum,sumW_msum m C];rfl
theorem circ_contra {ps:List Place} {L C:List Link} (hn:ps.Nodup) (hz:z00∉ps) (hg:∀ x∈L,goodLink ps x):RCirP L C↔ContraP L (ptsM ps ps.length) C:=by
 have inj:∀ p q:Place,(p=z00∨p∈ps)→(q=z00∨q∈ps)→((getM (ptsM ps ps.length) p).getD 0).toNat=((getM (ptsM ps ps.length) q).getD 0).toNat→p=q:=fun p q hp hq h=>by
  rw [←plAt_of hn hz hp,←plAt_of hn hz hq,h]
 have hs:∀ x:Link,(boundOf (ptsM ps ps.length) x).src=(getM (ptsM ps ps.length) x.src).getD 0:=fun x=>rfl
 have hd:∀ x:Link,(boundOf (ptsM ps ps.length) x).dst=(getM (ptsM ps ps.length) x.dst).getD 0:=fun x=>rfl
 have hmap:∀ i,(C.map (boundOf (ptsM ps ps.length)))[i]? = (C[i]?).map (boundOf (ptsM ps ps.length)):=fun i=>List.getElem?_map
 unfold ContraP
 generalize hB:boundOf (ptsM ps ps.length)=B at *
 have hlen:(C.map B).length=C.length:=List.length_map _
 have hsum:sumW (C.map B)=msum C:=by rw [←hB];exact sumW_msum _ C
 constructor
 · rintro ⟨h1,h2,h3⟩
   have hin:∀ x∈C,x∈L:=fun x hx=>by
    obtain ⟨i,hi⟩:=List.mem_iff_getElem?.1 hx
    obtain ⟨x',_,g1,_,g2,_⟩:=h2 i (List.getElem?_eq_some_iff.1 hi).1
    rw [hi] at g1
    cases g1;exact g2
   have hne:C.map B ≠ []:=fun e=>by
    have:=congrArg List.length e
    rw [hlen] at this
    simp at this
    rw [this] at h1;simp at h1
   refine ⟨hin,h1,?_,?_,by rw [hsum];exact h3⟩
   · obtain ⟨x0,y0,a1,_,a3,_,_⟩:=h2 0 (by omega)
     refine ⟨(B x0).src.toNat,(walk_iff _ _ _ hne).2 ⟨⟨B x0,by rw [hmap,a1];rfl,rfl⟩,fun i b b' hb hb'=> ?_,?_⟩⟩
     · rw [hmap] at hb hb'
       obtain ⟨x,hx,rfl⟩:=Option.map_eq_some_iff.1 hb
       obtain ⟨x',hx',rfl⟩:=Option.map_eq_some_iff.1 hb'
       have hlt:=(List.getElem?_eq_some_iff.1 hx').1
       obtain ⟨u,v,g1,g2,_,g4,_⟩:=h2 i (by omega)
       rw [Nat.mod_eq_of_lt hlt,hx'] at g2
       rw [hx] at g1
       cases g1
       cases g2
       rw [hd,hs,g4]
     · obtain ⟨u,v,g1,g2,_,g4,_⟩:=h2 (C.length-1) (by omega)
       have:(C.length-1+1) % C.length=0:=by rw [Nat.sub_add_cancel (by omega),Nat.mod_self]
       rw [this,a1] at g2
       cases g2
       exact ⟨B u,by rw [hlen,hmap,g1];rfl,by rw [hd,hs,g4]⟩
   · unfold leaves
     rw [List.map_map,List.Nodup,List.pairwise_map,List.pairwise_iff_getElem]
     intro i j hi hj hij e
     obtain ⟨x,_,g1,_,g3,_,g5⟩:=h2 j hj
     have hzi:C[i]? = some C[i]:=List.getElem?_eq_getElem hi
     have hxj:C[j]=x:=by rw [List.getElem?_eq_getElem hj] at g1;exact Option.some.inj g1
     refine g5 i C[i] hij hzi (inj _ _ (hg _ (hin _ (List.getElem_mem _))).1 (hg _ g3).1 ?_)
     rw [←hs,←hs,←hxj]
     exact e
 · rintro ⟨hin,h1,⟨a,ha⟩,hnd,h3⟩
   have hne:C.map B ≠ []:=fun e=>by
    have:=congrArg List.length e
    rw [hlen] at this
    simp at this
    rw [this] at h1;simp at h1
   obtain ⟨⟨b0,k1,k2⟩,k3,bl,k4,k5⟩:=(walk_iff _ _ _ hne).1 ha
   refine ⟨h1,fun i hi=> ?_,by rw [←hsum];exact h3⟩
   obtain ⟨x,hx⟩:∃ x,C[i]? = some x:=⟨_,List.getElem?_eq_getElem hi⟩
   have hr:(i+1) % C.length<C.length:=Nat.mod_lt _ (by omega)
   obtain ⟨y,hy⟩:∃ y,C[(i+1) % C.length]? = some y:=⟨_,List.getElem?_eq_getElem hr⟩
   have hxL:=hin _ (List.mem_of_getElem? hx)
   have hyL:=hin _ (List.mem_of_getElem? hy)
   refine ⟨_,_,hx,hy,hxL,inj _ _ (hg _ hxL).2.1 (hg _ hyL).1 ?_,fun k z hk hzk e=> ?_⟩
   · rw [←hd,←hs]
     by_cases hlt:i+1<C.length
     · have e:(i+1) % C.length=i+1:=Nat.mod_eq_of_lt hlt
       refine k3 i _ _ (by rw [hmap,hx];rfl) ?_
       rw [hmap]
       rw [e] at hy
       rw [hy];rfl
     · have hie:i=C.length-1:=by omega
       have e:(i+1) % C.length=0:=by rw [hie,Nat.sub_add_cancel (by omega),Nat.mod_self]
       rw [hlen,hmap,←hie,hx] at k4
       cases k4
       rw [hmap] at k1
       rw [e] at hy
       rw [hy] at k1
       cases k1
       rw [k5,k2]
   · unfold leaves at hnd
     rw [List.map_map,List.Nodup,List.pairwise_map,List.pairwise_iff_getElem] at hnd
     have hki:k<C.length:=by omega
     refine hnd k i hki hi hk ?_
     have hzk':C[k]=z:=by rw [List.getElem?_eq_getElem hki] at hzk;exact Option.some.inj hzk
     have hxi:C[i]=x:=by rw [List.getElem?_eq_getElem hi] at hx;exact Option.some.inj hx
     show (B C[k]).src.toNat=(B C[i]).src.toNat
     rw [hs,hs,hzk',hxi,e]
end Go.Proofs.YtelnkflmnbhclaaGreat
end
section
namespace Go.Proofs.YtelnkflmnbhclaaGreat
open Go.RowKit Go.Proofs Go.Shelf
set_option maxHeartbeats 4000000 in
theorem rFewest_any (A:Option Addr) (n c:Nat) (l:List Trace) (known:Int) (B:Option Addr) (m d:Nat) (bs:List Bond) (M:Option Addr) (mn mc:Nat) (mv:List Place) (w:World) (hl:Rd encTrace 10 w A n c l) (hb:Rd encBond 5 w B m d bs) (hm:Rd encPlace 2 w M mn mc mv):
 Calls Tryz.prog 59 #[.slice A n c,.int .i64 known,.slice B m d,.slice M mn mc] w fun e w'=>e = .returned (.tuple #[.int .i64 (conflictV l known bs mv).1.length,.int .i64 (withErr l known bs mv)])∧Below w.heap.size w w':=by
 have HMO:=Lib.hid (rmoves_any A n c l known B m d bs M mn mc mv w hl hb hm)
 by_cases he:withErr l known bs mv=0
 · have hask:=askErr_of_with he
   have hO:=okO_of hask
   have hck:(check l).2=0:=by rcases askErr_cases l known bs with ⟨h,h'⟩|⟨h,_⟩|⟨h,_⟩|⟨h,_⟩|⟨h,_⟩<;>first|exact h|exact absurd (h'.symm.trans hask) h
   have hs1:=check_small hck
   have hln:=hl.len
   have hbn:=hb.len
   have hl1:=hO.tn
   have hl2:=hO.bn
   have hpn:=hO.pn
   have hll:=linksL_len (counting l known) bs mv
   have hsm:=smallSys_years hO mv
   have hv:(conflictV l known bs mv).1.length=(circleX ((placesOf (counting l known) bs).length+1) (sysB (counting l known) bs mv)).length:=by
    unfold conflictV
    rw [if_neg (by simpa using he)]
    simp only [someL,List.length_map]
    rfl
   have hlaw:∀ best:Nat,FewInv ((((placesOf (counting l known) bs).length:Int)+1)).toNat (sysB (counting l known) bs mv) ((((placesOf (counting l known) bs).length:Int)+1)).toNat best→best=(conflictV l known bs mv).1.length:=fun best h=>by
    rw [hv];exact few_law hsm h
   have HLAW:=Lib.hid hlaw
   rw [he] at HMO ⊢
   have HK:=Lib.hid (fun W (h:Below w.heap.size w W)=>rcounting_any A n c l known W (hl.below h (Nat.le_refl _)) (by omega))
   have HP:=Lib.hid (fun W A4 m4 c4 (h:Below w.heap.size w W) (hr:Rd encTrace 10 W A4 m4 c4 (counting l known))=>rplaces_any A4 m4 c4 (counting l known) B m d bs W hr (hb.below h (Nat.le_refl _)) (by have:=hr.len;omega) (by omega))
   have HLK:=Lib.hid (fun W A4 m4 c4 (h:Below w.heap.size w W) (hr:Rd encTrace 10 W A4 m4 c4 (counting l known))=>rlinks_any A4 m4 c4 (counting l known) B m d bs M mn mc mv W hr (hb.below h (Nat.le_refl _)) (hm.below h (Nat.le_refl _)) (by have:=hr.len;omega) (by omega) (okLT_counting hck))
   have HSY:=Lib.hid (fun W Ap cp Al cl (h1:Rd encPlace 2 W Ap (placesOf (counting l known) bs).length cp (placesOf (counting l known) bs)) (h2:Rd encLink 6 W Al (linksL (counting l known) bs mv).length cl (linksL (counting l known) bs mv))=>rsystem_any Ap (placesOf (counting l known) bs).length cp (placesOf (counting l known) bs) Al (linksL (counting l known) bs mv).length cl (linksL (counting l known) bs mv) W h1 h2 (placesOf_nodup _ _) (z00_not hO) (linksL_good hO mv) (by omega) (by omega))
   have HFW:=Lib.hid (fun W A' c' (h1:Rd encBound 4 W A' (linksL (counting l known) bs mv).length c' (sysB (counting l known) bs mv))=>rfewest1_any ((placesOf (counting l known) bs).length+1) A' (linksL (counting l known) bs mv).length c' (sysB (counting l known) bs mv) W h1 hsm)
   have hcl:(counting l known).length≤17592186044416:=by omega
   have hbig:(linksL (counting l known) bs mv).length≤17592186044416:=by omega
   have hsE:(linksL (counting l known) bs mv).map (boundOf (ptsM (placesOf (counting l known) bs) (placesOf (counting l known) bs).length))=sysB (counting l known) bs mv:=rfl
   rw [hsE] at HSY
   clear hlaw hv hsE he hO hask hck hs1 hln hbn hpn hl1 hl2 hll hl hb hm hsm
   generalize sysB (counting l known) bs mv=S at *
   generalize linksL (counting l known) bs mv=L at *
   generalize placesOf (counting l known) bs=ps at *
   generalize counting l known=ts at *
   generalize (conflictV l known bs mv).1.length=N at *
   go_enter Tryz.func59,Tryz.ntmps59
   go_wp2_with (first
    | (go_at_call 86;(with_reducible refine HMO.out.mono ?_);rintro e w2 ⟨rfl,hb2⟩;have HB2:=Lib.hid hb2;clear hb2)
    | (go_at_call 83;(with_reducible refine (HK.out _ HB2.out).mono ?_);rintro e w4 ⟨A4,m4,c4,rfl,hO4,hb4⟩
       have HB4:=Lib.hid (HB2.out.trans (hb4.mono HB2.out.size))
       have hm4:=hO4.len
       have HR4:=Lib.hid (hO4.rd (fun _=>rfl) (by omega))
       clear hb4 hO4 hm4)
    | (go_at_call 82;(with_reducible refine (HP.out _ _ _ _ HB4.out HR4.out).mono ?_);rintro e w5 ⟨Ap,cp,rfl,hR5,hb5⟩
       have HB5:=Lib.hid (HB4.out.trans (hb5.mono HB4.out.size))
       have HT5:=Lib.hid (HR4.out.below hb5 (Nat.le_refl _))
       have HR5:=Lib.hid hR5
       clear hb5 hR5)
    | (go_at_call 87;(with_reducible refine (HLK.out _ _ _ _ HB5.out HT5.out).mono ?_);rintro e w6 ⟨A6,c6,rfl,hO6,hb6⟩
       have HB6:=Lib.hid (HB5.out.trans (hb6.mono HB5.out.size))
       have HP6:=Lib.hid (HR5.out.below hb6 (Nat.le_refl _))
       have HL6:=Lib.hid (hO6.rd (fun _=>rfl) hbig)
       clear hb6 hO6)
    | (go_at_call 106;(with_reducible refine (HSY.out _ _ _ _ _ HP6.out HL6.out).mono ?_);rintro e w7 ⟨A7,c7,rfl,hO7,hb7⟩
       have HB7:=Lib.hid (HB6.out.trans (hb7.mono HB6.out.size))
       have HR7:=Lib.hid (hO7.rd (fun _=>rfl) hbig)
       clear hb7 hO7)
    | (go_at_call 112;(with_reducible refine (HFW.out _ _ _ HR7.out).mono ?_);rintro e w8 ⟨best,rfl,hfi,hb8⟩
       obtain rfl:=HLAW.out best hfi
       have HB8:=Lib.hid (HB7.out.trans (hb8.mono HB7.out.size))
       clear hb8 hfi))
   go_ret2
   exact ⟨rfl,HB8.out⟩
 · have he':=neBool he
   have hv:(conflictV l known bs mv).1 = []:=by unfold conflictV;rw [if_pos he]
   rw [hv]
   clear he hv hl hb hm
   generalize withErr l known bs mv=er at *
   go_enter Tryz.func59,Tryz.ntmps59
   go_wp2_with (go_at_call 86;(with_reducible refine HMO.out.mono ?_);rintro e w2 ⟨rfl,hb2⟩;have HB2:=Lib.hid hb2;clear hb2)
   go_ret2
   exact ⟨rfl,HB2.out⟩
set_option maxHeartbeats 4000000 in
theorem rCheckConflict_any (A:Option Addr) (n c:Nat) (l:List Trace) (known:Int) (B:Option Addr) (m d:Nat) (bs:List Bond) (M:Option Addr) (mn mc:Nat) (mv:List Place) (cA:Option Addr) (cn cc:Nat) (C:List Link) (w:World) (hl:Rd encTrace 10 w A n c l) (hb:Rd encBond 5 w B m d bs) (hm:Rd encPlace 2 w M mn mc mv) (hC:Rd encLink 6 w cA cn cc C) (hcn:cn≤1000000):
 Calls Tryz.prog 61 #[.slice A n c,.int .i64 known,.slice B m d,.slice M mn mc,.slice cA cn cc] w fun e w'=>e = .returned (.tuple #[.bool (checkConflictV l known bs mv C).1,.int .i64 (checkConflictV l known bs mv C).2])∧Below w.heap.size w w':=by
 have HMO:=Lib.hid (rmoves_any A n c l known B m d bs M mn mc mv w hl hb hm)
 by_cases he:withErr l known bs mv=0
 · have hask:=askErr_of_with he
   have hO:=okO_of hask
   have hck:(check l).2=0:=by rcases askErr_cases l known bs with ⟨h,h'⟩|⟨h,_⟩|⟨h,_⟩|⟨h,_⟩|⟨h,_⟩<;>first|exact h|exact absurd (h'.symm.trans hask) h
   have hs1:=check_small hck
   have hln:=hl.len
   have hbn:=hb.len
   have hl1:=hO.tn
   have hl2:=hO.bn
   have hll:=linksL_len (counting l known) bs mv
   have hv:checkConflictV l known bs mv C=(contraV (linksL (counting l known) bs mv) (ptsOf l known bs) C,0):=by unfold checkConflictV;rw [if_neg (by simpa using he)]
   rw [hv]
   rw [he] at HMO
   have HCC:=Lib.hid (show RCirP (linksL (counting l known) bs mv) C↔contraV (linksL (counting l known) bs mv) (ptsOf l known bs) C=true by
    rw [contraV_iff];exact circ_contra (placesOf_nodup _ _) (z00_not hO) (linksL_good hO mv))
   have HK:=Lib.hid (fun W (h:Below w.heap.size w W)=>rcounting_any A n c l known W (hl.below h (Nat.le_refl _)) (by omega))
   have HLK:=Lib.hid (fun W A4 m4 c4 (h:Below w.heap.size w W) (hr:Rd encTrace 10 W A4 m4 c4 (counting l known))=>rlinks_any A4 m4 c4 (counting l known) B m d bs M mn mc mv W hr (hb.below h (Nat.le_refl _)) (hm.below h (Nat.le_refl _)) (by have:=hr.len;omega) (by omega) (okLT_counting hck))
   have HCR:=Lib.hid (fun W Al cl (h:Below w.heap.size w W) (h2:Rd encLink 6 W Al (linksL (counting l known) bs mv).length cl (linksL (counting l known) bs mv))=>rcircle_any Al (linksL (counting l known) bs mv).length cl (linksL (counting l known) bs mv) cA cn cc C W h2 (hC.below h (Nat.le_refl _)) (by omega) hcn (fun x hx=>by obtain ⟨_,_,_,g4,g5,_,_⟩:=linksL_good hO mv x hx;exact ⟨g4,g5⟩))
   have hcl:(counting l known).length≤17592186044416:=by omega
   have hbig:(linksL (counting l known) bs mv).length≤17592186044416:=by omega
   clear hv he hO hask hck hs1 hln hbn hl1 hl2 hll hl hb hm hC
   generalize contraV (linksL (counting l known) bs mv) (ptsOf l known bs) C=R at *
   generalize linksL (counting l known) bs mv=L at *
   generalize counting l known=ts at *
   go_enter Tryz.func61,Tryz.ntmps61
   go_wp2_with (first
    | (go_at_call 86;(with_reducible refine HMO.out.mono ?_);rintro e w2 ⟨rfl,hb2⟩;have HB2:=Lib.hid hb2;clear hb2)
    | (go_at_call 83;(with_reducible refine (HK.out _ HB2.out).mono ?_);rintro e w4 ⟨A4,m4,c4,rfl,hO4,hb4⟩
       have HB4:=Lib.hid (HB2.out.trans (hb4.mono HB2.out.size))
       have hm4:=hO4.len
       have HR4:=Lib.hid (hO4.rd (fun _=>rfl) (by omega))
       clear hb4 hO4 hm4)
    | (go_at_call 87;(with_reducible refine (HLK.out _ _ _ _ HB4.out HR4.out).mono ?_);rintro e w6 ⟨A6,c6,rfl,hO6,hb6⟩
       have HB6:=Lib.hid (HB4.out.trans (hb6.mono HB4.out.size))
       have HL6:=Lib.hid (hO6.rd (fun _=>rfl) hbig)
       clear hb6 hO6)
    | (go_at_call 114;(with_reducible refine (HCR.out _ _ _ HB6.out HL6.out).mono ?_);rintro e w7 ⟨b,rfl,hbi,hb7⟩
       obtain rfl:b=R:=(by rw [Bool.eq_iff_iff];exact hbi.trans HCC.out)
       have HB7:=Lib.hid (HB6.out.trans (hb7.mono HB6.out.size))
       clear hb7 hbi))
   go_ret2
   exact ⟨rfl,HB7.out⟩
 · have he':=neBool he
   have hv:checkConflictV l known bs mv C=(false,withErr l known bs mv):=by unfold checkConflictV;rw [if_pos he]
   rw [hv]
   clear he hv hl hb hm hC
   generalize withErr l known bs mv=er at *
   go_enter Tryz.func61,Tryz.ntmps61
   go_wp2_with (go_at_call 86;(with_reducible refine HMO.out.mono ?_);rintro e w2 ⟨rfl,hb2⟩;have HB2:=Lib.hid hb2;clear hb2)
   go_ret2
   exact ⟨rfl,HB2.out⟩
end Go.Proofs.YtelnkflmnbhclaaGreat
end
section
namespace Go.Proofs.YtelnkflmnbhclaaGreat
open Go.RowKit Go.Proofs Go.Shelf
section
variable {l:List Trace} {known:Int} {bs:List Bond} {mv:List Place}
theorem conflV_b:(conflictV l known bs mv).2.1=decide (0<(conflictV l known bs mv).1.length):=by
 by_cases h:withErr l known bs mv=0
 · rw [conflict_is h]
   unfold conflictV
   rw [if_neg (by simpa using h)]
   simp only [someL,List.length_map]
   rfl
 · unfold conflictV;rw [if_pos h];rfl
theorem conflV_len:(conflictV l known bs mv).1.length≤60:=by
 unfold conflictV
 by_cases hw:withErr l known bs mv=0
 · rw [if_neg (by simpa using hw)]
   have:=(circleX_ok (sys_ok hw)).1
   simp only [someL,List.length_map]
   exact this
 · rw [if_pos hw];simp
theorem conflV_ok (h:(conflictV l known bs mv).2.1=true):withErr l known bs mv=0:=by
 by_cases hw:withErr l known bs mv=0
 · exact hw
 · unfold conflictV at h;rw [if_pos hw] at h;cases h
theorem checkConflict_e {d:List Link} : (checkConflictV l known bs mv d).2=withErr l known bs mv:=by
 unfold checkConflictV
 by_cases h:withErr l known bs mv=0
 · rw [if_neg (by simpa using h),h]
 · rw [if_pos h]
end
set_option maxRecDepth 100000 in
set_option maxHeartbeats 8000000 in
theorem stratumConflicts_of (lA:Option Addr) (ln lc:Nat) (l:List Trace) (hl0:l.length=ln) (known:Int) (bA:Option Addr) (bn bc:Nat) (b:List Bond) (hb0:b.length=bn) (mA:Option Addr) (mn mc:Nat) (mv:List Place) (hm0:mv.length=mn) (dA:Option Addr) (dn dc:Nat) (d:List Link) (hd0:d.length=dn) (w:World) (rl:ln≤17592186044416→Rd encTrace 10 w lA ln lc l) (rb:bn≤17592186044416→Rd encBond 5 w bA bn bc b) (rm:mn≤17592186044416→Rd encPlace 2 w mA mn mc mv) (rd:dn≤17592186044416→Rd encLink 6 w dA dn dc d):
 Calls Tryz.prog 13 #[.slice lA ln lc,.int .i64 known,.slice bA bn bc,.slice mA mn mc,.slice dA dn dc] w fun e w'=>e = .returned (.bool true)∧Below w.heap.size w w':=by
 have HDUG:=Lib.hid dug_any
 by_cases hlow:fewB ln bn 25=true∧mn≤10∧dn≤60
 case neg=>
  obtain ⟨fw,hfew⟩:∃ fw,fewB ln bn 25=fw:=⟨_,rfl⟩
  rw [hfew] at hlow
  have HF:=Lib.hid hfew
  have h4:fw=false∨(fw=true∧decide ((mn:Int)>10)=true)∨(fw=true∧decide ((mn:Int)>10)=false∧decide ((dn:Int)>60)=true):=by
   cases fw with
   | false=>exact .inl rfl
   | true=>
     by_cases h2:10<mn
     · exact .inr (.inl ⟨rfl,decide_eq_true (by omega)⟩)
     · exact .inr (.inr ⟨rfl,decide_eq_false (by omega),decide_eq_true (by have:¬dn≤60:=(fun h=>hlow ⟨rfl,by omega,h⟩);omega)⟩)
  clear hfew hlow rl rb rm rd hl0 hb0 hm0 hd0
  rcases h4 with rfl|⟨rfl,g2⟩|⟨rfl,g2,g3⟩
  all_goals
   go_enter Tryz.func13,Tryz.ntmps13
   go_wp2_with (first
    | (go_at_call 23;(with_reducible refine (few_any _ _ _ _ _ _ _ _).mono ?_);rintro e w2 ⟨rfl,rfl⟩;rw [HF.out])
    | (go_at_call 22;(with_reducible refine (HDUG.out _).mono ?_);rintro e w7 ⟨rfl,hb7⟩;have HB7:=Lib.hid hb7;clear hb7))
   go_ret
   exact ⟨rfl,HB7.out⟩
 case pos=>
  obtain ⟨hfew,hmn,hdn⟩:=hlow
  obtain ⟨hn,hm⟩:=fewB_small hfew (by decide)
  have HF:=Lib.hid hfew
  have m1:decide ((mn:Int)>10)=false:=decide_eq_false (by omega)
  have m2:decide ((dn:Int)>60)=false:=decide_eq_false (by omega)
  have RL:Hid (∀ W,Below w.heap.size w W→Rd encTrace 10 W lA ln lc l):=(show ∀ W,Below w.heap.size w W→Rd encTrace 10 W lA ln lc l from fun W h=>(rl (by omega)).below h (Nat.le_refl _))
  have RB:Hid (∀ W,Below w.heap.size w W→Rd encBond 5 W bA bn bc b):=(show ∀ W,Below w.heap.size w W→Rd encBond 5 W bA bn bc b from fun W h=>(rb (by omega)).below h (Nat.le_refl _))
  have RM:Hid (∀ W,Below w.heap.size w W→Rd encPlace 2 W mA mn mc mv):=(show ∀ W,Below w.heap.size w W→Rd encPlace 2 W mA mn mc mv from fun W h=>(rm (by omega)).below h (Nat.le_refl _))
  have RD:Hid (∀ W,Below w.heap.size w W→Rd encLink 6 W dA dn dc d):=(show ∀ W,Below w.heap.size w W→Rd encLink 6 W dA dn dc d from fun W h=>(rd (by omega)).below h (Nat.le_refl _))
  have HB1:=Lib.hid (Below.refl w.heap.size w)
  have d1:=conflict_err (l:=l) (known:=known) (bs:=b) (mv:=mv)
  have d2:=conflV_b (l:=l) (known:=known) (bs:=b) (mv:=mv)
  have d4:=conflV_len (l:=l) (known:=known) (bs:=b) (mv:=mv)
  have d5:(conflictV l known b mv).2.1=true→withErr l known b mv=0∧checkConflictV l known b mv (conflictV l known b mv).1=(true,0):=fun h=>by
   have h0:=conflV_ok h
   have h1:=either_own h0 h
   have h2:=checkConflict_e (l:=l) (known:=known) (bs:=b) (mv:=mv) (d:=(conflictV l known b mv).1)
   exact ⟨h0,Prod.ext h1 (h2.trans h0)⟩
  have c1:=checkConflict_e (l:=l) (known:=known) (bs:=b) (mv:=mv) (d:=d)
  clear hfew rl rb rm rd hb0 hm0 hd0 hl0
  have K1:Hid (∀ W,Below w.heap.size w W→Calls Tryz.prog 58 #[.slice lA ln lc,.int .i64 known,.slice bA bn bc,.slice mA mn mc] W fun e' w'=> ∃ Ad cd,e' = .returned (.tuple #[.slice Ad (conflictV l known b mv).1.length cd,.bool (conflictV l known b mv).2.1,.int .i64 (conflictV l known b mv).2.2])∧Below W.heap.size W w'∧Own encLink 6 74 W.heap.size w' Ad (conflictV l known b mv).1.length cd (conflictV l known b mv).1):=
   (show ∀ W,Below w.heap.size w W→_ from fun W h=>Conflict_any lA ln lc l known bA bn bc b mA mn mc mv W (RL.out W h) (RB.out W h) (RM.out W h))
  have K2:Hid (∀ W,Below w.heap.size w W→Calls Tryz.prog 59 #[.slice lA ln lc,.int .i64 known,.slice bA bn bc,.slice mA mn mc] W fun e' w'=>e' = .returned (.tuple #[.int .i64 (conflictV l known b mv).1.length,.int .i64 (withErr l known b mv)])∧Below W.heap.size W w'):=
   (show ∀ W,Below w.heap.size w W→_ from fun W h=>rFewest_any lA ln lc l known bA bn bc b mA mn mc mv W (RL.out W h) (RB.out W h) (RM.out W h))
  have K3:Hid (∀ W,Below w.heap.size w W→Calls Tryz.prog 60 #[.slice lA ln lc,.int .i64 known,.slice bA bn bc,.slice mA mn mc,.slice dA dn dc] W fun e' w'=>e' = .returned (.tuple #[.bool (checkConflictV l known b mv d).1,.int .i64 (checkConflictV l known b mv d).2])∧Below W.heap.size W w'):=
   (show ∀ W,Below w.heap.size w W→_ from fun W h=>CheckConflict_any lA ln lc l known bA bn bc b mA mn mc mv dA dn dc d W (RL.out W h) (RB.out W h) (RM.out W h) (RD.out W h) (by omega))
  have K4:Hid (∀ W,Below w.heap.size w W→Calls Tryz.prog 61 #[.slice lA ln lc,.int .i64 known,.slice bA bn bc,.slice mA mn mc,.slice dA dn dc] W fun e' w'=>e' = .returned (.tuple #[.bool (checkConflictV l known b mv d).1,.int .i64 (checkConflictV l known b mv d).2])∧Below W.heap.size W w'):=
   (show ∀ W,Below w.heap.size w W→_ from fun W h=>rCheckConflict_any lA ln lc l known bA bn bc b mA mn mc mv dA dn dc d W (RL.out W h) (RB.out W h) (RM.out W h) (RD.out W h) (by omega))
  have K5:Hid (∀ W Ad cd,Below w.heap.size w W→Rd encLink 6 W Ad (conflictV l known b mv).1.length cd (conflictV l known b mv).1→Calls Tryz.prog 61 #[.slice lA ln lc,.int .i64 known,.slice bA bn bc,.slice mA mn mc,.slice Ad (conflictV l known b mv).1.length cd] W fun e' w'=>e' = .returned (.tuple #[.bool (checkConflictV l known b mv (conflictV l known b mv).1).1,.int .i64 (checkConflictV l known b mv (conflictV l known b mv).1).2])∧Below W.heap.size W w'):=
   (show ∀ W Ad cd,Below w.heap.size w W→Rd encLink 6 W Ad (conflictV l known b mv).1.length cd (conflictV l known b mv).1→_ from fun W Ad cd h h2=>
     rCheckConflict_any lA ln lc l known bA bn bc b mA mn mc mv Ad _ cd _ W (RL.out W h) (RB.out W h) (RM.out W h) h2 (Nat.le_trans d4 (by decide)))
  rw [d1] at K1
  obtain ⟨⟨kd,ed⟩,hkd⟩:∃ q,checkConflictV l known b mv d=q:=⟨_,rfl⟩
  rw [hkd] at c1 K3 K4
  simp only at c1
  subst c1
  obtain ⟨⟨dl,ok1,e1⟩,hdv⟩:∃ q,conflictV l known b mv=q:=⟨_,rfl⟩
  rw [hdv] at d2 d4 d5 K1 K2 K5
  clear d1 hkd hdv RL RB RM RD
  simp only at d2 d4 d5 K1 K2 K5
  cases ok1 with
  | true=>
    obtain ⟨d6,d7⟩:=d5 rfl
    have hpos:0<dl.length:=of_decide_eq_true d2.symm
    have hgt:decide ((dl.length:Int)>0)=true:=decide_eq_true (by omega)
    clear d2
    rw [d7] at K5
    rw [d6] at K1 K2 K3 K4
    clear d5 d6 d7
    go_enter Tryz.func13,Tryz.ntmps13
    go_wp2_with (first
     | (go_at_call 23;(with_reducible refine (few_any _ _ _ _ _ _ _ _).mono ?_);rintro e w2 ⟨rfl,hw2⟩;obtain rfl:=hw2.symm;rw [HF.out])
     | (go_at_call 58;(with_reducible refine (K1.out _ HB1.out).mono ?_);rintro e w4 ⟨Ad,cd,rfl,hb4,hO4⟩;have HB4:=Lib.hid hb4;have HR4:=Lib.hid (hO4.rd (fun _=>rfl) (by omega));clear hb4 hO4)
     | (go_at_call 59;(with_reducible refine (K2.out _ HB4.out).mono ?_);rintro e w5 ⟨rfl,hb5⟩;have HB5:=Lib.hid (HB4.out.trans (hb5.mono HB4.out.size));have HR5:=Lib.hid (HR4.out.below hb5 (Nat.le_refl _));clear hb5)
     | (go_at_call 60;(with_reducible refine (K3.out _ HB5.out).mono ?_);rintro e w6 ⟨rfl,hb6⟩;have HB6:=Lib.hid (HB5.out.trans (hb6.mono HB5.out.size));have HR6:=Lib.hid (HR5.out.below hb6 (Nat.le_refl _));clear hb6)
     | (go_at_call 61;(with_reducible refine (K4.out _ HB6.out).mono ?_);rintro e w7 ⟨rfl,hb7⟩;have HB7:=Lib.hid (HB6.out.trans (hb7.mono HB6.out.size));have HR7:=Lib.hid (HR6.out.below hb7 (Nat.le_refl _));clear hb7)
     | (go_at_call 61;(with_reducible refine (K5.out _ _ _ HB7.out HR7.out).mono ?_);rintro e w8 ⟨rfl,hb8⟩;have HB8:=Lib.hid (HB7.out.trans (hb8.mono HB7.out.size));clear hb8)
     | (go_at_call 22;(with_reducible refine (HDUG.out _).mono ?_);rintro e w9 ⟨rfl,hb9⟩;have HB9:=Lib.hid (HB8.out.trans (hb9.mono HB8.out.size));clear hb9))
    all_goals first
     | (exfalso;simp at *;done)
     | (go_ret;exact ⟨by simp,HB9.out⟩)
  | false=>
    have hz0:dl.length=0:=(by have:=of_decide_eq_false d2.symm;omega)
    obtain rfl:dl = []:=List.eq_nil_of_length_eq_zero hz0
    clear d2 d4 d5 K5 hz0
    generalize withErr l known b mv=er at *
    go_enter Tryz.func13,Tryz.ntmps13
    go_wp2_with (first
     | (go_at_call 23;(with_reducible refine (few_any _ _ _ _ _ _ _ _).mono ?_);rintro e w2 ⟨rfl,hw2⟩;obtain rfl:=hw2.symm;rw [HF.out])
     | (go_at_call 58;(with_reducible refine (K1.out _ HB1.out).mono ?_);rintro e w4 ⟨Ad,cd,rfl,hb4,hO4⟩;have HB4:=Lib.hid hb4;clear hb4 hO4)
     | (go_at_call 59;(with_reducible refine (K2.out _ HB4.out).mono ?_);rintro e w5 ⟨rfl,hb5⟩;have HB5:=Lib.hid (HB4.out.trans (hb5.mono HB4.out.size));clear hb5)
     | (go_at_call 60;(with_reducible refine (K3.out _ HB5.out).mono ?_);rintro e w6 ⟨rfl,hb6⟩;have HB6:=Lib.hid (HB5.out.trans (hb6.mono HB5.out.size));clear hb6)
     | (go_at_call 61;(with_reducible refine (K4.out _ HB6.out).mono ?_);rintro e w7 ⟨rfl,hb7⟩;have HB7:=Lib.hid (HB6.out.trans (hb7.mono HB6.out.size));clear hb7)
     | (go_at_call 22;(with_reducible refine (HDUG.out _).mono ?_);rintro e w9 ⟨rfl,hb9⟩;have HB9:=Lib.hid (HB7.out.trans (hb9.mono HB7.out.size));clear hb9))
    all_goals first
     | (exfalso;simp at *;done)
     | (go_ret;exact ⟨by simp,HB9.out⟩)
end Go.Proofs.YtelnkflmnbhclaaGreat
end

/- Contracts that the laws lean on: Bell, Bell2, AdmP, CircM, Circ10. -/
import Derived.Test.YtejjplhknacoiaaGreatDoorLK17
import Derived.Test.YtejjplhknacoiaaGreatDoorLK13
set_option maxRecDepth 100000
set_option maxHeartbeats 4000000
section
namespace Go.Proofs.YtejjplhknacoiaaGreatDoor
abbrev val (r:Row) (v:Nat):Int:=r.getD v 0
def Ends (n:Nat) (bs:List Bound):Prop:=∀ b∈bs,b.src.toNat<n∧b.dst.toNat<n
section
variable {bs:List Bound} {st:Row×Row} {b:Bound} {i:Nat}
end
section
variable {bs:List Bound} {st:Row×Row}
end
def sysB (ts:List Trace) (bs:List Bond) (mv:List Place):List Bound:=(linksL ts bs mv).map (boundOf (ptsM (placesOf ts bs) (placesOf ts bs).length))
def enough (ts:List Trace) (bs:List Bond) (mv:List Place):Bool:=solvedOk ((placesOf ts bs).length+1) (sysB ts bs mv)
open Go.RowKit Go.Proofs Go.Shelf
theorem admStep_get {m:List (Place×Admit)} {x:Trace} {p:Place} {v:Admit} (h:getM (admStep m x) p=some v):getM m p=some v∨(x.kind=3∧p=placeT x∧v=admT x):=by
 unfold admStep at h
 split at h
 · rename_i hk
   rw [getM_putM] at h
   split at h
   · rename_i e
     exact .inr ⟨hk,by first|exact e|exact e.symm,(Option.some.inj h).symm⟩
   · exact .inl h
 · exact .inl h
theorem admFold_get:∀ (ts:List Trace) (m:List (Place×Admit)) (p:Place) (v:Admit),getM (ts.foldl admStep m) p=some v→getM m p=some v∨∃ x∈ts,x.kind=3∧p=placeT x∧v=admT x
 | [],m,p,v,h=> .inl h
 | x::ts,m,p,v,h=>by
   rw [List.foldl_cons] at h
   rcases admFold_get ts (admStep m x) p v h with h1|⟨y,hy,h1⟩
   · rcases admStep_get h1 with h2|h2
     · exact .inl h2
     · exact .inr ⟨x,List.mem_cons_self,h2⟩
   · exact .inr ⟨y,List.mem_cons_of_mem _ hy,h1⟩
theorem admitM_get {ts:List Trace} {p:Place} {v:Admit} (h:getM (admitM ts) p=some v):∃ x∈ts,x.kind=3∧p=placeT x∧v=admT x:=by
 rcases admFold_get ts [] p v h with h1|h1
 · cases h1
 · exact h1
theorem admitsOf_from {ts:List Trace} {a:Admit} (h:a∈admitsOf ts):∃ x∈ts,x.kind=3∧a=admT x:=by
 unfold admitsOf at h
 obtain ⟨p,hp,rfl⟩:=List.mem_map.1 h
 obtain ⟨v,hv⟩:=getM_key ((sortPl_perm _).mem_iff.1 hp)
 obtain ⟨x,hx,hk,_,e⟩:=admitM_get hv
 exact ⟨x,hx,hk,by rw [hv,←e];rfl⟩
theorem admitsOf_cost {ts:List Trace} {bs:List Bond} (h:OkO ts bs):∀ x∈admitsOf ts,0≤x.cost∧x.cost≤1000:=fun a ha=>by
 obtain ⟨x,hx,hk,rfl⟩:=admitsOf_from ha
 have h1:=(h.t x hx).1
 unfold okT at h1
 simp [hk,inB] at h1
 simp only [admT]
 omega
theorem admitsOf_places (ts:List Trace):(admitsOf ts).map (·.place)=sortPl ((admitM ts).map (·.1)):=by
 unfold admitsOf
 rw [List.map_map]
 conv=>rhs;rw [←List.map_id (sortPl ((admitM ts).map (·.1)))]
 refine List.map_congr_left fun p hp=> ?_
 obtain ⟨v,hv⟩:=getM_key ((sortPl_perm _).mem_iff.1 hp)
 obtain ⟨x,_,_,e1,e2⟩:=admitM_get hv
 show ((getM (admitM ts) p).getD _).place=p
 rw [hv,Option.getD_some,e2,e1]
 rfl
structure WOk (bs:List Bound) (m:Nat) (x:Walks):Prop where
 s:x.sums.length=m+1
 l:x.last.length=m+1
 r60:∀ r∈x.sums,r.length=60
 low:∀ v:Int,0≤v→v<60→ -((m:Int) * 1000000)≤rAt x.now v
 ok:bs ≠ []→LastOk bs x.last
theorem rAt_put60 {r:Row} (h:r.length=60) {i j x:Int} (h1:0≤i) (h2:i<60) (h3:0≤j):rAt (rPut r i x) j=if j=i then x else rAt r j:=by
 unfold rAt rPut
 rw [List.getD_eq_getElem?_getD,List.getD_eq_getElem?_getD,List.getElem?_set]
 by_cases e:j=i
 · subst e;rw [if_pos rfl,if_pos rfl,if_pos (by omega)];rfl
 · rw [if_neg (by omega),if_neg e]
theorem rAt_empty (v:Int) (h1:0≤v) (h2:v<60):rAt emptyRow v=noneV:=by
 unfold rAt emptyRow
 rw [List.getD_eq_getElem?_getD,List.getElem?_replicate,if_pos (by omega)];rfl
theorem rAt_zero (v:Int):rAt zeroRow v=0:=by
 unfold rAt zeroRow
 rw [List.getD_eq_getElem?_getD,List.getElem?_replicate]
 split<;>rfl
theorem longerTo_low {pts:Int} {bs:List Bound} (hok:SysOk pts bs) {now:Row} {M:Int} (hM:0≤M) (hn:∀ v:Int,0≤v→v<60→ -M≤rAt now v):∀ k,∀ v:Int,0≤v→v<60→ -(M+1000000)≤rAt (longerTo bs now k).1 v
 | 0,v,h1,h2=>by
   show _≤rAt emptyRow v
   rw [rAt_empty v h1 h2];unfold noneV;omega
 | k+1,v,h1,h2=>by
   have ih:=longerTo_low hok hM hn k v h1 h2
   have hp:=hok.p2
   cases hb:bs[k]? with
   | none=>rw [longerTo,hb];exact ih
   | some b=>
     have hbk:=hok.b b (List.mem_of_getElem? hb)
     by_cases h:rAt now b.src<noneV∧rAt now b.src+b.most<rAt (longerTo bs now k).1 b.dst
     · rw [longerTo_hit hb h.1 h.2]
       simp only
       rw [rAt_put60 (longerTo_len bs now k).1 hbk.2.2.1 (by omega) h1]
       have:=hn b.src hbk.1 (by omega)
       split
       · omega
       · exact ih
     · rw [longerTo_miss hb h];exact ih
theorem longerTo_last {pts:Int} {bs:List Bound} (hok:SysOk pts bs) {now:Row} (hne:bs ≠ []):∀ k,k≤bs.length→∀ v:Int,0≤v→v<60→0≤rAt (longerTo bs now k).2 v∧rAt (longerTo bs now k).2 v<bs.length
 | 0,_,v,h1,h2=>by
   have:0<bs.length:=List.length_pos_iff.2 hne
   show 0≤rAt zeroRow v∧rAt zeroRow v<_
   rw [rAt_zero];omega
 | k+1,hk,v,h1,h2=>by
   have ih:=longerTo_last hok (now:=now) hne k (by omega) v h1 h2
   have hp:=hok.p2
   cases hb:bs[k]? with
   | none=>rw [longerTo,hb];exact ih
   | some b=>
     have hbk:=hok.b b (List.mem_of_getElem? hb)
     by_cases h:rAt now b.src<noneV∧rAt now b.src+b.most<rAt (longerTo bs now k).1 b.dst
     · rw [longerTo_hit hb h.1 h.2]
       simp only
       rw [rAt_put60 (longerTo_len bs now k).2 hbk.2.2.1 (by omega) h1]
       split
       · omega
       · exact ih
     · rw [longerTo_miss hb h];exact ih
theorem Walks.now_longer (bs:List Bound) (x:Walks):(x.longer bs).now=(longerR bs x.now).1:=by
 have e:(x.longer bs).sums=x.sums ++ [(longerR bs x.now).1]:=rfl
 show (x.longer bs).sums.getD ((x.longer bs).sums.length-1) []=_
 rw [e]
 simp [List.getD_eq_getElem?_getD]
theorem WOk.start (bs:List Bound) (p:Nat) (hp:p<60):WOk bs 0 (walks0 p):=by
 have h60:emptyRow.length=60:=by simp [emptyRow]
 refine ⟨rfl,rfl,fun r hr=> ?_,fun v h1 h2=> ?_,fun hne r hr=> ?_⟩
 · have:r=rPut emptyRow p 0:=by simpa [walks0] using hr
   subst this;simp [h60]
 · show _≤rAt (rPut emptyRow p 0) v
   rw [rAt_put60 h60 (by omega) (by omega) h1,rAt_empty v h1 h2]
   unfold noneV
   split<;>simp
 · have:r=zeroRow:=by simpa [walks0] using hr
   subst this
   have:0<bs.length:=List.length_pos_iff.2 hne
   refine ⟨by simp [zeroRow],fun v h1 h2=> ?_⟩
   rw [rAt_zero];omega
theorem WOk.longer {pts:Int} {bs:List Bound} (hok:SysOk pts bs) {m:Nat} {x:Walks} (h:WOk bs m x):WOk bs (m+1) (x.longer bs):=by
 have hl:=longerTo_len bs x.now bs.length
 refine ⟨by simp [Walks.longer,h.s],by simp [Walks.longer,h.l],fun r hr=> ?_,fun v h1 h2=> ?_,fun hne r hr=> ?_⟩
 · simp only [Walks.longer,List.mem_append,List.mem_singleton] at hr
   rcases hr with hr|rfl
   · exact h.r60 r hr
   · exact hl.1
 · rw [Walks.now_longer]
   have:=longerTo_low hok (M:=(m:Int) * 1000000) (by omega) h.low bs.length v h1 h2
   show _≤rAt (longerTo bs x.now bs.length).1 v
   omega
 · simp only [Walks.longer,List.mem_append,List.mem_singleton] at hr
   rcases hr with hr|rfl
   · exact h.ok hne r hr
   · exact ⟨hl.2,longerTo_last hok hne bs.length (Nat.le_refl _)⟩
theorem WOk.now_at {bs:List Bound} {m:Nat} {x:Walks} (h:WOk bs m x):x.sums[m]? = some x.now:=by
 have hl:=h.s
 unfold Walks.now
 rw [hl,Nat.add_sub_cancel,List.getD_eq_getElem?_getD,List.getElem?_eq_getElem (by omega)];rfl
theorem WOk.now60 {bs:List Bound} {m:Nat} {x:Walks} (h:WOk bs m x):x.now.length=60:=h.r60 _ (List.mem_of_getElem? h.now_at)
def WAt (B:Nat) (W:World) (cur:Array Value) (p:Nat) (x:Walks) (g al:Nat):Prop:=
 ∃ cs cl,cur[2 * p]? = some (.slice (some ⟨g,0,none⟩) x.sums.length cs)∧cur[2 * p+1]? = some (.slice (some ⟨al,0,none⟩) x.last.length cl)∧
   Own encRow 60 128 B W (some ⟨g,0,none⟩) x.sums.length cs x.sums∧Own encRow 60 127 B W (some ⟨al,0,none⟩) x.last.length cl x.last
structure AllAt (B:Nat) (W:World) (ba pts:Nat) (all:List Walks) (cur:Array Value) (g al:Nat→Nat):Prop where
 at_:W.heap[ba]? = some (.cells cur 133 (0,0))
 size:cur.size=2 * pts
 base:B≤ba
 w:∀ p x,all[p]? = some x→WAt B W cur p x (g p) (al p)
 ne:∀ p q,p<all.length→q<all.length→p≠q→g p≠g q∧al p≠al q
theorem WAt.kept {B:Nat} {W W':World} {cur cur':Array Value} {p:Nat} {x:Walks} {g al:Nat} (h:WAt B W cur p x g al) (hc0:cur'[2 * p]? = cur[2 * p]?) (hc1:cur'[2 * p+1]? = cur[2 * p+1]?) (hg:W'.heap[g]? = W.heap[g]?) (ha:W'.heap[al]? = W.heap[al]?) (_:W.heap.size≤W'.heap.size):WAt B W' cur' p x g al:=by
 obtain ⟨cs,cl,h1,h2,h3,h4⟩:=h
 have key:∀ {t:TypeId} {b n c:Nat} {xs:List Row},Own encRow 60 t B W (some ⟨b,0,none⟩) n c xs→W'.heap[b]? = W.heap[b]? → Own encRow 60 t B W' (some ⟨b,0,none⟩) n c xs:=by
  intro t b n c xs hO hb
  refine ⟨hO.len,hO.own.1,?_⟩
  rcases hO.own.2 with ⟨e,_⟩|⟨g',cap,c2,e,a1,a2,a3⟩
  · cases e
  · cases e
    exact .inr ⟨b,c,c2,rfl,a1,hb.trans a2,a3⟩
 exact ⟨cs,cl,hc0.trans h1,hc1.trans h2,key h3 hg,key h4 ha⟩
theorem WAt.lt {B:Nat} {W:World} {cur:Array Value} {p:Nat} {x:Walks} {g al:Nat} (h:WAt B W cur p x g al):g<W.heap.size∧al<W.heap.size:=by
 obtain ⟨cs,cl,_,_,h3,h4⟩:=h
 exact ⟨h3.lt.2,h4.lt.2⟩
theorem WAt.types {B:Nat} {W:World} {cur:Array Value} {p:Nat} {x:Walks} {g al:Nat} (h:WAt B W cur p x g al):(∃ c,W.heap[g]? = some (.cells c 128 (0,0)))∧(∃ c,W.heap[al]? = some (.cells c 127 (0,0))):=by
 obtain ⟨cs,cl,_,_,h3,h4⟩:=h
 constructor
 · rcases h3.block with h|⟨g',c,e,hc,_⟩
   · cases h
   · cases e;exact ⟨c,hc⟩
 · rcases h4.block with h|⟨g',c,e,hc,_⟩
   · cases h
   · cases e;exact ⟨c,hc⟩
section
variable {B ba pts:Nat} {W W':World} {all:List Walks} {cur:Array Value} {g al:Nat→Nat}
theorem AllAt.lt (h:AllAt B W ba pts all cur g al):ba<W.heap.size:=(Array.getElem?_eq_some_iff.1 h.at_).1
theorem AllAt.below (h:AllAt B W ba pts all cur g al) (hb:Below W.heap.size W W'):AllAt B W' ba pts all cur g al:=
 ⟨(hb.block _ h.lt).trans h.at_,h.size,h.base,fun p x hx=>(h.w p x hx).kept rfl rfl (hb.block _ (h.w p x hx).lt.1) (hb.block _ (h.w p x hx).lt.2) hb.size,h.ne⟩
theorem AllAt.longer (h:AllAt B W ba pts all cur g al) {p:Nat} {x:Walks} (hx:all[p]? = some x) (bs:List Bound)
 (hp:LongPost W W' B ba (2 * p) cur (some ⟨g p,0,none⟩) x.sums.length (some ⟨al p,0,none⟩) x.last.length x.sums x.last (longerR bs x.now).1 (longerR bs x.now).2):
 (∃ cur' g' al',AllAt B W' ba pts (all.set p (x.longer bs)) cur' g' al')∧ChgT (fun k=>k=ba∨∃ q,q<all.length∧(k=g q∨k=al q)) W W':=by
 obtain ⟨hc,A2,c2,A3,c3,⟨o2,b2⟩,⟨o3,b3⟩,hh⟩:=hp
 have hpl:p<all.length:=(List.getElem?_eq_some_iff.1 hx).1
 have hchg:ChgT (fun k=>k=ba∨∃ q,q<all.length∧(k=g q∨k=al q)) W W':=hc.mono (fun k hk ht=>by
  rcases ht with ht|ht|ht
  · exact .inl ht
  · exact .inr ⟨p,hpl,.inl (Option.some.inj ht).symm⟩
  · exact .inr ⟨p,hpl,.inr (Option.some.inj ht).symm⟩)
 refine ⟨?_,hchg⟩
 obtain ⟨g2,rfl⟩:∃ g2,A2=some ⟨g2,0,none⟩:=by
  rcases o2.form with ⟨_,e,_⟩|⟨g2,e,_⟩
  · omega
  · exact ⟨g2,e⟩
 obtain ⟨g3,rfl⟩:∃ g3,A3=some ⟨g3,0,none⟩:=by
  rcases o3.form with ⟨_,e,_⟩|⟨g3,e,_⟩
  · omega
  · exact ⟨g3,e⟩
 have e2:g2=g p∨W.heap.size≤g2:=by
  rcases b2 with e|⟨k,hk,e⟩
  · exact .inl (Option.some.inj e)
  · have:g2=k:=Option.some.inj e
    exact .inr (by omega)
 have e3:g3=al p∨W.heap.size≤g3:=by
  rcases b3 with e|⟨k,hk,e⟩
  · exact .inl (Option.some.inj e)
  · have:g3=k:=Option.some.inj e
    exact .inr (by omega)
 obtain ⟨cs,cl,w1,w2,w3,w4⟩:=h.w p x hx
 have hpc:2 * p+1<cur.size:=(Array.getElem?_eq_some_iff.1 w2).1
 refine ⟨_,fun q=>if q=p then g2 else g q,fun q=>if q=p then g3 else al q,hh,by simp [h.size],h.base,fun q y hy=> ?_,fun q r hq hr hne=> ?_⟩
 · by_cases e:q=p
   · subst e
     have hy':y=x.longer bs:=by rw [List.getElem?_set_self hpl] at hy;exact (Option.some.inj hy).symm
     subst hy'
     refine ⟨c2,c3,?_,?_,?_,?_⟩
     · simp only [if_true,Walks.longer,List.length_append,List.length_cons,List.length_nil]
       rw [Array.getElem?_setIfInBounds_ne (by omega),Array.getElem?_setIfInBounds_self_of_lt (by omega)]
     · simp only [if_true,Walks.longer,List.length_append,List.length_cons,List.length_nil]
       rw [Array.getElem?_setIfInBounds_self_of_lt (by simpa using hpc)]
     · simp only [if_true,Walks.longer,List.length_append,List.length_cons,List.length_nil];exact o2
     · simp only [if_true,Walks.longer,List.length_append,List.length_cons,List.length_nil];exact o3
   · rw [List.getElem?_set_ne (Ne.symm e)] at hy
     have hql:q<all.length:=(List.getElem?_eq_some_iff.1 hy).1
     have hwq:=h.w q y hy
     obtain ⟨⟨cg,tg⟩,⟨ca,ta⟩⟩:=hwq.types
     obtain ⟨⟨cg',tg'⟩,⟨ca',ta'⟩⟩:=(h.w p x hx).types
     have hne:=h.ne q p hql hpl e
     simp only [if_neg e]
     refine hwq.kept ?_ ?_ (hc.block _ hwq.lt.1 ?_) (hc.block _ hwq.lt.2 ?_) hc.size
     · rw [Array.getElem?_setIfInBounds_ne (by omega),Array.getElem?_setIfInBounds_ne (by omega)]
     · rw [Array.getElem?_setIfInBounds_ne (by omega),Array.getElem?_setIfInBounds_ne (by omega)]
     · rintro (ht|ht|ht)
       · rw [ht,h.at_] at tg;cases tg
       · exact hne.1 (Option.some.inj ht).symm
       · have:al p=g q:=Option.some.inj ht
         rw [this,tg] at ta';cases ta'
     · rintro (ht|ht|ht)
       · rw [ht,h.at_] at ta;cases ta
       · have:g p=al q:=Option.some.inj ht
         rw [this,ta] at tg';cases tg'
       · exact hne.2 (Option.some.inj ht).symm
 · rw [List.length_set] at hq hr
   have hgl:∀ q,q<all.length→g q<W.heap.size∧al q<W.heap.size:=fun q hq=>(h.w q _ (List.getElem?_eq_getElem hq)).lt
   have h1:=hgl q hq
   have h2:=hgl r hr
   have h3:=h.ne q r hq hr hne
   constructor
   · by_cases e:q=p
     · subst e
       simp only [if_true,if_neg (Ne.symm hne)]
       rcases e2 with e|e<;>omega
     · by_cases e':r=p
       · subst e'
         simp only [if_true,if_neg hne]
         rcases e2 with e|e<;>omega
       · simp only [if_neg e,if_neg e'];exact h3.1
   · by_cases e:q=p
     · subst e
       simp only [if_true,if_neg (Ne.symm hne)]
       rcases e3 with e|e<;>omega
     · by_cases e':r=p
       · subst e'
         simp only [if_true,if_neg hne]
         rcases e3 with e|e<;>omega
       · simp only [if_neg e,if_neg e'];exact h3.2
end
end Go.Proofs.YtejjplhknacoiaaGreatDoor
end
section
namespace Go.Proofs.YtejjplhknacoiaaGreatDoor
open Go.RowKit Go.Proofs
def code111_10:Option Code→Code
 | some (.seq _ (.scope (.seq _ (.seq _ (.seq (.seq _ (.block _ (.loop (.seq _ (.seq _ (.seq (.block _ (.seq _ (.seq _ (.seq _ c)))) _)))))) _)))))=>c
 | _=> .skip
theorem Own.lit {enc:Row→List Value} {k:Nat} (e:TypeId) (B:Nat) (w:World) (cs:Array Value) (xs:List Row) (n:Nat) (hn:xs.length=n) (hk:∀ x,(enc x).length=k) (hcs:cs.toList=xs.flatMap enc) (hB:B≤w.heap.size) (hm:n≤1000000):
 Own enc k e B (w.alloc (.cells cs e)) (some ⟨w.heap.size,0,none⟩) n n xs:=by
 have hsz:cs.size=n * k:=by rw [←Array.length_toList,hcs,flatMap_len hk,hn]
 refine ⟨hn,by rw [flatMap_len hk,hn],.inr ⟨w.heap.size,n,cs,rfl,hB,heap_alloc_new w _,Nat.le_refl _,by unfold maxLen;omega,hsz,?_⟩⟩
 rw [←hcs,List.take_of_length_le (by rw [Array.length_toList,hsz];exact Nat.le_refl _)]
def factC (w0:World) (B ba n c p _:Nat) (cur:Array Value) (r:Row):Nat→Value→World→Prop
 | 0,v,_=>v = .slice (some ⟨ba,0,none⟩) n c
 | 1,v,_=>v = .int .i64 p
 | 2,v,_=>v = .agg (rowA r)
 | 6,v,_=>v = .pointer (some ⟨ba,2 * p,none⟩)
 | 3,v,W=> ∃ k3,v = .slice (some ⟨k3,0,none⟩) 1 1∧w0.heap.size≤k3∧Own encRow 60 128 B W (some ⟨k3,0,none⟩) 1 1 [r]
 | 4,v,W=> ∃ k4,v = .slice (some ⟨k4,0,none⟩) 1 1∧w0.heap.size≤k4∧Own encRow 60 127 B W (some ⟨k4,0,none⟩) 1 1 [zeroRow]
 | 5,v,W=> ∃ k3 k4,v = .agg #[.slice (some ⟨k3,0,none⟩) 1 1,.slice (some ⟨k4,0,none⟩) 1 1]∧w0.heap.size≤k3∧w0.heap.size≤k4∧Own encRow 60 128 B W (some ⟨k3,0,none⟩) 1 1 [r]∧Own encRow 60 127 B W (some ⟨k4,0,none⟩) 1 1 [zeroRow]
 | 7,_,W=> ∃ k3 k4,w0.heap.size≤k3∧w0.heap.size≤k4∧Own encRow 60 128 B W (some ⟨k3,0,none⟩) 1 1 [r]∧Own encRow 60 127 B W (some ⟨k4,0,none⟩) 1 1 [zeroRow]∧W.heap[ba]? = some (.cells ((cur.setIfInBounds (2 * p) (.slice (some ⟨k3,0,none⟩) 1 1)).setIfInBounds (2 * p+1) (.slice (some ⟨k4,0,none⟩) 1 1)) 133 (0,0))
 | _,_,_=>True
def preC (_:World) (_ ba _ _ _ b8:Nat) (cur:Array Value) (r:Row):Nat→World→Prop
 | 2,W=>rowAt? W b8 60=some (rowA r)
 | 7,W=>W.heap[ba]? = some (.cells cur 133 (0,0))
 | _,_=>True
section
variable {w0 W W':World} {B ba n c p b8:Nat} {cur:Array Value} {r:Row}
theorem own_some {t:TypeId} {k m d:Nat} {xs:List Row} (h:Own encRow 60 t B W (some ⟨k,0,none⟩) m d xs) {row:Option Nat} (hg:W.grownBy W' row) (hne:row≠some k):Own encRow 60 t B W' (some ⟨k,0,none⟩) m d xs:=h.kept hg (.inr (fun e=>hne e.symm))
theorem factC.keep {row:Option Nat} {j:Nat} {v:Value} (h:factC w0 B ba n c p b8 cur r j v W) (hg:W.grownBy W' row) (hr:∀ q,row=some q→q<w0.heap.size) (h7:j=7→row=none):factC w0 B ba n c p b8 cur r j v W':=by
 have hn:∀ k,w0.heap.size≤k→row≠some k:=fun k hk e=>by have:=hr k e;omega
 unfold factC at h ⊢
 split at h
 all_goals first
  | exact h
  | (obtain ⟨k3,a1,a2,a3⟩:=h;exact ⟨k3,a1,a2,own_some a3 hg (hn _ a2)⟩)
  | (obtain ⟨k3,k4,a1,a2,a3,a4,a5⟩:=h;exact ⟨k3,k4,a1,a2,a3,own_some a4 hg (hn _ a2),own_some a5 hg (hn _ a3)⟩)
  | (obtain ⟨k3,k4,a2,a3,a4,a5,a6⟩:=h;have e:=h7 rfl;subst e;exact ⟨k3,k4,a2,a3,own_some a4 hg (hn _ a2),own_some a5 hg (hn _ a3),(hg.block _ (Array.getElem?_eq_some_iff.1 a6).1 (by simp)).trans a6⟩)
theorem preC.keep {row:Option Nat} {j:Nat} (h:preC w0 B ba n c p b8 cur r j W) (hg:W.grownBy W' row) (h1:row≠some ba) (h2:row≠some b8):preC w0 B ba n c p b8 cur r j W':=by
 unfold preC at h ⊢
 split at h
 all_goals first
  | exact h
  | exact rowAt?_grown h hg h2
  | exact (hg.block _ (Array.getElem?_eq_some_iff.1 h).1 (fun e=>h1 e.symm)).trans h
end
theorem circ10 (c0:Code) (hc:c0=code111_10 Tryz.f35.body) (B ba n c p b8:Nat) (cur:Array Value) (r:Row) (a:Act) (w:World) (Q:Exit→Act→World→Prop)
 (hT:a.tmps.size=76) (t6:a.tmps.getD 6 undef = .slice (some ⟨ba,0,none⟩) n c) (t7:a.tmps.getD 7 undef = .int .i64 p) (t8:a.tmps.getD 8 undef = .pointer (some ⟨b8,0,none⟩))
 (hcur:w.heap[ba]? = some (.cells cur 133 (0,0))) (hp:p<n) (hpc:2 * p+1<cur.size) (hr8:rowAt? w b8 60=some (rowA r)) (hr:r.length=60) (hB:B≤w.heap.size) (hne:ba≠b8)
 (hQ:∀ (V:Nat→Value) W,ChgT (fun k=>k=ba) w W→factC w B ba n c p b8 cur r 7 undef W→(∃ k3 k4,V 3 = .slice (some ⟨k3,0,none⟩) 1 1∧V 4 = .slice (some ⟨k4,0,none⟩) 1 1)→(∃ k3 k4,V 5 = .agg #[.slice (some ⟨k3,0,none⟩) 1 1,.slice (some ⟨k4,0,none⟩) 1 1])→
   Q .normal { tmps:=(((((((a.tmps.setIfInBounds 28 (.slice (some ⟨ba,0,none⟩) n c)).setIfInBounds 29 (.int .i64 p)).setIfInBounds 30 (.agg (rowA r))).setIfInBounds 31 (V 3)).setIfInBounds 32 (V 4)).setIfInBounds 33 (V 5)).setIfInBounds 34 (.pointer (some ⟨ba,2 * p,none⟩))),defers:=a.defers } W):
 c0.wp Tryz.prog Q a w:=by
 subst hc
 unfold code111_10 Tryz.f35
 dsimp only
 have hbl:ba<w.heap.size:=(Array.getElem?_eq_some_iff.1 hcur).1
 refine wpIn_wide.1 (wpIn_region_facts (nn:=5) 76 (by kernel_rfl) (by kernel_rfl) hT.symm (factC w B ba n c p b8 cur r) (preC w B ba n c p b8 cur r) (fun W=>ChgT (fun k=>k=ba) w W) (ChgT.refl _ w).drew ?_ ?_ ?_)
 · intro j hj
   unfold preC
   split
   · exact hr8
   · exact hcur
   · trivial
 · intro V listed i o b W hi ho h
   clear hQ
   obtain ⟨hun,oi,hoi,hall⟩:=mem_ready.1 hi
   have:oi=o:=Option.some.inj (hoi.symm.trans ho)
   subst this
   clear hoi hi
   have hlt:i<8:=(by have:=(Array.getElem?_eq_some_iff.1 ho).1;simpa using this)
   have hun':listed.getD i false=false:=getD_both hun
   have hpre:=h.pre i (by simpa using hlt) hun'
   rcases (by omega:i=0∨i=1∨i=2∨i=3∨i=4∨i=5∨i=6∨i=7) with rfl|rfl|rfl|rfl|rfl|rfl|rfl|rfl
   all_goals simp only [List.getElem?_toArray,List.getElem?_cons_zero,List.getElem?_cons_succ] at ho
   all_goals cases ho
   ·
    have q6:=(h.tab.old 6 (dst_no h.tab (by kernel_rfl))).trans t6
    have q6':b.tmps[6]?.getD undef=_:=(by simpa using q6)
    refine wide_val (v:=.slice (some ⟨ba,0,none⟩) n c) (by go_simp;try rfl) (FactsGo.same h.glob rfl)
   ·
    have q7:=(h.tab.old 7 (dst_no h.tab (by kernel_rfl))).trans t7
    have q7':b.tmps[7]?.getD undef=_:=(by simpa using q7)
    refine wide_val (v:=.int .i64 p) (by go_simp;try rfl) (FactsGo.same h.glob rfl)
   ·
    have q8:=(h.tab.old 8 (dst_no h.tab (by kernel_rfl))).trans t8
    have q8':b.tmps[8]?.getD undef=_:=(by simpa using q8)
    have p0:rowAt? W b8 60=some (rowA r):=hpre
    exact wide_val (run_load_op row207 rfl q8 p0) (FactsGo.same h.glob rfl)
   ·
    have l2:=hall ⟨2,.data⟩ (by simp) rfl
    have e2:b.tmps.getD 30 undef = .agg (rowA r):=(h.tab.val 2 30 rfl l2).trans (h.fact 2 l2)
    have e2':b.tmps[30]?.getD undef = .agg (rowA r):=(by simpa using e2)
    have f0:b.eval (.tmp 30) = .agg (rowA r):=e2
    have hgr:W.grownBy (W.alloc (.cells (rowA r) 128)) none:=World.grownBy_alloc _ _ _
    refine wide_val (W':=W.alloc (.cells (rowA r) 128)) (v:=.slice (some ⟨W.heap.size,0,none⟩) 1 1) (by simp only [execOp,List.map_toArray,List.map_cons,List.map_nil,f0,Sem.run_bind,run_build1 elRow W hr,Result.andThen_ok,Sem.run_pure]) ⟨_,rfl,⟨W.heap.size,rfl,h.glob.size,Own.lit _ B W (rowA r) [r] 1 rfl encRow_len (by rw [encRow_rowA hr];simp) (by have:=h.glob.size;omega) (by omega)⟩,fun j _ _ hf=>hf.keep hgr (fun _ e=>by cases e) (fun _=>rfl),fun j _ _ _ hp=>hp.keep hgr (fun e=>by cases e) (fun e=>by cases e),h.glob.grown hgr (fun r e=>by cases e)⟩
   ·
    obtain ⟨W2,hrun,hO4,hgr⟩:=run_make1 B W (by have:=h.glob.size;omega)
    refine wide_val (W':=W2) (v:=.slice (some ⟨W.heap.size,0,none⟩) 1 1) (by simp only [execOp,Act.eval,Sem.run_bind,hrun,Result.andThen_ok,Sem.run_pure]) ⟨_,rfl,⟨W.heap.size,rfl,h.glob.size,hO4⟩,fun j _ _ hf=>hf.keep hgr (fun _ e=>by cases e) (fun _=>rfl),fun j _ _ _ hp=>hp.keep hgr (fun e=>by cases e) (fun e=>by cases e),h.glob.grown hgr (fun r e=>by cases e)⟩
   ·
    have l3:=hall ⟨3,.data⟩ (by simp) rfl
    have l4:=hall ⟨4,.data⟩ (by simp) rfl
    obtain ⟨k3,a1,a2,a3⟩:=h.fact 3 l3
    obtain ⟨k4,b1,b2,b3⟩:=h.fact 4 l4
    have f3:b.tmps[31]?.getD undef = .slice (some ⟨k3,0,none⟩) 1 1:=(by have:=(h.tab.val 3 31 rfl l3).trans a1;simpa using this)
    have f4:b.tmps[32]?.getD undef = .slice (some ⟨k4,0,none⟩) 1 1:=(by have:=(h.tab.val 4 32 rfl l4).trans b1;simpa using this)
    refine wide_val (v:=.agg #[.slice (some ⟨k3,0,none⟩) 1 1,.slice (some ⟨k4,0,none⟩) 1 1]) (by go_simp;try rfl) (FactsGo.same h.glob ⟨k3,k4,rfl,a2,b2,a3,b3⟩)
   ·
    have l0:=hall ⟨0,.data⟩ (by simp) rfl
    have e0:b.tmps.getD 28 undef = .slice (some ⟨ba,0,none⟩) n c:=(h.tab.val 0 28 rfl l0).trans (h.fact 0 l0)
    have e0':b.tmps[28]?.getD undef = .slice (some ⟨ba,0,none⟩) n c:=(by simpa using e0)
    have l1:=hall ⟨1,.data⟩ (by simp) rfl
    have e1:b.tmps.getD 29 undef = .int .i64 p:=(h.tab.val 1 29 rfl l1).trans (h.fact 1 l1)
    have e1':b.tmps[29]?.getD undef = .int .i64 p:=(by simpa using e1)
    have hp2:p<n:=hp
    refine wide_val (v:=.pointer (some ⟨ba,2 * p,none⟩)) (by go_simp;try (rw [if_pos (by omega)]);try (congr 4;omega)) (FactsGo.same h.glob rfl)
   ·
    have l6:=hall ⟨6,.data⟩ (by simp) rfl
    have e6:b.tmps.getD 34 undef = .pointer (some ⟨ba,2 * p,none⟩):=(h.tab.val 6 34 rfl l6).trans (h.fact 6 l6)
    have e6':b.tmps[34]?.getD undef = .pointer (some ⟨ba,2 * p,none⟩):=(by simpa using e6)
    have l5:=hall ⟨5,.data⟩ (by simp) rfl
    obtain ⟨k3,k4,a1,a2,a3,a4,a5⟩:=h.fact 5 l5
    have f5:b.tmps[33]?.getD undef = .agg #[.slice (some ⟨k3,0,none⟩) 1 1,.slice (some ⟨k4,0,none⟩) 1 1]:=(by have:=(h.tab.val 5 33 rfl l5).trans a1;simpa using this)
    have hh:W.heap[ba]? = some (.cells cur 133 (0,0)):=hpre
    have d0:W.cell? ⟨ba,2 * p,none⟩=some cur[2 * p]:=(by simp only [World.cell?,hh];exact Array.getElem?_eq_getElem (by omega))
    have d1:W.cell? ⟨ba,2 * p+1,none⟩=some cur[2 * p+1]:=(by simp only [World.cell?,hh];exact Array.getElem?_eq_getElem hpc)
    have d2:W.frozen? ⟨ba,2 * p,none⟩=false:=(by simp [World.frozen?,hh])
    have d3:W.frozen? ⟨ba,2 * p+1,none⟩=false:=(by simp [World.frozen?,hh])
    have g1:W.grownBy (W.setCell ⟨ba,2 * p,none⟩ (.slice (some ⟨k3,0,none⟩) 1 1)) (some ba):=grownBy_setCell' W ba _ _
    have g2:=g1.trans (grownBy_setCell' (W.setCell ⟨ba,2 * p,none⟩ (.slice (some ⟨k3,0,none⟩) 1 1)) ba (2 * p+1) (.slice (some ⟨k4,0,none⟩) 1 1))
    have hnew:=heap_setCell_at (i:=2 * p+1) (v:=.slice (some ⟨k4,0,none⟩) 1 1) (heap_setCell_at (i:=2 * p) (v:=.slice (some ⟨k3,0,none⟩) 1 1) hh)
    refine wide_skip (W':=(W.setCell ⟨ba,2 * p,none⟩ (.slice (some ⟨k3,0,none⟩) 1 1)).setCell ⟨ba,2 * p+1,none⟩ (.slice (some ⟨k4,0,none⟩) 1 1)) (by go_simp) ⟨undef,rfl,⟨k3,k4,a2,a3,own_some a4 g2 (fun e=>by cases e;omega),own_some a5 g2 (fun e=>by cases e;omega),hnew⟩,fun j hj hl hf=>hf.keep g2 (fun q e=>by cases e;exact hbl) (fun e=>absurd e hj),?_,h.glob.grown g2 (fun q e=> .inl (by cases e;rfl))⟩
    intro j hjs hj hl hp
    unfold preC at hp ⊢
    split at hp
    all_goals first
     | exact hp
     | exact absurd rfl hj
     | exact rowAt?_grown hp g2 (fun e=>hne (Option.some.inj e))
 · intro V W hf hg
   obtain ⟨k3,a1,_⟩:=hf 3 (by decide)
   obtain ⟨k4,b1,_⟩:=hf 4 (by decide)
   obtain ⟨k5,k6,c1,_⟩:=hf 5 (by decide)
   have:=hQ V W hg (hf 7 (by decide)) ⟨k3,k4,a1,b1⟩ ⟨k5,k6,c1⟩
   have hV:V 0 = .slice (some ⟨ba,0,none⟩) n c∧V 1 = .int .i64 p∧V 2 = .agg (rowA r)∧V 6 = .pointer (some ⟨ba,2 * p,none⟩):=⟨hf 0 (by decide),hf 1 (by decide),hf 2 (by decide),hf 6 (by decide)⟩
   obtain ⟨v0,v1,v2,v6⟩:=hV
   simp only [List.size_toArray,List.length_cons,List.length_nil,Nat.reduceAdd,framed,dstOf,List.getElem?_toArray,List.getElem?_cons_zero,List.getElem?_cons_succ,Option.bind_some,v0,v1,v2,v6]
   exact this
end Go.Proofs.YtejjplhknacoiaaGreatDoor
end

/- Contracts that the laws lean on: ShaP, Walk, CirP, AloP, EitP, CirQ. -/
import Derived.Test.YtelnkflmnbhclaaGreatPfH01
import Derived.Test.YtelnkflmnbhclaaGreatPfH02
section
namespace Go.Proofs.YtelnkflmnbhclaaGreat
open Go.RowKit Go.Proofs Go.Shelf
end Go.Proofs.YtelnkflmnbhclaaGreat
end
section
namespace Go.Proofs.YtelnkflmnbhclaaGreat
def isWalk:Nat→List Bound→Nat→Prop
 | a,[],p=>a=p
 | a,b::t,p=>b.src.toNat=a∧isWalk b.dst.toNat t p
def sumW:List Bound→Int
 | []=>0
 | b::t=>b.most+sumW t
theorem sumW_append:∀ u v:List Bound,sumW (u++v)=sumW u+sumW v
 | [],v=>by simp [sumW]
 | b::u,v=>by simp [sumW,sumW_append u v];omega
theorem isWalk_append:∀ {a p:Nat} {u v:List Bound},isWalk a (u++v) p ↔ ∃ q,isWalk a u q∧isWalk q v p
 | a,p,[],v=>by simp [isWalk]
 | a,p,b::u,v=>by
   have ih:= @isWalk_append b.dst.toNat p u v;simp only [List.cons_append,isWalk,ih]
   constructor
   · rintro ⟨h,q,h1,h2⟩;exact ⟨q,⟨h,h1⟩,h2⟩
   · rintro ⟨q,⟨h,h1⟩,h2⟩;exact ⟨h,q,h1,h2⟩
theorem isWalk_sum {y:Nat→Int} :∀ {a p:Nat} {ws:List Bound},(∀ b∈ws,y b.dst.toNat≤y b.src.toNat+b.most)→isWalk a ws p→y p≤y a+sumW ws
 | a,p,[],_,h=>by cases h;simp [sumW]
 | a,p,b::t,hy,⟨h1,h2⟩=>by
   have ih:=isWalk_sum (fun c hc=>hy c (List.mem_cons_of_mem _ hc)) h2;have:=hy b List.mem_cons_self;rw [h1] at this;simp only [sumW];omega
theorem sumW_low {bs ws:List Bound} {M:Int} (hm:∀ b∈bs,-M≤b.most) (_:0≤M) (hs:∀ b∈ws,b∈bs): -(M * ws.length)≤sumW ws:=by
 induction ws with
 | nil=>simp [sumW]
 | cons b t ih=>
   have h1:=hm b (hs b List.mem_cons_self);have h2:=ih (fun c hc=>hs c (List.mem_cons_of_mem _ hc));simp only [sumW,List.length_cons,Int.natCast_add,Int.mul_add];omega
def leaves (ws:List Bound):List Nat:=ws.map (fun b=>b.src.toNat)
theorem not_nodup_split {α:Type} :∀ {l:List α},¬l.Nodup→∃ x u v t,l=u++x::v++x::t
 | [],h=>absurd List.nodup_nil h
 | a::l,h=>by
   by_cases hm:a∈l
   · obtain ⟨v,t,rfl⟩:=List.append_of_mem hm
     exact ⟨a,[],v,t,by simp⟩
   · have:¬l.Nodup:=fun hn=>h (List.nodup_cons.2 ⟨hm,hn⟩)
     obtain ⟨x,u,v,t,rfl⟩:=not_nodup_split this;exact ⟨x,a::u,v,t,by simp⟩
theorem walk_split {a p:Nat} {ws:List Bound} (hw:isWalk a ws p) (h:¬(leaves ws).Nodup):∃ q u v t,ws=u++v++t∧v ≠ []∧t ≠ []∧isWalk a u q∧isWalk q v q∧isWalk q t p:=by
 obtain ⟨x,u,v,t,e⟩:=not_nodup_split h;unfold leaves at e;obtain ⟨uv,t',rfl,e1,e2⟩:=List.map_eq_append_iff.1 e;obtain ⟨u',v',rfl,e3,e4⟩:=List.map_eq_append_iff.1 e1;obtain ⟨b,v'',rfl,hb,_⟩:=List.map_eq_cons_iff.1 e4;obtain ⟨c,t'',rfl,hc,_⟩:=List.map_eq_cons_iff.1 e2;obtain ⟨q2,h1,h2⟩:=isWalk_append.1 hw;obtain ⟨q1,h3,h4⟩:=isWalk_append.1 h1;have a1:q1=x:=h4.1.symm.trans hb;have a2:q2=x:=h2.1.symm.trans hc;subst a1;subst a2;exact ⟨q2,u',b::v'',c::t'',rfl,by simp,by simp,h3,h4,h2⟩
theorem walk_split2 {a p:Nat} {ws:List Bound} (hw:isWalk a ws p) (h:¬(leaves ws ++ [p]).Nodup):∃ q u v t,ws=u++v++t∧v ≠ []∧isWalk a u q∧isWalk q v q∧isWalk q t p:=by
 by_cases h1:(leaves ws).Nodup
 · have hp:p∈leaves ws:=by
    apply Classical.byContradiction
    intro hp
    exact h (List.nodup_append.2 ⟨h1,by simp,fun x hx y hy e=>by
     have:y=p:=by simpa using hy
     subst this;subst e;exact hp hx⟩)
   unfold leaves at hp;obtain ⟨b,hb,hbp⟩:=List.mem_map.1 hp;obtain ⟨u,v,rfl⟩:=List.append_of_mem hb;obtain ⟨q,h3,h4⟩:=isWalk_append.1 hw;have:q=p:=h4.1.symm.trans hbp;subst this;exact ⟨q,u,b::v,[],by simp,by simp,h3,h4,rfl⟩
 · obtain ⟨q,u,v,t,e,e1,_,e3⟩:=walk_split hw h1
   exact ⟨q,u,v,t,e,e1,e3⟩
theorem nodup_range {n:Nat} {l:List Nat} (hn:l.Nodup) (h:∀ x∈l,x<n):l.length≤n:=by
 have:=len_le_of_sub l (List.range n) hn (fun q hq=>List.mem_range.2 (h q hq));simpa using this
def NoCircle (bs:List Bound):Prop:=∀ a ws,(∀ b∈ws,b∈bs)→isWalk a ws a→0≤sumW ws
theorem walkIn {n:Nat} {bs:List Bound} (he:Ends n bs):∀ {a p:Nat} {ws:List Bound},(∀ b∈ws,b∈bs)→isWalk a ws p→a<n→p<n
 | a,p,[],_,h,ha=>by cases h;exact ha
 | a,p,b::t,hs,⟨h1,h2⟩,ha=>walkIn he (fun c hc=>hs c (List.mem_cons_of_mem _ hc)) h2 (he b (hs b List.mem_cons_self)).2
theorem shorten {n:Nat} {bs:List Bound} (he:Ends n bs) (hno:NoCircle bs):∀ (m a p:Nat) (ws:List Bound),ws.length≤m→a<n→(∀ b∈ws,b∈bs)→isWalk a ws p→∃ vs,vs.length<n∧(∀ b∈vs,b∈bs)∧isWalk a vs p∧sumW vs≤sumW ws
 | m,a,p,ws,hm,ha,hs,hw=>by
   by_cases h:(leaves ws ++ [p]).Nodup
   · have hl:=nodup_range h (n:=n) (fun x hx=>by
      rcases List.mem_append.1 hx with hx|hx
      · unfold leaves at hx
        obtain ⟨b,hb,rfl⟩:=List.mem_map.1 hx;exact (he b (hs b hb)).1
      · have:x=p:=by simpa using hx
        subst this
        exact walkIn he hs hw ha)
     have:(leaves ws).length=ws.length:=by simp [leaves]
     simp only [List.length_append,List.length_cons,List.length_nil] at hl;exact ⟨ws,by omega,hs,hw,Int.le_refl _⟩
   · obtain ⟨q,u,v,t,rfl,hv,h1,h2,h3⟩:=walk_split2 hw h
     have hvl:0<v.length:=List.length_pos_iff.2 hv;have hsv:0≤sumW v:=hno q v (fun b hb=>hs b (by simp [hb])) h2
     cases m with
     | zero=>rw [List.length_append,List.length_append] at hm;omega
     | succ m=>
       obtain ⟨vs,a1,a2,a3,a4⟩:=shorten he hno m a p (u++t) (by simp at hm ⊢;omega) ha (fun b hb=>hs b (by
        rcases List.mem_append.1 hb with hb|hb<;>simp [hb])) (isWalk_append.2 ⟨q,h1,h3⟩)
       refine ⟨vs,a1,a2,a3,?_⟩;rw [sumW_append] at a4;rw [sumW_append,sumW_append];omega
theorem int_least {P:Int→Prop} {B:Int} (hB:∀ x,P x→B≤x):∀ (m:Nat) (x:Int),P x→(x-B).toNat≤m→∃ y,P y∧∀ z,P z→y≤z
 | m,x,hx,hm=>by
   by_cases h:∃ z,P z∧z<x
   · obtain ⟨z,hz,hlt⟩:=h
     have:=hB z hz
     cases m with
     | zero=>omega
     | succ m=>exact int_least hB m z hz (by omega)
   · exact ⟨x,hx,fun z hz=>by
      apply Classical.byContradiction
      intro hn
      exact h ⟨z,hz,by omega⟩⟩
theorem solution_of {n:Nat} {bs:List Bound} (he:Ends n bs) {M:Int} (hM:0≤M) (hm:∀ b∈bs,-M≤b.most) (hno:NoCircle bs):∃ y:Nat→Int,(∀ b∈bs,y b.dst.toNat≤y b.src.toNat+b.most)∧∀ p,p<n→ -(M * n)≤y p∧y p≤0:=by
 have hB:∀ (p:Nat) (x:Int),(∃ a ws,a<n∧(∀ b∈ws,b∈bs)∧isWalk a ws p∧sumW ws=x)→ -(M * n)≤x:=fun p x hx=>by
  obtain ⟨a,ws,h1,h2,h3,rfl⟩:=hx;obtain ⟨vs,a1,a2,_,a4⟩:=shorten he hno ws.length a p ws (Nat.le_refl _) h1 h2 h3;have h5:=sumW_low hm hM a2;have h6:M * (vs.length:Int)≤M * (n:Int):=Int.mul_le_mul_of_nonneg_left (by omega) hM;omega
 have key:∀ p:Nat,∃ y:Int,p<n→(∃ a ws,a<n∧(∀ b∈ws,b∈bs)∧isWalk a ws p∧sumW ws=y)∧∀ a ws,a<n→(∀ b∈ws,b∈bs)→isWalk a ws p→y≤sumW ws:=fun p=>by
  by_cases hp:p<n
  · obtain ⟨y,h1,h2⟩:=int_least (hB p) _ 0 ⟨p,[],hp,by simp,rfl,rfl⟩ (Nat.le_refl _)
    exact ⟨y,fun _=>⟨h1,fun a ws ha hs hw=>h2 _ ⟨a,ws,ha,hs,hw,rfl⟩⟩⟩
  · exact ⟨0,fun h=>absurd h hp⟩
 refine ⟨fun p=>Classical.choose (key p),fun b hb=> ?_,fun p hp=> ?_⟩
 · obtain ⟨⟨a,ws,h1,h2,h3,h4⟩,_⟩:=Classical.choose_spec (key b.src.toNat) (he b hb).1
   have h5:=(Classical.choose_spec (key b.dst.toNat) (he b hb).2).2 a (ws ++ [b]) h1 (fun c hc=>by
    rcases List.mem_append.1 hc with hc|hc
    · exact h2 c hc
    · have:c=b:=by simpa using hc
      subst this;exact hb) (isWalk_append.2 ⟨_,h3,rfl,rfl⟩)
   rw [sumW_append] at h5;simp only [sumW] at h5;simp only;omega
 · have h:=Classical.choose_spec (key p) hp
   exact ⟨hB p _ h.1,by have:=h.2 p [] hp (by simp) rfl;simpa [sumW] using this⟩
theorem solution_iff {pts:Int} {bs:List Bound} (hok:SysOk pts bs):solvedOk pts bs=true↔NoCircle bs:=by
 rw [solvedOk_iff hok]
 constructor
 · rintro ⟨y,hy⟩ a ws hs hw
   have:=isWalk_sum (fun b hb=>hy b (hs b hb)) hw;omega
 · intro hno
   have hp:=hok.p2
   obtain ⟨y,hy,_⟩:=solution_of (n:=pts.toNat) (fun b hb=>by
    have:=hok.b b hb
    constructor<;>omega) (M:=1000000) (by omega) (fun b hb=>(hok.b b hb).2.2.2.2.2.1) hno
   exact ⟨y,hy⟩
theorem least_simple {bs:List Bound} {a:Nat} {ws:List Bound} (hs:∀ b∈ws,b∈bs) (hw:isWalk a ws a) (hneg:sumW ws<0) (hmin:∀ c vs,(∀ b∈vs,b∈bs)→isWalk c vs c→sumW vs<0→ws.length≤vs.length):(leaves ws).Nodup:=by
 apply Classical.byContradiction
 intro h;obtain ⟨q,u,v,t,rfl,hv,ht,h1,h2,h3⟩:=walk_split hw h;have hvl:0<v.length:=List.length_pos_iff.2 hv;have htl:0<t.length:=List.length_pos_iff.2 ht;rw [sumW_append,sumW_append] at hneg;by_cases hvn:sumW v<0
 · have:=hmin q v (fun b hb=>hs b (by simp [hb])) h2 hvn
   simp at this;omega
 · have:=hmin a (u++t) (fun b hb=>hs b (by rcases List.mem_append.1 hb with hb|hb<;>simp [hb])) (isWalk_append.2 ⟨q,h1,h3⟩) (by rw [sumW_append];omega)
   simp at this;omega
theorem longerStep_yes {now:Row} {st:Row×Row} {b:Bound} {i:Nat} (h:val now b.src.toNat<noneV∧val now b.src.toNat+b.most<val st.1 b.dst.toNat):longerStep now st b i=(rPut st.1 b.dst (val now b.src.toNat+b.most),rPut st.2 b.dst i):=by
 unfold longerStep;rw [if_pos (by rw [Bool.and_eq_true];exact ⟨decide_eq_true h.1,decide_eq_true h.2⟩)];rfl
theorem longerStep_no {now:Row} {st:Row×Row} {b:Bound} {i:Nat} (h:¬(val now b.src.toNat<noneV∧val now b.src.toNat+b.most<val st.1 b.dst.toNat)):longerStep now st b i=st:=by
 unfold longerStep;rw [if_neg (by rw [Bool.and_eq_true];exact fun e=>h ⟨of_decide_eq_true e.1,of_decide_eq_true e.2⟩)]
theorem longerTo_spec {bs:List Bound} (he:Ends 60 bs) (now:Row):∀ k,(longerTo bs now k).1.length=60∧(longerTo bs now k).2.length=60∧∀ v,v<60→
 val (longerTo bs now k).1 v≤noneV∧
 (val (longerTo bs now k).1 v=noneV∨∃ (i:Nat) (b:Bound),bs[i]? = some b∧b.dst.toNat=v∧val (longerTo bs now k).2 v=(i:Int)∧val now b.src.toNat<noneV∧val (longerTo bs now k).1 v=val now b.src.toNat+b.most)∧
 ∀ (i:Nat) (b:Bound),i<k→bs[i]? = some b→b.dst.toNat=v→val now b.src.toNat<noneV→val (longerTo bs now k).1 v≤val now b.src.toNat+b.most
 | 0=>by
   refine ⟨by simp [longerTo,emptyRow],by simp [longerTo,zeroRow],fun v hv=> ?_⟩
   have e:val (longerTo bs now 0).1 v=noneV:=by
    show val emptyRow v=noneV
    unfold val emptyRow;rw [List.getD_eq_getElem?_getD,List.getElem?_replicate,if_pos hv];rfl
   exact ⟨by omega,.inl e,fun i b h=>absurd h (Nat.not_lt_zero _)⟩
 | k+1=>by
   obtain ⟨l1,l2,ih⟩:=longerTo_spec he now k
   cases hb:bs[k]? with
   | none=>
     have e:longerTo bs now (k+1)=longerTo bs now k:=by rw [longerTo,hb]
     rw [e];refine ⟨l1,l2,fun v hv=> ?_⟩;obtain ⟨i1,i2,i3⟩:=ih v hv;refine ⟨i1,i2,fun i b hi hib=> ?_⟩
     rcases Nat.lt_or_ge i k with h|h
     · exact i3 i b h hib
     · have:i=k:=by omega
       subst this;rw [hb] at hib;cases hib
   | some c=>
     have hc:=he c (List.mem_of_getElem? hb);have e:longerTo bs now (k+1)=longerStep now (longerTo bs now k) c k:=by rw [longerTo,hb]
     rw [e];by_cases hr:val now c.src.toNat<noneV∧val now c.src.toNat+c.most<val (longerTo bs now k).1 c.dst.toNat
     · rw [longerStep_yes hr]
       refine ⟨by simp [rPut,l1],by simp [rPut,l2],fun v hv=> ?_⟩;obtain ⟨i1,i2,i3⟩:=ih v hv;simp only [rPut];rw [val_set _ _ _ _ (by rw [l1];exact hc.2),val_set _ _ _ _ (by rw [l2];exact hc.2)];by_cases hv2:c.dst.toNat=v
       · rw [if_pos hv2,if_pos hv2]
         refine ⟨by rw [hv2] at hr;omega,.inr ⟨k,c,hb,hv2,rfl,hr.1,rfl⟩,fun i b hi hib hbv hbn=> ?_⟩
         rcases Nat.lt_or_ge i k with h|h
         · have:=i3 i b h hib hbv hbn
           rw [hv2] at hr;omega
         · have:i=k:=by omega
           subst this;rw [hb] at hib;cases hib;exact Int.le_refl _
       · rw [if_neg hv2,if_neg hv2]
         refine ⟨i1,i2,fun i b hi hib hbv hbn=> ?_⟩
         rcases Nat.lt_or_ge i k with h|h
         · exact i3 i b h hib hbv hbn
         · have:i=k:=by omega
           subst this;rw [hb] at hib;cases hib;exact absurd hbv hv2
     · rw [longerStep_no hr]
       refine ⟨l1,l2,fun v hv=> ?_⟩;obtain ⟨i1,i2,i3⟩:=ih v hv;refine ⟨i1,i2,fun i b hi hib hbv hbn=> ?_⟩
       rcases Nat.lt_or_ge i k with h|h
       · exact i3 i b h hib hbv hbn
       · have:i=k:=by omega
         subst this;rw [hb] at hib;cases hib;subst hbv;omega
structure WInv (bs:List Bound) (p m:Nat) (x:Walks):Prop where
 ls:x.sums.length=m+1
 ll:x.last.length=m+1
 zero:∀ v,v<60→val (x.sums.getD 0 []) v=if v=p then 0 else noneV
 step:∀ k,k<m→∀ v,v<60→val (x.sums.getD (k+1) []) v=noneV∨∃ (i:Nat) (b:Bound),bs[i]? = some b∧b.dst.toNat=v∧val (x.last.getD (k+1) []) v=(i:Int)∧val (x.sums.getD k []) b.src.toNat<noneV∧val (x.sums.getD (k+1) []) v=val (x.sums.getD k []) b.src.toNat+b.most
 min:∀ k,k<m→∀ b∈bs,val (x.sums.getD k []) b.src.toNat<noneV→val (x.sums.getD (k+1) []) b.dst.toNat≤val (x.sums.getD k []) b.src.toNat+b.most
theorem WInv.start (bs:List Bound) (p:Nat) (hp:p<60):WInv bs p 0 (walks0 p):=
 ⟨rfl,rfl,fun v hv=>by
   show val (rPut emptyRow (p:Int) 0) v=_
   rw [val_start (by omega) (by omega),Int.toNat_natCast,if_pos hv],fun k h=>absurd h (Nat.not_lt_zero _),fun k h=>absurd h (Nat.not_lt_zero _)⟩
theorem getD_old {α:Type} {l:List α} {x d:α} {k:Nat} (h:k<l.length):(l ++ [x]).getD k d=l.getD k d:=by
 rw [List.getD_eq_getElem?_getD,List.getD_eq_getElem?_getD,List.getElem?_append_left h]
theorem getD_new {α:Type} {l:List α} {x d:α} {k:Nat} (h:k=l.length):(l ++ [x]).getD k d=x:=by
 subst h;rw [List.getD_eq_getElem?_getD,List.getElem?_append_right (Nat.le_refl _),Nat.sub_self];rfl
theorem WInv.longer {bs:List Bound} (he:Ends 60 bs) {p m:Nat} {x:Walks} (h:WInv bs p m x):WInv bs p (m+1) (x.longer bs):=by
 have hnow:x.now=x.sums.getD m []:=by unfold Walks.now;rw [h.ls];rfl
 have hsp:=longerTo_spec he x.now bs.length;refine ⟨by simp [Walks.longer,h.ls],by simp [Walks.longer,h.ll],fun v hv=> ?_,fun k hk v hv=> ?_,fun k hk b hb hn=> ?_⟩
 · simp only [Walks.longer]
   rw [getD_old (by rw [h.ls];omega)];exact h.zero v hv
 · simp only [Walks.longer]
   rcases Nat.lt_or_ge k m with hkm|hkm
   · rw [getD_old (by rw [h.ls];omega),getD_old (by rw [h.ll];omega),getD_old (by rw [h.ls];omega)]
     exact h.step k hkm v hv
   · have:k=m:=by omega
     subst this;rw [getD_new (by rw [h.ls]),getD_new (by rw [h.ll]),getD_old (by rw [h.ls];omega),←hnow];exact (hsp.2.2 v hv).2.1
 · simp only [Walks.longer] at hn ⊢
   rcases Nat.lt_or_ge k m with hkm|hkm
   · rw [getD_old (by rw [h.ls];omega)] at hn
     rw [getD_old (by rw [h.ls];omega),getD_old (by rw [h.ls];omega)];exact h.min k hkm b hb hn
   · have:k=m:=by omega
     subst this;rw [getD_old (by rw [h.ls];omega)] at hn;rw [getD_new (by rw [h.ls]),getD_old (by rw [h.ls];omega)];rw [←hnow] at hn ⊢;obtain ⟨i,hi⟩:=List.mem_iff_getElem?.1 hb;exact (hsp.2.2 b.dst.toNat (he b hb).2).2.2 i b (List.getElem?_eq_some_iff.1 hi).1 hi rfl hn
theorem sumW_up {bs ws:List Bound} {M:Int} (hm:∀ b∈bs,b.most≤M) (_:0≤M) (hs:∀ b∈ws,b∈bs):sumW ws≤M * ws.length:=by
 induction ws with
 | nil=>simp [sumW]
 | cons b t ih=>
   have h1:=hm b (hs b List.mem_cons_self);have h2:=ih (fun c hc=>hs c (List.mem_cons_of_mem _ hc));simp only [sumW,List.length_cons,Int.natCast_add,Int.mul_add];omega
theorem snoc_of {α:Type} :∀ {k:Nat} {l:List α},l.length=k+1→∃ u x,l=u ++ [x]∧u.length=k
 | 0,[x],_=>⟨[],x,rfl,rfl⟩
 | k+1,y::l,h=>by
   obtain ⟨u,x,rfl,hu⟩:=snoc_of (k:=k) (l:=l) (by simpa using h);exact ⟨y::u,x,rfl,by simp [hu]⟩
theorem WInv.low {bs:List Bound} (he:Ends 60 bs) (hm:∀ b∈bs,b.most≤1000000) {p m:Nat} {x:Walks} (h:WInv bs p m x) (hm60:m≤60):∀ k,k≤m→∀ (ws:List Bound) (v:Nat),ws.length=k→(∀ b∈ws,b∈bs)→isWalk p ws v→p<60→val (x.sums.getD k []) v≤sumW ws
 | 0,_,ws,v,hl,_,hw,hp=>by
   have:ws = []:=List.eq_nil_of_length_eq_zero hl;subst this;have:p=v:=hw;subst this;rw [h.zero p hp,if_pos rfl];exact Int.le_refl _
 | k+1,hk,ws,v,hl,hs,hw,hp=>by
   obtain ⟨u,b,rfl,hu⟩:=snoc_of hl;obtain ⟨q,h1,h2,h3⟩:=isWalk_append.1 hw;have h3':b.dst.toNat=v:=h3;subst h2;subst h3';have hsu:∀ c∈u,c∈bs:=fun c hc=>hs c (List.mem_append_left _ hc)
   have ih:=h.low he hm hm60 k (by omega) u _ hu hsu h1 hp;have hup:=sumW_up hm (by omega) hsu;have:=h.min k (by omega) b (hs b (by simp)) (by unfold noneV;rw [hu] at hup;omega);rw [sumW_append];simp only [sumW];omega
def IxOf (bs:List Bound) (c:List Int) (ws:List Bound):Prop:=c.map (fun i=>bs[i.toNat]?)=ws.map some∧∀ i∈c,0≤i
theorem WInv.back {bs:List Bound} (he:Ends 60 bs) {p m:Nat} {x:Walks} (h:WInv bs p m x):∀ k,k≤m→∀ v:Int,v.toNat<60→val (x.sums.getD k []) v.toNat<noneV→∃ ws,IxOf bs (backTo bs x.last (k+1) v).reverse ws∧ws.length=k∧(∀ b∈ws,b∈bs)∧isWalk p ws v.toNat∧sumW ws=val (x.sums.getD k []) v.toNat
 | 0,_,v,hv,hn=>by
   rw [h.zero _ hv] at hn ⊢;by_cases e:v.toNat=p
   · rw [if_pos e]
     exact ⟨[],⟨rfl,by simp [backTo]⟩,rfl,by simp,e.symm,rfl⟩
   · rw [if_neg e] at hn
     exact absurd hn (by omega)
 | k+1,hk,v,hv,hn=>by
   rcases h.step k (by omega) _ hv with e|⟨i,b,hib,hbv,hl,hbn,hsum⟩
   · omega
   · have hb:=List.mem_of_getElem? hib
     obtain ⟨ws,g1,g2,g3,g4,g5⟩:=h.back he k (by omega) b.src (he b hb).1 hbn;have hrat:rAt (x.last.getD (k+1) []) v=(i:Int):=by rw [rAt_val];exact hl
     have hget:(bs.getD (rAt (x.last.getD (k+1) []) v).toNat default).src=b.src:=by
      rw [hrat,Int.toNat_natCast,List.getD_eq_getElem?_getD,hib];rfl
     refine ⟨ws ++ [b],?_,by simp [g2],fun c hc=> ?_,isWalk_append.2 ⟨_,g4,rfl,hbv⟩,?_⟩
     · rw [backTo,List.reverse_cons,hget,hrat]
       refine ⟨?_,fun j hj=> ?_⟩
       · rw [List.map_append,List.map_append,g1.1]
         simp [hib]
       · rcases List.mem_append.1 hj with hj|hj
         · exact g1.2 j hj
         · rw [List.mem_singleton.1 hj];omega
     · rcases List.mem_append.1 hc with hc|hc
       · exact g3 c hc
       · rw [List.mem_singleton.1 hc];exact hb
     · rw [sumW_append]
       simp only [sumW];omega
def iterW (bs:List Bound) (p:Nat):Nat→Walks
 | 0=>walks0 p
 | n+1=>(iterW bs p n).longer bs
theorem iterW_inv {bs:List Bound} (he:Ends 60 bs) {p:Nat} (hp:p<60):∀ n,WInv bs p n (iterW bs p n)
 | 0=>WInv.start bs p hp
 | n+1=>(iterW_inv he hp n).longer he
def closedS (bs:List Bound) (n p:Nat):Int:=val ((iterW bs p n).sums.getD n []) p
theorem now_closed {bs:List Bound} (he:Ends 60 bs) {p:Nat} (hp:p<60) (n:Nat):rAt (iterW bs p n).now (p:Int)=closedS bs n p:=by
 unfold closedS Walks.now;rw [(iterW_inv he hp n).ls,rAt_val,Int.toNat_natCast];rfl
theorem crow_law {bs:List Bound} (he:Ends 60 bs) (m:Nat):∀ (n j:Nat),j+n≤60→
 ((∀ p,j≤p→p<j+n→¬closedS bs (m+1) p<0)∧circleRow bs ((List.range' j n).map (iterW bs · m)) j=((List.range' j n).map (iterW bs · (m+1)),none))∨
 ∃ p ys,j≤p∧p<j+n∧closedS bs (m+1) p<0∧circleRow bs ((List.range' j n).map (iterW bs · m)) j=(ys,some ((iterW bs p (m+1)).back bs p))
 | 0,j,_=> .inl ⟨fun p h1 h2=>absurd h2 (by omega),rfl⟩
 | n+1,j,hj=>by
   rw [List.range'_succ,List.map_cons,List.map_cons];have e:(iterW bs j m).longer bs=iterW bs j (m+1):=rfl;unfold circleRow;rw [e,now_closed he (by omega)];by_cases hneg:closedS bs (m+1) j<0
   · right
     rw [if_pos hneg];exact ⟨j,_,Nat.le_refl _,by omega,hneg,rfl⟩
   · rw [if_neg hneg]
     rcases crow_law he m n (j+1) (by omega) with ⟨h1,h2⟩|⟨p,ys,h1,h2,h3,h4⟩
     · left
       refine ⟨fun p hp1 hp2=> ?_,by rw [h2]⟩;by_cases e:p=j
       · subst e;exact hneg
       · exact h1 p (by omega) (by omega)
     · right
       exact ⟨p,_,by omega,by omega,h3,by rw [h4]⟩
theorem cloop_law {bs:List Bound} (he:Ends 60 bs) {pts:Nat} (hp:pts≤60):∀ (n m:Nat),
 ((∀ k p,m<k→k≤m+n→p<pts→¬closedS bs k p<0)∧circleLoop bs n ((List.range pts).map (iterW bs · m)) = [])∨
 ∃ k p,m<k∧k≤m+n∧p<pts∧closedS bs k p<0∧(∀ j q,m<j→j<k→q<pts→¬closedS bs j q<0)∧circleLoop bs n ((List.range pts).map (iterW bs · m))=(iterW bs p k).back bs p
 | 0,m=> .inl ⟨fun k p h1 h2=>absurd h2 (by omega),rfl⟩
 | n+1,m=>by
   unfold circleLoop;have hr:=crow_law he m pts 0 (by omega);rw [←List.range_eq_range'] at hr
   rcases hr with ⟨h1,h2⟩|⟨p,ys,h1,h2,h3,h4⟩
   · rw [h2]
     simp only
     rcases cloop_law he hp n (m+1) with ⟨g1,g2⟩|⟨k,p,g1,g2,g3,g4,g5,g6⟩
     · left
       refine ⟨fun k p hk1 hk2 hp=> ?_,g2⟩;by_cases e:k=m+1
       · subst e;exact h1 p (by omega) (by omega)
       · exact g1 k p (by omega) (by omega) hp
     · right
       refine ⟨k,p,by omega,by omega,g3,g4,fun j q hj1 hj2 hq=> ?_,g6⟩;by_cases e:j=m+1
       · subst e;exact h1 q (by omega) (by omega)
       · exact g5 j q (by omega) hj2 hq
   · rw [h4]
     simp only;exact .inr ⟨m+1,p,by omega,by omega,by omega,h3,fun j q hj1 hj2 _=>absurd hj2 (by omega),rfl⟩
theorem circle_law {pts:Int} {bs:List Bound} (hok:SysOk pts bs):
 (circleX pts bs = []∧NoCircle bs)∨∃ p ws,p<pts.toNat∧IxOf bs (circleX pts bs) ws∧(circleX pts bs).length=ws.length∧ws ≠ []∧(∀ b∈ws,b∈bs)∧isWalk p ws p∧sumW ws<0∧∀ c vs,(∀ b∈vs,b∈bs)→isWalk c vs c→sumW vs<0→ws.length≤vs.length:=by
 have hp2:=hok.p2;have hp1:=hok.p1
 have hends:Ends pts.toNat bs:=fun b hb=>by
  have:=hok.b b hb
  constructor<;>omega
 have he:Ends 60 bs:=fun b hb=>by
  have:=hends b hb
  constructor<;>omega
 have hm:∀ b∈bs,b.most≤1000000:=fun b hb=>(hok.b b hb).2.2.2.2.2.2
 have hlow:∀ a ws,(∀ b∈ws,b∈bs)→isWalk a ws a→sumW ws<0→ws.length≤pts.toNat→a<pts.toNat∧0<ws.length∧closedS bs ws.length a<0:=fun a ws hs hw hneg hlen=>by
  cases ws with
  | nil=>exact absurd hneg (by simp [sumW])
  | cons b t=>
    have ha:a<pts.toNat:=by
     have:=(hends b (hs b List.mem_cons_self)).1;rw [hw.1] at this;exact this
    refine ⟨ha,by simp,?_⟩;have:=(iterW_inv he (show a<60 by omega) (b::t).length).low he hm (by omega) _ (Nat.le_refl _) (b::t) a rfl hs hw (by omega);unfold closedS;omega
 have hshort:∀ (n:Nat) (a:Nat) (ws:List Bound),ws.length≤n→(∀ b∈ws,b∈bs)→isWalk a ws a→sumW ws<0→∃ c vs,(∀ b∈vs,b∈bs)∧isWalk c vs c∧sumW vs<0∧vs.length≤ws.length∧vs.length≤pts.toNat:=by
  intro n
  induction n with
  | zero=>
    intro a ws hl hs hw hneg;have:ws = []:=List.eq_nil_of_length_eq_zero (by omega);subst this;exact absurd hneg (by simp [sumW])
  | succ n ih=>
    intro a ws hl hs hw hneg;by_cases hnd:(leaves ws).Nodup
    · have h1:=nodup_range hnd (n:=pts.toNat) (fun x hx=>by
       unfold leaves at hx;obtain ⟨b,hb,rfl⟩:=List.mem_map.1 hx
       exact (hends b (hs b hb)).1)
      have h2:(leaves ws).length=ws.length:=by simp [leaves]
      exact ⟨a,ws,hs,hw,hneg,Nat.le_refl _,by omega⟩
    · obtain ⟨q,u,v,t,rfl,hv,ht,h1,h2,h3⟩:=walk_split hw hnd
      have hvl:0<v.length:=List.length_pos_iff.2 hv;have htl:0<t.length:=List.length_pos_iff.2 ht;rw [sumW_append,sumW_append] at hneg;simp only [List.length_append] at hl;by_cases hvn:sumW v<0
      · obtain ⟨c,vs,g1,g2,g3,g4,g5⟩:=ih q v (by omega) (fun b hb=>hs b (by simp [hb])) h2 hvn
        exact ⟨c,vs,g1,g2,g3,by simp only [List.length_append];omega,g5⟩
      · obtain ⟨c,vs,g1,g2,g3,g4,g5⟩:=ih a (u++t) (by rw [List.length_append];omega) (fun b hb=>hs b (by rcases List.mem_append.1 hb with hb|hb<;>simp [hb])) (isWalk_append.2 ⟨q,h1,h3⟩) (by rw [sumW_append];omega)
        exact ⟨c,vs,g1,g2,g3,by simp only [List.length_append] at g4 ⊢;omega,g5⟩
 have hsp:=cloop_law he (pts:=pts.toNat) (by omega) pts.toNat 0;have hx:circleX pts bs=circleLoop bs pts.toNat ((List.range pts.toNat).map (iterW bs · 0)):=rfl;rw [←hx] at hsp
 rcases hsp with ⟨h1,h2⟩|⟨k,p,h1,h2,h3,h4,h5,h6⟩
 · left
   refine ⟨h2,fun a ws hs hw=> ?_⟩
   apply Classical.byContradiction
   intro hneg;obtain ⟨c,vs,g1,g2,g3,_,g5⟩:=hshort ws.length a ws (Nat.le_refl _) hs hw (by omega);obtain ⟨i1,i2,i3⟩:=hlow c vs g1 g2 g3 g5;exact h1 vs.length c i2 (by omega) i1 i3
 · right
   have hinv:=iterW_inv he (show p<60 by omega) k
   have hbk:(iterW bs p k).back bs p=(backTo bs (iterW bs p k).last (k+1) (p:Int)).reverse:=by
    unfold Walks.back;rw [hinv.ll]
   obtain ⟨ws,g1,g2,g3,g4,g5⟩:=hinv.back he k (Nat.le_refl _) (p:Int) (by omega) (by
    rw [Int.toNat_natCast];have h4':val ((iterW bs p k).sums.getD k []) p<0:=h4
    unfold noneV;omega)
   rw [Int.toNat_natCast] at g4 g5;have h4':val ((iterW bs p k).sums.getD k []) p<0:=h4;refine ⟨p,ws,h3,by rw [h6,hbk];exact g1,?_,fun e=>by rw [e] at g2;simp at g2;omega,g3,g4,by omega,fun c vs hs hw hneg=> ?_⟩
   · rw [h6,hbk]
     have:=congrArg List.length g1.1;simpa using this
   · rw [g2]
     obtain ⟨c',vs',e1,e2,e3,e4,e5⟩:=hshort vs.length c vs (Nat.le_refl _) hs hw hneg;obtain ⟨i1,i2,i3⟩:=hlow c' vs' e1 e2 e3 e5
     rcases Nat.lt_or_ge vs'.length k with hlt|hge
     · exact absurd i3 (h5 _ _ i2 hlt i1)
     · omega
structure AlSt where
 sum:Int
 pt:Int
 frm:List Bool
 tos:List Bool
def bnd (bs:List Bound) (i:Int):Bound:=bs.getD i.toNat default
def alongStep (bs:List Bound) (st:AlSt) (i:Int):Option AlSt:=
 if (bnd bs i).src=st.pt∧st.frm.getD (bnd bs i).src.toNat false=false∧st.tos.getD (bnd bs i).dst.toNat false=false then
  some ⟨st.sum+(bnd bs i).most,(bnd bs i).dst,st.frm.set (bnd bs i).src.toNat true,st.tos.set (bnd bs i).dst.toNat true⟩ else none
def alongTo (bs:List Bound) (l:List Int) (a:Int):Nat→Option AlSt
 | 0=>some ⟨0,a,List.replicate 60 false,List.replicate 60 false⟩
 | k+1=>match l[k]? with
   | some i=>(alongTo bs l a k).bind (alongStep bs · i)
   | none=>alongTo bs l a k
def alongV (bs:List Bound) (a b:Int) (l:List Int):Int×Bool:=match alongTo bs l a l.length with
 | none=>(0,false)
 | some st=>(st.sum,decide (st.pt=b))
def circleB (bs:List Bound) (l:List Int):Bool:=decide (2≤l.length)&&((alongV bs (bnd bs (l.getD 0 0)).src (bnd bs (l.getD 0 0)).src l).2&&decide ((alongV bs (bnd bs (l.getD 0 0)).src (bnd bs (l.getD 0 0)).src l).1<0))
def enters (ws:List Bound):List Nat:=ws.map (fun b=>b.dst.toNat)
def Fair (a:Nat) (ws:List Bound):Prop:=(∃ q,isWalk a ws q)∧(leaves ws).Nodup∧(enters ws).Nodup
theorem fair_less {a:Nat} {u v:List Bound} (h:Fair a (u++v)):Fair a u:=by
 obtain ⟨⟨q,hq⟩,h1,h2⟩:=h;obtain ⟨q',h3,_⟩:=isWalk_append.1 hq;unfold leaves enters at *;rw [List.map_append] at h1 h2;exact ⟨⟨q',h3⟩,(List.nodup_append.1 h1).1,(List.nodup_append.1 h2).1⟩
theorem nodup_snoc {α:Type} {l:List α} {x:α} : (l ++ [x]).Nodup↔l.Nodup∧x∉l:=by
 rw [List.nodup_append]
 constructor
 · rintro ⟨h1,_,h3⟩
   exact ⟨h1,fun hx=>h3 x hx x (by simp) rfl⟩
 · rintro ⟨h1,h2⟩
   refine ⟨h1,by simp,fun y hy z hz e=> ?_⟩;rw [List.mem_singleton.1 hz] at e;subst e;exact h2 hy
theorem walk_unique:∀ {a p q:Nat} {ws:List Bound},isWalk a ws p→isWalk a ws q→p=q
 | _,_,_,[],h1,h2=>by cases h1;exact h2
 | _,_,_,_::_,h1,h2=>walk_unique h1.2 h2.2
theorem set_getD {l:List Bool} {i j:Nat} (hi:i<l.length):(l.set i true).getD j false=(if i=j then true else l.getD j false):=by
 rw [List.getD_eq_getElem?_getD,List.getD_eq_getElem?_getD,List.getElem?_set];by_cases h:i=j
 · subst h;simp [hi]
 · simp [h]
theorem rep60 (v:Nat):(List.replicate 60 false).getD v false=false:=by
 rw [List.getD_eq_getElem?_getD,List.getElem?_replicate]
 split<;>rfl
structure AlInv (a:Nat) (us:List Bound) (st:AlSt):Prop where
 sum:st.sum=sumW us
 p0:0≤st.pt
 walk:isWalk a us st.pt.toNat
 n1:(leaves us).Nodup
 n2:(enters us).Nodup
 l1:st.frm.length=60
 l2:st.tos.length=60
 f:∀ v,v<60→(st.frm.getD v false=true↔v∈leaves us)
 t:∀ v,v<60→(st.tos.getD v false=true↔v∈enters us)
theorem along_to {bs:List Bound} (hb0:∀ b∈bs,0≤b.src∧b.src<60∧0≤b.dst∧b.dst<60) {l:List Int} {ws:List Bound} (hix:IxOf bs l ws) (hws:∀ b∈ws,b∈bs) {a:Int} (ha:0≤a):∀ k,k≤l.length→
 (alongTo bs l a k=none∧¬Fair a.toNat (ws.take k))∨∃ st,alongTo bs l a k=some st∧AlInv a.toNat (ws.take k) st
 | 0,_=> .inr ⟨_,rfl,⟨rfl,ha,rfl,by simp [leaves],by simp [enters],by simp,by simp,fun v _=>by simp only;rw [rep60];simp [leaves],fun v _=>by simp only;rw [rep60];simp [enters]⟩⟩
 | k+1,hk=>by
   have hlw:l.length=ws.length:=by have:=congrArg List.length hix.1;simpa using this
   have hl:l[k]? = some l[k]:=List.getElem?_eq_getElem (by omega);have hw:ws[k]? = some ws[k]:=List.getElem?_eq_getElem (by omega)
   have hbk:bs[(l[k]).toNat]? = some ws[k]:=by
    have:=congrArg (·[k]?) hix.1;simp only [List.getElem?_map,hl,hw,Option.map_some] at this;exact Option.some.inj this
   have hbnd:bnd bs l[k]=ws[k]:=by unfold bnd;rw [List.getD_eq_getElem?_getD,hbk];rfl
   have htk:ws.take (k+1)=ws.take k ++ [ws[k]]:=by rw [List.take_add_one,hw];rfl
   have hm:=hb0 _ (hws _ (List.mem_of_getElem? hw));rw [alongTo,hl,htk];simp only
   rcases along_to hb0 hix hws ha k (by omega) with ⟨h1,h2⟩|⟨st,h1,h2⟩
   · left
     rw [h1];exact ⟨rfl,fun h=>h2 (fair_less h)⟩
   · rw [h1]
     simp only [Option.bind_some];unfold alongStep;rw [hbnd];have hleaf:leaves (ws.take k ++ [ws[k]])=leaves (ws.take k) ++ [(ws[k]).src.toNat]:=by unfold leaves;rw [List.map_append];rfl
     have hent:enters (ws.take k ++ [ws[k]])=enters (ws.take k) ++ [(ws[k]).dst.toNat]:=by unfold enters;rw [List.map_append];rfl
     split
     · rename_i hc
       obtain ⟨c1,c2,c3⟩:=hc
       right
       have d1:(ws[k]).src.toNat∉leaves (ws.take k):=fun h=>by
        have:=(h2.f _ (by omega)).2 h;rw [c2] at this;cases this
       have d2:(ws[k]).dst.toNat∉enters (ws.take k):=fun h=>by
        have:=(h2.t _ (by omega)).2 h;rw [c3] at this;cases this
       refine ⟨_,rfl,⟨?_,hm.2.2.1,?_,?_,?_,by simp [h2.l1],by simp [h2.l2],fun v hv=> ?_,fun v hv=> ?_⟩⟩
       · rw [sumW_append,h2.sum];simp only [sumW];omega
       · exact isWalk_append.2 ⟨_,h2.walk,by rw [c1],rfl⟩
       · rw [hleaf];exact nodup_snoc.2 ⟨h2.n1,d1⟩
       · rw [hent];exact nodup_snoc.2 ⟨h2.n2,d2⟩
       · simp only
         rw [set_getD (by rw [h2.l1];omega),hleaf,List.mem_append,List.mem_singleton];by_cases e:(ws[k]).src.toNat=v
         · simp [e]
         · rw [if_neg e,h2.f v hv]
           exact ⟨.inl,fun h=>h.elim id fun h=>absurd h.symm e⟩
       · simp only
         rw [set_getD (by rw [h2.l2];omega),hent,List.mem_append,List.mem_singleton];by_cases e:(ws[k]).dst.toNat=v
         · simp [e]
         · rw [if_neg e,h2.t v hv]
           exact ⟨.inl,fun h=>h.elim id fun h=>absurd h.symm e⟩
     · rename_i hc
       left
       refine ⟨rfl,fun hF=>hc ?_⟩;obtain ⟨⟨q,hq⟩,g1,g2⟩:=hF;rw [hleaf] at g1;rw [hent] at g2;obtain ⟨q',q1,q2⟩:=isWalk_append.1 hq;have e1:=walk_unique q1 h2.walk;have e2:(ws[k]).src.toNat=q':=q2.1;refine ⟨?_,?_,?_⟩
       · have:=h2.p0;omega
       · cases hv:st.frm.getD (ws[k]).src.toNat false with
         | false=>rfl
         | true=>exact absurd ((h2.f _ (by omega)).1 hv) (nodup_snoc.1 g1).2
       · cases hv:st.tos.getD (ws[k]).dst.toNat false with
         | false=>rfl
         | true=>exact absurd ((h2.t _ (by omega)).1 hv) (nodup_snoc.1 g2).2
theorem closed_enters:∀ {a p:Nat} {ws:List Bound},isWalk a ws p→leaves ws ++ [p]=a::enters ws
 | _,_,[],h=>by cases h;rfl
 | a,p,b::t,h=>by
   have ih:=closed_enters h.2;have e:b.src.toNat=a:=h.1;simp only [leaves,enters,List.map_cons,List.cons_append] at ih ⊢;rw [ih,e]
theorem closed_nodup {a:Nat} {ws:List Bound} (h:isWalk a ws a) (hn:(leaves ws).Nodup):(enters ws).Nodup:=by
 have e:=closed_enters h;have hp:(leaves ws ++ [a]).Perm (a::leaves ws):=List.perm_append_comm (l₂:=[a]);rw [e] at hp;exact ((List.perm_cons a).1 hp).nodup_iff.2 hn
theorem circleB_iff {pts:Int} {bs:List Bound} (hok:SysOk pts bs) {l:List Int} {ws:List Bound} (hix:IxOf bs l ws) (hws:∀ b∈ws,b∈bs):
 circleB bs l=true↔2≤ws.length∧(∃ a,isWalk a ws a)∧(leaves ws).Nodup∧sumW ws<0:=by
 have hp2:=hok.p2
 have hb0:∀ b∈bs,0≤b.src∧b.src<60∧0≤b.dst∧b.dst<60:=fun b hb=>by
  have:=hok.b b hb;refine ⟨?_,?_,?_,?_⟩<;>omega
 have hlw:l.length=ws.length:=by have:=congrArg List.length hix.1;simpa using this
 unfold circleB;rw [hlw]
 cases ws with
 | nil=>simp
 | cons b t=>
   cases l with
   | nil=>simp at hlw
   | cons i l'=>
     have hbi:bs[i.toNat]? = some b:=by
      have:=hix.1;simp only [List.map_cons,List.cons.injEq] at this;exact this.1
     have hbnd:bnd bs ((i::l').getD 0 0)=b:=by
      show bnd bs i=b
      unfold bnd;rw [List.getD_eq_getElem?_getD,hbi];rfl
     rw [hbnd];have hb:=hb0 b (hws b List.mem_cons_self);have hto:=along_to hb0 hix hws hb.1 (i::l').length (Nat.le_refl _);rw [show (b::t).take (i::l').length=b::t from List.take_of_length_le (by omega)] at hto;simp only [Bool.and_eq_true,decide_eq_true_eq];unfold alongV
     rcases hto with ⟨h1,h2⟩|⟨st,h1,h2⟩
     · rw [h1]
       simp only [Bool.false_eq_true,false_and,and_false,false_iff];rintro ⟨_,⟨a,ha⟩,hn,_⟩;have:a=b.src.toNat:=ha.1.symm;subst this;exact h2 ⟨⟨_,ha⟩,hn,closed_nodup ha hn⟩
     · rw [h1]
       simp only [decide_eq_true_eq];rw [h2.sum];have hp0:=h2.p0
       constructor
       · rintro ⟨g1,g2,g3⟩
         refine ⟨g1,⟨b.src.toNat,?_⟩,h2.n1,g3⟩;have:=h2.walk;rw [g2] at this;exact this
       · rintro ⟨g1,⟨a,ha⟩,_,g3⟩
         have:a=b.src.toNat:=ha.1.symm;subst this;have:=walk_unique ha h2.walk;exact ⟨g1,by omega,g3⟩
open Go.RowKit Go.Proofs Go.Shelf
def ContraP (L:List Link) (m:List (Place×Int)) (c:List Link):Prop:=
 (∀ x∈c,x∈L)∧2≤c.length∧(∃ a,isWalk a (c.map (boundOf m)) a)∧(leaves (c.map (boundOf m))).Nodup∧sumW (c.map (boundOf m))<0
noncomputable def contraV (L:List Link) (m:List (Place×Int)) (c:List Link):Bool:= @decide (ContraP L m c) (Classical.propDecidable _)
theorem contraV_iff {L:List Link} {m:List (Place×Int)} {c:List Link} : contraV L m c=true↔ContraP L m c:= @decide_eq_true_iff _ (Classical.propDecidable _)
noncomputable def checkConflictV (l:List Trace) (known:Int) (bs:List Bond) (mv:List Place) (c:List Link):Bool×Int:=
 if withErr l known bs mv≠0 then (false,withErr l known bs mv) else (contraV (linksL (counting l known) bs mv) (ptsOf l known bs) c,0)
section
variable {l:List Trace} {known:Int} {bs:List Bond} {mv:List Place}
theorem sys_ok (hw:withErr l known bs mv=0):SysOk ((placesOf (counting l known) bs).length+1) (sysOf l known bs mv):=sysOk_of (checkSys_years (okO_of (askErr_of_with hw)) mv)
theorem conflict_is (hw:withErr l known bs mv=0):(conflictV l known bs mv).2.1=circOk ((placesOf (counting l known) bs).length+1) (sysOf l known bs mv):=by
 unfold conflictV;rw [if_neg (by simpa using hw)]
theorem circOk_iff {pts:Int} {S:List Bound} : circOk pts S=true↔circleX pts S ≠ []:=by
 unfold circOk;rw [decide_eq_true_iff];exact List.length_pos_iff
theorem solved_circ {pts:Int} {S:List Bound} (hok:SysOk pts S):solvedOk pts S = !circOk pts S:=by
 rw [Bool.eq_iff_iff,solution_iff hok,Bool.not_eq_true',←Bool.not_eq_true,circOk_iff,ne_eq,Classical.not_not]
 rcases circle_law hok with ⟨h1,h2⟩|⟨p,ws,_,_,hl,hne,hs,hw,hneg,_⟩
 · exact ⟨fun _=>h1,fun _=>h2⟩
 · constructor
   · intro hno
     have:=hno p ws hs hw;omega
   · intro h
     rw [h] at hl;exact absurd (List.eq_nil_of_length_eq_zero hl.symm) hne
theorem either_own (hw:withErr l known bs mv=0) (h:(conflictV l known bs mv).2.1=true):(checkConflictV l known bs mv (conflictV l known bs mv).1).1=true:=by
 have hok:=sys_ok hw;rw [conflict_is hw,circOk_iff] at h;unfold checkConflictV conflictV;rw [if_neg (by simpa using hw),if_neg (by simpa using hw)];simp only;rw [contraV_iff]
 rcases circle_law hok with ⟨e,_⟩|⟨p,ws,_,hix,hl,hne,hs,hwk,hneg,hmin⟩
 · exact absurd e h
 · have hL:(sysOf l known bs mv).length=(linksL (counting l known) bs mv).length:=by unfold sysOf;rw [List.length_map]
   have hval:=(circleX_ok hok).2
   have hmap:(someL (linksL (counting l known) bs mv) (circleX ((placesOf (counting l known) bs).length+1) (sysOf l known bs mv))).map (boundOf (ptsOf l known bs))=ws:=by
    have h1:((someL (linksL (counting l known) bs mv) (circleX ((placesOf (counting l known) bs).length+1) (sysOf l known bs mv))).map (boundOf (ptsOf l known bs))).map some=ws.map some:=by
     rw [←hix.1];unfold someL;rw [List.map_map,List.map_map];refine List.map_congr_left fun i hi=> ?_
     obtain ⟨i1,i2⟩:=hval i hi;have hi2:i.toNat<(linksL (counting l known) bs mv).length:=by omega
     simp only [Function.comp];unfold sysOf;rw [List.getElem?_map,List.getElem?_eq_getElem hi2,List.getD_eq_getElem?_getD,List.getElem?_eq_getElem hi2];rfl
    exact (List.map_inj_right (fun _ _ h=>Option.some.inj h)).1 h1
   refine ⟨fun x hx=> ?_,?_,⟨p,by rw [hmap];exact hwk⟩,by rw [hmap];exact least_simple hs hwk hneg hmin,by rw [hmap];exact hneg⟩
   · unfold someL at hx
     obtain ⟨i,hi,rfl⟩:=List.mem_map.1 hx;obtain ⟨i1,i2⟩:=hval i hi;have hi2:i.toNat<(linksL (counting l known) bs mv).length:=by omega
     rw [List.getD_eq_getElem?_getD,List.getElem?_eq_getElem hi2];exact List.getElem_mem _
   · have hlen:=congrArg List.length hmap
     rw [List.length_map] at hlen;rw [hlen]
     match ws,hne,hs,hwk with
     | [],hne,_,_=>exact absurd rfl hne
     | [b],_,hs,hwk=>
       have:=hok.b b (hs b List.mem_cons_self);have h1:b.src.toNat=p:=hwk.1;have h2:b.dst.toNat=p:=hwk.2;omega
     | _::_::_,_,_,_=>simp
end
section
variable {ps:List Place}
end
end Go.Proofs.YtelnkflmnbhclaaGreat
end

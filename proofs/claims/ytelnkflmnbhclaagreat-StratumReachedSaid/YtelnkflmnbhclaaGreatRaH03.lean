/- Contracts that the laws lean on: ShaP, Walk, CirP, AloP, EitP, CirQ. -/
import Derived.Test.YtelnkflmnbhclaaGreatRaH01
import Derived.Test.YtelnkflmnbhclaaGreatRaH02
section
namespace Go.Proofs.YtelnkflmnbhclaaGreat
open Go.RowKit Go.Proofs Go.Shelf
end Go.Proofs.YtelnkflmnbhclaaGreat
end
section
namespace Go.Proofs.YtelnkflmnbhclaaGreat
def isWalk:Nat→List Bound→Nat→Prop
 | a,[],p=>a=p
 | a,b::t,p=>b.src.toNat=a∧isWalk b.dst.toNat t p
def sumW:List Bound→Int
 | []=>0
 | b::t=>b.most+sumW t
theorem sumW_append:∀ u v:List Bound,sumW (u++v)=sumW u+sumW v
 | [],v=>by simp [sumW]
 | b::u,v=>by simp [sumW,sumW_append u v];omega
theorem isWalk_append:∀ {a p:Nat} {u v:List Bound},isWalk a (u++v) p ↔ ∃ q,isWalk a u q∧isWalk q v p
 | a,p,[],v=>by simp [isWalk]
 | a,p,b::u,v=>by
   have ih:= @isWalk_append b.dst.toNat p u v;simp only [List.cons_append,isWalk,ih]
   constructor
   · rintro ⟨h,q,h1,h2⟩;exact ⟨q,⟨h,h1⟩,h2⟩
   · rintro ⟨q,⟨h,h1⟩,h2⟩;exact ⟨h,q,h1,h2⟩
theorem longerStep_yes {now:Row} {st:Row×Row} {b:Bound} {i:Nat} (h:val now b.src.toNat<noneV∧val now b.src.toNat+b.most<val st.1 b.dst.toNat):longerStep now st b i=(rPut st.1 b.dst (val now b.src.toNat+b.most),rPut st.2 b.dst i):=by
 unfold longerStep;rw [if_pos (by rw [Bool.and_eq_true];exact ⟨decide_eq_true h.1,decide_eq_true h.2⟩)];rfl
theorem longerStep_no {now:Row} {st:Row×Row} {b:Bound} {i:Nat} (h:¬(val now b.src.toNat<noneV∧val now b.src.toNat+b.most<val st.1 b.dst.toNat)):longerStep now st b i=st:=by
 unfold longerStep;rw [if_neg (by rw [Bool.and_eq_true];exact fun e=>h ⟨of_decide_eq_true e.1,of_decide_eq_true e.2⟩)]
theorem longerTo_spec {bs:List Bound} (he:Ends 60 bs) (now:Row):∀ k,(longerTo bs now k).1.length=60∧(longerTo bs now k).2.length=60∧∀ v,v<60→
 val (longerTo bs now k).1 v≤noneV∧
 (val (longerTo bs now k).1 v=noneV∨∃ (i:Nat) (b:Bound),bs[i]? = some b∧b.dst.toNat=v∧val (longerTo bs now k).2 v=(i:Int)∧val now b.src.toNat<noneV∧val (longerTo bs now k).1 v=val now b.src.toNat+b.most)∧
 ∀ (i:Nat) (b:Bound),i<k→bs[i]? = some b→b.dst.toNat=v→val now b.src.toNat<noneV→val (longerTo bs now k).1 v≤val now b.src.toNat+b.most
 | 0=>by
   refine ⟨by simp [longerTo,emptyRow],by simp [longerTo,zeroRow],fun v hv=> ?_⟩
   have e:val (longerTo bs now 0).1 v=noneV:=by
    show val emptyRow v=noneV
    unfold val emptyRow;rw [List.getD_eq_getElem?_getD,List.getElem?_replicate,if_pos hv];rfl
   exact ⟨by omega,.inl e,fun i b h=>absurd h (Nat.not_lt_zero _)⟩
 | k+1=>by
   obtain ⟨l1,l2,ih⟩:=longerTo_spec he now k
   cases hb:bs[k]? with
   | none=>
     have e:longerTo bs now (k+1)=longerTo bs now k:=by rw [longerTo,hb]
     rw [e];refine ⟨l1,l2,fun v hv=> ?_⟩;obtain ⟨i1,i2,i3⟩:=ih v hv;refine ⟨i1,i2,fun i b hi hib=> ?_⟩
     rcases Nat.lt_or_ge i k with h|h
     · exact i3 i b h hib
     · have:i=k:=by omega
       subst this;rw [hb] at hib;cases hib
   | some c=>
     have hc:=he c (List.mem_of_getElem? hb);have e:longerTo bs now (k+1)=longerStep now (longerTo bs now k) c k:=by rw [longerTo,hb]
     rw [e];by_cases hr:val now c.src.toNat<noneV∧val now c.src.toNat+c.most<val (longerTo bs now k).1 c.dst.toNat
     · rw [longerStep_yes hr]
       refine ⟨by simp [rPut,l1],by simp [rPut,l2],fun v hv=> ?_⟩;obtain ⟨i1,i2,i3⟩:=ih v hv;simp only [rPut];rw [val_set _ _ _ _ (by rw [l1];exact hc.2),val_set _ _ _ _ (by rw [l2];exact hc.2)];by_cases hv2:c.dst.toNat=v
       · rw [if_pos hv2,if_pos hv2]
         refine ⟨by rw [hv2] at hr;omega,.inr ⟨k,c,hb,hv2,rfl,hr.1,rfl⟩,fun i b hi hib hbv hbn=> ?_⟩
         rcases Nat.lt_or_ge i k with h|h
         · have:=i3 i b h hib hbv hbn
           rw [hv2] at hr;omega
         · have:i=k:=by omega
           subst this;rw [hb] at hib;cases hib;exact Int.le_refl _
       · rw [if_neg hv2,if_neg hv2]
         refine ⟨i1,i2,fun i b hi hib hbv hbn=> ?_⟩
         rcases Nat.lt_or_ge i k with h|h
         · exact i3 i b h hib hbv hbn
         · have:i=k:=by omega
           subst this;rw [hb] at hib;cases hib;exact absurd hbv hv2
     · rw [longerStep_no hr]
       refine ⟨l1,l2,fun v hv=> ?_⟩;obtain ⟨i1,i2,i3⟩:=ih v hv;refine ⟨i1,i2,fun i b hi hib hbv hbn=> ?_⟩
       rcases Nat.lt_or_ge i k with h|h
       · exact i3 i b h hib hbv hbn
       · have:i=k:=by omega
         subst this;rw [hb] at hib;cases hib;subst hbv;omega
structure WInv (bs:List Bound) (p m:Nat) (x:Walks):Prop where
 ls:x.sums.length=m+1
 ll:x.last.length=m+1
 zero:∀ v,v<60→val (x.sums.getD 0 []) v=if v=p then 0 else noneV
 step:∀ k,k<m→∀ v,v<60→val (x.sums.getD (k+1) []) v=noneV∨∃ (i:Nat) (b:Bound),bs[i]? = some b∧b.dst.toNat=v∧val (x.last.getD (k+1) []) v=(i:Int)∧val (x.sums.getD k []) b.src.toNat<noneV∧val (x.sums.getD (k+1) []) v=val (x.sums.getD k []) b.src.toNat+b.most
 min:∀ k,k<m→∀ b∈bs,val (x.sums.getD k []) b.src.toNat<noneV→val (x.sums.getD (k+1) []) b.dst.toNat≤val (x.sums.getD k []) b.src.toNat+b.most
theorem WInv.start (bs:List Bound) (p:Nat) (hp:p<60):WInv bs p 0 (walks0 p):=
 ⟨rfl,rfl,fun v hv=>by
   show val (rPut emptyRow (p:Int) 0) v=_
   rw [val_start (by omega) (by omega),Int.toNat_natCast,if_pos hv],fun k h=>absurd h (Nat.not_lt_zero _),fun k h=>absurd h (Nat.not_lt_zero _)⟩
theorem getD_old {α:Type} {l:List α} {x d:α} {k:Nat} (h:k<l.length):(l ++ [x]).getD k d=l.getD k d:=by
 rw [List.getD_eq_getElem?_getD,List.getD_eq_getElem?_getD,List.getElem?_append_left h]
theorem getD_new {α:Type} {l:List α} {x d:α} {k:Nat} (h:k=l.length):(l ++ [x]).getD k d=x:=by
 subst h;rw [List.getD_eq_getElem?_getD,List.getElem?_append_right (Nat.le_refl _),Nat.sub_self];rfl
theorem WInv.longer {bs:List Bound} (he:Ends 60 bs) {p m:Nat} {x:Walks} (h:WInv bs p m x):WInv bs p (m+1) (x.longer bs):=by
 have hnow:x.now=x.sums.getD m []:=by unfold Walks.now;rw [h.ls];rfl
 have hsp:=longerTo_spec he x.now bs.length;refine ⟨by simp [Walks.longer,h.ls],by simp [Walks.longer,h.ll],fun v hv=> ?_,fun k hk v hv=> ?_,fun k hk b hb hn=> ?_⟩
 · simp only [Walks.longer]
   rw [getD_old (by rw [h.ls];omega)];exact h.zero v hv
 · simp only [Walks.longer]
   rcases Nat.lt_or_ge k m with hkm|hkm
   · rw [getD_old (by rw [h.ls];omega),getD_old (by rw [h.ll];omega),getD_old (by rw [h.ls];omega)]
     exact h.step k hkm v hv
   · have:k=m:=by omega
     subst this;rw [getD_new (by rw [h.ls]),getD_new (by rw [h.ll]),getD_old (by rw [h.ls];omega),←hnow];exact (hsp.2.2 v hv).2.1
 · simp only [Walks.longer] at hn ⊢
   rcases Nat.lt_or_ge k m with hkm|hkm
   · rw [getD_old (by rw [h.ls];omega)] at hn
     rw [getD_old (by rw [h.ls];omega),getD_old (by rw [h.ls];omega)];exact h.min k hkm b hb hn
   · have:k=m:=by omega
     subst this;rw [getD_old (by rw [h.ls];omega)] at hn;rw [getD_new (by rw [h.ls]),getD_old (by rw [h.ls];omega)];rw [←hnow] at hn ⊢;obtain ⟨i,hi⟩:=List.mem_iff_getElem?.1 hb;exact (hsp.2.2 b.dst.toNat (he b hb).2).2.2 i b (List.getElem?_eq_some_iff.1 hi).1 hi rfl hn
theorem sumW_up {bs ws:List Bound} {M:Int} (hm:∀ b∈bs,b.most≤M) (_:0≤M) (hs:∀ b∈ws,b∈bs):sumW ws≤M * ws.length:=by
 induction ws with
 | nil=>simp [sumW]
 | cons b t ih=>
   have h1:=hm b (hs b List.mem_cons_self);have h2:=ih (fun c hc=>hs c (List.mem_cons_of_mem _ hc));simp only [sumW,List.length_cons,Int.natCast_add,Int.mul_add];omega
theorem snoc_of {α:Type} :∀ {k:Nat} {l:List α},l.length=k+1→∃ u x,l=u ++ [x]∧u.length=k
 | 0,[x],_=>⟨[],x,rfl,rfl⟩
 | k+1,y::l,h=>by
   obtain ⟨u,x,rfl,hu⟩:=snoc_of (k:=k) (l:=l) (by simpa using h);exact ⟨y::u,x,rfl,by simp [hu]⟩
theorem WInv.low {bs:List Bound} (he:Ends 60 bs) (hm:∀ b∈bs,b.most≤1000000) {p m:Nat} {x:Walks} (h:WInv bs p m x) (hm60:m≤60):∀ k,k≤m→∀ (ws:List Bound) (v:Nat),ws.length=k→(∀ b∈ws,b∈bs)→isWalk p ws v→p<60→val (x.sums.getD k []) v≤sumW ws
 | 0,_,ws,v,hl,_,hw,hp=>by
   have:ws = []:=List.eq_nil_of_length_eq_zero hl;subst this;have:p=v:=hw;subst this;rw [h.zero p hp,if_pos rfl];exact Int.le_refl _
 | k+1,hk,ws,v,hl,hs,hw,hp=>by
   obtain ⟨u,b,rfl,hu⟩:=snoc_of hl;obtain ⟨q,h1,h2,h3⟩:=isWalk_append.1 hw;have h3':b.dst.toNat=v:=h3;subst h2;subst h3';have hsu:∀ c∈u,c∈bs:=fun c hc=>hs c (List.mem_append_left _ hc)
   have ih:=h.low he hm hm60 k (by omega) u _ hu hsu h1 hp;have hup:=sumW_up hm (by omega) hsu;have:=h.min k (by omega) b (hs b (by simp)) (by unfold noneV;rw [hu] at hup;omega);rw [sumW_append];simp only [sumW];omega
def IxOf (bs:List Bound) (c:List Int) (ws:List Bound):Prop:=c.map (fun i=>bs[i.toNat]?)=ws.map some∧∀ i∈c,0≤i
theorem WInv.back {bs:List Bound} (he:Ends 60 bs) {p m:Nat} {x:Walks} (h:WInv bs p m x):∀ k,k≤m→∀ v:Int,v.toNat<60→val (x.sums.getD k []) v.toNat<noneV→∃ ws,IxOf bs (backTo bs x.last (k+1) v).reverse ws∧ws.length=k∧(∀ b∈ws,b∈bs)∧isWalk p ws v.toNat∧sumW ws=val (x.sums.getD k []) v.toNat
 | 0,_,v,hv,hn=>by
   rw [h.zero _ hv] at hn ⊢;by_cases e:v.toNat=p
   · rw [if_pos e]
     exact ⟨[],⟨rfl,by simp [backTo]⟩,rfl,by simp,e.symm,rfl⟩
   · rw [if_neg e] at hn
     exact absurd hn (by omega)
 | k+1,hk,v,hv,hn=>by
   rcases h.step k (by omega) _ hv with e|⟨i,b,hib,hbv,hl,hbn,hsum⟩
   · omega
   · have hb:=List.mem_of_getElem? hib
     obtain ⟨ws,g1,g2,g3,g4,g5⟩:=h.back he k (by omega) b.src (he b hb).1 hbn;have hrat:rAt (x.last.getD (k+1) []) v=(i:Int):=by rw [rAt_val];exact hl
     have hget:(bs.getD (rAt (x.last.getD (k+1) []) v).toNat default).src=b.src:=by
      rw [hrat,Int.toNat_natCast,List.getD_eq_getElem?_getD,hib];rfl
     refine ⟨ws ++ [b],?_,by simp [g2],fun c hc=> ?_,isWalk_append.2 ⟨_,g4,rfl,hbv⟩,?_⟩
     · rw [backTo,List.reverse_cons,hget,hrat]
       refine ⟨?_,fun j hj=> ?_⟩
       · rw [List.map_append,List.map_append,g1.1]
         simp [hib]
       · rcases List.mem_append.1 hj with hj|hj
         · exact g1.2 j hj
         · rw [List.mem_singleton.1 hj];omega
     · rcases List.mem_append.1 hc with hc|hc
       · exact g3 c hc
       · rw [List.mem_singleton.1 hc];exact hb
     · rw [sumW_append]
       simp only [sumW];omega
def bnd (bs:List Bound) (i:Int):Bound:=bs.getD i.toNat default
open Go.RowKit Go.Proofs Go.Shelf
section
variable {l:List Trace} {known:Int} {bs:List Bond} {mv:List Place}
end
section
variable {ps:List Place}
end
end Go.Proofs.YtelnkflmnbhclaaGreat
end

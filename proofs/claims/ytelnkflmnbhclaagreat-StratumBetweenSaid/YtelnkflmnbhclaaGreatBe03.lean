/- Contracts that the laws lean on: ShaP, Walk, CirP, AloP, EitP, CirQ. -/
import Derived.Test.YtelnkflmnbhclaaGreatBe01
import Derived.Test.YtelnkflmnbhclaaGreatBe02
import Derived.Test.YtelnkflmnbhclaaGreatK18
import Derived.Test.YtelnkflmnbhclaaGreatK22
section
namespace Go.Proofs.YtelnkflmnbhclaaGreat
open Go.RowKit Go.Proofs Go.Shelf
theorem tight {pts:Int} {bs:List Bound} (hok:SysOk pts bs) (hs:solvedOk pts bs=true) {a b:Int} (a1:0≤a) (a2:a<pts) (b1:0≤b) (b2:b<pts) {year:Int} (y1: -10000≤year) (y2:year≤10000)
 (h1:year≤greatestR pts bs a b) (h2: -year≤greatestR pts bs b a):∃ y:Nat→Int,(∀ x∈bs,y x.dst.toNat≤y x.src.toNat+x.most)∧y b.toNat-y a.toNat=year:=by
 have hp:=hok.p2
 obtain ⟨y,hy,hyb⟩:=sol_bounded hok hs
 have ga:=from_zero hok a1 a2 hs
 have gb:=from_zero hok b1 b2 hs
 have fa:=from_fix hok a1 a2 hs
 have fb:=from_fix hok b1 b2 hs
 rw [greatestR_val] at h1 h2
 generalize fromV pts bs a=G at *
 generalize fromV pts bs b=H at *
 have hnone:noneV=1099511627776:=rfl
 obtain ⟨h,hh⟩:∃ h:Nat→Int,∀ v,(G v<noneV→h v≤G v)∧(H v<noneV→h v≤year+H v)∧h v≤y v+100000000000∧((G v<noneV∧h v=G v)∨(H v<noneV∧h v=year+H v)∨h v=y v+100000000000):=by
  refine ⟨fun v=>if G v<noneV∧G v≤y v+100000000000∧(H v<noneV→G v≤year+H v) then G v else if H v<noneV∧year+H v≤y v+100000000000 then year+H v else y v+100000000000,fun v=> ?_⟩
  simp only
  split
  · omega
  · split<;>omega
 refine ⟨h,fun x hx=> ?_,?_⟩
 · have hxm:=hok.b x hx
   have k1:=hh x.src.toNat
   have k2:=hh x.dst.toNat
   have k3:=hy x hx
   have k4:=hyb x.src.toNat
   have k5:=fa x hx
   have k6:=fb x hx
   unfold KeptB at k5 k6
   rcases k1.2.2.2 with ⟨e1,e2⟩|⟨e1,e2⟩|e2
   · have:=k5 e1
     have:=k2.1 (by omega)
     omega
   · have:=k6 e1
     have:=k2.2.1 (by omega)
     omega
   · omega
 · have k1:=hh a.toNat
   have k2:=hh b.toNat
   have k3:=hyb a.toNat
   have k4:=hyb b.toNat
   omega
end Go.Proofs.YtelnkflmnbhclaaGreat
end
section
namespace Go.Proofs.YtelnkflmnbhclaaGreat
def isWalk:Nat→List Bound→Nat→Prop
 | a,[],p=>a=p
 | a,b::t,p=>b.src.toNat=a∧isWalk b.dst.toNat t p
def sumW:List Bound→Int
 | []=>0
 | b::t=>b.most+sumW t
theorem sumW_append:∀ u v:List Bound,sumW (u++v)=sumW u+sumW v
 | [],v=>by simp [sumW]
 | b::u,v=>by simp [sumW,sumW_append u v];omega
theorem isWalk_append:∀ {a p:Nat} {u v:List Bound},isWalk a (u++v) p ↔ ∃ q,isWalk a u q∧isWalk q v p
 | a,p,[],v=>by simp [isWalk]
 | a,p,b::u,v=>by
   have ih:= @isWalk_append b.dst.toNat p u v
   simp only [List.cons_append,isWalk,ih]
   constructor
   · rintro ⟨h,q,h1,h2⟩;exact ⟨q,⟨h,h1⟩,h2⟩
   · rintro ⟨q,⟨h,h1⟩,h2⟩;exact ⟨h,q,h1,h2⟩
theorem isWalk_sum {y:Nat→Int} :∀ {a p:Nat} {ws:List Bound},(∀ b∈ws,y b.dst.toNat≤y b.src.toNat+b.most)→isWalk a ws p→y p≤y a+sumW ws
 | a,p,[],_,h=>by cases h;simp [sumW]
 | a,p,b::t,hy,⟨h1,h2⟩=>by
   have ih:=isWalk_sum (fun c hc=>hy c (List.mem_cons_of_mem _ hc)) h2
   have:=hy b List.mem_cons_self
   rw [h1] at this
   simp only [sumW]
   omega
theorem sumW_low {bs ws:List Bound} {M:Int} (hm:∀ b∈bs,-M≤b.most) (_:0≤M) (hs:∀ b∈ws,b∈bs): -(M * ws.length)≤sumW ws:=by
 induction ws with
 | nil=>simp [sumW]
 | cons b t ih=>
   have h1:=hm b (hs b List.mem_cons_self)
   have h2:=ih (fun c hc=>hs c (List.mem_cons_of_mem _ hc))
   simp only [sumW,List.length_cons,Int.natCast_add,Int.mul_add]
   omega
def leaves (ws:List Bound):List Nat:=ws.map (fun b=>b.src.toNat)
theorem not_nodup_split {α:Type} :∀ {l:List α},¬l.Nodup→∃ x u v t,l=u++x::v++x::t
 | [],h=>absurd List.nodup_nil h
 | a::l,h=>by
   by_cases hm:a∈l
   · obtain ⟨v,t,rfl⟩:=List.append_of_mem hm
     exact ⟨a,[],v,t,by simp⟩
   · have:¬l.Nodup:=fun hn=>h (List.nodup_cons.2 ⟨hm,hn⟩)
     obtain ⟨x,u,v,t,rfl⟩:=not_nodup_split this
     exact ⟨x,a::u,v,t,by simp⟩
theorem walk_split {a p:Nat} {ws:List Bound} (hw:isWalk a ws p) (h:¬(leaves ws).Nodup):∃ q u v t,ws=u++v++t∧v ≠ []∧t ≠ []∧isWalk a u q∧isWalk q v q∧isWalk q t p:=by
 obtain ⟨x,u,v,t,e⟩:=not_nodup_split h
 unfold leaves at e
 obtain ⟨uv,t',rfl,e1,e2⟩:=List.map_eq_append_iff.1 e
 obtain ⟨u',v',rfl,e3,e4⟩:=List.map_eq_append_iff.1 e1
 obtain ⟨b,v'',rfl,hb,_⟩:=List.map_eq_cons_iff.1 e4
 obtain ⟨c,t'',rfl,hc,_⟩:=List.map_eq_cons_iff.1 e2
 obtain ⟨q2,h1,h2⟩:=isWalk_append.1 hw
 obtain ⟨q1,h3,h4⟩:=isWalk_append.1 h1
 have a1:q1=x:=h4.1.symm.trans hb
 have a2:q2=x:=h2.1.symm.trans hc
 subst a1
 subst a2
 exact ⟨q2,u',b::v'',c::t'',rfl,by simp,by simp,h3,h4,h2⟩
theorem walk_split2 {a p:Nat} {ws:List Bound} (hw:isWalk a ws p) (h:¬(leaves ws ++ [p]).Nodup):∃ q u v t,ws=u++v++t∧v ≠ []∧isWalk a u q∧isWalk q v q∧isWalk q t p:=by
 by_cases h1:(leaves ws).Nodup
 · have hp:p∈leaves ws:=by
    apply Classical.byContradiction
    intro hp
    exact h (List.nodup_append.2 ⟨h1,by simp,fun x hx y hy e=>by
     have:y=p:=by simpa using hy
     subst this;subst e;exact hp hx⟩)
   unfold leaves at hp
   obtain ⟨b,hb,hbp⟩:=List.mem_map.1 hp
   obtain ⟨u,v,rfl⟩:=List.append_of_mem hb
   obtain ⟨q,h3,h4⟩:=isWalk_append.1 hw
   have:q=p:=h4.1.symm.trans hbp
   subst this
   exact ⟨q,u,b::v,[],by simp,by simp,h3,h4,rfl⟩
 · obtain ⟨q,u,v,t,e,e1,_,e3⟩:=walk_split hw h1
   exact ⟨q,u,v,t,e,e1,e3⟩
theorem nodup_range {n:Nat} {l:List Nat} (hn:l.Nodup) (h:∀ x∈l,x<n):l.length≤n:=by
 have:=len_le_of_sub l (List.range n) hn (fun q hq=>List.mem_range.2 (h q hq))
 simpa using this
def NoCircle (bs:List Bound):Prop:=∀ a ws,(∀ b∈ws,b∈bs)→isWalk a ws a→0≤sumW ws
theorem walkIn {n:Nat} {bs:List Bound} (he:Ends n bs):∀ {a p:Nat} {ws:List Bound},(∀ b∈ws,b∈bs)→isWalk a ws p→a<n→p<n
 | a,p,[],_,h,ha=>by cases h;exact ha
 | a,p,b::t,hs,⟨h1,h2⟩,ha=>walkIn he (fun c hc=>hs c (List.mem_cons_of_mem _ hc)) h2 (he b (hs b List.mem_cons_self)).2
theorem shorten {n:Nat} {bs:List Bound} (he:Ends n bs) (hno:NoCircle bs):∀ (m a p:Nat) (ws:List Bound),ws.length≤m→a<n→(∀ b∈ws,b∈bs)→isWalk a ws p→∃ vs,vs.length<n∧(∀ b∈vs,b∈bs)∧isWalk a vs p∧sumW vs≤sumW ws
 | m,a,p,ws,hm,ha,hs,hw=>by
   by_cases h:(leaves ws ++ [p]).Nodup
   · have hl:=nodup_range h (n:=n) (fun x hx=>by
      rcases List.mem_append.1 hx with hx|hx
      · unfold leaves at hx
        obtain ⟨b,hb,rfl⟩:=List.mem_map.1 hx
        exact (he b (hs b hb)).1
      · have:x=p:=by simpa using hx
        subst this
        exact walkIn he hs hw ha)
     have:(leaves ws).length=ws.length:=by simp [leaves]
     simp only [List.length_append,List.length_cons,List.length_nil] at hl
     exact ⟨ws,by omega,hs,hw,Int.le_refl _⟩
   · obtain ⟨q,u,v,t,rfl,hv,h1,h2,h3⟩:=walk_split2 hw h
     have hvl:0<v.length:=List.length_pos_iff.2 hv
     have hsv:0≤sumW v:=hno q v (fun b hb=>hs b (by simp [hb])) h2
     cases m with
     | zero=>rw [List.length_append,List.length_append] at hm;omega
     | succ m=>
       obtain ⟨vs,a1,a2,a3,a4⟩:=shorten he hno m a p (u++t) (by simp at hm ⊢;omega) ha (fun b hb=>hs b (by
        rcases List.mem_append.1 hb with hb|hb<;>simp [hb])) (isWalk_append.2 ⟨q,h1,h3⟩)
       refine ⟨vs,a1,a2,a3,?_⟩
       rw [sumW_append] at a4
       rw [sumW_append,sumW_append]
       omega
theorem int_least {P:Int→Prop} {B:Int} (hB:∀ x,P x→B≤x):∀ (m:Nat) (x:Int),P x→(x-B).toNat≤m→∃ y,P y∧∀ z,P z→y≤z
 | m,x,hx,hm=>by
   by_cases h:∃ z,P z∧z<x
   · obtain ⟨z,hz,hlt⟩:=h
     have:=hB z hz
     cases m with
     | zero=>omega
     | succ m=>exact int_least hB m z hz (by omega)
   · exact ⟨x,hx,fun z hz=>by
      apply Classical.byContradiction
      intro hn
      exact h ⟨z,hz,by omega⟩⟩
theorem solution_of {n:Nat} {bs:List Bound} (he:Ends n bs) {M:Int} (hM:0≤M) (hm:∀ b∈bs,-M≤b.most) (hno:NoCircle bs):∃ y:Nat→Int,(∀ b∈bs,y b.dst.toNat≤y b.src.toNat+b.most)∧∀ p,p<n→ -(M * n)≤y p∧y p≤0:=by
 have hB:∀ (p:Nat) (x:Int),(∃ a ws,a<n∧(∀ b∈ws,b∈bs)∧isWalk a ws p∧sumW ws=x)→ -(M * n)≤x:=fun p x hx=>by
  obtain ⟨a,ws,h1,h2,h3,rfl⟩:=hx
  obtain ⟨vs,a1,a2,_,a4⟩:=shorten he hno ws.length a p ws (Nat.le_refl _) h1 h2 h3
  have h5:=sumW_low hm hM a2
  have h6:M * (vs.length:Int)≤M * (n:Int):=Int.mul_le_mul_of_nonneg_left (by omega) hM
  omega
 have key:∀ p:Nat,∃ y:Int,p<n→(∃ a ws,a<n∧(∀ b∈ws,b∈bs)∧isWalk a ws p∧sumW ws=y)∧∀ a ws,a<n→(∀ b∈ws,b∈bs)→isWalk a ws p→y≤sumW ws:=fun p=>by
  by_cases hp:p<n
  · obtain ⟨y,h1,h2⟩:=int_least (hB p) _ 0 ⟨p,[],hp,by simp,rfl,rfl⟩ (Nat.le_refl _)
    exact ⟨y,fun _=>⟨h1,fun a ws ha hs hw=>h2 _ ⟨a,ws,ha,hs,hw,rfl⟩⟩⟩
  · exact ⟨0,fun h=>absurd h hp⟩
 refine ⟨fun p=>Classical.choose (key p),fun b hb=> ?_,fun p hp=> ?_⟩
 · obtain ⟨⟨a,ws,h1,h2,h3,h4⟩,_⟩:=Classical.choose_spec (key b.src.toNat) (he b hb).1
   have h5:=(Classical.choose_spec (key b.dst.toNat) (he b hb).2).2 a (ws ++ [b]) h1 (fun c hc=>by
    rcases List.mem_append.1 hc with hc|hc
    · exact h2 c hc
    · have:c=b:=by simpa using hc
      subst this;exact hb) (isWalk_append.2 ⟨_,h3,rfl,rfl⟩)
   rw [sumW_append] at h5
   simp only [sumW] at h5
   simp only
   omega
 · have h:=Classical.choose_spec (key p) hp
   exact ⟨hB p _ h.1,by have:=h.2 p [] hp (by simp) rfl;simpa [sumW] using this⟩
theorem solution_iff {pts:Int} {bs:List Bound} (hok:SysOk pts bs):solvedOk pts bs=true↔NoCircle bs:=by
 rw [solvedOk_iff hok]
 constructor
 · rintro ⟨y,hy⟩ a ws hs hw
   have:=isWalk_sum (fun b hb=>hy b (hs b hb)) hw
   omega
 · intro hno
   have hp:=hok.p2
   obtain ⟨y,hy,_⟩:=solution_of (n:=pts.toNat) (fun b hb=>by
    have:=hok.b b hb
    constructor<;>omega) (M:=1000000) (by omega) (fun b hb=>(hok.b b hb).2.2.2.2.2.1) hno
   exact ⟨y,hy⟩
end Go.Proofs.YtelnkflmnbhclaaGreat
end
section
namespace Go.Proofs.YtelnkflmnbhclaaGreat
structure WInv (bs:List Bound) (p m:Nat) (x:Walks):Prop where
 ls:x.sums.length=m+1
 ll:x.last.length=m+1
 zero:∀ v,v<60→val (x.sums.getD 0 []) v=if v=p then 0 else noneV
 step:∀ k,k<m→∀ v,v<60→val (x.sums.getD (k+1) []) v=noneV∨∃ (i:Nat) (b:Bound),bs[i]? = some b∧b.dst.toNat=v∧val (x.last.getD (k+1) []) v=(i:Int)∧val (x.sums.getD k []) b.src.toNat<noneV∧val (x.sums.getD (k+1) []) v=val (x.sums.getD k []) b.src.toNat+b.most
 min:∀ k,k<m→∀ b∈bs,val (x.sums.getD k []) b.src.toNat<noneV→val (x.sums.getD (k+1) []) b.dst.toNat≤val (x.sums.getD k []) b.src.toNat+b.most
theorem WInv.start (bs:List Bound) (p:Nat) (hp:p<60):WInv bs p 0 (walks0 p):=
 ⟨rfl,rfl,fun v hv=>by
   show val (rPut emptyRow (p:Int) 0) v=_
   rw [val_start (by omega) (by omega),Int.toNat_natCast,if_pos hv],fun k h=>absurd h (Nat.not_lt_zero _),fun k h=>absurd h (Nat.not_lt_zero _)⟩
theorem sumW_up {bs ws:List Bound} {M:Int} (hm:∀ b∈bs,b.most≤M) (_:0≤M) (hs:∀ b∈ws,b∈bs):sumW ws≤M * ws.length:=by
 induction ws with
 | nil=>simp [sumW]
 | cons b t ih=>
   have h1:=hm b (hs b List.mem_cons_self)
   have h2:=ih (fun c hc=>hs c (List.mem_cons_of_mem _ hc))
   simp only [sumW,List.length_cons,Int.natCast_add,Int.mul_add]
   omega
theorem snoc_of {α:Type} :∀ {k:Nat} {l:List α},l.length=k+1→∃ u x,l=u ++ [x]∧u.length=k
 | 0,[x],_=>⟨[],x,rfl,rfl⟩
 | k+1,y::l,h=>by
   obtain ⟨u,x,rfl,hu⟩:=snoc_of (k:=k) (l:=l) (by simpa using h)
   exact ⟨y::u,x,rfl,by simp [hu]⟩
theorem WInv.low {bs:List Bound} (he:Ends 60 bs) (hm:∀ b∈bs,b.most≤1000000) {p m:Nat} {x:Walks} (h:WInv bs p m x) (hm60:m≤60):∀ k,k≤m→∀ (ws:List Bound) (v:Nat),ws.length=k→(∀ b∈ws,b∈bs)→isWalk p ws v→p<60→val (x.sums.getD k []) v≤sumW ws
 | 0,_,ws,v,hl,_,hw,hp=>by
   have:ws = []:=List.eq_nil_of_length_eq_zero hl
   subst this
   have:p=v:=hw
   subst this
   rw [h.zero p hp,if_pos rfl];exact Int.le_refl _
 | k+1,hk,ws,v,hl,hs,hw,hp=>by
   obtain ⟨u,b,rfl,hu⟩:=snoc_of hl
   obtain ⟨q,h1,h2,h3⟩:=isWalk_append.1 hw
   have h3':b.dst.toNat=v:=h3
   subst h2
   subst h3'
   have hsu:∀ c∈u,c∈bs:=fun c hc=>hs c (List.mem_append_left _ hc)
   have ih:=h.low he hm hm60 k (by omega) u _ hu hsu h1 hp
   have hup:=sumW_up hm (by omega) hsu
   have:=h.min k (by omega) b (hs b (by simp)) (by unfold noneV;rw [hu] at hup;omega)
   rw [sumW_append]
   simp only [sumW]
   omega
end Go.Proofs.YtelnkflmnbhclaaGreat
end
section
namespace Go.Proofs.YtelnkflmnbhclaaGreat
end Go.Proofs.YtelnkflmnbhclaaGreat
end
section
namespace Go.Proofs.YtelnkflmnbhclaaGreat
open Go.RowKit Go.Proofs Go.Shelf
section
variable {l:List Trace} {known:Int} {bs:List Bond} {mv:List Place}
end
end Go.Proofs.YtelnkflmnbhclaaGreat
end
section
namespace Go.Proofs.YtelnkflmnbhclaaGreat
open Go.RowKit Go.Proofs Go.Shelf
def walkP:Place→List Link→Place→Prop
 | p,[],q=>p=q
 | p,x::t,q=>x.src=p∧walkP x.dst t q
def sumL:List Link→Int
 | []=>0
 | x::t=>x.most+sumL t
theorem sumL_eq (m:List (Place×Int)):∀ c:List Link,sumW (c.map (boundOf m))=sumL c
 | []=>rfl
 | x::t=>by simp only [List.map_cons,sumW,sumL,sumL_eq m t,boundOf]
section
variable {ps:List Place}
def numP (ps:List Place) (p:Place):Nat:=((getM (ptsM ps ps.length) p).getD 0).toNat
theorem numP_inj (hn:ps.Nodup) (hz:z00∉ps) {p q:Place} (hp:p=z00∨p∈ps) (hq:q=z00∨q∈ps) (h:numP ps p=numP ps q):p=q:=by
 obtain ⟨v,hv⟩:=ptsM_some ps hn hz hp
 obtain ⟨u,hu⟩:=ptsM_some ps hn hz hq
 have h1:=ptsM_range ps hv
 have h2:=ptsM_range ps hu
 unfold numP at h
 rw [hv,hu] at h
 simp only [Option.getD_some] at h
 have:v=u:=by omega
 subst this
 exact ptsM_inj ps hn hv hu
theorem walk_num (hn:ps.Nodup) (hz:z00∉ps):∀ {c:List Link} {p q:Place},(∀ x∈c,goodLink ps x)→(p=z00∨p∈ps)→(q=z00∨q∈ps)→(isWalk (numP ps p) (c.map (boundOf (ptsM ps ps.length))) (numP ps q)↔walkP p c q)
 | [],p,q,_,hp,hq=>⟨fun h=>numP_inj hn hz hp hq h,fun h=>by rw [show p=q from h];rfl⟩
 | x::t,p,q,hg,hp,hq=>by
   have hx:=hg x List.mem_cons_self
   have ih:=walk_num hn hz (c:=t) (p:=x.dst) (q:=q) (fun y hy=>hg y (List.mem_cons_of_mem _ hy)) hx.2.1 hq
   constructor
   · rintro ⟨h1,h2⟩
     exact ⟨numP_inj hn hz hx.1 hp h1,ih.1 h2⟩
   · rintro ⟨h1,h2⟩
     exact ⟨by rw [←h1];rfl,ih.2 h2⟩
end
end Go.Proofs.YtelnkflmnbhclaaGreat
end

/- Contracts that the laws lean on: CirP, Spr, EdQ, EdA, Full. -/
import Derived.Test.YtpmkgmilfifkpaaGreatDoorDE12
set_option maxHeartbeats 2000000
section
namespace Go.Proofs.YtpmkgmilfifkpaaGreatDoor
theorem longerStep_yes {now:Row} {st:Row×Row} {b:Bound} {i:Nat} (h:val now b.src.toNat<noneV∧val now b.src.toNat+b.most<val st.1 b.dst.toNat):longerStep now st b i=(rPut st.1 b.dst (val now b.src.toNat+b.most),rPut st.2 b.dst i):=by
 unfold longerStep
 rw [if_pos (by rw [Bool.and_eq_true];exact ⟨decide_eq_true h.1,decide_eq_true h.2⟩)];rfl
theorem longerStep_no {now:Row} {st:Row×Row} {b:Bound} {i:Nat} (h:¬(val now b.src.toNat<noneV∧val now b.src.toNat+b.most<val st.1 b.dst.toNat)):longerStep now st b i=st:=by
 unfold longerStep
 rw [if_neg (by rw [Bool.and_eq_true];exact fun e=>h ⟨of_decide_eq_true e.1,of_decide_eq_true e.2⟩)]
theorem longerTo_spec {bs:List Bound} (he:Ends 60 bs) (now:Row):∀ k,(longerTo bs now k).1.length=60∧(longerTo bs now k).2.length=60∧∀ v,v<60→
 val (longerTo bs now k).1 v≤noneV∧
 (val (longerTo bs now k).1 v=noneV∨∃ (i:Nat) (b:Bound),bs[i]? = some b∧b.dst.toNat=v∧val (longerTo bs now k).2 v=(i:Int)∧val now b.src.toNat<noneV∧val (longerTo bs now k).1 v=val now b.src.toNat+b.most)∧
 ∀ (i:Nat) (b:Bound),i<k→bs[i]? = some b→b.dst.toNat=v→val now b.src.toNat<noneV→val (longerTo bs now k).1 v≤val now b.src.toNat+b.most
 | 0=>by
   refine ⟨by simp [longerTo,emptyRow],by simp [longerTo,zeroRow],fun v hv=> ?_⟩
   have e:val (longerTo bs now 0).1 v=noneV:=by
    show val emptyRow v=noneV
    unfold val emptyRow
    rw [List.getD_eq_getElem?_getD,List.getElem?_replicate,if_pos hv];rfl
   exact ⟨by omega,.inl e,fun i b h=>absurd h (Nat.not_lt_zero _)⟩
 | k+1=>by
   obtain ⟨l1,l2,ih⟩:=longerTo_spec he now k
   cases hb:bs[k]? with
   | none=>
     have e:longerTo bs now (k+1)=longerTo bs now k:=by rw [longerTo,hb]
     rw [e]
     refine ⟨l1,l2,fun v hv=> ?_⟩
     obtain ⟨i1,i2,i3⟩:=ih v hv
     refine ⟨i1,i2,fun i b hi hib=> ?_⟩
     rcases Nat.lt_or_ge i k with h|h
     · exact i3 i b h hib
     · have:i=k:=by omega
       subst this;rw [hb] at hib;cases hib
   | some c=>
     have hc:=he c (List.mem_of_getElem? hb)
     have e:longerTo bs now (k+1)=longerStep now (longerTo bs now k) c k:=by rw [longerTo,hb]
     rw [e]
     by_cases hr:val now c.src.toNat<noneV∧val now c.src.toNat+c.most<val (longerTo bs now k).1 c.dst.toNat
     · rw [longerStep_yes hr]
       refine ⟨by simp [rPut,l1],by simp [rPut,l2],fun v hv=> ?_⟩
       obtain ⟨i1,i2,i3⟩:=ih v hv
       simp only [rPut]
       rw [val_set _ _ _ _ (by rw [l1];exact hc.2),val_set _ _ _ _ (by rw [l2];exact hc.2)]
       by_cases hv2:c.dst.toNat=v
       · rw [if_pos hv2,if_pos hv2]
         refine ⟨by rw [hv2] at hr;omega,.inr ⟨k,c,hb,hv2,rfl,hr.1,rfl⟩,fun i b hi hib hbv hbn=> ?_⟩
         rcases Nat.lt_or_ge i k with h|h
         · have:=i3 i b h hib hbv hbn
           rw [hv2] at hr
           omega
         · have:i=k:=by omega
           subst this
           rw [hb] at hib
           cases hib
           exact Int.le_refl _
       · rw [if_neg hv2,if_neg hv2]
         refine ⟨i1,i2,fun i b hi hib hbv hbn=> ?_⟩
         rcases Nat.lt_or_ge i k with h|h
         · exact i3 i b h hib hbv hbn
         · have:i=k:=by omega
           subst this
           rw [hb] at hib
           cases hib
           exact absurd hbv hv2
     · rw [longerStep_no hr]
       refine ⟨l1,l2,fun v hv=> ?_⟩
       obtain ⟨i1,i2,i3⟩:=ih v hv
       refine ⟨i1,i2,fun i b hi hib hbv hbn=> ?_⟩
       rcases Nat.lt_or_ge i k with h|h
       · exact i3 i b h hib hbv hbn
       · have:i=k:=by omega
         subst this
         rw [hb] at hib
         cases hib
         subst hbv
         omega
structure WInv (bs:List Bound) (p m:Nat) (x:Walks):Prop where
 ls:x.sums.length=m+1
 ll:x.last.length=m+1
 zero:∀ v,v<60→val (x.sums.getD 0 []) v=if v=p then 0 else noneV
 step:∀ k,k<m→∀ v,v<60→val (x.sums.getD (k+1) []) v=noneV∨∃ (i:Nat) (b:Bound),bs[i]? = some b∧b.dst.toNat=v∧val (x.last.getD (k+1) []) v=(i:Int)∧val (x.sums.getD k []) b.src.toNat<noneV∧val (x.sums.getD (k+1) []) v=val (x.sums.getD k []) b.src.toNat+b.most
 min:∀ k,k<m→∀ b∈bs,val (x.sums.getD k []) b.src.toNat<noneV→val (x.sums.getD (k+1) []) b.dst.toNat≤val (x.sums.getD k []) b.src.toNat+b.most
theorem WInv.start (bs:List Bound) (p:Nat) (hp:p<60):WInv bs p 0 (walks0 p):=
 ⟨rfl,rfl,fun v hv=>by
   show val (rPut emptyRow (p:Int) 0) v=_
   rw [val_start (by omega) (by omega),Int.toNat_natCast,if_pos hv],fun k h=>absurd h (Nat.not_lt_zero _),fun k h=>absurd h (Nat.not_lt_zero _)⟩
theorem getD_old {α:Type} {l:List α} {x d:α} {k:Nat} (h:k<l.length):(l ++ [x]).getD k d=l.getD k d:=by
 rw [List.getD_eq_getElem?_getD,List.getD_eq_getElem?_getD,List.getElem?_append_left h]
theorem getD_new {α:Type} {l:List α} {x d:α} {k:Nat} (h:k=l.length):(l ++ [x]).getD k d=x:=by
 subst h
 rw [List.getD_eq_getElem?_getD,List.getElem?_append_right (Nat.le_refl _),Nat.sub_self];rfl
theorem WInv.longer {bs:List Bound} (he:Ends 60 bs) {p m:Nat} {x:Walks} (h:WInv bs p m x):WInv bs p (m+1) (x.longer bs):=by
 have hnow:x.now=x.sums.getD m []:=by unfold Walks.now;rw [h.ls];rfl
 have hsp:=longerTo_spec he x.now bs.length
 refine ⟨by simp [Walks.longer,h.ls],by simp [Walks.longer,h.ll],fun v hv=> ?_,fun k hk v hv=> ?_,fun k hk b hb hn=> ?_⟩
 · simp only [Walks.longer]
   rw [getD_old (by rw [h.ls];omega)]
   exact h.zero v hv
 · simp only [Walks.longer]
   rcases Nat.lt_or_ge k m with hkm|hkm
   · rw [getD_old (by rw [h.ls];omega),getD_old (by rw [h.ll];omega),getD_old (by rw [h.ls];omega)]
     exact h.step k hkm v hv
   · have:k=m:=by omega
     subst this
     rw [getD_new (by rw [h.ls]),getD_new (by rw [h.ll]),getD_old (by rw [h.ls];omega),←hnow]
     exact (hsp.2.2 v hv).2.1
 · simp only [Walks.longer] at hn ⊢
   rcases Nat.lt_or_ge k m with hkm|hkm
   · rw [getD_old (by rw [h.ls];omega)] at hn
     rw [getD_old (by rw [h.ls];omega),getD_old (by rw [h.ls];omega)]
     exact h.min k hkm b hb hn
   · have:k=m:=by omega
     subst this
     rw [getD_old (by rw [h.ls];omega)] at hn
     rw [getD_new (by rw [h.ls]),getD_old (by rw [h.ls];omega)]
     rw [←hnow] at hn ⊢
     obtain ⟨i,hi⟩:=List.mem_iff_getElem?.1 hb
     exact (hsp.2.2 b.dst.toNat (he b hb).2).2.2 i b (List.getElem?_eq_some_iff.1 hi).1 hi rfl hn
theorem sumW_up {bs ws:List Bound} {M:Int} (hm:∀ b∈bs,b.most≤M) (_:0≤M) (hs:∀ b∈ws,b∈bs):sumW ws≤M * ws.length:=by
 induction ws with
 | nil=>simp [sumW]
 | cons b t ih=>
   have h1:=hm b (hs b List.mem_cons_self)
   have h2:=ih (fun c hc=>hs c (List.mem_cons_of_mem _ hc))
   simp only [sumW,List.length_cons,Int.natCast_add,Int.mul_add]
   omega
theorem snoc_of {α:Type} :∀ {k:Nat} {l:List α},l.length=k+1→∃ u x,l=u ++ [x]∧u.length=k
 | 0,[x],_=>⟨[],x,rfl,rfl⟩
 | k+1,y::l,h=>by
   obtain ⟨u,x,rfl,hu⟩:=snoc_of (k:=k) (l:=l) (by simpa using h)
   exact ⟨y::u,x,rfl,by simp [hu]⟩
theorem WInv.low {bs:List Bound} (he:Ends 60 bs) (hm:∀ b∈bs,b.most≤1000000) {p m:Nat} {x:Walks} (h:WInv bs p m x) (hm60:m≤60):∀ k,k≤m→∀ (ws:List Bound) (v:Nat),ws.length=k→(∀ b∈ws,b∈bs)→isWalk p ws v→p<60→val (x.sums.getD k []) v≤sumW ws
 | 0,_,ws,v,hl,_,hw,hp=>by
   have:ws = []:=List.eq_nil_of_length_eq_zero hl
   subst this
   have:p=v:=hw
   subst this
   rw [h.zero p hp,if_pos rfl];exact Int.le_refl _
 | k+1,hk,ws,v,hl,hs,hw,hp=>by
   obtain ⟨u,b,rfl,hu⟩:=snoc_of hl
   obtain ⟨q,h1,h2,h3⟩:=isWalk_append.1 hw
   have h3':b.dst.toNat=v:=h3
   subst h2
   subst h3'
   have hsu:∀ c∈u,c∈bs:=fun c hc=>hs c (List.mem_append_left _ hc)
   have ih:=h.low he hm hm60 k (by omega) u _ hu hsu h1 hp
   have hup:=sumW_up hm (by omega) hsu
   have:=h.min k (by omega) b (hs b (by simp)) (by unfold noneV;rw [hu] at hup;omega)
   rw [sumW_append]
   simp only [sumW]
   omega
def IxOf (bs:List Bound) (c:List Int) (ws:List Bound):Prop:=c.map (fun i=>bs[i.toNat]?)=ws.map some∧∀ i∈c,0≤i
theorem WInv.back {bs:List Bound} (he:Ends 60 bs) {p m:Nat} {x:Walks} (h:WInv bs p m x):∀ k,k≤m→∀ v:Int,v.toNat<60→val (x.sums.getD k []) v.toNat<noneV→∃ ws,IxOf bs (backTo bs x.last (k+1) v).reverse ws∧ws.length=k∧(∀ b∈ws,b∈bs)∧isWalk p ws v.toNat∧sumW ws=val (x.sums.getD k []) v.toNat
 | 0,_,v,hv,hn=>by
   rw [h.zero _ hv] at hn ⊢
   by_cases e:v.toNat=p
   · rw [if_pos e]
     exact ⟨[],⟨rfl,by simp [backTo]⟩,rfl,by simp,e.symm,rfl⟩
   · rw [if_neg e] at hn
     exact absurd hn (by omega)
 | k+1,hk,v,hv,hn=>by
   rcases h.step k (by omega) _ hv with e|⟨i,b,hib,hbv,hl,hbn,hsum⟩
   · omega
   · have hb:=List.mem_of_getElem? hib
     obtain ⟨ws,g1,g2,g3,g4,g5⟩:=h.back he k (by omega) b.src (he b hb).1 hbn
     have hrat:rAt (x.last.getD (k+1) []) v=(i:Int):=by rw [rAt_val];exact hl
     have hget:(bs.getD (rAt (x.last.getD (k+1) []) v).toNat default).src=b.src:=by
      rw [hrat,Int.toNat_natCast,List.getD_eq_getElem?_getD,hib];rfl
     refine ⟨ws ++ [b],?_,by simp [g2],fun c hc=> ?_,isWalk_append.2 ⟨_,g4,rfl,hbv⟩,?_⟩
     · rw [backTo,List.reverse_cons,hget,hrat]
       refine ⟨?_,fun j hj=> ?_⟩
       · rw [List.map_append,List.map_append,g1.1]
         simp [hib]
       · rcases List.mem_append.1 hj with hj|hj
         · exact g1.2 j hj
         · rw [List.mem_singleton.1 hj];omega
     · rcases List.mem_append.1 hc with hc|hc
       · exact g3 c hc
       · rw [List.mem_singleton.1 hc];exact hb
     · rw [sumW_append]
       simp only [sumW]
       omega
def iterW (bs:List Bound) (p:Nat):Nat→Walks
 | 0=>walks0 p
 | n+1=>(iterW bs p n).longer bs
theorem iterW_inv {bs:List Bound} (he:Ends 60 bs) {p:Nat} (hp:p<60):∀ n,WInv bs p n (iterW bs p n)
 | 0=>WInv.start bs p hp
 | n+1=>(iterW_inv he hp n).longer he
def closedS (bs:List Bound) (n p:Nat):Int:=val ((iterW bs p n).sums.getD n []) p
theorem now_closed {bs:List Bound} (he:Ends 60 bs) {p:Nat} (hp:p<60) (n:Nat):rAt (iterW bs p n).now (p:Int)=closedS bs n p:=by
 unfold closedS Walks.now
 rw [(iterW_inv he hp n).ls,rAt_val,Int.toNat_natCast];rfl
theorem crow_law {bs:List Bound} (he:Ends 60 bs) (m:Nat):∀ (n j:Nat),j+n≤60→
 ((∀ p,j≤p→p<j+n→¬closedS bs (m+1) p<0)∧circleRow bs ((List.range' j n).map (iterW bs · m)) j=((List.range' j n).map (iterW bs · (m+1)),none))∨
 ∃ p ys,j≤p∧p<j+n∧closedS bs (m+1) p<0∧circleRow bs ((List.range' j n).map (iterW bs · m)) j=(ys,some ((iterW bs p (m+1)).back bs p))
 | 0,j,_=> .inl ⟨fun p h1 h2=>absurd h2 (by omega),rfl⟩
 | n+1,j,hj=>by
   rw [List.range'_succ,List.map_cons,List.map_cons]
   have e:(iterW bs j m).longer bs=iterW bs j (m+1):=rfl
   unfold circleRow
   rw [e,now_closed he (by omega)]
   by_cases hneg:closedS bs (m+1) j<0
   · right
     rw [if_pos hneg]
     exact ⟨j,_,Nat.le_refl _,by omega,hneg,rfl⟩
   · rw [if_neg hneg]
     rcases crow_law he m n (j+1) (by omega) with ⟨h1,h2⟩|⟨p,ys,h1,h2,h3,h4⟩
     · left
       refine ⟨fun p hp1 hp2=> ?_,by rw [h2]⟩
       by_cases e:p=j
       · subst e;exact hneg
       · exact h1 p (by omega) (by omega)
     · right
       exact ⟨p,_,by omega,by omega,h3,by rw [h4]⟩
theorem cloop_law {bs:List Bound} (he:Ends 60 bs) {pts:Nat} (hp:pts≤60):∀ (n m:Nat),
 ((∀ k p,m<k→k≤m+n→p<pts→¬closedS bs k p<0)∧circleLoop bs n ((List.range pts).map (iterW bs · m)) = [])∨
 ∃ k p,m<k∧k≤m+n∧p<pts∧closedS bs k p<0∧(∀ j q,m<j→j<k→q<pts→¬closedS bs j q<0)∧circleLoop bs n ((List.range pts).map (iterW bs · m))=(iterW bs p k).back bs p
 | 0,m=> .inl ⟨fun k p h1 h2=>absurd h2 (by omega),rfl⟩
 | n+1,m=>by
   unfold circleLoop
   have hr:=crow_law he m pts 0 (by omega)
   rw [←List.range_eq_range'] at hr
   rcases hr with ⟨h1,h2⟩|⟨p,ys,h1,h2,h3,h4⟩
   · rw [h2]
     simp only
     rcases cloop_law he hp n (m+1) with ⟨g1,g2⟩|⟨k,p,g1,g2,g3,g4,g5,g6⟩
     · left
       refine ⟨fun k p hk1 hk2 hp=> ?_,g2⟩
       by_cases e:k=m+1
       · subst e;exact h1 p (by omega) (by omega)
       · exact g1 k p (by omega) (by omega) hp
     · right
       refine ⟨k,p,by omega,by omega,g3,g4,fun j q hj1 hj2 hq=> ?_,g6⟩
       by_cases e:j=m+1
       · subst e;exact h1 q (by omega) (by omega)
       · exact g5 j q (by omega) hj2 hq
   · rw [h4]
     simp only
     exact .inr ⟨m+1,p,by omega,by omega,by omega,h3,fun j q hj1 hj2 _=>absurd hj2 (by omega),rfl⟩
theorem circle_law {pts:Int} {bs:List Bound} (hok:SysOk pts bs):
 (circleX pts bs = []∧NoCircle bs)∨∃ p ws,p<pts.toNat∧IxOf bs (circleX pts bs) ws∧(circleX pts bs).length=ws.length∧ws ≠ []∧(∀ b∈ws,b∈bs)∧isWalk p ws p∧sumW ws<0∧∀ c vs,(∀ b∈vs,b∈bs)→isWalk c vs c→sumW vs<0→ws.length≤vs.length:=by
 have hp2:=hok.p2
 have hp1:=hok.p1
 have hends:Ends pts.toNat bs:=fun b hb=>by
  have:=hok.b b hb
  constructor<;>omega
 have he:Ends 60 bs:=fun b hb=>by
  have:=hends b hb
  constructor<;>omega
 have hm:∀ b∈bs,b.most≤1000000:=fun b hb=>(hok.b b hb).2.2.2.2.2.2
 have hlow:∀ a ws,(∀ b∈ws,b∈bs)→isWalk a ws a→sumW ws<0→ws.length≤pts.toNat→a<pts.toNat∧0<ws.length∧closedS bs ws.length a<0:=fun a ws hs hw hneg hlen=>by
  cases ws with
  | nil=>exact absurd hneg (by simp [sumW])
  | cons b t=>
    have ha:a<pts.toNat:=by
     have:=(hends b (hs b List.mem_cons_self)).1
     rw [hw.1] at this;exact this
    refine ⟨ha,by simp,?_⟩
    have:=(iterW_inv he (show a<60 by omega) (b::t).length).low he hm (by omega) _ (Nat.le_refl _) (b::t) a rfl hs hw (by omega)
    unfold closedS
    omega
 have hshort:∀ (n:Nat) (a:Nat) (ws:List Bound),ws.length≤n→(∀ b∈ws,b∈bs)→isWalk a ws a→sumW ws<0→∃ c vs,(∀ b∈vs,b∈bs)∧isWalk c vs c∧sumW vs<0∧vs.length≤ws.length∧vs.length≤pts.toNat:=by
  intro n
  induction n with
  | zero=>
    intro a ws hl hs hw hneg
    have:ws = []:=List.eq_nil_of_length_eq_zero (by omega)
    subst this
    exact absurd hneg (by simp [sumW])
  | succ n ih=>
    intro a ws hl hs hw hneg
    by_cases hnd:(leaves ws).Nodup
    · have h1:=nodup_range hnd (n:=pts.toNat) (fun x hx=>by
       unfold leaves at hx
       obtain ⟨b,hb,rfl⟩:=List.mem_map.1 hx
       exact (hends b (hs b hb)).1)
      have h2:(leaves ws).length=ws.length:=by simp [leaves]
      exact ⟨a,ws,hs,hw,hneg,Nat.le_refl _,by omega⟩
    · obtain ⟨q,u,v,t,rfl,hv,ht,h1,h2,h3⟩:=walk_split hw hnd
      have hvl:0<v.length:=List.length_pos_iff.2 hv
      have htl:0<t.length:=List.length_pos_iff.2 ht
      rw [sumW_append,sumW_append] at hneg
      simp only [List.length_append] at hl
      by_cases hvn:sumW v<0
      · obtain ⟨c,vs,g1,g2,g3,g4,g5⟩:=ih q v (by omega) (fun b hb=>hs b (by simp [hb])) h2 hvn
        exact ⟨c,vs,g1,g2,g3,by simp only [List.length_append];omega,g5⟩
      · obtain ⟨c,vs,g1,g2,g3,g4,g5⟩:=ih a (u++t) (by rw [List.length_append];omega) (fun b hb=>hs b (by rcases List.mem_append.1 hb with hb|hb<;>simp [hb])) (isWalk_append.2 ⟨q,h1,h3⟩) (by rw [sumW_append];omega)
        exact ⟨c,vs,g1,g2,g3,by simp only [List.length_append] at g4 ⊢;omega,g5⟩
 have hsp:=cloop_law he (pts:=pts.toNat) (by omega) pts.toNat 0
 have hx:circleX pts bs=circleLoop bs pts.toNat ((List.range pts.toNat).map (iterW bs · 0)):=rfl
 rw [←hx] at hsp
 rcases hsp with ⟨h1,h2⟩|⟨k,p,h1,h2,h3,h4,h5,h6⟩
 · left
   refine ⟨h2,fun a ws hs hw=> ?_⟩
   apply Classical.byContradiction
   intro hneg
   obtain ⟨c,vs,g1,g2,g3,_,g5⟩:=hshort ws.length a ws (Nat.le_refl _) hs hw (by omega)
   obtain ⟨i1,i2,i3⟩:=hlow c vs g1 g2 g3 g5
   exact h1 vs.length c i2 (by omega) i1 i3
 · right
   have hinv:=iterW_inv he (show p<60 by omega) k
   have hbk:(iterW bs p k).back bs p=(backTo bs (iterW bs p k).last (k+1) (p:Int)).reverse:=by
    unfold Walks.back
    rw [hinv.ll]
   obtain ⟨ws,g1,g2,g3,g4,g5⟩:=hinv.back he k (Nat.le_refl _) (p:Int) (by omega) (by
    rw [Int.toNat_natCast]
    have h4':val ((iterW bs p k).sums.getD k []) p<0:=h4
    unfold noneV;omega)
   rw [Int.toNat_natCast] at g4 g5
   have h4':val ((iterW bs p k).sums.getD k []) p<0:=h4
   refine ⟨p,ws,h3,by rw [h6,hbk];exact g1,?_,fun e=>by rw [e] at g2;simp at g2;omega,g3,g4,by omega,fun c vs hs hw hneg=> ?_⟩
   · rw [h6,hbk]
     have:=congrArg List.length g1.1
     simpa using this
   · rw [g2]
     obtain ⟨c',vs',e1,e2,e3,e4,e5⟩:=hshort vs.length c vs (Nat.le_refl _) hs hw hneg
     obtain ⟨i1,i2,i3⟩:=hlow c' vs' e1 e2 e3 e5
     rcases Nat.lt_or_ge vs'.length k with hlt|hge
     · exact absurd i3 (h5 _ _ i2 hlt i1)
     · omega
theorem sumW_reverse:∀ ws:List Bound,sumW ws.reverse=sumW ws
 | []=>rfl
 | x::t=>by rw [List.reverse_cons,sumW_append,sumW_reverse t];simp only [sumW];omega
section
variable {pts:Int} {bs:List Bound} (hok:SysOk pts bs) (hs:solvedOk pts bs=true) {a b:Int} (a1:0≤a) (a2:a<pts) (b1:0≤b) (b2:b<pts)
include hok hs a1 a2 b1 b2
theorem gr_path (h:greatestR pts bs a b<noneV):∃ ws:List Bound,(∀ x∈ws,x∈bs)∧isWalk a.toNat ws b.toNat∧sumW ws=greatestR pts bs a b∧ws.length≤60:=by
 obtain ⟨is,ws,hc,hsum⟩:=path_law hok hs a1 a2 b1 b2 h
 have hp2:=hok.p2
 have he:=ends60 hok (from_len60 (a:=a))
 rw [from_len60] at he
 obtain ⟨h1,_,h3⟩:=hc.lens
 have h4:=hc.short he (by omega)
 refine ⟨ws.reverse,fun x hx=>h3 x (List.mem_reverse.1 hx),hc.walk,?_,by rw [List.length_reverse];omega⟩
 rw [←hsum]
 exact sumW_reverse ws
theorem gr_bound (h:greatestR pts bs a b<noneV): -60000000≤greatestR pts bs a b∧greatestR pts bs a b≤60000000:=by
 obtain ⟨ws,h1,h2,h3,h4⟩:=gr_path hok hs a1 a2 b1 b2 h
 have h5:=sumW_low (M:=1000000) (fun x hx=>(hok.b x hx).2.2.2.2.2.1) (by omega) h1
 have h6:=sumW_up (M:=1000000) (fun x hx=>(hok.b x hx).2.2.2.2.2.2) (by omega) h1
 omega
end
theorem gr_none {pts:Int} {bs:List Bound} (hok:SysOk pts bs) (_:solvedOk pts bs=true) {a b:Int} (a1:0≤a) (a2:a<pts) (_:0≤b) (_:b<pts):greatestR pts bs a b≤noneV:=by
 have:=from_le (bs:=bs) (a:=a) hok a1 a2 b.toNat
 have hp:=hok.p2
 rw [greatestR_val]
 unfold noneV at *
 split at this
 · omega
 · split at this<;>omega
theorem checkOut_zero {A:Outl} : checkOut A=0↔3≤A.n∧A.n≤16∧checkSys (A.n+1) A.ways=0∧checkSys A.n A.turns=0:=by
 unfold checkOut
 by_cases h:A.n<3∨16<A.n
 · rw [if_pos h]
   constructor
   · intro h;cases h
   · rintro ⟨h1,h2,_⟩;omega
 · rw [if_neg h]
   by_cases h2:checkSys (A.n+1) A.ways≠0
   · rw [if_pos h2]
     exact ⟨fun e=>absurd e h2,fun e=>e.2.2.1⟩
   · rw [if_neg h2]
     have h3:checkSys (A.n+1) A.ways=0:=by omega
     exact ⟨fun e=>⟨by omega,by omega,h3,e⟩,fun e=>e.2.2.2⟩
theorem ofB_iff {A:Outl} {s:Stretch} : ofB A s=true↔0≤s.lo∧s.lo<s.hi∧s.hi≤A.n:=by
 unfold ofB
 simp only [Bool.and_eq_true,decide_eq_true_eq]
structure PairOk (A B:Outl) (p:Pairing):Prop where
 a:checkOut A=0
 b:checkOut B=0
 a0:0≤p.a.lo
 a1:p.a.lo<p.a.hi
 a2:p.a.hi≤A.n
 b0:0≤p.b.lo
 b1:p.b.lo<p.b.hi
 b2:p.b.hi≤B.n
 k:p.a.hi-p.a.lo=p.b.hi-p.b.lo
theorem bothErr_zero {A B:Outl} : bothErr A B=0↔checkOut A=0∧checkOut B=0:=by
 unfold bothErr
 by_cases h:checkOut A≠0
 · rw [if_pos h];exact ⟨fun e=>absurd e h,fun e=>e.1⟩
 · rw [if_neg h];exact ⟨fun e=>⟨by omega,e⟩,fun e=>e.2⟩
theorem pairErr_zero {A B:Outl} {p:Pairing} : pairErr A B p=0↔PairOk A B p:=by
 unfold pairErr
 by_cases h:bothErr A B≠0
 · rw [if_pos h]
   exact ⟨fun e=>absurd e h,fun e=>bothErr_zero.2 ⟨e.a,e.b⟩⟩
 · rw [if_neg h]
   have hb:bothErr A B=0:=by omega
   obtain ⟨h1,h2⟩:=bothErr_zero.1 hb
   by_cases h3:ofB A p.a=false∨ofB B p.b=false
   · rw [if_pos h3]
     constructor
     · intro e;cases e
     · intro e
       have k1:=ofB_iff.2 ⟨e.a0,e.a1,e.a2⟩
       have k2:=ofB_iff.2 ⟨e.b0,e.b1,e.b2⟩
       rw [k1,k2] at h3
       rcases h3 with h3|h3<;>cases h3
   · rw [if_neg h3]
     rw [not_or,Bool.not_eq_false,Bool.not_eq_false,ofB_iff,ofB_iff] at h3
     by_cases h4:p.a.hi-p.a.lo≠p.b.hi-p.b.lo
     · rw [if_pos h4]
       constructor
       · intro e;cases e
       · intro e;exact absurd e.k h4
     · rw [if_neg h4]
       exact ⟨fun _=>⟨h1,h2,h3.1.1,h3.1.2.1,h3.1.2.2,h3.2.1,h3.2.2.1,h3.2.2.2,by omega⟩,fun _=>rfl⟩
structure AskOk (A B:Outl) (p:Pairing):Prop extends PairOk A B p where
 r1:A.ways.length+B.ways.length≤400
 r2:A.turns.length+B.turns.length≤400
theorem roomErr_zero {A B:Outl} : roomErr A B=0↔A.ways.length+B.ways.length≤400∧A.turns.length+B.turns.length≤400:=by
 unfold roomErr
 by_cases h:400<A.ways.length+B.ways.length∨400<A.turns.length+B.turns.length
 · rw [if_pos h]
   constructor
   · intro e;cases e
   · intro e;omega
 · rw [if_neg h]
   exact ⟨fun _=>by omega,fun _=>rfl⟩
theorem askedErr_zero {A B:Outl} {p:Pairing} : askedErr A B p=0↔AskOk A B p:=by
 unfold askedErr
 by_cases h:pairErr A B p≠0
 · rw [if_pos h]
   exact ⟨fun e=>absurd e h,fun e=>pairErr_zero.2 e.toPairOk⟩
 · rw [if_neg h]
   have h1:PairOk A B p:=pairErr_zero.1 (by omega)
   rw [roomErr_zero]
   exact ⟨fun e=>⟨h1,e.1,e.2⟩,fun e=>⟨e.r1,e.r2⟩⟩
section
variable {A B:Outl} {p:Pairing}
theorem AskOk.ways_sys (h:AskOk A B p):checkSys (waysN A B p) (waysB A B p)=0:=by
 obtain ⟨h1,h2,h3,h4⟩:=checkOut_zero.1 h.a
 obtain ⟨g1,g2,g3,g4⟩:=checkOut_zero.1 h.b
 have k:=h.k
 have a2:=h.a2
 have b1:=h.b1
 have b2:=h.b2
 exact joint_ok h.b0 (by omega) (by omega) h.a0 (by omega) h3 g3 true h.r1 (by omega)
theorem AskOk.dirs_sys (h:AskOk A B p):checkSys (dirsN A B p) (dirsB A B p)=0:=by
 obtain ⟨h1,h2,h3,h4⟩:=checkOut_zero.1 h.a
 obtain ⟨g1,g2,g3,g4⟩:=checkOut_zero.1 h.b
 have k:=h.k
 have a2:=h.a2
 have b1:=h.b1
 have b2:=h.b2
 exact joint_ok h.b0 (by omega) (by omega) h.a0 (by omega) h4 g4 false h.r2 (by omega)
def WaysF (A B:Outl) (p:Pairing) (f g:Int→Int):Prop:=KeepsF A.ways f∧KeepsF B.ways g∧AgreeF p.b.lo p.b.hi p.a.lo true f g
def DirsF (A B:Outl) (p:Pairing) (f g:Int→Int):Prop:=KeepsF A.turns f∧KeepsF B.turns g∧AgreeF p.b.lo (p.b.hi-1) p.a.lo false f g
def turnP (p:Pairing):Pairing:=⟨p.b,p.a⟩
theorem AskOk.turn (h:AskOk A B p):AskOk B A (turnP p):=
 ⟨⟨h.b,h.a,h.b0,h.b1,h.b2,h.a0,h.a1,h.a2,h.k.symm⟩,by have:=h.r1;omega,by have:=h.r2;omega⟩
theorem WaysF.turn (h:AskOk A B p) {f g:Int→Int} (w:WaysF A B p f g):WaysF B A (turnP p) g f:=by
 refine ⟨w.2.1,w.1,fun i hi hi2=> ?_⟩
 have hk:=h.k
 have h1:p.a.lo≤i:=hi
 have h2:i≤p.a.hi:=hi2
 have:=w.2.2 (p.b.lo+p.a.hi-i) (by omega) (by omega)
 show f i=sgn true (g (p.b.lo+p.a.hi-i))
 rw [this,sgn_sgn]
 congr 1;omega
theorem DirsF.turn (h:AskOk A B p) {f g:Int→Int} (w:DirsF A B p f g):DirsF B A (turnP p) g f:=by
 refine ⟨w.2.1,w.1,fun i hi hi2=> ?_⟩
 have hk:=h.k
 have h1:p.a.lo≤i:=hi
 have h2:i≤p.a.hi-1:=hi2
 have:=w.2.2 (p.b.lo+(p.a.hi-1)-i) (by omega) (by omega)
 show f i=sgn false (g (p.b.lo+(p.a.hi-1)-i))
 rw [this,sgn_sgn]
 congr 1;omega
def backP (p:Pairing):Pairing:=⟨⟨p.a.lo,p.a.hi-1⟩,⟨p.b.lo+1,p.b.hi⟩⟩
theorem AskOk.back (h:AskOk A B p) (h2:2≤p.a.hi-p.a.lo):AskOk A B (backP p):=by
 have hk:=h.k
 have h3:=h.a0
 have h4:=h.a2
 have h5:=h.b0
 exact ⟨⟨h.a,h.b,h3,by show p.a.lo<p.a.hi-1;omega,by show p.a.hi-1≤A.n;omega,by show 0≤p.b.lo+1;omega,by show p.b.lo+1<p.b.hi;omega,h.b2,by show p.a.hi-1-p.a.lo=p.b.hi-(p.b.lo+1);omega⟩,h.r1,h.r2⟩
theorem AgreeF.part {low high at_ low' high' at_':Int} {back:Bool} {f g:Int→Int} (h:AgreeF low high at_ back f g) (h1:low≤low') (h2:high'≤high) (h3:at_+high=at_'+high'):AgreeF low' high' at_' back f g:=fun i hi hi2=>by
 rw [h i (by omega) (by omega)]
 congr 2;omega
end
open Go.RowKit Go.Proofs Go.Shelf
theorem inE_any (n low high:Int) (w:World):
 Calls Tryz.prog 69 #[.int .i64 n,.int .i64 low,.int .i64 high] w fun e w'=>e = .returned (.bool (inB n low high))∧w'=w:=by
 by_cases h:low≤n
 · go_enter Tryz.func69,Tryz.ntmps69
   go_wp2
   go_ret
   exact ⟨by simp [inB,h],rfl⟩
 · go_enter Tryz.func69,Tryz.ntmps69
   go_wp2
   go_ret
   exact ⟨by simp [inB];omega,rfl⟩
theorem waysE_any (n:Int) (WA:Option Addr) (wn wc:Nat) (TA:Option Addr) (tn tc:Nat) (w:World) (h1: -1000≤n) (h2:n≤1000):
 Calls Tryz.prog 43 #[.agg #[.int .i64 n,.slice WA wn wc,.slice TA tn tc]] w fun e w'=>e = .returned (.agg #[.int .i64 (n+1),.slice WA wn wc])∧Below w.heap.size w w':=by
 have hw:IntKind.i64.wrap (n+1)=n+1:=(by rw [IntKind.wrap_i64];omega)
 go_enter Tryz.func43,Tryz.ntmps43
 go_wp2
 exact bodyPost_ret (v:=.agg #[.int .i64 (n+1),.slice WA wn wc]) (by simp [results,Tryz.results43,go_sem]) rfl ⟨rfl,((Below.refl _ _).alloc (Nat.le_refl _) _).alloc (by simp) _⟩
theorem turnsE_any (n:Int) (WA:Option Addr) (wn wc:Nat) (TA:Option Addr) (tn tc:Nat) (w:World):
 Calls Tryz.prog 44 #[.agg #[.int .i64 n,.slice WA wn wc,.slice TA tn tc]] w fun e w'=>e = .returned (.agg #[.int .i64 n,.slice TA tn tc])∧Below w.heap.size w w':=by
 go_enter Tryz.func44,Tryz.ntmps44
 go_wp2
 exact bodyPost_ret (v:=.agg #[.int .i64 n,.slice TA tn tc]) (by simp [results,Tryz.results44,go_sem]) rfl ⟨rfl,((Below.refl _ _).alloc (Nat.le_refl _) _).alloc (by simp) _⟩
theorem box3 {w:World} {v0 v1 v2:Value} {t:TypeId} {W:World} (hb:Below (w.alloc (.cells #[v0,v1,v2] t)).heap.size (w.alloc (.cells #[v0,v1,v2] t)) W):W.cell? ⟨w.heap.size,0,none⟩=some v0∧W.cell? ⟨w.heap.size,1,none⟩=some v1∧W.cell? ⟨w.heap.size,2,none⟩=some v2:=by
 have h:=(hb.block w.heap.size (by simp)).trans (heap_alloc_new w (.cells #[v0,v1,v2] t))
 simp [World.cell?,h]
theorem CheckOutline_any (A:Outl) (AwA:Option Addr) (Awn Awc:Nat) (AtA:Option Addr) (Atn Atc:Nat) (w:World) (Aw:Rd encBound 4 w AwA Awn Awc A.ways) (At:Rd encBound 4 w AtA Atn Atc A.turns):
 Calls Tryz.prog 39 #[.agg #[.int .i64 A.n,.slice AwA Awn Awc,.slice AtA Atn Atc]] w fun e w'=>e = .returned (.int .i64 (checkOut A))∧Below w.heap.size w w':=by
 by_cases hin:3≤A.n∧A.n≤16
 case neg=>
  have hi:inB A.n 3 16=false:=by simp [inB];omega
  have hv:checkOut A=1:=by unfold checkOut;rw [if_pos (by omega)]
  rw [hv]
  clear hin hv Aw At
  go_enter Tryz.func39,Tryz.ntmps39
  go_wp2_with (go_at_call 69;(with_reducible refine (inE_any _ _ _ _).mono ?_);rintro e w2 ⟨rfl,rfl⟩;rw [hi])
  go_ret
  exact ⟨rfl,(Below.refl _ _).alloc (Nat.le_refl _) _⟩
 case pos=>
  have hi:inB A.n 3 16=true:=by simp [inB];omega
  have hv:checkOut A=if checkSys (A.n+1) A.ways≠0 then checkSys (A.n+1) A.ways else checkSys A.n A.turns:=by unfold checkOut;rw [if_neg (by omega)]
  rw [hv]
  obtain ⟨w1,hw1⟩:∃ w1,w.alloc (.cells #[.int .i64 A.n,.slice AwA Awn Awc,.slice AtA Atn Atc] 35)=w1:=⟨_,rfl⟩
  have hb1:Below w.heap.size w w1:=(by rw [←hw1];exact (Below.refl _ w).alloc (Nat.le_refl _) _)
  have KC:Hid (∀ W,Below w1.heap.size w1 W→W.cell? ⟨w.heap.size,0,none⟩=some (.int .i64 A.n)∧W.cell? ⟨w.heap.size,1,none⟩=some (.slice AwA Awn Awc)∧W.cell? ⟨w.heap.size,2,none⟩=some (.slice AtA Atn Atc)):=(show ∀ W,_→_ from by
   intro W hb
   rw [←hw1] at hb
   exact box3 hb)
  have KW:=Lib.hid (fun W (h:Below w1.heap.size w1 W)=>CheckSystem_any (A.n+1) AwA Awn Awc A.ways W ((Aw.below hb1 (Nat.le_refl _)).below h (Nat.le_refl _)))
  have KT:=Lib.hid (fun W (h:Below w1.heap.size w1 W)=>CheckSystem_any A.n AtA Atn Atc A.turns W ((At.below hb1 (Nat.le_refl _)).below h (Nat.le_refl _)))
  have KV:=Lib.hid (fun W=>waysE_any A.n AwA Awn Awc AtA Atn Atc W (by omega) (by omega))
  obtain ⟨c0,c1,c2⟩:=KC.out w1 (Below.refl _ _)
  have HB1:=Lib.hid hb1
  have HB11:=Lib.hid (Below.refl w1.heap.size w1)
  obtain ⟨s1,hs1⟩:∃ s1,checkSys (A.n+1) A.ways=s1:=⟨_,rfl⟩
  obtain ⟨s2,hs2⟩:∃ s2,checkSys A.n A.turns=s2:=⟨_,rfl⟩
  rw [hs1] at KW ⊢
  rw [hs2] at KT ⊢
  clear hin hv Aw At hs1 hs2 hb1
  by_cases h1:s1=0
  · subst h1
    rw [if_neg (fun h=>h rfl)]
    go_enter Tryz.func39,Tryz.ntmps39
    go_wp2_with (first
     | (go_at_call 69;(with_reducible refine (inE_any _ _ _ _).mono ?_);rintro e w2 ⟨rfl,rfl⟩;rw [hi])
     | (go_at_call 43;(with_reducible refine (KV.out _).mono ?_);rintro e w2 ⟨rfl,hb2⟩;have HB2:=Lib.hid hb2;clear hb2)
     | (go_at_call 70;(with_reducible refine (KW.out _ HB2.out).mono ?_);rintro e w3 ⟨rfl,hb3⟩
        have HB3:=Lib.hid (HB2.out.trans (hb3.mono HB2.out.size))
        obtain ⟨d0,d1,d2⟩:=KC.out w3 HB3.out
        clear hb3)
     | (go_at_call 44;(with_reducible refine (turnsE_any _ _ _ _ _ _ _ _).mono ?_);rintro e w4 ⟨rfl,hb4⟩;have HB4:=Lib.hid (HB3.out.trans (hb4.mono HB3.out.size));clear hb4)
     | (go_at_call 70;(with_reducible refine (KT.out _ HB4.out).mono ?_);rintro e w5 ⟨rfl,hb5⟩;have HB5:=Lib.hid (HB4.out.trans (hb5.mono HB4.out.size));clear hb5))
    go_ret
    exact ⟨rfl,HB1.out.trans (HB5.out.mono HB1.out.size)⟩
  · have h1':(s1 != 0)=true:=by simpa using h1
    rw [if_pos h1]
    clear h1
    go_enter Tryz.func39,Tryz.ntmps39
    go_wp2_with (first
     | (go_at_call 69;(with_reducible refine (inE_any _ _ _ _).mono ?_);rintro e w2 ⟨rfl,rfl⟩;rw [hi])
     | (go_at_call 43;(with_reducible refine (KV.out _).mono ?_);rintro e w2 ⟨rfl,hb2⟩;have HB2:=Lib.hid hb2;clear hb2)
     | (go_at_call 70;(with_reducible refine (KW.out _ HB2.out).mono ?_);rintro e w3 ⟨rfl,hb3⟩;have HB3:=Lib.hid (HB2.out.trans (hb3.mono HB2.out.size));clear hb3))
    go_ret
    exact ⟨rfl,HB1.out.trans (HB3.out.mono HB1.out.size)⟩
theorem ofE_any (A:Outl) (AwA:Option Addr) (Awn Awc:Nat) (AtA:Option Addr) (Atn Atc:Nat) (s:Stretch) (w:World):
 Calls Tryz.prog 92 #[.agg #[.int .i64 A.n,.slice AwA Awn Awc,.slice AtA Atn Atc],.agg #[.int .i64 s.lo,.int .i64 s.hi]] w fun e w'=>e = .returned (.bool (ofB A s))∧Below w.heap.size w w':=by
 have hv:ofB A s=(decide (0≤s.lo)&&(decide (s.lo<s.hi)&&decide (s.hi≤A.n))):=rfl
 rw [hv]
 clear hv
 by_cases h1:0≤s.lo<;>by_cases h2:s.lo<s.hi
 all_goals
  go_enter Tryz.func92,Tryz.ntmps92
  go_wp2
  go_ret
  exact ⟨by first|(simp [h1,h2];done)|(simp;omega)|(simp;omega),((Below.refl _ _).alloc (Nat.le_refl _) _).alloc (by simp) _⟩
theorem bothE_any (A:Outl) (AwA:Option Addr) (Awn Awc:Nat) (AtA:Option Addr) (Atn Atc:Nat) (B:Outl) (BwA:Option Addr) (Bwn Bwc:Nat) (BtA:Option Addr) (Btn Btc:Nat) (w:World) (Aw:Rd encBound 4 w AwA Awn Awc A.ways) (At:Rd encBound 4 w AtA Atn Atc A.turns) (Bw:Rd encBound 4 w BwA Bwn Bwc B.ways) (Bt:Rd encBound 4 w BtA Btn Btc B.turns):
 Calls Tryz.prog 64 #[.agg #[.int .i64 A.n,.slice AwA Awn Awc,.slice AtA Atn Atc],.agg #[.int .i64 B.n,.slice BwA Bwn Bwc,.slice BtA Btn Btc]] w fun e w'=>e = .returned (.int .i64 (bothErr A B))∧Below w.heap.size w w':=by
 obtain ⟨s1,hs1⟩:∃ s1,checkOut A=s1:=⟨_,rfl⟩
 obtain ⟨s2,hs2⟩:∃ s2,checkOut B=s2:=⟨_,rfl⟩
 have hv:bothErr A B=if s1≠0 then s1 else s2:=by unfold bothErr;rw [hs1,hs2]
 rw [hv]
 obtain ⟨w1,hw1⟩:∃ w1,(w.alloc (.cells #[.int .i64 A.n,.slice AwA Awn Awc,.slice AtA Atn Atc] 35)).alloc (.cells #[.int .i64 B.n,.slice BwA Bwn Bwc,.slice BtA Btn Btc] 35)=w1:=⟨_,rfl⟩
 have hb1:Below w.heap.size w w1:=(by rw [←hw1];exact ((Below.refl _ w).alloc (Nat.le_refl _) _).alloc (by simp) _)
 have KB:Hid (∀ W,Below w1.heap.size w1 W→W.cell? ⟨w.heap.size+1,0,none⟩=some (.int .i64 B.n)∧W.cell? ⟨w.heap.size+1,1,none⟩=some (.slice BwA Bwn Bwc)∧W.cell? ⟨w.heap.size+1,2,none⟩=some (.slice BtA Btn Btc)):=(show ∀ W,_→_ from by
  intro W hb
  rw [←hw1] at hb
  have:=box3 hb
  simpa using this)
 obtain ⟨a0,a1,a2⟩:w1.cell? ⟨w.heap.size,0,none⟩=some (.int .i64 A.n)∧w1.cell? ⟨w.heap.size,1,none⟩=some (.slice AwA Awn Awc)∧w1.cell? ⟨w.heap.size,2,none⟩=some (.slice AtA Atn Atc):=(by
  rw [←hw1]
  exact box3 ((Below.refl _ _).alloc (Nat.le_refl _) _))
 have K1:=Lib.hid (fun W (h:Below w1.heap.size w1 W)=>CheckOutline_any A AwA Awn Awc AtA Atn Atc W ((Aw.below hb1 (Nat.le_refl _)).below h (Nat.le_refl _)) ((At.below hb1 (Nat.le_refl _)).below h (Nat.le_refl _)))
 have K2:=Lib.hid (fun W (h:Below w1.heap.size w1 W)=>CheckOutline_any B BwA Bwn Bwc BtA Btn Btc W ((Bw.below hb1 (Nat.le_refl _)).below h (Nat.le_refl _)) ((Bt.below hb1 (Nat.le_refl _)).below h (Nat.le_refl _)))
 rw [hs1] at K1
 rw [hs2] at K2
 have HB1:=Lib.hid hb1
 have HB11:=Lib.hid (Below.refl w1.heap.size w1)
 have HW1:=Lib.hid hw1
 clear Aw At Bw Bt hs1 hs2 hv hb1 hw1
 by_cases h1:s1=0
 · subst h1
   rw [if_neg (fun h=>h rfl)]
   go_enter Tryz.func64,Tryz.ntmps64
   go_wp2_with (first
    | rw [HW1.out]
    | (go_at_call 39;(with_reducible refine (K1.out _ HB11.out).mono ?_);rintro e w2 ⟨rfl,hb2⟩
       clear a0 a1 a2
       have HB2:=Lib.hid hb2
       obtain ⟨d0,d1,d2⟩:=KB.out w2 hb2
       clear hb2)
    | (go_at_call 39;(with_reducible refine (K2.out _ HB2.out).mono ?_);rintro e w3 ⟨rfl,hb3⟩;have HB3:=Lib.hid (HB2.out.trans (hb3.mono HB2.out.size));clear hb3))
   go_ret
   exact ⟨rfl,HB1.out.trans (HB3.out.mono HB1.out.size)⟩
 · have h1':(s1 != 0)=true:=by simpa using h1
   rw [if_pos h1]
   clear h1
   go_enter Tryz.func64,Tryz.ntmps64
   go_wp2_with (first
    | rw [HW1.out]
    | (go_at_call 39;(with_reducible refine (K1.out _ HB11.out).mono ?_);rintro e w2 ⟨rfl,hb2⟩;have HB2:=Lib.hid hb2;clear hb2))
   go_ret
   exact ⟨rfl,HB1.out.trans (HB2.out.mono HB1.out.size)⟩
theorem room_any (A:Outl) (AwA:Option Addr) (Awn Awc:Nat) (AtA:Option Addr) (Atn Atc:Nat) (B:Outl) (BwA:Option Addr) (Bwn Bwc:Nat) (BtA:Option Addr) (Btn Btc:Nat) (w:World) (Aw:Rd encBound 4 w AwA Awn Awc A.ways) (At:Rd encBound 4 w AtA Atn Atc A.turns) (Bw:Rd encBound 4 w BwA Bwn Bwc B.ways) (Bt:Rd encBound 4 w BtA Btn Btc B.turns):
 Calls Tryz.prog 59 #[.agg #[.int .i64 A.n,.slice AwA Awn Awc,.slice AtA Atn Atc,.int .i64 B.n,.slice BwA Bwn Bwc,.slice BtA Btn Btc]] w fun e w'=>e = .returned (.int .i64 (roomErr A B))∧Below w.heap.size w w':=by
 have l1:=Aw.len;have l2:=At.len;have l3:=Bw.len;have l4:=Bt.len
 have b1:=Aw.big;have b2:=At.big;have b3:=Bw.big;have b4:=Bt.big
 have w1:IntKind.i64.wrap ((Awn:Int)+(Bwn:Int))=(Awn:Int)+(Bwn:Int):=(by rw [IntKind.wrap_i64];omega)
 have w2:IntKind.i64.wrap ((Atn:Int)+(Btn:Int))=(Atn:Int)+(Btn:Int):=(by rw [IntKind.wrap_i64];omega)
 have hv:roomErr A B=if 400<Awn+Bwn∨400<Atn+Btn then 2 else 0:=by unfold roomErr;rw [l1,l2,l3,l4]
 rw [hv]
 clear Aw At Bw Bt l1 l2 l3 l4 hv
 by_cases hc:400<Awn+Bwn∨400<Atn+Btn
 · rw [if_pos hc]
   have hm:decide (max ((Awn:Int)+Bwn) ((Atn:Int)+Btn)>400)=true:=decide_eq_true (by omega)
   clear hc b1 b2 b3 b4
   go_enter Tryz.func59,Tryz.ntmps59
   go_wp2
   go_ret
   exact ⟨rfl,(Below.refl _ _).alloc (Nat.le_refl _) _⟩
 · rw [if_neg hc]
   have hm:decide (max ((Awn:Int)+Bwn) ((Atn:Int)+Btn)>400)=false:=decide_eq_false (by omega)
   clear hc b1 b2 b3 b4
   go_enter Tryz.func59,Tryz.ntmps59
   go_wp2
   go_ret
   exact ⟨rfl,(Below.refl _ _).alloc (Nat.le_refl _) _⟩
end Go.Proofs.YtpmkgmilfifkpaaGreatDoor
end
section
namespace Go.Proofs.YtpmkgmilfifkpaaGreatDoor
open Go.RowKit Go.Proofs
section
variable {P:Program} {α:Type} {enc:α→List Value} {k bytes n c:Nat} {t e:TypeId} {w:World} {A:Option Addr} {xs:List α}
theorem Rd.flat {ad:Addr} (h:Rd enc k w (some ad) n c xs) (hk:∀ x,(enc x).length=k) (hkp:0<k):∀ j u,(xs.flatMap enc)[j]? = some u→w.cell? (ad.add j)=some u:=by
 intro j u hu
 have hlen:(xs.flatMap enc).length=n * k:=by rw [flatMap_len hk,h.len]
 have hj:j<n * k:=by rw [←hlen];exact (List.getElem?_eq_some_iff.1 hu).1
 have hn:0<n:=by
  rcases Nat.eq_zero_or_pos n with h0|h0
  · subst h0;omega
  · exact h0
 obtain ⟨b,off,hb,hlt,hc⟩:=h.at_ hn
 injection hb with hb
 subst hb
 rw [add_lit]
 have hjk:j / k<xs.length:=by rw [h.len];exact Nat.div_lt_of_lt_mul (by rw [Nat.mul_comm];exact hj)
 have hx:xs[j / k]? = some (xs[j / k]):=List.getElem?_eq_getElem hjk
 have hm:j % k<k:=Nat.mod_lt _ hkp
 have hu':(enc (xs[j / k]))[j % k]? = some u:=by
  have h2:j % k<(enc (xs[j / k])).length:=by rw [hk];exact hm
  have h3:=flatMap_at hk xs _ _ hx (j % k) _ (List.getElem?_eq_getElem h2)
  rw [Nat.mul_comm,Nat.div_add_mod,hu] at h3
  rw [List.getElem?_eq_getElem h2];exact h3.symm
 have:=hc _ _ hx (j % k) u hu'
 rw [Nat.add_assoc,Nat.mul_comm,Nat.div_add_mod] at this
 exact this
theorem wpList_append_full {ops:Array Oper} {rest:List Oper} {o:Oper} {a:Act} {Q:Exit→Act→World→Prop} (E:ElemT P t e k bytes) (hk:∀ x,(enc x).length=k) (h1:∀ x,∀ u∈enc x,u.oneCell'=true) (hgd:o.guard=none) (s x:Operand)
 (ho:o.op = .call { callee:=.builtin .append,args:=#[s,x],argTypes:=#[t,t] }) (ad:Addr) (m c2:Nat) (ys:List α) (hs:a.eval s = .slice A n n) (hx:a.eval x = .slice (some ad) m c2)
 (hsrc:Rd enc k w A n c xs) (hrd:Rd enc k w (some ad) m c2 ys) (hm:0<m) (hbytes:(n+m) * bytes≤140737488355328) (hb8:1≤bytes)
 (h:∀ A' c' w',Own enc k e w.heap.size w' A' (n+m) c' (xs++ys)→w.grownBy w' none→wpList P ops Q rest (a.put o.dst (.slice A' (n+m) c')) w'):wpList P ops Q (o::rest) a w:=by
 obtain ⟨i,z,hi,hz0,hz1,hz2,hz3⟩:=E.info
 have hmax:n+m≤maxLen:=by
  have:(n+m) * 1≤(n+m) * bytes:=Nat.mul_le_mul_left _ hb8
  unfold maxLen;omega
 refine wpList_append_grows w hgd s x t ho e i z k bytes E.slice hi hz0 hz1 hz2 hz3 E.pos A n n (xs.flatMap enc) hs (fun hA=> ?_) (by rw [flatMap_len hk,hsrc.len]) (fun b hb=> ?_) ad m c2 (ys.flatMap enc) hx (by rw [flatMap_len hk,hrd.len]) (hrd.flat hk E.pos) (fun u hu=> ?_) (by omega) hmax hbytes fun v' w' r1 r2=> ?_
 · rcases Nat.eq_zero_or_pos n with h0|h0
   · exact ⟨h0,h0⟩
   · obtain ⟨b,off,hb,_⟩:=hsrc.at_ h0
     rw [hA] at hb;cases hb
 · subst hb
   exact hsrc.flat hk E.pos
 · obtain ⟨y,_,hy⟩:=List.mem_flatMap.1 hu
   exact h1 y u hy
 · have hv:∃ A' c',v' = .slice A' (n+m) c':=by
    rcases r1.2 with ⟨h,h0⟩|⟨g,cap,cur,h,_⟩
    · exact ⟨none,0,by rw [h];simp [h0]⟩
    · exact ⟨_,_,h⟩
   obtain ⟨A',c',rfl⟩:=hv
   exact h A' c' w' ⟨by rw [List.length_append,hsrc.len,hrd.len],by rw [List.flatMap_append];exact r1⟩ r2
end
end Go.Proofs.YtpmkgmilfifkpaaGreatDoor
end

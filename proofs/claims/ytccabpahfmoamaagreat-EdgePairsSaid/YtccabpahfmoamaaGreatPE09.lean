/- Contracts that the laws lean on: Walk, Bnd, Bell3, PthP, Mem2, Rowm. -/
import Derived.Test.YtccabpahfmoamaaGreatPE08
import Derived.Deep.MidRow
import Derived.Great.BuildSlice
section
namespace Go.Proofs.YtccabpahfmoamaaGreat
def isWalk:Nat→List Bound→Nat→Prop
 | a,[],p=>a=p
 | a,b::t,p=>b.src.toNat=a∧isWalk b.dst.toNat t p
def sumW:List Bound→Int
 | []=>0
 | b::t=>b.most+sumW t
theorem sumW_append:∀ u v:List Bound,sumW (u++v)=sumW u+sumW v
 | [],v=>by simp [sumW]
 | b::u,v=>by simp [sumW,sumW_append u v];omega
theorem isWalk_append:∀ {a p:Nat} {u v:List Bound},isWalk a (u++v) p ↔ ∃ q,isWalk a u q∧isWalk q v p
 | a,p,[],v=>by simp [isWalk]
 | a,p,b::u,v=>by
   have ih:= @isWalk_append b.dst.toNat p u v
   simp only [List.cons_append,isWalk,ih]
   constructor
   · rintro ⟨h,q,h1,h2⟩;exact ⟨q,⟨h,h1⟩,h2⟩
   · rintro ⟨q,⟨h,h1⟩,h2⟩;exact ⟨h,q,h1,h2⟩
theorem isWalk_sum {y:Nat→Int} :∀ {a p:Nat} {ws:List Bound},(∀ b∈ws,y b.dst.toNat≤y b.src.toNat+b.most)→isWalk a ws p→y p≤y a+sumW ws
 | a,p,[],_,h=>by cases h;simp [sumW]
 | a,p,b::t,hy,⟨h1,h2⟩=>by
   have ih:=isWalk_sum (fun c hc=>hy c (List.mem_cons_of_mem _ hc)) h2
   have:=hy b List.mem_cons_self
   rw [h1] at this
   simp only [sumW]
   omega
theorem sumW_low {bs ws:List Bound} {M:Int} (hm:∀ b∈bs,-M≤b.most) (_:0≤M) (hs:∀ b∈ws,b∈bs): -(M * ws.length)≤sumW ws:=by
 induction ws with
 | nil=>simp [sumW]
 | cons b t ih=>
   have h1:=hm b (hs b List.mem_cons_self)
   have h2:=ih (fun c hc=>hs c (List.mem_cons_of_mem _ hc))
   simp only [sumW,List.length_cons,Int.natCast_add,Int.mul_add]
   omega
def leaves (ws:List Bound):List Nat:=ws.map (fun b=>b.src.toNat)
theorem not_nodup_split {α:Type} :∀ {l:List α},¬l.Nodup→∃ x u v t,l=u++x::v++x::t
 | [],h=>absurd List.nodup_nil h
 | a::l,h=>by
   by_cases hm:a∈l
   · obtain ⟨v,t,rfl⟩:=List.append_of_mem hm
     exact ⟨a,[],v,t,by simp⟩
   · have:¬l.Nodup:=fun hn=>h (List.nodup_cons.2 ⟨hm,hn⟩)
     obtain ⟨x,u,v,t,rfl⟩:=not_nodup_split this
     exact ⟨x,a::u,v,t,by simp⟩
theorem walk_split {a p:Nat} {ws:List Bound} (hw:isWalk a ws p) (h:¬(leaves ws).Nodup):∃ q u v t,ws=u++v++t∧v ≠ []∧t ≠ []∧isWalk a u q∧isWalk q v q∧isWalk q t p:=by
 obtain ⟨x,u,v,t,e⟩:=not_nodup_split h
 unfold leaves at e
 obtain ⟨uv,t',rfl,e1,e2⟩:=List.map_eq_append_iff.1 e
 obtain ⟨u',v',rfl,e3,e4⟩:=List.map_eq_append_iff.1 e1
 obtain ⟨b,v'',rfl,hb,_⟩:=List.map_eq_cons_iff.1 e4
 obtain ⟨c,t'',rfl,hc,_⟩:=List.map_eq_cons_iff.1 e2
 obtain ⟨q2,h1,h2⟩:=isWalk_append.1 hw
 obtain ⟨q1,h3,h4⟩:=isWalk_append.1 h1
 have a1:q1=x:=h4.1.symm.trans hb
 have a2:q2=x:=h2.1.symm.trans hc
 subst a1
 subst a2
 exact ⟨q2,u',b::v'',c::t'',rfl,by simp,by simp,h3,h4,h2⟩
theorem walk_split2 {a p:Nat} {ws:List Bound} (hw:isWalk a ws p) (h:¬(leaves ws ++ [p]).Nodup):∃ q u v t,ws=u++v++t∧v ≠ []∧isWalk a u q∧isWalk q v q∧isWalk q t p:=by
 by_cases h1:(leaves ws).Nodup
 · have hp:p∈leaves ws:=by
    apply Classical.byContradiction
    intro hp
    exact h (List.nodup_append.2 ⟨h1,by simp,fun x hx y hy e=>by
     have:y=p:=by simpa using hy
     subst this;subst e;exact hp hx⟩)
   unfold leaves at hp
   obtain ⟨b,hb,hbp⟩:=List.mem_map.1 hp
   obtain ⟨u,v,rfl⟩:=List.append_of_mem hb
   obtain ⟨q,h3,h4⟩:=isWalk_append.1 hw
   have:q=p:=h4.1.symm.trans hbp
   subst this
   exact ⟨q,u,b::v,[],by simp,by simp,h3,h4,rfl⟩
 · obtain ⟨q,u,v,t,e,e1,_,e3⟩:=walk_split hw h1
   exact ⟨q,u,v,t,e,e1,e3⟩
theorem nodup_range {n:Nat} {l:List Nat} (hn:l.Nodup) (h:∀ x∈l,x<n):l.length≤n:=by
 have:=len_le_of_sub l (List.range n) hn (fun q hq=>List.mem_range.2 (h q hq))
 simpa using this
def NoCircle (bs:List Bound):Prop:=∀ a ws,(∀ b∈ws,b∈bs)→isWalk a ws a→0≤sumW ws
theorem walkIn {n:Nat} {bs:List Bound} (he:Ends n bs):∀ {a p:Nat} {ws:List Bound},(∀ b∈ws,b∈bs)→isWalk a ws p→a<n→p<n
 | a,p,[],_,h,ha=>by cases h;exact ha
 | a,p,b::t,hs,⟨h1,h2⟩,ha=>walkIn he (fun c hc=>hs c (List.mem_cons_of_mem _ hc)) h2 (he b (hs b List.mem_cons_self)).2
theorem shorten {n:Nat} {bs:List Bound} (he:Ends n bs) (hno:NoCircle bs):∀ (m a p:Nat) (ws:List Bound),ws.length≤m→a<n→(∀ b∈ws,b∈bs)→isWalk a ws p→∃ vs,vs.length<n∧(∀ b∈vs,b∈bs)∧isWalk a vs p∧sumW vs≤sumW ws
 | m,a,p,ws,hm,ha,hs,hw=>by
   by_cases h:(leaves ws ++ [p]).Nodup
   · have hl:=nodup_range h (n:=n) (fun x hx=>by
      rcases List.mem_append.1 hx with hx|hx
      · unfold leaves at hx
        obtain ⟨b,hb,rfl⟩:=List.mem_map.1 hx
        exact (he b (hs b hb)).1
      · have:x=p:=by simpa using hx
        subst this
        exact walkIn he hs hw ha)
     have:(leaves ws).length=ws.length:=by simp [leaves]
     simp only [List.length_append,List.length_cons,List.length_nil] at hl
     exact ⟨ws,by omega,hs,hw,Int.le_refl _⟩
   · obtain ⟨q,u,v,t,rfl,hv,h1,h2,h3⟩:=walk_split2 hw h
     have hvl:0<v.length:=List.length_pos_iff.2 hv
     have hsv:0≤sumW v:=hno q v (fun b hb=>hs b (by simp [hb])) h2
     cases m with
     | zero=>rw [List.length_append,List.length_append] at hm;omega
     | succ m=>
       obtain ⟨vs,a1,a2,a3,a4⟩:=shorten he hno m a p (u++t) (by simp at hm ⊢;omega) ha (fun b hb=>hs b (by
        rcases List.mem_append.1 hb with hb|hb<;>simp [hb])) (isWalk_append.2 ⟨q,h1,h3⟩)
       refine ⟨vs,a1,a2,a3,?_⟩
       rw [sumW_append] at a4
       rw [sumW_append,sumW_append]
       omega
theorem int_least {P:Int→Prop} {B:Int} (hB:∀ x,P x→B≤x):∀ (m:Nat) (x:Int),P x→(x-B).toNat≤m→∃ y,P y∧∀ z,P z→y≤z
 | m,x,hx,hm=>by
   by_cases h:∃ z,P z∧z<x
   · obtain ⟨z,hz,hlt⟩:=h
     have:=hB z hz
     cases m with
     | zero=>omega
     | succ m=>exact int_least hB m z hz (by omega)
   · exact ⟨x,hx,fun z hz=>by
      apply Classical.byContradiction
      intro hn
      exact h ⟨z,hz,by omega⟩⟩
theorem solution_of {n:Nat} {bs:List Bound} (he:Ends n bs) {M:Int} (hM:0≤M) (hm:∀ b∈bs,-M≤b.most) (hno:NoCircle bs):∃ y:Nat→Int,(∀ b∈bs,y b.dst.toNat≤y b.src.toNat+b.most)∧∀ p,p<n→ -(M * n)≤y p∧y p≤0:=by
 have hB:∀ (p:Nat) (x:Int),(∃ a ws,a<n∧(∀ b∈ws,b∈bs)∧isWalk a ws p∧sumW ws=x)→ -(M * n)≤x:=fun p x hx=>by
  obtain ⟨a,ws,h1,h2,h3,rfl⟩:=hx
  obtain ⟨vs,a1,a2,_,a4⟩:=shorten he hno ws.length a p ws (Nat.le_refl _) h1 h2 h3
  have h5:=sumW_low hm hM a2
  have h6:M * (vs.length:Int)≤M * (n:Int):=Int.mul_le_mul_of_nonneg_left (by omega) hM
  omega
 have key:∀ p:Nat,∃ y:Int,p<n→(∃ a ws,a<n∧(∀ b∈ws,b∈bs)∧isWalk a ws p∧sumW ws=y)∧∀ a ws,a<n→(∀ b∈ws,b∈bs)→isWalk a ws p→y≤sumW ws:=fun p=>by
  by_cases hp:p<n
  · obtain ⟨y,h1,h2⟩:=int_least (hB p) _ 0 ⟨p,[],hp,by simp,rfl,rfl⟩ (Nat.le_refl _)
    exact ⟨y,fun _=>⟨h1,fun a ws ha hs hw=>h2 _ ⟨a,ws,ha,hs,hw,rfl⟩⟩⟩
  · exact ⟨0,fun h=>absurd h hp⟩
 refine ⟨fun p=>Classical.choose (key p),fun b hb=> ?_,fun p hp=> ?_⟩
 · obtain ⟨⟨a,ws,h1,h2,h3,h4⟩,_⟩:=Classical.choose_spec (key b.src.toNat) (he b hb).1
   have h5:=(Classical.choose_spec (key b.dst.toNat) (he b hb).2).2 a (ws ++ [b]) h1 (fun c hc=>by
    rcases List.mem_append.1 hc with hc|hc
    · exact h2 c hc
    · have:c=b:=by simpa using hc
      subst this;exact hb) (isWalk_append.2 ⟨_,h3,rfl,rfl⟩)
   rw [sumW_append] at h5
   simp only [sumW] at h5
   simp only
   omega
 · have h:=Classical.choose_spec (key p) hp
   exact ⟨hB p _ h.1,by have:=h.2 p [] hp (by simp) rfl;simpa [sumW] using this⟩
theorem solution_iff {pts:Int} {bs:List Bound} (hok:SysOk pts bs):solvedOk pts bs=true↔NoCircle bs:=by
 rw [solvedOk_iff hok]
 constructor
 · rintro ⟨y,hy⟩ a ws hs hw
   have:=isWalk_sum (fun b hb=>hy b (hs b hb)) hw
   omega
 · intro hno
   have hp:=hok.p2
   obtain ⟨y,hy,_⟩:=solution_of (n:=pts.toNat) (fun b hb=>by
    have:=hok.b b hb
    constructor<;>omega) (M:=1000000) (by omega) (fun b hb=>(hok.b b hb).2.2.2.2.2.1) hno
   exact ⟨y,hy⟩
def Bnd (lo hi:Int) (r:Row):Prop:=∀ v∈r,lo≤v∧v≤hi
theorem Bnd.at {lo hi:Int} {r:Row} (h:Bnd lo hi r) (h0:lo≤0) (h1:0≤hi) (i:Int):lo≤rAt r i∧rAt r i≤hi:=by
 unfold rAt
 rw [List.getD_eq_getElem?_getD]
 cases hx:r[i.toNat]? with
 | none=>exact ⟨h0,h1⟩
 | some v=>exact h v (List.mem_of_getElem? hx)
theorem Bnd.mono {lo lo' hi:Int} {r:Row} (h:Bnd lo hi r) (hl:lo'≤lo):Bnd lo' hi r:=fun v hv=>⟨Int.le_trans hl (h v hv).1,(h v hv).2⟩
theorem bnd_step {lo hi:Int} {st:Row×Row} {b:Bound} {i:Nat} (h:Bnd lo hi st.1) (h0:lo≤0) (h1:0≤hi) (hm: -1000000≤b.most):Bnd (lo-1000000) hi (relaxStep st b i).1:=by
 unfold relaxStep
 split
 · rename_i hr
   unfold relaxes at hr
   simp only [Bool.and_eq_true,decide_eq_true_eq] at hr
   have hs:=h.at h0 h1 b.src
   have hd:=h.at h0 h1 b.dst
   intro v hv
   simp only [rPut] at hv
   rcases List.mem_or_eq_of_mem_set hv with hv|rfl
   · have:=h v hv;omega
   · omega
 · exact h.mono (by omega)
theorem bnd_passTo {bs:List Bound} (hm:∀ b∈bs,-1000000≤b.most) {lo hi:Int} {st:Row×Row} (h:Bnd lo hi st.1) (h0:lo≤0) (h1:0≤hi):∀ k:Nat,Bnd (lo-k * 1000000) hi (passTo bs st k).1
 | 0=>h.mono (by omega)
 | k+1=>by
   have ih:=bnd_passTo hm h h0 h1 k
   unfold passTo
   split
   · rename_i b hb
     exact (bnd_step ih (by omega) h1 (hm b (List.mem_of_getElem? hb))).mono (by omega)
   · exact ih.mono (by omega)
theorem bnd_loop {bs:List Bound} (hm:∀ b∈bs,-1000000≤b.most) (hb:bs.length≤400) {hi:Int} (h1:0≤hi):∀ (n:Nat) (lo:Int) (st:Row×Row),Bnd lo hi st.1→lo≤0→Bnd (lo-n * 400000000) hi (settledLoop bs n st).1
 | 0,lo,st,h,_=>h.mono (by omega)
 | n+1,lo,st,h,h0=>by
   have hp:Bnd (lo-400000000) hi (pass bs st).1:=(bnd_passTo hm h h0 h1 bs.length).mono (by omega)
   unfold settledLoop
   split
   · exact hp.mono (by omega)
   · exact (bnd_loop hm hb h1 n _ _ hp (by omega)).mono (by omega)
theorem val_start {a:Int} (h1:0≤a) (h2:a<60) (v:Nat):val (rPut emptyRow a 0) v=if v=a.toNat then 0 else if v<60 then noneV else 0:=by
 have he:emptyRow.length=60:=by simp [emptyRow]
 simp only [rPut]
 rw [val_set _ _ _ _ (by rw [he];omega)]
 by_cases e:v=a.toNat
 · subst e;rw [if_pos rfl,if_pos rfl]
 · rw [if_neg (fun h=>e h.symm),if_neg e]
   unfold val emptyRow
   rw [List.getD_eq_getElem?_getD,List.getElem?_replicate]
   split<;>rfl
def fromV (pts:Int) (bs:List Bound) (a:Int):Nat→Int:=val (fromR pts bs a).1
theorem greatestR_val (pts:Int) (bs:List Bound) (a b:Int):greatestR pts bs a b=fromV pts bs a b.toNat:=rfl
theorem sol_bounded {pts:Int} {bs:List Bound} (hok:SysOk pts bs) (hs:solvedOk pts bs=true):∃ y:Nat→Int,(∀ b∈bs,y b.dst.toNat≤y b.src.toNat+b.most)∧∀ v,-30000000000≤y v∧y v≤0:=by
 have hz60:zeroRow.length=60:=by simp [zeroRow]
 have hp1:=hok.p1
 have hp2:=hok.p2
 have hle:=loop_le (bs:=bs) (pts+1).toNat (zeroRow,lasts) (ends60 hok hz60)
 refine ⟨val (settledLoop bs (pts+1).toNat (zeroRow,lasts)).1,fun b hb=> ?_,fun v=>⟨?_,?_⟩⟩
 · refine loop_fix _ _ (ends60 hok hz60) hs b hb ?_
   have:=hle b.src.toNat
   simp only [val_zero] at this
   unfold noneV
   omega
 · have hz:Bnd 0 0 zeroRow:=fun v hv=>by
    have:=List.eq_of_mem_replicate hv
    omega
   have hb:=bnd_loop (fun b hb=>(hok.b b hb).2.2.2.2.2.1) hok.len (Int.le_refl 0) (pts+1).toNat 0 (zeroRow,lasts) hz (Int.le_refl 0)
   have:=hb.at (by omega) (Int.le_refl 0) (v:Int)
   have e:rAt (settledLoop bs (pts+1).toNat (zeroRow,lasts)).1 (v:Int)=val (settledLoop bs (pts+1).toNat (zeroRow,lasts)).1 v:=by rw [rAt_val,Int.toNat_natCast]
   rw [e] at this
   omega
 · have:=hle v
   simpa only [val_zero] using this
theorem from_len60 {a:Int} : (rPut emptyRow a 0).length=60:=by simp [emptyRow]
section
variable {pts:Int} {bs:List Bound} (hok:SysOk pts bs) {a:Int} (h1:0≤a) (h2:a<pts)
include hok h1 h2
theorem from_low {x:Nat→Int} (hx:∀ b∈bs,x b.dst.toNat≤x b.src.toNat+b.most) (hb:∀ v,v<60→x v-x a.toNat≤noneV) (v:Nat) (hv:v<60):x v-x a.toNat≤fromV pts bs a v:=by
 have hp:=hok.p2
 have:=loop_low (bs:=bs) (y:=fun v=>if v<60 then x v-x a.toNat else 0) (fun b hb _=>by
  have h3:=hok.b b hb
  have h4:=hx b hb
  try simp only
  rw [if_pos (by omega),if_pos (by omega)]
  omega) (pts+1).toNat (rPut emptyRow a 0,lasts) (ends60 hok from_len60) (fun v=>by
  try simp only
  rw [val_start h1 (by omega)]
  by_cases e:v=a.toNat
  · subst e;rw [if_pos (by omega),if_pos rfl];omega
  · rw [if_neg e]
    split
    · exact hb v (by assumption)
    · exact Int.le_refl _) v
 simp only [if_pos hv] at this
 exact this
theorem from_le (v:Nat):fromV pts bs a v≤if v=a.toNat then 0 else if v<60 then noneV else 0:=by
 have hp:=hok.p2
 have:=loop_le (bs:=bs) (pts+1).toNat (rPut emptyRow a 0,lasts) (ends60 hok from_len60) v
 simp only [val_start h1 (show a<60 by omega)] at this
 exact this
theorem from_zero (hs:solvedOk pts bs=true):fromV pts bs a a.toNat=0:=by
 have hp:=hok.p2
 obtain ⟨y,hy,hyb⟩:=sol_bounded hok hs
 have h3:=from_le hok h1 h2 a.toNat
 rw [if_pos rfl] at h3
 have h4:=from_low hok h1 h2 hy (fun v _=>by
  have:=hyb v;have:=hyb a.toNat;unfold noneV;omega) a.toNat (by omega)
 omega
theorem from_fix (hs:solvedOk pts bs=true):∀ b∈bs,KeptB (fromV pts bs a) b:=by
 have hp:=hok.p2
 have hp1:=hok.p1
 obtain ⟨y,hy⟩:=(solvedOk_iff hok).1 hs
 obtain ⟨C,hC⟩:∃ C:Int,∀ v,v<60→y v≤C:=⟨(sumTo (fun v=>(y v).toNat) 60:Nat),fun v hv=>by
  have:=le_sumTo (fun v=>(y v).toNat) 60 v hv
  try simp only at this
  omega⟩
 have ht:(settled pts bs (rPut emptyRow a 0)).2.2=true:=settled_true (y:=fun v=>if v<60 then y v-C else 0) (by omega) (ends60 hok from_len60) (fun b hb=>by have:=hok.b b hb;omega) (fun b hb _=>by
  have h1:=hok.b b hb
  have h2:=hy b hb
  try simp only
  rw [if_pos (by omega),if_pos (by omega)]
  omega) (fun v=>by
  rw [val_start h1 (by omega)]
  try simp only
  split
  · have:=hC v (by assumption)
    split
    · omega
    · unfold noneV;omega
  · split
    · omega
    · omega)
 exact fun b hb=>loop_fix _ _ (ends60 hok from_len60) ht b hb
end
open Go.RowKit Go.Proofs Go.Shelf
inductive Chn (bs:List Bound) (last:Row) (a:Nat):Nat→List Nat→List Bound→Prop
 | nil:Chn bs last a a [] []
 | cons (p i:Nat) (b:Bound) (is:List Nat) (ws:List Bound):p≠a→val last p=i→bs[i]? = some b→b.dst.toNat=p→Chn bs last a b.src.toNat is ws→Chn bs last a p (i::is) (b::ws)
section
variable {bs:List Bound} {last last' r:Row} {a:Nat}
theorem Chn.lens {p:Nat} {is:List Nat} {ws:List Bound} (h:Chn bs last a p is ws):is.length=ws.length∧is.map (fun i=>bs[i]?)=ws.map some∧∀ b∈ws,b∈bs:=by
 induction h with
 | nil=>exact ⟨rfl,rfl,fun b h=>by cases h⟩
 | cons p i b is ws h1 h2 h3 h4 _ ih=>
   obtain ⟨i1,i2,i3⟩:=ih
   refine ⟨by simp [i1],by simp [i2,h3],fun c hc=> ?_⟩
   rcases List.mem_cons.1 hc with rfl|hc
   · exact List.mem_of_getElem? h3
   · exact i3 c hc
theorem Chn.walk {p:Nat} {is:List Nat} {ws:List Bound} (h:Chn bs last a p is ws):isWalk a ws.reverse p:=by
 induction h with
 | nil=>rfl
 | cons p i b is ws h1 h2 h3 h4 _ ih=>
   rw [List.reverse_cons]
   exact isWalk_append.2 ⟨_,ih,rfl,h4⟩
def TightP (bs:List Bound) (r last:Row):Prop:=∀ (p i:Nat) (b:Bound),p<60→val last p=i→bs[i]? = some b→b.dst.toNat=p∧val r b.src.toNat+b.most≤val r p∧val r b.src.toNat<noneV
theorem Chn.visit {p:Nat} {is:List Nat} {ws:List Bound} (he:Ends 60 bs) (ht:TightP bs r last) (h:Chn bs last a p is ws):∀ v∈p::ws.map (fun b=>b.src.toNat),∃ vs,(∀ b∈vs,b∈bs)∧isWalk v vs p∧val r v+sumW vs≤val r p:=by
 induction h with
 | nil=>
   intro v hv
   have:v=a:=by simpa using hv
   subst this
   exact ⟨[],by simp,rfl,by simp [sumW]⟩
 | cons p i b is ws h1 h2 h3 h4 _ ih=>
   intro v hv
   rcases List.mem_cons.1 hv with rfl|hv
   · exact ⟨[],by simp,rfl,by simp [sumW]⟩
   · rw [List.map_cons] at hv
     obtain ⟨vs,g1,g2,g3⟩:=ih v hv
     have h5:=(ht p i b (by rw [←h4];exact (he b (List.mem_of_getElem? h3)).2) h2 h3).2.1
     refine ⟨vs ++ [b],fun c hc=> ?_,isWalk_append.2 ⟨_,g2,rfl,h4⟩,?_⟩
     · rcases List.mem_append.1 hc with hc|hc
       · exact g1 c hc
       · have:c=b:=by simpa using hc
         subst this;exact List.mem_of_getElem? h3
     · rw [sumW_append];simp only [sumW];omega
theorem Chn.begin_ {p:Nat} {is:List Nat} {ws:List Bound} (h:Chn bs last a p is ws):a∈p::ws.map (fun b=>b.src.toNat):=by
 induction h with
 | nil=>simp
 | cons p i b is ws h1 h2 h3 h4 _ ih=>rw [List.map_cons];exact List.mem_cons_of_mem _ ih
theorem Chn.stay {v p:Nat} {is:List Nat} {ws:List Bound} (hl:∀ q,q≠v→val last' q=val last q) (h:Chn bs last a p is ws):v∉p::ws.map (fun b=>b.src.toNat)→Chn bs last' a p is ws:=by
 induction h with
 | nil=>intro _;exact .nil
 | cons p i b is ws h1 h2 h3 h4 _ ih=>
   intro hv
   rw [List.map_cons] at hv
   exact .cons p i b is ws h1 ((hl p (fun e=>hv (by rw [e];exact List.mem_cons_self))).trans h2) h3 h4 (ih (fun h=>hv (List.mem_cons_of_mem _ h)))
theorem Chn.turn {v p:Nat} {is:List Nat} {ws:List Bound} (hl:∀ q,q≠v→val last' q=val last q) (hv:∃ is ws,Chn bs last' a v is ws) (h:Chn bs last a p is ws):∃ is ws,Chn bs last' a p is ws:=by
 induction h with
 | nil=>exact ⟨_,_,.nil⟩
 | cons p i b is ws h1 h2 h3 h4 _ ih=>
   by_cases e:p=v
   · rw [e];exact hv
   · obtain ⟨is',ws',h⟩:=ih
     exact ⟨_,_,.cons p i b is' ws' h1 ((hl p e).trans h2) h3 h4 h⟩
theorem Chn.det {p:Nat} {is:List Nat} {ws:List Bound} (h:Chn bs last a p is ws):∀ {is':List Nat} {ws':List Bound},Chn bs last a p is' ws'→is=is':=by
 induction h with
 | nil=>
   intro is' ws' h'
   cases h' with
   | nil=>rfl
   | cons _ _ _ _ _ h1=>exact absurd rfl h1
 | cons p i b is ws h1 h2 h3 h4 _ ih=>
   intro is' ws' h'
   cases h' with
   | nil=>exact absurd rfl h1
   | cons _ j c _ _ k1 k2 k3 k4 k5=>
     have:i=j:=by omega
     subst this
     rw [h3] at k3
     obtain rfl:=Option.some.inj k3
     rw [ih k5]
theorem Chn.later {p:Nat} {is:List Nat} {ws:List Bound} (h:Chn bs last a p is ws):∀ q∈ws.map (fun b=>b.src.toNat),∃ is' ws',is'.length<is.length∧Chn bs last a q is' ws':=by
 induction h with
 | nil=>intro q hq;cases hq
 | cons p i b is ws h1 h2 h3 h4 h5 ih=>
   intro q hq
   rw [List.map_cons] at hq
   rcases List.mem_cons.1 hq with rfl|hq
   · exact ⟨is,ws,by simp,h5⟩
   · obtain ⟨is',ws',k1,k2⟩:=ih q hq
     exact ⟨is',ws',by simp;omega,k2⟩
theorem Chn.nodup {p:Nat} {is:List Nat} {ws:List Bound} (h:Chn bs last a p is ws):(p::ws.map (fun b=>b.src.toNat)).Nodup:=by
 induction h with
 | nil=>simp
 | cons p i b is ws h1 h2 h3 h4 h5 ih=>
   rw [List.map_cons]
   refine List.nodup_cons.2 ⟨fun hm=> ?_,ih⟩
   obtain ⟨is',ws',k1,k2⟩:=(Chn.cons p i b is ws h1 h2 h3 h4 h5).later p (by rw [List.map_cons];exact hm)
   have:=(Chn.cons p i b is ws h1 h2 h3 h4 h5).det k2
   rw [←this] at k1
   omega
theorem Chn.short {p:Nat} {is:List Nat} {ws:List Bound} (he:Ends 60 bs) (hp:p<60) (h:Chn bs last a p is ws):is.length≤60:=by
 have h1:=nodup_range (n:=60) h.nodup (fun x hx=>by
  rcases List.mem_cons.1 hx with rfl|hx
  · exact hp
  · obtain ⟨b,hb,rfl⟩:=List.mem_map.1 hx
    exact (he b (h.lens.2.2 b hb)).1)
 simp only [List.length_cons,List.length_map] at h1
 rw [h.lens.1];omega
structure PthInv (bs:List Bound) (a:Nat) (st:Row×Row):Prop where
 l1:st.1.length=60
 l2:st.2.length=60
 tight:TightP bs st.1 st.2
 chain:∀ p,p<60→val st.1 p<noneV→∃ is ws,Chn bs st.2 a p is ws
theorem pthInv_step (he:Ends 60 bs) (hno:NoCircle bs) {st:Row×Row} (h:PthInv bs a st) {i:Nat} {b:Bound} (hb:bs[i]? = some b):PthInv bs a (relaxStep st b i):=by
 by_cases hr:relaxes st.1 b=true
 · have hm:=List.mem_of_getElem? hb
   obtain ⟨e1,e2⟩:=he b hm
   obtain ⟨r1,r2⟩:=relaxes_iff.1 hr
   unfold relaxStep
   rw [if_pos hr]
   have v1:∀ v,val (rPut st.1 b.dst (rAt st.1 b.src+b.most)) v=if b.dst.toNat=v then val st.1 b.src.toNat+b.most else val st.1 v:=fun v=>by
    show val (st.1.set _ _) v=_
    rw [val_set _ _ _ _ (by rw [h.l1];exact e2)];rfl
   have v2:∀ v,val (rPut st.2 b.dst (i:Int)) v=if b.dst.toNat=v then (i:Int) else val st.2 v:=fun v=>by
    show val (st.2.set _ _) v=_
    rw [val_set _ _ _ _ (by rw [h.l2];exact e2)]
   obtain ⟨is,ws,hc⟩:=h.chain b.src.toNat e1 r1
   have hnot:b.dst.toNat∉b.src.toNat::ws.map (fun b=>b.src.toNat):=fun hv=>by
    obtain ⟨vs,g1,g2,g3⟩:=hc.visit he h.tight _ hv
    have:=hno b.dst.toNat (vs ++ [b]) (fun c hc=>by
     rcases List.mem_append.1 hc with hc|hc
     · exact g1 c hc
     · have:c=b:=by simpa using hc
       subst this;exact hm) (isWalk_append.2 ⟨_,g2,rfl,rfl⟩)
    rw [sumW_append] at this
    simp only [sumW] at this
    omega
   have hda:b.dst.toNat≠a:=fun e=>hnot (by rw [e];exact hc.begin_)
   have hsd:b.dst.toNat≠b.src.toNat:=fun e=>hnot (by rw [e];exact List.mem_cons_self)
   have hst:∀ q,q≠b.dst.toNat→val (rPut st.2 b.dst (i:Int)) q=val st.2 q:=fun q hq=>by rw [v2,if_neg (fun e=>hq e.symm)]
   have hnew:∃ is ws,Chn bs (rPut st.2 b.dst (i:Int)) a b.dst.toNat is ws:=⟨_,_,.cons _ i b is ws hda (by rw [v2,if_pos rfl]) hb rfl (hc.stay hst hnot)⟩
   refine ⟨by simp [h.l1],by simp [h.l2],fun p j c hp hj hc=> ?_,fun p hp hlt=> ?_⟩
   · rw [v2] at hj
     rw [v1,v1]
     by_cases e:b.dst.toNat=p
     · rw [if_pos e] at hj
       have:i=j:=by omega
       subst this
       rw [hb] at hc
       obtain rfl:=Option.some.inj hc
       rw [if_neg hsd,if_pos e]
       exact ⟨e,Int.le_refl _,r1⟩
     · rw [if_neg e] at hj
       obtain ⟨t1,t2,t3⟩:=h.tight p j c hp hj hc
       rw [if_neg e]
       refine ⟨t1,?_⟩
       split
       · rename_i e3;rw [←e3] at t2 t3;exact ⟨by omega,by omega⟩
       · exact ⟨t2,t3⟩
   · rw [v1] at hlt
     by_cases e:b.dst.toNat=p
     · rw [←e];exact hnew
     · rw [if_neg e] at hlt
       obtain ⟨is',ws',h'⟩:=h.chain p hp hlt
       exact h'.turn hst hnew
 · unfold relaxStep
   rw [if_neg hr]
   exact h
theorem pthInv_to (he:Ends 60 bs) (hno:NoCircle bs) {st:Row×Row} (h:PthInv bs a st):∀ k,PthInv bs a (passTo bs st k)
 | 0=>h
 | k+1=>by
   have ih:=pthInv_to he hno h k
   unfold passTo
   split
   · rename_i b hb;exact pthInv_step he hno ih hb
   · exact ih
theorem pthInv_loop (he:Ends 60 bs) (hno:NoCircle bs):∀ (n:Nat) (st:Row×Row),PthInv bs a st→PthInv bs a ((settledLoop bs n st).1,(settledLoop bs n st).2.1)
 | 0,st,h=>h
 | n+1,st,h=>by
   unfold settledLoop
   have h1:=pthInv_to he hno h bs.length
   split
   · exact h1
   · exact pthInv_loop he hno n _ h1
end
theorem path_law {pts:Int} {bs:List Bound} (hok:SysOk pts bs) (hs:solvedOk pts bs=true) {a b:Int} (a1:0≤a) (a2:a<pts) (_:0≤b) (b2:b<pts) (hr:greatestR pts bs a b<noneV):
 ∃ is ws,Chn bs (fromR pts bs a).2.1 a.toNat b.toNat is ws∧sumW ws=greatestR pts bs a b:=by
 have hp2:=hok.p2
 have he:=ends60 hok (from_len60 (a:=a))
 rw [from_len60] at he
 have hno:=(solution_iff hok).1 hs
 have h0:PthInv bs a.toNat (rPut emptyRow a 0,lasts):=⟨from_len60,by simp [lasts],fun p i c hp hi hc=>by
  have:val lasts p = -1:=by
   unfold val lasts
   rw [List.getD_eq_getElem?_getD,List.getElem?_replicate,if_pos hp];rfl
  simp only at hi
  omega,fun p hp hlt=>by
  rw [val_start a1 (by omega)] at hlt
  by_cases e:p=a.toNat
  · rw [e];exact ⟨_,_,.nil⟩
  · rw [if_neg e,if_pos hp] at hlt;omega⟩
 have hI:=pthInv_loop he hno (pts+1).toNat _ h0
 obtain ⟨is,ws,hc⟩:=hI.chain b.toNat (by omega) hr
 refine ⟨is,ws,hc,?_⟩
 have hfix:=from_fix (a:=a) hok a1 a2 hs
 have hz:=from_zero (a:=a) hok a1 a2 hs
 have key:∀ {p:Nat} {is:List Nat} {ws:List Bound},Chn bs (fromR pts bs a).2.1 a.toNat p is ws→p<60→fromV pts bs a p<noneV→sumW ws=fromV pts bs a p:=by
  intro p is ws h
  induction h with
  | nil=>intro _ _;rw [hz];rfl
  | cons p i c is ws h1 h2 h3 h4 h5 ih=>
    intro hp hlt
    have hm:=List.mem_of_getElem? h3
    obtain ⟨_,t2,t3⟩:=hI.tight p i c hp h2 h3
    have hk:=hfix c hm t3
    have hih:=ih (he c hm).1 t3
    have t2':fromV pts bs a c.src.toNat+c.most≤fromV pts bs a p:=t2
    simp only [sumW]
    rw [h4] at hk
    omega
 exact key hc (by omega) hr
end Go.Proofs.YtccabpahfmoamaaGreat
end
section
namespace Go.Proofs.YtccabpahfmoamaaGreat
open Go.RowKit Go.Proofs
def setL (xs:List Value):Nat→List Value→List Value
 | _,[]=>xs
 | o,v::r=>setL (xs.set o v) (o+1) r
theorem setL_get:∀ (vs:List Value) (o:Nat) (xs:List Value) (t:Nat),o+vs.length≤xs.length→(setL xs o vs)[t]? = if o≤t∧t<o+vs.length then vs[t-o]? else xs[t]?
 | [],o,xs,t,_=>by simp [setL];omega
 | v::r,o,xs,t,h=>by
   simp only [List.length_cons] at h
   rw [setL,setL_get r (o+1) (xs.set o v) t (by simp;omega),List.length_cons]
   by_cases h1:o+1≤t∧t<o+1+r.length
   · rw [if_pos h1,if_pos (by omega)]
     obtain ⟨u,rfl⟩:∃ u,t=o+1+u:=⟨t-(o+1),by omega⟩
     rw [show o+1+u-(o+1)=u by omega,show o+1+u-o=u+1 by omega,List.getElem?_cons_succ]
   · rw [if_neg h1]
     by_cases h2:t=o
     · subst h2
       rw [if_pos (by omega),Nat.sub_self,List.getElem?_set_self (by omega)];rfl
     · rw [if_neg (by omega),List.getElem?_set_ne (by omega)]
section
variable {α:Type} {enc:α→List Value} {k n c B g:Nat} {e:TypeId} {w w':World} {xs:List α}
theorem ownsRow_setCells:∀ (vs:List Value) (o:Nat) (w:World) (L:List Value),w.ownsRow B e k (.slice (some ⟨g,0,none⟩) n c) n L→
 (w.setCells g o vs).ownsRow B e k (.slice (some ⟨g,0,none⟩) n c) n (setL L o vs)∧w.grownBy (w.setCells g o vs) (some g)
 | [],_,w,_,h=>⟨h,World.grownBy.refl w _⟩
 | v::r,o,w,L,h=>by
   obtain ⟨h1,g1⟩:=h.stored o v
   obtain ⟨h2,g2⟩:=ownsRow_setCells r (o+1) _ _ h1
   exact ⟨h2,g1.trans g2⟩
theorem Own.set (h:Own enc k e B w (some ⟨g,0,none⟩) n c xs) (hk:∀ x,(enc x).length=k) {i:Nat} (hi:i<n) (x:α):
 Own enc k e B (w.setCells g (i * k) (enc x)) (some ⟨g,0,none⟩) n c (xs.set i x)∧w.grownBy (w.setCells g (i * k) (enc x)) (some g):=by
 obtain ⟨h1,h2⟩:=ownsRow_setCells (enc x) (i * k) w _ h.own
 refine ⟨⟨by rw [List.length_set];exact h.len,?_⟩,h2⟩
 have hkp:0<k∨k=0:=by omega
 have e1:setL (xs.flatMap enc) (i * k) (enc x)=(xs.set i x).flatMap enc:=by
  have hL:(xs.flatMap enc).length=n * k:=by rw [flatMap_len hk,h.len]
  have hfit:i * k+(enc x).length≤(xs.flatMap enc).length:=by
   rw [hL,hk]
   have:=Nat.mul_le_mul_right k (show i+1≤n from hi)
   rwa [Nat.add_mul,Nat.one_mul] at this
  apply List.ext_getElem?
  intro t
  rw [setL_get _ _ _ _ hfit]
  rcases hkp with hkp|hk0
  · by_cases ht:t<n * k
    · have hq:t / k<n:=Nat.div_lt_of_lt_mul (by rw [Nat.mul_comm];exact ht)
      have hm:t % k<k:=Nat.mod_lt _ hkp
      have hte:t / k * k+t % k=t:=by rw [Nat.mul_comm];exact Nat.div_add_mod t k
      have hsl:t / k<(xs.set i x).length:=by rw [List.length_set,h.len];exact hq
      have hy:=flatMap_at hk (xs.set i x) (t / k) _ (List.getElem?_eq_getElem hsl) (t % k) _ (List.getElem?_eq_getElem (by rw [hk];exact hm))
      rw [hte] at hy
      rw [hy]
      by_cases hti:t / k=i
      · have hin:i * k≤t∧t<i * k+(enc x).length:=by rw [hk,←hti];omega
        rw [if_pos hin,←List.getElem?_eq_getElem]
        have hxx:(xs.set i x)[t / k]=x:=by simp [hti]
        rw [hxx]
        congr 1
        rw [←hti];omega
      · have hout:¬(i * k≤t∧t<i * k+(enc x).length):=by
         rw [hk]
         rintro ⟨ha,hb⟩
         apply hti
         rw [Nat.div_eq_iff hkp]
         omega
        rw [if_neg hout]
        have hxl:t / k<xs.length:=by rw [h.len];exact hq
        have hz:=flatMap_at hk xs (t / k) _ (List.getElem?_eq_getElem hxl) (t % k) _ (List.getElem?_eq_getElem (by rw [hk];exact hm))
        rw [hte] at hz
        rw [hz]
        have hxx:(xs.set i x)[t / k]=xs[t / k]:=List.getElem_set_ne (by omega) _
        simp only [hxx]
    · have hl2:((xs.set i x).flatMap enc).length=n * k:=by rw [flatMap_len hk,List.length_set,h.len]
      rw [List.getElem?_eq_none (by omega:((xs.set i x).flatMap enc).length≤t),if_neg (by omega),List.getElem?_eq_none (by omega)]
  · have hl2:((xs.set i x).flatMap enc).length=n * k:=by rw [flatMap_len hk,List.length_set,h.len]
    have hek:(enc x).length=0:=by rw [hk,hk0]
    rw [if_neg (by omega),List.getElem?_eq_none (by rw [hL,hk0];omega),List.getElem?_eq_none (by rw [hl2,hk0];omega)]
 rw [←e1]
 exact h1
theorem Own.cells (h:Own enc k e B w (some ⟨g,0,none⟩) n c xs) (hk:∀ x,(enc x).length=k) {i:Nat} {x:α} (hx:xs[i]? = some x):∀ j u,(enc x)[j]? = some u→w.cell? ⟨g,i * k+j,none⟩=some u:=by
 intro j u hu
 have:=h.own.cells (g:=g) rfl (i * k+j) u (flatMap_at hk xs i x hx j u hu)
 rwa [add_lit,Nat.zero_add] at this
theorem Own.free (h:Own enc k e B w (some ⟨g,0,none⟩) n c xs) (j:Nat):w.frozen? ⟨g,j,none⟩=false:=h.own.frozenAt j
theorem Own.lt (h:Own enc k e B w (some ⟨g,0,none⟩) n c xs):B≤g∧g<w.heap.size:=by
 rcases h.form with ⟨h1,_⟩|⟨g',h1,h2⟩
 · cases h1
 · cases h1;exact h2
end
structure Kept {α:Type} (p:α→Bool) (l xs:List α) (i j:Nat):Prop where
 len:xs.length=l.length
 ij:i<j
 low:xs.take i=(l.take j).filter (fun x=> !p x)
 high:∀ m,j≤m→xs[m]? = l[m]?
section
variable {α:Type} {p:α→Bool} {l xs:List α} {i j:Nat}
theorem Kept.start {x:α} (hx:l[i]? = some x) (hp:p x=true) (hno:∀ m y,m<i→l[m]? = some y→p y=false):Kept p l l i (i+1):=by
 have hi:i<l.length:=(List.getElem?_eq_some_iff.1 hx).1
 refine ⟨rfl,by omega,?_,fun m _=>rfl⟩
 rw [List.take_add_one,hx,List.filter_append,List.filter_eq_self.2 (fun y hy=> ?_)]
 · simp [hp]
 · obtain ⟨m,hm,rfl⟩:=List.getElem_of_mem hy
   rw [List.length_take] at hm
   rw [List.getElem_take,hno m _ (by omega) (List.getElem?_eq_getElem (by omega))];rfl
theorem Kept.keep (h:Kept p l xs i j) {x:α} (hx:l[j]? = some x) (hp:p x=false):Kept p l (xs.set i x) (i+1) (j+1):=by
 have hj:j<l.length:=(List.getElem?_eq_some_iff.1 hx).1
 refine ⟨by rw [List.length_set];exact h.len,by have:=h.ij;omega,?_,fun m hm=> ?_⟩
 · rw [List.take_add_one,List.take_set_of_le (Nat.le_refl _),List.getElem?_set_self (by have:=h.ij;rw [h.len];omega),h.low,List.take_add_one,hx,List.filter_append]
   simp [hp]
 · rw [List.getElem?_set_ne (by have:=h.ij;omega)];exact h.high m (by omega)
theorem Kept.skip (h:Kept p l xs i j) {x:α} (hx:l[j]? = some x) (hp:p x=true):Kept p l xs i (j+1):=by
 refine ⟨h.len,by have:=h.ij;omega,?_,fun m hm=>h.high m (by omega)⟩
 rw [h.low,List.take_add_one,hx,List.filter_append]
 simp [hp]
theorem Kept.done (h:Kept p l xs i l.length):xs.take i=l.filter (fun x=> !p x):=by rw [h.low,List.take_length]
end
def encRow (r:Row):List Value:=(List.range 60).map fun j=> .int .i64 (r.getD j 0)
theorem encRow_len (r:Row):(encRow r).length=60:=by simp [encRow]
theorem oneRow (r:Row):∀ u∈encRow r,u.oneCell'=true:=by
 intro u hu
 unfold encRow at hu
 obtain ⟨j,_,rfl⟩:=List.mem_map.1 hu
 rfl
theorem encRow_get (r:Row) (j:Nat) (h:j<60):(encRow r)[j]? = some (.int .i64 (r.getD j 0)):=by
 simp [encRow,h]
theorem encRow_rowA {r:Row} (h:r.length=60):(rowA r).toList=encRow r:=by
 apply List.ext_getElem?
 intro j
 by_cases hj:j<60
 · rw [encRow_get r j hj,Array.getElem?_toList,rowA_get,List.getElem?_eq_getElem (by omega)]
   simp [List.getD_eq_getElem?_getD,h,hj]
 · rw [List.getElem?_eq_none (by simp [h];omega),List.getElem?_eq_none (by rw [encRow_len];omega)]
theorem elRow:ElemT Tryz.prog 196 178 60 480:=elemT_of (z:=.agg (rowA zeroRow)) Tryz.underlying196 (by kernel_rfl) (by simp [Value.cells,zeroRow]) (by decide)
theorem elLast:ElemT Tryz.prog 197 177 60 480:=elemT_of (z:=.agg (rowA zeroRow)) Tryz.underlying197 (by kernel_rfl) (by simp [Value.cells,zeroRow]) (by decide)
section
variable {w:World} {g n c B:Nat} {e:TypeId} {xs:List Row}
theorem Own.range (h:Own encRow 60 e B w (some ⟨g,0,none⟩) n c xs) {i:Nat} {r:Row} (hx:xs[i]? = some r):w.rangeAt g (i * 60) (encRow r):=fun j u hu=>h.cells encRow_len hx j u hu
theorem run_load207 {o:Nat} {r:Row} (hr:r.length=60) (h:w.rangeAt g o (encRow r)):(Instr.loadAt 178 (.pointer (some ⟨g,o,none⟩))).run Tryz.prog w = .ok (.agg (rowA r)) w:=by
 have:=run_loadAt_mid (P:=Tryz.prog) w g o 178 (encRow r) _ h row207.arr rfl (by rw [encRow_len];exact row207.size)
 rw [this,←encRow_rowA hr]
theorem Own.cellRow (h:Own encRow 60 e B w (some ⟨g,0,none⟩) n c xs) {i j:Nat} {r:Row} (hx:xs[i]? = some r) (hj:j<60):w.cell? ⟨g,i * 60+j,none⟩=some (.int .i64 (r.getD j 0)):=
 h.range hx j _ (encRow_get r j hj)
end
theorem run_build1 {P:Program} {tS e:TypeId} (E:ElemT P tS e 60 480) (w:World) {r:Row} (hr:r.length=60):(Instr.buildSlice tS 1 #[(0,.agg (rowA r))]).run P w = .ok (.slice (some ⟨w.heap.size,0,none⟩) 1 1) (w.alloc (.cells (rowA r) e)):=by
 obtain ⟨i,z,hi,hz0,hz1,hz2,hz3⟩:=E.info
 have hsz:(rowA r).size=60:=by rw [rowA_size,hr]
 have hf:=Great.fill_whole (s:=60) (by decide) [.agg (rowA r)] ((Array.range (1 * i.size)).map (z.cells[· % z.cells.size]!)) (by simp [Value.cells,hr]) (by simp [hz1])
 have hc:((Value.agg (rowA r)).cells.toList).toArray=rowA r:=by simp [Value.cells]
 refine run_buildSlice w tS e 1 _ (rowA r) i z E.slice hi hz0 (by rw [hz1];decide) (by rw [hz1];decide) ?_
 rw [hz1] at hf ⊢
 simpa [Value.cells] using hf
theorem Rd.row1 (w:World) {e:TypeId} {r:Row} (hr:r.length=60):Rd encRow 60 (w.alloc (.cells (rowA r) e)) (some ⟨w.heap.size,0,none⟩) 1 1 [r]:=
 Rd.single w (rowA r) e [r] 1 rfl (by omega) encRow_len (by rw [encRow_rowA hr];simp)
theorem run_make1 (B:Nat) (w:World) (hB:B≤w.heap.size):∃ w',(Instr.makeSlice 197 (.int .i64 1) (.int .i64 1)).run Tryz.prog w = .ok (.slice (some ⟨w.heap.size,0,none⟩) 1 1) w'∧Own encRow 60 177 B w' (some ⟨w.heap.size,0,none⟩) 1 1 [zeroRow]∧w.grownBy w' none:=by
 obtain ⟨i,z,hi,hz0,hz1,hz2,hz3⟩:=elLast.info
 have hzz:z = .agg (rowA zeroRow):=by
  have h1:=zero206
  rw [hi] at h1
  simpa [hz0] using h1
 obtain ⟨w',h1,h2,h3⟩:=run_makeSlice_full (P:=Tryz.prog) (w:=w) B 197 177 i z 60 elLast.slice hi hz0 hz1 .i64 .i64 1 (by decide) (by omega) (by decide) hB
 refine ⟨w',h1,⟨rfl,?_⟩,h3⟩
 have hm:(madeCells z.cells (1 * 60)).toList = [zeroRow].flatMap encRow:=by rw [hzz];kernel_rfl
 rw [←hm]
 exact h2
end Go.Proofs.YtccabpahfmoamaaGreat
end

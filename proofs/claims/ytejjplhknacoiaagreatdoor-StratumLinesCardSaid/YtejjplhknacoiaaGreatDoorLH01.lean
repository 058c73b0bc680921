/- Contracts that the laws lean on: Reg, Flow, FlowC, RefA, Open. -/
import Derived.Test.YtejjplhknacoiaaGreatDoorLK10
import Derived.ReadAgain
import Derived.Deep.Slices
set_option maxRecDepth 100000
set_option maxHeartbeats 2000000
section
namespace Go.Proofs.YtejjplhknacoiaaGreatDoor
open Go.RowKit Go.Proofs
def bare (o:Oper):Oper:={ o with guard:=none }
def bareL (l:List Oper):List Oper:=l.map bare
theorem bare_at {l:List Oper} {j:Nat} : (bareL l).toArray[j]? = (l.toArray[j]?).map bare:=by simp [bareL]
theorem bare_of {l:List Oper} {j:Nat} {o:Oper} (h:l.toArray[j]? = some o):(bareL l).toArray[j]? = some (bare o):=by rw [bare_at,h];rfl
theorem bare_size (l:List Oper):(bareL l).toArray.size=l.toArray.size:=by simp [bareL]
theorem dst_bare (l:List Oper) (j:Nat):dstOf (bareL l).toArray j=dstOf l.toArray j:=by
 unfold dstOf
 rw [bare_at]
 cases l.toArray[j]? <;> rfl
theorem ready_bare {l:List Oper} {i:Nat} {listed:Array Bool} (h:i∈Region.ready .any l.toArray listed):i∈Region.ready .any (bareL l).toArray listed:=by
 obtain ⟨h1,o,h2,h3⟩:=mem_ready.1 h
 exact mem_ready.2 ⟨h1,bare o,bare_of h2,h3⟩
section
variable {P:Program} {nn:Nat} {l:List Oper}
theorem wpAnyIn_invG {Q:Exit→Act→World→Prop} {m:Nat} (hok:tabOk (bareL l).toArray m=true) (I:Array Bool→Act→World→Prop)
 (hstep:∀ listed i o b W,listed.size=l.toArray.size→i∈Region.ready .any l.toArray listed→l.toArray[i]? = some o→I listed b W→
   if Region.wanted o (yielded l.toArray b.tmps)=true then o.wpIn Fence.wide nn P b W (fun b' W'=>I (listed.setIfInBounds i true) b' W') Q else I (listed.setIfInBounds i true) (b.put o.dst undef) W)
 (hend:∀ b W,I (Array.replicate l.toArray.size true) b W→Q .normal b W):
 ∀ (fuel:Nat) (listed:Array Bool) (b:Act) (W:World),left listed=fuel→listed.size=l.toArray.size→I listed b W→wpAnyIn Fence.wide nn P .any l.toArray Q fuel listed b W:=by
 intro fuel
 induction fuel with
 | zero=>
   intro listed b W hl hs h
   have hall:=left_zero hl
   rw [hs] at hall
   refine ⟨?_,hend b W (hall ▸ h)⟩
   apply List.eq_nil_iff_forall_not_mem.2
   intro i hi
   obtain ⟨hun,o,ho,_⟩:=mem_ready.1 hi
   have hlt:i<l.toArray.size:=(Array.getElem?_eq_some_iff.1 ho).1
   rw [hall] at hun
   rw [Array.getD_eq_getD_getElem?,Array.getElem?_replicate,if_pos hlt] at hun
   cases hun
 | succ fuel ih=>
   intro listed b W hl hs h
   refine ⟨fun hnil=> ?_,fun i hi=> ?_⟩
   · obtain ⟨i,hi,hmin⟩:=left_pos (listed:=listed) (by omega)
     have hlt:i<l.toArray.size:=by rw [←hs];exact (Array.getElem?_eq_some_iff.1 hi).1
     have ho:l.toArray[i]? = some l.toArray[i]:=Array.getElem?_eq_getElem hlt
     obtain ⟨_,_,hed,_⟩:=tabOk_at hok (bare_of ho)
     have:i∈Region.ready .any l.toArray listed:=mem_ready.2 ⟨by simp [hi],l.toArray[i],ho,fun e he hbd=>by have:=hmin e.on (hed e he hbd);simp [this]⟩
     rw [hnil] at this
     cases this
   · obtain ⟨hun,o,ho,hall⟩:=mem_ready.1 hi
     have hlt:i<listed.size:=by rw [hs];exact (Array.getElem?_eq_some_iff.1 ho).1
     have hf:listed[i]? = some false:=by
      rw [Array.getElem?_eq_getElem hlt]
      rw [Array.getD_eq_getD_getElem?,Array.getElem?_eq_getElem hlt] at hun
      simpa using hun
     have hl':left (listed.setIfInBounds i true)=fuel:=by have:=left_set hf;omega
     have hst:=hstep listed i o b W hs hi ho h
     unfold wpOpIn
     simp only [ho]
     split
     · rename_i hw
       rw [if_pos hw] at hst
       exact Oper.wpIn_mono (fun b' W' h'=>ih _ b' W' hl' (by simp [hs]) h') hst
     · rename_i hw
       rw [if_neg hw] at hst
       exact ⟨fun _ _=>trivial,ih _ _ _ hl' (by simp [hs]) hst⟩
structure ValsAt (l:List Oper) (a:Act) (V:Nat→Value) (G:World→Prop) (listed:Array Bool) (b:Act) (W:World):Prop where
 tab:TabAt (bareL l).toArray V a listed b
 later:Later (bareL l).toArray a listed b
 glob:G W
theorem ValsAt.val {a b:Act} {V:Nat→Value} {G:World→Prop} {listed:Array Bool} {W:World} (h:ValsAt l a V G listed b W) (j d:Nat) (hd:dstOf l.toArray j=some d) (hl:listed.getD j false=true):b.tmps.getD d undef=V j:=
 h.tab.val j d (by rw [dst_bare];exact hd) hl
theorem wanted_of {a b:Act} {V:Nat→Value} {G:World→Prop} {listed:Array Bool} {W:World} (h:ValsAt l a V G listed b W) {o:Oper} {j d:Nat} {g v:Bool} (hg:o.guard=some (j,g)) (hd:dstOf l.toArray j=some d) (hl:listed.getD j false=true) (hv:V j = .bool v):
 Region.wanted o (yielded l.toArray b.tmps)=(v==g):=by
 have h1:=h.val j d hd hl
 rw [hv] at h1
 have h2:b.tmps[d]? = some (.bool v):=by
  rw [Array.getD_eq_getD_getElem?] at h1
  cases hx:b.tmps[d]? with
  | none=>rw [hx] at h1;cases h1
  | some x=>rw [hx] at h1;simpa using h1
 have h3:yielded l.toArray b.tmps j=some v:=by
  unfold yielded
  have hd':(l.toArray[j]?).bind (·.dst)=some d:=hd
  rw [hd',Option.bind_some,h2]
 unfold Region.wanted
 rw [hg]
 simp only [h3]
 cases v<;>cases g<;>rfl
theorem wpIn_region_vals {id:Nat} {Q:Exit→Act→World→Prop} {a:Act} {w:World} (m:Nat) (hm:P.follows .mixedOrders=true) (hok:tabOk (bareL l).toArray m=true) (hT:m=a.tmps.size) (V:Nat→Value) (G:World→Prop) (hG:G w.drew)
 (hstep:∀ listed i o b W,i∈Region.ready .any l.toArray listed→l.toArray[i]? = some o→ValsAt l a V G listed b W→
   if Region.wanted o (yielded l.toArray b.tmps)=true then o.wpIn Fence.wide nn P b W (fun b' W'=>b'=b.put o.dst (V i)∧G W') Q else V i=undef)
 (hend:∀ W,G W→Q .normal { tmps:=framed (bareL l).toArray V a.tmps (bareL l).toArray.size,defers:=a.defers } W):(Code.region id l.toArray true).wpIn Fence.wide nn P Q a w:=by
 refine wpIn_region_any hm ?_
 refine wpAnyIn_invG hok (fun listed b W=>ValsAt l a V G listed b W) ?_ ?_ _ _ _ _ ?_ (by simp) ?_
 · intro listed i o b W hs hi ho h
   have hst:=hstep listed i o b W hi ho h
   have hs':listed.size=(bareL l).toArray.size:=by rw [bare_size];exact hs
   have step:∀ W',G W'→ValsAt l a V G (listed.setIfInBounds i true) (b.put o.dst (V i)) W':=fun W' hW'=>
    ⟨(h.tab.set hok hT (ready_bare hi) (bare_of ho):TabAt (bareL l).toArray V a (listed.setIfInBounds i true) (b.put (bare o).dst (V i))),(h.later.set hok (bare_of ho) hs':Later (bareL l).toArray a (listed.setIfInBounds i true) (b.put (bare o).dst (V i))),hW'⟩
   split
   · rename_i hw
     rw [if_pos hw] at hst
     refine Oper.wpIn_mono ?_ hst
     rintro b' W' ⟨rfl,hW'⟩
     exact step W' hW'
   · rename_i hw
     rw [if_neg hw] at hst
     have:=step W h.glob
     rw [hst] at this
     exact this
 · intro b W h
   have h1:=h.tab
   rw [←bare_size] at h1
   rw [h1.act hok hT]
   exact hend W h.glob
 · have h2:∀ k,(List.filter (fun b=> !b) (List.replicate k false)).length=k:=by
    intro k
    rw [List.filter_eq_self.2 (fun b hb=>by rw [List.eq_of_mem_replicate hb];rfl),List.length_replicate]
   unfold left
   rw [Array.toList_replicate]
   exact h2 _
 · have h0:=TabAt.start (ops:=(bareL l).toArray) (V:=V) a
   rw [bare_size] at h0
   exact ⟨h0,fun _ _ _ _=>rfl,hG⟩
end
def wantV (V:Nat→Value) (o:Oper):Option Bool:=match o.guard with
 | none=>some true
 | some (j,g)=>match V j with
   | .bool v=>some (v==g)
   | _=>none
def frameL (V:Nat→Value):Nat→List Oper→Array Value→Array Value
 | _,[],t=>t
 | i,o::l,t=>frameL V (i+1) l (match o.dst with|some d=>t.setIfInBounds d (V i)|none=>t)
def setsL:Array Value→Nat→List Value→Array Value
 | t,_,[]=>t
 | t,k,v::vs=>setsL (t.setIfInBounds k v) (k+1) vs
def tmpOk (ops:Array Oper) (o:Oper):Operand→Bool
 | .tmp s=>(List.range ops.size).all (fun k=>dstOf ops k != some s)||o.after.any (fun e=>Region.binds .any e&&dstOf ops e.on==some s)
 | _=>true
def plainOp:Op→Bool
 | .select _ _=>false
 | .defer _=>false
 | _=>true
def flowOk (ops:Array Oper):Bool:=ops.all fun o=>o.op.operands.all (tmpOk ops o)&&plainOp o.op &&
 (match o.guard with|none=>true|some (j,_)=>(dstOf ops j).isSome&&o.after.any (fun e=>Region.binds .any e&&e.on==j))
theorem any_mem {α:Type} {xs:Array α} {p:α→Bool} (h:xs.any p=true):∃ x,x∈xs∧p x=true:=by
 rw [Array.any_eq_true] at h
 obtain ⟨i,hi,hp⟩:=h
 exact ⟨xs[i],Array.getElem_mem hi,hp⟩
def noDst (ops:Array Oper) (s:Nat):Bool:=(List.range ops.size).all (fun k=>dstOf ops k != some s)
theorem noDst_iff {ops:Array Oper} {s:Nat} (h:noDst ops s=true):∀ j,dstOf ops j≠some s:=by
 intro j hj
 have hjs:j<ops.size:=by
  rcases Nat.lt_or_ge j ops.size with h|h
  · exact h
  · simp [dstOf,Array.getElem?_eq_none h] at hj
 have h1:=List.all_eq_true.1 h j (List.mem_range.2 hjs)
 rw [hj] at h1
 simp at h1
def StepQ (P:Program) (G:World→Prop) (b:Act) (o:Oper) (v:Value):Prop:=
 ∀ W,G W→(execOp b.eval o).run P W = .ok (.value v) W∨((execOp b.eval o).run P W = .ok .skip W∧v=undef)∨
   ∃ f args,(execOp b.eval o).run P W = .ok (.enter f args) W∧Calls P f args W fun e w'=>e = .returned v∧G w'
def StepsF (P:Program) (G:World→Prop) (b:Act) (V:Nat→Value):Nat→List Oper→Prop
 | _,[]=>True
 | i,o::l=>((wantV V o=some false∧V i=undef)∨(wantV V o=some true∧StepQ P G b o (V i)))∧StepsF P G b V (i+1) l
def factsL (b:Act) (V:Nat→Value):Nat→List Oper→Prop
 | _,[]=>True
 | i,o::l=>(match o.dst with|some d=>b.tmps[d]?.getD undef=V i|none=>True)∧factsL b V (i+1) l
section
variable {P:Program} {G:World→Prop} {b:Act} {V:Nat→Value}
theorem steps_nil {i:Nat} : StepsF P G b V i []:=trivial
theorem steps_skip {i:Nat} {o:Oper} {l:List Oper} (h:wantV V o=some false) (hv:V i=undef) (hl:StepsF P G b V (i+1) l):StepsF P G b V i (o::l):=⟨.inl ⟨h,hv⟩,hl⟩
theorem steps_go {i:Nat} {o:Oper} {l:List Oper} (h:wantV V o=some true) (hs:StepQ P G b o (V i)) (hl:StepsF P G b V (i+1) l):StepsF P G b V i (o::l):=⟨.inr ⟨h,hs⟩,hl⟩
theorem steps_at {l:List Oper} :∀ {k:Nat},StepsF P G b V k l→∀ {i:Nat} {o:Oper},l[i]? = some o→(wantV V o=some false∧V (k+i)=undef)∨(wantV V o=some true∧StepQ P G b o (V (k+i))):=by
 induction l with
 | nil=>intro k _ i o h;simp at h
 | cons x l ih=>
   intro k h i o ho
   cases i with
   | zero=>
     simp only [List.getElem?_cons_zero,Option.some.injEq] at ho
     subst ho
     exact h.1
   | succ i=>
     simp only [List.getElem?_cons_succ] at ho
     have:=ih h.2 ho
     rwa [show k+1+i=k+(i+1) from by omega] at this
theorem facts_of {l:List Oper} :∀ {k:Nat},(∀ i d,(l[i]?).bind (·.dst)=some d→b.tmps[d]?.getD undef=V (k+i))→factsL b V k l:=by
 induction l with
 | nil=>intro k _;trivial
 | cons x l ih=>
   intro k h
   refine ⟨?_,ih fun i d hd=> ?_⟩
   · have:=h 0
     simp only [List.getElem?_cons_zero,Option.bind_some,Nat.add_zero] at this
     split
     · rename_i d hd;exact this d hd
     · trivial
   · have:=h (i+1) d (by simpa using hd)
     rwa [show k+(i+1)=k+1+i from by omega] at this
theorem frameL_eq (ops:Array Oper) (t:Array Value):∀ (l:List Oper) (i:Nat),(∀ j,l[j]? = ops[i+j]?)→frameL V i l (framed ops V t i)=framed ops V t (i+l.length):=by
 intro l
 induction l with
 | nil=>intro i _;rfl
 | cons o l ih=>
   intro i h
   have h0:ops[i]? = some o:=by have:=h 0;simpa using this.symm
   have h1:=ih (i+1) (fun j=>by have:=h (j+1);rw [List.getElem?_cons_succ] at this;rw [this];congr 1;omega)
   have hd:dstOf ops i=o.dst:=by rw [dstOf,h0];rfl
   rw [List.length_cons,show i+(l.length+1)=i+1+l.length from by omega,←h1]
   show frameL V (i+1) l (match o.dst with|some d=>(framed ops V t i).setIfInBounds d (V i)|none=>framed ops V t i)=_
   congr 1
   rw [framed,hd]
   cases o.dst<;>rfl
end
theorem flow_op {ops:Array Oper} (h:flowOk ops=true) {i:Nat} {o:Oper} (hi:ops[i]? = some o):
 (∀ x∈o.op.operands,tmpOk ops o x=true)∧(∀ cs b,o.op ≠ .select cs b)∧(∀ j g,o.guard=some (j,g)→(∃ d,dstOf ops j=some d)∧∃ e∈o.after,Region.binds .any e=true∧e.on=j):=by
 have h1:=Array.all_eq_true_iff_forall_mem.1 h o (Array.mem_of_getElem? hi)
 simp only [Bool.and_eq_true] at h1
 obtain ⟨⟨h1,h2⟩,h3⟩:=h1
 refine ⟨fun x hx=>Array.all_eq_true_iff_forall_mem.1 h1 x hx,fun cs b e=>(by rw [e] at h2;cases h2),fun j g e=> ?_⟩
 rw [e] at h3
 simp only [Bool.and_eq_true] at h3
 obtain ⟨h3,h4⟩:=h3
 obtain ⟨e,he,hb⟩:=any_mem h4
 simp only [Bool.and_eq_true,beq_iff_eq] at hb
 exact ⟨Option.isSome_iff_exists.1 h3,e,he,hb⟩
theorem wpIn_region_flow {P:Program} {nn id:Nat} {l:List Oper} {Q:Exit→Act→World→Prop} {a:Act} {w:World} (m:Nat) (hm:P.follows .mixedOrders=true) (hok:tabOk (bareL l).toArray m=true) (hfl:flowOk l.toArray=true) (hT:a.tmps.size=m) (V:Nat→Value) (G:World→Prop) (hG:G w.drew)
 (hstep:∀ b,factsL b V 0 l→(∀ d v,noDst l.toArray d=true→a.tmps.getD d undef=v→b.tmps[d]?.getD undef=v)→StepsF P G b V 0 l)
 (hend:∀ W,G W→Q .normal { tmps:=frameL V 0 l a.tmps,defers:=a.defers } W):(Code.region id l.toArray true).wpIn Fence.wide nn P Q a w:=by
 have hsz:(bareL l).toArray.size=l.length:=by rw [bare_size];simp
 have hfr:frameL V 0 l a.tmps=framed (bareL l).toArray V a.tmps (bareL l).toArray.size:=by
  have h1:∀ (ops:Array Oper) (n:Nat),(∀ j,dstOf ops j=dstOf (bareL l).toArray j)→framed ops V a.tmps n=framed (bareL l).toArray V a.tmps n:=by
   intro ops n h
   induction n with
   | zero=>rfl
   | succ n ih=>rw [framed,framed,h n,ih]
  have h2:=frameL_eq (V:=V) l.toArray a.tmps l 0 (fun j=>by simp)
  rw [show framed l.toArray V a.tmps 0=a.tmps from rfl] at h2
  rw [h2,h1 l.toArray _ (fun j=>(dst_bare l j).symm),hsz,Nat.zero_add]
 obtain ⟨bf,hbf⟩:∃ bf:Act,bf = { tmps:=framed (bareL l).toArray V a.tmps (bareL l).toArray.size,defers:=a.defers } :=⟨_,rfl⟩
 have hval:∀ i d,dstOf l.toArray i=some d→bf.tmps.getD d undef=V i:=fun i d hd=>by
  rw [hbf]
  have hil:i<(bareL l).toArray.size:=by
   rcases Nat.lt_or_ge i (bareL l).toArray.size with h|h
   · exact h
   · rw [bare_size] at h
     simp [dstOf,Array.getElem?_eq_none h] at hd
  exact framed_val hok hT.symm (by rw [dst_bare];exact hd) _ (Nat.le_refl _) hil
 have hold:∀ d,(∀ j,dstOf l.toArray j≠some d)→bf.tmps.getD d undef=a.tmps.getD d undef:=fun d hd=>by
  rw [hbf]
  exact framed_old d _ (fun j _=>by rw [dst_bare];exact hd j)
 have hst:=hstep bf (facts_of fun i d hd=>by
  have:=hval i d (by rw [dstOf,List.getElem?_toArray];exact hd)
  rw [Nat.zero_add,←this,Array.getD_eq_getD_getElem?]) (fun d v hd hv=>by rw [←Array.getD_eq_getD_getElem?,hold d (noDst_iff hd),hv])
 refine wpIn_region_vals m hm hok hT.symm V G hG (fun listed i o b W hi ho h=> ?_) (fun W hW=>by rw [←hfr];exact hend W hW)
 obtain ⟨hun,oi,hoi,hall⟩:=mem_ready.1 hi
 have:oi=o:=Option.some.inj (hoi.symm.trans ho)
 subst this
 obtain ⟨f1,f2,f3⟩:=flow_op hfl ho
 have hev:execOp b.eval oi=execOp bf.eval oi:=execOp_congr oi f2 fun x hx=>by
  have hx1:=f1 x hx
  cases x with
  | tmp s=>
    show b.tmps.getD s undef=bf.tmps.getD s undef
    unfold tmpOk at hx1
    rw [Bool.or_eq_true] at hx1
    rcases hx1 with hx1|hx1
    · have hno:∀ j,dstOf l.toArray j≠some s:=noDst_iff hx1
      rw [hold s hno,h.tab.old s (fun j=>by rw [dst_bare];exact hno j)]
    · obtain ⟨e,he,hb⟩:=any_mem hx1
      simp only [Bool.and_eq_true,beq_iff_eq] at hb
      rw [hval e.on s hb.2,h.val e.on s hb.2 (hall e he hb.1)]
  | const v=>rfl
  | global g=>rfl
  | func f=>rfl
 have hw:∀ v,wantV V oi=some v→Region.wanted oi (yielded l.toArray b.tmps)=v:=fun v hv=>by
  unfold wantV at hv
  cases hg:oi.guard with
  | none=>
    rw [hg] at hv
    simp only [Option.some.injEq] at hv
    subst hv
    simp [Region.wanted,hg]
  | some jg=>
    obtain ⟨j,g⟩:=jg
    rw [hg] at hv
    obtain ⟨⟨d,hd⟩,e,he,hb,hej⟩:=f3 j g hg
    subst hej
    cases hj:V e.on with
    | bool v'=>
      simp only [hj,Option.some.injEq] at hv
      rw [wanted_of h hg hd (hall e he hb) hj,hv]
    | _=>simp only [hj] at hv;cases hv
 have hlt:l[i]? = some oi:=by rw [←List.getElem?_toArray];exact ho
 rcases steps_at hst hlt with ⟨h1,h2⟩|⟨h1,h2⟩
 · rw [hw _ h1,if_neg (by decide)]
   rw [Nat.zero_add] at h2
   exact h2
 · rw [hw _ h1,if_pos rfl]
   rw [Nat.zero_add] at h2
   rcases h2 W h.glob with hr|⟨hr,hv⟩|⟨f,args,hr,hc⟩
   · rw [←hev] at hr
     exact wide_val hr ⟨rfl,h.glob⟩
   · rw [←hev] at hr
     refine wide_skip hr ⟨?_,h.glob⟩
     rw [hv]
   · rw [←hev] at hr
     refine wide_call hr (hc.mono ?_)
     rintro e w' ⟨rfl,hG'⟩
     exact ⟨_,rfl,rfl,hG'⟩
def idxC:List Nat→Nat→Option Nat
 | [],_=>none
 | c::ch,i=>if i=c then some 0 else (idxC ch i).map (· + 1)
def Vc (T:Nat→List Value→Value) (sg:Nat→Nat) (ch:List Nat) (cv:List Value) (i:Nat):Value:=match idxC ch i with
 | some m=>cv.getD m undef
 | none=>T i (cv.take (sg i))
theorem len1 {cv:List Value} (h:cv.length=1):∃ a,cv = [a]:=by
 match cv,h with
 | [a],_=>exact ⟨a,rfl⟩
theorem len2 {cv:List Value} (h:cv.length=2):∃ a b,cv = [a,b]:=by
 match cv,h with
 | [a,b],_=>exact ⟨a,b,rfl⟩
def ancOf (ops:Array Oper):Nat→Nat→Nat→Bool
 | 0,_,_=>false
 | n+1,j,i=>match ops[j]? with
   | none=>false
   | some o=>o.after.any fun e=>Region.binds .any e&&(e.on==i||ancOf ops n e.on i)
def chainSteps (ops:Array Oper):List Nat→Bool
 | []=>true
 | [_]=>true
 | c::d::ch=>ancOf ops ops.size d c&&chainSteps ops (d::ch)
def chainOk (ops:Array Oper) (ch:List Nat):Bool:=chainSteps ops ch&&ch.all (fun c=>decide (c<ops.size))&&decide ch.Nodup
def limOk (ops:Array Oper) (ch:List Nat) (lim:Nat→Nat):Bool:=(List.range ops.size).all fun i=>ch.contains i||(match ch[lim i]? with|some c=>ancOf ops ops.size c i|none=>true)
section
variable {ops:Array Oper} {listed:Array Bool}
theorem anc_listed (hc:∀ j o,ops[j]? = some o→listed.getD j false=true→∀ e∈o.after,Region.binds .any e=true→listed.getD e.on false=true):∀ (n j i:Nat),ancOf ops n j i=true→listed.getD j false=true→listed.getD i false=true
 | 0,_,_,h,_=>by cases h
 | n+1,j,i,h,hl=>by
   unfold ancOf at h
   cases ho:ops[j]? with
   | none=>rw [ho] at h;cases h
   | some o=>
     rw [ho] at h
     obtain ⟨e,he,hb⟩:=any_mem h
     simp only [Bool.and_eq_true,Bool.or_eq_true,beq_iff_eq] at hb
     have h1:=hc j o ho hl e he hb.1
     rcases hb.2 with rfl|h2
     · exact h1
     · exact anc_listed hc n e.on i h2 h1
end
theorem idxC_none:∀ {ch:List Nat} {i:Nat},i∉ch→idxC ch i=none
 | [],_,_=>rfl
 | c::ch,i,h=>by
   unfold idxC
   rw [if_neg (fun e=>h (by rw [e];exact List.mem_cons_self)),idxC_none (fun e=>h (List.mem_cons_of_mem _ e))];rfl
theorem idxC_some:∀ {ch:List Nat} {m i:Nat},ch.Nodup→ch[m]? = some i→idxC ch i=some m
 | [],_,_,_,h=>by simp at h
 | c::ch,0,i,_,h=>by
   simp only [List.getElem?_cons_zero,Option.some.injEq] at h
   unfold idxC
   rw [if_pos h.symm]
 | c::ch,m+1,i,hn,h=>by
   simp only [List.getElem?_cons_succ] at h
   have hn':=List.nodup_cons.1 hn
   unfold idxC
   rw [if_neg (fun e=>hn'.1 (by rw [←e];exact List.mem_of_getElem? h)),idxC_some hn'.2 h];rfl
theorem Vc_out {T:Nat→List Value→Value} {sg:Nat→Nat} {ch:List Nat} {cv:List Value} {i:Nat} (h:i∉ch):Vc T sg ch cv i=T i (cv.take (sg i)):=by
 unfold Vc;rw [idxC_none h]
theorem Vc_in {T:Nat→List Value→Value} {sg:Nat→Nat} {ch:List Nat} {cv:List Value} {m i:Nat} (hn:ch.Nodup) (h:ch[m]? = some i):Vc T sg ch cv i=cv.getD m undef:=by
 unfold Vc;rw [idxC_some hn h]
def stageOk (ops:Array Oper) (ch:List Nat) (sg:Nat→Nat):Bool:=(List.range ops.size).all fun i=>ch.contains i||sg i==0||(match ch[sg i-1]? with|some c=>ancOf ops ops.size i c|none=>false)
def ChainQ (P:Program) (I:List Value→World→Prop) (b:Act) (o:Oper) (cv:List Value):Prop:=
 ∀ W,I cv W→(∃ v W',((execOp b.eval o).run P W = .ok (.value v) W'∨((execOp b.eval o).run P W = .ok .skip W'∧v=undef))∧I (cv ++ [v]) W')∨
   ∃ f args,(execOp b.eval o).run P W = .ok (.enter f args) W∧Calls P f args W fun e w'=> ∃ v,e = .returned v∧I (cv ++ [v]) w'
def StepC (P:Program) (I:List Value→World→Prop) (b:Act) (T:Nat→List Value→Value) (sg lim:Nat→Nat) (ch:List Nat) (cv:List Value) (i:Nat) (o:Oper):Prop:=
 (ch.contains i=false∧wantV (fun j=>T j []) o=some false∧sg i=0∧T i []=undef)∨
   (ch.contains i=false∧wantV (fun j=>T j []) o=some true∧(sg i≤cv.length→cv.length≤lim i→StepQ P (I cv) b o (T i (cv.take (sg i)))))∨(wantV (fun j=>T j []) o=some true∧∃ m,ch[m]? = some i∧(cv.length=m→ChainQ P I b o cv))
def StepsC (P:Program) (I:List Value→World→Prop) (b:Act) (T:Nat→List Value→Value) (sg lim:Nat→Nat) (ch:List Nat) (cv:List Value):Nat→List Oper→Prop
 | _,[]=>True
 | i,o::l=>StepC P I b T sg lim ch cv i o∧StepsC P I b T sg lim ch cv (i+1) l
section
variable {P:Program} {I:List Value→World→Prop} {b:Act} {T:Nat→List Value→Value} {sg lim:Nat→Nat} {ch:List Nat} {cv:List Value} {i:Nat} {o:Oper} {l:List Oper}
theorem chain_nil:StepsC P I b T sg lim ch cv i []:=trivial
theorem chain_skip (h0:ch.contains i=false) (h:wantV (fun j=>T j []) o=some false) (h2:sg i=0) (hv:T i []=undef) (hl:StepsC P I b T sg lim ch cv (i+1) l):StepsC P I b T sg lim ch cv i (o::l):=⟨.inl ⟨h0,h,h2,hv⟩,hl⟩
theorem chain_quiet (h0:ch.contains i=false) (h:wantV (fun j=>T j []) o=some true) (hs:sg i≤cv.length→cv.length≤lim i→StepQ P (I cv) b o (T i (cv.take (sg i)))) (hl:StepsC P I b T sg lim ch cv (i+1) l):StepsC P I b T sg lim ch cv i (o::l):=⟨.inr (.inl ⟨h0,h,hs⟩),hl⟩
theorem chain_op (m:Nat) (hm:ch[m]? = some i) (h:wantV (fun j=>T j []) o=some true) (hs:cv.length=m→ChainQ P I b o cv) (hl:StepsC P I b T sg lim ch cv (i+1) l):StepsC P I b T sg lim ch cv i (o::l):=⟨.inr (.inr ⟨h,m,hm,hs⟩),hl⟩
theorem chain_at {l:List Oper} :∀ {k:Nat},StepsC P I b T sg lim ch cv k l→∀ {i:Nat} {o:Oper},l[i]? = some o→StepC P I b T sg lim ch cv (k+i) o:=by
 induction l with
 | nil=>intro k _ i o h;simp at h
 | cons x l ih=>
   intro k h i o ho
   cases i with
   | zero=>
     simp only [List.getElem?_cons_zero,Option.some.injEq] at ho
     subst ho
     exact h.1
   | succ i=>
     simp only [List.getElem?_cons_succ] at ho
     have:=ih h.2 ho
     rwa [show k+1+i=k+(i+1) from by omega] at this
end
def guardOk (ops:Array Oper) (ch:List Nat) (sg:Nat→Nat):Bool:=ops.all fun o=>match o.guard with
 | none=>true
 | some (j,_)=> !ch.contains j&&sg j==0
structure ChainAt (l:List Oper) (a:Act) (T:Nat→List Value→Value) (sg:Nat→Nat) (ch:List Nat) (I:List Value→World→Prop) (cv:List Value) (listed:Array Bool) (b:Act) (W:World):Prop where
 tab:TabAt (bareL l).toArray (Vc T sg ch cv) a listed b
 inv:I cv W
 len:cv.length≤ch.length
 on:∀ m i,ch[m]? = some i→(listed.getD i false=true↔m<cv.length)
theorem chain_ge {ops:Array Oper} {listed:Array Bool} (hc:∀ j o,ops[j]? = some o→listed.getD j false=true→∀ e∈o.after,Region.binds .any e=true→listed.getD e.on false=true):
 ∀ {ch:List Nat},chainSteps ops ch=true→∀ {m i k j:Nat},ch[m]? = some i→ch[k]? = some j→k≤m→listed.getD i false=true→listed.getD j false=true
 | [],_,_,_,_,_,h,_,_,_=>by simp at h
 | [c],_,m,i,k,j,h,h2,hk,hl=>by
   cases m with
   | zero=>
     have:k=0:=by omega
     subst this
     rw [h] at h2
     cases h2
     exact hl
   | succ m=>simp at h
 | c::d::ch,hs,m,i,k,j,h,h2,hk,hl=>by
   simp only [chainSteps,Bool.and_eq_true] at hs
   cases m with
   | zero=>
     have:k=0:=by omega
     subst this
     rw [h] at h2
     cases h2
     exact hl
   | succ m=>
     simp only [List.getElem?_cons_succ] at h
     cases k with
     | zero=>
       simp only [List.getElem?_cons_zero,Option.some.injEq] at h2
       subst h2
       have h3:=chain_ge hc hs.2 (k:=0) (j:=d) h (by simp) (Nat.zero_le _) hl
       exact anc_listed hc _ _ _ hs.1 h3
     | succ k=>
       simp only [List.getElem?_cons_succ] at h2
       exact chain_ge hc hs.2 h h2 (by omega) hl
theorem wpIn_region_chain {P:Program} {nn id:Nat} {l:List Oper} {Q:Exit→Act→World→Prop} {a:Act} {w:World} (m:Nat) (hm:P.follows .mixedOrders=true) (hok:tabOk (bareL l).toArray m=true) (hfl:flowOk l.toArray=true) (hT:a.tmps.size=m) (T:Nat→List Value→Value) (sg lim:Nat→Nat) (ch:List Nat) (hch:chainOk l.toArray ch=true) (hsg:stageOk l.toArray ch sg=true) (hlim:limOk l.toArray ch lim=true) (hgd:guardOk l.toArray ch sg=true) (I:List Value→World→Prop) (hI:I [] w.drew)
 (hstep:∀ b cv,factsL b (Vc T sg ch cv) 0 l→(∀ d v,noDst l.toArray d=true→a.tmps.getD d undef=v→b.tmps[d]?.getD undef=v)→StepsC P I b T sg lim ch cv 0 l)
 (hend:∀ cv W,cv.length=ch.length→I cv W→Q .normal { tmps:=frameL (Vc T sg ch cv) 0 l a.tmps,defers:=a.defers } W):(Code.region id l.toArray true).wpIn Fence.wide nn P Q a w:=by
 have hsz:(bareL l).toArray.size=l.length:=by rw [bare_size];simp
 have hlsz:l.toArray.size=l.length:=by simp
 unfold chainOk at hch
 simp only [Bool.and_eq_true,decide_eq_true_eq] at hch
 obtain ⟨⟨hcs,hcl⟩,hnd⟩:=hch
 have hfr:∀ V:Nat→Value,frameL V 0 l a.tmps=framed (bareL l).toArray V a.tmps (bareL l).toArray.size:=fun V=>by
  have h1:∀ (ops:Array Oper) (n:Nat),(∀ j,dstOf ops j=dstOf (bareL l).toArray j)→framed ops V a.tmps n=framed (bareL l).toArray V a.tmps n:=by
   intro ops n h
   induction n with
   | zero=>rfl
   | succ n ih=>rw [framed,framed,h n,ih]
  have h2:=frameL_eq (V:=V) l.toArray a.tmps l 0 (fun j=>by simp)
  rw [show framed l.toArray V a.tmps 0=a.tmps from rfl] at h2
  rw [h2,h1 l.toArray _ (fun j=>(dst_bare l j).symm),hsz,Nat.zero_add]
 refine wpIn_region_any hm ?_
 refine wpAnyIn_invG hok (fun listed b W=> ∃ cv,ChainAt l a T sg ch I cv listed b W) ?_ ?_ _ _ _ _ ?_ (by simp) ?_
 · rintro listed i o b W hs hi ho ⟨cv,h⟩
   have hs':listed.size=(bareL l).toArray.size:=by rw [bare_size];exact hs
   obtain ⟨bf,hbf⟩:∃ bf:Act,bf = { tmps:=framed (bareL l).toArray (Vc T sg ch cv) a.tmps (bareL l).toArray.size,defers:=a.defers } :=⟨_,rfl⟩
   have hval:∀ i d,dstOf l.toArray i=some d→bf.tmps.getD d undef=Vc T sg ch cv i:=fun i d hd=>by
    rw [hbf]
    have hil:i<(bareL l).toArray.size:=by
     rcases Nat.lt_or_ge i (bareL l).toArray.size with h|h
     · exact h
     · rw [bare_size] at h
       simp [dstOf,Array.getElem?_eq_none h] at hd
    exact framed_val hok hT.symm (by rw [dst_bare];exact hd) _ (Nat.le_refl _) hil
   have hold:∀ d,(∀ j,dstOf l.toArray j≠some d)→bf.tmps.getD d undef=a.tmps.getD d undef:=fun d hd=>by
    rw [hbf]
    exact framed_old d _ (fun j _=>by rw [dst_bare];exact hd j)
   have hst:=hstep bf cv (facts_of fun i d hd=>by
    have:=hval i d (by rw [dstOf,List.getElem?_toArray];exact hd)
    rw [Nat.zero_add,←this,Array.getD_eq_getD_getElem?]) (fun d v hd hv=>by rw [←Array.getD_eq_getD_getElem?,hold d (noDst_iff hd),hv])
   have hclosed:∀ j o,l.toArray[j]? = some o→listed.getD j false=true→∀ e∈o.after,Region.binds .any e=true→listed.getD e.on false=true:=fun j o hj hl e he hb=>
    h.tab.closed j (bare o) (bare_of hj) hl e he hb
   have hready:=hi
   obtain ⟨hun,oi,hoi,hall⟩:=mem_ready.1 hi
   have:oi=o:=Option.some.inj (hoi.symm.trans ho)
   subst this
   have hun':listed.getD i false=false:=getD_both hun
   have hbval:∀ j d,dstOf l.toArray j=some d→listed.getD j false=true→b.tmps.getD d undef=Vc T sg ch cv j:=fun j d hd hl=>h.tab.val j d (by rw [dst_bare];exact hd) hl
   obtain ⟨f1,f2,f3⟩:=flow_op hfl ho
   have hev:execOp b.eval oi=execOp bf.eval oi:=execOp_congr oi f2 fun x hx=>by
    have hx1:=f1 x hx
    cases x with
    | tmp s=>
      show b.tmps.getD s undef=bf.tmps.getD s undef
      unfold tmpOk at hx1
      rw [Bool.or_eq_true] at hx1
      rcases hx1 with hx1|hx1
      · have hno:∀ j,dstOf l.toArray j≠some s:=noDst_iff hx1
        rw [hold s hno,h.tab.old s (fun j=>by rw [dst_bare];exact hno j)]
      · obtain ⟨e,he,hb⟩:=any_mem hx1
        simp only [Bool.and_eq_true,beq_iff_eq] at hb
        rw [hval e.on s hb.2,hbval e.on s hb.2 (hall e he hb.1)]
    | const v=>rfl
    | global g=>rfl
    | func f=>rfl
   have hlt:l[i]? = some oi:=by rw [←List.getElem?_toArray];exact ho
   have hw:∀ v,wantV (fun j=>T j []) oi=some v→Region.wanted oi (yielded l.toArray b.tmps)=v:=fun v hv=>by
    unfold wantV at hv
    cases hg:oi.guard with
    | none=>
      rw [hg] at hv
      simp only [Option.some.injEq] at hv
      subst hv
      simp [Region.wanted,hg]
    | some jg=>
      obtain ⟨j,g⟩:=jg
      rw [hg] at hv
      obtain ⟨⟨d,hd⟩,e,he,hb,hej⟩:=f3 j g hg
      subst hej
      obtain ⟨hnc,hs0⟩:ch.contains e.on=false∧sg e.on=0:=by
       have h3:=Array.all_eq_true_iff_forall_mem.1 hgd oi (Array.mem_of_getElem? ho)
       rw [hg] at h3
       simpa using h3
      cases hj:T e.on [] with
      | bool v'=>
        simp only [hj,Option.some.injEq] at hv
        have h1:=hbval e.on d hd (hall e he hb)
        rw [Vc_out (by intro hmem;rw [List.contains_iff_mem.2 hmem] at hnc;cases hnc),hs0,List.take_zero,hj] at h1
        have h2:b.tmps[d]? = some (.bool v'):=by
         rw [Array.getD_eq_getD_getElem?] at h1
         cases hx:b.tmps[d]? with
         | none=>rw [hx] at h1;cases h1
         | some x=>rw [hx] at h1;simpa using h1
        have h3:yielded l.toArray b.tmps e.on=some v':=by
         unfold yielded
         have hd':(l.toArray[e.on]?).bind (·.dst)=some d:=hd
         rw [hd',Option.bind_some,h2]
        unfold Region.wanted
        rw [hg]
        simp only [h3]
        rw [←hv]
        cases v'<;>cases g<;>rfl
      | _=>simp only [hj] at hv;cases hv
   have keep:ch.contains i=false→∀ W',I cv W'→∃ cv',ChainAt l a T sg ch I cv' (listed.setIfInBounds i true) (b.put oi.dst (T i (cv.take (sg i)))) W':=fun hnc W' hW'=>by
    have hni:i∉ch:=by intro hmem;rw [List.contains_iff_mem.2 hmem] at hnc;cases hnc
    have h1:=(h.tab.set hok hT.symm (ready_bare hready) (bare_of ho):TabAt (bareL l).toArray (Vc T sg ch cv) a (listed.setIfInBounds i true) (b.put (bare oi).dst (Vc T sg ch cv i)))
    rw [Vc_out hni] at h1
    refine ⟨cv,h1,hW',h.len,fun m j hmj=> ?_⟩
    have hij:i≠j:=fun e=>hni (by rw [e];exact List.mem_of_getElem? hmj)
    rw [getD_set_ne false hij]
    exact h.on m j hmj
   have hat:=chain_at hst hlt
   rw [Nat.zero_add] at hat
   have htk0:sg i=0→cv.take (sg i) = []:=fun e=>by rw [e];rfl
   rcases hat with ⟨hnc,h1,h0,h2⟩|⟨hnc,h1,h2⟩|⟨h1,k,hk,h2⟩
   · rw [hw _ h1,if_neg (by decide)]
     have:=keep hnc W h.inv
     rw [htk0 h0,h2] at this
     exact this
   · rw [hw _ h1,if_pos rfl]
     have hsgl:sg i≤cv.length:=by
      have hil:i<l.toArray.size:=(Array.getElem?_eq_some_iff.1 ho).1
      have h3:=List.all_eq_true.1 hsg i (List.mem_range.2 hil)
      rw [hnc,Bool.false_or,Bool.or_eq_true,beq_iff_eq] at h3
      rcases h3 with h3|h3
      · omega
      · cases hc:ch[sg i-1]? with
        | none=>rw [hc] at h3;cases h3
        | some c=>
          rw [hc] at h3
          obtain ⟨e,he,hb,hanc⟩:∃ e∈oi.after,Region.binds .any e=true∧(e.on=c∨∃ n,ancOf l.toArray n e.on c=true):=by
           have h4:ancOf l.toArray l.toArray.size i c=true:=h3
           cases hn:l.toArray.size with
           | zero=>rw [hn] at hil;omega
           | succ n=>
             rw [hn] at h4
             unfold ancOf at h4
             rw [ho] at h4
             obtain ⟨e,he,hb⟩:=any_mem h4
             simp only [Bool.and_eq_true,Bool.or_eq_true,beq_iff_eq] at hb
             exact ⟨e,he,hb.1,hb.2.imp (fun h=>h) fun h=>⟨n,h⟩⟩
          have hel:=hall e he hb
          have hcl:listed.getD c false=true:=by
           rcases hanc with rfl|⟨n,hn⟩
           · exact hel
           · exact anc_listed hclosed n _ _ hn hel
          have:=(h.on _ c hc).1 hcl
          omega
     have hliml:cv.length≤lim i:=by
      have hil:i<l.toArray.size:=(Array.getElem?_eq_some_iff.1 ho).1
      have h3:=List.all_eq_true.1 hlim i (List.mem_range.2 hil)
      rw [hnc,Bool.false_or] at h3
      cases hc:ch[lim i]? with
      | none=>exact Nat.le_trans h.len (List.getElem?_eq_none_iff.1 hc)
      | some c=>
        rw [hc] at h3
        rcases Nat.lt_or_ge (lim i) cv.length with h4|h4
        · have:=anc_listed hclosed _ _ _ h3 ((h.on _ _ hc).2 h4)
          rw [hun'] at this
          cases this
        · exact h4
     rcases h2 hsgl hliml W h.inv with hr|⟨hr,hv⟩|⟨f,args,hr,hc⟩
     · rw [←hev] at hr
       exact wide_val hr (keep hnc W h.inv)
     · rw [←hev] at hr
       refine wide_skip hr ?_
       rw [←hv]
       exact keep hnc W h.inv
     · rw [←hev] at hr
       refine wide_call hr (hc.mono ?_)
       rintro e w' ⟨rfl,hG'⟩
       exact ⟨_,rfl,keep hnc w' hG'⟩
   · rw [hw _ h1,if_pos rfl]
     have hon:=h.on k i hk
     have hkl:cv.length=k:=by
      have h3:¬k<cv.length:=fun e=>by rw [hon.2 e] at hun';cases hun'
      rcases Nat.lt_or_ge cv.length k with h4|h4
      · exfalso
        obtain ⟨c',hc'⟩:∃ c',ch[cv.length]? = some c':=⟨ch[cv.length]'(by have:=(List.getElem?_eq_some_iff.1 hk).1;omega),List.getElem?_eq_getElem _⟩
        have hnl:listed.getD c' false=false:=by
         cases hx:listed.getD c' false with
         | false=>rfl
         | true=>have:=(h.on _ _ hc').1 hx;omega
        have hset:∀ j o,l.toArray[j]? = some o→(listed.setIfInBounds i true).getD j false=true→∀ e∈o.after,Region.binds .any e=true→(listed.setIfInBounds i true).getD e.on false=true:=fun j o hj hl e he hb=>by
         have h1:=(h.tab.set hok hT.symm (ready_bare hready) (bare_of ho):TabAt (bareL l).toArray (Vc T sg ch cv) a (listed.setIfInBounds i true) (b.put (bare oi).dst (Vc T sg ch cv i)))
         exact h1.closed j (bare o) (bare_of hj) hl e he hb
        have hil:i<listed.size:=by rw [hs];exact (Array.getElem?_eq_some_iff.1 ho).1
        have h5:=chain_ge hset hcs hk hc' (by omega) (by simp [hil])
        have hne:i≠c':=fun e=>by
         have:=(List.getElem?_inj (i:=k) (j:=cv.length) (by have:=(List.getElem?_eq_some_iff.1 hk).1;exact this) hnd).1 (by rw [hk,hc',e])
         omega
        rw [getD_set_ne false hne,hnl] at h5
        cases h5
      · omega
     have hnext:∀ v W',I (cv ++ [v]) W'→∃ cv',ChainAt l a T sg ch I cv' (listed.setIfInBounds i true) (b.put oi.dst v) W':=fun v W' hI'=>by
      refine ⟨cv ++ [v],?_,hI',by rw [List.length_append,hkl];have:=(List.getElem?_eq_some_iff.1 hk).1;exact this,fun m j hmj=> ?_⟩
      · have hagree:∀ j,listed.getD j false=true→Vc T sg ch cv j=Vc T sg ch (cv ++ [v]) j:=fun j hj=>by
         by_cases hjc:j∈ch
         · obtain ⟨m,hm⟩:=List.mem_iff_getElem?.1 hjc
           have:=(h.on m j hm).1 hj
           rw [Vc_in hnd hm,Vc_in hnd hm,List.getD_eq_getElem?_getD,List.getD_eq_getElem?_getD,List.getElem?_append_left this]
         · rw [Vc_out hjc,Vc_out hjc]
           have hjl:j<l.toArray.size:=by
            rw [←hs]
            rcases Nat.lt_or_ge j listed.size with h|h
            · exact h
            · rw [Array.getD_eq_getD_getElem?,Array.getElem?_eq_none h] at hj;cases hj
           have h3:=List.all_eq_true.1 hsg j (List.mem_range.2 hjl)
           rw [show ch.contains j=false from by simpa using hjc,Bool.false_or,Bool.or_eq_true,beq_iff_eq] at h3
           have hle:sg j≤cv.length:=by
            rcases h3 with h3|h3
            · omega
            · cases hc:ch[sg j-1]? with
              | none=>rw [hc] at h3;cases h3
              | some c=>
                rw [hc] at h3
                have:=(h.on _ c hc).1 (anc_listed hclosed _ _ _ h3 hj)
                omega
           rw [List.take_append_of_le_length hle]
        have h1:=((h.tab.congr hagree).set hok hT.symm (ready_bare hready) (bare_of ho):TabAt (bareL l).toArray (Vc T sg ch (cv ++ [v])) a (listed.setIfInBounds i true) (b.put (bare oi).dst (Vc T sg ch (cv ++ [v]) i)))
        rw [Vc_in hnd hk,List.getD_eq_getElem?_getD,List.getElem?_append_right (by omega),hkl,Nat.sub_self] at h1
        exact h1
      · have hil:i<listed.size:=by rw [hs];exact (Array.getElem?_eq_some_iff.1 ho).1
        rw [List.length_append,List.length_singleton]
        by_cases hij:i=j
        · subst hij
          have:m=k:=(List.getElem?_inj (i:=m) (j:=k) (by have:=(List.getElem?_eq_some_iff.1 hmj).1;exact this) hnd).1 (by rw [hk,hmj])
          subst this
          constructor
          · intro _;omega
          · intro _;simp [hil]
        · rw [getD_set_ne false hij,h.on m j hmj]
          have:m≠k:=fun e=>hij (by rw [e,hk] at hmj;exact Option.some.inj hmj)
          omega
     rcases h2 hkl W h.inv with ⟨v,W',hr,hI'⟩|⟨f,args,hr,hc⟩
     · rcases hr with hr|⟨hr,hv⟩
       · rw [←hev] at hr
         exact wide_val hr (hnext v W' hI')
       · rw [←hev] at hr
         refine wide_skip hr ?_
         rw [←hv]
         exact hnext v W' hI'
     · rw [←hev] at hr
       refine wide_call hr (hc.mono ?_)
       rintro e w' ⟨v,rfl,hI'⟩
       exact ⟨v,rfl,hnext v w' hI'⟩
 · rintro b W ⟨cv,h⟩
   have h1:=h.tab
   rw [←bare_size] at h1
   rw [h1.act hok hT.symm,←hfr]
   refine hend cv W ?_ h.inv
   rcases Nat.lt_or_ge cv.length ch.length with h2|h2
   · exfalso
     have h3:=(h.on cv.length ch[cv.length] (List.getElem?_eq_getElem h2)).1 (by
      have:=List.all_eq_true.1 hcl _ (List.getElem_mem h2)
      simp only [decide_eq_true_eq] at this
      simp only [List.size_toArray] at this
      simp [this])
     omega
   · have:=h.len;omega
 · have h2:∀ k,(List.filter (fun b=> !b) (List.replicate k false)).length=k:=by
    intro k
    rw [List.filter_eq_self.2 (fun b hb=>by rw [List.eq_of_mem_replicate hb];rfl),List.length_replicate]
   unfold left
   rw [Array.toList_replicate]
   exact h2 _
 · have h0:=TabAt.start (ops:=(bareL l).toArray) (V:=Vc T sg ch []) a
   rw [bare_size] at h0
   refine ⟨[],h0,hI,Nat.zero_le _,fun m i _=> ?_⟩
   rw [getD_replicate_false]
   simp
theorem rWithin2_any (n low high:Int) (w:World):
 Calls Tryz.prog 73 #[.int .i64 n,.int .i64 low,.int .i64 high] w fun e w'=>e = .returned (.bool (inB n low high))∧w'=w:=by
 by_cases h:low≤n
 · go_enter Tryz.func73,Tryz.ntmps73
   go_wp2
   go_ret
   exact ⟨by simp [inB,h],rfl⟩
 · go_enter Tryz.func73,Tryz.ntmps73
   go_wp2
   go_ret
   refine ⟨?_,rfl⟩
   have:inB n low high=false:=inB_no.2 (by omega)
   rw [this];rfl
theorem rWithin_any (n low high:Int) (w:World):
 Calls Tryz.prog 47 #[.int .i64 n,.int .i64 low,.int .i64 high] w fun e w'=>e = .returned (.bool (inB n low high))∧w'=w:=by
 go_enter Tryz.func47,Tryz.ntmps47
 go_wp2_with (go_at_call 73;(with_reducible refine (rWithin2_any _ _ _ _).mono ?_);rintro e w' ⟨rfl,rfl⟩)
 go_ret
 exact ⟨rfl,rfl⟩
theorem rIsPlace_any (p l:Int) (w:World):
 Calls Tryz.prog 46 #[.agg #[.int .i64 p,.int .i64 l]] w fun e w'=>e = .returned (.bool (isPlaceB p l))∧Below w.heap.size w w':=by
 cases hp:inB p 1 20
 all_goals
  go_enter Tryz.func46,Tryz.ntmps46
  go_wp2_with (go_at_call 47;refine (rWithin_any _ _ _ _).mono ?_;rintro e w' ⟨rfl,rfl⟩;try rw [hp])
  go_ret
  exact ⟨by simp [isPlaceB,hp],(Below.refl _ _).alloc (Nat.le_refl _) _⟩
theorem eqT_void (a b d e f g h i j:Int):eqTrace ⟨a,b,4,d,e,f,g,h,i,j⟩ (yT ⟨a,b,4,d,e,f,g,h,i,j⟩)=eqTrace ⟨0,0,0,d,e,f,g,h,i,0⟩ ⟨0,0,0,0,0,0,0,0,0,0⟩:=by simp [eqTrace,yT]
theorem eqT_above (a b d e f g h i j:Int):eqTrace ⟨a,b,1,d,e,f,g,h,i,j⟩ (yT ⟨a,b,1,d,e,f,g,h,i,j⟩)=eqTrace ⟨0,0,0,0,0,0,g,h,i,j⟩ ⟨0,0,0,0,0,0,0,0,0,0⟩:=by simp [eqTrace,yT]
theorem eqT_dated (a b d e f g h i j:Int):eqTrace ⟨a,b,2,d,e,f,g,h,i,j⟩ (yT ⟨a,b,2,d,e,f,g,h,i,j⟩)=eqTrace ⟨0,0,0,0,0,f,0,0,i,j⟩ ⟨0,0,0,0,0,0,0,0,0,0⟩:=by simp [eqTrace,yT]
theorem eqT_moved (a b d e f g h i j:Int):eqTrace ⟨a,b,3,d,e,f,g,h,i,j⟩ (yT ⟨a,b,3,d,e,f,g,h,i,j⟩)=eqTrace ⟨0,0,0,0,0,f,g,h,0,j⟩ ⟨0,0,0,0,0,0,0,0,0,0⟩:=by simp [eqTrace,yT]
theorem rCheckTrace_void (a b d e f g h i j:Int) (w:World):
 Calls Tryz.prog 21 #[.agg #[.int .i64 a,.int .i64 b,.int .u8 4,.int .i64 d,.int .i64 e,.int .i64 f,.int .i64 g,.int .i64 h,.int .i64 i,.int .i64 j]] w
  fun e' w'=>e' = .returned (.int .i64 (checkTrace ⟨a,b,4,d,e,f,g,h,i,j⟩))∧Below w.heap.size w w':=by
 go_enter Tryz.func21,Tryz.ntmps21
 go_wp2_with (first
  | (go_at_call 47;refine (rWithin_any _ _ _ _).mono ?_;rintro e w' ⟨rfl,rfl⟩)
  | (go_at_call 46;refine (rIsPlace_any _ _ _).mono ?_;rintro e wI ⟨rfl,hbI⟩;obtain ⟨hccI,hffI⟩:=bcell hbI;have hzI:=hbI.size;(try simp only [World.size_alloc,World.size_setCell,World.size_drew,World.heap_drewN] at hzI);have:w.heap.size<wI.heap.size:=(by omega);have:w.heap.size+1<wI.heap.size:=(by omega)))
 all_goals go_ret
 all_goals refine ⟨retI ?_,?_⟩
 all_goals first|((repeat' (first|(with_reducible assumption)|(with_reducible exact Below.refl _ _)|(with_reducible refine Below.drew ?_)|(with_reducible refine below_drewN' ?_ _)|(with_reducible refine Below.alloc ?_ ?_ _)|(with_reducible refine Below.setCell ?_ ?_ _)|(with_reducible refine below_step (by assumption) ?_ ?_)))<;>first|(simp;done)|(simp;omega)|omega)|(simp_all [checkTrace,okT,eqT_void];done)|(simp_all [checkTrace,okT,isPlaceB,inB,eqT_void];done)|(simp_all [checkTrace,okT,isPlaceB,inB,eqT_void];omega)
theorem rCheckTrace_above (a b d e f g h i j:Int) (w:World):
 Calls Tryz.prog 21 #[.agg #[.int .i64 a,.int .i64 b,.int .u8 1,.int .i64 d,.int .i64 e,.int .i64 f,.int .i64 g,.int .i64 h,.int .i64 i,.int .i64 j]] w
  fun e' w'=>e' = .returned (.int .i64 (checkTrace ⟨a,b,1,d,e,f,g,h,i,j⟩))∧Below w.heap.size w w':=by
 go_enter Tryz.func21,Tryz.ntmps21
 go_wp2_with (first
  | (go_at_call 47;refine (rWithin_any _ _ _ _).mono ?_;rintro e w' ⟨rfl,rfl⟩)
  | (go_at_call 46;refine (rIsPlace_any _ _ _).mono ?_;rintro e wI ⟨rfl,hbI⟩;obtain ⟨hccI,hffI⟩:=bcell hbI;have hzI:=hbI.size;(try simp only [World.size_alloc] at hzI);have:w.heap.size<wI.heap.size:=(by omega);have:w.heap.size+1<wI.heap.size:=(by omega)))
 all_goals go_ret
 all_goals refine ⟨retI ?_,?_⟩
 all_goals first|((repeat' (first|(with_reducible assumption)|(with_reducible exact Below.refl _ _)|(with_reducible refine Below.drew ?_)|(with_reducible refine below_drewN' ?_ _)|(with_reducible refine Below.alloc ?_ ?_ _)|(with_reducible refine Below.setCell ?_ ?_ _)|(with_reducible refine below_step (by assumption) ?_ ?_)))<;>first|(simp;done)|(simp;omega)|omega)|(simp_all [checkTrace,okT,isPlaceB,eqT_above];done)|(simp_all [checkTrace,okT,isPlaceB,inB,eqT_above];done)|(simp_all [checkTrace,okT,isPlaceB,inB,eqT_above];omega)
theorem rCheckTrace_dated (a b d e f g h i j:Int) (w:World):
 Calls Tryz.prog 21 #[.agg #[.int .i64 a,.int .i64 b,.int .u8 2,.int .i64 d,.int .i64 e,.int .i64 f,.int .i64 g,.int .i64 h,.int .i64 i,.int .i64 j]] w
  fun e' w'=>e' = .returned (.int .i64 (checkTrace ⟨a,b,2,d,e,f,g,h,i,j⟩))∧Below w.heap.size w w':=by
 go_enter Tryz.func21,Tryz.ntmps21
 go_wp2_with (first
  | (go_at_call 47;refine (rWithin_any _ _ _ _).mono ?_;rintro e w' ⟨rfl,rfl⟩)
  | (go_at_call 46;refine (rIsPlace_any _ _ _).mono ?_;rintro e wI ⟨rfl,hbI⟩;obtain ⟨hccI,hffI⟩:=bcell hbI;have hzI:=hbI.size;(try simp only [World.size_alloc] at hzI);have:w.heap.size<wI.heap.size:=(by omega);have:w.heap.size+1<wI.heap.size:=(by omega)))
 all_goals go_ret
 all_goals refine ⟨retI ?_,?_⟩
 all_goals first|((repeat' (first|(with_reducible assumption)|(with_reducible exact Below.refl _ _)|(with_reducible refine Below.drew ?_)|(with_reducible refine below_drewN' ?_ _)|(with_reducible refine Below.alloc ?_ ?_ _)|(with_reducible refine Below.setCell ?_ ?_ _)|(with_reducible refine below_step (by assumption) ?_ ?_)))<;>first|(simp;done)|(simp;omega)|omega)|(simp_all [checkTrace,okT,isPlaceB,eqT_dated];done)|(simp_all [checkTrace,okT,isPlaceB,inB,eqT_dated];done)|(simp_all [checkTrace,okT,isPlaceB,inB,eqT_dated];omega)
theorem rCheckTrace_moved (a b d e f g h i j:Int) (w:World):
 Calls Tryz.prog 21 #[.agg #[.int .i64 a,.int .i64 b,.int .u8 3,.int .i64 d,.int .i64 e,.int .i64 f,.int .i64 g,.int .i64 h,.int .i64 i,.int .i64 j]] w
  fun e' w'=>e' = .returned (.int .i64 (checkTrace ⟨a,b,3,d,e,f,g,h,i,j⟩))∧Below w.heap.size w w':=by
 go_enter Tryz.func21,Tryz.ntmps21
 go_wp2_with (first
  | (go_at_call 47;refine (rWithin_any _ _ _ _).mono ?_;rintro e w' ⟨rfl,rfl⟩)
  | (go_at_call 46;refine (rIsPlace_any _ _ _).mono ?_;rintro e wI ⟨rfl,hbI⟩;obtain ⟨hccI,hffI⟩:=bcell hbI;have hzI:=hbI.size;(try simp only [World.size_alloc] at hzI);have:w.heap.size<wI.heap.size:=(by omega);have:w.heap.size+1<wI.heap.size:=(by omega)))
 all_goals go_ret
 all_goals refine ⟨retI ?_,?_⟩
 all_goals first|((repeat' (first|(with_reducible assumption)|(with_reducible exact Below.refl _ _)|(with_reducible refine Below.drew ?_)|(with_reducible refine below_drewN' ?_ _)|(with_reducible refine Below.alloc ?_ ?_ _)|(with_reducible refine Below.setCell ?_ ?_ _)|(with_reducible refine below_step (by assumption) ?_ ?_)))<;>first|(simp;done)|(simp;omega)|omega)|(simp_all [checkTrace,okT,isPlaceB,eqT_moved];done)|(simp_all [checkTrace,okT,isPlaceB,inB,eqT_moved];done)|(simp_all [checkTrace,okT,isPlaceB,inB,eqT_moved];omega)
theorem rCheckTrace_other (a b c d e f g h i j:Int) (w:World) (h1:c≠1) (h2:c≠2) (h3:c≠3) (h4:c≠4):
 Calls Tryz.prog 21 #[.agg #[.int .i64 a,.int .i64 b,.int .u8 c,.int .i64 d,.int .i64 e,.int .i64 f,.int .i64 g,.int .i64 h,.int .i64 i,.int .i64 j]] w
  fun e' w'=>e' = .returned (.int .i64 (checkTrace ⟨a,b,c,d,e,f,g,h,i,j⟩))∧Below w.heap.size w w':=by
 go_enter Tryz.func21,Tryz.ntmps21
 go_wp2_with (first
  | (go_at_call 47;refine (rWithin_any _ _ _ _).mono ?_;rintro e w' ⟨rfl,rfl⟩)
  | (go_at_call 46;refine (rIsPlace_any _ _ _).mono ?_;rintro e wI ⟨rfl,hbI⟩;obtain ⟨hccI,hffI⟩:=bcell hbI;have hzI:=hbI.size;(try simp only [World.size_alloc,World.size_setCell,World.size_drew,World.heap_drewN] at hzI);have:w.heap.size<wI.heap.size:=(by omega);have:w.heap.size+1<wI.heap.size:=(by omega)))
 all_goals go_ret
 all_goals refine ⟨retI ?_,?_⟩
 all_goals first|((repeat' (first|(with_reducible assumption)|(with_reducible exact Below.refl _ _)|(with_reducible refine Below.drew ?_)|(with_reducible refine below_drewN' ?_ _)|(with_reducible refine Below.alloc ?_ ?_ _)|(with_reducible refine Below.setCell ?_ ?_ _)|(with_reducible refine below_step (by assumption) ?_ ?_)))<;>first|(simp;done)|(simp;omega)|omega)|(simp_all [checkTrace,okT,isPlaceB];done)|(simp_all [checkTrace,okT,isPlaceB,inB];done)|(simp_all [checkTrace,okT,isPlaceB,inB];omega)
theorem rCheckTrace_any (a b c d e f g h i j:Int) (w:World):
 Calls Tryz.prog 21 #[.agg #[.int .i64 a,.int .i64 b,.int .u8 c,.int .i64 d,.int .i64 e,.int .i64 f,.int .i64 g,.int .i64 h,.int .i64 i,.int .i64 j]] w
  fun e' w'=>e' = .returned (.int .i64 (checkTrace ⟨a,b,c,d,e,f,g,h,i,j⟩))∧Below w.heap.size w w':=by
 by_cases h1:c=1
 · subst h1;exact rCheckTrace_above a b d e f g h i j w
 by_cases h2:c=2
 · subst h2;exact rCheckTrace_dated a b d e f g h i j w
 by_cases h3:c=3
 · subst h3;exact rCheckTrace_moved a b d e f g h i j w
 by_cases h4:c=4
 · subst h4;exact rCheckTrace_void a b d e f g h i j w
 exact rCheckTrace_other a b c d e f g h i j w h1 h2 h3 h4
open Go.ChangeShapes Go.WideShapes Go.Deep
theorem kidsP:Kids Tryz.prog (· < Tryz.prog.types.size):=kids_rows (by kernel_rfl) (by kernel_rfl)
theorem fullP:∀ t e,t<Tryz.prog.types.size→Tryz.prog.underlying t=some (.slice e)→0<Tryz.prog.cellsOf e:=slices_full_of Tryz.prog (by kernel_rfl)
section
variable {H:Type} {enc:TypeId×Value→H} {w W W':World} {base:Nat} {spare:Nat→Bool} {held:Bool}
theorem trodAll_carry (hs:∀ p:MemPlace,p.block<W.heap.size→W.sameAt W' p) {sp:Nat→Bool} :∀ {ts:List TypeId} {vs:List Value} {ds:List (DataW H)} {ps:List MemPlace},DataW.TrodAll enc Tryz.prog W base sp held ts vs ds ps→DataW.TrodAll enc Tryz.prog W' base sp held ts vs ds ps
 | [],[],[],_,h=>h
 | t::ts,v::vs,d::ds,_,⟨p,q,h1,h2,e⟩=>by
   have hlt:=DataW.TrodAll.lt (ts:=[t]) (vs:=[v]) (ds:=[d]) (trodAll_mk1 h1)
   obtain ⟨n,hn⟩:=h1
   exact ⟨p,q,⟨n,DataW.trod_carry n _ _ _ hn fun x hx=>hs x (hlt x hx)⟩,trodAll_carry hs h2,e⟩
theorem args_kept {ts:List TypeId} {vs:List Value} {ds:List (DataW H)} {ps:List MemPlace} (hA:DataW.TrodAll enc Tryz.prog W 0 (fun _=>true) true ts vs ds ps) (hb:Below W.heap.size W W') (hT:∀ t∈ts,t<Tryz.prog.types.size) (sp:Nat→Bool) (hsp:∀ p∈ps,sp p.block=true):
 DataW.TrodAll enc Tryz.prog W' 0 sp true ts vs ds ps:=
 DataW.TrodAll.respare kidsP fullP hT (trodAll_carry (fun _ h=>hb.same h) hA) hsp
theorem field_read {P:Program} {fs:Array Field} {xs:List (DataW H×List MemPlace)} {n:Nat} {cs:List Value} (hf:∀ (i:Nat) (f:Field),fs[i]? = some f→DataW.trod enc P w base spare held n f.type ((cs.drop f.offset).take (P.cellsOf f.type))=xs[i]?) (hl:xs.length=fs.size)
 (i:Nat) {f:Field} (hi:fs[i]? = some f) (t o k:Nat) (ht:f.type=t) (ho:f.offset=o) (hk:P.cellsOf t=k):∃ y,DataW.trod enc P w base spare held n t ((cs.drop o).take k)=some y:=by
 subst ht
 subst ho
 subst hk
 have h:=hf i f hi
 have hlt:=(Array.getElem?_eq_some_iff.1 hi).1
 rw [List.getElem?_eq_getElem (by omega)] at h
 exact ⟨_,h⟩
theorem one_int {P:Program} {t:TypeId} {k:IntKind} {fuel:Nat} {v:Value} {x:DataW H×List MemPlace} (ht:P.underlying t=some (.int k)) (h:DataW.trod enc P w base spare held fuel t [v]=some x):∃ n,v = .int k n∧(Lit.int k n).wf=true:=by
 obtain ⟨n,hn,_,hw⟩:=DataW.trod_int ht h
 cases hn
 exact ⟨n,rfl,hw⟩
theorem cellsInt:Tryz.prog.cellsOf 3=1:=by kernel_rfl
theorem cellsU8:Tryz.prog.cellsOf 5=1:=by kernel_rfl
theorem decTrace {fuel:Nat} {cs:List Value} {x:DataW H×List MemPlace} (h:DataW.trod enc Tryz.prog w base spare held fuel 23 cs=some x):∃ y:Trace,cs=encTrace y:=by
 obtain ⟨xs,m,_,_,hl,hxl,hf⟩:=DataW.trod_struct Tryz.underlying23 h
 rw [show Tryz.prog.cellsOf 23=10 by kernel_rfl] at hl
 match cs,hl with
 | [c0,c1,c2,c3,c4,c5,c6,c7,c8,c9],_=>
   obtain ⟨y0,g0⟩:=field_read hf hxl 0 rfl 3 0 1 rfl rfl cellsInt
   obtain ⟨y1,g1⟩:=field_read hf hxl 1 rfl 3 1 1 rfl rfl cellsInt
   obtain ⟨y2,g2⟩:=field_read hf hxl 2 rfl 5 2 1 rfl rfl cellsU8
   obtain ⟨y3,g3⟩:=field_read hf hxl 3 rfl 3 3 1 rfl rfl cellsInt
   obtain ⟨y4,g4⟩:=field_read hf hxl 4 rfl 3 4 1 rfl rfl cellsInt
   obtain ⟨y5,g5⟩:=field_read hf hxl 5 rfl 3 5 1 rfl rfl cellsInt
   obtain ⟨y6,g6⟩:=field_read hf hxl 6 rfl 3 6 1 rfl rfl cellsInt
   obtain ⟨y7,g7⟩:=field_read hf hxl 7 rfl 3 7 1 rfl rfl cellsInt
   obtain ⟨y8,g8⟩:=field_read hf hxl 8 rfl 3 8 1 rfl rfl cellsInt
   obtain ⟨y9,g9⟩:=field_read hf hxl 9 rfl 3 9 1 rfl rfl cellsInt
   simp only [List.drop_zero,List.drop_succ_cons,List.take_succ_cons,List.take_zero] at g0 g1 g2 g3 g4 g5 g6 g7 g8 g9
   obtain ⟨a0,rfl,_⟩:=one_int Tryz.underlying3 g0
   obtain ⟨a1,rfl,_⟩:=one_int Tryz.underlying3 g1
   obtain ⟨a2,rfl,_⟩:=one_int Tryz.underlying5 g2
   obtain ⟨a3,rfl,_⟩:=one_int Tryz.underlying3 g3
   obtain ⟨a4,rfl,_⟩:=one_int Tryz.underlying3 g4
   obtain ⟨a5,rfl,_⟩:=one_int Tryz.underlying3 g5
   obtain ⟨a6,rfl,_⟩:=one_int Tryz.underlying3 g6
   obtain ⟨a7,rfl,_⟩:=one_int Tryz.underlying3 g7
   obtain ⟨a8,rfl,_⟩:=one_int Tryz.underlying3 g8
   obtain ⟨a9,rfl,_⟩:=one_int Tryz.underlying3 g9
   exact ⟨⟨a0,a1,a2,a3,a4,a5,a6,a7,a8,a9⟩,rfl⟩
end
end Go.Proofs.YtejjplhknacoiaaGreatDoor
end

/- Contracts that the laws lean on: NarP, RefP, Bell3, Reg, Flow, FlowC, Open, AskC. -/
import Derived.Test.YtelnkflmnbhclaaGreatK21
import Derived.Test.YtelnkflmnbhclaaGreatK23
import Derived.Test.YtelnkflmnbhclaaGreatK18
import Derived.Test.YtelnkflmnbhclaaGreatK20
import Derived.Test.YtelnkflmnbhclaaGreatK10
import Derived.Test.YtelnkflmnbhclaaGreatK01
import Derived.ReadAgain
import Derived.Deep.Slices
import Derived.Test.YtelnkflmnbhclaaGreatK17
section
namespace Go.Proofs.YtelnkflmnbhclaaGreat
open Go.RowKit Go.Proofs Go.Shelf
theorem hasPl_iff {mv:List Place} {p:Place} : hasPl mv p=true↔p∈mv:=by
 unfold hasPl
 simp only [List.any_eq_true,eqPlace_iff]
 exact ⟨fun ⟨x,hx,e⟩=>by rw [e];exact hx,fun h=>⟨p,h,rfl⟩⟩
theorem comparePl_lt {a b:Place} : comparePl a b<0↔ltPl a b:=by
 have:=ltOf_pl a b
 unfold ltOf at this
 constructor
 · intro h
   rw [decide_eq_true h] at this
   exact of_decide_eq_true this.symm
 · intro h
   rw [decide_eq_true h] at this
   exact of_decide_eq_true this
theorem notOrd_iff {mv:List Place} : (∀ i,i<mv.length→notOrd mv i=false)↔mv.Pairwise ltPl:=by
 rw [List.pairwise_iff_getElem]
 have key:∀ i (hi:i+1<mv.length),notOrd mv (i+1)=false↔ltPl mv[i] mv[i+1]:=fun i hi=>by
  rw [notOrd_at (List.getElem?_eq_getElem (by omega)) (List.getElem?_eq_getElem hi),decide_eq_false_iff_not,←comparePl_lt]
  omega
 constructor
 · intro h i j hi hj hij
   induction j with
   | zero=>omega
   | succ j ih=>
     have h1:=(key j hj).1 (h (j+1) hj)
     by_cases e:i=j
     · subst e;exact h1
     · exact ltPl_trans (ih (by omega) (by omega)) h1
 · intro h i hi
   cases i with
   | zero=>rfl
   | succ i=>exact (key i hi).2 (h i (i+1) (by omega) hi (by omega))
theorem admittedErr_zero {ads:List Admit} {mv:List Place} : admittedErr ads mv=0↔mv.Pairwise ltPl∧∀ p∈mv,isAdm ads p=true:=by
 rw [←notOrd_iff]
 unfold admittedErr
 constructor
 · intro h
   split at h
   · cases h
   · rename_i h1
     split at h
     · cases h
     · rename_i h2
       refine ⟨fun i hi=> ?_,fun p hp=> ?_⟩
       · cases hn:notOrd mv i with
         | false=>rfl
         | true=>exact absurd (List.any_eq_true.2 ⟨i,List.mem_range.2 hi,hn⟩) h1
       · cases hn:isAdm ads p with
         | true=>rfl
         | false=>exact absurd (List.any_eq_true.2 ⟨p,hp,by simp [hn]⟩) h2
 · rintro ⟨h1,h2⟩
   rw [if_neg,if_neg]
   · intro h
     obtain ⟨p,hp,hn⟩:=List.any_eq_true.1 h
     rw [h2 p hp] at hn;cases hn
   · intro h
     obtain ⟨i,hi,hn⟩:=List.any_eq_true.1 h
     rw [h1 i (List.mem_range.1 hi)] at hn;cases hn
theorem withErr_zero {l:List Trace} {known:Int} {bs:List Bond} {mv:List Place} : withErr l known bs mv=0↔askErr l known bs=0∧admittedErr (admitsOf (counting l known)) mv=0:=by
 unfold withErr
 by_cases h:askErr l known bs=0
 · rw [if_neg (by simpa using h)];simp [h]
 · rw [if_pos h];simp [h]
theorem datesV_is {l:List Trace} {known:Int} {bs:List Bond} {mv:List Place} : (datesV l known bs mv).2.1=(decide (withErr l known bs mv=0)&&enough (counting l known) bs mv):=by
 unfold datesV
 by_cases h:withErr l known bs mv=0
 · rw [if_neg (by simpa using h),decide_eq_true h,Bool.true_and]
   show _=solvedOk _ (sysOf l known bs mv)
   split
   · rename_i h2;exact h2.symm
   · rename_i h2;simpa using h2
 · rw [if_pos h,decide_eq_false h];rfl
end Go.Proofs.YtelnkflmnbhclaaGreat
end
section
namespace Go.Proofs.YtelnkflmnbhclaaGreat
open Go.RowKit Go.Proofs Go.Shelf
theorem ltPl_not {a b:Place} (h1:¬ltPl a b) (h2:a≠b):ltPl b a:=by
 cases a;cases b
 simp only [ltPl,Place.mk.injEq,ne_eq] at h1 h2 ⊢
 omega
theorem sortPl_asc {l:List Place} (h:l.Nodup):(sortPl l).Pairwise ltPl:=by
 have h1:=sortPl_pairwise l
 have h2:(sortPl l).Nodup:=(sortPl_perm l).nodup_iff.2 h
 exact (h1.and h2).imp fun {a b} h=>by
  obtain ⟨h3,h4⟩:=h
  rw [gePl_iff] at h3
  exact ltPl_not h3 (fun e=>h4 e.symm)
end Go.Proofs.YtelnkflmnbhclaaGreat
end
section
namespace Go.Proofs.YtelnkflmnbhclaaGreat
theorem val_start {a:Int} (h1:0≤a) (h2:a<60) (v:Nat):val (rPut emptyRow a 0) v=if v=a.toNat then 0 else if v<60 then noneV else 0:=by
 have he:emptyRow.length=60:=by simp [emptyRow]
 simp only [rPut]
 rw [val_set _ _ _ _ (by rw [he];omega)]
 by_cases e:v=a.toNat
 · subst e;rw [if_pos rfl,if_pos rfl]
 · rw [if_neg (fun h=>e h.symm),if_neg e]
   unfold val emptyRow
   rw [List.getD_eq_getElem?_getD,List.getElem?_replicate]
   split<;>rfl
section
variable {pts:Int} {bs:List Bound} (hok:SysOk pts bs) {a:Int} (h1:0≤a) (h2:a<pts)
include hok h1 h2
end
end Go.Proofs.YtelnkflmnbhclaaGreat
end
section
namespace Go.Proofs.YtelnkflmnbhclaaGreat
open Go.RowKit Go.Proofs
def bare (o:Oper):Oper:={ o with guard:=none }
def bareL (l:List Oper):List Oper:=l.map bare
theorem bare_at {l:List Oper} {j:Nat} : (bareL l).toArray[j]? = (l.toArray[j]?).map bare:=by simp [bareL]
theorem bare_of {l:List Oper} {j:Nat} {o:Oper} (h:l.toArray[j]? = some o):(bareL l).toArray[j]? = some (bare o):=by rw [bare_at,h];rfl
theorem bare_size (l:List Oper):(bareL l).toArray.size=l.toArray.size:=by simp [bareL]
theorem dst_bare (l:List Oper) (j:Nat):dstOf (bareL l).toArray j=dstOf l.toArray j:=by
 unfold dstOf
 rw [bare_at]
 cases l.toArray[j]? <;> rfl
theorem ready_bare {l:List Oper} {i:Nat} {listed:Array Bool} (h:i∈Region.ready .any l.toArray listed):i∈Region.ready .any (bareL l).toArray listed:=by
 obtain ⟨h1,o,h2,h3⟩:=mem_ready.1 h
 exact mem_ready.2 ⟨h1,bare o,bare_of h2,h3⟩
section
variable {P:Program} {nn:Nat} {l:List Oper}
theorem wpAnyIn_invG {Q:Exit→Act→World→Prop} {m:Nat} (hok:tabOk (bareL l).toArray m=true) (I:Array Bool→Act→World→Prop)
 (hstep:∀ listed i o b W,listed.size=l.toArray.size→i∈Region.ready .any l.toArray listed→l.toArray[i]? = some o→I listed b W→
   if Region.wanted o (yielded l.toArray b.tmps)=true then o.wpIn Fence.wide nn P b W (fun b' W'=>I (listed.setIfInBounds i true) b' W') Q else I (listed.setIfInBounds i true) (b.put o.dst undef) W)
 (hend:∀ b W,I (Array.replicate l.toArray.size true) b W→Q .normal b W):
 ∀ (fuel:Nat) (listed:Array Bool) (b:Act) (W:World),left listed=fuel→listed.size=l.toArray.size→I listed b W→wpAnyIn Fence.wide nn P .any l.toArray Q fuel listed b W:=by
 intro fuel
 induction fuel with
 | zero=>
   intro listed b W hl hs h
   have hall:=left_zero hl
   rw [hs] at hall
   refine ⟨?_,hend b W (hall ▸ h)⟩
   apply List.eq_nil_iff_forall_not_mem.2
   intro i hi
   obtain ⟨hun,o,ho,_⟩:=mem_ready.1 hi
   have hlt:i<l.toArray.size:=(Array.getElem?_eq_some_iff.1 ho).1
   rw [hall] at hun
   rw [Array.getD_eq_getD_getElem?,Array.getElem?_replicate,if_pos hlt] at hun
   cases hun
 | succ fuel ih=>
   intro listed b W hl hs h
   refine ⟨fun hnil=> ?_,fun i hi=> ?_⟩
   · obtain ⟨i,hi,hmin⟩:=left_pos (listed:=listed) (by omega)
     have hlt:i<l.toArray.size:=by rw [←hs];exact (Array.getElem?_eq_some_iff.1 hi).1
     have ho:l.toArray[i]? = some l.toArray[i]:=Array.getElem?_eq_getElem hlt
     obtain ⟨_,_,hed,_⟩:=tabOk_at hok (bare_of ho)
     have:i∈Region.ready .any l.toArray listed:=mem_ready.2 ⟨by simp [hi],l.toArray[i],ho,fun e he hbd=>by have:=hmin e.on (hed e he hbd);simp [this]⟩
     rw [hnil] at this
     cases this
   · obtain ⟨hun,o,ho,hall⟩:=mem_ready.1 hi
     have hlt:i<listed.size:=by rw [hs];exact (Array.getElem?_eq_some_iff.1 ho).1
     have hf:listed[i]? = some false:=by
      rw [Array.getElem?_eq_getElem hlt]
      rw [Array.getD_eq_getD_getElem?,Array.getElem?_eq_getElem hlt] at hun
      simpa using hun
     have hl':left (listed.setIfInBounds i true)=fuel:=by have:=left_set hf;omega
     have hst:=hstep listed i o b W hs hi ho h
     unfold wpOpIn
     simp only [ho]
     split
     · rename_i hw
       rw [if_pos hw] at hst
       exact Oper.wpIn_mono (fun b' W' h'=>ih _ b' W' hl' (by simp [hs]) h') hst
     · rename_i hw
       rw [if_neg hw] at hst
       exact ⟨fun _ _=>trivial,ih _ _ _ hl' (by simp [hs]) hst⟩
structure ValsAt (l:List Oper) (a:Act) (V:Nat→Value) (G:World→Prop) (listed:Array Bool) (b:Act) (W:World):Prop where
 tab:TabAt (bareL l).toArray V a listed b
 later:Later (bareL l).toArray a listed b
 glob:G W
theorem ValsAt.val {a b:Act} {V:Nat→Value} {G:World→Prop} {listed:Array Bool} {W:World} (h:ValsAt l a V G listed b W) (j d:Nat) (hd:dstOf l.toArray j=some d) (hl:listed.getD j false=true):b.tmps.getD d undef=V j:=
 h.tab.val j d (by rw [dst_bare];exact hd) hl
theorem wanted_of {a b:Act} {V:Nat→Value} {G:World→Prop} {listed:Array Bool} {W:World} (h:ValsAt l a V G listed b W) {o:Oper} {j d:Nat} {g v:Bool} (hg:o.guard=some (j,g)) (hd:dstOf l.toArray j=some d) (hl:listed.getD j false=true) (hv:V j = .bool v):
 Region.wanted o (yielded l.toArray b.tmps)=(v==g):=by
 have h1:=h.val j d hd hl
 rw [hv] at h1
 have h2:b.tmps[d]? = some (.bool v):=by
  rw [Array.getD_eq_getD_getElem?] at h1
  cases hx:b.tmps[d]? with
  | none=>rw [hx] at h1;cases h1
  | some x=>rw [hx] at h1;simpa using h1
 have h3:yielded l.toArray b.tmps j=some v:=by
  unfold yielded
  have hd':(l.toArray[j]?).bind (·.dst)=some d:=hd
  rw [hd',Option.bind_some,h2]
 unfold Region.wanted
 rw [hg]
 simp only [h3]
 cases v<;>cases g<;>rfl
theorem wpIn_region_vals {id:Nat} {Q:Exit→Act→World→Prop} {a:Act} {w:World} (m:Nat) (hm:P.follows .mixedOrders=true) (hok:tabOk (bareL l).toArray m=true) (hT:m=a.tmps.size) (V:Nat→Value) (G:World→Prop) (hG:G w.drew)
 (hstep:∀ listed i o b W,i∈Region.ready .any l.toArray listed→l.toArray[i]? = some o→ValsAt l a V G listed b W→
   if Region.wanted o (yielded l.toArray b.tmps)=true then o.wpIn Fence.wide nn P b W (fun b' W'=>b'=b.put o.dst (V i)∧G W') Q else V i=undef)
 (hend:∀ W,G W→Q .normal { tmps:=framed (bareL l).toArray V a.tmps (bareL l).toArray.size,defers:=a.defers } W):(Code.region id l.toArray true).wpIn Fence.wide nn P Q a w:=by
 refine wpIn_region_any hm ?_
 refine wpAnyIn_invG hok (fun listed b W=>ValsAt l a V G listed b W) ?_ ?_ _ _ _ _ ?_ (by simp) ?_
 · intro listed i o b W hs hi ho h
   have hst:=hstep listed i o b W hi ho h
   have hs':listed.size=(bareL l).toArray.size:=by rw [bare_size];exact hs
   have step:∀ W',G W'→ValsAt l a V G (listed.setIfInBounds i true) (b.put o.dst (V i)) W':=fun W' hW'=>
    ⟨(h.tab.set hok hT (ready_bare hi) (bare_of ho):TabAt (bareL l).toArray V a (listed.setIfInBounds i true) (b.put (bare o).dst (V i))),(h.later.set hok (bare_of ho) hs':Later (bareL l).toArray a (listed.setIfInBounds i true) (b.put (bare o).dst (V i))),hW'⟩
   split
   · rename_i hw
     rw [if_pos hw] at hst
     refine Oper.wpIn_mono ?_ hst
     rintro b' W' ⟨rfl,hW'⟩
     exact step W' hW'
   · rename_i hw
     rw [if_neg hw] at hst
     have:=step W h.glob
     rw [hst] at this
     exact this
 · intro b W h
   have h1:=h.tab
   rw [←bare_size] at h1
   rw [h1.act hok hT]
   exact hend W h.glob
 · have h2:∀ k,(List.filter (fun b=> !b) (List.replicate k false)).length=k:=by
    intro k
    rw [List.filter_eq_self.2 (fun b hb=>by rw [List.eq_of_mem_replicate hb];rfl),List.length_replicate]
   unfold left
   rw [Array.toList_replicate]
   exact h2 _
 · have h0:=TabAt.start (ops:=(bareL l).toArray) (V:=V) a
   rw [bare_size] at h0
   exact ⟨h0,fun _ _ _ _=>rfl,hG⟩
end
end Go.Proofs.YtelnkflmnbhclaaGreat
end
section
namespace Go.Proofs.YtelnkflmnbhclaaGreat
open Go.RowKit Go.Proofs
def wantV (V:Nat→Value) (o:Oper):Option Bool:=match o.guard with
 | none=>some true
 | some (j,g)=>match V j with
   | .bool v=>some (v==g)
   | _=>none
def frameL (V:Nat→Value):Nat→List Oper→Array Value→Array Value
 | _,[],t=>t
 | i,o::l,t=>frameL V (i+1) l (match o.dst with|some d=>t.setIfInBounds d (V i)|none=>t)
def setsL:Array Value→Nat→List Value→Array Value
 | t,_,[]=>t
 | t,k,v::vs=>setsL (t.setIfInBounds k v) (k+1) vs
def tmpOk (ops:Array Oper) (o:Oper):Operand→Bool
 | .tmp s=>(List.range ops.size).all (fun k=>dstOf ops k != some s)||o.after.any (fun e=>Region.binds .any e&&dstOf ops e.on==some s)
 | _=>true
def plainOp:Op→Bool
 | .select _ _=>false
 | .defer _=>false
 | _=>true
def flowOk (ops:Array Oper):Bool:=ops.all fun o=>o.op.operands.all (tmpOk ops o)&&plainOp o.op &&
 (match o.guard with|none=>true|some (j,_)=>(dstOf ops j).isSome&&o.after.any (fun e=>Region.binds .any e&&e.on==j))
theorem any_mem {α:Type} {xs:Array α} {p:α→Bool} (h:xs.any p=true):∃ x,x∈xs∧p x=true:=by
 rw [Array.any_eq_true] at h
 obtain ⟨i,hi,hp⟩:=h
 exact ⟨xs[i],Array.getElem_mem hi,hp⟩
def noDst (ops:Array Oper) (s:Nat):Bool:=(List.range ops.size).all (fun k=>dstOf ops k != some s)
theorem noDst_iff {ops:Array Oper} {s:Nat} (h:noDst ops s=true):∀ j,dstOf ops j≠some s:=by
 intro j hj
 have hjs:j<ops.size:=by
  rcases Nat.lt_or_ge j ops.size with h|h
  · exact h
  · simp [dstOf,Array.getElem?_eq_none h] at hj
 have h1:=List.all_eq_true.1 h j (List.mem_range.2 hjs)
 rw [hj] at h1
 simp at h1
def StepQ (P:Program) (G:World→Prop) (b:Act) (o:Oper) (v:Value):Prop:=
 ∀ W,G W→(execOp b.eval o).run P W = .ok (.value v) W∨((execOp b.eval o).run P W = .ok .skip W∧v=undef)∨
   ∃ f args,(execOp b.eval o).run P W = .ok (.enter f args) W∧Calls P f args W fun e w'=>e = .returned v∧G w'
def factsL (b:Act) (V:Nat→Value):Nat→List Oper→Prop
 | _,[]=>True
 | i,o::l=>(match o.dst with|some d=>b.tmps[d]?.getD undef=V i|none=>True)∧factsL b V (i+1) l
section
variable {P:Program} {G:World→Prop} {b:Act} {V:Nat→Value}
theorem facts_of {l:List Oper} :∀ {k:Nat},(∀ i d,(l[i]?).bind (·.dst)=some d→b.tmps[d]?.getD undef=V (k+i))→factsL b V k l:=by
 induction l with
 | nil=>intro k _;trivial
 | cons x l ih=>
   intro k h
   refine ⟨?_,ih fun i d hd=> ?_⟩
   · have:=h 0
     simp only [List.getElem?_cons_zero,Option.bind_some,Nat.add_zero] at this
     split
     · rename_i d hd;exact this d hd
     · trivial
   · have:=h (i+1) d (by simpa using hd)
     rwa [show k+(i+1)=k+1+i from by omega] at this
theorem frameL_eq (ops:Array Oper) (t:Array Value):∀ (l:List Oper) (i:Nat),(∀ j,l[j]? = ops[i+j]?)→frameL V i l (framed ops V t i)=framed ops V t (i+l.length):=by
 intro l
 induction l with
 | nil=>intro i _;rfl
 | cons o l ih=>
   intro i h
   have h0:ops[i]? = some o:=by have:=h 0;simpa using this.symm
   have h1:=ih (i+1) (fun j=>by have:=h (j+1);rw [List.getElem?_cons_succ] at this;rw [this];congr 1;omega)
   have hd:dstOf ops i=o.dst:=by rw [dstOf,h0];rfl
   rw [List.length_cons,show i+(l.length+1)=i+1+l.length from by omega,←h1]
   show frameL V (i+1) l (match o.dst with|some d=>(framed ops V t i).setIfInBounds d (V i)|none=>framed ops V t i)=_
   congr 1
   rw [framed,hd]
   cases o.dst<;>rfl
end
theorem flow_op {ops:Array Oper} (h:flowOk ops=true) {i:Nat} {o:Oper} (hi:ops[i]? = some o):
 (∀ x∈o.op.operands,tmpOk ops o x=true)∧(∀ cs b,o.op ≠ .select cs b)∧(∀ j g,o.guard=some (j,g)→(∃ d,dstOf ops j=some d)∧∃ e∈o.after,Region.binds .any e=true∧e.on=j):=by
 have h1:=Array.all_eq_true_iff_forall_mem.1 h o (Array.mem_of_getElem? hi)
 simp only [Bool.and_eq_true] at h1
 obtain ⟨⟨h1,h2⟩,h3⟩:=h1
 refine ⟨fun x hx=>Array.all_eq_true_iff_forall_mem.1 h1 x hx,fun cs b e=>(by rw [e] at h2;cases h2),fun j g e=> ?_⟩
 rw [e] at h3
 simp only [Bool.and_eq_true] at h3
 obtain ⟨h3,h4⟩:=h3
 obtain ⟨e,he,hb⟩:=any_mem h4
 simp only [Bool.and_eq_true,beq_iff_eq] at hb
 exact ⟨Option.isSome_iff_exists.1 h3,e,he,hb⟩
end Go.Proofs.YtelnkflmnbhclaaGreat
end
section
namespace Go.Proofs.YtelnkflmnbhclaaGreat
open Go.RowKit Go.Proofs
def idxC:List Nat→Nat→Option Nat
 | [],_=>none
 | c::ch,i=>if i=c then some 0 else (idxC ch i).map (· + 1)
def Vc (T:Nat→List Value→Value) (sg:Nat→Nat) (ch:List Nat) (cv:List Value) (i:Nat):Value:=match idxC ch i with
 | some m=>cv.getD m undef
 | none=>T i (cv.take (sg i))
theorem len1 {cv:List Value} (h:cv.length=1):∃ a,cv = [a]:=by
 match cv,h with
 | [a],_=>exact ⟨a,rfl⟩
theorem len2 {cv:List Value} (h:cv.length=2):∃ a b,cv = [a,b]:=by
 match cv,h with
 | [a,b],_=>exact ⟨a,b,rfl⟩
def ancOf (ops:Array Oper):Nat→Nat→Nat→Bool
 | 0,_,_=>false
 | n+1,j,i=>match ops[j]? with
   | none=>false
   | some o=>o.after.any fun e=>Region.binds .any e&&(e.on==i||ancOf ops n e.on i)
def chainSteps (ops:Array Oper):List Nat→Bool
 | []=>true
 | [_]=>true
 | c::d::ch=>ancOf ops ops.size d c&&chainSteps ops (d::ch)
def chainOk (ops:Array Oper) (ch:List Nat):Bool:=chainSteps ops ch&&ch.all (fun c=>decide (c<ops.size))&&decide ch.Nodup
def limOk (ops:Array Oper) (ch:List Nat) (lim:Nat→Nat):Bool:=(List.range ops.size).all fun i=>ch.contains i||(match ch[lim i]? with|some c=>ancOf ops ops.size c i|none=>true)
section
variable {ops:Array Oper} {listed:Array Bool}
theorem anc_listed (hc:∀ j o,ops[j]? = some o→listed.getD j false=true→∀ e∈o.after,Region.binds .any e=true→listed.getD e.on false=true):∀ (n j i:Nat),ancOf ops n j i=true→listed.getD j false=true→listed.getD i false=true
 | 0,_,_,h,_=>by cases h
 | n+1,j,i,h,hl=>by
   unfold ancOf at h
   cases ho:ops[j]? with
   | none=>rw [ho] at h;cases h
   | some o=>
     rw [ho] at h
     obtain ⟨e,he,hb⟩:=any_mem h
     simp only [Bool.and_eq_true,Bool.or_eq_true,beq_iff_eq] at hb
     have h1:=hc j o ho hl e he hb.1
     rcases hb.2 with rfl|h2
     · exact h1
     · exact anc_listed hc n e.on i h2 h1
end
theorem idxC_none:∀ {ch:List Nat} {i:Nat},i∉ch→idxC ch i=none
 | [],_,_=>rfl
 | c::ch,i,h=>by
   unfold idxC
   rw [if_neg (fun e=>h (by rw [e];exact List.mem_cons_self)),idxC_none (fun e=>h (List.mem_cons_of_mem _ e))];rfl
theorem idxC_some:∀ {ch:List Nat} {m i:Nat},ch.Nodup→ch[m]? = some i→idxC ch i=some m
 | [],_,_,_,h=>by simp at h
 | c::ch,0,i,_,h=>by
   simp only [List.getElem?_cons_zero,Option.some.injEq] at h
   unfold idxC
   rw [if_pos h.symm]
 | c::ch,m+1,i,hn,h=>by
   simp only [List.getElem?_cons_succ] at h
   have hn':=List.nodup_cons.1 hn
   unfold idxC
   rw [if_neg (fun e=>hn'.1 (by rw [←e];exact List.mem_of_getElem? h)),idxC_some hn'.2 h];rfl
theorem Vc_out {T:Nat→List Value→Value} {sg:Nat→Nat} {ch:List Nat} {cv:List Value} {i:Nat} (h:i∉ch):Vc T sg ch cv i=T i (cv.take (sg i)):=by
 unfold Vc;rw [idxC_none h]
theorem Vc_in {T:Nat→List Value→Value} {sg:Nat→Nat} {ch:List Nat} {cv:List Value} {m i:Nat} (hn:ch.Nodup) (h:ch[m]? = some i):Vc T sg ch cv i=cv.getD m undef:=by
 unfold Vc;rw [idxC_some hn h]
def stageOk (ops:Array Oper) (ch:List Nat) (sg:Nat→Nat):Bool:=(List.range ops.size).all fun i=>ch.contains i||sg i==0||(match ch[sg i-1]? with|some c=>ancOf ops ops.size i c|none=>false)
section
variable {P:Program} {I:List Value→World→Prop} {b:Act} {T:Nat→List Value→Value} {sg lim:Nat→Nat} {ch:List Nat} {cv:List Value} {i:Nat} {o:Oper} {l:List Oper}
end
def guardOk (ops:Array Oper) (ch:List Nat) (sg:Nat→Nat):Bool:=ops.all fun o=>match o.guard with
 | none=>true
 | some (j,_)=> !ch.contains j&&sg j==0
structure ChainAt (l:List Oper) (a:Act) (T:Nat→List Value→Value) (sg:Nat→Nat) (ch:List Nat) (I:List Value→World→Prop) (cv:List Value) (listed:Array Bool) (b:Act) (W:World):Prop where
 tab:TabAt (bareL l).toArray (Vc T sg ch cv) a listed b
 inv:I cv W
 len:cv.length≤ch.length
 on:∀ m i,ch[m]? = some i→(listed.getD i false=true↔m<cv.length)
theorem chain_ge {ops:Array Oper} {listed:Array Bool} (hc:∀ j o,ops[j]? = some o→listed.getD j false=true→∀ e∈o.after,Region.binds .any e=true→listed.getD e.on false=true):
 ∀ {ch:List Nat},chainSteps ops ch=true→∀ {m i k j:Nat},ch[m]? = some i→ch[k]? = some j→k≤m→listed.getD i false=true→listed.getD j false=true
 | [],_,_,_,_,_,h,_,_,_=>by simp at h
 | [c],_,m,i,k,j,h,h2,hk,hl=>by
   cases m with
   | zero=>
     have:k=0:=by omega
     subst this
     rw [h] at h2
     cases h2
     exact hl
   | succ m=>simp at h
 | c::d::ch,hs,m,i,k,j,h,h2,hk,hl=>by
   simp only [chainSteps,Bool.and_eq_true] at hs
   cases m with
   | zero=>
     have:k=0:=by omega
     subst this
     rw [h] at h2
     cases h2
     exact hl
   | succ m=>
     simp only [List.getElem?_cons_succ] at h
     cases k with
     | zero=>
       simp only [List.getElem?_cons_zero,Option.some.injEq] at h2
       subst h2
       have h3:=chain_ge hc hs.2 (k:=0) (j:=d) h (by simp) (Nat.zero_le _) hl
       exact anc_listed hc _ _ _ hs.1 h3
     | succ k=>
       simp only [List.getElem?_cons_succ] at h2
       exact chain_ge hc hs.2 h h2 (by omega) hl
end Go.Proofs.YtelnkflmnbhclaaGreat
end
section
namespace Go.Proofs.YtelnkflmnbhclaaGreat
open Go.RowKit Go.Proofs Go.ChangeShapes Go.WideShapes Go.Deep
theorem kidsP:Kids Tryz.prog (· < Tryz.prog.types.size):=kids_rows (by kernel_rfl) (by kernel_rfl)
theorem fullP:∀ t e,t<Tryz.prog.types.size→Tryz.prog.underlying t=some (.slice e)→0<Tryz.prog.cellsOf e:=slices_full_of Tryz.prog (by kernel_rfl)
section
variable {H:Type} {enc:TypeId×Value→H} {w W W':World} {base:Nat} {spare:Nat→Bool} {held:Bool}
theorem trodAll_carry (hs:∀ p:MemPlace,p.block<W.heap.size→W.sameAt W' p) {sp:Nat→Bool} :∀ {ts:List TypeId} {vs:List Value} {ds:List (DataW H)} {ps:List MemPlace},DataW.TrodAll enc Tryz.prog W base sp held ts vs ds ps→DataW.TrodAll enc Tryz.prog W' base sp held ts vs ds ps
 | [],[],[],_,h=>h
 | t::ts,v::vs,d::ds,_,⟨p,q,h1,h2,e⟩=>by
   have hlt:=DataW.TrodAll.lt (ts:=[t]) (vs:=[v]) (ds:=[d]) (trodAll_mk1 h1)
   obtain ⟨n,hn⟩:=h1
   exact ⟨p,q,⟨n,DataW.trod_carry n _ _ _ hn fun x hx=>hs x (hlt x hx)⟩,trodAll_carry hs h2,e⟩
theorem args_kept {ts:List TypeId} {vs:List Value} {ds:List (DataW H)} {ps:List MemPlace} (hA:DataW.TrodAll enc Tryz.prog W 0 (fun _=>true) true ts vs ds ps) (hb:Below W.heap.size W W') (hT:∀ t∈ts,t<Tryz.prog.types.size) (sp:Nat→Bool) (hsp:∀ p∈ps,sp p.block=true):
 DataW.TrodAll enc Tryz.prog W' 0 sp true ts vs ds ps:=
 DataW.TrodAll.respare kidsP fullP hT (trodAll_carry (fun _ h=>hb.same h) hA) hsp
theorem field_read {P:Program} {fs:Array Field} {xs:List (DataW H×List MemPlace)} {n:Nat} {cs:List Value} (hf:∀ (i:Nat) (f:Field),fs[i]? = some f→DataW.trod enc P w base spare held n f.type ((cs.drop f.offset).take (P.cellsOf f.type))=xs[i]?) (hl:xs.length=fs.size)
 (i:Nat) {f:Field} (hi:fs[i]? = some f) (t o k:Nat) (ht:f.type=t) (ho:f.offset=o) (hk:P.cellsOf t=k):∃ y,DataW.trod enc P w base spare held n t ((cs.drop o).take k)=some y:=by
 subst ht
 subst ho
 subst hk
 have h:=hf i f hi
 have hlt:=(Array.getElem?_eq_some_iff.1 hi).1
 rw [List.getElem?_eq_getElem (by omega)] at h
 exact ⟨_,h⟩
theorem one_int {P:Program} {t:TypeId} {k:IntKind} {fuel:Nat} {v:Value} {x:DataW H×List MemPlace} (ht:P.underlying t=some (.int k)) (h:DataW.trod enc P w base spare held fuel t [v]=some x):∃ n,v = .int k n∧(Lit.int k n).wf=true:=by
 obtain ⟨n,hn,_,hw⟩:=DataW.trod_int ht h
 cases hn
 exact ⟨n,rfl,hw⟩
theorem cellsInt:Tryz.prog.cellsOf 3=1:=by kernel_rfl
theorem cellsU8:Tryz.prog.cellsOf 5=1:=by kernel_rfl
theorem cellsPl:Tryz.prog.cellsOf 37=2:=by kernel_rfl
set_option maxRecDepth 100000 in
theorem decPlace {fuel:Nat} {cs:List Value} {x:DataW H×List MemPlace} (h:DataW.trod enc Tryz.prog w base spare held fuel 37 cs=some x):∃ y:Place,cs=encPlace y:=by
 obtain ⟨xs,m,_,_,hl,hxl,hf⟩:=DataW.trod_struct Tryz.underlying37 h
 rw [cellsPl] at hl
 match cs,hl with
 | [c0,c1],_=>
   obtain ⟨y0,g0⟩:=field_read hf hxl 0 rfl 3 0 1 rfl rfl cellsInt
   obtain ⟨y1,g1⟩:=field_read hf hxl 1 rfl 3 1 1 rfl rfl cellsInt
   simp only [List.drop_zero,List.drop_succ_cons,List.take_succ_cons,List.take_zero] at g0 g1
   obtain ⟨a0,rfl,_⟩:=one_int Tryz.underlying3 g0
   obtain ⟨a1,rfl,_⟩:=one_int Tryz.underlying3 g1
   exact ⟨⟨a0,a1⟩,rfl⟩
set_option maxRecDepth 100000 in
theorem decTrace {fuel:Nat} {cs:List Value} {x:DataW H×List MemPlace} (h:DataW.trod enc Tryz.prog w base spare held fuel 25 cs=some x):∃ y:Trace,cs=encTrace y:=by
 obtain ⟨xs,m,_,_,hl,hxl,hf⟩:=DataW.trod_struct Tryz.underlying25 h
 rw [show Tryz.prog.cellsOf 25=10 by kernel_rfl] at hl
 match cs,hl with
 | [c0,c1,c2,c3,c4,c5,c6,c7,c8,c9],_=>
   obtain ⟨y0,g0⟩:=field_read hf hxl 0 rfl 3 0 1 rfl rfl cellsInt
   obtain ⟨y1,g1⟩:=field_read hf hxl 1 rfl 3 1 1 rfl rfl cellsInt
   obtain ⟨y2,g2⟩:=field_read hf hxl 2 rfl 5 2 1 rfl rfl cellsU8
   obtain ⟨y3,g3⟩:=field_read hf hxl 3 rfl 3 3 1 rfl rfl cellsInt
   obtain ⟨y4,g4⟩:=field_read hf hxl 4 rfl 3 4 1 rfl rfl cellsInt
   obtain ⟨y5,g5⟩:=field_read hf hxl 5 rfl 3 5 1 rfl rfl cellsInt
   obtain ⟨y6,g6⟩:=field_read hf hxl 6 rfl 3 6 1 rfl rfl cellsInt
   obtain ⟨y7,g7⟩:=field_read hf hxl 7 rfl 3 7 1 rfl rfl cellsInt
   obtain ⟨y8,g8⟩:=field_read hf hxl 8 rfl 3 8 1 rfl rfl cellsInt
   obtain ⟨y9,g9⟩:=field_read hf hxl 9 rfl 3 9 1 rfl rfl cellsInt
   simp only [List.drop_zero,List.drop_succ_cons,List.take_succ_cons,List.take_zero] at g0 g1 g2 g3 g4 g5 g6 g7 g8 g9
   obtain ⟨a0,rfl,_⟩:=one_int Tryz.underlying3 g0
   obtain ⟨a1,rfl,_⟩:=one_int Tryz.underlying3 g1
   obtain ⟨a2,rfl,_⟩:=one_int Tryz.underlying5 g2
   obtain ⟨a3,rfl,_⟩:=one_int Tryz.underlying3 g3
   obtain ⟨a4,rfl,_⟩:=one_int Tryz.underlying3 g4
   obtain ⟨a5,rfl,_⟩:=one_int Tryz.underlying3 g5
   obtain ⟨a6,rfl,_⟩:=one_int Tryz.underlying3 g6
   obtain ⟨a7,rfl,_⟩:=one_int Tryz.underlying3 g7
   obtain ⟨a8,rfl,_⟩:=one_int Tryz.underlying3 g8
   obtain ⟨a9,rfl,_⟩:=one_int Tryz.underlying3 g9
   exact ⟨⟨a0,a1,a2,a3,a4,a5,a6,a7,a8,a9⟩,rfl⟩
set_option maxRecDepth 100000 in
theorem decBond {fuel:Nat} {cs:List Value} {x:DataW H×List MemPlace} (h:DataW.trod enc Tryz.prog w base spare held fuel 50 cs=some x):∃ y:Bond,cs=encBond y:=by
 obtain ⟨xs,m,_,_,hl,hxl,hf⟩:=DataW.trod_struct Tryz.underlying50 h
 rw [show Tryz.prog.cellsOf 50=5 by kernel_rfl] at hl
 match cs,hl with
 | [c0,c1,c2,c3,c4],_=>
   obtain ⟨y0,g0⟩:=field_read hf hxl 0 rfl 37 0 2 rfl rfl cellsPl
   obtain ⟨y1,g1⟩:=field_read hf hxl 1 rfl 37 2 2 rfl rfl cellsPl
   obtain ⟨y2,g2⟩:=field_read hf hxl 2 rfl 3 4 1 rfl rfl cellsInt
   simp only [List.drop_zero,List.drop_succ_cons,List.take_succ_cons,List.take_zero] at g0 g1 g2
   obtain ⟨a,ha⟩:=decPlace g0
   obtain ⟨b,hb⟩:=decPlace g1
   obtain ⟨a2,rfl,_⟩:=one_int Tryz.underlying3 g2
   cases ha
   cases hb
   exact ⟨⟨a,b,a2⟩,rfl⟩
theorem open_rd {α:Type} [Inhabited α] {encA:α→List Value} {k:Nat} {t e:TypeId} {fuel:Nat} {cs:List Value} {x:DataW H×List MemPlace} (ht:Tryz.prog.underlying t=some (.slice e)) (hC:Tryz.prog.cellsOf e=k) (hk:0<k) (hlen:∀ y:α,(encA y).length=k)
 (hdec:∀ (n:Nat) (cs:List Value) (x:DataW H×List MemPlace),DataW.trod enc Tryz.prog w base spare held n e cs=some x→∃ y:α,cs=encA y) (h:DataW.trod enc Tryz.prog w base spare held fuel t cs=some x):
 ∃ (A:Option Addr) (n c:Nat) (xs:List α),cs = [.slice A n c]∧xs.length=n∧(n≤17592186044416→Rd encA k w A n c xs):=by
 rcases open_slice ht h with ⟨rfl,_⟩|⟨a,len,cap,m,n,D,Pl,rfl,hb,hl,hm,hmm,_,hx⟩
 · exact ⟨none,0,0,[],rfl,rfl,fun _=>Rd.none_ none 0 (by omega)⟩
 · have hlm:len≤m:=by rw [hmm];split<;>omega
   have each:∀ i,i<len→∃ y:α,∀ j,j<k→w.cell? (a.add (i * k+j))=(encA y)[j]? := fun i hi=>by
    obtain ⟨cs',h1,h2⟩:=hx i (by omega)
    obtain ⟨y,rfl⟩:=hdec _ _ _ h2
    rw [hC] at h1
    obtain ⟨_,_,h3⟩:=World.cells?_some h1
    exact ⟨y,fun j hj=>by rw [←add_add];exact h3 j hj⟩
   obtain ⟨f,hf⟩:=choose_lt each
   refine ⟨some a,len,cap,(List.range len).map f,rfl,by simp,fun hbig=>⟨by simp,hbig,⟨hl,hm⟩,fun hn=> ?_⟩⟩
   have h0:=hf 0 hn 0 hk
   obtain ⟨b,off,spot⟩:=a
   rw [List.getElem?_eq_getElem (by rw [hlen];exact hk)] at h0
   have hspot:spot=none:=by
    cases spot with
    | none=>rfl
    | some s=>
      rw [show 0 * k+0=0 by omega,show (⟨b,off,some s⟩:Addr).add 0=⟨b,off,some s⟩ from rfl] at h0
      unfold World.cell? at h0
      split at h0
      · cases h0
      · cases h0
   subst hspot
   have hlt:b<w.heap.size:=by
    rw [add_lit] at h0
    unfold World.cell? at h0
    split at h0
    · rename_i h1;exact (Array.getElem?_eq_some_iff.1 h1).1
    · cases h0
   refine ⟨b,off,rfl,hlt,fun i y hy j u hu=> ?_⟩
   rw [List.getElem?_map] at hy
   have hi:i<len:=by
    rcases Nat.lt_or_ge i len with h|h
    · exact h
    · rw [List.getElem?_eq_none (by simpa using h)] at hy;cases hy
   rw [List.getElem?_eq_getElem (by simpa using hi)] at hy
   simp only [List.getElem_range,Option.map_some,Option.some.injEq] at hy
   subst hy
   have hj:j<k:=by rw [←hlen (f i)];exact (List.getElem?_eq_some_iff.1 hu).1
   have:=hf i hi j hj
   rw [add_lit,hu] at this
   rw [Nat.add_assoc];exact this
end
end Go.Proofs.YtelnkflmnbhclaaGreat
end
section
namespace Go.Proofs.YtelnkflmnbhclaaGreat
open Go.RowKit Go.Proofs Go.Shelf
end Go.Proofs.YtelnkflmnbhclaaGreat
end

/- Contracts that the laws lean on: Still, Inv, Gau, Arr, Gw1. -/
import Derived.Test.YtejjplhknacoiaaGreatDoorLK07
import Derived.Laws.CopyOwn
set_option maxHeartbeats 1000000
section
namespace Go.Proofs.YtejjplhknacoiaaGreatDoor
open Go.RowKit Go.Proofs
section
variable {P:Program} {ops:Array Oper} {md:Region.Mode} {w:World} {nn:Nat}
theorem wpIn_of_still {o:Oper} {a:Act} {K:Act→Prop} {K':Act→World→Prop} {Q':Exit→Act→World→Prop} (h:∀ a,K a→K' a w) (hh:o.still P a w K):o.wpIn Fence.wide nn P a w K' Q':=by
 refine ⟨fun _ _=>trivial,?_⟩
 have e:Oper.semAt Fence.wide.round a.eval o=execOp a.eval o:=rfl
 rw [e]
 unfold Oper.still at hh
 generalize (execOp a.eval o).run P w=r at *
 cases r with
 | ok x w'=>
   cases x<;>simp only [Oper.stillUpon] at hh<;>simp only [Oper.uponIn]
   case enter f args=>
    obtain ⟨rfl,v,hc,hn⟩:=hh
    refine ⟨fun h=>by simp [Fence.wide] at h,callsIn_wide.2 (hc.mono ?_)⟩
    rintro e w'' ⟨rfl,rfl⟩
    exact h _ hn
   case value v=>obtain ⟨rfl,hn⟩:=hh;exact h _ hn
   case skip=>obtain ⟨rfl,hn⟩:=hh;exact h _ hn
 | halt x w'=>simp only [Oper.stillUpon] at hh
theorem wpOpIn_of_stOp {i:Nat} {a:Act} {K:Act→Prop} {K':Act→World→Prop} {Q':Exit→Act→World→Prop} (h:∀ a,K a→K' a w) (hh:stOp P ops w i K a):wpOpIn Fence.wide nn P ops Q' i K' a w:=by
 unfold stOp at hh
 unfold wpOpIn
 split
 · rename_i ho;simp only [ho] at hh;exact h _ hh
 · rename_i o ho
   simp only [ho] at hh
   split
   · rename_i hw;simp only [hw,if_true] at hh;exact wpIn_of_still h hh
   · rename_i hw;simp only [hw] at hh;exact ⟨fun _ _=>trivial,h _ hh⟩
theorem wpAnyIn_of_head {n g:Nat} {L:Array Bool→Act→Prop} {Q':Exit→Act→World→Prop} (hL:∀ listed a,L listed a→wpAnyIn Fence.wide nn P md ops Q' g listed a w):
 ∀ (f:Nat) (listed:Array Bool) (a:Act),wpAnyL P md ops w n L f listed a→wpAnyIn Fence.wide nn P md ops Q' (f+g) listed a w
 | 0,listed,a,h=>by rw [Nat.zero_add];exact hL _ _ h
 | f+1,listed,a,h=>by
   rw [show f+1+g=(f+g)+1 by omega]
   exact ⟨fun h0=>absurd h0 h.1,fun i hi=>wpOpIn_of_stOp (fun a' h'=>wpAnyIn_of_head hL f _ a' h') (h.2 i hi).2⟩
theorem wpAnyIn_of_seq {Q':Exit→Act→World→Prop} :∀ (l:List Oper) (k:Nat) (listed:Array Bool) (a:Act) (w:World),(∀ j,l[j]? = ops[k+j]?)→
 Region.seqB md ops l.length k listed=true→wpListIn Fence.wide nn P ops Q' l a w→wpAnyIn Fence.wide nn P md ops Q' l.length listed a w
 | [],_,_,_,_,_,hB,h=>⟨by simpa [Region.seqB] using hB,h⟩
 | o::l,k,listed,a,w,hl,hB,h=>by
   have h0:ops[k]? = some o:=by simpa using (hl 0).symm
   simp only [List.length_cons,Region.seqB,Bool.and_eq_true,decide_eq_true_eq] at hB
   refine ⟨fun h1=>(by rw [hB.1] at h1;cases h1),fun i hi=> ?_⟩
   rw [hB.1] at hi
   have hik:i=k:=by simpa using hi
   subst hik
   have hw:wpOpIn Fence.wide nn P ops Q' i (wpListIn Fence.wide nn P ops Q' l) a w:=by unfold wpOpIn;simp only [h0];exact h
   exact wpOpIn_mono (fun a' w' h'=>wpAnyIn_of_seq l (i+1) _ a' w' (fun j=>by have:=hl (j+1);simpa [Nat.add_assoc,Nat.add_comm 1 j] using this) hB.2 h') hw
theorem wpIn_region_still_tail {id:Nat} {Q:Exit→Act→World→Prop} {a:Act} {w:World} {l:List Oper} (n:Nat) (hm:P.follows .mixedOrders=true) (hB:Region.lexTailB .any l.toArray n=true)
 (h:wpStill P l.toArray { w with drawn:=w.drawn+1 } (fun a'=>wpListIn Fence.wide nn P l.toArray Q (l.drop n) a' { w with drawn:=w.drawn+1 }) (l.take n) a):(Code.region id l.toArray true).wpIn Fence.wide nn P Q a w:=by
 simp only [Region.lexTailB,Bool.and_eq_true,decide_eq_true_eq] at hB
 obtain ⟨⟨⟨⟨hsel,hn⟩,hs⟩,hc⟩,hlex⟩:=hB
 have hn':n<l.length:=by simpa using hn
 have htl:(l.take n).length=n:=by simp;omega
 have hdl:(l.drop n).length=l.toArray.size-n:=by simp
 have inv0:HeadInv .any l.toArray n (Array.replicate l.toArray.size false):=
  ⟨by simp,fun j oj _ hl=>(by rw [getD_replicate_false] at hl;cases hl),fun t _ ht=>getD_in (by simpa using ht) (getD_replicate_false _ _)⟩
 have H:=wpAnyL_lex (md:=.any) (g:=l.toArray.size-n) hsel hs hc hn (l.take n) 0 _ a (fun j hj=>by
  have hj':j<n:=by rw [htl] at hj;exact hj
  simp [hj']) (by simpa using htl) inv0 (by rw [htl];exact hlex) h
 refine wpIn_region_any hm ?_
 have:=wpAnyIn_of_head (nn:=nn) (Q':=Q) (g:=l.toArray.size-n) (fun listed a' hL=>by
  have:=wpAnyIn_of_seq (nn:=nn) (md:=.any) (Q':=Q) (l.drop n) n listed a' { w with drawn:=w.drawn+1 } (fun j=>by simp [List.getElem?_drop]) (by rw [hdl];exact hL.1) hL.2
  rwa [hdl] at this) _ _ _ H
 rw [htl,show n+(l.toArray.size-n)=l.toArray.size by omega] at this
 exact this
theorem wp_region_yield {id:Nat} {Q:Exit→Act→World→Prop} {a:Act} {w:World} {l:List Oper} (nn n:Nat) (hm:P.follows .mixedOrders=true) (hB:Region.lexTailB .any l.toArray n=true)
 (h:wpStill P l.toArray { w with drawn:=w.drawn+1 } (fun a'=>wpListIn Fence.wide nn P l.toArray Q (l.drop n) a' { w with drawn:=w.drawn+1 }) (l.take n) a):(Code.region id l.toArray true).wp P Q a w:=
 wpIn_wide.1 (wpIn_region_still_tail (nn:=nn) n hm hB h)
end
section
variable {P:Program} {F:Fence} {nn:Nat} {ops:Array Oper}
theorem wpAnyIn_inv {Q:Exit→Act→World→Prop} {m:Nat} (_:∀ f,F.fn f) (hok:tabOk ops m=true) (I:Array Bool→Act→World→Prop)
 (hstep:∀ listed i o b W,listed.size=ops.size→i∈Region.ready .any ops listed→ops[i]? = some o→I listed b W→o.wpIn F nn P b W (fun b' W'=>I (listed.setIfInBounds i true) b' W') Q)
 (hend:∀ b W,I (Array.replicate ops.size true) b W→Q .normal b W):
 ∀ (fuel:Nat) (listed:Array Bool) (b:Act) (W:World),left listed=fuel→listed.size=ops.size→I listed b W→wpAnyIn F nn P .any ops Q fuel listed b W:=by
 intro fuel
 induction fuel with
 | zero=>
   intro listed b W hl hs h
   have hall:=left_zero hl
   rw [hs] at hall
   refine ⟨?_,hend b W (hall ▸ h)⟩
   apply List.eq_nil_iff_forall_not_mem.2
   intro i hi
   obtain ⟨hun,o,ho,_⟩:=mem_ready.1 hi
   have hlt:i<ops.size:=(Array.getElem?_eq_some_iff.1 ho).1
   rw [hall] at hun
   simp [hlt] at hun
 | succ fuel ih=>
   intro listed b W hl hs h
   refine ⟨fun hnil=> ?_,fun i hi=> ?_⟩
   · obtain ⟨i,hi,hmin⟩:=left_pos (listed:=listed) (by omega)
     have hlt:i<ops.size:=by rw [←hs];exact (Array.getElem?_eq_some_iff.1 hi).1
     have ho:ops[i]? = some ops[i]:=Array.getElem?_eq_getElem hlt
     obtain ⟨_,_,hed,_⟩:=tabOk_at hok ho
     have:i∈Region.ready .any ops listed:=mem_ready.2 ⟨by simp [hi],ops[i],ho,fun e he hbd=>by have:=hmin e.on (hed e he hbd);simp [this]⟩
     rw [hnil] at this
     cases this
   · obtain ⟨hun,o,ho,hall⟩:=mem_ready.1 hi
     obtain ⟨hg,hdf,_,_⟩:=tabOk_at hok ho
     have hlt:i<listed.size:=by rw [hs];exact (Array.getElem?_eq_some_iff.1 ho).1
     have hf:listed[i]? = some false:=by
      rw [Array.getElem?_eq_getElem hlt]
      simp [hlt] at hun
      rw [hun]
     have hl':left (listed.setIfInBounds i true)=fuel:=by have:=left_set hf;omega
     have hw:Region.wanted o (yielded ops b.tmps)=true:=by simp [Region.wanted,hg]
     unfold wpOpIn
     simp only [ho,hw,if_true]
     exact Oper.wpIn_mono (fun b' W' h'=>ih _ b' W' hl' (by simp [hs]) h') (hstep listed i o b W hs hi ho h)
theorem wpIn_region_inv {id:Nat} {l:List Oper} {Q:Exit→Act→World→Prop} {a:Act} {w:World} (m:Nat) (hm:P.follows .mixedOrders=true) (hF:∀ f,F.fn f) (hok:tabOk l.toArray m=true) (I:Array Bool→Act→World→Prop)
 (h0:I (Array.replicate l.toArray.size false) a w.drew)
 (hstep:∀ listed i o b W,listed.size=l.toArray.size→i∈Region.ready .any l.toArray listed→l.toArray[i]? = some o→I listed b W→o.wpIn F nn P b W (fun b' W'=>I (listed.setIfInBounds i true) b' W') Q)
 (hend:∀ b W,I (Array.replicate l.toArray.size true) b W→Q .normal b W):(Code.region id l.toArray true).wpIn F nn P Q a w:=by
 refine wpIn_region_any hm (wpAnyIn_inv hF hok I hstep hend _ _ _ _ ?_ (by simp) h0)
 have h2:∀ k,(List.filter (fun b=> !b) (List.replicate k false)).length=k:=by
  intro k
  rw [List.filter_eq_self.2 (fun b hb=>by rw [List.eq_of_mem_replicate hb];rfl),List.length_replicate]
 unfold left
 rw [Array.toList_replicate]
 exact h2 _
theorem wide_val {o:Oper} {b:Act} {W W':World} {K:Act→World→Prop} {Q:Exit→Act→World→Prop} {v:Value} (hr:(execOp b.eval o).run P W = .ok (.value v) W') (h:K (b.put o.dst v) W'):o.wpIn Fence.wide nn P b W K Q:=
 ⟨fun _ _=>trivial,by rw [show Oper.semAt Fence.wide.round b.eval o=execOp b.eval o from rfl,hr];exact h⟩
theorem wide_skip {o:Oper} {b:Act} {W W':World} {K:Act→World→Prop} {Q:Exit→Act→World→Prop} (hr:(execOp b.eval o).run P W = .ok .skip W') (h:K (b.put o.dst undef) W'):o.wpIn Fence.wide nn P b W K Q:=
 ⟨fun _ _=>trivial,by rw [show Oper.semAt Fence.wide.round b.eval o=execOp b.eval o from rfl,hr];exact h⟩
theorem wide_call {o:Oper} {b:Act} {W:World} {K:Act→World→Prop} {Q:Exit→Act→World→Prop} {f:FuncId} {args:Array Value} (hr:(execOp b.eval o).run P W = .ok (.enter f args) W)
 (h:Calls P f args W fun e w'=> ∃ v,e = .returned v∧K (b.put o.dst v) w'):o.wpIn Fence.wide nn P b W K Q:=
 ⟨fun _ _=>trivial,by
   rw [show Oper.semAt Fence.wide.round b.eval o=execOp b.eval o from rfl,hr]
   refine ⟨fun h=>by simp [Fence.wide] at h,callsIn_wide.2 (h.mono ?_)⟩
   rintro e w' ⟨v,rfl,hK⟩
   exact hK⟩
theorem TabAt.congr {V V':Nat→Value} {a0:Act} {listed:Array Bool} {b:Act} (h:TabAt ops V a0 listed b) (hv:∀ j,listed.getD j false=true→V j=V' j):TabAt ops V' a0 listed b:=
 ⟨h.size,h.closed,h.tsize,h.defers,fun j d hd hl=>(h.val j d hd hl).trans (hv j hl),h.old⟩
theorem TabAt.start {V:Nat→Value} (a:Act):TabAt ops V a (Array.replicate ops.size false) a:=
 ⟨by simp,fun j o _ hl=>(by rw [getD_replicate_false] at hl;cases hl),rfl,rfl,fun j d _ hl=>(by rw [getD_replicate_false] at hl;cases hl),fun _ _=>rfl⟩
end
def noneV:Int:=1099511627776
def withinB (n least most:Int):Bool:=decide (least≤n)&&decide (n≤most)
def wrongB (pts:Int) (b:Bound):Bool:=
 !withinB b.src 0 (pts-1) || !withinB b.dst 0 (pts-1)||decide (b.src=b.dst) || !withinB b.most (-1000000) 1000000 || !withinB b.by_ 0 1000000
def checkSys (pts:Int) (bs:List Bound):Int:=
 if 60<pts∨400<bs.length then 2 else if pts<1∨bs.any (wrongB pts)=true then 1 else 0
abbrev Row:=List Int
def rAt (r:Row) (i:Int):Int:=r.getD i.toNat 0
def rPut (r:Row) (i v:Int):Row:=r.set i.toNat v
@[simp] theorem rPut_len (r:Row) (i v:Int):(rPut r i v).length=r.length:=by simp [rPut]
def relaxes (r:Row) (b:Bound):Bool:=decide (rAt r b.src<noneV)&&decide (rAt r b.src+b.most<rAt r b.dst)
def relaxStep (st:Row×Row) (b:Bound) (i:Nat):Row×Row:=
 if relaxes st.1 b then (rPut st.1 b.dst (rAt st.1 b.src+b.most),rPut st.2 b.dst i) else st
def passTo (bs:List Bound) (st:Row×Row):Nat→Row×Row
 | 0=>st
 | k+1=>match bs[k]? with
   | some b=>relaxStep (passTo bs st k) b k
   | none=>passTo bs st k
def pass (bs:List Bound) (st:Row×Row):Row×Row:=passTo bs st bs.length
def settledLoop (bs:List Bound):Nat→Row×Row→Row×Row×Bool
 | 0,st=>(st.1,st.2,false)
 | n+1,st=>if (pass bs st).1=st.1 then ((pass bs st).1,(pass bs st).2,true) else settledLoop bs n (pass bs st)
def lasts:Row:=List.replicate 60 (-1)
def settled (pts:Int) (bs:List Bound) (r:Row):Row×Row×Bool:=settledLoop bs (pts+1).toNat (r,lasts)
def zeroRow:Row:=List.replicate 60 0
def emptyRow:Row:=List.replicate 60 noneV
def solvedR (pts:Int) (bs:List Bound):Row×Row×Bool:=settled pts bs zeroRow
def solvedOk (pts:Int) (bs:List Bound):Bool:=(solvedR pts bs).2.2
def solvedX (pts:Int) (bs:List Bound):List Int:=if solvedOk pts bs then (solvedR pts bs).1.take pts.toNat else []
def fromR (pts:Int) (bs:List Bound) (a:Int):Row×Row×Bool:=settled pts bs (rPut emptyRow a 0)
def greatestR (pts:Int) (bs:List Bound) (a b:Int):Int:=rAt (fromR pts bs a).1 b
theorem relaxStep_len (st:Row×Row) (b:Bound) (i:Nat):(relaxStep st b i).1.length=st.1.length∧(relaxStep st b i).2.length=st.2.length:=by
 unfold relaxStep;split<;>simp
theorem passTo_len (bs:List Bound) (st:Row×Row):∀ k,(passTo bs st k).1.length=st.1.length∧(passTo bs st k).2.length=st.2.length
 | 0=>⟨rfl,rfl⟩
 | k+1=>by
   have ih:=passTo_len bs st k
   unfold passTo
   split
   · have:=relaxStep_len (passTo bs st k) ‹_› k
     exact ⟨this.1.trans ih.1,this.2.trans ih.2⟩
   · exact ih
theorem settledLoop_len (bs:List Bound):∀ (n:Nat) (st:Row×Row),(settledLoop bs n st).1.length=st.1.length∧(settledLoop bs n st).2.1.length=st.2.length
 | 0,_=>⟨rfl,rfl⟩
 | n+1,st=>by
   have hp:=passTo_len bs st bs.length
   unfold settledLoop
   split
   · exact hp
   · have ih:=settledLoop_len bs n (pass bs st)
     exact ⟨ih.1.trans hp.1,ih.2.trans hp.2⟩
theorem lasts_len':lasts.length=60:=by simp [lasts]
theorem settled_len (pts:Int) (bs:List Bound) (r:Row):(settled pts bs r).1.length=r.length∧(settled pts bs r).2.1.length=60:=by
 have:=settledLoop_len bs (pts+1).toNat (r,lasts)
 exact ⟨this.1,this.2.trans lasts_len'⟩
def longerStep (now:Row) (st:Row×Row) (b:Bound) (i:Nat):Row×Row:=
 if decide (rAt now b.src<noneV)&&decide (rAt now b.src+b.most<rAt st.1 b.dst) then (rPut st.1 b.dst (rAt now b.src+b.most),rPut st.2 b.dst i) else st
def longerTo (bs:List Bound) (now:Row):Nat→Row×Row
 | 0=>(emptyRow,zeroRow)
 | k+1=>match bs[k]? with
   | some b=>longerStep now (longerTo bs now k) b k
   | none=>longerTo bs now k
def longerR (bs:List Bound) (now:Row):Row×Row:=longerTo bs now bs.length
structure Walks where
 sums:List Row
 last:List Row
deriving DecidableEq,Inhabited
def Walks.now (w:Walks):Row:=w.sums.getD (w.sums.length-1) []
def Walks.longer (bs:List Bound) (w:Walks):Walks:={ sums:=w.sums ++ [(longerR bs w.now).1],last:=w.last ++ [(longerR bs w.now).2] }
def backTo (bs:List Bound) (last:List Row):Nat→Int→List Int
 | 0,_=> []
 | 1,_=> []
 | k+2,p=>rAt (last.getD (k+1) []) p::backTo bs last (k+1) (bs.getD (rAt (last.getD (k+1) []) p).toNat default).src
def Walks.back (bs:List Bound) (w:Walks) (p:Int):List Int:=(backTo bs w.last w.last.length p).reverse
def walks0 (p:Nat):Walks:={ sums:=[rPut emptyRow p 0],last:=[zeroRow] }
def circleRow (bs:List Bound):List Walks→Nat→List Walks×Option (List Int)
 | [],_=>([],none)
 | w::ws,p=>if rAt (w.longer bs).now p<0 then (w.longer bs::ws,some ((w.longer bs).back bs p))
   else ((w.longer bs)::(circleRow bs ws (p+1)).1,(circleRow bs ws (p+1)).2)
def circleLoop (bs:List Bound):Nat→List Walks→List Int
 | 0,_=> []
 | n+1,all=>match circleRow bs all 0 with
   | (_,some c)=>c
   | (all',none)=>circleLoop bs n all'
def circleX (pts:Int) (bs:List Bound):List Int:=circleLoop bs pts.toNat ((List.range pts.toNat).map walks0)
section
variable {P:Program}
def rowA (r:List Int):Array Value:=(r.map fun n=>Value.int .i64 n).toArray
@[simp] theorem rowA_size (r:List Int):(rowA r).size=r.length:=by simp [rowA]
theorem rowA_get (r:List Int) (i:Nat):(rowA r)[i]? = (r[i]?).map fun n=>Value.int .i64 n:=by simp [rowA]
theorem rowA_set (r:List Int) (i:Nat) (v:Int):(rowA r).setIfInBounds i (.int .i64 v)=rowA (r.set i v):=by
 apply Array.ext_getElem?
 intro j
 rw [rowA_get,Array.getElem?_setIfInBounds,List.getElem?_set]
 simp only [rowA_size,rowA_get]
 by_cases h:i=j
 · simp only [h,if_true]
   by_cases h2:j<r.length<;>simp [h2]
 · simp [h]
theorem rowA_one (r:List Int):(rowA r).all (·.oneCell')=true:=by
 rw [Array.all_eq_true_iff_forall_mem]
 intro v hv
 simp only [rowA,List.mem_toArray,List.mem_map] at hv
 obtain ⟨n,_,rfl⟩:=hv
 rfl
theorem run_part_int (w:World) {e:TypeId} (he:P.underlying e=some (.int .i64)) (r:List Int) (i:Nat) (h:i<r.length):(part e (rowA r) i).run P w = .ok (.int .i64 r[i]) w:=by
 have hagg:(isAgg e).run P w = .ok false w:=by
  unfold isAgg
  rw [Sem.run_bind,run_underlying he w]
  rfl
 simp [part,hagg,h];simp [rowA]
theorem run_equalIn_row (d:Nat) {t e:TypeId} {len:Nat} {i:TypeInfo} (ht:P.underlying t=some (.array len e)) (he:P.underlying e=some (.int .i64)) (hi:P.info? e=some i) (hs:i.size=1)
 (xs ys:List Int) (hx:xs.length=len) (hy:ys.length=len) (w:World):
 (Op.equalIn ((d+1)+1) t (.agg (rowA xs)) (.agg (rowA ys))).run P w = .ok (decide (xs=ys)) w:=by
 obtain ⟨E,hE⟩:∃ E,E=Op.equalIn (d+1):=⟨_,rfl⟩
 have hEi:∀ (a b:Int) (w:World),(E e (.int .i64 a) (.int .i64 b)).run P w = .ok (a==b) w:=fun a b w=>by rw [hE];exact run_equalIn_int w d e .i64 .i64 a b he
 rw [Op.equalIn,←hE]
 clear hE
 simp only [Sem.run_bind,run_underlying ht,Result.andThen_ok,sizeOf,typeInfo,hi,run_program,Sem.run_pure,hs]
 simp only [Std.Legacy.Range.forIn_eq_forIn_range',Std.Legacy.Range.size,Nat.sub_zero,Nat.add_sub_cancel,Nat.div_one]
 obtain ⟨k,n,hk0,hn0⟩:∃ k n:Nat,k=0∧n=len:=⟨0,len,rfl,rfl⟩
 rw [show List.range' 0 len=List.range' k n by rw [hk0,hn0]]
 have hk:k+n=len:=by omega
 have hj:∀ j,j<k→xs[j]? = ys[j]? := fun j h=>absurd h (by omega)
 clear hk0 hn0
 induction n generalizing k with
 | zero=>
   have:xs=ys:=by
    apply List.ext_getElem?
    intro j
    by_cases h:j<k
    · exact hj j h
    · rw [List.getElem?_eq_none (by omega),List.getElem?_eq_none (by omega)]
   subst this
   simp
 | succ n ih=>
   have h1:k<xs.length:=by omega
   have h2:k<ys.length:=by omega
   by_cases hq:xs[k]=ys[k]
   · have:=ih (k+1) (by omega) (fun j hjk=>by
      by_cases h:j<k
      · exact hj j h
      · have:j=k:=by omega
        subst this
        rw [List.getElem?_eq_getElem h1,List.getElem?_eq_getElem h2,hq])
     simp only [List.range'_succ,List.forIn_cons,Nat.mul_one,Sem.run_bind,run_part_int w he xs k h1,run_part_int w he ys k h2,Result.andThen_ok,hEi,hq,beq_self_eq_true,Bool.not_true,Bool.false_eq_true,if_false,Sem.run_pure] at this ⊢
     exact this
   · have hne:(xs[k]==ys[k])=false:=by simpa using hq
     have hxy:xs≠ys:=by
      rintro rfl
      exact hq rfl
     simp only [List.range'_succ,List.forIn_cons,Nat.mul_one,Sem.run_bind,run_part_int w he xs k h1,run_part_int w he ys k h2,Result.andThen_ok,hEi,hne,Bool.not_false,if_true,Sem.run_pure]
     simp [hxy]
def rowAt? (w:World) (g n:Nat):Option (Array Value):=
 match w.heap[g]? with
 | some (.cells cs _ (0,0))=>if cs.size=n then some cs else none
 | _=>none
section
variable {w:World} {g b n:Nat} {cs:Array Value}
theorem rowAt?_heap (h:rowAt? w g n=some cs):∃ t,w.heap[g]? = some (.cells cs t (0,0))∧cs.size=n:=by
 unfold rowAt? at h
 split at h
 · rename_i c t hc
   split at h
   · cases h;exact ⟨t,hc,by assumption⟩
   · cases h
 · cases h
theorem rowAt?_of {t:TypeId} (h:w.heap[g]? = some (.cells cs t (0,0))) (hn:cs.size=n):rowAt? w g n=some cs:=by
 unfold rowAt?;rw [h];simp [hn]
@[go_sem,simp] theorem rowAt?_drew:rowAt? w.drew g n=rowAt? w g n:=rfl
@[go_sem,simp] theorem rowAt?_drewN (m:Nat):rowAt? (w.drewN m) g n=rowAt? w g n:=rfl
@[go_sem] theorem rowAt?_alloc_at (c:Array Value) (t:TypeId) (hn:b=w.heap.size):rowAt? (w.alloc (.cells c t)) b n=if c.size=n then some c else none:=by
  subst hn
  unfold rowAt?
  rw [heap_alloc_new];rfl
@[go_sem] theorem rowAt?_alloc_past (o:Obj) (hb:b<w.heap.size):rowAt? (w.alloc o) b n=rowAt? w b n:=by
  unfold rowAt?
  rw [Below.heap_alloc w o b hb]
@[go_sem] theorem rowAt?_setCell_same (i:Nat) (v:Value):rowAt? (w.setCell ⟨g,i,none⟩ v) g n=(rowAt? w g n).map (·.setIfInBounds i v):=by
  unfold rowAt?
  show (match (w.heap.modify g _)[g]? with|some (.cells cs _ (0,0))=>if cs.size=n then some cs else none|_=>none)=_
  cases h:w.heap[g]? with
  | none=>
    rw [Array.getElem?_eq_none (by rw [Array.size_modify];rwa [Array.getElem?_eq_none_iff] at h)];rfl
  | some o=>
    obtain ⟨hlt,hk⟩:=Array.getElem?_eq_some_iff.1 h
    rw [Array.getElem?_eq_getElem (by rw [Array.size_modify];exact hlt),Array.getElem_modify_self,hk]
    cases o with
    | cells c t fr=>
      rcases fr with ⟨a,b⟩
      rcases a with _|a
      · rcases b with _|b
        · by_cases hc:c.size=n<;>simp [hc]
        · rfl
      · rfl
    | _=>rfl
@[go_sem] theorem rowAt?_setCell_other (a:Addr) (v:Value) (h:¬b=a.block):rowAt? (w.setCell a v) b n=rowAt? w b n:=by
  unfold rowAt?
  rw [Below.heap_setCell w a v b h]
theorem rowAt?_lt (h:rowAt? w g n=some cs):g<w.heap.size:=by
 obtain ⟨t,h,_⟩:=rowAt?_heap h
 exact (Array.getElem?_eq_some_iff.1 h).1
@[go_sem] theorem rowAt?_setRow_same (cs':Array Value) (h:(rowAt? w g n).isSome=true) (hs:cs'.size=n):rowAt? (w.setRow g cs') g n=some cs':=by
  obtain ⟨cs,hc⟩:=Option.isSome_iff_exists.1 h
  obtain ⟨t,h1,h2⟩:=rowAt?_heap hc
  exact rowAt?_of (setRow_heap w g cs cs' t (0,0) h1) hs
@[go_sem] theorem rowAt?_setRow_other (cs':Array Value) (h:¬b=g):rowAt? (w.setRow g cs') b n=rowAt? w b n:=by
  unfold rowAt?
  rw [setRow_other w g b cs' h]
@[go_sem] theorem cell?_setRow_other (cs':Array Value) (i:Nat) (h:¬b=g):(w.setRow g cs').cell? ⟨b,i,none⟩=w.cell? ⟨b,i,none⟩:=by
  unfold World.cell?
  rw [setRow_other w g b cs' h]
@[go_sem] theorem frozen?_setRow_other (cs':Array Value) (i:Nat) (h:¬b=g):(w.setRow g cs').frozen? ⟨b,i,none⟩=w.frozen? ⟨b,i,none⟩:=by
  unfold World.frozen?
  rw [setRow_other w g b cs' h]
@[go_sem] theorem size_setRow' (cs':Array Value):(w.setRow g cs').heap.size=w.heap.size:=size_setRow w g cs'
theorem rowAt?_cell (h:rowAt? w g n=some cs) (i:Nat):w.cell? ⟨g,i,none⟩=cs[i]? := by
 obtain ⟨t,h1,_⟩:=rowAt?_heap h
 exact cell_of_row w g i cs t (0,0) h1
theorem rowAt?_free (h:rowAt? w g n=some cs) (i:Nat):w.frozen? ⟨g,i,none⟩=false:=by
 obtain ⟨t,h1,_⟩:=rowAt?_heap h
 exact frozen_of_row w g i cs t h1
theorem rowAt?_int {r:List Int} (h:rowAt? w g n=some (rowA r)) {i:Nat} (hi:i<r.length):w.cell? ⟨g,i,none⟩=some (.int .i64 (r.getD i 0)):=by
 rw [rowAt?_cell h,rowA_get]
 simp [List.getD,hi]
theorem rowAt?_len {r:List Int} (h:rowAt? w g n=some (rowA r)):r.length=n:=by
 obtain ⟨t,_,h2⟩:=rowAt?_heap h
 simpa using h2
theorem rowAt?_below {B:Nat} {w':World} (h:rowAt? w g n=some cs) (hb:Below B w w') (hg:g<B):rowAt? w' g n=some cs:=by
 obtain ⟨t,h1,h2⟩:=rowAt?_heap h
 exact rowAt?_of ((hb.block g hg).trans h1) h2
@[go_sem] theorem setRow_alloc_at (c c':Array Value) (t:TypeId) (hb:b=w.heap.size):(w.alloc (.cells c t)).setRow b c'=w.alloc (.cells c' t):=by
  subst hb
  simp only [World.setRow,World.alloc]
  congr 1
  apply Array.ext_getElem?
  intro i
  rw [Array.getElem?_modify,Array.getElem?_push,Array.getElem?_push]
  by_cases h:i=w.heap.size
  · subst h;simp
  · rw [if_neg h,if_neg (fun e=>h e.symm),if_neg h]
end
structure RowT (P:Program) (t e:TypeId) (n:Nat):Prop where
 arr:P.underlying t=some (.array n e)
 int:P.underlying e=some (.int .i64)
 info:(P.info? e).map (·.size)=some 1
 size:(P.info? t).map (·.size)=some n
def slowLoad (P:Program) (t:TypeId) (g:Nat) (w:World):Result Value:=(Instr.loadAt t (.pointer (some ⟨g,0,none⟩))).run P w
def slowStore (P:Program) (t:TypeId) (g:Nat) (v:Value) (w:World):Result Unit:=(Instr.storeAt t (.pointer (some ⟨g,0,none⟩)) v).run P w
theorem run_loadAt_row {t e:TypeId} {n:Nat} (T:RowT P t e n) (g:Nat) (w:World):
 (Instr.loadAt t (.pointer (some ⟨g,0,none⟩))).run P w=match rowAt? w g n with|some cs=> .ok (.agg cs) w|none=>slowLoad P t g w:=by
 cases h:rowAt? w g n with
 | none=>rfl
 | some cs=>
   obtain ⟨t',h1,h2⟩:=rowAt?_heap h
   simp only [Instr.loadAt,Instr.sureAddr,Sem.run_bind,Sem.run_pure,Result.andThen_ok]
   exact run_loadVar_row w g t' t cs (0,0) _ h1 T.arr rfl (by rw [h2];exact T.size)
theorem run_storeAt_row {t e:TypeId} {n:Nat} (T:RowT P t e n) (g:Nat) (r:List Int) (w:World):
 (Instr.storeAt t (.pointer (some ⟨g,0,none⟩)) (.agg (rowA r))).run P w=if (rowAt? w g n).isSome=true∧r.length=n then .ok () (w.setRow g (rowA r)) else slowStore P t g (.agg (rowA r)) w:=by
 split
 · rename_i h
   obtain ⟨cs,hc⟩:=Option.isSome_iff_exists.1 h.1
   obtain ⟨t',h1,h2⟩:=rowAt?_heap hc
   simp only [Instr.storeAt,Instr.sureAddr,Sem.run_bind,Sem.run_pure,Result.andThen_ok]
   exact run_storeVar_row w g t' t cs (rowA r) h1 (by rw [rowA_size,h.2];exact T.size) (by rw [rowA_size,h2,h.2]) (rowA_one r)
 · rfl
theorem run_alloc_row {t:TypeId} {cs:Array Value} (hz:(P.info? t).map (·.zero)=some (some (.agg cs))) (w:World):
 (Instr.alloc t true (.tuple #[])).run P w = .ok (.pointer (some ⟨w.heap.size,0,none⟩)) (w.alloc (.cells cs t)):=by
 cases hi:P.info? t with
 | none=>simp [hi] at hz
 | some i=>
   have h0:i.zero=some (.agg cs):=by simpa [hi] using hz
   simp [Instr.alloc,zeroValue,typeInfo,hi,h0,newVar,newRow,Value.cells]
theorem run_eql_row {t e:TypeId} {n:Nat} (T:RowT P t e n) (xs ys:List Int) (w:World) (hx:xs.length=n) (hy:ys.length=n):
 (binOp .eql t (.agg (rowA xs)) (.agg (rowA ys))).run P w = .ok (.bool (decide (xs=ys))) w:=by
 obtain ⟨i,hi,hs⟩:∃ i,P.info? e=some i∧i.size=1:=by simpa using T.info
 rw [run_eql_struct,show (10000:Nat)=9998+1+1 from rfl,run_equalIn_row 9998 T.arr T.int hi hs xs ys hx hy]
 rfl
end
theorem row206:RowT Tryz.prog 127 3 60:=⟨Tryz.underlying127,Tryz.underlying3,by kernel_rfl,by kernel_rfl⟩
theorem row207:RowT Tryz.prog 128 3 60:=⟨Tryz.underlying128,Tryz.underlying3,by kernel_rfl,by kernel_rfl⟩
theorem zero206:(Tryz.prog.info? 127).map (·.zero)=some (some (.agg (rowA zeroRow))):=by kernel_rfl
theorem zero207:(Tryz.prog.info? 128).map (·.zero)=some (some (.agg (rowA zeroRow))):=by kernel_rfl
section
variable {P:Program} {F:Fence} {nn:Nat} {ops:Array Oper} {rest:List Oper} {o:Oper} {a:Act} {w:World} {Q:Exit→Act→World→Prop}
theorem wpL_load {t e:TypeId} {n:Nat} (T:RowT P t e n) {x:Operand} (ho:o.op = .load t x) (hgd:o.guard=none) {g:Nat} (hx:a.eval x = .pointer (some ⟨g,0,none⟩)) {cs:Array Value} (hr:rowAt? w g n=some cs)
 (h:wpList P ops Q rest (a.put o.dst (.agg cs)) w):wpList P ops Q (o::rest) a w:=by
 refine wpList_plain hgd fun _ hK=> ?_
 unfold Oper.wp execOp
 simp only [ho,hx,Sem.run_bind,run_loadAt_row T,hr,Result.andThen_ok,Sem.run_pure]
 exact hK _ _ h
theorem wpL_store {t e:TypeId} {n:Nat} (T:RowT P t e n) {x y:Operand} (ho:o.op = .store t x y) (hgd:o.guard=none) {g:Nat} (hx:a.eval x = .pointer (some ⟨g,0,none⟩)) {r:List Int} (hy:a.eval y = .agg (rowA r)) (hr:(rowAt? w g n).isSome=true) (hl:r.length=n)
 (h:wpList P ops Q rest (a.put o.dst undef) (w.setRow g (rowA r))):wpList P ops Q (o::rest) a w:=by
 refine wpList_plain hgd fun _ hK=> ?_
 unfold Oper.wp execOp
 simp only [ho,hx,hy,Sem.run_bind,run_storeAt_row T,hr,hl,and_self,if_true,Result.andThen_ok,Sem.run_pure]
 exact hK _ _ h
theorem wpL_alloc {t:TypeId} (ho:o.op = .alloc t) (hgd:o.guard=none) {cs:Array Value} (hz:(P.info? t).map (·.zero)=some (some (.agg cs)))
 (h:wpList P ops Q rest (a.put o.dst (.pointer (some ⟨w.heap.size,0,none⟩))) (w.alloc (.cells cs t))):wpList P ops Q (o::rest) a w:=by
 refine wpList_plain hgd fun _ hK=> ?_
 unfold Oper.wp execOp
 simp only [ho,Sem.run_bind,run_alloc_row hz,Result.andThen_ok,Sem.run_pure]
 exact hK _ _ h
theorem wpL_storeNew {t e:TypeId} {n:Nat} (T:RowT P t e n) {x y:Operand} (ho:o.op = .store t x y) (hgd:o.guard=none) {c:Array Value} {t':TypeId} {b:Nat} (hx:a.eval x = .pointer (some ⟨b,0,none⟩)) (hb:b=w.heap.size) (hc:c.size=n) {r:List Int} (hy:a.eval y = .agg (rowA r)) (hl:r.length=n)
 (h:wpList P ops Q rest (a.put o.dst undef) (w.alloc (.cells (rowA r) t'))):wpList P ops Q (o::rest) a (w.alloc (.cells c t')):=by
 refine wpL_store T ho hgd hx hy (by rw [rowAt?_alloc_at _ _ hb,if_pos hc];rfl) hl ?_
 rwa [setRow_alloc_at _ _ _ hb]
end
@[go_sem,simp] theorem rowZ_ne:(rowA zeroRow = #[])=False:=by simp [rowA,zeroRow]
@[go_sem ↓ high] theorem eql207 (xs ys:List Int) (w:World) (hx:xs.length=60) (hy:ys.length=60):(binOp .eql 128 (.agg (rowA xs)) (.agg (rowA ys))).run Tryz.prog w = .ok (.bool (decide (xs=ys))) w:=run_eql_row row207 xs ys w hx hy
@[go_sem ↓ high] theorem eqGuard207 (op:BinOp) (x y:Operand) (xs ys:Array Value) (w:World):(eqGuard op 128 x y (.agg xs) (.agg ys)).run Tryz.prog w = .ok () w:=
  run_eqGuard_agg w op 128 x y xs ys (by kernel_rfl)
attribute [go_sem] rowA_size
@[go_sem] theorem zeroRow_len:zeroRow.length=60:=by simp [zeroRow]
@[go_sem] theorem emptyRow_len:emptyRow.length=60:=by simp [emptyRow]
@[go_sem] theorem lasts_len:lasts.length=60:=by simp [lasts]
open Go.Shelf
theorem withinB_iff {n low high:Int} : withinB n low high=true↔low≤n∧n≤high:=by simp [withinB]
theorem within_any (n low high:Int) (w:World):
 Calls Tryz.prog 103 #[.int .i64 n,.int .i64 low,.int .i64 high] w fun e w'=>e = .returned (.bool (withinB n low high))∧w'=w:=by
 by_cases h:low≤n
 · go_enter Tryz.func103,Tryz.ntmps103
   go_wp2
   go_ret
   exact ⟨by simp [withinB,h],rfl⟩
 · go_enter Tryz.func103,Tryz.ntmps103
   go_wp2
   go_ret
   exact ⟨by simp [withinB];omega,rfl⟩
theorem wrongpred (pts:Int) (_:Option Addr) (_ _:Nat) (bx:Nat) (w:World) (hlt:bx<w.heap.size) (h0:w.cell? ⟨bx,0,none⟩=some (.int .i64 pts)) (hp1:1≤pts) (hp2:pts≤60):
 PredB Tryz.prog 102 #[.pointer (some ⟨bx,0,none⟩)] (fun x=> .agg (encBound x).toArray) (wrongB pts) w:=by
 intro W x hb
 have c0:W.cell? ⟨bx,0,none⟩=some (.int .i64 pts):=(hb.cell (p:=⟨bx,0,none⟩) hlt).trans h0
 have hlt2:bx<W.heap.size:=by have:=hb.size;omega
 simp only [encBound,List.append_toArray,List.cons_append,List.nil_append]
 cases a1:withinB x.src 0 (pts-1)
 · go_enter Tryz.func102,Tryz.ntmps102
   go_wp2_with (go_at_call 103;refine (within_any _ _ _ _).mono ?_;rintro e w' ⟨rfl,rfl⟩;try simp only [a1])
   go_ret
   exact ⟨by simp [wrongB,a1],hb.alloc hb.size _⟩
 · cases a2:withinB x.dst 0 (pts-1)
   · go_enter Tryz.func102,Tryz.ntmps102
     go_wp2_with (go_at_call 103;refine (within_any _ _ _ _).mono ?_;rintro e w' ⟨rfl,rfl⟩;try simp only [a1,a2])
     go_ret
     exact ⟨by simp [wrongB,a1,a2],hb.alloc hb.size _⟩
   · by_cases a3:x.src=x.dst
     · have a3':(x.src==x.dst)=true:=by simpa using a3
       have HA:=Lib.hid a3
       clear a3
       go_enter Tryz.func102,Tryz.ntmps102
       go_wp2_with (go_at_call 103;refine (within_any _ _ _ _).mono ?_;rintro e w' ⟨rfl,rfl⟩;try simp only [a1,a2])
       go_ret
       exact ⟨by simp [wrongB,a2,HA.out],hb.alloc hb.size _⟩
     · have a3':(x.src==x.dst)=false:=by simpa using a3
       cases a4:withinB x.most (-1000000) 1000000
       · go_enter Tryz.func102,Tryz.ntmps102
         go_wp2_with (go_at_call 103;refine (within_any _ _ _ _).mono ?_;rintro e w' ⟨rfl,rfl⟩;try simp only [a1,a2,a4])
         go_ret
         exact ⟨by simp [wrongB,a1,a2,a3,a4],hb.alloc hb.size _⟩
       · cases a5:withinB x.by_ 0 1000000
         all_goals
          go_enter Tryz.func102,Tryz.ntmps102
          go_wp2_with (go_at_call 103;refine (within_any _ _ _ _).mono ?_;rintro e w' ⟨rfl,rfl⟩;try simp only [a1,a2,a4,a5])
          go_ret
          exact ⟨by simp [wrongB,a1,a2,a3,a4,a5],hb.alloc hb.size _⟩
theorem ent_wrong:∀ args w,(callFunc 102 args).run Tryz.prog w = .ok (.enter 102 args) w:=enters_of Tryz.func102 (by kernel_rfl) rfl
theorem CheckSystem_any (pts:Int) (A:Option Addr) (n c:Nat) (bs:List Bound) (w:World) (hl:Rd encBound 4 w A n c bs):
 Calls Tryz.prog 61 #[.agg #[.int .i64 pts,.slice A n c]] w fun e w'=>e = .returned (.int .i64 (checkSys pts bs))∧Below w.heap.size w w':=by
 have hlen:=hl.len
 by_cases h1:60<pts
 · have he:checkSys pts bs=2:=by unfold checkSys;rw [if_pos (.inl h1)]
   rw [he]
   clear he hlen
   go_enter Tryz.func61,Tryz.ntmps61
   go_wp2
   go_ret
   exact ⟨rfl,(by ((repeat' (first|(with_reducible assumption)|(with_reducible exact Below.refl _ _)|(with_reducible refine Below.drew ?_)|(with_reducible refine below_drewN' ?_ _)|(with_reducible refine Below.alloc ?_ ?_ _)|(with_reducible refine Below.setCell ?_ ?_ _)|(with_reducible refine below_step (by assumption) ?_ ?_)))<;>first|(simp;done)|(simp;omega)|omega))⟩
 · by_cases h2:400<n
   · have he:checkSys pts bs=2:=by unfold checkSys;rw [if_pos (.inr (by omega))]
     have h2':(400:Int)<n:=by omega
     rw [he]
     clear he hlen
     go_enter Tryz.func61,Tryz.ntmps61
     go_wp2
     go_ret
     exact ⟨rfl,(by ((repeat' (first|(with_reducible assumption)|(with_reducible exact Below.refl _ _)|(with_reducible refine Below.drew ?_)|(with_reducible refine below_drewN' ?_ _)|(with_reducible refine Below.alloc ?_ ?_ _)|(with_reducible refine Below.setCell ?_ ?_ _)|(with_reducible refine below_step (by assumption) ?_ ?_)))<;>first|(simp;done)|(simp;omega)|omega))⟩
   · have h2':¬(400:Int)<n:=by omega
     by_cases h3:pts<1
     · have he:checkSys pts bs=1:=by unfold checkSys;rw [if_neg (by omega),if_pos (.inl h3)]
       rw [he]
       clear he hlen
       go_enter Tryz.func61,Tryz.ntmps61
       go_wp2
       go_ret
       exact ⟨rfl,(by ((repeat' (first|(with_reducible assumption)|(with_reducible exact Below.refl _ _)|(with_reducible refine Below.drew ?_)|(with_reducible refine below_drewN' ?_ _)|(with_reducible refine Below.alloc ?_ ?_ _)|(with_reducible refine Below.setCell ?_ ?_ _)|(with_reducible refine below_step (by assumption) ?_ ?_)))<;>first|(simp;done)|(simp;omega)|omega))⟩
     · have hcf:=ContainsFunc_Bound 102 #[.pointer (some ⟨w.heap.size,0,none⟩)] ent_wrong (wrongB pts) A n c bs _ (hl.alloc (.cells #[.int .i64 pts,.slice A n c] 84)) (wrongpred pts A n c w.heap.size _ (by simp) (by simp) (by omega) (by omega))
       have he:checkSys pts bs=if bs.any (wrongB pts)=true then 1 else 0:=by
        unfold checkSys;rw [if_neg (by omega)]
        by_cases hq:bs.any (wrongB pts)=true
        · rw [if_pos (.inr hq),if_pos hq]
        · rw [if_neg (fun h=>by rcases h with h|h;exact h3 h;exact hq h),if_neg hq]
       rw [he]
       clear he hlen
       cases hq:bs.any (wrongB pts)
       all_goals
        rw [hq] at hcf
        clear hq
        have HCF:=Lib.hid hcf
        clear hcf
        go_enter Tryz.func61,Tryz.ntmps61
        go_wp2_with (go_at_call 104;refine HCF.out.mono ?_;rintro e w' ⟨rfl,hbC⟩)
        go_ret
        exact ⟨rfl,(by ((repeat' (first|(with_reducible assumption)|(with_reducible exact Below.refl _ _)|(with_reducible refine Below.drew ?_)|(with_reducible refine below_drewN' ?_ _)|(with_reducible refine Below.alloc ?_ ?_ _)|(with_reducible refine Below.setCell ?_ ?_ _)|(with_reducible refine below_step (by assumption) ?_ ?_)))<;>first|(simp;done)|(simp;omega)|omega))⟩
end Go.Proofs.YtejjplhknacoiaaGreatDoor
end

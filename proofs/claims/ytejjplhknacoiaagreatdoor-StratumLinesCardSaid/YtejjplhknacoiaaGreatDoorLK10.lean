/- Contracts that the laws lean on: Tab2, Facts, Rowm, Long9. -/
import Derived.Test.YtejjplhknacoiaaGreatDoorLK09
import Derived.Great.BuildSlice
set_option maxRecDepth 100000
set_option maxHeartbeats 4000000
section
namespace Go.Proofs.YtejjplhknacoiaaGreatDoor
open Go.RowKit Go.Proofs
def Later (ops:Array Oper) (a0:Act) (listed:Array Bool) (b:Act):Prop:=∀ j d,dstOf ops j=some d→listed.getD j false=false→b.tmps.getD d undef=a0.tmps.getD d undef
theorem Later.set {ops:Array Oper} {V:Nat→Value} {a0:Act} {listed:Array Bool} {b:Act} {m i:Nat} {o:Oper} (hok:tabOk ops m=true) (h:Later ops a0 listed b) (ho:ops[i]? = some o) (hs:listed.size=ops.size):Later ops a0 (listed.setIfInBounds i true) (b.put o.dst (V i)):=by
 intro j d hj hl
 have hij:i≠j:=fun e=>by
  subst e
  have hi:i<listed.size:=by rw [hs];exact (Array.getElem?_eq_some_iff.1 ho).1
  simp [hi] at hl
 rw [getD_set_ne false hij] at hl
 have h1:=h j d hj hl
 obtain ⟨_,_,_,hd⟩:=tabOk_at hok ho
 have hjs:j<ops.size:=by
  rcases Nat.lt_or_ge j ops.size with h|h
  · exact h
  · simp [dstOf,Array.getElem?_eq_none h] at hj
 cases hdst:o.dst with
 | none=>exact h1
 | some d'=>
   have hne:d'≠d:=fun e=>(hd d' hdst).2 j hjs (Ne.symm hij) (by rw [hj,e])
   rw [←h1]
   simp only [Act.put,Array.getD_eq_getD_getElem?,Array.getElem?_setIfInBounds_ne hne]
theorem wpIn_region_tab2 {P:Program} {nn:Nat} {id:Nat} {l:List Oper} {Q:Exit→Act→World→Prop} {a:Act} {w:World} (hm:P.follows .mixedOrders=true) (V:Nat→Value) (Wf:Array Bool→World) (hok:tabOk l.toArray a.tmps.size=true)
 (h0:Wf (Array.replicate l.toArray.size false)=w.drew)
 (hrun:∀ listed i o b,i∈Region.ready .any l.toArray listed→l.toArray[i]? = some o→TabAt l.toArray V a listed b→Later l.toArray a listed b→
   (execOp b.eval o).run P (Wf listed) = .ok (.value (V i)) (Wf (listed.setIfInBounds i true))∨((execOp b.eval o).run P (Wf listed) = .ok .skip (Wf (listed.setIfInBounds i true))∧V i=undef))
 (hend:∀ b,TabAt l.toArray V a (Array.replicate l.toArray.size true) b→Q .normal b (Wf (Array.replicate l.toArray.size true))):
 (Code.region id l.toArray true).wpIn Fence.wide nn P Q a w:=by
 refine wpIn_region_inv a.tmps.size hm (fun _=>trivial) hok (fun listed b W=>TabAt l.toArray V a listed b∧Later l.toArray a listed b∧W=Wf listed) ⟨TabAt.start a,fun _ _ _ _=>rfl,h0.symm⟩ ?_ ?_
 · rintro listed i o b W hs hi ho ⟨h1,h2,rfl⟩
   rcases hrun listed i o b hi ho h1 h2 with hr|⟨hr,hv⟩
   · exact wide_val hr ⟨h1.set hok rfl hi ho,h2.set hok ho hs,rfl⟩
   · refine wide_skip hr ⟨?_,?_,rfl⟩
     · rw [←hv];exact h1.set hok rfl hi ho
     · rw [←hv];exact h2.set hok ho hs
 · rintro b W ⟨h1,_,rfl⟩
   exact hend b h1
structure FactsAt (ops:Array Oper) (a:Act) (Fact:Nat→Value→World→Prop) (Pre:Nat→World→Prop) (G:World→Prop) (V:Nat→Value) (listed:Array Bool) (b:Act) (W:World):Prop where
 tab:TabAt ops V a listed b
 later:Later ops a listed b
 fact:∀ j,listed.getD j false=true→Fact j (V j) W
 pre:∀ j,j<ops.size→listed.getD j false=false→Pre j W
 glob:G W
def FactsGo (ops:Array Oper) (Fact:Nat→Value→World→Prop) (Pre:Nat→World→Prop) (G:World→Prop) (V:Nat→Value) (listed:Array Bool) (i:Nat) (d:Option Tmp) (b:Act) (W:World) (b':Act) (W':World):Prop:=
 ∃ v,b'=b.put d v∧Fact i v W'∧(∀ j,j≠i→listed.getD j false=true→Fact j (V j) W→Fact j (V j) W')∧(∀ j,j<ops.size→j≠i→listed.getD j false=false→Pre j W→Pre j W')∧G W'
theorem FactsGo.same {ops:Array Oper} {Fact:Nat→Value→World→Prop} {Pre:Nat→World→Prop} {G:World→Prop} {V:Nat→Value} {listed:Array Bool} {i:Nat} {d:Option Tmp} {b:Act} {W:World} {v:Value} (hg:G W) (h:Fact i v W):FactsGo ops Fact Pre G V listed i d b W (b.put d v) W:=
 ⟨v,rfl,h,fun _ _ _ h=>h,fun _ _ _ _ h=>h,hg⟩
section
variable {P:Program} {nn:Nat} {ops:Array Oper} {a:Act} {Fact:Nat→Value→World→Prop} {Pre:Nat→World→Prop} {G:World→Prop}
theorem FactsAt.next {m:Nat} (hok:tabOk ops m=true) (hT:m=a.tmps.size) {V:Nat→Value} {listed:Array Bool} {i:Nat} {o:Oper} {b b':Act} {W W':World} (h:FactsAt ops a Fact Pre G V listed b W) (hi:i∈Region.ready .any ops listed) (ho:ops[i]? = some o)
 (hg:FactsGo ops Fact Pre G V listed i o.dst b W b' W'):∃ V',FactsAt ops a Fact Pre G V' (listed.setIfInBounds i true) b' W':=by
 obtain ⟨v,rfl,h1,h2,h3,h4⟩:=hg
 obtain ⟨hun,_⟩:=mem_ready.1 hi
 have hun':listed.getD i false=false:=getD_both hun
 obtain ⟨V',hV⟩:∃ V':Nat→Value,∀ j,V' j=if j=i then v else V j:=⟨_,fun _=>rfl⟩
 have hi':V' i=v:=by rw [hV,if_pos rfl]
 have hcon:TabAt ops V' a listed b:=h.tab.congr (fun j hj=>by
  rw [hV,if_neg]
  intro e;subst e;rw [hun'] at hj;cases hj)
 have hlt:i<listed.size:=by rw [h.tab.size];exact (Array.getElem?_eq_some_iff.1 ho).1
 have hset:=hcon.set hok hT hi ho
 have hlat:=h.later.set (V:=V') hok ho h.tab.size
 rw [hi'] at hset hlat
 refine ⟨V',hset,hlat,fun j hj=> ?_,fun j hjs hj=> ?_,h4⟩
 · by_cases e:j=i
   · subst e;rw [hi'];exact h1
   · rw [getD_set_ne false (Ne.symm e)] at hj
     rw [hV,if_neg e]
     exact h2 j e hj (h.fact j hj)
 · by_cases e:j=i
   · subst e
     rw [getD_set_self rfl hlt] at hj
     cases hj
   · rw [getD_set_ne false (Ne.symm e)] at hj
     exact h3 j hjs e hj (h.pre j hjs hj)
theorem wpIn_region_facts {id:Nat} {l:List Oper} {Q:Exit→Act→World→Prop} {a:Act} {w:World} (m:Nat) (hm:P.follows .mixedOrders=true) (hok:tabOk l.toArray m=true) (hT:m=a.tmps.size)
 (Fact:Nat→Value→World→Prop) (Pre:Nat→World→Prop) (G:World→Prop) (hG:G w.drew) (hP:∀ j,j<l.toArray.size→Pre j w.drew)
 (hstep:∀ V listed i o b W,i∈Region.ready .any l.toArray listed→l.toArray[i]? = some o→FactsAt l.toArray a Fact Pre G V listed b W→o.wpIn Fence.wide nn P b W (fun b' W'=>FactsGo l.toArray Fact Pre G V listed i o.dst b W b' W') Q)
 (hend:∀ V W,(∀ j,j<l.toArray.size→Fact j (V j) W)→G W→Q .normal { tmps:=framed l.toArray V a.tmps l.toArray.size,defers:=a.defers } W):(Code.region id l.toArray true).wpIn Fence.wide nn P Q a w:=by
 refine wpIn_region_inv m hm (fun _=>trivial) hok (fun listed b W=> ∃ V,FactsAt l.toArray a Fact Pre G V listed b W) ?_ ?_ ?_
 · exact ⟨fun _=>undef,TabAt.start a,fun _ _ _ _=>rfl,fun j hj=>(by rw [getD_replicate_false] at hj;cases hj),fun j hj _=>hP j hj,hG⟩
 · rintro listed i o b W hs hi ho ⟨V,h⟩
   exact Oper.wpIn_mono (fun b' W' hg=>h.next hok hT hi ho hg) (hstep V listed i o b W hi ho h)
 · rintro b W ⟨V,h⟩
   have hact:=h.tab.act hok hT
   rw [hact]
   exact hend V W (fun j hj=>h.fact j (by have hj':j<l.length:=(by simpa using hj);simp [hj'])) h.glob
end
structure FactsAtX (ops:Array Oper) (a:Act) (Fact:Nat→Value→World→Prop) (Pre:Nat→World→Prop) (G:World→Prop) (X:(Nat→Value)→(Nat→Bool)→Prop) (V:Nat→Value) (listed:Array Bool) (b:Act) (W:World):Prop extends FactsAt ops a Fact Pre G V listed b W where
 x:X V (fun j=>listed.getD j false)
def nextV (V:Nat→Value) (i:Nat) (v:Value) (j:Nat):Value:=if j=i then v else V j
def nextL (listed:Array Bool) (i:Nat) (j:Nat):Bool:=if j=i then true else listed.getD j false
theorem nextV_at {V:Nat→Value} {i:Nat} {v:Value} : nextV V i v i=v:=by simp [nextV]
theorem nextV_ne {V:Nat→Value} {i j:Nat} {v:Value} (h:j≠i):nextV V i v j=V j:=by simp [nextV,h]
theorem nextL_at {listed:Array Bool} {i:Nat} : nextL listed i i=true:=by simp [nextL]
theorem nextL_ne {listed:Array Bool} {i j:Nat} (h:j≠i):nextL listed i j=listed.getD j false:=by simp only [nextL,if_neg h]
def FactsGoX (ops:Array Oper) (Fact:Nat→Value→World→Prop) (Pre:Nat→World→Prop) (G:World→Prop) (X:(Nat→Value)→(Nat→Bool)→Prop) (V:Nat→Value) (listed:Array Bool) (i:Nat) (d:Option Tmp) (b:Act) (W:World) (b':Act) (W':World):Prop:=
 ∃ v,b'=b.put d v∧Fact i v W'∧(∀ j,j≠i→listed.getD j false=true→Fact j (V j) W→Fact j (V j) W')∧(∀ j,j<ops.size→j≠i→listed.getD j false=false→Pre j W→Pre j W')∧G W'∧X (nextV V i v) (nextL listed i)
theorem FactsGoX.same {ops:Array Oper} {Fact:Nat→Value→World→Prop} {Pre:Nat→World→Prop} {G:World→Prop} {X:(Nat→Value)→(Nat→Bool)→Prop} {V:Nat→Value} {listed:Array Bool} {i:Nat} {d:Option Tmp} {b:Act} {W:World} {v:Value} (hg:G W) (h:Fact i v W) (hx:X (nextV V i v) (nextL listed i)):FactsGoX ops Fact Pre G X V listed i d b W (b.put d v) W:=
 ⟨v,rfl,h,fun _ _ _ h=>h,fun _ _ _ _ h=>h,hg,hx⟩
section
variable {P:Program} {nn:Nat} {ops:Array Oper} {a:Act} {Fact:Nat→Value→World→Prop} {Pre:Nat→World→Prop} {G:World→Prop} {X:(Nat→Value)→(Nat→Bool)→Prop}
theorem FactsAtX.next {m:Nat} (hok:tabOk ops m=true) (hT:m=a.tmps.size) {V:Nat→Value} {listed:Array Bool} {i:Nat} {o:Oper} {b b':Act} {W W':World} (h:FactsAtX ops a Fact Pre G X V listed b W) (hi:i∈Region.ready .any ops listed) (ho:ops[i]? = some o)
 (hg:FactsGoX ops Fact Pre G X V listed i o.dst b W b' W'):∃ V',FactsAtX ops a Fact Pre G X V' (listed.setIfInBounds i true) b' W':=by
 obtain ⟨v,rfl,h1,h2,h3,h4,h5⟩:=hg
 obtain ⟨hun,_⟩:=mem_ready.1 hi
 have hun':listed.getD i false=false:=getD_both hun
 have hV:∀ j,nextV V i v j=if j=i then v else V j:=fun _=>rfl
 have hi':nextV V i v i=v:=by rw [hV,if_pos rfl]
 have hcon:TabAt ops (nextV V i v) a listed b:=h.tab.congr (fun j hj=>by
  rw [hV,if_neg]
  intro e;subst e;rw [hun'] at hj;cases hj)
 have hlt:i<listed.size:=by rw [h.tab.size];exact (Array.getElem?_eq_some_iff.1 ho).1
 have hset:=hcon.set hok hT hi ho
 have hlat:=h.later.set (V:=nextV V i v) hok ho h.tab.size
 rw [hi'] at hset hlat
 have hL:nextL listed i=fun j=>(listed.setIfInBounds i true).getD j false:=by
  funext j
  by_cases e:j=i
  · subst e;rw [nextL_at,getD_set_self rfl hlt]
  · rw [nextL_ne e,getD_set_ne false (Ne.symm e)]
 refine ⟨nextV V i v,⟨hset,hlat,fun j hj=> ?_,fun j hjs hj=> ?_,h4⟩,hL ▸ h5⟩
 · by_cases e:j=i
   · subst e;rw [hi'];exact h1
   · rw [getD_set_ne false (Ne.symm e)] at hj
     rw [hV,if_neg e]
     exact h2 j e hj (h.fact j hj)
 · by_cases e:j=i
   · subst e
     rw [getD_set_self rfl hlt] at hj
     cases hj
   · rw [getD_set_ne false (Ne.symm e)] at hj
     exact h3 j hjs e hj (h.pre j hjs hj)
theorem wpIn_region_factsX {id:Nat} {l:List Oper} {Q:Exit→Act→World→Prop} {a:Act} {w:World} (m:Nat) (hm:P.follows .mixedOrders=true) (hok:tabOk l.toArray m=true) (hT:m=a.tmps.size)
 (Fact:Nat→Value→World→Prop) (Pre:Nat→World→Prop) (G:World→Prop) (X:(Nat→Value)→(Nat→Bool)→Prop) (hG:G w.drew) (hP:∀ j,j<l.toArray.size→Pre j w.drew) (hX:∀ V,X V (fun _=>false))
 (hstep:∀ V listed i o b W,i∈Region.ready .any l.toArray listed→l.toArray[i]? = some o→FactsAtX l.toArray a Fact Pre G X V listed b W→o.wpIn Fence.wide nn P b W (fun b' W'=>FactsGoX l.toArray Fact Pre G X V listed i o.dst b W b' W') Q)
 (hend:∀ V W,(∀ j,j<l.toArray.size→Fact j (V j) W)→G W→X V (fun j=>(Array.replicate l.toArray.size true).getD j false)→Q .normal { tmps:=framed l.toArray V a.tmps l.toArray.size,defers:=a.defers } W):(Code.region id l.toArray true).wpIn Fence.wide nn P Q a w:=by
 refine wpIn_region_inv m hm (fun _=>trivial) hok (fun listed b W=> ∃ V,FactsAtX l.toArray a Fact Pre G X V listed b W) ?_ ?_ ?_
 · refine ⟨fun _=>undef,⟨TabAt.start a,fun _ _ _ _=>rfl,fun j hj=>(by rw [getD_replicate_false] at hj;cases hj),fun j hj _=>hP j hj,hG⟩,?_⟩
   have:(fun j=>(Array.replicate l.toArray.size false).getD j false)=fun _=>false:=by funext j;exact getD_replicate_false _ _
   rw [this];exact hX _
 · rintro listed i o b W hs hi ho ⟨V,h⟩
   exact Oper.wpIn_mono (fun b' W' hg=>h.next hok hT hi ho hg) (hstep V listed i o b W hi ho h)
 · rintro b W ⟨V,h⟩
   have hact:=h.tab.act hok hT
   rw [hact]
   exact hend V W (fun j hj=>h.fact j (by have hj':j<l.length:=(by simpa using hj);simp [hj'])) h.glob h.x
end
def encRow (r:Row):List Value:=(List.range 60).map fun j=> .int .i64 (r.getD j 0)
theorem encRow_len (r:Row):(encRow r).length=60:=by simp [encRow]
theorem oneRow (r:Row):∀ u∈encRow r,u.oneCell'=true:=by
 intro u hu
 unfold encRow at hu
 obtain ⟨j,_,rfl⟩:=List.mem_map.1 hu
 rfl
theorem encRow_get (r:Row) (j:Nat) (h:j<60):(encRow r)[j]? = some (.int .i64 (r.getD j 0)):=by
 simp [encRow,h]
theorem encRow_rowA {r:Row} (h:r.length=60):(rowA r).toList=encRow r:=by
 apply List.ext_getElem?
 intro j
 by_cases hj:j<60
 · rw [encRow_get r j hj,Array.getElem?_toList,rowA_get,List.getElem?_eq_getElem (by omega)]
   simp [List.getD_eq_getElem?_getD,h,hj]
 · rw [List.getElem?_eq_none (by simp [h];omega),List.getElem?_eq_none (by rw [encRow_len];omega)]
theorem elRow:ElemT Tryz.prog 130 128 60 480:=elemT_of (z:=.agg (rowA zeroRow)) Tryz.underlying130 (by kernel_rfl) (by simp [Value.cells,zeroRow]) (by decide)
theorem elLast:ElemT Tryz.prog 131 127 60 480:=elemT_of (z:=.agg (rowA zeroRow)) Tryz.underlying131 (by kernel_rfl) (by simp [Value.cells,zeroRow]) (by decide)
section
variable {w:World} {g n c B:Nat} {e:TypeId} {xs:List Row}
theorem Own.range (h:Own encRow 60 e B w (some ⟨g,0,none⟩) n c xs) {i:Nat} {r:Row} (hx:xs[i]? = some r):w.rangeAt g (i * 60) (encRow r):=fun j u hu=>h.cells encRow_len hx j u hu
theorem run_load207 {o:Nat} {r:Row} (hr:r.length=60) (h:w.rangeAt g o (encRow r)):(Instr.loadAt 128 (.pointer (some ⟨g,o,none⟩))).run Tryz.prog w = .ok (.agg (rowA r)) w:=by
 have:=run_loadAt_mid (P:=Tryz.prog) w g o 128 (encRow r) _ h row207.arr rfl (by rw [encRow_len];exact row207.size)
 rw [this,←encRow_rowA hr]
theorem Own.cellRow (h:Own encRow 60 e B w (some ⟨g,0,none⟩) n c xs) {i j:Nat} {r:Row} (hx:xs[i]? = some r) (hj:j<60):w.cell? ⟨g,i * 60+j,none⟩=some (.int .i64 (r.getD j 0)):=
 h.range hx j _ (encRow_get r j hj)
end
theorem run_build1 {P:Program} {tS e:TypeId} (E:ElemT P tS e 60 480) (w:World) {r:Row} (hr:r.length=60):(Instr.buildSlice tS 1 #[(0,.agg (rowA r))]).run P w = .ok (.slice (some ⟨w.heap.size,0,none⟩) 1 1) (w.alloc (.cells (rowA r) e)):=by
 obtain ⟨i,z,hi,hz0,hz1,hz2,hz3⟩:=E.info
 have hsz:(rowA r).size=60:=by rw [rowA_size,hr]
 have hf:=Great.fill_whole (s:=60) (by decide) [.agg (rowA r)] ((Array.range (1 * i.size)).map (z.cells[· % z.cells.size]!)) (by simp [Value.cells,hr]) (by simp [hz1])
 have hc:((Value.agg (rowA r)).cells.toList).toArray=rowA r:=by simp [Value.cells]
 refine run_buildSlice w tS e 1 _ (rowA r) i z E.slice hi hz0 (by rw [hz1];decide) (by rw [hz1];decide) ?_
 rw [hz1] at hf ⊢
 simpa [Value.cells] using hf
theorem Rd.row1 (w:World) {e:TypeId} {r:Row} (hr:r.length=60):Rd encRow 60 (w.alloc (.cells (rowA r) e)) (some ⟨w.heap.size,0,none⟩) 1 1 [r]:=
 Rd.single w (rowA r) e [r] 1 rfl (by omega) encRow_len (by rw [encRow_rowA hr];simp)
theorem run_make1 (B:Nat) (w:World) (hB:B≤w.heap.size):∃ w',(Instr.makeSlice 131 (.int .i64 1) (.int .i64 1)).run Tryz.prog w = .ok (.slice (some ⟨w.heap.size,0,none⟩) 1 1) w'∧Own encRow 60 127 B w' (some ⟨w.heap.size,0,none⟩) 1 1 [zeroRow]∧w.grownBy w' none:=by
 obtain ⟨i,z,hi,hz0,hz1,hz2,hz3⟩:=elLast.info
 have hzz:z = .agg (rowA zeroRow):=by
  have h1:=zero206
  rw [hi] at h1
  simpa [hz0] using h1
 obtain ⟨w',h1,h2,h3⟩:=run_makeSlice_full (P:=Tryz.prog) (w:=w) B 131 127 i z 60 elLast.slice hi hz0 hz1 .i64 .i64 1 (by decide) (by omega) (by decide) hB
 refine ⟨w',h1,⟨rfl,?_⟩,h3⟩
 have hm:(madeCells z.cells (1 * 60)).toList = [zeroRow].flatMap encRow:=by rw [hzz];kernel_rfl
 rw [←hm]
 exact h2
def code164_9:Option Code→Code
 | some (.seq _ (.seq _ (.seq _ (.seq _ c))))=>c
 | _=> .skip
theorem Own.ne_type {α:Type} {enc:α→List Value} {k n c B:Nat} {e:TypeId} {W:World} {A:Option Addr} {xs:List α} (h:Own enc k e B W A n c xs) {j:Nat} {cur:Array Value} {e':TypeId} {fr:Nat×Nat} (hj:W.heap[j]? = some (.cells cur e' fr)) (hne:e'≠e):A=none∨blockOf A≠some j:=
 h.ne hj (fun cur' he=>by injection he with _ h2 _;exact hne h2)
theorem Own.apart {α β:Type} {enc:α→List Value} {enc':β→List Value} {k n c B k' n' c' B':Nat} {e e':TypeId} {W:World} {A A':Option Addr} {xs:List α} {ys:List β} (h:Own enc k e B W A n c xs) (h':Own enc' k' e' B' W A' n' c' ys) (hne:e'≠e):A=none∨blockOf A≠blockOf A':=by
 rcases h'.block with rfl|⟨g,cur,rfl,hg,_⟩
 · rcases h.block with rfl|⟨g,cur,rfl,hg,_⟩
   · exact .inl rfl
   · exact .inr (by simp [blockOf])
 · exact h.ne_type hg hne
structure ChgT (T:Nat→Prop) (W W':World):Prop where
 os:W'.os=W.os
 tape:W'.tape=W.tape
 output:W'.output=W.output
 size:W.heap.size≤W'.heap.size
 block:∀ k,k<W.heap.size→¬T k→W'.heap[k]? = W.heap[k]?
theorem ChgT.refl (T:Nat→Prop) (W:World):ChgT T W W:=⟨rfl,rfl,rfl,Nat.le_refl _,fun _ _ _=>rfl⟩
theorem ChgT.drew {T:Nat→Prop} {W W':World} (h:ChgT T W W'):ChgT T W W'.drew:=⟨h.os,h.tape,h.output,h.size,h.block⟩
theorem ChgT.trans {T:Nat→Prop} {A B C:World} (h:ChgT T A B) (k:ChgT T B C):ChgT T A C:=
 ⟨k.os.trans h.os,k.tape.trans h.tape,k.output.trans h.output,Nat.le_trans h.size k.size,fun i hi ht=>(k.block i (by have:=h.size;omega) ht).trans (h.block i hi ht)⟩
theorem ChgT.mono {T T':Nat→Prop} {A B:World} (h:ChgT T A B) (hT:∀ k,k<A.heap.size→T k→T' k):ChgT T' A B:=⟨h.os,h.tape,h.output,h.size,fun i hi ht=>h.block i hi (fun t=>ht (hT i hi t))⟩
theorem ChgT.below {W W':World} (h:ChgT (fun _=>False) W W'):Below W.heap.size W W':=⟨h.os,h.tape,h.output,h.size,fun k hk=>h.block k hk (fun f=>f)⟩
theorem Below.chgT {W W':World} (T:Nat→Prop) (h:Below W.heap.size W W'):ChgT T W W':=⟨h.os,h.tape,h.output,h.size,fun k hk _=>h.block k hk⟩
theorem ChgT.grown {T:Nat→Prop} {w W W':World} (h:ChgT T w W) {row:Option Nat} (hg:W.grownBy W' row) (hr:∀ r,row=some r→T r∨w.heap.size≤r):ChgT T w W':=
 ⟨hg.os.trans h.os,hg.tape.trans h.tape,hg.output.trans h.output,Nat.le_trans h.size hg.size,fun k hk ht=>(hg.block k (Nat.lt_of_lt_of_le hk h.size) (fun e=>by
   rcases hr k e.symm with h1|h1
   · exact ht h1
   · omega)).trans (h.block k hk ht)⟩
theorem noneRow (A:Option Addr):A=Option.none∨blockOf A≠Option.none:=by cases A<;>simp [blockOf]
theorem set_same {cs:Array Value} {i:Nat} {v:Value} (h:cs[i]? = some v):cs=cs.setIfInBounds i v:=by
 apply Array.ext_getElem?
 intro j
 rw [Array.getElem?_setIfInBounds]
 split
 · rename_i e;subst e
   rw [h,if_pos (Array.getElem?_eq_some_iff.1 h).1]
 · rfl
theorem heap_setCell_at {W:World} {B i:Nat} {cs:Array Value} {v:Value} {t:TypeId} (h:W.heap[B]? = some (.cells cs t (0,0))):(W.setCell ⟨B,i,none⟩ v).heap[B]? = some (.cells (cs.setIfInBounds i v) t (0,0)):=by
 obtain ⟨hlt,hk⟩:=Array.getElem?_eq_some_iff.1 h
 show (W.heap.modify B _)[B]? = _
 rw [Array.getElem?_eq_getElem (by rw [Array.size_modify];exact hlt),Array.getElem_modify_self,hk]
 rfl
theorem run_load_op {P:Program} {t e:TypeId} {n:Nat} (T:RowT P t e n) {o:Oper} {b:Act} {w:World} {x:Tmp} (ho:o.op = .load t (.tmp x)) {g:Nat} (hx:b.tmps.getD x undef = .pointer (some ⟨g,0,Option.none⟩)) {cs:Array Value} (hr:rowAt? w g n=some cs):
 (execOp b.eval o).run P w = .ok (.value (.agg cs)) w:=by
 have hx':b.eval (.tmp x) = .pointer (some ⟨g,0,Option.none⟩):=hx
 simp only [execOp,ho,hx',Sem.run_bind,run_loadAt_row T,hr,Result.andThen_ok,Sem.run_pure]
def tchL (ba:Nat) (As Al:Option Addr) (k:Nat):Prop:=k=ba∨blockOf As=some k∨blockOf Al=some k
def Grown1 (t:TypeId) (w0 W:World) (B:Nat) (A A2:Option Addr) (n:Nat) (c2:Nat) (xs:List Row) (x:Row):Prop:=Own encRow 60 t B W A2 (n+1) c2 (xs ++ [x])∧(blockOf A2=blockOf A∨∃ k,w0.heap.size≤k∧blockOf A2=some k)
def factL (w0:World) (B ba off _ _:Nat) (cur:Array Value) (As:Option Addr) (ns cs:Nat) (Al:Option Addr) (nl cl:Nat) (sums last:List Row) (nx lx:Row):Nat→Value→World→Prop
 | 0,v,_=>v = .pointer (some ⟨ba,off,none⟩)
 | 1,v,_=>v = .pointer (some ⟨ba,off,none⟩)
 | 2,v,_=>v = .pointer (some ⟨ba,off,none⟩)
 | 3,v,_=>v = .pointer (some ⟨ba,off,none⟩)
 | 4,v,_=>v = .pointer (some ⟨ba,off,none⟩)
 | 5,v,_=>v = .slice As ns cs
 | 6,v,_=>v = .agg (rowA nx)
 | 7,v,W=> ∃ k,v = .slice (some ⟨k,0,none⟩) 1 1∧w0.heap.size≤k∧Rd encRow 60 W (some ⟨k,0,none⟩) 1 1 [nx]
 | 8,v,W=> ∃ A2 c2,v = .slice A2 (ns+1) c2∧Grown1 128 w0 W B As A2 ns c2 sums nx
 | 9,v,_=>v = .pointer (some ⟨ba,off,none⟩)
 | 10,v,_=>v = .pointer (some ⟨ba,off,none⟩)
 | 11,v,_=>v = .pointer (some ⟨ba,off+1,none⟩)
 | 12,v,_=>v = .slice Al nl cl
 | 13,v,_=>v = .agg (rowA lx)
 | 14,v,W=> ∃ k,v = .slice (some ⟨k,0,none⟩) 1 1∧w0.heap.size≤k∧Rd encRow 60 W (some ⟨k,0,none⟩) 1 1 [lx]
 | 15,v,W=> ∃ A2 c2,v = .slice A2 (nl+1) c2∧Grown1 127 w0 W B Al A2 nl c2 last lx
 | 16,v,_=>v = .pointer (some ⟨ba,off,none⟩)
 | 17,v,_=>v = .pointer (some ⟨ba,off,none⟩)
 | 18,_,W=> ∃ A2 c2 v1,Grown1 128 w0 W B As A2 ns c2 sums nx∧W.heap[ba]? = some (.cells ((cur.setIfInBounds off (.slice A2 (ns+1) c2)).setIfInBounds (off+1) v1) 133 (0,0))
 | 19,v,_=>v = .pointer (some ⟨ba,off,none⟩)
 | 20,v,_=>v = .pointer (some ⟨ba,off+1,none⟩)
 | 21,_,W=> ∃ A2 c2 A3 c3,Grown1 128 w0 W B As A2 ns c2 sums nx∧Grown1 127 w0 W B Al A3 nl c3 last lx∧W.heap[ba]? = some (.cells ((cur.setIfInBounds off (.slice A2 (ns+1) c2)).setIfInBounds (off+1) (.slice A3 (nl+1) c3)) 133 (0,0))
 | _,_,_=>True
def preL (_:World) (B ba off b5 b6:Nat) (cur:Array Value) (As:Option Addr) (ns cs:Nat) (Al:Option Addr) (nl cl:Nat) (sums last:List Row) (nx lx:Row):Nat→World→Prop
 | 5,W=>W.cell? ⟨ba,off,none⟩=some (.slice As ns cs)
 | 6,W=>rowAt? W b5 60=some (rowA nx)
 | 8,W=>Own encRow 60 128 B W As ns cs sums
 | 12,W=>W.cell? ⟨ba,off+1,none⟩=some (.slice Al nl cl)
 | 13,W=>rowAt? W b6 60=some (rowA lx)
 | 15,W=>Own encRow 60 127 B W Al nl cl last
 | 18,W=>W.heap[ba]? = some (.cells cur 133 (0,0))
 | _,_=>True
section
variable {w0 W W':World} {B ba off b5 b6:Nat} {cur:Array Value} {As:Option Addr} {ns cs:Nat} {Al:Option Addr} {nl cl:Nat} {sums last:List Row} {nx lx:Row}
theorem Grown1.kept {t:TypeId} {A A2:Option Addr} {n c2:Nat} {xs:List Row} {x:Row} (h:Grown1 t w0 W B A A2 n c2 xs x) {row:Option Nat} (hg:W.grownBy W' row) (hr:A2=none∨blockOf A2≠row):Grown1 t w0 W' B A A2 n c2 xs x:=⟨h.1.kept hg hr,h.2⟩
theorem Rd.kept1 {k:Nat} {x:Row} (h:Rd encRow 60 W (some ⟨k,0,none⟩) 1 1 [x]) {row:Option Nat} (hg:W.grownBy W' row) (hr:row≠some k):Rd encRow 60 W' (some ⟨k,0,none⟩) 1 1 [x]:=by
 obtain ⟨b,off,e,hlt,_⟩:=h.at_ (by omega)
 cases e
 have hb:=hg.block _ hlt (fun e=>hr e.symm)
 exact ⟨h.len,h.big,h.cap,fun hn=>by
  obtain ⟨b',off',e',_,hc⟩:=h.at_ hn
  cases e'
  exact ⟨k,0,rfl,Nat.lt_of_lt_of_le hlt hg.size,fun i x hx j u hu=>by
   rw [←hc i x hx j u hu]
   unfold World.cell?
   rw [hb]⟩⟩
theorem factL.none (hg:W.grownBy W' none):∀ (j:Nat) (v:Value),factL w0 B ba off b5 b6 cur As ns cs Al nl cl sums last nx lx j v W→factL w0 B ba off b5 b6 cur As ns cs Al nl cl sums last nx lx j v W':=by
 intro j v h
 unfold factL at h ⊢
 split at h
 all_goals first
  | exact h
  | (obtain ⟨k,a1,a2,a3⟩:=h;exact ⟨k,a1,a2,a3.kept1 hg (fun e=>by cases e)⟩)
  | (obtain ⟨A2,c2,a1,a2⟩:=h;exact ⟨A2,c2,a1,a2.kept hg (noneRow _)⟩)
  | (obtain ⟨A2,c2,v1,a1,a2⟩:=h;exact ⟨A2,c2,v1,a1.kept hg (noneRow _),(hg.block _ (Array.getElem?_eq_some_iff.1 a2).1 (by simp)).trans a2⟩)
  | (obtain ⟨A2,c2,A3,c3,a1,a2,a3⟩:=h;exact ⟨A2,c2,A3,c3,a1.kept hg (noneRow _),a2.kept hg (noneRow _),(hg.block _ (Array.getElem?_eq_some_iff.1 a3).1 (by simp)).trans a3⟩)
theorem cell_grown {b i:Nat} {v:Value} (h:W.cell? ⟨b,i,none⟩=some v) {row:Option Nat} (hg:W.grownBy W' row) (hr:row≠some b):W'.cell? ⟨b,i,none⟩=some v:=by
 have hb:b<W.heap.size:=by
  rcases Nat.lt_or_ge b W.heap.size with h1|h1
  · exact h1
  · simp [World.cell?,Array.getElem?_eq_none h1] at h
 rw [←h]
 unfold World.cell?
 rw [hg.block b hb (fun e=>hr e.symm)]
theorem rowAt?_grown {b n:Nat} {c:Array Value} (h:rowAt? W b n=some c) {row:Option Nat} (hg:W.grownBy W' row) (hr:row≠some b):rowAt? W' b n=some c:=by
 obtain ⟨t,h1,h2⟩:=rowAt?_heap h
 exact rowAt?_of ((hg.block b (Array.getElem?_eq_some_iff.1 h1).1 (fun e=>hr e.symm)).trans h1) h2
theorem preL.none (hg:W.grownBy W' none):∀ (j:Nat),preL w0 B ba off b5 b6 cur As ns cs Al nl cl sums last nx lx j W→preL w0 B ba off b5 b6 cur As ns cs Al nl cl sums last nx lx j W':=by
 intro j h
 unfold preL at h ⊢
 split at h
 all_goals first
  | exact h
  | exact cell_grown h hg (fun e=>by cases e)
  | exact rowAt?_grown h hg (fun e=>by cases e)
  | exact Own.kept h hg (noneRow _)
  | exact (hg.block _ (Array.getElem?_eq_some_iff.1 h).1 (by simp)).trans h
end
theorem longer9 (c:Code) (hc:c=code164_9 Tryz.f64.body) (B ba off b5 b6:Nat) (cur:Array Value) (As:Option Addr) (ns cs:Nat) (Al:Option Addr) (nl cl:Nat) (sums last:List Row) (nx lx:Row) (a:Act) (w:World) (Q:Exit→Act→World→Prop)
 (hT:a.tmps.size=84) (t0:a.tmps.getD 0 undef = .pointer (some ⟨ba,off,none⟩)) (t5:a.tmps.getD 5 undef = .pointer (some ⟨b5,0,none⟩)) (t6:a.tmps.getD 6 undef = .pointer (some ⟨b6,0,none⟩))
 (hcur:w.heap[ba]? = some (.cells cur 133 (0,0))) (hc0:cur[off]? = some (.slice As ns cs)) (hc1:cur[off+1]? = some (.slice Al nl cl))
 (h5:rowAt? w b5 60=some (rowA nx)) (h6:rowAt? w b6 60=some (rowA lx)) (hnx:nx.length=60) (hlx:lx.length=60)
 (n1:blockOf As≠some b5) (n2:blockOf Al≠some b5) (n3:blockOf As≠some b6) (n4:blockOf Al≠some b6) (n5:ba≠b5) (n6:ba≠b6)
 (hO:Own encRow 60 128 B w As ns cs sums) (hO2:Own encRow 60 127 B w Al nl cl last) (hB:B≤w.heap.size) (hns:ns≤1000) (hnl:nl≤1000)
 (hQ:∀ b W,b.defers=a.defers→ChgT (tchL ba As Al) w W→factL w B ba off b5 b6 cur As ns cs Al nl cl sums last nx lx 21 undef W→Q .normal b W):
 c.wp Tryz.prog Q a w:=by
 subst hc
 unfold code164_9 Tryz.f64
 dsimp only
 have hbl:ba<w.heap.size:=(Array.getElem?_eq_some_iff.1 hcur).1
 have nA:blockOf As≠some ba:=(by
  rcases hO.ne_type hcur (by decide) with rfl|h
  · simp [blockOf]
  · exact h)
 have nL:blockOf Al≠some ba:=(by
  rcases hO2.ne_type hcur (by decide) with rfl|h
  · simp [blockOf]
  · exact h)
 have oA:∀ k,blockOf As=some k→k<w.heap.size:=(fun k hk=>by
  rcases hO.block with rfl|⟨g,_,rfl,hg,_⟩
  · cases hk
  · cases hk;exact (Array.getElem?_eq_some_iff.1 hg).1)
 have oL:∀ k,blockOf Al=some k→k<w.heap.size:=(fun k hk=>by
  rcases hO2.block with rfl|⟨g,_,rfl,hg,_⟩
  · cases hk
  · cases hk;exact (Array.getElem?_eq_some_iff.1 hg).1)
 refine wpIn_wide.1 (wpIn_region_facts (nn:=5) 84 (by kernel_rfl) (by kernel_rfl) hT.symm (factL w B ba off b5 b6 cur As ns cs Al nl cl sums last nx lx) (preL w B ba off b5 b6 cur As ns cs Al nl cl sums last nx lx) (fun W=>ChgT (tchL ba As Al) w W) (ChgT.refl _ w).drew ?_ ?_ ?_)
 · intro j hj
   unfold preL
   split
   · show w.cell? ⟨ba,off,none⟩=_
     simp [World.cell?,hcur,hc0]
   · exact h5
   · exact hO.drew
   · show w.cell? ⟨ba,off+1,none⟩=_
     simp [World.cell?,hcur,hc1]
   · exact h6
   · exact hO2.drew
   · exact hcur
   · trivial
 · intro V listed i o b W hi ho h
   obtain ⟨hun,oi,hoi,hall⟩:=mem_ready.1 hi
   have:oi=o:=Option.some.inj (hoi.symm.trans ho)
   subst this
   clear hoi hi
   have hlt:i<22:=(by have:=(Array.getElem?_eq_some_iff.1 ho).1;simpa using this)
   have hun':listed.getD i false=false:=getD_both hun
   have hpre:=h.pre i (by simpa using hlt) hun'
   rcases (by omega:i=0∨i=1∨i=2∨i=3∨i=4∨i=5∨i=6∨i=7∨i=8∨i=9∨i=10∨i=11∨i=12∨i=13∨i=14∨i=15∨i=16∨i=17∨i=18∨i=19∨i=20∨i=21) with rfl|rfl|rfl|rfl|rfl|rfl|rfl|rfl|rfl|rfl|rfl|rfl|rfl|rfl|rfl|rfl|rfl|rfl|rfl|rfl|rfl|rfl
   all_goals simp only [List.getElem?_toArray,List.getElem?_cons_zero,List.getElem?_cons_succ] at ho
   all_goals cases ho
   ·
    have q0:=(h.tab.old 0 (dst_no h.tab (by kernel_rfl))).trans t0
    have q0':b.tmps[0]?.getD undef=_:=(by simpa using q0)
    refine wide_val (v:=.pointer (some ⟨ba,off,none⟩)) (by go_simp;try rfl) (FactsGo.same h.glob rfl)
   ·
    have q0:=(h.tab.old 0 (dst_no h.tab (by kernel_rfl))).trans t0
    have q0':b.tmps[0]?.getD undef=_:=(by simpa using q0)
    refine wide_val (v:=.pointer (some ⟨ba,off,none⟩)) (by go_simp;try rfl) (FactsGo.same h.glob rfl)
   ·
    have q0:=(h.tab.old 0 (dst_no h.tab (by kernel_rfl))).trans t0
    have q0':b.tmps[0]?.getD undef=_:=(by simpa using q0)
    refine wide_val (v:=.pointer (some ⟨ba,off,none⟩)) (by go_simp;try rfl) (FactsGo.same h.glob rfl)
   ·
    have l2:=hall ⟨2,.data⟩ (by simp) rfl
    have e2:b.tmps.getD 66 undef = .pointer (some ⟨ba,off,none⟩):=(h.tab.val 2 66 rfl l2).trans (h.fact 2 l2)
    have e2':b.tmps[66]?.getD undef = .pointer (some ⟨ba,off,none⟩):=(by simpa using e2)
    refine wide_val (v:=.pointer (some ⟨ba,off,none⟩)) (by go_simp;try rfl) (FactsGo.same h.glob rfl)
   ·
    have l3:=hall ⟨3,.data⟩ (by simp) rfl
    have e3:b.tmps.getD 67 undef = .pointer (some ⟨ba,off,none⟩):=(h.tab.val 3 67 rfl l3).trans (h.fact 3 l3)
    have e3':b.tmps[67]?.getD undef = .pointer (some ⟨ba,off,none⟩):=(by simpa using e3)
    refine wide_val (v:=.pointer (some ⟨ba,off,none⟩)) (by go_simp;try rfl) (FactsGo.same h.glob rfl)
   ·
    have l4:=hall ⟨4,.data⟩ (by simp) rfl
    have e4:b.tmps.getD 68 undef = .pointer (some ⟨ba,off,none⟩):=(h.tab.val 4 68 rfl l4).trans (h.fact 4 l4)
    have e4':b.tmps[68]?.getD undef = .pointer (some ⟨ba,off,none⟩):=(by simpa using e4)
    have p0:W.cell? ⟨ba,off,none⟩=some (.slice As ns cs):=hpre
    refine wide_val (v:=.slice As ns cs) (by go_simp;try rfl) (FactsGo.same h.glob rfl)
   ·
    have q5:=(h.tab.old 5 (dst_no h.tab (by kernel_rfl))).trans t5
    have q5':b.tmps[5]?.getD undef=_:=(by simpa using q5)
    have p0:rowAt? W b5 60=some (rowA nx):=hpre
    exact wide_val (run_load_op row207 rfl q5 p0) (FactsGo.same h.glob rfl)
   ·
    have l6:=hall ⟨6,.data⟩ (by simp) rfl
    have e6:b.tmps.getD 70 undef = .agg (rowA nx):=(h.tab.val 6 70 rfl l6).trans (h.fact 6 l6)
    have e6':b.tmps[70]?.getD undef = .agg (rowA nx):=(by simpa using e6)
    have f0:b.eval (.tmp 70) = .agg (rowA nx):=e6
    have hgr:W.grownBy (W.alloc (.cells (rowA nx) 128)) none:=World.grownBy_alloc _ _ _
    refine wide_val (W':=W.alloc (.cells (rowA nx) 128)) (v:=.slice (some ⟨W.heap.size,0,none⟩) 1 1) (by simp only [execOp,List.map_toArray,List.map_cons,List.map_nil,f0,Sem.run_bind,run_build1 elRow W hnx,Result.andThen_ok,Sem.run_pure]) ⟨_,rfl,⟨W.heap.size,rfl,h.glob.size,Rd.row1 W hnx⟩,fun j _ _ hf=>factL.none hgr j _ hf,fun j _ _ _ hp=>preL.none hgr j hp,h.glob.grown hgr (fun r e=>by cases e)⟩
   ·
    have l5:=hall ⟨5,.data⟩ (by simp) rfl
    have e5:b.tmps.getD 69 undef = .slice As ns cs:=(h.tab.val 5 69 rfl l5).trans (h.fact 5 l5)
    have e5':b.tmps[69]?.getD undef = .slice As ns cs:=(by simpa using e5)
    have l7:=hall ⟨7,.data⟩ (by simp) rfl
    have n15:listed.getD 15 false=false:=not_listed (h.tab.closed 15 _ rfl) ⟨8,.chain⟩ (by simp) rfl hun'
    have n18:listed.getD 18 false=false:=not_listed (h.tab.closed 18 _ rfl) ⟨8,.data⟩ (by simp) rfl hun'
    have n21:listed.getD 21 false=false:=not_listed (h.tab.closed 21 _ rfl) ⟨15,.data⟩ (by simp) rfl n15
    have p0:Own encRow 60 128 B W As ns cs sums:=hpre
    obtain ⟨k,a1,a2,a3⟩:=h.fact 7 l7
    have f5:b.eval (.tmp 69) = .slice As ns cs:=e5
    have f7:b.eval (.tmp 71) = .slice (some ⟨k,0,none⟩) 1 1:=(h.tab.val 7 71 rfl l7).trans a1
    obtain ⟨A2,c2,W2,hrun,hOw,hgr,hal⟩:=run_append_src elRow 130 encRow_len oneRow p0 (some ⟨k,0,none⟩) 1 1 [nx] a3 (by omega) (by decide) (by have:=h.glob.size;omega)
    refine wide_val (v:=.slice A2 (ns+1) c2) (W':=W2) (by simp only [execOp,resolve,invoke,builtin,Sem.run_bind,Sem.run_pure,Result.andThen_ok,List.map_toArray,List.map_cons,List.map_nil,f5,f7,hrun]) ⟨_,rfl,⟨A2,c2,rfl,hOw,?_⟩,?_,?_,h.glob.grown hgr (fun r e=> .inl (.inr (.inl e)))⟩
    · rcases hal with e|e
      · exact .inl e
      · exact .inr ⟨_,h.glob.size,e⟩
    · intro j hj hl hf
      unfold factL at hf ⊢
      split at hf
      all_goals first
       | exact hf
       | (exact absurd rfl hj)
       | (rw [n15] at hl;cases hl)
       | (rw [n18] at hl;cases hl)
       | (rw [n21] at hl;cases hl)
       | (obtain ⟨k,a1,a2,a3⟩:=hf;exact ⟨k,a1,a2,a3.kept1 hgr (fun e=>by have:=oA k e;omega)⟩)
    · intro j hjs hj hl hp
      unfold preL at hp ⊢
      split at hp
      all_goals first
       | exact hp
       | (exact absurd rfl hj)
       | exact cell_grown hp hgr nA
       | exact rowAt?_grown hp hgr n1
       | exact rowAt?_grown hp hgr n3
       | exact Own.kept hp hgr (hp.apart p0 (by decide))
       | exact (hgr.block _ (Array.getElem?_eq_some_iff.1 hp).1 (fun e=>nA e.symm)).trans hp
   ·
    have q0:=(h.tab.old 0 (dst_no h.tab (by kernel_rfl))).trans t0
    have q0':b.tmps[0]?.getD undef=_:=(by simpa using q0)
    refine wide_val (v:=.pointer (some ⟨ba,off,none⟩)) (by go_simp;try rfl) (FactsGo.same h.glob rfl)
   ·
    have l9:=hall ⟨9,.data⟩ (by simp) rfl
    have e9:b.tmps.getD 73 undef = .pointer (some ⟨ba,off,none⟩):=(h.tab.val 9 73 rfl l9).trans (h.fact 9 l9)
    have e9':b.tmps[73]?.getD undef = .pointer (some ⟨ba,off,none⟩):=(by simpa using e9)
    refine wide_val (v:=.pointer (some ⟨ba,off,none⟩)) (by go_simp;try rfl) (FactsGo.same h.glob rfl)
   ·
    have l10:=hall ⟨10,.data⟩ (by simp) rfl
    have e10:b.tmps.getD 74 undef = .pointer (some ⟨ba,off,none⟩):=(h.tab.val 10 74 rfl l10).trans (h.fact 10 l10)
    have e10':b.tmps[74]?.getD undef = .pointer (some ⟨ba,off,none⟩):=(by simpa using e10)
    refine wide_val (v:=.pointer (some ⟨ba,off+1,none⟩)) (by go_simp;try rfl) (FactsGo.same h.glob rfl)
   ·
    have l11:=hall ⟨11,.data⟩ (by simp) rfl
    have e11:b.tmps.getD 75 undef = .pointer (some ⟨ba,off+1,none⟩):=(h.tab.val 11 75 rfl l11).trans (h.fact 11 l11)
    have e11':b.tmps[75]?.getD undef = .pointer (some ⟨ba,off+1,none⟩):=(by simpa using e11)
    have p0:W.cell? ⟨ba,off+1,none⟩=some (.slice Al nl cl):=hpre
    refine wide_val (v:=.slice Al nl cl) (by go_simp;try rfl) (FactsGo.same h.glob rfl)
   ·
    have q6:=(h.tab.old 6 (dst_no h.tab (by kernel_rfl))).trans t6
    have q6':b.tmps[6]?.getD undef=_:=(by simpa using q6)
    have p0:rowAt? W b6 60=some (rowA lx):=hpre
    exact wide_val (run_load_op row206 rfl q6 p0) (FactsGo.same h.glob rfl)
   ·
    have l13:=hall ⟨13,.data⟩ (by simp) rfl
    have e13:b.tmps.getD 77 undef = .agg (rowA lx):=(h.tab.val 13 77 rfl l13).trans (h.fact 13 l13)
    have e13':b.tmps[77]?.getD undef = .agg (rowA lx):=(by simpa using e13)
    have f0:b.eval (.tmp 77) = .agg (rowA lx):=e13
    have hgr:W.grownBy (W.alloc (.cells (rowA lx) 127)) none:=World.grownBy_alloc _ _ _
    refine wide_val (W':=W.alloc (.cells (rowA lx) 127)) (v:=.slice (some ⟨W.heap.size,0,none⟩) 1 1) (by simp only [execOp,List.map_toArray,List.map_cons,List.map_nil,f0,Sem.run_bind,run_build1 elLast W hlx,Result.andThen_ok,Sem.run_pure]) ⟨_,rfl,⟨W.heap.size,rfl,h.glob.size,Rd.row1 W hlx⟩,fun j _ _ hf=>factL.none hgr j _ hf,fun j _ _ _ hp=>preL.none hgr j hp,h.glob.grown hgr (fun r e=>by cases e)⟩
   ·
    have l12:=hall ⟨12,.data⟩ (by simp) rfl
    have e12:b.tmps.getD 76 undef = .slice Al nl cl:=(h.tab.val 12 76 rfl l12).trans (h.fact 12 l12)
    have e12':b.tmps[76]?.getD undef = .slice Al nl cl:=(by simpa using e12)
    have l14:=hall ⟨14,.data⟩ (by simp) rfl
    have n18:listed.getD 18 false=false:=not_listed (h.tab.closed 18 _ rfl) ⟨15,.chain⟩ (by simp) rfl hun'
    have n21:listed.getD 21 false=false:=not_listed (h.tab.closed 21 _ rfl) ⟨15,.data⟩ (by simp) rfl hun'
    have y8:listed.getD 8 false=true:=hall ⟨8,.chain⟩ (by simp) rfl
    have p0:Own encRow 60 127 B W Al nl cl last:=hpre
    obtain ⟨k,a1,a2,a3⟩:=h.fact 14 l14
    have f5:b.eval (.tmp 76) = .slice Al nl cl:=e12
    have f7:b.eval (.tmp 78) = .slice (some ⟨k,0,none⟩) 1 1:=(h.tab.val 14 78 rfl l14).trans a1
    obtain ⟨A2,c2,W2,hrun,hOw,hgr,hal⟩:=run_append_src elLast 131 encRow_len oneRow p0 (some ⟨k,0,none⟩) 1 1 [lx] a3 (by omega) (by decide) (by have:=h.glob.size;omega)
    refine wide_val (v:=.slice A2 (nl+1) c2) (W':=W2) (by simp only [execOp,resolve,invoke,builtin,Sem.run_bind,Sem.run_pure,Result.andThen_ok,List.map_toArray,List.map_cons,List.map_nil,f5,f7,hrun]) ⟨_,rfl,⟨A2,c2,rfl,hOw,?_⟩,?_,?_,h.glob.grown hgr (fun r e=> .inl (.inr (.inr e)))⟩
    · rcases hal with e|e
      · exact .inl e
      · exact .inr ⟨_,h.glob.size,e⟩
    · intro j hj hl hf
      unfold factL at hf ⊢
      split at hf
      all_goals first
       | exact hf
       | (exact absurd rfl hj)
       | (rw [n18] at hl;cases hl)
       | (rw [n21] at hl;cases hl)
       | (obtain ⟨k,a1,a2,a3⟩:=hf;exact ⟨k,a1,a2,a3.kept1 hgr (fun e=>by have:=oL k e;omega)⟩)
       | (obtain ⟨A3,c3,a1,a2⟩:=hf;exact ⟨A3,c3,a1,a2.kept hgr (a2.1.apart p0 (by decide))⟩)
    · intro j hjs hj hl hp
      unfold preL at hp ⊢
      split at hp
      all_goals first
       | exact hp
       | (exact absurd rfl hj)
       | (rw [y8] at hl;cases hl)
       | exact cell_grown hp hgr nL
       | exact rowAt?_grown hp hgr n2
       | exact rowAt?_grown hp hgr n4
       | exact (hgr.block _ (Array.getElem?_eq_some_iff.1 hp).1 (fun e=>nL e.symm)).trans hp
   ·
    have l0:=hall ⟨0,.data⟩ (by simp) rfl
    have e0:b.tmps.getD 64 undef = .pointer (some ⟨ba,off,none⟩):=(h.tab.val 0 64 rfl l0).trans (h.fact 0 l0)
    have e0':b.tmps[64]?.getD undef = .pointer (some ⟨ba,off,none⟩):=(by simpa using e0)
    refine wide_val (v:=.pointer (some ⟨ba,off,none⟩)) (by go_simp;try rfl) (FactsGo.same h.glob rfl)
   ·
    have l16:=hall ⟨16,.data⟩ (by simp) rfl
    have e16:b.tmps.getD 80 undef = .pointer (some ⟨ba,off,none⟩):=(h.tab.val 16 80 rfl l16).trans (h.fact 16 l16)
    have e16':b.tmps[80]?.getD undef = .pointer (some ⟨ba,off,none⟩):=(by simpa using e16)
    refine wide_val (v:=.pointer (some ⟨ba,off,none⟩)) (by go_simp;try rfl) (FactsGo.same h.glob rfl)
   ·
    have l17:=hall ⟨17,.data⟩ (by simp) rfl
    have e17:b.tmps.getD 81 undef = .pointer (some ⟨ba,off,none⟩):=(h.tab.val 17 81 rfl l17).trans (h.fact 17 l17)
    have e17':b.tmps[81]?.getD undef = .pointer (some ⟨ba,off,none⟩):=(by simpa using e17)
    have l8:=hall ⟨8,.data⟩ (by simp) rfl
    obtain ⟨A2,c2,a1,a2⟩:=h.fact 8 l8
    have f5:b.tmps.getD 72 undef = .slice A2 (ns+1) c2:=(h.tab.val 8 72 rfl l8).trans a1
    have f5':b.tmps[72]?.getD undef = .slice A2 (ns+1) c2:=(by simpa using f5)
    have hh:W.heap[ba]? = some (.cells cur 133 (0,0)):=hpre
    have hcc:cur[off]? = some (.slice As ns cs):=hc0
    have d0:W.cell? ⟨ba,off,none⟩=some _:=(by simp only [World.cell?,hh];exact hcc)
    have d1:W.frozen? ⟨ba,off,none⟩=false:=(by simp [World.frozen?,hh])
    have hgr:W.grownBy (W.setCell ⟨ba,off,none⟩ (.slice A2 (ns+1) c2)) (some ba):=grownBy_setCell' W ba _ _
    have hnew:=heap_setCell_at (i:=off) (v:=.slice A2 (ns+1) c2) hh
    rw [set_same (cs:=cur.setIfInBounds off (.slice A2 (ns+1) c2)) (i:=off+1) (v:=.slice Al nl cl) (by rw [Array.getElem?_setIfInBounds_ne (by omega)];exact hc1)] at hnew
    refine wide_skip (W':=W.setCell ⟨ba,off,none⟩ (.slice A2 (ns+1) c2)) (by go_simp) ⟨_,rfl,⟨A2,c2,.slice Al nl cl,a2.kept hgr (a2.1.ne_type hh (by decide)),hnew⟩,?_,?_,h.glob.grown hgr (fun r e=> .inl (.inl (Option.some.inj e).symm))⟩
    · have n21:listed.getD 21 false=false:=not_listed (h.tab.closed 21 _ rfl) ⟨18,.chain⟩ (by simp) rfl hun'
      intro j hj hl hf
      unfold factL at hf ⊢
      split at hf
      all_goals first
       | exact hf
       | (exact absurd rfl hj)
       | (rw [n21] at hl;cases hl)
       | (obtain ⟨k,a1,a2,a3⟩:=hf;exact ⟨k,a1,a2,a3.kept1 hgr (fun e=>by cases e;omega)⟩)
       | (obtain ⟨A4,c4,a1,a2⟩:=hf;exact ⟨A4,c4,a1,a2.kept hgr (a2.1.ne_type hh (by decide))⟩)
    · have y5:listed.getD 5 false=true:=hall ⟨5,.phase⟩ (by simp) rfl
      have y12:listed.getD 12 false=true:=hall ⟨12,.phase⟩ (by simp) rfl
      have y15:listed.getD 15 false=true:=hall ⟨15,.chain⟩ (by simp) rfl
      intro j hjs hj hl hp
      unfold preL at hp ⊢
      split at hp
      all_goals first
       | exact hp
       | (exact absurd rfl hj)
       | (rw [y5] at hl;cases hl)
       | (rw [y12] at hl;cases hl)
       | (rw [y15] at hl;cases hl)
       | (rw [l8] at hl;cases hl)
       | exact rowAt?_grown hp hgr (fun e=>n5 (Option.some.inj e))
       | exact rowAt?_grown hp hgr (fun e=>n6 (Option.some.inj e))
   ·
    have l1:=hall ⟨1,.data⟩ (by simp) rfl
    have e1:b.tmps.getD 65 undef = .pointer (some ⟨ba,off,none⟩):=(h.tab.val 1 65 rfl l1).trans (h.fact 1 l1)
    have e1':b.tmps[65]?.getD undef = .pointer (some ⟨ba,off,none⟩):=(by simpa using e1)
    refine wide_val (v:=.pointer (some ⟨ba,off,none⟩)) (by go_simp;try rfl) (FactsGo.same h.glob rfl)
   ·
    have l19:=hall ⟨19,.data⟩ (by simp) rfl
    have e19:b.tmps.getD 82 undef = .pointer (some ⟨ba,off,none⟩):=(h.tab.val 19 82 rfl l19).trans (h.fact 19 l19)
    have e19':b.tmps[82]?.getD undef = .pointer (some ⟨ba,off,none⟩):=(by simpa using e19)
    refine wide_val (v:=.pointer (some ⟨ba,off+1,none⟩)) (by go_simp;try rfl) (FactsGo.same h.glob rfl)
   ·
    have l20:=hall ⟨20,.data⟩ (by simp) rfl
    have e20:b.tmps.getD 83 undef = .pointer (some ⟨ba,off+1,none⟩):=(h.tab.val 20 83 rfl l20).trans (h.fact 20 l20)
    have e20':b.tmps[83]?.getD undef = .pointer (some ⟨ba,off+1,none⟩):=(by simpa using e20)
    have l15:=hall ⟨15,.data⟩ (by simp) rfl
    obtain ⟨A2,c2,a1,a2⟩:=h.fact 15 l15
    have f5:b.tmps.getD 79 undef = .slice A2 (nl+1) c2:=(h.tab.val 15 79 rfl l15).trans a1
    have f5':b.tmps[79]?.getD undef = .slice A2 (nl+1) c2:=(by simpa using f5)
    have l18:=hall ⟨18,.chain⟩ (by simp) rfl
    obtain ⟨A3,c3,v1,a3,hh⟩:=h.fact 18 l18
    have hcs:=(Array.getElem?_eq_some_iff.1 hc1).1
    have hcc:((cur.setIfInBounds off (.slice A3 (ns+1) c3)).setIfInBounds (off+1) v1)[off+1]? = some v1:=Array.getElem?_setIfInBounds_self_of_lt (by simpa using hcs)
    have d0:W.cell? ⟨ba,off+1,none⟩=some _:=(by simp only [World.cell?,hh];exact hcc)
    have d1:W.frozen? ⟨ba,off+1,none⟩=false:=(by simp [World.frozen?,hh])
    have hgr:W.grownBy (W.setCell ⟨ba,off+1,none⟩ (.slice A2 (nl+1) c2)) (some ba):=grownBy_setCell' W ba _ _
    have hnew:=heap_setCell_at (i:=off+1) (v:=.slice A2 (nl+1) c2) hh
    rw [Array.setIfInBounds_setIfInBounds] at hnew
    refine wide_skip (W':=W.setCell ⟨ba,off+1,none⟩ (.slice A2 (nl+1) c2)) (by go_simp) ⟨_,rfl,⟨A3,c3,A2,c2,a3.kept hgr (a3.1.ne_type hh (by decide)),a2.kept hgr (a2.1.ne_type hh (by decide)),hnew⟩,?_,?_,h.glob.grown hgr (fun r e=> .inl (.inl (Option.some.inj e).symm))⟩
    · intro j hj hl hf
      unfold factL at hf ⊢
      split at hf
      all_goals first
       | exact hf
       | (exact absurd rfl hj)
       | (obtain ⟨k,a1,a2,a3⟩:=hf;exact ⟨k,a1,a2,a3.kept1 hgr (fun e=>by cases e;omega)⟩)
       | (obtain ⟨A4,c4,a1,a2⟩:=hf;exact ⟨A4,c4,a1,a2.kept hgr (a2.1.ne_type hh (by decide))⟩)
       | (obtain ⟨A4,c4,v4,a1,a2⟩:=hf;rw [hh] at a2;have a3:=heap_setCell_at (i:=off+1) (v:=.slice A2 (nl+1) c2) (hh.trans a2);rw [Array.setIfInBounds_setIfInBounds] at a3;exact ⟨A4,c4,_,a1.kept hgr (a1.1.ne_type hh (by decide)),a3⟩)
    · have y5:listed.getD 5 false=true:=hall ⟨5,.phase⟩ (by simp) rfl
      have y12:listed.getD 12 false=true:=hall ⟨12,.phase⟩ (by simp) rfl
      have y8:listed.getD 8 false=true:=hall ⟨8,.phase⟩ (by simp) rfl
      intro j hjs hj hl hp
      unfold preL at hp ⊢
      split at hp
      all_goals first
       | exact hp
       | (exact absurd rfl hj)
       | (rw [y5] at hl;cases hl)
       | (rw [y12] at hl;cases hl)
       | (rw [y8] at hl;cases hl)
       | (rw [l15] at hl;cases hl)
       | (rw [l18] at hl;cases hl)
       | exact rowAt?_grown hp hgr (fun e=>n5 (Option.some.inj e))
       | exact rowAt?_grown hp hgr (fun e=>n6 (Option.some.inj e))
 · intro V W hf hg
   exact hQ _ W rfl hg (hf 21 (by decide))
end Go.Proofs.YtejjplhknacoiaaGreatDoor
end

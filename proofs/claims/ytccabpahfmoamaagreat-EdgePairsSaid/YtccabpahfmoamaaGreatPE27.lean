/- Contracts that the laws lean on: Law, Ope, Sml. -/
import Derived.ReadAgain
import Derived.Test.YtccabpahfmoamaaGreatPE26
set_option maxRecDepth 100000
section
namespace Go.Proofs.YtccabpahfmoamaaGreat
open Go.RowKit Go.WideShapes Go.ChangeShapes
theorem law_kept {H:Type} {enc:TypeId×Value→H} {P:Program} {f:Func} {s:ChangeSpec} {apart fresh handsOn again:Bool} {W W':World} {args:Array Value} {v:Value} {ds gs:List (DataW H)} {before pa pv:List MemPlace}
 (hW:DataW.Whole enc P f.params.toList s.vars apart W args.toList ds gs before) (hb:Below W.heap.size W W') (hps:before=pa++pv)
 (hres:∀ (b:Nat) (sp:Nat→Bool) (hd:Bool),DataW.TrodAll enc P W' b sp hd f.resultTypes.toList (v.resultList f.resultTypes.size) (s.fn H (ds++gs)).results [])
 (hargs:∀ sp:Nat→Bool,(∀ p∈before,sp p.block=true)→DataW.TrodAll enc P W' 0 sp true f.params.toList args.toList (s.fn H (ds++gs)).args pa)
 (hvars:∀ sp:Nat→Bool,(∀ p∈before,sp p.block=true)→DataW.TrodVars enc P W' sp s.vars (s.fn H (ds++gs)).vars pv)
 (hok:∀ (j:Nat) (t:TypeId) (r:Value),f.resultTypes[j]? = some t→(v.resultList f.resultTypes.size)[j]? = some r→Value.okWide P W' .any 0 t r):
 s.post enc P f apart fresh handsOn again W args v W':=by
 have old:∀ p∈before,p.block<W.heap.size:=fun p hp=>hW.lt p hp
 have mem:∀ p,p∈before↔p∈pa++pv:=fun p=>by rw [hps]
 have full:∀ p∈before,(fun _:Nat=>true) p.block=true:=fun _ _=>rfl
 have some_:∀ p∈before,(fun b=>decide (b<W.heap.size)) p.block=true:=fun p hp=>decide_eq_true (old p hp)
 obtain ⟨k1,k2,k3,k4,k5,hz,hn⟩:=id hW
 refine ⟨ds,gs,before,[],pa,pv,hW,hres _ _ _,hargs _ some_,hvars _ some_,World.keptBut_mono (fun p hp=>⟨hp,.inr ((mem p).1 hp |> List.mem_append.1)⟩) (hb.frame (· ∈ before)),fun _=>⟨hok,_,_,([]++pa)++pv,⟨[]++pa,pv,trodAll_append (hargs _ full) (hres _ _ _),hvars _ full,rfl,fun b off hp=> ?_,fun ha=> ?_⟩,fun p hp _=> ?_⟩⟩
 · have hin:MemPlace.cell b off∈before:=(mem _).2 (by simpa using hp)
   exact (hb.frozen (old _ hin)).trans (hz b off hin)
 · have h:=hn ha
   rw [hps] at h
   simpa using h
 · exact (mem p).2 (by simpa using hp)
open Go.Proofs Go.Deep
theorem kidsP:Kids Tryz.prog (· < Tryz.prog.types.size):=kids_rows (by kernel_rfl) (by kernel_rfl)
theorem fullP:∀ t e,t<Tryz.prog.types.size→Tryz.prog.underlying t=some (.slice e)→0<Tryz.prog.cellsOf e:=slices_full_of Tryz.prog (by kernel_rfl)
section
variable {H:Type} {enc:TypeId×Value→H} {w W W':World} {base:Nat} {spare:Nat→Bool} {held:Bool}
theorem trodAll_carry (hs:∀ p:MemPlace,p.block<W.heap.size→W.sameAt W' p) {sp:Nat→Bool} :∀ {ts:List TypeId} {vs:List Value} {ds:List (DataW H)} {ps:List MemPlace},DataW.TrodAll enc Tryz.prog W base sp held ts vs ds ps→DataW.TrodAll enc Tryz.prog W' base sp held ts vs ds ps
 | [],[],[],_,h=>h
 | t::ts,v::vs,d::ds,_,⟨p,q,h1,h2,e⟩=>by
   have hlt:=DataW.TrodAll.lt (ts:=[t]) (vs:=[v]) (ds:=[d]) (trodAll_mk1 h1)
   obtain ⟨n,hn⟩:=h1
   exact ⟨p,q,⟨n,DataW.trod_carry n _ _ _ hn fun x hx=>hs x (hlt x hx)⟩,trodAll_carry hs h2,e⟩
theorem args_kept {ts:List TypeId} {vs:List Value} {ds:List (DataW H)} {ps:List MemPlace} (hA:DataW.TrodAll enc Tryz.prog W 0 (fun _=>true) true ts vs ds ps) (hb:Below W.heap.size W W') (hT:∀ t∈ts,t<Tryz.prog.types.size) (sp:Nat→Bool) (hsp:∀ p∈ps,sp p.block=true):
 DataW.TrodAll enc Tryz.prog W' 0 sp true ts vs ds ps:=
 DataW.TrodAll.respare kidsP fullP hT (trodAll_carry (fun _ h=>hb.same h) hA) hsp
theorem field_read {P:Program} {fs:Array Field} {xs:List (DataW H×List MemPlace)} {n:Nat} {cs:List Value} (hf:∀ (i:Nat) (f:Field),fs[i]? = some f→DataW.trod enc P w base spare held n f.type ((cs.drop f.offset).take (P.cellsOf f.type))=xs[i]?) (hl:xs.length=fs.size)
 (i:Nat) {f:Field} (hi:fs[i]? = some f) (t o k:Nat) (ht:f.type=t) (ho:f.offset=o) (hk:P.cellsOf t=k):∃ y,DataW.trod enc P w base spare held n t ((cs.drop o).take k)=some y:=by
 subst ht
 subst ho
 subst hk
 have h:=hf i f hi
 have hlt:=(Array.getElem?_eq_some_iff.1 hi).1
 rw [List.getElem?_eq_getElem (by omega)] at h
 exact ⟨_,h⟩
theorem one_int {P:Program} {t:TypeId} {k:IntKind} {fuel:Nat} {v:Value} {x:DataW H×List MemPlace} (ht:P.underlying t=some (.int k)) (h:DataW.trod enc P w base spare held fuel t [v]=some x):∃ n,v = .int k n∧(Lit.int k n).wf=true:=by
 obtain ⟨n,hn,_,hw⟩:=DataW.trod_int ht h
 cases hn
 exact ⟨n,rfl,hw⟩
theorem cellsInt:Tryz.prog.cellsOf 3=1:=by kernel_rfl
theorem decBound {fuel:Nat} {cs:List Value} {x:DataW H×List MemPlace} (h:DataW.trod enc Tryz.prog w base spare held fuel 56 cs=some x):∃ y:Bound,cs=encBound y:=by
 obtain ⟨xs,m,_,_,hl,hxl,hf⟩:=DataW.trod_struct Tryz.underlying56 h
 rw [show Tryz.prog.cellsOf 56=4 by kernel_rfl] at hl
 match cs,hl with
 | [c0,c1,c2,c3],_=>
   obtain ⟨y0,g0⟩:=field_read hf hxl 0 rfl 3 0 1 rfl rfl cellsInt
   obtain ⟨y1,g1⟩:=field_read hf hxl 1 rfl 3 1 1 rfl rfl cellsInt
   obtain ⟨y2,g2⟩:=field_read hf hxl 2 rfl 3 2 1 rfl rfl cellsInt
   obtain ⟨y3,g3⟩:=field_read hf hxl 3 rfl 3 3 1 rfl rfl cellsInt
   simp only [List.drop_zero,List.drop_succ_cons,List.take_succ_cons,List.take_zero] at g0 g1 g2 g3
   obtain ⟨a0,rfl,_⟩:=one_int Tryz.underlying3 g0
   obtain ⟨a1,rfl,_⟩:=one_int Tryz.underlying3 g1
   obtain ⟨a2,rfl,_⟩:=one_int Tryz.underlying3 g2
   obtain ⟨a3,rfl,_⟩:=one_int Tryz.underlying3 g3
   exact ⟨⟨a0,a1,a2,a3⟩,rfl⟩
theorem open_rd {α:Type} [Inhabited α] {encA:α→List Value} {k:Nat} {t e:TypeId} {fuel:Nat} {cs:List Value} {x:DataW H×List MemPlace} (ht:Tryz.prog.underlying t=some (.slice e)) (hC:Tryz.prog.cellsOf e=k) (hk:0<k) (hlen:∀ y:α,(encA y).length=k)
 (hdec:∀ (n:Nat) (cs:List Value) (x:DataW H×List MemPlace),DataW.trod enc Tryz.prog w base spare held n e cs=some x→∃ y:α,cs=encA y) (h:DataW.trod enc Tryz.prog w base spare held fuel t cs=some x):
 ∃ (A:Option Addr) (n c:Nat) (xs:List α),cs = [.slice A n c]∧xs.length=n∧(n≤17592186044416→Rd encA k w A n c xs):=by
 rcases open_slice ht h with ⟨rfl,_⟩|⟨a,len,cap,m,n,D,Pl,rfl,hb,hl,hm,hmm,_,hx⟩
 · exact ⟨none,0,0,[],rfl,rfl,fun _=>Rd.none_ none 0 (by omega)⟩
 · have hlm:len≤m:=by rw [hmm];split<;>omega
   have each:∀ i,i<len→∃ y:α,∀ j,j<k→w.cell? (a.add (i * k+j))=(encA y)[j]? := fun i hi=>by
    obtain ⟨cs',h1,h2⟩:=hx i (by omega)
    obtain ⟨y,rfl⟩:=hdec _ _ _ h2
    rw [hC] at h1
    obtain ⟨_,_,h3⟩:=World.cells?_some h1
    exact ⟨y,fun j hj=>by rw [←add_add];exact h3 j hj⟩
   obtain ⟨f,hf⟩:=choose_lt each
   refine ⟨some a,len,cap,(List.range len).map f,rfl,by simp,fun hbig=>⟨by simp,hbig,⟨hl,hm⟩,fun hn=> ?_⟩⟩
   have h0:=hf 0 hn 0 hk
   obtain ⟨b,off,spot⟩:=a
   rw [List.getElem?_eq_getElem (by rw [hlen];exact hk)] at h0
   have hspot:spot=none:=by
    cases spot with
    | none=>rfl
    | some s=>
      rw [show 0 * k+0=0 by omega,show (⟨b,off,some s⟩:Addr).add 0=⟨b,off,some s⟩ from rfl] at h0
      unfold World.cell? at h0
      split at h0
      · cases h0
      · cases h0
   subst hspot
   have hlt:b<w.heap.size:=by
    rw [add_lit] at h0
    unfold World.cell? at h0
    split at h0
    · rename_i h1;exact (Array.getElem?_eq_some_iff.1 h1).1
    · cases h0
   refine ⟨b,off,rfl,hlt,fun i y hy j u hu=> ?_⟩
   rw [List.getElem?_map] at hy
   have hi:i<len:=by
    rcases Nat.lt_or_ge i len with h|h
    · exact h
    · rw [List.getElem?_eq_none (by simpa using h)] at hy;cases hy
   rw [List.getElem?_eq_getElem (by simpa using hi)] at hy
   simp only [List.getElem_range,Option.map_some,Option.some.injEq] at hy
   subst hy
   have hj:j<k:=by rw [←hlen (f i)];exact (List.getElem?_eq_some_iff.1 hu).1
   have:=hf i hi j hj
   rw [add_lit,hu] at this
   rw [Nat.add_assoc];exact this
def InL {α:Type} (encA:α→List Value) (k:Nat) (w:World) (A:Option Addr) (n c:Nat) (xs:List α):Prop:=xs.length=n∧(n≤17592186044416→Rd encA k w A n c xs)
theorem decOutl {fuel:Nat} {cs:List Value} {x:DataW H×List MemPlace} (h:DataW.trod enc Tryz.prog w base spare held fuel 24 cs=some x):
 ∃ (y:Outl) (WA:Option Addr) (wn wc:Nat) (TA:Option Addr) (tn tc:Nat),cs = [.int .i64 y.n,.slice WA wn wc,.slice TA tn tc]∧InL encBound 4 w WA wn wc y.ways∧InL encBound 4 w TA tn tc y.turns:=by
 obtain ⟨xs,m,_,_,hl,hxl,hf⟩:=DataW.trod_struct Tryz.underlying24 h
 rw [show Tryz.prog.cellsOf 24=3 by kernel_rfl] at hl
 match cs,hl with
 | [c0,c1,c2],_=>
   obtain ⟨y0,g0⟩:=field_read hf hxl 0 rfl 3 0 1 rfl rfl cellsInt
   obtain ⟨y1,g1⟩:=field_read hf hxl 1 rfl 22 1 1 rfl rfl (by kernel_rfl)
   obtain ⟨y2,g2⟩:=field_read hf hxl 2 rfl 22 2 1 rfl rfl (by kernel_rfl)
   simp only [List.drop_zero,List.drop_succ_cons,List.take_succ_cons,List.take_zero] at g0 g1 g2
   obtain ⟨a0,rfl,_⟩:=one_int Tryz.underlying3 g0
   obtain ⟨WA,wn,wc,ws,e1,l1,r1⟩:=open_rd (encA:=encBound) (k:=4) Tryz.underlying22 (by kernel_rfl) (by omega) (fun _=>rfl) (fun _ _ _ h=>decBound h) g1
   obtain ⟨TA,tn,tc,ts,e2,l2,r2⟩:=open_rd (encA:=encBound) (k:=4) Tryz.underlying22 (by kernel_rfl) (by omega) (fun _=>rfl) (fun _ _ _ h=>decBound h) g2
   cases e1
   cases e2
   exact ⟨⟨a0,ws,ts⟩,WA,wn,wc,TA,tn,tc,rfl,⟨l1,r1⟩,⟨l2,r2⟩⟩
end
end Go.Proofs.YtccabpahfmoamaaGreat
end
section
namespace Go.Proofs.YtccabpahfmoamaaGreat
open Go.RowKit Go.Proofs Go.Shelf
end Go.Proofs.YtccabpahfmoamaaGreat
end

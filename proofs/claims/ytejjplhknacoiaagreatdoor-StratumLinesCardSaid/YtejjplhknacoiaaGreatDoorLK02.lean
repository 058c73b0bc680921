/- Contracts that the laws lean on: Map, MapR, Keys, Clone. -/
import Derived.Test.YtejjplhknacoiaaGreatDoorLK01
import Derived.RangeFuncGives
import Derived.Sort.MapsRangeIn
import Derived.TacticsInMore
import Derived.RegionIn
import Derived.LoopNIn
import Derived.LoopIn
set_option maxRecDepth 100000
set_option maxHeartbeats 1000000
section
namespace Go.Proofs.YtejjplhknacoiaaGreatDoor
open Go.RowKit Go.Proofs
def keyV (p:Place):Value:=.agg #[.int .i64 p.pit,.int .i64 p.layer]
def keyPl:Value→Option Place
 | .agg a=>match a.toList with
   | [.int .i64 p,.int .i64 l]=>some ⟨p,l⟩
   | _=>none
 | _=>none
theorem keyPl_key (p:Place):keyPl (keyV p)=some p:=rfl
theorem keyPl_iff {p k:Place} {v:Value} (h:v=keyV p):keyPl v=some k↔p=k:=by
 subst h;rw [keyPl_key];simp
structure MapP {V:Type} (E:V→Value) (w:World) (b:Nat) (m:List (Place×V)):Prop where
 at_:∃ es clock,w.heap[b]? = some (.map es clock)∧es.toList.map (fun e=>(e.key,e.val))=m.map (fun p=>(keyV p.1,E p.2))∧
  es.toList.Pairwise (fun x y=>x.born<y.born)∧(∀ e∈es.toList,e.born<clock)
 once:(m.map (·.1)).Nodup
def putM {V:Type} (m:List (Place×V)) (k:Place) (v:V):List (Place×V):=
 if m.any (fun p=>decide (p.1=k)) then m.map (fun p=>if p.1=k then (k,v) else p) else m ++ [(k,v)]
def getM {V:Type} (m:List (Place×V)) (k:Place):Option V:=(m.find? (fun p=>decide (p.1=k))).map (·.2)
section
variable {V:Type} {E:V→Value} {w w':World} {b:Nat} {m:List (Place×V)}
theorem MapP.lt (h:MapP E w b m):b<w.heap.size:=by
 obtain ⟨es,cl,h1,_⟩:=h.at_
 exact (Array.getElem?_eq_some_iff.1 h1).1
theorem MapP.kept (h:MapP E w b m) {row:Option Nat} (hg:w.grownBy w' row) (hne:some b≠row):MapP E w' b m:=by
 have hl:=h.lt
 obtain ⟨es,cl,h1,h2⟩:=h.at_
 exact ⟨⟨es,cl,(hg.block b hl hne).trans h1,h2⟩,h.once⟩
theorem MapP.below (h:MapP E w b m) {B:Nat} (hb:Below B w w') (hB:b<B):MapP E w' b m:=by
 obtain ⟨es,cl,h1,h2⟩:=h.at_
 exact ⟨⟨es,cl,(hb.block b hB).trans h1,h2⟩,h.once⟩
theorem MapP.alloc (h:MapP E w b m) (o:Obj):MapP E (w.alloc o) b m:=h.kept (World.grownBy_alloc w o none) (by simp)
theorem MapP.drewN (h:MapP E w b m) (n:Nat):MapP E (w.drewN n) b m:=⟨h.at_,h.once⟩
theorem MapP.drew (h:MapP E w b m):MapP E w.drew b m:=⟨h.at_,h.once⟩
theorem MapP.made (w:World):MapP E (w.alloc (.map #[] 0)) w.heap.size []:=
 ⟨⟨#[],0,heap_alloc_new w _,rfl,by simp,by simp⟩,by simp⟩
theorem MapP.setCell (h:MapP E w b m) (p:Addr) (u:Value) (hp:b≠p.block):MapP E (w.setCell p u) b m:=by
 obtain ⟨es,cl,h1,h2⟩:=h.at_
 exact ⟨⟨es,cl,(Below.heap_setCell w p u b hp).trans h1,h2⟩,h.once⟩
end
theorem run_equalPl (p q:Place) (w:World):(Op.equal 36 (keyV p) (keyV q)).run Tryz.prog w = .ok (eqPlace p q) w:=by
 have:=equalInPlace 9998 p.pit p.layer q.pit q.layer w
 simpa [Op.equal,Op.maxDepth,keyV] using this
theorem run_checkPl (e:Bool) (p:Place) (w:World):(Instr.checkKey e 10000 36 (keyV p)).run Tryz.prog w = .ok () w:=by
 have h3:∀ n v,(Instr.checkKey e (n+1) 3 (.int .i64 v)).run Tryz.prog w = .ok () w:=fun n v=>by
  simp [Instr.checkKey,run_underlying Tryz.underlying3]
 rw [show (10000:Nat)=9998+1+1 from rfl]
 rw [Instr.checkKey]
 simp only [Sem.run_bind,run_underlying Tryz.underlying36,Result.andThen_ok,keyV]
 have h4:=h3 9998 p.pit
 have h5:=h3 9998 p.layer
 rw [←Array.forIn_toList]
 simp only [List.forIn_cons,List.forIn_nil]
 go_simp
def findI (k:Place):List MapEntry→Nat→Option (Nat×Value)
 | [],_=>none
 | e::es,i=>if keyPl e.key=some k then some (i,e.val) else findI k es (i+1)
theorem run_findAskingPl (k:Place) (w:World):∀ (es:List MapEntry) (i:Nat),(∀ e∈es,∃ p,e.key=keyV p)→(Instr.findAsking 36 (keyV k) es i).run Tryz.prog w = .ok (findI k es i) w
 | [],_,_=>rfl
 | e::es,i,h=>by
   obtain ⟨p,hp⟩:=h e (by simp)
   have ih:=run_findAskingPl k w es (i+1) (fun e he=>h e (by simp [he]))
   rw [Instr.findAsking,Sem.run_bind,hp,run_equalPl,Result.andThen_ok,findI,hp,keyPl_key]
   by_cases hq:k=p
   · subst hq
     simp [eqPlace]
   · have h1:eqPlace k p=false:=eqPlace_no.2 hq
     rw [h1,if_neg (show ¬(some p=some k) from fun h=>hq (Option.some.inj h).symm)]
     simpa using ih
theorem run_findKeyPl (k:Place) (w:World) (es:List MapEntry) (h:∀ e∈es,∃ p,e.key=keyV p):(Instr.findKey 36 (keyV k) es).run Tryz.prog w = .ok (findI k es 0) w:=by
 have ha:=run_findAskingPl k w es 0 h
 cases es with
 | nil=>simp [Instr.findKey,run_underlying Tryz.underlying36,Instr.findNow,findI]
 | cons e es=>
   simp only [Instr.findKey,Sem.run_bind,run_underlying Tryz.underlying36,Result.andThen_ok,Instr.findNow,Instr.sameNow]
   exact ha
theorem findI_none {k:Place} :∀ (es:List MapEntry) (i:Nat),findI k es i=none→∀ e∈es,keyPl e.key≠some k
 | [],_,_=>by simp
 | e::es,i,h=>by
   unfold findI at h
   split at h
   · cases h
   · rename_i hne
     intro x hx
     rcases List.mem_cons.1 hx with rfl|hx
     · exact hne
     · exact findI_none es (i+1) h x hx
theorem findI_some {k:Place} :∀ (es:List MapEntry) (i j:Nat) (v:Value),findI k es i=some (j,v)→∃ n e,j=i+n∧es[n]? = some e∧keyPl e.key=some k∧e.val=v
 | [],_,_,_,h=>by simp [findI] at h
 | e::es,i,j,v,h=>by
   unfold findI at h
   split at h
   · rename_i hk
     simp only [Option.some.injEq,Prod.mk.injEq] at h
     exact ⟨0,e,by omega,rfl,hk,h.2⟩
   · obtain ⟨n,e',h1,h2,h3,h4⟩:=findI_some es (i+1) j v h
     exact ⟨n+1,e',by omega,h2,h3,h4⟩
section
variable {V:Type} {E:V→Value} {w:World} {b:Nat} {m:List (Place×V)}
theorem entry_at {es:List MapEntry} (h:es.map (fun e=>(e.key,e.val))=m.map (fun p=>(keyV p.1,E p.2))) {n:Nat} {e:MapEntry} (he:es[n]? = some e):∃ p,m[n]? = some p∧e.key=keyV p.1∧e.val=E p.2:=by
 have:=congrArg (·[n]?) h
 simp only [List.getElem?_map,he,Option.map_some] at this
 cases hm:m[n]? with
 | none=>rw [hm] at this;simp at this
 | some p=>rw [hm] at this;simp at this;exact ⟨p,rfl,this.1,this.2⟩
theorem entry_keys {es:List MapEntry} (h:es.map (fun e=>(e.key,e.val))=m.map (fun p=>(keyV p.1,E p.2))):∀ e∈es,∃ p,e.key=keyV p:=by
 intro e he
 obtain ⟨n,hn,hne⟩:=List.getElem_of_mem he
 obtain ⟨p,_,hp,_⟩:=entry_at h (n:=n) (by rw [List.getElem?_eq_getElem hn,hne])
 exact ⟨p.1,hp⟩
theorem once_at (h:(m.map (·.1)).Nodup) {i j:Nat} {p q:Place×V} (hi:m[i]? = some p) (hj:m[j]? = some q) (hpq:p.1=q.1):i=j:=by
 have hil:i<(m.map (·.1)).length:=by rw [List.length_map];exact (List.getElem?_eq_some_iff.1 hi).1
 have hjl:j<(m.map (·.1)).length:=by rw [List.length_map];exact (List.getElem?_eq_some_iff.1 hj).1
 have h1:(m.map (·.1))[i]=(m.map (·.1))[j]:=by
  have hi':=(List.getElem?_eq_some_iff.1 hi).2
  have hj':=(List.getElem?_eq_some_iff.1 hj).2
  simp only [List.getElem_map,hi',hj',hpq]
 exact (List.getElem_inj h).1 h1
theorem run_lookupPl {t e:TypeId} (ht:Tryz.prog.underlying t=some (.map 36 e)) {z:Value} (hz:(zeroValue e).run Tryz.prog w = .ok z w) (h:MapP E w b m) (k:Place) (ok:Bool):
 (Instr.lookup t (.map (some b)) (keyV k) ok).run Tryz.prog w = .ok (if ok then .tuple #[((getM m k).map E).getD z,.bool (getM m k).isSome] else ((getM m k).map E).getD z) w:=by
 obtain ⟨⟨es,cl,hb,hm,_,_⟩,honce⟩:=h
 have hg:(getObj b).run Tryz.prog w = .ok (.map es cl) w:=run_getObj_map w b es cl hb
 have hf:=run_findKeyPl k w es.toList (entry_keys hm)
 have hch:=run_checkPl es.isEmpty k w
 have key:(findI k es.toList 0).map (·.2)=(getM m k).map E:=by
  unfold getM
  cases hfi:findI k es.toList 0 with
  | none=>
    have hno:=findI_none _ _ hfi
    have:m.find? (fun p=>decide (p.1=k))=none:=by
     rw [List.find?_eq_none]
     intro p hp hk
     obtain ⟨n,hn,hne⟩:=List.getElem_of_mem hp
     have hlen:es.toList.length=m.length:=by simpa using congrArg List.length hm
     obtain ⟨q,hq,hqk,_⟩:=entry_at hm (n:=n) (List.getElem?_eq_getElem (by omega))
     rw [List.getElem?_eq_getElem hn,hne] at hq
     cases hq
     exact hno _ (List.getElem_mem _) (by rw [hqk,keyPl_key];simp at hk;rw [hk])
    simp [this]
  | some jv=>
    obtain ⟨j,v⟩:=jv
    obtain ⟨n,e,_,hne,hek,hev⟩:=findI_some _ _ _ _ hfi
    obtain ⟨p,hp,hpk,hpv⟩:=entry_at hm hne
    have hkp:p.1=k:=(keyPl_iff hpk).1 hek
    have:m.find? (fun p=>decide (p.1=k))=some p:=by
     cases hfd:m.find? (fun p=>decide (p.1=k)) with
     | none=>
       rw [List.find?_eq_none] at hfd
       exact absurd (by simpa using hkp) (hfd p (List.mem_of_getElem? hp))
     | some q=>
       have hqk:=List.find?_some hfd
       have hqm:=List.mem_of_find?_eq_some hfd
       obtain ⟨n',hn',hne'⟩:=List.getElem_of_mem hqm
       have:=once_at honce hp (List.getElem?_eq_getElem hn') (by rw [hne',hkp];simp at hqk;exact hqk.symm)
       subst this
       rw [List.getElem?_eq_getElem hn',hne'] at hp
       exact hp
    simp [this,←hev,hpv]
 cases hfi:findI k es.toList 0 with
 | none=>
   rw [hfi] at key hf
   have hk0:(getM m k).map E=none:=by simpa using key.symm
   have hk1:getM m k=none:=by simpa using hk0
   cases ok<;>simp [Instr.lookup,run_underlying ht,hg,hch,hf,hz,hk1]
 | some jv=>
   obtain ⟨j,v⟩:=jv
   rw [hfi] at key hf
   simp at key
   cases hgm:getM m k with
   | none=>rw [hgm] at key;simp at key
   | some u=>
     rw [hgm] at key
     simp at key
     cases ok<;>simp [Instr.lookup,run_underlying ht,hg,hch,hf,key]
theorem MapP.size {es:Array MapEntry} (h:es.toList.map (fun e=>(e.key,e.val))=m.map (fun p=>(keyV p.1,E p.2))):es.size=m.length:=by
 have:=congrArg List.length h
 simpa using this
theorem run_mapUpdatePl {t e:TypeId} (ht:Tryz.prog.underlying t=some (.map 36 e)) (h:MapP E w b m) (k:Place) (v:V):
 ∃ w',(Instr.mapUpdate t (.map (some b)) (keyV k) (E v)).run Tryz.prog w = .ok () w'∧MapP E w' b (putM m k v)∧w.grownBy w' (some b)∧w'.heap.size=w.heap.size:=by
 obtain ⟨⟨es,cl,hb,hm,hborn,hcl⟩,honce⟩:=h
 have hg:(getObj b).run Tryz.prog w = .ok (.map es cl) w:=run_getObj_map w b es cl hb
 have hf:=run_findKeyPl k w es.toList (entry_keys hm)
 have hch:=run_checkPl false k w
 have hgrow:∀ o,w.grownBy (ChangeMaps.setBlock w b o) (some b):=fun o=>⟨rfl,rfl,rfl,by simp [ChangeMaps.setBlock],fun i _ hi=>ChangeMaps.heap_setBlock_other hb _ (fun e=>hi (by rw [e]))⟩
 have hsz:∀ o,(ChangeMaps.setBlock w b o).heap.size=w.heap.size:=fun o=>by simp [ChangeMaps.setBlock]
 cases hfi:findI k es.toList 0 with
 | none=>
   rw [hfi] at hf
   have hno:=findI_none _ _ hfi
   have hnm:∀ p∈m,p.1≠k:=by
    intro p hp hk
    obtain ⟨n,hn,hne⟩:=List.getElem_of_mem hp
    have hlen:es.toList.length=m.length:=by simpa using congrArg List.length hm
    obtain ⟨q,hq,hqk,_⟩:=entry_at hm (n:=n) (List.getElem?_eq_getElem (by omega))
    rw [List.getElem?_eq_getElem hn,hne] at hq
    cases hq
    exact hno _ (List.getElem_mem _) (by rw [hqk,keyPl_key,hk])
   have hput:putM m k v=m ++ [(k,v)]:=by
    unfold putM
    rw [if_neg]
    simp only [List.any_eq_true,decide_eq_true_eq,not_exists,not_and]
    exact hnm
   refine ⟨_,?_,⟨⟨es.push ⟨keyV k,E v,cl⟩,cl+1,ChangeMaps.heap_setBlock_same hb _,?_,?_,?_⟩,?_⟩,hgrow _,hsz _⟩
   · simp [Instr.mapUpdate,run_underlying ht,hg,hch,hf,MapKept.run_setObj_map _ hb,ChangeMaps.setBlock]
   · rw [hput];simp [hm]
   · simp only [Array.toList_push,List.pairwise_append,List.pairwise_cons,List.mem_singleton]
     exact ⟨hborn,⟨by simp,List.Pairwise.nil⟩,fun a ha b hb=>by subst hb;exact hcl a ha⟩
   · intro e he
     simp only [Array.toList_push,List.mem_append,List.mem_singleton] at he
     rcases he with he|rfl
     · have:=hcl e he;omega
     · simp
   · rw [hput]
     simp only [List.map_append,List.map_cons,List.map_nil]
     rw [List.nodup_append]
     refine ⟨honce,by simp,fun a ha b hb=> ?_⟩
     simp only [List.mem_singleton] at hb
     obtain ⟨p,hp,rfl⟩:=List.mem_map.1 ha
     rw [hb]
     exact hnm p hp
 | some jv=>
   obtain ⟨j,u⟩:=jv
   rw [hfi] at hf
   obtain ⟨n,e0,hj,hne,hek,hev⟩:=findI_some _ _ _ _ hfi
   have hjn:j=n:=by omega
   subst hjn
   obtain ⟨p,hp,hpk,hpv⟩:=entry_at hm hne
   have hkp:p.1=k:=(keyPl_iff hpk).1 hek
   have hold:((es[j]?).map (·.key)).getD (keyV k)=keyV k:=by
    have:es[j]? = some e0:=by rw [←Array.getElem?_toList];exact hne
    rw [this];simp [hpk,hkp]
   have hstay:∀ w:World,(Instr.keyThatStays (keyV k) (keyV k)).run Tryz.prog w = .ok (keyV k) w:=by
    intro w
    have:Instr.sameBits 10000 (keyV k) (keyV k)=true:=by
     rw [show (10000:Nat)=9998+1+1 from rfl]
     simp [keyV,Instr.sameBits]
    simp [Instr.keyThatStays,this]
   have hput:∀ i:Nat,(putM m k v)[i]? = if i=j then some (k,v) else m[i]? := by
    intro i
    unfold putM
    rw [if_pos (List.any_eq_true.2 ⟨p,List.mem_of_getElem? hp,by simp [hkp]⟩),List.getElem?_map]
    by_cases hij:i=j
    · subst hij;simp [hp,hkp]
    · rw [if_neg hij]
      cases hmi:m[i]? with
      | none=>rfl
      | some q=>
        have:q.1≠k:=fun hq=>hij (once_at honce hmi hp (by rw [hq,hkp]))
        simp [this]
   have hmod:(es.modify j fun e=> { e with key:=keyV k,val:=E v }).toList=es.toList.modify j (fun e=> { e with key:=keyV k,val:=E v }):=by simp
   refine ⟨_,?_,⟨⟨es.modify j fun e=> { e with key:=keyV k,val:=E v },cl,ChangeMaps.heap_setBlock_same hb _,?_,?_,?_⟩,?_⟩,hgrow _,hsz _⟩
   · simp [Instr.mapUpdate,run_underlying ht,hg,hch,hf,hold,hstay,MapKept.run_setObj_map _ hb,ChangeMaps.setBlock]
   · apply List.ext_getElem?
     intro i
     rw [hmod,List.getElem?_map,List.getElem?_map,hput,List.getElem?_modify]
     have:=congrArg (·[i]?) hm
     simp only [List.getElem?_map] at this
     by_cases hij:i=j
     · subst hij;simp [hne]
     · have hji:¬j=i:=fun h=>hij h.symm
       simp only [if_neg hij,if_neg hji]
       simpa using this
   · rw [hmod]
     have hb':(es.toList.map (·.born)).Pairwise (· < ·):=List.pairwise_map.2 hborn
     have he:(es.toList.modify j (fun e=> { e with key:=keyV k,val:=E v })).map (·.born)=es.toList.map (·.born):=by
      apply List.ext_getElem?
      intro i
      rw [List.getElem?_map,List.getElem?_map,List.getElem?_modify]
      by_cases hij:j=i
      · subst hij;simp [hne]
      · simp [hij]
     rw [←he] at hb'
     exact List.pairwise_map.1 hb'
   · rw [hmod]
     intro e he
     obtain ⟨i,hi⟩:=List.getElem?_of_mem he
     rw [List.getElem?_modify] at hi
     by_cases hij:j=i
     · subst hij
       rw [hne] at hi
       simp at hi
       subst hi
       exact hcl e0 (List.mem_of_getElem? hne)
     · simp [hij] at hi
       exact hcl e (by rw [List.mem_iff_getElem?];exact ⟨i,by simpa using hi⟩)
   · have:(putM m k v).map (·.1)=m.map (·.1):=by
      apply List.ext_getElem?
      intro i
      rw [List.getElem?_map,List.getElem?_map,hput]
      by_cases hij:i=j
      · subst hij;simp [hp,hkp]
      · simp [hij]
     rw [this]
     exact honce
theorem wpList_mapUpdatePl {ops:Array Oper} {rest:List Oper} {o:Oper} {a:Act} {Q:Exit→Act→World→Prop}
 (hg:o.guard=none) (mm x v:Operand) (t:TypeId) (hop:o.op=Op.mapUpdate t mm x v) {e:TypeId} (ht:Tryz.prog.underlying t=some (.map 36 e)) (k:Place) (u:V)
 (hm:a.eval mm = .map (some b)) (hx:a.eval x=keyV k) (hv:a.eval v=E u) (h:MapP E w b m)
 (hK:∀ w',MapP E w' b (putM m k u)→w.grownBy w' (some b)→w'.heap.size=w.heap.size→wpList Tryz.prog ops Q rest (a.put o.dst undef) w'):
 wpList Tryz.prog ops Q (o::rest) a w:=by
 refine wpList_plain hg fun K' hK'=> ?_
 obtain ⟨w',hrun,r1,r2,r3⟩:=run_mapUpdatePl ht h k u
 unfold Oper.wp
 simp [execOp,hop,hm,hx,hv,hrun,Result.andThen]
 exact hK' _ _ (hK w' r1 r2 r3)
theorem run_len_mapPl {t e ty:TypeId} (ht:Tryz.prog.underlying t=some (.map 36 e)) (h:MapP E w b m):(Builtin.len_ #[t] ty #[.map (some b)]).run Tryz.prog w = .ok (.int .i64 m.length) w:=by
 obtain ⟨⟨es,cl,hb,hm,_,_⟩,_⟩:=h
 have:=run_len_map (P:=Tryz.prog) (t:=t) (ty:=ty) (r:=b) (w:=w) es cl (by simp [Program.mapKeyOf,Program.mapElemOf,ht]) hb
 rw [this,goInt,MapP.size hm]
end
section
variable {V:Type} {m:List (Place×V)} {k k':Place} {v:V}
theorem keys_putM:∀ q,q∈(putM m k v).map (·.1)↔q=k∨q∈m.map (·.1):=by
 intro q
 unfold putM
 split
 · rename_i h
   obtain ⟨p,hp,hpk⟩:=List.any_eq_true.1 h
   simp at hpk
   simp only [List.mem_map,List.map_map,Function.comp]
   constructor
   · rintro ⟨x,hx,rfl⟩
     by_cases hxk:x.1=k
     · simp [hxk]
     · simp only [if_neg hxk];exact .inr ⟨x,hx,rfl⟩
   · rintro (rfl|⟨x,hx,rfl⟩)
     · exact ⟨p,hp,by simp [hpk]⟩
     · refine ⟨x,hx,?_⟩
       by_cases hxk:x.1=k
       · simp [hxk]
       · simp [hxk]
 · simp only [List.map_append,List.mem_append,List.map_cons,List.map_nil,List.mem_singleton]
   exact ⟨fun h=>h.symm,fun h=>h.symm⟩
theorem getM_putM:getM (putM m k v) k'=if k'=k then some v else getM m k':=by
 unfold getM putM
 split
 · rename_i h
   by_cases hk:k'=k
   · subst hk
     rw [if_pos rfl,List.find?_map]
     obtain ⟨p,hp,hpk⟩:=List.any_eq_true.1 h
     simp at hpk
     cases hf:m.find? ((fun p:Place×V=>decide (p.1=k')) ∘ fun p=>if p.1=k' then (k',v) else p) with
     | none=>
       rw [List.find?_eq_none] at hf
       have:=hf p hp
       simp [hpk] at this
     | some q=>
       have:=List.find?_some hf
       simp only [Function.comp,decide_eq_true_eq] at this
       simp only [Option.map_some]
       by_cases hq:q.1=k'
       · simp [hq]
       · rw [if_neg hq] at this;exact absurd this hq
   · rw [if_neg hk,List.find?_map]
     have:((fun p:Place×V=>decide (p.1=k')) ∘ fun p=>if p.1=k then (k,v) else p)=fun p:Place×V=>decide (p.1=k'):=by
      funext p
      simp only [Function.comp]
      by_cases hp:p.1=k
      · simp [hp]
      · simp [hp]
     rw [this,Option.map_map]
     cases hf:m.find? (fun p=>decide (p.1=k')) with
     | none=>rfl
     | some q=>
       have:=List.find?_some hf
       simp only [decide_eq_true_eq] at this
       have hq:q.1≠k:=fun h=>hk (this.symm.trans h)
       simp [hq]
 · rename_i h
   have hno:m.find? (fun p=>decide (p.1=k))=none:=by
    rw [List.find?_eq_none]
    intro p hp hk
    exact h (List.any_eq_true.2 ⟨p,hp,hk⟩)
   rw [List.find?_append]
   by_cases hk:k'=k
   · subst hk;simp [hno]
   · rw [if_neg hk]
     cases hf:m.find? (fun p=>decide (p.1=k')) with
     | none=>simp;exact fun h=>hk h.symm
     | some q=>simp
end
structure RangesP {V:Type} (E:V→Value) (w:World) (b r:Nat) (m:List (Place×V)) (come:List Place):Prop where
 map:MapP E w b m
 at_:∃ es clock since seen c0,w.heap[b]? = some (.map es clock)∧w.heap[r]? = some (.mapIter (some b) since seen c0)∧(∀ x∈es.toList,x.born<since)∧since≤c0∧since≤clock∧
  (∀ q,q∈come ↔ ∃ e∈es.toList,keyPl e.key=some q∧seen.contains e.born=true)
 once:come.Nodup
section
variable {V:Type} {E:V→Value} {w w':World} {b r:Nat} {m:List (Place×V)} {come:List Place}
theorem RangesP.ne (h:RangesP E w b r m come):r≠b:=by
 obtain ⟨es,cl,since,seen,c0,hb,hr,_⟩:=h.at_
 intro e
 rw [e,hb] at hr
 cases hr
theorem RangesP.of_walks (h:RangesP E w b r m come) (hk:KeepsWalks w w'):RangesP E w' b r m come:=by
 obtain ⟨es,cl,since,seen,c0,hb,hr,rest⟩:=h.at_
 obtain ⟨⟨es',cl',hb',h2⟩,ho⟩:=h.map
 exact ⟨⟨⟨es',cl',hk.same b _ hb' rfl,h2⟩,ho⟩,⟨es,cl,since,seen,c0,hk.same b _ hb rfl,hk.same r _ hr rfl,rest⟩,h.once⟩
theorem RangesP.left_walks (h:RangesP E w b r m come) (hk:KeepsWalks w w'):w'.rangeLeft b r=w.rangeLeft b r:=by
 obtain ⟨es,cl,since,seen,c0,hb,hr,rest⟩:=h.at_
 simp only [World.rangeLeft,hk.same b _ hb rfl,hk.same r _ hr rfl,hb,hr]
theorem RangesP.come_keys (h:RangesP E w b r m come):∀ q∈come,q∈m.map (·.1):=by
 intro q hq
 obtain ⟨es,cl,since,seen,c0,hb,hr,h1,h2,h3,h4⟩:=h.at_
 obtain ⟨⟨es',cl',hb',hm,_⟩,_⟩:=h.map
 rw [hb] at hb'
 obtain ⟨rfl,rfl⟩:es=es'∧cl=cl':=by simpa using hb'
 obtain ⟨e,he,hk,_⟩:=(h4 q).1 hq
 obtain ⟨n,hn⟩:=List.getElem?_of_mem he
 obtain ⟨p,hp,hpk,_⟩:=entry_at hm hn
 have:=(keyPl_iff hpk).1 hk
 exact List.mem_map.2 ⟨p,List.mem_of_getElem? hp,this⟩
theorem RangesP.iter_walk (h:RangesP E w b r m come):∃ o:Obj,w.heap[r]? = some o∧o.isWalk=true:=by
 obtain ⟨es,cl,since,seen,c0,hb,hr,_⟩:=h.at_
 exact ⟨_,hr,rfl⟩
theorem RangesP.lt (h:RangesP E w b r m come):r<w.heap.size:=by
 obtain ⟨es,cl,since,seen,c0,hb,hr,_⟩:=h.at_
 exact (Array.getElem?_eq_some_iff.1 hr).1
theorem MapP.range {P:Program} {t k e:TypeId} (ht:P.underlying t=some (.map k e)) (h:MapP E w b m):
 ∃ w',(Instr.range t (.map (some b))).run P w = .ok (.pointer (some ⟨w.heap.size,0,none⟩)) w'∧RangesP E w' b w.heap.size m []∧w.grownBy w' none∧w'.heap.size=w.heap.size+1:=by
 have hlt:=h.lt
 have hA:=h.alloc
 obtain ⟨⟨es,clock,hb,hm,hborn,hcl⟩,honce⟩:=h
 refine ⟨_,run_range_map w t k e b es clock ht hb,⟨hA _,⟨es,clock,clock,#[],clock,(Below.heap_alloc w _ b hlt).trans hb,World.alloc_heap_new w _,hcl,Nat.le_refl _,Nat.le_refl _,fun q=> ?_⟩,List.nodup_nil⟩,World.grownBy_alloc w _ none,by simp⟩
 simp
theorem RangesP.next {P:Program} (h:RangesP E w b r m come) (ty:TypeId):
 ((∀ q∈m.map (·.1),q∈come)∧(Instr.next (.pointer (some ⟨r,0,none⟩)) false ty).run P w = .ok (.tuple #[.bool false]) w)∨
 ∃ k u w',k∉come∧(k,u)∈m∧(Instr.next (.pointer (some ⟨r,0,none⟩)) false ty).run P w = .ok (.tuple #[.bool true,keyV k,E u]) w'∧
   RangesP E w' b r m (come ++ [k])∧w'.rangeLeft b r<w.rangeLeft b r∧w.grownBy w' (some r)∧w'.heap.size=w.heap.size∧(Instr.entry (.pointer (some ⟨r,0,none⟩))).run P w' = .ok (.tuple #[keyV k,E u]) w':=by
 have hne:=h.ne
 have hcome:=h.once
 obtain ⟨es,clock,since,seen,c0,hb,hr,hold,hsc,hsk,hin⟩:=h.at_
 obtain ⟨⟨es',cl',hb',hm,hborn,hcl⟩,honce⟩:=h.map
 rw [hb] at hb'
 obtain ⟨rfl,rfl⟩:es=es'∧clock=cl':=by simpa using hb'
 have hnd:(es.toList.map (·.born)).Nodup:=by
  have:(es.toList.map (·.born)).Pairwise (· < ·):=List.pairwise_map.2 hborn
  exact this.imp fun hab=>Nat.ne_of_lt hab
 rcases run_next_at (P:=P) w ty r b since c0 seen es clock hr hb hold hsc with ⟨h0,hrun⟩|⟨e,he,w1,hal,hrun⟩
 · refine .inl ⟨fun q hq=> ?_,hrun⟩
   obtain ⟨p,hp,rfl⟩:=List.mem_map.1 hq
   obtain ⟨n,hn⟩:=List.getElem?_of_mem hp
   have hlen:es.toList.length=m.length:=by simpa using congrArg List.length hm
   have hn':n<es.toList.length:=by rw [hlen];exact (List.getElem?_eq_some_iff.1 hn).1
   obtain ⟨p',hp',hpk,_⟩:=entry_at hm (List.getElem?_eq_getElem hn')
   rw [hn] at hp'
   obtain rfl:p=p':=by simpa using hp'
   exact (hin p.1).2 ⟨_,List.getElem_mem hn',by rw [hpk];rfl,all_seen es seen h0 _ (List.getElem_mem hn')⟩
 · obtain ⟨hem,hes⟩:=mem_left he
   obtain ⟨n,hn⟩:=List.getElem?_of_mem hem
   obtain ⟨p,hp,hpk,hpv⟩:=entry_at hm hn
   have hr1:w1.heap[r]? = some (.mapIter (some b) since seen c0):=by rcases hal with rfl|rfl<;>exact hr
   have hb1:w1.heap[b]? = some (.map es clock):=by rcases hal with rfl|rfl<;>exact hb
   have hset:=MapKept.heap_set (o':=.mapIter (some b) since (seen.push e.born) clock) hr1
   have hb':(ChangeMaps.setBlock w1 r (.mapIter (some b) since (seen.push e.born) clock)).heap[b]? = some (.map es clock):=(hset.2 b (fun e1=>hne e1.symm)).trans hb1
   have hsame:∀ x∈es.toList,∀ q,keyPl x.key=some q→keyPl e.key=some q→x=e:=by
    intro x hx q h1 h2
    obtain ⟨i,hi⟩:=List.getElem?_of_mem hx
    obtain ⟨px,hpx,hpxk,_⟩:=entry_at hm hi
    have e1:=(keyPl_iff hpxk).1 h1
    have e2:=(keyPl_iff hpk).1 h2
    have:=once_at honce hpx hp (e1.trans e2.symm)
    subst this
    rw [hi] at hn
    simpa using hn
   have hk0:keyPl e.key=some p.1:=by rw [hpk];rfl
   rw [hpk,hpv] at hrun
   refine .inr ⟨p.1,p.2,_,?_,List.mem_of_getElem? hp,hrun,⟨⟨⟨es,clock,hb',hm,hborn,hcl⟩,honce⟩,⟨es,clock,since,seen.push e.born,clock,hb',hset.1,hold,hsk,hsk,fun q=> ?_⟩,?_⟩,?_,?_,?_,?_⟩
   · intro hmem
     obtain ⟨x,hx,hxk,hxs⟩:=(hin p.1).1 hmem
     have:=hsame x hx _ hxk hk0
     subst this
     rw [hes] at hxs
     cases hxs
   · rw [List.mem_append,hin,List.mem_singleton]
     constructor
     · rintro (⟨x,hx,hxk,hxs⟩|rfl)
       · exact ⟨x,hx,hxk,by rw [contains_push,hxs];rfl⟩
       · exact ⟨e,hem,hk0,by rw [contains_push];simp⟩
     · rintro ⟨x,hx,hxk,hxs⟩
       rw [contains_push,Bool.or_eq_true,beq_iff_eq] at hxs
       rcases hxs with hxs|hxs
       · exact .inl ⟨x,hx,hxk,hxs⟩
       · have:=born_inj hnd hx hem hxs
         subst this
         rw [hk0] at hxk
         exact .inr (by simpa using hxk.symm)
   · rw [List.nodup_append]
     refine ⟨hcome,by simp,fun a ha c hc=> ?_⟩
     rw [List.mem_singleton] at hc
     subst hc
     rintro rfl
     obtain ⟨x,hx,hxk,hxs⟩:=(hin _).1 ha
     have:=hsame x hx _ hxk hk0
     subst this
     rw [hes] at hxs
     cases hxs
   · have hset1:(ChangeMaps.setBlock w1 r (.mapIter (some b) since (seen.push e.born) clock)).heap[r]? = some (.mapIter (some b) since (seen.push e.born) clock):=hset.1
     simp only [World.rangeLeft,hb,hr,hb',hset1]
     exact left_shrinks es seen e he
   · rcases hal with rfl|rfl<;>exact ⟨rfl,rfl,rfl,by simp [ChangeMaps.setBlock],fun i _ hi=>hset.2 i (fun e1=>hi (by rw [e1]))⟩
   · rcases hal with rfl|rfl<;>simp [ChangeMaps.setBlock]
   · have:=run_entry_at (P:=P) _ r b since seen es clock e hset.1 hb' hem hnd
     rw [hpk,hpv] at this
     exact this
end
section
variable {V:Type} {E:V→Value} {w:World} {b r:Nat} {m:List (Place×V)} {come:List Place} {F:Fence} {n:Nat} {P:Program} {ops:Array Oper} {rest:List Oper} {o:Oper} {a:Act} {Q:Exit→Act→World→Prop}
theorem wpListIn_rangePl (hg:o.guard=none) (mm:Operand) (t:TypeId) (hop:o.op=Op.range t mm) {k e:TypeId} (ht:P.underlying t=some (.map k e))
 (hm:a.eval mm = .map (some b)) (h:MapP E w b m)
 (hK:∀ w',RangesP E w' b w.heap.size m []→w.grownBy w' none→w'.heap.size=w.heap.size+1→wpListIn F n P ops Q rest (a.put o.dst (.pointer (some ⟨w.heap.size,0,none⟩))) w'):
 wpListIn F n P ops Q (o::rest) a w:=by
 refine wpListIn_plain hg fun K' hK'=> ?_
 obtain ⟨w',hrun,r1,r2,r3⟩:=h.range ht
 unfold Oper.wpIn
 refine ⟨?_,?_⟩
 · simp [Oper.about,hop]
 · rw [Oper.semAt_plain F _ _ (by rw [hop];intro c hc';cases hc')]
   simp [execOp,hop,hm,hrun,Result.andThen]
   exact hK' _ _ (hK w' r1 r2 r3)
def AllCome {V:Type} (m:List (Place×V)) (come:List Place):Prop:=∀ q∈m.map (·.1),q∈come
def NewKey {V:Type} (m:List (Place×V)) (come:List Place) (k:Place):Prop:=k∉come∧k∈m.map (·.1)
theorem wpListIn_nextPl (hg:o.guard=none) (it:Operand) (hop:o.op=Op.next it false)
 (hit:a.eval it = .pointer (some ⟨r,0,none⟩)) (h:RangesP E w b r m come)
 (hDone:AllCome m come→wpListIn F n P ops Q rest (a.put o.dst (.tuple #[.bool false])) w)
 (hMore:∀ (k:Place) (v:Value) (w':World),NewKey m come k→RangesP E w' b r m (come ++ [k])→w'.rangeLeft b r<w.rangeLeft b r→w.grownBy w' (some r)→w'.heap.size=w.heap.size→
   (Instr.entry (.pointer (some ⟨r,0,none⟩))).run P w' = .ok (.tuple #[keyV k,v]) w'→wpListIn F n P ops Q rest (a.put o.dst (.tuple #[.bool true,keyV k,v])) w'):
 wpListIn F n P ops Q (o::rest) a w:=by
 refine wpListIn_plain hg fun K' hK'=> ?_
 unfold Oper.wpIn
 refine ⟨by simp [Oper.about,hop],?_⟩
 rw [Oper.semAt_plain F _ _ (by rw [hop];intro c hc';cases hc')]
 rcases h.next o.type with ⟨hl,hrun⟩|⟨k,u,w',hk,hku,hrun,hrg,hlt,hgr,hsz,hen⟩
 · have hl':AllCome m come:=hl
   clear hl
   simp [execOp,hop,hit,Result.andThen]
   rw [hrun]
   exact hK' _ _ (hDone hl')
 · have hk':NewKey m come k:=⟨hk,List.mem_map.2 ⟨_,hku,rfl⟩⟩
   clear hk hku
   simp [execOp,hop,hit,Result.andThen]
   rw [hrun]
   exact hK' _ _ (hMore k (E u) w' hk' hrg hlt hgr hsz hen)
end
theorem len_le_of_sub {α:Type} [DecidableEq α]:∀ (l m:List α),l.Nodup→(∀ x∈l,x∈m)→l.length≤m.length
 | [],_,_,_=>by simp
 | x::c,m,hn,hs=>by
   obtain ⟨h1,h2⟩:=List.nodup_cons.1 hn
   have hx:x∈m:=hs x (by simp)
   have ih:=len_le_of_sub c (m.erase x) h2 (fun q hq=>(List.mem_erase_of_ne (show q≠x from fun e=>by subst e;exact h1 hq)).2 (hs q (by simp [hq])))
   have hl:=List.length_erase_of_mem hx
   have hp:=List.length_pos_of_mem hx
   simp only [List.length_cons]
   omega
theorem perm_of_sub {α:Type} [DecidableEq α] {l m:List α} (hl:l.Nodup) (hm:m.Nodup) (h:∀ x,x∈l↔x∈m):l.Perm m:=
 (List.perm_ext_iff_of_nodup hl hm).2 h
def eBool (x:Bool):Value:=.bool x
def eAdmit (x:Admit):Value:=.agg (encAdmit x).toArray
theorem Keys1b (n:Nat) (l Bm b:Nat) (m:List (Place×Bool)) (J:List Place→World→Prop)
 (hY:∀ pre x W,J pre W→pre.length<m.length→YieldAt Fence.wide (n-1) Tryz.prog l #[keyV x] W fun e W'=>e = .returned (.bool true)∧J (pre ++ [x]) W'∧KeepsWalks W W')
 (W:World) (hJ:AbidesFrom W.heap.size J) (hm:W.cell? ⟨Bm,0,none⟩=some (.map (some b))) (hown:MapP eBool W b m) (h0:J [] W):
 CallsIn Fence.wide n Tryz.prog 135 #[.func (.yield l) #[] #[],.pointer (some ⟨Bm,0,none⟩)] W fun e W'=>(∃ v,e = .returned v)∧∃ ss:List Place,ss.Perm (m.map (·.1))∧J ss W':=by
 have hlen:∀ (c:List Place) (x:Place),c.Nodup→(∀ q∈c,q∈m.map (·.1))→x∉c→x∈m.map (·.1)→c.length<m.length:=by
  intro c x hc hs hx hxm
  have h1:(x::c).Nodup:=List.nodup_cons.2 ⟨hx,hc⟩
  have:=len_le_of_sub (x::c) (m.map (·.1)) h1 (fun q hq=>by
   rcases List.mem_cons.1 hq with rfl|hq
   · exact hxm
   · exact hs q hq)
  simp at this
  omega
 refine callsIn_of_wp Tryz.func135 rfl trivial ?_ rfl
 simp only [Tryz.ntmps135,List.size_toArray,List.length_cons,List.length_nil,Nat.reduceAdd,Nat.reduceSub,Array.replicate_succ,Array.replicate_zero,List.push_toArray,List.append_toArray,List.nil_append,List.cons_append]
 gi_wp2_with (first
  | (gi_at_range;refine wpListIn_rangePl rfl _ 115 rfl Tryz.underlying115 rfl hown ?_;intro w0 hrg0 hg0 hs0)
  | gi_in)
 try go_frame
 gi_loopw [3] (fun _ wr=> ∃ ss:List Place,RangesP eBool wr b W.heap.size m ss∧J ss wr)
  (fun _ wr=>wr.rangeLeft b W.heap.size)
 case atStart=>
  exact ⟨[],hrg0,hJ [] W w0 none h0 hg0 (fun r e=>by cases e)⟩
 case round=>
  obtain ⟨ss,hrg,hJs⟩:=hrel
  gi_wp2_with (first
   | (gi_at_next;refine wpListIn_nextPl rfl _ rfl rfl hrg ?_ ?_)
   | gi_in)
  · intro hl0
    gi_wp2
    go_end0
    exact ⟨⟨_,rfl⟩,ss,perm_of_sub hrg.once hown.once (fun q=>⟨hrg.come_keys q,(show ∀ q∈m.map (·.1),q∈ss from hl0) q⟩),hJs⟩
  · intro x c w2 hx hrg2 hlt hg2 hs2 hen
    have hx':x∉ss∧x∈m.map (·.1):=hx
    have hlx:=hlen ss x hrg.once hrg.come_keys hx'.1 hx'.2
    have hJ2:J ss w2:=hJ ss wr w2 (some W.heap.size) hJs hg2 (fun r e=>by cases e;exact ⟨Nat.le_refl _,hrg.iter_walk⟩)
    have hJ3:J ss (w2.alloc (.cells #[.int .i64 x.pit,.int .i64 x.layer] 36)):=hJ ss w2 _ none hJ2 (World.grownBy_alloc _ _ _) (fun r e=>by cases e)
    have hrg3:=hrg2.of_walks (KeepsWalks.alloc w2 (.cells #[.int .i64 x.pit,.int .i64 x.layer] 36))
    have hlt3:(w2.alloc (.cells #[.int .i64 x.pit,.int .i64 x.layer] 36)).rangeLeft b W.heap.size<wr.rangeLeft b W.heap.size:=by
     rw [hrg2.left_walks (KeepsWalks.alloc _ _)];exact hlt
    obtain ⟨fn,tmps,assign,body,hy,hR⟩:=hY ss x _ hJ3 hlx
    simp only [keyV] at hen hy
    clear hs2 hx hx' hlx hlen
    gi_wp2
    refine ⟨fun h=>(by cases h),hR.mono ?_⟩
    rintro e W3 ⟨rfl,hJ4,hk3⟩
    gi_wp2
    have hrg4:=hrg3.of_walks hk3
    go_roundw
    case rel=>exact ⟨ss ++ [x],hrg4,hJ4⟩
    case measure=>rw [hrg3.left_walks hk3];exact hlt3
theorem Keys1a (n:Nat) (l Bm b:Nat) (m:List (Place×Admit)) (J:List Place→World→Prop)
 (hY:∀ pre x W,J pre W→pre.length<m.length→YieldAt Fence.wide (n-1) Tryz.prog l #[keyV x] W fun e W'=>e = .returned (.bool true)∧J (pre ++ [x]) W'∧KeepsWalks W W')
 (W:World) (hJ:AbidesFrom W.heap.size J) (hm:W.cell? ⟨Bm,0,none⟩=some (.map (some b))) (hown:MapP eAdmit W b m) (h0:J [] W):
 CallsIn Fence.wide n Tryz.prog 137 #[.func (.yield l) #[] #[],.pointer (some ⟨Bm,0,none⟩)] W fun e W'=>(∃ v,e = .returned v)∧∃ ss:List Place,ss.Perm (m.map (·.1))∧J ss W':=by
 have hlen:∀ (c:List Place) (x:Place),c.Nodup→(∀ q∈c,q∈m.map (·.1))→x∉c→x∈m.map (·.1)→c.length<m.length:=by
  intro c x hc hs hx hxm
  have h1:(x::c).Nodup:=List.nodup_cons.2 ⟨hx,hc⟩
  have:=len_le_of_sub (x::c) (m.map (·.1)) h1 (fun q hq=>by
   rcases List.mem_cons.1 hq with rfl|hq
   · exact hxm
   · exact hs q hq)
  simp at this
  omega
 refine callsIn_of_wp Tryz.func137 rfl trivial ?_ rfl
 simp only [Tryz.ntmps137,List.size_toArray,List.length_cons,List.length_nil,Nat.reduceAdd,Nat.reduceSub,Array.replicate_succ,Array.replicate_zero,List.push_toArray,List.append_toArray,List.nil_append,List.cons_append]
 gi_wp2_with (first
  | (gi_at_range;refine wpListIn_rangePl rfl _ 116 rfl Tryz.underlying116 rfl hown ?_;intro w0 hrg0 hg0 hs0)
  | gi_in)
 try go_frame
 gi_loopw [3] (fun _ wr=> ∃ ss:List Place,RangesP eAdmit wr b W.heap.size m ss∧J ss wr)
  (fun _ wr=>wr.rangeLeft b W.heap.size)
 case atStart=>
  exact ⟨[],hrg0,hJ [] W w0 none h0 hg0 (fun r e=>by cases e)⟩
 case round=>
  obtain ⟨ss,hrg,hJs⟩:=hrel
  gi_wp2_with (first
   | (gi_at_next;refine wpListIn_nextPl rfl _ rfl rfl hrg ?_ ?_)
   | gi_in)
  · intro hl0
    gi_wp2
    go_end0
    exact ⟨⟨_,rfl⟩,ss,perm_of_sub hrg.once hown.once (fun q=>⟨hrg.come_keys q,(show ∀ q∈m.map (·.1),q∈ss from hl0) q⟩),hJs⟩
  · intro x c w2 hx hrg2 hlt hg2 hs2 hen
    have hx':x∉ss∧x∈m.map (·.1):=hx
    have hlx:=hlen ss x hrg.once hrg.come_keys hx'.1 hx'.2
    have hJ2:J ss w2:=hJ ss wr w2 (some W.heap.size) hJs hg2 (fun r e=>by cases e;exact ⟨Nat.le_refl _,hrg.iter_walk⟩)
    have hJ3:J ss (w2.alloc (.cells #[.int .i64 x.pit,.int .i64 x.layer] 36)):=hJ ss w2 _ none hJ2 (World.grownBy_alloc _ _ _) (fun r e=>by cases e)
    have hrg3:=hrg2.of_walks (KeepsWalks.alloc w2 (.cells #[.int .i64 x.pit,.int .i64 x.layer] 36))
    have hlt3:(w2.alloc (.cells #[.int .i64 x.pit,.int .i64 x.layer] 36)).rangeLeft b W.heap.size<wr.rangeLeft b W.heap.size:=by
     rw [hrg2.left_walks (KeepsWalks.alloc _ _)];exact hlt
    obtain ⟨fn,tmps,assign,body,hy,hR⟩:=hY ss x _ hJ3 hlx
    simp only [keyV] at hen hy
    clear hs2 hx hx' hlx hlen
    gi_wp2
    refine ⟨fun h=>(by cases h),hR.mono ?_⟩
    rintro e W3 ⟨rfl,hJ4,hk3⟩
    gi_wp2
    have hrg4:=hrg3.of_walks hk3
    go_roundw
    case rel=>exact ⟨ss ++ [x],hrg4,hJ4⟩
    case measure=>rw [hrg3.left_walks hk3];exact hlt3
theorem elTrace:ElemT Tryz.prog 31 23 10 80:=
 elemT_of (z:=.agg #[.int .i64 0,.int .i64 0,.int .u8 0,.int .i64 0,.int .i64 0,.int .i64 0,.int .i64 0,.int .i64 0,.int .i64 0,.int .i64 0]) Tryz.underlying31 (by kernel_rfl) rfl (by decide)
theorem elPlace:ElemT Tryz.prog 37 36 2 16:=elemT_of (z:=.agg #[.int .i64 0,.int .i64 0]) Tryz.underlying37 (by kernel_rfl) rfl (by decide)
theorem elLink:ElemT Tryz.prog 48 138 6 48:=elemT_of (z:=.agg #[.int .i64 0,.int .i64 0,.int .i64 0,.int .i64 0,.int .i64 0,.int .i64 0]) Tryz.underlying48 (by kernel_rfl) rfl (by decide)
theorem elAdmit:ElemT Tryz.prog 40 56 4 32:=elemT_of (z:=.agg #[.int .i64 0,.int .i64 0,.int .i64 0,.int .i64 0]) Tryz.underlying40 (by kernel_rfl) rfl (by decide)
theorem elBound:ElemT Tryz.prog 82 148 4 32:=elemT_of (z:=.agg #[.int .i64 0,.int .i64 0,.int .i64 0,.int .i64 0]) Tryz.underlying82 (by kernel_rfl) rfl (by decide)
theorem elDating:ElemT Tryz.prog 45 96 3 24:=elemT_of (z:=.agg #[.int .i64 0,.int .i64 0,.int .i64 0]) Tryz.underlying45 (by kernel_rfl) rfl (by decide)
theorem elInt:ElemT Tryz.prog 58 3 1 8:=elemT_of (z:=.int .i64 0) Tryz.underlying58 (by kernel_rfl) rfl (by decide)
theorem lenTrace (x:Trace):(encTrace x).length=10:=rfl
theorem oneTrace (x:Trace):∀ u∈encTrace x,u.oneCell'=true:=by simp [encTrace,Value.oneCell']
theorem onePlace (x:Place):∀ u∈encPlace x,u.oneCell'=true:=by simp [encPlace,Value.oneCell']
theorem oneLink (x:Link):∀ u∈encLink x,u.oneCell'=true:=by simp [encLink,Value.oneCell']
theorem oneAdmit (x:Admit):∀ u∈encAdmit x,u.oneCell'=true:=by simp [encAdmit,Value.oneCell']
theorem oneBound (x:Bound):∀ u∈encBound x,u.oneCell'=true:=by simp [encBound,Value.oneCell']
theorem oneDating (x:Dating):∀ u∈encDating x,u.oneCell'=true:=by simp [encDating,Value.oneCell']
theorem oneInt (x:Int):∀ u∈encInt x,u.oneCell'=true:=by simp [encInt,Value.oneCell']
theorem Own.fresh0 {α:Type} (enc:α→List Value) (k:Nat) (e:TypeId) (w:World):Own enc k e w.heap.size (w.alloc (.cells #[] e)) (some ⟨w.heap.size,0,none⟩) 0 0 []:=
 ⟨rfl,World.ownsRow_made w #[] 0 (Nat.le_refl _) (by decide) (by simp)⟩
theorem Clone_Trace (A:Option Addr) (n c:Nat) (l:List Trace) (w:World) (hl:Rd encTrace 10 w A n c l) (hsm:n≤1000000):
 Calls Tryz.prog 86 #[.slice A n c] w fun e w'=> ∃ A' c',e = .returned (.slice A' n c')∧Own encTrace 10 23 w.heap.size w' A' n c' l∧Below w.heap.size w w':=by
 have q:∀ (w:World) (a:Option Addr) (n c n' c':Nat),(binOp .eql 31 (.slice a n c) (.slice none n' c')).run Tryz.prog w = .ok (.bool a.isNone) w:=fun w a n c n' c'=>Lib.run_eql_slice_nil w _ _ a n c n' c' Tryz.underlying31
 rcases A with _|a
 · have h0:n=0:=by
    rcases Nat.eq_zero_or_pos n with h|h
    · exact h
    · obtain ⟨b,off,e,_⟩:=hl.at_ h
      cases e
   subst h0
   have:l = []:=List.eq_nil_of_length_eq_zero hl.len
   subst this
   clear hl
   go_enter Tryz.func86,Tryz.ntmps86
   go_wp2
   go_ret
   exact ⟨none,0,rfl,Own.none_ ..,Below.refl _ _⟩
 · have hl1:=hl.alloc (.cells #[] 23)
   have HL:=Lib.hid hl1
   clear hl hl1
   go_enter Tryz.func86,Tryz.ntmps86
   go_wp2_with (at_builtin;refine wpList_append_src elTrace lenTrace oneTrace rfl _ _ rfl _ _ _ _ rfl rfl (Own.fresh0 encTrace 10 23 w) HL.out (by omega) (by decide) (by simp) ?_;intro A' c' w1 hown hg hat)
   go_ret
   refine ⟨A',c',by simp,by simpa using hown,?_⟩
   exact ((Below.refl _ _).alloc (Nat.le_refl _) _).grown hg (by simp) (fun k hk=>by simp [blockOf] at hk;omega)
end Go.Proofs.YtejjplhknacoiaaGreatDoor
end

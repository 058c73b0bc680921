/- Contracts that the laws lean on: FlowP, PrvN, PrvR, PrvP, PrvB, PrvA, PrvC, PrvW, PrvV, PrvU, Slt, OpnC. -/
import Derived.Test.YtelnkflmnbhclaaGreatPfH12
import Derived.Test.YtelnkflmnbhclaaGreatPfH04
import Derived.Test.YtelnkflmnbhclaaGreatPfH11
set_option maxRecDepth 100000
set_option maxHeartbeats 8000000
section
namespace Go.Proofs.YtelnkflmnbhclaaGreat
open Go.RowKit Go.Proofs
theorem wide_callP {P:Program} {nn:Nat} {o:Oper} {b:Act} {W:World} {K:Act→World→Prop} {Q:Exit→Act→World→Prop} {f:FuncId} {args:Array Value} (hr:(execOp b.eval o).run P W = .ok (.enter f args) W)
 (h:Calls P f args W fun e w'=>(∃ v,e = .returned v∧K (b.put o.dst v) w')∨∃ ps,e = .panicked ps∧Q (.panic ps) b w'):o.wpIn Fence.wide nn P b W K Q:=
 ⟨fun _ _=>trivial,by
   rw [show Oper.semAt Fence.wide.round b.eval o=execOp b.eval o from rfl,hr];refine ⟨fun h=>by simp [Fence.wide] at h,callsIn_wide.2 (h.mono ?_)⟩;rintro e w' (⟨v,rfl,hK⟩|⟨ps,rfl,hQ⟩)
   · exact hK
   · exact hQ⟩
def ChainPn (P:Program) (Pn:List PanicEntry→World→Prop) (I:List Value→World→Prop) (b:Act) (o:Oper) (cv:List Value):Prop:=
 ∀ W,I cv W→(∃ v W',((execOp b.eval o).run P W = .ok (.value v) W'∨((execOp b.eval o).run P W = .ok .skip W'∧v=undef))∧I (cv ++ [v]) W')∨
   ∃ f args,(execOp b.eval o).run P W = .ok (.enter f args) W∧Calls P f args W fun e w'=>(∃ v,e = .returned v∧I (cv ++ [v]) w')∨∃ ps,e = .panicked ps∧Pn ps w'
def StepPn (P:Program) (Pn:List PanicEntry→World→Prop) (I:List Value→World→Prop) (b:Act) (T:Nat→List Value→Value) (sg lim:Nat→Nat) (ch:List Nat) (cv:List Value) (i:Nat) (o:Oper):Prop:=
 (ch.contains i=false∧wantV (fun j=>T j []) o=some false∧sg i=0∧T i []=undef)∨
   (ch.contains i=false∧wantV (fun j=>T j []) o=some true∧(sg i≤cv.length→cv.length≤lim i→StepQ P (I cv) b o (T i (cv.take (sg i)))))∨(wantV (fun j=>T j []) o=some true∧∃ m,ch[m]? = some i∧(cv.length=m→ChainPn P Pn I b o cv))
def StepsPn (P:Program) (Pn:List PanicEntry→World→Prop) (I:List Value→World→Prop) (b:Act) (T:Nat→List Value→Value) (sg lim:Nat→Nat) (ch:List Nat) (cv:List Value):Nat→List Oper→Prop
 | _,[]=>True
 | i,o::l=>StepPn P Pn I b T sg lim ch cv i o∧StepsPn P Pn I b T sg lim ch cv (i+1) l
section
variable {P:Program} {Pn:List PanicEntry→World→Prop} {I:List Value→World→Prop} {b:Act} {T:Nat→List Value→Value} {sg lim:Nat→Nat} {ch:List Nat} {cv:List Value} {i:Nat} {o:Oper} {l:List Oper}
theorem chainP_nil:StepsPn P Pn I b T sg lim ch cv i []:=trivial
theorem chainP_skip (h0:ch.contains i=false) (h:wantV (fun j=>T j []) o=some false) (h2:sg i=0) (hv:T i []=undef) (hl:StepsPn P Pn I b T sg lim ch cv (i+1) l):StepsPn P Pn I b T sg lim ch cv i (o::l):=⟨.inl ⟨h0,h,h2,hv⟩,hl⟩
theorem chainP_quiet (h0:ch.contains i=false) (h:wantV (fun j=>T j []) o=some true) (hs:sg i≤cv.length→cv.length≤lim i→StepQ P (I cv) b o (T i (cv.take (sg i)))) (hl:StepsPn P Pn I b T sg lim ch cv (i+1) l):StepsPn P Pn I b T sg lim ch cv i (o::l):=⟨.inr (.inl ⟨h0,h,hs⟩),hl⟩
theorem chainP_op (m:Nat) (hm:ch[m]? = some i) (h:wantV (fun j=>T j []) o=some true) (hs:cv.length=m→ChainPn P Pn I b o cv) (hl:StepsPn P Pn I b T sg lim ch cv (i+1) l):StepsPn P Pn I b T sg lim ch cv i (o::l):=⟨.inr (.inr ⟨h,m,hm,hs⟩),hl⟩
theorem chainP_at {l:List Oper} :∀ {k:Nat},StepsPn P Pn I b T sg lim ch cv k l→∀ {i:Nat} {o:Oper},l[i]? = some o→StepPn P Pn I b T sg lim ch cv (k+i) o:=by
 induction l with
 | nil=>intro k _ i o h;simp at h
 | cons x l ih=>
   intro k h i o ho
   cases i with
   | zero=>
     simp only [List.getElem?_cons_zero,Option.some.injEq] at ho;subst ho;exact h.1
   | succ i=>
     simp only [List.getElem?_cons_succ] at ho;have:=ih h.2 ho
     rwa [show k+1+i=k+(i+1) from by omega] at this
end
theorem wpIn_region_chainP {P:Program} {nn id:Nat} {l:List Oper} {Q:Exit→Act→World→Prop} {a:Act} {w:World} (m:Nat) (hm:P.follows .mixedOrders=true) (hok:tabOk (bareL l).toArray m=true) (hfl:flowOk l.toArray=true) (hT:a.tmps.size=m) (T:Nat→List Value→Value) (sg lim:Nat→Nat) (ch:List Nat) (hch:chainOk l.toArray ch=true) (hsg:stageOk l.toArray ch sg=true) (hlim:limOk l.toArray ch lim=true) (hgd:guardOk l.toArray ch sg=true) (Pn:List PanicEntry→World→Prop) (I:List Value→World→Prop) (hI:I [] w.drew)
 (hstep:∀ b cv,factsL b (Vc T sg ch cv) 0 l→(∀ d v,noDst l.toArray d=true→a.tmps.getD d undef=v→b.tmps[d]?.getD undef=v)→StepsPn P Pn I b T sg lim ch cv 0 l)
 (hpan:∀ ps b W,b.defers=a.defers→Pn ps W→Q (.panic ps) b W)
 (hend:∀ cv W,cv.length=ch.length→I cv W→Q .normal { tmps:=frameL (Vc T sg ch cv) 0 l a.tmps,defers:=a.defers } W):(Code.region id l.toArray true).wpIn Fence.wide nn P Q a w:=by
 have hsz:(bareL l).toArray.size=l.length:=by rw [bare_size];simp
 have hlsz:l.toArray.size=l.length:=by simp
 unfold chainOk at hch;simp only [Bool.and_eq_true,decide_eq_true_eq] at hch;obtain ⟨⟨hcs,hcl⟩,hnd⟩:=hch
 have hfr:∀ V:Nat→Value,frameL V 0 l a.tmps=framed (bareL l).toArray V a.tmps (bareL l).toArray.size:=fun V=>by
  have h1:∀ (ops:Array Oper) (n:Nat),(∀ j,dstOf ops j=dstOf (bareL l).toArray j)→framed ops V a.tmps n=framed (bareL l).toArray V a.tmps n:=by
   intro ops n h
   induction n with
   | zero=>rfl
   | succ n ih=>rw [framed,framed,h n,ih]
  have h2:=frameL_eq (V:=V) l.toArray a.tmps l 0 (fun j=>by simp);rw [show framed l.toArray V a.tmps 0=a.tmps from rfl] at h2;rw [h2,h1 l.toArray _ (fun j=>(dst_bare l j).symm),hsz,Nat.zero_add]
 refine wpIn_region_any hm ?_;refine wpAnyIn_invG hok (fun listed b W=> ∃ cv,ChainAt l a T sg ch I cv listed b W) ?_ ?_ _ _ _ _ ?_ (by simp) ?_
 · rintro listed i o b W hs hi ho ⟨cv,h⟩
   have hs':listed.size=(bareL l).toArray.size:=by rw [bare_size];exact hs
   obtain ⟨bf,hbf⟩:∃ bf:Act,bf = { tmps:=framed (bareL l).toArray (Vc T sg ch cv) a.tmps (bareL l).toArray.size,defers:=a.defers } :=⟨_,rfl⟩
   have hval:∀ i d,dstOf l.toArray i=some d→bf.tmps.getD d undef=Vc T sg ch cv i:=fun i d hd=>by
    rw [hbf]
    have hil:i<(bareL l).toArray.size:=by
     rcases Nat.lt_or_ge i (bareL l).toArray.size with h|h
     · exact h
     · rw [bare_size] at h
       simp [dstOf,Array.getElem?_eq_none h] at hd
    exact framed_val hok hT.symm (by rw [dst_bare];exact hd) _ (Nat.le_refl _) hil
   have hold:∀ d,(∀ j,dstOf l.toArray j≠some d)→bf.tmps.getD d undef=a.tmps.getD d undef:=fun d hd=>by
    rw [hbf];exact framed_old d _ (fun j _=>by rw [dst_bare];exact hd j)
   have hst:=hstep bf cv (facts_of fun i d hd=>by
    have:=hval i d (by rw [dstOf,List.getElem?_toArray];exact hd)
    rw [Nat.zero_add,←this,Array.getD_eq_getD_getElem?]) (fun d v hd hv=>by rw [←Array.getD_eq_getD_getElem?,hold d (noDst_iff hd),hv])
   have hclosed:∀ j o,l.toArray[j]? = some o→listed.getD j false=true→∀ e∈o.after,Region.binds .any e=true→listed.getD e.on false=true:=fun j o hj hl e he hb=>
    h.tab.closed j (bare o) (bare_of hj) hl e he hb
   have hready:=hi;obtain ⟨hun,oi,hoi,hall⟩:=mem_ready.1 hi;have:oi=o:=Option.some.inj (hoi.symm.trans ho);subst this;have hun':listed.getD i false=false:=getD_both hun;have hbval:∀ j d,dstOf l.toArray j=some d→listed.getD j false=true→b.tmps.getD d undef=Vc T sg ch cv j:=fun j d hd hl=>h.tab.val j d (by rw [dst_bare];exact hd) hl
   obtain ⟨f1,f2,f3⟩:=flow_op hfl ho
   have hev:execOp b.eval oi=execOp bf.eval oi:=execOp_congr oi f2 fun x hx=>by
    have hx1:=f1 x hx
    cases x with
    | tmp s=>
      show b.tmps.getD s undef=bf.tmps.getD s undef
      unfold tmpOk at hx1;rw [Bool.or_eq_true] at hx1
      rcases hx1 with hx1|hx1
      · have hno:∀ j,dstOf l.toArray j≠some s:=noDst_iff hx1
        rw [hold s hno,h.tab.old s (fun j=>by rw [dst_bare];exact hno j)]
      · obtain ⟨e,he,hb⟩:=any_mem hx1
        simp only [Bool.and_eq_true,beq_iff_eq] at hb;rw [hval e.on s hb.2,hbval e.on s hb.2 (hall e he hb.1)]
    | const v=>rfl
    | global g=>rfl
    | func f=>rfl
   have hlt:l[i]? = some oi:=by rw [←List.getElem?_toArray];exact ho
   have hw:∀ v,wantV (fun j=>T j []) oi=some v→Region.wanted oi (yielded l.toArray b.tmps)=v:=fun v hv=>by
    unfold wantV at hv
    cases hg:oi.guard with
    | none=>
      rw [hg] at hv;simp only [Option.some.injEq] at hv;subst hv;simp [Region.wanted,hg]
    | some jg=>
      obtain ⟨j,g⟩:=jg;rw [hg] at hv;obtain ⟨⟨d,hd⟩,e,he,hb,hej⟩:=f3 j g hg;subst hej
      obtain ⟨hnc,hs0⟩:ch.contains e.on=false∧sg e.on=0:=by
       have h3:=Array.all_eq_true_iff_forall_mem.1 hgd oi (Array.mem_of_getElem? ho);rw [hg] at h3;simpa using h3
      cases hj:T e.on [] with
      | bool v'=>
        simp only [hj,Option.some.injEq] at hv;have h1:=hbval e.on d hd (hall e he hb);rw [Vc_out (by intro hmem;rw [List.contains_iff_mem.2 hmem] at hnc;cases hnc),hs0,List.take_zero,hj] at h1
        have h2:b.tmps[d]? = some (.bool v'):=by
         rw [Array.getD_eq_getD_getElem?] at h1
         cases hx:b.tmps[d]? with
         | none=>rw [hx] at h1;cases h1
         | some x=>rw [hx] at h1;simpa using h1
        have h3:yielded l.toArray b.tmps e.on=some v':=by
         unfold yielded;have hd':(l.toArray[e.on]?).bind (·.dst)=some d:=hd;rw [hd',Option.bind_some,h2]
        unfold Region.wanted;rw [hg];simp only [h3];rw [←hv];cases v'<;>cases g<;>rfl
      | _=>simp only [hj] at hv;cases hv
   have keep:ch.contains i=false→∀ W',I cv W'→∃ cv',ChainAt l a T sg ch I cv' (listed.setIfInBounds i true) (b.put oi.dst (T i (cv.take (sg i)))) W':=fun hnc W' hW'=>by
    have hni:i∉ch:=by intro hmem;rw [List.contains_iff_mem.2 hmem] at hnc;cases hnc
    have h1:=(h.tab.set hok hT.symm (ready_bare hready) (bare_of ho):TabAt (bareL l).toArray (Vc T sg ch cv) a (listed.setIfInBounds i true) (b.put (bare oi).dst (Vc T sg ch cv i)))
    rw [Vc_out hni] at h1;refine ⟨cv,h1,hW',h.len,fun m j hmj=> ?_⟩;have hij:i≠j:=fun e=>hni (by rw [e];exact List.mem_of_getElem? hmj)
    rw [getD_set_ne false hij];exact h.on m j hmj
   have hat:=chainP_at hst hlt;rw [Nat.zero_add] at hat;have htk0:sg i=0→cv.take (sg i) = []:=fun e=>by rw [e];rfl
   rcases hat with ⟨hnc,h1,h0,h2⟩|⟨hnc,h1,h2⟩|⟨h1,k,hk,h2⟩
   · rw [hw _ h1,if_neg (by decide)]
     have:=keep hnc W h.inv;rw [htk0 h0,h2] at this;exact this
   · rw [hw _ h1,if_pos rfl]
     have hsgl:sg i≤cv.length:=by
      have hil:i<l.toArray.size:=(Array.getElem?_eq_some_iff.1 ho).1;have h3:=List.all_eq_true.1 hsg i (List.mem_range.2 hil);rw [hnc,Bool.false_or,Bool.or_eq_true,beq_iff_eq] at h3
      rcases h3 with h3|h3
      · omega
      · cases hc:ch[sg i-1]? with
        | none=>rw [hc] at h3;cases h3
        | some c=>
          rw [hc] at h3
          obtain ⟨e,he,hb,hanc⟩:∃ e∈oi.after,Region.binds .any e=true∧(e.on=c∨∃ n,ancOf l.toArray n e.on c=true):=by
           have h4:ancOf l.toArray l.toArray.size i c=true:=h3
           cases hn:l.toArray.size with
           | zero=>rw [hn] at hil;omega
           | succ n=>
             rw [hn] at h4;unfold ancOf at h4;rw [ho] at h4;obtain ⟨e,he,hb⟩:=any_mem h4;simp only [Bool.and_eq_true,Bool.or_eq_true,beq_iff_eq] at hb;exact ⟨e,he,hb.1,hb.2.imp (fun h=>h) fun h=>⟨n,h⟩⟩
          have hel:=hall e he hb
          have hcl:listed.getD c false=true:=by
           rcases hanc with rfl|⟨n,hn⟩
           · exact hel
           · exact anc_listed hclosed n _ _ hn hel
          have:=(h.on _ c hc).1 hcl;omega
     have hliml:cv.length≤lim i:=by
      have hil:i<l.toArray.size:=(Array.getElem?_eq_some_iff.1 ho).1;have h3:=List.all_eq_true.1 hlim i (List.mem_range.2 hil);rw [hnc,Bool.false_or] at h3
      cases hc:ch[lim i]? with
      | none=>exact Nat.le_trans h.len (List.getElem?_eq_none_iff.1 hc)
      | some c=>
        rw [hc] at h3
        rcases Nat.lt_or_ge (lim i) cv.length with h4|h4
        · have:=anc_listed hclosed _ _ _ h3 ((h.on _ _ hc).2 h4)
          rw [hun'] at this;cases this
        · exact h4
     rcases h2 hsgl hliml W h.inv with hr|⟨hr,hv⟩|⟨f,args,hr,hc⟩
     · rw [←hev] at hr
       exact wide_val hr (keep hnc W h.inv)
     · rw [←hev] at hr
       refine wide_skip hr ?_;rw [←hv];exact keep hnc W h.inv
     · rw [←hev] at hr
       refine wide_call hr (hc.mono ?_);rintro e w' ⟨rfl,hG'⟩;exact ⟨_,rfl,keep hnc w' hG'⟩
   · rw [hw _ h1,if_pos rfl]
     have hon:=h.on k i hk
     have hkl:cv.length=k:=by
      have h3:¬k<cv.length:=fun e=>by rw [hon.2 e] at hun';cases hun'
      rcases Nat.lt_or_ge cv.length k with h4|h4
      · exfalso
        obtain ⟨c',hc'⟩:∃ c',ch[cv.length]? = some c':=⟨ch[cv.length]'(by have:=(List.getElem?_eq_some_iff.1 hk).1;omega),List.getElem?_eq_getElem _⟩
        have hnl:listed.getD c' false=false:=by
         cases hx:listed.getD c' false with
         | false=>rfl
         | true=>have:=(h.on _ _ hc').1 hx;omega
        have hset:∀ j o,l.toArray[j]? = some o→(listed.setIfInBounds i true).getD j false=true→∀ e∈o.after,Region.binds .any e=true→(listed.setIfInBounds i true).getD e.on false=true:=fun j o hj hl e he hb=>by
         have h1:=(h.tab.set hok hT.symm (ready_bare hready) (bare_of ho):TabAt (bareL l).toArray (Vc T sg ch cv) a (listed.setIfInBounds i true) (b.put (bare oi).dst (Vc T sg ch cv i)))
         exact h1.closed j (bare o) (bare_of hj) hl e he hb
        have hil:i<listed.size:=by rw [hs];exact (Array.getElem?_eq_some_iff.1 ho).1
        have h5:=chain_ge hset hcs hk hc' (by omega) (by simp [hil])
        have hne:i≠c':=fun e=>by
         have:=(List.getElem?_inj (i:=k) (j:=cv.length) (by have:=(List.getElem?_eq_some_iff.1 hk).1;exact this) hnd).1 (by rw [hk,hc',e]);omega
        rw [getD_set_ne false hne,hnl] at h5;cases h5
      · omega
     have hnext:∀ v W',I (cv ++ [v]) W'→∃ cv',ChainAt l a T sg ch I cv' (listed.setIfInBounds i true) (b.put oi.dst v) W':=fun v W' hI'=>by
      refine ⟨cv ++ [v],?_,hI',by rw [List.length_append,hkl];have:=(List.getElem?_eq_some_iff.1 hk).1;exact this,fun m j hmj=> ?_⟩
      · have hagree:∀ j,listed.getD j false=true→Vc T sg ch cv j=Vc T sg ch (cv ++ [v]) j:=fun j hj=>by
         by_cases hjc:j∈ch
         · obtain ⟨m,hm⟩:=List.mem_iff_getElem?.1 hjc
           have:=(h.on m j hm).1 hj;rw [Vc_in hnd hm,Vc_in hnd hm,List.getD_eq_getElem?_getD,List.getD_eq_getElem?_getD,List.getElem?_append_left this]
         · rw [Vc_out hjc,Vc_out hjc]
           have hjl:j<l.toArray.size:=by
            rw [←hs]
            rcases Nat.lt_or_ge j listed.size with h|h
            · exact h
            · rw [Array.getD_eq_getD_getElem?,Array.getElem?_eq_none h] at hj;cases hj
           have h3:=List.all_eq_true.1 hsg j (List.mem_range.2 hjl);rw [show ch.contains j=false from by simpa using hjc,Bool.false_or,Bool.or_eq_true,beq_iff_eq] at h3
           have hle:sg j≤cv.length:=by
            rcases h3 with h3|h3
            · omega
            · cases hc:ch[sg j-1]? with
              | none=>rw [hc] at h3;cases h3
              | some c=>
                rw [hc] at h3;have:=(h.on _ c hc).1 (anc_listed hclosed _ _ _ h3 hj);omega
           rw [List.take_append_of_le_length hle]
        have h1:=((h.tab.congr hagree).set hok hT.symm (ready_bare hready) (bare_of ho):TabAt (bareL l).toArray (Vc T sg ch (cv ++ [v])) a (listed.setIfInBounds i true) (b.put (bare oi).dst (Vc T sg ch (cv ++ [v]) i)))
        rw [Vc_in hnd hk,List.getD_eq_getElem?_getD,List.getElem?_append_right (by omega),hkl,Nat.sub_self] at h1;exact h1
      · have hil:i<listed.size:=by rw [hs];exact (Array.getElem?_eq_some_iff.1 ho).1
        rw [List.length_append,List.length_singleton];by_cases hij:i=j
        · subst hij
          have:m=k:=(List.getElem?_inj (i:=m) (j:=k) (by have:=(List.getElem?_eq_some_iff.1 hmj).1;exact this) hnd).1 (by rw [hk,hmj]);subst this
          constructor
          · intro _;omega
          · intro _;simp [hil]
        · rw [getD_set_ne false hij,h.on m j hmj]
          have:m≠k:=fun e=>hij (by rw [e,hk] at hmj;exact Option.some.inj hmj)
          omega
     rcases h2 hkl W h.inv with ⟨v,W',hr,hI'⟩|⟨f,args,hr,hc⟩
     · rcases hr with hr|⟨hr,hv⟩
       · rw [←hev] at hr
         exact wide_val hr (hnext v W' hI')
       · rw [←hev] at hr
         refine wide_skip hr ?_;rw [←hv];exact hnext v W' hI'
     · rw [←hev] at hr
       refine wide_callP hr (hc.mono ?_);rintro e w' (⟨v,rfl,hI'⟩|⟨ps,rfl,hp⟩)
       · exact .inl ⟨v,rfl,hnext v w' hI'⟩
       · exact .inr ⟨ps,rfl,hpan ps b w' h.tab.defers hp⟩
 · rintro b W ⟨cv,h⟩
   have h1:=h.tab;rw [←bare_size] at h1;rw [h1.act hok hT.symm,←hfr];refine hend cv W ?_ h.inv
   rcases Nat.lt_or_ge cv.length ch.length with h2|h2
   · exfalso
     have h3:=(h.on cv.length ch[cv.length] (List.getElem?_eq_getElem h2)).1 (by
      have:=List.all_eq_true.1 hcl _ (List.getElem_mem h2);simp only [decide_eq_true_eq] at this;simp only [List.size_toArray] at this
      simp [this])
     omega
   · have:=h.len;omega
 · have h2:∀ k,(List.filter (fun b=> !b) (List.replicate k false)).length=k:=by
    intro k;rw [List.filter_eq_self.2 (fun b hb=>by rw [List.eq_of_mem_replicate hb];rfl),List.length_replicate]
   unfold left;rw [Array.toList_replicate];exact h2 _
 · have h0:=TabAt.start (ops:=(bareL l).toArray) (V:=Vc T sg ch []) a
   rw [bare_size] at h0;refine ⟨[],h0,hI,Nat.zero_le _,fun m i _=> ?_⟩;rw [getD_replicate_false];simp
open Go.Shelf
def noProof:PanicEntry:={ v:=.iface 222 (.agg #[]),recovered:=false }
theorem ent_need:∀ args w,(callFunc 169 args).run Tryz.prog w = .ok (.enter 169 args) w:=enters_of Tryz.func169 (by kernel_rfl) rfl
theorem ent_walk:∀ args w,(callFunc 170 args).run Tryz.prog w = .ok (.enter 170 args) w:=enters_of Tryz.func170 (by kernel_rfl) rfl
theorem need_yes (w:World):Calls Tryz.prog 169 #[.bool true] w fun e w'=>e = .returned (.tuple #[])∧w'=w:=by
 go_enter Tryz.func169,Tryz.ntmps169;go_wp2;go_end0;exact ⟨rfl,rfl⟩
theorem need_no (w:World):Calls Tryz.prog 169 #[.bool false] w fun e w'=>e = .panicked [noProof]∧w'=w:=by
 go_enter Tryz.func169,Tryz.ntmps169;go_wp2;exact ⟨rfl,rfl,rfl⟩
theorem run_assert (w:World):(Instr.typeAssert (.iface 222 (.agg #[])) 20 222 true).run Tryz.prog w = .ok (.tuple #[.agg #[],.bool true]) w:=by
 simp [Instr.typeAssert,go_sem]
theorem caught (b:Nat) (x:Bool) (w:World) (hb:b<w.heap.size) (hc:w.cell? ⟨b,0,none⟩=some (.bool x)) (hz:w.frozen? ⟨b,0,none⟩=false):
 CallsD Tryz.prog 168 #[.pointer (some ⟨b,0,none⟩)] (.panicking [noProof]) w fun e u' w'=>
  e = .returned (.tuple #[])∧u' = .panicking [{ noProof with recovered:=true }]∧w'=(w.setCell ⟨b,0,none⟩ (.bool false)).alloc (.cells #[] 222):=by
 refine callsD_of_wpS Tryz.func168 rfl fun c₀ cs hu=> ?_
 apply wpS_seq
 apply wpS_region
 simp [wpOpsS,go_sem,recoverD,hu,noProof,Tryz.ntmps168,Exit.thenS];have hta:=run_assert;refine wpS_of_wp ?_;go_wp2;simp [bodyPostS,results,Tryz.results168]
theorem idle (p:Addr) (w:World):
 CallsD Tryz.prog 168 #[.pointer (some p)] .returning w fun e u' w'=>e = .returned (.tuple #[])∧u' = .returning∧w'=w:=by
 refine callsD_of_wpS Tryz.func168 rfl fun c₀ cs hu=> ?_
 apply wpS_seq
 apply wpS_region
 simp [wpOpsS,go_sem,recoverD,hu,Tryz.ntmps168,Exit.thenS];refine wpS_of_wp ?_;go_wp2;cases c₀
 simp_all [bodyPostS,results,Tryz.results168]
def needF:Value:=.func (.func 169) #[] #[]
theorem run_need (r:Bool) (W:World):Calls Tryz.prog 169 #[.bool r] W fun e w'=>w'=W∧((r=true∧e = .returned (.tuple #[]))∨(r=false∧e = .panicked [noProof])):=by
 cases r
 · refine (need_no W).mono ?_
   rintro e w' ⟨rfl,rfl⟩;exact ⟨rfl,.inr ⟨rfl,rfl⟩⟩
 · refine (need_yes W).mono ?_
   rintro e w' ⟨rfl,rfl⟩;exact ⟨rfl,.inl ⟨rfl,rfl⟩⟩
def codePrv4:Option Code→Code
 | some (.seq _ (.seq _ (.seq _ (.seq (.seq _ (.cond _ (.seq c _) _)) _))))=>c
 | _=> .skip
def PrvI4 (r:Bool) (w:World):List Value→World→Prop
 | [],W=>Below w.heap.size w W
 | [v],W=>Below w.heap.size w W∧v = .tuple #[]∧r=true
 | _,_=>False
def PrvP (r:Bool) (w:World) (ps:List PanicEntry) (W:World):Prop:=ps = [noProof]∧Below w.heap.size w W∧r=false
def Tprv4 (_ _ _ o:Nat) (A:Option Addr) (m c:Nat) (Aa:Option Addr) (an ca:Nat) (n s:Int) (r:Bool) (cv:List Value):List Value:=
 [needF,.pointer (some ⟨o,0,none⟩),.pointer (some ⟨o,0,none⟩),.pointer (some ⟨o,0+3,none⟩),.agg #[.slice Aa an ca],.slice A m c,.int .i64 s,.int .i64 n,.bool (r),cv.getD 0 undef]
theorem prv4 (cC:Code) (hc:cC=codePrv4 Tryz.f170.body) (b1 b4 b5 o:Nat) (A:Option Addr) (m c:Nat) (Aa:Option Addr) (an ca:Nat) (n s:Int) (r:Bool) (a:Act) (w:World) (Q:Exit→Act→World→Prop)
 (hT:a.tmps.size=58) (t0:a.tmps.getD 0 undef = .slice A m c) (t1:a.tmps.getD 1 undef = .pointer (some ⟨b1,0,none⟩)) (t4:a.tmps.getD 4 undef = .pointer (some ⟨b4,0,none⟩)) (t5:a.tmps.getD 5 undef = .pointer (some ⟨b5,0,none⟩))
 (CE:∀ W,Below w.heap.size w W→W.cell? ⟨b1,0,none⟩=some needF∧W.cell? ⟨b4,0,none⟩=some (.pointer (some ⟨o,0,none⟩))∧W.cell? ⟨b5,0,none⟩=some (.int .i64 n)∧W.cell? ⟨o,3,none⟩=some (.slice Aa an ca))
 (CC:∀ W,Below w.heap.size w W→Calls Tryz.prog 117 #[.agg #[.slice Aa an ca],.slice A m c] W fun e w'=>e = .returned (.int .i64 s)∧Below W.heap.size W w') (hr:decide (s≥n)=r)
 (hPan:∀ ps (b:Act) W,b.defers=a.defers→(PrvP r w) ps W→Q (.panic ps) b W)
 (hQ:∀ W,Below w.heap.size w W→r=true→Q .normal { tmps:=setsL a.tmps 27 (Tprv4 b1 b4 b5 o A m c Aa an ca n s r [.tuple #[]]),defers:=a.defers } W):
 cC.wp Tryz.prog Q a w:=by
 subst hc;unfold codePrv4 Tryz.f170;dsimp only;refine wpIn_wide.1 (wpIn_region_chainP (nn:=5) 58 (by kernel_rfl) (by kernel_rfl) (by kernel_rfl) hT (fun i cv=>(Tprv4 b1 b4 b5 o A m c Aa an ca n s r cv).getD i undef) (fun i=>([0,0,0,0,0,0,0,0,0,0]:List Nat).getD i 0) (fun i=>([0,0,0,0,0,0,0,0,0,1]:List Nat).getD i 0) [9] (by kernel_rfl) (by kernel_rfl) (by kernel_rfl) (by kernel_rfl) (PrvP r w) (PrvI4 r w) ((Below.refl _ _).drew) (fun b cv hE hold=> ?_) hPan (fun cv W hl hI=> ?_))
 · clear hQ
   have q0:=hold 0 _ (by kernel_rfl) t0;have q1:=hold 1 _ (by kernel_rfl) t1;have q4:=hold 4 _ (by kernel_rfl) t4;have q5:=hold 5 _ (by kernel_rfl) t5;simp only [factsL,Vc,idxC,Tprv4,List.getD_cons_zero,List.getD_cons_succ,Nat.reduceAdd,Nat.reduceEqDiff,reduceIte,Option.map_none] at hE
   repeat' first|exact chainP_nil|refine chainP_op 0 rfl rfl ?_ ?_|refine chainP_skip rfl rfl rfl rfl ?_|refine chainP_quiet rfl rfl ?_ ?_
   all_goals intro hl
   any_goals (
    intro hl2;simp only [List.getD_cons_zero,List.getD_cons_succ,Nat.reduceAdd] at hl hl2
    first
     | (obtain rfl:=List.eq_nil_of_length_eq_zero (Nat.le_zero.1 hl2);intro W hW;have hWb:Below w.heap.size w W:=hW;obtain ⟨s1,s2,s3,s4⟩:=CE W hWb;simp only [Tprv4,List.getD_cons_zero,List.getD_cons_succ,Nat.reduceAdd]
        first
         | (refine .inl ?_;go_simp;done)
         | (refine .inl ?_;go_simp;rfl)
         | (refine .inl ?_;go_simp;exact congrArg Value.bool hr)
         | (refine .inl ?_;go_simp;simp [hr];done)
         | (refine .inr (.inr ⟨117,#[.agg #[.slice Aa an ca],.slice A m c],?_,(CC W hWb).mono ?_⟩)
            · go_simp<;>done
            · rintro e w' ⟨rfl,hb'⟩;exact ⟨rfl,(show Below _ _ _ from (show Below _ _ _ from hW).trans (hb'.mono (show Below _ _ _ from hW).size))⟩))
    done)
   · obtain rfl:=List.eq_nil_of_length_eq_zero hl
     intro W hW;have hWb:Below w.heap.size w W:=hW;refine .inr ⟨169,#[.bool r],?_,(run_need r W).mono ?_⟩
     · have eg:=ent_need;unfold needF at *;go_simp<;>done
     · rintro e w' ⟨rfl,(⟨h1,rfl⟩|⟨h1,rfl⟩)⟩
       · exact .inl ⟨_,rfl,hWb,rfl,h1⟩
       · exact .inr ⟨_,rfl,rfl,hWb,h1⟩
 · match cv,hl,hI with
   | [_],_,⟨hb,e,h1⟩=>subst e;exact hQ W hb h1
def codePrv5:Option Code→Code
 | some (.seq _ (.seq _ (.seq _ (.seq _ (.seq c _)))))=>c
 | _=> .skip
def PrvI5 (pn:Nat) (L:List Link) (S:List Bound) (r:Bool) (w:World):List Value→World→Prop
 | [],W=>Below w.heap.size w W
 | [v],W=>Below w.heap.size w W∧∃ Ab cb Al cl mb,v = .agg #[.int .i64 (pn+1),.slice Ab L.length cb,.slice Al L.length cl,.map (some mb)]∧Rd encBound 4 W Ab L.length cb S∧Rd encLink 6 W Al L.length cl L
 | [_,u],W=>Below w.heap.size w W∧u = .bool r
 | [_,_,z],W=>Below w.heap.size w W∧z = .tuple #[]∧r=true
 | _,_=>False
theorem PrvI5.b {pn:Nat} {L:List Link} {S:List Bound} {r:Bool} {w W:World} {cv:List Value} (h:PrvI5 pn L S r w cv W):Below w.heap.size w W:=by
 match cv,h with
 | [],h=>exact h
 | [_],h=>exact h.1
 | [_,_],h=>exact h.1
 | [_,_,_],h=>exact h.1
def Tprv5 (_ _ o:Nat) (A:Option Addr) (m c:Nat) (C:Option Addr) (cn cc _:Nat) (_:List Link) (_:List Bound) (_:Bool) (cv:List Value):List Value:=
 [needF,.pointer (some ⟨o,0,none⟩),.slice A m c,cv.getD 0 undef,.slice C cn cc,cv.getD 1 undef,cv.getD 2 undef]
theorem prv5 (cC:Code) (hc:cC=codePrv5 Tryz.f170.body) (b1 b4 o:Nat) (A:Option Addr) (m c:Nat) (C:Option Addr) (cn cc pn:Nat) (L:List Link) (S:List Bound) (r:Bool) (a:Act) (w:World) (Q:Exit→Act→World→Prop)
 (hT:a.tmps.size=58) (t0:a.tmps.getD 0 undef = .slice A m c) (t1:a.tmps.getD 1 undef = .pointer (some ⟨b1,0,none⟩)) (t4:a.tmps.getD 4 undef = .pointer (some ⟨b4,0,none⟩)) (t8:a.tmps.getD 8 undef = .slice C cn cc)
 (CE:∀ W,Below w.heap.size w W→W.cell? ⟨b1,0,none⟩=some needF∧W.cell? ⟨b4,0,none⟩=some (.pointer (some ⟨o,0,none⟩)))
 (CY:∀ W,Below w.heap.size w W→Calls Tryz.prog 75 #[.pointer (some ⟨o,0,none⟩),.slice A m c] W fun e w'=> ∃ Ab cb Al cl mb,e = .returned (.agg #[.int .i64 (pn+1),.slice Ab L.length cb,.slice Al L.length cl,.map (some mb)])∧Below W.heap.size W w'∧Rd encBound 4 w' Ab L.length cb S∧Rd encLink 6 w' Al L.length cl L)
 (CC:∀ W Ab cb Al cl mb,Below w.heap.size w W→Rd encBound 4 W Ab L.length cb S→Rd encLink 6 W Al L.length cl L→Calls Tryz.prog 113 #[.agg #[.int .i64 (pn+1),.slice Ab L.length cb,.slice Al L.length cl,.map (some mb)],.slice C cn cc] W fun e w'=>e = .returned (.bool r)∧Below W.heap.size W w')
 (hPan:∀ ps (b:Act) W,b.defers=a.defers→(PrvP r w) ps W→Q (.panic ps) b W)
 (hQ:∀ v u W,Below w.heap.size w W→r=true→Q .normal { tmps:=setsL a.tmps 37 (Tprv5 b1 b4 o A m c C cn cc pn L S r [v,u,.tuple #[]]),defers:=a.defers } W):
 cC.wp Tryz.prog Q a w:=by
 subst hc;unfold codePrv5 Tryz.f170;dsimp only;refine wpIn_wide.1 (wpIn_region_chainP (nn:=5) 58 (by kernel_rfl) (by kernel_rfl) (by kernel_rfl) hT (fun i cv=>(Tprv5 b1 b4 o A m c C cn cc pn L S r cv).getD i undef) (fun i=>([0,0,0,0,0,0,0]:List Nat).getD i 0) (fun i=>([2,0,0,1,1,2,3]:List Nat).getD i 0) [3,5,6] (by kernel_rfl) (by kernel_rfl) (by kernel_rfl) (by kernel_rfl) (PrvP r w) (PrvI5 pn L S r w) ((Below.refl _ _).drew) (fun b cv hE hold=> ?_) hPan (fun cv W hl hI=> ?_))
 · clear hQ
   have q0:=hold 0 _ (by kernel_rfl) t0;have q1:=hold 1 _ (by kernel_rfl) t1;have q4:=hold 4 _ (by kernel_rfl) t4;have q8:=hold 8 _ (by kernel_rfl) t8;simp only [factsL,Vc,idxC,Tprv5,List.getD_cons_zero,List.getD_cons_succ,Nat.reduceAdd,Nat.reduceEqDiff,reduceIte,Option.map_some,Option.map_none] at hE
   repeat' first|exact chainP_nil|refine chainP_op 0 rfl rfl ?_ ?_|refine chainP_op 1 rfl rfl ?_ ?_|refine chainP_op 2 rfl rfl ?_ ?_|refine chainP_skip rfl rfl rfl rfl ?_|refine chainP_quiet rfl rfl ?_ ?_
   all_goals intro hl
   any_goals (
    intro hl2;simp only [List.getD_cons_zero,List.getD_cons_succ,Nat.reduceAdd] at hl hl2
    first
     | (obtain rfl:=List.eq_nil_of_length_eq_zero (Nat.le_zero.1 hl2);intro W hW;have hWb:Below w.heap.size w W:=hW;obtain ⟨s1,s2⟩:=CE W hWb;simp only [Tprv5,List.getD_cons_zero,List.getD_cons_succ,Nat.reduceAdd]
        first
         | (refine .inl ?_;go_simp;done)
         | (refine .inl ?_;go_simp;rfl))
     | (intro W hW;simp only [Tprv5,List.getD_cons_zero,List.getD_cons_succ,Nat.reduceAdd];refine .inl ?_;go_simp;(try rfl);done)
     | (intro W hW;obtain ⟨s1,s2⟩:=CE W (PrvI5.b hW);simp only [Tprv5,List.getD_cons_zero]
        first
         | (refine .inl ?_;go_simp;done)
         | (refine .inl ?_;go_simp;rfl))
    done)
   · obtain rfl:=List.eq_nil_of_length_eq_zero hl
     intro W hW;have hWb:Below w.heap.size w W:=hW;refine .inr ⟨75,#[.pointer (some ⟨o,0,none⟩),.slice A m c],?_,(CY W hWb).mono ?_⟩
     · go_simp<;>done
     · rintro e w' ⟨Ab,cb,Al,cl,mb,rfl,hb',h1,h2⟩;exact .inl ⟨_,rfl,hWb.trans (hb'.mono hWb.size),Ab,cb,Al,cl,mb,rfl,h1,h2⟩
   · obtain ⟨v,rfl⟩:=len1 hl
     rintro W ⟨hWb,Ab,cb,Al,cl,mb,rfl,h1,h2⟩;simp only [List.getD_cons_zero] at hE;refine .inr ⟨113,#[.agg #[.int .i64 (pn+1),.slice Ab L.length cb,.slice Al L.length cl,.map (some mb)],.slice C cn cc],?_,(CC W Ab cb Al cl mb hWb h1 h2).mono ?_⟩
     · go_simp<;>done
     · rintro e w' ⟨rfl,hb'⟩;exact .inl ⟨_,rfl,hWb.trans (hb'.mono hWb.size),rfl⟩
   · obtain ⟨v,u,rfl⟩:=len2 hl
     rintro W ⟨hWb,rfl⟩;simp only [List.getD_cons_zero,List.getD_cons_succ] at hE;refine .inr ⟨169,#[.bool r],?_,(run_need r W).mono ?_⟩
     · have eg:=ent_need;unfold needF at *;go_simp<;>done
     · rintro e w' ⟨rfl,(⟨h1,rfl⟩|⟨h1,rfl⟩)⟩
       · exact .inl ⟨_,rfl,hWb,rfl,h1⟩
       · exact .inr ⟨_,rfl,rfl,hWb,h1⟩
 · match cv,hl,hI with
   | [v,u,z],_,⟨hb,e,h1⟩=>subst e;exact hQ v u W hb h1
def codePrv9:Option Code→Code
 | some (.seq _ (.seq _ (.seq _ (.seq _ (.seq _ (.seq _ (.block _ (.loop (.seq _ (.seq _ (.seq (.block _ (.seq _ c)) _)))))))))))=>c
 | _=> .skip
def PrvI9 (m:Nat) (xs:List Place) (G:World→Prop) (w:World):List Value→World→Prop
 | [],W=>Below w.heap.size w W
 | [v],W=>Below w.heap.size w W∧∃ A c,v = .slice A (m+1) c∧Rd encPlace 2 W A (m+1) c xs
 | [_,z],W=>z = .tuple #[]∧G W
 | _,_=>False
theorem PrvI9.b {m:Nat} {xs:List Place} {G:World→Prop} {w W:World} {cv:List Value} (hl:cv.length≤1) (h:PrvI9 m xs G w cv W):Below w.heap.size w W:=by
 cases cv with
 | nil=>exact h
 | cons a t=>
   cases t with
   | nil=>exact h.1
   | cons b t=>simp only [List.length_cons] at hl;omega
def Tprv9 (_ _:Nat) (A:Option Addr) (m c:Nat) (q:Place) (wf:Value) (_:List Place) (cv:List Value):List Value:=
 [wf,.slice A m c,.agg #[.int .i64 q.pit,.int .i64 q.layer],cv.getD 0 undef,cv.getD 1 undef]
theorem prv9 (cC:Code) (hc:cC=codePrv9 Tryz.f170.body) (b6 bq:Nat) (A:Option Addr) (m c:Nat) (q:Place) (wf:Value) (xs:List Place) (a:Act) (w:World) (Q:Exit→Act→World→Prop)
 (hT:a.tmps.size=58) (t0:a.tmps.getD 0 undef = .slice A m c) (t6:a.tmps.getD 6 undef = .pointer (some ⟨b6,0,none⟩)) (t10:a.tmps.getD 10 undef = .pointer (some ⟨bq,0,none⟩))
 (CE:∀ W,Below w.heap.size w W→W.cell? ⟨b6,0,none⟩=some wf∧W.cell? ⟨bq,0,none⟩=some (.int .i64 q.pit)∧W.cell? ⟨bq,1,none⟩=some (.int .i64 q.layer))
 (CM:∀ W,Below w.heap.size w W→Calls Tryz.prog 119 #[.slice A m c,.agg #[.int .i64 q.pit,.int .i64 q.layer]] W fun e w'=> ∃ A' c',e = .returned (.slice A' (m+1) c')∧Rd encPlace 2 w' A' (m+1) c' xs∧Below W.heap.size W w')
 (cps:Array Value) (hwf:wf = .func (.func 170) #[] cps) (G Gp:World→Prop) (CW:∀ W A' c',Below w.heap.size w W→Rd encPlace 2 W A' (m+1) c' xs→Calls Tryz.prog 170 (#[.slice A' (m+1) c']++cps) W fun e w'=>(e = .returned (.tuple #[])∧G w')∨(e = .panicked [noProof]∧Gp w'))
 (hPan:∀ ps (b:Act) W,b.defers=a.defers→(fun ps W=>ps = [noProof]∧Gp W) ps W→Q (.panic ps) b W)
 (hQ:∀ v W,G W→Q .normal { tmps:=setsL a.tmps 52 (Tprv9 b6 bq A m c q wf xs [v,.tuple #[]]),defers:=a.defers } W):
 cC.wp Tryz.prog Q a w:=by
 subst hc;unfold codePrv9 Tryz.f170;dsimp only;refine wpIn_wide.1 (wpIn_region_chainP (nn:=5) 58 (by kernel_rfl) (by kernel_rfl) (by kernel_rfl) hT (fun i cv=>(Tprv9 b6 bq A m c q wf xs cv).getD i undef) (fun i=>([0,0,0,0,0]:List Nat).getD i 0) (fun i=>([1,0,0,1,2]:List Nat).getD i 0) [3,4] (by kernel_rfl) (by kernel_rfl) (by kernel_rfl) (by kernel_rfl) (fun ps W=>ps = [noProof]∧Gp W) (PrvI9 m xs G w) ((Below.refl _ _).drew) (fun b cv hE hold=> ?_) hPan (fun cv W hl hI=> ?_))
 · clear hQ
   have q0:=hold 0 _ (by kernel_rfl) t0;have q6:=hold 6 _ (by kernel_rfl) t6;have q10:=hold 10 _ (by kernel_rfl) t10;simp only [factsL,Vc,idxC,Tprv9,List.getD_cons_zero,List.getD_cons_succ,Nat.reduceAdd,Nat.reduceEqDiff,reduceIte,Option.map_some,Option.map_none] at hE
   repeat' first|exact chainP_nil|refine chainP_op 0 rfl rfl ?_ ?_|refine chainP_op 1 rfl rfl ?_ ?_|refine chainP_skip rfl rfl rfl rfl ?_|refine chainP_quiet rfl rfl ?_ ?_
   all_goals intro hl
   any_goals (
    intro hl2;simp only [List.getD_cons_zero,List.getD_cons_succ,Nat.reduceAdd] at hl hl2
    first
     | (obtain rfl:=List.eq_nil_of_length_eq_zero (Nat.le_zero.1 hl2);intro W hW;have hWb:Below w.heap.size w W:=hW;obtain ⟨s1,s2,s3⟩:=CE W hWb;simp only [Tprv9,List.getD_cons_zero,List.getD_cons_succ,Nat.reduceAdd]
        first
         | (refine .inl ?_;go_simp;done)
         | (refine .inl ?_;go_simp;rfl))
     | (intro W hW;simp only [Tprv9,List.getD_cons_zero];refine .inl ?_;go_simp;(try rfl);done)
     | (intro W hW;obtain ⟨s1,s2,s3⟩:=CE W (PrvI9.b hl2 hW);simp only [Tprv9,List.getD_cons_zero]
        first
         | (refine .inl ?_;go_simp;done)
         | (refine .inl ?_;go_simp;rfl))
    done)
   · obtain rfl:=List.eq_nil_of_length_eq_zero hl
     intro W hW;have hWb:Below w.heap.size w W:=hW;refine .inr ⟨119,#[.slice A m c,.agg #[.int .i64 q.pit,.int .i64 q.layer]],?_,(CM W hWb).mono ?_⟩
     · go_simp<;>done
     · rintro e w' ⟨A',c',rfl,h1,hb'⟩;exact .inl ⟨_,rfl,hWb.trans (hb'.mono hWb.size),A',c',rfl,h1⟩
   · obtain ⟨v,rfl⟩:=len1 hl
     rintro W ⟨hWb,A',c',rfl,h1⟩;simp only [List.getD_cons_zero] at hE;have hcw:=CW W A' c' hWb h1;refine .inr ⟨_,_,?_,hcw.mono ?_⟩
     · have eg:=ent_walk;rw [hwf] at hE;go_simp<;>done
     · rintro e w' (⟨rfl,h1⟩|⟨rfl,h1⟩)
       · exact .inl ⟨_,rfl,rfl,h1⟩
       · exact .inr ⟨_,rfl,rfl,h1⟩
 · match cv,hl,hI with
   | [v,z],_,⟨e,h1⟩=>subst e;exact hQ v W h1
def bondedB (bs:List Bond) (x:Link):Bool:=bs.any fun b=>eqLink x ⟨b.a,b.b,0,b.by_⟩||eqLink x ⟨b.b,b.a,0,b.by_⟩
def touchesB (bs:List Bond) (c:List Link) (p:Place):Bool:=c.any fun x=>bondedB bs x&&(eqPlace x.src p||eqPlace x.dst p)
def touchL (ads:List Admit) (bs:List Bond) (c:List Link):List Place:=(ads.filter fun a=>touchesB bs c a.place).map (·.place)
def moreL (mv:List Place) (p:Place):List Place:=sortPl (mv ++ [p])
noncomputable def prv (ts:List Trace) (bs:List Bond) (n:Int):Nat→List (List Link)→List Place→Option (List (List Link))
 | 0,_,_=>none
 | _+1,[],_=>none
 | f+1,c::rest,mv=>
   if c = [] then (if n≤costR (admitsOf ts) mv then some rest else none)
   else if contraV (linksL ts bs mv) (ptsM (placesOf ts bs) (placesOf ts bs).length) c=true then (touchL (admitsOf ts) bs c).foldl (fun o q=>o.bind fun r=>prv ts bs n f r (moreL mv q)) (some rest)
   else none
theorem ent_bd:∀ args w,(callFunc 216 args).run Tryz.prog w = .ok (.enter 216 args) w:=enters_of Tryz.func216 (by kernel_rfl) rfl
theorem predbd (x:Link) (bx:Nat) (w:World) (hlt:bx<w.heap.size) (h0:w.cell? ⟨bx,0,none⟩=some (.int .i64 x.src.pit)) (h1:w.cell? ⟨bx,1,none⟩=some (.int .i64 x.src.layer)) (h2:w.cell? ⟨bx,2,none⟩=some (.int .i64 x.dst.pit)) (h3:w.cell? ⟨bx,3,none⟩=some (.int .i64 x.dst.layer)) (h4:w.cell? ⟨bx,4,none⟩=some (.int .i64 x.most)) (h5:w.cell? ⟨bx,5,none⟩=some (.int .i64 x.by_)):
 PredB Tryz.prog 216 #[.pointer (some ⟨bx,0,none⟩)] (fun b=> .agg (encBond b).toArray) (fun b=>eqLink x ⟨b.a,b.b,0,b.by_⟩||eqLink x ⟨b.b,b.a,0,b.by_⟩) w:=by
 intro W b hb;have hzb:=hb.size;have c0:=(hb.cell (p:=⟨bx,0,none⟩) hlt).trans h0;have c1:=(hb.cell (p:=⟨bx,1,none⟩) hlt).trans h1;have c2:=(hb.cell (p:=⟨bx,2,none⟩) hlt).trans h2;have c3:=(hb.cell (p:=⟨bx,3,none⟩) hlt).trans h3;have c4:=(hb.cell (p:=⟨bx,4,none⟩) hlt).trans h4;have c5:=(hb.cell (p:=⟨bx,5,none⟩) hlt).trans h5;have hbx:bx<W.heap.size:=by omega
 simp only [encBond,List.append_toArray,List.cons_append,List.nil_append];clear h0 h1 h2 h3 h4 h5;have HB:=Lib.hid hb
 obtain ⟨w1,hw1⟩:∃ w1,W.alloc (.cells #[.int .i64 b.a.pit,.int .i64 b.a.layer,.int .i64 b.b.pit,.int .i64 b.b.layer,.int .i64 b.by_] 50)=w1:=⟨_,rfl⟩
 have hb1:Below W.heap.size W w1:=(by rw [←hw1];exact (Below.refl _ W).alloc (Nat.le_refl _) _)
 have hz1:w1.heap.size=W.heap.size+1:=(by rw [←hw1];simp)
 have hh1:w1.heap[W.heap.size]? = some (.cells #[.int .i64 b.a.pit,.int .i64 b.a.layer,.int .i64 b.b.pit,.int .i64 b.b.layer,.int .i64 b.by_] 50 (0,0)):=(by rw [←hw1];exact heap_alloc_new W _)
 have e0:w1.cell? ⟨W.heap.size,0,none⟩=some (.int .i64 b.a.pit):=(by simp [World.cell?,hh1])
 have e1:w1.cell? ⟨W.heap.size,1,none⟩=some (.int .i64 b.a.layer):=(by simp [World.cell?,hh1])
 have e2:w1.cell? ⟨W.heap.size,2,none⟩=some (.int .i64 b.b.pit):=(by simp [World.cell?,hh1])
 have e3:w1.cell? ⟨W.heap.size,3,none⟩=some (.int .i64 b.b.layer):=(by simp [World.cell?,hh1])
 have e4:w1.cell? ⟨W.heap.size,4,none⟩=some (.int .i64 b.by_):=(by simp [World.cell?,hh1])
 have d0:=(hb1.cell (p:=⟨bx,0,none⟩) hbx).trans c0;have d1:=(hb1.cell (p:=⟨bx,1,none⟩) hbx).trans c1;have d2:=(hb1.cell (p:=⟨bx,2,none⟩) hbx).trans c2;have d3:=(hb1.cell (p:=⟨bx,3,none⟩) hbx).trans c3;have d4:=(hb1.cell (p:=⟨bx,4,none⟩) hbx).trans c4;have d5:=(hb1.cell (p:=⟨bx,5,none⟩) hbx).trans c5;have n0:=World.new_ne w1 _ e0;have m0:=World.new_ne w1 _ d0;have HW1:=Lib.hid hw1;have HB1:=Lib.hid (hb.trans (hb1.mono hzb));clear c0 c1 c2 c3 c4 c5 hb hb1 hw1 hh1 HB;cases k1:eqLink ⟨⟨x.src.pit,x.src.layer⟩,⟨x.dst.pit,x.dst.layer⟩,x.most,x.by_⟩ ⟨⟨b.a.pit,b.a.layer⟩,⟨b.b.pit,b.b.layer⟩,0,b.by_⟩
 all_goals
  have K1:=Lib.hid k1;go_enter Tryz.func216,Tryz.ntmps216
  go_upto_region 1 with (rw [HW1.out])
  go_region_held3 (fun V=>V.cell? ⟨W.heap.size,0,none⟩=some (.int .i64 b.a.pit)∧V.cell? ⟨W.heap.size,1,none⟩=some (.int .i64 b.a.layer)∧V.cell? ⟨W.heap.size,2,none⟩=some (.int .i64 b.b.pit)∧V.cell? ⟨W.heap.size,3,none⟩=some (.int .i64 b.b.layer)∧V.cell? ⟨W.heap.size,4,none⟩=some (.int .i64 b.by_)) (go_keep) (fail)
 all_goals
  have q1:bx<W.heap.size+1:=(by omega)
  have q2:bx<W.heap.size+1+1:=(by omega)
  have q3:¬bx=W.heap.size+1:=(by omega)
  have q4:¬bx=W.heap.size+1+1:=(by omega)
  go_wp2;go_ret;refine ⟨retB ?_,(((HB1.out.alloc (by omega) _).alloc (by simp;omega) _).drew)⟩
 all_goals rfl
theorem ent_tc:∀ args w,(callFunc 173 args).run Tryz.prog w = .ok (.enter 173 args) w:=enters_of Tryz.func173 (by kernel_rfl) rfl
theorem bondedO_any (o:Nat) (bA:Option Addr) (bn bc:Nat) (bs:List Bond) (x:Link) (w:World) (hol:o<w.heap.size) (o1:w.cell? ⟨o,1,none⟩=some (.slice bA bn bc)) (hb:Rd encBond 5 w bA bn bc bs):
 Calls Tryz.prog 174 #[.pointer (some ⟨o,0,none⟩),.agg #[.int .i64 x.src.pit,.int .i64 x.src.layer,.int .i64 x.dst.pit,.int .i64 x.dst.layer,.int .i64 x.most,.int .i64 x.by_]] w fun e w'=>e = .returned (.bool (bondedB bs x))∧Below w.heap.size w w':=by
 obtain ⟨w1,hw1⟩:∃ w1,w.alloc (.cells #[.int .i64 x.src.pit,.int .i64 x.src.layer,.int .i64 x.dst.pit,.int .i64 x.dst.layer,.int .i64 x.most,.int .i64 x.by_] 74)=w1:=⟨_,rfl⟩
 have hb1:Below w.heap.size w w1:=(by rw [←hw1];exact (Below.refl _ w).alloc (Nat.le_refl _) _)
 have hz1:w1.heap.size=w.heap.size+1:=(by rw [←hw1];simp)
 have hh1:w1.heap[w.heap.size]? = some (.cells #[.int .i64 x.src.pit,.int .i64 x.src.layer,.int .i64 x.dst.pit,.int .i64 x.dst.layer,.int .i64 x.most,.int .i64 x.by_] 74 (0,0)):=(by rw [←hw1];exact heap_alloc_new w _)
 have c1:w1.cell? ⟨o,1,none⟩=some (.slice bA bn bc):=(hb1.cell (p:=⟨o,1,none⟩) hol).trans o1;have HCF:=Lib.hid (ContainsFunc_Bond 216 #[.pointer (some ⟨w.heap.size,0,none⟩)] ent_bd _ bA bn bc bs w1 (hb.below hb1 (Nat.le_refl _)) (predbd x w.heap.size w1 (by omega) (by simp [World.cell?,hh1]) (by simp [World.cell?,hh1]) (by simp [World.cell?,hh1]) (by simp [World.cell?,hh1]) (by simp [World.cell?,hh1]) (by simp [World.cell?,hh1])));have HW1:=Lib.hid hw1;have HB1:=Lib.hid hb1;clear hb hh1 hw1 hb1;go_enter Tryz.func174,Tryz.ntmps174
 go_wp2_with (first
  | rw [HW1.out]
  | (go_at_call 103;(with_reducible refine HCF.out.mono ?_);rintro e w2 ⟨rfl,hb2⟩;have HB2:=Lib.hid hb2;clear hb2))
 go_ret;exact ⟨rfl,HB1.out.trans (HB2.out.mono (by omega))⟩
theorem predtc (p:Place) (o bo ba:Nat) (bA:Option Addr) (bn bc:Nat) (bs:List Bond) (w:World) (hol:o<w.heap.size) (o1:w.cell? ⟨o,1,none⟩=some (.slice bA bn bc)) (hb:Rd encBond 5 w bA bn bc bs)
 (hlo:bo<w.heap.size) (co:w.cell? ⟨bo,0,none⟩=some (.pointer (some ⟨o,0,none⟩))) (hla:ba<w.heap.size) (ca:w.cell? ⟨ba,0,none⟩=some (.int .i64 p.pit)) (cb:w.cell? ⟨ba,1,none⟩=some (.int .i64 p.layer)):
 PredB Tryz.prog 173 #[.pointer (some ⟨bo,0,none⟩),.pointer (some ⟨ba,0,none⟩)] (fun x=> .agg (encLink x).toArray) (fun x=>bondedB bs x&&(eqPlace x.src p||eqPlace x.dst p)) w:=by
 intro W y hbW;have hzb:=hbW.size;simp only [encLink,List.append_toArray,List.cons_append,List.nil_append]
 obtain ⟨w1,hw1⟩:∃ w1,W.alloc (.cells #[.int .i64 y.src.pit,.int .i64 y.src.layer,.int .i64 y.dst.pit,.int .i64 y.dst.layer,.int .i64 y.most,.int .i64 y.by_] 74)=w1:=⟨_,rfl⟩
 have hb1:Below W.heap.size W w1:=(by rw [←hw1];exact (Below.refl _ W).alloc (Nat.le_refl _) _)
 have hz1:w1.heap.size=W.heap.size+1:=(by rw [←hw1];simp)
 have hh1:w1.heap[W.heap.size]? = some (.cells #[.int .i64 y.src.pit,.int .i64 y.src.layer,.int .i64 y.dst.pit,.int .i64 y.dst.layer,.int .i64 y.most,.int .i64 y.by_] 74 (0,0)):=(by rw [←hw1];exact heap_alloc_new W _)
 have hbw1:Below w.heap.size w w1:=hbW.trans (hb1.mono hzb);have HBD:=Lib.hid (bondedO_any o bA bn bc bs y w1 (by omega) ((hbw1.cell (p:=⟨o,1,none⟩) hol).trans o1) (hb.below hbw1 (Nat.le_refl _)))
 have CE:Hid (∀ V,Below w1.heap.size w1 V→V.cell? ⟨W.heap.size,0,none⟩=some (.int .i64 y.src.pit)∧V.cell? ⟨W.heap.size,1,none⟩=some (.int .i64 y.src.layer)∧V.cell? ⟨W.heap.size,2,none⟩=some (.int .i64 y.dst.pit)∧V.cell? ⟨W.heap.size,3,none⟩=some (.int .i64 y.dst.layer)∧V.cell? ⟨W.heap.size,4,none⟩=some (.int .i64 y.most)∧V.cell? ⟨W.heap.size,5,none⟩=some (.int .i64 y.by_)∧V.cell? ⟨ba,0,none⟩=some (.int .i64 p.pit)∧V.cell? ⟨ba,1,none⟩=some (.int .i64 p.layer)):=(show ∀ V,_→_ from fun V h=>by
  have h1:=(h.block W.heap.size (by omega)).trans hh1;have h2:=hbw1.trans (h.mono hbw1.size)
  exact ⟨by simp [World.cell?,h1],by simp [World.cell?,h1],by simp [World.cell?,h1],by simp [World.cell?,h1],by simp [World.cell?,h1],by simp [World.cell?,h1],(h2.cell (p:=⟨ba,0,none⟩) hla).trans ca,(h2.cell (p:=⟨ba,1,none⟩) hla).trans cb⟩)
 have dco:w1.cell? ⟨bo,0,none⟩=some (.pointer (some ⟨o,0,none⟩)):=(hbw1.cell (p:=⟨bo,0,none⟩) hlo).trans co;obtain ⟨y0,y1,y2,y3,y4,y5,_,_⟩:=CE.out w1 (Below.refl _ _);have HW1:=Lib.hid hw1;have HBW:=Lib.hid hbw1;have hp:(⟨p.pit,p.layer⟩:Place)=p:=rfl;have hs:(⟨y.src.pit,y.src.layer⟩:Place)=y.src:=rfl;have hd:(⟨y.dst.pit,y.dst.layer⟩:Place)=y.dst:=rfl;clear hb hh1 hw1 hb1 hbw1 hbW co ca cb o1 hp hs hd
 obtain ⟨r,hr⟩:∃ r,bondedB bs y=r:=⟨_,rfl⟩
 rw [hr] at HBD ⊢;clear hr;cases k1:eqPlace ⟨y.src.pit,y.src.layer⟩ ⟨p.pit,p.layer⟩<;>cases k2:eqPlace ⟨y.dst.pit,y.dst.layer⟩ ⟨p.pit,p.layer⟩<;>cases r
 all_goals
  have K1:=Lib.hid k1;have K2:=Lib.hid k2;go_enter Tryz.func173,Tryz.ntmps173
  go_wp2_with (first
   | rw [HW1.out]
   | (go_at_call 174;(with_reducible refine HBD.out.mono ?_);rintro e w2 ⟨rfl,hb2⟩;have HB2:=Lib.hid hb2;obtain ⟨z0,z1,z2,z3,z4,z5,z6,z7⟩:=CE.out w2 hb2;clear hb2))
  go_ret;refine ⟨retB ?_,HBW.out.trans (HB2.out.mono HBW.out.size)⟩
  rfl
theorem touchL_take {ads:List Admit} {bs:List Bond} {c:List Link} {k:Nat} {a:Admit} (h:ads[k]? = some a):touchL (ads.take (k+1)) bs c=touchL (ads.take k) bs c++(if touchesB bs c a.place then [a.place] else []):=by
 unfold touchL;rw [List.take_add_one,h,Option.toList_some,List.filter_append,List.map_append]
 congr 1
 by_cases ht:touchesB bs c a.place<;>simp [ht]
theorem touchL_len (ads:List Admit) (bs:List Bond) (c:List Link):(touchL ads bs c).length≤ads.length:=by
 unfold touchL;rw [List.length_map];exact List.length_filter_le _ _
theorem touched_any (o:Nat) (bA:Option Addr) (bn bc:Nat) (bs:List Bond) (Aa:Option Addr) (an ca:Nat) (ads:List Admit) (C:Option Addr) (cn cc:Nat) (c:List Link) (w:World) (hol:o<w.heap.size) (o1:w.cell? ⟨o,1,none⟩=some (.slice bA bn bc)) (o3:w.cell? ⟨o,3,none⟩=some (.slice Aa an ca)) (hb:Rd encBond 5 w bA bn bc bs) (ha:Rd encAdmit 4 w Aa an ca ads) (hc:Rd encLink 6 w C cn cc c) (han:an≤1000):
 Calls Tryz.prog 118 #[.pointer (some ⟨o,0,none⟩),.slice C cn cc] w fun e w'=> ∃ A' c',e = .returned (.slice A' (touchL ads bs c).length c')∧Own encPlace 2 37 w.heap.size w' A' (touchL ads bs c).length c' (touchL ads bs c)∧Below w.heap.size w w':=by
 obtain ⟨w1,hw1⟩:∃ w1,w.alloc (.cells #[.pointer (some ⟨o,0,none⟩)] 106)=w1:=⟨_,rfl⟩
 have hb1:Below w.heap.size w w1:=(by rw [←hw1];exact (Below.refl _ w).alloc (Nat.le_refl _) _)
 have hz1:w1.heap.size=w.heap.size+1:=(by rw [←hw1];simp)
 have hh1:w1.heap[w.heap.size]? = some (.cells #[.pointer (some ⟨o,0,none⟩)] 106 (0,0)):=(by rw [←hw1];exact heap_alloc_new w _)
 have FX:Hid (∀ W,Below w1.heap.size w1 W→Hid (W.cell? ⟨w.heap.size,0,none⟩=some (.pointer (some ⟨o,0,none⟩)))∧W.cell? ⟨o,1,none⟩=some (.slice bA bn bc)∧Rd encBond 5 W bA bn bc bs∧Rd encAdmit 4 W Aa an ca ads∧Rd encLink 6 W C cn cc c):=(show ∀ W,_→_ from fun W h=>by
  have h1:=(h.block w.heap.size (by omega)).trans hh1;have h2:=hb1.trans (h.mono hb1.size)
  exact ⟨(show _=_ by simp [World.cell?,h1]),(h2.cell (p:=⟨o,1,none⟩) hol).trans o1,hb.below h2 (Nat.le_refl _),ha.below h2 (Nat.le_refl _),hc.below h2 (Nat.le_refl _)⟩)
 have hx0:w1.cell? ⟨w.heap.size,0,none⟩=some (.pointer (some ⟨o,0,none⟩)):=by simp [World.cell?,hh1]
 have ho3:w1.cell? ⟨o,3,none⟩=some (.slice Aa an ca):=(hb1.cell (p:=⟨o,3,none⟩) hol).trans o3;have HW1:=Lib.hid hw1;have HB1:=Lib.hid hb1;have hal:=Lib.hid ha.len;clear hb ha hc hh1 hw1 hb1 o1 o3;go_enter Tryz.func118,Tryz.ntmps118;go_wp2_with (rw [HW1.out]);clear hx0 ho3;go_loopw [5,14] (fun s5 s14 wr=> ∃ (k:Nat) (A':Option Addr) (c':Nat) (xs:List Place),k≤an∧s14 = .int .i64 k∧s5 = .slice A' xs.length c'∧Hid (xs=touchL (ads.take k) bs c)∧xs.length≤k∧Hid (Below w1.heap.size w1 wr)∧Hid (Own encPlace 2 37 w1.heap.size wr A' xs.length c' xs)) (fun _ s14 _=>an-(intOf s14).toNat)
 case atStart=>exact ⟨0,none,0,[],Nat.zero_le _,rfl,rfl,(show _=_ from rfl),Nat.le_refl _,(show Below _ _ _ from Below.refl _ _),(show Own _ _ _ _ _ _ _ _ _ from Own.none_ _ _ _ _ _)⟩
 case round=>
  obtain ⟨k,A',c',xs,hk,rfl,rfl,hxs,hxl,hb,hO⟩:=hrel;have hzr:=hb.out.size;by_cases hlt:k<an
  · obtain ⟨f0,f1,f2,f3,f4⟩:=FX.out wr hb.out
    obtain ⟨b,off,x,rfl,hbw,hx,hcell⟩:=f3.one hlt;have c0:wr.cell? ⟨b,off+k * 4,none⟩=some (.int .i64 x.place.pit):=hcell 0 _ rfl;have c1:wr.cell? ⟨b,off+k * 4+1,none⟩=some (.int .i64 x.place.layer):=hcell 1 _ rfl;have c2:wr.cell? ⟨b,off+k * 4+2,none⟩=some (.int .i64 x.cost):=hcell 2 _ rfl;have c3:wr.cell? ⟨b,off+k * 4+3,none⟩=some (.int .i64 x.by_):=hcell 3 _ rfl;have HTK:=Lib.hid (touchL_take (bs:=bs) (c:=c) hx)
    obtain ⟨w2,hw2⟩:∃ w2,wr.alloc (.cells #[.int .i64 x.place.pit,.int .i64 x.place.layer,.int .i64 x.cost,.int .i64 x.by_] 96)=w2:=⟨_,rfl⟩
    have hbw2:Below wr.heap.size wr w2:=(by rw [←hw2];exact (Below.refl _ _).alloc (Nat.le_refl _) _)
    have hb2:Below w1.heap.size w1 w2:=hb.out.trans (hbw2.mono hzr)
    have hh2:w2.heap[wr.heap.size]? = some (.cells #[.int .i64 x.place.pit,.int .i64 x.place.layer,.int .i64 x.cost,.int .i64 x.by_] 96 (0,0)):=(by rw [←hw2];exact heap_alloc_new wr _)
    have hz2:wr.heap.size<w2.heap.size:=(by rw [←hw2];simp)
    obtain ⟨g0,g1,g2,g3,g4⟩:=FX.out w2 hb2;have HCF:=Lib.hid (ContainsFunc_Link 173 #[.pointer (some ⟨w.heap.size,0,none⟩),.pointer (some ⟨wr.heap.size,0,none⟩)] ent_tc _ C cn cc c w2 g4 (predtc x.place o w.heap.size wr.heap.size bA bn bc bs w2 (by omega) g1 g2 (by omega) g0.out hz2 (by simp [World.cell?,hh2]) (by simp [World.cell?,hh2])))
    have CE:Hid (∀ W,Below w2.heap.size w2 W→W.cell? ⟨wr.heap.size,0,none⟩=some (.int .i64 x.place.pit)∧W.cell? ⟨wr.heap.size,1,none⟩=some (.int .i64 x.place.layer)):=(show ∀ W,_→_ from fun W h=>by
     have:=(h.block wr.heap.size hz2).trans hh2
     exact ⟨by simp [World.cell?,this],by simp [World.cell?,this]⟩)
    have HB2:=Lib.hid hb2;have HBR:=Lib.hid hbw2;have HW2:=Lib.hid hw2;clear hcell hx f0 f1 f2 f3 f4 g0 g1 g2 g3 g4 hb2 hbw2 hh2 hw2;cases ht:touchesB bs c x.place
    all_goals
     rw [ht] at HTK;rw [show c.any (fun y=>bondedB bs y&&(eqPlace y.src x.place||eqPlace y.dst x.place))=_ from ht] at HCF;clear ht
    case false=>
     go_wp2_with (first
      | rw [HW2.out]
      | (go_at_call 172;(with_reducible refine HCF.out.mono ?_);rintro e w3 ⟨rfl,hb3⟩;have HB3:=Lib.hid hb3;clear hb3))
     go_roundw
     all_goals first
      | (simp [intOf];omega)
      | exact ⟨k+1,A',c',xs,by omega,by go_num,rfl,(show _=_ by rw [HTK.out,←hxs.out];simp),by omega,(show Below _ _ _ from HB2.out.trans (HB3.out.mono HB2.out.size)),(show Own _ _ _ _ _ _ _ _ _ from (hO.out.below HBR.out (Nat.le_refl _)).below HB3.out (Nat.le_refl _))⟩
    case true=>
     go_wp2_with (first
      | rw [HW2.out]
      | (go_at_call 172;(with_reducible refine HCF.out.mono ?_);rintro e w3 ⟨rfl,hb3⟩
         have HB3:=Lib.hid (HB2.out.trans (hb3.mono HB2.out.size));have hs3:=HB3.out.size;obtain ⟨e0,e1⟩:=CE.out w3 hb3;have hO5:=((hO.out.below HBR.out (Nat.le_refl _)).below hb3 (Nat.le_refl _)).alloc (.cells #[.int .i64 x.place.pit,.int .i64 x.place.layer] 37);have hrd5:=Rd.single (enc:=encPlace) (k:=2) w3 #[.int .i64 x.place.pit,.int .i64 x.place.layer] 37 [x.place] 1 rfl (by omega) (fun _=>rfl) (by simp [encPlace])
         clear hb3)
      | (at_builtin;refine wpList_append_src elPlace (fun _=>rfl) onePlace rfl _ _ rfl _ _ _ _ rfl rfl hO5 hrd5 (by omega) (by decide) (by simp;omega) ?_;intro A9 c9 w9 hO9 hg9 hA9
         have HB9:=Lib.hid ((HB3.out.alloc hs3 (.cells #[.int .i64 x.place.pit,.int .i64 x.place.layer] 37)).grown hg9 (by simp;omega) (fun j e=>hO5.ltB j e));have HO9:=Lib.hid hO9
         clear hO9 hg9 hA9))
     go_roundw
     all_goals first
      | (simp [intOf];omega)
      | exact ⟨k+1,A9,c9,xs ++ [x.place],by omega,by go_num,by rw [List.length_append];rfl,(show _=_ by rw [HTK.out,←hxs.out];simp),by rw [List.length_append];simp;omega,HB9,(show Own _ _ _ _ _ _ _ _ _ by rw [List.length_append];exact HO9.out)⟩
  · have hkn:k=an:=by omega
    subst hkn;have h1:=hxs.out;rw [List.take_of_length_le (by rw [hal.out];exact Nat.le_refl _)] at h1;have H1:=Lib.hid h1;clear h1 hxs;go_wp2;go_ret;refine ⟨A',c',by rw [←H1.out];rfl,?_,HB1.out.trans (hb.out.mono (by omega))⟩;rw [←H1.out];exact hO.out.mono (by omega)
theorem more_any (A:Option Addr) (n c:Nat) (mv:List Place) (p:Place) (w:World) (hl:Rd encPlace 2 w A n c mv) (hn:n≤900000):
 Calls Tryz.prog 119 #[.slice A n c,.agg #[.int .i64 p.pit,.int .i64 p.layer]] w fun e w'=> ∃ A' c',e = .returned (.slice A' (n+1) c')∧Own encPlace 2 37 w.heap.size w' A' (n+1) c' (moreL mv p)∧Below w.heap.size w w':=by
 obtain ⟨w1,hw1⟩:∃ w1,w.alloc (.cells #[.int .i64 p.pit,.int .i64 p.layer] 37)=w1:=⟨_,rfl⟩
 have hb1:Below w.heap.size w w1:=(by rw [←hw1];exact (Below.refl _ w).alloc (Nat.le_refl _) _)
 have hz1:w1.heap.size=w.heap.size+1:=(by rw [←hw1];simp)
 have hh1:w1.heap[w.heap.size]? = some (.cells #[.int .i64 p.pit,.int .i64 p.layer] 37 (0,0)):=(by rw [←hw1];exact heap_alloc_new w _)
 have CE:Hid (∀ W,Below w1.heap.size w1 W→Hid (Below w1.heap.size w1 W)∧W.cell? ⟨w.heap.size,0,none⟩=some (.int .i64 p.pit)∧W.cell? ⟨w.heap.size,1,none⟩=some (.int .i64 p.layer)):=(show ∀ W,_→_ from fun W h=>by
  have:=(h.block w.heap.size (by omega)).trans hh1
  exact ⟨h,by simp [World.cell?,this],by simp [World.cell?,this]⟩)
 have HCL:=Lib.hid (fun W (h:Below w1.heap.size w1 W)=>Clone_Place A n c mv W (hl.below (hb1.trans (h.mono hb1.size)) (Nat.le_refl _)) (by omega));have HW1:=Lib.hid hw1;have HB1:=Lib.hid hb1;have HRF:=Lib.hid (Below.refl w1.heap.size w1);obtain ⟨_,x0,x1⟩:=CE.out w1 HRF.out;have HRD:=Lib.hid HRF.out.drew;have HAL:=Lib.hid ((HRF.out.alloc (Nat.le_refl _) (.cells #[.int .i64 p.pit,.int .i64 p.layer] 37)).drew);have HR1:=Lib.hid ((Rd.single (enc:=encPlace) (k:=2) w1 #[.int .i64 p.pit,.int .i64 p.layer] 37 [p] 1 rfl (by omega) (fun _=>rfl) (by simp [encPlace])).drew);have HZ1:=Lib.hid hz1;clear hl hh1 hw1 hb1 hz1;go_enter Tryz.func119,Tryz.ntmps119
 go_upto_region 1 with (rw [HW1.out])
 go_region_held3 (fun W=>Hid (Below w1.heap.size w1 W)∧W.cell? ⟨w.heap.size,0,none⟩=some (.int .i64 p.pit)∧W.cell? ⟨w.heap.size,1,none⟩=some (.int .i64 p.layer))
  (first|exact CE.out _ HB8.out|exact CE.out _ HB3.out|exact CE.out _ HB2.out|exact CE.out _ HAL.out|exact CE.out _ HRD.out|exact CE.out _ HRF.out)
  (first
    | (go_at_call 175;(with_reducible refine (HCL.out w1.drew HRD.out).mono ?_);rintro e w2 ⟨A2,c2,rfl,hO2,hb2⟩
       have HB2:=Lib.hid (HRD.out.trans (hb2.mono (by simp)));have hs2:=HB2.out.size;have HB3:=Lib.hid (HB2.out.alloc hs2 (.cells #[.int .i64 p.pit,.int .i64 p.layer] 37));have HE:=Lib.hid ((hO2.mono (B':=w1.heap.size) (by simp)).alloc (.cells #[.int .i64 p.pit,.int .i64 p.layer] 37));have HR:=Lib.hid (Rd.single (enc:=encPlace) (k:=2) w2 #[.int .i64 p.pit,.int .i64 p.layer] 37 [p] 1 rfl (by omega) (fun _=>rfl) (by simp [encPlace]))
       clear hO2 hb2)
    | (go_at_call 175;(with_reducible refine (HCL.out (w1.alloc (.cells #[.int .i64 p.pit,.int .i64 p.layer] 37)).drew HAL.out).mono ?_);rintro e w2 ⟨A2,c2,rfl,hO2,hb2⟩
       have HB3:=Lib.hid (HAL.out.trans (hb2.mono (by simp)));have HE:=Lib.hid (hO2.mono (B':=w1.heap.size) (by simp));have HR:=Lib.hid (HR1.out.below hb2 (Nat.le_refl _))
       clear hO2 hb2)
    | (refine step_append_src elPlace (fun _=>rfl) onePlace rfl (.tmp 7) (.tmp 9) rfl _ _ _ _ rfl rfl HE.out HR.out (by omega) (by decide) HB3.out.size ?_;intro A8 c8 w8 hO8 hg8 hA8
       have HB8:=Lib.hid (HB3.out.grown hg8 HB3.out.size (fun j e=>HE.out.ltB j e));have HO8:=Lib.hid hO8
       clear hO8 hg8 hA8))
 all_goals
  have hz8:=HB8.out.size
  go_wp2_with (go_at_call 176;(with_reducible refine (SortFunc_Place w1.heap.size A8 (n+1) c8 (mv ++ [p]) w8 HO8.out (by omega)).mono ?_);rintro e w9 ⟨rfl,hO9,hg9⟩
               have HB9:=Lib.hid (HB8.out.grown hg9 hz8 (fun j e=>HO8.out.ltB j e));have HO9:=Lib.hid hO9
               clear hO9 hg9)
  go_ret;exact ⟨A8,c8,rfl,HO9.out.mono HB1.out.size,HB1.out.trans (HB9.out.mono HB1.out.size)⟩
theorem costR_take {ads:List Admit} {mv:List Place} {k:Nat} {x:Admit} (h:ads[k]? = some x):costR (ads.take (k+1)) mv=costStepR mv (costR (ads.take k) mv) x:=by
 unfold costR;rw [List.take_add_one,h,Option.toList_some,List.foldl_append];rfl
theorem costR_bound {ads:List Admit} {mv:List Place} (h:∀ x∈ads,0≤x.cost∧x.cost≤1000):∀ k,0≤costR (ads.take k) mv∧costR (ads.take k) mv≤1000 * k
 | 0=>by simp [costR]
 | k+1=>by
   have ih:=costR_bound (mv:=mv) h k
   cases hx:ads[k]? with
   | none=>
     have hk:ads.length≤k:=List.getElem?_eq_none_iff.1 hx;rw [List.take_of_length_le (by omega)] at ih ⊢;omega
   | some x=>
     have hx2:=h x (List.mem_of_getElem? hx);rw [costR_take hx];unfold costStepR
     split<;>omega
theorem cost_any (Aa:Option Addr) (an ca:Nat) (ads:List Admit) (M:Option Addr) (mn mc:Nat) (mv:List Place) (w:World) (ha:Rd encAdmit 4 w Aa an ca ads) (hm:Rd encPlace 2 w M mn mc mv) (hc:∀ x∈ads,0≤x.cost∧x.cost≤1000) (han:an≤1000):
 Calls Tryz.prog 117 #[.agg #[.slice Aa an ca],.slice M mn mc] w fun e w'=>e = .returned (.int .i64 (costR ads mv))∧Below w.heap.size w w':=by
 have HA:=Lib.hid ha;have HM:=Lib.hid hm;have hal:=Lib.hid ha.len;have HC:=Lib.hid hc;clear ha hm hc;go_enter Tryz.func117,Tryz.ntmps117;go_wp2_with (fail);go_loopw [5,11] (fun s5 s11 wr=> ∃ k:Nat,k≤an∧s11 = .int .i64 k∧s5 = .int .i64 (costR (ads.take k) mv)∧Hid (Below w.heap.size w wr)) (fun _ s11 _=>an-(intOf s11).toNat)
 case atStart=>exact ⟨0,Nat.zero_le _,rfl,rfl,(show Below _ _ _ from (Below.refl _ w).alloc (Nat.le_refl _) _)⟩
 case round=>
  obtain ⟨k,hk,rfl,rfl,hb⟩:=hrel;have hzr:=hb.out.size;have hcb:=costR_bound (mv:=mv) HC.out k;by_cases hlt:k<an
  · obtain ⟨b,off,x,rfl,hbw,hx,hcell⟩:=(HA.out.below hb.out (Nat.le_refl _)).one hlt
    have c0:wr.cell? ⟨b,off+k * 4,none⟩=some (.int .i64 x.place.pit):=hcell 0 _ rfl;have c1:wr.cell? ⟨b,off+k * 4+1,none⟩=some (.int .i64 x.place.layer):=hcell 1 _ rfl;have c2:wr.cell? ⟨b,off+k * 4+2,none⟩=some (.int .i64 x.cost):=hcell 2 _ rfl;have c3:wr.cell? ⟨b,off+k * 4+3,none⟩=some (.int .i64 x.by_):=hcell 3 _ rfl;have hxc:=HC.out x (List.mem_of_getElem? hx);have HTK:=Lib.hid (costR_take (mv:=mv) hx)
    obtain ⟨w2,hw2⟩:∃ w2,wr.alloc (.cells #[.int .i64 x.place.pit,.int .i64 x.place.layer,.int .i64 x.cost,.int .i64 x.by_] 96)=w2:=⟨_,rfl⟩
    have hb2:Below w.heap.size w w2:=(by rw [←hw2];exact hb.out.alloc hzr _)
    have hh2:w2.heap[wr.heap.size]? = some (.cells #[.int .i64 x.place.pit,.int .i64 x.place.layer,.int .i64 x.cost,.int .i64 x.by_] 96 (0,0)):=(by rw [←hw2];exact heap_alloc_new wr _)
    have hz2:wr.heap.size<w2.heap.size:=(by rw [←hw2];simp)
    have HCT:=Lib.hid (Contains_Place M mn mc mv x.place w2 (HM.out.below hb2 (Nat.le_refl _)));have HB2:=Lib.hid hb2;have HW2:=Lib.hid hw2
    have CE:Hid (∀ W,Below w2.heap.size w2 W→W.cell? ⟨wr.heap.size,2,none⟩=some (.int .i64 x.cost)):=(show ∀ W,_→_ from fun W h=>by
     have:=(h.block wr.heap.size hz2).trans hh2
     simp [World.cell?,this])
    have d0:w2.cell? ⟨wr.heap.size,0,none⟩=some (.int .i64 x.place.pit):=(by simp [World.cell?,hh2])
    have d1:w2.cell? ⟨wr.heap.size,1,none⟩=some (.int .i64 x.place.layer):=(by simp [World.cell?,hh2])
    obtain ⟨s,hs⟩:∃ s,costR (ads.take k) mv=s:=⟨_,rfl⟩
    rw [hs] at hcb HTK ⊢
    have hwr:IntKind.i64.wrap (s+x.cost)=s+x.cost:=(by rw [IntKind.wrap_i64];omega)
    clear hcell hx hb2 hw2 hh2 hs;cases hh:hasPl mv x.place
    all_goals
     have HST:Hid (costStepR mv s x=if hasPl mv x.place then s+x.cost else s):=(show _=_ from rfl)
     rw [hh] at HST;rw [show mv.any (fun y=>eqPlace x.place y)=_ from hh] at HCT
     go_wp2_with (first
      | rw [HW2.out]
      | (go_at_call 171;(with_reducible refine HCT.out.mono ?_);rintro e w3 ⟨rfl,hb3⟩;have e2:=CE.out w3 hb3;have hz3:=hb3.size;have HB3:=Lib.hid (HB2.out.trans (hb3.mono HB2.out.size));clear hb3))
     go_roundw
     all_goals first
      | (simp [intOf];omega)
      | exact ⟨k+1,by omega,by go_num,by rw [HTK.out,HST.out];(try simp);(try exact hwr),HB3⟩
      | trace_state
  · have hkn:k=an:=by omega
    subst hkn;rw [List.take_of_length_le (by rw [hal.out];exact Nat.le_refl _)];go_wp2;go_ret;exact ⟨rfl,hb.out⟩
structure PrvX where
 b1:Nat
 b2:Nat
 b3:Nat
 b4:Nat
 b5:Nat
 b6:Nat
 o:Nat
 At:Option Addr
 ct:Nat
 bA:Option Addr
 bn:Nat
 bc:Nat
 Ap:Option Addr
 cp:Nat
 Aa:Option Addr
 ca:Nat
 pA:Option Addr
 pn:Nat
 pc:Nat
 n:Int
 ts:List Trace
 bs:List Bond
 hd:List Hdr
 cuts:List (List Link)
def PrvX.caps (X:PrvX):Array Value:=#[.pointer (some ⟨X.b1,0,none⟩),.pointer (some ⟨X.b2,0,none⟩),.pointer (some ⟨X.b3,0,none⟩),.pointer (some ⟨X.b4,0,none⟩),.pointer (some ⟨X.b5,0,none⟩),.pointer (some ⟨X.b6,0,none⟩)]
structure PrvAt (X:PrvX) (W:World):Prop where
 c1:W.cell? ⟨X.b1,0,none⟩=some (.func (.func 169) #[] #[])
 c3:W.cell? ⟨X.b3,0,none⟩=some (.slice X.pA X.pn X.pc)
 c4:W.cell? ⟨X.b4,0,none⟩=some (.pointer (some ⟨X.o,0,none⟩))
 c5:W.cell? ⟨X.b5,0,none⟩=some (.int .i64 X.n)
 c6:W.cell? ⟨X.b6,0,none⟩=some (.func (.func 170) #[] X.caps)
 o0:W.cell? ⟨X.o,0,none⟩=some (.slice X.At X.ts.length X.ct)
 o1:W.cell? ⟨X.o,1,none⟩=some (.slice X.bA X.bn X.bc)
 o2:W.cell? ⟨X.o,2,none⟩=some (.slice X.Ap (placesOf X.ts X.bs).length X.cp)
 o3:W.cell? ⟨X.o,3,none⟩=some (.slice X.Aa (admitsOf X.ts).length X.ca)
 rt:Rd encTrace 10 W X.At X.ts.length X.ct X.ts
 rb:Rd encBond 5 W X.bA X.bn X.bc X.bs
 rp:Rd encPlace 2 W X.Ap (placesOf X.ts X.bs).length X.cp (placesOf X.ts X.bs)
 ra:Rd encAdmit 4 W X.Aa (admitsOf X.ts).length X.ca (admitsOf X.ts)
 rh:Rd encHdr 1 W X.pA X.pn X.pc X.hd
 rc:∀ (k:Nat) (h:Hdr),X.hd[k]? = some h→∃ c,X.cuts[k]? = some c∧Rd encLink 6 W h.A h.n h.c c
def WalkQ (X:PrvX) (f k:Nat) (mv:List Place) (W:World) (e:Ending) (W':World):Prop:=
 GrownT (fun b=>b=X.b2) W W'∧((∃ k',prv X.ts X.bs X.n f (X.cuts.drop k) mv=some (X.cuts.drop k')∧k<k'∧k'≤X.pn∧e = .returned (.tuple #[])∧W'.heap[X.b2]? = some (.cells #[.int .i64 k'] 3 (0,0)))∨
  (prv X.ts X.bs X.n f (X.cuts.drop k) mv=none∧e = .panicked [noProof]))
theorem rd_T {α:Type} {enc:α→List Value} {k n c b:Nat} {A:Option Addr} {xs:List α} {W W':World} {v:Value} {t:TypeId} {fr:Nat×Nat} (hk2:2≤k) (hlen:∀ x,(enc x).length=k) (h:Rd enc k W A n c xs) (hb:W.heap[b]? = some (.cells #[v] t fr)) (hg:GrownT (fun q=>q=b) W W'):Rd enc k W' A n c xs:=
 ⟨h.len,h.big,h.cap,fun hn=>by
   obtain ⟨b',off,e,hlt,hc⟩:=h.at_ hn
   have hne:b'≠b:=fun e'=>by
    subst e';have hx:xs[0]? = some (xs[0]'(by rw [h.len];exact hn)):=List.getElem?_eq_getElem _;have hl:1<(enc (xs[0]'(by rw [h.len];exact hn))).length:=by rw [hlen];omega
    have h1:=hc 0 _ hx 1 _ (List.getElem?_eq_getElem hl);simp [World.cell?,hb] at h1
   exact ⟨b',off,e,Nat.lt_of_lt_of_le hlt hg.size,fun i x hx j u hu=>(hg.cell hlt hne).trans (hc i x hx j u hu)⟩⟩
theorem fold_none {α β:Type} (g:α→β→Option α):∀ l:List β,l.foldl (fun o q=>o.bind fun r=>g r q) none=none
 | []=>rfl
 | _::l=>fold_none g l
theorem walk_any (X:PrvX) (W0:World) (hO:OkO X.ts X.bs) (hts:∀ x∈X.ts,okLT x) (hcost:∀ x∈admitsOf X.ts,0≤x.cost∧x.cost≤1000) (han:(admitsOf X.ts).length≤1000) (hpn:X.pn≤200000) (hcl:X.cuts.length=X.pn) (hcb:∀ h∈X.hd,h.n≤1000000) (hb2:X.b2<W0.heap.size)
 (ENV:∀ W,GrownT (fun b=>b=X.b2) W0 W→PrvAt X W):∀ (f k:Nat) (mv:List Place) (M:Option Addr) (mn mc:Nat) (W:World),GrownT (fun b=>b=X.b2) W0 W→W.heap[X.b2]? = some (.cells #[.int .i64 k] 3 (0,0))→Rd encPlace 2 W M mn mc mv→mn≤k→k≤X.pn→X.pn-k<f→
   Calls Tryz.prog 170 #[.slice M mn mc,.pointer (some ⟨X.b1,0,none⟩),.pointer (some ⟨X.b2,0,none⟩),.pointer (some ⟨X.b3,0,none⟩),.pointer (some ⟨X.b4,0,none⟩),.pointer (some ⟨X.b5,0,none⟩),.pointer (some ⟨X.b6,0,none⟩)] W (WalkQ X f k mv W)
 | 0,k,mv,M,mn,mc,W,_,_,_,_,_,h=>by omega
 | f+1,k,mv,M,mn,mc,W,hg,hat,hm,hmk,hkp,hf=>by
   have IH:=Lib.hid (walk_any X W0 hO hts hcost han hpn hcl hcb hb2 ENV f);have HE:=Lib.hid ENV;have E0:=ENV W hg;have hz0:=hg.size
   have c2:W.cell? ⟨X.b2,0,none⟩=some (.int .i64 k):=(by simp [World.cell?,hat])
   have c1:=E0.c1;have c3:=E0.c3;have eg:=ent_need;have NY:=need_yes;have NN:=need_no;by_cases hk:k<X.pn
   case neg=>
    have hke:k=X.pn:=by omega
    have hd:decide ((k:Int)<(X.pn:Int))=false:=decide_eq_false (by omega)
    have HNONE:Hid (prv X.ts X.bs X.n (f+1) (X.cuts.drop k) mv=none):=(show _=_ by rw [List.drop_of_length_le (by omega)];simp [prv])
    have HG:=Lib.hid hg;clear hg hat hm ENV E0 hke;go_enter Tryz.func170,Tryz.ntmps170;go_wp2_with (go_at_fn 169;refine (NN _).mono ?_;rintro e W' ⟨rfl,rfl⟩);exact ⟨rfl,GrownT.refl _ _,.inr ⟨HNONE.out,rfl⟩⟩
   case pos=>
    have hd:decide ((k:Int)<(X.pn:Int))=true:=decide_eq_true (by omega);obtain ⟨bp,op,h,hpA,hbpw,hh,hch⟩:=E0.rh.one hk
    have hch0:W.cell? ⟨bp,op+k,none⟩=some (.slice h.A h.n h.c):=(by have:=hch 0 (hdrV h) rfl;rw [Nat.mul_one,Nat.add_zero] at this;exact this)
    obtain ⟨c,hcut,hrc⟩:=E0.rc k h hh
    have hdrop:X.cuts.drop k=c::X.cuts.drop (k+1):=(by
     rw [List.getElem?_eq_some_iff] at hcut;obtain ⟨hlt,e⟩:=hcut
     rw [←e];exact List.drop_eq_getElem_cons hlt)
    have HDR:=Lib.hid hdrop;have hhn:=hcb h (List.mem_of_getElem? hh);have hcn:=hrc.len
    have hf0:W.frozen? ⟨X.b2,0,none⟩=false:=(by simp [World.frozen?,hat])
    have hwr:IntKind.i64.wrap ((k:Int)+1)=(k:Int)+1:=(by rw [IntKind.wrap_i64];omega)
    obtain ⟨W2,hW2⟩:∃ W2,W.setCell ⟨X.b2,0,none⟩ (.int .i64 ((k:Int)+1))=W2:=⟨_,rfl⟩
    have hg2:GrownT (fun b=>b=X.b2) W W2:=(by
     rw [←hW2]
     exact ⟨rfl,rfl,rfl,by simp,fun j _ hj=>Below.heap_setCell _ _ _ j hj⟩)
    have hat2:W2.heap[X.b2]? = some (.cells #[.int .i64 ((k+1:Nat):Int)] 3 (0,0)):=(by rw [←hW2];exact (heap_setCell_obj hat).trans rfl)
    have HW2:=Lib.hid hW2;have HG2:=Lib.hid hg2;have HAT2:=Lib.hid hat2;have HG02:=Lib.hid (hg.trans hg2);have HH:=Lib.hid hh;have HM2:=Lib.hid (rd_T (k:=2) (by decide) (fun _=>rfl) hm hat hg2);have HCUT:=Lib.hid hcut
    have KE:Hid (∀ V,Below W2.heap.size W2 V→PrvAt X V):=(show ∀ V,_→_ from fun V hv=>HE.out V (HG02.out.of_below hv HG02.out.size))
    have KB:Hid (∀ V,Below W2.heap.size W2 V→Rd encPlace 2 V M mn mc mv∧GrownT (fun b=>b=X.b2) W V∧V.heap[X.b2]? = some (.cells #[.int .i64 ((k+1:Nat):Int)] 3 (0,0))):=(show ∀ V,_→_ from fun V hv=>
     ⟨HM2.out.below hv (Nat.le_refl _),HG2.out.of_below hv HG2.out.size,(hv.block X.b2 (by have:=HG02.out.size;omega)).trans HAT2.out⟩)
    have KC:Hid (∀ V,Below W2.heap.size W2 V→Rd encLink 6 V h.A h.n h.c c):=(show ∀ V,_→_ from fun V hv=>by
     obtain ⟨c',h1,h2⟩:=(KE.out V hv).rc k h HH.out;rw [HCUT.out] at h1;cases h1
     exact h2)
    have HCO:=Lib.hid hcost;have HTS:=Lib.hid hts;clear hat hm ENV E0 hch hcut hrc hh hdrop hg2 hat2 hW2 hg hcost hts;by_cases hc0:c = []
    case pos=>
     have hn0:h.n=0:=(by rw [←hcn,hc0];rfl)
     have hn1:((h.n:Int)==0)=true:=(by rw [hn0];rfl)
     obtain ⟨r,hr⟩:∃ r,decide (costR (admitsOf X.ts) mv≥X.n)=r:=⟨_,rfl⟩
     have HPV:Hid (prv X.ts X.bs X.n (f+1) (X.cuts.drop k) mv=if r=true then some (X.cuts.drop (k+1)) else none):=(show _=_ by
      rw [HDR.out,prv,if_pos hc0];cases r
      · rw [if_neg (of_decide_eq_false hr)];rfl
      · rw [if_pos (of_decide_eq_true hr)];rfl)
     have HR:=Lib.hid hr;clear hc0 hn0 hcn hr;go_enter Tryz.func170,Tryz.ntmps170
     go_upto_region 4 with (first
      | rw [HW2.out]
      | (go_at_fn 169;refine (NY _).mono ?_;rintro e W' ⟨rfl,rfl⟩))
     refine prv4 _ rfl X.b1 X.b4 X.b5 X.o M mn mc X.Aa (admitsOf X.ts).length X.ca X.n (costR (admitsOf X.ts) mv) r _ W2 _ rfl rfl rfl rfl rfl (fun V hv=>⟨(KE.out V hv).c1,(KE.out V hv).c4,(KE.out V hv).c5,(KE.out V hv).o3⟩) (fun V hv=>cost_any X.Aa (admitsOf X.ts).length X.ca (admitsOf X.ts) M mn mc mv V (KE.out V hv).ra (KB.out V hv).1 HCO.out han) HR.out ?_ ?_
     · intro ps b V hb hp
       obtain ⟨rfl,hbv,hrf⟩:=hp;exact ⟨hb,(KB.out V hbv).2.1,.inr ⟨by rw [HPV.out,hrf];rfl,rfl⟩⟩
     · intro W4 hb4 hrt
       have HB4:=Lib.hid hb4
       have HPT:Hid (prv X.ts X.bs X.n (f+1) (X.cuts.drop k) mv=some (X.cuts.drop (k+1))):=(show _=_ by rw [HPV.out,hrt];rfl)
       clear hb4 hrt;simp only [setsL,Tprv4,Nat.reduceAdd,List.setIfInBounds_toArray,List.set_cons_succ,List.set_cons_zero];go_wp2;refine bodyPost_ret (results_none rfl _ _ _) rfl ?_;have hz:=HB4.out.size;exact ⟨(KB.out _ HB4.out).2.1,.inl ⟨k+1,HPT.out,by omega,by omega,rfl,(KB.out _ HB4.out).2.2⟩⟩
    case neg=>
     have hn1:((h.n:Int)==0)=false:=(by
      have:h.n≠0:=fun e=>hc0 (List.eq_nil_of_length_eq_zero (by omega))
      simpa using this)
     obtain ⟨r,hr⟩:∃ r,contraV (linksL X.ts X.bs mv) (ptsM (placesOf X.ts X.bs) (placesOf X.ts X.bs).length) c=r:=⟨_,rfl⟩
     obtain ⟨tl,htl⟩:∃ tl,touchL (admitsOf X.ts) X.bs c=tl:=⟨_,rfl⟩
     have HPV:Hid (prv X.ts X.bs X.n (f+1) (X.cuts.drop k) mv=if r=true then tl.foldl (fun o q=>o.bind fun r=>prv X.ts X.bs X.n f r (moreL mv q)) (some (X.cuts.drop (k+1))) else none):=(show _=_ by
      rw [HDR.out,prv,if_neg hc0,hr,htl])
     have htl2:=touchL_len (admitsOf X.ts) X.bs c;rw [htl] at htl2;have hll:=linksL_len X.ts X.bs mv;have htn:=hO.tn;have hbn:=hO.bn;have hck:=Lib.hid (checkSys_years hO mv)
     have HCY:Hid (∀ V,Below W2.heap.size W2 V→Calls Tryz.prog 75 #[.pointer (some ⟨X.o,0,none⟩),.slice M mn mc] V fun e w'=> ∃ Ab cb Al cl mb,e = .returned (.agg #[.int .i64 ((placesOf X.ts X.bs).length+1),.slice Ab (linksL X.ts X.bs mv).length cb,.slice Al (linksL X.ts X.bs mv).length cl,.map (some mb)])∧Below V.heap.size V w'∧Rd encBound 4 w' Ab (linksL X.ts X.bs mv).length cb ((linksL X.ts X.bs mv).map (boundOf (ptsM (placesOf X.ts X.bs) (placesOf X.ts X.bs).length)))∧Rd encLink 6 w' Al (linksL X.ts X.bs mv).length cl (linksL X.ts X.bs mv)):=
      (show ∀ V,_→_ from fun V hv=>by
        have E:=KE.out V hv;have hbl:=E.rb.len;refine (years_any X.o X.At X.ts.length X.ct X.bA X.bn X.bc X.Ap (placesOf X.ts X.bs).length X.cp M mn mc X.ts X.bs (placesOf X.ts X.bs) mv V E.o0 E.o1 E.o2 E.rt E.rb E.rp (KB.out V hv).1 HTS.out (by omega) (by omega)).mono ?_;rintro e w' ⟨Ab,cb,Al,cl,mb,rfl,hb',hOb,hOl,_,_⟩
        exact ⟨Ab,cb,Al,cl,mb,rfl,hb',hOb.rd (fun _=>rfl) (by omega),hOl.rd (fun _=>rfl) (by omega)⟩)
     have HR:=Lib.hid hr;have HTL:=Lib.hid htl;have HHCN:=Lib.hid hcn;clear hc0 hcn hr htl htn hbn hll;go_enter Tryz.func170,Tryz.ntmps170
     go_upto_region 5 with (first
      | rw [HW2.out]
      | (go_at_fn 169;refine (NY _).mono ?_;rintro e W' ⟨rfl,rfl⟩))
     refine prv5 _ rfl X.b1 X.b4 X.o M mn mc h.A h.n h.c (placesOf X.ts X.bs).length (linksL X.ts X.bs mv) ((linksL X.ts X.bs mv).map (boundOf (ptsM (placesOf X.ts X.bs) (placesOf X.ts X.bs).length))) r _ W2 _ rfl rfl rfl rfl rfl (fun V hv=>⟨(KE.out V hv).c1,(KE.out V hv).c4⟩) HCY.out (fun V Ab cb Al cl mb hv h1 h2=>by rw [←HR.out];exact contradicts_any _ _ Ab cb Al cl mb _ h.A h.n h.c c V h1 h2 (KC.out V hv) hck.out hhn) ?_ ?_
     · intro ps b V hb hp
       obtain ⟨rfl,hbv,hrf⟩:=hp;exact ⟨hb,(KB.out V hbv).2.1,.inr ⟨by rw [HPV.out,hrf];rfl,rfl⟩⟩
     · intro v5 u5 W5 hb5 hrt
       have HPT:Hid (prv X.ts X.bs X.n (f+1) (X.cuts.drop k) mv=tl.foldl (fun o q=>o.bind fun r=>prv X.ts X.bs X.n f r (moreL mv q)) (some (X.cuts.drop (k+1)))):=(show _=_ by rw [HPV.out,if_pos hrt])
       have HB5:=Lib.hid hb5;have E5:=KE.out W5 hb5;have c45:=E5.c4;have hol:X.o<W5.heap.size:=block_lt_of_cell E5.o0;have HTC:=Lib.hid (touched_any X.o X.bA X.bn X.bc X.bs X.Aa (admitsOf X.ts).length X.ca (admitsOf X.ts) h.A h.n h.c c W5 hol E5.o1 E5.o3 E5.rb E5.ra (KC.out W5 hb5) han);rw [HTL.out] at HTC;clear hb5 hrt E5 hol;simp only [setsL,Tprv5,List.getD_cons_zero,List.getD_cons_succ,Nat.reduceAdd,List.setIfInBounds_toArray,List.set_cons_succ,List.set_cons_zero]
       go_wp2_with (go_at_call 118;(with_reducible refine HTC.out.mono ?_);rintro e w6 ⟨A6,c6,rfl,hO6,hb6⟩
                    have HB6:=Lib.hid (HB5.out.trans (hb6.mono HB5.out.size));have HT6:=Lib.hid (hO6.rd (fun _=>rfl) (by omega))
                    clear hO6 hb6)
       obtain ⟨tn,htn⟩:∃ tn,tl.length=tn:=⟨_,rfl⟩
       rw [htn] at HT6 htl2 ⊢;have HTN:=Lib.hid htn;have HAT6:=Lib.hid ((KB.out _ HB6.out).2.2);have HG6:=Lib.hid ((KB.out _ HB6.out).2.1);have HG06:=Lib.hid (HG02.out.of_below HB6.out HG02.out.size);have HM6:=Lib.hid ((KB.out _ HB6.out).1);have hz6:=HG06.out.size;clear htn c45 NY NN c1 c2 c3 hch0 hf0;go_loopw [48] (fun s48 wr=> ∃ j kj:Nat,j≤tn∧s48 = .int .i64 j∧k<kj∧kj≤X.pn∧Hid ((tl.take j).foldl (fun o q=>o.bind fun r=>prv X.ts X.bs X.n f r (moreL mv q)) (some (X.cuts.drop (k+1)))=some (X.cuts.drop kj))∧Hid (GrownT (fun b=>b=X.b2) w6 wr)∧Hid (wr.heap[X.b2]? = some (.cells #[.int .i64 kj] 3 (0,0)))) (fun s48 _=>tn-(intOf s48).toNat)
       case atStart=>exact ⟨0,k+1,Nat.zero_le _,rfl,by omega,by omega,(show _=_ from rfl),(show GrownT _ _ _ from GrownT.refl _ _),HAT6⟩
       case round=>
        obtain ⟨j,kj,hj,rfl,hkj,hkjp,hfo,hgr,har⟩:=hrel;have hzr:=hgr.out.size;have hMr:=Lib.hid (rd_T (k:=2) (by decide) (fun _=>rfl) HM6.out HAT6.out hgr.out);by_cases hlt:j<tn
        · obtain ⟨bz,oz,q,hA6,hbz,hq,hcq⟩:=(rd_T (k:=2) (by decide) (fun _=>rfl) HT6.out HAT6.out hgr.out).one hlt
          subst hA6;have p0:wr.cell? ⟨bz,oz+j * 2,none⟩=some (.int .i64 q.pit):=hcq 0 _ rfl;have p1:wr.cell? ⟨bz,oz+j * 2+1,none⟩=some (.int .i64 q.layer):=hcq 1 _ rfl
          have HFS:Hid ((tl.take (j+1)).foldl (fun o q=>o.bind fun r=>prv X.ts X.bs X.n f r (moreL mv q)) (some (X.cuts.drop (k+1)))=prv X.ts X.bs X.n f (X.cuts.drop kj) (moreL mv q)):=(show _=_ by
           rw [List.take_add_one,hq,Option.toList_some,List.foldl_append,hfo.out];rfl)
          obtain ⟨w7,hw7⟩:∃ w7,wr.alloc (.cells #[.int .i64 q.pit,.int .i64 q.layer] 37)=w7:=⟨_,rfl⟩
          have hb7:Below wr.heap.size wr w7:=(by rw [←hw7];exact (Below.refl _ _).alloc (Nat.le_refl _) _)
          have hh7:w7.heap[wr.heap.size]? = some (.cells #[.int .i64 q.pit,.int .i64 q.layer] 37 (0,0)):=(by rw [←hw7];exact heap_alloc_new wr _)
          have hz7:wr.heap.size<w7.heap.size:=(by rw [←hw7];simp)
          have KD:Hid (∀ V,Below w7.heap.size w7 V→PrvAt X V∧Rd encPlace 2 V M mn mc mv∧GrownT (fun b=>b=X.b2) W0 V∧V.heap[X.b2]? = some (.cells #[.int .i64 kj] 3 (0,0))∧V.cell? ⟨wr.heap.size,0,none⟩=some (.int .i64 q.pit)∧V.cell? ⟨wr.heap.size,1,none⟩=some (.int .i64 q.layer)):=(show ∀ V,_→_ from fun V hv=>by
           have h1:=hb7.trans (hv.mono hb7.size);have h2:=(HG06.out.trans hgr.out).of_below h1 (by omega);have h3:=(hv.block wr.heap.size hz7).trans hh7
           exact ⟨HE.out V h2,hMr.out.below h1 (Nat.le_refl _),h2,(h1.block X.b2 (by omega)).trans har.out,by simp [World.cell?,h3],by simp [World.cell?,h3]⟩)
          have HG67:=Lib.hid (hgr.out.of_below hb7 hzr);have HW7:=Lib.hid hw7;have HQ:=Lib.hid hq;clear hcq hq hb7 hh7 hw7
          go_upto_region 9 with (rw [HW7.out])
          refine prv9 _ rfl X.b6 wr.heap.size M mn mc q (.func (.func 170) #[] X.caps) (moreL mv q) _ w7 _ rfl rfl rfl rfl (fun V hv=>⟨(KD.out V hv).1.c6,(KD.out V hv).2.2.2.2.1,(KD.out V hv).2.2.2.2.2⟩)
           (fun V hv=>(more_any M mn mc mv q V (KD.out V hv).2.1 (by omega)).mono (by rintro e w' ⟨A',c',rfl,hO',hb'⟩;exact ⟨A',c',rfl,hO'.rd (fun _=>rfl) (by omega),hb'⟩))
           X.caps rfl (fun w'=>GrownT (fun b=>b=X.b2) w6 w'∧∃ k',prv X.ts X.bs X.n f (X.cuts.drop kj) (moreL mv q)=some (X.cuts.drop k')∧kj<k'∧k'≤X.pn∧w'.heap[X.b2]? = some (.cells #[.int .i64 k'] 3 (0,0))) (fun w'=>GrownT (fun b=>b=X.b2) w6 w'∧prv X.ts X.bs X.n f (X.cuts.drop kj) (moreL mv q)=none)
           (fun V A' c' hv hr'=> ?_) ?_ ?_
          · have h7:=IH.out kj (moreL mv q) A' (mn+1) c' V (KD.out V hv).2.2.1 (KD.out V hv).2.2.2.1 hr' (by omega) hkjp (by omega)
            refine h7.mono ?_;rintro e w' ⟨hg',h8⟩;have hgw:=(HG67.out.of_below hv HG67.out.size).trans hg'
            rcases h8 with ⟨k',h1,h2,h3,rfl,h4⟩|⟨h1,rfl⟩
            · exact .inl ⟨rfl,hgw,k',h1,h2,h3,h4⟩
            · exact .inr ⟨rfl,hgw,h1⟩
          · intro ps b V hb hp
            obtain ⟨rfl,hgv,hno⟩:=hp;refine ⟨hb,HG6.out.trans hgv,.inr ⟨?_,rfl⟩⟩;rw [HPT.out,←List.take_append_drop (j+1) tl,List.foldl_append,HFS.out,hno,fold_none]
          · rintro v9 w9 ⟨hg9,k',h1,h2,h3,h4⟩
            have HG9:=Lib.hid hg9;have HF9:=Lib.hid (HFS.out.trans h1);have HA9:=Lib.hid h4;clear hg9 h1 h4;simp only [setsL,Tprv9,List.getD_cons_zero,List.getD_cons_succ,Nat.reduceAdd,List.setIfInBounds_toArray,List.set_cons_succ,List.set_cons_zero];go_wp2;go_roundw
            all_goals first
             | (simp [intOf];omega)
             | exact ⟨j+1,k',by omega,by go_num,by omega,h3,HF9,HG9,HA9⟩
        · have hjn:j=tn:=by omega
          subst hjn;have hfo2:=hfo.out;rw [List.take_of_length_le (by rw [HTN.out];exact Nat.le_refl _)] at hfo2;have HF2:=Lib.hid hfo2;clear hfo2 hfo;go_wp2
          first
           | go_end0
           | refine bodyPost_ret (results_none rfl _ _ _) rfl ?_
          exact ⟨HG6.out.trans hgr.out,.inl ⟨kj,HPT.out.trans HF2.out,hkj,hkjp,rfl,har.out⟩⟩
structure CutsAt (W:World) (A:Option Addr) (n c:Nat) (hd:List Hdr) (cuts:List (List Link)):Prop where
 rh:Rd encHdr 1 W A n c hd
 len:cuts.length=n
 rc:∀ (k:Nat) (h:Hdr),hd[k]? = some h→∃ c,cuts[k]? = some c∧Rd encLink 6 W h.A h.n h.c c
theorem CutsAt.below {W W':World} {A:Option Addr} {n c:Nat} {hd:List Hdr} {cuts:List (List Link)} (h:CutsAt W A n c hd cuts) (hb:Below W.heap.size W W'):CutsAt W' A n c hd cuts:=
 ⟨h.rh.below hb (Nat.le_refl _),h.len,fun k x hx=>by obtain ⟨c,h1,h2⟩:=h.rc k x hx;exact ⟨c,h1,h2.below hb (Nat.le_refl _)⟩⟩
noncomputable def provesV (ts:List Trace) (bs:List Bond) (n:Int) (cuts:List (List Link)):Bool:= @decide (prv ts bs n (cuts.length+1) cuts []=some []) (Classical.propDecidable _)
theorem provesV_iff {ts:List Trace} {bs:List Bond} {n:Int} {cuts:List (List Link)} : provesV ts bs n cuts=true↔prv ts bs n (cuts.length+1) cuts []=some []:= @decide_eq_true_iff _ (Classical.propDecidable _)
theorem fold_drop {α β:Type} (g:List α→β→Option (List α)) (hg:∀ r q r',g r q=some r'→∃ j,j≤r.length∧r'=r.drop j):∀ (l:List β) (r0 r:List α),l.foldl (fun o q=>o.bind fun r=>g r q) (some r0)=some r→∃ j,j≤r0.length∧r=r0.drop j
 | [],r0,r,h=>⟨0,Nat.zero_le _,(Option.some.inj h).symm⟩
 | q::l,r0,r,h=>by
   rw [List.foldl_cons] at h
   cases hq:g r0 q with
   | none=>
     rw [show (some r0).bind (fun r=>g r q)=none from hq,fold_none] at h;cases h
   | some r1=>
     rw [show (some r0).bind (fun r=>g r q)=some r1 from hq] at h;obtain ⟨j1,h1,rfl⟩:=hg _ _ _ hq;obtain ⟨j2,h2,rfl⟩:=fold_drop g hg l _ _ h;rw [List.length_drop] at h2;exact ⟨j1+j2,by omega,by rw [List.drop_drop]⟩
theorem prv_drop {ts:List Trace} {bs:List Bond} {n:Int} :∀ (f:Nat) (p:List (List Link)) (mv:List Place) (r:List (List Link)),prv ts bs n f p mv=some r→∃ j,j≤p.length∧r=p.drop j
 | 0,_,_,_,h=>by simp [prv] at h
 | _+1,[],_,_,h=>by simp [prv] at h
 | f+1,c::rest,mv,r,h=>by
   rw [prv] at h
   split at h
   · split at h
     · cases h;exact ⟨1,by simp,rfl⟩
     · cases h
   · split at h
     · obtain ⟨j,h1,rfl⟩:=fold_drop (fun r q=>prv ts bs n f r (moreL mv q)) (fun r q r' h=>prv_drop f r (moreL mv q) r' h) _ _ _ h
       exact ⟨j+1,by simp only [List.length_cons];omega,by simp⟩
     · cases h
theorem alloc_facts (w:World) (cs:Array Value) (t:TypeId):∃ w',w.alloc (.cells cs t)=w'∧Below w.heap.size w w'∧w'.heap.size=w.heap.size+1∧w'.heap[w.heap.size]? = some (.cells cs t (0,0)):=
 ⟨_,rfl,(Below.refl _ w).alloc (Nat.le_refl _) _,by simp,heap_alloc_new w _⟩
theorem GrownT.old {T:Nat→Prop} {n:Nat} {w A B:World} (h:GrownT T A B) (hb:Below n w A) (hT:∀ k,T k→n≤k) (hn:n≤A.heap.size):Below n w B:=
 ⟨h.os.trans hb.os,h.tape.trans hb.tape,h.output.trans hb.output,Nat.le_trans hb.size h.size,fun i hi=>(h.block i (by omega) (fun ht=>by have:=hT i ht;omega)).trans (hb.block i hi)⟩
theorem proves_any (o B:Nat) (bA:Option Addr) (bn bc:Nat) (ts:List Trace) (bs:List Bond) (n:Int) (pA:Option Addr) (pn pc:Nat) (hd:List Hdr) (cuts:List (List Link)) (w:World) (hor:OrdAt B w o bA bn bc ts (placesOf ts bs) (admitsOf ts)) (hb:Rd encBond 5 w bA bn bc bs) (hp:CutsAt w pA pn pc hd cuts)
 (hO:OkO ts bs) (hts:∀ x∈ts,okLT x) (hcost:∀ x∈admitsOf ts,0≤x.cost∧x.cost≤1000) (han:(admitsOf ts).length≤1000) (hpn:pn≤200000) (hcb:∀ h∈hd,h.n≤1000000):
 Calls Tryz.prog 115 #[.pointer (some ⟨o,0,none⟩),.int .i64 n,.slice pA pn pc] w fun e w'=>e = .returned (.bool (provesV ts bs n cuts))∧Below w.heap.size w w':=by
 obtain ⟨w1,a1,l1,z1,h1⟩:=alloc_facts w (#[.pointer (some ⟨o,0,none⟩)]) 106;obtain ⟨w2,a2,l2,z2,h2⟩:=alloc_facts w1 (#[.int .i64 n]) 3;rw [z1] at h2 z2;obtain ⟨w3,a3,l3,z3,h3⟩:=alloc_facts w2 (#[.slice pA pn pc]) 91;rw [z2] at h3 z3;obtain ⟨w4,a4,l4,z4,h4⟩:=alloc_facts w3 (#[.bool false]) 4;rw [z3] at h4 z4;obtain ⟨w5,a5,l5,z5,h5⟩:=alloc_facts w4 (#[.func (.func 169) #[] #[]]) 223;rw [z4] at h5 z5;obtain ⟨w6,a6,l6,z6,h6⟩:=alloc_facts w5 (#[.int .i64 0]) 3;rw [z5] at h6 z6;obtain ⟨w7,a7,l7,z7,h7⟩:=alloc_facts w6 (#[.func (.func 170) #[] #[.pointer (some ⟨w.heap.size+1+1+1+1,0,none⟩),.pointer (some ⟨w.heap.size+1+1+1+1+1,0,none⟩),.pointer (some ⟨w.heap.size+1+1,0,none⟩),.pointer (some ⟨w.heap.size,0,none⟩),.pointer (some ⟨w.heap.size+1,0,none⟩),.pointer (some ⟨w.heap.size+1+1+1+1+1+1,0,none⟩)]]) 163;rw [z6] at h7 z7;have m7:Below w7.heap.size w7 w7:=Below.refl _ _;have m6:Below w6.heap.size w6 w7:=l7.trans (m7.mono l7.size);have m5:Below w5.heap.size w5 w7:=l6.trans (m6.mono l6.size);have m4:Below w4.heap.size w4 w7:=l5.trans (m5.mono l5.size);have m3:Below w3.heap.size w3 w7:=l4.trans (m4.mono l4.size);have m2:Below w2.heap.size w2 w7:=l3.trans (m3.mono l3.size);have m1:Below w1.heap.size w1 w7:=l2.trans (m2.mono l2.size);have m0:Below w.heap.size w w7:=l1.trans (m1.mono l1.size);have g1:=(m1.block (w.heap.size) (by omega)).trans h1;have g2:=(m2.block (w.heap.size+1) (by omega)).trans h2;have g3:=(m3.block (w.heap.size+1+1) (by omega)).trans h3;have g4:=(m4.block (w.heap.size+1+1+1) (by omega)).trans h4;have g5:=(m5.block (w.heap.size+1+1+1+1) (by omega)).trans h5;have g6:=(m6.block (w.heap.size+1+1+1+1+1) (by omega)).trans h6;have g7:=(m7.block (w.heap.size+1+1+1+1+1+1) (by omega)).trans h7;obtain ⟨ho,At,ct,Ap,cp,Aa,ca,hob,t1,t2,t3⟩:=hor;have hol:=(Array.getElem?_eq_some_iff.1 hob).1;have htn:=hO.tn;have hpn2:=hO.pn
 have ENV:∀ W,GrownT (fun b=>b=w.heap.size+1+1+1+1+1) w7 W→PrvAt { b1:=w.heap.size+1+1+1+1,b2:=w.heap.size+1+1+1+1+1,b3:=w.heap.size+1+1,b4:=w.heap.size,b5:=w.heap.size+1,b6:=w.heap.size+1+1+1+1+1+1,o:=o,At:=At,ct:=ct,bA:=bA,bn:=bn,bc:=bc,Ap:=Ap,cp:=cp,Aa:=Aa,ca:=ca,pA:=pA,pn:=pn,pc:=pc,n:=n,ts:=ts,bs:=bs,hd:=hd,cuts:=cuts } W:=fun W hg=>by
  have hbw:Below w.heap.size w W:=hg.old m0 (fun k hk=>by omega) m0.size;have hob':=(hbw.block o hol).trans hob;have cut:=hp.below hbw;have cc:∀ b,b<w7.heap.size→b≠w.heap.size+1+1+1+1+1→W.cell? ⟨b,0,none⟩=w7.cell? ⟨b,0,none⟩:=fun b h1 h2=>hg.cell h1 h2
  have q5:W.cell? ⟨w.heap.size+1+1+1+1,0,none⟩=some (.func (.func 169) #[] #[]):=(cc (w.heap.size+1+1+1+1) (by omega) (by omega)).trans (by simp [World.cell?,g5]);have q3:W.cell? ⟨w.heap.size+1+1,0,none⟩=some (.slice pA pn pc):=(cc (w.heap.size+1+1) (by omega) (by omega)).trans (by simp [World.cell?,g3]);have q1:W.cell? ⟨w.heap.size,0,none⟩=some (.pointer (some ⟨o,0,none⟩)):=(cc (w.heap.size) (by omega) (by omega)).trans (by simp [World.cell?,g1]);have q2:W.cell? ⟨w.heap.size+1,0,none⟩=some (.int .i64 n):=(cc (w.heap.size+1) (by omega) (by omega)).trans (by simp [World.cell?,g2]);have q7:W.cell? ⟨w.heap.size+1+1+1+1+1+1,0,none⟩=some (.func (.func 170) #[] #[.pointer (some ⟨w.heap.size+1+1+1+1,0,none⟩),.pointer (some ⟨w.heap.size+1+1+1+1+1,0,none⟩),.pointer (some ⟨w.heap.size+1+1,0,none⟩),.pointer (some ⟨w.heap.size,0,none⟩),.pointer (some ⟨w.heap.size+1,0,none⟩),.pointer (some ⟨w.heap.size+1+1+1+1+1+1,0,none⟩)]):=(cc (w.heap.size+1+1+1+1+1+1) (by omega) (by omega)).trans (by simp [World.cell?,g7])
  exact ⟨q5,q3,q1,q2,q7,
   by simp [World.cell?,hob'],by simp [World.cell?,hob'],by simp [World.cell?,hob'],by simp [World.cell?,hob'],(t1.below hbw (Nat.le_refl _)).rd (fun _=>rfl) (by omega),hb.below hbw (Nat.le_refl _),(t2.below hbw (Nat.le_refl _)).rd (fun _=>rfl) (by omega),(t3.below hbw (Nat.le_refl _)).rd (fun _=>rfl) (by omega),cut.rh,cut.rc⟩
 have HWK:=Lib.hid (walk_any { b1:=w.heap.size+1+1+1+1,b2:=w.heap.size+1+1+1+1+1,b3:=w.heap.size+1+1,b4:=w.heap.size,b5:=w.heap.size+1,b6:=w.heap.size+1+1+1+1+1+1,o:=o,At:=At,ct:=ct,bA:=bA,bn:=bn,bc:=bc,Ap:=Ap,cp:=cp,Aa:=Aa,ca:=ca,pA:=pA,pn:=pn,pc:=pc,n:=n,ts:=ts,bs:=bs,hd:=hd,cuts:=cuts } w7 hO hts hcost han hpn hp.len hcb (show w.heap.size+1+1+1+1+1<w7.heap.size by omega) ENV (pn+1) 0 [] none 0 0 w7 (GrownT.refl _ _) (g6.trans rfl) (Rd.none_ none 0 (by omega)) (Nat.le_refl _) (Nat.zero_le _) (show pn-0<pn+1 by omega));have HA:=Lib.hid (show ((((((w.alloc (.cells #[.pointer (some ⟨o,0,none⟩)] 106)).alloc (.cells #[.int .i64 n] 3)).alloc (.cells #[.slice pA pn pc] 91)).alloc (.cells #[.bool false] 4)).alloc (.cells #[.func (.func 169) #[] #[]] 223)).alloc (.cells #[.int .i64 0] 3)).alloc (.cells #[.func (.func 170) #[] #[.pointer (some ⟨w.heap.size+1+1+1+1,0,none⟩),.pointer (some ⟨w.heap.size+1+1+1+1+1,0,none⟩),.pointer (some ⟨w.heap.size+1+1,0,none⟩),.pointer (some ⟨w.heap.size,0,none⟩),.pointer (some ⟨w.heap.size+1,0,none⟩),.pointer (some ⟨w.heap.size+1+1+1+1+1+1,0,none⟩)]] 163)=w7 by rw [a1,a2,a3,a4,a5,a6,a7]);have ew:=ent_walk
 have k9:w7.cell? ⟨w.heap.size+1+1+1+1+1+1,0,none⟩=some (.func (.func 170) #[] #[.pointer (some ⟨w.heap.size+1+1+1+1,0,none⟩),.pointer (some ⟨w.heap.size+1+1+1+1+1,0,none⟩),.pointer (some ⟨w.heap.size+1+1,0,none⟩),.pointer (some ⟨w.heap.size,0,none⟩),.pointer (some ⟨w.heap.size+1,0,none⟩),.pointer (some ⟨w.heap.size+1+1+1+1+1+1,0,none⟩)]):=(by simp [World.cell?,g7])
 have G3:=Lib.hid g3;have G4:=Lib.hid g4;have M0:=Lib.hid m0;have hlen:=hp.len;have Z7:=Lib.hid z7;clear ENV hob t1 t2 t3 hb hp hol htn hpn2 hO hts hcost han hcb a1 a2 a3 a4 a5 a6 a7 l1 l2 l3 l4 l5 l6 l7 h1 h2 h3 h4 h5 h6 h7 z1 z2 z3 z4 z5 z6 z7 m0 m1 m2 m3 m4 m5 m6 m7 g1 g2 g3 g4 g5 g6 g7
 cases hv:prv ts bs n (pn+1) (cuts.drop 0) [] with
 | none=>
   have HV:Hid (provesV ts bs n cuts=false):=(show _=_ by
    rw [←Bool.not_eq_true,provesV_iff,hlen];intro h;rw [List.drop_zero] at hv
    rw [hv] at h;cases h)
   have HW:Hid (Calls Tryz.prog 170 #[.slice none 0 0,.pointer (some ⟨w.heap.size+1+1+1+1,0,none⟩),.pointer (some ⟨w.heap.size+1+1+1+1+1,0,none⟩),.pointer (some ⟨w.heap.size+1+1,0,none⟩),.pointer (some ⟨w.heap.size,0,none⟩),.pointer (some ⟨w.heap.size+1,0,none⟩),.pointer (some ⟨w.heap.size+1+1+1+1+1+1,0,none⟩)] w7 fun e W'=>e = .panicked [noProof]∧GrownT (fun b=>b=w.heap.size+1+1+1+1+1) w7 W'):=(show Calls _ _ _ _ _ from by
    refine HWK.out.mono ?_;rintro e W' ⟨hg,h⟩
    rcases h with ⟨k',h1,_⟩|⟨_,h⟩
    · exact absurd (hv.symm.trans h1) (by simp)
    · exact ⟨h,hg⟩)
   clear HWK hv hlen;go_enter_defers Tryz.func115,Tryz.ntmps115
   go_wp2_with (first
    | rw [HA.out]
    | (go_at_fn 170;refine HW.out.mono ?_;rintro e w8 ⟨rfl,hg8⟩))
   have hz7:=Z7.out;have hz8:=hg8.size;have hm0:=M0.out.size;have y1:w8.cell? ⟨w.heap.size+1+1+1,0,none⟩=some (.bool false):=(hg8.cell (by omega) (show ¬w.heap.size+1+1+1=w.heap.size+1+1+1+1+1 by omega)).trans (by simp [World.cell?,G4.out]);have y2:w8.frozen? ⟨w.heap.size+1+1+1,0,none⟩=false:=(hg8.frozen (by omega) (show ¬w.heap.size+1+1+1=w.heap.size+1+1+1+1+1 by omega)).trans (by simp [World.frozen?,G4.out])
   have HB8:Hid (Below w.heap.size w w8):=(show Below _ _ _ from hg8.old M0.out (fun k hk=>by omega) hm0)
   have y3:w8.heap.size≠w.heap.size+1+1+1:=(by omega)
   have y4:((w8.setCell ⟨w.heap.size+1+1+1,0,none⟩ (.bool false)).alloc (.cells #[] 222)).cell? ⟨w.heap.size+1+1+1,0,none⟩=some (.bool false):=(by
    rw [World.cell?_alloc_past _ _ _ (by simp;omega)]
    exact World.cell?_setCell_same' _ _ _ (by rw [y1];rfl))
   refine leaves_cons (f:=168) (args:=#[.pointer (some ⟨w.heap.size+1+1+1,0,none⟩)]) (by simp) (by simp [go_sem]) ?_;refine (caught (w.heap.size+1+1+1) false w8 (by omega) y1 y2).mono ?_;rintro e u' w'' ⟨rfl,rfl,rfl⟩;have hfin:Below w.heap.size w ((w8.setCell ⟨w.heap.size+1+1+1,0,none⟩ (.bool false)).alloc (.cells #[] 222)):=(HB8.out.setCell (p:=⟨w.heap.size+1+1+1,0,none⟩) (show w.heap.size≤w.heap.size+1+1+1 by omega) _).alloc (by simp;omega) _;rw [HV.out];simp [Leaves,settle,results,Tryz.results115,go_sem,y4,hfin]
 | some r=>
   have HW:Hid (∃ k':Nat,k'≤pn∧provesV ts bs n cuts=((k':Int)==(pn:Int))∧Calls Tryz.prog 170 #[.slice none 0 0,.pointer (some ⟨w.heap.size+1+1+1+1,0,none⟩),.pointer (some ⟨w.heap.size+1+1+1+1+1,0,none⟩),.pointer (some ⟨w.heap.size+1+1,0,none⟩),.pointer (some ⟨w.heap.size,0,none⟩),.pointer (some ⟨w.heap.size+1,0,none⟩),.pointer (some ⟨w.heap.size+1+1+1+1+1+1,0,none⟩)] w7 fun e W'=>e = .returned (.tuple #[])∧GrownT (fun b=>b=w.heap.size+1+1+1+1+1) w7 W'∧W'.heap[w.heap.size+1+1+1+1+1]? = some (.cells #[.int .i64 k'] 3 (0,0))):=(show ∃ k':Nat,_ from by
    obtain ⟨k',hk',rfl⟩:=prv_drop _ _ _ _ hv;rw [List.drop_zero,hlen] at hk';rw [List.drop_drop,Nat.zero_add] at hv;refine ⟨k',hk',?_,HWK.out.mono ?_⟩
    · rw [Bool.eq_iff_iff,provesV_iff,hlen,show prv ts bs n (pn+1) cuts []=some (cuts.drop k') from by rw [List.drop_zero] at hv;exact hv,Option.some.injEq,List.drop_eq_nil_iff,beq_iff_eq]
      omega
    · rintro e W' ⟨hg,h⟩
      rcases h with ⟨k2,h1,h2,h3,rfl,h4⟩|⟨h1,_⟩
      · have he:cuts.drop k'=cuts.drop k2:=Option.some.inj (hv.symm.trans h1)
        have hl:=congrArg List.length he;simp only [List.length_drop] at hl;have:k'=k2:=by simp only at h3;omega
        subst this;exact ⟨rfl,hg,h4⟩
      · exact absurd (hv.symm.trans h1) (by simp))
   clear HWK hv hlen;obtain ⟨k',hk',hpv,hcw⟩:=HW.out;have HCW:=Lib.hid hcw;have HPV:=Lib.hid hpv;clear HW hcw hpv;go_enter_defers Tryz.func115,Tryz.ntmps115
   go_wp2_with (first
    | rw [HA.out]
    | (go_at_fn 170;refine HCW.out.mono ?_;rintro e w8 ⟨rfl,hg8,hat8⟩
       have hz7:=Z7.out;have hz8:=hg8.size;have hm0:=M0.out.size;have y1:w8.cell? ⟨w.heap.size+1+1+1,0,none⟩=some (.bool false):=(hg8.cell (by omega) (show ¬w.heap.size+1+1+1=w.heap.size+1+1+1+1+1 by omega)).trans (by simp [World.cell?,G4.out]);have y2:w8.frozen? ⟨w.heap.size+1+1+1,0,none⟩=false:=(hg8.frozen (by omega) (show ¬w.heap.size+1+1+1=w.heap.size+1+1+1+1+1 by omega)).trans (by simp [World.frozen?,G4.out]);have y3:w8.cell? ⟨w.heap.size+1+1,0,none⟩=some (.slice pA pn pc):=(hg8.cell (by omega) (show ¬w.heap.size+1+1=w.heap.size+1+1+1+1+1 by omega)).trans (by simp [World.cell?,G3.out])
       have y4:w8.cell? ⟨w.heap.size+1+1+1+1+1,0,none⟩=some (.int .i64 k'):=(by simp [World.cell?,hat8])
       have HB8:Hid (Below w.heap.size w w8):=(show Below _ _ _ from hg8.old M0.out (fun k hk=>by omega) hm0)
       clear hz7))
   refine leaves_cons (f:=168) (args:=#[.pointer (some ⟨w.heap.size+1+1+1,0,none⟩)]) (by simp) (by simp [go_sem]) ?_;refine (idle ⟨w.heap.size+1+1+1,0,none⟩ _).mono ?_;rintro e u' w'' ⟨rfl,rfl,rfl⟩;have hfin:Below w.heap.size w (w8.setCell ⟨w.heap.size+1+1+1,0,none⟩ (.bool ((k':Int)==(pn:Int)))):=HB8.out.setCell (p:=⟨w.heap.size+1+1+1,0,none⟩) (show w.heap.size≤w.heap.size+1+1+1 by omega) _;have hcv:(w8.setCell ⟨w.heap.size+1+1+1,0,none⟩ (.bool ((k':Int)==(pn:Int)))).cell? ⟨w.heap.size+1+1+1,0,none⟩=some (.bool ((k':Int)==(pn:Int))):=World.cell?_setCell_same' _ _ _ (by rw [y1];rfl);refine ⟨.bool ((k':Int)==(pn:Int)),?_,by rw [HPV.out],hfin⟩;simp [results,Tryz.results115,go_sem,hcv]
noncomputable def checkProofV (l:List Trace) (known:Int) (bs:List Bond) (n:Int) (cuts:List (List Link)):Bool×Int:=
 if askErr l known bs≠0 then (false,askErr l known bs) else if 200000<cuts.length then (false,2) else (provesV (counting l known) bs n cuts,0)
theorem CheckProof_any (A:Option Addr) (ln lc:Nat) (l:List Trace) (known:Int) (bA:Option Addr) (bn bc:Nat) (bs:List Bond) (n:Int) (pA:Option Addr) (pn pc:Nat) (hd:List Hdr) (cuts:List (List Link)) (w:World) (hl:Rd encTrace 10 w A ln lc l) (hb:Rd encBond 5 w bA bn bc bs) (hp:CutsAt w pA pn pc hd cuts) (hcb:∀ h∈hd,h.n≤1000000):
 Calls Tryz.prog 64 #[.slice A ln lc,.int .i64 known,.slice bA bn bc,.int .i64 n,.slice pA pn pc] w fun e w'=>e = .returned (.tuple #[.bool (checkProofV l known bs n cuts).1,.int .i64 (checkProofV l known bs n cuts).2])∧Below w.heap.size w w':=by
 have HK:=Lib.hid (asked_any A ln lc l known bA bn bc bs w hl hb);have hlen:=hp.len
 have HP:Hid (∀ W,Below w.heap.size w W→CutsAt W pA pn pc hd cuts):=(show ∀ W,_→_ from fun W h=>hp.below h)
 have HB:Hid (∀ W,Below w.heap.size w W→Rd encBond 5 W bA bn bc bs):=(show ∀ W,_→_ from fun W h=>hb.below h (Nat.le_refl _))
 clear hl hb hp;by_cases ha:askErr l known bs=0
 case neg=>
  have hv:checkProofV l known bs n cuts=(false,askErr l known bs):=by unfold checkProofV;rw [if_pos ha]
  have ha':(askErr l known bs != 0)=true:=by simpa using ha
  rw [hv];clear hv ha;go_enter Tryz.func64,Tryz.ntmps64;go_wp2_with (go_at_call 72;(with_reducible refine HK.out.mono ?_);rintro e w2 ⟨q,rfl,hb2,_⟩;have HB2:=Lib.hid hb2;clear hb2);go_ret2;exact ⟨rfl,HB2.out⟩
 case pos=>
  have F:=Lib.hid (ordFacts ha);rw [ha] at HK;by_cases hpn:200000<pn
  · have hv:checkProofV l known bs n cuts=(false,2):=by unfold checkProofV;rw [if_neg (by simpa using ha),if_pos (by omega)]
    have hpi:decide ((pn:Int)>200000)=true:=decide_eq_true (by omega);rw [hv];clear hv ha;go_enter Tryz.func64,Tryz.ntmps64;go_wp2_with (go_at_call 72;(with_reducible refine HK.out.mono ?_);rintro e w2 ⟨q,rfl,hb2,_⟩;have HB2:=Lib.hid hb2;clear hb2);go_ret2;exact ⟨rfl,HB2.out⟩
  · have hv:checkProofV l known bs n cuts=(provesV (counting l known) bs n cuts,0):=by unfold checkProofV;rw [if_neg (by simpa using ha),if_neg (by omega)]
    have hpi:decide ((pn:Int)>200000)=false:=decide_eq_false (by omega);rw [hv];clear hv ha
    obtain ⟨r,hr⟩:∃ r,provesV (counting l known) bs n cuts=r:=⟨_,rfl⟩
    rw [hr];have HR:=Lib.hid hr;clear hr;go_enter Tryz.func64,Tryz.ntmps64
    go_wp2_with (first
     | (go_at_call 72;(with_reducible refine HK.out.mono ?_);rintro e w2 ⟨q,rfl,hb2,hq⟩;obtain ⟨o1,rfl,hor⟩:=hq rfl
        have HPV:=Lib.hid (proves_any o1 _ bA bn bc (counting l known) bs n pA pn pc hd cuts w2 hor (HB.out w2 hb2) (HP.out w2 hb2) F.out.o F.out.t F.out.cost (by have:=F.out.a8;omega) (by omega) hcb);rw [HR.out] at HPV;have HB2:=Lib.hid hb2
        clear hb2 hq hor)
     | (go_at_call 115;(with_reducible refine HPV.out.mono ?_);rintro e w3 ⟨rfl,hb3⟩;have HB3:=Lib.hid (HB2.out.trans (hb3.mono HB2.out.size));clear hb3))
    go_ret2;exact ⟨rfl,HB3.out⟩
end Go.Proofs.YtelnkflmnbhclaaGreat
end
section
namespace Go.Proofs.YtelnkflmnbhclaaGreat
open Go.RowKit Go.Proofs Go.ChangeShapes Go.WideShapes Go.Deep
structure HdAt (W:World) (A:Option Addr) (n:Nat) (hd:List Hdr):Prop where
 len:hd.length=n
 at_:0<n→∃ b off,A=some ⟨b,off,none⟩∧b<W.heap.size∧∀ (i:Nat) (h:Hdr),hd[i]? = some h→W.cell? ⟨b,off+i,none⟩=some (.slice h.A h.n h.c)
def slightB (hd:List Hdr):Bool:=(hd.take 40).all (fun h=>decide (h.n≤30))&&decide (hd.length≤40)
theorem slight_any (A:Option Addr) (n c:Nat) (hd:List Hdr) (w:World) (h:HdAt w A n hd):
 Calls Tryz.prog 63 #[.slice A n c] w fun e w'=>e = .returned (.bool (slightB hd))∧w'=w:=by
 have HL:=Lib.hid h.len;have HA:=Lib.hid h;clear h;go_enter Tryz.func63,Tryz.ntmps63;go_wp2_with (fail);go_loopw [3] (fun s3 wr=> ∃ k:Nat,k≤n∧k≤40∧s3 = .int .i64 k∧Hid (w=wr)∧Hid ((hd.take k).all (fun h=>decide (h.n≤30))=true)) (fun s3 _=>41-(intOf s3).toNat)
 case atStart=>exact ⟨0,Nat.zero_le _,Nat.zero_le _,rfl,(show _=_ from rfl),(show _=_ from rfl)⟩
 case round=>
  obtain ⟨k,hk,hk40,rfl,hw,hall⟩:=hrel;obtain rfl:=hw.out;by_cases hlt:k<n
  · have d1:decide ((k:Int)<(n:Int))=true:=decide_eq_true (by omega)
    by_cases h40:k<40
    · have d2:decide ((k:Int)<40)=true:=decide_eq_true (by omega)
      obtain ⟨b,off,rfl,hbw,hc⟩:=HA.out.at_ (by omega);have hx:hd[k]? = some (hd[k]'(by rw [HL.out];exact hlt)):=List.getElem?_eq_getElem _
      obtain ⟨x,hxe⟩:∃ x,hd[k]'(by rw [HL.out];exact hlt)=x:=⟨_,rfl⟩
      rw [hxe] at hx;have hcx:=hc k x hx
      have HS:Hid ((hd.take (k+1)).all (fun h=>decide (h.n≤30))=decide (x.n≤30)):=(show _=_ by
       rw [List.take_add_one,hx,Option.toList_some,List.all_append,hall.out];simp)
      have HS4:Hid (hd.take 40=hd.take (k+1)++(hd.take 40).drop (k+1)):=(show _=_ by
       have h1:=(List.take_append_drop (k+1) (hd.take 40)).symm;have h2:(hd.take 40).take (k+1)=hd.take (k+1):=by rw [List.take_take,Nat.min_eq_left (by omega)]
       rw [h2] at h1
       exact h1)
      clear hxe hx hc;by_cases h30:x.n≤30
      · have d3:decide ((x.n:Int)>30)=false:=decide_eq_false (by omega)
        go_wp2_with (fail);go_roundw
        all_goals first
         | (simp [intOf];omega)
         | exact ⟨k+1,by omega,by omega,by go_num,(show True from trivial),(show _=_ by rw [HS.out];exact decide_eq_true h30)⟩
      · have d3:decide ((x.n:Int)>30)=true:=decide_eq_true (by omega)
        go_wp2_with (fail);go_ret;refine ⟨retB ?_,rfl⟩;unfold slightB;rw [HS4.out,List.all_append,HS.out,decide_eq_false h30]
        rfl
    · have d2:decide ((k:Int)<40)=false:=decide_eq_false (by omega)
      have d4:decide ((n:Int)≤40)=false:=decide_eq_false (by omega);go_wp2_with (fail);go_ret;refine ⟨retB ?_,rfl⟩;unfold slightB;rw [HL.out,decide_eq_false (show ¬n≤40 by omega),Bool.and_false]
  · have d1:decide ((k:Int)<(n:Int))=false:=decide_eq_false (by omega)
    have d4:decide ((n:Int)≤40)=true:=decide_eq_true (by omega);go_wp2_with (fail);go_ret;refine ⟨retB ?_,rfl⟩;unfold slightB;have ha:=hall.out;rw [List.take_of_length_le (by rw [HL.out];omega)] at ha;rw [List.take_of_length_le (by rw [HL.out];omega),ha,HL.out,decide_eq_true (show n≤40 by omega)]
    rfl
section
variable {H:Type} {enc:TypeId×Value→H} {w:World} {base:Nat} {spare:Nat→Bool} {held:Bool}
def LinksOk (w:World) (h:Hdr):Prop:=∃ ls:List Link,ls.length=h.n∧(h.n≤17592186044416→Rd encLink 6 w h.A h.n h.c ls)
theorem decCut {fuel:Nat} {cs:List Value} {x:DataW H×List MemPlace} (h:DataW.trod enc Tryz.prog w base spare held fuel 161 cs=some x):∃ y:Hdr,cs=encHdr y∧LinksOk w y:=by
 obtain ⟨xs,m,_,_,hl,hxl,hf⟩:=DataW.trod_struct Tryz.underlying161 h;rw [show Tryz.prog.cellsOf 161=1 by kernel_rfl] at hl
 match cs,hl with
 | [c0],_=>
   obtain ⟨y0,g0⟩:=field_read hf hxl 0 rfl 43 0 1 rfl rfl (by kernel_rfl);simp only [List.drop_zero,List.take_succ_cons,List.take_zero] at g0;obtain ⟨A,n,c,ls,e,hn,hr⟩:=open_rd (encA:=encLink) (k:=6) Tryz.underlying43 (by kernel_rfl) (by omega) (fun _=>rfl) (fun _ _ _ h=>decLink h) g0;cases e;exact ⟨⟨A,n,c⟩,rfl,ls,hn,hr⟩
theorem open_cuts {fuel:Nat} {cs:List Value} {x:DataW H×List MemPlace} (h:DataW.trod enc Tryz.prog w base spare held fuel 91 cs=some x):
 ∃ (A:Option Addr) (n c:Nat) (hd:List Hdr),cs = [.slice A n c]∧HdAt w A n hd∧(n≤17592186044416→Rd encHdr 1 w A n c hd)∧∀ h∈hd,LinksOk w h:=by
 rcases open_slice Tryz.underlying91 h with ⟨rfl,_⟩|⟨a,len,cap,m,n,D,Pl,rfl,hb,hl,hm,hmm,_,hx⟩
 · exact ⟨none,0,0,[],rfl,⟨rfl,fun h=>by omega⟩,fun _=>Rd.none_ none 0 (by omega),fun h hh=>by cases hh⟩
 · have hlm:len≤m:=by rw [hmm];split<;>omega
   have each:∀ i,i<len→∃ y:Hdr,w.cell? (a.add i)=some (hdrV y)∧LinksOk w y:=fun i hi=>by
    obtain ⟨cs',h1,h2⟩:=hx i (by omega);obtain ⟨y,rfl,hy⟩:=decCut h2;rw [show Tryz.prog.cellsOf 161=1 by kernel_rfl] at h1;obtain ⟨_,_,h3⟩:=World.cells?_some h1;refine ⟨y,?_,hy⟩;have:=h3 0 (by omega);rw [Nat.mul_one,show (a.add i).add 0=a.add i from by obtain ⟨b,o,s⟩:=a;cases s<;>rfl] at this;exact this
   obtain ⟨f,hf⟩:=choose_lt each
   have hget:∀ (i:Nat) (y:Hdr),((List.range len).map f)[i]? = some y→i<len∧y=f i:=fun i y hy=>by
    rw [List.getElem?_map] at hy
    have hi:i<len:=by
     rcases Nat.lt_or_ge i len with h|h
     · exact h
     · rw [List.getElem?_eq_none (by simpa using h)] at hy;cases hy
    rw [List.getElem?_eq_getElem (by simpa using hi)] at hy;simp only [List.getElem_range,Option.map_some,Option.some.injEq] at hy;exact ⟨hi,hy.symm⟩
   have hat:0<len→∃ b off,(some a:Option Addr)=some ⟨b,off,none⟩∧b<w.heap.size∧∀ (i:Nat) (h:Hdr),((List.range len).map f)[i]? = some h→w.cell? ⟨b,off+i,none⟩=some (.slice h.A h.n h.c):=fun hn=>by
    have h0:=(hf 0 hn).1;obtain ⟨b,off,spot⟩:=a
    have hspot:spot=none:=by
     cases spot with
     | none=>rfl
     | some s=>
       rw [show (⟨b,off,some s⟩:Addr).add 0=⟨b,off,some s⟩ from rfl] at h0;unfold World.cell? at h0
       split at h0
       · cases h0
       · cases h0
    subst hspot
    have hlt:b<w.heap.size:=by
     rw [add_lit] at h0;unfold World.cell? at h0
     split at h0
     · rename_i h1;exact (Array.getElem?_eq_some_iff.1 h1).1
     · cases h0
    refine ⟨b,off,rfl,hlt,fun i y hy=> ?_⟩;obtain ⟨hi,rfl⟩:=hget i y hy;have:=(hf i hi).1;rw [add_lit] at this;exact this
   refine ⟨some a,len,cap,(List.range len).map f,rfl,⟨by simp,hat⟩,fun hbig=>⟨by simp,hbig,⟨hl,hm⟩,fun hn=> ?_⟩,fun h hh=> ?_⟩
   · obtain ⟨b,off,e,hlt,hc⟩:=hat hn
     refine ⟨b,off,e,hlt,fun i y hy j u hu=> ?_⟩;have:=hc i y hy
     cases j with
     | zero=>
       simp only [encHdr,List.getElem?_cons_zero,Option.some.injEq] at hu;rw [Nat.mul_one,Nat.add_zero,←hu];exact this
     | succ j=>simp [encHdr] at hu
   · obtain ⟨i,hi,rfl⟩:=List.getElem_of_mem hh
     rw [List.length_map,List.length_range] at hi;rw [List.getElem_map,List.getElem_range];exact (hf i hi).2
end
end Go.Proofs.YtelnkflmnbhclaaGreat
end

/- Contracts that the laws lean on: Relax, Set1, Frame. -/
import Derived.Test.YtejjplhknacoiaaGreatDoorLK08
set_option maxRecDepth 100000
set_option maxHeartbeats 4000000
section
namespace Go.Proofs.YtejjplhknacoiaaGreatDoor
open Go.RowKit Go.Proofs Go.Shelf
theorem relaxing_any (pts:Int) (A:Option Addr) (n c:Nat) (rp:Option Addr) (w:World):
 Calls Tryz.prog 142 #[.agg #[.int .i64 pts,.slice A n c],.pointer rp] w fun e w'=>e = .returned (.func (.func 167) #[] #[.pointer (some ⟨w.heap.size,0,none⟩),.pointer (some ⟨w.heap.size+1,0,none⟩)])∧
  (w.alloc (.cells #[.int .i64 pts,.slice A n c] 84)).alloc (.cells #[.pointer rp] 183)=w':=by
 go_enter Tryz.func142,Tryz.ntmps142
 go_wp2
 go_ret
 exact ⟨rfl,rfl⟩
structure RelJ (J:Nat→Row×Row→World→Prop) (sb rb br:Nat) (A:Option Addr) (n c:Nat) (bs:List Bound):Prop where
 s1:∀ {k σ W},J k σ W→W.cell? ⟨sb,1,none⟩=some (.slice A n c)
 rp:∀ {k σ W},J k σ W→W.cell? ⟨rb,0,none⟩=some (.pointer (some ⟨br,0,none⟩))
 row:∀ {k σ W},J k σ W→rowAt? W br 60=some (rowA σ.1)
 rd:∀ {k σ W},J k σ W→Rd encBound 4 W A n c bs
 ok:∀ {k σ W},J k σ W→∀ i:Int,0≤i→i<60→ -4000000000000000000≤rAt σ.1 i∧rAt σ.1 i≤noneV
 al:∀ {k σ W} (o:Obj),J k σ W→J k σ (W.alloc o)
 dr:∀ {k σ W},J k σ W→J k σ W.drew
 dn:∀ {k σ W} (m:Nat),J k σ W→J k σ (W.drewN m)
 skip:∀ {k σ W b},J k σ W→bs[k]? = some b→relaxes σ.1 b=false→J (k+1) σ W
def okB (b:Bound):Prop:=0≤b.src∧b.src<60∧0≤b.dst∧b.dst<60∧ -1000000≤b.most∧b.most≤1000000
theorem passTo_succ {bs:List Bound} {k:Nat} {b:Bound} (h:bs[k]? = some b) (st:Row×Row):passTo bs st (k+1)=relaxStep (passTo bs st k) b k:=by simp [passTo,h]
theorem relaxStep_no {st:Row×Row} {b:Bound} {k:Nat} (h:relaxes st.1 b=false):relaxStep st b k=st:=by simp [relaxStep,h]
theorem relaxing1 (l sb rb br m:Nat) (A:Option Addr) (n c:Nat) (bs:List Bound) (J:Nat→Row×Row→World→Prop) (R:RelJ J sb rb br A n c bs) (hbs:∀ b∈bs,okB b) (hn:n≤1000)
 (hY:∀ k σ b W,J k σ W→bs[k]? = some b→relaxes σ.1 b=true→YieldAt Fence.wide (m-1) Tryz.prog l #[.int .i64 k,.agg #[.int .i64 b.src,.int .i64 b.dst,.int .i64 b.most,.int .i64 b.by_]] W
   fun e W'=>e = .returned (.bool true)∧J (k+1) (relaxStep σ b k) W')
 (σ0:Row×Row) (w:World) (h0:J 0 σ0 w):
 CallsIn Fence.wide m Tryz.prog 167 #[.func (.yield l) #[] #[],.pointer (some ⟨sb,0,none⟩),.pointer (some ⟨rb,0,none⟩)] w fun e W'=>(∃ v,e = .returned v)∧J n (passTo bs σ0 n) W':=by
 refine callsIn_wide.2 ?_
 have s1:=R.s1 h0
 go_enter Tryz.func167,Tryz.ntmps167
 go_wp2
 go_loopw [9] (fun i wr=> ∃ (k:Nat) (σ:Row×Row),k≤n∧i = .int .i64 k∧J k σ wr∧Hid (σ=passTo bs σ0 k)) (fun i _=>n-(intOf i).toNat)
 case atStart=>exact ⟨0,σ0,Nat.zero_le _,rfl,h0,rfl⟩
 case round=>
  clear s1 h0
  obtain ⟨k,σ,hk,rfl,hJ,hσ⟩:=hrel
  by_cases hlt:k<n
  · obtain ⟨b,off,x,rfl,hbw,hx,hcell⟩:=(R.rd hJ).one hlt
    have hok:=hbs x (List.mem_of_getElem? hx)
    obtain ⟨o1,o2,o3,o4,o5,o6⟩:=hok
    have c0:wr.cell? ⟨b,off+k * 4,none⟩=some (.int .i64 x.src):=hcell 0 _ rfl
    have c1:wr.cell? ⟨b,off+k * 4+1,none⟩=some (.int .i64 x.dst):=hcell 1 _ rfl
    have c2:wr.cell? ⟨b,off+k * 4+2,none⟩=some (.int .i64 x.most):=hcell 2 _ rfl
    have c3:wr.cell? ⟨b,off+k * 4+3,none⟩=some (.int .i64 x.by_):=hcell 3 _ rfl
    have rp:=R.rp hJ
    have hrow:=R.row hJ
    have hbr:=rowAt?_lt hrow
    have hrb:rb<wr.heap.size:=block_lt_of_cell rp
    obtain ⟨v1,v2⟩:=R.ok hJ x.src o1 o2
    obtain ⟨v3,v4⟩:=R.ok hJ x.dst o3 o4
    have hl:=rowAt?_len hrow
    have hcs:=rowAt?_int hrow (i:=x.src.toNat) (by omega)
    have hcd:=rowAt?_int hrow (i:=x.dst.toNat) (by omega)
    have HX:=Lib.hid hx
    have hJ2:=R.al (.cells #[.int .i64 x.src,.int .i64 x.dst,.int .i64 x.most,.int .i64 x.by_] 148) hJ
    have hrel:relaxes σ.1 x=(decide (rAt σ.1 x.src<noneV)&&decide (rAt σ.1 x.src+x.most<rAt σ.1 x.dst)):=rfl
    have HJ:=Lib.hid hJ
    clear hrow hcell hx hJ
    have es:σ.1.getD x.src.toNat 0=rAt σ.1 x.src:=rfl
    have ed:σ.1.getD x.dst.toNat 0=rAt σ.1 x.dst:=rfl
    rw [es] at hcs
    rw [ed] at hcd
    clear es ed
    generalize rAt σ.1 x.src=xs at *
    generalize rAt σ.1 x.dst=xd at *
    have HR:=Lib.hid hrel
    have HL:=Lib.hid hl
    clear hrel hl
    unfold noneV at v2 v4
    have hw:IntKind.i64.wrap (xs+x.most)=xs+x.most:=by simp [IntKind.wrap,IntKind.bits,IntKind.signed];omega
    by_cases t1:xs<1099511627776
    · have d1:decide (xs<1099511627776)=true:=by simpa using t1
      by_cases t2:xs+x.most<xd
      · have d2:decide (xs+x.most<xd)=true:=by simpa using t2
        have hrlx:relaxes σ.1 x=true:=by rw [HR.out,show decide (xs<noneV)=true from d1,d2];rfl
        have HRX:=Lib.hid hrlx
        have hw':=Lib.hid hw
        clear hrlx hw
        go_wp2_with (fail)
        have hw:=hw'.out
        have hJ4:=R.dr hJ2
        obtain ⟨fn,tmps,assign,body,hy,hR⟩:=hY k σ x _ hJ4 HX.out HRX.out
        refine wp_region_yield m 29 (by kernel_rfl) (by kernel_rfl) ?_
        simp only [List.take_succ_cons,List.take_zero,List.drop_succ_cons,List.drop_zero,World.drew_eq]
        iterate 29 still_step
        refine wpStill_nil ?_
        clear hw hcs hcd
        gi_wp2
        refine ⟨fun h=>(by cases h),hR.mono ?_⟩
        rintro e W3 ⟨rfl,hJ5⟩
        gi_wp2
        go_wp2
        go_roundw
        case rel=>exact ⟨k+1,_,by omega,by go_num,hJ5,(show _=_ by rw [passTo_succ HX.out,←hσ.out])⟩
        case measure=>simp [intOf];omega
      · have d2:decide (xs+x.most<xd)=false:=by simpa using t2
        have hrlx:relaxes σ.1 x=false:=by rw [HR.out,show decide (xs<noneV)=true from d1,d2];rfl
        have HRX:=Lib.hid hrlx
        have hw':=Lib.hid hw
        clear hrlx hw
        go_wp2_with (fail)
        have hw:=hw'.out
        go_quiet (fail)
        clear hw
        go_wp2
        go_roundw
        case rel=>exact ⟨k+1,σ,by omega,by go_num,R.dn _ (R.skip hJ2 HX.out HRX.out),(show σ=_ by rw [passTo_succ HX.out,←hσ.out,relaxStep_no HRX.out])⟩
        case measure=>simp [intOf];omega
    · have d1:decide (xs<1099511627776)=false:=by simpa using t1
      have hrlx:relaxes σ.1 x=false:=by rw [HR.out,show decide (xs<noneV)=false from d1];rfl
      have HRX:=Lib.hid hrlx
      clear hrlx hw
      go_wp2_with (fail)
      go_quiet (fail)
      go_wp2
      go_roundw
      case rel=>exact ⟨k+1,σ,by omega,by go_num,R.dn _ (R.skip hJ2 HX.out HRX.out),(show σ=_ by rw [passTo_succ HX.out,←hσ.out,relaxStep_no HRX.out])⟩
      case measure=>simp [intOf];omega
  · have hkn:k=n:=by omega
    subst hkn
    go_wp2
    go_end0
    exact ⟨⟨_,rfl⟩,by rw [←hσ.out];exact hJ⟩
theorem getD_set_self {listed:Array Bool} {i n:Nat} (hs:listed.size=n) (hi:i<n):(listed.setIfInBounds i true).getD i false=true:=by
 simp [hs,hi]
theorem not_listed {listed:Array Bool} {j:Nat} {es:Array Edge} (hc:listed.getD j false=true→∀ e∈es,Region.binds .any e=true→listed.getD e.on false=true) (e:Edge) (he:e∈es) (hb:Region.binds .any e=true) (hun:listed.getD e.on false=false):
 listed.getD j false=false:=by
 cases hl:listed.getD j false with
 | false=>rfl
 | true=>
   have:=hc hl e he hb
   rw [hun] at this
   cases this
theorem dst_no {ops:Array Oper} {V:Nat→Value} {a0:Act} {listed:Array Bool} {b:Act} {d:Nat} (_:TabAt ops V a0 listed b) (h:((List.range ops.size).all fun j=>dstOf ops j != some d)=true):∀ j,dstOf ops j≠some d:=by
 intro j hj
 have hjs:j<ops.size:=by
  rcases Nat.lt_or_ge j ops.size with h|h
  · exact h
  · simp [dstOf,Array.getElem?_eq_none h] at hj
 have:=List.all_eq_true.1 h j (List.mem_range.2 hjs)
 rw [hj] at this
 simp at this
def codes202:Option Code→Code×Code
 | some (.seq _ (.seq _ (.seq (.seq _ (.block _ (.loop (.seq _ (.seq _ (.seq (.block _ (.seq _ (.seq (.seq _ (.block _ (.rangeFunc _ _ a b))) _))) _)))))) _)))=>(a,b)
 | _=>(.skip,.skip)
def tab202 (br nb bl:Nat) (x:Bound) (xs:Int) (k:Nat):Nat→Value
 | 0=> .pointer (some ⟨br,0,none⟩)
 | 1=> .pointer (some ⟨nb,1,none⟩)
 | 2=> .int .i64 x.dst
 | 3=> .pointer (some ⟨nb,1,none⟩)
 | 4=> .int .i64 x.dst
 | 5=> .pointer (some ⟨br,0,none⟩)
 | 6=> .pointer (some ⟨nb,0,none⟩)
 | 7=> .int .i64 x.src
 | 8=> .pointer (some ⟨br,0,none⟩)
 | 9=> .pointer (some ⟨br,x.src.toNat,none⟩)
 | 10=> .int .i64 xs
 | 11=> .pointer (some ⟨nb,2,none⟩)
 | 12=> .int .i64 x.most
 | 13=> .int .i64 (xs+x.most)
 | 14=> .int .i64 k
 | 15=> .pointer (some ⟨br,0,none⟩)
 | 16=> .pointer (some ⟨br,x.dst.toNat,none⟩)
 | 17=>undef
 | 18=> .pointer (some ⟨bl,x.dst.toNat,none⟩)
 | 19=>undef
 | _=>undef
theorem body202 (bod:Code) (hbod:bod=(codes202 Tryz.f105.body).2) (l m:Nat) (a:Act) (w:World) (r3 br bl nb k:Nat) (x:Bound) (xs:Int) (Q:Exit→Act→World→Prop)
 (hT:a.tmps.size=55) (h3:a.tmps.getD 3 undef = .pointer (some ⟨r3,0,none⟩)) (h4:a.tmps.getD 4 undef = .pointer (some ⟨bl,0,none⟩)) (h8:a.tmps.getD 8 undef = .int .i64 k) (h9:a.tmps.getD 9 undef = .pointer (some ⟨nb,0,none⟩))
 (c3:w.cell? ⟨r3,0,none⟩=some (.pointer (some ⟨br,0,none⟩)))
 (c0:w.cell? ⟨nb,0,none⟩=some (.int .i64 x.src)) (c1:w.cell? ⟨nb,1,none⟩=some (.int .i64 x.dst)) (c2:w.cell? ⟨nb,2,none⟩=some (.int .i64 x.most))
 (cs:w.cell? ⟨br,x.src.toNat,none⟩=some (.int .i64 xs)) (xd yd:Value) (cd:w.cell? ⟨br,x.dst.toNat,none⟩=some xd) (fd:w.frozen? ⟨br,x.dst.toNat,none⟩=false)
 (ld:w.cell? ⟨bl,x.dst.toNat,none⟩=some yd) (fl:w.frozen? ⟨bl,x.dst.toNat,none⟩=false)
 (n1:¬nb=br) (n2:¬bl=br) (ok:okB x) (hw:IntKind.i64.wrap (xs+x.most)=xs+x.most)
 (hQ:∀ b:Act,b.defers=a.defers→Q .normal b ((w.drew.setCell ⟨br,x.dst.toNat,none⟩ (.int .i64 (xs+x.most))).setCell ⟨bl,x.dst.toNat,none⟩ (.int .i64 k))):
 bod.wpIn (Fence.wide.inRound l) m Tryz.prog Q a w:=by
 obtain ⟨o1,o2,o3,o4,o5,o6⟩:=ok
 subst hbod
 unfold codes202 Tryz.f105
 dsimp only
 refine wpIn_block ?_
 obtain ⟨w1,hw1⟩:∃ w1,w.drew=w1:=⟨_,rfl⟩
 obtain ⟨w2,hw2⟩:∃ w2,w1.setCell ⟨br,x.dst.toNat,none⟩ (.int .i64 (xs+x.most))=w2:=⟨_,rfl⟩
 obtain ⟨w3,hw3⟩:∃ w3,w2.setCell ⟨bl,x.dst.toNat,none⟩ (.int .i64 k)=w3:=⟨_,rfl⟩
 rw [hw1,hw2,hw3] at hQ
 have c3:w1.cell? ⟨r3,0,none⟩=some (.pointer (some ⟨br,0,none⟩)):=by rw [←hw1];exact c3
 have c0:w1.cell? ⟨nb,0,none⟩=some (.int .i64 x.src):=by rw [←hw1];exact c0
 have c1:w1.cell? ⟨nb,1,none⟩=some (.int .i64 x.dst):=by rw [←hw1];exact c1
 have c2:w1.cell? ⟨nb,2,none⟩=some (.int .i64 x.most):=by rw [←hw1];exact c2
 have c1':w2.cell? ⟨nb,1,none⟩=some (.int .i64 x.dst):=by rw [←hw2,World.cell?_setCell_other _ _ _ _ (fun e=>n1 (congrArg Addr.block e).symm)];exact c1
 have cs:w1.cell? ⟨br,x.src.toNat,none⟩=some (.int .i64 xs):=by rw [←hw1];exact cs
 have cd:w1.cell? ⟨br,x.dst.toNat,none⟩=some xd:=by rw [←hw1];exact cd
 have fd:w1.frozen? ⟨br,x.dst.toNat,none⟩=false:=by rw [←hw1];exact fd
 have ld:w2.cell? ⟨bl,x.dst.toNat,none⟩=some yd:=by rw [←hw2,World.cell?_setCell_other _ _ _ _ (fun e=>n2 (congrArg Addr.block e).symm),←hw1];exact ld
 have fl:w2.frozen? ⟨bl,x.dst.toNat,none⟩=false:=by rw [←hw2,World.frozen?_setCell,←hw1];exact fl
 obtain ⟨Wf,hWf⟩:∃ Wf:Array Bool→World,∀ L,Wf L=if L.getD 19 false=true then w3 else if L.getD 17 false=true then w2 else w1:=⟨fun L=>if L.getD 19 false=true then w3 else if L.getD 17 false=true then w2 else w1,fun _=>rfl⟩
 refine wpIn_region_tab (by kernel_rfl) (fun _=>trivial) (tab202 br nb bl x xs k) Wf (by rw [hT];kernel_rfl) ?_ ?_ ?_
 · rw [hWf,hw1];rfl
 · intro listed i o b hi ho hb
   obtain ⟨hun,oi,hoi,hall⟩:=mem_ready.1 hi
   have:oi=o:=Option.some.inj (hoi.symm.trans ho)
   subst this
   clear hoi hi hQ
   have hlt:i<20:=by have:=(Array.getElem?_eq_some_iff.1 ho).1;simpa using this
   have no3:=dst_no (ops:=_) (d:=3) hb
   have no4:=dst_no (ops:=_) (d:=4) hb
   have no8:=dst_no (ops:=_) (d:=8) hb
   have no9:=dst_no (ops:=_) (d:=9) hb
   rcases (by omega:i=0∨i=1∨i=2∨i=3∨i=4∨i=5∨i=6∨i=7∨i=8∨i=9∨i=10∨i=11∨i=12∨i=13∨i=14∨i=15∨i=16∨i=17∨i=18∨i=19) with rfl|rfl|rfl|rfl|rfl|rfl|rfl|rfl|rfl|rfl|rfl|rfl|rfl|rfl|rfl|rfl|rfl|rfl|rfl|rfl
   ·
    simp only [List.getElem?_toArray,List.getElem?_cons_zero] at ho;cases ho
    have o3:=(hb.old 3 (no3 (by kernel_rfl))).trans h3;have q3:b.eval (.tmp 3)=_:=o3
    have n17:listed.getD 17 false=false:=not_listed (hb.closed 17 _ rfl) ⟨0,.phase⟩ (by simp) rfl (getD_both hun)
    have n19:listed.getD 19 false=false:=not_listed (hb.closed 19 _ rfl) ⟨0,.phase⟩ (by simp) rfl (getD_both hun)
    have hw:Wf listed=w1:=by rw [hWf];simp only [n17,n19];rfl
    have hw':Wf (listed.setIfInBounds 0 true)=Wf listed:=by rw [hWf,hWf];simp only [getD_set_ne false (show (0:Nat)≠17 by decide),getD_set_ne false (show (0:Nat)≠19 by decide)]
    refine .inl ?_;rw [hw',hw];clear hw hw' hWf;go_simp;try rfl
   ·
    simp only [List.getElem?_toArray,List.getElem?_cons_zero,List.getElem?_cons_succ] at ho;cases ho
    have o9:=(hb.old 9 (no9 (by kernel_rfl))).trans h9;have q9:b.eval (.tmp 9)=_:=o9
    have n17:listed.getD 17 false=false:=not_listed (hb.closed 17 _ rfl) ⟨1,.phase⟩ (by simp) rfl (getD_both hun)
    have n19:listed.getD 19 false=false:=not_listed (hb.closed 19 _ rfl) ⟨1,.phase⟩ (by simp) rfl (getD_both hun)
    have hw:Wf listed=w1:=by rw [hWf];simp only [n17,n19];rfl
    have hw':Wf (listed.setIfInBounds 1 true)=Wf listed:=by rw [hWf,hWf];simp only [getD_set_ne false (show (1:Nat)≠17 by decide),getD_set_ne false (show (1:Nat)≠19 by decide)]
    refine .inl ?_;rw [hw',hw];clear hw hw' hWf;go_simp;try rfl
   ·
    simp only [List.getElem?_toArray,List.getElem?_cons_zero,List.getElem?_cons_succ] at ho;cases ho
    have e1:b.tmps.getD 30 undef = .pointer (some ⟨nb,1,none⟩):=hb.val 1 30 rfl (hall ⟨1,.data⟩ (by simp) rfl)
    have n17:listed.getD 17 false=false:=not_listed (hb.closed 17 _ rfl) ⟨2,.phase⟩ (by simp) rfl (getD_both hun)
    have n19:listed.getD 19 false=false:=not_listed (hb.closed 19 _ rfl) ⟨2,.phase⟩ (by simp) rfl (getD_both hun)
    have hw:Wf listed=w1:=by rw [hWf];simp only [n17,n19];rfl
    have hw':Wf (listed.setIfInBounds 2 true)=Wf listed:=by rw [hWf,hWf];simp only [getD_set_ne false (show (2:Nat)≠17 by decide),getD_set_ne false (show (2:Nat)≠19 by decide)]
    refine .inl ?_;rw [hw',hw];clear hw hw' hWf;go_simp;try rfl
   ·
    simp only [List.getElem?_toArray,List.getElem?_cons_zero,List.getElem?_cons_succ] at ho;cases ho
    have o9:=(hb.old 9 (no9 (by kernel_rfl))).trans h9;have q9:b.eval (.tmp 9)=_:=o9
    have n19:listed.getD 19 false=false:=not_listed (hb.closed 19 _ rfl) ⟨3,.phase⟩ (by simp) rfl (getD_both hun)
    have hw:Wf listed=w1∨Wf listed=w2:=by rw [hWf];simp only [n19];cases listed.getD 17 false;exact .inl rfl;exact .inr rfl
    have hw':Wf (listed.setIfInBounds 3 true)=Wf listed:=by rw [hWf,hWf];simp only [getD_set_ne false (show (3:Nat)≠17 by decide),getD_set_ne false (show (3:Nat)≠19 by decide)]
    rcases hw with hw|hw<;>(refine .inl ?_;rw [hw',hw];clear hw hw' hWf;go_simp;try rfl)
   ·
    simp only [List.getElem?_toArray,List.getElem?_cons_zero,List.getElem?_cons_succ] at ho;cases ho
    have e3:b.tmps.getD 32 undef = .pointer (some ⟨nb,1,none⟩):=hb.val 3 32 rfl (hall ⟨3,.data⟩ (by simp) rfl)
    have n19:listed.getD 19 false=false:=not_listed (hb.closed 19 _ rfl) ⟨4,.phase⟩ (by simp) rfl (getD_both hun)
    have hw:Wf listed=w1∨Wf listed=w2:=by rw [hWf];simp only [n19];cases listed.getD 17 false;exact .inl rfl;exact .inr rfl
    have hw':Wf (listed.setIfInBounds 4 true)=Wf listed:=by rw [hWf,hWf];simp only [getD_set_ne false (show (4:Nat)≠17 by decide),getD_set_ne false (show (4:Nat)≠19 by decide)]
    rcases hw with hw|hw<;>(refine .inl ?_;rw [hw',hw];clear hw hw' hWf;go_simp;try rfl)
   ·
    simp only [List.getElem?_toArray,List.getElem?_cons_zero,List.getElem?_cons_succ] at ho;cases ho
    have o3:=(hb.old 3 (no3 (by kernel_rfl))).trans h3;have q3:b.eval (.tmp 3)=_:=o3
    have n17:listed.getD 17 false=false:=not_listed (hb.closed 17 _ rfl) ⟨5,.phase⟩ (by simp) rfl (getD_both hun)
    have n19:listed.getD 19 false=false:=not_listed (hb.closed 19 _ rfl) ⟨5,.phase⟩ (by simp) rfl (getD_both hun)
    have hw:Wf listed=w1:=by rw [hWf];simp only [n17,n19];rfl
    have hw':Wf (listed.setIfInBounds 5 true)=Wf listed:=by rw [hWf,hWf];simp only [getD_set_ne false (show (5:Nat)≠17 by decide),getD_set_ne false (show (5:Nat)≠19 by decide)]
    refine .inl ?_;rw [hw',hw];clear hw hw' hWf;go_simp;try rfl
   ·
    simp only [List.getElem?_toArray,List.getElem?_cons_zero,List.getElem?_cons_succ] at ho;cases ho
    have o9:=(hb.old 9 (no9 (by kernel_rfl))).trans h9;have q9:b.eval (.tmp 9)=_:=o9
    have n17:listed.getD 17 false=false:=not_listed (hb.closed 17 _ rfl) ⟨6,.phase⟩ (by simp) rfl (getD_both hun)
    have n19:listed.getD 19 false=false:=not_listed (hb.closed 19 _ rfl) ⟨6,.phase⟩ (by simp) rfl (getD_both hun)
    have hw:Wf listed=w1:=by rw [hWf];simp only [n17,n19];rfl
    have hw':Wf (listed.setIfInBounds 6 true)=Wf listed:=by rw [hWf,hWf];simp only [getD_set_ne false (show (6:Nat)≠17 by decide),getD_set_ne false (show (6:Nat)≠19 by decide)]
    refine .inl ?_;rw [hw',hw];clear hw hw' hWf;go_simp;try rfl
   ·
    simp only [List.getElem?_toArray,List.getElem?_cons_zero,List.getElem?_cons_succ] at ho;cases ho
    have e6:b.tmps.getD 35 undef = .pointer (some ⟨nb,0,none⟩):=hb.val 6 35 rfl (hall ⟨6,.data⟩ (by simp) rfl)
    have n17:listed.getD 17 false=false:=not_listed (hb.closed 17 _ rfl) ⟨7,.phase⟩ (by simp) rfl (getD_both hun)
    have n19:listed.getD 19 false=false:=not_listed (hb.closed 19 _ rfl) ⟨7,.phase⟩ (by simp) rfl (getD_both hun)
    have hw:Wf listed=w1:=by rw [hWf];simp only [n17,n19];rfl
    have hw':Wf (listed.setIfInBounds 7 true)=Wf listed:=by rw [hWf,hWf];simp only [getD_set_ne false (show (7:Nat)≠17 by decide),getD_set_ne false (show (7:Nat)≠19 by decide)]
    refine .inl ?_;rw [hw',hw];clear hw hw' hWf;go_simp;try rfl
   ·
    simp only [List.getElem?_toArray,List.getElem?_cons_zero,List.getElem?_cons_succ] at ho;cases ho
    have e5:b.tmps.getD 34 undef = .pointer (some ⟨br,0,none⟩):=hb.val 5 34 rfl (hall ⟨5,.data⟩ (by simp) rfl)
    have n17:listed.getD 17 false=false:=not_listed (hb.closed 17 _ rfl) ⟨8,.phase⟩ (by simp) rfl (getD_both hun)
    have n19:listed.getD 19 false=false:=not_listed (hb.closed 19 _ rfl) ⟨8,.phase⟩ (by simp) rfl (getD_both hun)
    have hw:Wf listed=w1:=by rw [hWf];simp only [n17,n19];rfl
    have hw':Wf (listed.setIfInBounds 8 true)=Wf listed:=by rw [hWf,hWf];simp only [getD_set_ne false (show (8:Nat)≠17 by decide),getD_set_ne false (show (8:Nat)≠19 by decide)]
    refine .inl ?_;rw [hw',hw];clear hw hw' hWf;go_simp;try rfl
   ·
    simp only [List.getElem?_toArray,List.getElem?_cons_zero,List.getElem?_cons_succ] at ho;cases ho
    have e8:b.tmps.getD 37 undef = .pointer (some ⟨br,0,none⟩):=hb.val 8 37 rfl (hall ⟨8,.data⟩ (by simp) rfl)
    have e7:b.tmps.getD 36 undef = .int .i64 x.src:=hb.val 7 36 rfl (hall ⟨7,.data⟩ (by simp) rfl)
    have n17:listed.getD 17 false=false:=not_listed (hb.closed 17 _ rfl) ⟨9,.phase⟩ (by simp) rfl (getD_both hun)
    have n19:listed.getD 19 false=false:=not_listed (hb.closed 19 _ rfl) ⟨9,.phase⟩ (by simp) rfl (getD_both hun)
    have hw:Wf listed=w1:=by rw [hWf];simp only [n17,n19];rfl
    have hw':Wf (listed.setIfInBounds 9 true)=Wf listed:=by rw [hWf,hWf];simp only [getD_set_ne false (show (9:Nat)≠17 by decide),getD_set_ne false (show (9:Nat)≠19 by decide)]
    refine .inl ?_;rw [hw',hw];clear hw hw' hWf;go_simp;try rfl
   ·
    simp only [List.getElem?_toArray,List.getElem?_cons_zero,List.getElem?_cons_succ] at ho;cases ho
    have e9:b.tmps.getD 38 undef = .pointer (some ⟨br,x.src.toNat,none⟩):=hb.val 9 38 rfl (hall ⟨9,.data⟩ (by simp) rfl)
    have n17:listed.getD 17 false=false:=not_listed (hb.closed 17 _ rfl) ⟨10,.phase⟩ (by simp) rfl (getD_both hun)
    have n19:listed.getD 19 false=false:=not_listed (hb.closed 19 _ rfl) ⟨10,.phase⟩ (by simp) rfl (getD_both hun)
    have hw:Wf listed=w1:=by rw [hWf];simp only [n17,n19];rfl
    have hw':Wf (listed.setIfInBounds 10 true)=Wf listed:=by rw [hWf,hWf];simp only [getD_set_ne false (show (10:Nat)≠17 by decide),getD_set_ne false (show (10:Nat)≠19 by decide)]
    refine .inl ?_;rw [hw',hw];clear hw hw' hWf;go_simp;try rfl
   ·
    simp only [List.getElem?_toArray,List.getElem?_cons_zero,List.getElem?_cons_succ] at ho;cases ho
    have o9:=(hb.old 9 (no9 (by kernel_rfl))).trans h9;have q9:b.eval (.tmp 9)=_:=o9
    have n17:listed.getD 17 false=false:=not_listed (hb.closed 17 _ rfl) ⟨11,.phase⟩ (by simp) rfl (getD_both hun)
    have n19:listed.getD 19 false=false:=not_listed (hb.closed 19 _ rfl) ⟨11,.phase⟩ (by simp) rfl (getD_both hun)
    have hw:Wf listed=w1:=by rw [hWf];simp only [n17,n19];rfl
    have hw':Wf (listed.setIfInBounds 11 true)=Wf listed:=by rw [hWf,hWf];simp only [getD_set_ne false (show (11:Nat)≠17 by decide),getD_set_ne false (show (11:Nat)≠19 by decide)]
    refine .inl ?_;rw [hw',hw];clear hw hw' hWf;go_simp;try rfl
   ·
    simp only [List.getElem?_toArray,List.getElem?_cons_zero,List.getElem?_cons_succ] at ho;cases ho
    have e11:b.tmps.getD 40 undef = .pointer (some ⟨nb,2,none⟩):=hb.val 11 40 rfl (hall ⟨11,.data⟩ (by simp) rfl)
    have n17:listed.getD 17 false=false:=not_listed (hb.closed 17 _ rfl) ⟨12,.phase⟩ (by simp) rfl (getD_both hun)
    have n19:listed.getD 19 false=false:=not_listed (hb.closed 19 _ rfl) ⟨12,.phase⟩ (by simp) rfl (getD_both hun)
    have hw:Wf listed=w1:=by rw [hWf];simp only [n17,n19];rfl
    have hw':Wf (listed.setIfInBounds 12 true)=Wf listed:=by rw [hWf,hWf];simp only [getD_set_ne false (show (12:Nat)≠17 by decide),getD_set_ne false (show (12:Nat)≠19 by decide)]
    refine .inl ?_;rw [hw',hw];clear hw hw' hWf;go_simp;try rfl
   ·
    simp only [List.getElem?_toArray,List.getElem?_cons_zero,List.getElem?_cons_succ] at ho;cases ho
    have e10:b.tmps.getD 39 undef = .int .i64 xs:=hb.val 10 39 rfl (hall ⟨10,.data⟩ (by simp) rfl)
    have e12:b.tmps.getD 41 undef = .int .i64 x.most:=hb.val 12 41 rfl (hall ⟨12,.data⟩ (by simp) rfl)
    have n17:listed.getD 17 false=false:=not_listed (hb.closed 17 _ rfl) ⟨13,.data⟩ (by simp) rfl (getD_both hun)
    have n19:listed.getD 19 false=false:=not_listed (hb.closed 19 _ rfl) ⟨13,.phase⟩ (by simp) rfl (getD_both hun)
    have hw:Wf listed=w1:=by rw [hWf];simp only [n17,n19];rfl
    have hw':Wf (listed.setIfInBounds 13 true)=Wf listed:=by rw [hWf,hWf];simp only [getD_set_ne false (show (13:Nat)≠17 by decide),getD_set_ne false (show (13:Nat)≠19 by decide)]
    refine .inl ?_;rw [hw',hw];clear hw hw' hWf;go_simp;try rfl
   ·
    simp only [List.getElem?_toArray,List.getElem?_cons_zero,List.getElem?_cons_succ] at ho;cases ho
    have o8:=(hb.old 8 (no8 (by kernel_rfl))).trans h8;have q8:b.eval (.tmp 8)=_:=o8
    have n19:listed.getD 19 false=false:=not_listed (hb.closed 19 _ rfl) ⟨14,.data⟩ (by simp) rfl (getD_both hun)
    have hw:Wf listed=w1∨Wf listed=w2:=by rw [hWf];simp only [n19];cases listed.getD 17 false;exact .inl rfl;exact .inr rfl
    have hw':Wf (listed.setIfInBounds 14 true)=Wf listed:=by rw [hWf,hWf];simp only [getD_set_ne false (show (14:Nat)≠17 by decide),getD_set_ne false (show (14:Nat)≠19 by decide)]
    rcases hw with hw|hw<;>(refine .inl ?_;rw [hw',hw];clear hw hw' hWf;go_simp;try rfl)
   ·
    simp only [List.getElem?_toArray,List.getElem?_cons_zero,List.getElem?_cons_succ] at ho;cases ho
    have e0:b.tmps.getD 29 undef = .pointer (some ⟨br,0,none⟩):=hb.val 0 29 rfl (hall ⟨0,.data⟩ (by simp) rfl)
    have n16:listed.getD 16 false=false:=not_listed (hb.closed 16 _ rfl) ⟨15,.data⟩ (by simp) rfl (getD_both hun)
    have n17:listed.getD 17 false=false:=not_listed (hb.closed 17 _ rfl) ⟨16,.data⟩ (by simp) rfl n16
    have n19:listed.getD 19 false=false:=not_listed (hb.closed 19 _ rfl) ⟨15,.phase⟩ (by simp) rfl (getD_both hun)
    have hw:Wf listed=w1:=by rw [hWf];simp only [n17,n19];rfl
    have hw':Wf (listed.setIfInBounds 15 true)=Wf listed:=by rw [hWf,hWf];simp only [getD_set_ne false (show (15:Nat)≠17 by decide),getD_set_ne false (show (15:Nat)≠19 by decide)]
    refine .inl ?_;rw [hw',hw];clear hw hw' hWf;go_simp;try rfl
   ·
    simp only [List.getElem?_toArray,List.getElem?_cons_zero,List.getElem?_cons_succ] at ho;cases ho
    have e15:b.tmps.getD 44 undef = .pointer (some ⟨br,0,none⟩):=hb.val 15 44 rfl (hall ⟨15,.data⟩ (by simp) rfl)
    have e2:b.tmps.getD 31 undef = .int .i64 x.dst:=hb.val 2 31 rfl (hall ⟨2,.data⟩ (by simp) rfl)
    have n17:listed.getD 17 false=false:=not_listed (hb.closed 17 _ rfl) ⟨16,.data⟩ (by simp) rfl (getD_both hun)
    have n19:listed.getD 19 false=false:=not_listed (hb.closed 19 _ rfl) ⟨16,.phase⟩ (by simp) rfl (getD_both hun)
    have hw:Wf listed=w1:=by rw [hWf];simp only [n17,n19];rfl
    have hw':Wf (listed.setIfInBounds 16 true)=Wf listed:=by rw [hWf,hWf];simp only [getD_set_ne false (show (16:Nat)≠17 by decide),getD_set_ne false (show (16:Nat)≠19 by decide)]
    refine .inl ?_;rw [hw',hw];clear hw hw' hWf;go_simp;try rfl
   ·
    simp only [List.getElem?_toArray,List.getElem?_cons_zero,List.getElem?_cons_succ] at ho;cases ho
    have e16:b.tmps.getD 45 undef = .pointer (some ⟨br,x.dst.toNat,none⟩):=hb.val 16 45 rfl (hall ⟨16,.data⟩ (by simp) rfl)
    have e13:b.tmps.getD 42 undef = .int .i64 (xs+x.most):=hb.val 13 42 rfl (hall ⟨13,.data⟩ (by simp) rfl)
    have n17:listed.getD 17 false=false:=getD_both hun
    have n19:listed.getD 19 false=false:=not_listed (hb.closed 19 _ rfl) ⟨17,.chain⟩ (by simp) rfl (getD_both hun)
    have hw:Wf listed=w1:=by rw [hWf];simp only [n17,n19];rfl
    have hw':Wf (listed.setIfInBounds 17 true)=w2:=by rw [hWf];simp only [getD_set_ne false (show (17:Nat)≠19 by decide),n19,getD_set_self hb.size (show 17<20 by decide)];rfl
    refine .inr ⟨?_,rfl⟩;rw [hw',hw];clear hw hw' hWf;go_simp;try rfl
   ·
    simp only [List.getElem?_toArray,List.getElem?_cons_zero,List.getElem?_cons_succ] at ho;cases ho
    have e4:b.tmps.getD 33 undef = .int .i64 x.dst:=hb.val 4 33 rfl (hall ⟨4,.data⟩ (by simp) rfl)
    have o4:=(hb.old 4 (no4 (by kernel_rfl))).trans h4;have q4:b.eval (.tmp 4)=_:=o4
    have n19:listed.getD 19 false=false:=not_listed (hb.closed 19 _ rfl) ⟨18,.data⟩ (by simp) rfl (getD_both hun)
    have y17:listed.getD 17 false=true:=hall ⟨17,.phase⟩ (by simp) rfl
    have hw:Wf listed=w2:=by rw [hWf];simp only [n19,y17];rfl
    have hw':Wf (listed.setIfInBounds 18 true)=Wf listed:=by rw [hWf,hWf];simp only [getD_set_ne false (show (18:Nat)≠17 by decide),getD_set_ne false (show (18:Nat)≠19 by decide)]
    refine .inl ?_;rw [hw',hw];clear hw hw' hWf;go_simp;try rfl
   ·
    simp only [List.getElem?_toArray,List.getElem?_cons_zero,List.getElem?_cons_succ] at ho;cases ho
    have e18:b.tmps.getD 46 undef = .pointer (some ⟨bl,x.dst.toNat,none⟩):=hb.val 18 46 rfl (hall ⟨18,.data⟩ (by simp) rfl)
    have e14:b.tmps.getD 43 undef = .int .i64 k:=hb.val 14 43 rfl (hall ⟨14,.data⟩ (by simp) rfl)
    have n19:listed.getD 19 false=false:=getD_both hun
    have y17:listed.getD 17 false=true:=hall ⟨17,.chain⟩ (by simp) rfl
    have hw:Wf listed=w2:=by rw [hWf];simp only [n19,y17];rfl
    have hw':Wf (listed.setIfInBounds 19 true)=w3:=by rw [hWf];simp only [getD_set_self hb.size (show 19<20 by decide)];rfl
    refine .inr ⟨?_,rfl⟩;rw [hw',hw];clear hw hw' hWf;go_simp;try rfl
 · intro b hb
   have:Wf (Array.replicate 20 true)=w3:=by rw [hWf];rfl
   rw [←this] at hQ
   exact hQ b hb.defers
end Go.Proofs.YtejjplhknacoiaaGreatDoor
end
section
namespace Go.Proofs.YtejjplhknacoiaaGreatDoor
open Go.RowKit Go.Proofs
def framed (ops:Array Oper) (V:Nat→Value) (t:Array Value):Nat→Array Value
 | 0=>t
 | k+1=>match dstOf ops k with
   | some d=>(framed ops V t k).setIfInBounds d (V k)
   | none=>framed ops V t k
section
variable {ops:Array Oper} {V:Nat→Value} {t:Array Value}
theorem framed_size (k:Nat):(framed ops V t k).size=t.size:=by
 induction k with
 | zero=>rfl
 | succ k ih=>unfold framed;split<;>simp [ih]
theorem framed_old (d k:Nat) (h:∀ j,j<k→dstOf ops j≠some d):(framed ops V t k).getD d undef=t.getD d undef:=by
 induction k with
 | zero=>rfl
 | succ k ih=>
   have:=ih (fun j hj=>h j (by omega))
   unfold framed
   split
   · rename_i d' hd
     have hne:d'≠d:=fun e=>h k (by omega) (by rw [hd,e])
     rw [←this]
     simp only [Array.getD_eq_getD_getElem?,Array.getElem?_setIfInBounds_ne hne]
   · exact this
theorem framed_val {m:Nat} (hok:tabOk ops m=true) (hm:m=t.size) {d j:Nat} (hj:dstOf ops j=some d) (k:Nat) (hk:k≤ops.size) (hjk:j<k):(framed ops V t k).getD d undef=V j:=by
 have hjs:j<ops.size:=by omega
 have ho:ops[j]? = some ops[j]:=Array.getElem?_eq_getElem hjs
 have hdst:ops[j].dst=some d:=by rw [dstOf,ho] at hj;exact hj
 obtain ⟨_,_,_,hd⟩:=tabOk_at hok ho
 obtain ⟨hlt,huniq⟩:=hd d hdst
 induction k with
 | zero=>omega
 | succ k ih=>
   by_cases h:j=k
   · subst h
     unfold framed
     rw [hj]
     have:d<(framed ops V t j).size:=by rw [framed_size,←hm];exact hlt
     simp [this]
   · have:=ih (by omega) (by omega)
     unfold framed
     split
     · rename_i d' hd'
       have hne:d'≠d:=fun e=>huniq k (by omega) (fun e2=>h e2.symm) (by rw [hd',e])
       rw [←this]
       simp only [Array.getD_eq_getD_getElem?,Array.getElem?_setIfInBounds_ne hne]
     · exact this
theorem TabAt.frame {m:Nat} {a b:Act} (hok:tabOk ops m=true) (hm:m=a.tmps.size) (h:TabAt ops V a (Array.replicate ops.size true) b):b.tmps=framed ops V a.tmps ops.size:=by
 apply Array.ext
 · rw [framed_size,h.tsize]
 · intro d h1 h2
   have e1:b.tmps[d]=b.tmps.getD d undef:=by simp [h1]
   have e2:(framed ops V a.tmps ops.size)[d]=(framed ops V a.tmps ops.size).getD d undef:=by simp [h2]
   rw [e1,e2]
   by_cases hj:∃ j,dstOf ops j=some d
   · obtain ⟨j,hj⟩:=hj
     have hjs:j<ops.size:=by
      rcases Nat.lt_or_ge j ops.size with h|h
      · exact h
      · simp [dstOf,Array.getElem?_eq_none h] at hj
     rw [framed_val hok hm hj ops.size (Nat.le_refl _) hjs,h.val j d hj (by simp [hjs])]
   · have hno:∀ j,dstOf ops j≠some d:=fun j e=>hj ⟨j,e⟩
     rw [framed_old d _ (fun j _=>hno j),h.old d hno]
theorem TabAt.act {m:Nat} {a b:Act} (hok:tabOk ops m=true) (hm:m=a.tmps.size) (h:TabAt ops V a (Array.replicate ops.size true) b):b = { tmps:=framed ops V a.tmps ops.size,defers:=a.defers } := by
 have h1:=h.frame hok hm
 have h2:=h.defers
 cases b
 cases h1
 cases h2
 rfl
end
end Go.Proofs.YtejjplhknacoiaaGreatDoor
end

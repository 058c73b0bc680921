/- Contracts that the laws lean on: Set1, Set2, Marks, Gw2. -/
import Derived.Test.YtpmkgmilfifkpaaGreatDoorDE02
set_option maxRecDepth 100000
set_option maxHeartbeats 4000000
section
namespace Go.Proofs.YtpmkgmilfifkpaaGreatDoor
open Go.RowKit Go.Proofs Go.Shelf
theorem getD_set_self {listed:Array Bool} {i n:Nat} (hs:listed.size=n) (hi:i<n):(listed.setIfInBounds i true).getD i false=true:=by
 simp [hs,hi]
theorem not_listed {listed:Array Bool} {j:Nat} {es:Array Edge} (hc:listed.getD j false=true→∀ e∈es,Region.binds .any e=true→listed.getD e.on false=true) (e:Edge) (he:e∈es) (hb:Region.binds .any e=true) (hun:listed.getD e.on false=false):
 listed.getD j false=false:=by
 cases hl:listed.getD j false with
 | false=>rfl
 | true=>
   have:=hc hl e he hb
   rw [hun] at this
   cases this
theorem dst_no {ops:Array Oper} {V:Nat→Value} {a0:Act} {listed:Array Bool} {b:Act} {d:Nat} (_:TabAt ops V a0 listed b) (h:((List.range ops.size).all fun j=>dstOf ops j != some d)=true):∀ j,dstOf ops j≠some d:=by
 intro j hj
 have hjs:j<ops.size:=by
  rcases Nat.lt_or_ge j ops.size with h|h
  · exact h
  · simp [dstOf,Array.getElem?_eq_none h] at hj
 have:=List.all_eq_true.1 h j (List.mem_range.2 hjs)
 rw [hj] at this
 simp at this
def codes202:Option Code→Code×Code
 | some (.seq _ (.seq _ (.seq (.seq _ (.block _ (.loop (.seq _ (.seq _ (.seq (.block _ (.seq _ (.seq (.seq _ (.block _ (.rangeFunc _ _ a b))) _))) _)))))) _)))=>(a,b)
 | _=>(.skip,.skip)
def tab202 (br nb bl:Nat) (x:Bound) (xs:Int) (k:Nat):Nat→Value
 | 0=> .pointer (some ⟨br,0,none⟩)
 | 1=> .pointer (some ⟨nb,1,none⟩)
 | 2=> .int .i64 x.dst
 | 3=> .pointer (some ⟨nb,1,none⟩)
 | 4=> .int .i64 x.dst
 | 5=> .pointer (some ⟨br,0,none⟩)
 | 6=> .pointer (some ⟨nb,0,none⟩)
 | 7=> .int .i64 x.src
 | 8=> .pointer (some ⟨br,0,none⟩)
 | 9=> .pointer (some ⟨br,x.src.toNat,none⟩)
 | 10=> .int .i64 xs
 | 11=> .pointer (some ⟨nb,2,none⟩)
 | 12=> .int .i64 x.most
 | 13=> .int .i64 (xs+x.most)
 | 14=> .int .i64 k
 | 15=> .pointer (some ⟨br,0,none⟩)
 | 16=> .pointer (some ⟨br,x.dst.toNat,none⟩)
 | 17=>undef
 | 18=> .pointer (some ⟨bl,x.dst.toNat,none⟩)
 | 19=>undef
 | _=>undef
theorem body202 (bod:Code) (hbod:bod=(codes202 Tryz.f134.body).2) (l m:Nat) (a:Act) (w:World) (r3 br bl nb k:Nat) (x:Bound) (xs:Int) (Q:Exit→Act→World→Prop)
 (hT:a.tmps.size=55) (h3:a.tmps.getD 3 undef = .pointer (some ⟨r3,0,none⟩)) (h4:a.tmps.getD 4 undef = .pointer (some ⟨bl,0,none⟩)) (h8:a.tmps.getD 8 undef = .int .i64 k) (h9:a.tmps.getD 9 undef = .pointer (some ⟨nb,0,none⟩))
 (c3:w.cell? ⟨r3,0,none⟩=some (.pointer (some ⟨br,0,none⟩)))
 (c0:w.cell? ⟨nb,0,none⟩=some (.int .i64 x.src)) (c1:w.cell? ⟨nb,1,none⟩=some (.int .i64 x.dst)) (c2:w.cell? ⟨nb,2,none⟩=some (.int .i64 x.most))
 (cs:w.cell? ⟨br,x.src.toNat,none⟩=some (.int .i64 xs)) (xd yd:Value) (cd:w.cell? ⟨br,x.dst.toNat,none⟩=some xd) (fd:w.frozen? ⟨br,x.dst.toNat,none⟩=false)
 (ld:w.cell? ⟨bl,x.dst.toNat,none⟩=some yd) (fl:w.frozen? ⟨bl,x.dst.toNat,none⟩=false)
 (n1:¬nb=br) (n2:¬bl=br) (ok:okB x) (hw:IntKind.i64.wrap (xs+x.most)=xs+x.most)
 (hQ:∀ b:Act,b.defers=a.defers→Q .normal b ((w.drew.setCell ⟨br,x.dst.toNat,none⟩ (.int .i64 (xs+x.most))).setCell ⟨bl,x.dst.toNat,none⟩ (.int .i64 k))):
 bod.wpIn (Fence.wide.inRound l) m Tryz.prog Q a w:=by
 obtain ⟨o1,o2,o3,o4,o5,o6⟩:=ok
 subst hbod
 unfold codes202 Tryz.f134
 dsimp only
 refine wpIn_block ?_
 obtain ⟨w1,hw1⟩:∃ w1,w.drew=w1:=⟨_,rfl⟩
 obtain ⟨w2,hw2⟩:∃ w2,w1.setCell ⟨br,x.dst.toNat,none⟩ (.int .i64 (xs+x.most))=w2:=⟨_,rfl⟩
 obtain ⟨w3,hw3⟩:∃ w3,w2.setCell ⟨bl,x.dst.toNat,none⟩ (.int .i64 k)=w3:=⟨_,rfl⟩
 rw [hw1,hw2,hw3] at hQ
 have c3:w1.cell? ⟨r3,0,none⟩=some (.pointer (some ⟨br,0,none⟩)):=by rw [←hw1];exact c3
 have c0:w1.cell? ⟨nb,0,none⟩=some (.int .i64 x.src):=by rw [←hw1];exact c0
 have c1:w1.cell? ⟨nb,1,none⟩=some (.int .i64 x.dst):=by rw [←hw1];exact c1
 have c2:w1.cell? ⟨nb,2,none⟩=some (.int .i64 x.most):=by rw [←hw1];exact c2
 have c1':w2.cell? ⟨nb,1,none⟩=some (.int .i64 x.dst):=by rw [←hw2,World.cell?_setCell_other _ _ _ _ (fun e=>n1 (congrArg Addr.block e).symm)];exact c1
 have cs:w1.cell? ⟨br,x.src.toNat,none⟩=some (.int .i64 xs):=by rw [←hw1];exact cs
 have cd:w1.cell? ⟨br,x.dst.toNat,none⟩=some xd:=by rw [←hw1];exact cd
 have fd:w1.frozen? ⟨br,x.dst.toNat,none⟩=false:=by rw [←hw1];exact fd
 have ld:w2.cell? ⟨bl,x.dst.toNat,none⟩=some yd:=by rw [←hw2,World.cell?_setCell_other _ _ _ _ (fun e=>n2 (congrArg Addr.block e).symm),←hw1];exact ld
 have fl:w2.frozen? ⟨bl,x.dst.toNat,none⟩=false:=by rw [←hw2,World.frozen?_setCell,←hw1];exact fl
 obtain ⟨Wf,hWf⟩:∃ Wf:Array Bool→World,∀ L,Wf L=if L.getD 19 false=true then w3 else if L.getD 17 false=true then w2 else w1:=⟨fun L=>if L.getD 19 false=true then w3 else if L.getD 17 false=true then w2 else w1,fun _=>rfl⟩
 refine wpIn_region_tab (by kernel_rfl) (fun _=>trivial) (tab202 br nb bl x xs k) Wf (by rw [hT];kernel_rfl) ?_ ?_ ?_
 · rw [hWf,hw1];rfl
 · intro listed i o b hi ho hb
   obtain ⟨hun,oi,hoi,hall⟩:=mem_ready.1 hi
   have:oi=o:=Option.some.inj (hoi.symm.trans ho)
   subst this
   clear hoi hi hQ
   have hlt:i<20:=by have:=(Array.getElem?_eq_some_iff.1 ho).1;simpa using this
   have no3:=dst_no (ops:=_) (d:=3) hb
   have no4:=dst_no (ops:=_) (d:=4) hb
   have no8:=dst_no (ops:=_) (d:=8) hb
   have no9:=dst_no (ops:=_) (d:=9) hb
   rcases (by omega:i=0∨i=1∨i=2∨i=3∨i=4∨i=5∨i=6∨i=7∨i=8∨i=9∨i=10∨i=11∨i=12∨i=13∨i=14∨i=15∨i=16∨i=17∨i=18∨i=19) with rfl|rfl|rfl|rfl|rfl|rfl|rfl|rfl|rfl|rfl|rfl|rfl|rfl|rfl|rfl|rfl|rfl|rfl|rfl|rfl
   ·
    simp only [List.getElem?_toArray,List.getElem?_cons_zero] at ho;cases ho
    have o3:=(hb.old 3 (no3 (by kernel_rfl))).trans h3;have q3:b.eval (.tmp 3)=_:=o3
    have n17:listed.getD 17 false=false:=not_listed (hb.closed 17 _ rfl) ⟨0,.phase⟩ (by simp) rfl (getD_both hun)
    have n19:listed.getD 19 false=false:=not_listed (hb.closed 19 _ rfl) ⟨0,.phase⟩ (by simp) rfl (getD_both hun)
    have hw:Wf listed=w1:=by rw [hWf];simp only [n17,n19];rfl
    have hw':Wf (listed.setIfInBounds 0 true)=Wf listed:=by rw [hWf,hWf];simp only [getD_set_ne false (show (0:Nat)≠17 by decide),getD_set_ne false (show (0:Nat)≠19 by decide)]
    refine .inl ?_;rw [hw',hw];clear hw hw' hWf;go_simp;try rfl
   ·
    simp only [List.getElem?_toArray,List.getElem?_cons_zero,List.getElem?_cons_succ] at ho;cases ho
    have o9:=(hb.old 9 (no9 (by kernel_rfl))).trans h9;have q9:b.eval (.tmp 9)=_:=o9
    have n17:listed.getD 17 false=false:=not_listed (hb.closed 17 _ rfl) ⟨1,.phase⟩ (by simp) rfl (getD_both hun)
    have n19:listed.getD 19 false=false:=not_listed (hb.closed 19 _ rfl) ⟨1,.phase⟩ (by simp) rfl (getD_both hun)
    have hw:Wf listed=w1:=by rw [hWf];simp only [n17,n19];rfl
    have hw':Wf (listed.setIfInBounds 1 true)=Wf listed:=by rw [hWf,hWf];simp only [getD_set_ne false (show (1:Nat)≠17 by decide),getD_set_ne false (show (1:Nat)≠19 by decide)]
    refine .inl ?_;rw [hw',hw];clear hw hw' hWf;go_simp;try rfl
   ·
    simp only [List.getElem?_toArray,List.getElem?_cons_zero,List.getElem?_cons_succ] at ho;cases ho
    have e1:b.tmps.getD 30 undef = .pointer (some ⟨nb,1,none⟩):=hb.val 1 30 rfl (hall ⟨1,.data⟩ (by simp) rfl)
    have n17:listed.getD 17 false=false:=not_listed (hb.closed 17 _ rfl) ⟨2,.phase⟩ (by simp) rfl (getD_both hun)
    have n19:listed.getD 19 false=false:=not_listed (hb.closed 19 _ rfl) ⟨2,.phase⟩ (by simp) rfl (getD_both hun)
    have hw:Wf listed=w1:=by rw [hWf];simp only [n17,n19];rfl
    have hw':Wf (listed.setIfInBounds 2 true)=Wf listed:=by rw [hWf,hWf];simp only [getD_set_ne false (show (2:Nat)≠17 by decide),getD_set_ne false (show (2:Nat)≠19 by decide)]
    refine .inl ?_;rw [hw',hw];clear hw hw' hWf;go_simp;try rfl
   ·
    simp only [List.getElem?_toArray,List.getElem?_cons_zero,List.getElem?_cons_succ] at ho;cases ho
    have o9:=(hb.old 9 (no9 (by kernel_rfl))).trans h9;have q9:b.eval (.tmp 9)=_:=o9
    have n19:listed.getD 19 false=false:=not_listed (hb.closed 19 _ rfl) ⟨3,.phase⟩ (by simp) rfl (getD_both hun)
    have hw:Wf listed=w1∨Wf listed=w2:=by rw [hWf];simp only [n19];cases listed.getD 17 false;exact .inl rfl;exact .inr rfl
    have hw':Wf (listed.setIfInBounds 3 true)=Wf listed:=by rw [hWf,hWf];simp only [getD_set_ne false (show (3:Nat)≠17 by decide),getD_set_ne false (show (3:Nat)≠19 by decide)]
    rcases hw with hw|hw<;>(refine .inl ?_;rw [hw',hw];clear hw hw' hWf;go_simp;try rfl)
   ·
    simp only [List.getElem?_toArray,List.getElem?_cons_zero,List.getElem?_cons_succ] at ho;cases ho
    have e3:b.tmps.getD 32 undef = .pointer (some ⟨nb,1,none⟩):=hb.val 3 32 rfl (hall ⟨3,.data⟩ (by simp) rfl)
    have n19:listed.getD 19 false=false:=not_listed (hb.closed 19 _ rfl) ⟨4,.phase⟩ (by simp) rfl (getD_both hun)
    have hw:Wf listed=w1∨Wf listed=w2:=by rw [hWf];simp only [n19];cases listed.getD 17 false;exact .inl rfl;exact .inr rfl
    have hw':Wf (listed.setIfInBounds 4 true)=Wf listed:=by rw [hWf,hWf];simp only [getD_set_ne false (show (4:Nat)≠17 by decide),getD_set_ne false (show (4:Nat)≠19 by decide)]
    rcases hw with hw|hw<;>(refine .inl ?_;rw [hw',hw];clear hw hw' hWf;go_simp;try rfl)
   ·
    simp only [List.getElem?_toArray,List.getElem?_cons_zero,List.getElem?_cons_succ] at ho;cases ho
    have o3:=(hb.old 3 (no3 (by kernel_rfl))).trans h3;have q3:b.eval (.tmp 3)=_:=o3
    have n17:listed.getD 17 false=false:=not_listed (hb.closed 17 _ rfl) ⟨5,.phase⟩ (by simp) rfl (getD_both hun)
    have n19:listed.getD 19 false=false:=not_listed (hb.closed 19 _ rfl) ⟨5,.phase⟩ (by simp) rfl (getD_both hun)
    have hw:Wf listed=w1:=by rw [hWf];simp only [n17,n19];rfl
    have hw':Wf (listed.setIfInBounds 5 true)=Wf listed:=by rw [hWf,hWf];simp only [getD_set_ne false (show (5:Nat)≠17 by decide),getD_set_ne false (show (5:Nat)≠19 by decide)]
    refine .inl ?_;rw [hw',hw];clear hw hw' hWf;go_simp;try rfl
   ·
    simp only [List.getElem?_toArray,List.getElem?_cons_zero,List.getElem?_cons_succ] at ho;cases ho
    have o9:=(hb.old 9 (no9 (by kernel_rfl))).trans h9;have q9:b.eval (.tmp 9)=_:=o9
    have n17:listed.getD 17 false=false:=not_listed (hb.closed 17 _ rfl) ⟨6,.phase⟩ (by simp) rfl (getD_both hun)
    have n19:listed.getD 19 false=false:=not_listed (hb.closed 19 _ rfl) ⟨6,.phase⟩ (by simp) rfl (getD_both hun)
    have hw:Wf listed=w1:=by rw [hWf];simp only [n17,n19];rfl
    have hw':Wf (listed.setIfInBounds 6 true)=Wf listed:=by rw [hWf,hWf];simp only [getD_set_ne false (show (6:Nat)≠17 by decide),getD_set_ne false (show (6:Nat)≠19 by decide)]
    refine .inl ?_;rw [hw',hw];clear hw hw' hWf;go_simp;try rfl
   ·
    simp only [List.getElem?_toArray,List.getElem?_cons_zero,List.getElem?_cons_succ] at ho;cases ho
    have e6:b.tmps.getD 35 undef = .pointer (some ⟨nb,0,none⟩):=hb.val 6 35 rfl (hall ⟨6,.data⟩ (by simp) rfl)
    have n17:listed.getD 17 false=false:=not_listed (hb.closed 17 _ rfl) ⟨7,.phase⟩ (by simp) rfl (getD_both hun)
    have n19:listed.getD 19 false=false:=not_listed (hb.closed 19 _ rfl) ⟨7,.phase⟩ (by simp) rfl (getD_both hun)
    have hw:Wf listed=w1:=by rw [hWf];simp only [n17,n19];rfl
    have hw':Wf (listed.setIfInBounds 7 true)=Wf listed:=by rw [hWf,hWf];simp only [getD_set_ne false (show (7:Nat)≠17 by decide),getD_set_ne false (show (7:Nat)≠19 by decide)]
    refine .inl ?_;rw [hw',hw];clear hw hw' hWf;go_simp;try rfl
   ·
    simp only [List.getElem?_toArray,List.getElem?_cons_zero,List.getElem?_cons_succ] at ho;cases ho
    have e5:b.tmps.getD 34 undef = .pointer (some ⟨br,0,none⟩):=hb.val 5 34 rfl (hall ⟨5,.data⟩ (by simp) rfl)
    have n17:listed.getD 17 false=false:=not_listed (hb.closed 17 _ rfl) ⟨8,.phase⟩ (by simp) rfl (getD_both hun)
    have n19:listed.getD 19 false=false:=not_listed (hb.closed 19 _ rfl) ⟨8,.phase⟩ (by simp) rfl (getD_both hun)
    have hw:Wf listed=w1:=by rw [hWf];simp only [n17,n19];rfl
    have hw':Wf (listed.setIfInBounds 8 true)=Wf listed:=by rw [hWf,hWf];simp only [getD_set_ne false (show (8:Nat)≠17 by decide),getD_set_ne false (show (8:Nat)≠19 by decide)]
    refine .inl ?_;rw [hw',hw];clear hw hw' hWf;go_simp;try rfl
   ·
    simp only [List.getElem?_toArray,List.getElem?_cons_zero,List.getElem?_cons_succ] at ho;cases ho
    have e8:b.tmps.getD 37 undef = .pointer (some ⟨br,0,none⟩):=hb.val 8 37 rfl (hall ⟨8,.data⟩ (by simp) rfl)
    have e7:b.tmps.getD 36 undef = .int .i64 x.src:=hb.val 7 36 rfl (hall ⟨7,.data⟩ (by simp) rfl)
    have n17:listed.getD 17 false=false:=not_listed (hb.closed 17 _ rfl) ⟨9,.phase⟩ (by simp) rfl (getD_both hun)
    have n19:listed.getD 19 false=false:=not_listed (hb.closed 19 _ rfl) ⟨9,.phase⟩ (by simp) rfl (getD_both hun)
    have hw:Wf listed=w1:=by rw [hWf];simp only [n17,n19];rfl
    have hw':Wf (listed.setIfInBounds 9 true)=Wf listed:=by rw [hWf,hWf];simp only [getD_set_ne false (show (9:Nat)≠17 by decide),getD_set_ne false (show (9:Nat)≠19 by decide)]
    refine .inl ?_;rw [hw',hw];clear hw hw' hWf;go_simp;try rfl
   ·
    simp only [List.getElem?_toArray,List.getElem?_cons_zero,List.getElem?_cons_succ] at ho;cases ho
    have e9:b.tmps.getD 38 undef = .pointer (some ⟨br,x.src.toNat,none⟩):=hb.val 9 38 rfl (hall ⟨9,.data⟩ (by simp) rfl)
    have n17:listed.getD 17 false=false:=not_listed (hb.closed 17 _ rfl) ⟨10,.phase⟩ (by simp) rfl (getD_both hun)
    have n19:listed.getD 19 false=false:=not_listed (hb.closed 19 _ rfl) ⟨10,.phase⟩ (by simp) rfl (getD_both hun)
    have hw:Wf listed=w1:=by rw [hWf];simp only [n17,n19];rfl
    have hw':Wf (listed.setIfInBounds 10 true)=Wf listed:=by rw [hWf,hWf];simp only [getD_set_ne false (show (10:Nat)≠17 by decide),getD_set_ne false (show (10:Nat)≠19 by decide)]
    refine .inl ?_;rw [hw',hw];clear hw hw' hWf;go_simp;try rfl
   ·
    simp only [List.getElem?_toArray,List.getElem?_cons_zero,List.getElem?_cons_succ] at ho;cases ho
    have o9:=(hb.old 9 (no9 (by kernel_rfl))).trans h9;have q9:b.eval (.tmp 9)=_:=o9
    have n17:listed.getD 17 false=false:=not_listed (hb.closed 17 _ rfl) ⟨11,.phase⟩ (by simp) rfl (getD_both hun)
    have n19:listed.getD 19 false=false:=not_listed (hb.closed 19 _ rfl) ⟨11,.phase⟩ (by simp) rfl (getD_both hun)
    have hw:Wf listed=w1:=by rw [hWf];simp only [n17,n19];rfl
    have hw':Wf (listed.setIfInBounds 11 true)=Wf listed:=by rw [hWf,hWf];simp only [getD_set_ne false (show (11:Nat)≠17 by decide),getD_set_ne false (show (11:Nat)≠19 by decide)]
    refine .inl ?_;rw [hw',hw];clear hw hw' hWf;go_simp;try rfl
   ·
    simp only [List.getElem?_toArray,List.getElem?_cons_zero,List.getElem?_cons_succ] at ho;cases ho
    have e11:b.tmps.getD 40 undef = .pointer (some ⟨nb,2,none⟩):=hb.val 11 40 rfl (hall ⟨11,.data⟩ (by simp) rfl)
    have n17:listed.getD 17 false=false:=not_listed (hb.closed 17 _ rfl) ⟨12,.phase⟩ (by simp) rfl (getD_both hun)
    have n19:listed.getD 19 false=false:=not_listed (hb.closed 19 _ rfl) ⟨12,.phase⟩ (by simp) rfl (getD_both hun)
    have hw:Wf listed=w1:=by rw [hWf];simp only [n17,n19];rfl
    have hw':Wf (listed.setIfInBounds 12 true)=Wf listed:=by rw [hWf,hWf];simp only [getD_set_ne false (show (12:Nat)≠17 by decide),getD_set_ne false (show (12:Nat)≠19 by decide)]
    refine .inl ?_;rw [hw',hw];clear hw hw' hWf;go_simp;try rfl
   ·
    simp only [List.getElem?_toArray,List.getElem?_cons_zero,List.getElem?_cons_succ] at ho;cases ho
    have e10:b.tmps.getD 39 undef = .int .i64 xs:=hb.val 10 39 rfl (hall ⟨10,.data⟩ (by simp) rfl)
    have e12:b.tmps.getD 41 undef = .int .i64 x.most:=hb.val 12 41 rfl (hall ⟨12,.data⟩ (by simp) rfl)
    have n17:listed.getD 17 false=false:=not_listed (hb.closed 17 _ rfl) ⟨13,.data⟩ (by simp) rfl (getD_both hun)
    have n19:listed.getD 19 false=false:=not_listed (hb.closed 19 _ rfl) ⟨13,.phase⟩ (by simp) rfl (getD_both hun)
    have hw:Wf listed=w1:=by rw [hWf];simp only [n17,n19];rfl
    have hw':Wf (listed.setIfInBounds 13 true)=Wf listed:=by rw [hWf,hWf];simp only [getD_set_ne false (show (13:Nat)≠17 by decide),getD_set_ne false (show (13:Nat)≠19 by decide)]
    refine .inl ?_;rw [hw',hw];clear hw hw' hWf;go_simp;try rfl
   ·
    simp only [List.getElem?_toArray,List.getElem?_cons_zero,List.getElem?_cons_succ] at ho;cases ho
    have o8:=(hb.old 8 (no8 (by kernel_rfl))).trans h8;have q8:b.eval (.tmp 8)=_:=o8
    have n19:listed.getD 19 false=false:=not_listed (hb.closed 19 _ rfl) ⟨14,.data⟩ (by simp) rfl (getD_both hun)
    have hw:Wf listed=w1∨Wf listed=w2:=by rw [hWf];simp only [n19];cases listed.getD 17 false;exact .inl rfl;exact .inr rfl
    have hw':Wf (listed.setIfInBounds 14 true)=Wf listed:=by rw [hWf,hWf];simp only [getD_set_ne false (show (14:Nat)≠17 by decide),getD_set_ne false (show (14:Nat)≠19 by decide)]
    rcases hw with hw|hw<;>(refine .inl ?_;rw [hw',hw];clear hw hw' hWf;go_simp;try rfl)
   ·
    simp only [List.getElem?_toArray,List.getElem?_cons_zero,List.getElem?_cons_succ] at ho;cases ho
    have e0:b.tmps.getD 29 undef = .pointer (some ⟨br,0,none⟩):=hb.val 0 29 rfl (hall ⟨0,.data⟩ (by simp) rfl)
    have n16:listed.getD 16 false=false:=not_listed (hb.closed 16 _ rfl) ⟨15,.data⟩ (by simp) rfl (getD_both hun)
    have n17:listed.getD 17 false=false:=not_listed (hb.closed 17 _ rfl) ⟨16,.data⟩ (by simp) rfl n16
    have n19:listed.getD 19 false=false:=not_listed (hb.closed 19 _ rfl) ⟨15,.phase⟩ (by simp) rfl (getD_both hun)
    have hw:Wf listed=w1:=by rw [hWf];simp only [n17,n19];rfl
    have hw':Wf (listed.setIfInBounds 15 true)=Wf listed:=by rw [hWf,hWf];simp only [getD_set_ne false (show (15:Nat)≠17 by decide),getD_set_ne false (show (15:Nat)≠19 by decide)]
    refine .inl ?_;rw [hw',hw];clear hw hw' hWf;go_simp;try rfl
   ·
    simp only [List.getElem?_toArray,List.getElem?_cons_zero,List.getElem?_cons_succ] at ho;cases ho
    have e15:b.tmps.getD 44 undef = .pointer (some ⟨br,0,none⟩):=hb.val 15 44 rfl (hall ⟨15,.data⟩ (by simp) rfl)
    have e2:b.tmps.getD 31 undef = .int .i64 x.dst:=hb.val 2 31 rfl (hall ⟨2,.data⟩ (by simp) rfl)
    have n17:listed.getD 17 false=false:=not_listed (hb.closed 17 _ rfl) ⟨16,.data⟩ (by simp) rfl (getD_both hun)
    have n19:listed.getD 19 false=false:=not_listed (hb.closed 19 _ rfl) ⟨16,.phase⟩ (by simp) rfl (getD_both hun)
    have hw:Wf listed=w1:=by rw [hWf];simp only [n17,n19];rfl
    have hw':Wf (listed.setIfInBounds 16 true)=Wf listed:=by rw [hWf,hWf];simp only [getD_set_ne false (show (16:Nat)≠17 by decide),getD_set_ne false (show (16:Nat)≠19 by decide)]
    refine .inl ?_;rw [hw',hw];clear hw hw' hWf;go_simp;try rfl
   ·
    simp only [List.getElem?_toArray,List.getElem?_cons_zero,List.getElem?_cons_succ] at ho;cases ho
    have e16:b.tmps.getD 45 undef = .pointer (some ⟨br,x.dst.toNat,none⟩):=hb.val 16 45 rfl (hall ⟨16,.data⟩ (by simp) rfl)
    have e13:b.tmps.getD 42 undef = .int .i64 (xs+x.most):=hb.val 13 42 rfl (hall ⟨13,.data⟩ (by simp) rfl)
    have n17:listed.getD 17 false=false:=getD_both hun
    have n19:listed.getD 19 false=false:=not_listed (hb.closed 19 _ rfl) ⟨17,.chain⟩ (by simp) rfl (getD_both hun)
    have hw:Wf listed=w1:=by rw [hWf];simp only [n17,n19];rfl
    have hw':Wf (listed.setIfInBounds 17 true)=w2:=by rw [hWf];simp only [getD_set_ne false (show (17:Nat)≠19 by decide),n19,getD_set_self hb.size (show 17<20 by decide)];rfl
    refine .inr ⟨?_,rfl⟩;rw [hw',hw];clear hw hw' hWf;go_simp;try rfl
   ·
    simp only [List.getElem?_toArray,List.getElem?_cons_zero,List.getElem?_cons_succ] at ho;cases ho
    have e4:b.tmps.getD 33 undef = .int .i64 x.dst:=hb.val 4 33 rfl (hall ⟨4,.data⟩ (by simp) rfl)
    have o4:=(hb.old 4 (no4 (by kernel_rfl))).trans h4;have q4:b.eval (.tmp 4)=_:=o4
    have n19:listed.getD 19 false=false:=not_listed (hb.closed 19 _ rfl) ⟨18,.data⟩ (by simp) rfl (getD_both hun)
    have y17:listed.getD 17 false=true:=hall ⟨17,.phase⟩ (by simp) rfl
    have hw:Wf listed=w2:=by rw [hWf];simp only [n19,y17];rfl
    have hw':Wf (listed.setIfInBounds 18 true)=Wf listed:=by rw [hWf,hWf];simp only [getD_set_ne false (show (18:Nat)≠17 by decide),getD_set_ne false (show (18:Nat)≠19 by decide)]
    refine .inl ?_;rw [hw',hw];clear hw hw' hWf;go_simp;try rfl
   ·
    simp only [List.getElem?_toArray,List.getElem?_cons_zero,List.getElem?_cons_succ] at ho;cases ho
    have e18:b.tmps.getD 46 undef = .pointer (some ⟨bl,x.dst.toNat,none⟩):=hb.val 18 46 rfl (hall ⟨18,.data⟩ (by simp) rfl)
    have e14:b.tmps.getD 43 undef = .int .i64 k:=hb.val 14 43 rfl (hall ⟨14,.data⟩ (by simp) rfl)
    have n19:listed.getD 19 false=false:=getD_both hun
    have y17:listed.getD 17 false=true:=hall ⟨17,.chain⟩ (by simp) rfl
    have hw:Wf listed=w2:=by rw [hWf];simp only [n19,y17];rfl
    have hw':Wf (listed.setIfInBounds 19 true)=w3:=by rw [hWf];simp only [getD_set_self hb.size (show 19<20 by decide)];rfl
    refine .inr ⟨?_,rfl⟩;rw [hw',hw];clear hw hw' hWf;go_simp;try rfl
 · intro b hb
   have:Wf (Array.replicate 20 true)=w3:=by rw [hWf];rfl
   rw [←this] at hQ
   exact hQ b hb.defers
theorem rAt_put {r:Row} {d v i:Int} (hl:r.length=60) (h1:0≤d) (h2:d<60) (h3:0≤i):rAt (rPut r d v) i=if i=d then v else rAt r i:=by
 unfold rAt rPut
 simp only [List.getD,List.getElem?_set]
 by_cases h:i=d
 · subst h
   have hlt:i.toNat<r.length:=by omega
   simp [hlt]
 · rw [if_neg (by omega),if_neg h]
def recS (asg bod:Code) (fn:FuncId) (tmps:Array Value) (D:Nat) (st:LoopState) (pend:Option Code):Loop:=
 { state:=st,pending:=pend,fn,tmps,params:=#[27,28],assign:=asg,body:=bod,defers:=D }
structure SetJ (W0:World) (r:Loop) (l D br bl:Nat) (lo:Int) (k:Nat) (σ:Row×Row) (W:World):Prop where
 os:W.os=W0.os
 tape:W.tape=W0.tape
 output:W.output=W0.output
 size:W0.heap.size+2≤W.heap.size
 kept:∀ j,j<W0.heap.size→j≠br→j≠bl→W.heap[j]? = W0.heap[j]?
 L:W.heap[l]? = some (.loop r)
 K:W.heap[D]? = some (.deferred (some []))
 row:rowAt? W br 60=some (rowA σ.1)
 las:rowAt? W bl 60=some (rowA σ.2)
 bnd:∀ i:Int,0≤i→i<60→lo-k * 1000000≤rAt σ.1 i∧rAt σ.1 i≤noneV
theorem rowAt?_putObj {W:World} {l g n:Nat} (o:Obj) (h:g≠l):rowAt? (W.putObj l o) g n=rowAt? W g n:=by
 unfold rowAt?
 rw [World.putObj_heap_other h]
section
variable {W0 W:World} {r:Loop} {l D br bl:Nat} {lo:Int} {k:Nat} {σ:Row×Row}
theorem SetJ.al (h:SetJ W0 r l D br bl lo k σ W) (o:Obj):SetJ W0 r l D br bl lo k σ (W.alloc o):=by
 have hs:=h.size
 exact ⟨h.os,h.tape,h.output,by simp;omega,fun j hj h1 h2=>(Below.heap_alloc _ _ j (by omega)).trans (h.kept j hj h1 h2),
  (Below.heap_alloc _ _ l (Array.getElem?_eq_some_iff.1 h.L).1).trans h.L,(Below.heap_alloc _ _ D (Array.getElem?_eq_some_iff.1 h.K).1).trans h.K,
  (rowAt?_alloc_past _ (rowAt?_lt h.row)).trans h.row,(rowAt?_alloc_past _ (rowAt?_lt h.las)).trans h.las,h.bnd⟩
theorem SetJ.dn (h:SetJ W0 r l D br bl lo k σ W) (m:Nat):SetJ W0 r l D br bl lo k σ (W.drewN m):=
 ⟨h.os,h.tape,h.output,h.size,h.kept,h.L,h.K,h.row,h.las,h.bnd⟩
theorem SetJ.dr (h:SetJ W0 r l D br bl lo k σ W):SetJ W0 r l D br bl lo k σ W.drew:=
 ⟨h.os,h.tape,h.output,h.size,h.kept,h.L,h.K,h.row,h.las,h.bnd⟩
theorem SetJ.skip (h:SetJ W0 r l D br bl lo k σ W):SetJ W0 r l D br bl lo (k+1) σ W:=
 ⟨h.os,h.tape,h.output,h.size,h.kept,h.L,h.K,h.row,h.las,fun i h1 h2=>by have:=h.bnd i h1 h2;push_cast;omega⟩
theorem SetJ.cell (h:SetJ W0 r l D br bl lo k σ W) {b o:Nat} (hb:b<W0.heap.size) (h1:b≠br) (h2:b≠bl):W.cell? ⟨b,o,none⟩=W0.cell? ⟨b,o,none⟩:=
 World.cell?_of_block (h.kept b hb h1 h2)
theorem SetJ.rd {α:Type} {enc:α→List Value} {kk n c:Nat} {A:Option Addr} {xs:List α} (h:SetJ W0 r l D br bl lo k σ W) (hr:Rd enc kk W0 A n c xs) (hA:∀ b o,A=some ⟨b,o,none⟩→0<n→b≠br∧b≠bl):Rd enc kk W A n c xs:=
 ⟨hr.len,hr.big,hr.cap,fun hn=>by
   obtain ⟨b,off,e,hlt,hc⟩:=hr.at_ hn
   obtain ⟨q1,q2⟩:=hA b off e hn
   exact ⟨b,off,e,by have:=h.size;omega,fun i x hx j u hu=>(h.cell hlt q1 q2).trans (hc i x hx j u hu)⟩⟩
end
theorem setYield (asg bod:Code) (hasg:asg=(codes202 Tryz.f134.body).1) (hbod:bod=(codes202 Tryz.f134.body).2) (m:Nat) (W0:World) (fn:FuncId) (r3 br bl D:Nat) (lo:Int)
 (hlb:bl≠br) (hl1:br<W0.heap.size) (hl2:bl<W0.heap.size) (hr3:r3<W0.heap.size) (hn1:r3≠br) (hn2:r3≠bl) (c3:W0.cell? ⟨r3,0,none⟩=some (.pointer (some ⟨br,0,none⟩)))
 (hD:D=W0.heap.size) (n:Nat) (hn:n≤1000) (hlo: -3000000000000000000≤lo) (t0 t1 t2 t5 t6 t7 t8 t9 t10 t11 t12 t13 t14 t15 t16 t17 t18 t19 t20 t21 t22 t23 t24 t25 t26 t27 t28 t29 t30 t31 t32 t33 t34 t35 t36 t37 t38 t39 t40 t41 t42 t43 t44 t45 t46 t47 t48 t49 t50 t51 t52 t53 t54:Value)
 (k:Nat) (σ:Row×Row) (x:Bound) (W:World) (hk:k<n) (ok:okB x) (hrx:relaxes σ.1 x=true)
 (h:SetJ W0 (recS asg bod fn #[t0,t1,t2,.pointer (some ⟨r3,0,none⟩),.pointer (some ⟨bl,0,none⟩),t5,t6,t7,t8,t9,t10,t11,t12,t13,t14,t15,t16,t17,t18,t19,t20,t21,t22,t23,t24,t25,t26,t27,t28,t29,t30,t31,t32,t33,t34,t35,t36,t37,t38,t39,t40,t41,t42,t43,t44,t45,t46,t47,t48,t49,t50,t51,t52,t53,t54] D .ready none) (W0.heap.size+1) D br bl lo k σ W):
 YieldAt Fence.wide m Tryz.prog (W0.heap.size+1) #[.int .i64 k,.agg #[.int .i64 x.src,.int .i64 x.dst,.int .i64 x.most,.int .i64 x.by_]] W fun e W'=>e = .returned (.bool true)∧SetJ W0 (recS asg bod fn #[t0,t1,t2,.pointer (some ⟨r3,0,none⟩),.pointer (some ⟨bl,0,none⟩),t5,t6,t7,t8,t9,t10,t11,t12,t13,t14,t15,t16,t17,t18,t19,t20,t21,t22,t23,t24,t25,t26,t27,t28,t29,t30,t31,t32,t33,t34,t35,t36,t37,t38,t39,t40,t41,t42,t43,t44,t45,t46,t47,t48,t49,t50,t51,t52,t53,t54] D .ready none) (W0.heap.size+1) D br bl lo (k+1) (relaxStep σ x k) W':=by
 subst hD
 obtain ⟨l,hl⟩:∃ l,W0.heap.size+1=l:=⟨_,rfl⟩
 rw [hl] at h ⊢
 refine ⟨fn,#[t0,t1,t2,.pointer (some ⟨r3,0,none⟩),.pointer (some ⟨bl,0,none⟩),t5,t6,t7,t8,t9,t10,t11,t12,t13,t14,t15,t16,t17,t18,t19,t20,t21,t22,t23,t24,t25,t26,.int .i64 k,.agg #[.int .i64 x.src,.int .i64 x.dst,.int .i64 x.most,.int .i64 x.by_],t29,t30,t31,t32,t33,t34,t35,t36,t37,t38,t39,t40,t41,t42,t43,t44,t45,t46,t47,t48,t49,t50,t51,t52,t53,t54],(codes202 Tryz.f134.body).1,(codes202 Tryz.f134.body).2,by rw [←hasg,←hbod];simpa [recS] using run_yield (P:=Tryz.prog) (args:=#[.int .i64 k,.agg #[.int .i64 x.src,.int .i64 x.dst,.int .i64 x.most,.int .i64 x.by_]]) h.L rfl,roundIn_of_wpIn trivial ?_⟩
 have hll:l<W.heap.size:=(Array.getElem?_eq_some_iff.1 h.L).1
 have hsz:=h.size
 obtain ⟨W1,hW1⟩:∃ W1,W.alloc (.cells #[.int .i64 x.src,.int .i64 x.dst,.int .i64 x.most,.int .i64 x.by_] 50)=W1:=⟨_,rfl⟩
 have h1:SetJ W0 (recS asg bod fn #[t0,t1,t2,.pointer (some ⟨r3,0,none⟩),.pointer (some ⟨bl,0,none⟩),t5,t6,t7,t8,t9,t10,t11,t12,t13,t14,t15,t16,t17,t18,t19,t20,t21,t22,t23,t24,t25,t26,t27,t28,t29,t30,t31,t32,t33,t34,t35,t36,t37,t38,t39,t40,t41,t42,t43,t44,t45,t46,t47,t48,t49,t50,t51,t52,t53,t54] W0.heap.size .ready none) l W0.heap.size br bl lo k σ W1:=by rw [←hW1];exact h.al _
 have hs1:W1.heap.size=W.heap.size+1:=by rw [←hW1];simp
 have hx1:W1.heap[W.heap.size]? = some (.cells #[.int .i64 x.src,.int .i64 x.dst,.int .i64 x.most,.int .i64 x.by_] 50 (0,0)):=by rw [←hW1];exact heap_alloc_new W _
 have hbr:=run_beginRound (P:=Tryz.prog) h1.L rfl
 obtain ⟨W2,hW2⟩:∃ W2,W1.putObj l (.loop { recS asg bod fn #[t0,t1,t2,.pointer (some ⟨r3,0,none⟩),.pointer (some ⟨bl,0,none⟩),t5,t6,t7,t8,t9,t10,t11,t12,t13,t14,t15,t16,t17,t18,t19,t20,t21,t22,t23,t24,t25,t26,t27,t28,t29,t30,t31,t32,t33,t34,t35,t36,t37,t38,t39,t40,t41,t42,t43,t44,t45,t46,t47,t48,t49,t50,t51,t52,t53,t54] W0.heap.size .ready none with state:=.busy })=W2:=⟨_,rfl⟩
 rw [hW2] at hbr
 have hp2:∀ g,g≠l→W2.heap[g]? = W1.heap[g]? := fun g hg=>by rw [←hW2];exact World.putObj_heap_other hg
 have hs2:W2.heap.size=W1.heap.size:=by rw [←hW2];simp
 have hL2:W2.heap[l]? = some (.loop { recS asg bod fn #[t0,t1,t2,.pointer (some ⟨r3,0,none⟩),.pointer (some ⟨bl,0,none⟩),t5,t6,t7,t8,t9,t10,t11,t12,t13,t14,t15,t16,t17,t18,t19,t20,t21,t22,t23,t24,t25,t26,t27,t28,t29,t30,t31,t32,t33,t34,t35,t36,t37,t38,t39,t40,t41,t42,t43,t44,t45,t46,t47,t48,t49,t50,t51,t52,t53,t54] W0.heap.size .ready none with state:=.busy }):=by rw [←hW2];exact World.putObj_heap_same (by omega)
 have hx2:W2.heap[W.heap.size]? = some (.cells #[.int .i64 x.src,.int .i64 x.dst,.int .i64 x.most,.int .i64 x.by_] 50 (0,0)):=(hp2 _ (by omega)).trans hx1
 have hrow2:rowAt? W2 br 60=some (rowA σ.1):=by rw [←hW2,rowAt?_putObj _ (by omega)];exact h1.row
 have hlas2:rowAt? W2 bl 60=some (rowA σ.2):=by rw [←hW2,rowAt?_putObj _ (by omega)];exact h1.las
 have hc3:W2.cell? ⟨r3,0,none⟩=some (.pointer (some ⟨br,0,none⟩)):=(World.cell?_of_block (hp2 r3 (by omega))).trans ((h1.cell hr3 hn1 hn2).trans c3)
 obtain ⟨o1,o2,o3,o4,o5,o6⟩:=ok
 have hl60:=rowAt?_len hrow2
 have hl60':=rowAt?_len hlas2
 obtain ⟨v1,v2⟩:=h.bnd x.src o1 o2
 obtain ⟨v3,v4⟩:=h.bnd x.dst o3 o4
 have hcs:=rowAt?_int hrow2 (i:=x.src.toNat) (by omega)
 have hcd:=rowAt?_int hrow2 (i:=x.dst.toNat) (by omega)
 have hcl:=rowAt?_int hlas2 (i:=x.dst.toNat) (by omega)
 have hfd:=rowAt?_free hrow2 x.dst.toNat
 have hfl:=rowAt?_free hlas2 x.dst.toNat
 have e0:W2.cell? ⟨W.heap.size,0,none⟩=some (.int .i64 x.src):=by simp only [World.cell?,hx2];rfl
 have e1:W2.cell? ⟨W.heap.size,1,none⟩=some (.int .i64 x.dst):=by simp only [World.cell?,hx2];rfl
 have e2:W2.cell? ⟨W.heap.size,2,none⟩=some (.int .i64 x.most):=by simp only [World.cell?,hx2];rfl
 have hrx':relaxes σ.1 x=(decide (rAt σ.1 x.src<noneV)&&decide (rAt σ.1 x.src+x.most<rAt σ.1 x.dst)):=rfl
 rw [hrx',Bool.and_eq_true,decide_eq_true_eq,decide_eq_true_eq] at hrx
 have hnv:noneV=1099511627776:=rfl
 have hw:IntKind.i64.wrap (rAt σ.1 x.src+x.most)=rAt σ.1 x.src+x.most:=by simp [IntKind.wrap,IntKind.bits,IntKind.signed];omega
 have hbody:=fun b Q hT h3 h4 h8 h9 hQ=>body202 _ rfl l m b W2 r3 br bl W.heap.size k x (rAt σ.1 x.src) Q hT h3 h4 h8 h9 hc3 e0 e1 e2 hcs _ _ hcd hfd hcl hfl (by omega) hlb ⟨o1,o2,o3,o4,o5,o6⟩ hw hQ
 have HB:=Lib.hid hbody
 clear hbody hx1 hx2 hcs hcd hcl hfd hfl e0 e1 e2 hc3 hw hp2
 have HBR:=Lib.hid hbr
 clear hbr hasg hbod
 unfold codes202 Tryz.f134
 dsimp only
 gi_wp2_with (rw [Oper.semAt_eq _ _ _ (fun c h=>by cases h)];go_simp;try go_bits)
 refine ⟨_,HBR.out,?_⟩
 refine HB.out _ _ rfl rfl rfl rfl rfl ?_
 intro b hb
 obtain ⟨W3,hW3⟩:∃ W3,(W2.drew.setCell ⟨br,x.dst.toNat,none⟩ (.int .i64 (rAt σ.1 x.src+x.most))).setCell ⟨bl,x.dst.toNat,none⟩ (.int .i64 k)=W3:=⟨_,rfl⟩
 rw [hW3]
 have hp3:∀ g,g≠br→g≠bl→W3.heap[g]? = W2.heap[g]? := fun g hg1 hg2=>by
  rw [←hW3];exact (Below.heap_setCell _ _ _ g hg2).trans (Below.heap_setCell _ _ _ g hg1)
 have hs3:W3.heap.size=W2.heap.size:=by rw [←hW3];simp
 have hL3:W3.heap[l]? = some (.loop { recS asg bod fn #[t0,t1,t2,.pointer (some ⟨r3,0,none⟩),.pointer (some ⟨bl,0,none⟩),t5,t6,t7,t8,t9,t10,t11,t12,t13,t14,t15,t16,t17,t18,t19,t20,t21,t22,t23,t24,t25,t26,t27,t28,t29,t30,t31,t32,t33,t34,t35,t36,t37,t38,t39,t40,t41,t42,t43,t44,t45,t46,t47,t48,t49,t50,t51,t52,t53,t54] W0.heap.size .ready none with state:=.busy }):=(hp3 l (by omega) (by omega)).trans hL2
 refine ⟨_,_,run_endRound none hL3,rfl,?_⟩
 have hrel:relaxStep σ x k=(rPut σ.1 x.dst (rAt σ.1 x.src+x.most),rPut σ.2 x.dst k):=by
  unfold relaxStep
  rw [if_pos (by rw [hrx',Bool.and_eq_true,decide_eq_true_eq,decide_eq_true_eq];exact hrx)]
 have hW2o:W2.os=W1.os∧W2.tape=W1.tape∧W2.output=W1.output:=by rw [←hW2];exact ⟨rfl,rfl,rfl⟩
 have hW3o:W3.os=W2.os∧W3.tape=W2.tape∧W3.output=W2.output:=by rw [←hW3];exact ⟨rfl,rfl,rfl⟩
 have hlt3:l<W3.heap.size:=by omega
 refine ⟨?_,?_,?_,?_,fun j hj q1 q2=> ?_,World.putObj_heap_same hlt3,?_,?_,?_,fun i i1 i2=> ?_⟩
 · exact hW3o.1.trans (hW2o.1.trans h1.os)
 · exact hW3o.2.1.trans (hW2o.2.1.trans h1.tape)
 · exact hW3o.2.2.trans (hW2o.2.2.trans h1.output)
 · simp;omega
 · refine (World.putObj_heap_other (by omega)).trans ((hp3 j q1 q2).trans ?_)
   rw [←hW2]
   exact (World.putObj_heap_other (by omega)).trans (h1.kept j hj q1 q2)
 · refine (World.putObj_heap_other (by omega)).trans ((hp3 W0.heap.size (by omega) (by omega)).trans ?_)
   rw [←hW2]
   exact (World.putObj_heap_other (by omega)).trans h1.K
 · rw [rowAt?_putObj _ (by omega),←hW3,rowAt?_setCell_other _ _ (fun e=>hlb e.symm),rowAt?_setCell_same,rowAt?_drew,hrow2,hrel]
   simp only [Option.map_some,rowA_set,rPut]
 · rw [rowAt?_putObj _ (by omega),←hW3,rowAt?_setCell_same,rowAt?_setCell_other _ _ hlb,rowAt?_drew,hlas2,hrel]
   simp only [Option.map_some,rowA_set,rPut]
 · rw [hrel,rAt_put hl60 o3 o4 i1]
   have:=h.bnd i i1 i2
   split<;>push_cast<;>omega
end Go.Proofs.YtpmkgmilfifkpaaGreatDoor
end
section
namespace Go.Proofs.YtpmkgmilfifkpaaGreatDoor
open Go.RowKit Go.Proofs
def markOf (D:Nat):Deferred:={ target:=.collected D,args:=#[] }
structure MarksAt (B:Nat) (W:World) (Ds:List Nat):Prop where
 once:Ds.Nodup
 at_:∀ D∈Ds,B≤D∧W.heap[D]? = some (.deferred (some []))
theorem MarksAt.none_ (B:Nat) (W:World):MarksAt B W []:=⟨List.nodup_nil,fun _ h=>by cases h⟩
theorem MarksAt.keep {B:Nat} {W W':World} {Ds:List Nat} (h:MarksAt B W Ds) (hk:∀ D,B≤D→W.heap[D]? = some (.deferred (some []))→W'.heap[D]? = some (.deferred (some []))):MarksAt B W' Ds:=
 ⟨h.once,fun D hD=>⟨(h.at_ D hD).1,hk D (h.at_ D hD).1 (h.at_ D hD).2⟩⟩
theorem MarksAt.add {B:Nat} {W:World} {Ds:List Nat} {D:Nat} (h:MarksAt B W Ds) (hD:W.heap[D]? = some (.deferred (some []))) (hB:B≤D) (hn:D∉Ds):MarksAt B W (D::Ds):=
 ⟨List.nodup_cons.2 ⟨hn,h.once⟩,fun E hE=>by
   rcases List.mem_cons.1 hE with rfl|hE
   · exact ⟨hB,hD⟩
   · exact h.at_ E hE⟩
structure SameBut (Ds:List Nat) (W W':World):Prop where
 os:W'.os=W.os
 tape:W'.tape=W.tape
 output:W'.output=W.output
 size:W'.heap.size=W.heap.size
 block:∀ g,g∉Ds→W'.heap[g]? = W.heap[g]?
theorem leaves_marks {n:Nat} {P:Program} {fn:Func} {tmps:Array Value} {R:Ending→World→Prop} {B:Nat} :∀ (Ds:List Nat) (W:World),MarksAt B W Ds→
 (∀ W',SameBut Ds W W'→∃ v,(results fn tmps).run P W' = .ok v W'∧R (.returned v) W')→LeavesInM Fence.wide n P fn tmps R (Ds.map markOf) .returning W
 | [],W,_,h=>h W ⟨rfl,rfl,rfl,rfl,fun _ _=>rfl⟩
 | D::Ds,W,hM,h=>by
   obtain ⟨hnd,hnn⟩:=List.nodup_cons.1 hM.once
   have hD:=(hM.at_ D (by simp)).2
   refine ⟨by simp,.inl ⟨D,W.putObj D (.deferred none),rfl,run_takeDeferred hD,?_⟩⟩
   refine leaves_marks (B:=B) Ds _ ⟨hnn,fun E hE=>⟨(hM.at_ E (by simp [hE])).1,(World.putObj_heap_other (show E≠D from fun e=>hnd (e ▸ hE))).trans (hM.at_ E (by simp [hE])).2⟩⟩ fun W' hs=> ?_
   refine h W' ⟨hs.os,hs.tape,hs.output,by rw [hs.size];simp,fun g hg=> ?_⟩
   simp only [List.mem_cons,not_or] at hg
   exact (hs.block g hg.2).trans (World.putObj_heap_other hg.1)
open Go.Shelf
def fillTo (n:Nat):List Int:=List.replicate n noneV++List.replicate (60-n) 0
theorem fillTo_len {n:Nat} (h:n≤60):(fillTo n).length=60:=by simp [fillTo];omega
theorem fillTo_succ {n:Nat} (h:n<60):(fillTo n).set n noneV=fillTo (n+1):=by
 unfold fillTo
 apply List.ext_getElem?
 intro i
 rw [List.getElem?_set]
 simp only [List.getElem?_append,List.getElem?_replicate,List.length_replicate,List.length_append]
 by_cases h1:n=i
 · subst h1
   simp;omega
 · rw [if_neg h1]
   by_cases h2:i<n
   · rw [if_pos h2,if_pos (by omega:i<n+1),if_pos h2,if_pos (by omega:i<n+1)]
   · rw [if_neg h2,if_neg (by omega:¬i<n+1)]
     by_cases h3:i<60
     · rw [if_pos (by omega),if_pos (by omega)]
     · rw [if_neg (by omega),if_neg (by omega)]
theorem fillTo_zero:fillTo 0=zeroRow:=rfl
theorem fillTo_all:fillTo 60=emptyRow:=rfl
theorem empty_any (w:World):Calls Tryz.prog 111 #[] w fun e w'=>e = .returned (.agg (rowA emptyRow))∧Below w.heap.size w w':=by
 go_enter Tryz.func111,Tryz.ntmps111
 go_wp2_with (refine wpL_alloc (t:=151) rfl rfl zero207 ?_)
 go_loopw [3] (fun i wr=> ∃ k:Nat,k≤60∧i = .int .i64 k∧w.heap.size+1<wr.heap.size∧Below w.heap.size w wr∧Hid (rowAt? wr w.heap.size 60=some (rowA zeroRow))∧Hid (rowAt? wr (w.heap.size+1) 60=some (rowA (fillTo k)))) (fun i _=>60-(intOf i).toNat)
 case atStart=>exact ⟨0,by omega,rfl,by simp,(by ((repeat' (first|(with_reducible assumption)|(with_reducible exact Below.refl _ _)|(with_reducible refine Below.drew ?_)|(with_reducible refine below_drewN' ?_ _)|(with_reducible refine Below.alloc ?_ ?_ _)|(with_reducible refine Below.setCell ?_ ?_ _)|(with_reducible refine below_step (by assumption) ?_ ?_)))<;>first|(simp;done)|(simp;omega)|omega)),(show _=_ by rw [rowAt?_alloc_past _ (by simp),rowAt?_alloc_at _ _ rfl];simp [zeroRow]),(show _=_ by rw [rowAt?_alloc_at _ _ (by simp),fillTo_zero];simp [zeroRow])⟩
 case round=>
  obtain ⟨k,hk,rfl,hz,hb,h1,h2⟩:=hrel
  have hl:=fillTo_len hk
  by_cases hlt:k<60
  · have hc:=rowAt?_int h2.out (i:=k) (by omega)
    have hf:=rowAt?_free h2.out k
    have HL:=Lib.hid hl
    clear hl
    go_wp2
    go_roundw
    case rel=>
     refine ⟨k+1,by omega,by go_num,by simpa using hz,(by ((repeat' (first|(with_reducible assumption)|(with_reducible exact Below.refl _ _)|(with_reducible refine Below.drew ?_)|(with_reducible refine below_drewN' ?_ _)|(with_reducible refine Below.alloc ?_ ?_ _)|(with_reducible refine Below.setCell ?_ ?_ _)|(with_reducible refine below_step (by assumption) ?_ ?_)))<;>first|(simp;done)|(simp;omega)|omega)),(show _=_ by rw [rowAt?_setCell_other _ _ (by simp)];exact h1.out),(show _=_ by rw [rowAt?_setCell_same,h2.out,←fillTo_succ hlt,←rowA_set];rfl)⟩
    case measure=>simp [intOf];omega
  · have hkn:k=60:=by omega
    subst hkn
    have hzz:w.heap.size<wr.heap.size:=by omega
    clear hl
    go_wp2_with (first|(refine wpL_load row207 rfl rfl rfl h2.out ?_)|(refine wpL_store row207 rfl rfl rfl rfl (by rw [h1.out];rfl) (by simp [fillTo]) ?_))
    refine bodyPost_ret (v:=.agg (rowA emptyRow)) ?_ rfl ⟨rfl,?_⟩
    · obtain ⟨t,hh,_⟩:=rowAt?_heap (w:=wr.setRow w.heap.size (rowA (fillTo 60))) (g:=w.heap.size) (n:=60) (cs:=rowA emptyRow) (by rw [rowAt?_setRow_same _ (by rw [h1.out];rfl) (by simp [fillTo]),fillTo_all])
      exact results_cell_row rfl _ _ w.heap.size t (rowA emptyRow) (0,0) _ rfl hh row207.arr rfl (by rw [rowA_size,emptyRow_len];exact row207.size)
    · exact below_setRow hb (Nat.le_refl _) _
end Go.Proofs.YtpmkgmilfifkpaaGreatDoor
end

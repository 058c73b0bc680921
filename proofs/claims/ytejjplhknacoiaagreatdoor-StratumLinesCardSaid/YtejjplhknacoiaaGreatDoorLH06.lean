/- Contracts that the laws lean on: LinR. -/
import Derived.Test.YtejjplhknacoiaaGreatDoorLH03
import Derived.Test.YtejjplhknacoiaaGreatDoorLH05
set_option maxRecDepth 100000
set_option maxHeartbeats 16000000
section
namespace Go.Proofs.YtejjplhknacoiaaGreatDoor
open Go.RowKit Go.Proofs
theorem results_ct {P:Program} {fn:Func} {p u:Tmp} {ty:TypeId} (h:fn.results = #[.cell p ty,.tmp u]) (tmps:Array Value) (w:World) (g:Nat) (t:TypeId) (cs:Array Value) (fr:Nat×Nat) (d:TypeDesc)
 (hp:tmps.getD p undef = .pointer (some ⟨g,0,none⟩)) (hg:w.heap[g]? = some (.cells cs t fr))
 (hu:P.underlying ty=some d) (hd:(match d with | .struct _ | .array _ _=>true|_=>false)=true) (hi:(P.info? ty).map (·.size)=some cs.size):
 (results fn tmps).run P w = .ok (.tuple #[.agg cs,tmps.getD u undef]) w:=by
 have hp':tmps[p]?.getD undef = .pointer (some ⟨g,0,none⟩):=by simpa using hp
 simp [results,h,hp',asAddr,run_loadVar_row w g t ty cs fr d hg hu hd hi]
theorem set10 {W:World} {g:Nat} {a0 a1 a2 a3 a4 a5 a6 a7 a8 a9 v0 v1 v2 v3 v4 v5 v6 v7 v8 v9:Value} {t:TypeId} (hh:W.heap[g]? = some (.cells #[a0,a1,a2,a3,a4,a5,a6,a7,a8,a9] t (0,0))):((((((((((W.setCell ⟨g,0,none⟩ v0).setCell ⟨g,1,none⟩ v1).setCell ⟨g,2,none⟩ v2).setCell ⟨g,3,none⟩ v3).setCell ⟨g,4,none⟩ v4).setCell ⟨g,5,none⟩ v5).setCell ⟨g,6,none⟩ v6).setCell ⟨g,7,none⟩ v7).setCell ⟨g,8,none⟩ v8).setCell ⟨g,9,none⟩ v9).heap[g]? = some (.cells #[v0,v1,v2,v3,v4,v5,v6,v7,v8,v9] t (0,0)):=by
 rw [heap_setCell_obj (heap_setCell_obj (heap_setCell_obj (heap_setCell_obj (heap_setCell_obj (heap_setCell_obj (heap_setCell_obj (heap_setCell_obj (heap_setCell_obj (heap_setCell_obj hh)))))))))]
 simp only [List.setIfInBounds_toArray,List.set_cons_succ,List.set_cons_zero]
theorem below_set10 {B:Nat} {w W:World} {g:Nat} (hb:Below B w W) (hg:B≤g) (v0 v1 v2 v3 v4 v5 v6 v7 v8 v9:Value):Below B w ((((((((((W.setCell ⟨g,0,none⟩ v0).setCell ⟨g,1,none⟩ v1).setCell ⟨g,2,none⟩ v2).setCell ⟨g,3,none⟩ v3).setCell ⟨g,4,none⟩ v4).setCell ⟨g,5,none⟩ v5).setCell ⟨g,6,none⟩ v6).setCell ⟨g,7,none⟩ v7).setCell ⟨g,8,none⟩ v8).setCell ⟨g,9,none⟩ v9):=((((((((((hb.setCell (p:=⟨g,0,none⟩) hg _).setCell (p:=⟨g,1,none⟩) hg _).setCell (p:=⟨g,2,none⟩) hg _).setCell (p:=⟨g,3,none⟩) hg _).setCell (p:=⟨g,4,none⟩) hg _).setCell (p:=⟨g,5,none⟩) hg _).setCell (p:=⟨g,6,none⟩) hg _).setCell (p:=⟨g,7,none⟩) hg _).setCell (p:=⟨g,8,none⟩) hg _).setCell (p:=⟨g,9,none⟩) hg _)
theorem same_set {W W':World} {g i:Nat} {v:Value} {cs:Array Value} {t:TypeId} (hh:W.heap[g]? = some (.cells cs t (0,0))) (hb:Below (W.setCell ⟨g,i,none⟩ v).heap.size (W.setCell ⟨g,i,none⟩ v) W'):W'.heap[g]? = some (.cells (cs.setIfInBounds i v) t (0,0)):=by
 have h1:=heap_setCell_obj hh (i:=i) (v:=v)
 exact (hb.block g (Array.getElem?_eq_some_iff.1 h1).1).trans h1
theorem above_b {b:ByteArray} : b=(⟨#[97,98,111,118,101]⟩:ByteArray)→kindOf b.data.toList=1:=fun h=>by rw [h];rfl
theorem dated_b {b:ByteArray} : b=(⟨#[100,97,116,101,100]⟩:ByteArray)→kindOf b.data.toList=2:=fun h=>by rw [h];rfl
theorem moved_b {b:ByteArray} : b=(⟨#[109,111,118,101,100]⟩:ByteArray)→kindOf b.data.toList=3:=fun h=>by rw [h];rfl
theorem void_b {b:ByteArray} : b=(⟨#[118,111,105,100]⟩:ByteArray)→kindOf b.data.toList=4:=fun h=>by rw [h];rfl
theorem data_inj {b:ByteArray} {l:List UInt8} (h:b.data.toList=l):b=⟨l.toArray⟩:=by rw [←h]
theorem none_b {b:ByteArray} (h1:b≠(⟨#[97,98,111,118,101]⟩:ByteArray)) (h2:b≠(⟨#[100,97,116,101,100]⟩:ByteArray)) (h3:b≠(⟨#[109,111,118,101,100]⟩:ByteArray)) (h4:b≠(⟨#[118,111,105,100]⟩:ByteArray)):kindOf b.data.toList=0:=by
 unfold kindOf
 rw [if_neg (fun e=>h1 (data_inj e)),if_neg (fun e=>h2 (data_inj e)),if_neg (fun e=>h3 (data_inj e)),if_neg (fun e=>h4 (data_inj e))]
theorem getD_data (os:List ByteArray) (i:Nat):(os.map (·.data.toList)).getD i []=(os.getD i ⟨#[]⟩).data.toList:=by
 rw [List.getD_eq_getElem?_getD,List.getD_eq_getElem?_getD,List.getElem?_map]
 cases os[i]? <;> rfl
theorem read_ends {f:List UInt8→Int} (hf:∀ n,-10000≤n→n≤1000000→f (Lib.itoa n)=n) (s:ByteArray) {x:Trace} (hx:makeT f (cutL s.data.toList)=x):(checkTrace x=0∧textV x=s∧readX s.data.toList=x∧readErr s.data.toList=0)∨(checkTrace x=0∧textV x≠s∧readX s.data.toList=zeroT∧readErr s.data.toList=4)∨(checkTrace x=1∧readX s.data.toList=zeroT∧readErr s.data.toList=4):=by
 rcases read_by hf s.data.toList with ⟨h1,h2,h3,h4⟩|⟨h1,h2,h3⟩
 · rw [hx] at h1 h2 h3
   obtain ⟨g1,g2⟩:=good_ok h1
   exact .inl ⟨g2,by rw [g1,h2],h3,h4⟩
 · rw [hx] at h1
   cases hk:okTr x with
   | true=>
     obtain ⟨g1,g2⟩:=good_ok hk
     refine .inr (.inl ⟨g2,?_,h2,h3⟩)
     intro e
     rw [g1] at e
     exact h1 hk (by rw [←e])
   | false=>
     obtain ⟨g1,g2⟩:=bad_ok hk
     exact .inr (.inr ⟨g2,h2,h3⟩)
theorem r8Read_any (s:ByteArray) (w:World) (hsz:s.size≤1000):Calls Tryz.prog 8 #[.string s] w fun e w'=>e = .returned (.tuple #[.agg #[.int .i64 (readX s.data.toList).id,.int .i64 (readX s.data.toList).known,.int .u8 (readX s.data.toList).kind,.int .i64 (readX s.data.toList).pit,.int .i64 (readX s.data.toList).layer,.int .i64 (readX s.data.toList).lower,.int .i64 (readX s.data.toList).low,.int .i64 (readX s.data.toList).high,.int .i64 (readX s.data.toList).cost,.int .i64 (readX s.data.toList).void],.int .i64 (readErr s.data.toList)])∧Below w.heap.size w w':=by
 obtain ⟨w1,hw1,hb1,hz1,e1⟩:=alloc_facts w #[.int .i64 0,.int .i64 0,.int .u8 0,.int .i64 0,.int .i64 0,.int .i64 0,.int .i64 0,.int .i64 0,.int .i64 0,.int .i64 0] 23
 have HW1:=Lib.hid hw1
 have HB1:=Lib.hid hb1
 have HRE:Hid (∀ W,Below w1.heap.size w1 W→W.heap[w.heap.size]? = some (.cells #[.int .i64 0,.int .i64 0,.int .u8 0,.int .i64 0,.int .i64 0,.int .i64 0,.int .i64 0,.int .i64 0,.int .i64 0,.int .i64 0] 23 (0,0))∧(W.cell? ⟨w.heap.size,0,none⟩=some (.int .i64 0)∧W.cell? ⟨w.heap.size,1,none⟩=some (.int .i64 0)∧W.cell? ⟨w.heap.size,2,none⟩=some (.int .u8 0)∧W.cell? ⟨w.heap.size,3,none⟩=some (.int .i64 0)∧W.cell? ⟨w.heap.size,4,none⟩=some (.int .i64 0)∧W.cell? ⟨w.heap.size,5,none⟩=some (.int .i64 0)∧W.cell? ⟨w.heap.size,6,none⟩=some (.int .i64 0)∧W.cell? ⟨w.heap.size,7,none⟩=some (.int .i64 0)∧W.cell? ⟨w.heap.size,8,none⟩=some (.int .i64 0)∧W.cell? ⟨w.heap.size,9,none⟩=some (.int .i64 0))∧W.frozen? ⟨w.heap.size,0,none⟩=false∧W.frozen? ⟨w.heap.size,1,none⟩=false∧W.frozen? ⟨w.heap.size,2,none⟩=false∧W.frozen? ⟨w.heap.size,3,none⟩=false∧W.frozen? ⟨w.heap.size,4,none⟩=false∧W.frozen? ⟨w.heap.size,5,none⟩=false∧W.frozen? ⟨w.heap.size,6,none⟩=false∧W.frozen? ⟨w.heap.size,7,none⟩=false∧W.frozen? ⟨w.heap.size,8,none⟩=false∧W.frozen? ⟨w.heap.size,9,none⟩=false):=(show ∀ W,_→_ from fun W h=>by
  have hh:=(h.block w.heap.size (by omega)).trans e1
  refine ⟨hh,?_,?_⟩
  · simp [World.cell?,hh]
  · simp [World.frozen?,hh])
 have KS:=Lib.hid (fun W=>r8words_any s hsz W)
 have HSH:=Lib.hid (fun h=>cut_short (s:=s.data.toList) h)
 have HEN:=Lib.hid (fun x hx=>read_ends (f:=numV) (fun _ h0 h1=>numV_itoa h0 h1) s (x:=x) hx)
 have KW:=Lib.hid (fun (x:Trace) W=>r8Write_any x W)
 have HZT:Hid (zeroT=⟨0,0,0,0,0,0,0,0,0,0⟩):=(show _=_ from rfl)
 clear hw1 hb1
 generalize readX s.data.toList=rp at *
 generalize readErr s.data.toList=re at *
 by_cases hlen:4≤(cutL s.data.toList).length∧(cutL s.data.toList).length≤7
 case neg=>
  obtain ⟨t1,t2⟩:=HSH.out hlen
  rw [HZT.out] at t1
  subst t1 t2
  have hcs:((cutL s.data.toList).length:Int)<4∨(¬((cutL s.data.toList).length:Int)<4∧7<((cutL s.data.toList).length:Int)):=(by omega)
  clear hlen HSH HEN
  generalize (cutL s.data.toList).length=nn at *
  rcases hcs with h7|⟨h7,h11⟩
  all_goals
   go_enter Tryz.func8,Tryz.ntmps8
   go_wp2_with (first
    | rw [HW1.out]
    | (go_at_call 28;(with_reducible refine (KS.out _).mono ?_);rintro e w2 ⟨A2,q2,os,rfl,hb2,hr2,hm2⟩
       have HB2:=Lib.hid hb2
       obtain ⟨q,⟨a0,a1,a2,a3,a4,a5,a6,a7,a8,a9⟩,c0,c1,c2,c3,c4,c5,c6,c7,c8,c9⟩:=HRE.out w2 hb2
       have HQ2:=Lib.hid q
       clear hb2 q hr2))
   refine bodyPost_ret (results_ct rfl _ _ w.heap.size _ _ (0,0) _ rfl (set10 HQ2.out) Tryz.underlying23 rfl (by kernel_rfl)) rfl ?_
   exact ⟨rfl,below_set10 (HB1.out.trans (HB2.out.mono HB1.out.size)) (Nat.le_refl _) _ _ _ _ _ _ _ _ _ _⟩
 case pos=>
  obtain ⟨h4,h7⟩:=hlen
  have l4:¬((cutL s.data.toList).length:Int)<4:=(by omega)
  have l7:¬7<((cutL s.data.toList).length:Int):=(by omega)
  have l2:(2:Int)<((cutL s.data.toList).length:Int):=(by omega)
  clear HSH
  go_enter Tryz.func8,Tryz.ntmps8
  go_upto_region 4 with (first
   | rw [HW1.out]
   | (go_at_call 28;(with_reducible refine (KS.out _).mono ?_);rintro e w2 ⟨A2,q2,os,rfl,hb2,hr2,hm2⟩
      have HB2:=Lib.hid hb2
      have HR2:=Lib.hid hr2
      have HM2:=Lib.hid hm2
      clear hb2 hr2 hm2))
  obtain ⟨bk,off,rfl,hbk,-⟩:=HR2.out.at_ (by omega)
  obtain ⟨b2,hb2'⟩:∃ b,os[2]? = some b:=⟨os[2]'(by have:=HR2.out.len;omega),List.getElem?_eq_getElem _⟩
  have HCS:Hid (∀ W,Below w2.heap.size w2 W→W.cell? ⟨bk,off+2,none⟩=some (.string b2)):=(show ∀ W,_→_ from fun W hW=>HR2.out.str hW hb2')
  have KN:Hid (∀ (i:Nat) W,i≤1000→Below w2.heap.size w2 W→Calls Tryz.prog 29 #[.slice (some ⟨bk,off,none⟩) (cutL s.data.toList).length q2,.int .i64 (i:Int)] W fun e w'=>e = .returned (.int .i64 (numV (os.getD i ⟨#[]⟩).data.toList))∧Below W.heap.size W w'):=(show ∀ (i:Nat) W,_→_→_ from fun i W hi hW=>r8number_any _ _ _ _ os i W (HR2.out.below hW (Nat.le_refl _)) hi (Nat.le_refl _))
  have K0:Hid (∀ W,Below w2.heap.size w2 W→Calls Tryz.prog 29 #[.slice (some ⟨bk,off,none⟩) (cutL s.data.toList).length q2,.int .i64 0] W fun e w'=>e = .returned (.int .i64 (numV (os.getD 0 ⟨#[]⟩).data.toList))∧Below W.heap.size W w'):=(show ∀ W,_→_ from fun W hW=>KN.out 0 W (by omega) hW)
  have K1:Hid (∀ W,Below w2.heap.size w2 W→Calls Tryz.prog 29 #[.slice (some ⟨bk,off,none⟩) (cutL s.data.toList).length q2,.int .i64 1] W fun e w'=>e = .returned (.int .i64 (numV (os.getD 1 ⟨#[]⟩).data.toList))∧Below W.heap.size W w'):=(show ∀ W,_→_ from fun W hW=>KN.out 1 W (by omega) hW)
  have K3:Hid (∀ W,Below w2.heap.size w2 W→Calls Tryz.prog 29 #[.slice (some ⟨bk,off,none⟩) (cutL s.data.toList).length q2,.int .i64 3] W fun e w'=>e = .returned (.int .i64 (numV (os.getD 3 ⟨#[]⟩).data.toList))∧Below W.heap.size W w'):=(show ∀ W,_→_ from fun W hW=>KN.out 3 W (by omega) hW)
  have K4:Hid (∀ W,Below w2.heap.size w2 W→Calls Tryz.prog 29 #[.slice (some ⟨bk,off,none⟩) (cutL s.data.toList).length q2,.int .i64 4] W fun e w'=>e = .returned (.int .i64 (numV (os.getD 4 ⟨#[]⟩).data.toList))∧Below W.heap.size W w'):=(show ∀ W,_→_ from fun W hW=>KN.out 4 W (by omega) hW)
  have K5:Hid (∀ W,Below w2.heap.size w2 W→Calls Tryz.prog 29 #[.slice (some ⟨bk,off,none⟩) (cutL s.data.toList).length q2,.int .i64 5] W fun e w'=>e = .returned (.int .i64 (numV (os.getD 5 ⟨#[]⟩).data.toList))∧Below W.heap.size W w'):=(show ∀ W,_→_ from fun W hW=>KN.out 5 W (by omega) hW)
  have K6:Hid (∀ W,Below w2.heap.size w2 W→Calls Tryz.prog 29 #[.slice (some ⟨bk,off,none⟩) (cutL s.data.toList).length q2,.int .i64 6] W fun e w'=>e = .returned (.int .i64 (numV (os.getD 6 ⟨#[]⟩).data.toList))∧Below W.heap.size W w'):=(show ∀ W,_→_ from fun W hW=>KN.out 6 W (by omega) hW)
  have HMK:Hid (∀ k,kindOf b2.data.toList=k→makeT numV (cutL s.data.toList) = { id:=numV (os.getD 0 ⟨#[]⟩).data.toList,known:=numV (os.getD 1 ⟨#[]⟩).data.toList,kind:=k,pit:=if k=4 then 0 else numV (os.getD 3 ⟨#[]⟩).data.toList,layer:=if k=4 then 0 else numV (os.getD 4 ⟨#[]⟩).data.toList,lower:=if k=1 then numV (os.getD 5 ⟨#[]⟩).data.toList else 0,low:=if k=2 then numV (os.getD 5 ⟨#[]⟩).data.toList else 0,high:=if k=2 then numV (os.getD 6 ⟨#[]⟩).data.toList else 0,cost:=if k=3 then numV (os.getD 5 ⟨#[]⟩).data.toList else 0,void:=if k=4 then numV (os.getD 3 ⟨#[]⟩).data.toList else 0 }):=(show ∀ k,_→_ from fun k hk=>by
   have e2:(os.getD 2 ⟨#[]⟩)=b2:=by rw [List.getD_eq_getElem?_getD,hb2'];rfl
   unfold makeT
   rw [←HM2.out]
   simp only [getD_data,e2,hk])
  have hbk1:bk<w2.heap.size:=hbk
  clear hb2' HR2 HM2 KN hbk
  generalize (cutL s.data.toList).length=nn at *
  generalize numV (os.getD 0 ⟨#[]⟩).data.toList=v0 at *
  generalize numV (os.getD 1 ⟨#[]⟩).data.toList=v1 at *
  generalize numV (os.getD 3 ⟨#[]⟩).data.toList=v3 at *
  generalize numV (os.getD 4 ⟨#[]⟩).data.toList=v4 at *
  generalize numV (os.getD 5 ⟨#[]⟩).data.toList=v5 at *
  generalize numV (os.getD 6 ⟨#[]⟩).data.toList=v6 at *
  clear os
  have HB2':Hid (Below w2.heap.size w2 w2):=(show Below _ _ _ from Below.refl _ _)
  go_upto_region 5 with (first
   | rw [HA5.out]
   | (go_at_call 29;(with_reducible refine (K1.out _ HB3.out).mono ?_);rintro e w4 ⟨rfl,hbx⟩
      have HB4:=Lib.hid (HB3.out.trans (hbx.mono HB3.out.size))
      obtain ⟨w5,a5,l5,z5,e5⟩:=alloc_facts w4 #[.int .i64 v0,.int .i64 v1,.int .u8 0,.int .i64 0,.int .i64 0,.int .i64 0,.int .i64 0,.int .i64 0,.int .i64 0,.int .i64 0] 23
      have HA5:=Lib.hid a5
      have HE5:=Lib.hid e5
      have HB5:=Lib.hid (HB4.out.trans (l5.mono HB4.out.size))
      have z5':w5.heap.size=w4.heap.size+1:=z5
      have hle4:w2.heap.size≤w4.heap.size:=HB4.out.size
      have hne1:¬bk=w4.heap.size:=(by omega)
      have hne2:¬w4.heap.size=bk:=(by omega)
      have s5:=HCS.out w5 HB5.out
      have f5:w5.cell? ⟨w4.heap.size,2,none⟩=some (.int .u8 0):=(by simp [World.cell?,e5])
      have g5:w5.frozen? ⟨w4.heap.size,2,none⟩=false:=(by simp [World.frozen?,e5])
      have f53:w5.cell? ⟨w4.heap.size,3,none⟩=some (.int .i64 0):=(by simp [World.cell?,e5])
      have g53:w5.frozen? ⟨w4.heap.size,3,none⟩=false:=(by simp [World.frozen?,e5])
      clear a5 l5 z5 e5
      clear hbx)
   | (go_at_call 29;(with_reducible refine (K0.out _ HB2'.out).mono ?_);rintro e w3 ⟨rfl,hbx⟩
      have HB3:=Lib.hid (HB2'.out.trans (hbx.mono HB2'.out.size))
      clear hbx))
  by_cases k1:b2=(⟨#[97,98,111,118,101]⟩:ByteArray)
  · have hkd:=above_b k1
    subst k1
    obtain ⟨x,hx⟩:∃ x:Trace,x=⟨v0,v1,1,v3,v4,v5,0,0,0,0⟩:=⟨_,rfl⟩
    have hmk:=HMK.out 1 hkd
    simp only [Int.reduceEq,reduceIte] at hmk
    rw [←hx] at hmk
    have HE:=Lib.hid (HEN.out x hmk)
    have KP:Hid (∀ W,Calls Tryz.prog 6 #[.agg #[.int .i64 v0,.int .i64 v1,.int .u8 1,.int .i64 v3,.int .i64 v4,.int .i64 v5,.int .i64 0,.int .i64 0,.int .i64 0,.int .i64 0]] W fun e w'=>e = .returned (.tuple #[.string (textV x),.int .i64 (checkTrace x)])∧Below W.heap.size W w'):=(show ∀ W,_ from fun W=>by rw [hx];exact KW.out _ W)
    have HX:=Lib.hid hx
    clear hmk hx HMK HEN KW hkd
    generalize textV x=T at *
    generalize checkTrace x=ce at *
    go_upto_region 21 with (first
     | (go_at_call 6;(with_reducible refine (KP.out _).mono ?_);rintro e wz ⟨rfl,hbx⟩
        have hh:wz.heap[w4.heap.size]? = some (.cells #[.int .i64 v0,.int .i64 v1,.int .u8 1,.int .i64 v3,.int .i64 v4,.int .i64 v5,.int .i64 0,.int .i64 0,.int .i64 0,.int .i64 0] 23 (0,0)):=(same_set HE8.out hbx)
        have HEz:=Lib.hid hh
        have HBz:=Lib.hid ((HB8.out.setCell (p:=⟨w4.heap.size,4,none⟩) hle4 _).trans (hbx.mono (HB8.out.setCell (p:=⟨w4.heap.size,4,none⟩) hle4 _).size))
        obtain ⟨m0,m1,m2,m3,m4,m5,m6,m7,m8,m9⟩:wz.cell? ⟨w4.heap.size,0,none⟩=some (.int .i64 v0)∧wz.cell? ⟨w4.heap.size,1,none⟩=some (.int .i64 v1)∧wz.cell? ⟨w4.heap.size,2,none⟩=some (.int .u8 1)∧wz.cell? ⟨w4.heap.size,3,none⟩=some (.int .i64 v3)∧wz.cell? ⟨w4.heap.size,4,none⟩=some (.int .i64 v4)∧wz.cell? ⟨w4.heap.size,5,none⟩=some (.int .i64 v5)∧wz.cell? ⟨w4.heap.size,6,none⟩=some (.int .i64 0)∧wz.cell? ⟨w4.heap.size,7,none⟩=some (.int .i64 0)∧wz.cell? ⟨w4.heap.size,8,none⟩=some (.int .i64 0)∧wz.cell? ⟨w4.heap.size,9,none⟩=some (.int .i64 0):=(by simp [World.cell?,hh])
        clear hbx hh)
     | (go_at_call 29;(with_reducible refine (K4.out _ (HB7.out.setCell (p:=⟨w4.heap.size,3,none⟩) hle4 _)).mono ?_);rintro e w8 ⟨rfl,hbx⟩
        have hh:w8.heap[w4.heap.size]? = some (.cells #[.int .i64 v0,.int .i64 v1,.int .u8 1,.int .i64 v3,.int .i64 0,.int .i64 v5,.int .i64 0,.int .i64 0,.int .i64 0,.int .i64 0] 23 (0,0)):=(same_set HE7.out hbx)
        have HE8:=Lib.hid hh
        have HB8:=Lib.hid ((HB7.out.setCell (p:=⟨w4.heap.size,3,none⟩) hle4 _).trans (hbx.mono (HB7.out.setCell (p:=⟨w4.heap.size,3,none⟩) hle4 _).size))
        have s8:=HCS.out w8 HB8.out
        have f8:w8.cell? ⟨w4.heap.size,4,none⟩=some (.int .i64 0):=(by simp [World.cell?,hh])
        have g8:w8.frozen? ⟨w4.heap.size,4,none⟩=false:=(by simp [World.frozen?,hh])
        obtain ⟨d0,d1,d2,d3,d5,d6,d7,d8,d9⟩:w8.cell? ⟨w4.heap.size,0,none⟩=some (.int .i64 v0)∧w8.cell? ⟨w4.heap.size,1,none⟩=some (.int .i64 v1)∧w8.cell? ⟨w4.heap.size,2,none⟩=some (.int .u8 1)∧w8.cell? ⟨w4.heap.size,3,none⟩=some (.int .i64 v3)∧w8.cell? ⟨w4.heap.size,5,none⟩=some (.int .i64 v5)∧w8.cell? ⟨w4.heap.size,6,none⟩=some (.int .i64 0)∧w8.cell? ⟨w4.heap.size,7,none⟩=some (.int .i64 0)∧w8.cell? ⟨w4.heap.size,8,none⟩=some (.int .i64 0)∧w8.cell? ⟨w4.heap.size,9,none⟩=some (.int .i64 0):=(by simp [World.cell?,hh])
        clear hbx hh)
     | (go_at_call 29;(with_reducible refine (K3.out _ (HB6.out.setCell (p:=⟨w4.heap.size,5,none⟩) hle4 _)).mono ?_);rintro e w7 ⟨rfl,hbx⟩
        have hh:w7.heap[w4.heap.size]? = some (.cells #[.int .i64 v0,.int .i64 v1,.int .u8 1,.int .i64 0,.int .i64 0,.int .i64 v5,.int .i64 0,.int .i64 0,.int .i64 0,.int .i64 0] 23 (0,0)):=(same_set HE6.out hbx)
        have HE7:=Lib.hid hh
        have HB7:=Lib.hid ((HB6.out.setCell (p:=⟨w4.heap.size,5,none⟩) hle4 _).trans (hbx.mono (HB6.out.setCell (p:=⟨w4.heap.size,5,none⟩) hle4 _).size))
        have s7:=HCS.out w7 HB7.out
        have f7:w7.cell? ⟨w4.heap.size,3,none⟩=some (.int .i64 0):=(by simp [World.cell?,hh])
        have g7:w7.frozen? ⟨w4.heap.size,3,none⟩=false:=(by simp [World.frozen?,hh])
        clear hbx hh)
     | (go_at_call 29;(with_reducible refine (K5.out _ (HB5.out.setCell (p:=⟨w4.heap.size,2,none⟩) hle4 _)).mono ?_);rintro e w6 ⟨rfl,hbx⟩
        have hh:w6.heap[w4.heap.size]? = some (.cells #[.int .i64 v0,.int .i64 v1,.int .u8 1,.int .i64 0,.int .i64 0,.int .i64 0,.int .i64 0,.int .i64 0,.int .i64 0,.int .i64 0] 23 (0,0)):=(same_set HE5.out hbx)
        have HE6:=Lib.hid hh
        have HB6:=Lib.hid ((HB5.out.setCell (p:=⟨w4.heap.size,2,none⟩) hle4 _).trans (hbx.mono (HB5.out.setCell (p:=⟨w4.heap.size,2,none⟩) hle4 _).size))
        have s6:=HCS.out w6 HB6.out
        have f6:w6.cell? ⟨w4.heap.size,5,none⟩=some (.int .i64 0):=(by simp [World.cell?,hh])
        have g6:w6.frozen? ⟨w4.heap.size,5,none⟩=false:=(by simp [World.frozen?,hh])
        clear hbx hh))
    obtain ⟨q,⟨r0,r1,r2,r3,r4,r5,r6,r7,r8,r9⟩,c0,c1,c2,c3,c4,c5,c6,c7,c8,c9⟩:=HRE.out wz (HB2.out.trans (HBz.out.mono HB2.out.size))
    have HQz:=Lib.hid q
    have HBB:=Lib.hid (HB1.out.trans ((HB2.out.trans (HBz.out.mono HB2.out.size)).mono HB1.out.size))
    clear q
    rcases HE.out with ⟨rfl,rfl,t1,t2⟩|⟨rfl,hne,t1,t2⟩|⟨rfl,t1,t2⟩
    · rw [HX.out] at t1
      subst t1 t2
      go_wp2
      refine bodyPost_ret (results_ct rfl _ _ w.heap.size _ _ (0,0) _ rfl (set10 HQz.out) Tryz.underlying23 rfl (by kernel_rfl)) rfl ?_
      exact ⟨rfl,below_set10 HBB.out (Nat.le_refl _) _ _ _ _ _ _ _ _ _ _⟩
    · rw [HZT.out] at t1
      subst t1 t2
      have hte:(T.toList==s.toList)=false:=str_ne hne
      clear hne
      go_wp2
      refine bodyPost_ret (results_ct rfl _ _ w.heap.size _ _ (0,0) _ rfl (set10 HQz.out) Tryz.underlying23 rfl (by kernel_rfl)) rfl ?_
      exact ⟨rfl,below_set10 HBB.out (Nat.le_refl _) _ _ _ _ _ _ _ _ _ _⟩
    · rw [HZT.out] at t1
      subst t1 t2
      go_wp2
      refine bodyPost_ret (results_ct rfl _ _ w.heap.size _ _ (0,0) _ rfl (set10 HQz.out) Tryz.underlying23 rfl (by kernel_rfl)) rfl ?_
      exact ⟨rfl,below_set10 HBB.out (Nat.le_refl _) _ _ _ _ _ _ _ _ _ _⟩
  have n1:(b2.toList == [97,98,111,118,101])=false:=(by have h:=str_ne k1;simp only [ByteArray.toList_eq] at h ⊢;exact h)
  by_cases k2:b2=(⟨#[100,97,116,101,100]⟩:ByteArray)
  · have hkd:=dated_b k2
    subst k2
    obtain ⟨x,hx⟩:∃ x:Trace,x=⟨v0,v1,2,v3,v4,0,v5,v6,0,0⟩:=⟨_,rfl⟩
    have hmk:=HMK.out 2 hkd
    simp only [Int.reduceEq,reduceIte] at hmk
    rw [←hx] at hmk
    have HE:=Lib.hid (HEN.out x hmk)
    have KP:Hid (∀ W,Calls Tryz.prog 6 #[.agg #[.int .i64 v0,.int .i64 v1,.int .u8 2,.int .i64 v3,.int .i64 v4,.int .i64 0,.int .i64 v5,.int .i64 v6,.int .i64 0,.int .i64 0]] W fun e w'=>e = .returned (.tuple #[.string (textV x),.int .i64 (checkTrace x)])∧Below W.heap.size W w'):=(show ∀ W,_ from fun W=>by rw [hx];exact KW.out _ W)
    have HX:=Lib.hid hx
    clear hmk hx HMK HEN KW hkd
    generalize textV x=T at *
    generalize checkTrace x=ce at *
    go_upto_region 21 with (first
     | (go_at_call 6;(with_reducible refine (KP.out _).mono ?_);rintro e wz ⟨rfl,hbx⟩
        have hh:wz.heap[w4.heap.size]? = some (.cells #[.int .i64 v0,.int .i64 v1,.int .u8 2,.int .i64 v3,.int .i64 v4,.int .i64 0,.int .i64 v5,.int .i64 v6,.int .i64 0,.int .i64 0] 23 (0,0)):=(same_set HE9.out hbx)
        have HEz:=Lib.hid hh
        have HBz:=Lib.hid ((HB9.out.setCell (p:=⟨w4.heap.size,4,none⟩) hle4 _).trans (hbx.mono (HB9.out.setCell (p:=⟨w4.heap.size,4,none⟩) hle4 _).size))
        obtain ⟨m0,m1,m2,m3,m4,m5,m6,m7,m8,m9⟩:wz.cell? ⟨w4.heap.size,0,none⟩=some (.int .i64 v0)∧wz.cell? ⟨w4.heap.size,1,none⟩=some (.int .i64 v1)∧wz.cell? ⟨w4.heap.size,2,none⟩=some (.int .u8 2)∧wz.cell? ⟨w4.heap.size,3,none⟩=some (.int .i64 v3)∧wz.cell? ⟨w4.heap.size,4,none⟩=some (.int .i64 v4)∧wz.cell? ⟨w4.heap.size,5,none⟩=some (.int .i64 0)∧wz.cell? ⟨w4.heap.size,6,none⟩=some (.int .i64 v5)∧wz.cell? ⟨w4.heap.size,7,none⟩=some (.int .i64 v6)∧wz.cell? ⟨w4.heap.size,8,none⟩=some (.int .i64 0)∧wz.cell? ⟨w4.heap.size,9,none⟩=some (.int .i64 0):=(by simp [World.cell?,hh])
        clear hbx hh)
     | (go_at_call 29;(with_reducible refine (K4.out _ (HB8.out.setCell (p:=⟨w4.heap.size,3,none⟩) hle4 _)).mono ?_);rintro e w9 ⟨rfl,hbx⟩
        have hh:w9.heap[w4.heap.size]? = some (.cells #[.int .i64 v0,.int .i64 v1,.int .u8 2,.int .i64 v3,.int .i64 0,.int .i64 0,.int .i64 v5,.int .i64 v6,.int .i64 0,.int .i64 0] 23 (0,0)):=(same_set HE8.out hbx)
        have HE9:=Lib.hid hh
        have HB9:=Lib.hid ((HB8.out.setCell (p:=⟨w4.heap.size,3,none⟩) hle4 _).trans (hbx.mono (HB8.out.setCell (p:=⟨w4.heap.size,3,none⟩) hle4 _).size))
        have s9:=HCS.out w9 HB9.out
        have f9:w9.cell? ⟨w4.heap.size,4,none⟩=some (.int .i64 0):=(by simp [World.cell?,hh])
        have g9:w9.frozen? ⟨w4.heap.size,4,none⟩=false:=(by simp [World.frozen?,hh])
        obtain ⟨d0,d1,d2,d3,d5,d6,d7,d8,d9⟩:w9.cell? ⟨w4.heap.size,0,none⟩=some (.int .i64 v0)∧w9.cell? ⟨w4.heap.size,1,none⟩=some (.int .i64 v1)∧w9.cell? ⟨w4.heap.size,2,none⟩=some (.int .u8 2)∧w9.cell? ⟨w4.heap.size,3,none⟩=some (.int .i64 v3)∧w9.cell? ⟨w4.heap.size,5,none⟩=some (.int .i64 0)∧w9.cell? ⟨w4.heap.size,6,none⟩=some (.int .i64 v5)∧w9.cell? ⟨w4.heap.size,7,none⟩=some (.int .i64 v6)∧w9.cell? ⟨w4.heap.size,8,none⟩=some (.int .i64 0)∧w9.cell? ⟨w4.heap.size,9,none⟩=some (.int .i64 0):=(by simp [World.cell?,hh])
        clear hbx hh)
     | (go_at_call 29;(with_reducible refine (K3.out _ (HB7.out.setCell (p:=⟨w4.heap.size,7,none⟩) hle4 _)).mono ?_);rintro e w8 ⟨rfl,hbx⟩
        have hh:w8.heap[w4.heap.size]? = some (.cells #[.int .i64 v0,.int .i64 v1,.int .u8 2,.int .i64 0,.int .i64 0,.int .i64 0,.int .i64 v5,.int .i64 v6,.int .i64 0,.int .i64 0] 23 (0,0)):=(same_set HE7.out hbx)
        have HE8:=Lib.hid hh
        have HB8:=Lib.hid ((HB7.out.setCell (p:=⟨w4.heap.size,7,none⟩) hle4 _).trans (hbx.mono (HB7.out.setCell (p:=⟨w4.heap.size,7,none⟩) hle4 _).size))
        have s8:=HCS.out w8 HB8.out
        have f8:w8.cell? ⟨w4.heap.size,3,none⟩=some (.int .i64 0):=(by simp [World.cell?,hh])
        have g8:w8.frozen? ⟨w4.heap.size,3,none⟩=false:=(by simp [World.frozen?,hh])
        clear hbx hh)
     | (go_at_call 29;(with_reducible refine (K6.out _ (HB6.out.setCell (p:=⟨w4.heap.size,6,none⟩) hle4 _)).mono ?_);rintro e w7 ⟨rfl,hbx⟩
        have hh:w7.heap[w4.heap.size]? = some (.cells #[.int .i64 v0,.int .i64 v1,.int .u8 2,.int .i64 0,.int .i64 0,.int .i64 0,.int .i64 v5,.int .i64 0,.int .i64 0,.int .i64 0] 23 (0,0)):=(same_set HE6.out hbx)
        have HE7:=Lib.hid hh
        have HB7:=Lib.hid ((HB6.out.setCell (p:=⟨w4.heap.size,6,none⟩) hle4 _).trans (hbx.mono (HB6.out.setCell (p:=⟨w4.heap.size,6,none⟩) hle4 _).size))
        have s7:=HCS.out w7 HB7.out
        have f7:w7.cell? ⟨w4.heap.size,7,none⟩=some (.int .i64 0):=(by simp [World.cell?,hh])
        have g7:w7.frozen? ⟨w4.heap.size,7,none⟩=false:=(by simp [World.frozen?,hh])
        clear hbx hh)
     | (go_at_call 29;(with_reducible refine (K5.out _ (HB5.out.setCell (p:=⟨w4.heap.size,2,none⟩) hle4 _)).mono ?_);rintro e w6 ⟨rfl,hbx⟩
        have hh:w6.heap[w4.heap.size]? = some (.cells #[.int .i64 v0,.int .i64 v1,.int .u8 2,.int .i64 0,.int .i64 0,.int .i64 0,.int .i64 0,.int .i64 0,.int .i64 0,.int .i64 0] 23 (0,0)):=(same_set HE5.out hbx)
        have HE6:=Lib.hid hh
        have HB6:=Lib.hid ((HB5.out.setCell (p:=⟨w4.heap.size,2,none⟩) hle4 _).trans (hbx.mono (HB5.out.setCell (p:=⟨w4.heap.size,2,none⟩) hle4 _).size))
        have s6:=HCS.out w6 HB6.out
        have f6:w6.cell? ⟨w4.heap.size,6,none⟩=some (.int .i64 0):=(by simp [World.cell?,hh])
        have g6:w6.frozen? ⟨w4.heap.size,6,none⟩=false:=(by simp [World.frozen?,hh])
        clear hbx hh))
    obtain ⟨q,⟨r0,r1,r2,r3,r4,r5,r6,r7,r8,r9⟩,c0,c1,c2,c3,c4,c5,c6,c7,c8,c9⟩:=HRE.out wz (HB2.out.trans (HBz.out.mono HB2.out.size))
    have HQz:=Lib.hid q
    have HBB:=Lib.hid (HB1.out.trans ((HB2.out.trans (HBz.out.mono HB2.out.size)).mono HB1.out.size))
    clear q
    rcases HE.out with ⟨rfl,rfl,t1,t2⟩|⟨rfl,hne,t1,t2⟩|⟨rfl,t1,t2⟩
    · rw [HX.out] at t1
      subst t1 t2
      go_wp2
      refine bodyPost_ret (results_ct rfl _ _ w.heap.size _ _ (0,0) _ rfl (set10 HQz.out) Tryz.underlying23 rfl (by kernel_rfl)) rfl ?_
      exact ⟨rfl,below_set10 HBB.out (Nat.le_refl _) _ _ _ _ _ _ _ _ _ _⟩
    · rw [HZT.out] at t1
      subst t1 t2
      have hte:(T.toList==s.toList)=false:=str_ne hne
      clear hne
      go_wp2
      refine bodyPost_ret (results_ct rfl _ _ w.heap.size _ _ (0,0) _ rfl (set10 HQz.out) Tryz.underlying23 rfl (by kernel_rfl)) rfl ?_
      exact ⟨rfl,below_set10 HBB.out (Nat.le_refl _) _ _ _ _ _ _ _ _ _ _⟩
    · rw [HZT.out] at t1
      subst t1 t2
      go_wp2
      refine bodyPost_ret (results_ct rfl _ _ w.heap.size _ _ (0,0) _ rfl (set10 HQz.out) Tryz.underlying23 rfl (by kernel_rfl)) rfl ?_
      exact ⟨rfl,below_set10 HBB.out (Nat.le_refl _) _ _ _ _ _ _ _ _ _ _⟩
  have n2:(b2.toList == [100,97,116,101,100])=false:=(by have h:=str_ne k2;simp only [ByteArray.toList_eq] at h ⊢;exact h)
  by_cases k3:b2=(⟨#[109,111,118,101,100]⟩:ByteArray)
  · have hkd:=moved_b k3
    subst k3
    obtain ⟨x,hx⟩:∃ x:Trace,x=⟨v0,v1,3,v3,v4,0,0,0,v5,0⟩:=⟨_,rfl⟩
    have hmk:=HMK.out 3 hkd
    simp only [Int.reduceEq,reduceIte] at hmk
    rw [←hx] at hmk
    have HE:=Lib.hid (HEN.out x hmk)
    have KP:Hid (∀ W,Calls Tryz.prog 6 #[.agg #[.int .i64 v0,.int .i64 v1,.int .u8 3,.int .i64 v3,.int .i64 v4,.int .i64 0,.int .i64 0,.int .i64 0,.int .i64 v5,.int .i64 0]] W fun e w'=>e = .returned (.tuple #[.string (textV x),.int .i64 (checkTrace x)])∧Below W.heap.size W w'):=(show ∀ W,_ from fun W=>by rw [hx];exact KW.out _ W)
    have HX:=Lib.hid hx
    clear hmk hx HMK HEN KW hkd
    generalize textV x=T at *
    generalize checkTrace x=ce at *
    go_upto_region 21 with (first
     | (go_at_call 6;(with_reducible refine (KP.out _).mono ?_);rintro e wz ⟨rfl,hbx⟩
        have hh:wz.heap[w4.heap.size]? = some (.cells #[.int .i64 v0,.int .i64 v1,.int .u8 3,.int .i64 v3,.int .i64 v4,.int .i64 0,.int .i64 0,.int .i64 0,.int .i64 v5,.int .i64 0] 23 (0,0)):=(same_set HE8.out hbx)
        have HEz:=Lib.hid hh
        have HBz:=Lib.hid ((HB8.out.setCell (p:=⟨w4.heap.size,4,none⟩) hle4 _).trans (hbx.mono (HB8.out.setCell (p:=⟨w4.heap.size,4,none⟩) hle4 _).size))
        obtain ⟨m0,m1,m2,m3,m4,m5,m6,m7,m8,m9⟩:wz.cell? ⟨w4.heap.size,0,none⟩=some (.int .i64 v0)∧wz.cell? ⟨w4.heap.size,1,none⟩=some (.int .i64 v1)∧wz.cell? ⟨w4.heap.size,2,none⟩=some (.int .u8 3)∧wz.cell? ⟨w4.heap.size,3,none⟩=some (.int .i64 v3)∧wz.cell? ⟨w4.heap.size,4,none⟩=some (.int .i64 v4)∧wz.cell? ⟨w4.heap.size,5,none⟩=some (.int .i64 0)∧wz.cell? ⟨w4.heap.size,6,none⟩=some (.int .i64 0)∧wz.cell? ⟨w4.heap.size,7,none⟩=some (.int .i64 0)∧wz.cell? ⟨w4.heap.size,8,none⟩=some (.int .i64 v5)∧wz.cell? ⟨w4.heap.size,9,none⟩=some (.int .i64 0):=(by simp [World.cell?,hh])
        clear hbx hh)
     | (go_at_call 29;(with_reducible refine (K4.out _ (HB7.out.setCell (p:=⟨w4.heap.size,3,none⟩) hle4 _)).mono ?_);rintro e w8 ⟨rfl,hbx⟩
        have hh:w8.heap[w4.heap.size]? = some (.cells #[.int .i64 v0,.int .i64 v1,.int .u8 3,.int .i64 v3,.int .i64 0,.int .i64 0,.int .i64 0,.int .i64 0,.int .i64 v5,.int .i64 0] 23 (0,0)):=(same_set HE7.out hbx)
        have HE8:=Lib.hid hh
        have HB8:=Lib.hid ((HB7.out.setCell (p:=⟨w4.heap.size,3,none⟩) hle4 _).trans (hbx.mono (HB7.out.setCell (p:=⟨w4.heap.size,3,none⟩) hle4 _).size))
        have s8:=HCS.out w8 HB8.out
        have f8:w8.cell? ⟨w4.heap.size,4,none⟩=some (.int .i64 0):=(by simp [World.cell?,hh])
        have g8:w8.frozen? ⟨w4.heap.size,4,none⟩=false:=(by simp [World.frozen?,hh])
        obtain ⟨d0,d1,d2,d3,d5,d6,d7,d8,d9⟩:w8.cell? ⟨w4.heap.size,0,none⟩=some (.int .i64 v0)∧w8.cell? ⟨w4.heap.size,1,none⟩=some (.int .i64 v1)∧w8.cell? ⟨w4.heap.size,2,none⟩=some (.int .u8 3)∧w8.cell? ⟨w4.heap.size,3,none⟩=some (.int .i64 v3)∧w8.cell? ⟨w4.heap.size,5,none⟩=some (.int .i64 0)∧w8.cell? ⟨w4.heap.size,6,none⟩=some (.int .i64 0)∧w8.cell? ⟨w4.heap.size,7,none⟩=some (.int .i64 0)∧w8.cell? ⟨w4.heap.size,8,none⟩=some (.int .i64 v5)∧w8.cell? ⟨w4.heap.size,9,none⟩=some (.int .i64 0):=(by simp [World.cell?,hh])
        clear hbx hh)
     | (go_at_call 29;(with_reducible refine (K3.out _ (HB6.out.setCell (p:=⟨w4.heap.size,8,none⟩) hle4 _)).mono ?_);rintro e w7 ⟨rfl,hbx⟩
        have hh:w7.heap[w4.heap.size]? = some (.cells #[.int .i64 v0,.int .i64 v1,.int .u8 3,.int .i64 0,.int .i64 0,.int .i64 0,.int .i64 0,.int .i64 0,.int .i64 v5,.int .i64 0] 23 (0,0)):=(same_set HE6.out hbx)
        have HE7:=Lib.hid hh
        have HB7:=Lib.hid ((HB6.out.setCell (p:=⟨w4.heap.size,8,none⟩) hle4 _).trans (hbx.mono (HB6.out.setCell (p:=⟨w4.heap.size,8,none⟩) hle4 _).size))
        have s7:=HCS.out w7 HB7.out
        have f7:w7.cell? ⟨w4.heap.size,3,none⟩=some (.int .i64 0):=(by simp [World.cell?,hh])
        have g7:w7.frozen? ⟨w4.heap.size,3,none⟩=false:=(by simp [World.frozen?,hh])
        clear hbx hh)
     | (go_at_call 29;(with_reducible refine (K5.out _ (HB5.out.setCell (p:=⟨w4.heap.size,2,none⟩) hle4 _)).mono ?_);rintro e w6 ⟨rfl,hbx⟩
        have hh:w6.heap[w4.heap.size]? = some (.cells #[.int .i64 v0,.int .i64 v1,.int .u8 3,.int .i64 0,.int .i64 0,.int .i64 0,.int .i64 0,.int .i64 0,.int .i64 0,.int .i64 0] 23 (0,0)):=(same_set HE5.out hbx)
        have HE6:=Lib.hid hh
        have HB6:=Lib.hid ((HB5.out.setCell (p:=⟨w4.heap.size,2,none⟩) hle4 _).trans (hbx.mono (HB5.out.setCell (p:=⟨w4.heap.size,2,none⟩) hle4 _).size))
        have s6:=HCS.out w6 HB6.out
        have f6:w6.cell? ⟨w4.heap.size,8,none⟩=some (.int .i64 0):=(by simp [World.cell?,hh])
        have g6:w6.frozen? ⟨w4.heap.size,8,none⟩=false:=(by simp [World.frozen?,hh])
        clear hbx hh))
    obtain ⟨q,⟨r0,r1,r2,r3,r4,r5,r6,r7,r8,r9⟩,c0,c1,c2,c3,c4,c5,c6,c7,c8,c9⟩:=HRE.out wz (HB2.out.trans (HBz.out.mono HB2.out.size))
    have HQz:=Lib.hid q
    have HBB:=Lib.hid (HB1.out.trans ((HB2.out.trans (HBz.out.mono HB2.out.size)).mono HB1.out.size))
    clear q
    rcases HE.out with ⟨rfl,rfl,t1,t2⟩|⟨rfl,hne,t1,t2⟩|⟨rfl,t1,t2⟩
    · rw [HX.out] at t1
      subst t1 t2
      go_wp2
      refine bodyPost_ret (results_ct rfl _ _ w.heap.size _ _ (0,0) _ rfl (set10 HQz.out) Tryz.underlying23 rfl (by kernel_rfl)) rfl ?_
      exact ⟨rfl,below_set10 HBB.out (Nat.le_refl _) _ _ _ _ _ _ _ _ _ _⟩
    · rw [HZT.out] at t1
      subst t1 t2
      have hte:(T.toList==s.toList)=false:=str_ne hne
      clear hne
      go_wp2
      refine bodyPost_ret (results_ct rfl _ _ w.heap.size _ _ (0,0) _ rfl (set10 HQz.out) Tryz.underlying23 rfl (by kernel_rfl)) rfl ?_
      exact ⟨rfl,below_set10 HBB.out (Nat.le_refl _) _ _ _ _ _ _ _ _ _ _⟩
    · rw [HZT.out] at t1
      subst t1 t2
      go_wp2
      refine bodyPost_ret (results_ct rfl _ _ w.heap.size _ _ (0,0) _ rfl (set10 HQz.out) Tryz.underlying23 rfl (by kernel_rfl)) rfl ?_
      exact ⟨rfl,below_set10 HBB.out (Nat.le_refl _) _ _ _ _ _ _ _ _ _ _⟩
  have n3:(b2.toList == [109,111,118,101,100])=false:=(by have h:=str_ne k3;simp only [ByteArray.toList_eq] at h ⊢;exact h)
  by_cases k4:b2=(⟨#[118,111,105,100]⟩:ByteArray)
  · have hkd:=void_b k4
    subst k4
    obtain ⟨x,hx⟩:∃ x:Trace,x=⟨v0,v1,4,0,0,0,0,0,0,v3⟩:=⟨_,rfl⟩
    have hmk:=HMK.out 4 hkd
    simp only [Int.reduceEq,reduceIte] at hmk
    rw [←hx] at hmk
    have HE:=Lib.hid (HEN.out x hmk)
    have KP:Hid (∀ W,Calls Tryz.prog 6 #[.agg #[.int .i64 v0,.int .i64 v1,.int .u8 4,.int .i64 0,.int .i64 0,.int .i64 0,.int .i64 0,.int .i64 0,.int .i64 0,.int .i64 v3]] W fun e w'=>e = .returned (.tuple #[.string (textV x),.int .i64 (checkTrace x)])∧Below W.heap.size W w'):=(show ∀ W,_ from fun W=>by rw [hx];exact KW.out _ W)
    have HX:=Lib.hid hx
    clear hmk hx HMK HEN KW hkd
    generalize textV x=T at *
    generalize checkTrace x=ce at *
    go_upto_region 21 with (first
     | (go_at_call 6;(with_reducible refine (KP.out _).mono ?_);rintro e wz ⟨rfl,hbx⟩
        have hh:wz.heap[w4.heap.size]? = some (.cells #[.int .i64 v0,.int .i64 v1,.int .u8 4,.int .i64 0,.int .i64 0,.int .i64 0,.int .i64 0,.int .i64 0,.int .i64 0,.int .i64 v3] 23 (0,0)):=(same_set HE6.out hbx)
        have HEz:=Lib.hid hh
        have HBz:=Lib.hid ((HB6.out.setCell (p:=⟨w4.heap.size,9,none⟩) hle4 _).trans (hbx.mono (HB6.out.setCell (p:=⟨w4.heap.size,9,none⟩) hle4 _).size))
        obtain ⟨m0,m1,m2,m3,m4,m5,m6,m7,m8,m9⟩:wz.cell? ⟨w4.heap.size,0,none⟩=some (.int .i64 v0)∧wz.cell? ⟨w4.heap.size,1,none⟩=some (.int .i64 v1)∧wz.cell? ⟨w4.heap.size,2,none⟩=some (.int .u8 4)∧wz.cell? ⟨w4.heap.size,3,none⟩=some (.int .i64 0)∧wz.cell? ⟨w4.heap.size,4,none⟩=some (.int .i64 0)∧wz.cell? ⟨w4.heap.size,5,none⟩=some (.int .i64 0)∧wz.cell? ⟨w4.heap.size,6,none⟩=some (.int .i64 0)∧wz.cell? ⟨w4.heap.size,7,none⟩=some (.int .i64 0)∧wz.cell? ⟨w4.heap.size,8,none⟩=some (.int .i64 0)∧wz.cell? ⟨w4.heap.size,9,none⟩=some (.int .i64 v3):=(by simp [World.cell?,hh])
        clear hbx hh)
     | (go_at_call 29;(with_reducible refine (K3.out _ (HB5.out.setCell (p:=⟨w4.heap.size,2,none⟩) hle4 _)).mono ?_);rintro e w6 ⟨rfl,hbx⟩
        have hh:w6.heap[w4.heap.size]? = some (.cells #[.int .i64 v0,.int .i64 v1,.int .u8 4,.int .i64 0,.int .i64 0,.int .i64 0,.int .i64 0,.int .i64 0,.int .i64 0,.int .i64 0] 23 (0,0)):=(same_set HE5.out hbx)
        have HE6:=Lib.hid hh
        have HB6:=Lib.hid ((HB5.out.setCell (p:=⟨w4.heap.size,2,none⟩) hle4 _).trans (hbx.mono (HB5.out.setCell (p:=⟨w4.heap.size,2,none⟩) hle4 _).size))
        have s6:=HCS.out w6 HB6.out
        have f6:w6.cell? ⟨w4.heap.size,9,none⟩=some (.int .i64 0):=(by simp [World.cell?,hh])
        have g6:w6.frozen? ⟨w4.heap.size,9,none⟩=false:=(by simp [World.frozen?,hh])
        obtain ⟨d0,d1,d2,d3,d4,d5,d6,d7,d8⟩:w6.cell? ⟨w4.heap.size,0,none⟩=some (.int .i64 v0)∧w6.cell? ⟨w4.heap.size,1,none⟩=some (.int .i64 v1)∧w6.cell? ⟨w4.heap.size,2,none⟩=some (.int .u8 4)∧w6.cell? ⟨w4.heap.size,3,none⟩=some (.int .i64 0)∧w6.cell? ⟨w4.heap.size,4,none⟩=some (.int .i64 0)∧w6.cell? ⟨w4.heap.size,5,none⟩=some (.int .i64 0)∧w6.cell? ⟨w4.heap.size,6,none⟩=some (.int .i64 0)∧w6.cell? ⟨w4.heap.size,7,none⟩=some (.int .i64 0)∧w6.cell? ⟨w4.heap.size,8,none⟩=some (.int .i64 0):=(by simp [World.cell?,hh])
        clear hbx hh))
    obtain ⟨q,⟨r0,r1,r2,r3,r4,r5,r6,r7,r8,r9⟩,c0,c1,c2,c3,c4,c5,c6,c7,c8,c9⟩:=HRE.out wz (HB2.out.trans (HBz.out.mono HB2.out.size))
    have HQz:=Lib.hid q
    have HBB:=Lib.hid (HB1.out.trans ((HB2.out.trans (HBz.out.mono HB2.out.size)).mono HB1.out.size))
    clear q
    rcases HE.out with ⟨rfl,rfl,t1,t2⟩|⟨rfl,hne,t1,t2⟩|⟨rfl,t1,t2⟩
    · rw [HX.out] at t1
      subst t1 t2
      go_wp2
      refine bodyPost_ret (results_ct rfl _ _ w.heap.size _ _ (0,0) _ rfl (set10 HQz.out) Tryz.underlying23 rfl (by kernel_rfl)) rfl ?_
      exact ⟨rfl,below_set10 HBB.out (Nat.le_refl _) _ _ _ _ _ _ _ _ _ _⟩
    · rw [HZT.out] at t1
      subst t1 t2
      have hte:(T.toList==s.toList)=false:=str_ne hne
      clear hne
      go_wp2
      refine bodyPost_ret (results_ct rfl _ _ w.heap.size _ _ (0,0) _ rfl (set10 HQz.out) Tryz.underlying23 rfl (by kernel_rfl)) rfl ?_
      exact ⟨rfl,below_set10 HBB.out (Nat.le_refl _) _ _ _ _ _ _ _ _ _ _⟩
    · rw [HZT.out] at t1
      subst t1 t2
      go_wp2
      refine bodyPost_ret (results_ct rfl _ _ w.heap.size _ _ (0,0) _ rfl (set10 HQz.out) Tryz.underlying23 rfl (by kernel_rfl)) rfl ?_
      exact ⟨rfl,below_set10 HBB.out (Nat.le_refl _) _ _ _ _ _ _ _ _ _ _⟩
  have n4:(b2.toList == [118,111,105,100])=false:=(by have h:=str_ne k4;simp only [ByteArray.toList_eq] at h ⊢;exact h)
  have hkd:=none_b k1 k2 k3 k4
  clear k1 k2 k3 k4
  obtain ⟨x,hx⟩:∃ x:Trace,x=⟨v0,v1,0,v3,v4,0,0,0,0,0⟩:=⟨_,rfl⟩
  have hmk:=HMK.out 0 hkd
  simp only [Int.reduceEq,reduceIte] at hmk
  rw [←hx] at hmk
  have HE:=Lib.hid (HEN.out x hmk)
  have KP:Hid (∀ W,Calls Tryz.prog 6 #[.agg #[.int .i64 v0,.int .i64 v1,.int .u8 0,.int .i64 v3,.int .i64 v4,.int .i64 0,.int .i64 0,.int .i64 0,.int .i64 0,.int .i64 0]] W fun e w'=>e = .returned (.tuple #[.string (textV x),.int .i64 (checkTrace x)])∧Below W.heap.size W w'):=(show ∀ W,_ from fun W=>by rw [hx];exact KW.out _ W)
  have HX:=Lib.hid hx
  clear hmk hx HMK HEN KW hkd
  generalize textV x=T at *
  generalize checkTrace x=ce at *
  go_upto_region 21 with (first
   | (go_at_call 6;(with_reducible refine (KP.out _).mono ?_);rintro e wz ⟨rfl,hbx⟩
      have hh:wz.heap[w4.heap.size]? = some (.cells #[.int .i64 v0,.int .i64 v1,.int .u8 0,.int .i64 v3,.int .i64 v4,.int .i64 0,.int .i64 0,.int .i64 0,.int .i64 0,.int .i64 0] 23 (0,0)):=(same_set HE7.out hbx)
      have HEz:=Lib.hid hh
      have HBz:=Lib.hid ((HB7.out.setCell (p:=⟨w4.heap.size,4,none⟩) hle4 _).trans (hbx.mono (HB7.out.setCell (p:=⟨w4.heap.size,4,none⟩) hle4 _).size))
      obtain ⟨m0,m1,m2,m3,m4,m5,m6,m7,m8,m9⟩:wz.cell? ⟨w4.heap.size,0,none⟩=some (.int .i64 v0)∧wz.cell? ⟨w4.heap.size,1,none⟩=some (.int .i64 v1)∧wz.cell? ⟨w4.heap.size,2,none⟩=some (.int .u8 0)∧wz.cell? ⟨w4.heap.size,3,none⟩=some (.int .i64 v3)∧wz.cell? ⟨w4.heap.size,4,none⟩=some (.int .i64 v4)∧wz.cell? ⟨w4.heap.size,5,none⟩=some (.int .i64 0)∧wz.cell? ⟨w4.heap.size,6,none⟩=some (.int .i64 0)∧wz.cell? ⟨w4.heap.size,7,none⟩=some (.int .i64 0)∧wz.cell? ⟨w4.heap.size,8,none⟩=some (.int .i64 0)∧wz.cell? ⟨w4.heap.size,9,none⟩=some (.int .i64 0):=(by simp [World.cell?,hh])
      clear hbx hh)
   | (go_at_call 29;(with_reducible refine (K4.out _ (HB6.out.setCell (p:=⟨w4.heap.size,3,none⟩) hle4 _)).mono ?_);rintro e w7 ⟨rfl,hbx⟩
      have hh:w7.heap[w4.heap.size]? = some (.cells #[.int .i64 v0,.int .i64 v1,.int .u8 0,.int .i64 v3,.int .i64 0,.int .i64 0,.int .i64 0,.int .i64 0,.int .i64 0,.int .i64 0] 23 (0,0)):=(same_set HE6.out hbx)
      have HE7:=Lib.hid hh
      have HB7:=Lib.hid ((HB6.out.setCell (p:=⟨w4.heap.size,3,none⟩) hle4 _).trans (hbx.mono (HB6.out.setCell (p:=⟨w4.heap.size,3,none⟩) hle4 _).size))
      have s7:=HCS.out w7 HB7.out
      have f7:w7.cell? ⟨w4.heap.size,4,none⟩=some (.int .i64 0):=(by simp [World.cell?,hh])
      have g7:w7.frozen? ⟨w4.heap.size,4,none⟩=false:=(by simp [World.frozen?,hh])
      obtain ⟨d0,d1,d2,d3,d5,d6,d7,d8,d9⟩:w7.cell? ⟨w4.heap.size,0,none⟩=some (.int .i64 v0)∧w7.cell? ⟨w4.heap.size,1,none⟩=some (.int .i64 v1)∧w7.cell? ⟨w4.heap.size,2,none⟩=some (.int .u8 0)∧w7.cell? ⟨w4.heap.size,3,none⟩=some (.int .i64 v3)∧w7.cell? ⟨w4.heap.size,5,none⟩=some (.int .i64 0)∧w7.cell? ⟨w4.heap.size,6,none⟩=some (.int .i64 0)∧w7.cell? ⟨w4.heap.size,7,none⟩=some (.int .i64 0)∧w7.cell? ⟨w4.heap.size,8,none⟩=some (.int .i64 0)∧w7.cell? ⟨w4.heap.size,9,none⟩=some (.int .i64 0):=(by simp [World.cell?,hh])
      clear hbx hh)
   | (go_at_call 29;(with_reducible refine (K3.out _ HB5.out).mono ?_);rintro e w6 ⟨rfl,hbx⟩
      have hh:w6.heap[w4.heap.size]? = some (.cells #[.int .i64 v0,.int .i64 v1,.int .u8 0,.int .i64 0,.int .i64 0,.int .i64 0,.int .i64 0,.int .i64 0,.int .i64 0,.int .i64 0] 23 (0,0)):=((hbx.block w4.heap.size (Array.getElem?_eq_some_iff.1 HE5.out).1).trans HE5.out)
      have HE6:=Lib.hid hh
      have HB6:=Lib.hid (HB5.out.trans (hbx.mono HB5.out.size))
      have s6:=HCS.out w6 HB6.out
      have f6:w6.cell? ⟨w4.heap.size,3,none⟩=some (.int .i64 0):=(by simp [World.cell?,hh])
      have g6:w6.frozen? ⟨w4.heap.size,3,none⟩=false:=(by simp [World.frozen?,hh])
      clear hbx hh))
  obtain ⟨q,⟨r0,r1,r2,r3,r4,r5,r6,r7,r8,r9⟩,c0,c1,c2,c3,c4,c5,c6,c7,c8,c9⟩:=HRE.out wz (HB2.out.trans (HBz.out.mono HB2.out.size))
  have HQz:=Lib.hid q
  have HBB:=Lib.hid (HB1.out.trans ((HB2.out.trans (HBz.out.mono HB2.out.size)).mono HB1.out.size))
  clear q
  rcases HE.out with ⟨rfl,rfl,t1,t2⟩|⟨rfl,hne,t1,t2⟩|⟨rfl,t1,t2⟩
  · rw [HX.out] at t1
    subst t1 t2
    go_wp2
    refine bodyPost_ret (results_ct rfl _ _ w.heap.size _ _ (0,0) _ rfl (set10 HQz.out) Tryz.underlying23 rfl (by kernel_rfl)) rfl ?_
    exact ⟨rfl,below_set10 HBB.out (Nat.le_refl _) _ _ _ _ _ _ _ _ _ _⟩
  · rw [HZT.out] at t1
    subst t1 t2
    have hte:(T.toList==s.toList)=false:=str_ne hne
    clear hne
    go_wp2
    refine bodyPost_ret (results_ct rfl _ _ w.heap.size _ _ (0,0) _ rfl (set10 HQz.out) Tryz.underlying23 rfl (by kernel_rfl)) rfl ?_
    exact ⟨rfl,below_set10 HBB.out (Nat.le_refl _) _ _ _ _ _ _ _ _ _ _⟩
  · rw [HZT.out] at t1
    subst t1 t2
    go_wp2
    refine bodyPost_ret (results_ct rfl _ _ w.heap.size _ _ (0,0) _ rfl (set10 HQz.out) Tryz.underlying23 rfl (by kernel_rfl)) rfl ?_
    exact ⟨rfl,below_set10 HBB.out (Nat.le_refl _) _ _ _ _ _ _ _ _ _ _⟩
end Go.Proofs.YtejjplhknacoiaaGreatDoor
end

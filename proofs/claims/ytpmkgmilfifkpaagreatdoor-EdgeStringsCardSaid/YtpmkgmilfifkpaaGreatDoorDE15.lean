/- Contracts that the laws lean on: EdD, Circ10, Circ20. -/
import Derived.Test.YtpmkgmilfifkpaaGreatDoorDE14
set_option maxRecDepth 100000
set_option maxHeartbeats 4000000
section
namespace Go.Proofs.YtpmkgmilfifkpaaGreatDoor
open Go.RowKit Go.Proofs Go.Shelf
theorem ent_pways:∀ args w,(callFunc 31 args).run Tryz.prog w = .ok (.enter 31 args) w:=enters_of Tryz.func31 (by kernel_rfl) rfl
theorem ent_pdirs:∀ args w,(callFunc 72 args).run Tryz.prog w = .ok (.enter 72 args) w:=enters_of Tryz.func72 (by kernel_rfl) rfl
theorem heap3 (w:World) (a b c:Obj):(((w.alloc a).alloc b).alloc c).heap[w.heap.size+1+1]? = some c∧(((w.alloc a).alloc b).alloc c).heap[w.heap.size+1]? = some b:=by
 have h1:=heap_alloc_new ((w.alloc a).alloc b) c
 refine ⟨by simpa using h1,?_⟩
 rw [Below.heap_alloc _ _ _ (by simp)]
 exact heap2 w a b
theorem four_lo {W:World} {k:Nat} {x0 x1 x2 x3 v0 v1:Value} {t:TypeId} (h:W.heap[k]? = some (.cells #[x0,x1,x2,x3] t (0,0))):((W.setCell ⟨k,0,none⟩ v0).setCell ⟨k,1,none⟩ v1).heap[k]? = some (.cells #[v0,v1,x2,x3] t (0,0)):=by
 rw [heap_setCell_obj (heap_setCell_obj h)];rfl
theorem four_hi {W:World} {k:Nat} {x0 x1 x2 x3 v2 v3:Value} {t:TypeId} (h:W.heap[k]? = some (.cells #[x0,x1,x2,x3] t (0,0))):((W.setCell ⟨k,2,none⟩ v2).setCell ⟨k,3,none⟩ v3).heap[k]? = some (.cells #[x0,x1,v2,v3] t (0,0)):=by
 rw [heap_setCell_obj (heap_setCell_obj h)];rfl
theorem four_all {W:World} {k:Nat} {x0 x1 x2 x3 v0 v1 v2 v3:Value} {t:TypeId} (h:W.heap[k]? = some (.cells #[x0,x1,x2,x3] t (0,0))):((((W.setCell ⟨k,0,none⟩ v0).setCell ⟨k,1,none⟩ v1).setCell ⟨k,2,none⟩ v2).setCell ⟨k,3,none⟩ v3).heap[k]? = some (.cells #[v0,v1,v2,v3] t (0,0)):=four_hi (four_lo h)
theorem four_facts {W:World} {k:Nat} {x0 x1 x2 x3:Value} {t:TypeId} (h:W.heap[k]? = some (.cells #[x0,x1,x2,x3] t (0,0))):W.cell? ⟨k,0,none⟩=some x0∧W.cell? ⟨k,1,none⟩=some x1∧W.cell? ⟨k,2,none⟩=some x2∧W.cell? ⟨k,3,none⟩=some x3∧W.frozen? ⟨k,0,none⟩=false∧W.frozen? ⟨k,1,none⟩=false∧W.frozen? ⟨k,2,none⟩=false∧W.frozen? ⟨k,3,none⟩=false:=by
 simp [World.cell?,World.frozen?,h]
theorem run_idxf (v0 v1:Value) (k:Nat) (hk:k=0∨k=1) (w:World):(Instr.index 131 (.agg #[v0,v1]) (.int .i64 k)).run Tryz.prog w = .ok (if k=0 then v0 else v1) w:=by
 have h0:(Tryz.prog.info? 84).map (·.size)=some 1:=by kernel_rfl
 obtain ⟨i,hi,hs⟩:=Option.map_eq_some_iff.1 h0
 rcases hk with rfl|rfl<;>simp [Instr.index,asIntOf,run_underlying Tryz.underlying131,sizeOf,typeInfo,hi,hs,part]
@[go_sem ↓ high] theorem run_idxf0 (v0 v1:Value) (w:World):(Instr.index 131 (.agg #[v0,v1]) (.int .i64 0)).run Tryz.prog w = .ok v0 w:=run_idxf v0 v1 0 (.inl rfl) w
@[go_sem ↓ high] theorem run_idxf1 (v0 v1:Value) (w:World):(Instr.index 131 (.agg #[v0,v1]) (.int .i64 1)).run Tryz.prog w = .ok v1 w:=run_idxf v0 v1 1 (.inr rfl) w
theorem psystems_any (A:Outl) (AwA:Option Addr) (Awn Awc:Nat) (AtA:Option Addr) (Atn Atc:Nat) (B:Outl) (BwA:Option Addr) (Bwn Bwc:Nat) (BtA:Option Addr) (Btn Btc:Nat) (p:Pairing) (w:World) (Aw:Rd encBound 4 w AwA Awn Awc A.ways) (At:Rd encBound 4 w AtA Atn Atc A.turns) (Bw:Rd encBound 4 w BwA Bwn Bwc B.ways) (Bt:Rd encBound 4 w BtA Btn Btc B.turns) (h:PairOk A B p):
 Calls Tryz.prog 42 #[.agg #[.int .i64 A.n,.slice AwA Awn Awc,.slice AtA Atn Atc,.int .i64 B.n,.slice BwA Bwn Bwc,.slice BtA Btn Btc,.int .i64 p.a.lo,.int .i64 p.a.hi,.int .i64 p.b.lo,.int .i64 p.b.hi]] w fun e w'=> ∃ A1 c1 A2 c2,e = .returned (.agg #[.int .i64 (waysN A B p),.slice A1 (Awn+Bwn) c1,.int .i64 (dirsN A B p),.slice A2 (Atn+Btn) c2])∧Below w.heap.size w w'∧RowS AwA Awn A.ways w.heap.size w' A1 (Awn+Bwn) c1 (waysB A B p)∧RowS AtA Atn A.turns w.heap.size w' A2 (Atn+Btn) c2 (dirsB A B p):=by
 have K1:=Lib.hid (fun W (hw:Below w.heap.size w W)=>pways_any A AwA Awn Awc AtA Atn Atc B BwA Bwn Bwc BtA Btn Btc p W (Aw.below hw (Nat.le_refl _)) (At.below hw (Nat.le_refl _)) (Bw.below hw (Nat.le_refl _)) (Bt.below hw (Nat.le_refl _)) h)
 have K2:=Lib.hid (fun W (hw:Below w.heap.size w W)=>pdirs_any A AwA Awn Awc AtA Atn Atc B BwA Bwn Bwc BtA Btn Btc p W (Aw.below hw (Nat.le_refl _)) (At.below hw (Nat.le_refl _)) (Bw.below hw (Nat.le_refl _)) (Bt.below hw (Nat.le_refl _)) h)
 clear Aw At Bw Bt h
 generalize waysN A B p=n1 at *
 generalize waysB A B p=b1 at *
 generalize dirsN A B p=n2 at *
 generalize dirsB A B p=b2 at *
 go_enter Tryz.func42,Tryz.ntmps42
 go_wp2_with (fail)
 have HZ:=Lib.hid (heap3 w (.cells #[.int .i64 A.n,.slice AwA Awn Awc,.slice AtA Atn Atc,.int .i64 B.n,.slice BwA Bwn Bwc,.slice BtA Btn Btc,.int .i64 p.a.lo,.int .i64 p.a.hi,.int .i64 p.b.lo,.int .i64 p.b.hi] 77) (.cells #[.int .i64 0,.slice none 0 0,.int .i64 0,.slice none 0 0] 97) (.cells #[.int .i64 0,.slice none 0 0,.int .i64 0,.slice none 0 0] 97))
 have HB0:=Lib.hid ((((Below.refl _ w).alloc (Nat.le_refl _) (.cells #[.int .i64 A.n,.slice AwA Awn Awc,.slice AtA Atn Atc,.int .i64 B.n,.slice BwA Bwn Bwc,.slice BtA Btn Btc,.int .i64 p.a.lo,.int .i64 p.a.hi,.int .i64 p.b.lo,.int .i64 p.b.hi] 77)).alloc (by simp) (.cells #[.int .i64 0,.slice none 0 0,.int .i64 0,.slice none 0 0] 97)).alloc (by simp;omega) (.cells #[.int .i64 0,.slice none 0 0,.int .i64 0,.slice none 0 0] 97))
 have ew:=ent_pways
 have ed:=ent_pdirs
 go_loopw [11] (fun s11 wr=>Hid (Below w.heap.size w wr)∧Hid (wr.heap[w.heap.size+1]? = some (.cells #[.int .i64 0,.slice none 0 0,.int .i64 0,.slice none 0 0] 97 (0,0)))∧
  ((s11 = .int .i64 0∧wr.heap[w.heap.size+1+1]? = some (.cells #[.int .i64 0,.slice none 0 0,.int .i64 0,.slice none 0 0] 97 (0,0)))∨
   (∃ A1 c1,s11 = .int .i64 1∧wr.heap[w.heap.size+1+1]? = some (.cells #[.int .i64 n1,.slice A1 (Awn+Bwn) c1,.int .i64 0,.slice none 0 0] 97 (0,0))∧RowS AwA Awn A.ways w.heap.size wr A1 (Awn+Bwn) c1 b1)∨
   (∃ A1 c1 A2 c2,s11 = .int .i64 2∧wr.heap[w.heap.size+1+1]? = some (.cells #[.int .i64 n1,.slice A1 (Awn+Bwn) c1,.int .i64 n2,.slice A2 (Atn+Btn) c2] 97 (0,0))∧RowS AwA Awn A.ways w.heap.size wr A1 (Awn+Bwn) c1 b1∧RowS AtA Atn A.turns w.heap.size wr A2 (Atn+Btn) c2 b2))) (fun s11 _=>2-(intOf s11).toNat)
 case atStart=>exact ⟨HB0,(show _=_ from HZ.out.2),.inl ⟨rfl,HZ.out.1⟩⟩
 case round=>
  obtain ⟨hbr,hres,hc⟩:=hrel
  have hzr:=hbr.out.size
  rcases hc with ⟨rfl,hout⟩|⟨A1,c1,rfl,hout,hr1⟩|⟨A1,c1,A2,c2,rfl,hout,hr1,hr2⟩
  · have hlt:=(Array.getElem?_eq_some_iff.1 hout).1
    have HOUT:=Lib.hid hout
    clear hout
    go_wp2_with (first
     | (go_at_fn 31;(with_reducible refine (K1.out _ hbr.out).mono ?_);rintro e w3 ⟨A3,c3,rfl,hb3,hr3⟩
        have hh3:=(hb3.block _ hlt).trans HOUT.out
        obtain ⟨f0,f1,f2,f3,g0,g1,g2,g3⟩:=four_facts hh3
        have HH3:=Lib.hid hh3
        have HB3:=Lib.hid (hbr.out.trans (hb3.mono hzr))
        have HS3:Hid (w3.heap[w.heap.size+1]? = _):=(show _=_ from (hb3.block _ (by omega)).trans hres.out)
        have HR3:=Lib.hid (hr3.below (Below.refl _ _) hzr)
        clear hb3 hr3 hh3))
    go_roundw
    all_goals first
     | (simp [intOf];done)
     | exact ⟨(show Below _ _ _ from (HB3.out.setCell (p:=⟨w.heap.size+1+1,0,none⟩) (show w.heap.size≤w.heap.size+1+1 by omega) _).setCell (p:=⟨w.heap.size+1+1,1,none⟩) (show w.heap.size≤w.heap.size+1+1 by omega) _),(show _=_ by rw [Below.heap_setCell _ _ _ _ (show w.heap.size+1≠w.heap.size+1+1 by omega),Below.heap_setCell _ _ _ _ (show w.heap.size+1≠w.heap.size+1+1 by omega)];exact HS3.out),.inr (.inl ⟨A3,c3,by go_num,four_lo HH3.out,(HR3.out.set HH3.out (by decide) _).set (heap_setCell_obj HH3.out) (by decide) _⟩)⟩
  · have hlt:=(Array.getElem?_eq_some_iff.1 hout).1
    have HOUT:=Lib.hid hout
    have HR1:=Lib.hid hr1
    clear hout hr1
    go_wp2_with (first
     | (go_at_fn 72;(with_reducible refine (K2.out _ hbr.out).mono ?_);rintro e w3 ⟨A3,c3,rfl,hb3,hr3⟩
        have hh3:=(hb3.block _ hlt).trans HOUT.out
        obtain ⟨f0,f1,f2,f3,g0,g1,g2,g3⟩:=four_facts hh3
        have HH3:=Lib.hid hh3
        have HB3:=Lib.hid (hbr.out.trans (hb3.mono hzr))
        have HS3:Hid (w3.heap[w.heap.size+1]? = _):=(show _=_ from (hb3.block _ (by omega)).trans hres.out)
        have HR3:=Lib.hid (hr3.below (Below.refl _ _) hzr)
        have HR13:=Lib.hid (HR1.out.below hb3 (Nat.le_refl _))
        clear hb3 hr3 hh3))
    have hs1:=heap_setCell_obj (i:=2) (v:=.int .i64 n2) HH3.out
    go_roundw
    all_goals first
     | (simp [intOf];done)
     | exact ⟨(show Below _ _ _ from (HB3.out.setCell (p:=⟨w.heap.size+1+1,2,none⟩) (show w.heap.size≤w.heap.size+1+1 by omega) _).setCell (p:=⟨w.heap.size+1+1,3,none⟩) (show w.heap.size≤w.heap.size+1+1 by omega) _),(show _=_ by rw [Below.heap_setCell _ _ _ _ (show w.heap.size+1≠w.heap.size+1+1 by omega),Below.heap_setCell _ _ _ _ (show w.heap.size+1≠w.heap.size+1+1 by omega)];exact HS3.out),.inr (.inr ⟨A1,c1,A3,c3,by go_num,four_hi HH3.out,(HR13.out.set HH3.out (by decide) _).set hs1 (by decide) _,(HR3.out.set HH3.out (by decide) _).set hs1 (by decide) _⟩)⟩
  · have hlt:=(Array.getElem?_eq_some_iff.1 hres.out).1
    have HOUT:=Lib.hid hout
    obtain ⟨f0,f1,f2,f3,g0,g1,g2,g3⟩:=four_facts hout
    obtain ⟨_,_,_,_,k0,k1,k2,k3⟩:=four_facts hres.out
    obtain ⟨j0,j1,j2,j3,_,_,_,_⟩:=four_facts hres.out
    have HR1:=Lib.hid hr1
    have HR2:=Lib.hid hr2
    clear hout hr1 hr2
    go_wp2
    have q1:=heap_setCell_obj (i:=0) (v:=.int .i64 n1) hres.out
    have q2:=heap_setCell_obj (i:=1) (v:=.slice A1 (Awn+Bwn) c1) q1
    have q3:=heap_setCell_obj (i:=2) (v:=.int .i64 n2) q2
    refine bodyPost_ret (results_cell_row rfl _ _ (w.heap.size+1) _ _ (0,0) _ rfl (four_all hres.out) Tryz.underlying97 rfl (by kernel_rfl)) rfl ?_
    refine ⟨A1,c1,A2,c2,rfl,(((hbr.out.setCell (p:=⟨w.heap.size+1,0,none⟩) (show w.heap.size≤w.heap.size+1 by omega) _).setCell (p:=⟨w.heap.size+1,1,none⟩) (show w.heap.size≤w.heap.size+1 by omega) _).setCell (p:=⟨w.heap.size+1,2,none⟩) (show w.heap.size≤w.heap.size+1 by omega) _).setCell (p:=⟨w.heap.size+1,3,none⟩) (show w.heap.size≤w.heap.size+1 by omega) _,?_,?_⟩
    · exact (((HR1.out.set hres.out (by decide) _).set q1 (by decide) _).set q2 (by decide) _).set q3 (by decide) _
    · exact (((HR2.out.set hres.out (by decide) _).set q1 (by decide) _).set q2 (by decide) _).set q3 (by decide) _
end Go.Proofs.YtpmkgmilfifkpaaGreatDoor
end
section
namespace Go.Proofs.YtpmkgmilfifkpaaGreatDoor
open Go.RowKit Go.Proofs
def code111_10:Option Code→Code
 | some (.seq _ (.scope (.seq _ (.seq _ (.seq (.seq _ (.block _ (.loop (.seq _ (.seq _ (.seq (.block _ (.seq _ (.seq _ (.seq _ c)))) _)))))) _)))))=>c
 | _=> .skip
theorem Own.lit {enc:Row→List Value} {k:Nat} (e:TypeId) (B:Nat) (w:World) (cs:Array Value) (xs:List Row) (n:Nat) (hn:xs.length=n) (hk:∀ x,(enc x).length=k) (hcs:cs.toList=xs.flatMap enc) (hB:B≤w.heap.size) (hm:n≤1000000):
 Own enc k e B (w.alloc (.cells cs e)) (some ⟨w.heap.size,0,none⟩) n n xs:=by
 have hsz:cs.size=n * k:=by rw [←Array.length_toList,hcs,flatMap_len hk,hn]
 refine ⟨hn,by rw [flatMap_len hk,hn],.inr ⟨w.heap.size,n,cs,rfl,hB,heap_alloc_new w _,Nat.le_refl _,by unfold maxLen;omega,hsz,?_⟩⟩
 rw [←hcs,List.take_of_length_le (by rw [Array.length_toList,hsz];exact Nat.le_refl _)]
def factC (w0:World) (B ba n c p _:Nat) (cur:Array Value) (r:Row):Nat→Value→World→Prop
 | 0,v,_=>v = .slice (some ⟨ba,0,none⟩) n c
 | 1,v,_=>v = .int .i64 p
 | 2,v,_=>v = .agg (rowA r)
 | 6,v,_=>v = .pointer (some ⟨ba,2 * p,none⟩)
 | 3,v,W=> ∃ k3,v = .slice (some ⟨k3,0,none⟩) 1 1∧w0.heap.size≤k3∧Own encRow 60 151 B W (some ⟨k3,0,none⟩) 1 1 [r]
 | 4,v,W=> ∃ k4,v = .slice (some ⟨k4,0,none⟩) 1 1∧w0.heap.size≤k4∧Own encRow 60 150 B W (some ⟨k4,0,none⟩) 1 1 [zeroRow]
 | 5,v,W=> ∃ k3 k4,v = .agg #[.slice (some ⟨k3,0,none⟩) 1 1,.slice (some ⟨k4,0,none⟩) 1 1]∧w0.heap.size≤k3∧w0.heap.size≤k4∧Own encRow 60 151 B W (some ⟨k3,0,none⟩) 1 1 [r]∧Own encRow 60 150 B W (some ⟨k4,0,none⟩) 1 1 [zeroRow]
 | 7,_,W=> ∃ k3 k4,w0.heap.size≤k3∧w0.heap.size≤k4∧Own encRow 60 151 B W (some ⟨k3,0,none⟩) 1 1 [r]∧Own encRow 60 150 B W (some ⟨k4,0,none⟩) 1 1 [zeroRow]∧W.heap[ba]? = some (.cells ((cur.setIfInBounds (2 * p) (.slice (some ⟨k3,0,none⟩) 1 1)).setIfInBounds (2 * p+1) (.slice (some ⟨k4,0,none⟩) 1 1)) 174 (0,0))
 | _,_,_=>True
def preC (_:World) (_ ba _ _ _ b8:Nat) (cur:Array Value) (r:Row):Nat→World→Prop
 | 2,W=>rowAt? W b8 60=some (rowA r)
 | 7,W=>W.heap[ba]? = some (.cells cur 174 (0,0))
 | _,_=>True
section
variable {w0 W W':World} {B ba n c p b8:Nat} {cur:Array Value} {r:Row}
theorem own_some {t:TypeId} {k m d:Nat} {xs:List Row} (h:Own encRow 60 t B W (some ⟨k,0,none⟩) m d xs) {row:Option Nat} (hg:W.grownBy W' row) (hne:row≠some k):Own encRow 60 t B W' (some ⟨k,0,none⟩) m d xs:=h.kept hg (.inr (fun e=>hne e.symm))
theorem factC.keep {row:Option Nat} {j:Nat} {v:Value} (h:factC w0 B ba n c p b8 cur r j v W) (hg:W.grownBy W' row) (hr:∀ q,row=some q→q<w0.heap.size) (h7:j=7→row=none):factC w0 B ba n c p b8 cur r j v W':=by
 have hn:∀ k,w0.heap.size≤k→row≠some k:=fun k hk e=>by have:=hr k e;omega
 unfold factC at h ⊢
 split at h
 all_goals first
  | exact h
  | (obtain ⟨k3,a1,a2,a3⟩:=h;exact ⟨k3,a1,a2,own_some a3 hg (hn _ a2)⟩)
  | (obtain ⟨k3,k4,a1,a2,a3,a4,a5⟩:=h;exact ⟨k3,k4,a1,a2,a3,own_some a4 hg (hn _ a2),own_some a5 hg (hn _ a3)⟩)
  | (obtain ⟨k3,k4,a2,a3,a4,a5,a6⟩:=h;have e:=h7 rfl;subst e;exact ⟨k3,k4,a2,a3,own_some a4 hg (hn _ a2),own_some a5 hg (hn _ a3),(hg.block _ (Array.getElem?_eq_some_iff.1 a6).1 (by simp)).trans a6⟩)
theorem preC.keep {row:Option Nat} {j:Nat} (h:preC w0 B ba n c p b8 cur r j W) (hg:W.grownBy W' row) (h1:row≠some ba) (h2:row≠some b8):preC w0 B ba n c p b8 cur r j W':=by
 unfold preC at h ⊢
 split at h
 all_goals first
  | exact h
  | exact rowAt?_grown h hg h2
  | exact (hg.block _ (Array.getElem?_eq_some_iff.1 h).1 (fun e=>h1 e.symm)).trans h
end
theorem circ10 (c0:Code) (hc:c0=code111_10 Tryz.f71.body) (B ba n c p b8:Nat) (cur:Array Value) (r:Row) (a:Act) (w:World) (Q:Exit→Act→World→Prop)
 (hT:a.tmps.size=76) (t6:a.tmps.getD 6 undef = .slice (some ⟨ba,0,none⟩) n c) (t7:a.tmps.getD 7 undef = .int .i64 p) (t8:a.tmps.getD 8 undef = .pointer (some ⟨b8,0,none⟩))
 (hcur:w.heap[ba]? = some (.cells cur 174 (0,0))) (hp:p<n) (hpc:2 * p+1<cur.size) (hr8:rowAt? w b8 60=some (rowA r)) (hr:r.length=60) (hB:B≤w.heap.size) (hne:ba≠b8)
 (hQ:∀ (V:Nat→Value) W,ChgT (fun k=>k=ba) w W→factC w B ba n c p b8 cur r 7 undef W→(∃ k3 k4,V 3 = .slice (some ⟨k3,0,none⟩) 1 1∧V 4 = .slice (some ⟨k4,0,none⟩) 1 1)→(∃ k3 k4,V 5 = .agg #[.slice (some ⟨k3,0,none⟩) 1 1,.slice (some ⟨k4,0,none⟩) 1 1])→
   Q .normal { tmps:=(((((((a.tmps.setIfInBounds 28 (.slice (some ⟨ba,0,none⟩) n c)).setIfInBounds 29 (.int .i64 p)).setIfInBounds 30 (.agg (rowA r))).setIfInBounds 31 (V 3)).setIfInBounds 32 (V 4)).setIfInBounds 33 (V 5)).setIfInBounds 34 (.pointer (some ⟨ba,2 * p,none⟩))),defers:=a.defers } W):
 c0.wp Tryz.prog Q a w:=by
 subst hc
 unfold code111_10 Tryz.f71
 dsimp only
 have hbl:ba<w.heap.size:=(Array.getElem?_eq_some_iff.1 hcur).1
 refine wpIn_wide.1 (wpIn_region_facts (nn:=5) 76 (by kernel_rfl) (by kernel_rfl) hT.symm (factC w B ba n c p b8 cur r) (preC w B ba n c p b8 cur r) (fun W=>ChgT (fun k=>k=ba) w W) (ChgT.refl _ w).drew ?_ ?_ ?_)
 · intro j hj
   unfold preC
   split
   · exact hr8
   · exact hcur
   · trivial
 · intro V listed i o b W hi ho h
   clear hQ
   obtain ⟨hun,oi,hoi,hall⟩:=mem_ready.1 hi
   have:oi=o:=Option.some.inj (hoi.symm.trans ho)
   subst this
   clear hoi hi
   have hlt:i<8:=(by have:=(Array.getElem?_eq_some_iff.1 ho).1;simpa using this)
   have hun':listed.getD i false=false:=getD_both hun
   have hpre:=h.pre i (by simpa using hlt) hun'
   rcases (by omega:i=0∨i=1∨i=2∨i=3∨i=4∨i=5∨i=6∨i=7) with rfl|rfl|rfl|rfl|rfl|rfl|rfl|rfl
   all_goals simp only [List.getElem?_toArray,List.getElem?_cons_zero,List.getElem?_cons_succ] at ho
   all_goals cases ho
   ·
    have q6:=(h.tab.old 6 (dst_no h.tab (by kernel_rfl))).trans t6
    have q6':b.tmps[6]?.getD undef=_:=(by simpa using q6)
    refine wide_val (v:=.slice (some ⟨ba,0,none⟩) n c) (by go_simp;try rfl) (FactsGo.same h.glob rfl)
   ·
    have q7:=(h.tab.old 7 (dst_no h.tab (by kernel_rfl))).trans t7
    have q7':b.tmps[7]?.getD undef=_:=(by simpa using q7)
    refine wide_val (v:=.int .i64 p) (by go_simp;try rfl) (FactsGo.same h.glob rfl)
   ·
    have q8:=(h.tab.old 8 (dst_no h.tab (by kernel_rfl))).trans t8
    have q8':b.tmps[8]?.getD undef=_:=(by simpa using q8)
    have p0:rowAt? W b8 60=some (rowA r):=hpre
    exact wide_val (run_load_op row207 rfl q8 p0) (FactsGo.same h.glob rfl)
   ·
    have l2:=hall ⟨2,.data⟩ (by simp) rfl
    have e2:b.tmps.getD 30 undef = .agg (rowA r):=(h.tab.val 2 30 rfl l2).trans (h.fact 2 l2)
    have e2':b.tmps[30]?.getD undef = .agg (rowA r):=(by simpa using e2)
    have f0:b.eval (.tmp 30) = .agg (rowA r):=e2
    have hgr:W.grownBy (W.alloc (.cells (rowA r) 151)) none:=World.grownBy_alloc _ _ _
    refine wide_val (W':=W.alloc (.cells (rowA r) 151)) (v:=.slice (some ⟨W.heap.size,0,none⟩) 1 1) (by simp only [execOp,List.map_toArray,List.map_cons,List.map_nil,f0,Sem.run_bind,run_build1 elRow W hr,Result.andThen_ok,Sem.run_pure]) ⟨_,rfl,⟨W.heap.size,rfl,h.glob.size,Own.lit _ B W (rowA r) [r] 1 rfl encRow_len (by rw [encRow_rowA hr];simp) (by have:=h.glob.size;omega) (by omega)⟩,fun j _ _ hf=>hf.keep hgr (fun _ e=>by cases e) (fun _=>rfl),fun j _ _ _ hp=>hp.keep hgr (fun e=>by cases e) (fun e=>by cases e),h.glob.grown hgr (fun r e=>by cases e)⟩
   ·
    obtain ⟨W2,hrun,hO4,hgr⟩:=run_make1 B W (by have:=h.glob.size;omega)
    refine wide_val (W':=W2) (v:=.slice (some ⟨W.heap.size,0,none⟩) 1 1) (by simp only [execOp,Act.eval,Sem.run_bind,hrun,Result.andThen_ok,Sem.run_pure]) ⟨_,rfl,⟨W.heap.size,rfl,h.glob.size,hO4⟩,fun j _ _ hf=>hf.keep hgr (fun _ e=>by cases e) (fun _=>rfl),fun j _ _ _ hp=>hp.keep hgr (fun e=>by cases e) (fun e=>by cases e),h.glob.grown hgr (fun r e=>by cases e)⟩
   ·
    have l3:=hall ⟨3,.data⟩ (by simp) rfl
    have l4:=hall ⟨4,.data⟩ (by simp) rfl
    obtain ⟨k3,a1,a2,a3⟩:=h.fact 3 l3
    obtain ⟨k4,b1,b2,b3⟩:=h.fact 4 l4
    have f3:b.tmps[31]?.getD undef = .slice (some ⟨k3,0,none⟩) 1 1:=(by have:=(h.tab.val 3 31 rfl l3).trans a1;simpa using this)
    have f4:b.tmps[32]?.getD undef = .slice (some ⟨k4,0,none⟩) 1 1:=(by have:=(h.tab.val 4 32 rfl l4).trans b1;simpa using this)
    refine wide_val (v:=.agg #[.slice (some ⟨k3,0,none⟩) 1 1,.slice (some ⟨k4,0,none⟩) 1 1]) (by go_simp;try rfl) (FactsGo.same h.glob ⟨k3,k4,rfl,a2,b2,a3,b3⟩)
   ·
    have l0:=hall ⟨0,.data⟩ (by simp) rfl
    have e0:b.tmps.getD 28 undef = .slice (some ⟨ba,0,none⟩) n c:=(h.tab.val 0 28 rfl l0).trans (h.fact 0 l0)
    have e0':b.tmps[28]?.getD undef = .slice (some ⟨ba,0,none⟩) n c:=(by simpa using e0)
    have l1:=hall ⟨1,.data⟩ (by simp) rfl
    have e1:b.tmps.getD 29 undef = .int .i64 p:=(h.tab.val 1 29 rfl l1).trans (h.fact 1 l1)
    have e1':b.tmps[29]?.getD undef = .int .i64 p:=(by simpa using e1)
    have hp2:p<n:=hp
    refine wide_val (v:=.pointer (some ⟨ba,2 * p,none⟩)) (by go_simp;try (rw [if_pos (by omega)]);try (congr 4;omega)) (FactsGo.same h.glob rfl)
   ·
    have l6:=hall ⟨6,.data⟩ (by simp) rfl
    have e6:b.tmps.getD 34 undef = .pointer (some ⟨ba,2 * p,none⟩):=(h.tab.val 6 34 rfl l6).trans (h.fact 6 l6)
    have e6':b.tmps[34]?.getD undef = .pointer (some ⟨ba,2 * p,none⟩):=(by simpa using e6)
    have l5:=hall ⟨5,.data⟩ (by simp) rfl
    obtain ⟨k3,k4,a1,a2,a3,a4,a5⟩:=h.fact 5 l5
    have f5:b.tmps[33]?.getD undef = .agg #[.slice (some ⟨k3,0,none⟩) 1 1,.slice (some ⟨k4,0,none⟩) 1 1]:=(by have:=(h.tab.val 5 33 rfl l5).trans a1;simpa using this)
    have hh:W.heap[ba]? = some (.cells cur 174 (0,0)):=hpre
    have d0:W.cell? ⟨ba,2 * p,none⟩=some cur[2 * p]:=(by simp only [World.cell?,hh];exact Array.getElem?_eq_getElem (by omega))
    have d1:W.cell? ⟨ba,2 * p+1,none⟩=some cur[2 * p+1]:=(by simp only [World.cell?,hh];exact Array.getElem?_eq_getElem hpc)
    have d2:W.frozen? ⟨ba,2 * p,none⟩=false:=(by simp [World.frozen?,hh])
    have d3:W.frozen? ⟨ba,2 * p+1,none⟩=false:=(by simp [World.frozen?,hh])
    have g1:W.grownBy (W.setCell ⟨ba,2 * p,none⟩ (.slice (some ⟨k3,0,none⟩) 1 1)) (some ba):=grownBy_setCell' W ba _ _
    have g2:=g1.trans (grownBy_setCell' (W.setCell ⟨ba,2 * p,none⟩ (.slice (some ⟨k3,0,none⟩) 1 1)) ba (2 * p+1) (.slice (some ⟨k4,0,none⟩) 1 1))
    have hnew:=heap_setCell_at (i:=2 * p+1) (v:=.slice (some ⟨k4,0,none⟩) 1 1) (heap_setCell_at (i:=2 * p) (v:=.slice (some ⟨k3,0,none⟩) 1 1) hh)
    refine wide_skip (W':=(W.setCell ⟨ba,2 * p,none⟩ (.slice (some ⟨k3,0,none⟩) 1 1)).setCell ⟨ba,2 * p+1,none⟩ (.slice (some ⟨k4,0,none⟩) 1 1)) (by go_simp) ⟨undef,rfl,⟨k3,k4,a2,a3,own_some a4 g2 (fun e=>by cases e;omega),own_some a5 g2 (fun e=>by cases e;omega),hnew⟩,fun j hj hl hf=>hf.keep g2 (fun q e=>by cases e;exact hbl) (fun e=>absurd e hj),?_,h.glob.grown g2 (fun q e=> .inl (by cases e;rfl))⟩
    intro j hjs hj hl hp
    unfold preC at hp ⊢
    split at hp
    all_goals first
     | exact hp
     | exact absurd rfl hj
     | exact rowAt?_grown hp g2 (fun e=>hne (Option.some.inj e))
 · intro V W hf hg
   obtain ⟨k3,a1,_⟩:=hf 3 (by decide)
   obtain ⟨k4,b1,_⟩:=hf 4 (by decide)
   obtain ⟨k5,k6,c1,_⟩:=hf 5 (by decide)
   have:=hQ V W hg (hf 7 (by decide)) ⟨k3,k4,a1,b1⟩ ⟨k5,k6,c1⟩
   have hV:V 0 = .slice (some ⟨ba,0,none⟩) n c∧V 1 = .int .i64 p∧V 2 = .agg (rowA r)∧V 6 = .pointer (some ⟨ba,2 * p,none⟩):=⟨hf 0 (by decide),hf 1 (by decide),hf 2 (by decide),hf 6 (by decide)⟩
   obtain ⟨v0,v1,v2,v6⟩:=hV
   simp only [List.size_toArray,List.length_cons,List.length_nil,Nat.reduceAdd,framed,dstOf,List.getElem?_toArray,List.getElem?_cons_zero,List.getElem?_cons_succ,Option.bind_some,v0,v1,v2,v6]
   exact this
def code111_20:Option Code→Code
 | some (.seq _ (.scope (.seq _ (.seq _ (.seq _ (.seq _ (.seq _ (.seq (.seq _ (.block _ (.loop (.seq _ (.seq _ (.seq (.block _ (.seq _ (.block _ (.loop (.seq _ (.seq _ (.seq (.block _ (.seq _ (.seq _ (.seq _ (.seq c _))))) _))))))) _)))))) _))))))))=>c
 | _=> .skip
def factR (ba off g nn n c p:Nat) (v:Int):Nat→Value→World→Prop
 | 0,v',_=>v' = .pointer (some ⟨ba,off,none⟩)
 | 1,v',_=>v' = .pointer (some ⟨ba,off,none⟩)
 | 2,v',_=>v' = .pointer (some ⟨ba,off,none⟩)
 | 3,v',_=>v' = .slice (some ⟨g,0,none⟩) nn c
 | 4,v',_=>v' = .pointer (some ⟨ba,off,none⟩)
 | 5,v',_=>v' = .pointer (some ⟨ba,off,none⟩)
 | 6,v',_=>v' = .pointer (some ⟨ba,off,none⟩)
 | 7,v',_=>v' = .slice (some ⟨g,0,none⟩) nn c
 | 8,v',_=>v' = .int .i64 nn
 | 9,v',_=>v' = .int .i64 n
 | 10,v',_=>v' = .int .i64 p
 | 11,v',_=>v' = .pointer (some ⟨g,n * 60,none⟩)
 | 12,v',_=>v' = .pointer (some ⟨g,n * 60+p,none⟩)
 | 13,v',_=>v' = .int .i64 v
 | 14,v',_=>v' = .bool (decide (v<0))
 | _,_,_=>True
theorem circ20 (c0:Code) (hc:c0=code111_20 Tryz.f71.body) (ba off g nn n c p:Nat) (v:Int) (a:Act) (w:World) (Q:Exit→Act→World→Prop)
 (hT:a.tmps.size=76) (t11:a.tmps.getD 11 undef = .pointer (some ⟨ba,off,none⟩)) (t10:a.tmps.getD 10 undef = .int .i64 p)
 (h0:w.cell? ⟨ba,off,none⟩=some (.slice (some ⟨g,0,none⟩) nn c)) (h1:w.cell? ⟨g,n * 60+p,none⟩=some (.int .i64 v)) (hnn:nn=n+1) (hn:n≤1000) (hp:p<60)
 (hQ:Q .normal { tmps:=(((((((((((((((a.tmps.setIfInBounds 51 (.pointer (some ⟨ba,off,none⟩))).setIfInBounds 52 (.pointer (some ⟨ba,off,none⟩))).setIfInBounds 53 (.pointer (some ⟨ba,off,none⟩))).setIfInBounds 54 (.slice (some ⟨g,0,none⟩) nn c)).setIfInBounds 55 (.pointer (some ⟨ba,off,none⟩))).setIfInBounds 56 (.pointer (some ⟨ba,off,none⟩))).setIfInBounds 57 (.pointer (some ⟨ba,off,none⟩))).setIfInBounds 58 (.slice (some ⟨g,0,none⟩) nn c)).setIfInBounds 59 (.int .i64 nn)).setIfInBounds 60 (.int .i64 n)).setIfInBounds 61 (.int .i64 p)).setIfInBounds 62 (.pointer (some ⟨g,n * 60,none⟩))).setIfInBounds 63 (.pointer (some ⟨g,n * 60+p,none⟩))).setIfInBounds 64 (.int .i64 v)).setIfInBounds 65 (.bool (decide (v<0)))),defers:=a.defers } w.drew):
 c0.wp Tryz.prog Q a w:=by
 subst hc
 unfold code111_20 Tryz.f71
 dsimp only
 have HN:=Lib.hid hnn
 have hnl:n<nn:=(by omega)
 clear hnn
 refine wpIn_wide.1 (wpIn_region_facts (nn:=5) 76 (by kernel_rfl) (by kernel_rfl) hT.symm (factR ba off g nn n c p v) (fun _ _=>True) (fun W=>W=w.drew) rfl (fun _ _=>trivial) ?_ ?_)
 · intro V listed i o b W hi ho h
   have hW:=h.glob
   subst hW
   have k0:w.drew.cell? ⟨ba,off,none⟩=some (.slice (some ⟨g,0,none⟩) nn c):=h0
   have k1:w.drew.cell? ⟨g,n * 60+p,none⟩=some (.int .i64 v):=h1
   clear hQ h0 h1
   obtain ⟨hun,oi,hoi,hall⟩:=mem_ready.1 hi
   have:oi=o:=Option.some.inj (hoi.symm.trans ho)
   subst this
   clear hoi hi
   have hlt:i<15:=(by have:=(Array.getElem?_eq_some_iff.1 ho).1;simpa using this)
   have hun':listed.getD i false=false:=getD_both hun
   have hpre:=h.pre i (by simpa using hlt) hun'
   rcases (by omega:i=0∨i=1∨i=2∨i=3∨i=4∨i=5∨i=6∨i=7∨i=8∨i=9∨i=10∨i=11∨i=12∨i=13∨i=14) with rfl|rfl|rfl|rfl|rfl|rfl|rfl|rfl|rfl|rfl|rfl|rfl|rfl|rfl|rfl
   all_goals simp only [List.getElem?_toArray,List.getElem?_cons_zero,List.getElem?_cons_succ] at ho
   all_goals cases ho
   ·
    have q11:=(h.tab.old 11 (dst_no h.tab (by kernel_rfl))).trans t11
    have q11':b.tmps[11]?.getD undef=_:=(by simpa using q11)
    refine wide_val (v:=.pointer (some ⟨ba,off,none⟩)) (by go_simp;try rfl) (FactsGo.same rfl rfl)
   ·
    have l0:=hall ⟨0,.data⟩ (by simp) rfl
    have e0:b.tmps.getD 51 undef = .pointer (some ⟨ba,off,none⟩):=(h.tab.val 0 51 rfl l0).trans (h.fact 0 l0)
    have e0':b.tmps[51]?.getD undef = .pointer (some ⟨ba,off,none⟩):=(by simpa using e0)
    refine wide_val (v:=.pointer (some ⟨ba,off,none⟩)) (by go_simp;try rfl) (FactsGo.same rfl rfl)
   ·
    have l1:=hall ⟨1,.data⟩ (by simp) rfl
    have e1:b.tmps.getD 52 undef = .pointer (some ⟨ba,off,none⟩):=(h.tab.val 1 52 rfl l1).trans (h.fact 1 l1)
    have e1':b.tmps[52]?.getD undef = .pointer (some ⟨ba,off,none⟩):=(by simpa using e1)
    refine wide_val (v:=.pointer (some ⟨ba,off,none⟩)) (by go_simp;try rfl) (FactsGo.same rfl rfl)
   ·
    have l2:=hall ⟨2,.data⟩ (by simp) rfl
    have e2:b.tmps.getD 53 undef = .pointer (some ⟨ba,off,none⟩):=(h.tab.val 2 53 rfl l2).trans (h.fact 2 l2)
    have e2':b.tmps[53]?.getD undef = .pointer (some ⟨ba,off,none⟩):=(by simpa using e2)
    refine wide_val (v:=.slice (some ⟨g,0,none⟩) nn c) (by go_simp;try rfl) (FactsGo.same rfl rfl)
   ·
    have q11:=(h.tab.old 11 (dst_no h.tab (by kernel_rfl))).trans t11
    have q11':b.tmps[11]?.getD undef=_:=(by simpa using q11)
    refine wide_val (v:=.pointer (some ⟨ba,off,none⟩)) (by go_simp;try rfl) (FactsGo.same rfl rfl)
   ·
    have l4:=hall ⟨4,.data⟩ (by simp) rfl
    have e4:b.tmps.getD 55 undef = .pointer (some ⟨ba,off,none⟩):=(h.tab.val 4 55 rfl l4).trans (h.fact 4 l4)
    have e4':b.tmps[55]?.getD undef = .pointer (some ⟨ba,off,none⟩):=(by simpa using e4)
    refine wide_val (v:=.pointer (some ⟨ba,off,none⟩)) (by go_simp;try rfl) (FactsGo.same rfl rfl)
   ·
    have l5:=hall ⟨5,.data⟩ (by simp) rfl
    have e5:b.tmps.getD 56 undef = .pointer (some ⟨ba,off,none⟩):=(h.tab.val 5 56 rfl l5).trans (h.fact 5 l5)
    have e5':b.tmps[56]?.getD undef = .pointer (some ⟨ba,off,none⟩):=(by simpa using e5)
    refine wide_val (v:=.pointer (some ⟨ba,off,none⟩)) (by go_simp;try rfl) (FactsGo.same rfl rfl)
   ·
    have l6:=hall ⟨6,.data⟩ (by simp) rfl
    have e6:b.tmps.getD 57 undef = .pointer (some ⟨ba,off,none⟩):=(h.tab.val 6 57 rfl l6).trans (h.fact 6 l6)
    have e6':b.tmps[57]?.getD undef = .pointer (some ⟨ba,off,none⟩):=(by simpa using e6)
    refine wide_val (v:=.slice (some ⟨g,0,none⟩) nn c) (by go_simp;try rfl) (FactsGo.same rfl rfl)
   ·
    have l7:=hall ⟨7,.data⟩ (by simp) rfl
    have e7:b.tmps.getD 58 undef = .slice (some ⟨g,0,none⟩) nn c:=(h.tab.val 7 58 rfl l7).trans (h.fact 7 l7)
    have e7':b.tmps[58]?.getD undef = .slice (some ⟨g,0,none⟩) nn c:=(by simpa using e7)
    refine wide_val (v:=.int .i64 nn) (by go_simp;try rfl) (FactsGo.same rfl rfl)
   ·
    have l8:=hall ⟨8,.data⟩ (by simp) rfl
    have e8:b.tmps.getD 59 undef = .int .i64 nn:=(h.tab.val 8 59 rfl l8).trans (h.fact 8 l8)
    have e8':b.tmps[59]?.getD undef = .int .i64 nn:=(by simpa using e8)
    have hw:IntKind.i64.wrap ((nn:Int)-1)=(n:Int):=(by have:=HN.out;rw [IntKind.wrap_i64];omega)
    refine wide_val (v:=.int .i64 n) (by go_simp;try rfl) (FactsGo.same rfl rfl)
   ·
    have q10:=(h.tab.old 10 (dst_no h.tab (by kernel_rfl))).trans t10
    have q10':b.tmps[10]?.getD undef=_:=(by simpa using q10)
    refine wide_val (v:=.int .i64 p) (by go_simp;try rfl) (FactsGo.same rfl rfl)
   ·
    have l3:=hall ⟨3,.data⟩ (by simp) rfl
    have e3:b.tmps.getD 54 undef = .slice (some ⟨g,0,none⟩) nn c:=(h.tab.val 3 54 rfl l3).trans (h.fact 3 l3)
    have e3':b.tmps[54]?.getD undef = .slice (some ⟨g,0,none⟩) nn c:=(by simpa using e3)
    have l9:=hall ⟨9,.data⟩ (by simp) rfl
    have e9:b.tmps.getD 60 undef = .int .i64 n:=(h.tab.val 9 60 rfl l9).trans (h.fact 9 l9)
    have e9':b.tmps[60]?.getD undef = .int .i64 n:=(by simpa using e9)
    refine wide_val (v:=.pointer (some ⟨g,n * 60,none⟩)) (by go_simp;try (intro hh;exfalso;omega)) (FactsGo.same rfl rfl)
   ·
    have l11:=hall ⟨11,.data⟩ (by simp) rfl
    have e11:b.tmps.getD 62 undef = .pointer (some ⟨g,n * 60,none⟩):=(h.tab.val 11 62 rfl l11).trans (h.fact 11 l11)
    have e11':b.tmps[62]?.getD undef = .pointer (some ⟨g,n * 60,none⟩):=(by simpa using e11)
    have l10:=hall ⟨10,.data⟩ (by simp) rfl
    have e10:b.tmps.getD 61 undef = .int .i64 p:=(h.tab.val 10 61 rfl l10).trans (h.fact 10 l10)
    have e10':b.tmps[61]?.getD undef = .int .i64 p:=(by simpa using e10)
    refine wide_val (v:=.pointer (some ⟨g,n * 60+p,none⟩)) (by go_simp;try (intro hh;exfalso;omega)) (FactsGo.same rfl rfl)
   ·
    have l12:=hall ⟨12,.data⟩ (by simp) rfl
    have e12:b.tmps.getD 63 undef = .pointer (some ⟨g,n * 60+p,none⟩):=(h.tab.val 12 63 rfl l12).trans (h.fact 12 l12)
    have e12':b.tmps[63]?.getD undef = .pointer (some ⟨g,n * 60+p,none⟩):=(by simpa using e12)
    refine wide_val (v:=.int .i64 v) (by go_simp;try rfl) (FactsGo.same rfl rfl)
   ·
    have l13:=hall ⟨13,.data⟩ (by simp) rfl
    have e13:b.tmps.getD 64 undef = .int .i64 v:=(h.tab.val 13 64 rfl l13).trans (h.fact 13 l13)
    have e13':b.tmps[64]?.getD undef = .int .i64 v:=(by simpa using e13)
    refine wide_val (v:=.bool (decide (v<0))) (by go_simp;try rfl) (FactsGo.same rfl rfl)
 · intro V W hf hg
   subst hg
   have:=hQ
   have hV:V 0 = .pointer (some ⟨ba,off,none⟩)∧V 1 = .pointer (some ⟨ba,off,none⟩)∧V 2 = .pointer (some ⟨ba,off,none⟩)∧V 3 = .slice (some ⟨g,0,none⟩) nn c∧V 4 = .pointer (some ⟨ba,off,none⟩)∧V 5 = .pointer (some ⟨ba,off,none⟩)∧V 6 = .pointer (some ⟨ba,off,none⟩)∧V 7 = .slice (some ⟨g,0,none⟩) nn c∧V 8 = .int .i64 nn∧V 9 = .int .i64 n∧V 10 = .int .i64 p∧V 11 = .pointer (some ⟨g,n * 60,none⟩)∧V 12 = .pointer (some ⟨g,n * 60+p,none⟩)∧V 13 = .int .i64 v∧V 14 = .bool (decide (v<0)):=⟨hf 0 (by decide),hf 1 (by decide),hf 2 (by decide),hf 3 (by decide),hf 4 (by decide),hf 5 (by decide),hf 6 (by decide),hf 7 (by decide),hf 8 (by decide),hf 9 (by decide),hf 10 (by decide),hf 11 (by decide),hf 12 (by decide),hf 13 (by decide),hf 14 (by decide)⟩
   obtain ⟨v0,v1,v2,v3,v4,v5,v6,v7,v8,v9,v10,v11,v12,v13,v14⟩:=hV
   simp only [List.size_toArray,List.length_cons,List.length_nil,Nat.reduceAdd,framed,dstOf,List.getElem?_toArray,List.getElem?_cons_zero,List.getElem?_cons_succ,Option.bind_some,v0,v1,v2,v3,v4,v5,v6,v7,v8,v9,v10,v11,v12,v13,v14]
   exact this
end Go.Proofs.YtpmkgmilfifkpaaGreatDoor
end

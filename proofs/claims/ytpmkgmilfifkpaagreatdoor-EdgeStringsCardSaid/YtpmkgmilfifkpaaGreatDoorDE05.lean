/- Contracts that the laws lean on: Solve, Great, Askd, Tried. -/
import Derived.Test.YtpmkgmilfifkpaaGreatDoorDE04
set_option maxRecDepth 100000
set_option maxHeartbeats 2000000
section
namespace Go.Proofs.YtpmkgmilfifkpaaGreatDoor
open Go.RowKit Go.Proofs Go.Shelf
structure SysOk (pts:Int) (bs:List Bound):Prop where
 p1:1≤pts
 p2:pts≤60
 len:bs.length≤400
 b:∀ b∈bs,0≤b.src∧b.src<pts∧0≤b.dst∧b.dst<pts∧b.src≠b.dst∧ -1000000≤b.most∧b.most≤1000000
theorem SysOk.okB {pts:Int} {bs:List Bound} (h:SysOk pts bs):∀ b∈bs,okB b:=fun b hb=>by
 obtain ⟨a,c,d,e,f,g,i⟩:=h.b b hb
 have:=h.p2
 exact ⟨a,by omega,d,by omega,g,i⟩
theorem sysOk_of {pts:Int} {bs:List Bound} (h:checkSys pts bs=0):SysOk pts bs:=by
 unfold checkSys at h
 by_cases h1:60<pts∨400<bs.length
 · rw [if_pos h1] at h;cases h
 · rw [if_neg h1] at h
   by_cases h2:pts<1∨bs.any (wrongB pts)=true
   · rw [if_pos h2] at h;cases h
   · simp only [not_or,Bool.not_eq_true,List.any_eq_false] at h2
     refine ⟨by omega,by omega,by omega,fun b hb=> ?_⟩
     have:=h2.2 b hb
     simp [wrongB,withinB] at this
     omega
theorem copied_any (A:Option Addr) (n c:Nat) (l:List Int) (w:World) (hl:Rd encInt 1 w A n c l) (hsm:n≤1000000):
 Calls Tryz.prog 157 #[.slice A n c] w fun e w'=> ∃ A' c',e = .returned (.slice A' n c')∧Own encInt 1 3 w.heap.size w' A' n c' l∧Below w.heap.size w w':=by
 have HL:=Lib.hid hl
 clear hl
 go_enter Tryz.func157,Tryz.ntmps157
 go_wp2_with (at_builtin;refine wpList_append_src elInt (fun _=>rfl) oneInt rfl _ _ rfl _ _ _ _ rfl rfl (Own.none_ encInt 1 3 w.heap.size w) HL.out (by omega) (by decide) (Nat.le_refl _) ?_;intro A' c' w1 hown hg hat)
 go_ret
 refine ⟨A',c',by simp,by simpa using hown,?_⟩
 exact (Below.refl _ w).grown hg (Nat.le_refl _) (fun k hk=>by simp [blockOf] at hk)
theorem rd_row {w:World} {g:Nat} {r:List Int} (h:rowAt? w g 60=some (rowA r)) (m:Nat) (hm:m≤60):Rd encInt 1 w (some ⟨g,0,none⟩) m 60 (r.take m):=by
 have hl:=rowAt?_len h
 refine ⟨by rw [List.length_take];omega,by omega,⟨hm,by omega⟩,fun _=>⟨g,0,rfl,rowAt?_lt h,fun i x hx j u hu=> ?_⟩⟩
 have hi:i<m:=by
  have:=(List.getElem?_eq_some_iff.1 hx).1
  rw [List.length_take] at this;omega
 rw [List.getElem?_take_of_lt hi] at hx
 have hj:j=0∧u = .int .i64 x:=by
  cases j with
  | zero=>simp [encInt] at hu;exact ⟨rfl,hu.symm⟩
  | succ j=>simp [encInt] at hu
 obtain ⟨rfl,rfl⟩:=hj
 have:=rowAt?_int h (i:=i) (by omega)
 simp only [Nat.zero_add,Nat.mul_one,Nat.add_zero]
 rw [this,List.getD,hx];rfl
theorem zeroRow_at (i:Int) (h1:0≤i) (h2:i<60):rAt zeroRow i=0:=by
 unfold rAt zeroRow
 have:i.toNat<60:=by omega
 rw [List.getD_eq_getElem?_getD,List.getElem?_replicate,if_pos this];rfl
theorem solved_any (pts:Int) (A:Option Addr) (n c:Nat) (bs:List Bound) (w:World) (hl:Rd encBound 4 w A n c bs) (hok:SysOk pts bs):
 Calls Tryz.prog 133 #[.agg #[.int .i64 pts,.slice A n c]] w fun e w'=> ∃ A' c',e = .returned (.tuple #[.slice A' (solvedX pts bs).length c',.bool (solvedOk pts bs)])∧Below w.heap.size w w'∧
  Own encInt 1 3 w.heap.size w' A' (solvedX pts bs).length c' (solvedX pts bs):=by
 obtain ⟨W1,hW1⟩:∃ W1,(w.alloc (.cells #[.int .i64 pts,.slice A n c] 83)).alloc (.cells (rowA zeroRow) 151)=W1:=⟨_,rfl⟩
 have hl1:Rd encBound 4 W1 A n c bs:=by rw [←hW1];exact (hl.alloc _).alloc _
 have hr1:rowAt? W1 (w.heap.size+1) 60=some (rowA zeroRow):=by rw [←hW1,rowAt?_alloc_at _ _ (by simp),if_pos (by rw [rowA_size,zeroRow_len])]
 have hb1:Below w.heap.size w W1:=by rw [←hW1];exact ((Below.refl _ w).alloc (Nat.le_refl _) _).alloc (by simp) _
 have hs1:W1.heap.size=w.heap.size+2:=by rw [←hW1];simp
 have c0:W1.cell? ⟨w.heap.size,0,none⟩=some (.int .i64 pts):=by rw [←hW1,World.cell?_alloc_past _ _ _ (by simp),World.cell?_alloc_at _ _ _ _ rfl];rfl
 have hp1:=hok.p1
 have hp2:=hok.p2
 have hset:=settled_any pts A n c bs (w.heap.size+1) zeroRow W1 hl1 hr1 (fun b o hb hn0 e=>by
  obtain ⟨b',off,e',hlt,_⟩:=hl.at_ hn0
  rw [hb] at e'
  cases e'
  omega) hok.okB (by have:=hok.len;have:=hl.len;omega) (by omega) hp2 (fun i i1 i2=>by rw [zeroRow_at i i1 i2];unfold noneV;omega)
 have hSR:settled pts bs zeroRow=solvedR pts bs:=rfl
 have hlen:=settled_len pts bs zeroRow
 rw [hSR] at hset hlen
 have hx:solvedX pts bs=if (solvedR pts bs).2.2 then (solvedR pts bs).1.take pts.toNat else []:=rfl
 have ho:solvedOk pts bs=(solvedR pts bs).2.2:=rfl
 rw [hx,ho]
 clear hx ho hSR hl hl1 hr1
 generalize solvedR pts bs=R at hset hlen ⊢
 obtain ⟨rr,ll,ok⟩:=R
 simp only at hset hlen ⊢
 obtain ⟨hlr,hll⟩:=hlen
 have HLL:=Lib.hid hll
 have HLR:=Lib.hid hlr
 have HS:=Lib.hid hset
 have HC0:=Lib.hid c0
 have HW:=Lib.hid hW1
 have hpn:(pts.toNat:Int)=pts:=by omega
 have HPN:=Lib.hid hpn
 clear hset c0 hW1 hpn hll hlr
 cases ok
 · go_enter Tryz.func133,Tryz.ntmps133
   go_wp2_with (first
    | (refine wpL_alloc (t:=151) rfl rfl zero207 ?_)
    | (go_at_call 134;rw [HW.out];refine HS.out.mono ?_;rintro e w2 ⟨rfl,hrow,hg⟩)
    | (refine wpL_alloc (t:=150) rfl rfl zero206 ?_)
    | (refine wpL_storeNew row206 rfl rfl rfl rfl (by simp [zeroRow]) rfl HLL.out ?_))
   go_ret2
   refine ⟨none,0,rfl,?_,Own.none_ _ _ _ _ _⟩
   have hg2:=hg.size
   exact (hb1.grown hg (by omega) (fun k e=>by cases e;omega)).alloc (by omega) _
 · have hz60:0≤pts:=by omega
   go_enter Tryz.func133,Tryz.ntmps133
   go_wp2_with (first
    | (refine wpL_alloc (t:=151) rfl rfl zero207 ?_)
    | (go_at_call 134;rw [HW.out];refine HS.out.mono ?_;rintro e w2 ⟨rfl,hrow,hg⟩;have hs2:=hg.size;have c2:w2.cell? ⟨w.heap.size,0,none⟩=some (.int .i64 pts):=((gcell hg).1 _ _ (by omega) (by omega)).trans HC0.out;have q2:w.heap.size<w2.heap.size:=(by omega))
    | (refine wpL_alloc (t:=150) rfl rfl zero206 ?_)
    | (refine wpL_storeNew row206 rfl rfl rfl rfl (by simp [zeroRow]) rfl HLL.out ?_))
   have hrd:Rd encInt 1 (w2.alloc (.cells (rowA ll) 150)) (some ⟨w.heap.size+1,0,none⟩) pts.toNat 60 (rr.take pts.toNat):=(rd_row hrow pts.toNat (by omega)).alloc _
   have hlt:(rr.take pts.toNat).length=pts.toNat:=hrd.len
   have HLT:=Lib.hid hlt
   have HRD:=Lib.hid hrd
   clear hlt hrd
   go_wp2_with (go_at_call 157;refine (copied_any _ _ _ _ _ HRD.out (by omega)).mono ?_;rintro e w3 ⟨A',c',rfl,hO,hb3⟩)
   go_ret2
   have hb2:Below w.heap.size w w2:=hb1.grown hg (by omega) (fun k e=>by cases e;omega)
   have hb4:Below w.heap.size w w3:=(hb2.alloc (by omega) _).trans (hb3.mono (by simp;omega))
   have hmin:min pts.toNat (List.length rr)=pts.toNat:=by have:=HLR.out;rw [zeroRow_len] at this;omega
   rw [hmin]
   exact ⟨A',c',rfl,hb4,hO.mono (by simp;omega)⟩
theorem solvable_any (pts:Int) (A:Option Addr) (n c:Nat) (bs:List Bound) (w:World) (hl:Rd encBound 4 w A n c bs) (hok:SysOk pts bs):
 Calls Tryz.prog 96 #[.agg #[.int .i64 pts,.slice A n c]] w fun e w'=>e = .returned (.int .i64 (if solvedOk pts bs then 0 else 10))∧Below w.heap.size w w':=by
 have hs:=solved_any pts A n c bs _ (hl.alloc (.cells #[.int .i64 pts,.slice A n c] 83)) hok
 have HS:=Lib.hid hs
 clear hs
 cases hq:solvedOk pts bs
 all_goals
  rw [hq] at HS
  clear hq
  go_enter Tryz.func96,Tryz.ntmps96
  go_wp2_with (go_at_call 133;refine HS.out.mono ?_;rintro e w2 ⟨A',c',rfl,hb,hO⟩)
  go_ret
  exact ⟨rfl,((Below.refl _ w).alloc (Nat.le_refl _) _).trans (hb.mono (by simp))⟩
theorem emptyRow_at (i:Int) (h1:0≤i) (h2:i<60):rAt emptyRow i=noneV:=by
 unfold rAt emptyRow
 have:i.toNat<60:=by omega
 rw [List.getD_eq_getElem?_getD,List.getElem?_replicate,if_pos this];rfl
theorem results_row_row {P:Program} {fn:Func} {p p2:Tmp} {ty ty2:TypeId} (h:fn.results = #[.cell p ty,.cell p2 ty2]) (tmps:Array Value) (w:World) {e:TypeId} {n:Nat} (T:RowT P ty e n) (T2:RowT P ty2 e n) {g g2:Nat} {cs cs2:Array Value}
 (hp:tmps.getD p undef = .pointer (some ⟨g,0,none⟩)) (hp2:tmps.getD p2 undef = .pointer (some ⟨g2,0,none⟩)) (hg:rowAt? w g n=some cs) (hg2:rowAt? w g2 n=some cs2):(results fn tmps).run P w = .ok (.tuple #[.agg cs,.agg cs2]) w:=by
 obtain ⟨t,hh,hs⟩:=rowAt?_heap hg
 obtain ⟨t2,hh2,hs2⟩:=rowAt?_heap hg2
 have hp':tmps[p]?.getD undef = .pointer (some ⟨g,0,none⟩):=by simpa using hp
 have hp2':tmps[p2]?.getD undef = .pointer (some ⟨g2,0,none⟩):=by simpa using hp2
 simp [results,h,hp',hp2',asAddr,run_loadVar_row w g t ty cs (0,0) _ hh T.arr rfl (by rw [hs];exact T.size),run_loadVar_row w g2 t2 ty2 cs2 (0,0) _ hh2 T2.arr rfl (by rw [hs2];exact T2.size)]
theorem run_load_tab {P:Program} {t e:TypeId} {n:Nat} (T:RowT P t e n) {o:Oper} {b:Act} {w:World} {x:Tmp} (ho:o.op = .load t (.tmp x)) {g:Nat} (hx:b.tmps.getD x undef = .pointer (some ⟨g,0,none⟩)) {cs:Array Value} (hr:rowAt? w g n=some cs):
 (execOp b.eval o).run P w = .ok (.value (.agg cs)) w:=by
 have hx':b.eval (.tmp x) = .pointer (some ⟨g,0,none⟩):=hx
 simp only [execOp,ho,hx',Sem.run_bind,run_loadAt_row T,hr,Result.andThen_ok,Sem.run_pure]
theorem run_store_tab {P:Program} {t e:TypeId} {n:Nat} (T:RowT P t e n) {o:Oper} {b:Act} {w:World} {x y:Tmp} (ho:o.op = .store t (.tmp x) (.tmp y)) {g:Nat} (hx:b.tmps.getD x undef = .pointer (some ⟨g,0,none⟩)) {r:List Int} (hy:b.tmps.getD y undef = .agg (rowA r)) (hr:(rowAt? w g n).isSome=true) (hl:r.length=n):
 (execOp b.eval o).run P w = .ok .skip (w.setRow g (rowA r)):=by
 have hx':b.eval (.tmp x) = .pointer (some ⟨g,0,none⟩):=hx
 have hy':b.eval (.tmp y) = .agg (rowA r):=hy
 simp only [execOp,ho,hx',hy',Sem.run_bind,run_storeAt_row T,hr,hl,and_self,if_true,Result.andThen_ok,Sem.run_pure]
theorem from_any (pts:Int) (A:Option Addr) (n c:Nat) (bs:List Bound) (a:Int) (w:World) (hl:Rd encBound 4 w A n c bs) (hok:SysOk pts bs) (h1:0≤a) (h2:a<pts):
 Calls Tryz.prog 97 #[.agg #[.int .i64 pts,.slice A n c],.int .i64 a] w fun e w'=>e = .returned (.tuple #[.agg (rowA (fromR pts bs a).1),.agg (rowA (fromR pts bs a).2.1)])∧Below w.heap.size w w':=by
 have hp2:=hok.p2
 have hp1:=hok.p1
 have hset:=fun W br hl hr hA=>settled_any pts A n c bs br (rPut emptyRow a 0) W hl hr hA hok.okB (by have:=hok.len;have:=hl.len;omega) (by omega) hp2 (fun i i1 i2=>by
  rw [rAt_put emptyRow_len h1 (by omega) i1,emptyRow_at i i1 i2];unfold noneV;split<;>omega)
 have hSR:settled pts bs (rPut emptyRow a 0)=fromR pts bs a:=rfl
 have hlen:=settled_len pts bs (rPut emptyRow a 0)
 rw [hSR] at hlen
 have hset':=fun W br hl hr hA=>hSR ▸ hset W br hl hr hA
 clear hset hSR
 generalize fromR pts bs a=R at hset' hlen ⊢
 obtain ⟨rr,ll,ok⟩:=R
 simp only [rPut_len,emptyRow_len] at hlen hset' ⊢
 obtain ⟨hlr,hll⟩:=hlen
 have HLL:=Lib.hid hll
 have HLR:=Lib.hid hlr
 have HS:=Lib.hid hset'
 have HL:=Lib.hid hl
 have hrA:∀ b o,A=some ⟨b,o,none⟩→0<n→b<w.heap.size:=fun b o hb hn0=>by
  obtain ⟨b',off,e',hlt,_⟩:=hl.at_ hn0
  rw [hb] at e'
  cases e'
  omega
 clear hset' hll hlr hl
 go_enter Tryz.func97,Tryz.ntmps97
 go_wp2_with (first
  | (refine wpL_alloc (t:=151) rfl rfl zero207 ?_)
  | (refine wpL_alloc (t:=150) rfl rfl zero206 ?_)
  | (go_at_call 111;refine (empty_any _).mono ?_;rintro e w2 ⟨rfl,hb⟩
     have hz2:=hb.size
     simp only [World.size_alloc] at hz2
     have d0:w2.cell? ⟨w.heap.size,0,none⟩=some (.int .i64 pts):=(hb.cell (p:=⟨w.heap.size,0,none⟩) (by simp;omega)).trans (cell3a _ _ _ _ _ _)
     have d1:w2.cell? ⟨w.heap.size,1,none⟩=some (.slice A n c):=(hb.cell (p:=⟨w.heap.size,1,none⟩) (by simp;omega)).trans (cell3a _ _ _ _ _ _)
     have r4:rowAt? w2 (w.heap.size+1) 60=some (rowA zeroRow):=rowAt?_below (by rw [rowAt?_alloc_past _ (by simp),rowAt?_alloc_at _ _ (by simp),if_pos (by rw [rowA_size,zeroRow_len])]) hb (by simp)
     have r5:rowAt? w2 (w.heap.size+1+1) 60=some (rowA zeroRow):=rowAt?_below (by rw [rowAt?_alloc_at _ _ (by simp),if_pos (by rw [rowA_size,zeroRow_len])]) hb (by simp)
     have hl2:Rd encBound 4 w2 A n c bs:=(((HL.out.alloc _).alloc _).alloc _).below hb (Nat.le_refl _)
     have hb2:Below w.heap.size w w2:=((((Below.refl _ w).alloc (Nat.le_refl _) _).alloc (by simp) _).alloc (by simp;omega) _).trans (hb.mono (by simp;omega))
     clear hb)
  | (refine wpL_storeNew row207 rfl rfl rfl rfl (by simp [zeroRow]) rfl emptyRow_len ?_
     obtain ⟨W3,hW3⟩:∃ W3,w2.alloc (.cells (rowA emptyRow) 151)=W3:=⟨_,rfl⟩
     rw [hW3]
     have d0:W3.cell? ⟨w.heap.size,0,none⟩=some (.int .i64 pts):=(by rw [←hW3,World.cell?_alloc_past _ _ _ (by omega)];exact d0)
     have d1:W3.cell? ⟨w.heap.size,1,none⟩=some (.slice A n c):=(by rw [←hW3,World.cell?_alloc_past _ _ _ (by omega)];exact d1)
     have r4:rowAt? W3 (w.heap.size+1) 60=some (rowA zeroRow):=(by rw [←hW3,rowAt?_alloc_past _ (by omega)];exact r4)
     have r5:rowAt? W3 (w.heap.size+1+1) 60=some (rowA zeroRow):=(by rw [←hW3,rowAt?_alloc_past _ (by omega)];exact r5)
     have r6:rowAt? W3 w2.heap.size 60=some (rowA emptyRow):=(by rw [←hW3,rowAt?_alloc_at _ _ rfl,if_pos (by rw [rowA_size,emptyRow_len])])
     have hl3:Rd encBound 4 W3 A n c bs:=(by rw [←hW3];exact hl2.alloc _)
     have hb3:Below w.heap.size w W3:=(by rw [←hW3];exact hb2.alloc (by omega) _)
     have hz3:W3.heap.size=w2.heap.size+1:=(by rw [←hW3];simp)
     have hca:=rowAt?_int r6 (i:=a.toNat) (by rw [emptyRow_len];omega)
     have hfa:=rowAt?_free r6 a.toNat
     have hne:¬w.heap.size=w2.heap.size:=(by omega)
     have HR4:=Lib.hid r4
     have HR5:=Lib.hid r5
     have HR6:=Lib.hid r6
     clear r4 r5 r6 hl2 hb2 hW3))
 refine (HS.out _ w2.heap.size (HL.out.below (hb3.setCell (p:=⟨w2.heap.size,a.toNat,none⟩) (show w.heap.size≤w2.heap.size by omega) _) (Nat.le_refl _)) (by rw [rowAt?_setCell_same,HR6.out,Option.map_some,rowA_set];rfl) (fun b o hb hn0 e=>by have:=hrA b o hb hn0;omega)).mono ?_
 rintro e w5 ⟨rfl,hrow5,hg5⟩
 have hz5:=hg5.size
 simp only [World.size_setCell] at hz5
 have hb5:Below w.heap.size w w5:=(hb3.setCell (p:=⟨w2.heap.size,a.toNat,none⟩) (show w.heap.size≤w2.heap.size by omega) _).grown hg5 (by simp;omega) (fun k e=>by cases e;omega)
 have G4:Hid (rowAt? w5 (w.heap.size+1) 60=some (rowA zeroRow)):=by
  have h:=HR4.out
  have e:w5.heap[w.heap.size+1]? = W3.heap[w.heap.size+1]? := (hg5.block _ (by simp;omega) (fun e=>by have:=Option.some.inj e;omega)).trans (Below.heap_setCell _ _ _ _ (show w.heap.size+1≠w2.heap.size by omega))
  exact Lib.hid (by unfold rowAt? at h ⊢;rwa [e])
 have G5:Hid (rowAt? w5 (w.heap.size+1+1) 60=some (rowA zeroRow)):=by
  have h:=HR5.out
  have e:w5.heap[w.heap.size+1+1]? = W3.heap[w.heap.size+1+1]? := (hg5.block _ (by simp;omega) (fun e=>by have:=Option.some.inj e;omega)).trans (Below.heap_setCell _ _ _ _ (show w.heap.size+1+1≠w2.heap.size by omega))
  exact Lib.hid (by unfold rowAt? at h ⊢;rwa [e])
 have G6:=Lib.hid hrow5
 clear hrow5
 go_wp2_with (first
  | (refine wpL_alloc (t:=150) rfl rfl zero206 ?_)
  | (refine wpL_storeNew row206 rfl rfl rfl rfl (by simp [zeroRow]) rfl HLL.out ?_))
 obtain ⟨W6,hW6⟩:∃ W6,w5.alloc (.cells (rowA ll) 150)=W6:=⟨_,rfl⟩
 rw [hW6]
 have r4:rowAt? W6 (w.heap.size+1) 60=some (rowA zeroRow):=by rw [←hW6,rowAt?_alloc_past _ (by omega)];exact G4.out
 have r5:rowAt? W6 (w.heap.size+1+1) 60=some (rowA zeroRow):=by rw [←hW6,rowAt?_alloc_past _ (by omega)];exact G5.out
 have r6:rowAt? W6 w2.heap.size 60=some (rowA rr):=by rw [←hW6,rowAt?_alloc_past _ (by omega)];exact G6.out
 have r7:rowAt? W6 w5.heap.size 60=some (rowA ll):=by rw [←hW6,rowAt?_alloc_at _ _ rfl,if_pos (by rw [rowA_size,HLL.out])]
 have hb6:Below w.heap.size w W6:=by rw [←hW6];exact hb5.alloc (by omega) _
 clear hW6
 obtain ⟨V0,hV0⟩:∃ V0,W6.drew=V0:=⟨_,rfl⟩
 obtain ⟨V1,hV1⟩:∃ V1,V0.setRow (w.heap.size+1) (rowA rr)=V1:=⟨_,rfl⟩
 obtain ⟨V2,hV2⟩:∃ V2,V1.setRow (w.heap.size+1+1) (rowA ll)=V2:=⟨_,rfl⟩
 have s4:rowAt? V0 (w.heap.size+1) 60=some (rowA zeroRow):=by rw [←hV0];exact r4
 have s5:rowAt? V1 (w.heap.size+1+1) 60=some (rowA zeroRow):=by rw [←hV1,rowAt?_setRow_other _ (by omega),←hV0];exact r5
 have s6:rowAt? V0 w2.heap.size 60=some (rowA rr):=by rw [←hV0];exact r6
 have s7:rowAt? V0 w5.heap.size 60=some (rowA ll):=by rw [←hV0];exact r7
 have s7':rowAt? V1 w5.heap.size 60=some (rowA ll):=by rw [←hV1,rowAt?_setRow_other _ (by omega)];exact s7
 have t4:rowAt? V2 (w.heap.size+1) 60=some (rowA rr):=by rw [←hV2,rowAt?_setRow_other _ (by omega),←hV1,rowAt?_setRow_same _ (by rw [s4];rfl) (by rw [rowA_size,HLR.out])]
 have t5:rowAt? V2 (w.heap.size+1+1) 60=some (rowA ll):=by rw [←hV2,rowAt?_setRow_same _ (by rw [s5];rfl) (by rw [rowA_size,HLL.out])]
 have hbV:Below w.heap.size w V2:=by rw [←hV2,←hV1,←hV0];exact below_setRow (below_setRow hb6.drew (by omega) _) (by omega) _
 clear r4 r5 r6 r7 HS HL
 obtain ⟨Wf,hWf⟩:∃ Wf:Array Bool→World,∀ L,Wf L=if L.getD 3 false=true then V2 else if L.getD 2 false=true then V1 else V0:=⟨fun L=>if L.getD 3 false=true then V2 else if L.getD 2 false=true then V1 else V0,fun _=>rfl⟩
 refine wpIn_wide.1 (wpIn_region_tab (F:=Fence.wide) (nn:=5) (by kernel_rfl) (fun _=>trivial) (fun i=>match i with|0=> .agg (rowA rr)|1=> .agg (rowA ll)|_=>undef) Wf (by kernel_rfl) ?_ ?_ ?_)
 · rw [hWf,hV0];rfl
 · intro listed i o b hi ho hb
   obtain ⟨hun,oi,hoi,hall⟩:=mem_ready.1 hi
   have:oi=o:=Option.some.inj (hoi.symm.trans ho)
   subst this
   have hlt:i<4:=by have:=(Array.getElem?_eq_some_iff.1 ho).1;simpa using this
   have o4:=hb.old 4 (dst_no hb (by kernel_rfl))
   have o5:=hb.old 5 (dst_no hb (by kernel_rfl))
   have o6:=hb.old 6 (dst_no hb (by kernel_rfl))
   have o7:=hb.old 7 (dst_no hb (by kernel_rfl))
   rcases (by omega:i=0∨i=1∨i=2∨i=3) with rfl|rfl|rfl|rfl
   all_goals simp only [List.getElem?_toArray,List.getElem?_cons_zero,List.getElem?_cons_succ] at ho
   all_goals cases ho
   · have n2:listed.getD 2 false=false:=not_listed (hb.closed 2 _ rfl) ⟨0,.data⟩ (by simp) rfl (getD_both hun)
     have n3:listed.getD 3 false=false:=not_listed (hb.closed 3 _ rfl) ⟨0,.phase⟩ (by simp) rfl (getD_both hun)
     left
     simp only [hWf,n2,n3,Bool.false_eq_true,if_false,getD_set_ne false (show (0:Nat)≠2 by decide),getD_set_ne false (show (0:Nat)≠3 by decide)]
     exact run_load_tab row207 rfl o6 s6
   · have n3:listed.getD 3 false=false:=not_listed (hb.closed 3 _ rfl) ⟨1,.data⟩ (by simp) rfl (getD_both hun)
     left
     simp only [hWf,n3,Bool.false_eq_true,if_false,getD_set_ne false (show (1:Nat)≠2 by decide),getD_set_ne false (show (1:Nat)≠3 by decide)]
     cases listed.getD 2 false
     · exact run_load_tab row206 rfl o7 s7
     · exact run_load_tab row206 rfl o7 s7'
   · have n2:=getD_both hun
     have n3:listed.getD 3 false=false:=not_listed (hb.closed 3 _ rfl) ⟨2,.chain⟩ (by simp) rfl (getD_both hun)
     have v0:=hb.val 0 17 rfl (hall ⟨0,.data⟩ (by simp) rfl)
     right
     simp only [hWf,n2,n3,Bool.false_eq_true,if_false,if_true,getD_set_ne false (show (2:Nat)≠3 by decide),getD_set_self hb.size (show 2<4 by decide)]
     exact ⟨(run_store_tab row207 rfl o4 v0 (by rw [s4];rfl) HLR.out).trans (by rw [hV1]),trivial⟩
   · have n3:=getD_both hun
     have y2:listed.getD 2 false=true:=hall ⟨2,.chain⟩ (by simp) rfl
     have v1:=hb.val 1 18 rfl (hall ⟨1,.data⟩ (by simp) rfl)
     right
     simp only [hWf,n3,y2,Bool.false_eq_true,if_false,if_true,getD_set_self hb.size (show 3<4 by decide)]
     exact ⟨(run_store_tab row206 rfl o5 v1 (by rw [s5];rfl) HLL.out).trans (by rw [hV2]),trivial⟩
 · intro b hb
   have o4:=hb.old 4 (dst_no hb (by kernel_rfl))
   have o5:=hb.old 5 (dst_no hb (by kernel_rfl))
   have hdf:=hb.defers
   have e2:Wf (Array.replicate 4 true)=V2:=by rw [hWf];rfl
   simp only [List.size_toArray,List.length_cons,List.length_nil,Nat.reduceAdd]
   rw [e2]
   obtain ⟨bt,bd⟩:=b
   simp only at o4 o5 hdf
   subst hdf
   go_wp2
   exact bodyPost_ret (results_row_row rfl _ _ row207 row206 o4 o5 t4 t5) rfl ⟨rfl,hbV⟩
theorem greatest_any (pts:Int) (A:Option Addr) (n c:Nat) (bs:List Bound) (a b:Int) (w:World) (hl:Rd encBound 4 w A n c bs) (hok:SysOk pts bs) (h1:0≤a) (h2:a<pts) (h3:0≤b) (h4:b<pts):
 Calls Tryz.prog 63 #[.agg #[.int .i64 pts,.slice A n c],.int .i64 a,.int .i64 b] w fun e w'=>e = .returned (.int .i64 (greatestR pts bs a b))∧Below w.heap.size w w':=by
 have hp2:=hok.p2
 have hfr:=from_any pts A n c bs a _ (hl.alloc (.cells #[.int .i64 pts,.slice A n c] 83)) hok h1 h2
 have hlen:=settled_len pts bs (rPut emptyRow a 0)
 have hSR:settled pts bs (rPut emptyRow a 0)=fromR pts bs a:=rfl
 have hG:greatestR pts bs a b=rAt (fromR pts bs a).1 b:=rfl
 rw [hSR] at hlen
 rw [hG]
 clear hSR hG
 generalize fromR pts bs a=R at hfr hlen ⊢
 obtain ⟨rr,ll,ok⟩:=R
 simp only [rPut_len,emptyRow_len] at hlen hfr ⊢
 obtain ⟨hlr,hll⟩:=hlen
 have HLL:=Lib.hid hll
 have HLR:=Lib.hid hlr
 have HF:=Lib.hid hfr
 clear hfr hll hlr hl
 go_enter Tryz.func63,Tryz.ntmps63
 go_wp2_with (first
  | (refine wpL_alloc (t:=151) rfl rfl zero207 ?_)
  | (refine wpL_alloc (t:=150) rfl rfl zero206 ?_)
  | (go_at_call 97;refine HF.out.mono ?_;rintro e w2 ⟨rfl,hb⟩)
  | (refine wpL_store row207 rfl rfl rfl rfl (by rw [rowAt?_alloc_past _ (by simp),rowAt?_alloc_at _ _ rfl];simp [zeroRow]) HLR.out ?_)
  | (refine wpL_store row206 rfl rfl rfl rfl ?_ HLL.out ?_
     · rw [World.size_alloc,rowAt?_setRow_other _ (by omega),rowAt?_alloc_at _ _ (by simp)];simp [zeroRow]
     obtain ⟨W3,hW3⟩:∃ W3,((((w2.alloc (.cells (rowA zeroRow) 151)).alloc (.cells (rowA zeroRow) 150)).setRow w2.heap.size (rowA rr)).setRow (w2.alloc (.cells (rowA zeroRow) 151)).heap.size (rowA ll))=W3:=⟨_,rfl⟩
     rw [hW3]
     rw [World.size_alloc] at hW3
     have hr3:rowAt? W3 w2.heap.size 60=some (rowA rr):=(by rw [←hW3,rowAt?_setRow_other _ (by omega),rowAt?_setRow_same _ (by rw [rowAt?_alloc_past _ (by simp),rowAt?_alloc_at _ _ rfl];simp [zeroRow]) (by rw [rowA_size,HLR.out])])
     have hcb:=rowAt?_int hr3 (i:=b.toNat) (by rw [HLR.out];omega)
     have hz2:=hb.size
     simp only [World.size_alloc] at hz2
     have hb3:Below w.heap.size w W3:=(by rw [←hW3];exact below_setRow (below_setRow (((((Below.refl _ w).alloc (Nat.le_refl _) _).trans (hb.mono (by simp))).alloc (by omega) _).alloc (by simp;omega) _) (by omega) _) (by omega) _)
     clear hW3 hr3))
 go_ret
 exact ⟨rfl,hb3⟩
theorem need_any (w:World):Calls Tryz.prog 78 #[.bool true] w fun e w'=>e = .returned (.tuple #[])∧w=w':=by
 go_enter Tryz.func78,Tryz.ntmps78
 go_wp2
 go_end0
 exact ⟨rfl,rfl⟩
theorem points_any (pts:Int) (A:Option Addr) (n c:Nat) (P:Option Addr) (m pc:Nat) (l:List Int) (w:World) (hl:Rd encInt 1 w P m pc l) (hp:∀ x∈l,withinB x 0 (pts-1)=true) (hp1:1≤pts) (hp2:pts≤60):
 Calls Tryz.prog 95 #[.agg #[.int .i64 pts,.slice A n c],.slice P m pc] w fun e w'=>e = .returned (.tuple #[])∧Below w.heap.size w w':=by
 have hbig:=hl.big
 go_enter Tryz.func95,Tryz.ntmps95
 go_wp2
 go_loopw [8] (fun i wr=> ∃ k:Nat,k≤m∧i = .int .i64 k∧Hid (w.alloc (.cells #[.int .i64 pts,.slice A n c] 83)=wr)) (fun i _=>m-(intOf i).toNat)
 case atStart=>exact ⟨0,Nat.zero_le _,rfl,rfl⟩
 case round=>
  obtain ⟨k,hk,rfl,hw⟩:=hrel
  obtain rfl:=hw.out
  by_cases hlt:k<m
  · obtain ⟨b,off,x,rfl,hbw,hx,hcell⟩:=(hl.alloc (.cells #[.int .i64 pts,.slice A n c] 83)).one hlt
    have c0:=hcell 0 _ rfl
    simp only [Nat.mul_one,Nat.add_zero] at c0
    have hwx:=hp x (List.mem_of_getElem? hx)
    have HX:=Lib.hid hwx
    clear hcell hx hwx hl hp
    go_wp2_with (first
     | (go_at_call 79;refine (within_any _ _ _ _).mono ?_;rintro e w' ⟨rfl,rfl⟩;rw [HX.out])
     | (go_at_call 78;refine (need_any _).mono ?_;rintro e w' ⟨rfl,rfl⟩))
    go_roundw
    case rel=>exact ⟨k+1,by omega,by go_num,(by first|exact rfl|exact trivial)⟩
    case measure=>simp [intOf];omega
  · have hkn:k=m:=by omega
    subst hkn
    go_wp2
    go_end0
    exact ⟨rfl,(Below.refl _ w).alloc (Nat.le_refl _) _⟩
theorem tried1_idle (p:Addr) (w:World):
 CallsD Tryz.prog 117 #[.pointer (some p)] .returning w fun e u' w'=>e = .returned (.tuple #[])∧u' = .returning∧w'=w:=by
 refine callsD_of_wpS Tryz.func117 rfl fun c₀ cs hu=> ?_
 apply wpS_seq
 apply wpS_region
 simp [wpOpsS,go_sem,recoverD,hu,Tryz.ntmps117,Exit.thenS]
 apply wpS_seq
 apply wpS_region
 simp [wpOpsS,go_sem,Exit.thenS]
 refine wpS_cond (t:=false) (by simp [Act.eval]) ?_
 simp only [Bool.false_eq_true,if_false]
 refine wpS_of_wp (wp_skip ?_)
 cases c₀
 simp_all [bodyPostS,results,Tryz.results117]
structure GrownT (T:Nat→Prop) (W W':World):Prop where
 os:W'.os=W.os
 tape:W'.tape=W.tape
 output:W'.output=W.output
 size:W.heap.size≤W'.heap.size
 block:∀ k,k<W.heap.size→¬T k→W'.heap[k]? = W.heap[k]?
theorem GrownT.refl (T:Nat→Prop) (W:World):GrownT T W W:=⟨rfl,rfl,rfl,Nat.le_refl _,fun _ _ _=>rfl⟩
theorem GrownT.trans {T:Nat→Prop} {A B C:World} (h:GrownT T A B) (k:GrownT T B C):GrownT T A C:=
 ⟨k.os.trans h.os,k.tape.trans h.tape,k.output.trans h.output,Nat.le_trans h.size k.size,fun i hi ht=>(k.block i (by have:=h.size;omega) ht).trans (h.block i hi ht)⟩
theorem GrownT.of_below {T:Nat→Prop} {A B C:World} {n:Nat} (h:GrownT T A B) (hb:Below n B C) (hn:A.heap.size≤n):GrownT T A C:=
 ⟨hb.os.trans h.os,hb.tape.trans h.tape,hb.output.trans h.output,Nat.le_trans h.size hb.size,fun i hi ht=>(hb.block i (by omega)).trans (h.block i hi ht)⟩
theorem GrownT.cell {T:Nat→Prop} {W W':World} (h:GrownT T W W') {b o:Nat} (hb:b<W.heap.size) (ht:¬T b):W'.cell? ⟨b,o,none⟩=W.cell? ⟨b,o,none⟩:=World.cell?_of_block (h.block b hb ht)
theorem GrownT.frozen {T:Nat→Prop} {W W':World} (h:GrownT T W W') {b o:Nat} (hb:b<W.heap.size) (ht:¬T b):W'.frozen? ⟨b,o,none⟩=W.frozen? ⟨b,o,none⟩:=World.frozen?_of_block (h.block b hb ht)
theorem GrownT.mono {T T':Nat→Prop} {W W':World} (h:GrownT T W W') (ht:∀ k,T k→T' k):GrownT T' W W':=⟨h.os,h.tape,h.output,h.size,fun k hk hn=>h.block k hk (fun q=>hn (ht k q))⟩
theorem tried_any (pts:Int) (A:Option Addr) (n c:Nat) (bs:List Bound) (g:Nat) (lb:Array Value) (eg:∀ args w,(callFunc g args).run Tryz.prog w = .ok (.enter g args) w) (v:Int) (w:World) (hl:Rd encBound 4 w A n c bs) (hk:checkSys pts bs=0)
 (T:Nat→Prop) (hT:∀ k,T k→k<w.heap.size) (Φ:World→Prop) (hΦ:∀ W1 W2:World,Φ W1→(∀ k,k<w.heap.size→W2.heap[k]? = W1.heap[k]?)→Φ W2)
 (hdo:∀ W,Below w.heap.size w W→Calls Tryz.prog g lb W fun e W'=>e = .returned (.int .i64 v)∧GrownT T W W'∧Φ W'):
 Calls Tryz.prog 76 #[.agg #[.int .i64 pts,.slice A n c],.func (.func g) #[] lb] w fun e w'=>e = .returned (.int .i64 v)∧GrownT T w w'∧Φ w':=by
 have hc:=CheckSystem_any pts A n c bs _ ((hl.alloc (.cells #[.int .i64 pts,.slice A n c] 83)).alloc (.cells #[.int .i64 0] 27))
 rw [hk] at hc
 have HC:=Lib.hid hc
 clear hc hk hl
 go_enter_defers Tryz.func76,Tryz.ntmps76
 go_wp2_with (first
  | (go_at_call 70;refine HC.out.mono ?_;rintro e w2 ⟨rfl,hb⟩
     have hz2:=hb.size
     simp only [World.size_alloc] at hz2
     have hb2:Below w.heap.size w w2:=(((Below.refl _ w).alloc (Nat.le_refl _) _).alloc (by simp) _).trans (hb.mono (by simp;omega))
     have d1:w2.cell? ⟨w.heap.size+1,0,none⟩=some (.int .i64 0):=(hb.cell (p:=⟨w.heap.size+1,0,none⟩) (by simp)).trans (by rw [World.cell?_alloc_at _ _ _ _ (by simp)];rfl)
     have f1:w2.frozen? ⟨w.heap.size+1,0,none⟩=false:=(hb.frozen (p:=⟨w.heap.size+1,0,none⟩) (by simp)).trans (World.frozen?_alloc_at _ _ _ _ (by simp))
     have hd:=hdo w2 hb2
     have HD:=Lib.hid hd
     clear hd)
  | (go_at_fn g;refine HD.out.mono ?_;rintro e w3 ⟨rfl,hg3,hf3⟩
     have e1:w3.cell? ⟨w.heap.size+1,0,none⟩=some (.int .i64 0):=(hg3.cell (by omega) (fun h=>by have:=hT _ h;omega)).trans d1
     have g1:w3.frozen? ⟨w.heap.size+1,0,none⟩=false:=(hg3.frozen (by omega) (fun h=>by have:=hT _ h;omega)).trans f1))
 refine leaves_cons (f:=117) (args:=#[.pointer (some ⟨w.heap.size+1,0,none⟩)]) (by simp) (by simp [go_sem]) ?_
 refine (tried1_idle ⟨w.heap.size+1,0,none⟩ _).mono ?_
 rintro e u' w'' ⟨rfl,rfl,rfl⟩
 have hz3:=hg3.size
 have hcv:(w3.setCell ⟨w.heap.size+1,0,none⟩ (.int .i64 v)).cell? ⟨w.heap.size+1,0,none⟩=some (.int .i64 v):=World.cell?_setCell_same' _ _ _ (by rw [e1];rfl)
 have hgw:GrownT T w w3:=(GrownT.refl T w |>.of_below hb2 (Nat.le_refl _)).trans hg3
 have hpost:GrownT T w (w3.setCell ⟨w.heap.size+1,0,none⟩ (.int .i64 v))∧Φ (w3.setCell ⟨w.heap.size+1,0,none⟩ (.int .i64 v)):=
  ⟨⟨hgw.os,hgw.tape,hgw.output,by simpa using hgw.size,fun k hk ht=>(Below.heap_setCell _ _ _ k (show k≠w.heap.size+1 by omega)).trans (hgw.block k hk ht)⟩,
   hΦ w3 _ hf3 (fun k hk=>Below.heap_setCell _ _ _ k (show k≠w.heap.size+1 by omega))⟩
 have HP:=Lib.hid hpost
 clear hpost HC HD
 refine ⟨.int .i64 v,?_,rfl,HP.out⟩
 simp [results,Tryz.results76,go_sem,hcv]
theorem ent_asked1:∀ args w,(callFunc 94 args).run Tryz.prog w = .ok (.enter 94 args) w:=enters_of Tryz.func94 (by kernel_rfl) rfl
theorem rd_two (w:World) (a b:Int) (t:TypeId):Rd encInt 1 (w.alloc (.cells #[.int .i64 a,.int .i64 b] t)) (some ⟨w.heap.size,0,none⟩) 2 2 [a,b]:=
 Rd.single (enc:=encInt) (k:=1) w #[.int .i64 a,.int .i64 b] t [a,b] 2 rfl (by omega) (fun _=>rfl) (by simp [encInt])
theorem asked1_yes (pts:Int) (A:Option Addr) (n c:Nat) (bs:List Bound) (a b:Int) (gw:Nat) (lw:Array Value) (eg:∀ args w,(callFunc gw args).run Tryz.prog w = .ok (.enter gw args) w) (b0 b1 b2 b3:Nat) (w:World) (hl:Rd encBound 4 w A n c bs) (hok:SysOk pts bs) (hs:solvedOk pts bs=true)
 (h1:0≤a) (h2:a<pts) (h3:0≤b) (h4:b<pts) (c0:w.cell? ⟨b0,0,none⟩=some (.int .i64 pts)) (c1:w.cell? ⟨b0,1,none⟩=some (.slice A n c)) (ca:w.cell? ⟨b1,0,none⟩=some (.int .i64 a)) (cb:w.cell? ⟨b2,0,none⟩=some (.int .i64 b)) (cw:w.cell? ⟨b3,0,none⟩=some (.func (.func gw) #[] lw))
 (T:Nat→Prop) (Φ:World→Prop) (hdo:∀ W,Below w.heap.size w W→Calls Tryz.prog gw lw W fun e W'=>e = .returned (.tuple #[])∧GrownT T W W'∧Φ W'):
 Calls Tryz.prog 94 #[.pointer (some ⟨b0,0,none⟩),.pointer (some ⟨b1,0,none⟩),.pointer (some ⟨b2,0,none⟩),.pointer (some ⟨b3,0,none⟩)] w fun e w'=>e = .returned (.int .i64 0)∧GrownT T w w'∧Φ w':=by
 have hpt:=points_any pts A n c (some ⟨w.heap.size,0,none⟩) 2 2 [a,b] _ (rd_two w a b 3) (fun x hx=>by simp at hx;rcases hx with rfl|rfl<;>(rw [withinB_iff];omega)) hok.p1 hok.p2
 have hsv:=fun W hl=>solvable_any pts A n c bs W hl hok
 rw [hs] at hsv
 have HPT:=Lib.hid hpt
 have HSV:=Lib.hid hsv
 have HL:=Lib.hid hl
 have z0:=block_lt_of_cell c0
 have z3:=block_lt_of_cell cw
 simp only at z0 z3
 clear hpt hsv hs hl
 go_enter Tryz.func94,Tryz.ntmps94
 go_wp2_with (first
  | (go_at_call 95;refine HPT.out.mono ?_;rintro e w2 ⟨rfl,hb⟩
     have hz2:=hb.size
     simp only [World.size_alloc] at hz2
     have hb2:Below w.heap.size w w2:=((Below.refl _ w).alloc (Nat.le_refl _) _).trans (hb.mono (by simp))
     have d0:w2.cell? ⟨b0,0,none⟩=some (.int .i64 pts):=(hb2.cell (p:=⟨b0,0,none⟩) z0).trans c0
     have d1:w2.cell? ⟨b0,1,none⟩=some (.slice A n c):=(hb2.cell (p:=⟨b0,1,none⟩) z0).trans c1)
  | (go_at_call 96;refine (HSV.out _ (HL.out.below hb2 (Nat.le_refl _))).mono ?_;rintro e w3 ⟨rfl,hb3⟩
     have hb4:Below w.heap.size w w3:=hb2.trans (hb3.mono hb2.size)
     have d3:w3.cell? ⟨b3,0,none⟩=some (.func (.func gw) #[] lw):=(hb4.cell (p:=⟨b3,0,none⟩) z3).trans cw
     have hd:=hdo w3 hb4
     have HD:=Lib.hid hd
     clear hd)
  | (go_at_fn gw;refine HD.out.mono ?_;rintro e w5 ⟨rfl,hg5,hf5⟩))
 go_ret
 exact ⟨rfl,(GrownT.refl T w |>.of_below hb4 (Nat.le_refl _)).trans hg5,hf5⟩
theorem asked1_no (pts:Int) (A:Option Addr) (n c:Nat) (bs:List Bound) (a b:Int) (b0 b1 b2 b3:Nat) (w:World) (hl:Rd encBound 4 w A n c bs) (hok:SysOk pts bs) (hs:solvedOk pts bs=false)
 (h1:0≤a) (h2:a<pts) (h3:0≤b) (h4:b<pts) (c0:w.cell? ⟨b0,0,none⟩=some (.int .i64 pts)) (c1:w.cell? ⟨b0,1,none⟩=some (.slice A n c)) (ca:w.cell? ⟨b1,0,none⟩=some (.int .i64 a)) (cb:w.cell? ⟨b2,0,none⟩=some (.int .i64 b)):
 Calls Tryz.prog 94 #[.pointer (some ⟨b0,0,none⟩),.pointer (some ⟨b1,0,none⟩),.pointer (some ⟨b2,0,none⟩),.pointer (some ⟨b3,0,none⟩)] w fun e w'=>e = .returned (.int .i64 10)∧Below w.heap.size w w':=by
 have hpt:=points_any pts A n c (some ⟨w.heap.size,0,none⟩) 2 2 [a,b] _ (rd_two w a b 3) (fun x hx=>by simp at hx;rcases hx with rfl|rfl<;>(rw [withinB_iff];omega)) hok.p1 hok.p2
 have hsv:=fun W hl=>solvable_any pts A n c bs W hl hok
 rw [hs] at hsv
 have HPT:=Lib.hid hpt
 have HSV:=Lib.hid hsv
 have HL:=Lib.hid hl
 have z0:=block_lt_of_cell c0
 simp only at z0
 clear hpt hsv hs hl
 go_enter Tryz.func94,Tryz.ntmps94
 go_wp2_with (first
  | (go_at_call 95;refine HPT.out.mono ?_;rintro e w2 ⟨rfl,hb⟩
     have hz2:=hb.size
     simp only [World.size_alloc] at hz2
     have hb2:Below w.heap.size w w2:=((Below.refl _ w).alloc (Nat.le_refl _) _).trans (hb.mono (by simp))
     have d0:w2.cell? ⟨b0,0,none⟩=some (.int .i64 pts):=(hb2.cell (p:=⟨b0,0,none⟩) z0).trans c0
     have d1:w2.cell? ⟨b0,1,none⟩=some (.slice A n c):=(hb2.cell (p:=⟨b0,1,none⟩) z0).trans c1)
  | (go_at_call 96;refine (HSV.out _ (HL.out.below hb2 (Nat.le_refl _))).mono ?_;rintro e w3 ⟨rfl,hb3⟩))
 go_ret
 exact ⟨rfl,hb2.trans (hb3.mono hb2.size)⟩
end Go.Proofs.YtpmkgmilfifkpaaGreatDoor
end

/- Contracts that the laws lean on: Solve, Long, RevLay, Back, Sets. -/
import Derived.Test.YtejjplhknacoiaaGreatDoorLK12
import Derived.Shelf.Slices.Cells
set_option maxRecDepth 100000
set_option maxHeartbeats 4000000
section
namespace Go.Proofs.YtejjplhknacoiaaGreatDoor
open Go.RowKit Go.Proofs Go.Shelf
structure SysOk (pts:Int) (bs:List Bound):Prop where
 p1:1≤pts
 p2:pts≤60
 len:bs.length≤400
 b:∀ b∈bs,0≤b.src∧b.src<pts∧0≤b.dst∧b.dst<pts∧b.src≠b.dst∧ -1000000≤b.most∧b.most≤1000000
theorem SysOk.okB {pts:Int} {bs:List Bound} (h:SysOk pts bs):∀ b∈bs,okB b:=fun b hb=>by
 obtain ⟨a,c,d,e,f,g,i⟩:=h.b b hb
 have:=h.p2
 exact ⟨a,by omega,d,by omega,g,i⟩
theorem sysOk_of {pts:Int} {bs:List Bound} (h:checkSys pts bs=0):SysOk pts bs:=by
 unfold checkSys at h
 by_cases h1:60<pts∨400<bs.length
 · rw [if_pos h1] at h;cases h
 · rw [if_neg h1] at h
   by_cases h2:pts<1∨bs.any (wrongB pts)=true
   · rw [if_pos h2] at h;cases h
   · simp only [not_or,Bool.not_eq_true,List.any_eq_false] at h2
     refine ⟨by omega,by omega,by omega,fun b hb=> ?_⟩
     have:=h2.2 b hb
     simp [wrongB,withinB] at this
     omega
theorem copied_any (A:Option Addr) (n c:Nat) (l:List Int) (w:World) (hl:Rd encInt 1 w A n c l) (hsm:n≤1000000):
 Calls Tryz.prog 106 #[.slice A n c] w fun e w'=> ∃ A' c',e = .returned (.slice A' n c')∧Own encInt 1 3 w.heap.size w' A' n c' l∧Below w.heap.size w w':=by
 have HL:=Lib.hid hl
 clear hl
 go_enter Tryz.func106,Tryz.ntmps106
 go_wp2_with (at_builtin;refine wpList_append_src elInt (fun _=>rfl) oneInt rfl _ _ rfl _ _ _ _ rfl rfl (Own.none_ encInt 1 3 w.heap.size w) HL.out (by omega) (by decide) (Nat.le_refl _) ?_;intro A' c' w1 hown hg hat)
 go_ret
 refine ⟨A',c',by simp,by simpa using hown,?_⟩
 exact (Below.refl _ w).grown hg (Nat.le_refl _) (fun k hk=>by simp [blockOf] at hk)
theorem rd_row {w:World} {g:Nat} {r:List Int} (h:rowAt? w g 60=some (rowA r)) (m:Nat) (hm:m≤60):Rd encInt 1 w (some ⟨g,0,none⟩) m 60 (r.take m):=by
 have hl:=rowAt?_len h
 refine ⟨by rw [List.length_take];omega,by omega,⟨hm,by omega⟩,fun _=>⟨g,0,rfl,rowAt?_lt h,fun i x hx j u hu=> ?_⟩⟩
 have hi:i<m:=by
  have:=(List.getElem?_eq_some_iff.1 hx).1
  rw [List.length_take] at this;omega
 rw [List.getElem?_take_of_lt hi] at hx
 have hj:j=0∧u = .int .i64 x:=by
  cases j with
  | zero=>simp [encInt] at hu;exact ⟨rfl,hu.symm⟩
  | succ j=>simp [encInt] at hu
 obtain ⟨rfl,rfl⟩:=hj
 have:=rowAt?_int h (i:=i) (by omega)
 simp only [Nat.zero_add,Nat.mul_one,Nat.add_zero]
 rw [this,List.getD,hx];rfl
theorem zeroRow_at (i:Int) (h1:0≤i) (h2:i<60):rAt zeroRow i=0:=by
 unfold rAt zeroRow
 have:i.toNat<60:=by omega
 rw [List.getD_eq_getElem?_getD,List.getElem?_replicate,if_pos this];rfl
theorem solved_any (pts:Int) (A:Option Addr) (n c:Nat) (bs:List Bound) (w:World) (hl:Rd encBound 4 w A n c bs) (hok:SysOk pts bs):
 Calls Tryz.prog 62 #[.agg #[.int .i64 pts,.slice A n c]] w fun e w'=> ∃ A' c',e = .returned (.tuple #[.slice A' (solvedX pts bs).length c',.bool (solvedOk pts bs)])∧Below w.heap.size w w'∧
  Own encInt 1 3 w.heap.size w' A' (solvedX pts bs).length c' (solvedX pts bs):=by
 obtain ⟨W1,hW1⟩:∃ W1,(w.alloc (.cells #[.int .i64 pts,.slice A n c] 84)).alloc (.cells (rowA zeroRow) 128)=W1:=⟨_,rfl⟩
 have hl1:Rd encBound 4 W1 A n c bs:=by rw [←hW1];exact (hl.alloc _).alloc _
 have hr1:rowAt? W1 (w.heap.size+1) 60=some (rowA zeroRow):=by rw [←hW1,rowAt?_alloc_at _ _ (by simp),if_pos (by rw [rowA_size,zeroRow_len])]
 have hb1:Below w.heap.size w W1:=by rw [←hW1];exact ((Below.refl _ w).alloc (Nat.le_refl _) _).alloc (by simp) _
 have hs1:W1.heap.size=w.heap.size+2:=by rw [←hW1];simp
 have c0:W1.cell? ⟨w.heap.size,0,none⟩=some (.int .i64 pts):=by rw [←hW1,World.cell?_alloc_past _ _ _ (by simp),World.cell?_alloc_at _ _ _ _ rfl];rfl
 have hp1:=hok.p1
 have hp2:=hok.p2
 have hset:=settled_any pts A n c bs (w.heap.size+1) zeroRow W1 hl1 hr1 (fun b o hb hn0 e=>by
  obtain ⟨b',off,e',hlt,_⟩:=hl.at_ hn0
  rw [hb] at e'
  cases e'
  omega) hok.okB (by have:=hok.len;have:=hl.len;omega) (by omega) hp2 (fun i i1 i2=>by rw [zeroRow_at i i1 i2];unfold noneV;omega)
 have hSR:settled pts bs zeroRow=solvedR pts bs:=rfl
 have hlen:=settled_len pts bs zeroRow
 rw [hSR] at hset hlen
 have hx:solvedX pts bs=if (solvedR pts bs).2.2 then (solvedR pts bs).1.take pts.toNat else []:=rfl
 have ho:solvedOk pts bs=(solvedR pts bs).2.2:=rfl
 rw [hx,ho]
 clear hx ho hSR hl hl1 hr1
 generalize solvedR pts bs=R at hset hlen ⊢
 obtain ⟨rr,ll,ok⟩:=R
 simp only at hset hlen ⊢
 obtain ⟨hlr,hll⟩:=hlen
 have HLL:=Lib.hid hll
 have HLR:=Lib.hid hlr
 have HS:=Lib.hid hset
 have HC0:=Lib.hid c0
 have HW:=Lib.hid hW1
 have hpn:(pts.toNat:Int)=pts:=by omega
 have HPN:=Lib.hid hpn
 clear hset c0 hW1 hpn hll hlr
 cases ok
 · go_enter Tryz.func62,Tryz.ntmps62
   go_wp2_with (first
    | (refine wpL_alloc (t:=128) rfl rfl zero207 ?_)
    | (go_at_call 105;rw [HW.out];refine HS.out.mono ?_;rintro e w2 ⟨rfl,hrow,hg⟩)
    | (refine wpL_alloc (t:=127) rfl rfl zero206 ?_)
    | (refine wpL_storeNew row206 rfl rfl rfl rfl (by simp [zeroRow]) rfl HLL.out ?_))
   go_ret2
   refine ⟨none,0,rfl,?_,Own.none_ _ _ _ _ _⟩
   have hg2:=hg.size
   exact (hb1.grown hg (by omega) (fun k e=>by cases e;omega)).alloc (by omega) _
 · have hz60:0≤pts:=by omega
   go_enter Tryz.func62,Tryz.ntmps62
   go_wp2_with (first
    | (refine wpL_alloc (t:=128) rfl rfl zero207 ?_)
    | (go_at_call 105;rw [HW.out];refine HS.out.mono ?_;rintro e w2 ⟨rfl,hrow,hg⟩;have hs2:=hg.size;have c2:w2.cell? ⟨w.heap.size,0,none⟩=some (.int .i64 pts):=((gcell hg).1 _ _ (by omega) (by omega)).trans HC0.out;have q2:w.heap.size<w2.heap.size:=(by omega))
    | (refine wpL_alloc (t:=127) rfl rfl zero206 ?_)
    | (refine wpL_storeNew row206 rfl rfl rfl rfl (by simp [zeroRow]) rfl HLL.out ?_))
   have hrd:Rd encInt 1 (w2.alloc (.cells (rowA ll) 127)) (some ⟨w.heap.size+1,0,none⟩) pts.toNat 60 (rr.take pts.toNat):=(rd_row hrow pts.toNat (by omega)).alloc _
   have hlt:(rr.take pts.toNat).length=pts.toNat:=hrd.len
   have HLT:=Lib.hid hlt
   have HRD:=Lib.hid hrd
   clear hlt hrd
   go_wp2_with (go_at_call 106;refine (copied_any _ _ _ _ _ HRD.out (by omega)).mono ?_;rintro e w3 ⟨A',c',rfl,hO,hb3⟩)
   go_ret2
   have hb2:Below w.heap.size w w2:=hb1.grown hg (by omega) (fun k e=>by cases e;omega)
   have hb4:Below w.heap.size w w3:=(hb2.alloc (by omega) _).trans (hb3.mono (by simp;omega))
   have hmin:min pts.toNat (List.length rr)=pts.toNat:=by have:=HLR.out;rw [zeroRow_len] at this;omega
   rw [hmin]
   exact ⟨A',c',rfl,hb4,hO.mono (by simp;omega)⟩
theorem solvable_any (pts:Int) (A:Option Addr) (n c:Nat) (bs:List Bound) (w:World) (hl:Rd encBound 4 w A n c bs) (hok:SysOk pts bs):
 Calls Tryz.prog 98 #[.agg #[.int .i64 pts,.slice A n c]] w fun e w'=>e = .returned (.int .i64 (if solvedOk pts bs then 0 else 10))∧Below w.heap.size w w':=by
 have hs:=solved_any pts A n c bs _ (hl.alloc (.cells #[.int .i64 pts,.slice A n c] 84)) hok
 have HS:=Lib.hid hs
 clear hs
 cases hq:solvedOk pts bs
 all_goals
  rw [hq] at HS
  clear hq
  go_enter Tryz.func98,Tryz.ntmps98
  go_wp2_with (go_at_call 62;refine HS.out.mono ?_;rintro e w2 ⟨A',c',rfl,hb,hO⟩)
  go_ret
  exact ⟨rfl,((Below.refl _ w).alloc (Nat.le_refl _) _).trans (hb.mono (by simp))⟩
theorem Solve_any (pts:Int) (A:Option Addr) (n c:Nat) (bs:List Bound) (w:World) (hl:Rd encBound 4 w A n c bs) (hk:checkSys pts bs=0):
 Calls Tryz.prog 34 #[.agg #[.int .i64 pts,.slice A n c]] w fun e w'=> ∃ A' c',e = .returned (.tuple #[.slice A' (solvedX pts bs).length c',.bool (solvedOk pts bs),.int .i64 0])∧Below w.heap.size w w'∧
  Own encInt 1 3 w.heap.size w' A' (solvedX pts bs).length c' (solvedX pts bs):=by
 have hc:=CheckSystem_any pts A n c bs _ (hl.alloc (.cells #[.int .i64 pts,.slice A n c] 84))
 rw [hk] at hc
 have hok:=sysOk_of hk
 have hsv:=fun W hl=>solved_any pts A n c bs W hl hok
 have HC:=Lib.hid hc
 have HV:=Lib.hid hsv
 clear hc hsv hk hok
 have HL:=Lib.hid (hl.alloc (.cells #[.int .i64 pts,.slice A n c] 84))
 clear hl
 generalize solvedX pts bs=X at HV ⊢
 generalize solvedOk pts bs=ok at HV ⊢
 go_enter Tryz.func34,Tryz.ntmps34
 go_wp2_with (first
  | (go_at_call 61;refine HC.out.mono ?_;rintro e w2 ⟨rfl,hb⟩;obtain ⟨hcc,hff⟩:=bcell hb;have hz2:=hb.size;(try simp only [World.size_alloc] at hz2 hcc);have q2:w.heap.size<w2.heap.size:=(by omega))
  | (go_at_call 62;refine (HV.out _ (HL.out.below hb (Nat.le_refl _))).mono ?_;rintro e w3 ⟨A',c',rfl,hb3,hO⟩))
 go_ret3
 exact ⟨A',c',rfl,(((Below.refl _ w).alloc (Nat.le_refl _) _).trans (hb.mono (by simp))).trans (hb3.mono (by omega)),hO.mono (by omega)⟩
theorem longerTo_len (bs:List Bound) (now:Row):∀ k,(longerTo bs now k).1.length=60∧(longerTo bs now k).2.length=60
 | 0=>by simp [longerTo,emptyRow,zeroRow]
 | k+1=>by
   have ih:=longerTo_len bs now k
   unfold longerTo
   split
   · unfold longerStep
     split<;>simp [ih.1,ih.2]
   · exact ih
theorem longerTo_hit {bs:List Bound} {now:Row} {k:Nat} {b:Bound} (hb:bs[k]? = some b) (h1:rAt now b.src<noneV) (h2:rAt now b.src+b.most<rAt (longerTo bs now k).1 b.dst):longerTo bs now (k+1)=(rPut (longerTo bs now k).1 b.dst (rAt now b.src+b.most),rPut (longerTo bs now k).2 b.dst k):=by
 rw [longerTo,hb]
 simp only [longerStep]
 rw [if_pos (by simp [h1,h2])]
theorem longerTo_miss {bs:List Bound} {now:Row} {k:Nat} {b:Bound} (hb:bs[k]? = some b) (h:¬(rAt now b.src<noneV∧rAt now b.src+b.most<rAt (longerTo bs now k).1 b.dst)):longerTo bs now (k+1)=longerTo bs now k:=by
 rw [longerTo,hb]
 simp only [longerStep]
 rw [if_neg (by simpa using h)]
theorem below_chg {B:Nat} {w0 w W:World} {T:Nat→Prop} (h:Below B w0 w) (hc:ChgT T w W) (hT:∀ k,T k→B≤k) (hB:B≤w.heap.size):Below B w0 W:=
 ⟨hc.os.trans h.os,hc.tape.trans h.tape,hc.output.trans h.output,Nat.le_trans h.size hc.size,fun k hk=>(hc.block k (by omega) (fun t=>by have:=hT k t;omega)).trans (h.block k hk)⟩
theorem rowAt?_chg {w W:World} {T:Nat→Prop} {b n:Nat} {c:Array Value} (h:rowAt? w b n=some c) (hc:ChgT T w W) (hT:¬T b):rowAt? W b n=some c:=by
 obtain ⟨t,h1,h2⟩:=rowAt?_heap h
 exact rowAt?_of ((hc.block b (Array.getElem?_eq_some_iff.1 h1).1 hT).trans h1) h2
def LongPost (w w':World) (B ba off:Nat) (cur:Array Value) (As:Option Addr) (ns:Nat) (Al:Option Addr) (nl:Nat) (sums last:List Row) (nx lx:Row):Prop:=
 ChgT (tchL ba As Al) w w'∧∃ A2 c2 A3 c3,Grown1 128 w w' B As A2 ns c2 sums nx∧Grown1 127 w w' B Al A3 nl c3 last lx∧w'.heap[ba]? = some (.cells ((cur.setIfInBounds off (.slice A2 (ns+1) c2)).setIfInBounds (off+1) (.slice A3 (nl+1) c3)) 133 (0,0))
theorem Grown1.since {t:TypeId} {w0 w1 W:World} {B n c2:Nat} {A A2:Option Addr} {xs:List Row} {x:Row} (h:Grown1 t w1 W B A A2 n c2 xs x) (hs:w0.heap.size≤w1.heap.size):Grown1 t w0 W B A A2 n c2 xs x:=
 ⟨h.1,h.2.imp id (fun ⟨k,a,b⟩=>⟨k,Nat.le_trans hs a,b⟩)⟩
theorem longer_any (B ba off g ns cs:Nat) (cur:Array Value) (Al:Option Addr) (nl cl:Nat) (sums last:List Row) (now:Row) (pts:Int) (A:Option Addr) (n c:Nat) (bs:List Bound) (w:World)
 (hcur:w.heap[ba]? = some (.cells cur 133 (0,0))) (hc0:cur[off]? = some (.slice (some ⟨g,0,none⟩) ns cs)) (hc1:cur[off+1]? = some (.slice Al nl cl))
 (hO:Own encRow 60 128 B w (some ⟨g,0,none⟩) ns cs sums) (hO2:Own encRow 60 127 B w Al nl cl last) (hB:B≤w.heap.size) (hns:1≤ns) (hns2:ns≤100) (hnl:nl≤100)
 (hnow:sums[ns-1]? = some now) (hn60:now.length=60) (hbnd:∀ v:Int,0≤v→v<60→ -1000000000≤rAt now v) (hl:Rd encBound 4 w A n c bs) (hok:SysOk pts bs):
 Calls Tryz.prog 64 #[.pointer (some ⟨ba,off,none⟩),.agg #[.int .i64 pts,.slice A n c]] w fun e w'=>e = .returned (.tuple #[])∧LongPost w w' B ba off cur (some ⟨g,0,none⟩) ns Al nl sums last (longerR bs now).1 (longerR bs now).2:=by
 obtain ⟨w1,hw1⟩:∃ w1,w.alloc (.cells #[.int .i64 pts,.slice A n c] 84)=w1:=⟨_,rfl⟩
 have hgr1:w.grownBy w1 none:=(by rw [←hw1];exact World.grownBy_alloc _ _ _)
 have hb1:Below w.heap.size w w1:=(by rw [←hw1];exact (Below.refl _ w).alloc (Nat.le_refl _) _)
 have hz1:w1.heap.size=w.heap.size+1:=(by rw [←hw1];simp)
 have hsys:w1.heap[w.heap.size]? = some (.cells #[.int .i64 pts,.slice A n c] 84 (0,0)):=(by rw [←hw1];exact heap_alloc_new w _)
 have hbl:ba<w.heap.size:=(Array.getElem?_eq_some_iff.1 hcur).1
 have hgl:g<w.heap.size:=hO.lt.2
 have hcur1:=(hgr1.block ba hbl (by simp)).trans hcur
 have hr1:w1.rangeAt g ((ns-1) * 60) (encRow now):=range_grown (hO.range hnow) hgr1 (by simp)
 have HL:=Lib.hid (hl.below hb1 (Nat.le_refl _))
 have HOK:=Lib.hid hok
 have HBND:=Lib.hid hbnd
 have hcell1:w1.cell? ⟨ba,off,none⟩=some (.slice (some ⟨g,0,none⟩) ns cs):=(by simp [World.cell?,hcur1,hc0])
 have hn400:n≤400:=(by have:=hok.len;have:=hl.len;omega)
 have HLEN:=Lib.hid hl.len
 have HO:=Lib.hid (hO.kept hgr1 (noneRow _))
 have HO2:=Lib.hid (hO2.kept hgr1 (noneRow _))
 have HC0:=Lib.hid hc0
 have HC1:=Lib.hid hc1
 have HCUR:=Lib.hid hcur1
 have HN60:=Lib.hid hn60
 have HW1:=Lib.hid hw1
 clear hl hok hbnd hO hO2 hnow hcur hc0 hc1
 go_enter Tryz.func64,Tryz.ntmps64
 go_upto_region 1 with (fail)
 refine longer1 _ rfl ba off g ns cs now _ w1 _ rfl rfl hcell1 hr1 hn60 hns (by omega) (by omega) (by omega) ?_
 intro W k4 k5 hbW hk4 hk5 hk45 hr4 hr5
 simp only [List.setIfInBounds_toArray,List.set_cons_succ,List.set_cons_zero]
 obtain ⟨W6,hW6⟩:∃ W6,W.alloc (.cells (rowA zeroRow) 127)=W6:=⟨_,rfl⟩
 obtain ⟨k6,hk6⟩:∃ k6,W.heap.size=k6:=⟨_,rfl⟩
 have hgr6:W.grownBy W6 none:=(by rw [←hW6];exact World.grownBy_alloc _ _ _)
 have hb6:Below w1.heap.size w1 W6:=(by rw [←hW6];exact hbW.alloc hbW.size _)
 have hr46:=rowAt?_grown hr4 hgr6 (by simp)
 have hr56:=rowAt?_grown hr5 hgr6 (by simp)
 have hr66:rowAt? W6 k6 60=some (rowA zeroRow):=(by rw [←hW6,←hk6,rowAt?_alloc_at _ _ rfl,if_pos (by rw [rowA_size,zeroRow_len])])
 have hsys6:=(hb6.block _ (by omega)).trans hsys
 have hk4l:=rowAt?_lt hr4
 have hk5l:=rowAt?_lt hr5
 have b0:W6.cell? ⟨w.heap.size,0,none⟩=some (.int .i64 pts):=(by simp [World.cell?,hsys6])
 have b1:W6.cell? ⟨w.heap.size,1,none⟩=some (.slice A n c):=(by simp [World.cell?,hsys6])
 have H46:=Lib.hid hr46
 have H56:=Lib.hid hr56
 have H66:=Lib.hid hr66
 have HK6:=Lib.hid hk6
 have HHW6:=Lib.hid hW6
 have HSYS:=Lib.hid hsys6
 clear hr4 hr5 hr46 hr56 hr66 hsys hsys6 hcell1 hr1 hw1 hcur1 hn60
 go_wp2_with (refine wpL_alloc (t:=127) rfl rfl zero206 ?_;rw [HHW6.out,HK6.out];clear hW6 hk6)
 go_loopw [25] (fun i wr=> ∃ k:Nat,k≤n∧i = .int .i64 k∧Below w1.heap.size w1 wr∧k6<wr.heap.size∧Hid (rowAt? wr k4 60=some (rowA now))∧Hid (rowAt? wr k5 60=some (rowA (longerTo bs now k).1))∧Hid (rowAt? wr k6 60=some (rowA (longerTo bs now k).2))) (fun i _=>n-(intOf i).toNat)
 case atStart=>exact ⟨0,Nat.zero_le _,rfl,hb6,rowAt?_lt H66.out,(show _=_ from H46.out),(show _=_ from H56.out),(show _=_ from H66.out)⟩
 case round=>
  obtain ⟨k,hk,rfl,hb,hz6,r4,r5,r6⟩:=hrel
  by_cases hlt:k<n
  · obtain ⟨b,off,x,rfl,hbw,hx,hcell⟩:=(HL.out.below hb (Nat.le_refl _)).one hlt
    have c0:wr.cell? ⟨b,off+k * 4,none⟩=some (.int .i64 x.src):=hcell 0 _ rfl
    have c1:wr.cell? ⟨b,off+k * 4+1,none⟩=some (.int .i64 x.dst):=hcell 1 _ rfl
    have c2:wr.cell? ⟨b,off+k * 4+2,none⟩=some (.int .i64 x.most):=hcell 2 _ rfl
    have c3:wr.cell? ⟨b,off+k * 4+3,none⟩=some (.int .i64 x.by_):=hcell 3 _ rfl
    obtain ⟨o1,o2,o3,o4,o5,o6,o7⟩:=HOK.out.b x (List.mem_of_getElem? hx)
    have hp60:=HOK.out.p2
    have hll:=longerTo_len bs now k
    have hcs:=rowAt?_int r4.out (i:=x.src.toNat) (by have:=HN60.out;omega)
    have hcd:=rowAt?_int r5.out (i:=x.dst.toNat) (by rw [hll.1];omega)
    have hc6:=rowAt?_int r6.out (i:=x.dst.toNat) (by rw [hll.2];omega)
    have hf5:=rowAt?_free r5.out x.dst.toNat
    have hf6:=rowAt?_free r6.out x.dst.toNat
    have hlo:=HBND.out x.src o1 (by omega)
    have es:now.getD x.src.toNat 0=rAt now x.src:=rfl
    have ed:(longerTo bs now k).1.getD x.dst.toNat 0=rAt (longerTo bs now k).1 x.dst:=rfl
    rw [es] at hcs
    rw [ed] at hcd
    clear es ed
    have hhit:=longerTo_hit (now:=now) hx
    have hmiss:=longerTo_miss (now:=now) hx
    obtain ⟨xs,hxs⟩:∃ xs,rAt now x.src=xs:=⟨_,rfl⟩
    obtain ⟨xd,hxd⟩:∃ xd,rAt (longerTo bs now k).1 x.dst=xd:=⟨_,rfl⟩
    rw [hxs] at hcs hlo hhit hmiss
    rw [hxd] at hcd hhit hmiss
    have HHIT:=Lib.hid hhit
    have HMISS:=Lib.hid hmiss
    have q4:k4<wr.heap.size:=rowAt?_lt r4.out
    have q5:k5<wr.heap.size:=rowAt?_lt r5.out
    have q0:w.heap.size<wr.heap.size:=(by omega)
    have HBX:=Lib.hid (show Below w1.heap.size w1 (wr.alloc (.cells #[.int .i64 x.src,.int .i64 x.dst,.int .i64 x.most,.int .i64 x.by_] 148)) from hb.alloc (by omega) _)
    clear hx hcell hxs hxd hhit hmiss hll
    by_cases t1:xs<noneV
    · unfold noneV at t1
      have d1:decide (xs<1099511627776)=true:=by simpa using t1
      have hw:IntKind.i64.wrap (xs+x.most)=xs+x.most:=by simp [IntKind.wrap,IntKind.bits,IntKind.signed];omega
      by_cases t2:xs+x.most<xd
      · have d2:decide (xs+x.most<xd)=true:=by simpa using t2
        have hw':=Lib.hid hw
        clear hw
        go_wp2_with (fail)
        have hw:=hw'.out
        go_quiet (fail)
        clear hw
        go_upto_region 7 with (fail)
        have q6:k5<k6:=(by have:=HK6.out;omega)
        have q7:k4<k6:=(by have:=HK6.out;omega)
        refine longer7 _ rfl wr.heap.size k4 k5 k6 k x xs (longerTo bs now k).1 (longerTo bs now k).2 _ _ _ rfl rfl rfl rfl rfl rfl (by simp) (by simp) (by simp) ?_ ?_ ?_ o1 (by omega) o3 (by omega) hw'.out (by omega) (by omega) (by omega) (by omega) (by omega) ?_
        · show World.cell? (wr.alloc _) _=_
          exact cell_grown (row:=none) hcs (World.grownBy_alloc _ _ _) (by simp)
        · rw [rowAt?_drewN,rowAt?_alloc_past _ (by omega)];exact r5.out
        · rw [rowAt?_drewN,rowAt?_alloc_past _ (by omega)];exact r6.out
        intro W9 hc9 n5 n6
        simp only [List.setIfInBounds_toArray,List.set_cons_succ,List.set_cons_zero]
        have hb9:=below_chg (below_drewN' HBX.out _) hc9 (fun q e=>by have:=HK6.out;have:=hbW.size;omega) (by simp;omega)
        have n4:=rowAt?_chg (n:=60) (b:=k4) (by rw [rowAt?_drewN,rowAt?_alloc_past _ (by omega)];exact r4.out) hc9 (by omega)
        have hz9:k6<W9.heap.size:=rowAt?_lt n6
        have N4:=Lib.hid n4
        have N5:=Lib.hid n5
        have N6:=Lib.hid n6
        have HB9:=Lib.hid hb9
        have HIT:=Lib.hid (HHIT.out (show xs<noneV from t1) t2)
        clear n4 n5 n6 hc9 hb9 hcs hcd hc6 hf5 hf6 c0 c1 c2 c3
        go_wp2
        go_roundw
        all_goals first
         | (simp [intOf];omega)
         | exact ⟨k+1,by omega,by go_num,HB9.out,hz9,N4,(show _=_ by rw [HIT.out];exact N5.out),(show _=_ by rw [HIT.out];exact N6.out)⟩
      · have d2:decide (xs+x.most<xd)=false:=by simpa using t2
        have hw':=Lib.hid hw
        clear hw
        go_wp2_with (fail)
        have hw:=hw'.out
        go_quiet (fail)
        clear hw
        go_wp2
        go_roundw
        all_goals first
         | (simp [intOf];omega)
         | exact ⟨k+1,by omega,by go_num,below_drewN' HBX.out _,by simp;omega,(show _=_ by rw [rowAt?_drewN,rowAt?_alloc_past _ (by omega)];exact r4.out),(show _=_ by rw [HMISS.out (fun h=>by unfold noneV at h;omega),rowAt?_drewN,rowAt?_alloc_past _ (by omega)];exact r5.out),(show _=_ by rw [HMISS.out (fun h=>by unfold noneV at h;omega),rowAt?_drewN,rowAt?_alloc_past _ (by omega)];exact r6.out)⟩
    · unfold noneV at t1
      have d1:decide (xs<1099511627776)=false:=by simpa using t1
      go_wp2_with (fail)
      go_quiet (fail)
      go_wp2
      go_roundw
      all_goals first
       | (simp [intOf];omega)
       | exact ⟨k+1,by omega,by go_num,below_drewN' HBX.out _,by simp;omega,(show _=_ by rw [rowAt?_drewN,rowAt?_alloc_past _ (by omega)];exact r4.out),(show _=_ by rw [HMISS.out (fun h=>by unfold noneV at h;omega),rowAt?_drewN,rowAt?_alloc_past _ (by omega)];exact r5.out),(show _=_ by rw [HMISS.out (fun h=>by unfold noneV at h;omega),rowAt?_drewN,rowAt?_alloc_past _ (by omega)];exact r6.out)⟩
  · have hkn:k=n:=by omega
    subst hkn
    clear hlt hk
    have hlr:(longerR bs now)=longerTo bs now k:=(by unfold longerR;rw [HLEN.out])
    have HLR:=Lib.hid hlr
    clear hlr
    have hll:=longerTo_len bs now k
    have hAl:∀ q,blockOf Al=some q→q≤w.heap.size:=(fun q e=>by
     rcases HO2.out.form with ⟨rfl,_⟩|⟨g2,rfl,_,hlt2⟩
     · cases e
     · have e2:g2=q:=Option.some.inj e
       omega)
    have q4:k4<wr.heap.size:=rowAt?_lt r4.out
    have q5:k5<wr.heap.size:=rowAt?_lt r5.out
    have hbx:=hbW.size
    go_wp2_with (fail)
    go_upto_region 9 with (fail)
    refine longer9 _ rfl B ba off k5 k6 cur (some ⟨g,0,none⟩) ns cs Al nl cl sums last (longerTo bs now k).1 (longerTo bs now k).2 _ wr _ rfl rfl rfl rfl ((hb.block _ (by omega)).trans HCUR.out) HC0.out HC1.out r5.out r6.out hll.1 hll.2 ?_ ?_ ?_ ?_ (by omega) (by have:=HK6.out;omega)
     (HO.out.below hb (Nat.le_refl _)) (HO2.out.below hb (Nat.le_refl _)) (by omega) (by omega) (by omega) ?_
    · intro e;have:=Option.some.inj e;simp at this;omega
    · intro e;have:=hAl _ e;omega
    · intro e;have:=Option.some.inj e;simp at this;have:=HK6.out;omega
    · intro e;have:=hAl _ e;have:=HK6.out;omega
    intro b W9 hd hc9 hf9
    obtain ⟨bt,bd⟩:=b
    simp only at hd
    subst hd
    go_wp2
    go_end0
    refine ⟨rfl,?_⟩
    rw [HLR.out]
    obtain ⟨A2,c2,A3,c3,g1,g2,g3⟩:=hf9
    exact ⟨((Below.chgT _ hb1).trans (Below.chgT _ hb)).trans hc9,A2,c2,A3,c3,g1.since (by omega),g2.since (by omega),g3⟩
end Go.Proofs.YtejjplhknacoiaaGreatDoor
end
section
namespace Go.Proofs
open Go.Shelf
def Tryz.revI_ren:Go.Shelf.Ren:=⟨fun|112=>107|n=>n,fun|28=>58|3=>3|4=>4|0=>0|n=>n,fun|n=>n⟩
theorem Tryz.revI:Go.Proofs.Lays.n112 Tryz.prog Tryz.revI_ren:={
 mixed:=by kernel_rfl
 f112:=Tryz.func107.trans (congrArg some (by kernel_rfl))
 t0:=Tryz.underlying0
 a0:=Tryz.isAgg0
 z0:=Tryz.sizeOf0
 v0:=Tryz.zeroValue0
 t3:=Tryz.underlying3
 a3:=Tryz.isAgg3
 z3:=Tryz.sizeOf3
 v3:=Tryz.zeroValue3
 t4:=Tryz.underlying4
 a4:=Tryz.isAgg4
 z4:=Tryz.sizeOf4
 v4:=Tryz.zeroValue4
 t28:=Tryz.underlying58
 a28:=Tryz.isAgg58
 z28:=Tryz.sizeOf58
 v28:=Tryz.zeroValue58 }
end Go.Proofs
end
section
namespace Go.Proofs.YtejjplhknacoiaaGreatDoor
open Go.RowKit Go.Proofs Go.Shelf
theorem flatMap_int (xs:List Int):xs.flatMap encInt=xs.map (Value.int .i64):=by
 induction xs with
 | nil=>rfl
 | cons x xs ih=>rw [List.flatMap_cons,ih];rfl
theorem Own.setAll {B n c g:Nat} {e:TypeId} {w:World} {xs:List Int} (h:Own encInt 1 e B w (some ⟨g,0,none⟩) n c xs) (ys:List Int) (hy:ys.length=n):
 Own encInt 1 e B (w.setCells g 0 (ys.map (Value.int .i64))) (some ⟨g,0,none⟩) n c ys∧w.grownBy (w.setCells g 0 (ys.map (Value.int .i64))) (some g):=by
 obtain ⟨h1,h2⟩:=ownsRow_setCells (ys.map (Value.int .i64)) 0 w _ h.own
 refine ⟨⟨hy,?_⟩,h2⟩
 have:setL (xs.flatMap encInt) 0 (ys.map (Value.int .i64))=ys.flatMap encInt:=by
  have hl:=h.len
  rw [flatMap_int,flatMap_int]
  apply List.ext_getElem?
  intro t
  rw [setL_get _ _ _ _ (by simp;omega)]
  split
  · rw [Nat.sub_zero]
  · rename_i hn
    have ht:n≤t:=by simp at hn;omega
    rw [List.getElem?_eq_none (by simp;omega),List.getElem?_eq_none (by simp;omega)]
 rw [←this]
 exact h1
theorem Reverse_own (B:Nat) (A:Option Addr) (n c:Nat) (xs:List Int) (w:World) (h:Own encInt 1 3 B w A n c xs) (hn:n≤1000000):
 Calls Tryz.prog 107 #[.slice A n c] w fun e w'=>e = .returned (.tuple #[])∧Own encInt 1 3 B w' A n c xs.reverse∧w.grownBy w' (blockOf A):=by
 have hlen:=h.len
 rcases h.form with ⟨rfl,rfl,rfl⟩|⟨g,rfl,_,hlt⟩
 · have hx:xs = []:=List.eq_nil_of_length_eq_zero hlen
   subst hx
   have:=Any.slices_Reverse_int_empty Tryz.revI none 0 w
   change Calls Tryz.prog 107 _ _ _ at this
   refine this.mono ?_
   rintro e w' ⟨rfl,rfl⟩
   exact ⟨rfl,h,World.grownBy.refl _ _⟩
 · have hcon:=Any.slices_Reverse_int_cells Tryz.revI g 0 n c xs w (by omega) (by omega) (fun j hj=>by
    rw [Nat.zero_add]
    have:=h.cells (fun _=>rfl) (i:=j) (List.getElem?_eq_getElem hj) 0 _ rfl
    rw [Nat.mul_one,Nat.add_zero] at this
    rw [this];simp [List.getD_eq_getElem?_getD,hj]) (fun j hj=>h.free _)
   change Calls Tryz.prog 107 _ _ _ at hcon
   refine hcon.mono ?_
   rintro e w' ⟨rfl,q,rfl⟩
   have htk:xs.take n=xs:=List.take_of_length_le (by omega)
   rw [htk]
   obtain ⟨h1,h2⟩:=(h.drewN q).setAll xs.reverse (by simp [hlen])
   exact ⟨rfl,h1,⟨h2.os,h2.tape,h2.output,h2.size,h2.block⟩⟩
def LastOk (bs:List Bound) (last:List Row):Prop:=∀ r∈last,r.length=60∧∀ v:Int,0≤v→v<60→0≤rAt r v∧rAt r v<bs.length
theorem back_any (B ba off:Nat) (Al:Option Addr) (nl cl:Nat) (last:List Row) (pts:Int) (A:Option Addr) (n c:Nat) (bs:List Bound) (p:Int) (w:World)
 (hc1:w.cell? ⟨ba,off+1,none⟩=some (.slice Al nl cl)) (hO:Own encRow 60 127 B w Al nl cl last) (hnl:1≤nl) (hnl2:nl≤100) (hlast:LastOk bs last) (hl:Rd encBound 4 w A n c bs) (hok:SysOk pts bs) (h1:0≤p) (h2:p<60):
 Calls Tryz.prog 65 #[.pointer (some ⟨ba,off,none⟩),.agg #[.int .i64 pts,.slice A n c],.int .i64 p] w fun e w'=> ∃ A' c',e = .returned (.slice A' (backTo bs last nl p).length c')∧Below w.heap.size w w'∧
  Own encInt 1 3 w.heap.size w' A' (backTo bs last nl p).length c' (backTo bs last nl p).reverse:=by
 obtain ⟨gl,rfl⟩:∃ gl,Al=some ⟨gl,0,none⟩:=by
  rcases hO.form with ⟨_,h,_⟩|⟨gl,h,_⟩
  · omega
  · exact ⟨gl,h⟩
 obtain ⟨w1,hw1⟩:∃ w1,w.alloc (.cells #[.int .i64 pts,.slice A n c] 84)=w1:=⟨_,rfl⟩
 have hb1:Below w.heap.size w w1:=(by rw [←hw1];exact (Below.refl _ w).alloc (Nat.le_refl _) _)
 have hz1:w1.heap.size=w.heap.size+1:=(by rw [←hw1];simp)
 have hsys:w1.heap[w.heap.size]? = some (.cells #[.int .i64 pts,.slice A n c] 84 (0,0)):=(by rw [←hw1];exact heap_alloc_new w _)
 have hbl:ba<w.heap.size:=block_lt_of_cell hc1
 have HL:=Lib.hid (hl.below hb1 (Nat.le_refl _))
 have HOK:=Lib.hid hok
 have HLO:=Lib.hid hlast
 have HLEN:=Lib.hid hl.len
 have HO:=Lib.hid (hO.below hb1 (Nat.le_refl _))
 have HC1:=Lib.hid ((hb1.cell (p:=⟨ba,off+1,none⟩) hbl).trans hc1)
 have HSYS:=Lib.hid hsys
 have HOL:=Lib.hid hO.len
 have hbl2:w.heap.size<w1.heap.size:=(by omega)
 have hbl3:ba<w1.heap.size:=(by omega)
 have hc1':=HC1.out
 obtain ⟨R,hR⟩:∃ R,backTo bs last nl p=R:=⟨_,rfl⟩
 have HR:=Lib.hid hR
 clear hl hok hlast hO hc1 hsys
 rw [hR]
 clear hR
 go_enter Tryz.func65,Tryz.ntmps65
 go_wp2
 clear hc1' hw1
 go_loopw [2,7,8] (fun s2 s7 s8 wr=> ∃ (kk:Nat) (q:Int) (A':Option Addr) (c':Nat) (out:List Int),kk<nl∧0≤q∧q<60∧s2 = .int .i64 q∧s7 = .slice A' out.length c'∧s8 = .int .i64 kk∧Below w1.heap.size w1 wr∧out.length≤100-kk∧Hid (out++backTo bs last (kk+1) q=R)∧Hid (Own encInt 1 3 w1.heap.size wr A' out.length c' out)) (fun _ _ s8 _=>(intOf s8).toNat)
 case atStart=>exact ⟨nl-1,p,none,0,[],by omega,h1,h2,rfl,rfl,by go_num,Below.refl _ _,by simp,(show _=_ by rw [List.nil_append,show nl-1+1=nl by omega];exact HR.out),(show Own _ _ _ _ _ _ _ _ _ from Own.none_ _ _ _ _ _)⟩
 case round=>
  obtain ⟨kk,q,A',c',out,hk,q1,q2,rfl,rfl,rfl,hb,hol,hout,hO⟩:=hrel
  have hsz:=hb.size
  by_cases h0:0<kk
  · obtain ⟨j,rfl⟩:∃ j,kk=j+1:=⟨kk-1,by omega⟩
    have hlt:j+1<last.length:=(by rw [HOL.out];exact hk)
    have hrow:last[j+1]? = some last[j+1]:=List.getElem?_eq_getElem hlt
    obtain ⟨r,hr⟩:∃ r,last[j+1]=r:=⟨_,rfl⟩
    rw [hr] at hrow
    obtain ⟨l60,lv⟩:=HLO.out r (List.mem_of_getElem? hrow)
    obtain ⟨v1,v2⟩:=lv q q1 q2
    have cR:=(HO.out.below hb (Nat.le_refl _)).cellRow (j:=q.toNat) hrow (by omega)
    have er:r.getD q.toNat 0=rAt r q:=rfl
    rw [er] at cR
    clear er
    have hx:last.getD (j+1) []=r:=(by rw [List.getD_eq_getElem?_getD,hrow];rfl)
    have hstep:backTo bs last (j+2) q=rAt r q::backTo bs last (j+1) (bs.getD (rAt r q).toNat default).src:=(by rw [backTo,hx])
    obtain ⟨i,hi⟩:∃ i:Nat,rAt r q=i:=⟨(rAt r q).toNat,by omega⟩
    rw [hi] at cR v1 v2 hstep
    have hin:i<n:=(by have:=HLEN.out;omega)
    obtain ⟨b2,off2,y,rfl,hbw2,hy,hcell2⟩:=HL.out.one hin
    have yc:w1.cell? ⟨b2,off2+i * 4,none⟩=some (.int .i64 y.src):=hcell2 0 _ rfl
    have y0:=(hb.cell (p:=⟨b2,off2+i * 4,none⟩) hbw2).trans yc
    have hys:=HOK.out.b y (List.mem_of_getElem? hy)
    have hp60:=HOK.out.p2
    have hyd:(bs.getD ((i:Int)).toNat default)=y:=(by rw [Int.toNat_natCast,List.getD_eq_getElem?_getD,hy];rfl)
    rw [hyd] at hstep
    have cA:=(hb.cell (p:=⟨ba,off+1,none⟩) hbl3).trans HC1.out
    have cS1:w1.cell? ⟨w.heap.size,1,none⟩=some (.slice (some ⟨b2,off2,none⟩) n c):=(by simp [World.cell?,HSYS.out])
    have cS:=(hb.cell (p:=⟨w.heap.size,1,none⟩) hbl2).trans cS1
    have HY:=Lib.hid yc
    have HCS:=Lib.hid cS1
    have HST:=Lib.hid hstep
    have o3:=hys.1
    have o4:y.src<60:=(by omega)
    have hjl:j+1<nl:=hk
    have hwl:w.heap.size<wr.heap.size:=(by omega)
    have hb2l:b2<wr.heap.size:=(by omega)
    clear yc cS1 hyd hstep hi hrow hr hx lv hy hcell2 hys l60 hp60 hlt
    have hO5:=hO.out.alloc (.cells #[.int .i64 (i:Int)] 3)
    have hrd5:=Rd.single (enc:=encInt) (k:=1) wr #[.int .i64 (i:Int)] 3 [(i:Int)] 1 rfl (by omega) (fun _=>rfl) (by simp [encInt])
    have hb5:Below w1.heap.size w1 (wr.alloc (.cells #[.int .i64 (i:Int)] 3)):=hb.alloc hsz _
    go_wp2_with (at_builtin;refine wpList_append_src elInt (fun _=>rfl) oneInt rfl _ _ rfl _ _ _ _ rfl rfl hO5 hrd5 (by omega) (by decide) (by simp;omega) ?_;intro A2 c2 w8 hO8 hg8 hA8
                 have hb8:=hb5.grown hg8 (by simp;omega) (fun j e=>hO5.ltB j e)
                 have cS:=(hb8.cell (p:=⟨w.heap.size,1,none⟩) hbl2).trans HCS.out
                 have y0:=(hb8.cell (p:=⟨b2,off2+i * 4,none⟩) hbw2).trans HY.out)
    go_roundw
    all_goals first
     | (simp [intOf];done)
     | exact ⟨j,y.src,A2,c2,out ++ [(i:Int)],by omega,o3,o4,rfl,by simp,rfl,hb8,by simp;omega,(show _=_ by
        have h9:=hout.out
        rw [show j+1+1=j+2 from rfl,HST.out] at h9
        rw [List.append_assoc];exact h9),(show Own _ _ _ _ _ _ _ _ _ by rw [List.length_append];exact hO8)⟩
  · have hk0:kk=0:=by omega
    subst hk0
    have hfin:out=R:=(by
     have h9:=hout.out
     rw [show backTo bs last (0+1) q = [] from rfl,List.append_nil] at h9;exact h9)
    subst hfin
    have HOO:=Lib.hid hO.out
    clear hO hout
    go_wp2_with (go_at_call 107;refine (Reverse_own _ A' _ c' out wr HOO.out (by omega)).mono ?_;rintro e w2 ⟨rfl,hO2,hg2⟩)
    go_ret
    exact ⟨A',c',rfl,(hb1.trans (hb.mono (by omega))).grown hg2 (by omega) (fun k e=>by have:=HOO.out.ltB k e;omega),hO2.mono (by omega)⟩
open Go.Sort
structure Hdr where
 A:Option Addr
 n:Nat
 c:Nat
deriving Inhabited
def hdrV (h:Hdr):Value:=.slice h.A h.n h.c
def encHdr (h:Hdr):List Value:=[hdrV h]
theorem oneHdr (h:Hdr):∀ u∈encHdr h,u.oneCell'=true:=by simp [encHdr,hdrV,Value.oneCell']
theorem elSets:ElemT Tryz.prog 98 37 1 24:=elemT_of (z:=.slice none 0 0) Tryz.underlying98 (by kernel_rfl) rfl (by decide)
theorem flatMap_hdr (xs:List Hdr):xs.flatMap encHdr=xs.map hdrV:=by
 induction xs with
 | nil=>rfl
 | cons x xs ih=>rw [List.flatMap_cons,ih];rfl
theorem Own.setHdr {B n c g:Nat} {e:TypeId} {w:World} {xs:List Hdr} (h:Own encHdr 1 e B w (some ⟨g,0,none⟩) n c xs) (ys:List Hdr) (hy:ys.length=n):
 Own encHdr 1 e B (w.setCells g 0 (ys.map hdrV)) (some ⟨g,0,none⟩) n c ys∧w.grownBy (w.setCells g 0 (ys.map hdrV)) (some g):=by
 obtain ⟨h1,h2⟩:=ownsRow_setCells (ys.map hdrV) 0 w _ h.own
 refine ⟨⟨hy,?_⟩,h2⟩
 have:setL (xs.flatMap encHdr) 0 (ys.map hdrV)=ys.flatMap encHdr:=by
  have hl:=h.len
  rw [flatMap_hdr,flatMap_hdr]
  apply List.ext_getElem?
  intro t
  rw [setL_get _ _ _ _ (by simp;omega)]
  split
  · rw [Nat.sub_zero]
  · rename_i hn
    have ht:n≤t:=by simp at hn;omega
    rw [List.getElem?_eq_none (by simp;omega),List.getElem?_eq_none (by simp;omega)]
 rw [←this]
 exact h1
theorem grow_below (W:World) (os:Array Obj):Below W.heap.size W (grow W os):=⟨rfl,rfl,rfl,by simp [grow],fun k hk=>by
 show (W.heap++os)[k]? = _
 rw [Array.getElem?_append_left hk]⟩
theorem grow_grown (W:World) (os:Array Obj):W.grownBy (grow W os) none:=⟨rfl,rfl,rfl,by simp [grow],fun k hk _=>(grow_below W os).block k hk⟩
theorem ent_cheap1:∀ args w,(callFunc 68 args).run Tryz.prog w = .ok (.enter 68 args) w:=enters_of Tryz.func68 (by kernel_rfl) rfl
theorem sortWorld_block {α:Type} [Inhabited α] (enc:α→Value) (w:World) (g m:Nat) (dk:Array α) (os:Array Obj) (b:Nat) (hb:b<w.heap.size) (hne:b≠g):(sortWorld enc w g 0 m dk os).heap[b]? = w.heap[b]? := by
 show ((w.heap.modify g (onCells (putCells enc 0 dk)))++os)[b]? = _
 rw [Array.getElem?_append_left (by simpa using hb),Array.getElem?_modify,if_neg (fun e=>hne e.symm)]
theorem sortWorld_size {α:Type} [Inhabited α] (enc:α→Value) (w:World) (g m:Nat) (dk:Array α) (os:Array Obj):w.heap.size≤(sortWorld enc w g 0 m dk os).heap.size:=by
 show _≤((w.heap.modify g (onCells (putCells enc 0 dk)))++os).size
 simp
theorem SortFunc_Sets (B:Nat) (A:Option Addr) (n c:Nat) (hs:List Hdr) (ls:List (List Place)) (w:World) (hO:Own encHdr 1 37 B w A n c hs) (hll:ls.length=n) (hn:n≤1000000)
 (hrd:∀ (i:Nat) (h:Hdr) (s:List Place),hs[i]? = some h→ls[i]? = some s→Rd encPlace 2 w h.A h.n h.c s∧(∀ b,blockOf h.A=some b→blockOf A≠some b)) (hnd:ls.Nodup):
 Calls Tryz.prog 67 #[.slice A n c,.func (.func 68) #[] #[]] w fun e w'=>e = .returned (.tuple #[])∧w.grownBy w' (blockOf A)∧
  ∃ hs',Own encHdr 1 37 B w' A n c hs'∧∀ (i:Nat) (h:Hdr) (s:List Place),hs'[i]? = some h→(sortLx ls)[i]? = some s→∃ j:Nat,hs[j]? = some h∧ls[j]? = some s:=by
 have hlen:=hO.len
 rcases hO.form with ⟨rfl,rfl,rfl⟩|⟨g,rfl,_,hlt⟩
 · have hx:hs = []:=List.eq_nil_of_length_eq_zero hlen
   subst hx
   have:=AnyF.slices_SortFunc_none { Tryz.sortPls with } none 0 (.func (.func 68) #[] #[]) w
   change Calls Tryz.prog 67 _ _ _ at this
   refine this.mono ?_
   rintro e w' ⟨rfl,rfl⟩
   exact ⟨rfl,World.grownBy.refl _ _,[],hO,fun i h s hi=>by simp at hi⟩
 · by_cases hn0:n=0
   · subst hn0
     have hx:hs = []:=List.eq_nil_of_length_eq_zero hlen
     subst hx
     have:=AnyF.slices_SortFunc_none { Tryz.sortPls with } (some ⟨g,0,none⟩) c (.func (.func 68) #[] #[]) w
     change Calls Tryz.prog 67 _ _ _ at this
     refine this.mono ?_
     rintro e w' ⟨rfl,rfl⟩
     exact ⟨rfl,World.grownBy.refl _ _,[],hO,fun i h s hi=>by simp at hi⟩
   · haveI:Inhabited (Fin n):=⟨⟨0,by omega⟩⟩
     obtain ⟨H,hH⟩:∃ H:Fin n→Hdr,∀ i:Fin n,hs[i.val]? = some (H i):=⟨fun i=>hs[i.val]'(by rw [hlen];exact i.2),fun i=>List.getElem?_eq_getElem (by rw [hlen];exact i.2)⟩
     obtain ⟨L,hL⟩:∃ L:Fin n→List Place,∀ i:Fin n,ls[i.val]? = some (L i):=⟨fun i=>ls[i.val]'(by rw [hll];exact i.2),fun i=>List.getElem?_eq_getElem (by rw [hll];exact i.2)⟩
     have hLinj:∀ i j,L i=L j→i=j:=fun i j e=>by
      have h1:=hL i
      have h2:=hL j
      rw [←e] at h2
      obtain ⟨a1,b1⟩:=List.getElem?_eq_some_iff.1 h1
      obtain ⟨a2,b2⟩:=List.getElem?_eq_some_iff.1 h2
      exact Fin.ext ((List.getElem_inj hnd).1 (b1.trans b2.symm))
     have hmapH:(List.finRange n).map H=hs:=by
      apply List.ext_getElem?
      intro i
      by_cases hi:i<n
      · rw [List.getElem?_map,List.getElem?_eq_getElem (by simpa using hi)]
        have:=hH ⟨i,hi⟩
        simp only at this
        rw [this];simp
      · rw [List.getElem?_eq_none (by simpa using hi),List.getElem?_eq_none (by omega)]
     have hmapL:(List.finRange n).map L=ls:=by
      apply List.ext_getElem?
      intro i
      by_cases hi:i<n
      · rw [List.getElem?_map,List.getElem?_eq_getElem (by simpa using hi)]
        have:=hL ⟨i,hi⟩
        simp only at this
        rw [this];simp
      · rw [List.getElem?_eq_none (by simpa using hi),List.getElem?_eq_none (by omega)]
     have swo:SWO (ltOf fun i j:Fin n=>cmpLx (L i) (L j)):=⟨fun i=>swoLx.irrefl (L i),fun i j k=>swoLx.trans (L i) (L j) (L k),fun i j k=>swoLx.ntrans (L i) (L j) (L k)⟩
     have tot:∀ i j:Fin n,(ltOf fun i j:Fin n=>cmpLx (L i) (L j)) i j=false→(ltOf fun i j:Fin n=>cmpLx (L i) (L j)) j i=false→i=j:=fun i j h1 h2=>hLinj i j (totLx (L i) (L j) h1 h2)
     have hds:(List.finRange n).toArray.size=n:=by simp
     have hHold:Holds (fun i=>hdrV (H i)) w g 0 (List.finRange n).toArray:=fun j hj=>by
      have hj':j<n:=by simpa using hj
      have hget:(List.finRange n).toArray[j]! = ⟨j,hj'⟩:=by rw [getElem!_pos _ j (by simpa using hj')];simp
      rw [hget,Nat.zero_add]
      have:=hO.cells (fun _=>rfl) (hH ⟨j,hj'⟩) 0 _ rfl
      rw [Nat.mul_one,Nat.add_zero] at this
      exact ⟨this,hO.free j⟩
     have hcmp:CmpLays1 Tryz.prog 68 #[] (fun i=>hdrV (H i)) (fun i j:Fin n=>cmpLx (L i) (L j)) g 0 (List.finRange n).toArray.size w:=fun m os dk _ x y=>by
      have key:∀ i:Fin n,Rd encPlace 2 (sortWorld (fun i=>hdrV (H i)) w g 0 m dk os) (H i).A (H i).n (H i).c (L i):=fun i=>by
       obtain ⟨r1,r2⟩:=hrd i.val (H i) (L i) (hH i) (hL i)
       refine ⟨r1.len,r1.big,r1.cap,fun h0=> ?_⟩
       obtain ⟨b,off,e,hb,hc⟩:=r1.at_ h0
       have hne:b≠g:=fun e2=>r2 b (by rw [e];rfl) (by rw [e2];rfl)
       refine ⟨b,off,e,Nat.lt_of_lt_of_le hb (sortWorld_size _ _ _ _ _ _),fun i x hx j u hu=> ?_⟩
       rw [←hc i x hx j u hu]
       unfold World.cell?
       rw [sortWorld_block _ _ _ _ _ _ b hb hne]
      exact (cheap1_any _ _ _ _ _ _ _ _ _ (key x) (key y)).mono fun _ _ ⟨he,q,os',h⟩=>⟨he,q,os',h⟩
     have hcon:=Any.slices_SortFunc_total Tryz.sortPls (fun i:Fin n=>hdrV (H i)) (fun _=>rfl) (fun i j:Fin n=>cmpLx (L i) (L j)) swo 68 #[] g 0 c (List.finRange n).toArray w ent_cheap1 hcmp hHold hlt (by rw [hds];omega) tot
     change Calls Tryz.prog 67 _ _ _ at hcon
     rw [hds] at hcon
     refine hcon.mono ?_
     rintro e w' ⟨rfl,q,os,rfl⟩
     obtain ⟨S,hS⟩:∃ S,(List.finRange n).toArray.toList.mergeSort (fun x y=> !(ltOf fun i j:Fin n=>cmpLx (L i) (L j)) y x)=S:=⟨_,rfl⟩
     rw [hS]
     have hperm:S.Perm (List.finRange n):=by rw [←hS];simpa using List.mergeSort_perm (List.finRange n) _
     have hSl:S.length=n:=by rw [hperm.length_eq];simp
     have hpw:S.Pairwise (fun x y=>geLx (L x) (L y)=true):=by
      rw [←hS]
      refine List.pairwise_mergeSort (le:=fun x y:Fin n=> !(ltOf fun i j:Fin n=>cmpLx (L i) (L j)) y x) ?_ ?_ _
      · intro a b c h1 h2
        have:=swoLx.ntrans (L c) (L b) (L a)
        simp only [Bool.not_eq_true'] at h1 h2 ⊢
        exact this h2 h1
      · intro a b
        rw [Bool.or_eq_true,Bool.not_eq_true',Bool.not_eq_true']
        rcases lexLt_tri (L a) (L b) with e|e|e
        · exact .inl (ltLxF.2 (fun h=>lexLt_irrefl _ (lexLt_trans e h)))
        · exact .inl (ltLxF.2 (by rw [e];exact lexLt_irrefl _))
        · exact .inr (ltLxF.2 (fun h=>lexLt_irrefl _ (lexLt_trans e h)))
     have hsorted:sortLx ls=S.map L:=by
      refine sortLx_eq ?_ (List.pairwise_map.2 hpw)
      rw [←hmapL]
      exact (hperm.map L).symm
     have hbr:=Lib.putRow_eq_setCells (fun i:Fin n=>hdrV (H i)) w g 0 (List.finRange n).toArray S q hHold (by rw [hds];exact hSl)
     have hworld:sortWorld (fun i=>hdrV (H i)) w g 0 q S.toArray os=grow ((w.drewN q).setCells g 0 ((S.map H).map hdrV)) os:=by
      unfold sortWorld
      rw [hbr,List.map_map];rfl
     rw [hworld]
     obtain ⟨o1,o2⟩:=(hO.drewN q).setHdr (S.map H) (by rw [List.length_map,hSl])
     refine ⟨rfl,?_,S.map H,o1.below (grow_below _ os) (Nat.le_refl _),fun i h s hi hsi=> ?_⟩
     · have o3:w.grownBy ((w.drewN q).setCells g 0 ((S.map H).map hdrV)) (some g):=⟨o2.os,o2.tape,o2.output,o2.size,o2.block⟩
       have g3:=grow_grown ((w.drewN q).setCells g 0 ((S.map H).map hdrV)) os
       exact o3.trans ⟨g3.os,g3.tape,g3.output,g3.size,fun k hk _=>g3.block k hk (by simp)⟩
     · rw [hsorted,List.getElem?_map] at hsi
       rw [List.getElem?_map] at hi
       cases hx:S[i]? with
       | none=>rw [hx] at hi;cases hi
       | some x=>
         rw [hx] at hi hsi
         cases hi
         cases hsi
         exact ⟨x.val,hH x,hL x⟩
def SetsAt (B:Nat) (W:World) (A:Option Addr) (c:Nat) (sets:List (List Place)):Prop:=
 ∃ hs:List Hdr,Own encHdr 1 37 B W A sets.length c hs∧∀ (i:Nat) (h:Hdr) (s:List Place),hs[i]? = some h→sets[i]? = some s→h.n=s.length∧Own encPlace 2 36 B W h.A s.length h.c s
theorem SetsAt.none_ (B:Nat) (W:World):SetsAt B W none 0 []:=⟨[],Own.none_ _ _ _ _ _,fun i h s hi=>by simp at hi⟩
theorem SetsAt.grow {B B':Nat} {W W':World} {A:Option Addr} {c:Nat} {sets:List (List Place)} (h:SetsAt B W A c sets) (hb:Below W.heap.size W W') (hB:B'≤B):SetsAt B' W' A c sets:=by
 obtain ⟨hs,h1,h2⟩:=h
 refine ⟨hs,(h1.below hb (Nat.le_refl _)).mono hB,fun i x s hi hs'=> ?_⟩
 obtain ⟨a,b⟩:=h2 i x s hi hs'
 exact ⟨a,(b.below hb (Nat.le_refl _)).mono hB⟩
theorem SetsAt.kept {B:Nat} {W W':World} {A:Option Addr} {c:Nat} {sets:List (List Place)} (h:SetsAt B W A c sets) {row:Option Nat} (hg:W.grownBy W' row) (hr:∀ r,row=some r→∃ cur e fr,W.heap[r]? = some (.cells cur e fr)∧e≠37∧e≠36):SetsAt B W' A c sets:=by
 obtain ⟨hs,h1,h2⟩:=h
 have key:∀ {α:Type} {enc:α→List Value} {k n c:Nat} {e:TypeId} {A:Option Addr} {xs:List α},Own enc k e B W A n c xs→(e=37∨e=36)→Own enc k e B W' A n c xs:=by
  intro α enc k n c e A xs hO he
  refine hO.kept hg ?_
  cases row with
  | none=>exact noneRow _
  | some r=>
    obtain ⟨cur,e',fr,h3,h4,h5⟩:=hr r rfl
    refine hO.ne_type h3 (fun e2=> ?_)
    rcases he with rfl|rfl
    · exact h4 e2
    · exact h5 e2
 refine ⟨hs,key h1 (.inl rfl),fun i x s hi hs'=> ?_⟩
 obtain ⟨a,b⟩:=h2 i x s hi hs'
 exact ⟨a,key b (.inr rfl)⟩
theorem SetsAt.push {B:Nat} {W W':World} {A A2:Option Addr} {c c2:Nat} {sets:List (List Place)} {hs:List Hdr} (h2:∀ (i:Nat) (h:Hdr) (s:List Place),hs[i]? = some h→sets[i]? = some s→h.n=s.length∧Own encPlace 2 36 B W h.A s.length h.c s) (h1:Own encHdr 1 37 B W A sets.length c hs) {x:Hdr} {s0:List Place} (hx:x.n=s0.length) (hxo:Own encPlace 2 36 B W x.A s0.length x.c s0)
 (hg:W.grownBy W' (blockOf A)) (h3:Own encHdr 1 37 B W' A2 (sets.length+1) c2 (hs ++ [x])):SetsAt B W' A2 c2 (sets ++ [s0]):=by
 have key:∀ {n c:Nat} {A':Option Addr} {xs:List Place},Own encPlace 2 36 B W A' n c xs→Own encPlace 2 36 B W' A' n c xs:=fun hO=>hO.kept hg (hO.apart h1 (by decide))
 have hlen:=h1.len
 refine ⟨hs ++ [x],by rw [List.length_append];exact h3,fun i y s hi hs'=> ?_⟩
 by_cases hlt:i<sets.length
 · rw [List.getElem?_append_left (by omega)] at hi
   rw [List.getElem?_append_left hlt] at hs'
   obtain ⟨a,b⟩:=h2 i y s hi hs'
   exact ⟨a,key b⟩
 · have hie:i=sets.length:=by
    have:=(List.getElem?_eq_some_iff.1 hs').1
    rw [List.length_append,List.length_singleton] at this;omega
   subst hie
   rw [List.getElem?_append_right (Nat.le_refl _),Nat.sub_self] at hs'
   rw [←hlen,List.getElem?_append_right (Nat.le_refl _),Nat.sub_self] at hi
   cases hi
   cases hs'
   exact ⟨hx,key hxo⟩
theorem SetsAt.sort {B:Nat} {w:World} {A:Option Addr} {c:Nat} {sets:List (List Place)} (h:SetsAt B w A c sets) (hn:sets.length≤1000000) (hnd:sets.Nodup) (hsm:∀ s∈sets,s.length≤1000000):
 Calls Tryz.prog 67 #[.slice A sets.length c,.func (.func 68) #[] #[]] w fun e w'=>e = .returned (.tuple #[])∧w.grownBy w' (blockOf A)∧SetsAt B w' A c (sortLx sets)∧(∀ k,blockOf A=some k→B≤k):=by
 obtain ⟨hs,h1,h2⟩:=h
 refine (SortFunc_Sets B A sets.length c hs sets w h1 rfl hn (fun i x s hi hs'=> ?_) hnd).mono ?_
 · obtain ⟨a,b⟩:=h2 i x s hi hs'
   refine ⟨?_,fun q hq e=> ?_⟩
   · rw [a];exact b.rd (fun _=>rfl) (by have:=hsm s (List.mem_of_getElem? hs');omega)
   · rcases b.apart h1 (by decide) with e2|e2
     · rw [e2] at hq;cases hq
     · exact e2 (hq.trans e.symm)
 · rintro e w' ⟨rfl,hg,hs',o1,o2⟩
   refine ⟨rfl,hg,⟨hs',by rw [(sortLx_perm sets).length_eq];exact o1,fun i x s hi hsi=> ?_⟩,fun k hk=>h1.ltB k hk⟩
   obtain ⟨j,a1,a2⟩:=o2 i x s hi hsi
   obtain ⟨b1,b2⟩:=h2 j x s a1 a2
   exact ⟨b1,b2.kept hg (b2.apart h1 (by decide))⟩
end Go.Proofs.YtejjplhknacoiaaGreatDoor
end

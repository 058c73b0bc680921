/- Contracts that the laws lean on: Long, RevLay, Back, CircM. -/
import Derived.Test.YtpmkgmilfifkpaaGreatDoorDE11
import Derived.Deep.Cut
import Derived.Test.YtpmkgmilfifkpaaGreatDoorChecked
import Derived.Shelf.Slices.Cells
set_option maxRecDepth 100000
set_option maxHeartbeats 4000000
section
namespace Go.Proofs.YtpmkgmilfifkpaaGreatDoor
open Go.RowKit Go.Proofs Go.Shelf
theorem longerTo_len (bs:List Bound) (now:Row):∀ k,(longerTo bs now k).1.length=60∧(longerTo bs now k).2.length=60
 | 0=>by simp [longerTo,emptyRow,zeroRow]
 | k+1=>by
   have ih:=longerTo_len bs now k
   unfold longerTo
   split
   · unfold longerStep
     split<;>simp [ih.1,ih.2]
   · exact ih
theorem longerTo_hit {bs:List Bound} {now:Row} {k:Nat} {b:Bound} (hb:bs[k]? = some b) (h1:rAt now b.src<noneV) (h2:rAt now b.src+b.most<rAt (longerTo bs now k).1 b.dst):longerTo bs now (k+1)=(rPut (longerTo bs now k).1 b.dst (rAt now b.src+b.most),rPut (longerTo bs now k).2 b.dst k):=by
 rw [longerTo,hb]
 simp only [longerStep]
 rw [if_pos (by simp [h1,h2])]
theorem longerTo_miss {bs:List Bound} {now:Row} {k:Nat} {b:Bound} (hb:bs[k]? = some b) (h:¬(rAt now b.src<noneV∧rAt now b.src+b.most<rAt (longerTo bs now k).1 b.dst)):longerTo bs now (k+1)=longerTo bs now k:=by
 rw [longerTo,hb]
 simp only [longerStep]
 rw [if_neg (by simpa using h)]
theorem below_chg {B:Nat} {w0 w W:World} {T:Nat→Prop} (h:Below B w0 w) (hc:ChgT T w W) (hT:∀ k,T k→B≤k) (hB:B≤w.heap.size):Below B w0 W:=
 ⟨hc.os.trans h.os,hc.tape.trans h.tape,hc.output.trans h.output,Nat.le_trans h.size hc.size,fun k hk=>(hc.block k (by omega) (fun t=>by have:=hT k t;omega)).trans (h.block k hk)⟩
theorem rowAt?_chg {w W:World} {T:Nat→Prop} {b n:Nat} {c:Array Value} (h:rowAt? w b n=some c) (hc:ChgT T w W) (hT:¬T b):rowAt? W b n=some c:=by
 obtain ⟨t,h1,h2⟩:=rowAt?_heap h
 exact rowAt?_of ((hc.block b (Array.getElem?_eq_some_iff.1 h1).1 hT).trans h1) h2
def LongPost (w w':World) (B ba off:Nat) (cur:Array Value) (As:Option Addr) (ns:Nat) (Al:Option Addr) (nl:Nat) (sums last:List Row) (nx lx:Row):Prop:=
 ChgT (tchL ba As Al) w w'∧∃ A2 c2 A3 c3,Grown1 151 w w' B As A2 ns c2 sums nx∧Grown1 150 w w' B Al A3 nl c3 last lx∧w'.heap[ba]? = some (.cells ((cur.setIfInBounds off (.slice A2 (ns+1) c2)).setIfInBounds (off+1) (.slice A3 (nl+1) c3)) 174 (0,0))
theorem Grown1.since {t:TypeId} {w0 w1 W:World} {B n c2:Nat} {A A2:Option Addr} {xs:List Row} {x:Row} (h:Grown1 t w1 W B A A2 n c2 xs x) (hs:w0.heap.size≤w1.heap.size):Grown1 t w0 W B A A2 n c2 xs x:=
 ⟨h.1,h.2.imp id (fun ⟨k,a,b⟩=>⟨k,Nat.le_trans hs a,b⟩)⟩
theorem longer_any (B ba off g ns cs:Nat) (cur:Array Value) (Al:Option Addr) (nl cl:Nat) (sums last:List Row) (now:Row) (pts:Int) (A:Option Addr) (n c:Nat) (bs:List Bound) (w:World)
 (hcur:w.heap[ba]? = some (.cells cur 174 (0,0))) (hc0:cur[off]? = some (.slice (some ⟨g,0,none⟩) ns cs)) (hc1:cur[off+1]? = some (.slice Al nl cl))
 (hO:Own encRow 60 151 B w (some ⟨g,0,none⟩) ns cs sums) (hO2:Own encRow 60 150 B w Al nl cl last) (hB:B≤w.heap.size) (hns:1≤ns) (hns2:ns≤100) (hnl:nl≤100)
 (hnow:sums[ns-1]? = some now) (hn60:now.length=60) (hbnd:∀ v:Int,0≤v→v<60→ -1000000000≤rAt now v) (hl:Rd encBound 4 w A n c bs) (hok:SysOk pts bs):
 Calls Tryz.prog 112 #[.pointer (some ⟨ba,off,none⟩),.agg #[.int .i64 pts,.slice A n c]] w fun e w'=>e = .returned (.tuple #[])∧LongPost w w' B ba off cur (some ⟨g,0,none⟩) ns Al nl sums last (longerR bs now).1 (longerR bs now).2:=by
 obtain ⟨w1,hw1⟩:∃ w1,w.alloc (.cells #[.int .i64 pts,.slice A n c] 83)=w1:=⟨_,rfl⟩
 have hgr1:w.grownBy w1 none:=(by rw [←hw1];exact World.grownBy_alloc _ _ _)
 have hb1:Below w.heap.size w w1:=(by rw [←hw1];exact (Below.refl _ w).alloc (Nat.le_refl _) _)
 have hz1:w1.heap.size=w.heap.size+1:=(by rw [←hw1];simp)
 have hsys:w1.heap[w.heap.size]? = some (.cells #[.int .i64 pts,.slice A n c] 83 (0,0)):=(by rw [←hw1];exact heap_alloc_new w _)
 have hbl:ba<w.heap.size:=(Array.getElem?_eq_some_iff.1 hcur).1
 have hgl:g<w.heap.size:=hO.lt.2
 have hcur1:=(hgr1.block ba hbl (by simp)).trans hcur
 have hr1:w1.rangeAt g ((ns-1) * 60) (encRow now):=range_grown (hO.range hnow) hgr1 (by simp)
 have HL:=Lib.hid (hl.below hb1 (Nat.le_refl _))
 have HOK:=Lib.hid hok
 have HBND:=Lib.hid hbnd
 have hcell1:w1.cell? ⟨ba,off,none⟩=some (.slice (some ⟨g,0,none⟩) ns cs):=(by simp [World.cell?,hcur1,hc0])
 have hn400:n≤400:=(by have:=hok.len;have:=hl.len;omega)
 have HLEN:=Lib.hid hl.len
 have HO:=Lib.hid (hO.kept hgr1 (noneRow _))
 have HO2:=Lib.hid (hO2.kept hgr1 (noneRow _))
 have HC0:=Lib.hid hc0
 have HC1:=Lib.hid hc1
 have HCUR:=Lib.hid hcur1
 have HN60:=Lib.hid hn60
 have HW1:=Lib.hid hw1
 clear hl hok hbnd hO hO2 hnow hcur hc0 hc1
 go_enter Tryz.func112,Tryz.ntmps112
 go_upto_region 1 with (fail)
 refine longer1 _ rfl ba off g ns cs now _ w1 _ rfl rfl hcell1 hr1 hn60 hns (by omega) (by omega) (by omega) ?_
 intro W k4 k5 hbW hk4 hk5 hk45 hr4 hr5
 simp only [List.setIfInBounds_toArray,List.set_cons_succ,List.set_cons_zero]
 obtain ⟨W6,hW6⟩:∃ W6,W.alloc (.cells (rowA zeroRow) 150)=W6:=⟨_,rfl⟩
 obtain ⟨k6,hk6⟩:∃ k6,W.heap.size=k6:=⟨_,rfl⟩
 have hgr6:W.grownBy W6 none:=(by rw [←hW6];exact World.grownBy_alloc _ _ _)
 have hb6:Below w1.heap.size w1 W6:=(by rw [←hW6];exact hbW.alloc hbW.size _)
 have hr46:=rowAt?_grown hr4 hgr6 (by simp)
 have hr56:=rowAt?_grown hr5 hgr6 (by simp)
 have hr66:rowAt? W6 k6 60=some (rowA zeroRow):=(by rw [←hW6,←hk6,rowAt?_alloc_at _ _ rfl,if_pos (by rw [rowA_size,zeroRow_len])])
 have hsys6:=(hb6.block _ (by omega)).trans hsys
 have hk4l:=rowAt?_lt hr4
 have hk5l:=rowAt?_lt hr5
 have b0:W6.cell? ⟨w.heap.size,0,none⟩=some (.int .i64 pts):=(by simp [World.cell?,hsys6])
 have b1:W6.cell? ⟨w.heap.size,1,none⟩=some (.slice A n c):=(by simp [World.cell?,hsys6])
 have H46:=Lib.hid hr46
 have H56:=Lib.hid hr56
 have H66:=Lib.hid hr66
 have HK6:=Lib.hid hk6
 have HHW6:=Lib.hid hW6
 have HSYS:=Lib.hid hsys6
 clear hr4 hr5 hr46 hr56 hr66 hsys hsys6 hcell1 hr1 hw1 hcur1 hn60
 go_wp2_with (refine wpL_alloc (t:=150) rfl rfl zero206 ?_;rw [HHW6.out,HK6.out];clear hW6 hk6)
 go_loopw [25] (fun i wr=> ∃ k:Nat,k≤n∧i = .int .i64 k∧Below w1.heap.size w1 wr∧k6<wr.heap.size∧Hid (rowAt? wr k4 60=some (rowA now))∧Hid (rowAt? wr k5 60=some (rowA (longerTo bs now k).1))∧Hid (rowAt? wr k6 60=some (rowA (longerTo bs now k).2))) (fun i _=>n-(intOf i).toNat)
 case atStart=>exact ⟨0,Nat.zero_le _,rfl,hb6,rowAt?_lt H66.out,(show _=_ from H46.out),(show _=_ from H56.out),(show _=_ from H66.out)⟩
 case round=>
  obtain ⟨k,hk,rfl,hb,hz6,r4,r5,r6⟩:=hrel
  by_cases hlt:k<n
  · obtain ⟨b,off,x,rfl,hbw,hx,hcell⟩:=(HL.out.below hb (Nat.le_refl _)).one hlt
    have c0:wr.cell? ⟨b,off+k * 4,none⟩=some (.int .i64 x.src):=hcell 0 _ rfl
    have c1:wr.cell? ⟨b,off+k * 4+1,none⟩=some (.int .i64 x.dst):=hcell 1 _ rfl
    have c2:wr.cell? ⟨b,off+k * 4+2,none⟩=some (.int .i64 x.most):=hcell 2 _ rfl
    have c3:wr.cell? ⟨b,off+k * 4+3,none⟩=some (.int .i64 x.by_):=hcell 3 _ rfl
    obtain ⟨o1,o2,o3,o4,o5,o6,o7⟩:=HOK.out.b x (List.mem_of_getElem? hx)
    have hp60:=HOK.out.p2
    have hll:=longerTo_len bs now k
    have hcs:=rowAt?_int r4.out (i:=x.src.toNat) (by have:=HN60.out;omega)
    have hcd:=rowAt?_int r5.out (i:=x.dst.toNat) (by rw [hll.1];omega)
    have hc6:=rowAt?_int r6.out (i:=x.dst.toNat) (by rw [hll.2];omega)
    have hf5:=rowAt?_free r5.out x.dst.toNat
    have hf6:=rowAt?_free r6.out x.dst.toNat
    have hlo:=HBND.out x.src o1 (by omega)
    have es:now.getD x.src.toNat 0=rAt now x.src:=rfl
    have ed:(longerTo bs now k).1.getD x.dst.toNat 0=rAt (longerTo bs now k).1 x.dst:=rfl
    rw [es] at hcs
    rw [ed] at hcd
    clear es ed
    have hhit:=longerTo_hit (now:=now) hx
    have hmiss:=longerTo_miss (now:=now) hx
    obtain ⟨xs,hxs⟩:∃ xs,rAt now x.src=xs:=⟨_,rfl⟩
    obtain ⟨xd,hxd⟩:∃ xd,rAt (longerTo bs now k).1 x.dst=xd:=⟨_,rfl⟩
    rw [hxs] at hcs hlo hhit hmiss
    rw [hxd] at hcd hhit hmiss
    have HHIT:=Lib.hid hhit
    have HMISS:=Lib.hid hmiss
    have q4:k4<wr.heap.size:=rowAt?_lt r4.out
    have q5:k5<wr.heap.size:=rowAt?_lt r5.out
    have q0:w.heap.size<wr.heap.size:=(by omega)
    have HBX:=Lib.hid (show Below w1.heap.size w1 (wr.alloc (.cells #[.int .i64 x.src,.int .i64 x.dst,.int .i64 x.most,.int .i64 x.by_] 50)) from hb.alloc (by omega) _)
    clear hx hcell hxs hxd hhit hmiss hll
    by_cases t1:xs<noneV
    · unfold noneV at t1
      have d1:decide (xs<1099511627776)=true:=by simpa using t1
      have hw:IntKind.i64.wrap (xs+x.most)=xs+x.most:=by simp [IntKind.wrap,IntKind.bits,IntKind.signed];omega
      by_cases t2:xs+x.most<xd
      · have d2:decide (xs+x.most<xd)=true:=by simpa using t2
        have hw':=Lib.hid hw
        clear hw
        go_wp2_with (fail)
        have hw:=hw'.out
        go_quiet (fail)
        clear hw
        go_upto_region 7 with (fail)
        have q6:k5<k6:=(by have:=HK6.out;omega)
        have q7:k4<k6:=(by have:=HK6.out;omega)
        refine longer7 _ rfl wr.heap.size k4 k5 k6 k x xs (longerTo bs now k).1 (longerTo bs now k).2 _ _ _ rfl rfl rfl rfl rfl rfl (by simp) (by simp) (by simp) ?_ ?_ ?_ o1 (by omega) o3 (by omega) hw'.out (by omega) (by omega) (by omega) (by omega) (by omega) ?_
        · show World.cell? (wr.alloc _) _=_
          exact cell_grown (row:=none) hcs (World.grownBy_alloc _ _ _) (by simp)
        · rw [rowAt?_drewN,rowAt?_alloc_past _ (by omega)];exact r5.out
        · rw [rowAt?_drewN,rowAt?_alloc_past _ (by omega)];exact r6.out
        intro W9 hc9 n5 n6
        simp only [List.setIfInBounds_toArray,List.set_cons_succ,List.set_cons_zero]
        have hb9:=below_chg (below_drewN' HBX.out _) hc9 (fun q e=>by have:=HK6.out;have:=hbW.size;omega) (by simp;omega)
        have n4:=rowAt?_chg (n:=60) (b:=k4) (by rw [rowAt?_drewN,rowAt?_alloc_past _ (by omega)];exact r4.out) hc9 (by omega)
        have hz9:k6<W9.heap.size:=rowAt?_lt n6
        have N4:=Lib.hid n4
        have N5:=Lib.hid n5
        have N6:=Lib.hid n6
        have HB9:=Lib.hid hb9
        have HIT:=Lib.hid (HHIT.out (show xs<noneV from t1) t2)
        clear n4 n5 n6 hc9 hb9 hcs hcd hc6 hf5 hf6 c0 c1 c2 c3
        go_wp2
        go_roundw
        all_goals first
         | (simp [intOf];omega)
         | exact ⟨k+1,by omega,by go_num,HB9.out,hz9,N4,(show _=_ by rw [HIT.out];exact N5.out),(show _=_ by rw [HIT.out];exact N6.out)⟩
      · have d2:decide (xs+x.most<xd)=false:=by simpa using t2
        have hw':=Lib.hid hw
        clear hw
        go_wp2_with (fail)
        have hw:=hw'.out
        go_quiet (fail)
        clear hw
        go_wp2
        go_roundw
        all_goals first
         | (simp [intOf];omega)
         | exact ⟨k+1,by omega,by go_num,below_drewN' HBX.out _,by simp;omega,(show _=_ by rw [rowAt?_drewN,rowAt?_alloc_past _ (by omega)];exact r4.out),(show _=_ by rw [HMISS.out (fun h=>by unfold noneV at h;omega),rowAt?_drewN,rowAt?_alloc_past _ (by omega)];exact r5.out),(show _=_ by rw [HMISS.out (fun h=>by unfold noneV at h;omega),rowAt?_drewN,rowAt?_alloc_past _ (by omega)];exact r6.out)⟩
    · unfold noneV at t1
      have d1:decide (xs<1099511627776)=false:=by simpa using t1
      go_wp2_with (fail)
      go_quiet (fail)
      go_wp2
      go_roundw
      all_goals first
       | (simp [intOf];omega)
       | exact ⟨k+1,by omega,by go_num,below_drewN' HBX.out _,by simp;omega,(show _=_ by rw [rowAt?_drewN,rowAt?_alloc_past _ (by omega)];exact r4.out),(show _=_ by rw [HMISS.out (fun h=>by unfold noneV at h;omega),rowAt?_drewN,rowAt?_alloc_past _ (by omega)];exact r5.out),(show _=_ by rw [HMISS.out (fun h=>by unfold noneV at h;omega),rowAt?_drewN,rowAt?_alloc_past _ (by omega)];exact r6.out)⟩
  · have hkn:k=n:=by omega
    subst hkn
    clear hlt hk
    have hlr:(longerR bs now)=longerTo bs now k:=(by unfold longerR;rw [HLEN.out])
    have HLR:=Lib.hid hlr
    clear hlr
    have hll:=longerTo_len bs now k
    have hAl:∀ q,blockOf Al=some q→q≤w.heap.size:=(fun q e=>by
     rcases HO2.out.form with ⟨rfl,_⟩|⟨g2,rfl,_,hlt2⟩
     · cases e
     · have e2:g2=q:=Option.some.inj e
       omega)
    have q4:k4<wr.heap.size:=rowAt?_lt r4.out
    have q5:k5<wr.heap.size:=rowAt?_lt r5.out
    have hbx:=hbW.size
    go_wp2_with (fail)
    go_upto_region 9 with (fail)
    refine longer9 _ rfl B ba off k5 k6 cur (some ⟨g,0,none⟩) ns cs Al nl cl sums last (longerTo bs now k).1 (longerTo bs now k).2 _ wr _ rfl rfl rfl rfl ((hb.block _ (by omega)).trans HCUR.out) HC0.out HC1.out r5.out r6.out hll.1 hll.2 ?_ ?_ ?_ ?_ (by omega) (by have:=HK6.out;omega)
     (HO.out.below hb (Nat.le_refl _)) (HO2.out.below hb (Nat.le_refl _)) (by omega) (by omega) (by omega) ?_
    · intro e;have:=Option.some.inj e;simp at this;omega
    · intro e;have:=hAl _ e;omega
    · intro e;have:=Option.some.inj e;simp at this;have:=HK6.out;omega
    · intro e;have:=hAl _ e;have:=HK6.out;omega
    intro b W9 hd hc9 hf9
    obtain ⟨bt,bd⟩:=b
    simp only at hd
    subst hd
    go_wp2
    go_end0
    refine ⟨rfl,?_⟩
    rw [HLR.out]
    obtain ⟨A2,c2,A3,c3,g1,g2,g3⟩:=hf9
    exact ⟨((Below.chgT _ hb1).trans (Below.chgT _ hb)).trans hc9,A2,c2,A3,c3,g1.since (by omega),g2.since (by omega),g3⟩
end Go.Proofs.YtpmkgmilfifkpaaGreatDoor
end
section
namespace Go.Proofs
open Go.Shelf
def Tryz.revI_ren:Go.Shelf.Ren:=⟨fun|112=>141|n=>n,fun|28=>51|3=>3|4=>4|0=>0|n=>n,fun|n=>n⟩
theorem Tryz.revI:Go.Proofs.Lays.n112 Tryz.prog Tryz.revI_ren:={
 mixed:=by kernel_rfl
 f112:=Tryz.func141.trans (congrArg some (by kernel_rfl))
 t0:=Tryz.underlying0
 a0:=Tryz.isAgg0
 z0:=Tryz.sizeOf0
 v0:=Tryz.zeroValue0
 t3:=Tryz.underlying3
 a3:=Tryz.isAgg3
 z3:=Tryz.sizeOf3
 v3:=Tryz.zeroValue3
 t4:=Tryz.underlying4
 a4:=Tryz.isAgg4
 z4:=Tryz.sizeOf4
 v4:=Tryz.zeroValue4
 t28:=Tryz.underlying51
 a28:=Tryz.isAgg51
 z28:=Tryz.sizeOf51
 v28:=Tryz.zeroValue51 }
end Go.Proofs
end
section
namespace Go.Proofs.YtpmkgmilfifkpaaGreatDoor
open Go.RowKit Go.Proofs Go.Shelf
theorem flatMap_int (xs:List Int):xs.flatMap encInt=xs.map (Value.int .i64):=by
 induction xs with
 | nil=>rfl
 | cons x xs ih=>rw [List.flatMap_cons,ih];rfl
theorem Own.setAll {B n c g:Nat} {e:TypeId} {w:World} {xs:List Int} (h:Own encInt 1 e B w (some ⟨g,0,none⟩) n c xs) (ys:List Int) (hy:ys.length=n):
 Own encInt 1 e B (w.setCells g 0 (ys.map (Value.int .i64))) (some ⟨g,0,none⟩) n c ys∧w.grownBy (w.setCells g 0 (ys.map (Value.int .i64))) (some g):=by
 obtain ⟨h1,h2⟩:=ownsRow_setCells (ys.map (Value.int .i64)) 0 w _ h.own
 refine ⟨⟨hy,?_⟩,h2⟩
 have:setL (xs.flatMap encInt) 0 (ys.map (Value.int .i64))=ys.flatMap encInt:=by
  have hl:=h.len
  rw [flatMap_int,flatMap_int]
  apply List.ext_getElem?
  intro t
  rw [setL_get _ _ _ _ (by simp;omega)]
  split
  · rw [Nat.sub_zero]
  · rename_i hn
    have ht:n≤t:=by simp at hn;omega
    rw [List.getElem?_eq_none (by simp;omega),List.getElem?_eq_none (by simp;omega)]
 rw [←this]
 exact h1
theorem Reverse_own (B:Nat) (A:Option Addr) (n c:Nat) (xs:List Int) (w:World) (h:Own encInt 1 3 B w A n c xs) (hn:n≤1000000):
 Calls Tryz.prog 141 #[.slice A n c] w fun e w'=>e = .returned (.tuple #[])∧Own encInt 1 3 B w' A n c xs.reverse∧w.grownBy w' (blockOf A):=by
 have hlen:=h.len
 rcases h.form with ⟨rfl,rfl,rfl⟩|⟨g,rfl,_,hlt⟩
 · have hx:xs = []:=List.eq_nil_of_length_eq_zero hlen
   subst hx
   have:=Any.slices_Reverse_int_empty Tryz.revI none 0 w
   change Calls Tryz.prog 141 _ _ _ at this
   refine this.mono ?_
   rintro e w' ⟨rfl,rfl⟩
   exact ⟨rfl,h,World.grownBy.refl _ _⟩
 · have hcon:=Any.slices_Reverse_int_cells Tryz.revI g 0 n c xs w (by omega) (by omega) (fun j hj=>by
    rw [Nat.zero_add]
    have:=h.cells (fun _=>rfl) (i:=j) (List.getElem?_eq_getElem hj) 0 _ rfl
    rw [Nat.mul_one,Nat.add_zero] at this
    rw [this];simp [List.getD_eq_getElem?_getD,hj]) (fun j hj=>h.free _)
   change Calls Tryz.prog 141 _ _ _ at hcon
   refine hcon.mono ?_
   rintro e w' ⟨rfl,q,rfl⟩
   have htk:xs.take n=xs:=List.take_of_length_le (by omega)
   rw [htk]
   obtain ⟨h1,h2⟩:=(h.drewN q).setAll xs.reverse (by simp [hlen])
   exact ⟨rfl,h1,⟨h2.os,h2.tape,h2.output,h2.size,h2.block⟩⟩
def LastOk (bs:List Bound) (last:List Row):Prop:=∀ r∈last,r.length=60∧∀ v:Int,0≤v→v<60→0≤rAt r v∧rAt r v<bs.length
theorem back_any (B ba off:Nat) (Al:Option Addr) (nl cl:Nat) (last:List Row) (pts:Int) (A:Option Addr) (n c:Nat) (bs:List Bound) (p:Int) (w:World)
 (hc1:w.cell? ⟨ba,off+1,none⟩=some (.slice Al nl cl)) (hO:Own encRow 60 150 B w Al nl cl last) (hnl:1≤nl) (hnl2:nl≤100) (hlast:LastOk bs last) (hl:Rd encBound 4 w A n c bs) (hok:SysOk pts bs) (h1:0≤p) (h2:p<60):
 Calls Tryz.prog 113 #[.pointer (some ⟨ba,off,none⟩),.agg #[.int .i64 pts,.slice A n c],.int .i64 p] w fun e w'=> ∃ A' c',e = .returned (.slice A' (backTo bs last nl p).length c')∧Below w.heap.size w w'∧
  Own encInt 1 3 w.heap.size w' A' (backTo bs last nl p).length c' (backTo bs last nl p).reverse:=by
 obtain ⟨gl,rfl⟩:∃ gl,Al=some ⟨gl,0,none⟩:=by
  rcases hO.form with ⟨_,h,_⟩|⟨gl,h,_⟩
  · omega
  · exact ⟨gl,h⟩
 obtain ⟨w1,hw1⟩:∃ w1,w.alloc (.cells #[.int .i64 pts,.slice A n c] 83)=w1:=⟨_,rfl⟩
 have hb1:Below w.heap.size w w1:=(by rw [←hw1];exact (Below.refl _ w).alloc (Nat.le_refl _) _)
 have hz1:w1.heap.size=w.heap.size+1:=(by rw [←hw1];simp)
 have hsys:w1.heap[w.heap.size]? = some (.cells #[.int .i64 pts,.slice A n c] 83 (0,0)):=(by rw [←hw1];exact heap_alloc_new w _)
 have hbl:ba<w.heap.size:=block_lt_of_cell hc1
 have HL:=Lib.hid (hl.below hb1 (Nat.le_refl _))
 have HOK:=Lib.hid hok
 have HLO:=Lib.hid hlast
 have HLEN:=Lib.hid hl.len
 have HO:=Lib.hid (hO.below hb1 (Nat.le_refl _))
 have HC1:=Lib.hid ((hb1.cell (p:=⟨ba,off+1,none⟩) hbl).trans hc1)
 have HSYS:=Lib.hid hsys
 have HOL:=Lib.hid hO.len
 have hbl2:w.heap.size<w1.heap.size:=(by omega)
 have hbl3:ba<w1.heap.size:=(by omega)
 have hc1':=HC1.out
 obtain ⟨R,hR⟩:∃ R,backTo bs last nl p=R:=⟨_,rfl⟩
 have HR:=Lib.hid hR
 clear hl hok hlast hO hc1 hsys
 rw [hR]
 clear hR
 go_enter Tryz.func113,Tryz.ntmps113
 go_wp2
 clear hc1' hw1
 go_loopw [2,7,8] (fun s2 s7 s8 wr=> ∃ (kk:Nat) (q:Int) (A':Option Addr) (c':Nat) (out:List Int),kk<nl∧0≤q∧q<60∧s2 = .int .i64 q∧s7 = .slice A' out.length c'∧s8 = .int .i64 kk∧Below w1.heap.size w1 wr∧out.length≤100-kk∧Hid (out++backTo bs last (kk+1) q=R)∧Hid (Own encInt 1 3 w1.heap.size wr A' out.length c' out)) (fun _ _ s8 _=>(intOf s8).toNat)
 case atStart=>exact ⟨nl-1,p,none,0,[],by omega,h1,h2,rfl,rfl,by go_num,Below.refl _ _,by simp,(show _=_ by rw [List.nil_append,show nl-1+1=nl by omega];exact HR.out),(show Own _ _ _ _ _ _ _ _ _ from Own.none_ _ _ _ _ _)⟩
 case round=>
  obtain ⟨kk,q,A',c',out,hk,q1,q2,rfl,rfl,rfl,hb,hol,hout,hO⟩:=hrel
  have hsz:=hb.size
  by_cases h0:0<kk
  · obtain ⟨j,rfl⟩:∃ j,kk=j+1:=⟨kk-1,by omega⟩
    have hlt:j+1<last.length:=(by rw [HOL.out];exact hk)
    have hrow:last[j+1]? = some last[j+1]:=List.getElem?_eq_getElem hlt
    obtain ⟨r,hr⟩:∃ r,last[j+1]=r:=⟨_,rfl⟩
    rw [hr] at hrow
    obtain ⟨l60,lv⟩:=HLO.out r (List.mem_of_getElem? hrow)
    obtain ⟨v1,v2⟩:=lv q q1 q2
    have cR:=(HO.out.below hb (Nat.le_refl _)).cellRow (j:=q.toNat) hrow (by omega)
    have er:r.getD q.toNat 0=rAt r q:=rfl
    rw [er] at cR
    clear er
    have hx:last.getD (j+1) []=r:=(by rw [List.getD_eq_getElem?_getD,hrow];rfl)
    have hstep:backTo bs last (j+2) q=rAt r q::backTo bs last (j+1) (bs.getD (rAt r q).toNat default).src:=(by rw [backTo,hx])
    obtain ⟨i,hi⟩:∃ i:Nat,rAt r q=i:=⟨(rAt r q).toNat,by omega⟩
    rw [hi] at cR v1 v2 hstep
    have hin:i<n:=(by have:=HLEN.out;omega)
    obtain ⟨b2,off2,y,rfl,hbw2,hy,hcell2⟩:=HL.out.one hin
    have yc:w1.cell? ⟨b2,off2+i * 4,none⟩=some (.int .i64 y.src):=hcell2 0 _ rfl
    have y0:=(hb.cell (p:=⟨b2,off2+i * 4,none⟩) hbw2).trans yc
    have hys:=HOK.out.b y (List.mem_of_getElem? hy)
    have hp60:=HOK.out.p2
    have hyd:(bs.getD ((i:Int)).toNat default)=y:=(by rw [Int.toNat_natCast,List.getD_eq_getElem?_getD,hy];rfl)
    rw [hyd] at hstep
    have cA:=(hb.cell (p:=⟨ba,off+1,none⟩) hbl3).trans HC1.out
    have cS1:w1.cell? ⟨w.heap.size,1,none⟩=some (.slice (some ⟨b2,off2,none⟩) n c):=(by simp [World.cell?,HSYS.out])
    have cS:=(hb.cell (p:=⟨w.heap.size,1,none⟩) hbl2).trans cS1
    have HY:=Lib.hid yc
    have HCS:=Lib.hid cS1
    have HST:=Lib.hid hstep
    have o3:=hys.1
    have o4:y.src<60:=(by omega)
    have hjl:j+1<nl:=hk
    have hwl:w.heap.size<wr.heap.size:=(by omega)
    have hb2l:b2<wr.heap.size:=(by omega)
    clear yc cS1 hyd hstep hi hrow hr hx lv hy hcell2 hys l60 hp60 hlt
    have hO5:=hO.out.alloc (.cells #[.int .i64 (i:Int)] 3)
    have hrd5:=Rd.single (enc:=encInt) (k:=1) wr #[.int .i64 (i:Int)] 3 [(i:Int)] 1 rfl (by omega) (fun _=>rfl) (by simp [encInt])
    have hb5:Below w1.heap.size w1 (wr.alloc (.cells #[.int .i64 (i:Int)] 3)):=hb.alloc hsz _
    go_wp2_with (at_builtin;refine wpList_append_src elInt (fun _=>rfl) oneInt rfl _ _ rfl _ _ _ _ rfl rfl hO5 hrd5 (by omega) (by decide) (by simp;omega) ?_;intro A2 c2 w8 hO8 hg8 hA8
                 have hb8:=hb5.grown hg8 (by simp;omega) (fun j e=>hO5.ltB j e)
                 have cS:=(hb8.cell (p:=⟨w.heap.size,1,none⟩) hbl2).trans HCS.out
                 have y0:=(hb8.cell (p:=⟨b2,off2+i * 4,none⟩) hbw2).trans HY.out)
    go_roundw
    all_goals first
     | (simp [intOf];done)
     | exact ⟨j,y.src,A2,c2,out ++ [(i:Int)],by omega,o3,o4,rfl,by simp,rfl,hb8,by simp;omega,(show _=_ by
        have h9:=hout.out
        rw [show j+1+1=j+2 from rfl,HST.out] at h9
        rw [List.append_assoc];exact h9),(show Own _ _ _ _ _ _ _ _ _ by rw [List.length_append];exact hO8)⟩
  · have hk0:kk=0:=by omega
    subst hk0
    have hfin:out=R:=(by
     have h9:=hout.out
     rw [show backTo bs last (0+1) q = [] from rfl,List.append_nil] at h9;exact h9)
    subst hfin
    have HOO:=Lib.hid hO.out
    clear hO hout
    go_wp2_with (go_at_call 141;refine (Reverse_own _ A' _ c' out wr HOO.out (by omega)).mono ?_;rintro e w2 ⟨rfl,hO2,hg2⟩)
    go_ret
    exact ⟨A',c',rfl,(hb1.trans (hb.mono (by omega))).grown hg2 (by omega) (fun k e=>by have:=HOO.out.ltB k e;omega),hO2.mono (by omega)⟩
structure WOk (bs:List Bound) (m:Nat) (x:Walks):Prop where
 s:x.sums.length=m+1
 l:x.last.length=m+1
 r60:∀ r∈x.sums,r.length=60
 low:∀ v:Int,0≤v→v<60→ -((m:Int) * 1000000)≤rAt x.now v
 ok:bs ≠ []→LastOk bs x.last
theorem rAt_put60 {r:Row} (h:r.length=60) {i j x:Int} (h1:0≤i) (h2:i<60) (h3:0≤j):rAt (rPut r i x) j=if j=i then x else rAt r j:=by
 unfold rAt rPut
 rw [List.getD_eq_getElem?_getD,List.getD_eq_getElem?_getD,List.getElem?_set]
 by_cases e:j=i
 · subst e;rw [if_pos rfl,if_pos rfl,if_pos (by omega)];rfl
 · rw [if_neg (by omega),if_neg e]
theorem rAt_empty (v:Int) (h1:0≤v) (h2:v<60):rAt emptyRow v=noneV:=by
 unfold rAt emptyRow
 rw [List.getD_eq_getElem?_getD,List.getElem?_replicate,if_pos (by omega)];rfl
theorem rAt_zero (v:Int):rAt zeroRow v=0:=by
 unfold rAt zeroRow
 rw [List.getD_eq_getElem?_getD,List.getElem?_replicate]
 split<;>rfl
theorem longerTo_low {pts:Int} {bs:List Bound} (hok:SysOk pts bs) {now:Row} {M:Int} (hM:0≤M) (hn:∀ v:Int,0≤v→v<60→ -M≤rAt now v):∀ k,∀ v:Int,0≤v→v<60→ -(M+1000000)≤rAt (longerTo bs now k).1 v
 | 0,v,h1,h2=>by
   show _≤rAt emptyRow v
   rw [rAt_empty v h1 h2];unfold noneV;omega
 | k+1,v,h1,h2=>by
   have ih:=longerTo_low hok hM hn k v h1 h2
   have hp:=hok.p2
   cases hb:bs[k]? with
   | none=>rw [longerTo,hb];exact ih
   | some b=>
     have hbk:=hok.b b (List.mem_of_getElem? hb)
     by_cases h:rAt now b.src<noneV∧rAt now b.src+b.most<rAt (longerTo bs now k).1 b.dst
     · rw [longerTo_hit hb h.1 h.2]
       simp only
       rw [rAt_put60 (longerTo_len bs now k).1 hbk.2.2.1 (by omega) h1]
       have:=hn b.src hbk.1 (by omega)
       split
       · omega
       · exact ih
     · rw [longerTo_miss hb h];exact ih
theorem longerTo_last {pts:Int} {bs:List Bound} (hok:SysOk pts bs) {now:Row} (hne:bs ≠ []):∀ k,k≤bs.length→∀ v:Int,0≤v→v<60→0≤rAt (longerTo bs now k).2 v∧rAt (longerTo bs now k).2 v<bs.length
 | 0,_,v,h1,h2=>by
   have:0<bs.length:=List.length_pos_iff.2 hne
   show 0≤rAt zeroRow v∧rAt zeroRow v<_
   rw [rAt_zero];omega
 | k+1,hk,v,h1,h2=>by
   have ih:=longerTo_last hok (now:=now) hne k (by omega) v h1 h2
   have hp:=hok.p2
   cases hb:bs[k]? with
   | none=>rw [longerTo,hb];exact ih
   | some b=>
     have hbk:=hok.b b (List.mem_of_getElem? hb)
     by_cases h:rAt now b.src<noneV∧rAt now b.src+b.most<rAt (longerTo bs now k).1 b.dst
     · rw [longerTo_hit hb h.1 h.2]
       simp only
       rw [rAt_put60 (longerTo_len bs now k).2 hbk.2.2.1 (by omega) h1]
       split
       · omega
       · exact ih
     · rw [longerTo_miss hb h];exact ih
theorem Walks.now_longer (bs:List Bound) (x:Walks):(x.longer bs).now=(longerR bs x.now).1:=by
 have e:(x.longer bs).sums=x.sums ++ [(longerR bs x.now).1]:=rfl
 show (x.longer bs).sums.getD ((x.longer bs).sums.length-1) []=_
 rw [e]
 simp [List.getD_eq_getElem?_getD]
theorem WOk.start (bs:List Bound) (p:Nat) (hp:p<60):WOk bs 0 (walks0 p):=by
 have h60:emptyRow.length=60:=by simp [emptyRow]
 refine ⟨rfl,rfl,fun r hr=> ?_,fun v h1 h2=> ?_,fun hne r hr=> ?_⟩
 · have:r=rPut emptyRow p 0:=by simpa [walks0] using hr
   subst this;simp [h60]
 · show _≤rAt (rPut emptyRow p 0) v
   rw [rAt_put60 h60 (by omega) (by omega) h1,rAt_empty v h1 h2]
   unfold noneV
   split<;>simp
 · have:r=zeroRow:=by simpa [walks0] using hr
   subst this
   have:0<bs.length:=List.length_pos_iff.2 hne
   refine ⟨by simp [zeroRow],fun v h1 h2=> ?_⟩
   rw [rAt_zero];omega
theorem WOk.longer {pts:Int} {bs:List Bound} (hok:SysOk pts bs) {m:Nat} {x:Walks} (h:WOk bs m x):WOk bs (m+1) (x.longer bs):=by
 have hl:=longerTo_len bs x.now bs.length
 refine ⟨by simp [Walks.longer,h.s],by simp [Walks.longer,h.l],fun r hr=> ?_,fun v h1 h2=> ?_,fun hne r hr=> ?_⟩
 · simp only [Walks.longer,List.mem_append,List.mem_singleton] at hr
   rcases hr with hr|rfl
   · exact h.r60 r hr
   · exact hl.1
 · rw [Walks.now_longer]
   have:=longerTo_low hok (M:=(m:Int) * 1000000) (by omega) h.low bs.length v h1 h2
   show _≤rAt (longerTo bs x.now bs.length).1 v
   omega
 · simp only [Walks.longer,List.mem_append,List.mem_singleton] at hr
   rcases hr with hr|rfl
   · exact h.ok hne r hr
   · exact ⟨hl.2,longerTo_last hok hne bs.length (Nat.le_refl _)⟩
theorem WOk.now_at {bs:List Bound} {m:Nat} {x:Walks} (h:WOk bs m x):x.sums[m]? = some x.now:=by
 have hl:=h.s
 unfold Walks.now
 rw [hl,Nat.add_sub_cancel,List.getD_eq_getElem?_getD,List.getElem?_eq_getElem (by omega)];rfl
theorem WOk.now60 {bs:List Bound} {m:Nat} {x:Walks} (h:WOk bs m x):x.now.length=60:=h.r60 _ (List.mem_of_getElem? h.now_at)
def WAt (B:Nat) (W:World) (cur:Array Value) (p:Nat) (x:Walks) (g al:Nat):Prop:=
 ∃ cs cl,cur[2 * p]? = some (.slice (some ⟨g,0,none⟩) x.sums.length cs)∧cur[2 * p+1]? = some (.slice (some ⟨al,0,none⟩) x.last.length cl)∧
   Own encRow 60 151 B W (some ⟨g,0,none⟩) x.sums.length cs x.sums∧Own encRow 60 150 B W (some ⟨al,0,none⟩) x.last.length cl x.last
structure AllAt (B:Nat) (W:World) (ba pts:Nat) (all:List Walks) (cur:Array Value) (g al:Nat→Nat):Prop where
 at_:W.heap[ba]? = some (.cells cur 174 (0,0))
 size:cur.size=2 * pts
 base:B≤ba
 w:∀ p x,all[p]? = some x→WAt B W cur p x (g p) (al p)
 ne:∀ p q,p<all.length→q<all.length→p≠q→g p≠g q∧al p≠al q
theorem WAt.kept {B:Nat} {W W':World} {cur cur':Array Value} {p:Nat} {x:Walks} {g al:Nat} (h:WAt B W cur p x g al) (hc0:cur'[2 * p]? = cur[2 * p]?) (hc1:cur'[2 * p+1]? = cur[2 * p+1]?) (hg:W'.heap[g]? = W.heap[g]?) (ha:W'.heap[al]? = W.heap[al]?) (_:W.heap.size≤W'.heap.size):WAt B W' cur' p x g al:=by
 obtain ⟨cs,cl,h1,h2,h3,h4⟩:=h
 have key:∀ {t:TypeId} {b n c:Nat} {xs:List Row},Own encRow 60 t B W (some ⟨b,0,none⟩) n c xs→W'.heap[b]? = W.heap[b]? → Own encRow 60 t B W' (some ⟨b,0,none⟩) n c xs:=by
  intro t b n c xs hO hb
  refine ⟨hO.len,hO.own.1,?_⟩
  rcases hO.own.2 with ⟨e,_⟩|⟨g',cap,c2,e,a1,a2,a3⟩
  · cases e
  · cases e
    exact .inr ⟨b,c,c2,rfl,a1,hb.trans a2,a3⟩
 exact ⟨cs,cl,hc0.trans h1,hc1.trans h2,key h3 hg,key h4 ha⟩
theorem WAt.lt {B:Nat} {W:World} {cur:Array Value} {p:Nat} {x:Walks} {g al:Nat} (h:WAt B W cur p x g al):g<W.heap.size∧al<W.heap.size:=by
 obtain ⟨cs,cl,_,_,h3,h4⟩:=h
 exact ⟨h3.lt.2,h4.lt.2⟩
theorem WAt.types {B:Nat} {W:World} {cur:Array Value} {p:Nat} {x:Walks} {g al:Nat} (h:WAt B W cur p x g al):(∃ c,W.heap[g]? = some (.cells c 151 (0,0)))∧(∃ c,W.heap[al]? = some (.cells c 150 (0,0))):=by
 obtain ⟨cs,cl,_,_,h3,h4⟩:=h
 constructor
 · rcases h3.block with h|⟨g',c,e,hc,_⟩
   · cases h
   · cases e;exact ⟨c,hc⟩
 · rcases h4.block with h|⟨g',c,e,hc,_⟩
   · cases h
   · cases e;exact ⟨c,hc⟩
section
variable {B ba pts:Nat} {W W':World} {all:List Walks} {cur:Array Value} {g al:Nat→Nat}
theorem AllAt.lt (h:AllAt B W ba pts all cur g al):ba<W.heap.size:=(Array.getElem?_eq_some_iff.1 h.at_).1
theorem AllAt.below (h:AllAt B W ba pts all cur g al) (hb:Below W.heap.size W W'):AllAt B W' ba pts all cur g al:=
 ⟨(hb.block _ h.lt).trans h.at_,h.size,h.base,fun p x hx=>(h.w p x hx).kept rfl rfl (hb.block _ (h.w p x hx).lt.1) (hb.block _ (h.w p x hx).lt.2) hb.size,h.ne⟩
theorem AllAt.longer (h:AllAt B W ba pts all cur g al) {p:Nat} {x:Walks} (hx:all[p]? = some x) (bs:List Bound)
 (hp:LongPost W W' B ba (2 * p) cur (some ⟨g p,0,none⟩) x.sums.length (some ⟨al p,0,none⟩) x.last.length x.sums x.last (longerR bs x.now).1 (longerR bs x.now).2):
 (∃ cur' g' al',AllAt B W' ba pts (all.set p (x.longer bs)) cur' g' al')∧ChgT (fun k=>k=ba∨∃ q,q<all.length∧(k=g q∨k=al q)) W W':=by
 obtain ⟨hc,A2,c2,A3,c3,⟨o2,b2⟩,⟨o3,b3⟩,hh⟩:=hp
 have hpl:p<all.length:=(List.getElem?_eq_some_iff.1 hx).1
 have hchg:ChgT (fun k=>k=ba∨∃ q,q<all.length∧(k=g q∨k=al q)) W W':=hc.mono (fun k hk ht=>by
  rcases ht with ht|ht|ht
  · exact .inl ht
  · exact .inr ⟨p,hpl,.inl (Option.some.inj ht).symm⟩
  · exact .inr ⟨p,hpl,.inr (Option.some.inj ht).symm⟩)
 refine ⟨?_,hchg⟩
 obtain ⟨g2,rfl⟩:∃ g2,A2=some ⟨g2,0,none⟩:=by
  rcases o2.form with ⟨_,e,_⟩|⟨g2,e,_⟩
  · omega
  · exact ⟨g2,e⟩
 obtain ⟨g3,rfl⟩:∃ g3,A3=some ⟨g3,0,none⟩:=by
  rcases o3.form with ⟨_,e,_⟩|⟨g3,e,_⟩
  · omega
  · exact ⟨g3,e⟩
 have e2:g2=g p∨W.heap.size≤g2:=by
  rcases b2 with e|⟨k,hk,e⟩
  · exact .inl (Option.some.inj e)
  · have:g2=k:=Option.some.inj e
    exact .inr (by omega)
 have e3:g3=al p∨W.heap.size≤g3:=by
  rcases b3 with e|⟨k,hk,e⟩
  · exact .inl (Option.some.inj e)
  · have:g3=k:=Option.some.inj e
    exact .inr (by omega)
 obtain ⟨cs,cl,w1,w2,w3,w4⟩:=h.w p x hx
 have hpc:2 * p+1<cur.size:=(Array.getElem?_eq_some_iff.1 w2).1
 refine ⟨_,fun q=>if q=p then g2 else g q,fun q=>if q=p then g3 else al q,hh,by simp [h.size],h.base,fun q y hy=> ?_,fun q r hq hr hne=> ?_⟩
 · by_cases e:q=p
   · subst e
     have hy':y=x.longer bs:=by rw [List.getElem?_set_self hpl] at hy;exact (Option.some.inj hy).symm
     subst hy'
     refine ⟨c2,c3,?_,?_,?_,?_⟩
     · simp only [if_true,Walks.longer,List.length_append,List.length_cons,List.length_nil]
       rw [Array.getElem?_setIfInBounds_ne (by omega),Array.getElem?_setIfInBounds_self_of_lt (by omega)]
     · simp only [if_true,Walks.longer,List.length_append,List.length_cons,List.length_nil]
       rw [Array.getElem?_setIfInBounds_self_of_lt (by simpa using hpc)]
     · simp only [if_true,Walks.longer,List.length_append,List.length_cons,List.length_nil];exact o2
     · simp only [if_true,Walks.longer,List.length_append,List.length_cons,List.length_nil];exact o3
   · rw [List.getElem?_set_ne (Ne.symm e)] at hy
     have hql:q<all.length:=(List.getElem?_eq_some_iff.1 hy).1
     have hwq:=h.w q y hy
     obtain ⟨⟨cg,tg⟩,⟨ca,ta⟩⟩:=hwq.types
     obtain ⟨⟨cg',tg'⟩,⟨ca',ta'⟩⟩:=(h.w p x hx).types
     have hne:=h.ne q p hql hpl e
     simp only [if_neg e]
     refine hwq.kept ?_ ?_ (hc.block _ hwq.lt.1 ?_) (hc.block _ hwq.lt.2 ?_) hc.size
     · rw [Array.getElem?_setIfInBounds_ne (by omega),Array.getElem?_setIfInBounds_ne (by omega)]
     · rw [Array.getElem?_setIfInBounds_ne (by omega),Array.getElem?_setIfInBounds_ne (by omega)]
     · rintro (ht|ht|ht)
       · rw [ht,h.at_] at tg;cases tg
       · exact hne.1 (Option.some.inj ht).symm
       · have:al p=g q:=Option.some.inj ht
         rw [this,tg] at ta';cases ta'
     · rintro (ht|ht|ht)
       · rw [ht,h.at_] at ta;cases ta
       · have:g p=al q:=Option.some.inj ht
         rw [this,ta] at tg';cases tg'
       · exact hne.2 (Option.some.inj ht).symm
 · rw [List.length_set] at hq hr
   have hgl:∀ q,q<all.length→g q<W.heap.size∧al q<W.heap.size:=fun q hq=>(h.w q _ (List.getElem?_eq_getElem hq)).lt
   have h1:=hgl q hq
   have h2:=hgl r hr
   have h3:=h.ne q r hq hr hne
   constructor
   · by_cases e:q=p
     · subst e
       simp only [if_true,if_neg (Ne.symm hne)]
       rcases e2 with e|e<;>omega
     · by_cases e':r=p
       · subst e'
         simp only [if_true,if_neg hne]
         rcases e2 with e|e<;>omega
       · simp only [if_neg e,if_neg e'];exact h3.1
   · by_cases e:q=p
     · subst e
       simp only [if_true,if_neg (Ne.symm hne)]
       rcases e3 with e|e<;>omega
     · by_cases e':r=p
       · subst e'
         simp only [if_true,if_neg hne]
         rcases e3 with e|e<;>omega
       · simp only [if_neg e,if_neg e'];exact h3.2
end
end Go.Proofs.YtpmkgmilfifkpaaGreatDoor
end

/- Contracts that the laws lean on: Alon, CCiR, CCir, EdH, IdsP. -/
import Derived.Test.YtpmkgmilfifkpaaGreatDoorDE17
set_option maxRecDepth 100000
set_option maxHeartbeats 8000000
section
namespace Go.Proofs.YtpmkgmilfifkpaaGreatDoor
open Go.RowKit Go.Proofs Go.Shelf
theorem two_ (a b:Int):(a=b∧(a==b)=true∧(a != b)=false)∨(a≠b∧(a==b)=false∧(a != b)=true):=by by_cases h:a=b<;>simp [h]
structure Flags (W:World) (g:Nat) (r:List Bool):Prop where
 at_:W.heap[g]? = some (.cells (r.map Value.bool).toArray 218 (0,0))
 len:r.length=60
theorem Flags.cell {W:World} {g:Nat} {r:List Bool} (h:Flags W g r) {i:Nat} (hi:i<60):W.cell? ⟨g,i,none⟩=some (.bool (r.getD i false)):=by
 have h1:=h.at_
 have h2:=h.len
 simp [World.cell?,h1,List.getD_eq_getElem?_getD,List.getElem?_eq_getElem (show i<r.length by omega)]
theorem Flags.free {W:World} {g:Nat} {r:List Bool} (h:Flags W g r) (i:Nat):W.frozen? ⟨g,i,none⟩=false:=by
 have h1:=h.at_
 simp [World.frozen?,h1]
theorem Flags.lt {W:World} {g:Nat} {r:List Bool} (h:Flags W g r):g<W.heap.size:=(Array.getElem?_eq_some_iff.1 h.at_).1
theorem Flags.set {W:World} {g:Nat} {r:List Bool} (h:Flags W g r) (i:Nat):Flags (W.setCell ⟨g,i,none⟩ (.bool true)) g (r.set i true):=
 ⟨by rw [heap_setCell_obj h.at_];simp [List.map_set],by rw [List.length_set];exact h.len⟩
theorem Flags.other {W:World} {g b i:Nat} {v:Value} {r:List Bool} (h:Flags W g r) (hne:g≠b):Flags (W.setCell ⟨b,i,none⟩ v) g r:=
 ⟨(Below.heap_setCell _ _ _ g hne).trans h.at_,h.len⟩
theorem Flags.below {W W':World} {g:Nat} {r:List Bool} (h:Flags W g r) (hb:Below W.heap.size W W'):Flags W' g r:=⟨(hb.block g h.lt).trans h.at_,h.len⟩
theorem Flags.drewN {W:World} {g:Nat} {r:List Bool} (h:Flags W g r) (m:Nat):Flags (W.drewN m) g r:=⟨h.at_,h.len⟩
theorem Flags.alloc {W:World} {g:Nat} {r:List Bool} (h:Flags W g r) (o:Obj):Flags (W.alloc o) g r:=⟨(Below.heap_alloc _ _ _ h.lt).trans h.at_,h.len⟩
theorem Flags.drew {W:World} {g:Nat} {r:List Bool} (h:Flags W g r):Flags W.drew g r:=⟨h.at_,h.len⟩
theorem along_none {bs:List Bound} {l:List Int} {a:Int} {k:Nat} (h:alongTo bs l a k=none):∀ m,k≤m→alongTo bs l a m=none
 | 0,hm=>by
   have:k=0:=by omega
   subst this;exact h
 | m+1,hm=>by
   rcases Nat.lt_or_ge m k with hlt|hge
   · have:k=m+1:=by omega
     subst this;exact h
   · have ih:=along_none h m hge
     rw [alongTo]
     split
     · rw [ih];rfl
     · exact ih
theorem alongV_none {bs:List Bound} {l:List Int} {a b:Int} {k:Nat} (h:alongTo bs l a k=none) (hk:k≤l.length):alongV bs a b l=(0,false):=by
 unfold alongV;rw [along_none h _ hk]
theorem along_next {bs:List Bound} {l:List Int} {a:Int} {k:Nat} {i:Int} {st:AlSt} (hi:l[k]? = some i) (h:alongTo bs l a k=some st):alongTo bs l a (k+1)=alongStep bs st i:=by
 rw [alongTo,hi,h];rfl
theorem zero287:(Tryz.prog.info? 218).map (·.zero)=some (some (.agg (List.replicate 60 (Value.bool false)).toArray)):=by kernel_rfl
theorem flags_new (w:World):Flags (w.alloc (.cells (List.replicate 60 (Value.bool false)).toArray 218)) w.heap.size (List.replicate 60 false):=
 ⟨by rw [heap_alloc_new];simp,by simp⟩
theorem step_no {bs:List Bound} {st:AlSt} {i:Int} (h:¬((0≤i∧i<bs.length)∧(bnd bs i).src=st.pt∧st.frm.getD (bnd bs i).src.toNat false=false∧st.tos.getD (bnd bs i).dst.toNat false=false)):alongStep bs st i=none:=by unfold alongStep;rw [if_neg h]
theorem along_any (pts:Int) (A:Option Addr) (n c:Nat) (bs:List Bound) (a b:Int) (L:Option Addr) (m lc:Nat) (l:List Int) (w:World) (hl:Rd encBound 4 w A n c bs) (hL:Rd encInt 1 w L m lc l) (hok:SysOk pts bs) (hm:m≤1000000):
 Calls Tryz.prog 116 #[.agg #[.int .i64 pts,.slice A n c],.int .i64 a,.int .i64 b,.slice L m lc] w fun e w'=>e = .returned (.tuple #[.int .i64 (alongV bs a b l).1,.bool (alongV bs a b l).2])∧Below w.heap.size w w':=by
 obtain ⟨w1,hw1⟩:∃ w1,w.alloc (.cells #[.int .i64 pts,.slice A n c] 83)=w1:=⟨_,rfl⟩
 obtain ⟨w2,hw2⟩:∃ w2,w1.alloc (.cells (List.replicate 60 (Value.bool false)).toArray 218)=w2:=⟨_,rfl⟩
 obtain ⟨w3,hw3⟩:∃ w3,w2.alloc (.cells (List.replicate 60 (Value.bool false)).toArray 218)=w3:=⟨_,rfl⟩
 have hb1:Below w.heap.size w w1:=(by rw [←hw1];exact (Below.refl _ w).alloc (Nat.le_refl _) _)
 have hz1:w.heap.size<w1.heap.size:=(by rw [←hw1];simp)
 have hb12:Below w1.heap.size w1 w2:=(by rw [←hw2];exact (Below.refl _ w1).alloc (Nat.le_refl _) _)
 have hz2:w1.heap.size<w2.heap.size:=(by rw [←hw2];simp)
 have hb23:Below w2.heap.size w2 w3:=(by rw [←hw3];exact (Below.refl _ w2).alloc (Nat.le_refl _) _)
 have hz3:w2.heap.size<w3.heap.size:=(by rw [←hw3];simp)
 have F1:Flags w3 w1.heap.size (List.replicate 60 false):=(by have:=flags_new w1;rw [hw2] at this;exact this.below hb23)
 have F2:Flags w3 w2.heap.size (List.replicate 60 false):=(by have:=flags_new w2;rw [hw3] at this;exact this)
 have hs1:w1.heap[w.heap.size]? = some (.cells #[.int .i64 pts,.slice A n c] 83 (0,0)):=(by rw [←hw1];exact heap_alloc_new w _)
 have HB13:=Lib.hid (hb12.trans (hb23.mono (Nat.le_of_lt hz2)))
 have hp2:=hok.p2
 have hbl:=hok.len
 have hln:=hl.len
 have hLn:=Lib.hid hL.len
 have HLB:=Lib.hid (hl.below hb1 (Nat.le_refl _))
 have HLL:=Lib.hid (hL.below hb1 (Nat.le_refl _))
 have HOK:=Lib.hid (fun b hb=>(hok.b b hb))
 have HF1:=Lib.hid F1
 have HF2:=Lib.hid F2
 have HS1:=Lib.hid hs1
 have HB1:=Lib.hid hb1
 have HW2:=Lib.hid hw2
 have HW3:=Lib.hid hw3
 have hnn:n≤400:=(by omega)
 have HLN:=Lib.hid hln
 clear hb1 hb12 hb23 F1 F2 hs1 hl hL hok hw2 hw3 hln hbl
 go_enter Tryz.func116,Tryz.ntmps116
 go_wp2_with (refine wpL_alloc (t:=218) rfl rfl zero287 ?_;first|rw [HW2.out]|rw [HW3.out])
 go_loopw [12,13,20] (fun s12 s13 s20 wr=> ∃ (k:Nat) (st:AlSt),k≤m∧s12 = .int .i64 st.sum∧s13 = .int .i64 st.pt∧s20 = .int .i64 k∧(-(1000000 * (k:Int))≤st.sum∧st.sum≤1000000 * (k:Int))∧Hid (Below w1.heap.size w1 wr)∧Hid (alongTo bs l a k=some st)∧Hid (Flags wr w1.heap.size st.frm)∧Hid (Flags wr w2.heap.size st.tos)) (fun _ _ s20 _=>m-(intOf s20).toNat)
 case atStart=>exact ⟨0,⟨0,a,List.replicate 60 false,List.replicate 60 false⟩,Nat.zero_le _,rfl,rfl,rfl,⟨by simp,by simp⟩,HB13,(show _=_ from rfl),HF1,HF2⟩
 case round=>
  obtain ⟨k,st,hk,rfl,rfl,rfl,⟨hs1,hs2⟩,hb,hto,hf1,hf2⟩:=hrel
  have hzr:=hb.out.size
  have g1l:=hf1.out.lt
  have g2l:=hf2.out.lt
  by_cases hlt:k<m
  · obtain ⟨bi,oi,i,rfl,hbiw,hi,hci⟩:=(HLL.out.below hb.out (Nat.le_refl _)).one hlt
    have i0:wr.cell? ⟨bi,oi+k,none⟩=some (.int .i64 i):=(by have:=hci 0 _ rfl;simpa using this)
    have hw0:IntKind.i64.wrap ((n:Int)-1)=(n:Int)-1:=(by rw [IntKind.wrap_i64];omega)
    have hh0:=(hb.out.block _ hz1).trans HS1.out
    have y0:wr.cell? ⟨w.heap.size,1,none⟩=some (.slice A n c):=(by simp [World.cell?,hh0])
    have hwl0:w.heap.size<wr.heap.size:=(by omega)
    by_cases hin:0≤i∧i<bs.length
    case neg=>
     have HWI:=Lib.hid (show withinB i 0 ((n:Int)-1)=false by rw [←Bool.not_eq_true,withinB_iff];have:=HLN.out;omega)
     have HI:=Lib.hid hi
     have HIN:=Lib.hid hin
     clear hci hi hh0 hin
     go_wp2_with (go_at_call 79;(with_reducible refine (within_any _ _ _ _).mono ?_);rintro e w' ⟨rfl,hw'⟩;obtain rfl:=hw'.symm;rw [HWI.out])
     go_ret2
     exact ⟨by rw [alongV_none (k:=k+1) (by rw [along_next HI.out hto.out];exact step_no fun h=>HIN.out h.1) (by have:=hLn.out;omega)];rfl,HB1.out.trans (by first|exact hb.out.mono (by omega)|exact (hb.out.alloc hzr _).mono (by omega))⟩
    have HIN:=Lib.hid hin
    obtain ⟨v1,v2⟩:=hin
    clear y0 hh0 hwl0
    obtain ⟨j,hj⟩:∃ j:Nat,i=(j:Int):=⟨i.toNat,by omega⟩
    subst hj
    have hjn:j<n:=(by have:=HLN.out;omega)
    obtain ⟨bb,ob,x,rfl,hbbw,hx,hcx⟩:=(HLB.out.below hb.out (Nat.le_refl _)).one hjn
    have hbnd:Hid (bnd bs (j:Int)=x):=(show _=_ by unfold bnd;rw [Int.toNat_natCast,List.getD_eq_getElem?_getD,hx];rfl)
    have hxm:=HOK.out x (List.mem_of_getElem? hx)
    have HI:=Lib.hid hi
    have c0:wr.cell? ⟨bb,ob+j * 4,none⟩=some (.int .i64 x.src):=hcx 0 _ rfl
    have c1:wr.cell? ⟨bb,ob+j * 4+1,none⟩=some (.int .i64 x.dst):=hcx 1 _ rfl
    have c2:wr.cell? ⟨bb,ob+j * 4+2,none⟩=some (.int .i64 x.most):=hcx 2 _ rfl
    have c3:wr.cell? ⟨bb,ob+j * 4+3,none⟩=some (.int .i64 x.by_):=hcx 3 _ rfl
    clear hci hcx hi hx
    obtain ⟨xs,xd,xm,xb⟩:=x
    simp only at hxm c0 c1 c2 c3
    obtain ⟨sN,hsN⟩:∃ sN:Nat,xs=(sN:Int):=⟨xs.toNat,by omega⟩
    obtain ⟨dN,hdN⟩:∃ dN:Nat,xd=(dN:Int):=⟨xd.toNat,by omega⟩
    subst hsN
    subst hdN
    have hs60:sN<60:=(by omega)
    have hd60:dN<60:=(by omega)
    have hh:=(hb.out.block _ hz1).trans HS1.out
    have y1:wr.cell? ⟨w.heap.size,1,none⟩=some (.slice (some ⟨bb,ob,none⟩) n c):=(by simp [World.cell?,hh])
    have hwl:w.heap.size<wr.heap.size:=(by omega)
    have hwi:withinB (j:Int) 0 ((n:Int)-1)=true:=withinB_iff.2 ⟨by omega,by omega⟩
    have HWI:=Lib.hid hwi
    obtain ⟨b1,hb1⟩:∃ b1,st.frm.getD sN false=b1:=⟨_,rfl⟩
    obtain ⟨b2,hb2⟩:∃ b2,st.tos.getD dN false=b2:=⟨_,rfl⟩
    have f1:=hf1.out.cell hs60
    have f2:=hf2.out.cell hd60
    have e1:=hf1.out.free sN
    have e2:=hf2.out.free dN
    rw [hb1] at f1
    rw [hb2] at f2
    have HB1':=Lib.hid hb1
    have HB2':=Lib.hid hb2
    have hng:¬w1.heap.size=w2.heap.size:=(by omega)
    have hng2:¬w2.heap.size=w1.heap.size:=(by omega)
    have hsum:IntKind.i64.wrap (st.sum+xm)=st.sum+xm:=(by rw [IntKind.wrap_i64];omega)
    have HXM:=Lib.hid hxm
    clear hh hwi hb1 hb2 hxm
    rcases two_ (sN:Int) st.pt with ⟨k1,k2,k3⟩|⟨k1,k2,k3⟩
    case inr=>
     have K1:=Lib.hid k1
     clear k1
     go_wp2_with (go_at_call 79;(with_reducible refine (within_any _ _ _ _).mono ?_);rintro e w' ⟨rfl,hw'⟩;obtain rfl:=hw'.symm;rw [HWI.out])
     go_ret2
     exact ⟨by rw [alongV_none (k:=k+1) (by rw [along_next HI.out hto.out];exact step_no (by rw [hbnd.out];exact fun h=>K1.out h.2.1)) (by have:=hLn.out;omega)];rfl,HB1.out.trans ((hb.out.alloc hzr _).mono (by omega))⟩
    case inl=>
     have K1:=Lib.hid k1
     clear k1
     cases b1 with
     | true=>
       go_wp2_with (go_at_call 79;(with_reducible refine (within_any _ _ _ _).mono ?_);rintro e w' ⟨rfl,hw'⟩;obtain rfl:=hw'.symm;rw [HWI.out])
       go_ret2
       exact ⟨by rw [alongV_none (k:=k+1) (by rw [along_next HI.out hto.out];exact step_no (by rw [hbnd.out];exact fun h=>by have h2:=h.2.2.1;simp only [Int.toNat_natCast] at h2;rw [HB1'.out] at h2;cases h2)) (by have:=hLn.out;omega)];rfl,HB1.out.trans ((hb.out.alloc hzr _).mono (by omega))⟩
     | false=>
       cases b2 with
       | true=>
         go_wp2_with (go_at_call 79;(with_reducible refine (within_any _ _ _ _).mono ?_);rintro e w' ⟨rfl,hw'⟩;obtain rfl:=hw'.symm;rw [HWI.out])
         go_ret2
         exact ⟨by rw [alongV_none (k:=k+1) (by rw [along_next HI.out hto.out];exact step_no (by rw [hbnd.out];exact fun h=>by have h2:=h.2.2.2;simp only [Int.toNat_natCast] at h2;rw [HB2'.out] at h2;cases h2)) (by have:=hLn.out;omega)];rfl,HB1.out.trans ((hb.out.alloc hzr _).mono (by omega))⟩
       | false=>
         have hnext:Hid (alongTo bs l a (k+1)=some ⟨st.sum+xm,(dN:Int),st.frm.set sN true,st.tos.set dN true⟩):=(show _=_ by
          rw [along_next HI.out hto.out]
          unfold alongStep
          rw [hbnd.out]
          simp only [Int.toNat_natCast]
          rw [if_pos ⟨HIN.out,K1.out,HB1'.out,HB2'.out⟩])
         have hbb:=hb.out
         have hle2:w1.heap.size≤w2.heap.size:=(by omega)
         go_upto_region 11 with (go_at_call 79;(with_reducible refine (within_any _ _ _ _).mono ?_);rintro e w' ⟨rfl,hw'⟩;obtain rfl:=hw'.symm;rw [HWI.out])
         go_region
         all_goals
          go_wp2_with (go_quiet (fail))
          go_roundw
         all_goals first
          | (simp [intOf];omega)
          | exact ⟨k+1,⟨st.sum+xm,(dN:Int),st.frm.set sN true,st.tos.set dN true⟩,by omega,rfl,rfl,by go_num,⟨by have:=HXM.out;simp only;omega,by have:=HXM.out;simp only;omega⟩,(show Below _ _ _ from (by ((repeat' (first|(with_reducible assumption)|(with_reducible exact Below.refl _ _)|(with_reducible refine Below.drew ?_)|(with_reducible refine below_drewN' ?_ _)|(with_reducible refine Below.alloc ?_ ?_ _)|(with_reducible refine Below.setCell ?_ ?_ _)|(with_reducible refine below_step (by assumption) ?_ ?_)))<;>first|(simp;done)|(simp;omega)|omega))),hnext,(show Flags _ _ _ from by repeat' (first|with_reducible exact hf1.out|with_reducible refine Flags.set ?_ _|with_reducible refine Flags.other ?_ hng|with_reducible refine Flags.drewN ?_ _|with_reducible refine Flags.drew ?_|with_reducible refine Flags.alloc ?_ _)),(show Flags _ _ _ from by repeat' (first|with_reducible exact hf2.out|with_reducible refine Flags.set ?_ _|with_reducible refine Flags.other ?_ hng2|with_reducible refine Flags.drewN ?_ _|with_reducible refine Flags.drew ?_|with_reducible refine Flags.alloc ?_ _))⟩
  · have hkm:k=m:=by omega
    subst hkm
    have HAV:Hid (alongV bs a b l=(st.sum,decide (st.pt=b))):=(show _=_ by unfold alongV;rw [hLn.out,hto.out])
    have hbq:Hid ((st.pt==b)=decide (st.pt=b)):=(show _=_ by rw [Bool.eq_iff_iff];simp)
    go_wp2
    go_ret2
    exact ⟨by rw [HAV.out];simp [hbq.out],HB1.out.trans (hb.out.mono (by omega))⟩
end Go.Proofs.YtpmkgmilfifkpaaGreatDoor
end
section
namespace Go.Proofs.YtpmkgmilfifkpaaGreatDoor
open Go.RowKit Go.Proofs
def codeccir4:Option Code→Code
 | some (.seq _ (.seq _ (.seq (.seq c _) _)))=>c
 | _=> .skip
def valccir4 (bq off m lc pb:Nat) (_:Int) (A:Option Addr) (n c:Nat) (i:Int) (r:Bool):Nat→Value
 | 0=> .slice (some ⟨bq,off,none⟩) m lc
 | 1=> .int .i64 m
 | 2=> .bool false
 | 3=> .bool false
 | 4=> .slice (some ⟨bq,off,none⟩) m lc
 | 5=> .pointer (some ⟨bq,off,none⟩)
 | 6=> .int .i64 i
 | 7=> .pointer (some ⟨pb,0+1,none⟩)
 | 8=> .slice A n c
 | 9=> .int .i64 n
 | 10=> .int .i64 (n-1)
 | 11=> .bool r
 | 12=> .bool (!r)
 | 13=> .bool (!r)
 | _=>undef
theorem ccir4 (cC:Code) (hc:cC=codeccir4 Tryz.f75.body) (bq off m lc pb:Nat) (pts:Int) (A:Option Addr) (n c:Nat) (i:Int) (r:Bool) (a:Act) (w:World) (Q:Exit→Act→World→Prop)
 (hT:a.tmps.size=50) (t1:a.tmps.getD 1 undef = .slice (some ⟨bq,off,none⟩) m lc) (t2:a.tmps.getD 2 undef = .pointer (some ⟨pb,0,none⟩))
 (CE:∀ W,Below w.heap.size w W→W.cell? ⟨pb,0,none⟩=some (.int .i64 pts)∧W.cell? ⟨pb,1,none⟩=some (.slice A n c)∧W.cell? ⟨bq,off,none⟩=some (.int .i64 i)) (hm:2≤m) (hm2:m≤1000000) (hw:IntKind.i64.wrap ((n:Int)-1)=(n:Int)-1) (hwi:withinB i 0 ((n:Int)-1)=r)
 (hQ:∀ W,(fun W=>Below w.heap.size w W) W→Q .normal { tmps:=((((((((((((((a.tmps.setIfInBounds 15 (.slice (some ⟨bq,off,none⟩) m lc)).setIfInBounds 16 (.int .i64 m)).setIfInBounds 17 (.bool false)).setIfInBounds 18 (.bool false)).setIfInBounds 19 (.slice (some ⟨bq,off,none⟩) m lc)).setIfInBounds 20 (.pointer (some ⟨bq,off,none⟩))).setIfInBounds 21 (.int .i64 i)).setIfInBounds 22 (.pointer (some ⟨pb,0+1,none⟩))).setIfInBounds 23 (.slice A n c)).setIfInBounds 24 (.int .i64 n)).setIfInBounds 25 (.int .i64 (n-1))).setIfInBounds 26 (.bool r)).setIfInBounds 27 (.bool (!r))).setIfInBounds 28 (.bool (!r))),defers:=a.defers } W):
 cC.wp Tryz.prog Q a w:=by
 subst hc
 unfold codeccir4 Tryz.f75
 dsimp only
 refine wpIn_wide.1 (wpIn_region_vals (nn:=5) 50 (by kernel_rfl) (by kernel_rfl) hT.symm (valccir4 bq off m lc pb pts A n c i r) (fun W=>Below w.heap.size w W) ((Below.refl _ _).drew) ?_ ?_)
 · intro listed io o b W hi ho h
   obtain ⟨p0,p1,p2⟩:=CE W h.glob
   have hm1:¬(m:Int)<2:=(by omega)
   have hm3:(0:Int)<(m:Int):=(by omega)
   clear hQ
   obtain ⟨hun,oi,hoi,hall⟩:=mem_ready.1 hi
   have:oi=o:=Option.some.inj (hoi.symm.trans ho)
   subst this
   clear hoi hi
   have hlt:io<14:=(by have:=(Array.getElem?_eq_some_iff.1 ho).1;simpa using this)
   have hun':listed.getD io false=false:=getD_both hun
   have q1:b.tmps[1]?.getD undef=_:=(by simpa using (h.tab.old 1 (dst_no h.tab (by kernel_rfl))).trans t1)
   have q2:b.tmps[2]?.getD undef=_:=(by simpa using (h.tab.old 2 (dst_no h.tab (by kernel_rfl))).trans t2)
   have E:∀ (jj s:Nat) (v:Value),dstOf _ jj=some s→valccir4 bq off m lc pb pts A n c i r jj=v→listed.getD jj false=true→b.tmps[s]?.getD undef=v:=fun jj s v h1 h2 h3=>by rw [←h2];simpa using h.val jj s h1 h3
   have U0:∀ y,oi.guard=none→Region.wanted oi y=true:=fun y h=>by simp [Region.wanted,h]
   have U:∀ (jj d:Nat) (g v:Bool),oi.guard=some (jj,g)→dstOf _ jj=some d→valccir4 bq off m lc pb pts A n c i r jj = .bool v→⟨jj,.guard⟩∈oi.after→Region.wanted oi (yielded _ b.tmps)=(v==g):=fun jj d g v h1 h2 h3 h4=>wanted_of h h1 h2 (hall _ h4 rfl) h3
   rcases (by omega:io=0∨io=1∨io=2∨io=3∨io=4∨io=5∨io=6∨io=7∨io=8∨io=9∨io=10∨io=11∨io=12∨io=13) with rfl|rfl|rfl|rfl|rfl|rfl|rfl|rfl|rfl|rfl|rfl|rfl|rfl|rfl
   all_goals simp only [List.getElem?_toArray,List.getElem?_cons_zero,List.getElem?_cons_succ] at ho
   all_goals cases ho
   · rw [if_pos (U0 _ rfl)]
     exact wide_val (v:=.slice (some ⟨bq,off,none⟩) m lc) (by clear E U U0;go_simp;try rfl) ⟨rfl,h.glob⟩
   · rw [if_pos (U0 _ rfl)]
     have e0:=E 0 15 (.slice (some ⟨bq,off,none⟩) m lc) rfl rfl (hall ⟨0,.data⟩ (by simp) rfl)
     exact wide_val (v:=.int .i64 m) (by clear E U U0;go_simp;try rfl) ⟨rfl,h.glob⟩
   · rw [if_pos (U0 _ rfl)]
     have e1:=E 1 16 (.int .i64 m) rfl rfl (hall ⟨1,.data⟩ (by simp) rfl)
     exact wide_val (v:=.bool false) (by clear E U U0;go_simp;(try exact congrArg Value.bool (decide_eq_false (by omega)));(try omega)) ⟨rfl,h.glob⟩
   · rw [if_pos (U0 _ rfl)]
     have e2:=E 2 17 (.bool false) rfl rfl (hall ⟨2,.data⟩ (by simp) rfl)
     exact wide_val (v:=.bool false) (by clear E U U0;go_simp;try rfl) ⟨rfl,h.glob⟩
   · rw [U 3 18 false false rfl rfl rfl (by simp),if_pos (show (false==false)=true from rfl)]
     exact wide_val (v:=.slice (some ⟨bq,off,none⟩) m lc) (by clear E U U0;go_simp;try rfl) ⟨rfl,h.glob⟩
   · rw [U 3 18 false false rfl rfl rfl (by simp),if_pos (show (false==false)=true from rfl)]
     have e4:=E 4 19 (.slice (some ⟨bq,off,none⟩) m lc) rfl rfl (hall ⟨4,.data⟩ (by simp) rfl)
     exact wide_val (v:=.pointer (some ⟨bq,off,none⟩)) (by clear E U U0;go_simp;(try rfl);(try (intro h0;omega))) ⟨rfl,h.glob⟩
   · rw [U 3 18 false false rfl rfl rfl (by simp),if_pos (show (false==false)=true from rfl)]
     have e5:=E 5 20 (.pointer (some ⟨bq,off,none⟩)) rfl rfl (hall ⟨5,.data⟩ (by simp) rfl)
     exact wide_val (v:=.int .i64 i) (by clear E U U0;go_simp;try rfl) ⟨rfl,h.glob⟩
   · rw [U 3 18 false false rfl rfl rfl (by simp),if_pos (show (false==false)=true from rfl)]
     exact wide_val (v:=.pointer (some ⟨pb,0+1,none⟩)) (by clear E U U0;go_simp;try rfl) ⟨rfl,h.glob⟩
   · rw [U 3 18 false false rfl rfl rfl (by simp),if_pos (show (false==false)=true from rfl)]
     have e7:=E 7 22 (.pointer (some ⟨pb,0+1,none⟩)) rfl rfl (hall ⟨7,.data⟩ (by simp) rfl)
     exact wide_val (v:=.slice A n c) (by clear E U U0;go_simp;try rfl) ⟨rfl,h.glob⟩
   · rw [U 3 18 false false rfl rfl rfl (by simp),if_pos (show (false==false)=true from rfl)]
     have e8:=E 8 23 (.slice A n c) rfl rfl (hall ⟨8,.data⟩ (by simp) rfl)
     exact wide_val (v:=.int .i64 n) (by clear E U U0;go_simp;try rfl) ⟨rfl,h.glob⟩
   · rw [U 3 18 false false rfl rfl rfl (by simp),if_pos (show (false==false)=true from rfl)]
     have e9:=E 9 24 (.int .i64 n) rfl rfl (hall ⟨9,.data⟩ (by simp) rfl)
     exact wide_val (v:=.int .i64 (n-1)) (by clear E U U0;go_simp;try simp [hw]) ⟨rfl,h.glob⟩
   · rw [U 3 18 false false rfl rfl rfl (by simp),if_pos (show (false==false)=true from rfl)]
     have e6:=E 6 21 (.int .i64 i) rfl rfl (hall ⟨6,.data⟩ (by simp) rfl)
     have e10:=E 10 25 (.int .i64 (n-1)) rfl rfl (hall ⟨10,.data⟩ (by simp) rfl)
     clear E U U0
     refine wide_call (f:=79) (args:=#[.int .i64 i,.int .i64 0,.int .i64 (n-1)]) (by go_simp<;>(try exact ⟨by simpa [Act.eval] using e6,by simpa [Act.eval] using e10⟩)) ((within_any _ _ _ W).mono ?_)
     rintro e w' ⟨rfl,rfl⟩
     rw [hwi]
     exact ⟨_,rfl,rfl,h.glob⟩
   · rw [U 3 18 false false rfl rfl rfl (by simp),if_pos (show (false==false)=true from rfl)]
     have e11:=E 11 26 (.bool r) rfl rfl (hall ⟨11,.data⟩ (by simp) rfl)
     exact wide_val (v:=.bool (!r)) (by clear E U U0;go_simp;try rfl) ⟨rfl,h.glob⟩
   · rw [if_pos (U0 _ rfl)]
     have e3:=E 3 18 (.bool false) rfl rfl (hall ⟨3,.data⟩ (by simp) rfl)
     have e12:=E 12 27 (.bool (!r)) rfl rfl (hall ⟨12,.data⟩ (by simp) rfl)
     exact wide_val (v:=.bool (!r)) (by clear E U U0;go_simp;try rfl) ⟨rfl,h.glob⟩
 · intro W hg
   have:=hQ W hg
   simp only [List.size_toArray,bareL,bare,List.map_cons,List.map_nil,List.length_cons,List.length_nil,Nat.reduceAdd,framed,dstOf,List.getElem?_toArray,List.getElem?_cons_zero,List.getElem?_cons_succ,Option.bind_some,valccir4]
   exact this
open Go.Shelf
theorem CheckCircle_any (pts:Int) (A:Option Addr) (n c:Nat) (bs:List Bound) (L:Option Addr) (m lc:Nat) (l:List Int) (w:World) (hl:Rd encBound 4 w A n c bs) (hL:Rd encInt 1 w L m lc l) (hk:checkSys pts bs=0) (hm:m≤1000000):
 Calls Tryz.prog 75 #[.agg #[.int .i64 pts,.slice A n c],.slice L m lc] w fun e w'=>e = .returned (.tuple #[.bool (circleB bs l),.int .i64 0])∧Below w.heap.size w w':=by
 have hok:=sysOk_of hk
 obtain ⟨w1,hw1⟩:∃ w1,w.alloc (.cells #[.int .i64 pts,.slice A n c] 83)=w1:=⟨_,rfl⟩
 have hb1:Below w.heap.size w w1:=(by rw [←hw1];exact (Below.refl _ w).alloc (Nat.le_refl _) _)
 have hh1:w1.heap[w.heap.size]? = some (.cells #[.int .i64 pts,.slice A n c] 83 (0,0)):=(by rw [←hw1];exact heap_alloc_new w _)
 have hz1:w.heap.size<w1.heap.size:=(Array.getElem?_eq_some_iff.1 hh1).1
 have d0:w1.cell? ⟨w.heap.size,0,none⟩=some (.int .i64 pts):=(by simp [World.cell?,hh1])
 have d1:w1.cell? ⟨w.heap.size,1,none⟩=some (.slice A n c):=(by simp [World.cell?,hh1])
 have hck:=CheckSystem_any pts A n c bs w1 (hl.below hb1 (Nat.le_refl _))
 rw [hk] at hck
 have HC:=Lib.hid hck
 have HB1:=Lib.hid hb1
 have HW1:=Lib.hid hw1
 have HH1:=Lib.hid hh1
 have hlL:=hL.len
 have hll:=hl.len
 clear hck hb1 hw1 hh1
 by_cases h2:2≤m
 case neg=>
  have hv0:circleB bs l=false:=by unfold circleB;rw [decide_eq_false (by omega),Bool.false_and]
  rw [hv0]
  have hlt:(m:Int)<2:=by omega
  have hdl:decide ((m:Int)<2)=true:=decide_eq_true hlt
  clear hv0 hl hL hk hok hlL hll h2
  go_enter Tryz.func75,Tryz.ntmps75
  go_upto_region 4 with (first|rw [HW1.out]|(go_at_call 70;(with_reducible refine HC.out.mono ?_);rintro e w2 ⟨rfl,hb2⟩;have HB2:=Lib.hid (HB1.out.trans (hb2.mono (Nat.le_of_lt hz1)));clear hb2))
  go_wp2_with (go_quiet (fail))
  go_ret2
  exact ⟨rfl,by first|exact HB2.out|exact HB2.out.drew|exact below_drewN' HB2.out _⟩
 case pos=>
  obtain ⟨bq,off,i,rfl,hbq,hi,hci⟩:=hL.one (show 0<m by omega)
  have g0:w.cell? ⟨bq,off,none⟩=some (.int .i64 i):=by have:=hci 0 _ rfl;simpa using this
  have hi0:l.getD 0 0=i:=by rw [List.getD_eq_getElem?_getD,hi];rfl
  have hwr:IntKind.i64.wrap ((n:Int)-1)=(n:Int)-1:=(by have:=hl.len;rw [IntKind.wrap_i64];have:=hok.len;omega)
  by_cases hin:0≤i∧i<bs.length
  case neg=>
   have hv1:circleB bs l=false:=by
    unfold circleB
    rw [alongV_none (k:=0+1) (by rw [along_next hi rfl];exact step_no fun h=>hin h.1) (by omega)]
    simp
   rw [hv1]
   have HWI:=Lib.hid (show withinB i 0 ((n:Int)-1)=false by rw [←Bool.not_eq_true,withinB_iff];omega)
   have CE:Hid (∀ W,Below w1.heap.size w1 W→(W.cell? ⟨w.heap.size,0,none⟩=some (.int .i64 pts)∧W.cell? ⟨w.heap.size,1,none⟩=some (.slice A n c)∧W.cell? ⟨bq,off,none⟩=some (.int .i64 i))):=(show ∀ W,Below w1.heap.size w1 W→_ from fun W hW=>by
    have e:=(hW.block _ hz1).trans HH1.out
    have e2:=HB1.out.trans (hW.mono (Nat.le_of_lt hz1))
    exact ⟨by simp [World.cell?,e],by simp [World.cell?,e],(e2.cell (p:=⟨bq,off,none⟩) hbq).trans g0⟩)
   have HWR:=Lib.hid hwr
   clear hwr g0 hv1 hi0 hci hi hl hL hk hok hin hlL hll
   go_enter Tryz.func75,Tryz.ntmps75
   go_upto_region 4 with (first|rw [HW1.out]|(go_at_call 70;(with_reducible refine HC.out.mono ?_);rintro e w2 ⟨rfl,hb2⟩;have HB2:=Lib.hid hb2;clear hb2))
   refine ccir4 _ rfl bq off m lc w.heap.size pts A n c i false _ w2 _ rfl rfl rfl (fun W hW=>CE.out W (HB2.out.trans (hW.mono HB2.out.size))) h2 hm HWR.out HWI.out ?_
   intro w3 hb3
   have HB3:=Lib.hid (HB1.out.trans ((HB2.out.trans (hb3.mono HB2.out.size)).mono (Nat.le_of_lt hz1)))
   clear hb3
   simp only [List.setIfInBounds_toArray,List.set_cons_succ,List.set_cons_zero,Bool.not_false]
   go_wp2_with (fail)
   go_ret2
   exact ⟨rfl,HB3.out⟩
  obtain ⟨v1,v2⟩:=hin
  obtain ⟨j,hj⟩:∃ j:Nat,i=(j:Int):=⟨i.toNat,by omega⟩
  subst hj
  have hjn:j<n:=by omega
  obtain ⟨bb,ob,x,rfl,hbb,hx,hcx⟩:=hl.one hjn
  have hbnd:bnd bs (l.getD 0 0)=x:=by unfold bnd;rw [hi0,Int.toNat_natCast,List.getD_eq_getElem?_getD,hx];rfl
  have g1:w.cell? ⟨bb,ob+j * 4,none⟩=some (.int .i64 x.src):=hcx 0 _ rfl
  have hv1:circleB bs l=((alongV bs x.src x.src l).2&&decide ((alongV bs x.src x.src l).1<0)):=by unfold circleB;rw [decide_eq_true (by omega),Bool.true_and,hbnd]
  rw [hv1]
  have hal:∀ W,Below w.heap.size w W→Calls Tryz.prog 116 #[.agg #[.int .i64 pts,.slice (some ⟨bb,ob,none⟩) n c],.int .i64 x.src,.int .i64 x.src,.slice (some ⟨bq,off,none⟩) m lc] W fun e w'=>e = .returned (.tuple #[.int .i64 (alongV bs x.src x.src l).1,.bool (alongV bs x.src x.src l).2])∧Below W.heap.size W w':=fun W hW=>along_any pts _ n c bs x.src x.src _ m lc l W (hl.below hW (Nat.le_refl _)) (hL.below hW (Nat.le_refl _)) hok hm
  generalize alongV bs x.src x.src l=r at *
  obtain ⟨sm,okb⟩:=r
  dsimp only at hal ⊢
  have hwi:withinB (j:Int) 0 ((n:Int)-1)=true:=withinB_iff.2 ⟨by omega,by omega⟩
  have CE:Hid (∀ W,Below w1.heap.size w1 W→(W.cell? ⟨w.heap.size,0,none⟩=some (.int .i64 pts)∧W.cell? ⟨w.heap.size,1,none⟩=some (.slice (some ⟨bb,ob,none⟩) n c)∧W.cell? ⟨bq,off,none⟩=some (.int .i64 (j:Int)))∧W.cell? ⟨bb,ob+j * 4,none⟩=some (.int .i64 x.src)):=(show ∀ W,Below w1.heap.size w1 W→_ from fun W hW=>by
   have e:=(hW.block _ hz1).trans HH1.out
   have e2:=HB1.out.trans (hW.mono (Nat.le_of_lt hz1))
   exact ⟨⟨by simp [World.cell?,e],by simp [World.cell?,e],(e2.cell (p:=⟨bq,off,none⟩) hbq).trans g0⟩,(e2.cell (p:=⟨bb,ob+j * 4,none⟩) hbb).trans g1⟩)
  have HAL:=Lib.hid hal
  have HWI:=Lib.hid hwi
  have HWR:=Lib.hid hwr
  clear hal hwi hwr g0 g1 hv1 hbnd hi0 hcx hci hi hx hl hL hk hok
  go_enter Tryz.func75,Tryz.ntmps75
  go_upto_region 4 with (first|rw [HW1.out]|(go_at_call 70;(with_reducible refine HC.out.mono ?_);rintro e w2 ⟨rfl,hb2⟩;have HB2:=Lib.hid hb2;clear hb2))
  refine ccir4 _ rfl bq off m lc w.heap.size pts _ n c (j:Int) true _ w2 _ rfl rfl rfl (fun W hW=>(CE.out W (HB2.out.trans (hW.mono HB2.out.size))).1) h2 hm HWR.out HWI.out ?_
  intro w3 hb3
  have hb13:=HB2.out.trans (hb3.mono HB2.out.size)
  obtain ⟨⟨c0,c1,c2⟩,c3⟩:=CE.out w3 hb13
  have hz3:=hb13.size
  have hbw:bb<w3.heap.size:=(by omega)
  have hbw2:bq<w3.heap.size:=(by omega)
  have hbw3:w.heap.size<w3.heap.size:=(by omega)
  have HB3:=Lib.hid (HB1.out.trans (hb13.mono (Nat.le_of_lt hz1)))
  clear hb3 hb13
  simp only [List.setIfInBounds_toArray,List.set_cons_succ,List.set_cons_zero,Bool.not_true]
  cases okb
  all_goals
   go_upto_region 6 with (fail)
   go_quiet (fail)
   go_wp2_with (go_at_call 116;(with_reducible refine (HAL.out _ (by first|exact HB3.out|exact HB3.out.drew|exact below_drewN' HB3.out _)).mono ?_);rintro e w9 ⟨rfl,hb9⟩;have HB9:=Lib.hid hb9;clear hb9)
   go_ret2
   exact ⟨by first|rfl|simp,by first|exact HB3.out.trans (HB9.out.mono HB3.out.size)|exact HB3.out.drew.trans (HB9.out.mono HB3.out.size)|exact (below_drewN' HB3.out _).trans (HB9.out.mono HB3.out.size)⟩
def clashN (A B:Outl) (p:Pairing) (tn:Bool):Int:=if tn then dirsN A B p else waysN A B p
def clashL (A B:Outl) (p:Pairing) (tn:Bool):List Bound:=if tn then dirsB A B p else waysB A B p
def clashB (A B:Outl) (p:Pairing) (tn:Bool) (l:List Int):Bool:=decide (askedErr A B p=0)&&circleB (clashL A B p tn) l
theorem clash_sys {A B:Outl} {p:Pairing} (h:AskOk A B p) (tn:Bool):checkSys (clashN A B p tn) (clashL A B p tn)=0:=by
 cases tn
 · exact h.ways_sys
 · exact h.dirs_sys
def TwoSys (A B:Outl) (p:Pairing) (u:Value) (W:World):Prop:=∃ A1 k1 c1 A2 k2 c2,u = .agg #[.int .i64 (waysN A B p),.slice A1 k1 c1,.int .i64 (dirsN A B p),.slice A2 k2 c2]∧Rd encBound 4 W A1 k1 c1 (waysB A B p)∧Rd encBound 4 W A2 k2 c2 (dirsB A B p)
def OneSys (N:Int) (l:List Bound) (v:Value) (W:World):Prop:=∃ A' k c',v = .agg #[.int .i64 N,.slice A' k c']∧Rd encBound 4 W A' k c' l
theorem systems_two (A:Outl) (AwA:Option Addr) (Awn Awc:Nat) (AtA:Option Addr) (Atn Atc:Nat) (B:Outl) (BwA:Option Addr) (Bwn Bwc:Nat) (BtA:Option Addr) (Btn Btc:Nat) (p:Pairing) (w:World) (Aw:Rd encBound 4 w AwA Awn Awc A.ways) (At:Rd encBound 4 w AtA Atn Atc A.turns) (Bw:Rd encBound 4 w BwA Bwn Bwc B.ways) (Bt:Rd encBound 4 w BtA Btn Btc B.turns) (h:AskOk A B p):
 Calls Tryz.prog 42 #[.agg #[.int .i64 A.n,.slice AwA Awn Awc,.slice AtA Atn Atc,.int .i64 B.n,.slice BwA Bwn Bwc,.slice BtA Btn Btc,.int .i64 p.a.lo,.int .i64 p.a.hi,.int .i64 p.b.lo,.int .i64 p.b.hi]] w fun e w'=> ∃ u,e = .returned u∧Below w.heap.size w w'∧TwoSys A B p u w':=by
 have l1:=Aw.len;have l2:=At.len;have l3:=Bw.len;have l4:=Bt.len
 have r1:=h.r1;have r2:=h.r2
 refine (psystems_any A AwA Awn Awc AtA Atn Atc B BwA Bwn Bwc BtA Btn Btc p w Aw At Bw Bt h.toPairOk).mono ?_
 rintro e w' ⟨A1,c1,A2,c2,rfl,hb,h1,h2⟩
 exact ⟨_,rfl,hb,A1,_,c1,A2,_,c2,rfl,h1.rd (Aw.below hb (Nat.le_refl _)) (by omega),h2.rd (At.below hb (Nat.le_refl _)) (by omega)⟩
theorem system_one {A B:Outl} {p:Pairing} {u:Value} {W:World} (h:TwoSys A B p u W) (tn:Bool) (sl:Value):
 Calls Tryz.prog 50 #[u,.agg #[.bool tn,sl]] W fun e w'=> ∃ v,e = .returned v∧Below W.heap.size W w'∧OneSys (clashN A B p tn) (clashL A B p tn) v w':=by
 obtain ⟨A1,k1,c1,A2,k2,c2,rfl,h1,h2⟩:=h
 refine (system_any _ A1 k1 c1 _ A2 k2 c2 tn sl W).mono ?_
 rintro e w' ⟨rfl,hb⟩
 refine ⟨_,rfl,hb,?_⟩
 cases tn
 · exact ⟨A1,k1,c1,rfl,h1.below hb (Nat.le_refl _)⟩
 · exact ⟨A2,k2,c2,rfl,h2.below hb (Nat.le_refl _)⟩
theorem CheckClash_any (A:Outl) (AwA:Option Addr) (Awn Awc:Nat) (AtA:Option Addr) (Atn Atc:Nat) (B:Outl) (BwA:Option Addr) (Bwn Bwc:Nat) (BtA:Option Addr) (Btn Btc:Nat) (p:Pairing) (tn:Bool) (L:Option Addr) (m lc:Nat) (l:List Int) (w:World) (Aw:Rd encBound 4 w AwA Awn Awc A.ways) (At:Rd encBound 4 w AtA Atn Atc A.turns) (Bw:Rd encBound 4 w BwA Bwn Bwc B.ways) (Bt:Rd encBound 4 w BtA Btn Btc B.turns) (hL:Rd encInt 1 w L m lc l) (hm:m≤1000000):
 Calls Tryz.prog 48 #[.agg #[.int .i64 A.n,.slice AwA Awn Awc,.slice AtA Atn Atc],.agg #[.int .i64 B.n,.slice BwA Bwn Bwc,.slice BtA Btn Btc],.agg #[.int .i64 p.a.lo,.int .i64 p.a.hi,.int .i64 p.b.lo,.int .i64 p.b.hi],.agg #[.bool tn,.slice L m lc]] w fun e w'=>e = .returned (.tuple #[.bool (clashB A B p tn l),.int .i64 (askedErr A B p)])∧Below w.heap.size w w':=by
 obtain ⟨w1,hw1,hb1,hz1,hbx⟩:=boxABP w A AwA Awn Awc AtA Atn Atc B BwA Bwn Bwc BtA Btn Btc p
 obtain ⟨w2,a2,b2,z2,e2⟩:=alloc_facts w1 #[.bool tn,.slice L m lc] 53
 have KX:=Lib.hid hbx
 have RA:Hid (∀ W,Below w1.heap.size w1 W→Rd encBound 4 W AwA Awn Awc A.ways):=(show ∀ W,_→_ from fun W h=>(Aw.below hb1 (Nat.le_refl _)).below h (Nat.le_refl _))
 have RT:Hid (∀ W,Below w1.heap.size w1 W→Rd encBound 4 W AtA Atn Atc A.turns):=(show ∀ W,_→_ from fun W h=>(At.below hb1 (Nat.le_refl _)).below h (Nat.le_refl _))
 have RB:Hid (∀ W,Below w1.heap.size w1 W→Rd encBound 4 W BwA Bwn Bwc B.ways):=(show ∀ W,_→_ from fun W h=>(Bw.below hb1 (Nat.le_refl _)).below h (Nat.le_refl _))
 have RU:Hid (∀ W,Below w1.heap.size w1 W→Rd encBound 4 W BtA Btn Btc B.turns):=(show ∀ W,_→_ from fun W h=>(Bt.below hb1 (Nat.le_refl _)).below h (Nat.le_refl _))
 have RL:Hid (∀ W,Below w1.heap.size w1 W→Rd encInt 1 W L m lc l):=(show ∀ W,_→_ from fun W h=>(hL.below hb1 (Nat.le_refl _)).below h (Nat.le_refl _))
 have K1:=Lib.hid (fun W (h:Below w1.heap.size w1 W)=>asked_any A AwA Awn Awc AtA Atn Atc B BwA Bwn Bwc BtA Btn Btc p W (RA.out W h) (RT.out W h) (RB.out W h) (RU.out W h))
 have HB1:=Lib.hid hb1
 have HB12:=Lib.hid b2
 have HW1:=Lib.hid hw1
 have HW2:=Lib.hid a2
 have HE2:=Lib.hid e2
 obtain ⟨xa0,xa1,xa2,xb0,xb1,xb2,xp0,xp1,xp2,xp3⟩:=KX.out w2 b2
 clear Aw At Bw Bt hb1 hbx hw1 a2 b2 e2 hL
 by_cases h1:askedErr A B p=0
 case neg=>
  have hv:clashB A B p tn l=false:=by unfold clashB;rw [decide_eq_false h1,Bool.false_and]
  rw [hv]
  have h1':(askedErr A B p != 0)=true:=by simpa using h1
  clear h1 hv
  generalize askedErr A B p=er at *
  go_enter Tryz.func48,Tryz.ntmps48
  go_wp2_with (first
   | rw [HW1.out]
   | rw [HW2.out]
   | (go_at_call 28;(with_reducible refine (K1.out _ HB12.out).mono ?_);rintro e w3 ⟨rfl,hb3⟩;have HB3:=Lib.hid (HB12.out.trans (hb3.mono HB12.out.size));clear hb3))
  go_ret2
  exact ⟨rfl,(HB1.out.trans (HB3.out.mono HB1.out.size)).alloc (HB1.out.trans (HB3.out.mono HB1.out.size)).size _⟩
 case pos=>
  have hok:=askedErr_zero.1 h1
  have hv:clashB A B p tn l=circleB (clashL A B p tn) l:=by unfold clashB;rw [decide_eq_true h1,Bool.true_and]
  rw [hv]
  have C1:Hid (∀ W,Below w1.heap.size w1 W→Calls Tryz.prog 42 #[.agg #[.int .i64 A.n,.slice AwA Awn Awc,.slice AtA Atn Atc,.int .i64 B.n,.slice BwA Bwn Bwc,.slice BtA Btn Btc,.int .i64 p.a.lo,.int .i64 p.a.hi,.int .i64 p.b.lo,.int .i64 p.b.hi]] W fun e w'=> ∃ u,e = .returned u∧Below W.heap.size W w'∧TwoSys A B p u w'):=(show ∀ W,_→_ from fun W h=>systems_two A AwA Awn Awc AtA Atn Atc B BwA Bwn Bwc BtA Btn Btc p W (RA.out W h) (RT.out W h) (RB.out W h) (RU.out W h) hok)
  have C3:Hid (∀ W v,Below w1.heap.size w1 W→OneSys (clashN A B p tn) (clashL A B p tn) v W→Calls Tryz.prog 75 #[v,.slice L m lc] W fun e w'=> ∃ a b,e = .returned (.tuple #[a,b])∧Below W.heap.size W w'∧(a = .bool (circleB (clashL A B p tn) l)∧b = .int .i64 0)):=(show ∀ W v,_→_→_ from by
   rintro W v h ⟨A',k,c',rfl,hr⟩
   refine (CheckCircle_any _ A' k c' _ L m lc l W hr (RL.out W h) (clash_sys hok tn) hm).mono ?_
   rintro e w' ⟨rfl,hb⟩
   exact ⟨_,_,rfl,hb,rfl,rfl⟩)
  rw [h1] at K1 ⊢
  clear h1 hv hok
  go_enter Tryz.func48,Tryz.ntmps48
  go_upto_region 4 with (first
   | rw [HW1.out]
   | rw [HW2.out]
   | (go_at_call 28;(with_reducible refine (K1.out _ HB12.out).mono ?_);rintro e w3 ⟨rfl,hb3⟩
      obtain ⟨w4,a4,b4,z4,e4⟩:=alloc_facts w3 #[.int .i64 A.n,.slice AwA Awn Awc,.slice AtA Atn Atc,.int .i64 B.n,.slice BwA Bwn Bwc,.slice BtA Btn Btc,.int .i64 p.a.lo,.int .i64 p.a.hi,.int .i64 p.b.lo,.int .i64 p.b.hi] 77
      have HB4:=Lib.hid (HB12.out.trans ((hb3.trans (b4.mono hb3.size)).mono HB12.out.size))
      have HH:=Lib.hid (((b4.block w1.heap.size (by have:=hb3.size;omega)).trans (hb3.block w1.heap.size (by omega))).trans HE2.out)
      have E4:=Lib.hid e4
      have Z4:=Lib.hid z4
      have Z3:=Lib.hid hb3.size
      have HA4:=Lib.hid a4
      clear hb3 a4 b4 z4 e4)
   | rw [HA4.out])
  have HCE:Hid (∀ W,Below w4.heap.size w4 W→Below w1.heap.size w1 W∧(W.cell? ⟨w3.heap.size,0,none⟩=some (.int .i64 A.n)∧W.cell? ⟨w3.heap.size,1,none⟩=some (.slice AwA Awn Awc)∧W.cell? ⟨w3.heap.size,2,none⟩=some (.slice AtA Atn Atc)∧W.cell? ⟨w3.heap.size,3,none⟩=some (.int .i64 B.n)∧W.cell? ⟨w3.heap.size,4,none⟩=some (.slice BwA Bwn Bwc)∧W.cell? ⟨w3.heap.size,5,none⟩=some (.slice BtA Btn Btc)∧W.cell? ⟨w3.heap.size,6,none⟩=some (.int .i64 p.a.lo)∧W.cell? ⟨w3.heap.size,7,none⟩=some (.int .i64 p.a.hi)∧W.cell? ⟨w3.heap.size,8,none⟩=some (.int .i64 p.b.lo)∧W.cell? ⟨w3.heap.size,9,none⟩=some (.int .i64 p.b.hi)∧W.cell? ⟨w.heap.size+1+1+1,0,none⟩=some (.bool tn)∧W.cell? ⟨w.heap.size+1+1+1,1,none⟩=some (.slice L m lc))):=(show ∀ W,_→_ from fun W hW=>by
   have hB:=HB4.out.trans (hW.mono HB4.out.size)
   have hh:=(hW.block w3.heap.size (by have:=Z4.out;omega)).trans E4.out
   have hf:=(hW.block w1.heap.size (by have:=Z4.out;have:=Z3.out;omega)).trans HH.out
   rw [hz1] at hf
   obtain ⟨c0,c1,c2,c3,c4,c5,c6,c7,c8,c9⟩:=ten_cells hh
   exact ⟨hB,c0,c1,c2,c3,c4,c5,c6,c7,c8,c9,by simp [World.cell?,hf],by simp [World.cell?,hf]⟩)
  refine cls4 _ rfl w3.heap.size (w.heap.size+1+1+1) (.int .i64 A.n) (.slice AwA Awn Awc) (.slice AtA Atn Atc) (.int .i64 B.n) (.slice BwA Bwn Bwc) (.slice BtA Btn Btc) (.int .i64 p.a.lo) (.int .i64 p.a.hi) (.int .i64 p.b.lo) (.int .i64 p.b.hi) (.bool tn) (.slice L m lc) _ w4 _ rfl rfl rfl (TwoSys A B p) (OneSys (clashN A B p tn) (clashL A B p tn)) (fun a b _=>a = .bool (circleB (clashL A B p tn) l)∧b = .int .i64 0) (fun W hW=>(HCE.out W hW).2) (fun W hW=>C1.out W (HCE.out W hW).1) (fun W u hW hu=>system_one hu tn _) (fun W v hW hv=>C3.out W v (HCE.out W hW).1 hv) ?_
  rintro u v _ _ w5 hb5 ⟨rfl,rfl⟩
  have HB5:=Lib.hid (HB1.out.trans ((HB4.out.trans (hb5.mono HB4.out.size)).mono HB1.out.size))
  clear hb5
  simp only [setsL,List.setIfInBounds_toArray,List.set_cons_succ,List.set_cons_zero,Nat.reduceAdd]
  go_wp2
  go_ret2
  exact ⟨rfl,HB5.out⟩
end Go.Proofs.YtpmkgmilfifkpaaGreatDoor
end
section
namespace Go.Proofs.YtpmkgmilfifkpaaGreatDoor
def insI (x:Int):List Int→List Int
 | []=> [x]
 | y::ys=>if x<y then x::y::ys else if x=y then y::ys else y::insI x ys
def idsE:List Int→List Int
 | []=> []
 | x::xs=>if x=0 then idsE xs else insI x (idsE xs)
theorem insI_mem {x z:Int} :∀ {l:List Int},z∈insI x l↔z=x∨z∈l
 | []=>by simp [insI]
 | y::ys=>by
   unfold insI
   split
   · simp
   · split
     · rename_i h;subst h;simp
     · rw [List.mem_cons,insI_mem (l:=ys),List.mem_cons]
       constructor
       · rintro (h|h|h)
         · exact .inr (.inl h)
         · exact .inl h
         · exact .inr (.inr h)
       · rintro (h|h|h)
         · exact .inr (.inl h)
         · exact .inl h
         · exact .inr (.inr h)
theorem insI_asc {x:Int} :∀ {l:List Int},l.Pairwise (· < ·)→(insI x l).Pairwise (· < ·)
 | [],_=>by simp [insI]
 | y::ys,h=>by
   obtain ⟨h1,h2⟩:=List.pairwise_cons.1 h
   unfold insI
   split
   · rename_i hlt
     refine List.pairwise_cons.2 ⟨fun z hz=> ?_,h⟩
     rcases List.mem_cons.1 hz with rfl|hz
     · exact hlt
     · have:=h1 z hz;omega
   · split
     · exact h
     · refine List.pairwise_cons.2 ⟨fun z hz=> ?_,insI_asc h2⟩
       rcases insI_mem.1 hz with rfl|hz
       · omega
       · exact h1 z hz
theorem idsE_mem {z:Int} :∀ {l:List Int},z∈idsE l↔z≠0∧z∈l
 | []=>by simp [idsE]
 | x::xs=>by
   unfold idsE
   split
   · rename_i h;subst h
     rw [idsE_mem (l:=xs),List.mem_cons]
     exact ⟨fun h=>⟨h.1,.inr h.2⟩,fun h=>⟨h.1,h.2.resolve_left h.1⟩⟩
   · rename_i h
     rw [insI_mem,idsE_mem (l:=xs),List.mem_cons]
     constructor
     · rintro (rfl|h')
       · exact ⟨h,.inl rfl⟩
       · exact ⟨h'.1,.inr h'.2⟩
     · rintro ⟨h1,h2|h2⟩
       · exact .inl h2
       · exact .inr ⟨h1,h2⟩
theorem idsE_asc:∀ (l:List Int),(idsE l).Pairwise (· < ·)
 | []=>by simp [idsE]
 | x::xs=>by
   unfold idsE
   split
   · exact idsE_asc xs
   · exact insI_asc (idsE_asc xs)
theorem asc_nodup {l:List Int} (h:l.Pairwise (· < ·)):l.Nodup:=h.imp (fun h=>by omega)
end Go.Proofs.YtpmkgmilfifkpaaGreatDoor
end

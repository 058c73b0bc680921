/- Contracts that the laws lean on: Alon, IxLk, CCiR, CCir, Ctra, CCon. -/
import Derived.Test.YtelnkflmnbhclaaGreatPfH03
set_option maxRecDepth 100000
set_option maxHeartbeats 8000000
section
namespace Go.Proofs.YtelnkflmnbhclaaGreat
open Go.RowKit Go.Proofs Go.Shelf
structure Flags (W:World) (g:Nat) (r:List Bool):Prop where
 at_:W.heap[g]? = some (.cells (r.map Value.bool).toArray 287 (0,0))
 len:r.length=60
theorem Flags.cell {W:World} {g:Nat} {r:List Bool} (h:Flags W g r) {i:Nat} (hi:i<60):W.cell? ⟨g,i,none⟩=some (.bool (r.getD i false)):=by
 have h1:=h.at_;have h2:=h.len;simp [World.cell?,h1,List.getD_eq_getElem?_getD,List.getElem?_eq_getElem (show i<r.length by omega)]
theorem Flags.free {W:World} {g:Nat} {r:List Bool} (h:Flags W g r) (i:Nat):W.frozen? ⟨g,i,none⟩=false:=by
 have h1:=h.at_;simp [World.frozen?,h1]
theorem Flags.lt {W:World} {g:Nat} {r:List Bool} (h:Flags W g r):g<W.heap.size:=(Array.getElem?_eq_some_iff.1 h.at_).1
theorem Flags.set {W:World} {g:Nat} {r:List Bool} (h:Flags W g r) (i:Nat):Flags (W.setCell ⟨g,i,none⟩ (.bool true)) g (r.set i true):=
 ⟨by rw [heap_setCell_obj h.at_];simp [List.map_set],by rw [List.length_set];exact h.len⟩
theorem Flags.other {W:World} {g b i:Nat} {v:Value} {r:List Bool} (h:Flags W g r) (hne:g≠b):Flags (W.setCell ⟨b,i,none⟩ v) g r:=
 ⟨(Below.heap_setCell _ _ _ g hne).trans h.at_,h.len⟩
theorem Flags.below {W W':World} {g:Nat} {r:List Bool} (h:Flags W g r) (hb:Below W.heap.size W W'):Flags W' g r:=⟨(hb.block g h.lt).trans h.at_,h.len⟩
theorem Flags.drewN {W:World} {g:Nat} {r:List Bool} (h:Flags W g r) (m:Nat):Flags (W.drewN m) g r:=⟨h.at_,h.len⟩
theorem Flags.alloc {W:World} {g:Nat} {r:List Bool} (h:Flags W g r) (o:Obj):Flags (W.alloc o) g r:=⟨(Below.heap_alloc _ _ _ h.lt).trans h.at_,h.len⟩
theorem Flags.drew {W:World} {g:Nat} {r:List Bool} (h:Flags W g r):Flags W.drew g r:=⟨h.at_,h.len⟩
theorem along_none {bs:List Bound} {l:List Int} {a:Int} {k:Nat} (h:alongTo bs l a k=none):∀ m,k≤m→alongTo bs l a m=none
 | 0,hm=>by
   have:k=0:=by omega
   subst this;exact h
 | m+1,hm=>by
   rcases Nat.lt_or_ge m k with hlt|hge
   · have:k=m+1:=by omega
     subst this;exact h
   · have ih:=along_none h m hge
     rw [alongTo]
     split
     · rw [ih];rfl
     · exact ih
theorem alongV_none {bs:List Bound} {l:List Int} {a b:Int} {k:Nat} (h:alongTo bs l a k=none) (hk:k≤l.length):alongV bs a b l=(0,false):=by
 unfold alongV;rw [along_none h _ hk]
theorem along_next {bs:List Bound} {l:List Int} {a:Int} {k:Nat} {i:Int} {st:AlSt} (hi:l[k]? = some i) (h:alongTo bs l a k=some st):alongTo bs l a (k+1)=alongStep bs st i:=by
 rw [alongTo,hi,h];rfl
theorem zero287:(Tryz.prog.info? 287).map (·.zero)=some (some (.agg (List.replicate 60 (Value.bool false)).toArray)):=by kernel_rfl
theorem flags_new (w:World):Flags (w.alloc (.cells (List.replicate 60 (Value.bool false)).toArray 287)) w.heap.size (List.replicate 60 false):=
 ⟨by rw [heap_alloc_new];simp,by simp⟩
theorem step_no {bs:List Bound} {st:AlSt} {i:Int} (h:¬((bnd bs i).src=st.pt∧st.frm.getD (bnd bs i).src.toNat false=false∧st.tos.getD (bnd bs i).dst.toNat false=false)):alongStep bs st i=none:=by unfold alongStep;rw [if_neg h]
theorem along_any (pts:Int) (A:Option Addr) (n c:Nat) (bs:List Bound) (a b:Int) (L:Option Addr) (m lc:Nat) (l:List Int) (w:World) (hl:Rd encBound 4 w A n c bs) (hL:Rd encInt 1 w L m lc l) (hok:SysOk pts bs) (hv:∀ i∈l,0≤i∧i<bs.length) (hm:m≤1000000):
 Calls Tryz.prog 213 #[.agg #[.int .i64 pts,.slice A n c],.int .i64 a,.int .i64 b,.slice L m lc] w fun e w'=>e = .returned (.tuple #[.int .i64 (alongV bs a b l).1,.bool (alongV bs a b l).2])∧Below w.heap.size w w':=by
 obtain ⟨w1,hw1⟩:∃ w1,w.alloc (.cells #[.int .i64 pts,.slice A n c] 117)=w1:=⟨_,rfl⟩
 obtain ⟨w2,hw2⟩:∃ w2,w1.alloc (.cells (List.replicate 60 (Value.bool false)).toArray 287)=w2:=⟨_,rfl⟩
 obtain ⟨w3,hw3⟩:∃ w3,w2.alloc (.cells (List.replicate 60 (Value.bool false)).toArray 287)=w3:=⟨_,rfl⟩
 have hb1:Below w.heap.size w w1:=(by rw [←hw1];exact (Below.refl _ w).alloc (Nat.le_refl _) _)
 have hz1:w.heap.size<w1.heap.size:=(by rw [←hw1];simp)
 have hb12:Below w1.heap.size w1 w2:=(by rw [←hw2];exact (Below.refl _ w1).alloc (Nat.le_refl _) _)
 have hz2:w1.heap.size<w2.heap.size:=(by rw [←hw2];simp)
 have hb23:Below w2.heap.size w2 w3:=(by rw [←hw3];exact (Below.refl _ w2).alloc (Nat.le_refl _) _)
 have hz3:w2.heap.size<w3.heap.size:=(by rw [←hw3];simp)
 have F1:Flags w3 w1.heap.size (List.replicate 60 false):=(by have:=flags_new w1;rw [hw2] at this;exact this.below hb23)
 have F2:Flags w3 w2.heap.size (List.replicate 60 false):=(by have:=flags_new w2;rw [hw3] at this;exact this)
 have hs1:w1.heap[w.heap.size]? = some (.cells #[.int .i64 pts,.slice A n c] 117 (0,0)):=(by rw [←hw1];exact heap_alloc_new w _)
 have HB13:=Lib.hid (hb12.trans (hb23.mono (Nat.le_of_lt hz2)));have hp2:=hok.p2;have hbl:=hok.len;have hln:=hl.len;have hLn:=Lib.hid hL.len;have HLB:=Lib.hid (hl.below hb1 (Nat.le_refl _));have HLL:=Lib.hid (hL.below hb1 (Nat.le_refl _));have HV:=Lib.hid hv;have HOK:=Lib.hid (fun b hb=>(hok.b b hb));have HF1:=Lib.hid F1;have HF2:=Lib.hid F2;have HS1:=Lib.hid hs1;have HB1:=Lib.hid hb1;have HW2:=Lib.hid hw2;have HW3:=Lib.hid hw3
 have hnn:n≤400:=(by omega)
 have HLN:=Lib.hid hln;clear hb1 hb12 hb23 F1 F2 hs1 hl hL hv hok hw2 hw3 hln hbl;go_enter Tryz.func213,Tryz.ntmps213;go_wp2_with (refine wpL_alloc (t:=287) rfl rfl zero287 ?_;first|rw [HW2.out]|rw [HW3.out]);go_loopw [12,13,20] (fun s12 s13 s20 wr=> ∃ (k:Nat) (st:AlSt),k≤m∧s12 = .int .i64 st.sum∧s13 = .int .i64 st.pt∧s20 = .int .i64 k∧(-(1000000 * (k:Int))≤st.sum∧st.sum≤1000000 * (k:Int))∧Hid (Below w1.heap.size w1 wr)∧Hid (alongTo bs l a k=some st)∧Hid (Flags wr w1.heap.size st.frm)∧Hid (Flags wr w2.heap.size st.tos)) (fun _ _ s20 _=>m-(intOf s20).toNat)
 case atStart=>exact ⟨0,⟨0,a,List.replicate 60 false,List.replicate 60 false⟩,Nat.zero_le _,rfl,rfl,rfl,⟨by simp,by simp⟩,HB13,(show _=_ from rfl),HF1,HF2⟩
 case round=>
  obtain ⟨k,st,hk,rfl,rfl,rfl,⟨hs1,hs2⟩,hb,hto,hf1,hf2⟩:=hrel;have hzr:=hb.out.size;have g1l:=hf1.out.lt;have g2l:=hf2.out.lt;by_cases hlt:k<m
  · obtain ⟨bi,oi,i,rfl,hbiw,hi,hci⟩:=(HLL.out.below hb.out (Nat.le_refl _)).one hlt
    have i0:wr.cell? ⟨bi,oi+k,none⟩=some (.int .i64 i):=(by have:=hci 0 _ rfl;simpa using this)
    obtain ⟨v1,v2⟩:=HV.out i (List.mem_of_getElem? hi)
    obtain ⟨j,hj⟩:∃ j:Nat,i=(j:Int):=⟨i.toNat,by omega⟩
    subst hj
    have hjn:j<n:=(by have:=HLN.out;omega)
    obtain ⟨bb,ob,x,rfl,hbbw,hx,hcx⟩:=(HLB.out.below hb.out (Nat.le_refl _)).one hjn
    have hbnd:Hid (bnd bs (j:Int)=x):=(show _=_ by unfold bnd;rw [Int.toNat_natCast,List.getD_eq_getElem?_getD,hx];rfl)
    have hxm:=HOK.out x (List.mem_of_getElem? hx);have HI:=Lib.hid hi;have c0:wr.cell? ⟨bb,ob+j * 4,none⟩=some (.int .i64 x.src):=hcx 0 _ rfl;have c1:wr.cell? ⟨bb,ob+j * 4+1,none⟩=some (.int .i64 x.dst):=hcx 1 _ rfl;have c2:wr.cell? ⟨bb,ob+j * 4+2,none⟩=some (.int .i64 x.most):=hcx 2 _ rfl;have c3:wr.cell? ⟨bb,ob+j * 4+3,none⟩=some (.int .i64 x.by_):=hcx 3 _ rfl;clear hci hcx hi hx;obtain ⟨xs,xd,xm,xb⟩:=x;simp only at hxm c0 c1 c2 c3
    obtain ⟨sN,hsN⟩:∃ sN:Nat,xs=(sN:Int):=⟨xs.toNat,by omega⟩
    obtain ⟨dN,hdN⟩:∃ dN:Nat,xd=(dN:Int):=⟨xd.toNat,by omega⟩
    subst hsN;subst hdN
    have hs60:sN<60:=(by omega)
    have hd60:dN<60:=(by omega)
    have hh:=(hb.out.block _ hz1).trans HS1.out
    have y1:wr.cell? ⟨w.heap.size,1,none⟩=some (.slice (some ⟨bb,ob,none⟩) n c):=(by simp [World.cell?,hh])
    have hwl:w.heap.size<wr.heap.size:=(by omega)
    have hwi:withinB (j:Int) 0 ((n:Int)-1)=true:=withinB_iff.2 ⟨by omega,by omega⟩
    have hw0:IntKind.i64.wrap ((n:Int)-1)=(n:Int)-1:=(by rw [IntKind.wrap_i64];omega)
    have HWI:=Lib.hid hwi
    obtain ⟨b1,hb1⟩:∃ b1,st.frm.getD sN false=b1:=⟨_,rfl⟩
    obtain ⟨b2,hb2⟩:∃ b2,st.tos.getD dN false=b2:=⟨_,rfl⟩
    have f1:=hf1.out.cell hs60;have f2:=hf2.out.cell hd60;have e1:=hf1.out.free sN;have e2:=hf2.out.free dN;rw [hb1] at f1;rw [hb2] at f2;have HB1':=Lib.hid hb1;have HB2':=Lib.hid hb2
    have hng:¬w1.heap.size=w2.heap.size:=(by omega)
    have hng2:¬w2.heap.size=w1.heap.size:=(by omega)
    have hsum:IntKind.i64.wrap (st.sum+xm)=st.sum+xm:=(by rw [IntKind.wrap_i64];omega)
    have HXM:=Lib.hid hxm;clear hh hwi hb1 hb2 hxm
    rcases two_ (sN:Int) st.pt with ⟨k1,k2,k3⟩|⟨k1,k2,k3⟩
    case inr=>
     have K1:=Lib.hid k1;clear k1;go_wp2_with (go_at_call 200;(with_reducible refine (within_any _ _ _ _).mono ?_);rintro e w' ⟨rfl,hw'⟩;obtain rfl:=hw'.symm;rw [HWI.out]);go_ret2;exact ⟨by rw [alongV_none (k:=k+1) (by rw [along_next HI.out hto.out];exact step_no (by rw [hbnd.out];exact fun h=>K1.out h.1)) (by have:=hLn.out;omega)];rfl,HB1.out.trans ((hb.out.alloc hzr _).mono (by omega))⟩
    case inl=>
     have K1:=Lib.hid k1;clear k1
     cases b1 with
     | true=>
       go_wp2_with (go_at_call 200;(with_reducible refine (within_any _ _ _ _).mono ?_);rintro e w' ⟨rfl,hw'⟩;obtain rfl:=hw'.symm;rw [HWI.out]);go_ret2;exact ⟨by rw [alongV_none (k:=k+1) (by rw [along_next HI.out hto.out];exact step_no (by rw [hbnd.out];exact fun h=>by have h2:=h.2.1;simp only [Int.toNat_natCast] at h2;rw [HB1'.out] at h2;cases h2)) (by have:=hLn.out;omega)];rfl,HB1.out.trans ((hb.out.alloc hzr _).mono (by omega))⟩
     | false=>
       cases b2 with
       | true=>
         go_wp2_with (go_at_call 200;(with_reducible refine (within_any _ _ _ _).mono ?_);rintro e w' ⟨rfl,hw'⟩;obtain rfl:=hw'.symm;rw [HWI.out]);go_ret2;exact ⟨by rw [alongV_none (k:=k+1) (by rw [along_next HI.out hto.out];exact step_no (by rw [hbnd.out];exact fun h=>by have h2:=h.2.2;simp only [Int.toNat_natCast] at h2;rw [HB2'.out] at h2;cases h2)) (by have:=hLn.out;omega)];rfl,HB1.out.trans ((hb.out.alloc hzr _).mono (by omega))⟩
       | false=>
         have hnext:Hid (alongTo bs l a (k+1)=some ⟨st.sum+xm,(dN:Int),st.frm.set sN true,st.tos.set dN true⟩):=(show _=_ by
          rw [along_next HI.out hto.out];unfold alongStep;rw [hbnd.out];simp only [Int.toNat_natCast]
          rw [if_pos ⟨K1.out,HB1'.out,HB2'.out⟩])
         have hbb:=hb.out
         have hle2:w1.heap.size≤w2.heap.size:=(by omega)
         go_upto_region 11 with (go_at_call 200;(with_reducible refine (within_any _ _ _ _).mono ?_);rintro e w' ⟨rfl,hw'⟩;obtain rfl:=hw'.symm;rw [HWI.out])
         go_region
         all_goals
          go_wp2_with (go_quiet (fail));go_roundw
         all_goals first
          | (simp [intOf];omega)
          | exact ⟨k+1,⟨st.sum+xm,(dN:Int),st.frm.set sN true,st.tos.set dN true⟩,by omega,rfl,rfl,by go_num,⟨by have:=HXM.out;simp only;omega,by have:=HXM.out;simp only;omega⟩,(show Below _ _ _ from (by ((repeat' (first|(with_reducible assumption)|(with_reducible exact Below.refl _ _)|(with_reducible refine Below.drew ?_)|(with_reducible refine below_drewN' ?_ _)|(with_reducible refine Below.alloc ?_ ?_ _)|(with_reducible refine Below.setCell ?_ ?_ _)|(with_reducible refine below_step (by assumption) ?_ ?_)))<;>first|(simp;done)|(simp;omega)|omega))),hnext,(show Flags _ _ _ from by repeat' (first|with_reducible exact hf1.out|with_reducible refine Flags.set ?_ _|with_reducible refine Flags.other ?_ hng|with_reducible refine Flags.drewN ?_ _|with_reducible refine Flags.drew ?_|with_reducible refine Flags.alloc ?_ _)),(show Flags _ _ _ from by repeat' (first|with_reducible exact hf2.out|with_reducible refine Flags.set ?_ _|with_reducible refine Flags.other ?_ hng2|with_reducible refine Flags.drewN ?_ _|with_reducible refine Flags.drew ?_|with_reducible refine Flags.alloc ?_ _))⟩
  · have hkm:k=m:=by omega
    subst hkm
    have HAV:Hid (alongV bs a b l=(st.sum,decide (st.pt=b))):=(show _=_ by unfold alongV;rw [hLn.out,hto.out])
    have hbq:Hid ((st.pt==b)=decide (st.pt=b)):=(show _=_ by rw [Bool.eq_iff_iff];simp)
    go_wp2;go_ret2;exact ⟨by rw [HAV.out];simp [hbq.out],HB1.out.trans (hb.out.mono (by omega))⟩
theorem Index_Link (A:Option Addr) (n c:Nat) (l:List Link) (p:Link) (w:World) (hl:Rd encLink 6 w A n c l):
 Calls Tryz.prog 166 #[.slice A n c,.agg #[.int .i64 p.src.pit,.int .i64 p.src.layer,.int .i64 p.dst.pit,.int .i64 p.dst.layer,.int .i64 p.most,.int .i64 p.by_]] w fun e w'=> ∃ i:Int,e = .returned (.int .i64 i)∧((i = -1∧p∉l)∨∃ k:Nat,i=(k:Int)∧l[k]? = some p)∧Below w.heap.size w w':=by
 have hlen:=Lib.hid hl.len;have hbig:=hl.big;go_enter Tryz.func166,Tryz.ntmps166;go_wp2_with (fail);go_loopw [8] (fun i wr=> ∃ k:Nat,k≤n∧i = .int .i64 k∧Below (w.heap.size+1) (w.alloc (.cells #[.int .i64 p.src.pit,.int .i64 p.src.layer,.int .i64 p.dst.pit,.int .i64 p.dst.layer,.int .i64 p.most,.int .i64 p.by_] 74)) wr∧Hid (∀ q x,q<k→l[q]? = some x→eqLink p x=false)) (fun i _=>n-(intOf i).toNat)
 case atStart=>exact ⟨0,Nat.zero_le _,rfl,Below.refl _ _,fun k x h=>absurd h (by omega)⟩
 case round=>
  obtain ⟨k,hk,rfl,hb,hno⟩:=hrel;have hzr:=hb.size;simp only [World.size_alloc] at hzr;have hbw0:Below w.heap.size w wr:=((Below.refl _ w).alloc (Nat.le_refl _) _).trans (hb.mono (by omega));obtain ⟨hcc,hff⟩:=bcell hb;have p0:wr.cell? ⟨w.heap.size,0,none⟩=some (.int .i64 p.src.pit):=by rw [hcc _ _ (by omega)];simp
  have p1:wr.cell? ⟨w.heap.size,1,none⟩=some (.int .i64 p.src.layer):=by rw [hcc _ _ (by omega)];simp
  have p2:wr.cell? ⟨w.heap.size,2,none⟩=some (.int .i64 p.dst.pit):=by rw [hcc _ _ (by omega)];simp
  have p3:wr.cell? ⟨w.heap.size,3,none⟩=some (.int .i64 p.dst.layer):=by rw [hcc _ _ (by omega)];simp
  have p4:wr.cell? ⟨w.heap.size,4,none⟩=some (.int .i64 p.most):=by rw [hcc _ _ (by omega)];simp
  have p5:wr.cell? ⟨w.heap.size,5,none⟩=some (.int .i64 p.by_):=by rw [hcc _ _ (by omega)];simp
  clear hcc hff;by_cases hlt:k<n
  · have hlr:=hl.below hbw0 (Nat.le_refl _)
    obtain ⟨b,off,x,rfl,hbw,hx,hcell⟩:=hlr.one hlt;have c0:wr.cell? ⟨b,off+k * 6,none⟩=some (.int .i64 x.src.pit):=hcell 0 _ rfl;have c1:wr.cell? ⟨b,off+k * 6+1,none⟩=some (.int .i64 x.src.layer):=hcell 1 _ rfl;have c2:wr.cell? ⟨b,off+k * 6+2,none⟩=some (.int .i64 x.dst.pit):=hcell 2 _ rfl;have c3:wr.cell? ⟨b,off+k * 6+3,none⟩=some (.int .i64 x.dst.layer):=hcell 3 _ rfl;have c4:wr.cell? ⟨b,off+k * 6+4,none⟩=some (.int .i64 x.most):=hcell 4 _ rfl;have c5:wr.cell? ⟨b,off+k * 6+5,none⟩=some (.int .i64 x.by_):=hcell 5 _ rfl;have HX:=Lib.hid hx;clear hlr hcell hx;cases hq:eqLink p x
    · have HQ:=Lib.hid hq
      go_wp2_with (fail);go_region
      all_goals go_wp2
      all_goals go_roundw
      all_goals first
       | exact ⟨k+1,by omega,by go_num,hb.drew,fun q y hqk hy=>(by
          by_cases hkq:q<k
          · exact hno.out q y hkq hy
          · have:q=k:=(by omega)
            subst this;rw [HX.out] at hy;cases hy
            exact HQ.out)⟩
       | (simp [intOf];omega)
    · have HQ:=Lib.hid hq
      go_wp2_with (fail);go_region
      all_goals go_wp2
      all_goals go_ret
      all_goals exact ⟨k,rfl,.inr ⟨k,rfl,by rw [HX.out,eqLink_iff.1 HQ.out]⟩,hbw0.drew⟩
  · have hkn:k=n:=by omega
    subst hkn;go_wp2;go_ret;refine ⟨-1,rfl,.inl ⟨rfl,fun hp=> ?_⟩,hbw0⟩;obtain ⟨q,hq,he⟩:=List.getElem_of_mem hp;have h1:=hno.out q _ (by rw [←hlen.out];exact hq) (List.getElem?_eq_getElem hq);rw [he] at h1;exact eqLink_no.1 h1 rfl
end Go.Proofs.YtelnkflmnbhclaaGreat
end
section
namespace Go.Proofs.YtelnkflmnbhclaaGreat
open Go.RowKit Go.Proofs
def codeccir4:Option Code→Code
 | some (.seq _ (.seq _ (.seq (.seq c _) _)))=>c
 | _=> .skip
def valccir4 (bq off m lc pb:Nat) (_:Int) (A:Option Addr) (n c:Nat) (i:Int):Nat→Value
 | 0=> .slice (some ⟨bq,off,none⟩) m lc
 | 1=> .int .i64 m
 | 2=> .bool false
 | 3=> .bool false
 | 4=> .slice (some ⟨bq,off,none⟩) m lc
 | 5=> .pointer (some ⟨bq,off,none⟩)
 | 6=> .int .i64 i
 | 7=> .pointer (some ⟨pb,0+1,none⟩)
 | 8=> .slice A n c
 | 9=> .int .i64 n
 | 10=> .int .i64 (n-1)
 | 11=> .bool true
 | 12=> .bool false
 | 13=> .bool false
 | _=>undef
theorem ccir4 (cC:Code) (hc:cC=codeccir4 Tryz.f167.body) (bq off m lc pb:Nat) (pts:Int) (A:Option Addr) (n c:Nat) (i:Int) (a:Act) (w:World) (Q:Exit→Act→World→Prop)
 (hT:a.tmps.size=50) (t1:a.tmps.getD 1 undef = .slice (some ⟨bq,off,none⟩) m lc) (t2:a.tmps.getD 2 undef = .pointer (some ⟨pb,0,none⟩))
 (CE:∀ W,Below w.heap.size w W→W.cell? ⟨pb,0,none⟩=some (.int .i64 pts)∧W.cell? ⟨pb,1,none⟩=some (.slice A n c)∧W.cell? ⟨bq,off,none⟩=some (.int .i64 i)) (hm:2≤m) (hm2:m≤1000000) (hw:IntKind.i64.wrap ((n:Int)-1)=(n:Int)-1) (hwi:withinB i 0 ((n:Int)-1)=true)
 (hQ:∀ W,(fun W=>Below w.heap.size w W) W→Q .normal { tmps:=((((((((((((((a.tmps.setIfInBounds 15 (.slice (some ⟨bq,off,none⟩) m lc)).setIfInBounds 16 (.int .i64 m)).setIfInBounds 17 (.bool false)).setIfInBounds 18 (.bool false)).setIfInBounds 19 (.slice (some ⟨bq,off,none⟩) m lc)).setIfInBounds 20 (.pointer (some ⟨bq,off,none⟩))).setIfInBounds 21 (.int .i64 i)).setIfInBounds 22 (.pointer (some ⟨pb,0+1,none⟩))).setIfInBounds 23 (.slice A n c)).setIfInBounds 24 (.int .i64 n)).setIfInBounds 25 (.int .i64 (n-1))).setIfInBounds 26 (.bool true)).setIfInBounds 27 (.bool false)).setIfInBounds 28 (.bool false)),defers:=a.defers } W):
 cC.wp Tryz.prog Q a w:=by
 subst hc;unfold codeccir4 Tryz.f167;dsimp only;refine wpIn_wide.1 (wpIn_region_vals (nn:=5) 50 (by kernel_rfl) (by kernel_rfl) hT.symm (valccir4 bq off m lc pb pts A n c i) (fun W=>Below w.heap.size w W) ((Below.refl _ _).drew) ?_ ?_)
 · intro listed io o b W hi ho h
   obtain ⟨p0,p1,p2⟩:=CE W h.glob
   have hm1:¬(m:Int)<2:=(by omega)
   have hm3:(0:Int)<(m:Int):=(by omega)
   clear hQ;obtain ⟨hun,oi,hoi,hall⟩:=mem_ready.1 hi;have:oi=o:=Option.some.inj (hoi.symm.trans ho);subst this;clear hoi hi
   have hlt:io<14:=(by have:=(Array.getElem?_eq_some_iff.1 ho).1;simpa using this)
   have hun':listed.getD io false=false:=getD_both hun
   have q1:b.tmps[1]?.getD undef=_:=(by simpa using (h.tab.old 1 (dst_no h.tab (by kernel_rfl))).trans t1)
   have q2:b.tmps[2]?.getD undef=_:=(by simpa using (h.tab.old 2 (dst_no h.tab (by kernel_rfl))).trans t2)
   have E:∀ (jj s:Nat) (v:Value),dstOf _ jj=some s→valccir4 bq off m lc pb pts A n c i jj=v→listed.getD jj false=true→b.tmps[s]?.getD undef=v:=fun jj s v h1 h2 h3=>by rw [←h2];simpa using h.val jj s h1 h3
   have U0:∀ y,oi.guard=none→Region.wanted oi y=true:=fun y h=>by simp [Region.wanted,h]
   have U:∀ (jj d:Nat) (g v:Bool),oi.guard=some (jj,g)→dstOf _ jj=some d→valccir4 bq off m lc pb pts A n c i jj = .bool v→⟨jj,.guard⟩∈oi.after→Region.wanted oi (yielded _ b.tmps)=(v==g):=fun jj d g v h1 h2 h3 h4=>wanted_of h h1 h2 (hall _ h4 rfl) h3
   rcases (by omega:io=0∨io=1∨io=2∨io=3∨io=4∨io=5∨io=6∨io=7∨io=8∨io=9∨io=10∨io=11∨io=12∨io=13) with rfl|rfl|rfl|rfl|rfl|rfl|rfl|rfl|rfl|rfl|rfl|rfl|rfl|rfl
   all_goals simp only [List.getElem?_toArray,List.getElem?_cons_zero,List.getElem?_cons_succ] at ho
   all_goals cases ho
   · rw [if_pos (U0 _ rfl)]
     exact wide_val (v:=.slice (some ⟨bq,off,none⟩) m lc) (by clear E U U0;go_simp;try rfl) ⟨rfl,h.glob⟩
   · rw [if_pos (U0 _ rfl)]
     have e0:=E 0 15 (.slice (some ⟨bq,off,none⟩) m lc) rfl rfl (hall ⟨0,.data⟩ (by simp) rfl);exact wide_val (v:=.int .i64 m) (by clear E U U0;go_simp;try rfl) ⟨rfl,h.glob⟩
   · rw [if_pos (U0 _ rfl)]
     have e1:=E 1 16 (.int .i64 m) rfl rfl (hall ⟨1,.data⟩ (by simp) rfl);exact wide_val (v:=.bool false) (by clear E U U0;go_simp;(try exact congrArg Value.bool (decide_eq_false (by omega)));(try omega)) ⟨rfl,h.glob⟩
   · rw [if_pos (U0 _ rfl)]
     have e2:=E 2 17 (.bool false) rfl rfl (hall ⟨2,.data⟩ (by simp) rfl);exact wide_val (v:=.bool false) (by clear E U U0;go_simp;try rfl) ⟨rfl,h.glob⟩
   · rw [U 3 18 false false rfl rfl rfl (by simp),if_pos (show (false==false)=true from rfl)]
     exact wide_val (v:=.slice (some ⟨bq,off,none⟩) m lc) (by clear E U U0;go_simp;try rfl) ⟨rfl,h.glob⟩
   · rw [U 3 18 false false rfl rfl rfl (by simp),if_pos (show (false==false)=true from rfl)]
     have e4:=E 4 19 (.slice (some ⟨bq,off,none⟩) m lc) rfl rfl (hall ⟨4,.data⟩ (by simp) rfl);exact wide_val (v:=.pointer (some ⟨bq,off,none⟩)) (by clear E U U0;go_simp;(try rfl);(try (intro h0;omega))) ⟨rfl,h.glob⟩
   · rw [U 3 18 false false rfl rfl rfl (by simp),if_pos (show (false==false)=true from rfl)]
     have e5:=E 5 20 (.pointer (some ⟨bq,off,none⟩)) rfl rfl (hall ⟨5,.data⟩ (by simp) rfl);exact wide_val (v:=.int .i64 i) (by clear E U U0;go_simp;try rfl) ⟨rfl,h.glob⟩
   · rw [U 3 18 false false rfl rfl rfl (by simp),if_pos (show (false==false)=true from rfl)]
     exact wide_val (v:=.pointer (some ⟨pb,0+1,none⟩)) (by clear E U U0;go_simp;try rfl) ⟨rfl,h.glob⟩
   · rw [U 3 18 false false rfl rfl rfl (by simp),if_pos (show (false==false)=true from rfl)]
     have e7:=E 7 22 (.pointer (some ⟨pb,0+1,none⟩)) rfl rfl (hall ⟨7,.data⟩ (by simp) rfl);exact wide_val (v:=.slice A n c) (by clear E U U0;go_simp;try rfl) ⟨rfl,h.glob⟩
   · rw [U 3 18 false false rfl rfl rfl (by simp),if_pos (show (false==false)=true from rfl)]
     have e8:=E 8 23 (.slice A n c) rfl rfl (hall ⟨8,.data⟩ (by simp) rfl);exact wide_val (v:=.int .i64 n) (by clear E U U0;go_simp;try rfl) ⟨rfl,h.glob⟩
   · rw [U 3 18 false false rfl rfl rfl (by simp),if_pos (show (false==false)=true from rfl)]
     have e9:=E 9 24 (.int .i64 n) rfl rfl (hall ⟨9,.data⟩ (by simp) rfl);exact wide_val (v:=.int .i64 (n-1)) (by clear E U U0;go_simp;try simp [hw]) ⟨rfl,h.glob⟩
   · rw [U 3 18 false false rfl rfl rfl (by simp),if_pos (show (false==false)=true from rfl)]
     have e6:=E 6 21 (.int .i64 i) rfl rfl (hall ⟨6,.data⟩ (by simp) rfl);have e10:=E 10 25 (.int .i64 (n-1)) rfl rfl (hall ⟨10,.data⟩ (by simp) rfl);clear E U U0;refine wide_call (f:=200) (args:=#[.int .i64 i,.int .i64 0,.int .i64 (n-1)]) (by go_simp<;>(try exact ⟨by simpa [Act.eval] using e6,by simpa [Act.eval] using e10⟩)) ((within_any _ _ _ W).mono ?_);rintro e w' ⟨rfl,rfl⟩;rw [hwi];exact ⟨_,rfl,rfl,h.glob⟩
   · rw [U 3 18 false false rfl rfl rfl (by simp),if_pos (show (false==false)=true from rfl)]
     have e11:=E 11 26 (.bool true) rfl rfl (hall ⟨11,.data⟩ (by simp) rfl);exact wide_val (v:=.bool false) (by clear E U U0;go_simp;try rfl) ⟨rfl,h.glob⟩
   · rw [if_pos (U0 _ rfl)]
     have e3:=E 3 18 (.bool false) rfl rfl (hall ⟨3,.data⟩ (by simp) rfl);have e12:=E 12 27 (.bool false) rfl rfl (hall ⟨12,.data⟩ (by simp) rfl);exact wide_val (v:=.bool false) (by clear E U U0;go_simp;try rfl) ⟨rfl,h.glob⟩
 · intro W hg
   have:=hQ W hg;simp only [List.size_toArray,bareL,bare,List.map_cons,List.map_nil,List.length_cons,List.length_nil,Nat.reduceAdd,framed,dstOf,List.getElem?_toArray,List.getElem?_cons_zero,List.getElem?_cons_succ,Option.bind_some,valccir4];exact this
open Go.Shelf
theorem CheckCircle_any (pts:Int) (A:Option Addr) (n c:Nat) (bs:List Bound) (L:Option Addr) (m lc:Nat) (l:List Int) (w:World) (hl:Rd encBound 4 w A n c bs) (hL:Rd encInt 1 w L m lc l) (hk:checkSys pts bs=0) (hv:∀ i∈l,0≤i∧i<bs.length) (hm:m≤1000000):
 Calls Tryz.prog 167 #[.agg #[.int .i64 pts,.slice A n c],.slice L m lc] w fun e w'=>e = .returned (.tuple #[.bool (circleB bs l),.int .i64 0])∧Below w.heap.size w w':=by
 have hok:=sysOk_of hk
 obtain ⟨w1,hw1⟩:∃ w1,w.alloc (.cells #[.int .i64 pts,.slice A n c] 117)=w1:=⟨_,rfl⟩
 have hb1:Below w.heap.size w w1:=(by rw [←hw1];exact (Below.refl _ w).alloc (Nat.le_refl _) _)
 have hh1:w1.heap[w.heap.size]? = some (.cells #[.int .i64 pts,.slice A n c] 117 (0,0)):=(by rw [←hw1];exact heap_alloc_new w _)
 have hz1:w.heap.size<w1.heap.size:=(Array.getElem?_eq_some_iff.1 hh1).1
 have d0:w1.cell? ⟨w.heap.size,0,none⟩=some (.int .i64 pts):=(by simp [World.cell?,hh1])
 have d1:w1.cell? ⟨w.heap.size,1,none⟩=some (.slice A n c):=(by simp [World.cell?,hh1])
 have hck:=CheckSystem_any pts A n c bs w1 (hl.below hb1 (Nat.le_refl _));rw [hk] at hck;have HC:=Lib.hid hck;have HB1:=Lib.hid hb1;have HW1:=Lib.hid hw1;have HH1:=Lib.hid hh1;have hlL:=hL.len;have hll:=hl.len;clear hck hb1 hw1 hh1;by_cases h2:2≤m
 case neg=>
  have hv0:circleB bs l=false:=by unfold circleB;rw [decide_eq_false (by omega),Bool.false_and]
  rw [hv0];have hlt:(m:Int)<2:=by omega
  have hdl:decide ((m:Int)<2)=true:=decide_eq_true hlt;clear hv0 hl hL hk hv hok hlL hll h2;go_enter Tryz.func167,Tryz.ntmps167
  go_upto_region 4 with (first|rw [HW1.out]|(go_at_call 144;(with_reducible refine HC.out.mono ?_);rintro e w2 ⟨rfl,hb2⟩;have HB2:=Lib.hid (HB1.out.trans (hb2.mono (Nat.le_of_lt hz1)));clear hb2))
  go_wp2_with (go_quiet (fail));go_ret2;exact ⟨rfl,by first|exact HB2.out|exact HB2.out.drew|exact below_drewN' HB2.out _⟩
 case pos=>
  obtain ⟨bq,off,i,rfl,hbq,hi,hci⟩:=hL.one (show 0<m by omega);obtain ⟨v1,v2⟩:=hv i (List.mem_of_getElem? hi)
  obtain ⟨j,hj⟩:∃ j:Nat,i=(j:Int):=⟨i.toNat,by omega⟩
  subst hj;have hjn:j<n:=by omega
  obtain ⟨bb,ob,x,rfl,hbb,hx,hcx⟩:=hl.one hjn;have hi0:l.getD 0 0=(j:Int):=by rw [List.getD_eq_getElem?_getD,hi];rfl
  have hbnd:bnd bs (l.getD 0 0)=x:=by unfold bnd;rw [hi0,Int.toNat_natCast,List.getD_eq_getElem?_getD,hx];rfl
  have g0:w.cell? ⟨bq,off,none⟩=some (.int .i64 (j:Int)):=by have:=hci 0 _ rfl;simpa using this
  have g1:w.cell? ⟨bb,ob+j * 4,none⟩=some (.int .i64 x.src):=hcx 0 _ rfl;have hv1:circleB bs l=((alongV bs x.src x.src l).2&&decide ((alongV bs x.src x.src l).1<0)):=by unfold circleB;rw [decide_eq_true (by omega),Bool.true_and,hbnd]
  rw [hv1];have hal:∀ W,Below w.heap.size w W→Calls Tryz.prog 213 #[.agg #[.int .i64 pts,.slice (some ⟨bb,ob,none⟩) n c],.int .i64 x.src,.int .i64 x.src,.slice (some ⟨bq,off,none⟩) m lc] W fun e w'=>e = .returned (.tuple #[.int .i64 (alongV bs x.src x.src l).1,.bool (alongV bs x.src x.src l).2])∧Below W.heap.size W w':=fun W hW=>along_any pts _ n c bs x.src x.src _ m lc l W (hl.below hW (Nat.le_refl _)) (hL.below hW (Nat.le_refl _)) hok hv hm
  generalize alongV bs x.src x.src l=r at *;obtain ⟨sm,okb⟩:=r;dsimp only at hal ⊢;have hwi:withinB (j:Int) 0 ((n:Int)-1)=true:=withinB_iff.2 ⟨by omega,by omega⟩
  have hwr:IntKind.i64.wrap ((n:Int)-1)=(n:Int)-1:=(by have:=hl.len;rw [IntKind.wrap_i64];have:=hok.len;omega)
  have CE:Hid (∀ W,Below w1.heap.size w1 W→(W.cell? ⟨w.heap.size,0,none⟩=some (.int .i64 pts)∧W.cell? ⟨w.heap.size,1,none⟩=some (.slice (some ⟨bb,ob,none⟩) n c)∧W.cell? ⟨bq,off,none⟩=some (.int .i64 (j:Int)))∧W.cell? ⟨bb,ob+j * 4,none⟩=some (.int .i64 x.src)):=(show ∀ W,Below w1.heap.size w1 W→_ from fun W hW=>by
   have e:=(hW.block _ hz1).trans HH1.out;have e2:=HB1.out.trans (hW.mono (Nat.le_of_lt hz1))
   exact ⟨⟨by simp [World.cell?,e],by simp [World.cell?,e],(e2.cell (p:=⟨bq,off,none⟩) hbq).trans g0⟩,(e2.cell (p:=⟨bb,ob+j * 4,none⟩) hbb).trans g1⟩)
  have HAL:=Lib.hid hal;have HWI:=Lib.hid hwi;have HWR:=Lib.hid hwr;clear hal hwi hwr g0 g1 hv1 hbnd hi0 hcx hci hi hx hl hL hk hv hok;go_enter Tryz.func167,Tryz.ntmps167
  go_upto_region 4 with (first|rw [HW1.out]|(go_at_call 144;(with_reducible refine HC.out.mono ?_);rintro e w2 ⟨rfl,hb2⟩;have HB2:=Lib.hid hb2;clear hb2))
  refine ccir4 _ rfl bq off m lc w.heap.size pts _ n c (j:Int) _ w2 _ rfl rfl rfl (fun W hW=>(CE.out W (HB2.out.trans (hW.mono HB2.out.size))).1) h2 hm HWR.out HWI.out ?_;intro w3 hb3;have hb13:=HB2.out.trans (hb3.mono HB2.out.size);obtain ⟨⟨c0,c1,c2⟩,c3⟩:=CE.out w3 hb13;have hz3:=hb13.size
  have hbw:bb<w3.heap.size:=(by omega)
  have hbw2:bq<w3.heap.size:=(by omega)
  have hbw3:w.heap.size<w3.heap.size:=(by omega)
  have HB3:=Lib.hid (HB1.out.trans (hb13.mono (Nat.le_of_lt hz1)));clear hb3 hb13;simp only [List.setIfInBounds_toArray,List.set_cons_succ,List.set_cons_zero];cases okb
  all_goals
   go_upto_region 6 with (fail)
   go_quiet (fail);go_wp2_with (go_at_call 213;(with_reducible refine (HAL.out _ (by first|exact HB3.out|exact HB3.out.drew|exact below_drewN' HB3.out _)).mono ?_);rintro e w9 ⟨rfl,hb9⟩;have HB9:=Lib.hid hb9;clear hb9);go_ret2;exact ⟨by first|rfl|simp,by first|exact HB3.out.trans (HB9.out.mono HB3.out.size)|exact HB3.out.drew.trans (HB9.out.mono HB3.out.size)|exact (below_drewN' HB3.out _).trans (HB9.out.mono HB3.out.size)⟩
theorem contra_no {L:List Link} {m:List (Place×Int)} {c:List Link} {k:Nat} {x:Link} (hx:c[k]? = some x) (h:x∉L):contraV L m c=false:=by
 rw [←Bool.not_eq_true,contraV_iff];exact fun hc=>h (hc.1 x (List.mem_of_getElem? hx))
theorem ix_nth {L:List Link} {m:List (Place×Int)} {q:Nat} {x:Link} (h:L[q]? = some x):(L.map (boundOf m))[q]? = some (boundOf m x):=by
 rw [List.getElem?_map,h];rfl
theorem contradicts_any (pts:Int) (m:List (Place×Int)) (Ab:Option Addr) (cb:Nat) (Al:Option Addr) (cl:Nat) (mb:Nat) (L:List Link) (C:Option Addr) (cn cc:Nat) (cs:List Link) (w:World) (hb:Rd encBound 4 w Ab L.length cb (L.map (boundOf m))) (hl:Rd encLink 6 w Al L.length cl L) (hc:Rd encLink 6 w C cn cc cs) (hk:checkSys pts (L.map (boundOf m))=0) (hcn:cn≤1000000):
 Calls Tryz.prog 113 #[.agg #[.int .i64 pts,.slice Ab L.length cb,.slice Al L.length cl,.map (some mb)],.slice C cn cc] w fun e w'=>e = .returned (.bool (contraV L m cs))∧Below w.heap.size w w':=by
 have hok:=sysOk_of hk
 obtain ⟨w1,hw1⟩:∃ w1,w.alloc (.cells #[.int .i64 pts,.slice Ab L.length cb,.slice Al L.length cl,.map (some mb)] 120)=w1:=⟨_,rfl⟩
 have hb1:Below w.heap.size w w1:=(by rw [←hw1];exact (Below.refl _ w).alloc (Nat.le_refl _) _)
 have hh1:w1.heap[w.heap.size]? = some (.cells #[.int .i64 pts,.slice Ab L.length cb,.slice Al L.length cl,.map (some mb)] 120 (0,0)):=(by rw [←hw1];exact heap_alloc_new w _)
 have hz1:w.heap.size<w1.heap.size:=(Array.getElem?_eq_some_iff.1 hh1).1;have hcl:=hc.len
 have hn4:L.length≤800:=(by have:=hok.len;rw [List.length_map] at this;omega)
 have HB:=Lib.hid (hb.below hb1 (Nat.le_refl _));have HL:=Lib.hid (hl.below hb1 (Nat.le_refl _));have HC:=Lib.hid (hc.below hb1 (Nat.le_refl _));have HB1:=Lib.hid hb1;have HH1:=Lib.hid hh1;have HK:=Lib.hid hk;have HOK:=Lib.hid hok;have HW1:=Lib.hid hw1;have hCL:=Lib.hid hcl;clear hb1 hh1 hb hl hc hk hok hw1 hcl;go_enter Tryz.func113,Tryz.ntmps113;go_wp2_with (rw [HW1.out]);go_loopw [5,13] (fun s5 s13 wr=> ∃ (k:Nat) (Ax:Option Addr) (cx:Nat) (xs:List Int),k≤cn∧s13 = .int .i64 k∧s5 = .slice Ax xs.length cx∧Hid (xs.length=k)∧Hid (Below w1.heap.size w1 wr)∧Hid (Own encInt 1 3 w1.heap.size wr Ax xs.length cx xs)∧Hid (∀ j x,j<k→cs[j]? = some x→∃ q:Nat,xs[j]? = some (q:Int)∧L[q]? = some x)) (fun _ s13 _=>cn-(intOf s13).toNat)
 case atStart=>exact ⟨0,none,0,[],Nat.zero_le _,rfl,rfl,(show _=_ from rfl),(show Below _ _ _ from Below.refl _ _),(show Own _ _ _ _ _ _ _ _ _ from Own.none_ _ _ _ _ _),(show ∀ j x,j<0→_ from fun j x h=>absurd h (by omega))⟩
 case round=>
  obtain ⟨k,Ax,cx,xs,hk,rfl,rfl,hxl,hbl,hO,hall⟩:=hrel;have hzr:=hbl.out.size;by_cases hlt:k<cn
  · obtain ⟨b,off,x,rfl,hbpw,hp,hcell⟩:=(HC.out.below hbl.out (Nat.le_refl _)).one hlt
    have c0:wr.cell? ⟨b,off+k * 6,none⟩=some (.int .i64 x.src.pit):=hcell 0 _ rfl;have c1:wr.cell? ⟨b,off+k * 6+1,none⟩=some (.int .i64 x.src.layer):=hcell 1 _ rfl;have c2:wr.cell? ⟨b,off+k * 6+2,none⟩=some (.int .i64 x.dst.pit):=hcell 2 _ rfl;have c3:wr.cell? ⟨b,off+k * 6+3,none⟩=some (.int .i64 x.dst.layer):=hcell 3 _ rfl;have c4:wr.cell? ⟨b,off+k * 6+4,none⟩=some (.int .i64 x.most):=hcell 4 _ rfl;have c5:wr.cell? ⟨b,off+k * 6+5,none⟩=some (.int .i64 x.by_):=hcell 5 _ rfl;have HP:=Lib.hid hp;have hh:=(hbl.out.block _ hz1).trans HH1.out
    obtain ⟨w2,hw2⟩:∃ w2,wr.alloc (.cells #[.int .i64 x.src.pit,.int .i64 x.src.layer,.int .i64 x.dst.pit,.int .i64 x.dst.layer,.int .i64 x.most,.int .i64 x.by_] 74)=w2:=⟨_,rfl⟩
    have hb2:Below wr.heap.size wr w2:=(by rw [←hw2];exact (Below.refl _ wr).alloc (Nat.le_refl _) _)
    have hh2:w2.heap[wr.heap.size]? = some (.cells #[.int .i64 x.src.pit,.int .i64 x.src.layer,.int .i64 x.dst.pit,.int .i64 x.dst.layer,.int .i64 x.most,.int .i64 x.by_] 74 (0,0)):=(by rw [←hw2];exact heap_alloc_new wr _)
    have hs2:wr.heap.size<w2.heap.size:=(Array.getElem?_eq_some_iff.1 hh2).1
    have q0:w2.cell? ⟨wr.heap.size,0,none⟩=some (.int .i64 x.src.pit):=(by simp [World.cell?,hh2])
    have q1:w2.cell? ⟨wr.heap.size,1,none⟩=some (.int .i64 x.src.layer):=(by simp [World.cell?,hh2])
    have q2:w2.cell? ⟨wr.heap.size,2,none⟩=some (.int .i64 x.dst.pit):=(by simp [World.cell?,hh2])
    have q3:w2.cell? ⟨wr.heap.size,3,none⟩=some (.int .i64 x.dst.layer):=(by simp [World.cell?,hh2])
    have q4:w2.cell? ⟨wr.heap.size,4,none⟩=some (.int .i64 x.most):=(by simp [World.cell?,hh2])
    have q5:w2.cell? ⟨wr.heap.size,5,none⟩=some (.int .i64 x.by_):=(by simp [World.cell?,hh2])
    have hy:=(hb2.block _ (show w.heap.size<wr.heap.size by omega)).trans hh
    have y2:w2.cell? ⟨w.heap.size,2,none⟩=some (.slice Al L.length cl):=(by simp [World.cell?,hy])
    have hyl:w.heap.size<w2.heap.size:=(by omega)
    have HIX:=Lib.hid (Index_Link Al L.length cl L x w2 (HL.out.below (hbl.out.trans (hb2.mono hzr)) (Nat.le_refl _)));have HB2:=Lib.hid (hbl.out.trans (hb2.mono hzr))
    have hz12:w1.heap.size≤w2.heap.size:=(by omega)
    have HO2:=Lib.hid (hO.out.below hb2 (Nat.le_refl _));have HW2:=Lib.hid hw2;clear hh hp hh2 hy hb2 hw2
    go_upto_region 6 with (first|rw [HW2.out]|(go_at_call 166;(with_reducible refine HIX.out.mono ?_);rintro e w3 ⟨i,rfl,hi,hb3⟩;have HI:=Lib.hid hi;have HB3:=Lib.hid hb3;clear hi hb3))
    by_cases hneg:i<0
    · have hno:x∉L:=by
       rcases HI.out with ⟨_,h⟩|⟨q,h,_⟩
       · exact h
       · exact absurd hneg (by omega)
      have HNO:=Lib.hid hno;clear hno;go_wp2;go_ret;exact ⟨by rw [contra_no HP.out HNO.out];rfl,HB1.out.trans ((HB2.out.trans (HB3.out.mono hz12)).mono (Nat.le_of_lt hz1))⟩
    · obtain ⟨q,rfl,hq⟩:∃ q:Nat,i=(q:Int)∧L[q]? = some x:=by
       rcases HI.out with ⟨h,_⟩|h
       · exact absurd h (by omega)
       · exact h
      have HQ:=Lib.hid hq;have hz3:=HB3.out.size;have hO4:=(HO2.out.below HB3.out (Nat.le_refl _)).alloc (.cells #[.int .i64 (q:Int)] 3);have hrd4:=Rd.single (enc:=encInt) (k:=1) w3 #[.int .i64 (q:Int)] 3 [(q:Int)] 1 rfl (by omega) (fun _=>rfl) (by simp [encInt]);have hB34:=HB2.out.trans (HB3.out.mono hz12);have HB4:=Lib.hid (hB34.alloc hB34.size (.cells #[.int .i64 (q:Int)] 3))
      have hxlk:xs.length≤1000000:=(by have:=hxl.out;omega)
      have hz13:w1.heap.size≤w3.heap.size:=(by omega)
      clear hq hneg hB34
      go_wp2_with (at_builtin;refine wpList_append_src elInt (fun _=>rfl) oneInt rfl _ _ rfl _ _ _ _ rfl rfl hO4 hrd4 (by omega) (by decide) (by simp;omega) ?_;intro A8 c8 w8 hO8 hg8 hA8
                   have HB8:=Lib.hid (HB4.out.grown hg8 (by simp;omega) (fun j e=>hO4.ltB j e));have HO8:=Lib.hid hO8
                   clear hO8 hg8 hA8)
      go_roundw
      all_goals first
       | (simp [intOf];omega)
       | exact ⟨k+1,A8,c8,xs ++ [(q:Int)],by omega,by go_num,(by simp;try omega),(show _=_ by have:=hxl.out;simp;omega),HB8.out,(show Own _ _ _ _ _ _ _ _ _ by rw [List.length_append];exact HO8.out),(show ∀ j x,_→_ from fun j x hj hx=>by
          by_cases hjk:j<k
          · obtain ⟨q',e1,e2⟩:=hall.out j x hjk hx
            exact ⟨q',by rw [List.getElem?_append_left (by have:=hxl.out;omega)];exact e1,e2⟩
          · have:j=k:=(by omega)
            subst this;rw [HP.out] at hx;cases hx;refine ⟨q,?_,HQ.out⟩;rw [List.getElem?_append_right (by have:=hxl.out;omega),hxl.out]
            simp)⟩
  · have hkn:k=cn:=by omega
    subst hkn;have hlen:xs.length=cs.length:=by rw [hxl.out,hCL.out]
    have hix:IxOf (L.map (boundOf m)) xs (cs.map (boundOf m)):=by
     refine ⟨List.ext_getElem? fun j=> ?_,fun i hi=> ?_⟩
     · rw [List.getElem?_map,List.getElem?_map,List.getElem?_map]
       rcases Nat.lt_or_ge j cs.length with hj|hj
       · obtain ⟨q,h1,h2⟩:=hall.out j _ (by rw [←hCL.out];exact hj) (List.getElem?_eq_getElem hj)
         rw [h1,List.getElem?_eq_getElem hj,Option.map_some,Option.map_some,Option.map_some,Int.toNat_natCast,ix_nth h2]
       · rw [List.getElem?_eq_none hj,List.getElem?_eq_none (by omega)];rfl
     · obtain ⟨j,hj⟩:=List.mem_iff_getElem?.1 hi
       have hjl:=(List.getElem?_eq_some_iff.1 hj).1;obtain ⟨q,h1,_⟩:=hall.out j _ (by rw [←hxl.out];exact hjl) (List.getElem?_eq_getElem (show j<cs.length by omega));rw [h1] at hj;cases hj;omega
    have hin:∀ x∈cs,x∈L:=fun x hx=>by
     obtain ⟨j,hj⟩:=List.mem_iff_getElem?.1 hx;obtain ⟨q,_,hq⟩:=hall.out j x (by rw [←hCL.out];exact (List.getElem?_eq_some_iff.1 hj).1) hj;exact List.mem_of_getElem? hq
    have hcv:circleB (L.map (boundOf m)) xs=contraV L m cs:=by
     rw [Bool.eq_iff_iff,circleB_iff HOK.out hix (fun b hb=>by obtain ⟨x,hx,rfl⟩:=List.mem_map.1 hb;exact List.mem_map.2 ⟨x,hin x hx,rfl⟩),contraV_iff,List.length_map];exact ⟨fun h=>⟨hin,h⟩,fun h=>h.2⟩
    have hvx:∀ i∈xs,0≤i∧i<((L.map (boundOf m)).length:Int):=fun i hi=>by
     obtain ⟨j,hj⟩:=List.mem_iff_getElem?.1 hi;have hjl:=(List.getElem?_eq_some_iff.1 hj).1;obtain ⟨q,h1,h2⟩:=hall.out j _ (by rw [←hxl.out];exact hjl) (List.getElem?_eq_getElem (show j<cs.length by omega));rw [h1] at hj;cases hj;have:=(List.getElem?_eq_some_iff.1 h2).1;rw [List.length_map];omega
    have hCK:=CheckCircle_any pts Ab L.length cb (L.map (boundOf m)) Ax xs.length cx xs wr (HB.out.below hbl.out (Nat.le_refl _)) (hO.out.rd (fun _=>rfl) (by have:=hxl.out;omega)) HK.out hvx (by have:=hxl.out;omega);rw [hcv] at hCK;have HCK:=Lib.hid hCK;have hh:=(hbl.out.block _ hz1).trans HH1.out
    have i0:wr.cell? ⟨w.heap.size,0,none⟩=some (.int .i64 pts):=(by simp [World.cell?,hh])
    have i1:wr.cell? ⟨w.heap.size,1,none⟩=some (.slice Ab L.length cb):=(by simp [World.cell?,hh])
    have hbxw:w.heap.size<wr.heap.size:=(by omega)
    obtain ⟨cv,hcv2⟩:∃ cv,contraV L m cs=cv:=⟨_,rfl⟩
    rw [hcv2] at HCK;have HCV:=Lib.hid hcv2;clear hcv2;clear hCK hh hlen hix hin hcv hvx;go_wp2_with (go_at_call 167;(with_reducible refine HCK.out.mono ?_);rintro e w9 ⟨rfl,hb9⟩;have HB9:=Lib.hid (hbl.out.trans (hb9.mono hzr));clear hb9);go_ret;exact ⟨by rw [HCV.out];rfl,HB1.out.trans (HB9.out.mono (Nat.le_of_lt hz1))⟩
end Go.Proofs.YtelnkflmnbhclaaGreat
end

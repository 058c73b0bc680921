/- Contracts that the laws lean on: RefS, RPnt, R1Sy, RSuR, RSum, RSlR, RSyR, RSys, REno. -/
import Derived.Test.YtelnkflmnbhclaaGreatRaH06
import Derived.Test.YtelnkflmnbhclaaGreatRaH09
set_option maxRecDepth 100000
set_option maxHeartbeats 8000000
section
namespace Go.Proofs.YtelnkflmnbhclaaGreat
open Go.RowKit Go.Proofs Go.Shelf
def farV:Int:=1000000000
def refStep (st:List Int×Bool) (b:Bound):List Int×Bool:=
 if rAt st.1 b.src<farV∧rAt st.1 b.src+b.most<rAt st.1 b.dst then (rPut st.1 b.dst (rAt st.1 b.src+b.most),false) else st
def refTo (bs:List Bound) (x:List Int):Nat→List Int×Bool
 | 0=>(x,true)
 | k+1=>match bs[k]? with
   | some b=>refStep (refTo bs x k) b
   | none=>refTo bs x k
def refLoop (bs:List Bound):Nat→List Int→List Int×Bool
 | 0,_=>([],false)
 | n+1,x=>if (refTo bs x bs.length).2 then ((refTo bs x bs.length).1,true) else refLoop bs n (refTo bs x bs.length).1
def refSums (pts:Int) (bs:List Bound) (start:List Int):List Int×Bool:=refLoop bs (pts+1).toNat start
def refZero (pts:Int):List Int:=List.replicate pts.toNat 0
def refFar (pts a:Int):List Int:=rPut (List.replicate pts.toNat farV) a 0
def refGreatest (pts:Int) (bs:List Bound) (a b:Int):Int×Bool:=
 if (refSums pts bs (refFar pts a)).1.length≠pts.toNat∨farV≤rAt (refSums pts bs (refFar pts a)).1 b then (0,false) else (rAt (refSums pts bs (refFar pts a)).1 b,true)
structure SimR (pts:Nat) (K:Int) (x:List Int) (r:Row):Prop where
 lx:x.length=pts
 lr:r.length=60
 p:pts≤60
 at_:∀ v,v<pts→(val r v=noneV∧val x v=farV)∨(val x v=val r v∧ -K≤val r v∧val r v≤K)
section
variable {pts:Nat} {K:Int} {x:List Int} {st:Row×Row} {bs:List Bound}
theorem sim_step {s:Bool} {b:Bound} {i:Nat} (h:SimR pts K x st.1) (hs:b.src.toNat<pts) (hd:b.dst.toNat<pts) (h1: -10000≤b.most) (h2:b.most≤10000) (hK0:0≤K) (hK:K+10000<farV):
 SimR pts (K+10000) (refStep (x,s) b).1 (relaxStep st b i).1∧(refStep (x,s) b).2=(s && !relaxes st.1 b):=by
 have hs':=h.at_ _ hs;have hd':=h.at_ _ hd;have hfar:farV=1000000000:=rfl;have hnone:noneV=1099511627776:=rfl
 have hc:relaxes st.1 b=true↔(rAt x b.src<farV∧rAt x b.src+b.most<rAt x b.dst):=by
  rw [relaxes_iff,rAt_val,rAt_val];omega
 have hp:=h.p;unfold refStep relaxStep;by_cases hr:relaxes st.1 b=true
 · have hx:=hc.1 hr
   rw [if_pos hx,if_pos hr];refine ⟨⟨by simp [h.lx],by simp [h.lr],h.p,fun v hv=> ?_⟩,by simp [hr]⟩;simp only [rPut];rw [val_set _ _ _ _ (by rw [h.lr];omega),val_set _ _ _ _ (by rw [h.lx];exact hd)];rw [rAt_val] at hx ⊢;rw [rAt_val];by_cases e:b.dst.toNat=v
   · rw [if_pos e,if_pos e]
     right
     omega
   · rw [if_neg e,if_neg e]
     have:=h.at_ v hv;omega
 · have hx:¬_:=fun e=>hr (hc.2 e)
   rw [if_neg hx,if_neg hr];refine ⟨⟨h.lx,h.lr,h.p,fun v hv=> ?_⟩,by simp [hr]⟩;have:=h.at_ v hv;simp only;omega
theorem sim_to (he:Ends 60 bs) (hb:∀ b∈bs,b.src.toNat<pts∧b.dst.toNat<pts∧ -10000≤b.most∧b.most≤10000) (h:SimR pts K x st.1) (hK0:0≤K) (k:Nat):K+k * 10000<farV→
 SimR pts (K+k * 10000) (refTo bs x k).1 (passTo bs st k).1∧(((refTo bs x k).2=true∧(passTo bs st k).1=st.1)∨((refTo bs x k).2=false∧∃ v,val (passTo bs st k).1 v<val st.1 v)):=by
 induction k with
 | zero=>
   intro _;refine ⟨?_,.inl ⟨rfl,rfl⟩⟩;have e:K+((0:Nat):Int) * 10000=K:=by omega
   rw [e];exact h
 | succ k ih=>
   intro hk;obtain ⟨ih1,ih2⟩:=ih (by omega);have he':Ends st.1.length bs:=by rw [h.lr];exact he
   cases hbk:bs[k]? with
   | none=>
     have e1:refTo bs x (k+1)=refTo bs x k:=by rw [refTo,hbk]
     rw [e1,passTo_past hbk];refine ⟨⟨ih1.lx,ih1.lr,ih1.p,fun v hv=> ?_⟩,ih2⟩;have:=ih1.at_ v hv;omega
   | some b=>
     have e1:refTo bs x (k+1)=refStep (refTo bs x k) b:=by rw [refTo,hbk]
     obtain ⟨b1,b2,b3,b4⟩:=hb b (List.mem_of_getElem? hbk);obtain ⟨g1,g2⟩:=sim_step (s:=(refTo bs x k).2) (i:=k) ih1 b1 b2 b3 b4 (by omega) (by omega);rw [e1,passTo_next hbk];refine ⟨?_,?_⟩
     · have:K+(k:Int) * 10000+10000=K+((k+1:Nat):Int) * 10000:=by omega
       rw [this] at g1;exact g1
     · rw [show (refStep (refTo bs x k) b).2=_ from g2]
       have hdl:b.dst.toNat<(passTo bs st k).1.length:=by rw [ih1.lr];exact (he b (List.mem_of_getElem? hbk)).2
       by_cases hr:relaxes (passTo bs st k).1 b=true
       · right
         refine ⟨by simp [hr],b.dst.toNat,?_⟩;have h3:=relaxes_iff.1 hr;have h4:=step_hit (i:=k) hdl h3.1;have h5:=passTo_le he' b.dst.toNat k 0 (Nat.zero_le _);simp only [passTo] at h5;omega
       · have hsame:(relaxStep (passTo bs st k) b k).1=(passTo bs st k).1:=by unfold relaxStep;rw [if_neg hr]
         rw [hsame];have hr':relaxes (passTo bs st k).1 b=false:=by simpa using hr
         rw [hr',Bool.not_false,Bool.and_true];exact ih2
theorem sim_loop (hbl:bs.length≤400) (he:Ends 60 bs) (hb:∀ b∈bs,b.src.toNat<pts∧b.dst.toNat<pts∧ -10000≤b.most∧b.most≤10000):∀ (n:Nat) (K:Int) (x:List Int) (st:Row×Row),SimR pts K x st.1→0≤K→K+n * 4000000<farV→
 (refLoop bs n x).2=(settledLoop bs n st).2.2∧((settledLoop bs n st).2.2=true→SimR pts (K+n * 4000000) (refLoop bs n x).1 (settledLoop bs n st).1)
 | 0,K,x,st,h,_,_=>⟨rfl,fun e=>by cases e⟩
 | n+1,K,x,st,h,hK0,hK=>by
   obtain ⟨g1,g2⟩:=sim_to he hb h hK0 bs.length (by omega)
   have hw:SimR pts (K+4000000) (refTo bs x bs.length).1 (pass bs st).1:=⟨g1.lx,g1.lr,g1.p,fun v hv=>by
    have:=g1.at_ v hv
    show (val (passTo bs st bs.length).1 v=noneV∧_)∨(_=val (passTo bs st bs.length).1 v∧_)
    unfold pass
    omega⟩
   unfold refLoop settledLoop
   rcases g2 with ⟨g2,g3⟩|⟨g2,v,g3⟩
   · rw [if_pos g2,if_pos (show (pass bs st).1=st.1 from g3)]
     refine ⟨rfl,fun _=>⟨hw.lx,hw.lr,hw.p,fun v hv=> ?_⟩⟩;have:=hw.at_ v hv;simp only;omega
   · rw [if_neg (by rw [g2];decide),if_neg (fun e=>by
      rw [show (passTo bs st bs.length).1=st.1 from e] at g3
      omega)]
     obtain ⟨k1,k2⟩:=sim_loop hbl he hb n (K+4000000) _ (pass bs st) hw (by omega) (by omega);refine ⟨k1,fun e=> ?_⟩;have:=k2 e;have e2:K+4000000+(n:Int) * 4000000=K+((n+1:Nat):Int) * 4000000:=by omega
     rw [e2] at this;exact this
end
theorem from_true {pts:Int} {bs:List Bound} (hok:SysOk pts bs) {a:Int} (h1:0≤a) (h2:a<pts) (hs:solvedOk pts bs=true):(settled pts bs (rPut emptyRow a 0)).2.2=true:=by
 have hp:=hok.p2;have hp1:=hok.p1;obtain ⟨y,hy⟩:=(solvedOk_iff hok).1 hs
 obtain ⟨C,hC⟩:∃ C:Int,∀ v,v<60→y v≤C:=⟨(sumTo (fun v=>(y v).toNat) 60:Nat),fun v hv=>by
  have:=le_sumTo (fun v=>(y v).toNat) 60 v hv
  try simp only at this
  omega⟩
 exact settled_true (y:=fun v=>if v<60 then y v-C else 0) (by omega) (ends60 hok from_len60) (fun b hb=>by have:=hok.b b hb;omega) (fun b hb _=>by
  have h1:=hok.b b hb;have h2:=hy b hb
  try simp only
  rw [if_pos (by omega),if_pos (by omega)]
  omega) (fun v=>by
  rw [val_start h1 (by omega)]
  try simp only
  split
  · have:=hC v (by assumption)
    split
    · omega
    · unfold noneV;omega
  · split
    · omega
    · omega)
structure SmallSys (pts:Int) (bs:List Bound):Prop where
 ok:SysOk pts bs
 p:pts≤51
 m:∀ b∈bs,-10000≤b.most∧b.most≤10000
section
variable {pts:Int} {bs:List Bound}
theorem SmallSys.ends (h:SmallSys pts bs):Ends 60 bs:=fun b hb=>by
 have:=h.ok.b b hb;have:=h.ok.p2
 constructor<;>omega
theorem SmallSys.in_ (h:SmallSys pts bs):∀ b∈bs,b.src.toNat<pts.toNat∧b.dst.toNat<pts.toNat∧ -10000≤b.most∧b.most≤10000:=fun b hb=>by
 have:=h.ok.b b hb;have:=h.ok.p1;have:=h.m b hb;refine ⟨?_,?_,?_,?_⟩<;>omega
theorem val_replicate (n:Nat) (a:Int) (v:Nat):val (List.replicate n a) v=if v<n then a else 0:=by
 unfold val;rw [List.getD_eq_getElem?_getD,List.getElem?_replicate]
 split<;>rfl
theorem ref_solve (h:SmallSys pts bs):(refSums pts bs (refZero pts)).2=solvedOk pts bs:=by
 have hp1:=h.ok.p1;have hp2:=h.ok.p2;have hp:=h.p;refine (sim_loop h.ok.len h.ends h.in_ (pts+1).toNat 0 _ (zeroRow,lasts) ⟨by simp [refZero],by simp [zeroRow],by omega,fun v hv=> .inr ?_⟩ (Int.le_refl 0) ?_).1
 · rw [val_zero,refZero,val_replicate,if_pos hv]
   omega
 · unfold farV;omega
theorem ref_greatest (h:SmallSys pts bs) (hs:solvedOk pts bs=true) {a b:Int} (a1:0≤a) (a2:a<pts) (_:0≤b) (b2:b<pts):
 refGreatest pts bs a b=((greatestV pts bs a b).1,(greatestV pts bs a b).2.1):=by
 have hp1:=h.ok.p1;have hp2:=h.ok.p2;have hp:=h.p;have hlen:(rPut emptyRow a 0).length=60:=by simp [emptyRow]
 obtain ⟨g1,g2⟩:=sim_loop h.ok.len h.ends h.in_ (pts+1).toNat 0 (refFar pts a) (rPut emptyRow a 0,lasts) ⟨by simp [refFar],hlen,by omega,fun v hv=>by
  rw [val_start a1 (by omega)];unfold refFar;simp only [rPut];rw [val_set _ _ _ _ (by rw [List.length_replicate];omega),val_replicate,if_pos hv];by_cases e:v=a.toNat
  · rw [if_pos e,if_pos e.symm];right;omega
  · rw [if_neg e,if_neg (show ¬a.toNat=v from fun e'=>e e'.symm),if_pos (show v<60 by omega)];left;exact ⟨rfl,rfl⟩⟩ (Int.le_refl 0) (by unfold farV;omega)
 have ht:(settled pts bs (rPut emptyRow a 0)).2.2=true:=from_true h.ok a1 a2 hs;have hsim:=g2 ht;have hb:=hsim.at_ b.toNat (by omega);have hG:greatestR pts bs a b=val (settledLoop bs (pts+1).toNat (rPut emptyRow a 0,lasts)).1 b.toNat:=rfl;have hX:rAt (refSums pts bs (refFar pts a)).1 b=val (refLoop bs (pts+1).toNat (refFar pts a)).1 b.toNat:=rfl;unfold refGreatest greatestV;rw [if_pos hs,hX,hG];have hl:(refSums pts bs (refFar pts a)).1.length=pts.toNat:=hsim.lx;have hfar:farV=1000000000:=rfl;have hnone:noneV=1099511627776:=rfl
 rcases hb with ⟨h1,h2⟩|⟨h1,h2,h3⟩
 · rw [if_pos h1,if_pos (.inr (by omega))]
 · rw [if_neg (by omega),if_neg (by omega),h1]
end
theorem smallSys_years {ts:List Trace} {bs:List Bond} (h:OkO ts bs) (mv:List Place):SmallSys ((placesOf ts bs).length+1) (sysB ts bs mv):=by
 refine ⟨sysOk_of (checkSys_years h mv),by have:=h.pn;omega,fun b hb=> ?_⟩;unfold sysB at hb;obtain ⟨x,hx,rfl⟩:=List.mem_map.1 hb;obtain ⟨_,_,_,g4,g5,_,_⟩:=linksL_good h mv x hx;exact ⟨g4,g5⟩
theorem rpoint_any (A:Option Addr) (n c:Nat) (ps:List Place) (p:Place) (v:Int) (w:World) (hl:Rd encPlace 2 w A n c ps) (hn:ps.Nodup) (hz:z00∉ps) (hv:getM (ptsM ps ps.length) p=some v) (hbig:n≤1000000):
 Calls Tryz.prog 107 #[.slice A n c,.agg #[.int .i64 p.pit,.int .i64 p.layer]] w fun e w'=>e = .returned (.int .i64 v)∧Below w.heap.size w w':=by
 have hlen:=Lib.hid hl.len;have HV:=Lib.hid hv;have HN:=Lib.hid hn;have hfrom:=ptsM_from ps _ (Nat.le_refl _) p v hv
 cases q0:eqPlace ⟨p.pit,p.layer⟩ ⟨0,0⟩ with
 | true=>
   have hp0:p=z00:=eqPlace_iff.1 q0
   have hv0:v=0:=by
    have:=ptsM_zero ps hz _ (Nat.le_refl _);rw [←hp0,hv] at this;exact Option.some.inj this
   subst hv0;clear hfrom hv hn hz hp0 hl;go_enter Tryz.func107,Tryz.ntmps107;go_wp2_with (fail);go_ret;exact ⟨rfl,(Below.refl _ w).alloc (Nat.le_refl _) _⟩
 | false=>
   have hp0:p≠z00:=eqPlace_no.1 q0
   obtain ⟨i0,hi0,hpi0,hvi0⟩:∃ i:Nat,i<ps.length∧ps[i]? = some p∧v=i+1:=by
    rcases hfrom with ⟨h,_⟩|h
    · exact absurd h hp0
    · exact h
   have HI0:=Lib.hid (And.intro hi0 hpi0);clear hfrom hv hn hz hp0 hi0 hpi0 hvi0;go_enter Tryz.func107,Tryz.ntmps107;go_wp2_with (fail);go_loopw [5] (fun i wr=> ∃ k:Nat,k≤n∧i = .int .i64 k∧Below (w.heap.size+1) (w.alloc (.cells #[.int .i64 p.pit,.int .i64 p.layer] 37)) wr∧Hid (∀ q x,q<k→ps[q]? = some x→eqPlace x p=false)) (fun i _=>n-(intOf i).toNat)
   case atStart=>exact ⟨0,Nat.zero_le _,rfl,Below.refl _ _,fun k x h=>absurd h (by omega)⟩
   case round=>
    obtain ⟨k,hk,rfl,hb,hno⟩:=hrel;have hzr:=hb.size;simp only [World.size_alloc] at hzr;have hbw0:Below w.heap.size w wr:=((Below.refl _ w).alloc (Nat.le_refl _) _).trans (hb.mono (by omega));obtain ⟨hcc,hff⟩:=bcell hb;have p0:wr.cell? ⟨w.heap.size,0,none⟩=some (.int .i64 p.pit):=by rw [hcc _ _ (by omega)];simp
    have p1:wr.cell? ⟨w.heap.size,1,none⟩=some (.int .i64 p.layer):=by rw [hcc _ _ (by omega)];simp
    clear hcc hff;by_cases hlt:k<n
    · have hlr:=hl.below hbw0 (Nat.le_refl _)
      obtain ⟨b,off,x,rfl,hbw,hx,hcell⟩:=hlr.one hlt;have c0:wr.cell? ⟨b,off+k * 2,none⟩=some (.int .i64 x.pit):=hcell 0 _ rfl;have c1:wr.cell? ⟨b,off+k * 2+1,none⟩=some (.int .i64 x.layer):=hcell 1 _ rfl;have HX:=Lib.hid hx;clear hlr hcell hx;cases hq:eqPlace x p
      · have HQ:=Lib.hid hq
        go_wp2_with (fail);go_region
        all_goals go_wp2
        all_goals go_roundw
        all_goals first
         | exact ⟨k+1,by omega,by go_num,hb.drew,fun q y hqk hy=>(by
            by_cases hkq:q<k
            · exact hno.out q y hkq hy
            · have:q=k:=(by omega)
              subst this;rw [HX.out] at hy;cases hy
              exact HQ.out)⟩
         | (simp [intOf];omega)
      · have HQ:=Lib.hid hq
        have hvk:v=k+1:=by
         have hxp:x=p:=eqPlace_iff.1 HQ.out;have h1:=ptsM_at ps HN.out _ (Nat.le_refl _) k p (by rw [hlen.out];exact hlt) (by rw [HX.out,hxp]);rw [HV.out] at h1;exact Option.some.inj h1
        subst hvk;clear HV;go_wp2_with (fail);go_region
        all_goals go_wp2
        all_goals go_ret
        all_goals exact ⟨by first|rfl|(congr 2;go_num),hbw0.drew⟩
    · exfalso
      obtain ⟨h1,h2⟩:=HI0.out;have h3:=hno.out i0 p (by have:=hlen.out;omega) h2;rw [eqPlace_iff.2 rfl] at h3;cases h3
theorem r1Within_any (n low high:Int) (w:World):
 Calls Tryz.prog 245 #[.int .i64 n,.int .i64 low,.int .i64 high] w fun e w'=>e = .returned (.bool (withinB n low high))∧w'=w:=by
 by_cases h:low≤n
 · go_enter Tryz.func245,Tryz.ntmps245
   go_wp2;go_ret;exact ⟨by simp [withinB,h],rfl⟩
 · go_enter Tryz.func245,Tryz.ntmps245
   go_wp2;go_ret;refine ⟨?_,rfl⟩;have:withinB n low high=false:=by unfold withinB;rw [decide_eq_false (by omega)];rfl
   rw [this];rfl
theorem r1Point_in (pts:Int) (A:Option Addr) (n c:Nat) (v:Int) (w:World) (h0:0≤v) (h1:v<pts):
 Calls Tryz.prog 208 #[.agg #[.int .i64 pts,.slice A n c],.int .i64 v] w fun e w'=>e = .returned (.bool true)∧Below w.heap.size w w':=by
 go_enter Tryz.func208,Tryz.ntmps208;go_wp2_with (fail);go_ret;exact ⟨by first|rfl|simp [h1],(Below.refl _ w).alloc (Nat.le_refl _) _⟩
theorem sys_parts {pts:Int} {bs:List Bound} (hk:checkSys pts bs=0):(1≤pts∧pts≤60∧bs.length≤400)∧∀ b∈bs,wrongB pts b=false:=by
 have hok:=sysOk_of hk;unfold checkSys at hk;by_cases h1:60<pts∨400<bs.length
 · rw [if_pos h1] at hk;cases hk
 · rw [if_neg h1] at hk
   by_cases h2:pts<1∨bs.any (wrongB pts)=true
   · rw [if_pos h2] at hk;cases hk
   · refine ⟨by omega,fun b hb=> ?_⟩
     cases hw:wrongB pts b with
     | false=>rfl
     | true=>exact absurd (.inr (List.any_eq_true.2 ⟨b,hb,hw⟩)) h2
theorem r1Check_ok (pts:Int) (A:Option Addr) (n c:Nat) (bs:List Bound) (w:World) (hl:Rd encBound 4 w A n c bs) (hk:checkSys pts bs=0):
 Calls Tryz.prog 205 #[.agg #[.int .i64 pts,.slice A n c]] w fun e w'=>e = .returned (.int .i64 0)∧Below w.heap.size w w':=by
 obtain ⟨⟨g1,g2,g3⟩,hall⟩:=sys_parts hk;have hlen:=hl.len
 obtain ⟨w1,hw1⟩:∃ w1,w.alloc (.cells #[.int .i64 pts,.slice A n c] 117)=w1:=⟨_,rfl⟩
 have hb1:Below w.heap.size w w1:=(by rw [←hw1];exact (Below.refl _ w).alloc (Nat.le_refl _) _)
 have hh1:w1.heap[w.heap.size]? = some (.cells #[.int .i64 pts,.slice A n c] 117 (0,0)):=(by rw [←hw1];exact heap_alloc_new w _)
 have hz1:w.heap.size<w1.heap.size:=(Array.getElem?_eq_some_iff.1 hh1).1
 have SE:Hid (∀ W,Below w1.heap.size w1 W→W.cell? ⟨w.heap.size,0,none⟩=some (.int .i64 pts)∧W.cell? ⟨w.heap.size,1,none⟩=some (.slice A n c)):=(show ∀ W,Below w1.heap.size w1 W→_ from fun W h=>by
  have:=(h.block _ hz1).trans hh1
  simp [World.cell?,this])
 have hn:n≤400:=(by omega)
 have HL:=Lib.hid (hl.below hb1 (Nat.le_refl _));have HB1:=Lib.hid hb1;have HALL:=Lib.hid hall;have HW1:=Lib.hid hw1;obtain ⟨s0,s1⟩:=SE.out w1 (Below.refl _ _)
 have n60:¬(60:Int)<pts:=(by omega)
 have n400:¬(400:Int)<(n:Int):=(by omega)
 have n1:¬pts<1:=(by omega)
 clear hb1 hh1 hl hall hk hw1 hlen;go_enter Tryz.func205,Tryz.ntmps205;go_wp2_with (rw [HW1.out]);clear s0 s1;go_loopw [3] (fun s3 wr=> ∃ k:Nat,k≤n∧s3 = .int .i64 k∧Hid (Below w1.heap.size w1 wr)) (fun s3 _=>n-(intOf s3).toNat)
 case atStart=>exact ⟨0,Nat.zero_le _,rfl,(show Below _ _ _ from Below.refl _ _)⟩
 case round=>
  obtain ⟨k,hk,rfl,hb⟩:=hrel;have hzr:=hb.out.size;obtain ⟨s0,s1⟩:=SE.out wr hb.out
  have hwl:w.heap.size<wr.heap.size:=(by omega)
  by_cases hlt:k<n
  · obtain ⟨bb,ob,x,rfl,hbb,hx,hcx⟩:=(HL.out.below hb.out (Nat.le_refl _)).one hlt
    have c0:wr.cell? ⟨bb,ob+k * 4,none⟩=some (.int .i64 x.src):=hcx 0 _ rfl;have c1:wr.cell? ⟨bb,ob+k * 4+1,none⟩=some (.int .i64 x.dst):=hcx 1 _ rfl;have c2:wr.cell? ⟨bb,ob+k * 4+2,none⟩=some (.int .i64 x.most):=hcx 2 _ rfl;have c3:wr.cell? ⟨bb,ob+k * 4+3,none⟩=some (.int .i64 x.by_):=hcx 3 _ rfl;have hwx:=HALL.out x (List.mem_of_getElem? hx);unfold wrongB at hwx;simp only [Bool.or_eq_false_iff,Bool.not_eq_false',decide_eq_false_iff_not] at hwx;obtain ⟨⟨⟨⟨v1,v2⟩,v3⟩,v4⟩,v5⟩:=hwx;have u1:=withinB_iff.1 v1;have u2:=withinB_iff.1 v2
    have p1:x.src<pts:=(by omega)
    have p2:x.dst<pts:=(by omega)
    have p3:0≤x.src:=u1.1;have p4:0≤x.dst:=u2.1
    have e3:(x.src==x.dst)=false:=(by simpa using v3)
    have V4:=Lib.hid v4;have V5:=Lib.hid v5
    obtain ⟨w2,hw2⟩:∃ w2,wr.alloc (.cells #[.int .i64 x.src,.int .i64 x.dst,.int .i64 x.most,.int .i64 x.by_] 186)=w2:=⟨_,rfl⟩
    have hb2:Below wr.heap.size wr w2:=(by rw [←hw2];exact (Below.refl _ wr).alloc (Nat.le_refl _) _)
    have hh2:w2.heap[wr.heap.size]? = some (.cells #[.int .i64 x.src,.int .i64 x.dst,.int .i64 x.most,.int .i64 x.by_] 186 (0,0)):=(by rw [←hw2];exact heap_alloc_new wr _)
    have hz2:wr.heap.size<w2.heap.size:=(Array.getElem?_eq_some_iff.1 hh2).1
    have CE:Hid (∀ W,Below w2.heap.size w2 W→W.cell? ⟨wr.heap.size,0,none⟩=some (.int .i64 x.src)∧W.cell? ⟨wr.heap.size,1,none⟩=some (.int .i64 x.dst)∧W.cell? ⟨wr.heap.size,2,none⟩=some (.int .i64 x.most)∧W.cell? ⟨wr.heap.size,3,none⟩=some (.int .i64 x.by_)):=(show ∀ W,Below w2.heap.size w2 W→_ from fun W h=>by
     have:=(h.block _ hz2).trans hh2
     simp [World.cell?,this])
    have HB2:=Lib.hid (hb.out.trans (hb2.mono hzr));have HW2:=Lib.hid hw2
    have hz12:w1.heap.size≤w2.heap.size:=(by omega)
    obtain ⟨d0,d1,d2,d3⟩:=CE.out w2 (Below.refl _ _);obtain ⟨s2,s3⟩:=SE.out w2 HB2.out;clear hcx hx v1 v2 v3 v4 v5 u1 u2 hb2 hh2 hw2
    go_wp2_with (first
     | rw [HW2.out]
     | (go_at_call 208;(with_reducible refine (r1Point_in pts _ n c x.src _ p3 p1).mono ?_);rintro e w3 ⟨rfl,hb3⟩
        have HB3:=Lib.hid hb3;obtain ⟨d4,d5,d6,d7⟩:=CE.out w3 HB3.out;obtain ⟨s4,s5⟩:=SE.out w3 (HB2.out.trans (HB3.out.mono hz12))
        clear hb3)
     | (go_at_call 208;(with_reducible refine (r1Point_in pts _ n c x.dst _ p4 p2).mono ?_);rintro e w4 ⟨rfl,hb4⟩
        have HB4:=Lib.hid (HB3.out.trans (hb4.mono HB3.out.size));obtain ⟨d8,d9,d10,d11⟩:=CE.out w4 HB4.out
        clear hb4)
     | (go_at_call 245;(with_reducible refine (r1Within_any x.most _ _ _).mono ?_);rintro e w5 ⟨rfl,hw5⟩;obtain rfl:=hw5.symm;rw [V4.out])
     | (go_at_call 245;(with_reducible refine (r1Within_any x.by_ _ _ _).mono ?_);rintro e w6 ⟨rfl,hw6⟩;obtain rfl:=hw6.symm;rw [V5.out]))
    go_roundw
    all_goals first
     | (simp [intOf];omega)
     | exact ⟨k+1,by omega,by go_num,(show Below _ _ _ from HB2.out.trans (HB4.out.mono hz12))⟩
  · have hkn:k=n:=by omega
    subst hkn;go_wp2;go_ret;exact ⟨rfl,HB1.out.trans (hb.out.mono (by omega))⟩
end Go.Proofs.YtelnkflmnbhclaaGreat
end
section
namespace Go.Proofs.YtelnkflmnbhclaaGreat
open Go.RowKit Go.Proofs
def codeSum10:Option Code→Code
 | some (.seq _ (.seq _ (.seq (.seq _ (.block _ (.loop (.seq _ (.seq (.block _ (.seq _ (.seq (.seq _ (.block _ (.loop (.seq _ (.seq (.block _ (.seq _ (.seq c _))) _))))) _))) _))))) _)))=>c
 | _=> .skip
def SumCells (bx ox pb sN dN:Nat) (mo xs xd:Int) (w:World):Prop:=∀ W,Below w.heap.size w W→W.cell? ⟨pb,0,none⟩=some (.int .i64 sN)∧W.cell? ⟨pb,1,none⟩=some (.int .i64 dN)∧W.cell? ⟨pb,2,none⟩=some (.int .i64 mo)∧W.cell? ⟨bx,ox+sN,none⟩=some (.int .i64 xs)∧W.cell? ⟨bx,ox+dN,none⟩=some (.int .i64 xd)
def Trsum1 (bx ox n xc pb sN _:Nat) (far _ _ xs _:Int):List Value:=
 [.slice (some ⟨bx,ox,none⟩) n xc,.pointer (some ⟨pb,0,none⟩),.int .i64 sN,.pointer (some ⟨bx,ox+sN,none⟩),.int .i64 xs,.int .i64 far,.bool false,.bool false,undef,undef,undef,undef,undef,undef,undef,undef,undef,undef,undef,undef,undef,undef,.bool false]
theorem rsum1 (cC:Code) (hc:cC=codeSum10 Tryz.f209.body) (bx ox n xc pb sN dN:Nat) (far mo yy xs xd:Int) (a:Act) (w:World) (Q:Exit→Act→World→Prop)
 (hT:a.tmps.size=71) (t2:a.tmps.getD 2 undef = .int .i64 far) (t8:a.tmps.getD 8 undef = .slice (some ⟨bx,ox,none⟩) n xc) (t12:a.tmps.getD 12 undef = .pointer (some ⟨pb,0,none⟩))
 (CE:SumCells bx ox pb sN dN mo xs xd w) (hs:sN<n) (_:dN<n) (_:n≤1000000) (h1:decide (xs<far)=false)
 (hQ:∀ W,Below w.heap.size w W→Q .normal { tmps:=setsL a.tmps 34 (Trsum1 bx ox n xc pb sN dN far mo yy xs xd),defers:=a.defers } W):
 cC.wp Tryz.prog Q a w:=by
 subst hc;unfold codeSum10 Tryz.f209;dsimp only;refine wpIn_wide.1 (wpIn_region_flow (nn:=5) 71 (by kernel_rfl) (by kernel_rfl) (by kernel_rfl) hT (fun i=>(Trsum1 bx ox n xc pb sN dN far mo yy xs xd).getD i undef) (fun W=>Below w.heap.size w W) ((Below.refl _ _).drew) (fun b hE hold=> ?_) hQ);clear hQ;have q2:=hold 2 _ (by kernel_rfl) t2;have q8:=hold 8 _ (by kernel_rfl) t8;have q12:=hold 12 _ (by kernel_rfl) t12;simp only [factsL,Trsum1,List.getD_cons_zero,List.getD_cons_succ,Nat.reduceAdd] at hE
 repeat' first|exact steps_nil|refine steps_skip rfl rfl ?_|refine steps_go rfl ?_ ?_
 all_goals (intro W hW;obtain ⟨b0,b1,b2,a0,a1⟩:=CE W hW;simp only [Trsum1,List.getD_cons_zero,List.getD_cons_succ,Nat.reduceAdd])
 all_goals first
  | (refine .inl ?_;go_simp;done)
  | (refine .inl ?_;go_simp;rfl)
  | (refine .inl ?_;go_simp;simp [*])
def Trsum2 (bx ox n xc pb sN dN:Nat) (far mo _ xs xd:Int):List Value:=
 [.slice (some ⟨bx,ox,none⟩) n xc,.pointer (some ⟨pb,0,none⟩),.int .i64 sN,.pointer (some ⟨bx,ox+sN,none⟩),.int .i64 xs,.int .i64 far,.bool true,.bool true,.slice (some ⟨bx,ox,none⟩) n xc,.pointer (some ⟨pb,0,none⟩),.int .i64 sN,.pointer (some ⟨bx,ox+sN,none⟩),.int .i64 xs,.pointer (some ⟨pb,0+2,none⟩),.int .i64 mo,.int .i64 (xs+mo),.slice (some ⟨bx,ox,none⟩) n xc,.pointer (some ⟨pb,0+1,none⟩),.int .i64 dN,.pointer (some ⟨bx,ox+dN,none⟩),.int .i64 xd,.bool false,.bool false]
theorem rsum2 (cC:Code) (hc:cC=codeSum10 Tryz.f209.body) (bx ox n xc pb sN dN:Nat) (far mo yy xs xd:Int) (a:Act) (w:World) (Q:Exit→Act→World→Prop)
 (hT:a.tmps.size=71) (t2:a.tmps.getD 2 undef = .int .i64 far) (t8:a.tmps.getD 8 undef = .slice (some ⟨bx,ox,none⟩) n xc) (t12:a.tmps.getD 12 undef = .pointer (some ⟨pb,0,none⟩))
 (CE:SumCells bx ox pb sN dN mo xs xd w) (hs:sN<n) (hd:dN<n) (_:n≤1000000) (h1:decide (xs<far)=true) (hw:IntKind.i64.wrap (xs+mo)=xs+mo) (h2:decide (xs+mo<xd)=false)
 (hQ:∀ W,Below w.heap.size w W→Q .normal { tmps:=setsL a.tmps 34 (Trsum2 bx ox n xc pb sN dN far mo yy xs xd),defers:=a.defers } W):
 cC.wp Tryz.prog Q a w:=by
 subst hc;unfold codeSum10 Tryz.f209;dsimp only;refine wpIn_wide.1 (wpIn_region_flow (nn:=5) 71 (by kernel_rfl) (by kernel_rfl) (by kernel_rfl) hT (fun i=>(Trsum2 bx ox n xc pb sN dN far mo yy xs xd).getD i undef) (fun W=>Below w.heap.size w W) ((Below.refl _ _).drew) (fun b hE hold=> ?_) hQ);clear hQ;have q2:=hold 2 _ (by kernel_rfl) t2;have q8:=hold 8 _ (by kernel_rfl) t8;have q12:=hold 12 _ (by kernel_rfl) t12;simp only [factsL,Trsum2,List.getD_cons_zero,List.getD_cons_succ,Nat.reduceAdd] at hE
 repeat' first|exact steps_nil|refine steps_skip rfl rfl ?_|refine steps_go rfl ?_ ?_
 all_goals (intro W hW;obtain ⟨b0,b1,b2,a0,a1⟩:=CE W hW;simp only [Trsum2,List.getD_cons_zero,List.getD_cons_succ,Nat.reduceAdd])
 all_goals first
  | (refine .inl ?_;go_simp;done)
  | (refine .inl ?_;go_simp;rfl)
  | (refine .inl ?_;go_simp;simp [*])
def Trsum3 (bx ox n xc pb sN dN:Nat) (far mo _ xs xd:Int):List Value:=
 [.slice (some ⟨bx,ox,none⟩) n xc,.pointer (some ⟨pb,0,none⟩),.int .i64 sN,.pointer (some ⟨bx,ox+sN,none⟩),.int .i64 xs,.int .i64 far,.bool true,.bool true,.slice (some ⟨bx,ox,none⟩) n xc,.pointer (some ⟨pb,0,none⟩),.int .i64 sN,.pointer (some ⟨bx,ox+sN,none⟩),.int .i64 xs,.pointer (some ⟨pb,0+2,none⟩),.int .i64 mo,.int .i64 (xs+mo),.slice (some ⟨bx,ox,none⟩) n xc,.pointer (some ⟨pb,0+1,none⟩),.int .i64 dN,.pointer (some ⟨bx,ox+dN,none⟩),.int .i64 xd,.bool true,.bool true]
theorem rsum3 (cC:Code) (hc:cC=codeSum10 Tryz.f209.body) (bx ox n xc pb sN dN:Nat) (far mo yy xs xd:Int) (a:Act) (w:World) (Q:Exit→Act→World→Prop)
 (hT:a.tmps.size=71) (t2:a.tmps.getD 2 undef = .int .i64 far) (t8:a.tmps.getD 8 undef = .slice (some ⟨bx,ox,none⟩) n xc) (t12:a.tmps.getD 12 undef = .pointer (some ⟨pb,0,none⟩))
 (CE:SumCells bx ox pb sN dN mo xs xd w) (hs:sN<n) (hd:dN<n) (_:n≤1000000) (h1:decide (xs<far)=true) (hw:IntKind.i64.wrap (xs+mo)=xs+mo) (h2:decide (xs+mo<xd)=true)
 (hQ:∀ W,Below w.heap.size w W→Q .normal { tmps:=setsL a.tmps 34 (Trsum3 bx ox n xc pb sN dN far mo yy xs xd),defers:=a.defers } W):
 cC.wp Tryz.prog Q a w:=by
 subst hc;unfold codeSum10 Tryz.f209;dsimp only;refine wpIn_wide.1 (wpIn_region_flow (nn:=5) 71 (by kernel_rfl) (by kernel_rfl) (by kernel_rfl) hT (fun i=>(Trsum3 bx ox n xc pb sN dN far mo yy xs xd).getD i undef) (fun W=>Below w.heap.size w W) ((Below.refl _ _).drew) (fun b hE hold=> ?_) hQ);clear hQ;have q2:=hold 2 _ (by kernel_rfl) t2;have q8:=hold 8 _ (by kernel_rfl) t8;have q12:=hold 12 _ (by kernel_rfl) t12;simp only [factsL,Trsum3,List.getD_cons_zero,List.getD_cons_succ,Nat.reduceAdd] at hE
 repeat' first|exact steps_nil|refine steps_skip rfl rfl ?_|refine steps_go rfl ?_ ?_
 all_goals (intro W hW;obtain ⟨b0,b1,b2,a0,a1⟩:=CE W hW;simp only [Trsum3,List.getD_cons_zero,List.getD_cons_succ,Nat.reduceAdd])
 all_goals first
  | (refine .inl ?_;go_simp;done)
  | (refine .inl ?_;go_simp;rfl)
  | (refine .inl ?_;go_simp;simp [*])
def codeSum11:Option Code→Code
 | some (.seq _ (.seq _ (.seq (.seq _ (.block _ (.loop (.seq _ (.seq (.block _ (.seq _ (.seq (.seq _ (.block _ (.loop (.seq _ (.seq (.block _ (.seq _ (.seq _ (.cond _ (.seq c _) _)))) _))))) _))) _))))) _)))=>c
 | _=> .skip
def SumI (bx ox dN:Nat) (v:Int) (w:World):List Value→World→Prop
 | [],W=>Below w.heap.size w W
 | [_],W=> ∃ W0,Below w.heap.size w W0∧W=W0.setCell ⟨bx,ox+dN,none⟩ (.int .i64 v)
 | _,_=>False
def Trsum11 (bx ox n xc pb sN dN:Nat) (_ mo _ xs _:Int) (cv:List Value):List Value:=
 [.slice (some ⟨bx,ox,none⟩) n xc,.pointer (some ⟨pb,0+1,none⟩),.int .i64 dN,.slice (some ⟨bx,ox,none⟩) n xc,.pointer (some ⟨pb,0,none⟩),.int .i64 sN,.pointer (some ⟨bx,ox+sN,none⟩),.int .i64 xs,.pointer (some ⟨pb,0+2,none⟩),.int .i64 mo,.int .i64 (xs+mo),.pointer (some ⟨bx,ox+dN,none⟩),cv.getD 0 undef]
theorem rsum11 (cC:Code) (hc:cC=codeSum11 Tryz.f209.body) (bx ox n xc pb sN dN:Nat) (far mo yy xs xd:Int) (a:Act) (w:World) (Q:Exit→Act→World→Prop)
 (hT:a.tmps.size=71) (t8:a.tmps.getD 8 undef = .slice (some ⟨bx,ox,none⟩) n xc) (t12:a.tmps.getD 12 undef = .pointer (some ⟨pb,0,none⟩))
 (CE:SumCells bx ox pb sN dN mo xs xd w) (FE:∀ W,Below w.heap.size w W→W.frozen? ⟨bx,ox+dN,none⟩=false) (hs:sN<n) (hd:dN<n) (_:n≤1000000) (hw:IntKind.i64.wrap (xs+mo)=xs+mo)
 (hQ:∀ W,Below w.heap.size w W→Q .normal { tmps:=setsL a.tmps 57 ((Trsum11 bx ox n xc pb sN dN far mo yy xs xd []).take 12),defers:=a.defers } (W.setCell ⟨bx,ox+dN,none⟩ (.int .i64 (xs+mo)))):
 cC.wp Tryz.prog Q a w:=by
 subst hc;unfold codeSum11 Tryz.f209;dsimp only;refine wpIn_wide.1 (wpIn_region_chain (nn:=5) 71 (by kernel_rfl) (by kernel_rfl) (by kernel_rfl) hT (fun i cv=>(Trsum11 bx ox n xc pb sN dN far mo yy xs xd cv).getD i undef) (fun i=>([0,0,0,0,0,0,0,0,0,0,0,0,0]:List Nat).getD i 0) (fun i=>([0,0,0,0,0,0,0,0,0,0,0,0,1]:List Nat).getD i 0) [12] (by kernel_rfl) (by kernel_rfl) (by kernel_rfl) (by kernel_rfl) (SumI bx ox dN (xs+mo) w) ((Below.refl _ _).drew) (fun b cv hE hold=> ?_) (fun cv W hl hI=> ?_))
 · clear hQ
   have q8:=hold 8 _ (by kernel_rfl) t8;have q12:=hold 12 _ (by kernel_rfl) t12;simp only [factsL,Vc,idxC,Trsum11,List.getD_cons_zero,List.getD_cons_succ,Nat.reduceAdd,Nat.reduceEqDiff,reduceIte,Option.map_none] at hE
   repeat' first|exact chain_nil|refine chain_op 0 rfl rfl ?_ ?_|refine chain_skip rfl rfl rfl rfl ?_|refine chain_quiet rfl rfl ?_ ?_
   all_goals intro hl
   any_goals (
    intro hl2;simp only [List.getD_cons_zero,List.getD_cons_succ,Nat.reduceAdd] at hl hl2
    first
     | (obtain rfl:=List.eq_nil_of_length_eq_zero (Nat.le_zero.1 hl2);intro W hW;obtain ⟨b0,b1,b2,a0,a1⟩:=CE W hW;simp only [Trsum11,List.getD_cons_zero,List.getD_cons_succ,Nat.reduceAdd]
        first
         | (refine .inl ?_;go_simp;done)
         | (refine .inl ?_;go_simp;rfl)
         | (refine .inl ?_;go_simp;simp [*]))
    done)
   · obtain rfl:=List.eq_nil_of_length_eq_zero hl
     intro W hW;obtain ⟨b0,b1,b2,a0,a1⟩:=CE W hW;have f0:=FE W hW;refine .inl ⟨undef,_,.inr ⟨?_,rfl⟩,W,hW,rfl⟩;go_simp
 · match cv,hl,hI with
   | [_],_,⟨W0,h0,e⟩=>subst e;exact hQ W0 h0
open Go.Shelf
theorem refTo_next {bs:List Bound} {x:List Int} {i:Nat} {b:Bound} (h:bs[i]? = some b):refTo bs x (i+1)=refStep (refTo bs x i) b:=by rw [refTo,h]
theorem el_at {xs:List Int} {lo hi:Int} (h:∀ v∈xs,lo≤v∧v≤hi) {i:Nat} (hi':i<xs.length):lo≤xs.getD i 0∧xs.getD i 0≤hi:=by
 rw [List.getD_eq_getElem?_getD,List.getElem?_eq_getElem hi'];exact h _ (List.getElem_mem hi')
theorem el_set {xs:List Int} {lo hi lo':Int} (h:∀ v∈xs,lo≤v∧v≤hi) (hl:lo'≤lo) {i:Nat} {v:Int} (h1:lo'≤v) (h2:v≤hi):∀ u∈xs.set i v,lo'≤u∧u≤hi:=fun u hu=>by
 rcases List.mem_or_eq_of_mem_set hu with h3|h3
 · have:=h u h3;omega
 · subst h3;exact ⟨h1,h2⟩
theorem rsums_any (pts:Int) (A:Option Addr) (n c:Nat) (bs:List Bound) (A2:Option Addr) (m c2:Nat) (x0:List Int) (w:World) (hl:Rd encBound 4 w A n c bs) (hx:Rd encInt 1 w A2 m c2 x0) (hs:SmallSys pts bs) (hm:(m:Int)=pts) (hb:∀ v∈x0,(0:Int)≤v∧v≤1000000000):
 Calls Tryz.prog 209 #[.agg #[.int .i64 pts,.slice A n c],.slice A2 m c2,.int .i64 1000000000] w fun e w'=> ∃ A' c',e = .returned (.tuple #[.slice A' (refSums pts bs x0).1.length c',.bool (refSums pts bs x0).2])∧
  Own encInt 1 3 w.heap.size w' A' (refSums pts bs x0).1.length c' (refSums pts bs x0).1∧Below w.heap.size w w':=by
 have hp51:=hs.p;have hp1:=hs.ok.p1;have hn:=hs.ok.len;have hnl:=hl.len;have hml:=hx.len
 obtain ⟨w1,hw1⟩:∃ w1,w.alloc (.cells #[.int .i64 pts,.slice A n c] 117)=w1:=⟨_,rfl⟩
 have hb1:Below w.heap.size w w1:=(by rw [←hw1];exact (Below.refl _ w).alloc (Nat.le_refl _) _)
 have hh1:w1.heap[w.heap.size]? = some (.cells #[.int .i64 pts,.slice A n c] 117 (0,0)):=(by rw [←hw1];exact heap_alloc_new w _)
 have hz1:w.heap.size<w1.heap.size:=(Array.getElem?_eq_some_iff.1 hh1).1
 have SE:Hid (∀ W,Below w1.heap.size w1 W→W.cell? ⟨w.heap.size,0,none⟩=some (.int .i64 pts)∧W.cell? ⟨w.heap.size,1,none⟩=some (.slice A n c)):=(show ∀ W,Below w1.heap.size w1 W→_ from fun W h=>by
  have:=(h.block _ hz1).trans hh1
  simp [World.cell?,this])
 have HL:=Lib.hid (hl.below hb1 (Nat.le_refl _));have HB1:=Lib.hid hb1;have HIN:=Lib.hid hs.in_;have HP:=Lib.hid (show ∀ b∈bs,0≤b.src∧0≤b.dst from fun b h=>by have:=hs.ok.b b h;exact ⟨by omega,by omega⟩);have HW1:=Lib.hid hw1;have HM:=Lib.hid hm;have HNL:=Lib.hid hnl;have HEL:=Lib.hid hb;have hm0:0<m:=by omega
 have hm51:m≤51:=by omega
 have hn400:n≤400:=by omega
 have hO1:=Own.fresh encInt 1 3 w1 (Nat.le_refl _);have hx1:=(hx.below hb1 (Nat.le_refl _)).alloc (.cells #[] 3);have HBA:=Lib.hid ((Below.refl w1.heap.size w1).alloc (Nat.le_refl _) (.cells #[] 3));have hml':x0.length=m:=hml;have HRS:=Lib.hid (show refSums pts bs x0=refLoop bs (m+1) x0 from by unfold refSums;rw [←hm];rfl);clear hb1 hh1 hl hx hs hw1 hnl hml hb hm hn hp1 hp51;generalize refSums pts bs x0=R at *;obtain ⟨s0,s1⟩:=SE.out w1 (Below.refl _ _);go_enter Tryz.func209,Tryz.ntmps209
 go_wp2_with (first
  | rw [HW1.out]
  | (at_builtin;refine wpList_append_src elInt (fun _=>rfl) oneInt rfl _ _ rfl _ _ _ _ rfl rfl hO1 hx1 (by omega) (by decide) (by simp) ?_;intro A8 c8 w8 hO8 hg8 hA8
     have HB8:=Lib.hid (HBA.out.grown hg8 (by simp) (fun j e=>hO1.ltB j e));have HO8:=Lib.hid hO8
     clear hO8 hg8 hA8))
 clear s0 s1 hO1 hx1
 obtain ⟨g,hg⟩:∃ g,A8=some ⟨g,0,none⟩:=by
  rcases HO8.out.form with ⟨_,h0,_⟩|⟨g,h,_⟩
  · omega
  · exact ⟨g,h⟩
 subst hg
 have HO9:Hid (Own encInt 1 3 w1.heap.size w8 (some ⟨g,0,none⟩) m c8 x0):=(show Own _ _ _ _ _ _ _ _ _ from by have:=HO8.out;simpa using this)
 clear HO8;go_loopw [9] (fun s9 wr=> ∃ (r:Nat) (xs:List Int),r≤m+1∧s9 = .int .i64 r∧xs.length=m∧Hid (Below w1.heap.size w1 wr)∧Hid (Own encInt 1 3 w1.heap.size wr (some ⟨g,0,none⟩) m c8 xs)∧Hid (∀ v∈xs,-(4000000 * (r:Int))≤v∧v≤1000000000)∧Hid (refLoop bs (m+1-r) xs=R)) (fun s9 _=>m+1-(intOf s9).toNat)
 case atStart=>exact ⟨0,x0,by omega,rfl,hml',HB8,HO9,(show ∀ v∈x0,_∧_ from fun v hv=>by have:=HEL.out v hv;omega),(show _=_ from HRS.out.symm)⟩
 case round=>
  obtain ⟨r,xs,hr,rfl,hxl,hbl,hO,hel,hrl⟩:=hrel;rename World=>wo;have hzr:=hbl.out.size;obtain ⟨s0,s1⟩:=SE.out wo hbl.out
  have hwl:w.heap.size<wo.heap.size:=(by omega)
  by_cases hrp:(r:Int)≤pts
  case neg=>
   have hre:m+1-r=0:=by have:=HM.out;omega
   have h1:=hrl.out;rw [hre] at h1;simp only [refLoop] at h1;subst h1;go_wp2;go_ret2;exact ⟨none,0,rfl,(show Own _ _ _ _ _ _ _ _ _ from Own.none_ _ _ _ _ _),HB1.out.trans (hbl.out.mono (by omega))⟩
  case pos=>
   have hrm:m+1-r=(m-r)+1:=by have:=HM.out;omega
   have HRL:Hid (R=if (refTo bs xs n).2 then ((refTo bs xs n).1,true) else refLoop bs (m-r) (refTo bs xs n).1):=(show _=_ from by
    have h1:=hrl.out;rw [hrm,refLoop,HNL.out] at h1
    exact h1.symm)
   clear hrl hrm;go_wp2;go_loopw [10,11] (fun s10 s11 wr=> ∃ (i:Nat) (ys:List Int) (sm:Bool),i≤n∧s11 = .int .i64 i∧s10 = .bool sm∧ys.length=m∧Hid (Below w1.heap.size w1 wr)∧Hid (Own encInt 1 3 w1.heap.size wr (some ⟨g,0,none⟩) m c8 ys)∧Hid (∀ v∈ys,-(4000000 * (r:Int)+10000 * (i:Int))≤v∧v≤1000000000)∧Hid (refTo bs xs i=(ys,sm))) (fun _ s11 _=>n-(intOf s11).toNat)
   case atStart=>exact ⟨0,xs,true,Nat.zero_le _,rfl,rfl,hxl,hbl,hO,(show ∀ v∈xs,_∧_ from fun v hv=>by have:=hel.out v hv;omega),(show _=_ from rfl)⟩
   case round=>
    obtain ⟨i,ys,sm,hi,rfl,rfl,hyl,hbi,hOi,heli,hti⟩:=hrel;rename World=>wi;have hzi:=hbi.out.size;obtain ⟨u0,u1⟩:=SE.out wi hbi.out
    have hwli:w.heap.size<wi.heap.size:=(by omega)
    by_cases hlt:i<n
    · obtain ⟨bb,ob,x,rfl,hbb,hx,hcx⟩:=(HL.out.below hbi.out (Nat.le_refl _)).one hlt
      obtain ⟨sN,hsN⟩:∃ sN:Nat,x.src=sN:=⟨x.src.toNat,by have:=(HP.out x (List.mem_of_getElem? hx)).1;omega⟩
      obtain ⟨dN,hdN⟩:∃ dN:Nat,x.dst=dN:=⟨x.dst.toNat,by have:=(HP.out x (List.mem_of_getElem? hx)).2;omega⟩
      obtain ⟨b1,b2,b3,b4⟩:=HIN.out x (List.mem_of_getElem? hx);rw [hsN] at b1;rw [hdN] at b2;have hsm:sN<m:=by have:=HM.out;omega
      have hdm:dN<m:=by have:=HM.out;omega
      have c0:wi.cell? ⟨bb,ob+i * 4,none⟩=some (.int .i64 sN):=by rw [←hsN];exact hcx 0 _ rfl
      have c1:wi.cell? ⟨bb,ob+i * 4+1,none⟩=some (.int .i64 dN):=by rw [←hdN];exact hcx 1 _ rfl
      have c2:wi.cell? ⟨bb,ob+i * 4+2,none⟩=some (.int .i64 x.most):=hcx 2 _ rfl;have c3:wi.cell? ⟨bb,ob+i * 4+3,none⟩=some (.int .i64 x.by_):=hcx 3 _ rfl
      obtain ⟨xs0,hxs0⟩:∃ v,ys.getD sN 0=v:=⟨_,rfl⟩
      obtain ⟨xd0,hxd0⟩:∃ v,ys.getD dN 0=v:=⟨_,rfl⟩
      have e1:=el_at heli.out (i:=sN) (by omega);have e2:=el_at heli.out (i:=dN) (by omega);rw [hxs0] at e1;rw [hxd0] at e2
      have HST:Hid (refTo bs xs (i+1)=if xs0<1000000000∧xs0+x.most<xd0 then (ys.set dN (xs0+x.most),false) else (ys,sm)):=(show _=_ from by
       rw [refTo_next hx,hti.out];unfold refStep rAt rPut farV
       simp only [hsN,hdN,Int.toNat_natCast,hxs0,hxd0])
      obtain ⟨mo,hmo⟩:∃ mo,x.most=mo:=⟨_,rfl⟩
      obtain ⟨yy,hyy⟩:∃ yy,x.by_=yy:=⟨_,rfl⟩
      rw [hmo] at c2 HST b3 b4;rw [hyy] at c3
      have hcs:wi.cell? ⟨g,0+sN,none⟩=some (.int .i64 xs0):=by
       have:=hOi.out.cells (fun _=>rfl) (i:=sN) (x:=xs0) (by rw [←hxs0,List.getD_eq_getElem?_getD,List.getElem?_eq_getElem (by omega)];rfl) 0 _ rfl;rw [Nat.mul_one,Nat.add_zero] at this;rw [Nat.zero_add];exact this
      have hcd:wi.cell? ⟨g,0+dN,none⟩=some (.int .i64 xd0):=by
       have:=hOi.out.cells (fun _=>rfl) (i:=dN) (x:=xd0) (by rw [←hxd0,List.getD_eq_getElem?_getD,List.getElem?_eq_getElem (by omega)];rfl) 0 _ rfl;rw [Nat.mul_one,Nat.add_zero] at this;rw [Nat.zero_add];exact this
      have hgl:=hOi.out.lt
      obtain ⟨w5,hw5⟩:∃ w5,wi.alloc (.cells #[.int .i64 sN,.int .i64 dN,.int .i64 mo,.int .i64 yy] 186)=w5:=⟨_,rfl⟩
      have hb5:Below wi.heap.size wi w5:=(by rw [←hw5];exact (Below.refl _ wi).alloc (Nat.le_refl _) _)
      have hh5:w5.heap[wi.heap.size]? = some (.cells #[.int .i64 sN,.int .i64 dN,.int .i64 mo,.int .i64 yy] 186 (0,0)):=(by rw [←hw5];exact heap_alloc_new wi _)
      have hz5:wi.heap.size<w5.heap.size:=(Array.getElem?_eq_some_iff.1 hh5).1
      have CE:Hid (SumCells g 0 wi.heap.size sN dN mo xs0 xd0 w5):=(show SumCells g 0 wi.heap.size sN dN mo xs0 xd0 w5 from fun W h=>by
       have h1:=(h.block _ hz5).trans hh5;have e:=fun o=>(h.cell (p:=⟨g,o,none⟩) (show g<w5.heap.size by omega)).trans (hb5.cell (p:=⟨g,o,none⟩) hgl.2)
       refine ⟨by simp [World.cell?,h1],by simp [World.cell?,h1],by simp [World.cell?,h1],(e _).trans hcs,(e _).trans hcd⟩)
      have FE:Hid (∀ W,Below w5.heap.size w5 W→W.frozen? ⟨g,0+dN,none⟩=false):=(show ∀ W,Below w5.heap.size w5 W→W.frozen? ⟨g,0+dN,none⟩=false from fun W h=>((hOi.out.below hb5 (Nat.le_refl _)).below h (Nat.le_refl _)).free _)
      have HO5:=Lib.hid (hOi.out.below hb5 (Nat.le_refl _));have HB5:=Lib.hid (hbi.out.trans (hb5.mono hzi));have HW5:=Lib.hid hw5;have HE:=Lib.hid (And.intro e1 e2);have hz15:w1.heap.size≤w5.heap.size:=by omega
      have hm6:m≤1000000:=by omega
      have hw:IntKind.i64.wrap (xs0+mo)=xs0+mo:=by rw [IntKind.wrap_i64];omega
      have HW:=Lib.hid hw;clear hcx hx hcs hcd hb5 hh5 hw5 hsN hdN hmo hyy hxs0 hxd0 hw e1 e2
      go_upto_region 10 with (rw [HW5.out])
      by_cases h1:xs0<1000000000
      · by_cases h2:xs0+mo<xd0
        · have HIF:=Lib.hid (And.intro h1 h2)
          refine rsum3 _ rfl g 0 m c8 wi.heap.size sN dN _ mo yy xs0 xd0 _ w5 _ rfl rfl rfl rfl CE.out hsm hdm hm6 (decide_eq_true h1) HW.out (decide_eq_true h2) ?_;clear h1 h2;intro w6 hb6;have HB6:=Lib.hid (HB5.out.trans (hb6.mono hz15));have HO6:=Lib.hid (HO5.out.below hb6 (Nat.le_refl _))
          have CE6:Hid (SumCells g 0 wi.heap.size sN dN mo xs0 xd0 w6):=(show SumCells g 0 wi.heap.size sN dN mo xs0 xd0 w6 from fun W h=>CE.out W (hb6.trans (h.mono hb6.size)))
          have FE6:Hid (∀ W,Below w6.heap.size w6 W→W.frozen? ⟨g,0+dN,none⟩=false):=(show ∀ W,Below w6.heap.size w6 W→W.frozen? ⟨g,0+dN,none⟩=false from fun W h=>FE.out W (hb6.trans (h.mono hb6.size)))
          clear hb6;simp only [setsL,Trsum3,Nat.reduceAdd,List.setIfInBounds_toArray,List.set_cons_succ,List.set_cons_zero]
          go_upto_region 11 with (fail)
          refine rsum11 _ rfl g 0 m c8 wi.heap.size sN dN 0 mo yy xs0 xd0 _ w6 _ rfl rfl rfl CE6.out FE6.out hsm hdm hm6 HW.out ?_;intro w7 hb7;obtain ⟨o1,o2⟩:=(HO6.out.below hb7 (Nat.le_refl _)).set (fun _=>rfl) (i:=dN) hdm (xs0+mo);have hz7:=hb7.size;have hz16:=HB6.out.size;have HB7:=Lib.hid ((HB6.out.trans (hb7.mono hz16)).setCell (p:=⟨g,0+dN,none⟩) hgl.1 (.int .i64 (xs0+mo)))
          have HO7:Hid (Own encInt 1 3 w1.heap.size (w7.setCell ⟨g,0+dN,none⟩ (.int .i64 (xs0+mo))) (some ⟨g,0,none⟩) m c8 (ys.set dN (xs0+mo))):=(show Own _ _ _ _ _ _ _ _ _ from by
           have:=o1
           simpa [encInt,World.setCells] using this)
          clear hb7 o1 o2;generalize w7.setCell ⟨g,0+dN,none⟩ (.int .i64 (xs0+mo))=w8x at *;simp only [setsL,Trsum11,List.take_succ_cons,List.take_zero,Nat.reduceAdd,List.setIfInBounds_toArray,List.set_cons_succ,List.set_cons_zero];go_wp2;go_roundw
          all_goals first
           | (simp [intOf];omega)
           | exact ⟨i+1,ys.set dN (xs0+mo),false,by omega,by go_num,rfl,by simp [hyl],HB7.out,HO7.out,(show ∀ v∈ys.set dN (xs0+mo),_∧_ from el_set heli.out (by omega) (by have:=HE.out;omega) (by have:=HE.out;have:=HIF.out;omega)),(show _=_ by rw [HST.out,if_pos HIF.out])⟩
        · have HIF:Hid (¬(xs0<1000000000∧xs0+mo<xd0)):=(show ¬_ from fun h=>h2 h.2)
          refine rsum2 _ rfl g 0 m c8 wi.heap.size sN dN _ mo yy xs0 xd0 _ w5 _ rfl rfl rfl rfl CE.out hsm hdm hm6 (decide_eq_true h1) HW.out (decide_eq_false h2) ?_;clear h1 h2;intro w6 hb6;have HB6:=Lib.hid (HB5.out.trans (hb6.mono hz15));have HO6:=Lib.hid (HO5.out.below hb6 (Nat.le_refl _));clear hb6;simp only [setsL,Trsum2,Nat.reduceAdd,List.setIfInBounds_toArray,List.set_cons_succ,List.set_cons_zero];go_wp2;go_roundw
          all_goals first
           | (simp [intOf];omega)
           | exact ⟨i+1,ys,sm,by omega,by go_num,rfl,hyl,HB6.out,HO6.out,(show ∀ v∈ys,_∧_ from fun v hv=>by have:=heli.out v hv;omega),(show _=_ by rw [HST.out,if_neg HIF.out])⟩
      · have HIF:Hid (¬(xs0<1000000000∧xs0+mo<xd0)):=(show ¬_ from fun h=>h1 h.1)
        refine rsum1 _ rfl g 0 m c8 wi.heap.size sN dN _ mo yy xs0 xd0 _ w5 _ rfl rfl rfl rfl CE.out hsm hdm hm6 (decide_eq_false h1) ?_;clear h1;intro w6 hb6;have HB6:=Lib.hid (HB5.out.trans (hb6.mono hz15));have HO6:=Lib.hid (HO5.out.below hb6 (Nat.le_refl _));clear hb6;simp only [setsL,Trsum1,Nat.reduceAdd,List.setIfInBounds_toArray,List.set_cons_succ,List.set_cons_zero];go_wp2;go_roundw
        all_goals first
         | (simp [intOf];omega)
         | exact ⟨i+1,ys,sm,by omega,by go_num,rfl,hyl,HB6.out,HO6.out,(show ∀ v∈ys,_∧_ from fun v hv=>by have:=heli.out v hv;omega),(show _=_ by rw [HST.out,if_neg HIF.out])⟩
    · have hin:i=n:=by omega
      subst hin
      cases sm with
      | true=>
        have HR:Hid (R=(ys,true)):=(show _=_ by rw [HRL.out,hti.out];rfl)
        clear HRL;go_wp2;go_ret2;have h1:=HR.out;subst h1;exact ⟨some ⟨g,0,none⟩,c8,by rw [hyl];rfl,(by rw [hyl];exact hOi.out.mono (by omega)),HB1.out.trans (hbi.out.mono (by omega))⟩
      | false=>
        have HR:Hid (R=refLoop bs (m-r) ys):=(show _=_ by rw [HRL.out,hti.out];rfl)
        have hnr:m+1-(r+1)=m-r:=by omega
        clear HRL;go_wp2;go_roundw
        all_goals first
         | (have:=HM.out;simp [intOf];omega)
         | exact ⟨r+1,ys,by have:=HM.out;omega,by go_num,hyl,hbi,hOi,(show ∀ v∈ys,_∧_ from fun v hv=>by have:=heli.out v hv;omega),(show _=_ by rw [hnr];exact HR.out.symm)⟩
theorem zeroInt:(Tryz.prog.info? 3).bind (·.zero)=some (.int .i64 0):=by kernel_rfl
theorem flat_zeros (m:Nat):(List.replicate m (0:Int)).flatMap encInt=List.replicate m (.int .i64 0):=by
 induction m with
 | zero=>rfl
 | succ m ih=>rw [List.replicate_succ,List.flatMap_cons,ih];rfl
theorem run_zeros (B m:Nat) (w:World) (hm:m≤1000000) (hB:B≤w.heap.size):∃ w',(Instr.makeSlice 101 (.int .i64 m) (.int .i64 m)).run Tryz.prog w = .ok (.slice (some ⟨w.heap.size,0,none⟩) m m) w'∧Own encInt 1 3 B w' (some ⟨w.heap.size,0,none⟩) m m (List.replicate m 0)∧w.grownBy w' none:=by
 obtain ⟨i,z,hi,hz0,hz1,hz2,hz3⟩:=elInt.info
 have hzz:z = .int .i64 0:=by
  have h1:=zeroInt;rw [hi] at h1;simpa [hz0] using h1
 obtain ⟨w',h1,h2,h3⟩:=run_makeSlice_full (P:=Tryz.prog) (w:=w) B 101 3 i z 1 elInt.slice hi hz0 hz1 .i64 .i64 m (by omega) (by rw [hz2];omega) (by unfold maxLen;omega) hB;refine ⟨w',h1,⟨by simp,?_⟩,h3⟩;rw [flat_zeros,←toList_madeCells_one];have hc:z.cells = #[.int .i64 0]:=by rw [hzz];rfl
 rw [hc,Nat.mul_one] at h2;exact h2
def codeSlv1:Option Code→Code
 | some (.seq _ (.seq c _))=>c
 | _=> .skip
def SlvI (m:Nat) (ok:Bool) (w:World):List Value→World→Prop
 | [],W=>Below w.heap.size w W
 | [v],W=>Below w.heap.size w W∧∃ Az cz,v = .slice Az m cz∧Rd encInt 1 W Az m cz (List.replicate m 0)
 | [_,u],W=>Below w.heap.size w W∧∃ A' n' c',u = .tuple #[.slice A' n' c',.bool ok]
 | _,_=>False
theorem SlvI.two {m:Nat} {ok:Bool} {w W:World} {cv:List Value} (hl:2≤cv.length) (h:SlvI m ok w cv W):∃ v A' n' c',cv = [v,.tuple #[.slice A' n' c',.bool ok]]:=by
 match cv,hl,h with
 | [v,u],_,⟨_,A',n',c',e⟩=>exact ⟨v,A',n',c',by rw [e]⟩
 | [],hl,_=>simp at hl
 | [_],hl,_=>simp at hl
def Trslv1 (s m:Nat) (A:Option Addr) (n c:Nat) (_:Bool) (cv:List Value):List Value:=
 [.agg #[.int .i64 m,.slice A n c],.pointer (some ⟨s,0,none⟩),.int .i64 m,cv.getD 0 undef,cv.getD 1 undef,prj cv 1 0,prj cv 1 1,prj cv 1 0,prj cv 1 1]
theorem rslv1 (cC:Code) (hc:cC=codeSlv1 Tryz.f206.body) (s m:Nat) (A:Option Addr) (n c:Nat) (ok:Bool) (a:Act) (w:World) (Q:Exit→Act→World→Prop)
 (hT:a.tmps.size=11) (t1:a.tmps.getD 1 undef = .pointer (some ⟨s,0,none⟩))
 (CE:∀ W,Below w.heap.size w W→W.cell? ⟨s,0,none⟩=some (.int .i64 m)∧W.cell? ⟨s,1,none⟩=some (.slice A n c)) (hm:m≤1000)
 (CS:∀ W A2 c2,Below w.heap.size w W→Rd encInt 1 W A2 m c2 (List.replicate m 0)→Calls Tryz.prog 209 #[.agg #[.int .i64 m,.slice A n c],.slice A2 m c2,.int .i64 1000000000] W fun e w'=> ∃ A' n' c',e = .returned (.tuple #[.slice A' n' c',.bool ok])∧Below W.heap.size W w')
 (hQ:∀ v A' n' c' W,Below w.heap.size w W→Q .normal { tmps:=setsL (setsL (a.tmps) 4 [.agg #[.int .i64 m,.slice A n c],.pointer (some ⟨s,0,none⟩),.int .i64 m,v,(.tuple #[.slice A' n' c',.bool ok]),(.slice A' n' c'),(.bool ok)]) 2 [(.slice A' n' c'),(.bool ok)],defers:=a.defers } W):
 cC.wp Tryz.prog Q a w:=by
 subst hc;unfold codeSlv1 Tryz.f206;dsimp only;refine wpIn_wide.1 (wpIn_region_chain (nn:=5) 11 (by kernel_rfl) (by kernel_rfl) (by kernel_rfl) hT (fun i cv=>(Trslv1 s m A n c ok cv).getD i undef) (fun i=>([0,0,0,0,0,2,2,2,2]:List Nat).getD i 0) (fun i=>([1,0,0,1,2,2,2,2,2]:List Nat).getD i 0) [3,4] (by kernel_rfl) (by kernel_rfl) (by kernel_rfl) (by kernel_rfl) (SlvI m ok w) ((Below.refl _ _).drew) (fun b cv hE hold=> ?_) (fun cv W hl hI=> ?_))
 · clear hQ
   have q1:=hold 1 _ (by kernel_rfl) t1;simp only [factsL,Vc,idxC,Trslv1,List.getD_cons_zero,List.getD_cons_succ,Nat.reduceAdd,Nat.reduceEqDiff,reduceIte,Option.map_some,Option.map_none] at hE
   repeat' first|exact chain_nil|refine chain_op 0 rfl rfl ?_ ?_|refine chain_op 1 rfl rfl ?_ ?_|refine chain_skip rfl rfl rfl rfl ?_|refine chain_quiet rfl rfl ?_ ?_
   all_goals intro hl
   any_goals (
    intro hl2;simp only [List.getD_cons_zero,List.getD_cons_succ,Nat.reduceAdd] at hl hl2
    first
     | (obtain rfl:=List.eq_nil_of_length_eq_zero (Nat.le_zero.1 hl2);intro W hW;have hWb:Below w.heap.size w W:=hW;obtain ⟨s0,s1⟩:=CE W hWb;simp only [Trslv1,List.getD_cons_zero,List.getD_cons_succ,Nat.reduceAdd]
        first
         | (refine .inl ?_;go_simp;done)
         | (refine .inl ?_;go_simp;rfl))
     | (intro W hW;simp only [Trslv1,List.getD_cons_zero,List.getD_cons_succ,Nat.reduceAdd];refine .inl ?_;go_simp;(try rfl);done)
     | (intro W hW;have hWb:Below w.heap.size w W:=(match cv,hl2,hW with | [],_,h=>h | [_],_,h=>h.1);obtain ⟨s0,s1⟩:=CE W hWb;simp only [Trslv1,List.getD_cons_zero,List.getD_cons_succ,Nat.reduceAdd]
        first
         | (refine .inl ?_;go_simp;done)
         | (refine .inl ?_;go_simp;rfl))
     | (intro W hW;obtain ⟨v,A',n',c',rfl⟩:=SlvI.two hl hW;simp only [Trslv1,prj,List.take_succ_cons,List.take_zero,List.getD_cons_zero,List.getD_cons_succ,Nat.reduceAdd] at hE ⊢;refine .inl ?_;go_simp;(try rfl);done)
    done)
   · obtain rfl:=List.eq_nil_of_length_eq_zero hl
     intro W hW;have hWb:Below w.heap.size w W:=hW
     have f0:b.eval (.tmp 6) = .int .i64 m:=(by simp only [Act.eval,Array.getD_eq_getD_getElem?];simp [hE])
     obtain ⟨w',h1,h2,h3⟩:=run_zeros W.heap.size m W (by omega) (Nat.le_refl _);refine .inl ⟨.slice (some ⟨W.heap.size,0,none⟩) m m,w',.inl ?_,hWb.grown h3 hWb.size (fun j e=>by cases e),_,_,rfl,h2.rd (fun _=>rfl) (by omega)⟩;simp only [execOp,Sem.run_bind,f0,h1,Result.andThen_ok,Sem.run_pure]
   · obtain ⟨v,rfl⟩:=len1 hl
     rintro W ⟨hWb,Az,cz,rfl,hrd⟩;simp only [List.getD_cons_zero] at hE;refine .inr ⟨209,#[.agg #[.int .i64 m,.slice A n c],.slice Az m cz,.int .i64 1000000000],?_,(CS W Az cz hWb hrd).mono ?_⟩
     · go_simp<;>done
     · rintro e w' ⟨A',n',c',rfl,hb'⟩;exact ⟨_,rfl,hWb.trans (hb'.mono hWb.size),A',n',c',rfl⟩
 · match cv,hl,hI with
   | [v,u],_,⟨hb,A',n',c',e⟩=>subst e;exact hQ v A' n' c' W hb
def codeSys5:Option Code→Code
 | some (.seq _ (.seq _ (.seq (.seq _ (.block _ (.loop (.seq _ (.seq (.block _ c) _))))) _)))=>c
 | _=> .skip
def SysCells (bl ol k gs:Nat) (_:Int) (As:Option Addr) (ns cs:Nat) (x:Link) (w:World):Prop:=∀ W,w.grownBy W (blockOf As)→W.cell? ⟨bl,ol+k * 6,none⟩=some (.int .i64 x.src.pit)∧W.cell? ⟨bl,ol+k * 6+1,none⟩=some (.int .i64 x.src.layer)∧W.cell? ⟨bl,ol+k * 6+2,none⟩=some (.int .i64 x.dst.pit)∧W.cell? ⟨bl,ol+k * 6+3,none⟩=some (.int .i64 x.dst.layer)∧
 W.cell? ⟨bl,ol+k * 6+4,none⟩=some (.int .i64 x.most)∧W.cell? ⟨bl,ol+k * 6+5,none⟩=some (.int .i64 x.by_)∧W.cell? ⟨gs,1,none⟩=some (.slice As ns cs)∧W.frozen? ⟨gs,1,none⟩=false
def SysI (gs B:Nat) (As:Option Addr) (ns _:Nat) (xs:List Bound) (b:Bound) (w:World):List Value→World→Prop
 | [],W=>Below w.heap.size w W
 | [v],W=>Below w.heap.size w W∧∃ nb,v = .slice (some ⟨nb,0,none⟩) 1 1∧Rd encBound 4 W (some ⟨nb,0,none⟩) 1 1 [b]
 | [v,u],W=>w.grownBy W (blockOf As)∧∃ nb A' c',v = .slice (some ⟨nb,0,none⟩) 1 1∧u = .slice A' (ns+1) c'∧Own encBound 4 186 B W A' (ns+1) c' (xs ++ [b])
 | [v,u,_],W=> ∃ W0,w.grownBy W0 (blockOf As)∧∃ nb A' c',v = .slice (some ⟨nb,0,none⟩) 1 1∧u = .slice A' (ns+1) c'∧Own encBound 4 186 B W0 A' (ns+1) c' (xs ++ [b])∧W=W0.setCell ⟨gs,1,none⟩ u
 | _,_=>False
theorem SysI.grown {gs B:Nat} {As:Option Addr} {ns cs:Nat} {xs:List Bound} {b:Bound} {w W:World} {cv:List Value} (h:SysI gs B As ns cs xs b w cv W) (hl:cv.length≤1):w.grownBy W (blockOf As):=by
 match cv,h,hl with
 | [],h,_=>exact ⟨h.os,h.tape,h.output,h.size,fun i hi _=>h.block i hi⟩
 | [v],⟨h,_⟩,_=>exact ⟨h.os,h.tape,h.output,h.size,fun i hi _=>h.block i hi⟩
 | _::_::_,_,hl=>simp at hl
def Trsys5 (Ap:Option Addr) (n cp bl ol m cl gs k:Nat) (_:Int) (As:Option Addr) (ns cs:Nat) (x:Link) (v1 v2:Int) (_:Nat) (_:List Bound) (cv:List Value):List Value:=
 [.pointer (some ⟨gs,0+1,none⟩),.slice As ns cs,.slice Ap n cp,.slice (some ⟨bl,ol,none⟩) m cl,.int .i64 k,.pointer (some ⟨bl,ol+k * 6,none⟩),.pointer (some ⟨bl,ol+k * 6,none⟩),.agg #[.int .i64 x.src.pit,.int .i64 x.src.layer],.int .i64 v1,.slice Ap n cp,.slice (some ⟨bl,ol,none⟩) m cl,.int .i64 k,.pointer (some ⟨bl,ol+k * 6,none⟩),.pointer (some ⟨bl,ol+k * 6+2,none⟩),.agg #[.int .i64 x.dst.pit,.int .i64 x.dst.layer],.int .i64 v2,.slice (some ⟨bl,ol,none⟩) m cl,.int .i64 k,.pointer (some ⟨bl,ol+k * 6,none⟩),.pointer (some ⟨bl,ol+k * 6+4,none⟩),.int .i64 x.most,.slice (some ⟨bl,ol,none⟩) m cl,.int .i64 k,.pointer (some ⟨bl,ol+k * 6,none⟩),.pointer (some ⟨bl,ol+k * 6+5,none⟩),.int .i64 x.by_,.agg #[.int .i64 v1,.int .i64 v2,.int .i64 x.most,.int .i64 x.by_],cv.getD 0 undef,cv.getD 1 undef,.pointer (some ⟨gs,0+1,none⟩),cv.getD 2 undef]
theorem rsys5 (cC:Code) (hc:cC=codeSys5 Tryz.f106.body) (Ap:Option Addr) (n cp bl ol m cl gs k:Nat) (pts:Int) (As:Option Addr) (ns cs:Nat) (x:Link) (v1 v2:Int) (B:Nat) (xs:List Bound) (a:Act) (w:World) (Q:Exit→Act→World→Prop)
 (hT:a.tmps.size=48) (t0:a.tmps.getD 0 undef = .slice Ap n cp) (t1:a.tmps.getD 1 undef = .slice (some ⟨bl,ol,none⟩) m cl) (t5:a.tmps.getD 5 undef = .pointer (some ⟨gs,0,none⟩)) (t6:a.tmps.getD 6 undef = .int .i64 k)
 (CE:SysCells bl ol k gs pts As ns cs x w) (hown:Own encBound 4 186 B w As ns cs xs) (hB:B≤w.heap.size) (hns:ns≤1000000) (hkm:k<m) (_:m≤1000000)
 (C1:∀ W,Below w.heap.size w W→Calls Tryz.prog 107 #[.slice Ap n cp,.agg #[.int .i64 x.src.pit,.int .i64 x.src.layer]] W fun e w'=>e = .returned (.int .i64 v1)∧Below W.heap.size W w')
 (C2:∀ W,Below w.heap.size w W→Calls Tryz.prog 107 #[.slice Ap n cp,.agg #[.int .i64 x.dst.pit,.int .i64 x.dst.layer]] W fun e w'=>e = .returned (.int .i64 v2)∧Below W.heap.size W w')
 (hQ:∀ nb A' c' W,Own encBound 4 186 B W A' (ns+1) c' (xs ++ [⟨v1,v2,x.most,x.by_⟩])→w.grownBy W (blockOf As)→Q .normal { tmps:=setsL a.tmps 17 ((Trsys5 Ap n cp bl ol m cl gs k pts As ns cs x v1 v2 B xs [.slice (some ⟨nb,0,none⟩) 1 1,.slice A' (ns+1) c',undef]).take 30),defers:=a.defers } (W.setCell ⟨gs,1,none⟩ (.slice A' (ns+1) c'))):
 cC.wp Tryz.prog Q a w:=by
 subst hc;unfold codeSys5 Tryz.f106;dsimp only;refine wpIn_wide.1 (wpIn_region_chain (nn:=5) 48 (by kernel_rfl) (by kernel_rfl) (by kernel_rfl) hT (fun i cv=>(Trsys5 Ap n cp bl ol m cl gs k pts As ns cs x v1 v2 B xs cv).getD i undef) (fun i=>([0,0,0,0,0,0,0,0,0,0,0,0,0,0,0,0,0,0,0,0,0,0,0,0,0,0,0,0,0,0,0]:List Nat).getD i 0) (fun i=>([1,1,0,0,0,0,0,0,0,0,0,0,0,0,0,0,0,0,0,0,0,0,0,0,0,0,0,1,2,2,3]:List Nat).getD i 0) [27,28,30] (by kernel_rfl) (by kernel_rfl) (by kernel_rfl) (by kernel_rfl) (SysI gs B As ns cs xs ⟨v1,v2,x.most,x.by_⟩ w) ((Below.refl _ _).drew) (fun b cv hE hold=> ?_) (fun cv W hl hI=> ?_))
 · clear hQ
   have q0:=hold 0 _ (by kernel_rfl) t0;have q1:=hold 1 _ (by kernel_rfl) t1;have q5:=hold 5 _ (by kernel_rfl) t5;have q6:=hold 6 _ (by kernel_rfl) t6;simp only [factsL,Vc,idxC,Trsys5,List.getD_cons_zero,List.getD_cons_succ,Nat.reduceAdd,Nat.reduceEqDiff,reduceIte,Option.map_some,Option.map_none] at hE
   repeat' first|exact chain_nil|refine chain_op 0 rfl rfl ?_ ?_|refine chain_op 1 rfl rfl ?_ ?_|refine chain_op 2 rfl rfl ?_ ?_|refine chain_skip rfl rfl rfl rfl ?_|refine chain_quiet rfl rfl ?_ ?_
   all_goals intro hl
   any_goals (
    intro hl2;simp only [List.getD_cons_zero,List.getD_cons_succ,Nat.reduceAdd] at hl hl2
    first
     | (obtain rfl:=List.eq_nil_of_length_eq_zero (Nat.le_zero.1 hl2);intro W hW;have hWb:Below w.heap.size w W:=hW;obtain ⟨c0,c1,c2,c3,c4,c5,s1,_⟩:=CE W ⟨hWb.os,hWb.tape,hWb.output,hWb.size,fun i hi _=>hWb.block i hi⟩;simp only [Trsys5,List.getD_cons_zero,List.getD_cons_succ,Nat.reduceAdd]
        first
         | (refine .inl ?_;go_simp;done)
         | (refine .inl ?_;go_simp;rfl)
         | (refine .inr (.inr ⟨107,#[.slice Ap n cp,.agg #[.int .i64 x.src.pit,.int .i64 x.src.layer]],?_,(C1 W hW).mono ?_⟩)
            · go_simp<;>done
            · rintro e w' ⟨rfl,hb'⟩;exact ⟨rfl,(show Below _ _ _ from (show Below _ _ _ from hW).trans (hb'.mono (show Below _ _ _ from hW).size))⟩)
         | (refine .inr (.inr ⟨107,#[.slice Ap n cp,.agg #[.int .i64 x.dst.pit,.int .i64 x.dst.layer]],?_,(C2 W hW).mono ?_⟩)
            · go_simp<;>done
            · rintro e w' ⟨rfl,hb'⟩;exact ⟨rfl,(show Below _ _ _ from (show Below _ _ _ from hW).trans (hb'.mono (show Below _ _ _ from hW).size))⟩))
     | (intro W hW;simp only [Trsys5,List.getD_cons_zero,List.getD_cons_succ,Nat.reduceAdd];refine .inl ?_;go_simp;(try rfl);done)
     | (intro W hW;obtain ⟨c0,c1,c2,c3,c4,c5,s1,_⟩:=CE W (SysI.grown hW hl2);simp only [Trsys5,List.getD_cons_zero,List.getD_cons_succ,Nat.reduceAdd]
        first
         | (refine .inl ?_;go_simp;done)
         | (refine .inl ?_;go_simp;rfl))
    done)
   · obtain rfl:=List.eq_nil_of_length_eq_zero hl
     intro W hW;have hWb:Below w.heap.size w W:=hW;refine .inl ⟨.slice (some ⟨W.heap.size,0,none⟩) 1 1,W.alloc (.cells #[.int .i64 v1,.int .i64 v2,.int .i64 x.most,.int .i64 x.by_] 186),.inl ?_,?_⟩
     · go_simp
     · exact ⟨hWb.alloc hWb.size _,_,rfl,Rd.single (enc:=encBound) (k:=4) W #[.int .i64 v1,.int .i64 v2,.int .i64 x.most,.int .i64 x.by_] 186 [⟨v1,v2,x.most,x.by_⟩] 1 rfl (by omega) (fun _=>rfl) (by simp [encBound])⟩
   · obtain ⟨v,rfl⟩:=len1 hl
     rintro W ⟨hWb,nb,rfl,hrd⟩;have hz:=hWb.size
     have f0:b.eval (.tmp 18) = .slice As ns cs:=(by simp only [Act.eval,Array.getD_eq_getD_getElem?];simp [hE])
     have f1:b.eval (.tmp 44) = .slice (some ⟨nb,0,none⟩) 1 1:=(by simp only [Act.eval,Array.getD_eq_getD_getElem?];simp [hE])
     obtain ⟨A',c',wc,hrun,hO2,hg,_⟩:=run_append_src elBound 115 (fun _=>rfl) oneBound (hown.below hWb (Nat.le_refl _)) (some ⟨nb,0,none⟩) 1 1 [⟨v1,v2,x.most,x.by_⟩] hrd (by omega) (by omega) (by omega);refine .inl ⟨.slice A' (ns+1) c',wc,.inl ?_,?_,nb,A',c',rfl,rfl,hO2⟩
     · simp only [execOp,resolve,invoke,builtin,Sem.run_bind,Sem.run_pure,Result.andThen_ok,List.map_toArray,List.map_cons,List.map_nil,f0,f1,hrun]
     · exact ⟨hg.os.trans hWb.os,hg.tape.trans hWb.tape,hg.output.trans hWb.output,Nat.le_trans hWb.size hg.size,fun i hi hne=>(hg.block i (by omega) hne).trans (hWb.block i hi)⟩
   · obtain ⟨v,u,rfl⟩:=len2 hl
     rintro W ⟨hg,nb,A',c',rfl,rfl,hO2⟩;obtain ⟨_,_,_,_,_,_,s1,f1⟩:=CE W hg;simp only [List.getD_cons_zero,List.getD_cons_succ] at hE;refine .inl ⟨undef,W.setCell ⟨gs,1,none⟩ (.slice A' (ns+1) c'),.inr ⟨?_,rfl⟩,W,hg,nb,A',c',rfl,rfl,hO2,rfl⟩;go_simp
 · match cv,hl,hI with
   | [_,_,z],_,⟨W0,hg,nb,A',c',rfl,rfl,hO,e⟩=>subst e;exact hQ nb A' c' W0 hO hg
theorem rsystem_any (Ap:Option Addr) (n cp:Nat) (ps:List Place) (Al:Option Addr) (m cl:Nat) (L:List Link) (w:World) (hp:Rd encPlace 2 w Ap n cp ps) (hl:Rd encLink 6 w Al m cl L) (hn:ps.Nodup) (hz:z00∉ps) (hg:∀ x∈L,goodLink ps x) (hn6:n≤100000) (hm6:m≤100000):
 Calls Tryz.prog 106 #[.slice Ap n cp,.slice Al m cl] w fun e w'=> ∃ A' c',e = .returned (.agg #[.int .i64 (n+1),.slice A' m c'])∧
  Own encBound 4 186 w.heap.size w' A' m c' (L.map (boundOf (ptsM ps ps.length)))∧Below w.heap.size w w':=by
 obtain ⟨w1,hw1⟩:∃ w1,w.alloc (.cells #[.int .i64 0,.slice none 0 0] 117)=w1:=⟨_,rfl⟩
 have hb1:Below w.heap.size w w1:=(by rw [←hw1];exact (Below.refl _ w).alloc (Nat.le_refl _) _)
 have hz1:w1.heap.size=w.heap.size+1:=(by rw [←hw1];simp)
 have hh1:w1.heap[w.heap.size]? = some (.cells #[.int .i64 0,.slice none 0 0] 117 (0,0)):=(by rw [←hw1];exact heap_alloc_new w _)
 obtain ⟨w2,hw2⟩:∃ w2,w1.alloc (.cells #[.int .i64 (n+1),.slice none 0 0] 117)=w2:=⟨_,rfl⟩
 have hb2:Below w1.heap.size w1 w2:=(by rw [←hw2];exact (Below.refl _ w1).alloc (Nat.le_refl _) _)
 have hh2:w2.heap[w1.heap.size]? = some (.cells #[.int .i64 (n+1),.slice none 0 0] 117 (0,0)):=(by rw [←hw2];exact heap_alloc_new w1 _)
 have hz2:w2.heap.size=w1.heap.size+1:=(by rw [←hw2];simp)
 obtain ⟨gs,hgs⟩:∃ gs,w1.heap.size=gs:=⟨_,rfl⟩
 have HP:Hid (∀ W,Below gs w1 W→Rd encPlace 2 W Ap n cp ps):=(show ∀ W,Below gs w1 W→Rd encPlace 2 W Ap n cp ps from fun W h=>(hp.below hb1 (Nat.le_refl _)).below h (by omega))
 have HL:Hid (∀ W,Below gs w1 W→Rd encLink 6 W Al m cl L):=(show ∀ W,Below gs w1 W→Rd encLink 6 W Al m cl L from fun W h=>(hl.below hb1 (Nat.le_refl _)).below h (by omega))
 have LT:Hid (0<m→∃ b off,Al=some ⟨b,off,none⟩∧b<w.heap.size):=(show 0<m→∃ b off,Al=some ⟨b,off,none⟩∧b<w.heap.size from fun h=>by
  obtain ⟨b,off,e,h1,_⟩:=hl.at_ h
  exact ⟨b,off,e,h1⟩)
 have PT:Hid (∀ (W:World) (p:Place),Below gs w1 W→(p=z00∨p∈ps)→Calls Tryz.prog 107 #[.slice Ap n cp,.agg #[.int .i64 p.pit,.int .i64 p.layer]] W fun e w'=>e = .returned (.int .i64 ((getM (ptsM ps ps.length) p).getD 0))∧Below W.heap.size W w'):=
  (show ∀ (W:World) (p:Place),Below gs w1 W→(p=z00∨p∈ps)→_ from fun W p h hpp=>by
    obtain ⟨v,hv⟩:=ptsM_some ps hn hz hpp;have:=rpoint_any Ap n cp ps p v W (HP.out W h) hn hz hv (by omega)
    rw [hv];exact this)
 have HG:=Lib.hid hg;have HNL:=Lib.hid hl.len;have HB1:=Lib.hid hb1;have HH1:=Lib.hid hh1;have HW1:=Lib.hid hw1;have HB2:=Lib.hid hb2;have HZ2:=Lib.hid hz2;have HZ1:=Lib.hid hz1;have HH2:=Lib.hid hh2;have HGS:=Lib.hid hgs;have HW2:=Lib.hid hw2;have hlw:w.heap.size<gs:=by omega
 clear hp hl hn hz hg hb1 hh1 hw1 hb2 hh2 hz1 hgs hw2 hz2
 obtain ⟨M,hM⟩:∃ M,ptsM ps ps.length=M:=⟨_,rfl⟩
 rw [hM] at PT ⊢;clear hM;go_enter Tryz.func106,Tryz.ntmps106;go_wp2_with (rw [HW1.out]);rw [HW2.out,HGS.out];go_loopw [6] (fun s6 wr=> ∃ (k:Nat) (A':Option Addr) (c':Nat),k≤m∧s6 = .int .i64 k∧Hid (Below gs w1 wr)∧Hid (wr.heap[gs]? = some (.cells #[.int .i64 (n+1),.slice A' k c'] 117 (0,0)))∧Hid (Own encBound 4 186 (gs+1) wr A' k c' ((L.take k).map (boundOf M)))) (fun s6 _=>m-(intOf s6).toNat)
 case atStart=>
  have h1:=HB2.out;have h2:=HH2.out;rw [HGS.out] at h1 h2;exact ⟨0,none,0,Nat.zero_le _,rfl,h1,h2,(show Own _ _ _ _ _ _ _ _ _ from Own.none_ _ _ _ _ _)⟩
 case round=>
  obtain ⟨k,A',c',hk,rfl,hbl,hh,hO⟩:=hrel;rename World=>wo;have hgw:gs<wo.heap.size:=(Array.getElem?_eq_some_iff.1 hh.out).1
  have s0:wo.cell? ⟨gs,0,none⟩=some (.int .i64 (n+1)):=(by have:=hh.out;simp [World.cell?,this])
  have s1:wo.cell? ⟨gs,1,none⟩=some (.slice A' k c'):=(by have:=hh.out;simp [World.cell?,this])
  by_cases hlt:k<m
  · obtain ⟨b,off,rfl,hbB⟩:=LT.out (by omega)
    obtain ⟨b',off',x,e,hbw,hx,hcell⟩:=(HL.out wo hbl.out).one hlt;cases e;have c0:wo.cell? ⟨b,off+k * 6,none⟩=some (.int .i64 x.src.pit):=hcell 0 _ rfl;have c1:wo.cell? ⟨b,off+k * 6+1,none⟩=some (.int .i64 x.src.layer):=hcell 1 _ rfl;have c2:wo.cell? ⟨b,off+k * 6+2,none⟩=some (.int .i64 x.dst.pit):=hcell 2 _ rfl;have c3:wo.cell? ⟨b,off+k * 6+3,none⟩=some (.int .i64 x.dst.layer):=hcell 3 _ rfl;have c4:wo.cell? ⟨b,off+k * 6+4,none⟩=some (.int .i64 x.most):=hcell 4 _ rfl;have c5:wo.cell? ⟨b,off+k * 6+5,none⟩=some (.int .i64 x.by_):=hcell 5 _ rfl;have HX:=Lib.hid hx;have hgx:=HG.out x (List.mem_of_getElem? hx);have hne:∀ j,j≤gs→some j≠blockOf A':=fun j hj e=>by have:=hO.out.ltB j e.symm;omega
    have hbb:some b≠blockOf A':=hne b (by omega);have hgb:some gs≠blockOf A':=hne gs (Nat.le_refl _)
    have CE:Hid (SysCells b off k gs (n+1) A' k c' x wo):=(show SysCells b off k gs (n+1) A' k c' x wo from fun W h=>by
     have e:=fun o=>World.cell?_of_block (a:=⟨b,o,none⟩) (h.block b hbw hbb)
     have e2:=(h.block gs hgw hgb).trans hh.out
     exact ⟨(e _).trans c0,(e _).trans c1,(e _).trans c2,(e _).trans c3,(e _).trans c4,(e _).trans c5,by simp [World.cell?,e2],by simp [World.frozen?,e2]⟩)
    have C1:Hid (∀ W,Below wo.heap.size wo W→Calls Tryz.prog 107 #[.slice Ap n cp,.agg #[.int .i64 x.src.pit,.int .i64 x.src.layer]] W fun e w'=>e = .returned (.int .i64 ((getM M x.src).getD 0))∧Below W.heap.size W w'):=
     (show ∀ W,Below wo.heap.size wo W→_ from fun W h=>PT.out W x.src (hbl.out.trans (h.mono (by omega))) hgx.1)
    have C2:Hid (∀ W,Below wo.heap.size wo W→Calls Tryz.prog 107 #[.slice Ap n cp,.agg #[.int .i64 x.dst.pit,.int .i64 x.dst.layer]] W fun e w'=>e = .returned (.int .i64 ((getM M x.dst).getD 0))∧Below W.heap.size W w'):=
     (show ∀ W,Below wo.heap.size wo W→_ from fun W h=>PT.out W x.dst (hbl.out.trans (h.mono (by omega))) hgx.2.1)
    have HGB:=Lib.hid hgb
    have HLTB:Hid (∀ j,blockOf A'=some j→gs≤j):=(show ∀ j,blockOf A'=some j→gs≤j from fun j hj=>by have:=hO.out.ltB j hj;omega)
    clear hcell hx hgx hne hbb hgb c0 c1 c2 c3 c4 c5 hbB
    go_upto_region 5 with (fail)
    refine rsys5 _ rfl Ap n cp b off m cl gs k (n+1) A' k c' x _ _ (gs+1) _ _ wo _ rfl rfl rfl rfl rfl CE.out hO.out (by omega) (by omega) hlt (by omega) C1.out C2.out ?_;intro nb A6 c6 w6 hO6 hg6;have hh6:=(hg6.block gs hgw HGB.out).trans hh.out
    have HH7:Hid ((w6.setCell ⟨gs,1,none⟩ (.slice A6 (k+1) c6)).heap[gs]? = some (.cells #[.int .i64 (n+1),.slice A6 (k+1) c6] 117 (0,0))):=(show _=_ by rw [heap_setCell_obj hh6];rfl)
    have hb6:Below gs w1 w6:=hbl.out.grown hg6 (by omega) HLTB.out;have HB7:=Lib.hid (hb6.setCell (p:=⟨gs,1,none⟩) (Nat.le_refl _) (.slice A6 (k+1) c6))
    have hO7:Own encBound 4 186 (gs+1) (w6.setCell ⟨gs,1,none⟩ (.slice A6 (k+1) c6)) A6 (k+1) c6 ((L.take (k+1)).map (boundOf M)):=by
     have e1:(L.take (k+1)).map (boundOf M)=(L.take k).map (boundOf M) ++ [⟨(getM M x.src).getD 0,(getM M x.dst).getD 0,x.most,x.by_⟩]:=by rw [List.take_add_one,HX.out,Option.toList_some,List.map_append];rfl
     rw [e1];refine hO6.kept (row:=some gs) ?_ ?_
     · exact ⟨rfl,rfl,rfl,by simp,fun j hj hne=>Below.heap_setCell _ _ _ _ (fun e=>hne (by rw [e]))⟩
     · rcases hO6.form with ⟨h,_⟩|⟨g,rfl,h,_⟩
       · exact .inl h
       · refine .inr fun e=> ?_
         simp [blockOf] at e;omega
    have HO7:=Lib.hid hO7;clear hO6 hg6 hh6 hb6 hO7;generalize w6.setCell ⟨gs,1,none⟩ (.slice A6 (k+1) c6)=w7 at *;simp only [setsL,Trsys5,List.take_succ_cons,List.take_zero,List.getD_cons_zero,List.getD_cons_succ,Nat.reduceAdd,List.setIfInBounds_toArray,List.set_cons_succ,List.set_cons_zero];go_wp2;go_roundw
    all_goals first
     | (simp [intOf];omega)
     | exact ⟨k+1,A6,c6,by omega,by go_num,HB7.out,HH7.out,HO7.out⟩
  · have hkm:k=m:=by omega
    subst hkm;have h0:=(hbl.out.block w.heap.size hlw).trans HH1.out
    have r0:wo.cell? ⟨w.heap.size,0,none⟩=some (.int .i64 0):=(by simp [World.cell?,h0])
    have r1:wo.cell? ⟨w.heap.size,1,none⟩=some (.slice none 0 0):=(by simp [World.cell?,h0])
    have rf:∀ j,wo.frozen? ⟨w.heap.size,j,none⟩=false:=fun j=>by simp [World.frozen?,h0]
    have rf0:=rf 0;have rf1:=rf 1;have hwl:w.heap.size<wo.heap.size:=by omega
    have HH0:=Lib.hid h0;clear h0 rf;go_wp2
    have h5:((wo.setCell ⟨w.heap.size,0,none⟩ (.int .i64 (n+1))).setCell ⟨w.heap.size,1,none⟩ (.slice A' k c')).heap[w.heap.size]? = some (.cells #[.int .i64 (n+1),.slice A' k c'] 117 (0,0)):=by
     rw [heap_setCell_obj (heap_setCell_obj HH0.out)];rfl
    refine bodyPost_ret (results_cell_row rfl _ _ w.heap.size _ _ (0,0) _ rfl h5 Tryz.underlying117 rfl (by kernel_rfl)) rfl ?_
    have hO8:Own encBound 4 186 (gs+1) ((wo.setCell ⟨w.heap.size,0,none⟩ (.int .i64 (n+1))).setCell ⟨w.heap.size,1,none⟩ (.slice A' k c')) A' k c' ((L.take k).map (boundOf M)):=
     ⟨hO.out.len,ownsRow_setCell_below (ownsRow_setCell_below hO.out.own (a:=⟨w.heap.size,0,none⟩) (show w.heap.size<gs+1 by omega) _) (a:=⟨w.heap.size,1,none⟩) (show w.heap.size<gs+1 by omega) _⟩
    rw [List.take_of_length_le (by rw [HNL.out];exact Nat.le_refl _)] at hO8;have hbw:Below w.heap.size w wo:=HB1.out.trans (hbl.out.mono (by omega));exact ⟨A',c',rfl,hO8.mono (by omega),(hbw.setCell (p:=⟨w.heap.size,0,none⟩) (Nat.le_refl _) _).setCell (p:=⟨w.heap.size,1,none⟩) (Nat.le_refl _) _⟩
theorem rsolve_any (pts:Int) (A:Option Addr) (n c:Nat) (bs:List Bound) (w:World) (hl:Rd encBound 4 w A n c bs) (hs:SmallSys pts bs):
 Calls Tryz.prog 206 #[.agg #[.int .i64 pts,.slice A n c]] w fun e w'=> ∃ A' n' c',e = .returned (.tuple #[.slice A' n' c',.bool (solvedOk pts bs)])∧Below w.heap.size w w':=by
 have hp51:=hs.p;have hp1:=hs.ok.p1
 obtain ⟨m,hm⟩:∃ m:Nat,(m:Int)=pts:=⟨pts.toNat,by omega⟩
 have hz:refZero pts=List.replicate m 0:=by unfold refZero;rw [←hm,Int.toNat_natCast]
 have hr:=ref_solve hs;rw [hz] at hr
 obtain ⟨w1,hw1⟩:∃ w1,w.alloc (.cells #[.int .i64 pts,.slice A n c] 117)=w1:=⟨_,rfl⟩
 have hb1:Below w.heap.size w w1:=(by rw [←hw1];exact (Below.refl _ w).alloc (Nat.le_refl _) _)
 have hh1:w1.heap[w.heap.size]? = some (.cells #[.int .i64 pts,.slice A n c] 117 (0,0)):=(by rw [←hw1];exact heap_alloc_new w _)
 have hz1:w.heap.size<w1.heap.size:=(Array.getElem?_eq_some_iff.1 hh1).1
 have s0:w1.cell? ⟨w.heap.size,0,none⟩=some (.int .i64 m):=(by rw [hm];simp [World.cell?,hh1])
 have s1:w1.cell? ⟨w.heap.size,1,none⟩=some (.slice A n c):=(by simp [World.cell?,hh1])
 have HS:Hid (∀ W A2 c2,Below w1.heap.size w1 W→Rd encInt 1 W A2 m c2 (List.replicate m 0)→Calls Tryz.prog 209 #[.agg #[.int .i64 m,.slice A n c],.slice A2 m c2,.int .i64 1000000000] W fun e w'=> ∃ A' n' c',e = .returned (.tuple #[.slice A' n' c',.bool (solvedOk pts bs)])∧Below W.heap.size W w'):=
  (show ∀ W A2 c2,Below w1.heap.size w1 W→Rd encInt 1 W A2 m c2 (List.replicate m 0)→_ from fun W A2 c2 h h2=>by
    rw [hm];refine (rsums_any pts A n c bs A2 m c2 _ W ((hl.below hb1 (Nat.le_refl _)).below h (Nat.le_refl _)) h2 hs hm (fun v hv=>by rw [List.eq_of_mem_replicate hv];omega)).mono ?_;rintro e w' ⟨A',c',rfl,_,hb⟩
    exact ⟨A',_,c',by rw [hr],hb⟩)
 have HB1:=Lib.hid hb1;have HW1:=Lib.hid hw1;have hm60:m≤60:=by omega
 subst hm;generalize solvedOk (m:Int) bs=R at *;clear hl hs hz hr hh1 hb1 hw1 hp51 hp1;go_enter Tryz.func206,Tryz.ntmps206
 go_upto_region 1 with (rw [HW1.out])
 refine rslv1 _ rfl w.heap.size m A n c R _ w1 _ rfl rfl (fun W h=>by
  have e:=fun o=>h.cell (p:=⟨w.heap.size,o,none⟩) hz1
  exact ⟨(e _).trans s0,(e _).trans s1⟩) (by omega) HS.out ?_
 intro v A' n' c' w3 hb3;have HB3:=Lib.hid hb3;clear hb3;simp only [setsL,Nat.reduceAdd,List.setIfInBounds_toArray,List.set_cons_succ,List.set_cons_zero];go_wp2;go_ret2;exact ⟨A',n',c',rfl,HB1.out.trans (HB3.out.mono HB1.out.size)⟩
def SysBox (s:Nat) (pts:Int) (A:Option Addr) (n c:Nat) (w1:World):Prop:=∀ W,Below w1.heap.size w1 W→W.cell? ⟨s,0,none⟩=some (.int .i64 pts)∧W.cell? ⟨s,1,none⟩=some (.slice A n c)
theorem sysBox (pts:Int) (A:Option Addr) (n c:Nat) (w:World):SysBox w.heap.size pts A n c (w.alloc (.cells #[.int .i64 pts,.slice A n c] 117)):=fun W h=>by
 have h0:=heap_alloc_new w (.cells #[.int .i64 pts,.slice A n c] 117);have:=(h.block w.heap.size (by simp)).trans h0;simp [World.cell?,this]
theorem rSolve_any (pts:Int) (A:Option Addr) (n c:Nat) (bs:List Bound) (w:World) (hl:Rd encBound 4 w A n c bs) (hs:SmallSys pts bs) (hk:checkSys pts bs=0):
 Calls Tryz.prog 150 #[.agg #[.int .i64 pts,.slice A n c]] w fun e w'=> ∃ A' n' c',e = .returned (.tuple #[.slice A' n' c',.bool (solvedOk pts bs),.int .i64 0])∧Below w.heap.size w w':=by
 have HK:=Lib.hid (fun W (h:Below w.heap.size w W)=>r1Check_ok pts A n c bs W (hl.below h (Nat.le_refl _)) hk);have HS:=Lib.hid (fun W (h:Below w.heap.size w W)=>rsolve_any pts A n c bs W (hl.below h (Nat.le_refl _)) hs);clear hl hs hk;generalize solvedOk pts bs=R at *;have SE:=Lib.hid (sysBox pts A n c w)
 obtain ⟨w1,hw1⟩:∃ w1,w.alloc (.cells #[.int .i64 pts,.slice A n c] 117)=w1:=⟨_,rfl⟩
 have hb1:Below w.heap.size w w1:=(by rw [←hw1];exact (Below.refl _ w).alloc (Nat.le_refl _) _)
 rw [hw1] at SE;have HB1:=Lib.hid hb1;have HW1:=Lib.hid hw1;obtain ⟨s0,s1⟩:=SE.out w1 (Below.refl _ _);clear hb1 hw1;go_enter Tryz.func150,Tryz.ntmps150
 go_wp2_with (first
  | rw [HW1.out]
  | (go_at_call 205;(with_reducible refine (HK.out _ HB1.out).mono ?_);rintro e w2 ⟨rfl,hb2⟩;have HB2:=Lib.hid (HB1.out.trans (hb2.mono HB1.out.size));obtain ⟨s2,s3⟩:=SE.out w2 hb2;clear hb2)
  | (go_at_call 206;(with_reducible refine (HS.out _ HB2.out).mono ?_);rintro e w3 ⟨A3,n3,c3,rfl,hb3⟩;have HB3:=Lib.hid (HB2.out.trans (hb3.mono HB2.out.size));clear hb3))
 go_ret3;exact ⟨A3,n3,c3,rfl,HB3.out⟩
theorem renough_any (A:Option Addr) (n c:Nat) (ts:List Trace) (B:Option Addr) (m d:Nat) (bs:List Bond) (M:Option Addr) (mn mc:Nat) (mv:List Place) (w:World) (hl:Rd encTrace 10 w A n c ts) (hb:Rd encBond 5 w B m d bs) (hm:Rd encPlace 2 w M mn mc mv) (hO:OkO ts bs) (hok:∀ x∈ts,okLT x):
 Calls Tryz.prog 93 #[.slice A n c,.slice B m d,.slice M mn mc] w fun e w'=>e = .returned (.bool (enough ts bs mv))∧Below w.heap.size w w':=by
 have hn:=hl.len;have hbn:=hb.len;have htn:=hO.tn;have hbb:=hO.bn;have hpn:=hO.pn;have hll:=linksL_len ts bs mv;have HP:=Lib.hid (rplaces_any A n c ts B m d bs w hl hb (by omega) (by omega));have HL:=Lib.hid (fun W (h:Below w.heap.size w W)=>rlinks_any A n c ts B m d bs M mn mc mv W (hl.below h (Nat.le_refl _)) (hb.below h (Nat.le_refl _)) (hm.below h (Nat.le_refl _)) (by omega) (by omega) hok);have HS:=Lib.hid (fun W Ap cp Al cl (h1:Rd encPlace 2 W Ap (placesOf ts bs).length cp (placesOf ts bs)) (h2:Rd encLink 6 W Al (linksL ts bs mv).length cl (linksL ts bs mv))=>rsystem_any Ap (placesOf ts bs).length cp (placesOf ts bs) Al (linksL ts bs mv).length cl (linksL ts bs mv) W h1 h2 (placesOf_nodup ts bs) (z00_not hO) (linksL_good hO mv) (by omega) (by omega));have HV:=Lib.hid (fun W A' c' (h1:Rd encBound 4 W A' (linksL ts bs mv).length c' (sysB ts bs mv))=>rSolve_any ((placesOf ts bs).length+1) A' (linksL ts bs mv).length c' (sysB ts bs mv) W h1 (smallSys_years hO mv) (checkSys_years hO mv));have hbig:(linksL ts bs mv).length≤17592186044416:=by omega
 have hE:enough ts bs mv=solvedOk ((placesOf ts bs).length+1) (sysB ts bs mv):=rfl;rw [hE];clear hl hb hm hn hbn htn hbb hpn hll hO hok hE;have hsE:(linksL ts bs mv).map (boundOf (ptsM (placesOf ts bs) (placesOf ts bs).length))=sysB ts bs mv:=rfl;rw [hsE] at HS;generalize solvedOk ((placesOf ts bs).length+1) (sysB ts bs mv)=R at *;clear hsE;generalize sysB ts bs mv=S at *;generalize placesOf ts bs=ps at *;generalize linksL ts bs mv=L at *;go_enter Tryz.func93,Tryz.ntmps93
 go_wp2_with (first
  | (go_at_call 82;(with_reducible refine HP.out.mono ?_);rintro e w2 ⟨A2,c2,rfl,hR2,hb2⟩;have HB2:=Lib.hid hb2;have HR2:=Lib.hid hR2;clear hb2 hR2)
  | (go_at_call 87;(with_reducible refine (HL.out _ HB2.out).mono ?_);rintro e w3 ⟨A3,c3,rfl,hO3,hb3⟩
     have HB3:=Lib.hid (HB2.out.trans (hb3.mono HB2.out.size));have HR3:=Lib.hid (HR2.out.below hb3 (Nat.le_refl _));have HL3:=Lib.hid (hO3.rd (fun _=>rfl) hbig)
     clear hb3 hO3)
  | (go_at_call 106;(with_reducible refine (HS.out _ _ _ _ _ HR3.out HL3.out).mono ?_);rintro e w4 ⟨A4,c4,rfl,hO4,hb4⟩
     have HB4:=Lib.hid (HB3.out.trans (hb4.mono HB3.out.size));have HR4:=Lib.hid (hO4.rd (fun _=>rfl) hbig)
     clear hb4 hO4)
  | (go_at_call 150;(with_reducible refine (HV.out _ _ _ HR4.out).mono ?_);rintro e w5 ⟨A5,n5,c5,rfl,hb5⟩;have HB5:=Lib.hid (HB4.out.trans (hb5.mono HB4.out.size));clear hb5))
 go_ret;exact ⟨rfl,HB5.out⟩
end Go.Proofs.YtelnkflmnbhclaaGreat
end

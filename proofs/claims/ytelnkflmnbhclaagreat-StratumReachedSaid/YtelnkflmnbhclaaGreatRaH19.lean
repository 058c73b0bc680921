/- Contracts that the laws lean on: RdP, ChkA, RRcR, RRch, RIdP, RIdR, RId, RcL. -/
import Derived.Test.YtelnkflmnbhclaaGreatRaH18
import Derived.Test.YtelnkflmnbhclaaGreatRaH05
import Derived.Test.YtelnkflmnbhclaaGreatRaH20
set_option maxRecDepth 100000
set_option maxHeartbeats 8000000
section
namespace Go.Proofs.YtelnkflmnbhclaaGreat
open Go.RowKit Go.Proofs Go.Shelf
theorem getM_map {V:Type} (f:Place→V) (q:Place):∀ ps:List Place,getM (ps.map fun p=>(p,f p)) q=if q∈ps then some (f q) else none
 | []=>by simp [getM]
 | p::ps=>by
   have ih:=getM_map f q ps;unfold getM at ih ⊢;rw [List.map_cons,List.find?_cons];by_cases h:p=q
   · subst h;simp
   · have h':¬q=p:=fun e=>h e.symm
     simp only [h,decide_false];rw [ih];simp [h']
def pointV (ts:List Trace) (bs:List Bond) (p:Place):Int:=(getM (ptsM (placesOf ts bs) (placesOf ts bs).length) p).getD 0
theorem spanAt_in {ts:List Trace} {bs:List Bond} {p:Place} (h:p∈placesOf ts bs):spnAt (spnM ts bs) p=spanOf ((placesOf ts bs).length+1) (sysO ts bs) (pointV ts bs p):=by
 unfold spnAt spnM spanMap;rw [getM_map (fun p=>spanOf ((placesOf ts bs).length+1) (sysO ts bs) ((getM (ptsM (placesOf ts bs) (placesOf ts bs).length) p).getD 0)),if_pos h]
 rfl
theorem spanAt_out {ts:List Trace} {bs:List Bond} {p:Place} (h:p∉placesOf ts bs):spnAt (spnM ts bs) p=zSpn:=by
 unfold spnAt spnM spanMap;rw [getM_map (fun p=>spanOf ((placesOf ts bs).length+1) (sysO ts bs) ((getM (ptsM (placesOf ts bs) (placesOf ts bs).length) p).getD 0)),if_neg h]
 rfl
theorem greatestV_ok {N:Int} {S:List Bound} {a b:Int} (h:solvedOk N S=true):(greatestV N S a b).2.2=0:=by
 unfold greatestV;rw [if_pos h];split<;>rfl
theorem greatestV_no {N:Int} {S:List Bound} {a b:Int} (h:solvedOk N S=false):greatestV N S a b=(0,false,10):=by
 unfold greatestV;rw [if_neg (by simp [h])]
theorem betweenV_two {l:List Trace} {known:Int} {bs:List Bond} (he:askErr l known bs=0) {a b:Place} (ha:a=z00∨a∈placesOf (counting l known) bs) (hb:b=z00∨b∈placesOf (counting l known) bs) (hs:enough (counting l known) bs []=true):
 betweenV l known bs [] a b=((greatestV ((placesOf (counting l known) bs).length+1) (sysO (counting l known) bs) (pointV (counting l known) bs a) (pointV (counting l known) bs b)).1,(greatestV ((placesOf (counting l known) bs).length+1) (sysO (counting l known) bs) (pointV (counting l known) bs a) (pointV (counting l known) bs b)).2.1,0):=by
 have hO:=okO_of he;obtain ⟨va,h1⟩:=ptsM_some _ (placesOf_nodup (counting l known) bs) (z00_not hO) ha;obtain ⟨vb,h2⟩:=ptsM_some _ (placesOf_nodup (counting l known) bs) (z00_not hO) hb;have hw:withErr l known bs []=0:=withErr_zero.2 ⟨he,admittedErr_zero.2 ⟨List.Pairwise.nil,fun p hp=>by cases hp⟩⟩
 have hE:endsErr l known bs [] a b=0:=by
  unfold endsErr ptsOf;rw [if_neg (by simp [hw]),h1,h2]
  rfl
 unfold betweenV;rw [if_neg (by simp [hE])];have:=greatestV_ok (a:=pointV (counting l known) bs a) (b:=pointV (counting l known) bs b) hs;exact if_neg (fun h=>h this)
def rdiff (l l':List Trace) (known:Int) (bs:List Bond) (p:Place):Bool:=
 (hasPl (placesOf (counting l known) bs) p != hasPl (placesOf (counting l' known) bs) p||enough (counting l known) bs [] != enough (counting l' known) bs []) ||
   (enough (counting l known) bs []&&(((betweenV l known bs [] z00 p).1 != (betweenV l' known bs [] z00 p).1||(betweenV l known bs [] z00 p).2.1 != (betweenV l' known bs [] z00 p).2.1)||(betweenV l known bs [] p z00).1 != (betweenV l' known bs [] p z00).1||(betweenV l known bs [] p z00).2.1 != (betweenV l' known bs [] p z00).2.1))
theorem pointV_zero {l:List Trace} {known:Int} {bs:List Bond} (he:askErr l known bs=0):pointV (counting l known) bs z00=0:=by
 unfold pointV;rw [ptsM_zero _ (z00_not (okO_of he)) _ (Nat.le_refl _)];rfl
theorem rdiff_eq {l l':List Trace} {known:Int} {bs:List Bond} (he:askErr l known bs=0) (he':askErr l' known bs=0) {p:Place} (hp:p∈placesOf (counting l known) bs∨p∈placesOf (counting l' known) bs):
 rdiff l l' known bs p=differ (spnM (counting l known) bs) (spnM (counting l' known) bs) p:=by
 unfold rdiff differ;by_cases h1:p∈placesOf (counting l known) bs
 case neg=>
  have h2:p∈placesOf (counting l' known) bs:=hp.resolve_left h1;have e1:hasPl (placesOf (counting l known) bs) p=false:=by rw [←Bool.not_eq_true,hasPl_iff];exact h1
  rw [e1,hasPl_iff.2 h2,spanAt_out h1,spanAt_in h2];simp [eqSpn,zSpn,spanOf]
 case pos=>
 by_cases h2:p∈placesOf (counting l' known) bs
 case neg=>
  have e2:hasPl (placesOf (counting l' known) bs) p=false:=by rw [←Bool.not_eq_true,hasPl_iff];exact h2
  rw [e2,hasPl_iff.2 h1,spanAt_out h2,spanAt_in h1];simp [eqSpn,zSpn,spanOf]
 case pos=>
  rw [hasPl_iff.2 h1,hasPl_iff.2 h2,spanAt_in h1,spanAt_in h2];have s1:enough (counting l known) bs []=solvedOk ((placesOf (counting l known) bs).length+1) (sysO (counting l known) bs):=rfl;have s2:enough (counting l' known) bs []=solvedOk ((placesOf (counting l' known) bs).length+1) (sysO (counting l' known) bs):=rfl;cases k1:enough (counting l known) bs []<;>cases k2:enough (counting l' known) bs []
  · rw [k1] at s1
    rw [k2] at s2;unfold spanOf;simp only [greatestV_no s1.symm,greatestV_no s2.symm];simp [eqSpn]
  · rw [k1] at s1
    rw [k2] at s2;unfold spanOf;simp only [greatestV_no s1.symm,greatestV_ok s2.symm];simp [eqSpn]
  · rw [k1] at s1
    rw [k2] at s2;unfold spanOf;simp only [greatestV_ok s1.symm,greatestV_no s2.symm];simp [eqSpn]
  · rw [betweenV_two he (.inl rfl) (.inr h1) k1,betweenV_two he (.inr h1) (.inl rfl) k1,betweenV_two he' (.inl rfl) (.inr h2) k2,betweenV_two he' (.inr h2) (.inl rfl) k2,pointV_zero he,pointV_zero he']
    rw [k1] at s1;rw [k2] at s2;unfold spanOf;simp only [greatestV_ok s1.symm,greatestV_ok s2.symm];generalize greatestV _ (sysO (counting l known) bs) 0 _=a1;generalize greatestV _ (sysO (counting l known) bs) _ 0=a2;generalize greatestV _ (sysO (counting l' known) bs) 0 _=b1;generalize greatestV _ (sysO (counting l' known) bs) _ 0=b2;obtain ⟨a11,a12,a13⟩:=a1;obtain ⟨a21,a22,a23⟩:=a2;obtain ⟨b11,b12,b13⟩:=b1;obtain ⟨b21,b22,b23⟩:=b2;rw [Bool.eq_iff_iff];simp only [eqSpn,Spn.mk.injEq,Bool.true_and,bne_self_eq_false,Bool.or_eq_true,bne_iff_ne,Bool.not_eq_true',decide_eq_false_iff_not,Bool.false_or,beq_self_eq_true,and_true,Bool.or_false]
    constructor
    · intro h e
      obtain ⟨e1,e2,e3,e4⟩:=e;have e1':a21=b21:=by omega
      simp_all
    · intro h
      by_cases q1:a21=b21<;>by_cases q2:a11=b11<;>by_cases q3:a22=b22<;>by_cases q4:a12=b12<;>simp_all
theorem reached_ref {l l':List Trace} {known:Int} {bs:List Bond} (he:askErr l known bs=0) (he':askErr l' known bs=0):
 ((placesOf (counting l known) bs++placesOf (counting l' known) bs).foldl putPl []).filter (rdiff l l' known bs)=reachedL (counting l known) (counting l' known) bs:=by
 unfold reachedL;refine asc_eq ((putAll_asc _ List.Pairwise.nil).filter _) (putAll_asc _ List.Pairwise.nil) fun q=> ?_
 rw [List.mem_filter,putAll_mem,putAll_mem,List.mem_filter,List.mem_append]
 constructor
 · rintro ⟨h|h,hd⟩
   · cases h
   · rw [rdiff_eq he he' h] at hd
     exact .inr ⟨h,hd⟩
 · rintro (h|⟨h,hd⟩)
   · cases h
   · rw [←rdiff_eq he he' h] at hd
     exact ⟨.inr h,hd⟩
theorem rAppend_any (A:Option Addr) (n c:Nat) (l:List Trace) (x:Trace) (w:World) (hl:Rd encTrace 10 w A n c l):
 Calls Tryz.prog 44 #[.slice A n c,.agg #[.int .i64 x.id,.int .i64 x.known,.int .u8 x.kind,.int .i64 x.pit,.int .i64 x.layer,.int .i64 x.lower,.int .i64 x.low,.int .i64 x.high,.int .i64 x.cost,.int .i64 x.void]] w fun e w'=> ∃ A' c',e = .returned (.tuple #[.slice A' (appendV l x).1.length c',.int .i64 (appendV l x).2])∧Below w.heap.size w w'∧
  Own encTrace 10 25 w.heap.size w' A' (appendV l x).1.length c' (appendV l x).1:=by
 obtain ⟨w1,hw1⟩:∃ w1,w.alloc (.cells #[.int .i64 x.id,.int .i64 x.known,.int .u8 x.kind,.int .i64 x.pit,.int .i64 x.layer,.int .i64 x.lower,.int .i64 x.low,.int .i64 x.high,.int .i64 x.cost,.int .i64 x.void] 25)=w1:=⟨_,rfl⟩
 have hb1:Below w.heap.size w w1:=(by rw [←hw1];exact (Below.refl _ w).alloc (Nat.le_refl _) _)
 have hz1:w1.heap.size=w.heap.size+1:=(by rw [←hw1];simp)
 have hr1:w1.heap[w.heap.size]? = some (.cells #[.int .i64 x.id,.int .i64 x.known,.int .u8 x.kind,.int .i64 x.pit,.int .i64 x.layer,.int .i64 x.lower,.int .i64 x.low,.int .i64 x.high,.int .i64 x.cost,.int .i64 x.void] 25 (0,0)):=(by rw [←hw1];exact heap_alloc_new w _)
 have HC:=Lib.hid (rCheck_any A n c l w1 (hl.below hb1 (Nat.le_refl _)));have HL:=Lib.hid hl
 have CELLS:Hid (∀ W:World,Below w1.heap.size w1 W→W.cell? ⟨w.heap.size,0,none⟩=some (.int .i64 x.id)∧W.cell? ⟨w.heap.size,1,none⟩=some (.int .i64 x.known)∧W.cell? ⟨w.heap.size,2,none⟩=some (.int .u8 x.kind)∧W.cell? ⟨w.heap.size,3,none⟩=some (.int .i64 x.pit)∧W.cell? ⟨w.heap.size,4,none⟩=some (.int .i64 x.layer)∧W.cell? ⟨w.heap.size,5,none⟩=some (.int .i64 x.lower)∧W.cell? ⟨w.heap.size,6,none⟩=some (.int .i64 x.low)∧W.cell? ⟨w.heap.size,7,none⟩=some (.int .i64 x.high)∧W.cell? ⟨w.heap.size,8,none⟩=some (.int .i64 x.cost)∧W.cell? ⟨w.heap.size,9,none⟩=some (.int .i64 x.void)):=(show ∀ W:World,Below w1.heap.size w1 W→_ from fun W hb=>by
  have:=(hb.block _ (by omega)).trans hr1
  simp [World.cell?,this])
 clear hl hr1;by_cases he:(check l).2=0
 · have hsm:=check_small he
   rw [he] at HC;have hv:appendV l x=if follows l x≠0 then ([],follows l x) else (l ++ [x],0):=by unfold appendV;rw [if_neg (by simpa using he)]
   rw [hv];clear hv he
   obtain ⟨f,hf⟩:∃ f,follows l x=f:=⟨_,rfl⟩
   have hfol:=fun W (hb:Below w1.heap.size w1 W)=>rRefused_any A n c l x W (HL.out.below (hb1.trans (hb.mono (by omega))) (Nat.le_refl _))
   have HF:=Lib.hid (show ∀ W,Below w1.heap.size w1 W→Calls Tryz.prog 95 #[.slice A n c,.agg #[.int .i64 x.id,.int .i64 x.known,.int .u8 x.kind,.int .i64 x.pit,.int .i64 x.layer,.int .i64 x.lower,.int .i64 x.low,.int .i64 x.high,.int .i64 x.cost,.int .i64 x.void]] W fun e' w'=>e' = .returned (.int .i64 f)∧Below W.heap.size W w' by
    intro W hb;have:=hfol W hb;rw [←hf];exact this)
   rw [hf];clear hfol hf;have hnl:=HL.out.len;have hn140:n≤140:=by omega
   have HNL:=Lib.hid hnl;clear hnl hsm;by_cases hf0:f=0
   · subst hf0
     rw [if_neg (by simp)];go_enter Tryz.func44,Tryz.ntmps44
     go_upto_region 6 with (first
      | (go_at_call 43;(with_reducible refine HC.out.mono ?_);rintro e w2 ⟨rfl,hb2⟩
         obtain ⟨c0,c1,c2,c3,c4,c5,c6,c7,c8,c9⟩:=CELLS.out w2 hb2;have HF2:=Lib.hid (HF.out w2 hb2);have HB2:=Lib.hid hb2
         clear hb2)
      | (go_at_call 95;(with_reducible refine HF2.out.mono ?_);rintro e w3 ⟨rfl,hb3⟩
         have HB3:=Lib.hid (HB2.out.trans (hb3.mono HB2.out.size))
         clear hb3 c0 c1 c2 c3 c4 c5 c6 c7 c8 c9))
     have hz3:w1.heap.size≤w3.heap.size:=HB3.out.size
     have RL:Hid (∀ W,Below w1.heap.size w1 W→Rd encTrace 10 W A n c l):=(show ∀ W,Below w1.heap.size w1 W→Rd encTrace 10 W A n c l from fun W hb=>HL.out.below (hb1.trans (hb.mono (by omega))) (Nat.le_refl _))
     have SX:Hid (∀ W,Below w1.heap.size w1 W→Hid (Below w1.heap.size w1 W)∧W.cell? ⟨w.heap.size,0,none⟩=some (.int .i64 x.id)∧W.cell? ⟨w.heap.size,1,none⟩=some (.int .i64 x.known)∧W.cell? ⟨w.heap.size,2,none⟩=some (.int .u8 x.kind)∧W.cell? ⟨w.heap.size,3,none⟩=some (.int .i64 x.pit)∧W.cell? ⟨w.heap.size,4,none⟩=some (.int .i64 x.layer)∧W.cell? ⟨w.heap.size,5,none⟩=some (.int .i64 x.lower)∧W.cell? ⟨w.heap.size,6,none⟩=some (.int .i64 x.low)∧W.cell? ⟨w.heap.size,7,none⟩=some (.int .i64 x.high)∧W.cell? ⟨w.heap.size,8,none⟩=some (.int .i64 x.cost)∧W.cell? ⟨w.heap.size,9,none⟩=some (.int .i64 x.void)):=(show ∀ W,Below w1.heap.size w1 W→_ from fun W hb=>⟨hb,CELLS.out W hb⟩)
     have E1:Hid (Own encTrace 10 25 w1.heap.size (w3.alloc (.cells #[] 25)).drew (some ⟨w3.heap.size,0,none⟩) 0 0 []):=Lib.hid (Own.fresh encTrace 10 25 w3 hz3).drew;have E2:Hid (Own encTrace 10 25 w1.heap.size ((w3.alloc (.cells #[] 25)).alloc (.cells #[.int .i64 x.id,.int .i64 x.known,.int .u8 x.kind,.int .i64 x.pit,.int .i64 x.layer,.int .i64 x.lower,.int .i64 x.low,.int .i64 x.high,.int .i64 x.cost,.int .i64 x.void] 25)).drew (some ⟨w3.heap.size,0,none⟩) 0 0 []):=Lib.hid ((Own.fresh encTrace 10 25 w3 hz3).alloc _).drew;have E3:Hid (Own encTrace 10 25 w1.heap.size ((w3.alloc (.cells #[.int .i64 x.id,.int .i64 x.known,.int .u8 x.kind,.int .i64 x.pit,.int .i64 x.layer,.int .i64 x.lower,.int .i64 x.low,.int .i64 x.high,.int .i64 x.cost,.int .i64 x.void] 25)).alloc (.cells #[] 25)).drew (some ⟨w3.heap.size+1,0,none⟩) 0 0 []):=Lib.hid (by have:=(Own.fresh encTrace 10 25 (B:=w1.heap.size) (w3.alloc (.cells #[.int .i64 x.id,.int .i64 x.known,.int .u8 x.kind,.int .i64 x.pit,.int .i64 x.layer,.int .i64 x.lower,.int .i64 x.low,.int .i64 x.high,.int .i64 x.cost,.int .i64 x.void] 25)) (by simp;omega)).drew;rwa [World.size_alloc] at this);have B1:Hid (Below w1.heap.size w1 (w3.alloc (.cells #[] 25)).drew):=Lib.hid (HB3.out.alloc hz3 _).drew;have B2:Hid (Below w1.heap.size w1 ((w3.alloc (.cells #[] 25)).alloc (.cells #[.int .i64 x.id,.int .i64 x.known,.int .u8 x.kind,.int .i64 x.pit,.int .i64 x.layer,.int .i64 x.lower,.int .i64 x.low,.int .i64 x.high,.int .i64 x.cost,.int .i64 x.void] 25)).drew):=Lib.hid ((HB3.out.alloc hz3 _).alloc (by simp;omega) _).drew;have B3:Hid (Below w1.heap.size w1 ((w3.alloc (.cells #[.int .i64 x.id,.int .i64 x.known,.int .u8 x.kind,.int .i64 x.pit,.int .i64 x.layer,.int .i64 x.lower,.int .i64 x.low,.int .i64 x.high,.int .i64 x.cost,.int .i64 x.void] 25)).alloc (.cells #[] 25)).drew):=Lib.hid ((HB3.out.alloc hz3 _).alloc (by simp;omega) _).drew;have R2:Hid (Rd encTrace 10 ((w3.alloc (.cells #[] 25)).alloc (.cells #[.int .i64 x.id,.int .i64 x.known,.int .u8 x.kind,.int .i64 x.pit,.int .i64 x.layer,.int .i64 x.lower,.int .i64 x.low,.int .i64 x.high,.int .i64 x.cost,.int .i64 x.void] 25)).drew (some ⟨w3.heap.size+1,0,none⟩) 1 1 [x]):=Lib.hid (by have:=(Rd.single (enc:=encTrace) (k:=10) (w3.alloc (.cells #[] 25)) #[.int .i64 x.id,.int .i64 x.known,.int .u8 x.kind,.int .i64 x.pit,.int .i64 x.layer,.int .i64 x.lower,.int .i64 x.low,.int .i64 x.high,.int .i64 x.cost,.int .i64 x.void] 25 [x] 1 rfl (by omega) (fun _=>rfl) (by simp [encTrace])).drew;rwa [World.size_alloc] at this);have R3:Hid (Rd encTrace 10 ((w3.alloc (.cells #[.int .i64 x.id,.int .i64 x.known,.int .u8 x.kind,.int .i64 x.pit,.int .i64 x.layer,.int .i64 x.lower,.int .i64 x.low,.int .i64 x.high,.int .i64 x.cost,.int .i64 x.void] 25)).alloc (.cells #[] 25)).drew (some ⟨w3.heap.size,0,none⟩) 1 1 [x]):=Lib.hid ((Rd.single (enc:=encTrace) (k:=10) w3 #[.int .i64 x.id,.int .i64 x.known,.int .u8 x.kind,.int .i64 x.pit,.int .i64 x.layer,.int .i64 x.lower,.int .i64 x.low,.int .i64 x.high,.int .i64 x.cost,.int .i64 x.void] 25 [x] 1 rfl (by omega) (fun _=>rfl) (by simp [encTrace])).alloc _).drew;clear CELLS HC HF HF2 HB2
     go_region_held3 (fun W=>Hid (Below w1.heap.size w1 W)∧W.cell? ⟨w.heap.size,0,none⟩=some (.int .i64 x.id)∧W.cell? ⟨w.heap.size,1,none⟩=some (.int .i64 x.known)∧W.cell? ⟨w.heap.size,2,none⟩=some (.int .u8 x.kind)∧W.cell? ⟨w.heap.size,3,none⟩=some (.int .i64 x.pit)∧W.cell? ⟨w.heap.size,4,none⟩=some (.int .i64 x.layer)∧W.cell? ⟨w.heap.size,5,none⟩=some (.int .i64 x.lower)∧W.cell? ⟨w.heap.size,6,none⟩=some (.int .i64 x.low)∧W.cell? ⟨w.heap.size,7,none⟩=some (.int .i64 x.high)∧W.cell? ⟨w.heap.size,8,none⟩=some (.int .i64 x.cost)∧W.cell? ⟨w.heap.size,9,none⟩=some (.int .i64 x.void)) (first|exact SX.out _ HB9.out|exact SX.out _ HB8.out|exact SX.out _ (HB8.out.alloc hz8 _)|exact SX.out _ B1.out|exact SX.out _ B2.out|exact SX.out _ B3.out|exact SX.out _ HB3.out.drew|exact SX.out _ (HB3.out.drew.alloc hz3 _))
      (first
        | (refine step_append_src elTrace (fun _=>rfl) oneTrace rfl (.tmp 21) (.tmp 22) rfl _ _ _ _ rfl rfl E1.out (RL.out _ B1.out) (by omega) (by decide) (by (try simp);omega) ?_;intro A8 c8 w8 hO8 hg8 hA8
           have HB8:=Lib.hid (B1.out.grown hg8 (by simp;omega) (fun j e=>by have:w3.heap.size=j:=(by simpa [blockOf] using e);omega));have hz8:=HB8.out.size;rw [Nat.zero_add,List.nil_append] at hO8;have HO8:=Lib.hid (hO8.alloc (.cells #[.int .i64 x.id,.int .i64 x.known,.int .u8 x.kind,.int .i64 x.pit,.int .i64 x.layer,.int .i64 x.lower,.int .i64 x.low,.int .i64 x.high,.int .i64 x.cost,.int .i64 x.void] 25));have HR8:=Lib.hid (Rd.single (enc:=encTrace) (k:=10) w8 #[.int .i64 x.id,.int .i64 x.known,.int .u8 x.kind,.int .i64 x.pit,.int .i64 x.layer,.int .i64 x.lower,.int .i64 x.low,.int .i64 x.high,.int .i64 x.cost,.int .i64 x.void] 25 [x] 1 rfl (by omega) (fun _=>rfl) (by simp [encTrace]))
           clear hO8 hg8 hA8)
        | (refine step_append_src elTrace (fun _=>rfl) oneTrace rfl (.tmp 21) (.tmp 22) rfl _ _ _ _ rfl rfl E2.out (RL.out _ B2.out) (by omega) (by decide) (by (try simp);omega) ?_;intro A8 c8 w8 hO8 hg8 hA8
           have HB8:=Lib.hid (B2.out.grown hg8 (by simp;omega) (fun j e=>by have:w3.heap.size=j:=(by simpa [blockOf] using e);omega));have hz8:=HB8.out.size;have HR8:=Lib.hid (R2.out.grown hg8 (fun _ q e=>by simp [blockOf] at e ⊢;omega));have HO8:=Lib.hid hO8
           clear hO8 hg8 hA8)
        | (refine step_append_src elTrace (fun _=>rfl) oneTrace rfl (.tmp 21) (.tmp 22) rfl _ _ _ _ rfl rfl E3.out (RL.out _ B3.out) (by omega) (by decide) (by (try simp);omega) ?_;intro A8 c8 w8 hO8 hg8 hA8
           have HB8:=Lib.hid (B3.out.grown hg8 (by simp;omega) (fun j e=>by have:w3.heap.size+1=j:=(by simpa [blockOf] using e);omega));have hz8:=HB8.out.size;have HR8:=Lib.hid (R3.out.grown hg8 (fun _ q e=>by simp [blockOf] at e ⊢;omega));have HO8:=Lib.hid hO8
           clear hO8 hg8 hA8)
        | (refine step_append_src elTrace (fun _=>rfl) oneTrace rfl (.tmp 23) (.tmp 25) rfl _ _ _ _ rfl rfl HO8.out HR8.out (by omega) (by decide) (by (try simp);omega) ?_;intro A9 c9 w9 hO9 hg9 hA9
           have HB9:=Lib.hid (show Below w1.heap.size w1 w9 from by first|exact (HB8.out.alloc hz8 _).grown hg9 (by simp;omega) (fun j e=>HO8.out.ltB j e)|exact HB8.out.grown hg9 hz8 (fun j e=>HO8.out.ltB j e));have HO9:=Lib.hid hO9
           clear hO9 hg9 hA9))
     all_goals go_wp2
     all_goals go_ret2
     all_goals exact ⟨A9,c9,by simp [HNL.out],hb1.trans (HB9.out.mono (by omega)),by
      have h9:=HO9.out.mono (B':=w.heap.size) (by omega)
      first
       | (rw [Nat.zero_add,List.nil_append] at h9;simpa [HNL.out] using h9)
       | simpa [HNL.out] using h9⟩
   · rw [if_pos hf0]
     have hf1:=neBool hf0;go_enter Tryz.func44,Tryz.ntmps44
     go_wp2_with (first
      | (go_at_call 43;(with_reducible refine HC.out.mono ?_);rintro e w2 ⟨rfl,hb2⟩
         obtain ⟨c0,c1,c2,c3,c4,c5,c6,c7,c8,c9⟩:=CELLS.out w2 hb2;have HF2:=Lib.hid (HF.out w2 hb2);have HB2:=Lib.hid hb2
         clear hb2)
      | (go_at_call 95;(with_reducible refine HF2.out.mono ?_);rintro e w3 ⟨rfl,hb3⟩
         have HB3:=Lib.hid (HB2.out.trans (hb3.mono HB2.out.size))
         clear hb3))
     go_ret2;exact ⟨none,0,rfl,hb1.trans (HB3.out.mono (by omega)),Own.none_ _ _ _ _ _⟩
 · have hv:appendV l x=([],(check l).2):=by unfold appendV;rw [if_pos he]
   rw [hv];have he':=neBool he;have he2:((check l).2==0)=false:=beq_eq_false_iff_ne.2 he;generalize (check l).2=ce at *;go_enter Tryz.func44,Tryz.ntmps44
   go_wp2_with (first
    | (go_at_call 43;(with_reducible refine HC.out.mono ?_);rintro e w2 ⟨rfl,hb2⟩
       have HB2:=Lib.hid hb2
       clear hb2))
   go_ret2;exact ⟨none,0,rfl,hb1.trans (HB2.out.mono (by omega)),Own.none_ _ _ _ _ _⟩
def RcP (bz oz k:Nat) (p:Place) (w:World):Prop:=∀ W,Below w.heap.size w W→W.cell? ⟨bz,oz+k * 2,none⟩=some (.int .i64 p.pit)∧W.cell? ⟨bz,oz+k * 2+1,none⟩=some (.int .i64 p.layer)
def RcPK (bx:Nat) (known:Int) (bz oz k:Nat) (p:Place) (w:World):Prop:=∀ W,Below w.heap.size w W→W.cell? ⟨bx,1,none⟩=some (.int .i64 known)∧W.cell? ⟨bz,oz+k * 2,none⟩=some (.int .i64 p.pit)∧W.cell? ⟨bz,oz+k * 2+1,none⟩=some (.int .i64 p.layer)
def codeRrc25:Option Code→Code
 | some (.seq _ (.seq _ (.seq _ (.seq _ (.seq _ (.seq _ (.seq _ (.seq _ (.seq _ (.seq _ (.seq _ (.seq _ (.seq _ (.seq (.seq _ (.block _ (.loop (.seq _ (.seq (.block _ (.seq c _)) _))))) _))))))))))))))=>c
 | _=> .skip
def Trrc25t (P1:Option Addr) (n1 c1:Nat) (P2:Option Addr) (n2 c2 bz oz na ca k:Nat) (p:Place) (h1 h2:Bool):List Value:=
 [.slice P1 n1 c1,.slice (some ⟨bz,oz,none⟩) na ca,.int .i64 k,.pointer (some ⟨bz,oz+k * 2,none⟩),.agg #[.int .i64 p.pit,.int .i64 p.layer],.bool h1,.slice P2 n2 c2,.slice (some ⟨bz,oz,none⟩) na ca,.int .i64 k,.pointer (some ⟨bz,oz+k * 2,none⟩),.agg #[.int .i64 p.pit,.int .i64 p.layer],.bool h2,.bool true,.bool true,undef,undef,undef,.bool true,.bool true]
theorem rrc25t (cC:Code) (hc:cC=codeRrc25 Tryz.f70.body) (P1:Option Addr) (n1 c1:Nat) (P2:Option Addr) (n2 c2 bz oz na ca k:Nat) (p:Place) (h1 h2:Bool) (a:Act) (w:World) (Q:Exit→Act→World→Prop)
 (hT:a.tmps.size=215) (t10:a.tmps.getD 10 undef = .slice P1 n1 c1) (t11:a.tmps.getD 11 undef = .slice P2 n2 c2) (t14:a.tmps.getD 14 undef = .slice (some ⟨bz,oz,none⟩) na ca) (t18:a.tmps.getD 18 undef = .int .i64 k)
 (CE:RcP bz oz k p w) (hkn:k<na) (_:na≤1000000) (hd:(h1 != h2)=true)
 (C1:∀ W,Below w.heap.size w W→Calls Tryz.prog 65 #[.slice P1 n1 c1,.agg #[.int .i64 p.pit,.int .i64 p.layer]] W fun e w'=>e = .returned (.bool h1)∧Below W.heap.size W w')
 (C2:∀ W,Below w.heap.size w W→Calls Tryz.prog 65 #[.slice P2 n2 c2,.agg #[.int .i64 p.pit,.int .i64 p.layer]] W fun e w'=>e = .returned (.bool h2)∧Below W.heap.size W w')
 (hQ:∀ W,Below w.heap.size w W→Q .normal { tmps:=(setsL (a.tmps) 109 [.slice P1 n1 c1,.slice (some ⟨bz,oz,none⟩) na ca,.int .i64 k,.pointer (some ⟨bz,oz+k * 2,none⟩),.agg #[.int .i64 p.pit,.int .i64 p.layer],.bool h1,.slice P2 n2 c2,.slice (some ⟨bz,oz,none⟩) na ca,.int .i64 k,.pointer (some ⟨bz,oz+k * 2,none⟩),.agg #[.int .i64 p.pit,.int .i64 p.layer],.bool h2,.bool true,.bool true,undef,undef,undef,.bool true]).setIfInBounds 19 (.bool true),defers:=a.defers } W):
 cC.wp Tryz.prog Q a w:=by
 subst hc;unfold codeRrc25 Tryz.f70;dsimp only;refine wpIn_wide.1 (wpIn_region_flow (nn:=5) 215 (by kernel_rfl) (by kernel_rfl) (by kernel_rfl) hT (fun i=>(Trrc25t P1 n1 c1 P2 n2 c2 bz oz na ca k p h1 h2).getD i undef) (fun W=>Below w.heap.size w W) ((Below.refl _ _).drew) (fun b hE hold=> ?_) hQ);clear hQ;have q10:=hold 10 _ (by kernel_rfl) t10;have q11:=hold 11 _ (by kernel_rfl) t11;have q14:=hold 14 _ (by kernel_rfl) t14;have q18:=hold 18 _ (by kernel_rfl) t18;simp only [factsL,Trrc25t,List.getD_cons_zero,List.getD_cons_succ,Nat.reduceAdd] at hE
 repeat' first|exact steps_nil|refine steps_skip rfl rfl ?_|refine steps_go rfl ?_ ?_
 all_goals (intro W hW;obtain ⟨p0,p1⟩:=CE W hW;simp only [Trrc25t,List.getD_cons_zero,List.getD_cons_succ,Nat.reduceAdd])
 all_goals first
  | (refine .inl ?_;go_simp;done)
  | (refine .inl ?_;go_simp;rfl)
  | (refine .inl ?_;go_simp;(simpa using hd);done)
  | (refine .inr (.inr ⟨65,#[.slice P1 n1 c1,.agg #[.int .i64 p.pit,.int .i64 p.layer]],?_,(C1 W hW).mono ?_⟩)
     · go_simp<;>done
     · rintro e w' ⟨rfl,hb'⟩;exact ⟨rfl,(show Below _ _ _ from (show Below _ _ _ from hW).trans (hb'.mono (show Below _ _ _ from hW).size))⟩)
  | (refine .inr (.inr ⟨65,#[.slice P2 n2 c2,.agg #[.int .i64 p.pit,.int .i64 p.layer]],?_,(C2 W hW).mono ?_⟩)
     · go_simp<;>done
     · rintro e w' ⟨rfl,hb'⟩;exact ⟨rfl,(show Below _ _ _ from (show Below _ _ _ from hW).trans (hb'.mono (show Below _ _ _ from hW).size))⟩)
def Trrc25f (P1:Option Addr) (n1 c1:Nat) (P2:Option Addr) (n2 c2 bz oz na ca k:Nat) (p:Place) (h1 h2:Bool) (one two:Bool):List Value:=
 [.slice P1 n1 c1,.slice (some ⟨bz,oz,none⟩) na ca,.int .i64 k,.pointer (some ⟨bz,oz+k * 2,none⟩),.agg #[.int .i64 p.pit,.int .i64 p.layer],.bool h1,.slice P2 n2 c2,.slice (some ⟨bz,oz,none⟩) na ca,.int .i64 k,.pointer (some ⟨bz,oz+k * 2,none⟩),.agg #[.int .i64 p.pit,.int .i64 p.layer],.bool h2,.bool false,.bool false,.bool one,.bool two,.bool (one != two),.bool (one != two),.bool (one != two)]
theorem rrc25f (cC:Code) (hc:cC=codeRrc25 Tryz.f70.body) (P1:Option Addr) (n1 c1:Nat) (P2:Option Addr) (n2 c2 bz oz na ca k:Nat) (p:Place) (h1 h2:Bool) (one two:Bool) (a:Act) (w:World) (Q:Exit→Act→World→Prop)
 (hT:a.tmps.size=215) (t10:a.tmps.getD 10 undef = .slice P1 n1 c1) (t11:a.tmps.getD 11 undef = .slice P2 n2 c2) (t12:a.tmps.getD 12 undef = .bool one) (t13:a.tmps.getD 13 undef = .bool two) (t14:a.tmps.getD 14 undef = .slice (some ⟨bz,oz,none⟩) na ca) (t18:a.tmps.getD 18 undef = .int .i64 k)
 (CE:RcP bz oz k p w) (hkn:k<na) (_:na≤1000000) (hd:(h1 != h2)=false)
 (C1:∀ W,Below w.heap.size w W→Calls Tryz.prog 65 #[.slice P1 n1 c1,.agg #[.int .i64 p.pit,.int .i64 p.layer]] W fun e w'=>e = .returned (.bool h1)∧Below W.heap.size W w')
 (C2:∀ W,Below w.heap.size w W→Calls Tryz.prog 65 #[.slice P2 n2 c2,.agg #[.int .i64 p.pit,.int .i64 p.layer]] W fun e w'=>e = .returned (.bool h2)∧Below W.heap.size W w')
 (hQ:∀ W,Below w.heap.size w W→Q .normal { tmps:=(setsL (a.tmps) 109 [.slice P1 n1 c1,.slice (some ⟨bz,oz,none⟩) na ca,.int .i64 k,.pointer (some ⟨bz,oz+k * 2,none⟩),.agg #[.int .i64 p.pit,.int .i64 p.layer],.bool h1,.slice P2 n2 c2,.slice (some ⟨bz,oz,none⟩) na ca,.int .i64 k,.pointer (some ⟨bz,oz+k * 2,none⟩),.agg #[.int .i64 p.pit,.int .i64 p.layer],.bool h2,.bool false,.bool false,.bool one,.bool two,.bool (one != two),.bool (one != two)]).setIfInBounds 19 (.bool (one != two)),defers:=a.defers } W):
 cC.wp Tryz.prog Q a w:=by
 subst hc;unfold codeRrc25 Tryz.f70;dsimp only;refine wpIn_wide.1 (wpIn_region_flow (nn:=5) 215 (by kernel_rfl) (by kernel_rfl) (by kernel_rfl) hT (fun i=>(Trrc25f P1 n1 c1 P2 n2 c2 bz oz na ca k p h1 h2 one two).getD i undef) (fun W=>Below w.heap.size w W) ((Below.refl _ _).drew) (fun b hE hold=> ?_) hQ);clear hQ;have q10:=hold 10 _ (by kernel_rfl) t10;have q11:=hold 11 _ (by kernel_rfl) t11;have q12:=hold 12 _ (by kernel_rfl) t12;have q13:=hold 13 _ (by kernel_rfl) t13;have q14:=hold 14 _ (by kernel_rfl) t14;have q18:=hold 18 _ (by kernel_rfl) t18;simp only [factsL,Trrc25f,List.getD_cons_zero,List.getD_cons_succ,Nat.reduceAdd] at hE
 repeat' first|exact steps_nil|refine steps_skip rfl rfl ?_|refine steps_go rfl ?_ ?_
 all_goals (intro W hW;obtain ⟨p0,p1⟩:=CE W hW;simp only [Trrc25f,List.getD_cons_zero,List.getD_cons_succ,Nat.reduceAdd])
 all_goals first
  | (refine .inl ?_;go_simp;done)
  | (refine .inl ?_;go_simp;rfl)
  | (refine .inl ?_;go_simp;(simpa using hd);done)
  | (refine .inl ?_;go_simp;(cases one<;>cases two<;>rfl))
  | (refine .inr (.inr ⟨65,#[.slice P1 n1 c1,.agg #[.int .i64 p.pit,.int .i64 p.layer]],?_,(C1 W hW).mono ?_⟩)
     · go_simp<;>done
     · rintro e w' ⟨rfl,hb'⟩;exact ⟨rfl,(show Below _ _ _ from (show Below _ _ _ from hW).trans (hb'.mono (show Below _ _ _ from hW).size))⟩)
  | (refine .inr (.inr ⟨65,#[.slice P2 n2 c2,.agg #[.int .i64 p.pit,.int .i64 p.layer]],?_,(C2 W hW).mono ?_⟩)
     · go_simp<;>done
     · rintro e w' ⟨rfl,hb'⟩;exact ⟨rfl,(show Below _ _ _ from (show Below _ _ _ from hW).trans (hb'.mono (show Below _ _ _ from hW).size))⟩)
def codeRrc27:Option Code→Code
 | some (.seq _ (.seq _ (.seq _ (.seq _ (.seq _ (.seq _ (.seq _ (.seq _ (.seq _ (.seq _ (.seq _ (.seq _ (.seq _ (.seq (.seq _ (.block _ (.loop (.seq _ (.seq (.block _ (.seq _ (.seq (.seq _ (.cond _ (.seq c _) _)) _))) _))))) _))))))))))))))=>c
 | _=> .skip
def Trrc27 (A:Option Addr) (n c:Nat) (known:Int) (B:Option Addr) (m d bx bz oz na ca k:Nat) (p:Place) (g1:Int) (g2:Bool) (g3:Int):List Value:=
 [.slice A n c,.pointer (some ⟨bx,0+1,none⟩),.int .i64 known,.slice B m d,.agg #[.int .i64 0,.int .i64 0],.slice (some ⟨bz,oz,none⟩) na ca,.int .i64 k,.pointer (some ⟨bz,oz+k * 2,none⟩),.agg #[.int .i64 p.pit,.int .i64 p.layer],.tuple #[.int .i64 g1,.bool g2,.int .i64 g3],.tuple #[.int .i64 g1,.bool g2,.int .i64 g3],.int .i64 g1,.bool g2,.int .i64 g3,.int .i64 g1,.bool g2,.int .i64 g3]
theorem rrc27 (cC:Code) (hc:cC=codeRrc27 Tryz.f70.body) (A:Option Addr) (n c:Nat) (known:Int) (B:Option Addr) (m d bx bz oz na ca k:Nat) (p:Place) (g1:Int) (g2:Bool) (g3:Int) (a:Act) (w:World) (Q:Exit→Act→World→Prop)
 (hT:a.tmps.size=215) (t0:a.tmps.getD 0 undef = .slice A n c) (t2:a.tmps.getD 2 undef = .slice B m d) (t4:a.tmps.getD 4 undef = .pointer (some ⟨bx,0,none⟩)) (t14:a.tmps.getD 14 undef = .slice (some ⟨bz,oz,none⟩) na ca) (t18:a.tmps.getD 18 undef = .int .i64 k)
 (CE:RcPK bx known bz oz k p w) (hkn:k<na) (_:na≤1000000)
 (C1:∀ W,Below w.heap.size w W→Calls Tryz.prog 52 #[.slice A n c,.int .i64 known,.slice B m d,.slice none 0 0,.agg #[.int .i64 0,.int .i64 0],.agg #[.int .i64 p.pit,.int .i64 p.layer]] W fun e w'=>e = .returned (.tuple #[.int .i64 g1,.bool g2,.int .i64 g3])∧Below W.heap.size W w')
 (hQ:∀ W,Below w.heap.size w W→Q .normal { tmps:=setsL (setsL ((setsL (a.tmps) 133 [.slice A n c,.pointer (some ⟨bx,0+1,none⟩),.int .i64 known,.slice B m d,.agg #[.int .i64 0,.int .i64 0],.slice (some ⟨bz,oz,none⟩) na ca,.int .i64 k,.pointer (some ⟨bz,oz+k * 2,none⟩),.agg #[.int .i64 p.pit,.int .i64 p.layer],.tuple #[.int .i64 g1,.bool g2,.int .i64 g3]]).setIfInBounds 132 (.tuple #[.int .i64 g1,.bool g2,.int .i64 g3])) 143 [.int .i64 g1,.bool g2,.int .i64 g3]) 20 [.int .i64 g1,.bool g2,.int .i64 g3],defers:=a.defers } W):
 cC.wp Tryz.prog Q a w:=by
 subst hc;unfold codeRrc27 Tryz.f70;dsimp only;refine wpIn_wide.1 (wpIn_region_flow (nn:=5) 215 (by kernel_rfl) (by kernel_rfl) (by kernel_rfl) hT (fun i=>(Trrc27 A n c known B m d bx bz oz na ca k p g1 g2 g3).getD i undef) (fun W=>Below w.heap.size w W) ((Below.refl _ _).drew) (fun b hE hold=> ?_) hQ);clear hQ;have q0:=hold 0 _ (by kernel_rfl) t0;have q2:=hold 2 _ (by kernel_rfl) t2;have q4:=hold 4 _ (by kernel_rfl) t4;have q14:=hold 14 _ (by kernel_rfl) t14;have q18:=hold 18 _ (by kernel_rfl) t18;simp only [factsL,Trrc27,List.getD_cons_zero,List.getD_cons_succ,Nat.reduceAdd] at hE
 repeat' first|exact steps_nil|refine steps_skip rfl rfl ?_|refine steps_go rfl ?_ ?_
 all_goals (intro W hW;obtain ⟨x1,p0,p1⟩:=CE W hW;simp only [Trrc27,List.getD_cons_zero,List.getD_cons_succ,Nat.reduceAdd])
 all_goals first
  | (refine .inl ?_;go_simp;done)
  | (refine .inl ?_;go_simp;rfl)
  | (refine .inl ?_;go_simp;simp [*];done)
  | (refine .inr (.inr ⟨52,#[.slice A n c,.int .i64 known,.slice B m d,.slice none 0 0,.agg #[.int .i64 0,.int .i64 0],.agg #[.int .i64 p.pit,.int .i64 p.layer]],?_,(C1 W hW).mono ?_⟩)
     · go_simp<;>done
     · rintro e w' ⟨rfl,hb'⟩;exact ⟨rfl,(show Below _ _ _ from (show Below _ _ _ from hW).trans (hb'.mono (show Below _ _ _ from hW).size))⟩)
def codeRrc28:Option Code→Code
 | some (.seq _ (.seq _ (.seq _ (.seq _ (.seq _ (.seq _ (.seq _ (.seq _ (.seq _ (.seq _ (.seq _ (.seq _ (.seq _ (.seq (.seq _ (.block _ (.loop (.seq _ (.seq (.block _ (.seq _ (.seq (.seq _ (.cond _ (.seq _ (.seq c _)) _)) _))) _))))) _))))))))))))))=>c
 | _=> .skip
def Trrc28 (A:Option Addr) (n c:Nat) (known:Int) (B:Option Addr) (m d bx bz oz na ca k:Nat) (p:Place) (g1:Int) (g2:Bool) (g3:Int):List Value:=
 [.slice A n c,.pointer (some ⟨bx,0+1,none⟩),.int .i64 known,.slice B m d,.agg #[.int .i64 0,.int .i64 0],.slice (some ⟨bz,oz,none⟩) na ca,.int .i64 k,.pointer (some ⟨bz,oz+k * 2,none⟩),.agg #[.int .i64 p.pit,.int .i64 p.layer],.tuple #[.int .i64 g1,.bool g2,.int .i64 g3],.tuple #[.int .i64 g1,.bool g2,.int .i64 g3],.int .i64 g1,.bool g2,.int .i64 g3,.int .i64 g1,.bool g2,.int .i64 g3]
theorem rrc28 (cC:Code) (hc:cC=codeRrc28 Tryz.f70.body) (A:Option Addr) (n c:Nat) (known:Int) (B:Option Addr) (m d bx bz oz na ca k:Nat) (p:Place) (g1:Int) (g2:Bool) (g3:Int) (a:Act) (w:World) (Q:Exit→Act→World→Prop)
 (hT:a.tmps.size=215) (t2:a.tmps.getD 2 undef = .slice B m d) (t4:a.tmps.getD 4 undef = .pointer (some ⟨bx,0,none⟩)) (t8:a.tmps.getD 8 undef = .slice A n c) (t14:a.tmps.getD 14 undef = .slice (some ⟨bz,oz,none⟩) na ca) (t18:a.tmps.getD 18 undef = .int .i64 k)
 (CE:RcPK bx known bz oz k p w) (hkn:k<na) (_:na≤1000000)
 (C1:∀ W,Below w.heap.size w W→Calls Tryz.prog 52 #[.slice A n c,.int .i64 known,.slice B m d,.slice none 0 0,.agg #[.int .i64 0,.int .i64 0],.agg #[.int .i64 p.pit,.int .i64 p.layer]] W fun e w'=>e = .returned (.tuple #[.int .i64 g1,.bool g2,.int .i64 g3])∧Below W.heap.size W w')
 (hQ:∀ W,Below w.heap.size w W→Q .normal { tmps:=setsL (setsL ((setsL (a.tmps) 147 [.slice A n c,.pointer (some ⟨bx,0+1,none⟩),.int .i64 known,.slice B m d,.agg #[.int .i64 0,.int .i64 0],.slice (some ⟨bz,oz,none⟩) na ca,.int .i64 k,.pointer (some ⟨bz,oz+k * 2,none⟩),.agg #[.int .i64 p.pit,.int .i64 p.layer],.tuple #[.int .i64 g1,.bool g2,.int .i64 g3]]).setIfInBounds 146 (.tuple #[.int .i64 g1,.bool g2,.int .i64 g3])) 157 [.int .i64 g1,.bool g2,.int .i64 g3]) 23 [.int .i64 g1,.bool g2,.int .i64 g3],defers:=a.defers } W):
 cC.wp Tryz.prog Q a w:=by
 subst hc;unfold codeRrc28 Tryz.f70;dsimp only;refine wpIn_wide.1 (wpIn_region_flow (nn:=5) 215 (by kernel_rfl) (by kernel_rfl) (by kernel_rfl) hT (fun i=>(Trrc28 A n c known B m d bx bz oz na ca k p g1 g2 g3).getD i undef) (fun W=>Below w.heap.size w W) ((Below.refl _ _).drew) (fun b hE hold=> ?_) hQ);clear hQ;have q2:=hold 2 _ (by kernel_rfl) t2;have q4:=hold 4 _ (by kernel_rfl) t4;have q8:=hold 8 _ (by kernel_rfl) t8;have q14:=hold 14 _ (by kernel_rfl) t14;have q18:=hold 18 _ (by kernel_rfl) t18;simp only [factsL,Trrc28,List.getD_cons_zero,List.getD_cons_succ,Nat.reduceAdd] at hE
 repeat' first|exact steps_nil|refine steps_skip rfl rfl ?_|refine steps_go rfl ?_ ?_
 all_goals (intro W hW;obtain ⟨x1,p0,p1⟩:=CE W hW;simp only [Trrc28,List.getD_cons_zero,List.getD_cons_succ,Nat.reduceAdd])
 all_goals first
  | (refine .inl ?_;go_simp;done)
  | (refine .inl ?_;go_simp;rfl)
  | (refine .inl ?_;go_simp;simp [*];done)
  | (refine .inr (.inr ⟨52,#[.slice A n c,.int .i64 known,.slice B m d,.slice none 0 0,.agg #[.int .i64 0,.int .i64 0],.agg #[.int .i64 p.pit,.int .i64 p.layer]],?_,(C1 W hW).mono ?_⟩)
     · go_simp<;>done
     · rintro e w' ⟨rfl,hb'⟩;exact ⟨rfl,(show Below _ _ _ from (show Below _ _ _ from hW).trans (hb'.mono (show Below _ _ _ from hW).size))⟩)
def codeRrc29:Option Code→Code
 | some (.seq _ (.seq _ (.seq _ (.seq _ (.seq _ (.seq _ (.seq _ (.seq _ (.seq _ (.seq _ (.seq _ (.seq _ (.seq _ (.seq (.seq _ (.block _ (.loop (.seq _ (.seq (.block _ (.seq _ (.seq (.seq _ (.cond _ (.seq _ (.seq _ (.seq c _))) _)) _))) _))))) _))))))))))))))=>c
 | _=> .skip
def Trrc29 (A:Option Addr) (n c:Nat) (known:Int) (B:Option Addr) (m d bx bz oz na ca k:Nat) (p:Place) (g1:Int) (g2:Bool) (g3:Int):List Value:=
 [.slice A n c,.pointer (some ⟨bx,0+1,none⟩),.int .i64 known,.slice B m d,.slice (some ⟨bz,oz,none⟩) na ca,.int .i64 k,.pointer (some ⟨bz,oz+k * 2,none⟩),.agg #[.int .i64 p.pit,.int .i64 p.layer],.agg #[.int .i64 0,.int .i64 0],.tuple #[.int .i64 g1,.bool g2,.int .i64 g3],.tuple #[.int .i64 g1,.bool g2,.int .i64 g3],.int .i64 g1,.bool g2,.int .i64 g3,.int .i64 g1,.bool g2,.int .i64 g3]
theorem rrc29 (cC:Code) (hc:cC=codeRrc29 Tryz.f70.body) (A:Option Addr) (n c:Nat) (known:Int) (B:Option Addr) (m d bx bz oz na ca k:Nat) (p:Place) (g1:Int) (g2:Bool) (g3:Int) (a:Act) (w:World) (Q:Exit→Act→World→Prop)
 (hT:a.tmps.size=215) (t0:a.tmps.getD 0 undef = .slice A n c) (t2:a.tmps.getD 2 undef = .slice B m d) (t4:a.tmps.getD 4 undef = .pointer (some ⟨bx,0,none⟩)) (t14:a.tmps.getD 14 undef = .slice (some ⟨bz,oz,none⟩) na ca) (t18:a.tmps.getD 18 undef = .int .i64 k)
 (CE:RcPK bx known bz oz k p w) (hkn:k<na) (_:na≤1000000)
 (C1:∀ W,Below w.heap.size w W→Calls Tryz.prog 52 #[.slice A n c,.int .i64 known,.slice B m d,.slice none 0 0,.agg #[.int .i64 p.pit,.int .i64 p.layer],.agg #[.int .i64 0,.int .i64 0]] W fun e w'=>e = .returned (.tuple #[.int .i64 g1,.bool g2,.int .i64 g3])∧Below W.heap.size W w')
 (hQ:∀ W,Below w.heap.size w W→Q .normal { tmps:=setsL (setsL ((setsL (a.tmps) 161 [.slice A n c,.pointer (some ⟨bx,0+1,none⟩),.int .i64 known,.slice B m d,.slice (some ⟨bz,oz,none⟩) na ca,.int .i64 k,.pointer (some ⟨bz,oz+k * 2,none⟩),.agg #[.int .i64 p.pit,.int .i64 p.layer],.agg #[.int .i64 0,.int .i64 0],.tuple #[.int .i64 g1,.bool g2,.int .i64 g3]]).setIfInBounds 160 (.tuple #[.int .i64 g1,.bool g2,.int .i64 g3])) 171 [.int .i64 g1,.bool g2,.int .i64 g3]) 26 [.int .i64 g1,.bool g2,.int .i64 g3],defers:=a.defers } W):
 cC.wp Tryz.prog Q a w:=by
 subst hc;unfold codeRrc29 Tryz.f70;dsimp only;refine wpIn_wide.1 (wpIn_region_flow (nn:=5) 215 (by kernel_rfl) (by kernel_rfl) (by kernel_rfl) hT (fun i=>(Trrc29 A n c known B m d bx bz oz na ca k p g1 g2 g3).getD i undef) (fun W=>Below w.heap.size w W) ((Below.refl _ _).drew) (fun b hE hold=> ?_) hQ);clear hQ;have q0:=hold 0 _ (by kernel_rfl) t0;have q2:=hold 2 _ (by kernel_rfl) t2;have q4:=hold 4 _ (by kernel_rfl) t4;have q14:=hold 14 _ (by kernel_rfl) t14;have q18:=hold 18 _ (by kernel_rfl) t18;simp only [factsL,Trrc29,List.getD_cons_zero,List.getD_cons_succ,Nat.reduceAdd] at hE
 repeat' first|exact steps_nil|refine steps_skip rfl rfl ?_|refine steps_go rfl ?_ ?_
 all_goals (intro W hW;obtain ⟨x1,p0,p1⟩:=CE W hW;simp only [Trrc29,List.getD_cons_zero,List.getD_cons_succ,Nat.reduceAdd])
 all_goals first
  | (refine .inl ?_;go_simp;done)
  | (refine .inl ?_;go_simp;rfl)
  | (refine .inl ?_;go_simp;simp [*];done)
  | (refine .inr (.inr ⟨52,#[.slice A n c,.int .i64 known,.slice B m d,.slice none 0 0,.agg #[.int .i64 p.pit,.int .i64 p.layer],.agg #[.int .i64 0,.int .i64 0]],?_,(C1 W hW).mono ?_⟩)
     · go_simp<;>done
     · rintro e w' ⟨rfl,hb'⟩;exact ⟨rfl,(show Below _ _ _ from (show Below _ _ _ from hW).trans (hb'.mono (show Below _ _ _ from hW).size))⟩)
def codeRrc30:Option Code→Code
 | some (.seq _ (.seq _ (.seq _ (.seq _ (.seq _ (.seq _ (.seq _ (.seq _ (.seq _ (.seq _ (.seq _ (.seq _ (.seq _ (.seq (.seq _ (.block _ (.loop (.seq _ (.seq (.block _ (.seq _ (.seq (.seq _ (.cond _ (.seq _ (.seq _ (.seq _ (.seq c _)))) _)) _))) _))))) _))))))))))))))=>c
 | _=> .skip
def Trrc30 (A:Option Addr) (n c:Nat) (known:Int) (B:Option Addr) (m d bx bz oz na ca k:Nat) (p:Place) (g1:Int) (g2:Bool) (g3:Int):List Value:=
 [.slice A n c,.pointer (some ⟨bx,0+1,none⟩),.int .i64 known,.slice B m d,.slice (some ⟨bz,oz,none⟩) na ca,.int .i64 k,.pointer (some ⟨bz,oz+k * 2,none⟩),.agg #[.int .i64 p.pit,.int .i64 p.layer],.agg #[.int .i64 0,.int .i64 0],.tuple #[.int .i64 g1,.bool g2,.int .i64 g3],.tuple #[.int .i64 g1,.bool g2,.int .i64 g3],.int .i64 g1,.bool g2,.int .i64 g3,.int .i64 g1,.bool g2,.int .i64 g3]
theorem rrc30 (cC:Code) (hc:cC=codeRrc30 Tryz.f70.body) (A:Option Addr) (n c:Nat) (known:Int) (B:Option Addr) (m d bx bz oz na ca k:Nat) (p:Place) (g1:Int) (g2:Bool) (g3:Int) (a:Act) (w:World) (Q:Exit→Act→World→Prop)
 (hT:a.tmps.size=215) (t2:a.tmps.getD 2 undef = .slice B m d) (t4:a.tmps.getD 4 undef = .pointer (some ⟨bx,0,none⟩)) (t8:a.tmps.getD 8 undef = .slice A n c) (t14:a.tmps.getD 14 undef = .slice (some ⟨bz,oz,none⟩) na ca) (t18:a.tmps.getD 18 undef = .int .i64 k)
 (CE:RcPK bx known bz oz k p w) (hkn:k<na) (_:na≤1000000)
 (C1:∀ W,Below w.heap.size w W→Calls Tryz.prog 52 #[.slice A n c,.int .i64 known,.slice B m d,.slice none 0 0,.agg #[.int .i64 p.pit,.int .i64 p.layer],.agg #[.int .i64 0,.int .i64 0]] W fun e w'=>e = .returned (.tuple #[.int .i64 g1,.bool g2,.int .i64 g3])∧Below W.heap.size W w')
 (hQ:∀ W,Below w.heap.size w W→Q .normal { tmps:=setsL (setsL ((setsL (a.tmps) 175 [.slice A n c,.pointer (some ⟨bx,0+1,none⟩),.int .i64 known,.slice B m d,.slice (some ⟨bz,oz,none⟩) na ca,.int .i64 k,.pointer (some ⟨bz,oz+k * 2,none⟩),.agg #[.int .i64 p.pit,.int .i64 p.layer],.agg #[.int .i64 0,.int .i64 0],.tuple #[.int .i64 g1,.bool g2,.int .i64 g3]]).setIfInBounds 174 (.tuple #[.int .i64 g1,.bool g2,.int .i64 g3])) 185 [.int .i64 g1,.bool g2,.int .i64 g3]) 29 [.int .i64 g1,.bool g2,.int .i64 g3],defers:=a.defers } W):
 cC.wp Tryz.prog Q a w:=by
 subst hc;unfold codeRrc30 Tryz.f70;dsimp only;refine wpIn_wide.1 (wpIn_region_flow (nn:=5) 215 (by kernel_rfl) (by kernel_rfl) (by kernel_rfl) hT (fun i=>(Trrc30 A n c known B m d bx bz oz na ca k p g1 g2 g3).getD i undef) (fun W=>Below w.heap.size w W) ((Below.refl _ _).drew) (fun b hE hold=> ?_) hQ);clear hQ;have q2:=hold 2 _ (by kernel_rfl) t2;have q4:=hold 4 _ (by kernel_rfl) t4;have q8:=hold 8 _ (by kernel_rfl) t8;have q14:=hold 14 _ (by kernel_rfl) t14;have q18:=hold 18 _ (by kernel_rfl) t18;simp only [factsL,Trrc30,List.getD_cons_zero,List.getD_cons_succ,Nat.reduceAdd] at hE
 repeat' first|exact steps_nil|refine steps_skip rfl rfl ?_|refine steps_go rfl ?_ ?_
 all_goals (intro W hW;obtain ⟨x1,p0,p1⟩:=CE W hW;simp only [Trrc30,List.getD_cons_zero,List.getD_cons_succ,Nat.reduceAdd])
 all_goals first
  | (refine .inl ?_;go_simp;done)
  | (refine .inl ?_;go_simp;rfl)
  | (refine .inl ?_;go_simp;simp [*];done)
  | (refine .inr (.inr ⟨52,#[.slice A n c,.int .i64 known,.slice B m d,.slice none 0 0,.agg #[.int .i64 p.pit,.int .i64 p.layer],.agg #[.int .i64 0,.int .i64 0]],?_,(C1 W hW).mono ?_⟩)
     · go_simp<;>done
     · rintro e w' ⟨rfl,hb'⟩;exact ⟨rfl,(show Below _ _ _ from (show Below _ _ _ from hW).trans (hb'.mono (show Below _ _ _ from hW).size))⟩)
theorem rReached_any (A:Option Addr) (n c:Nat) (l:List Trace) (x:Trace) (bA:Option Addr) (bn bc:Nat) (bs:List Bond) (w:World) (hl:Rd encTrace 10 w A n c l) (hb:Rd encBond 5 w bA bn bc bs):
 Calls Tryz.prog 70 #[.slice A n c,.agg #[.int .i64 x.id,.int .i64 x.known,.int .u8 x.kind,.int .i64 x.pit,.int .i64 x.layer,.int .i64 x.lower,.int .i64 x.low,.int .i64 x.high,.int .i64 x.cost,.int .i64 x.void],.slice bA bn bc] w fun e w'=> ∃ A' c',e = .returned (.tuple #[.slice A' (reachedV l x bs).length c',.int .i64 (reachedE l x bs)])∧Below w.heap.size w w'∧Own encPlace 2 37 w.heap.size w' A' (reachedV l x bs).length c' (reachedV l x bs):=by
 obtain ⟨w1,hw1⟩:∃ w1,w.alloc (.cells #[.int .i64 x.id,.int .i64 x.known,.int .u8 x.kind,.int .i64 x.pit,.int .i64 x.layer,.int .i64 x.lower,.int .i64 x.low,.int .i64 x.high,.int .i64 x.cost,.int .i64 x.void] 25)=w1:=⟨_,rfl⟩
 have hb1:Below w.heap.size w w1:=(by rw [←hw1];exact (Below.refl _ w).alloc (Nat.le_refl _) _)
 have hz1:w1.heap.size=w.heap.size+1:=(by rw [←hw1];simp)
 have hh1:w1.heap[w.heap.size]? = some (.cells #[.int .i64 x.id,.int .i64 x.known,.int .u8 x.kind,.int .i64 x.pit,.int .i64 x.layer,.int .i64 x.lower,.int .i64 x.low,.int .i64 x.high,.int .i64 x.cost,.int .i64 x.void] 25 (0,0)):=(by rw [←hw1];exact heap_alloc_new w _)
 have CX:Hid (∀ W,Below w1.heap.size w1 W→W.cell? ⟨w.heap.size,1,none⟩=some (.int .i64 x.known)):=(show ∀ W,_→_ from fun W h=>by
  have:=(h.block w.heap.size (by omega)).trans hh1
  simp [World.cell?,this])
 have HAP:=Lib.hid (rAppend_any A n c l x w1 (hl.below hb1 (Nat.le_refl _)))
 have HLD:Hid (∀ W,Below w1.heap.size w1 W→Rd encTrace 10 W A n c l):=(show ∀ W,_→_ from fun W h=>hl.below (hb1.trans (h.mono hb1.size)) (Nat.le_refl _))
 have HBD:Hid (∀ W,Below w1.heap.size w1 W→Rd encBond 5 W bA bn bc bs):=(show ∀ W,_→_ from fun W h=>hb.below (hb1.trans (h.mono hb1.size)) (Nat.le_refl _))
 have HK1:=Lib.hid (fun W (h:Below w1.heap.size w1 W)=>rAsked_any A n c l x.known bA bn bc bs W (HLD.out W h) (HBD.out W h));have HB1:=Lib.hid hb1;have HW1:=Lib.hid hw1;have hal:=append_len (l:=l) (x:=x);have hnb:=hl.big;have hln:=hl.len
 have x0:w1.cell? ⟨w.heap.size,0,none⟩=some (.int .i64 x.id):=(by simp [World.cell?,hh1])
 have x1:w1.cell? ⟨w.heap.size,1,none⟩=some (.int .i64 x.known):=(by simp [World.cell?,hh1])
 have x2:w1.cell? ⟨w.heap.size,2,none⟩=some (.int .u8 x.kind):=(by simp [World.cell?,hh1])
 have x3:w1.cell? ⟨w.heap.size,3,none⟩=some (.int .i64 x.pit):=(by simp [World.cell?,hh1])
 have x4:w1.cell? ⟨w.heap.size,4,none⟩=some (.int .i64 x.layer):=(by simp [World.cell?,hh1])
 have x5:w1.cell? ⟨w.heap.size,5,none⟩=some (.int .i64 x.lower):=(by simp [World.cell?,hh1])
 have x6:w1.cell? ⟨w.heap.size,6,none⟩=some (.int .i64 x.low):=(by simp [World.cell?,hh1])
 have x7:w1.cell? ⟨w.heap.size,7,none⟩=some (.int .i64 x.high):=(by simp [World.cell?,hh1])
 have x8:w1.cell? ⟨w.heap.size,8,none⟩=some (.int .i64 x.cost):=(by simp [World.cell?,hh1])
 have x9:w1.cell? ⟨w.heap.size,9,none⟩=some (.int .i64 x.void):=(by simp [World.cell?,hh1])
 clear hl hb hh1 hw1 hb1;by_cases ha:(appendV l x).2=0
 case neg=>
  have hE:reachedE l x bs=(appendV l x).2:=by unfold reachedE;rw [if_pos ha]
  have hV:reachedV l x bs = []:=by unfold reachedV;rw [hE,if_pos ha]
  rw [hE,hV];have ha':((appendV l x).2 != 0)=true:=by simpa using ha
  have ha2:((appendV l x).2==0)=false:=by simpa using ha
  clear hE hV;generalize appendV l x=av at *;obtain ⟨l',e1⟩:=av;simp only at ha ha' ha2 HAP hal ⊢;clear ha;go_enter Tryz.func70,Tryz.ntmps70
  go_wp2_with (first
   | rw [HW1.out]
   | (go_at_call 44;(with_reducible refine HAP.out.mono ?_);rintro e w2 ⟨A2,c2,rfl,hb2,hO2⟩;have HB2:=Lib.hid hb2;clear hb2 hO2))
  go_ret2;exact ⟨none,0,rfl,HB1.out.trans (HB2.out.mono (by omega)),Own.none_ _ _ _ _ _⟩
 case pos=>
 by_cases hk1:askErr l x.known bs=0
 case neg=>
  have hE:reachedE l x bs=askErr l x.known bs:=by unfold reachedE;rw [if_neg (by simpa using ha),if_pos hk1]
  have hV:reachedV l x bs = []:=by unfold reachedV;rw [hE,if_pos hk1]
  rw [hE,hV];have hk1':(askErr l x.known bs != 0)=true:=by simpa using hk1
  have hk2':(askErr l x.known bs==0)=false:=by simpa using hk1
  clear hE hV hk1;generalize appendV l x=av at *;obtain ⟨l',e1⟩:=av;simp only at ha HAP hal ⊢;subst ha;go_enter Tryz.func70,Tryz.ntmps70
  go_wp2_with (first
   | rw [HW1.out]
   | (go_at_call 44;(with_reducible refine HAP.out.mono ?_);rintro e w2 ⟨A2,c2,rfl,hb2,hO2⟩;have HB2:=Lib.hid hb2;have y1:=CX.out w2 hb2;clear hb2 hO2)
   | (go_at_call 80;(with_reducible refine (HK1.out _ HB2.out).mono ?_);rintro e w3 ⟨rfl,hb3⟩;have HB3:=Lib.hid (HB2.out.trans (hb3.mono HB2.out.size));clear hb3))
  go_ret2;exact ⟨none,0,rfl,HB1.out.trans (HB3.out.mono (by omega)),Own.none_ _ _ _ _ _⟩
 case pos=>
 by_cases hk2:askErr (appendV l x).1 x.known bs=0
 case neg=>
  have hE:reachedE l x bs=askErr (appendV l x).1 x.known bs:=by unfold reachedE;rw [if_neg (by simpa using ha),if_neg (by simpa using hk1)]
  have hV:reachedV l x bs = []:=by unfold reachedV;rw [hE,if_pos hk2]
  rw [hE,hV];have hk2':(askErr (appendV l x).1 x.known bs != 0)=true:=by simpa using hk2
  clear hE hV;generalize appendV l x=av at *;obtain ⟨l',e1⟩:=av;simp only at ha HAP hal hk2 hk2' ⊢;subst ha;rw [hk1] at HK1;clear hk2;go_enter Tryz.func70,Tryz.ntmps70
  go_wp2_with (first
   | rw [HW1.out]
   | (go_at_call 44;(with_reducible refine HAP.out.mono ?_);rintro e w2 ⟨A2,c2,rfl,hb2,hO2⟩
      have HB2:=Lib.hid hb2;have y1:=CX.out w2 hb2;have HK2:=Lib.hid (fun W (h:Below w2.heap.size w2 W)=>rAsked_any A2 l'.length c2 l' x.known bA bn bc bs W ((hO2.below h (Nat.le_refl _)).rd (fun _=>rfl) (by omega)) (HBD.out W (hb2.trans (h.mono hb2.size))))
      clear hb2 hO2)
   | (go_at_call 80;(with_reducible refine (HK1.out _ HB2.out).mono ?_);rintro e w3 ⟨rfl,hb3⟩;have HB23:=Lib.hid hb3;have HB3:=Lib.hid (HB2.out.trans (hb3.mono HB2.out.size));have y2:=CX.out w3 HB3.out;clear hb3)
   | (go_at_call 80;(with_reducible refine (HK2.out _ HB23.out).mono ?_);rintro e w4 ⟨rfl,hb4⟩;have HB4:=Lib.hid (HB3.out.trans (hb4.mono HB3.out.size));clear hb4))
  go_ret2;exact ⟨none,0,rfl,HB1.out.trans (HB4.out.mono (by omega)),Own.none_ _ _ _ _ _⟩
 case pos=>
  have hE:reachedE l x bs=0:=by unfold reachedE;rw [if_neg (by simpa using ha),if_neg (by simpa using hk1)];exact hk2
  have hV:reachedV l x bs=reachedL (counting l x.known) (counting (appendV l x).1 x.known) bs:=by unfold reachedV;rw [hE];rfl
  rw [hE,hV,←reached_ref hk1 hk2];have F1:=Lib.hid (ordFacts hk1);have F2:=Lib.hid (ordFacts hk2)
  have hln1:n≤1000000:=(by
   have hck:(check l).2=0:=by rcases askErr_cases l x.known bs with ⟨h,h'⟩|⟨h,_⟩|⟨h,_⟩|⟨h,_⟩|⟨h,_⟩<;>first|exact h|exact absurd (h'.symm.trans hk1) h
   have:=check_small hck
   omega)
  have hbn6:=(okO_of hk1).bn;have hbln:=(HBD.out w1 (Below.refl _ _)).len;clear hE hV;generalize appendV l x=av at *;obtain ⟨l',e1⟩:=av;simp only at ha HAP hal hk2 F2 ⊢;subst ha;rw [hk1] at HK1
  have RDF:Hid (∀ p,rdiff l l' x.known bs p=((hasPl (placesOf (counting l x.known) bs) p != hasPl (placesOf (counting l' x.known) bs) p||enough (counting l x.known) bs [] != enough (counting l' x.known) bs []) ||
   (enough (counting l x.known) bs []&&(((betweenV l x.known bs [] z00 p).1 != (betweenV l' x.known bs [] z00 p).1||(betweenV l x.known bs [] z00 p).2.1 != (betweenV l' x.known bs [] z00 p).2.1)||(betweenV l x.known bs [] p z00).1 != (betweenV l' x.known bs [] p z00).1||(betweenV l x.known bs [] p z00).2.1 != (betweenV l' x.known bs [] p z00).2.1)))):=(show ∀ p,_ from fun p=>rfl)
  generalize rdiff l l' x.known bs=rd at *
  have BW1:Hid (∀ p W,Below w1.heap.size w1 W→Calls Tryz.prog 52 #[.slice A n c,.int .i64 x.known,.slice bA bn bc,.slice none 0 0,.agg #[.int .i64 0,.int .i64 0],.agg #[.int .i64 p.pit,.int .i64 p.layer]] W fun e w'=>e = .returned (.tuple #[.int .i64 (betweenV l x.known bs [] z00 p).1,.bool (betweenV l x.known bs [] z00 p).2.1,.int .i64 (betweenV l x.known bs [] z00 p).2.2])∧Below W.heap.size W w'):=
   (show ∀ p W,_→_ from fun p W h=>rBetween_any A n c l x.known bA bn bc bs none 0 0 [] z00 p W (HLD.out W h) (HBD.out W h) (Rd.none_ none 0 (by omega)))
  have BW2:Hid (∀ p W,Below w1.heap.size w1 W→Calls Tryz.prog 52 #[.slice A n c,.int .i64 x.known,.slice bA bn bc,.slice none 0 0,.agg #[.int .i64 p.pit,.int .i64 p.layer],.agg #[.int .i64 0,.int .i64 0]] W fun e w'=>e = .returned (.tuple #[.int .i64 (betweenV l x.known bs [] p z00).1,.bool (betweenV l x.known bs [] p z00).2.1,.int .i64 (betweenV l x.known bs [] p z00).2.2])∧Below W.heap.size W w'):=
   (show ∀ p W,_→_ from fun p W h=>rBetween_any A n c l x.known bA bn bc bs none 0 0 [] p z00 W (HLD.out W h) (HBD.out W h) (Rd.none_ none 0 (by omega)))
  have BV:Hid (∀ A2 c2 p W,Rd encTrace 10 W A2 l'.length c2 l'→Below w1.heap.size w1 W→Calls Tryz.prog 52 #[.slice A2 l'.length c2,.int .i64 x.known,.slice bA bn bc,.slice none 0 0,.agg #[.int .i64 0,.int .i64 0],.agg #[.int .i64 p.pit,.int .i64 p.layer]] W fun e w'=>e = .returned (.tuple #[.int .i64 (betweenV l' x.known bs [] z00 p).1,.bool (betweenV l' x.known bs [] z00 p).2.1,.int .i64 (betweenV l' x.known bs [] z00 p).2.2])∧Below W.heap.size W w'):=
   (show ∀ A2 c2 p W,_→_→_ from fun A2 c2 p W hr h=>rBetween_any A2 l'.length c2 l' x.known bA bn bc bs none 0 0 [] z00 p W hr (HBD.out W h) (Rd.none_ none 0 (by omega)))
  have BV2:Hid (∀ A2 c2 p W,Rd encTrace 10 W A2 l'.length c2 l'→Below w1.heap.size w1 W→Calls Tryz.prog 52 #[.slice A2 l'.length c2,.int .i64 x.known,.slice bA bn bc,.slice none 0 0,.agg #[.int .i64 p.pit,.int .i64 p.layer],.agg #[.int .i64 0,.int .i64 0]] W fun e w'=>e = .returned (.tuple #[.int .i64 (betweenV l' x.known bs [] p z00).1,.bool (betweenV l' x.known bs [] p z00).2.1,.int .i64 (betweenV l' x.known bs [] p z00).2.2])∧Below W.heap.size W w'):=
   (show ∀ A2 c2 p W,_→_→_ from fun A2 c2 p W hr h=>rBetween_any A2 l'.length c2 l' x.known bA bn bc bs none 0 0 [] p z00 W hr (HBD.out W h) (Rd.none_ none 0 (by omega)))
  have KC1:Hid (∀ W,Below w1.heap.size w1 W→Calls Tryz.prog 83 #[.slice A n c,.int .i64 x.known] W fun e w'=> ∃ A' m c',e = .returned (.slice A' m c')∧Own encTrace 10 25 W.heap.size w' A' m c' (counting l x.known)∧Below W.heap.size W w'):=
   (show ∀ W,_→_ from fun W h=>rcounting_any A n c l x.known W (HLD.out W h) hln1)
  have hc1:=F1.out.o.tn;have hc2:=F2.out.o.tn;have hp1:=F1.out.o.pn;have hp2:=F2.out.o.pn
  have KP1:Hid (∀ W A4 m4 c4,Below w1.heap.size w1 W→Rd encTrace 10 W A4 m4 c4 (counting l x.known)→Calls Tryz.prog 82 #[.slice A4 m4 c4,.slice bA bn bc] W fun e w'=> ∃ A' c',e = .returned (.slice A' (placesOf (counting l x.known) bs).length c')∧Rd encPlace 2 w' A' (placesOf (counting l x.known) bs).length c' (placesOf (counting l x.known) bs)∧Below W.heap.size W w'):=
   (show ∀ W A4 m4 c4,_→_→_ from fun W A4 m4 c4 h hr=>rplaces_any A4 m4 c4 _ bA bn bc bs W hr (HBD.out W h) (by have:=hr.len;omega) (by omega))
  have KP2:Hid (∀ W A4 m4 c4,Below w1.heap.size w1 W→Rd encTrace 10 W A4 m4 c4 (counting l' x.known)→Calls Tryz.prog 82 #[.slice A4 m4 c4,.slice bA bn bc] W fun e w'=> ∃ A' c',e = .returned (.slice A' (placesOf (counting l' x.known) bs).length c')∧Rd encPlace 2 w' A' (placesOf (counting l' x.known) bs).length c' (placesOf (counting l' x.known) bs)∧Below W.heap.size W w'):=
   (show ∀ W A4 m4 c4,_→_→_ from fun W A4 m4 c4 h hr=>rplaces_any A4 m4 c4 _ bA bn bc bs W hr (HBD.out W h) (by have:=hr.len;omega) (by omega))
  have KE1:Hid (∀ W A4 m4 c4,Below w1.heap.size w1 W→Rd encTrace 10 W A4 m4 c4 (counting l x.known)→Calls Tryz.prog 93 #[.slice A4 m4 c4,.slice bA bn bc,.slice none 0 0] W fun e w'=>e = .returned (.bool (enough (counting l x.known) bs []))∧Below W.heap.size W w'):=
   (show ∀ W A4 m4 c4,_→_→_ from fun W A4 m4 c4 h hr=>renough_any A4 m4 c4 _ bA bn bc bs none 0 0 [] W hr (HBD.out W h) (Rd.none_ none 0 (by omega)) F1.out.o F1.out.t)
  have KE2:Hid (∀ W A4 m4 c4,Below w1.heap.size w1 W→Rd encTrace 10 W A4 m4 c4 (counting l' x.known)→Calls Tryz.prog 93 #[.slice A4 m4 c4,.slice bA bn bc,.slice none 0 0] W fun e w'=>e = .returned (.bool (enough (counting l' x.known) bs []))∧Below W.heap.size W w'):=
   (show ∀ W A4 m4 c4,_→_→_ from fun W A4 m4 c4 h hr=>renough_any A4 m4 c4 _ bA bn bc bs none 0 0 [] W hr (HBD.out W h) (Rd.none_ none 0 (by omega)) F2.out.o F2.out.t)
  clear F1 F2 hbn6 hbln;generalize betweenV l x.known bs []=bw1 at *;generalize betweenV l' x.known bs []=bw2 at *;generalize placesOf (counting l x.known) bs=ps1 at *;generalize placesOf (counting l' x.known) bs=ps2 at *;generalize enough (counting l x.known) bs []=one at *;generalize enough (counting l' x.known) bs []=two at *
  obtain ⟨ts1,hts1⟩:∃ ts1,counting l x.known=ts1:=⟨_,rfl⟩
  rw [hts1] at KC1 KP1 KE1 hc1;clear hts1 hk1;go_enter Tryz.func70,Tryz.ntmps70
  go_wp2_with (first
   | rw [HW1.out]
   | (go_at_call 44;(with_reducible refine HAP.out.mono ?_);rintro e w2 ⟨A2,c2,rfl,hb2,hO2⟩
      have HB2:=Lib.hid hb2;have y1:=CX.out w2 hb2
      have HL2:Hid (∀ W,Below w2.heap.size w2 W→Rd encTrace 10 W A2 l'.length c2 l'):=(show ∀ W,_→_ from fun W h=>(hO2.below h (Nat.le_refl _)).rd (fun _=>rfl) (by omega))
      have HK2:=Lib.hid (fun W (h:Below w2.heap.size w2 W)=>rAsked_any A2 l'.length c2 l' x.known bA bn bc bs W (HL2.out W h) (HBD.out W (hb2.trans (h.mono hb2.size))));have KC2:=Lib.hid (fun W (h:Below w2.heap.size w2 W)=>rcounting_any A2 l'.length c2 l' x.known W (HL2.out W h) (by omega));rw [hk2] at HK2
      obtain ⟨ts2,hts2⟩:∃ ts2,counting l' x.known=ts2:=⟨_,rfl⟩
      rw [hts2] at KC2 KP2 KE2 hc2
      clear hb2 hO2 hts2 hk2)
   | (go_at_call 80;(with_reducible refine (HK1.out _ HB2.out).mono ?_);rintro e w3 ⟨rfl,hb3⟩;have HB23:=Lib.hid hb3;have HB3:=Lib.hid (HB2.out.trans (hb3.mono HB2.out.size));have y2:=CX.out w3 HB3.out;clear hb3)
   | (go_at_call 80;(with_reducible refine (HK2.out _ HB23.out).mono ?_);rintro e w4 ⟨rfl,hb4⟩;have HB24:=Lib.hid (HB23.out.trans (hb4.mono HB23.out.size));have HB4:=Lib.hid (HB3.out.trans (hb4.mono HB3.out.size));have y3:=CX.out w4 HB4.out;clear hb4)
   | (go_at_call 83;(with_reducible refine (KC1.out _ HB4.out).mono ?_);rintro e w5 ⟨A5,m5,c5,rfl,hO5,hb5⟩
      have HB25:=Lib.hid (HB24.out.trans (hb5.mono HB24.out.size));have HB5:=Lib.hid (HB4.out.trans (hb5.mono HB4.out.size));have hm5:=hO5.len;have HR5:=Lib.hid (hO5.rd (fun _=>rfl) (by omega))
      clear hb5 hO5 hm5)
   | (go_at_call 82;(with_reducible refine (KP1.out _ _ _ _ HB5.out HR5.out).mono ?_);rintro e w6 ⟨A6,c6,rfl,hr6,hb6⟩
      have HB26:=Lib.hid (HB25.out.trans (hb6.mono HB25.out.size));have HB6:=Lib.hid (HB5.out.trans (hb6.mono HB5.out.size));have HR6:=Lib.hid hr6;have y4:=CX.out w6 HB6.out
      clear hb6 hr6)
   | (go_at_call 83;(with_reducible refine (KC2.out _ HB26.out).mono ?_);rintro e w7 ⟨A7,m7,c7,rfl,hO7,hb7⟩
      have HB27:=Lib.hid (HB26.out.trans (hb7.mono HB26.out.size));have HB7:=Lib.hid (HB6.out.trans (hb7.mono HB6.out.size));have HB67:=Lib.hid hb7;have hm7:=hO7.len;have HR7:=Lib.hid (hO7.rd (fun _=>rfl) (by omega))
      clear hb7 hO7 hm7)
   | (go_at_call 82;(with_reducible refine (KP2.out _ _ _ _ HB7.out HR7.out).mono ?_);rintro e w8 ⟨A8,c8,rfl,hr8,hb8⟩
      have HB28:=Lib.hid (HB27.out.trans (hb8.mono HB27.out.size));have HB8:=Lib.hid (HB7.out.trans (hb8.mono HB7.out.size));have HB68:=Lib.hid (HB67.out.trans (hb8.mono HB67.out.size));have HR8:=Lib.hid hr8;have y5:=CX.out w8 HB8.out
      clear hb8 hr8)
   | (go_at_call 83;(with_reducible refine (KC1.out _ HB8.out).mono ?_);rintro e w9 ⟨A9,m9,c9,rfl,hO9,hb9⟩
      have HB89:=Lib.hid hb9;have HB9:=Lib.hid (HB8.out.trans (hb9.mono HB8.out.size));have hm9:=hO9.len;have HR9:=Lib.hid (hO9.rd (fun _=>rfl) (by omega))
      clear hb9 hO9 hm9)
   | (go_at_call 93;(with_reducible refine (KE1.out _ _ _ _ HB9.out HR9.out).mono ?_);rintro e w10 ⟨rfl,hb10⟩
      have HB810:=Lib.hid (HB89.out.trans (hb10.mono HB89.out.size));have HB10:=Lib.hid (HB9.out.trans (hb10.mono HB9.out.size));have y6:=CX.out w10 HB10.out;have HB210:=Lib.hid (HB28.out.trans (HB810.out.mono HB28.out.size))
      clear hb10)
   | (go_at_call 83;(with_reducible refine (KC2.out _ HB210.out).mono ?_);rintro e w11 ⟨A11,m11,c11,rfl,hO11,hb11⟩
      have HB811:=Lib.hid (HB810.out.trans (hb11.mono HB810.out.size));have HB11:=Lib.hid (HB10.out.trans (hb11.mono HB10.out.size));have hm11:=hO11.len;have HR11:=Lib.hid (hO11.rd (fun _=>rfl) (by omega))
      clear hb11 hO11 hm11)
   | (go_at_call 93;(with_reducible refine (KE2.out _ _ _ _ HB11.out HR11.out).mono ?_);rintro e w12 ⟨rfl,hb12⟩
      have HB812:=Lib.hid (HB811.out.trans (hb12.mono HB811.out.size));have HB12:=Lib.hid (HB11.out.trans (hb12.mono HB11.out.size))
      clear hb12))
  have K12:Hid (∀ W,Below w12.heap.size w12 W→Below w1.heap.size w1 W):=(show ∀ W,_→_ from fun W h=>HB12.out.trans (h.mono HB12.out.size))
  have KL2:Hid (∀ W,Below w12.heap.size w12 W→Rd encTrace 10 W A2 l'.length c2 l'):=(show ∀ W,_→_ from fun W h=>HL2.out W ((HB28.out.trans (HB812.out.mono HB28.out.size)).trans (h.mono (Nat.le_trans HB28.out.size HB812.out.size))))
  have KR2:Hid (∀ W,Below w12.heap.size w12 W→Rd encPlace 2 W A8 ps2.length c8 ps2):=(show ∀ W,_→_ from fun W h=>HR8.out.below (HB812.out.trans (h.mono HB812.out.size)) (Nat.le_refl _))
  have KR1:Hid (∀ W,Below w12.heap.size w12 W→Rd encPlace 2 W A6 ps1.length c6 ps1):=(show ∀ W,_→_ from fun W h=>HR6.out.below ((HB68.out.trans (HB812.out.mono HB68.out.size)).trans (h.mono (Nat.le_trans HB68.out.size HB812.out.size))) (Nat.le_refl _))
  have BV1:Hid (∀ p W,Below w12.heap.size w12 W→_):=Lib.hid (fun p W (h:Below w12.heap.size w12 W)=>BV.out A2 c2 p W (KL2.out W h) (K12.out W h));have BV3:Hid (∀ p W,Below w12.heap.size w12 W→_):=Lib.hid (fun p W (h:Below w12.heap.size w12 W)=>BV2.out A2 c2 p W (KL2.out W h) (K12.out W h));clear BV BV2 HR5 HR6 HR7 HR8 HR9 HR11 HB2 HB23 HB24 HB25 HB26 HB27 HB28 HB210 HB3 HB4 HB5 HB6 HB7 HB8 HB9 HB10 HB11 HB67 HB68 HB89 HB810 HB811 HB812 KC1 KC2 KP1 KP2 KE1 KE2 HK1 HK2 y1 y2 y3 y4 y5 y6 HL2 HLD HBD x0 x1 x2 x3 x4 x5 x6 x7 x8 x9 hc1 hc2 HAP HW1 hln
  obtain ⟨n1,hn1⟩:∃ n1,ps1.length=n1:=⟨_,rfl⟩
  obtain ⟨n2,hn2⟩:∃ n2,ps2.length=n2:=⟨_,rfl⟩
  rw [hn1] at KR1 hp1 ⊢;rw [hn2] at KR2 hp2 ⊢;have HN1:=Lib.hid hn1;have HN2:=Lib.hid hn2;clear hn1 hn2;go_loopw [14,15] (fun s14 s15 wr=> ∃ (k:Nat) (At:Option Addr) (ct:Nat) (zs:List Place),k≤n1∧s15 = .int .i64 k∧s14 = .slice At zs.length ct∧Hid (zs=(ps1.take k).foldl putPl [])∧zs.length≤k∧Hid (Below w12.heap.size w12 wr)∧Hid (Rd encPlace 2 wr At zs.length ct zs)) (fun _ s15 _=>n1-(intOf s15).toNat)
  case atStart=>exact ⟨0,none,0,[],Nat.zero_le _,rfl,rfl,(show _=_ from rfl),Nat.le_refl _,(show Below _ _ _ from Below.refl _ _),(show Rd _ _ _ _ _ _ _ from Rd.none_ none 0 (by omega))⟩
  case round=>
   obtain ⟨k,At,ct,zs,hk,rfl,rfl,hzs,hzl,hbr,hrd⟩:=hrel;rename World=>wo;have hzr:=hbr.out.size;by_cases hlt:k<n1
   · obtain ⟨bp,op,p,hAp,hbpw,hp,hcp⟩:=(KR1.out wo hbr.out).one hlt
     subst hAp;have p0:wo.cell? ⟨bp,op+k * 2,none⟩=some (.int .i64 p.pit):=hcp 0 _ rfl;have p1:wo.cell? ⟨bp,op+k * 2+1,none⟩=some (.int .i64 p.layer):=hcp 1 _ rfl
     have HTK:Hid (ps1.take (k+1)=ps1.take k ++ [p]):=(show _=_ by rw [List.take_add_one,hp];rfl)
     have hpl:=putPl_len zs p;have HPT:=Lib.hid (rPut_any At zs.length ct zs p wo hrd.out (by omega));clear hcp hp;go_wp2_with (go_at_call 129;(with_reducible refine HPT.out.mono ?_);rintro e w13 ⟨A13,c13,rfl,hr13,hb13⟩;have HR13:=Lib.hid hr13;have HB13:=Lib.hid (hbr.out.trans (hb13.mono hzr));clear hr13 hb13);go_roundw
     all_goals first
      | (simp [intOf];omega)
      | exact ⟨k+1,A13,c13,putPl zs p,by omega,by go_num,rfl,(show _=_ by rw [HTK.out,List.foldl_append,←hzs.out];rfl),by omega,HB13,HR13⟩
   · have hkn:k=n1:=by omega
     subst hkn
     have HZ1:Hid (zs=ps1.foldl putPl []):=(show _=_ by have:=hzs.out;rwa [List.take_of_length_le (by rw [HN1.out];exact Nat.le_refl _)] at this)
     clear hzs;go_wp2;go_loopw [14,16] (fun s14 s16 wr=> ∃ (j:Nat) (At:Option Addr) (ct:Nat) (ys:List Place),j≤n2∧s16 = .int .i64 j∧s14 = .slice At ys.length ct∧Hid (ys=(ps2.take j).foldl putPl zs)∧ys.length≤k+j∧Hid (Below w12.heap.size w12 wr)∧Hid (Rd encPlace 2 wr At ys.length ct ys)) (fun _ s16 _=>n2-(intOf s16).toNat)
     case atStart=>exact ⟨0,At,ct,zs,Nat.zero_le _,rfl,rfl,(show _=_ from rfl),by omega,hbr,hrd⟩
     case round=>
      obtain ⟨j,Au,cu,ys,hj,rfl,rfl,hys,hyl,hbs,hrs⟩:=hrel;rename World=>wp;have hzp:=hbs.out.size;by_cases hlt2:j<n2
      · obtain ⟨bp,op,p,hAp,hbpw,hp,hcp⟩:=(KR2.out wp hbs.out).one hlt2
        subst hAp;have p0:wp.cell? ⟨bp,op+j * 2,none⟩=some (.int .i64 p.pit):=hcp 0 _ rfl;have p1:wp.cell? ⟨bp,op+j * 2+1,none⟩=some (.int .i64 p.layer):=hcp 1 _ rfl
        have HTK:Hid (ps2.take (j+1)=ps2.take j ++ [p]):=(show _=_ by rw [List.take_add_one,hp];rfl)
        have hpl:=putPl_len ys p;have HPT:=Lib.hid (rPut_any Au ys.length cu ys p wp hrs.out (by omega));clear hcp hp;go_wp2_with (go_at_call 129;(with_reducible refine HPT.out.mono ?_);rintro e w13 ⟨A13,c13,rfl,hr13,hb13⟩;have HR13:=Lib.hid hr13;have HB13:=Lib.hid (hbs.out.trans (hb13.mono hzp));clear hr13 hb13);go_roundw
        all_goals first
         | (simp [intOf];omega)
         | exact ⟨j+1,A13,c13,putPl ys p,by omega,by go_num,rfl,(show _=_ by rw [HTK.out,List.foldl_append,←hys.out];rfl),by omega,HB13,HR13⟩
      · have hjn:j=n2:=by omega
        subst hjn
        have HYS:Hid (ys=(ps1++ps2).foldl putPl []):=(show _=_ by have:=hys.out;rw [List.take_of_length_le (by rw [HN2.out];exact Nat.le_refl _),HZ1.out] at this;rw [List.foldl_append];exact this)
        have HRS:Hid (∀ W,Below wp.heap.size wp W→Rd encPlace 2 W Au ys.length cu ys):=(show ∀ W,_→_ from fun W h=>hrs.out.below h (Nat.le_refl _))
        have KW:Hid (∀ W,Below wp.heap.size wp W→Below w12.heap.size w12 W):=(show ∀ W,_→_ from fun W h=>hbs.out.trans (h.mono hzp))
        obtain ⟨n3,hn3⟩:∃ n3,ys.length=n3:=⟨_,rfl⟩
        rw [hn3] at HRS hyl ⊢;have HN3:=Lib.hid hn3;clear hn3 hys hrs hbs hzp hbr hrd hzr HZ1 hzl hlt hlt2;go_wp2;go_loopw [17,18] (fun s17 s18 wr=> ∃ (i:Nat) (Ao:Option Addr) (co:Nat) (xs:List Place),i≤n3∧s18 = .int .i64 i∧s17 = .slice Ao xs.length co∧Hid (xs=(ys.take i).filter rd)∧xs.length≤i∧Hid (Below wp.heap.size wp wr)∧Hid (Own encPlace 2 37 wp.heap.size wr Ao xs.length co xs)) (fun _ s18 _=>n3-(intOf s18).toNat)
        case atStart=>exact ⟨0,none,0,[],Nat.zero_le _,rfl,rfl,(show _=_ from rfl),Nat.le_refl _,(show Below _ _ _ from Below.refl _ _),(show Own _ _ _ _ _ _ _ _ _ from Own.none_ _ _ _ _ _)⟩
        case round=>
         obtain ⟨i,Ao,co,xs,hi,rfl,rfl,hxs,hxl,hbq,hO⟩:=hrel;rename World=>wq;have hzq:=hbq.out.size;by_cases hlt3:i<n3
         · obtain ⟨bz,oz,p,hAp,hbzw,hp,hcp⟩:=(HRS.out wq hbq.out).one hlt3
           subst hAp;have p0:wq.cell? ⟨bz,oz+i * 2,none⟩=some (.int .i64 p.pit):=hcp 0 _ rfl;have p1:wq.cell? ⟨bz,oz+i * 2+1,none⟩=some (.int .i64 p.layer):=hcp 1 _ rfl
           have HTK:Hid (ys.take (i+1)=ys.take i ++ [p]):=(show _=_ by rw [List.take_add_one,hp];rfl)
           have RP:Hid (∀ W,Below wq.heap.size wq W→Below wp.heap.size wp W):=(show ∀ W,_→_ from fun W h=>hbq.out.trans (h.mono hzq))
           have CE:Hid (RcP bz oz i p wq):=(show ∀ W,_→_ from fun W h=>⟨(h.cell (p:=⟨bz,_,none⟩) hbzw).trans p0,(h.cell (p:=⟨bz,_,none⟩) hbzw).trans p1⟩)
           have CK:Hid (∀ W,Below wq.heap.size wq W→RcPK w.heap.size x.known bz oz i p W):=(show ∀ W,_→∀ W',_→_ from fun W h W' h'=>⟨CX.out W' (K12.out W' (KW.out W' (RP.out W' (h.trans (h'.mono h.size))))),CE.out W' (h.trans (h'.mono h.size))⟩)
           have H1:Hid (∀ W,Below wq.heap.size wq W→Calls Tryz.prog 65 #[.slice A6 k c6,.agg #[.int .i64 p.pit,.int .i64 p.layer]] W fun e w'=>e = .returned (.bool (hasPl ps1 p))∧Below W.heap.size W w'):=(show ∀ W,_→_ from fun W h=>rHas_any A6 k c6 ps1 p W (KR1.out W (KW.out W (RP.out W h))))
           have H2:Hid (∀ W,Below wq.heap.size wq W→Calls Tryz.prog 65 #[.slice A8 j c8,.agg #[.int .i64 p.pit,.int .i64 p.layer]] W fun e w'=>e = .returned (.bool (hasPl ps2 p))∧Below W.heap.size W w'):=(show ∀ W,_→_ from fun W h=>rHas_any A8 j c8 ps2 p W (KR2.out W (KW.out W (RP.out W h))))
           have G1:Hid (∀ W,Below wq.heap.size wq W→_):=Lib.hid (fun W (h:Below wq.heap.size wq W)=>BW1.out p W (K12.out W (KW.out W (RP.out W h))));have G2:Hid (∀ W,Below wq.heap.size wq W→_):=Lib.hid (fun W (h:Below wq.heap.size wq W)=>BV1.out p W (KW.out W (RP.out W h)));have G3:Hid (∀ W,Below wq.heap.size wq W→_):=Lib.hid (fun W (h:Below wq.heap.size wq W)=>BW2.out p W (K12.out W (KW.out W (RP.out W h))));have G4:Hid (∀ W,Below wq.heap.size wq W→_):=Lib.hid (fun W (h:Below wq.heap.size wq W)=>BV3.out p W (KW.out W (RP.out W h)));have HRD:=Lib.hid (RDF.out p)
           have OW:Hid (∀ W,Below wq.heap.size wq W→Own encPlace 2 37 wp.heap.size W Ao xs.length co xs):=(show ∀ W,_→_ from fun W h=>hO.out.below h (Nat.le_refl _))
           generalize bw1 z00 p=u1 at *;generalize bw1 p z00=u3 at *;generalize bw2 z00 p=u2 at *;generalize bw2 p z00=u4 at *;obtain ⟨u11,u12,u13⟩:=u1;obtain ⟨u21,u22,u23⟩:=u2;obtain ⟨u31,u32,u33⟩:=u3;obtain ⟨u41,u42,u43⟩:=u4;simp only at G1 G2 G3 G4 HRD;generalize hasPl ps1 p=h1 at *;generalize hasPl ps2 p=h2 at *;clear hcp hp p0 p1 hO
           obtain ⟨D0,hD0⟩:∃ D0,(h1 != h2||one != two)=D0:=⟨_,rfl⟩
           go_upto_region 25 with (fail)
           go_cut [19] (fun s19 wx=>s19 = .bool D0∧Hid (Below wq.heap.size wq wx))
           case first=>
            cases hd:(h1 != h2)
            case true=>
             refine rrc25t _ rfl A6 k c6 A8 j c8 bz oz n3 cu i p h1 h2 _ wq _ rfl rfl rfl rfl rfl CE.out hlt3 (by omega) hd H1.out H2.out ?_;intro W25 hb25;have HBW25:=Lib.hid hb25;clear hb25;simp only [setsL,Nat.reduceAdd,List.setIfInBounds_toArray,List.set_cons_succ,List.set_cons_zero];go_wp2_with (fail);go_meet;exact ⟨by rw [←hD0,hd];rfl,HBW25⟩
            case false=>
             refine rrc25f _ rfl A6 k c6 A8 j c8 bz oz n3 cu i p h1 h2 one two _ wq _ rfl rfl rfl rfl rfl rfl rfl CE.out hlt3 (by omega) hd H1.out H2.out ?_;intro W25 hb25;have HBW25:=Lib.hid hb25;clear hb25;simp only [setsL,Nat.reduceAdd,List.setIfInBounds_toArray,List.set_cons_succ,List.set_cons_zero];go_wp2_with (fail);go_meet;exact ⟨by rw [←hD0,hd];rfl,HBW25⟩
           case rest=>
            obtain ⟨rfl,HBW25⟩:=hcut;rename World=>W25
            have HRD1:Hid (rd p=(D0||(one&&((u11 != u21||u12 != u22)||u31 != u41||u32 != u42)))):=(show _=_ by rw [HRD.out,hD0])
            clear HRD hD0 H1 H2;cases D0
            case true=>
             have HD:Hid (rd p=true):=(show _=_ by rw [HRD1.out];rfl)
             have hO5:=(OW.out W25 HBW25.out).alloc (.cells #[.int .i64 p.pit,.int .i64 p.layer] 37);have hrd5:=Rd.single (enc:=encPlace) (k:=2) W25 #[.int .i64 p.pit,.int .i64 p.layer] 37 [p] 1 rfl (by omega) (fun _=>rfl) (by simp [encPlace]);have hsz5:=(RP.out W25 HBW25.out).size;have HB5:=Lib.hid (show Below wp.heap.size wp (W25.alloc (.cells #[.int .i64 p.pit,.int .i64 p.layer] 37)) from (RP.out W25 HBW25.out).alloc hsz5 _);obtain ⟨p0,p1⟩:=CE.out W25 HBW25.out
             go_wp2_with (at_builtin;refine wpList_append_src elPlace (fun _=>rfl) onePlace rfl _ _ rfl _ _ _ _ rfl rfl hO5 hrd5 (by omega) (by decide) (by simp;omega) ?_;intro A9 c9 w9 hO9 hg9 hA9
                          have HB9:=Lib.hid (HB5.out.grown hg9 (by simp;omega) (fun j e=>hO5.ltB j e));have HO9:=Lib.hid hO9
                          clear hO9 hg9 hA9)
             go_roundw
             all_goals first
              | (simp [intOf];omega)
              | exact ⟨i+1,A9,c9,xs ++ [p],by omega,by go_num,by rw [List.length_append];rfl,(show _=_ by rw [HTK.out,List.filter_append,←hxs.out];simp [HD.out]),by rw [List.length_append];simp;omega,HB9,(show Own _ _ _ _ _ _ _ _ _ by rw [List.length_append];exact HO9.out)⟩
            case false=>
             cases one
             case false=>
              have HD:Hid (rd p=false):=(show _=_ by rw [HRD1.out];rfl)
              go_wp2;go_roundw
              all_goals first
               | (simp [intOf];omega)
               | exact ⟨i+1,Ao,co,xs,by omega,by go_num,rfl,(show _=_ by rw [HTK.out,List.filter_append,←hxs.out];simp [HD.out]),by omega,(show Below _ _ _ from RP.out W25 HBW25.out),(show Own _ _ _ _ _ _ _ _ _ from OW.out W25 HBW25.out)⟩
             case true=>
              go_upto_region 27 with (fail)
              refine rrc27 _ rfl A n c x.known bA bn bc w.heap.size bz oz n3 cu i p u11 u12 u13 _ W25 _ rfl rfl rfl rfl rfl rfl (CK.out W25 HBW25.out) hlt3 (by omega) (fun W h=>G1.out W (HBW25.out.trans (h.mono HBW25.out.size))) ?_;intro W27 hb27;have HBW27:=Lib.hid (HBW25.out.trans (hb27.mono HBW25.out.size));clear hb27;simp only [setsL,Nat.reduceAdd,List.setIfInBounds_toArray,List.set_cons_succ,List.set_cons_zero]
              go_upto_region 28 with (fail)
              refine rrc28 _ rfl A2 l'.length c2 x.known bA bn bc w.heap.size bz oz n3 cu i p u21 u22 u23 _ W27 _ rfl rfl rfl rfl rfl rfl (CK.out W27 HBW27.out) hlt3 (by omega) (fun W h=>G2.out W (HBW27.out.trans (h.mono HBW27.out.size))) ?_;intro W28 hb28;have HBW28:=Lib.hid (HBW27.out.trans (hb28.mono HBW27.out.size));clear hb28;simp only [setsL,Nat.reduceAdd,List.setIfInBounds_toArray,List.set_cons_succ,List.set_cons_zero]
              go_upto_region 29 with (fail)
              refine rrc29 _ rfl A n c x.known bA bn bc w.heap.size bz oz n3 cu i p u31 u32 u33 _ W28 _ rfl rfl rfl rfl rfl rfl (CK.out W28 HBW28.out) hlt3 (by omega) (fun W h=>G3.out W (HBW28.out.trans (h.mono HBW28.out.size))) ?_;intro W29 hb29;have HBW29:=Lib.hid (HBW28.out.trans (hb29.mono HBW28.out.size));clear hb29;simp only [setsL,Nat.reduceAdd,List.setIfInBounds_toArray,List.set_cons_succ,List.set_cons_zero]
              go_upto_region 30 with (fail)
              refine rrc30 _ rfl A2 l'.length c2 x.known bA bn bc w.heap.size bz oz n3 cu i p u41 u42 u43 _ W29 _ rfl rfl rfl rfl rfl rfl (CK.out W29 HBW29.out) hlt3 (by omega) (fun W h=>G4.out W (HBW29.out.trans (h.mono HBW29.out.size))) ?_;intro W30 hb30;have HBW30:=Lib.hid (HBW29.out.trans (hb30.mono HBW29.out.size));clear hb30;simp only [setsL,Nat.reduceAdd,List.setIfInBounds_toArray,List.set_cons_succ,List.set_cons_zero]
              obtain ⟨D1,hD1⟩:∃ D1,((u11 != u21||u12 != u22)||u31 != u41||u32 != u42)=D1:=⟨_,rfl⟩
              have HD:Hid (rd p=D1):=(show _=_ by rw [HRD1.out,←hD1];rfl)
              clear G1 G2 G3 G4 HRD1
              go_upto_region 31 with (fail)
              go_cut [19] (fun s19 wx=>s19 = .bool D1∧W30=wx)
              case first=>
               cases e1:(u11 != u21)
               case true=>
                go_wp2_with (fail);go_meet;exact ⟨by rw [←hD1,e1];rfl,rfl⟩
               case false=>
                cases e3:(u31 != u41)<;>cases u12<;>cases u22
                all_goals first
                 | (go_wp2_with (fail);go_meet;exact ⟨by rw [←hD1,e1];rfl,rfl⟩)
                 | (go_wp2_with (fail);go_meet;exact ⟨by rw [←hD1,e1,e3];rfl,rfl⟩)
                 | (cases u32<;>cases u42<;>(go_wp2_with (fail);go_meet;exact ⟨by rw [←hD1,e1,e3];rfl,rfl⟩))
              case rest=>
               obtain ⟨rfl,rfl⟩:=hcut;clear hD1;cases D1
               case true=>
                have hO5:=(OW.out W30 HBW30.out).alloc (.cells #[.int .i64 p.pit,.int .i64 p.layer] 37);have hrd5:=Rd.single (enc:=encPlace) (k:=2) W30 #[.int .i64 p.pit,.int .i64 p.layer] 37 [p] 1 rfl (by omega) (fun _=>rfl) (by simp [encPlace]);have hsz5:=(RP.out W30 HBW30.out).size;have HB5:=Lib.hid (show Below wp.heap.size wp (W30.alloc (.cells #[.int .i64 p.pit,.int .i64 p.layer] 37)) from (RP.out W30 HBW30.out).alloc hsz5 _);obtain ⟨p0,p1⟩:=CE.out W30 HBW30.out
                go_wp2_with (at_builtin;refine wpList_append_src elPlace (fun _=>rfl) onePlace rfl _ _ rfl _ _ _ _ rfl rfl hO5 hrd5 (by omega) (by decide) (by simp;omega) ?_;intro A9 c9 w9 hO9 hg9 hA9
                             have HB9:=Lib.hid (HB5.out.grown hg9 (by simp;omega) (fun j e=>hO5.ltB j e));have HO9:=Lib.hid hO9
                             clear hO9 hg9 hA9)
                go_roundw
                all_goals first
                 | (simp [intOf];omega)
                 | exact ⟨i+1,A9,c9,xs ++ [p],by omega,by go_num,by rw [List.length_append];rfl,(show _=_ by rw [HTK.out,List.filter_append,←hxs.out];simp [HD.out]),by rw [List.length_append];simp;omega,HB9,(show Own _ _ _ _ _ _ _ _ _ by rw [List.length_append];exact HO9.out)⟩
               case false=>
                go_wp2;go_roundw
                all_goals first
                 | (simp [intOf];omega)
                 | exact ⟨i+1,Ao,co,xs,by omega,by go_num,rfl,(show _=_ by rw [HTK.out,List.filter_append,←hxs.out];simp [HD.out]),by omega,(show Below _ _ _ from RP.out W30 HBW30.out),(show Own _ _ _ _ _ _ _ _ _ from OW.out W30 HBW30.out)⟩
         · have hin:i=n3:=by omega
           subst hin;have hx:=hxs.out;rw [List.take_of_length_le (by rw [HN3.out];exact Nat.le_refl _)] at hx;have HX:=Lib.hid hx;have HF:=Lib.hid (HB1.out.trans ((K12.out wq (KW.out wq hbq.out)).mono (by have:=HB1.out.size;omega)));have HS:=Lib.hid (Nat.le_trans HB1.out.size (K12.out wp (KW.out wp (Below.refl _ _))).size);clear hx hxs;go_wp2;go_ret2;have hO9:=hO.out;refine ⟨Ao,co,?_,HF.out,?_⟩
           · rw [←HYS.out,←HX.out];rfl
           · rw [←HYS.out,←HX.out];exact hO9.mono HS.out
end Go.Proofs.YtelnkflmnbhclaaGreat
end
section
namespace Go.Proofs.YtelnkflmnbhclaaGreat
open Go.RowKit Go.Proofs Go.Lib
def atI (l:List Int) (v:Int):Nat→Nat
 | 0=>0
 | k+1=>if v<l.getD k 0 then atI l v k else k+1
def putI (l:List Int) (v:Int):List Int:=if v=0∨v∈l then l else l.take (atI l v l.length) ++ [v]++l.drop (atI l v l.length)
def refIds (c:List Link):List Int:=c.foldl (fun l y=>putI l y.by_) []
theorem atI_le (l:List Int) (v:Int):∀ k,atI l v k≤k
 | 0=>Nat.le_refl _
 | k+1=>by
   rw [atI]
   split
   · exact Nat.le_succ_of_le (atI_le l v k)
   · exact Nat.le_refl _
theorem atI_after (l:List Int) (v:Int):∀ k j,atI l v k≤j→j<k→v<l.getD j 0
 | 0,j,_,h=>by omega
 | k+1,j,h1,h2=>by
   rw [atI] at h1
   split at h1
   · rename_i hv
     by_cases hj:j=k
     · subst hj;exact hv
     · exact atI_after l v k j h1 (by omega)
   · omega
theorem atI_ahead (l:List Int) (v:Int):∀ k,0<atI l v k→¬v<l.getD (atI l v k-1) 0
 | 0,h=>by simp [atI] at h
 | k+1,h=>by
   rw [atI] at h ⊢
   split
   · rename_i hv
     rw [if_pos hv] at h;exact atI_ahead l v k h
   · rename_i hv
     simpa using hv
theorem putI_mem (l:List Int) (v x:Int):x∈putI l v↔(x=v∧v≠0)∨x∈l:=by
 unfold putI
 split
 · rename_i h
   constructor
   · exact fun hx=> .inr hx
   · rintro (⟨rfl,h0⟩|hx)
     · exact h.resolve_left h0
     · exact hx
 · rename_i h
   have h0:v≠0:=fun e=>h (.inl e)
   have e:=List.take_append_drop (atI l v l.length) l;have:x∈l↔x∈l.take (atI l v l.length)∨x∈l.drop (atI l v l.length):=by rw [←List.mem_append,e]
   rw [this];simp only [List.mem_append,List.mem_singleton,h0,ne_eq,not_false_eq_true,and_true]
   constructor
   · rintro ((h|h)|h)
     · exact .inr (.inl h)
     · exact .inl h
     · exact .inr (.inr h)
   · rintro (h|h|h)
     · exact .inl (.inr h)
     · exact .inl (.inl h)
     · exact .inr h
theorem getD_of_lt {l:List Int} {i:Nat} (h:i<l.length):l.getD i 0=l[i]:=by
 rw [List.getD_eq_getElem?_getD,List.getElem?_eq_getElem h];rfl
theorem putI_asc {l:List Int} (h:l.Pairwise (· < ·)) (v:Int):(putI l v).Pairwise (· < ·):=by
 unfold putI
 split
 · exact h
 · rename_i hn
   have hv:v∉l:=fun e=>hn (.inr e)
   have hp:=List.pairwise_iff_getElem.1 h;have hle:=atI_le l v l.length
   have hA:∀ a∈l.take (atI l v l.length),a<v:=by
    intro a ha;obtain ⟨i,hi,rfl⟩:=List.getElem_of_mem ha;rw [List.length_take] at hi;rw [List.getElem_take];have hil:i<l.length:=by omega
    have h1:=atI_ahead l v l.length (by omega);have hal:atI l v l.length-1<l.length:=by omega
    rw [getD_of_lt hal] at h1
    have h2:l[i]≤l[atI l v l.length-1]:=by
     by_cases e:i=atI l v l.length-1
     · simp [e]
     · exact Int.le_of_lt (hp i _ hil hal (by omega))
    have h3:l[i]≠v:=fun e=>hv (e ▸ List.getElem_mem hil)
    omega
   have hB:∀ b∈l.drop (atI l v l.length),v<b:=by
    intro b hb;obtain ⟨i,hi,rfl⟩:=List.getElem_of_mem hb;rw [List.length_drop] at hi;rw [List.getElem_drop];have:=atI_after l v l.length (atI l v l.length+i) (by omega) (by omega)
    rwa [getD_of_lt (by omega)] at this
   rw [List.pairwise_append,List.pairwise_append];refine ⟨⟨h.sublist (List.take_sublist _ _),List.pairwise_singleton _ _,fun a ha b hb=> ?_⟩,h.sublist (List.drop_sublist _ _),fun a ha b hb=> ?_⟩
   · rw [List.mem_singleton.1 hb];exact hA a ha
   · rcases List.mem_append.1 ha with ha|ha
     · have:=hA a ha;have:=hB b hb;omega
     · rw [List.mem_singleton.1 ha];exact hB b hb
theorem fold_putI_asc:∀ (c:List Link) {l:List Int},l.Pairwise (· < ·)→(c.foldl (fun l y=>putI l y.by_) l).Pairwise (· < ·)
 | [],_,h=>h
 | y::c,_,h=>fold_putI_asc c (putI_asc h y.by_)
theorem fold_putI_mem:∀ (c:List Link) (l:List Int) (x:Int),x∈c.foldl (fun l y=>putI l y.by_) l↔(x≠0∧∃ y∈c,y.by_=x)∨x∈l
 | [],l,x=>by simp
 | y::c,l,x=>by
   rw [List.foldl_cons,fold_putI_mem c,putI_mem]
   constructor
   · rintro (⟨h0,z,hz,e⟩|⟨rfl,h0⟩|h)
     · exact .inl ⟨h0,z,List.mem_cons_of_mem _ hz,e⟩
     · exact .inl ⟨h0,y,List.mem_cons_self,rfl⟩
     · exact .inr h
   · rintro (⟨h0,z,hz,e⟩|h)
     · rcases List.mem_cons.1 hz with rfl|hz
       · exact .inr (.inl ⟨e.symm,by rw [e];exact h0⟩)
       · exact .inl ⟨h0,z,hz,e⟩
     · exact .inr (.inr h)
theorem refIds_eq (c:List Link):refIds c=idsV c:=by
 have nd:∀ {l:List Int},l.Pairwise (· < ·)→l.Nodup:=fun h=>h.imp fun {a b} h1 e=>by omega
 have h1:(refIds c).Pairwise (· < ·):=fold_putI_asc c List.Pairwise.nil;have h2:=idsV_asc c;refine List.Perm.eq_of_pairwise ?_ h1 h2 (perm_of_sub (nd h1) (nd h2) fun x=> ?_)
 · intro a b _ _ h1 h2;omega
 · unfold refIds
   rw [fold_putI_mem,idsV_mem];simp
end Go.Proofs.YtelnkflmnbhclaaGreat
end
section
namespace Go.Proofs.YtelnkflmnbhclaaGreat
open Go.RowKit Go.Proofs
def IdC (bq off j bl lo i:Nat) (u v:Int) (w:World):Prop:=∀ W,Below w.heap.size w W→W.cell? ⟨bq,off+j,none⟩=some (.int .i64 u)∧W.cell? ⟨bl,lo+i * 6+5,none⟩=some (.int .i64 v)
def codeIds7:Option Code→Code
 | some (.seq _ (.seq _ (.seq (.seq _ (.block _ (.loop (.seq _ (.seq (.block _ (.seq _ (.seq _ (.seq (.block _ (.loop (.seq (.seq c _) _))) _)))) _))))) _)))=>c
 | _=> .skip
def Trid7z (_:Value):List Value:=
 [.int .i64 0,.bool false,.bool false,undef,undef,undef,undef,undef,undef,undef,undef,undef,undef,undef,.bool false]
theorem rid7z (cC:Code) (hc:cC=codeIds7 Tryz.f71.body) (s0:Value) (a:Act) (w:World) (Q:Exit→Act→World→Prop)
 (hT:a.tmps.size=66) (t3:a.tmps.getD 3 undef=s0) (t5:a.tmps.getD 5 undef = .int .i64 0)
 (hQ:∀ W,Below w.heap.size w W→Q .normal { tmps:=setsL a.tmps 30 (Trid7z s0),defers:=a.defers } W):
 cC.wp Tryz.prog Q a w:=by
 subst hc;unfold codeIds7 Tryz.f71;dsimp only;refine wpIn_wide.1 (wpIn_region_flow (nn:=5) 66 (by kernel_rfl) (by kernel_rfl) (by kernel_rfl) hT (fun i=>(Trid7z s0).getD i undef) (fun W=>Below w.heap.size w W) ((Below.refl _ _).drew) (fun b hE hold=> ?_) hQ);clear hQ;have q3:=hold 3 _ (by kernel_rfl) t3;have q5:=hold 5 _ (by kernel_rfl) t5;simp only [factsL,Trid7z,List.getD_cons_zero,List.getD_cons_succ,Nat.reduceAdd] at hE
 repeat' first|exact steps_nil|refine steps_skip rfl rfl ?_|refine steps_go rfl ?_ ?_
 all_goals (intro W hW;simp only [Trid7z,List.getD_cons_zero,List.getD_cons_succ,Nat.reduceAdd])
 all_goals first
  | (refine .inl ?_;go_simp;done)
  | (refine .inl ?_;go_simp;rfl)
def Trid7s (bq off n c bl lo nl cl k j ix:Nat) (u v:Int) (r:Bool):List Value:=
 [.int .i64 k,.bool true,.bool true,.slice (some ⟨bq,off,none⟩) n c,.int .i64 k,.int .i64 j,.pointer (some ⟨bq,off+j,none⟩),.int .i64 u,.slice (some ⟨bl,lo,none⟩) nl cl,.int .i64 ix,.pointer (some ⟨bl,lo+ix * 6,none⟩),.pointer (some ⟨bl,lo+ix * 6+5,none⟩),.int .i64 v,.bool (r),.bool (r)]
theorem rid7s (cC:Code) (hc:cC=codeIds7 Tryz.f71.body) (bq off n c bl lo nl cl k j ix:Nat) (u v:Int) (r:Bool) (a:Act) (w:World) (Q:Exit→Act→World→Prop)
 (hT:a.tmps.size=66) (t0:a.tmps.getD 0 undef = .slice (some ⟨bl,lo,none⟩) nl cl) (t3:a.tmps.getD 3 undef = .slice (some ⟨bq,off,none⟩) n c) (t4:a.tmps.getD 4 undef = .int .i64 ix) (t5:a.tmps.getD 5 undef = .int .i64 k)
 (CE:IdC bq off j bl lo ix u v w) (hkj:k=j+1) (hj:j<n) (hn:n≤1000000) (hi:ix<nl) (_:nl≤1000000) (hr:decide (v<u)=r)
 (hQ:∀ W,Below w.heap.size w W→Q .normal { tmps:=setsL a.tmps 30 (Trid7s bq off n c bl lo nl cl k j ix u v r),defers:=a.defers } W):
 cC.wp Tryz.prog Q a w:=by
 subst hc;unfold codeIds7 Tryz.f71;dsimp only;refine wpIn_wide.1 (wpIn_region_flow (nn:=5) 66 (by kernel_rfl) (by kernel_rfl) (by kernel_rfl) hT (fun i=>(Trid7s bq off n c bl lo nl cl k j ix u v r).getD i undef) (fun W=>Below w.heap.size w W) ((Below.refl _ _).drew) (fun b hE hold=> ?_) hQ);clear hQ
 have hw:IntKind.i64.wrap ((k:Int)-1)=(j:Int):=(by rw [IntKind.wrap_i64];omega)
 have hk0:(0:Int)<(k:Int):=(by omega)
 have hk1:0<k:=(by omega)
 have HKJ:=Lib.hid hkj;clear hkj;have q0:=hold 0 _ (by kernel_rfl) t0;have q3:=hold 3 _ (by kernel_rfl) t3;have q4:=hold 4 _ (by kernel_rfl) t4;have q5:=hold 5 _ (by kernel_rfl) t5;simp only [factsL,Trid7s,List.getD_cons_zero,List.getD_cons_succ,Nat.reduceAdd] at hE
 repeat' first|exact steps_nil|refine steps_skip rfl rfl ?_|refine steps_go rfl ?_ ?_
 all_goals (intro W hW;obtain ⟨u0,v0⟩:=CE W hW;simp only [Trid7s,List.getD_cons_zero,List.getD_cons_succ,Nat.reduceAdd])
 all_goals first
  | (refine .inl ?_;go_simp;done)
  | (refine .inl ?_;go_simp;rfl)
  | (refine .inl ?_;go_simp;omega)
  | (refine .inl ?_;go_simp;exact hk1)
  | (refine .inl ?_;go_simp;exact hw)
  | (refine .inl ?_;go_simp;exact congrArg Value.bool hr)
  | (refine .inl ?_;go_simp;simp [*];done)
theorem rHasI_any (A:Option Addr) (n c:Nat) (l:List Int) (v:Int) (w:World) (hl:Rd encInt 1 w A n c l):
 Calls Tryz.prog 130 #[.slice A n c,.int .i64 v] w fun e w'=>e = .returned (.bool (decide (v∈l)))∧Below w.heap.size w w':=by
 have HL:=Lib.hid hl;have hnl:=Lib.hid hl.len;have hbig:=hl.big;clear hl;go_enter Tryz.func130,Tryz.ntmps130;go_wp2_with (fail);go_loopw [5] (fun i wr=> ∃ k:Nat,k≤n∧i = .int .i64 k∧Hid (Below w.heap.size w wr)∧Hid (v∉l.take k)) (fun i _=>n-(intOf i).toNat)
 case atStart=>exact ⟨0,Nat.zero_le _,rfl,(show Below _ _ _ from Below.refl _ _),(show v∉_ by simp)⟩
 case round=>
  obtain ⟨k,hk,rfl,hb,hno⟩:=hrel;by_cases hlt:k<n
  · obtain ⟨b,off,y,rfl,hbw,hy,hcell⟩:=(HL.out.below hb.out (Nat.le_refl _)).one hlt
    have y0:wr.cell? ⟨b,off+k,none⟩=some (.int .i64 y):=(by have:=hcell 0 _ rfl;simpa using this)
    have HTK:Hid (l.take (k+1)=l.take k ++ [y]):=(show _=_ by rw [List.take_add_one,hy];rfl)
    have HM:=Lib.hid (List.mem_of_getElem? hy);clear hcell hy
    cases hq:(y==v) with
    | true=>
      have HQ:=Lib.hid hq;go_wp2;go_ret;refine ⟨?_,hb.out⟩;have e:y=v:=by simpa using HQ.out
      have:=HM.out;rw [e] at this;exact retB (decide_eq_true this).symm
    | false=>
      have HQ:=Lib.hid hq;go_wp2;go_roundw
      all_goals first
       | (simp [intOf];omega)
       | exact ⟨k+1,by omega,by go_num,(show Below _ _ _ from hb.out),(show v∉_ by
          rw [HTK.out,List.mem_append,List.mem_singleton];rintro (h|h)
          · exact hno.out h
          · have:=HQ.out;rw [h] at this;simp at this)⟩
  · have hkn:k=n:=by omega
    subst hkn;have hn:=hno.out;rw [List.take_of_length_le (by rw [hnl.out];exact Nat.le_refl _)] at hn;have HN:=Lib.hid hn;clear hn;go_wp2;go_ret;exact ⟨retB (decide_eq_false HN.out).symm,hb.out⟩
theorem rIds_any (A:Option Addr) (n c:Nat) (l:List Link) (w:World) (hl:Rd encLink 6 w A n c l) (hn:n≤100000):
 Calls Tryz.prog 71 #[.slice A n c] w fun e w'=> ∃ A' c',e = .returned (.slice A' (idsV l).length c')∧Below w.heap.size w w'∧Rd encInt 1 w' A' (idsV l).length c' (idsV l):=by
 rw [←refIds_eq];unfold refIds;have hnl:=Lib.hid hl.len;have HL:=Lib.hid hl;have hcap:=hl.cap;clear hl;go_enter Tryz.func71,Tryz.ntmps71;go_wp2_with (fail);go_loopw [3,4] (fun s3 s4 wr=> ∃ (i:Nat) (Ao:Option Addr) (co:Nat) (xs:List Int),i≤n∧s4 = .int .i64 i∧s3 = .slice Ao xs.length co∧Hid (xs=(l.take i).foldl (fun l y=>putI l y.by_) [])∧xs.length≤i∧Hid (Below w.heap.size w wr)∧Hid (Rd encInt 1 wr Ao xs.length co xs)) (fun _ s4 _=>n-(intOf s4).toNat)
 case atStart=>exact ⟨0,none,0,[],Nat.zero_le _,rfl,rfl,(show _=_ from rfl),Nat.le_refl _,(show Below _ _ _ from Below.refl _ _),(show Rd _ _ _ _ _ _ _ from Rd.none_ none 0 (by omega))⟩
 case round=>
  rename World=>wo;obtain ⟨i,Ao,co,xs,hi,rfl,rfl,hxs,hxl,hbo,hro⟩:=hrel;have hzo:=hbo.out.size
  obtain ⟨m,hm⟩:∃ m,xs.length=m:=⟨_,rfl⟩
  have hcapo:=hro.out.cap;rw [hm] at hxl hcapo ⊢;have hro':=hro.out;rw [hm] at hro'
  have RX:Hid (∀ W,Below wo.heap.size wo W→Rd encInt 1 W Ao m co xs):=(show ∀ W,_→_ from fun W h=>hro'.below h (Nat.le_refl _))
  have HM:=Lib.hid hm;clear hm hro hro';by_cases hlt:i<n
  · obtain ⟨bl,lo,y,rfl,hbw,hy,hcell⟩:=(HL.out.below hbo.out (Nat.le_refl _)).one hlt
    obtain ⟨v,hv⟩:∃ v,y.by_=v:=⟨_,rfl⟩
    have c5:wo.cell? ⟨bl,lo+i * 6+5,none⟩=some (.int .i64 v):=(by rw [←hv];exact hcell 5 _ rfl)
    have HV:=Lib.hid hv
    have CY:Hid (∀ W,Below wo.heap.size wo W→W.cell? ⟨bl,lo+i * 6+5,none⟩=some (.int .i64 v)):=(show ∀ W,_→_ from fun W h=>(h.cell (p:=⟨bl,_,none⟩) hbw).trans c5)
    have HTK:Hid (l.take (i+1)=l.take i ++ [y]):=(show _=_ by rw [List.take_add_one,hy];rfl)
    clear hcell hy hv
    cases hv0:(v==0) with
    | true=>
      have HV0:Hid (putI xs v=xs):=(show _=_ by unfold putI;rw [if_pos (.inl (by simpa using hv0))])
      go_wp2_with (fail);go_roundw
      all_goals first
       | (simp [intOf];omega)
       | exact ⟨i+1,Ao,co,xs,by omega,by go_num,by rw [HM.out],(show _=_ by rw [HTK.out,List.foldl_append,←hxs.out];exact (HV0.out.symm.trans (congrArg (putI xs) HV.out.symm))),(by rw [HM.out];omega),hbo,(show Rd _ _ _ _ _ _ _ by rw [HM.out];exact RX.out _ (Below.refl _ _))⟩
    | false=>
      have HHA:=Lib.hid (rHasI_any Ao m co xs v wo (RX.out wo (Below.refl _ _)))
      cases hin:decide (v∈xs) with
      | true=>
        rw [hin] at HHA
        have HV0:Hid (putI xs v=xs):=(show _=_ by unfold putI;rw [if_pos (.inr (of_decide_eq_true hin))])
        clear hin;go_wp2_with (go_at_call 130;(with_reducible refine HHA.out.mono ?_);rintro e w2 ⟨rfl,hb2⟩;have HB2:=Lib.hid hb2;clear hb2);go_roundw
        all_goals first
         | (simp [intOf];omega)
         | exact ⟨i+1,Ao,co,xs,by omega,by go_num,by rw [HM.out],(show _=_ by rw [HTK.out,List.foldl_append,←hxs.out];exact (HV0.out.symm.trans (congrArg (putI xs) HV.out.symm))),(by rw [HM.out];omega),(show Below _ _ _ from hbo.out.trans (HB2.out.mono hzo)),(show Rd _ _ _ _ _ _ _ by rw [HM.out];exact RX.out _ HB2.out)⟩
      | false=>
        rw [hin] at HHA
        have HPI:Hid (putI xs v=xs.take (atI xs v m) ++ [v]++xs.drop (atI xs v m)):=(show _=_ by
         have h0:v≠0:=by simpa using hv0
         have h1:v∉xs:=of_decide_eq_false hin;unfold putI
         rw [if_neg (fun h=>h.elim h0 h1),HM.out])
        clear hin;go_wp2_with (go_at_call 130;(with_reducible refine HHA.out.mono ?_);rintro e w2 ⟨rfl,hb2⟩;have HB2:=Lib.hid hb2;clear hb2);clear hv0;go_loopw [5] (fun s5 wr=> ∃ k:Nat,k≤m∧s5 = .int .i64 k∧Hid (Below wo.heap.size wo wr)∧Hid (atI xs v m=atI xs v k)) (fun s5 _=>(intOf s5).toNat)
        case atStart=>exact ⟨m,Nat.le_refl _,rfl,HB2,(show _=_ from rfl)⟩
        case round=>
         rename World=>wp;obtain ⟨k,hk,rfl,hb,hat⟩:=hrel;have hzp:=hb.out.size
         rcases Nat.eq_zero_or_pos k with h0|h0
         · go_upto_region 7 with (fail)
           refine rid7z _ rfl _ _ wp _ rfl rfl (by rw [h0];rfl) ?_;intro w4 hb4;have HB4:=Lib.hid (hb.out.trans (hb4.mono hzp));clear hb4;simp only [setsL,Trid7z,Nat.reduceAdd,List.setIfInBounds_toArray,List.set_cons_succ,List.set_cons_zero]
           have hpn:Hid (putI xs v=xs.take k ++ [v]++xs.drop k):=(show _=_ by rw [HPI.out,hat.out,h0];rfl)
           clear hat HPI h0;have hs4:=HB4.out.size;have F0:=Own.fresh0 encInt 1 3 w4;have R1:=((RX.out w4 HB4.out).take (m:=k) (c':=co) hk ⟨by omega,Nat.le_refl _⟩).alloc (.cells #[] 3);have RL:=Lib.hid (fun W (h:Below w4.heap.size w4 W)=>RX.out W (HB4.out.trans (h.mono hs4)));have q0:=CY.out w4 HB4.out;have st:=to_int Ao m co k (by omega);obtain ⟨A',sf,hA'⟩:=from_int Ao m co k hk hcapo.1;have HA':=Lib.hid hA';clear hA'
           go_wp2_with (first
            | (at_builtin;refine wpList_append_to elInt (fun _=>rfl) oneInt rfl _ _ rfl _ _ _ _ rfl rfl F0 R1 (by omega) (by decide) (by simp) k (by omega) (xs.take k) (by simp) ?_;intro A2 c2 w5 hO5 hg5 hA5
               have hs45:w4.heap.size≤w5.heap.size:=(by have:=hg5.size;simp at this;omega)
               have HG5:=Lib.hid ((Below.refl w4.heap.size w4).alloc (Nat.le_refl _) (.cells #[] 3) |>.grown hg5 (by simp) (fun j e=>F0.ltB j e));have s0:=CY.out w5 (HB4.out.trans (HG5.out.mono hs4));have F5:=hO5.alloc (.cells #[.int .i64 v] 3);have R5:=Rd.single (enc:=encInt) (k:=1) w5 #[.int .i64 v] 3 [v] 1 rfl (by omega) (fun _=>rfl) (by simp [encInt])
               clear hO5 hg5 hA5 F0 R1)
            | (at_builtin;refine wpList_append_to elInt (fun _=>rfl) oneInt rfl _ _ rfl _ _ _ _ rfl rfl F5 R5 (by omega) (by decide) (by simp;omega) (k+1) (by omega) (xs.take k ++ [v]) rfl ?_;intro A3 c3 w6 hO6 hg6 hA6
               have HG6:=Lib.hid ((HG5.out.alloc hs45 (.cells #[.int .i64 v] 3)).grown hg6 (by simp;omega) (fun j e=>F5.ltB j e));have HO6:=Lib.hid hO6;have hs46:=HG6.out.size
               clear hO6 hg6 hA6 F5 R5)
            | (at_builtin;refine wpList_append_to elInt (fun _=>rfl) oneInt rfl _ _ rfl _ _ _ _ rfl rfl HO6.out ((RL.out w6 HG6.out).drop (m:=k) hk HA'.out) (by omega) (by decide) hs46 (m+1) (by omega) (xs.take k ++ [v]++xs.drop k) rfl ?_;intro A4 c4 w7 hO7 hg7 hA7
               have HB7:=Lib.hid (HB4.out.trans ((HG6.out.grown hg7 hs46 (fun j e=>HO6.out.ltB j e)).mono hs4));have HO7:=Lib.hid hO7
               clear hO7 hg7 hA7))
           go_roundw
           all_goals first
            | (simp [intOf];omega)
            | (have hl7:(xs.take k ++ [v]++xs.drop k).length=m+1:=(by simp [HM.out];omega)
               refine ⟨i+1,A4,c4,putI xs v,by omega,by go_num,(by rw [hpn.out,hl7]),(show _=_ by rw [HTK.out,List.foldl_append,←hxs.out];exact congrArg (putI xs) HV.out.symm),(by rw [hpn.out,hl7];omega),(show Below _ _ _ from hbo.out.trans (HB7.out.mono hzo)),?_⟩
               show Rd _ _ _ _ _ _ _
               rw [hpn.out,hl7]
               exact HO7.out.rd (fun _=>rfl) (by omega))
         · obtain ⟨j,hkj⟩:∃ j,k=j+1:=⟨k-1,by omega⟩
           have HKJ:=Lib.hid hkj
           have hjn:j<m:=(by omega)
           clear hkj;obtain ⟨b,off,u,rfl,hbwu,hu,hcellu⟩:=(RX.out wp hb.out).one hjn
           have u0:wp.cell? ⟨b,off+j,none⟩=some (.int .i64 u):=(by have:=hcellu 0 _ rfl;simpa using this)
           have CE:Hid (IdC b off j bl lo i u v wp):=(show ∀ W,_→_ from fun W h=>⟨(h.cell (p:=⟨b,_,none⟩) hbwu).trans u0,CY.out W (hb.out.trans (h.mono hzp))⟩)
           have hyd:Hid (xs.getD j 0=u):=(show _=_ by rw [List.getD_eq_getElem?_getD,hu];rfl)
           clear hcellu hu u0
           go_upto_region 7 with (fail)
           obtain ⟨r,hr⟩:∃ r,decide (v<u)=r:=⟨_,rfl⟩
           have HR:=Lib.hid hr;clear hr;refine rid7s _ rfl b off m co bl lo n c k j i u v r _ wp _ rfl rfl rfl rfl rfl CE.out HKJ.out hjn (by omega) hlt (by omega) HR.out ?_;intro w4 hb4;have HB4:=Lib.hid (hb.out.trans (hb4.mono hzp));clear hb4;simp only [setsL,Trid7s,Nat.reduceAdd,List.setIfInBounds_toArray,List.set_cons_succ,List.set_cons_zero]
           cases r with
           | true=>
             go_wp2;go_roundw
             all_goals first
              | (have:=HKJ.out;simp [intOf];omega)
              | exact ⟨j,by omega,by have:=HKJ.out;subst this;go_num,HB4,(show _=_ by have h1:=hat.out;rw [HKJ.out,atI,hyd.out,if_pos (of_decide_eq_true HR.out)] at h1;exact h1)⟩
           | false=>
             have hpn:Hid (putI xs v=xs.take k ++ [v]++xs.drop k):=(show _=_ by
              have h1:=hat.out;rw [HKJ.out,atI,hyd.out,if_neg (of_decide_eq_false HR.out),←HKJ.out] at h1
              rw [HPI.out,h1])
             clear hat HPI CE h0;have hs4:=HB4.out.size;have F0:=Own.fresh0 encInt 1 3 w4;have R1:=((RX.out w4 HB4.out).take (m:=k) (c':=co) hk ⟨by omega,Nat.le_refl _⟩).alloc (.cells #[] 3);have RL:=Lib.hid (fun W (h:Below w4.heap.size w4 W)=>RX.out W (HB4.out.trans (h.mono hs4)));have q0:=CY.out w4 HB4.out;have st:=to_int (some ⟨b,off,none⟩) m co k (by omega);obtain ⟨A',sf,hA'⟩:=from_int (some ⟨b,off,none⟩) m co k hk hcapo.1;have HA':=Lib.hid hA';clear hA'
             go_wp2_with (first
              | (at_builtin;refine wpList_append_to elInt (fun _=>rfl) oneInt rfl _ _ rfl _ _ _ _ rfl rfl F0 R1 (by omega) (by decide) (by simp) k (by omega) (xs.take k) (by simp) ?_;intro A2 c2 w5 hO5 hg5 hA5
                 have hs45:w4.heap.size≤w5.heap.size:=(by have:=hg5.size;simp at this;omega)
                 have HG5:=Lib.hid ((Below.refl w4.heap.size w4).alloc (Nat.le_refl _) (.cells #[] 3) |>.grown hg5 (by simp) (fun j e=>F0.ltB j e));have s0:=CY.out w5 (HB4.out.trans (HG5.out.mono hs4));have F5:=hO5.alloc (.cells #[.int .i64 v] 3);have R5:=Rd.single (enc:=encInt) (k:=1) w5 #[.int .i64 v] 3 [v] 1 rfl (by omega) (fun _=>rfl) (by simp [encInt])
                 clear hO5 hg5 hA5 F0 R1)
              | (at_builtin;refine wpList_append_to elInt (fun _=>rfl) oneInt rfl _ _ rfl _ _ _ _ rfl rfl F5 R5 (by omega) (by decide) (by simp;omega) (k+1) (by omega) (xs.take k ++ [v]) rfl ?_;intro A3 c3 w6 hO6 hg6 hA6
                 have HG6:=Lib.hid ((HG5.out.alloc hs45 (.cells #[.int .i64 v] 3)).grown hg6 (by simp;omega) (fun j e=>F5.ltB j e));have HO6:=Lib.hid hO6;have hs46:=HG6.out.size
                 clear hO6 hg6 hA6 F5 R5)
              | (at_builtin;refine wpList_append_to elInt (fun _=>rfl) oneInt rfl _ _ rfl _ _ _ _ rfl rfl HO6.out ((RL.out w6 HG6.out).drop (m:=k) hk HA'.out) (by omega) (by decide) hs46 (m+1) (by omega) (xs.take k ++ [v]++xs.drop k) rfl ?_;intro A4 c4 w7 hO7 hg7 hA7
                 have HB7:=Lib.hid (HB4.out.trans ((HG6.out.grown hg7 hs46 (fun j e=>HO6.out.ltB j e)).mono hs4));have HO7:=Lib.hid hO7
                 clear hO7 hg7 hA7))
             go_roundw
             all_goals first
              | (simp [intOf];omega)
              | (have hl7:(xs.take k ++ [v]++xs.drop k).length=m+1:=(by simp [HM.out];omega)
                 refine ⟨i+1,A4,c4,putI xs v,by omega,by go_num,(by rw [hpn.out,hl7]),(show _=_ by rw [HTK.out,List.foldl_append,←hxs.out];exact congrArg (putI xs) HV.out.symm),(by rw [hpn.out,hl7];omega),(show Below _ _ _ from hbo.out.trans (HB7.out.mono hzo)),?_⟩
                 show Rd _ _ _ _ _ _ _
                 rw [hpn.out,hl7]
                 exact HO7.out.rd (fun _=>rfl) (by omega))
  · have hin:i=n:=by omega
    subst hin;have hx:=hxs.out;rw [List.take_of_length_le (by rw [hnl.out];exact Nat.le_refl _)] at hx;have HX:=Lib.hid hx;clear hx hxs;go_wp2;go_ret;refine ⟨Ao,co,?_,hbo.out,?_⟩
    · rw [←HX.out,HM.out];rfl
    · rw [←HX.out,HM.out];exact RX.out _ (Below.refl _ _)
open Go.Shelf
theorem reachedV_len (l:List Trace) (x:Trace) (bs:List Bond):(reachedV l x bs).length≤1000:=by
 unfold reachedV
 split
 · simp
 · rename_i h
   have hE:reachedE l x bs=0:=by simpa using h
   unfold reachedE at hE
   split at hE
   · rename_i h1;exact absurd hE h1
   · split at hE
     · rename_i h1 h2;exact absurd hE h2
     · rename_i h1 h2
       have p1:=(okO_of (show askErr l x.known bs=0 by simpa using h2)).pn;have p2:=(okO_of hE).pn;unfold reachedL;have h3:=putAll_len ((placesOf (counting l x.known) bs++placesOf (counting (appendV l x).1 x.known) bs).filter (differ (spnM (counting l x.known) bs) (spnM (counting (appendV l x).1 x.known) bs))) [];have h4:=List.length_filter_le (differ (spnM (counting l x.known) bs) (spnM (counting (appendV l x).1 x.known) bs)) (placesOf (counting l x.known) bs++placesOf (counting (appendV l x).1 x.known) bs);rw [List.length_append] at h4;simp only [List.length_nil] at h3;omega
theorem stratumReached_of (lA:Option Addr) (ln lc:Nat) (l:List Trace) (hl0:l.length=ln) (x:Trace) (bA:Option Addr) (bn bc:Nat) (b:List Bond) (hb0:b.length=bn) (cA:Option Addr) (cn cc:Nat) (c:List Link) (hc0:c.length=cn) (w:World) (rl:ln≤17592186044416→Rd encTrace 10 w lA ln lc l) (rb:bn≤17592186044416→Rd encBond 5 w bA bn bc b) (rc:cn≤17592186044416→Rd encLink 6 w cA cn cc c):
 Calls Tryz.prog 19 #[.slice lA ln lc,.agg #[.int .i64 x.id,.int .i64 x.known,.int .u8 x.kind,.int .i64 x.pit,.int .i64 x.layer,.int .i64 x.lower,.int .i64 x.low,.int .i64 x.high,.int .i64 x.cost,.int .i64 x.void],.slice bA bn bc,.slice cA cn cc] w fun e w'=>e = .returned (.bool true)∧Below w.heap.size w w':=by
 obtain ⟨w1,hw1⟩:∃ w1,w.alloc (.cells #[.int .i64 x.id,.int .i64 x.known,.int .u8 x.kind,.int .i64 x.pit,.int .i64 x.layer,.int .i64 x.lower,.int .i64 x.low,.int .i64 x.high,.int .i64 x.cost,.int .i64 x.void] 25)=w1:=⟨_,rfl⟩
 have hb1:Below w.heap.size w w1:=(by rw [←hw1];exact (Below.refl _ w).alloc (Nat.le_refl _) _)
 have hz1:w1.heap.size=w.heap.size+1:=(by rw [←hw1];simp)
 have hrx:w1.heap[w.heap.size]? = some (.cells #[.int .i64 x.id,.int .i64 x.known,.int .u8 x.kind,.int .i64 x.pit,.int .i64 x.layer,.int .i64 x.lower,.int .i64 x.low,.int .i64 x.high,.int .i64 x.cost,.int .i64 x.void] 25 (0,0)):=(by rw [←hw1];exact heap_alloc_new w _)
 have CX:Hid (∀ W,Below w1.heap.size w1 W→W.cell? ⟨w.heap.size,0,none⟩=some (.int .i64 x.id)∧W.cell? ⟨w.heap.size,1,none⟩=some (.int .i64 x.known)∧W.cell? ⟨w.heap.size,2,none⟩=some (.int .u8 x.kind)∧W.cell? ⟨w.heap.size,3,none⟩=some (.int .i64 x.pit)∧W.cell? ⟨w.heap.size,4,none⟩=some (.int .i64 x.layer)∧W.cell? ⟨w.heap.size,5,none⟩=some (.int .i64 x.lower)∧W.cell? ⟨w.heap.size,6,none⟩=some (.int .i64 x.low)∧W.cell? ⟨w.heap.size,7,none⟩=some (.int .i64 x.high)∧W.cell? ⟨w.heap.size,8,none⟩=some (.int .i64 x.cost)∧W.cell? ⟨w.heap.size,9,none⟩=some (.int .i64 x.void)):=(show ∀ W,Below w1.heap.size w1 W→_ from fun W hb=>by
  have:=(hb.block _ (by omega)).trans hrx
  simp [World.cell?,this])
 have HB1:=Lib.hid hb1;have HW1:=Lib.hid hw1;have HZ1:=Lib.hid hz1;have HDUG:=Lib.hid dug_any;obtain ⟨x0,x1,x2,x3,x4,x5,x6,x7,x8,x9⟩:=CX.out w1 (Below.refl _ _);by_cases hlow:fewB ln bn 25=true∧cn≤60
 case neg=>
  obtain ⟨fw,hfew⟩:∃ fw,fewB ln bn 25=fw:=⟨_,rfl⟩
  rw [hfew] at hlow;have HF:=Lib.hid hfew
  have h4:fw=false∨(fw=true∧decide ((cn:Int)>60)=true):=by
   cases fw with
   | false=>exact .inl rfl
   | true=>exact .inr ⟨rfl,decide_eq_true (by have:¬cn≤60:=(fun h=>hlow ⟨rfl,h⟩);omega)⟩
  clear hfew hlow rl rb rc hl0 hb0 hc0 hrx hb1 hw1 hz1
  rcases h4 with rfl|⟨rfl,g2⟩
  all_goals
   go_enter Tryz.func19,Tryz.ntmps19
   go_wp2_with (first
    | rw [HW1.out]
    | (go_at_call 23;(with_reducible refine (few_any _ _ _ _ _ _ _ _).mono ?_);rintro e w2 ⟨rfl,hw2⟩;obtain rfl:=hw2.symm;rw [HF.out])
    | (go_at_call 22;(with_reducible refine (HDUG.out _).mono ?_);rintro e w7 ⟨rfl,hb7⟩;have HB7:=Lib.hid hb7;clear hb7))
   go_ret;exact ⟨rfl,HB1.out.trans (HB7.out.mono HB1.out.size)⟩
 case pos=>
  obtain ⟨hfew,hcn⟩:=hlow;obtain ⟨hn,hm⟩:=fewB_small hfew (by decide);have HF:=Lib.hid hfew;have g2:decide ((cn:Int)>60)=false:=decide_eq_false (by omega)
  have RL:Hid (∀ W,Below w1.heap.size w1 W→Rd encTrace 10 W lA ln lc l):=(show ∀ W,_→_ from fun W h=>(rl (by omega)).below (hb1.trans (h.mono hb1.size)) (Nat.le_refl _))
  have RB:Hid (∀ W,Below w1.heap.size w1 W→Rd encBond 5 W bA bn bc b):=(show ∀ W,_→_ from fun W h=>(rb (by omega)).below (hb1.trans (h.mono hb1.size)) (Nat.le_refl _))
  have RC:Hid (∀ W,Below w1.heap.size w1 W→Rd encLink 6 W cA cn cc c):=(show ∀ W,_→_ from fun W h=>(rc (by omega)).below (hb1.trans (h.mono hb1.size)) (Nat.le_refl _))
  have K1:=Lib.hid (fun W (h:Below w1.heap.size w1 W)=>Reached_any lA ln lc l x bA bn bc b W (RL.out W h) (RB.out W h));have K2:=Lib.hid (fun W (h:Below w1.heap.size w1 W)=>rReached_any lA ln lc l x bA bn bc b W (RL.out W h) (RB.out W h));have K3:=Lib.hid (fun W (h:Below w1.heap.size w1 W)=>Ids_any cA cn cc c W (RC.out W h) (by omega));have K4:=Lib.hid (fun W (h:Below w1.heap.size w1 W)=>rIds_any cA cn cc c W (RC.out W h) (by omega));have hrn:=reachedV_len l x b;have hil:=idsV_len (c:=c) (n:=60) (by omega);clear hfew rl rb rc hl0 hb0 hc0 hrx hb1 hw1 hz1 RL RB RC;generalize reachedV l x b=rv at *;generalize reachedE l x b=re at *;generalize idsV c=is at *;go_enter Tryz.func19,Tryz.ntmps19
  go_wp2_with (first
   | rw [HW1.out]
   | (go_at_call 23;(with_reducible refine (few_any _ _ _ _ _ _ _ _).mono ?_);rintro e w2 ⟨rfl,hw2⟩;obtain rfl:=hw2.symm;rw [HF.out])
   | (go_at_call 69;(with_reducible refine (K1.out _ (Below.refl _ _)).mono ?_);rintro e w3 ⟨A3,c3,rfl,hb3,hO3⟩
      have HB3:=Lib.hid hb3;have HR3:=Lib.hid (hO3.rd (fun _=>rfl) (by omega));obtain ⟨x0,x1,x2,x3,x4,x5,x6,x7,x8,x9⟩:=CX.out w3 hb3
      clear hb3 hO3)
   | (go_at_call 70;(with_reducible refine (K2.out _ HB3.out).mono ?_);rintro e w4 ⟨A4,c4,rfl,hb4,hO4⟩
      have HB4:=Lib.hid (HB3.out.trans (hb4.mono HB3.out.size));have HS3:=Lib.hid (HR3.out.below hb4 (Nat.le_refl _));have HR4:=Lib.hid (hO4.rd (fun _=>rfl) (by omega))
      clear hb4 hO4 x0 x1 x2 x3 x4 x5 x6 x7 x8 x9)
   | (go_at_call 68;(with_reducible refine (K3.out _ HB4.out).mono ?_);rintro e w5 ⟨A5,c5,rfl,hb5,hO5⟩
      have HB5:=Lib.hid (HB4.out.trans (hb5.mono HB4.out.size));have HT3:=Lib.hid (HS3.out.below hb5 (Nat.le_refl _));have HT4:=Lib.hid (HR4.out.below hb5 (Nat.le_refl _));have HR5:=Lib.hid (hO5.rd (fun _=>rfl) (by omega))
      clear hb5 hO5)
   | (go_at_call 71;(with_reducible refine (K4.out _ HB5.out).mono ?_);rintro e w6 ⟨A6,c6,rfl,hb6,hr6⟩
      have HB6:=Lib.hid (HB5.out.trans (hb6.mono HB5.out.size));have HU3:=Lib.hid (HT3.out.below hb6 (Nat.le_refl _));have HU4:=Lib.hid (HT4.out.below hb6 (Nat.le_refl _));have HU5:=Lib.hid (HR5.out.below hb6 (Nat.le_refl _));have HU6:=Lib.hid hr6
      clear hb6 hr6))
  obtain ⟨ni,hni⟩:∃ ni,is.length=ni:=⟨_,rfl⟩
  rw [hni] at HU5 HU6 hil ⊢
  have RI:Hid (∀ W,Below w6.heap.size w6 W→Rd encInt 1 W A5 ni c5 is∧Rd encInt 1 W A6 ni c6 is):=(show ∀ W,_→_ from fun W h=>⟨HU5.out.below h (Nat.le_refl _),HU6.out.below h (Nat.le_refl _)⟩)
  clear hni HU5 HU6;go_loopw [15] (fun s15 wr=> ∃ k:Nat,k≤ni∧s15 = .int .i64 k∧Hid (Below w6.heap.size w6 wr)) (fun s15 _=>ni-(intOf s15).toNat)
  case atStart=>exact ⟨0,Nat.zero_le _,rfl,(show Below _ _ _ from Below.refl _ _)⟩
  case round=>
   obtain ⟨k,hk,rfl,hbr⟩:=hrel;have hzr:=hbr.out.size;by_cases hlt:k<ni
   · obtain ⟨r5,r6⟩:=RI.out wr hbr.out
     obtain ⟨b5,o5,u,rfl,hbw5,hu,hcu⟩:=r5.one hlt;obtain ⟨b6,o6,v,rfl,hbw6,hv,hcv⟩:=r6.one hlt;obtain rfl:u=v:=Option.some.inj (hu.symm.trans hv)
     have u0:wr.cell? ⟨b5,o5+k,none⟩=some (.int .i64 u):=(by have:=hcu 0 _ rfl;simpa using this)
     have v0:wr.cell? ⟨b6,o6+k,none⟩=some (.int .i64 u):=(by have:=hcv 0 _ rfl;simpa using this)
     have huu:(u != u)=false:=by simp
     clear hu hv hcu hcv r5 r6;go_wp2_with (go_quiet (fail));go_roundw
     all_goals first
      | (simp [intOf];omega)
      | exact ⟨k+1,by omega,by go_num,(show Below _ _ _ from below_drewN' hbr.out _)⟩
   · have hkn:k=ni:=by omega
     subst hkn;have HV3:=Lib.hid (fun W (h:Below wr.heap.size wr W)=>HU3.out.below (hbr.out.trans (h.mono hzr)) (Nat.le_refl _));have HV4:=Lib.hid (fun W (h:Below wr.heap.size wr W)=>HU4.out.below (hbr.out.trans (h.mono hzr)) (Nat.le_refl _))
     go_wp2_with (first
      | (go_at_call 22;(with_reducible refine (HDUG.out _).mono ?_);rintro e w7 ⟨rfl,hb7⟩;have HB7:=Lib.hid hb7;clear hb7)
      | (go_at_call 31;(with_reducible refine (rSamePlaces_refl _ _ _ _ _ rv _ (HV3.out _ HB7.out) (HV4.out _ HB7.out)).mono ?_);rintro e w8 ⟨rfl,hb8⟩;have HB8:=Lib.hid hb8;clear hb8))
     go_ret;exact ⟨rfl,HB1.out.trans ((HB6.out.trans ((hbr.out.trans ((HB7.out.trans (HB8.out.mono HB7.out.size)).mono hzr)).mono HB6.out.size)).mono HB1.out.size)⟩
end Go.Proofs.YtelnkflmnbhclaaGreat
end

/- Contracts that the laws lean on: RHas, ToldR, RTold, RMov, LnkR, RLnk. -/
import Derived.Test.YtelnkflmnbhclaaGreatPfH08
set_option maxRecDepth 100000
set_option maxHeartbeats 4000000
section
namespace Go.Proofs.YtelnkflmnbhclaaGreat
open Go.RowKit Go.Proofs Go.Shelf
theorem snoc_anyP {α:Type} {l:List α} {k:Nat} {y:α} (hy:l[k]? = some y) (p:α→Bool):(l.take (k+1)).any p=((l.take k).any p||p y):=by
 rw [List.take_add_one,hy,Option.toList_some,List.any_append];simp
theorem eqPlace_comm (x y:Place):eqPlace x y=eqPlace y x:=by unfold eqPlace;simp [eq_comm]
theorem rHas_any (A:Option Addr) (n c:Nat) (l:List Place) (p:Place) (w:World) (hl:Rd encPlace 2 w A n c l):
 Calls Tryz.prog 65 #[.slice A n c,.agg #[.int .i64 p.pit,.int .i64 p.layer]] w fun e w'=>e = .returned (.bool (hasPl l p))∧Below w.heap.size w w':=by
 obtain ⟨w1,hw1⟩:∃ w1,w.alloc (.cells #[.int .i64 p.pit,.int .i64 p.layer] 37)=w1:=⟨_,rfl⟩
 have hb1:Below w.heap.size w w1:=(by rw [←hw1];exact (Below.refl _ w).alloc (Nat.le_refl _) _)
 have hz1:w1.heap.size=w.heap.size+1:=(by rw [←hw1];simp)
 have hr1:w1.heap[w.heap.size]? = some (.cells #[.int .i64 p.pit,.int .i64 p.layer] 37 (0,0)):=(by rw [←hw1];exact heap_alloc_new w _)
 have CELLS:Hid (∀ W:World,Below w1.heap.size w1 W→W.cell? ⟨w.heap.size,0,none⟩=some (.int .i64 p.pit)∧W.cell? ⟨w.heap.size,1,none⟩=some (.int .i64 p.layer)):=(show ∀ W:World,Below w1.heap.size w1 W→W.cell? ⟨w.heap.size,0,none⟩=some (.int .i64 p.pit)∧W.cell? ⟨w.heap.size,1,none⟩=some (.int .i64 p.layer) from fun W hb=>by
  have:=(hb.block _ (by omega)).trans hr1
  simp [World.cell?,this])
 have HL:=Lib.hid (hl.below hb1 (Nat.le_refl _));have hnl:=Lib.hid hl.len;have hbig:=hl.big;clear hl hr1;go_enter Tryz.func65,Tryz.ntmps65;go_wp2_with (fail);go_loopw [5] (fun i wr=> ∃ k:Nat,k≤n∧i = .int .i64 k∧Hid (Below w1.heap.size w1 wr)∧Hid ((l.take k).any (fun x=>eqPlace p x)=false)) (fun i _=>n-(intOf i).toNat)
 case atStart=>exact ⟨0,Nat.zero_le _,rfl,(show Below _ _ _ from Below.refl _ _),(show _=_ from rfl)⟩
 case round=>
  obtain ⟨k,hk,rfl,hb,hno⟩:=hrel;have hzr:=hb.out.size;obtain ⟨p0,p1⟩:=CELLS.out wr hb.out
  have hxlt:w.heap.size<wr.heap.size:=(by omega)
  by_cases hlt:k<n
  · obtain ⟨b,off,y,rfl,hbw,hy,hcell⟩:=(HL.out.below hb.out (Nat.le_refl _)).one hlt
    have y0:wr.cell? ⟨b,off+k * 2,none⟩=some (.int .i64 y.pit):=hcell 0 _ rfl;have y1:wr.cell? ⟨b,off+k * 2+1,none⟩=some (.int .i64 y.layer):=hcell 1 _ rfl
    have SN:Hid ((l.take (k+1)).any (fun x=>eqPlace p x)=eqPlace p y):=(show _=_ by rw [snoc_anyP hy,hno.out,Bool.false_or])
    have HM:=Lib.hid (List.mem_of_getElem? hy);clear hcell hy
    cases hq:eqPlace ⟨y.pit,y.layer⟩ ⟨p.pit,p.layer⟩ with
    | true=>
      have HQ:=Lib.hid hq;go_wp2_with (go_quiet (fail));go_ret;exact ⟨retB (Eq.symm (List.any_eq_true.2 ⟨y,HM.out,by rw [eqPlace_comm];exact HQ.out⟩)),below_drewN' (hb1.trans (hb.out.mono (by omega))) _⟩
    | false=>
      have HQ:=Lib.hid hq;go_wp2_with (go_quiet (fail));go_roundw
      all_goals first
       | (simp [intOf];omega)
       | exact ⟨k+1,by omega,by go_num,(show Below _ _ _ from below_drewN' hb.out _),(show _=_ by rw [SN.out,eqPlace_comm];exact HQ.out)⟩
  · have hkn:k=n:=by omega
    subst hkn;have hn:=hno.out;rw [List.take_of_length_le (by rw [hnl.out];exact Nat.le_refl _)] at hn;have HN:=Lib.hid hn;clear hn;go_wp2;go_ret;exact ⟨retB (show false=hasPl l p from HN.out.symm),hb1.trans (hb.out.mono (by omega))⟩
def codetold6:Option Code→Code
 | some (.seq _ (.seq _ (.seq (.seq _ (.block _ (.loop (.seq _ (.seq (.block _ (.seq _ (.cond _ c _))) _))))) _)))=>c
 | _=> .skip
def valtold6 (bq off m d:Nat) (Ad:Option Addr) (n cd i:Nat) (x:Bond) (nw:Nat) (A':Option Addr) (c':Nat):Nat→Value
 | 0=> .slice Ad n cd
 | 1=> .slice (some ⟨bq,off,none⟩) m d
 | 2=> .int .i64 i
 | 3=> .pointer (some ⟨bq,off+i * 5,none⟩)
 | 4=> .pointer (some ⟨bq,off+i * 5,none⟩)
 | 5=> .agg #[.int .i64 x.a.pit,.int .i64 x.a.layer]
 | 6=> .slice (some ⟨bq,off,none⟩) m d
 | 7=> .int .i64 i
 | 8=> .pointer (some ⟨bq,off+i * 5,none⟩)
 | 9=> .pointer (some ⟨bq,off+i * 5+2,none⟩)
 | 10=> .agg #[.int .i64 x.b.pit,.int .i64 x.b.layer]
 | 11=> .slice (some ⟨bq,off,none⟩) m d
 | 12=> .int .i64 i
 | 13=> .pointer (some ⟨bq,off+i * 5,none⟩)
 | 14=> .pointer (some ⟨bq,off+i * 5+4,none⟩)
 | 15=> .int .i64 x.by_
 | 16=> .agg #[.int .i64 x.a.pit,.int .i64 x.a.layer,.int .i64 x.b.pit,.int .i64 x.b.layer,.int .i64 0,.int .i64 x.by_]
 | 17=> .slice (some ⟨bq,off,none⟩) m d
 | 18=> .int .i64 i
 | 19=> .pointer (some ⟨bq,off+i * 5,none⟩)
 | 20=> .pointer (some ⟨bq,off+i * 5+2,none⟩)
 | 21=> .agg #[.int .i64 x.b.pit,.int .i64 x.b.layer]
 | 22=> .slice (some ⟨bq,off,none⟩) m d
 | 23=> .int .i64 i
 | 24=> .pointer (some ⟨bq,off+i * 5,none⟩)
 | 25=> .pointer (some ⟨bq,off+i * 5,none⟩)
 | 26=> .agg #[.int .i64 x.a.pit,.int .i64 x.a.layer]
 | 27=> .slice (some ⟨bq,off,none⟩) m d
 | 28=> .int .i64 i
 | 29=> .pointer (some ⟨bq,off+i * 5,none⟩)
 | 30=> .pointer (some ⟨bq,off+i * 5+4,none⟩)
 | 31=> .int .i64 x.by_
 | 32=> .agg #[.int .i64 x.b.pit,.int .i64 x.b.layer,.int .i64 x.a.pit,.int .i64 x.a.layer,.int .i64 0,.int .i64 x.by_]
 | 33=> .slice (some ⟨nw,0,none⟩) 2 2
 | 34=> .slice (A') (n+2) c'
 | 35=> .slice (A') (n+2) c'
 | _=>undef
theorem told6 (cC:Code) (hc:cC=codetold6 Tryz.f143.body) (bq off m d:Nat) (Ad:Option Addr) (n cd i:Nat) (x:Bond) (B:Nat) (xs:List Link) (a:Act) (w:World) (Q:Exit→Act→World→Prop)
 (hT:a.tmps.size=67) (t0:a.tmps.getD 0 undef = .slice (some ⟨bq,off,none⟩) m d) (t5:a.tmps.getD 5 undef = .slice Ad n cd) (t6:a.tmps.getD 6 undef = .int .i64 i)
 (him:i<m) (_:m≤100000) (CE:∀ W,w.grownBy W (blockOf Ad)→W.cell? ⟨bq,off+i * 5,none⟩=some (.int .i64 x.a.pit)∧W.cell? ⟨bq,off+i * 5+1,none⟩=some (.int .i64 x.a.layer)∧W.cell? ⟨bq,off+i * 5+2,none⟩=some (.int .i64 x.b.pit)∧W.cell? ⟨bq,off+i * 5+3,none⟩=some (.int .i64 x.b.layer)∧W.cell? ⟨bq,off+i * 5+4,none⟩=some (.int .i64 x.by_))
 (hown:Own encLink 6 74 B w Ad n cd xs) (hB:B≤w.heap.size) (hn:n≤1000000)
 (hQ:∀ A' c' w8,Own encLink 6 74 B w8 A' (n+2) c' (xs ++ [⟨x.a,x.b,0,x.by_⟩,⟨x.b,x.a,0,x.by_⟩])→w.grownBy w8 (blockOf Ad)→Q .normal { tmps:=((((((((((((((((((((((((((((((((((((a.tmps.setIfInBounds 31 (.slice Ad n cd)).setIfInBounds 32 (.slice (some ⟨bq,off,none⟩) m d)).setIfInBounds 33 (.int .i64 i)).setIfInBounds 34 (.pointer (some ⟨bq,off+i * 5,none⟩))).setIfInBounds 35 (.pointer (some ⟨bq,off+i * 5,none⟩))).setIfInBounds 36 (.agg #[.int .i64 x.a.pit,.int .i64 x.a.layer])).setIfInBounds 37 (.slice (some ⟨bq,off,none⟩) m d)).setIfInBounds 38 (.int .i64 i)).setIfInBounds 39 (.pointer (some ⟨bq,off+i * 5,none⟩))).setIfInBounds 40 (.pointer (some ⟨bq,off+i * 5+2,none⟩))).setIfInBounds 41 (.agg #[.int .i64 x.b.pit,.int .i64 x.b.layer])).setIfInBounds 42 (.slice (some ⟨bq,off,none⟩) m d)).setIfInBounds 43 (.int .i64 i)).setIfInBounds 44 (.pointer (some ⟨bq,off+i * 5,none⟩))).setIfInBounds 45 (.pointer (some ⟨bq,off+i * 5+4,none⟩))).setIfInBounds 46 (.int .i64 x.by_)).setIfInBounds 47 (.agg #[.int .i64 x.a.pit,.int .i64 x.a.layer,.int .i64 x.b.pit,.int .i64 x.b.layer,.int .i64 0,.int .i64 x.by_])).setIfInBounds 48 (.slice (some ⟨bq,off,none⟩) m d)).setIfInBounds 49 (.int .i64 i)).setIfInBounds 50 (.pointer (some ⟨bq,off+i * 5,none⟩))).setIfInBounds 51 (.pointer (some ⟨bq,off+i * 5+2,none⟩))).setIfInBounds 52 (.agg #[.int .i64 x.b.pit,.int .i64 x.b.layer])).setIfInBounds 53 (.slice (some ⟨bq,off,none⟩) m d)).setIfInBounds 54 (.int .i64 i)).setIfInBounds 55 (.pointer (some ⟨bq,off+i * 5,none⟩))).setIfInBounds 56 (.pointer (some ⟨bq,off+i * 5,none⟩))).setIfInBounds 57 (.agg #[.int .i64 x.a.pit,.int .i64 x.a.layer])).setIfInBounds 58 (.slice (some ⟨bq,off,none⟩) m d)).setIfInBounds 59 (.int .i64 i)).setIfInBounds 60 (.pointer (some ⟨bq,off+i * 5,none⟩))).setIfInBounds 61 (.pointer (some ⟨bq,off+i * 5+4,none⟩))).setIfInBounds 62 (.int .i64 x.by_)).setIfInBounds 63 (.agg #[.int .i64 x.b.pit,.int .i64 x.b.layer,.int .i64 x.a.pit,.int .i64 x.a.layer,.int .i64 0,.int .i64 x.by_])).setIfInBounds 64 (.slice (some ⟨w.heap.size,0,none⟩) 2 2)).setIfInBounds 65 (.slice (A') (n+2) c')).setIfInBounds 5 (.slice (A') (n+2) c')),defers:=a.defers } w8):
 cC.wp Tryz.prog Q a w:=by
 subst hc;unfold codetold6 Tryz.f143;dsimp only
 obtain ⟨nw,hnw⟩:∃ nw,w.heap.size=nw:=⟨_,rfl⟩
 obtain ⟨wb,hwb⟩:∃ wb,wb=w.drew.alloc (.cells #[.int .i64 x.a.pit,.int .i64 x.a.layer,.int .i64 x.b.pit,.int .i64 x.b.layer,.int .i64 0,.int .i64 x.by_,.int .i64 x.b.pit,.int .i64 x.b.layer,.int .i64 x.a.pit,.int .i64 x.a.layer,.int .i64 0,.int .i64 x.by_] 74):=⟨_,rfl⟩
 have hga:w.grownBy w.drew (blockOf Ad):=grown_drew w _
 have hgb:w.grownBy wb (blockOf Ad):=(by rw [hwb];exact grown_alloc hga _)
 have hrd:Rd encLink 6 wb (some ⟨nw,0,none⟩) 2 2 [⟨x.a,x.b,0,x.by_⟩,⟨x.b,x.a,0,x.by_⟩]:=(by
  have:=Rd.single (enc:=encLink) (k:=6) w.drew #[.int .i64 x.a.pit,.int .i64 x.a.layer,.int .i64 x.b.pit,.int .i64 x.b.layer,.int .i64 0,.int .i64 x.by_,.int .i64 x.b.pit,.int .i64 x.b.layer,.int .i64 x.a.pit,.int .i64 x.a.layer,.int .i64 0,.int .i64 x.by_] 74 [⟨x.a,x.b,0,x.by_⟩,⟨x.b,x.a,0,x.by_⟩] 2 rfl (by omega) (fun _=>rfl) (by simp [encLink])
  rw [hwb,←hnw];exact this)
 obtain ⟨A',c',wc,hrun,hO,hg,_⟩:=run_append_src elLink 43 (fun _=>rfl) oneLink (show Own encLink 6 74 B wb Ad n cd xs by rw [hwb];exact hown.drew.alloc _) (some ⟨nw,0,none⟩) 2 2 [⟨x.a,x.b,0,x.by_⟩,⟨x.b,x.a,0,x.by_⟩] hrd (by omega) (by omega) (by have:=hgb.size;omega);have hgc:=grown_trans hgb hg;have hQ':=hQ A' c' wc hO hgc;have pA:=CE _ hga;have pB:=CE _ hgb;have pC:=CE _ hgc;rw [hnw] at hQ';clear hQ CE hO hg hrd hown hga hgb hgc
 obtain ⟨Wf,hWf⟩:∃ Wf:Array Bool→World,∀ L,Wf L=if L.getD 34 false=true then wc else if L.getD 33 false=true then wb else w.drew:=⟨_,fun _=>rfl⟩
 refine wpIn_wide.1 (wpIn_region_tab2 (nn:=5) (by kernel_rfl) (valtold6 bq off m d Ad n cd i x nw A' c') Wf (by rw [hT];kernel_rfl) ?_ ?_ ?_)
 · rw [hWf];rfl
 · intro listed io o b hi ho hb hlat
   obtain ⟨hun,oi,hoi,hall⟩:=mem_ready.1 hi;have:oi=o:=Option.some.inj (hoi.symm.trans ho);subst this;clear hoi hi hQ'
   have hlt:io<36:=(by have:=(Array.getElem?_eq_some_iff.1 ho).1;simpa using this)
   have q0:b.tmps[0]?.getD undef=_:=(by simpa using (hb.old 0 (dst_no hb (by kernel_rfl))).trans t0)
   have q5:listed.getD 35 false=false→b.tmps[5]?.getD undef=_:=fun h=>(by simpa using (hlat 35 5 rfl h).trans t5)
   have q6:b.tmps[6]?.getD undef=_:=(by simpa using (hb.old 6 (dst_no hb (by kernel_rfl))).trans t6)
   have hun':listed.getD io false=false:=getD_both hun;have hsame:io≠33→io≠34→Wf (listed.setIfInBounds io true)=Wf listed:=fun h1 h2=>by rw [hWf,hWf,getD_set_ne false h1,getD_set_ne false h2]
   have hpr:∃ W,Wf listed=W∧W.cell? ⟨bq,off+i * 5,none⟩=some (.int .i64 x.a.pit)∧W.cell? ⟨bq,off+i * 5+1,none⟩=some (.int .i64 x.a.layer)∧W.cell? ⟨bq,off+i * 5+2,none⟩=some (.int .i64 x.b.pit)∧W.cell? ⟨bq,off+i * 5+3,none⟩=some (.int .i64 x.b.layer)∧W.cell? ⟨bq,off+i * 5+4,none⟩=some (.int .i64 x.by_):=⟨_,rfl,by rw [hWf];(repeat' split)<;>assumption⟩
   have E:∀ (j s:Nat) (v:Value),dstOf _ j=some s→valtold6 bq off m d Ad n cd i x nw A' c' j=v→listed.getD j false=true→b.tmps[s]?.getD undef=v:=fun j s v h1 h2 h3=>by rw [←h2];simpa using hb.val j s h1 h3
   obtain ⟨W,hW,c0,c1,c2,c3,c4⟩:=hpr;by_cases hp:io=33
   · subst hp
     simp only [List.getElem?_toArray,List.getElem?_cons_zero,List.getElem?_cons_succ] at ho;cases ho;have e16:=E 16 47 (.agg #[.int .i64 x.a.pit,.int .i64 x.a.layer,.int .i64 x.b.pit,.int .i64 x.b.layer,.int .i64 0,.int .i64 x.by_]) rfl rfl (hall ⟨16,.data⟩ (by simp) rfl);have e32:=E 32 63 (.agg #[.int .i64 x.b.pit,.int .i64 x.b.layer,.int .i64 x.a.pit,.int .i64 x.a.layer,.int .i64 0,.int .i64 x.by_]) rfl rfl (hall ⟨32,.data⟩ (by simp) rfl);have nl:=not_listed (hb.closed 34 _ rfl) ⟨33,.data⟩ (by simp) rfl hun'
     have h1:Wf listed=w.drew:=(by rw [hWf,nl,hun'];rfl)
     have h2:Wf (listed.setIfInBounds 33 true)=wb:=(by rw [hWf,getD_set_ne false (by decide),nl,getD_set_self hb.size (by simp)];rfl)
     refine .inl ?_;rw [h1,h2];clear h1 h2 hWf hsame E pA pB pC hrun;subst hwb;subst hnw;go_simp
     try rfl
   by_cases hq:io=34
   · subst hq
     simp only [List.getElem?_toArray,List.getElem?_cons_zero,List.getElem?_cons_succ] at ho;cases ho;have e0:=E 0 31 (.slice Ad n cd) rfl rfl (hall ⟨0,.data⟩ (by simp) rfl);have e33:=E 33 64 (.slice (some ⟨nw,0,none⟩) 2 2) rfl rfl (hall ⟨33,.data⟩ (by simp) rfl);have p1:=hall ⟨33,.data⟩ (by simp) rfl
     have h1:Wf listed=wb:=(by rw [hWf,hun',p1];rfl)
     have h2:Wf (listed.setIfInBounds 34 true)=wc:=(by rw [hWf,getD_set_self hb.size (by simp)];rfl)
     refine .inl ?_;rw [h1,h2]
     have f0:b.eval (.tmp 31) = .slice Ad n cd:=(by simpa [Act.eval,valtold6] using e0)
     have f1:b.eval (.tmp 64) = .slice (some ⟨nw,0,none⟩) 2 2:=(by simpa [Act.eval,valtold6] using e33)
     simp only [execOp,resolve,invoke,builtin,Sem.run_bind,Sem.run_pure,Result.andThen_ok,List.map_toArray,List.map_cons,List.map_nil,f0,f1,hrun]
     rfl
   rw [hsame hp hq,hW];refine .inl ?_;clear hsame hWf hW hwb pA pB pC hrun
   rcases (by omega:io=0∨io=1∨io=2∨io=3∨io=4∨io=5∨io=6∨io=7∨io=8∨io=9∨io=10∨io=11∨io=12∨io=13∨io=14∨io=15∨io=16∨io=17∨io=18∨io=19∨io=20∨io=21∨io=22∨io=23∨io=24∨io=25∨io=26∨io=27∨io=28∨io=29∨io=30∨io=31∨io=32∨io=35) with rfl|rfl|rfl|rfl|rfl|rfl|rfl|rfl|rfl|rfl|rfl|rfl|rfl|rfl|rfl|rfl|rfl|rfl|rfl|rfl|rfl|rfl|rfl|rfl|rfl|rfl|rfl|rfl|rfl|rfl|rfl|rfl|rfl|rfl
   all_goals simp only [List.getElem?_toArray,List.getElem?_cons_zero,List.getElem?_cons_succ] at ho
   all_goals cases ho
   · (have q5':=q5 (not_listed (hb.closed 35 _ rfl) ⟨0,.phase⟩ (by simp) rfl hun'));clear E;go_simp;try rfl
   · clear E;go_simp;try rfl
   · clear E;go_simp;try rfl
   · (have e1:=E 1 32 (.slice (some ⟨bq,off,none⟩) m d) rfl rfl (hall ⟨1,.data⟩ (by simp) rfl));(have e2:=E 2 33 (.int .i64 i) rfl rfl (hall ⟨2,.data⟩ (by simp) rfl));clear E;go_simp;try rfl
   · (have e3:=E 3 34 (.pointer (some ⟨bq,off+i * 5,none⟩)) rfl rfl (hall ⟨3,.data⟩ (by simp) rfl));clear E;go_simp;try rfl
   · (have e4:=E 4 35 (.pointer (some ⟨bq,off+i * 5,none⟩)) rfl rfl (hall ⟨4,.data⟩ (by simp) rfl));clear E;go_simp;try rfl
   · clear E;go_simp;try rfl
   · clear E;go_simp;try rfl
   · (have e6:=E 6 37 (.slice (some ⟨bq,off,none⟩) m d) rfl rfl (hall ⟨6,.data⟩ (by simp) rfl));(have e7:=E 7 38 (.int .i64 i) rfl rfl (hall ⟨7,.data⟩ (by simp) rfl));clear E;go_simp;try rfl
   · (have e8:=E 8 39 (.pointer (some ⟨bq,off+i * 5,none⟩)) rfl rfl (hall ⟨8,.data⟩ (by simp) rfl));clear E;go_simp;try rfl
   · (have e9:=E 9 40 (.pointer (some ⟨bq,off+i * 5+2,none⟩)) rfl rfl (hall ⟨9,.data⟩ (by simp) rfl));clear E;go_simp;try rfl
   · clear E;go_simp;try rfl
   · clear E;go_simp;try rfl
   · (have e11:=E 11 42 (.slice (some ⟨bq,off,none⟩) m d) rfl rfl (hall ⟨11,.data⟩ (by simp) rfl));(have e12:=E 12 43 (.int .i64 i) rfl rfl (hall ⟨12,.data⟩ (by simp) rfl));clear E;go_simp;try rfl
   · (have e13:=E 13 44 (.pointer (some ⟨bq,off+i * 5,none⟩)) rfl rfl (hall ⟨13,.data⟩ (by simp) rfl));clear E;go_simp;try rfl
   · (have e14:=E 14 45 (.pointer (some ⟨bq,off+i * 5+4,none⟩)) rfl rfl (hall ⟨14,.data⟩ (by simp) rfl));clear E;go_simp;try rfl
   · (have e5:=E 5 36 (.agg #[.int .i64 x.a.pit,.int .i64 x.a.layer]) rfl rfl (hall ⟨5,.data⟩ (by simp) rfl));(have e10:=E 10 41 (.agg #[.int .i64 x.b.pit,.int .i64 x.b.layer]) rfl rfl (hall ⟨10,.data⟩ (by simp) rfl));(have e15:=E 15 46 (.int .i64 x.by_) rfl rfl (hall ⟨15,.data⟩ (by simp) rfl));clear E;go_simp;try rfl
   · clear E;go_simp;try rfl
   · clear E;go_simp;try rfl
   · (have e17:=E 17 48 (.slice (some ⟨bq,off,none⟩) m d) rfl rfl (hall ⟨17,.data⟩ (by simp) rfl));(have e18:=E 18 49 (.int .i64 i) rfl rfl (hall ⟨18,.data⟩ (by simp) rfl));clear E;go_simp;try rfl
   · (have e19:=E 19 50 (.pointer (some ⟨bq,off+i * 5,none⟩)) rfl rfl (hall ⟨19,.data⟩ (by simp) rfl));clear E;go_simp;try rfl
   · (have e20:=E 20 51 (.pointer (some ⟨bq,off+i * 5+2,none⟩)) rfl rfl (hall ⟨20,.data⟩ (by simp) rfl));clear E;go_simp;try rfl
   · clear E;go_simp;try rfl
   · clear E;go_simp;try rfl
   · (have e22:=E 22 53 (.slice (some ⟨bq,off,none⟩) m d) rfl rfl (hall ⟨22,.data⟩ (by simp) rfl));(have e23:=E 23 54 (.int .i64 i) rfl rfl (hall ⟨23,.data⟩ (by simp) rfl));clear E;go_simp;try rfl
   · (have e24:=E 24 55 (.pointer (some ⟨bq,off+i * 5,none⟩)) rfl rfl (hall ⟨24,.data⟩ (by simp) rfl));clear E;go_simp;try rfl
   · (have e25:=E 25 56 (.pointer (some ⟨bq,off+i * 5,none⟩)) rfl rfl (hall ⟨25,.data⟩ (by simp) rfl));clear E;go_simp;try rfl
   · clear E;go_simp;try rfl
   · clear E;go_simp;try rfl
   · (have e27:=E 27 58 (.slice (some ⟨bq,off,none⟩) m d) rfl rfl (hall ⟨27,.data⟩ (by simp) rfl));(have e28:=E 28 59 (.int .i64 i) rfl rfl (hall ⟨28,.data⟩ (by simp) rfl));clear E;go_simp;try rfl
   · (have e29:=E 29 60 (.pointer (some ⟨bq,off+i * 5,none⟩)) rfl rfl (hall ⟨29,.data⟩ (by simp) rfl));clear E;go_simp;try rfl
   · (have e30:=E 30 61 (.pointer (some ⟨bq,off+i * 5+4,none⟩)) rfl rfl (hall ⟨30,.data⟩ (by simp) rfl));clear E;go_simp;try rfl
   · (have e21:=E 21 52 (.agg #[.int .i64 x.b.pit,.int .i64 x.b.layer]) rfl rfl (hall ⟨21,.data⟩ (by simp) rfl));(have e26:=E 26 57 (.agg #[.int .i64 x.a.pit,.int .i64 x.a.layer]) rfl rfl (hall ⟨26,.data⟩ (by simp) rfl));(have e31:=E 31 62 (.int .i64 x.by_) rfl rfl (hall ⟨31,.data⟩ (by simp) rfl));clear E;go_simp;try rfl
   · (have e34:=E 34 65 (.slice (A') (n+2) c') rfl rfl (hall ⟨34,.data⟩ (by simp) rfl));clear E;go_simp;try rfl
 · intro b hb
   have hact:=hb.act (m:=67) (by kernel_rfl) hT.symm
   have hW:Wf (Array.replicate 36 true)=wc:=(by rw [hWf];rfl)
   refine (?_:Q .normal b (Wf (Array.replicate 36 true)));rw [hW,hact];exact hQ'
theorem linkB_no {mv:List Place} {x:Bond} (h:hasPl mv x.a=true∨hasPl mv x.b=true):linkB mv x = []:=by
 unfold linkB;rw [if_pos (by rcases h with h|h<;>simp [h])]
theorem linkB_yes {mv:List Place} {x:Bond} (h1:hasPl mv x.a=false) (h2:hasPl mv x.b=false):linkB mv x = [⟨x.a,x.b,0,x.by_⟩,⟨x.b,x.a,0,x.by_⟩]:=by
 unfold linkB;rw [if_neg (by simp [h1,h2])]
theorem rtold_any (B:Option Addr) (m d:Nat) (bs:List Bond) (M:Option Addr) (mn mc:Nat) (mv:List Place) (w:World) (hb:Rd encBond 5 w B m d bs) (hm:Rd encPlace 2 w M mn mc mv) (hsm:m≤100000):
 Calls Tryz.prog 143 #[.slice B m d,.slice M mn mc] w fun e w'=> ∃ A' c',e = .returned (.slice A' (bs.flatMap (linkB mv)).length c')∧Own encLink 6 74 w.heap.size w' A' (bs.flatMap (linkB mv)).length c' (bs.flatMap (linkB mv))∧Below w.heap.size w w':=by
 have hnl:=Lib.hid hb.len;have HBD:=Lib.hid hb;have HMV:=Lib.hid hm;clear hb hm;go_enter Tryz.func143,Tryz.ntmps143;go_wp2;go_loopw [5,6] (fun s5 s6 wr=> ∃ (i:Nat) (A':Option Addr) (c':Nat) (xs:List Link),i≤m∧s5 = .slice A' xs.length c'∧s6 = .int .i64 i∧Hid (Below w.heap.size w wr)∧Hid ((bs.take i).flatMap (linkB mv)=xs)∧Hid (Own encLink 6 74 w.heap.size wr A' xs.length c' xs)∧xs.length≤2 * i) (fun _ s6 _=>m-(intOf s6).toNat)
 case atStart=>exact ⟨0,none,0,[],Nat.zero_le _,rfl,rfl,(show Below _ _ _ from Below.refl _ _),(show _=_ from rfl),(show Own _ _ _ _ _ _ _ _ _ from Own.none_ _ _ _ _ _),by simp⟩
 case round=>
  rename World=>wo;obtain ⟨i,A',c',xs,hi,rfl,rfl,hbl,hxs,hO,hxl⟩:=hrel;have hzr:=hbl.out.size;by_cases hlt:i<m
  · obtain ⟨b,off,x,rfl,hbw,hx,hcell⟩:=(HBD.out.below hbl.out (Nat.le_refl _)).one hlt
    have c0:wo.cell? ⟨b,off+i * 5,none⟩=some (.int .i64 x.a.pit):=hcell 0 _ rfl;have c1:wo.cell? ⟨b,off+i * 5+1,none⟩=some (.int .i64 x.a.layer):=hcell 1 _ rfl;have c2:wo.cell? ⟨b,off+i * 5+2,none⟩=some (.int .i64 x.b.pit):=hcell 2 _ rfl;have c3:wo.cell? ⟨b,off+i * 5+3,none⟩=some (.int .i64 x.b.layer):=hcell 3 _ rfl;have c4:wo.cell? ⟨b,off+i * 5+4,none⟩=some (.int .i64 x.by_):=hcell 4 _ rfl;have HX:=Lib.hid hx
    have CE:Hid (∀ W,Below wo.heap.size wo W→W.cell? ⟨b,off+i * 5,none⟩=some (.int .i64 x.a.pit)∧W.cell? ⟨b,off+i * 5+1,none⟩=some (.int .i64 x.a.layer)∧W.cell? ⟨b,off+i * 5+2,none⟩=some (.int .i64 x.b.pit)∧W.cell? ⟨b,off+i * 5+3,none⟩=some (.int .i64 x.b.layer)∧W.cell? ⟨b,off+i * 5+4,none⟩=some (.int .i64 x.by_)):=
     (show ∀ W,Below wo.heap.size wo W→W.cell? ⟨b,off+i * 5,none⟩=some (.int .i64 x.a.pit)∧W.cell? ⟨b,off+i * 5+1,none⟩=some (.int .i64 x.a.layer)∧W.cell? ⟨b,off+i * 5+2,none⟩=some (.int .i64 x.b.pit)∧W.cell? ⟨b,off+i * 5+3,none⟩=some (.int .i64 x.b.layer)∧W.cell? ⟨b,off+i * 5+4,none⟩=some (.int .i64 x.by_) from
       fun W hb=>⟨(hb.cell (p:=⟨b,_,none⟩) hbw).trans c0,(hb.cell (p:=⟨b,_,none⟩) hbw).trans c1,(hb.cell (p:=⟨b,_,none⟩) hbw).trans c2,(hb.cell (p:=⟨b,_,none⟩) hbw).trans c3,(hb.cell (p:=⟨b,_,none⟩) hbw).trans c4⟩)
    have HMW:Hid (∀ W,Below wo.heap.size wo W→Rd encPlace 2 W M mn mc mv):=(show ∀ W,Below wo.heap.size wo W→Rd encPlace 2 W M mn mc mv from fun W h=>HMV.out.below (hbl.out.trans (h.mono hzr)) (Nat.le_refl _))
    have SN:Hid ((bs.take (i+1)).flatMap (linkB mv)=xs++linkB mv x):=(show _=_ by rw [flatMap_take _ hx,hxs.out])
    clear hcell hx
    cases hA:hasPl mv x.a with
    | true=>
      have HA:=Lib.hid hA;clear hA;go_wp2_with (go_at_call 65;(with_reducible refine (rHas_any M mn mc mv x.a wo (HMW.out _ (Below.refl _ _))).mono ?_);rintro e w2 ⟨rfl,hb2⟩;rw [HA.out];have HB2:=Lib.hid hb2;clear hb2);go_roundw
      all_goals first
       | (simp [intOf];omega)
       | exact ⟨i+1,A',c',xs,by omega,rfl,by go_num,(show Below _ _ _ from hbl.out.trans (HB2.out.mono hzr)),(show _=_ by rw [SN.out,linkB_no (.inl HA.out),List.append_nil]),(show Own _ _ _ _ _ _ _ _ _ from hO.out.below HB2.out (Nat.le_refl _)),by omega⟩
    | false=>
      have HA:=Lib.hid hA;clear hA
      cases hB:hasPl mv x.b with
      | true=>
        have HB:=Lib.hid hB;clear hB
        go_wp2_with (first
         | (go_at_call_of 65 (x.a.pit);(with_reducible refine (rHas_any M mn mc mv x.a wo (HMW.out _ (Below.refl _ _))).mono ?_);rintro e w2 ⟨rfl,hb2⟩;rw [HA.out];have HB2:=Lib.hid hb2;have hz2:=hb2.size;have hbw2:b<w2.heap.size:=(by omega);obtain ⟨d0,d1,d2,d3,d4⟩:=CE.out w2 HB2.out;clear hb2 c0 c1 c2 c3 c4)
         | (go_at_call 65;(with_reducible refine (rHas_any M mn mc mv x.b w2 (HMW.out _ HB2.out)).mono ?_);rintro e w3 ⟨rfl,hb3⟩;rw [HB.out];have HB3:=Lib.hid (HB2.out.trans (hb3.mono HB2.out.size));clear hb3))
        go_roundw
        all_goals first
         | (simp [intOf];omega)
         | exact ⟨i+1,A',c',xs,by omega,rfl,by go_num,(show Below _ _ _ from hbl.out.trans (HB3.out.mono hzr)),(show _=_ by rw [SN.out,linkB_no (.inr HB.out),List.append_nil]),(show Own _ _ _ _ _ _ _ _ _ from hO.out.below HB3.out (Nat.le_refl _)),by omega⟩
      | false=>
        have HB:=Lib.hid hB;clear hB
        go_upto_region 6 with (first
         | (go_at_call_of 65 (x.a.pit);(with_reducible refine (rHas_any M mn mc mv x.a wo (HMW.out _ (Below.refl _ _))).mono ?_);rintro e w2 ⟨rfl,hb2⟩;rw [HA.out];have HB2:=Lib.hid hb2;have hz2:=hb2.size;have hbw2:b<w2.heap.size:=(by omega);obtain ⟨d0,d1,d2,d3,d4⟩:=CE.out w2 HB2.out;clear hb2 c0 c1 c2 c3 c4)
         | (go_at_call 65;(with_reducible refine (rHas_any M mn mc mv x.b w2 (HMW.out _ HB2.out)).mono ?_);rintro e w3 ⟨rfl,hb3⟩;rw [HB.out];have HB3:=Lib.hid (HB2.out.trans (hb3.mono HB2.out.size));have hz3:=HB3.out.size;have hbw3:b<w3.heap.size:=(by omega);obtain ⟨e0,e1,e2,e3,e4⟩:=CE.out w3 HB3.out;clear hb3 d0 d1 d2 d3 d4))
        have hO3:=hO.out.below HB3.out (Nat.le_refl _);have HO3:=Lib.hid hO3
        have hbB:b<w.heap.size:=(by obtain ⟨b',o',e',hb',_⟩:=HBD.out.at_ (show 0<m by omega);cases e';exact hb')
        have hne:some b≠blockOf A':=fun e=>(by have:=hO3.ltB b e.symm;omega)
        refine told6 _ rfl b off m d A' xs.length c' i x w.heap.size xs _ w3 _ rfl rfl rfl rfl hlt hsm (fun W hg=>⟨(grown_cell hg hbw3 hne).trans e0,(grown_cell hg hbw3 hne).trans e1,(grown_cell hg hbw3 hne).trans e2,(grown_cell hg hbw3 hne).trans e3,(grown_cell hg hbw3 hne).trans e4⟩) hO3 (by omega) (by omega) ?_;intro A6 c6 w6 hO6 hg6;have HB6:=Lib.hid ((hbl.out.trans (HB3.out.mono hzr)).grown hg6 (by omega) (fun j e=>HO3.out.ltB j e));have HO6:=Lib.hid hO6;clear hO6 hg6 hO3 hne e0 e1 e2 e3 e4;simp only [List.setIfInBounds_toArray,List.set_cons_succ,List.set_cons_zero];go_wp2;go_roundw
        all_goals first
         | (simp [intOf];omega)
         | exact ⟨i+1,A6,c6,xs ++ [⟨x.a,x.b,0,x.by_⟩,⟨x.b,x.a,0,x.by_⟩],by omega,by simp,by go_num,HB6.out,(show _=_ by rw [SN.out,linkB_yes HA.out HB.out]),(show Own _ _ _ _ _ _ _ _ _ by rw [List.length_append];exact HO6.out),by simp;omega⟩
  · have hin:i=m:=by omega
    subst hin;have h1:=hxs.out;rw [List.take_of_length_le (by rw [hnl.out];exact Nat.le_refl _)] at h1;have H1:=Lib.hid h1;clear h1 hxs;go_wp2;go_ret;exact ⟨A',c',by rw [H1.out];rfl,(show Own _ _ _ _ _ _ _ _ _ by rw [H1.out];exact hO.out),hbl.out⟩
def codelnk5:Option Code→Code
 | some (.seq _ (.seq _ (.seq (.seq _ (.block _ (.loop (.seq _ (.seq (.block _ (.seq c _)) _))))) _)))=>c
 | _=> .skip
def vallnk5 (bq off n c i:Nat) (x:Trace) (nw:Nat):Nat→Value
 | 0=> .slice (some ⟨bq,off,none⟩) n c
 | 1=> .int .i64 i
 | 2=> .pointer (some ⟨bq,off+i * 10,none⟩)
 | 3=> .pointer (some ⟨bq,off+i * 10+3,none⟩)
 | 4=> .int .i64 x.pit
 | 5=> .slice (some ⟨bq,off,none⟩) n c
 | 6=> .int .i64 i
 | 7=> .pointer (some ⟨bq,off+i * 10,none⟩)
 | 8=> .pointer (some ⟨bq,off+i * 10+4,none⟩)
 | 9=> .int .i64 x.layer
 | 10=> .agg #[.int .i64 x.pit,.int .i64 x.layer]
 | 11=> .pointer (some ⟨nw,0,none⟩)
 | 12=>undef
 | _=>undef
theorem lnk5 (cC:Code) (hc:cC=codelnk5 Tryz.f87.body) (bq off n c i:Nat) (x:Trace) (a:Act) (w:World) (Q:Exit→Act→World→Prop)
 (hT:a.tmps.size=93) (t0:a.tmps.getD 0 undef = .slice (some ⟨bq,off,none⟩) n c) (t8:a.tmps.getD 8 undef = .int .i64 i)
 (hin:i<n) (_:n≤100000) (CE:∀ W,Below w.heap.size w W→W.cell? ⟨bq,off+i * 10+3,none⟩=some (.int .i64 x.pit)∧W.cell? ⟨bq,off+i * 10+4,none⟩=some (.int .i64 x.layer))
 (hQ:∀ w8,Below w.heap.size w w8→w8.heap.size=w.heap.size+1→w8.heap[w.heap.size]? = some (.cells #[.int .i64 x.pit,.int .i64 x.layer] 37 (0,0))→Q .normal { tmps:=((((((((((((a.tmps.setIfInBounds 16 (.slice (some ⟨bq,off,none⟩) n c)).setIfInBounds 17 (.int .i64 i)).setIfInBounds 18 (.pointer (some ⟨bq,off+i * 10,none⟩))).setIfInBounds 19 (.pointer (some ⟨bq,off+i * 10+3,none⟩))).setIfInBounds 20 (.int .i64 x.pit)).setIfInBounds 21 (.slice (some ⟨bq,off,none⟩) n c)).setIfInBounds 22 (.int .i64 i)).setIfInBounds 23 (.pointer (some ⟨bq,off+i * 10,none⟩))).setIfInBounds 24 (.pointer (some ⟨bq,off+i * 10+4,none⟩))).setIfInBounds 25 (.int .i64 x.layer)).setIfInBounds 26 (.agg #[.int .i64 x.pit,.int .i64 x.layer])).setIfInBounds 9 (.pointer (some ⟨w.heap.size,0,none⟩))),defers:=a.defers } w8):
 cC.wp Tryz.prog Q a w:=by
 subst hc;unfold codelnk5 Tryz.f87;dsimp only
 obtain ⟨nw,hnw⟩:∃ nw,w.heap.size=nw:=⟨_,rfl⟩
 have hn1:w.drew.heap.size=nw:=hnw
 obtain ⟨wb,hwb⟩:∃ wb,wb=w.drew.alloc (.cells #[.int .i64 0,.int .i64 0] 37):=⟨_,rfl⟩
 obtain ⟨wc,hwc⟩:∃ wc,wc=((wb.setCell ⟨nw,0,none⟩ (.int .i64 x.pit)).setCell ⟨nw,1,none⟩ (.int .i64 x.layer)):=⟨_,rfl⟩
 have ga:Below w.heap.size w w.drew:=(Below.refl _ _).drew
 have gb:Below w.heap.size w wb:=(by rw [hwb];exact ga.alloc (Nat.le_refl _) _)
 have gc:Below w.heap.size w wc:=(by rw [hwc];exact ((gb.setCell (p:=⟨nw,0,none⟩) (show w.heap.size≤nw from Nat.le_of_eq hnw) _).setCell (p:=⟨nw,1,none⟩) (show w.heap.size≤nw from Nat.le_of_eq hnw) _))
 have hh:wb.heap[nw]? = some (.cells #[.int .i64 0,.int .i64 0] 37 (0,0)):=(by rw [hwb,←hn1];exact heap_alloc_new _ _)
 have hh2:wc.heap[nw]? = some (.cells #[.int .i64 x.pit,.int .i64 x.layer] 37 (0,0)):=(by rw [hwc];exact (heap_setCell_obj (heap_setCell_obj (hh))).trans rfl)
 have hQ':=hQ wc gc (by rw [hwc,hwb];simp) (by rw [hnw];exact hh2);have pA:=CE _ ga;have pB:=CE _ gb;have pC:=CE _ gc
 have z0:wb.cell? ⟨nw,0,none⟩=some (.int .i64 0):=(by simp [World.cell?,hh])
 have z1:wb.cell? ⟨nw,1,none⟩=some (.int .i64 0):=(by simp [World.cell?,hh])
 have zf:∀ j,wb.frozen? ⟨nw,j,none⟩=false:=(fun j=>by simp [World.frozen?,hh])
 have zl:nw<wb.heap.size:=(Array.getElem?_eq_some_iff.1 hh).1;have y0:=zf 0;have y1:=zf 1;rw [hnw] at hQ';clear hQ CE hh hh2 ga gb gc zf
 obtain ⟨Wf,hWf⟩:∃ Wf:Array Bool→World,∀ L,Wf L=if L.getD 12 false=true then wc else if L.getD 11 false=true then wb else w.drew:=⟨_,fun _=>rfl⟩
 refine wpIn_wide.1 (wpIn_region_tab2 (nn:=5) (by kernel_rfl) (vallnk5 bq off n c i x nw) Wf (by rw [hT];kernel_rfl) ?_ ?_ ?_)
 · rw [hWf];rfl
 · intro listed io o b hi ho hb hlat
   obtain ⟨hun,oi,hoi,hall⟩:=mem_ready.1 hi;have:oi=o:=Option.some.inj (hoi.symm.trans ho);subst this;clear hoi hi hQ'
   have hlt:io<13:=(by have:=(Array.getElem?_eq_some_iff.1 ho).1;simpa using this)
   have q0:b.tmps[0]?.getD undef=_:=(by simpa using (hb.old 0 (dst_no hb (by kernel_rfl))).trans t0)
   have q8:b.tmps[8]?.getD undef=_:=(by simpa using (hb.old 8 (dst_no hb (by kernel_rfl))).trans t8)
   have hun':listed.getD io false=false:=getD_both hun;have hsame:io≠11→io≠12→Wf (listed.setIfInBounds io true)=Wf listed:=fun h1 h2=>by rw [hWf,hWf,getD_set_ne false h1,getD_set_ne false h2]
   have hpr:∃ W,Wf listed=W∧W.cell? ⟨bq,off+i * 10+3,none⟩=some (.int .i64 x.pit)∧W.cell? ⟨bq,off+i * 10+4,none⟩=some (.int .i64 x.layer):=⟨_,rfl,by rw [hWf];(repeat' split)<;>assumption⟩
   have E:∀ (j s:Nat) (v:Value),dstOf _ j=some s→vallnk5 bq off n c i x nw j=v→listed.getD j false=true→b.tmps[s]?.getD undef=v:=fun j s v h1 h2 h3=>by rw [←h2];simpa using hb.val j s h1 h3
   obtain ⟨W,hW,c3,c4⟩:=hpr;by_cases hp:io=11
   · subst hp
     simp only [List.getElem?_toArray,List.getElem?_cons_zero,List.getElem?_cons_succ] at ho;cases ho;have nl:=not_listed (hb.closed 12 _ rfl) ⟨11,.data⟩ (by simp) rfl hun'
     have h1:Wf listed=w.drew:=(by rw [hWf,nl,hun'];rfl)
     have h2:Wf (listed.setIfInBounds 11 true)=wb:=(by rw [hWf,getD_set_ne false (by decide),nl,getD_set_self hb.size (by simp)];rfl)
     refine .inl ?_;rw [h1,h2];clear h1 h2 hWf hsame E pA pB pC;subst hwb;subst hnw;go_simp
     try rfl
   by_cases hq:io=12
   · subst hq
     simp only [List.getElem?_toArray,List.getElem?_cons_zero,List.getElem?_cons_succ] at ho;cases ho;have e11:=E 11 9 (.pointer (some ⟨nw,0,none⟩)) rfl rfl (hall ⟨11,.data⟩ (by simp) rfl);have e10:=E 10 26 (.agg #[.int .i64 x.pit,.int .i64 x.layer]) rfl rfl (hall ⟨10,.data⟩ (by simp) rfl);have p1:=hall ⟨11,.data⟩ (by simp) rfl
     have h1:Wf listed=wb:=(by rw [hWf,hun',p1];rfl)
     have h2:Wf (listed.setIfInBounds 12 true)=wc:=(by rw [hWf,getD_set_self hb.size (by simp)];rfl)
     refine .inr ⟨?_,rfl⟩;rw [h1,h2];clear h1 h2 hWf hsame E pA pB pC hwb;subst hwc;go_simp
     try rfl
   rw [hsame hp hq,hW];refine .inl ?_;clear hsame hWf hW hwb hwc pA pB pC
   rcases (by omega:io=0∨io=1∨io=2∨io=3∨io=4∨io=5∨io=6∨io=7∨io=8∨io=9∨io=10) with rfl|rfl|rfl|rfl|rfl|rfl|rfl|rfl|rfl|rfl|rfl
   all_goals simp only [List.getElem?_toArray,List.getElem?_cons_zero,List.getElem?_cons_succ] at ho
   all_goals cases ho
   · clear E;go_simp;try rfl
   · clear E;go_simp;try rfl
   · (have e0:=E 0 16 (.slice (some ⟨bq,off,none⟩) n c) rfl rfl (hall ⟨0,.data⟩ (by simp) rfl));(have e1:=E 1 17 (.int .i64 i) rfl rfl (hall ⟨1,.data⟩ (by simp) rfl));clear E;go_simp;try rfl
   · (have e2:=E 2 18 (.pointer (some ⟨bq,off+i * 10,none⟩)) rfl rfl (hall ⟨2,.data⟩ (by simp) rfl));clear E;go_simp;try rfl
   · (have e3:=E 3 19 (.pointer (some ⟨bq,off+i * 10+3,none⟩)) rfl rfl (hall ⟨3,.data⟩ (by simp) rfl));clear E;go_simp;try rfl
   · clear E;go_simp;try rfl
   · clear E;go_simp;try rfl
   · (have e5:=E 5 21 (.slice (some ⟨bq,off,none⟩) n c) rfl rfl (hall ⟨5,.data⟩ (by simp) rfl));(have e6:=E 6 22 (.int .i64 i) rfl rfl (hall ⟨6,.data⟩ (by simp) rfl));clear E;go_simp;try rfl
   · (have e7:=E 7 23 (.pointer (some ⟨bq,off+i * 10,none⟩)) rfl rfl (hall ⟨7,.data⟩ (by simp) rfl));clear E;go_simp;try rfl
   · (have e8:=E 8 24 (.pointer (some ⟨bq,off+i * 10+4,none⟩)) rfl rfl (hall ⟨8,.data⟩ (by simp) rfl));clear E;go_simp;try rfl
   · (have e4:=E 4 20 (.int .i64 x.pit) rfl rfl (hall ⟨4,.data⟩ (by simp) rfl));(have e9:=E 9 25 (.int .i64 x.layer) rfl rfl (hall ⟨9,.data⟩ (by simp) rfl));clear E;go_simp;try rfl
 · intro b hb
   have hact:=hb.act (m:=93) (by kernel_rfl) hT.symm
   have hW:Wf (Array.replicate 13 true)=wc:=(by rw [hWf];rfl)
   refine (?_:Q .normal b (Wf (Array.replicate 13 true)));rw [hW,hact];exact hQ'
def codelnk7:Option Code→Code
 | some (.seq _ (.seq _ (.seq (.seq _ (.block _ (.loop (.seq _ (.seq (.block _ (.seq _ (.seq (.seq _ (.cond _ c _)) _))) _))))) _)))=>c
 | _=> .skip
def vallnk7 (bq off n c _:Nat) (Ad:Option Addr) (nd cd i:Nat) (x:Trace) (nw:Nat) (A':Option Addr) (c':Nat):Nat→Value
 | 0=> .slice Ad nd cd
 | 1=> .agg #[.int .i64 x.pit,.int .i64 x.layer]
 | 2=> .slice (some ⟨bq,off,none⟩) n c
 | 3=> .int .i64 i
 | 4=> .pointer (some ⟨bq,off+i * 10,none⟩)
 | 5=> .pointer (some ⟨bq,off+i * 10+3,none⟩)
 | 6=> .int .i64 x.pit
 | 7=> .slice (some ⟨bq,off,none⟩) n c
 | 8=> .int .i64 i
 | 9=> .pointer (some ⟨bq,off+i * 10,none⟩)
 | 10=> .pointer (some ⟨bq,off+i * 10+5,none⟩)
 | 11=> .int .i64 x.lower
 | 12=> .agg #[.int .i64 x.pit,.int .i64 x.lower]
 | 13=> .slice (some ⟨bq,off,none⟩) n c
 | 14=> .int .i64 i
 | 15=> .pointer (some ⟨bq,off+i * 10,none⟩)
 | 16=> .pointer (some ⟨bq,off+i * 10,none⟩)
 | 17=> .int .i64 x.id
 | 18=> .agg #[.int .i64 x.pit,.int .i64 x.layer,.int .i64 x.pit,.int .i64 x.lower,.int .i64 ((-1)),.int .i64 x.id]
 | 19=> .slice (some ⟨nw,0,none⟩) 1 1
 | 20=> .slice (A') (nd+1) c'
 | 21=> .slice (A') (nd+1) c'
 | _=>undef
theorem lnk7 (cC:Code) (hc:cC=codelnk7 Tryz.f87.body) (bq off n c pb:Nat) (Ad:Option Addr) (nd cd i:Nat) (x:Trace) (B:Nat) (xs:List Link) (a:Act) (w:World) (Q:Exit→Act→World→Prop)
 (hT:a.tmps.size=93) (t0:a.tmps.getD 0 undef = .slice (some ⟨bq,off,none⟩) n c) (t7:a.tmps.getD 7 undef = .slice Ad nd cd) (t8:a.tmps.getD 8 undef = .int .i64 i) (t9:a.tmps.getD 9 undef = .pointer (some ⟨pb,0,none⟩))
 (hin:i<n) (_:n≤100000) (CE:∀ W,w.grownBy W (blockOf Ad)→W.cell? ⟨pb,0,none⟩=some (.int .i64 x.pit)∧W.cell? ⟨pb,1,none⟩=some (.int .i64 x.layer)∧W.cell? ⟨bq,off+i * 10,none⟩=some (.int .i64 x.id)∧W.cell? ⟨bq,off+i * 10+3,none⟩=some (.int .i64 x.pit)∧W.cell? ⟨bq,off+i * 10+5,none⟩=some (.int .i64 x.lower))
 (hown:Own encLink 6 74 B w Ad nd cd xs) (hB:B≤w.heap.size) (hn:nd≤1000000)
 (hQ:∀ A' c' w8,Own encLink 6 74 B w8 A' (nd+1) c' (xs ++ [⟨⟨x.pit,x.layer⟩,⟨x.pit,x.lower⟩,-1,x.id⟩])→w.grownBy w8 (blockOf Ad)→Q .normal { tmps:=((((((((((((((((((((((a.tmps.setIfInBounds 33 (.slice Ad nd cd)).setIfInBounds 34 (.agg #[.int .i64 x.pit,.int .i64 x.layer])).setIfInBounds 35 (.slice (some ⟨bq,off,none⟩) n c)).setIfInBounds 36 (.int .i64 i)).setIfInBounds 37 (.pointer (some ⟨bq,off+i * 10,none⟩))).setIfInBounds 38 (.pointer (some ⟨bq,off+i * 10+3,none⟩))).setIfInBounds 39 (.int .i64 x.pit)).setIfInBounds 40 (.slice (some ⟨bq,off,none⟩) n c)).setIfInBounds 41 (.int .i64 i)).setIfInBounds 42 (.pointer (some ⟨bq,off+i * 10,none⟩))).setIfInBounds 43 (.pointer (some ⟨bq,off+i * 10+5,none⟩))).setIfInBounds 44 (.int .i64 x.lower)).setIfInBounds 45 (.agg #[.int .i64 x.pit,.int .i64 x.lower])).setIfInBounds 46 (.slice (some ⟨bq,off,none⟩) n c)).setIfInBounds 47 (.int .i64 i)).setIfInBounds 48 (.pointer (some ⟨bq,off+i * 10,none⟩))).setIfInBounds 49 (.pointer (some ⟨bq,off+i * 10,none⟩))).setIfInBounds 50 (.int .i64 x.id)).setIfInBounds 51 (.agg #[.int .i64 x.pit,.int .i64 x.layer,.int .i64 x.pit,.int .i64 x.lower,.int .i64 ((-1)),.int .i64 x.id])).setIfInBounds 52 (.slice (some ⟨w.heap.size,0,none⟩) 1 1)).setIfInBounds 53 (.slice (A') (nd+1) c')).setIfInBounds 7 (.slice (A') (nd+1) c')),defers:=a.defers } w8):
 cC.wp Tryz.prog Q a w:=by
 subst hc;unfold codelnk7 Tryz.f87;dsimp only
 obtain ⟨nw,hnw⟩:∃ nw,w.heap.size=nw:=⟨_,rfl⟩
 obtain ⟨wb,hwb⟩:∃ wb,wb=w.drew.alloc (.cells #[.int .i64 x.pit,.int .i64 x.layer,.int .i64 x.pit,.int .i64 x.lower,.int .i64 ((-1)),.int .i64 x.id] 74):=⟨_,rfl⟩
 have hga:w.grownBy w.drew (blockOf Ad):=grown_drew w _
 have hgb:w.grownBy wb (blockOf Ad):=(by rw [hwb];exact grown_alloc hga _)
 have hrd:Rd encLink 6 wb (some ⟨nw,0,none⟩) 1 1 [⟨⟨x.pit,x.layer⟩,⟨x.pit,x.lower⟩,-1,x.id⟩]:=(by
  have:=Rd.single (enc:=encLink) (k:=6) w.drew #[.int .i64 x.pit,.int .i64 x.layer,.int .i64 x.pit,.int .i64 x.lower,.int .i64 ((-1)),.int .i64 x.id] 74 [⟨⟨x.pit,x.layer⟩,⟨x.pit,x.lower⟩,-1,x.id⟩] 1 rfl (by omega) (fun _=>rfl) (by simp [encLink])
  rw [hwb,←hnw];exact this)
 obtain ⟨A',c',wc,hrun,hO,hg,_⟩:=run_append_src elLink 43 (fun _=>rfl) oneLink (show Own encLink 6 74 B wb Ad nd cd xs by rw [hwb];exact hown.drew.alloc _) (some ⟨nw,0,none⟩) 1 1 [⟨⟨x.pit,x.layer⟩,⟨x.pit,x.lower⟩,-1,x.id⟩] hrd (by omega) (by omega) (by have:=hgb.size;omega);have hgc:=grown_trans hgb hg;have hQ':=hQ A' c' wc hO hgc;have pA:=CE _ hga;have pB:=CE _ hgb;have pC:=CE _ hgc;rw [hnw] at hQ';clear hQ CE hO hg hrd hown hga hgb hgc
 obtain ⟨Wf,hWf⟩:∃ Wf:Array Bool→World,∀ L,Wf L=if L.getD 20 false=true then wc else if L.getD 19 false=true then wb else w.drew:=⟨_,fun _=>rfl⟩
 refine wpIn_wide.1 (wpIn_region_tab2 (nn:=5) (by kernel_rfl) (vallnk7 bq off n c pb Ad nd cd i x nw A' c') Wf (by rw [hT];kernel_rfl) ?_ ?_ ?_)
 · rw [hWf];rfl
 · intro listed io o b hi ho hb hlat
   obtain ⟨hun,oi,hoi,hall⟩:=mem_ready.1 hi;have:oi=o:=Option.some.inj (hoi.symm.trans ho);subst this;clear hoi hi hQ'
   have hlt:io<22:=(by have:=(Array.getElem?_eq_some_iff.1 ho).1;simpa using this)
   have q0:b.tmps[0]?.getD undef=_:=(by simpa using (hb.old 0 (dst_no hb (by kernel_rfl))).trans t0)
   have q7:listed.getD 21 false=false→b.tmps[7]?.getD undef=_:=fun h=>(by simpa using (hlat 21 7 rfl h).trans t7)
   have q8:b.tmps[8]?.getD undef=_:=(by simpa using (hb.old 8 (dst_no hb (by kernel_rfl))).trans t8)
   have q9:b.tmps[9]?.getD undef=_:=(by simpa using (hb.old 9 (dst_no hb (by kernel_rfl))).trans t9)
   have hun':listed.getD io false=false:=getD_both hun;have hsame:io≠19→io≠20→Wf (listed.setIfInBounds io true)=Wf listed:=fun h1 h2=>by rw [hWf,hWf,getD_set_ne false h1,getD_set_ne false h2]
   have hpr:∃ W,Wf listed=W∧W.cell? ⟨pb,0,none⟩=some (.int .i64 x.pit)∧W.cell? ⟨pb,1,none⟩=some (.int .i64 x.layer)∧W.cell? ⟨bq,off+i * 10,none⟩=some (.int .i64 x.id)∧W.cell? ⟨bq,off+i * 10+3,none⟩=some (.int .i64 x.pit)∧W.cell? ⟨bq,off+i * 10+5,none⟩=some (.int .i64 x.lower):=⟨_,rfl,by rw [hWf];(repeat' split)<;>assumption⟩
   have E:∀ (j s:Nat) (v:Value),dstOf _ j=some s→vallnk7 bq off n c pb Ad nd cd i x nw A' c' j=v→listed.getD j false=true→b.tmps[s]?.getD undef=v:=fun j s v h1 h2 h3=>by rw [←h2];simpa using hb.val j s h1 h3
   obtain ⟨W,hW,p0,p1,c0,c3,c5⟩:=hpr;by_cases hp:io=19
   · subst hp
     simp only [List.getElem?_toArray,List.getElem?_cons_zero,List.getElem?_cons_succ] at ho;cases ho;have e18:=E 18 51 (.agg #[.int .i64 x.pit,.int .i64 x.layer,.int .i64 x.pit,.int .i64 x.lower,.int .i64 ((-1)),.int .i64 x.id]) rfl rfl (hall ⟨18,.data⟩ (by simp) rfl);have nl:=not_listed (hb.closed 20 _ rfl) ⟨19,.data⟩ (by simp) rfl hun'
     have h1:Wf listed=w.drew:=(by rw [hWf,nl,hun'];rfl)
     have h2:Wf (listed.setIfInBounds 19 true)=wb:=(by rw [hWf,getD_set_ne false (by decide),nl,getD_set_self hb.size (by simp)];rfl)
     refine .inl ?_;rw [h1,h2];clear h1 h2 hWf hsame E pA pB pC hrun;subst hwb;subst hnw;go_simp
     try rfl
   by_cases hq:io=20
   · subst hq
     simp only [List.getElem?_toArray,List.getElem?_cons_zero,List.getElem?_cons_succ] at ho;cases ho;have e0:=E 0 33 (.slice Ad nd cd) rfl rfl (hall ⟨0,.data⟩ (by simp) rfl);have e19:=E 19 52 (.slice (some ⟨nw,0,none⟩) 1 1) rfl rfl (hall ⟨19,.data⟩ (by simp) rfl);have p1:=hall ⟨19,.data⟩ (by simp) rfl
     have h1:Wf listed=wb:=(by rw [hWf,hun',p1];rfl)
     have h2:Wf (listed.setIfInBounds 20 true)=wc:=(by rw [hWf,getD_set_self hb.size (by simp)];rfl)
     refine .inl ?_;rw [h1,h2]
     have f0:b.eval (.tmp 33) = .slice Ad nd cd:=(by simpa [Act.eval,vallnk7] using e0)
     have f1:b.eval (.tmp 52) = .slice (some ⟨nw,0,none⟩) 1 1:=(by simpa [Act.eval,vallnk7] using e19)
     simp only [execOp,resolve,invoke,builtin,Sem.run_bind,Sem.run_pure,Result.andThen_ok,List.map_toArray,List.map_cons,List.map_nil,f0,f1,hrun]
     rfl
   rw [hsame hp hq,hW];refine .inl ?_;clear hsame hWf hW hwb pA pB pC hrun
   rcases (by omega:io=0∨io=1∨io=2∨io=3∨io=4∨io=5∨io=6∨io=7∨io=8∨io=9∨io=10∨io=11∨io=12∨io=13∨io=14∨io=15∨io=16∨io=17∨io=18∨io=21) with rfl|rfl|rfl|rfl|rfl|rfl|rfl|rfl|rfl|rfl|rfl|rfl|rfl|rfl|rfl|rfl|rfl|rfl|rfl|rfl
   all_goals simp only [List.getElem?_toArray,List.getElem?_cons_zero,List.getElem?_cons_succ] at ho
   all_goals cases ho
   · (have q7':=q7 (not_listed (hb.closed 21 _ rfl) ⟨0,.phase⟩ (by simp) rfl hun'));clear E;go_simp;try rfl
   · clear E;go_simp;try rfl
   · clear E;go_simp;try rfl
   · clear E;go_simp;try rfl
   · (have e2:=E 2 35 (.slice (some ⟨bq,off,none⟩) n c) rfl rfl (hall ⟨2,.data⟩ (by simp) rfl));(have e3:=E 3 36 (.int .i64 i) rfl rfl (hall ⟨3,.data⟩ (by simp) rfl));clear E;go_simp;try rfl
   · (have e4:=E 4 37 (.pointer (some ⟨bq,off+i * 10,none⟩)) rfl rfl (hall ⟨4,.data⟩ (by simp) rfl));clear E;go_simp;try rfl
   · (have e5:=E 5 38 (.pointer (some ⟨bq,off+i * 10+3,none⟩)) rfl rfl (hall ⟨5,.data⟩ (by simp) rfl));clear E;go_simp;try rfl
   · clear E;go_simp;try rfl
   · clear E;go_simp;try rfl
   · (have e7:=E 7 40 (.slice (some ⟨bq,off,none⟩) n c) rfl rfl (hall ⟨7,.data⟩ (by simp) rfl));(have e8:=E 8 41 (.int .i64 i) rfl rfl (hall ⟨8,.data⟩ (by simp) rfl));clear E;go_simp;try rfl
   · (have e9:=E 9 42 (.pointer (some ⟨bq,off+i * 10,none⟩)) rfl rfl (hall ⟨9,.data⟩ (by simp) rfl));clear E;go_simp;try rfl
   · (have e10:=E 10 43 (.pointer (some ⟨bq,off+i * 10+5,none⟩)) rfl rfl (hall ⟨10,.data⟩ (by simp) rfl));clear E;go_simp;try rfl
   · (have e6:=E 6 39 (.int .i64 x.pit) rfl rfl (hall ⟨6,.data⟩ (by simp) rfl));(have e11:=E 11 44 (.int .i64 x.lower) rfl rfl (hall ⟨11,.data⟩ (by simp) rfl));clear E;go_simp;try rfl
   · clear E;go_simp;try rfl
   · clear E;go_simp;try rfl
   · (have e13:=E 13 46 (.slice (some ⟨bq,off,none⟩) n c) rfl rfl (hall ⟨13,.data⟩ (by simp) rfl));(have e14:=E 14 47 (.int .i64 i) rfl rfl (hall ⟨14,.data⟩ (by simp) rfl));clear E;go_simp;try rfl
   · (have e15:=E 15 48 (.pointer (some ⟨bq,off+i * 10,none⟩)) rfl rfl (hall ⟨15,.data⟩ (by simp) rfl));clear E;go_simp;try rfl
   · (have e16:=E 16 49 (.pointer (some ⟨bq,off+i * 10,none⟩)) rfl rfl (hall ⟨16,.data⟩ (by simp) rfl));clear E;go_simp;try rfl
   · (have e1:=E 1 34 (.agg #[.int .i64 x.pit,.int .i64 x.layer]) rfl rfl (hall ⟨1,.data⟩ (by simp) rfl));(have e12:=E 12 45 (.agg #[.int .i64 x.pit,.int .i64 x.lower]) rfl rfl (hall ⟨12,.data⟩ (by simp) rfl));(have e17:=E 17 50 (.int .i64 x.id) rfl rfl (hall ⟨17,.data⟩ (by simp) rfl));clear E;go_simp;try rfl
   · (have e20:=E 20 53 (.slice (A') (nd+1) c') rfl rfl (hall ⟨20,.data⟩ (by simp) rfl));clear E;go_simp;try rfl
 · intro b hb
   have hact:=hb.act (m:=93) (by kernel_rfl) hT.symm
   have hW:Wf (Array.replicate 22 true)=wc:=(by rw [hWf];rfl)
   refine (?_:Q .normal b (Wf (Array.replicate 22 true)));rw [hW,hact];exact hQ'
def codelnk9:Option Code→Code
 | some (.seq _ (.seq _ (.seq (.seq _ (.block _ (.loop (.seq _ (.seq (.block _ (.seq _ (.seq _ (.seq _ (.cond _ c _))))) _))))) _)))=>c
 | _=> .skip
def vallnk9 (bq off n c _:Nat) (Ad:Option Addr) (nd cd i:Nat) (x:Trace) (nw:Nat) (A':Option Addr) (c':Nat):Nat→Value
 | 0=> .slice Ad nd cd
 | 1=> .agg #[.int .i64 x.pit,.int .i64 x.layer]
 | 2=> .slice (some ⟨bq,off,none⟩) n c
 | 3=> .int .i64 i
 | 4=> .pointer (some ⟨bq,off+i * 10,none⟩)
 | 5=> .pointer (some ⟨bq,off+i * 10+7,none⟩)
 | 6=> .int .i64 x.high
 | 7=> .slice (some ⟨bq,off,none⟩) n c
 | 8=> .int .i64 i
 | 9=> .pointer (some ⟨bq,off+i * 10,none⟩)
 | 10=> .pointer (some ⟨bq,off+i * 10,none⟩)
 | 11=> .int .i64 x.id
 | 12=> .agg #[.int .i64 0,.int .i64 0,.int .i64 x.pit,.int .i64 x.layer,.int .i64 x.high,.int .i64 x.id]
 | 13=> .agg #[.int .i64 x.pit,.int .i64 x.layer]
 | 14=> .slice (some ⟨bq,off,none⟩) n c
 | 15=> .int .i64 i
 | 16=> .pointer (some ⟨bq,off+i * 10,none⟩)
 | 17=> .pointer (some ⟨bq,off+i * 10+6,none⟩)
 | 18=> .int .i64 x.low
 | 19=> .int .i64 (-x.low)
 | 20=> .slice (some ⟨bq,off,none⟩) n c
 | 21=> .int .i64 i
 | 22=> .pointer (some ⟨bq,off+i * 10,none⟩)
 | 23=> .pointer (some ⟨bq,off+i * 10,none⟩)
 | 24=> .int .i64 x.id
 | 25=> .agg #[.int .i64 x.pit,.int .i64 x.layer,.int .i64 0,.int .i64 0,.int .i64 (-x.low),.int .i64 x.id]
 | 26=> .slice (some ⟨nw,0,none⟩) 2 2
 | 27=> .slice (A') (nd+2) c'
 | 28=> .slice (A') (nd+2) c'
 | _=>undef
theorem lnk9 (cC:Code) (hc:cC=codelnk9 Tryz.f87.body) (bq off n c pb:Nat) (Ad:Option Addr) (nd cd i:Nat) (x:Trace) (B:Nat) (xs:List Link) (a:Act) (w:World) (Q:Exit→Act→World→Prop)
 (hT:a.tmps.size=93) (t0:a.tmps.getD 0 undef = .slice (some ⟨bq,off,none⟩) n c) (t7:a.tmps.getD 7 undef = .slice Ad nd cd) (t8:a.tmps.getD 8 undef = .int .i64 i) (t9:a.tmps.getD 9 undef = .pointer (some ⟨pb,0,none⟩))
 (hin:i<n) (_:n≤100000) (hneg:IntKind.i64.wrap (-x.low) = -x.low) (CE:∀ W,w.grownBy W (blockOf Ad)→W.cell? ⟨pb,0,none⟩=some (.int .i64 x.pit)∧W.cell? ⟨pb,1,none⟩=some (.int .i64 x.layer)∧W.cell? ⟨bq,off+i * 10,none⟩=some (.int .i64 x.id)∧W.cell? ⟨bq,off+i * 10+6,none⟩=some (.int .i64 x.low)∧W.cell? ⟨bq,off+i * 10+7,none⟩=some (.int .i64 x.high))
 (hown:Own encLink 6 74 B w Ad nd cd xs) (hB:B≤w.heap.size) (hn:nd≤1000000)
 (hQ:∀ A' c' w8,Own encLink 6 74 B w8 A' (nd+2) c' (xs ++ [⟨⟨0,0⟩,⟨x.pit,x.layer⟩,x.high,x.id⟩,⟨⟨x.pit,x.layer⟩,⟨0,0⟩,-x.low,x.id⟩])→w.grownBy w8 (blockOf Ad)→Q .normal { tmps:=(((((((((((((((((((((((((((((a.tmps.setIfInBounds 60 (.slice Ad nd cd)).setIfInBounds 61 (.agg #[.int .i64 x.pit,.int .i64 x.layer])).setIfInBounds 62 (.slice (some ⟨bq,off,none⟩) n c)).setIfInBounds 63 (.int .i64 i)).setIfInBounds 64 (.pointer (some ⟨bq,off+i * 10,none⟩))).setIfInBounds 65 (.pointer (some ⟨bq,off+i * 10+7,none⟩))).setIfInBounds 66 (.int .i64 x.high)).setIfInBounds 67 (.slice (some ⟨bq,off,none⟩) n c)).setIfInBounds 68 (.int .i64 i)).setIfInBounds 69 (.pointer (some ⟨bq,off+i * 10,none⟩))).setIfInBounds 70 (.pointer (some ⟨bq,off+i * 10,none⟩))).setIfInBounds 71 (.int .i64 x.id)).setIfInBounds 72 (.agg #[.int .i64 0,.int .i64 0,.int .i64 x.pit,.int .i64 x.layer,.int .i64 x.high,.int .i64 x.id])).setIfInBounds 73 (.agg #[.int .i64 x.pit,.int .i64 x.layer])).setIfInBounds 74 (.slice (some ⟨bq,off,none⟩) n c)).setIfInBounds 75 (.int .i64 i)).setIfInBounds 76 (.pointer (some ⟨bq,off+i * 10,none⟩))).setIfInBounds 77 (.pointer (some ⟨bq,off+i * 10+6,none⟩))).setIfInBounds 78 (.int .i64 x.low)).setIfInBounds 79 (.int .i64 (-x.low))).setIfInBounds 80 (.slice (some ⟨bq,off,none⟩) n c)).setIfInBounds 81 (.int .i64 i)).setIfInBounds 82 (.pointer (some ⟨bq,off+i * 10,none⟩))).setIfInBounds 83 (.pointer (some ⟨bq,off+i * 10,none⟩))).setIfInBounds 84 (.int .i64 x.id)).setIfInBounds 85 (.agg #[.int .i64 x.pit,.int .i64 x.layer,.int .i64 0,.int .i64 0,.int .i64 (-x.low),.int .i64 x.id])).setIfInBounds 86 (.slice (some ⟨w.heap.size,0,none⟩) 2 2)).setIfInBounds 87 (.slice (A') (nd+2) c')).setIfInBounds 7 (.slice (A') (nd+2) c')),defers:=a.defers } w8):
 cC.wp Tryz.prog Q a w:=by
 subst hc;unfold codelnk9 Tryz.f87;dsimp only
 obtain ⟨nw,hnw⟩:∃ nw,w.heap.size=nw:=⟨_,rfl⟩
 obtain ⟨wb,hwb⟩:∃ wb,wb=w.drew.alloc (.cells #[.int .i64 0,.int .i64 0,.int .i64 x.pit,.int .i64 x.layer,.int .i64 x.high,.int .i64 x.id,.int .i64 x.pit,.int .i64 x.layer,.int .i64 0,.int .i64 0,.int .i64 (-x.low),.int .i64 x.id] 74):=⟨_,rfl⟩
 have hga:w.grownBy w.drew (blockOf Ad):=grown_drew w _
 have hgb:w.grownBy wb (blockOf Ad):=(by rw [hwb];exact grown_alloc hga _)
 have hrd:Rd encLink 6 wb (some ⟨nw,0,none⟩) 2 2 [⟨⟨0,0⟩,⟨x.pit,x.layer⟩,x.high,x.id⟩,⟨⟨x.pit,x.layer⟩,⟨0,0⟩,-x.low,x.id⟩]:=(by
  have:=Rd.single (enc:=encLink) (k:=6) w.drew #[.int .i64 0,.int .i64 0,.int .i64 x.pit,.int .i64 x.layer,.int .i64 x.high,.int .i64 x.id,.int .i64 x.pit,.int .i64 x.layer,.int .i64 0,.int .i64 0,.int .i64 (-x.low),.int .i64 x.id] 74 [⟨⟨0,0⟩,⟨x.pit,x.layer⟩,x.high,x.id⟩,⟨⟨x.pit,x.layer⟩,⟨0,0⟩,-x.low,x.id⟩] 2 rfl (by omega) (fun _=>rfl) (by simp [encLink])
  rw [hwb,←hnw];exact this)
 obtain ⟨A',c',wc,hrun,hO,hg,_⟩:=run_append_src elLink 43 (fun _=>rfl) oneLink (show Own encLink 6 74 B wb Ad nd cd xs by rw [hwb];exact hown.drew.alloc _) (some ⟨nw,0,none⟩) 2 2 [⟨⟨0,0⟩,⟨x.pit,x.layer⟩,x.high,x.id⟩,⟨⟨x.pit,x.layer⟩,⟨0,0⟩,-x.low,x.id⟩] hrd (by omega) (by omega) (by have:=hgb.size;omega);have hgc:=grown_trans hgb hg;have hQ':=hQ A' c' wc hO hgc;have pA:=CE _ hga;have pB:=CE _ hgb;have pC:=CE _ hgc;rw [hnw] at hQ';clear hQ CE hO hg hrd hown hga hgb hgc
 obtain ⟨Wf,hWf⟩:∃ Wf:Array Bool→World,∀ L,Wf L=if L.getD 27 false=true then wc else if L.getD 26 false=true then wb else w.drew:=⟨_,fun _=>rfl⟩
 refine wpIn_wide.1 (wpIn_region_tab2 (nn:=5) (by kernel_rfl) (vallnk9 bq off n c pb Ad nd cd i x nw A' c') Wf (by rw [hT];kernel_rfl) ?_ ?_ ?_)
 · rw [hWf];rfl
 · intro listed io o b hi ho hb hlat
   obtain ⟨hun,oi,hoi,hall⟩:=mem_ready.1 hi;have:oi=o:=Option.some.inj (hoi.symm.trans ho);subst this;clear hoi hi hQ'
   have hlt:io<29:=(by have:=(Array.getElem?_eq_some_iff.1 ho).1;simpa using this)
   have q0:b.tmps[0]?.getD undef=_:=(by simpa using (hb.old 0 (dst_no hb (by kernel_rfl))).trans t0)
   have q7:listed.getD 28 false=false→b.tmps[7]?.getD undef=_:=fun h=>(by simpa using (hlat 28 7 rfl h).trans t7)
   have q8:b.tmps[8]?.getD undef=_:=(by simpa using (hb.old 8 (dst_no hb (by kernel_rfl))).trans t8)
   have q9:b.tmps[9]?.getD undef=_:=(by simpa using (hb.old 9 (dst_no hb (by kernel_rfl))).trans t9)
   have hun':listed.getD io false=false:=getD_both hun;have hsame:io≠26→io≠27→Wf (listed.setIfInBounds io true)=Wf listed:=fun h1 h2=>by rw [hWf,hWf,getD_set_ne false h1,getD_set_ne false h2]
   have hpr:∃ W,Wf listed=W∧W.cell? ⟨pb,0,none⟩=some (.int .i64 x.pit)∧W.cell? ⟨pb,1,none⟩=some (.int .i64 x.layer)∧W.cell? ⟨bq,off+i * 10,none⟩=some (.int .i64 x.id)∧W.cell? ⟨bq,off+i * 10+6,none⟩=some (.int .i64 x.low)∧W.cell? ⟨bq,off+i * 10+7,none⟩=some (.int .i64 x.high):=⟨_,rfl,by rw [hWf];(repeat' split)<;>assumption⟩
   have E:∀ (j s:Nat) (v:Value),dstOf _ j=some s→vallnk9 bq off n c pb Ad nd cd i x nw A' c' j=v→listed.getD j false=true→b.tmps[s]?.getD undef=v:=fun j s v h1 h2 h3=>by rw [←h2];simpa using hb.val j s h1 h3
   obtain ⟨W,hW,p0,p1,c0,c6,c7⟩:=hpr;by_cases hp:io=26
   · subst hp
     simp only [List.getElem?_toArray,List.getElem?_cons_zero,List.getElem?_cons_succ] at ho;cases ho;have e12:=E 12 72 (.agg #[.int .i64 0,.int .i64 0,.int .i64 x.pit,.int .i64 x.layer,.int .i64 x.high,.int .i64 x.id]) rfl rfl (hall ⟨12,.data⟩ (by simp) rfl);have e25:=E 25 85 (.agg #[.int .i64 x.pit,.int .i64 x.layer,.int .i64 0,.int .i64 0,.int .i64 (-x.low),.int .i64 x.id]) rfl rfl (hall ⟨25,.data⟩ (by simp) rfl);have nl:=not_listed (hb.closed 27 _ rfl) ⟨26,.data⟩ (by simp) rfl hun'
     have h1:Wf listed=w.drew:=(by rw [hWf,nl,hun'];rfl)
     have h2:Wf (listed.setIfInBounds 26 true)=wb:=(by rw [hWf,getD_set_ne false (by decide),nl,getD_set_self hb.size (by simp)];rfl)
     refine .inl ?_;rw [h1,h2];clear h1 h2 hWf hsame E pA pB pC hrun;subst hwb;subst hnw;go_simp
     try rfl
   by_cases hq:io=27
   · subst hq
     simp only [List.getElem?_toArray,List.getElem?_cons_zero,List.getElem?_cons_succ] at ho;cases ho;have e0:=E 0 60 (.slice Ad nd cd) rfl rfl (hall ⟨0,.data⟩ (by simp) rfl);have e26:=E 26 86 (.slice (some ⟨nw,0,none⟩) 2 2) rfl rfl (hall ⟨26,.data⟩ (by simp) rfl);have p1:=hall ⟨26,.data⟩ (by simp) rfl
     have h1:Wf listed=wb:=(by rw [hWf,hun',p1];rfl)
     have h2:Wf (listed.setIfInBounds 27 true)=wc:=(by rw [hWf,getD_set_self hb.size (by simp)];rfl)
     refine .inl ?_;rw [h1,h2]
     have f0:b.eval (.tmp 60) = .slice Ad nd cd:=(by simpa [Act.eval,vallnk9] using e0)
     have f1:b.eval (.tmp 86) = .slice (some ⟨nw,0,none⟩) 2 2:=(by simpa [Act.eval,vallnk9] using e26)
     simp only [execOp,resolve,invoke,builtin,Sem.run_bind,Sem.run_pure,Result.andThen_ok,List.map_toArray,List.map_cons,List.map_nil,f0,f1,hrun]
     rfl
   rw [hsame hp hq,hW];refine .inl ?_;clear hsame hWf hW hwb pA pB pC hrun
   rcases (by omega:io=0∨io=1∨io=2∨io=3∨io=4∨io=5∨io=6∨io=7∨io=8∨io=9∨io=10∨io=11∨io=12∨io=13∨io=14∨io=15∨io=16∨io=17∨io=18∨io=19∨io=20∨io=21∨io=22∨io=23∨io=24∨io=25∨io=28) with rfl|rfl|rfl|rfl|rfl|rfl|rfl|rfl|rfl|rfl|rfl|rfl|rfl|rfl|rfl|rfl|rfl|rfl|rfl|rfl|rfl|rfl|rfl|rfl|rfl|rfl|rfl
   all_goals simp only [List.getElem?_toArray,List.getElem?_cons_zero,List.getElem?_cons_succ] at ho
   all_goals cases ho
   · (have q7':=q7 (not_listed (hb.closed 28 _ rfl) ⟨0,.phase⟩ (by simp) rfl hun'));clear E;go_simp;try rfl
   · clear E;go_simp;try rfl
   · clear E;go_simp;try rfl
   · clear E;go_simp;try rfl
   · (have e2:=E 2 62 (.slice (some ⟨bq,off,none⟩) n c) rfl rfl (hall ⟨2,.data⟩ (by simp) rfl));(have e3:=E 3 63 (.int .i64 i) rfl rfl (hall ⟨3,.data⟩ (by simp) rfl));clear E;go_simp;try rfl
   · (have e4:=E 4 64 (.pointer (some ⟨bq,off+i * 10,none⟩)) rfl rfl (hall ⟨4,.data⟩ (by simp) rfl));clear E;go_simp;try rfl
   · (have e5:=E 5 65 (.pointer (some ⟨bq,off+i * 10+7,none⟩)) rfl rfl (hall ⟨5,.data⟩ (by simp) rfl));clear E;go_simp;try rfl
   · clear E;go_simp;try rfl
   · clear E;go_simp;try rfl
   · (have e7:=E 7 67 (.slice (some ⟨bq,off,none⟩) n c) rfl rfl (hall ⟨7,.data⟩ (by simp) rfl));(have e8:=E 8 68 (.int .i64 i) rfl rfl (hall ⟨8,.data⟩ (by simp) rfl));clear E;go_simp;try rfl
   · (have e9:=E 9 69 (.pointer (some ⟨bq,off+i * 10,none⟩)) rfl rfl (hall ⟨9,.data⟩ (by simp) rfl));clear E;go_simp;try rfl
   · (have e10:=E 10 70 (.pointer (some ⟨bq,off+i * 10,none⟩)) rfl rfl (hall ⟨10,.data⟩ (by simp) rfl));clear E;go_simp;try rfl
   · (have e1:=E 1 61 (.agg #[.int .i64 x.pit,.int .i64 x.layer]) rfl rfl (hall ⟨1,.data⟩ (by simp) rfl));(have e6:=E 6 66 (.int .i64 x.high) rfl rfl (hall ⟨6,.data⟩ (by simp) rfl));(have e11:=E 11 71 (.int .i64 x.id) rfl rfl (hall ⟨11,.data⟩ (by simp) rfl));clear E;go_simp;try rfl
   · clear E;go_simp;try rfl
   · clear E;go_simp;try rfl
   · clear E;go_simp;try rfl
   · (have e14:=E 14 74 (.slice (some ⟨bq,off,none⟩) n c) rfl rfl (hall ⟨14,.data⟩ (by simp) rfl));(have e15:=E 15 75 (.int .i64 i) rfl rfl (hall ⟨15,.data⟩ (by simp) rfl));clear E;go_simp;try rfl
   · (have e16:=E 16 76 (.pointer (some ⟨bq,off+i * 10,none⟩)) rfl rfl (hall ⟨16,.data⟩ (by simp) rfl));clear E;go_simp;try rfl
   · (have e17:=E 17 77 (.pointer (some ⟨bq,off+i * 10+6,none⟩)) rfl rfl (hall ⟨17,.data⟩ (by simp) rfl));clear E;go_simp;try rfl
   · (have e18:=E 18 78 (.int .i64 x.low) rfl rfl (hall ⟨18,.data⟩ (by simp) rfl));clear E;go_simp;try rfl
   · clear E;go_simp;try rfl
   · clear E;go_simp;try rfl
   · (have e20:=E 20 80 (.slice (some ⟨bq,off,none⟩) n c) rfl rfl (hall ⟨20,.data⟩ (by simp) rfl));(have e21:=E 21 81 (.int .i64 i) rfl rfl (hall ⟨21,.data⟩ (by simp) rfl));clear E;go_simp;try rfl
   · (have e22:=E 22 82 (.pointer (some ⟨bq,off+i * 10,none⟩)) rfl rfl (hall ⟨22,.data⟩ (by simp) rfl));clear E;go_simp;try rfl
   · (have e23:=E 23 83 (.pointer (some ⟨bq,off+i * 10,none⟩)) rfl rfl (hall ⟨23,.data⟩ (by simp) rfl));clear E;go_simp;try rfl
   · (have e13:=E 13 73 (.agg #[.int .i64 x.pit,.int .i64 x.layer]) rfl rfl (hall ⟨13,.data⟩ (by simp) rfl));(have e19:=E 19 79 (.int .i64 (-x.low)) rfl rfl (hall ⟨19,.data⟩ (by simp) rfl));(have e24:=E 24 84 (.int .i64 x.id) rfl rfl (hall ⟨24,.data⟩ (by simp) rfl));clear E;go_simp;try rfl
   · (have e27:=E 27 87 (.slice (A') (nd+2) c') rfl rfl (hall ⟨27,.data⟩ (by simp) rfl));clear E;go_simp;try rfl
 · intro b hb
   have hact:=hb.act (m:=93) (by kernel_rfl) hT.symm
   have hW:Wf (Array.replicate 29 true)=wc:=(by rw [hWf];rfl)
   refine (?_:Q .normal b (Wf (Array.replicate 29 true)));rw [hW,hact];exact hQ'
theorem linkT_above {x:Trace} (h:x.kind=1):linkT x = [⟨⟨x.pit,x.layer⟩,⟨x.pit,x.lower⟩,-1,x.id⟩]:=by unfold linkT;rw [if_pos h];rfl
theorem linkT_dated {x:Trace} (h:x.kind=2):linkT x = [⟨⟨0,0⟩,⟨x.pit,x.layer⟩,x.high,x.id⟩,⟨⟨x.pit,x.layer⟩,⟨0,0⟩,-x.low,x.id⟩]:=by unfold linkT;rw [if_neg (by omega),if_pos h];rfl
theorem linkT_none {x:Trace} (h1:x.kind≠1) (h2:x.kind≠2):linkT x = []:=by unfold linkT;rw [if_neg h1,if_neg h2]
theorem rlinks_any (A:Option Addr) (n c:Nat) (ts:List Trace) (B:Option Addr) (m d:Nat) (bs:List Bond) (M:Option Addr) (mn mc:Nat) (mv:List Place) (w:World) (hl:Rd encTrace 10 w A n c ts) (hb:Rd encBond 5 w B m d bs) (hm:Rd encPlace 2 w M mn mc mv) (hn:n≤100000) (hsm:m≤100000) (hok:∀ x∈ts,okLT x):
 Calls Tryz.prog 87 #[.slice A n c,.slice B m d,.slice M mn mc] w fun e w'=> ∃ A' c',e = .returned (.slice A' (linksL ts bs mv).length c')∧Own encLink 6 74 w.heap.size w' A' (linksL ts bs mv).length c' (linksL ts bs mv)∧Below w.heap.size w w':=by
 have hnl:=Lib.hid hl.len;have hml:=Lib.hid hb.len;have HL:=Lib.hid hl;have HOK:=Lib.hid hok;have HTO:=Lib.hid (fun W (h:Below w.heap.size w W)=>rtold_any B m d bs M mn mc mv W (hb.below h (Nat.le_refl _)) (hm.below h (Nat.le_refl _)) hsm)
 have htl:(bs.flatMap (linkB mv)).length≤2 * m:=by
  have h:∀ l:List Bond,(l.flatMap (linkB mv)).length≤2 * l.length:=fun l=>by
   induction l with
   | nil=>simp
   | cons y l ih=>
     rw [List.flatMap_cons,List.length_append,List.length_cons];have:(linkB mv y).length≤2:=by unfold linkB;split<;>simp
     omega
  have:=h bs;rw [hml.out] at this;exact this
 obtain ⟨tl,htE⟩:∃ tl,bs.flatMap (linkB mv)=tl:=⟨_,rfl⟩
 rw [htE] at HTO htl;have HTE:=Lib.hid htE;clear hl hb hm hok htE;go_enter Tryz.func87,Tryz.ntmps87;go_wp2;go_loopw [7,8] (fun s7 s8 wr=> ∃ (i:Nat) (A':Option Addr) (c':Nat) (xs:List Link),i≤n∧s7 = .slice A' xs.length c'∧s8 = .int .i64 i∧Hid (Below w.heap.size w wr)∧Hid ((ts.take i).flatMap linkT=xs)∧Hid (Own encLink 6 74 w.heap.size wr A' xs.length c' xs)∧xs.length≤2 * i) (fun _ s8 _=>n-(intOf s8).toNat)
 case atStart=>exact ⟨0,none,0,[],Nat.zero_le _,rfl,rfl,(show Below _ _ _ from Below.refl _ _),(show _=_ from rfl),(show Own _ _ _ _ _ _ _ _ _ from Own.none_ _ _ _ _ _),by simp⟩
 case round=>
  rename World=>wo;obtain ⟨i,A',c',xs,hi,rfl,rfl,hbl,hxs,hO,hxl⟩:=hrel;have hzr:=hbl.out.size;by_cases hlt:i<n
  · obtain ⟨b,off,x,rfl,hbw,hx,hcell⟩:=(HL.out.below hbl.out (Nat.le_refl _)).one hlt
    have c0:wo.cell? ⟨b,off+i * 10,none⟩=some (.int .i64 x.id):=hcell 0 _ rfl;have c1:wo.cell? ⟨b,off+i * 10+1,none⟩=some (.int .i64 x.known):=hcell 1 _ rfl;have c2:wo.cell? ⟨b,off+i * 10+2,none⟩=some (.int .u8 x.kind):=hcell 2 _ rfl;have c3:wo.cell? ⟨b,off+i * 10+3,none⟩=some (.int .i64 x.pit):=hcell 3 _ rfl;have c4:wo.cell? ⟨b,off+i * 10+4,none⟩=some (.int .i64 x.layer):=hcell 4 _ rfl;have c5:wo.cell? ⟨b,off+i * 10+5,none⟩=some (.int .i64 x.lower):=hcell 5 _ rfl;have c6:wo.cell? ⟨b,off+i * 10+6,none⟩=some (.int .i64 x.low):=hcell 6 _ rfl;have c7:wo.cell? ⟨b,off+i * 10+7,none⟩=some (.int .i64 x.high):=hcell 7 _ rfl;have c8:wo.cell? ⟨b,off+i * 10+8,none⟩=some (.int .i64 x.cost):=hcell 8 _ rfl;have c9:wo.cell? ⟨b,off+i * 10+9,none⟩=some (.int .i64 x.void):=hcell 9 _ rfl;have hokx:=HOK.out x (List.mem_of_getElem? hx);have HOX:=Lib.hid hokx
    have SN:Hid ((ts.take (i+1)).flatMap linkT=xs++linkT x):=(show _=_ by rw [flatMap_take _ hx,hxs.out])
    have CE:Hid (∀ W:World,W.heap[b]? = wo.heap[b]? → W.cell? ⟨b,off+i * 10,none⟩=some (.int .i64 x.id)∧W.cell? ⟨b,off+i * 10+2,none⟩=some (.int .u8 x.kind)∧W.cell? ⟨b,off+i * 10+3,none⟩=some (.int .i64 x.pit)∧W.cell? ⟨b,off+i * 10+4,none⟩=some (.int .i64 x.layer)∧W.cell? ⟨b,off+i * 10+5,none⟩=some (.int .i64 x.lower)∧W.cell? ⟨b,off+i * 10+6,none⟩=some (.int .i64 x.low)∧W.cell? ⟨b,off+i * 10+7,none⟩=some (.int .i64 x.high)):=(show ∀ W:World,W.heap[b]? = wo.heap[b]? → W.cell? ⟨b,off+i * 10,none⟩=some (.int .i64 x.id)∧W.cell? ⟨b,off+i * 10+2,none⟩=some (.int .u8 x.kind)∧W.cell? ⟨b,off+i * 10+3,none⟩=some (.int .i64 x.pit)∧W.cell? ⟨b,off+i * 10+4,none⟩=some (.int .i64 x.layer)∧W.cell? ⟨b,off+i * 10+5,none⟩=some (.int .i64 x.lower)∧W.cell? ⟨b,off+i * 10+6,none⟩=some (.int .i64 x.low)∧W.cell? ⟨b,off+i * 10+7,none⟩=some (.int .i64 x.high) from fun W h=>by
     have e:=fun o=>World.cell?_of_block (a:=⟨b,o,none⟩) h
     exact ⟨(e _).trans c0,(e _).trans c2,(e _).trans c3,(e _).trans c4,(e _).trans c5,(e _).trans c6,(e _).trans c7⟩)
    have hbB:b<w.heap.size:=(by obtain ⟨b',o',e',hb',_⟩:=HL.out.at_ (show 0<n by omega);cases e';exact hb')
    clear hcell hx hokx
    go_upto_region 5 with (fail)
    refine lnk5 _ rfl b off n c i x _ wo _ rfl rfl rfl hlt hn (fun W h=>⟨(h.cell (p:=⟨b,_,none⟩) hbw).trans c3,(h.cell (p:=⟨b,_,none⟩) hbw).trans c4⟩) ?_;intro w5 hb5 hs5 hh5;have HB5:=Lib.hid (hbl.out.trans (hb5.mono hzr));have HO5:=Lib.hid (hO.out.below hb5 (Nat.le_refl _));have HH5:=Lib.hid hh5;have HE5:=Lib.hid (hb5.block b hbw);obtain ⟨d0,d2,d3,d4,d5,d6,d7⟩:=CE.out w5 HE5.out
    have hbw5:b<w5.heap.size:=(by omega)
    have hz5:=HB5.out.size
    have hne:Hid (some b≠blockOf A'):=(show some b≠blockOf A' from fun e=>by have:=hO.out.ltB b e.symm;omega)
    have hnp:Hid (some wo.heap.size≠blockOf A'):=(show some wo.heap.size≠blockOf A' from fun e=>by
     rcases hO.out.form with ⟨e',_⟩|⟨g,rfl,_,hg⟩
     · rw [e'] at e;cases e
     · simp [blockOf] at e;omega)
    have GE:Hid (∀ W,w5.grownBy W (blockOf A')→W.cell? ⟨b,off+i * 10,none⟩=some (.int .i64 x.id)∧W.cell? ⟨b,off+i * 10+2,none⟩=some (.int .u8 x.kind)∧W.cell? ⟨b,off+i * 10+3,none⟩=some (.int .i64 x.pit)∧W.cell? ⟨b,off+i * 10+4,none⟩=some (.int .i64 x.layer)∧W.cell? ⟨b,off+i * 10+5,none⟩=some (.int .i64 x.lower)∧W.cell? ⟨b,off+i * 10+6,none⟩=some (.int .i64 x.low)∧W.cell? ⟨b,off+i * 10+7,none⟩=some (.int .i64 x.high)):=(show ∀ W,w5.grownBy W (blockOf A')→W.cell? ⟨b,off+i * 10,none⟩=some (.int .i64 x.id)∧W.cell? ⟨b,off+i * 10+2,none⟩=some (.int .u8 x.kind)∧W.cell? ⟨b,off+i * 10+3,none⟩=some (.int .i64 x.pit)∧W.cell? ⟨b,off+i * 10+4,none⟩=some (.int .i64 x.layer)∧W.cell? ⟨b,off+i * 10+5,none⟩=some (.int .i64 x.lower)∧W.cell? ⟨b,off+i * 10+6,none⟩=some (.int .i64 x.low)∧W.cell? ⟨b,off+i * 10+7,none⟩=some (.int .i64 x.high) from fun W hg=>CE.out W ((hg.block b hbw5 hne.out).trans HE5.out))
    have GP:Hid (∀ W,w5.grownBy W (blockOf A')→W.cell? ⟨wo.heap.size,0,none⟩=some (.int .i64 x.pit)∧W.cell? ⟨wo.heap.size,1,none⟩=some (.int .i64 x.layer)):=(show ∀ W,w5.grownBy W (blockOf A')→_ from fun W hg=>by
     have:=(hg.block wo.heap.size (by omega) hnp.out).trans HH5.out
     simp [World.cell?,this])
    clear hb5 hh5 c0 c1 c2 c3 c4 c5 c6 c7 c8 c9;simp only [List.setIfInBounds_toArray,List.set_cons_succ,List.set_cons_zero]
    rcases two_ x.kind 1 with ⟨k1,k2,k3⟩|⟨k1,k2,k3⟩
    · have K1:=Lib.hid k1
      have k4:(x.kind==2)=false:=(by rw [k1];rfl)
      clear k1
      go_upto_region 7 with (fail)
      refine lnk7 _ rfl b off n c wo.heap.size A' xs.length c' i x w.heap.size xs _ w5 _ rfl rfl rfl rfl rfl hlt hn (fun W hg=>by obtain ⟨a0,a2,a3,a4,a5,a6,a7⟩:=GE.out W hg;obtain ⟨p0,p1⟩:=GP.out W hg;exact ⟨p0,p1,a0,a3,a5⟩) HO5.out (by omega) (by omega) ?_;intro A6 c6 w6 hO6 hg6;have HB6:=Lib.hid (HB5.out.grown hg6 hz5 (fun j e=>HO5.out.ltB j e));have HO6:=Lib.hid hO6;obtain ⟨a0,a2,a3,a4,a5,a6,a7⟩:=GE.out w6 hg6
      have hbw6:b<w6.heap.size:=(by have:=HB6.out.size;omega)
      clear hO6 hg6 d0 d2 d3 d4 d5 d6 d7;simp only [List.setIfInBounds_toArray,List.set_cons_succ,List.set_cons_zero];go_wp2;go_roundw
      all_goals first
       | (simp [intOf];omega)
       | exact ⟨i+1,A6,c6,xs ++ [⟨⟨x.pit,x.layer⟩,⟨x.pit,x.lower⟩,-1,x.id⟩],by omega,by simp,by go_num,HB6.out,(show _=_ by rw [SN.out,linkT_above K1.out]),(show Own _ _ _ _ _ _ _ _ _ by rw [List.length_append];exact HO6.out),by simp;omega⟩
    · have K1:=Lib.hid k1
      clear k1
      rcases two_ x.kind 2 with ⟨k4,k5,k6⟩|⟨k4,k5,k6⟩
      · have K4:=Lib.hid k4
        clear k4
        go_upto_region 9 with (fail)
        refine lnk9 _ rfl b off n c wo.heap.size A' xs.length c' i x w.heap.size xs _ w5 _ rfl rfl rfl rfl rfl hlt hn HOX.out.2 (fun W hg=>by obtain ⟨a0,a2,a3,a4,a5,a6,a7⟩:=GE.out W hg;obtain ⟨p0,p1⟩:=GP.out W hg;exact ⟨p0,p1,a0,a6,a7⟩) HO5.out (by omega) (by omega) ?_;intro A6 c6 w6 hO6 hg6;have HB6:=Lib.hid (HB5.out.grown hg6 hz5 (fun j e=>HO5.out.ltB j e));have HO6:=Lib.hid hO6;clear hO6 hg6 d0 d2 d3 d4 d5 d6 d7;simp only [List.setIfInBounds_toArray,List.set_cons_succ,List.set_cons_zero];go_wp2;go_roundw
        all_goals first
         | (simp [intOf];omega)
         | exact ⟨i+1,A6,c6,xs ++ [⟨⟨0,0⟩,⟨x.pit,x.layer⟩,x.high,x.id⟩,⟨⟨x.pit,x.layer⟩,⟨0,0⟩,-x.low,x.id⟩],by omega,by simp,by go_num,HB6.out,(show _=_ by rw [SN.out,linkT_dated K4.out]),(show Own _ _ _ _ _ _ _ _ _ by rw [List.length_append];exact HO6.out),by simp;omega⟩
      · have K4:=Lib.hid k4
        clear k4;go_wp2;go_roundw
        all_goals first
         | (simp [intOf];omega)
         | exact ⟨i+1,A',c',xs,by omega,rfl,by go_num,HB5.out,(show _=_ by rw [SN.out,linkT_none K1.out K4.out,List.append_nil]),HO5.out,by omega⟩
  · have hin:i=n:=by omega
    subst hin;have h1:=hxs.out;rw [List.take_of_length_le (by rw [hnl.out];exact Nat.le_refl _)] at h1;have H1:=Lib.hid h1;clear h1 hxs
    go_wp2_with (first
     | (go_at_call 143;(with_reducible refine (HTO.out _ hbl.out).mono ?_);rintro e w2 ⟨A2,c2,rfl,hO2,hb2⟩
        have HB2:=Lib.hid (hbl.out.trans (hb2.mono hzr));have hz2:=HB2.out.size;have hO1:=hO.out.below hb2 (Nat.le_refl _);have hrd2:=hO2.rd (fun _=>rfl) (by omega)
        clear hb2 hO2)
     | (at_builtin;refine wpList_append_src elLink (fun _=>rfl) oneLink rfl _ _ rfl _ _ _ _ rfl rfl hO1 hrd2 (by omega) (by decide) hz2 ?_;intro A6 c6 w6 hO6 hg6 hA6
        have HB6:=Lib.hid (HB2.out.grown hg6 hz2 (fun j e=>hO1.ltB j e));have HO6:=Lib.hid hO6
        clear hO6 hg6 hA6))
    go_ret;have hL:linksL ts bs mv=xs++tl:=by unfold linksL;rw [H1.out,HTE.out]
    exact ⟨A6,c6,by rw [hL,List.length_append];rfl,(show Own _ _ _ _ _ _ _ _ _ by rw [hL,List.length_append];exact HO6.out),HB6.out⟩
end Go.Proofs.YtelnkflmnbhclaaGreat
end

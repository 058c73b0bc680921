/- Contracts that the laws lean on: RSbR, RSub, RStR, RSet, RChR, RSmR, RChp, CheL. -/
import Derived.Test.YtelnkflmnbhclaaGreatK13
import Derived.Test.YtelnkflmnbhclaaGreatK10
import Derived.Test.YtelnkflmnbhclaaGreatK09
import Derived.Test.YtelnkflmnbhclaaGreatEa12
import Derived.Test.YtelnkflmnbhclaaGreatEa09
import Derived.Test.YtelnkflmnbhclaaGreatEa01
import Derived.Test.YtelnkflmnbhclaaGreatEa10
import Derived.Test.YtelnkflmnbhclaaGreatEa08
import Derived.Test.YtelnkflmnbhclaaGreatEa06
import Derived.Test.YtelnkflmnbhclaaGreatK23
import Derived.Test.YtelnkflmnbhclaaGreatEa02
import Derived.Test.YtelnkflmnbhclaaGreatK24
section
namespace Go.Proofs.YtelnkflmnbhclaaGreat
open Go.RowKit Go.Proofs Go.Shelf
theorem Own.onePl (w:World) (p:Place):Own encPlace 2 37 w.heap.size (w.alloc (.cells #[.int .i64 p.pit,.int .i64 p.layer] 37)) (some ⟨w.heap.size,0,none⟩) 1 1 [p]:=
 ⟨rfl,by simp [encPlace],.inr ⟨w.heap.size,1,#[.int .i64 p.pit,.int .i64 p.layer],rfl,Nat.le_refl _,heap_alloc_new w _,Nat.le_refl _,by decide,by simp,by simp [encPlace]⟩⟩
theorem below_row {w W:World} (h:Below w.heap.size w W) (r:Option Nat):w.grownBy W r:=⟨h.os,h.tape,h.output,h.size,fun i hi _=>h.block i hi⟩
theorem row_behind {w W W':World} {r:Option Nat} (h:Below w.heap.size w W) (g:W.grownBy W' r):w.grownBy W' r:=
 ⟨g.os.trans h.os,g.tape.trans h.tape,g.output.trans h.output,Nat.le_trans h.size g.size,fun i hi hne=>(g.block i (Nat.lt_of_lt_of_le hi h.size) hne).trans (h.block i hi)⟩
def codersub8:Option Code→Code
 | some (.seq _ (.seq _ (.seq _ (.seq _ (.seq (.seq _ (.block _ (.loop (.seq _ (.seq (.block _ c) _))))) _)))))=>c
 | _=> .skip
def valrsub8 (As:Option Addr) (ns cs bm om n cn gr nr cr k:Nat) (p:Place) (x:Hdr) (n1 n3:Nat) (A2:Option Addr) (c2:Nat) (A4:Option Addr) (c4:Nat):Nat→Value
 | 0=> .slice As ns cs
 | 1=> .slice (some ⟨bm,om,none⟩) n cn
 | 2=> .pointer (some ⟨bm,om,none⟩)
 | 3=> .pointer (some ⟨bm,om,none⟩)
 | 4=> .agg #[.int .i64 p.pit,.int .i64 p.layer]
 | 5=> .slice (some ⟨n1,0,none⟩) 1 1
 | 6=> .slice (some ⟨gr,0,none⟩) nr cr
 | 7=> .int .i64 k
 | 8=> .pointer (some ⟨gr,k,none⟩)
 | 9=> .slice x.A x.n x.c
 | 10=> .slice A2 (1+x.n) c2
 | 11=> .slice (some ⟨n3,0,none⟩) 1 1
 | 12=> .slice A4 (ns+1) c4
 | 13=> .slice A4 (ns+1) c4
 | _=>undef
set_option maxRecDepth 100000 in
set_option maxHeartbeats 4000000 in
theorem rsub8 (cC:Code) (hc:cC=codersub8 Tryz.f92.body) (As:Option Addr) (ns cs bm om n cn gr nr cr k:Nat) (p:Place) (x:Hdr) (a:Act) (w:World) (Q:Exit→Act→World→Prop)
 (hT:a.tmps.size=37) (t0:a.tmps.getD 0 undef = .slice (some ⟨bm,om,none⟩) n cn) (t3:a.tmps.getD 3 undef = .slice As ns cs) (t4:a.tmps.getD 4 undef = .slice (some ⟨gr,0,none⟩) nr cr) (t5:a.tmps.getD 5 undef = .int .i64 k)
 (B:Nat) (hs:List Hdr) (s:List Place) (CE:∀ W,w.grownBy W (blockOf As)→W.cell? ⟨bm,om,none⟩=some (.int .i64 p.pit)∧W.cell? ⟨bm,om+1,none⟩=some (.int .i64 p.layer)∧W.cell? ⟨gr,k,none⟩=some (.slice x.A x.n x.c)) (hn0:0<n) (_:n≤1000000) (hk:k<nr) (_:nr≤1000000)
 (hsrc:Rd encPlace 2 w x.A x.n x.c s) (hxn:x.n≤1000000) (hown:Own encHdr 1 30 B w As ns cs hs) (hB:B≤w.heap.size) (hns:ns≤1000000)
 (hQ:∀ n1 n3 A2 c2 A4 c4 W0 W,Below w.heap.size w W0→Own encPlace 2 37 w.heap.size W0 A2 (1+x.n) c2 (p::s)→W0.grownBy W (blockOf As)→Own encHdr 1 30 B W A4 (ns+1) c4 (hs ++ [⟨A2,1+x.n,c2⟩])→(blockOf A4=blockOf As∨blockOf A4=some W0.heap.size)→Q .normal { tmps:=((((((((((((((a.tmps.setIfInBounds 20 (.slice As ns cs)).setIfInBounds 21 (.slice (some ⟨bm,om,none⟩) n cn)).setIfInBounds 22 (.pointer (some ⟨bm,om,none⟩))).setIfInBounds 23 (.pointer (some ⟨bm,om,none⟩))).setIfInBounds 24 (.agg #[.int .i64 p.pit,.int .i64 p.layer])).setIfInBounds 25 (.slice (some ⟨n1,0,none⟩) 1 1)).setIfInBounds 26 (.slice (some ⟨gr,0,none⟩) nr cr)).setIfInBounds 27 (.int .i64 k)).setIfInBounds 28 (.pointer (some ⟨gr,k,none⟩))).setIfInBounds 29 (.slice x.A x.n x.c)).setIfInBounds 30 (.slice A2 (1+x.n) c2)).setIfInBounds 31 (.slice (some ⟨n3,0,none⟩) 1 1)).setIfInBounds 32 (.slice A4 (ns+1) c4)).setIfInBounds 3 (.slice A4 (ns+1) c4)),defers:=a.defers } W):
 cC.wp Tryz.prog Q a w:=by
 subst hc
 unfold codersub8 Tryz.f92
 dsimp only
 obtain ⟨n1,hn1⟩:∃ n1,w.heap.size=n1:=⟨_,rfl⟩
 obtain ⟨w1,hw1⟩:∃ w1,w1=w.drew.alloc (.cells #[.int .i64 p.pit,.int .i64 p.layer] 37):=⟨_,rfl⟩
 have hb0:Below w.heap.size w w.drew:=(Below.refl _ _).drew
 have hb1:Below w.heap.size w w1:=(by rw [hw1];exact hb0.alloc (Nat.le_refl _) _)
 have hO1:Own encPlace 2 37 w.heap.size w1 (some ⟨n1,0,none⟩) 1 1 [p]:=(by rw [hw1,←hn1];exact Own.onePl w.drew p)
 obtain ⟨A2,c2,w2,hrun2,hO2,hg2,_⟩:=run_append_src elPlace 30 (fun _=>rfl) onePlace hO1 x.A x.n x.c s (hsrc.below hb1 (Nat.le_refl _)) (by omega) (by omega) hb1.size
 have hb2:Below w.heap.size w w2:=hb1.grown hg2 hb1.size (fun j e=>hO1.ltB j e)
 obtain ⟨n3,hn3⟩:∃ n3,w2.heap.size=n3:=⟨_,rfl⟩
 obtain ⟨w3,hw3⟩:∃ w3,w3=w2.alloc (.cells #[.slice A2 (1+x.n) c2] 30):=⟨_,rfl⟩
 have hb3:Below w.heap.size w w3:=(by rw [hw3];exact hb2.alloc hb2.size _)
 have hrd3:Rd encHdr 1 w3 (some ⟨n3,0,none⟩) 1 1 [⟨A2,1+x.n,c2⟩]:=(by rw [hw3,←hn3];exact Rd.single (enc:=encHdr) (k:=1) w2 #[.slice A2 (1+x.n) c2] 30 [⟨A2,1+x.n,c2⟩] 1 rfl (by omega) (fun _=>rfl) (by simp [encHdr,hdrV]))
 obtain ⟨A4,c4,w4,hrun4,hO4,hg4,hA4⟩:=run_append_src elSets 59 (fun _=>rfl) oneHdr (hown.below hb3 (Nat.le_refl _)) (some ⟨n3,0,none⟩) 1 1 [⟨A2,1+x.n,c2⟩] hrd3 (by omega) (by omega) (by have:=hb3.size;omega)
 have hQ':=hQ n1 n3 A2 c2 A4 c4 w3 w4 hb3 (by rw [hw3];exact hO2.alloc _) hg4 hO4 hA4
 have pr0:=CE _ (below_row hb0 _)
 have pr1:=CE _ (below_row hb1 _)
 have pr2:=CE _ (below_row hb2 _)
 have pr3:=CE _ (below_row hb3 _)
 have pr4:=CE _ (row_behind hb3 hg4)
 clear hQ CE hO1 hO2 hg2 hb0 hb1 hb2 hb3 hrd3 hO4 hg4 hA4 hown hsrc
 obtain ⟨Wf,hWf⟩:∃ Wf:Array Bool→World,∀ L,Wf L=if L.getD 12 false=true then w4 else if L.getD 11 false=true then w3 else if L.getD 10 false=true then w2 else if L.getD 5 false=true then w1 else w.drew:=⟨_,fun _=>rfl⟩
 refine wpIn_wide.1 (wpIn_region_tab2 (nn:=5) (by kernel_rfl) (valrsub8 As ns cs bm om n cn gr nr cr k p x n1 n3 A2 c2 A4 c4) Wf (by rw [hT];kernel_rfl) ?_ ?_ ?_)
 · rw [hWf];rfl
 · intro listed io o b hi ho hb hlat
   obtain ⟨hun,oi,hoi,hall⟩:=mem_ready.1 hi
   have:oi=o:=Option.some.inj (hoi.symm.trans ho)
   subst this
   clear hoi hi hQ'
   have hlt:io<14:=(by have:=(Array.getElem?_eq_some_iff.1 ho).1;simpa using this)
   have q0:b.tmps[0]?.getD undef=_:=(by simpa using (hb.old 0 (dst_no hb (by kernel_rfl))).trans t0)
   have q3:listed.getD 13 false=false→b.tmps[3]?.getD undef=_:=fun h=>(by simpa using (hlat 13 3 rfl h).trans t3)
   have q4:b.tmps[4]?.getD undef=_:=(by simpa using (hb.old 4 (dst_no hb (by kernel_rfl))).trans t4)
   have q5:b.tmps[5]?.getD undef=_:=(by simpa using (hb.old 5 (dst_no hb (by kernel_rfl))).trans t5)
   have hun':listed.getD io false=false:=getD_both hun
   have hsame:io≠5→io≠10→io≠11→io≠12→Wf (listed.setIfInBounds io true)=Wf listed:=fun h0 h1 h2 h3=>by rw [hWf,hWf,getD_set_ne false h0,getD_set_ne false h1,getD_set_ne false h2,getD_set_ne false h3]
   have hpr:∃ W,Wf listed=W∧W.cell? ⟨bm,om,none⟩=some (.int .i64 p.pit)∧W.cell? ⟨bm,om+1,none⟩=some (.int .i64 p.layer)∧W.cell? ⟨gr,k,none⟩=some (.slice x.A x.n x.c):=⟨_,rfl,by rw [hWf];(repeat' split)<;>assumption⟩
   have E:∀ (j s:Nat) (v:Value),dstOf _ j=some s→valrsub8 As ns cs bm om n cn gr nr cr k p x n1 n3 A2 c2 A4 c4 j=v→listed.getD j false=true→b.tmps[s]?.getD undef=v:=fun j s v h1 h2 h3=>by rw [←h2];simpa using hb.val j s h1 h3
   obtain ⟨W,hW,p0,p1,x0⟩:=hpr
   by_cases hp0:io=5
   · subst hp0
     simp only [List.getElem?_toArray,List.getElem?_cons_zero,List.getElem?_cons_succ] at ho
     cases ho
     have e4:=E 4 24 (.agg #[.int .i64 p.pit,.int .i64 p.layer]) rfl rfl (hall ⟨4,.data⟩ (by simp) rfl)
     have nl10:=not_listed (hb.closed 10 _ rfl) ⟨5,.data⟩ (by simp) rfl hun'
     have nl11:=not_listed (hb.closed 11 _ rfl) ⟨10,.data⟩ (by simp) rfl nl10
     have nl12:=not_listed (hb.closed 12 _ rfl) ⟨11,.data⟩ (by simp) rfl nl11
     have h1:Wf listed=w.drew:=(by rw [hWf,nl12,nl11,nl10,hun'];rfl)
     have h2:Wf (listed.setIfInBounds 5 true)=w1:=(by rw [hWf,getD_set_ne false (by decide),nl12,getD_set_ne false (by decide),nl11,getD_set_ne false (by decide),nl10,getD_set_self hb.size (by simp)];rfl)
     refine .inl ?_
     rw [h1,h2]
     clear h1 h2 hWf hsame E pr0 pr1 pr2 pr3 pr4 hrun2 hrun4
     subst hw1
     subst hn1
     go_simp
     try rfl
   by_cases hp1:io=10
   · subst hp1
     simp only [List.getElem?_toArray,List.getElem?_cons_zero,List.getElem?_cons_succ] at ho
     cases ho
     have e5:=E 5 25 (.slice (some ⟨n1,0,none⟩) 1 1) rfl rfl (hall ⟨5,.data⟩ (by simp) rfl)
     have e9:=E 9 29 (.slice x.A x.n x.c) rfl rfl (hall ⟨9,.data⟩ (by simp) rfl)
     have nl11:=not_listed (hb.closed 11 _ rfl) ⟨10,.data⟩ (by simp) rfl hun'
     have nl12:=not_listed (hb.closed 12 _ rfl) ⟨11,.data⟩ (by simp) rfl nl11
     have p1:=hall ⟨5,.data⟩ (by simp) rfl
     have h1:Wf listed=w1:=(by rw [hWf,nl12,nl11,hun',p1];rfl)
     have h2:Wf (listed.setIfInBounds 10 true)=w2:=(by rw [hWf,getD_set_ne false (by decide),nl12,getD_set_ne false (by decide),nl11,getD_set_self hb.size (by simp)];rfl)
     refine .inl ?_
     rw [h1,h2]
     have f0:b.eval (.tmp 25) = .slice (some ⟨n1,0,none⟩) 1 1:=(by simpa [Act.eval,valrsub8] using e5)
     have f1:b.eval (.tmp 29) = .slice x.A x.n x.c:=(by simpa [Act.eval,valrsub8] using e9)
     simp only [execOp,resolve,invoke,builtin,Sem.run_bind,Sem.run_pure,Result.andThen_ok,List.map_toArray,List.map_cons,List.map_nil,f0,f1,hrun2]
     rfl
   by_cases hp2:io=11
   · subst hp2
     simp only [List.getElem?_toArray,List.getElem?_cons_zero,List.getElem?_cons_succ] at ho
     cases ho
     have e10:=E 10 30 (.slice A2 (1+x.n) c2) rfl rfl (hall ⟨10,.data⟩ (by simp) rfl)
     have nl12:=not_listed (hb.closed 12 _ rfl) ⟨11,.data⟩ (by simp) rfl hun'
     have p1:=hall ⟨10,.data⟩ (by simp) rfl
     have h1:Wf listed=w2:=(by rw [hWf,nl12,hun',p1];rfl)
     have h2:Wf (listed.setIfInBounds 11 true)=w3:=(by rw [hWf,getD_set_ne false (by decide),nl12,getD_set_self hb.size (by simp)];rfl)
     refine .inl ?_
     rw [h1,h2]
     clear h1 h2 hWf hsame E pr0 pr1 pr2 pr3 pr4 hrun2 hrun4
     subst hw3
     subst hn3
     go_simp
     try rfl
   by_cases hp3:io=12
   · subst hp3
     simp only [List.getElem?_toArray,List.getElem?_cons_zero,List.getElem?_cons_succ] at ho
     cases ho
     have e0:=E 0 20 (.slice As ns cs) rfl rfl (hall ⟨0,.data⟩ (by simp) rfl)
     have e11:=E 11 31 (.slice (some ⟨n3,0,none⟩) 1 1) rfl rfl (hall ⟨11,.data⟩ (by simp) rfl)
     have p1:=hall ⟨11,.data⟩ (by simp) rfl
     have h1:Wf listed=w3:=(by rw [hWf,hun',p1];rfl)
     have h2:Wf (listed.setIfInBounds 12 true)=w4:=(by rw [hWf,getD_set_self hb.size (by simp)];rfl)
     refine .inl ?_
     rw [h1,h2]
     have f0:b.eval (.tmp 20) = .slice As ns cs:=(by simpa [Act.eval,valrsub8] using e0)
     have f1:b.eval (.tmp 31) = .slice (some ⟨n3,0,none⟩) 1 1:=(by simpa [Act.eval,valrsub8] using e11)
     simp only [execOp,resolve,invoke,builtin,Sem.run_bind,Sem.run_pure,Result.andThen_ok,List.map_toArray,List.map_cons,List.map_nil,f0,f1,hrun4]
     rfl
   rw [hsame hp0 hp1 hp2 hp3,hW]
   refine .inl ?_
   clear hsame hWf hW hw1 hw3 pr0 pr1 pr2 pr3 pr4 hrun2 hrun4
   rcases (by omega:io=0∨io=1∨io=2∨io=3∨io=4∨io=6∨io=7∨io=8∨io=9∨io=13) with rfl|rfl|rfl|rfl|rfl|rfl|rfl|rfl|rfl|rfl
   all_goals simp only [List.getElem?_toArray,List.getElem?_cons_zero,List.getElem?_cons_succ] at ho
   all_goals cases ho
   · (have q3':=q3 (not_listed (hb.closed 13 _ rfl) ⟨0,.phase⟩ (by simp) rfl hun'));clear E;go_simp;try rfl
   · clear E;go_simp;try rfl
   · (have e1:=E 1 21 (.slice (some ⟨bm,om,none⟩) n cn) rfl rfl (hall ⟨1,.data⟩ (by simp) rfl));clear E;go_simp;try rfl
   · (have e2:=E 2 22 (.pointer (some ⟨bm,om,none⟩)) rfl rfl (hall ⟨2,.data⟩ (by simp) rfl));clear E;go_simp;try rfl
   · (have e3:=E 3 23 (.pointer (some ⟨bm,om,none⟩)) rfl rfl (hall ⟨3,.data⟩ (by simp) rfl));clear E;go_simp;try rfl
   · clear E;go_simp;try rfl
   · clear E;go_simp;try rfl
   · (have e6:=E 6 26 (.slice (some ⟨gr,0,none⟩) nr cr) rfl rfl (hall ⟨6,.data⟩ (by simp) rfl));(have e7:=E 7 27 (.int .i64 k) rfl rfl (hall ⟨7,.data⟩ (by simp) rfl));clear E;go_simp;try rfl
   · (have e8:=E 8 28 (.pointer (some ⟨gr,k,none⟩)) rfl rfl (hall ⟨8,.data⟩ (by simp) rfl));clear E;go_simp;try rfl
   · (have e12:=E 12 32 (.slice A4 (ns+1) c4) rfl rfl (hall ⟨12,.data⟩ (by simp) rfl));clear E;go_simp;try rfl
 · intro b hb
   have hact:=hb.act (m:=37) (by kernel_rfl) hT.symm
   have hW:Wf (Array.replicate 14 true)=w4:=(by rw [hWf];rfl)
   refine (?_:Q .normal b (Wf (Array.replicate 14 true)))
   rw [hW,hact]
   exact hQ'
end Go.Proofs.YtelnkflmnbhclaaGreat
end
section
namespace Go.Proofs.YtelnkflmnbhclaaGreat
open Go.RowKit Go.Proofs Go.Shelf
set_option maxHeartbeats 2000000 in
theorem rcost_any (A:Option Addr) (n c:Nat) (ads:List Admit) (S:Option Addr) (sn sc:Nat) (set:List Place) (w:World) (hl:Rd encAdmit 4 w A n c ads) (hs:Rd encPlace 2 w S sn sc set) (hn:n≤8) (hc:∀ x∈ads,0≤x.cost∧x.cost≤1000):
 Calls Tryz.prog 91 #[.slice A n c,.slice S sn sc] w fun e w'=>e = .returned (.int .i64 (costR ads set))∧Below w.heap.size w w':=by
 have HNL:=Lib.hid hl.len
 have HL:=Lib.hid hl
 have HH:=Lib.hid (fun W p (h:Below w.heap.size w W)=>rHas_any S sn sc set p W (hs.below h (Nat.le_refl _)))
 have HC:=Lib.hid hc
 clear hl hs hc
 go_enter Tryz.func91,Tryz.ntmps91
 go_wp2
 go_loopw [5,6] (fun s5 s6 wr=> ∃ (i:Nat) (z:Int),i≤n∧s5 = .int .i64 z∧s6 = .int .i64 i∧Hid (Below w.heap.size w wr)∧Hid ((ads.take i).foldl (costStepR set) 0=z)∧0≤z∧z≤1000 * i) (fun _ s6 _=>n-(intOf s6).toNat)
 case atStart=>exact ⟨0,0,Nat.zero_le _,rfl,rfl,(show Below _ _ _ from Below.refl _ _),(show _=_ from rfl),by omega,by omega⟩
 case round=>
  obtain ⟨i,z,hi,rfl,rfl,hb,hz,hz0,hz1⟩:=hrel
  rename World=>wo
  have hzr:=hb.out.size
  by_cases hlt:i<n
  · obtain ⟨b,off,x,rfl,hbw,hx,hcell⟩:=(HL.out.below hb.out (Nat.le_refl _)).one hlt
    have c0:wo.cell? ⟨b,off+i * 4,none⟩=some (.int .i64 x.place.pit):=hcell 0 _ rfl
    have c1:wo.cell? ⟨b,off+i * 4+1,none⟩=some (.int .i64 x.place.layer):=hcell 1 _ rfl
    have c2:wo.cell? ⟨b,off+i * 4+2,none⟩=some (.int .i64 x.cost):=hcell 2 _ rfl
    have c3:wo.cell? ⟨b,off+i * 4+3,none⟩=some (.int .i64 x.by_):=hcell 3 _ rfl
    have hcx:=HC.out x (List.mem_of_getElem? hx)
    have HST:Hid ((ads.take (i+1)).foldl (costStepR set) 0=costStepR set z x):=(show _=_ by rw [List.take_add_one,hx,Option.toList_some,List.foldl_append,hz.out];rfl)
    have C4:Hid (∀ W,Below wo.heap.size wo W→W.cell? ⟨b,off+i * 4+2,none⟩=some (.int .i64 x.cost)):=(show ∀ W,Below wo.heap.size wo W→_ from fun W h=>(h.cell (p:=⟨b,_,none⟩) hbw).trans c2)
    clear hcell hx c2 c3
    cases hh:hasPl set x.place with
    | true=>
      have HHH:=Lib.hid hh
      clear hh
      go_wp2_with (go_at_call 65;(with_reducible refine (HH.out _ x.place hb.out).mono ?_);rintro e w2 ⟨rfl,hb2⟩;rw [HHH.out]
                   have HB2:=Lib.hid (hb.out.trans (hb2.mono hzr))
                   have c2:=C4.out w2 hb2
                   have hbw2:b<w2.heap.size:=(by have:=hb2.size;omega)
                   clear hb2)
      go_roundw
      all_goals first
       | (simp [intOf];omega)
       | exact ⟨i+1,z+x.cost,by omega,by go_num,by go_num,HB2.out,(show _=_ by rw [HST.out];unfold costStepR;rw [if_pos HHH.out]),by omega,by omega⟩
    | false=>
      have HHH:=Lib.hid hh
      clear hh
      go_wp2_with (go_at_call 65;(with_reducible refine (HH.out _ x.place hb.out).mono ?_);rintro e w2 ⟨rfl,hb2⟩;rw [HHH.out]
                   have HB2:=Lib.hid (hb.out.trans (hb2.mono hzr))
                   clear hb2)
      go_roundw
      all_goals first
       | (simp [intOf];omega)
       | exact ⟨i+1,z,by omega,rfl,by go_num,HB2.out,(show _=_ by rw [HST.out];unfold costStepR;rw [if_neg (by rw [HHH.out];decide)]),hz0,by omega⟩
  · have hin:i=n:=by omega
    subst hin
    have hv:costR ads set=z:=by
     have h1:=hz.out
     rw [List.take_of_length_le (by rw [HNL.out];exact Nat.le_refl _)] at h1
     exact h1
    have HV:=Lib.hid hv
    clear hv
    go_wp2
    go_ret
    exact ⟨by rw [HV.out];rfl,hb.out⟩
theorem SetsAt.cat {B:Nat} {W W':World} {A A2:Option Addr} {c c2:Nat} {sets sets2:List (List Place)} {hs hs2:List Hdr} (h2:∀ (i:Nat) (h:Hdr) (s:List Place),hs[i]? = some h→sets[i]? = some s→h.n=s.length∧Own encPlace 2 37 B W h.A s.length h.c s) (h1:Own encHdr 1 30 B W A sets.length c hs)
 (h5:∀ (i:Nat) (h:Hdr) (s:List Place),hs2[i]? = some h→sets2[i]? = some s→h.n=s.length∧Own encPlace 2 37 B W h.A s.length h.c s) (hg:W.grownBy W' (blockOf A)) (h3:Own encHdr 1 30 B W' A2 (sets.length+sets2.length) c2 (hs++hs2)):SetsAt B W' A2 c2 (sets++sets2):=by
 have key:∀ {n c:Nat} {A':Option Addr} {xs:List Place},Own encPlace 2 37 B W A' n c xs→Own encPlace 2 37 B W' A' n c xs:=fun hO=>hO.kept hg (hO.apart h1 (by decide))
 have hlen:=h1.len
 refine ⟨hs++hs2,by rw [List.length_append];exact h3,fun i y s hi hs'=> ?_⟩
 by_cases hlt:i<sets.length
 · rw [List.getElem?_append_left (by omega)] at hi
   rw [List.getElem?_append_left hlt] at hs'
   obtain ⟨a,b⟩:=h2 i y s hi hs'
   exact ⟨a,key b⟩
 · rw [List.getElem?_append_right (by omega)] at hs' hi
   rw [hlen] at hi
   obtain ⟨a,b⟩:=h5 _ y s hi hs'
   exact ⟨a,key b⟩
theorem SetsAt.one_nil (w:World):SetsAt w.heap.size (w.alloc (.cells #[.slice none 0 0] 30)) (some ⟨w.heap.size,0,none⟩) 1 [[]]:=
 ⟨[⟨none,0,0⟩],⟨rfl,by simp [encHdr],.inr ⟨w.heap.size,1,#[.slice none 0 0],rfl,Nat.le_refl _,heap_alloc_new w _,Nat.le_refl _,by decide,by simp,by simp [encHdr,hdrV]⟩⟩,fun i h s hi hs=>by
   match i with
   | 0=>cases hi;cases hs;exact ⟨rfl,Own.none_ _ _ _ _ _⟩
   | i+1=>simp at hi⟩
theorem subsR_len (m:List Place):(subsR m).length=2 ^ m.length:=by
 induction m with
 | nil=>rfl
 | cons p m ih=>
   have h2:0<2 ^ m.length:=Nat.two_pow_pos _
   rw [subsR,List.length_cons,List.length_append,List.length_map,List.length_drop,ih,List.length_cons,Nat.pow_succ]
   omega
theorem subsR_small {m s:List Place} (h:s∈subsR m):s.length≤m.length:=((subsR_mem m s).1 h).length_le
theorem grown_row {w W W':World} {a b:Option Nat} (h:w.grownBy W a) (g:W.grownBy W' b) (hb:∀ j,b=some j→some j=a∨w.heap.size≤j):w.grownBy W' a:=
 ⟨g.os.trans h.os,g.tape.trans h.tape,g.output.trans h.output,Nat.le_trans h.size g.size,fun i hi hne=>(g.block i (Nat.lt_of_lt_of_le hi h.size) (fun e=>by
   rcases hb i e.symm with h1|h1
   · exact hne h1
   · omega)).trans (h.block i hi hne)⟩
set_option maxHeartbeats 8000000 in
set_option maxRecDepth 100000 in
theorem rsubs_any:∀ (ads:List Admit) (A:Option Addr) (n c:Nat) (w:World),Rd encAdmit 4 w A n c ads→n≤8→
 Calls Tryz.prog 92 #[.slice A n c] w fun e w'=> ∃ A' c',e = .returned (.slice A' (subsR (ads.map (·.place))).length c')∧Below w.heap.size w w'∧SetsAt w.heap.size w' A' c' (subsR (ads.map (·.place)))
 | [],A,n,c,w,hl,hn=>by
   obtain rfl:n=0:=hl.len.symm
   clear hl
   have h0:(((0:Nat):Int)==0)=true:=rfl
   have HS:=Lib.hid (SetsAt.one_nil w)
   go_enter Tryz.func92,Tryz.ntmps92
   go_wp2
   go_ret
   exact ⟨some ⟨w.heap.size,0,none⟩,1,rfl,(Below.refl _ w).alloc (Nat.le_refl _) _,HS.out⟩
 | y::ads,A,n,c,w,hl,hn=>by
   have IH:=rsubs_any ads
   have hnl:=hl.len
   have hcap:=hl.cap
   obtain ⟨bm,om,x,rfl,hbw,hx,hcell⟩:=hl.one (i:=0) (by simp at hnl;omega)
   obtain rfl:y=x:=by simpa using hx
   have c0:w.cell? ⟨bm,om,none⟩=some (.int .i64 y.place.pit):=by have:=hcell 0 _ rfl;simpa using this
   have c1:w.cell? ⟨bm,om+1,none⟩=some (.int .i64 y.place.layer):=by have:=hcell 1 _ rfl;simpa using this
   have h0:((n:Int)==0)=false:=by simp;simp at hnl;omega
   have hn1:1≤n:=by simp at hnl;omega
   obtain ⟨w1,hw1⟩:∃ w1,w.alloc (.cells #[.slice none 0 0] 30)=w1:=⟨_,rfl⟩
   have hb1:Below w.heap.size w w1:=(by rw [←hw1];exact (Below.refl _ w).alloc (Nat.le_refl _) _)
   have hz1:w1.heap.size=w.heap.size+1:=(by rw [←hw1];simp)
   have HS1:=Lib.hid (SetsAt.one_nil w)
   rw [hw1] at HS1
   have HW1:=Lib.hid hw1
   have HB1:=Lib.hid hb1
   have HZ1:=Lib.hid hz1
   have hads:Rd encAdmit 4 w1 (if c=1 then some ⟨bm,om,none⟩ else some ⟨bm,om+4,none⟩) (n-1) (c-1) ads:=by
    have h1:=(hl.below hb1 (Nat.le_refl _)).drop (m:=1) hn1 (A':=if c=1 then some ⟨bm,om,none⟩ else some ⟨bm,om+4,none⟩) (fun h=>by
     rw [if_neg (by omega)]
     rw [Option.map_some,add_lit])
    exact h1
   have HC:=Lib.hid (IH _ _ _ w1 hads (by omega))
   rw [List.map_cons]
   have hsub:subsR (y.place::ads.map (·.place)) = []::((subsR (ads.map (·.place))).map (y.place :: ·)++(subsR (ads.map (·.place))).drop 1):=rfl
   rw [hsub]
   have hN:(subsR (ads.map (·.place))).length≤256:=by
    rw [subsR_len,List.length_map]
    have:ads.length≤8:=by simp at hnl;omega
    exact Nat.le_trans (Nat.pow_le_pow_right (by omega) this) (by decide)
   have HSM:Hid (∀ s∈subsR (ads.map (·.place)),s.length≤8):=(show ∀ s∈_,_ from fun s hs=>by
    have:=subsR_small hs
    simp at this hnl;omega)
   have HHD:=Lib.hid (subsR_head (ads.map (·.place)))
   have HN1:Hid (0<(subsR (ads.map (·.place))).length):=(show 0<_ by rw [subsR_len];exact Nat.two_pow_pos _)
   clear hl hx hcell hnl hw1 hb1 hsub hads IH
   generalize subsR (ads.map (·.place))=RS at *
   by_cases hc1:c=1
   all_goals
    first
     | (rw [if_pos hc1] at HC
        subst hc1
        obtain rfl:n=1:=by omega
        simp only [Nat.sub_self] at HC)
     | rw [if_neg hc1] at HC
    go_enter Tryz.func92,Tryz.ntmps92
    go_wp2_with (first
     | rw [HW1.out]
     | (go_at_call 92;(with_reducible refine HC.out.mono ?_);rintro e w2 ⟨Ar,cr,rfl,hb2,hS2⟩
        have HB2:=Lib.hid hb2
        have HS2:=Lib.hid hS2
        clear hb2 hS2))
    obtain ⟨hr_,o1,o2⟩:=HS2.out
    have HRL:=Lib.hid o1.len
    have HO1:=Lib.hid o1
    have HO2:=Lib.hid o2
    have hN1:=HN1.out
    have hcapr:=o1.cap
    obtain ⟨gr,rfl⟩:∃ gr,Ar=some ⟨gr,0,none⟩:=by
     rcases o1.form with ⟨_,h0,_⟩|⟨g,h,_⟩
     · omega
     · exact ⟨g,h⟩
    have hgr:=o1.lt
    clear o1 o2 HS2
    have hz2:=HB2.out.size
    go_loopw [3,5] (fun s3 s5 wr=> ∃ (k:Nat) (A':Option Addr) (c':Nat) (sets:List (List Place)),k≤RS.length∧s3 = .slice A' sets.length c'∧s5 = .int .i64 k∧sets.length=k+1∧Hid (sets = []::(RS.take k).map (y.place :: ·))∧Hid (Below w.heap.size w wr)∧Hid (w2.grownBy wr (some w.heap.size))∧Hid (SetsAt w.heap.size wr A' c' sets)∧Hid (∀ j,blockOf A'=some j→j=w.heap.size∨w2.heap.size≤j)) (fun _ s5 _=>RS.length-(intOf s5).toNat)
    case atStart=>exact ⟨0,some ⟨w.heap.size,0,none⟩,1,[[]],Nat.zero_le _,rfl,rfl,rfl,(show _=_ from rfl),(show Below _ _ _ from HB1.out.trans (HB2.out.mono HB1.out.size)),(show World.grownBy _ _ _ from World.grownBy.refl _ _),(show SetsAt _ _ _ _ _ from HS1.out.grow HB2.out (Nat.le_refl _)),(show ∀ j,_→_ from fun j h=>by left;simpa [blockOf] using h.symm)⟩
    case round=>
     obtain ⟨k,A',c',sets,hk,rfl,rfl,hsl,hse,hbl,hg2,hS,hbA⟩:=hrel
     rename World=>wo
     have hzo:=hbl.out.size
     have KEEP:Hid (∀ {α:Type} {enc:α→List Value} {kk nn cc:Nat} {e:TypeId} {X:Option Addr} {xs:List α},Own enc kk e w1.heap.size w2 X nn cc xs→Own enc kk e w.heap.size wo X nn cc xs):=(show ∀ {α:Type} {enc:α→List Value} {kk nn cc:Nat} {e:TypeId} {X:Option Addr} {xs:List α},Own enc kk e w1.heap.size w2 X nn cc xs→Own enc kk e w.heap.size wo X nn cc xs from fun hX=>by
      refine (hX.kept hg2.out (.inr fun e=> ?_)).mono HB1.out.size
      have:=hX.ltB _ e
      have:=HZ1.out
      omega)
     by_cases hlt:k<RS.length
     · obtain ⟨x,hx⟩:∃ h,hr_[k]? = some h:=⟨_,List.getElem?_eq_getElem (by have:=HRL.out;omega)⟩
       obtain ⟨sk,hsk⟩:∃ s,RS[k]? = some s:=⟨_,List.getElem?_eq_getElem hlt⟩
       obtain ⟨e1,e2⟩:=HO2.out k x sk hx hsk
       have hs8:=HSM.out sk (List.mem_of_getElem? hsk)
       have hxn:x.n≤1000000:=by omega
       have HSRC:Hid (Rd encPlace 2 wo x.A x.n x.c sk):=(show Rd encPlace 2 wo x.A x.n x.c sk by rw [e1];exact (KEEP.out e2).rd (fun _=>rfl) (by omega))
       have hcx:wo.cell? ⟨gr,k,none⟩=some (.slice x.A x.n x.c):=by
        have:=(KEEP.out HO1.out).cells (fun _=>rfl) hx 0 _ rfl
        rw [Nat.mul_one,Nat.add_zero] at this
        exact this
       obtain ⟨hso,q1,q2⟩:=hS.out
       have hbmo:wo.heap[bm]? = w.heap[bm]? := hbl.out.block _ hbw
       have CE:Hid (∀ W,wo.grownBy W (blockOf A')→W.cell? ⟨bm,om,none⟩=some (.int .i64 y.place.pit)∧W.cell? ⟨bm,om+1,none⟩=some (.int .i64 y.place.layer)∧W.cell? ⟨gr,k,none⟩=some (.slice x.A x.n x.c)):=(show ∀ W,wo.grownBy W (blockOf A')→_ from fun W hW=>by
        have h1:W.heap[bm]? = wo.heap[bm]? := hW.block bm (by omega) (fun e=>by have:=q1.ltB bm e.symm;omega)
        have h2:W.heap[gr]? = wo.heap[gr]? := hW.block gr (by have:=hg2.out.size;omega) (fun e=>by
         have:=hbA.out gr e.symm
         have:=HZ1.out
         omega)
        have e:=fun o=>World.cell?_of_block (a:=⟨bm,o,none⟩) (h1.trans hbmo)
        exact ⟨(e _).trans c0,(e _).trans c1,(World.cell?_of_block (a:=⟨gr,k,none⟩) h2).trans hcx⟩)
       have HQ1:=Lib.hid q1
       have HQ2:=Lib.hid q2
       have HSK:=Lib.hid hsk
       have HE1:=Lib.hid e1
       clear hx hsk e1 e2 hcx q1 q2 hbmo
       go_upto_region 8 with (fail)
       refine rsub8 _ rfl A' sets.length c' bm om _ _ gr RS.length cr k y.place x _ wo _ rfl rfl rfl rfl rfl w.heap.size hso sk CE.out (by omega) (by omega) hlt (by omega) HSRC.out hxn HQ1.out hzo (by omega) ?_
       intro n1 n3 A2 c2 A4 c4 w5 w6 hb5 hO2 hg6 hO6 hA6
       have HB6:=Lib.hid ((hbl.out.trans (hb5.mono hzo)).grown hg6 (Nat.le_trans hzo hb5.size) (fun j e=>HQ1.out.ltB j e))
       have HG6:=Lib.hid (grown_row (grown_row hg2.out (below_row hb5 none) (fun j e=>by cases e)) hg6 (fun j e=>by
        rcases hbA.out j e with h|h
        · exact .inl (by rw [h])
        · exact .inr h))
       have HS6:Hid (SetsAt w.heap.size w6 A4 c4 (sets ++ [y.place::sk])):=(show SetsAt _ _ _ _ _ from by
        have hx1:(⟨A2,1+x.n,c2⟩:Hdr).n=(y.place::sk).length:=by
         show 1+x.n=(y.place::sk).length
         rw [List.length_cons,HE1.out];omega
        refine SetsAt.push (hs:=hso) (fun i h s h1 h2=> ?_) (HQ1.out.below hb5 (Nat.le_refl _)) (x:=⟨A2,1+x.n,c2⟩) hx1 ?_ hg6 hO6
        · obtain ⟨a,b⟩:=HQ2.out i h s h1 h2
          exact ⟨a,b.below hb5 (Nat.le_refl _)⟩
        · have hx2:1+x.n=(y.place::sk).length:=hx1
          rw [←hx2]
          exact hO2.mono hzo)
       have HA6:Hid (∀ j,blockOf A4=some j→j=w.heap.size∨w2.heap.size≤j):=(show ∀ j,_→_ from fun j h=>by
        rcases hA6 with e|e
        · exact hbA.out j (e.symm.trans h)
        · rw [e] at h
          have:w5.heap.size=j:=by simpa using h
          have:=hg2.out.size
          have:=hb5.size
          right;omega)
       clear hb5 hO2 hg6 hO6 hA6
       simp only [List.setIfInBounds_toArray,List.set_cons_succ,List.set_cons_zero]
       go_wp2
       go_roundw
       all_goals first
        | (simp [intOf];omega)
        | exact ⟨k+1,A4,c4,sets ++ [y.place::sk],by omega,by rw [List.length_append];rfl,by go_num,by simp [hsl],(show _=_ by rw [hse.out,List.take_add_one,HSK.out,Option.toList_some,List.map_append];rfl),HB6.out,HG6.out,HS6.out,HA6.out⟩
     · have hkN:k=RS.length:=by omega
       obtain ⟨hso,q1,q2⟩:=hS.out
       have hrd0:=(((KEEP.out HO1.out).rd (fun _=>rfl) (by omega)).drop (m:=1) (by omega) (A':=if cr=1 then some ⟨gr,0,none⟩ else some ⟨gr,1,none⟩) (fun h=>by
        rw [if_neg (by omega),Option.map_some,add_lit]))
       have HSE:Hid (sets = []::RS.map (y.place :: ·)):=(show _=_ by rw [hse.out,hkN,List.take_length])
       have H5:Hid (∀ (i:Nat) (h:Hdr) (s:List Place),(hr_.drop 1)[i]? = some h→(RS.drop 1)[i]? = some s→h.n=s.length∧Own encPlace 2 37 w.heap.size wo h.A s.length h.c s):=(show ∀ (i:Nat) (h:Hdr) (s:List Place),_→_→_ from fun i h s h1 h2=>by
        rw [List.getElem?_drop] at h1 h2
        obtain ⟨a,b⟩:=HO2.out _ h s h1 h2
        exact ⟨a,KEEP.out b⟩)
       have HQ1:=Lib.hid q1
       have HQ2:=Lib.hid q2
       clear q1 q2 hse
       by_cases hcr:cr=1
       all_goals
        first
         | (have HRD:Hid (Rd encHdr 1 wo (some ⟨gr,0,none⟩) (RS.length-1) 0 (hr_.drop 1)):=(show Rd encHdr 1 wo (some ⟨gr,0,none⟩) (RS.length-1) 0 (hr_.drop 1) from by
             have h1:=hrd0
             rw [if_pos hcr,hcr] at h1
             exact h1))
         | (have HRD:Hid (Rd encHdr 1 wo (some ⟨gr,1,none⟩) (RS.length-1) (cr-1) (hr_.drop 1)):=(show Rd encHdr 1 wo (some ⟨gr,1,none⟩) (RS.length-1) (cr-1) (hr_.drop 1) from by
             have h1:=hrd0
             rw [if_neg hcr] at h1
             exact h1))
        clear hrd0
        go_wp2_with (at_builtin;refine wpList_append_src elSets (fun _=>rfl) oneHdr rfl _ _ rfl _ _ _ _ rfl rfl HQ1.out HRD.out (by omega) (by decide) hzo ?_;intro A8 c8 w8 hO8 hg8 hA8
                     have HB8:=Lib.hid (hbl.out.grown hg8 hzo (fun j e=>HQ1.out.ltB j e))
                     have HS8:=Lib.hid (SetsAt.cat (sets:=sets) (sets2:=RS.drop 1) HQ2.out HQ1.out H5.out hg8 (by rw [List.length_drop];exact hO8))
                     clear hO8 hg8 hA8)
        go_ret
        refine ⟨A8,c8,?_,HB8.out,?_⟩
        · have h1:(RS.map (y.place :: ·)++RS.drop 1).length+1=RS.length+1+(RS.length-1):=by
           rw [List.length_append,List.length_map,List.length_drop];omega
          rw [h1];rfl
        · have h2:=HS8.out
          rw [HSE.out,List.cons_append] at h2
          exact h2
end Go.Proofs.YtelnkflmnbhclaaGreat
end
section
namespace Go.Proofs.YtelnkflmnbhclaaGreat
open Go.RowKit Go.Proofs Go.Shelf
def SetCells (ga k:Nat) (hk:Hdr) (w:World):Prop:=∀ W,Below w.heap.size w W→W.cell? ⟨ga,k,none⟩=some (.slice hk.A hk.n hk.c)
def OutCell (go:Nat) (h0:Hdr) (w:World):Prop:=∀ W,Below w.heap.size w W→W.cell? ⟨go,0,none⟩=some (.slice h0.A h0.n h0.c)
def codeSets11:Option Code→Code
 | some (.seq _ (.seq _ (.seq _ (.seq _ (.seq _ (.seq _ (.seq _ (.seq (.seq _ (.block _ (.loop (.seq _ (.seq (.block _ (.seq (.seq c _) _)) _))))) _))))))))=>c
 | _=> .skip
def Trset11_1 (Ao:Option Addr) (_ _ co:Nat) (_:Option Addr) (_ _ ga na ca k:Nat) (At:Option Addr) (nt ct:Nat) (B:Option Addr) (m d:Nat) (hk _:Hdr) (_ _:Int) (en:Bool):List Value:=
 [.slice Ao 0 co,.int .i64 0,.bool false,.bool false,undef,undef,undef,undef,undef,undef,undef,undef,undef,undef,undef,undef,.bool false,.bool false,.slice At nt ct,.slice B m d,.slice (some ⟨ga,0,none⟩) na ca,.int .i64 k,.pointer (some ⟨ga,k,none⟩),.slice hk.A hk.n hk.c,.bool en,.bool (!en),.bool (!en)]
set_option maxRecDepth 100000 in
set_option maxHeartbeats 4000000 in
theorem rset11_1 (cC:Code) (hc:cC=codeSets11 Tryz.f39.body) (Ao:Option Addr) (go no co:Nat) (Am:Option Addr) (nm cm ga na ca k:Nat) (At:Option Addr) (nt ct:Nat) (B:Option Addr) (m d:Nat) (hk h0:Hdr) (ck c0:Int) (en:Bool) (a:Act) (w:World) (Q:Exit→Act→World→Prop)
 (hT:a.tmps.size=89) (t2:a.tmps.getD 2 undef = .slice B m d) (t9:a.tmps.getD 9 undef = .slice At nt ct) (t10:a.tmps.getD 10 undef = .slice Am nm cm) (t11:a.tmps.getD 11 undef = .slice (some ⟨ga,0,none⟩) na ca) (t12:a.tmps.getD 12 undef = .slice Ao 0 co) (t13:a.tmps.getD 13 undef = .int .i64 k)
 (CE:SetCells ga k hk w) (hkn:k<na) (_:na≤1000000)
 (C3:∀ W,Below w.heap.size w W→Calls Tryz.prog 93 #[.slice At nt ct,.slice B m d,.slice hk.A hk.n hk.c] W fun e w'=>e = .returned (.bool en)∧Below W.heap.size W w')
 (hQ:∀ W,Below w.heap.size w W→Q .normal { tmps:=setsL a.tmps 34 (Trset11_1 Ao go no co Am nm cm ga na ca k At nt ct B m d hk h0 ck c0 en),defers:=a.defers } W):
 cC.wp Tryz.prog Q a w:=by
 subst hc
 unfold codeSets11 Tryz.f39
 dsimp only
 refine wpIn_wide.1 (wpIn_region_flow (nn:=5) 89 (by kernel_rfl) (by kernel_rfl) (by kernel_rfl) hT (fun i=>(Trset11_1 Ao go no co Am nm cm ga na ca k At nt ct B m d hk h0 ck c0 en).getD i undef) (fun W=>Below w.heap.size w W) ((Below.refl _ _).drew) (fun b hE hold=> ?_) hQ)
 clear hQ
 have q2:=hold 2 _ (by kernel_rfl) t2
 have q9:=hold 9 _ (by kernel_rfl) t9
 have q10:=hold 10 _ (by kernel_rfl) t10
 have q11:=hold 11 _ (by kernel_rfl) t11
 have q12:=hold 12 _ (by kernel_rfl) t12
 have q13:=hold 13 _ (by kernel_rfl) t13
 simp only [factsL,Trset11_1,List.getD_cons_zero,List.getD_cons_succ,Nat.reduceAdd] at hE
 repeat' first|exact steps_nil|refine steps_skip rfl rfl ?_|refine steps_go rfl ?_ ?_
 all_goals (intro W hW;have x0:=CE W hW;simp only [Trset11_1,List.getD_cons_zero,List.getD_cons_succ,Nat.reduceAdd])
 all_goals first
  | (refine .inl ?_;go_simp;done)
  | (refine .inl ?_;go_simp;rfl)
  | (refine .inl ?_;go_simp;simp [*];done)
  | (refine .inr (.inr ⟨93,#[.slice At nt ct,.slice B m d,.slice hk.A hk.n hk.c],?_,(C3 W hW).mono ?_⟩)
     · go_simp<;>done
     · rintro e w' ⟨rfl,hb'⟩;exact ⟨rfl,(show Below _ _ _ from (show Below _ _ _ from hW).trans (hb'.mono (show Below _ _ _ from hW).size))⟩)
def Trset11_2 (_:Option Addr) (go no co:Nat) (Am:Option Addr) (nm cm ga na ca k:Nat) (_:Option Addr) (_ _:Nat) (_:Option Addr) (_ _:Nat) (hk h0:Hdr) (ck c0:Int) (_:Bool):List Value:=
 [.slice (some ⟨go,0,none⟩) no co,.int .i64 no,.bool true,.bool true,.slice Am nm cm,.slice (some ⟨ga,0,none⟩) na ca,.int .i64 k,.pointer (some ⟨ga,k,none⟩),.slice hk.A hk.n hk.c,.int .i64 ck,.slice Am nm cm,.slice (some ⟨go,0,none⟩) no co,.pointer (some ⟨go,0,none⟩),.slice h0.A h0.n h0.c,.int .i64 c0,.bool true,.bool true,.bool true,undef,undef,undef,undef,undef,undef,undef,undef,.bool true]
set_option maxRecDepth 100000 in
set_option maxHeartbeats 4000000 in
theorem rset11_2 (cC:Code) (hc:cC=codeSets11 Tryz.f39.body) (Ao:Option Addr) (go no co:Nat) (Am:Option Addr) (nm cm ga na ca k:Nat) (At:Option Addr) (nt ct:Nat) (B:Option Addr) (m d:Nat) (hk h0:Hdr) (ck c0:Int) (en:Bool) (a:Act) (w:World) (Q:Exit→Act→World→Prop)
 (hT:a.tmps.size=89) (t2:a.tmps.getD 2 undef = .slice B m d) (t9:a.tmps.getD 9 undef = .slice At nt ct) (t10:a.tmps.getD 10 undef = .slice Am nm cm) (t11:a.tmps.getD 11 undef = .slice (some ⟨ga,0,none⟩) na ca) (t12:a.tmps.getD 12 undef = .slice (some ⟨go,0,none⟩) no co) (t13:a.tmps.getD 13 undef = .int .i64 k)
 (CE:SetCells ga k hk w) (hkn:k<na) (_:na≤1000000) (CO:OutCell go h0 w) (_:decide ((no:Int)>0)=true) (hno1:0<no) (_:no≤1000000) (hr:decide (c0<ck)=true)
 (C1:∀ W,Below w.heap.size w W→Calls Tryz.prog 91 #[.slice Am nm cm,.slice hk.A hk.n hk.c] W fun e w'=>e = .returned (.int .i64 ck)∧Below W.heap.size W w')
 (C2:∀ W,Below w.heap.size w W→Calls Tryz.prog 91 #[.slice Am nm cm,.slice h0.A h0.n h0.c] W fun e w'=>e = .returned (.int .i64 c0)∧Below W.heap.size W w')
 (hQ:∀ W,Below w.heap.size w W→Q .normal { tmps:=setsL a.tmps 34 (Trset11_2 Ao go no co Am nm cm ga na ca k At nt ct B m d hk h0 ck c0 en),defers:=a.defers } W):
 cC.wp Tryz.prog Q a w:=by
 subst hc
 unfold codeSets11 Tryz.f39
 dsimp only
 refine wpIn_wide.1 (wpIn_region_flow (nn:=5) 89 (by kernel_rfl) (by kernel_rfl) (by kernel_rfl) hT (fun i=>(Trset11_2 Ao go no co Am nm cm ga na ca k At nt ct B m d hk h0 ck c0 en).getD i undef) (fun W=>Below w.heap.size w W) ((Below.refl _ _).drew) (fun b hE hold=> ?_) hQ)
 clear hQ
 have q2:=hold 2 _ (by kernel_rfl) t2
 have q9:=hold 9 _ (by kernel_rfl) t9
 have q10:=hold 10 _ (by kernel_rfl) t10
 have q11:=hold 11 _ (by kernel_rfl) t11
 have q12:=hold 12 _ (by kernel_rfl) t12
 have q13:=hold 13 _ (by kernel_rfl) t13
 simp only [factsL,Trset11_2,List.getD_cons_zero,List.getD_cons_succ,Nat.reduceAdd] at hE
 repeat' first|exact steps_nil|refine steps_skip rfl rfl ?_|refine steps_go rfl ?_ ?_
 all_goals (intro W hW;have x0:=CE W hW;have x1:=CO W hW;simp only [Trset11_2,List.getD_cons_zero,List.getD_cons_succ,Nat.reduceAdd])
 all_goals first
  | (refine .inl ?_;go_simp;done)
  | (refine .inl ?_;go_simp;rfl)
  | (refine .inl ?_;go_simp;simp [*];done)
  | (refine .inl ?_;go_simp;rw [hr])
  | (refine .inr (.inr ⟨91,#[.slice Am nm cm,.slice hk.A hk.n hk.c],?_,(C1 W hW).mono ?_⟩)
     · go_simp<;>done
     · rintro e w' ⟨rfl,hb'⟩;exact ⟨rfl,(show Below _ _ _ from (show Below _ _ _ from hW).trans (hb'.mono (show Below _ _ _ from hW).size))⟩)
  | (refine .inr (.inr ⟨91,#[.slice Am nm cm,.slice h0.A h0.n h0.c],?_,(C2 W hW).mono ?_⟩)
     · go_simp<;>done
     · rintro e w' ⟨rfl,hb'⟩;exact ⟨rfl,(show Below _ _ _ from (show Below _ _ _ from hW).trans (hb'.mono (show Below _ _ _ from hW).size))⟩)
def Trset11_3 (_:Option Addr) (go no co:Nat) (Am:Option Addr) (nm cm ga na ca k:Nat) (At:Option Addr) (nt ct:Nat) (B:Option Addr) (m d:Nat) (hk h0:Hdr) (ck c0:Int) (en:Bool):List Value:=
 [.slice (some ⟨go,0,none⟩) no co,.int .i64 no,.bool true,.bool true,.slice Am nm cm,.slice (some ⟨ga,0,none⟩) na ca,.int .i64 k,.pointer (some ⟨ga,k,none⟩),.slice hk.A hk.n hk.c,.int .i64 ck,.slice Am nm cm,.slice (some ⟨go,0,none⟩) no co,.pointer (some ⟨go,0,none⟩),.slice h0.A h0.n h0.c,.int .i64 c0,.bool false,.bool false,.bool false,.slice At nt ct,.slice B m d,.slice (some ⟨ga,0,none⟩) na ca,.int .i64 k,.pointer (some ⟨ga,k,none⟩),.slice hk.A hk.n hk.c,.bool en,.bool (!en),.bool (!en)]
set_option maxRecDepth 100000 in
set_option maxHeartbeats 4000000 in
theorem rset11_3 (cC:Code) (hc:cC=codeSets11 Tryz.f39.body) (Ao:Option Addr) (go no co:Nat) (Am:Option Addr) (nm cm ga na ca k:Nat) (At:Option Addr) (nt ct:Nat) (B:Option Addr) (m d:Nat) (hk h0:Hdr) (ck c0:Int) (en:Bool) (a:Act) (w:World) (Q:Exit→Act→World→Prop)
 (hT:a.tmps.size=89) (t2:a.tmps.getD 2 undef = .slice B m d) (t9:a.tmps.getD 9 undef = .slice At nt ct) (t10:a.tmps.getD 10 undef = .slice Am nm cm) (t11:a.tmps.getD 11 undef = .slice (some ⟨ga,0,none⟩) na ca) (t12:a.tmps.getD 12 undef = .slice (some ⟨go,0,none⟩) no co) (t13:a.tmps.getD 13 undef = .int .i64 k)
 (CE:SetCells ga k hk w) (hkn:k<na) (_:na≤1000000) (CO:OutCell go h0 w) (_:decide ((no:Int)>0)=true) (hno1:0<no) (_:no≤1000000) (hr:decide (c0<ck)=false)
 (C1:∀ W,Below w.heap.size w W→Calls Tryz.prog 91 #[.slice Am nm cm,.slice hk.A hk.n hk.c] W fun e w'=>e = .returned (.int .i64 ck)∧Below W.heap.size W w')
 (C2:∀ W,Below w.heap.size w W→Calls Tryz.prog 91 #[.slice Am nm cm,.slice h0.A h0.n h0.c] W fun e w'=>e = .returned (.int .i64 c0)∧Below W.heap.size W w')
 (C3:∀ W,Below w.heap.size w W→Calls Tryz.prog 93 #[.slice At nt ct,.slice B m d,.slice hk.A hk.n hk.c] W fun e w'=>e = .returned (.bool en)∧Below W.heap.size W w')
 (hQ:∀ W,Below w.heap.size w W→Q .normal { tmps:=setsL a.tmps 34 (Trset11_3 Ao go no co Am nm cm ga na ca k At nt ct B m d hk h0 ck c0 en),defers:=a.defers } W):
 cC.wp Tryz.prog Q a w:=by
 subst hc
 unfold codeSets11 Tryz.f39
 dsimp only
 refine wpIn_wide.1 (wpIn_region_flow (nn:=5) 89 (by kernel_rfl) (by kernel_rfl) (by kernel_rfl) hT (fun i=>(Trset11_3 Ao go no co Am nm cm ga na ca k At nt ct B m d hk h0 ck c0 en).getD i undef) (fun W=>Below w.heap.size w W) ((Below.refl _ _).drew) (fun b hE hold=> ?_) hQ)
 clear hQ
 have q2:=hold 2 _ (by kernel_rfl) t2
 have q9:=hold 9 _ (by kernel_rfl) t9
 have q10:=hold 10 _ (by kernel_rfl) t10
 have q11:=hold 11 _ (by kernel_rfl) t11
 have q12:=hold 12 _ (by kernel_rfl) t12
 have q13:=hold 13 _ (by kernel_rfl) t13
 simp only [factsL,Trset11_3,List.getD_cons_zero,List.getD_cons_succ,Nat.reduceAdd] at hE
 repeat' first|exact steps_nil|refine steps_skip rfl rfl ?_|refine steps_go rfl ?_ ?_
 all_goals (intro W hW;have x0:=CE W hW;have x1:=CO W hW;simp only [Trset11_3,List.getD_cons_zero,List.getD_cons_succ,Nat.reduceAdd])
 all_goals first
  | (refine .inl ?_;go_simp;done)
  | (refine .inl ?_;go_simp;rfl)
  | (refine .inl ?_;go_simp;simp [*];done)
  | (refine .inl ?_;go_simp;rw [hr])
  | (refine .inr (.inr ⟨91,#[.slice Am nm cm,.slice hk.A hk.n hk.c],?_,(C1 W hW).mono ?_⟩)
     · go_simp<;>done
     · rintro e w' ⟨rfl,hb'⟩;exact ⟨rfl,(show Below _ _ _ from (show Below _ _ _ from hW).trans (hb'.mono (show Below _ _ _ from hW).size))⟩)
  | (refine .inr (.inr ⟨91,#[.slice Am nm cm,.slice h0.A h0.n h0.c],?_,(C2 W hW).mono ?_⟩)
     · go_simp<;>done
     · rintro e w' ⟨rfl,hb'⟩;exact ⟨rfl,(show Below _ _ _ from (show Below _ _ _ from hW).trans (hb'.mono (show Below _ _ _ from hW).size))⟩)
  | (refine .inr (.inr ⟨93,#[.slice At nt ct,.slice B m d,.slice hk.A hk.n hk.c],?_,(C3 W hW).mono ?_⟩)
     · go_simp<;>done
     · rintro e w' ⟨rfl,hb'⟩;exact ⟨rfl,(show Below _ _ _ from (show Below _ _ _ from hW).trans (hb'.mono (show Below _ _ _ from hW).size))⟩)
def codeSets12:Option Code→Code
 | some (.seq _ (.seq _ (.seq _ (.seq _ (.seq _ (.seq _ (.seq _ (.seq (.seq _ (.block _ (.loop (.seq _ (.seq (.block _ (.seq _ (.seq (.seq c _) _))) _))))) _))))))))=>c
 | _=> .skip
def Trset12_1 (Ao:Option Addr) (_ _ co:Nat) (_:Option Addr) (_ _ _ _ _ _:Nat) (_:Option Addr) (_ _:Nat) (_:Option Addr) (_ _:Nat) (_ _:Hdr) (_ _:Int) (_:Bool):List Value:=
 [.slice Ao 0 co,.int .i64 0,.bool false,.bool false,undef,undef,undef,undef,undef,undef,undef,undef,undef,undef,undef,undef,.bool false]
set_option maxRecDepth 100000 in
set_option maxHeartbeats 4000000 in
theorem rset12_1 (cC:Code) (hc:cC=codeSets12 Tryz.f39.body) (Ao:Option Addr) (go no co:Nat) (Am:Option Addr) (nm cm ga na ca k:Nat) (At:Option Addr) (nt ct:Nat) (B:Option Addr) (m d:Nat) (hk h0:Hdr) (ck c0:Int) (en:Bool) (a:Act) (w:World) (Q:Exit→Act→World→Prop)
 (hT:a.tmps.size=89) (t10:a.tmps.getD 10 undef = .slice Am nm cm) (t11:a.tmps.getD 11 undef = .slice (some ⟨ga,0,none⟩) na ca) (t12:a.tmps.getD 12 undef = .slice Ao 0 co) (t13:a.tmps.getD 13 undef = .int .i64 k)
 (CE:SetCells ga k hk w) (_:k<na) (_:na≤1000000)
 (hQ:∀ W,Below w.heap.size w W→Q .normal { tmps:=setsL a.tmps 61 (Trset12_1 Ao go no co Am nm cm ga na ca k At nt ct B m d hk h0 ck c0 en),defers:=a.defers } W):
 cC.wp Tryz.prog Q a w:=by
 subst hc
 unfold codeSets12 Tryz.f39
 dsimp only
 refine wpIn_wide.1 (wpIn_region_flow (nn:=5) 89 (by kernel_rfl) (by kernel_rfl) (by kernel_rfl) hT (fun i=>(Trset12_1 Ao go no co Am nm cm ga na ca k At nt ct B m d hk h0 ck c0 en).getD i undef) (fun W=>Below w.heap.size w W) ((Below.refl _ _).drew) (fun b hE hold=> ?_) hQ)
 clear hQ
 have q10:=hold 10 _ (by kernel_rfl) t10
 have q11:=hold 11 _ (by kernel_rfl) t11
 have q12:=hold 12 _ (by kernel_rfl) t12
 have q13:=hold 13 _ (by kernel_rfl) t13
 simp only [factsL,Trset12_1,List.getD_cons_zero,List.getD_cons_succ,Nat.reduceAdd] at hE
 repeat' first|exact steps_nil|refine steps_skip rfl rfl ?_|refine steps_go rfl ?_ ?_
 all_goals (intro W hW;have x0:=CE W hW;simp only [Trset12_1,List.getD_cons_zero,List.getD_cons_succ,Nat.reduceAdd])
 all_goals first
  | (refine .inl ?_;go_simp;done)
  | (refine .inl ?_;go_simp;rfl)
  | (refine .inl ?_;go_simp;simp [*];done)
def Trset12_2 (_:Option Addr) (go no co:Nat) (Am:Option Addr) (nm cm ga na ca k:Nat) (_:Option Addr) (_ _:Nat) (_:Option Addr) (_ _:Nat) (hk h0:Hdr) (ck c0:Int) (_:Bool) (r:Bool):List Value:=
 [.slice (some ⟨go,0,none⟩) no co,.int .i64 no,.bool true,.bool true,.slice Am nm cm,.slice (some ⟨ga,0,none⟩) na ca,.int .i64 k,.pointer (some ⟨ga,k,none⟩),.slice hk.A hk.n hk.c,.int .i64 ck,.slice Am nm cm,.slice (some ⟨go,0,none⟩) no co,.pointer (some ⟨go,0,none⟩),.slice h0.A h0.n h0.c,.int .i64 c0,.bool r,.bool r]
set_option maxRecDepth 100000 in
set_option maxHeartbeats 4000000 in
theorem rset12_2 (cC:Code) (hc:cC=codeSets12 Tryz.f39.body) (Ao:Option Addr) (go no co:Nat) (Am:Option Addr) (nm cm ga na ca k:Nat) (At:Option Addr) (nt ct:Nat) (B:Option Addr) (m d:Nat) (hk h0:Hdr) (ck c0:Int) (en:Bool) (r:Bool) (a:Act) (w:World) (Q:Exit→Act→World→Prop)
 (hT:a.tmps.size=89) (t10:a.tmps.getD 10 undef = .slice Am nm cm) (t11:a.tmps.getD 11 undef = .slice (some ⟨ga,0,none⟩) na ca) (t12:a.tmps.getD 12 undef = .slice (some ⟨go,0,none⟩) no co) (t13:a.tmps.getD 13 undef = .int .i64 k)
 (CE:SetCells ga k hk w) (hkn:k<na) (_:na≤1000000) (CO:OutCell go h0 w) (_:decide ((no:Int)>0)=true) (hno1:0<no) (_:no≤1000000) (hr:decide (ck<c0)=r)
 (C1:∀ W,Below w.heap.size w W→Calls Tryz.prog 91 #[.slice Am nm cm,.slice hk.A hk.n hk.c] W fun e w'=>e = .returned (.int .i64 ck)∧Below W.heap.size W w')
 (C2:∀ W,Below w.heap.size w W→Calls Tryz.prog 91 #[.slice Am nm cm,.slice h0.A h0.n h0.c] W fun e w'=>e = .returned (.int .i64 c0)∧Below W.heap.size W w')
 (hQ:∀ W,Below w.heap.size w W→Q .normal { tmps:=setsL a.tmps 61 (Trset12_2 Ao go no co Am nm cm ga na ca k At nt ct B m d hk h0 ck c0 en r),defers:=a.defers } W):
 cC.wp Tryz.prog Q a w:=by
 subst hc
 unfold codeSets12 Tryz.f39
 dsimp only
 refine wpIn_wide.1 (wpIn_region_flow (nn:=5) 89 (by kernel_rfl) (by kernel_rfl) (by kernel_rfl) hT (fun i=>(Trset12_2 Ao go no co Am nm cm ga na ca k At nt ct B m d hk h0 ck c0 en r).getD i undef) (fun W=>Below w.heap.size w W) ((Below.refl _ _).drew) (fun b hE hold=> ?_) hQ)
 clear hQ
 have q10:=hold 10 _ (by kernel_rfl) t10
 have q11:=hold 11 _ (by kernel_rfl) t11
 have q12:=hold 12 _ (by kernel_rfl) t12
 have q13:=hold 13 _ (by kernel_rfl) t13
 simp only [factsL,Trset12_2,List.getD_cons_zero,List.getD_cons_succ,Nat.reduceAdd] at hE
 repeat' first|exact steps_nil|refine steps_skip rfl rfl ?_|refine steps_go rfl ?_ ?_
 all_goals (intro W hW;have x0:=CE W hW;have x1:=CO W hW;simp only [Trset12_2,List.getD_cons_zero,List.getD_cons_succ,Nat.reduceAdd])
 all_goals first
  | (refine .inl ?_;go_simp;done)
  | (refine .inl ?_;go_simp;rfl)
  | (refine .inl ?_;go_simp;simp [*];done)
  | (refine .inl ?_;go_simp;rw [hr])
  | (refine .inr (.inr ⟨91,#[.slice Am nm cm,.slice hk.A hk.n hk.c],?_,(C1 W hW).mono ?_⟩)
     · go_simp<;>done
     · rintro e w' ⟨rfl,hb'⟩;exact ⟨rfl,(show Below _ _ _ from (show Below _ _ _ from hW).trans (hb'.mono (show Below _ _ _ from hW).size))⟩)
  | (refine .inr (.inr ⟨91,#[.slice Am nm cm,.slice h0.A h0.n h0.c],?_,(C2 W hW).mono ?_⟩)
     · go_simp<;>done
     · rintro e w' ⟨rfl,hb'⟩;exact ⟨rfl,(show Below _ _ _ from (show Below _ _ _ from hW).trans (hb'.mono (show Below _ _ _ from hW).size))⟩)
end Go.Proofs.YtelnkflmnbhclaaGreat
end
section
namespace Go.Proofs.YtelnkflmnbhclaaGreat
open Go.RowKit Go.Proofs Go.Shelf
theorem sets_snoc {ads:List Admit} {en:List Place→Bool} {RS out:List (List Place)} {k:Nat} {s:List Place} (hs:RS[k]? = some s) (h:(RS.take k).foldl (setsStepR ads en) []=out):(RS.take (k+1)).foldl (setsStepR ads en) []=setsStepR ads en out s:=by
 rw [List.take_add_one,hs,Option.toList_some,List.foldl_append,h];rfl
set_option maxHeartbeats 8000000 in
set_option maxRecDepth 100000 in
theorem rSets_any (A:Option Addr) (n c:Nat) (l:List Trace) (known:Int) (B:Option Addr) (m d:Nat) (bs:List Bond) (w:World) (hl:Rd encTrace 10 w A n c l) (hb:Rd encBond 5 w B m d bs):
 Calls Tryz.prog 39 #[.slice A n c,.int .i64 known,.slice B m d] w fun e w'=> ∃ A' c',e = .returned (.tuple #[.slice A' (setsV l known bs).1.length c',.int .i64 (setsV l known bs).2])∧Below w.heap.size w w'∧SetsAt w.heap.size w' A' c' (setsV l known bs).1:=by
 have HA:=Lib.hid (rAsked_any A n c l known B m d bs w hl hb)
 by_cases he:askErr l known bs=0
 case neg=>
  have hv:setsV l known bs=([],askErr l known bs):=by unfold setsV;rw [if_pos he]
  rw [hv]
  have he':=neBool he
  clear hv he hl hb
  generalize askErr l known bs=er at *
  go_enter Tryz.func39,Tryz.ntmps39
  go_wp2_with (go_at_call 80;(with_reducible refine HA.out.mono ?_);rintro e w2 ⟨rfl,hb2⟩;have HB2:=Lib.hid hb2;clear hb2)
  go_ret2
  exact ⟨none,0,rfl,HB2.out,SetsAt.none_ _ _⟩
 case pos=>
  have hf:=ordFacts he
  have hO:=hf.o
  have hck:(check l).2=0:=by rcases askErr_cases l known bs with ⟨h,h'⟩|⟨h,_⟩|⟨h,_⟩|⟨h,_⟩|⟨h,_⟩<;>first|exact h|exact absurd (h'.symm.trans he) h
  have hs1:=check_small hck
  have hln:=hl.len
  have hl1:=hO.tn
  have h8:=hf.a8
  have heq:=(setsR_eq (admitsOf_asc (counting l known)) h8 (enough (counting l known) bs)).1
  have hv:setsV l known bs=if setsR (admitsOf (counting l known)) (enough (counting l known) bs) = [] then ([],81) else (setsR (admitsOf (counting l known)) (enough (counting l known) bs),0):=by
   unfold setsV;rw [if_neg (by simpa using he),←heq];rfl
  rw [hv]
  rw [he] at HA
  have HK:=Lib.hid (fun W (h:Below w.heap.size w W)=>rcounting_any A n c l known W (hl.below h (Nat.le_refl _)) (by omega))
  have HM:=Lib.hid (fun W A4 m4 c4 (hr:Rd encTrace 10 W A4 m4 c4 (counting l known))=>rmovable_any A4 m4 c4 (counting l known) W hr (by have:=hr.len;omega))
  have HSB:=Lib.hid (fun W A5 c5 (hr:Rd encAdmit 4 W A5 (admitsOf (counting l known)).length c5 (admitsOf (counting l known)))=>rsubs_any (admitsOf (counting l known)) A5 _ c5 W hr h8)
  have HCO:=Lib.hid (fun W A5 c5 S sn sc set (hr:Rd encAdmit 4 W A5 (admitsOf (counting l known)).length c5 (admitsOf (counting l known))) (hs:Rd encPlace 2 W S sn sc set)=>rcost_any A5 _ c5 (admitsOf (counting l known)) S sn sc set W hr hs h8 hf.cost)
  have HEN:=Lib.hid (fun W A4 m4 c4 S sn sc set (h:Below w.heap.size w W) (hr:Rd encTrace 10 W A4 m4 c4 (counting l known)) (hs:Rd encPlace 2 W S sn sc set)=>renough_any A4 m4 c4 (counting l known) B m d bs S sn sc set W hr (hb.below h (Nat.le_refl _)) hs hO hf.t)
  have hN:(subsR ((admitsOf (counting l known)).map (·.place))).length≤256:=by
   rw [subsR_len,List.length_map]
   exact Nat.le_trans (Nat.pow_le_pow_right (by omega) h8) (by decide)
  have HSM:Hid (∀ s∈subsR ((admitsOf (counting l known)).map (·.place)),s.length≤8):=(show ∀ s∈_,_ from fun s hs=>by
   have:=subsR_small hs
   rw [List.length_map] at this;omega)
  have hN0:0<(subsR ((admitsOf (counting l known)).map (·.place))).length:=by
   rw [subsR_len];exact Nat.two_pow_pos _
  have hSR:setsR (admitsOf (counting l known)) (enough (counting l known) bs)=(subsR ((admitsOf (counting l known)).map (·.place))).foldl (setsStepR (admitsOf (counting l known)) (enough (counting l known) bs)) []:=rfl
  rw [hSR]
  have hcl:(counting l known).length≤17592186044416:=by omega
  clear hv heq he hf hO hck hs1 hln hl1 hl hb hSR
  generalize subsR ((admitsOf (counting l known)).map (·.place))=RS at *
  generalize admitsOf (counting l known)=ads at *
  obtain ⟨en,hen⟩:∃ en,enough (counting l known) bs=en:=⟨_,rfl⟩
  have HEN2:Hid (∀ W A4 m4 c4 S sn sc set,Below w.heap.size w W→Rd encTrace 10 W A4 m4 c4 (counting l known)→Rd encPlace 2 W S sn sc set→Calls Tryz.prog 93 #[.slice A4 m4 c4,.slice B m d,.slice S sn sc] W fun e w'=>e = .returned (.bool (en set))∧Below W.heap.size W w'):=
   (show ∀ W A4 m4 c4 S sn sc set,_→_→_→_ from fun W A4 m4 c4 S sn sc set h1 h2 h3=>by have:=HEN.out W A4 m4 c4 S sn sc set h1 h2 h3;rw [←hen];exact this)
  rw [hen]
  clear HEN hen
  generalize counting l known=ts at *
  obtain ⟨bv,hbv⟩:∃ bv:List (List Place)×Int,(if RS.foldl (setsStepR ads en) [] = [] then ([],81) else (RS.foldl (setsStepR ads en) [],0))=bv:=⟨_,rfl⟩
  rw [hbv]
  have HBV:=Lib.hid hbv
  clear hbv
  go_enter Tryz.func39,Tryz.ntmps39
  go_wp2_with (first
   | (go_at_call 80;(with_reducible refine HA.out.mono ?_);rintro e w2 ⟨rfl,hb2⟩;have HB2:=Lib.hid hb2;clear hb2)
   | (go_at_call 83;(with_reducible refine (HK.out _ HB2.out).mono ?_);rintro e w4 ⟨A4,m4,c4,rfl,hO4,hb4⟩
      have HB4:=Lib.hid (HB2.out.trans (hb4.mono HB2.out.size))
      have hm4:=hO4.len
      have HR4:=Lib.hid (hO4.rd (fun _=>rfl) (by omega))
      clear hb4 hO4 hm4)
   | (go_at_call 84;(with_reducible refine (HM.out _ _ _ _ HR4.out).mono ?_);rintro e w5 ⟨A5,c5,rfl,hR5,hb5⟩
      have HB5:=Lib.hid (HB4.out.trans (hb5.mono HB4.out.size))
      have HT5:=Lib.hid (HR4.out.below hb5 (Nat.le_refl _))
      have HR5:=Lib.hid hR5
      clear hb5 hR5)
   | (go_at_call 92;(with_reducible refine (HSB.out _ _ _ HR5.out).mono ?_);rintro e w6 ⟨A6,c6,rfl,hb6,hS6⟩
      have HB6:=Lib.hid (HB5.out.trans (hb6.mono HB5.out.size))
      have HT6:=Lib.hid (HT5.out.below hb6 (Nat.le_refl _))
      have HR6:=Lib.hid (HR5.out.below hb6 (Nat.le_refl _))
      have HZ56:=Lib.hid hb6.size
      have HS6:=Lib.hid hS6
      clear hb6 hS6))
  obtain ⟨ha,o1,o2⟩:=HS6.out
  have HAL:=Lib.hid o1.len
  have HO1:=Lib.hid o1
  have HO2:=Lib.hid o2
  obtain ⟨ga,rfl⟩:∃ ga,A6=some ⟨ga,0,none⟩:=by
   rcases o1.form with ⟨_,h0,_⟩|⟨g,h,_⟩
   · omega
   · exact ⟨g,h⟩
  have hgal:=o1.lt.2
  have hz6:=HB6.out.size
  clear o1 o2 HS6
  go_loopw [12,13] (fun s12 s13 wr=> ∃ (k:Nat) (A':Option Addr) (c':Nat) (out:List (List Place)) (hs:List Hdr),k≤RS.length∧s12 = .slice A' out.length c'∧s13 = .int .i64 k∧Hid (Below w6.heap.size w6 wr)∧Hid ((RS.take k).foldl (setsStepR ads en) []=out)∧Hid (Own encHdr 1 30 w6.heap.size wr A' out.length c' hs)∧Hid (∀ (i:Nat) (h:Hdr) (s:List Place),hs[i]? = some h→out[i]? = some s→∃ j:Nat,ha[j]? = some h∧RS[j]? = some s)∧out.length≤k) (fun _ s13 _=>RS.length-(intOf s13).toNat)
  case atStart=>exact ⟨0,none,0,[],[],Nat.zero_le _,rfl,rfl,(show Below _ _ _ from Below.refl _ _),(show _=_ from rfl),(show Own _ _ _ _ _ _ _ _ _ from Own.none_ _ _ _ _ _),(show ∀ (i:Nat) (h:Hdr) (s:List Place),_→_→_ from fun i h s hi=>by simp at hi),Nat.le_refl _⟩
  case round=>
   obtain ⟨k,A',c',out,hs,hk,rfl,rfl,hbl,hst,hO,hel,hol⟩:=hrel
   rename World=>wo
   have hzo:=hbl.out.size
   by_cases hlt:k<RS.length
   · obtain ⟨hk_,hhk⟩:∃ h,ha[k]? = some h:=⟨_,List.getElem?_eq_getElem (by have:=HAL.out;omega)⟩
     obtain ⟨sk,hsk⟩:∃ s,RS[k]? = some s:=⟨_,List.getElem?_eq_getElem hlt⟩
     have HHK:=Lib.hid hhk
     have HSK:=Lib.hid hsk
     have hsk8:=HSM.out sk (List.mem_of_getElem? hsk)
     have EL:Hid (∀ (W:World) (j:Nat) (h:Hdr) (s:List Place),Below w6.heap.size w6 W→ha[j]? = some h→RS[j]? = some s→Rd encPlace 2 W h.A h.n h.c s):=(show ∀ (W:World) (j:Nat) (h:Hdr) (s:List Place),_→_→_→_ from fun W j h s hW h1 h2=>by
      obtain ⟨a,b⟩:=HO2.out j h s h1 h2
      have h3:=HSM.out s (List.mem_of_getElem? h2)
      rw [a]
      exact (b.below hW (Nat.le_refl _)).rd (fun _=>rfl) (by omega))
     have CE:Hid (SetCells ga k hk_ wo):=(show SetCells ga k hk_ wo from fun W hW=>by
      have:=((HO1.out.below (hbl.out.trans (hW.mono hzo)) (Nat.le_refl _))).cells (fun _=>rfl) hhk 0 _ rfl
      rw [Nat.mul_one,Nat.add_zero] at this
      exact this)
     obtain ⟨ck,hck⟩:∃ ck,costR ads sk=ck:=⟨_,rfl⟩
     obtain ⟨es,hes⟩:∃ es,en sk=es:=⟨_,rfl⟩
     have HCK:=Lib.hid hck
     have HES:=Lib.hid hes
     have C1:Hid (∀ W,Below wo.heap.size wo W→Calls Tryz.prog 91 #[.slice A5 ads.length c5,.slice hk_.A hk_.n hk_.c] W fun e w'=>e = .returned (.int .i64 ck)∧Below W.heap.size W w'):=
      (show ∀ W,_→_ from fun W hW=>by have:=HCO.out W A5 c5 hk_.A hk_.n hk_.c sk (HR6.out.below (hbl.out.trans (hW.mono hzo)) (Nat.le_refl _)) (EL.out W k hk_ sk (hbl.out.trans (hW.mono hzo)) hhk hsk);rw [hck] at this;exact this)
     have C3:Hid (∀ W,Below wo.heap.size wo W→Calls Tryz.prog 93 #[.slice A4 m4 c4,.slice B m d,.slice hk_.A hk_.n hk_.c] W fun e w'=>e = .returned (.bool es)∧Below W.heap.size W w'):=
      (show ∀ W,_→_ from fun W hW=>by have:=HEN2.out W A4 m4 c4 hk_.A hk_.n hk_.c sk (HB6.out.trans ((hbl.out.trans (hW.mono hzo)).mono hz6)) (HT6.out.below (hbl.out.trans (hW.mono hzo)) (Nat.le_refl _)) (EL.out W k hk_ sk (hbl.out.trans (hW.mono hzo)) hhk hsk);rw [hes] at this;exact this)
     have HST:=Lib.hid (sets_snoc (ads:=ads) (en:=en) hsk hst.out)
     clear hhk hsk hck hes
     cases out with
     | nil=>
       have hhs:hs = []:=List.eq_nil_of_length_eq_zero hO.out.len
       cases es with
       | false=>
         go_upto_region 11 with (fail)
         refine rset11_1 _ rfl A' 0 0 c' A5 ads.length c5 ga RS.length c6 k A4 m4 c4 B m d hk_ hk_ ck 0 false _ wo _ rfl rfl rfl rfl rfl rfl rfl CE.out hlt (by omega) C3.out ?_
         intro w7 hb7
         have HB7:=Lib.hid (hbl.out.trans (hb7.mono hzo))
         have HO7:=Lib.hid (hO.out.below hb7 (Nat.le_refl _))
         clear hb7
         simp only [setsL,Trset11_1,Nat.reduceAdd,List.setIfInBounds_toArray,List.set_cons_succ,List.set_cons_zero]
         go_wp2
         go_roundw
         all_goals first
          | (simp [intOf];omega)
          | exact ⟨k+1,A',c',[],hs,by omega,rfl,by go_num,HB7.out,(show _=_ by rw [HST.out];unfold setsStepR;rw [if_pos (.inr HES.out)]),HO7.out,hel,by omega⟩
       | true=>
         go_upto_region 11 with (fail)
         refine rset11_1 _ rfl A' 0 0 c' A5 ads.length c5 ga RS.length c6 k A4 m4 c4 B m d hk_ hk_ ck 0 true _ wo _ rfl rfl rfl rfl rfl rfl rfl CE.out hlt (by omega) C3.out ?_
         intro w7 hb7
         have HB7:=Lib.hid (hbl.out.trans (hb7.mono hzo))
         have HC7:=Lib.hid hb7
         clear hb7
         simp only [setsL,Trset11_1,Nat.reduceAdd,List.setIfInBounds_toArray,List.set_cons_succ,List.set_cons_zero]
         go_upto_region 12 with (fail)
         refine rset12_1 _ rfl A' 0 0 c' A5 ads.length c5 ga RS.length c6 k A4 m4 c4 B m d hk_ hk_ ck 0 true _ w7 _ rfl rfl rfl rfl rfl (fun W h=>CE.out W (HC7.out.trans (h.mono HC7.out.size))) hlt (by omega) ?_
         intro w8 hb8
         have HB8:=Lib.hid (HB7.out.trans (hb8.mono HB7.out.size))
         have CE8:Hid (w8.cell? ⟨ga,k,none⟩=some (.slice hk_.A hk_.n hk_.c)):=(show _=_ from CE.out w8 (HC7.out.trans (hb8.mono HC7.out.size)))
         have HC8:=Lib.hid (HC7.out.trans (hb8.mono HC7.out.size))
         clear hb8
         simp only [setsL,Trset12_1,Nat.reduceAdd,List.setIfInBounds_toArray,List.set_cons_succ,List.set_cons_zero]
         have hown:Own encHdr 1 30 w6.heap.size (w8.alloc (.cells #[.slice hk_.A hk_.n hk_.c] 30)) A' 0 c' []:=(by have h:=(by have h1:=hO.out;rw [hhs] at h1;exact h1.below HC8.out (Nat.le_refl _):Own encHdr 1 30 w6.heap.size w8 A' 0 c' []);exact h.alloc _)
         have hrd8:=Rd.single (enc:=encHdr) (k:=1) w8 #[.slice hk_.A hk_.n hk_.c] 30 [hk_] 1 rfl (by omega) (fun _=>rfl) (by simp [encHdr,hdrV])
         have HBA:=Lib.hid (HB8.out.alloc HB8.out.size (.cells #[.slice hk_.A hk_.n hk_.c] 30))
         have x8:=CE8.out
         have hg8l:ga<w8.heap.size:=(by have:=HB8.out.size;omega)
         go_wp2_with (at_builtin;refine wpList_append_src elSets (fun _=>rfl) oneHdr rfl _ _ rfl _ _ _ _ rfl rfl hown hrd8 (by omega) (by decide) (by simp;have:=HB8.out.size;omega) ?_;intro A9 c9 w9 hO9 hg9 hA9
                      have HB9:=Lib.hid (HBA.out.grown hg9 (by simp;have:=HB8.out.size;omega) (fun j e=>hown.ltB j e))
                      have HO9:=Lib.hid hO9
                      clear hO9 hg9 hA9)
         go_roundw
         all_goals first
          | (simp [intOf];omega)
          | exact ⟨k+1,A9,c9,[] ++ [sk],[] ++ [hk_],by omega,by simp,by go_num,HB9.out,(show _=_ by rw [HST.out];unfold setsStepR;rw [if_neg (by rintro (h|h);exact absurd h.1 (by simp);rw [HES.out] at h;cases h),if_neg (by simp)]),(show Own _ _ _ _ _ _ _ _ _ by rw [List.length_append];exact HO9.out),(show ∀ (i:Nat) (h:Hdr) (s:List Place),_→_→_ from fun i h s h1 h2=>by
             match i,h1,h2 with
             | 0,h1,h2=>simp at h1 h2;exact ⟨k,by rw [HHK.out,h1],by rw [HSK.out,h2]⟩
             | i+1,h1,h2=>simp at h1),(by simp only [List.length_append,List.length_cons,List.length_nil];omega)⟩
     | cons s0 out=>
       have hhs:∃ h0_ hs',hs=h0_::hs':=by
        have:=hO.out.len
        cases hs with
        | nil=>simp at this
        | cons h0_ hs'=>exact ⟨h0_,hs',rfl⟩
       obtain ⟨h0_,hs',rfl⟩:=hhs
       obtain ⟨go_,rfl⟩:∃ g,A'=some ⟨g,0,none⟩:=by
        rcases hO.out.form with ⟨_,h0,_⟩|⟨g,h,_⟩
        · simp at h0
        · exact ⟨g,h⟩
       have hgo:=hO.out.lt
       obtain ⟨j0,hj1,hj2⟩:=hel.out 0 h0_ s0 rfl rfl
       have CO:Hid (OutCell go_ h0_ wo):=(show OutCell go_ h0_ wo from fun W hW=>by
        have:=(hO.out.below hW (Nat.le_refl _)).cells (fun _=>rfl) (i:=0) (x:=h0_) rfl 0 _ rfl
        rw [Nat.zero_mul,Nat.add_zero] at this
        exact this)
       obtain ⟨c0,hc0⟩:∃ c0,costR ads s0=c0:=⟨_,rfl⟩
       have HC0:=Lib.hid hc0
       have C2:Hid (∀ W,Below wo.heap.size wo W→Calls Tryz.prog 91 #[.slice A5 ads.length c5,.slice h0_.A h0_.n h0_.c] W fun e w'=>e = .returned (.int .i64 c0)∧Below W.heap.size W w'):=
        (show ∀ W,_→_ from fun W hW=>by have:=HCO.out W A5 c5 h0_.A h0_.n h0_.c s0 (HR6.out.below (hbl.out.trans (hW.mono hzo)) (Nat.le_refl _)) (EL.out W j0 h0_ s0 (hbl.out.trans (hW.mono hzo)) hj1 hj2);rw [hc0] at this;exact this)
       have hno:decide (((out.length+1:Nat):Int)>0)=true:=decide_eq_true (by omega)
       have HNO:=Lib.hid hno
       have holl:out.length+1≤k:=hol
       clear hj1 hj2 hc0 hno
       by_cases hlt0:c0<ck
       · have HR0:Hid (decide (c0<ck)=true):=(show _=_ from decide_eq_true hlt0)
         have HGT:Hid (costR ads s0<costR ads sk):=(show _<_ by rw [HC0.out,HCK.out];exact hlt0)
         clear hlt0
         go_upto_region 11 with (fail)
         refine rset11_2 _ rfl (some ⟨go_,0,none⟩) go_ (out.length+1) c' A5 ads.length c5 ga RS.length c6 k A4 m4 c4 B m d hk_ h0_ ck c0 es _ wo _ rfl rfl rfl rfl rfl rfl rfl CE.out hlt (by omega) CO.out HNO.out (by omega) (by omega) HR0.out C1.out C2.out ?_
         intro w7 hb7
         have HB7:=Lib.hid (hbl.out.trans (hb7.mono hzo))
         have HO7:=Lib.hid (hO.out.below hb7 (Nat.le_refl _))
         clear hb7
         simp only [setsL,Trset11_2,Nat.reduceAdd,List.setIfInBounds_toArray,List.set_cons_succ,List.set_cons_zero]
         go_wp2
         go_roundw
         all_goals first
          | (simp [intOf];omega)
          | exact ⟨k+1,some ⟨go_,0,none⟩,c',s0::out,h0_::hs',by omega,rfl,by go_num,HB7.out,(show _=_ by rw [HST.out];unfold setsStepR;rw [if_pos (.inl ⟨by simp,HGT.out⟩)]),HO7.out,hel,by omega⟩
       · have HR0:Hid (decide (c0<ck)=false):=(show _=_ from decide_eq_false hlt0)
         have HGE:Hid (¬costR ads s0<costR ads sk):=(show ¬_ by rw [HC0.out,HCK.out];exact hlt0)
         clear hlt0
         cases es with
         | false=>
           go_upto_region 11 with (fail)
           refine rset11_3 _ rfl (some ⟨go_,0,none⟩) go_ (out.length+1) c' A5 ads.length c5 ga RS.length c6 k A4 m4 c4 B m d hk_ h0_ ck c0 false _ wo _ rfl rfl rfl rfl rfl rfl rfl CE.out hlt (by omega) CO.out HNO.out (by omega) (by omega) HR0.out C1.out C2.out C3.out ?_
           intro w7 hb7
           have HB7:=Lib.hid (hbl.out.trans (hb7.mono hzo))
           have HO7:=Lib.hid (hO.out.below hb7 (Nat.le_refl _))
           clear hb7
           simp only [setsL,Trset11_3,Nat.reduceAdd,List.setIfInBounds_toArray,List.set_cons_succ,List.set_cons_zero]
           go_wp2
           go_roundw
           all_goals first
            | (simp [intOf];omega)
            | exact ⟨k+1,some ⟨go_,0,none⟩,c',s0::out,h0_::hs',by omega,rfl,by go_num,HB7.out,(show _=_ by rw [HST.out];unfold setsStepR;rw [if_pos (.inr HES.out)]),HO7.out,hel,by omega⟩
         | true=>
           by_cases hlt1:ck<c0
           · have HR1:Hid (decide (ck<c0)=true):=(show _=_ from decide_eq_true hlt1)
             have HLT:Hid (costR ads sk<costR ads s0):=(show _<_ by rw [HC0.out,HCK.out];exact hlt1)
             clear hlt1
             go_upto_region 11 with (fail)
             refine rset11_3 _ rfl (some ⟨go_,0,none⟩) go_ (out.length+1) c' A5 ads.length c5 ga RS.length c6 k A4 m4 c4 B m d hk_ h0_ ck c0 true _ wo _ rfl rfl rfl rfl rfl rfl rfl CE.out hlt (by omega) CO.out HNO.out (by omega) (by omega) HR0.out C1.out C2.out C3.out ?_
             intro w7 hb7
             have HB7:=Lib.hid (hbl.out.trans (hb7.mono hzo))
             have HC7:=Lib.hid hb7
             clear hb7
             simp only [setsL,Trset11_3,Nat.reduceAdd,List.setIfInBounds_toArray,List.set_cons_succ,List.set_cons_zero]
             go_upto_region 12 with (fail)
             refine rset12_2 _ rfl (some ⟨go_,0,none⟩) go_ (out.length+1) c' A5 ads.length c5 ga RS.length c6 k A4 m4 c4 B m d hk_ h0_ ck c0 true true _ w7 _ rfl rfl rfl rfl rfl (fun W h=>CE.out W (HC7.out.trans (h.mono HC7.out.size))) hlt (by omega) (fun W h=>CO.out W (HC7.out.trans (h.mono HC7.out.size))) HNO.out (by omega) (by omega) HR1.out (fun W h=>C1.out W (HC7.out.trans (h.mono HC7.out.size))) (fun W h=>C2.out W (HC7.out.trans (h.mono HC7.out.size))) ?_
             intro w8 hb8
             have HB8:=Lib.hid (HB7.out.trans (hb8.mono HB7.out.size))
             have CE8:Hid (w8.cell? ⟨ga,k,none⟩=some (.slice hk_.A hk_.n hk_.c)):=(show _=_ from CE.out w8 (HC7.out.trans (hb8.mono HC7.out.size)))
             have HC8:=Lib.hid (HC7.out.trans (hb8.mono HC7.out.size))
             clear hb8
             simp only [setsL,Trset12_2,Nat.reduceAdd,List.setIfInBounds_toArray,List.set_cons_succ,List.set_cons_zero]
             have hown:Own encHdr 1 30 w6.heap.size (w8.alloc (.cells #[.slice hk_.A hk_.n hk_.c] 30)) none 0 0 []:=(by have h:=(Own.none_ _ _ _ _ _:Own encHdr 1 30 w6.heap.size w8 none 0 0 []);exact h.alloc _)
             have hrd8:=Rd.single (enc:=encHdr) (k:=1) w8 #[.slice hk_.A hk_.n hk_.c] 30 [hk_] 1 rfl (by omega) (fun _=>rfl) (by simp [encHdr,hdrV])
             have HBA:=Lib.hid (HB8.out.alloc HB8.out.size (.cells #[.slice hk_.A hk_.n hk_.c] 30))
             have x8:=CE8.out
             have hg8l:ga<w8.heap.size:=(by have:=HB8.out.size;omega)
             go_wp2_with (at_builtin;refine wpList_append_src elSets (fun _=>rfl) oneHdr rfl _ _ rfl _ _ _ _ rfl rfl hown hrd8 (by omega) (by decide) (by simp;have:=HB8.out.size;omega) ?_;intro A9 c9 w9 hO9 hg9 hA9
                          have HB9:=Lib.hid (HBA.out.grown hg9 (by simp;have:=HB8.out.size;omega) (fun j e=>hown.ltB j e))
                          have HO9:=Lib.hid hO9
                          clear hO9 hg9 hA9)
             go_roundw
             all_goals first
              | (simp [intOf];omega)
              | exact ⟨k+1,A9,c9,[] ++ [sk],[] ++ [hk_],by omega,by simp,by go_num,HB9.out,(show _=_ by rw [HST.out];unfold setsStepR;rw [if_neg (by rintro (h|h);exact HGE.out h.2;rw [HES.out] at h;cases h),if_pos ⟨by simp,HLT.out⟩]),(show Own _ _ _ _ _ _ _ _ _ by rw [List.length_append];exact HO9.out),(show ∀ (i:Nat) (h:Hdr) (s:List Place),_→_→_ from fun i h s h1 h2=>by
                 match i,h1,h2 with
                 | 0,h1,h2=>simp at h1 h2;exact ⟨k,by rw [HHK.out,h1],by rw [HSK.out,h2]⟩
                 | i+1,h1,h2=>simp at h1),(by simp only [List.length_append,List.length_cons,List.length_nil];omega)⟩
           · have HR1:Hid (decide (ck<c0)=false):=(show _=_ from decide_eq_false hlt1)
             have HNL:Hid (¬costR ads sk<costR ads s0):=(show ¬_ by rw [HC0.out,HCK.out];exact hlt1)
             clear hlt1
             go_upto_region 11 with (fail)
             refine rset11_3 _ rfl (some ⟨go_,0,none⟩) go_ (out.length+1) c' A5 ads.length c5 ga RS.length c6 k A4 m4 c4 B m d hk_ h0_ ck c0 true _ wo _ rfl rfl rfl rfl rfl rfl rfl CE.out hlt (by omega) CO.out HNO.out (by omega) (by omega) HR0.out C1.out C2.out C3.out ?_
             intro w7 hb7
             have HB7:=Lib.hid (hbl.out.trans (hb7.mono hzo))
             have HC7:=Lib.hid hb7
             clear hb7
             simp only [setsL,Trset11_3,Nat.reduceAdd,List.setIfInBounds_toArray,List.set_cons_succ,List.set_cons_zero]
             go_upto_region 12 with (fail)
             refine rset12_2 _ rfl (some ⟨go_,0,none⟩) go_ (out.length+1) c' A5 ads.length c5 ga RS.length c6 k A4 m4 c4 B m d hk_ h0_ ck c0 true false _ w7 _ rfl rfl rfl rfl rfl (fun W h=>CE.out W (HC7.out.trans (h.mono HC7.out.size))) hlt (by omega) (fun W h=>CO.out W (HC7.out.trans (h.mono HC7.out.size))) HNO.out (by omega) (by omega) HR1.out (fun W h=>C1.out W (HC7.out.trans (h.mono HC7.out.size))) (fun W h=>C2.out W (HC7.out.trans (h.mono HC7.out.size))) ?_
             intro w8 hb8
             have HB8:=Lib.hid (HB7.out.trans (hb8.mono HB7.out.size))
             have CE8:Hid (w8.cell? ⟨ga,k,none⟩=some (.slice hk_.A hk_.n hk_.c)):=(show _=_ from CE.out w8 (HC7.out.trans (hb8.mono HC7.out.size)))
             have HC8:=Lib.hid (HC7.out.trans (hb8.mono HC7.out.size))
             clear hb8
             simp only [setsL,Trset12_2,Nat.reduceAdd,List.setIfInBounds_toArray,List.set_cons_succ,List.set_cons_zero]
             have HLN:Hid ((h0_::hs').length=out.length+1):=(show _=_ from hO.out.len)
             have hown:Own encHdr 1 30 w6.heap.size (w8.alloc (.cells #[.slice hk_.A hk_.n hk_.c] 30)) (some ⟨go_,0,none⟩) (out.length+1) c' (h0_::hs'):=(by have h:=(hO.out.below HC8.out (Nat.le_refl _):Own encHdr 1 30 w6.heap.size w8 (some ⟨go_,0,none⟩) (out.length+1) c' (h0_::hs'));exact h.alloc _)
             have hrd8:=Rd.single (enc:=encHdr) (k:=1) w8 #[.slice hk_.A hk_.n hk_.c] 30 [hk_] 1 rfl (by omega) (fun _=>rfl) (by simp [encHdr,hdrV])
             have HBA:=Lib.hid (HB8.out.alloc HB8.out.size (.cells #[.slice hk_.A hk_.n hk_.c] 30))
             have x8:=CE8.out
             have hg8l:ga<w8.heap.size:=(by have:=HB8.out.size;omega)
             go_wp2_with (at_builtin;refine wpList_append_src elSets (fun _=>rfl) oneHdr rfl _ _ rfl _ _ _ _ rfl rfl hown hrd8 (by omega) (by decide) (by simp;have:=HB8.out.size;omega) ?_;intro A9 c9 w9 hO9 hg9 hA9
                          have HB9:=Lib.hid (HBA.out.grown hg9 (by simp;have:=HB8.out.size;omega) (fun j e=>hown.ltB j e))
                          have HO9:=Lib.hid hO9
                          clear hO9 hg9 hA9)
             go_roundw
             all_goals first
              | (simp [intOf];omega)
              | exact ⟨k+1,A9,c9,s0::out ++ [sk],(h0_::hs') ++ [hk_],by omega,by simp,by go_num,HB9.out,(show _=_ by rw [HST.out];unfold setsStepR;rw [if_neg (by rintro (h|h);exact HGE.out h.2;rw [HES.out] at h;cases h),if_neg (fun h=>HNL.out h.2)]),(show Own _ _ _ _ _ _ _ _ _ by rw [List.length_append];exact HO9.out),(show ∀ (i:Nat) (h:Hdr) (s:List Place),_→_→_ from fun i h s h1 h2=>by
                 by_cases hi:i<out.length+1
                 · exact hel.out i h s (by rw [List.getElem?_append_left (by have:=HLN.out;omega)] at h1;exact h1) (by rw [List.getElem?_append_left (by simpa using hi)] at h2;exact h2)
                 · have hi2:i=out.length+1:=(by have:=(List.getElem?_eq_some_iff.1 h2).1;simp at this;omega)
                   rw [List.getElem?_append_right (by have:=HLN.out;omega),HLN.out,hi2,Nat.sub_self] at h1
                   rw [List.getElem?_append_right (by simp;omega),hi2] at h2
                   simp at h1 h2
                   exact ⟨k,by rw [HHK.out,h1],by rw [HSK.out,h2]⟩),(by simp only [List.length_append,List.length_cons,List.length_nil];omega)⟩
   · have hkN:k=RS.length:=by omega
     have HFIN:Hid (RS.foldl (setsStepR ads en) []=out):=(show _=_ by have h1:=hst.out;rwa [hkN,List.take_length] at h1)
     have HSA:Hid (SetsAt w.heap.size wo A' c' out):=(show SetsAt _ _ _ _ _ from ⟨hs,hO.out.mono (by omega),fun i h s h1 h2=>by
      obtain ⟨j,j1,j2⟩:=hel.out i h s h1 h2
      obtain ⟨a,b⟩:=HO2.out j h s j1 j2
      exact ⟨a,(b.below hbl.out (Nat.le_refl _)).mono HB5.out.size⟩⟩)
     have hbw:=Lib.hid (HB6.out.trans (hbl.out.mono hz6))
     cases out with
     | nil=>
       have h00:(((0:Nat):Int)==0)=true:=rfl
       have HV:Hid (bv=([],81)):=(show _=_ by rw [←HBV.out,HFIN.out,if_pos rfl])
       clear HBV
       go_wp2
       go_ret2
       exact ⟨none,0,by rw [HV.out];rfl,hbw.out,by rw [HV.out];exact SetsAt.none_ _ _⟩
     | cons s0 out=>
       have h00:(((out.length+1:Nat):Int)==0)=false:=(by simp;omega)
       have HV:Hid (bv=(s0::out,0)):=(show _=_ by rw [←HBV.out,HFIN.out,if_neg (by simp)])
       clear HBV
       go_wp2
       go_ret2
       exact ⟨A',c',by rw [HV.out];rfl,hbw.out,by rw [HV.out];exact HSA.out⟩
end Go.Proofs.YtelnkflmnbhclaaGreat
end
section
namespace Go.Proofs.YtelnkflmnbhclaaGreat
open Go.RowKit Go.Proofs Go.Shelf
def ChpI (ts:List Trace) (ads:List Admit) (z:Value) (w:World):List Value→World→Prop
 | [],W=>Below w.heap.size w W
 | [v],W=>Below w.heap.size w W∧∃ A n c,v = .slice A n c∧Rd encTrace 10 W A n c ts
 | [_,u],W=>Below w.heap.size w W∧∃ A c,u = .slice A ads.length c∧Rd encAdmit 4 W A ads.length c ads
 | [_,_,y],W=>Below w.heap.size w W∧y=z
 | _,_=>False
theorem ChpI.b {ts:List Trace} {ads:List Admit} {z:Value} {w W:World} {cv:List Value} (h:ChpI ts ads z w cv W):Below w.heap.size w W:=by
 match cv,h with
 | [],h=>exact h
 | [_],h=>exact h.1
 | [_,_],h=>exact h.1
 | [_,_,_],h=>exact h.1
theorem ChpI.three {ts:List Trace} {ads:List Admit} {z:Value} {w W:World} {cv:List Value} (hl:3≤cv.length) (h:ChpI ts ads z w cv W):∃ v u,cv = [v,u,z]:=by
 match cv,hl,h with
 | [v,u,y],_,⟨_,e⟩=>exact ⟨v,u,by rw [e]⟩
 | [],hl,_=>simp at hl
 | [_],hl,_=>simp at hl
 | [_,_],hl,_=>simp at hl
end Go.Proofs.YtelnkflmnbhclaaGreat
end
section
namespace Go.Proofs.YtelnkflmnbhclaaGreat
open Go.RowKit Go.Proofs Go.Shelf
end Go.Proofs.YtelnkflmnbhclaaGreat
end
section
namespace Go.Proofs.YtelnkflmnbhclaaGreat
open Go.RowKit Go.Proofs Go.Shelf
theorem setsV_small {l:List Trace} {known:Int} {bs:List Bond} : (setsV l known bs).1.length≤256∧∀ s∈(setsV l known bs).1,s.length≤8:=by
 by_cases he:askErr l known bs=0
 · have h8:=(ordFacts he).a8
   have heq:=(setsR_eq (admitsOf_asc (counting l known)) h8 (enough (counting l known) bs)).1
   have hs:setsV l known bs=if (setsOf l known bs).2 = [] then ([],81) else ((setsOf l known bs).2,0):=by unfold setsV;rw [if_neg (by simpa using he)]
   have hsub:=(setsR_inv (admitsOf (counting l known)) (enough (counting l known) bs)).sub
   have h2:(setsOf l known bs).2=setsR (admitsOf (counting l known)) (enough (counting l known) bs):=heq
   rw [hs]
   split
   · simp
   · simp only
     rw [h2]
     refine ⟨Nat.le_trans hsub.length_le ?_,fun s h=> ?_⟩
     · rw [subsR_len,List.length_map]
       exact Nat.le_trans (Nat.pow_le_pow_right (by omega) h8) (by decide)
     · have:=subsR_small (hsub.mem h)
       rw [List.length_map] at this;omega
 · have hs:setsV l known bs=([],askErr l known bs):=by unfold setsV;rw [if_pos he]
   rw [hs];simp
def SetsRd (w:World) (A:Option Addr) (n c:Nat) (sets:List (List Place)):Prop:=
 ∃ hs:List Hdr,Rd encHdr 1 w A n c hs∧sets.length=n∧∀ (i:Nat) (h:Hdr) (s:List Place),hs[i]? = some h→sets[i]? = some s→Rd encPlace 2 w h.A h.n h.c s
theorem SetsRd.below {w W:World} {A:Option Addr} {n c:Nat} {sets:List (List Place)} (h:SetsRd w A n c sets) (hb:Below w.heap.size w W):SetsRd W A n c sets:=by
 obtain ⟨hs,o1,o2,o3⟩:=h
 exact ⟨hs,o1.below hb (Nat.le_refl _),o2,fun i x s h1 h2=>(o3 i x s h1 h2).below hb (Nat.le_refl _)⟩
end Go.Proofs.YtelnkflmnbhclaaGreat
end
section
namespace Go.Proofs.YtelnkflmnbhclaaGreat
open Go.RowKit Go.Proofs Go.Shelf
end Go.Proofs.YtelnkflmnbhclaaGreat
end

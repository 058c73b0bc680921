/- Contracts that the laws lean on: YearC, Year. -/
import Derived.Test.YtejjplhknacoiaaGreatDoorLK15
set_option maxRecDepth 100000
set_option maxHeartbeats 4000000
section
namespace Go.Proofs.YtejjplhknacoiaaGreatDoor
open Go.RowKit Go.Proofs Go.Shelf
def code75_11:Option Code→Code
 | some (.seq _ (.seq _ (.seq _ (.seq _ (.seq (.seq _ (.block _ (.loop (.seq _ (.seq _ (.seq (.block _ (.seq _ c)) _)))))) _)))))=>c
 | _=> .skip
structure Pr11 (W:World) (yb nb:Nat) (Ab:Option Addr) (n cb mb:Nat) (x:Link) (x1 x2:Int):Prop where
 y1:W.cell? ⟨yb,1,none⟩=some (.slice Ab n cb)
 y3:W.cell? ⟨yb,3,none⟩=some (.map (some mb))
 n0:W.cell? ⟨nb,0,none⟩=some (.int .i64 x.src.pit)
 n1:W.cell? ⟨nb,1,none⟩=some (.int .i64 x.src.layer)
 n2:W.cell? ⟨nb,2,none⟩=some (.int .i64 x.dst.pit)
 n3:W.cell? ⟨nb,3,none⟩=some (.int .i64 x.dst.layer)
 n4:W.cell? ⟨nb,4,none⟩=some (.int .i64 x.most)
 n5:W.cell? ⟨nb,5,none⟩=some (.int .i64 x.by_)
 lk1:(Instr.lookup 85 (.map (some mb)) (.agg #[.int .i64 x.src.pit,.int .i64 x.src.layer]) false).run Tryz.prog W = .ok (.int .i64 x1) W
 lk2:(Instr.lookup 85 (.map (some mb)) (.agg #[.int .i64 x.dst.pit,.int .i64 x.dst.layer]) false).run Tryz.prog W = .ok (.int .i64 x2) W
def tab11 (yb nb nw:Nat) (Ab:Option Addr) (n cb mb:Nat) (x:Link) (x1 x2:Int) (A':Option Addr) (c':Nat):Nat→Value
 | 0=> .pointer (some ⟨yb,0,none⟩)
 | 1=> .pointer (some ⟨yb,1,none⟩)
 | 2=> .slice Ab n cb
 | 3=> .pointer (some ⟨yb,3,none⟩)
 | 4=> .map (some mb)
 | 5=> .pointer (some ⟨nb,0,none⟩)
 | 6=> .agg #[.int .i64 x.src.pit,.int .i64 x.src.layer]
 | 7=> .int .i64 x1
 | 8=> .pointer (some ⟨yb,3,none⟩)
 | 9=> .map (some mb)
 | 10=> .pointer (some ⟨nb,2,none⟩)
 | 11=> .agg #[.int .i64 x.dst.pit,.int .i64 x.dst.layer]
 | 12=> .int .i64 x2
 | 13=> .pointer (some ⟨nb,4,none⟩)
 | 14=> .int .i64 x.most
 | 15=> .pointer (some ⟨nb,5,none⟩)
 | 16=> .int .i64 x.by_
 | 17=> .agg #[.int .i64 x1,.int .i64 x2,.int .i64 x.most,.int .i64 x.by_]
 | 18=> .slice (some ⟨nw,0,none⟩) 1 1
 | 19=> .slice A' (n+1) c'
 | 20=> .pointer (some ⟨yb,0,none⟩)
 | 21=> .pointer (some ⟨yb,1,none⟩)
 | _=>undef
theorem years11 (c:Code) (hc:c=code75_11 Tryz.f38.body) (B yb nb:Nat) (Ab:Option Addr) (n cb mb:Nat) (x:Link) (x1 x2:Int) (bds:List Bound) (a:Act) (w wb:World) (Q:Exit→Act→World→Prop)
 (hT:a.tmps.size=73) (t5:a.tmps.getD 5 undef = .pointer (some ⟨yb,0,none⟩)) (t9:a.tmps.getD 9 undef = .pointer (some ⟨nb,0,none⟩))
 (hwb:wb=w.drew.alloc (.cells #[.int .i64 x1,.int .i64 x2,.int .i64 x.most,.int .i64 x.by_] 148))
 (hpa:Pr11 w.drew yb nb Ab n cb mb x x1 x2) (hpb:Pr11 wb yb nb Ab n cb mb x x1 x2) (hpc:∀ w8,wb.grownBy w8 (blockOf Ab)→Pr11 w8 yb nb Ab n cb mb x x1 x2)
 (hfc:∀ w8,wb.grownBy w8 (blockOf Ab)→w8.frozen? ⟨yb,1,none⟩=false)
 (hown:Own encBound 4 148 B wb Ab n cb bds) (hB:B≤wb.heap.size) (hn:n≤1000)
 (hQ:∀ A' c' w8,Own encBound 4 148 B w8 A' (n+1) c' (bds ++ [⟨x1,x2,x.most,x.by_⟩])→wb.grownBy w8 (blockOf Ab)→
   Q .normal { tmps:=((((((((((((((((((((((a.tmps.setIfInBounds 49 (.pointer (some ⟨yb,0,none⟩))).setIfInBounds 50 (.pointer (some ⟨yb,1,none⟩))).setIfInBounds 51 (.slice Ab n cb)).setIfInBounds 52 (.pointer (some ⟨yb,3,none⟩))).setIfInBounds 53 (.map (some mb))).setIfInBounds 54 (.pointer (some ⟨nb,0,none⟩))).setIfInBounds 55 (.agg #[.int .i64 x.src.pit,.int .i64 x.src.layer])).setIfInBounds 56 (.int .i64 x1)).setIfInBounds 57 (.pointer (some ⟨yb,3,none⟩))).setIfInBounds 58 (.map (some mb))).setIfInBounds 59 (.pointer (some ⟨nb,2,none⟩))).setIfInBounds 60 (.agg #[.int .i64 x.dst.pit,.int .i64 x.dst.layer])).setIfInBounds 61 (.int .i64 x2)).setIfInBounds 62 (.pointer (some ⟨nb,4,none⟩))).setIfInBounds 63 (.int .i64 x.most)).setIfInBounds 64 (.pointer (some ⟨nb,5,none⟩))).setIfInBounds 65 (.int .i64 x.by_)).setIfInBounds 66 (.agg #[.int .i64 x1,.int .i64 x2,.int .i64 x.most,.int .i64 x.by_])).setIfInBounds 67 (.slice (some ⟨w.drew.heap.size,0,none⟩) 1 1)).setIfInBounds 68 (.slice A' (n+1) c')).setIfInBounds 69 (.pointer (some ⟨yb,0,none⟩))).setIfInBounds 70 (.pointer (some ⟨yb,1,none⟩))),defers:=a.defers } (w8.setCell ⟨yb,1,none⟩ (.slice A' (n+1) c'))):
 c.wp Tryz.prog Q a w:=by
 subst hc
 unfold code75_11 Tryz.f38
 dsimp only
 obtain ⟨wa,hwa⟩:∃ wa,w.drew=wa:=⟨_,rfl⟩
 rw [hwa] at hwb hpa hQ
 obtain ⟨nw,hnw⟩:∃ nw,wa.heap.size=nw:=⟨_,rfl⟩
 have hrd:Rd encBound 4 wb (some ⟨nw,0,none⟩) 1 1 [⟨x1,x2,x.most,x.by_⟩]:=(by
  have:=Rd.single (enc:=encBound) (k:=4) wa #[.int .i64 x1,.int .i64 x2,.int .i64 x.most,.int .i64 x.by_] 148 [⟨x1,x2,x.most,x.by_⟩] 1 rfl (by omega) (fun _=>rfl) (by simp [encBound])
  rw [hwb,←hnw];exact this)
 obtain ⟨A',c',wc,hrun,hO,hg,_⟩:=run_append_src elBound 82 (fun _=>rfl) oneBound hown (some ⟨nw,0,none⟩) 1 1 [⟨x1,x2,x.most,x.by_⟩] hrd (by omega) (by omega) hB
 have hQ':=hQ A' c' wc hO hg
 have hpc':=hpc wc hg
 have hfc':=hfc wc hg
 rw [hnw] at hQ'
 obtain ⟨wd,hwd⟩:∃ wd,wc.setCell ⟨yb,1,none⟩ (.slice A' (n+1) c')=wd:=⟨_,rfl⟩
 rw [hwd] at hQ'
 clear hQ hpc hfc hO hg hrd hown
 obtain ⟨Wf,hWf⟩:∃ Wf:Array Bool→World,∀ L,Wf L=if L.getD 22 false=true then wd else if L.getD 19 false=true then wc else if L.getD 18 false=true then wb else wa:=⟨fun L=>if L.getD 22 false=true then wd else if L.getD 19 false=true then wc else if L.getD 18 false=true then wb else wa,fun _=>rfl⟩
 refine wpIn_wide.1 (wpIn_region_tab (F:=Fence.wide) (nn:=5) (by kernel_rfl) (fun _=>trivial) (tab11 yb nb nw Ab n cb mb x x1 x2 A' c') Wf (by rw [hT];kernel_rfl) ?_ ?_ ?_)
 · rw [hWf,hwa];rfl
 · intro listed i o b hi ho hb
   obtain ⟨hun,oi,hoi,hall⟩:=mem_ready.1 hi
   have:oi=o:=Option.some.inj (hoi.symm.trans ho)
   subst this
   clear hoi hi hQ'
   have hlt:i<23:=by have:=(Array.getElem?_eq_some_iff.1 ho).1;simpa using this
   have q5:=(hb.old 5 (dst_no hb (by kernel_rfl))).trans t5
   have q9:=(hb.old 9 (dst_no hb (by kernel_rfl))).trans t9
   have hun':listed.getD i false=false:=getD_both hun
   have hsame:i≠18→i≠19→i≠22→Wf (listed.setIfInBounds i true)=Wf listed:=fun h1 h2 h3=>by rw [hWf,hWf,getD_set_ne false h1,getD_set_ne false h2,getD_set_ne false h3]
   have hpr:listed.getD 22 false=false→∃ W,Wf listed=W∧Pr11 W yb nb Ab n cb mb x x1 x2:=fun h=>by
    refine ⟨_,rfl,?_⟩
    rw [hWf,h]
    simp only [Bool.false_eq_true,if_false]
    split
    · exact hpc'
    · split
      · exact hpb
      · exact hpa
   rcases (by omega:i=0∨i=1∨i=2∨i=3∨i=4∨i=5∨i=6∨i=7∨i=8∨i=9∨i=10∨i=11∨i=12∨i=13∨i=14∨i=15∨i=16∨i=17∨i=18∨i=19∨i=20∨i=21∨i=22) with rfl|rfl|rfl|rfl|rfl|rfl|rfl|rfl|rfl|rfl|rfl|rfl|rfl|rfl|rfl|rfl|rfl|rfl|rfl|rfl|rfl|rfl|rfl
   all_goals simp only [List.getElem?_toArray,List.getElem?_cons_zero,List.getElem?_cons_succ] at ho
   all_goals cases ho
   ·
    have n22:listed.getD 22 false=false:=not_listed (hb.closed 22 _ rfl) ⟨0,.phase⟩ (by simp) rfl hun'
    obtain ⟨W,hW,⟨y1,y3,n0,n1,n2,n3,n4,n5,lk1,lk2⟩⟩:=hpr n22
    refine .inl ?_
    rw [hsame (by decide) (by decide) (by decide),hW]
    clear hsame hpr hWf hW hwb hpa hpb hpc' hrun hwd
    go_simp
    try rfl
   ·
    have e0:b.tmps.getD 49 undef = .pointer (some ⟨yb,0,none⟩):=hb.val 0 49 rfl (hall ⟨0,.data⟩ (by simp) rfl)
    have e0':b.tmps[49]?.getD undef = .pointer (some ⟨yb,0,none⟩):=(by simpa using e0)
    have n22:listed.getD 22 false=false:=not_listed (hb.closed 22 _ rfl) ⟨1,.phase⟩ (by simp) rfl hun'
    obtain ⟨W,hW,⟨y1,y3,n0,n1,n2,n3,n4,n5,lk1,lk2⟩⟩:=hpr n22
    refine .inl ?_
    rw [hsame (by decide) (by decide) (by decide),hW]
    clear hsame hpr hWf hW hwb hpa hpb hpc' hrun hwd
    go_simp
    try rfl
   ·
    have e1:b.tmps.getD 50 undef = .pointer (some ⟨yb,1,none⟩):=hb.val 1 50 rfl (hall ⟨1,.data⟩ (by simp) rfl)
    have e1':b.tmps[50]?.getD undef = .pointer (some ⟨yb,1,none⟩):=(by simpa using e1)
    have n22:listed.getD 22 false=false:=not_listed (hb.closed 22 _ rfl) ⟨2,.phase⟩ (by simp) rfl hun'
    obtain ⟨W,hW,⟨y1,y3,n0,n1,n2,n3,n4,n5,lk1,lk2⟩⟩:=hpr n22
    refine .inl ?_
    rw [hsame (by decide) (by decide) (by decide),hW]
    clear hsame hpr hWf hW hwb hpa hpb hpc' hrun hwd
    go_simp
    try rfl
   ·
    have n22:listed.getD 22 false=false:=not_listed (hb.closed 22 _ rfl) ⟨3,.phase⟩ (by simp) rfl hun'
    obtain ⟨W,hW,⟨y1,y3,n0,n1,n2,n3,n4,n5,lk1,lk2⟩⟩:=hpr n22
    refine .inl ?_
    rw [hsame (by decide) (by decide) (by decide),hW]
    clear hsame hpr hWf hW hwb hpa hpb hpc' hrun hwd
    go_simp
    try rfl
   ·
    have e3:b.tmps.getD 52 undef = .pointer (some ⟨yb,3,none⟩):=hb.val 3 52 rfl (hall ⟨3,.data⟩ (by simp) rfl)
    have e3':b.tmps[52]?.getD undef = .pointer (some ⟨yb,3,none⟩):=(by simpa using e3)
    have n22:listed.getD 22 false=false:=not_listed (hb.closed 22 _ rfl) ⟨4,.phase⟩ (by simp) rfl hun'
    obtain ⟨W,hW,⟨y1,y3,n0,n1,n2,n3,n4,n5,lk1,lk2⟩⟩:=hpr n22
    refine .inl ?_
    rw [hsame (by decide) (by decide) (by decide),hW]
    clear hsame hpr hWf hW hwb hpa hpb hpc' hrun hwd
    go_simp
    try rfl
   ·
    have n22:listed.getD 22 false=false:=not_listed (hb.closed 22 _ rfl) ⟨5,.phase⟩ (by simp) rfl hun'
    obtain ⟨W,hW,⟨y1,y3,n0,n1,n2,n3,n4,n5,lk1,lk2⟩⟩:=hpr n22
    refine .inl ?_
    rw [hsame (by decide) (by decide) (by decide),hW]
    clear hsame hpr hWf hW hwb hpa hpb hpc' hrun hwd
    go_simp
    try rfl
   ·
    have e5:b.tmps.getD 54 undef = .pointer (some ⟨nb,0,none⟩):=hb.val 5 54 rfl (hall ⟨5,.data⟩ (by simp) rfl)
    have e5':b.tmps[54]?.getD undef = .pointer (some ⟨nb,0,none⟩):=(by simpa using e5)
    have n22:listed.getD 22 false=false:=not_listed (hb.closed 22 _ rfl) ⟨6,.phase⟩ (by simp) rfl hun'
    obtain ⟨W,hW,⟨y1,y3,n0,n1,n2,n3,n4,n5,lk1,lk2⟩⟩:=hpr n22
    refine .inl ?_
    rw [hsame (by decide) (by decide) (by decide),hW]
    clear hsame hpr hWf hW hwb hpa hpb hpc' hrun hwd
    go_simp
    try rfl
   ·
    have e4:b.tmps.getD 53 undef = .map (some mb):=hb.val 4 53 rfl (hall ⟨4,.data⟩ (by simp) rfl)
    have e4':b.tmps[53]?.getD undef = .map (some mb):=(by simpa using e4)
    have e6:b.tmps.getD 55 undef = .agg #[.int .i64 x.src.pit,.int .i64 x.src.layer]:=hb.val 6 55 rfl (hall ⟨6,.data⟩ (by simp) rfl)
    have e6':b.tmps[55]?.getD undef = .agg #[.int .i64 x.src.pit,.int .i64 x.src.layer]:=(by simpa using e6)
    have n22:listed.getD 22 false=false:=not_listed (hb.closed 22 _ rfl) ⟨7,.phase⟩ (by simp) rfl hun'
    obtain ⟨W,hW,⟨y1,y3,n0,n1,n2,n3,n4,n5,lk1,lk2⟩⟩:=hpr n22
    refine .inl ?_
    rw [hsame (by decide) (by decide) (by decide),hW]
    clear hsame hpr hWf hW hwb hpa hpb hpc' hrun hwd
    go_simp
    try rfl
   ·
    have n22:listed.getD 22 false=false:=not_listed (hb.closed 22 _ rfl) ⟨8,.phase⟩ (by simp) rfl hun'
    obtain ⟨W,hW,⟨y1,y3,n0,n1,n2,n3,n4,n5,lk1,lk2⟩⟩:=hpr n22
    refine .inl ?_
    rw [hsame (by decide) (by decide) (by decide),hW]
    clear hsame hpr hWf hW hwb hpa hpb hpc' hrun hwd
    go_simp
    try rfl
   ·
    have e8:b.tmps.getD 57 undef = .pointer (some ⟨yb,3,none⟩):=hb.val 8 57 rfl (hall ⟨8,.data⟩ (by simp) rfl)
    have e8':b.tmps[57]?.getD undef = .pointer (some ⟨yb,3,none⟩):=(by simpa using e8)
    have n22:listed.getD 22 false=false:=not_listed (hb.closed 22 _ rfl) ⟨9,.phase⟩ (by simp) rfl hun'
    obtain ⟨W,hW,⟨y1,y3,n0,n1,n2,n3,n4,n5,lk1,lk2⟩⟩:=hpr n22
    refine .inl ?_
    rw [hsame (by decide) (by decide) (by decide),hW]
    clear hsame hpr hWf hW hwb hpa hpb hpc' hrun hwd
    go_simp
    try rfl
   ·
    have n22:listed.getD 22 false=false:=not_listed (hb.closed 22 _ rfl) ⟨10,.phase⟩ (by simp) rfl hun'
    obtain ⟨W,hW,⟨y1,y3,n0,n1,n2,n3,n4,n5,lk1,lk2⟩⟩:=hpr n22
    refine .inl ?_
    rw [hsame (by decide) (by decide) (by decide),hW]
    clear hsame hpr hWf hW hwb hpa hpb hpc' hrun hwd
    go_simp
    try rfl
   ·
    have e10:b.tmps.getD 59 undef = .pointer (some ⟨nb,2,none⟩):=hb.val 10 59 rfl (hall ⟨10,.data⟩ (by simp) rfl)
    have e10':b.tmps[59]?.getD undef = .pointer (some ⟨nb,2,none⟩):=(by simpa using e10)
    have n22:listed.getD 22 false=false:=not_listed (hb.closed 22 _ rfl) ⟨11,.phase⟩ (by simp) rfl hun'
    obtain ⟨W,hW,⟨y1,y3,n0,n1,n2,n3,n4,n5,lk1,lk2⟩⟩:=hpr n22
    refine .inl ?_
    rw [hsame (by decide) (by decide) (by decide),hW]
    clear hsame hpr hWf hW hwb hpa hpb hpc' hrun hwd
    go_simp
    try rfl
   ·
    have e9:b.tmps.getD 58 undef = .map (some mb):=hb.val 9 58 rfl (hall ⟨9,.data⟩ (by simp) rfl)
    have e9':b.tmps[58]?.getD undef = .map (some mb):=(by simpa using e9)
    have e11:b.tmps.getD 60 undef = .agg #[.int .i64 x.dst.pit,.int .i64 x.dst.layer]:=hb.val 11 60 rfl (hall ⟨11,.data⟩ (by simp) rfl)
    have e11':b.tmps[60]?.getD undef = .agg #[.int .i64 x.dst.pit,.int .i64 x.dst.layer]:=(by simpa using e11)
    have n22:listed.getD 22 false=false:=not_listed (hb.closed 22 _ rfl) ⟨12,.phase⟩ (by simp) rfl hun'
    obtain ⟨W,hW,⟨y1,y3,n0,n1,n2,n3,n4,n5,lk1,lk2⟩⟩:=hpr n22
    refine .inl ?_
    rw [hsame (by decide) (by decide) (by decide),hW]
    clear hsame hpr hWf hW hwb hpa hpb hpc' hrun hwd
    go_simp
    try rfl
   ·
    have n22:listed.getD 22 false=false:=not_listed (hb.closed 22 _ rfl) ⟨13,.phase⟩ (by simp) rfl hun'
    obtain ⟨W,hW,⟨y1,y3,n0,n1,n2,n3,n4,n5,lk1,lk2⟩⟩:=hpr n22
    refine .inl ?_
    rw [hsame (by decide) (by decide) (by decide),hW]
    clear hsame hpr hWf hW hwb hpa hpb hpc' hrun hwd
    go_simp
    try rfl
   ·
    have e13:b.tmps.getD 62 undef = .pointer (some ⟨nb,4,none⟩):=hb.val 13 62 rfl (hall ⟨13,.data⟩ (by simp) rfl)
    have e13':b.tmps[62]?.getD undef = .pointer (some ⟨nb,4,none⟩):=(by simpa using e13)
    have n22:listed.getD 22 false=false:=not_listed (hb.closed 22 _ rfl) ⟨14,.phase⟩ (by simp) rfl hun'
    obtain ⟨W,hW,⟨y1,y3,n0,n1,n2,n3,n4,n5,lk1,lk2⟩⟩:=hpr n22
    refine .inl ?_
    rw [hsame (by decide) (by decide) (by decide),hW]
    clear hsame hpr hWf hW hwb hpa hpb hpc' hrun hwd
    go_simp
    try rfl
   ·
    have n22:listed.getD 22 false=false:=not_listed (hb.closed 22 _ rfl) ⟨15,.phase⟩ (by simp) rfl hun'
    obtain ⟨W,hW,⟨y1,y3,n0,n1,n2,n3,n4,n5,lk1,lk2⟩⟩:=hpr n22
    refine .inl ?_
    rw [hsame (by decide) (by decide) (by decide),hW]
    clear hsame hpr hWf hW hwb hpa hpb hpc' hrun hwd
    go_simp
    try rfl
   ·
    have e15:b.tmps.getD 64 undef = .pointer (some ⟨nb,5,none⟩):=hb.val 15 64 rfl (hall ⟨15,.data⟩ (by simp) rfl)
    have e15':b.tmps[64]?.getD undef = .pointer (some ⟨nb,5,none⟩):=(by simpa using e15)
    have n22:listed.getD 22 false=false:=not_listed (hb.closed 22 _ rfl) ⟨16,.phase⟩ (by simp) rfl hun'
    obtain ⟨W,hW,⟨y1,y3,n0,n1,n2,n3,n4,n5,lk1,lk2⟩⟩:=hpr n22
    refine .inl ?_
    rw [hsame (by decide) (by decide) (by decide),hW]
    clear hsame hpr hWf hW hwb hpa hpb hpc' hrun hwd
    go_simp
    try rfl
   ·
    have e7:b.tmps.getD 56 undef = .int .i64 x1:=hb.val 7 56 rfl (hall ⟨7,.data⟩ (by simp) rfl)
    have e7':b.tmps[56]?.getD undef = .int .i64 x1:=(by simpa using e7)
    have e12:b.tmps.getD 61 undef = .int .i64 x2:=hb.val 12 61 rfl (hall ⟨12,.data⟩ (by simp) rfl)
    have e12':b.tmps[61]?.getD undef = .int .i64 x2:=(by simpa using e12)
    have e14:b.tmps.getD 63 undef = .int .i64 x.most:=hb.val 14 63 rfl (hall ⟨14,.data⟩ (by simp) rfl)
    have e14':b.tmps[63]?.getD undef = .int .i64 x.most:=(by simpa using e14)
    have e16:b.tmps.getD 65 undef = .int .i64 x.by_:=hb.val 16 65 rfl (hall ⟨16,.data⟩ (by simp) rfl)
    have e16':b.tmps[65]?.getD undef = .int .i64 x.by_:=(by simpa using e16)
    have n22:listed.getD 22 false=false:=not_listed (hb.closed 22 _ rfl) ⟨17,.phase⟩ (by simp) rfl hun'
    obtain ⟨W,hW,⟨y1,y3,n0,n1,n2,n3,n4,n5,lk1,lk2⟩⟩:=hpr n22
    refine .inl ?_
    rw [hsame (by decide) (by decide) (by decide),hW]
    clear hsame hpr hWf hW hwb hpa hpb hpc' hrun hwd
    go_simp
    try rfl
   ·
    have e17:b.tmps.getD 66 undef = .agg #[.int .i64 x1,.int .i64 x2,.int .i64 x.most,.int .i64 x.by_]:=hb.val 17 66 rfl (hall ⟨17,.data⟩ (by simp) rfl)
    have e17':b.tmps[66]?.getD undef = .agg #[.int .i64 x1,.int .i64 x2,.int .i64 x.most,.int .i64 x.by_]:=(by simpa using e17)
    have n19:listed.getD 19 false=false:=not_listed (hb.closed 19 _ rfl) ⟨18,.data⟩ (by simp) rfl hun'
    have n22:listed.getD 22 false=false:=not_listed (hb.closed 22 _ rfl) ⟨18,.phase⟩ (by simp) rfl hun'
    have h1:Wf listed=wa:=(by rw [hWf,n22,n19,hun'];rfl)
    have h2:Wf (listed.setIfInBounds 18 true)=wb:=(by rw [hWf,getD_set_ne false (by decide),getD_set_ne false (by decide),n22,n19,getD_set_self hb.size (by simp)];rfl)
    refine .inl ?_
    rw [h1,h2]
    clear h1 h2 hWf hsame hpr
    subst hwb
    subst hnw
    go_simp
    try rfl
   ·
    have e2:b.tmps.getD 51 undef = .slice Ab n cb:=hb.val 2 51 rfl (hall ⟨2,.data⟩ (by simp) rfl)
    have e2':b.tmps[51]?.getD undef = .slice Ab n cb:=(by simpa using e2)
    have e18:b.tmps.getD 67 undef = .slice (some ⟨nw,0,none⟩) 1 1:=hb.val 18 67 rfl (hall ⟨18,.data⟩ (by simp) rfl)
    have e18':b.tmps[67]?.getD undef = .slice (some ⟨nw,0,none⟩) 1 1:=(by simpa using e18)
    have p18:listed.getD 18 false=true:=hall ⟨18,.data⟩ (by simp) rfl
    have n22:listed.getD 22 false=false:=not_listed (hb.closed 22 _ rfl) ⟨19,.phase⟩ (by simp) rfl hun'
    have h1:Wf listed=wb:=(by rw [hWf,n22,hun',p18];rfl)
    have h2:Wf (listed.setIfInBounds 19 true)=wc:=(by rw [hWf,getD_set_ne false (by decide),n22,getD_set_self hb.size (by simp)];rfl)
    refine .inl ?_
    rw [h1,h2]
    have f2:b.eval (.tmp 51) = .slice Ab n cb:=e2
    have f18:b.eval (.tmp 67) = .slice (some ⟨nw,0,none⟩) 1 1:=e18
    simp only [execOp,resolve,invoke,builtin,Sem.run_bind,Sem.run_pure,Result.andThen_ok,List.map_toArray,List.map_cons,List.map_nil,f2,f18,hrun]
    rfl
   ·
    have n21:listed.getD 21 false=false:=not_listed (hb.closed 21 _ rfl) ⟨20,.data⟩ (by simp) rfl hun'
    have n22:listed.getD 22 false=false:=not_listed (hb.closed 22 _ rfl) ⟨21,.data⟩ (by simp) rfl n21
    obtain ⟨W,hW,⟨y1,y3,n0,n1,n2,n3,n4,n5,lk1,lk2⟩⟩:=hpr n22
    refine .inl ?_
    rw [hsame (by decide) (by decide) (by decide),hW]
    clear hsame hpr hWf hW hwb hpa hpb hpc' hrun hwd
    go_simp
    try rfl
   ·
    have e20:b.tmps.getD 69 undef = .pointer (some ⟨yb,0,none⟩):=hb.val 20 69 rfl (hall ⟨20,.data⟩ (by simp) rfl)
    have e20':b.tmps[69]?.getD undef = .pointer (some ⟨yb,0,none⟩):=(by simpa using e20)
    have n22:listed.getD 22 false=false:=not_listed (hb.closed 22 _ rfl) ⟨21,.data⟩ (by simp) rfl hun'
    obtain ⟨W,hW,⟨y1,y3,n0,n1,n2,n3,n4,n5,lk1,lk2⟩⟩:=hpr n22
    refine .inl ?_
    rw [hsame (by decide) (by decide) (by decide),hW]
    clear hsame hpr hWf hW hwb hpa hpb hpc' hrun hwd
    go_simp
    try rfl
   ·
    have e21:b.tmps.getD 70 undef = .pointer (some ⟨yb,1,none⟩):=hb.val 21 70 rfl (hall ⟨21,.data⟩ (by simp) rfl)
    have e21':b.tmps[70]?.getD undef = .pointer (some ⟨yb,1,none⟩):=(by simpa using e21)
    have e19:b.tmps.getD 68 undef = .slice A' (n+1) c':=hb.val 19 68 rfl (hall ⟨19,.data⟩ (by simp) rfl)
    have e19':b.tmps[68]?.getD undef = .slice A' (n+1) c':=(by simpa using e19)
    have p19:listed.getD 19 false=true:=hall ⟨19,.data⟩ (by simp) rfl
    have h1:Wf listed=wc:=(by rw [hWf,hun',p19];rfl)
    have h2:Wf (listed.setIfInBounds 22 true)=wd:=(by rw [hWf,getD_set_self hb.size (by simp)];rfl)
    refine .inr ⟨?_,rfl⟩
    rw [h1,h2,←hwd]
    clear h1 h2 hWf hsame hpr
    obtain ⟨y1,y3,n0,n1,n2,n3,n4,n5,lk1,lk2⟩:=hpc'
    go_simp
    try rfl
 · intro b hb
   have hact:=hb.act (m:=73) (by kernel_rfl) hT.symm
   have hW:Wf (Array.replicate 23 true)=wd:=(by rw [hWf];rfl)
   refine (?_:Q .normal b (Wf (Array.replicate 23 true)))
   rw [hW,hact]
   exact hQ'
def ptsM (ps:List Place):Nat→List (Place×Int)
 | 0=> [(z00,0)]
 | k+1=>putM (ptsM ps k) (ps.getD k z00) (k+1)
def boundOf (m:List (Place×Int)) (x:Link):Bound:=⟨(getM m x.src).getD 0,(getM m x.dst).getD 0,x.most,x.by_⟩
theorem getD_intE (m:List (Place×Int)) (k:Place):((getM m k).map intE).getD (.int .i64 0) = .int .i64 ((getM m k).getD 0):=by
 cases getM m k<;>rfl
theorem linksL_len (ts:List Trace) (bs:List Bond) (mv:List Place):(linksL ts bs mv).length≤2 * ts.length+2 * bs.length:=by
 have h1:=flat_len2 linkT ts (fun y _=>by unfold linkT aboveL datedL;split<;>(try split)<;>simp) _ (Nat.le_refl _)
 have h2:=flat_len2 (linkB mv) bs (fun y _=>by unfold linkB;split<;>simp) _ (Nat.le_refl _)
 unfold linksL
 rw [List.length_append]
 omega
theorem YL.out {w0 W:World} {yb:Nat} {L:List Link} {Al:Option Addr} {cl mb:Nat} {m:List (Place×Int)} {v0:Int} {Ab:Option Addr} {cb:Nat} {bds:List Bound} (h:YL w0 W yb L Al cl mb m v0 Ab cb bds) (u0 u1 u2 u3:Value) (W':World)
 (hW:W'=(((W.setCell ⟨w0.heap.size,0,none⟩ u0).setCell ⟨w0.heap.size,1,none⟩ u1).setCell ⟨w0.heap.size,2,none⟩ u2).setCell ⟨w0.heap.size,3,none⟩ u3):
 Own encLink 6 138 w0.heap.size W' Al L.length cl L∧Own encBound 4 148 w0.heap.size W' Ab bds.length cb bds∧MapP intE W' mb m∧Below w0.heap.size w0 W'∧W'.heap[w0.heap.size]? = some (.cells #[u0,u1,u2,u3] 87 (0,0)):=by
 subst hW
 have hs:∀ (W:World) (i:Nat) (v:Value),W.grownBy (W.setCell ⟨w0.heap.size,i,none⟩ v) (some w0.heap.size):=fun W i v=>grownBy_setCell' W _ i v
 have n1:Al=none∨blockOf Al≠some w0.heap.size:=h.own.ne h.res.at_ (fun cur e=>by injection e with _ h _;cases h)
 have n2:Ab=none∨blockOf Ab≠some w0.heap.size:=h.ownB.ne h.res.at_ (fun cur e=>by injection e with _ h _;cases h)
 have n3:mb≠w0.heap.size:=(h.res.not_map h.map).symm
 exact ⟨(((h.own.kept (hs _ _ _) n1).kept (hs _ _ _) n1).kept (hs _ _ _) n1).kept (hs _ _ _) n1,(((h.ownB.kept (hs _ _ _) n2).kept (hs _ _ _) n2).kept (hs _ _ _) n2).kept (hs _ _ _) n2,
  (((h.map.setCell _ _ n3).setCell _ _ n3).setCell _ _ n3).setCell _ _ n3,(((h.bel.setCell (p:=⟨w0.heap.size,0,none⟩) (Nat.le_refl _) _).setCell (p:=⟨w0.heap.size,1,none⟩) (Nat.le_refl _) _).setCell (p:=⟨w0.heap.size,2,none⟩) (Nat.le_refl _) _).setCell (p:=⟨w0.heap.size,3,none⟩) (Nat.le_refl _) _,
  (by rw [heap_setCell_obj (heap_setCell_obj (heap_setCell_obj (heap_setCell_obj h.res.at_)))];rfl)⟩
theorem years_any (o:Nat) (At:Option Addr) (tn ct:Nat) (bA:Option Addr) (bn bc:Nat) (Ap:Option Addr) (pn cp:Nat) (M:Option Addr) (mn mc:Nat) (ts:List Trace) (bs:List Bond) (ps:List Place) (mv:List Place) (w:World)
 (o0:w.cell? ⟨o,0,none⟩=some (.slice At tn ct)) (o1:w.cell? ⟨o,1,none⟩=some (.slice bA bn bc)) (o2:w.cell? ⟨o,2,none⟩=some (.slice Ap pn cp))
 (rt:Rd encTrace 10 w At tn ct ts) (rb:Rd encBond 5 w bA bn bc bs) (rp:Rd encPlace 2 w Ap pn cp ps) (rm:Rd encPlace 2 w M mn mc mv) (hts:∀ x∈ts,okLT x) (htn:tn≤200) (hbn:bn≤200):
 Calls Tryz.prog 38 #[.pointer (some ⟨o,0,none⟩),.slice M mn mc] w fun e w'=> ∃ Ab cb Al cl mb,e = .returned (.agg #[.int .i64 (pn+1),.slice Ab (linksL ts bs mv).length cb,.slice Al (linksL ts bs mv).length cl,.map (some mb)])∧Below w.heap.size w w'∧
  Own encBound 4 148 w.heap.size w' Ab (linksL ts bs mv).length cb ((linksL ts bs mv).map (boundOf (ptsM ps pn)))∧Own encLink 6 138 w.heap.size w' Al (linksL ts bs mv).length cl (linksL ts bs mv)∧MapP intE w' mb (ptsM ps pn)∧w.heap.size≤mb:=by
 have HRT:=Lib.hid rt
 have HRB:=Lib.hid rb
 have HRP:=Lib.hid rp
 have HRM:=Lib.hid rm
 have HTS:=Lib.hid hts
 clear rt rb rp rm hts
 have hol:o<w.heap.size:=block_lt_of_cell o0
 obtain ⟨w1,hw1⟩:∃ w1,w.alloc (.cells #[.int .i64 0,.slice none 0 0,.slice none 0 0,.map none] 87)=w1:=⟨_,rfl⟩
 have hb1:Below w.heap.size w w1:=(by rw [←hw1];exact (Below.refl _ w).alloc (Nat.le_refl _) _)
 have hz1:w1.heap.size=w.heap.size+1:=(by rw [←hw1];simp)
 have hr1:YearAt w1 w.heap.size (.int .i64 0) (.slice none 0 0) (.slice none 0 0) (.map none):=(by rw [←hw1];exact ⟨heap_alloc_new w _⟩)
 have p0:w1.cell? ⟨o,0,none⟩=some (.slice At tn ct):=(hb1.cell (p:=⟨o,0,none⟩) hol).trans o0
 have p1:w1.cell? ⟨o,1,none⟩=some (.slice bA bn bc):=(hb1.cell (p:=⟨o,1,none⟩) hol).trans o1
 have HO2:=Lib.hid o2
 clear o0 o1 o2
 go_enter Tryz.func38,Tryz.ntmps38
 go_upto_region 1 with (fail)
 refine years1 _ rfl o At tn ct bA bn bc M mn mc ts bs mv w1 _ p0 p1 (HRT.out.below hb1 (Nat.le_refl _)) (HRB.out.below hb1 (Nat.le_refl _)) (HRM.out.below hb1 (Nat.le_refl _)) HTS.out htn hbn rfl rfl rfl _ ?_
 intro Bo Bm Bv W Al cl mb yb hbel hYF
 have hL0:YL w W yb (linksL ts bs mv) Al cl mb (ptsM ps 0) 0 none 0 []:=⟨hYF.own.mono (by omega),Own.none_ _ _ _ _ _,hYF.map,hYF.at_,⟨(hbel.block _ (by omega)).trans hr1.at_⟩,hb1.trans (hbel.mono (by omega)),(by have:=hYF.mb_;omega),(by have:=hYF.yb_;omega)⟩
 clear hYF hbel hr1 p0 p1 hz1 hb1
 simp only [List.setIfInBounds_toArray,List.set_cons_succ,List.set_cons_zero]
 have q2:W.cell? ⟨o,2,none⟩=some (.slice Ap pn cp):=(hL0.bel.cell (p:=⟨o,2,none⟩) hol).trans HO2.out
 obtain ⟨LL,hLL⟩:∃ LL,linksL ts bs mv=LL:=⟨_,rfl⟩
 rw [hLL] at hL0 ⊢
 go_wp2
 clear q2
 go_loopw [23] (fun i wr=> ∃ k:Nat,k≤pn∧i = .int .i64 k∧YL w wr yb LL Al cl mb (ptsM ps k) 0 none 0 []) (fun i _=>pn-(intOf i).toNat)
 case atStart=>exact ⟨0,Nat.zero_le _,rfl,hL0⟩
 case round=>
  clear hL0
  obtain ⟨k,hk,rfl,hL⟩:=hrel
  have hpb:=HRP.out.big
  have hyb:=hL.ybB
  by_cases hlt:k<pn
  · obtain ⟨b,off,x,rfl,hbw,hx,hcell⟩:=(HRP.out.below hL.bel (Nat.le_refl _)).one hlt
    have c0:wr.cell? ⟨b,off+k * 2,none⟩=some (.int .i64 x.pit):=hcell 0 _ rfl
    have c1:wr.cell? ⟨b,off+k * 2+1,none⟩=some (.int .i64 x.layer):=hcell 1 _ rfl
    have hgx:ps.getD k z00=x:=(by rw [List.getD_eq_getElem?_getD,hx];rfl)
    have HX:=Lib.hid hgx
    clear hcell hx hgx
    obtain ⟨d0,d1,d2,d3,df⟩:=hL.at_.cell
    have hlt2:=hL.at_.lt
    have hL4:=hL.grown ((Below.refl _ wr).alloc (Nat.le_refl _) (.cells #[.int .i64 x.pit,.int .i64 x.layer] 36))
    go_wp2_with (first
     | (at_mapUpdate;refine wpList_mapUpdatePl rfl _ _ _ 85 rfl Tryz.underlying85 x ((k:Int)+1) rfl rfl rfl hL4.map ?_;intro w5 hm5 hg5 hs5))
    go_roundw
    all_goals first
     | exact ⟨k+1,by omega,by go_num,by have:=hL4.put hm5 hg5;rw [←HX.out] at this;exact this⟩
     | (simp [intOf];omega)
  · have hkn:k=pn:=by omega
    subst hkn
    clear hlt hk
    obtain ⟨d0,d1,d2,d3,df⟩:=hL.at_.cell
    have hlt2:=hL.at_.lt
    have df0:=df 0
    have q2:wr.cell? ⟨o,2,none⟩=some (.slice Ap k cp):=(hL.bel.cell (p:=⟨o,2,none⟩) hol).trans HO2.out
    have hLs:=hL.points (k+1)
    obtain ⟨MM,hMM⟩:∃ MM,ptsM ps k=MM:=⟨_,rfl⟩
    rw [hMM] at hLs
    have hLLn:LL.length≤800:=(by have:=linksL_len ts bs mv;rw [hLL,HRT.out.len,HRB.out.len] at this;omega)
    have HLN:=Lib.hid hLLn
    go_wp2
    clear d0 d1 d2 d3 df q2 hL df0
    go_loopw [45] (fun i w2=> ∃ (q:Nat) (Ab:Option Addr) (cb:Nat) (bds:List Bound),q≤LL.length∧i = .int .i64 q∧YL w w2 yb LL Al cl mb MM (k+1) Ab cb bds∧Hid (bds=(LL.take q).map (boundOf MM))) (fun i _=>LL.length-(intOf i).toNat)
    case atStart=>exact ⟨0,none,0,[],Nat.zero_le _,rfl,hLs,(show _=_ by simp)⟩
    case round=>
     clear hLs
     obtain ⟨q,Ab,cb,bds,hq,rfl,hL,hbds⟩:=hrel
     have hbl:bds.length≤800:=(by have:=hbds.out;rw [this,List.length_map,List.length_take];omega)
     by_cases hql:q<LL.length
     · obtain ⟨b,off,x,rfl,hbw,hx,hcell⟩:=(hL.own.rd (fun _=>rfl) (by omega)).one hql
       have c0:wr.cell? ⟨b,off+q * 6,none⟩=some (.int .i64 x.src.pit):=hcell 0 _ rfl
       have c1:wr.cell? ⟨b,off+q * 6+1,none⟩=some (.int .i64 x.src.layer):=hcell 1 _ rfl
       have c2:wr.cell? ⟨b,off+q * 6+2,none⟩=some (.int .i64 x.dst.pit):=hcell 2 _ rfl
       have c3:wr.cell? ⟨b,off+q * 6+3,none⟩=some (.int .i64 x.dst.layer):=hcell 3 _ rfl
       have c4:wr.cell? ⟨b,off+q * 6+4,none⟩=some (.int .i64 x.most):=hcell 4 _ rfl
       have c5:wr.cell? ⟨b,off+q * 6+5,none⟩=some (.int .i64 x.by_):=hcell 5 _ rfl
       have htk:bds ++ [boundOf MM x]=(LL.take (q+1)).map (boundOf MM):=(by rw [List.take_add_one,hx,hbds.out];simp)
       have HTK:=Lib.hid htk
       clear hcell hx htk
       obtain ⟨d0,d1,d2,d3,df⟩:=hL.at_.cell
       have hlt3:=hL.at_.lt
       obtain ⟨x1,hx1⟩:∃ x1,(getM MM x.src).getD 0=x1:=⟨_,rfl⟩
       obtain ⟨x2,hx2⟩:∃ x2,(getM MM x.dst).getD 0=x2:=⟨_,rfl⟩
       have hbo:boundOf MM x=⟨x1,x2,x.most,x.by_⟩:=(by unfold boundOf;rw [hx1,hx2])
       rw [hbo] at HTK
       have hlk:∀ W,MapP intE W mb MM→(Instr.lookup 85 (.map (some mb)) (.agg #[.int .i64 x.src.pit,.int .i64 x.src.layer]) false).run Tryz.prog W = .ok (.int .i64 x1) W∧(Instr.lookup 85 (.map (some mb)) (.agg #[.int .i64 x.dst.pit,.int .i64 x.dst.layer]) false).run Tryz.prog W = .ok (.int .i64 x2) W:=fun W hm=>by
        have h1:=run_lookupPl Tryz.underlying85 (Tryz.zeroValue3 W) hm x.src false
        have h2:=run_lookupPl Tryz.underlying85 (Tryz.zeroValue3 W) hm x.dst false
        simp only [keyV,getD_intE,Bool.false_eq_true,if_false,hx1,hx2] at h1 h2
        exact ⟨h1,h2⟩
       have HLK:=Lib.hid hlk
       clear hbo hlk hx1 hx2
       have hbl1:(bds ++ [(⟨x1,x2,x.most,x.by_⟩:Bound)]).length=bds.length+1:=by simp
       have HBL:=Lib.hid hbl1
       clear hbl1
       go_upto_region 11 with (fail)
       obtain ⟨wa,hwa⟩:∃ wa,wr.alloc (.cells #[.int .i64 x.src.pit,.int .i64 x.src.layer,.int .i64 x.dst.pit,.int .i64 x.dst.layer,.int .i64 x.most,.int .i64 x.by_] 138)=wa:=⟨_,rfl⟩
       rw [hwa]
       have hLa:YL w wa yb LL (some ⟨b,off,none⟩) cl mb MM (k+1) Ab cb bds:=(by rw [←hwa];exact hL.grown ((Below.refl _ wr).alloc (Nat.le_refl _) _))
       have hna:wa.heap[wr.heap.size]? = some (.cells #[.int .i64 x.src.pit,.int .i64 x.src.layer,.int .i64 x.dst.pit,.int .i64 x.dst.layer,.int .i64 x.most,.int .i64 x.by_] 138 (0,0)):=(by rw [←hwa];exact heap_alloc_new wr _)
       have hpr:∀ W,YearAt W yb (.int .i64 ((k:Int)+1)) (.slice Ab bds.length cb) (.slice (some ⟨b,off,none⟩) LL.length cl) (.map (some mb))→MapP intE W mb MM→W.heap[wr.heap.size]? = wa.heap[wr.heap.size]? → Pr11 W yb wr.heap.size Ab bds.length cb mb x x1 x2:=fun W h1 hm h2=>by
        obtain ⟨_,e1,_,e3,_⟩:=h1.cell
        obtain ⟨l1,l2⟩:=HLK.out W hm
        rw [hna] at h2
        refine ⟨e1,e3,?_,?_,?_,?_,?_,?_,l1,l2⟩<;>simp [World.cell?,h2]
       have hbB:Below wa.drew.heap.size wa.drew (wa.drew.alloc (.cells #[.int .i64 x1,.int .i64 x2,.int .i64 x.most,.int .i64 x.by_] 148)):=(Below.refl _ _).alloc (Nat.le_refl _) _
       have hLb:=hLa.drew.grown hbB
       have hlna:wr.heap.size<wa.drew.heap.size:=(Array.getElem?_eq_some_iff.1 hna).1
       refine years11 _ rfl w.heap.size yb wr.heap.size Ab bds.length cb mb x x1 x2 bds _ wa _ _ rfl rfl rfl rfl (hpr _ hLa.drew.at_ hLa.drew.map rfl) (hpr _ hLb.at_ hLb.map (hbB.block _ hlna)) ?_ ?_ hLb.ownB hLb.hB (by omega) ?_
       · intro w8 hg
         obtain ⟨es,clk,hmb,_⟩:=hLb.map.at_
         have hnb:=(hbB.block _ hlna).trans hna
         exact hpr _ (hLb.at_.kept hg (hLb.ownB.ne' hLb.at_.at_ (fun cur e=>by injection e with _ h _;cases h))) (hLb.map.kept hg (hLb.ownB.ne' hmb (fun cur e=>by cases e))) ((hg.block _ (Nat.lt_of_lt_of_le hlna hbB.size) (hLb.ownB.ne' hnb (fun cur e=>by injection e with _ h _;cases h))).trans (hbB.block _ hlna))
       · intro w8 hg
         exact (hLb.at_.kept hg (hLb.ownB.ne' hLb.at_.at_ (fun cur e=>by injection e with _ h _;cases h))).cell.2.2.2.2 1
       · intro A' c' w8 hO hg
         have hO':Own encBound 4 148 w.heap.size w8 A' (bds ++ [(⟨x1,x2,x.most,x.by_⟩:Bound)]).length c' (bds ++ [⟨x1,x2,x.most,x.by_⟩]):=(by rw [HBL.out];exact hO)
         have hL9:=hLb.push hg hO'
         rw [HBL.out] at hL9
         simp only [List.setIfInBounds_toArray,List.set_cons_succ,List.set_cons_zero]
         obtain ⟨w9,hw9⟩:∃ w9,w8.setCell ⟨yb,1,none⟩ (.slice A' (bds.length+1) c')=w9:=⟨_,rfl⟩
         rw [hw9] at hL9 ⊢
         clear hO hO' hg hw9 hpr hLb hbB hLa hna d0 d1 d2 d3 df c0 c1 c2 c3 c4 c5
         go_wp2
         go_roundw
         all_goals first
          | exact ⟨q+1,_,_,bds ++ [⟨x1,x2,x.most,x.by_⟩],by omega,by go_num,hL9,HTK⟩
          | (simp [intOf];omega)
     · have hqn:q=LL.length:=by omega
       subst hqn
       have hfin:bds=LL.map (boundOf MM):=(by rw [hbds.out,List.take_length])
       have hfl:bds.length=LL.length:=(by rw [hfin,List.length_map])
       obtain ⟨d0,d1,d2,d3,df⟩:=hL.at_.cell
       obtain ⟨r0,r1,r2,r3,rf⟩:=hL.res.cell
       rw [hfl] at d1
       have z:=hL.bel
       have rf0:=rf 0
       have rf1:=rf 1
       have rf2:=rf 2
       have rf3:=rf 3
       have hfn:¬w.heap.size=yb:=(by omega)
       have hfin2:=Lib.hid hL
       have hbe:=hL.bel
       clear hL z
       go_wp2
       obtain ⟨e1,e2,e3,e4,e5⟩:=hfin2.out.out _ _ _ _ _ rfl
       refine bodyPost_ret (results_cell_row rfl _ _ w.heap.size _ _ (0,0) _ rfl e5 Tryz.underlying87 rfl (by kernel_rfl)) rfl ?_
       refine ⟨Ab,cb,Al,cl,mb,?_,e4,?_,?_,?_,by have:=hfin2.out.mbB;omega⟩
       · rw [hLL]
       · rw [hfl] at e2;rw [hLL,hMM,←hfin];exact e2
       · rw [hLL];exact e1
       · rw [hMM];exact e3
end Go.Proofs.YtejjplhknacoiaaGreatDoor
end

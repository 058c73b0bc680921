/- Contracts that the laws lean on: Some, DateC, Bnd, Great, Askd. -/
import Derived.Test.YtejjplhknacoiaaGreatDoorLK15
import Derived.Test.YtejjplhknacoiaaGreatDoorLK13
set_option maxRecDepth 100000
set_option maxHeartbeats 4000000
section
namespace Go.Proofs.YtejjplhknacoiaaGreatDoor
open Go.RowKit Go.Proofs Go.Shelf
def someL (L:List Link) (at_:List Int):List Link:=at_.map (fun i=>L.getD i.toNat default)
theorem some_years (u:Int) (A1:Option Addr) (n1 c1:Nat) (Al:Option Addr) (cl:Nat) (L:List Link) (M:Option Nat) (Ai:Option Addr) (ni ci:Nat) (is:List Int) (w:World) (hL:Rd encLink 6 w Al L.length cl L) (hi:Rd encInt 1 w Ai ni ci is) (hn:ni≤1000)
 (hr:∀ i∈is,0≤i∧i<L.length):
 Calls Tryz.prog 36 #[.agg #[.int .i64 u,.slice A1 n1 c1,.slice Al L.length cl,.map M],.slice Ai ni ci] w fun e w'=> ∃ A' c',e = .returned (.slice A' ni c')∧Below w.heap.size w w'∧
  Own encLink 6 138 w.heap.size w' A' ni c' (someL L is):=by
 have HLN:=Lib.hid hi.len
 have HR:=Lib.hid hr
 have HL:=Lib.hid hL
 have hbig:=hL.big
 have hz0:(w.alloc (.cells #[.int .i64 u,.slice A1 n1 c1,.slice Al L.length cl,.map M] 87)).heap[w.heap.size]? = some (.cells #[.int .i64 u,.slice A1 n1 c1,.slice Al L.length cl,.map M] 87 (0,0)):=heap_alloc_new w _
 clear hr hL
 go_enter Tryz.func36,Tryz.ntmps36
 go_wp2
 go_loopw [5,10] (fun s5 i wr=> ∃ (k:Nat) (A':Option Addr) (c':Nat) (ps:List Link),k≤ni∧i = .int .i64 k∧s5 = .slice A' ps.length c'∧Below w.heap.size w wr∧Hid (someL L (is.take k)=ps)∧Hid (Own encLink 6 138 w.heap.size wr A' ps.length c' ps)∧Hid (wr.heap[w.heap.size]? = some (.cells #[.int .i64 u,.slice A1 n1 c1,.slice Al L.length cl,.map M] 87 (0,0)))) (fun _ i _=>ni-(intOf i).toNat)
 case atStart=>exact ⟨0,none,0,[],Nat.zero_le _,rfl,rfl,(Below.refl _ w).alloc (Nat.le_refl _) _,(show _=_ from rfl),(show Own _ _ _ _ _ _ _ _ _ from Own.none_ _ _ _ _ _),(show _=_ from hz0)⟩
 case round=>
  clear hz0
  obtain ⟨k,A',c',ps,hk,rfl,rfl,hb,hs,hO,hz⟩:=hrel
  by_cases hlt:k<ni
  · obtain ⟨b,off,x,rfl,hbw,hx,hcell⟩:=(hi.below hb (Nat.le_refl _)).one hlt
    have e0:wr.cell? ⟨b,off+k * 1,none⟩=some (.int .i64 x):=hcell 0 _ rfl
    rw [Nat.mul_one] at e0
    have hrx:=HR.out x (List.mem_of_getElem? hx)
    obtain ⟨j,rfl⟩:∃ j:Nat,x=j:=⟨x.toNat,by omega⟩
    have hjl:j<L.length:=by omega
    obtain ⟨b2,off2,y,rfl,hbw2,hy,hcell2⟩:=(HL.out.below hb (Nat.le_refl _)).one hjl
    have y0:wr.cell? ⟨b2,off2+j * 6,none⟩=some (.int .i64 y.src.pit):=hcell2 0 _ rfl
    have y1:wr.cell? ⟨b2,off2+j * 6+1,none⟩=some (.int .i64 y.src.layer):=hcell2 1 _ rfl
    have y2:wr.cell? ⟨b2,off2+j * 6+2,none⟩=some (.int .i64 y.dst.pit):=hcell2 2 _ rfl
    have y3:wr.cell? ⟨b2,off2+j * 6+3,none⟩=some (.int .i64 y.dst.layer):=hcell2 3 _ rfl
    have y4:wr.cell? ⟨b2,off2+j * 6+4,none⟩=some (.int .i64 y.most):=hcell2 4 _ rfl
    have y5:wr.cell? ⟨b2,off2+j * 6+5,none⟩=some (.int .i64 y.by_):=hcell2 5 _ rfl
    have z2:wr.cell? ⟨w.heap.size,2,none⟩=some (.slice (some ⟨b2,off2,none⟩) L.length cl):=(by simp [World.cell?,hz.out])
    have hpl:ps.length=k:=(by rw [←hs.out];unfold someL;rw [List.length_map,List.length_take,HLN.out];omega)
    have hstep:someL L (is.take (k+1))=ps ++ [y]:=(by
     rw [←hs.out];unfold someL
     rw [List.take_add_one,hx,List.map_append]
     simp [List.getD_eq_getElem?_getD,hy])
    have HS:=Lib.hid hstep
    have hsz:=hb.size
    have HPL:=Lib.hid hpl
    have hp8:ps.length≤1000:=(by omega)
    clear hstep hx hy hcell hcell2 hpl
    have hO5:=hO.out.alloc (.cells #[.int .i64 y.src.pit,.int .i64 y.src.layer,.int .i64 y.dst.pit,.int .i64 y.dst.layer,.int .i64 y.most,.int .i64 y.by_] 138)
    have hrd5:=Rd.single (enc:=encLink) (k:=6) wr #[.int .i64 y.src.pit,.int .i64 y.src.layer,.int .i64 y.dst.pit,.int .i64 y.dst.layer,.int .i64 y.most,.int .i64 y.by_] 138 [y] 1 rfl (by omega) (fun _=>rfl) (by simp [encLink])
    have hb5:Below w.heap.size w (wr.alloc (.cells #[.int .i64 y.src.pit,.int .i64 y.src.layer,.int .i64 y.dst.pit,.int .i64 y.dst.layer,.int .i64 y.most,.int .i64 y.by_] 138)):=hb.alloc hsz _
    have hzl:=(Array.getElem?_eq_some_iff.1 hz.out).1
    have hz5:=(Below.heap_alloc wr (.cells #[.int .i64 y.src.pit,.int .i64 y.src.layer,.int .i64 y.dst.pit,.int .i64 y.dst.layer,.int .i64 y.most,.int .i64 y.by_] 138) w.heap.size hzl).trans hz.out
    go_wp2_with (at_builtin;refine wpList_append_src elLink (fun _=>rfl) oneLink rfl _ _ rfl _ _ _ _ rfl rfl hO5 hrd5 (by omega) (by decide) (by simp;omega) ?_;intro A2 c2 w8 hO8 hg8 hA8)
    go_roundw
    all_goals first
     | (simp [intOf];omega)
     | (refine ⟨k+1,A2,c2,ps ++ [y],by omega,by go_num,by simp,hb5.grown hg8 (by simp;omega) (fun j e=>hO5.ltB j e),HS,?_,?_⟩
        · exact (show Own _ _ _ _ _ _ _ _ _ by rw [List.length_append];exact hO8)
        · exact (show _=_ from (hg8.block _ (by simp;omega) (hO5.ne' hz5 (fun cur e=>by injection e with _ h _;cases h))).trans hz5))
  · have hkn:k=ni:=by omega
    subst hkn
    go_wp2
    go_ret
    have hps:ps=someL L is:=(by rw [←hs.out,List.take_of_length_le (by rw [HLN.out];exact Nat.le_refl _)])
    have hpl:ps.length=k:=(by rw [hps];unfold someL;rw [List.length_map,HLN.out])
    have hO2:=hO.out
    rw [hpl] at hO2 ⊢
    rw [hps] at hO2
    exact ⟨A',c',rfl,hb,hO2⟩
def code34_11:Option Code→Code
 | some (.seq _ (.seq _ (.seq _ (.seq _ (.seq _ (.seq _ (.seq (.seq _ (.block _ (.loop (.seq _ (.seq _ (.seq (.block _ (.seq _ c)) _)))))) _)))))))=>c
 | _=> .skip
structure PrD (W:World) (nb bx k:Nat) (x:Place) (x1 x2:Int):Prop where
 n0:W.cell? ⟨nb,0,none⟩=some (.int .i64 x.pit)
 n1:W.cell? ⟨nb,1,none⟩=some (.int .i64 x.layer)
 z1:W.cell? ⟨bx,k+1,none⟩=some (.int .i64 x1)
 z0:W.cell? ⟨bx,0,none⟩=some (.int .i64 x2)
def tabD (bx nx cx nw:Nat) (Ad:Option Addr) (n cd:Nat) (x:Place) (k:Nat) (x1 x2:Int) (A':Option Addr) (c':Nat):Nat→Value
 | 0=> .slice Ad n cd
 | 1=> .agg #[.int .i64 x.pit,.int .i64 x.layer]
 | 2=> .slice (some ⟨bx,0,none⟩) nx cx
 | 3=> .int .i64 k
 | 4=> .int .i64 (k+1)
 | 5=> .pointer (some ⟨bx,k+1,none⟩)
 | 6=> .int .i64 x1
 | 7=> .slice (some ⟨bx,0,none⟩) nx cx
 | 8=> .pointer (some ⟨bx,0,none⟩)
 | 9=> .int .i64 x2
 | 10=> .int .i64 (x1-x2)
 | 11=> .agg #[.int .i64 x.pit,.int .i64 x.layer,.int .i64 (x1-x2)]
 | 12=> .slice (some ⟨nw,0,none⟩) 1 1
 | 13=> .slice A' (n+1) c'
 | 14=> .slice A' (n+1) c'
 | _=>undef
theorem dates11 (c:Code) (hc:c=code34_11 Tryz.f14.body) (B nb bx nx cx:Nat) (Ad:Option Addr) (n cd:Nat) (x:Place) (k:Nat) (x1 x2:Int) (ds:List Dating) (a:Act) (w wb:World) (Q:Exit→Act→World→Prop)
 (hT:a.tmps.size=67) (t14:a.tmps.getD 14 undef = .slice (some ⟨bx,0,none⟩) nx cx) (t17:a.tmps.getD 17 undef = .slice Ad n cd) (t18:a.tmps.getD 18 undef = .int .i64 k) (t19:a.tmps.getD 19 undef = .pointer (some ⟨nb,0,none⟩))
 (hkx:k+1<nx) (hnx:nx≤60) (hw1:IntKind.i64.wrap (x1-x2)=x1-x2)
 (hwb:wb=w.drew.alloc (.cells #[.int .i64 x.pit,.int .i64 x.layer,.int .i64 (x1-x2)] 96))
 (hpa:PrD w.drew nb bx k x x1 x2) (hpb:PrD wb nb bx k x x1 x2) (hpc:∀ w8,wb.grownBy w8 (blockOf Ad)→PrD w8 nb bx k x x1 x2)
 (hown:Own encDating 3 96 B wb Ad n cd ds) (hB:B≤wb.heap.size) (hn:n≤1000)
 (hQ:∀ A' c' w8,Own encDating 3 96 B w8 A' (n+1) c' (ds ++ [⟨x,x1-x2⟩])→wb.grownBy w8 (blockOf Ad)→
   Q .normal { tmps:=(((((((((((((((a.tmps.setIfInBounds 51 (.slice Ad n cd)).setIfInBounds 52 (.agg #[.int .i64 x.pit,.int .i64 x.layer])).setIfInBounds 53 (.slice (some ⟨bx,0,none⟩) nx cx)).setIfInBounds 54 (.int .i64 k)).setIfInBounds 55 (.int .i64 (k+1))).setIfInBounds 56 (.pointer (some ⟨bx,k+1,none⟩))).setIfInBounds 57 (.int .i64 x1)).setIfInBounds 58 (.slice (some ⟨bx,0,none⟩) nx cx)).setIfInBounds 59 (.pointer (some ⟨bx,0,none⟩))).setIfInBounds 60 (.int .i64 x2)).setIfInBounds 61 (.int .i64 (x1-x2))).setIfInBounds 62 (.agg #[.int .i64 x.pit,.int .i64 x.layer,.int .i64 (x1-x2)])).setIfInBounds 63 (.slice (some ⟨w.drew.heap.size,0,none⟩) 1 1)).setIfInBounds 64 (.slice A' (n+1) c')).setIfInBounds 17 (.slice A' (n+1) c')),defers:=a.defers } w8):
 c.wp Tryz.prog Q a w:=by
 subst hc
 unfold code34_11 Tryz.f14
 dsimp only
 obtain ⟨wa,hwa⟩:∃ wa,w.drew=wa:=⟨_,rfl⟩
 rw [hwa] at hwb hpa hQ
 obtain ⟨nw,hnw⟩:∃ nw,wa.heap.size=nw:=⟨_,rfl⟩
 have hrd:Rd encDating 3 wb (some ⟨nw,0,none⟩) 1 1 [⟨x,x1-x2⟩]:=(by
  have:=Rd.single (enc:=encDating) (k:=3) wa #[.int .i64 x.pit,.int .i64 x.layer,.int .i64 (x1-x2)] 96 [⟨x,x1-x2⟩] 1 rfl (by omega) (fun _=>rfl) (by simp [encDating])
  rw [hwb,←hnw];exact this)
 obtain ⟨A',c',wc,hrun,hO,hg,_⟩:=run_append_src elDating 45 (fun _=>rfl) oneDating hown (some ⟨nw,0,none⟩) 1 1 [⟨x,x1-x2⟩] hrd (by omega) (by omega) hB
 have hQ':=hQ A' c' wc hO hg
 have hpc':=hpc wc hg
 rw [hnw] at hQ'
 clear hQ hpc hO hg hrd hown
 obtain ⟨Wf,hWf⟩:∃ Wf:Array Bool→World,∀ L,Wf L=if L.getD 13 false=true then wc else if L.getD 12 false=true then wb else wa:=⟨fun L=>if L.getD 13 false=true then wc else if L.getD 12 false=true then wb else wa,fun _=>rfl⟩
 refine wpIn_wide.1 (wpIn_region_tab2 (nn:=5) (by kernel_rfl) (tabD bx nx cx nw Ad n cd x k x1 x2 A' c') Wf (by rw [hT];kernel_rfl) ?_ ?_ ?_)
 · rw [hWf,hwa];rfl
 · intro listed i o b hi ho hb hlat
   obtain ⟨hun,oi,hoi,hall⟩:=mem_ready.1 hi
   have:oi=o:=Option.some.inj (hoi.symm.trans ho)
   subst this
   clear hoi hi hQ'
   have hlt:i<15:=by have:=(Array.getElem?_eq_some_iff.1 ho).1;simpa using this
   have q14:=(hb.old 14 (dst_no hb (by kernel_rfl))).trans t14
   have q18:=(hb.old 18 (dst_no hb (by kernel_rfl))).trans t18
   have q19:=(hb.old 19 (dst_no hb (by kernel_rfl))).trans t19
   have q17:listed.getD 14 false=false→b.tmps.getD 17 undef = .slice Ad n cd:=fun h=>(hlat 14 17 rfl h).trans t17
   have hun':listed.getD i false=false:=getD_both hun
   have hw0:IntKind.i64.wrap ((k:Int)+1)=(k:Int)+1:=by rw [IntKind.wrap_i64];omega
   have hsame:i≠12→i≠13→Wf (listed.setIfInBounds i true)=Wf listed:=fun h1 h2=>by rw [hWf,hWf,getD_set_ne false h1,getD_set_ne false h2]
   have hpr:∃ W,Wf listed=W∧PrD W nb bx k x x1 x2:=by
    refine ⟨_,rfl,?_⟩
    rw [hWf]
    split
    · exact hpc'
    · split
      · exact hpb
      · exact hpa
   rcases (by omega:i=0∨i=1∨i=2∨i=3∨i=4∨i=5∨i=6∨i=7∨i=8∨i=9∨i=10∨i=11∨i=12∨i=13∨i=14) with rfl|rfl|rfl|rfl|rfl|rfl|rfl|rfl|rfl|rfl|rfl|rfl|rfl|rfl|rfl
   all_goals simp only [List.getElem?_toArray,List.getElem?_cons_zero,List.getElem?_cons_succ] at ho
   all_goals cases ho
   ·
    have n14:listed.getD 14 false=false:=not_listed (hb.closed 14 _ rfl) ⟨0,.phase⟩ (by simp) rfl hun'
    have q17':=q17 n14
    obtain ⟨W,hW,⟨n0,n1,z1,z0⟩⟩:=hpr
    refine .inl ?_
    rw [hsame (by decide) (by decide),hW]
    clear hsame hWf hW hwb hpa hpb hpc' hrun
    go_simp
    try rfl
   ·
    obtain ⟨W,hW,⟨n0,n1,z1,z0⟩⟩:=hpr
    refine .inl ?_
    rw [hsame (by decide) (by decide),hW]
    clear hsame hWf hW hwb hpa hpb hpc' hrun
    go_simp
    try rfl
   ·
    obtain ⟨W,hW,⟨n0,n1,z1,z0⟩⟩:=hpr
    refine .inl ?_
    rw [hsame (by decide) (by decide),hW]
    clear hsame hWf hW hwb hpa hpb hpc' hrun
    go_simp
    try rfl
   ·
    obtain ⟨W,hW,⟨n0,n1,z1,z0⟩⟩:=hpr
    refine .inl ?_
    rw [hsame (by decide) (by decide),hW]
    clear hsame hWf hW hwb hpa hpb hpc' hrun
    go_simp
    try rfl
   ·
    have e3:b.tmps.getD 54 undef = .int .i64 k:=hb.val 3 54 rfl (hall ⟨3,.data⟩ (by simp) rfl)
    have e3':b.tmps[54]?.getD undef = .int .i64 k:=(by simpa using e3)
    obtain ⟨W,hW,⟨n0,n1,z1,z0⟩⟩:=hpr
    refine .inl ?_
    rw [hsame (by decide) (by decide),hW]
    clear hsame hWf hW hwb hpa hpb hpc' hrun
    go_simp
    rfl
   ·
    have e2:b.tmps.getD 53 undef = .slice (some ⟨bx,0,none⟩) nx cx:=hb.val 2 53 rfl (hall ⟨2,.data⟩ (by simp) rfl)
    have e2':b.tmps[53]?.getD undef = .slice (some ⟨bx,0,none⟩) nx cx:=(by simpa using e2)
    have e4:b.tmps.getD 55 undef = .int .i64 (k+1):=hb.val 4 55 rfl (hall ⟨4,.data⟩ (by simp) rfl)
    have e4':b.tmps[55]?.getD undef = .int .i64 (k+1):=(by simpa using e4)
    obtain ⟨W,hW,⟨n0,n1,z1,z0⟩⟩:=hpr
    refine .inl ?_
    rw [hsame (by decide) (by decide),hW]
    clear hsame hWf hW hwb hpa hpb hpc' hrun
    go_simp
    rw [if_pos (by omega)];rfl
   ·
    have e5:b.tmps.getD 56 undef = .pointer (some ⟨bx,k+1,none⟩):=hb.val 5 56 rfl (hall ⟨5,.data⟩ (by simp) rfl)
    have e5':b.tmps[56]?.getD undef = .pointer (some ⟨bx,k+1,none⟩):=(by simpa using e5)
    obtain ⟨W,hW,⟨n0,n1,z1,z0⟩⟩:=hpr
    refine .inl ?_
    rw [hsame (by decide) (by decide),hW]
    clear hsame hWf hW hwb hpa hpb hpc' hrun
    go_simp
    try rfl
   ·
    obtain ⟨W,hW,⟨n0,n1,z1,z0⟩⟩:=hpr
    refine .inl ?_
    rw [hsame (by decide) (by decide),hW]
    clear hsame hWf hW hwb hpa hpb hpc' hrun
    go_simp
    try rfl
   ·
    have e7:b.tmps.getD 58 undef = .slice (some ⟨bx,0,none⟩) nx cx:=hb.val 7 58 rfl (hall ⟨7,.data⟩ (by simp) rfl)
    have e7':b.tmps[58]?.getD undef = .slice (some ⟨bx,0,none⟩) nx cx:=(by simpa using e7)
    obtain ⟨W,hW,⟨n0,n1,z1,z0⟩⟩:=hpr
    refine .inl ?_
    rw [hsame (by decide) (by decide),hW]
    clear hsame hWf hW hwb hpa hpb hpc' hrun
    go_simp
    rw [if_pos (by omega)];rfl
   ·
    have e8:b.tmps.getD 59 undef = .pointer (some ⟨bx,0,none⟩):=hb.val 8 59 rfl (hall ⟨8,.data⟩ (by simp) rfl)
    have e8':b.tmps[59]?.getD undef = .pointer (some ⟨bx,0,none⟩):=(by simpa using e8)
    obtain ⟨W,hW,⟨n0,n1,z1,z0⟩⟩:=hpr
    refine .inl ?_
    rw [hsame (by decide) (by decide),hW]
    clear hsame hWf hW hwb hpa hpb hpc' hrun
    go_simp
    try rfl
   ·
    have e6:b.tmps.getD 57 undef = .int .i64 x1:=hb.val 6 57 rfl (hall ⟨6,.data⟩ (by simp) rfl)
    have e6':b.tmps[57]?.getD undef = .int .i64 x1:=(by simpa using e6)
    have e9:b.tmps.getD 60 undef = .int .i64 x2:=hb.val 9 60 rfl (hall ⟨9,.data⟩ (by simp) rfl)
    have e9':b.tmps[60]?.getD undef = .int .i64 x2:=(by simpa using e9)
    obtain ⟨W,hW,⟨n0,n1,z1,z0⟩⟩:=hpr
    refine .inl ?_
    rw [hsame (by decide) (by decide),hW]
    clear hsame hWf hW hwb hpa hpb hpc' hrun
    go_simp
    try rfl
   ·
    have e1:b.tmps.getD 52 undef = .agg #[.int .i64 x.pit,.int .i64 x.layer]:=hb.val 1 52 rfl (hall ⟨1,.data⟩ (by simp) rfl)
    have e1':b.tmps[52]?.getD undef = .agg #[.int .i64 x.pit,.int .i64 x.layer]:=(by simpa using e1)
    have e10:b.tmps.getD 61 undef = .int .i64 (x1-x2):=hb.val 10 61 rfl (hall ⟨10,.data⟩ (by simp) rfl)
    have e10':b.tmps[61]?.getD undef = .int .i64 (x1-x2):=(by simpa using e10)
    obtain ⟨W,hW,⟨n0,n1,z1,z0⟩⟩:=hpr
    refine .inl ?_
    rw [hsame (by decide) (by decide),hW]
    clear hsame hWf hW hwb hpa hpb hpc' hrun
    go_simp
    try rfl
   ·
    have e11:b.tmps.getD 62 undef = .agg #[.int .i64 x.pit,.int .i64 x.layer,.int .i64 (x1-x2)]:=hb.val 11 62 rfl (hall ⟨11,.data⟩ (by simp) rfl)
    have e11':b.tmps[62]?.getD undef = .agg #[.int .i64 x.pit,.int .i64 x.layer,.int .i64 (x1-x2)]:=(by simpa using e11)
    have n13:listed.getD 13 false=false:=not_listed (hb.closed 13 _ rfl) ⟨12,.data⟩ (by simp) rfl hun'
    have h1:Wf listed=wa:=(by rw [hWf,n13,hun'];rfl)
    have h2:Wf (listed.setIfInBounds 12 true)=wb:=(by rw [hWf,getD_set_ne false (by decide),n13,getD_set_self hb.size (by simp)];rfl)
    refine .inl ?_
    rw [h1,h2]
    clear h1 h2 hWf hsame hpr
    subst hwb
    subst hnw
    go_simp
    try rfl
   ·
    have e0:b.tmps.getD 51 undef = .slice Ad n cd:=hb.val 0 51 rfl (hall ⟨0,.data⟩ (by simp) rfl)
    have e0':b.tmps[51]?.getD undef = .slice Ad n cd:=(by simpa using e0)
    have e12:b.tmps.getD 63 undef = .slice (some ⟨nw,0,none⟩) 1 1:=hb.val 12 63 rfl (hall ⟨12,.data⟩ (by simp) rfl)
    have e12':b.tmps[63]?.getD undef = .slice (some ⟨nw,0,none⟩) 1 1:=(by simpa using e12)
    have p12:listed.getD 12 false=true:=hall ⟨12,.data⟩ (by simp) rfl
    have h1:Wf listed=wb:=(by rw [hWf,hun',p12];rfl)
    have h2:Wf (listed.setIfInBounds 13 true)=wc:=(by rw [hWf,getD_set_self hb.size (by simp)];rfl)
    refine .inl ?_
    rw [h1,h2]
    have f0:b.eval (.tmp 51) = .slice Ad n cd:=e0
    have f12:b.eval (.tmp 63) = .slice (some ⟨nw,0,none⟩) 1 1:=e12
    simp only [execOp,resolve,invoke,builtin,Sem.run_bind,Sem.run_pure,Result.andThen_ok,List.map_toArray,List.map_cons,List.map_nil,f0,f12,hrun]
    rfl
   ·
    have e13:b.tmps.getD 64 undef = .slice A' (n+1) c':=hb.val 13 64 rfl (hall ⟨13,.data⟩ (by simp) rfl)
    have e13':b.tmps[64]?.getD undef = .slice A' (n+1) c':=(by simpa using e13)
    obtain ⟨W,hW,⟨n0,n1,z1,z0⟩⟩:=hpr
    refine .inl ?_
    rw [hsame (by decide) (by decide),hW]
    clear hsame hWf hW hwb hpa hpb hpc' hrun
    go_simp
    try rfl
 · intro b hb
   have hact:=hb.act (m:=67) (by kernel_rfl) hT.symm
   have hW:Wf (Array.replicate 15 true)=wc:=(by rw [hWf];rfl)
   refine (?_:Q .normal b (Wf (Array.replicate 15 true)))
   rw [hW,hact]
   exact hQ'
end Go.Proofs.YtejjplhknacoiaaGreatDoor
end
section
namespace Go.Proofs.YtejjplhknacoiaaGreatDoor
def Bnd (lo hi:Int) (r:Row):Prop:=∀ v∈r,lo≤v∧v≤hi
theorem Bnd.at {lo hi:Int} {r:Row} (h:Bnd lo hi r) (h0:lo≤0) (h1:0≤hi) (i:Int):lo≤rAt r i∧rAt r i≤hi:=by
 unfold rAt
 rw [List.getD_eq_getElem?_getD]
 cases hx:r[i.toNat]? with
 | none=>exact ⟨h0,h1⟩
 | some v=>exact h v (List.mem_of_getElem? hx)
theorem Bnd.mono {lo lo' hi:Int} {r:Row} (h:Bnd lo hi r) (hl:lo'≤lo):Bnd lo' hi r:=fun v hv=>⟨Int.le_trans hl (h v hv).1,(h v hv).2⟩
theorem bnd_step {lo hi:Int} {st:Row×Row} {b:Bound} {i:Nat} (h:Bnd lo hi st.1) (h0:lo≤0) (h1:0≤hi) (hm: -1000000≤b.most):Bnd (lo-1000000) hi (relaxStep st b i).1:=by
 unfold relaxStep
 split
 · rename_i hr
   unfold relaxes at hr
   simp only [Bool.and_eq_true,decide_eq_true_eq] at hr
   have hs:=h.at h0 h1 b.src
   have hd:=h.at h0 h1 b.dst
   intro v hv
   simp only [rPut] at hv
   rcases List.mem_or_eq_of_mem_set hv with hv|rfl
   · have:=h v hv;omega
   · omega
 · exact h.mono (by omega)
theorem bnd_passTo {bs:List Bound} (hm:∀ b∈bs,-1000000≤b.most) {lo hi:Int} {st:Row×Row} (h:Bnd lo hi st.1) (h0:lo≤0) (h1:0≤hi):∀ k:Nat,Bnd (lo-k * 1000000) hi (passTo bs st k).1
 | 0=>h.mono (by omega)
 | k+1=>by
   have ih:=bnd_passTo hm h h0 h1 k
   unfold passTo
   split
   · rename_i b hb
     exact (bnd_step ih (by omega) h1 (hm b (List.mem_of_getElem? hb))).mono (by omega)
   · exact ih.mono (by omega)
theorem bnd_loop {bs:List Bound} (hm:∀ b∈bs,-1000000≤b.most) (hb:bs.length≤400) {hi:Int} (h1:0≤hi):∀ (n:Nat) (lo:Int) (st:Row×Row),Bnd lo hi st.1→lo≤0→Bnd (lo-n * 400000000) hi (settledLoop bs n st).1
 | 0,lo,st,h,_=>h.mono (by omega)
 | n+1,lo,st,h,h0=>by
   have hp:Bnd (lo-400000000) hi (pass bs st).1:=(bnd_passTo hm h h0 h1 bs.length).mono (by omega)
   unfold settledLoop
   split
   · exact hp.mono (by omega)
   · exact (bnd_loop hm hb h1 n _ _ hp (by omega)).mono (by omega)
theorem solvedX_bnd {pts:Int} {bs:List Bound} (hk:checkSys pts bs=0):∀ v∈solvedX pts bs,-30000000000≤v∧v≤0:=by
 unfold checkSys at hk
 split at hk
 · cases hk
 · rename_i h1
   split at hk
   · cases hk
   · rename_i h2
     have hm:∀ b∈bs,-1000000≤b.most:=fun b hb=>by
      have hw:wrongB pts b=false:=by
       cases hw:wrongB pts b with
       | false=>rfl
       | true=>exact absurd (.inr (List.any_eq_true.2 ⟨b,hb,hw⟩)) h2
      simp only [wrongB,withinB,Bool.or_eq_false_iff,Bool.not_eq_false',Bool.and_eq_true,decide_eq_true_eq] at hw
      omega
     have hz:Bnd 0 0 zeroRow:=fun v hv=>by
      have:=List.eq_of_mem_replicate hv
      omega
     have hb:=bnd_loop hm (by omega) (Int.le_refl 0) (pts+1).toNat 0 (zeroRow,lasts) hz (Int.le_refl 0)
     intro v hv
     unfold solvedX at hv
     split at hv
     · have:=hb v (List.mem_of_mem_take hv)
       omega
     · cases hv
theorem solvedX_len {pts:Int} {bs:List Bound} (hk:checkSys pts bs=0) (ho:solvedOk pts bs=true):(solvedX pts bs).length=pts.toNat:=by
 unfold checkSys at hk
 split at hk
 · cases hk
 · have:=(settled_len pts bs zeroRow).1
   unfold solvedX
   rw [if_pos ho,List.length_take]
   have h60:zeroRow.length=60:=by simp [zeroRow]
   rw [h60] at this
   unfold solvedR
   omega
open Go.RowKit Go.Proofs Go.Shelf
theorem emptyRow_at (i:Int) (h1:0≤i) (h2:i<60):rAt emptyRow i=noneV:=by
 unfold rAt emptyRow
 have:i.toNat<60:=by omega
 rw [List.getD_eq_getElem?_getD,List.getElem?_replicate,if_pos this];rfl
theorem results_row_row {P:Program} {fn:Func} {p p2:Tmp} {ty ty2:TypeId} (h:fn.results = #[.cell p ty,.cell p2 ty2]) (tmps:Array Value) (w:World) {e:TypeId} {n:Nat} (T:RowT P ty e n) (T2:RowT P ty2 e n) {g g2:Nat} {cs cs2:Array Value}
 (hp:tmps.getD p undef = .pointer (some ⟨g,0,none⟩)) (hp2:tmps.getD p2 undef = .pointer (some ⟨g2,0,none⟩)) (hg:rowAt? w g n=some cs) (hg2:rowAt? w g2 n=some cs2):(results fn tmps).run P w = .ok (.tuple #[.agg cs,.agg cs2]) w:=by
 obtain ⟨t,hh,hs⟩:=rowAt?_heap hg
 obtain ⟨t2,hh2,hs2⟩:=rowAt?_heap hg2
 have hp':tmps[p]?.getD undef = .pointer (some ⟨g,0,none⟩):=by simpa using hp
 have hp2':tmps[p2]?.getD undef = .pointer (some ⟨g2,0,none⟩):=by simpa using hp2
 simp [results,h,hp',hp2',asAddr,run_loadVar_row w g t ty cs (0,0) _ hh T.arr rfl (by rw [hs];exact T.size),run_loadVar_row w g2 t2 ty2 cs2 (0,0) _ hh2 T2.arr rfl (by rw [hs2];exact T2.size)]
theorem run_load_tab {P:Program} {t e:TypeId} {n:Nat} (T:RowT P t e n) {o:Oper} {b:Act} {w:World} {x:Tmp} (ho:o.op = .load t (.tmp x)) {g:Nat} (hx:b.tmps.getD x undef = .pointer (some ⟨g,0,none⟩)) {cs:Array Value} (hr:rowAt? w g n=some cs):
 (execOp b.eval o).run P w = .ok (.value (.agg cs)) w:=by
 have hx':b.eval (.tmp x) = .pointer (some ⟨g,0,none⟩):=hx
 simp only [execOp,ho,hx',Sem.run_bind,run_loadAt_row T,hr,Result.andThen_ok,Sem.run_pure]
theorem run_store_tab {P:Program} {t e:TypeId} {n:Nat} (T:RowT P t e n) {o:Oper} {b:Act} {w:World} {x y:Tmp} (ho:o.op = .store t (.tmp x) (.tmp y)) {g:Nat} (hx:b.tmps.getD x undef = .pointer (some ⟨g,0,none⟩)) {r:List Int} (hy:b.tmps.getD y undef = .agg (rowA r)) (hr:(rowAt? w g n).isSome=true) (hl:r.length=n):
 (execOp b.eval o).run P w = .ok .skip (w.setRow g (rowA r)):=by
 have hx':b.eval (.tmp x) = .pointer (some ⟨g,0,none⟩):=hx
 have hy':b.eval (.tmp y) = .agg (rowA r):=hy
 simp only [execOp,ho,hx',hy',Sem.run_bind,run_storeAt_row T,hr,hl,and_self,if_true,Result.andThen_ok,Sem.run_pure]
theorem from_any (pts:Int) (A:Option Addr) (n c:Nat) (bs:List Bound) (a:Int) (w:World) (hl:Rd encBound 4 w A n c bs) (hok:SysOk pts bs) (h1:0≤a) (h2:a<pts):
 Calls Tryz.prog 99 #[.agg #[.int .i64 pts,.slice A n c],.int .i64 a] w fun e w'=>e = .returned (.tuple #[.agg (rowA (fromR pts bs a).1),.agg (rowA (fromR pts bs a).2.1)])∧Below w.heap.size w w':=by
 have hp2:=hok.p2
 have hp1:=hok.p1
 have hset:=fun W br hl hr hA=>settled_any pts A n c bs br (rPut emptyRow a 0) W hl hr hA hok.okB (by have:=hok.len;have:=hl.len;omega) (by omega) hp2 (fun i i1 i2=>by
  rw [rAt_put emptyRow_len h1 (by omega) i1,emptyRow_at i i1 i2];unfold noneV;split<;>omega)
 have hSR:settled pts bs (rPut emptyRow a 0)=fromR pts bs a:=rfl
 have hlen:=settled_len pts bs (rPut emptyRow a 0)
 rw [hSR] at hlen
 have hset':=fun W br hl hr hA=>hSR ▸ hset W br hl hr hA
 clear hset hSR
 generalize fromR pts bs a=R at hset' hlen ⊢
 obtain ⟨rr,ll,ok⟩:=R
 simp only [rPut_len,emptyRow_len] at hlen hset' ⊢
 obtain ⟨hlr,hll⟩:=hlen
 have HLL:=Lib.hid hll
 have HLR:=Lib.hid hlr
 have HS:=Lib.hid hset'
 have HL:=Lib.hid hl
 have hrA:∀ b o,A=some ⟨b,o,none⟩→0<n→b<w.heap.size:=fun b o hb hn0=>by
  obtain ⟨b',off,e',hlt,_⟩:=hl.at_ hn0
  rw [hb] at e'
  cases e'
  omega
 clear hset' hll hlr hl
 go_enter Tryz.func99,Tryz.ntmps99
 go_wp2_with (first
  | (refine wpL_alloc (t:=128) rfl rfl zero207 ?_)
  | (refine wpL_alloc (t:=127) rfl rfl zero206 ?_)
  | (go_at_call 63;refine (empty_any _).mono ?_;rintro e w2 ⟨rfl,hb⟩
     have hz2:=hb.size
     simp only [World.size_alloc] at hz2
     have d0:w2.cell? ⟨w.heap.size,0,none⟩=some (.int .i64 pts):=(hb.cell (p:=⟨w.heap.size,0,none⟩) (by simp;omega)).trans (cell3a _ _ _ _ _ _)
     have d1:w2.cell? ⟨w.heap.size,1,none⟩=some (.slice A n c):=(hb.cell (p:=⟨w.heap.size,1,none⟩) (by simp;omega)).trans (cell3a _ _ _ _ _ _)
     have r4:rowAt? w2 (w.heap.size+1) 60=some (rowA zeroRow):=rowAt?_below (by rw [rowAt?_alloc_past _ (by simp),rowAt?_alloc_at _ _ (by simp),if_pos (by rw [rowA_size,zeroRow_len])]) hb (by simp)
     have r5:rowAt? w2 (w.heap.size+1+1) 60=some (rowA zeroRow):=rowAt?_below (by rw [rowAt?_alloc_at _ _ (by simp),if_pos (by rw [rowA_size,zeroRow_len])]) hb (by simp)
     have hl2:Rd encBound 4 w2 A n c bs:=(((HL.out.alloc _).alloc _).alloc _).below hb (Nat.le_refl _)
     have hb2:Below w.heap.size w w2:=((((Below.refl _ w).alloc (Nat.le_refl _) _).alloc (by simp) _).alloc (by simp;omega) _).trans (hb.mono (by simp;omega))
     clear hb)
  | (refine wpL_storeNew row207 rfl rfl rfl rfl (by simp [zeroRow]) rfl emptyRow_len ?_
     obtain ⟨W3,hW3⟩:∃ W3,w2.alloc (.cells (rowA emptyRow) 128)=W3:=⟨_,rfl⟩
     rw [hW3]
     have d0:W3.cell? ⟨w.heap.size,0,none⟩=some (.int .i64 pts):=(by rw [←hW3,World.cell?_alloc_past _ _ _ (by omega)];exact d0)
     have d1:W3.cell? ⟨w.heap.size,1,none⟩=some (.slice A n c):=(by rw [←hW3,World.cell?_alloc_past _ _ _ (by omega)];exact d1)
     have r4:rowAt? W3 (w.heap.size+1) 60=some (rowA zeroRow):=(by rw [←hW3,rowAt?_alloc_past _ (by omega)];exact r4)
     have r5:rowAt? W3 (w.heap.size+1+1) 60=some (rowA zeroRow):=(by rw [←hW3,rowAt?_alloc_past _ (by omega)];exact r5)
     have r6:rowAt? W3 w2.heap.size 60=some (rowA emptyRow):=(by rw [←hW3,rowAt?_alloc_at _ _ rfl,if_pos (by rw [rowA_size,emptyRow_len])])
     have hl3:Rd encBound 4 W3 A n c bs:=(by rw [←hW3];exact hl2.alloc _)
     have hb3:Below w.heap.size w W3:=(by rw [←hW3];exact hb2.alloc (by omega) _)
     have hz3:W3.heap.size=w2.heap.size+1:=(by rw [←hW3];simp)
     have hca:=rowAt?_int r6 (i:=a.toNat) (by rw [emptyRow_len];omega)
     have hfa:=rowAt?_free r6 a.toNat
     have hne:¬w.heap.size=w2.heap.size:=(by omega)
     have HR4:=Lib.hid r4
     have HR5:=Lib.hid r5
     have HR6:=Lib.hid r6
     clear r4 r5 r6 hl2 hb2 hW3))
 refine (HS.out _ w2.heap.size (HL.out.below (hb3.setCell (p:=⟨w2.heap.size,a.toNat,none⟩) (show w.heap.size≤w2.heap.size by omega) _) (Nat.le_refl _)) (by rw [rowAt?_setCell_same,HR6.out,Option.map_some,rowA_set];rfl) (fun b o hb hn0 e=>by have:=hrA b o hb hn0;omega)).mono ?_
 rintro e w5 ⟨rfl,hrow5,hg5⟩
 have hz5:=hg5.size
 simp only [World.size_setCell] at hz5
 have hb5:Below w.heap.size w w5:=(hb3.setCell (p:=⟨w2.heap.size,a.toNat,none⟩) (show w.heap.size≤w2.heap.size by omega) _).grown hg5 (by simp;omega) (fun k e=>by cases e;omega)
 have G4:Hid (rowAt? w5 (w.heap.size+1) 60=some (rowA zeroRow)):=by
  have h:=HR4.out
  have e:w5.heap[w.heap.size+1]? = W3.heap[w.heap.size+1]? := (hg5.block _ (by simp;omega) (fun e=>by have:=Option.some.inj e;omega)).trans (Below.heap_setCell _ _ _ _ (show w.heap.size+1≠w2.heap.size by omega))
  exact Lib.hid (by unfold rowAt? at h ⊢;rwa [e])
 have G5:Hid (rowAt? w5 (w.heap.size+1+1) 60=some (rowA zeroRow)):=by
  have h:=HR5.out
  have e:w5.heap[w.heap.size+1+1]? = W3.heap[w.heap.size+1+1]? := (hg5.block _ (by simp;omega) (fun e=>by have:=Option.some.inj e;omega)).trans (Below.heap_setCell _ _ _ _ (show w.heap.size+1+1≠w2.heap.size by omega))
  exact Lib.hid (by unfold rowAt? at h ⊢;rwa [e])
 have G6:=Lib.hid hrow5
 clear hrow5
 go_wp2_with (first
  | (refine wpL_alloc (t:=127) rfl rfl zero206 ?_)
  | (refine wpL_storeNew row206 rfl rfl rfl rfl (by simp [zeroRow]) rfl HLL.out ?_))
 obtain ⟨W6,hW6⟩:∃ W6,w5.alloc (.cells (rowA ll) 127)=W6:=⟨_,rfl⟩
 rw [hW6]
 have r4:rowAt? W6 (w.heap.size+1) 60=some (rowA zeroRow):=by rw [←hW6,rowAt?_alloc_past _ (by omega)];exact G4.out
 have r5:rowAt? W6 (w.heap.size+1+1) 60=some (rowA zeroRow):=by rw [←hW6,rowAt?_alloc_past _ (by omega)];exact G5.out
 have r6:rowAt? W6 w2.heap.size 60=some (rowA rr):=by rw [←hW6,rowAt?_alloc_past _ (by omega)];exact G6.out
 have r7:rowAt? W6 w5.heap.size 60=some (rowA ll):=by rw [←hW6,rowAt?_alloc_at _ _ rfl,if_pos (by rw [rowA_size,HLL.out])]
 have hb6:Below w.heap.size w W6:=by rw [←hW6];exact hb5.alloc (by omega) _
 clear hW6
 obtain ⟨V0,hV0⟩:∃ V0,W6.drew=V0:=⟨_,rfl⟩
 obtain ⟨V1,hV1⟩:∃ V1,V0.setRow (w.heap.size+1) (rowA rr)=V1:=⟨_,rfl⟩
 obtain ⟨V2,hV2⟩:∃ V2,V1.setRow (w.heap.size+1+1) (rowA ll)=V2:=⟨_,rfl⟩
 have s4:rowAt? V0 (w.heap.size+1) 60=some (rowA zeroRow):=by rw [←hV0];exact r4
 have s5:rowAt? V1 (w.heap.size+1+1) 60=some (rowA zeroRow):=by rw [←hV1,rowAt?_setRow_other _ (by omega),←hV0];exact r5
 have s6:rowAt? V0 w2.heap.size 60=some (rowA rr):=by rw [←hV0];exact r6
 have s7:rowAt? V0 w5.heap.size 60=some (rowA ll):=by rw [←hV0];exact r7
 have s7':rowAt? V1 w5.heap.size 60=some (rowA ll):=by rw [←hV1,rowAt?_setRow_other _ (by omega)];exact s7
 have t4:rowAt? V2 (w.heap.size+1) 60=some (rowA rr):=by rw [←hV2,rowAt?_setRow_other _ (by omega),←hV1,rowAt?_setRow_same _ (by rw [s4];rfl) (by rw [rowA_size,HLR.out])]
 have t5:rowAt? V2 (w.heap.size+1+1) 60=some (rowA ll):=by rw [←hV2,rowAt?_setRow_same _ (by rw [s5];rfl) (by rw [rowA_size,HLL.out])]
 have hbV:Below w.heap.size w V2:=by rw [←hV2,←hV1,←hV0];exact below_setRow (below_setRow hb6.drew (by omega) _) (by omega) _
 clear r4 r5 r6 r7 HS HL
 obtain ⟨Wf,hWf⟩:∃ Wf:Array Bool→World,∀ L,Wf L=if L.getD 3 false=true then V2 else if L.getD 2 false=true then V1 else V0:=⟨fun L=>if L.getD 3 false=true then V2 else if L.getD 2 false=true then V1 else V0,fun _=>rfl⟩
 refine wpIn_wide.1 (wpIn_region_tab (F:=Fence.wide) (nn:=5) (by kernel_rfl) (fun _=>trivial) (fun i=>match i with|0=> .agg (rowA rr)|1=> .agg (rowA ll)|_=>undef) Wf (by kernel_rfl) ?_ ?_ ?_)
 · rw [hWf,hV0];rfl
 · intro listed i o b hi ho hb
   obtain ⟨hun,oi,hoi,hall⟩:=mem_ready.1 hi
   have:oi=o:=Option.some.inj (hoi.symm.trans ho)
   subst this
   have hlt:i<4:=by have:=(Array.getElem?_eq_some_iff.1 ho).1;simpa using this
   have o4:=hb.old 4 (dst_no hb (by kernel_rfl))
   have o5:=hb.old 5 (dst_no hb (by kernel_rfl))
   have o6:=hb.old 6 (dst_no hb (by kernel_rfl))
   have o7:=hb.old 7 (dst_no hb (by kernel_rfl))
   rcases (by omega:i=0∨i=1∨i=2∨i=3) with rfl|rfl|rfl|rfl
   all_goals simp only [List.getElem?_toArray,List.getElem?_cons_zero,List.getElem?_cons_succ] at ho
   all_goals cases ho
   · have n2:listed.getD 2 false=false:=not_listed (hb.closed 2 _ rfl) ⟨0,.data⟩ (by simp) rfl (getD_both hun)
     have n3:listed.getD 3 false=false:=not_listed (hb.closed 3 _ rfl) ⟨0,.phase⟩ (by simp) rfl (getD_both hun)
     left
     simp only [hWf,n2,n3,Bool.false_eq_true,if_false,getD_set_ne false (show (0:Nat)≠2 by decide),getD_set_ne false (show (0:Nat)≠3 by decide)]
     exact run_load_tab row207 rfl o6 s6
   · have n3:listed.getD 3 false=false:=not_listed (hb.closed 3 _ rfl) ⟨1,.data⟩ (by simp) rfl (getD_both hun)
     left
     simp only [hWf,n3,Bool.false_eq_true,if_false,getD_set_ne false (show (1:Nat)≠2 by decide),getD_set_ne false (show (1:Nat)≠3 by decide)]
     cases listed.getD 2 false
     · exact run_load_tab row206 rfl o7 s7
     · exact run_load_tab row206 rfl o7 s7'
   · have n2:=getD_both hun
     have n3:listed.getD 3 false=false:=not_listed (hb.closed 3 _ rfl) ⟨2,.chain⟩ (by simp) rfl (getD_both hun)
     have v0:=hb.val 0 17 rfl (hall ⟨0,.data⟩ (by simp) rfl)
     right
     simp only [hWf,n2,n3,Bool.false_eq_true,if_false,if_true,getD_set_ne false (show (2:Nat)≠3 by decide),getD_set_self hb.size (show 2<4 by decide)]
     exact ⟨(run_store_tab row207 rfl o4 v0 (by rw [s4];rfl) HLR.out).trans (by rw [hV1]),trivial⟩
   · have n3:=getD_both hun
     have y2:listed.getD 2 false=true:=hall ⟨2,.chain⟩ (by simp) rfl
     have v1:=hb.val 1 18 rfl (hall ⟨1,.data⟩ (by simp) rfl)
     right
     simp only [hWf,n3,y2,Bool.false_eq_true,if_false,if_true,getD_set_self hb.size (show 3<4 by decide)]
     exact ⟨(run_store_tab row206 rfl o5 v1 (by rw [s5];rfl) HLL.out).trans (by rw [hV2]),trivial⟩
 · intro b hb
   have o4:=hb.old 4 (dst_no hb (by kernel_rfl))
   have o5:=hb.old 5 (dst_no hb (by kernel_rfl))
   have hdf:=hb.defers
   have e2:Wf (Array.replicate 4 true)=V2:=by rw [hWf];rfl
   simp only [List.size_toArray,List.length_cons,List.length_nil,Nat.reduceAdd]
   rw [e2]
   obtain ⟨bt,bd⟩:=b
   simp only at o4 o5 hdf
   subst hdf
   go_wp2
   exact bodyPost_ret (results_row_row rfl _ _ row207 row206 o4 o5 t4 t5) rfl ⟨rfl,hbV⟩
theorem greatest_any (pts:Int) (A:Option Addr) (n c:Nat) (bs:List Bound) (a b:Int) (w:World) (hl:Rd encBound 4 w A n c bs) (hok:SysOk pts bs) (h1:0≤a) (h2:a<pts) (h3:0≤b) (h4:b<pts):
 Calls Tryz.prog 59 #[.agg #[.int .i64 pts,.slice A n c],.int .i64 a,.int .i64 b] w fun e w'=>e = .returned (.int .i64 (greatestR pts bs a b))∧Below w.heap.size w w':=by
 have hp2:=hok.p2
 have hfr:=from_any pts A n c bs a _ (hl.alloc (.cells #[.int .i64 pts,.slice A n c] 84)) hok h1 h2
 have hlen:=settled_len pts bs (rPut emptyRow a 0)
 have hSR:settled pts bs (rPut emptyRow a 0)=fromR pts bs a:=rfl
 have hG:greatestR pts bs a b=rAt (fromR pts bs a).1 b:=rfl
 rw [hSR] at hlen
 rw [hG]
 clear hSR hG
 generalize fromR pts bs a=R at hfr hlen ⊢
 obtain ⟨rr,ll,ok⟩:=R
 simp only [rPut_len,emptyRow_len] at hlen hfr ⊢
 obtain ⟨hlr,hll⟩:=hlen
 have HLL:=Lib.hid hll
 have HLR:=Lib.hid hlr
 have HF:=Lib.hid hfr
 clear hfr hll hlr hl
 go_enter Tryz.func59,Tryz.ntmps59
 go_wp2_with (first
  | (refine wpL_alloc (t:=128) rfl rfl zero207 ?_)
  | (refine wpL_alloc (t:=127) rfl rfl zero206 ?_)
  | (go_at_call 99;refine HF.out.mono ?_;rintro e w2 ⟨rfl,hb⟩)
  | (refine wpL_store row207 rfl rfl rfl rfl (by rw [rowAt?_alloc_past _ (by simp),rowAt?_alloc_at _ _ rfl];simp [zeroRow]) HLR.out ?_)
  | (refine wpL_store row206 rfl rfl rfl rfl ?_ HLL.out ?_
     · rw [World.size_alloc,rowAt?_setRow_other _ (by omega),rowAt?_alloc_at _ _ (by simp)];simp [zeroRow]
     obtain ⟨W3,hW3⟩:∃ W3,((((w2.alloc (.cells (rowA zeroRow) 128)).alloc (.cells (rowA zeroRow) 127)).setRow w2.heap.size (rowA rr)).setRow (w2.alloc (.cells (rowA zeroRow) 128)).heap.size (rowA ll))=W3:=⟨_,rfl⟩
     rw [hW3]
     rw [World.size_alloc] at hW3
     have hr3:rowAt? W3 w2.heap.size 60=some (rowA rr):=(by rw [←hW3,rowAt?_setRow_other _ (by omega),rowAt?_setRow_same _ (by rw [rowAt?_alloc_past _ (by simp),rowAt?_alloc_at _ _ rfl];simp [zeroRow]) (by rw [rowA_size,HLR.out])])
     have hcb:=rowAt?_int hr3 (i:=b.toNat) (by rw [HLR.out];omega)
     have hz2:=hb.size
     simp only [World.size_alloc] at hz2
     have hb3:Below w.heap.size w W3:=(by rw [←hW3];exact below_setRow (below_setRow (((((Below.refl _ w).alloc (Nat.le_refl _) _).trans (hb.mono (by simp))).alloc (by omega) _).alloc (by simp;omega) _) (by omega) _) (by omega) _)
     clear hW3 hr3))
 go_ret
 exact ⟨rfl,hb3⟩
theorem need_any (w:World):Calls Tryz.prog 139 #[.bool true] w fun e w'=>e = .returned (.tuple #[])∧w=w':=by
 go_enter Tryz.func139,Tryz.ntmps139
 go_wp2
 go_end0
 exact ⟨rfl,rfl⟩
theorem points_any (pts:Int) (A:Option Addr) (n c:Nat) (P:Option Addr) (m pc:Nat) (l:List Int) (w:World) (hl:Rd encInt 1 w P m pc l) (hp:∀ x∈l,withinB x 0 (pts-1)=true) (hp1:1≤pts) (hp2:pts≤60):
 Calls Tryz.prog 97 #[.agg #[.int .i64 pts,.slice A n c],.slice P m pc] w fun e w'=>e = .returned (.tuple #[])∧Below w.heap.size w w':=by
 have hbig:=hl.big
 go_enter Tryz.func97,Tryz.ntmps97
 go_wp2
 go_loopw [8] (fun i wr=> ∃ k:Nat,k≤m∧i = .int .i64 k∧Hid (w.alloc (.cells #[.int .i64 pts,.slice A n c] 84)=wr)) (fun i _=>m-(intOf i).toNat)
 case atStart=>exact ⟨0,Nat.zero_le _,rfl,rfl⟩
 case round=>
  obtain ⟨k,hk,rfl,hw⟩:=hrel
  obtain rfl:=hw.out
  by_cases hlt:k<m
  · obtain ⟨b,off,x,rfl,hbw,hx,hcell⟩:=(hl.alloc (.cells #[.int .i64 pts,.slice A n c] 84)).one hlt
    have c0:=hcell 0 _ rfl
    simp only [Nat.mul_one,Nat.add_zero] at c0
    have hwx:=hp x (List.mem_of_getElem? hx)
    have HX:=Lib.hid hwx
    clear hcell hx hwx hl hp
    go_wp2_with (first
     | (go_at_call 103;refine (within_any _ _ _ _).mono ?_;rintro e w' ⟨rfl,rfl⟩;rw [HX.out])
     | (go_at_call 139;refine (need_any _).mono ?_;rintro e w' ⟨rfl,rfl⟩))
    go_roundw
    case rel=>exact ⟨k+1,by omega,by go_num,(by first|exact rfl|exact trivial)⟩
    case measure=>simp [intOf];omega
  · have hkn:k=m:=by omega
    subst hkn
    go_wp2
    go_end0
    exact ⟨rfl,(Below.refl _ w).alloc (Nat.le_refl _) _⟩
theorem tried1_idle (p:Addr) (w:World):
 CallsD Tryz.prog 138 #[.pointer (some p)] .returning w fun e u' w'=>e = .returned (.tuple #[])∧u' = .returning∧w'=w:=by
 refine callsD_of_wpS Tryz.func138 rfl fun c₀ cs hu=> ?_
 apply wpS_seq
 apply wpS_region
 simp [wpOpsS,go_sem,recoverD,hu,Tryz.ntmps138,Exit.thenS]
 apply wpS_seq
 apply wpS_region
 simp [wpOpsS,go_sem,Exit.thenS]
 refine wpS_cond (t:=false) (by simp [Act.eval]) ?_
 simp only [Bool.false_eq_true,if_false]
 refine wpS_of_wp (wp_skip ?_)
 cases c₀
 simp_all [bodyPostS,results,Tryz.results138]
end Go.Proofs.YtejjplhknacoiaaGreatDoor
end

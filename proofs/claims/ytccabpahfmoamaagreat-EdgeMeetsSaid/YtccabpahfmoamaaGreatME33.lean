/- Contracts that the laws lean on: Prt, PlcR, PlcV, PlcW. -/
import Derived.Test.YtccabpahfmoamaaGreatME26
set_option maxRecDepth 100000
set_option maxHeartbeats 8000000
section
namespace Go.Proofs.YtccabpahfmoamaaGreat
open Go.RowKit Go.Proofs Go.Shelf
theorem zeroInt:(Tryz.prog.info? 3).bind (·.zero)=some (.int .i64 0):=by kernel_rfl
theorem flat_zeros (m:Nat):(List.replicate m (0:Int)).flatMap encInt=List.replicate m (.int .i64 0):=by
 induction m with
 | zero=>rfl
 | succ m ih=>rw [List.replicate_succ,List.flatMap_cons,ih];rfl
theorem run_zeros (B m:Nat) (w:World) (hm:m≤1000000) (hB:B≤w.heap.size):∃ w',(Instr.makeSlice 29 (.int .i64 m) (.int .i64 m)).run Tryz.prog w = .ok (.slice (some ⟨w.heap.size,0,none⟩) m m) w'∧Own encInt 1 3 B w' (some ⟨w.heap.size,0,none⟩) m m (List.replicate m 0)∧w.grownBy w' none:=by
 obtain ⟨i,z,hi,hz0,hz1,hz2,hz3⟩:=elInt.info
 have hzz:z = .int .i64 0:=by
  have h1:=zeroInt
  rw [hi] at h1
  simpa [hz0] using h1
 obtain ⟨w',h1,h2,h3⟩:=run_makeSlice_full (P:=Tryz.prog) (w:=w) B 29 3 i z 1 elInt.slice hi hz0 hz1 .i64 .i64 m (by omega) (by rw [hz2];omega) (by unfold maxLen;omega) hB
 refine ⟨w',h1,⟨by simp,?_⟩,h3⟩
 rw [flat_zeros,←toList_madeCells_one]
 have hc:z.cells = #[.int .i64 0]:=by rw [hzz];rfl
 rw [hc,Nat.mul_one] at h2
 exact h2
def partL (xs:List Int) (first low high at_ sg:Int) (m:Nat):List Int:=(List.range m).map fun (i:Nat)=>sg * gI xs (whereF first low high at_ i)
theorem partL_succ (xs:List Int) (first low high at_ sg:Int) (m:Nat):partL xs first low high at_ sg (m+1)=partL xs first low high at_ sg m ++ [sg * gI xs (whereF first low high at_ m)]:=by
 unfold partL;rw [List.range_succ,List.map_append];rfl
theorem partL_len (xs:List Int) (first low high at_ sg:Int) (m:Nat):(partL xs first low high at_ sg m).length=m:=by simp [partL]
theorem partL_set (xs:List Int) (first low high at_ sg:Int) {m k:Nat} (hk:k<m):(partL xs first low high at_ sg k++List.replicate (m-k) 0).set k (sg * gI xs (whereF first low high at_ k))=partL xs first low high at_ sg (k+1)++List.replicate (m-(k+1)) 0:=by
 rw [partL_succ,List.set_append_right _ _ (by rw [partL_len];exact Nat.le_refl _),partL_len,Nat.sub_self,show m-k=(m-(k+1))+1 from by omega,List.replicate_succ,List.set_cons_zero,List.append_assoc]
 rfl
theorem parted_any (X:Option Addr) (n c:Nat) (xs:List Int) (first second low high at_ sg:Int) (w:World) (hX:Rd encInt 1 w X n c xs) (h0:0≤low) (h1:low≤high) (h2:high<second) (h3:0≤at_) (h4:at_+high-low<first) (h5:second≤100) (h6:first≤100)
 (hn:(n:Int)=jointN first second low high) (hv:∀ x∈xs,-100000000≤x∧x≤100000000) (hsg:sg=1∨sg = -1):
 Calls Tryz.prog 110 #[.slice X n c,.int .i64 first,.int .i64 second,.int .i64 low,.int .i64 high,.int .i64 at_,.int .i64 sg] w fun e w'=> ∃ A' c',e = .returned (.slice A' second.toNat c')∧Below w.heap.size w w'∧Own encInt 1 3 w.heap.size w' A' second.toNat c' (partL xs first low high at_ sg second.toNat):=by
 obtain ⟨m,rfl⟩:∃ m:Nat,second=m:=⟨second.toNat,by omega⟩
 rw [Int.toNat_natCast]
 have hnp:0<n:=by unfold jointN at hn;omega
 obtain ⟨b,off,rfl,hbw,hc⟩:=hX.gI hnp
 have HC:=Lib.hid hc
 have HV:=Lib.hid (gI_bnd hv)
 have HN:=Lib.hid hn
 obtain ⟨wz,hz,hO,hg⟩:=run_zeros w.heap.size m w (by omega) (Nat.le_refl _)
 have HO:=Lib.hid hO
 have HB:Hid (Below w.heap.size w wz):=(show Below _ _ _ from ⟨hg.os,hg.tape,hg.output,hg.size,fun k hk=>hg.block k hk (by simp)⟩)
 clear hX hc hv hO hg hn
 go_enter Tryz.func110,Tryz.ntmps110
 go_wp2
 go_loopw [16,22] (fun s16 s22 wr=> ∃ k:Nat,k≤m∧s16 = .int .i64 (ptsAt first low high k)∧s22 = .int .i64 k∧Hid (Own encInt 1 3 w.heap.size wr (some ⟨w.heap.size,0,none⟩) m m (partL xs first low high at_ sg k++List.replicate (m-k) 0))∧Hid (Below w.heap.size w wr)) (fun _ s22 _=>m-(intOf s22).toNat)
 case atStart=>exact ⟨0,by omega,by unfold ptsAt;simp [h0],rfl,(show Own _ _ _ _ _ _ _ _ _ from by simpa [partL] using HO.out),HB⟩
 case round=>
  obtain ⟨k,hk,rfl,rfl,hOk,hbr⟩:=hrel
  by_cases hlt:k<m
  · obtain ⟨b',off',x0,e0,hb0,hx0,hc0⟩:=(hOk.out.rd (fun _=>rfl) (by omega)).one hlt
    cases e0
    have s1:wr.cell? ⟨w.heap.size,k,none⟩=some (.int .i64 x0):=(by have:=hc0 0 _ rfl;simpa using this)
    have s2:wr.frozen? ⟨w.heap.size,k,none⟩=false:=(by
     rcases hOk.out.block with h|⟨g,cur,h,hg,_⟩
     · cases h
     · cases h;simp [World.frozen?,hg])
    have HSET:=Lib.hid (fun v=>hOk.out.set (fun _=>rfl) (i:=k) hlt v)
    have HPS:=Lib.hid (partL_set xs first low high at_ sg hlt)
    have hzr:=hbr.out.size
    clear hc0 hx0
    by_cases hin:low≤(k:Int)∧(k:Int)≤high
    · have HI:Hid (inB (k:Int) low high=true):=(show _=_ by simp [inB];omega)
      have q1:=(hbr.out.cell (p:=⟨b,off+(at_+high-(k:Int)).toNat,none⟩) hbw).trans (HC.out (at_+high-(k:Int)) (by omega) (by have:=HN.out;unfold jointN at this;omega))
      have q2:=q1
      rw [show (at_+high-(k:Int)).toNat=(at_+high).toNat-k from by omega] at q2
      have j1:0≤at_+high-(k:Int):=(by omega)
      have j2:at_+high-(k:Int)<n:=(by have:=HN.out;unfold jointN at this;omega)
      have u1:=HV.out (at_+high-(k:Int))
      have hwf:whereF first low high at_ (k:Int)=at_+high-(k:Int):=if_pos hin
      rw [hwf] at HPS
      have HP:=Lib.hid (ptsAt_in (first:=first) hin.1 hin.2)
      have v1:IntKind.i64.wrap (at_+high)=at_+high:=(by rw [IntKind.wrap_i64];omega)
      have v2:IntKind.i64.wrap (at_+high-(k:Int))=at_+high-(k:Int):=(by rw [IntKind.wrap_i64];omega)
      clear hin hwf
      generalize gI xs (at_+high-(k:Int))=y at *
      obtain ⟨z,hz2⟩:∃ z,sg * y=z:=⟨_,rfl⟩
      rw [hz2] at HPS
      have v3:IntKind.i64.wrap z=z:=(by rw [IntKind.wrap_i64];rcases hsg with rfl|rfl<;>omega)
      have hso:=HSET.out z
      have HSO:=Lib.hid hso
      have hgn:ptsAt first low high k=ptsAt first low high k:=rfl
      clear hso HSET
      go_wp2_with (go_at_call 89;(with_reducible refine (inE_any _ _ _ _).mono ?_);rintro e w2 ⟨rfl,hw2⟩;obtain rfl:=hw2.symm;rw [HI.out])
      go_roundw
      case rel=>exact ⟨k+1,by omega,by rw [HP.out],by go_num,(show Own _ _ _ _ _ _ _ _ _ from by have h:=HSO.out.1;rw [HPS.out,Nat.mul_one] at h;exact h),(show Below _ _ _ from hbr.out.setCell (p:=⟨w.heap.size,k,none⟩) (Nat.le_refl _) _)⟩
      case measure=>simp [intOf];omega
    · have HI:Hid (inB (k:Int) low high=false):=(show _=_ by
       rw [←Bool.not_eq_true]
       intro hh
       simp [inB] at hh
       exact hin hh)
      obtain ⟨ho1,ho2⟩:=ptsAt_out (first:=first) (at_:=at_) h1 hin
      have hr:=whereF_rng (first:=first) (second:=(m:Int)) (at_:=at_) h0 h1 h2 h3 h4 (i:=(k:Int)) (by omega) (by omega)
      rw [ho1] at hr HPS
      rw [←HN.out] at hr
      obtain ⟨pt,hpt⟩:∃ pt,ptsAt first low high k=pt:=⟨_,rfl⟩
      rw [hpt] at hr HPS ho2 ⊢
      have q1:=(hbr.out.cell (p:=⟨b,off+pt.toNat,none⟩) hbw).trans (HC.out pt hr.1 hr.2)
      have j1:=hr.1
      have j2:=hr.2
      have u1:=HV.out pt
      have HP:=Lib.hid ho2
      have v4:IntKind.i64.wrap (pt+1)=pt+1:=(by rw [IntKind.wrap_i64];have:=HN.out;unfold jointN at this;omega)
      clear hin ho1 ho2 hr hpt
      generalize gI xs pt=y at *
      obtain ⟨z,hz2⟩:∃ z,sg * y=z:=⟨_,rfl⟩
      rw [hz2] at HPS
      have v3:IntKind.i64.wrap z=z:=(by rw [IntKind.wrap_i64];rcases hsg with rfl|rfl<;>omega)
      have hso:=HSET.out z
      have HSO:=Lib.hid hso
      clear hso HSET
      go_wp2_with (go_at_call 89;(with_reducible refine (inE_any _ _ _ _).mono ?_);rintro e w2 ⟨rfl,hw2⟩;obtain rfl:=hw2.symm;rw [HI.out])
      go_roundw
      case rel=>exact ⟨k+1,by omega,by rw [HP.out],by go_num,(show Own _ _ _ _ _ _ _ _ _ from by have h:=HSO.out.1;rw [HPS.out,Nat.mul_one] at h;exact h),(show Below _ _ _ from hbr.out.setCell (p:=⟨w.heap.size,k,none⟩) (Nat.le_refl _) _)⟩
      case measure=>simp [intOf];omega
  · have hkm:k=m:=by omega
    subst hkm
    go_wp2
    go_ret
    exact ⟨_,_,rfl,hbr.out,by simpa using hOk.out⟩
def codePlc10:Option Code→Code
 | some (.seq _ (.seq _ (.seq _ (.seq _ (.seq _ (.seq _ (.seq _ (.seq _ (.seq c _)))))))))=>c
 | _=> .skip
def PlcI (b6 m q q2:Nat) (x0 x1 x2 x3:List Int) (w:World):List Value→World→Prop
 | [],W=>Below w.heap.size w W
 | [v0],W=>Below w.heap.size w W∧∃ A0 c0,v0 = .slice A0 (m+1) c0∧Own encInt 1 3 w.heap.size W A0 (m+1) c0 x0
 | [v0,v1],W=>Below w.heap.size w W∧∃ A0 c0 A1 c1,v0 = .slice A0 (m+1) c0∧v1 = .slice A1 q c1∧Own encInt 1 3 w.heap.size W A0 (m+1) c0 x0∧Own encInt 1 3 w.heap.size W A1 q c1 x1
 | [v0,v1,v2],W=>Below w.heap.size w W∧∃ A0 c0 A1 c1 A2 c2,v0 = .slice A0 (m+1) c0∧v1 = .slice A1 q c1∧v2 = .slice A2 m c2∧Own encInt 1 3 w.heap.size W A0 (m+1) c0 x0∧Own encInt 1 3 w.heap.size W A1 q c1 x1∧Own encInt 1 3 w.heap.size W A2 m c2 x2
 | [v0,v1,v2,v3],W=>Below w.heap.size w W∧∃ A0 c0 A1 c1 A2 c2 A3 c3,v0 = .slice A0 (m+1) c0∧v1 = .slice A1 q c1∧v2 = .slice A2 m c2∧v3 = .slice A3 q2 c3∧Own encInt 1 3 w.heap.size W A0 (m+1) c0 x0∧Own encInt 1 3 w.heap.size W A1 q c1 x1∧Own encInt 1 3 w.heap.size W A2 m c2 x2∧Own encInt 1 3 w.heap.size W A3 q2 c3 x3
 | [v0,v1,v2,v3,_],W=> ∃ W0,Below w.heap.size w W0∧∃ A0 c0 A1 c1 A2 c2 A3 c3,v0 = .slice A0 (m+1) c0∧v1 = .slice A1 q c1∧v2 = .slice A2 m c2∧v3 = .slice A3 q2 c3∧Own encInt 1 3 w.heap.size W0 A0 (m+1) c0 x0∧Own encInt 1 3 w.heap.size W0 A1 q c1 x1∧Own encInt 1 3 w.heap.size W0 A2 m c2 x2∧Own encInt 1 3 w.heap.size W0 A3 q2 c3 x3∧W=(((W0.setCell ⟨b6,0,none⟩ v0).setCell ⟨b6,1,none⟩ v1).setCell ⟨b6,2,none⟩ v2).setCell ⟨b6,3,none⟩ v3
 | _,_=>False
theorem PlcI.b {b6 m q q2:Nat} {x0 x1 x2 x3:List Int} {w W:World} {cv:List Value} (hl:cv.length≤4) (h:PlcI b6 m q q2 x0 x1 x2 x3 w cv W):Below w.heap.size w W:=by
 match cv,hl,h with
 | [],_,h=>exact h
 | [_],_,h=>exact h.1
 | [_,_],_,h=>exact h.1
 | [_,_,_],_,h=>exact h.1
 | [_,_,_,_],_,h=>exact h.1
 | _::_::_::_::_::_,hl,_=>simp at hl
theorem PlcI.four {b6 m q q2:Nat} {x0 x1 x2 x3:List Int} {w W:World} {cv:List Value} (h:PlcI b6 m q q2 x0 x1 x2 x3 w cv W) (hl:4≤cv.length):∃ A0 c0 A1 c1 A2 c2 A3 c3,cv = [.slice A0 (m+1) c0,.slice A1 q c1,.slice A2 m c2,.slice A3 q2 c3]∨∃ z,cv = [.slice A0 (m+1) c0,.slice A1 q c1,.slice A2 m c2,.slice A3 q2 c3,z]:=by
 match cv,hl,h with
 | [],hl,_=>simp at hl
 | [_],hl,_=>simp at hl
 | [_,_],hl,_=>simp at hl
 | [_,_,_],hl,_=>simp at hl
 | [_,_,_,_],_,⟨_,A0,c0,A1,c1,A2,c2,A3,c3,e0,e1,e2,e3,_⟩=>exact ⟨A0,c0,A1,c1,A2,c2,A3,c3,.inl (by rw [e0,e1,e2,e3])⟩
 | [_,_,_,_,z],_,⟨_,_,A0,c0,A1,c1,A2,c2,A3,c3,e0,e1,e2,e3,_⟩=>exact ⟨A0,c0,A1,c1,A2,c2,A3,c3,.inr ⟨z,by rw [e0,e1,e2,e3]⟩⟩
theorem len4 {cv:List Value} (h:cv.length=4):∃ a b c d,cv = [a,b,c,d]:=by
 match cv,h with
 | [a,b,c,d],_=>exact ⟨a,b,c,d,rfl⟩
theorem len3 {cv:List Value} (h:cv.length=3):∃ a b c,cv = [a,b,c]:=by
 match cv,h with
 | [a,b,c],_=>exact ⟨a,b,c,rfl⟩
def Tplc10 (b4 b5 _ m:Nat) (Wx Dx:Option Addr) (nw cw nd cd:Nat) (bn al _ bl bh:Int) (_ _:Value) (cv:List Value):List Value:=
 [.slice Wx nw cw,.int .i64 m,.int .i64 (m+1),.slice Wx (m+1) cw,cv.getD 0 undef,.slice Wx nw cw,.int .i64 m,.int .i64 (m+1),.pointer (some ⟨b4,0,none⟩),.int .i64 bn,.int .i64 (bn+1),.pointer (some ⟨b5,0+2,none⟩),.pointer (some ⟨b5,0+2,none⟩),.int .i64 bl,.pointer (some ⟨b5,0+2,none⟩),.pointer (some ⟨b5,0+3,none⟩),.int .i64 bh,.pointer (some ⟨b5,0,none⟩),.pointer (some ⟨b5,0,none⟩),.int .i64 al,cv.getD 1 undef,.slice Dx nd cd,.int .i64 m,.slice Dx m cd,cv.getD 2 undef,.slice Dx nd cd,.int .i64 m,.pointer (some ⟨b4,0,none⟩),.int .i64 bn,.pointer (some ⟨b5,0+2,none⟩),.pointer (some ⟨b5,0+2,none⟩),.int .i64 bl,.pointer (some ⟨b5,0+2,none⟩),.pointer (some ⟨b5,0+3,none⟩),.int .i64 bh,.int .i64 (bh-1),.pointer (some ⟨b5,0,none⟩),.pointer (some ⟨b5,0,none⟩),.int .i64 al,cv.getD 3 undef,.agg #[cv.getD 0 undef,cv.getD 1 undef,cv.getD 2 undef,cv.getD 3 undef],cv.getD 4 undef,.bool true,.int .i64 0]
theorem plc10 (cC:Code) (hc:cC=codePlc10 Tryz.f54.body) (b4 b5 b6 m:Nat) (Wx Dx:Option Addr) (nw cw nd cd:Nat) (bn al ah bl bh:Int) (bw bt:Value) (a:Act) (w:World) (Q:Exit→Act→World→Prop)
 (hT:a.tmps.size=96) (t4:a.tmps.getD 4 undef = .pointer (some ⟨b4,0,none⟩)) (t5:a.tmps.getD 5 undef = .pointer (some ⟨b5,0,none⟩)) (t6:a.tmps.getD 6 undef = .pointer (some ⟨b6,0,none⟩)) (t12:a.tmps.getD 12 undef = .slice Wx nw cw) (t15:a.tmps.getD 15 undef = .slice Dx nd cd) (t18:a.tmps.getD 18 undef = .int .i64 m)
 (q q2:Nat) (x0 x1 x2 x3:List Int) (CE:∀ W,Below w.heap.size w W→W.cell? ⟨b4,0,none⟩=some (.int .i64 bn)∧W.cell? ⟨b4,1,none⟩=some bw∧W.cell? ⟨b4,2,none⟩=some bt∧W.cell? ⟨b5,0,none⟩=some (.int .i64 al)∧W.cell? ⟨b5,1,none⟩=some (.int .i64 ah)∧W.cell? ⟨b5,2,none⟩=some (.int .i64 bl)∧W.cell? ⟨b5,3,none⟩=some (.int .i64 bh)) (CB:∀ W,Below w.heap.size w W→∃ u0 u1 u2 u3,W.heap[b6]? = some (.cells #[u0,u1,u2,u3] 31 (0,0))) (hm:m+1≤nw) (hm2:m≤nd) (hw:nw≤cw) (hd:nd≤cd) (hcw:cw≤9223372036854775807) (hcd:cd≤9223372036854775807) (hm3:m≤100) (hb1: -1000≤bn∧bn≤1000) (hb2: -1000≤bh∧bh≤1000)
 (C0:∀ W,Below w.heap.size w W→Calls Tryz.prog 109 #[.slice Wx (m+1) cw] W fun e w'=> ∃ A' c',e = .returned (.slice A' (m+1) c')∧Below W.heap.size W w'∧Own encInt 1 3 W.heap.size w' A' (m+1) c' x0)
 (C1:∀ W,Below w.heap.size w W→Calls Tryz.prog 110 #[.slice Wx nw cw,.int .i64 (m+1),.int .i64 (bn+1),.int .i64 bl,.int .i64 bh,.int .i64 al,.int .i64 (-1)] W fun e w'=> ∃ A' c',e = .returned (.slice A' q c')∧Below W.heap.size W w'∧Own encInt 1 3 W.heap.size w' A' q c' x1)
 (C2:∀ W,Below w.heap.size w W→Calls Tryz.prog 109 #[.slice Dx m cd] W fun e w'=> ∃ A' c',e = .returned (.slice A' m c')∧Below W.heap.size W w'∧Own encInt 1 3 W.heap.size w' A' m c' x2)
 (C3:∀ W,Below w.heap.size w W→Calls Tryz.prog 110 #[.slice Dx nd cd,.int .i64 m,.int .i64 bn,.int .i64 bl,.int .i64 (bh-1),.int .i64 al,.int .i64 1] W fun e w'=> ∃ A' c',e = .returned (.slice A' q2 c')∧Below W.heap.size W w'∧Own encInt 1 3 W.heap.size w' A' q2 c' x3)
 (hQ:∀ A0 c0 A1 c1 A2 c2 A3 c3 (_:Value) W,Below w.heap.size w W→Own encInt 1 3 w.heap.size W A0 (m+1) c0 x0→Own encInt 1 3 w.heap.size W A1 q c1 x1→Own encInt 1 3 w.heap.size W A2 m c2 x2→Own encInt 1 3 w.heap.size W A3 q2 c3 x3→Q .normal { tmps:=setsL (setsL (a.tmps) 55 [.slice Wx nw cw,.int .i64 m,.int .i64 (m+1),.slice Wx (m+1) cw,.slice A0 (m+1) c0,.slice Wx nw cw,.int .i64 m,.int .i64 (m+1),.pointer (some ⟨b4,0,none⟩),.int .i64 bn,.int .i64 (bn+1),.pointer (some ⟨b5,0+2,none⟩),.pointer (some ⟨b5,0+2,none⟩),.int .i64 bl,.pointer (some ⟨b5,0+2,none⟩),.pointer (some ⟨b5,0+3,none⟩),.int .i64 bh,.pointer (some ⟨b5,0,none⟩),.pointer (some ⟨b5,0,none⟩),.int .i64 al,.slice A1 q c1,.slice Dx nd cd,.int .i64 m,.slice Dx m cd,.slice A2 m c2,.slice Dx nd cd,.int .i64 m,.pointer (some ⟨b4,0,none⟩),.int .i64 bn,.pointer (some ⟨b5,0+2,none⟩),.pointer (some ⟨b5,0+2,none⟩),.int .i64 bl,.pointer (some ⟨b5,0+2,none⟩),.pointer (some ⟨b5,0+3,none⟩),.int .i64 bh,.int .i64 (bh-1),.pointer (some ⟨b5,0,none⟩),.pointer (some ⟨b5,0,none⟩),.int .i64 al,.slice A3 q2 c3,.agg #[.slice A0 (m+1) c0,.slice A1 q c1,.slice A2 m c2,.slice A3 q2 c3]]) 7 [.bool true,.int .i64 0],defers:=a.defers } ((((W.setCell ⟨b6,0,none⟩ (.slice A0 (m+1) c0)).setCell ⟨b6,1,none⟩ (.slice A1 q c1)).setCell ⟨b6,2,none⟩ (.slice A2 m c2)).setCell ⟨b6,3,none⟩ (.slice A3 q2 c3))):
 cC.wp Tryz.prog Q a w:=by
 subst hc
 unfold codePlc10 Tryz.f54
 dsimp only
 refine wpIn_wide.1 (wpIn_region_chain (nn:=5) 96 (by kernel_rfl) (by kernel_rfl) (by kernel_rfl) hT (fun i cv=>(Tplc10 b4 b5 b6 m Wx Dx nw cw nd cd bn al ah bl bh bw bt cv).getD i undef) (fun i=>([0,0,0,0,0,0,0,0,0,0,0,0,0,0,0,0,0,0,0,0,0,0,0,0,0,0,0,0,0,0,0,0,0,0,0,0,0,0,0,0,4,0,0,0]:List Nat).getD i 0) (fun i=>([0,0,0,0,1,1,1,1,1,1,1,1,1,1,1,1,1,1,1,1,2,2,2,2,3,3,3,3,3,3,3,3,3,3,3,3,3,3,3,4,4,5,5,5]:List Nat).getD i 0) [4,20,24,39,41] (by kernel_rfl) (by kernel_rfl) (by kernel_rfl) (by kernel_rfl) (PlcI b6 m q q2 x0 x1 x2 x3 w) ((Below.refl _ _).drew) (fun b cv hE hold=> ?_) (fun cv W hl hI=> ?_))
 · clear hQ
   have v1:IntKind.i64.wrap ((m:Int)+1)=(m:Int)+1:=(by rw [IntKind.wrap_i64];omega)
   have v2:IntKind.i64.wrap (bn+1)=bn+1:=(by rw [IntKind.wrap_i64];omega)
   have v3:IntKind.i64.wrap (bh-1)=bh-1:=(by rw [IntKind.wrap_i64];omega)
   have q4:=hold 4 _ (by kernel_rfl) t4
   have q5:=hold 5 _ (by kernel_rfl) t5
   have q6:=hold 6 _ (by kernel_rfl) t6
   have q12:=hold 12 _ (by kernel_rfl) t12
   have q15:=hold 15 _ (by kernel_rfl) t15
   have q18:=hold 18 _ (by kernel_rfl) t18
   simp only [factsL,Vc,idxC,Tplc10,List.getD_cons_zero,List.getD_cons_succ,Nat.reduceAdd,Nat.reduceEqDiff,reduceIte,Option.map_some,Option.map_none] at hE
   repeat' first|exact chain_nil|refine chain_op 0 rfl rfl ?_ ?_|refine chain_op 1 rfl rfl ?_ ?_|refine chain_op 2 rfl rfl ?_ ?_|refine chain_op 3 rfl rfl ?_ ?_|refine chain_op 4 rfl rfl ?_ ?_|refine chain_skip rfl rfl rfl rfl ?_|refine chain_quiet rfl rfl ?_ ?_
   all_goals intro hl
   any_goals (
    intro hl2;simp only [List.getD_cons_zero,List.getD_cons_succ,Nat.reduceAdd] at hl hl2
    first
     | (obtain rfl:=List.eq_nil_of_length_eq_zero (Nat.le_zero.1 hl2);intro W hW;have hWb:Below w.heap.size w W:=hW;obtain ⟨e0,e1,e2,e3,e4,e5,e6⟩:=CE W hWb;simp only [Tplc10,List.getD_cons_zero,List.getD_cons_succ,Nat.reduceAdd]
        first
         | (refine .inl ?_;go_simp;done)
         | (refine .inl ?_;go_simp;rfl)
         | (refine .inl ?_;go_simp;intro hh;exfalso;omega))
     | (intro W hW;simp only [Tplc10,List.getD_cons_zero,List.getD_cons_succ,Nat.reduceAdd];refine .inl ?_;go_simp;(try rfl);done)
     | (intro W hW;obtain ⟨e0,e1,e2,e3,e4,e5,e6⟩:=CE W (PlcI.b (by omega) hW);simp only [Tplc10,List.getD_cons_zero,List.getD_cons_succ,Nat.reduceAdd]
        first
         | (refine .inl ?_;go_simp;done)
         | (refine .inl ?_;go_simp;rfl)
         | (refine .inl ?_;go_simp;intro hh;exfalso;omega))
     | (intro W hW;rcases Nat.lt_or_ge cv.length 4 with h4|h4
        · exfalso;omega
        · obtain ⟨A0,c0,A1,c1,A2,c2,A3,c3,h|⟨z,h⟩⟩:=PlcI.four hW h4
          · subst h;simp only [Tplc10,List.getD_cons_zero,List.getD_cons_succ,Nat.reduceAdd] at hE ⊢;refine .inl ?_;go_simp;(try rfl);done
          · subst h;simp only [Tplc10,List.getD_cons_zero,List.getD_cons_succ,Nat.reduceAdd] at hE ⊢;refine .inl ?_;go_simp;(try rfl);done)
    done)
   · obtain rfl:=List.eq_nil_of_length_eq_zero hl
     intro W hW
     have hWb:Below w.heap.size w W:=hW
     refine .inr ⟨109,#[.slice Wx (m+1) cw],?_,(C0 W hWb).mono ?_⟩
     · go_simp<;>done
     · rintro e w' ⟨A',c',rfl,hb',ho⟩;exact ⟨_,rfl,hWb.trans (hb'.mono hWb.size),A',c',rfl,ho.mono hWb.size⟩
   · obtain ⟨y0,rfl⟩:=len1 hl
     rintro W ⟨hWb,A0,c0,rfl,h0⟩
     simp only [List.getD_cons_zero,List.getD_cons_succ] at hE
     refine .inr ⟨110,#[.slice Wx nw cw,.int .i64 (m+1),.int .i64 (bn+1),.int .i64 bl,.int .i64 bh,.int .i64 al,.int .i64 (-1)],?_,(C1 W hWb).mono ?_⟩
     · go_simp<;>done
     · rintro e w' ⟨A',c',rfl,hb',ho⟩;exact ⟨_,rfl,hWb.trans (hb'.mono hWb.size),A0,c0,A',c',rfl,rfl,h0.below hb' (Nat.le_refl _),ho.mono hWb.size⟩
   · obtain ⟨y0,y1,rfl⟩:=len2 hl
     rintro W ⟨hWb,A0,c0,A1,c1,rfl,rfl,h0,h1⟩
     simp only [List.getD_cons_zero,List.getD_cons_succ] at hE
     refine .inr ⟨109,#[.slice Dx m cd],?_,(C2 W hWb).mono ?_⟩
     · go_simp<;>done
     · rintro e w' ⟨A',c',rfl,hb',ho⟩;exact ⟨_,rfl,hWb.trans (hb'.mono hWb.size),A0,c0,A1,c1,A',c',rfl,rfl,rfl,h0.below hb' (Nat.le_refl _),h1.below hb' (Nat.le_refl _),ho.mono hWb.size⟩
   · obtain ⟨y0,y1,y2,rfl⟩:=len3 hl
     rintro W ⟨hWb,A0,c0,A1,c1,A2,c2,rfl,rfl,rfl,h0,h1,h2⟩
     simp only [List.getD_cons_zero,List.getD_cons_succ] at hE
     refine .inr ⟨110,#[.slice Dx nd cd,.int .i64 m,.int .i64 bn,.int .i64 bl,.int .i64 (bh-1),.int .i64 al,.int .i64 1],?_,(C3 W hWb).mono ?_⟩
     · go_simp<;>done
     · rintro e w' ⟨A',c',rfl,hb',ho⟩;exact ⟨_,rfl,hWb.trans (hb'.mono hWb.size),A0,c0,A1,c1,A2,c2,A',c',rfl,rfl,rfl,rfl,h0.below hb' (Nat.le_refl _),h1.below hb' (Nat.le_refl _),h2.below hb' (Nat.le_refl _),ho.mono hWb.size⟩
   · obtain ⟨y0,y1,y2,y3,rfl⟩:=len4 hl
     rintro W ⟨hWb,A0,c0,A1,c1,A2,c2,A3,c3,rfl,rfl,rfl,rfl,h0,h1,h2,h3⟩
     simp only [List.getD_cons_zero,List.getD_cons_succ] at hE
     obtain ⟨u0,u1,u2,u3,hh⟩:=CB W hWb
     obtain ⟨k0,k1,k2,k3,f0,f1,f2,f3⟩:W.cell? ⟨b6,0,none⟩=some u0∧W.cell? ⟨b6,1,none⟩=some u1∧W.cell? ⟨b6,2,none⟩=some u2∧W.cell? ⟨b6,3,none⟩=some u3∧W.frozen? ⟨b6,0,none⟩=false∧W.frozen? ⟨b6,1,none⟩=false∧W.frozen? ⟨b6,2,none⟩=false∧W.frozen? ⟨b6,3,none⟩=false:=(by simp [World.cell?,World.frozen?,hh])
     refine .inl ⟨undef,(((W.setCell ⟨b6,0,none⟩ (.slice A0 (m+1) c0)).setCell ⟨b6,1,none⟩ (.slice A1 q c1)).setCell ⟨b6,2,none⟩ (.slice A2 m c2)).setCell ⟨b6,3,none⟩ (.slice A3 q2 c3),.inr ⟨?_,rfl⟩,W,hWb,A0,c0,A1,c1,A2,c2,A3,c3,rfl,rfl,rfl,rfl,h0,h1,h2,h3,rfl⟩
     go_simp
 · match cv,hl,hI with
   | [_,_,_,_,z],_,⟨W0,hb,A0,c0,A1,c1,A2,c2,A3,c3,rfl,rfl,rfl,rfl,h0,h1,h2,h3,e⟩=>subst e;exact hQ A0 c0 A1 c1 A2 c2 A3 c3 z W0 hb h0 h1 h2 h3
theorem solvedX_get {pts:Int} {bs:List Bound} (hs:solvedOk pts bs=true) {i:Nat} (hi:i<pts.toNat):(solvedX pts bs).getD i 0=val (solvedR pts bs).1 i:=by
 unfold solvedX
 rw [if_pos hs]
 unfold val
 rw [List.getD_eq_getElem?_getD,List.getD_eq_getElem?_getD,List.getElem?_take,if_pos hi]
theorem solvedX_keeps {pts:Int} {bs:List Bound} (hok:SysOk pts bs) (hs:solvedOk pts bs=true):∀ b∈bs,(solvedX pts bs).getD b.dst.toNat 0≤(solvedX pts bs).getD b.src.toNat 0+b.most:=fun b hb=>by
 have hz60:zeroRow.length=60:=by simp [zeroRow]
 have hp1:=hok.p1
 have hbb:=hok.b b hb
 rw [solvedX_get hs (by omega),solvedX_get hs (by omega)]
 refine loop_fix _ _ (ends60 hok hz60) hs b hb ?_
 have:=loop_le (bs:=bs) (pts+1).toNat (zeroRow,lasts) (ends60 hok hz60) b.src.toNat
 simp only [val_zero] at this
 unfold noneV
 omega
theorem solvedX_near {pts:Int} {bs:List Bound} (hok:SysOk pts bs) (hs:solvedOk pts bs=true):∀ v∈solvedX pts bs,-60000000≤v∧v≤0:=fun v hv=>by
 have hz60:zeroRow.length=60:=by simp [zeroRow]
 have hp1:=hok.p1
 have hp2:=hok.p2
 obtain ⟨i,hi,hiv⟩:=List.getElem_of_mem hv
 have hi2:i<pts.toNat:=by
  have h:=hi
  unfold solvedX at h
  rw [if_pos hs,List.length_take] at h
  omega
 have hg:v=val (solvedR pts bs).1 i:=by
  rw [←solvedX_get hs hi2,List.getD_eq_getElem?_getD,List.getElem?_eq_getElem hi,hiv];rfl
 obtain ⟨y,hy,hyb⟩:=solution_of (n:=60) (show Ends 60 bs from fun b hb=>by have:=ends60 hok (r:=zeroRow) hz60 b hb;rw [hz60] at this;exact this) (M:=1000000) (by omega) (fun b hb=>(hok.b b hb).2.2.2.2.2.1) ((solution_iff hok).1 hs)
 have h1:=loop_le (bs:=bs) (pts+1).toNat (zeroRow,lasts) (ends60 hok hz60) i
 have h2:=loop_low (bs:=bs) (y:=fun v=>if v<60 then y v else 0) (fun b hb _=>by
  have hbb:=hok.b b hb
  have:=hy b hb
  simp only
  rw [if_pos (by omega),if_pos (by omega)]
  exact this) (pts+1).toNat (zeroRow,lasts) (ends60 hok hz60) (fun v=>by
   simp only [val_zero]
   split
   · exact (hyb v (by assumption)).2
   · exact Int.le_refl _) i
 simp only [val_zero] at h1 h2
 rw [if_pos (by omega)] at h2
 have h3:=hyb i (by omega)
 rw [hg]
 unfold solvedR settled
 omega
theorem circleX_yes {pts:Int} {bs:List Bound} (hok:SysOk pts bs) (h:circOk pts bs=true):circleB bs (circleX pts bs)=true:=by
 rcases circle_law hok with ⟨h1,_⟩|⟨p,ws,_,hix,hl,hne,hs,hw,hneg,hmin⟩
 · exact absurd h1 (circOk_iff.1 h)
 · refine (circleB_iff hok hix hs).2 ⟨?_,⟨p,hw⟩,least_simple hs hw hneg hmin,hneg⟩
   match ws,hne,hw,hs with
   | [b],_,hw,hs=>
     have hb:=hok.b b (hs b List.mem_cons_self)
     have h1:b.src.toNat=p∧b.dst.toNat=p:=by simpa [isWalk] using hw
     omega
   | _::_::_,_,_,_=>simp
section
variable {A B:Outl} {p:Pairing}
theorem clash_yes (h:AskOk A B p):(clashV A B p).2.2 = !meetsV A B p∧clashB A B p (clashV A B p).1 (clashV A B p).2.1 = !meetsV A B p:=by
 have h0:=askedErr_zero.2 h
 have s1:=solved_circ (sysOk_of h.ways_sys)
 have s2:=solved_circ (sysOk_of h.dirs_sys)
 have y1:=circleX_yes (sysOk_of h.ways_sys)
 have y2:=circleX_yes (sysOk_of h.dirs_sys)
 unfold clashB clashV meetsV
 rw [if_pos h0,decide_eq_true h0,Bool.true_and,s1,s2]
 unfold circV
 cases c1:circOk (waysN A B p) (waysB A B p) with
 | true=>exact ⟨rfl,by simpa [clashL] using y1 c1⟩
 | false=>
   cases c2:circOk (dirsN A B p) (dirsB A B p) with
   | true=>exact ⟨rfl,by simpa [clashL] using y2 c2⟩
   | false=>exact ⟨rfl,rfl⟩
theorem gI_shift {bs:List Bound} {xs:List Int} (h:keepsB bs xs=true) (c:Int):KeepsF bs (fun i=>gI xs i+c):=fun b hb=>by
 have:=keepsB_iff.1 h b hb
 unfold gI
 simp only
 omega
theorem plc_rows {xa xb da db:List Int} (h:plcB A B p xa xb da db=true):askedErr A B p=0∧rowK (A.n+1,A.ways,xa)=true∧rowK (B.n+1,B.ways,xb)=true∧rowK (A.n,A.turns,da)=true∧rowK (B.n,B.turns,db)=true∧∀ m:Nat,m<(p.a.hi-p.a.lo).toNat+1→roundB p xa xb da db m=true:=by
 unfold plcB at h
 rw [Bool.and_eq_true,Bool.and_eq_true,decide_eq_true_eq,List.all_eq_true,List.all_eq_true] at h
 obtain ⟨h1,h2,h3⟩:=h
 exact ⟨h1,h2 _ (by simp [rowsL]),h2 _ (by simp [rowsL]),h2 _ (by simp [rowsL]),h2 _ (by simp [rowsL]),fun m hm=>h3 m (List.mem_range.2 hm)⟩
theorem rowK_keeps {r:Row3} (h:rowK r=true):keepsB r.2.1 r.2.2=true:=by
 unfold rowK keepsC at h
 simp only [Bool.and_eq_true] at h
 exact h.2.2
theorem plc_meets {xa xb da db:List Int} (h:plcB A B p xa xb da db=true):meetsV A B p=true:=by
 obtain ⟨h0,r1,r2,r3,r4,hr⟩:=plc_rows h
 have hok:=askedErr_zero.1 h0
 have ha1:=hok.a1
 have hk:=hok.k
 refine hok.meets_iff.2 ⟨⟨fun i=>gI xa i+0,fun i=>gI xb i+(-(gI xb p.b.hi+gI xa p.a.lo)),gI_shift (rowK_keeps r1) _,gI_shift (rowK_keeps r2) _,fun i h1 h2=> ?_⟩,fun i=>gI da i+0,fun i=>gI db i+(gI da p.a.lo-gI db (p.b.hi-1)),gI_shift (rowK_keeps r3) _,gI_shift (rowK_keeps r4) _,fun i h1 h2=> ?_⟩
 · have:=hr (p.b.hi-i).toNat (by omega)
   unfold roundB roundW at this
   rw [Bool.and_eq_true,decide_eq_true_eq] at this
   have h3:=this.1
   rw [show (((p.b.hi-i).toNat:Nat):Int)=p.b.hi-i from Int.toNat_of_nonneg (by omega),show p.b.hi-(p.b.hi-i)=i from by omega,show p.a.lo+(p.b.hi-i)=p.a.lo+p.b.hi-i from by omega] at h3
   simp only [sgn,if_true]
   omega
 · have:=hr (p.b.hi-1-i).toNat (by omega)
   unfold roundB roundD at this
   rw [Bool.and_eq_true,Bool.or_eq_true,Bool.not_eq_true',decide_eq_false_iff_not,decide_eq_true_eq] at this
   have h3:=this.2
   rw [show (((p.b.hi-1-i).toNat:Nat):Int)=p.b.hi-1-i from Int.toNat_of_nonneg (by omega),show p.b.hi-1-(p.b.hi-1-i)=i from by omega,show p.a.lo+(p.b.hi-1-i)=p.a.lo+(p.b.hi-1)-i from by omega] at h3
   simp only [sgn,Bool.false_eq_true,if_false]
   rcases h3 with h3|h3
   · omega
   · omega
def plcW (A B:Outl) (p:Pairing):List Int:=solvedX (waysN A B p) (waysB A B p)
def plcD (A B:Outl) (p:Pairing):List Int:=solvedX (dirsN A B p) (dirsB A B p)
def placeX (A B:Outl) (p:Pairing):List Int×List Int×List Int×List Int:=
 ((plcW A B p).take (A.n+1).toNat,partL (plcW A B p) (A.n+1) p.b.lo p.b.hi p.a.lo (-1) (B.n+1).toNat,(plcD A B p).take A.n.toNat,partL (plcD A B p) A.n p.b.lo (p.b.hi-1) p.a.lo 1 B.n.toNat)
def placeV (A B:Outl) (p:Pairing):List Int×List Int×List Int×List Int:=if askedErr A B p=0∧meetsV A B p=true then placeX A B p else ([],[],[],[])
theorem partL_get {xs:List Int} {first low high at_ sg:Int} {m:Nat} {i:Int} (h0:0≤i) (hi:i<m):gI (partL xs first low high at_ sg m) i=sg * gI xs (whereF first low high at_ i):=by
 have e:partL xs first low high at_ sg m=(List.range m).map fun (i:Nat)=>sg * gI xs (whereF first low high at_ i):=rfl
 have hlt:i.toNat<m:=by omega
 have e2:gI (partL xs first low high at_ sg m) i=(partL xs first low high at_ sg m).getD i.toNat 0:=rfl
 rw [e2,e,List.getD_eq_getElem?_getD,List.getElem?_map,List.getElem?_range hlt]
 simp only [Option.map_some,Option.getD_some]
 rw [show ((i.toNat:Nat):Int)=i from Int.toNat_of_nonneg h0]
theorem take_get {xs:List Int} {n:Nat} {i:Int} (h0:0≤i) (hi:i<n):gI (xs.take n) i=gI xs i:=by
 unfold gI
 rw [List.getD_eq_getElem?_getD,List.getD_eq_getElem?_getD,List.getElem?_take,if_pos (by omega)]
theorem rowK_mk {n:Int} {bs:List Bound} {xs:List Int} (hl:(xs.length:Int)=n) (hb:∀ v∈xs,-60000000≤v∧v≤60000000) (hk:∀ b∈bs,gI xs b.dst≤gI xs b.src+b.most):rowK (n,bs,xs)=true:=by
 unfold rowK keepsC fitsB
 simp only [Bool.and_eq_true,Bool.not_eq_true',List.any_eq_false,decide_eq_true_eq,List.all_eq_true]
 refine ⟨fun v hv=> ?_,⟨hl,fun v hv=> ?_⟩,keepsB_iff.2 fun b hb=>hk b hb⟩
 · have:=hb v hv
   unfold farN
   simp only [Bool.or_eq_true,decide_eq_true_eq,not_or]
   omega
 · have:=hb v hv
   unfold nearN withinB
   simp only [Bool.and_eq_true,decide_eq_true_eq]
   omega
theorem gI_near {xs:List Int} (h:∀ v∈xs,-60000000≤v∧v≤0) (i:Int): -60000000≤gI xs i∧gI xs i≤0:=by
 unfold gI
 rw [List.getD_eq_getElem?_getD]
 cases hx:xs[i.toNat]? with
 | none=>simp
 | some x=>exact h x (List.mem_of_getElem? hx)
theorem place_ok (h:AskOk A B p) (hm:meetsV A B p=true):plcB A B p (placeX A B p).1 (placeX A B p).2.1 (placeX A B p).2.2.1 (placeX A B p).2.2.2=true:=by
 have h0:=askedErr_zero.2 h
 obtain ⟨a1,a2,a3,a4⟩:=checkOut_zero.1 h.a
 obtain ⟨b1,b2,b3,b4⟩:=checkOut_zero.1 h.b
 obtain ⟨A1,A2,A3,A4⟩:=checkSys_zero.1 a3
 obtain ⟨B1,B2,B3,B4⟩:=checkSys_zero.1 b3
 obtain ⟨C1,C2,C3,C4⟩:=checkSys_zero.1 a4
 obtain ⟨D1,D2,D3,D4⟩:=checkSys_zero.1 b4
 have pa0:=h.a0;have pa1:=h.a1;have pa2:=h.a2;have pb0:=h.b0;have pb1:=h.b1;have pb2:=h.b2;have hk:=h.k
 obtain ⟨hw,hd⟩:solvedOk (waysN A B p) (waysB A B p)=true∧solvedOk (dirsN A B p) (dirsB A B p)=true:=by
  unfold meetsV at hm;rwa [Bool.and_eq_true] at hm
 have kw:=solvedX_keeps (sysOk_of h.ways_sys) hw
 have kd:=solvedX_keeps (sysOk_of h.dirs_sys) hd
 have nw:=gI_near (solvedX_near (sysOk_of h.ways_sys) hw)
 have nd:=gI_near (solvedX_near (sysOk_of h.dirs_sys) hd)
 have mw:=solvedX_near (sysOk_of h.ways_sys) hw
 have md:=solvedX_near (sysOk_of h.dirs_sys) hd
 have lw:=solvedX_len h.ways_sys hw
 have ld:=solvedX_len h.dirs_sys hd
 have ew:waysN A B p=(A.n+1)+(B.n+1)-(p.b.hi-p.b.lo+1):=rfl
 have ed:dirsN A B p=A.n+B.n-(p.b.hi-1-p.b.lo+1):=rfl
 unfold placeX
 simp only
 refine plcB_true h0 (fun k r hk4 hkr=> ?_) (fun m hm1=> ?_)
 · unfold rowsL at hkr
   match k,hk4,hkr with
   | 0,_,hkr=>
     obtain rfl:(A.n+1,A.ways,(plcW A B p).take (A.n+1).toNat)=r:=by simpa using hkr
     refine rowK_mk (by rw [List.length_take];unfold plcW;omega) (fun v hv=>by have:=mw v (List.mem_of_mem_take hv);omega) (fun b hb=> ?_)
     have hb':=wrongB_no.1 (A4 b hb)
     rw [take_get hb'.2.2.1 (by omega),take_get hb'.1 (by omega)]
     exact kw b (by unfold waysB jointB;exact List.mem_append_left _ hb)
   | 1,_,hkr=>
     obtain rfl:(B.n+1,B.ways,partL (plcW A B p) (A.n+1) p.b.lo p.b.hi p.a.lo (-1) (B.n+1).toNat)=r:=by simpa using hkr
     refine rowK_mk (by rw [partL_len];omega) (fun v hv=> ?_) (fun b hb=> ?_)
     · unfold partL at hv
       obtain ⟨i,_,rfl⟩:=List.mem_map.1 hv
       have:=nw (whereF (A.n+1) p.b.lo p.b.hi p.a.lo (i:Int))
       unfold plcW
       omega
     · have hb':=wrongB_no.1 (B4 b hb)
       rw [partL_get hb'.2.2.1 (by omega),partL_get hb'.1 (by omega)]
       have:=kw (placeB (A.n+1) p.b.lo p.b.hi p.a.lo true b) (by unfold waysB jointB;exact List.mem_append_right _ (List.mem_map_of_mem hb))
       unfold placeB at this
       simp only [if_true] at this
       unfold plcW gI
       omega
   | 2,_,hkr=>
     obtain rfl:(A.n,A.turns,(plcD A B p).take A.n.toNat)=r:=by simpa using hkr
     refine rowK_mk (by rw [List.length_take];unfold plcD;omega) (fun v hv=>by have:=md v (List.mem_of_mem_take hv);omega) (fun b hb=> ?_)
     have hb':=wrongB_no.1 (C4 b hb)
     rw [take_get hb'.2.2.1 (by omega),take_get hb'.1 (by omega)]
     exact kd b (by unfold dirsB jointB;exact List.mem_append_left _ hb)
   | 3,_,hkr=>
     obtain rfl:(B.n,B.turns,partL (plcD A B p) A.n p.b.lo (p.b.hi-1) p.a.lo 1 B.n.toNat)=r:=by simpa using hkr
     refine rowK_mk (by rw [partL_len];omega) (fun v hv=> ?_) (fun b hb=> ?_)
     · unfold partL at hv
       obtain ⟨i,_,rfl⟩:=List.mem_map.1 hv
       have:=nd (whereF A.n p.b.lo (p.b.hi-1) p.a.lo (i:Int))
       unfold plcD
       omega
     · have hb':=wrongB_no.1 (D4 b hb)
       rw [partL_get hb'.2.2.1 (by omega),partL_get hb'.1 (by omega)]
       have:=kd (placeB A.n p.b.lo (p.b.hi-1) p.a.lo false b) (by unfold dirsB jointB;exact List.mem_append_right _ (List.mem_map_of_mem hb))
       unfold placeB at this
       simp only [Bool.false_eq_true,if_false] at this
       unfold plcD gI
       omega
 · unfold roundB roundW roundD
   rw [Bool.and_eq_true,Bool.or_eq_true,Bool.not_eq_true',decide_eq_false_iff_not,decide_eq_true_eq,decide_eq_true_eq]
   constructor
   · rw [take_get (by omega) (by omega),take_get (by omega) (by omega),partL_get (by omega) (by omega),partL_get (by omega) (by omega)]
     rw [show whereF (A.n+1) p.b.lo p.b.hi p.a.lo p.b.hi=p.a.lo+p.b.hi-p.b.hi from if_pos ⟨by omega,by omega⟩,show whereF (A.n+1) p.b.lo p.b.hi p.a.lo (p.b.hi-(m:Int))=p.a.lo+p.b.hi-(p.b.hi-m) from if_pos ⟨by omega,by omega⟩,show p.a.lo+p.b.hi-p.b.hi=p.a.lo from by omega,show p.a.lo+p.b.hi-(p.b.hi-(m:Int))=p.a.lo+m from by omega]
     omega
   · by_cases hmk:(m:Int)<p.a.hi-p.a.lo
     · right
       rw [take_get (by omega) (by omega),take_get (by omega) (by omega),partL_get (by omega) (by omega),partL_get (by omega) (by omega)]
       rw [show whereF A.n p.b.lo (p.b.hi-1) p.a.lo (p.b.hi-1)=p.a.lo+(p.b.hi-1)-(p.b.hi-1) from if_pos ⟨by omega,by omega⟩,show whereF A.n p.b.lo (p.b.hi-1) p.a.lo (p.b.hi-1-(m:Int))=p.a.lo+(p.b.hi-1)-(p.b.hi-1-m) from if_pos ⟨by omega,by omega⟩,show p.a.lo+(p.b.hi-1)-(p.b.hi-1)=p.a.lo from by omega,show p.a.lo+(p.b.hi-1)-(p.b.hi-1-(m:Int))=p.a.lo+m from by omega]
       omega
     · exact .inl hmk
theorem place_law (h:AskOk A B p):plcB A B p (placeV A B p).1 (placeV A B p).2.1 (placeV A B p).2.2.1 (placeV A B p).2.2.2=meetsV A B p:=by
 cases hm:meetsV A B p with
 | true=>
   have e:placeV A B p=placeX A B p:=by unfold placeV;exact if_pos ⟨askedErr_zero.2 h,hm⟩
   rw [e]
   exact place_ok h hm
 | false=>
   rw [←Bool.not_eq_true]
   intro hh
   rw [plc_meets hh] at hm
   cases hm
end
section
variable {W:World} {k:Nat} {x0 x1 x2 x3:Value} {t:TypeId}
theorem four_set (v0 v1 v2 v3:Value) (h:W.heap[k]? = some (.cells #[x0,x1,x2,x3] t (0,0))):((((W.setCell ⟨k,0,none⟩ v0).setCell ⟨k,1,none⟩ v1).setCell ⟨k,2,none⟩ v2).setCell ⟨k,3,none⟩ v3).heap[k]? = some (.cells #[v0,v1,v2,v3] t (0,0)):=by
 rw [heap_setCell_obj (heap_setCell_obj (heap_setCell_obj (heap_setCell_obj h)))];rfl
theorem four_below {B:Nat} {w:World} (v0 v1 v2 v3:Value) (h:Below B w W) (hk:B≤k):Below B w ((((W.setCell ⟨k,0,none⟩ v0).setCell ⟨k,1,none⟩ v1).setCell ⟨k,2,none⟩ v2).setCell ⟨k,3,none⟩ v3):=
 (((h.setCell (p:=⟨k,0,none⟩) hk _).setCell (p:=⟨k,1,none⟩) hk _).setCell (p:=⟨k,2,none⟩) hk _).setCell (p:=⟨k,3,none⟩) hk _
theorem four_own {B n c:Nat} {A:Option Addr} {xs:List Int} (v0 v1 v2 v3:Value) (hO:Own encInt 1 3 B W A n c xs) (h:W.heap[k]? = some (.cells #[x0,x1,x2,x3] t (0,0))) (ht:t≠3):Own encInt 1 3 B ((((W.setCell ⟨k,0,none⟩ v0).setCell ⟨k,1,none⟩ v1).setCell ⟨k,2,none⟩ v2).setCell ⟨k,3,none⟩ v3) A n c xs:=
 own_set (own_set (own_set (own_set hO h ht _) (heap_setCell_obj h) ht _) (heap_setCell_obj (heap_setCell_obj h)) ht _) (heap_setCell_obj (heap_setCell_obj (heap_setCell_obj h))) ht _
end
theorem Rd.takeI {w:World} {A:Option Addr} {n c:Nat} {xs:List Int} (h:Rd encInt 1 w A n c xs) {m:Nat} (hm:m≤n):Rd encInt 1 w A m c (xs.take m):=
 ⟨by rw [List.length_take,h.len];omega,by have:=h.big;omega,⟨by have:=h.cap.1;omega,h.cap.2⟩,fun h0=>by
   obtain ⟨b,off,e,hb,hc⟩:=h.at_ (by omega)
   refine ⟨b,off,e,hb,fun i x hx=>hc i x ?_⟩
   rw [List.getElem?_take] at hx
   split at hx
   · exact hx
   · cases hx⟩
def PlcR (B:Nat) (V:List Int×List Int×List Int×List Int) (u:Value) (W:World):Prop:=∃ A0 c0 A1 c1 A2 c2 A3 c3,u = .agg #[.slice A0 V.1.length c0,.slice A1 V.2.1.length c1,.slice A2 V.2.2.1.length c2,.slice A3 V.2.2.2.length c3]∧Own encInt 1 3 B W A0 V.1.length c0 V.1∧Own encInt 1 3 B W A1 V.2.1.length c1 V.2.1∧Own encInt 1 3 B W A2 V.2.2.1.length c2 V.2.2.1∧Own encInt 1 3 B W A3 V.2.2.2.length c3 V.2.2.2
theorem PlcR.none_ (B:Nat) (W:World):PlcR B ([],[],[],[]) (.agg #[.slice none 0 0,.slice none 0 0,.slice none 0 0,.slice none 0 0]) W:=⟨none,0,none,0,none,0,none,0,rfl,Own.none_ _ _ _ _ _,Own.none_ _ _ _ _ _,Own.none_ _ _ _ _ _,Own.none_ _ _ _ _ _⟩
theorem Place_any (A:Outl) (AwA:Option Addr) (Awn Awc:Nat) (AtA:Option Addr) (Atn Atc:Nat) (B:Outl) (BwA:Option Addr) (Bwn Bwc:Nat) (BtA:Option Addr) (Btn Btc:Nat) (p:Pairing) (w:World) (Aw:Rd encBound 4 w AwA Awn Awc A.ways) (At:Rd encBound 4 w AtA Atn Atc A.turns) (Bw:Rd encBound 4 w BwA Bwn Bwc B.ways) (Bt:Rd encBound 4 w BtA Btn Btc B.turns):
 Calls Tryz.prog 54 #[.agg #[.int .i64 A.n,.slice AwA Awn Awc,.slice AtA Atn Atc],.agg #[.int .i64 B.n,.slice BwA Bwn Bwc,.slice BtA Btn Btc],.agg #[.int .i64 p.a.lo,.int .i64 p.a.hi,.int .i64 p.b.lo,.int .i64 p.b.hi]] w fun e w'=> ∃ u,e = .returned (.tuple #[u,.bool (decide (askedErr A B p=0)&&meetsV A B p),.int .i64 (askedErr A B p)])∧Below w.heap.size w w'∧PlcR w.heap.size (placeV A B p) u w':=by
 obtain ⟨w1,hw1,hb1,hz1,hbx⟩:=boxABP w A AwA Awn Awc AtA Atn Atc B BwA Bwn Bwc BtA Btn Btc p
 obtain ⟨w2,a2,b2,z2,e2⟩:=alloc_facts w1 #[.slice none 0 0,.slice none 0 0,.slice none 0 0,.slice none 0 0] 31
 have KX:=Lib.hid hbx
 have RA:Hid (∀ W,Below w1.heap.size w1 W→Rd encBound 4 W AwA Awn Awc A.ways):=(show ∀ W,_→_ from fun W h=>(Aw.below hb1 (Nat.le_refl _)).below h (Nat.le_refl _))
 have RT:Hid (∀ W,Below w1.heap.size w1 W→Rd encBound 4 W AtA Atn Atc A.turns):=(show ∀ W,_→_ from fun W h=>(At.below hb1 (Nat.le_refl _)).below h (Nat.le_refl _))
 have RB:Hid (∀ W,Below w1.heap.size w1 W→Rd encBound 4 W BwA Bwn Bwc B.ways):=(show ∀ W,_→_ from fun W h=>(Bw.below hb1 (Nat.le_refl _)).below h (Nat.le_refl _))
 have RU:Hid (∀ W,Below w1.heap.size w1 W→Rd encBound 4 W BtA Btn Btc B.turns):=(show ∀ W,_→_ from fun W h=>(Bt.below hb1 (Nat.le_refl _)).below h (Nat.le_refl _))
 have K1:=Lib.hid (fun W (h:Below w1.heap.size w1 W)=>asked_any A AwA Awn Awc AtA Atn Atc B BwA Bwn Bwc BtA Btn Btc p W (RA.out W h) (RT.out W h) (RB.out W h) (RU.out W h))
 have HB1:=Lib.hid hb1
 have HB12:=Lib.hid b2
 have HW1:=Lib.hid hw1
 have HW2:=Lib.hid a2
 have HE2:=Lib.hid e2
 have Z2:=Lib.hid z2
 obtain ⟨xa0,xa1,xa2,xb0,xb1,xb2,xp0,xp1,xp2,xp3⟩:=KX.out w2 b2
 clear Aw At Bw Bt hb1 hbx hw1 a2 b2 e2
 by_cases h1:askedErr A B p=0
 case neg=>
  have hv:placeV A B p=([],[],[],[]):=by unfold placeV;rw [if_neg (fun h=>h1 h.1)]
  have hd:(decide (askedErr A B p=0)&&meetsV A B p)=false:=by rw [decide_eq_false h1,Bool.false_and]
  rw [hv,hd]
  have h1':(askedErr A B p != 0)=true:=by simpa using h1
  clear h1 hv hd
  generalize askedErr A B p=er at *
  go_enter Tryz.func54,Tryz.ntmps54
  go_wp2_with (first
   | rw [HW1.out]
   | rw [HW2.out]
   | (go_at_call 61;(with_reducible refine (K1.out _ HB12.out).mono ?_);rintro e w3 ⟨rfl,hb3⟩
      obtain ⟨w4,a4,b4,z4,e4⟩:=alloc_facts w3 #[.int .i64 A.n,.slice AwA Awn Awc,.slice AtA Atn Atc,.int .i64 B.n,.slice BwA Bwn Bwc,.slice BtA Btn Btc,.int .i64 p.a.lo,.int .i64 p.a.hi,.int .i64 p.b.lo,.int .i64 p.b.hi] 91
      have hz3:=hb3.size
      have hh:=((b4.block w1.heap.size (by omega)).trans (hb3.block w1.heap.size (by omega))).trans HE2.out
      have HB4:=Lib.hid (HB12.out.trans ((hb3.trans (b4.mono hb3.size)).mono HB12.out.size))
      have HH:=Lib.hid hh
      have HA4:=Lib.hid a4
      have HE4:=Lib.hid e4
      have Z4:Hid (w4.heap.size=w3.heap.size+1):=(show _=_ from z4)
      have Z3:Hid (w2.heap.size≤w3.heap.size):=(show _≤_ from hz3)
      obtain ⟨t0,t1,t2,t3,t4,t5,t6,t7,t8,t9⟩:=ten_cells e4
      have f0:w4.cell? ⟨w1.heap.size,0,none⟩=some (.slice none 0 0):=(by simp [World.cell?,hh])
      have f1:w4.cell? ⟨w1.heap.size,1,none⟩=some (.slice none 0 0):=(by simp [World.cell?,hh])
      have f2:w4.cell? ⟨w1.heap.size,2,none⟩=some (.slice none 0 0):=(by simp [World.cell?,hh])
      have f3:w4.cell? ⟨w1.heap.size,3,none⟩=some (.slice none 0 0):=(by simp [World.cell?,hh])
      have g0:w4.frozen? ⟨w1.heap.size,0,none⟩=false:=(by simp [World.frozen?,hh])
      have g1:w4.frozen? ⟨w1.heap.size,1,none⟩=false:=(by simp [World.frozen?,hh])
      have g2:w4.frozen? ⟨w1.heap.size,2,none⟩=false:=(by simp [World.frozen?,hh])
      have g3:w4.frozen? ⟨w1.heap.size,3,none⟩=false:=(by simp [World.frozen?,hh])
      rw [hz1] at f0 f1 f2 f3 g0 g1 g2 g3
      clear hb3 hh a4 b4 z4 e4 hz3)
   | rw [HA4.out])
  have HH':=HH.out
  rw [hz1] at HH'
  refine bodyPost_ret (results_ctt rfl _ _ (w.heap.size+1+1+1) _ _ (0,0) _ rfl (four_set _ _ _ _ HH') Tryz.underlying31 rfl (by kernel_rfl)) rfl ?_
  exact ⟨_,rfl,four_below _ _ _ _ (HB1.out.trans (HB4.out.mono HB1.out.size)) (by omega),PlcR.none_ _ _⟩
 case pos=>
  have hok:=askedErr_zero.1 h1
  have r1:=hok.r1
  have r2:=hok.r2
  have l1:=(RA.out w1 (Below.refl _ _)).len;have l2:=(RT.out w1 (Below.refl _ _)).len;have l3:=(RB.out w1 (Below.refl _ _)).len;have l4:=(RU.out w1 (Below.refl _ _)).len
  have K2:=Lib.hid (fun W (hw:Below w1.heap.size w1 W)=>psystems_any A AwA Awn Awc AtA Atn Atc B BwA Bwn Bwc BtA Btn Btc p W (RA.out W hw) (RT.out W hw) (RB.out W hw) (RU.out W hw) hok.toPairOk)
  have hN1:Awn+Bwn≤400:=by omega
  have hN2:Atn+Btn≤400:=by omega
  have hs1:=Lib.hid hok.ways_sys
  have hs2:=Lib.hid hok.dirs_sys
  have HSW:=Lib.hid (fun (A1:Option Addr) (c1:Nat) W (h1:Rd encBound 4 W A1 (Awn+Bwn) c1 (waysB A B p))=>Solve_any (waysN A B p) A1 (Awn+Bwn) c1 (waysB A B p) W h1 hs1.out)
  have HSD:=Lib.hid (fun (A2:Option Addr) (c2:Nat) W (h2:Rd encBound 4 W A2 (Atn+Btn) c2 (dirsB A B p))=>Solve_any (dirsN A B p) A2 (Atn+Btn) c2 (dirsB A B p) W h2 hs2.out)
  by_cases hm:meetsV A B p=true
  case neg=>
   have hv:placeV A B p=([],[],[],[]):=by unfold placeV;rw [if_neg (fun h=>hm h.2)]
   have hd:(decide (askedErr A B p=0)&&meetsV A B p)=false:=by rw [Bool.not_eq_true] at hm;rw [hm,Bool.and_false]
   rw [hv,hd]
   have hm':(solvedOk (waysN A B p) (waysB A B p)&&solvedOk (dirsN A B p) (dirsB A B p))=false:=by rw [Bool.not_eq_true] at hm;exact hm
   rw [h1] at K1 ⊢
   clear h1 hv hd hm l1 l2 l3 l4 hok r1 r2
   generalize solvedX (waysN A B p) (waysB A B p)=xw at *
   generalize solvedX (dirsN A B p) (dirsB A B p)=xd at *
   generalize solvedOk (waysN A B p) (waysB A B p)=o1 at *
   generalize solvedOk (dirsN A B p) (dirsB A B p)=o2 at *
   generalize waysN A B p=n1 at *
   generalize waysB A B p=b1 at *
   generalize dirsN A B p=n2 at *
   generalize dirsB A B p=b2 at *
   cases o1<;>cases o2
   case true.true=>cases hm'
   all_goals (
    clear hm'
    go_enter Tryz.func54,Tryz.ntmps54
    go_wp2_with (first
     | rw [HW1.out]
     | rw [HW2.out]
     | (go_at_call 61;(with_reducible refine (K1.out _ HB12.out).mono ?_);rintro e w3 ⟨rfl,hb3⟩
        obtain ⟨w4,a4,b4,z4,e4⟩:=alloc_facts w3 #[.int .i64 A.n,.slice AwA Awn Awc,.slice AtA Atn Atc,.int .i64 B.n,.slice BwA Bwn Bwc,.slice BtA Btn Btc,.int .i64 p.a.lo,.int .i64 p.a.hi,.int .i64 p.b.lo,.int .i64 p.b.hi] 91
        have hz3:=hb3.size
        have hh:=((b4.block w1.heap.size (by omega)).trans (hb3.block w1.heap.size (by omega))).trans HE2.out
        have HB4:=Lib.hid (HB12.out.trans ((hb3.trans (b4.mono hb3.size)).mono HB12.out.size))
        have HH:=Lib.hid hh
        have HA4:=Lib.hid a4
        have HE4:=Lib.hid e4
        have Z4:Hid (w4.heap.size=w3.heap.size+1):=(show _=_ from z4)
        have Z3:Hid (w2.heap.size≤w3.heap.size):=(show _≤_ from hz3)
        obtain ⟨t0,t1,t2,t3,t4,t5,t6,t7,t8,t9⟩:=ten_cells e4
        clear hb3 hh a4 b4 z4 e4 hz3)
     | rw [HA4.out]
     | (go_at_call 72;(with_reducible refine (K2.out _ HB4.out).mono ?_);rintro e w5 ⟨A1,c1,A2,c2,rfl,hb5,hr1,hr2⟩
        obtain ⟨w6,a6,b6,z6,e6⟩:=alloc_facts w5 #[.int .i64 n1,.slice A1 (Awn+Bwn) c1,.int .i64 n2,.slice A2 (Atn+Btn) c2] 103
        have hz5:=hb5.size
        have hb45:=HB4.out.trans (hb5.mono HB4.out.size)
        have hb56:=hb45.trans (b6.mono hb45.size)
        have HR1:=Lib.hid ((hr1.rd (RA.out w5 hb45) (by omega)).below b6 (Nat.le_refl _))
        have HR2:=Lib.hid ((hr2.rd (RT.out w5 hb45) (by omega)).below b6 (Nat.le_refl _))
        have HB6:=Lib.hid hb56
        have HH6:=Lib.hid (((b6.block w1.heap.size (by have:=Z4.out;have:=Z3.out;have:=Z2.out;omega)).trans (hb5.block w1.heap.size (by have:=Z4.out;have:=Z3.out;have:=Z2.out;omega))).trans HH.out)
        have HA6:=Lib.hid a6
        have HE6:=Lib.hid e6
        have Z6:Hid (w6.heap.size=w5.heap.size+1):=(show _=_ from z6)
        have Z5:Hid (w4.heap.size≤w5.heap.size):=(show _≤_ from hz5)
        obtain ⟨d0,d1,d2,d3⟩:w6.cell? ⟨w5.heap.size,0,none⟩=some (.int .i64 n1)∧w6.cell? ⟨w5.heap.size,1,none⟩=some (.slice A1 (Awn+Bwn) c1)∧w6.cell? ⟨w5.heap.size,2,none⟩=some (.int .i64 n2)∧w6.cell? ⟨w5.heap.size,3,none⟩=some (.slice A2 (Atn+Btn) c2):=(by simp [World.cell?,e6])
        clear hb5 hr1 hr2 a6 b6 z6 e6 hz5 hb45 hb56)
     | rw [HA6.out]
     | (go_at_call 108;(with_reducible refine (HSW.out A1 c1 _ HR1.out).mono ?_);rintro e w7 ⟨A7,c7,rfl,hb7,ho7⟩
        have HB7:=Lib.hid hb7
        have HO7:=Lib.hid ho7
        obtain ⟨k0,k1,k2,k3⟩:w7.cell? ⟨w5.heap.size,0,none⟩=some (.int .i64 n1)∧w7.cell? ⟨w5.heap.size,1,none⟩=some (.slice A1 (Awn+Bwn) c1)∧w7.cell? ⟨w5.heap.size,2,none⟩=some (.int .i64 n2)∧w7.cell? ⟨w5.heap.size,3,none⟩=some (.slice A2 (Atn+Btn) c2):=(by
         have hh:=(hb7.block w5.heap.size (by have:=Z6.out;omega)).trans HE6.out
         simp [World.cell?,hh])
        clear hb7 ho7)
     | (go_at_call 108;(with_reducible refine (HSD.out A2 c2 _ (HR2.out.below HB7.out (Nat.le_refl _))).mono ?_);rintro e w8 ⟨A8,c8,rfl,hb8,ho8⟩
        have HB8:=Lib.hid (HB7.out.trans (hb8.mono HB7.out.size))
        have HO7':=Lib.hid (HO7.out.below hb8 (Nat.le_refl _))
        have HO8:=Lib.hid (ho8.mono HB7.out.size)
        have HBZ:=Lib.hid (HB1.out.trans ((HB6.out.trans (HB8.out.mono HB6.out.size)).mono HB1.out.size))
        have hh:=(HB8.out.block w1.heap.size (by have:=Z6.out;have:=Z5.out;have:=Z4.out;have:=Z3.out;have:=Z2.out;omega)).trans HH6.out
        rw [hz1] at hh
        have HHZ:=Lib.hid hh
        obtain ⟨f0,f1,f2,f3,g0,g1,g2,g3⟩:w8.cell? ⟨w.heap.size+1+1+1,0,none⟩=some (.slice none 0 0)∧w8.cell? ⟨w.heap.size+1+1+1,1,none⟩=some (.slice none 0 0)∧w8.cell? ⟨w.heap.size+1+1+1,2,none⟩=some (.slice none 0 0)∧w8.cell? ⟨w.heap.size+1+1+1,3,none⟩=some (.slice none 0 0)∧w8.frozen? ⟨w.heap.size+1+1+1,0,none⟩=false∧w8.frozen? ⟨w.heap.size+1+1+1,1,none⟩=false∧w8.frozen? ⟨w.heap.size+1+1+1,2,none⟩=false∧w8.frozen? ⟨w.heap.size+1+1+1,3,none⟩=false:=(by simp [World.cell?,World.frozen?,hh])
        obtain ⟨ya0,ya1,ya2,yb0,yb1,yb2,yp0,yp1,yp2,yp3⟩:=KX.out w8 (HB6.out.trans (HB8.out.mono HB6.out.size))
        clear hb8 ho8 hh))
    refine bodyPost_ret (results_ctt rfl _ _ (w.heap.size+1+1+1) _ _ (0,0) _ rfl (four_set _ _ _ _ HHZ.out) Tryz.underlying31 rfl (by kernel_rfl)) rfl ?_
    exact ⟨_,rfl,four_below _ _ _ _ HBZ.out (by omega),PlcR.none_ _ _⟩)
  case pos=>
   have hv:placeV A B p=placeX A B p:=by unfold placeV;rw [if_pos ⟨h1,hm⟩]
   have hd:(decide (askedErr A B p=0)&&meetsV A B p)=true:=by rw [decide_eq_true h1,hm];rfl
   rw [hv,hd]
   obtain ⟨ho1,ho2⟩:solvedOk (waysN A B p) (waysB A B p)=true∧solvedOk (dirsN A B p) (dirsB A B p)=true:=by unfold meetsV at hm;rwa [Bool.and_eq_true] at hm
   have HLW:=Lib.hid (solvedX_len hs1.out ho1)
   have HLD:=Lib.hid (solvedX_len hs2.out ho2)
   have HNW:=Lib.hid (solvedX_near (sysOk_of hs1.out) ho1)
   have HND:=Lib.hid (solvedX_near (sysOk_of hs2.out) ho2)
   have HOK:=Lib.hid hok
   obtain ⟨m,HMA⟩:∃ m:Nat,Hid (A.n=m):=⟨A.n.toNat,(show _=_ from by have:=(checkOut_zero.1 hok.a).1;omega)⟩
   have HPX:Hid (placeX A B p=((solvedX (waysN A B p) (waysB A B p)).take (m+1),partL (solvedX (waysN A B p) (waysB A B p)) (A.n+1) p.b.lo p.b.hi p.a.lo (-1) (B.n+1).toNat,(solvedX (dirsN A B p) (dirsB A B p)).take m,partL (solvedX (dirsN A B p) (dirsB A B p)) A.n p.b.lo (p.b.hi-1) p.a.lo 1 B.n.toNat)):=(show _=_ from by have h0:=HMA.out;unfold placeX plcW plcD;rw [show (A.n+1).toNat=m+1 from by omega,show A.n.toNat=m from by omega])
   rw [HPX.out]
   rw [h1] at K1 ⊢
   rw [ho1] at HSW
   rw [ho2] at HSD
   clear h1 hv hd hm l1 l2 l3 l4 hok r1 r2 ho1 ho2 HPX
   have EN1:Hid (waysN A B p=jointN (A.n+1) (B.n+1) p.b.lo p.b.hi):=(show _=_ from rfl)
   have EN2:Hid (dirsN A B p=jointN A.n B.n p.b.lo (p.b.hi-1)):=(show _=_ from rfl)
   generalize solvedX (waysN A B p) (waysB A B p)=xw at *
   generalize solvedX (dirsN A B p) (dirsB A B p)=xd at *
   generalize waysN A B p=n1 at *
   generalize waysB A B p=b1 at *
   generalize dirsN A B p=n2 at *
   generalize dirsB A B p=b2 at *
   go_enter Tryz.func54,Tryz.ntmps54
   go_upto_region 10 with (first
    | rw [HW1.out]
    | rw [HW2.out]
    | (go_at_call 61;(with_reducible refine (K1.out _ HB12.out).mono ?_);rintro e w3 ⟨rfl,hb3⟩
       obtain ⟨w4,a4,b4,z4,e4⟩:=alloc_facts w3 #[.int .i64 A.n,.slice AwA Awn Awc,.slice AtA Atn Atc,.int .i64 B.n,.slice BwA Bwn Bwc,.slice BtA Btn Btc,.int .i64 p.a.lo,.int .i64 p.a.hi,.int .i64 p.b.lo,.int .i64 p.b.hi] 91
       have hz3:=hb3.size
       have hh:=((b4.block w1.heap.size (by omega)).trans (hb3.block w1.heap.size (by omega))).trans HE2.out
       have HB4:=Lib.hid (HB12.out.trans ((hb3.trans (b4.mono hb3.size)).mono HB12.out.size))
       have HH:=Lib.hid hh
       have HA4:=Lib.hid a4
       have HE4:=Lib.hid e4
       have Z4:Hid (w4.heap.size=w3.heap.size+1):=(show _=_ from z4)
       have Z3:Hid (w2.heap.size≤w3.heap.size):=(show _≤_ from hz3)
       obtain ⟨t0,t1,t2,t3,t4,t5,t6,t7,t8,t9⟩:=ten_cells e4
       clear hb3 hh a4 b4 z4 e4 hz3)
    | rw [HA4.out]
    | (go_at_call 72;(with_reducible refine (K2.out _ HB4.out).mono ?_);rintro e w5 ⟨A1,c1,A2,c2,rfl,hb5,hr1,hr2⟩
       obtain ⟨w6,a6,b6,z6,e6⟩:=alloc_facts w5 #[.int .i64 n1,.slice A1 (Awn+Bwn) c1,.int .i64 n2,.slice A2 (Atn+Btn) c2] 103
       have hz5:=hb5.size
       have hb45:=HB4.out.trans (hb5.mono HB4.out.size)
       have hb56:=hb45.trans (b6.mono hb45.size)
       have HR1:=Lib.hid ((hr1.rd (RA.out w5 hb45) (by omega)).below b6 (Nat.le_refl _))
       have HR2:=Lib.hid ((hr2.rd (RT.out w5 hb45) (by omega)).below b6 (Nat.le_refl _))
       have HB6:=Lib.hid hb56
       have HH6:=Lib.hid (((b6.block w1.heap.size (by have:=Z4.out;have:=Z3.out;have:=Z2.out;omega)).trans (hb5.block w1.heap.size (by have:=Z4.out;have:=Z3.out;have:=Z2.out;omega))).trans HH.out)
       have HA6:=Lib.hid a6
       have HE6:=Lib.hid e6
       have Z6:Hid (w6.heap.size=w5.heap.size+1):=(show _=_ from z6)
       have Z5:Hid (w4.heap.size≤w5.heap.size):=(show _≤_ from hz5)
       obtain ⟨d0,d1,d2,d3⟩:w6.cell? ⟨w5.heap.size,0,none⟩=some (.int .i64 n1)∧w6.cell? ⟨w5.heap.size,1,none⟩=some (.slice A1 (Awn+Bwn) c1)∧w6.cell? ⟨w5.heap.size,2,none⟩=some (.int .i64 n2)∧w6.cell? ⟨w5.heap.size,3,none⟩=some (.slice A2 (Atn+Btn) c2):=(by simp [World.cell?,e6])
       clear hb5 hr1 hr2 a6 b6 z6 e6 hz5 hb45 hb56)
    | rw [HA6.out]
    | (go_at_call 108;(with_reducible refine (HSW.out A1 c1 _ HR1.out).mono ?_);rintro e w7 ⟨A7,c7,rfl,hb7,ho7⟩
       have HB7:=Lib.hid hb7
       have HO7:=Lib.hid ho7
       obtain ⟨k0,k1,k2,k3⟩:w7.cell? ⟨w5.heap.size,0,none⟩=some (.int .i64 n1)∧w7.cell? ⟨w5.heap.size,1,none⟩=some (.slice A1 (Awn+Bwn) c1)∧w7.cell? ⟨w5.heap.size,2,none⟩=some (.int .i64 n2)∧w7.cell? ⟨w5.heap.size,3,none⟩=some (.slice A2 (Atn+Btn) c2):=(by
        have hh:=(hb7.block w5.heap.size (by have:=Z6.out;omega)).trans HE6.out
        simp [World.cell?,hh])
       clear hb7 ho7)
    | (go_at_call 108;(with_reducible refine (HSD.out A2 c2 _ (HR2.out.below HB7.out (Nat.le_refl _))).mono ?_);rintro e w8 ⟨A8,c8,rfl,hb8,ho8⟩
       have HB8:=Lib.hid (HB7.out.trans (hb8.mono HB7.out.size))
       have HO7':=Lib.hid (HO7.out.below hb8 (Nat.le_refl _))
       have HO8:=Lib.hid (ho8.mono HB7.out.size)
       have HBZ:=Lib.hid (HB1.out.trans ((HB6.out.trans (HB8.out.mono HB6.out.size)).mono HB1.out.size))
       have hh:=(HB8.out.block w1.heap.size (by have:=Z6.out;have:=Z5.out;have:=Z4.out;have:=Z3.out;have:=Z2.out;omega)).trans HH6.out
       rw [hz1] at hh
       have HHZ:=Lib.hid hh
       obtain ⟨f0,f1,f2,f3,g0,g1,g2,g3⟩:w8.cell? ⟨w.heap.size+1+1+1,0,none⟩=some (.slice none 0 0)∧w8.cell? ⟨w.heap.size+1+1+1,1,none⟩=some (.slice none 0 0)∧w8.cell? ⟨w.heap.size+1+1+1,2,none⟩=some (.slice none 0 0)∧w8.cell? ⟨w.heap.size+1+1+1,3,none⟩=some (.slice none 0 0)∧w8.frozen? ⟨w.heap.size+1+1+1,0,none⟩=false∧w8.frozen? ⟨w.heap.size+1+1+1,1,none⟩=false∧w8.frozen? ⟨w.heap.size+1+1+1,2,none⟩=false∧w8.frozen? ⟨w.heap.size+1+1+1,3,none⟩=false:=(by simp [World.cell?,World.frozen?,hh])
       obtain ⟨ya0,ya1,ya2,yb0,yb1,yb2,yp0,yp1,yp2,yp3⟩:=KX.out w8 (HB6.out.trans (HB8.out.mono HB6.out.size))
       clear hb8 ho8 hh))
   have HOK':=HOK.out
   have pa0:=HOK'.a0;have pa1:=HOK'.a1;have pa2:=HOK'.a2;have pb0:=HOK'.b0;have pb1:=HOK'.b1;have pb2:=HOK'.b2;have hk:=HOK'.k
   obtain ⟨cA1,cA2,cA3,cA4⟩:=checkOut_zero.1 HOK'.a
   obtain ⟨cB1,cB2,cB3,cB4⟩:=checkOut_zero.1 HOK'.b
   have hmA:=HMA.out
   have lw:=HLW.out
   have ld:=HLD.out
   have e1:=EN1.out
   have e2:=EN2.out
   unfold jointN at e1 e2
   have RW:Hid (∀ W,Below w8.heap.size w8 W→Rd encInt 1 W A7 xw.length c7 xw):=(show ∀ W,_→_ from fun W h=>(HO7'.out.rd (fun _=>rfl) (by omega)).below h (Nat.le_refl _))
   have RD:Hid (∀ W,Below w8.heap.size w8 W→Rd encInt 1 W A8 xd.length c8 xd):=(show ∀ W,_→_ from fun W h=>(HO8.out.rd (fun _=>rfl) (by omega)).below h (Nat.le_refl _))
   have BW:=HB6.out.trans (HB8.out.mono HB6.out.size)
   have cw:=(RW.out w8 (Below.refl _ _)).cap
   have cd:=(RD.out w8 (Below.refl _ _)).cap
   refine plc10 _ rfl (w.heap.size+1) (w.heap.size+1+1) (w.heap.size+1+1+1) m A7 A8 xw.length c7 xd.length c8 B.n p.a.lo p.a.hi p.b.lo p.b.hi (.slice BwA Bwn Bwc) (.slice BtA Btn Btc) _ w8 _ rfl rfl rfl rfl rfl rfl (by rw [←hmA];rfl) (B.n+1).toNat B.n.toNat (xw.take (m+1)) (partL xw (A.n+1) p.b.lo p.b.hi p.a.lo (-1) (B.n+1).toNat) (xd.take m) (partL xd A.n p.b.lo (p.b.hi-1) p.a.lo 1 B.n.toNat)
    (fun W hW=> ?_) (fun W hW=>⟨_,_,_,_,(hW.block (w.heap.size+1+1+1) (by have:=(Array.getElem?_eq_some_iff.1 HHZ.out).1;exact this)).trans HHZ.out⟩) (by omega) (by omega) cw.1 cd.1 cw.2 cd.2 (by omega) (by omega) (by omega) (fun W hW=> ?_) (fun W hW=> ?_) (fun W hW=> ?_) (fun W hW=> ?_) ?_
   · obtain ⟨_,_,_,q3,q4,q5,q6,q7,q8,q9⟩:=KX.out W (BW.trans (hW.mono BW.size))
     exact ⟨q3,q4,q5,q6,q7,q8,q9⟩
   · refine (Clone_Int A7 (m+1) c7 _ W ((RW.out W hW).takeI (by omega)) (by omega)).mono ?_
     rintro e w' ⟨A',c',rfl,ho,hb⟩
     exact ⟨A',c',rfl,hb,ho⟩
   · rw [show ((m:Int)+1)=A.n+1 from by omega]
     exact parted_any A7 xw.length c7 xw (A.n+1) (B.n+1) p.b.lo p.b.hi p.a.lo (-1) W (RW.out W hW) pb0 (by omega) (by omega) pa0 (by omega) (by omega) (by omega) (by unfold jointN;omega) (fun x hx=>by have:=HNW.out x hx;omega) (.inr rfl)
   · refine (Clone_Int A8 m c8 _ W ((RD.out W hW).takeI (by omega)) (by omega)).mono ?_
     rintro e w' ⟨A',c',rfl,ho,hb⟩
     exact ⟨A',c',rfl,hb,ho⟩
   · rw [show (m:Int)=A.n from by omega]
     exact parted_any A8 xd.length c8 xd A.n B.n p.b.lo (p.b.hi-1) p.a.lo 1 W (RD.out W hW) pb0 (by omega) (by omega) pa0 (by omega) (by omega) (by omega) (by unfold jointN;omega) (fun x hx=>by have:=HND.out x hx;omega) (.inl rfl)
   · intro A0 c0 A1' c1' A2' c2' A3 c3 z W hW o0 o1 o2 o3
     have HHW:=Lib.hid ((hW.block (w.heap.size+1+1+1) (by have:=(Array.getElem?_eq_some_iff.1 HHZ.out).1;exact this)).trans HHZ.out)
     have hle:=HBZ.out.size
     have HBW:=Lib.hid (HBZ.out.trans (hW.mono hle))
     have O0:=Lib.hid (o0.mono hle)
     have O1:=Lib.hid (o1.mono hle)
     have O2:=Lib.hid (o2.mono hle)
     have O3:=Lib.hid (o3.mono hle)
     clear hmA o0 o1 o2 o3 hW hle lw ld e1 e2 cw cd BW
     simp only [setsL,List.setIfInBounds_toArray,List.set_cons_succ,List.set_cons_zero,Nat.reduceAdd]
     go_wp2
     refine bodyPost_ret (results_ctt rfl _ _ (w.heap.size+1+1+1) _ _ (0,0) _ rfl (four_set _ _ _ _ HHW.out) Tryz.underlying31 rfl (by kernel_rfl)) rfl ?_
     refine ⟨_,rfl,four_below _ _ _ _ HBW.out (by omega),A0,c0,A1',c1',A2',c2',A3,c3,?_,?_,?_,?_,?_⟩
     · simp only [partL_len,List.length_take]
       rw [show min (m+1) xw.length=m+1 from by have:=HMA.out;have:=HLW.out;have:=EN1.out;unfold jointN at this;omega,show min m xd.length=m from by have:=HMA.out;have:=HLD.out;have:=EN2.out;unfold jointN at this;omega]
     · rw [show (xw.take (m+1)).length=m+1 from by rw [List.length_take];have:=HMA.out;have:=HLW.out;have:=EN1.out;unfold jointN at this;omega]
       exact four_own _ _ _ _ O0.out HHW.out (by decide)
     · rw [partL_len]
       exact four_own _ _ _ _ O1.out HHW.out (by decide)
     · rw [show (xd.take m).length=m from by rw [List.length_take];have:=HMA.out;have:=HLD.out;have:=EN2.out;unfold jointN at this;omega]
       exact four_own _ _ _ _ O2.out HHW.out (by decide)
     · rw [partL_len]
       exact four_own _ _ _ _ O3.out HHW.out (by decide)
end Go.Proofs.YtccabpahfmoamaaGreat
end

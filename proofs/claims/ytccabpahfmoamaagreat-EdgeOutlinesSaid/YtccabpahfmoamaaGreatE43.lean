/- Contracts that the laws lean on: OutR, CFl, SmO. -/
import Derived.Test.YtccabpahfmoamaaGreatE06
import Derived.Test.YtccabpahfmoamaaGreatE07
import Derived.Test.YtccabpahfmoamaaGreatE42
import Derived.Test.YtccabpahfmoamaaGreatE16
import Derived.Test.YtccabpahfmoamaaGreatE14
import Derived.Test.YtccabpahfmoamaaGreatE18
import Derived.Test.YtccabpahfmoamaaGreatE19
import Derived.Test.YtccabpahfmoamaaGreatE38
section
namespace Go.Proofs.YtccabpahfmoamaaGreat
open Go.RowKit Go.Proofs Go.Shelf
def codeCfl4:Option Code→Code
 | some (.seq _ (.seq _ (.seq c _)))=>c
 | _=> .skip
def Tcfl4 (_ b3:Nat) (an:Int) (aw at_ tn sl:Value) (sv:Value) (r:Bool):List Value:=
 [.agg #[.int .i64 an,aw,at_],.agg #[.int .i64 (an+1),aw],.agg #[.int .i64 an,aw,at_],.agg #[.int .i64 an,at_],.agg #[.int .i64 (an+1),aw,.int .i64 an,at_],.agg #[tn,sl],sv,.pointer (some ⟨b3,0+1,none⟩),sl,.tuple #[.bool r,.int .i64 0],.bool r,.int .i64 0,.bool r,.int .i64 0]
set_option maxRecDepth 100000 in
set_option maxHeartbeats 4000000 in
theorem cfl4 (cC:Code) (hc:cC=codeCfl4 Tryz.f33.body) (b2 b3:Nat) (an:Int) (aw at_ tn sl:Value) (sv:Value) (r:Bool) (a:Act) (w:World) (Q:Exit→Act→World→Prop)
 (hT:a.tmps.size=24) (t2:a.tmps.getD 2 undef = .pointer (some ⟨b2,0,none⟩)) (t3:a.tmps.getD 3 undef = .pointer (some ⟨b3,0,none⟩))
 (CE:∀ W,Below w.heap.size w W→W.cell? ⟨b2,0,none⟩=some (.int .i64 an)∧W.cell? ⟨b2,1,none⟩=some (aw)∧W.cell? ⟨b2,2,none⟩=some (at_)∧W.cell? ⟨b3,0,none⟩=some (tn)∧W.cell? ⟨b3,1,none⟩=some (sl))
 (C1:∀ W,Below w.heap.size w W→Calls Tryz.prog 62 #[.agg #[.int .i64 an,aw,at_]] W fun e w'=>e = .returned (.agg #[.int .i64 (an+1),aw])∧Below W.heap.size W w')
 (C2:∀ W,Below w.heap.size w W→Calls Tryz.prog 63 #[.agg #[.int .i64 an,aw,at_]] W fun e w'=>e = .returned (.agg #[.int .i64 an,at_])∧Below W.heap.size W w')
 (C3:∀ W,Below w.heap.size w W→Calls Tryz.prog 71 #[.agg #[.int .i64 (an+1),aw,.int .i64 an,at_],.agg #[tn,sl]] W fun e w'=>e = .returned (sv)∧Below W.heap.size W w')
 (C4:∀ W,Below w.heap.size w W→Calls Tryz.prog 70 #[sv,sl] W fun e w'=>e = .returned (.tuple #[.bool r,.int .i64 0])∧Below W.heap.size W w')
 (hQ:∀ W,Below w.heap.size w W→Q .normal { tmps:=setsL (setsL (a.tmps) 12 [.agg #[.int .i64 an,aw,at_],.agg #[.int .i64 (an+1),aw],.agg #[.int .i64 an,aw,at_],.agg #[.int .i64 an,at_],.agg #[.int .i64 (an+1),aw,.int .i64 an,at_],.agg #[tn,sl],sv,.pointer (some ⟨b3,0+1,none⟩),sl,.tuple #[.bool r,.int .i64 0],.bool r,.int .i64 0]) 4 [.bool r,.int .i64 0],defers:=a.defers } W):
 cC.wp Tryz.prog Q a w:=by
 subst hc
 unfold codeCfl4 Tryz.f33
 dsimp only
 refine wpIn_wide.1 (wpIn_region_flow (nn:=5) 24 (by kernel_rfl) (by kernel_rfl) (by kernel_rfl) hT (fun i=>(Tcfl4 b2 b3 an aw at_ tn sl sv r).getD i undef) (fun W=>Below w.heap.size w W) ((Below.refl _ _).drew) (fun b hE hold=> ?_) hQ)
 clear hQ
 have q2:=hold 2 _ (by kernel_rfl) t2
 have q3:=hold 3 _ (by kernel_rfl) t3
 simp only [factsL,Tcfl4,List.getD_cons_zero,List.getD_cons_succ,Nat.reduceAdd] at hE
 repeat' first|exact steps_nil|refine steps_skip rfl rfl ?_|refine steps_go rfl ?_ ?_
 all_goals (intro W hW;have hWb:Below w.heap.size w W:=hW;obtain ⟨e0,e1,e2,e3,e4⟩:=CE W hWb;simp only [Tcfl4,List.getD_cons_zero,List.getD_cons_succ,Nat.reduceAdd])
 all_goals first
  | (refine .inl ?_;go_simp;done)
  | (refine .inl ?_;go_simp;rfl)
  | (refine .inr (.inr ⟨62,#[.agg #[.int .i64 an,aw,at_]],?_,(C1 W hWb).mono ?_⟩)
     · go_simp<;>done
     · rintro e w' ⟨rfl,hb'⟩;exact ⟨rfl,hWb.trans (hb'.mono hWb.size)⟩)
  | (refine .inr (.inr ⟨63,#[.agg #[.int .i64 an,aw,at_]],?_,(C2 W hWb).mono ?_⟩)
     · go_simp<;>done
     · rintro e w' ⟨rfl,hb'⟩;exact ⟨rfl,hWb.trans (hb'.mono hWb.size)⟩)
  | (refine .inr (.inr ⟨71,#[.agg #[.int .i64 (an+1),aw,.int .i64 an,at_],.agg #[tn,sl]],?_,(C3 W hWb).mono ?_⟩)
     · go_simp<;>done
     · rintro e w' ⟨rfl,hb'⟩;exact ⟨rfl,hWb.trans (hb'.mono hWb.size)⟩)
  | (refine .inr (.inr ⟨70,#[sv,sl],?_,(C4 W hWb).mono ?_⟩)
     · go_simp<;>done
     · rintro e w' ⟨rfl,hb'⟩;exact ⟨rfl,hWb.trans (hb'.mono hWb.size)⟩)
def codeR3cfl4:Option Code→Code
 | some (.seq _ (.seq _ (.seq _ (.seq c _))))=>c
 | _=> .skip
def Tr3cfl4 (_ b3:Nat) (an:Int) (aw at_ tn sl:Value) (sv:Value) (r:Bool):List Value:=
 [.agg #[.int .i64 an,aw,at_],.pointer (some ⟨b3,0,none⟩),tn,sv,.pointer (some ⟨b3,0+1,none⟩),sl,.tuple #[.bool r,.int .i64 0],.bool r,.int .i64 0,.bool r,.int .i64 0]
set_option maxRecDepth 100000 in
set_option maxHeartbeats 4000000 in
theorem r3cfl4 (cC:Code) (hc:cC=codeR3cfl4 Tryz.f34.body) (b2 b3:Nat) (an:Int) (aw at_ tn sl:Value) (sv:Value) (r:Bool) (a:Act) (w:World) (Q:Exit→Act→World→Prop)
 (hT:a.tmps.size=21) (t2:a.tmps.getD 2 undef = .pointer (some ⟨b2,0,none⟩)) (t3:a.tmps.getD 3 undef = .pointer (some ⟨b3,0,none⟩))
 (CE:∀ W,Below w.heap.size w W→W.cell? ⟨b2,0,none⟩=some (.int .i64 an)∧W.cell? ⟨b2,1,none⟩=some (aw)∧W.cell? ⟨b2,2,none⟩=some (at_)∧W.cell? ⟨b3,0,none⟩=some (tn)∧W.cell? ⟨b3,1,none⟩=some (sl))
 (C1:∀ W,Below w.heap.size w W→Calls Tryz.prog 88 #[.agg #[.int .i64 an,aw,at_],tn] W fun e w'=>e = .returned (sv)∧Below W.heap.size W w')
 (C2:∀ W,Below w.heap.size w W→Calls Tryz.prog 73 #[sv,sl] W fun e w'=>e = .returned (.tuple #[.bool r,.int .i64 0])∧Below W.heap.size W w')
 (hQ:∀ W,Below w.heap.size w W→Q .normal { tmps:=setsL (setsL (a.tmps) 12 [.agg #[.int .i64 an,aw,at_],.pointer (some ⟨b3,0,none⟩),tn,sv,.pointer (some ⟨b3,0+1,none⟩),sl,.tuple #[.bool r,.int .i64 0],.bool r,.int .i64 0]) 4 [.bool r,.int .i64 0],defers:=a.defers } W):
 cC.wp Tryz.prog Q a w:=by
 subst hc
 unfold codeR3cfl4 Tryz.f34
 dsimp only
 refine wpIn_wide.1 (wpIn_region_flow (nn:=5) 21 (by kernel_rfl) (by kernel_rfl) (by kernel_rfl) hT (fun i=>(Tr3cfl4 b2 b3 an aw at_ tn sl sv r).getD i undef) (fun W=>Below w.heap.size w W) ((Below.refl _ _).drew) (fun b hE hold=> ?_) hQ)
 clear hQ
 have q2:=hold 2 _ (by kernel_rfl) t2
 have q3:=hold 3 _ (by kernel_rfl) t3
 simp only [factsL,Tr3cfl4,List.getD_cons_zero,List.getD_cons_succ,Nat.reduceAdd] at hE
 repeat' first|exact steps_nil|refine steps_skip rfl rfl ?_|refine steps_go rfl ?_ ?_
 all_goals (intro W hW;have hWb:Below w.heap.size w W:=hW;obtain ⟨e0,e1,e2,e3,e4⟩:=CE W hWb;simp only [Tr3cfl4,List.getD_cons_zero,List.getD_cons_succ,Nat.reduceAdd])
 all_goals first
  | (refine .inl ?_;go_simp;done)
  | (refine .inl ?_;go_simp;rfl)
  | (refine .inr (.inr ⟨88,#[.agg #[.int .i64 an,aw,at_],tn],?_,(C1 W hWb).mono ?_⟩)
     · go_simp<;>done
     · rintro e w' ⟨rfl,hb'⟩;exact ⟨rfl,hWb.trans (hb'.mono hWb.size)⟩)
  | (refine .inr (.inr ⟨73,#[sv,sl],?_,(C2 W hWb).mono ?_⟩)
     · go_simp<;>done
     · rintro e w' ⟨rfl,hb'⟩;exact ⟨rfl,hWb.trans (hb'.mono hWb.size)⟩)
def codeOut7:Option Code→Code
 | some (.seq _ (.seq _ (.seq _ (.seq _ (.seq _ (.seq _ (.seq c _)))))))=>c
 | _=> .skip
def Tout7 (_ _ _ _ _:Nat) (an bn p0 p1 p2 p3 xn yn:Int) (aw at_ bw bt xw xt yw yt:Value) (ev cv pv:Int) (r:Bool):List Value:=
 [.bool true,.bool true,.agg #[.int .i64 an,aw,at_],.int .i64 cv,.agg #[.int .i64 an,aw,at_],.int .i64 cv,.bool true,.bool true,.bool true,.agg #[.int .i64 an,aw,at_],.agg #[.int .i64 bn,bw,bt],.agg #[.int .i64 p0,.int .i64 p1,.int .i64 p2,.int .i64 p3],.int .i64 pv,.agg #[.int .i64 an,aw,at_],.agg #[.int .i64 bn,bw,bt],.agg #[.int .i64 p0,.int .i64 p1,.int .i64 p2,.int .i64 p3],.int .i64 pv,.bool true,.bool true,.bool true,.int .i64 ev,.int .i64 ev,.bool true,.bool true,.bool true,.agg #[.int .i64 xn,xw,xt],.agg #[.int .i64 yn,yw,yt],.bool true,.bool true,.bool true,.bool (r),.bool (r),.bool true,.bool true,.bool true,.int .i64 cv,.int .i64 cv,.bool true,.bool true,.bool true]
set_option maxRecDepth 100000 in
set_option maxHeartbeats 4000000 in
theorem out7 (cC:Code) (hc:cC=codeOut7 Tryz.f8.body) (b6 b7 b8 b13 b15:Nat) (an bn p0 p1 p2 p3 xn yn:Int) (aw at_ bw bt xw xt yw yt:Value) (ev cv pv:Int) (r:Bool) (a:Act) (w:World) (Q:Exit→Act→World→Prop)
 (hT:a.tmps.size=101) (t6:a.tmps.getD 6 undef = .pointer (some ⟨b6,0,none⟩)) (t7:a.tmps.getD 7 undef = .pointer (some ⟨b7,0,none⟩)) (t8:a.tmps.getD 8 undef = .pointer (some ⟨b8,0,none⟩)) (t13:a.tmps.getD 13 undef = .pointer (some ⟨b13,0,none⟩)) (t14:a.tmps.getD 14 undef = .int .i64 ev) (t15:a.tmps.getD 15 undef = .pointer (some ⟨b15,0,none⟩)) (t16:a.tmps.getD 16 undef = .int .i64 ev) (t17:a.tmps.getD 17 undef = .bool (r)) (t18:a.tmps.getD 18 undef = .int .i64 cv) (t19:a.tmps.getD 19 undef = .bool (r)) (t20:a.tmps.getD 20 undef = .int .i64 cv)
 (CE:∀ W,Below w.heap.size w W→W.cell? ⟨b6,0,none⟩=some (.int .i64 an)∧W.cell? ⟨b6,1,none⟩=some (aw)∧W.cell? ⟨b6,2,none⟩=some (at_)∧W.cell? ⟨b7,0,none⟩=some (.int .i64 bn)∧W.cell? ⟨b7,1,none⟩=some (bw)∧W.cell? ⟨b7,2,none⟩=some (bt)∧W.cell? ⟨b8,0,none⟩=some (.int .i64 p0)∧W.cell? ⟨b8,1,none⟩=some (.int .i64 p1)∧W.cell? ⟨b8,2,none⟩=some (.int .i64 p2)∧W.cell? ⟨b8,3,none⟩=some (.int .i64 p3)∧W.cell? ⟨b13,0,none⟩=some (.int .i64 xn)∧W.cell? ⟨b13,1,none⟩=some (xw)∧W.cell? ⟨b13,2,none⟩=some (xt)∧W.cell? ⟨b15,0,none⟩=some (.int .i64 yn)∧W.cell? ⟨b15,1,none⟩=some (yw)∧W.cell? ⟨b15,2,none⟩=some (yt))
 (C1:∀ W,Below w.heap.size w W→Calls Tryz.prog 17 #[] W fun e w'=>e = .returned (.bool true)∧Below W.heap.size W w')
 (C2:∀ W,Below w.heap.size w W→Calls Tryz.prog 35 #[.agg #[.int .i64 an,aw,at_]] W fun e w'=>e = .returned (.int .i64 cv)∧Below W.heap.size W w')
 (C3:∀ W,Below w.heap.size w W→Calls Tryz.prog 36 #[.agg #[.int .i64 an,aw,at_]] W fun e w'=>e = .returned (.int .i64 cv)∧Below W.heap.size W w')
 (C4:∀ W,Below w.heap.size w W→Calls Tryz.prog 37 #[.agg #[.int .i64 an,aw,at_],.agg #[.int .i64 bn,bw,bt],.agg #[.int .i64 p0,.int .i64 p1,.int .i64 p2,.int .i64 p3]] W fun e w'=>e = .returned (.int .i64 pv)∧Below W.heap.size W w')
 (C5:∀ W,Below w.heap.size w W→Calls Tryz.prog 38 #[.agg #[.int .i64 an,aw,at_],.agg #[.int .i64 bn,bw,bt],.agg #[.int .i64 p0,.int .i64 p1,.int .i64 p2,.int .i64 p3]] W fun e w'=>e = .returned (.int .i64 pv)∧Below W.heap.size W w')
 (C6:∀ W,Below w.heap.size w W→Calls Tryz.prog 39 #[.agg #[.int .i64 xn,xw,xt],.agg #[.int .i64 yn,yw,yt]] W fun e w'=>e = .returned (.bool true)∧Below W.heap.size W w')
 (hQ:∀ W,Below w.heap.size w W→Q .normal { tmps:=(setsL (a.tmps) 62 [.bool true,.bool true,.agg #[.int .i64 an,aw,at_],.int .i64 cv,.agg #[.int .i64 an,aw,at_],.int .i64 cv,.bool true,.bool true,.bool true,.agg #[.int .i64 an,aw,at_],.agg #[.int .i64 bn,bw,bt],.agg #[.int .i64 p0,.int .i64 p1,.int .i64 p2,.int .i64 p3],.int .i64 pv,.agg #[.int .i64 an,aw,at_],.agg #[.int .i64 bn,bw,bt],.agg #[.int .i64 p0,.int .i64 p1,.int .i64 p2,.int .i64 p3],.int .i64 pv,.bool true,.bool true,.bool true,.int .i64 ev,.int .i64 ev,.bool true,.bool true,.bool true,.agg #[.int .i64 xn,xw,xt],.agg #[.int .i64 yn,yw,yt],.bool true,.bool true,.bool true,.bool (r),.bool (r),.bool true,.bool true,.bool true,.int .i64 cv,.int .i64 cv,.bool true,.bool true]).setIfInBounds 12 (.bool true),defers:=a.defers } W):
 cC.wp Tryz.prog Q a w:=by
 subst hc
 unfold codeOut7 Tryz.f8
 dsimp only
 refine wpIn_wide.1 (wpIn_region_flow (nn:=5) 101 (by kernel_rfl) (by kernel_rfl) (by kernel_rfl) hT (fun i=>(Tout7 b6 b7 b8 b13 b15 an bn p0 p1 p2 p3 xn yn aw at_ bw bt xw xt yw yt ev cv pv r).getD i undef) (fun W=>Below w.heap.size w W) ((Below.refl _ _).drew) (fun b hE hold=> ?_) hQ)
 clear hQ
 have s1:(cv==cv)=true:=(by simp)
 have s2:(pv==pv)=true:=(by simp)
 have s3:(ev==ev)=true:=(by simp)
 have s4:(r==r)=true:=(by simp)
 have q6:=hold 6 _ (by kernel_rfl) t6
 have q7:=hold 7 _ (by kernel_rfl) t7
 have q8:=hold 8 _ (by kernel_rfl) t8
 have q13:=hold 13 _ (by kernel_rfl) t13
 have q14:=hold 14 _ (by kernel_rfl) t14
 have q15:=hold 15 _ (by kernel_rfl) t15
 have q16:=hold 16 _ (by kernel_rfl) t16
 have q17:=hold 17 _ (by kernel_rfl) t17
 have q18:=hold 18 _ (by kernel_rfl) t18
 have q19:=hold 19 _ (by kernel_rfl) t19
 have q20:=hold 20 _ (by kernel_rfl) t20
 simp only [factsL,Tout7,List.getD_cons_zero,List.getD_cons_succ,Nat.reduceAdd] at hE
 repeat' first|exact steps_nil|refine steps_skip rfl rfl ?_|refine steps_go rfl ?_ ?_
 all_goals (intro W hW;have hWb:Below w.heap.size w W:=hW;obtain ⟨e0,e1,e2,e3,e4,e5,e6,e7,e8,e9,e10,e11,e12,e13,e14,e15⟩:=CE W hWb;simp only [Tout7,List.getD_cons_zero,List.getD_cons_succ,Nat.reduceAdd])
 all_goals first
  | (refine .inl ?_;go_simp;done)
  | (refine .inl ?_;go_simp;rfl)
  | (refine .inr (.inr ⟨17,#[],?_,(C1 W hWb).mono ?_⟩)
     · go_simp<;>done
     · rintro e w' ⟨rfl,hb'⟩;exact ⟨rfl,hWb.trans (hb'.mono hWb.size)⟩)
  | (refine .inr (.inr ⟨35,#[.agg #[.int .i64 an,aw,at_]],?_,(C2 W hWb).mono ?_⟩)
     · go_simp<;>done
     · rintro e w' ⟨rfl,hb'⟩;exact ⟨rfl,hWb.trans (hb'.mono hWb.size)⟩)
  | (refine .inr (.inr ⟨36,#[.agg #[.int .i64 an,aw,at_]],?_,(C3 W hWb).mono ?_⟩)
     · go_simp<;>done
     · rintro e w' ⟨rfl,hb'⟩;exact ⟨rfl,hWb.trans (hb'.mono hWb.size)⟩)
  | (refine .inr (.inr ⟨37,#[.agg #[.int .i64 an,aw,at_],.agg #[.int .i64 bn,bw,bt],.agg #[.int .i64 p0,.int .i64 p1,.int .i64 p2,.int .i64 p3]],?_,(C4 W hWb).mono ?_⟩)
     · go_simp<;>done
     · rintro e w' ⟨rfl,hb'⟩;exact ⟨rfl,hWb.trans (hb'.mono hWb.size)⟩)
  | (refine .inr (.inr ⟨38,#[.agg #[.int .i64 an,aw,at_],.agg #[.int .i64 bn,bw,bt],.agg #[.int .i64 p0,.int .i64 p1,.int .i64 p2,.int .i64 p3]],?_,(C5 W hWb).mono ?_⟩)
     · go_simp<;>done
     · rintro e w' ⟨rfl,hb'⟩;exact ⟨rfl,hWb.trans (hb'.mono hWb.size)⟩)
  | (refine .inr (.inr ⟨39,#[.agg #[.int .i64 xn,xw,xt],.agg #[.int .i64 yn,yw,yt]],?_,(C6 W hWb).mono ?_⟩)
     · go_simp<;>done
     · rintro e w' ⟨rfl,hb'⟩;exact ⟨rfl,hWb.trans (hb'.mono hWb.size)⟩)
end Go.Proofs.YtccabpahfmoamaaGreat
end
section
namespace Go.Proofs.YtccabpahfmoamaaGreat
open Go.RowKit Go.Proofs Go.Shelf
def flawL (A:Outl) (tn:Bool):List Bound:=if tn then A.turns else A.ways
def ownFlawB (A:Outl) (tn:Bool) (l:List Int):Bool:=decide (checkOut A=0)&&circleB (flawL A tn) l
set_option maxHeartbeats 2000000 in
theorem r3Own_any (A:Outl) (AwA:Option Addr) (Awn Awc:Nat) (AtA:Option Addr) (Atn Atc:Nat) (tn:Bool) (w:World) (h1: -1000≤A.n) (h2:A.n≤1000):
 Calls Tryz.prog 88 #[.agg #[.int .i64 A.n,.slice AwA Awn Awc,.slice AtA Atn Atc],.bool tn] w fun e w'=>e = .returned (if tn then .agg #[.int .i64 A.n,.slice AtA Atn Atc] else .agg #[.int .i64 (A.n+1),.slice AwA Awn Awc])∧Below w.heap.size w w':=by
 obtain ⟨wa,hwa,ba,hza,ea⟩:=alloc_facts w #[.int .i64 A.n,.slice AwA Awn Awc,.slice AtA Atn Atc] 24
 obtain ⟨w1,hw1,l1,z1,e1⟩:=alloc_facts wa #[.int .i64 0,.slice none 0 0] 73
 have HA:=Lib.hid (show (w.alloc (.cells #[.int .i64 A.n,.slice AwA Awn Awc,.slice AtA Atn Atc] 24)).alloc (.cells #[.int .i64 0,.slice none 0 0] 73)=w1 by rw [hwa,hw1])
 rw [hza] at e1 z1
 have hA2:=(l1.block w.heap.size (by omega)).trans ea
 obtain ⟨b0,b1,b2,_,_,_⟩:=three_facts hA2
 have K1:=Lib.hid (fun W=>r3ways_any A.n AwA Awn Awc AtA Atn Atc W h1 h2)
 have K2:=Lib.hid (fun W=>r3turns_any A.n AwA Awn Awc AtA Atn Atc W)
 have HB1:=Lib.hid (ba.trans (l1.mono ba.size))
 have HE1:=Lib.hid e1
 have Z1:Hid (w1.heap.size=w.heap.size+1+1):=(show _=_ from z1)
 clear hwa hw1 ba hza ea l1 z1 e1 hA2 h1 h2
 cases tn
 all_goals
  go_enter Tryz.func88,Tryz.ntmps88
  go_wp2_with (first
   | rw [HA.out]
   | (go_at_call 92;(with_reducible refine (K1.out _).mono ?_);rintro e w3 ⟨rfl,hb3⟩
      have hh3:=(hb3.block (w.heap.size+1) (by have:=Z1.out;omega)).trans HE1.out
      have f0:w3.cell? ⟨w.heap.size+1,0,none⟩=some (.int .i64 0):=(by simp [World.cell?,hh3])
      have f1:w3.cell? ⟨w.heap.size+1,1,none⟩=some (.slice none 0 0):=(by simp [World.cell?,hh3])
      have f2:w3.frozen? ⟨w.heap.size+1,0,none⟩=false:=(by simp [World.frozen?,hh3])
      have f3:w3.frozen? ⟨w.heap.size+1,1,none⟩=false:=(by simp [World.frozen?,hh3])
      have HH3:=Lib.hid hh3
      have HB3:=Lib.hid (HB1.out.trans (hb3.mono HB1.out.size))
      clear hb3 hh3)
   | (go_at_call 93;(with_reducible refine (K2.out _).mono ?_);rintro e w3 ⟨rfl,hb3⟩
      have hh3:=(hb3.block (w.heap.size+1) (by have:=Z1.out;omega)).trans HE1.out
      have f0:w3.cell? ⟨w.heap.size+1,0,none⟩=some (.int .i64 0):=(by simp [World.cell?,hh3])
      have f1:w3.cell? ⟨w.heap.size+1,1,none⟩=some (.slice none 0 0):=(by simp [World.cell?,hh3])
      have f2:w3.frozen? ⟨w.heap.size+1,0,none⟩=false:=(by simp [World.frozen?,hh3])
      have f3:w3.frozen? ⟨w.heap.size+1,1,none⟩=false:=(by simp [World.frozen?,hh3])
      have HH3:=Lib.hid hh3
      have HB3:=Lib.hid (HB1.out.trans (hb3.mono HB1.out.size))
      clear hb3 hh3))
  refine bodyPost_ret (results_cell_row rfl _ _ (w.heap.size+1) _ _ (0,0) _ rfl (sys_set HH3.out) Tryz.underlying73 rfl (by kernel_rfl)) rfl ?_
  exact ⟨rfl,(HB3.out.setCell (p:=⟨w.heap.size+1,0,none⟩) (show w.heap.size≤w.heap.size+1 by omega) _).setCell (p:=⟨w.heap.size+1,1,none⟩) (show w.heap.size≤w.heap.size+1 by omega) _⟩
def ownV (n:Int) (AwA:Option Addr) (Awn Awc:Nat) (AtA:Option Addr) (Atn Atc:Nat) (tn:Bool):Value:=if tn then .agg #[.int .i64 n,.slice AtA Atn Atc] else .agg #[.int .i64 (n+1),.slice AwA Awn Awc]
theorem flaw_boxes (A:Outl) (AwA:Option Addr) (Awn Awc:Nat) (AtA:Option Addr) (Atn Atc:Nat) (tn:Bool) (L:Option Addr) (m lc:Nat) (w:World):∃ w1,(w.alloc (.cells #[.int .i64 A.n,.slice AwA Awn Awc,.slice AtA Atn Atc] 24)).alloc (.cells #[.bool tn,.slice L m lc] 33)=w1∧Below w.heap.size w w1∧
 ∀ W,Below w1.heap.size w1 W→W.cell? ⟨w.heap.size,0,none⟩=some (.int .i64 A.n)∧W.cell? ⟨w.heap.size,1,none⟩=some (.slice AwA Awn Awc)∧W.cell? ⟨w.heap.size,2,none⟩=some (.slice AtA Atn Atc)∧W.cell? ⟨w.heap.size+1,0,none⟩=some (.bool tn)∧W.cell? ⟨w.heap.size+1,1,none⟩=some (.slice L m lc):=by
 obtain ⟨wa,hwa,ba,hza,ea⟩:=alloc_facts w #[.int .i64 A.n,.slice AwA Awn Awc,.slice AtA Atn Atc] 24
 obtain ⟨w1,hw1,l1,z1,e1⟩:=alloc_facts wa #[.bool tn,.slice L m lc] 33
 rw [hza] at e1 z1
 refine ⟨w1,by rw [hwa,hw1],ba.trans (l1.mono ba.size),fun W h=> ?_⟩
 have q1:=(h.block w.heap.size (by omega)).trans ((l1.block w.heap.size (by omega)).trans ea)
 have q2:=(h.block (w.heap.size+1) (by omega)).trans e1
 simp [World.cell?,q1,q2]
set_option maxRecDepth 100000 in
set_option maxHeartbeats 4000000 in
theorem CheckFlaw_any (A:Outl) (AwA:Option Addr) (Awn Awc:Nat) (AtA:Option Addr) (Atn Atc:Nat) (tn:Bool) (L:Option Addr) (m lc:Nat) (l:List Int) (w:World) (Aw:Rd encBound 4 w AwA Awn Awc A.ways) (At:Rd encBound 4 w AtA Atn Atc A.turns) (hL:Rd encInt 1 w L m lc l) (hm:m≤1000000):
 Calls Tryz.prog 33 #[.agg #[.int .i64 A.n,.slice AwA Awn Awc,.slice AtA Atn Atc],.agg #[.bool tn,.slice L m lc]] w fun e w'=>e = .returned (.tuple #[.bool (ownFlawB A tn l),.int .i64 (checkOut A)])∧Below w.heap.size w w':=by
 obtain ⟨w1,hw1,hb1,hce⟩:=flaw_boxes A AwA Awn Awc AtA Atn Atc tn L m lc w
 have HCE:=Lib.hid hce
 have RA:Hid (∀ W,Below w1.heap.size w1 W→Rd encBound 4 W AwA Awn Awc A.ways):=(show ∀ W,_→_ from fun W h=>(Aw.below hb1 (Nat.le_refl _)).below h (Nat.le_refl _))
 have RT:Hid (∀ W,Below w1.heap.size w1 W→Rd encBound 4 W AtA Atn Atc A.turns):=(show ∀ W,_→_ from fun W h=>(At.below hb1 (Nat.le_refl _)).below h (Nat.le_refl _))
 have RL:Hid (∀ W,Below w1.heap.size w1 W→Rd encInt 1 W L m lc l):=(show ∀ W,_→_ from fun W h=>(hL.below hb1 (Nat.le_refl _)).below h (Nat.le_refl _))
 have K1:=Lib.hid (fun W (h:Below w1.heap.size w1 W)=>CheckOutline_any A AwA Awn Awc AtA Atn Atc W (RA.out W h) (RT.out W h))
 have HB1:=Lib.hid hb1
 have HW1:=Lib.hid hw1
 obtain ⟨x0,x1,x2,x3,x4⟩:=hce w1 (Below.refl _ _)
 clear Aw At hL hb1 hw1 hce
 by_cases h1:checkOut A=0
 case neg=>
  have hv:ownFlawB A tn l=false:=by unfold ownFlawB;rw [decide_eq_false h1,Bool.false_and]
  rw [hv]
  have h1':(checkOut A != 0)=true:=by simpa using h1
  clear h1 hv
  generalize checkOut A=er at *
  go_enter Tryz.func33,Tryz.ntmps33
  go_wp2_with (first
   | rw [HW1.out]
   | (go_at_call 35;(with_reducible refine (K1.out _ (Below.refl _ _)).mono ?_);rintro e w2 ⟨rfl,hb2⟩;have HB2:=Lib.hid hb2;clear hb2))
  go_ret2
  exact ⟨rfl,HB1.out.trans (HB2.out.mono HB1.out.size)⟩
 case pos=>
  obtain ⟨n1,n2,s1,s2⟩:=checkOut_zero.1 h1
  have hv:ownFlawB A tn l=circleB (flawL A tn) l:=by unfold ownFlawB;rw [decide_eq_true h1,Bool.true_and]
  rw [hv]
  have C1:Hid (∀ W,Calls Tryz.prog 62 #[.agg #[.int .i64 A.n,.slice AwA Awn Awc,.slice AtA Atn Atc]] W fun e w'=>e = .returned (.agg #[.int .i64 (A.n+1),.slice AwA Awn Awc])∧Below W.heap.size W w'):=(show ∀ W,_ from fun W=>waysE_any A.n AwA Awn Awc AtA Atn Atc W (by omega) (by omega))
  have C2:Hid (∀ W,Calls Tryz.prog 63 #[.agg #[.int .i64 A.n,.slice AwA Awn Awc,.slice AtA Atn Atc]] W fun e w'=>e = .returned (.agg #[.int .i64 A.n,.slice AtA Atn Atc])∧Below W.heap.size W w'):=(show ∀ W,_ from fun W=>turnsE_any A.n AwA Awn Awc AtA Atn Atc W)
  have C3:Hid (∀ W,Calls Tryz.prog 71 #[.agg #[.int .i64 (A.n+1),.slice AwA Awn Awc,.int .i64 A.n,.slice AtA Atn Atc],.agg #[.bool tn,.slice L m lc]] W fun e w'=>e = .returned (ownV A.n AwA Awn Awc AtA Atn Atc tn)∧Below W.heap.size W w'):=(show ∀ W,_ from fun W=>system_any _ AwA Awn Awc _ AtA Atn Atc tn _ W)
  have C4:Hid (∀ W,Below w1.heap.size w1 W→Calls Tryz.prog 70 #[ownV A.n AwA Awn Awc AtA Atn Atc tn,.slice L m lc] W fun e w'=>e = .returned (.tuple #[.bool (circleB (flawL A tn) l),.int .i64 0])∧Below W.heap.size W w'):=(show ∀ W,_→_ from fun W h=>by
   cases tn
   · exact CheckCircle_any _ AwA Awn Awc A.ways L m lc l W (RA.out W h) (RL.out W h) s1 hm
   · exact CheckCircle_any _ AtA Atn Atc A.turns L m lc l W (RT.out W h) (RL.out W h) s2 hm)
  rw [h1] at K1 ⊢
  generalize circleB (flawL A tn) l=R at *
  clear h1 hv n1 n2 s1 s2
  generalize ownV A.n AwA Awn Awc AtA Atn Atc tn=sv at *
  go_enter Tryz.func33,Tryz.ntmps33
  go_upto_region 4 with (first
   | rw [HW1.out]
   | (go_at_call 35;(with_reducible refine (K1.out _ (Below.refl _ _)).mono ?_);rintro e w2 ⟨rfl,hb2⟩;have HB2:=Lib.hid hb2;clear hb2))
  refine cfl4 _ rfl w.heap.size (w.heap.size+1) A.n (.slice AwA Awn Awc) (.slice AtA Atn Atc) (.bool tn) (.slice L m lc) sv R _ w2 _ rfl rfl rfl (fun W hW=>HCE.out W (HB2.out.trans (hW.mono HB2.out.size))) (fun W _=>C1.out W) (fun W _=>C2.out W) (fun W _=>C3.out W) (fun W hW=>C4.out W (HB2.out.trans (hW.mono HB2.out.size))) ?_
  intro w3 hb3
  have HB3:=Lib.hid (HB1.out.trans ((HB2.out.trans (hb3.mono HB2.out.size)).mono HB1.out.size))
  clear hb3
  simp only [setsL,Nat.reduceAdd,List.setIfInBounds_toArray,List.set_cons_succ,List.set_cons_zero]
  go_wp2
  go_ret2
  exact ⟨rfl,HB3.out⟩
set_option maxRecDepth 100000 in
set_option maxHeartbeats 4000000 in
theorem r3CheckFlaw_any (A:Outl) (AwA:Option Addr) (Awn Awc:Nat) (AtA:Option Addr) (Atn Atc:Nat) (tn:Bool) (L:Option Addr) (m lc:Nat) (l:List Int) (w:World) (Aw:Rd encBound 4 w AwA Awn Awc A.ways) (At:Rd encBound 4 w AtA Atn Atc A.turns) (hL:Rd encInt 1 w L m lc l) (hm:m≤1000000):
 Calls Tryz.prog 34 #[.agg #[.int .i64 A.n,.slice AwA Awn Awc,.slice AtA Atn Atc],.agg #[.bool tn,.slice L m lc]] w fun e w'=>e = .returned (.tuple #[.bool (ownFlawB A tn l),.int .i64 (checkOut A)])∧Below w.heap.size w w':=by
 obtain ⟨w1,hw1,hb1,hce⟩:=flaw_boxes A AwA Awn Awc AtA Atn Atc tn L m lc w
 have HCE:=Lib.hid hce
 have RA:Hid (∀ W,Below w1.heap.size w1 W→Rd encBound 4 W AwA Awn Awc A.ways):=(show ∀ W,_→_ from fun W h=>(Aw.below hb1 (Nat.le_refl _)).below h (Nat.le_refl _))
 have RT:Hid (∀ W,Below w1.heap.size w1 W→Rd encBound 4 W AtA Atn Atc A.turns):=(show ∀ W,_→_ from fun W h=>(At.below hb1 (Nat.le_refl _)).below h (Nat.le_refl _))
 have RL:Hid (∀ W,Below w1.heap.size w1 W→Rd encInt 1 W L m lc l):=(show ∀ W,_→_ from fun W h=>(hL.below hb1 (Nat.le_refl _)).below h (Nat.le_refl _))
 have K1:=Lib.hid (fun W (h:Below w1.heap.size w1 W)=>r3CheckOutline_any A AwA Awn Awc AtA Atn Atc W (RA.out W h) (RT.out W h))
 have HB1:=Lib.hid hb1
 have HW1:=Lib.hid hw1
 obtain ⟨x0,x1,x2,x3,x4⟩:=hce w1 (Below.refl _ _)
 clear Aw At hL hb1 hw1 hce
 by_cases h1:checkOut A=0
 case neg=>
  have hv:ownFlawB A tn l=false:=by unfold ownFlawB;rw [decide_eq_false h1,Bool.false_and]
  rw [hv]
  have h1':(checkOut A != 0)=true:=by simpa using h1
  clear h1 hv
  generalize checkOut A=er at *
  go_enter Tryz.func34,Tryz.ntmps34
  go_wp2_with (first
   | rw [HW1.out]
   | (go_at_call 36;(with_reducible refine (K1.out _ (Below.refl _ _)).mono ?_);rintro e w2 ⟨rfl,hb2⟩;have HB2:=Lib.hid hb2;clear hb2))
  go_ret2
  exact ⟨rfl,HB1.out.trans (HB2.out.mono HB1.out.size)⟩
 case pos=>
  obtain ⟨n1,n2,s1,s2⟩:=checkOut_zero.1 h1
  have hv:ownFlawB A tn l=circleB (flawL A tn) l:=by unfold ownFlawB;rw [decide_eq_true h1,Bool.true_and]
  rw [hv]
  have C1:Hid (∀ W,Calls Tryz.prog 88 #[.agg #[.int .i64 A.n,.slice AwA Awn Awc,.slice AtA Atn Atc],.bool tn] W fun e w'=>e = .returned (ownV A.n AwA Awn Awc AtA Atn Atc tn)∧Below W.heap.size W w'):=(show ∀ W,_ from fun W=>r3Own_any A AwA Awn Awc AtA Atn Atc tn W (by omega) (by omega))
  have C2:Hid (∀ W,Below w1.heap.size w1 W→Calls Tryz.prog 73 #[ownV A.n AwA Awn Awc AtA Atn Atc tn,.slice L m lc] W fun e w'=>e = .returned (.tuple #[.bool (circleB (flawL A tn) l),.int .i64 0])∧Below W.heap.size W w'):=(show ∀ W,_→_ from fun W h=>by
   cases tn
   · have:=r1CheckCircle_any (A.n+1) AwA Awn Awc A.ways L m lc l W (RA.out W h) (RL.out W h) hm
     unfold r1cV at this
     rw [s1,decide_eq_true rfl,Bool.true_and] at this
     exact this
   · have:=r1CheckCircle_any A.n AtA Atn Atc A.turns L m lc l W (RT.out W h) (RL.out W h) hm
     unfold r1cV at this
     rw [s2,decide_eq_true rfl,Bool.true_and] at this
     exact this)
  rw [h1] at K1 ⊢
  generalize circleB (flawL A tn) l=R at *
  clear h1 hv n1 n2 s1 s2
  generalize ownV A.n AwA Awn Awc AtA Atn Atc tn=sv at *
  go_enter Tryz.func34,Tryz.ntmps34
  go_upto_region 4 with (first
   | rw [HW1.out]
   | (go_at_call 36;(with_reducible refine (K1.out _ (Below.refl _ _)).mono ?_);rintro e w2 ⟨rfl,hb2⟩;have HB2:=Lib.hid hb2;clear hb2))
  refine r3cfl4 _ rfl w.heap.size (w.heap.size+1) A.n (.slice AwA Awn Awc) (.slice AtA Atn Atc) (.bool tn) (.slice L m lc) sv R _ w2 _ rfl rfl rfl (fun W hW=>HCE.out W (HB2.out.trans (hW.mono HB2.out.size))) (fun W _=>C1.out W) (fun W hW=>C2.out W (HB2.out.trans (hW.mono HB2.out.size))) ?_
  intro w3 hb3
  have HB3:=Lib.hid (HB1.out.trans ((HB2.out.trans (hb3.mono HB2.out.size)).mono HB1.out.size))
  clear hb3
  simp only [setsL,Nat.reduceAdd,List.setIfInBounds_toArray,List.set_cons_succ,List.set_cons_zero]
  go_wp2
  go_ret2
  exact ⟨rfl,HB3.out⟩
end Go.Proofs.YtccabpahfmoamaaGreat
end
section
namespace Go.Proofs.YtccabpahfmoamaaGreat
open Go.RowKit Go.Proofs Go.Shelf
set_option maxHeartbeats 2000000 in
theorem sameOut_true (n:Int) (ws ts:List Bound) (W1:Option Addr) (n1 c1:Nat) (T1:Option Addr) (m1 d1:Nat) (W2:Option Addr) (n2 c2:Nat) (T2:Option Addr) (m2 d2:Nat) (w:World) (h1:Rd encBound 4 w W1 n1 c1 ws) (h2:Rd encBound 4 w T1 m1 d1 ts) (h3:Rd encBound 4 w W2 n2 c2 ws) (h4:Rd encBound 4 w T2 m2 d2 ts):
 Calls Tryz.prog 39 #[.agg #[.int .i64 n,.slice W1 n1 c1,.slice T1 m1 d1],.agg #[.int .i64 n,.slice W2 n2 c2,.slice T2 m2 d2]] w fun e w'=>e = .returned (.bool true)∧Below w.heap.size w w':=by
 obtain ⟨wa,hwa,ba,hza,ea⟩:=alloc_facts w #[.int .i64 n,.slice W1 n1 c1,.slice T1 m1 d1] 24
 obtain ⟨wb,hwb,lb,zb,eb⟩:=alloc_facts wa #[.int .i64 n,.slice W2 n2 c2,.slice T2 m2 d2] 24
 rw [hza] at eb zb
 have HA:=Lib.hid (show (w.alloc (.cells #[.int .i64 n,.slice W1 n1 c1,.slice T1 m1 d1] 24)).alloc (.cells #[.int .i64 n,.slice W2 n2 c2,.slice T2 m2 d2] 24)=wb by rw [hwa,hwb])
 have hbb:=ba.trans (lb.mono ba.size)
 have HCE:Hid (∀ W,Below wb.heap.size wb W→(W.cell? ⟨w.heap.size,0,none⟩=some (.int .i64 n)∧W.cell? ⟨w.heap.size,1,none⟩=some (.slice W1 n1 c1)∧W.cell? ⟨w.heap.size,2,none⟩=some (.slice T1 m1 d1))∧W.cell? ⟨w.heap.size+1,0,none⟩=some (.int .i64 n)∧W.cell? ⟨w.heap.size+1,1,none⟩=some (.slice W2 n2 c2)∧W.cell? ⟨w.heap.size+1,2,none⟩=some (.slice T2 m2 d2)):=(show ∀ W,_→_ from fun W h=>by
  have q1:=(h.block w.heap.size (by omega)).trans ((lb.block w.heap.size (by omega)).trans ea)
  have q2:=(h.block (w.heap.size+1) (by omega)).trans eb
  simp [World.cell?,q1,q2])
 have K1:Hid (∀ W,Below wb.heap.size wb W→Calls Tryz.prog 49 #[.slice W1 n1 c1,.slice W2 n2 c2] W fun e w'=>e = .returned (.bool true)∧Below W.heap.size W w'):=(show ∀ W,_→_ from fun W h=>(sameBd_any W1 n1 c1 ws W2 n2 c2 ws W ((h1.below hbb (Nat.le_refl _)).below h (Nat.le_refl _)) ((h3.below hbb (Nat.le_refl _)).below h (Nat.le_refl _))).mono fun e w' h=>⟨h.1.trans (by simp),h.2⟩)
 have K2:Hid (∀ W,Below wb.heap.size wb W→Calls Tryz.prog 49 #[.slice T1 m1 d1,.slice T2 m2 d2] W fun e w'=>e = .returned (.bool true)∧Below W.heap.size W w'):=(show ∀ W,_→_ from fun W h=>(sameBd_any T1 m1 d1 ts T2 m2 d2 ts W ((h2.below hbb (Nat.le_refl _)).below h (Nat.le_refl _)) ((h4.below hbb (Nat.le_refl _)).below h (Nat.le_refl _))).mono fun e w' h=>⟨h.1.trans (by simp),h.2⟩)
 have HBB:=Lib.hid hbb
 have hnn:(n==n)=true:=(by simp)
 obtain ⟨⟨x0,x1,x2⟩,y0,y1,y2⟩:=HCE.out wb (Below.refl _ _)
 clear hwa ba hza ea hwb lb zb eb hbb h1 h2 h3 h4
 go_enter Tryz.func39,Tryz.ntmps39
 go_wp2_with (first
  | rw [HA.out]
  | (go_at_call 49;(with_reducible refine (K1.out _ (Below.refl _ _)).mono ?_);rintro e w3 ⟨rfl,hb3⟩
     have HB3:=Lib.hid hb3
     obtain ⟨⟨u0,u1,u2⟩,v0,v1,v2⟩:=HCE.out w3 hb3
     clear hb3)
  | (go_at_call 49;(with_reducible refine (K2.out _ HB3.out).mono ?_);rintro e w4 ⟨rfl,hb4⟩
     have HB4:=Lib.hid (HB3.out.trans (hb4.mono HB3.out.size))
     clear hb4))
 go_ret
 exact ⟨rfl,HBB.out.trans (HB4.out.mono HBB.out.size)⟩
end Go.Proofs.YtccabpahfmoamaaGreat
end

/- Contracts that the laws lean on: RefL, RefG, RefD, Room, RefH, RefF, RefE, RefI, RefJ. -/
import Derived.Test.YtelnkflmnbhclaaGreatPfH20
import Derived.Test.YtelnkflmnbhclaaGreatPfH01
import Derived.Test.YtelnkflmnbhclaaGreatPfH02
set_option maxRecDepth 100000
set_option maxHeartbeats 4000000
section
namespace Go.Proofs.YtelnkflmnbhclaaGreat
open Go.RowKit Go.Proofs Go.Shelf
theorem rLess_any (a b c d:Int) (w:World):
 Calls Tryz.prog 142 #[.agg #[.int .i64 a,.int .i64 b],.agg #[.int .i64 c,.int .i64 d]] w fun e w'=>e = .returned (.bool (lessPl ⟨a,b⟩ ⟨c,d⟩))∧Below w.heap.size w w':=by
 have hB:∀ o1 o2,Below w.heap.size w ((w.alloc o1).alloc o2):=fun o1 o2=>((Below.refl _ _).alloc (Nat.le_refl _) _).alloc (by simp) _
 by_cases h1:a<c
 · go_enter Tryz.func142,Tryz.ntmps142
   go_wp2;go_ret;exact ⟨by simp [lessPl,ltPl,h1],hB _ _⟩
 · by_cases h2:a=c
   · have h3:(a==c)=true:=beq_iff_eq.2 h2
     have H2:=Lib.hid h2;clear h2;go_enter Tryz.func142,Tryz.ntmps142;go_wp2;go_ret;refine ⟨?_,hB _ _⟩;have h2:=H2.out;by_cases h4:b<d<;>simp [lessPl,ltPl,h2,h4]
   · have h3:(a==c)=false:=beq_eq_false_iff_ne.2 h2
     go_enter Tryz.func142,Tryz.ntmps142;go_wp2;go_ret;exact ⟨by simp [lessPl,ltPl,h1,h2],hB _ _⟩
end Go.Proofs.YtelnkflmnbhclaaGreat
end
section
namespace Go.Proofs.YtelnkflmnbhclaaGreat
open Go.RowKit Go.Proofs
def PutP (pb:Nat) (p:Place) (w:World):Prop:=∀ W,Below w.heap.size w W→W.cell? ⟨pb,0,none⟩=some (.int .i64 p.pit)∧W.cell? ⟨pb,1,none⟩=some (.int .i64 p.layer)
def PutY (bq off j:Nat) (y:Place) (w:World):Prop:=∀ W,Below w.heap.size w W→W.cell? ⟨bq,off+j * 2,none⟩=some (.int .i64 y.pit)∧W.cell? ⟨bq,off+j * 2+1,none⟩=some (.int .i64 y.layer)
def codePut2:Option Code→Code
 | some (.seq _ (.seq _ (.seq (.block _ (.loop (.seq (.seq c _) _))) _)))=>c
 | _=> .skip
def Trput2z (_:Value) (_:Nat):List Value:=
 [.int .i64 0,.bool false,.bool false,undef,undef,undef,undef,undef,undef,undef,.bool false]
theorem rput2z (cC:Code) (hc:cC=codePut2 Tryz.f129.body) (s0:Value) (pb:Nat) (a:Act) (w:World) (Q:Exit→Act→World→Prop)
 (hT:a.tmps.size=48) (t0:a.tmps.getD 0 undef=s0) (t3:a.tmps.getD 3 undef = .pointer (some ⟨pb,0,none⟩)) (t5:a.tmps.getD 5 undef = .int .i64 0)
 (hQ:∀ W,Below w.heap.size w W→Q .normal { tmps:=setsL a.tmps 9 (Trput2z s0 pb),defers:=a.defers } W):
 cC.wp Tryz.prog Q a w:=by
 subst hc;unfold codePut2 Tryz.f129;dsimp only;refine wpIn_wide.1 (wpIn_region_flow (nn:=5) 48 (by kernel_rfl) (by kernel_rfl) (by kernel_rfl) hT (fun i=>(Trput2z s0 pb).getD i undef) (fun W=>Below w.heap.size w W) ((Below.refl _ _).drew) (fun b hE hold=> ?_) hQ);clear hQ;have q0:=hold 0 _ (by kernel_rfl) t0;have q3:=hold 3 _ (by kernel_rfl) t3;have q5:=hold 5 _ (by kernel_rfl) t5;simp only [factsL,Trput2z,List.getD_cons_zero,List.getD_cons_succ,Nat.reduceAdd] at hE
 repeat' first|exact steps_nil|refine steps_skip rfl rfl ?_|refine steps_go rfl ?_ ?_
 all_goals (intro W hW;simp only [Trput2z,List.getD_cons_zero,List.getD_cons_succ,Nat.reduceAdd])
 all_goals first
  | (refine .inl ?_;go_simp;done)
  | (refine .inl ?_;go_simp;rfl)
def Trput2s (bq off n c _ k j:Nat) (p y:Place) (r:Bool):List Value:=
 [.int .i64 k,.bool true,.bool true,.agg #[.int .i64 p.pit,.int .i64 p.layer],.slice (some ⟨bq,off,none⟩) n c,.int .i64 k,.int .i64 j,.pointer (some ⟨bq,off+j * 2,none⟩),.agg #[.int .i64 y.pit,.int .i64 y.layer],.bool (r),.bool (r)]
theorem rput2s (cC:Code) (hc:cC=codePut2 Tryz.f129.body) (bq off n c pb k j:Nat) (p y:Place) (r:Bool) (a:Act) (w:World) (Q:Exit→Act→World→Prop)
 (hT:a.tmps.size=48) (t0:a.tmps.getD 0 undef = .slice (some ⟨bq,off,none⟩) n c) (t3:a.tmps.getD 3 undef = .pointer (some ⟨pb,0,none⟩)) (t5:a.tmps.getD 5 undef = .int .i64 k)
 (PE:PutP pb p w) (YE:PutY bq off j y w) (hkj:k=j+1) (hj:j<n) (hn:n≤1000000) (hr:lessPl p y=r)
 (hQ:∀ W,Below w.heap.size w W→Q .normal { tmps:=setsL a.tmps 9 (Trput2s bq off n c pb k j p y r),defers:=a.defers } W):
 cC.wp Tryz.prog Q a w:=by
 subst hc;unfold codePut2 Tryz.f129;dsimp only;refine wpIn_wide.1 (wpIn_region_flow (nn:=5) 48 (by kernel_rfl) (by kernel_rfl) (by kernel_rfl) hT (fun i=>(Trput2s bq off n c pb k j p y r).getD i undef) (fun W=>Below w.heap.size w W) ((Below.refl _ _).drew) (fun b hE hold=> ?_) hQ);clear hQ
 have hw:IntKind.i64.wrap ((k:Int)-1)=(j:Int):=(by rw [IntKind.wrap_i64];omega)
 have hk0:(0:Int)<(k:Int):=(by omega)
 have hk1:0<k:=(by omega)
 have HKJ:=Lib.hid hkj;clear hkj;have q0:=hold 0 _ (by kernel_rfl) t0;have q3:=hold 3 _ (by kernel_rfl) t3;have q5:=hold 5 _ (by kernel_rfl) t5;simp only [factsL,Trput2s,List.getD_cons_zero,List.getD_cons_succ,Nat.reduceAdd] at hE
 repeat' first|exact steps_nil|refine steps_skip rfl rfl ?_|refine steps_go rfl ?_ ?_
 all_goals (intro W hW;obtain ⟨p0,p1⟩:=PE W hW;obtain ⟨y0,y1⟩:=YE W hW;simp only [Trput2s,List.getD_cons_zero,List.getD_cons_succ,Nat.reduceAdd])
 all_goals first
  | (refine .inl ?_;go_simp;done)
  | (refine .inl ?_;go_simp;rfl)
  | (refine .inl ?_;go_simp;omega)
  | (refine .inl ?_;go_simp;exact hk1)
  | (refine .inl ?_;go_simp;exact hw)
  | (refine .inr (.inr ⟨142,#[.agg #[.int .i64 p.pit,.int .i64 p.layer],.agg #[.int .i64 y.pit,.int .i64 y.layer]],?_,(rLess_any _ _ _ _ W).mono ?_⟩)
     · go_simp<;>done
     · rintro e w' ⟨rfl,hb'⟩;exact ⟨by rw [show lessPl ⟨p.pit,p.layer⟩ ⟨y.pit,y.layer⟩=r from hr],hW.trans (hb'.mono hW.size)⟩)
def codePut4:Option Code→Code
 | some (.seq _ (.seq _ (.seq _ (.seq (.seq c _) _))))=>c
 | _=> .skip
def Trput4z (_:Value) (_:Nat):List Value:=
 [.int .i64 0,.bool false,.bool false,undef,undef,undef,undef,undef,undef,undef,.bool false]
theorem rput4z (cC:Code) (hc:cC=codePut4 Tryz.f129.body) (s0:Value) (pb:Nat) (a:Act) (w:World) (Q:Exit→Act→World→Prop)
 (hT:a.tmps.size=48) (t0:a.tmps.getD 0 undef=s0) (t3:a.tmps.getD 3 undef = .pointer (some ⟨pb,0,none⟩)) (t5:a.tmps.getD 5 undef = .int .i64 0)
 (hQ:∀ W,Below w.heap.size w W→Q .normal { tmps:=setsL a.tmps 22 (Trput4z s0 pb),defers:=a.defers } W):
 cC.wp Tryz.prog Q a w:=by
 subst hc;unfold codePut4 Tryz.f129;dsimp only;refine wpIn_wide.1 (wpIn_region_flow (nn:=5) 48 (by kernel_rfl) (by kernel_rfl) (by kernel_rfl) hT (fun i=>(Trput4z s0 pb).getD i undef) (fun W=>Below w.heap.size w W) ((Below.refl _ _).drew) (fun b hE hold=> ?_) hQ);clear hQ;have q0:=hold 0 _ (by kernel_rfl) t0;have q3:=hold 3 _ (by kernel_rfl) t3;have q5:=hold 5 _ (by kernel_rfl) t5;simp only [factsL,Trput4z,List.getD_cons_zero,List.getD_cons_succ,Nat.reduceAdd] at hE
 repeat' first|exact steps_nil|refine steps_skip rfl rfl ?_|refine steps_go rfl ?_ ?_
 all_goals (intro W hW;simp only [Trput4z,List.getD_cons_zero,List.getD_cons_succ,Nat.reduceAdd])
 all_goals first
  | (refine .inl ?_;go_simp;done)
  | (refine .inl ?_;go_simp;rfl)
def Trput4s (bq off n c _ k j:Nat) (p y:Place) (r:Bool):List Value:=
 [.int .i64 k,.bool true,.bool true,.slice (some ⟨bq,off,none⟩) n c,.int .i64 k,.int .i64 j,.pointer (some ⟨bq,off+j * 2,none⟩),.agg #[.int .i64 y.pit,.int .i64 y.layer],.agg #[.int .i64 p.pit,.int .i64 p.layer],.bool (r),.bool (r)]
theorem rput4s (cC:Code) (hc:cC=codePut4 Tryz.f129.body) (bq off n c pb k j:Nat) (p y:Place) (r:Bool) (a:Act) (w:World) (Q:Exit→Act→World→Prop)
 (hT:a.tmps.size=48) (t0:a.tmps.getD 0 undef = .slice (some ⟨bq,off,none⟩) n c) (t3:a.tmps.getD 3 undef = .pointer (some ⟨pb,0,none⟩)) (t5:a.tmps.getD 5 undef = .int .i64 k)
 (PE:PutP pb p w) (YE:PutY bq off j y w) (hkj:k=j+1) (hj:j<n) (hn:n≤1000000) (hr:eqPlace y p=r)
 (hQ:∀ W,Below w.heap.size w W→Q .normal { tmps:=setsL a.tmps 22 (Trput4s bq off n c pb k j p y r),defers:=a.defers } W):
 cC.wp Tryz.prog Q a w:=by
 subst hc;unfold codePut4 Tryz.f129;dsimp only;refine wpIn_wide.1 (wpIn_region_flow (nn:=5) 48 (by kernel_rfl) (by kernel_rfl) (by kernel_rfl) hT (fun i=>(Trput4s bq off n c pb k j p y r).getD i undef) (fun W=>Below w.heap.size w W) ((Below.refl _ _).drew) (fun b hE hold=> ?_) hQ);clear hQ
 have hw:IntKind.i64.wrap ((k:Int)-1)=(j:Int):=(by rw [IntKind.wrap_i64];omega)
 have hk0:(0:Int)<(k:Int):=(by omega)
 have hk1:0<k:=(by omega)
 have HKJ:=Lib.hid hkj;clear hkj;have q0:=hold 0 _ (by kernel_rfl) t0;have q3:=hold 3 _ (by kernel_rfl) t3;have q5:=hold 5 _ (by kernel_rfl) t5;simp only [factsL,Trput4s,List.getD_cons_zero,List.getD_cons_succ,Nat.reduceAdd] at hE
 repeat' first|exact steps_nil|refine steps_skip rfl rfl ?_|refine steps_go rfl ?_ ?_
 all_goals (intro W hW;obtain ⟨p0,p1⟩:=PE W hW;obtain ⟨y0,y1⟩:=YE W hW;simp only [Trput4s,List.getD_cons_zero,List.getD_cons_succ,Nat.reduceAdd])
 all_goals first
  | (refine .inl ?_;go_simp;done)
  | (refine .inl ?_;go_simp;rfl)
  | (refine .inl ?_;go_simp;omega)
  | (refine .inl ?_;go_simp;exact hk1)
  | (refine .inl ?_;go_simp;exact hw)
  | (refine .inl ?_;go_simp;exact congrArg Value.bool hr)
open Go.Shelf
section
variable {P:Program} {α:Type} {enc:α→List Value} {k bytes n c B:Nat} {t e:TypeId} {w:World} {A:Option Addr} {xs:List α}
theorem wpList_append_to {ops:Array Oper} {rest:List Oper} {o:Oper} {a:Act} {Q:Exit→Act→World→Prop} (E:ElemT P t e k bytes) (hk:∀ x,(enc x).length=k) (h1:∀ x,∀ u∈enc x,u.oneCell'=true) (hgd:o.guard=none) (s x:Operand)
 (ho:o.op = .call { callee:=.builtin .append,args:=#[s,x],argTypes:=#[t,t] }) (A2:Option Addr) (m c2:Nat) (ys:List α) (hs:a.eval s = .slice A n c) (hx:a.eval x = .slice A2 m c2)
 (hown:Own enc k e B w A n c xs) (hrd:Rd enc k w A2 m c2 ys) (hbytes:(n+m) * bytes≤140737488355328) (hb8:1≤bytes) (hbase:B≤w.heap.size) (N:Nat) (hN:n+m=N) (zs:List α) (hz:xs++ys=zs)
 (h:∀ A' c' w',Own enc k e B w' A' N c' zs→w.grownBy w' (blockOf A)→(blockOf A'=blockOf A∨blockOf A'=some w.heap.size)→wpList P ops Q rest (a.put o.dst (.slice A' N c')) w'):wpList P ops Q (o::rest) a w:=by
 subst hN;subst hz;exact wpList_append_src E hk h1 hgd s x ho A2 m c2 ys hs hx hown hrd hbytes hb8 hbase h
end
theorem putPl_len (l:List Place) (p:Place):(putPl l p).length≤l.length+1:=by
 unfold putPl
 split
 · omega
 · simp;omega
theorem putPl_there {l:List Place} {p:Place} {k:Nat} (h:putAt l p l.length=k) (h0:0<k) (he:l.getD (k-1) z00=p):putPl l p=l:=by
 unfold putPl;rw [h,if_pos ⟨h0,he⟩]
theorem putPl_new {l:List Place} {p:Place} {k:Nat} (h:putAt l p l.length=k) (hn:¬(0<k∧l.getD (k-1) z00=p)):putPl l p=l.take k ++ [p]++l.drop k:=by
 unfold putPl;rw [h,if_neg hn];simp
theorem rPut_any (A:Option Addr) (n c:Nat) (l:List Place) (p:Place) (w:World) (hl:Rd encPlace 2 w A n c l) (hsm:n≤1000000):
 Calls Tryz.prog 129 #[.slice A n c,.agg #[.int .i64 p.pit,.int .i64 p.layer]] w fun e w'=> ∃ A' c',e = .returned (.slice A' (putPl l p).length c')∧Rd encPlace 2 w' A' (putPl l p).length c' (putPl l p)∧Below w.heap.size w w':=by
 obtain ⟨w1,hw1⟩:∃ w1,w.alloc (.cells #[.int .i64 p.pit,.int .i64 p.layer] 37)=w1:=⟨_,rfl⟩
 have hb1:Below w.heap.size w w1:=(by rw [←hw1];exact (Below.refl _ w).alloc (Nat.le_refl _) _)
 have hz1:w1.heap.size=w.heap.size+1:=(by rw [←hw1];simp)
 have hr1:w1.heap[w.heap.size]? = some (.cells #[.int .i64 p.pit,.int .i64 p.layer] 37 (0,0)):=(by rw [←hw1];exact heap_alloc_new w _)
 have CELLS:Hid (∀ W:World,Below w1.heap.size w1 W→W.cell? ⟨w.heap.size,0,none⟩=some (.int .i64 p.pit)∧W.cell? ⟨w.heap.size,1,none⟩=some (.int .i64 p.layer)):=(show ∀ W:World,Below w1.heap.size w1 W→W.cell? ⟨w.heap.size,0,none⟩=some (.int .i64 p.pit)∧W.cell? ⟨w.heap.size,1,none⟩=some (.int .i64 p.layer) from fun W hb=>by
  have:=(hb.block _ (by omega)).trans hr1
  simp [World.cell?,this])
 have HL:=Lib.hid (hl.below hb1 (Nat.le_refl _));have hnl:=Lib.hid hl.len;have hcap:=hl.cap;clear hl hr1;go_enter Tryz.func129,Tryz.ntmps129;go_wp2_with (fail);go_loopw [5] (fun s5 wr=> ∃ k:Nat,k≤n∧s5 = .int .i64 k∧Hid (Below w1.heap.size w1 wr)∧Hid (putAt l p n=putAt l p k)) (fun s5 _=>(intOf s5).toNat)
 case atStart=>exact ⟨n,Nat.le_refl _,rfl,(show Below _ _ _ from Below.refl _ _),(show _=_ from rfl)⟩
 case round=>
  rename World=>wo;obtain ⟨k,hk,rfl,hb,hat⟩:=hrel;have hzr:=hb.out.size;obtain ⟨p0,p1⟩:=CELLS.out wo hb.out
  have hxlt:w.heap.size<wo.heap.size:=(by omega)
  have PE:Hid (∀ W,Below wo.heap.size wo W→W.cell? ⟨w.heap.size,0,none⟩=some (.int .i64 p.pit)∧W.cell? ⟨w.heap.size,1,none⟩=some (.int .i64 p.layer)):=(show ∀ W,Below wo.heap.size wo W→W.cell? ⟨w.heap.size,0,none⟩=some (.int .i64 p.pit)∧W.cell? ⟨w.heap.size,1,none⟩=some (.int .i64 p.layer) from fun W h=>CELLS.out W (hb.out.trans (h.mono hzr)))
  rcases Nat.eq_zero_or_pos k with h0|h0
  · go_upto_region 2 with (fail)
    refine rput2z _ rfl _ w.heap.size _ wo _ rfl rfl rfl (by rw [h0];rfl) ?_;intro w2 hb2;have HB2:=Lib.hid (hb.out.trans (hb2.mono hzr));clear hb2;simp only [setsL,Trput2z,Nat.reduceAdd,List.setIfInBounds_toArray,List.set_cons_succ,List.set_cons_zero]
    go_upto_region 4 with (fail)
    refine rput4z _ rfl _ w.heap.size _ w2 _ rfl rfl rfl (by rw [h0];rfl) ?_;intro w4 hb4;have HB4:=Lib.hid (HB2.out.trans (hb4.mono HB2.out.size));clear hb4;simp only [setsL,Trput4z,Nat.reduceAdd,List.setIfInBounds_toArray,List.set_cons_succ,List.set_cons_zero]
    have hpn:Hid (putPl l p=l.take k ++ [p]++l.drop k):=(show _=_ from putPl_new (show putAt l p l.length=k by have h1:=hat.out;rw [hnl.out,h1,h0];rfl) (by rw [h0];simp))
    clear h0;have hs4:=HB4.out.size;have F0:=Own.fresh0 encPlace 2 37 w4;have R1:=((HL.out.below HB4.out (Nat.le_refl _)).take (m:=k) (c':=c) hk ⟨by omega,Nat.le_refl _⟩).alloc (.cells #[] 37);have RL:=Lib.hid (HL.out.below HB4.out (Nat.le_refl _));obtain ⟨q0,q1⟩:=CELLS.out w4 HB4.out;have st:=to_pl A n c k (by omega);obtain ⟨A',sf,hA'⟩:=from_pl A n c k hk hcap.1;have HA':=Lib.hid hA';clear hA'
    go_wp2_with (first
     | (at_builtin;refine wpList_append_to elPlace (fun _=>rfl) onePlace rfl _ _ rfl _ _ _ _ rfl rfl F0 R1 (by omega) (by decide) (by simp) k (by omega) (l.take k) (by simp) ?_;intro A2 c2 w5 hO5 hg5 hA5
        have HB5:=Lib.hid ((HB4.out.alloc hs4 (.cells #[] 37)).grown hg5 (by simp;omega) (fun j e=>Nat.le_trans hs4 (F0.ltB j e)))
        have hs45:w4.heap.size≤w5.heap.size:=(by have:=hg5.size;simp at this;omega)
        have HG5:=Lib.hid ((Below.refl w4.heap.size w4).alloc (Nat.le_refl _) (.cells #[] 37) |>.grown hg5 (by simp) (fun j e=>F0.ltB j e));obtain ⟨s0,s1⟩:=CELLS.out w5 HB5.out;have F5:=hO5.alloc (.cells #[.int .i64 p.pit,.int .i64 p.layer] 37);have R5:=Rd.single (enc:=encPlace) (k:=2) w5 #[.int .i64 p.pit,.int .i64 p.layer] 37 [p] 1 rfl (by omega) (fun _=>rfl) (by simp [encPlace])
        clear hO5 hg5 hA5 F0 R1)
     | (at_builtin;refine wpList_append_to elPlace (fun _=>rfl) onePlace rfl _ _ rfl _ _ _ _ rfl rfl F5 R5 (by omega) (by decide) (by simp;omega) (k+1) (by omega) (l.take k ++ [p]) rfl ?_;intro A3 c3 w6 hO6 hg6 hA6
        have HG6:=Lib.hid ((HG5.out.alloc hs45 (.cells #[.int .i64 p.pit,.int .i64 p.layer] 37)).grown hg6 (by simp;omega) (fun j e=>F5.ltB j e));have HO6:=Lib.hid hO6;have hs46:=HG6.out.size
        clear hO6 hg6 hA6 F5 R5)
     | (at_builtin;refine wpList_append_to elPlace (fun _=>rfl) onePlace rfl _ _ rfl _ _ _ _ rfl rfl HO6.out ((RL.out.below HG6.out (Nat.le_refl _)).drop (m:=k) hk HA'.out) (by omega) (by decide) hs46 (n+1) (by omega) (l.take k ++ [p]++l.drop k) rfl ?_;intro A4 c4 w7 hO7 hg7 hA7
        have HB7:=Lib.hid (HB4.out.trans ((HG6.out.grown hg7 hs46 (fun j e=>HO6.out.ltB j e)).mono hs4));have HO7:=Lib.hid hO7
        clear hO7 hg7 hA7))
    go_ret
    have hl7:(l.take k ++ [p]++l.drop k).length=n+1:=(by simp [hnl.out];omega)
    refine ⟨A4,c4,?_,?_,hb1.trans (HB7.out.mono (by omega))⟩
    · rw [hpn.out,hl7];rfl
    · rw [hpn.out,hl7];exact HO7.out.rd (fun _=>rfl) (by omega)
  · obtain ⟨j,hkj⟩:∃ j,k=j+1:=⟨k-1,by omega⟩
    have HKJ:=Lib.hid hkj
    have hjn:j<n:=(by omega)
    clear hkj;obtain ⟨b,off,y,rfl,hbw,hy,hcell⟩:=(HL.out.below hb.out (Nat.le_refl _)).one hjn;have y0:wo.cell? ⟨b,off+j * 2,none⟩=some (.int .i64 y.pit):=hcell 0 _ rfl;have y1:wo.cell? ⟨b,off+j * 2+1,none⟩=some (.int .i64 y.layer):=hcell 1 _ rfl
    have YE:Hid (∀ W,Below wo.heap.size wo W→W.cell? ⟨b,off+j * 2,none⟩=some (.int .i64 y.pit)∧W.cell? ⟨b,off+j * 2+1,none⟩=some (.int .i64 y.layer)):=(show ∀ W,Below wo.heap.size wo W→W.cell? ⟨b,off+j * 2,none⟩=some (.int .i64 y.pit)∧W.cell? ⟨b,off+j * 2+1,none⟩=some (.int .i64 y.layer) from fun W h=>⟨(h.cell (p:=⟨b,_,none⟩) hbw).trans y0,(h.cell (p:=⟨b,_,none⟩) hbw).trans y1⟩)
    have hyd:Hid (l.getD j z00=y):=(show _=_ by rw [List.getD_eq_getElem?_getD,hy];rfl)
    clear hcell hy y0 y1
    go_upto_region 2 with (fail)
    obtain ⟨r,hr⟩:∃ r,lessPl p y=r:=⟨_,rfl⟩
    have HR:=Lib.hid hr;clear hr;refine rput2s _ rfl b off n c w.heap.size k j p y r _ wo _ rfl rfl rfl rfl PE.out YE.out HKJ.out hjn hsm HR.out ?_;intro w2 hb2;have HB2:=Lib.hid hb2;clear hb2;simp only [setsL,Trput2s,Nat.reduceAdd,List.setIfInBounds_toArray,List.set_cons_succ,List.set_cons_zero]
    cases r with
    | true=>
      have HLP:=HR;go_wp2;go_roundw
      all_goals first
       | (have:=HKJ.out;simp [intOf];omega)
       | exact ⟨j,by omega,by have:=HKJ.out;subst this;go_num,(show Below _ _ _ from hb.out.trans (HB2.out.mono hzr)),(show _=_ by have h1:=hat.out;rw [HKJ.out,putAt,hyd.out,if_pos HLP.out] at h1;exact h1)⟩
    | false=>
      have HLP:Hid (¬lessPl p y=true):=(show ¬lessPl p y=true by rw [HR.out];decide)
      obtain ⟨r,hr⟩:∃ r,eqPlace y p=r:=⟨_,rfl⟩
      have HR2:=Lib.hid hr;clear hr
      go_upto_region 4 with (fail)
      refine rput4s _ rfl b off n c w.heap.size k j p y r _ w2 _ rfl rfl rfl rfl (fun W h=>PE.out W (HB2.out.trans (h.mono HB2.out.size))) (fun W h=>YE.out W (HB2.out.trans (h.mono HB2.out.size))) HKJ.out hjn hsm HR2.out ?_;intro w4 hb4;have HB4:=Lib.hid ((hb.out.trans (HB2.out.mono hzr)).trans (hb4.mono (by have:=HB2.out.size;omega)));clear hb4;simp only [setsL,Trput4s,Nat.reduceAdd,List.setIfInBounds_toArray,List.set_cons_succ,List.set_cons_zero]
      have hatk:Hid (putAt l p l.length=k):=(show _=_ by have h1:=hat.out;rw [hnl.out,h1,HKJ.out,putAt,hyd.out,if_neg HLP.out])
      cases r with
      | true=>
        go_wp2;go_ret;refine ⟨some ⟨b,off,none⟩,c,?_,?_,hb1.trans (HB4.out.mono (by omega))⟩
        · rw [putPl_there hatk.out h0 (by rw [show k-1=j by have:=HKJ.out;omega,hyd.out];exact eqPlace_iff.1 HR2.out),hnl.out];rfl
        · rw [putPl_there hatk.out h0 (by rw [show k-1=j by have:=HKJ.out;omega,hyd.out];exact eqPlace_iff.1 HR2.out),hnl.out]
          exact HL.out.below HB4.out (Nat.le_refl _)
      | false=>
        have hpn:Hid (putPl l p=l.take k ++ [p]++l.drop k):=(show _=_ from putPl_new hatk.out (by rw [show k-1=j by have:=HKJ.out;omega,hyd.out];exact fun h=>eqPlace_no.1 HR2.out h.2))
        clear h0;have hs4:=HB4.out.size;have F0:=Own.fresh0 encPlace 2 37 w4;have R1:=((HL.out.below HB4.out (Nat.le_refl _)).take (m:=k) (c':=c) hk ⟨by omega,Nat.le_refl _⟩).alloc (.cells #[] 37);have RL:=Lib.hid (HL.out.below HB4.out (Nat.le_refl _));obtain ⟨q0,q1⟩:=CELLS.out w4 HB4.out;have st:=to_pl (some ⟨b,off,none⟩) n c k (by omega);obtain ⟨A',sf,hA'⟩:=from_pl (some ⟨b,off,none⟩) n c k hk hcap.1;have HA':=Lib.hid hA';clear hA'
        go_wp2_with (first
         | (at_builtin;refine wpList_append_to elPlace (fun _=>rfl) onePlace rfl _ _ rfl _ _ _ _ rfl rfl F0 R1 (by omega) (by decide) (by simp) k (by omega) (l.take k) (by simp) ?_;intro A2 c2 w5 hO5 hg5 hA5
            have HB5:=Lib.hid ((HB4.out.alloc hs4 (.cells #[] 37)).grown hg5 (by simp;omega) (fun j e=>Nat.le_trans hs4 (F0.ltB j e)))
            have hs45:w4.heap.size≤w5.heap.size:=(by have:=hg5.size;simp at this;omega)
            have HG5:=Lib.hid ((Below.refl w4.heap.size w4).alloc (Nat.le_refl _) (.cells #[] 37) |>.grown hg5 (by simp) (fun j e=>F0.ltB j e));obtain ⟨s0,s1⟩:=CELLS.out w5 HB5.out;have F5:=hO5.alloc (.cells #[.int .i64 p.pit,.int .i64 p.layer] 37);have R5:=Rd.single (enc:=encPlace) (k:=2) w5 #[.int .i64 p.pit,.int .i64 p.layer] 37 [p] 1 rfl (by omega) (fun _=>rfl) (by simp [encPlace])
            clear hO5 hg5 hA5 F0 R1)
         | (at_builtin;refine wpList_append_to elPlace (fun _=>rfl) onePlace rfl _ _ rfl _ _ _ _ rfl rfl F5 R5 (by omega) (by decide) (by simp;omega) (k+1) (by omega) (l.take k ++ [p]) rfl ?_;intro A3 c3 w6 hO6 hg6 hA6
            have HG6:=Lib.hid ((HG5.out.alloc hs45 (.cells #[.int .i64 p.pit,.int .i64 p.layer] 37)).grown hg6 (by simp;omega) (fun j e=>F5.ltB j e));have HO6:=Lib.hid hO6;have hs46:=HG6.out.size
            clear hO6 hg6 hA6 F5 R5)
         | (at_builtin;refine wpList_append_to elPlace (fun _=>rfl) onePlace rfl _ _ rfl _ _ _ _ rfl rfl HO6.out ((RL.out.below HG6.out (Nat.le_refl _)).drop (m:=k) hk HA'.out) (by omega) (by decide) hs46 (n+1) (by omega) (l.take k ++ [p]++l.drop k) rfl ?_;intro A4 c4 w7 hO7 hg7 hA7
            have HB7:=Lib.hid (HB4.out.trans ((HG6.out.grown hg7 hs46 (fun j e=>HO6.out.ltB j e)).mono hs4));have HO7:=Lib.hid hO7
            clear hO7 hg7 hA7))
        go_ret
        have hl7:(l.take k ++ [p]++l.drop k).length=n+1:=(by simp [hnl.out];omega)
        refine ⟨A4,c4,?_,?_,hb1.trans (HB7.out.mono (by omega))⟩
        · rw [hpn.out,hl7];rfl
        · rw [hpn.out,hl7];exact HO7.out.rd (fun _=>rfl) (by omega)
structure Room (W:World) (g m:Nat):Prop where
 at_:∃ (cs:Array Value) (t:TypeId),W.heap[g]? = some (.cells cs t (0,0))∧m≤cs.size
theorem Room.cell {W:World} {g m o:Nat} (h:Room W g m) (ho:o<m):∃ v,W.cell? ⟨g,o,none⟩=some v:=by
 obtain ⟨cs,t,h1,h2⟩:=h.at_;exact ⟨cs[o]'(by omega),by simp [World.cell?,h1,Array.getElem?_eq_getElem (show o<cs.size by omega)]⟩
theorem Room.free {W:World} {g m:Nat} (h:Room W g m) (o:Nat):W.frozen? ⟨g,o,none⟩=false:=by
 obtain ⟨cs,t,h1,h2⟩:=h.at_;simp [World.frozen?,h1]
theorem Room.lt {W:World} {g m:Nat} (h:Room W g m):g<W.heap.size:=by
 obtain ⟨cs,t,h1,h2⟩:=h.at_;exact (Array.getElem?_eq_some_iff.1 h1).1
theorem Room.setCell {W:World} {g m:Nat} (h:Room W g m) (o:Nat) (v:Value):Room (W.setCell ⟨g,o,none⟩ v) g m:=by
 obtain ⟨cs,t,h1,h2⟩:=h.at_;exact ⟨_,t,heap_setCell_obj h1,by simpa using h2⟩
theorem grown_drew (w:World) (row:Option Nat):w.grownBy w.drew row:=⟨rfl,rfl,rfl,Nat.le_refl _,fun _ _ _=>rfl⟩
theorem grown_alloc {w W:World} {row:Option Nat} (h:w.grownBy W row) (o:Obj):w.grownBy (W.alloc o) row:=
 ⟨h.os,h.tape,h.output,by have:=h.size;simp;omega,fun i hi hne=>(Below.heap_alloc _ _ i (by have:=h.size;omega)).trans (h.block i hi hne)⟩
theorem grown_trans {w W W':World} {row:Option Nat} (h:w.grownBy W row) (h2:W.grownBy W' row):w.grownBy W' row:=
 ⟨h2.os.trans h.os,h2.tape.trans h.tape,h2.output.trans h.output,by have:=h.size;have:=h2.size;omega,fun i hi hne=>(h2.block i (by have:=h.size;omega) hne).trans (h.block i hi hne)⟩
theorem grown_cell {w W:World} {row:Option Nat} (h:w.grownBy W row) {b o:Nat} (hb:b<w.heap.size) (hne:some b≠row):W.cell? ⟨b,o,none⟩=w.cell? ⟨b,o,none⟩:=World.cell?_of_block (h.block b hb hne)
def eqBond (x y:Bond):Bool:=decide (x=y)
theorem equalInBond (d:Nat) (a b c e r a' b' c' e' r':Int) (w:World):(Op.equalIn (d+3) 50 (.agg #[.int .i64 a,.int .i64 b,.int .i64 c,.int .i64 e,.int .i64 r]) (.agg #[.int .i64 a',.int .i64 b',.int .i64 c',.int .i64 e',.int .i64 r'])).run Tryz.prog w
 = .ok (eqBond ⟨⟨a,b⟩,⟨c,e⟩,r⟩ ⟨⟨a',b'⟩,⟨c',e'⟩,r'⟩) w:=by
 have hS:Tryz.prog.underlying 50=some (.struct (Tryz.prog.fieldsOf 50)):=by kernel_rfl
 have hp:Tryz.prog.stoodInHeld 50=false:=by kernel_rfl
 have hP:=fun a b a' b'=>equalInPlace d a b a' b' w
 rw [run_equalIn_agg w (d+2) 50 _ _ hS hp];simp only [Program.fieldsOf,Tryz.underlying50];go_simp;simp only [eqBond,Bond.mk.injEq]
 (repeat' split)<;>simp_all
@[go_sem ↓ high] theorem neqBond (a b c e r a' b' c' e' r':Int) (w:World):
   (binOp .neq 50 (.agg #[.int .i64 a,.int .i64 b,.int .i64 c,.int .i64 e,.int .i64 r]) (.agg #[.int .i64 a',.int .i64 b',.int .i64 c',.int .i64 e',.int .i64 r'])).run Tryz.prog w
     = .ok (.bool (!eqBond ⟨⟨a,b⟩,⟨c,e⟩,r⟩ ⟨⟨a',b'⟩,⟨c',e'⟩,r'⟩)) w:=by
  rw [run_neq_struct,show (10000:Nat)=9997+3 from rfl,equalInBond];rfl
@[go_sem ↓ high] theorem eqGuardBond (op:BinOp) (x y:Operand) (xs ys:Array Value) (w:World):(eqGuard op 50 x y (.agg xs) (.agg ys)).run Tryz.prog w = .ok () w:=
  run_eqGuard_agg w op 50 x y xs ys (by kernel_rfl)
theorem rplaces_any (A:Option Addr) (n c:Nat) (ts:List Trace) (B:Option Addr) (m d:Nat) (bs:List Bond) (w:World) (hl:Rd encTrace 10 w A n c ts) (hb:Rd encBond 5 w B m d bs) (hn:n≤100000) (hm:m≤100000):
 Calls Tryz.prog 82 #[.slice A n c,.slice B m d] w fun e w'=> ∃ A' c',e = .returned (.slice A' (placesOf ts bs).length c')∧Rd encPlace 2 w' A' (placesOf ts bs).length c' (placesOf ts bs)∧Below w.heap.size w w':=by
 have hnl:=Lib.hid hl.len;have hml:=Lib.hid hb.len;have HL:=Lib.hid hl;have HB:=Lib.hid hb;clear hl hb;go_enter Tryz.func82,Tryz.ntmps82;go_wp2;go_loopw [5,6] (fun s5 s6 wr=> ∃ (i:Nat) (A':Option Addr) (c':Nat) (xs:List Place),i≤n∧s5 = .slice A' xs.length c'∧s6 = .int .i64 i∧Hid (Below w.heap.size w wr)∧Hid (((ts.take i).flatMap plT).foldl putPl []=xs)∧Hid (Rd encPlace 2 wr A' xs.length c' xs)∧xs.length≤2 * i) (fun _ s6 _=>n-(intOf s6).toNat)
 case atStart=>exact ⟨0,none,0,[],Nat.zero_le _,rfl,rfl,(show Below _ _ _ from Below.refl _ _),(show _=_ from rfl),(show Rd _ _ _ _ _ _ _ from Rd.none_ _ _ (by omega)),by simp⟩
 case round=>
  rename World=>wo;obtain ⟨i,A',c',xs,hi,rfl,rfl,hbl,hxs,hR,hxl⟩:=hrel;have hzr:=hbl.out.size;by_cases hlt:i<n
  · obtain ⟨b,off,x,rfl,hbw,hx,hcell⟩:=(HL.out.below hbl.out (Nat.le_refl _)).one hlt
    have c0:wo.cell? ⟨b,off+i * 10,none⟩=some (.int .i64 x.id):=hcell 0 _ rfl;have c1:wo.cell? ⟨b,off+i * 10+1,none⟩=some (.int .i64 x.known):=hcell 1 _ rfl;have c2:wo.cell? ⟨b,off+i * 10+2,none⟩=some (.int .u8 x.kind):=hcell 2 _ rfl;have c3:wo.cell? ⟨b,off+i * 10+3,none⟩=some (.int .i64 x.pit):=hcell 3 _ rfl;have c4:wo.cell? ⟨b,off+i * 10+4,none⟩=some (.int .i64 x.layer):=hcell 4 _ rfl;have c5:wo.cell? ⟨b,off+i * 10+5,none⟩=some (.int .i64 x.lower):=hcell 5 _ rfl;have c6:wo.cell? ⟨b,off+i * 10+6,none⟩=some (.int .i64 x.low):=hcell 6 _ rfl;have c7:wo.cell? ⟨b,off+i * 10+7,none⟩=some (.int .i64 x.high):=hcell 7 _ rfl;have c8:wo.cell? ⟨b,off+i * 10+8,none⟩=some (.int .i64 x.cost):=hcell 8 _ rfl;have c9:wo.cell? ⟨b,off+i * 10+9,none⟩=some (.int .i64 x.void):=hcell 9 _ rfl;have HX:=Lib.hid hx
    have CE:Hid (∀ W,Below wo.heap.size wo W→W.cell? ⟨b,off+i * 10+2,none⟩=some (.int .u8 x.kind)∧W.cell? ⟨b,off+i * 10+3,none⟩=some (.int .i64 x.pit)∧W.cell? ⟨b,off+i * 10+5,none⟩=some (.int .i64 x.lower)):=
     (show ∀ W,Below wo.heap.size wo W→W.cell? ⟨b,off+i * 10+2,none⟩=some (.int .u8 x.kind)∧W.cell? ⟨b,off+i * 10+3,none⟩=some (.int .i64 x.pit)∧W.cell? ⟨b,off+i * 10+5,none⟩=some (.int .i64 x.lower) from
       fun W h=>⟨(h.cell (p:=⟨b,_,none⟩) hbw).trans c2,(h.cell (p:=⟨b,_,none⟩) hbw).trans c3,(h.cell (p:=⟨b,_,none⟩) hbw).trans c5⟩)
    have SN:Hid (((ts.take (i+1)).flatMap plT).foldl putPl []=(plT x).foldl putPl xs):=(show _=_ by
     rw [List.take_add_one,HX.out,Option.toList_some,List.flatMap_append,List.foldl_append,hxs.out];simp)
    clear hcell hx
    go_upto_region 5 with (fail)
    go_region_with (go_at_call 129;(with_reducible refine (rPut_any A' xs.length c' xs ⟨x.pit,x.layer⟩ wo.drew hR.out.drew (by omega)).mono ?_);rintro e w2 ⟨A2,c2',rfl,hR2,hb2⟩
                    have HR2:=Lib.hid hR2;have HB2:=Lib.hid (hbl.out.drew.trans (hb2.mono hzr));have HB3:=Lib.hid (show Below wo.heap.size wo w2 from (Below.refl wo.heap.size wo).drew.trans hb2)
                    clear hR2 hb2)
    all_goals
     obtain ⟨e2,e3,e5⟩:=CE.out w2 HB3.out
     have hbw2:b<w2.heap.size:=(by have:=HB3.out.size;omega)
     have hl2:=putPl_len xs ⟨x.pit,x.layer⟩;have hs2:=HB2.out.size;clear c0 c1 c2 c3 c4 c5 c6 c7 c8 c9
     rcases two_ x.kind 1 with ⟨k1,k2,k3⟩|⟨k1,k2,k3⟩
     all_goals
      have K1:=Lib.hid k1;clear k1
     · go_upto_region 7 with (fail)
       go_region_with (go_at_call 129;(with_reducible refine (rPut_any A2 (putPl xs ⟨x.pit,x.layer⟩).length c2' (putPl xs ⟨x.pit,x.layer⟩) ⟨x.pit,x.lower⟩ w2.drew HR2.out.drew (by omega)).mono ?_);rintro e w3 ⟨A3,c3',rfl,hR3,hb3⟩
                       have HR3:=Lib.hid hR3;have HB4:=Lib.hid (HB2.out.drew.trans (hb3.mono hs2))
                       clear hR3 hb3)
       all_goals
        go_wp2;go_roundw
       all_goals first
        | (simp [intOf];omega)
        | exact ⟨i+1,A3,c3',putPl (putPl xs ⟨x.pit,x.layer⟩) ⟨x.pit,x.lower⟩,by omega,rfl,by go_num,HB4.out,(show _=_ by rw [SN.out];unfold plT;rw [if_pos K1.out];rfl),HR3.out,by have:=putPl_len (putPl xs ⟨x.pit,x.layer⟩) ⟨x.pit,x.lower⟩;omega⟩
     · go_wp2
       go_roundw
       all_goals first
        | (simp [intOf];omega)
        | exact ⟨i+1,A2,c2',putPl xs ⟨x.pit,x.layer⟩,by omega,rfl,by go_num,HB2.out,(show _=_ by rw [SN.out];unfold plT;rw [if_neg K1.out];rfl),HR2.out,by omega⟩
  · have hin:i=n:=by omega
    subst hin
    have hxs2:Hid ((ts.flatMap plT).foldl putPl []=xs):=(show _=_ by have h1:=hxs.out;rwa [List.take_of_length_le (by rw [hnl.out];exact Nat.le_refl _)] at h1)
    clear hxs;go_wp2;go_loopw [5,7] (fun s5 s7 wr=> ∃ (k:Nat) (A2:Option Addr) (c2:Nat) (ys:List Place),k≤m∧s5 = .slice A2 ys.length c2∧s7 = .int .i64 k∧Hid (Below w.heap.size w wr)∧Hid (((bs.take k).flatMap plB).foldl putPl xs=ys)∧Hid (Rd encPlace 2 wr A2 ys.length c2 ys)∧ys.length≤2 * i+2 * k) (fun _ s7 _=>m-(intOf s7).toNat)
    case atStart=>exact ⟨0,A',c',xs,Nat.zero_le _,rfl,rfl,hbl,(show _=_ from rfl),hR,by omega⟩
    case round=>
     rename World=>wp;obtain ⟨k,A2,c2',ys,hk,rfl,rfl,hbk,hys,hR2,hyl⟩:=hrel;have hzk:=hbk.out.size;by_cases hlt2:k<m
     · obtain ⟨b,off,x,rfl,hbw,hx,hcell⟩:=(HB.out.below hbk.out (Nat.le_refl _)).one hlt2
       have c0:wp.cell? ⟨b,off+k * 5,none⟩=some (.int .i64 x.a.pit):=hcell 0 _ rfl;have c1:wp.cell? ⟨b,off+k * 5+1,none⟩=some (.int .i64 x.a.layer):=hcell 1 _ rfl;have c2:wp.cell? ⟨b,off+k * 5+2,none⟩=some (.int .i64 x.b.pit):=hcell 2 _ rfl;have c3:wp.cell? ⟨b,off+k * 5+3,none⟩=some (.int .i64 x.b.layer):=hcell 3 _ rfl;have c4:wp.cell? ⟨b,off+k * 5+4,none⟩=some (.int .i64 x.by_):=hcell 4 _ rfl
       have SN:Hid (((bs.take (k+1)).flatMap plB).foldl putPl xs=putPl (putPl ys x.a) x.b):=(show _=_ by
        rw [List.take_add_one,hx,Option.toList_some,List.flatMap_append,List.foldl_append,hys.out];simp [plB])
       have SX:Hid (∀ W,Below wp.heap.size wp W→Hid (Below wp.heap.size wp W)∧W.cell? ⟨b,off+k * 5,none⟩=some (.int .i64 x.a.pit)∧W.cell? ⟨b,off+k * 5+1,none⟩=some (.int .i64 x.a.layer)∧W.cell? ⟨b,off+k * 5+2,none⟩=some (.int .i64 x.b.pit)∧W.cell? ⟨b,off+k * 5+3,none⟩=some (.int .i64 x.b.layer)):=
        (show ∀ W,Below wp.heap.size wp W→Hid (Below wp.heap.size wp W)∧W.cell? ⟨b,off+k * 5,none⟩=some (.int .i64 x.a.pit)∧W.cell? ⟨b,off+k * 5+1,none⟩=some (.int .i64 x.a.layer)∧W.cell? ⟨b,off+k * 5+2,none⟩=some (.int .i64 x.b.pit)∧W.cell? ⟨b,off+k * 5+3,none⟩=some (.int .i64 x.b.layer) from
          fun W h=>⟨h,(h.cell (p:=⟨b,_,none⟩) hbw).trans c0,(h.cell (p:=⟨b,_,none⟩) hbw).trans c1,(h.cell (p:=⟨b,_,none⟩) hbw).trans c2,(h.cell (p:=⟨b,_,none⟩) hbw).trans c3⟩)
       have hl1:=putPl_len ys ⟨x.a.pit,x.a.layer⟩;have hl2:=putPl_len (putPl ys ⟨x.a.pit,x.a.layer⟩) ⟨x.b.pit,x.b.layer⟩;have HRF:=Lib.hid ((Below.refl wp.heap.size wp).drew);clear hcell hx c0 c1 c2 c3 c4
       go_upto_region 11 with (fail)
       go_region_held3 (fun W=>Hid (Below wp.heap.size wp W)∧W.cell? ⟨b,off+k * 5,none⟩=some (.int .i64 x.a.pit)∧W.cell? ⟨b,off+k * 5+1,none⟩=some (.int .i64 x.a.layer)∧W.cell? ⟨b,off+k * 5+2,none⟩=some (.int .i64 x.b.pit)∧W.cell? ⟨b,off+k * 5+3,none⟩=some (.int .i64 x.b.layer))
        (first|exact SX.out _ HB5.out|exact SX.out _ HB4.out|exact SX.out _ HRF.out)
        (first
          | (go_at_call 129;(with_reducible refine (rPut_any A2 ys.length c2' ys ⟨x.a.pit,x.a.layer⟩ wp.drew hR2.out.drew (by omega)).mono ?_);rintro e w3 ⟨A3,c3',rfl,hR3,hb3⟩
             have HR3:=Lib.hid hR3;have HB4:=Lib.hid (HRF.out.trans hb3);have hs4:=HB4.out.size
             clear hR3 hb3)
          | (go_at_call 129;(with_reducible refine (rPut_any A3 (putPl ys ⟨x.a.pit,x.a.layer⟩).length c3' (putPl ys ⟨x.a.pit,x.a.layer⟩) ⟨x.b.pit,x.b.layer⟩ w3 HR3.out (by omega)).mono ?_);rintro e w4 ⟨A4,c4',rfl,hR4,hb4⟩
             have HR4:=Lib.hid hR4;have HB5:=Lib.hid (HB4.out.trans (hb4.mono hs4))
             clear hR4 hb4))
       all_goals
        go_wp2;go_roundw
       all_goals first
        | (simp [intOf];omega)
        | exact ⟨k+1,A4,c4',putPl (putPl ys ⟨x.a.pit,x.a.layer⟩) ⟨x.b.pit,x.b.layer⟩,by omega,rfl,by go_num,hbk.out.trans (HB5.out.mono hzk),(show _=_ from SN.out),HR4.out,by omega⟩
     · have hkm:k=m:=by omega
       subst hkm
       have hfin:Hid (placesOf ts bs=ys):=(show _=_ by
        have h1:=hys.out;rw [List.take_of_length_le (by rw [hml.out];exact Nat.le_refl _),←hxs2.out,←List.foldl_append] at h1
        rw [←putAll_places];exact h1)
       go_wp2;go_ret;exact ⟨A2,c2',by rw [hfin.out];rfl,by rw [hfin.out];exact hR2.out,hbk.out⟩
end Go.Proofs.YtelnkflmnbhclaaGreat
end
section
namespace Go.Proofs.YtelnkflmnbhclaaGreat
open Go.RowKit Go.Proofs
def codeBond6:Option Code→Code
 | some (.seq _ (.seq _ (.seq (.seq _ (.block _ (.loop (.seq _ (.seq (.block _ (.seq c _)) _))))) _)))=>c
 | _=> .skip
def BondCells (bq off k:Nat) (x:Bond) (w:World):Prop:=∀ W,Below w.heap.size w W→W.cell? ⟨bq,off+k * 5,none⟩=some (.int .i64 x.a.pit)∧W.cell? ⟨bq,off+k * 5+1,none⟩=some (.int .i64 x.a.layer)∧W.cell? ⟨bq,off+k * 5+2,none⟩=some (.int .i64 x.b.pit)∧W.cell? ⟨bq,off+k * 5+3,none⟩=some (.int .i64 x.b.layer)∧W.cell? ⟨bq,off+k * 5+4,none⟩=some (.int .i64 x.by_)
def Trbond1 (bq off n c k:Nat) (x:Bond):List Value:=
 [.slice (some ⟨bq,off,none⟩) n c,.int .i64 k,.pointer (some ⟨bq,off+k * 5,none⟩),.pointer (some ⟨bq,off+k * 5,none⟩),.agg #[.int .i64 x.a.pit,.int .i64 x.a.layer],.bool false,.bool true,.bool true,undef,undef,undef,undef,undef,undef,undef,.bool true,.bool true,undef,undef,undef,undef,undef,undef,undef,undef,undef,undef,undef,.bool true,.bool true,undef,undef,undef,undef,undef,undef,undef,.bool true]
theorem rbond1 (cC:Code) (hc:cC=codeBond6 Tryz.f51.body) (bq off n c k:Nat) (x:Bond) (a:Act) (w:World) (Q:Exit→Act→World→Prop)
 (hT:a.tmps.size=51) (t0:a.tmps.getD 0 undef = .slice (some ⟨bq,off,none⟩) n c) (t3:a.tmps.getD 3 undef = .int .i64 k)
 (CE:BondCells bq off k x w) (hkn:k<n) (h1:isPlaceB x.a.pit x.a.layer=false)
 (hQ:∀ W,Below w.heap.size w W→Q .normal { tmps:=setsL a.tmps 13 (Trbond1 bq off n c k x),defers:=a.defers } W):
 cC.wp Tryz.prog Q a w:=by
 subst hc;unfold codeBond6 Tryz.f51;dsimp only;refine wpIn_wide.1 (wpIn_region_flow (nn:=5) 51 (by kernel_rfl) (by kernel_rfl) (by kernel_rfl) hT (fun i=>(Trbond1 bq off n c k x).getD i undef) (fun W=>Below w.heap.size w W) ((Below.refl _ _).drew) (fun b hE hold=> ?_) hQ);clear hQ;have q0:=hold 0 _ (by kernel_rfl) t0;have q3:=hold 3 _ (by kernel_rfl) t3;simp only [factsL,Trbond1,List.getD_cons_zero,List.getD_cons_succ,Nat.reduceAdd] at hE
 repeat' first|exact steps_nil|refine steps_skip rfl rfl ?_|refine steps_go rfl ?_ ?_
 all_goals (intro W hW;obtain ⟨c0,c1,c2,c3,c4⟩:=CE W hW;simp only [Trbond1,List.getD_cons_zero,List.getD_cons_succ,Nat.reduceAdd])
 all_goals first
  | (refine .inl ?_;go_simp;done)
  | (refine .inl ?_;go_simp;rfl)
  | (refine .inr (.inr ⟨101,#[.agg #[.int .i64 x.a.pit,.int .i64 x.a.layer]],?_,(rIsPlace_any _ _ W).mono ?_⟩)
     · go_simp<;>done
     · rintro e w' ⟨rfl,hb'⟩;exact ⟨by rw [h1],hW.trans (hb'.mono hW.size)⟩)
def Trbond2 (bq off n c k:Nat) (x:Bond):List Value:=
 [.slice (some ⟨bq,off,none⟩) n c,.int .i64 k,.pointer (some ⟨bq,off+k * 5,none⟩),.pointer (some ⟨bq,off+k * 5,none⟩),.agg #[.int .i64 x.a.pit,.int .i64 x.a.layer],.bool true,.bool false,.bool false,.slice (some ⟨bq,off,none⟩) n c,.int .i64 k,.pointer (some ⟨bq,off+k * 5,none⟩),.pointer (some ⟨bq,off+k * 5+2,none⟩),.agg #[.int .i64 x.b.pit,.int .i64 x.b.layer],.bool false,.bool true,.bool true,.bool true,undef,undef,undef,undef,undef,undef,undef,undef,undef,undef,undef,.bool true,.bool true,undef,undef,undef,undef,undef,undef,undef,.bool true]
theorem rbond2 (cC:Code) (hc:cC=codeBond6 Tryz.f51.body) (bq off n c k:Nat) (x:Bond) (a:Act) (w:World) (Q:Exit→Act→World→Prop)
 (hT:a.tmps.size=51) (t0:a.tmps.getD 0 undef = .slice (some ⟨bq,off,none⟩) n c) (t3:a.tmps.getD 3 undef = .int .i64 k)
 (CE:BondCells bq off k x w) (hkn:k<n) (h1:isPlaceB x.a.pit x.a.layer=true) (h2:isPlaceB x.b.pit x.b.layer=false)
 (hQ:∀ W,Below w.heap.size w W→Q .normal { tmps:=setsL a.tmps 13 (Trbond2 bq off n c k x),defers:=a.defers } W):
 cC.wp Tryz.prog Q a w:=by
 subst hc;unfold codeBond6 Tryz.f51;dsimp only;refine wpIn_wide.1 (wpIn_region_flow (nn:=5) 51 (by kernel_rfl) (by kernel_rfl) (by kernel_rfl) hT (fun i=>(Trbond2 bq off n c k x).getD i undef) (fun W=>Below w.heap.size w W) ((Below.refl _ _).drew) (fun b hE hold=> ?_) hQ);clear hQ;have q0:=hold 0 _ (by kernel_rfl) t0;have q3:=hold 3 _ (by kernel_rfl) t3;simp only [factsL,Trbond2,List.getD_cons_zero,List.getD_cons_succ,Nat.reduceAdd] at hE
 repeat' first|exact steps_nil|refine steps_skip rfl rfl ?_|refine steps_go rfl ?_ ?_
 all_goals (intro W hW;obtain ⟨c0,c1,c2,c3,c4⟩:=CE W hW;simp only [Trbond2,List.getD_cons_zero,List.getD_cons_succ,Nat.reduceAdd])
 all_goals first
  | (refine .inl ?_;go_simp;done)
  | (refine .inl ?_;go_simp;rfl)
  | (refine .inr (.inr ⟨101,#[.agg #[.int .i64 x.a.pit,.int .i64 x.a.layer]],?_,(rIsPlace_any _ _ W).mono ?_⟩)
     · go_simp<;>done
     · rintro e w' ⟨rfl,hb'⟩;exact ⟨by rw [h1],hW.trans (hb'.mono hW.size)⟩)
  | (refine .inr (.inr ⟨101,#[.agg #[.int .i64 x.b.pit,.int .i64 x.b.layer]],?_,(rIsPlace_any _ _ W).mono ?_⟩)
     · go_simp<;>done
     · rintro e w' ⟨rfl,hb'⟩;exact ⟨by rw [h2],hW.trans (hb'.mono hW.size)⟩)
def Trbond3 (bq off n c k:Nat) (x:Bond):List Value:=
 [.slice (some ⟨bq,off,none⟩) n c,.int .i64 k,.pointer (some ⟨bq,off+k * 5,none⟩),.pointer (some ⟨bq,off+k * 5,none⟩),.agg #[.int .i64 x.a.pit,.int .i64 x.a.layer],.bool true,.bool false,.bool false,.slice (some ⟨bq,off,none⟩) n c,.int .i64 k,.pointer (some ⟨bq,off+k * 5,none⟩),.pointer (some ⟨bq,off+k * 5+2,none⟩),.agg #[.int .i64 x.b.pit,.int .i64 x.b.layer],.bool true,.bool false,.bool false,.bool false,.slice (some ⟨bq,off,none⟩) n c,.int .i64 k,.pointer (some ⟨bq,off+k * 5,none⟩),.pointer (some ⟨bq,off+k * 5,none⟩),.agg #[.int .i64 x.a.pit,.int .i64 x.a.layer],.slice (some ⟨bq,off,none⟩) n c,.int .i64 k,.pointer (some ⟨bq,off+k * 5,none⟩),.pointer (some ⟨bq,off+k * 5+2,none⟩),.agg #[.int .i64 x.b.pit,.int .i64 x.b.layer],.bool true,.bool true,.bool true,undef,undef,undef,undef,undef,undef,undef,.bool true]
theorem rbond3 (cC:Code) (hc:cC=codeBond6 Tryz.f51.body) (bq off n c k:Nat) (x:Bond) (a:Act) (w:World) (Q:Exit→Act→World→Prop)
 (hT:a.tmps.size=51) (t0:a.tmps.getD 0 undef = .slice (some ⟨bq,off,none⟩) n c) (t3:a.tmps.getD 3 undef = .int .i64 k)
 (CE:BondCells bq off k x w) (hkn:k<n) (h1:isPlaceB x.a.pit x.a.layer=true) (h2:isPlaceB x.b.pit x.b.layer=true) (h3:eqPlace x.a x.b=true)
 (hQ:∀ W,Below w.heap.size w W→Q .normal { tmps:=setsL a.tmps 13 (Trbond3 bq off n c k x),defers:=a.defers } W):
 cC.wp Tryz.prog Q a w:=by
 subst hc;unfold codeBond6 Tryz.f51;dsimp only;refine wpIn_wide.1 (wpIn_region_flow (nn:=5) 51 (by kernel_rfl) (by kernel_rfl) (by kernel_rfl) hT (fun i=>(Trbond3 bq off n c k x).getD i undef) (fun W=>Below w.heap.size w W) ((Below.refl _ _).drew) (fun b hE hold=> ?_) hQ);clear hQ;have q0:=hold 0 _ (by kernel_rfl) t0;have q3:=hold 3 _ (by kernel_rfl) t3;simp only [factsL,Trbond3,List.getD_cons_zero,List.getD_cons_succ,Nat.reduceAdd] at hE
 repeat' first|exact steps_nil|refine steps_skip rfl rfl ?_|refine steps_go rfl ?_ ?_
 all_goals (intro W hW;obtain ⟨c0,c1,c2,c3,c4⟩:=CE W hW;simp only [Trbond3,List.getD_cons_zero,List.getD_cons_succ,Nat.reduceAdd])
 all_goals first
  | (refine .inl ?_;go_simp;done)
  | (refine .inl ?_;go_simp;rfl)
  | (refine .inl ?_;go_simp;exact congrArg Value.bool h3)
  | (refine .inr (.inr ⟨101,#[.agg #[.int .i64 x.a.pit,.int .i64 x.a.layer]],?_,(rIsPlace_any _ _ W).mono ?_⟩)
     · go_simp<;>done
     · rintro e w' ⟨rfl,hb'⟩;exact ⟨by rw [h1],hW.trans (hb'.mono hW.size)⟩)
  | (refine .inr (.inr ⟨101,#[.agg #[.int .i64 x.b.pit,.int .i64 x.b.layer]],?_,(rIsPlace_any _ _ W).mono ?_⟩)
     · go_simp<;>done
     · rintro e w' ⟨rfl,hb'⟩;exact ⟨by rw [h2],hW.trans (hb'.mono hW.size)⟩)
def Trbond4 (bq off n c k:Nat) (x:Bond):List Value:=
 [.slice (some ⟨bq,off,none⟩) n c,.int .i64 k,.pointer (some ⟨bq,off+k * 5,none⟩),.pointer (some ⟨bq,off+k * 5,none⟩),.agg #[.int .i64 x.a.pit,.int .i64 x.a.layer],.bool true,.bool false,.bool false,.slice (some ⟨bq,off,none⟩) n c,.int .i64 k,.pointer (some ⟨bq,off+k * 5,none⟩),.pointer (some ⟨bq,off+k * 5+2,none⟩),.agg #[.int .i64 x.b.pit,.int .i64 x.b.layer],.bool true,.bool false,.bool false,.bool false,.slice (some ⟨bq,off,none⟩) n c,.int .i64 k,.pointer (some ⟨bq,off+k * 5,none⟩),.pointer (some ⟨bq,off+k * 5,none⟩),.agg #[.int .i64 x.a.pit,.int .i64 x.a.layer],.slice (some ⟨bq,off,none⟩) n c,.int .i64 k,.pointer (some ⟨bq,off+k * 5,none⟩),.pointer (some ⟨bq,off+k * 5+2,none⟩),.agg #[.int .i64 x.b.pit,.int .i64 x.b.layer],.bool false,.bool false,.bool false,.slice (some ⟨bq,off,none⟩) n c,.int .i64 k,.pointer (some ⟨bq,off+k * 5,none⟩),.pointer (some ⟨bq,off+k * 5+4,none⟩),.int .i64 x.by_,.bool false,.bool true,.bool true]
theorem rbond4 (cC:Code) (hc:cC=codeBond6 Tryz.f51.body) (bq off n c k:Nat) (x:Bond) (a:Act) (w:World) (Q:Exit→Act→World→Prop)
 (hT:a.tmps.size=51) (t0:a.tmps.getD 0 undef = .slice (some ⟨bq,off,none⟩) n c) (t3:a.tmps.getD 3 undef = .int .i64 k)
 (CE:BondCells bq off k x w) (hkn:k<n) (h1:isPlaceB x.a.pit x.a.layer=true) (h2:isPlaceB x.b.pit x.b.layer=true) (h3:eqPlace x.a x.b=false) (h4:inB x.by_ 1 1000000=false)
 (hQ:∀ W,Below w.heap.size w W→Q .normal { tmps:=setsL a.tmps 13 (Trbond4 bq off n c k x),defers:=a.defers } W):
 cC.wp Tryz.prog Q a w:=by
 subst hc;unfold codeBond6 Tryz.f51;dsimp only;refine wpIn_wide.1 (wpIn_region_flow (nn:=5) 51 (by kernel_rfl) (by kernel_rfl) (by kernel_rfl) hT (fun i=>(Trbond4 bq off n c k x).getD i undef) (fun W=>Below w.heap.size w W) ((Below.refl _ _).drew) (fun b hE hold=> ?_) hQ);clear hQ;have q0:=hold 0 _ (by kernel_rfl) t0;have q3:=hold 3 _ (by kernel_rfl) t3;simp only [factsL,Trbond4,List.getD_cons_zero,List.getD_cons_succ,Nat.reduceAdd] at hE
 repeat' first|exact steps_nil|refine steps_skip rfl rfl ?_|refine steps_go rfl ?_ ?_
 all_goals (intro W hW;obtain ⟨c0,c1,c2,c3,c4⟩:=CE W hW;simp only [Trbond4,List.getD_cons_zero,List.getD_cons_succ,Nat.reduceAdd])
 all_goals first
  | (refine .inl ?_;go_simp;done)
  | (refine .inl ?_;go_simp;rfl)
  | (refine .inl ?_;go_simp;exact congrArg Value.bool h3)
  | (refine .inr (.inr ⟨101,#[.agg #[.int .i64 x.a.pit,.int .i64 x.a.layer]],?_,(rIsPlace_any _ _ W).mono ?_⟩)
     · go_simp<;>done
     · rintro e w' ⟨rfl,hb'⟩;exact ⟨by rw [h1],hW.trans (hb'.mono hW.size)⟩)
  | (refine .inr (.inr ⟨101,#[.agg #[.int .i64 x.b.pit,.int .i64 x.b.layer]],?_,(rIsPlace_any _ _ W).mono ?_⟩)
     · go_simp<;>done
     · rintro e w' ⟨rfl,hb'⟩;exact ⟨by rw [h2],hW.trans (hb'.mono hW.size)⟩)
  | (refine .inr (.inr ⟨102,#[.int .i64 x.by_,.int .i64 1,.int .i64 1000000],?_,(rWithin_any _ _ _ W).mono ?_⟩)
     · go_simp<;>done
     · rintro e w' ⟨rfl,rfl⟩;exact ⟨by rw [h4],hW⟩)
def Trbond5 (bq off n c k:Nat) (x:Bond):List Value:=
 [.slice (some ⟨bq,off,none⟩) n c,.int .i64 k,.pointer (some ⟨bq,off+k * 5,none⟩),.pointer (some ⟨bq,off+k * 5,none⟩),.agg #[.int .i64 x.a.pit,.int .i64 x.a.layer],.bool true,.bool false,.bool false,.slice (some ⟨bq,off,none⟩) n c,.int .i64 k,.pointer (some ⟨bq,off+k * 5,none⟩),.pointer (some ⟨bq,off+k * 5+2,none⟩),.agg #[.int .i64 x.b.pit,.int .i64 x.b.layer],.bool true,.bool false,.bool false,.bool false,.slice (some ⟨bq,off,none⟩) n c,.int .i64 k,.pointer (some ⟨bq,off+k * 5,none⟩),.pointer (some ⟨bq,off+k * 5,none⟩),.agg #[.int .i64 x.a.pit,.int .i64 x.a.layer],.slice (some ⟨bq,off,none⟩) n c,.int .i64 k,.pointer (some ⟨bq,off+k * 5,none⟩),.pointer (some ⟨bq,off+k * 5+2,none⟩),.agg #[.int .i64 x.b.pit,.int .i64 x.b.layer],.bool false,.bool false,.bool false,.slice (some ⟨bq,off,none⟩) n c,.int .i64 k,.pointer (some ⟨bq,off+k * 5,none⟩),.pointer (some ⟨bq,off+k * 5+4,none⟩),.int .i64 x.by_,.bool true,.bool false,.bool false]
theorem rbond5 (cC:Code) (hc:cC=codeBond6 Tryz.f51.body) (bq off n c k:Nat) (x:Bond) (a:Act) (w:World) (Q:Exit→Act→World→Prop)
 (hT:a.tmps.size=51) (t0:a.tmps.getD 0 undef = .slice (some ⟨bq,off,none⟩) n c) (t3:a.tmps.getD 3 undef = .int .i64 k)
 (CE:BondCells bq off k x w) (hkn:k<n) (h1:isPlaceB x.a.pit x.a.layer=true) (h2:isPlaceB x.b.pit x.b.layer=true) (h3:eqPlace x.a x.b=false) (h4:inB x.by_ 1 1000000=true)
 (hQ:∀ W,Below w.heap.size w W→Q .normal { tmps:=setsL a.tmps 13 (Trbond5 bq off n c k x),defers:=a.defers } W):
 cC.wp Tryz.prog Q a w:=by
 subst hc;unfold codeBond6 Tryz.f51;dsimp only;refine wpIn_wide.1 (wpIn_region_flow (nn:=5) 51 (by kernel_rfl) (by kernel_rfl) (by kernel_rfl) hT (fun i=>(Trbond5 bq off n c k x).getD i undef) (fun W=>Below w.heap.size w W) ((Below.refl _ _).drew) (fun b hE hold=> ?_) hQ);clear hQ;have q0:=hold 0 _ (by kernel_rfl) t0;have q3:=hold 3 _ (by kernel_rfl) t3;simp only [factsL,Trbond5,List.getD_cons_zero,List.getD_cons_succ,Nat.reduceAdd] at hE
 repeat' first|exact steps_nil|refine steps_skip rfl rfl ?_|refine steps_go rfl ?_ ?_
 all_goals (intro W hW;obtain ⟨c0,c1,c2,c3,c4⟩:=CE W hW;simp only [Trbond5,List.getD_cons_zero,List.getD_cons_succ,Nat.reduceAdd])
 all_goals first
  | (refine .inl ?_;go_simp;done)
  | (refine .inl ?_;go_simp;rfl)
  | (refine .inl ?_;go_simp;exact congrArg Value.bool h3)
  | (refine .inr (.inr ⟨101,#[.agg #[.int .i64 x.a.pit,.int .i64 x.a.layer]],?_,(rIsPlace_any _ _ W).mono ?_⟩)
     · go_simp<;>done
     · rintro e w' ⟨rfl,hb'⟩;exact ⟨by rw [h1],hW.trans (hb'.mono hW.size)⟩)
  | (refine .inr (.inr ⟨101,#[.agg #[.int .i64 x.b.pit,.int .i64 x.b.layer]],?_,(rIsPlace_any _ _ W).mono ?_⟩)
     · go_simp<;>done
     · rintro e w' ⟨rfl,hb'⟩;exact ⟨by rw [h2],hW.trans (hb'.mono hW.size)⟩)
  | (refine .inr (.inr ⟨102,#[.int .i64 x.by_,.int .i64 1,.int .i64 1000000],?_,(rWithin_any _ _ _ W).mono ?_⟩)
     · go_simp<;>done
     · rintro e w' ⟨rfl,rfl⟩;exact ⟨by rw [h4],hW⟩)
open Go.Shelf
theorem bond_ways (x:Bond):(isPlaceB x.a.pit x.a.layer=false∧wrongBond x=true)∨(isPlaceB x.a.pit x.a.layer=true∧isPlaceB x.b.pit x.b.layer=false∧wrongBond x=true)∨(isPlaceB x.a.pit x.a.layer=true∧isPlaceB x.b.pit x.b.layer=true∧eqPlace x.a x.b=true∧wrongBond x=true)∨
 (isPlaceB x.a.pit x.a.layer=true∧isPlaceB x.b.pit x.b.layer=true∧eqPlace x.a x.b=false∧inB x.by_ 1 1000000=false∧wrongBond x=true)∨(isPlaceB x.a.pit x.a.layer=true∧isPlaceB x.b.pit x.b.layer=true∧eqPlace x.a x.b=false∧inB x.by_ 1 1000000=true∧wrongBond x=false):=by
 unfold wrongBond;cases isPlaceB x.a.pit x.a.layer<;>cases isPlaceB x.b.pit x.b.layer<;>cases eqPlace x.a x.b<;>cases inB x.by_ 1 1000000<;>simp
theorem rCheckBonds_any (A:Option Addr) (n c:Nat) (l:List Bond) (w:World) (hl:Rd encBond 5 w A n c l):
 Calls Tryz.prog 51 #[.slice A n c] w fun e w'=>e = .returned (.int .i64 (checkBonds l))∧Below w.heap.size w w':=by
 have hnl:=Lib.hid hl.len;have hbig:=hl.big;have HL:=Lib.hid hl;clear hl;by_cases h60:60<n
 · go_enter Tryz.func51,Tryz.ntmps51
   go_wp2;go_ret;refine ⟨retI ?_,Below.refl _ _⟩;unfold checkBonds;rw [if_pos (by rw [hnl.out];omega)]
 · go_enter Tryz.func51,Tryz.ntmps51
   go_wp2;go_loopw [3] (fun i wr=> ∃ k:Nat,k≤n∧i = .int .i64 k∧Hid (Below w.heap.size w wr)∧Hid ((l.take k).any wrongBond=false)) (fun i _=>n-(intOf i).toNat)
   case atStart=>exact ⟨0,Nat.zero_le _,rfl,(show Below _ _ _ from Below.refl _ _),(show _=_ from rfl)⟩
   case round=>
    obtain ⟨k,hk,rfl,hb,hno⟩:=hrel;have hzr:=hb.out.size;by_cases hlt:k<n
    · obtain ⟨b,off,x,rfl,hbw,hx,hcell⟩:=(HL.out.below hb.out (Nat.le_refl _)).one hlt
      have c0:wr.cell? ⟨b,off+k * 5,none⟩=some (.int .i64 x.a.pit):=hcell 0 _ rfl;have c1:wr.cell? ⟨b,off+k * 5+1,none⟩=some (.int .i64 x.a.layer):=hcell 1 _ rfl;have c2:wr.cell? ⟨b,off+k * 5+2,none⟩=some (.int .i64 x.b.pit):=hcell 2 _ rfl;have c3:wr.cell? ⟨b,off+k * 5+3,none⟩=some (.int .i64 x.b.layer):=hcell 3 _ rfl;have c4:wr.cell? ⟨b,off+k * 5+4,none⟩=some (.int .i64 x.by_):=hcell 4 _ rfl
      have SN:Hid ((l.take (k+1)).any wrongBond=wrongBond x):=(show _=_ by rw [List.take_add_one,hx,Option.toList_some,List.any_append,hno.out];simp)
      have HM:=Lib.hid (List.mem_of_getElem? hx)
      have CE:Hid (∀ W,Below wr.heap.size wr W→W.cell? ⟨b,off+k * 5,none⟩=some (.int .i64 x.a.pit)∧W.cell? ⟨b,off+k * 5+1,none⟩=some (.int .i64 x.a.layer)∧W.cell? ⟨b,off+k * 5+2,none⟩=some (.int .i64 x.b.pit)∧W.cell? ⟨b,off+k * 5+3,none⟩=some (.int .i64 x.b.layer)∧W.cell? ⟨b,off+k * 5+4,none⟩=some (.int .i64 x.by_)):=
       (show ∀ W,Below wr.heap.size wr W→W.cell? ⟨b,off+k * 5,none⟩=some (.int .i64 x.a.pit)∧W.cell? ⟨b,off+k * 5+1,none⟩=some (.int .i64 x.a.layer)∧W.cell? ⟨b,off+k * 5+2,none⟩=some (.int .i64 x.b.pit)∧W.cell? ⟨b,off+k * 5+3,none⟩=some (.int .i64 x.b.layer)∧W.cell? ⟨b,off+k * 5+4,none⟩=some (.int .i64 x.by_) from
         fun W hb=>⟨(hb.cell (p:=⟨b,_,none⟩) hbw).trans c0,(hb.cell (p:=⟨b,_,none⟩) hbw).trans c1,(hb.cell (p:=⟨b,_,none⟩) hbw).trans c2,(hb.cell (p:=⟨b,_,none⟩) hbw).trans c3,(hb.cell (p:=⟨b,_,none⟩) hbw).trans c4⟩)
      clear hcell hx
      rcases bond_ways x with ⟨h1,hw⟩|⟨h1,h2,hw⟩|⟨h1,h2,h3,hw⟩|⟨h1,h2,h3,h4,hw⟩|⟨h1,h2,h3,h4,hw⟩
      all_goals
       have HW:=Lib.hid hw;clear hw c0 c1 c2 c3 c4
      all_goals
       (first
         | (have H1:=Lib.hid (And.intro h1 (And.intro h2 (And.intro h3 h4)));clear h1 h2 h3 h4)
         | (have H1:=Lib.hid (And.intro h1 (And.intro h2 h3));clear h1 h2 h3)
         | (have H1:=Lib.hid (And.intro h1 h2);clear h1 h2)
         | (have H1:=Lib.hid h1;clear h1))
       go_upto_region 6 with (fail)
       first
        | refine rbond5 _ rfl b off n c k x _ wr _ rfl rfl rfl CE.out hlt H1.out.1 H1.out.2.1 H1.out.2.2.1 H1.out.2.2.2 ?_
        | refine rbond4 _ rfl b off n c k x _ wr _ rfl rfl rfl CE.out hlt H1.out.1 H1.out.2.1 H1.out.2.2.1 H1.out.2.2.2 ?_
        | refine rbond3 _ rfl b off n c k x _ wr _ rfl rfl rfl CE.out hlt H1.out.1 H1.out.2.1 H1.out.2.2 ?_
        | refine rbond2 _ rfl b off n c k x _ wr _ rfl rfl rfl CE.out hlt H1.out.1 H1.out.2 ?_
        | refine rbond1 _ rfl b off n c k x _ wr _ rfl rfl rfl CE.out hlt H1.out ?_
       intro wI hbI;have HBI:=Lib.hid hbI;clear hbI;simp only [setsL,Trbond1,Trbond2,Trbond3,Trbond4,Trbond5,Nat.reduceAdd,List.setIfInBounds_toArray,List.set_cons_succ,List.set_cons_zero];go_wp2
       first
        | (go_ret
           refine ⟨retI ?_,hb.out.trans (HBI.out.mono hzr)⟩;unfold checkBonds
           rw [if_neg (by rw [hnl.out];omega),if_pos (List.any_eq_true.2 ⟨x,HM.out,HW.out⟩)])
        | go_roundw
      all_goals first
       | (simp [intOf];omega)
       | exact ⟨k+1,by omega,by go_num,hb.out.trans (HBI.out.mono hzr),(show _=_ by rw [SN.out];exact HW.out)⟩
    · have hkn:k=n:=by omega
      subst hkn;go_wp2;go_ret;refine ⟨retI ?_,hb.out⟩;have h1:=hno.out;rw [List.take_of_length_le (by rw [hnl.out];exact Nat.le_refl _)] at h1;unfold checkBonds;rw [if_neg (by rw [hnl.out];omega),if_neg (by rw [h1];decide)]
structure AdmAt (W:World) (g:Nat) (p:Place) (y:Admit):Prop where
 at_:W.heap[g]? = some (.cells #[.int .i64 p.pit,.int .i64 p.layer,.int .i64 y.cost,.int .i64 y.by_] 96 (0,0))
theorem AdmAt.cell {W:World} {g:Nat} {p:Place} {y:Admit} (h:AdmAt W g p y):
 W.cell? ⟨g,0,none⟩=some (.int .i64 p.pit)∧W.cell? ⟨g,1,none⟩=some (.int .i64 p.layer)∧W.cell? ⟨g,2,none⟩=some (.int .i64 y.cost)∧W.cell? ⟨g,3,none⟩=some (.int .i64 y.by_)∧W.frozen? ⟨g,2,none⟩=false∧W.frozen? ⟨g,3,none⟩=false:=by
 have h1:=h.at_;refine ⟨?_,?_,?_,?_,?_,?_⟩<;>simp [World.cell?,World.frozen?,h1]
theorem admStepR_yes {p:Place} {x:Admit} {t:Trace} (h:t.kind=3) (h1:t.pit=p.pit) (h2:t.layer=p.layer):admStepR p x t=⟨p,t.cost,t.id⟩:=by unfold admStepR;rw [if_pos ⟨h,h1,h2⟩]
theorem admStepR_no {p:Place} {x:Admit} {t:Trace} (h:¬(t.kind=3∧t.pit=p.pit∧t.layer=p.layer)):admStepR p x t=x:=by unfold admStepR;rw [if_neg h]
theorem admStepR_place (p:Place):∀ (ts:List Trace) (x:Admit),x.place=p→(ts.foldl (admStepR p) x).place=p
 | [],x,h=>h
 | t::ts,x,h=>by
   rw [List.foldl_cons];refine admStepR_place p ts _ ?_;unfold admStepR
   split
   · rfl
   · exact h
theorem rmovable_any (A:Option Addr) (n c:Nat) (ts:List Trace) (w:World) (hl:Rd encTrace 10 w A n c ts) (hn:n≤100000):
 Calls Tryz.prog 84 #[.slice A n c] w fun e w'=> ∃ A' c',e = .returned (.slice A' (admitsOf ts).length c')∧Rd encAdmit 4 w' A' (admitsOf ts).length c' (admitsOf ts)∧Below w.heap.size w w':=by
 have hnl:=Lib.hid hl.len;have HL:=Lib.hid hl;clear hl;go_enter Tryz.func84,Tryz.ntmps84;go_wp2;go_loopw [3,4] (fun s3 s4 wr=> ∃ (i:Nat) (A':Option Addr) (c':Nat) (xs:List Place),i≤n∧s3 = .slice A' xs.length c'∧s4 = .int .i64 i∧Hid (Below w.heap.size w wr)∧Hid ((movedPl (ts.take i)).foldl putPl []=xs)∧Hid (Rd encPlace 2 wr A' xs.length c' xs)∧xs.length≤i) (fun _ s4 _=>n-(intOf s4).toNat)
 case atStart=>exact ⟨0,none,0,[],Nat.zero_le _,rfl,rfl,(show Below _ _ _ from Below.refl _ _),(show _=_ from rfl),(show Rd _ _ _ _ _ _ _ from Rd.none_ _ _ (by omega)),by simp⟩
 case round=>
  rename World=>wo;obtain ⟨i,A',c',xs,hi,rfl,rfl,hbl,hxs,hR,hxl⟩:=hrel;have hzr:=hbl.out.size;by_cases hlt:i<n
  · obtain ⟨b,off,x,rfl,hbw,hx,hcell⟩:=(HL.out.below hbl.out (Nat.le_refl _)).one hlt
    have c0:wo.cell? ⟨b,off+i * 10,none⟩=some (.int .i64 x.id):=hcell 0 _ rfl;have c1:wo.cell? ⟨b,off+i * 10+1,none⟩=some (.int .i64 x.known):=hcell 1 _ rfl;have c2:wo.cell? ⟨b,off+i * 10+2,none⟩=some (.int .u8 x.kind):=hcell 2 _ rfl;have c3:wo.cell? ⟨b,off+i * 10+3,none⟩=some (.int .i64 x.pit):=hcell 3 _ rfl;have c4:wo.cell? ⟨b,off+i * 10+4,none⟩=some (.int .i64 x.layer):=hcell 4 _ rfl;have c5:wo.cell? ⟨b,off+i * 10+5,none⟩=some (.int .i64 x.lower):=hcell 5 _ rfl;have c6:wo.cell? ⟨b,off+i * 10+6,none⟩=some (.int .i64 x.low):=hcell 6 _ rfl;have c7:wo.cell? ⟨b,off+i * 10+7,none⟩=some (.int .i64 x.high):=hcell 7 _ rfl;have c8:wo.cell? ⟨b,off+i * 10+8,none⟩=some (.int .i64 x.cost):=hcell 8 _ rfl;have c9:wo.cell? ⟨b,off+i * 10+9,none⟩=some (.int .i64 x.void):=hcell 9 _ rfl
    have SN:Hid ((movedPl (ts.take (i+1))).foldl putPl []=if x.kind=3 then putPl xs ⟨x.pit,x.layer⟩ else xs):=(show _=_ by
     rw [List.take_add_one,hx,Option.toList_some];unfold movedPl at hxs ⊢;rw [List.filter_append,List.map_append,List.foldl_append,hxs.out];by_cases h3:x.kind=3
     · rw [if_pos h3,List.filter_cons_of_pos (by simpa using h3)];rfl
     · rw [if_neg h3,List.filter_cons_of_neg (by simpa using h3)];rfl)
    clear hcell hx
    rcases two_ x.kind 3 with ⟨k1,k2,k3⟩|⟨k1,k2,k3⟩
    all_goals
     have K1:=Lib.hid k1;clear k1
    · go_upto_region 6 with (fail)
      go_region_with (go_at_call 129;(with_reducible refine (rPut_any A' xs.length c' xs ⟨x.pit,x.layer⟩ wo.drew hR.out.drew (by omega)).mono ?_);rintro e w2 ⟨A2,c2',rfl,hR2,hb2⟩
                      have HR2:=Lib.hid hR2;have HB2:=Lib.hid (hbl.out.drew.trans (hb2.mono hzr))
                      clear hR2 hb2)
      all_goals
       go_wp2;go_roundw
      all_goals first
       | (simp [intOf];omega)
       | exact ⟨i+1,A2,c2',putPl xs ⟨x.pit,x.layer⟩,by omega,rfl,by go_num,HB2.out,(show _=_ by rw [SN.out,if_pos K1.out]),HR2.out,by have:=putPl_len xs ⟨x.pit,x.layer⟩;omega⟩
    · go_wp2
      go_roundw
      all_goals first
       | (simp [intOf];omega)
       | exact ⟨i+1,A',c',xs,by omega,rfl,by go_num,hbl.out,(show _=_ by rw [SN.out,if_neg K1.out]),hR.out,by omega⟩
  · have hin:i=n:=by omega
    subst hin
    have hads:Hid (admitsOf ts=xs.map (admR ts)):=(show _=_ by
     have h1:=hxs.out;rw [List.take_of_length_le (by rw [hnl.out];exact Nat.le_refl _)] at h1
     rw [admitsOf_eq,h1])
    clear hxs;go_wp2;go_loopw [5,6] (fun s5 s6 wr=> ∃ (k:Nat) (A2:Option Addr) (c2:Nat) (ys:List Admit),k≤xs.length∧s5 = .slice A2 ys.length c2∧s6 = .int .i64 k∧Hid (Below wo.heap.size wo wr)∧Hid ((xs.take k).map (admR ts)=ys)∧Hid (Own encAdmit 4 96 wo.heap.size wr A2 ys.length c2 ys)) (fun _ s6 _=>xs.length-(intOf s6).toNat)
    case atStart=>exact ⟨0,none,0,[],Nat.zero_le _,rfl,rfl,(show Below _ _ _ from Below.refl _ _),(show _=_ from rfl),(show Own _ _ _ _ _ _ _ _ _ from Own.none_ _ _ _ _ _)⟩
    case round=>
     rename World=>wp;obtain ⟨k,A2,c2,ys,hk,rfl,rfl,hbk,hys,hO⟩:=hrel;have hzk:=hbk.out.size;by_cases hlt2:k<xs.length
     · obtain ⟨b2,off2,p,rfl,hbw2,hp,hcell⟩:=(hR.out.below hbk.out (Nat.le_refl _)).one hlt2
       have p0:wp.cell? ⟨b2,off2+k * 2,none⟩=some (.int .i64 p.pit):=hcell 0 _ rfl;have p1:wp.cell? ⟨b2,off2+k * 2+1,none⟩=some (.int .i64 p.layer):=hcell 1 _ rfl
       have hyl:ys.length≤100000:=(by have h1:=hys.out;rw [←h1,List.length_map,List.length_take];omega)
       have SN:Hid ((xs.take (k+1)).map (admR ts)=ys ++ [admR ts p]):=(show _=_ by rw [List.take_add_one,hp,Option.toList_some,List.map_append,hys.out];rfl)
       have HPX:=Lib.hid hp;clear hcell hp;go_wp2;have hb0:Below wo.heap.size wo (wp.alloc (.cells #[.int .i64 p.pit,.int .i64 p.layer,.int .i64 0,.int .i64 0] 96)):=hbk.out.alloc hzk _
       have hA0:AdmAt (wp.alloc (.cells #[.int .i64 p.pit,.int .i64 p.layer,.int .i64 0,.int .i64 0] 96)) wp.heap.size p ⟨p,0,0⟩:=⟨heap_alloc_new wp _⟩
       have hO0:=hO.out.alloc (.cells #[.int .i64 p.pit,.int .i64 p.layer,.int .i64 0,.int .i64 0] 96)
       have hne:Hid (A2=none∨blockOf A2≠some wp.heap.size):=(show A2=none∨blockOf A2≠some wp.heap.size by
        rcases hO.out.form with ⟨e,_⟩|⟨g,rfl,_,hg⟩
        · exact .inl e
        · right;intro e;simp [blockOf] at e;omega)
       have hpe:Hid (∀ W,Below wo.heap.size wo W→W.cell? ⟨b2,off2+k * 2,none⟩=some (.int .i64 p.pit)∧W.cell? ⟨b2,off2+k * 2+1,none⟩=some (.int .i64 p.layer)):=(show ∀ W,Below wo.heap.size wo W→W.cell? ⟨b2,off2+k * 2,none⟩=some (.int .i64 p.pit)∧W.cell? ⟨b2,off2+k * 2+1,none⟩=some (.int .i64 p.layer) from fun W h=>by
        obtain ⟨b3,off3,q,e,hb3,hq,hc3⟩:=(hR.out.below h (Nat.le_refl _)).one hlt2;cases e;have hq':xs[k]? = some p:=HPX.out;rw [hq] at hq';cases hq'
        exact ⟨hc3 0 _ rfl,hc3 1 _ rfl⟩)
       have HB0:=Lib.hid hb0;have HA0:=Lib.hid hA0;have HO0:=Lib.hid hO0;have hgs:wo.heap.size≤wp.heap.size:=hzk;clear hb0 hA0 hO0 p0 p1;go_loopw [8] (fun s8 wr=> ∃ (q:Nat) (y:Admit),q≤i∧s8 = .int .i64 q∧Hid (Below wo.heap.size wo wr)∧Hid ((ts.take q).foldl (admStepR p) ⟨p,0,0⟩=y)∧Hid (AdmAt wr wp.heap.size p y)∧Hid (Own encAdmit 4 96 wo.heap.size wr A2 ys.length c2 ys)) (fun s8 _=>i-(intOf s8).toNat)
       case atStart=>exact ⟨0,⟨p,0,0⟩,Nat.zero_le _,rfl,HB0,(show _=_ from rfl),HA0,HO0⟩
       case round=>
        obtain ⟨q,y,hq,rfl,hbq,hyq,hAq,hOq⟩:=hrel;have hzq:=hbq.out.size;have hgl:wp.heap.size<wr.heap.size:=(Array.getElem?_eq_some_iff.1 hAq.out.at_).1;obtain ⟨a0,a1,a2,a3,f2,f3⟩:=hAq.out.cell;by_cases hlt3:q<i
        · obtain ⟨b,off,x,rfl,hbw,hx,hcell⟩:=(HL.out.below (hbl.out.trans (hbq.out.mono hzr)) (Nat.le_refl _)).one hlt3
          have c0:wr.cell? ⟨b,off+q * 10,none⟩=some (.int .i64 x.id):=hcell 0 _ rfl;have c1:wr.cell? ⟨b,off+q * 10+1,none⟩=some (.int .i64 x.known):=hcell 1 _ rfl;have c2:wr.cell? ⟨b,off+q * 10+2,none⟩=some (.int .u8 x.kind):=hcell 2 _ rfl;have c3:wr.cell? ⟨b,off+q * 10+3,none⟩=some (.int .i64 x.pit):=hcell 3 _ rfl;have c4:wr.cell? ⟨b,off+q * 10+4,none⟩=some (.int .i64 x.layer):=hcell 4 _ rfl;have c5:wr.cell? ⟨b,off+q * 10+5,none⟩=some (.int .i64 x.lower):=hcell 5 _ rfl;have c6:wr.cell? ⟨b,off+q * 10+6,none⟩=some (.int .i64 x.low):=hcell 6 _ rfl;have c7:wr.cell? ⟨b,off+q * 10+7,none⟩=some (.int .i64 x.high):=hcell 7 _ rfl;have c8:wr.cell? ⟨b,off+q * 10+8,none⟩=some (.int .i64 x.cost):=hcell 8 _ rfl;have c9:wr.cell? ⟨b,off+q * 10+9,none⟩=some (.int .i64 x.void):=hcell 9 _ rfl;obtain ⟨p0,p1⟩:=hpe.out wr hbq.out
          have hb2w:b2<wr.heap.size:=(by omega)
          obtain ⟨bb,oo,eb,hbb,_⟩:=HL.out.at_ (show 0<i by omega);cases eb
          have hbg:¬b=wp.heap.size:=(by omega)
          have hbg2:¬wp.heap.size=b:=(by omega)
          have SQ:Hid ((ts.take (q+1)).foldl (admStepR p) ⟨p,0,0⟩=admStepR p y x):=(show _=_ by rw [List.take_add_one,hx,Option.toList_some,List.foldl_append,hyq.out];rfl)
          clear hcell hx
          rcases two_ x.kind 3 with ⟨k1,k2,k3⟩|⟨k1,k2,k3⟩
          all_goals
           have K1:=Lib.hid k1;clear k1
          · rcases two_ x.pit p.pit with ⟨v1,v2,v3⟩|⟨v1,v2,v3⟩
            all_goals
             have V1:=Lib.hid v1;clear v1
            · rcases two_ x.layer p.layer with ⟨u1,u2,u3⟩|⟨u1,u2,u3⟩
              all_goals
               have U1:=Lib.hid u1;clear u1
              · go_wp2_with (go_quiet (fail))
                go_roundw
                all_goals first
                 | (simp [intOf];omega)
                 | (refine ⟨q+1,⟨p,x.cost,x.id⟩,by omega,by go_num,?_,(show _=_ by rw [SQ.out,admStepR_yes K1.out V1.out U1.out]),?_,?_⟩
                    · exact (show Below _ _ _ from ((below_drewN' hbq.out _).setCell (p:=⟨wp.heap.size,2,none⟩) hgs _).setCell (p:=⟨wp.heap.size,3,none⟩) hgs _)
                    · exact (show AdmAt _ _ _ _ from ⟨by rw [heap_setCell_obj (heap_setCell_obj (show (wr.drewN _).heap[wp.heap.size]? = _ from hAq.out.at_))];rfl⟩)
                    · exact (show Own _ _ _ _ _ _ _ _ _ from ((hOq.out.drewN _).kept (grownBy_setCell' _ _ _ _) hne.out).kept (grownBy_setCell' _ _ _ _) hne.out))
              · go_wp2_with (go_quiet (fail))
                go_roundw
                all_goals first
                 | (simp [intOf];omega)
                 | exact ⟨q+1,y,by omega,by go_num,(show Below _ _ _ from below_drewN' hbq.out _),(show _=_ by rw [SQ.out,admStepR_no (fun h=>U1.out h.2.2)]),(show AdmAt _ _ _ _ from ⟨hAq.out.at_⟩),(show Own _ _ _ _ _ _ _ _ _ from hOq.out.drewN _)⟩
            · go_wp2_with (go_quiet (fail))
              go_roundw
              all_goals first
               | (simp [intOf];omega)
               | exact ⟨q+1,y,by omega,by go_num,(show Below _ _ _ from below_drewN' hbq.out _),(show _=_ by rw [SQ.out,admStepR_no (fun h=>V1.out h.2.1)]),(show AdmAt _ _ _ _ from ⟨hAq.out.at_⟩),(show Own _ _ _ _ _ _ _ _ _ from hOq.out.drewN _)⟩
          · go_wp2_with (go_quiet (fail))
            go_roundw
            all_goals first
             | (simp [intOf];omega)
             | exact ⟨q+1,y,by omega,by go_num,(show Below _ _ _ from below_drewN' hbq.out _),(show _=_ by rw [SQ.out,admStepR_no (fun h=>K1.out h.1)]),(show AdmAt _ _ _ _ from ⟨hAq.out.at_⟩),(show Own _ _ _ _ _ _ _ _ _ from hOq.out.drewN _)⟩
        · have hqi:q=i:=by omega
          subst hqi
          have hyf:Hid (admR ts p=y):=(show _=_ by
           have h1:=hyq.out
           rwa [List.take_of_length_le (by rw [hnl.out];exact Nat.le_refl _)] at h1)
          have hyp:Hid (y.place=p):=(show _=_ by rw [←hyf.out];exact admStepR_place p ts _ rfl)
          have hO5:=hOq.out.alloc (.cells #[.int .i64 p.pit,.int .i64 p.layer,.int .i64 y.cost,.int .i64 y.by_] 96);have hrd5:=Rd.single (enc:=encAdmit) (k:=4) wr #[.int .i64 p.pit,.int .i64 p.layer,.int .i64 y.cost,.int .i64 y.by_] 96 [y] 1 rfl (by omega) (fun _=>rfl) (by simp [encAdmit,hyp.out]);have HB5:=Lib.hid (hbq.out.alloc hzq (.cells #[.int .i64 p.pit,.int .i64 p.layer,.int .i64 y.cost,.int .i64 y.by_] 96))
          go_wp2_with (at_builtin;refine wpList_append_src elAdmit (fun _=>rfl) oneAdmit rfl _ _ rfl _ _ _ _ rfl rfl hO5 hrd5 (by omega) (by decide) (by simp;omega) ?_;intro A6 c6 w6 hO6 hg6 hA6
                       have HB6:=Lib.hid (HB5.out.grown hg6 (by simp;omega) (fun j e=>hO5.ltB j e));have HO6:=Lib.hid hO6
                       clear hO6 hg6 hA6)
          go_roundw
          all_goals first
           | (simp [intOf];omega)
           | exact ⟨k+1,A6,c6,ys ++ [y],by omega,by simp,by go_num,HB6.out,(show _=_ by rw [SN.out,hyf.out]),(show Own _ _ _ _ _ _ _ _ _ by rw [List.length_append];exact HO6.out)⟩
     · have hkx:k=xs.length:=by omega
       subst hkx
       have hfin:Hid (admitsOf ts=ys):=(show _=_ by
        have h1:=hys.out;rw [List.take_of_length_le (Nat.le_refl _)] at h1
        rw [hads.out,h1])
       have hyl:ys.length≤100000:=(by have h1:=hys.out;rw [←h1,List.length_map,List.length_take];omega)
       go_wp2;go_ret;exact ⟨A2,c2,by rw [hfin.out];rfl,by rw [hfin.out];exact hO.out.rd (fun _=>rfl) (by omega),hbl.out.trans (hbk.out.mono hzr)⟩
theorem rAsked_any (A:Option Addr) (n c:Nat) (l:List Trace) (known:Int) (B:Option Addr) (m d:Nat) (bs:List Bond) (w:World) (hl:Rd encTrace 10 w A n c l) (hb:Rd encBond 5 w B m d bs):
 Calls Tryz.prog 80 #[.slice A n c,.int .i64 known,.slice B m d] w fun e w'=>e = .returned (.int .i64 (askErr l known bs))∧Below w.heap.size w w':=by
 have HL:=Lib.hid hl;have HB:=Lib.hid hb;have HC:=Lib.hid (rCheck_any A n c l w hl);clear hl hb
 rcases askErr_cases l known bs with ⟨h1,hv⟩|⟨h1,h2,hv⟩|⟨h1,h2,h3,hv⟩|⟨h1,h2,h3,h4,hv⟩|⟨h1,h2,h3,h4,hv⟩
 · rw [hv]
   have h1':=neBool h1;have h1'':((check l).2==0)=false:=beq_eq_false_iff_ne.2 h1;clear hv;go_enter Tryz.func80,Tryz.ntmps80;go_wp2_with (go_at_call 43;(with_reducible refine HC.out.mono ?_);rintro e w2 ⟨rfl,hb2⟩;have HB2:=Lib.hid hb2;clear hb2);go_ret;exact ⟨rfl,HB2.out⟩
 · rw [hv]
   rw [h1] at HC;have h2':=neBool h2;clear hv h1
   obtain ⟨cb,hcb⟩:∃ cb,checkBonds bs=cb:=⟨_,rfl⟩
   rw [hcb] at h2' ⊢;have HCB:=Lib.hid hcb;clear h2 hcb;go_enter Tryz.func80,Tryz.ntmps80
   go_wp2_with (first
    | (go_at_call 43;(with_reducible refine HC.out.mono ?_);rintro e w2 ⟨rfl,hb2⟩
       have HK:=Lib.hid (rCheckBonds_any B m d bs w2 (HB.out.below hb2 (Nat.le_refl _)));rw [HCB.out] at HK;have HB2:=Lib.hid hb2
       clear hb2)
    | (go_at_call 51;(with_reducible refine HK.out.mono ?_);rintro e w3 ⟨rfl,hb3⟩
       have HB3:=Lib.hid (HB2.out.trans (hb3.mono HB2.out.size))
       clear hb3))
   go_ret;exact ⟨rfl,HB3.out⟩
 all_goals
  rw [hv];rw [h1] at HC;have hs1:=check_small h1;have hs2:=checkBonds_small h2;have hln:=HL.out.len;have hbn:=HB.out.len;have hn1:n≤140:=by omega
  have hm1:m≤60:=by omega
  have hcl:(counting l known).length≤140:=Nat.le_trans (List.length_filter_le _ _) hs1;have HCB:=Lib.hid h2;clear hv h1 h2 hs1 hs2 hln hbn
  obtain ⟨ts,hts⟩:∃ ts,counting l known=ts:=⟨_,rfl⟩
  have HTS:=Lib.hid hts;rw [hts] at h3 hcl
  (first|rw [hts] at h4|skip)
  clear hts;go_enter Tryz.func80,Tryz.ntmps80
  go_wp2_with (first
   | (go_at_call 43;(with_reducible refine HC.out.mono ?_);rintro e w2 ⟨rfl,hb2⟩
      have HK:=Lib.hid (rCheckBonds_any B m d bs w2 (HB.out.below hb2 (Nat.le_refl _)));rw [HCB.out] at HK;have HB2:=Lib.hid hb2
      clear hb2)
   | (go_at_call 51;(with_reducible refine HK.out.mono ?_);rintro e w3 ⟨rfl,hb3⟩
      have HB3:=Lib.hid (HB2.out.trans (hb3.mono HB2.out.size));have HK2:=Lib.hid (rcounting_any A n c l known w3 (HL.out.below HB3.out (Nat.le_refl _)) (by omega));rw [HTS.out] at HK2
      clear hb3)
   | (go_at_call 83;(with_reducible refine HK2.out.mono ?_);rintro e w4 ⟨A4,m4,c4,rfl,hO4,hb4⟩
      have HB4:=Lib.hid (HB3.out.trans (hb4.mono HB3.out.size));have hm4:=hO4.len;have HR4:=Lib.hid (hO4.rd (fun _=>rfl) (by omega))
      have hm5:m4≤140:=(by omega)
      have HK3:=Lib.hid (rplaces_any A4 m4 c4 ts B m d bs w4 HR4.out (HB.out.below HB4.out (Nat.le_refl _)) (by omega) (by omega))
      clear hb4 hO4 hm4)
   | (go_at_call 82;(with_reducible refine HK3.out.mono ?_);rintro e w5 ⟨A5,c5,rfl,hR5,hb5⟩
      have HB5:=Lib.hid (HB4.out.trans (hb5.mono HB4.out.size));have HK4:=Lib.hid (rmovable_any A4 m4 c4 ts w5 (HR4.out.below hb5 (Nat.le_refl _)) (by omega))
      clear hb5 hR5)
   | (go_at_call 84;(with_reducible refine HK4.out.mono ?_);rintro e w6 ⟨A6,c6,rfl,hR6,hb6⟩
      have HB6:=Lib.hid (HB5.out.trans (hb6.mono HB5.out.size))
      clear hb6 hR6))
  go_ret
  first
   | exact ⟨rfl,HB6.out⟩
   | exact ⟨rfl,HB5.out⟩
theorem onOk_zero {α:Type} (xs:List α):onOk 0 xs=xs:=by unfold onOk;rw [if_pos rfl]
theorem onOk_err {α:Type} {e:Int} (h:e≠0) (xs:List α):onOk e xs = []:=by unfold onOk;rw [if_neg h]
end Go.Proofs.YtelnkflmnbhclaaGreat
end

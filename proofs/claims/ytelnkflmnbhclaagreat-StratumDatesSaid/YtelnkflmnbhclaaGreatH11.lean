/- Contracts that the laws lean on: Open2, CDaR, Keep, CDat, RCdR, RCdS, RCdt, DatL. -/
import Derived.Test.YtelnkflmnbhclaaGreatH01
import Derived.Test.YtelnkflmnbhclaaGreatK03
import Derived.Test.YtelnkflmnbhclaaGreatK21
import Derived.Test.YtelnkflmnbhclaaGreatH03
import Derived.Test.YtelnkflmnbhclaaGreatH02
import Derived.Test.YtelnkflmnbhclaaGreatH10
import Derived.Test.YtelnkflmnbhclaaGreatK24
section
namespace Go.Proofs.YtelnkflmnbhclaaGreat
open Go.RowKit Go.Proofs Go.ChangeShapes Go.WideShapes Go.Deep
section
variable {H:Type} {enc:TypeId×Value→H} {w:World} {base:Nat} {spare:Nat→Bool} {held:Bool}
set_option maxRecDepth 100000 in
theorem decDating {fuel:Nat} {cs:List Value} {x:DataW H×List MemPlace} (h:DataW.trod enc Tryz.prog w base spare held fuel 140 cs=some x):∃ y:Dating,cs=encDating y:=by
 obtain ⟨xs,m,_,_,hl,hxl,hf⟩:=DataW.trod_struct Tryz.underlying140 h
 rw [show Tryz.prog.cellsOf 140=3 by kernel_rfl] at hl
 match cs,hl with
 | [c0,c1,c2],_=>
   obtain ⟨y0,g0⟩:=field_read hf hxl 0 rfl 37 0 2 rfl rfl cellsPl
   obtain ⟨y1,g1⟩:=field_read hf hxl 1 rfl 3 2 1 rfl rfl cellsInt
   simp only [List.drop_zero,List.drop_succ_cons,List.take_succ_cons,List.take_zero] at g0 g1
   obtain ⟨a,ha⟩:=decPlace g0
   obtain ⟨a1,rfl,_⟩:=one_int Tryz.underlying3 g1
   cases ha
   exact ⟨⟨a,a1⟩,rfl⟩
set_option maxRecDepth 100000 in
theorem decLink {fuel:Nat} {cs:List Value} {x:DataW H×List MemPlace} (h:DataW.trod enc Tryz.prog w base spare held fuel 74 cs=some x):∃ y:Link,cs=encLink y:=by
 obtain ⟨xs,m,_,_,hl,hxl,hf⟩:=DataW.trod_struct Tryz.underlying74 h
 rw [show Tryz.prog.cellsOf 74=6 by kernel_rfl] at hl
 match cs,hl with
 | [c0,c1,c2,c3,c4,c5],_=>
   obtain ⟨y0,g0⟩:=field_read hf hxl 0 rfl 37 0 2 rfl rfl cellsPl
   obtain ⟨y1,g1⟩:=field_read hf hxl 1 rfl 37 2 2 rfl rfl cellsPl
   obtain ⟨y2,g2⟩:=field_read hf hxl 2 rfl 3 4 1 rfl rfl cellsInt
   obtain ⟨y3,g3⟩:=field_read hf hxl 3 rfl 3 5 1 rfl rfl cellsInt
   simp only [List.drop_zero,List.drop_succ_cons,List.take_succ_cons,List.take_zero] at g0 g1 g2 g3
   obtain ⟨a,ha⟩:=decPlace g0
   obtain ⟨b,hb⟩:=decPlace g1
   obtain ⟨a2,rfl,_⟩:=one_int Tryz.underlying3 g2
   obtain ⟨a3,rfl,_⟩:=one_int Tryz.underlying3 g3
   cases ha
   cases hb
   exact ⟨⟨a,b,a2,a3⟩,rfl⟩
end
end Go.Proofs.YtelnkflmnbhclaaGreat
end
section
namespace Go.Proofs.YtelnkflmnbhclaaGreat
open Go.RowKit Go.Proofs
def codeCd8:Option Code→Code
 | some (.seq _ (.seq _ (.seq _ (.seq _ (.seq (.seq _ (.block _ (.loop (.seq _ (.seq _ (.seq (.block _ (.seq _ (.seq (.seq c _) _))) _)))))) _)))))=>c
 | _=> .skip
def CdCells (bq off k pb:Nat) (y:Dating) (p:Place) (w:World):Prop:=∀ W,Below w.heap.size w W→W.cell? ⟨bq,off+k * 3,none⟩=some (.int .i64 y.place.pit)∧W.cell? ⟨bq,off+k * 3+1,none⟩=some (.int .i64 y.place.layer)∧W.cell? ⟨bq,off+k * 3+2,none⟩=some (.int .i64 y.year)∧W.cell? ⟨pb,0,none⟩=some (.int .i64 p.pit)∧W.cell? ⟨pb,1,none⟩=some (.int .i64 p.layer)
def Tcdat1 (bq off n c k _:Nat) (y:Dating) (p:Place):List Value:=
 [.slice (some ⟨bq,off,none⟩) n c,.int .i64 k,.pointer (some ⟨bq,off+k * 3,none⟩),.pointer (some ⟨bq,off+k * 3,none⟩),.agg #[.int .i64 y.place.pit,.int .i64 y.place.layer],.agg #[.int .i64 p.pit,.int .i64 p.layer],.bool true,.bool true,undef,undef,undef,undef,undef,undef,undef,.bool true]
set_option maxRecDepth 100000 in
set_option maxHeartbeats 4000000 in
theorem cdat1 (cC:Code) (hc:cC=codeCd8 Tryz.f56.body) (bq off n c k pb:Nat) (y:Dating) (p:Place) (a:Act) (w:World) (Q:Exit→Act→World→Prop)
 (hT:a.tmps.size=86) (t4:a.tmps.getD 4 undef = .slice (some ⟨bq,off,none⟩) n c) (t16:a.tmps.getD 16 undef = .int .i64 k) (t17:a.tmps.getD 17 undef = .pointer (some ⟨pb,0,none⟩))
 (CE:CdCells bq off k pb y p w) (hkn:k<n) (_:n≤1000000) (h1:eqPlace ⟨y.place.pit,y.place.layer⟩ ⟨p.pit,p.layer⟩=false)
 (hQ:∀ W,Below w.heap.size w W→Q .normal { tmps:=setsL a.tmps 53 (Tcdat1 bq off n c k pb y p),defers:=a.defers } W):
 cC.wp Tryz.prog Q a w:=by
 subst hc
 unfold codeCd8 Tryz.f56
 dsimp only
 refine wpIn_wide.1 (wpIn_region_flow (nn:=5) 86 (by kernel_rfl) (by kernel_rfl) (by kernel_rfl) hT (fun i=>(Tcdat1 bq off n c k pb y p).getD i undef) (fun W=>Below w.heap.size w W) ((Below.refl _ _).drew) (fun b hE hold=> ?_) hQ)
 clear hQ
 have q4:=hold 4 _ (by kernel_rfl) t4
 have q16:=hold 16 _ (by kernel_rfl) t16
 have q17:=hold 17 _ (by kernel_rfl) t17
 simp only [factsL,Tcdat1,List.getD_cons_zero,List.getD_cons_succ,Nat.reduceAdd] at hE
 repeat' first|exact steps_nil|refine steps_skip rfl rfl ?_|refine steps_go rfl ?_ ?_
 all_goals (intro W hW;obtain ⟨y0,y1,y2,p0,p1⟩:=CE W hW;simp only [Tcdat1,List.getD_cons_zero,List.getD_cons_succ,Nat.reduceAdd])
 all_goals first
  | (refine .inl ?_;go_simp;done)
  | (refine .inl ?_;go_simp;rfl)
  | (refine .inl ?_;go_simp;rw [h1];rfl)
def Tcdat2 (bq off n c k _:Nat) (y:Dating) (p:Place):List Value:=
 [.slice (some ⟨bq,off,none⟩) n c,.int .i64 k,.pointer (some ⟨bq,off+k * 3,none⟩),.pointer (some ⟨bq,off+k * 3,none⟩),.agg #[.int .i64 y.place.pit,.int .i64 y.place.layer],.agg #[.int .i64 p.pit,.int .i64 p.layer],.bool false,.bool false,.slice (some ⟨bq,off,none⟩) n c,.int .i64 k,.pointer (some ⟨bq,off+k * 3,none⟩),.pointer (some ⟨bq,off+k * 3+2,none⟩),.int .i64 y.year,.bool false,.bool true,.bool true]
set_option maxRecDepth 100000 in
set_option maxHeartbeats 4000000 in
theorem cdat2 (cC:Code) (hc:cC=codeCd8 Tryz.f56.body) (bq off n c k pb:Nat) (y:Dating) (p:Place) (a:Act) (w:World) (Q:Exit→Act→World→Prop)
 (hT:a.tmps.size=86) (t4:a.tmps.getD 4 undef = .slice (some ⟨bq,off,none⟩) n c) (t16:a.tmps.getD 16 undef = .int .i64 k) (t17:a.tmps.getD 17 undef = .pointer (some ⟨pb,0,none⟩))
 (CE:CdCells bq off k pb y p w) (hkn:k<n) (_:n≤1000000) (h1:eqPlace ⟨y.place.pit,y.place.layer⟩ ⟨p.pit,p.layer⟩=true) (h2:inB y.year (-1000000) 1000000=false)
 (hQ:∀ W,Below w.heap.size w W→Q .normal { tmps:=setsL a.tmps 53 (Tcdat2 bq off n c k pb y p),defers:=a.defers } W):
 cC.wp Tryz.prog Q a w:=by
 subst hc
 unfold codeCd8 Tryz.f56
 dsimp only
 refine wpIn_wide.1 (wpIn_region_flow (nn:=5) 86 (by kernel_rfl) (by kernel_rfl) (by kernel_rfl) hT (fun i=>(Tcdat2 bq off n c k pb y p).getD i undef) (fun W=>Below w.heap.size w W) ((Below.refl _ _).drew) (fun b hE hold=> ?_) hQ)
 clear hQ
 have q4:=hold 4 _ (by kernel_rfl) t4
 have q16:=hold 16 _ (by kernel_rfl) t16
 have q17:=hold 17 _ (by kernel_rfl) t17
 simp only [factsL,Tcdat2,List.getD_cons_zero,List.getD_cons_succ,Nat.reduceAdd] at hE
 repeat' first|exact steps_nil|refine steps_skip rfl rfl ?_|refine steps_go rfl ?_ ?_
 all_goals (intro W hW;obtain ⟨y0,y1,y2,p0,p1⟩:=CE W hW;simp only [Tcdat2,List.getD_cons_zero,List.getD_cons_succ,Nat.reduceAdd])
 all_goals first
  | (refine .inl ?_;go_simp;done)
  | (refine .inl ?_;go_simp;rfl)
  | (refine .inl ?_;go_simp;rw [h1];rfl)
  | (refine .inr (.inr ⟨97,#[.int .i64 y.year,.int .i64 (-1000000),.int .i64 1000000],?_,(in_any _ _ _ W).mono ?_⟩)
     · go_simp<;>done
     · rintro e w' ⟨rfl,rfl⟩;exact ⟨by rw [h2],hW⟩)
def Tcdat3 (bq off n c k _:Nat) (y:Dating) (p:Place):List Value:=
 [.slice (some ⟨bq,off,none⟩) n c,.int .i64 k,.pointer (some ⟨bq,off+k * 3,none⟩),.pointer (some ⟨bq,off+k * 3,none⟩),.agg #[.int .i64 y.place.pit,.int .i64 y.place.layer],.agg #[.int .i64 p.pit,.int .i64 p.layer],.bool false,.bool false,.slice (some ⟨bq,off,none⟩) n c,.int .i64 k,.pointer (some ⟨bq,off+k * 3,none⟩),.pointer (some ⟨bq,off+k * 3+2,none⟩),.int .i64 y.year,.bool true,.bool false,.bool false]
set_option maxRecDepth 100000 in
set_option maxHeartbeats 4000000 in
theorem cdat3 (cC:Code) (hc:cC=codeCd8 Tryz.f56.body) (bq off n c k pb:Nat) (y:Dating) (p:Place) (a:Act) (w:World) (Q:Exit→Act→World→Prop)
 (hT:a.tmps.size=86) (t4:a.tmps.getD 4 undef = .slice (some ⟨bq,off,none⟩) n c) (t16:a.tmps.getD 16 undef = .int .i64 k) (t17:a.tmps.getD 17 undef = .pointer (some ⟨pb,0,none⟩))
 (CE:CdCells bq off k pb y p w) (hkn:k<n) (_:n≤1000000) (h1:eqPlace ⟨y.place.pit,y.place.layer⟩ ⟨p.pit,p.layer⟩=true) (h2:inB y.year (-1000000) 1000000=true)
 (hQ:∀ W,Below w.heap.size w W→Q .normal { tmps:=setsL a.tmps 53 (Tcdat3 bq off n c k pb y p),defers:=a.defers } W):
 cC.wp Tryz.prog Q a w:=by
 subst hc
 unfold codeCd8 Tryz.f56
 dsimp only
 refine wpIn_wide.1 (wpIn_region_flow (nn:=5) 86 (by kernel_rfl) (by kernel_rfl) (by kernel_rfl) hT (fun i=>(Tcdat3 bq off n c k pb y p).getD i undef) (fun W=>Below w.heap.size w W) ((Below.refl _ _).drew) (fun b hE hold=> ?_) hQ)
 clear hQ
 have q4:=hold 4 _ (by kernel_rfl) t4
 have q16:=hold 16 _ (by kernel_rfl) t16
 have q17:=hold 17 _ (by kernel_rfl) t17
 simp only [factsL,Tcdat3,List.getD_cons_zero,List.getD_cons_succ,Nat.reduceAdd] at hE
 repeat' first|exact steps_nil|refine steps_skip rfl rfl ?_|refine steps_go rfl ?_ ?_
 all_goals (intro W hW;obtain ⟨y0,y1,y2,p0,p1⟩:=CE W hW;simp only [Tcdat3,List.getD_cons_zero,List.getD_cons_succ,Nat.reduceAdd])
 all_goals first
  | (refine .inl ?_;go_simp;done)
  | (refine .inl ?_;go_simp;rfl)
  | (refine .inl ?_;go_simp;rw [h1];rfl)
  | (refine .inr (.inr ⟨97,#[.int .i64 y.year,.int .i64 (-1000000),.int .i64 1000000],?_,(in_any _ _ _ W).mono ?_⟩)
     · go_simp<;>done
     · rintro e w' ⟨rfl,rfl⟩;exact ⟨by rw [h2],hW⟩)
end Go.Proofs.YtelnkflmnbhclaaGreat
end
section
namespace Go.Proofs.YtelnkflmnbhclaaGreat
open Go.RowKit Go.Proofs Go.Shelf
def brokenP (xs:List Int) (b:Bound):Bool:=decide (b.most<xs.getD b.dst.toNat 0-xs.getD b.src.toNat 0)
def PredIn {α:Type} (P:Program) (g:Nat) (lb:Array Value) (enc:α→Value) (p:α→Bool) (l:List α) (w:World):Prop:=
 ∀ (W:World) (x:α),x∈l→Below w.heap.size w W→Calls P g (#[enc x]++lb) W fun e w'=>e = .returned (.bool (p x))∧Below w.heap.size w w'
set_option maxHeartbeats 1000000 in
theorem IndexFuncIn_Bound (g:Nat) (lb:Array Value) (eg:∀ args w,(callFunc g args).run Tryz.prog w = .ok (.enter g args) w) (p:Bound→Bool) (A:Option Addr) (n c:Nat) (l:List Bound) (w:World)
 (hl:Rd encBound 4 w A n c l) (hp:PredIn Tryz.prog g lb (fun x=> .agg (encBound x).toArray) p l w):
 Calls Tryz.prog 243 #[.slice A n c,.func (.func g) #[] lb] w fun e w'=>e = .returned (.int .i64 (idxI p l))∧Below w.heap.size w w':=by
 have hbig:=hl.big
 go_enter Tryz.func243,Tryz.ntmps243
 go_wp2
 go_loopw [5,8] (fun _ i wr=> ∃ k:Nat,k≤n∧i = .int .i64 k∧Below w.heap.size w wr∧Hid (∀ j x,j<k→l[j]? = some x→p x=false)) (fun _ i _=>n-(intOf i).toNat)
 case atStart=>exact ⟨0,Nat.zero_le _,rfl,Below.refl _ _,fun j x h=>absurd h (by omega)⟩
 case round=>
  obtain ⟨k,hk,rfl,hb,hno⟩:=hrel
  by_cases hlt:k<n
  · obtain ⟨b,off,x,rfl,hbw,hx,hcell⟩:=(hl.below hb (Nat.le_refl _)).one hlt
    have hlen:=hl.len
    have c0:wr.cell? ⟨b,off+k * 4,none⟩=some (.int .i64 x.src):=hcell 0 _ rfl
    have c1:wr.cell? ⟨b,off+k * 4+1,none⟩=some (.int .i64 x.dst):=hcell 1 _ rfl
    have c2:wr.cell? ⟨b,off+k * 4+2,none⟩=some (.int .i64 x.most):=hcell 2 _ rfl
    have c3:wr.cell? ⟨b,off+k * 4+3,none⟩=some (.int .i64 x.by_):=hcell 3 _ rfl
    have hcall:=hp wr x (List.mem_of_getElem? hx) hb
    simp only [encBound] at hcall
    clear hcell hp hl
    cases hq:p x with
    | true=>
      rw [hq] at hcall
      have HQ:=Lib.hid hq
      have HX:=Lib.hid hx
      clear hq hx hlen
      go_wp2_with (go_at_fn g;refine hcall.mono ?_;rintro e w' ⟨rfl,hb'⟩)
      go_ret
      refine ⟨?_,hb'⟩
      rw [idxI_hit p l k x HX.out HQ.out hno.out]
      rfl
    | false=>
      rw [hq] at hcall
      have HQ:=Lib.hid hq
      have HX:=Lib.hid hx
      clear hq hx hlen
      go_wp2_with (go_at_fn g;refine hcall.mono ?_;rintro e w' ⟨rfl,hb'⟩)
      go_roundw
      case rel=>
       refine ⟨k+1,by omega,by go_num,hb',fun j y hj hy=> ?_⟩
       by_cases e:j=k
       · subst e
         rw [HX.out] at hy
         cases hy
         exact HQ.out
       · exact hno.out j y (by omega) hy
      case measure=>simp [intOf];omega
  · have:k=n:=by omega
    subst this
    have hlen:=hl.len
    go_wp2
    go_ret
    refine ⟨?_,hb⟩
    rw [idxI_miss p l (fun j x hj=>hno.out j x (by have:=(List.getElem?_eq_some_iff.1 hj).1;omega) hj)]
    rfl
theorem ent_broken1:∀ args w,(callFunc 246 args).run Tryz.prog w = .ok (.enter 246 args) w:=enters_of Tryz.func246 (by kernel_rfl) rfl
set_option maxHeartbeats 2000000 in
set_option maxRecDepth 100000 in
theorem broken1 (X:Option Addr) (nX cX:Nat) (xs:List Int) (bx:Nat) (bs:List Bound) (w:World) (hX:Rd encInt 1 w X nX cX xs) (c0:w.cell? ⟨bx,0,none⟩=some (.slice X nX cX)) (hlt:bx<w.heap.size)
 (hb:∀ b∈bs,0≤b.src∧b.src<nX∧0≤b.dst∧b.dst<nX) (_:nX≤60) (hs:∀ x∈xs,-1000000000≤x∧x≤1000000000):
 PredIn Tryz.prog 246 #[.pointer (some ⟨bx,0,none⟩)] (fun x=> .agg (encBound x).toArray) (brokenP xs) bs w:=by
 intro W x hx hbl
 have hz:=hbl.size
 simp only [encBound,List.append_toArray,List.cons_append,List.nil_append]
 obtain ⟨s1,s2,s3,s4⟩:=hb x hx
 obtain ⟨i,hi⟩:∃ i:Nat,x.src=(i:Int):=⟨x.src.toNat,by omega⟩
 obtain ⟨k,hk⟩:∃ k:Nat,x.dst=(k:Int):=⟨x.dst.toNat,by omega⟩
 have hi2:i<nX:=by omega
 have hk2:k<nX:=by omega
 obtain ⟨b,off,xi,rfl,hbw,hxi,hci⟩:=(hX.below hbl (Nat.le_refl _)).one hi2
 obtain ⟨b2,off2,xk,e2,_,hxk,hck⟩:=(hX.below hbl (Nat.le_refl _)).one hk2
 cases e2
 have m1:=hs _ (List.mem_of_getElem? hxi)
 have m2:=hs _ (List.mem_of_getElem? hxk)
 have g1:W.cell? ⟨bx,0,none⟩=some (.slice (some ⟨b,off,none⟩) nX cX):=(hbl.cell (p:=⟨bx,0,none⟩) hlt).trans c0
 have g2:W.cell? ⟨b,off+i,none⟩=some (.int .i64 xi):=(by have:=hci 0 _ rfl;simpa using this)
 have g3:W.cell? ⟨b,off+k,none⟩=some (.int .i64 xk):=(by have:=hck 0 _ rfl;simpa using this)
 have hv:Hid (brokenP xs x=decide (x.most<xk-xi)):=(show _=_ by
  unfold brokenP
  rw [hi,hk,Int.toNat_natCast,Int.toNat_natCast,List.getD_eq_getElem?_getD,List.getD_eq_getElem?_getD,hxi,hxk];rfl)
 have hbx:bx<W.heap.size:=by omega
 have hw0:IntKind.i64.wrap (xk-xi)=xk-xi:=(by rw [IntKind.wrap_i64];omega)
 have HBL:=Lib.hid hbl
 clear hci hck hxi hxk hX hbl s1 s2 s3 s4 hb hs c0 hz
 rw [hi,hk]
 rw [hv.out]
 have HI:=Lib.hid (And.intro hi hk)
 clear hi hk
 go_enter Tryz.func246,Tryz.ntmps246
 go_wp2_with (go_quiet (fail))
 go_ret
 exact ⟨rfl,by have:=(HBL.out.alloc (by have:=HBL.out.size;omega) (.cells #[.int .i64 i,.int .i64 k,.int .i64 x.most,.int .i64 x.by_] 186));exact below_drewN' this _⟩
theorem broken_any (pts:Int) (A:Option Addr) (n c:Nat) (bs:List Bound) (X:Option Addr) (nX cX:Nat) (xs:List Int) (w:World) (hl:Rd encBound 4 w A n c bs) (hX:Rd encInt 1 w X nX cX xs)
 (hb:∀ b∈bs,0≤b.src∧b.src<nX∧0≤b.dst∧b.dst<nX) (hn:nX≤60) (hs:∀ x∈xs,-1000000000≤x∧x≤1000000000):
 Calls Tryz.prog 212 #[.agg #[.int .i64 pts,.slice A n c],.slice X nX cX] w fun e w'=>e = .returned (.int .i64 (idxI (brokenP xs) bs))∧Below w.heap.size w w':=by
 obtain ⟨W1,hW1⟩:∃ W1,(w.alloc (.cells #[.int .i64 pts,.slice A n c] 117)).alloc (.cells #[.slice X nX cX] 101)=W1:=⟨_,rfl⟩
 have hb1:Below w.heap.size w W1:=by rw [←hW1];exact ((Below.refl _ w).alloc (Nat.le_refl _) _).alloc (by simp) _
 have hz1:W1.heap.size=w.heap.size+2:=by rw [←hW1];simp
 have c0:W1.cell? ⟨w.heap.size+1,0,none⟩=some (.slice X nX cX):=by rw [←hW1,World.cell?_alloc_at _ _ _ _ (by simp)];rfl
 have hI:=IndexFuncIn_Bound 246 #[.pointer (some ⟨w.heap.size+1,0,none⟩)] ent_broken1 (brokenP xs) A n c bs W1 (hl.below hb1 (Nat.le_refl _)) (broken1 X nX cX xs (w.heap.size+1) bs W1 (hX.below hb1 (Nat.le_refl _)) c0 (by omega) hb hn hs)
 have HI:=Lib.hid hI
 have HZ:=Lib.hid hz1
 have HW:=Lib.hid hW1
 clear hl hX hI c0 hz1 hW1
 generalize idxI (brokenP xs) bs=ix at *
 go_enter Tryz.func212,Tryz.ntmps212
 go_wp2_with (go_at_call 243;rw [HW.out];(with_reducible refine HI.out.mono ?_);rintro e w2 ⟨rfl,hb2⟩;have HB2:=Lib.hid hb2;clear hb2)
 go_ret
 exact ⟨rfl,hb1.trans (HB2.out.mono (by have:=HZ.out;omega))⟩
theorem ent_breaks1:∀ args w,(callFunc 210 args).run Tryz.prog w = .ok (.enter 210 args) w:=enters_of Tryz.func210 (by kernel_rfl) rfl
set_option maxHeartbeats 2000000 in
set_option maxRecDepth 100000 in
theorem breaks1 (pts:Int) (A:Option Addr) (n c:Nat) (bs:List Bound) (X:Option Addr) (nX cX:Nat) (xs:List Int) (b0 b1 b2:Nat) (v0:Value) (w:World) (hl:Rd encBound 4 w A n c bs) (hX:Rd encInt 1 w X nX cX xs) (hok:SysOk pts bs) (hlen:(nX:Int)=pts) (hs:∀ x∈xs,-1000000000≤x∧x≤1000000000)
 (c0:w.cell? ⟨b0,0,none⟩=some (.slice X nX cX)) (c1:w.cell? ⟨b1,0,none⟩=some (.int .i64 pts)) (c2:w.cell? ⟨b1,1,none⟩=some (.slice A n c)) (cn:w.cell? ⟨b2,0,none⟩=some v0) (fn:w.frozen? ⟨b2,0,none⟩=false):
 Calls Tryz.prog 210 #[.pointer (some ⟨b0,0,none⟩),.pointer (some ⟨b1,0,none⟩),.pointer (some ⟨b2,0,none⟩)] w fun e w'=>e = .returned (.int .i64 0)∧GrownT (fun k=>k=b2) w w'∧w'.cell? ⟨b2,0,none⟩=some (.int .i64 (idxI (brokenP xs) bs)):=by
 have hp2:=hok.p2
 have hbr:=broken_any pts A n c bs X nX cX xs w hl hX (fun b hb=>by have:=hok.b b hb;refine ⟨?_,?_,?_,?_⟩<;>omega) (by omega) hs
 have HBR:=Lib.hid hbr
 have HX:=Lib.hid hX
 have HS:=Lib.hid hs
 have zn:=block_lt_of_cell cn
 simp only at zn
 subst hlen
 clear hbr hl hX hok hs
 generalize idxI (brokenP xs) bs=ix at *
 go_enter Tryz.func210,Tryz.ntmps210
 have hee:((nX:Int)==(nX:Int))=true:=(by simp)
 go_wp2_with (go_at_call 211;((with_reducible refine (need_any w).mono ?_);rintro e w2 ⟨rfl,hw2⟩;obtain rfl:=hw2))
 go_loopw [14] (fun i wr=> ∃ k:Nat,k≤nX∧i = .int .i64 k∧Hid (w=wr)) (fun i _=>nX-(intOf i).toNat)
 case atStart=>exact ⟨0,Nat.zero_le _,rfl,(show w=w from rfl)⟩
 case round=>
  obtain ⟨k,hk,rfl,hw⟩:=hrel
  obtain rfl:=hw.out
  by_cases hlt:k<nX
  · obtain ⟨b,off,xk,rfl,hbw,hxk,hcell⟩:=HX.out.one hlt
    have g1:w.cell? ⟨b,off+k,none⟩=some (.int .i64 xk):=(by have:=hcell 0 _ rfl;simpa using this)
    have hwi:withinB xk (-1000000000) 1000000000=true:=withinB_iff.2 (HS.out _ (List.mem_of_getElem? hxk))
    have HWI:=Lib.hid hwi
    clear hcell hxk hwi
    go_wp2_with (first
     | (go_at_call 200;(with_reducible refine (within_any _ _ _ _).mono ?_);rintro e w2 ⟨rfl,hw2⟩;obtain rfl:=hw2.symm;rw [HWI.out])
     | (go_at_call 211;((with_reducible refine (need_any w).mono ?_);rintro e w2 ⟨rfl,hw2⟩;obtain rfl:=hw2)))
    go_roundw
    all_goals first
     | (simp [intOf];omega)
     | exact ⟨k+1,by omega,by go_num,(by first|exact (show True from trivial)|exact (show w=w from rfl))⟩
  · have hkn:k=nX:=by omega
    subst hkn
    go_wp2_with (go_at_call 212;(with_reducible refine HBR.out.mono ?_);rintro e w2 ⟨rfl,hb⟩
                 have d1:w2.cell? ⟨b2,0,none⟩=some v0:=(hb.cell (p:=⟨b2,0,none⟩) zn).trans cn
                 have d2:w2.frozen? ⟨b2,0,none⟩=false:=(hb.frozen (p:=⟨b2,0,none⟩) zn).trans fn)
    go_ret
    exact ⟨rfl,⟨hb.os,hb.tape,hb.output,by simpa using hb.size,fun k hk ht=>(Below.heap_setCell _ _ _ k (show k≠b2 from ht)).trans (hb.block k hk)⟩,World.cell?_setCell_same' _ _ _ (by rw [d1];rfl)⟩
def brkV (xs:List Int) (bs:List Bound):Int:=idxI (brokenP xs) bs
set_option maxHeartbeats 2000000 in
set_option maxRecDepth 100000 in
theorem Breaks_any (pts:Int) (A:Option Addr) (n c:Nat) (bs:List Bound) (X:Option Addr) (nX cX:Nat) (xs:List Int) (w:World) (hl:Rd encBound 4 w A n c bs) (hX:Rd encInt 1 w X nX cX xs) (hk:checkSys pts bs=0) (hlen:(nX:Int)=pts) (hs:∀ x∈xs,-1000000000≤x∧x≤1000000000):
 Calls Tryz.prog 162 #[.agg #[.int .i64 pts,.slice A n c],.slice X nX cX] w fun e w'=> ∃ i:Int,e = .returned (.tuple #[.int .i64 i,.bool (decide (0≤brkV xs bs)),.int .i64 0])∧Below w.heap.size w w':=by
 obtain ⟨W1,hW1⟩:∃ W1,((w.alloc (.cells #[.int .i64 pts,.slice A n c] 117)).alloc (.cells #[.slice X nX cX] 101)).alloc (.cells #[.int .i64 (-1)] 3)=W1:=⟨_,rfl⟩
 have hs1:W1.heap.size=w.heap.size+3:=by rw [←hW1];simp
 have hb1:Below w.heap.size w W1:=by rw [←hW1];exact (((Below.refl _ w).alloc (Nat.le_refl _) _).alloc (by simp<;>omega) _).alloc (by simp<;>omega) _
 have hl1:=hl.below hb1 (Nat.le_refl _)
 have hX1:=hX.below hb1 (Nat.le_refl _)
 have e0:∀ i,W1.cell? ⟨w.heap.size,i,none⟩ = #[Value.int .i64 pts,.slice A n c][i]? := fun i=>by rw [←hW1,World.cell?_alloc_past _ _ _ (by simp<;>omega),World.cell?_alloc_past _ _ _ (by simp<;>omega),World.cell?_alloc_at _ _ _ _ rfl]
 have ea:W1.cell? ⟨w.heap.size+1,0,none⟩=some (.slice X nX cX):=by rw [←hW1,World.cell?_alloc_past _ _ _ (by simp<;>omega),World.cell?_alloc_at _ _ _ _ (by simp<;>omega)];rfl
 have en:W1.cell? ⟨w.heap.size+2,0,none⟩=some (.int .i64 (-1)):=by rw [←hW1,World.cell?_alloc_at _ _ _ _ (by simp<;>omega)];rfl
 have fnz:W1.frozen? ⟨w.heap.size+2,0,none⟩=false:=by rw [←hW1];exact World.frozen?_alloc_at _ _ _ _ (by simp<;>omega)
 have htr:=tried_any pts A n c bs 210 #[.pointer (some ⟨w.heap.size+1,0,none⟩),.pointer (some ⟨w.heap.size,0,none⟩),.pointer (some ⟨w.heap.size+2,0,none⟩)] ent_breaks1 0 W1 hl1 hk
  (fun k=>k=w.heap.size+2) (fun k hk=>by omega) (fun W=>W.cell? ⟨w.heap.size+2,0,none⟩=some (.int .i64 (brkV xs bs))) (fun Wa Wb hf h=>(World.cell?_of_block (a:=⟨w.heap.size+2,0,none⟩) (h (w.heap.size+2) (by omega))).trans hf)
  (fun W hW=>breaks1 pts A n c bs X nX cX xs (w.heap.size+1) w.heap.size (w.heap.size+2) (.int .i64 (-1)) W (hl1.below hW (Nat.le_refl _)) (hX1.below hW (Nat.le_refl _)) (sysOk_of hk) hlen hs
    ((hW.cell (p:=⟨w.heap.size+1,0,none⟩) (show w.heap.size+1<W1.heap.size by omega)).trans ea) ((hW.cell (p:=⟨w.heap.size,0,none⟩) (show w.heap.size<W1.heap.size by omega)).trans (e0 0)) ((hW.cell (p:=⟨w.heap.size,1,none⟩) (show w.heap.size<W1.heap.size by omega)).trans (e0 1))
    ((hW.cell (p:=⟨w.heap.size+2,0,none⟩) (show w.heap.size+2<W1.heap.size by omega)).trans en) ((hW.frozen (p:=⟨w.heap.size+2,0,none⟩) (show w.heap.size+2<W1.heap.size by omega)).trans fnz))
 generalize brkV xs bs=ix at *
 have HT:=Lib.hid htr
 have HW:=Lib.hid hW1
 clear htr hW1 e0 ea en fnz hl hl1 hX hX1 hk hlen hs
 by_cases hi:0≤ix
 · rw [decide_eq_true hi]
   have hi':¬ix<0:=by omega
   clear hi
   go_enter Tryz.func162,Tryz.ntmps162
   go_wp2_with (go_at_call 193;rw [HW.out];refine HT.out.mono ?_;rintro e w2 ⟨rfl,hg,hc⟩)
   go_ret3
   exact ⟨_,rfl,hb1.trans ⟨hg.os,hg.tape,hg.output,by have:=hg.size;omega,fun k hk=>hg.block k (by omega) (by omega)⟩⟩
 · rw [decide_eq_false hi]
   have hi':ix<0:=by omega
   clear hi
   go_enter Tryz.func162,Tryz.ntmps162
   go_wp2_with (go_at_call 193;rw [HW.out];refine HT.out.mono ?_;rintro e w2 ⟨rfl,hg,hc⟩)
   go_ret3
   exact ⟨_,rfl,hb1.trans ⟨hg.os,hg.tape,hg.output,by have:=hg.size;omega,fun k hk=>hg.block k (by omega) (by omega)⟩⟩
theorem brk_keeps (xs:List Int) (bs:List Bound):(!decide (0≤brkV xs bs))=keepsB bs xs:=by
 unfold brkV keepsB
 rw [idxI_any,Bool.eq_iff_iff]
 simp only [Bool.not_eq_true',List.any_eq_false,List.all_eq_true,brokenP,decide_eq_true_eq,decide_eq_false_iff_not]
theorem Keeps_any (pts:Int) (A:Option Addr) (n c:Nat) (bs:List Bound) (X:Option Addr) (nX cX:Nat) (xs:List Int) (w:World) (hl:Rd encBound 4 w A n c bs) (hX:Rd encInt 1 w X nX cX xs) (hk:checkSys pts bs=0) (hlen:(nX:Int)=pts) (hs:∀ x∈xs,-1000000000≤x∧x≤1000000000):
 Calls Tryz.prog 110 #[.agg #[.int .i64 pts,.slice A n c],.slice X nX cX] w fun e w'=>e = .returned (.tuple #[.bool (keepsB bs xs),.int .i64 0])∧Below w.heap.size w w':=by
 have hbr:=Breaks_any pts A n c bs X nX cX xs _ (hl.alloc (.cells #[.int .i64 pts,.slice A n c] 117)) (hX.alloc (.cells #[.int .i64 pts,.slice A n c] 117)) hk hlen hs
 rw [←brk_keeps]
 generalize decide (0≤brkV xs bs)=r at *
 have HB:=Lib.hid hbr
 clear hbr hl hX hk hlen hs
 cases r
 all_goals
  go_enter Tryz.func110,Tryz.ntmps110
  go_wp2_with (go_at_call 162;(with_reducible refine HB.out.mono ?_);rintro e w2 ⟨i,rfl,hb2⟩;have HB2:=Lib.hid hb2;clear hb2)
  go_ret2
  exact ⟨rfl,((Below.refl _ w).alloc (Nat.le_refl _) _).trans (HB2.out.mono (by simp))⟩
end Go.Proofs.YtelnkflmnbhclaaGreat
end
section
namespace Go.Proofs.YtelnkflmnbhclaaGreat
open Go.RowKit Go.Proofs Go.Shelf
theorem Own.zero1 (w:World):Own encInt 1 3 w.heap.size (w.alloc (.cells #[.int .i64 0] 3)) (some ⟨w.heap.size,0,none⟩) 1 1 [0]:=
 ⟨rfl,by simp [encInt],.inr ⟨w.heap.size,1,#[.int .i64 0],rfl,Nat.le_refl _,heap_alloc_new w _,Nat.le_refl _,by decide,by simp,by simp [encInt]⟩⟩
theorem elInt_years {d:List Dating} {ps:List Place} (h:datesFit ps d=true):∀ x∈(0::d.map (·.year)),-1000000000≤x∧x≤1000000000:=by
 unfold datesFit at h
 rw [Bool.and_eq_true,List.all_eq_true] at h
 intro x hx
 rcases List.mem_cons.1 hx with rfl|hx
 · omega
 · obtain ⟨y,hy,rfl⟩:=List.mem_map.1 hx
   have:=inB_iff.1 (h.2 y hy)
   omega
theorem fit_len {d:List Dating} {ps:List Place} (h:d.length≠ps.length):datesFit ps d=false:=by
 unfold datesFit
 rw [decide_eq_false (fun e=>h (by rw [←e,List.length_map])),Bool.false_and]
theorem fit_place {d:List Dating} {ps:List Place} {k:Nat} {y:Dating} {p:Place} (hy:d[k]? = some y) (hp:ps[k]? = some p) (h:eqPlace ⟨y.place.pit,y.place.layer⟩ ⟨p.pit,p.layer⟩=false):datesFit ps d=false:=by
 unfold datesFit
 rw [decide_eq_false,Bool.false_and]
 intro e
 rw [←e,List.getElem?_map,hy] at hp
 cases hp
 exact eqPlace_no.1 h rfl
theorem fit_year {d:List Dating} {ps:List Place} {k:Nat} {y:Dating} (hy:d[k]? = some y) (h:inB y.year (-1000000) 1000000=false):datesFit ps d=false:=by
 unfold datesFit
 have:d.all (fun y=>inB y.year (-1000000) 1000000)=false:=by
  rw [List.all_eq_false]
  exact ⟨y,List.mem_of_getElem? hy,by simp [h]⟩
 rw [this,Bool.and_false]
theorem fit_all {d:List Dating} {ps:List Place} (hl:d.length=ps.length) (h:∀ (k:Nat) (y:Dating) (p:Place),d[k]? = some y→ps[k]? = some p→y.place=p∧inB y.year (-1000000) 1000000=true):datesFit ps d=true:=by
 unfold datesFit
 rw [Bool.and_eq_true,decide_eq_true_iff,List.all_eq_true]
 refine ⟨List.ext_getElem? fun k=> ?_,fun y hy=> ?_⟩
 · rw [List.getElem?_map]
   rcases Nat.lt_or_ge k d.length with hk|hk
   · have h1:d[k]? = some d[k]:=List.getElem?_eq_getElem hk
     have h2:ps[k]? = some (ps[k]'(by omega)):=List.getElem?_eq_getElem (by omega)
     rw [h1,h2,Option.map_some,(h k _ _ h1 h2).1]
   · rw [List.getElem?_eq_none hk,List.getElem?_eq_none (by omega)];rfl
 · obtain ⟨k,hk⟩:=List.mem_iff_getElem?.1 hy
   have hkl:=(List.getElem?_eq_some_iff.1 hk).1
   exact (h k y _ hk (List.getElem?_eq_getElem (show k<ps.length by omega))).2
set_option maxRecDepth 100000 in
set_option maxHeartbeats 8000000 in
theorem CheckDates_any (A:Option Addr) (n c:Nat) (l:List Trace) (known:Int) (bA:Option Addr) (bn bc:Nat) (bs:List Bond) (M:Option Addr) (mn mc:Nat) (mv:List Place) (DA:Option Addr) (dn dc:Nat) (d:List Dating) (w:World) (hl:Rd encTrace 10 w A n c l) (hb:Rd encBond 5 w bA bn bc bs) (hm:Rd encPlace 2 w M mn mc mv) (hd:Rd encDating 3 w DA dn dc d) (hdn:dn≤1000000):
 Calls Tryz.prog 56 #[.slice A n c,.int .i64 known,.slice bA bn bc,.slice M mn mc,.slice DA dn dc] w fun e w'=>e = .returned (.tuple #[.bool (checkDatesV l known bs mv d).1,.int .i64 (checkDatesV l known bs mv d).2])∧Below w.heap.size w w':=by
 have hwith:=with_any A n c l known bA bn bc bs M mn mc mv w hl hb hm
 have HW:=Lib.hid hwith
 have HD:=Lib.hid hd
 have hdl:=hd.len
 clear hwith hl hb hm hd
 by_cases he:withErr l known bs mv=0
 case neg=>
  have he':=neBool he
  have hv:checkDatesV l known bs mv d=(false,withErr l known bs mv):=by unfold checkDatesV;rw [if_pos he]
  rw [hv]
  have HNE:=Lib.hid he
  clear hv he hdl
  generalize withErr l known bs mv=er at *
  go_enter Tryz.func56,Tryz.ntmps56
  go_wp2_with (go_at_call 85;refine HW.out.mono ?_;rintro e w2 ⟨p,cs,rfl,hb2,hp,_⟩
               obtain ⟨rfl,rfl⟩:=hp HNE.out
               unfold zeroYears
               have HB2:=Lib.hid hb2
               clear hp hb2)
  go_ret2
  exact ⟨rfl,HB2.out.alloc HB2.out.size _⟩
 case pos=>
  have hO:=okO_of (askErr_of_with he)
  have hck:=checkSys_years hO mv
  have hv:checkDatesV l known bs mv d=(datesFit (placesOf (counting l known) bs) d&&keepsB (sysOf l known bs mv) (0::d.map (·.year)),0):=by unfold checkDatesV;rw [if_neg (by simpa using he)]
  rw [hv]
  have hsysE:sysOf l known bs mv=(linksL (counting l known) bs mv).map (boundOf (ptsM (placesOf (counting l known) bs) (placesOf (counting l known) bs).length)):=rfl
  rw [←hsysE] at hck
  rw [he] at HW
  have hps:=hO.pn
  have hll:=linksL_len (counting l known) bs mv
  have hl1:=hO.tn
  have hl2:=hO.bn
  clear hv he hO
  obtain ⟨ps,hpe⟩:∃ ps,placesOf (counting l known) bs=ps:=⟨_,rfl⟩
  obtain ⟨L,hLe⟩:∃ L,linksL (counting l known) bs mv=L:=⟨_,rfl⟩
  obtain ⟨S,hSe⟩:∃ S,sysOf l known bs mv=S:=⟨_,rfl⟩
  rw [hpe,hLe] at HW
  rw [hSe,hpe,hLe] at hsysE
  rw [hSe,hpe] at hck ⊢
  rw [hpe] at hps
  rw [hLe] at hll
  have hLn:L.length≤800:=by omega
  have hkeep:datesFit ps d=true→∀ (w4:World) (A4:Option Addr) (c4:Nat) (X:Option Addr) (cX:Nat),Rd encBound 4 w4 A4 L.length c4 (L.map (boundOf (ptsM ps ps.length)))→Rd encInt 1 w4 X (ps.length+1) cX (0::d.map (·.year))→Calls Tryz.prog 110 #[.agg #[.int .i64 (ps.length+1),.slice A4 L.length c4],.slice X (ps.length+1) cX] w4 fun e w'=>e = .returned (.tuple #[.bool (keepsB S (0::d.map (·.year))),.int .i64 0])∧Below w4.heap.size w4 w':=fun hf w4 A4 c4 X cX h1 h2=>by
   rw [←hsysE] at h1
   exact Keeps_any (ps.length+1) A4 L.length c4 S X (ps.length+1) cX _ w4 h1 h2 hck (by omega) (elInt_years hf)
  have HKEEP:=Lib.hid hkeep
  clear hkeep hck hsysE hpe hLe hSe hll hl1 hl2
  by_cases hlen:dn=ps.length
  case neg=>
   have hff:datesFit ps d=false:=fit_len (by omega)
   rw [hff,Bool.false_and]
   have hne:((dn:Int) != (ps.length:Int))=true:=(by simp;omega)
   clear hff hlen HKEEP
   go_enter Tryz.func56,Tryz.ntmps56
   go_wp2_with (go_at_call 85;refine HW.out.mono ?_;rintro e w2 ⟨p,cs,rfl,hb2,_,hp⟩
                obtain ⟨o,rfl,hOr,Ab,cb,Al,cl,mb,rfl,y1,y2,y3,y4⟩:=hp rfl
                obtain ⟨ho,At,ct,Ap,cp,Aa,ca,h1,h2o,h3o,h4o⟩:=id hOr
                have hlo:=(Array.getElem?_eq_some_iff.1 h1).1
                have q2:w2.cell? ⟨o,2,none⟩=some (.slice Ap ps.length cp):=(by simp [World.cell?,h1])
                have HB2:=Lib.hid hb2
                clear y1 y2 y3 y4 hOr hp hb2 h1 h2o h3o h4o)
   go_ret2
   exact ⟨rfl,HB2.out.alloc HB2.out.size _⟩
  case pos=>
   have HDL:=Lib.hid hdl
   clear hdl
   subst hlen
   have hee:((ps.length:Int) != (ps.length:Int))=false:=(by simp)
   go_enter Tryz.func56,Tryz.ntmps56
   go_wp2_with (go_at_call 85;refine HW.out.mono ?_;rintro e w2 ⟨p,cs,rfl,hb2,_,hp⟩
                obtain ⟨o,rfl,hOr,Ab,cb,Al,cl,mb,rfl,y1,y2,y3,y4⟩:=hp rfl
                obtain ⟨ho,At,ct,Ap,cp,Aa,ca,h1,h2o,h3o,h4o⟩:=id hOr
                have hlo:=(Array.getElem?_eq_some_iff.1 h1).1
                obtain ⟨w3,hw3⟩:∃ w3,w2.alloc (.cells #[.int .i64 (ps.length+1),.slice Ab L.length cb,.slice Al L.length cl,.map (some mb)] 120)=w3:=⟨_,rfl⟩
                have hb23:Below w2.heap.size w2 w3:=(by rw [←hw3];exact (Below.refl _ w2).alloc (Nat.le_refl _) _)
                have hh3:w3.heap[w2.heap.size]? = some (.cells #[.int .i64 (ps.length+1),.slice Ab L.length cb,.slice Al L.length cl,.map (some mb)] 120 (0,0)):=(by rw [←hw3];exact heap_alloc_new w2 _)
                have HZ3:=Lib.hid (show w3.heap.size=w2.heap.size+1 from by rw [←hw3];simp)
                obtain ⟨w4,hw4⟩:∃ w4,w3.alloc (.cells #[.int .i64 0] 3)=w4:=⟨_,rfl⟩
                have hb34:Below w3.heap.size w3 w4:=(by rw [←hw4];exact (Below.refl _ w3).alloc (Nat.le_refl _) _)
                have HX4:=Lib.hid (show Own encInt 1 3 w3.heap.size w4 (some ⟨w3.heap.size,0,none⟩) 1 1 [0] from by rw [←hw4];exact Own.zero1 w3)
                have q3:w3.cell? ⟨o,2,none⟩=some (.slice Ap ps.length cp):=(by have:=(hb23.block o hlo).trans h1;simp [World.cell?,this])
                have q4:w4.cell? ⟨o,2,none⟩=some (.slice Ap ps.length cp):=(by have:=(hb34.block o (by have:=hb23.size;omega)).trans ((hb23.block o hlo).trans h1);simp [World.cell?,this])
                have HB2:=Lib.hid hb2
                have HB3:=Lib.hid (hb2.trans (hb23.mono hb2.size))
                have HB34:=Lib.hid hb34
                have HH3:=Lib.hid hh3
                have HP3:=Lib.hid ((h3o.rd (fun _=>rfl) (by omega)).below hb23 (Nat.le_refl _))
                have HS3:=Lib.hid ((y1.rd (fun _=>rfl) (by omega)).below hb23 (Nat.le_refl _))
                clear y1 y2 y3 y4 hOr hp hb2 h1 h2o h3o h4o hb23 hb34 hh3)
   clear q3 q4
   have hz3:=HB3.out.size
   go_loopw [15,48] (fun s15 s48 wr=> ∃ (k:Nat) (Ax:Option Addr) (cx:Nat) (xs:List Int),k≤ps.length∧s48 = .int .i64 k∧s15 = .slice Ax xs.length cx∧xs.length=k+1∧Hid (Below w3.heap.size w3 wr)∧Hid (xs=0::(d.take k).map (·.year))∧Hid (Own encInt 1 3 w3.heap.size wr Ax xs.length cx xs)∧Hid (∀ j y p,j<k→d[j]? = some y→ps[j]? = some p→y.place=p∧inB y.year (-1000000) 1000000=true)) (fun _ s48 _=>ps.length-(intOf s48).toNat)
   case atStart=>exact ⟨0,some ⟨w3.heap.size,0,none⟩,1,[0],Nat.zero_le _,rfl,rfl,rfl,HB34,(show _=_ from rfl),HX4,(show ∀ j y p,j<0→_ from fun j y p h=>absurd h (by omega))⟩
   case round=>
    obtain ⟨k,Ax,cx,xs,hk,rfl,rfl,hxl,hbl,hxs,hO,hall⟩:=hrel
    have hzr:=hbl.out.size
    by_cases hlt:k<ps.length
    · obtain ⟨bp,op,p,rfl,hbpw,hp,hcp⟩:=(HP3.out.below hbl.out (Nat.le_refl _)).one hlt
      obtain ⟨bd,od,y,rfl,hbdw,hy,hcy⟩:=(HD.out.below (HB3.out.trans (hbl.out.mono hz3)) (Nat.le_refl _)).one hlt
      have c0:wr.cell? ⟨bp,op+k * 2,none⟩=some (.int .i64 p.pit):=hcp 0 _ rfl
      have c1:wr.cell? ⟨bp,op+k * 2+1,none⟩=some (.int .i64 p.layer):=hcp 1 _ rfl
      have y0:wr.cell? ⟨bd,od+k * 3,none⟩=some (.int .i64 y.place.pit):=hcy 0 _ rfl
      have y1:wr.cell? ⟨bd,od+k * 3+1,none⟩=some (.int .i64 y.place.layer):=hcy 1 _ rfl
      have y2:wr.cell? ⟨bd,od+k * 3+2,none⟩=some (.int .i64 y.year):=hcy 2 _ rfl
      have HPK:=Lib.hid hp
      have HYK:=Lib.hid hy
      obtain ⟨w5,hw5⟩:∃ w5,wr.alloc (.cells #[.int .i64 p.pit,.int .i64 p.layer] 37)=w5:=⟨_,rfl⟩
      have hb5:Below wr.heap.size wr w5:=(by rw [←hw5];exact (Below.refl _ wr).alloc (Nat.le_refl _) _)
      have hh5:w5.heap[wr.heap.size]? = some (.cells #[.int .i64 p.pit,.int .i64 p.layer] 37 (0,0)):=(by rw [←hw5];exact heap_alloc_new wr _)
      have hs5:wr.heap.size<w5.heap.size:=(Array.getElem?_eq_some_iff.1 hh5).1
      have HB5:=Lib.hid (hbl.out.trans (hb5.mono hzr))
      have hz5:w3.heap.size≤w5.heap.size:=(by omega)
      have CE:Hid (∀ W,Below w5.heap.size w5 W→W.cell? ⟨bd,od+k * 3,none⟩=some (.int .i64 y.place.pit)∧W.cell? ⟨bd,od+k * 3+1,none⟩=some (.int .i64 y.place.layer)∧W.cell? ⟨bd,od+k * 3+2,none⟩=some (.int .i64 y.year)):=(show ∀ W,Below w5.heap.size w5 W→W.cell? ⟨bd,od+k * 3,none⟩=some (.int .i64 y.place.pit)∧W.cell? ⟨bd,od+k * 3+1,none⟩=some (.int .i64 y.place.layer)∧W.cell? ⟨bd,od+k * 3+2,none⟩=some (.int .i64 y.year) from fun W hW=>by
       have e:=fun o=>(hW.cell (p:=⟨bd,o,none⟩) (show bd<w5.heap.size by omega)).trans (hb5.cell (p:=⟨bd,o,none⟩) hbdw)
       exact ⟨(e _).trans y0,(e _).trans y1,(e _).trans y2⟩)
      have CP:Hid (∀ W,Below w5.heap.size w5 W→W.cell? ⟨wr.heap.size,0,none⟩=some (.int .i64 p.pit)∧W.cell? ⟨wr.heap.size,1,none⟩=some (.int .i64 p.layer)):=(show ∀ W,Below w5.heap.size w5 W→_ from fun W hW=>by
       have:=(hW.block _ hs5).trans hh5
       simp [World.cell?,this])
      have HO5:=Lib.hid (hO.out.below hb5 (Nat.le_refl _))
      have hbd5:bd<w5.heap.size:=(by omega)
      have hk1:k≤1000000:=(by omega)
      clear hcp hcy hp hy y0 y1 y2 hh5 hb5
      cases q1:eqPlace ⟨y.place.pit,y.place.layer⟩ ⟨p.pit,p.layer⟩ with
      | false=>
        have HQ1:=Lib.hid q1
        clear q1
        go_upto_region 8 with (fail)
        refine cdat1 _ rfl bd od ps.length dc k wr.heap.size y p _ w5 _ rfl rfl rfl rfl (fun W hW=>by
         obtain ⟨a0,a1,a2⟩:=CE.out W hW
         obtain ⟨b0,b1⟩:=CP.out W hW
         exact ⟨a0,a1,a2,b0,b1⟩) hlt hdn HQ1.out ?_
        intro w6 hb6
        have HB6:=Lib.hid (HB5.out.trans (hb6.mono hz5))
        clear hb6
        simp only [setsL,Tcdat1,Nat.reduceAdd,List.setIfInBounds_toArray,List.set_cons_succ,List.set_cons_zero]
        go_wp2
        go_ret2
        exact ⟨by rw [fit_place HYK.out HPK.out HQ1.out];rfl,HB3.out.trans (HB6.out.mono hz3)⟩
      | true=>
        have HQ1:=Lib.hid q1
        clear q1
        cases q2:inB y.year (-1000000) 1000000 with
        | false=>
          have HQ2:=Lib.hid q2
          clear q2
          go_upto_region 8 with (fail)
          refine cdat2 _ rfl bd od ps.length dc k wr.heap.size y p _ w5 _ rfl rfl rfl rfl (fun W hW=>by
           obtain ⟨a0,a1,a2⟩:=CE.out W hW
           obtain ⟨b0,b1⟩:=CP.out W hW
           exact ⟨a0,a1,a2,b0,b1⟩) hlt hdn HQ1.out HQ2.out ?_
          intro w6 hb6
          have HB6:=Lib.hid (HB5.out.trans (hb6.mono hz5))
          clear hb6
          simp only [setsL,Tcdat2,Nat.reduceAdd,List.setIfInBounds_toArray,List.set_cons_succ,List.set_cons_zero]
          go_wp2
          go_ret2
          exact ⟨by rw [fit_year HYK.out HQ2.out];rfl,HB3.out.trans (HB6.out.mono hz3)⟩
        | true=>
          have HQ2:=Lib.hid q2
          clear q2
          go_upto_region 8 with (fail)
          refine cdat3 _ rfl bd od ps.length dc k wr.heap.size y p _ w5 _ rfl rfl rfl rfl (fun W hW=>by
           obtain ⟨a0,a1,a2⟩:=CE.out W hW
           obtain ⟨b0,b1⟩:=CP.out W hW
           exact ⟨a0,a1,a2,b0,b1⟩) hlt hdn HQ1.out HQ2.out ?_
          intro w6 hb6
          have HB6:=Lib.hid (HB5.out.trans (hb6.mono hz5))
          obtain ⟨a0,a1,a2⟩:=CE.out w6 hb6
          simp only [setsL,Tcdat3,Nat.reduceAdd,List.setIfInBounds_toArray,List.set_cons_succ,List.set_cons_zero]
          have hz6:=hb6.size
          have hbd6:bd<w6.heap.size:=(by omega)
          have hO6:=(HO5.out.below hb6 (Nat.le_refl _)).alloc (.cells #[.int .i64 y.year] 3)
          have hrd6:=Rd.single (enc:=encInt) (k:=1) w6 #[.int .i64 y.year] 3 [y.year] 1 rfl (by omega) (fun _=>rfl) (by simp [encInt])
          have HB7:=Lib.hid (HB6.out.alloc HB6.out.size (.cells #[.int .i64 y.year] 3))
          have hz67:w3.heap.size≤w6.heap.size:=HB6.out.size
          clear hb6
          go_wp2_with (at_builtin;refine wpList_append_src elInt (fun _=>rfl) oneInt rfl _ _ rfl _ _ _ _ rfl rfl hO6 hrd6 (by omega) (by decide) (by simp;omega) ?_;intro A8 c8 w8 hO8 hg8 hA8
                       have HB8:=Lib.hid (HB7.out.grown hg8 (by simp;omega) (fun j e=>hO6.ltB j e))
                       have HO8:=Lib.hid hO8
                       clear hO8 hg8 hA8)
          go_roundw
          all_goals first
           | (simp [intOf];omega)
           | exact ⟨k+1,A8,c8,xs ++ [y.year],by omega,by go_num,(by simp;try omega),(by simp;omega),HB8.out,(show _=_ by rw [hxs.out,List.take_add_one,HYK.out,Option.toList_some,List.map_append];rfl),(show Own _ _ _ _ _ _ _ _ _ by rw [List.length_append];exact HO8.out),(show ∀ j y' p',_→_ from fun j y' p' hj h1 h2=>by
              by_cases hjk:j<k
              · exact hall.out j y' p' hjk h1 h2
              · have:j=k:=(by omega)
                subst this
                rw [HYK.out] at h1
                rw [HPK.out] at h2
                cases h1
                cases h2
                exact ⟨eqPlace_iff.1 HQ1.out,HQ2.out⟩)⟩
    · have hkn:k=ps.length:=by omega
      subst hkn
      have hfit:datesFit ps d=true:=fit_all HDL.out (fun j y p hy hp=>hall.out j y p (List.getElem?_eq_some_iff.1 hp).1 hy hp)
      have hxs2:xs=0::d.map (·.year):=by
       have h1:=hxs.out
       rwa [List.take_of_length_le (by rw [HDL.out];exact Nat.le_refl _)] at h1
      have hK:=HKEEP.out hfit wr Ab cb Ax cx (HS3.out.below hbl.out (Nat.le_refl _)) (by
       have h1:=hO.out.rd (fun _=>rfl) (by omega)
       rw [hxl,hxs2] at h1;exact h1)
      have hh:=(hbl.out.block _ (by have:=HZ3.out;omega)).trans HH3.out
      have i0:wr.cell? ⟨w2.heap.size,0,none⟩=some (.int .i64 (ps.length+1)):=(by simp [World.cell?,hh])
      have i1:wr.cell? ⟨w2.heap.size,1,none⟩=some (.slice Ab L.length cb):=(by simp [World.cell?,hh])
      have hbxw:w2.heap.size<wr.heap.size:=(by have:=HZ3.out;omega)
      obtain ⟨kb,hkb⟩:∃ kb,keepsB S (0::d.map (·.year))=kb:=⟨_,rfl⟩
      rw [←hxl,hkb] at hK
      have HK:=Lib.hid hK
      have HFIT:=Lib.hid hfit
      have HKB:=Lib.hid hkb
      clear hK hh hxs hxs2 hfit HKEEP hxl hkb
      go_wp2_with (go_at_call 110;(with_reducible refine HK.out.mono ?_);rintro e w9 ⟨rfl,hb9⟩;have HB9:=Lib.hid (hbl.out.trans (hb9.mono hzr));clear hb9)
      go_ret2
      exact ⟨by rw [HFIT.out,HKB.out];rfl,HB3.out.trans (HB9.out.mono hz3)⟩
end Go.Proofs.YtelnkflmnbhclaaGreat
end
section
namespace Go.Proofs.YtelnkflmnbhclaaGreat
open Go.RowKit Go.Proofs
def codeRCd12:Option Code→Code
 | some (.seq _ (.seq _ (.seq _ (.seq _ (.seq _ (.seq _ (.seq _ (.seq (.seq _ (.block _ (.loop (.seq _ (.seq (.block _ (.seq (.seq c _) _)) _))))) _))))))))=>c
 | _=> .skip
def RCdCells (bq off k pb po:Nat) (y:Dating) (p:Place) (w:World):Prop:=∀ W,Below w.heap.size w W→W.cell? ⟨bq,off+k * 3,none⟩=some (.int .i64 y.place.pit)∧W.cell? ⟨bq,off+k * 3+1,none⟩=some (.int .i64 y.place.layer)∧W.cell? ⟨bq,off+k * 3+2,none⟩=some (.int .i64 y.year)∧W.cell? ⟨pb,po+k * 2,none⟩=some (.int .i64 p.pit)∧W.cell? ⟨pb,po+k * 2+1,none⟩=some (.int .i64 p.layer)
def Trcdat1 (bq off n c k pb po cp:Nat) (y:Dating) (p:Place):List Value:=
 [.slice (some ⟨bq,off,none⟩) n c,.int .i64 k,.pointer (some ⟨bq,off+k * 3,none⟩),.pointer (some ⟨bq,off+k * 3,none⟩),.agg #[.int .i64 y.place.pit,.int .i64 y.place.layer],.slice (some ⟨pb,po,none⟩) n cp,.int .i64 k,.pointer (some ⟨pb,po+k * 2,none⟩),.agg #[.int .i64 p.pit,.int .i64 p.layer],.bool true,.bool true,undef,undef,undef,undef,undef,undef,undef,.bool true]
set_option maxRecDepth 100000 in
set_option maxHeartbeats 4000000 in
theorem rcdat1 (cC:Code) (hc:cC=codeRCd12 Tryz.f57.body) (bq off n c k pb po cp:Nat) (y:Dating) (p:Place) (a:Act) (w:World) (Q:Exit→Act→World→Prop)
 (hT:a.tmps.size=109) (t4:a.tmps.getD 4 undef = .slice (some ⟨bq,off,none⟩) n c) (t14:a.tmps.getD 14 undef = .slice (some ⟨pb,po,none⟩) n cp) (t16:a.tmps.getD 16 undef = .int .i64 k)
 (CE:RCdCells bq off k pb po y p w) (hkn:k<n) (_:n≤1000000) (h1:eqPlace ⟨y.place.pit,y.place.layer⟩ ⟨p.pit,p.layer⟩=false)
 (hQ:∀ W,Below w.heap.size w W→Q .normal { tmps:=setsL a.tmps 45 (Trcdat1 bq off n c k pb po cp y p),defers:=a.defers } W):
 cC.wp Tryz.prog Q a w:=by
 subst hc
 unfold codeRCd12 Tryz.f57
 dsimp only
 refine wpIn_wide.1 (wpIn_region_flow (nn:=5) 109 (by kernel_rfl) (by kernel_rfl) (by kernel_rfl) hT (fun i=>(Trcdat1 bq off n c k pb po cp y p).getD i undef) (fun W=>Below w.heap.size w W) ((Below.refl _ _).drew) (fun b hE hold=> ?_) hQ)
 clear hQ
 have q4:=hold 4 _ (by kernel_rfl) t4
 have q14:=hold 14 _ (by kernel_rfl) t14
 have q16:=hold 16 _ (by kernel_rfl) t16
 simp only [factsL,Trcdat1,List.getD_cons_zero,List.getD_cons_succ,Nat.reduceAdd] at hE
 repeat' first|exact steps_nil|refine steps_skip rfl rfl ?_|refine steps_go rfl ?_ ?_
 all_goals (intro W hW;obtain ⟨y0,y1,y2,p0,p1⟩:=CE W hW;simp only [Trcdat1,List.getD_cons_zero,List.getD_cons_succ,Nat.reduceAdd])
 all_goals first
  | (refine .inl ?_;go_simp;done)
  | (refine .inl ?_;go_simp;rfl)
  | (refine .inl ?_;go_simp;rw [h1];rfl)
def Trcdat2 (bq off n c k pb po cp:Nat) (y:Dating) (p:Place):List Value:=
 [.slice (some ⟨bq,off,none⟩) n c,.int .i64 k,.pointer (some ⟨bq,off+k * 3,none⟩),.pointer (some ⟨bq,off+k * 3,none⟩),.agg #[.int .i64 y.place.pit,.int .i64 y.place.layer],.slice (some ⟨pb,po,none⟩) n cp,.int .i64 k,.pointer (some ⟨pb,po+k * 2,none⟩),.agg #[.int .i64 p.pit,.int .i64 p.layer],.bool false,.bool false,.slice (some ⟨bq,off,none⟩) n c,.int .i64 k,.pointer (some ⟨bq,off+k * 3,none⟩),.pointer (some ⟨bq,off+k * 3+2,none⟩),.int .i64 y.year,.bool false,.bool true,.bool true]
set_option maxRecDepth 100000 in
set_option maxHeartbeats 4000000 in
theorem rcdat2 (cC:Code) (hc:cC=codeRCd12 Tryz.f57.body) (bq off n c k pb po cp:Nat) (y:Dating) (p:Place) (a:Act) (w:World) (Q:Exit→Act→World→Prop)
 (hT:a.tmps.size=109) (t4:a.tmps.getD 4 undef = .slice (some ⟨bq,off,none⟩) n c) (t14:a.tmps.getD 14 undef = .slice (some ⟨pb,po,none⟩) n cp) (t16:a.tmps.getD 16 undef = .int .i64 k)
 (CE:RCdCells bq off k pb po y p w) (hkn:k<n) (_:n≤1000000) (h1:eqPlace ⟨y.place.pit,y.place.layer⟩ ⟨p.pit,p.layer⟩=true) (h2:inB y.year (-1000000) 1000000=false)
 (hQ:∀ W,Below w.heap.size w W→Q .normal { tmps:=setsL a.tmps 45 (Trcdat2 bq off n c k pb po cp y p),defers:=a.defers } W):
 cC.wp Tryz.prog Q a w:=by
 subst hc
 unfold codeRCd12 Tryz.f57
 dsimp only
 refine wpIn_wide.1 (wpIn_region_flow (nn:=5) 109 (by kernel_rfl) (by kernel_rfl) (by kernel_rfl) hT (fun i=>(Trcdat2 bq off n c k pb po cp y p).getD i undef) (fun W=>Below w.heap.size w W) ((Below.refl _ _).drew) (fun b hE hold=> ?_) hQ)
 clear hQ
 have q4:=hold 4 _ (by kernel_rfl) t4
 have q14:=hold 14 _ (by kernel_rfl) t14
 have q16:=hold 16 _ (by kernel_rfl) t16
 simp only [factsL,Trcdat2,List.getD_cons_zero,List.getD_cons_succ,Nat.reduceAdd] at hE
 repeat' first|exact steps_nil|refine steps_skip rfl rfl ?_|refine steps_go rfl ?_ ?_
 all_goals (intro W hW;obtain ⟨y0,y1,y2,p0,p1⟩:=CE W hW;simp only [Trcdat2,List.getD_cons_zero,List.getD_cons_succ,Nat.reduceAdd])
 all_goals first
  | (refine .inl ?_;go_simp;done)
  | (refine .inl ?_;go_simp;rfl)
  | (refine .inl ?_;go_simp;rw [h1];rfl)
  | (refine .inr (.inr ⟨102,#[.int .i64 y.year,.int .i64 (-1000000),.int .i64 1000000],?_,(rWithin_any _ _ _ W).mono ?_⟩)
     · go_simp<;>done
     · rintro e w' ⟨rfl,rfl⟩;exact ⟨by rw [h2],hW⟩)
def Trcdat3 (bq off n c k pb po cp:Nat) (y:Dating) (p:Place):List Value:=
 [.slice (some ⟨bq,off,none⟩) n c,.int .i64 k,.pointer (some ⟨bq,off+k * 3,none⟩),.pointer (some ⟨bq,off+k * 3,none⟩),.agg #[.int .i64 y.place.pit,.int .i64 y.place.layer],.slice (some ⟨pb,po,none⟩) n cp,.int .i64 k,.pointer (some ⟨pb,po+k * 2,none⟩),.agg #[.int .i64 p.pit,.int .i64 p.layer],.bool false,.bool false,.slice (some ⟨bq,off,none⟩) n c,.int .i64 k,.pointer (some ⟨bq,off+k * 3,none⟩),.pointer (some ⟨bq,off+k * 3+2,none⟩),.int .i64 y.year,.bool true,.bool false,.bool false]
set_option maxRecDepth 100000 in
set_option maxHeartbeats 4000000 in
theorem rcdat3 (cC:Code) (hc:cC=codeRCd12 Tryz.f57.body) (bq off n c k pb po cp:Nat) (y:Dating) (p:Place) (a:Act) (w:World) (Q:Exit→Act→World→Prop)
 (hT:a.tmps.size=109) (t4:a.tmps.getD 4 undef = .slice (some ⟨bq,off,none⟩) n c) (t14:a.tmps.getD 14 undef = .slice (some ⟨pb,po,none⟩) n cp) (t16:a.tmps.getD 16 undef = .int .i64 k)
 (CE:RCdCells bq off k pb po y p w) (hkn:k<n) (_:n≤1000000) (h1:eqPlace ⟨y.place.pit,y.place.layer⟩ ⟨p.pit,p.layer⟩=true) (h2:inB y.year (-1000000) 1000000=true)
 (hQ:∀ W,Below w.heap.size w W→Q .normal { tmps:=setsL a.tmps 45 (Trcdat3 bq off n c k pb po cp y p),defers:=a.defers } W):
 cC.wp Tryz.prog Q a w:=by
 subst hc
 unfold codeRCd12 Tryz.f57
 dsimp only
 refine wpIn_wide.1 (wpIn_region_flow (nn:=5) 109 (by kernel_rfl) (by kernel_rfl) (by kernel_rfl) hT (fun i=>(Trcdat3 bq off n c k pb po cp y p).getD i undef) (fun W=>Below w.heap.size w W) ((Below.refl _ _).drew) (fun b hE hold=> ?_) hQ)
 clear hQ
 have q4:=hold 4 _ (by kernel_rfl) t4
 have q14:=hold 14 _ (by kernel_rfl) t14
 have q16:=hold 16 _ (by kernel_rfl) t16
 simp only [factsL,Trcdat3,List.getD_cons_zero,List.getD_cons_succ,Nat.reduceAdd] at hE
 repeat' first|exact steps_nil|refine steps_skip rfl rfl ?_|refine steps_go rfl ?_ ?_
 all_goals (intro W hW;obtain ⟨y0,y1,y2,p0,p1⟩:=CE W hW;simp only [Trcdat3,List.getD_cons_zero,List.getD_cons_succ,Nat.reduceAdd])
 all_goals first
  | (refine .inl ?_;go_simp;done)
  | (refine .inl ?_;go_simp;rfl)
  | (refine .inl ?_;go_simp;rw [h1];rfl)
  | (refine .inr (.inr ⟨102,#[.int .i64 y.year,.int .i64 (-1000000),.int .i64 1000000],?_,(rWithin_any _ _ _ W).mono ?_⟩)
     · go_simp<;>done
     · rintro e w' ⟨rfl,rfl⟩;exact ⟨by rw [h2],hW⟩)
end Go.Proofs.YtelnkflmnbhclaaGreat
end
section
namespace Go.Proofs.YtelnkflmnbhclaaGreat
open Go.RowKit Go.Proofs
def codeRCd19:Option Code→Code
 | some (.seq _ (.seq _ (.seq _ (.seq _ (.seq _ (.seq _ (.seq _ (.seq _ (.seq _ (.seq (.seq _ (.block _ (.loop (.seq _ (.seq (.block _ (.seq c _)) _))))) _))))))))))=>c
 | _=> .skip
def RCsCells (bl ol k g dN sN:Nat) (x:Link) (xd xs:Int) (w:World):Prop:=∀ W,Below w.heap.size w W→W.cell? ⟨bl,ol+k * 6,none⟩=some (.int .i64 x.src.pit)∧W.cell? ⟨bl,ol+k * 6+1,none⟩=some (.int .i64 x.src.layer)∧W.cell? ⟨bl,ol+k * 6+2,none⟩=some (.int .i64 x.dst.pit)∧W.cell? ⟨bl,ol+k * 6+3,none⟩=some (.int .i64 x.dst.layer)∧
 W.cell? ⟨bl,ol+k * 6+4,none⟩=some (.int .i64 x.most)∧W.cell? ⟨g,dN,none⟩=some (.int .i64 xd)∧W.cell? ⟨g,sN,none⟩=some (.int .i64 xs)
def Trcd19 (Ap:Option Addr) (n cp g m c8 bl ol q cl k dN sN:Nat) (x:Link) (xd xs:Int) (r:Bool):List Value:=
 [.slice (some ⟨g,0,none⟩) m c8,.slice Ap n cp,.slice (some ⟨bl,ol,none⟩) q cl,.int .i64 k,.pointer (some ⟨bl,ol+k * 6,none⟩),.pointer (some ⟨bl,ol+k * 6+2,none⟩),.agg #[.int .i64 x.dst.pit,.int .i64 x.dst.layer],.int .i64 dN,.pointer (some ⟨g,dN,none⟩),.int .i64 xd,.slice (some ⟨g,0,none⟩) m c8,.slice Ap n cp,.slice (some ⟨bl,ol,none⟩) q cl,.int .i64 k,.pointer (some ⟨bl,ol+k * 6,none⟩),.pointer (some ⟨bl,ol+k * 6,none⟩),.agg #[.int .i64 x.src.pit,.int .i64 x.src.layer],.int .i64 sN,.pointer (some ⟨g,sN,none⟩),.int .i64 xs,.int .i64 (xd-xs),.slice (some ⟨bl,ol,none⟩) q cl,.int .i64 k,.pointer (some ⟨bl,ol+k * 6,none⟩),.pointer (some ⟨bl,ol+k * 6+4,none⟩),.int .i64 x.most,.bool (r)]
set_option maxRecDepth 100000 in
set_option maxHeartbeats 4000000 in
theorem rcd19 (cC:Code) (hc:cC=codeRCd19 Tryz.f57.body) (Ap:Option Addr) (n cp g m c8 bl ol q cl k dN sN:Nat) (x:Link) (xd xs:Int) (r:Bool) (a:Act) (w:World) (Q:Exit→Act→World→Prop)
 (hT:a.tmps.size=109) (t14:a.tmps.getD 14 undef = .slice Ap n cp) (t15:a.tmps.getD 15 undef = .slice (some ⟨g,0,none⟩) m c8) (t17:a.tmps.getD 17 undef = .slice (some ⟨bl,ol,none⟩) q cl) (t18:a.tmps.getD 18 undef = .int .i64 k)
 (CE:RCsCells bl ol k g dN sN x xd xs w) (hkq:k<q) (_:q≤1000000) (hd:dN<m) (hs:sN<m) (_:m≤1000000) (hw:IntKind.i64.wrap (xd-xs)=xd-xs) (hr:decide (x.most<xd-xs)=r)
 (C1:∀ W,Below w.heap.size w W→Calls Tryz.prog 107 #[.slice Ap n cp,.agg #[.int .i64 x.dst.pit,.int .i64 x.dst.layer]] W fun e w'=>e = .returned (.int .i64 dN)∧Below W.heap.size W w')
 (C2:∀ W,Below w.heap.size w W→Calls Tryz.prog 107 #[.slice Ap n cp,.agg #[.int .i64 x.src.pit,.int .i64 x.src.layer]] W fun e w'=>e = .returned (.int .i64 sN)∧Below W.heap.size W w')
 (hQ:∀ W,Below w.heap.size w W→Q .normal { tmps:=setsL a.tmps 82 (Trcd19 Ap n cp g m c8 bl ol q cl k dN sN x xd xs r),defers:=a.defers } W):
 cC.wp Tryz.prog Q a w:=by
 subst hc
 unfold codeRCd19 Tryz.f57
 dsimp only
 refine wpIn_wide.1 (wpIn_region_flow (nn:=5) 109 (by kernel_rfl) (by kernel_rfl) (by kernel_rfl) hT (fun i=>(Trcd19 Ap n cp g m c8 bl ol q cl k dN sN x xd xs r).getD i undef) (fun W=>Below w.heap.size w W) ((Below.refl _ _).drew) (fun b hE hold=> ?_) hQ)
 clear hQ
 have q14:=hold 14 _ (by kernel_rfl) t14
 have q15:=hold 15 _ (by kernel_rfl) t15
 have q17:=hold 17 _ (by kernel_rfl) t17
 have q18:=hold 18 _ (by kernel_rfl) t18
 simp only [factsL,Trcd19,List.getD_cons_zero,List.getD_cons_succ,Nat.reduceAdd] at hE
 repeat' first|exact steps_nil|refine steps_skip rfl rfl ?_|refine steps_go rfl ?_ ?_
 all_goals (intro W hW;obtain ⟨c0,c1,c2,c3,c4,d1,d2⟩:=CE W hW;simp only [Trcd19,List.getD_cons_zero,List.getD_cons_succ,Nat.reduceAdd])
 all_goals first
  | (refine .inl ?_;go_simp;done)
  | (refine .inl ?_;go_simp;rfl)
  | (refine .inl ?_;go_simp;simp [*];done)
  | (refine .inl ?_;go_simp;rw [←hr];rfl)
  | (refine .inl ?_;go_simp;rw [←hr];simp)
  | (refine .inr (.inr ⟨107,#[.slice Ap n cp,.agg #[.int .i64 x.dst.pit,.int .i64 x.dst.layer]],?_,(C1 W hW).mono ?_⟩)
     · go_simp<;>done
     · rintro e w' ⟨rfl,hb'⟩;exact ⟨rfl,(show Below _ _ _ from (show Below _ _ _ from hW).trans (hb'.mono (show Below _ _ _ from hW).size))⟩)
  | (refine .inr (.inr ⟨107,#[.slice Ap n cp,.agg #[.int .i64 x.src.pit,.int .i64 x.src.layer]],?_,(C2 W hW).mono ?_⟩)
     · go_simp<;>done
     · rintro e w' ⟨rfl,hb'⟩;exact ⟨rfl,(show Below _ _ _ from (show Below _ _ _ from hW).trans (hb'.mono (show Below _ _ _ from hW).size))⟩)
end Go.Proofs.YtelnkflmnbhclaaGreat
end
section
namespace Go.Proofs.YtelnkflmnbhclaaGreat
open Go.RowKit Go.Proofs Go.Shelf
set_option maxRecDepth 100000 in
set_option maxHeartbeats 8000000 in
theorem rCheckDates_any (A:Option Addr) (n c:Nat) (l:List Trace) (known:Int) (bA:Option Addr) (bn bc:Nat) (bs:List Bond) (M:Option Addr) (mn mc:Nat) (mv:List Place) (DA:Option Addr) (dn dc:Nat) (d:List Dating) (w:World) (hl:Rd encTrace 10 w A n c l) (hb:Rd encBond 5 w bA bn bc bs) (hm:Rd encPlace 2 w M mn mc mv) (hd:Rd encDating 3 w DA dn dc d) (hdn:dn≤1000000):
 Calls Tryz.prog 57 #[.slice A n c,.int .i64 known,.slice bA bn bc,.slice M mn mc,.slice DA dn dc] w fun e w'=>e = .returned (.tuple #[.bool (checkDatesV l known bs mv d).1,.int .i64 (checkDatesV l known bs mv d).2])∧Below w.heap.size w w':=by
 have HMO:=Lib.hid (rmoves_any A n c l known bA bn bc bs M mn mc mv w hl hb hm)
 have hdl:=hd.len
 by_cases he:withErr l known bs mv=0
 case neg=>
  have he':=neBool he
  have hv:checkDatesV l known bs mv d=(false,withErr l known bs mv):=by unfold checkDatesV;rw [if_pos he]
  rw [hv]
  clear hv he hdl hl hb hm hd
  generalize withErr l known bs mv=er at *
  go_enter Tryz.func57,Tryz.ntmps57
  go_wp2_with (go_at_call 86;(with_reducible refine HMO.out.mono ?_);rintro e w2 ⟨rfl,hb2⟩;have HB2:=Lib.hid hb2;clear hb2)
  go_ret2
  exact ⟨rfl,HB2.out⟩
 case pos=>
  have hask:=askErr_of_with he
  have hO:=okO_of hask
  have hck:(check l).2=0:=by rcases askErr_cases l known bs with ⟨h,h'⟩|⟨h,_⟩|⟨h,_⟩|⟨h,_⟩|⟨h,_⟩<;>first|exact h|exact absurd (h'.symm.trans hask) h
  have hs1:=check_small hck
  have hln:=hl.len
  have hbn:=hb.len
  have hv:checkDatesV l known bs mv d=(datesFit (placesOf (counting l known) bs) d&&keepsB (sysOf l known bs mv) (0::d.map (·.year)),0):=by unfold checkDatesV;rw [if_neg (by simpa using he)]
  rw [hv]
  have hsysE:sysOf l known bs mv=(linksL (counting l known) bs mv).map (boundOf (ptsM (placesOf (counting l known) bs) (placesOf (counting l known) bs).length)):=rfl
  rw [hsysE]
  rw [he] at HMO
  have hps:=hO.pn
  have hll:=linksL_len (counting l known) bs mv
  have hl1:=hO.tn
  have hl2:=hO.bn
  have HK:=Lib.hid (fun W (h:Below w.heap.size w W)=>rcounting_any A n c l known W (hl.below h (Nat.le_refl _)) (by omega))
  have HP:=Lib.hid (fun W A4 m4 c4 (h:Below w.heap.size w W) (hr:Rd encTrace 10 W A4 m4 c4 (counting l known))=>rplaces_any A4 m4 c4 (counting l known) bA bn bc bs W hr (hb.below h (Nat.le_refl _)) (by have:=hr.len;omega) (by omega))
  have HLK:=Lib.hid (fun W A4 m4 c4 (h:Below w.heap.size w W) (hr:Rd encTrace 10 W A4 m4 c4 (counting l known))=>rlinks_any A4 m4 c4 (counting l known) bA bn bc bs M mn mc mv W hr (hb.below h (Nat.le_refl _)) (hm.below h (Nat.le_refl _)) (by have:=hr.len;omega) (by omega) (okLT_counting hck))
  have HD:=Lib.hid (fun W (h:Below w.heap.size w W)=>hd.below h (Nat.le_refl _))
  have HND:=Lib.hid (placesOf_nodup (counting l known) bs)
  have HZ:=Lib.hid (z00_not hO)
  have HG:=Lib.hid (linksL_good hO mv)
  have hcl:(counting l known).length≤17592186044416:=by omega
  have hlb:(linksL (counting l known) bs mv).length≤1000000:=by omega
  clear hv he hO hask hck hs1 hln hbn hsysE hl1 hl2 hll hl hb hm hd
  generalize linksL (counting l known) bs mv=L at *
  generalize placesOf (counting l known) bs=ps at *
  generalize counting l known=ts at *
  have PT:Hid (∀ (W:World) (Ap:Option Addr) (cp:Nat) (p:Place),Rd encPlace 2 W Ap ps.length cp ps→(p=z00∨p∈ps)→∃ v:Nat,(getM (ptsM ps ps.length) p).getD 0=v∧v<ps.length+1∧Calls Tryz.prog 107 #[.slice Ap ps.length cp,.agg #[.int .i64 p.pit,.int .i64 p.layer]] W fun e w'=>e = .returned (.int .i64 v)∧Below W.heap.size W w'):=
   (show ∀ (W:World) (Ap:Option Addr) (cp:Nat) (p:Place),Rd encPlace 2 W Ap ps.length cp ps→(p=z00∨p∈ps)→_ from fun W Ap cp p h hpp=>by
     obtain ⟨v,hv⟩:=ptsM_some ps HND.out HZ.out hpp
     have h1:=ptsM_range ps hv
     have:=rpoint_any Ap ps.length cp ps p v W h HND.out HZ.out hv (by omega)
     refine ⟨v.toNat,by rw [hv];simp;omega,by omega,?_⟩
     rw [Int.toNat_of_nonneg h1.1]
     exact this)
  clear HND HZ
  by_cases hlen:dn=ps.length
  case neg=>
   have hff:datesFit ps d=false:=fit_len (by omega)
   rw [hff,Bool.false_and]
   have hne:((dn:Int) != (ps.length:Int))=true:=(by simp;omega)
   clear hff hlen PT
   go_enter Tryz.func57,Tryz.ntmps57
   go_wp2_with (first
    | (go_at_call 86;(with_reducible refine HMO.out.mono ?_);rintro e w2 ⟨rfl,hb2⟩;have HB2:=Lib.hid hb2;clear hb2)
    | (go_at_call 83;(with_reducible refine (HK.out _ HB2.out).mono ?_);rintro e w4 ⟨A4,m4,c4,rfl,hO4,hb4⟩
       have HB4:=Lib.hid (HB2.out.trans (hb4.mono HB2.out.size))
       have hm4:=hO4.len
       have HR4:=Lib.hid (hO4.rd (fun _=>rfl) (by omega))
       clear hb4 hO4 hm4)
    | (go_at_call 82;(with_reducible refine (HP.out _ _ _ _ HB4.out HR4.out).mono ?_);rintro e w5 ⟨Ap,cp,rfl,hR5,hb5⟩
       have HB5:=Lib.hid (HB4.out.trans (hb5.mono HB4.out.size))
       clear hb5 hR5))
   go_ret2
   exact ⟨rfl,HB5.out⟩
  case pos=>
   have HDL:=Lib.hid hdl
   clear hdl
   subst hlen
   have hee:((ps.length:Int) != (ps.length:Int))=false:=(by simp)
   go_enter Tryz.func57,Tryz.ntmps57
   go_wp2_with (first
    | (go_at_call 86;(with_reducible refine HMO.out.mono ?_);rintro e w2 ⟨rfl,hb2⟩;have HB2:=Lib.hid hb2;clear hb2)
    | (go_at_call 83;(with_reducible refine (HK.out _ HB2.out).mono ?_);rintro e w4 ⟨A4,m4,c4,rfl,hO4,hb4⟩
       have HB4:=Lib.hid (HB2.out.trans (hb4.mono HB2.out.size))
       have hm4:=hO4.len
       have HR4:=Lib.hid (hO4.rd (fun _=>rfl) (by omega))
       clear hb4 hO4 hm4)
    | (go_at_call 82;(with_reducible refine (HP.out _ _ _ _ HB4.out HR4.out).mono ?_);rintro e w5 ⟨Ap,cp,rfl,hR5,hb5⟩
       have HB5:=Lib.hid (HB4.out.trans (hb5.mono HB4.out.size))
       have HR5:=Lib.hid (HR4.out.below hb5 (Nat.le_refl _))
       have HP5:=Lib.hid hR5
       obtain ⟨w3,hw3⟩:∃ w3,w5.alloc (.cells #[.int .i64 0] 3)=w3:=⟨_,rfl⟩
       have hb34:Below w5.heap.size w5 w3:=(by rw [←hw3];exact (Below.refl _ w5).alloc (Nat.le_refl _) _)
       have HX4:=Lib.hid (show Own encInt 1 3 w5.heap.size w3 (some ⟨w5.heap.size,0,none⟩) 1 1 [0] from by rw [←hw3];exact Own.zero1 w5)
       have HB34:=Lib.hid hb34
       clear hb5 hR5 hb34))
   have hz5:=HB5.out.size
   go_loopw [15,16] (fun s15 s16 wr=> ∃ (k:Nat) (Ax:Option Addr) (cx:Nat) (xs:List Int),k≤ps.length∧s16 = .int .i64 k∧s15 = .slice Ax xs.length cx∧xs.length=k+1∧Hid (Below w5.heap.size w5 wr)∧Hid (xs=0::(d.take k).map (·.year))∧Hid (Own encInt 1 3 w5.heap.size wr Ax xs.length cx xs)∧Hid (∀ j y p,j<k→d[j]? = some y→ps[j]? = some p→y.place=p∧inB y.year (-1000000) 1000000=true)) (fun _ s16 _=>ps.length-(intOf s16).toNat)
   case atStart=>exact ⟨0,some ⟨w5.heap.size,0,none⟩,1,[0],Nat.zero_le _,rfl,rfl,rfl,HB34,(show _=_ from rfl),HX4,(show ∀ j y p,j<0→_ from fun j y p h=>absurd h (by omega))⟩
   case round=>
    obtain ⟨k,Ax,cx,xs,hk,rfl,rfl,hxl,hbl,hxs,hO,hall⟩:=hrel
    rename World=>wo
    have hzr:=hbl.out.size
    by_cases hlt:k<ps.length
    · obtain ⟨bp,op,p,rfl,hbpw,hp,hcp⟩:=(HP5.out.below hbl.out (Nat.le_refl _)).one hlt
      obtain ⟨bd,od,y,rfl,hbdw,hy,hcy⟩:=(HD.out wo (HB5.out.trans (hbl.out.mono hz5))).one hlt
      have c0:wo.cell? ⟨bp,op+k * 2,none⟩=some (.int .i64 p.pit):=hcp 0 _ rfl
      have c1:wo.cell? ⟨bp,op+k * 2+1,none⟩=some (.int .i64 p.layer):=hcp 1 _ rfl
      have y0:wo.cell? ⟨bd,od+k * 3,none⟩=some (.int .i64 y.place.pit):=hcy 0 _ rfl
      have y1:wo.cell? ⟨bd,od+k * 3+1,none⟩=some (.int .i64 y.place.layer):=hcy 1 _ rfl
      have y2:wo.cell? ⟨bd,od+k * 3+2,none⟩=some (.int .i64 y.year):=hcy 2 _ rfl
      have HPK:=Lib.hid hp
      have HYK:=Lib.hid hy
      have CE:Hid (RCdCells bd od k bp op y p wo):=(show RCdCells bd od k bp op y p wo from fun W hW=>by
       have e:=fun o=>hW.cell (p:=⟨bd,o,none⟩) hbdw
       have f:=fun o=>hW.cell (p:=⟨bp,o,none⟩) hbpw
       exact ⟨(e _).trans y0,(e _).trans y1,(e _).trans y2,(f _).trans c0,(f _).trans c1⟩)
      have hk1:k≤1000000:=(by omega)
      clear hcp hcy hp hy y0 y1 y2 c0 c1
      cases q1:eqPlace ⟨y.place.pit,y.place.layer⟩ ⟨p.pit,p.layer⟩ with
      | false=>
        have HQ1:=Lib.hid q1
        clear q1
        go_upto_region 12 with (fail)
        refine rcdat1 _ rfl bd od ps.length dc k bp op cp y p _ wo _ rfl rfl rfl rfl CE.out hlt hdn HQ1.out ?_
        intro w6 hb6
        have HB6:=Lib.hid (hbl.out.trans (hb6.mono hzr))
        clear hb6
        simp only [setsL,Trcdat1,Nat.reduceAdd,List.setIfInBounds_toArray,List.set_cons_succ,List.set_cons_zero]
        go_wp2
        go_ret2
        exact ⟨by rw [fit_place HYK.out HPK.out HQ1.out];rfl,HB5.out.trans (HB6.out.mono hz5)⟩
      | true=>
        have HQ1:=Lib.hid q1
        clear q1
        cases q2:inB y.year (-1000000) 1000000 with
        | false=>
          have HQ2:=Lib.hid q2
          clear q2
          go_upto_region 12 with (fail)
          refine rcdat2 _ rfl bd od ps.length dc k bp op cp y p _ wo _ rfl rfl rfl rfl CE.out hlt hdn HQ1.out HQ2.out ?_
          intro w6 hb6
          have HB6:=Lib.hid (hbl.out.trans (hb6.mono hzr))
          clear hb6
          simp only [setsL,Trcdat2,Nat.reduceAdd,List.setIfInBounds_toArray,List.set_cons_succ,List.set_cons_zero]
          go_wp2
          go_ret2
          exact ⟨by rw [fit_year HYK.out HQ2.out];rfl,HB5.out.trans (HB6.out.mono hz5)⟩
        | true=>
          have HQ2:=Lib.hid q2
          clear q2
          go_upto_region 12 with (fail)
          refine rcdat3 _ rfl bd od ps.length dc k bp op cp y p _ wo _ rfl rfl rfl rfl CE.out hlt hdn HQ1.out HQ2.out ?_
          intro w6 hb6
          have HB6:=Lib.hid (hbl.out.trans (hb6.mono hzr))
          obtain ⟨_,_,y2,_,_⟩:=CE.out w6 hb6
          have hbd6:bd<w6.heap.size:=(by have:=hb6.size;omega)
          have hz6:=HB6.out.size
          have hO6:=(hO.out.below hb6 (Nat.le_refl _)).alloc (.cells #[.int .i64 y.year] 3)
          have hrd6:=Rd.single (enc:=encInt) (k:=1) w6 #[.int .i64 y.year] 3 [y.year] 1 rfl (by omega) (fun _=>rfl) (by simp [encInt])
          have HB7:=Lib.hid (HB6.out.alloc HB6.out.size (.cells #[.int .i64 y.year] 3))
          clear hb6
          simp only [setsL,Trcdat3,Nat.reduceAdd,List.setIfInBounds_toArray,List.set_cons_succ,List.set_cons_zero]
          go_wp2_with (at_builtin;refine wpList_append_src elInt (fun _=>rfl) oneInt rfl _ _ rfl _ _ _ _ rfl rfl hO6 hrd6 (by omega) (by decide) (by simp;omega) ?_;intro A8 c8 w8 hO8 hg8 hA8
                       have HB8:=Lib.hid (HB7.out.grown hg8 (by simp;omega) (fun j e=>hO6.ltB j e))
                       have HO8:=Lib.hid hO8
                       clear hO8 hg8 hA8)
          go_roundw
          all_goals first
           | (simp [intOf];omega)
           | exact ⟨k+1,A8,c8,xs ++ [y.year],by omega,by go_num,(by simp;try omega),(by simp;omega),HB8.out,(show _=_ by rw [hxs.out,List.take_add_one,HYK.out,Option.toList_some,List.map_append];rfl),(show Own _ _ _ _ _ _ _ _ _ by rw [List.length_append];exact HO8.out),(show ∀ j y' p',_→_ from fun j y' p' hj h1 h2=>by
              by_cases hjk:j<k
              · exact hall.out j y' p' hjk h1 h2
              · have:j=k:=(by omega)
                subst this
                rw [HYK.out] at h1
                rw [HPK.out] at h2
                cases h1
                cases h2
                exact ⟨eqPlace_iff.1 HQ1.out,HQ2.out⟩)⟩
    · have hkn:k=ps.length:=by omega
      subst hkn
      have hfit:datesFit ps d=true:=fit_all HDL.out (fun j y p hy hp=>hall.out j y p (List.getElem?_eq_some_iff.1 hp).1 hy hp)
      have hxs2:xs=0::d.map (·.year):=by
       have h1:=hxs.out
       rwa [List.take_of_length_le (by rw [HDL.out];exact Nat.le_refl _)] at h1
      have HYR:=Lib.hid (elInt_years hfit)
      rw [←hxs2] at HYR
      have HXS:=Lib.hid hxs2
      have HFIT:=Lib.hid hfit
      obtain ⟨g,rfl⟩:∃ g,Ax=some ⟨g,0,none⟩:=by
       rcases hO.out.form with ⟨_,h0,_⟩|⟨g,h,_⟩
       · omega
       · exact ⟨g,h⟩
      rw [hxl] at hO ⊢
      have HXL:=Lib.hid hxl
      have HL5:=Lib.hid (HB5.out.trans (hbl.out.mono hz5))
      have HR6:=Lib.hid (HR5.out.below hbl.out (Nat.le_refl _))
      clear hxs hxs2 hfit hxl hall hlt
      go_wp2_with (go_at_call 87;(with_reducible refine (HLK.out _ _ _ _ HL5.out HR6.out).mono ?_);rintro e w7 ⟨Al,cl,rfl,hO7,hb7⟩
                   have HB7:=Lib.hid (hbl.out.trans (hb7.mono hzr))
                   have HX7:=Lib.hid (hO.out.below hb7 (Nat.le_refl _))
                   have HL7:=Lib.hid (hO7.rd (fun _=>rfl) (by omega))
                   clear hb7 hO7)
      have hz7:=HB7.out.size
      go_loopw [18] (fun s18 wr=> ∃ (j:Nat),j≤L.length∧s18 = .int .i64 j∧Hid (Below w7.heap.size w7 wr)∧Hid (∀ i x,i<j→L[i]? = some x→xs.getD (boundOf (ptsM ps ps.length) x).dst.toNat 0≤xs.getD (boundOf (ptsM ps ps.length) x).src.toNat 0+x.most)) (fun s18 _=>L.length-(intOf s18).toNat)
      case atStart=>exact ⟨0,Nat.zero_le _,rfl,(show Below _ _ _ from Below.refl _ _),(show ∀ i x,i<0→_ from fun i x h=>absurd h (by omega))⟩
      case round=>
       obtain ⟨j,hj,rfl,hbj,hkp⟩:=hrel
       rename World=>wj
       have hzj:=hbj.out.size
       by_cases hlt:j<L.length
       · obtain ⟨b,off,x,rfl,hbw,hx,hcell⟩:=(HL7.out.below hbj.out (Nat.le_refl _)).one hlt
         have c0:wj.cell? ⟨b,off+j * 6,none⟩=some (.int .i64 x.src.pit):=hcell 0 _ rfl
         have c1:wj.cell? ⟨b,off+j * 6+1,none⟩=some (.int .i64 x.src.layer):=hcell 1 _ rfl
         have c2:wj.cell? ⟨b,off+j * 6+2,none⟩=some (.int .i64 x.dst.pit):=hcell 2 _ rfl
         have c3:wj.cell? ⟨b,off+j * 6+3,none⟩=some (.int .i64 x.dst.layer):=hcell 3 _ rfl
         have c4:wj.cell? ⟨b,off+j * 6+4,none⟩=some (.int .i64 x.most):=hcell 4 _ rfl
         have c5:wj.cell? ⟨b,off+j * 6+5,none⟩=some (.int .i64 x.by_):=hcell 5 _ rfl
         have hgx:=HG.out x (List.mem_of_getElem? hx)
         have HXK:=Lib.hid hx
         obtain ⟨dN,hd1,hd2,_⟩:=PT.out wj Ap cp x.dst ((HP5.out.below HB7.out (Nat.le_refl _)).below hbj.out (Nat.le_refl _)) hgx.2.1
         obtain ⟨sN,hs1,hs2,_⟩:=PT.out wj Ap cp x.src ((HP5.out.below HB7.out (Nat.le_refl _)).below hbj.out (Nat.le_refl _)) hgx.1
         have C1:Hid (∀ W,Below wj.heap.size wj W→Calls Tryz.prog 107 #[.slice Ap ps.length cp,.agg #[.int .i64 x.dst.pit,.int .i64 x.dst.layer]] W fun e w'=>e = .returned (.int .i64 dN)∧Below W.heap.size W w'):=
          (show ∀ W,Below wj.heap.size wj W→_ from fun W h=>by
            obtain ⟨v,v1,_,v3⟩:=PT.out W Ap cp x.dst (((HP5.out.below HB7.out (Nat.le_refl _)).below hbj.out (Nat.le_refl _)).below h (Nat.le_refl _)) hgx.2.1
            have:v=dN:=by omega
            rw [←this];exact v3)
         have C2:Hid (∀ W,Below wj.heap.size wj W→Calls Tryz.prog 107 #[.slice Ap ps.length cp,.agg #[.int .i64 x.src.pit,.int .i64 x.src.layer]] W fun e w'=>e = .returned (.int .i64 sN)∧Below W.heap.size W w'):=
          (show ∀ W,Below wj.heap.size wj W→_ from fun W h=>by
            obtain ⟨v,v1,_,v3⟩:=PT.out W Ap cp x.src (((HP5.out.below HB7.out (Nat.le_refl _)).below hbj.out (Nat.le_refl _)).below h (Nat.le_refl _)) hgx.1
            have:v=sN:=by omega
            rw [←this];exact v3)
         obtain ⟨xd,hxd⟩:∃ v,xs.getD dN 0=v:=⟨_,rfl⟩
         obtain ⟨xv,hxv⟩:∃ v,xs.getD sN 0=v:=⟨_,rfl⟩
         have hxl:=HXL.out
         have hOj:=HX7.out.below hbj.out (Nat.le_refl _)
         have hcd:wj.cell? ⟨g,dN,none⟩=some (.int .i64 xd):=by
          have:=hOj.cells (fun _=>rfl) (i:=dN) (x:=xd) (by rw [←hxd,List.getD_eq_getElem?_getD,List.getElem?_eq_getElem (by omega)];rfl) 0 _ rfl
          rw [Nat.mul_one,Nat.add_zero] at this
          exact this
         have hcs:wj.cell? ⟨g,sN,none⟩=some (.int .i64 xv):=by
          have:=hOj.cells (fun _=>rfl) (i:=sN) (x:=xv) (by rw [←hxv,List.getD_eq_getElem?_getD,List.getElem?_eq_getElem (by omega)];rfl) 0 _ rfl
          rw [Nat.mul_one,Nat.add_zero] at this
          exact this
         have hgl:=hOj.lt.2
         have r1:=HYR.out xd (by rw [←hxd,List.getD_eq_getElem?_getD,List.getElem?_eq_getElem (by omega)];exact List.getElem_mem _)
         have r2:=HYR.out xv (by rw [←hxv,List.getD_eq_getElem?_getD,List.getElem?_eq_getElem (by omega)];exact List.getElem_mem _)
         have HWR:Hid (IntKind.i64.wrap (xd-xv)=xd-xv):=(show _=_ by rw [IntKind.wrap_i64];omega)
         have CE:Hid (RCsCells b off j g dN sN x xd xv wj):=(show RCsCells b off j g dN sN x xd xv wj from fun W hW=>by
          have e:=fun o=>hW.cell (p:=⟨b,o,none⟩) hbw
          have f:=fun o=>hW.cell (p:=⟨g,o,none⟩) hgl
          exact ⟨(e _).trans c0,(e _).trans c1,(e _).trans c2,(e _).trans c3,(e _).trans c4,(f _).trans hcd,(f _).trans hcs⟩)
         have ED:Hid (xs.getD (boundOf (ptsM ps ps.length) x).dst.toNat 0=xd∧xs.getD (boundOf (ptsM ps ps.length) x).src.toNat 0=xv):=(show _∧_ by
          unfold boundOf
          simp only
          rw [hd1,hs1,Int.toNat_natCast,Int.toNat_natCast]
          exact ⟨hxd,hxv⟩)
         clear hcell hx hgx c0 c1 c2 c3 c4 c5 hcd hcs hOj r1 r2 hxl hd1 hs1 hxd hxv
         go_upto_region 19 with (fail)
         cases hr:decide (x.most<xd-xv) with
         | true=>
           have HR:=Lib.hid hr
           clear hr
           refine rcd19 _ rfl Ap ps.length cp g (ps.length+1) cx b off L.length cl j dN sN x xd xv true _ wj _ rfl rfl rfl rfl rfl CE.out hlt hlb hd2 hs2 (by omega) HWR.out HR.out C1.out C2.out ?_
           intro w8 hb8
           have HB8:=Lib.hid (hbj.out.trans (hb8.mono hzj))
           clear hb8
           simp only [setsL,Trcd19,Nat.reduceAdd,List.setIfInBounds_toArray,List.set_cons_succ,List.set_cons_zero]
           go_wp2
           go_ret2
           refine ⟨?_,HB5.out.trans ((HB7.out.trans (HB8.out.mono hz7)).mono hz5)⟩
           have hf:keepsB (L.map (boundOf (ptsM ps ps.length))) xs=false:=by
            rw [←Bool.not_eq_true,keepsB_iff]
            intro h
            have h1:=h _ (List.mem_map.2 ⟨x,List.mem_of_getElem? HXK.out,rfl⟩)
            rw [ED.out.1,ED.out.2] at h1
            have h2:=of_decide_eq_true HR.out
            have h3:(boundOf (ptsM ps ps.length) x).most=x.most:=rfl
            omega
           rw [HFIT.out,Bool.true_and,←HXS.out,hf];rfl
         | false=>
           have HR:=Lib.hid hr
           clear hr
           refine rcd19 _ rfl Ap ps.length cp g (ps.length+1) cx b off L.length cl j dN sN x xd xv false _ wj _ rfl rfl rfl rfl rfl CE.out hlt hlb hd2 hs2 (by omega) HWR.out HR.out C1.out C2.out ?_
           intro w8 hb8
           have HB8:=Lib.hid (hbj.out.trans (hb8.mono hzj))
           clear hb8
           simp only [setsL,Trcd19,Nat.reduceAdd,List.setIfInBounds_toArray,List.set_cons_succ,List.set_cons_zero]
           go_wp2
           go_roundw
           all_goals first
            | (simp [intOf];omega)
            | exact ⟨j+1,by omega,by go_num,HB8.out,(show ∀ i y,_→_ from fun i y hi h1=>by
               by_cases hij:i<j
               · exact hkp.out i y hij h1
               · have:i=j:=(by omega)
                 subst this
                 rw [HXK.out] at h1
                 cases h1
                 rw [ED.out.1,ED.out.2]
                 have h2:=of_decide_eq_false HR.out
                 omega)⟩
       · have hjn:j=L.length:=by omega
         subst hjn
         have HT:Hid (keepsB (L.map (boundOf (ptsM ps ps.length))) xs=true):=(show _=_ from keepsB_iff.2 fun b hb=>by
          obtain ⟨x,hx,rfl⟩:=List.mem_map.1 hb
          obtain ⟨i,hi⟩:=List.mem_iff_getElem?.1 hx
          exact hkp.out i x (List.getElem?_eq_some_iff.1 hi).1 hi)
         go_wp2
         go_ret2
         exact ⟨by rw [HFIT.out,Bool.true_and,←HXS.out,HT.out];rfl,HB5.out.trans ((HB7.out.trans (hbj.out.mono hz7)).mono hz5)⟩
end Go.Proofs.YtelnkflmnbhclaaGreat
end
section
namespace Go.Proofs.YtelnkflmnbhclaaGreat
open Go.RowKit Go.Proofs Go.Shelf
section
variable {l:List Trace} {known:Int} {bs:List Bond} {mv:List Place}
theorem datesV_e:(datesV l known bs mv).2.2=withErr l known bs mv:=by
 unfold datesV
 by_cases h:withErr l known bs mv=0
 · rw [if_neg (by simpa using h),h];split<;>rfl
 · rw [if_pos h]
theorem datesV_b:(datesV l known bs mv).2.1=enoughV l known bs mv:=by
 unfold enoughV
 by_cases h:withErr l known bs mv=0
 · rw [dates_is h,decide_eq_true h,Bool.true_and];rfl
 · rw [decide_eq_false h,Bool.false_and]
   unfold datesV;rw [if_pos h]
theorem datesV_n (h:(datesV l known bs mv).2.1=false):(datesV l known bs mv).1 = []:=by
 unfold datesV at h ⊢
 split
 · rfl
 · rename_i h1
   rw [if_neg h1] at h
   split
   · rename_i h2;rw [if_pos h2] at h;cases h
   · rfl
theorem datesV_ok (h:(datesV l known bs mv).2.1=true):withErr l known bs mv=0:=by
 rw [datesV_b] at h
 unfold enoughV at h
 rw [Bool.and_eq_true,decide_eq_true_iff] at h
 exact h.1
theorem datesV_len:(datesV l known bs mv).1.length≤1000000:=by
 by_cases hw:withErr l known bs mv=0
 · have hpn:=(okO_of (askErr_of_with hw)).pn
   unfold datesV
   rw [if_neg (by simpa using hw)]
   split
   · rw [datesTo_len];omega
   · simp
 · unfold datesV;rw [if_pos hw];simp
theorem checkDates_e {d:List Dating} : (checkDatesV l known bs mv d).2=withErr l known bs mv:=by
 unfold checkDatesV
 by_cases h:withErr l known bs mv=0
 · rw [if_neg (by simpa using h),h]
 · rw [if_pos h]
end
set_option maxRecDepth 100000 in
set_option maxHeartbeats 8000000 in
theorem stratumDates_of (lA:Option Addr) (ln lc:Nat) (l:List Trace) (hl0:l.length=ln) (known:Int) (bA:Option Addr) (bn bc:Nat) (b:List Bond) (hb0:b.length=bn) (mA:Option Addr) (mn mc:Nat) (mv:List Place) (hm0:mv.length=mn) (dA:Option Addr) (dn dc:Nat) (d:List Dating) (hd0:d.length=dn) (w:World) (rl:ln≤17592186044416→Rd encTrace 10 w lA ln lc l) (rb:bn≤17592186044416→Rd encBond 5 w bA bn bc b) (rm:mn≤17592186044416→Rd encPlace 2 w mA mn mc mv) (rd:dn≤17592186044416→Rd encDating 3 w dA dn dc d):
 Calls Tryz.prog 12 #[.slice lA ln lc,.int .i64 known,.slice bA bn bc,.slice mA mn mc,.slice dA dn dc] w fun e w'=>e = .returned (.bool true)∧Below w.heap.size w w':=by
 have HDUG:=Lib.hid dug_any
 by_cases hlow:fewB ln bn 30=true∧mn≤10∧dn≤60
 case neg=>
  obtain ⟨fw,hfew⟩:∃ fw,fewB ln bn 30=fw:=⟨_,rfl⟩
  rw [hfew] at hlow
  have HF:=Lib.hid hfew
  have h4:fw=false∨(fw=true∧decide ((mn:Int)>10)=true)∨(fw=true∧decide ((mn:Int)>10)=false∧decide ((dn:Int)>60)=true):=by
   cases fw with
   | false=>exact .inl rfl
   | true=>
     by_cases h2:10<mn
     · exact .inr (.inl ⟨rfl,decide_eq_true (by omega)⟩)
     · exact .inr (.inr ⟨rfl,decide_eq_false (by omega),decide_eq_true (by have:¬dn≤60:=(fun h=>hlow ⟨rfl,by omega,h⟩);omega)⟩)
  clear hfew hlow rl rb rm rd hl0 hb0 hm0 hd0
  rcases h4 with rfl|⟨rfl,g2⟩|⟨rfl,g2,g3⟩
  all_goals
   go_enter Tryz.func12,Tryz.ntmps12
   go_wp2_with (first
    | (go_at_call 23;(with_reducible refine (few_any _ _ _ _ _ _ _ _).mono ?_);rintro e w2 ⟨rfl,rfl⟩;rw [HF.out])
    | (go_at_call 22;(with_reducible refine (HDUG.out _).mono ?_);rintro e w7 ⟨rfl,hb7⟩;have HB7:=Lib.hid hb7;clear hb7))
   go_ret
   exact ⟨rfl,HB7.out⟩
 case pos=>
  obtain ⟨hfew,hmn,hdn⟩:=hlow
  obtain ⟨hn,hm⟩:=fewB_small hfew (by decide)
  have HF:=Lib.hid hfew
  have m1:decide ((mn:Int)>10)=false:=decide_eq_false (by omega)
  have m2:decide ((dn:Int)>60)=false:=decide_eq_false (by omega)
  have RL:Hid (∀ W,Below w.heap.size w W→Rd encTrace 10 W lA ln lc l):=(show ∀ W,Below w.heap.size w W→Rd encTrace 10 W lA ln lc l from fun W h=>(rl (by omega)).below h (Nat.le_refl _))
  have RB:Hid (∀ W,Below w.heap.size w W→Rd encBond 5 W bA bn bc b):=(show ∀ W,Below w.heap.size w W→Rd encBond 5 W bA bn bc b from fun W h=>(rb (by omega)).below h (Nat.le_refl _))
  have RM:Hid (∀ W,Below w.heap.size w W→Rd encPlace 2 W mA mn mc mv):=(show ∀ W,Below w.heap.size w W→Rd encPlace 2 W mA mn mc mv from fun W h=>(rm (by omega)).below h (Nat.le_refl _))
  have RD:Hid (∀ W,Below w.heap.size w W→Rd encDating 3 W dA dn dc d):=(show ∀ W,Below w.heap.size w W→Rd encDating 3 W dA dn dc d from fun W h=>(rd (by omega)).below h (Nat.le_refl _))
  have HB1:=Lib.hid (Below.refl w.heap.size w)
  have d1:=datesV_e (l:=l) (known:=known) (bs:=b) (mv:=mv)
  have d2:=datesV_b (l:=l) (known:=known) (bs:=b) (mv:=mv)
  have d3:=datesV_n (l:=l) (known:=known) (bs:=b) (mv:=mv)
  have d4:=datesV_len (l:=l) (known:=known) (bs:=b) (mv:=mv)
  have d5:(datesV l known b mv).2.1=true→withErr l known b mv=0∧checkDatesV l known b mv (datesV l known b mv).1=(true,0):=fun h=>by
   have h0:=datesV_ok h
   have h1:=either_kept h0 h
   have h2:=checkDates_e (l:=l) (known:=known) (bs:=b) (mv:=mv) (d:=(datesV l known b mv).1)
   exact ⟨h0,Prod.ext h1 (h2.trans h0)⟩
  have c1:=checkDates_e (l:=l) (known:=known) (bs:=b) (mv:=mv) (d:=d)
  clear hfew rl rb rm rd hb0 hm0 hd0 hl0
  have K1:Hid (∀ W,Below w.heap.size w W→Calls Tryz.prog 34 #[.slice lA ln lc,.int .i64 known,.slice bA bn bc,.slice mA mn mc] W fun e' w'=> ∃ Ad cd,e' = .returned (.tuple #[.slice Ad (datesV l known b mv).1.length cd,.bool (datesV l known b mv).2.1,.int .i64 (datesV l known b mv).2.2])∧Below W.heap.size W w'∧Own encDating 3 140 W.heap.size w' Ad (datesV l known b mv).1.length cd (datesV l known b mv).1):=
   (show ∀ W,Below w.heap.size w W→_ from fun W h=>Dates_any lA ln lc l known bA bn bc b mA mn mc mv W (RL.out W h) (RB.out W h) (RM.out W h))
  have K2:Hid (∀ W,Below w.heap.size w W→Calls Tryz.prog 55 #[.slice lA ln lc,.int .i64 known,.slice bA bn bc,.slice mA mn mc] W fun e' w'=>e' = .returned (.tuple #[.bool (enoughV l known b mv),.int .i64 (withErr l known b mv)])∧Below W.heap.size W w'):=
   (show ∀ W,Below w.heap.size w W→_ from fun W h=>rEnough_any lA ln lc l known bA bn bc b mA mn mc mv W (RL.out W h) (RB.out W h) (RM.out W h))
  have K3:Hid (∀ W,Below w.heap.size w W→Calls Tryz.prog 56 #[.slice lA ln lc,.int .i64 known,.slice bA bn bc,.slice mA mn mc,.slice dA dn dc] W fun e' w'=>e' = .returned (.tuple #[.bool (checkDatesV l known b mv d).1,.int .i64 (checkDatesV l known b mv d).2])∧Below W.heap.size W w'):=
   (show ∀ W,Below w.heap.size w W→_ from fun W h=>CheckDates_any lA ln lc l known bA bn bc b mA mn mc mv dA dn dc d W (RL.out W h) (RB.out W h) (RM.out W h) (RD.out W h) (by omega))
  have K4:Hid (∀ W,Below w.heap.size w W→Calls Tryz.prog 57 #[.slice lA ln lc,.int .i64 known,.slice bA bn bc,.slice mA mn mc,.slice dA dn dc] W fun e' w'=>e' = .returned (.tuple #[.bool (checkDatesV l known b mv d).1,.int .i64 (checkDatesV l known b mv d).2])∧Below W.heap.size W w'):=
   (show ∀ W,Below w.heap.size w W→_ from fun W h=>rCheckDates_any lA ln lc l known bA bn bc b mA mn mc mv dA dn dc d W (RL.out W h) (RB.out W h) (RM.out W h) (RD.out W h) (by omega))
  have K5:Hid (∀ W Ad cd,Below w.heap.size w W→Rd encDating 3 W Ad (datesV l known b mv).1.length cd (datesV l known b mv).1→Calls Tryz.prog 57 #[.slice lA ln lc,.int .i64 known,.slice bA bn bc,.slice mA mn mc,.slice Ad (datesV l known b mv).1.length cd] W fun e' w'=>e' = .returned (.tuple #[.bool (checkDatesV l known b mv (datesV l known b mv).1).1,.int .i64 (checkDatesV l known b mv (datesV l known b mv).1).2])∧Below W.heap.size W w'):=
   (show ∀ W Ad cd,Below w.heap.size w W→Rd encDating 3 W Ad (datesV l known b mv).1.length cd (datesV l known b mv).1→_ from fun W Ad cd h h2=>
     rCheckDates_any lA ln lc l known bA bn bc b mA mn mc mv Ad _ cd _ W (RL.out W h) (RB.out W h) (RM.out W h) h2 d4)
  rw [←d2] at K2
  rw [d1] at K1
  obtain ⟨⟨kd,ed⟩,hkd⟩:∃ q,checkDatesV l known b mv d=q:=⟨_,rfl⟩
  rw [hkd] at c1 K3 K4
  simp only at c1
  subst c1
  obtain ⟨⟨dl,ok1,e1⟩,hdv⟩:∃ q,datesV l known b mv=q:=⟨_,rfl⟩
  rw [hdv] at d3 d4 d5 K1 K2 K5
  clear d1 d2 hkd hdv RL RB RM RD
  simp only at d3 d4 d5 K1 K2 K5
  cases ok1 with
  | true=>
    obtain ⟨d6,d7⟩:=d5 rfl
    rw [d7] at K5
    rw [d6] at K1 K2 K3 K4
    clear d3 d5 d6 d7
    go_enter Tryz.func12,Tryz.ntmps12
    go_wp2_with (first
     | (go_at_call 23;(with_reducible refine (few_any _ _ _ _ _ _ _ _).mono ?_);rintro e w2 ⟨rfl,hw2⟩;obtain rfl:=hw2.symm;rw [HF.out])
     | (go_at_call 34;(with_reducible refine (K1.out _ HB1.out).mono ?_);rintro e w4 ⟨Ad,cd,rfl,hb4,hO4⟩;have HB4:=Lib.hid hb4;have HR4:=Lib.hid (hO4.rd (fun _=>rfl) (by omega));clear hb4 hO4)
     | (go_at_call 55;(with_reducible refine (K2.out _ HB4.out).mono ?_);rintro e w5 ⟨rfl,hb5⟩;have HB5:=Lib.hid (HB4.out.trans (hb5.mono HB4.out.size));have HR5:=Lib.hid (HR4.out.below hb5 (Nat.le_refl _));clear hb5)
     | (go_at_call 56;(with_reducible refine (K3.out _ HB5.out).mono ?_);rintro e w6 ⟨rfl,hb6⟩;have HB6:=Lib.hid (HB5.out.trans (hb6.mono HB5.out.size));have HR6:=Lib.hid (HR5.out.below hb6 (Nat.le_refl _));clear hb6)
     | (go_at_call 57;(with_reducible refine (K4.out _ HB6.out).mono ?_);rintro e w7 ⟨rfl,hb7⟩;have HB7:=Lib.hid (HB6.out.trans (hb7.mono HB6.out.size));have HR7:=Lib.hid (HR6.out.below hb7 (Nat.le_refl _));clear hb7)
     | (go_at_call 57;(with_reducible refine (K5.out _ _ _ HB7.out HR7.out).mono ?_);rintro e w8 ⟨rfl,hb8⟩;have HB8:=Lib.hid (HB7.out.trans (hb8.mono HB7.out.size));clear hb8)
     | (go_at_call 22;(with_reducible refine (HDUG.out _).mono ?_);rintro e w9 ⟨rfl,hb9⟩;have HB9:=Lib.hid (HB8.out.trans (hb9.mono HB8.out.size));clear hb9))
    all_goals first
     | (exfalso;simp at *;done)
     | (go_ret;exact ⟨by simp,HB9.out⟩)
  | false=>
    obtain rfl:dl = []:=d3 rfl
    clear d3 d4 d5 K5
    generalize withErr l known b mv=er at *
    go_enter Tryz.func12,Tryz.ntmps12
    go_wp2_with (first
     | (go_at_call 23;(with_reducible refine (few_any _ _ _ _ _ _ _ _).mono ?_);rintro e w2 ⟨rfl,hw2⟩;obtain rfl:=hw2.symm;rw [HF.out])
     | (go_at_call 34;(with_reducible refine (K1.out _ HB1.out).mono ?_);rintro e w4 ⟨Ad,cd,rfl,hb4,hO4⟩;have HB4:=Lib.hid hb4;clear hb4 hO4)
     | (go_at_call 55;(with_reducible refine (K2.out _ HB4.out).mono ?_);rintro e w5 ⟨rfl,hb5⟩;have HB5:=Lib.hid (HB4.out.trans (hb5.mono HB4.out.size));clear hb5)
     | (go_at_call 56;(with_reducible refine (K3.out _ HB5.out).mono ?_);rintro e w6 ⟨rfl,hb6⟩;have HB6:=Lib.hid (HB5.out.trans (hb6.mono HB5.out.size));clear hb6)
     | (go_at_call 57;(with_reducible refine (K4.out _ HB6.out).mono ?_);rintro e w7 ⟨rfl,hb7⟩;have HB7:=Lib.hid (HB6.out.trans (hb7.mono HB6.out.size));clear hb7)
     | (go_at_call 22;(with_reducible refine (HDUG.out _).mono ?_);rintro e w9 ⟨rfl,hb9⟩;have HB9:=Lib.hid (HB7.out.trans (hb9.mono HB7.out.size));clear hb9))
    all_goals first
     | (exfalso;simp at *;done)
     | (go_ret;exact ⟨by simp,HB9.out⟩)
end Go.Proofs.YtelnkflmnbhclaaGreat
end

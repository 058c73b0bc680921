/- Contracts that the laws lean on: Trd2, PthR, PthP, Pth1, Pth2, Pth3, RPth, PthL, BetL. -/
import Derived.Test.YtelnkflmnbhclaaGreatK21
import Derived.Test.YtelnkflmnbhclaaGreatBe01
import Derived.Test.YtelnkflmnbhclaaGreatBe08
import Derived.Test.YtelnkflmnbhclaaGreatBe03
import Derived.Test.YtelnkflmnbhclaaGreatK13
import Derived.Test.YtelnkflmnbhclaaGreatK20
import Derived.Test.YtelnkflmnbhclaaGreatBe09
import Derived.Test.YtelnkflmnbhclaaGreatBe14
import Derived.Test.YtelnkflmnbhclaaGreatBe02
import Derived.Test.YtelnkflmnbhclaaGreatK24
section
namespace Go.Proofs.YtelnkflmnbhclaaGreat
open Go.RowKit Go.Proofs Go.Shelf
set_option maxRecDepth 100000 in
set_option maxHeartbeats 2000000 in
theorem tried_any2 (pts:Int) (A:Option Addr) (n c:Nat) (bs:List Bound) (g:Nat) (lb:Array Value) (eg:∀ args w,(callFunc g args).run Tryz.prog w = .ok (.enter g args) w) (v:Int) (w:World) (hl:Rd encBound 4 w A n c bs) (hk:checkSys pts bs=0)
 (T:Nat→Prop) (hT:∀ k,T k→k<w.heap.size) (Φ:World→Prop) (hΦ:∀ (W:World) (v:Value),Φ W→Φ (W.setCell ⟨w.heap.size+1,0,none⟩ v))
 (hdo:∀ W,Below w.heap.size w W→w.heap.size+2≤W.heap.size→Calls Tryz.prog g lb W fun e W'=>e = .returned (.int .i64 v)∧GrownT T W W'∧Φ W'):
 Calls Tryz.prog 193 #[.agg #[.int .i64 pts,.slice A n c],.func (.func g) #[] lb] w fun e w'=>e = .returned (.int .i64 v)∧GrownT T w w'∧Φ w':=by
 have hc:=CheckSystem_any pts A n c bs _ ((hl.alloc (.cells #[.int .i64 pts,.slice A n c] 117)).alloc (.cells #[.int .i64 0] 27))
 rw [hk] at hc
 have HC:=Lib.hid hc
 clear hc hk hl
 go_enter_defers Tryz.func193,Tryz.ntmps193
 go_wp2_with (first
  | (go_at_call 144;refine HC.out.mono ?_;rintro e w2 ⟨rfl,hb⟩
     have hz2:=hb.size
     simp only [World.size_alloc] at hz2
     have hb2:Below w.heap.size w w2:=(((Below.refl _ w).alloc (Nat.le_refl _) _).alloc (by simp) _).trans (hb.mono (by simp;omega))
     have d1:w2.cell? ⟨w.heap.size+1,0,none⟩=some (.int .i64 0):=(hb.cell (p:=⟨w.heap.size+1,0,none⟩) (by simp)).trans (by rw [World.cell?_alloc_at _ _ _ _ (by simp)];rfl)
     have f1:w2.frozen? ⟨w.heap.size+1,0,none⟩=false:=(hb.frozen (p:=⟨w.heap.size+1,0,none⟩) (by simp)).trans (World.frozen?_alloc_at _ _ _ _ (by simp))
     have hd:=hdo w2 hb2 (by omega)
     have HD:=Lib.hid hd
     clear hd)
  | (go_at_fn g;refine HD.out.mono ?_;rintro e w3 ⟨rfl,hg3,hf3⟩
     have e1:w3.cell? ⟨w.heap.size+1,0,none⟩=some (.int .i64 0):=(hg3.cell (by omega) (fun h=>by have:=hT _ h;omega)).trans d1
     have g1:w3.frozen? ⟨w.heap.size+1,0,none⟩=false:=(hg3.frozen (by omega) (fun h=>by have:=hT _ h;omega)).trans f1))
 refine leaves_cons (f:=241) (args:=#[.pointer (some ⟨w.heap.size+1,0,none⟩)]) (by simp) (by simp [go_sem]) ?_
 refine (tried1_idle ⟨w.heap.size+1,0,none⟩ _).mono ?_
 rintro e u' w'' ⟨rfl,rfl,rfl⟩
 have hz3:=hg3.size
 have hcv:(w3.setCell ⟨w.heap.size+1,0,none⟩ (.int .i64 v)).cell? ⟨w.heap.size+1,0,none⟩=some (.int .i64 v):=World.cell?_setCell_same' _ _ _ (by rw [e1];rfl)
 have hgw:GrownT T w w3:=(GrownT.refl T w |>.of_below hb2 (Nat.le_refl _)).trans hg3
 have hpost:GrownT T w (w3.setCell ⟨w.heap.size+1,0,none⟩ (.int .i64 v))∧Φ (w3.setCell ⟨w.heap.size+1,0,none⟩ (.int .i64 v)):=
  ⟨⟨hgw.os,hgw.tape,hgw.output,by simpa using hgw.size,fun k hk ht=>(Below.heap_setCell _ _ _ k (show k≠w.heap.size+1 by omega)).trans (hgw.block k hk ht)⟩,
   hΦ w3 _ hf3⟩
 have HP:=Lib.hid hpost
 clear hpost HC HD
 refine ⟨.int .i64 v,?_,rfl,HP.out⟩
 simp [results,Tryz.results193,go_sem,hcv]
theorem gasked_yes2 (pts:Int) (A:Option Addr) (n c:Nat) (bs:List Bound) (a b:Int) (gw:Nat) (lw:Array Value) (eg:∀ args w,(callFunc gw args).run Tryz.prog w = .ok (.enter gw args) w) (w:World) (hl:Rd encBound 4 w A n c bs) (hk:checkSys pts bs=0) (hs:solvedOk pts bs=true)
 (h1:0≤a) (h2:a<pts) (h3:0≤b) (h4:b<pts) (T:Nat→Prop) (hT:∀ k,T k→k<w.heap.size) (Φ:World→Prop) (hΦ:∀ (W:World) (v:Value),Φ W→Φ (W.setCell ⟨w.heap.size+5,0,none⟩ v))
 (hdo:∀ W,Below w.heap.size w W→w.heap.size+6≤W.heap.size→Calls Tryz.prog gw lw W fun e W'=>e = .returned (.tuple #[])∧GrownT T W W'∧Φ W'):
 Calls Tryz.prog 138 #[.agg #[.int .i64 pts,.slice A n c],.int .i64 a,.int .i64 b,.func (.func gw) #[] lw] w fun e w'=>e = .returned (.int .i64 0)∧GrownT T w w'∧Φ w':=by
 have hz:=boxed4_size w pts A n c a b gw lw
 have hb4:=boxed4_below w pts A n c a b gw lw
 refine gasked_of pts A n c a b gw lw w _ ((tried_any2 pts A n c bs 194 _ ent_asked1 0 _ (hl.below hb4 (Nat.le_refl _)) hk T (fun k hk=>by have:=hT k hk;omega) Φ (fun W v h=>by rw [hz];exact hΦ W v h) (fun W hW hWz=> ?_)).mono ?_)
 · exact asked1_yes pts A n c bs a b gw lw eg w.heap.size (w.heap.size+1) (w.heap.size+2) (w.heap.size+3) W (hl.below (hb4.trans (hW.mono (by omega))) (Nat.le_refl _)) (sysOk_of hk) hs h1 h2 h3 h4
    ((hW.cell (p:=⟨w.heap.size,0,none⟩) (show w.heap.size<_ by omega)).trans (boxed4_s w pts A n c a b gw lw 0)) ((hW.cell (p:=⟨w.heap.size,1,none⟩) (show w.heap.size<_ by omega)).trans (boxed4_s w pts A n c a b gw lw 1))
    ((hW.cell (p:=⟨w.heap.size+1,0,none⟩) (show w.heap.size+1<_ by omega)).trans (boxed4_a w pts A n c a b gw lw)) ((hW.cell (p:=⟨w.heap.size+2,0,none⟩) (show w.heap.size+2<_ by omega)).trans (boxed4_b w pts A n c a b gw lw))
    ((hW.cell (p:=⟨w.heap.size+3,0,none⟩) (show w.heap.size+3<_ by omega)).trans (boxed4_w w pts A n c a b gw lw)) T Φ
    (fun W' hW'=>hdo W' (hb4.trans ((hW.mono (by omega)).trans (hW'.mono (by have:=hW.size;omega)))) (by have:=hW'.size;omega))
 · rintro e w' ⟨rfl,hg,hf⟩
   exact ⟨⟨_,rfl⟩,rfl,(Below.grownT T hb4).trans hg,hf⟩
end Go.Proofs.YtelnkflmnbhclaaGreat
end
section
namespace Go.Proofs.YtelnkflmnbhclaaGreat
open Go.RowKit Go.Proofs Go.Shelf
def codePth5:Option Code→Code
 | some (.seq _ (.seq _ (.seq (.seq _ (.block _ (.loop (.seq _ (.seq (.block _ c) _))))) _)))=>c
 | _=> .skip
def PthCells (bo g6 p:Nat) (xi:Int) (Ao:Option Addr) (no co:Nat) (w:World):Prop:=∀ W,w.grownBy W (blockOf Ao)→W.cell? ⟨g6,p,none⟩=some (.int .i64 xi)∧W.cell? ⟨bo,0,none⟩=some (.slice Ao no co)∧W.frozen? ⟨bo,0,none⟩=false
def PthI (bo B:Nat) (Ao:Option Addr) (no:Nat) (xs:List Int) (x:Int) (w:World):List Value→World→Prop
 | [],W=>Below w.heap.size w W
 | [v],W=>Below w.heap.size w W∧∃ nb,v = .slice (some ⟨nb,0,none⟩) 1 1∧Rd encInt 1 W (some ⟨nb,0,none⟩) 1 1 [x]
 | [v,u],W=>w.grownBy W (blockOf Ao)∧∃ nb A' c',v = .slice (some ⟨nb,0,none⟩) 1 1∧u = .slice A' (no+1) c'∧Own encInt 1 3 B W A' (no+1) c' (xs ++ [x])
 | [v,u,_],W=> ∃ W0,w.grownBy W0 (blockOf Ao)∧∃ nb A' c',v = .slice (some ⟨nb,0,none⟩) 1 1∧u = .slice A' (no+1) c'∧Own encInt 1 3 B W0 A' (no+1) c' (xs ++ [x])∧W=W0.setCell ⟨bo,0,none⟩ u
 | _,_=>False
theorem PthI.grown {bo B:Nat} {Ao:Option Addr} {no:Nat} {xs:List Int} {x:Int} {w W:World} {cv:List Value} (h:PthI bo B Ao no xs x w cv W) (hl:cv.length≤1):w.grownBy W (blockOf Ao):=by
 match cv,h,hl with
 | [],h,_=>exact ⟨h.os,h.tape,h.output,h.size,fun i hi _=>h.block i hi⟩
 | [v],⟨h,_⟩,_=>exact ⟨h.os,h.tape,h.output,h.size,fun i hi _=>h.block i hi⟩
 | _::_::_,_,hl=>simp at hl
def Tpth5 (_ g6:Nat) (p:Nat) (xi:Int) (Ao:Option Addr) (no co:Nat) (_:Nat) (_:List Int) (cv:List Value):List Value:=
 [.slice Ao no co,.int .i64 p,.pointer (some ⟨g6,p,none⟩),.int .i64 xi,cv.getD 0 undef,cv.getD 1 undef,cv.getD 2 undef]
set_option maxRecDepth 100000 in
set_option maxHeartbeats 4000000 in
theorem pth5 (cC:Code) (hc:cC=codePth5 Tryz.f159.body) (bo g6:Nat) (p:Nat) (xi:Int) (Ao:Option Addr) (no co:Nat) (B:Nat) (xs:List Int) (a:Act) (w:World) (Q:Exit→Act→World→Prop)
 (hT:a.tmps.size=41) (t4:a.tmps.getD 4 undef = .pointer (some ⟨bo,0,none⟩)) (t6:a.tmps.getD 6 undef = .pointer (some ⟨g6,0,none⟩)) (t7:a.tmps.getD 7 undef = .int .i64 p)
 (CE:PthCells bo g6 p xi Ao no co w) (hown:Own encInt 1 3 B w Ao no co xs) (hB:B≤w.heap.size) (hns:no≤1000000) (hp:(p:Int)<60)
 (hQ:∀ nb A' c' W,Own encInt 1 3 B W A' (no+1) c' (xs ++ [xi])→w.grownBy W (blockOf Ao)→Q .normal { tmps:=setsL a.tmps 33 ((Tpth5 bo g6 p xi Ao no co B xs [.slice (some ⟨nb,0,none⟩) 1 1,.slice A' (no+1) c',undef]).take 6),defers:=a.defers } (W.setCell ⟨bo,0,none⟩ (.slice A' (no+1) c'))):
 cC.wp Tryz.prog Q a w:=by
 subst hc
 unfold codePth5 Tryz.f159
 dsimp only
 refine wpIn_wide.1 (wpIn_region_chain (nn:=5) 41 (by kernel_rfl) (by kernel_rfl) (by kernel_rfl) hT (fun i cv=>(Tpth5 bo g6 p xi Ao no co B xs cv).getD i undef) (fun i=>([0,0,0,0,0,0,0]:List Nat).getD i 0) (fun i=>([1,0,0,0,1,2,3]:List Nat).getD i 0) [4,5,6] (by kernel_rfl) (by kernel_rfl) (by kernel_rfl) (by kernel_rfl) (PthI bo B Ao no xs xi w) ((Below.refl _ _).drew) (fun b cv hE hold=> ?_) (fun cv W hl hI=> ?_))
 · clear hQ
   have q4:=hold 4 _ (by kernel_rfl) t4
   have q6:=hold 6 _ (by kernel_rfl) t6
   have q7:=hold 7 _ (by kernel_rfl) t7
   simp only [factsL,Vc,idxC,Tpth5,List.getD_cons_zero,List.getD_cons_succ,Nat.reduceAdd,Nat.reduceEqDiff,reduceIte,Option.map_some,Option.map_none] at hE
   repeat' first|exact chain_nil|refine chain_op 0 rfl rfl ?_ ?_|refine chain_op 1 rfl rfl ?_ ?_|refine chain_op 2 rfl rfl ?_ ?_|refine chain_skip rfl rfl rfl rfl ?_|refine chain_quiet rfl rfl ?_ ?_
   all_goals intro hl
   any_goals (
    intro hl2;simp only [List.getD_cons_zero,List.getD_cons_succ,Nat.reduceAdd] at hl hl2
    first
     | (obtain rfl:=List.eq_nil_of_length_eq_zero (Nat.le_zero.1 hl2);intro W hW;have hWb:Below w.heap.size w W:=hW;obtain ⟨c0,s1,_⟩:=CE W ⟨hWb.os,hWb.tape,hWb.output,hWb.size,fun i hi _=>hWb.block i hi⟩;simp only [Tpth5,List.getD_cons_zero,List.getD_cons_succ,Nat.reduceAdd]
        first
         | (refine .inl ?_;go_simp;done)
         | (refine .inl ?_;go_simp;rfl))
     | (intro W hW;simp only [Tpth5,List.getD_cons_zero];refine .inl ?_;go_simp;(try rfl);done)
     | (intro W hW;obtain ⟨c0,s1,_⟩:=CE W (PthI.grown hW hl2);simp only [Tpth5,List.getD_cons_zero]
        first
         | (refine .inl ?_;go_simp;done)
         | (refine .inl ?_;go_simp;rfl))
    done)
   · obtain rfl:=List.eq_nil_of_length_eq_zero hl
     intro W hW
     have hWb:Below w.heap.size w W:=hW
     refine .inl ⟨.slice (some ⟨W.heap.size,0,none⟩) 1 1,W.alloc (.cells #[.int .i64 xi] 3),.inl ?_,?_⟩
     · go_simp
     · exact ⟨hWb.alloc hWb.size _,_,rfl,Rd.single (enc:=encInt) (k:=1) W #[.int .i64 xi] 3 [xi] 1 rfl (by omega) (fun _=>rfl) (by simp [encInt])⟩
   · obtain ⟨v,rfl⟩:=len1 hl
     rintro W ⟨hWb,nb,rfl,hrd⟩
     have hz:=hWb.size
     have f0:b.eval (.tmp 33) = .slice Ao no co:=(by simp only [Act.eval,Array.getD_eq_getD_getElem?];simp [hE])
     have f1:b.eval (.tmp 37) = .slice (some ⟨nb,0,none⟩) 1 1:=(by simp only [Act.eval,Array.getD_eq_getD_getElem?];simp [hE])
     obtain ⟨A',c',wc,hrun,hO2,hg,_⟩:=run_append_src elInt 101 (fun _=>rfl) oneInt (hown.below hWb (Nat.le_refl _)) (some ⟨nb,0,none⟩) 1 1 [xi] hrd (by omega) (by omega) (by omega)
     refine .inl ⟨.slice A' (no+1) c',wc,.inl ?_,?_,nb,A',c',rfl,rfl,hO2⟩
     · simp only [execOp,resolve,invoke,builtin,Sem.run_bind,Sem.run_pure,Result.andThen_ok,List.map_toArray,List.map_cons,List.map_nil,f0,f1,hrun]
     · exact ⟨hg.os.trans hWb.os,hg.tape.trans hWb.tape,hg.output.trans hWb.output,Nat.le_trans hWb.size hg.size,fun i hi hne=>(hg.block i (by omega) hne).trans (hWb.block i hi)⟩
   · obtain ⟨v,u,rfl⟩:=len2 hl
     rintro W ⟨hg,nb,A',c',rfl,rfl,hO2⟩
     obtain ⟨_,s1,f1⟩:=CE W hg
     simp only [List.getD_cons_zero,List.getD_cons_succ] at hE
     refine .inl ⟨undef,W.setCell ⟨bo,0,none⟩ (.slice A' (no+1) c'),.inr ⟨?_,rfl⟩,W,hg,nb,A',c',rfl,rfl,hO2,rfl⟩
     go_simp
 · match cv,hl,hI with
   | [_,_,z],_,⟨W0,hg,nb,A',c',rfl,rfl,hO,e⟩=>subst e;exact hQ nb A' c' W0 hO hg
end Go.Proofs.YtelnkflmnbhclaaGreat
end
section
namespace Go.Proofs.YtelnkflmnbhclaaGreat
open Go.RowKit Go.Proofs Go.Shelf
inductive Chn (bs:List Bound) (last:Row) (a:Nat):Nat→List Nat→List Bound→Prop
 | nil:Chn bs last a a [] []
 | cons (p i:Nat) (b:Bound) (is:List Nat) (ws:List Bound):p≠a→val last p=i→bs[i]? = some b→b.dst.toNat=p→Chn bs last a b.src.toNat is ws→Chn bs last a p (i::is) (b::ws)
section
variable {bs:List Bound} {last last' r:Row} {a:Nat}
theorem Chn.lens {p:Nat} {is:List Nat} {ws:List Bound} (h:Chn bs last a p is ws):is.length=ws.length∧is.map (fun i=>bs[i]?)=ws.map some∧∀ b∈ws,b∈bs:=by
 induction h with
 | nil=>exact ⟨rfl,rfl,fun b h=>by cases h⟩
 | cons p i b is ws h1 h2 h3 h4 _ ih=>
   obtain ⟨i1,i2,i3⟩:=ih
   refine ⟨by simp [i1],by simp [i2,h3],fun c hc=> ?_⟩
   rcases List.mem_cons.1 hc with rfl|hc
   · exact List.mem_of_getElem? h3
   · exact i3 c hc
theorem Chn.walk {p:Nat} {is:List Nat} {ws:List Bound} (h:Chn bs last a p is ws):isWalk a ws.reverse p:=by
 induction h with
 | nil=>rfl
 | cons p i b is ws h1 h2 h3 h4 _ ih=>
   rw [List.reverse_cons]
   exact isWalk_append.2 ⟨_,ih,rfl,h4⟩
def TightP (bs:List Bound) (r last:Row):Prop:=∀ (p i:Nat) (b:Bound),p<60→val last p=i→bs[i]? = some b→b.dst.toNat=p∧val r b.src.toNat+b.most≤val r p∧val r b.src.toNat<noneV
theorem Chn.visit {p:Nat} {is:List Nat} {ws:List Bound} (he:Ends 60 bs) (ht:TightP bs r last) (h:Chn bs last a p is ws):∀ v∈p::ws.map (fun b=>b.src.toNat),∃ vs,(∀ b∈vs,b∈bs)∧isWalk v vs p∧val r v+sumW vs≤val r p:=by
 induction h with
 | nil=>
   intro v hv
   have:v=a:=by simpa using hv
   subst this
   exact ⟨[],by simp,rfl,by simp [sumW]⟩
 | cons p i b is ws h1 h2 h3 h4 _ ih=>
   intro v hv
   rcases List.mem_cons.1 hv with rfl|hv
   · exact ⟨[],by simp,rfl,by simp [sumW]⟩
   · rw [List.map_cons] at hv
     obtain ⟨vs,g1,g2,g3⟩:=ih v hv
     have h5:=(ht p i b (by rw [←h4];exact (he b (List.mem_of_getElem? h3)).2) h2 h3).2.1
     refine ⟨vs ++ [b],fun c hc=> ?_,isWalk_append.2 ⟨_,g2,rfl,h4⟩,?_⟩
     · rcases List.mem_append.1 hc with hc|hc
       · exact g1 c hc
       · have:c=b:=by simpa using hc
         subst this;exact List.mem_of_getElem? h3
     · rw [sumW_append];simp only [sumW];omega
theorem Chn.begin_ {p:Nat} {is:List Nat} {ws:List Bound} (h:Chn bs last a p is ws):a∈p::ws.map (fun b=>b.src.toNat):=by
 induction h with
 | nil=>simp
 | cons p i b is ws h1 h2 h3 h4 _ ih=>rw [List.map_cons];exact List.mem_cons_of_mem _ ih
theorem Chn.stay {v p:Nat} {is:List Nat} {ws:List Bound} (hl:∀ q,q≠v→val last' q=val last q) (h:Chn bs last a p is ws):v∉p::ws.map (fun b=>b.src.toNat)→Chn bs last' a p is ws:=by
 induction h with
 | nil=>intro _;exact .nil
 | cons p i b is ws h1 h2 h3 h4 _ ih=>
   intro hv
   rw [List.map_cons] at hv
   exact .cons p i b is ws h1 ((hl p (fun e=>hv (by rw [e];exact List.mem_cons_self))).trans h2) h3 h4 (ih (fun h=>hv (List.mem_cons_of_mem _ h)))
theorem Chn.turn {v p:Nat} {is:List Nat} {ws:List Bound} (hl:∀ q,q≠v→val last' q=val last q) (hv:∃ is ws,Chn bs last' a v is ws) (h:Chn bs last a p is ws):∃ is ws,Chn bs last' a p is ws:=by
 induction h with
 | nil=>exact ⟨_,_,.nil⟩
 | cons p i b is ws h1 h2 h3 h4 _ ih=>
   by_cases e:p=v
   · rw [e];exact hv
   · obtain ⟨is',ws',h⟩:=ih
     exact ⟨_,_,.cons p i b is' ws' h1 ((hl p e).trans h2) h3 h4 h⟩
theorem Chn.det {p:Nat} {is:List Nat} {ws:List Bound} (h:Chn bs last a p is ws):∀ {is':List Nat} {ws':List Bound},Chn bs last a p is' ws'→is=is':=by
 induction h with
 | nil=>
   intro is' ws' h'
   cases h' with
   | nil=>rfl
   | cons _ _ _ _ _ h1=>exact absurd rfl h1
 | cons p i b is ws h1 h2 h3 h4 _ ih=>
   intro is' ws' h'
   cases h' with
   | nil=>exact absurd rfl h1
   | cons _ j c _ _ k1 k2 k3 k4 k5=>
     have:i=j:=by omega
     subst this
     rw [h3] at k3
     obtain rfl:=Option.some.inj k3
     rw [ih k5]
theorem Chn.later {p:Nat} {is:List Nat} {ws:List Bound} (h:Chn bs last a p is ws):∀ q∈ws.map (fun b=>b.src.toNat),∃ is' ws',is'.length<is.length∧Chn bs last a q is' ws':=by
 induction h with
 | nil=>intro q hq;cases hq
 | cons p i b is ws h1 h2 h3 h4 h5 ih=>
   intro q hq
   rw [List.map_cons] at hq
   rcases List.mem_cons.1 hq with rfl|hq
   · exact ⟨is,ws,by simp,h5⟩
   · obtain ⟨is',ws',k1,k2⟩:=ih q hq
     exact ⟨is',ws',by simp;omega,k2⟩
theorem Chn.nodup {p:Nat} {is:List Nat} {ws:List Bound} (h:Chn bs last a p is ws):(p::ws.map (fun b=>b.src.toNat)).Nodup:=by
 induction h with
 | nil=>simp
 | cons p i b is ws h1 h2 h3 h4 h5 ih=>
   rw [List.map_cons]
   refine List.nodup_cons.2 ⟨fun hm=> ?_,ih⟩
   obtain ⟨is',ws',k1,k2⟩:=(Chn.cons p i b is ws h1 h2 h3 h4 h5).later p (by rw [List.map_cons];exact hm)
   have:=(Chn.cons p i b is ws h1 h2 h3 h4 h5).det k2
   rw [←this] at k1
   omega
theorem Chn.short {p:Nat} {is:List Nat} {ws:List Bound} (he:Ends 60 bs) (hp:p<60) (h:Chn bs last a p is ws):is.length≤60:=by
 have h1:=nodup_range (n:=60) h.nodup (fun x hx=>by
  rcases List.mem_cons.1 hx with rfl|hx
  · exact hp
  · obtain ⟨b,hb,rfl⟩:=List.mem_map.1 hx
    exact (he b (h.lens.2.2 b hb)).1)
 simp only [List.length_cons,List.length_map] at h1
 rw [h.lens.1];omega
structure PthInv (bs:List Bound) (a:Nat) (st:Row×Row):Prop where
 l1:st.1.length=60
 l2:st.2.length=60
 tight:TightP bs st.1 st.2
 chain:∀ p,p<60→val st.1 p<noneV→∃ is ws,Chn bs st.2 a p is ws
theorem pthInv_step (he:Ends 60 bs) (hno:NoCircle bs) {st:Row×Row} (h:PthInv bs a st) {i:Nat} {b:Bound} (hb:bs[i]? = some b):PthInv bs a (relaxStep st b i):=by
 by_cases hr:relaxes st.1 b=true
 · have hm:=List.mem_of_getElem? hb
   obtain ⟨e1,e2⟩:=he b hm
   obtain ⟨r1,r2⟩:=relaxes_iff.1 hr
   unfold relaxStep
   rw [if_pos hr]
   have v1:∀ v,val (rPut st.1 b.dst (rAt st.1 b.src+b.most)) v=if b.dst.toNat=v then val st.1 b.src.toNat+b.most else val st.1 v:=fun v=>by
    show val (st.1.set _ _) v=_
    rw [val_set _ _ _ _ (by rw [h.l1];exact e2)];rfl
   have v2:∀ v,val (rPut st.2 b.dst (i:Int)) v=if b.dst.toNat=v then (i:Int) else val st.2 v:=fun v=>by
    show val (st.2.set _ _) v=_
    rw [val_set _ _ _ _ (by rw [h.l2];exact e2)]
   obtain ⟨is,ws,hc⟩:=h.chain b.src.toNat e1 r1
   have hnot:b.dst.toNat∉b.src.toNat::ws.map (fun b=>b.src.toNat):=fun hv=>by
    obtain ⟨vs,g1,g2,g3⟩:=hc.visit he h.tight _ hv
    have:=hno b.dst.toNat (vs ++ [b]) (fun c hc=>by
     rcases List.mem_append.1 hc with hc|hc
     · exact g1 c hc
     · have:c=b:=by simpa using hc
       subst this;exact hm) (isWalk_append.2 ⟨_,g2,rfl,rfl⟩)
    rw [sumW_append] at this
    simp only [sumW] at this
    omega
   have hda:b.dst.toNat≠a:=fun e=>hnot (by rw [e];exact hc.begin_)
   have hsd:b.dst.toNat≠b.src.toNat:=fun e=>hnot (by rw [e];exact List.mem_cons_self)
   have hst:∀ q,q≠b.dst.toNat→val (rPut st.2 b.dst (i:Int)) q=val st.2 q:=fun q hq=>by rw [v2,if_neg (fun e=>hq e.symm)]
   have hnew:∃ is ws,Chn bs (rPut st.2 b.dst (i:Int)) a b.dst.toNat is ws:=⟨_,_,.cons _ i b is ws hda (by rw [v2,if_pos rfl]) hb rfl (hc.stay hst hnot)⟩
   refine ⟨by simp [h.l1],by simp [h.l2],fun p j c hp hj hc=> ?_,fun p hp hlt=> ?_⟩
   · rw [v2] at hj
     rw [v1,v1]
     by_cases e:b.dst.toNat=p
     · rw [if_pos e] at hj
       have:i=j:=by omega
       subst this
       rw [hb] at hc
       obtain rfl:=Option.some.inj hc
       rw [if_neg hsd,if_pos e]
       exact ⟨e,Int.le_refl _,r1⟩
     · rw [if_neg e] at hj
       obtain ⟨t1,t2,t3⟩:=h.tight p j c hp hj hc
       rw [if_neg e]
       refine ⟨t1,?_⟩
       split
       · rename_i e3;rw [←e3] at t2 t3;exact ⟨by omega,by omega⟩
       · exact ⟨t2,t3⟩
   · rw [v1] at hlt
     by_cases e:b.dst.toNat=p
     · rw [←e];exact hnew
     · rw [if_neg e] at hlt
       obtain ⟨is',ws',h'⟩:=h.chain p hp hlt
       exact h'.turn hst hnew
 · unfold relaxStep
   rw [if_neg hr]
   exact h
theorem pthInv_to (he:Ends 60 bs) (hno:NoCircle bs) {st:Row×Row} (h:PthInv bs a st):∀ k,PthInv bs a (passTo bs st k)
 | 0=>h
 | k+1=>by
   have ih:=pthInv_to he hno h k
   unfold passTo
   split
   · rename_i b hb;exact pthInv_step he hno ih hb
   · exact ih
theorem pthInv_loop (he:Ends 60 bs) (hno:NoCircle bs):∀ (n:Nat) (st:Row×Row),PthInv bs a st→PthInv bs a ((settledLoop bs n st).1,(settledLoop bs n st).2.1)
 | 0,st,h=>h
 | n+1,st,h=>by
   unfold settledLoop
   have h1:=pthInv_to he hno h bs.length
   split
   · exact h1
   · exact pthInv_loop he hno n _ h1
end
theorem path_law {pts:Int} {bs:List Bound} (hok:SysOk pts bs) (hs:solvedOk pts bs=true) {a b:Int} (a1:0≤a) (a2:a<pts) (_:0≤b) (b2:b<pts) (hr:greatestR pts bs a b<noneV):
 ∃ is ws,Chn bs (fromR pts bs a).2.1 a.toNat b.toNat is ws∧sumW ws=greatestR pts bs a b:=by
 have hp2:=hok.p2
 have he:=ends60 hok (from_len60 (a:=a))
 rw [from_len60] at he
 have hno:=(solution_iff hok).1 hs
 have h0:PthInv bs a.toNat (rPut emptyRow a 0,lasts):=⟨from_len60,by simp [lasts],fun p i c hp hi hc=>by
  have:val lasts p = -1:=by
   unfold val lasts
   rw [List.getD_eq_getElem?_getD,List.getElem?_replicate,if_pos hp];rfl
  simp only at hi
  omega,fun p hp hlt=>by
  rw [val_start a1 (by omega)] at hlt
  by_cases e:p=a.toNat
  · rw [e];exact ⟨_,_,.nil⟩
  · rw [if_neg e,if_pos hp] at hlt;omega⟩
 have hI:=pthInv_loop he hno (pts+1).toNat _ h0
 obtain ⟨is,ws,hc⟩:=hI.chain b.toNat (by omega) hr
 refine ⟨is,ws,hc,?_⟩
 have hfix:=from_fix (a:=a) hok a1 a2 hs
 have hz:=from_zero (a:=a) hok a1 a2 hs
 have key:∀ {p:Nat} {is:List Nat} {ws:List Bound},Chn bs (fromR pts bs a).2.1 a.toNat p is ws→p<60→fromV pts bs a p<noneV→sumW ws=fromV pts bs a p:=by
  intro p is ws h
  induction h with
  | nil=>intro _ _;rw [hz];rfl
  | cons p i c is ws h1 h2 h3 h4 h5 ih=>
    intro hp hlt
    have hm:=List.mem_of_getElem? h3
    obtain ⟨_,t2,t3⟩:=hI.tight p i c hp h2 h3
    have hk:=hfix c hm t3
    have hih:=ih (he c hm).1 t3
    have t2':fromV pts bs a c.src.toNat+c.most≤fromV pts bs a p:=t2
    simp only [sumW]
    rw [h4] at hk
    omega
 exact key hc (by omega) hr
end Go.Proofs.YtelnkflmnbhclaaGreat
end
section
namespace Go.Proofs.YtelnkflmnbhclaaGreat
open Go.RowKit Go.Proofs Go.Shelf
theorem GrownT.grown {T:Nat→Prop} {A B C:World} {r:Option Nat} (h:GrownT T A B) (g:B.grownBy C r) (hr:∀ j,r=some j→A.heap.size≤j):GrownT T A C:=
 ⟨g.os.trans h.os,g.tape.trans h.tape,g.output.trans h.output,Nat.le_trans h.size g.size,fun k hk ht=>(g.block k (by have:=h.size;omega) (fun e=>by have:=hr k e.symm;omega)).trans (h.block k hk ht)⟩
theorem GrownT.setCell {T:Nat→Prop} {A B:World} (h:GrownT T A B) {b:Nat} (hb:T b) (o:Nat) (v:Value):GrownT T A (B.setCell ⟨b,o,none⟩ v):=
 ⟨h.os,h.tape,h.output,by simpa using h.size,fun k hk ht=>(Below.heap_setCell _ _ _ k (fun e=>ht (by rw [e];exact hb))).trans (h.block k hk ht)⟩
def nOf:Option Value→Nat
 | some (.slice _ n _)=>n
 | _=>0
theorem ent_path1:∀ args w,(callFunc 159 args).run Tryz.prog w = .ok (.enter 159 args) w:=enters_of Tryz.func159 (by kernel_rfl) rfl
theorem Chn.at_begin {bs:List Bound} {last:Row} {a:Nat} {is:List Nat} {ws:List Bound} (h:Chn bs last a a is ws):is = []:=by
 cases h with
 | nil=>rfl
 | cons _ _ _ _ _ h1=>exact absurd rfl h1
theorem Chn.next {bs:List Bound} {last:Row} {a p:Nat} {is:List Nat} {ws:List Bound} (h:Chn bs last a p is ws) (hp:p≠a):∃ (i:Nat) (b:Bound) (is':List Nat) (ws':List Bound),is=i::is'∧val last p=i∧bs[i]? = some b∧Chn bs last a b.src.toNat is' ws':=by
 cases h with
 | nil=>exact absurd rfl hp
 | cons _ i b is' ws' h1 h2 h3 h4 h5=>exact ⟨i,b,is',ws',rfl,h2,h3,h5⟩
set_option maxRecDepth 100000 in
set_option maxHeartbeats 8000000 in
theorem path1 (pts:Int) (A:Option Addr) (n c:Nat) (bs:List Bound) (a b:Int) (b0 b1 b2 bf bo:Nat) (v0:Bool) (fd:Bool) (is:List Nat) (ws:List Bound) (w:World) (hl:Rd encBound 4 w A n c bs) (hok:SysOk pts bs)
 (h1:0≤a) (h2:a<pts) (h3:0≤b) (h4:b<pts) (hfd:decide (greatestR pts bs a b<noneV)=fd) (hch:fd=true→Chn bs (fromR pts bs a).2.1 a.toNat b.toNat is ws) (hno:fd=false→is = []) (hlen:is.length≤100000)
 (c0:w.cell? ⟨b0,0,none⟩=some (.int .i64 pts)) (c1:w.cell? ⟨b0,1,none⟩=some (.slice A n c)) (ca:w.cell? ⟨b1,0,none⟩=some (.int .i64 a)) (cb:w.cell? ⟨b2,0,none⟩=some (.int .i64 b))
 (cf:w.cell? ⟨bf,0,none⟩=some (.bool v0)) (ff:w.frozen? ⟨bf,0,none⟩=false) (co:w.cell? ⟨bo,0,none⟩=some (.slice none 0 0)) (fo:w.frozen? ⟨bo,0,none⟩=false)
 (n0:b0≠bf) (n1:b1≠bf) (n2:b2≠bf) (n3:bo≠bf) (n4:b0≠bo) (n5:b1≠bo) (n7:0<n→∀ b o,A=some ⟨b,o,none⟩→b≠bo∧b≠bf):
 Calls Tryz.prog 159 #[.pointer (some ⟨b0,0,none⟩),.pointer (some ⟨b1,0,none⟩),.pointer (some ⟨b2,0,none⟩),.pointer (some ⟨bf,0,none⟩),.pointer (some ⟨bo,0,none⟩)] w fun e w'=>e = .returned (.tuple #[])∧GrownT (fun k=>k=bf∨k=bo) w w'∧w'.cell? ⟨bf,0,none⟩=some (.bool fd)∧
  ∃ A' c',w'.cell? ⟨bo,0,none⟩=some (.slice A' is.length c')∧Own encInt 1 3 w.heap.size w' A' is.length c' ((is.map fun i:Nat=>(i:Int)).reverse):=by
 have hp2:=hok.p2
 have hfr:=from_any pts A n c bs a w hl hok h1 h2
 have hlens:=settled_len pts bs (rPut emptyRow a 0)
 have hSR:settled pts bs (rPut emptyRow a 0)=fromR pts bs a:=rfl
 have hG:greatestR pts bs a b=rAt (fromR pts bs a).1 b:=rfl
 rw [hSR] at hlens
 rw [hG] at hfd
 clear hSR hG
 generalize fromR pts bs a=R at hfr hlens hfd hch
 obtain ⟨rr,ll,ok⟩:=R
 simp only [rPut_len,emptyRow_len] at hlens hfr hfd hch
 obtain ⟨hlr,hll⟩:=hlens
 have HLL:=Lib.hid hll
 have HLR:=Lib.hid hlr
 have HF:=Lib.hid hfr
 have hz0:=block_lt_of_cell c0
 have hza:=block_lt_of_cell ca
 have hzb:=block_lt_of_cell cb
 have hzf:=block_lt_of_cell cf
 have hzo:=block_lt_of_cell co
 simp only at hz0 hza hzb hzf hzo
 have HL:=Lib.hid hl
 have HOK:=Lib.hid hok
 have N7:=Lib.hid n7
 have HCH:=Lib.hid hch
 have HNO:=Lib.hid hno
 have HFD:Hid (decide (rr[b.toNat]?.getD 0<1099511627776)=fd):=(show decide (rr[b.toNat]?.getD 0<1099511627776)=fd by rw [←List.getD_eq_getElem?_getD];exact hfd)
 have CA:=Lib.hid ca
 have C1:=Lib.hid c1
 have FO:=Lib.hid fo
 have HC:∀ W,Below w.heap.size w W→W.cell? ⟨b0,0,none⟩=some (.int .i64 pts)∧W.cell? ⟨b0,1,none⟩=some (.slice A n c)∧W.cell? ⟨b1,0,none⟩=some (.int .i64 a)∧W.cell? ⟨b2,0,none⟩=some (.int .i64 b)∧W.cell? ⟨bf,0,none⟩=some (.bool v0)∧W.frozen? ⟨bf,0,none⟩=false∧W.cell? ⟨bo,0,none⟩=some (.slice none 0 0)∧W.frozen? ⟨bo,0,none⟩=false:=fun W h=>
  ⟨(h.cell (p:=⟨b0,0,none⟩) hz0).trans c0,(h.cell (p:=⟨b0,1,none⟩) hz0).trans c1,(h.cell (p:=⟨b1,0,none⟩) hza).trans ca,(h.cell (p:=⟨b2,0,none⟩) hzb).trans cb,(h.cell (p:=⟨bf,0,none⟩) hzf).trans cf,(h.frozen (p:=⟨bf,0,none⟩) hzf).trans ff,(h.cell (p:=⟨bo,0,none⟩) hzo).trans co,(h.frozen (p:=⟨bo,0,none⟩) hzo).trans fo⟩
 have HCC:=Lib.hid HC
 clear hfr hll hlr hl hok n7 hch hno hfd HC cf ff co fo
 go_enter Tryz.func159,Tryz.ntmps159
 go_wp2_with (first
  | (refine wpL_alloc (t:=207) rfl rfl zero207 ?_)
  | (refine wpL_alloc (t:=206) rfl rfl zero206 ?_)
  | (go_at_call 160;refine HF.out.mono ?_;rintro e w2 ⟨rfl,hb⟩;clear c0 c1 ca cb)
  | (refine wpL_store row207 rfl rfl rfl rfl (by rw [rowAt?_alloc_past _ (by simp),rowAt?_alloc_at _ _ rfl];simp [zeroRow]) HLR.out ?_)
  | (refine wpL_store row206 rfl rfl rfl rfl ?_ HLL.out ?_
     · rw [World.size_alloc,rowAt?_setRow_other _ (by omega),rowAt?_alloc_at _ _ (by simp)];simp [zeroRow]
     obtain ⟨W3,hW3⟩:∃ W3,((((w2.alloc (.cells (rowA zeroRow) 207)).alloc (.cells (rowA zeroRow) 206)).setRow w2.heap.size (rowA rr)).setRow (w2.alloc (.cells (rowA zeroRow) 207)).heap.size (rowA ll))=W3:=⟨_,rfl⟩
     rw [hW3]
     rw [World.size_alloc] at hW3
     have hr3:rowAt? W3 w2.heap.size 60=some (rowA rr):=(by rw [←hW3,rowAt?_setRow_other _ (by omega),rowAt?_setRow_same _ (by rw [rowAt?_alloc_past _ (by simp),rowAt?_alloc_at _ _ rfl];simp [zeroRow]) (by rw [rowA_size,HLR.out])])
     have hr4:rowAt? W3 (w2.heap.size+1) 60=some (rowA ll):=(by rw [←hW3,rowAt?_setRow_same _ (by rw [rowAt?_setRow_other _ (by omega),rowAt?_alloc_at _ _ (by simp)];simp [zeroRow]) (by rw [rowA_size,HLL.out])])
     have hcb:=rowAt?_int hr3 (i:=b.toNat) (by rw [HLR.out];omega)
     have hz2:=hb.size
     have hb3:Below w.heap.size w W3:=(by rw [←hW3];exact below_setRow (below_setRow ((hb.alloc (by omega) _).alloc (by simp;omega) _) (by omega) _) (by omega) _)
     have hz3:W3.heap.size=w2.heap.size+2:=(by rw [←hW3];simp)
     obtain ⟨c0,c1,ca,cb,cf,ff,co,fo⟩:=HCC.out W3 hb3
     have HR4:=Lib.hid hr4
     have HB3:=Lib.hid hb3
     have HZ3:=Lib.hid hz3
     clear hW3 hr3 hr4 hb hb3 hz3))
 rw [HFD.out]
 obtain ⟨w4,hw4⟩:∃ w4,W3.setCell ⟨bf,0,none⟩ (.bool fd)=w4:=⟨_,rfl⟩
 rw [hw4]
 obtain ⟨g6,hg6⟩:∃ g6,w2.heap.size+1=g6:=⟨_,rfl⟩
 rw [hg6]
 have hz4:w4.heap.size=W3.heap.size:=(by rw [←hw4];simp)
 have hz3:=HZ3.out
 have HG4:Hid (GrownT (fun k=>k=bf∨k=bo) w w4):=(show GrownT _ w w4 by rw [←hw4];exact ((GrownT.refl _ w).of_below HB3.out (Nat.le_refl _)).setCell (.inl rfl) 0 _)
 have HF4:Hid (∀ W,GrownT (fun k=>k=bo) w4 W→W.cell? ⟨b0,1,none⟩=some (.slice A n c)∧W.cell? ⟨b1,0,none⟩=some (.int .i64 a)∧W.cell? ⟨bf,0,none⟩=some (.bool fd)∧∀ q:Nat,q<60→W.cell? ⟨g6,q,none⟩=some (.int .i64 (val ll q))):=
  (show ∀ W,GrownT (fun k=>k=bo) w4 W→_ from fun W h=>by
    have o1:∀ {k o:Nat},k≠bf→w4.cell? ⟨k,o,none⟩=W3.cell? ⟨k,o,none⟩:=fun {k o} hk=>by rw [←hw4];exact World.cell?_of_block (a:=⟨k,o,none⟩) (Below.heap_setCell _ _ _ k (show k≠bf from hk))
    refine ⟨(h.cell (by omega) n4).trans ((o1 n0).trans c1),(h.cell (by omega) n5).trans ((o1 n1).trans ca),(h.cell (by omega) (fun e=>n3 e.symm)).trans (by rw [←hw4];exact World.cell?_setCell_same' _ _ _ (by rw [cf];rfl)),fun q hq=>(h.cell (by omega) (by omega)).trans ((o1 (by omega)).trans ?_)⟩
    have:=rowAt?_int HR4.out (i:=q) (by rw [HLL.out];exact hq)
    rw [←hg6]
    exact this)
 have co4:w4.cell? ⟨bo,0,none⟩=some (.slice none 0 0):=(by rw [←hw4];exact (World.cell?_of_block (a:=⟨bo,0,none⟩) (Below.heap_setCell _ _ _ bo (show bo≠bf from n3))).trans co)
 have fo4:w4.frozen? ⟨bo,0,none⟩=false:=(by rw [←hw4,World.frozen?_setCell];exact fo)
 have CO4:=Lib.hid co4
 have FO4:=Lib.hid fo4
 clear hw4 c0 c1 ca cb cf ff co fo hcb HR4 HFD co4 fo4
 go_loopw [7] (fun s7 wr=> ∃ (q:Nat) (is':List Nat) (ws':List Bound) (done:List Nat) (A':Option Addr) (c':Nat),s7 = .int .i64 q∧q<60∧Hid (fd=true→Chn bs ll a.toNat q is' ws')∧Hid (fd=false→is' = [])∧Hid (done++is'=is)∧Hid (GrownT (fun k=>k=bo) w4 wr)∧Hid (wr.cell? ⟨bo,0,none⟩=some (.slice A' done.length c'))∧Hid (wr.frozen? ⟨bo,0,none⟩=false)∧Hid (Own encInt 1 3 w4.heap.size wr A' done.length c' (done.map fun i:Nat=>(i:Int)))) (fun _ wr=>100000-nOf (wr.cell? ⟨bo,0,none⟩))
 case atStart=>exact ⟨b.toNat,is,ws,[],none,0,by rw [Int.toNat_of_nonneg h3],by omega,HCH,HNO,(show _=_ from rfl),(show GrownT _ _ _ from GrownT.refl _ _),CO4,FO4,(show Own _ _ _ _ _ _ _ _ _ from Own.none_ _ _ _ _ _)⟩
 case round=>
  obtain ⟨q,is',ws',done,A',c',rfl,hq,hch,hno,hdn,hgr,hco,hfo,hown⟩:=hrel
  rename World=>wr
  obtain ⟨k1,ka,kf,kr⟩:=HF4.out wr hgr.out
  have hzr:=hgr.out.size
  have hbol:bo<wr.heap.size:=(by omega)
  have hdl:done.length≤is.length:=(by rw [←hdn.out,List.length_append];omega)
  have kco:=hco.out
  have kfo:=hfo.out
  have hnil:is' = []→(done.map fun i:Nat=>(i:Int))=is.map fun i:Nat=>(i:Int):=fun h=>by have:=hdn.out;rw [h,List.append_nil] at this;rw [this]
  have hend:(is' = [])→∀ (w9:World) (u:Value),wr.grownBy w9 (blockOf A')→Own encInt 1 3 w4.heap.size w9 A' done.length c' (done.map fun i:Nat=>(i:Int)).reverse→
   GrownT (fun k=>k=bf∨k=bo) w w9∧w9.cell? ⟨bf,0,none⟩=some (.bool fd)∧∃ A' c',w9.cell? ⟨bo,0,none⟩=some (.slice A' is.length c')∧Own encInt 1 3 w.heap.size w9 A' is.length c' ((is.map fun i:Nat=>(i:Int)).reverse):=fun h w9 u hg9 hO9=>by
   have hl9:done.length=is.length:=by have:=hdn.out;rw [h,List.append_nil] at this;rw [this]
   have hlt:∀ j,blockOf A'=some j→w4.heap.size≤j:=fun j hj=>hown.out.ltB j hj
   have hgr9:GrownT (fun k=>k=bo) w4 w9:=hgr.out.grown hg9 hlt
   refine ⟨HG4.out.trans (hgr9.mono (fun k e=> .inr e)),(HF4.out w9 hgr9).2.2.1,A',c',?_,?_⟩
   · rw [←hl9]
     exact (World.cell?_of_block (a:=⟨bo,0,none⟩) (hg9.block bo hbol (fun e=>by have:=hlt bo e.symm;omega))).trans hco.out
   · rw [←hl9,←hnil h]
     exact hO9.mono (by have:=HG4.out.size;omega)
  have HEND:=Lib.hid hend
  clear hend hnil
  cases fd with
  | false=>
    have hn0:=hno.out rfl
    have HO0:=Lib.hid hown.out
    clear hgr hco hfo
    have hd6:done.length≤1000000:=(by omega)
    go_wp2_with (first
     | (go_at_call 161;refine (Reverse_own _ A' _ c' _ wr HO0.out hd6).mono ?_;rintro e w9 ⟨rfl,hO9,hg9⟩))
    go_end0
    exact ⟨rfl,HEND.out hn0 w9 undef hg9 hO9⟩
  | true=>
    by_cases hqa:q=a.toNat
    · have hn0:is' = []:=by have:=hch.out rfl;rw [hqa] at this;exact this.at_begin
      have HO0:=Lib.hid hown.out
      have t1:((q:Int) != a)=false:=(by simp;omega)
      have t2:(q:Int)=a:=(by omega)
      clear hgr hco hfo
      have hd6:done.length≤1000000:=(by omega)
      go_wp2_with (first
       | (go_at_call 161;refine (Reverse_own _ A' _ c' _ wr HO0.out hd6).mono ?_;rintro e w9 ⟨rfl,hO9,hg9⟩))
      go_end0
      exact ⟨rfl,HEND.out hn0 w9 undef hg9 hO9⟩
    · obtain ⟨i,y,is2,ws2,rfl,hv,hy,hc2⟩:=(hch.out rfl).next hqa
      have t1:((q:Int) != a)=true:=(by simp;omega)
      have t2:¬(q:Int)=a:=(by omega)
      have kq:=kr q hq
      rw [hv] at kq
      have HV:Hid (∀ W,GrownT (fun k=>k=bo) w4 W→W.cell? ⟨g6,q,none⟩=some (.int .i64 i)∧W.cell? ⟨b0,1,none⟩=some (.slice A n c)):=(show ∀ W,_→_ from fun W h=>⟨by rw [←hv];exact (HF4.out W h).2.2.2 q hq,(HF4.out W h).1⟩)
      have hin:i<n:=(by have:=(List.getElem?_eq_some_iff.1 hy).1;have:=HL.out.len;omega)
      obtain ⟨b9,off9,y',hA,hbw9,hy',hcell9⟩:=HL.out.one hin
      subst hA
      obtain rfl:y=y':=Option.some.inj (hy.symm.trans hy')
      have yc:w.cell? ⟨b9,off9+i * 4,none⟩=some (.int .i64 y.src):=hcell9 0 _ rfl
      obtain ⟨m1,m2⟩:=N7.out (by omega) b9 off9 rfl
      have YS:Hid (∀ W,GrownT (fun k=>k=bo) w4 W→W.cell? ⟨b9,off9+i * 4,none⟩=some (.int .i64 y.src)):=(show ∀ W,_→_ from fun W h=>(h.cell (by have:=HG4.out.size;omega) m1).trans ((HG4.out.cell hbw9 (fun e=>e.elim m2 m1)).trans yc))
      have hys:=HOK.out.b y (List.mem_of_getElem? hy)
      have o3:=hys.1
      have o4:y.src<60:=(by omega)
      have hlt9:∀ j,blockOf A'=some j→w4.heap.size≤j:=fun j hj=>hown.out.ltB j hj
      have HLT:=Lib.hid hlt9
      have hbo4:bo<w4.heap.size:=(by have:=HG4.out.size;omega)
      have hne9:some bo≠blockOf A':=fun e=>by have:=hlt9 bo e.symm;omega
      have CE:Hid (PthCells bo g6 q i A' done.length c' wr):=(show PthCells bo g6 q i A' done.length c' wr from fun W h=>
       ⟨(HV.out W (hgr.out.grown h hlt9)).1,(World.cell?_of_block (a:=⟨bo,0,none⟩) (h.block bo hbol hne9)).trans hco.out,(World.frozen?_of_block (a:=⟨bo,0,none⟩) (h.block bo hbol hne9)).trans hfo.out⟩)
      have HNE:=Lib.hid hne9
      have HC2:Hid (Chn bs ll a.toNat y.src.toNat is2 ws2):=(show Chn _ _ _ _ _ _ from hc2)
      have hdl2:done.length<is.length:=(by have:=hdn.out;have:=congrArg List.length this;simp at this;omega)
      have HNR:Hid (nOf (wr.cell? ⟨bo,0,none⟩)=done.length):=(show _=_ by rw [hco.out];rfl)
      have hq6:(q:Int)<60:=(by omega)
      clear hy hy' hcell9 yc hys hlt9 hne9 hc2 hch hno HEND hv m1 m2
      go_upto_region 5 with (fail)
      refine pth5 _ rfl bo g6 q i A' done.length c' w4.heap.size _ _ wr _ rfl rfl rfl rfl CE.out hown.out (by omega) (by omega) hq6 ?_
      intro nb A6 c6 w6 hO6 hg6
      have hgr7:GrownT (fun k=>k=bo) w4 (w6.setCell ⟨bo,0,none⟩ (.slice A6 (done.length+1) c6)):=(hgr.out.grown hg6 HLT.out).setCell rfl 0 _
      have e6:=(World.cell?_of_block (a:=⟨bo,0,none⟩) (hg6.block bo hbol HNE.out)).trans hco.out
      have hco7:(w6.setCell ⟨bo,0,none⟩ (.slice A6 (done.length+1) c6)).cell? ⟨bo,0,none⟩=some (.slice A6 (done.length+1) c6):=World.cell?_setCell_same' _ _ _ (by rw [e6];rfl)
      have hfo7:(w6.setCell ⟨bo,0,none⟩ (.slice A6 (done.length+1) c6)).frozen? ⟨bo,0,none⟩=false:=(by rw [World.frozen?_setCell];exact (World.frozen?_of_block (a:=⟨bo,0,none⟩) (hg6.block bo hbol HNE.out)).trans hfo.out)
      have hO7:Own encInt 1 3 w4.heap.size (w6.setCell ⟨bo,0,none⟩ (.slice A6 (done.length+1) c6)) A6 (done.length+1) c6 ((done ++ [i]).map fun i:Nat=>(i:Int)):=by
       rw [List.map_append]
       exact ⟨hO6.len,ownsRow_setCell_below hO6.own (a:=⟨bo,0,none⟩) hbo4 _⟩
      obtain ⟨u1,u2⟩:=HV.out _ hgr7
      have u3:=YS.out _ hgr7
      have HNQ:Hid (nOf ((w6.setCell ⟨bo,0,none⟩ (.slice A6 (done.length+1) c6)).cell? ⟨bo,0,none⟩)=done.length+1):=(show _=_ by rw [hco7];rfl)
      have HGR7:=Lib.hid hgr7
      have HCO7:=Lib.hid hco7
      have HFO7:=Lib.hid hfo7
      have HO7:=Lib.hid hO7
      have HD7:Hid ((done ++ [i])++is2=is):=(show _=_ by rw [List.append_assoc];exact hdn.out)
      clear hO6 hg6 hgr7 e6 hco7 hfo7 hO7 kco kfo k1 ka kf kq hdn
      generalize w6.setCell ⟨bo,0,none⟩ (.slice A6 (done.length+1) c6)=w7 at *
      simp only [setsL,Tpth5,List.take_succ_cons,List.take_zero,List.getD_cons_zero,List.getD_cons_succ,Nat.reduceAdd,List.setIfInBounds_toArray,List.set_cons_succ,List.set_cons_zero]
      go_wp2_with (go_quiet (fail))
      go_roundw
      all_goals first
       | (show 100000-nOf (w7.cell? _)<100000-nOf _;rw [HNQ.out,HNR.out];omega)
       | exact ⟨y.src.toNat,is2,ws2,done ++ [i],A6,c6,by rw [Int.toNat_of_nonneg o3],by omega,(show _→_ from fun _=>HC2.out),(show true=false→_ from fun h=>by cases h),HD7,(show GrownT _ _ _ from HGR7.out.of_below (below_drewN' (Below.refl w7.heap.size w7) _) HGR7.out.size),(show _=_ by rw [List.length_append];exact HCO7.out),HFO7,(show Own _ _ _ _ _ _ _ _ _ by rw [List.length_append];exact HO7.out.drewN _)⟩
end Go.Proofs.YtelnkflmnbhclaaGreat
end
section
namespace Go.Proofs.YtelnkflmnbhclaaGreat
open Go.RowKit Go.Proofs Go.Shelf
def IsPath (pts:Int) (bs:List Bound) (a b:Int) (is:List Nat):Prop:=∃ ws,Chn bs (fromR pts bs a).2.1 a.toNat b.toNat is ws∧sumW ws=greatestR pts bs a b
open Classical in
noncomputable def pathI (pts:Int) (bs:List Bound) (a b:Int):List Nat:=
 if h:solvedOk pts bs=true∧greatestR pts bs a b<noneV∧∃ is,IsPath pts bs a b is then Classical.choose h.2.2 else []
theorem pathI_is {pts:Int} {bs:List Bound} {a b:Int} (hok:SysOk pts bs) (hs:solvedOk pts bs=true) (a1:0≤a) (a2:a<pts) (b1:0≤b) (b2:b<pts) (hr:greatestR pts bs a b<noneV):IsPath pts bs a b (pathI pts bs a b):=by
 have h:solvedOk pts bs=true∧greatestR pts bs a b<noneV∧∃ is,IsPath pts bs a b is:=⟨hs,hr,by
  obtain ⟨is,ws,h1,h2⟩:=path_law hok hs a1 a2 b1 b2 hr
  exact ⟨is,ws,h1,h2⟩⟩
 unfold pathI
 rw [dif_pos h]
 exact Classical.choose_spec h.2.2
theorem pathI_no {pts:Int} {bs:List Bound} {a b:Int} (h:¬(solvedOk pts bs=true∧greatestR pts bs a b<noneV)):pathI pts bs a b = []:=by
 unfold pathI
 rw [dif_neg (fun k=>h ⟨k.1,k.2.1⟩)]
theorem greatestV_yes {pts:Int} {bs:List Bound} {a b:Int} (hs:solvedOk pts bs=true):(greatestV pts bs a b).2.1=decide (greatestR pts bs a b≠noneV)∧(greatestV pts bs a b).2.2=0:=by
 unfold greatestV
 rw [if_pos hs]
 split
 · rename_i h;exact ⟨by simp [h],rfl⟩
 · rename_i h;exact ⟨by simp [h],rfl⟩
theorem greatest_le {pts:Int} {bs:List Bound} {a b:Int} (hok:SysOk pts bs) (a1:0≤a) (a2:a<pts) (_:0≤b) (b2:b<pts):greatestR pts bs a b≤noneV:=by
 have hp:=hok.p2
 have:=from_le (a:=a) hok a1 a2 b.toNat
 rw [greatestR_val]
 refine Int.le_trans this ?_
 split
 · decide
 · rw [if_pos (by omega)];exact Int.le_refl _
noncomputable def pathL (pts:Int) (bs:List Bound) (a b:Int):List Int:=((pathI pts bs a b).map fun i:Nat=>(i:Int)).reverse
theorem pathL_len (pts:Int) (bs:List Bound) (a b:Int):(pathL pts bs a b).length=(pathI pts bs a b).length:=by simp [pathL]
set_option maxRecDepth 100000 in
set_option maxHeartbeats 2000000 in
theorem GPath_any (pts:Int) (A:Option Addr) (n c:Nat) (bs:List Bound) (a b:Int) (w:World) (hl:Rd encBound 4 w A n c bs) (hk:checkSys pts bs=0) (h1:0≤a) (h2:a<pts) (h3:0≤b) (h4:b<pts):
 Calls Tryz.prog 108 #[.agg #[.int .i64 pts,.slice A n c],.int .i64 a,.int .i64 b] w fun e w'=> ∃ A' c',e = .returned (.tuple #[.slice A' (pathI pts bs a b).length c',.bool (greatestV pts bs a b).2.1,.int .i64 (greatestV pts bs a b).2.2])∧Below w.heap.size w w'∧Own encInt 1 3 w.heap.size w' A' (pathI pts bs a b).length c' (pathL pts bs a b):=by
 have hok:=sysOk_of hk
 obtain ⟨W1,hW1⟩:∃ W1,((((w.alloc (.cells #[.int .i64 pts,.slice A n c] 117)).alloc (.cells #[.int .i64 a] 3)).alloc (.cells #[.int .i64 b] 3)).alloc (.cells #[.slice none 0 0] 101)).alloc (.cells #[.bool false] 4)=W1:=⟨_,rfl⟩
 have hs1:W1.heap.size=w.heap.size+5:=by rw [←hW1];simp
 have hb1:Below w.heap.size w W1:=by rw [←hW1];exact (((((Below.refl _ w).alloc (Nat.le_refl _) _).alloc (by simp<;>omega) _).alloc (by simp<;>omega) _).alloc (by simp<;>omega) _).alloc (by simp<;>omega) _
 have hl1:=hl.below hb1 (Nat.le_refl _)
 have e0:∀ i,W1.cell? ⟨w.heap.size,i,none⟩ = #[Value.int .i64 pts,.slice A n c][i]? := fun i=>by rw [←hW1,World.cell?_alloc_past _ _ _ (by simp<;>omega),World.cell?_alloc_past _ _ _ (by simp<;>omega),World.cell?_alloc_past _ _ _ (by simp<;>omega),World.cell?_alloc_past _ _ _ (by simp<;>omega),World.cell?_alloc_at _ _ _ _ rfl]
 have ea:W1.cell? ⟨w.heap.size+1,0,none⟩=some (.int .i64 a):=by rw [←hW1,World.cell?_alloc_past _ _ _ (by simp<;>omega),World.cell?_alloc_past _ _ _ (by simp<;>omega),World.cell?_alloc_past _ _ _ (by simp<;>omega),World.cell?_alloc_at _ _ _ _ (by simp<;>omega)];rfl
 have eb:W1.cell? ⟨w.heap.size+2,0,none⟩=some (.int .i64 b):=by rw [←hW1,World.cell?_alloc_past _ _ _ (by simp<;>omega),World.cell?_alloc_past _ _ _ (by simp<;>omega),World.cell?_alloc_at _ _ _ _ (by simp<;>omega)];rfl
 have eo:W1.cell? ⟨w.heap.size+3,0,none⟩=some (.slice none 0 0):=by rw [←hW1,World.cell?_alloc_past _ _ _ (by simp<;>omega),World.cell?_alloc_at _ _ _ _ (by simp<;>omega)];rfl
 have fo:W1.frozen? ⟨w.heap.size+3,0,none⟩=false:=by rw [←hW1,World.frozen?_alloc_past _ _ _ (by simp<;>omega)];exact World.frozen?_alloc_at _ _ _ _ (by simp<;>omega)
 have ef:W1.cell? ⟨w.heap.size+4,0,none⟩=some (.bool false):=by rw [←hW1,World.cell?_alloc_at _ _ _ _ (by simp<;>omega)];rfl
 have ff:W1.frozen? ⟨w.heap.size+4,0,none⟩=false:=by rw [←hW1];exact World.frozen?_alloc_at _ _ _ _ (by simp<;>omega)
 cases hs:solvedOk pts bs
 · have hg:greatestV pts bs a b=(0,false,10):=by unfold greatestV;rw [hs];rfl
   have hp:pathI pts bs a b = []:=pathI_no (fun h=>by rw [hs] at h;exact absurd h.1 (by simp))
   have hask:=gasked_no pts A n c bs a b 159 #[.pointer (some ⟨w.heap.size,0,none⟩),.pointer (some ⟨w.heap.size+1,0,none⟩),.pointer (some ⟨w.heap.size+2,0,none⟩),.pointer (some ⟨w.heap.size+4,0,none⟩),.pointer (some ⟨w.heap.size+3,0,none⟩)] W1 hl1 hk hs h1 h2 h3 h4
   unfold pathL
   rw [hg,hp]
   have HA:=Lib.hid hask
   have HW:=Lib.hid hW1
   have HN:=Lib.hid ef
   have HO:=Lib.hid eo
   clear hg hp e0 ea eb ef ff eo fo hl hl1 hk hs hask hW1 hok
   go_enter Tryz.func108,Tryz.ntmps108
   go_wp2_with (go_at_call 138;rw [HW.out];refine HA.out.mono ?_;rintro e w2 ⟨rfl,hb⟩;have d1:w2.cell? ⟨w.heap.size+1+1+1+1,0,none⟩=some (.bool false):=(hb.cell (p:=⟨w.heap.size+4,0,none⟩) (show w.heap.size+4<W1.heap.size by omega)).trans HN.out;have d2:w2.cell? ⟨w.heap.size+1+1+1,0,none⟩=some (.slice none 0 0):=(hb.cell (p:=⟨w.heap.size+3,0,none⟩) (show w.heap.size+3<W1.heap.size by omega)).trans HO.out)
   go_wp2_with (go_quiet (fail))
   go_ret3
   exact ⟨none,0,rfl,below_drewN' (hb1.trans (hb.mono (show w.heap.size≤W1.heap.size by omega))) _,Own.none_ _ _ _ _ _⟩
 · obtain ⟨fd,hfd⟩:∃ fd,decide (greatestR pts bs a b<noneV)=fd:=⟨_,rfl⟩
   have hgv:=greatestV_yes (a:=a) (b:=b) hs
   have hfe:decide (greatestR pts bs a b≠noneV)=fd:=by
    rw [←hfd]
    have:=greatest_le hok h1 h2 h3 h4
    refine decide_eq_decide.2 ⟨fun h=>by omega,fun h=>by omega⟩
   rw [hfe] at hgv
   obtain ⟨is,his⟩:∃ is,pathI pts bs a b=is:=⟨_,rfl⟩
   have hch:∃ ws,(fd=true→Chn bs (fromR pts bs a).2.1 a.toNat b.toNat is ws)∧(fd=false→is = [])∧is.length≤100000:=by
    cases fd with
    | false=>exact ⟨[],(fun h=>by cases h),(fun _=>by rw [←his];exact pathI_no (fun h=>absurd h.2 (of_decide_eq_false hfd))),(by rw [←his,pathI_no (fun h=>absurd h.2 (of_decide_eq_false hfd))];decide)⟩
    | true=>
      obtain ⟨ws,k1,_⟩:=pathI_is hok hs h1 h2 h3 h4 (of_decide_eq_true hfd)
      rw [his] at k1
      have he:=ends60 hok (from_len60 (a:=a))
      rw [from_len60] at he
      have hp2:=hok.p2
      exact ⟨ws,(fun _=>k1),(fun h=>by cases h),(by have:=k1.short he (by omega);omega)⟩
   obtain ⟨ws,hch,hno,hlen⟩:=hch
   have hask:=gasked_yes2 pts A n c bs a b 159 #[.pointer (some ⟨w.heap.size,0,none⟩),.pointer (some ⟨w.heap.size+1,0,none⟩),.pointer (some ⟨w.heap.size+2,0,none⟩),.pointer (some ⟨w.heap.size+4,0,none⟩),.pointer (some ⟨w.heap.size+3,0,none⟩)] ent_path1 W1 hl1 hk hs h1 h2 h3 h4
    (fun k=>k=w.heap.size+4∨k=w.heap.size+3) (fun k hk=>by omega)
    (fun W=>W.cell? ⟨w.heap.size+4,0,none⟩=some (.bool fd)∧∃ A' c',W.cell? ⟨w.heap.size+3,0,none⟩=some (.slice A' is.length c')∧Own encInt 1 3 (W1.heap.size+6) W A' is.length c' ((is.map fun i:Nat=>(i:Int)).reverse))
    (fun W v h=>by
      obtain ⟨k1,A',c',k2,k3⟩:=h
      refine ⟨(World.cell?_of_block (a:=⟨w.heap.size+4,0,none⟩) (Below.heap_setCell _ _ _ (w.heap.size+4) (show w.heap.size+4≠W1.heap.size+5 by omega))).trans k1,A',c',(World.cell?_of_block (a:=⟨w.heap.size+3,0,none⟩) (Below.heap_setCell _ _ _ (w.heap.size+3) (show w.heap.size+3≠W1.heap.size+5 by omega))).trans k2,k3.len,ownsRow_setCell_below k3.own (a:=⟨W1.heap.size+5,0,none⟩) (show W1.heap.size+5<W1.heap.size+6 by omega) v⟩)
    (fun W hW hWz=>(path1 pts A n c bs a b w.heap.size (w.heap.size+1) (w.heap.size+2) (w.heap.size+4) (w.heap.size+3) false fd is ws W (hl1.below hW (Nat.le_refl _)) hok h1 h2 h3 h4 hfd hch hno hlen
      ((hW.cell (p:=⟨w.heap.size,0,none⟩) (show w.heap.size<W1.heap.size by omega)).trans (e0 0)) ((hW.cell (p:=⟨w.heap.size,1,none⟩) (show w.heap.size<W1.heap.size by omega)).trans (e0 1))
      ((hW.cell (p:=⟨w.heap.size+1,0,none⟩) (show w.heap.size+1<W1.heap.size by omega)).trans ea) ((hW.cell (p:=⟨w.heap.size+2,0,none⟩) (show w.heap.size+2<W1.heap.size by omega)).trans eb)
      ((hW.cell (p:=⟨w.heap.size+4,0,none⟩) (show w.heap.size+4<W1.heap.size by omega)).trans ef) ((hW.frozen (p:=⟨w.heap.size+4,0,none⟩) (show w.heap.size+4<W1.heap.size by omega)).trans ff)
      ((hW.cell (p:=⟨w.heap.size+3,0,none⟩) (show w.heap.size+3<W1.heap.size by omega)).trans eo) ((hW.frozen (p:=⟨w.heap.size+3,0,none⟩) (show w.heap.size+3<W1.heap.size by omega)).trans fo)
      (by omega) (by omega) (by omega) (by omega) (by omega) (by omega) (fun hn0 b o hb=>by
          obtain ⟨b',off,e',hlt,_⟩:=hl.at_ hn0
          rw [hb] at e'
          cases e'
          omega)).mono fun _ _ h=>⟨h.1,h.2.1,h.2.2.1,by
          obtain ⟨A',c',k1,k2⟩:=h.2.2.2
          exact ⟨A',c',k1,k2.mono hWz⟩⟩)
   unfold pathL
   rw [hgv.1,hgv.2,his]
   generalize (is.map fun i:Nat=>(i:Int)).reverse=out at hask ⊢
   generalize is.length=m at hask ⊢
   have HA:=Lib.hid hask
   have HW:=Lib.hid hW1
   clear e0 ea eb ef ff eo fo hl hl1 hk hs hask hW1 hgv hfe hfd his hch hno hlen hok
   go_enter Tryz.func108,Tryz.ntmps108
   go_wp2_with (go_at_call 138;rw [HW.out];refine HA.out.mono ?_;rintro e w2 ⟨rfl,hg,d1,A',c',d2,hO⟩)
   go_wp2_with (go_quiet (fail))
   go_ret3
   have hbz:Below w.heap.size w w2:=hb1.trans ⟨hg.os,hg.tape,hg.output,by have:=hg.size;omega,fun k hk=>hg.block k (by omega) (by omega)⟩
   exact ⟨A',c',rfl,below_drewN' hbz _,(hO.mono (show w.heap.size≤W1.heap.size+6 by omega)).drewN _⟩
end Go.Proofs.YtelnkflmnbhclaaGreat
end
section
namespace Go.Proofs.YtelnkflmnbhclaaGreat
open Go.RowKit Go.Proofs Go.Shelf
noncomputable def pathI' (l:List Trace) (known:Int) (bs:List Bond) (mv:List Place) (a b:Place):List Int:=
 pathL ((placesOf (counting l known) bs).length+1) (sysOf l known bs mv) ((getM (ptsOf l known bs) a).getD 0) ((getM (ptsOf l known bs) b).getD 0)
noncomputable def pathK (l:List Trace) (known:Int) (bs:List Bond) (mv:List Place) (a b:Place):List Link:=
 if endsErr l known bs mv a b≠0 then [] else someL (linksL (counting l known) bs mv) (pathI' l known bs mv a b)
theorem pathI_ok {pts:Int} {bs:List Bound} {a b:Int} (hok:SysOk pts bs) (a1:0≤a) (a2:a<pts) (b1:0≤b) (b2:b<pts):(pathI pts bs a b).length≤60∧∀ i∈pathL pts bs a b,0≤i∧i<bs.length:=by
 by_cases h:solvedOk pts bs=true∧greatestR pts bs a b<noneV
 · obtain ⟨ws,h1,h2⟩:=pathI_is hok h.1 a1 a2 b1 b2 h.2
   have he:=ends60 hok (from_len60 (a:=a))
   rw [from_len60] at he
   have hp2:=hok.p2
   refine ⟨h1.short he (by omega),fun i hi=> ?_⟩
   unfold pathL at hi
   obtain ⟨k,hk,rfl⟩:=List.mem_map.1 (List.mem_reverse.1 hi)
   have hm:=h1.lens.2.1
   obtain ⟨j,hj,e⟩:=List.getElem_of_mem hk
   have:=congrArg (fun l=>l[j]?) hm
   simp only [List.getElem?_map,List.getElem?_eq_getElem hj,Option.map_some] at this
   rw [e] at this
   have hj2:j<ws.length:=by rw [←h1.lens.1];exact hj
   rw [List.getElem?_eq_getElem hj2,Option.map_some] at this
   have h3:bs[k]? = some ws[j]:=Option.some.inj this
   have:=(List.getElem?_eq_some_iff.1 h3).1
   exact ⟨by omega,by omega⟩
 · unfold pathL
   rw [pathI_no h]
   exact ⟨by decide,fun i hi=>by simp at hi⟩
set_option maxRecDepth 100000 in
set_option maxHeartbeats 4000000 in
theorem Path_any (A:Option Addr) (n c:Nat) (l:List Trace) (known:Int) (bA:Option Addr) (bn bc:Nat) (bs:List Bond) (M:Option Addr) (mn mc:Nat) (mv:List Place) (a b:Place) (w:World) (hl:Rd encTrace 10 w A n c l) (hb:Rd encBond 5 w bA bn bc bs) (hm:Rd encPlace 2 w M mn mc mv):
 Calls Tryz.prog 53 #[.slice A n c,.int .i64 known,.slice bA bn bc,.slice M mn mc,.agg #[.int .i64 a.pit,.int .i64 a.layer],.agg #[.int .i64 b.pit,.int .i64 b.layer]] w fun e w'=> ∃ A' c',e = .returned (.tuple #[.slice A' (pathK l known bs mv a b).length c',.bool (betweenV l known bs mv a b).2.1,.int .i64 (betweenV l known bs mv a b).2.2])∧Below w.heap.size w w'∧
  Own encLink 6 74 w.heap.size w' A' (pathK l known bs mv a b).length c' (pathK l known bs mv a b):=by
 obtain ⟨w1,hw1⟩:∃ w1,(w.alloc (.cells #[.int .i64 a.pit,.int .i64 a.layer] 37)).alloc (.cells #[.int .i64 b.pit,.int .i64 b.layer] 37)=w1:=⟨_,rfl⟩
 have hb1:Below w.heap.size w w1:=(by rw [←hw1];exact ((Below.refl _ w).alloc (Nat.le_refl _) _).alloc (by simp) _)
 have hz1:w1.heap.size=w.heap.size+2:=(by rw [←hw1];simp)
 have hra:w1.heap[w.heap.size]? = some (.cells #[.int .i64 a.pit,.int .i64 a.layer] 37 (0,0)):=(by rw [←hw1,Below.heap_alloc _ _ _ (by simp)];exact heap_alloc_new w _)
 have hrb:w1.heap[w.heap.size+1]? = some (.cells #[.int .i64 b.pit,.int .i64 b.layer] 37 (0,0)):=(by
  rw [←hw1]
  have:=heap_alloc_new (w.alloc (.cells #[.int .i64 a.pit,.int .i64 a.layer] 37)) (.cells #[.int .i64 b.pit,.int .i64 b.layer] 37)
  rw [World.size_alloc] at this;exact this)
 have a0:w1.cell? ⟨w.heap.size,0,none⟩=some (.int .i64 a.pit):=(by simp [World.cell?,hra])
 have a1:w1.cell? ⟨w.heap.size,1,none⟩=some (.int .i64 a.layer):=(by simp [World.cell?,hra])
 have b0:w1.cell? ⟨w.heap.size+1,0,none⟩=some (.int .i64 b.pit):=(by simp [World.cell?,hrb])
 have b1:w1.cell? ⟨w.heap.size+1,1,none⟩=some (.int .i64 b.layer):=(by simp [World.cell?,hrb])
 have hends:=ends_any A n c l known bA bn bc bs M mn mc mv a b w1 (hl.below hb1 (Nat.le_refl _)) (hb.below hb1 (Nat.le_refl _)) (hm.below hb1 (Nat.le_refl _))
 have HE:=Lib.hid hends
 clear hends hl hb hm hra hrb
 by_cases he:endsErr l known bs mv a b=0
 · have hO:=okO_of (askErr_of_ends he)
   have hck:checkSys ((placesOf (counting l known) bs).length+1) (sysOf l known bs mv)=0:=checkSys_years hO mv
   have HK:=Lib.hid hck
   have hv:(betweenV l known bs mv a b).2.1=(if (greatestV ((placesOf (counting l known) bs).length+1) (sysOf l known bs mv) ((getM (ptsOf l known bs) a).getD 0) ((getM (ptsOf l known bs) b).getD 0)).2.2≠0 then false else (greatestV ((placesOf (counting l known) bs).length+1) (sysOf l known bs mv) ((getM (ptsOf l known bs) a).getD 0) ((getM (ptsOf l known bs) b).getD 0)).2.1)∧
    (betweenV l known bs mv a b).2.2=if (greatestV ((placesOf (counting l known) bs).length+1) (sysOf l known bs mv) ((getM (ptsOf l known bs) a).getD 0) ((getM (ptsOf l known bs) b).getD 0)).2.2≠0 then 81 else 0:=by
    unfold betweenV;rw [if_neg (by simpa using he)]
    simp only
    split<;>exact ⟨rfl,rfl⟩
   have hpk:pathK l known bs mv a b=someL (linksL (counting l known) bs mv) (pathI' l known bs mv a b):=by unfold pathK;rw [if_neg (by simpa using he)]
   rw [hv.1,hv.2,hpk]
   have hll:=linksL_len (counting l known) bs mv
   have hl1:=hO.tn
   have hl2:=hO.bn
   clear hv hck hpk
   rw [he] at HE
   have HEZ:=Lib.hid he
   clear he hO
   obtain ⟨X,hX⟩:∃ X,pathI' l known bs mv a b=X:=⟨_,rfl⟩
   rw [hX]
   obtain ⟨G,hG⟩:∃ G,greatestV ((placesOf (counting l known) bs).length+1) (sysOf l known bs mv) ((getM (ptsOf l known bs) a).getD 0) ((getM (ptsOf l known bs) b).getD 0)=G:=⟨_,rfl⟩
   rw [hG]
   obtain ⟨g1,g2,g3⟩:=G
   have HG:=Lib.hid hG
   have HX:=Lib.hid hX
   clear hG hX
   simp only
   have hxe:g3≠0→X = []:=fun h=>by
    have h0:=HG.out
    have h1:=HX.out
    unfold pathI' pathL at h1
    rw [←h1,pathI_no]
    · rfl
    · rintro ⟨k1,_⟩
      have:=(greatestV_yes (a:=((getM (ptsOf l known bs) a).getD 0)) (b:=((getM (ptsOf l known bs) b).getD 0)) k1).2
      rw [h0] at this
      exact h this
   by_cases hg3:g3=0
   · subst hg3
     clear hxe
     rw [if_neg (by simp),if_neg (by simp)]
     go_enter Tryz.func53,Tryz.ntmps53
     go_wp2_with (first
      | (go_at_call 94;refine HE.out.mono ?_;rintro e w2 ⟨cs,p,q,rfl,hb2,_,hp⟩
         obtain ⟨hp1,hp2,Ab,cb,Al,cl,mb,rfl,y1,y2,_,_⟩:=hp rfl
         have hr1:=ptsM_range _ hp1
         have hr2:=ptsM_range _ hp2
         have HG2:=HG.out
         have HX2:=HX.out
         unfold pathI' at HX2
         rw [hp1,hp2] at HG2 HX2
         simp only [Option.getD_some] at HG2 HX2
         obtain ⟨w3,hw3⟩:∃ w3,w2.alloc (.cells #[.int .i64 ((placesOf (counting l known) bs).length+1),.slice Ab (linksL (counting l known) bs mv).length cb,.slice Al (linksL (counting l known) bs mv).length cl,.map (some mb)] 120)=w3:=⟨_,rfl⟩
         have hgr:=GPath_any ((placesOf (counting l known) bs).length+1) Ab (linksL (counting l known) bs mv).length cb (sysOf l known bs mv) p q w3 (by rw [←hw3];exact (y1.rd (fun _=>rfl) (by omega)).alloc _) HK.out hr1.1 hr1.2 hr2.1 hr2.2
         have hxo:=pathI_ok (sysOk_of HK.out) hr1.1 hr1.2 hr2.1 hr2.2
         rw [←pathL_len,HX2] at hxo hgr
         rw [HG2] at hgr
         rw [show (sysOf l known bs mv).length=(linksL (counting l known) bs mv).length from List.length_map _] at hxo
         have hxl:=hxo.1
         have HXO:=Lib.hid hxo.2
         have HGR:=Lib.hid hgr
         have hb23:Below w2.heap.size w2 w3:=(by rw [←hw3];exact (Below.refl _ w2).alloc (Nat.le_refl _) _)
         have hh3:w3.heap[w2.heap.size]? = some (.cells #[.int .i64 ((placesOf (counting l known) bs).length+1),.slice Ab (linksL (counting l known) bs mv).length cb,.slice Al (linksL (counting l known) bs mv).length cl,.map (some mb)] 120 (0,0)):=(by rw [←hw3];exact heap_alloc_new w2 _)
         have hz3:w2.heap.size<w3.heap.size:=(by rw [←hw3];simp)
         have HB2:=Lib.hid hb2
         have HB23:=Lib.hid hb23
         have HL:=Lib.hid ((y2.rd (fun _=>rfl) (by omega)).below hb23 (Nat.le_refl _))
         have HH3:=Lib.hid hh3
         have i0:w3.cell? ⟨w2.heap.size,0,none⟩=some (.int .i64 ((placesOf (counting l known) bs).length+1)):=(by simp [World.cell?,hh3])
         have i1:w3.cell? ⟨w2.heap.size,1,none⟩=some (.slice Ab (linksL (counting l known) bs mv).length cb):=(by simp [World.cell?,hh3])
         have HW3:=Lib.hid hw3
         clear hgr hxo HG2 HX2 hr1 hr2 y1 y2 hp hb2 hb23 hh3 hp1 hp2)
      | (go_at_call 108;(first|rw [HW3.out]|skip);refine HGR.out.mono ?_;rintro e w4 ⟨A',c',rfl,hb3,hOX⟩
         have hh4:=(hb3.block _ hz3).trans HH3.out
         have i0:w4.cell? ⟨w2.heap.size,0,none⟩=some (.int .i64 ((placesOf (counting l known) bs).length+1)):=(by simp [World.cell?,hh4])
         have i1:w4.cell? ⟨w2.heap.size,1,none⟩=some (.slice Ab (linksL (counting l known) bs mv).length cb):=(by simp [World.cell?,hh4])
         have i2:w4.cell? ⟨w2.heap.size,2,none⟩=some (.slice Al (linksL (counting l known) bs mv).length cl):=(by simp [World.cell?,hh4])
         have i3:w4.cell? ⟨w2.heap.size,3,none⟩=some (.map (some mb)):=(by simp [World.cell?,hh4])
         have HB3:=Lib.hid hb3
         have HSOME:=Lib.hid (some_years ((placesOf (counting l known) bs).length+1) Ab (linksL (counting l known) bs mv).length cb Al cl (linksL (counting l known) bs mv) (some mb) A' X.length c' X w4 (HL.out.below hb3 (Nat.le_refl _)) (hOX.rd (fun _=>rfl) (by omega)) (by omega) HXO.out)
         clear hb3 hOX hh4)
      | (go_at_call 109;((with_reducible refine HSOME.out.mono ?_);rintro e w5 ⟨A5,c5,rfl,hb5,hO5⟩)))
     go_ret3
     have hlen:(someL (linksL (counting l known) bs mv) X).length=X.length:=by unfold someL;rw [List.length_map]
     have hbz:=HB2.out.size
     have hbz3:=HB3.out.size
     refine ⟨A5,c5,by rw [hlen];rfl,(((hb1.trans (HB2.out.mono (by omega))).trans (HB23.out.mono (by omega))).trans (HB3.out.mono (by omega))).trans (hb5.mono (by omega)),?_⟩
     rw [hlen]
     exact hO5.mono (by omega)
   · have hg4:(g3 != 0)=true:=by simpa using hg3
     obtain rfl:=hxe hg3
     rw [if_pos hg3,if_pos hg3]
     clear hxe
     go_enter Tryz.func53,Tryz.ntmps53
     go_wp2_with (first
      | (go_at_call 94;refine HE.out.mono ?_;rintro e w2 ⟨cs,p,q,rfl,hb2,_,hp⟩
         obtain ⟨hp1,hp2,Ab,cb,Al,cl,mb,rfl,y1,y2,_,_⟩:=hp rfl
         have hr1:=ptsM_range _ hp1
         have hr2:=ptsM_range _ hp2
         have HG2:=HG.out
         have HX2:=HX.out
         unfold pathI' at HX2
         rw [hp1,hp2] at HG2 HX2
         simp only [Option.getD_some] at HG2 HX2
         have hgr:=fun W h=>GPath_any ((placesOf (counting l known) bs).length+1) Ab (linksL (counting l known) bs mv).length cb (sysOf l known bs mv) p q W h HK.out hr1.1 hr1.2 hr2.1 hr2.2
         rw [HG2,←pathL_len,HX2] at hgr
         have HGR:=Lib.hid hgr
         clear hgr HG2 HX2 hr1 hr2)
      | (go_at_call 108;refine (HGR.out _ ((y1.rd (fun _=>rfl) (by omega)).alloc _)).mono ?_;rintro e w3 ⟨A',c',rfl,hb3,_⟩))
     go_ret3
     exact ⟨none,0,rfl,((hb1.trans (hb2.mono (by omega))).alloc (by have:=hb2.size;omega) _).trans (hb3.mono (by simp;have:=hb2.size;omega)),Own.none_ _ _ _ _ _⟩
 · have hv:betweenV l known bs mv a b=(0,false,endsErr l known bs mv a b):=by unfold betweenV;rw [if_pos he]
   have hpk:pathK l known bs mv a b = []:=by unfold pathK;rw [if_pos he]
   rw [hv,hpk]
   have he':(endsErr l known bs mv a b != 0)=true:=by simpa using he
   go_enter Tryz.func53,Tryz.ntmps53
   go_wp2_with (first
    | (go_at_call 94;refine HE.out.mono ?_;rintro e w2 ⟨cs,p,q,rfl,hb2,⟨u,A1,k1,c1,A2,k2,c2,Mp,rfl⟩,_⟩))
   go_ret3
   exact ⟨none,0,rfl,(hb1.trans (hb2.mono (by omega))).alloc (by have:=hb2.size;omega) _,Own.none_ _ _ _ _ _⟩
end Go.Proofs.YtelnkflmnbhclaaGreat
end
section
namespace Go.Proofs.YtelnkflmnbhclaaGreat
open Go.RowKit Go.Proofs Go.Shelf
theorem sumL_append:∀ u v:List Link,sumL (u++v)=sumL u+sumL v
 | [],v=>by simp [sumL]
 | x::u,v=>by simp [sumL,sumL_append u v];omega
set_option maxHeartbeats 16000000 in
set_option maxRecDepth 100000 in
theorem rCheckPath_yes (A:Option Addr) (n c:Nat) (l:List Trace) (known:Int) (B:Option Addr) (m d:Nat) (bs:List Bond) (M:Option Addr) (mn mc:Nat) (mv:List Place) (a b:Place) (most:Int) (Pa:Option Addr) (pn pc:Nat) (P:List Link) (w:World) (hl:Rd encTrace 10 w A n c l) (hb:Rd encBond 5 w B m d bs) (hm:Rd encPlace 2 w M mn mc mv) (hP:Rd encLink 6 w Pa pn pc P)
 (he:withErr l known bs mv=0) (hpn:pn≤1000000) (hin:∀ x∈P,x∈linksL (counting l known) bs mv) (hwk:walkP a P b) (hsm:sumL P=most):
 Calls Tryz.prog 54 #[.slice A n c,.int .i64 known,.slice B m d,.slice M mn mc,.agg #[.int .i64 a.pit,.int .i64 a.layer],.agg #[.int .i64 b.pit,.int .i64 b.layer],.int .i64 most,.slice Pa pn pc] w fun e w'=>e = .returned (.bool true)∧Below w.heap.size w w':=by
 have hO:=okO_of (askErr_of_with he)
 have hgood:=linksL_good hO mv
 have hll:=linksL_len (counting l known) bs mv
 have hl1:=hO.tn
 have hl2:=hO.bn
 obtain ⟨w1,hw1⟩:∃ w1,(w.alloc (.cells #[.int .i64 a.pit,.int .i64 a.layer] 37)).alloc (.cells #[.int .i64 b.pit,.int .i64 b.layer] 37)=w1:=⟨_,rfl⟩
 have hb1:Below w.heap.size w w1:=(by rw [←hw1];exact ((Below.refl _ w).alloc (Nat.le_refl _) _).alloc (by simp) _)
 have hz1:w1.heap.size=w.heap.size+2:=(by rw [←hw1];simp)
 have hra:w1.heap[w.heap.size]? = some (.cells #[.int .i64 a.pit,.int .i64 a.layer] 37 (0,0)):=(by rw [←hw1,Below.heap_alloc _ _ _ (by simp)];exact heap_alloc_new w _)
 have hrb:w1.heap[w.heap.size+1]? = some (.cells #[.int .i64 b.pit,.int .i64 b.layer] 37 (0,0)):=(by
  rw [←hw1]
  have:=heap_alloc_new (w.alloc (.cells #[.int .i64 a.pit,.int .i64 a.layer] 37)) (.cells #[.int .i64 b.pit,.int .i64 b.layer] 37)
  rw [World.size_alloc] at this;exact this)
 have HLK:=Lib.hid (rLinks_any A n c l known B m d bs M mn mc mv w1 (hl.below hb1 (Nat.le_refl _)) (hb.below hb1 (Nat.le_refl _)) (hm.below hb1 (Nat.le_refl _)))
 rw [he,onOk_zero] at HLK
 have hPl:=hP.len
 have HPL:=Lib.hid hPl
 have HP:=Lib.hid (hP.below hb1 (Nat.le_refl _))
 have HRA:=Lib.hid hra
 have HRB:=Lib.hid hrb
 have HW1:=Lib.hid hw1
 have HB1:=Lib.hid hb1
 clear hl hb hm hP he hra hrb hw1 hO
 obtain ⟨L,hL⟩:∃ L,linksL (counting l known) bs mv=L:=⟨_,rfl⟩
 obtain ⟨ps,hps⟩:∃ ps,placesOf (counting l known) bs=ps:=⟨_,rfl⟩
 rw [hL] at HLK hgood hll hin
 rw [hps] at hgood
 have hLn:L.length≤800:=by omega
 have HMO:Hid (∀ x∈P,-10000≤x.most∧x.most≤10000):=(show ∀ x∈P,_ from fun x hx=>⟨(hgood x (hin x hx)).2.2.2.1,(hgood x (hin x hx)).2.2.2.2.1⟩)
 have HIN:=Lib.hid hin
 have HWK:=Lib.hid hwk
 have HSM:=Lib.hid hsm
 clear hL hps hgood hll hl1 hl2 hin hwk hsm hPl hb1
 go_enter Tryz.func54,Tryz.ntmps54
 go_wp2_with (go_at_call 30;rw [HW1.out];refine HLK.out.mono ?_;rintro e w2 ⟨Al,cl,rfl,hb2,hO2⟩
              have hh2:=(hb2.block w.heap.size (by omega)).trans HRA.out
              have a0:w2.cell? ⟨w.heap.size,0,none⟩=some (.int .i64 a.pit):=(by simp [World.cell?,hh2])
              have a1:w2.cell? ⟨w.heap.size,1,none⟩=some (.int .i64 a.layer):=(by simp [World.cell?,hh2])
              have HB2:=Lib.hid hb2
              have HL:=Lib.hid (hO2.rd (fun _=>rfl) (by omega))
              have hz2:=hb2.size
              clear hb2 hO2 hh2)
 obtain ⟨g,hg⟩:∃ g,w2.heap.size=g:=⟨_,rfl⟩
 obtain ⟨w3,hw3⟩:∃ w3,w2.alloc (.cells #[.int .i64 a.pit,.int .i64 a.layer] 37)=w3:=⟨_,rfl⟩
 have HB3:Hid (Below g w2 w3):=(show Below g w2 w3 by rw [←hw3,←hg];exact (Below.refl _ w2).alloc (Nat.le_refl _) _)
 have HG3:Hid (w3.heap[g]? = some (.cells #[.int .i64 a.pit,.int .i64 a.layer] 37 (0,0))):=(show _=_ by rw [←hw3,←hg];exact heap_alloc_new w2 _)
 rw [hw3,hg]
 rw [hg] at hz2
 clear hw3 a0 a1
 go_loopw [20,21] (fun s20 s21 wr=> ∃ (i:Nat) (z:Int) (q:Place),i≤pn∧s20 = .int .i64 z∧s21 = .int .i64 i∧Hid (Below g w2 wr)∧Hid (wr.heap[g]? = some (.cells #[.int .i64 q.pit,.int .i64 q.layer] 37 (0,0)))∧Hid (walkP q (P.drop i) b)∧Hid (sumL (P.take i)=z)∧ -(10000 * (i:Int))≤z∧z≤10000 * (i:Int)) (fun _ s21 _=>pn-(intOf s21).toNat)
 case atStart=>exact ⟨0,0,a,Nat.zero_le _,rfl,rfl,HB3,HG3,(show walkP a (P.drop 0) b from HWK.out),(show _=_ from rfl),by omega,by omega⟩
 case round=>
  obtain ⟨i,z,q,hi,rfl,rfl,hbw,hgo,hwq,hz,hzl,hzh⟩:=hrel
  rename World=>wo
  have hzo:=hbw.out.size
  have hgw:g<wo.heap.size:=(Array.getElem?_eq_some_iff.1 hgo.out).1
  by_cases hlt:i<pn
  case neg=>
   have hin:i=pn:=by omega
   subst hin
   have hq:q=b:=(by have:=hwq.out;rw [List.drop_of_length_le (by rw [HPL.out];exact Nat.le_refl _)] at this;exact this)
   have hzm:z=most:=(by rw [←hz.out,List.take_of_length_le (by rw [HPL.out];exact Nat.le_refl _)];exact HSM.out)
   subst hq hzm
   have hh:=(hbw.out.block (w.heap.size+1) (by omega)).trans ((HB2.out.block (w.heap.size+1) (by omega)).trans HRB.out)
   have b0:wo.cell? ⟨w.heap.size+1,0,none⟩=some (.int .i64 q.pit):=(by simp [World.cell?,hh])
   have b1:wo.cell? ⟨w.heap.size+1,1,none⟩=some (.int .i64 q.layer):=(by simp [World.cell?,hh])
   have g0:wo.cell? ⟨g,0,none⟩=some (.int .i64 q.pit):=(by simp [World.cell?,hgo.out])
   have g1:wo.cell? ⟨g,1,none⟩=some (.int .i64 q.layer):=(by simp [World.cell?,hgo.out])
   have hqq:eqPlace ⟨q.pit,q.layer⟩ ⟨q.pit,q.layer⟩=true:=eqPlace_iff.2 rfl
   have hbl:Below w.heap.size w wo:=HB1.out.trans ((HB2.out.mono (by omega)).trans (hbw.out.mono (by omega)))
   have HBL:=Lib.hid hbl
   clear hh hbl
   go_wp2_with (go_quiet (fail))
   go_ret
   exact ⟨by simp,HBL.out⟩
  case pos=>
   obtain ⟨x,hx⟩:∃ x,P[i]? = some x:=⟨_,List.getElem?_eq_getElem (by have:=HPL.out;omega)⟩
   obtain ⟨bc,oc,hPa,hbcB⟩:∃ b o,Pa=some ⟨b,o,none⟩∧b<w1.heap.size:=(by obtain ⟨b',o',e',hb',_⟩:=HP.out.at_ (show 0<pn by omega);exact ⟨b',o',e',hb'⟩)
   subst hPa
   have hxm:=List.mem_of_getElem? hx
   have CC:Hid (∀ W,Below g w2 W→W.cell? ⟨bc,oc+i * 6,none⟩=some (.int .i64 x.src.pit)∧W.cell? ⟨bc,oc+i * 6+1,none⟩=some (.int .i64 x.src.layer)∧W.cell? ⟨bc,oc+i * 6+2,none⟩=some (.int .i64 x.dst.pit)∧W.cell? ⟨bc,oc+i * 6+3,none⟩=some (.int .i64 x.dst.layer)∧W.cell? ⟨bc,oc+i * 6+4,none⟩=some (.int .i64 x.most)∧W.cell? ⟨bc,oc+i * 6+5,none⟩=some (.int .i64 x.by_)):=(show ∀ W,_→_ from fun W h1=>by
    obtain ⟨b3,o3,y3,e3,_,h3,c3⟩:=(HP.out.below (HB2.out.trans (h1.mono hz2)) (Nat.le_refl _)).one hlt
    cases e3
    obtain rfl:x=y3:=Option.some.inj (hx.symm.trans h3)
    exact ⟨c3 0 _ rfl,c3 1 _ rfl,c3 2 _ rfl,c3 3 _ rfl,c3 4 _ rfl,c3 5 _ rfl⟩)
   have HXL:Hid (x∈L):=(show x∈L from HIN.out x hxm)
   have hmx:=HMO.out x hxm
   have hwx:x.src=q∧walkP x.dst (P.drop (i+1)) b:=(by
    have h1:=hwq.out
    rw [List.drop_eq_getElem_cons (by have:=HPL.out;omega)] at h1
    have h2:P[i]'(by have:=HPL.out;omega)=x:=by rw [List.getElem?_eq_getElem (by have:=HPL.out;omega)] at hx;exact Option.some.inj hx
    rw [h2] at h1
    exact h1)
   obtain ⟨hxq,hwx⟩:=hwx
   subst hxq
   have HWX:=Lib.hid hwx
   have HSU:Hid (sumL (P.take (i+1))=z+x.most):=(show _=_ by rw [List.take_add_one,hx,Option.toList_some,sumL_append,hz.out];simp [sumL])
   have hw:IntKind.i64.wrap (z+x.most)=z+x.most:=by rw [IntKind.wrap_i64];omega
   have HWR:=Lib.hid hw
   clear hx hxm hwx hw hwq hz
   go_wp2
   go_loopw [22,23] (fun s22 s23 wr=> ∃ (k:Nat) (t:Bool),k≤L.length∧s22 = .bool t∧s23 = .int .i64 k∧Hid (Below g w2 wr)∧Hid (wr.heap[g]? = some (.cells #[.int .i64 x.src.pit,.int .i64 x.src.layer] 37 (0,0)))∧Hid (t=true↔x∈L.take k)) (fun _ s23 _=>L.length-(intOf s23).toNat)
   case atStart=>exact ⟨0,false,Nat.zero_le _,rfl,rfl,hbw,hgo,(show _↔_ by simp)⟩
   case round=>
    obtain ⟨k,t,hk,rfl,rfl,hbr,hgr,hbi⟩:=hrel
    rename World=>wr
    have hzr:=hbr.out.size
    have hgr2:g<wr.heap.size:=(Array.getElem?_eq_some_iff.1 hgr.out).1
    have hbcr:bc<wr.heap.size:=(by omega)
    obtain ⟨x0,x1,x2,x3,x4,x5⟩:=CC.out wr hbr.out
    by_cases hlt2:k<L.length
    · obtain ⟨bl,ol,y,hAl,hblw,hy,hcy⟩:=(HL.out.below (hbr.out.mono (by omega)) (Nat.le_refl _)).one hlt2
      subst hAl
      have y0:wr.cell? ⟨bl,ol+k * 6,none⟩=some (.int .i64 y.src.pit):=hcy 0 _ rfl
      have y1:wr.cell? ⟨bl,ol+k * 6+1,none⟩=some (.int .i64 y.src.layer):=hcy 1 _ rfl
      have y2:wr.cell? ⟨bl,ol+k * 6+2,none⟩=some (.int .i64 y.dst.pit):=hcy 2 _ rfl
      have y3:wr.cell? ⟨bl,ol+k * 6+3,none⟩=some (.int .i64 y.dst.layer):=hcy 3 _ rfl
      have y4:wr.cell? ⟨bl,ol+k * 6+4,none⟩=some (.int .i64 y.most):=hcy 4 _ rfl
      have y5:wr.cell? ⟨bl,ol+k * 6+5,none⟩=some (.int .i64 y.by_):=hcy 5 _ rfl
      have HTK:Hid (L.take (k+1)=L.take k ++ [y]):=(show _=_ by rw [List.take_add_one,hy];rfl)
      clear hcy hy
      cases t with
      | true=>
        go_wp2_with (go_quiet (fail))
        go_roundw
        all_goals first
         | (simp [intOf];omega)
         | exact ⟨k+1,true,by omega,rfl,by go_num,(show Below _ _ _ from below_drewN' hbr.out _),(show _=_ from hgr.out),(show _↔_ from ⟨fun _=>by rw [HTK.out];exact List.mem_append_left _ (hbi.out.1 rfl),fun _=>rfl⟩)⟩
      | false=>
        have hno:x∉L.take k:=fun h=>by have:=hbi.out.2 h;cases this
        have HNO:=Lib.hid hno
        clear hno
        cases hq:eqLink ⟨⟨y.src.pit,y.src.layer⟩,⟨y.dst.pit,y.dst.layer⟩,y.most,y.by_⟩ ⟨⟨x.src.pit,x.src.layer⟩,⟨x.dst.pit,x.dst.layer⟩,x.most,x.by_⟩
        all_goals
         have HQ:=Lib.hid hq
         go_wp2_with (go_quiet (fail))
         clear hq
         go_roundw
        all_goals first
         | (simp [intOf];omega)
         | exact ⟨k+1,_,by omega,rfl,by go_num,(show Below _ _ _ from below_drewN' hbr.out _),(show _=_ from hgr.out),(show _↔_ from by
            rw [HTK.out,List.mem_append,List.mem_singleton]
            first
             | exact ⟨fun _=> .inr (eqLink_iff.1 HQ.out).symm,fun _=>rfl⟩
             | exact ⟨fun h=>(by cases h),fun h=>by
                rcases h with h|h
                · exact absurd h HNO.out
                · have:=eqLink_iff.2 h.symm
                  have h2:=HQ.out
                  rw [show eqLink ⟨⟨y.src.pit,y.src.layer⟩,⟨y.dst.pit,y.dst.layer⟩,y.most,y.by_⟩ ⟨⟨x.src.pit,x.src.layer⟩,⟨x.dst.pit,x.dst.layer⟩,x.most,x.by_⟩=eqLink y x from rfl,this] at h2
                  cases h2⟩)⟩
    · have hkm:k=L.length:=by omega
      have ht:t=true:=hbi.out.2 (by rw [hkm,List.take_of_length_le (Nat.le_refl _)];exact HXL.out)
      subst ht
      clear hbi
      have g0:wr.cell? ⟨g,0,none⟩=some (.int .i64 x.src.pit):=(by simp [World.cell?,hgr.out])
      have g1:wr.cell? ⟨g,1,none⟩=some (.int .i64 x.src.layer):=(by simp [World.cell?,hgr.out])
      have gf:∀ j,wr.frozen? ⟨g,j,none⟩=false:=fun j=>by simp [World.frozen?,hgr.out]
      have gf0:=gf 0
      have gf1:=gf 1
      have hqq:eqPlace ⟨x.src.pit,x.src.layer⟩ ⟨x.src.pit,x.src.layer⟩=true:=eqPlace_iff.2 rfl
      have hw:=HWR.out
      have hng:¬bc=g:=(by omega)
      clear gf
      go_wp2_with (go_quiet (fail))
      go_roundw
      all_goals first
       | (simp [intOf];omega)
       | exact ⟨i+1,z+x.most,x.dst,by omega,by go_num,by go_num,(show Below _ _ _ from ((below_drewN' hbr.out _).setCell (p:=⟨g,0,none⟩) (Nat.le_refl _) _).setCell (p:=⟨g,1,none⟩) (Nat.le_refl _) _),(show _=_ from (heap_setCell_obj (heap_setCell_obj (W:=wr.drewN _) hgr.out)).trans rfl),HWX,HSU,by omega,by omega⟩
end Go.Proofs.YtelnkflmnbhclaaGreat
end
section
namespace Go.Proofs.YtelnkflmnbhclaaGreat
open Go.RowKit Go.Proofs Go.Shelf
theorem sumW_reverse:∀ ws:List Bound,sumW ws.reverse=sumW ws
 | []=>rfl
 | x::t=>by rw [List.reverse_cons,sumW_append,sumW_reverse t];simp only [sumW];omega
theorem someL_bounds {L:List Link} {m:List (Place×Int)} :∀ {is:List Nat} {ws:List Bound},is.map (fun i=>(L.map (boundOf m))[i]?)=ws.map some→(someL L (is.map fun i:Nat=>(i:Int))).map (boundOf m)=ws∧∀ x∈someL L (is.map fun i:Nat=>(i:Int)),x∈L
 | [],[],_=>⟨rfl,fun x hx=>by simp [someL] at hx⟩
 | [],_::_,h=>by simp at h
 | _::_,[],h=>by simp at h
 | i::is,b::ws,h=>by
   rw [List.map_cons,List.map_cons] at h
   obtain ⟨h1,h2⟩:=List.cons.inj h
   obtain ⟨k1,k2⟩:=someL_bounds h2
   rw [List.getElem?_map] at h1
   obtain ⟨y,hy,e⟩:=Option.map_eq_some_iff.1 h1
   have hd:L.getD ((i:Int)).toNat default=y:=by rw [Int.toNat_natCast,List.getD_eq_getElem?_getD,hy];rfl
   unfold someL at k1 k2 ⊢
   rw [List.map_cons,List.map_cons,List.map_cons,hd,e,k1]
   refine ⟨rfl,fun x hx=> ?_⟩
   rcases List.mem_cons.1 hx with rfl|hx
   · exact List.mem_of_getElem? hy
   · exact k2 x hx
theorem someL_reverse (L:List Link) (is:List Int):someL L is.reverse=(someL L is).reverse:=by unfold someL;rw [List.map_reverse]
theorem place_of_pts {ps:List Place} {p:Place} {v:Int} (h:getM (ptsM ps ps.length) p=some v):p=z00∨p∈ps:=by
 rcases ptsM_from ps ps.length (Nat.le_refl _) p v h with ⟨h,_⟩|⟨i,_,h,_⟩
 · exact .inl h
 · exact .inr (List.mem_of_getElem? h)
theorem ends_ok {l:List Trace} {known:Int} {bs:List Bond} {mv:List Place} {a b:Place} (h:endsErr l known bs mv a b=0):withErr l known bs mv=0∧(∃ p,getM (ptsOf l known bs) a=some p)∧∃ q,getM (ptsOf l known bs) b=some q:=by
 unfold endsErr at h
 split at h
 · rename_i h1;exact absurd h h1
 · rename_i h1
   have h2:withErr l known bs mv=0:=by simpa using h1
   split at h
   · rename_i h3
     rw [Bool.and_eq_true] at h3
     exact ⟨h2,Option.isSome_iff_exists.1 h3.1,Option.isSome_iff_exists.1 h3.2⟩
   · exact absurd h (by decide)
theorem between_path {l:List Trace} {known:Int} {bs:List Bond} {mv:List Place} {a b:Place} (h:(betweenV l known bs mv a b).2.1=true):
 withErr l known bs mv=0∧(∀ x∈pathK l known bs mv a b,x∈linksL (counting l known) bs mv)∧walkP a (pathK l known bs mv a b) b∧sumL (pathK l known bs mv a b)=(betweenV l known bs mv a b).1:=by
 by_cases he:endsErr l known bs mv a b=0
 · obtain ⟨hw,⟨p,hp⟩,q,hq⟩:=ends_ok he
   have hO:=okO_of (askErr_of_ends he)
   have hck:checkSys ((placesOf (counting l known) bs).length+1) (sysOf l known bs mv)=0:=checkSys_years hO mv
   have hok:=sysOk_of hck
   have hr1:=ptsM_range _ hp
   have hr2:=ptsM_range _ hq
   have hgv:∀ g,greatestV ((placesOf (counting l known) bs).length+1) (sysOf l known bs mv) p q=g→betweenV l known bs mv a b=if g.2.2≠0 then (0,false,81) else (g.1,g.2.1,0):=fun g hg=>by
    unfold betweenV
    rw [if_neg (by simpa using he),hp,hq,Option.getD_some,Option.getD_some,hg]
   by_cases hs:solvedOk ((placesOf (counting l known) bs).length+1) (sysOf l known bs mv)=true
   · by_cases hn:greatestR ((placesOf (counting l known) bs).length+1) (sysOf l known bs mv) p q=noneV
     · have:=hgv (0,false,0) (by unfold greatestV;rw [if_pos hs,if_pos hn])
       rw [this] at h
       simp at h
     · have hb:=hgv (greatestR ((placesOf (counting l known) bs).length+1) (sysOf l known bs mv) p q,true,0) (by unfold greatestV;rw [if_pos hs,if_neg hn])
       have hle:=greatest_le hok hr1.1 hr1.2 hr2.1 hr2.2
       obtain ⟨ws,k1,k2⟩:=pathI_is hok hs hr1.1 hr1.2 hr2.1 hr2.2 (by omega)
       have hpk:pathK l known bs mv a b=(someL (linksL (counting l known) bs mv) ((pathI ((placesOf (counting l known) bs).length+1) (sysOf l known bs mv) p q).map fun i:Nat=>(i:Int))).reverse:=by
        unfold pathK pathI' pathL
        rw [if_neg (by simpa using he),hp,hq,Option.getD_some,Option.getD_some,someL_reverse]
       obtain ⟨s1,s2⟩:=someL_bounds (L:=linksL (counting l known) bs mv) k1.lens.2.1
       have hm:(pathK l known bs mv a b).map (boundOf (ptsM (placesOf (counting l known) bs) (placesOf (counting l known) bs).length))=ws.reverse:=by
        rw [hpk,List.map_reverse]
        exact congrArg List.reverse s1
       have hin:∀ x∈pathK l known bs mv a b,x∈linksL (counting l known) bs mv:=fun x hx=>by
        rw [hpk] at hx
        exact s2 x (List.mem_reverse.1 hx)
       have hgd:=linksL_good hO mv
       refine ⟨hw,hin,?_,?_⟩
       · refine (walk_num (placesOf_nodup (counting l known) bs) (z00_not hO) (fun x hx=>hgd x (hin x hx)) (place_of_pts hp) (place_of_pts hq)).1 ?_
         rw [hm]
         have e1:numP (placesOf (counting l known) bs) a=p.toNat:=by unfold numP;rw [show getM (ptsM (placesOf (counting l known) bs) (placesOf (counting l known) bs).length) a=some p from hp];rfl
         have e2:numP (placesOf (counting l known) bs) b=q.toNat:=by unfold numP;rw [show getM (ptsM (placesOf (counting l known) bs) (placesOf (counting l known) bs).length) b=some q from hq];rfl
         rw [e1,e2]
         exact k1.walk
       · rw [←sumL_eq (ptsM (placesOf (counting l known) bs) (placesOf (counting l known) bs).length),hm,sumW_reverse,k2,hb]
         simp
   · have:=hgv (0,false,10) (by unfold greatestV;rw [if_neg hs])
     rw [this] at h
     simp at h
 · unfold betweenV at h
   rw [if_pos he] at h
   simp at h
theorem between_none {l:List Trace} {known:Int} {bs:List Bond} {mv:List Place} {a b:Place} (h:(betweenV l known bs mv a b).2.1=false):pathK l known bs mv a b = []:=by
 by_cases he:endsErr l known bs mv a b=0
 · obtain ⟨hw,⟨p,hp⟩,q,hq⟩:=ends_ok he
   unfold pathK pathI' pathL
   rw [if_neg (by simpa using he),hp,hq,Option.getD_some,Option.getD_some,pathI_no]
   · rfl
   · rintro ⟨hs,hn⟩
     unfold betweenV at h
     rw [if_neg (by simpa using he),hp,hq,Option.getD_some,Option.getD_some] at h
     obtain ⟨g1,g2⟩:=greatestV_yes (a:=p) (b:=q) hs
     simp only [g2,ne_eq,not_true_eq_false,if_false] at h
     rw [g1] at h
     have:=of_decide_eq_false h
     omega
 · unfold pathK
   rw [if_pos he]
end Go.Proofs.YtelnkflmnbhclaaGreat
end
section
namespace Go.Proofs.YtelnkflmnbhclaaGreat
open Go.RowKit Go.Proofs Go.Shelf
theorem pathK_len (l:List Trace) (known:Int) (bs:List Bond) (mv:List Place) (a b:Place):(pathK l known bs mv a b).length≤60:=by
 by_cases he:endsErr l known bs mv a b=0
 · obtain ⟨hw,⟨p,hp⟩,q,hq⟩:=ends_ok he
   have hO:=okO_of (askErr_of_ends he)
   have hck:checkSys ((placesOf (counting l known) bs).length+1) (sysOf l known bs mv)=0:=checkSys_years hO mv
   have hr1:=ptsM_range _ hp
   have hr2:=ptsM_range _ hq
   have:=(pathI_ok (sysOk_of hck) hr1.1 hr1.2 hr2.1 hr2.2).1
   unfold pathK pathI'
   rw [if_neg (by simpa using he),hp,hq,Option.getD_some,Option.getD_some]
   unfold someL
   rw [List.length_map,pathL_len]
   exact this
 · unfold pathK
   rw [if_pos he]
   decide
set_option maxRecDepth 100000 in
set_option maxHeartbeats 8000000 in
theorem stratumBetween_of (lA:Option Addr) (ln lc:Nat) (l:List Trace) (hl0:l.length=ln) (known:Int) (bA:Option Addr) (bn bc:Nat) (b:List Bond) (hb0:b.length=bn) (mA:Option Addr) (mn mc:Nat) (mv:List Place) (hm0:mv.length=mn) (a c:Place) (w:World) (rl:ln≤17592186044416→Rd encTrace 10 w lA ln lc l) (rb:bn≤17592186044416→Rd encBond 5 w bA bn bc b) (rm:mn≤17592186044416→Rd encPlace 2 w mA mn mc mv):
 Calls Tryz.prog 11 #[.slice lA ln lc,.int .i64 known,.slice bA bn bc,.slice mA mn mc,.agg #[.int .i64 a.pit,.int .i64 a.layer],.agg #[.int .i64 c.pit,.int .i64 c.layer]] w fun e w'=>e = .returned (.bool true)∧Below w.heap.size w w':=by
 obtain ⟨w1,hw1⟩:∃ w1,(w.alloc (.cells #[.int .i64 a.pit,.int .i64 a.layer] 37)).alloc (.cells #[.int .i64 c.pit,.int .i64 c.layer] 37)=w1:=⟨_,rfl⟩
 obtain ⟨hb1,hce⟩:=boxes2 a c w w1 hw1
 have CE:=Lib.hid hce
 have HW1:=Lib.hid hw1
 have HBW:=Lib.hid hb1
 obtain ⟨a0,a1,b0,b1⟩:=CE.out w1 (Below.refl _ _)
 have HDUG:=Lib.hid dug_any
 by_cases hlow:fewB ln bn 25=true∧mn≤10
 case neg=>
  obtain ⟨fw,hfew⟩:∃ fw,fewB ln bn 25=fw:=⟨_,rfl⟩
  rw [hfew] at hlow
  have HF:=Lib.hid hfew
  have h4:fw=false∨(fw=true∧decide ((mn:Int)>10)=true):=by
   cases fw with
   | false=>exact .inl rfl
   | true=>exact .inr ⟨rfl,decide_eq_true (by have:¬mn≤10:=(fun h=>hlow ⟨rfl,h⟩);omega)⟩
  clear hfew hlow rl rb rm hl0 hb0 hm0 hb1 hce hw1
  rcases h4 with rfl|⟨rfl,g2⟩
  all_goals
   go_enter Tryz.func11,Tryz.ntmps11
   go_wp2_with (first
    | rw [HW1.out]
    | (go_at_call 23;(with_reducible refine (few_any _ _ _ _ _ _ _ _).mono ?_);rintro e w2 ⟨rfl,hw2⟩;obtain rfl:=hw2.symm;rw [HF.out])
    | (go_at_call 22;(with_reducible refine (HDUG.out _).mono ?_);rintro e w7 ⟨rfl,hb7⟩;have HB7:=Lib.hid hb7;clear hb7))
   go_ret
   exact ⟨rfl,HBW.out.trans (HB7.out.mono HBW.out.size)⟩
 case pos=>
  obtain ⟨hfew,hmn⟩:=hlow
  obtain ⟨hn,hm⟩:=fewB_small hfew (by decide)
  have HF:=Lib.hid hfew
  have m1:decide ((mn:Int)>10)=false:=decide_eq_false (by omega)
  have RL:Hid (∀ W,Below w1.heap.size w1 W→Rd encTrace 10 W lA ln lc l):=(show ∀ W,Below w1.heap.size w1 W→Rd encTrace 10 W lA ln lc l from fun W h=>(rl (by omega)).below (hb1.trans (h.mono hb1.size)) (Nat.le_refl _))
  have RB:Hid (∀ W,Below w1.heap.size w1 W→Rd encBond 5 W bA bn bc b):=(show ∀ W,Below w1.heap.size w1 W→Rd encBond 5 W bA bn bc b from fun W h=>(rb (by omega)).below (hb1.trans (h.mono hb1.size)) (Nat.le_refl _))
  have RM:Hid (∀ W,Below w1.heap.size w1 W→Rd encPlace 2 W mA mn mc mv):=(show ∀ W,Below w1.heap.size w1 W→Rd encPlace 2 W mA mn mc mv from fun W h=>(rm (by omega)).below (hb1.trans (h.mono hb1.size)) (Nat.le_refl _))
  have HB1:=Lib.hid (Below.refl w1.heap.size w1)
  have d4:=pathK_len l known b mv a c
  have d5:(betweenV l known b mv a c).2.1=true→_:=fun h=>between_path h
  have d6:(betweenV l known b mv a c).2.1=false→pathK l known b mv a c = []:=fun h=>between_none h
  have K1:Hid (∀ W,Below w1.heap.size w1 W→Calls Tryz.prog 41 #[.slice lA ln lc,.int .i64 known,.slice bA bn bc,.slice mA mn mc,.agg #[.int .i64 a.pit,.int .i64 a.layer],.agg #[.int .i64 c.pit,.int .i64 c.layer]] W fun e w'=>e = .returned (.tuple #[.int .i64 (betweenV l known b mv a c).1,.bool (betweenV l known b mv a c).2.1,.int .i64 (betweenV l known b mv a c).2.2])∧Below W.heap.size W w'):=
   (show ∀ W,Below w1.heap.size w1 W→_ from fun W h=>Between_any lA ln lc l known bA bn bc b mA mn mc mv a c W (RL.out W h) (RB.out W h) (RM.out W h))
  have K2:Hid (∀ W,Below w1.heap.size w1 W→Calls Tryz.prog 52 #[.slice lA ln lc,.int .i64 known,.slice bA bn bc,.slice mA mn mc,.agg #[.int .i64 a.pit,.int .i64 a.layer],.agg #[.int .i64 c.pit,.int .i64 c.layer]] W fun e w'=>e = .returned (.tuple #[.int .i64 (betweenV l known b mv a c).1,.bool (betweenV l known b mv a c).2.1,.int .i64 (betweenV l known b mv a c).2.2])∧Below W.heap.size W w'):=
   (show ∀ W,Below w1.heap.size w1 W→_ from fun W h=>rBetween_any lA ln lc l known bA bn bc b mA mn mc mv a c W (RL.out W h) (RB.out W h) (RM.out W h))
  have K3:Hid (∀ W,Below w1.heap.size w1 W→Calls Tryz.prog 53 #[.slice lA ln lc,.int .i64 known,.slice bA bn bc,.slice mA mn mc,.agg #[.int .i64 a.pit,.int .i64 a.layer],.agg #[.int .i64 c.pit,.int .i64 c.layer]] W fun e w'=> ∃ A' c',e = .returned (.tuple #[.slice A' (pathK l known b mv a c).length c',.bool (betweenV l known b mv a c).2.1,.int .i64 (betweenV l known b mv a c).2.2])∧Below W.heap.size W w'∧Own encLink 6 74 W.heap.size w' A' (pathK l known b mv a c).length c' (pathK l known b mv a c)):=
   (show ∀ W,Below w1.heap.size w1 W→_ from fun W h=>Path_any lA ln lc l known bA bn bc b mA mn mc mv a c W (RL.out W h) (RB.out W h) (RM.out W h))
  have K4:Hid ((betweenV l known b mv a c).2.1=true→∀ W Ad cd,Below w1.heap.size w1 W→Rd encLink 6 W Ad (pathK l known b mv a c).length cd (pathK l known b mv a c)→Calls Tryz.prog 54 #[.slice lA ln lc,.int .i64 known,.slice bA bn bc,.slice mA mn mc,.agg #[.int .i64 a.pit,.int .i64 a.layer],.agg #[.int .i64 c.pit,.int .i64 c.layer],.int .i64 (betweenV l known b mv a c).1,.slice Ad (pathK l known b mv a c).length cd] W fun e w'=>e = .returned (.bool true)∧Below W.heap.size W w'):=
   (show _→∀ W Ad cd,Below w1.heap.size w1 W→Rd encLink 6 W Ad (pathK l known b mv a c).length cd (pathK l known b mv a c)→_ from fun hb W Ad cd h h2=>
     rCheckPath_yes lA ln lc l known bA bn bc b mA mn mc mv a c _ Ad _ cd _ W (RL.out W h) (RB.out W h) (RM.out W h) h2 (d5 hb).1 (Nat.le_trans d4 (by decide)) (d5 hb).2.1 (d5 hb).2.2.1 (d5 hb).2.2.2)
  clear hfew rl rb rm hl0 hb0 hm0 hb1 hce hw1 d5 RL RB RM
  generalize pathK l known b mv a c=PK at *
  obtain ⟨⟨n1,is,e1⟩,hq⟩:∃ q,betweenV l known b mv a c=q:=⟨_,rfl⟩
  rw [hq] at K1 K2 K3 K4 d6
  clear hq
  simp only at K1 K2 K3 K4 d6
  cases is with
  | true=>
    have K5:=Lib.hid (K4.out rfl)
    clear K4 d6
    go_enter Tryz.func11,Tryz.ntmps11
    go_wp2_with (first
     | rw [HW1.out]
     | (go_at_call 23;(with_reducible refine (few_any _ _ _ _ _ _ _ _).mono ?_);rintro e w2 ⟨rfl,hw2⟩;obtain rfl:=hw2.symm;rw [HF.out])
     | (go_at_call 41;(with_reducible refine (K1.out _ HB1.out).mono ?_);rintro e w4 ⟨rfl,hb4⟩;have HB4:=Lib.hid hb4;obtain ⟨a4,a5,b4,b5⟩:=CE.out w4 HB4.out;clear hb4)
     | (go_at_call 52;(with_reducible refine (K2.out _ HB4.out).mono ?_);rintro e w5 ⟨rfl,hb5⟩;have HB5:=Lib.hid (HB4.out.trans (hb5.mono HB4.out.size));obtain ⟨a6,a7,b6,b7⟩:=CE.out w5 HB5.out;clear hb5)
     | (go_at_call 53;(with_reducible refine (K3.out _ HB5.out).mono ?_);rintro e w6 ⟨Ad,cd,rfl,hb6,hO6⟩;have HB6:=Lib.hid (HB5.out.trans (hb6.mono HB5.out.size));have HR6:=Lib.hid (hO6.rd (fun _=>rfl) (Nat.le_trans d4 (by decide)));obtain ⟨a8,a9,b8,b9⟩:=CE.out w6 HB6.out;clear hb6 hO6)
     | (go_at_call 54;(with_reducible refine (K5.out _ _ _ HB7.out HR7.out).mono ?_);rintro e w8 ⟨rfl,hb8⟩;have HB8:=Lib.hid (HB7.out.trans (hb8.mono HB7.out.size));clear hb8)
     | (go_at_call 22;(with_reducible refine (HDUG.out _).mono ?_);rintro e w7 ⟨rfl,hb7⟩;have HB7:=Lib.hid (HB6.out.trans (hb7.mono HB6.out.size));have HR7:=Lib.hid (HR6.out.below hb7 (Nat.le_refl _));obtain ⟨e8,e9,f8,f9⟩:=CE.out w7 HB7.out;clear hb7))
    all_goals first
     | (exfalso;simp at *;done)
     | (go_ret;exact ⟨by simp,HBW.out.trans (HB8.out.mono HBW.out.size)⟩)
  | false=>
    obtain rfl:=d6 rfl
    clear d4 d6 K4
    go_enter Tryz.func11,Tryz.ntmps11
    go_wp2_with (first
     | rw [HW1.out]
     | (go_at_call 23;(with_reducible refine (few_any _ _ _ _ _ _ _ _).mono ?_);rintro e w2 ⟨rfl,hw2⟩;obtain rfl:=hw2.symm;rw [HF.out])
     | (go_at_call 41;(with_reducible refine (K1.out _ HB1.out).mono ?_);rintro e w4 ⟨rfl,hb4⟩;have HB4:=Lib.hid hb4;obtain ⟨a4,a5,b4,b5⟩:=CE.out w4 HB4.out;clear hb4)
     | (go_at_call 52;(with_reducible refine (K2.out _ HB4.out).mono ?_);rintro e w5 ⟨rfl,hb5⟩;have HB5:=Lib.hid (HB4.out.trans (hb5.mono HB4.out.size));obtain ⟨a6,a7,b6,b7⟩:=CE.out w5 HB5.out;clear hb5)
     | (go_at_call 53;(with_reducible refine (K3.out _ HB5.out).mono ?_);rintro e w6 ⟨Ad,cd,rfl,hb6,hO6⟩;have HB6:=Lib.hid (HB5.out.trans (hb6.mono HB5.out.size));clear hb6 hO6)
     | (go_at_call 22;(with_reducible refine (HDUG.out _).mono ?_);rintro e w7 ⟨rfl,hb7⟩;have HB7:=Lib.hid (HB6.out.trans (hb7.mono HB6.out.size));clear hb7))
    all_goals first
     | (exfalso;simp at *;done)
     | (go_ret;exact ⟨by simp,HBW.out.trans (HB7.out.mono HBW.out.size)⟩)
end Go.Proofs.YtelnkflmnbhclaaGreat
end

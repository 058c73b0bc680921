/- Contracts that the laws lean on: Seq, Log1, Pred. -/
import Derived.Test.YtejjplhknacoiaaGreatDoorLK02
import Derived.Shelf.Abstract
set_option maxRecDepth 100000
set_option maxHeartbeats 2000000
section
namespace Go.Proofs.YtejjplhknacoiaaGreatDoor
open Go.RowKit Go.Proofs Go.Shelf
theorem grownBy_putObj' (W:World) (l:Nat) (o:Obj):W.grownBy (W.putObj l o) (some l):=
 ⟨rfl,rfl,rfl,by simp,fun k _ hk=>World.putObj_heap_other (fun e=>hk (by rw [e]))⟩
theorem grownBy_setCell' (W:World) (b o:Nat) (v:Value):W.grownBy (W.setCell ⟨b,o,none⟩ v) (some b):=
 ⟨rfl,rfl,rfl,(KeepsWalks.setCell W _ v).size,fun k _ hk=>Below.heap_setCell _ _ _ k (fun e=>hk (by rw [e]))⟩
theorem cell_of_box' {W:World} {B:Nat} {v:Value} {t:TypeId} (h:W.heap[B]? = some (.cells #[v] t (0,0))):W.cell? ⟨B,0,none⟩=some v∧W.frozen? ⟨B,0,none⟩=false:=by
 constructor<;>simp [World.cell?,World.frozen?,h]
theorem heap_setCell_box' {W:World} {B:Nat} {v:Value} {t:TypeId} (v':Value) (h:W.heap[B]? = some (.cells #[v] t (0,0))):(W.setCell ⟨B,0,none⟩ v').heap[B]? = some (.cells #[v'] t (0,0)):=by
 obtain ⟨hlt,hk⟩:=Array.getElem?_eq_some_iff.1 h
 show (W.heap.modify B _)[B]? = _
 rw [Array.getElem?_eq_getElem (by rw [Array.size_modify];exact hlt),Array.getElem_modify_self,hk]
 rfl
section
variable {α:Type} {enc:α→List Value} {k n c B:Nat} {e:TypeId} {w W W':World} {A:Option Addr} {xs:List α}
theorem Own.block (h:Own enc k e B W A n c xs):A=none∨∃ g cur,A=some ⟨g,0,none⟩∧W.heap[g]? = some (.cells cur e (0,0))∧B≤g:=by
 rcases h.own.2 with ⟨hv,_⟩|⟨g,cap,cur,hv,hb,hg,_⟩
 · injection hv with h1;exact .inl h1
 · injection hv with h1;exact .inr ⟨g,cur,h1,hg,hb⟩
theorem Own.ne (h:Own enc k e B W A n c xs) {j:Nat} {o:Obj} (hj:W.heap[j]? = some o) (hno:∀ cur,o ≠ .cells cur e (0,0)):A=none∨blockOf A≠some j:=by
 rcases h.block with h|⟨g,cur,rfl,hg,_⟩
 · exact .inl h
 · refine .inr fun e'=> ?_
   have:g=j:=by simpa [blockOf] using e'
   subst this;rw [hg] at hj;cases hj;exact hno cur rfl
theorem Own.ne' (h:Own enc k e B W A n c xs) {j:Nat} {o:Obj} (hj:W.heap[j]? = some o) (hno:∀ cur,o ≠ .cells cur e (0,0)):some j≠blockOf A:=by
 rcases h.ne hj hno with rfl|h
 · simp [blockOf]
 · exact fun e=>h e.symm
theorem Own.not_walk (h:Own enc k e B W A n c xs):∀ (j:Nat) (o:Obj),blockOf A=some j→W.heap[j]? = some o→o.isWalk=false:=by
 intro j o hj ho
 rcases h.block with rfl|⟨g,cur,rfl,hg,_⟩
 · simp [blockOf] at hj
 · have:g=j:=by simpa [blockOf] using hj
   subst this;rw [hg] at ho;cases ho;rfl
theorem Own.abides (h:Own enc k e B W A n c xs) {row:Option Nat} (hg:W.grownBy W' row) (hrow:∀ r,row=some r→∃ o:Obj,W.heap[r]? = some o∧o.isWalk=true):Own enc k e B W' A n c xs:=by
 refine h.kept hg ?_
 rcases h.block with h1|⟨g,cur,rfl,hgb,_⟩
 · exact .inl h1
 · refine .inr fun e'=> ?_
   obtain ⟨o,ho,hw⟩:=hrow g (by simpa [blockOf] using e'.symm)
   rw [hgb] at ho;cases ho;cases hw
theorem Own.ltB (h:Own enc k e B W A n c xs) (k':Nat) (hk:blockOf A=some k'):B≤k':=by
 rcases h.block with rfl|⟨g,cur,rfl,_,hg⟩
 · simp [blockOf] at hk
 · have:g=k':=by simpa [blockOf] using hk
   omega
end
section
variable {F:Fence} {nn:Nat} {P:Program} {α:Type} {enc:α→List Value} {k bytes n c B:Nat} {t e:TypeId} {w:World} {A:Option Addr} {xs:List α}
theorem wpListIn_append_src {ops:Array Oper} {rest:List Oper} {o:Oper} {a:Act} {Q:Exit→Act→World→Prop} (E:ElemT P t e k bytes) (hk:∀ x,(enc x).length=k) (h1:∀ x,∀ u∈enc x,u.oneCell'=true) (hgd:o.guard=none) (s x:Operand)
 (ho:o.op = .call { callee:=.builtin .append,args:=#[s,x],argTypes:=#[t,t] }) (A2:Option Addr) (m c2:Nat) (ys:List α) (hs:a.eval s = .slice A n c) (hx:a.eval x = .slice A2 m c2)
 (hown:Own enc k e B w A n c xs) (hrd:Rd enc k w A2 m c2 ys) (hbytes:(n+m) * bytes≤140737488355328) (hb8:1≤bytes) (hbase:B≤w.heap.size)
 (h:∀ A' c' w',Own enc k e B w' A' (n+m) c' (xs++ys)→w.grownBy w' (blockOf A)→(blockOf A'=blockOf A∨blockOf A'=some w.heap.size)→wpListIn F nn P ops Q rest (a.put o.dst (.slice A' (n+m) c')) w'):wpListIn F nn P ops Q (o::rest) a w:=by
 refine wpListIn_plain hgd fun K hK'=> ?_
 obtain ⟨A',c',w',hrun,h2,h3,h4⟩:=run_append_src E o.type hk h1 hown A2 m c2 ys hrd hbytes hb8 hbase
 unfold Oper.wpIn
 refine ⟨?_,?_⟩
 · simp [Oper.about,ho,resolve,Target.leads,Sem.run_pure]
 · rw [Oper.semAt_plain F _ _ (by rw [ho];intro c hc';cases hc')]
   simp [execOp,ho,resolve,invoke,builtin,hs,hx,hrun,Result.andThen]
   exact hK' _ _ (h A' c' w' h2 h3 h4)
end
structure ApAt {α:Type} (enc:α→List Value) (k:Nat) (st et:TypeId) (r:Loop) (w0:World) (Bs l D:Nat) (ss:List α) (W:World):Prop where
 box:∃ A c,W.heap[Bs]? = some (.cells #[.slice A ss.length c] st (0,0))∧Own enc k et w0.heap.size W A ss.length c ss
 L:W.heap[l]? = some (.loop r)
 K:W.heap[D]? = some (.deferred (some []))
 below:Below w0.heap.size w0 W
theorem ap_abides {α:Type} (enc:α→List Value) (k:Nat) (st et:TypeId) (r:Loop) (w0:World) (Bs l D B:Nat) (hB:w0.heap.size≤B):AbidesFrom B (ApAt enc k st et r w0 Bs l D):=fun s W W' row h hg hrow=>by
 have hrow':∀ r,row=some r→∃ o:Obj,W.heap[r]? = some o∧o.isWalk=true:=fun r e=>(hrow r e).2
 obtain ⟨A,c,hv,hr⟩:=h.box
 exact ⟨⟨A,c,(grownBy_keeps hg hrow' hv rfl).trans hv,hr.abides hg hrow'⟩,(grownBy_keeps hg hrow' h.L rfl).trans h.L,(grownBy_keeps hg hrow' h.K rfl).trans h.K,
  h.below.grown hg h.below.size (fun k e=>Nat.le_trans hB (hrow k e).1)⟩
def Touch (st:TypeId) (W:World) (Bs l k:Nat):Prop:=k=Bs∨k=l∨∃ A n c,W.heap[Bs]? = some (.cells #[.slice A n c] st (0,0))∧blockOf A=some k
def asgOf:Option Code→Code
 | some (.seq _ (.seq (.seq _ (.block _ (.rangeFunc _ _ a _))) _))=>a
 | _=> .skip
def bodOf:Option Code→Code
 | some (.seq _ (.seq (.seq _ (.block _ (.rangeFunc _ _ _ b))) _))=>b
 | _=> .skip
def recAp (asg bod:Code) (fn:FuncId) (sv:Value) (Bs D:Nat) (st:LoopState) (pend:Option Code):Loop:=
 { state:=st,pending:=pend,fn,tmps:=#[.slice none 0 0,sv,.pointer (some ⟨Bs,0,none⟩),undef,.slice none 0 0,undef,sv,undef,undef,undef,undef,undef,undef],params:=#[7],assign:=asg,body:=bod,defers:=D }
theorem apYieldPlace (asg bod:Code) (hasg:asg=asgOf Tryz.f165.body) (hbod:bod=bodOf Tryz.f165.body) (m:Nat) (w0:World) (fn:FuncId) (sv:Value) (Bs l D:Nat) (hBl:Bs≠l) (hDl:D≠l) (hDB:D≠Bs) (h0B:w0.heap.size≤Bs) (h0l:w0.heap.size≤l)
 (N:Nat) (hN:N≤1000000000) (ss:List Place) (x:Place) (W:World) (h:ApAt encPlace 2 37 36 (recAp asg bod fn sv Bs D .ready none) w0 Bs l D ss W) (hlen:ss.length<N):
 YieldAt Fence.wide m Tryz.prog l #[.agg #[.int .i64 x.pit,.int .i64 x.layer]] W fun e W'=>e = .returned (.bool true)∧ApAt encPlace 2 37 36 (recAp asg bod fn sv Bs D .ready none) w0 Bs l D (ss ++ [x]) W'∧KeepsWalks W W'∧W.heap.size≤W'.heap.size∧∀ k,k<W.heap.size→¬Touch 37 W Bs l k→W'.heap[k]? = W.heap[k]? ∧¬Touch 37 W' Bs l k:=by
 obtain ⟨A,c,hv,hrow⟩:=h.box
 refine ⟨fn,#[.slice none 0 0,sv,.pointer (some ⟨Bs,0,none⟩),undef,.slice none 0 0,undef,sv,.agg #[.int .i64 x.pit,.int .i64 x.layer],undef,undef,undef,undef,undef],asgOf Tryz.f165.body,bodOf Tryz.f165.body,by rw [←hasg,←hbod];simpa [recAp] using run_yield (P:=Tryz.prog) (args:=#[.agg #[.int .i64 x.pit,.int .i64 x.layer]]) h.L rfl,roundIn_of_wpIn trivial ?_⟩
 have hl:l<W.heap.size:=(Array.getElem?_eq_some_iff.1 h.L).1
 have hBs:Bs<W.heap.size:=(Array.getElem?_eq_some_iff.1 hv).1
 have hD:D<W.heap.size:=(Array.getElem?_eq_some_iff.1 h.K).1
 obtain ⟨W1,hW1⟩:∃ W1,W.alloc (.cells #[.int .i64 x.pit,.int .i64 x.layer] 36)=W1:=⟨_,rfl⟩
 have hg1:W.grownBy W1 none:=by rw [←hW1];exact World.grownBy_alloc _ _ _
 have hs1:W1.heap.size=W.heap.size+1:=by rw [←hW1];simp
 have hL1:W1.heap[l]? = some (.loop (recAp asg bod fn sv Bs D .ready none)):=by rw [←hW1];exact (Below.heap_alloc _ _ l hl).trans h.L
 have hbr:=run_beginRound (P:=Tryz.prog) hL1 rfl
 obtain ⟨W2,hW2⟩:∃ W2,W1.putObj l (.loop { recAp asg bod fn sv Bs D .ready none with state:=.busy })=W2:=⟨_,rfl⟩
 rw [hW2] at hbr
 have hg2:W1.grownBy W2 (some l):=by rw [←hW2];exact grownBy_putObj' _ _ _
 have hk2:KeepsWalks W W2:=by rw [←hW2];exact (hW1 ▸ KeepsWalks.alloc W _).trans (KeepsWalks.putObj _ hL1 rfl)
 have hs2:W2.heap.size=W.heap.size+1:=by rw [←hW2];simp [hs1]
 have hv1:W1.heap[Bs]? = some (.cells #[.slice A ss.length c] 37 (0,0)):=by rw [←hW1];exact (Below.heap_alloc _ _ Bs hBs).trans hv
 have hK1:W1.heap[D]? = some (.deferred (some [])):=by rw [←hW1];exact (Below.heap_alloc _ _ D hD).trans h.K
 have hv2:W2.heap[Bs]? = some (.cells #[.slice A ss.length c] 37 (0,0)):=by rw [←hW2];exact (World.putObj_heap_other hBl).trans hv1
 have hK2:W2.heap[D]? = some (.deferred (some [])):=by rw [←hW2];exact (World.putObj_heap_other hDl).trans hK1
 have hL2:W2.heap[l]? = some (.loop { recAp asg bod fn sv Bs D .ready none with state:=.busy }):=by rw [←hW2];exact World.putObj_heap_same (by omega)
 have hx2:W2.heap[W.heap.size]? = some (.cells #[.int .i64 x.pit,.int .i64 x.layer] 36 (0,0)):=by rw [←hW2];refine (World.putObj_heap_other (by omega)).trans ?_;rw [←hW1];exact World.alloc_heap_new W _
 have hrow1:Own encPlace 2 36 w0.heap.size W1 A ss.length c ss:=by rw [←hW1];exact hrow.alloc _
 have hrow2:Own encPlace 2 36 w0.heap.size W2 A ss.length c ss:=hrow1.kept hg2 (hrow1.ne hL1 (fun cur e=>by cases e))
 have hb1:Below w0.heap.size w0 W1:=by rw [←hW1];exact h.below.alloc h.below.size _
 have hb2:Below w0.heap.size w0 W2:=hb1.grown hg2 hb1.size (fun k e=>by cases e;exact h0l)
 obtain ⟨hc2,hf2⟩:=cell_of_box' hv2
 have hxc:∀ j u,(encPlace x)[j]? = some u→W2.cell? ⟨W.heap.size,j,none⟩=some u:=by
  intro j u hu
  simp only [World.cell?,hx2]
  simpa [encPlace] using hu
 have x0:W2.cell? ⟨W.heap.size,0,none⟩=some (.int .i64 x.pit):=hxc 0 _ rfl
 have x1:W2.cell? ⟨W.heap.size,1,none⟩=some (.int .i64 x.layer):=hxc 1 _ rfl
 clear hxc hx2 hL1 hv1 hK1 hrow1 hrow hW2
 clear hasg hbod
 unfold asgOf Tryz.f165
 dsimp only
 gi_wp2_with (rw [Oper.semAt_eq _ _ _ (fun c h=>by cases h)];go_simp;try go_bits)
 have hrd:Rd encPlace 2 (W2.alloc (.cells #[.int .i64 x.pit,.int .i64 x.layer] 36)) (some ⟨W.heap.size+1,0,none⟩) 1 1 [x]:=by
  have:=Rd.single (enc:=encPlace) (k:=2) W2 #[.int .i64 x.pit,.int .i64 x.layer] 36 [x] 1 rfl (by omega) (fun _=>rfl) (by simp [encPlace])
  rwa [hs2] at this
 unfold bodOf
 dsimp only
 gi_wp2_with (first
  | (gi_at_builtin;refine wpListIn_append_src elPlace (fun _=>rfl) onePlace rfl _ _ rfl (some ⟨W.heap.size+1,0,none⟩) 1 1 [x] rfl rfl (hrow2.alloc _) hrd (by omega) (by omega) (by have:=hb2.size;simp;omega) ?_;intro A' c' w3 hown' hg3 hA3
     have hv3:w3.heap[Bs]? = some (.cells #[.slice A ss.length c] 37 (0,0)):=(hg3.block Bs (by simp;omega) (hrow2.ne' hv2 (fun cur e=>by cases e))).trans ((Below.heap_alloc _ _ Bs (by omega)).trans hv2)
     obtain ⟨hc3,hf3⟩:=cell_of_box' hv3
     go_frame)
  | (rw [Oper.semAt_eq _ _ _ (fun c h=>by cases h)];go_simp;try go_bits))
 have hg3':(W2.alloc (.cells #[.int .i64 x.pit,.int .i64 x.layer] 36)).grownBy w3 (blockOf A):=hg3
 have hl2:l<W2.heap.size:=(by omega)
 have hD2:D<W2.heap.size:=(by omega)
 have hL3:w3.heap[l]? = some (.loop { recAp asg bod fn sv Bs D .ready none with state:=.busy }):=(hg3'.block l (by simp;omega) (hrow2.ne' hL2 (fun cur e=>by cases e))).trans ((Below.heap_alloc _ _ l hl2).trans hL2)
 have hK3:w3.heap[D]? = some (.deferred (some [])):=(hg3'.block D (by simp;omega) (hrow2.ne' hK2 (fun cur e=>by cases e))).trans ((Below.heap_alloc _ _ D hD2).trans hK2)
 obtain ⟨w4,hw4⟩:∃ w4,w3.setCell ⟨Bs,0,none⟩ (.slice A' (ss.length+1) c')=w4:=⟨_,rfl⟩
 rw [hw4]
 have hg4:w3.grownBy w4 (some Bs):=by rw [←hw4];exact grownBy_setCell' _ _ _ _
 have hv4:w4.heap[Bs]? = some (.cells #[.slice A' (ss.length+1) c'] 37 (0,0)):=by rw [←hw4];exact heap_setCell_box' _ hv3
 have hL4:w4.heap[l]? = some (.loop { recAp asg bod fn sv Bs D .ready none with state:=.busy }):=(hg4.block l (Array.getElem?_eq_some_iff.1 hL3).1 (fun e=>hBl (by cases e;rfl))).trans hL3
 have hK4:w4.heap[D]? = some (.deferred (some [])):=(hg4.block D (Array.getElem?_eq_some_iff.1 hK3).1 (fun e=>hDB (by cases e;rfl))).trans hK3
 have hrow4:=hown'.kept hg4 (hown'.ne hv3 (fun cur e=>by cases e))
 have hl4:l<w4.heap.size:=(Array.getElem?_eq_some_iff.1 hL4).1
 have hb3:Below w0.heap.size w0 w3:=(hb2.alloc hb2.size _).grown hg3' (by have:=hb2.size;simp;omega) (fun k e=>hrow2.ltB k e)
 have hb4:Below w0.heap.size w0 w4:=hb3.grown hg4 hb3.size (fun k e=>by cases e;exact h0B)
 have hk4:KeepsWalks W w4:=((hk2.trans (KeepsWalks.alloc _ _)).trans (KeepsWalks.of_grownBy hg3' (hrow2.alloc _).not_walk)).trans (by rw [←hw4];exact KeepsWalks.setCell _ _ _)
 have hv5:=(World.putObj_heap_other (o:=.loop { { recAp asg bod fn sv Bs D .ready none with state:=.busy } with state:=if (none:Option Code).isNone then .ready else .done,pending:=none }) hBl).trans hv4
 have hsz4:W.heap.size≤(w4.putObj l (.loop { { recAp asg bod fn sv Bs D .ready none with state:=.busy } with state:=if (none:Option Code).isNone then .ready else .done,pending:=none })).heap.size:=by
  have h1:=hg3'.size;have h2:=hg4.size;simp at h1 ⊢;omega
 have hstd:∀ k,k<W.heap.size→¬Touch 37 W Bs l k→(w4.putObj l (.loop { { recAp asg bod fn sv Bs D .ready none with state:=.busy } with state:=if (none:Option Code).isNone then .ready else .done,pending:=none })).heap[k]? = W.heap[k]? ∧¬Touch 37 (w4.putObj l (.loop { { recAp asg bod fn sv Bs D .ready none with state:=.busy } with state:=if (none:Option Code).isNone then .ready else .done,pending:=none })) Bs l k:=by
  intro k hk hT
  have n1:k≠Bs:=fun e=>hT (.inl e)
  have n2:k≠l:=fun e=>hT (.inr (.inl e))
  have n3:blockOf A≠some k:=fun e=>hT (.inr (.inr ⟨A,_,_,hv,e⟩))
  have h1:=hg3'.size
  have hs3:k<w3.heap.size:=by simp at h1;omega
  refine ⟨(World.putObj_heap_other n2).trans ((hg4.block k hs3 (fun e=>n1 (by cases e;rfl))).trans ((hg3'.block k (by simp;omega) (fun e=>n3 e.symm)).trans ((Below.heap_alloc _ _ k (by omega)).trans ((hg2.block k (by omega) (fun e=>n2 (by cases e;rfl))).trans (hg1.block k hk (by simp)))))),?_⟩
  rintro (e|e|⟨A2,n2',c2,hb2',e⟩)
  · exact n1 e
  · exact n2 e
  · rw [hv5] at hb2'
    simp at hb2'
    obtain ⟨rfl,_⟩:=hb2'
    rcases hA3 with h|h
    · exact n3 (h.symm.trans e)
    · rw [h] at e
      simp at e
      omega
 clear hw4
 refine ⟨_,_,run_endRound none hL4,rfl,⟨⟨A',c',(World.putObj_heap_other hBl).trans (by rw [List.length_append];exact hv4),?_⟩,World.putObj_heap_same hl4,(World.putObj_heap_other hDl).trans hK4,hb4.grown (grownBy_putObj' _ _ _) hb4.size (fun k e=>by cases e;exact h0l)⟩,hk4.trans (KeepsWalks.putObj _ hL4 rfl),hsz4,hstd⟩
 have:=hrow4.kept (grownBy_putObj' w4 l (.loop { { recAp asg bod fn sv Bs D .ready none with state:=.busy } with state:=if (none:Option Code).isNone then .ready else .done,pending:=none })) (hrow4.ne hL4 (fun cur e=>by cases e))
 rw [List.length_append]
 exact this
theorem appendSeqPlace (n g:Nat) (lb:Array Value) (eg:∀ args w,(callFunc g args).run Tryz.prog w = .ok (.enter g args) w)
 (S:List Place→Prop) (N:Nat) (hN:N≤1000000000) (w:World) (hseq:SeqGives Fence.wide (n-1) Tryz.prog g lb (fun x:Place=> .agg #[.int .i64 x.pit,.int .i64 x.layer]) S N w):
 CallsIn Fence.wide n Tryz.prog 165 #[.slice none 0 0,.func (.func g) #[] lb] w fun e w'=> ∃ A c ss,e = .returned (.slice A ss.length c)∧S ss∧Own encPlace 2 36 w.heap.size w' A ss.length c ss∧Below w.heap.size w w':=by
 refine callsIn_of_wp_marks Tryz.func165 rfl trivial ?_ rfl
 simp only [Tryz.ntmps165,List.size_toArray,List.length_cons,List.length_nil,Nat.reduceAdd,Nat.reduceSub,Array.replicate_succ,Array.replicate_zero,List.push_toArray,List.append_toArray,List.nil_append,List.cons_append]
 gi_wp2
 refine wpIn_rangeFunc ?_
 intro fn hfn
 obtain ⟨asg,hasg⟩:∃ asg,asg=asgOf Tryz.f165.body:=⟨_,rfl⟩
 obtain ⟨bod,hbod⟩:∃ bod,bod=bodOf Tryz.f165.body:=⟨_,rfl⟩
 obtain ⟨W0,hW0⟩:∃ W0,w.alloc (.cells #[.slice none 0 0] 37)=W0:=⟨_,rfl⟩
 have hs0:W0.heap.size=w.heap.size+1:=by rw [←hW0];simp
 have hv0:W0.heap[w.heap.size]? = some (.cells #[.slice none 0 0] 37 (0,0)):=by rw [←hW0];exact World.alloc_heap_new w _
 have hb0:Below w.heap.size w W0:=by rw [←hW0];exact (Below.refl _ w).alloc (Nat.le_refl _) _
 rw [hW0]
 obtain ⟨W1,hW1⟩:∃ W1,(W0.alloc (.deferred (some []))).alloc (.loop (recAp asg bod fn (.func (.func g) #[] lb) w.heap.size W0.heap.size .ready none))=W1:=⟨_,rfl⟩
 have hold:∀ k,k<W0.heap.size→W1.heap[k]? = W0.heap[k]? := fun k hk=>by
  rw [←hW1];exact (Below.heap_alloc _ _ k (by simp;omega)).trans (Below.heap_alloc _ _ k hk)
 have hb1:Below w.heap.size w W1:=by rw [←hW1];exact (hb0.alloc hb0.size _).alloc (by have:=hb0.size;simp;omega) _
 have hs1:W1.heap.size=W0.heap.size+2:=by rw [←hW1];simp
 have hM:ApAt encPlace 2 37 36 (recAp asg bod fn (.func (.func g) #[] lb) w.heap.size W0.heap.size .ready none) w w.heap.size (W0.heap.size+1) W0.heap.size [] W1:=
  ⟨⟨none,0,(hold w.heap.size (by omega)).trans hv0,Own.none_ _ _ _ _ _⟩,
   by rw [←hW1];have:=World.alloc_heap_new (W0.alloc (.deferred (some []))) (.loop (recAp asg bod fn (.func (.func g) #[] lb) w.heap.size W0.heap.size .ready none));rwa [World.size_alloc] at this,
   by rw [←hW1];exact (Below.heap_alloc _ _ _ (by simp)).trans (World.alloc_heap_new W0 _),hb1⟩
 refine ⟨W0.heap.size+1,[{ target:=.collected W0.heap.size,args:=#[] }],W1,{ target:=.fn (.func g) lb,args:=#[.func (.yield (W0.heap.size+1)) #[] #[]] },W1,g,
  #[.func (.yield (W0.heap.size+1)) #[] #[]]++lb,W1,?_,?_,?_,?_,fun h=>(by cases h),?_⟩
 · rw [←hW1,hasg,hbod];exact run_enterLoop_outer _ _ _ _ _
 · simp [resolve,go_sem]
 · intro f' hf';trivial
 · simp [invoke,go_sem,eg]
 · refine (hseq (W0.heap.size+1) (ApAt encPlace 2 37 36 (recAp asg bod fn (.func (.func g) #[] lb) w.heap.size W0.heap.size .ready none) w w.heap.size (W0.heap.size+1) W0.heap.size) W1 hb1 (ap_abides _ _ _ _ _ _ _ _ _ _ hb1.size)
    (fun pre x W hJ hl=>by
      obtain ⟨f1,t1,a1,b1,y1,r1⟩:=apYieldPlace asg bod hasg hbod (n-1-1) w fn (.func (.func g) #[] lb) w.heap.size (W0.heap.size+1) W0.heap.size (by omega) (by omega) (by omega) (Nat.le_refl _) (by omega) N hN pre x W hJ hl
      exact ⟨f1,t1,a1,b1,y1,r1.mono fun _ _ h=>⟨h.1,h.2.1,h.2.2.1⟩⟩) hM).mono ?_
   rintro e W2 ⟨⟨v0,rfl⟩,ss,hS,h2⟩
   obtain ⟨A,c,hv,hrow⟩:=h2.box
   have hend:=run_endLoop (P:=Tryz.prog) h2.L (by simp [recAp])
   obtain ⟨W3,hW3⟩:∃ W3,W2.putObj (W0.heap.size+1) (.loop { recAp asg bod fn (.func (.func g) #[] lb) w.heap.size W0.heap.size .ready none with state:=.exhausted })=W3:=⟨_,rfl⟩
   rw [hW3] at hend
   have hg3:W2.grownBy W3 (some (W0.heap.size+1)):=by rw [←hW3];exact grownBy_putObj' _ _ _
   have hv3:W3.heap[w.heap.size]? = some (.cells #[.slice A ss.length c] 37 (0,0)):=by rw [←hW3];exact (World.putObj_heap_other (by omega)).trans hv
   have hK3:W3.heap[W0.heap.size]? = some (.deferred (some [])):=by rw [←hW3];exact (World.putObj_heap_other (by omega)).trans h2.K
   have hrow3:=hrow.kept hg3 (hrow.ne h2.L (fun cur e=>by cases e))
   have hb3:Below w.heap.size w W3:=h2.below.grown hg3 h2.below.size (fun k e=>by cases e;omega)
   obtain ⟨hc3,hf3⟩:=cell_of_box' hv3
   clear hW3 hasg hbod
   refine ⟨none,W3,hend,?_⟩
   gi_wp2
   rw [←hs0]
   refine ⟨by simp,.inl ⟨_,_,rfl,run_takeDeferred hK3,?_⟩⟩
   exact ⟨_,results_tmp rfl _ _ _,A,c,ss,rfl,hS,hrow3.kept (grownBy_putObj' _ _ _) (hrow3.ne hK3 (fun cur e=>by cases e)),hb3.grown (grownBy_putObj' _ _ _) hb3.size (fun k e=>by cases e;omega)⟩
theorem collectPlace (g:Nat) (lb:Array Value) (eg:∀ args w,(callFunc g args).run Tryz.prog w = .ok (.enter g args) w)
 (S:List Place→Prop) (N:Nat) (hN:N≤1000000000) (w:World) (hseq:SeqGives Fence.wide 5 Tryz.prog g lb (fun x:Place=> .agg #[.int .i64 x.pit,.int .i64 x.layer]) S N w):
 Calls Tryz.prog 133 #[.func (.func g) #[] lb] w fun e w'=> ∃ A c ss,e = .returned (.slice A ss.length c)∧S ss∧Own encPlace 2 36 w.heap.size w' A ss.length c ss∧Below w.heap.size w w':=by
 have hap:=callsIn_wide.1 (appendSeqPlace 6 g lb eg S N hN w hseq)
 clear hseq
 go_enter Tryz.func133,Tryz.ntmps133
 go_wp2_with (go_at_call 165;refine hap.mono ?_;rintro e w' ⟨A,c,ss,rfl,hS,hO,hb⟩)
 go_ret
 exact ⟨A,c,ss,rfl,hS,hO,hb⟩
theorem apYieldLink (asg bod:Code) (hasg:asg=asgOf Tryz.f110.body) (hbod:bod=bodOf Tryz.f110.body) (m:Nat) (w0:World) (fn:FuncId) (sv:Value) (Bs l D:Nat) (hBl:Bs≠l) (hDl:D≠l) (hDB:D≠Bs) (h0B:w0.heap.size≤Bs) (h0l:w0.heap.size≤l)
 (N:Nat) (hN:N≤1000000000) (ss:List Link) (x:Link) (W:World) (h:ApAt encLink 6 48 138 (recAp asg bod fn sv Bs D .ready none) w0 Bs l D ss W) (hlen:ss.length<N):
 YieldAt Fence.wide m Tryz.prog l #[.agg #[.int .i64 x.src.pit,.int .i64 x.src.layer,.int .i64 x.dst.pit,.int .i64 x.dst.layer,.int .i64 x.most,.int .i64 x.by_]] W fun e W'=>e = .returned (.bool true)∧ApAt encLink 6 48 138 (recAp asg bod fn sv Bs D .ready none) w0 Bs l D (ss ++ [x]) W'∧KeepsWalks W W'∧W.heap.size≤W'.heap.size∧∀ k,k<W.heap.size→¬Touch 48 W Bs l k→W'.heap[k]? = W.heap[k]? ∧¬Touch 48 W' Bs l k:=by
 obtain ⟨A,c,hv,hrow⟩:=h.box
 refine ⟨fn,#[.slice none 0 0,sv,.pointer (some ⟨Bs,0,none⟩),undef,.slice none 0 0,undef,sv,.agg #[.int .i64 x.src.pit,.int .i64 x.src.layer,.int .i64 x.dst.pit,.int .i64 x.dst.layer,.int .i64 x.most,.int .i64 x.by_],undef,undef,undef,undef,undef],asgOf Tryz.f110.body,bodOf Tryz.f110.body,by rw [←hasg,←hbod];simpa [recAp] using run_yield (P:=Tryz.prog) (args:=#[.agg #[.int .i64 x.src.pit,.int .i64 x.src.layer,.int .i64 x.dst.pit,.int .i64 x.dst.layer,.int .i64 x.most,.int .i64 x.by_]]) h.L rfl,roundIn_of_wpIn trivial ?_⟩
 have hl:l<W.heap.size:=(Array.getElem?_eq_some_iff.1 h.L).1
 have hBs:Bs<W.heap.size:=(Array.getElem?_eq_some_iff.1 hv).1
 have hD:D<W.heap.size:=(Array.getElem?_eq_some_iff.1 h.K).1
 obtain ⟨W1,hW1⟩:∃ W1,W.alloc (.cells #[.int .i64 x.src.pit,.int .i64 x.src.layer,.int .i64 x.dst.pit,.int .i64 x.dst.layer,.int .i64 x.most,.int .i64 x.by_] 138)=W1:=⟨_,rfl⟩
 have hg1:W.grownBy W1 none:=by rw [←hW1];exact World.grownBy_alloc _ _ _
 have hs1:W1.heap.size=W.heap.size+1:=by rw [←hW1];simp
 have hL1:W1.heap[l]? = some (.loop (recAp asg bod fn sv Bs D .ready none)):=by rw [←hW1];exact (Below.heap_alloc _ _ l hl).trans h.L
 have hbr:=run_beginRound (P:=Tryz.prog) hL1 rfl
 obtain ⟨W2,hW2⟩:∃ W2,W1.putObj l (.loop { recAp asg bod fn sv Bs D .ready none with state:=.busy })=W2:=⟨_,rfl⟩
 rw [hW2] at hbr
 have hg2:W1.grownBy W2 (some l):=by rw [←hW2];exact grownBy_putObj' _ _ _
 have hk2:KeepsWalks W W2:=by rw [←hW2];exact (hW1 ▸ KeepsWalks.alloc W _).trans (KeepsWalks.putObj _ hL1 rfl)
 have hs2:W2.heap.size=W.heap.size+1:=by rw [←hW2];simp [hs1]
 have hv1:W1.heap[Bs]? = some (.cells #[.slice A ss.length c] 48 (0,0)):=by rw [←hW1];exact (Below.heap_alloc _ _ Bs hBs).trans hv
 have hK1:W1.heap[D]? = some (.deferred (some [])):=by rw [←hW1];exact (Below.heap_alloc _ _ D hD).trans h.K
 have hv2:W2.heap[Bs]? = some (.cells #[.slice A ss.length c] 48 (0,0)):=by rw [←hW2];exact (World.putObj_heap_other hBl).trans hv1
 have hK2:W2.heap[D]? = some (.deferred (some [])):=by rw [←hW2];exact (World.putObj_heap_other hDl).trans hK1
 have hL2:W2.heap[l]? = some (.loop { recAp asg bod fn sv Bs D .ready none with state:=.busy }):=by rw [←hW2];exact World.putObj_heap_same (by omega)
 have hx2:W2.heap[W.heap.size]? = some (.cells #[.int .i64 x.src.pit,.int .i64 x.src.layer,.int .i64 x.dst.pit,.int .i64 x.dst.layer,.int .i64 x.most,.int .i64 x.by_] 138 (0,0)):=by rw [←hW2];refine (World.putObj_heap_other (by omega)).trans ?_;rw [←hW1];exact World.alloc_heap_new W _
 have hrow1:Own encLink 6 138 w0.heap.size W1 A ss.length c ss:=by rw [←hW1];exact hrow.alloc _
 have hrow2:Own encLink 6 138 w0.heap.size W2 A ss.length c ss:=hrow1.kept hg2 (hrow1.ne hL1 (fun cur e=>by cases e))
 have hb1:Below w0.heap.size w0 W1:=by rw [←hW1];exact h.below.alloc h.below.size _
 have hb2:Below w0.heap.size w0 W2:=hb1.grown hg2 hb1.size (fun k e=>by cases e;exact h0l)
 obtain ⟨hc2,hf2⟩:=cell_of_box' hv2
 have hxc:∀ j u,(encLink x)[j]? = some u→W2.cell? ⟨W.heap.size,j,none⟩=some u:=by
  intro j u hu
  simp only [World.cell?,hx2]
  simpa [encLink] using hu
 have x0:W2.cell? ⟨W.heap.size,0,none⟩=some (.int .i64 x.src.pit):=hxc 0 _ rfl
 have x1:W2.cell? ⟨W.heap.size,1,none⟩=some (.int .i64 x.src.layer):=hxc 1 _ rfl
 have x2:W2.cell? ⟨W.heap.size,2,none⟩=some (.int .i64 x.dst.pit):=hxc 2 _ rfl
 have x3:W2.cell? ⟨W.heap.size,3,none⟩=some (.int .i64 x.dst.layer):=hxc 3 _ rfl
 have x4:W2.cell? ⟨W.heap.size,4,none⟩=some (.int .i64 x.most):=hxc 4 _ rfl
 have x5:W2.cell? ⟨W.heap.size,5,none⟩=some (.int .i64 x.by_):=hxc 5 _ rfl
 clear hxc hx2 hL1 hv1 hK1 hrow1 hrow hW2
 clear hasg hbod
 unfold asgOf Tryz.f110
 dsimp only
 gi_wp2_with (rw [Oper.semAt_eq _ _ _ (fun c h=>by cases h)];go_simp;try go_bits)
 have hrd:Rd encLink 6 (W2.alloc (.cells #[.int .i64 x.src.pit,.int .i64 x.src.layer,.int .i64 x.dst.pit,.int .i64 x.dst.layer,.int .i64 x.most,.int .i64 x.by_] 138)) (some ⟨W.heap.size+1,0,none⟩) 1 1 [x]:=by
  have:=Rd.single (enc:=encLink) (k:=6) W2 #[.int .i64 x.src.pit,.int .i64 x.src.layer,.int .i64 x.dst.pit,.int .i64 x.dst.layer,.int .i64 x.most,.int .i64 x.by_] 138 [x] 1 rfl (by omega) (fun _=>rfl) (by simp [encLink])
  rwa [hs2] at this
 unfold bodOf
 dsimp only
 gi_wp2_with (first
  | (gi_at_builtin;refine wpListIn_append_src elLink (fun _=>rfl) oneLink rfl _ _ rfl (some ⟨W.heap.size+1,0,none⟩) 1 1 [x] rfl rfl (hrow2.alloc _) hrd (by omega) (by omega) (by have:=hb2.size;simp;omega) ?_;intro A' c' w3 hown' hg3 hA3
     have hv3:w3.heap[Bs]? = some (.cells #[.slice A ss.length c] 48 (0,0)):=(hg3.block Bs (by simp;omega) (hrow2.ne' hv2 (fun cur e=>by cases e))).trans ((Below.heap_alloc _ _ Bs (by omega)).trans hv2)
     obtain ⟨hc3,hf3⟩:=cell_of_box' hv3
     go_frame)
  | (rw [Oper.semAt_eq _ _ _ (fun c h=>by cases h)];go_simp;try go_bits))
 have hg3':(W2.alloc (.cells #[.int .i64 x.src.pit,.int .i64 x.src.layer,.int .i64 x.dst.pit,.int .i64 x.dst.layer,.int .i64 x.most,.int .i64 x.by_] 138)).grownBy w3 (blockOf A):=hg3
 have hl2:l<W2.heap.size:=(by omega)
 have hD2:D<W2.heap.size:=(by omega)
 have hL3:w3.heap[l]? = some (.loop { recAp asg bod fn sv Bs D .ready none with state:=.busy }):=(hg3'.block l (by simp;omega) (hrow2.ne' hL2 (fun cur e=>by cases e))).trans ((Below.heap_alloc _ _ l hl2).trans hL2)
 have hK3:w3.heap[D]? = some (.deferred (some [])):=(hg3'.block D (by simp;omega) (hrow2.ne' hK2 (fun cur e=>by cases e))).trans ((Below.heap_alloc _ _ D hD2).trans hK2)
 obtain ⟨w4,hw4⟩:∃ w4,w3.setCell ⟨Bs,0,none⟩ (.slice A' (ss.length+1) c')=w4:=⟨_,rfl⟩
 rw [hw4]
 have hg4:w3.grownBy w4 (some Bs):=by rw [←hw4];exact grownBy_setCell' _ _ _ _
 have hv4:w4.heap[Bs]? = some (.cells #[.slice A' (ss.length+1) c'] 48 (0,0)):=by rw [←hw4];exact heap_setCell_box' _ hv3
 have hL4:w4.heap[l]? = some (.loop { recAp asg bod fn sv Bs D .ready none with state:=.busy }):=(hg4.block l (Array.getElem?_eq_some_iff.1 hL3).1 (fun e=>hBl (by cases e;rfl))).trans hL3
 have hK4:w4.heap[D]? = some (.deferred (some [])):=(hg4.block D (Array.getElem?_eq_some_iff.1 hK3).1 (fun e=>hDB (by cases e;rfl))).trans hK3
 have hrow4:=hown'.kept hg4 (hown'.ne hv3 (fun cur e=>by cases e))
 have hl4:l<w4.heap.size:=(Array.getElem?_eq_some_iff.1 hL4).1
 have hb3:Below w0.heap.size w0 w3:=(hb2.alloc hb2.size _).grown hg3' (by have:=hb2.size;simp;omega) (fun k e=>hrow2.ltB k e)
 have hb4:Below w0.heap.size w0 w4:=hb3.grown hg4 hb3.size (fun k e=>by cases e;exact h0B)
 have hk4:KeepsWalks W w4:=((hk2.trans (KeepsWalks.alloc _ _)).trans (KeepsWalks.of_grownBy hg3' (hrow2.alloc _).not_walk)).trans (by rw [←hw4];exact KeepsWalks.setCell _ _ _)
 have hv5:=(World.putObj_heap_other (o:=.loop { { recAp asg bod fn sv Bs D .ready none with state:=.busy } with state:=if (none:Option Code).isNone then .ready else .done,pending:=none }) hBl).trans hv4
 have hsz4:W.heap.size≤(w4.putObj l (.loop { { recAp asg bod fn sv Bs D .ready none with state:=.busy } with state:=if (none:Option Code).isNone then .ready else .done,pending:=none })).heap.size:=by
  have h1:=hg3'.size;have h2:=hg4.size;simp at h1 ⊢;omega
 have hstd:∀ k,k<W.heap.size→¬Touch 48 W Bs l k→(w4.putObj l (.loop { { recAp asg bod fn sv Bs D .ready none with state:=.busy } with state:=if (none:Option Code).isNone then .ready else .done,pending:=none })).heap[k]? = W.heap[k]? ∧¬Touch 48 (w4.putObj l (.loop { { recAp asg bod fn sv Bs D .ready none with state:=.busy } with state:=if (none:Option Code).isNone then .ready else .done,pending:=none })) Bs l k:=by
  intro k hk hT
  have n1:k≠Bs:=fun e=>hT (.inl e)
  have n2:k≠l:=fun e=>hT (.inr (.inl e))
  have n3:blockOf A≠some k:=fun e=>hT (.inr (.inr ⟨A,_,_,hv,e⟩))
  have h1:=hg3'.size
  have hs3:k<w3.heap.size:=by simp at h1;omega
  refine ⟨(World.putObj_heap_other n2).trans ((hg4.block k hs3 (fun e=>n1 (by cases e;rfl))).trans ((hg3'.block k (by simp;omega) (fun e=>n3 e.symm)).trans ((Below.heap_alloc _ _ k (by omega)).trans ((hg2.block k (by omega) (fun e=>n2 (by cases e;rfl))).trans (hg1.block k hk (by simp)))))),?_⟩
  rintro (e|e|⟨A2,n2',c2,hb2',e⟩)
  · exact n1 e
  · exact n2 e
  · rw [hv5] at hb2'
    simp at hb2'
    obtain ⟨rfl,_⟩:=hb2'
    rcases hA3 with h|h
    · exact n3 (h.symm.trans e)
    · rw [h] at e
      simp at e
      omega
 clear hw4
 refine ⟨_,_,run_endRound none hL4,rfl,⟨⟨A',c',(World.putObj_heap_other hBl).trans (by rw [List.length_append];exact hv4),?_⟩,World.putObj_heap_same hl4,(World.putObj_heap_other hDl).trans hK4,hb4.grown (grownBy_putObj' _ _ _) hb4.size (fun k e=>by cases e;exact h0l)⟩,hk4.trans (KeepsWalks.putObj _ hL4 rfl),hsz4,hstd⟩
 have:=hrow4.kept (grownBy_putObj' w4 l (.loop { { recAp asg bod fn sv Bs D .ready none with state:=.busy } with state:=if (none:Option Code).isNone then .ready else .done,pending:=none })) (hrow4.ne hL4 (fun cur e=>by cases e))
 rw [List.length_append]
 exact this
theorem ent_keysb:∀ args w,(callFunc 135 args).run Tryz.prog w = .ok (.enter 135 args) w:=enters_of Tryz.func135 (by kernel_rfl) rfl
theorem Keys_b (b:Nat) (w:World):Calls Tryz.prog 91 #[.map (some b)] w fun e w'=>e = .returned (.func (.func 135) #[] #[.pointer (some ⟨w.heap.size,0,none⟩)])∧w.alloc (.cells #[.map (some b)] 115)=w':=by
 go_enter Tryz.func91,Tryz.ntmps91
 go_wp2
 go_ret
 exact ⟨rfl,rfl⟩
theorem keys_givesb (n b:Nat) (m:List (Place×Bool)) (w:World) (h:MapP eBool w b m):
 SeqGives Fence.wide n Tryz.prog 135 #[.pointer (some ⟨w.heap.size,0,none⟩)] (fun x:Place=> .agg #[.int .i64 x.pit,.int .i64 x.layer]) (fun ss=>ss.Perm (m.map (·.1))) m.length (w.alloc (.cells #[.map (some b)] 115)):=fun l J W hW hJ hY h0=>
 Keys1b n l w.heap.size b m J hY W hJ ((hW.cell (p:=⟨w.heap.size,0,none⟩) (by simp)).trans (by simp)) ((h.alloc _).below hW (Nat.lt_trans h.lt (by simp))) h0
theorem ent_keysa:∀ args w,(callFunc 137 args).run Tryz.prog w = .ok (.enter 137 args) w:=enters_of Tryz.func137 (by kernel_rfl) rfl
theorem Keys_a (b:Nat) (w:World):Calls Tryz.prog 94 #[.map (some b)] w fun e w'=>e = .returned (.func (.func 137) #[] #[.pointer (some ⟨w.heap.size,0,none⟩)])∧w.alloc (.cells #[.map (some b)] 116)=w':=by
 go_enter Tryz.func94,Tryz.ntmps94
 go_wp2
 go_ret
 exact ⟨rfl,rfl⟩
theorem keys_givesa (n b:Nat) (m:List (Place×Admit)) (w:World) (h:MapP eAdmit w b m):
 SeqGives Fence.wide n Tryz.prog 137 #[.pointer (some ⟨w.heap.size,0,none⟩)] (fun x:Place=> .agg #[.int .i64 x.pit,.int .i64 x.layer]) (fun ss=>ss.Perm (m.map (·.1))) m.length (w.alloc (.cells #[.map (some b)] 116)):=fun l J W hW hJ hY h0=>
 Keys1a n l w.heap.size b m J hY W hJ ((hW.cell (p:=⟨w.heap.size,0,none⟩) (by simp)).trans (by simp)) ((h.alloc _).below hW (Nat.lt_trans h.lt (by simp))) h0
end Go.Proofs.YtejjplhknacoiaaGreatDoor
end
section
namespace Go.Proofs.YtejjplhknacoiaaGreatDoor
open Go.RowKit Go.Proofs
def inB (n low high:Int):Bool:=decide (low≤n)&&decide (n≤high)
theorem inB_iff {n low high:Int} : inB n low high=true↔low≤n∧n≤high:=by simp [inB]
theorem inB_no {n low high:Int} : inB n low high=false ↔ ¬(low≤n∧n≤high):=by
 rw [←inB_iff];simp
def isPlaceB (p l:Int):Bool:=inB p 1 20&&inB l 1 50
theorem in_any (n low high:Int) (w:World):
 Calls Tryz.prog 41 #[.int .i64 n,.int .i64 low,.int .i64 high] w fun e w'=>e = .returned (.bool (inB n low high))∧w'=w:=by
 by_cases h:low≤n
 · go_enter Tryz.func41,Tryz.ntmps41
   go_wp2
   go_ret
   exact ⟨by simp [inB,h],rfl⟩
 · go_enter Tryz.func41,Tryz.ntmps41
   go_wp2
   go_ret
   refine ⟨?_,rfl⟩
   have:inB n low high=false:=inB_no.2 (by omega)
   rw [this];rfl
theorem isPlace_any (p l:Int) (w:World):
 Calls Tryz.prog 42 #[.agg #[.int .i64 p,.int .i64 l]] w fun e w'=>e = .returned (.bool (isPlaceB p l))∧Below w.heap.size w w':=by
 cases hp:inB p 1 20
 all_goals
  go_enter Tryz.func42,Tryz.ntmps42
  go_wp2_with (go_at_call 41;refine (in_any _ _ _ _).mono ?_;rintro e w' ⟨rfl,rfl⟩;try rw [hp])
  go_ret
  exact ⟨by simp [isPlaceB,hp],(Below.refl _ _).alloc (Nat.le_refl _) _⟩
theorem place_any (a b c d e f g h i j:Int) (w:World):
 Calls Tryz.prog 43 #[.agg #[.int .i64 a,.int .i64 b,.int .u8 c,.int .i64 d,.int .i64 e,.int .i64 f,.int .i64 g,.int .i64 h,.int .i64 i,.int .i64 j]] w
  fun e' w'=>e' = .returned (.agg #[.int .i64 d,.int .i64 e])∧Below w.heap.size w w':=by
 go_enter Tryz.func43,Tryz.ntmps43
 go_wp2
 exact bodyPost_ret (v:=.agg #[.int .i64 d,.int .i64 e]) (by simp [results,Tryz.results43,go_sem]) rfl ⟨rfl,((Below.refl _ _).alloc (Nat.le_refl _) _).alloc (by simp) _⟩
theorem lower_any (a b c d e f g h i j:Int) (w:World):
 Calls Tryz.prog 44 #[.agg #[.int .i64 a,.int .i64 b,.int .u8 c,.int .i64 d,.int .i64 e,.int .i64 f,.int .i64 g,.int .i64 h,.int .i64 i,.int .i64 j]] w
  fun e' w'=>e' = .returned (.agg #[.int .i64 d,.int .i64 f])∧Below w.heap.size w w':=by
 go_enter Tryz.func44,Tryz.ntmps44
 go_wp2
 exact bodyPost_ret (v:=.agg #[.int .i64 d,.int .i64 f]) (by simp [results,Tryz.results44,go_sem]) rfl ⟨rfl,((Below.refl _ _).alloc (Nat.le_refl _) _).alloc (by simp) _⟩
def okT (x:Trace):Bool:=
 (inB x.id 1 1000000&&inB x.known 0 100000) &&
 (if x.kind=4 then inB x.void 1 1000000 else isPlaceB x.pit x.layer) &&
 (if x.kind=1 then isPlaceB x.pit x.lower&&decide (x.lower≠x.layer)
  else if x.kind=2 then inB x.low (-10000) x.high&&decide (x.high≤10000)
  else if x.kind=3 then inB x.cost 1 1000
  else decide (x.kind=4))
def yT (x:Trace):Trace:=
 { id:=x.id,known:=x.known,kind:=x.kind,pit:=if x.kind=4 then 0 else x.pit,layer:=if x.kind=4 then 0 else x.layer,
   lower:=if x.kind=1 then x.lower else 0,low:=if x.kind=2 then x.low else 0,high:=if x.kind=2 then x.high else 0,
   cost:=if x.kind=3 then x.cost else 0,void:=if x.kind=4 then x.void else 0 }
def checkTrace (x:Trace):Int:=if okT x&&eqTrace x (yT x) then 0 else 1
open Go.Shelf
def PredB {α:Type} (P:Program) (g:Nat) (lb:Array Value) (enc:α→Value) (p:α→Bool) (w:World):Prop:=
 ∀ (W:World) (x:α),Below w.heap.size w W→Calls P g (#[enc x]++lb) W fun e w'=>e = .returned (.bool (p x))∧Below w.heap.size w w'
theorem PredB.drewN {α:Type} {P:Program} {g:Nat} {lb:Array Value} {enc:α→Value} {p:α→Bool} {w:World} (h:PredB P g lb enc p w) (m:Nat):PredB P g lb enc p (w.drewN m):=
 fun W x hb=>(h W x (below_step hb (Nat.le_refl _) (below_drewN' (Below.refl _ _) m))).mono fun _ _ ⟨he,hb'⟩=>⟨he,⟨hb'.os,hb'.tape,hb'.output,hb'.size,hb'.block⟩⟩
def idxI {α:Type} (p:α→Bool) (l:List α):Int:=match l.findIdx? p with|some i=>(i:Int)|none=> -1
theorem idxI_hit {α:Type} (p:α→Bool) (l:List α) (k:Nat) (x:α) (hx:l[k]? = some x) (hp:p x=true) (hno:∀ j y,j<k→l[j]? = some y→p y=false):idxI p l=(k:Int):=by
 have h:l.findIdx? p=some k:=by
  rw [List.findIdx?_eq_some_iff_getElem]
  have hk:=(List.getElem?_eq_some_iff.1 hx).1
  refine ⟨hk,?_,fun j hj=> ?_⟩
  · have:=(List.getElem?_eq_some_iff.1 hx).2;rw [this];exact hp
  · have:=hno j l[j] hj (List.getElem?_eq_getElem _)
    simp [this]
 simp [idxI,h]
theorem idxI_miss {α:Type} (p:α→Bool) (l:List α) (hno:∀ (j:Nat) y,l[j]? = some y→p y=false):idxI p l = -1:=by
 have h:l.findIdx? p=none:=by
  rw [List.findIdx?_eq_none_iff]
  intro x hx
  obtain ⟨i,hi,h⟩:=List.getElem_of_mem hx
  exact hno i x (by rw [List.getElem?_eq_getElem hi,h])
 simp [idxI,h]
theorem idxI_any {α:Type} (p:α→Bool) (l:List α):decide (0≤idxI p l)=l.any p:=by
 unfold idxI
 cases h:l.findIdx? p with
 | none=>
   rw [List.findIdx?_eq_none_iff] at h
   have:l.any p=false:=by simp only [List.any_eq_false];intro x hx;simp [h x hx]
   simp [this]
 | some i=>
   rw [List.findIdx?_eq_some_iff_getElem] at h
   obtain ⟨hi,hp,_⟩:=h
   have:l.any p=true:=List.any_eq_true.2 ⟨l[i],List.getElem_mem hi,hp⟩
   simp [this]
theorem IndexFunc_Trace (g:Nat) (lb:Array Value) (eg:∀ args w,(callFunc g args).run Tryz.prog w = .ok (.enter g args) w) (p:Trace→Bool) (A:Option Addr) (n c:Nat) (l:List Trace) (w:World)
 (hl:Rd encTrace 10 w A n c l) (hp:PredB Tryz.prog g lb (fun x=> .agg (encTrace x).toArray) p w):
 Calls Tryz.prog 131 #[.slice A n c,.func (.func g) #[] lb] w fun e w'=>e = .returned (.int .i64 (idxI p l))∧Below w.heap.size w w':=by
 have hbig:=hl.big
 go_enter Tryz.func131,Tryz.ntmps131
 go_wp2
 go_loopw [5,8] (fun _ i wr=> ∃ k:Nat,k≤n∧i = .int .i64 k∧Below w.heap.size w wr∧Hid (∀ j x,j<k→l[j]? = some x→p x=false)) (fun _ i _=>n-(intOf i).toNat)
 case atStart=>exact ⟨0,Nat.zero_le _,rfl,Below.refl _ _,fun j x h=>absurd h (by omega)⟩
 case round=>
  obtain ⟨k,hk,rfl,hb,hno⟩:=hrel
  by_cases hlt:k<n
  · obtain ⟨b,off,x,rfl,hbw,hx,hcell⟩:=(hl.below hb (Nat.le_refl _)).one hlt
    have hlen:=hl.len
    have c0:wr.cell? ⟨b,off+k * 10,none⟩=some (.int .i64 x.id):=hcell 0 _ rfl
    have c1:wr.cell? ⟨b,off+k * 10+1,none⟩=some (.int .i64 x.known):=hcell 1 _ rfl
    have c2:wr.cell? ⟨b,off+k * 10+2,none⟩=some (.int .u8 x.kind):=hcell 2 _ rfl
    have c3:wr.cell? ⟨b,off+k * 10+3,none⟩=some (.int .i64 x.pit):=hcell 3 _ rfl
    have c4:wr.cell? ⟨b,off+k * 10+4,none⟩=some (.int .i64 x.layer):=hcell 4 _ rfl
    have c5:wr.cell? ⟨b,off+k * 10+5,none⟩=some (.int .i64 x.lower):=hcell 5 _ rfl
    have c6:wr.cell? ⟨b,off+k * 10+6,none⟩=some (.int .i64 x.low):=hcell 6 _ rfl
    have c7:wr.cell? ⟨b,off+k * 10+7,none⟩=some (.int .i64 x.high):=hcell 7 _ rfl
    have c8:wr.cell? ⟨b,off+k * 10+8,none⟩=some (.int .i64 x.cost):=hcell 8 _ rfl
    have c9:wr.cell? ⟨b,off+k * 10+9,none⟩=some (.int .i64 x.void):=hcell 9 _ rfl
    have hcall:=hp wr x hb
    simp only [encTrace] at hcall
    clear hcell hp hl
    cases hq:p x with
    | true=>
      rw [hq] at hcall
      have HQ:=Lib.hid hq
      have HX:=Lib.hid hx
      have HL:=Lib.hid hlen
      clear hq hx hlen
      go_wp2_with (go_at_fn g;refine hcall.mono ?_;rintro e w' ⟨rfl,hb'⟩)
      go_ret
      refine ⟨?_,hb'⟩
      rw [idxI_hit p l k x HX.out HQ.out hno.out]
      rfl
    | false=>
      rw [hq] at hcall
      have HQ:=Lib.hid hq
      have HX:=Lib.hid hx
      have HL:=Lib.hid hlen
      clear hq hx hlen
      go_wp2_with (go_at_fn g;refine hcall.mono ?_;rintro e w' ⟨rfl,hb'⟩)
      go_roundw
      case rel=>
       refine ⟨k+1,by omega,by go_num,hb',fun j y hj hy=> ?_⟩
       by_cases e:j=k
       · subst e
         rw [HX.out] at hy
         cases hy
         exact HQ.out
       · exact hno.out j y (by omega) hy
      case measure=>simp [intOf];omega
  · have:k=n:=by omega
    subst this
    have hlen:=hl.len
    go_wp2
    go_ret
    refine ⟨?_,hb⟩
    rw [idxI_miss p l (fun j x hj=>hno.out j x (by have:=(List.getElem?_eq_some_iff.1 hj).1;omega) hj)]
    rfl
theorem ContainsFunc_Trace (g:Nat) (lb:Array Value) (eg:∀ args w,(callFunc g args).run Tryz.prog w = .ok (.enter g args) w) (p:Trace→Bool) (A:Option Addr) (n c:Nat) (l:List Trace) (w:World)
 (hl:Rd encTrace 10 w A n c l) (hp:PredB Tryz.prog g lb (fun x=> .agg (encTrace x).toArray) p w):
 Calls Tryz.prog 132 #[.slice A n c,.func (.func g) #[] lb] w fun e w'=>e = .returned (.bool (l.any p))∧Below w.heap.size w w':=by
 have hI:=idxI_any p l
 go_enter Tryz.func132,Tryz.ntmps132
 go_wp2_with (go_at_call 131;refine (IndexFunc_Trace g lb eg p A n c l _ hl hp).mono ?_;rintro e w' ⟨rfl,hb'⟩)
 go_ret
 exact ⟨by rw [←hI];rfl,hb'⟩
theorem IndexFunc_Bond (g:Nat) (lb:Array Value) (eg:∀ args w,(callFunc g args).run Tryz.prog w = .ok (.enter g args) w) (p:Bond→Bool) (A:Option Addr) (n c:Nat) (l:List Bond) (w:World)
 (hl:Rd encBond 5 w A n c l) (hp:PredB Tryz.prog g lb (fun x=> .agg (encBond x).toArray) p w):
 Calls Tryz.prog 130 #[.slice A n c,.func (.func g) #[] lb] w fun e w'=>e = .returned (.int .i64 (idxI p l))∧Below w.heap.size w w':=by
 have hbig:=hl.big
 go_enter Tryz.func130,Tryz.ntmps130
 go_wp2
 go_loopw [5,8] (fun _ i wr=> ∃ k:Nat,k≤n∧i = .int .i64 k∧Below w.heap.size w wr∧Hid (∀ j x,j<k→l[j]? = some x→p x=false)) (fun _ i _=>n-(intOf i).toNat)
 case atStart=>exact ⟨0,Nat.zero_le _,rfl,Below.refl _ _,fun j x h=>absurd h (by omega)⟩
 case round=>
  obtain ⟨k,hk,rfl,hb,hno⟩:=hrel
  by_cases hlt:k<n
  · obtain ⟨b,off,x,rfl,hbw,hx,hcell⟩:=(hl.below hb (Nat.le_refl _)).one hlt
    have hlen:=hl.len
    have c0:wr.cell? ⟨b,off+k * 5,none⟩=some (.int .i64 x.a.pit):=hcell 0 _ rfl
    have c1:wr.cell? ⟨b,off+k * 5+1,none⟩=some (.int .i64 x.a.layer):=hcell 1 _ rfl
    have c2:wr.cell? ⟨b,off+k * 5+2,none⟩=some (.int .i64 x.b.pit):=hcell 2 _ rfl
    have c3:wr.cell? ⟨b,off+k * 5+3,none⟩=some (.int .i64 x.b.layer):=hcell 3 _ rfl
    have c4:wr.cell? ⟨b,off+k * 5+4,none⟩=some (.int .i64 x.by_):=hcell 4 _ rfl
    have hcall:=hp wr x hb
    simp only [encBond] at hcall
    clear hcell hp hl
    cases hq:p x with
    | true=>
      rw [hq] at hcall
      have HQ:=Lib.hid hq
      have HX:=Lib.hid hx
      have HL:=Lib.hid hlen
      clear hq hx hlen
      go_wp2_with (go_at_fn g;refine hcall.mono ?_;rintro e w' ⟨rfl,hb'⟩)
      go_ret
      refine ⟨?_,hb'⟩
      rw [idxI_hit p l k x HX.out HQ.out hno.out]
      rfl
    | false=>
      rw [hq] at hcall
      have HQ:=Lib.hid hq
      have HX:=Lib.hid hx
      have HL:=Lib.hid hlen
      clear hq hx hlen
      go_wp2_with (go_at_fn g;refine hcall.mono ?_;rintro e w' ⟨rfl,hb'⟩)
      go_roundw
      case rel=>
       refine ⟨k+1,by omega,by go_num,hb',fun j y hj hy=> ?_⟩
       by_cases e:j=k
       · subst e
         rw [HX.out] at hy
         cases hy
         exact HQ.out
       · exact hno.out j y (by omega) hy
      case measure=>simp [intOf];omega
  · have:k=n:=by omega
    subst this
    have hlen:=hl.len
    go_wp2
    go_ret
    refine ⟨?_,hb⟩
    rw [idxI_miss p l (fun j x hj=>hno.out j x (by have:=(List.getElem?_eq_some_iff.1 hj).1;omega) hj)]
    rfl
theorem ContainsFunc_Bond (g:Nat) (lb:Array Value) (eg:∀ args w,(callFunc g args).run Tryz.prog w = .ok (.enter g args) w) (p:Bond→Bool) (A:Option Addr) (n c:Nat) (l:List Bond) (w:World)
 (hl:Rd encBond 5 w A n c l) (hp:PredB Tryz.prog g lb (fun x=> .agg (encBond x).toArray) p w):
 Calls Tryz.prog 83 #[.slice A n c,.func (.func g) #[] lb] w fun e w'=>e = .returned (.bool (l.any p))∧Below w.heap.size w w':=by
 have hI:=idxI_any p l
 go_enter Tryz.func83,Tryz.ntmps83
 go_wp2_with (go_at_call 130;refine (IndexFunc_Bond g lb eg p A n c l _ hl hp).mono ?_;rintro e w' ⟨rfl,hb'⟩)
 go_ret
 exact ⟨by rw [←hI];rfl,hb'⟩
theorem IndexFunc_Admit (g:Nat) (lb:Array Value) (eg:∀ args w,(callFunc g args).run Tryz.prog w = .ok (.enter g args) w) (p:Admit→Bool) (A:Option Addr) (n c:Nat) (l:List Admit) (w:World)
 (hl:Rd encAdmit 4 w A n c l) (hp:PredB Tryz.prog g lb (fun x=> .agg (encAdmit x).toArray) p w):
 Calls Tryz.prog 140 #[.slice A n c,.func (.func g) #[] lb] w fun e w'=>e = .returned (.int .i64 (idxI p l))∧Below w.heap.size w w':=by
 have hbig:=hl.big
 go_enter Tryz.func140,Tryz.ntmps140
 go_wp2
 go_loopw [5,8] (fun _ i wr=> ∃ k:Nat,k≤n∧i = .int .i64 k∧Below w.heap.size w wr∧Hid (∀ j x,j<k→l[j]? = some x→p x=false)) (fun _ i _=>n-(intOf i).toNat)
 case atStart=>exact ⟨0,Nat.zero_le _,rfl,Below.refl _ _,fun j x h=>absurd h (by omega)⟩
 case round=>
  obtain ⟨k,hk,rfl,hb,hno⟩:=hrel
  by_cases hlt:k<n
  · obtain ⟨b,off,x,rfl,hbw,hx,hcell⟩:=(hl.below hb (Nat.le_refl _)).one hlt
    have hlen:=hl.len
    have c0:wr.cell? ⟨b,off+k * 4,none⟩=some (.int .i64 x.place.pit):=hcell 0 _ rfl
    have c1:wr.cell? ⟨b,off+k * 4+1,none⟩=some (.int .i64 x.place.layer):=hcell 1 _ rfl
    have c2:wr.cell? ⟨b,off+k * 4+2,none⟩=some (.int .i64 x.cost):=hcell 2 _ rfl
    have c3:wr.cell? ⟨b,off+k * 4+3,none⟩=some (.int .i64 x.by_):=hcell 3 _ rfl
    have hcall:=hp wr x hb
    simp only [encAdmit] at hcall
    clear hcell hp hl
    cases hq:p x with
    | true=>
      rw [hq] at hcall
      have HQ:=Lib.hid hq
      have HX:=Lib.hid hx
      have HL:=Lib.hid hlen
      clear hq hx hlen
      go_wp2_with (go_at_fn g;refine hcall.mono ?_;rintro e w' ⟨rfl,hb'⟩)
      go_ret
      refine ⟨?_,hb'⟩
      rw [idxI_hit p l k x HX.out HQ.out hno.out]
      rfl
    | false=>
      rw [hq] at hcall
      have HQ:=Lib.hid hq
      have HX:=Lib.hid hx
      have HL:=Lib.hid hlen
      clear hq hx hlen
      go_wp2_with (go_at_fn g;refine hcall.mono ?_;rintro e w' ⟨rfl,hb'⟩)
      go_roundw
      case rel=>
       refine ⟨k+1,by omega,by go_num,hb',fun j y hj hy=> ?_⟩
       by_cases e:j=k
       · subst e
         rw [HX.out] at hy
         cases hy
         exact HQ.out
       · exact hno.out j y (by omega) hy
      case measure=>simp [intOf];omega
  · have:k=n:=by omega
    subst this
    have hlen:=hl.len
    go_wp2
    go_ret
    refine ⟨?_,hb⟩
    rw [idxI_miss p l (fun j x hj=>hno.out j x (by have:=(List.getElem?_eq_some_iff.1 hj).1;omega) hj)]
    rfl
theorem ContainsFunc_Admit (g:Nat) (lb:Array Value) (eg:∀ args w,(callFunc g args).run Tryz.prog w = .ok (.enter g args) w) (p:Admit→Bool) (A:Option Addr) (n c:Nat) (l:List Admit) (w:World)
 (hl:Rd encAdmit 4 w A n c l) (hp:PredB Tryz.prog g lb (fun x=> .agg (encAdmit x).toArray) p w):
 Calls Tryz.prog 100 #[.slice A n c,.func (.func g) #[] lb] w fun e w'=>e = .returned (.bool (l.any p))∧Below w.heap.size w w':=by
 have hI:=idxI_any p l
 go_enter Tryz.func100,Tryz.ntmps100
 go_wp2_with (go_at_call 140;refine (IndexFunc_Admit g lb eg p A n c l _ hl hp).mono ?_;rintro e w' ⟨rfl,hb'⟩)
 go_ret
 exact ⟨by rw [←hI];rfl,hb'⟩
theorem IndexFunc_Bound (g:Nat) (lb:Array Value) (eg:∀ args w,(callFunc g args).run Tryz.prog w = .ok (.enter g args) w) (p:Bound→Bool) (A:Option Addr) (n c:Nat) (l:List Bound) (w:World)
 (hl:Rd encBound 4 w A n c l) (hp:PredB Tryz.prog g lb (fun x=> .agg (encBound x).toArray) p w):
 Calls Tryz.prog 141 #[.slice A n c,.func (.func g) #[] lb] w fun e w'=>e = .returned (.int .i64 (idxI p l))∧Below w.heap.size w w':=by
 have hbig:=hl.big
 go_enter Tryz.func141,Tryz.ntmps141
 go_wp2
 go_loopw [5,8] (fun _ i wr=> ∃ k:Nat,k≤n∧i = .int .i64 k∧Below w.heap.size w wr∧Hid (∀ j x,j<k→l[j]? = some x→p x=false)) (fun _ i _=>n-(intOf i).toNat)
 case atStart=>exact ⟨0,Nat.zero_le _,rfl,Below.refl _ _,fun j x h=>absurd h (by omega)⟩
 case round=>
  obtain ⟨k,hk,rfl,hb,hno⟩:=hrel
  by_cases hlt:k<n
  · obtain ⟨b,off,x,rfl,hbw,hx,hcell⟩:=(hl.below hb (Nat.le_refl _)).one hlt
    have hlen:=hl.len
    have c0:wr.cell? ⟨b,off+k * 4,none⟩=some (.int .i64 x.src):=hcell 0 _ rfl
    have c1:wr.cell? ⟨b,off+k * 4+1,none⟩=some (.int .i64 x.dst):=hcell 1 _ rfl
    have c2:wr.cell? ⟨b,off+k * 4+2,none⟩=some (.int .i64 x.most):=hcell 2 _ rfl
    have c3:wr.cell? ⟨b,off+k * 4+3,none⟩=some (.int .i64 x.by_):=hcell 3 _ rfl
    have hcall:=hp wr x hb
    simp only [encBound] at hcall
    clear hcell hp hl
    cases hq:p x with
    | true=>
      rw [hq] at hcall
      have HQ:=Lib.hid hq
      have HX:=Lib.hid hx
      have HL:=Lib.hid hlen
      clear hq hx hlen
      go_wp2_with (go_at_fn g;refine hcall.mono ?_;rintro e w' ⟨rfl,hb'⟩)
      go_ret
      refine ⟨?_,hb'⟩
      rw [idxI_hit p l k x HX.out HQ.out hno.out]
      rfl
    | false=>
      rw [hq] at hcall
      have HQ:=Lib.hid hq
      have HX:=Lib.hid hx
      have HL:=Lib.hid hlen
      clear hq hx hlen
      go_wp2_with (go_at_fn g;refine hcall.mono ?_;rintro e w' ⟨rfl,hb'⟩)
      go_roundw
      case rel=>
       refine ⟨k+1,by omega,by go_num,hb',fun j y hj hy=> ?_⟩
       by_cases e:j=k
       · subst e
         rw [HX.out] at hy
         cases hy
         exact HQ.out
       · exact hno.out j y (by omega) hy
      case measure=>simp [intOf];omega
  · have:k=n:=by omega
    subst this
    have hlen:=hl.len
    go_wp2
    go_ret
    refine ⟨?_,hb⟩
    rw [idxI_miss p l (fun j x hj=>hno.out j x (by have:=(List.getElem?_eq_some_iff.1 hj).1;omega) hj)]
    rfl
theorem ContainsFunc_Bound (g:Nat) (lb:Array Value) (eg:∀ args w,(callFunc g args).run Tryz.prog w = .ok (.enter g args) w) (p:Bound→Bool) (A:Option Addr) (n c:Nat) (l:List Bound) (w:World)
 (hl:Rd encBound 4 w A n c l) (hp:PredB Tryz.prog g lb (fun x=> .agg (encBound x).toArray) p w):
 Calls Tryz.prog 104 #[.slice A n c,.func (.func g) #[] lb] w fun e w'=>e = .returned (.bool (l.any p))∧Below w.heap.size w w':=by
 have hI:=idxI_any p l
 go_enter Tryz.func104,Tryz.ntmps104
 go_wp2_with (go_at_call 141;refine (IndexFunc_Bound g lb eg p A n c l _ hl hp).mono ?_;rintro e w' ⟨rfl,hb'⟩)
 go_ret
 exact ⟨by rw [←hI];rfl,hb'⟩
end Go.Proofs.YtejjplhknacoiaaGreatDoor
end

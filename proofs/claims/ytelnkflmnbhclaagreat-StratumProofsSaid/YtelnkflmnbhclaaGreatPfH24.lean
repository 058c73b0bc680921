/- Contracts that the laws lean on: GrwM, GrwR, Grw, Prf, PrfL. -/
import Derived.Test.YtelnkflmnbhclaaGreatPfH23
import Derived.Test.YtelnkflmnbhclaaGreatPfH22
set_option maxRecDepth 100000
set_option maxHeartbeats 8000000
section
namespace Go.Proofs.YtelnkflmnbhclaaGreat
open Go.RowKit Go.Proofs Go.Shelf
theorem elCut:ElemT Tryz.prog 91 161 1 24:=elemT_of (z:=.agg #[.slice none 0 0]) Tryz.underlying91 (by kernel_rfl) rfl (by decide)
def CutsO (B:Nat) (W:World) (A:Option Addr) (c:Nat) (cuts:List (List Link)) (hs:List Hdr):Prop:=
 Own encHdr 1 161 B W A cuts.length c hs∧∀ (i:Nat) (h:Hdr) (s:List Link),hs[i]? = some h→cuts[i]? = some s→h.n=s.length∧Own encLink 6 74 B W h.A s.length h.c s
def OutAt (ob B:Nat) (W:World) (cuts:List (List Link)):Prop:=∃ A c hs,W.heap[ob]? = some (.cells #[.slice A cuts.length c] 91 (0,0))∧CutsO B W A c cuts hs
def Cutty (ob:Nat) (W:World) (b:Nat):Prop:=b=ob∨∃ cur fr,W.heap[b]? = some (.cells cur 161 fr)
theorem cutty_trans {ob:Nat} {W1 W2 W3:World} (h:GrownT (Cutty ob W1) W1 W2) (k:GrownT (Cutty ob W2) W2 W3):GrownT (Cutty ob W1) W1 W3:=
 ⟨k.os.trans h.os,k.tape.trans h.tape,k.output.trans h.output,Nat.le_trans h.size k.size,fun i hi ht=>by
   have h1:=h.block i hi ht;refine (k.block i (by have:=h.size;omega) fun hc=>ht ?_).trans h1
   rcases hc with rfl|⟨cur,fr,hc⟩
   · exact .inl rfl
   · exact .inr ⟨cur,fr,h1.symm.trans hc⟩⟩
theorem own_same {α:Type} {enc:α→List Value} {k n c B:Nat} {e:TypeId} {W W':World} {A:Option Addr} {xs:List α} (h:Own enc k e B W A n c xs) (hs:∀ g,blockOf A=some g→W'.heap[g]? = W.heap[g]?):Own enc k e B W' A n c xs:=
 ⟨h.len,h.own.1,by
   rcases h.own.2 with h1|⟨g,cap,cur,h1,h2,h3,h4⟩
   · exact .inl h1
   · refine .inr ⟨g,cap,cur,h1,h2,(hs g ?_).trans h3,h4⟩
     injection h1 with a _ _
     rw [a];rfl⟩
theorem own_cutty {α:Type} {enc:α→List Value} {k n c B ob:Nat} {e:TypeId} {W W':World} {A:Option Addr} {xs:List α} (h:Own enc k e B W A n c xs) (h1:e≠161) (h2:e≠91) {cs:Array Value} {fr:Nat×Nat} (ho:W.heap[ob]? = some (.cells cs 91 fr)) (hg:GrownT (Cutty ob W) W W'):Own enc k e B W' A n c xs:=by
 refine own_same h fun g hgA=> ?_
 rcases h.block with rfl|⟨g',cur,rfl,hg',_⟩
 · cases hgA
 · have hgg:g'=g:=by simpa [blockOf] using hgA
   subst hgg;have hlt:=(Array.getElem?_eq_some_iff.1 hg').1;refine hg.block g' hlt fun hc=> ?_
   rcases hc with rfl|⟨cur',fr',hc⟩
   · rw [ho] at hg'
     injection hg' with hg'
     injection hg' with _ e2 _
     exact h2 e2.symm
   · rw [hc] at hg'
     injection hg' with hg'
     injection hg' with _ e2 _
     exact h1 e2.symm
theorem OutAt.below {ob B:Nat} {W W':World} {cuts:List (List Link)} (h:OutAt ob B W cuts) (hb:Below W.heap.size W W'):OutAt ob B W' cuts:=by
 obtain ⟨A,c,hs,h1,h2,h3⟩:=h;refine ⟨A,c,hs,(hb.block ob (Array.getElem?_eq_some_iff.1 h1).1).trans h1,h2.below hb (Nat.le_refl _),fun i x s hi hs'=> ?_⟩;obtain ⟨a,b⟩:=h3 i x s hi hs';exact ⟨a,b.below hb (Nat.le_refl _)⟩
theorem out_push {ob B:Nat} {w1 w3:World} {A A2:Option Addr} {c c2:Nat} {cuts:List (List Link)} {hs:List Hdr} (h1:w1.heap[ob]? = some (.cells #[.slice A cuts.length c] 91 (0,0))) (h2:CutsO B w1 A c cuts hs) {x:Hdr} {s0:List Link} (hx:x.n=s0.length) (hxo:Own encLink 6 74 B w1 x.A s0.length x.c s0)
 {cs:Array Value} (hO:Own encHdr 1 161 B w3 A2 (cuts.length+1) c2 (hs ++ [x])) (hg:(w1.alloc (.cells cs 161)).grownBy w3 (blockOf A)):
 OutAt ob B (w3.setCell ⟨ob,0,none⟩ (.slice A2 (cuts.length+1) c2)) (cuts ++ [s0])∧GrownT (Cutty ob w1) w1 (w3.setCell ⟨ob,0,none⟩ (.slice A2 (cuts.length+1) c2))∧
  ∀ W0,B=W0.heap.size→GrownT (fun b=>b=ob) W0 w1→GrownT (fun b=>b=ob) W0 (w3.setCell ⟨ob,0,none⟩ (.slice A2 (cuts.length+1) c2)):=by
 have hob:=(Array.getElem?_eq_some_iff.1 h1).1;have hsz:w1.heap.size<w3.heap.size:=by have:=hg.size;simp at this;omega
 have blk:∀ b,b<w1.heap.size→b≠ob→blockOf A≠some b→(w3.setCell ⟨ob,0,none⟩ (.slice A2 (cuts.length+1) c2)).heap[b]? = w1.heap[b]? := fun b hb hne hA=>by
  rw [Below.heap_setCell _ _ _ b hne];exact (hg.block b (by simp;omega) (fun e=>hA e.symm)).trans (((Below.refl w1.heap.size w1).alloc (Nat.le_refl _) _).block b hb)
 have hAob:blockOf A≠some ob:=fun e=>by
  rcases h2.1.ne_type h1 (by decide) with rfl|h
  · cases e
  · exact h e
 have hob3:w3.heap[ob]? = some (.cells #[.slice A cuts.length c] 91 (0,0)):=((hg.block ob (by simp;omega) (fun e=>hAob e.symm)).trans (((Below.refl w1.heap.size w1).alloc (Nat.le_refl _) _).block ob hob)).trans h1
 have hG:GrownT (Cutty ob w1) w1 (w3.setCell ⟨ob,0,none⟩ (.slice A2 (cuts.length+1) c2)):=⟨hg.os,hg.tape,hg.output,by simp;omega,fun b hb ht=>blk b hb (fun e=>ht (.inl e)) fun e=>by
  rcases h2.1.block with rfl|⟨g,cur,rfl,hg',_⟩
  · cases e
  · have:g=b:=by simpa [blockOf] using e
    subst this
    exact ht (.inr ⟨_,_,hg'⟩)⟩
 refine ⟨⟨A2,c2,hs ++ [x],?_,?_,?_⟩,hG,fun W0 hB h0=>⟨hg.os.trans h0.os,hg.tape.trans h0.tape,hg.output.trans h0.output,by have:=h0.size;simp;omega,fun b hb ht=>(blk b (by have:=h0.size;omega) ht fun e=> ?_).trans (h0.block b hb ht)⟩⟩
 · rw [List.length_append,heap_setCell_obj hob3];rfl
 · rw [List.length_append]
   refine own_same hO fun g hgA=>Below.heap_setCell _ _ _ g fun e=> ?_
   rcases hO.ne_type hob3 (by decide) with rfl|h
   · cases hgA
   · exact h (hgA.trans (by rw [e]))
 · intro i y s hi hs'
   have hlen:=h2.1.len;by_cases hlt:i<cuts.length
   · rw [List.getElem?_append_left (by omega)] at hi
     rw [List.getElem?_append_left hlt] at hs';obtain ⟨a,b⟩:=h2.2 i y s hi hs';exact ⟨a,own_cutty b (by decide) (by decide) h1 hG⟩
   · have hie:i=cuts.length:=by
      have:=(List.getElem?_eq_some_iff.1 hs').1;rw [List.length_append,List.length_singleton] at this;omega
     subst hie;rw [List.getElem?_append_right (Nat.le_refl _),Nat.sub_self] at hs';rw [←hlen,List.getElem?_append_right (Nat.le_refl _),Nat.sub_self] at hi;cases hi;cases hs';exact ⟨hx,own_cutty hxo (by decide) (by decide) h1 hG⟩
 · have:=h2.1.ltB b e
   omega
theorem OutAt.cuts {ob B:Nat} {W:World} {cuts:List (List Link)} (h:OutAt ob B W cuts) (hn:cuts.length≤1000000) (hs:∀ s∈cuts,s.length≤1000000):∃ A c hd,W.cell? ⟨ob,0,none⟩=some (.slice A cuts.length c)∧CutsAt W A cuts.length c hd cuts∧∀ x∈hd,x.n≤1000000:=by
 obtain ⟨A,c,hd,h1,h2,h3⟩:=h;have hl:=h2.len;refine ⟨A,c,hd,by simp [World.cell?,h1],⟨h2.rd (fun _=>rfl) (by omega),rfl,fun k x hx=> ?_⟩,fun x hx=> ?_⟩
 · have hk:k<cuts.length:=by have:=(List.getElem?_eq_some_iff.1 hx).1;omega
   obtain ⟨a,b⟩:=h3 k x cuts[k] hx (List.getElem?_eq_getElem hk);refine ⟨cuts[k],List.getElem?_eq_getElem hk,?_⟩;rw [a];exact b.rd (fun _=>rfl) (by have:=hs _ (List.getElem_mem hk);omega)
 · obtain ⟨k,hk⟩:=List.getElem?_of_mem hx
   have hk':k<cuts.length:=by have:=(List.getElem?_eq_some_iff.1 hk).1;omega
   obtain ⟨a,_⟩:=h3 k x cuts[k] hk (List.getElem?_eq_getElem hk');rw [a];exact hs _ (List.getElem_mem hk')
theorem ent_grow:∀ args w,(callFunc 116 args).run Tryz.prog w = .ok (.enter 116 args) w:=enters_of Tryz.func116 (by kernel_rfl) rfl
def codeGrw0:Option Code→Code
 | some (.seq (.seq c _) _)=>c
 | _=> .skip
def Tgrw0 (_ _ o:Nat) (A:Option Addr) (m c:Nat) (Aa:Option Addr) (an ca:Nat) (n s:Int) (r:Bool):List Value:=
 [.pointer (some ⟨o,0,none⟩),.pointer (some ⟨o,0,none⟩),.pointer (some ⟨o,0+3,none⟩),.agg #[.slice Aa an ca],.slice A m c,.int .i64 s,.int .i64 n,.bool (r)]
theorem grw0 (cC:Code) (hc:cC=codeGrw0 Tryz.f116.body) (b1 b2 o:Nat) (A:Option Addr) (m c:Nat) (Aa:Option Addr) (an ca:Nat) (n s:Int) (r:Bool) (a:Act) (w:World) (Q:Exit→Act→World→Prop)
 (hT:a.tmps.size=57) (t0:a.tmps.getD 0 undef = .slice A m c) (t1:a.tmps.getD 1 undef = .pointer (some ⟨b1,0,none⟩)) (t2:a.tmps.getD 2 undef = .pointer (some ⟨b2,0,none⟩))
 (CE:∀ W,Below w.heap.size w W→W.cell? ⟨b1,0,none⟩=some (.pointer (some ⟨o,0,none⟩))∧W.cell? ⟨b2,0,none⟩=some (.int .i64 n)∧W.cell? ⟨o,3,none⟩=some (.slice Aa an ca))
 (CC:∀ W,Below w.heap.size w W→Calls Tryz.prog 117 #[.agg #[.slice Aa an ca],.slice A m c] W fun e w'=>e = .returned (.int .i64 s)∧Below W.heap.size W w') (hr:decide (s≥n)=r)
 (hQ:∀ W,Below w.heap.size w W→Q .normal { tmps:=setsL a.tmps 13 (Tgrw0 b1 b2 o A m c Aa an ca n s r),defers:=a.defers } W):
 cC.wp Tryz.prog Q a w:=by
 subst hc;unfold codeGrw0 Tryz.f116;dsimp only;refine wpIn_wide.1 (wpIn_region_flow (nn:=5) 57 (by kernel_rfl) (by kernel_rfl) (by kernel_rfl) hT (fun i=>(Tgrw0 b1 b2 o A m c Aa an ca n s r).getD i undef) (fun W=>Below w.heap.size w W) ((Below.refl _ _).drew) (fun b hE hold=> ?_) hQ);clear hQ;have q0:=hold 0 _ (by kernel_rfl) t0;have q1:=hold 1 _ (by kernel_rfl) t1;have q2:=hold 2 _ (by kernel_rfl) t2;simp only [factsL,Tgrw0,List.getD_cons_zero,List.getD_cons_succ,Nat.reduceAdd] at hE
 repeat' first|exact steps_nil|refine steps_skip rfl rfl ?_|refine steps_go rfl ?_ ?_
 all_goals (intro W hW;have hWb:Below w.heap.size w W:=hW;obtain ⟨s1,s2,s3⟩:=CE W hWb;simp only [Tgrw0,List.getD_cons_zero,List.getD_cons_succ,Nat.reduceAdd])
 all_goals first
  | (refine .inl ?_;go_simp;done)
  | (refine .inl ?_;go_simp;rfl)
  | (refine .inl ?_;go_simp;exact congrArg Value.bool hr)
  | (refine .inl ?_;go_simp;simp [hr];done)
  | (refine .inr (.inr ⟨117,#[.agg #[.slice Aa an ca],.slice A m c],?_,(CC W hWb).mono ?_⟩)
     · go_simp<;>done
     · rintro e w' ⟨rfl,hb'⟩;exact ⟨rfl,(show Below _ _ _ from (show Below _ _ _ from hW).trans (hb'.mono (show Below _ _ _ from hW).size))⟩)
def codeGrw9:Option Code→Code
 | some (.seq _ (.seq _ (.seq _ (.seq _ (.seq _ (.seq _ (.block _ (.loop (.seq _ (.seq _ (.seq (.block _ (.seq _ c)) _)))))))))))=>c
 | _=> .skip
def GrwI9 (m:Nat) (xs:List Place) (G:World→Prop) (w:World):List Value→World→Prop
 | [],W=>Below w.heap.size w W
 | [v],W=>Below w.heap.size w W∧∃ A c,v = .slice A (m+1) c∧Own encPlace 2 37 w.heap.size W A (m+1) c xs
 | [_,z],W=>z = .tuple #[]∧G W
 | _,_=>False
theorem GrwI9.b {m:Nat} {xs:List Place} {G:World→Prop} {w W:World} {cv:List Value} (hl:cv.length≤1) (h:GrwI9 m xs G w cv W):Below w.heap.size w W:=by
 cases cv with
 | nil=>exact h
 | cons a t=>
   cases t with
   | nil=>exact h.1
   | cons b t=>simp only [List.length_cons] at hl;omega
def Tgrw9 (_ _:Nat) (A:Option Addr) (m c:Nat) (q:Place) (wf:Value) (_:List Place) (cv:List Value):List Value:=
 [wf,.slice A m c,.agg #[.int .i64 q.pit,.int .i64 q.layer],cv.getD 0 undef,cv.getD 1 undef]
theorem grw9 (cC:Code) (hc:cC=codeGrw9 Tryz.f116.body) (b6 bq:Nat) (A:Option Addr) (m c:Nat) (q:Place) (wf:Value) (xs:List Place) (a:Act) (w:World) (Q:Exit→Act→World→Prop)
 (hT:a.tmps.size=57) (t0:a.tmps.getD 0 undef = .slice A m c) (t4:a.tmps.getD 4 undef = .pointer (some ⟨b6,0,none⟩)) (t12:a.tmps.getD 12 undef = .pointer (some ⟨bq,0,none⟩))
 (CE:∀ W,Below w.heap.size w W→W.cell? ⟨b6,0,none⟩=some wf∧W.cell? ⟨bq,0,none⟩=some (.int .i64 q.pit)∧W.cell? ⟨bq,1,none⟩=some (.int .i64 q.layer))
 (CM:∀ W,Below w.heap.size w W→Calls Tryz.prog 119 #[.slice A m c,.agg #[.int .i64 q.pit,.int .i64 q.layer]] W fun e w'=> ∃ A' c',e = .returned (.slice A' (m+1) c')∧Own encPlace 2 37 W.heap.size w' A' (m+1) c' xs∧Below W.heap.size W w')
 (cps:Array Value) (hwf:wf = .func (.func 116) #[] cps) (G:World→Prop) (CW:∀ W A' c',Below w.heap.size w W→Own encPlace 2 37 w.heap.size W A' (m+1) c' xs→Calls Tryz.prog 116 (#[.slice A' (m+1) c']++cps) W fun e w'=>e = .returned (.tuple #[])∧G w')
 (hQ:∀ v W,G W→Q .normal { tmps:=setsL a.tmps 51 (Tgrw9 b6 bq A m c q wf xs [v,.tuple #[]]),defers:=a.defers } W):
 cC.wp Tryz.prog Q a w:=by
 subst hc;unfold codeGrw9 Tryz.f116;dsimp only;refine wpIn_wide.1 (wpIn_region_chain (nn:=5) 57 (by kernel_rfl) (by kernel_rfl) (by kernel_rfl) hT (fun i cv=>(Tgrw9 b6 bq A m c q wf xs cv).getD i undef) (fun i=>([0,0,0,0,0]:List Nat).getD i 0) (fun i=>([1,0,0,1,2]:List Nat).getD i 0) [3,4] (by kernel_rfl) (by kernel_rfl) (by kernel_rfl) (by kernel_rfl) (GrwI9 m xs G w) ((Below.refl _ _).drew) (fun b cv hE hold=> ?_) (fun cv W hl hI=> ?_))
 · clear hQ
   have q0:=hold 0 _ (by kernel_rfl) t0;have q4:=hold 4 _ (by kernel_rfl) t4;have q12:=hold 12 _ (by kernel_rfl) t12;simp only [factsL,Vc,idxC,Tgrw9,List.getD_cons_zero,List.getD_cons_succ,Nat.reduceAdd,Nat.reduceEqDiff,reduceIte,Option.map_some,Option.map_none] at hE
   repeat' first|exact chain_nil|refine chain_op 0 rfl rfl ?_ ?_|refine chain_op 1 rfl rfl ?_ ?_|refine chain_skip rfl rfl rfl rfl ?_|refine chain_quiet rfl rfl ?_ ?_
   all_goals intro hl
   any_goals (
    intro hl2;simp only [List.getD_cons_zero,List.getD_cons_succ,Nat.reduceAdd] at hl hl2
    first
     | (obtain rfl:=List.eq_nil_of_length_eq_zero (Nat.le_zero.1 hl2);intro W hW;have hWb:Below w.heap.size w W:=hW;obtain ⟨s1,s2,s3⟩:=CE W hWb;simp only [Tgrw9,List.getD_cons_zero,List.getD_cons_succ,Nat.reduceAdd]
        first
         | (refine .inl ?_;go_simp;done)
         | (refine .inl ?_;go_simp;rfl))
     | (intro W hW;simp only [Tgrw9,List.getD_cons_zero];refine .inl ?_;go_simp;(try rfl);done)
     | (intro W hW;obtain ⟨s1,s2,s3⟩:=CE W (GrwI9.b hl2 hW);simp only [Tgrw9,List.getD_cons_zero]
        first
         | (refine .inl ?_;go_simp;done)
         | (refine .inl ?_;go_simp;rfl))
    done)
   · obtain rfl:=List.eq_nil_of_length_eq_zero hl
     intro W hW;have hWb:Below w.heap.size w W:=hW;refine .inr ⟨119,#[.slice A m c,.agg #[.int .i64 q.pit,.int .i64 q.layer]],?_,(CM W hWb).mono ?_⟩
     · go_simp<;>done
     · rintro e w' ⟨A',c',rfl,h1,hb'⟩;exact ⟨_,rfl,hWb.trans (hb'.mono hWb.size),A',c',rfl,h1.mono hWb.size⟩
   · obtain ⟨v,rfl⟩:=len1 hl
     rintro W ⟨hWb,A',c',rfl,h1⟩;simp only [List.getD_cons_zero] at hE;have hcw:=CW W A' c' hWb h1;refine .inr ⟨_,_,?_,hcw.mono ?_⟩
     · have eg:=ent_grow;rw [hwf] at hE;go_simp<;>done
     · rintro e w' ⟨rfl,h1⟩;exact ⟨_,rfl,rfl,h1⟩
 · match cv,hl,hI with
   | [v,z],_,⟨e,h1⟩=>subst e;exact hQ v W h1
structure GrwX where
 b1:Nat
 b2:Nat
 ob:Nat
 b4:Nat
 o:Nat
 At:Option Addr
 ct:Nat
 bA:Option Addr
 bn:Nat
 bc:Nat
 Ap:Option Addr
 cp:Nat
 Aa:Option Addr
 ca:Nat
 n:Int
 l:List Trace
 known:Int
 bs:List Bond
def GrwX.ts (X:GrwX):List Trace:=counting X.l X.known
def GrwX.caps (X:GrwX):Array Value:=#[.pointer (some ⟨X.b1,0,none⟩),.pointer (some ⟨X.b2,0,none⟩),.pointer (some ⟨X.ob,0,none⟩),.pointer (some ⟨X.b4,0,none⟩)]
structure GrwAt (X:GrwX) (W:World):Prop where
 c1:W.cell? ⟨X.b1,0,none⟩=some (.pointer (some ⟨X.o,0,none⟩))
 c2:W.cell? ⟨X.b2,0,none⟩=some (.int .i64 X.n)
 c4:W.cell? ⟨X.b4,0,none⟩=some (.func (.func 116) #[] X.caps)
 o0:W.cell? ⟨X.o,0,none⟩=some (.slice X.At X.ts.length X.ct)
 o1:W.cell? ⟨X.o,1,none⟩=some (.slice X.bA X.bn X.bc)
 o2:W.cell? ⟨X.o,2,none⟩=some (.slice X.Ap (placesOf X.ts X.bs).length X.cp)
 o3:W.cell? ⟨X.o,3,none⟩=some (.slice X.Aa (admitsOf X.ts).length X.ca)
 rt:Rd encTrace 10 W X.At X.ts.length X.ct X.ts
 rb:Rd encBond 5 W X.bA X.bn X.bc X.bs
 rp:Rd encPlace 2 W X.Ap (placesOf X.ts X.bs).length X.cp (placesOf X.ts X.bs)
 ra:Rd encAdmit 4 W X.Aa (admitsOf X.ts).length X.ca (admitsOf X.ts)
def GrwQ (X:GrwX) (W0:World) (f:Nat) (cuts:List (List Link)) (mv:List Place) (W:World) (e:Ending) (W':World):Prop:=
 e = .returned (.tuple #[])∧GrownT (fun b=>b=X.ob) W0 W'∧GrownT (Cutty X.ob W) W W'∧OutAt X.ob W0.heap.size W' (cuts++growR X.ts X.bs X.n f mv)
theorem flat_take {α β:Type} (g:α→List β) {qs:List α} {j:Nat} {q:α} (h:qs[j]? = some q):((qs.take j).flatMap g).length+(g q).length≤(qs.flatMap g).length∧(qs.take (j+1)).flatMap g=(qs.take j).flatMap g++g q:=by
 have h1:qs.take (j+1)=qs.take j ++ [q]:=by rw [List.take_add_one,h];rfl
 have h2:(qs.take (j+1)).flatMap g=(qs.take j).flatMap g++g q:=by rw [h1,List.flatMap_append];simp
 refine ⟨?_,h2⟩;have h3:=congrArg List.length (congrArg (List.flatMap g) (List.take_append_drop (j+1) qs));rw [List.flatMap_append,List.length_append,h2,List.length_append] at h3;omega
theorem out_cell {ob B:Nat} {w1 w3:World} {A:Option Addr} {c:Nat} {cuts:List (List Link)} {hs:List Hdr} (h1:w1.heap[ob]? = some (.cells #[.slice A cuts.length c] 91 (0,0))) (h2:CutsO B w1 A c cuts hs)
 {cs:Array Value} (hg:(w1.alloc (.cells cs 161)).grownBy w3 (blockOf A)):w3.heap[ob]? = some (.cells #[.slice A cuts.length c] 91 (0,0)):=by
 have hob:=(Array.getElem?_eq_some_iff.1 h1).1
 have hAob:blockOf A≠some ob:=fun e=>by
  rcases h2.1.ne_type h1 (by decide) with rfl|h
  · cases e
  · exact h e
 exact ((hg.block ob (by simp;omega) (fun e=>hAob e.symm)).trans (((Below.refl w1.heap.size w1).alloc (Nat.le_refl _) _).block ob hob)).trans h1
theorem grow_any (X:GrwX) (W0:World) (ha:askErr X.l X.known X.bs=0) (hn:∀ mv,withErr X.l X.known X.bs mv=0→enough X.ts X.bs mv=true→X.n≤costR (admitsOf X.ts) mv)
 (ENV:∀ W,GrownT (fun b=>b=X.ob) W0 W→GrwAt X W):∀ (f:Nat) (cuts:List (List Link)) (mv:List Place) (M:Option Addr) (mc:Nat) (W:World),withErr X.l X.known X.bs mv=0→(admitsOf X.ts).length+1≤mv.length+f→GrownT (fun b=>b=X.ob) W0 W→OutAt X.ob W0.heap.size W cuts→cuts.length+(growR X.ts X.bs X.n f mv).length≤200000→Own encPlace 2 37 0 W M mv.length mc mv→
   Calls Tryz.prog 116 #[.slice M mv.length mc,.pointer (some ⟨X.b1,0,none⟩),.pointer (some ⟨X.b2,0,none⟩),.pointer (some ⟨X.ob,0,none⟩),.pointer (some ⟨X.b4,0,none⟩)] W (GrwQ X W0 f cuts mv W)
 | 0,_,mv,_,_,_,hw,hl,_,_,_,_=>by
   have h1:mv.length≤(admitsOf X.ts).length:=valid_len ha hw;omega
 | f+1,cuts,mv,M,mc,W,hw,hl,hg,hout,hlen,hm=>by
   have IH:=Lib.hid (grow_any X W0 ha hn ENV f);have HE:=Lib.hid ENV;have hml:mv.length≤(admitsOf X.ts).length:=valid_len ha hw;have F:=ordFacts ha;have hz0:=hg.size;have HG0:=Lib.hid hg
   have KB:Hid (∀ V,Below W.heap.size W V→GrwAt X V∧Own encPlace 2 37 0 V M mv.length mc mv∧GrownT (fun b=>b=X.ob) W0 V∧OutAt X.ob W0.heap.size V cuts):=(show ∀ V,_→_ from fun V hv=>
    have h1:=hg.of_below hv hz0
    ⟨HE.out V h1,hm.below hv (Nat.le_refl _),h1,hout.below hv⟩)
   have hts:∀ x∈X.ts,okLT x:=F.t;have hO:OkO X.ts X.bs:=F.o;have hcost:∀ x∈admitsOf X.ts,0≤x.cost∧x.cost≤1000:=F.cost;have ha8:(admitsOf X.ts).length≤8:=F.a8;have htn:=hO.tn;have hbn:=hO.bn;have hll:=linksL_len X.ts X.bs mv
   obtain ⟨r,hr⟩:∃ r,decide (costR (admitsOf X.ts) mv≥X.n)=r:=⟨_,rfl⟩
   have HCO:Hid (∀ V,Below W.heap.size W V→Calls Tryz.prog 117 #[.agg #[.slice X.Aa (admitsOf X.ts).length X.ca],.slice M mv.length mc] V fun e w'=>e = .returned (.int .i64 (costR (admitsOf X.ts) mv))∧Below V.heap.size V w'):=
    (show ∀ V,_→_ from fun V hv=>cost_any X.Aa (admitsOf X.ts).length X.ca (admitsOf X.ts) M mv.length mc mv V (KB.out V hv).1.ra ((KB.out V hv).2.1.rd (fun _=>rfl) (by omega)) hcost (by omega))
   clear hm ENV hg hout
   cases r with
   | true=>
     have hgr:growR X.ts X.bs X.n (f+1) mv = [[]]:=by rw [growR,if_pos (of_decide_eq_true hr)]
     have HGR:=Lib.hid hgr;rw [hgr] at hlen;have HR:=Lib.hid hr;simp only [List.length_cons,List.length_nil] at hlen;clear hr hgr hw hl F hn ha hts hO hcost hll htn hbn hml;go_enter Tryz.func116,Tryz.ntmps116
     go_upto_region 0 with (fail)
     refine grw0 _ rfl X.b1 X.b2 X.o M mv.length mc X.Aa (admitsOf X.ts).length X.ca X.n (costR (admitsOf X.ts) mv) true _ W _ rfl rfl rfl rfl (fun V hv=>⟨(KB.out V hv).1.c1,(KB.out V hv).1.c2,(KB.out V hv).1.o3⟩) HCO.out HR.out ?_;intro W1 hb1;obtain ⟨A,c,hs,h1,h2⟩:=(KB.out W1 hb1).2.2.2;have HG1:=Lib.hid (KB.out W1 hb1).2.2.1;have HB1:=Lib.hid hb1;have H1:=Lib.hid h1;have H2:=Lib.hid h2
     have p1:W1.cell? ⟨X.ob,0,none⟩=some (.slice A cuts.length c):=(by simp [World.cell?,h1])
     have hz1:=HG1.out.size;clear hb1 h1 h2;simp only [setsL,Tgrw0,Nat.reduceAdd,List.setIfInBounds_toArray,List.set_cons_succ,List.set_cons_zero]
     go_wp2_with (first
      | (at_builtin
         have hown:Own encHdr 1 161 W0.heap.size (W1.alloc (.cells #[hdrV ⟨none,0,0⟩] 161)) A cuts.length c hs:=H2.out.1.alloc _;have hrd7:=Rd.single (enc:=encHdr) (k:=1) W1 #[hdrV ⟨none,0,0⟩] 161 [⟨none,0,0⟩] 1 rfl (by omega) (fun _=>rfl) (by simp [encHdr]);refine wpList_append_src elCut (fun _=>rfl) oneHdr rfl _ _ rfl _ _ _ _ rfl rfl hown hrd7 (by omega) (by decide) (by simp;omega) ?_;intro A2 c2 w8 hO8 hg8 hA8;obtain ⟨hp1,hp2,hp3⟩:=out_push (x:=⟨none,0,0⟩) (s0:=[]) H1.out H2.out rfl (Own.none_ _ _ _ _ _) hO8 hg8;have h3:=out_cell H1.out H2.out hg8
         have q1:w8.cell? ⟨X.ob,0,none⟩=some (.slice A cuts.length c):=(by simp [World.cell?,h3])
         have q2:w8.frozen? ⟨X.ob,0,none⟩=false:=(by simp [World.frozen?,h3])
         have HP1:=Lib.hid hp1;have HP2:=Lib.hid hp2;have HP3:=Lib.hid hp3
         clear hO8 hg8 hA8 hown hrd7 hp1 hp2 hp3 h3))
     first
      | go_end0
      | refine bodyPost_ret (results_none rfl _ _ _) rfl ?_
     exact ⟨rfl,HP3.out W0 rfl HG1.out,cutty_trans ((GrownT.refl _ _).of_below HB1.out (Nat.le_refl _)) HP2.out,by rw [HGR.out];exact HP1.out⟩
   | false=>
     have hcn:¬X.n≤costR (admitsOf X.ts) mv:=fun h=>by
      rw [decide_eq_true h] at hr;cases hr
     have hd:enough X.ts X.bs mv=false:=by
      rw [←Bool.not_eq_true];exact fun h=>hcn (hn mv hw h)
     have hC:=circL_contra hw hd;have hgr:growR X.ts X.bs X.n (f+1) mv=circL X.ts X.bs mv::(touchL (admitsOf X.ts) X.bs (circL X.ts X.bs mv)).flatMap fun q=>growR X.ts X.bs X.n f (moreL mv q):=by rw [growR,if_neg hcn]
     have HMV:Hid (∀ q∈touchL (admitsOf X.ts) X.bs (circL X.ts X.bs mv),withErr X.l X.known X.bs (moreL mv q)=0):=(show ∀ q∈_,_ from fun q hq=>more_valid ha hw hC.1 hq)
     have hck0:checkSys ((placesOf X.ts X.bs).length+1) (sysB X.ts X.bs mv)=0:=checkSys_years hO mv;have hcx:=circleX_ok (sysOk_of hck0);have hck:=Lib.hid hck0;clear hck0;have hcl:(circL X.ts X.bs mv).length=(circleX ((placesOf X.ts X.bs).length+1) (sysB X.ts X.bs mv)).length:=by unfold circL someL;rw [List.length_map]
     have HCL:Hid (circL X.ts X.bs mv=someL (linksL X.ts X.bs mv) (circleX ((placesOf X.ts X.bs).length+1) (sysB X.ts X.bs mv))):=(show _=_ from rfl)
     have htl2:=touchL_len (admitsOf X.ts) X.bs (circL X.ts X.bs mv);have hsl:(sysB X.ts X.bs mv).length=(linksL X.ts X.bs mv).length:=by unfold sysB;rw [List.length_map]
     have HCY:Hid (∀ V,Below W.heap.size W V→Calls Tryz.prog 75 #[.pointer (some ⟨X.o,0,none⟩),.slice M mv.length mc] V fun e w'=> ∃ Ab cb Al cl mb,e = .returned (.agg #[.int .i64 ((placesOf X.ts X.bs).length+1),.slice Ab (linksL X.ts X.bs mv).length cb,.slice Al (linksL X.ts X.bs mv).length cl,.map (some mb)])∧Below V.heap.size V w'∧Rd encBound 4 w' Ab (linksL X.ts X.bs mv).length cb (sysB X.ts X.bs mv)∧Rd encLink 6 w' Al (linksL X.ts X.bs mv).length cl (linksL X.ts X.bs mv)):=
      (show ∀ V,_→_ from fun V hv=>by
        have E:=(KB.out V hv).1;have hbl:=E.rb.len;refine (years_any X.o X.At X.ts.length X.ct X.bA X.bn X.bc X.Ap (placesOf X.ts X.bs).length X.cp M mv.length mc X.ts X.bs (placesOf X.ts X.bs) mv V E.o0 E.o1 E.o2 E.rt E.rb E.rp ((KB.out V hv).2.1.rd (fun _=>rfl) (by omega)) hts (by omega) (by omega)).mono ?_;rintro e w' ⟨Ab,cb,Al,cl,mb,rfl,hb',hOb,hOl,_,_⟩
        exact ⟨Ab,cb,Al,cl,mb,rfl,hb',hOb.rd (fun _=>rfl) (by omega),hOl.rd (fun _=>rfl) (by omega)⟩)
     have HGR:=Lib.hid hgr;rw [hgr] at hlen;have HR:=Lib.hid hr;have HLN:=Lib.hid hl;have HTS:=Lib.hid hts
     have HLL:Hid ((linksL X.ts X.bs mv).length≤1000):=(show _≤_ from by omega)
     have HML:=Lib.hid hml;clear hr hgr hw hl F hn ha hd hC hcn hts hcost htn hbn hO hll hml;generalize hps:(placesOf X.ts X.bs).length=pl at *;generalize linksL X.ts X.bs mv=L at *;generalize sysB X.ts X.bs mv=S at *;generalize circL X.ts X.bs mv=C at *;generalize hcxe:circleX (pl+1) S=CX at *;have HCXE:=Lib.hid hcxe;clear hcxe;generalize htl:touchL (admitsOf X.ts) X.bs C=tl at *;have HTL:=Lib.hid htl;clear htl;have hcx60:=hcx.1
     have HCX:Hid (∀ i∈CX,0≤i∧i<(L.length:Int)):=(show ∀ i∈CX,_ from fun i hi=>by have:=hcx.2 i hi;rw [hsl] at this;exact this)
     clear hcx hsl;have hlr:cuts.length+1+(tl.flatMap fun q=>growR X.ts X.bs X.n f (moreL mv q)).length≤200000:=by rw [List.length_cons] at hlen;omega
     have HLR:=Lib.hid hlr;clear hlr hlen hcl;go_enter Tryz.func116,Tryz.ntmps116
     go_upto_region 0 with (fail)
     refine grw0 _ rfl X.b1 X.b2 X.o M mv.length mc X.Aa (admitsOf X.ts).length X.ca X.n (costR (admitsOf X.ts) mv) false _ W _ rfl rfl rfl rfl (fun V hv=>⟨(KB.out V hv).1.c1,(KB.out V hv).1.c2,(KB.out V hv).1.o3⟩) HCO.out HR.out ?_;intro W1 hb1;have c1:=(KB.out W1 hb1).1.c1;have HCY1:=Lib.hid (HCY.out W1 hb1);have HB1:=Lib.hid hb1;have hz1:=hb1.size;clear hb1;simp only [setsL,Tgrw0,Nat.reduceAdd,List.setIfInBounds_toArray,List.set_cons_succ,List.set_cons_zero]
     go_upto_region 6 with (first
      | (go_at_call 75;(with_reducible refine HCY1.out.mono ?_);rintro e w2 ⟨Ab,cb,Al,cl,mb,rfl,hb2,y1,y2⟩
         obtain ⟨w3,hw3⟩:∃ w3,w2.alloc (.cells #[.int .i64 (pl+1),.slice Ab L.length cb,.slice Al L.length cl,.map (some mb)] 120)=w3:=⟨_,rfl⟩
         have hb23:Below w2.heap.size w2 w3:=(by rw [←hw3];exact (Below.refl _ w2).alloc (Nat.le_refl _) _)
         have HS2:=Lib.hid (Circle_any (pl+1) Ab L.length cb S w3 (y1.below hb23 (Nat.le_refl _)) hck.out);rw [HCXE.out] at HS2
         have hh3:w3.heap[w2.heap.size]? = some (.cells #[.int .i64 (pl+1),.slice Ab L.length cb,.slice Al L.length cl,.map (some mb)] 120 (0,0)):=(by rw [←hw3];exact heap_alloc_new w2 _)
         have hz2:=hb2.size
         have hz3:w2.heap.size<w3.heap.size:=(by rw [←hw3];simp)
         have HB3:=Lib.hid (HB1.out.trans ((hb2.trans (hb23.mono hz2)).mono hz1));have HL:=Lib.hid (y2.below hb23 (Nat.le_refl _));have HH3:=Lib.hid hh3
         have i0:w3.cell? ⟨w2.heap.size,0,none⟩=some (.int .i64 (pl+1)):=(by simp [World.cell?,hh3])
         have i1:w3.cell? ⟨w2.heap.size,1,none⟩=some (.slice Ab L.length cb):=(by simp [World.cell?,hh3])
         clear y1 y2 hb2 hb23 hh3 hz2)
      | (go_at_call 111;refine HS2.out.mono ?_;rintro e w4 ⟨A',c',rfl,hb4,hOX⟩
         have hh4:=(hb4.block _ hz3).trans HH3.out
         have i0:w4.cell? ⟨w2.heap.size,0,none⟩=some (.int .i64 (pl+1)):=(by simp [World.cell?,hh4])
         have i1:w4.cell? ⟨w2.heap.size,1,none⟩=some (.slice Ab L.length cb):=(by simp [World.cell?,hh4])
         have i2:w4.cell? ⟨w2.heap.size,2,none⟩=some (.slice Al L.length cl):=(by simp [World.cell?,hh4])
         have i3:w4.cell? ⟨w2.heap.size,3,none⟩=some (.map (some mb)):=(by simp [World.cell?,hh4])
         have HB4:=Lib.hid (HB3.out.trans (hb4.mono HB3.out.size));have HSOME:=Lib.hid (some_years (pl+1) Ab L.length cb Al cl L (some mb) A' CX.length c' CX w4 (HL.out.below hb4 (Nat.le_refl _)) (hOX.rd (fun _=>rfl) (by omega)) (by omega) HCX.out);rw [←HCL.out] at HSOME
         clear hb4 hOX hh4)
      | (go_at_call 109;((with_reducible refine HSOME.out.mono ?_);rintro e w5 ⟨A5,c5,rfl,hb5,hO5⟩)
         have HB5:=Lib.hid (HB4.out.trans (hb5.mono HB4.out.size));obtain ⟨A,c,hs,h1,h2⟩:=(KB.out w5 HB5.out).2.2.2;have hlC:=hO5.len;have HG5:=Lib.hid (KB.out w5 HB5.out).2.2.1;have H1:=Lib.hid h1;have H2:=Lib.hid h2;have HO5:=Lib.hid (hO5.mono (B':=W0.heap.size) (by have:=HB4.out.size;omega))
         have p1:w5.cell? ⟨X.ob,0,none⟩=some (.slice A cuts.length c):=(by simp [World.cell?,h1])
         have hz5:=HG5.out.size
         clear hb5 hO5 h1 h2)
      | (at_builtin
         have hown:Own encHdr 1 161 W0.heap.size (w5.alloc (.cells #[hdrV ⟨A5,CX.length,c5⟩] 161)) A cuts.length c hs:=H2.out.1.alloc _;have hrd7:=Rd.single (enc:=encHdr) (k:=1) w5 #[hdrV ⟨A5,CX.length,c5⟩] 161 [⟨A5,CX.length,c5⟩] 1 rfl (by omega) (fun _=>rfl) (by simp [encHdr]);refine wpList_append_src elCut (fun _=>rfl) oneHdr rfl _ _ rfl _ _ _ _ rfl rfl hown hrd7 (by have:=HLR.out;omega) (by decide) (by simp;omega) ?_;intro A2 c2 w8 hO8 hg8 hA8;obtain ⟨hp1,hp2,hp3⟩:=out_push (x:=⟨A5,CX.length,c5⟩) (s0:=C) H1.out H2.out hlC.symm (by rw [hlC];exact HO5.out) hO8 hg8;have h3:=out_cell H1.out H2.out hg8
         have q1:w8.cell? ⟨X.ob,0,none⟩=some (.slice A cuts.length c):=(by simp [World.cell?,h3])
         have q2:w8.frozen? ⟨X.ob,0,none⟩=false:=(by simp [World.frozen?,h3])
         have HP1:=Lib.hid hp1;have HP2:=Lib.hid hp2;have HP3:=Lib.hid (hp3 W0 rfl HG5.out)
         clear hO8 hg8 hA8 hown hrd7 hp1 hp2 hp3 h3))
     obtain ⟨w9,hw9⟩:∃ w9,w8.setCell ⟨X.ob,0,none⟩ (.slice A2 (cuts.length+1) c2)=w9:=⟨_,rfl⟩
     rw [hw9] at HP1 HP2 HP3 ⊢;have E9:=HE.out w9 HP3.out;have c19:=E9.c1;have hol:X.o<w9.heap.size:=block_lt_of_cell E9.o0;have HO9:=Lib.hid (own_cutty HO5.out (by decide) (by decide) H1.out HP2.out);have hm5:=(KB.out w5 HB5.out).2.1;have HM9:=Lib.hid (own_cutty hm5 (by decide) (by decide) H1.out HP2.out);have HK9:=Lib.hid (cutty_trans ((GrownT.refl (Cutty X.ob W) W).of_below HB5.out (Nat.le_refl _)) HP2.out);have HTC:=Lib.hid (touched_any X.o X.bA X.bn X.bc X.bs X.Aa (admitsOf X.ts).length X.ca (admitsOf X.ts) A5 CX.length c5 C w9 hol E9.o1 E9.o3 E9.rb E9.ra (HO9.out.rd (fun _=>rfl) (by omega)) (by omega));rw [HTL.out] at HTC;clear E9 hol hm5 hw9
     go_wp2_with (go_at_call 118;(with_reducible refine HTC.out.mono ?_);rintro e wt ⟨A6,c6,rfl,hO6,hb6⟩
                  have HB6:=Lib.hid hb6;have HO6:=Lib.hid hO6
                  clear hO6 hb6)
     have hz9:=HP3.out.size;have hz6:=HB6.out.size
     obtain ⟨tn,htn⟩:∃ tn,tl.length=tn:=⟨_,rfl⟩
     rw [htn] at HO6 htl2 ⊢;have HTN:=Lib.hid htn;have HG6:=Lib.hid (HP3.out.of_below HB6.out hz9);have HM6:=Lib.hid (HM9.out.below HB6.out (Nat.le_refl _));have HK6:=Lib.hid (HK9.out.of_below HB6.out HK9.out.size);have HOT:=Lib.hid (HP1.out.below HB6.out);obtain ⟨_,_,_,hob6,_⟩:=HOT.out;have HOB6:=Lib.hid hob6;clear htn hob6;go_loopw [47] (fun s47 wr=> ∃ j:Nat,j≤tn∧s47 = .int .i64 j∧Hid (GrownT (fun b=>b=X.ob) W0 wr)∧Hid (GrownT (Cutty X.ob wt) wt wr)∧Hid (OutAt X.ob W0.heap.size wr (cuts ++ [C]++(tl.take j).flatMap fun q=>growR X.ts X.bs X.n f (moreL mv q)))) (fun s47 _=>tn-(intOf s47).toNat)
     case atStart=>exact ⟨0,Nat.zero_le _,rfl,HG6,(show GrownT _ _ _ from GrownT.refl _ _),(show OutAt _ _ _ _ by simpa using HOT.out)⟩
     case round=>
      obtain ⟨j,hj,rfl,hgr,hkr,hor⟩:=hrel;have hzr:=hgr.out.size;have hMr:=Lib.hid (own_cutty HM6.out (by decide) (by decide) HOB6.out hkr.out);have hTr:=own_cutty HO6.out (by decide) (by decide) HOB6.out hkr.out;have htl1:=hTr.len;by_cases hlt:j<tn
      · obtain ⟨bz,oz,q,hA6,hbz,hq,hcq⟩:=(hTr.rd (fun _=>rfl) (by omega)).one hlt
        subst hA6;have p0:wr.cell? ⟨bz,oz+j * 2,none⟩=some (.int .i64 q.pit):=hcq 0 _ rfl;have p1:wr.cell? ⟨bz,oz+j * 2+1,none⟩=some (.int .i64 q.layer):=hcq 1 _ rfl;obtain ⟨hle,htk⟩:=flat_take (fun q=>growR X.ts X.bs X.n f (moreL mv q)) hq;have HV7:=Lib.hid (HMV.out q (List.mem_of_getElem? hq));have HLE:=Lib.hid hle;have HTK:=Lib.hid htk
        obtain ⟨w7,hw7⟩:∃ w7,wr.alloc (.cells #[.int .i64 q.pit,.int .i64 q.layer] 37)=w7:=⟨_,rfl⟩
        have hb7:Below wr.heap.size wr w7:=(by rw [←hw7];exact (Below.refl _ _).alloc (Nat.le_refl _) _)
        have hh7:w7.heap[wr.heap.size]? = some (.cells #[.int .i64 q.pit,.int .i64 q.layer] 37 (0,0)):=(by rw [←hw7];exact heap_alloc_new wr _)
        have hz7:wr.heap.size<w7.heap.size:=(by rw [←hw7];simp)
        have KD:Hid (∀ V,Below w7.heap.size w7 V→GrwAt X V∧Own encPlace 2 37 0 V M mv.length mc mv∧GrownT (fun b=>b=X.ob) W0 V∧GrownT (Cutty X.ob wt) wt V∧OutAt X.ob W0.heap.size V (cuts ++ [C]++(tl.take j).flatMap fun q=>growR X.ts X.bs X.n f (moreL mv q))∧V.cell? ⟨wr.heap.size,0,none⟩=some (.int .i64 q.pit)∧V.cell? ⟨wr.heap.size,1,none⟩=some (.int .i64 q.layer)):=(show ∀ V,_→_ from fun V hv=>by
         have h1:=hb7.trans (hv.mono hb7.size);have h2:=hgr.out.of_below h1 hzr;have h3:=(hv.block wr.heap.size hz7).trans hh7
         exact ⟨HE.out V h2,hMr.out.below h1 (Nat.le_refl _),h2,hkr.out.of_below h1 hkr.out.size,hor.out.below h1,by simp [World.cell?,h3],by simp [World.cell?,h3]⟩)
        have HW7:=Lib.hid hw7;have HQ:=Lib.hid hq;clear hcq hq hb7 hh7 hw7 hle htk hTr
        go_upto_region 9 with (rw [HW7.out])
        refine grw9 _ rfl X.b4 wr.heap.size M mv.length mc q (.func (.func 116) #[] X.caps) (moreL mv q) _ w7 _ rfl rfl rfl rfl (fun V hv=>⟨(KD.out V hv).1.c4,(KD.out V hv).2.2.2.2.2.1,(KD.out V hv).2.2.2.2.2.2⟩)
         (fun V hv=>(more_any M mv.length mc mv q V ((KD.out V hv).2.1.rd (fun _=>rfl) (by have:=HML.out;omega)) (by have:=HML.out;omega)).mono (by rintro e w' ⟨A',c',rfl,hO',hb'⟩;exact ⟨A',c',rfl,hO',hb'⟩))
         X.caps rfl (fun w'=>GrownT (fun b=>b=X.ob) W0 w'∧GrownT (Cutty X.ob wt) wt w'∧OutAt X.ob W0.heap.size w' (cuts ++ [C]++(tl.take (j+1)).flatMap fun q=>growR X.ts X.bs X.n f (moreL mv q)))
         (fun V A' c' hv hO'=> ?_) ?_
        · obtain ⟨k1,k2,k3,k4,k5,k6,k7⟩:=KD.out V hv
          have hml7:=moreL_len mv q;have h7:=IH.out (cuts ++ [C]++(tl.take j).flatMap fun q=>growR X.ts X.bs X.n f (moreL mv q)) (moreL mv q) A' c' V HV7.out (by have:=HLN.out;omega) k3 k5 (by have:=HLE.out;have:=HLR.out;simp only [List.length_append,List.length_cons,List.length_nil];omega) (by rw [hml7];exact hO'.mono (Nat.zero_le _));rw [hml7] at h7;refine h7.mono ?_;rintro e w' ⟨rfl,g1,g2,g3⟩;refine ⟨rfl,g1,cutty_trans k4 g2,?_⟩;rw [HTK.out,←List.append_assoc];exact g3
        · rintro v9 wn ⟨g1,g2,g3⟩
          have G1:=Lib.hid g1;have G2:=Lib.hid g2;have G3:=Lib.hid g3;clear g1 g2 g3;simp only [setsL,Tgrw9,List.getD_cons_zero,List.getD_cons_succ,Nat.reduceAdd,List.setIfInBounds_toArray,List.set_cons_succ,List.set_cons_zero];go_wp2;go_roundw
          all_goals first
           | (simp [intOf];omega)
           | exact ⟨j+1,by omega,by go_num,G1,G2,G3⟩
      · have hjn:j=tn:=by omega
        subst hjn;have hor2:=hor.out;rw [List.take_of_length_le (by rw [HTN.out];exact Nat.le_refl _),List.append_assoc] at hor2;have HO2:=Lib.hid hor2;clear hor2 hor;go_wp2
        first
         | go_end0
         | refine bodyPost_ret (results_none rfl _ _ _) rfl ?_
        exact ⟨rfl,hgr.out,cutty_trans HK6.out hkr.out,by rw [HGR.out];exact HO2.out⟩
def numOf (l:List Trace) (known:Int) (bs:List Bond):Int:=if (setsOf l known bs).2 = [] then 8008 else (setsOf l known bs).1
def proofV (l:List Trace) (known:Int) (bs:List Bond):List (List Link)×Int:=
 if askErr l known bs≠0 then ([],askErr l known bs) else (growR (counting l known) bs (numOf l known bs) ((admitsOf (counting l known)).length+1) [],0)
theorem numOf_le {l:List Trace} {known:Int} {bs:List Bond} (ha:askErr l known bs=0):∀ mv,withErr l known bs mv=0→enough (counting l known) bs mv=true→numOf l known bs≤costR (admitsOf (counting l known)) mv:=fun mv h1 h2=>by
 obtain ⟨h3,h4⟩:=sets_least ha h1 h2;unfold numOf;rw [if_neg h3];exact h4
theorem with_nil {l:List Trace} {known:Int} {bs:List Bond} (ha:askErr l known bs=0):withErr l known bs []=0:=withErr_zero.2 ⟨ha,admittedErr_zero.2 ⟨List.Pairwise.nil,fun x hx=>by cases hx⟩⟩
theorem treeN_8:treeN 8=109601:=by decide
theorem proof_len {l:List Trace} {known:Int} {bs:List Bond} (ha:askErr l known bs=0):(growR (counting l known) bs (numOf l known bs) ((admitsOf (counting l known)).length+1) []).length≤109601:=by
 have h1:=grow_len ha (numOf_le ha) ((admitsOf (counting l known)).length+1) [] (with_nil ha);have h2:=treeN_mono (a:=(admitsOf (counting l known)).length-([]:List Place).length) (b:=8) (by have:=(ordFacts ha).a8;simp only [List.length_nil];omega);rw [treeN_8] at h2;omega
theorem circL_len {l:List Trace} {known:Int} {bs:List Bond} (ha:askErr l known bs=0) (mv:List Place):(circL (counting l known) bs mv).length≤60:=by
 unfold circL someL;rw [List.length_map];exact (circleX_ok (sysOk_of (checkSys_years (ordFacts ha).o mv))).1
theorem grow_small {l:List Trace} {known:Int} {bs:List Bond} (ha:askErr l known bs=0) (n:Int):∀ (f:Nat) (mv:List Place),∀ s∈growR (counting l known) bs n f mv,s.length≤60
 | 0,_,s,h=>by cases h
 | f+1,mv,s,h=>by
   rw [growR] at h
   split at h
   · rw [List.mem_singleton.1 h];simp
   · rcases List.mem_cons.1 h with rfl|h
     · exact circL_len ha mv
     · obtain ⟨q,_,hq⟩:=List.mem_flatMap.1 h
       exact grow_small ha n f (moreL mv q) s hq
theorem CutsO.mono {B B':Nat} {W:World} {A:Option Addr} {c:Nat} {cuts:List (List Link)} {hs:List Hdr} (h:CutsO B W A c cuts hs) (hB:B'≤B):CutsO B' W A c cuts hs:=
 ⟨h.1.mono hB,fun i x s h1 h2=>⟨(h.2 i x s h1 h2).1,(h.2 i x s h1 h2).2.mono hB⟩⟩
theorem CutsO.below {B:Nat} {W W':World} {A:Option Addr} {c:Nat} {cuts:List (List Link)} {hs:List Hdr} (h:CutsO B W A c cuts hs) (hb:Below W.heap.size W W'):CutsO B W' A c cuts hs:=
 ⟨h.1.below hb (Nat.le_refl _),fun i x s h1 h2=>⟨(h.2 i x s h1 h2).1,(h.2 i x s h1 h2).2.below hb (Nat.le_refl _)⟩⟩
theorem CutsO.nil (B:Nat) (W:World):CutsO B W none 0 [] []:=⟨Own.none_ _ _ _ _ _,fun i x s h=>by simp at h⟩
theorem CutsO.at {B:Nat} {W:World} {A:Option Addr} {c:Nat} {cuts:List (List Link)} {hs:List Hdr} (h:CutsO B W A c cuts hs) (hn:cuts.length≤1000000) (hs':∀ s∈cuts,s.length≤60):CutsAt W A cuts.length c hs cuts∧∀ x∈hs,x.n≤1000000:=by
 have hl:=h.1.len;refine ⟨⟨h.1.rd (fun _=>rfl) (by omega),rfl,fun k x hx=> ?_⟩,fun x hx=> ?_⟩
 · have hk:k<cuts.length:=by have:=(List.getElem?_eq_some_iff.1 hx).1;omega
   obtain ⟨a,b⟩:=h.2 k x cuts[k] hx (List.getElem?_eq_getElem hk);refine ⟨cuts[k],List.getElem?_eq_getElem hk,?_⟩;rw [a];exact b.rd (fun _=>rfl) (by have:=hs' _ (List.getElem_mem hk);omega)
 · obtain ⟨k,hk⟩:=List.getElem?_of_mem hx
   have hk':k<cuts.length:=by have:=(List.getElem?_eq_some_iff.1 hk).1;omega
   obtain ⟨a,_⟩:=h.2 k x cuts[k] hk (List.getElem?_eq_getElem hk');rw [a];have:=hs' _ (List.getElem_mem hk');omega
theorem Proof_any (A:Option Addr) (ln lc:Nat) (l:List Trace) (known:Int) (bA:Option Addr) (bn bc:Nat) (bs:List Bond) (w:World) (hl:Rd encTrace 10 w A ln lc l) (hb:Rd encBond 5 w bA bn bc bs):
 Calls Tryz.prog 66 #[.slice A ln lc,.int .i64 known,.slice bA bn bc] w fun e w'=> ∃ A' c' hs,e = .returned (.tuple #[.slice A' (proofV l known bs).1.length c',.int .i64 (proofV l known bs).2])∧Below w.heap.size w w'∧CutsO w.heap.size w' A' c' (proofV l known bs).1 hs:=by
 have HASK:=Lib.hid (asked_any A ln lc l known bA bn bc bs w hl hb);have HB:=Lib.hid hb;clear hl hb;by_cases ha:askErr l known bs=0
 case neg=>
  have hv:proofV l known bs=([],askErr l known bs):=by unfold proofV;rw [if_pos ha]
  have ha':(askErr l known bs != 0)=true:=by simpa using ha
  rw [hv];clear hv ha;go_enter Tryz.func66,Tryz.ntmps66;go_wp2_with (go_at_call 72;(with_reducible refine HASK.out.mono ?_);rintro e w2 ⟨q,rfl,hb2,_⟩;have HB2:=Lib.hid hb2;clear hb2);go_ret2;exact ⟨none,0,[],rfl,HB2.out.alloc HB2.out.size _,CutsO.nil _ _⟩
 case pos=>
  have hv:proofV l known bs=(growR (counting l known) bs (numOf l known bs) ((admitsOf (counting l known)).length+1) [],0):=by unfold proofV;rw [if_neg (by simpa using ha)]
  have F:=ordFacts ha;have hpl:=proof_len ha;rw [ha] at HASK;rw [hv];have HC:=Lib.hid (fun B o w2 h1 h2=>cheapest_any B o bA bn bc bs (counting l known) (admitsOf (counting l known)) w2 h1 h2 F.o F.t F.a8 F.cost F.nd);have hse:cheapestM (admitsOf (counting l known)) (enough (counting l known) bs)=setsOf l known bs:=rfl;rw [hse] at HC;have htn:=F.o.tn;have hpn:=F.o.pn;have ha8:=F.a8;have HG:=Lib.hid (fun X W0 h1 h2=>grow_any X W0 h1 h2);have HNL:=Lib.hid (numOf_le ha);have HWN:=Lib.hid (with_nil ha);have hN:numOf l known bs=if (setsOf l known bs).2 = [] then 8008 else (setsOf l known bs).1:=rfl
  have HKEY:Hid (∀ (w4 w7:World) (o b1 b2 ob b4:Nat) (At:Option Addr) (ct:Nat) (Ap:Option Addr) (cp:Nat) (Aa:Option Addr) (ca:Nat),(∀ W,GrownT (fun b=>b=ob) w7 W→GrwAt { b1:=b1,b2:=b2,ob:=ob,b4:=b4,o:=o,At:=At,ct:=ct,bA:=bA,bn:=bn,bc:=bc,Ap:=Ap,cp:=cp,Aa:=Aa,ca:=ca,n:=numOf l known bs,l:=l,known:=known,bs:=bs } W)→OutAt ob w7.heap.size w7 []→
   Calls Tryz.prog 116 #[.slice none 0 0,.pointer (some ⟨b1,0,none⟩),.pointer (some ⟨b2,0,none⟩),.pointer (some ⟨ob,0,none⟩),.pointer (some ⟨b4,0,none⟩)] w7 fun e W'=>e = .returned (.tuple #[])∧GrownT (fun b=>b=ob) w7 W'∧OutAt ob w7.heap.size W' (growR (counting l known) bs (numOf l known bs) ((admitsOf (counting l known)).length+1) [])):=
   (show ∀ _ _ _ _ _ _ _ _ _ _ _ _ _,_→_→_ from fun w4 w7 o b1 b2 ob b4 At ct Ap cp Aa ca hE hO=>by
     have h7:=grow_any { b1:=b1,b2:=b2,ob:=ob,b4:=b4,o:=o,At:=At,ct:=ct,bA:=bA,bn:=bn,bc:=bc,Ap:=Ap,cp:=cp,Aa:=Aa,ca:=ca,n:=numOf l known bs,l:=l,known:=known,bs:=bs } w7 ha HNL.out hE ((admitsOf (counting l known)).length+1) [] [] none 0 w7 HWN.out (by show (admitsOf (counting l known)).length+1≤_;simp) (GrownT.refl _ _) hO (by show ([]:List (List Link)).length+(growR (counting l known) bs (numOf l known bs) ((admitsOf (counting l known)).length+1) []).length≤200000;simp only [List.length_nil];omega) (Own.none_ _ _ _ _ _);refine h7.mono ?_;rintro e W' ⟨rfl,g1,_,g3⟩
     exact ⟨rfl,g1,g3⟩)
  clear HG HNL HWN hv ha hse
  obtain ⟨G,hG⟩:∃ G,growR (counting l known) bs (numOf l known bs) ((admitsOf (counting l known)).length+1) []=G:=⟨_,rfl⟩
  rw [hG] at HKEY hpl ⊢;generalize numOf l known bs=N at *
  obtain ⟨⟨z,sets⟩,hS⟩:∃ q,setsOf l known bs=q:=⟨_,rfl⟩
  rw [hS] at HC hN;simp only at HC hN;have HF:=Lib.hid F;clear hS hG F
  have hcs:((sets.length:Int)==0)=true∧N=8008∨((sets.length:Int)==0)=false∧N=z:=by
   cases sets with
   | nil=>exact .inl ⟨rfl,by rw [hN,if_pos rfl]⟩
   | cons a t=>exact .inr ⟨beq_eq_false_iff_ne.2 (by simp only [List.length_cons];omega),by rw [hN,if_neg (by simp)]⟩
  clear hN
  rcases hcs with ⟨h0,rfl⟩|⟨h0,rfl⟩
  · go_enter Tryz.func66,Tryz.ntmps66
    go_upto_region 7 with (first
     | (go_at_call 72;(with_reducible refine HASK.out.mono ?_);rintro e w2 ⟨p,rfl,hb2,hp⟩
        obtain ⟨o,rfl,hOr⟩:=hp rfl;obtain ⟨w3,a3,l3,z3,h3⟩:=alloc_facts w2 (#[.pointer (some ⟨o,0,none⟩)]) 106;have HB3:=Lib.hid (hb2.trans (l3.mono hb2.size));have HO3:=Lib.hid (show OrdAt _ _ _ _ _ _ _ _ _ from hOr.below l3 (Nat.le_refl _));have HC3:=Lib.hid (HC.out _ o w3 (hOr.below l3 (Nat.le_refl _)) (HB.out.below HB3.out (Nat.le_refl _)));have H3:=Lib.hid h3;have hz2:=hb2.size
        have p3:w3.cell? ⟨w2.heap.size,0,none⟩=some (.pointer (some ⟨o,0,none⟩)):=(by simp [World.cell?,h3])
        have Z3:=Lib.hid z3
        clear hOr hp hb2 l3 z3 h3)
     | (go_at_call 76;(with_reducible refine HC3.out.mono ?_);rintro e w4 ⟨A',c',rfl,hb4,hS4⟩
        have HB34:=Lib.hid hb4;have HB4:=Lib.hid (HB3.out.trans (hb4.mono HB3.out.size))
        clear hb4 hS4))
    obtain ⟨ho,At,ct,Ap,cp,Aa,ca,hob,t1,t2,t3⟩:=HO3.out;obtain ⟨w5,a5,l5,z5,h5⟩:=alloc_facts w4 (#[.int .i64 8008]) 3;obtain ⟨w6,a6,l6,z6,h6⟩:=alloc_facts w5 (#[.slice none 0 0]) 91;rw [z5] at h6 z6;obtain ⟨w7,a7,l7,z7,h7⟩:=alloc_facts w6 (#[.func (.func 116) #[] #[.pointer (some ⟨w2.heap.size,0,none⟩),.pointer (some ⟨w4.heap.size,0,none⟩),.pointer (some ⟨w4.heap.size+1,0,none⟩),.pointer (some ⟨w4.heap.size+1+1,0,none⟩)]]) 163;rw [z6] at h7 z7;have m7:Below w7.heap.size w7 w7:=Below.refl _ _;have m6:Below w6.heap.size w6 w7:=l7.trans (m7.mono l7.size);have m5:Below w5.heap.size w5 w7:=l6.trans (m6.mono l6.size);have m4:Below w4.heap.size w4 w7:=l5.trans (m5.mono l5.size);have m3:Below w3.heap.size w3 w7:=HB34.out.trans (m4.mono HB34.out.size);have m0:Below w.heap.size w w7:=HB4.out.trans (m4.mono HB4.out.size);have hz4:=HB34.out.size;have hz3:=Z3.out;have hol:=(Array.getElem?_eq_some_iff.1 hob).1;have g3:=(m3.block (w2.heap.size) (by omega)).trans H3.out;have g5:=(m5.block (w4.heap.size) (by omega)).trans h5;have g6:=(m6.block (w4.heap.size+1) (by omega)).trans h6;have g7:=(m7.block (w4.heap.size+1+1) (by omega)).trans h7
    have hk:=HKEY.out w4 w7 o w2.heap.size w4.heap.size (w4.heap.size+1) (w4.heap.size+1+1) At ct Ap cp Aa ca (fun W hg=>by
     have hbw:Below w3.heap.size w3 W:=hg.old m3 (fun k hk=>by omega) m3.size;have hbw0:Below w.heap.size w W:=hg.old m0 (fun k hk=>by have:=HB4.out.size;omega) m0.size;have hob':=(hbw.block o hol).trans hob;have cc:∀ b,b<w7.heap.size→b≠w4.heap.size+1→W.cell? ⟨b,0,none⟩=w7.cell? ⟨b,0,none⟩:=fun b h1 h2=>hg.cell h1 h2
     have q1:W.cell? ⟨w2.heap.size,0,none⟩=some (.pointer (some ⟨o,0,none⟩)):=(cc (w2.heap.size) (by omega) (by omega)).trans (by simp [World.cell?,g3]);have q2:W.cell? ⟨w4.heap.size,0,none⟩=some (.int .i64 8008):=(cc (w4.heap.size) (by omega) (by omega)).trans (by simp [World.cell?,g5]);have q4:W.cell? ⟨w4.heap.size+1+1,0,none⟩=some (.func (.func 116) #[] #[.pointer (some ⟨w2.heap.size,0,none⟩),.pointer (some ⟨w4.heap.size,0,none⟩),.pointer (some ⟨w4.heap.size+1,0,none⟩),.pointer (some ⟨w4.heap.size+1+1,0,none⟩)]):=(cc (w4.heap.size+1+1) (by omega) (by omega)).trans (by simp [World.cell?,g7])
     exact ⟨q1,q2,q4,by simp [World.cell?,hob'];rfl,by simp [World.cell?,hob'],by simp [World.cell?,hob'];rfl,by simp [World.cell?,hob'];rfl,(t1.below hbw (Nat.le_refl _)).rd (fun _=>rfl) (by omega),HB.out.below hbw0 (Nat.le_refl _),(t2.below hbw (Nat.le_refl _)).rd (fun _=>rfl) (by omega),(t3.below hbw (Nat.le_refl _)).rd (fun _=>rfl) (by omega)⟩)
     ⟨none,0,[],g6,CutsO.nil _ _⟩
    have HK:=Lib.hid hk;have HA:=Lib.hid (show (((w4.alloc (.cells #[.int .i64 8008] 3)).alloc (.cells #[.slice none 0 0] 91)).alloc (.cells #[.func (.func 116) #[] #[.pointer (some ⟨w2.heap.size,0,none⟩),.pointer (some ⟨w4.heap.size,0,none⟩),.pointer (some ⟨w4.heap.size+1,0,none⟩),.pointer (some ⟨w4.heap.size+1+1,0,none⟩)]] 163))=w7 by rw [a5,a6,a7])
    have k9:w7.cell? ⟨w4.heap.size+1+1,0,none⟩=some (.func (.func 116) #[] #[.pointer (some ⟨w2.heap.size,0,none⟩),.pointer (some ⟨w4.heap.size,0,none⟩),.pointer (some ⟨w4.heap.size+1,0,none⟩),.pointer (some ⟨w4.heap.size+1+1,0,none⟩)]):=(by simp [World.cell?,g7])
    have M0:=Lib.hid m0;have Z7:=Lib.hid z7;have eg:=ent_grow;clear hk hob t1 t2 t3 a5 a6 a7 l5 l6 l7 z5 z6 z7 h5 h6 h7 m7 m6 m5 m4 m3 m0 g3 g5 g6 g7 hol hz3 HKEY HC
    go_wp2_with (first
     | rw [HA.out]
     | (go_at_fn 116;refine HK.out.mono ?_;rintro e w8 ⟨rfl,hg8,hout⟩
        obtain ⟨A8,c8,hs8,o1,o2⟩:=hout;have O2:=Lib.hid o2;have HG8:=Lib.hid hg8
        have p8:w8.cell? ⟨w4.heap.size+1,0,none⟩=some (.slice A8 G.length c8):=(by simp [World.cell?,o1])
        clear hg8 o1 o2))
    go_ret2;exact ⟨A8,c8,hs8,rfl,HG8.out.old M0.out (fun k hk=>by have:=HB4.out.size;omega) M0.out.size,O2.out.mono M0.out.size⟩
  · go_enter Tryz.func66,Tryz.ntmps66
    go_upto_region 7 with (first
     | (go_at_call 72;(with_reducible refine HASK.out.mono ?_);rintro e w2 ⟨p,rfl,hb2,hp⟩
        obtain ⟨o,rfl,hOr⟩:=hp rfl;obtain ⟨w3,a3,l3,z3,h3⟩:=alloc_facts w2 (#[.pointer (some ⟨o,0,none⟩)]) 106;have HB3:=Lib.hid (hb2.trans (l3.mono hb2.size));have HO3:=Lib.hid (show OrdAt _ _ _ _ _ _ _ _ _ from hOr.below l3 (Nat.le_refl _));have HC3:=Lib.hid (HC.out _ o w3 (hOr.below l3 (Nat.le_refl _)) (HB.out.below HB3.out (Nat.le_refl _)));have H3:=Lib.hid h3;have hz2:=hb2.size
        have p3:w3.cell? ⟨w2.heap.size,0,none⟩=some (.pointer (some ⟨o,0,none⟩)):=(by simp [World.cell?,h3])
        have Z3:=Lib.hid z3
        clear hOr hp hb2 l3 z3 h3)
     | (go_at_call 76;(with_reducible refine HC3.out.mono ?_);rintro e w4 ⟨A',c',rfl,hb4,hS4⟩
        have HB34:=Lib.hid hb4;have HB4:=Lib.hid (HB3.out.trans (hb4.mono HB3.out.size))
        clear hb4 hS4))
    obtain ⟨ho,At,ct,Ap,cp,Aa,ca,hob,t1,t2,t3⟩:=HO3.out;obtain ⟨w5,a5,l5,z5,h5⟩:=alloc_facts w4 (#[.int .i64 N]) 3;obtain ⟨w6,a6,l6,z6,h6⟩:=alloc_facts w5 (#[.slice none 0 0]) 91;rw [z5] at h6 z6;obtain ⟨w7,a7,l7,z7,h7⟩:=alloc_facts w6 (#[.func (.func 116) #[] #[.pointer (some ⟨w2.heap.size,0,none⟩),.pointer (some ⟨w4.heap.size,0,none⟩),.pointer (some ⟨w4.heap.size+1,0,none⟩),.pointer (some ⟨w4.heap.size+1+1,0,none⟩)]]) 163;rw [z6] at h7 z7;have m7:Below w7.heap.size w7 w7:=Below.refl _ _;have m6:Below w6.heap.size w6 w7:=l7.trans (m7.mono l7.size);have m5:Below w5.heap.size w5 w7:=l6.trans (m6.mono l6.size);have m4:Below w4.heap.size w4 w7:=l5.trans (m5.mono l5.size);have m3:Below w3.heap.size w3 w7:=HB34.out.trans (m4.mono HB34.out.size);have m0:Below w.heap.size w w7:=HB4.out.trans (m4.mono HB4.out.size);have hz4:=HB34.out.size;have hz3:=Z3.out;have hol:=(Array.getElem?_eq_some_iff.1 hob).1;have g3:=(m3.block (w2.heap.size) (by omega)).trans H3.out;have g5:=(m5.block (w4.heap.size) (by omega)).trans h5;have g6:=(m6.block (w4.heap.size+1) (by omega)).trans h6;have g7:=(m7.block (w4.heap.size+1+1) (by omega)).trans h7
    have hk:=HKEY.out w4 w7 o w2.heap.size w4.heap.size (w4.heap.size+1) (w4.heap.size+1+1) At ct Ap cp Aa ca (fun W hg=>by
     have hbw:Below w3.heap.size w3 W:=hg.old m3 (fun k hk=>by omega) m3.size;have hbw0:Below w.heap.size w W:=hg.old m0 (fun k hk=>by have:=HB4.out.size;omega) m0.size;have hob':=(hbw.block o hol).trans hob;have cc:∀ b,b<w7.heap.size→b≠w4.heap.size+1→W.cell? ⟨b,0,none⟩=w7.cell? ⟨b,0,none⟩:=fun b h1 h2=>hg.cell h1 h2
     have q1:W.cell? ⟨w2.heap.size,0,none⟩=some (.pointer (some ⟨o,0,none⟩)):=(cc (w2.heap.size) (by omega) (by omega)).trans (by simp [World.cell?,g3]);have q2:W.cell? ⟨w4.heap.size,0,none⟩=some (.int .i64 N):=(cc (w4.heap.size) (by omega) (by omega)).trans (by simp [World.cell?,g5]);have q4:W.cell? ⟨w4.heap.size+1+1,0,none⟩=some (.func (.func 116) #[] #[.pointer (some ⟨w2.heap.size,0,none⟩),.pointer (some ⟨w4.heap.size,0,none⟩),.pointer (some ⟨w4.heap.size+1,0,none⟩),.pointer (some ⟨w4.heap.size+1+1,0,none⟩)]):=(cc (w4.heap.size+1+1) (by omega) (by omega)).trans (by simp [World.cell?,g7])
     exact ⟨q1,q2,q4,by simp [World.cell?,hob'];rfl,by simp [World.cell?,hob'],by simp [World.cell?,hob'];rfl,by simp [World.cell?,hob'];rfl,(t1.below hbw (Nat.le_refl _)).rd (fun _=>rfl) (by omega),HB.out.below hbw0 (Nat.le_refl _),(t2.below hbw (Nat.le_refl _)).rd (fun _=>rfl) (by omega),(t3.below hbw (Nat.le_refl _)).rd (fun _=>rfl) (by omega)⟩)
     ⟨none,0,[],g6,CutsO.nil _ _⟩
    have HK:=Lib.hid hk;have HA:=Lib.hid (show (((w4.alloc (.cells #[.int .i64 N] 3)).alloc (.cells #[.slice none 0 0] 91)).alloc (.cells #[.func (.func 116) #[] #[.pointer (some ⟨w2.heap.size,0,none⟩),.pointer (some ⟨w4.heap.size,0,none⟩),.pointer (some ⟨w4.heap.size+1,0,none⟩),.pointer (some ⟨w4.heap.size+1+1,0,none⟩)]] 163))=w7 by rw [a5,a6,a7])
    have k9:w7.cell? ⟨w4.heap.size+1+1,0,none⟩=some (.func (.func 116) #[] #[.pointer (some ⟨w2.heap.size,0,none⟩),.pointer (some ⟨w4.heap.size,0,none⟩),.pointer (some ⟨w4.heap.size+1,0,none⟩),.pointer (some ⟨w4.heap.size+1+1,0,none⟩)]):=(by simp [World.cell?,g7])
    have M0:=Lib.hid m0;have Z7:=Lib.hid z7;have eg:=ent_grow;clear hk hob t1 t2 t3 a5 a6 a7 l5 l6 l7 z5 z6 z7 h5 h6 h7 m7 m6 m5 m4 m3 m0 g3 g5 g6 g7 hol hz3 HKEY HC
    go_wp2_with (first
     | rw [HA.out]
     | (go_at_fn 116;refine HK.out.mono ?_;rintro e w8 ⟨rfl,hg8,hout⟩
        obtain ⟨A8,c8,hs8,o1,o2⟩:=hout;have O2:=Lib.hid o2;have HG8:=Lib.hid hg8
        have p8:w8.cell? ⟨w4.heap.size+1,0,none⟩=some (.slice A8 G.length c8):=(by simp [World.cell?,o1])
        clear hg8 o1 o2))
    go_ret2;exact ⟨A8,c8,hs8,rfl,HG8.out.old M0.out (fun k hk=>by have:=HB4.out.size;omega) M0.out.size,O2.out.mono M0.out.size⟩
theorem HdAt.below {W W':World} {A:Option Addr} {n:Nat} {hd:List Hdr} (h:HdAt W A n hd) (hb:Below W.heap.size W W'):HdAt W' A n hd:=
 ⟨h.len,fun hn=>by
   obtain ⟨b,off,e,hlt,hc⟩:=h.at_ hn
   exact ⟨b,off,e,Nat.lt_of_lt_of_le hlt hb.size,fun i x hx=>(hb.cell (p:=⟨b,off+i,none⟩) hlt).trans (hc i x hx)⟩⟩
theorem checkFrom_vals (l:List Trace):∀ (m k:Nat),(checkFrom l m k).2 ∈ [0,1,2,5,6,7]
 | 0,k=>by simp [checkFrom]
 | m+1,k=>by
   rw [checkFrom]
   split
   · simp
   · split
     · unfold follows
       (repeat' split)<;>simp
     · exact checkFrom_vals l m (k+1)
theorem ask_81 (l:List Trace) (known:Int) (bs:List Bond):askErr l known bs≠81:=by
 have h0:(check l).2 ∈ [0,1,2,5,6,7]:=checkFrom_vals l _ _;have h1:checkBonds bs=2∨checkBonds bs=1∨checkBonds bs=0:=by unfold checkBonds;(repeat' split)<;>simp
 rcases askErr_cases l known bs with ⟨_,h⟩|⟨_,_,h⟩|⟨_,_,_,h⟩|⟨_,_,_,_,h⟩|⟨_,_,_,_,h⟩
 · rw [h]
   simp only [List.mem_cons,List.not_mem_nil,or_false] at h0;omega
 all_goals omega
theorem proof_good {l:List Trace} {known:Int} {bs:List Bond} (ha:askErr l known bs=0):checkProofV l known bs (numOf l known bs) (proofV l known bs).1=(true,0):=by
 have hv:(proofV l known bs).1=growR (counting l known) bs (numOf l known bs) ((admitsOf (counting l known)).length+1) []:=by unfold proofV;rw [if_neg (by simpa using ha)]
 have hl:=proof_len ha;rw [hv];unfold checkProofV;rw [if_neg (by simpa using ha),if_neg (by omega)];have h:=grow_ok ha (numOf_le ha) ((admitsOf (counting l known)).length+1) [] [] ((growR (counting l known) bs (numOf l known bs) ((admitsOf (counting l known)).length+1) []).length+1) (with_nil ha) (by simp) (by omega);rw [List.append_nil] at h;rw [provesV_iff.2 h]
theorem stratumProofs_of (lA:Option Addr) (ln lc:Nat) (l:List Trace) (hl0:l.length=ln) (known:Int) (bA:Option Addr) (bn bc:Nat) (b:List Bond) (hb0:b.length=bn) (n:Int) (pA:Option Addr) (pn pc:Nat) (hd:List Hdr) (w:World) (hat:HdAt w pA pn hd) (rl:ln≤17592186044416→Rd encTrace 10 w lA ln lc l) (rb:bn≤17592186044416→Rd encBond 5 w bA bn bc b) (rp:pn≤17592186044416→Rd encHdr 1 w pA pn pc hd) (lk:∀ h∈hd,LinksOk w h):
 Calls Tryz.prog 17 #[.slice lA ln lc,.int .i64 known,.slice bA bn bc,.int .i64 n,.slice pA pn pc] w fun e w'=>e = .returned (.bool true)∧Below w.heap.size w w':=by
 have HDUG:=Lib.hid dug_any
 cases hfew:fewB ln bn 20 with
 | false=>
   have HF:=Lib.hid hfew;clear hfew rl rb rp hl0 hb0 hat lk;go_enter Tryz.func17,Tryz.ntmps17
   go_wp2_with (first
    | (go_at_call 23;(with_reducible refine (few_any _ _ _ _ _ _ _ _).mono ?_);rintro e w2 ⟨rfl,rfl⟩;rw [HF.out])
    | (go_at_call 22;(with_reducible refine (HDUG.out _).mono ?_);rintro e w7 ⟨rfl,hb7⟩;have HB7:=Lib.hid hb7;clear hb7))
   go_ret;exact ⟨rfl,HB7.out⟩
 | true=>
   obtain ⟨hn,hm⟩:=fewB_small hfew (by decide);have HF:=Lib.hid hfew
   have RL:Hid (∀ W,Below w.heap.size w W→Rd encTrace 10 W lA ln lc l):=(show ∀ W,_→_ from fun W h=>(rl (by omega)).below h (Nat.le_refl _))
   have RB:Hid (∀ W,Below w.heap.size w W→Rd encBond 5 W bA bn bc b):=(show ∀ W,_→_ from fun W h=>(rb (by omega)).below h (Nat.le_refl _))
   have HB1:=Lib.hid (Below.refl w.heap.size w);have HM:=Lib.hid (moderate_any lA ln lc l known bA bn bc b none 0 0 w (RL.out w HB1.out) (RB.out w HB1.out))
   have HSL:Hid (∀ W,Below w.heap.size w W→Calls Tryz.prog 63 #[.slice pA pn pc] W fun e w'=>e = .returned (.bool (slightB hd))∧w'=W):=(show ∀ W,_→_ from fun W h=>slight_any pA pn pc hd W (hat.below h))
   have hpl:=hat.len;clear hfew rl rb hl0 hb0 hat
   cases hsl:slightB hd with
   | false=>
     rw [hsl] at HSL;clear hsl rp lk hpl;go_enter Tryz.func17,Tryz.ntmps17
     go_wp2_with (first
      | (go_at_call 23;(with_reducible refine (few_any _ _ _ _ _ _ _ _).mono ?_);rintro e w2 ⟨rfl,rfl⟩;rw [HF.out])
      | (go_at_call 24;(with_reducible refine HM.out.mono ?_);rintro e w3 ⟨md,rfl,hb3⟩;have HB3:=Lib.hid hb3;clear hb3)
      | (go_at_call 63;(with_reducible refine (HSL.out _ HB3.out).mono ?_);rintro e w2 ⟨rfl,hw2⟩;obtain rfl:=hw2.symm)
      | (go_at_call 22;(with_reducible refine (HDUG.out _).mono ?_);rintro e w7 ⟨rfl,hb7⟩;have HB7:=Lib.hid (HB3.out.trans (hb7.mono HB3.out.size));clear hb7))
     all_goals
      go_ret;exact ⟨rfl,HB7.out⟩
   | true=>
     rw [hsl] at HSL;unfold slightB at hsl;rw [Bool.and_eq_true,decide_eq_true_eq] at hsl;obtain ⟨hall,h40⟩:=hsl;rw [List.take_of_length_le h40] at hall;have h30:∀ h∈hd,h.n≤30:=fun h hh=>by have:=List.all_eq_true.1 hall h hh;simpa using this
     obtain ⟨cuts,hc1,hc2⟩:=cuts_of hd fun h hh=>⟨lk h hh,h30 h hh⟩
     have hcut:CutsAt w pA pn pc hd cuts:=⟨rp (by omega),by omega,hc2⟩
     have hbig:∀ h∈hd,h.n≤1000000:=fun h hh=>by have:=h30 h hh;omega
     have K1:=Lib.hid (fun W (h:Below w.heap.size w W)=>Proof_any lA ln lc l known bA bn bc b W (RL.out W h) (RB.out W h))
     have K2:Hid (∀ W,Below w.heap.size w W→Calls Tryz.prog 35 #[.slice lA ln lc,.int .i64 known,.slice bA bn bc] W fun e w'=> ∃ A' c',e = .returned (.tuple #[.int .i64 (cheapV l known b).1,.slice A' (cheapV l known b).2.1.length c',.int .i64 (cheapV l known b).2.2])∧Below W.heap.size W w'):=
      (show ∀ W,_→_ from fun W h=>(Cheapest_any lA ln lc l known bA bn bc b W (RL.out W h) (RB.out W h)).mono (by rintro e w' ⟨A',c',h1,h2,_⟩;exact ⟨A',c',h1,h2⟩))
     have K3:=Lib.hid (fun W (h:Below w.heap.size w W)=>CheckProof_any lA ln lc l known bA bn bc b n pA pn pc hd cuts W (RL.out W h) (RB.out W h) (hcut.below h) hbig);have K4:=Lib.hid (fun W (h:Below w.heap.size w W)=>rCheckProof_any lA ln lc l known bA bn bc b n pA pn pc hd cuts W (RL.out W h) (RB.out W h) (hcut.below h) hbig);clear rp lk hall h30 hbig hcut hc1 hc2
     obtain ⟨⟨pv,pe⟩,hpv⟩:∃ q,checkProofV l known b n cuts=q:=⟨_,rfl⟩
     rw [hpv] at K3 K4;simp only at K3 K4;clear hpv;have hpp:(pv != pv)=false:=by cases pv<;>rfl
     have hpq:(pe != pe)=false:=by simp
     by_cases ha:askErr l known b=0
     case neg=>
      have hv1:proofV l known b=([],askErr l known b):=by unfold proofV;rw [if_pos ha]
      have hv2:cheapV l known b=(0,[],askErr l known b):=by unfold cheapV;rw [if_pos ha]
      have h81:(askErr l known b==81)=false:=beq_eq_false_iff_ne.2 (ask_81 l known b);rw [hv1] at K1;rw [hv2] at K2;have ha':(askErr l known b != 0)=true:=by simpa using ha
      have ha2:(askErr l known b==askErr l known b)=true:=by simp
      generalize askErr l known b=er at *;simp only [List.length_nil] at K1 K2;clear hv1 hv2 ha;go_enter Tryz.func17,Tryz.ntmps17
      go_upto_region 3 with (first
       | (go_at_call 23;(with_reducible refine (few_any _ _ _ _ _ _ _ _).mono ?_);rintro e w2 ⟨rfl,rfl⟩;rw [HF.out])
       | (go_at_call 24;(with_reducible refine HM.out.mono ?_);rintro e w3 ⟨md,rfl,hb3⟩;have HB3:=Lib.hid hb3;clear hb3)
       | (go_at_call 63;(with_reducible refine (HSL.out _ HB3.out).mono ?_);rintro e w2 ⟨rfl,hw2⟩;obtain rfl:=hw2.symm)
       | (go_at_call 22;(with_reducible refine (HDUG.out _).mono ?_);rintro e w7 ⟨rfl,hb7⟩;have HB7:=Lib.hid (HB3.out.trans (hb7.mono HB3.out.size));clear hb7))
      all_goals first
       | (go_ret;exact ⟨rfl,HB7.out⟩)
       | skip
      go_wp2_with (first
       | (go_at_call 66;(with_reducible refine (K1.out _ HB3.out).mono ?_);rintro e w4 ⟨A4,c4,h4,rfl,hb4,_⟩;have HB4:=Lib.hid (HB3.out.trans (hb4.mono HB3.out.size));clear hb4)
       | (go_at_call 35;(with_reducible refine (K2.out _ HB4.out).mono ?_);rintro e w5 ⟨A5,c5,rfl,hb5⟩;have HB5:=Lib.hid (HB4.out.trans (hb5.mono HB4.out.size));clear hb5)
       | (go_at_call 64;(with_reducible refine (K3.out _ HB5.out).mono ?_);rintro e w6 ⟨rfl,hb6⟩;have HB6:=Lib.hid (HB5.out.trans (hb6.mono HB5.out.size));clear hb6)
       | (go_at_call 67;(with_reducible refine (K4.out _ HB6.out).mono ?_);rintro e w8 ⟨rfl,hb8⟩;have HB8:=Lib.hid (HB6.out.trans (hb8.mono HB6.out.size));clear hb8)
       | (go_at_call 22;(with_reducible refine (HDUG.out _).mono ?_);rintro e w9 ⟨rfl,hb9⟩;have HB9:=Lib.hid (HB8.out.trans (hb9.mono HB8.out.size));clear hb9))
      go_ret;exact ⟨rfl,HB9.out⟩
     case pos=>
      have hgood:=proof_good ha;have hv1:proofV l known b=((proofV l known b).1,0):=by unfold proofV;rw [if_neg (by simpa using ha)]
      have hpl2:(proofV l known b).1.length≤109601:=by
       have:=proof_len ha;unfold proofV;rw [if_neg (by simpa using ha)];exact this
      have hps:∀ s∈(proofV l known b).1,s.length≤60:=by
       have:=grow_small ha (numOf l known b) ((admitsOf (counting l known)).length+1) [];unfold proofV;rw [if_neg (by simpa using ha)];exact this
      rw [hv1] at K1;simp only at K1
      have K5:Hid (∀ W A c hs,Below w.heap.size w W→CutsO 0 W A c (proofV l known b).1 hs→Calls Tryz.prog 64 #[.slice lA ln lc,.int .i64 known,.slice bA bn bc,.int .i64 (numOf l known b),.slice A (proofV l known b).1.length c] W fun e w'=>e = .returned (.tuple #[.bool true,.int .i64 0])∧Below W.heap.size W w'):=
       (show ∀ W A c hs,_→_→_ from fun W A c hs h hO=>by
         obtain ⟨h1,h2⟩:=hO.at (by omega) hps;have:=CheckProof_any lA ln lc l known bA bn bc b (numOf l known b) A (proofV l known b).1.length c hs (proofV l known b).1 W (RL.out W h) (RB.out W h) h1 h2
         rwa [hgood] at this)
      have K6:Hid (∀ W A c hs,Below w.heap.size w W→CutsO 0 W A c (proofV l known b).1 hs→Calls Tryz.prog 67 #[.slice lA ln lc,.int .i64 known,.slice bA bn bc,.int .i64 (numOf l known b),.slice A (proofV l known b).1.length c] W fun e w'=>e = .returned (.tuple #[.bool true,.int .i64 0])∧Below W.heap.size W w'):=
       (show ∀ W A c hs,_→_→_ from fun W A c hs h hO=>by
         obtain ⟨h1,h2⟩:=hO.at (by omega) hps;have:=rCheckProof_any lA ln lc l known bA bn bc b (numOf l known b) A (proofV l known b).1.length c hs (proofV l known b).1 W (RL.out W h) (RB.out W h) h1 h2
         rwa [hgood] at this)
      have hcases:(∃ z s,cheapV l known b=(z,s,81)∧numOf l known b=8008)∨(∃ s,cheapV l known b=(numOf l known b,s,0)):=by
       rcases cheapV_is ha with ⟨h1,h2⟩|⟨s,h1,h2⟩
       · exact .inl ⟨_,_,h2,by unfold numOf;rw [if_pos h1]⟩
       · refine .inr ⟨s,?_⟩
         rw [h2];unfold numOf;rw [if_neg (fun e=>by rw [e] at h1;cases h1)]
      clear hgood hv1 hps ha;generalize (proofV l known b).1=G at *;generalize numOf l known b=N at *;generalize cheapV l known b=CV at *
      rcases hcases with ⟨z,s,rfl,rfl⟩|⟨s,rfl⟩
      all_goals
       simp only at K2;go_enter Tryz.func17,Tryz.ntmps17
       go_upto_region 3 with (first
        | (go_at_call 23;(with_reducible refine (few_any _ _ _ _ _ _ _ _).mono ?_);rintro e w2 ⟨rfl,rfl⟩;rw [HF.out])
        | (go_at_call 24;(with_reducible refine HM.out.mono ?_);rintro e w3 ⟨md,rfl,hb3⟩;have HB3:=Lib.hid hb3;clear hb3)
        | (go_at_call 63;(with_reducible refine (HSL.out _ HB3.out).mono ?_);rintro e w2 ⟨rfl,hw2⟩;obtain rfl:=hw2.symm)
        | (go_at_call 22;(with_reducible refine (HDUG.out _).mono ?_);rintro e w7 ⟨rfl,hb7⟩;have HB7:=Lib.hid (HB3.out.trans (hb7.mono HB3.out.size));clear hb7))
       all_goals first
        | (go_ret;exact ⟨rfl,HB7.out⟩)
        | skip
       go_wp2_with (first
        | (go_at_call 66;(with_reducible refine (K1.out _ HB3.out).mono ?_);rintro e w4 ⟨A4,c4,h4,rfl,hb4,hO4⟩
           have HB4:=Lib.hid (HB3.out.trans (hb4.mono HB3.out.size));have HO4:=Lib.hid (hO4.mono (Nat.zero_le _))
           clear hb4 hO4)
        | (go_at_call 35;(with_reducible refine (K2.out _ HB4.out).mono ?_);rintro e w5 ⟨A5,c5,rfl,hb5⟩
           have HB5:=Lib.hid (HB4.out.trans (hb5.mono HB4.out.size));have HO5:=Lib.hid (HO4.out.below hb5)
           clear hb5)
        | (go_at_call 64;(with_reducible refine (K3.out _ HB5.out).mono ?_);rintro e w6 ⟨rfl,hb6⟩
           have HB6:=Lib.hid (HB5.out.trans (hb6.mono HB5.out.size));have HO6:=Lib.hid (HO5.out.below hb6)
           clear hb6)
        | (go_at_call 67;(with_reducible refine (K4.out _ HB6.out).mono ?_);rintro e w8 ⟨rfl,hb8⟩
           have HB8:=Lib.hid (HB6.out.trans (hb8.mono HB6.out.size));have HO8:=Lib.hid (HO6.out.below hb8)
           clear hb8)
        | (go_at_call 67;(with_reducible refine (K6.out _ _ _ _ HB8.out HO8.out).mono ?_);rintro e w10 ⟨rfl,hb10⟩
           have HB10:=Lib.hid (HB8.out.trans (hb10.mono HB8.out.size));have HO10:=Lib.hid (HO8.out.below hb10)
           clear hb10)
        | (go_at_call 64;(with_reducible refine (K5.out _ _ _ _ HB10.out HO10.out).mono ?_);rintro e w11 ⟨rfl,hb11⟩
           have HB11:=Lib.hid (HB10.out.trans (hb11.mono HB10.out.size))
           clear hb11)
        | (go_at_call 22;(with_reducible refine (HDUG.out _).mono ?_);rintro e w9 ⟨rfl,hb9⟩;have HB9:=Lib.hid (HB11.out.trans (hb9.mono HB11.out.size));clear hb9))
       go_ret;exact ⟨rfl,HB9.out⟩
end Go.Proofs.YtelnkflmnbhclaaGreat
end

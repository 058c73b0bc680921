/- Contracts that the laws lean on: LinM. -/
import Derived.Test.YtejjplhknacoiaaGreatDoorLH02
import Derived.Test.YtejjplhknacoiaaGreatDoorLH01
set_option maxRecDepth 100000
set_option maxHeartbeats 8000000
section
namespace Go.Proofs.YtejjplhknacoiaaGreatDoor
open Go.RowKit Go.Proofs
def RwI (k:Int) (S1:ByteArray) (w:World):List Value→World→Prop
 | [],W=>Below w.heap.size w W
 | [v],W=>Below w.heap.size w W∧∃ nb,v = .slice (some ⟨nb,0,none⟩) 1 1∧W.heap[nb]? = some (.cells #[.int .i64 k] 3 (0,0))
 | [v,u],W=>Below w.heap.size w W∧(∃ nb,v = .slice (some ⟨nb,0,none⟩) 1 1)∧u = .string S1
 | _,_=>False
theorem RwI.b {k:Int} {S1:ByteArray} {w:World} :∀ {cv:List Value} {W:World},RwI k S1 w cv W→Below w.heap.size w W
 | [],_,h=>h
 | [_],_,h=>h.1
 | [_,_],_,h=>h.1
 | _::_::_::_,_,h=>h.elim
def codeRw8:Option Code→Code
 | some (.seq _ (.seq _ (.seq c _)))=>c
 | _=> .skip
theorem RwI.keep {k:Int} {S1:ByteArray} {w:World} :∀ {cv:List Value} {W W':World},RwI k S1 w cv W→Below W.heap.size W W'→RwI k S1 w cv W'
 | [],_,_,h,hb=>(show Below _ _ _ from h).trans (hb.mono (show Below _ _ _ from h).size)
 | [_],_,_,⟨h,nb,e,hh⟩,hb=>⟨h.trans (hb.mono h.size),nb,e,(hb.block nb (Array.getElem?_eq_some_iff.1 hh).1).trans hh⟩
 | [_,_],_,_,⟨h,h2⟩,hb=>⟨h.trans (hb.mono h.size),h2⟩
 | _::_::_::_,_,_,h,_=>h.elim
def Trw8 (g:Nat) (p0 p1:Int) (S0 S1:ByteArray) (cv:List Value):List Value:=
 [.pointer (some ⟨g,0,none⟩),.int .i64 p0,.string S0,.pointer (some ⟨g,0+1,none⟩),.int .i64 p1,cv.getD 0 undef,cv.getD 1 undef,.string (S0++S1),.string (S0++S1)]
theorem rw8 (cC:Code) (hc:cC=codeRw8 Tryz.f6.body) (g:Nat) (p0 p1:Int) (S0 S1:ByteArray) (a:Act) (w:World) (Q:Exit→Act→World→Prop)
 (hT:a.tmps.size=67) (t1:a.tmps.getD 1 undef = .pointer (some ⟨g,0,none⟩))
 (CE:∀ W,Below w.heap.size w W→W.cell? ⟨g,0,none⟩=some (.int .i64 p0)∧W.cell? ⟨g,1,none⟩=some (.int .i64 p1))
 (CD:∀ W,Calls Tryz.prog 22 #[.int .i64 p0] W fun e w'=>e = .returned (.string S0)∧Below W.heap.size W w')
 (CR:∀ W nb,W.heap[nb]? = some (.cells #[.int .i64 p1] 3 (0,0))→Calls Tryz.prog 23 #[.slice (some ⟨nb,0,none⟩) 1 1] W fun e w'=>e = .returned (.string S1)∧Below W.heap.size W w') (z0:S0.size≤8) (z1:S1.size≤100)
 (hQ:∀ (nb:Nat) W,Below w.heap.size w W→Q .normal { tmps:=(setsL (a.tmps) 8 [.pointer (some ⟨g,0,none⟩),.int .i64 p0,.string S0,.pointer (some ⟨g,0+1,none⟩),.int .i64 p1,.slice (some ⟨nb,0,none⟩) 1 1,.string S1,.string (S0++S1)]).setIfInBounds 4 (.string (S0++S1)),defers:=a.defers } W):
 cC.wp Tryz.prog Q a w:=by
 subst hc
 unfold codeRw8 Tryz.f6
 dsimp only
 refine wpIn_wide.1 (wpIn_region_chain (nn:=5) 67 (by kernel_rfl) (by kernel_rfl) (by kernel_rfl) hT (fun i cv=>(Trw8 g p0 p1 S0 S1 cv).getD i undef) (fun i=>([0,0,0,0,0,0,0,2,2]:List Nat).getD i 0) (fun i=>([1,1,1,0,0,1,2,2,2]:List Nat).getD i 0) [5,6] (by kernel_rfl) (by kernel_rfl) (by kernel_rfl) (by kernel_rfl) (RwI p1 S1 w) ((Below.refl _ _).drew) (fun b cv hE hold=> ?_) (fun cv W hl hI=> ?_))
 · clear hQ
   have q1:=hold 1 _ (by kernel_rfl) t1
   simp only [factsL,Vc,idxC,Trw8,List.getD_cons_zero,List.getD_cons_succ,Nat.reduceAdd,Nat.reduceEqDiff,reduceIte,Option.map_some,Option.map_none] at hE
   repeat' first|exact chain_nil|refine chain_op 0 rfl rfl ?_ ?_|refine chain_op 1 rfl rfl ?_ ?_|refine chain_skip rfl rfl rfl rfl ?_|refine chain_quiet rfl rfl ?_ ?_
   all_goals intro hl
   any_goals (
    intro hl2;simp only [List.getD_cons_zero,List.getD_cons_succ,Nat.reduceAdd] at hl hl2
    first
     | (obtain rfl:=List.eq_nil_of_length_eq_zero (Nat.le_zero.1 hl2);intro W hW;have hWb:Below w.heap.size w W:=hW;obtain ⟨c0,c1⟩:=CE W hWb;simp only [Trw8,List.getD_cons_zero,List.getD_cons_succ,Nat.reduceAdd]
        first
         | (refine .inl ?_;go_simp;done)
         | (refine .inl ?_;go_simp;rfl)
         | (refine .inl ?_;go_simp;omega)
         | (refine .inr (.inr ⟨22,#[.int .i64 p0],?_,(CD W).mono ?_⟩)
            · go_simp<;>done
            · rintro e w' ⟨rfl,hb'⟩;exact ⟨rfl,hWb.trans (hb'.mono hWb.size)⟩))
     | (intro W hW;simp only [Trw8,List.getD_cons_zero,List.getD_cons_succ,Nat.reduceAdd];refine .inl ?_;go_simp;(try rfl);done)
     | (intro W hW;have hWb:Below w.heap.size w W:=RwI.b hW;obtain ⟨c0,c1⟩:=CE W hWb;simp only [Trw8,List.getD_cons_zero,List.getD_cons_succ,Nat.reduceAdd]
        first
         | (refine .inl ?_;go_simp;done)
         | (refine .inl ?_;go_simp;rfl)
         | (refine .inl ?_;go_simp;omega)
         | (refine .inr (.inr ⟨22,#[.int .i64 p0],?_,(CD W).mono ?_⟩)
            · go_simp<;>done
            · rintro e w' ⟨rfl,hb'⟩;exact ⟨rfl,RwI.keep hW hb'⟩))
     | (intro W hW;obtain ⟨v,u,rfl⟩:=len2 (Nat.le_antisymm hl2 hl);obtain ⟨hWb,⟨nb,rfl⟩,rfl⟩:=hW;simp only [Trw8,List.getD_cons_zero,List.getD_cons_succ,Nat.reduceAdd] at hE ⊢;refine .inl ?_;go_simp;first|done|rfl|omega)
    done)
   · obtain rfl:=List.eq_nil_of_length_eq_zero hl
     intro W hW
     have hWb:Below w.heap.size w W:=hW
     obtain ⟨c0,c1⟩:=CE W hWb
     refine .inl ⟨.slice (some ⟨W.heap.size,0,none⟩) 1 1,W.alloc (.cells #[.int .i64 p1] 3),.inl ?_,hWb.alloc hWb.size _,_,rfl,heap_alloc_new W _⟩
     go_simp
   · obtain ⟨v,rfl⟩:=len1 hl
     rintro W ⟨hWb,nb,rfl,hh⟩
     simp only [List.getD_cons_zero] at hE
     refine .inr ⟨23,#[.slice (some ⟨nb,0,none⟩) 1 1],?_,(CR W nb hh).mono ?_⟩
     · go_simp
     · rintro e w' ⟨rfl,hb'⟩;exact ⟨_,rfl,hWb.trans (hb'.mono hWb.size),⟨nb,rfl⟩,rfl⟩
 · match cv,hl,hI with
   | [_,_],_,⟨hb,⟨nb,e1⟩,e2⟩=>subst e1 e2;exact hQ nb W hb
theorem txt1 {x:Trace} (h:x.kind=1):((bsL (Lib.itoa x.id)++bsL (rowT [x.known]))++(⟨#[32,97,98,111,118,101]⟩:ByteArray))++bsL (rowT [x.pit,x.layer,x.lower])=bsL (textT x):=by
 rw [show (⟨#[32,97,98,111,118,101]⟩:ByteArray)=bsL [32,97,98,111,118,101] from rfl,bsL_app,bsL_app,bsL_app]
 congr 1
 simp [textT,wordsT,tailT,kindB,rowT,h,join_more,Lib.join_one]
theorem txt2 {x:Trace} (h:x.kind=2):((bsL (Lib.itoa x.id)++bsL (rowT [x.known]))++(⟨#[32,100,97,116,101,100]⟩:ByteArray))++bsL (rowT [x.pit,x.layer,x.low,x.high])=bsL (textT x):=by
 rw [show (⟨#[32,100,97,116,101,100]⟩:ByteArray)=bsL [32,100,97,116,101,100] from rfl,bsL_app,bsL_app,bsL_app]
 congr 1
 simp [textT,wordsT,tailT,kindB,rowT,h,join_more,Lib.join_one]
theorem txt3 {x:Trace} (h:x.kind=3):((bsL (Lib.itoa x.id)++bsL (rowT [x.known]))++(⟨#[32,109,111,118,101,100]⟩:ByteArray))++bsL (rowT [x.pit,x.layer,x.cost])=bsL (textT x):=by
 rw [show (⟨#[32,109,111,118,101,100]⟩:ByteArray)=bsL [32,109,111,118,101,100] from rfl,bsL_app,bsL_app,bsL_app]
 congr 1
 simp [textT,wordsT,tailT,kindB,rowT,h,join_more,Lib.join_one]
theorem txt4 {x:Trace} (h:x.kind=4):((bsL (Lib.itoa x.id)++bsL (rowT [x.known]))++(⟨#[32,118,111,105,100]⟩:ByteArray))++bsL (rowT [x.void])=bsL (textT x):=by
 rw [show (⟨#[32,118,111,105,100]⟩:ByteArray)=bsL [32,118,111,105,100] from rfl,bsL_app,bsL_app,bsL_app]
 congr 1
 simp [textT,wordsT,tailT,kindB,rowT,h,join_more,Lib.join_one]
theorem row_at (nb:Nat) (vs:Array Value) (zs:List Int) (n:Nat) (W:World) (hh:W.heap[nb]? = some (.cells vs 3 (0,0))) (hv:vs=(zs.map (Value.int .i64 ·)).toArray) (hn:zs.length=n) (hl:n≤10) (hz:∀ z∈zs,-10000≤z∧z≤1000000):
 Calls Tryz.prog 23 #[.slice (some ⟨nb,0,none⟩) n n] W fun e w'=>e = .returned (.string (bsL (rowT zs)))∧Below W.heap.size W w':=by
 subst hn hv
 refine row_any nb _ zs W ⟨rfl,by omega,⟨Nat.le_refl _,by omega⟩,fun _=>⟨nb,0,rfl,(Array.getElem?_eq_some_iff.1 hh).1,fun i x hx j u hu=> ?_⟩⟩ hl hz
 unfold encInt at hu
 have hj:j=0:=by
  rcases j with _|j
  · rfl
  · simp at hu
 subst hj
 simp only [List.getElem?_cons_zero,Option.some.injEq] at hu
 subst hu
 simp [World.cell?,hh,hx]
theorem r8Write_any (x:Trace) (w:World):Calls Tryz.prog 6 #[.agg #[.int .i64 x.id,.int .i64 x.known,.int .u8 x.kind,.int .i64 x.pit,.int .i64 x.layer,.int .i64 x.lower,.int .i64 x.low,.int .i64 x.high,.int .i64 x.cost,.int .i64 x.void]] w fun e w'=>e = .returned (.tuple #[.string (textV x),.int .i64 (checkTrace x)])∧Below w.heap.size w w':=by
 obtain ⟨w1,hw1,hb1,hz1,e1⟩:=alloc_facts w #[.int .i64 x.id,.int .i64 x.known,.int .u8 x.kind,.int .i64 x.pit,.int .i64 x.layer,.int .i64 x.lower,.int .i64 x.low,.int .i64 x.high,.int .i64 x.cost,.int .i64 x.void] 23
 have HW1:=Lib.hid hw1
 have HB1:=Lib.hid hb1
 have HCE:Hid (∀ W,Below w1.heap.size w1 W→W.cell? ⟨w.heap.size,0,none⟩=some (.int .i64 x.id)∧W.cell? ⟨w.heap.size,1,none⟩=some (.int .i64 x.known)∧W.cell? ⟨w.heap.size,2,none⟩=some (.int .u8 x.kind)∧W.cell? ⟨w.heap.size,3,none⟩=some (.int .i64 x.pit)∧W.cell? ⟨w.heap.size,4,none⟩=some (.int .i64 x.layer)∧W.cell? ⟨w.heap.size,5,none⟩=some (.int .i64 x.lower)∧W.cell? ⟨w.heap.size,6,none⟩=some (.int .i64 x.low)∧W.cell? ⟨w.heap.size,7,none⟩=some (.int .i64 x.high)∧W.cell? ⟨w.heap.size,8,none⟩=some (.int .i64 x.cost)∧W.cell? ⟨w.heap.size,9,none⟩=some (.int .i64 x.void)):=(show ∀ W,_→_ from fun W h=>by
  have hh:=(h.block w.heap.size (by omega)).trans e1
  simp [World.cell?,hh])
 have KC:=Lib.hid (fun W=>rCheckTrace_any x.id x.known x.kind x.pit x.layer x.lower x.low x.high x.cost x.void W)
 obtain ⟨y0,y1,y2,y3,y4,y5,y6,y7,y8,y9⟩:=HCE.out w1 (Below.refl _ _)
 have HZ:=Lib.hid hz1
 clear hw1 hb1 e1 hz1
 cases hok:okTr x with
 | false=>
   obtain ⟨t1,t2⟩:=bad_ok hok
   rw [t1,t2]
   rw [show checkTrace ⟨x.id,x.known,x.kind,x.pit,x.layer,x.lower,x.low,x.high,x.cost,x.void⟩=1 from t2] at KC
   clear hok t1 t2
   go_enter Tryz.func6,Tryz.ntmps6
   go_wp2_with (first
    | rw [HW1.out]
    | (go_at_call 21;(with_reducible refine (KC.out _).mono ?_);rintro e w2 ⟨rfl,hb2⟩;have HB2:=Lib.hid hb2;clear hb2))
   go_ret2
   exact ⟨rfl,HB1.out.trans (HB2.out.mono HB1.out.size)⟩
 | true=>
   obtain ⟨t1,t2⟩:=good_ok hok
   obtain ⟨hkk,-,-⟩:=okTr_kind hok
   obtain ⟨r1,r2,r3⟩:=okTr_rng hok
   rw [t1,t2]
   rw [show checkTrace ⟨x.id,x.known,x.kind,x.pit,x.layer,x.lower,x.low,x.high,x.cost,x.void⟩=0 from t2] at KC
   have HTX:Hid ((⟨(textT x).toArray⟩:ByteArray)=bsL (textT x)):=(show _=_ from rfl)
   rw [HTX.out]
   have KD:Hid (∀ W,Calls Tryz.prog 22 #[.int .i64 x.id] W fun e w'=>e = .returned (.string (bsL (Lib.itoa x.id)))∧Below W.heap.size W w'):=(show ∀ W,_ from fun W=>digits_any x.id (by omega) (by omega) W)
   have KR0:Hid (∀ W nb,W.heap[nb]? = some (.cells #[.int .i64 x.known] 3 (0,0))→Calls Tryz.prog 23 #[.slice (some ⟨nb,0,none⟩) 1 1] W fun e w'=>e = .returned (.string (bsL (rowT [x.known])))∧Below W.heap.size W w'):=(show ∀ W nb,_→_ from fun W nb hh=>row_at nb _ [x.known] 1 W hh rfl rfl (by decide) (by intro z hz;rw [List.mem_singleton] at hz;omega))
   have z0:(bsL (Lib.itoa x.id)).size≤8:=itoa_len (by omega) (by omega)
   have z1:(bsL (rowT [x.known])).size≤9:=rowT_len [x.known] (by intro z hz;rw [List.mem_singleton] at hz;omega)
   rcases hkk with hk|hk|hk|hk
   · have hzs:∀ z∈([x.pit,x.layer,x.lower]:List Int),-10000≤z∧z≤1000000:=(fun z hz=>r3 z (by unfold tailT;rw [hk];simpa using hz))
     have KR1:Hid (∀ W nb,W.heap[nb]? = some (.cells #[.int .i64 x.pit,.int .i64 x.layer,.int .i64 x.lower] 3 (0,0))→Calls Tryz.prog 23 #[.slice (some ⟨nb,0,none⟩) 3 3] W fun e w'=>e = .returned (.string (bsL (rowT [x.pit,x.layer,x.lower])))∧Below W.heap.size W w'):=(show ∀ W nb,_→_ from fun W nb hh=>row_at nb _ [x.pit,x.layer,x.lower] 3 W hh rfl rfl (by decide) hzs)
     have z2:(bsL (rowT [x.pit,x.layer,x.lower])).size≤27:=rowT_len [x.pit,x.layer,x.lower] hzs
     have HTT:=Lib.hid (txt1 hk)
     clear hzs r1 r2 r3 hok t1 t2
     rw [hk] at KC y2
     have HKE:Hid (∀ W,Below w1.heap.size w1 W→W.cell? ⟨w.heap.size,2,none⟩=some (.int .u8 1)):=(show ∀ W,_→_ from fun W h=>by rw [←hk];exact (HCE.out W h).2.2.1)
     have HKX:Hid (x.kind=1):=(show _=_ from hk)
     generalize bsL (Lib.itoa x.id)=S0 at *
     generalize bsL (rowT [x.known])=S1 at *
     generalize bsL (rowT [x.pit,x.layer,x.lower])=S2 at *
     generalize bsL (textT x)=ST at *
     clear hk
     go_enter Tryz.func6,Tryz.ntmps6
     go_upto_region 3 with (first
      | rw [HW1.out]
      | (go_at_call 21;(with_reducible refine (KC.out _).mono ?_);rintro e w2 ⟨rfl,hb2⟩;have HB2:=Lib.hid hb2;clear hb2))
     refine rw8 _ rfl w.heap.size x.id x.known S0 S1 _ w2 _ rfl rfl (fun W hW=>⟨(HCE.out W (HB2.out.trans (hW.mono HB2.out.size))).1,(HCE.out W (HB2.out.trans (hW.mono HB2.out.size))).2.1⟩) (fun W=>KD.out W) (fun W nb hh=>KR0.out W nb hh) z0 (by omega) ?_
     intro nb w4 hb4
     have HB4:=Lib.hid (HB2.out.trans (hb4.mono HB2.out.size))
     obtain ⟨v0,v1,v2,v3,v4,v5,v6,v7,v8,v9⟩:=HCE.out w4 HB4.out
     rw [HKX.out] at v2
     clear hb4
     simp only [setsL,Nat.reduceAdd,List.setIfInBounds_toArray,List.set_cons_succ,List.set_cons_zero]
     go_wp2_with (go_at_call 23;(with_reducible refine (KR1.out _ _ (heap_alloc_new w4 _)).mono ?_);rintro e w5 ⟨rfl,hb5⟩;have HB5:=Lib.hid ((HB4.out.alloc HB4.out.size _).trans (hb5.mono (by have:=HB4.out.size;simp;omega)));clear hb5)
     go_ret2
     exact ⟨by rw [HTT.out];rfl,HB1.out.trans (HB5.out.mono HB1.out.size)⟩
   · have hzs:∀ z∈([x.pit,x.layer,x.low,x.high]:List Int),-10000≤z∧z≤1000000:=(fun z hz=>r3 z (by unfold tailT;rw [hk];simpa using hz))
     have KR1:Hid (∀ W nb,W.heap[nb]? = some (.cells #[.int .i64 x.pit,.int .i64 x.layer,.int .i64 x.low,.int .i64 x.high] 3 (0,0))→Calls Tryz.prog 23 #[.slice (some ⟨nb,0,none⟩) 4 4] W fun e w'=>e = .returned (.string (bsL (rowT [x.pit,x.layer,x.low,x.high])))∧Below W.heap.size W w'):=(show ∀ W nb,_→_ from fun W nb hh=>row_at nb _ [x.pit,x.layer,x.low,x.high] 4 W hh rfl rfl (by decide) hzs)
     have z2:(bsL (rowT [x.pit,x.layer,x.low,x.high])).size≤36:=rowT_len [x.pit,x.layer,x.low,x.high] hzs
     have HTT:=Lib.hid (txt2 hk)
     clear hzs r1 r2 r3 hok t1 t2
     rw [hk] at KC y2
     have HKE:Hid (∀ W,Below w1.heap.size w1 W→W.cell? ⟨w.heap.size,2,none⟩=some (.int .u8 2)):=(show ∀ W,_→_ from fun W h=>by rw [←hk];exact (HCE.out W h).2.2.1)
     have HKX:Hid (x.kind=2):=(show _=_ from hk)
     generalize bsL (Lib.itoa x.id)=S0 at *
     generalize bsL (rowT [x.known])=S1 at *
     generalize bsL (rowT [x.pit,x.layer,x.low,x.high])=S2 at *
     generalize bsL (textT x)=ST at *
     clear hk
     go_enter Tryz.func6,Tryz.ntmps6
     go_upto_region 3 with (first
      | rw [HW1.out]
      | (go_at_call 21;(with_reducible refine (KC.out _).mono ?_);rintro e w2 ⟨rfl,hb2⟩;have HB2:=Lib.hid hb2;clear hb2))
     refine rw8 _ rfl w.heap.size x.id x.known S0 S1 _ w2 _ rfl rfl (fun W hW=>⟨(HCE.out W (HB2.out.trans (hW.mono HB2.out.size))).1,(HCE.out W (HB2.out.trans (hW.mono HB2.out.size))).2.1⟩) (fun W=>KD.out W) (fun W nb hh=>KR0.out W nb hh) z0 (by omega) ?_
     intro nb w4 hb4
     have HB4:=Lib.hid (HB2.out.trans (hb4.mono HB2.out.size))
     obtain ⟨v0,v1,v2,v3,v4,v5,v6,v7,v8,v9⟩:=HCE.out w4 HB4.out
     rw [HKX.out] at v2
     clear hb4
     simp only [setsL,Nat.reduceAdd,List.setIfInBounds_toArray,List.set_cons_succ,List.set_cons_zero]
     go_wp2_with (go_at_call 23;(with_reducible refine (KR1.out _ _ (heap_alloc_new w4 _)).mono ?_);rintro e w5 ⟨rfl,hb5⟩;have HB5:=Lib.hid ((HB4.out.alloc HB4.out.size _).trans (hb5.mono (by have:=HB4.out.size;simp;omega)));clear hb5)
     go_ret2
     exact ⟨by rw [HTT.out];rfl,HB1.out.trans (HB5.out.mono HB1.out.size)⟩
   · have hzs:∀ z∈([x.pit,x.layer,x.cost]:List Int),-10000≤z∧z≤1000000:=(fun z hz=>r3 z (by unfold tailT;rw [hk];simpa using hz))
     have KR1:Hid (∀ W nb,W.heap[nb]? = some (.cells #[.int .i64 x.pit,.int .i64 x.layer,.int .i64 x.cost] 3 (0,0))→Calls Tryz.prog 23 #[.slice (some ⟨nb,0,none⟩) 3 3] W fun e w'=>e = .returned (.string (bsL (rowT [x.pit,x.layer,x.cost])))∧Below W.heap.size W w'):=(show ∀ W nb,_→_ from fun W nb hh=>row_at nb _ [x.pit,x.layer,x.cost] 3 W hh rfl rfl (by decide) hzs)
     have z2:(bsL (rowT [x.pit,x.layer,x.cost])).size≤27:=rowT_len [x.pit,x.layer,x.cost] hzs
     have HTT:=Lib.hid (txt3 hk)
     clear hzs r1 r2 r3 hok t1 t2
     rw [hk] at KC y2
     have HKE:Hid (∀ W,Below w1.heap.size w1 W→W.cell? ⟨w.heap.size,2,none⟩=some (.int .u8 3)):=(show ∀ W,_→_ from fun W h=>by rw [←hk];exact (HCE.out W h).2.2.1)
     have HKX:Hid (x.kind=3):=(show _=_ from hk)
     generalize bsL (Lib.itoa x.id)=S0 at *
     generalize bsL (rowT [x.known])=S1 at *
     generalize bsL (rowT [x.pit,x.layer,x.cost])=S2 at *
     generalize bsL (textT x)=ST at *
     clear hk
     go_enter Tryz.func6,Tryz.ntmps6
     go_upto_region 3 with (first
      | rw [HW1.out]
      | (go_at_call 21;(with_reducible refine (KC.out _).mono ?_);rintro e w2 ⟨rfl,hb2⟩;have HB2:=Lib.hid hb2;clear hb2))
     refine rw8 _ rfl w.heap.size x.id x.known S0 S1 _ w2 _ rfl rfl (fun W hW=>⟨(HCE.out W (HB2.out.trans (hW.mono HB2.out.size))).1,(HCE.out W (HB2.out.trans (hW.mono HB2.out.size))).2.1⟩) (fun W=>KD.out W) (fun W nb hh=>KR0.out W nb hh) z0 (by omega) ?_
     intro nb w4 hb4
     have HB4:=Lib.hid (HB2.out.trans (hb4.mono HB2.out.size))
     obtain ⟨v0,v1,v2,v3,v4,v5,v6,v7,v8,v9⟩:=HCE.out w4 HB4.out
     rw [HKX.out] at v2
     clear hb4
     simp only [setsL,Nat.reduceAdd,List.setIfInBounds_toArray,List.set_cons_succ,List.set_cons_zero]
     go_wp2_with (go_at_call 23;(with_reducible refine (KR1.out _ _ (heap_alloc_new w4 _)).mono ?_);rintro e w5 ⟨rfl,hb5⟩;have HB5:=Lib.hid ((HB4.out.alloc HB4.out.size _).trans (hb5.mono (by have:=HB4.out.size;simp;omega)));clear hb5)
     go_ret2
     exact ⟨by rw [HTT.out];rfl,HB1.out.trans (HB5.out.mono HB1.out.size)⟩
   · have hzs:∀ z∈([x.void]:List Int),-10000≤z∧z≤1000000:=(fun z hz=>r3 z (by unfold tailT;rw [hk];simpa using hz))
     have KR1:Hid (∀ W nb,W.heap[nb]? = some (.cells #[.int .i64 x.void] 3 (0,0))→Calls Tryz.prog 23 #[.slice (some ⟨nb,0,none⟩) 1 1] W fun e w'=>e = .returned (.string (bsL (rowT [x.void])))∧Below W.heap.size W w'):=(show ∀ W nb,_→_ from fun W nb hh=>row_at nb _ [x.void] 1 W hh rfl rfl (by decide) hzs)
     have z2:(bsL (rowT [x.void])).size≤9:=rowT_len [x.void] hzs
     have HTT:=Lib.hid (txt4 hk)
     clear hzs r1 r2 r3 hok t1 t2
     rw [hk] at KC y2
     have HKE:Hid (∀ W,Below w1.heap.size w1 W→W.cell? ⟨w.heap.size,2,none⟩=some (.int .u8 4)):=(show ∀ W,_→_ from fun W h=>by rw [←hk];exact (HCE.out W h).2.2.1)
     have HKX:Hid (x.kind=4):=(show _=_ from hk)
     generalize bsL (Lib.itoa x.id)=S0 at *
     generalize bsL (rowT [x.known])=S1 at *
     generalize bsL (rowT [x.void])=S2 at *
     generalize bsL (textT x)=ST at *
     clear hk
     go_enter Tryz.func6,Tryz.ntmps6
     go_upto_region 3 with (first
      | rw [HW1.out]
      | (go_at_call 21;(with_reducible refine (KC.out _).mono ?_);rintro e w2 ⟨rfl,hb2⟩;have HB2:=Lib.hid hb2;clear hb2))
     refine rw8 _ rfl w.heap.size x.id x.known S0 S1 _ w2 _ rfl rfl (fun W hW=>⟨(HCE.out W (HB2.out.trans (hW.mono HB2.out.size))).1,(HCE.out W (HB2.out.trans (hW.mono HB2.out.size))).2.1⟩) (fun W=>KD.out W) (fun W nb hh=>KR0.out W nb hh) z0 (by omega) ?_
     intro nb w4 hb4
     have HB4:=Lib.hid (HB2.out.trans (hb4.mono HB2.out.size))
     obtain ⟨v0,v1,v2,v3,v4,v5,v6,v7,v8,v9⟩:=HCE.out w4 HB4.out
     rw [HKX.out] at v2
     clear hb4
     simp only [setsL,Nat.reduceAdd,List.setIfInBounds_toArray,List.set_cons_succ,List.set_cons_zero]
     go_wp2_with (go_at_call 23;(with_reducible refine (KR1.out _ _ (heap_alloc_new w4 _)).mono ?_);rintro e w5 ⟨rfl,hb5⟩;have HB5:=Lib.hid ((HB4.out.alloc HB4.out.size _).trans (hb5.mono (by have:=HB4.out.size;simp;omega)));clear hb5)
     go_ret2
     exact ⟨by rw [HTT.out];rfl,HB1.out.trans (HB5.out.mono HB1.out.size)⟩
end Go.Proofs.YtejjplhknacoiaaGreatDoor
end

/- Contracts that the laws lean on: RJnR, RJnt. -/
import Derived.Test.YtccabpahfmoamaaGreatPE38
set_option maxRecDepth 100000
set_option maxHeartbeats 8000000
section
namespace Go.Proofs.YtccabpahfmoamaaGreat
open Go.RowKit Go.Proofs Go.Shelf
def JntCells (b4 b6 gx gs:Nat) (an:Int) (aw at_:Value) (al ah bl bh:Int) (x:Bound) (pts:Int) (As:Option Addr) (ns cs:Nat) (w:World):Prop:=∀ W,w.grownBy W (blockOf As)→(W.cell? ⟨b4,0,none⟩=some (.int .i64 an)∧W.cell? ⟨b4,1,none⟩=some aw∧W.cell? ⟨b4,2,none⟩=some at_)∧(W.cell? ⟨b6,0,none⟩=some (.int .i64 al)∧W.cell? ⟨b6,1,none⟩=some (.int .i64 ah)∧W.cell? ⟨b6,2,none⟩=some (.int .i64 bl)∧W.cell? ⟨b6,3,none⟩=some (.int .i64 bh))∧
 (W.cell? ⟨gx,0,none⟩=some (.int .i64 x.src)∧W.cell? ⟨gx,1,none⟩=some (.int .i64 x.dst)∧W.cell? ⟨gx,2,none⟩=some (.int .i64 x.most)∧W.cell? ⟨gx,3,none⟩=some (.int .i64 x.by_))∧W.cell? ⟨gs,0,none⟩=some (.int .i64 pts)∧W.cell? ⟨gs,1,none⟩=some (.slice As ns cs)∧W.frozen? ⟨gs,1,none⟩=false
def JntI (gs B:Nat) (As:Option Addr) (ns _:Nat) (xs:List Bound) (b:Bound) (w:World):List Value→World→Prop
 | [],W=>Below w.heap.size w W
 | [v],W=>Below w.heap.size w W∧∃ nb,v = .slice (some ⟨nb,0,none⟩) 1 1∧Rd encBound 4 W (some ⟨nb,0,none⟩) 1 1 [b]
 | [v,u],W=>w.grownBy W (blockOf As)∧∃ nb A' c',v = .slice (some ⟨nb,0,none⟩) 1 1∧u = .slice A' (ns+1) c'∧Own encBound 4 56 B W A' (ns+1) c' (xs ++ [b])
 | [v,u,_],W=> ∃ W0,w.grownBy W0 (blockOf As)∧∃ nb A' c',v = .slice (some ⟨nb,0,none⟩) 1 1∧u = .slice A' (ns+1) c'∧Own encBound 4 56 B W0 A' (ns+1) c' (xs ++ [b])∧W=W0.setCell ⟨gs,1,none⟩ u
 | _,_=>False
theorem JntI.grown {gs B:Nat} {As:Option Addr} {ns cs:Nat} {xs:List Bound} {b:Bound} {w W:World} {cv:List Value} (h:JntI gs B As ns cs xs b w cv W) (hl:cv.length≤1):w.grownBy W (blockOf As):=by
 match cv,h,hl with
 | [],h,_=>exact ⟨h.os,h.tape,h.output,h.size,fun i hi _=>h.block i hi⟩
 | [v],⟨h,_⟩,_=>exact ⟨h.os,h.tape,h.output,h.size,fun i hi _=>h.block i hi⟩
 | _::_::_,_,hl=>simp at hl
def codejnt8:Option Code→Code
 | some (.seq _ (.seq _ (.seq (.seq _ (.cond _ (.seq _ (.seq (.seq _ (.block _ (.loop (.seq _ (.seq (.block _ (.seq _ c)) _))))) _)) _)) _)))=>c
 | _=> .skip
def Tjnt8 (_ _ gx gs:Nat) (an:Int) (aw at_:Value) (al ah bl bh:Int) (x:Bound) (_:Int) (As:Option Addr) (ns cs:Nat) (v1 v2:Int) (_:Nat) (_:List Bound) (cv:List Value):List Value:=
 [.pointer (some ⟨gs,0+1,none⟩),.slice As ns cs,.agg #[.int .i64 an,aw,at_],.agg #[.int .i64 al,.int .i64 ah,.int .i64 bl,.int .i64 bh],.pointer (some ⟨gx,0,none⟩),.int .i64 x.src,.int .i64 v1,.agg #[.int .i64 an,aw,at_],.agg #[.int .i64 al,.int .i64 ah,.int .i64 bl,.int .i64 bh],.pointer (some ⟨gx,0+1,none⟩),.int .i64 x.dst,.int .i64 v2,.pointer (some ⟨gx,0+2,none⟩),.int .i64 x.most,.pointer (some ⟨gx,0+3,none⟩),.int .i64 x.by_,.agg #[.int .i64 v1,.int .i64 v2,.int .i64 x.most,.int .i64 x.by_],cv.getD 0 undef,cv.getD 1 undef,.pointer (some ⟨gs,0+1,none⟩),cv.getD 2 undef]
theorem jnt8 (cC:Code) (hc:cC=codejnt8 Tryz.f74.body) (b4 b6 gx gs:Nat) (an:Int) (aw at_:Value) (al ah bl bh:Int) (x:Bound) (pts:Int) (As:Option Addr) (ns cs:Nat) (v1 v2:Int) (B:Nat) (xs:List Bound) (a:Act) (w:World) (Q:Exit→Act→World→Prop)
 (hT:a.tmps.size=116) (t4:a.tmps.getD 4 undef = .pointer (some ⟨b4,0,none⟩)) (t6:a.tmps.getD 6 undef = .pointer (some ⟨b6,0,none⟩)) (t10:a.tmps.getD 10 undef = .pointer (some ⟨gs,0,none⟩)) (t12:a.tmps.getD 12 undef = .pointer (some ⟨gx,0,none⟩))
 (CE:JntCells b4 b6 gx gs an aw at_ al ah bl bh x pts As ns cs w) (hown:Own encBound 4 56 B w As ns cs xs) (hB:B≤w.heap.size) (hns:ns≤1000000)
 (C1:∀ W,Below w.heap.size w W→Calls Tryz.prog 120 #[.agg #[.int .i64 an,aw,at_],.agg #[.int .i64 al,.int .i64 ah,.int .i64 bl,.int .i64 bh],.int .i64 x.src] W fun e w'=>e = .returned (.int .i64 v1)∧Below W.heap.size W w')
 (C2:∀ W,Below w.heap.size w W→Calls Tryz.prog 120 #[.agg #[.int .i64 an,aw,at_],.agg #[.int .i64 al,.int .i64 ah,.int .i64 bl,.int .i64 bh],.int .i64 x.dst] W fun e w'=>e = .returned (.int .i64 v2)∧Below W.heap.size W w')
 (hQ:∀ nb A' c' W,Own encBound 4 56 B W A' (ns+1) c' (xs ++ [⟨v1,v2,x.most,x.by_⟩])→w.grownBy W (blockOf As)→Q .normal { tmps:=setsL a.tmps 48 ((Tjnt8 b4 b6 gx gs an aw at_ al ah bl bh x pts As ns cs v1 v2 B xs [.slice (some ⟨nb,0,none⟩) 1 1,.slice A' (ns+1) c',undef]).take 20),defers:=a.defers } (W.setCell ⟨gs,1,none⟩ (.slice A' (ns+1) c'))):
 cC.wp Tryz.prog Q a w:=by
 subst hc
 unfold codejnt8 Tryz.f74
 dsimp only
 refine wpIn_wide.1 (wpIn_region_chain (nn:=5) 116 (by kernel_rfl) (by kernel_rfl) (by kernel_rfl) hT (fun i cv=>(Tjnt8 b4 b6 gx gs an aw at_ al ah bl bh x pts As ns cs v1 v2 B xs cv).getD i undef) (fun i=>([0,0,0,0,0,0,0,0,0,0,0,0,0,0,0,0,0,0,0,0,0]:List Nat).getD i 0) (fun i=>([1,1,0,0,0,0,0,0,0,0,0,0,0,0,0,0,0,1,2,2,3]:List Nat).getD i 0) [17,18,20] (by kernel_rfl) (by kernel_rfl) (by kernel_rfl) (by kernel_rfl) (JntI gs B As ns cs xs ⟨v1,v2,x.most,x.by_⟩ w) ((Below.refl _ _).drew) (fun b cv hE hold=> ?_) (fun cv W hl hI=> ?_))
 · clear hQ
   have q4:=hold 4 _ (by kernel_rfl) t4
   have q6:=hold 6 _ (by kernel_rfl) t6
   have q10:=hold 10 _ (by kernel_rfl) t10
   have q12:=hold 12 _ (by kernel_rfl) t12
   simp only [factsL,Vc,idxC,Tjnt8,List.getD_cons_zero,List.getD_cons_succ,Nat.reduceAdd,Nat.reduceEqDiff,reduceIte,Option.map_some,Option.map_none] at hE
   repeat' first|exact chain_nil|refine chain_op 0 rfl rfl ?_ ?_|refine chain_op 1 rfl rfl ?_ ?_|refine chain_op 2 rfl rfl ?_ ?_|refine chain_skip rfl rfl rfl rfl ?_|refine chain_quiet rfl rfl ?_ ?_
   all_goals intro hl
   any_goals (
    intro hl2;simp only [List.getD_cons_zero,List.getD_cons_succ,Nat.reduceAdd] at hl hl2
    first
     | (obtain rfl:=List.eq_nil_of_length_eq_zero (Nat.le_zero.1 hl2);intro W hW;have hWb:Below w.heap.size w W:=hW;obtain ⟨⟨a0,a1,a2⟩,⟨p0,p1,p2,p3⟩,⟨c0,c1,c2,c3⟩,s0,s1,_⟩:=CE W ⟨hWb.os,hWb.tape,hWb.output,hWb.size,fun i hi _=>hWb.block i hi⟩;simp only [Tjnt8,List.getD_cons_zero,List.getD_cons_succ,Nat.reduceAdd]
        first
         | (refine .inl ?_;go_simp;done)
         | (refine .inl ?_;go_simp;rfl)
         | (refine .inr (.inr ⟨120,#[.agg #[.int .i64 an,aw,at_],.agg #[.int .i64 al,.int .i64 ah,.int .i64 bl,.int .i64 bh],.int .i64 x.src],?_,(C1 W hW).mono ?_⟩)
            · go_simp<;>done
            · rintro e w' ⟨rfl,hb'⟩;exact ⟨rfl,(show Below _ _ _ from (show Below _ _ _ from hW).trans (hb'.mono (show Below _ _ _ from hW).size))⟩)
         | (refine .inr (.inr ⟨120,#[.agg #[.int .i64 an,aw,at_],.agg #[.int .i64 al,.int .i64 ah,.int .i64 bl,.int .i64 bh],.int .i64 x.dst],?_,(C2 W hW).mono ?_⟩)
            · go_simp<;>done
            · rintro e w' ⟨rfl,hb'⟩;exact ⟨rfl,(show Below _ _ _ from (show Below _ _ _ from hW).trans (hb'.mono (show Below _ _ _ from hW).size))⟩))
     | (intro W hW;simp only [Tjnt8,List.getD_cons_zero,List.getD_cons_succ,Nat.reduceAdd];refine .inl ?_;go_simp;(try rfl);done)
     | (intro W hW;obtain ⟨⟨a0,a1,a2⟩,⟨p0,p1,p2,p3⟩,⟨c0,c1,c2,c3⟩,s0,s1,_⟩:=CE W (JntI.grown hW hl2);simp only [Tjnt8,List.getD_cons_zero,List.getD_cons_succ,Nat.reduceAdd]
        first
         | (refine .inl ?_;go_simp;done)
         | (refine .inl ?_;go_simp;rfl))
    done)
   · obtain rfl:=List.eq_nil_of_length_eq_zero hl
     intro W hW
     have hWb:Below w.heap.size w W:=hW
     refine .inl ⟨.slice (some ⟨W.heap.size,0,none⟩) 1 1,W.alloc (.cells #[.int .i64 v1,.int .i64 v2,.int .i64 x.most,.int .i64 x.by_] 56),.inl ?_,?_⟩
     · go_simp
     · exact ⟨hWb.alloc hWb.size _,_,rfl,Rd.single (enc:=encBound) (k:=4) W #[.int .i64 v1,.int .i64 v2,.int .i64 x.most,.int .i64 x.by_] 56 [⟨v1,v2,x.most,x.by_⟩] 1 rfl (by omega) (fun _=>rfl) (by simp [encBound])⟩
   · obtain ⟨v,rfl⟩:=len1 hl
     rintro W ⟨hWb,nb,rfl,hrd⟩
     have hz:=hWb.size
     have f0:b.eval (.tmp 49) = .slice As ns cs:=(by simp only [Act.eval,Array.getD_eq_getD_getElem?];simp [hE])
     have f1:b.eval (.tmp 65) = .slice (some ⟨nb,0,none⟩) 1 1:=(by simp only [Act.eval,Array.getD_eq_getD_getElem?];simp [hE])
     obtain ⟨A',c',wc,hrun,hO2,hg,_⟩:=run_append_src elBound 22 (fun _=>rfl) oneBound (hown.below hWb (Nat.le_refl _)) (some ⟨nb,0,none⟩) 1 1 [⟨v1,v2,x.most,x.by_⟩] hrd (by omega) (by omega) (by omega)
     refine .inl ⟨.slice A' (ns+1) c',wc,.inl ?_,?_,nb,A',c',rfl,rfl,hO2⟩
     · simp only [execOp,resolve,invoke,builtin,Sem.run_bind,Sem.run_pure,Result.andThen_ok,List.map_toArray,List.map_cons,List.map_nil,f0,f1,hrun]
     · exact ⟨hg.os.trans hWb.os,hg.tape.trans hWb.tape,hg.output.trans hWb.output,Nat.le_trans hWb.size hg.size,fun i hi hne=>(hg.block i (by omega) hne).trans (hWb.block i hi)⟩
   · obtain ⟨v,u,rfl⟩:=len2 hl
     rintro W ⟨hg,nb,A',c',rfl,rfl,hO2⟩
     obtain ⟨_,_,_,_,s1,f1⟩:=CE W hg
     simp only [List.getD_cons_zero,List.getD_cons_succ] at hE
     refine .inl ⟨undef,W.setCell ⟨gs,1,none⟩ (.slice A' (ns+1) c'),.inr ⟨?_,rfl⟩,W,hg,nb,A',c',rfl,rfl,hO2,rfl⟩
     go_simp
 · match cv,hl,hI with
   | [_,_,z],_,⟨W0,hg,nb,A',c',rfl,rfl,hO,e⟩=>subst e;exact hQ nb A' c' W0 hO hg
def codejnt15:Option Code→Code
 | some (.seq _ (.seq _ (.seq _ (.seq _ (.seq (.seq _ (.block _ (.loop (.seq _ (.seq (.block _ (.seq _ c)) _))))) _)))))=>c
 | _=> .skip
def Tjnt15 (_ _ gx gs:Nat) (an:Int) (aw at_:Value) (al ah bl bh:Int) (x:Bound) (_:Int) (As:Option Addr) (ns cs:Nat) (v1 v2:Int) (_:Nat) (_:List Bound) (cv:List Value):List Value:=
 [.pointer (some ⟨gs,0+1,none⟩),.slice As ns cs,.agg #[.int .i64 an,aw,at_],.agg #[.int .i64 al,.int .i64 ah,.int .i64 bl,.int .i64 bh],.pointer (some ⟨gx,0+1,none⟩),.int .i64 x.dst,.int .i64 v1,.agg #[.int .i64 an,aw,at_],.agg #[.int .i64 al,.int .i64 ah,.int .i64 bl,.int .i64 bh],.pointer (some ⟨gx,0,none⟩),.int .i64 x.src,.int .i64 v2,.pointer (some ⟨gx,0+2,none⟩),.int .i64 x.most,.pointer (some ⟨gx,0+3,none⟩),.int .i64 x.by_,.agg #[.int .i64 v1,.int .i64 v2,.int .i64 x.most,.int .i64 x.by_],cv.getD 0 undef,cv.getD 1 undef,.pointer (some ⟨gs,0+1,none⟩),cv.getD 2 undef]
theorem jnt15 (cC:Code) (hc:cC=codejnt15 Tryz.f74.body) (b4 b6 gx gs:Nat) (an:Int) (aw at_:Value) (al ah bl bh:Int) (x:Bound) (pts:Int) (As:Option Addr) (ns cs:Nat) (v1 v2:Int) (B:Nat) (xs:List Bound) (a:Act) (w:World) (Q:Exit→Act→World→Prop)
 (hT:a.tmps.size=116) (t4:a.tmps.getD 4 undef = .pointer (some ⟨b4,0,none⟩)) (t6:a.tmps.getD 6 undef = .pointer (some ⟨b6,0,none⟩)) (t13:a.tmps.getD 13 undef = .pointer (some ⟨gs,0,none⟩)) (t15:a.tmps.getD 15 undef = .pointer (some ⟨gx,0,none⟩))
 (CE:JntCells b4 b6 gx gs an aw at_ al ah bl bh x pts As ns cs w) (hown:Own encBound 4 56 B w As ns cs xs) (hB:B≤w.heap.size) (hns:ns≤1000000)
 (C1:∀ W,Below w.heap.size w W→Calls Tryz.prog 121 #[.agg #[.int .i64 an,aw,at_],.agg #[.int .i64 al,.int .i64 ah,.int .i64 bl,.int .i64 bh],.int .i64 x.dst] W fun e w'=>e = .returned (.int .i64 v1)∧Below W.heap.size W w')
 (C2:∀ W,Below w.heap.size w W→Calls Tryz.prog 121 #[.agg #[.int .i64 an,aw,at_],.agg #[.int .i64 al,.int .i64 ah,.int .i64 bl,.int .i64 bh],.int .i64 x.src] W fun e w'=>e = .returned (.int .i64 v2)∧Below W.heap.size W w')
 (hQ:∀ nb A' c' W,Own encBound 4 56 B W A' (ns+1) c' (xs ++ [⟨v1,v2,x.most,x.by_⟩])→w.grownBy W (blockOf As)→Q .normal { tmps:=setsL a.tmps 95 ((Tjnt15 b4 b6 gx gs an aw at_ al ah bl bh x pts As ns cs v1 v2 B xs [.slice (some ⟨nb,0,none⟩) 1 1,.slice A' (ns+1) c',undef]).take 20),defers:=a.defers } (W.setCell ⟨gs,1,none⟩ (.slice A' (ns+1) c'))):
 cC.wp Tryz.prog Q a w:=by
 subst hc
 unfold codejnt15 Tryz.f74
 dsimp only
 refine wpIn_wide.1 (wpIn_region_chain (nn:=5) 116 (by kernel_rfl) (by kernel_rfl) (by kernel_rfl) hT (fun i cv=>(Tjnt15 b4 b6 gx gs an aw at_ al ah bl bh x pts As ns cs v1 v2 B xs cv).getD i undef) (fun i=>([0,0,0,0,0,0,0,0,0,0,0,0,0,0,0,0,0,0,0,0,0]:List Nat).getD i 0) (fun i=>([1,1,0,0,0,0,0,0,0,0,0,0,0,0,0,0,0,1,2,2,3]:List Nat).getD i 0) [17,18,20] (by kernel_rfl) (by kernel_rfl) (by kernel_rfl) (by kernel_rfl) (JntI gs B As ns cs xs ⟨v1,v2,x.most,x.by_⟩ w) ((Below.refl _ _).drew) (fun b cv hE hold=> ?_) (fun cv W hl hI=> ?_))
 · clear hQ
   have q4:=hold 4 _ (by kernel_rfl) t4
   have q6:=hold 6 _ (by kernel_rfl) t6
   have q13:=hold 13 _ (by kernel_rfl) t13
   have q15:=hold 15 _ (by kernel_rfl) t15
   simp only [factsL,Vc,idxC,Tjnt15,List.getD_cons_zero,List.getD_cons_succ,Nat.reduceAdd,Nat.reduceEqDiff,reduceIte,Option.map_some,Option.map_none] at hE
   repeat' first|exact chain_nil|refine chain_op 0 rfl rfl ?_ ?_|refine chain_op 1 rfl rfl ?_ ?_|refine chain_op 2 rfl rfl ?_ ?_|refine chain_skip rfl rfl rfl rfl ?_|refine chain_quiet rfl rfl ?_ ?_
   all_goals intro hl
   any_goals (
    intro hl2;simp only [List.getD_cons_zero,List.getD_cons_succ,Nat.reduceAdd] at hl hl2
    first
     | (obtain rfl:=List.eq_nil_of_length_eq_zero (Nat.le_zero.1 hl2);intro W hW;have hWb:Below w.heap.size w W:=hW;obtain ⟨⟨a0,a1,a2⟩,⟨p0,p1,p2,p3⟩,⟨c0,c1,c2,c3⟩,s0,s1,_⟩:=CE W ⟨hWb.os,hWb.tape,hWb.output,hWb.size,fun i hi _=>hWb.block i hi⟩;simp only [Tjnt15,List.getD_cons_zero,List.getD_cons_succ,Nat.reduceAdd]
        first
         | (refine .inl ?_;go_simp;done)
         | (refine .inl ?_;go_simp;rfl)
         | (refine .inr (.inr ⟨121,#[.agg #[.int .i64 an,aw,at_],.agg #[.int .i64 al,.int .i64 ah,.int .i64 bl,.int .i64 bh],.int .i64 x.dst],?_,(C1 W hW).mono ?_⟩)
            · go_simp<;>done
            · rintro e w' ⟨rfl,hb'⟩;exact ⟨rfl,(show Below _ _ _ from (show Below _ _ _ from hW).trans (hb'.mono (show Below _ _ _ from hW).size))⟩)
         | (refine .inr (.inr ⟨121,#[.agg #[.int .i64 an,aw,at_],.agg #[.int .i64 al,.int .i64 ah,.int .i64 bl,.int .i64 bh],.int .i64 x.src],?_,(C2 W hW).mono ?_⟩)
            · go_simp<;>done
            · rintro e w' ⟨rfl,hb'⟩;exact ⟨rfl,(show Below _ _ _ from (show Below _ _ _ from hW).trans (hb'.mono (show Below _ _ _ from hW).size))⟩))
     | (intro W hW;simp only [Tjnt15,List.getD_cons_zero,List.getD_cons_succ,Nat.reduceAdd];refine .inl ?_;go_simp;(try rfl);done)
     | (intro W hW;obtain ⟨⟨a0,a1,a2⟩,⟨p0,p1,p2,p3⟩,⟨c0,c1,c2,c3⟩,s0,s1,_⟩:=CE W (JntI.grown hW hl2);simp only [Tjnt15,List.getD_cons_zero,List.getD_cons_succ,Nat.reduceAdd]
        first
         | (refine .inl ?_;go_simp;done)
         | (refine .inl ?_;go_simp;rfl))
    done)
   · obtain rfl:=List.eq_nil_of_length_eq_zero hl
     intro W hW
     have hWb:Below w.heap.size w W:=hW
     refine .inl ⟨.slice (some ⟨W.heap.size,0,none⟩) 1 1,W.alloc (.cells #[.int .i64 v1,.int .i64 v2,.int .i64 x.most,.int .i64 x.by_] 56),.inl ?_,?_⟩
     · go_simp
     · exact ⟨hWb.alloc hWb.size _,_,rfl,Rd.single (enc:=encBound) (k:=4) W #[.int .i64 v1,.int .i64 v2,.int .i64 x.most,.int .i64 x.by_] 56 [⟨v1,v2,x.most,x.by_⟩] 1 rfl (by omega) (fun _=>rfl) (by simp [encBound])⟩
   · obtain ⟨v,rfl⟩:=len1 hl
     rintro W ⟨hWb,nb,rfl,hrd⟩
     have hz:=hWb.size
     have f0:b.eval (.tmp 96) = .slice As ns cs:=(by simp only [Act.eval,Array.getD_eq_getD_getElem?];simp [hE])
     have f1:b.eval (.tmp 112) = .slice (some ⟨nb,0,none⟩) 1 1:=(by simp only [Act.eval,Array.getD_eq_getD_getElem?];simp [hE])
     obtain ⟨A',c',wc,hrun,hO2,hg,_⟩:=run_append_src elBound 22 (fun _=>rfl) oneBound (hown.below hWb (Nat.le_refl _)) (some ⟨nb,0,none⟩) 1 1 [⟨v1,v2,x.most,x.by_⟩] hrd (by omega) (by omega) (by omega)
     refine .inl ⟨.slice A' (ns+1) c',wc,.inl ?_,?_,nb,A',c',rfl,rfl,hO2⟩
     · simp only [execOp,resolve,invoke,builtin,Sem.run_bind,Sem.run_pure,Result.andThen_ok,List.map_toArray,List.map_cons,List.map_nil,f0,f1,hrun]
     · exact ⟨hg.os.trans hWb.os,hg.tape.trans hWb.tape,hg.output.trans hWb.output,Nat.le_trans hWb.size hg.size,fun i hi hne=>(hg.block i (by omega) hne).trans (hWb.block i hi)⟩
   · obtain ⟨v,u,rfl⟩:=len2 hl
     rintro W ⟨hg,nb,A',c',rfl,rfl,hO2⟩
     obtain ⟨_,_,_,_,s1,f1⟩:=CE W hg
     simp only [List.getD_cons_zero,List.getD_cons_succ] at hE
     refine .inl ⟨undef,W.setCell ⟨gs,1,none⟩ (.slice A' (ns+1) c'),.inr ⟨?_,rfl⟩,W,hg,nb,A',c',rfl,rfl,hO2,rfl⟩
     go_simp
 · match cv,hl,hI with
   | [_,_,z],_,⟨W0,hg,nb,A',c',rfl,rfl,hO,e⟩=>subst e;exact hQ nb A' c' W0 hO hg
theorem run_append_fresh {P:Program} {α:Type} {enc:α→List Value} {k bytes B g m c2:Nat} {t e:TypeId} {w:World} (E:ElemT P t e k bytes) (ty:TypeId) (hk:∀ x,(enc x).length=k) (_:∀ x,∀ u∈enc x,u.oneCell'=true)
 (hg:w.heap[g]? = some (.cells #[] e (0,0))) (hB:B≤g) (A2:Option Addr) (ys:List α) (hrd:Rd enc k w A2 m c2 ys) (hbytes:m * bytes≤140737488355328) (hb8:1≤bytes):
 ∃ A' c' w',(Builtin.append_ #[t,t] ty #[.slice (some ⟨g,0,none⟩) 0 0,.slice A2 m c2]).run P w = .ok (.slice A' m c') w'∧Own enc k e B w' A' m c' ys∧Below w.heap.size w w':=by
 obtain ⟨i,z,hi,hz0,hz1,hz2,hz3⟩:=E.info
 have hgl:g<w.heap.size:=(Array.getElem?_eq_some_iff.1 hg).1
 rcases Nat.eq_zero_or_pos m with h0|h0
 · subst h0
   have hys:ys = []:=List.eq_nil_of_length_eq_zero hrd.len
   subst hys
   refine ⟨some ⟨g,0,none⟩,0,w,?_,⟨rfl,?_⟩,Below.refl _ _⟩
   · rcases A2 with _|ad<;>simp [Builtin.append_,run_underlying E.slice,sizeOf,typeInfo,hi,Builtin.lenOf,Builtin.firstCells,loadCells,loadCellsFrom,storeCells]
   · exact ⟨by simp,.inr ⟨g,0,#[],rfl,hB,hg,Nat.le_refl _,by decide,by simp,by simp⟩⟩
 · obtain ⟨b,off,rfl,hlt,hc⟩:=hrd.at_ h0
   have hmax:0+m≤maxLen:=by
    have:m * 1≤m * bytes:=Nat.mul_le_mul_left _ hb8
    unfold maxLen;omega
   obtain ⟨v',w',hrun,hown,hgr⟩:=run_append_arg_grows (P:=P) w t ty e i z k bytes E.slice hi hz0 hz1 hz2 hz3 E.pos ⟨g,0,none⟩ 0 0 [] (by simp) (fun j u hu=>by simp at hu) ⟨b,off,none⟩ m c2 (ys.flatMap enc) (by rw [flatMap_len hk,hrd.len]) (hrd.flat hk E.pos) (by omega) hmax (by rw [Nat.zero_add];exact hbytes)
   rw [Nat.zero_add,List.nil_append] at hown
   have hv:∃ A' c',v' = .slice A' m c':=by
    rcases hown.2 with ⟨h,h0'⟩|⟨g',cap,cur,h,_⟩
    · exact ⟨none,0,by rw [h];simp [h0']⟩
    · exact ⟨_,_,h⟩
   obtain ⟨A',c',rfl⟩:=hv
   exact ⟨A',c',w',hrun,(⟨hrd.len,hown⟩:Own enc k e w.heap.size w' A' m c' ys).mono (Nat.le_trans hB (Nat.le_of_lt hgl)),⟨hgr.os,hgr.tape,hgr.output,hgr.size,fun k hk=>hgr.block k hk (by simp)⟩⟩
def factjnt3 (w0:World) (b4 b5:Nat) (an bn k:Int) (SA:Option Addr) (sn sc:Nat) (xs:List Bound):Nat→Value→World→Prop
 | 0,v,_=>v = .pointer (some ⟨b4,0,none⟩)
 | 1,v,_=>v = .int .i64 an
 | 2,v,_=>v = .pointer (some ⟨b5,0,none⟩)
 | 3,v,_=>v = .int .i64 bn
 | 4,v,_=>v = .int .i64 (an+bn)
 | 5,v,_=>v = .int .i64 k
 | 6,v,_=>v = .int .i64 (an+bn-k)
 | 8,v,_=>v = .pointer (some ⟨b4,0+2,none⟩)
 | 9,v,_=>v = .slice SA sn sc
 | 7,v,W=> ∃ g,v = .slice (some ⟨g,0,none⟩) 0 0∧w0.heap.size≤g∧W.heap[g]? = some (.cells #[] 56 (0,0))
 | 10,v,W=> ∃ A' c',v = .slice A' sn c'∧Own encBound 4 56 w0.heap.size W A' sn c' xs
 | 11,v,W=> ∃ A' c',v = .agg #[.int .i64 (an+bn-k),.slice A' sn c']∧Own encBound 4 56 w0.heap.size W A' sn c' xs
 | 12,v,W=> ∃ g,v = .pointer (some ⟨g,0,none⟩)∧w0.heap.size≤g∧∃ u0 u1,W.heap[g]? = some (.cells #[u0,u1] 73 (0,0))
 | 13,v,W=> ∃ g A' c',v = .pointer (some ⟨g,0,none⟩)∧w0.heap.size≤g∧W.heap[g]? = some (.cells #[.int .i64 (an+bn-k),.slice A' sn c'] 73 (0,0))∧Own encBound 4 56 w0.heap.size W A' sn c' xs
 | _,_,_=>True
def exjnt3 (V:Nat→Value) (L:Nat→Bool):Prop:=L 13=true→V 13=V 12
theorem exjnt3.pure {V:Nat→Value} {listed:Array Bool} {i:Nat} {v:Value} (h:exjnt3 V (fun j=>listed.getD j false)) (h8:i≠12) (h9:i≠13):exjnt3 (nextV V i v) (nextL listed i):=by
 unfold exjnt3
 rw [nextL_ne (Ne.symm h9),nextV_ne (Ne.symm h8),nextV_ne (Ne.symm h9)]
 exact h
theorem factjnt3.below {w0:World} {b4 b5:Nat} {an bn k:Int} {SA:Option Addr} {sn sc:Nat} {xs:List Bound} {j:Nat} {v:Value} {W W':World} (h:factjnt3 w0 b4 b5 an bn k SA sn sc xs j v W) (hb:Below W.heap.size W W'):factjnt3 w0 b4 b5 an bn k SA sn sc xs j v W':=by
 unfold factjnt3 at h ⊢
 split at h
 all_goals first
  | exact h
  | (obtain ⟨g,h1,h2,h3⟩:=h;exact ⟨g,h1,h2,(hb.block g (Array.getElem?_eq_some_iff.1 h3).1).trans h3⟩)
  | (obtain ⟨g,h1,h2,u0,u1,h3⟩:=h;exact ⟨g,h1,h2,u0,u1,(hb.block g (Array.getElem?_eq_some_iff.1 h3).1).trans h3⟩)
  | (obtain ⟨A',c',h1,h2⟩:=h;exact ⟨A',c',h1,h2.below hb (Nat.le_refl _)⟩)
  | (obtain ⟨g,A',c',h1,h2,h3,h4⟩:=h;exact ⟨g,A',c',h1,h2,(hb.block g (Array.getElem?_eq_some_iff.1 h3).1).trans h3,h4.below hb (Nat.le_refl _)⟩)
theorem factjnt3.grow {w0:World} {b4 b5:Nat} {an bn k:Int} {SA:Option Addr} {sn sc:Nat} {xs:List Bound} {ops:Array Oper} {a:Act} {V:Nat→Value} {listed:Array Bool} {i:Nat} {d:Option Tmp} {b:Act} {W W':World} {v:Value}
 (h:FactsAtX ops a (factjnt3 w0 b4 b5 an bn k SA sn sc xs) (fun _ _=>True) (fun W=>Below w0.heap.size w0 W) exjnt3 V listed b W) (hb:Below W.heap.size W W') (hf:factjnt3 w0 b4 b5 an bn k SA sn sc xs i v W') (hx:exjnt3 (nextV V i v) (nextL listed i)):FactsGoX ops (factjnt3 w0 b4 b5 an bn k SA sn sc xs) (fun _ _=>True) (fun W=>Below w0.heap.size w0 W) exjnt3 V listed i d b W (b.put d v) W':=
 ⟨v,rfl,hf,fun _ _ _ h=>h.below hb,fun _ _ _ _ _=>trivial,h.glob.trans (hb.mono h.glob.size),hx⟩
def codejnt3:Option Code→Code
 | some (.seq _ (.seq _ (.seq (.seq _ (.cond _ (.seq c _) _)) _)))=>c
 | _=> .skip
theorem jnt3 (c:Code) (hc:c=codejnt3 Tryz.f74.body) (b4 b5:Nat) (an bn k:Int) (SA:Option Addr) (sn sc:Nat) (xs:List Bound) (a:Act) (w:World) (Q:Exit→Act→World→Prop)
 (hT:a.tmps.size=116) (t4:a.tmps.getD 4 undef = .pointer (some ⟨b4,0,none⟩)) (t5:a.tmps.getD 5 undef = .pointer (some ⟨b5,0,none⟩)) (t9:a.tmps.getD 9 undef = .int .i64 k)
 (CE:∀ W,Below w.heap.size w W→W.cell? ⟨b4,0,none⟩=some (.int .i64 an)∧W.cell? ⟨b4,2,none⟩=some (.slice SA sn sc)∧W.cell? ⟨b5,0,none⟩=some (.int .i64 bn))
 (HR:∀ W,Below w.heap.size w W→Rd encBound 4 W SA sn sc xs) (hsn:sn≤1000000) (ha:0≤an∧an≤1000) (hb0:0≤bn∧bn≤1000) (hk:0≤k∧k≤1000)
 (hQ:∀ W g A' c' z7 z10 z11,Below w.heap.size w W→w.heap.size≤g→W.heap[g]? = some (.cells #[.int .i64 (an+bn-k),.slice A' sn c'] 73 (0,0))→Own encBound 4 56 w.heap.size W A' sn c' xs→Q .normal { tmps:=(((((((((((((a.tmps.setIfInBounds 24 (.pointer (some ⟨b4,0,none⟩))).setIfInBounds 25 (.int .i64 an)).setIfInBounds 26 (.pointer (some ⟨b5,0,none⟩))).setIfInBounds 27 (.int .i64 bn)).setIfInBounds 28 (.int .i64 (an+bn))).setIfInBounds 29 (.int .i64 k)).setIfInBounds 30 (.int .i64 (an+bn-k))).setIfInBounds 31 (z7)).setIfInBounds 32 (.pointer (some ⟨b4,0+2,none⟩))).setIfInBounds 33 (.slice SA sn sc)).setIfInBounds 34 (z10)).setIfInBounds 35 (z11)).setIfInBounds 10 (.pointer (some ⟨g,0,none⟩))),defers:=a.defers } W):
 c.wp Tryz.prog Q a w:=by
 subst hc
 unfold codejnt3 Tryz.f74
 dsimp only
 have w1:IntKind.i64.wrap (an+bn)=an+bn:=(by rw [IntKind.wrap_i64];omega)
 have w2:IntKind.i64.wrap (an+bn+2)=an+bn+2:=(by rw [IntKind.wrap_i64];omega)
 have w3:IntKind.i64.wrap (k+1)=k+1:=(by rw [IntKind.wrap_i64];omega)
 have w4:IntKind.i64.wrap (an+bn-k)=an+bn-k:=(by rw [IntKind.wrap_i64];omega)
 clear ha hb0 hk
 refine wpIn_wide.1 (wpIn_region_factsX (nn:=5) 116 (by kernel_rfl) (by kernel_rfl) hT.symm (factjnt3 w b4 b5 an bn k SA sn sc xs) (fun _ _=>True) (fun W=>Below w.heap.size w W) exjnt3 (Below.refl _ w).drew (fun _ _=>trivial) (fun V h=>(by cases h)) ?_ ?_)
 · intro V listed i o b W hi ho h
   obtain ⟨hun,oi,hoi,hall⟩:=mem_ready.1 hi
   have:oi=o:=Option.some.inj (hoi.symm.trans ho)
   subst this
   clear hoi hi
   have hlt:i<14:=(by have:=(Array.getElem?_eq_some_iff.1 ho).1;simpa using this)
   have hun':listed.getD i false=false:=getD_both hun
   have hpre:=h.pre i (by simpa using hlt) hun'
   rcases (by omega:i=0∨i=1∨i=2∨i=3∨i=4∨i=5∨i=6∨i=7∨i=8∨i=9∨i=10∨i=11∨i=12∨i=13) with rfl|rfl|rfl|rfl|rfl|rfl|rfl|rfl|rfl|rfl|rfl|rfl|rfl|rfl
   all_goals simp only [List.getElem?_toArray,List.getElem?_cons_zero,List.getElem?_cons_succ] at ho
   all_goals cases ho
   ·
    have q4:=(h.tab.old 4 (dst_no h.tab (by kernel_rfl))).trans t4
    have q4':b.tmps[4]?.getD undef=_:=(by simpa using q4)
    obtain ⟨c0,c1,c2⟩:=CE W h.glob
    refine wide_val (v:=.pointer (some ⟨b4,0,none⟩)) (by go_simp;try rfl) (FactsGoX.same h.glob rfl (h.x.pure (by decide) (by decide)))
   ·
    have l0:=hall ⟨0,.data⟩ (by simp) rfl
    have e0:b.tmps.getD 24 undef = .pointer (some ⟨b4,0,none⟩):=(h.tab.val 0 24 rfl l0).trans (h.fact 0 l0)
    have e0':b.tmps[24]?.getD undef = .pointer (some ⟨b4,0,none⟩):=(by simpa using e0)
    obtain ⟨c0,c1,c2⟩:=CE W h.glob
    refine wide_val (v:=.int .i64 an) (by go_simp;try rfl) (FactsGoX.same h.glob rfl (h.x.pure (by decide) (by decide)))
   ·
    have q5:=(h.tab.old 5 (dst_no h.tab (by kernel_rfl))).trans t5
    have q5':b.tmps[5]?.getD undef=_:=(by simpa using q5)
    obtain ⟨c0,c1,c2⟩:=CE W h.glob
    refine wide_val (v:=.pointer (some ⟨b5,0,none⟩)) (by go_simp;try rfl) (FactsGoX.same h.glob rfl (h.x.pure (by decide) (by decide)))
   ·
    have l2:=hall ⟨2,.data⟩ (by simp) rfl
    have e2:b.tmps.getD 26 undef = .pointer (some ⟨b5,0,none⟩):=(h.tab.val 2 26 rfl l2).trans (h.fact 2 l2)
    have e2':b.tmps[26]?.getD undef = .pointer (some ⟨b5,0,none⟩):=(by simpa using e2)
    obtain ⟨c0,c1,c2⟩:=CE W h.glob
    refine wide_val (v:=.int .i64 bn) (by go_simp;try rfl) (FactsGoX.same h.glob rfl (h.x.pure (by decide) (by decide)))
   ·
    have l1:=hall ⟨1,.data⟩ (by simp) rfl
    have e1:b.tmps.getD 25 undef = .int .i64 an:=(h.tab.val 1 25 rfl l1).trans (h.fact 1 l1)
    have e1':b.tmps[25]?.getD undef = .int .i64 an:=(by simpa using e1)
    have l3:=hall ⟨3,.data⟩ (by simp) rfl
    have e3:b.tmps.getD 27 undef = .int .i64 bn:=(h.tab.val 3 27 rfl l3).trans (h.fact 3 l3)
    have e3':b.tmps[27]?.getD undef = .int .i64 bn:=(by simpa using e3)
    obtain ⟨c0,c1,c2⟩:=CE W h.glob
    refine wide_val (v:=.int .i64 (an+bn)) (by go_simp;try rfl) (FactsGoX.same h.glob rfl (h.x.pure (by decide) (by decide)))
   ·
    have q9:=(h.tab.old 9 (dst_no h.tab (by kernel_rfl))).trans t9
    have q9':b.tmps[9]?.getD undef=_:=(by simpa using q9)
    obtain ⟨c0,c1,c2⟩:=CE W h.glob
    refine wide_val (v:=.int .i64 k) (by go_simp;try rfl) (FactsGoX.same h.glob rfl (h.x.pure (by decide) (by decide)))
   ·
    have l4:=hall ⟨4,.data⟩ (by simp) rfl
    have e4:b.tmps.getD 28 undef = .int .i64 (an+bn):=(h.tab.val 4 28 rfl l4).trans (h.fact 4 l4)
    have e4':b.tmps[28]?.getD undef = .int .i64 (an+bn):=(by simpa using e4)
    have l5:=hall ⟨5,.data⟩ (by simp) rfl
    have e5:b.tmps.getD 29 undef = .int .i64 k:=(h.tab.val 5 29 rfl l5).trans (h.fact 5 l5)
    have e5':b.tmps[29]?.getD undef = .int .i64 k:=(by simpa using e5)
    obtain ⟨c0,c1,c2⟩:=CE W h.glob
    refine wide_val (v:=.int .i64 (an+bn-k)) (by go_simp;try rfl) (FactsGoX.same h.glob rfl (h.x.pure (by decide) (by decide)))
   ·
    refine wide_val (W':=W.alloc (.cells #[] 56)) (v:=.slice (some ⟨W.heap.size,0,none⟩) 0 0) (by go_simp) (factjnt3.grow h ((Below.refl _ W).alloc (Nat.le_refl _) _) ⟨W.heap.size,rfl,h.glob.size,heap_alloc_new W _⟩ (h.x.pure (by decide) (by decide)))
   ·
    have q4:=(h.tab.old 4 (dst_no h.tab (by kernel_rfl))).trans t4
    have q4':b.tmps[4]?.getD undef=_:=(by simpa using q4)
    obtain ⟨c0,c1,c2⟩:=CE W h.glob
    refine wide_val (v:=.pointer (some ⟨b4,0+2,none⟩)) (by go_simp;try rfl) (FactsGoX.same h.glob rfl (h.x.pure (by decide) (by decide)))
   ·
    have l8:=hall ⟨8,.data⟩ (by simp) rfl
    have e8:b.tmps.getD 32 undef = .pointer (some ⟨b4,0+2,none⟩):=(h.tab.val 8 32 rfl l8).trans (h.fact 8 l8)
    have e8':b.tmps[32]?.getD undef = .pointer (some ⟨b4,0+2,none⟩):=(by simpa using e8)
    obtain ⟨c0,c1,c2⟩:=CE W h.glob
    refine wide_val (v:=.slice SA sn sc) (by go_simp;try rfl) (FactsGoX.same h.glob rfl (h.x.pure (by decide) (by decide)))
   ·
    have l7:=hall ⟨7,.data⟩ (by simp) rfl
    have l9:=hall ⟨9,.data⟩ (by simp) rfl
    have e9:b.tmps.getD 33 undef = .slice SA sn sc:=(h.tab.val 9 33 rfl l9).trans (h.fact 9 l9)
    have e9':b.tmps[33]?.getD undef = .slice SA sn sc:=(by simpa using e9)
    obtain ⟨g,a7,hg7,h7⟩:=h.fact 7 l7
    have e7:b.tmps.getD 31 undef = .slice (some ⟨g,0,none⟩) 0 0:=(h.tab.val 7 31 rfl l7).trans a7
    have e7':b.tmps[31]?.getD undef = .slice (some ⟨g,0,none⟩) 0 0:=(by simpa using e7)
    obtain ⟨A',c',wc,hrun,hO,hbl⟩:=run_append_fresh elBound 22 (fun _=>rfl) oneBound h7 hg7 SA xs (HR W h.glob) (by omega) (by omega)
    have f0:b.eval (.tmp 31) = .slice (some ⟨g,0,none⟩) 0 0:=(by simp only [Act.eval,Array.getD_eq_getD_getElem?];exact e7')
    have f1:b.eval (.tmp 33) = .slice SA sn sc:=(by simp only [Act.eval,Array.getD_eq_getD_getElem?];exact e9')
    refine wide_val (W':=wc) (v:=.slice A' sn c') (by simp only [execOp,resolve,invoke,builtin,Sem.run_bind,Sem.run_pure,Result.andThen_ok,List.map_toArray,List.map_cons,List.map_nil,f0,f1,hrun]) (factjnt3.grow h hbl ⟨A',c',rfl,hO⟩ (h.x.pure (by decide) (by decide)))
   ·
    have l6:=hall ⟨6,.data⟩ (by simp) rfl
    have e6:b.tmps.getD 30 undef = .int .i64 (an+bn-k):=(h.tab.val 6 30 rfl l6).trans (h.fact 6 l6)
    have e6':b.tmps[30]?.getD undef = .int .i64 (an+bn-k):=(by simpa using e6)
    have l10:=hall ⟨10,.data⟩ (by simp) rfl
    obtain ⟨A',c',a1,hO⟩:=h.fact 10 l10
    have e10:b.tmps.getD 34 undef = .slice A' sn c':=(h.tab.val 10 34 rfl l10).trans a1
    have e10':b.tmps[34]?.getD undef = .slice A' sn c':=(by simpa using e10)
    refine wide_val (v:=.agg #[.int .i64 (an+bn-k),.slice A' sn c']) (by go_simp;try rfl) (FactsGoX.same h.glob ⟨A',c',rfl,hO⟩ (h.x.pure (by decide) (by decide)))
   ·
    have n9:listed.getD 13 false=false:=not_listed (h.tab.closed 13 _ rfl) ⟨12,.data⟩ (by simp) rfl hun'
    refine wide_val (W':=W.alloc (.cells #[.int .i64 0,.slice none 0 0] 73)) (v:=.pointer (some ⟨W.heap.size,0,none⟩)) (by go_simp) (factjnt3.grow h ((Below.refl _ W).alloc (Nat.le_refl _) _) ⟨W.heap.size,rfl,h.glob.size,_,_,heap_alloc_new W _⟩ ?_)
    unfold exjnt3
    intro h9
    rw [nextL_ne (by decide),n9] at h9
    cases h9
   ·
    have l12:=hall ⟨12,.data⟩ (by simp) rfl
    have l11:=hall ⟨11,.data⟩ (by simp) rfl
    obtain ⟨g,a8,hg8,u0,u1,h8⟩:=h.fact 12 l12
    have e12:b.tmps.getD 10 undef = .pointer (some ⟨g,0,none⟩):=(h.tab.val 12 10 rfl l12).trans a8
    have e12':b.tmps[10]?.getD undef = .pointer (some ⟨g,0,none⟩):=(by simpa using e12)
    obtain ⟨A',c',a5,hO⟩:=h.fact 11 l11
    have e11:b.tmps.getD 35 undef = .agg #[.int .i64 (an+bn-k),.slice A' sn c']:=(h.tab.val 11 35 rfl l11).trans a5
    have e11':b.tmps[35]?.getD undef = .agg #[.int .i64 (an+bn-k),.slice A' sn c']:=(by simpa using e11)
    have k0:W.cell? ⟨g,0,none⟩=some u0:=(by simp [World.cell?,h8])
    have k1:W.cell? ⟨g,1,none⟩=some u1:=(by simp [World.cell?,h8])
    have k2:W.frozen? ⟨g,0,none⟩=false:=(by simp [World.frozen?,h8])
    have k3:W.frozen? ⟨g,1,none⟩=false:=(by simp [World.frozen?,h8])
    have hs:((W.setCell ⟨g,0,none⟩ (.int .i64 (an+bn-k))).setCell ⟨g,1,none⟩ (.slice A' sn c')).heap[g]? = some (.cells #[.int .i64 (an+bn-k),.slice A' sn c'] 73 (0,0)):=(by rw [heap_setCell_obj (heap_setCell_obj h8)];rfl)
    have HOS:∀ {A2:Option Addr} {n2 c2:Nat} {ys:List Bound},Own encBound 4 56 w.heap.size W A2 n2 c2 ys→Own encBound 4 56 w.heap.size ((W.setCell ⟨g,0,none⟩ (.int .i64 (an+bn-k))).setCell ⟨g,1,none⟩ (.slice A' sn c')) A2 n2 c2 ys:=fun h=>own_set (own_set h h8 (by decide) _) (heap_setCell_obj h8) (by decide) _
    refine wide_skip (W':=(W.setCell ⟨g,0,none⟩ (.int .i64 (an+bn-k))).setCell ⟨g,1,none⟩ (.slice A' sn c')) (by go_simp) ⟨.pointer (some ⟨g,0,none⟩),rfl,⟨g,A',c',rfl,hg8,hs,HOS hO⟩,?_,fun _ _ _ _ _=>trivial,(h.glob.setCell (p:=⟨g,0,none⟩) hg8 _).setCell (p:=⟨g,1,none⟩) hg8 _,?_⟩
    · intro j hj hl hf
      by_cases e:j=12
      · subst e;exact ⟨g,a8,hg8,_,_,hs⟩
      · unfold factjnt3 at hf ⊢
        split at hf
        all_goals first
         | exact hf
         | (exact absurd rfl e)
         | (exact absurd rfl hj)
         | (obtain ⟨A2,c2,q1,q2⟩:=hf;exact ⟨A2,c2,q1,HOS q2⟩)
         | (obtain ⟨g2,q1,q2,q3⟩:=hf;refine ⟨g2,q1,q2,?_⟩;have hne:g2≠g:=(fun e2=>by rw [e2,h8] at q3;cases q3);exact (Below.heap_setCell _ _ _ g2 hne).trans ((Below.heap_setCell _ _ _ g2 hne).trans q3))
    · unfold exjnt3
      intro _
      rw [nextV_at,nextV_ne (by decide),a8]
 · intro V W hf hg hx
   obtain ⟨g,A',c',a9,hg9,h9,hO9⟩:=hf 13 (by decide)
   have:=hQ W g A' c' (V 7) (V 10) (V 11) hg hg9 h9 hO9
   have x8:V 12 = .pointer (some ⟨g,0,none⟩):=(hx rfl).symm.trans a9
   have hV:V 0 = .pointer (some ⟨b4,0,none⟩)∧V 1 = .int .i64 an∧V 2 = .pointer (some ⟨b5,0,none⟩)∧V 3 = .int .i64 bn∧V 4 = .int .i64 (an+bn)∧V 5 = .int .i64 k∧V 6 = .int .i64 (an+bn-k)∧V 8 = .pointer (some ⟨b4,0+2,none⟩)∧V 9 = .slice SA sn sc:=⟨hf 0 (by decide),hf 1 (by decide),hf 2 (by decide),hf 3 (by decide),hf 4 (by decide),hf 5 (by decide),hf 6 (by decide),hf 8 (by decide),hf 9 (by decide)⟩
   obtain ⟨v0,v1,v2,v3,v4,v5,v6,v8,v9⟩:=hV
   simp only [List.size_toArray,List.length_cons,List.length_nil,Nat.reduceAdd,framed,dstOf,List.getElem?_toArray,List.getElem?_cons_zero,List.getElem?_cons_succ,Option.bind_some,v0,v1,v2,v3,v4,v5,v6,v8,v9,x8]
   exact this
def factjnt10 (w0:World) (b4 b5:Nat) (an bn k:Int) (SA:Option Addr) (sn sc:Nat) (xs:List Bound):Nat→Value→World→Prop
 | 0,v,_=>v = .pointer (some ⟨b4,0,none⟩)
 | 1,v,_=>v = .int .i64 an
 | 2,v,_=>v = .pointer (some ⟨b5,0,none⟩)
 | 3,v,_=>v = .int .i64 bn
 | 4,v,_=>v = .int .i64 (an+bn)
 | 5,v,_=>v = .int .i64 (an+bn+2)
 | 6,v,_=>v = .int .i64 k
 | 7,v,_=>v = .int .i64 (k+1)
 | 8,v,_=>v = .int .i64 (an+bn+2-(k+1))
 | 10,v,_=>v = .pointer (some ⟨b4,0+1,none⟩)
 | 11,v,_=>v = .slice SA sn sc
 | 9,v,W=> ∃ g,v = .slice (some ⟨g,0,none⟩) 0 0∧w0.heap.size≤g∧W.heap[g]? = some (.cells #[] 56 (0,0))
 | 12,v,W=> ∃ A' c',v = .slice A' sn c'∧Own encBound 4 56 w0.heap.size W A' sn c' xs
 | 13,v,W=> ∃ A' c',v = .agg #[.int .i64 (an+bn+2-(k+1)),.slice A' sn c']∧Own encBound 4 56 w0.heap.size W A' sn c' xs
 | 14,v,W=> ∃ g,v = .pointer (some ⟨g,0,none⟩)∧w0.heap.size≤g∧∃ u0 u1,W.heap[g]? = some (.cells #[u0,u1] 73 (0,0))
 | 15,v,W=> ∃ g A' c',v = .pointer (some ⟨g,0,none⟩)∧w0.heap.size≤g∧W.heap[g]? = some (.cells #[.int .i64 (an+bn+2-(k+1)),.slice A' sn c'] 73 (0,0))∧Own encBound 4 56 w0.heap.size W A' sn c' xs
 | _,_,_=>True
def exjnt10 (V:Nat→Value) (L:Nat→Bool):Prop:=L 15=true→V 15=V 14
theorem exjnt10.pure {V:Nat→Value} {listed:Array Bool} {i:Nat} {v:Value} (h:exjnt10 V (fun j=>listed.getD j false)) (h8:i≠14) (h9:i≠15):exjnt10 (nextV V i v) (nextL listed i):=by
 unfold exjnt10
 rw [nextL_ne (Ne.symm h9),nextV_ne (Ne.symm h8),nextV_ne (Ne.symm h9)]
 exact h
theorem factjnt10.below {w0:World} {b4 b5:Nat} {an bn k:Int} {SA:Option Addr} {sn sc:Nat} {xs:List Bound} {j:Nat} {v:Value} {W W':World} (h:factjnt10 w0 b4 b5 an bn k SA sn sc xs j v W) (hb:Below W.heap.size W W'):factjnt10 w0 b4 b5 an bn k SA sn sc xs j v W':=by
 unfold factjnt10 at h ⊢
 split at h
 all_goals first
  | exact h
  | (obtain ⟨g,h1,h2,h3⟩:=h;exact ⟨g,h1,h2,(hb.block g (Array.getElem?_eq_some_iff.1 h3).1).trans h3⟩)
  | (obtain ⟨g,h1,h2,u0,u1,h3⟩:=h;exact ⟨g,h1,h2,u0,u1,(hb.block g (Array.getElem?_eq_some_iff.1 h3).1).trans h3⟩)
  | (obtain ⟨A',c',h1,h2⟩:=h;exact ⟨A',c',h1,h2.below hb (Nat.le_refl _)⟩)
  | (obtain ⟨g,A',c',h1,h2,h3,h4⟩:=h;exact ⟨g,A',c',h1,h2,(hb.block g (Array.getElem?_eq_some_iff.1 h3).1).trans h3,h4.below hb (Nat.le_refl _)⟩)
theorem factjnt10.grow {w0:World} {b4 b5:Nat} {an bn k:Int} {SA:Option Addr} {sn sc:Nat} {xs:List Bound} {ops:Array Oper} {a:Act} {V:Nat→Value} {listed:Array Bool} {i:Nat} {d:Option Tmp} {b:Act} {W W':World} {v:Value}
 (h:FactsAtX ops a (factjnt10 w0 b4 b5 an bn k SA sn sc xs) (fun _ _=>True) (fun W=>Below w0.heap.size w0 W) exjnt10 V listed b W) (hb:Below W.heap.size W W') (hf:factjnt10 w0 b4 b5 an bn k SA sn sc xs i v W') (hx:exjnt10 (nextV V i v) (nextL listed i)):FactsGoX ops (factjnt10 w0 b4 b5 an bn k SA sn sc xs) (fun _ _=>True) (fun W=>Below w0.heap.size w0 W) exjnt10 V listed i d b W (b.put d v) W':=
 ⟨v,rfl,hf,fun _ _ _ h=>h.below hb,fun _ _ _ _ _=>trivial,h.glob.trans (hb.mono h.glob.size),hx⟩
def codejnt10:Option Code→Code
 | some (.seq _ (.seq _ (.seq _ (.seq c _))))=>c
 | _=> .skip
theorem jnt10 (c:Code) (hc:c=codejnt10 Tryz.f74.body) (b4 b5:Nat) (an bn k:Int) (SA:Option Addr) (sn sc:Nat) (xs:List Bound) (a:Act) (w:World) (Q:Exit→Act→World→Prop)
 (hT:a.tmps.size=116) (t4:a.tmps.getD 4 undef = .pointer (some ⟨b4,0,none⟩)) (t5:a.tmps.getD 5 undef = .pointer (some ⟨b5,0,none⟩)) (t9:a.tmps.getD 9 undef = .int .i64 k)
 (CE:∀ W,Below w.heap.size w W→W.cell? ⟨b4,0,none⟩=some (.int .i64 an)∧W.cell? ⟨b4,1,none⟩=some (.slice SA sn sc)∧W.cell? ⟨b5,0,none⟩=some (.int .i64 bn))
 (HR:∀ W,Below w.heap.size w W→Rd encBound 4 W SA sn sc xs) (hsn:sn≤1000000) (ha:0≤an∧an≤1000) (hb0:0≤bn∧bn≤1000) (hk:0≤k∧k≤1000)
 (hQ:∀ W g A' c' z9 z12 z13,Below w.heap.size w W→w.heap.size≤g→W.heap[g]? = some (.cells #[.int .i64 (an+bn+2-(k+1)),.slice A' sn c'] 73 (0,0))→Own encBound 4 56 w.heap.size W A' sn c' xs→Q .normal { tmps:=(((((((((((((((a.tmps.setIfInBounds 69 (.pointer (some ⟨b4,0,none⟩))).setIfInBounds 70 (.int .i64 an)).setIfInBounds 71 (.pointer (some ⟨b5,0,none⟩))).setIfInBounds 72 (.int .i64 bn)).setIfInBounds 73 (.int .i64 (an+bn))).setIfInBounds 74 (.int .i64 (an+bn+2))).setIfInBounds 75 (.int .i64 k)).setIfInBounds 76 (.int .i64 (k+1))).setIfInBounds 77 (.int .i64 (an+bn+2-(k+1)))).setIfInBounds 78 (z9)).setIfInBounds 79 (.pointer (some ⟨b4,0+1,none⟩))).setIfInBounds 80 (.slice SA sn sc)).setIfInBounds 81 (z12)).setIfInBounds 82 (z13)).setIfInBounds 13 (.pointer (some ⟨g,0,none⟩))),defers:=a.defers } W):
 c.wp Tryz.prog Q a w:=by
 subst hc
 unfold codejnt10 Tryz.f74
 dsimp only
 have w1:IntKind.i64.wrap (an+bn)=an+bn:=(by rw [IntKind.wrap_i64];omega)
 have w2:IntKind.i64.wrap (an+bn+2)=an+bn+2:=(by rw [IntKind.wrap_i64];omega)
 have w3:IntKind.i64.wrap (k+1)=k+1:=(by rw [IntKind.wrap_i64];omega)
 have w4:IntKind.i64.wrap (an+bn+2-(k+1))=an+bn+2-(k+1):=(by rw [IntKind.wrap_i64];omega)
 clear ha hb0 hk
 refine wpIn_wide.1 (wpIn_region_factsX (nn:=5) 116 (by kernel_rfl) (by kernel_rfl) hT.symm (factjnt10 w b4 b5 an bn k SA sn sc xs) (fun _ _=>True) (fun W=>Below w.heap.size w W) exjnt10 (Below.refl _ w).drew (fun _ _=>trivial) (fun V h=>(by cases h)) ?_ ?_)
 · intro V listed i o b W hi ho h
   obtain ⟨hun,oi,hoi,hall⟩:=mem_ready.1 hi
   have:oi=o:=Option.some.inj (hoi.symm.trans ho)
   subst this
   clear hoi hi
   have hlt:i<16:=(by have:=(Array.getElem?_eq_some_iff.1 ho).1;simpa using this)
   have hun':listed.getD i false=false:=getD_both hun
   have hpre:=h.pre i (by simpa using hlt) hun'
   rcases (by omega:i=0∨i=1∨i=2∨i=3∨i=4∨i=5∨i=6∨i=7∨i=8∨i=9∨i=10∨i=11∨i=12∨i=13∨i=14∨i=15) with rfl|rfl|rfl|rfl|rfl|rfl|rfl|rfl|rfl|rfl|rfl|rfl|rfl|rfl|rfl|rfl
   all_goals simp only [List.getElem?_toArray,List.getElem?_cons_zero,List.getElem?_cons_succ] at ho
   all_goals cases ho
   ·
    have q4:=(h.tab.old 4 (dst_no h.tab (by kernel_rfl))).trans t4
    have q4':b.tmps[4]?.getD undef=_:=(by simpa using q4)
    obtain ⟨c0,c1,c2⟩:=CE W h.glob
    refine wide_val (v:=.pointer (some ⟨b4,0,none⟩)) (by go_simp;try rfl) (FactsGoX.same h.glob rfl (h.x.pure (by decide) (by decide)))
   ·
    have l0:=hall ⟨0,.data⟩ (by simp) rfl
    have e0:b.tmps.getD 69 undef = .pointer (some ⟨b4,0,none⟩):=(h.tab.val 0 69 rfl l0).trans (h.fact 0 l0)
    have e0':b.tmps[69]?.getD undef = .pointer (some ⟨b4,0,none⟩):=(by simpa using e0)
    obtain ⟨c0,c1,c2⟩:=CE W h.glob
    refine wide_val (v:=.int .i64 an) (by go_simp;try rfl) (FactsGoX.same h.glob rfl (h.x.pure (by decide) (by decide)))
   ·
    have q5:=(h.tab.old 5 (dst_no h.tab (by kernel_rfl))).trans t5
    have q5':b.tmps[5]?.getD undef=_:=(by simpa using q5)
    obtain ⟨c0,c1,c2⟩:=CE W h.glob
    refine wide_val (v:=.pointer (some ⟨b5,0,none⟩)) (by go_simp;try rfl) (FactsGoX.same h.glob rfl (h.x.pure (by decide) (by decide)))
   ·
    have l2:=hall ⟨2,.data⟩ (by simp) rfl
    have e2:b.tmps.getD 71 undef = .pointer (some ⟨b5,0,none⟩):=(h.tab.val 2 71 rfl l2).trans (h.fact 2 l2)
    have e2':b.tmps[71]?.getD undef = .pointer (some ⟨b5,0,none⟩):=(by simpa using e2)
    obtain ⟨c0,c1,c2⟩:=CE W h.glob
    refine wide_val (v:=.int .i64 bn) (by go_simp;try rfl) (FactsGoX.same h.glob rfl (h.x.pure (by decide) (by decide)))
   ·
    have l1:=hall ⟨1,.data⟩ (by simp) rfl
    have e1:b.tmps.getD 70 undef = .int .i64 an:=(h.tab.val 1 70 rfl l1).trans (h.fact 1 l1)
    have e1':b.tmps[70]?.getD undef = .int .i64 an:=(by simpa using e1)
    have l3:=hall ⟨3,.data⟩ (by simp) rfl
    have e3:b.tmps.getD 72 undef = .int .i64 bn:=(h.tab.val 3 72 rfl l3).trans (h.fact 3 l3)
    have e3':b.tmps[72]?.getD undef = .int .i64 bn:=(by simpa using e3)
    obtain ⟨c0,c1,c2⟩:=CE W h.glob
    refine wide_val (v:=.int .i64 (an+bn)) (by go_simp;try rfl) (FactsGoX.same h.glob rfl (h.x.pure (by decide) (by decide)))
   ·
    have l4:=hall ⟨4,.data⟩ (by simp) rfl
    have e4:b.tmps.getD 73 undef = .int .i64 (an+bn):=(h.tab.val 4 73 rfl l4).trans (h.fact 4 l4)
    have e4':b.tmps[73]?.getD undef = .int .i64 (an+bn):=(by simpa using e4)
    obtain ⟨c0,c1,c2⟩:=CE W h.glob
    refine wide_val (v:=.int .i64 (an+bn+2)) (by go_simp;try rfl) (FactsGoX.same h.glob rfl (h.x.pure (by decide) (by decide)))
   ·
    have q9:=(h.tab.old 9 (dst_no h.tab (by kernel_rfl))).trans t9
    have q9':b.tmps[9]?.getD undef=_:=(by simpa using q9)
    obtain ⟨c0,c1,c2⟩:=CE W h.glob
    refine wide_val (v:=.int .i64 k) (by go_simp;try rfl) (FactsGoX.same h.glob rfl (h.x.pure (by decide) (by decide)))
   ·
    have l6:=hall ⟨6,.data⟩ (by simp) rfl
    have e6:b.tmps.getD 75 undef = .int .i64 k:=(h.tab.val 6 75 rfl l6).trans (h.fact 6 l6)
    have e6':b.tmps[75]?.getD undef = .int .i64 k:=(by simpa using e6)
    obtain ⟨c0,c1,c2⟩:=CE W h.glob
    refine wide_val (v:=.int .i64 (k+1)) (by go_simp;try rfl) (FactsGoX.same h.glob rfl (h.x.pure (by decide) (by decide)))
   ·
    have l5:=hall ⟨5,.data⟩ (by simp) rfl
    have e5:b.tmps.getD 74 undef = .int .i64 (an+bn+2):=(h.tab.val 5 74 rfl l5).trans (h.fact 5 l5)
    have e5':b.tmps[74]?.getD undef = .int .i64 (an+bn+2):=(by simpa using e5)
    have l7:=hall ⟨7,.data⟩ (by simp) rfl
    have e7:b.tmps.getD 76 undef = .int .i64 (k+1):=(h.tab.val 7 76 rfl l7).trans (h.fact 7 l7)
    have e7':b.tmps[76]?.getD undef = .int .i64 (k+1):=(by simpa using e7)
    obtain ⟨c0,c1,c2⟩:=CE W h.glob
    refine wide_val (v:=.int .i64 (an+bn+2-(k+1))) (by go_simp;try rfl) (FactsGoX.same h.glob rfl (h.x.pure (by decide) (by decide)))
   ·
    refine wide_val (W':=W.alloc (.cells #[] 56)) (v:=.slice (some ⟨W.heap.size,0,none⟩) 0 0) (by go_simp) (factjnt10.grow h ((Below.refl _ W).alloc (Nat.le_refl _) _) ⟨W.heap.size,rfl,h.glob.size,heap_alloc_new W _⟩ (h.x.pure (by decide) (by decide)))
   ·
    have q4:=(h.tab.old 4 (dst_no h.tab (by kernel_rfl))).trans t4
    have q4':b.tmps[4]?.getD undef=_:=(by simpa using q4)
    obtain ⟨c0,c1,c2⟩:=CE W h.glob
    refine wide_val (v:=.pointer (some ⟨b4,0+1,none⟩)) (by go_simp;try rfl) (FactsGoX.same h.glob rfl (h.x.pure (by decide) (by decide)))
   ·
    have l10:=hall ⟨10,.data⟩ (by simp) rfl
    have e10:b.tmps.getD 79 undef = .pointer (some ⟨b4,0+1,none⟩):=(h.tab.val 10 79 rfl l10).trans (h.fact 10 l10)
    have e10':b.tmps[79]?.getD undef = .pointer (some ⟨b4,0+1,none⟩):=(by simpa using e10)
    obtain ⟨c0,c1,c2⟩:=CE W h.glob
    refine wide_val (v:=.slice SA sn sc) (by go_simp;try rfl) (FactsGoX.same h.glob rfl (h.x.pure (by decide) (by decide)))
   ·
    have l9:=hall ⟨9,.data⟩ (by simp) rfl
    have l11:=hall ⟨11,.data⟩ (by simp) rfl
    have e11:b.tmps.getD 80 undef = .slice SA sn sc:=(h.tab.val 11 80 rfl l11).trans (h.fact 11 l11)
    have e11':b.tmps[80]?.getD undef = .slice SA sn sc:=(by simpa using e11)
    obtain ⟨g,a7,hg7,h7⟩:=h.fact 9 l9
    have e9:b.tmps.getD 78 undef = .slice (some ⟨g,0,none⟩) 0 0:=(h.tab.val 9 78 rfl l9).trans a7
    have e9':b.tmps[78]?.getD undef = .slice (some ⟨g,0,none⟩) 0 0:=(by simpa using e9)
    obtain ⟨A',c',wc,hrun,hO,hbl⟩:=run_append_fresh elBound 22 (fun _=>rfl) oneBound h7 hg7 SA xs (HR W h.glob) (by omega) (by omega)
    have f0:b.eval (.tmp 78) = .slice (some ⟨g,0,none⟩) 0 0:=(by simp only [Act.eval,Array.getD_eq_getD_getElem?];exact e9')
    have f1:b.eval (.tmp 80) = .slice SA sn sc:=(by simp only [Act.eval,Array.getD_eq_getD_getElem?];exact e11')
    refine wide_val (W':=wc) (v:=.slice A' sn c') (by simp only [execOp,resolve,invoke,builtin,Sem.run_bind,Sem.run_pure,Result.andThen_ok,List.map_toArray,List.map_cons,List.map_nil,f0,f1,hrun]) (factjnt10.grow h hbl ⟨A',c',rfl,hO⟩ (h.x.pure (by decide) (by decide)))
   ·
    have l8:=hall ⟨8,.data⟩ (by simp) rfl
    have e8:b.tmps.getD 77 undef = .int .i64 (an+bn+2-(k+1)):=(h.tab.val 8 77 rfl l8).trans (h.fact 8 l8)
    have e8':b.tmps[77]?.getD undef = .int .i64 (an+bn+2-(k+1)):=(by simpa using e8)
    have l12:=hall ⟨12,.data⟩ (by simp) rfl
    obtain ⟨A',c',a1,hO⟩:=h.fact 12 l12
    have e12:b.tmps.getD 81 undef = .slice A' sn c':=(h.tab.val 12 81 rfl l12).trans a1
    have e12':b.tmps[81]?.getD undef = .slice A' sn c':=(by simpa using e12)
    refine wide_val (v:=.agg #[.int .i64 (an+bn+2-(k+1)),.slice A' sn c']) (by go_simp;try rfl) (FactsGoX.same h.glob ⟨A',c',rfl,hO⟩ (h.x.pure (by decide) (by decide)))
   ·
    have n9:listed.getD 15 false=false:=not_listed (h.tab.closed 15 _ rfl) ⟨14,.data⟩ (by simp) rfl hun'
    refine wide_val (W':=W.alloc (.cells #[.int .i64 0,.slice none 0 0] 73)) (v:=.pointer (some ⟨W.heap.size,0,none⟩)) (by go_simp) (factjnt10.grow h ((Below.refl _ W).alloc (Nat.le_refl _) _) ⟨W.heap.size,rfl,h.glob.size,_,_,heap_alloc_new W _⟩ ?_)
    unfold exjnt10
    intro h9
    rw [nextL_ne (by decide),n9] at h9
    cases h9
   ·
    have l14:=hall ⟨14,.data⟩ (by simp) rfl
    have l13:=hall ⟨13,.data⟩ (by simp) rfl
    obtain ⟨g,a8,hg8,u0,u1,h8⟩:=h.fact 14 l14
    have e14:b.tmps.getD 13 undef = .pointer (some ⟨g,0,none⟩):=(h.tab.val 14 13 rfl l14).trans a8
    have e14':b.tmps[13]?.getD undef = .pointer (some ⟨g,0,none⟩):=(by simpa using e14)
    obtain ⟨A',c',a5,hO⟩:=h.fact 13 l13
    have e13:b.tmps.getD 82 undef = .agg #[.int .i64 (an+bn+2-(k+1)),.slice A' sn c']:=(h.tab.val 13 82 rfl l13).trans a5
    have e13':b.tmps[82]?.getD undef = .agg #[.int .i64 (an+bn+2-(k+1)),.slice A' sn c']:=(by simpa using e13)
    have k0:W.cell? ⟨g,0,none⟩=some u0:=(by simp [World.cell?,h8])
    have k1:W.cell? ⟨g,1,none⟩=some u1:=(by simp [World.cell?,h8])
    have k2:W.frozen? ⟨g,0,none⟩=false:=(by simp [World.frozen?,h8])
    have k3:W.frozen? ⟨g,1,none⟩=false:=(by simp [World.frozen?,h8])
    have hs:((W.setCell ⟨g,0,none⟩ (.int .i64 (an+bn+2-(k+1)))).setCell ⟨g,1,none⟩ (.slice A' sn c')).heap[g]? = some (.cells #[.int .i64 (an+bn+2-(k+1)),.slice A' sn c'] 73 (0,0)):=(by rw [heap_setCell_obj (heap_setCell_obj h8)];rfl)
    have HOS:∀ {A2:Option Addr} {n2 c2:Nat} {ys:List Bound},Own encBound 4 56 w.heap.size W A2 n2 c2 ys→Own encBound 4 56 w.heap.size ((W.setCell ⟨g,0,none⟩ (.int .i64 (an+bn+2-(k+1)))).setCell ⟨g,1,none⟩ (.slice A' sn c')) A2 n2 c2 ys:=fun h=>own_set (own_set h h8 (by decide) _) (heap_setCell_obj h8) (by decide) _
    refine wide_skip (W':=(W.setCell ⟨g,0,none⟩ (.int .i64 (an+bn+2-(k+1)))).setCell ⟨g,1,none⟩ (.slice A' sn c')) (by go_simp) ⟨.pointer (some ⟨g,0,none⟩),rfl,⟨g,A',c',rfl,hg8,hs,HOS hO⟩,?_,fun _ _ _ _ _=>trivial,(h.glob.setCell (p:=⟨g,0,none⟩) hg8 _).setCell (p:=⟨g,1,none⟩) hg8 _,?_⟩
    · intro j hj hl hf
      by_cases e:j=14
      · subst e;exact ⟨g,a8,hg8,_,_,hs⟩
      · unfold factjnt10 at hf ⊢
        split at hf
        all_goals first
         | exact hf
         | (exact absurd rfl e)
         | (exact absurd rfl hj)
         | (obtain ⟨A2,c2,q1,q2⟩:=hf;exact ⟨A2,c2,q1,HOS q2⟩)
         | (obtain ⟨g2,q1,q2,q3⟩:=hf;refine ⟨g2,q1,q2,?_⟩;have hne:g2≠g:=(fun e2=>by rw [e2,h8] at q3;cases q3);exact (Below.heap_setCell _ _ _ g2 hne).trans ((Below.heap_setCell _ _ _ g2 hne).trans q3))
    · unfold exjnt10
      intro _
      rw [nextV_at,nextV_ne (by decide),a8]
 · intro V W hf hg hx
   obtain ⟨g,A',c',a9,hg9,h9,hO9⟩:=hf 15 (by decide)
   have:=hQ W g A' c' (V 9) (V 12) (V 13) hg hg9 h9 hO9
   have x8:V 14 = .pointer (some ⟨g,0,none⟩):=(hx rfl).symm.trans a9
   have hV:V 0 = .pointer (some ⟨b4,0,none⟩)∧V 1 = .int .i64 an∧V 2 = .pointer (some ⟨b5,0,none⟩)∧V 3 = .int .i64 bn∧V 4 = .int .i64 (an+bn)∧V 5 = .int .i64 (an+bn+2)∧V 6 = .int .i64 k∧V 7 = .int .i64 (k+1)∧V 8 = .int .i64 (an+bn+2-(k+1))∧V 10 = .pointer (some ⟨b4,0+1,none⟩)∧V 11 = .slice SA sn sc:=⟨hf 0 (by decide),hf 1 (by decide),hf 2 (by decide),hf 3 (by decide),hf 4 (by decide),hf 5 (by decide),hf 6 (by decide),hf 7 (by decide),hf 8 (by decide),hf 10 (by decide),hf 11 (by decide)⟩
   obtain ⟨v0,v1,v2,v3,v4,v5,v6,v7,v8,v10,v11⟩:=hV
   simp only [List.size_toArray,List.length_cons,List.length_nil,Nat.reduceAdd,framed,dstOf,List.getElem?_toArray,List.getElem?_cons_zero,List.getElem?_cons_succ,Option.bind_some,v0,v1,v2,v3,v4,v5,v6,v7,v8,v10,v11,x8]
   exact this
theorem results_cell1 {P:Program} {fn:Func} {p:Tmp} {ty:TypeId} (h:fn.results = #[.cell p ty]) (tmps:Array Value) (w:World) (g:Nat) (t:TypeId) (cs:Array Value) (fr:Nat×Nat) (d:TypeDesc)
 (hp:tmps.getD p undef = .pointer (some ⟨g,0,none⟩)) (hg:w.heap[g]? = some (.cells cs t fr))
 (hu:P.underlying ty=some d) (hd:(match d with | .struct _ | .array _ _=>true|_=>false)=true) (hi:(P.info? ty).map (·.size)=some cs.size):
 (results fn tmps).run P w = .ok (.agg cs) w:=by
 have hp':tmps[p]?.getD undef = .pointer (some ⟨g,0,none⟩):=by simpa using hp
 simp [results,h,hp',asAddr,run_loadVar_row w g t ty cs fr d hg hu hd hi]
theorem jointB_take {first low high at_:Int} {back:Bool} {a b:List Bound} {k:Nat} {x:Bound} (hx:b[k]? = some x):jointB first low high at_ back a (b.take (k+1))=jointB first low high at_ back a (b.take k) ++ [placeB first low high at_ back x]:=by
 unfold jointB
 rw [List.take_add_one,hx,Option.toList_some,List.map_append,List.append_assoc]
 rfl
theorem Own.not_at {α:Type} {enc:α→List Value} {k n c B:Nat} {e:TypeId} {w:World} {A:Option Addr} {xs:List α} (h:Own enc k e B w A n c xs) {g:Nat} (hg:w.heap.size≤g):some g≠blockOf A:=fun e=>by
 rcases h.block with h'|⟨g',cur,h',hg',_⟩
 · subst h';cases e
 · subst h'
   cases e
   have h9:g'<w.heap.size:=(Array.getElem?_eq_some_iff.1 hg').1
   simp only at hg
   omega
theorem Own.not_ty {α:Type} {enc:α→List Value} {k n c B:Nat} {e:TypeId} {w:World} {A:Option Addr} {xs:List α} (h:Own enc k e B w A n c xs) {g:Nat} {cs:Array Value} {t:TypeId} (hg:w.heap[g]? = some (.cells cs t (0,0))) (ht:t≠e):some g≠blockOf A:=fun e=>by
 rcases h.ne_type hg ht with rfl|h'
 · cases e
 · exact h' e.symm
def jntL (A B:Outl) (p:Pairing) (turned:Bool):List Bound:=if turned then dirsB A B p else waysB A B p
def jntN (A B:Outl) (p:Pairing) (turned:Bool):Int:=if turned then dirsN A B p else waysN A B p
theorem r3joint_true (A:Outl) (AwA:Option Addr) (Awn Awc:Nat) (AtA:Option Addr) (Atn Atc:Nat) (B:Outl) (BwA:Option Addr) (Bwn Bwc:Nat) (BtA:Option Addr) (Btn Btc:Nat) (p:Pairing) (w:World) (_:Rd encBound 4 w AwA Awn Awc A.ways) (At:Rd encBound 4 w AtA Atn Atc A.turns) (_:Rd encBound 4 w BwA Bwn Bwc B.ways) (Bt:Rd encBound 4 w BtA Btn Btc B.turns) (h:PairOk A B p):
 Calls Tryz.prog 74 #[.agg #[.int .i64 A.n,.slice AwA Awn Awc,.slice AtA Atn Atc],.agg #[.int .i64 B.n,.slice BwA Bwn Bwc,.slice BtA Btn Btc],.agg #[.int .i64 p.a.lo,.int .i64 p.a.hi,.int .i64 p.b.lo,.int .i64 p.b.hi],.bool true] w fun e w'=> ∃ A' c',e = .returned (.agg #[.int .i64 (jntN A B p true),.slice A' (Atn+Btn) c'])∧Below w.heap.size w w'∧Own encBound 4 56 w.heap.size w' A' (Atn+Btn) c' (jntL A B p true):=by
 obtain ⟨n1,n2,n3,n4⟩:=checkOut_zero.1 h.a
 obtain ⟨m1,m2,m3,m4⟩:=checkOut_zero.1 h.b
 obtain ⟨s1,s2,s3,s4⟩:=checkSys_zero.1 n4
 obtain ⟨r1,r2,r3,r4⟩:=checkSys_zero.1 m4
 have a0:=h.a0;have a1:=h.a1;have a2:=h.a2;have b0:=h.b0;have b1:=h.b1;have b2:=h.b2;have hk:=h.k
 have ln1:=At.len
 have ln2:=Bt.len
 obtain ⟨w1,hw1,hb1,hz1,hbx⟩:=boxABP w A AwA Awn Awc AtA Atn Atc B BwA Bwn Bwc BtA Btn Btc p
 obtain ⟨w2,hw2,lb2,z2,e2⟩:=alloc_facts w1 #[.int .i64 0,.slice none 0 0] 73
 have hb2:=hb1.trans (lb2.mono hb1.size)
 rw [hz1] at e2
 have KX:Hid (∀ W,Below w2.heap.size w2 W→BoxABP w.heap.size A AwA Awn Awc AtA Atn Atc B BwA Bwn Bwc BtA Btn Btc p W):=(show ∀ W,_→_ from fun W hW=>hbx W (lb2.trans (hW.mono lb2.size)))
 have RS:Hid (∀ W,Below w2.heap.size w2 W→Rd encBound 4 W AtA Atn Atc A.turns):=(show ∀ W,_→_ from fun W hW=>(At.below hb2 (Nat.le_refl _)).below hW (Nat.le_refl _))
 have RT:Hid (∀ W,Below w2.heap.size w2 W→Rd encBound 4 W BtA Btn Btc B.turns):=(show ∀ W,_→_ from fun W hW=>(Bt.below hb2 (Nat.le_refl _)).below hW (Nat.le_refl _))
 have HB2:=Lib.hid hb2
 have HW1:=Lib.hid hw1
 have HW2:=Lib.hid hw2
 have HE2:=Lib.hid e2
 have hz2:w2.heap.size=w.heap.size+1+1+1+1:=(by omega)
 have HSRC:Hid (∀ x∈B.turns,Mid x.src∧Mid x.dst):=(show ∀ x∈B.turns,_ from fun x hx=>by
  have:=wrongB_no.1 (r4 x hx)
  exact ⟨⟨by omega,by omega⟩,⟨by omega,by omega⟩⟩)
 have HPL:Hid (∀ x:Bound,placeB A.n p.b.lo (p.b.hi-1) p.a.lo false x=⟨whereF A.n p.b.lo (p.b.hi-1) p.a.lo x.src,whereF A.n p.b.lo (p.b.hi-1) p.a.lo x.dst,x.most,x.by_⟩):=(show ∀ x:Bound,_ from fun x=>rfl)
 have HN:Hid (jntN A B p true=A.n+B.n-(p.a.hi-p.a.lo)):=(show _=_ from by
  show dirsN A B p=_
  unfold dirsN jointN
  omega)
 have HJ:Hid (jntL A B p true=jointB A.n p.b.lo (p.b.hi-1) p.a.lo false A.turns (B.turns)):=(show _=_ from rfl)
 rw [HN.out,HJ.out]
 have hsn:Atn≤400:=(by omega)
 have hbn:Btn≤400:=(by omega)
 have u1:IntKind.i64.wrap (p.a.hi-p.a.lo)=p.a.hi-p.a.lo:=(by rw [IntKind.wrap_i64];omega)
 have MID:Hid (Mid A.n∧Mid p.a.lo∧Mid p.b.lo∧Mid p.b.hi∧(0≤A.n∧A.n≤1000)∧(0≤B.n∧B.n≤1000)∧(0≤p.a.hi-p.a.lo∧p.a.hi-p.a.lo≤1000)):=(show _∧_ from ⟨⟨by omega,by omega⟩,⟨by omega,by omega⟩,⟨by omega,by omega⟩,⟨by omega,by omega⟩,⟨by omega,by omega⟩,⟨by omega,by omega⟩,by omega,by omega⟩)
 obtain ⟨xa0,xa1,xa2,xb0,xb1,xb2,xp0,xp1,xp2,xp3⟩:=KX.out w2 (Below.refl _ _)
 clear At Bt h n1 n2 n3 n4 m1 m2 m3 m4 s1 s2 s3 s4 r1 r2 r3 r4 a0 a1 a2 b0 b1 b2 hk hb1 hw1 hbx hw2 lb2 z2 e2 hb2 HJ ln1
 have HLB:=Lib.hid ln2
 clear ln2
 go_enter Tryz.func74,Tryz.ntmps74
 go_upto_region 3 with (first|rw [HW1.out]|rw [HW2.out])
 refine jnt3 _ rfl w.heap.size (w.heap.size+1) A.n B.n (p.a.hi-p.a.lo) AtA Atn Atc A.turns _ w2 _ rfl rfl rfl rfl (fun W hW=> ?_) RS.out (by omega) MID.out.2.2.2.2.1 MID.out.2.2.2.2.2.1 MID.out.2.2.2.2.2.2 ?_
 · obtain ⟨q0,q1,q2,q3,q4,q5,q6,q7,q8,q9⟩:=KX.out W hW
   exact ⟨q0,q2,q3⟩
 intro w3 g A0 c0 z1 z2 z3 hb3 hg3 hh3 hO3
 have HB3:=Lib.hid hb3
 have HH3:=Lib.hid hh3
 have HO3:=Lib.hid hO3
 clear hb3 hh3 hO3
 simp only [List.setIfInBounds_toArray,List.set_cons_succ,List.set_cons_zero,Nat.zero_add]
 clear xa0 xa1 xa2 xb0 xb1 xb2 xp0 xp1 xp2 xp3
 obtain ⟨xa0,xa1,xa2,xb0,xb1,xb2,xp0,xp1,xp2,xp3⟩:=KX.out w3 HB3.out
 have hz3:=HB3.out.size
 go_wp2
 go_loopw [11] (fun sI wr=> ∃ (k:Nat) (A':Option Addr) (c':Nat),k≤Btn∧sI = .int .i64 k∧Hid (Below w2.heap.size w2 wr)∧Hid (wr.heap[g]? = some (.cells #[.int .i64 (A.n+B.n-(p.a.hi-p.a.lo)),.slice A' (Atn+k) c'] 73 (0,0)))∧Hid (Own encBound 4 56 w2.heap.size wr A' (Atn+k) c' (jointB A.n p.b.lo (p.b.hi-1) p.a.lo false A.turns (B.turns.take k)))) (fun sI _=>Btn-(intOf sI).toNat)
 case atStart=>exact ⟨0,A0,c0,Nat.zero_le _,rfl,(show Below _ _ _ from HB3.out),(show _=_ from HH3.out),(show Own _ _ _ _ _ _ _ _ _ from by unfold jointB;simpa using HO3.out)⟩
 case round=>
  obtain ⟨k,A',c',hk,rfl,hbl,hh,hO⟩:=hrel
  rename World=>wo
  have hzo:=hbl.out.size
  have hgw:g<wo.heap.size:=(Array.getElem?_eq_some_iff.1 hh.out).1
  have s0:wo.cell? ⟨g,0,none⟩=some (.int .i64 (A.n+B.n-(p.a.hi-p.a.lo))):=(by have:=hh.out;simp [World.cell?,this])
  have s1:wo.cell? ⟨g,1,none⟩=some (.slice A' (Atn+k) c'):=(by have:=hh.out;simp [World.cell?,this])
  obtain ⟨y0,y1,y2,y3,y4,y5,y6,y7,y8,y9⟩:=KX.out wo hbl.out
  by_cases hlt:k<Btn
  · obtain ⟨b,off,x,rfl,hbw,hx,hcell⟩:=(RT.out wo hbl.out).one hlt
    have e0:wo.cell? ⟨b,off+k * 4,none⟩=some (.int .i64 x.src):=hcell 0 _ rfl
    have e1:wo.cell? ⟨b,off+k * 4+1,none⟩=some (.int .i64 x.dst):=hcell 1 _ rfl
    have e2:wo.cell? ⟨b,off+k * 4+2,none⟩=some (.int .i64 x.most):=hcell 2 _ rfl
    have e3:wo.cell? ⟨b,off+k * 4+3,none⟩=some (.int .i64 x.by_):=hcell 3 _ rfl
    have HX:=Lib.hid (jointB_take (first:=A.n) (low:=p.b.lo) (high:=(p.b.hi-1)) (at_:=p.a.lo) (back:=false) (a:=A.turns) hx)
    have hmx:=HSRC.out x (List.mem_of_getElem? hx)
    obtain ⟨w4,hw4,b4,z4,h4⟩:=alloc_facts wo #[.int .i64 x.src,.int .i64 x.dst,.int .i64 x.most,.int .i64 x.by_] 56
    have HW4:=Lib.hid hw4
    have HB4:=Lib.hid (hbl.out.trans (b4.mono hbl.out.size))
    have hh4:=(b4.block g hgw).trans hh.out
    have hO4:=hO.out.below b4 (Nat.le_refl _)
    have hgx:some wo.heap.size≠blockOf A':=hO.out.not_at (Nat.le_refl _)
    have hgs:some g≠blockOf A':=hO4.not_ty hh4 (by decide)
    have hlow:∀ j,j<w2.heap.size→some j≠blockOf A':=fun j hj e=>by have:=hO4.ltB j e.symm;omega
    have CE:Hid (JntCells w.heap.size (w.heap.size+1+1) wo.heap.size g A.n (.slice AwA Awn Awc) (.slice AtA Atn Atc) p.a.lo p.a.hi p.b.lo p.b.hi x (A.n+B.n-(p.a.hi-p.a.lo)) A' (Atn+k) c' w4):=(show JntCells _ _ _ _ _ _ _ _ _ _ _ _ _ _ _ _ _ from fun W hW=>by
     obtain ⟨v0,v1,v2,v3,v4,v5,v6,v7,v8,v9⟩:=KX.out w4 HB4.out
     have hs4:=HB4.out.size
     have E:=fun (j:Nat) (hj:j<w2.heap.size) (o:Nat)=>World.cell?_of_block (a:=⟨j,o,none⟩) (hW.block j (by omega) (hlow j hj))
     have hX:=(hW.block wo.heap.size (by omega) hgx).trans h4
     have hG:=(hW.block g (by omega) hgs).trans hh4
     exact ⟨⟨(E _ (by omega) _).trans v0,(E _ (by omega) _).trans v1,(E _ (by omega) _).trans v2⟩,⟨(E _ (by omega) _).trans v6,(E _ (by omega) _).trans v7,(E _ (by omega) _).trans v8,(E _ (by omega) _).trans v9⟩,by simp [World.cell?,hX],by simp [World.cell?,hG],by simp [World.cell?,hG],by simp [World.frozen?,hG]⟩)
    have C1:Hid (∀ W,Below w4.heap.size w4 W→Calls Tryz.prog 120 #[.agg #[.int .i64 A.n,.slice AwA Awn Awc,.slice AtA Atn Atc],.agg #[.int .i64 p.a.lo,.int .i64 p.a.hi,.int .i64 p.b.lo,.int .i64 p.b.hi],.int .i64 x.src] W fun e w'=>e = .returned (.int .i64 (whereF A.n p.b.lo (p.b.hi-1) p.a.lo x.src))∧Below W.heap.size W w'):=(show ∀ W,_→_ from fun W _=>r3side_any A.n AwA Awn Awc AtA Atn Atc p x.src W MID.out.1 MID.out.2.1 MID.out.2.2.1 MID.out.2.2.2.1 hmx.1)
    have C2:Hid (∀ W,Below w4.heap.size w4 W→Calls Tryz.prog 120 #[.agg #[.int .i64 A.n,.slice AwA Awn Awc,.slice AtA Atn Atc],.agg #[.int .i64 p.a.lo,.int .i64 p.a.hi,.int .i64 p.b.lo,.int .i64 p.b.hi],.int .i64 x.dst] W fun e w'=>e = .returned (.int .i64 (whereF A.n p.b.lo (p.b.hi-1) p.a.lo x.dst))∧Below W.heap.size W w'):=(show ∀ W,_→_ from fun W _=>r3side_any A.n AwA Awn Awc AtA Atn Atc p x.dst W MID.out.1 MID.out.2.1 MID.out.2.2.1 MID.out.2.2.2.1 hmx.2)
    have HO4:=Lib.hid hO4
    have HGS:=Lib.hid hgs
    have HH4:=Lib.hid hh4
    have HZ4:=Lib.hid z4
    have HLTB:Hid (∀ j,blockOf A'=some j→w2.heap.size≤j):=(show ∀ j,_→_ from fun j hj=>hO4.ltB j hj)
    clear hcell hx hmx hw4 b4 h4 hh4 hO4 hgx hgs hlow
    go_upto_region 8 with (rw [HW4.out])
    refine jnt8 _ rfl w.heap.size (w.heap.size+1+1) wo.heap.size g A.n (.slice AwA Awn Awc) (.slice AtA Atn Atc) p.a.lo p.a.hi p.b.lo p.b.hi x (A.n+B.n-(p.a.hi-p.a.lo)) A' (Atn+k) c' (whereF A.n p.b.lo (p.b.hi-1) p.a.lo x.src) (whereF A.n p.b.lo (p.b.hi-1) p.a.lo x.dst) w2.heap.size _ _ w4 _ rfl rfl rfl rfl rfl CE.out HO4.out (by have:=HB4.out.size;omega) (by omega) C1.out C2.out ?_
    intro nb A6 c6 w6 hO6 hg6
    rw [←HPL.out x,←HX.out] at hO6
    have hh6:=(hg6.block g (by have:=HZ4.out;omega) HGS.out).trans HH4.out
    have HH7:Hid ((w6.setCell ⟨g,1,none⟩ (.slice A6 (Atn+(k+1)) c6)).heap[g]? = some (.cells #[.int .i64 (A.n+B.n-(p.a.hi-p.a.lo)),.slice A6 (Atn+(k+1)) c6] 73 (0,0))):=(show _=_ by rw [heap_setCell_obj hh6];rfl)
    have hb6:Below w2.heap.size w2 w6:=HB4.out.grown hg6 HB4.out.size HLTB.out
    have HB7:=Lib.hid (hb6.setCell (p:=⟨g,1,none⟩) hg3 (.slice A6 (Atn+(k+1)) c6))
    have HO7:Hid (Own encBound 4 56 w2.heap.size (w6.setCell ⟨g,1,none⟩ (.slice A6 (Atn+(k+1)) c6)) A6 (Atn+(k+1)) c6 (jointB A.n p.b.lo (p.b.hi-1) p.a.lo false A.turns (B.turns.take (k+1)))):=(show Own _ _ _ _ _ _ _ _ _ from own_set hO6 hh6 (by decide) _)
    clear hO6 hg6 hh6 hb6
    rw [show Atn+k+1=Atn+(k+1) from by omega]
    generalize w6.setCell ⟨g,1,none⟩ (.slice A6 (Atn+(k+1)) c6)=w7 at *
    simp only [setsL,Tjnt8,List.take_succ_cons,List.take_zero,List.getD_cons_zero,List.getD_cons_succ,Nat.reduceAdd,List.setIfInBounds_toArray,List.set_cons_succ,List.set_cons_zero]
    go_wp2
    go_roundw
    all_goals first
     | (simp [intOf];omega)
     | (exact ⟨k+1,A6,c6,by omega,by go_num,HB7.out,HH7.out,HO7.out⟩)
  · have hkm:k=Btn:=by omega
    subst hkm
    have h0:=(hbl.out.block (w.heap.size+1+1+1) (by omega)).trans HE2.out
    obtain ⟨r0,r1,r2,r3⟩:wo.cell? ⟨w.heap.size+1+1+1,0,none⟩=some (.int .i64 0)∧wo.cell? ⟨w.heap.size+1+1+1,1,none⟩=some (.slice none 0 0)∧wo.frozen? ⟨w.heap.size+1+1+1,0,none⟩=false∧wo.frozen? ⟨w.heap.size+1+1+1,1,none⟩=false:=(by simp [World.cell?,World.frozen?,h0])
    have HH0:=Lib.hid h0
    clear h0
    go_wp2
    refine bodyPost_ret (results_cell1 rfl _ _ (w.heap.size+1+1+1) _ _ (0,0) _ rfl (sys_set HH0.out) Tryz.underlying73 rfl (by kernel_rfl)) rfl ?_
    have hO8:=own_set (own_set hO.out HH0.out (by decide) (i:=0) (.int .i64 (A.n+B.n-(p.a.hi-p.a.lo)))) (heap_setCell_obj HH0.out) (by decide) (i:=1) (.slice A' (Atn+k) c')
    rw [List.take_of_length_le (by rw [HLB.out];exact Nat.le_refl _)] at hO8
    have hbw:Below w.heap.size w wo:=HB2.out.trans (hbl.out.mono HB2.out.size)
    exact ⟨A',c',rfl,(hbw.setCell (p:=⟨w.heap.size+1+1+1,0,none⟩) (show w.heap.size≤w.heap.size+1+1+1 by omega) _).setCell (p:=⟨w.heap.size+1+1+1,1,none⟩) (show w.heap.size≤w.heap.size+1+1+1 by omega) _,hO8.mono (by omega)⟩
theorem r3joint_false (A:Outl) (AwA:Option Addr) (Awn Awc:Nat) (AtA:Option Addr) (Atn Atc:Nat) (B:Outl) (BwA:Option Addr) (Bwn Bwc:Nat) (BtA:Option Addr) (Btn Btc:Nat) (p:Pairing) (w:World) (Aw:Rd encBound 4 w AwA Awn Awc A.ways) (_:Rd encBound 4 w AtA Atn Atc A.turns) (Bw:Rd encBound 4 w BwA Bwn Bwc B.ways) (_:Rd encBound 4 w BtA Btn Btc B.turns) (h:PairOk A B p):
 Calls Tryz.prog 74 #[.agg #[.int .i64 A.n,.slice AwA Awn Awc,.slice AtA Atn Atc],.agg #[.int .i64 B.n,.slice BwA Bwn Bwc,.slice BtA Btn Btc],.agg #[.int .i64 p.a.lo,.int .i64 p.a.hi,.int .i64 p.b.lo,.int .i64 p.b.hi],.bool false] w fun e w'=> ∃ A' c',e = .returned (.agg #[.int .i64 (jntN A B p false),.slice A' (Awn+Bwn) c'])∧Below w.heap.size w w'∧Own encBound 4 56 w.heap.size w' A' (Awn+Bwn) c' (jntL A B p false):=by
 obtain ⟨n1,n2,n3,n4⟩:=checkOut_zero.1 h.a
 obtain ⟨m1,m2,m3,m4⟩:=checkOut_zero.1 h.b
 obtain ⟨s1,s2,s3,s4⟩:=checkSys_zero.1 n3
 obtain ⟨r1,r2,r3,r4⟩:=checkSys_zero.1 m3
 have a0:=h.a0;have a1:=h.a1;have a2:=h.a2;have b0:=h.b0;have b1:=h.b1;have b2:=h.b2;have hk:=h.k
 have ln1:=Aw.len
 have ln2:=Bw.len
 obtain ⟨w1,hw1,hb1,hz1,hbx⟩:=boxABP w A AwA Awn Awc AtA Atn Atc B BwA Bwn Bwc BtA Btn Btc p
 obtain ⟨w2,hw2,lb2,z2,e2⟩:=alloc_facts w1 #[.int .i64 0,.slice none 0 0] 73
 have hb2:=hb1.trans (lb2.mono hb1.size)
 rw [hz1] at e2
 have KX:Hid (∀ W,Below w2.heap.size w2 W→BoxABP w.heap.size A AwA Awn Awc AtA Atn Atc B BwA Bwn Bwc BtA Btn Btc p W):=(show ∀ W,_→_ from fun W hW=>hbx W (lb2.trans (hW.mono lb2.size)))
 have RS:Hid (∀ W,Below w2.heap.size w2 W→Rd encBound 4 W AwA Awn Awc A.ways):=(show ∀ W,_→_ from fun W hW=>(Aw.below hb2 (Nat.le_refl _)).below hW (Nat.le_refl _))
 have RT:Hid (∀ W,Below w2.heap.size w2 W→Rd encBound 4 W BwA Bwn Bwc B.ways):=(show ∀ W,_→_ from fun W hW=>(Bw.below hb2 (Nat.le_refl _)).below hW (Nat.le_refl _))
 have HB2:=Lib.hid hb2
 have HW1:=Lib.hid hw1
 have HW2:=Lib.hid hw2
 have HE2:=Lib.hid e2
 have hz2:w2.heap.size=w.heap.size+1+1+1+1:=(by omega)
 have HSRC:Hid (∀ x∈B.ways,Mid x.src∧Mid x.dst):=(show ∀ x∈B.ways,_ from fun x hx=>by
  have:=wrongB_no.1 (r4 x hx)
  exact ⟨⟨by omega,by omega⟩,⟨by omega,by omega⟩⟩)
 have HPL:Hid (∀ x:Bound,placeB (A.n+1) p.b.lo p.b.hi p.a.lo true x=⟨whereF (A.n+1) p.b.lo p.b.hi p.a.lo x.dst,whereF (A.n+1) p.b.lo p.b.hi p.a.lo x.src,x.most,x.by_⟩):=(show ∀ x:Bound,_ from fun x=>rfl)
 have HN:Hid (jntN A B p false=A.n+B.n+2-(p.a.hi-p.a.lo+1)):=(show _=_ from by
  show waysN A B p=_
  unfold waysN jointN
  omega)
 have HJ:Hid (jntL A B p false=jointB (A.n+1) p.b.lo p.b.hi p.a.lo true A.ways (B.ways)):=(show _=_ from rfl)
 rw [HN.out,HJ.out]
 have hsn:Awn≤400:=(by omega)
 have hbn:Bwn≤400:=(by omega)
 have u1:IntKind.i64.wrap (p.a.hi-p.a.lo)=p.a.hi-p.a.lo:=(by rw [IntKind.wrap_i64];omega)
 have MID:Hid (Mid A.n∧Mid p.a.lo∧Mid p.b.lo∧Mid p.b.hi∧(0≤A.n∧A.n≤1000)∧(0≤B.n∧B.n≤1000)∧(0≤p.a.hi-p.a.lo∧p.a.hi-p.a.lo≤1000)):=(show _∧_ from ⟨⟨by omega,by omega⟩,⟨by omega,by omega⟩,⟨by omega,by omega⟩,⟨by omega,by omega⟩,⟨by omega,by omega⟩,⟨by omega,by omega⟩,by omega,by omega⟩)
 obtain ⟨xa0,xa1,xa2,xb0,xb1,xb2,xp0,xp1,xp2,xp3⟩:=KX.out w2 (Below.refl _ _)
 clear Aw Bw h n1 n2 n3 n4 m1 m2 m3 m4 s1 s2 s3 s4 r1 r2 r3 r4 a0 a1 a2 b0 b1 b2 hk hb1 hw1 hbx hw2 lb2 z2 e2 hb2 HJ ln1
 have HLB:=Lib.hid ln2
 clear ln2
 go_enter Tryz.func74,Tryz.ntmps74
 go_upto_region 10 with (first|rw [HW1.out]|rw [HW2.out])
 refine jnt10 _ rfl w.heap.size (w.heap.size+1) A.n B.n (p.a.hi-p.a.lo) AwA Awn Awc A.ways _ w2 _ rfl rfl rfl rfl (fun W hW=> ?_) RS.out (by omega) MID.out.2.2.2.2.1 MID.out.2.2.2.2.2.1 MID.out.2.2.2.2.2.2 ?_
 · obtain ⟨q0,q1,q2,q3,q4,q5,q6,q7,q8,q9⟩:=KX.out W hW
   exact ⟨q0,q1,q3⟩
 intro w3 g A0 c0 z1 z2 z3 hb3 hg3 hh3 hO3
 have HB3:=Lib.hid hb3
 have HH3:=Lib.hid hh3
 have HO3:=Lib.hid hO3
 clear hb3 hh3 hO3
 simp only [List.setIfInBounds_toArray,List.set_cons_succ,List.set_cons_zero,Nat.zero_add]
 clear xa0 xa1 xa2 xb0 xb1 xb2 xp0 xp1 xp2 xp3
 obtain ⟨xa0,xa1,xa2,xb0,xb1,xb2,xp0,xp1,xp2,xp3⟩:=KX.out w3 HB3.out
 have hz3:=HB3.out.size
 go_wp2
 go_loopw [14] (fun sI wr=> ∃ (k:Nat) (A':Option Addr) (c':Nat),k≤Bwn∧sI = .int .i64 k∧Hid (Below w2.heap.size w2 wr)∧Hid (wr.heap[g]? = some (.cells #[.int .i64 (A.n+B.n+2-(p.a.hi-p.a.lo+1)),.slice A' (Awn+k) c'] 73 (0,0)))∧Hid (Own encBound 4 56 w2.heap.size wr A' (Awn+k) c' (jointB (A.n+1) p.b.lo p.b.hi p.a.lo true A.ways (B.ways.take k)))) (fun sI _=>Bwn-(intOf sI).toNat)
 case atStart=>exact ⟨0,A0,c0,Nat.zero_le _,rfl,(show Below _ _ _ from HB3.out),(show _=_ from HH3.out),(show Own _ _ _ _ _ _ _ _ _ from by unfold jointB;simpa using HO3.out)⟩
 case round=>
  obtain ⟨k,A',c',hk,rfl,hbl,hh,hO⟩:=hrel
  rename World=>wo
  have hzo:=hbl.out.size
  have hgw:g<wo.heap.size:=(Array.getElem?_eq_some_iff.1 hh.out).1
  have s0:wo.cell? ⟨g,0,none⟩=some (.int .i64 (A.n+B.n+2-(p.a.hi-p.a.lo+1))):=(by have:=hh.out;simp [World.cell?,this])
  have s1:wo.cell? ⟨g,1,none⟩=some (.slice A' (Awn+k) c'):=(by have:=hh.out;simp [World.cell?,this])
  obtain ⟨y0,y1,y2,y3,y4,y5,y6,y7,y8,y9⟩:=KX.out wo hbl.out
  by_cases hlt:k<Bwn
  · obtain ⟨b,off,x,rfl,hbw,hx,hcell⟩:=(RT.out wo hbl.out).one hlt
    have e0:wo.cell? ⟨b,off+k * 4,none⟩=some (.int .i64 x.src):=hcell 0 _ rfl
    have e1:wo.cell? ⟨b,off+k * 4+1,none⟩=some (.int .i64 x.dst):=hcell 1 _ rfl
    have e2:wo.cell? ⟨b,off+k * 4+2,none⟩=some (.int .i64 x.most):=hcell 2 _ rfl
    have e3:wo.cell? ⟨b,off+k * 4+3,none⟩=some (.int .i64 x.by_):=hcell 3 _ rfl
    have HX:=Lib.hid (jointB_take (first:=(A.n+1)) (low:=p.b.lo) (high:=p.b.hi) (at_:=p.a.lo) (back:=true) (a:=A.ways) hx)
    have hmx:=HSRC.out x (List.mem_of_getElem? hx)
    obtain ⟨w4,hw4,b4,z4,h4⟩:=alloc_facts wo #[.int .i64 x.src,.int .i64 x.dst,.int .i64 x.most,.int .i64 x.by_] 56
    have HW4:=Lib.hid hw4
    have HB4:=Lib.hid (hbl.out.trans (b4.mono hbl.out.size))
    have hh4:=(b4.block g hgw).trans hh.out
    have hO4:=hO.out.below b4 (Nat.le_refl _)
    have hgx:some wo.heap.size≠blockOf A':=hO.out.not_at (Nat.le_refl _)
    have hgs:some g≠blockOf A':=hO4.not_ty hh4 (by decide)
    have hlow:∀ j,j<w2.heap.size→some j≠blockOf A':=fun j hj e=>by have:=hO4.ltB j e.symm;omega
    have CE:Hid (JntCells w.heap.size (w.heap.size+1+1) wo.heap.size g A.n (.slice AwA Awn Awc) (.slice AtA Atn Atc) p.a.lo p.a.hi p.b.lo p.b.hi x (A.n+B.n+2-(p.a.hi-p.a.lo+1)) A' (Awn+k) c' w4):=(show JntCells _ _ _ _ _ _ _ _ _ _ _ _ _ _ _ _ _ from fun W hW=>by
     obtain ⟨v0,v1,v2,v3,v4,v5,v6,v7,v8,v9⟩:=KX.out w4 HB4.out
     have hs4:=HB4.out.size
     have E:=fun (j:Nat) (hj:j<w2.heap.size) (o:Nat)=>World.cell?_of_block (a:=⟨j,o,none⟩) (hW.block j (by omega) (hlow j hj))
     have hX:=(hW.block wo.heap.size (by omega) hgx).trans h4
     have hG:=(hW.block g (by omega) hgs).trans hh4
     exact ⟨⟨(E _ (by omega) _).trans v0,(E _ (by omega) _).trans v1,(E _ (by omega) _).trans v2⟩,⟨(E _ (by omega) _).trans v6,(E _ (by omega) _).trans v7,(E _ (by omega) _).trans v8,(E _ (by omega) _).trans v9⟩,by simp [World.cell?,hX],by simp [World.cell?,hG],by simp [World.cell?,hG],by simp [World.frozen?,hG]⟩)
    have C1:Hid (∀ W,Below w4.heap.size w4 W→Calls Tryz.prog 121 #[.agg #[.int .i64 A.n,.slice AwA Awn Awc,.slice AtA Atn Atc],.agg #[.int .i64 p.a.lo,.int .i64 p.a.hi,.int .i64 p.b.lo,.int .i64 p.b.hi],.int .i64 x.dst] W fun e w'=>e = .returned (.int .i64 (whereF (A.n+1) p.b.lo p.b.hi p.a.lo x.dst))∧Below W.heap.size W w'):=(show ∀ W,_→_ from fun W _=>r3corner_any A.n AwA Awn Awc AtA Atn Atc p x.dst W MID.out.1 MID.out.2.1 MID.out.2.2.1 MID.out.2.2.2.1 hmx.2)
    have C2:Hid (∀ W,Below w4.heap.size w4 W→Calls Tryz.prog 121 #[.agg #[.int .i64 A.n,.slice AwA Awn Awc,.slice AtA Atn Atc],.agg #[.int .i64 p.a.lo,.int .i64 p.a.hi,.int .i64 p.b.lo,.int .i64 p.b.hi],.int .i64 x.src] W fun e w'=>e = .returned (.int .i64 (whereF (A.n+1) p.b.lo p.b.hi p.a.lo x.src))∧Below W.heap.size W w'):=(show ∀ W,_→_ from fun W _=>r3corner_any A.n AwA Awn Awc AtA Atn Atc p x.src W MID.out.1 MID.out.2.1 MID.out.2.2.1 MID.out.2.2.2.1 hmx.1)
    have HO4:=Lib.hid hO4
    have HGS:=Lib.hid hgs
    have HH4:=Lib.hid hh4
    have HZ4:=Lib.hid z4
    have HLTB:Hid (∀ j,blockOf A'=some j→w2.heap.size≤j):=(show ∀ j,_→_ from fun j hj=>hO4.ltB j hj)
    clear hcell hx hmx hw4 b4 h4 hh4 hO4 hgx hgs hlow
    go_upto_region 15 with (rw [HW4.out])
    refine jnt15 _ rfl w.heap.size (w.heap.size+1+1) wo.heap.size g A.n (.slice AwA Awn Awc) (.slice AtA Atn Atc) p.a.lo p.a.hi p.b.lo p.b.hi x (A.n+B.n+2-(p.a.hi-p.a.lo+1)) A' (Awn+k) c' (whereF (A.n+1) p.b.lo p.b.hi p.a.lo x.dst) (whereF (A.n+1) p.b.lo p.b.hi p.a.lo x.src) w2.heap.size _ _ w4 _ rfl rfl rfl rfl rfl CE.out HO4.out (by have:=HB4.out.size;omega) (by omega) C1.out C2.out ?_
    intro nb A6 c6 w6 hO6 hg6
    rw [←HPL.out x,←HX.out] at hO6
    have hh6:=(hg6.block g (by have:=HZ4.out;omega) HGS.out).trans HH4.out
    have HH7:Hid ((w6.setCell ⟨g,1,none⟩ (.slice A6 (Awn+(k+1)) c6)).heap[g]? = some (.cells #[.int .i64 (A.n+B.n+2-(p.a.hi-p.a.lo+1)),.slice A6 (Awn+(k+1)) c6] 73 (0,0))):=(show _=_ by rw [heap_setCell_obj hh6];rfl)
    have hb6:Below w2.heap.size w2 w6:=HB4.out.grown hg6 HB4.out.size HLTB.out
    have HB7:=Lib.hid (hb6.setCell (p:=⟨g,1,none⟩) hg3 (.slice A6 (Awn+(k+1)) c6))
    have HO7:Hid (Own encBound 4 56 w2.heap.size (w6.setCell ⟨g,1,none⟩ (.slice A6 (Awn+(k+1)) c6)) A6 (Awn+(k+1)) c6 (jointB (A.n+1) p.b.lo p.b.hi p.a.lo true A.ways (B.ways.take (k+1)))):=(show Own _ _ _ _ _ _ _ _ _ from own_set hO6 hh6 (by decide) _)
    clear hO6 hg6 hh6 hb6
    rw [show Awn+k+1=Awn+(k+1) from by omega]
    generalize w6.setCell ⟨g,1,none⟩ (.slice A6 (Awn+(k+1)) c6)=w7 at *
    simp only [setsL,Tjnt15,List.take_succ_cons,List.take_zero,List.getD_cons_zero,List.getD_cons_succ,Nat.reduceAdd,List.setIfInBounds_toArray,List.set_cons_succ,List.set_cons_zero]
    go_wp2
    go_roundw
    all_goals first
     | (simp [intOf];omega)
     | (exact ⟨k+1,A6,c6,by omega,by go_num,HB7.out,HH7.out,HO7.out⟩)
  · have hkm:k=Bwn:=by omega
    subst hkm
    have h0:=(hbl.out.block (w.heap.size+1+1+1) (by omega)).trans HE2.out
    obtain ⟨r0,r1,r2,r3⟩:wo.cell? ⟨w.heap.size+1+1+1,0,none⟩=some (.int .i64 0)∧wo.cell? ⟨w.heap.size+1+1+1,1,none⟩=some (.slice none 0 0)∧wo.frozen? ⟨w.heap.size+1+1+1,0,none⟩=false∧wo.frozen? ⟨w.heap.size+1+1+1,1,none⟩=false:=(by simp [World.cell?,World.frozen?,h0])
    have HH0:=Lib.hid h0
    clear h0
    go_wp2
    refine bodyPost_ret (results_cell1 rfl _ _ (w.heap.size+1+1+1) _ _ (0,0) _ rfl (sys_set HH0.out) Tryz.underlying73 rfl (by kernel_rfl)) rfl ?_
    have hO8:=own_set (own_set hO.out HH0.out (by decide) (i:=0) (.int .i64 (A.n+B.n+2-(p.a.hi-p.a.lo+1)))) (heap_setCell_obj HH0.out) (by decide) (i:=1) (.slice A' (Awn+k) c')
    rw [List.take_of_length_le (by rw [HLB.out];exact Nat.le_refl _)] at hO8
    have hbw:Below w.heap.size w wo:=HB2.out.trans (hbl.out.mono HB2.out.size)
    exact ⟨A',c',rfl,(hbw.setCell (p:=⟨w.heap.size+1+1+1,0,none⟩) (show w.heap.size≤w.heap.size+1+1+1 by omega) _).setCell (p:=⟨w.heap.size+1+1+1,1,none⟩) (show w.heap.size≤w.heap.size+1+1+1 by omega) _,hO8.mono (by omega)⟩
end Go.Proofs.YtccabpahfmoamaaGreat
end

/- Contracts that the laws lean on: JoR, Bell, Bell2, EdP. -/
import Derived.Test.YtpmkgmilfifkpaaGreatDoorDE07
set_option maxRecDepth 100000
set_option maxHeartbeats 4000000
section
namespace Go.Proofs.YtpmkgmilfifkpaaGreatDoor
open Go.RowKit Go.Proofs Go.Shelf
def codeJoi3:Option Code→Code
 | some (.seq _ (.seq _ (.seq _ (.seq c _))))=>c
 | _=> .skip
def Tjoi3 (_ _:Nat) (an bn:Int) (aw at_ bw bt:Value) (g1:Bool) (g2:Int):List Value:=
 [.agg #[.int .i64 an,aw,at_],.agg #[.int .i64 bn,bw,bt],.agg #[.int .i64 0,.int .i64 2,.int .i64 0,.int .i64 2],.tuple #[.bool g1,.int .i64 g2],.tuple #[.bool g1,.int .i64 g2],.bool g1,.int .i64 g2,.bool g1,.int .i64 g2]
theorem joi3 (cC:Code) (hc:cC=codeJoi3 Tryz.f4.body) (b1 b2:Nat) (an bn:Int) (aw at_ bw bt:Value) (g1:Bool) (g2:Int) (a:Act) (w:World) (Q:Exit→Act→World→Prop)
 (hT:a.tmps.size=172) (t1:a.tmps.getD 1 undef = .pointer (some ⟨b1,0,none⟩)) (t2:a.tmps.getD 2 undef = .pointer (some ⟨b2,0,none⟩))
 (CE:∀ W,Below w.heap.size w W→W.cell? ⟨b1,0,none⟩=some (.int .i64 an)∧W.cell? ⟨b1,1,none⟩=some aw∧W.cell? ⟨b1,2,none⟩=some at_∧W.cell? ⟨b2,0,none⟩=some (.int .i64 bn)∧W.cell? ⟨b2,1,none⟩=some bw∧W.cell? ⟨b2,2,none⟩=some bt)
 (C1:∀ W,Below w.heap.size w W→Calls Tryz.prog 12 #[.int .i64 0,.int .i64 2,.int .i64 0,.int .i64 2] W fun e w'=>e = .returned (.agg #[.int .i64 0,.int .i64 2,.int .i64 0,.int .i64 2])∧Below W.heap.size W w')
 (C2:∀ W,Below w.heap.size w W→Calls Tryz.prog 11 #[.agg #[.int .i64 an,aw,at_],.agg #[.int .i64 bn,bw,bt],.agg #[.int .i64 0,.int .i64 2,.int .i64 0,.int .i64 2]] W fun e w'=>e = .returned (.tuple #[.bool g1,.int .i64 g2])∧Below W.heap.size W w')
 (hQ:∀ W,Below w.heap.size w W→Q .normal { tmps:=setsL (setsL ((setsL (a.tmps) 26 [.agg #[.int .i64 an,aw,at_],.agg #[.int .i64 bn,bw,bt],.agg #[.int .i64 0,.int .i64 2,.int .i64 0,.int .i64 2],.tuple #[.bool g1,.int .i64 g2]]).setIfInBounds 25 (.tuple #[.bool g1,.int .i64 g2])) 30 [.bool g1,.int .i64 g2]) 3 [.bool g1,.int .i64 g2],defers:=a.defers } W):
 cC.wp Tryz.prog Q a w:=by
 subst hc
 unfold codeJoi3 Tryz.f4
 dsimp only
 refine wpIn_wide.1 (wpIn_region_flow (nn:=5) 172 (by kernel_rfl) (by kernel_rfl) (by kernel_rfl) hT (fun i=>(Tjoi3 b1 b2 an bn aw at_ bw bt g1 g2).getD i undef) (fun W=>Below w.heap.size w W) ((Below.refl _ _).drew) (fun b hE hold=> ?_) hQ)
 clear hQ
 have q1:=hold 1 _ (by kernel_rfl) t1
 have q2:=hold 2 _ (by kernel_rfl) t2
 simp only [factsL,Tjoi3,List.getD_cons_zero,List.getD_cons_succ,Nat.reduceAdd] at hE
 repeat' first|exact steps_nil|refine steps_skip rfl rfl ?_|refine steps_go rfl ?_ ?_
 all_goals (intro W hW;have hWb:Below w.heap.size w W:=hW;obtain ⟨e0,e1,e2,e3,e4,e5⟩:=CE W hWb;simp only [Tjoi3,List.getD_cons_zero,List.getD_cons_succ,Nat.reduceAdd])
 all_goals first
  | (refine .inl ?_;go_simp;done)
  | (refine .inl ?_;go_simp;rfl)
  | (refine .inr (.inr ⟨12,#[.int .i64 0,.int .i64 2,.int .i64 0,.int .i64 2],?_,(C1 W hWb).mono ?_⟩)
     · go_simp<;>done
     · rintro e w' ⟨rfl,hb'⟩;exact ⟨rfl,hWb.trans (hb'.mono hWb.size)⟩)
  | (refine .inr (.inr ⟨11,#[.agg #[.int .i64 an,aw,at_],.agg #[.int .i64 bn,bw,bt],.agg #[.int .i64 0,.int .i64 2,.int .i64 0,.int .i64 2]],?_,(C2 W hWb).mono ?_⟩)
     · go_simp<;>done
     · rintro e w' ⟨rfl,hb'⟩;exact ⟨rfl,hWb.trans (hb'.mono hWb.size)⟩)
def codeJoi4:Option Code→Code
 | some (.seq _ (.seq _ (.seq _ (.seq _ (.seq c _)))))=>c
 | _=> .skip
def Tjoi4 (_ _:Nat) (an bn:Int) (aw at_ bw bt:Value) (g1:Bool) (g2:Int):List Value:=
 [.agg #[.int .i64 an,aw,at_],.agg #[.int .i64 bn,bw,bt],.agg #[.int .i64 0,.int .i64 1,.int .i64 0,.int .i64 1],.tuple #[.bool g1,.int .i64 g2],.tuple #[.bool g1,.int .i64 g2],.bool g1,.int .i64 g2,.bool g1,.int .i64 g2]
theorem joi4 (cC:Code) (hc:cC=codeJoi4 Tryz.f4.body) (b1 b2:Nat) (an bn:Int) (aw at_ bw bt:Value) (g1:Bool) (g2:Int) (a:Act) (w:World) (Q:Exit→Act→World→Prop)
 (hT:a.tmps.size=172) (t1:a.tmps.getD 1 undef = .pointer (some ⟨b1,0,none⟩)) (t2:a.tmps.getD 2 undef = .pointer (some ⟨b2,0,none⟩))
 (CE:∀ W,Below w.heap.size w W→W.cell? ⟨b1,0,none⟩=some (.int .i64 an)∧W.cell? ⟨b1,1,none⟩=some aw∧W.cell? ⟨b1,2,none⟩=some at_∧W.cell? ⟨b2,0,none⟩=some (.int .i64 bn)∧W.cell? ⟨b2,1,none⟩=some bw∧W.cell? ⟨b2,2,none⟩=some bt)
 (C1:∀ W,Below w.heap.size w W→Calls Tryz.prog 12 #[.int .i64 0,.int .i64 1,.int .i64 0,.int .i64 1] W fun e w'=>e = .returned (.agg #[.int .i64 0,.int .i64 1,.int .i64 0,.int .i64 1])∧Below W.heap.size W w')
 (C2:∀ W,Below w.heap.size w W→Calls Tryz.prog 11 #[.agg #[.int .i64 an,aw,at_],.agg #[.int .i64 bn,bw,bt],.agg #[.int .i64 0,.int .i64 1,.int .i64 0,.int .i64 1]] W fun e w'=>e = .returned (.tuple #[.bool g1,.int .i64 g2])∧Below W.heap.size W w')
 (hQ:∀ W,Below w.heap.size w W→Q .normal { tmps:=setsL (setsL ((setsL (a.tmps) 33 [.agg #[.int .i64 an,aw,at_],.agg #[.int .i64 bn,bw,bt],.agg #[.int .i64 0,.int .i64 1,.int .i64 0,.int .i64 1],.tuple #[.bool g1,.int .i64 g2]]).setIfInBounds 32 (.tuple #[.bool g1,.int .i64 g2])) 37 [.bool g1,.int .i64 g2]) 5 [.bool g1,.int .i64 g2],defers:=a.defers } W):
 cC.wp Tryz.prog Q a w:=by
 subst hc
 unfold codeJoi4 Tryz.f4
 dsimp only
 refine wpIn_wide.1 (wpIn_region_flow (nn:=5) 172 (by kernel_rfl) (by kernel_rfl) (by kernel_rfl) hT (fun i=>(Tjoi4 b1 b2 an bn aw at_ bw bt g1 g2).getD i undef) (fun W=>Below w.heap.size w W) ((Below.refl _ _).drew) (fun b hE hold=> ?_) hQ)
 clear hQ
 have q1:=hold 1 _ (by kernel_rfl) t1
 have q2:=hold 2 _ (by kernel_rfl) t2
 simp only [factsL,Tjoi4,List.getD_cons_zero,List.getD_cons_succ,Nat.reduceAdd] at hE
 repeat' first|exact steps_nil|refine steps_skip rfl rfl ?_|refine steps_go rfl ?_ ?_
 all_goals (intro W hW;have hWb:Below w.heap.size w W:=hW;obtain ⟨e0,e1,e2,e3,e4,e5⟩:=CE W hWb;simp only [Tjoi4,List.getD_cons_zero,List.getD_cons_succ,Nat.reduceAdd])
 all_goals first
  | (refine .inl ?_;go_simp;done)
  | (refine .inl ?_;go_simp;rfl)
  | (refine .inr (.inr ⟨12,#[.int .i64 0,.int .i64 1,.int .i64 0,.int .i64 1],?_,(C1 W hWb).mono ?_⟩)
     · go_simp<;>done
     · rintro e w' ⟨rfl,hb'⟩;exact ⟨rfl,hWb.trans (hb'.mono hWb.size)⟩)
  | (refine .inr (.inr ⟨11,#[.agg #[.int .i64 an,aw,at_],.agg #[.int .i64 bn,bw,bt],.agg #[.int .i64 0,.int .i64 1,.int .i64 0,.int .i64 1]],?_,(C2 W hWb).mono ?_⟩)
     · go_simp<;>done
     · rintro e w' ⟨rfl,hb'⟩;exact ⟨rfl,hWb.trans (hb'.mono hWb.size)⟩)
def codeJoi5:Option Code→Code
 | some (.seq _ (.seq _ (.seq _ (.seq _ (.seq _ (.seq c _))))))=>c
 | _=> .skip
def Tjoi5 (_ _:Nat) (an bn:Int) (aw at_ bw bt:Value) (g1 g2 g3:Int):List Value:=
 [.agg #[.int .i64 an,aw,at_],.agg #[.int .i64 bn,bw,bt],.agg #[.int .i64 0,.int .i64 1,.int .i64 1,.int .i64 2],.tuple #[.int .i64 g1,.int .i64 g2,.int .i64 g3],.tuple #[.int .i64 g1,.int .i64 g2,.int .i64 g3],.int .i64 g1,.int .i64 g2,.int .i64 g3,.int .i64 g1,.int .i64 g2,.int .i64 g3]
theorem joi5 (cC:Code) (hc:cC=codeJoi5 Tryz.f4.body) (b1 b2:Nat) (an bn:Int) (aw at_ bw bt:Value) (g1 g2 g3:Int) (a:Act) (w:World) (Q:Exit→Act→World→Prop)
 (hT:a.tmps.size=172) (t1:a.tmps.getD 1 undef = .pointer (some ⟨b1,0,none⟩)) (t2:a.tmps.getD 2 undef = .pointer (some ⟨b2,0,none⟩))
 (CE:∀ W,Below w.heap.size w W→W.cell? ⟨b1,0,none⟩=some (.int .i64 an)∧W.cell? ⟨b1,1,none⟩=some aw∧W.cell? ⟨b1,2,none⟩=some at_∧W.cell? ⟨b2,0,none⟩=some (.int .i64 bn)∧W.cell? ⟨b2,1,none⟩=some bw∧W.cell? ⟨b2,2,none⟩=some bt)
 (C1:∀ W,Below w.heap.size w W→Calls Tryz.prog 12 #[.int .i64 0,.int .i64 1,.int .i64 1,.int .i64 2] W fun e w'=>e = .returned (.agg #[.int .i64 0,.int .i64 1,.int .i64 1,.int .i64 2])∧Below W.heap.size W w')
 (C2:∀ W,Below w.heap.size w W→Calls Tryz.prog 13 #[.agg #[.int .i64 an,aw,at_],.agg #[.int .i64 bn,bw,bt],.agg #[.int .i64 0,.int .i64 1,.int .i64 1,.int .i64 2]] W fun e w'=>e = .returned (.tuple #[.int .i64 g1,.int .i64 g2,.int .i64 g3])∧Below W.heap.size W w')
 (hQ:∀ W,Below w.heap.size w W→Q .normal { tmps:=setsL (setsL ((setsL (a.tmps) 40 [.agg #[.int .i64 an,aw,at_],.agg #[.int .i64 bn,bw,bt],.agg #[.int .i64 0,.int .i64 1,.int .i64 1,.int .i64 2],.tuple #[.int .i64 g1,.int .i64 g2,.int .i64 g3]]).setIfInBounds 39 (.tuple #[.int .i64 g1,.int .i64 g2,.int .i64 g3])) 44 [.int .i64 g1,.int .i64 g2,.int .i64 g3]) 7 [.int .i64 g1,.int .i64 g2,.int .i64 g3],defers:=a.defers } W):
 cC.wp Tryz.prog Q a w:=by
 subst hc
 unfold codeJoi5 Tryz.f4
 dsimp only
 refine wpIn_wide.1 (wpIn_region_flow (nn:=5) 172 (by kernel_rfl) (by kernel_rfl) (by kernel_rfl) hT (fun i=>(Tjoi5 b1 b2 an bn aw at_ bw bt g1 g2 g3).getD i undef) (fun W=>Below w.heap.size w W) ((Below.refl _ _).drew) (fun b hE hold=> ?_) hQ)
 clear hQ
 have q1:=hold 1 _ (by kernel_rfl) t1
 have q2:=hold 2 _ (by kernel_rfl) t2
 simp only [factsL,Tjoi5,List.getD_cons_zero,List.getD_cons_succ,Nat.reduceAdd] at hE
 repeat' first|exact steps_nil|refine steps_skip rfl rfl ?_|refine steps_go rfl ?_ ?_
 all_goals (intro W hW;have hWb:Below w.heap.size w W:=hW;obtain ⟨e0,e1,e2,e3,e4,e5⟩:=CE W hWb;simp only [Tjoi5,List.getD_cons_zero,List.getD_cons_succ,Nat.reduceAdd])
 all_goals first
  | (refine .inl ?_;go_simp;done)
  | (refine .inl ?_;go_simp;rfl)
  | (refine .inr (.inr ⟨12,#[.int .i64 0,.int .i64 1,.int .i64 1,.int .i64 2],?_,(C1 W hWb).mono ?_⟩)
     · go_simp<;>done
     · rintro e w' ⟨rfl,hb'⟩;exact ⟨rfl,hWb.trans (hb'.mono hWb.size)⟩)
  | (refine .inr (.inr ⟨13,#[.agg #[.int .i64 an,aw,at_],.agg #[.int .i64 bn,bw,bt],.agg #[.int .i64 0,.int .i64 1,.int .i64 1,.int .i64 2]],?_,(C2 W hWb).mono ?_⟩)
     · go_simp<;>done
     · rintro e w' ⟨rfl,hb'⟩;exact ⟨rfl,hWb.trans (hb'.mono hWb.size)⟩)
def codeJoi13:Option Code→Code
 | some (.seq _ (.seq _ (.seq _ (.seq _ (.seq _ (.seq _ (.seq _ (.seq _ (.seq _ (.seq _ (.seq _ (.seq _ (.seq c _)))))))))))))=>c
 | _=> .skip
def JoI (J3:Value→Value→World→Prop) (w:World):List Value→World→Prop
 | [],W=>Below w.heap.size w W
 | [v],W=>Below w.heap.size w W∧∃ g,v = .slice (some ⟨g,0,none⟩) 2 2∧Rd encInt 1 W (some ⟨g,0,none⟩) 2 2 [0,7]
 | [_,z],W=>Below w.heap.size w W∧∃ a b,z = .tuple #[a,b]∧J3 a b W
 | _,_=>False
theorem JoI.b {J3:Value→Value→World→Prop} {w W:World} {cv:List Value} (h:JoI J3 w cv W):Below w.heap.size w W:=by
 match cv,h with
 | [],h=>exact h
 | [_],h=>exact h.1
 | [_,_],h=>exact h.1
theorem JoI.any {J3:Value→Value→World→Prop} {w W:World} {cv:List Value} (h:JoI J3 w cv W):(cv = []∧Below w.heap.size w W)∨(∃ g,cv = [.slice (some ⟨g,0,none⟩) 2 2]∧Below w.heap.size w W∧Rd encInt 1 W (some ⟨g,0,none⟩) 2 2 [0,7])∨(∃ v a b,cv = [v,.tuple #[a,b]]):=by
 match cv,h with
 | [],h=>exact .inl ⟨rfl,h⟩
 | [_],⟨hb,g,e,hr⟩=>exact .inr (.inl ⟨g,by rw [e],hb,hr⟩)
 | [v,_],⟨_,a,b,e,_⟩=>exact .inr (.inr ⟨v,a,b,by rw [e]⟩)
def Tjoi13 (_ _:Nat) (an bn:Int) (aw at_ bw bt:Value) (cv:List Value):List Value:=
 [.agg #[.int .i64 an,aw,at_],.agg #[.int .i64 bn,bw,bt],.agg #[.int .i64 0,.int .i64 1,.int .i64 0,.int .i64 1],cv.getD 0 undef,.agg #[.bool false,cv.getD 0 undef],cv.getD 1 undef,cv.getD 1 undef,exA (cv.getD 1 undef),exB (cv.getD 1 undef),exA (cv.getD 1 undef),exB (cv.getD 1 undef)]
theorem joi13 (cC:Code) (hc:cC=codeJoi13 Tryz.f4.body) (b1 b2:Nat) (an bn:Int) (aw at_ bw bt:Value) (a:Act) (w:World) (Q:Exit→Act→World→Prop)
 (hT:a.tmps.size=172) (t1:a.tmps.getD 1 undef = .pointer (some ⟨b1,0,none⟩)) (t2:a.tmps.getD 2 undef = .pointer (some ⟨b2,0,none⟩))
 (J3:Value→Value→World→Prop) (CE:∀ W,Below w.heap.size w W→W.cell? ⟨b1,0,none⟩=some (.int .i64 an)∧W.cell? ⟨b1,1,none⟩=some aw∧W.cell? ⟨b1,2,none⟩=some at_∧W.cell? ⟨b2,0,none⟩=some (.int .i64 bn)∧W.cell? ⟨b2,1,none⟩=some bw∧W.cell? ⟨b2,2,none⟩=some bt)
 (C1:∀ W,Below w.heap.size w W→Calls Tryz.prog 12 #[.int .i64 0,.int .i64 1,.int .i64 0,.int .i64 1] W fun e w'=>e = .returned (.agg #[.int .i64 0,.int .i64 1,.int .i64 0,.int .i64 1])∧Below W.heap.size W w')
 (C2:∀ W g,Below w.heap.size w W→Rd encInt 1 W (some ⟨g,0,none⟩) 2 2 [0,7]→Calls Tryz.prog 19 #[.agg #[.int .i64 an,aw,at_],.agg #[.int .i64 bn,bw,bt],.agg #[.int .i64 0,.int .i64 1,.int .i64 0,.int .i64 1],.agg #[.bool false,.slice (some ⟨g,0,none⟩) 2 2]] W fun e w'=> ∃ a b,e = .returned (.tuple #[a,b])∧Below W.heap.size W w'∧J3 a b w')
 (hQ:∀ v r1 r2 W,Below w.heap.size w W→J3 r1 r2 W→Q .normal { tmps:=setsL (setsL ((setsL (a.tmps) 116 [.agg #[.int .i64 an,aw,at_],.agg #[.int .i64 bn,bw,bt],.agg #[.int .i64 0,.int .i64 1,.int .i64 0,.int .i64 1],v,.agg #[.bool false,v],.tuple #[r1,r2]]).setIfInBounds 115 (.tuple #[r1,r2])) 122 [r1,r2]) 21 [r1,r2],defers:=a.defers } W):
 cC.wp Tryz.prog Q a w:=by
 subst hc
 unfold codeJoi13 Tryz.f4
 dsimp only
 refine wpIn_wide.1 (wpIn_region_chain (nn:=5) 172 (by kernel_rfl) (by kernel_rfl) (by kernel_rfl) hT (fun i cv=>(Tjoi13 b1 b2 an bn aw at_ bw bt cv).getD i undef) (fun i=>([0,0,0,0,1,0,2,2,2,2,2]:List Nat).getD i 0) (fun i=>([1,1,1,1,1,2,2,2,2,2,2]:List Nat).getD i 0) [3,5] (by kernel_rfl) (by kernel_rfl) (by kernel_rfl) (by kernel_rfl) (JoI J3 w) ((Below.refl _ _).drew) (fun b cv hE hold=> ?_) (fun cv W hl hI=> ?_))
 · clear hQ
   have q1:=hold 1 _ (by kernel_rfl) t1
   have q2:=hold 2 _ (by kernel_rfl) t2
   simp only [factsL,Vc,idxC,Tjoi13,List.getD_cons_zero,List.getD_cons_succ,Nat.reduceAdd,Nat.reduceEqDiff,reduceIte,Option.map_some,Option.map_none] at hE
   repeat' first|exact chain_nil|refine chain_op 0 rfl rfl ?_ ?_|refine chain_op 1 rfl rfl ?_ ?_|refine chain_skip rfl rfl rfl rfl ?_|refine chain_quiet rfl rfl ?_ ?_
   all_goals intro hl
   any_goals (
    intro hl2;simp only [List.getD_cons_zero,List.getD_cons_succ,Nat.reduceAdd] at hl hl2
    first
     | (obtain rfl:=List.eq_nil_of_length_eq_zero (Nat.le_zero.1 hl2);intro W hW;have hWb:Below w.heap.size w W:=hW;obtain ⟨e0,e1,e2,e3,e4,e5⟩:=CE W hWb;simp only [Tjoi13,List.getD_cons_zero,List.getD_cons_succ,Nat.reduceAdd]
        first
         | (refine .inl ?_;go_simp;done)
         | (refine .inl ?_;go_simp;rfl))
     | (intro W hW;simp only [Tjoi13,List.getD_cons_zero,List.getD_cons_succ,Nat.reduceAdd];refine .inl ?_;go_simp;(try rfl);done)
     | (intro W hW;rcases JoI.any hW with ⟨rfl,hWb⟩|⟨g,rfl,hWb,hrd⟩|⟨v,a1,a2,rfl⟩
        · first
           | (exfalso;revert hl;simp;done)|(exfalso;revert hl2;simp;done)
           | (obtain ⟨e0,e1,e2,e3,e4,e5⟩:=CE W hWb;simp only [Tjoi13,List.getD_cons_zero,List.getD_cons_succ,Nat.reduceAdd] at hE ⊢;refine .inl ?_;go_simp;(try rfl);done)
           | (simp only [Tjoi13,List.getD_cons_zero,List.getD_cons_succ,Nat.reduceAdd] at hE ⊢
              refine .inr (.inr ⟨12,#[.int .i64 0,.int .i64 1,.int .i64 0,.int .i64 1],?_,(C1 W hWb).mono ?_⟩)
              · go_simp<;>done
              · rintro e w' ⟨rfl,hb'⟩;exact ⟨rfl,hWb.trans (hb'.mono hWb.size)⟩)
        · first
           | (exfalso;revert hl;simp;done)|(exfalso;revert hl2;simp;done)
           | (obtain ⟨e0,e1,e2,e3,e4,e5⟩:=CE W hWb;simp only [Tjoi13,List.getD_cons_zero,List.getD_cons_succ,Nat.reduceAdd] at hE ⊢;refine .inl ?_;go_simp;(try rfl);done)
           | (simp only [Tjoi13,List.getD_cons_zero,List.getD_cons_succ,Nat.reduceAdd] at hE ⊢
              refine .inr (.inr ⟨12,#[.int .i64 0,.int .i64 1,.int .i64 0,.int .i64 1],?_,(C1 W hWb).mono ?_⟩)
              · go_simp<;>done
              · rintro e w' ⟨rfl,hb'⟩;exact ⟨rfl,hWb.trans (hb'.mono hWb.size),g,rfl,hrd.below hb' (Nat.le_refl _)⟩)
        · first
           | (exfalso;revert hl;simp;done)|(exfalso;revert hl2;simp;done)
           | (simp only [Tjoi13,List.getD_cons_zero,List.getD_cons_succ,Nat.reduceAdd] at hE ⊢;refine .inl ?_;go_simp;(try rfl);done))
    done)
   · obtain rfl:=List.eq_nil_of_length_eq_zero hl
     intro W hW
     have hWb:Below w.heap.size w W:=hW
     refine .inl ⟨.slice (some ⟨W.heap.size,0,none⟩) 2 2,W.alloc (.cells #[.int .i64 0,.int .i64 7] 3),.inl ?_,?_⟩
     · go_simp
     · exact ⟨hWb.alloc hWb.size _,_,rfl,Rd.single (enc:=encInt) (k:=1) W #[.int .i64 0,.int .i64 7] 3 [0,7] 2 rfl (by omega) (fun _=>rfl) (by simp [encInt])⟩
   · obtain ⟨v,rfl⟩:=len1 hl
     rintro W ⟨hWb,g,rfl,hrd⟩
     simp only [List.getD_cons_zero] at hE
     refine .inr ⟨19,#[.agg #[.int .i64 an,aw,at_],.agg #[.int .i64 bn,bw,bt],.agg #[.int .i64 0,.int .i64 1,.int .i64 0,.int .i64 1],.agg #[.bool false,.slice (some ⟨g,0,none⟩) 2 2]],?_,(C2 W g hWb hrd).mono ?_⟩
     · go_simp<;>done
     · rintro e w' ⟨a1,a2,rfl,hb',hj⟩;exact ⟨_,rfl,hWb.trans (hb'.mono hWb.size),a1,a2,rfl,hj⟩
 · match cv,hl,hI with
   | [v,_],_,⟨hb,a1,a2,rfl,hj⟩=>exact hQ v a1 a2 W hb hj
end Go.Proofs.YtpmkgmilfifkpaaGreatDoor
end
section
namespace Go.Proofs.YtpmkgmilfifkpaaGreatDoor
abbrev val (r:Row) (v:Nat):Int:=r.getD v 0
theorem val_set (r:Row) (i j:Nat) (x:Int) (hi:i<r.length):val (r.set i x) j=if i=j then x else val r j:=by
 unfold val
 rw [List.getD_eq_getElem?_getD,List.getD_eq_getElem?_getD,List.getElem?_set]
 by_cases h:i=j
 · subst h;simp [hi]
 · simp [h]
theorem rAt_val (r:Row) (i:Int):rAt r i=val r i.toNat:=rfl
theorem row_ext {r s:Row} (hl:r.length=s.length) (h:∀ v,val r v=val s v):r=s:=by
 apply List.ext_getElem hl
 intro i h1 h2
 have:=h i
 simpa [val,List.getD_eq_getElem?_getD,h1,h2] using this
theorem relaxes_iff {r:Row} {b:Bound} : relaxes r b=true↔val r b.src.toNat<noneV∧val r b.src.toNat+b.most<val r b.dst.toNat:=by
 unfold relaxes
 rw [Bool.and_eq_true,decide_eq_true_eq,decide_eq_true_eq]
 exact Iff.rfl
def Ends (n:Nat) (bs:List Bound):Prop:=∀ b∈bs,b.src.toNat<n∧b.dst.toNat<n
def KeptB (y:Nat→Int) (b:Bound):Prop:=y b.src.toNat<noneV→y b.dst.toNat≤y b.src.toNat+b.most
section
variable {bs:List Bound} {st:Row×Row} {b:Bound} {i:Nat}
theorem step_le (hd:b.dst.toNat<st.1.length) (v:Nat):val (relaxStep st b i).1 v≤val st.1 v:=by
 unfold relaxStep
 split
 · rename_i h
   rw [relaxes_iff] at h
   simp only [rPut]
   rw [val_set _ _ _ _ hd,rAt_val]
   split
   · rename_i e;rw [←e];omega
   · exact Int.le_refl _
 · exact Int.le_refl _
theorem step_hit (hd:b.dst.toNat<st.1.length) (hs:val st.1 b.src.toNat<noneV):val (relaxStep st b i).1 b.dst.toNat≤val st.1 b.src.toNat+b.most:=by
 unfold relaxStep
 split
 · simp only [rPut]
   rw [val_set _ _ _ _ hd,if_pos rfl,rAt_val];exact Int.le_refl _
 · rename_i h
   rw [relaxes_iff,not_and] at h
   have:=h hs
   omega
theorem step_low {y:Nat→Int} (hd:b.dst.toNat<st.1.length) (hy:∀ v,y v≤val st.1 v) (hk:KeptB y b) (v:Nat):y v≤val (relaxStep st b i).1 v:=by
 unfold relaxStep
 split
 · rename_i h
   rw [relaxes_iff] at h
   simp only [rPut]
   rw [val_set _ _ _ _ hd,rAt_val]
   split
   · rename_i e
     have h1:=hy b.src.toNat
     have h2:=hk (by omega)
     rw [←e];omega
   · exact hy v
 · exact hy v
theorem step_out (hd:b.dst.toNat<st.1.length) {v:Nat} (hv:v≠b.dst.toNat):val (relaxStep st b i).1 v=val st.1 v:=by
 unfold relaxStep
 split
 · simp only [rPut]
   rw [val_set _ _ _ _ hd,if_neg (fun e=>hv e.symm)]
 · rfl
theorem step_same (hk:KeptB (val st.1) b):(relaxStep st b i).1=st.1:=by
 unfold relaxStep
 rw [if_neg]
 intro h
 rw [relaxes_iff] at h
 have:=hk h.1
 omega
end
section
variable {bs:List Bound} {st:Row×Row}
theorem passTo_next {k:Nat} {b:Bound} (hb:bs[k]? = some b):passTo bs st (k+1)=relaxStep (passTo bs st k) b k:=by
 rw [passTo,hb]
theorem passTo_past {k:Nat} (hb:bs[k]? = none):passTo bs st (k+1)=passTo bs st k:=by
 rw [passTo,hb]
theorem passTo_le (he:Ends st.1.length bs) (v:Nat):∀ k j,j≤k→val (passTo bs st k).1 v≤val (passTo bs st j).1 v
 | 0,j,hj=>by cases Nat.le_zero.1 hj;exact Int.le_refl _
 | k+1,j,hj=>by
   rcases Nat.lt_or_ge k j with h|h
   · have:j=k+1:=by omega
     subst this;exact Int.le_refl _
   · have ih:=passTo_le he v k j h
     cases hb:bs[k]? with
     | none=>rw [passTo_past hb];exact ih
     | some b=>
       rw [passTo_next hb]
       exact Int.le_trans (step_le (by rw [(passTo_len bs st k).1];exact (he b (List.mem_of_getElem? hb)).2) v) ih
theorem passTo_low {y:Nat→Int} (he:Ends st.1.length bs) (hk:∀ b∈bs,KeptB y b) (hy:∀ v,y v≤val st.1 v):∀ k v,y v≤val (passTo bs st k).1 v
 | 0,v=>hy v
 | k+1,v=>by
   have ih:=passTo_low he hk hy k
   cases hb:bs[k]? with
   | none=>rw [passTo_past hb];exact ih v
   | some b=>
     have hm:=List.mem_of_getElem? hb
     rw [passTo_next hb]
     exact step_low (by rw [(passTo_len bs st k).1];exact (he b hm).2) ih (hk b hm) v
theorem passTo_out (he:Ends st.1.length bs) {v:Nat} (hv:∀ b∈bs,v≠b.dst.toNat):∀ k,val (passTo bs st k).1 v=val st.1 v
 | 0=>rfl
 | k+1=>by
   have ih:=passTo_out he hv k
   cases hb:bs[k]? with
   | none=>rw [passTo_past hb];exact ih
   | some b=>
     have hm:=List.mem_of_getElem? hb
     rw [passTo_next hb,step_out (by rw [(passTo_len bs st k).1];exact (he b hm).2) (hv b hm),ih]
theorem passTo_same (hk:∀ b∈bs,KeptB (val st.1) b):∀ k,(passTo bs st k).1=st.1
 | 0=>rfl
 | k+1=>by
   have ih:=passTo_same hk k
   cases hb:bs[k]? with
   | none=>rw [passTo_past hb];exact ih
   | some b=>rw [passTo_next hb,step_same (by rw [ih];exact hk b (List.mem_of_getElem? hb)),ih]
theorem pass_len:(pass bs st).1.length=st.1.length:=(passTo_len bs st bs.length).1
theorem pass_le (he:Ends st.1.length bs) (v:Nat):val (pass bs st).1 v≤val st.1 v:=passTo_le he v bs.length 0 (Nat.zero_le _)
theorem pass_low {y:Nat→Int} (he:Ends st.1.length bs) (hk:∀ b∈bs,KeptB y b) (hy:∀ v,y v≤val st.1 v) (v:Nat):y v≤val (pass bs st).1 v:=passTo_low he hk hy bs.length v
theorem pass_hit {Y:Nat→Int} (he:Ends st.1.length bs) (hY:∀ v,Y v≤val (pass bs st).1 v) {b:Bound} (hb:b∈bs) (hs:val st.1 b.src.toNat=Y b.src.toNat) (hn:Y b.src.toNat<noneV):val (pass bs st).1 b.dst.toNat≤Y b.src.toNat+b.most:=by
 obtain ⟨j,hj,hjb⟩:=List.getElem_of_mem hb
 have hb':bs[j]? = some b:=by rw [List.getElem?_eq_getElem hj,hjb]
 have h1:=passTo_le he b.src.toNat j 0 (Nat.zero_le _)
 have h2:=passTo_le he b.src.toNat bs.length j (Nat.le_of_lt hj)
 have h3:=hY b.src.toNat
 have h4:val (passTo bs st j).1 b.src.toNat=Y b.src.toNat:=by
  have e:(pass bs st).1=(passTo bs st bs.length).1:=rfl
  have e0:(passTo bs st 0).1=st.1:=rfl
  rw [e] at h3
  rw [e0] at h1
  omega
 have h5:=step_hit (st:=passTo bs st j) (b:=b) (i:=j) (by rw [(passTo_len bs st j).1];exact (he b hb).2) (by omega)
 rw [←passTo_next hb',h4] at h5
 exact Int.le_trans (passTo_le he b.dst.toNat bs.length (j+1) hj) h5
theorem pass_fix (he:Ends st.1.length bs) (h:(pass bs st).1=st.1):∀ b∈bs,KeptB (val st.1) b:=fun b hb hn=>by
 have:=pass_hit (Y:=val st.1) he (fun v=>by rw [h];exact Int.le_refl _) hb rfl hn
 rwa [h] at this
end
def rounds (bs:List Bound):Nat→Row×Row→Row×Row
 | 0,st=>st
 | n+1,st=>rounds bs n (pass bs st)
theorem rounds_low {bs:List Bound} {y:Nat→Int} (hk:∀ b∈bs,KeptB y b):∀ n (st:Row×Row),Ends st.1.length bs→(∀ v,y v≤val st.1 v)→∀ v,y v≤val (rounds bs n st).1 v
 | 0,_,_,hy,v=>hy v
 | n+1,st,he,hy,v=>rounds_low hk n (pass bs st) (by rw [pass_len];exact he) (pass_low he hk hy) v
theorem rounds_le {bs:List Bound} :∀ n (st:Row×Row),Ends st.1.length bs→∀ v,val (rounds bs n st).1 v≤val st.1 v
 | 0,_,_,_=>Int.le_refl _
 | n+1,st,he,v=>Int.le_trans (rounds_le n (pass bs st) (by rw [pass_len];exact he) v) (pass_le he v)
theorem rounds_out {bs:List Bound} {v:Nat} (hv:∀ b∈bs,v≠b.dst.toNat):∀ n (st:Row×Row),Ends st.1.length bs→val (rounds bs n st).1 v=val st.1 v
 | 0,_,_=>rfl
 | n+1,st,he=>(rounds_out hv n (pass bs st) (by rw [pass_len];exact he)).trans (passTo_out he hv _)
def sumTo (f:Nat→Nat):Nat→Nat
 | 0=>0
 | n+1=>sumTo f n+f n
theorem sumTo_le {f g:Nat→Nat} :∀ n,(∀ v,v<n→f v≤g v)→sumTo f n≤sumTo g n
 | 0,_=>Nat.le_refl _
 | n+1,h=>Nat.add_le_add (sumTo_le n (fun v hv=>h v (by omega))) (h n (by omega))
theorem sumTo_lt {f g:Nat→Nat} :∀ n,(∀ v,v<n→f v≤g v)→(∃ v,v<n∧f v<g v)→sumTo f n<sumTo g n
 | 0,_,⟨_,h,_⟩=>absurd h (Nat.not_lt_zero _)
 | n+1,h,⟨v,hv,hlt⟩=>by
   by_cases e:v=n
   · subst e
     exact Nat.add_lt_add_of_le_of_lt (sumTo_le v (fun u hu=>h u (by omega))) hlt
   · exact Nat.add_lt_add_of_lt_of_le (sumTo_lt n (fun u hu=>h u (by omega)) ⟨v,by omega,hlt⟩) (h n (by omega))
theorem row_differ {r s:Row} (hl:r.length=s.length) (h:r≠s):∃ v,v<r.length∧val r v≠val s v:=by
 apply Classical.byContradiction
 intro hn
 apply h
 refine row_ext hl (fun v=> ?_)
 by_cases hv:v<r.length
 · exact Classical.byContradiction fun e=>hn ⟨v,hv,e⟩
 · simp [val,List.getD_eq_getElem?_getD,List.getElem?_eq_none (Nat.le_of_not_lt hv),List.getElem?_eq_none (by omega:s.length≤v)]
theorem rounds_end {bs:List Bound} {y:Nat→Int} (hk:∀ b∈bs,KeptB y b):∀ (m:Nat) (st:Row×Row),Ends st.1.length bs→(∀ v,y v≤val st.1 v)→sumTo (fun v=>(val st.1 v-y v).toNat) st.1.length≤m→
 ∃ J,(pass bs (rounds bs J st)).1=(rounds bs J st).1
 | m,st,he,hy,hm=>by
   by_cases h:(pass bs st).1=st.1
   · exact ⟨0,h⟩
   · obtain ⟨v,hv,hne⟩:=row_differ pass_len h
     rw [pass_len] at hv
     have hle:=fun u=>pass_le (st:=st) he u
     have hlow:=pass_low he hk hy
     have hlt:sumTo (fun v=>(val (pass bs st).1 v-y v).toNat) st.1.length<sumTo (fun v=>(val st.1 v-y v).toNat) st.1.length:=by
      refine sumTo_lt _ (fun u _=> ?_) ⟨v,hv,?_⟩
      · have:=hle u;omega
      · have:=hle v;have:=hlow v;omega
     cases m with
     | zero=>omega
     | succ m=>
       obtain ⟨J,hJ⟩:=rounds_end hk m (pass bs st) (by rw [pass_len];exact he) hlow (by rw [pass_len];omega)
       exact ⟨J+1,hJ⟩
theorem settledLoop_stop {bs:List Bound} {n:Nat} {st:Row×Row} (h:(pass bs st).1=st.1):(settledLoop bs (n+1) st).2.2=true:=by
 rw [settledLoop,if_pos h]
theorem settledLoop_go {bs:List Bound} {n:Nat} {st:Row×Row} (h:¬(pass bs st).1=st.1):settledLoop bs (n+1) st=settledLoop bs n (pass bs st):=by
 rw [settledLoop,if_neg h]
theorem loop_true {bs:List Bound} {pts:Nat} (hp:∀ b∈bs,b.dst.toNat<pts) {R:Nat→Int} (hR:∀ b∈bs,KeptB R b):∀ (m:Nat) (st:Row×Row),Ends st.1.length bs→(∃ J,∀ v,val (rounds bs J st).1 v=R v)→
 sumTo (fun v=>if val st.1 v=R v then 0 else 1) pts≤m→(settledLoop bs (m+1) st).2.2=true
 | m,st,he,⟨J,hJ⟩,hm=>by
   by_cases h:(pass bs st).1=st.1
   · exact settledLoop_stop h
   · have hRlow:∀ v,R v≤val st.1 v:=fun v=>by rw [←hJ v];exact rounds_le J st he v
     have hPlow:∀ v,R v≤val (pass bs st).1 v:=pass_low he hR hRlow
     have hPle:=fun u=>pass_le (st:=st) he u
     have hout:∀ v,pts≤v→val st.1 v=R v:=fun v hv=>by
      rw [←hJ v,rounds_out (fun b hb e=>by have:=hp b hb;omega) J st he]
     cases J with
     | zero=>
       exact absurd (passTo_same (fun b hb=>by
        have:=hR b hb
        unfold KeptB at this ⊢
        rw [←hJ,←hJ] at this
        exact this) bs.length) h
     | succ J=>
       have hJ':∀ v,val (rounds bs J (pass bs st)).1 v=R v:=hJ
       have he':Ends (pass bs st).1.length bs:=by rw [pass_len];exact he
       have hlt:sumTo (fun v=>if val (pass bs st).1 v=R v then 0 else 1) pts<sumTo (fun v=>if val st.1 v=R v then 0 else 1) pts:=by
        refine sumTo_lt _ (fun v _=> ?_) ?_
        · by_cases e:val st.1 v=R v
          · have:val (pass bs st).1 v=R v:=by have:=hPle v;have:=hPlow v;omega
            rw [if_pos this];exact Nat.zero_le _
          · rw [if_neg e];split<;>omega
        · apply Classical.byContradiction
          intro hno
          have hsame:∀ v,val (pass bs st).1 v=R v→val st.1 v=R v:=fun v e=>by
           by_cases hv:v<pts
           · apply Classical.byContradiction
             intro e2
             exact hno ⟨v,hv,by rw [if_pos e,if_neg e2];omega⟩
           · exact hout v (by omega)
          by_cases hT:∃ v,val (pass bs st).1 v≠R v
          · obtain ⟨v0,hv0⟩:=hT
            have hD:∀ b∈bs,KeptB (fun v=>if val (pass bs st).1 v=R v then R v else R v+1) b:=fun b hb hn=>by
             simp only at hn ⊢
             have hk:=hR b hb
             unfold KeptB at hk
             by_cases hs:val (pass bs st).1 b.src.toNat=R b.src.toNat
             · rw [if_pos hs] at hn ⊢
               have h1:=hk hn
               have h2:=pass_hit he hPlow hb (hsame _ hs) hn
               split
               · exact h1
               · rename_i h3
                 have:=hPlow b.dst.toNat
                 omega
             · rw [if_neg hs] at hn ⊢
               have h1:=hk (by omega)
               split<;>omega
            have h4:=rounds_low hD J (pass bs st) he' (fun v=>by
             show (if val (pass bs st).1 v=R v then R v else R v+1)≤_
             split
             · exact hPlow v
             · rename_i h3
               have:=hPlow v
               omega) v0
            rw [hJ' v0] at h4
            simp only [if_neg hv0] at h4
            omega
          · apply h
            refine row_ext pass_len (fun v=> ?_)
            have h5:val (pass bs st).1 v=R v:=Classical.byContradiction fun e=>hT ⟨v,e⟩
            rw [h5,hsame v h5]
       cases m with
       | zero=>omega
       | succ m=>
         rw [settledLoop_go h]
         exact loop_true hp hR m (pass bs st) he' ⟨J,hJ'⟩ (by omega)
theorem sumTo_one (p:Nat→Bool):∀ n,sumTo (fun v=>if p v=true then 0 else 1) n≤n
 | 0=>Nat.le_refl _
 | n+1=>by
   have:=sumTo_one p n
   simp only [sumTo]
   split<;>omega
theorem settled_true {pts:Int} {bs:List Bound} {r:Row} (h0:0≤pts) (he:Ends r.length bs) (hp:∀ b∈bs,b.dst.toNat<pts.toNat) {y:Nat→Int} (hk:∀ b∈bs,KeptB y b) (hy:∀ v,y v≤val r v):(settled pts bs r).2.2=true:=by
 obtain ⟨J,hJ⟩:=rounds_end hk _ (r,lasts) he hy (Nat.le_refl _)
 have hlen:∀ n (st:Row×Row),(rounds bs n st).1.length=st.1.length:=fun n=>by
  induction n with
  | zero=>intro st;rfl
  | succ n ih=>intro st;exact (ih (pass bs st)).trans pass_len
 have hfix:=pass_fix (st:=rounds bs J (r,lasts)) (by rw [hlen];exact he) hJ
 have e:(pts+1).toNat=pts.toNat+1:=by omega
 unfold settled
 rw [e]
 refine loop_true hp hfix pts.toNat (r,lasts) he ⟨J,fun _=>rfl⟩ ?_
 have:=sumTo_one (fun v=>decide (val r v=val (rounds bs J (r,lasts)).1 v)) pts.toNat
 simpa using this
theorem loop_fix {bs:List Bound} :∀ (n:Nat) (st:Row×Row),Ends st.1.length bs→(settledLoop bs n st).2.2=true→∀ b∈bs,KeptB (val (settledLoop bs n st).1) b
 | 0,_,_,h=>by cases h
 | n+1,st,he,h=>by
   by_cases hf:(pass bs st).1=st.1
   · rw [settledLoop,if_pos hf]
     simp only [hf]
     exact pass_fix he hf
   · rw [settledLoop_go hf] at h ⊢
     exact loop_fix n (pass bs st) (by rw [pass_len];exact he) h
theorem loop_low {bs:List Bound} {y:Nat→Int} (hk:∀ b∈bs,KeptB y b):∀ (n:Nat) (st:Row×Row),Ends st.1.length bs→(∀ v,y v≤val st.1 v)→∀ v,y v≤val (settledLoop bs n st).1 v
 | 0,_,_,hy,v=>hy v
 | n+1,st,he,hy,v=>by
   have hp:=pass_low he hk hy
   by_cases hf:(pass bs st).1=st.1
   · rw [settledLoop,if_pos hf];exact hp v
   · rw [settledLoop_go hf];exact loop_low hk n (pass bs st) (by rw [pass_len];exact he) hp v
theorem loop_le {bs:List Bound} :∀ (n:Nat) (st:Row×Row),Ends st.1.length bs→∀ v,val (settledLoop bs n st).1 v≤val st.1 v
 | 0,_,_,_=>Int.le_refl _
 | n+1,st,he,v=>by
   by_cases hf:(pass bs st).1=st.1
   · rw [settledLoop,if_pos hf];exact pass_le he v
   · rw [settledLoop_go hf];exact Int.le_trans (loop_le n (pass bs st) (by rw [pass_len];exact he) v) (pass_le he v)
theorem le_sumTo (f:Nat→Nat):∀ n v,v<n→f v≤sumTo f n
 | 0,_,h=>absurd h (Nat.not_lt_zero _)
 | n+1,v,h=>by
   simp only [sumTo]
   by_cases e:v=n
   · subst e;omega
   · have:=le_sumTo f n v (by omega)
     omega
theorem ends60 {pts:Int} {bs:List Bound} (hok:SysOk pts bs) {r:Row} (hr:r.length=60):Ends r.length bs:=fun b hb=>by
 have:=hok.b b hb
 have:=hok.p2
 rw [hr]
 constructor<;>omega
theorem val_zero (v:Nat):val zeroRow v=0:=by
 unfold val zeroRow
 rw [List.getD_eq_getElem?_getD,List.getElem?_replicate]
 split<;>rfl
theorem solvedOk_iff {pts:Int} {bs:List Bound} (hok:SysOk pts bs):solvedOk pts bs=true ↔ ∃ y:Nat→Int,∀ b∈bs,y b.dst.toNat≤y b.src.toNat+b.most:=by
 have hz60:zeroRow.length=60:=by simp [zeroRow]
 have hp1:=hok.p1
 have hp2:=hok.p2
 constructor
 · intro h
   refine ⟨val (settledLoop bs (pts+1).toNat (zeroRow,lasts)).1,fun b hb=> ?_⟩
   refine loop_fix _ _ (ends60 hok hz60) h b hb ?_
   have:=loop_le (bs:=bs) (pts+1).toNat (zeroRow,lasts) (ends60 hok hz60) b.src.toNat
   simp only [val_zero] at this
   unfold noneV
   omega
 · rintro ⟨y,hy⟩
   obtain ⟨C,hC⟩:∃ C:Int,∀ v,v<60→y v≤C:=⟨(sumTo (fun v=>(y v).toNat) 60:Nat),fun v hv=>by
    have:=le_sumTo (fun v=>(y v).toNat) 60 v hv
    try simp only at this
    omega⟩
   refine settled_true (y:=fun v=>if v<60 then y v-C else 0) (by omega) (ends60 hok hz60) (fun b hb=> ?_) (fun b hb _=> ?_) (fun v=> ?_)
   · have:=hok.b b hb;omega
   · have h1:=hok.b b hb
     have h2:=hy b hb
     try simp only
     rw [if_pos (by omega),if_pos (by omega)]
     omega
   · rw [val_zero]
     try simp only
     split
     · have:=hC v (by assumption);omega
     · exact Int.le_refl _
def whereF (first low high at_ i:Int):Int:=if low≤i∧i≤high then at_+high-i else if i<low then first+i else first+low+(i-high-1)
def placeB (first low high at_:Int) (back:Bool) (x:Bound):Bound:=
 if back then ⟨whereF first low high at_ x.dst,whereF first low high at_ x.src,x.most,x.by_⟩ else ⟨whereF first low high at_ x.src,whereF first low high at_ x.dst,x.most,x.by_⟩
def jointB (first low high at_:Int) (back:Bool) (a b:List Bound):List Bound:=a++b.map (placeB first low high at_ back)
def jointN (first second low high:Int):Int:=first+second-(high-low+1)
def waysN (A B:Outl) (p:Pairing):Int:=jointN (A.n+1) (B.n+1) p.b.lo p.b.hi
def waysB (A B:Outl) (p:Pairing):List Bound:=jointB (A.n+1) p.b.lo p.b.hi p.a.lo true A.ways B.ways
def dirsN (A B:Outl) (p:Pairing):Int:=jointN A.n B.n p.b.lo (p.b.hi-1)
def dirsB (A B:Outl) (p:Pairing):List Bound:=jointB A.n p.b.lo (p.b.hi-1) p.a.lo false A.turns B.turns
def inB (n low high:Int):Bool:=decide (low≤n)&&decide (n≤high)
def checkOut (A:Outl):Int:=if A.n<3∨16<A.n then 1 else if checkSys (A.n+1) A.ways≠0 then checkSys (A.n+1) A.ways else checkSys A.n A.turns
def bothErr (A B:Outl):Int:=if checkOut A≠0 then checkOut A else checkOut B
def ofB (A:Outl) (s:Stretch):Bool:=decide (0≤s.lo)&&(decide (s.lo<s.hi)&&decide (s.hi≤A.n))
def pairErr (A B:Outl) (p:Pairing):Int:=
 if bothErr A B≠0 then bothErr A B else if ofB A p.a=false∨ofB B p.b=false then 1 else if p.a.hi-p.a.lo≠p.b.hi-p.b.lo then 31 else 0
def roomErr (A B:Outl):Int:=if 400<A.ways.length+B.ways.length∨400<A.turns.length+B.turns.length then 2 else 0
def askedErr (A B:Outl) (p:Pairing):Int:=if pairErr A B p≠0 then pairErr A B p else roomErr A B
def meetsV (A B:Outl) (p:Pairing):Bool:=solvedOk (waysN A B p) (waysB A B p)&&solvedOk (dirsN A B p) (dirsB A B p)
def sharedLow (A B:Outl) (p:Pairing):Int:=if greatestR (waysN A B p) (waysB A B p) p.a.hi p.a.lo=noneV then -1000000000 else -greatestR (waysN A B p) (waysB A B p) p.a.hi p.a.lo
def sharedHigh (A B:Outl) (p:Pairing):Int:=if greatestR (waysN A B p) (waysB A B p) p.a.lo p.a.hi=noneV then 1000000000 else greatestR (waysN A B p) (waysB A B p) p.a.lo p.a.hi
theorem checkSys_zero {pts:Int} {bs:List Bound} : checkSys pts bs=0↔1≤pts∧pts≤60∧bs.length≤400∧∀ b∈bs,wrongB pts b=false:=by
 unfold checkSys
 by_cases h1:60<pts∨400<bs.length
 · rw [if_pos h1]
   constructor
   · intro h;cases h
   · intro h;omega
 · rw [if_neg h1]
   by_cases h2:pts<1∨bs.any (wrongB pts)=true
   · rw [if_pos h2]
     constructor
     · intro h;cases h
     rintro ⟨a,b,c,d⟩
     rcases h2 with h|h
     · omega
     · obtain ⟨x,hx,hw⟩:=List.any_eq_true.1 h
       rw [d x hx] at hw;cases hw
   · rw [if_neg h2]
     refine ⟨fun _=>⟨by omega,by omega,by omega,fun b hb=> ?_⟩,fun _=>rfl⟩
     rw [not_or,Bool.not_eq_true,List.any_eq_false] at h2
     simpa using h2.2 b hb
theorem wrongB_no {pts:Int} {b:Bound} : wrongB pts b=false↔0≤b.src∧b.src<pts∧0≤b.dst∧b.dst<pts∧b.src≠b.dst∧ -1000000≤b.most∧b.most≤1000000∧0≤b.by_∧b.by_≤1000000:=by
 unfold wrongB withinB
 simp only [Bool.or_eq_false_iff,Bool.not_eq_false',Bool.and_eq_true,decide_eq_true_eq,decide_eq_false_iff_not]
 constructor
 · rintro ⟨⟨⟨⟨⟨h1,h2⟩,h3,h4⟩,h5⟩,h6,h7⟩,h8,h9⟩
   exact ⟨h1,by omega,h3,by omega,h5,h6,h7,h8,h9⟩
 · rintro ⟨h1,h2,h3,h4,h5,h6,h7,h8,h9⟩
   exact ⟨⟨⟨⟨⟨h1,by omega⟩,h3,by omega⟩,h5⟩,h6,h7⟩,h8,h9⟩
section
variable {first second low high at_:Int}
theorem whereF_rng (_:0≤low) (h1:low≤high) (h2:high<second) (h3:0≤at_) (h4:at_+high-low<first) {i:Int} (hi:0≤i) (hi2:i<second):0≤whereF first low high at_ i∧whereF first low high at_ i<jointN first second low high:=by
 unfold whereF jointN
 split
 · omega
 · split<;>omega
theorem whereF_inj (h0:0≤low) (h1:low≤high) (_:0≤at_) (h4:at_+high-low<first) {i j:Int} (hi:0≤i) (hj:0≤j) (h:whereF first low high at_ i=whereF first low high at_ j):i=j:=by
 unfold whereF at h
 split at h<;>split at h<;>(try split at h)<;>(try split at h)<;>omega
theorem joint_ok (h0:0≤low) (h1:low≤high) (h2:high<second) (h3:0≤at_) (h4:at_+high-low<first) {a b:List Bound} (ha:checkSys first a=0) (hb:checkSys second b=0) (back:Bool) (hl:a.length+b.length≤400) (hn:first+second≤60):
 checkSys (jointN first second low high) (jointB first low high at_ back a b)=0:=by
 obtain ⟨a1,a2,a3,a4⟩:=checkSys_zero.1 ha
 obtain ⟨b1,b2,b3,b4⟩:=checkSys_zero.1 hb
 refine checkSys_zero.2 ⟨by unfold jointN;omega,by unfold jointN;omega,by unfold jointB;rw [List.length_append,List.length_map];exact hl,fun x hx=> ?_⟩
 unfold jointB at hx
 rcases List.mem_append.1 hx with h|h
 · obtain ⟨c1,c2,c3,c4,c5,c6⟩:=wrongB_no.1 (a4 x h)
   exact wrongB_no.2 ⟨c1,by unfold jointN;omega,c3,by unfold jointN;omega,c5,c6⟩
 · obtain ⟨y,hy,rfl⟩:=List.mem_map.1 h
   obtain ⟨c1,c2,c3,c4,c5,c6⟩:=wrongB_no.1 (b4 y hy)
   have r1:=whereF_rng h0 h1 h2 h3 h4 c1 c2
   have r2:=whereF_rng h0 h1 h2 h3 h4 c3 c4
   have r3:whereF first low high at_ y.src≠whereF first low high at_ y.dst:=fun e=>c5 (whereF_inj h0 h1 h3 h4 c1 c3 e)
   unfold placeB
   split
   · exact wrongB_no.2 ⟨r2.1,r2.2,r1.1,r1.2,Ne.symm r3,c6⟩
   · exact wrongB_no.2 ⟨r1.1,r1.2,r2.1,r2.2,r3,c6⟩
end
def KeepsF (bs:List Bound) (f:Int→Int):Prop:=∀ b∈bs,f b.dst≤f b.src+b.most
def sgn (back:Bool) (v:Int):Int:=if back then -v else v
theorem sgn_sgn (back:Bool) (v:Int):sgn back (sgn back v)=v:=by unfold sgn;cases back<;>simp
def AgreeF (low high at_:Int) (back:Bool) (f g:Int→Int):Prop:=∀ i,low≤i→i≤high→g i=sgn back (f (at_+high-i))
end Go.Proofs.YtpmkgmilfifkpaaGreatDoor
end

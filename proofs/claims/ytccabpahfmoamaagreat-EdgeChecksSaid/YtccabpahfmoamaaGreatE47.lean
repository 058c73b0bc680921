/- Contracts that the laws lean on: R3ClR, WthP, WthI, R1Id, R3Cl. -/
import Derived.Test.YtccabpahfmoamaaGreatE07
import Derived.Test.YtccabpahfmoamaaGreatE20
import Derived.Test.YtccabpahfmoamaaGreatE17
import Derived.Test.YtccabpahfmoamaaGreatE44
import Derived.Test.YtccabpahfmoamaaGreatE39
import Derived.Test.YtccabpahfmoamaaGreatE04
import Derived.BigQuiet
import Derived.Test.YtccabpahfmoamaaGreatE35
import Derived.Test.YtccabpahfmoamaaGreatE38
import Derived.Test.YtccabpahfmoamaaGreatE42
import Derived.Test.YtccabpahfmoamaaGreatE18
section
namespace Go.Proofs.YtccabpahfmoamaaGreat
open Go.RowKit Go.Proofs Go.Shelf
def Cl2I (J2:Value→World→Prop) (J3:Value→Value→World→Prop) (w:World):List Value→World→Prop
 | [],W=>Below w.heap.size w W
 | [v],W=>Below w.heap.size w W∧J2 v W
 | [_,z],W=>Below w.heap.size w W∧∃ a b,z = .tuple #[a,b]∧J3 a b W
 | _,_=>False
section
variable {J2:Value→World→Prop} {J3:Value→Value→World→Prop}
theorem Cl2I.b {w W:World} {cv:List Value} (h:Cl2I J2 J3 w cv W):Below w.heap.size w W:=by
 match cv,h with
 | [],h=>exact h
 | [_],h=>exact h.1
 | [_,_],h=>exact h.1
theorem Cl2I.two {w W:World} {cv:List Value} (hl:2≤cv.length) (h:Cl2I J2 J3 w cv W):∃ v a b,cv = [v,.tuple #[a,b]]:=by
 match cv,hl,h with
 | [v,y],_,⟨_,a,b,e,_⟩=>exact ⟨v,a,b,by rw [e]⟩
 | [],hl,_=>simp at hl
 | [_],hl,_=>simp at hl
end
def codeR3cls4:Option Code→Code
 | some (.seq _ (.seq _ (.seq _ (.seq c _))))=>c
 | _=> .skip
def Tr3cls4 (_ _ _ b7:Nat) (an bn p0 p1 p2 p3:Int) (aw at_ bw bt tn sl:Value) (cv:List Value):List Value:=
 [.agg #[.int .i64 an,aw,at_],.agg #[.int .i64 bn,bw,bt],.agg #[.int .i64 p0,.int .i64 p1,.int .i64 p2,.int .i64 p3],.pointer (some ⟨b7,0,none⟩),tn,cv.getD 0 undef,.pointer (some ⟨b7,0+1,none⟩),sl,cv.getD 1 undef,exA (cv.getD 1 undef),exB (cv.getD 1 undef),exA (cv.getD 1 undef),exB (cv.getD 1 undef)]
set_option maxRecDepth 100000 in
set_option maxHeartbeats 4000000 in
theorem r3cls4 (cC:Code) (hc:cC=codeR3cls4 Tryz.f21.body) (b4 b5 b6 b7:Nat) (an bn p0 p1 p2 p3:Int) (aw at_ bw bt tn sl:Value) (a:Act) (w:World) (Q:Exit→Act→World→Prop)
 (hT:a.tmps.size=29) (t4:a.tmps.getD 4 undef = .pointer (some ⟨b4,0,none⟩)) (t5:a.tmps.getD 5 undef = .pointer (some ⟨b5,0,none⟩)) (t6:a.tmps.getD 6 undef = .pointer (some ⟨b6,0,none⟩)) (t7:a.tmps.getD 7 undef = .pointer (some ⟨b7,0,none⟩))
 (J2:Value→World→Prop) (J3:Value→Value→World→Prop) (CE:∀ W,Below w.heap.size w W→W.cell? ⟨b4,0,none⟩=some (.int .i64 an)∧W.cell? ⟨b4,1,none⟩=some (aw)∧W.cell? ⟨b4,2,none⟩=some (at_)∧W.cell? ⟨b5,0,none⟩=some (.int .i64 bn)∧W.cell? ⟨b5,1,none⟩=some (bw)∧W.cell? ⟨b5,2,none⟩=some (bt)∧W.cell? ⟨b6,0,none⟩=some (.int .i64 p0)∧W.cell? ⟨b6,1,none⟩=some (.int .i64 p1)∧W.cell? ⟨b6,2,none⟩=some (.int .i64 p2)∧W.cell? ⟨b6,3,none⟩=some (.int .i64 p3)∧W.cell? ⟨b7,0,none⟩=some (tn)∧W.cell? ⟨b7,1,none⟩=some (sl))
 (C2:∀ W,Below w.heap.size w W→Calls Tryz.prog 74 #[.agg #[.int .i64 an,aw,at_],.agg #[.int .i64 bn,bw,bt],.agg #[.int .i64 p0,.int .i64 p1,.int .i64 p2,.int .i64 p3],tn] W fun e w'=> ∃ v,e = .returned v∧Below W.heap.size W w'∧J2 v w')
 (C3:∀ W v,Below w.heap.size w W→J2 v W→Calls Tryz.prog 73 #[v,sl] W fun e w'=> ∃ a b,e = .returned (.tuple #[a,b])∧Below W.heap.size W w'∧J3 a b w')
 (hQ:∀ v r1 r2 W,Below w.heap.size w W→J3 r1 r2 W→Q .normal { tmps:=setsL (setsL (a.tmps) 18 [.agg #[.int .i64 an,aw,at_],.agg #[.int .i64 bn,bw,bt],.agg #[.int .i64 p0,.int .i64 p1,.int .i64 p2,.int .i64 p3],.pointer (some ⟨b7,0,none⟩),tn,v,.pointer (some ⟨b7,0+1,none⟩),sl,.tuple #[r1,r2],r1,r2]) 8 [r1,r2],defers:=a.defers } W):
 cC.wp Tryz.prog Q a w:=by
 subst hc
 unfold codeR3cls4 Tryz.f21
 dsimp only
 refine wpIn_wide.1 (wpIn_region_chain (nn:=5) 29 (by kernel_rfl) (by kernel_rfl) (by kernel_rfl) hT (fun i cv=>(Tr3cls4 b4 b5 b6 b7 an bn p0 p1 p2 p3 aw at_ bw bt tn sl cv).getD i undef) (fun i=>([0,0,0,0,0,0,0,0,0,2,2,2,2]:List Nat).getD i 0) (fun i=>([0,0,0,0,0,1,1,1,2,2,2,2,2]:List Nat).getD i 0) [5,8] (by kernel_rfl) (by kernel_rfl) (by kernel_rfl) (by kernel_rfl) (Cl2I J2 J3 w) ((Below.refl _ _).drew) (fun b cv hE hold=> ?_) (fun cv W hl hI=> ?_))
 · clear hQ
   have q4:=hold 4 _ (by kernel_rfl) t4
   have q5:=hold 5 _ (by kernel_rfl) t5
   have q6:=hold 6 _ (by kernel_rfl) t6
   have q7:=hold 7 _ (by kernel_rfl) t7
   simp only [factsL,Vc,idxC,Tr3cls4,List.getD_cons_zero,List.getD_cons_succ,Nat.reduceAdd,Nat.reduceEqDiff,reduceIte,Option.map_some,Option.map_none] at hE
   repeat' first|exact chain_nil|refine chain_op 0 rfl rfl ?_ ?_|refine chain_op 1 rfl rfl ?_ ?_|refine chain_skip rfl rfl rfl rfl ?_|refine chain_quiet rfl rfl ?_ ?_
   all_goals intro hl
   any_goals (
    intro hl2;simp only [List.getD_cons_zero,List.getD_cons_succ,Nat.reduceAdd] at hl hl2
    first
     | (obtain rfl:=List.eq_nil_of_length_eq_zero (Nat.le_zero.1 hl2);intro W hW;have hWb:Below w.heap.size w W:=hW;obtain ⟨e0,e1,e2,e3,e4,e5,e6,e7,e8,e9,e10,e11⟩:=CE W hWb;simp only [Tr3cls4,List.getD_cons_zero,List.getD_cons_succ,Nat.reduceAdd]
        first
         | (refine .inl ?_;go_simp;done)
         | (refine .inl ?_;go_simp;rfl))
     | (intro W hW;simp only [Tr3cls4,List.getD_cons_zero,List.getD_cons_succ,Nat.reduceAdd];refine .inl ?_;go_simp;(try rfl);done)
     | (intro W hW;obtain ⟨e0,e1,e2,e3,e4,e5,e6,e7,e8,e9,e10,e11⟩:=CE W (Cl2I.b hW);simp only [Tr3cls4,List.getD_cons_zero,List.getD_cons_succ,Nat.reduceAdd]
        first
         | (refine .inl ?_;go_simp;done)
         | (refine .inl ?_;go_simp;rfl))
     | (intro W hW;obtain ⟨v,a,b',rfl⟩:=Cl2I.two hl hW;simp only [Tr3cls4,List.getD_cons_zero,List.getD_cons_succ,Nat.reduceAdd] at hE ⊢;refine .inl ?_;go_simp;(try rfl);done)
    done)
   · obtain rfl:=List.eq_nil_of_length_eq_zero hl
     intro W hW
     have hWb:Below w.heap.size w W:=hW
     refine .inr ⟨74,#[.agg #[.int .i64 an,aw,at_],.agg #[.int .i64 bn,bw,bt],.agg #[.int .i64 p0,.int .i64 p1,.int .i64 p2,.int .i64 p3],tn],?_,(C2 W hWb).mono ?_⟩
     · go_simp<;>done
     · rintro e w' ⟨v,rfl,hb',hr⟩;exact ⟨_,rfl,hWb.trans (hb'.mono hWb.size),hr⟩
   · obtain ⟨v,rfl⟩:=len1 hl
     rintro W ⟨hWb,hj⟩
     simp only [List.getD_cons_zero] at hE
     refine .inr ⟨73,#[v,sl],?_,(C3 W v hWb hj).mono ?_⟩
     · go_simp<;>done
     · rintro e w' ⟨a,b,rfl,hb',hr⟩;exact ⟨_,rfl,hWb.trans (hb'.mono hWb.size),a,b,rfl,hr⟩
 · match cv,hl,hI with
   | [v,y],_,⟨hb,a,b,e,hj⟩=>subst e;exact hQ v a b W hb hj
def codeR3rst6:Option Code→Code
 | some (.seq _ (.seq _ (.seq _ (.seq _ (.seq c _)))))=>c
 | _=> .skip
def Tr3rst6 (_ _ _ b7:Nat) (an bn p0 p1 p2 p3:Int) (aw at_ bw bt tn sl:Value) (cv:List Value):List Value:=
 [.agg #[.int .i64 an,aw,at_],.agg #[.int .i64 bn,bw,bt],.agg #[.int .i64 p0,.int .i64 p1,.int .i64 p2,.int .i64 p3],.pointer (some ⟨b7,0,none⟩),tn,cv.getD 0 undef,.pointer (some ⟨b7,0+1,none⟩),sl,cv.getD 1 undef,exA (cv.getD 1 undef),exB (cv.getD 1 undef),exA (cv.getD 1 undef),exB (cv.getD 1 undef)]
set_option maxRecDepth 100000 in
set_option maxHeartbeats 4000000 in
theorem r3rst6 (cC:Code) (hc:cC=codeR3rst6 Tryz.f23.body) (b4 b5 b6 b7:Nat) (an bn p0 p1 p2 p3:Int) (aw at_ bw bt tn sl:Value) (a:Act) (w:World) (Q:Exit→Act→World→Prop)
 (hT:a.tmps.size=36) (t4:a.tmps.getD 4 undef = .pointer (some ⟨b4,0,none⟩)) (t5:a.tmps.getD 5 undef = .pointer (some ⟨b5,0,none⟩)) (t6:a.tmps.getD 6 undef = .pointer (some ⟨b6,0,none⟩)) (t7:a.tmps.getD 7 undef = .pointer (some ⟨b7,0,none⟩))
 (J2:Value→World→Prop) (J3:Value→Value→World→Prop) (CE:∀ W,Below w.heap.size w W→W.cell? ⟨b4,0,none⟩=some (.int .i64 an)∧W.cell? ⟨b4,1,none⟩=some (aw)∧W.cell? ⟨b4,2,none⟩=some (at_)∧W.cell? ⟨b5,0,none⟩=some (.int .i64 bn)∧W.cell? ⟨b5,1,none⟩=some (bw)∧W.cell? ⟨b5,2,none⟩=some (bt)∧W.cell? ⟨b6,0,none⟩=some (.int .i64 p0)∧W.cell? ⟨b6,1,none⟩=some (.int .i64 p1)∧W.cell? ⟨b6,2,none⟩=some (.int .i64 p2)∧W.cell? ⟨b6,3,none⟩=some (.int .i64 p3)∧W.cell? ⟨b7,0,none⟩=some (tn)∧W.cell? ⟨b7,1,none⟩=some (sl))
 (C2:∀ W,Below w.heap.size w W→Calls Tryz.prog 74 #[.agg #[.int .i64 an,aw,at_],.agg #[.int .i64 bn,bw,bt],.agg #[.int .i64 p0,.int .i64 p1,.int .i64 p2,.int .i64 p3],tn] W fun e w'=> ∃ v,e = .returned v∧Below W.heap.size W w'∧J2 v w')
 (C3:∀ W v,Below w.heap.size w W→J2 v W→Calls Tryz.prog 76 #[v,sl] W fun e w'=> ∃ a b,e = .returned (.tuple #[a,b])∧Below W.heap.size W w'∧J3 a b w')
 (hQ:∀ v r1 r2 W,Below w.heap.size w W→J3 r1 r2 W→Q .normal { tmps:=setsL (setsL (a.tmps) 25 [.agg #[.int .i64 an,aw,at_],.agg #[.int .i64 bn,bw,bt],.agg #[.int .i64 p0,.int .i64 p1,.int .i64 p2,.int .i64 p3],.pointer (some ⟨b7,0,none⟩),tn,v,.pointer (some ⟨b7,0+1,none⟩),sl,.tuple #[r1,r2],r1,r2]) 8 [r1,r2],defers:=a.defers } W):
 cC.wp Tryz.prog Q a w:=by
 subst hc
 unfold codeR3rst6 Tryz.f23
 dsimp only
 refine wpIn_wide.1 (wpIn_region_chain (nn:=5) 36 (by kernel_rfl) (by kernel_rfl) (by kernel_rfl) hT (fun i cv=>(Tr3rst6 b4 b5 b6 b7 an bn p0 p1 p2 p3 aw at_ bw bt tn sl cv).getD i undef) (fun i=>([0,0,0,0,0,0,0,0,0,2,2,2,2]:List Nat).getD i 0) (fun i=>([0,0,0,0,0,1,1,1,2,2,2,2,2]:List Nat).getD i 0) [5,8] (by kernel_rfl) (by kernel_rfl) (by kernel_rfl) (by kernel_rfl) (Cl2I J2 J3 w) ((Below.refl _ _).drew) (fun b cv hE hold=> ?_) (fun cv W hl hI=> ?_))
 · clear hQ
   have q4:=hold 4 _ (by kernel_rfl) t4
   have q5:=hold 5 _ (by kernel_rfl) t5
   have q6:=hold 6 _ (by kernel_rfl) t6
   have q7:=hold 7 _ (by kernel_rfl) t7
   simp only [factsL,Vc,idxC,Tr3rst6,List.getD_cons_zero,List.getD_cons_succ,Nat.reduceAdd,Nat.reduceEqDiff,reduceIte,Option.map_some,Option.map_none] at hE
   repeat' first|exact chain_nil|refine chain_op 0 rfl rfl ?_ ?_|refine chain_op 1 rfl rfl ?_ ?_|refine chain_skip rfl rfl rfl rfl ?_|refine chain_quiet rfl rfl ?_ ?_
   all_goals intro hl
   any_goals (
    intro hl2;simp only [List.getD_cons_zero,List.getD_cons_succ,Nat.reduceAdd] at hl hl2
    first
     | (obtain rfl:=List.eq_nil_of_length_eq_zero (Nat.le_zero.1 hl2);intro W hW;have hWb:Below w.heap.size w W:=hW;obtain ⟨e0,e1,e2,e3,e4,e5,e6,e7,e8,e9,e10,e11⟩:=CE W hWb;simp only [Tr3rst6,List.getD_cons_zero,List.getD_cons_succ,Nat.reduceAdd]
        first
         | (refine .inl ?_;go_simp;done)
         | (refine .inl ?_;go_simp;rfl))
     | (intro W hW;simp only [Tr3rst6,List.getD_cons_zero,List.getD_cons_succ,Nat.reduceAdd];refine .inl ?_;go_simp;(try rfl);done)
     | (intro W hW;obtain ⟨e0,e1,e2,e3,e4,e5,e6,e7,e8,e9,e10,e11⟩:=CE W (Cl2I.b hW);simp only [Tr3rst6,List.getD_cons_zero,List.getD_cons_succ,Nat.reduceAdd]
        first
         | (refine .inl ?_;go_simp;done)
         | (refine .inl ?_;go_simp;rfl))
     | (intro W hW;obtain ⟨v,a,b',rfl⟩:=Cl2I.two hl hW;simp only [Tr3rst6,List.getD_cons_zero,List.getD_cons_succ,Nat.reduceAdd] at hE ⊢;refine .inl ?_;go_simp;(try rfl);done)
    done)
   · obtain rfl:=List.eq_nil_of_length_eq_zero hl
     intro W hW
     have hWb:Below w.heap.size w W:=hW
     refine .inr ⟨74,#[.agg #[.int .i64 an,aw,at_],.agg #[.int .i64 bn,bw,bt],.agg #[.int .i64 p0,.int .i64 p1,.int .i64 p2,.int .i64 p3],tn],?_,(C2 W hWb).mono ?_⟩
     · go_simp<;>done
     · rintro e w' ⟨v,rfl,hb',hr⟩;exact ⟨_,rfl,hWb.trans (hb'.mono hWb.size),hr⟩
   · obtain ⟨v,rfl⟩:=len1 hl
     rintro W ⟨hWb,hj⟩
     simp only [List.getD_cons_zero] at hE
     refine .inr ⟨76,#[v,sl],?_,(C3 W v hWb hj).mono ?_⟩
     · go_simp<;>done
     · rintro e w' ⟨a,b,rfl,hb',hr⟩;exact ⟨_,rfl,hWb.trans (hb'.mono hWb.size),a,b,rfl,hr⟩
 · match cv,hl,hI with
   | [v,y],_,⟨hb,a,b,e,hj⟩=>subst e;exact hQ v a b W hb hj
end Go.Proofs.YtccabpahfmoamaaGreat
end
section
namespace Go.Proofs.YtccabpahfmoamaaGreat
def atW:List Int→Int→Nat
 | [],_=>0
 | y::ys,v=>if y<v then atW ys v+1 else 0
theorem atW_le:∀ (l:List Int) (v:Int),atW l v≤l.length
 | [],_=>Nat.le_refl _
 | y::ys,v=>by
   have:=atW_le ys v
   unfold atW
   split
   · simp;omega
   · omega
theorem atW_of:∀ {l:List Int} {v:Int} {j:Nat},(∀ (i:Nat) (x:Int),i<j→l[i]? = some x→x<v)→j≤l.length→(j=l.length∨∃ x,l[j]? = some x∧¬x<v)→atW l v=j
 | [],v,j,_,hj,_=>by simp at hj;subst hj;rfl
 | y::ys,v,0,_,_,h=>by
   rcases h with h|⟨x,hx,hv⟩
   · simp at h
   · simp at hx
     subst hx
     unfold atW
     rw [if_neg hv]
 | y::ys,v,j+1,h1,hj,h=>by
   have h0:=h1 0 y (by omega) rfl
   unfold atW
   rw [if_pos h0]
   rw [atW_of (l:=ys) (j:=j) (fun i x hi hx=>h1 (i+1) x (by omega) (by simpa using hx)) (by simpa using hj) (by
    rcases h with h|⟨x,hx,hv⟩
    · left;simpa using h
    · right;exact ⟨x,by simpa using hx,hv⟩)]
theorem insI_at (v:Int):∀ l:List Int,insI v l=if l[atW l v]? = some v then l else l.take (atW l v)++v::l.drop (atW l v)
 | []=>rfl
 | y::ys=>by
   unfold insI atW
   by_cases h:y<v
   · rw [if_neg (show ¬v<y by omega),if_neg (show ¬v=y by omega),if_pos h,insI_at v ys,List.getElem?_cons_succ,List.take_succ_cons,List.drop_succ_cons]
     by_cases h2:ys[atW ys v]? = some v
     · rw [if_pos h2,if_pos h2]
     · rw [if_neg h2,if_neg h2];rfl
   · rw [if_neg h,List.getElem?_cons_zero]
     by_cases h2:v=y
     · subst h2
       rw [if_neg (by omega),if_pos rfl,if_pos rfl]
     · rw [if_pos (show v<y by omega),if_neg (fun e=>h2 (Option.some.inj e).symm)]
       rfl
theorem asc_eq:∀ {a b:List Int},a.Pairwise (· < ·)→b.Pairwise (· < ·)→(∀ x,x∈a↔x∈b)→a=b
 | [],[],_,_,_=>rfl
 | [],y::ys,_,_,h=>by have:=(h y).2 List.mem_cons_self;cases this
 | x::xs,[],_,_,h=>by have:=(h x).1 List.mem_cons_self;cases this
 | x::xs,y::ys,ha,hb,h=>by
   obtain ⟨a1,a2⟩:=List.pairwise_cons.1 ha
   obtain ⟨b1,b2⟩:=List.pairwise_cons.1 hb
   have e:x=y:=by
    rcases List.mem_cons.1 ((h x).1 List.mem_cons_self) with e|hx
    · exact e
    · rcases List.mem_cons.1 ((h y).2 List.mem_cons_self) with e|hy
      · exact e.symm
      · have:=b1 x hx;have:=a1 y hy;omega
   subst e
   congr 1
   refine asc_eq a2 b2 fun z=> ?_
   constructor
   · intro hz
     rcases List.mem_cons.1 ((h z).1 (List.mem_cons_of_mem _ hz)) with e|hz'
     · have:=a1 z hz;omega
     · exact hz'
   · intro hz
     rcases List.mem_cons.1 ((h z).2 (List.mem_cons_of_mem _ hz)) with e|hz'
     · have:=b1 z hz;omega
     · exact hz'
def stepW (bs:List Bound) (acc:List Int) (i:Int):List Int:=if (bnd bs i).by_>0 then insI (bnd bs i).by_ acc else acc
def refIdsE (bs:List Bound) (l:List Int):List Int:=l.foldl (stepW bs) []
theorem refIdsE_succ {bs:List Bound} {l:List Int} {k:Nat} {x:Int} (hx:l[k]? = some x):refIdsE bs (l.take (k+1))=stepW bs (refIdsE bs (l.take k)) x:=by
 unfold refIdsE
 rw [List.take_add_one,hx,List.foldl_append]
 rfl
theorem foldW_asc (bs:List Bound):∀ (l:List Int) {acc:List Int},acc.Pairwise (· < ·)→(l.foldl (stepW bs) acc).Pairwise (· < ·)
 | [],_,h=>h
 | x::xs,acc,h=>foldW_asc bs xs (by unfold stepW;split;exact insI_asc h;exact h)
theorem foldW_mem (bs:List Bound) {z:Int} :∀ (l acc:List Int),z∈l.foldl (stepW bs) acc↔(∃ i∈l,(bnd bs i).by_=z∧0<z)∨z∈acc
 | [],acc=>by simp
 | x::xs,acc=>by
   rw [List.foldl_cons,foldW_mem bs xs]
   have hs:z∈stepW bs acc x↔((bnd bs x).by_=z∧0<z)∨z∈acc:=by
    unfold stepW
    split
    · rename_i h
      rw [insI_mem]
      constructor
      · rintro (rfl|h')
        · exact .inl ⟨rfl,h⟩
        · exact .inr h'
      · rintro (⟨rfl,_⟩|h')
        · exact .inl rfl
        · exact .inr h'
    · rename_i h
      constructor
      · exact .inr
      · rintro (⟨rfl,h'⟩|h')
        · exact absurd h' h
        · exact h'
   rw [hs]
   constructor
   · rintro (⟨i,hi,h⟩|h|h)
     · exact .inl ⟨i,List.mem_cons_of_mem _ hi,h⟩
     · exact .inl ⟨x,List.mem_cons_self,h⟩
     · exact .inr h
   · rintro (⟨i,hi,h⟩|h)
     · rcases List.mem_cons.1 hi with rfl|hi
       · exact .inr (.inl h)
       · exact .inl ⟨i,hi,h⟩
     · exact .inr (.inr h)
theorem refIdsE_eq {bs:List Bound} (hb:∀ b∈bs,0≤b.by_) {l:List Int} (hl:∀ i∈l,0≤i∧i<bs.length):refIdsE bs l=idsAt bs l:=by
 refine asc_eq (foldW_asc bs l List.Pairwise.nil) (idsE_asc _) fun z=> ?_
 unfold refIdsE idsAt
 rw [foldW_mem,idsE_mem]
 have hn:∀ i∈l,bs[i.toNat]? = some (bnd bs i):=fun i hi=>by
  have:=hl i hi
  unfold bnd
  rw [List.getD_eq_getElem?_getD,List.getElem?_eq_getElem (by omega)];rfl
 constructor
 · rintro (⟨i,hi,h1,h2⟩|h)
   · refine ⟨by omega,List.mem_map.2 ⟨bnd bs i,?_,h1⟩⟩
     unfold pickB
     exact List.mem_filterMap.2 ⟨i,hi,hn i hi⟩
   · cases h
 · rintro ⟨h0,h1⟩
   obtain ⟨b,hb1,hb2⟩:=List.mem_map.1 h1
   unfold pickB at hb1
   obtain ⟨i,hi,hib⟩:=List.mem_filterMap.1 hb1
   have e:bnd bs i=b:=Option.some.inj ((hn i hi).symm.trans hib)
   have hmem:=hb b (List.mem_of_getElem? hib)
   exact .inl ⟨i,hi,by rw [e];exact hb2,by omega⟩
end Go.Proofs.YtccabpahfmoamaaGreat
end
section
namespace Go.Proofs.YtccabpahfmoamaaGreat
open Go.RowKit Go.Proofs Go.Shelf
theorem slice_hi (W:World) (LA:Option Addr) (n c k:Nat) (h:k≤c):(Instr.sliceAt 29 (.slice LA n c) none (some (.int .i64 (k:Int))) none).run Tryz.prog W = .ok (sliced LA 0 k c 1) W:=by
 obtain ⟨i,z,hi,hz0,hz1,hz2,hz3⟩:=elInt.info
 have hu:Tryz.prog.underlying 29=some (.slice (Tryz.prog.elem 29)):=by kernel_rfl
 have he:Tryz.prog.elem 29=3:=by kernel_rfl
 rw [run_sliceAt_slice _ _ _ _ _ _ hu,run_slice_h _ _ _ _ _ hu .i64 (k:Int) (by omega) (by omega),he]
 simp [sizeOf,typeInfo,hi,hz1,Result.andThen]
theorem slice_lo (W:World) (LA:Option Addr) (n c k:Nat) (h:k≤n):(Instr.sliceAt 29 (.slice LA n c) (some (.int .i64 (k:Int))) none none).run Tryz.prog W = .ok (sliced LA k n c 1) W:=by
 obtain ⟨i,z,hi,hz0,hz1,hz2,hz3⟩:=elInt.info
 have hu:Tryz.prog.underlying 29=some (.slice (Tryz.prog.elem 29)):=by kernel_rfl
 have he:Tryz.prog.elem 29=3:=by kernel_rfl
 rw [run_sliceAt_slice _ _ _ _ _ _ hu,run_slice_l _ _ _ _ _ hu .i64 (k:Int) (by omega) (by omega),he]
 simp [sizeOf,typeInfo,hi,hz1,Result.andThen]
def WtiX (w0:World) (n at_:Nat) (xs:List Int) (x:Int) (V:Nat→Value) (L:Nat→Bool) (W:World):Prop:=
 Below w0.heap.size w0 W∧
 (L 0=true→L 4=false→∃ g,V 0 = .slice (some ⟨g,0,none⟩) 0 0∧w0.heap.size≤g∧W.heap[g]? = some (.cells #[] 3 (0,0)))∧
 (L 4=true→L 7=false→∃ A' c',V 4 = .slice A' at_ c'∧Own encInt 1 3 w0.heap.size W A' at_ c' (xs.take at_))∧
 (L 6=true→L 7=false→∃ g,V 6 = .slice (some ⟨g,0,none⟩) 1 1∧Rd encInt 1 W (some ⟨g,0,none⟩) 1 1 [x])∧
 (L 7=true→L 11=false→∃ A' c',V 7 = .slice A' (at_+1) c'∧Own encInt 1 3 w0.heap.size W A' (at_+1) c' (xs.take at_ ++ [x]))∧
 (L 11=true→∃ A' c',V 11 = .slice A' (at_+1+(n-at_)) c'∧Own encInt 1 3 w0.heap.size W A' (at_+1+(n-at_)) c' (xs.take at_ ++ [x]++xs.drop at_))∧
 (L 12=true→V 12=V 11)
theorem no_yes {b:Bool} {p:Prop} (h:b=false) (h2:b=true):p:=by rw [h] at h2;cases h2
section
variable {w0:World} {n at_:Nat} {xs:List Int} {x:Int} {V:Nat→Value} {L:Nat→Bool} {W:World}
theorem WtiX.pure {listed:Array Bool} {i:Nat} {v:Value} (h:WtiX w0 n at_ xs x V (fun j=>listed.getD j false) W) (h0:i≠0) (h4:i≠4) (h6:i≠6) (h7:i≠7) (h11:i≠11) (h12:i≠12):WtiX w0 n at_ xs x (nextV V i v) (nextL listed i) W:=by
 unfold WtiX
 rw [nextL_ne (Ne.symm h0),nextL_ne (Ne.symm h4),nextL_ne (Ne.symm h6),nextL_ne (Ne.symm h7),nextL_ne (Ne.symm h11),nextL_ne (Ne.symm h12),nextV_ne (Ne.symm h0),nextV_ne (Ne.symm h4),nextV_ne (Ne.symm h6),nextV_ne (Ne.symm h7),nextV_ne (Ne.symm h11),nextV_ne (Ne.symm h12)]
 exact h
theorem WtiX.below {W':World} (h:WtiX w0 n at_ xs x V L W) (hb:Below W.heap.size W W'):WtiX w0 n at_ xs x V L W':=by
 obtain ⟨h1,h2,h3,h4,h5,h6,h7⟩:=h
 refine ⟨h1.trans (hb.mono h1.size),fun e0 e3=> ?_,fun e3 e6=> ?_,fun e5 e6=> ?_,fun e6 e8=> ?_,fun e=> ?_,h7⟩
 · obtain ⟨g,q1,q2,q3⟩:=h2 e0 e3
   exact ⟨g,q1,q2,(hb.block g (Array.getElem?_eq_some_iff.1 q3).1).trans q3⟩
 · obtain ⟨A',c',q1,q2⟩:=h3 e3 e6
   exact ⟨A',c',q1,q2.below hb (Nat.le_refl _)⟩
 · obtain ⟨g,q1,q2⟩:=h4 e5 e6
   exact ⟨g,q1,q2.below hb (Nat.le_refl _)⟩
 · obtain ⟨A',c',q1,q2⟩:=h5 e6 e8
   exact ⟨A',c',q1,q2.below hb (Nat.le_refl _)⟩
 · obtain ⟨A',c',q1,q2⟩:=h6 e
   exact ⟨A',c',q1,q2.below hb (Nat.le_refl _)⟩
end
def factWti (LA:Option Addr) (n c at_:Nat) (x:Int) (LH LB:Option Addr):Nat→Value→Prop
 | 1,v=>v = .slice LA n c
 | 2,v=>v = .int .i64 at_
 | 3,v=>v = .slice LH at_ c
 | 5,v=>v = .int .i64 x
 | 8,v=>v = .slice LA n c
 | 9,v=>v = .int .i64 at_
 | 10,v=>v = .slice LB (n-at_) (c-at_)
 | _,_=>True
def codeWti6:Option Code→Code
 | some (.seq _ (.seq _ (.seq _ (.seq _ (.seq c _)))))=>c
 | _=> .skip
set_option maxRecDepth 100000 in
set_option maxHeartbeats 4000000 in
theorem wti6 (cC:Code) (hc:cC=codeWti6 Tryz.f126.body) (LA:Option Addr) (n c at_:Nat) (xs:List Int) (x:Int) (LH LB:Option Addr) (a:Act) (w:World) (Q:Exit→Act→World→Prop)
 (hT:a.tmps.size=45) (t0:a.tmps.getD 0 undef = .slice LA n c) (t1:a.tmps.getD 1 undef = .int .i64 x) (t5:a.tmps.getD 5 undef = .int .i64 at_)
 (hat:at_≤n) (hnc:n≤c) (hn:n≤1000000) (hLH:sliced LA 0 at_ c 1 = .slice LH at_ c) (hLB:sliced LA at_ n c 1 = .slice LB (n-at_) (c-at_))
 (hR1:∀ W,Below w.heap.size w W→Rd encInt 1 W LH at_ c (xs.take at_)) (hR2:∀ W,Below w.heap.size w W→Rd encInt 1 W LB (n-at_) (c-at_) (xs.drop at_))
 (hQ:∀ W A' c' z0 z4 z6 z7,Below w.heap.size w W→Own encInt 1 3 w.heap.size W A' (at_+1+(n-at_)) c' (xs.take at_ ++ [x]++xs.drop at_)→Q .normal { tmps:=(((((((((((((a.tmps.setIfInBounds 33 (z0)).setIfInBounds 34 (.slice LA n c)).setIfInBounds 35 (.int .i64 at_)).setIfInBounds 36 (.slice LH at_ c)).setIfInBounds 37 (z4)).setIfInBounds 38 (.int .i64 x)).setIfInBounds 39 (z6)).setIfInBounds 40 (z7)).setIfInBounds 41 (.slice LA n c)).setIfInBounds 42 (.int .i64 at_)).setIfInBounds 43 (.slice LB (n-at_) (c-at_))).setIfInBounds 44 (.slice A' (at_+1+(n-at_)) c')).setIfInBounds 4 (.slice A' (at_+1+(n-at_)) c')),defers:=a.defers } W):
 cC.wp Tryz.prog Q a w:=by
 subst hc
 unfold codeWti6 Tryz.f126
 dsimp only
 refine wpIn_wide.1 (wpIn_region_factsW (nn:=5) 45 (by kernel_rfl) (by kernel_rfl) hT.symm (factWti LA n c at_ x LH LB) (WtiX w n at_ xs x) (fun V=>⟨(Below.refl _ w).drew,fun h=>(by cases h),fun h=>(by cases h),fun h=>(by cases h),fun h=>(by cases h),fun h=>(by cases h),fun h=>(by cases h)⟩) ?_ ?_)
 · intro V listed i o b W hi ho h
   obtain ⟨hun,oi,hoi,hall⟩:=mem_ready.1 hi
   have:oi=o:=Option.some.inj (hoi.symm.trans ho)
   subst this
   clear hoi hi
   have hlt:i<13:=(by have:=(Array.getElem?_eq_some_iff.1 ho).1;simpa using this)
   have hun':listed.getD i false=false:=getD_both hun
   rcases (by omega:i=0∨i=1∨i=2∨i=3∨i=4∨i=5∨i=6∨i=7∨i=8∨i=9∨i=10∨i=11∨i=12) with rfl|rfl|rfl|rfl|rfl|rfl|rfl|rfl|rfl|rfl|rfl|rfl|rfl
   all_goals simp only [List.getElem?_toArray,List.getElem?_cons_zero,List.getElem?_cons_succ] at ho
   all_goals cases ho
   ·
    have n4:listed.getD 4 false=false:=not_listed (h.tab.closed 4 _ rfl) ⟨0,.data⟩ (by simp) rfl hun'
    have n7:listed.getD 7 false=false:=not_listed (h.tab.closed 7 _ rfl) ⟨4,.data⟩ (by simp) rfl n4
    have n11:listed.getD 11 false=false:=not_listed (h.tab.closed 11 _ rfl) ⟨7,.data⟩ (by simp) rfl n7
    have n12:listed.getD 12 false=false:=not_listed (h.tab.closed 12 _ rfl) ⟨11,.data⟩ (by simp) rfl n11
    refine wide_val (W':=W.alloc (.cells #[] 3)) (v:=.slice (some ⟨W.heap.size,0,none⟩) 0 0) (by go_simp) ⟨_,rfl,trivial,?_⟩
    obtain ⟨x1,x2,x3,x4,x5,x6,x7⟩:=h.x.below ((Below.refl _ W).alloc (Nat.le_refl _) (.cells #[] 3))
    unfold WtiX
    rw [nextL_at,nextL_ne (show 4≠0 by decide),nextL_ne (show 7≠0 by decide),nextL_ne (show 6≠0 by decide),nextL_ne (show 11≠0 by decide),nextL_ne (show 12≠0 by decide),nextV_at,nextV_ne (show 4≠0 by decide),nextV_ne (show 6≠0 by decide),nextV_ne (show 7≠0 by decide),nextV_ne (show 11≠0 by decide),nextV_ne (show 12≠0 by decide)]
    exact ⟨x1,fun _ _=>⟨W.heap.size,rfl,h.x.1.size,heap_alloc_new W _⟩,x3,x4,x5,x6,x7⟩
   ·
    have q0:=(h.tab.old 0 (dst_no h.tab (by kernel_rfl))).trans t0
    have q0':b.tmps[0]?.getD undef=_:=(by simpa using q0)
    refine wide_val (v:=.slice LA n c) (by go_simp;try rfl) ⟨_,rfl,rfl,h.x.pure (by decide) (by decide) (by decide) (by decide) (by decide) (by decide)⟩
   ·
    have q5:=(h.tab.old 5 (dst_no h.tab (by kernel_rfl))).trans t5
    have q5':b.tmps[5]?.getD undef=_:=(by simpa using q5)
    refine wide_val (v:=.int .i64 at_) (by go_simp;try rfl) ⟨_,rfl,rfl,h.x.pure (by decide) (by decide) (by decide) (by decide) (by decide) (by decide)⟩
   ·
    have l1:=hall ⟨1,.data⟩ (by simp) rfl
    have e1:b.tmps.getD 34 undef = .slice LA n c:=(h.tab.val 1 34 rfl l1).trans (h.fact 1 l1)
    have e1':b.tmps[34]?.getD undef = .slice LA n c:=(by simpa using e1)
    have l2:=hall ⟨2,.data⟩ (by simp) rfl
    have e2:b.tmps.getD 35 undef = .int .i64 at_:=(h.tab.val 2 35 rfl l2).trans (h.fact 2 l2)
    have e2':b.tmps[35]?.getD undef = .int .i64 at_:=(by simpa using e2)
    have f1:b.eval (.tmp 34) = .slice LA n c:=(by simp only [Act.eval];exact e1)
    have f2:b.eval (.tmp 35) = .int .i64 at_:=(by simp only [Act.eval];exact e2)
    refine wide_val (v:=.slice LH at_ c) (by simp only [execOp,Option.map_some,Option.map_none,Sem.run_bind,f1,f2,slice_hi W LA n c at_ (Nat.le_trans hat hnc),hLH];rfl) ⟨_,rfl,rfl,h.x.pure (by decide) (by decide) (by decide) (by decide) (by decide) (by decide)⟩
   ·
    have l0:=hall ⟨0,.data⟩ (by simp) rfl
    have l3:=hall ⟨3,.data⟩ (by simp) rfl
    have e3:b.tmps.getD 36 undef = .slice LH at_ c:=(h.tab.val 3 36 rfl l3).trans (h.fact 3 l3)
    have e3':b.tmps[36]?.getD undef = .slice LH at_ c:=(by simpa using e3)
    have n7:listed.getD 7 false=false:=not_listed (h.tab.closed 7 _ rfl) ⟨4,.data⟩ (by simp) rfl hun'
    have n11:listed.getD 11 false=false:=not_listed (h.tab.closed 11 _ rfl) ⟨7,.data⟩ (by simp) rfl n7
    have n12:listed.getD 12 false=false:=not_listed (h.tab.closed 12 _ rfl) ⟨11,.data⟩ (by simp) rfl n11
    obtain ⟨g,a0,hg0,h0⟩:=h.x.2.1 l0 hun'
    have e0:b.tmps.getD 33 undef = .slice (some ⟨g,0,none⟩) 0 0:=(h.tab.val 0 33 rfl l0).trans a0
    have f0:b.eval (.tmp 33) = .slice (some ⟨g,0,none⟩) 0 0:=(by simp only [Act.eval];exact e0)
    have f3:b.eval (.tmp 36) = .slice LH at_ c:=(by simp only [Act.eval];exact e3)
    obtain ⟨A',c',wc,hrun,hO,hbl⟩:=run_append_fresh elInt 29 (fun _=>rfl) oneInt h0 hg0 LH (xs.take at_) (hR1 W h.x.1) (by omega) (by omega)
    refine wide_val (W':=wc) (v:=.slice A' at_ c') (by simp only [execOp,resolve,invoke,builtin,Sem.run_bind,Sem.run_pure,Result.andThen_ok,List.map_toArray,List.map_cons,List.map_nil,f0,f3,hrun]) ⟨_,rfl,trivial,?_⟩
    obtain ⟨x1,x2,x3,x4,x5,x6,x7⟩:=h.x.below hbl
    unfold WtiX
    rw [nextL_ne (show 0≠4 by decide),nextL_at,nextL_ne (show 7≠4 by decide),nextL_ne (show 6≠4 by decide),nextL_ne (show 11≠4 by decide),nextL_ne (show 12≠4 by decide),nextV_ne (show 0≠4 by decide),nextV_at,nextV_ne (show 6≠4 by decide),nextV_ne (show 7≠4 by decide),nextV_ne (show 11≠4 by decide),nextV_ne (show 12≠4 by decide)]
    exact ⟨x1,fun _ e=>(by cases e),fun _ _=>⟨A',c',rfl,hO⟩,x4,x5,x6,x7⟩
   ·
    have q1:=(h.tab.old 1 (dst_no h.tab (by kernel_rfl))).trans t1
    have q1':b.tmps[1]?.getD undef=_:=(by simpa using q1)
    refine wide_val (v:=.int .i64 x) (by go_simp;try rfl) ⟨_,rfl,rfl,h.x.pure (by decide) (by decide) (by decide) (by decide) (by decide) (by decide)⟩
   ·
    have l5:=hall ⟨5,.data⟩ (by simp) rfl
    have e5:b.tmps.getD 38 undef = .int .i64 x:=(h.tab.val 5 38 rfl l5).trans (h.fact 5 l5)
    have e5':b.tmps[38]?.getD undef = .int .i64 x:=(by simpa using e5)
    have n7:listed.getD 7 false=false:=not_listed (h.tab.closed 7 _ rfl) ⟨6,.data⟩ (by simp) rfl hun'
    have n11:listed.getD 11 false=false:=not_listed (h.tab.closed 11 _ rfl) ⟨7,.data⟩ (by simp) rfl n7
    have n12:listed.getD 12 false=false:=not_listed (h.tab.closed 12 _ rfl) ⟨11,.data⟩ (by simp) rfl n11
    refine wide_val (W':=W.alloc (.cells #[.int .i64 x] 3)) (v:=.slice (some ⟨W.heap.size,0,none⟩) 1 1) (by go_simp) ⟨_,rfl,trivial,?_⟩
    obtain ⟨x1,x2,x3,x4,x5,x6,x7⟩:=h.x.below ((Below.refl _ W).alloc (Nat.le_refl _) (.cells #[.int .i64 x] 3))
    unfold WtiX
    rw [nextL_ne (show 0≠6 by decide),nextL_ne (show 4≠6 by decide),nextL_ne (show 7≠6 by decide),nextL_at,nextL_ne (show 11≠6 by decide),nextL_ne (show 12≠6 by decide),nextV_ne (show 0≠6 by decide),nextV_ne (show 4≠6 by decide),nextV_at,nextV_ne (show 7≠6 by decide),nextV_ne (show 11≠6 by decide),nextV_ne (show 12≠6 by decide)]
    exact ⟨x1,x2,x3,fun _ _=>⟨W.heap.size,rfl,Rd.single (enc:=encInt) (k:=1) W #[.int .i64 x] 3 [x] 1 rfl (by omega) (fun _=>rfl) (by simp [encInt])⟩,x5,x6,x7⟩
   ·
    have l4:=hall ⟨4,.data⟩ (by simp) rfl
    have l6:=hall ⟨6,.data⟩ (by simp) rfl
    have n11:listed.getD 11 false=false:=not_listed (h.tab.closed 11 _ rfl) ⟨7,.data⟩ (by simp) rfl hun'
    have n12:listed.getD 12 false=false:=not_listed (h.tab.closed 12 _ rfl) ⟨11,.data⟩ (by simp) rfl n11
    obtain ⟨A1,c1,a4,hO⟩:=h.x.2.2.1 l4 hun'
    obtain ⟨g,a6,hrd⟩:=h.x.2.2.2.1 l6 hun'
    have e4:b.tmps.getD 37 undef = .slice A1 at_ c1:=(h.tab.val 4 37 rfl l4).trans a4
    have f4:b.eval (.tmp 37) = .slice A1 at_ c1:=(by simp only [Act.eval];exact e4)
    have e6:b.tmps.getD 39 undef = .slice (some ⟨g,0,none⟩) 1 1:=(h.tab.val 6 39 rfl l6).trans a6
    have f6:b.eval (.tmp 39) = .slice (some ⟨g,0,none⟩) 1 1:=(by simp only [Act.eval];exact e6)
    obtain ⟨A',c',wc,hrun,hO2,hg,_⟩:=run_append_src elInt 29 (fun _=>rfl) oneInt hO (some ⟨g,0,none⟩) 1 1 [x] hrd (by omega) (by omega) h.x.1.size
    refine wide_val (W':=wc) (v:=.slice A' (at_+1) c') (by simp only [execOp,resolve,invoke,builtin,Sem.run_bind,Sem.run_pure,Result.andThen_ok,List.map_toArray,List.map_cons,List.map_nil,f4,f6,hrun]) ⟨_,rfl,trivial,?_⟩
    have hb:=h.x.1.grown hg h.x.1.size (fun j e=>hO.ltB j e)
    unfold WtiX
    rw [nextL_ne (show 0≠7 by decide),nextL_ne (show 4≠7 by decide),nextL_at,nextL_ne (show 6≠7 by decide),nextL_ne (show 11≠7 by decide),nextL_ne (show 12≠7 by decide),nextV_ne (show 0≠7 by decide),nextV_ne (show 4≠7 by decide),nextV_ne (show 6≠7 by decide),nextV_at,nextV_ne (show 11≠7 by decide),nextV_ne (show 12≠7 by decide)]
    exact ⟨hb,fun _ e=>no_yes e l4,fun _ e=>(by cases e),fun _ e=>(by cases e),fun _ _=>⟨A',c',rfl,hO2⟩,fun e=>no_yes n11 e,fun e=>no_yes n12 e⟩
   ·
    have q0:=(h.tab.old 0 (dst_no h.tab (by kernel_rfl))).trans t0
    have q0':b.tmps[0]?.getD undef=_:=(by simpa using q0)
    refine wide_val (v:=.slice LA n c) (by go_simp;try rfl) ⟨_,rfl,rfl,h.x.pure (by decide) (by decide) (by decide) (by decide) (by decide) (by decide)⟩
   ·
    have q5:=(h.tab.old 5 (dst_no h.tab (by kernel_rfl))).trans t5
    have q5':b.tmps[5]?.getD undef=_:=(by simpa using q5)
    refine wide_val (v:=.int .i64 at_) (by go_simp;try rfl) ⟨_,rfl,rfl,h.x.pure (by decide) (by decide) (by decide) (by decide) (by decide) (by decide)⟩
   ·
    have l8:=hall ⟨8,.data⟩ (by simp) rfl
    have e8:b.tmps.getD 41 undef = .slice LA n c:=(h.tab.val 8 41 rfl l8).trans (h.fact 8 l8)
    have e8':b.tmps[41]?.getD undef = .slice LA n c:=(by simpa using e8)
    have l9:=hall ⟨9,.data⟩ (by simp) rfl
    have e9:b.tmps.getD 42 undef = .int .i64 at_:=(h.tab.val 9 42 rfl l9).trans (h.fact 9 l9)
    have e9':b.tmps[42]?.getD undef = .int .i64 at_:=(by simpa using e9)
    have f8:b.eval (.tmp 41) = .slice LA n c:=(by simp only [Act.eval];exact e8)
    have f9:b.eval (.tmp 42) = .int .i64 at_:=(by simp only [Act.eval];exact e9)
    refine wide_val (v:=.slice LB (n-at_) (c-at_)) (by simp only [execOp,Option.map_some,Option.map_none,Sem.run_bind,f8,f9,slice_lo W LA n c at_ hat,hLB];rfl) ⟨_,rfl,rfl,h.x.pure (by decide) (by decide) (by decide) (by decide) (by decide) (by decide)⟩
   ·
    have l7:=hall ⟨7,.data⟩ (by simp) rfl
    have l10:=hall ⟨10,.data⟩ (by simp) rfl
    have e10:b.tmps.getD 43 undef = .slice LB (n-at_) (c-at_):=(h.tab.val 10 43 rfl l10).trans (h.fact 10 l10)
    have e10':b.tmps[43]?.getD undef = .slice LB (n-at_) (c-at_):=(by simpa using e10)
    have n12:listed.getD 12 false=false:=not_listed (h.tab.closed 12 _ rfl) ⟨11,.data⟩ (by simp) rfl hun'
    have l4:=h.tab.closed 7 _ rfl l7 ⟨4,.data⟩ (by simp) rfl
    obtain ⟨A1,c1,a7,hO⟩:=h.x.2.2.2.2.1 l7 hun'
    have e7:b.tmps.getD 40 undef = .slice A1 (at_+1) c1:=(h.tab.val 7 40 rfl l7).trans a7
    have f7:b.eval (.tmp 40) = .slice A1 (at_+1) c1:=(by simp only [Act.eval];exact e7)
    have f10:b.eval (.tmp 43) = .slice LB (n-at_) (c-at_):=(by simp only [Act.eval];exact e10)
    obtain ⟨A',c',wc,hrun,hO2,hg,_⟩:=run_append_src elInt 29 (fun _=>rfl) oneInt hO LB (n-at_) (c-at_) (xs.drop at_) (hR2 W h.x.1) (by omega) (by omega) h.x.1.size
    refine wide_val (W':=wc) (v:=.slice A' (at_+1+(n-at_)) c') (by simp only [execOp,resolve,invoke,builtin,Sem.run_bind,Sem.run_pure,Result.andThen_ok,List.map_toArray,List.map_cons,List.map_nil,f7,f10,hrun]) ⟨_,rfl,trivial,?_⟩
    have hb:=h.x.1.grown hg h.x.1.size (fun j e=>hO.ltB j e)
    unfold WtiX
    rw [nextL_ne (show 0≠11 by decide),nextL_ne (show 4≠11 by decide),nextL_ne (show 7≠11 by decide),nextL_ne (show 6≠11 by decide),nextL_at,nextL_ne (show 12≠11 by decide),nextV_ne (show 0≠11 by decide),nextV_ne (show 4≠11 by decide),nextV_ne (show 6≠11 by decide),nextV_ne (show 7≠11 by decide),nextV_at,nextV_ne (show 12≠11 by decide)]
    exact ⟨hb,fun _ e=>no_yes e l4,fun _ e=>no_yes e l7,fun _ e=>no_yes e l7,fun _ e=>(by cases e),fun _=>⟨A',c',rfl,hO2⟩,fun e=>no_yes n12 e⟩
   ·
    have l11:=hall ⟨11,.data⟩ (by simp) rfl
    have e11:b.tmps.getD 44 undef=V 11:=h.tab.val 11 44 rfl l11
    have f11:b.eval (.tmp 44)=V 11:=(by simp only [Act.eval];exact e11)
    obtain ⟨x1,x2,x3,x4,x5,x6,x7⟩:=h.x
    refine wide_val (v:=V 11) (by simp only [execOp,f11];rfl) ⟨_,rfl,trivial,?_⟩
    unfold WtiX
    rw [nextL_ne (show 0≠12 by decide),nextL_ne (show 4≠12 by decide),nextL_ne (show 7≠12 by decide),nextL_ne (show 6≠12 by decide),nextL_ne (show 11≠12 by decide),nextL_at,nextV_ne (show 0≠12 by decide),nextV_ne (show 4≠12 by decide),nextV_ne (show 6≠12 by decide),nextV_ne (show 7≠12 by decide),nextV_ne (show 11≠12 by decide),nextV_at]
    exact ⟨x1,x2,x3,x4,x5,x6,fun _=>rfl⟩
 · intro V W hf hx
   obtain ⟨hb,_,_,_,_,h11,h12⟩:=hx
   obtain ⟨A',c',v11,hO⟩:=h11 rfl
   have:=hQ W A' c' (V 0) (V 4) (V 6) (V 7) hb hO
   have v12:V 12 = .slice A' (at_+1+(n-at_)) c':=(h12 rfl).trans v11
   have v1:V 1=_:=hf 1 (by decide)
   have v2:V 2=_:=hf 2 (by decide)
   have v3:V 3=_:=hf 3 (by decide)
   have v5:V 5=_:=hf 5 (by decide)
   have v8:V 8=_:=hf 8 (by decide)
   have v9:V 9=_:=hf 9 (by decide)
   have v10:V 10=_:=hf 10 (by decide)
   simp only [List.size_toArray,List.length_cons,List.length_nil,Nat.reduceAdd,framed,dstOf,List.getElem?_toArray,List.getElem?_cons_zero,List.getElem?_cons_succ,Option.bind_some,v1,v2,v3,v5,v8,v9,v10,v11,v12]
   exact this
theorem add_none (b off k:Nat):(⟨b,off,none⟩:Addr).add k=⟨b,off+k,none⟩:=by simp [Addr.add]
theorem sliced_rd {LA:Option Addr} {n c k:Nat} {xs:List Int} {w:World} (h:Rd encInt 1 w LA n c xs) (hk:k≤n):∃ LH LB,sliced LA 0 k c 1 = .slice LH k c∧sliced LA k n c 1 = .slice LB (n-k) (c-k)∧∀ W,Rd encInt 1 W LA n c xs→Rd encInt 1 W LH k c (xs.take k)∧Rd encInt 1 W LB (n-k) (c-k) (xs.drop k):=by
 have hc:n≤c:=h.cap.1
 refine ⟨_,_,rfl,rfl,fun W hW=>⟨?_,?_⟩⟩
 · have h1:(if c=0 then LA else LA.map (·.add (0 * 1)))=LA:=by
    split
    · rfl
    · cases LA with
      | none=>rfl
      | some ad=>rcases Nat.eq_zero_or_pos n with h0|h0
                 · simp [Addr.add]
                 · obtain ⟨b,off,e,_⟩:=hW.at_ h0
                   cases e
                   simp [Addr.add]
   rw [h1]
   exact hW.take hk ⟨by omega,Nat.le_refl _⟩
 · by_cases hkn:k<n
   · refine hW.drop hk fun _=> ?_
     rw [if_neg (by omega)]
   · obtain rfl:k=n:=by omega
     exact hW.drop hk fun h=>absurd h (by omega)
set_option maxRecDepth 100000 in
set_option maxHeartbeats 4000000 in
theorem r1with_any (LA:Option Addr) (n c:Nat) (xs:List Int) (x:Int) (w:World) (hx:Rd encInt 1 w LA n c xs) (hn:n≤1000000):
 Calls Tryz.prog 126 #[.slice LA n c,.int .i64 x] w fun e w'=> ∃ A' c',e = .returned (.slice A' (insI x xs).length c')∧Rd encInt 1 w' A' (insI x xs).length c' (insI x xs)∧Below w.heap.size w w':=by
 have hlx:=hx.len
 have HX:=Lib.hid hx
 have HLX:=Lib.hid hlx
 have HC:=Lib.hid hx.cap
 have HAT:=Lib.hid (fun j=>atW_of (l:=xs) (v:=x) (j:=j))
 have HIN:=Lib.hid (insI_at x xs)
 clear hx hlx
 go_enter Tryz.func126,Tryz.ntmps126
 go_wp2
 go_loopw [5] (fun s5 wr=> ∃ k:Nat,k≤n∧s5 = .int .i64 k∧Hid (Below w.heap.size w wr)∧Hid (∀ (i:Nat) (y:Int),i<k→xs[i]? = some y→y<x)) (fun s5 _=>n-(intOf s5).toNat)
 case atStart=>exact ⟨0,Nat.zero_le _,rfl,(show Below _ _ _ from Below.refl _ _),(show ∀ (j:Nat) (y:Int),_ from fun j y h=>by omega)⟩
 case round=>
  obtain ⟨k,hk,rfl,hbr,hall⟩:=hrel
  have hkc:k≤1000000:=(by omega)
  obtain ⟨LH,LB,hLH,hLB,hRR⟩:=sliced_rd (HX.out.below hbr.out (Nat.le_refl _)) hk
  have HLH:=Lib.hid hLH
  have HLB:=Lib.hid hLB
  have HRR:=Lib.hid hRR
  clear hLH hLB hRR
  by_cases hlt:k<n
  · obtain ⟨b,off,y,rfl,hbw,hyk,hcy⟩:=(HX.out.below hbr.out (Nat.le_refl _)).one hlt
    have g1:wr.cell? ⟨b,off+k,none⟩=some (.int .i64 y):=(by have:=hcy 0 _ rfl;simpa using this)
    have HYK:=Lib.hid hyk
    clear hcy hyk
    by_cases h1:y<x
    · have d1:decide (y<x)=true:=decide_eq_true h1
      go_wp2
      go_roundw
      case rel=>exact ⟨k+1,by omega,by go_num,(show Below _ _ _ from hbr.out),(show ∀ (j:Nat) (z:Int),_ from fun j z hj hz=>by
       by_cases e:j=k
       · subst e
         rw [HYK.out] at hz
         cases hz
         exact h1
       · exact hall.out j z (by omega) hz)⟩
      case measure=>simp [intOf];omega
    · have d1:decide (y<x)=false:=decide_eq_false h1
      have hat:=HAT.out k hall.out (by rw [HLX.out];exact hk) (.inr ⟨y,HYK.out,by omega⟩)
      have hin:=HIN.out
      rw [hat,HYK.out] at hin
      by_cases h2:y=x
      · subst h2
        rw [if_pos rfl] at hin
        have HI:=Lib.hid hin
        have d2:(y==y)=true:=(by simp)
        clear hin hat
        go_wp2
        go_ret
        exact ⟨some ⟨b,off,none⟩,c,by rw [HI.out,HLX.out];rfl,by rw [HI.out,HLX.out];exact HX.out.below hbr.out (Nat.le_refl _),hbr.out⟩
      · rw [if_neg (fun e=>h2 (Option.some.inj e))] at hin
        have HI:=Lib.hid hin
        have d2:(y==x)=false:=(by simpa using h2)
        clear hin hat
        go_upto_region 6 with (fail)
        refine wti6 _ rfl (some ⟨b,off,none⟩) n c k xs x LH LB _ wr _ rfl rfl rfl rfl (by omega) HC.out.1 hn HLH.out HLB.out (fun W hW=>(HRR.out W (HX.out.below (hbr.out.trans (hW.mono hbr.out.size)) (Nat.le_refl _))).1) (fun W hW=>(HRR.out W (HX.out.below (hbr.out.trans (hW.mono hbr.out.size)) (Nat.le_refl _))).2) ?_
        intro W A' c' z0 z4 z6 z7 hb hO
        have HB:=Lib.hid (hbr.out.trans (hb.mono hbr.out.size))
        have HO:=Lib.hid hO
        clear hb hO
        simp only [List.setIfInBounds_toArray,List.set_cons_succ,List.set_cons_zero]
        go_wp2
        go_ret
        have hlen:(insI x xs).length=k+1+(n-k):=(by have:=HO.out.len;rw [HI.out,←this];simp)
        exact ⟨A',c',by rw [hlen];rfl,by rw [hlen,HI.out];have:=HO.out.rd (fun _=>rfl) (by omega);simpa using this,HB.out⟩
  · obtain rfl:k=n:=(by omega)
    have hat:=HAT.out k hall.out (by rw [HLX.out];exact Nat.le_refl _) (.inl HLX.out.symm)
    have hin:=HIN.out
    rw [hat,if_neg (by rw [List.getElem?_eq_none (by rw [HLX.out];exact Nat.le_refl _)];intro e;cases e)] at hin
    have HI:=Lib.hid hin
    clear hin hat
    go_upto_region 6 with (fail)
    refine wti6 _ rfl LA k c k xs x LH LB _ wr _ rfl rfl rfl rfl (by omega) HC.out.1 hn HLH.out HLB.out (fun W hW=>(HRR.out W (HX.out.below (hbr.out.trans (hW.mono hbr.out.size)) (Nat.le_refl _))).1) (fun W hW=>(HRR.out W (HX.out.below (hbr.out.trans (hW.mono hbr.out.size)) (Nat.le_refl _))).2) ?_
    intro W A' c' z0 z4 z6 z7 hb hO
    have HB:=Lib.hid (hbr.out.trans (hb.mono hbr.out.size))
    have HO:=Lib.hid hO
    clear hb hO
    simp only [List.setIfInBounds_toArray,List.set_cons_succ,List.set_cons_zero]
    go_wp2
    go_ret
    have hlen:(insI x xs).length=k+1+(k-k):=(by have:=HO.out.len;rw [HI.out,←this];simp)
    exact ⟨A',c',by rw [hlen];rfl,by rw [hlen,HI.out];have:=HO.out.rd (fun _=>rfl) (by omega);simpa using this,HB.out⟩
end Go.Proofs.YtccabpahfmoamaaGreat
end
section
namespace Go.Proofs.YtccabpahfmoamaaGreat
open Go.RowKit Go.Proofs Go.Shelf
theorem foldW_len (bs:List Bound):∀ (l acc:List Int),(l.foldl (stepW bs) acc).length≤acc.length+l.length
 | [],acc=>by simp
 | x::xs,acc=>by
   have h:=foldW_len bs xs (stepW bs acc x)
   have h2:(stepW bs acc x).length≤acc.length+1:=by
    unfold stepW
    split
    · exact insI_len acc
    · omega
   rw [List.foldl_cons,List.length_cons]
   omega
theorem refIdsE_len (bs:List Bound) (l:List Int):(refIdsE bs l).length≤l.length:=by
 have:=foldW_len bs l []
 simpa [refIdsE] using this
set_option maxRecDepth 100000 in
set_option maxHeartbeats 4000000 in
theorem r1Ids_any (pts:Int) (A:Option Addr) (n c:Nat) (bs:List Bound) (L:Option Addr) (m lc:Nat) (l:List Int) (w:World) (hl:Rd encBound 4 w A n c bs) (hL:Rd encInt 1 w L m lc l) (hk:checkSys pts bs=0) (hix:∀ i∈l,0≤i∧i<bs.length) (hm:m≤100000):
 Calls Tryz.prog 76 #[.agg #[.int .i64 pts,.slice A n c],.slice L m lc] w fun e w'=> ∃ A' c',e = .returned (.tuple #[.slice A' (idsAt bs l).length c',.int .i64 0])∧Below w.heap.size w w'∧Rd encInt 1 w' A' (idsAt bs l).length c' (idsAt bs l):=by
 obtain ⟨s1,s2,s3,s4⟩:=checkSys_zero.1 hk
 have heq:=refIdsE_eq (bs:=bs) (fun b hb=>by
  obtain ⟨_,_,_,_,_,_,_,q8,_⟩:=wrongB_no.1 (s4 b hb)
  omega) hix
 rw [←heq]
 clear heq
 obtain ⟨w1,hw1,b1,z1,e1⟩:=alloc_facts w #[.int .i64 pts,.slice A n c] 73
 have HCE:Hid (∀ W,Below w1.heap.size w1 W→W.cell? ⟨w.heap.size,0,none⟩=some (.int .i64 pts)∧W.cell? ⟨w.heap.size,1,none⟩=some (.slice A n c)):=(show ∀ W,_→_ from fun W h=>by
  have hh:=(h.block w.heap.size (by omega)).trans e1
  simp [World.cell?,hh])
 have RB:Hid (∀ W,Below w1.heap.size w1 W→Rd encBound 4 W A n c bs):=(show ∀ W,_→_ from fun W h=>(hl.below b1 (Nat.le_refl _)).below h (Nat.le_refl _))
 have RL:Hid (∀ W,Below w1.heap.size w1 W→Rd encInt 1 W L m lc l):=(show ∀ W,_→_ from fun W h=>(hL.below b1 (Nat.le_refl _)).below h (Nat.le_refl _))
 have K1:Hid (∀ W,Below w1.heap.size w1 W→Calls Tryz.prog 91 #[.agg #[.int .i64 pts,.slice A n c]] W fun e w'=>e = .returned (.int .i64 (checkSys pts bs))∧Below W.heap.size W w'):=(show ∀ W,_→_ from fun W h=>r1Check_any pts A n c bs W (RB.out W h))
 rw [hk] at K1
 have HLL:=Lib.hid hL.len
 have HBL:=Lib.hid hl.len
 have HLE:=Lib.hid (refIdsE_len bs)
 have HIX:Hid (∀ (k:Nat) (v:Int),l[k]? = some v→0≤v∧v<bs.length):=(show ∀ (k:Nat) (v:Int),_→_ from fun k v h=>hix v (List.mem_of_getElem? h))
 have HB1:=Lib.hid b1
 have HW1:=Lib.hid hw1
 have ZW:Hid (w1.heap.size=w.heap.size+1):=(show _=_ from z1)
 obtain ⟨x0,x1⟩:=HCE.out w1 (Below.refl _ _)
 clear hl hL b1 z1 hw1 e1 hk hix s1 s2 s3 s4
 go_enter Tryz.func76,Tryz.ntmps76
 go_wp2_with (first
  | rw [HW1.out]
  | (go_at_call 91;(with_reducible refine (K1.out _ (Below.refl _ _)).mono ?_);rintro e w2 ⟨rfl,hb2⟩;have HB2:=Lib.hid hb2;clear hb2))
 clear x0 x1
 go_loopw [7,8] (fun s7 s8 wr=> ∃ (k:Nat) (O:Option Addr) (on oc:Nat),k≤m∧s8 = .int .i64 k∧s7 = .slice O on oc∧Hid (Below w2.heap.size w2 wr)∧Hid (Rd encInt 1 wr O on oc (refIdsE bs (l.take k)))) (fun _ s8 _=>m-(intOf s8).toNat)
 case atStart=>exact ⟨0,none,0,0,Nat.zero_le _,rfl,rfl,(show Below _ _ _ from Below.refl _ _),(show Rd _ _ _ _ _ _ _ from Rd.none_ _ _ (by omega))⟩
 case round=>
  obtain ⟨k,O,on,oc,hk,rfl,rfl,hbr,hO⟩:=hrel
  have hb2r:=HB2.out.trans (hbr.out.mono HB2.out.size)
  obtain ⟨y0,y1⟩:=HCE.out wr hb2r
  have hzr:w.heap.size<wr.heap.size:=(by have:=hb2r.size;have:=ZW.out;omega)
  have HB2R:=Lib.hid hb2r
  clear hb2r
  by_cases hlt:k<m
  · obtain ⟨bq,off,v,rfl,hbq,hv,hcv⟩:=(RL.out wr HB2R.out).one hlt
    have g1:wr.cell? ⟨bq,off+k,none⟩=some (.int .i64 v):=(by have:=hcv 0 _ rfl;simpa using this)
    obtain ⟨i0,i1⟩:=HIX.out k v hv
    have HV:=Lib.hid hv
    obtain ⟨i,rfl⟩:∃ i:Nat,v=i:=⟨v.toNat,by omega⟩
    have hin:i<n:=(by have:=HBL.out;omega)
    obtain ⟨bb,ob,x,rfl,hbb,hx,hcx⟩:=(RB.out wr HB2R.out).one hin
    have c3:wr.cell? ⟨bb,ob+i * 4+3,none⟩=some (.int .i64 x.by_):=hcx 3 _ rfl
    have hbx:bnd bs (i:Int)=x:=(by unfold bnd;rw [Int.toNat_natCast,List.getD_eq_getElem?_getD,hx];rfl)
    have hstep:=refIdsE_succ (bs:=bs) HV.out
    unfold stepW at hstep
    rw [hbx] at hstep
    have hlen:=HLE.out (l.take k)
    rw [List.length_take] at hlen
    have hon:=hO.out.len
    have hon2:on≤1000000:=(by omega)
    have d0:decide ((i:Int)<0)=false:=decide_eq_false (by omega)
    have d1:decide ((i:Int)≥(n:Int))=false:=decide_eq_false (by omega)
    clear hcv hcx hx hv i0 i1 hlen hon hbx
    by_cases hby:x.by_>0
    · rw [if_pos hby] at hstep
      have HS:=Lib.hid hstep
      have KW:=Lib.hid (fun W (h:Below wr.heap.size wr W)=>r1with_any O on oc _ x.by_ W (hO.out.below h (Nat.le_refl _)) hon2)
      have d2:decide (x.by_>0)=true:=decide_eq_true hby
      clear hstep
      go_upto_region 11 with (go_quiet (fail))
      go_region_with (go_at_call 126;(with_reducible refine (KW.out _ (by first|exact Below.refl _ _|exact (Below.refl _ _).drew|exact below_drewN' (Below.refl _ _) _|exact (below_drewN' (Below.refl _ _) _).drew|exact below_drewN' (below_drewN' (Below.refl _ _) _) _|exact (below_drewN' (below_drewN' (Below.refl _ _) _) _).drew)).mono ?_);rintro e w4 ⟨O4,c4,rfl,hR4,hb4⟩;have HR4:=Lib.hid hR4;have HB4:=Lib.hid ((show Below wr.heap.size wr _ from by first|exact Below.refl _ _|exact (Below.refl _ _).drew|exact below_drewN' (Below.refl _ _) _|exact (below_drewN' (Below.refl _ _) _).drew|exact below_drewN' (below_drewN' (Below.refl _ _) _) _|exact (below_drewN' (below_drewN' (Below.refl _ _) _) _).drew).trans hb4);clear hR4 hb4)
      all_goals go_wp2
      all_goals (try go_roundw)
      all_goals first
       | (simp [intOf];omega)
       | exact ⟨k+1,O4,_,c4,by omega,by go_num,rfl,(show Below _ _ _ from hbr.out.trans (HB4.out.mono hbr.out.size)),(show Rd _ _ _ _ _ _ _ from by rw [HS.out];exact HR4.out)⟩
       | exact ⟨⟨k+1,O4,_,c4,by omega,by go_num,rfl,(show Below _ _ _ from hbr.out.trans (HB4.out.mono hbr.out.size)),(show Rd _ _ _ _ _ _ _ from by rw [HS.out];exact HR4.out)⟩,by simp [intOf];omega⟩
    · rw [if_neg hby] at hstep
      have HS:=Lib.hid hstep
      have d2:decide (x.by_>0)=false:=decide_eq_false hby
      clear hstep
      go_wp2_with (go_quiet (fail))
      go_roundw
      case rel=>exact ⟨k+1,O,on,oc,by omega,by go_num,rfl,(show Below _ _ _ from by first|exact hbr.out|exact hbr.out.drew|exact below_drewN' hbr.out _|exact below_drewN' (below_drewN' hbr.out _) _),(show Rd _ _ _ _ _ _ _ from by rw [HS.out];first|exact hO.out|exact hO.out.below (below_drewN' (Below.refl _ _) _) (Nat.le_refl _)|exact hO.out.below (below_drewN' (below_drewN' (Below.refl _ _) _) _) (Nat.le_refl _))⟩
      case measure=>simp [intOf];omega
  · obtain rfl:k=m:=(by omega)
    have hO':=hO.out
    rw [List.take_of_length_le (by rw [HLL.out];exact Nat.le_refl _)] at hO'
    have hon:=hO'.len
    subst hon
    go_wp2
    go_ret2
    exact ⟨O,oc,rfl,HB1.out.trans (HB2R.out.mono HB1.out.size),hO'⟩
end Go.Proofs.YtccabpahfmoamaaGreat
end
section
namespace Go.Proofs.YtccabpahfmoamaaGreat
open Go.RowKit Go.Proofs Go.Shelf
theorem r3joint_one (A:Outl) (AwA:Option Addr) (Awn Awc:Nat) (AtA:Option Addr) (Atn Atc:Nat) (B:Outl) (BwA:Option Addr) (Bwn Bwc:Nat) (BtA:Option Addr) (Btn Btc:Nat) (p:Pairing) (tn:Bool) (w:World) (Aw:Rd encBound 4 w AwA Awn Awc A.ways) (At:Rd encBound 4 w AtA Atn Atc A.turns) (Bw:Rd encBound 4 w BwA Bwn Bwc B.ways) (Bt:Rd encBound 4 w BtA Btn Btc B.turns) (h:AskOk A B p):
 Calls Tryz.prog 74 #[.agg #[.int .i64 A.n,.slice AwA Awn Awc,.slice AtA Atn Atc],.agg #[.int .i64 B.n,.slice BwA Bwn Bwc,.slice BtA Btn Btc],.agg #[.int .i64 p.a.lo,.int .i64 p.a.hi,.int .i64 p.b.lo,.int .i64 p.b.hi],.bool tn] w fun e w'=> ∃ v,e = .returned v∧Below w.heap.size w w'∧OneSys (clashN A B p tn) (clashL A B p tn) v w':=by
 have l1:=Aw.len;have l2:=At.len;have l3:=Bw.len;have l4:=Bt.len
 have r1:=h.r1;have r2:=h.r2
 cases tn
 · refine (r3joint_false A AwA Awn Awc AtA Atn Atc B BwA Bwn Bwc BtA Btn Btc p w Aw At Bw Bt h.toPairOk).mono ?_
   rintro e w' ⟨A',c',rfl,hb,ho⟩
   exact ⟨_,rfl,hb,A',_,c',rfl,ho.rd (fun _=>rfl) (by omega)⟩
 · refine (r3joint_true A AwA Awn Awc AtA Atn Atc B BwA Bwn Bwc BtA Btn Btc p w Aw At Bw Bt h.toPairOk).mono ?_
   rintro e w' ⟨A',c',rfl,hb,ho⟩
   exact ⟨_,rfl,hb,A',_,c',rfl,ho.rd (fun _=>rfl) (by omega)⟩
set_option maxRecDepth 100000 in
set_option maxHeartbeats 4000000 in
theorem r3CheckClash_any (A:Outl) (AwA:Option Addr) (Awn Awc:Nat) (AtA:Option Addr) (Atn Atc:Nat) (B:Outl) (BwA:Option Addr) (Bwn Bwc:Nat) (BtA:Option Addr) (Btn Btc:Nat) (p:Pairing) (tn:Bool) (L:Option Addr) (m lc:Nat) (l:List Int) (w:World) (Aw:Rd encBound 4 w AwA Awn Awc A.ways) (At:Rd encBound 4 w AtA Atn Atc A.turns) (Bw:Rd encBound 4 w BwA Bwn Bwc B.ways) (Bt:Rd encBound 4 w BtA Btn Btc B.turns) (hL:Rd encInt 1 w L m lc l) (hm:m≤1000000):
 Calls Tryz.prog 21 #[.agg #[.int .i64 A.n,.slice AwA Awn Awc,.slice AtA Atn Atc],.agg #[.int .i64 B.n,.slice BwA Bwn Bwc,.slice BtA Btn Btc],.agg #[.int .i64 p.a.lo,.int .i64 p.a.hi,.int .i64 p.b.lo,.int .i64 p.b.hi],.agg #[.bool tn,.slice L m lc]] w fun e w'=>e = .returned (.tuple #[.bool (clashB A B p tn l),.int .i64 (askedErr A B p)])∧Below w.heap.size w w':=by
 obtain ⟨w1,hw1,hb1,hz1,hbx⟩:=boxABP w A AwA Awn Awc AtA Atn Atc B BwA Bwn Bwc BtA Btn Btc p
 obtain ⟨w2,a2,b2,z2,e2⟩:=alloc_facts w1 #[.bool tn,.slice L m lc] 33
 rw [hz1] at e2
 have hb2:=hb1.trans (b2.mono hb1.size)
 have HCE:Hid (∀ W,Below w2.heap.size w2 W→BoxABP w.heap.size A AwA Awn Awc AtA Atn Atc B BwA Bwn Bwc BtA Btn Btc p W∧W.cell? ⟨w.heap.size+1+1+1,0,none⟩=some (.bool tn)∧W.cell? ⟨w.heap.size+1+1+1,1,none⟩=some (.slice L m lc)):=(show ∀ W,_→_ from fun W h=>by
  have q2:=(h.block (w.heap.size+1+1+1) (by omega)).trans e2
  refine ⟨hbx W (b2.trans (h.mono b2.size)),?_⟩
  simp [World.cell?,q2])
 have RA:Hid (∀ W,Below w2.heap.size w2 W→Rd encBound 4 W AwA Awn Awc A.ways∧Rd encBound 4 W AtA Atn Atc A.turns∧Rd encBound 4 W BwA Bwn Bwc B.ways∧Rd encBound 4 W BtA Btn Btc B.turns):=(show ∀ W,_→_ from fun W h=>⟨(Aw.below hb2 (Nat.le_refl _)).below h (Nat.le_refl _),(At.below hb2 (Nat.le_refl _)).below h (Nat.le_refl _),(Bw.below hb2 (Nat.le_refl _)).below h (Nat.le_refl _),(Bt.below hb2 (Nat.le_refl _)).below h (Nat.le_refl _)⟩)
 have RL:Hid (∀ W,Below w2.heap.size w2 W→Rd encInt 1 W L m lc l):=(show ∀ W,_→_ from fun W h=>(hL.below hb2 (Nat.le_refl _)).below h (Nat.le_refl _))
 have K1:=Lib.hid (fun W (h:Below w2.heap.size w2 W)=>r3Asked_any A AwA Awn Awc AtA Atn Atc B BwA Bwn Bwc BtA Btn Btc p W (RA.out W h).1 (RA.out W h).2.1 (RA.out W h).2.2.1 (RA.out W h).2.2.2)
 have HB2:=Lib.hid hb2
 have HW1:=Lib.hid hw1
 have HW2:=Lib.hid a2
 obtain ⟨⟨xa0,xa1,xa2,xb0,xb1,xb2,xp0,xp1,xp2,xp3⟩,y0,y1⟩:=HCE.out w2 (Below.refl _ _)
 clear Aw At Bw Bt hL hb1 hbx hw1 a2 b2 z2 e2 hb2
 by_cases h1:askedErr A B p=0
 case neg=>
  have hv:clashB A B p tn l=false:=by unfold clashB;rw [decide_eq_false h1,Bool.false_and]
  rw [hv]
  have h1':(askedErr A B p != 0)=true:=by simpa using h1
  clear h1 hv
  generalize askedErr A B p=er at *
  go_enter Tryz.func21,Tryz.ntmps21
  go_wp2_with (first
   | rw [HW1.out]
   | rw [HW2.out]
   | (go_at_call 67;(with_reducible refine (K1.out _ (Below.refl _ _)).mono ?_);rintro e w3 ⟨rfl,hb3⟩;have HB3:=Lib.hid hb3;obtain ⟨⟨xa0,xa1,xa2,xb0,xb1,xb2,xp0,xp1,xp2,xp3⟩,y0,y1⟩:=HCE.out w3 hb3;clear hb3))
  go_ret2
  exact ⟨rfl,HB2.out.trans (HB3.out.mono HB2.out.size)⟩
 case pos=>
  have hok:=askedErr_zero.1 h1
  have hv:clashB A B p tn l=circleB (clashL A B p tn) l:=by unfold clashB;rw [decide_eq_true h1,Bool.true_and]
  rw [hv]
  have C2:Hid (∀ W,Below w2.heap.size w2 W→Calls Tryz.prog 74 #[.agg #[.int .i64 A.n,.slice AwA Awn Awc,.slice AtA Atn Atc],.agg #[.int .i64 B.n,.slice BwA Bwn Bwc,.slice BtA Btn Btc],.agg #[.int .i64 p.a.lo,.int .i64 p.a.hi,.int .i64 p.b.lo,.int .i64 p.b.hi],.bool tn] W fun e w'=> ∃ v,e = .returned v∧Below W.heap.size W w'∧OneSys (clashN A B p tn) (clashL A B p tn) v w'):=(show ∀ W,_→_ from fun W h=>r3joint_one A AwA Awn Awc AtA Atn Atc B BwA Bwn Bwc BtA Btn Btc p tn W (RA.out W h).1 (RA.out W h).2.1 (RA.out W h).2.2.1 (RA.out W h).2.2.2 hok)
  have C3:Hid (∀ W v,Below w2.heap.size w2 W→OneSys (clashN A B p tn) (clashL A B p tn) v W→Calls Tryz.prog 73 #[v,.slice L m lc] W fun e w'=> ∃ a b,e = .returned (.tuple #[a,b])∧Below W.heap.size W w'∧(a = .bool (circleB (clashL A B p tn) l)∧b = .int .i64 0)):=(show ∀ W v,_→_→_ from by
   rintro W v h ⟨A',k,c',rfl,hr⟩
   have hs:=clash_sys hok tn
   refine (r1CheckCircle_any _ A' k c' _ L m lc l W hr (RL.out W h) hm).mono ?_
   unfold r1cV
   rw [hs,decide_eq_true rfl,Bool.true_and]
   rintro e w' ⟨rfl,hb⟩
   exact ⟨_,_,rfl,hb,rfl,rfl⟩)
  rw [h1] at K1 ⊢
  clear h1 hv hok
  go_enter Tryz.func21,Tryz.ntmps21
  go_upto_region 4 with (first
   | rw [HW1.out]
   | rw [HW2.out]
   | (go_at_call 67;(with_reducible refine (K1.out _ (Below.refl _ _)).mono ?_);rintro e w3 ⟨rfl,hb3⟩;have HB3:=Lib.hid hb3;obtain ⟨⟨xa0,xa1,xa2,xb0,xb1,xb2,xp0,xp1,xp2,xp3⟩,y0,y1⟩:=HCE.out w3 hb3;clear hb3))
  refine r3cls4 _ rfl w.heap.size (w.heap.size+1) (w.heap.size+1+1) (w.heap.size+1+1+1) A.n B.n p.a.lo p.a.hi p.b.lo p.b.hi (.slice AwA Awn Awc) (.slice AtA Atn Atc) (.slice BwA Bwn Bwc) (.slice BtA Btn Btc) (.bool tn) (.slice L m lc) _ w3 _ rfl rfl rfl rfl rfl (OneSys (clashN A B p tn) (clashL A B p tn)) (fun a b _=>a = .bool (circleB (clashL A B p tn) l)∧b = .int .i64 0) (fun W hW=> ?_) (fun W hW=>C2.out W (HB3.out.trans (hW.mono HB3.out.size))) (fun W v hW hv=>C3.out W v (HB3.out.trans (hW.mono HB3.out.size)) hv) ?_
  · obtain ⟨⟨xa0,xa1,xa2,xb0,xb1,xb2,xp0,xp1,xp2,xp3⟩,y0,y1⟩:=HCE.out W (HB3.out.trans (hW.mono HB3.out.size))
    exact ⟨xa0,xa1,xa2,xb0,xb1,xb2,xp0,xp1,xp2,xp3,y0,y1⟩
  rintro v _ _ w5 hb5 ⟨rfl,rfl⟩
  have HB5:=Lib.hid (HB2.out.trans ((HB3.out.trans (hb5.mono HB3.out.size)).mono HB2.out.size))
  clear hb5
  simp only [setsL,List.setIfInBounds_toArray,List.set_cons_succ,List.set_cons_zero,Nat.reduceAdd]
  go_wp2
  go_ret2
  exact ⟨rfl,HB5.out⟩
set_option maxRecDepth 100000 in
set_option maxHeartbeats 4000000 in
theorem r3Rests_any (A:Outl) (AwA:Option Addr) (Awn Awc:Nat) (AtA:Option Addr) (Atn Atc:Nat) (B:Outl) (BwA:Option Addr) (Bwn Bwc:Nat) (BtA:Option Addr) (Btn Btc:Nat) (p:Pairing) (tn:Bool) (L:Option Addr) (m lc:Nat) (l:List Int) (w:World) (Aw:Rd encBound 4 w AwA Awn Awc A.ways) (At:Rd encBound 4 w AtA Atn Atc A.turns) (Bw:Rd encBound 4 w BwA Bwn Bwc B.ways) (Bt:Rd encBound 4 w BtA Btn Btc B.turns) (hL:Rd encInt 1 w L m lc l) (hm:m≤100000):
 Calls Tryz.prog 23 #[.agg #[.int .i64 A.n,.slice AwA Awn Awc,.slice AtA Atn Atc],.agg #[.int .i64 B.n,.slice BwA Bwn Bwc,.slice BtA Btn Btc],.agg #[.int .i64 p.a.lo,.int .i64 p.a.hi,.int .i64 p.b.lo,.int .i64 p.b.hi],.agg #[.bool tn,.slice L m lc]] w fun e w'=> ∃ A' c',e = .returned (.tuple #[.slice A' (restsV A B p tn l).length c',.int .i64 (restsErr A B p tn l)])∧Below w.heap.size w w'∧Rd encInt 1 w' A' (restsV A B p tn l).length c' (restsV A B p tn l):=by
 obtain ⟨w1,hw1,hb1,hz1,hbx⟩:=boxABP w A AwA Awn Awc AtA Atn Atc B BwA Bwn Bwc BtA Btn Btc p
 obtain ⟨w2,a2,b2,z2,e2⟩:=alloc_facts w1 #[.bool tn,.slice L m lc] 33
 rw [hz1] at e2
 have hb2:=hb1.trans (b2.mono hb1.size)
 have HCE:Hid (∀ W,Below w2.heap.size w2 W→BoxABP w.heap.size A AwA Awn Awc AtA Atn Atc B BwA Bwn Bwc BtA Btn Btc p W∧W.cell? ⟨w.heap.size+1+1+1,0,none⟩=some (.bool tn)∧W.cell? ⟨w.heap.size+1+1+1,1,none⟩=some (.slice L m lc)):=(show ∀ W,_→_ from fun W h=>by
  have q2:=(h.block (w.heap.size+1+1+1) (by omega)).trans e2
  refine ⟨hbx W (b2.trans (h.mono b2.size)),?_⟩
  simp [World.cell?,q2])
 have RA:Hid (∀ W,Below w2.heap.size w2 W→Rd encBound 4 W AwA Awn Awc A.ways∧Rd encBound 4 W AtA Atn Atc A.turns∧Rd encBound 4 W BwA Bwn Bwc B.ways∧Rd encBound 4 W BtA Btn Btc B.turns):=(show ∀ W,_→_ from fun W h=>⟨(Aw.below hb2 (Nat.le_refl _)).below h (Nat.le_refl _),(At.below hb2 (Nat.le_refl _)).below h (Nat.le_refl _),(Bw.below hb2 (Nat.le_refl _)).below h (Nat.le_refl _),(Bt.below hb2 (Nat.le_refl _)).below h (Nat.le_refl _)⟩)
 have RL:Hid (∀ W,Below w2.heap.size w2 W→Rd encInt 1 W L m lc l):=(show ∀ W,_→_ from fun W h=>(hL.below hb2 (Nat.le_refl _)).below h (Nat.le_refl _))
 have K1:=Lib.hid (fun W (h:Below w2.heap.size w2 W)=>r3CheckClash_any A AwA Awn Awc AtA Atn Atc B BwA Bwn Bwc BtA Btn Btc p tn L m lc l W (RA.out W h).1 (RA.out W h).2.1 (RA.out W h).2.2.1 (RA.out W h).2.2.2 (RL.out W h) (by omega))
 have HB2:=Lib.hid hb2
 have HW1:=Lib.hid hw1
 have HW2:=Lib.hid a2
 obtain ⟨⟨xa0,xa1,xa2,xb0,xb1,xb2,xp0,xp1,xp2,xp3⟩,y0,y1⟩:=HCE.out w2 (Below.refl _ _)
 clear Aw At Bw Bt hL hb1 hbx hw1 a2 b2 z2 e2 hb2
 by_cases h1:askedErr A B p=0
 case neg=>
  have hv:restsErr A B p tn l=askedErr A B p:=by unfold restsErr;rw [if_pos h1]
  have hr:restsV A B p tn l = []:=by unfold restsV;rw [hv,if_neg h1]
  rw [hr,hv]
  have h1':(askedErr A B p != 0)=true:=by simpa using h1
  clear h1 hv hr
  generalize askedErr A B p=er at *
  generalize clashB A B p tn l=cb at *
  go_enter Tryz.func23,Tryz.ntmps23
  go_wp2_with (first
   | rw [HW1.out]
   | rw [HW2.out]
   | (go_at_call 21;(with_reducible refine (K1.out _ (Below.refl _ _)).mono ?_);rintro e w3 ⟨rfl,hb3⟩;have HB3:=Lib.hid hb3;obtain ⟨⟨xa0,xa1,xa2,xb0,xb1,xb2,xp0,xp1,xp2,xp3⟩,y0,y1⟩:=HCE.out w3 hb3;clear hb3))
  go_ret2
  exact ⟨none,0,rfl,HB2.out.trans (HB3.out.mono HB2.out.size),Rd.none_ _ _ (by omega)⟩
 case pos=>
 have hok:=askedErr_zero.1 h1
 by_cases h2:clashB A B p tn l=true
 case neg=>
  have hcf:clashB A B p tn l=false:=by simpa using h2
  have hv:restsErr A B p tn l=1:=by unfold restsErr;rw [if_neg (by simpa using h1),if_neg h2]
  have hr:restsV A B p tn l = []:=by unfold restsV;rw [hv];rfl
  rw [hr,hv]
  rw [hcf,h1] at K1
  clear h1 h2 hcf hv hr hok
  go_enter Tryz.func23,Tryz.ntmps23
  go_wp2_with (first
   | rw [HW1.out]
   | rw [HW2.out]
   | (go_at_call 21;(with_reducible refine (K1.out _ (Below.refl _ _)).mono ?_);rintro e w3 ⟨rfl,hb3⟩;have HB3:=Lib.hid hb3;obtain ⟨⟨xa0,xa1,xa2,xb0,xb1,xb2,xp0,xp1,xp2,xp3⟩,y0,y1⟩:=HCE.out w3 hb3;clear hb3))
  go_ret2
  exact ⟨none,0,rfl,HB2.out.trans (HB3.out.mono HB2.out.size),Rd.none_ _ _ (by omega)⟩
 case pos=>
  have hv:restsErr A B p tn l=0:=by unfold restsErr;rw [if_neg (by simpa using h1),if_pos h2]
  have hr:restsV A B p tn l=idsAt (clashL A B p tn) l:=by unfold restsV;rw [if_pos hv]
  have hcb:circleB (clashL A B p tn) l=true:=by unfold clashB at h2;simpa [h1] using h2
  have hrg:=circleB_rng hcb
  rw [hr,hv]
  have C2:Hid (∀ W,Below w2.heap.size w2 W→Calls Tryz.prog 74 #[.agg #[.int .i64 A.n,.slice AwA Awn Awc,.slice AtA Atn Atc],.agg #[.int .i64 B.n,.slice BwA Bwn Bwc,.slice BtA Btn Btc],.agg #[.int .i64 p.a.lo,.int .i64 p.a.hi,.int .i64 p.b.lo,.int .i64 p.b.hi],.bool tn] W fun e w'=> ∃ v,e = .returned v∧Below W.heap.size W w'∧OneSys (clashN A B p tn) (clashL A B p tn) v w'):=(show ∀ W,_→_ from fun W h=>r3joint_one A AwA Awn Awc AtA Atn Atc B BwA Bwn Bwc BtA Btn Btc p tn W (RA.out W h).1 (RA.out W h).2.1 (RA.out W h).2.2.1 (RA.out W h).2.2.2 hok)
  have C3:Hid (∀ W v,Below w2.heap.size w2 W→OneSys (clashN A B p tn) (clashL A B p tn) v W→Calls Tryz.prog 76 #[v,.slice L m lc] W fun e w'=> ∃ a b,e = .returned (.tuple #[a,b])∧Below W.heap.size W w'∧(b = .int .i64 0∧∃ A' c',a = .slice A' (idsAt (clashL A B p tn) l).length c'∧Rd encInt 1 w' A' (idsAt (clashL A B p tn) l).length c' (idsAt (clashL A B p tn) l))):=(show ∀ W v,_→_→_ from by
   rintro W v h ⟨A',k,c',rfl,hr⟩
   refine (r1Ids_any _ A' k c' _ L m lc l W hr (RL.out W h) (clash_sys hok tn) hrg hm).mono ?_
   rintro e w' ⟨A2,c2,rfl,hb,ho⟩
   exact ⟨_,_,rfl,hb,rfl,A2,c2,rfl,ho⟩)
  rw [h2,h1] at K1
  generalize idsAt (clashL A B p tn) l=R at *
  clear h1 h2 hv hr hcb hrg hok
  go_enter Tryz.func23,Tryz.ntmps23
  go_upto_region 6 with (first
   | rw [HW1.out]
   | rw [HW2.out]
   | (go_at_call 21;(with_reducible refine (K1.out _ (Below.refl _ _)).mono ?_);rintro e w3 ⟨rfl,hb3⟩;have HB3:=Lib.hid hb3;obtain ⟨⟨xa0,xa1,xa2,xb0,xb1,xb2,xp0,xp1,xp2,xp3⟩,y0,y1⟩:=HCE.out w3 hb3;clear hb3))
  refine r3rst6 _ rfl w.heap.size (w.heap.size+1) (w.heap.size+1+1) (w.heap.size+1+1+1) A.n B.n p.a.lo p.a.hi p.b.lo p.b.hi (.slice AwA Awn Awc) (.slice AtA Atn Atc) (.slice BwA Bwn Bwc) (.slice BtA Btn Btc) (.bool tn) (.slice L m lc) _ w3 _ rfl rfl rfl rfl rfl (OneSys (clashN A B p tn) (clashL A B p tn)) (fun a b W=>b = .int .i64 0∧∃ A' c',a = .slice A' R.length c'∧Rd encInt 1 W A' R.length c' R) (fun W hW=> ?_) (fun W hW=>C2.out W (HB3.out.trans (hW.mono HB3.out.size))) (fun W v hW hv=>C3.out W v (HB3.out.trans (hW.mono HB3.out.size)) hv) ?_
  · obtain ⟨⟨xa0,xa1,xa2,xb0,xb1,xb2,xp0,xp1,xp2,xp3⟩,y0,y1⟩:=HCE.out W (HB3.out.trans (hW.mono HB3.out.size))
    exact ⟨xa0,xa1,xa2,xb0,xb1,xb2,xp0,xp1,xp2,xp3,y0,y1⟩
  rintro v _ _ w5 hb5 ⟨rfl,A',c',rfl,ho5⟩
  have HB5:=Lib.hid (HB2.out.trans ((HB3.out.trans (hb5.mono HB3.out.size)).mono HB2.out.size))
  have HO5:=Lib.hid ho5
  clear hb5 ho5
  simp only [setsL,List.setIfInBounds_toArray,List.set_cons_succ,List.set_cons_zero,Nat.reduceAdd]
  go_wp2
  go_ret2
  exact ⟨A',c',rfl,HB5.out,HO5.out⟩
end Go.Proofs.YtccabpahfmoamaaGreat
end

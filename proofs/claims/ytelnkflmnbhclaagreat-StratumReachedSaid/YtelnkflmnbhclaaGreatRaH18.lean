/- Contracts that the laws lean on: Cat, SpnR, Spn, RchR, RchP, RchS, Rch. -/
import Derived.Test.YtelnkflmnbhclaaGreatGroLay
import Derived.Test.YtelnkflmnbhclaaGreatRaH17
set_option maxRecDepth 100000
set_option maxHeartbeats 8000000
section
namespace Go.Proofs.YtelnkflmnbhclaaGreat
open Go.RowKit Go.Proofs Go.Shelf
theorem Grow_nil (n:Nat) (w:World) (hn:n≤1000000):Calls Tryz.prog 181 #[.slice none 0 0,.int .i64 n] w fun e w'=> ∃ A c,e = .returned (.slice A 0 c)∧Below w.heap.size w w'∧Own encPlace 2 37 w.heap.size w' A 0 c []:=by
 by_cases h0:n=0
 · subst h0
   have h:=Any8.slices_Grow_room Tryz.growP none 0 0 0 w (Nat.le_refl _) (by decide) (by decide) (by decide)
   change Calls Tryz.prog 181 _ _ _ at h
   refine h.mono ?_;rintro e w' ⟨rfl,rfl⟩;exact ⟨none,0,rfl,Below.refl _ _,Own.none_ _ _ _ _ _⟩
 · obtain ⟨i0,z,hi,hz,hs,hby,hzc⟩:=elPlace.info
   have h:=Any8.slices_Grow_grow Tryz.growP i0 z hi hz (by omega) none 0 0 n [] w (Nat.le_refl _) (by omega) (by rw [hby];omega) (by omega) (by simp) (fun _=>rfl) (fun a h=>by cases h)
   change Calls Tryz.prog 181 _ _ _ at h
   refine h.mono ?_;rintro e w' ⟨rfl,rfl⟩;rw [show Tryz.growP_ren.t 25=37 from rfl];have hg:=grownCap_ge w (0+n) 0 37;have hm:=grownCap_le_maxLen w (0+n) 0 37 (by unfold maxLen;omega);refine ⟨_,_,rfl,((Below.refl w.heap.size w).drew).alloc (Nat.le_refl _) _,rfl,?_⟩;exact World.ownsRow_made w.drew _ _ (Nat.le_refl _) hm (by simp only [Array.size_append,size_zeroCells,hzc,List.size_toArray,List.length_nil];omega)
theorem Concat_two (A1:Option Addr) (n1 c1:Nat) (xs:List Place) (A2:Option Addr) (n2 c2:Nat) (ys:List Place) (g:Nat) (t:TypeId) (w:World) (hg:w.heap[g]? = some (.cells #[.slice A1 n1 c1,.slice A2 n2 c2] t (0,0))) (h1:Rd encPlace 2 w A1 n1 c1 xs) (h2:Rd encPlace 2 w A2 n2 c2 ys) (hn1:n1≤1000) (hn2:n2≤1000):
 Calls Tryz.prog 126 #[.slice (some ⟨g,0,none⟩) 2 2] w fun e w'=> ∃ A c,e = .returned (.slice A (n1+n2) c)∧Below w.heap.size w w'∧Own encPlace 2 37 w.heap.size w' A (n1+n2) c (xs++ys):=by
 have hgl:=(Array.getElem?_eq_some_iff.1 hg).1
 have HG:Hid (∀ W,Below w.heap.size w W→W.cell? ⟨g,0,none⟩=some (.slice A1 n1 c1)∧W.cell? ⟨g,1,none⟩=some (.slice A2 n2 c2)):=(show ∀ W,_→_ from fun W h=>by
  have hh:=(h.block g hgl).trans hg
  exact ⟨by simp [World.cell?,hh],by simp [World.cell?,hh]⟩)
 have H1:Hid (∀ W,Below w.heap.size w W→Rd encPlace 2 W A1 n1 c1 xs):=(show ∀ W,_→_ from fun W h=>h1.below h (Nat.le_refl _))
 have H2:Hid (∀ W,Below w.heap.size w W→Rd encPlace 2 W A2 n2 c2 ys):=(show ∀ W,_→_ from fun W h=>h2.below h (Nat.le_refl _))
 clear hg h1 h2;obtain ⟨g0,g1⟩:=HG.out w (Below.refl _ _);go_enter Tryz.func126,Tryz.ntmps126;go_wp2;go_loopw [3,5,11] (fun s3 _ s11 wr=> ∃ k:Nat,k≤2∧s11 = .int .i64 k∧s3 = .int .i64 (if k=0 then 0 else if k=1 then (n1:Int) else (n1:Int)+n2)∧Hid (w=wr)) (fun _ _ s11 _=>2-(intOf s11).toNat)
 case atStart=>exact ⟨0,by decide,rfl,rfl,rfl⟩
 case round=>
  obtain ⟨k,hk,rfl,rfl,hw⟩:=hrel;obtain rfl:=hw.out
  rcases (by omega:k=0∨k=1∨k=2) with rfl|rfl|rfl
  · rw [if_pos rfl]
    go_wp2;go_roundw
    all_goals first
     | (simp [intOf];done)
     | exact ⟨1,by decide,rfl,by simp,(show True from trivial)⟩
  · rw [if_neg (by decide),if_pos rfl]
    go_wp2;go_roundw
    all_goals first
     | (simp [intOf];done)
     | exact ⟨2,by decide,rfl,by simp,(show True from trivial)⟩
  · rw [if_neg (by decide),if_neg (by decide)]
    go_wp2_with (first
     | (go_at_call 181;refine (Grow_nil (n1+n2) w (by omega)).mono ?_;rintro e w2 ⟨A,cA,rfl,hb2,hO2⟩;have HB2:=Lib.hid hb2;have HO2:=Lib.hid hO2;clear hb2 hO2))
    go_loopw [6,8,27] (fun s6 _ s27 wr=> ∃ (k:Nat) (A:Option Addr) (cA:Nat) (zs:List Place),k≤2∧s27 = .int .i64 k∧s6 = .slice A zs.length cA∧Hid (zs=if k=0 then [] else if k=1 then xs else xs++ys)∧Hid (Below w.heap.size w wr)∧Hid (Own encPlace 2 37 w.heap.size wr A zs.length cA zs)) (fun _ _ s27 _=>2-(intOf s27).toNat)
    case atStart=>exact ⟨0,A,cA,[],by decide,rfl,rfl,(show _=_ from rfl),HB2,HO2⟩
    case round=>
     obtain ⟨k,A3,c3,zs,hk,rfl,rfl,hzs,hbr,hO⟩:=hrel;rename World=>wr;have hzr:=hbr.out.size;obtain ⟨g0,g1⟩:=HG.out wr hbr.out
     rcases (by omega:k=0∨k=1∨k=2) with rfl|rfl|rfl
     · have h0:zs = []:=hzs.out
       subst h0;have hrd:=Lib.hid (H1.out wr hbr.out);go_wp2_with (at_builtin;refine wpList_append_src elPlace (fun _=>rfl) onePlace rfl _ _ rfl _ _ _ _ rfl rfl hO.out hrd.out (by simp;omega) (by decide) (by omega) ?_;intro A6 c6 w6 hO6 hg6 _;have HO6:=Lib.hid hO6;have HB6:=Lib.hid (hbr.out.grown hg6 (by omega) (fun j e=>hO.out.ltB j e));clear hO6 hg6);go_roundw
       all_goals first
        | (simp [intOf];done)
        | exact ⟨1,A6,c6,[]++xs,by decide,rfl,by simp [(H1.out w (Below.refl _ _)).len],(show _=_ from rfl),HB6,(show Own _ _ _ _ _ _ _ _ _ by rw [List.length_append,(H1.out w (Below.refl _ _)).len];exact HO6.out)⟩
     · have h0:zs=xs:=hzs.out
       subst h0;have hrd:=Lib.hid (H2.out wr hbr.out);have hl1:=(H1.out w (Below.refl _ _)).len;go_wp2_with (at_builtin;refine wpList_append_src elPlace (fun _=>rfl) onePlace rfl _ _ rfl _ _ _ _ rfl rfl hO.out hrd.out (by omega) (by decide) (by omega) ?_;intro A6 c6 w6 hO6 hg6 _;have HO6:=Lib.hid hO6;have HB6:=Lib.hid (hbr.out.grown hg6 (by omega) (fun j e=>hO.out.ltB j e));clear hO6 hg6);go_roundw
       all_goals first
        | (simp [intOf];done)
        | exact ⟨2,A6,c6,zs++ys,by decide,rfl,by rw [List.length_append,(H2.out w (Below.refl _ _)).len,(H1.out w (Below.refl _ _)).len],(show _=_ from rfl),HB6,(show Own _ _ _ _ _ _ _ _ _ by rw [List.length_append,(H2.out w (Below.refl _ _)).len];exact HO6.out)⟩
     · have h0:zs=xs++ys:=hzs.out
       subst h0;have hl:(xs++ys).length=n1+n2:=by rw [List.length_append,(H1.out w (Below.refl _ _)).len,(H2.out w (Below.refl _ _)).len]
       have hO3:=hO.out;rw [hl] at hO3 ⊢;have HO3:=Lib.hid hO3;clear hO hO3 hzs;go_wp2;go_ret;exact ⟨A3,c3,rfl,hbr.out,HO3.out⟩
def SpnCells (y g6 g7:Nat) (pts:Int) (Ab:Option Addr) (nb cb:Nat) (_:Value) (mb:Nat) (p:Place) (o1 o2:Nat) (w:World):Prop:=∀ W,Below w.heap.size w W→W.cell? ⟨y,0,none⟩=some (.int .i64 pts)∧W.cell? ⟨y,1,none⟩=some (.slice Ab nb cb)∧W.cell? ⟨y,3,none⟩=some (.map (some mb))∧W.cell? ⟨g6,0,none⟩=some (.int .i64 p.pit)∧W.cell? ⟨g6,1,none⟩=some (.int .i64 p.layer)∧
 (∃ u,W.cell? ⟨g7,o1,none⟩=some u)∧(∃ u,W.cell? ⟨g7,o2,none⟩=some u)∧W.frozen? ⟨g7,o1,none⟩=false∧W.frozen? ⟨g7,o2,none⟩=false
def SpnI (g7:Nat) (o1 o2:Nat) (v1 v2:Value) (w:World):List Value→World→Prop
 | [],W=>Below w.heap.size w W
 | [_],W=> ∃ W0,Below w.heap.size w W0∧W=W0.setCell ⟨g7,o1,none⟩ v1
 | [_,_],W=> ∃ W0,Below w.heap.size w W0∧W=(W0.setCell ⟨g7,o1,none⟩ v1).setCell ⟨g7,o2,none⟩ v2
 | _,_=>False
def codeSpn8:Option Code→Code
 | some (.seq _ (.seq _ (.seq _ (.seq (.seq _ (.block _ (.loop (.seq _ (.seq _ (.seq (.block _ (.seq _ (.seq _ (.seq _ (.seq c _))))) _)))))) _))))=>c
 | _=> .skip
def Tspn8 (y _ g7:Nat) (pts:Int) (Ab:Option Addr) (nb cb:Nat) (_:Value) (mb:Nat) (p:Place) (v r1:Int) (r2:Bool) (r3:Int) (cv:List Value):List Value:=
 [.pointer (some ⟨y,0,none⟩),.agg #[.int .i64 pts,.slice Ab nb cb],.pointer (some ⟨y,0+3,none⟩),.map (some mb),.agg #[.int .i64 p.pit,.int .i64 p.layer],.int .i64 v,.tuple #[.int .i64 r1,.bool r2,.int .i64 r3],.tuple #[.int .i64 r1,.bool r2,.int .i64 r3],.int .i64 r1,.bool r2,.int .i64 r3,.pointer (some ⟨g7,0,none⟩),cv.getD 0 undef,.pointer (some ⟨g7,0+2,none⟩),cv.getD 1 undef,.int .i64 r3]
theorem spn8 (cC:Code) (hc:cC=codeSpn8 Tryz.f125.body) (y g6 g7:Nat) (pts:Int) (Ab:Option Addr) (nb cb:Nat) (vl:Value) (mb:Nat) (p:Place) (v r1:Int) (r2:Bool) (r3:Int) (a:Act) (w:World) (Q:Exit→Act→World→Prop)
 (hT:a.tmps.size=56) (t3:a.tmps.getD 3 undef = .pointer (some ⟨y,0,none⟩)) (t6:a.tmps.getD 6 undef = .pointer (some ⟨g6,0,none⟩)) (t7:a.tmps.getD 7 undef = .pointer (some ⟨g7,0,none⟩))
 (CE:SpnCells y g6 g7 pts Ab nb cb vl mb p 0 2 w)
 (LK:∀ W,Below w.heap.size w W→(Instr.lookup 118 (.map (some mb)) (.agg #[.int .i64 p.pit,.int .i64 p.layer]) false).run Tryz.prog W = .ok (.int .i64 v) W)
 (C1:∀ W,Below w.heap.size w W→Calls Tryz.prog 180 #[.agg #[.int .i64 pts,.slice Ab nb cb],.int .i64 0,.int .i64 v] W fun e w'=>e = .returned (.tuple #[.int .i64 r1,.bool r2,.int .i64 r3])∧Below W.heap.size W w')
 (hQ:∀ W,Below w.heap.size w W→Q .normal { tmps:=((setsL ((setsL (a.tmps) 23 [.pointer (some ⟨y,0,none⟩),.agg #[.int .i64 pts,.slice Ab nb cb],.pointer (some ⟨y,0+3,none⟩),.map (some mb),.agg #[.int .i64 p.pit,.int .i64 p.layer],.int .i64 v,.tuple #[.int .i64 r1,.bool r2,.int .i64 r3]]).setIfInBounds 22 (.tuple #[.int .i64 r1,.bool r2,.int .i64 r3])) 30 [.int .i64 r1,.bool r2,.int .i64 r3,.pointer (some ⟨g7,0,none⟩)]).setIfInBounds 34 (.pointer (some ⟨g7,0+2,none⟩))).setIfInBounds 8 (.int .i64 r3),defers:=a.defers } ((W.setCell ⟨g7,0,none⟩ (.int .i64 r1)).setCell ⟨g7,2,none⟩ (.bool r2))):
 cC.wp Tryz.prog Q a w:=by
 subst hc;unfold codeSpn8 Tryz.f125;dsimp only;refine wpIn_wide.1 (wpIn_region_chain (nn:=5) 56 (by kernel_rfl) (by kernel_rfl) (by kernel_rfl) hT (fun i cv=>(Tspn8 y g6 g7 pts Ab nb cb vl mb p v r1 r2 r3 cv).getD i undef) (fun i=>([0,0,0,0,0,0,0,0,0,0,0,0,0,0,0,0]:List Nat).getD i 0) (fun i=>([0,0,0,0,0,0,0,0,0,1,2,0,1,1,2,2]:List Nat).getD i 0) [12,14] (by kernel_rfl) (by kernel_rfl) (by kernel_rfl) (by kernel_rfl) (SpnI g7 0 2 (.int .i64 r1) (.bool r2) w) ((Below.refl _ _).drew) (fun b cv hE hold=> ?_) (fun cv W hl hI=> ?_))
 · clear hQ
   have q3:=hold 3 _ (by kernel_rfl) t3;have q6:=hold 6 _ (by kernel_rfl) t6;have q7:=hold 7 _ (by kernel_rfl) t7;simp only [factsL,Vc,idxC,Tspn8,List.getD_cons_zero,List.getD_cons_succ,Nat.reduceAdd,Nat.reduceEqDiff,reduceIte,Option.map_none] at hE
   repeat' first|exact chain_nil|refine chain_op 0 rfl rfl ?_ ?_|refine chain_op 1 rfl rfl ?_ ?_|refine chain_skip rfl rfl rfl rfl ?_|refine chain_quiet rfl rfl ?_ ?_
   all_goals intro hl
   any_goals (
    intro hl2;simp only [List.getD_cons_zero,List.getD_cons_succ,Nat.reduceAdd] at hl hl2
    first
     | (obtain rfl:=List.eq_nil_of_length_eq_zero (Nat.le_zero.1 hl2);intro W hW;have hWb:Below w.heap.size w W:=hW;obtain ⟨c0,c1,c3,p0,p1,_,_,_,_⟩:=CE W hWb;have hlk:=LK W hWb;simp only [Tspn8,List.getD_cons_zero,List.getD_cons_succ,Nat.reduceAdd]
        first
         | (refine .inl ?_;go_simp;done)
         | (refine .inl ?_;go_simp;rfl)
         | (refine .inr (.inr ⟨180,#[.agg #[.int .i64 pts,.slice Ab nb cb],.int .i64 0,.int .i64 v],?_,(C1 W hW).mono ?_⟩)
            · go_simp<;>done
            · rintro e w' ⟨rfl,hb'⟩;exact ⟨rfl,(show Below _ _ _ from (show Below _ _ _ from hW).trans (hb'.mono (show Below _ _ _ from hW).size))⟩))
     | (intro W hW;simp only [Tspn8,List.getD_cons_zero,List.getD_cons_succ,Nat.reduceAdd];refine .inl ?_;go_simp;(try rfl);done)
    done)
   · obtain rfl:=List.eq_nil_of_length_eq_zero hl
     intro W hW;have hWb:Below w.heap.size w W:=hW;obtain ⟨_,_,_,_,_,⟨u,s1⟩,_,f1,_⟩:=CE W hWb;refine .inl ⟨undef,W.setCell ⟨g7,0,none⟩ (.int .i64 r1),.inr ⟨?_,rfl⟩,W,hWb,rfl⟩;go_simp
   · obtain ⟨z,rfl⟩:=len1 hl
     rintro W ⟨W0,hWb,rfl⟩;obtain ⟨_,_,_,_,_,⟨u,s1⟩,⟨u2,s2⟩,f1,f2⟩:=CE W0 hWb;refine .inl ⟨undef,(W0.setCell ⟨g7,0,none⟩ (.int .i64 r1)).setCell ⟨g7,2,none⟩ (.bool r2),.inr ⟨?_,rfl⟩,W0,hWb,rfl⟩;go_simp
 · match cv,hl,hI with
   | [_,_],_,⟨W0,hb,e⟩=>subst e;exact hQ W0 hb
def codeSpn10:Option Code→Code
 | some (.seq _ (.seq _ (.seq _ (.seq (.seq _ (.block _ (.loop (.seq _ (.seq _ (.seq (.block _ (.seq _ (.seq _ (.seq _ (.seq _ (.seq _ (.seq c _))))))) _)))))) _))))=>c
 | _=> .skip
def Tspn10 (y _ g7:Nat) (pts:Int) (Ab:Option Addr) (nb cb:Nat) (_:Value) (mb:Nat) (p:Place) (v r1:Int) (r2:Bool) (r3:Int) (cv:List Value):List Value:=
 [.pointer (some ⟨y,0,none⟩),.agg #[.int .i64 pts,.slice Ab nb cb],.pointer (some ⟨y,0+3,none⟩),.map (some mb),.agg #[.int .i64 p.pit,.int .i64 p.layer],.int .i64 v,.tuple #[.int .i64 r1,.bool r2,.int .i64 r3],.tuple #[.int .i64 r1,.bool r2,.int .i64 r3],.int .i64 r1,.bool r2,.int .i64 r3,.pointer (some ⟨g7,0+1,none⟩),cv.getD 0 undef,.pointer (some ⟨g7,0+3,none⟩),cv.getD 1 undef]
theorem spn10 (cC:Code) (hc:cC=codeSpn10 Tryz.f125.body) (y g6 g7:Nat) (pts:Int) (Ab:Option Addr) (nb cb:Nat) (vl:Value) (mb:Nat) (p:Place) (v r1:Int) (r2:Bool) (r3:Int) (a:Act) (w:World) (Q:Exit→Act→World→Prop)
 (hT:a.tmps.size=56) (t3:a.tmps.getD 3 undef = .pointer (some ⟨y,0,none⟩)) (t6:a.tmps.getD 6 undef = .pointer (some ⟨g6,0,none⟩)) (t7:a.tmps.getD 7 undef = .pointer (some ⟨g7,0,none⟩))
 (CE:SpnCells y g6 g7 pts Ab nb cb vl mb p 1 3 w)
 (LK:∀ W,Below w.heap.size w W→(Instr.lookup 118 (.map (some mb)) (.agg #[.int .i64 p.pit,.int .i64 p.layer]) false).run Tryz.prog W = .ok (.int .i64 v) W)
 (C1:∀ W,Below w.heap.size w W→Calls Tryz.prog 79 #[.agg #[.int .i64 pts,.slice Ab nb cb],.int .i64 0,.int .i64 v] W fun e w'=>e = .returned (.tuple #[.int .i64 r1,.bool r2,.int .i64 r3])∧Below W.heap.size W w')
 (hQ:∀ W,Below w.heap.size w W→Q .normal { tmps:=(setsL ((setsL (a.tmps) 39 [.pointer (some ⟨y,0,none⟩),.agg #[.int .i64 pts,.slice Ab nb cb],.pointer (some ⟨y,0+3,none⟩),.map (some mb),.agg #[.int .i64 p.pit,.int .i64 p.layer],.int .i64 v,.tuple #[.int .i64 r1,.bool r2,.int .i64 r3]]).setIfInBounds 38 (.tuple #[.int .i64 r1,.bool r2,.int .i64 r3])) 46 [.int .i64 r1,.bool r2,.int .i64 r3,.pointer (some ⟨g7,0+1,none⟩)]).setIfInBounds 50 (.pointer (some ⟨g7,0+3,none⟩)),defers:=a.defers } ((W.setCell ⟨g7,1,none⟩ (.int .i64 r1)).setCell ⟨g7,3,none⟩ (.bool r2))):
 cC.wp Tryz.prog Q a w:=by
 subst hc;unfold codeSpn10 Tryz.f125;dsimp only;refine wpIn_wide.1 (wpIn_region_chain (nn:=5) 56 (by kernel_rfl) (by kernel_rfl) (by kernel_rfl) hT (fun i cv=>(Tspn10 y g6 g7 pts Ab nb cb vl mb p v r1 r2 r3 cv).getD i undef) (fun i=>([0,0,0,0,0,0,0,0,0,0,0,0,0,0,0]:List Nat).getD i 0) (fun i=>([0,0,0,0,0,0,0,0,0,1,2,0,1,1,2]:List Nat).getD i 0) [12,14] (by kernel_rfl) (by kernel_rfl) (by kernel_rfl) (by kernel_rfl) (SpnI g7 1 3 (.int .i64 r1) (.bool r2) w) ((Below.refl _ _).drew) (fun b cv hE hold=> ?_) (fun cv W hl hI=> ?_))
 · clear hQ
   have q3:=hold 3 _ (by kernel_rfl) t3;have q6:=hold 6 _ (by kernel_rfl) t6;have q7:=hold 7 _ (by kernel_rfl) t7;simp only [factsL,Vc,idxC,Tspn10,List.getD_cons_zero,List.getD_cons_succ,Nat.reduceAdd,Nat.reduceEqDiff,reduceIte,Option.map_none] at hE
   repeat' first|exact chain_nil|refine chain_op 0 rfl rfl ?_ ?_|refine chain_op 1 rfl rfl ?_ ?_|refine chain_skip rfl rfl rfl rfl ?_|refine chain_quiet rfl rfl ?_ ?_
   all_goals intro hl
   any_goals (
    intro hl2;simp only [List.getD_cons_zero,List.getD_cons_succ,Nat.reduceAdd] at hl hl2
    first
     | (obtain rfl:=List.eq_nil_of_length_eq_zero (Nat.le_zero.1 hl2);intro W hW;have hWb:Below w.heap.size w W:=hW;obtain ⟨c0,c1,c3,p0,p1,_,_,_,_⟩:=CE W hWb;have hlk:=LK W hWb;simp only [Tspn10,List.getD_cons_zero,List.getD_cons_succ,Nat.reduceAdd]
        first
         | (refine .inl ?_;go_simp;done)
         | (refine .inl ?_;go_simp;rfl)
         | (refine .inr (.inr ⟨79,#[.agg #[.int .i64 pts,.slice Ab nb cb],.int .i64 0,.int .i64 v],?_,(C1 W hW).mono ?_⟩)
            · go_simp<;>done
            · rintro e w' ⟨rfl,hb'⟩;exact ⟨rfl,(show Below _ _ _ from (show Below _ _ _ from hW).trans (hb'.mono (show Below _ _ _ from hW).size))⟩))
     | (intro W hW;simp only [Tspn10,List.getD_cons_zero,List.getD_cons_succ,Nat.reduceAdd];refine .inl ?_;go_simp;(try rfl);done)
    done)
   · obtain rfl:=List.eq_nil_of_length_eq_zero hl
     intro W hW;have hWb:Below w.heap.size w W:=hW;obtain ⟨_,_,_,_,_,⟨u,s1⟩,_,f1,_⟩:=CE W hWb;refine .inl ⟨undef,W.setCell ⟨g7,1,none⟩ (.int .i64 r1),.inr ⟨?_,rfl⟩,W,hWb,rfl⟩;go_simp
   · obtain ⟨z,rfl⟩:=len1 hl
     rintro W ⟨W0,hWb,rfl⟩;obtain ⟨_,_,_,_,_,⟨u,s1⟩,⟨u2,s2⟩,f1,f2⟩:=CE W0 hWb;refine .inl ⟨undef,(W0.setCell ⟨g7,1,none⟩ (.int .i64 r1)).setCell ⟨g7,3,none⟩ (.bool r2),.inr ⟨?_,rfl⟩,W0,hWb,rfl⟩;go_simp
 · match cv,hl,hI with
   | [_,_],_,⟨W0,hb,e⟩=>subst e;exact hQ W0 hb
theorem greatest_low {pts:Int} {bs:List Bound} {a b:Int} (hok:SysOk pts bs) (hs:solvedOk pts bs=true) (a1:0≤a) (a2:a<pts) (_:0≤b) (b2:b<pts): -100000000000≤greatestR pts bs a b:=by
 have hp:=hok.p2;obtain ⟨y,h1,h2⟩:=sol_bounded hok hs;have:=from_low (pts:=pts) (bs:=bs) (a:=a) hok a1 a2 h1 (fun v _=>by have:=h2 v;have:=h2 a.toNat;unfold noneV;omega) b.toNat (by omega);have e1:=h2 b.toNat;have e2:=h2 a.toNat;rw [greatestR_val];omega
theorem greatestV_wide {pts:Int} {bs:List Bound} {a b:Int} (hok:SysOk pts bs) (a1:0≤a) (a2:a<pts) (b1:0≤b) (b2:b<pts): -100000000000≤(greatestV pts bs a b).1∧(greatestV pts bs a b).1≤1099511627776:=by
 unfold greatestV
 split
 · rename_i hs
   have h1:=greatest_low hok hs a1 a2 b1 b2;have h2:=greatest_le hok a1 a2 b1 b2;unfold noneV at h2
   split
   · simp
   · exact ⟨h1,h2⟩
 · simp
theorem Least_any (pts:Int) (A:Option Addr) (n c:Nat) (bs:List Bound) (a b:Int) (w:World) (hl:Rd encBound 4 w A n c bs) (hk:checkSys pts bs=0) (h1:0≤a) (h2:a<pts) (h3:0≤b) (h4:b<pts):
 Calls Tryz.prog 180 #[.agg #[.int .i64 pts,.slice A n c],.int .i64 a,.int .i64 b] w fun e w'=>e = .returned (.tuple #[.int .i64 (-(greatestV pts bs b a).1),.bool (greatestV pts bs b a).2.1,.int .i64 (greatestV pts bs b a).2.2])∧Below w.heap.size w w':=by
 have hw:=greatestV_wide (sysOk_of hk) h3 h4 h1 h2;have HG:=Lib.hid (Greatest_any pts A n c bs b a _ (hl.alloc (.cells #[.int .i64 pts,.slice A n c] 117)) hk h3 h4 h1 h2);clear hl hk;generalize greatestV pts bs b a=G at *;obtain ⟨g1,g2,g3⟩:=G;simp only at hw HG ⊢;have hwr:IntKind.i64.wrap (-g1) = -g1:=by rw [IntKind.wrap_i64];omega
 go_enter Tryz.func180,Tryz.ntmps180;go_wp2_with (go_at_call 79;refine HG.out.mono ?_;rintro e w2 ⟨rfl,hb⟩);go_wp2_with (go_quiet (fail));go_ret3;exact ⟨rfl,((Below.refl _ w).alloc (Nat.le_refl _) _).trans (hb.mono (by simp))⟩
structure Spn where
 low:Int
 high:Int
 isLow:Bool
 isHigh:Bool
 place:Bool
 possible:Bool
 deriving DecidableEq
def spanE (s:Spn):Value:=.agg #[.int .i64 s.low,.int .i64 s.high,.bool s.isLow,.bool s.isHigh,.bool s.place,.bool s.possible]
def spanOf (N:Int) (S:List Bound) (v:Int):Spn:=⟨-(greatestV N S v 0).1,(greatestV N S 0 v).1,(greatestV N S v 0).2.1,(greatestV N S 0 v).2.1,true,(greatestV N S v 0).2.2==0⟩
def spanMap (N:Int) (S:List Bound) (M:List (Place×Int)) (ps:List Place):List (Place×Spn):=ps.map fun p=>(p,spanOf N S ((getM M p).getD 0))
theorem spanMap_step {N:Int} {S:List Bound} {M:List (Place×Int)} {ps:List Place} (hn:ps.Nodup) {k:Nat} {p:Place} (hp:ps[k]? = some p):putM (spanMap N S M (ps.take k)) p (spanOf N S ((getM M p).getD 0))=spanMap N S M (ps.take (k+1)):=by
 have hno:p∉ps.take k:=fun h=>by
  obtain ⟨i,hi,e⟩:=List.getElem_of_mem h;rw [List.length_take] at hi;rw [List.getElem_take] at e;have hk:=(List.getElem?_eq_some_iff.1 hp).1;have h2:ps[k]=p:=by rw [List.getElem?_eq_getElem hk] at hp;exact Option.some.inj hp
  have:=(List.getElem_inj hn).1 (e.trans h2.symm);omega
 unfold putM spanMap;rw [if_neg]
 · rw [List.take_add_one,hp,List.map_append];rfl
 · intro h
   rw [List.any_eq_true] at h;obtain ⟨x,hx,hxp⟩:=h;obtain ⟨q,hq,rfl⟩:=List.mem_map.1 hx;exact hno (of_decide_eq_true hxp ▸ hq)
theorem grownBy_trans {A B C:World} {r:Option Nat} (h:A.grownBy B r) (g:B.grownBy C r):A.grownBy C r:=
 ⟨g.os.trans h.os,g.tape.trans h.tape,g.output.trans h.output,Nat.le_trans h.size g.size,fun i hi hr=>(g.block i (by have:=h.size;omega) hr).trans (h.block i hi hr)⟩
theorem grownBy_below {A B C:World} {r:Option Nat} (h:A.grownBy B r) (g:Below B.heap.size B C):A.grownBy C r:=
 ⟨g.os.trans h.os,g.tape.trans h.tape,g.output.trans h.output,Nat.le_trans h.size g.size,fun i hi hr=>(g.block i (by have:=h.size;omega)).trans (h.block i hi hr)⟩
theorem grownBy_setCell {A B:World} {r:Option Nat} (h:A.grownBy B r) {g:Nat} (hg:A.heap.size≤g) (o:Nat) (v:Value):A.grownBy (B.setCell ⟨g,o,none⟩ v) r:=
 ⟨h.os,h.tape,h.output,by simpa using h.size,fun i hi hr=>(Below.heap_setCell _ _ _ i (show i≠g by omega)).trans (h.block i hi hr)⟩
theorem spans_any (o:Nat) (At:Option Addr) (tn ct:Nat) (bA:Option Addr) (bn bc:Nat) (Ap:Option Addr) (pn cp:Nat) (ts:List Trace) (bs:List Bond) (w:World) (hO:OkO ts bs) (hts:∀ x∈ts,okLT x) (hol:o<w.heap.size)
 (o0:w.cell? ⟨o,0,none⟩=some (.slice At tn ct)) (o1:w.cell? ⟨o,1,none⟩=some (.slice bA bn bc)) (o2:w.cell? ⟨o,2,none⟩=some (.slice Ap pn cp)) (hpn:(placesOf ts bs).length=pn)
 (rt:Rd encTrace 10 w At tn ct ts) (rb:Rd encBond 5 w bA bn bc bs) (rp:Rd encPlace 2 w Ap pn cp (placesOf ts bs)):
 Calls Tryz.prog 125 #[.pointer (some ⟨o,0,none⟩)] w fun e w'=> ∃ mb,e = .returned (.map (some mb))∧Below w.heap.size w w'∧w.heap.size≤mb∧mb<w'.heap.size∧
  MapP spanE w' mb (spanMap (pn+1) ((linksL ts bs []).map (boundOf (ptsM (placesOf ts bs) pn))) (ptsM (placesOf ts bs) pn) (placesOf ts bs)):=by
 have htn:=rt.len;have hbn:=rb.len;have h1:=hO.tn;have h2:=hO.bn;have h3:=hO.pn;have hll:=linksL_len ts bs [];have HY:=Lib.hid (years_any o At tn ct bA bn bc Ap pn cp none 0 0 ts bs (placesOf ts bs) [] w o0 o1 o2 rt rb rp (Rd.none_ none 0 (by omega)) hts (by omega) (by omega));have hck:=checkSys_years hO [];have hnd:=placesOf_nodup ts bs
 have hsome:∀ p∈placesOf ts bs,∃ v,getM (ptsM (placesOf ts bs) pn) p=some v∧0≤v∧v<(pn:Int)+1:=fun p hp=>by
  obtain ⟨v,hv⟩:=ptsM_some (placesOf ts bs) hnd (z00_not hO) (.inr hp);have:=ptsM_range _ hv;rw [hpn] at hv this;exact ⟨v,hv,this.1,this.2⟩
 rw [hpn] at hck
 obtain ⟨L,hL⟩:∃ L,linksL ts bs []=L:=⟨_,rfl⟩
 obtain ⟨ps,hps⟩:∃ ps,placesOf ts bs=ps:=⟨_,rfl⟩
 rw [hps] at hpn h3;rw [hL,hps] at HY hck ⊢;rw [hL] at hll;rw [hps] at hnd hsome rp
 obtain ⟨M,hM⟩:∃ M,ptsM ps pn=M:=⟨_,rfl⟩
 rw [hM] at HY hck hsome ⊢
 obtain ⟨S,hS⟩:∃ S,L.map (boundOf M)=S:=⟨_,rfl⟩
 rw [hS] at HY hck ⊢;have HCK:=Lib.hid hck;have HND:=Lib.hid hnd;have HSO:=Lib.hid hsome;have HRP:=Lib.hid rp;have HO2:=Lib.hid o2;have hLn:L.length≤1000:=by omega
 clear hL hps hM hS hck hnd hsome hll rt rb rp hO hts o0 o1 o2 h1 h2 htn hbn;go_enter Tryz.func125,Tryz.ntmps125
 go_wp2_with (go_at_call 75;refine HY.out.mono ?_;rintro e w2 ⟨Ab,cb,Al,cl,mp,rfl,hb2,hOb,_,hmp,hmpl⟩
              have hz2:=hb2.size;have HB2:=Lib.hid hb2;have HOB:=Lib.hid hOb;have HMP:=Lib.hid hmp;have o2:w2.cell? ⟨o,2,none⟩=some (.slice Ap pn cp):=(hb2.cell (p:=⟨o,2,none⟩) hol).trans HO2.out
              have hol2:o<w2.heap.size:=(by omega)
              have hmk:=fun t w=>run_makeMap (P:=Tryz.prog) t w
              clear hb2 hOb hmp)
 clear hmk
 obtain ⟨y,hy⟩:∃ y,w2.heap.size=y:=⟨_,rfl⟩
 obtain ⟨w3,hw3⟩:∃ w3,(w2.alloc (.cells #[.int .i64 (pn+1),.slice Ab L.length cb,.slice Al L.length cl,.map (some mp)] 120)).alloc (.map #[] 0)=w3:=⟨_,rfl⟩
 have hz3:w3.heap.size=y+2:=(by rw [←hw3,←hy];simp)
 have HB23:Hid (Below y w2 w3):=(show Below y w2 w3 by rw [←hw3,←hy];exact ((Below.refl _ _).alloc (Nat.le_refl _) _).alloc (by simp) _)
 have HHY:Hid (w3.heap[y]? = some (.cells #[.int .i64 (pn+1),.slice Ab L.length cb,.slice Al L.length cl,.map (some mp)] 120 (0,0))):=(show _=_ by rw [←hw3,Below.heap_alloc _ _ _ (by rw [←hy];simp),←hy];exact heap_alloc_new w2 _)
 have HMB:Hid (MapP spanE w3 (y+1) []):=(show MapP spanE w3 (y+1) [] by
  rw [←hw3,←hy];have:=MapP.made (E:=spanE) (w2.alloc (.cells #[.int .i64 (pn+1),.slice Ab L.length cb,.slice Al L.length cl,.map (some mp)] 120));rw [World.size_alloc] at this
  exact this)
 have hmb3:w3.heap[y+1]? = some (.map #[] 0):=(by
  rw [←hw3,←hy];have:=heap_alloc_new (w2.alloc (.cells #[.int .i64 (pn+1),.slice Ab L.length cb,.slice Al L.length cl,.map (some mp)] 120)) (.map #[] 0);rw [World.size_alloc] at this
  exact this)
 have hmpl2:=HMP.out.lt;have hOB3:=HOB.out.below HB23.out (by omega)
 have KF:Hid (∀ W,w3.grownBy W (some (y+1))→Rd encBound 4 W Ab L.length cb S∧MapP intE W mp M∧W.heap[y]? = some (.cells #[.int .i64 (pn+1),.slice Ab L.length cb,.slice Al L.length cl,.map (some mp)] 120 (0,0))∧Rd encPlace 2 W Ap pn cp ps∧W.cell? ⟨o,2,none⟩=some (.slice Ap pn cp)∧Below w.heap.size w W):=
  (show ∀ W,_→_ from fun W h=>by
    have hbW:Below w.heap.size w W:=((HB2.out.trans (HB23.out.mono (by omega))).grown h (by omega) (fun j e=>by cases e;omega))
    refine ⟨(hOB3.kept h (hOB3.ne hmb3 (fun cur e=>by cases e))).rd (fun _=>rfl) (by omega),((HMP.out.below HB23.out (by omega)).kept h (by simp;omega)),(h.block y (by omega) (by simp)).trans HHY.out,HRP.out.below hbW (Nat.le_refl _),(hbW.cell (p:=⟨o,2,none⟩) hol).trans HO2.out,hbW⟩)
 rw [hw3,hy];clear hw3 hmb3 hOB3 HOB HMP HRP;have o2:=(KF.out w3 ⟨rfl,rfl,rfl,Nat.le_refl _,fun _ _ _=>rfl⟩).2.2.2.2.1
 have hol3:o<w3.heap.size:=(by omega)
 go_wp2;clear o2;go_loopw [17] (fun s17 wr=> ∃ k:Nat,k≤pn∧s17 = .int .i64 k∧Hid (w3.grownBy wr (some (y+1)))∧Hid (MapP spanE wr (y+1) (spanMap (pn+1) S M (ps.take k)))) (fun s17 _=>pn-(intOf s17).toNat)
 case atStart=>exact ⟨0,Nat.zero_le _,rfl,(show w3.grownBy w3 _ from ⟨rfl,rfl,rfl,Nat.le_refl _,fun _ _ _=>rfl⟩),HMB⟩
 case round=>
  obtain ⟨k,hk,rfl,hgr,hmap⟩:=hrel;rename World=>wr;have hzr:=hgr.out.size;by_cases hlt:k<pn
  · obtain ⟨bp,op,p,hAp,hbpw,hp,hcp⟩:=(KF.out wr hgr.out).2.2.2.1.one hlt
    subst hAp;have p0:wr.cell? ⟨bp,op+k * 2,none⟩=some (.int .i64 p.pit):=hcp 0 _ rfl;have p1:wr.cell? ⟨bp,op+k * 2+1,none⟩=some (.int .i64 p.layer):=hcp 1 _ rfl;have HP:=Lib.hid hp;obtain ⟨v,hv,v0,v1⟩:=HSO.out p (List.mem_of_getElem? hp);have HV:=Lib.hid hv;clear hcp hp hv
    obtain ⟨w5,hw5⟩:∃ w5,(wr.alloc (.cells #[.int .i64 p.pit,.int .i64 p.layer] 37)).alloc (.cells #[.int .i64 0,.int .i64 0,.bool false,.bool false,.bool true,.bool false] 176)=w5:=⟨_,rfl⟩
    obtain ⟨g6,hg6⟩:∃ g6,wr.heap.size=g6:=⟨_,rfl⟩
    have hz5:w5.heap.size=g6+2:=(by rw [←hw5,←hg6];simp)
    have hb5:Below wr.heap.size wr w5:=(by rw [←hw5];exact ((Below.refl _ _).alloc (Nat.le_refl _) _).alloc (by simp) _)
    have HG5:=Lib.hid (grownBy_below hgr.out hb5)
    have HH6:Hid (w5.heap[g6]? = some (.cells #[.int .i64 p.pit,.int .i64 p.layer] 37 (0,0))):=(show _=_ by rw [←hw5,←hg6,Below.heap_alloc _ _ _ (by simp)];exact heap_alloc_new wr _)
    have HH7:Hid (w5.heap[g6+1]? = some (.cells #[.int .i64 0,.int .i64 0,.bool false,.bool false,.bool true,.bool false] 176 (0,0))):=(show _=_ by
     rw [←hw5,←hg6];have:=heap_alloc_new (wr.alloc (.cells #[.int .i64 p.pit,.int .i64 p.layer] 37)) (.cells #[.int .i64 0,.int .i64 0,.bool false,.bool false,.bool true,.bool false] 176);rw [World.size_alloc] at this
     exact this)
    have HM5:=Lib.hid (hmap.out.below hb5 (by omega));have HW5:=Lib.hid hw5
    have hy6:y<g6:=(by omega)
    have ST:Hid (∀ (W5 W:World) (v0 v1 v2 v3 v4 v5:Value),w3.grownBy W5 (some (y+1))→g6+2≤W5.heap.size→W5.heap[g6]? = some (.cells #[.int .i64 p.pit,.int .i64 p.layer] 37 (0,0))→W5.heap[g6+1]? = some (.cells #[v0,v1,v2,v3,v4,v5] 176 (0,0))→Below W5.heap.size W5 W→
     (W.cell? ⟨y,0,none⟩=some (.int .i64 (pn+1))∧W.cell? ⟨y,1,none⟩=some (.slice Ab L.length cb)∧W.cell? ⟨y,3,none⟩=some (.map (some mp))∧W.cell? ⟨g6,0,none⟩=some (.int .i64 p.pit)∧W.cell? ⟨g6,1,none⟩=some (.int .i64 p.layer))∧
     (∀ j,W.cell? ⟨g6+1,j,none⟩ = #[v0,v1,v2,v3,v4,v5][j]?)∧∀ j,W.frozen? ⟨g6+1,j,none⟩=false):=(show ∀ (W5 W:World) (v0 v1 v2 v3 v4 v5:Value),_→_→_→_→_→_ from fun W5 W v0 v1 v2 v3 v4 v5 hg hz e6 e7 hb=>by
     have hK:=(KF.out W (grownBy_below hg hb)).2.2.1;have e6':=(hb.block g6 (by omega)).trans e6;have e7':=(hb.block (g6+1) (by omega)).trans e7
     exact ⟨⟨by simp [World.cell?,hK],by simp [World.cell?,hK],by simp [World.cell?,hK],by simp [World.cell?,e6'],by simp [World.cell?,e6']⟩,fun j=>by simp [World.cell?,e7'],fun j=>by simp [World.frozen?,e7']⟩)
    have LK:Hid (∀ W,w3.grownBy W (some (y+1))→(Instr.lookup 118 (.map (some mp)) (.agg #[.int .i64 p.pit,.int .i64 p.layer]) false).run Tryz.prog W = .ok (.int .i64 v) W):=(show ∀ W,_→_ from fun W h=>by
     have:=run_lookupPl Tryz.underlying118 (Tryz.zeroValue3 W) (KF.out W h).2.1 p false;rw [HV.out] at this
     exact this)
    clear hb5 hw5
    go_upto_region 8 with (fail)
    rw [HW5.out]
    have CE8:Hid (SpnCells y g6 (g6+1) (pn+1) Ab L.length cb (.slice Al L.length cl) mp p 0 2 w5):=(show SpnCells y g6 (g6+1) (pn+1) Ab L.length cb (.slice Al L.length cl) mp p 0 2 w5 from fun W hb=>by
     obtain ⟨⟨a0,a1,a3,a4,a5⟩,h7,hf⟩:=ST.out w5 W _ _ _ _ _ _ HG5.out (by omega) HH6.out HH7.out hb
     exact ⟨a0,a1,a3,a4,a5,⟨_,h7 0⟩,⟨_,h7 2⟩,hf 0,hf 2⟩)
    have C8:Hid (∀ W,Below w5.heap.size w5 W→Calls Tryz.prog 180 #[.agg #[.int .i64 (pn+1),.slice Ab L.length cb],.int .i64 0,.int .i64 v] W fun e w'=>e = .returned (.tuple #[.int .i64 (-(greatestV (pn+1) S v 0).1),.bool (greatestV (pn+1) S v 0).2.1,.int .i64 (greatestV (pn+1) S v 0).2.2])∧Below W.heap.size W w'):=
     (show ∀ W,Below w5.heap.size w5 W→_ from fun W hb=>Least_any (pn+1) Ab L.length cb S 0 v W (KF.out W (grownBy_below HG5.out hb)).1 HCK.out (Int.le_refl _) (by omega) v0 v1)
    have LK8:Hid (∀ W,Below w5.heap.size w5 W→(Instr.lookup 118 (.map (some mp)) (.agg #[.int .i64 p.pit,.int .i64 p.layer]) false).run Tryz.prog W = .ok (.int .i64 v) W):=(show ∀ W,_→_ from fun W hb=>LK.out W (grownBy_below HG5.out hb))
    have HSP:Hid (spanOf (pn+1) S v=⟨-(greatestV (pn+1) S v 0).1,(greatestV (pn+1) S 0 v).1,(greatestV (pn+1) S v 0).2.1,(greatestV (pn+1) S 0 v).2.1,true,(greatestV (pn+1) S v 0).2.2==0⟩):=(show _=_ from rfl)
    have C10:Hid (∀ W,w3.grownBy W (some (y+1))→Calls Tryz.prog 79 #[.agg #[.int .i64 (pn+1),.slice Ab L.length cb],.int .i64 0,.int .i64 v] W fun e w'=>e = .returned (.tuple #[.int .i64 (greatestV (pn+1) S 0 v).1,.bool (greatestV (pn+1) S 0 v).2.1,.int .i64 (greatestV (pn+1) S 0 v).2.2])∧Below W.heap.size W w'):=
     (show ∀ W,w3.grownBy W (some (y+1))→_ from fun W hb=>Greatest_any (pn+1) Ab L.length cb S 0 v W (KF.out W hb).1 HCK.out (Int.le_refl _) (by omega) v0 v1)
    generalize greatestV (pn+1) S v 0=G1 at *;generalize greatestV (pn+1) S 0 v=G2 at *;obtain ⟨r1,r2,r3⟩:=G1;obtain ⟨q1,q2,q3⟩:=G2;refine spn8 _ rfl y g6 (g6+1) (pn+1) Ab L.length cb (.slice Al L.length cl) mp p v (-r1) r2 r3 _ w5 _ rfl rfl rfl rfl CE8.out LK8.out C8.out ?_;intro W8 hb8;have e6:=(hb8.block g6 (by omega)).trans HH6.out;have e7:=(hb8.block (g6+1) (by omega)).trans HH7.out
    have HH8:Hid (((W8.setCell ⟨g6+1,0,none⟩ (.int .i64 (-r1))).setCell ⟨g6+1,2,none⟩ (.bool r2)).heap[g6+1]? = some (.cells #[.int .i64 (-r1),.int .i64 0,.bool r2,.bool false,.bool true,.bool false] 176 (0,0))):=(show _=_ from (heap_setCell_obj (heap_setCell_obj e7)).trans rfl)
    have HH68:Hid (((W8.setCell ⟨g6+1,0,none⟩ (.int .i64 (-r1))).setCell ⟨g6+1,2,none⟩ (.bool r2)).heap[g6]? = some (.cells #[.int .i64 p.pit,.int .i64 p.layer] 37 (0,0))):=(show _=_ from (Below.heap_setCell _ _ _ g6 (show g6≠g6+1 by omega)).trans ((Below.heap_setCell _ _ _ g6 (show g6≠g6+1 by omega)).trans e6))
    have HG8:=Lib.hid (grownBy_setCell (grownBy_setCell (grownBy_below HG5.out hb8) (show w3.heap.size≤g6+1 by omega) 0 (.int .i64 (-r1))) (show w3.heap.size≤g6+1 by omega) 2 (.bool r2));have HM8:=Lib.hid (((HM5.out.below hb8 (by omega)).setCell ⟨g6+1,0,none⟩ (.int .i64 (-r1)) (show y+1≠g6+1 by omega)).setCell ⟨g6+1,2,none⟩ (.bool r2) (show y+1≠g6+1 by omega))
    have hz8:w5.heap.size≤((W8.setCell ⟨g6+1,0,none⟩ (.int .i64 (-r1))).setCell ⟨g6+1,2,none⟩ (.bool r2)).heap.size:=(by simpa using hb8.size)
    clear e6 e7 hb8;generalize (W8.setCell ⟨g6+1,0,none⟩ (.int .i64 (-r1))).setCell ⟨g6+1,2,none⟩ (.bool r2)=w8 at *
    have u5:w8.cell? ⟨g6+1,5,none⟩=some (.bool false):=(by simp [World.cell?,HH8.out])
    have f5:w8.frozen? ⟨g6+1,5,none⟩=false:=(by simp [World.frozen?,HH8.out])
    simp only [setsL,Nat.reduceAdd,List.setIfInBounds_toArray,List.set_cons_succ,List.set_cons_zero]
    go_upto_region 10 with (fail)
    have HH9:Hid ((w8.setCell ⟨g6+1,5,none⟩ (.bool (r3==0))).heap[g6+1]? = some (.cells #[.int .i64 (-r1),.int .i64 0,.bool r2,.bool false,.bool true,.bool (r3==0)] 176 (0,0))):=(show _=_ from (heap_setCell_obj HH8.out).trans rfl)
    have HH69:Hid ((w8.setCell ⟨g6+1,5,none⟩ (.bool (r3==0))).heap[g6]? = some (.cells #[.int .i64 p.pit,.int .i64 p.layer] 37 (0,0))):=(show _=_ from (Below.heap_setCell _ _ _ g6 (show g6≠g6+1 by omega)).trans HH68.out)
    have HG9:=Lib.hid (grownBy_setCell HG8.out (show w3.heap.size≤g6+1 by omega) 5 (.bool (r3==0)));have HM9:=Lib.hid (HM8.out.setCell ⟨g6+1,5,none⟩ (.bool (r3==0)) (show y+1≠g6+1 by omega))
    have hz9:w5.heap.size≤(w8.setCell ⟨g6+1,5,none⟩ (.bool (r3==0))).heap.size:=(by simpa using hz8)
    clear u5 f5 HH8 HH68 HG8 HM8 hz8;generalize w8.setCell ⟨g6+1,5,none⟩ (.bool (r3==0))=w9 at *
    have CE10:Hid (SpnCells y g6 (g6+1) (pn+1) Ab L.length cb (.slice Al L.length cl) mp p 1 3 w9):=(show SpnCells y g6 (g6+1) (pn+1) Ab L.length cb (.slice Al L.length cl) mp p 1 3 w9 from fun W hb=>by
     obtain ⟨⟨a0,a1,a3,a4,a5⟩,h7,hf⟩:=ST.out w9 W _ _ _ _ _ _ HG9.out (by omega) HH69.out HH9.out hb
     exact ⟨a0,a1,a3,a4,a5,⟨_,h7 1⟩,⟨_,h7 3⟩,hf 1,hf 3⟩)
    refine spn10 _ rfl y g6 (g6+1) (pn+1) Ab L.length cb (.slice Al L.length cl) mp p v q1 q2 q3 _ w9 _ rfl rfl rfl rfl CE10.out (fun W hb=>LK.out W (grownBy_below HG9.out hb)) (fun W hb=>C10.out W (grownBy_below HG9.out hb)) ?_;intro W10 hb10;have e6:=(hb10.block g6 (by omega)).trans HH69.out;have e7:=(hb10.block (g6+1) (by omega)).trans HH9.out
    have HH11:Hid (((W10.setCell ⟨g6+1,1,none⟩ (.int .i64 q1)).setCell ⟨g6+1,3,none⟩ (.bool q2)).heap[g6+1]? = some (.cells #[.int .i64 (-r1),.int .i64 q1,.bool r2,.bool q2,.bool true,.bool (r3==0)] 176 (0,0))):=(show _=_ from (heap_setCell_obj (heap_setCell_obj e7)).trans rfl)
    have HH6b:Hid (((W10.setCell ⟨g6+1,1,none⟩ (.int .i64 q1)).setCell ⟨g6+1,3,none⟩ (.bool q2)).heap[g6]? = some (.cells #[.int .i64 p.pit,.int .i64 p.layer] 37 (0,0))):=(show _=_ from (Below.heap_setCell _ _ _ g6 (show g6≠g6+1 by omega)).trans ((Below.heap_setCell _ _ _ g6 (show g6≠g6+1 by omega)).trans e6))
    have HG11:=Lib.hid (grownBy_setCell (grownBy_setCell (grownBy_below HG9.out hb10) (show w3.heap.size≤g6+1 by omega) 1 (.int .i64 q1)) (show w3.heap.size≤g6+1 by omega) 3 (.bool q2));have HM11:=Lib.hid (((HM9.out.below hb10 (by omega)).setCell ⟨g6+1,1,none⟩ (.int .i64 q1) (show y+1≠g6+1 by omega)).setCell ⟨g6+1,3,none⟩ (.bool q2) (show y+1≠g6+1 by omega));clear e6 e7 hb10 HH9 HH69 HG9 HM9 CE10 hz9;generalize (W10.setCell ⟨g6+1,1,none⟩ (.int .i64 q1)).setCell ⟨g6+1,3,none⟩ (.bool q2)=w11 at *
    have x0:w11.cell? ⟨g6+1,0,none⟩=some (.int .i64 (-r1)):=(by simp [World.cell?,HH11.out])
    have x1:w11.cell? ⟨g6+1,1,none⟩=some (.int .i64 q1):=(by simp [World.cell?,HH11.out])
    have x2:w11.cell? ⟨g6+1,2,none⟩=some (.bool r2):=(by simp [World.cell?,HH11.out])
    have x3:w11.cell? ⟨g6+1,3,none⟩=some (.bool q2):=(by simp [World.cell?,HH11.out])
    have x4:w11.cell? ⟨g6+1,4,none⟩=some (.bool true):=(by simp [World.cell?,HH11.out])
    have x5:w11.cell? ⟨g6+1,5,none⟩=some (.bool (r3==0)):=(by simp [World.cell?,HH11.out])
    have y0:w11.cell? ⟨g6,0,none⟩=some (.int .i64 p.pit):=(by simp [World.cell?,HH6b.out])
    have y1:w11.cell? ⟨g6,1,none⟩=some (.int .i64 p.layer):=(by simp [World.cell?,HH6b.out])
    simp only [setsL,Nat.reduceAdd,List.setIfInBounds_toArray,List.set_cons_succ,List.set_cons_zero]
    go_wp2_with (first
     | (at_mapUpdate;refine wpList_mapUpdatePl rfl _ _ _ 171 rfl Tryz.underlying171 p (⟨-r1,q1,r2,q2,true,r3==0⟩:Spn) rfl rfl rfl HM11.out ?_;intro w12 hm12 hg12 hs12;have HM12:=Lib.hid hm12;have HG12:=Lib.hid (grownBy_trans HG11.out hg12);clear hm12 hg12))
    go_roundw
    all_goals first
     | (simp [intOf];omega)
     | (refine ⟨k+1,by omega,by go_num,HG12,?_⟩
        refine (show MapP spanE w12 (y+1) _ from ?_);have h1:=HM12.out;have h2:=spanMap_step (N:=pn+1) (S:=S) (M:=M) HND.out HP.out;rw [HV.out,Option.getD_some,HSP.out] at h2;rw [h2] at h1
        exact h1)
  · have hkn:k=pn:=by omega
    subst hkn;have hm:=hmap.out;rw [List.take_of_length_le (by omega)] at hm;have HMF:=Lib.hid hm;have HBF:=Lib.hid (KF.out wr hgr.out).2.2.2.2.2;have hlt2:=hm.lt;clear hm hmap;go_wp2;go_ret;exact ⟨y+1,rfl,HBF.out,by omega,hlt2,HMF.out⟩
def codeRch12:Option Code→Code
 | some (.seq _ (.seq _ (.seq _ (.seq _ (.seq _ (.seq _ (.seq _ (.seq _ (.seq _ (.seq (.seq c _) _))))))))))=>c
 | _=> .skip
def RchI (A1:Option Addr) (n1 c1:Nat) (A2:Option Addr) (n2 c2:Nat) (zs:List Place) (w:World):List Value→World→Prop
 | [],W=>Below w.heap.size w W
 | [v],W=>Below w.heap.size w W∧∃ nb,v = .slice (some ⟨nb,0,none⟩) 2 2∧W.heap[nb]? = some (.cells #[.slice A1 n1 c1,.slice A2 n2 c2] 30 (0,0))
 | [v,u],W=>Below w.heap.size w W∧∃ nb A c,v = .slice (some ⟨nb,0,none⟩) 2 2∧u = .slice A (n1+n2) c∧Own encPlace 2 37 w.heap.size W A (n1+n2) c zs
 | _,_=>False
def Trch12 (q1 q2:Nat) (A1:Option Addr) (n1 c1:Nat) (A2:Option Addr) (n2 c2:Nat) (_ _:List Place) (cv:List Value):List Value:=
 [.pointer (some ⟨q1,0,none⟩),.pointer (some ⟨q1,0,none⟩),.pointer (some ⟨q1,0+2,none⟩),.slice A1 n1 c1,.pointer (some ⟨q2,0,none⟩),.pointer (some ⟨q2,0,none⟩),.pointer (some ⟨q2,0+2,none⟩),.slice A2 n2 c2,cv.getD 0 undef,cv.getD 1 undef,.int .i64 ((n1+n2:Nat)),.int .i64 0]
theorem rch12 (cC:Code) (hc:cC=codeRch12 Tryz.f69.body) (q1 q2:Nat) (A1:Option Addr) (n1 c1:Nat) (A2:Option Addr) (n2 c2:Nat) (xs ys:List Place) (a:Act) (w:World) (Q:Exit→Act→World→Prop)
 (hT:a.tmps.size=80) (t10:a.tmps.getD 10 undef = .pointer (some ⟨q1,0,none⟩)) (t11:a.tmps.getD 11 undef = .pointer (some ⟨q2,0,none⟩))
 (CE:∀ W,Below w.heap.size w W→W.cell? ⟨q1,2,none⟩=some (.slice A1 n1 c1)∧W.cell? ⟨q2,2,none⟩=some (.slice A2 n2 c2))
 (H1:∀ W,Below w.heap.size w W→Rd encPlace 2 W A1 n1 c1 xs) (H2:∀ W,Below w.heap.size w W→Rd encPlace 2 W A2 n2 c2 ys) (h1:n1≤1000) (h2:n2≤1000)
 (hQ:∀ nb A c W,Below w.heap.size w W→Own encPlace 2 37 w.heap.size W A (n1+n2) c (xs++ys)→Q .normal { tmps:=setsL a.tmps 53 (Trch12 q1 q2 A1 n1 c1 A2 n2 c2 xs ys [.slice (some ⟨nb,0,none⟩) 2 2,.slice A (n1+n2) c]),defers:=a.defers } W):
 cC.wp Tryz.prog Q a w:=by
 subst hc;unfold codeRch12 Tryz.f69;dsimp only;refine wpIn_wide.1 (wpIn_region_chain (nn:=5) 80 (by kernel_rfl) (by kernel_rfl) (by kernel_rfl) hT (fun i cv=>(Trch12 q1 q2 A1 n1 c1 A2 n2 c2 xs ys cv).getD i undef) (fun i=>([0,0,0,0,0,0,0,0,0,0,2,0]:List Nat).getD i 0) (fun i=>([0,0,0,0,0,0,0,0,1,2,2,2]:List Nat).getD i 0) [8,9] (by kernel_rfl) (by kernel_rfl) (by kernel_rfl) (by kernel_rfl) (RchI A1 n1 c1 A2 n2 c2 (xs++ys) w) ((Below.refl _ _).drew) (fun b cv hE hold=> ?_) (fun cv W hl hI=> ?_))
 · clear hQ
   have q10:=hold 10 _ (by kernel_rfl) t10;have q11:=hold 11 _ (by kernel_rfl) t11;simp only [factsL,Vc,idxC,Trch12,List.getD_cons_zero,List.getD_cons_succ,Nat.reduceAdd,Nat.reduceEqDiff,reduceIte,Option.map_some,Option.map_none] at hE
   repeat' first|exact chain_nil|refine chain_op 0 rfl rfl ?_ ?_|refine chain_op 1 rfl rfl ?_ ?_|refine chain_skip rfl rfl rfl rfl ?_|refine chain_quiet rfl rfl ?_ ?_
   all_goals intro hl
   any_goals (
    intro hl2;simp only [List.getD_cons_zero,List.getD_cons_succ,Nat.reduceAdd] at hl hl2
    first
     | (obtain rfl:=List.eq_nil_of_length_eq_zero (Nat.le_zero.1 hl2);intro W hW;have hWb:Below w.heap.size w W:=hW;obtain ⟨s1,s2⟩:=CE W hWb;simp only [Trch12,List.getD_cons_zero,List.getD_cons_succ,Nat.reduceAdd]
        first
         | (refine .inl ?_;go_simp;done)
         | (refine .inl ?_;go_simp;rfl))
     | (intro W hW;simp only [Trch12,List.getD_cons_zero,List.getD_cons_succ,Nat.reduceAdd];refine .inl ?_;go_simp;(try rfl);done)
     | (intro W hW;obtain ⟨v,u,rfl⟩:=len2 (Nat.le_antisymm hl2 hl);obtain ⟨hWb,nb,A,c,rfl,rfl,hO⟩:=hW;simp only [List.getD_cons_zero,List.getD_cons_succ] at hE;simp only [Trch12,List.getD_cons_zero,List.getD_cons_succ,Nat.reduceAdd]
        first
         | (refine .inl ?_;go_simp;done)
         | (refine .inl ?_;go_simp;rfl))
    done)
   · obtain rfl:=List.eq_nil_of_length_eq_zero hl
     intro W hW;have hWb:Below w.heap.size w W:=hW;refine .inl ⟨.slice (some ⟨W.heap.size,0,none⟩) 2 2,W.alloc (.cells #[.slice A1 n1 c1,.slice A2 n2 c2] 30),.inl ?_,hWb.alloc hWb.size _,_,rfl,heap_alloc_new W _⟩;go_simp
   · obtain ⟨v,rfl⟩:=len1 hl
     rintro W ⟨hWb,nb,rfl,hh⟩;simp only [List.getD_cons_zero] at hE;refine .inr ⟨126,#[.slice (some ⟨nb,0,none⟩) 2 2],?_,(Concat_two A1 n1 c1 xs A2 n2 c2 ys nb _ W hh (H1 W hWb) (H2 W hWb) h1 h2).mono ?_⟩
     · go_simp
     · rintro e w' ⟨A,c,rfl,hb',hO⟩;exact ⟨_,rfl,hWb.trans (hb'.mono hWb.size),nb,A,c,rfl,rfl,hO.mono hWb.size⟩
 · match cv,hl,hI with
   | [_,_],_,⟨hb,nb,A,c,e1,e2,hO⟩=>subst e1 e2;exact hQ nb A c W hb hO
def eqSpn (x y:Spn):Bool:=decide (x=y)
theorem equalInSpn (d:Nat) (a b a' b':Int) (c e f g c' e' f' g':Bool) (w:World):(Op.equalIn (d+2) 176 (.agg #[.int .i64 a,.int .i64 b,.bool c,.bool e,.bool f,.bool g]) (.agg #[.int .i64 a',.int .i64 b',.bool c',.bool e',.bool f',.bool g'])).run Tryz.prog w = .ok (eqSpn ⟨a,b,c,e,f,g⟩ ⟨a',b',c',e',f',g'⟩) w:=by
 have hS:Tryz.prog.underlying 176=some (.struct (Tryz.prog.fieldsOf 176)):=by kernel_rfl
 have hp:Tryz.prog.stoodInHeld 176=false:=by kernel_rfl
 rw [run_equalIn_agg w (d+1) 176 _ _ hS hp];simp only [Program.fieldsOf,Tryz.underlying176];go_simp
 (repeat' split)<;>simp_all [eqSpn]
@[go_sem ↓ high] theorem neqSpn (a b a' b':Int) (c e f g c' e' f' g':Bool) (w:World):(binOp .neq 176 (.agg #[.int .i64 a,.int .i64 b,.bool c,.bool e,.bool f,.bool g]) (.agg #[.int .i64 a',.int .i64 b',.bool c',.bool e',.bool f',.bool g'])).run Tryz.prog w = .ok (.bool (!eqSpn ⟨a,b,c,e,f,g⟩ ⟨a',b',c',e',f',g'⟩)) w:=by
  rw [run_neq_struct,show (10000:Nat)=9998+2 from rfl,equalInSpn];rfl
@[go_sem ↓ high] theorem eqGuardSpn (op:BinOp) (x y:Operand) (xs ys:Array Value) (w:World):(eqGuard op 176 x y (.agg xs) (.agg ys)).run Tryz.prog w = .ok () w:=
  run_eqGuard_agg w op 176 x y xs ys (by kernel_rfl)
def zSpn:Spn:=⟨0,0,false,false,false,false⟩
def sysO (ts:List Trace) (bs:List Bond):List Bound:=(linksL ts bs []).map (boundOf (ptsM (placesOf ts bs) (placesOf ts bs).length))
def spnM (ts:List Trace) (bs:List Bond):List (Place×Spn):=spanMap ((placesOf ts bs).length+1) (sysO ts bs) (ptsM (placesOf ts bs) (placesOf ts bs).length) (placesOf ts bs)
def spnAt (m:List (Place×Spn)) (p:Place):Spn:=(getM m p).getD zSpn
def differ (m1 m2:List (Place×Spn)) (p:Place):Bool:= !eqSpn (spnAt m1 p) (spnAt m2 p)
def reachedL (ts1 ts2:List Trace) (bs:List Bond):List Place:=((placesOf ts1 bs++placesOf ts2 bs).filter (differ (spnM ts1 bs) (spnM ts2 bs))).foldl putPl []
def reachedE (l:List Trace) (x:Trace) (bs:List Bond):Int:=
 if (appendV l x).2≠0 then (appendV l x).2 else if askErr l x.known bs≠0 then askErr l x.known bs else askErr (appendV l x).1 x.known bs
def reachedV (l:List Trace) (x:Trace) (bs:List Bond):List Place:=if reachedE l x bs≠0 then [] else reachedL (counting l x.known) (counting (appendV l x).1 x.known) bs
theorem reached_sorted {ks xs:List Place} (hn:ks.Nodup) (h:∀ q,q∈ks↔q∈xs):sortPl ks=xs.foldl putPl []:=
 asc_eq (sortPl_asc hn) (putAll_asc xs List.Pairwise.nil) fun q=>by
  rw [(sortPl_perm ks).mem_iff,h,putAll_mem];simp
def codeRch15:Option Code→Code
 | some (.seq _ (.seq _ (.seq _ (.seq _ (.seq _ (.seq _ (.seq _ (.seq _ (.seq _ (.seq (.seq _ (.block _ (.loop (.seq _ (.seq _ (.seq (.block _ (.seq _ (.seq c _))) _)))))) _))))))))))=>c
 | _=> .skip
def Trch15 (m1 m2 _:Nat) (p:Place) (s1 s2:Spn) (r:Bool):List Value:=
 [.map (some m1),.agg #[.int .i64 p.pit,.int .i64 p.layer],.agg #[.int .i64 s1.low,.int .i64 s1.high,.bool s1.isLow,.bool s1.isHigh,.bool s1.place,.bool s1.possible],.map (some m2),.agg #[.int .i64 p.pit,.int .i64 p.layer],.agg #[.int .i64 s2.low,.int .i64 s2.high,.bool s2.isLow,.bool s2.isHigh,.bool s2.place,.bool s2.possible],.bool (r)]
theorem rch15 (cC:Code) (hc:cC=codeRch15 Tryz.f69.body) (m1 m2 bp:Nat) (p:Place) (s1 s2:Spn) (r:Bool) (a:Act) (w:World) (Q:Exit→Act→World→Prop)
 (hT:a.tmps.size=80) (t12:a.tmps.getD 12 undef = .map (some m1)) (t13:a.tmps.getD 13 undef = .map (some m2)) (t16:a.tmps.getD 16 undef = .pointer (some ⟨bp,0,none⟩))
 (CE:∀ W,Below w.heap.size w W→W.cell? ⟨bp,0,none⟩=some (.int .i64 p.pit)∧W.cell? ⟨bp,1,none⟩=some (.int .i64 p.layer)∧
   (Instr.lookup 171 (.map (some m1)) (.agg #[.int .i64 p.pit,.int .i64 p.layer]) false).run Tryz.prog W = .ok (.agg #[.int .i64 s1.low,.int .i64 s1.high,.bool s1.isLow,.bool s1.isHigh,.bool s1.place,.bool s1.possible]) W∧(Instr.lookup 171 (.map (some m2)) (.agg #[.int .i64 p.pit,.int .i64 p.layer]) false).run Tryz.prog W = .ok (.agg #[.int .i64 s2.low,.int .i64 s2.high,.bool s2.isLow,.bool s2.isHigh,.bool s2.place,.bool s2.possible]) W)
 (hr:(!eqSpn ⟨s1.low,s1.high,s1.isLow,s1.isHigh,s1.place,s1.possible⟩ ⟨s2.low,s2.high,s2.isLow,s2.isHigh,s2.place,s2.possible⟩)=r)
 (hQ:∀ W,Below w.heap.size w W→Q .normal { tmps:=setsL a.tmps 68 (Trch15 m1 m2 bp p s1 s2 r),defers:=a.defers } W):
 cC.wp Tryz.prog Q a w:=by
 subst hc;unfold codeRch15 Tryz.f69;dsimp only;refine wpIn_wide.1 (wpIn_region_flow (nn:=5) 80 (by kernel_rfl) (by kernel_rfl) (by kernel_rfl) hT (fun i=>(Trch15 m1 m2 bp p s1 s2 r).getD i undef) (fun W=>Below w.heap.size w W) ((Below.refl _ _).drew) (fun b hE hold=> ?_) hQ);clear hQ;have q12:=hold 12 _ (by kernel_rfl) t12;have q13:=hold 13 _ (by kernel_rfl) t13;have q16:=hold 16 _ (by kernel_rfl) t16;simp only [factsL,Trch15,List.getD_cons_zero,List.getD_cons_succ,Nat.reduceAdd] at hE
 repeat' first|exact steps_nil|refine steps_skip rfl rfl ?_|refine steps_go rfl ?_ ?_
 all_goals (intro W hW;obtain ⟨p0,p1,l1,l2⟩:=CE W hW;simp only [Trch15,List.getD_cons_zero,List.getD_cons_succ,Nat.reduceAdd])
 all_goals first
  | (refine .inl ?_;go_simp;done)
  | (refine .inl ?_;go_simp;rfl)
  | (refine .inl ?_;go_simp;exact congrArg Value.bool hr)
  | (refine .inl ?_;go_simp;simp [hr];done)
  | (refine .inl ?_;go_simp;(simpa using hr);done)
theorem spans_ord (B o:Nat) (bA:Option Addr) (bn bc:Nat) (bs:List Bond) (ts:List Trace) (ads:List Admit) (w:World) (hor:OrdAt B w o bA bn bc ts (placesOf ts bs) ads) (hb:Rd encBond 5 w bA bn bc bs) (hO:OkO ts bs) (hts:∀ x∈ts,okLT x):
 Calls Tryz.prog 125 #[.pointer (some ⟨o,0,none⟩)] w fun e w'=> ∃ mb,e = .returned (.map (some mb))∧Below w.heap.size w w'∧w.heap.size≤mb∧mb<w'.heap.size∧MapP spanE w' mb (spnM ts bs):=by
 obtain ⟨ho,At,ct,Ap,cp,Aa,ca,hob,t1,t2,t3⟩:=hor;have h1:=hO.tn;have h2:=hO.pn;exact spans_any o At ts.length ct bA bn bc Ap (placesOf ts bs).length cp ts bs w hO hts (Array.getElem?_eq_some_iff.1 hob).1 (by simp [World.cell?,hob]) (by simp [World.cell?,hob]) (by simp [World.cell?,hob]) rfl (t1.rd (fun _=>rfl) (by omega)) hb (t2.rd (fun _=>rfl) (by omega))
theorem lookup_spn {W:World} {mb:Nat} {m:List (Place×Spn)} (h:MapP spanE W mb m) (p:Place):
 (Instr.lookup 171 (.map (some mb)) (.agg #[.int .i64 p.pit,.int .i64 p.layer]) false).run Tryz.prog W = .ok (.agg #[.int .i64 (spnAt m p).low,.int .i64 (spnAt m p).high,.bool (spnAt m p).isLow,.bool (spnAt m p).isHigh,.bool (spnAt m p).place,.bool (spnAt m p).possible]) W:=by
 have:=run_lookupPl Tryz.underlying171 (Tryz.zeroValue176 W) h p false;unfold spnAt
 cases hg:getM m p with
 | none=>rw [hg] at this;exact this
 | some s=>rw [hg] at this;exact this
theorem append_len {l:List Trace} {x:Trace} : (appendV l x).1.length≤1000:=by
 unfold appendV
 split
 · simp
 · rename_i h
   have hs:=check_small (by simpa using h)
   split
   · simp
   · simp;omega
theorem Reached_any (A:Option Addr) (n c:Nat) (l:List Trace) (x:Trace) (bA:Option Addr) (bn bc:Nat) (bs:List Bond) (w:World) (hl:Rd encTrace 10 w A n c l) (hb:Rd encBond 5 w bA bn bc bs):
 Calls Tryz.prog 69 #[.slice A n c,.agg #[.int .i64 x.id,.int .i64 x.known,.int .u8 x.kind,.int .i64 x.pit,.int .i64 x.layer,.int .i64 x.lower,.int .i64 x.low,.int .i64 x.high,.int .i64 x.cost,.int .i64 x.void],.slice bA bn bc] w fun e w'=> ∃ A' c',e = .returned (.tuple #[.slice A' (reachedV l x bs).length c',.int .i64 (reachedE l x bs)])∧Below w.heap.size w w'∧Own encPlace 2 37 w.heap.size w' A' (reachedV l x bs).length c' (reachedV l x bs):=by
 obtain ⟨w1,hw1⟩:∃ w1,w.alloc (.cells #[.int .i64 x.id,.int .i64 x.known,.int .u8 x.kind,.int .i64 x.pit,.int .i64 x.layer,.int .i64 x.lower,.int .i64 x.low,.int .i64 x.high,.int .i64 x.cost,.int .i64 x.void] 25)=w1:=⟨_,rfl⟩
 have hb1:Below w.heap.size w w1:=(by rw [←hw1];exact (Below.refl _ w).alloc (Nat.le_refl _) _)
 have hz1:w1.heap.size=w.heap.size+1:=(by rw [←hw1];simp)
 have hh1:w1.heap[w.heap.size]? = some (.cells #[.int .i64 x.id,.int .i64 x.known,.int .u8 x.kind,.int .i64 x.pit,.int .i64 x.layer,.int .i64 x.lower,.int .i64 x.low,.int .i64 x.high,.int .i64 x.cost,.int .i64 x.void] 25 (0,0)):=(by rw [←hw1];exact heap_alloc_new w _)
 have CX:Hid (∀ W,Below w1.heap.size w1 W→W.cell? ⟨w.heap.size,1,none⟩=some (.int .i64 x.known)):=(show ∀ W,_→_ from fun W h=>by
  have:=(h.block w.heap.size (by omega)).trans hh1
  simp [World.cell?,this])
 have HAP:=Lib.hid (Append_any A n c l x w1 (hl.below hb1 (Nat.le_refl _)));have HK1:=Lib.hid (fun W (h:Below w1.heap.size w1 W)=>asked_any A n c l x.known bA bn bc bs W (hl.below (hb1.trans (h.mono hb1.size)) (Nat.le_refl _)) (hb.below (hb1.trans (h.mono hb1.size)) (Nat.le_refl _)))
 have HBD:Hid (∀ W,Below w1.heap.size w1 W→Rd encBond 5 W bA bn bc bs):=(show ∀ W,_→_ from fun W h=>hb.below (hb1.trans (h.mono hb1.size)) (Nat.le_refl _))
 have HB1:=Lib.hid hb1;have HW1:=Lib.hid hw1;have hal:=append_len (l:=l) (x:=x);have hnb:=hl.big
 have x0:w1.cell? ⟨w.heap.size,0,none⟩=some (.int .i64 x.id):=(by simp [World.cell?,hh1])
 have x1:w1.cell? ⟨w.heap.size,1,none⟩=some (.int .i64 x.known):=(by simp [World.cell?,hh1])
 have x2:w1.cell? ⟨w.heap.size,2,none⟩=some (.int .u8 x.kind):=(by simp [World.cell?,hh1])
 have x3:w1.cell? ⟨w.heap.size,3,none⟩=some (.int .i64 x.pit):=(by simp [World.cell?,hh1])
 have x4:w1.cell? ⟨w.heap.size,4,none⟩=some (.int .i64 x.layer):=(by simp [World.cell?,hh1])
 have x5:w1.cell? ⟨w.heap.size,5,none⟩=some (.int .i64 x.lower):=(by simp [World.cell?,hh1])
 have x6:w1.cell? ⟨w.heap.size,6,none⟩=some (.int .i64 x.low):=(by simp [World.cell?,hh1])
 have x7:w1.cell? ⟨w.heap.size,7,none⟩=some (.int .i64 x.high):=(by simp [World.cell?,hh1])
 have x8:w1.cell? ⟨w.heap.size,8,none⟩=some (.int .i64 x.cost):=(by simp [World.cell?,hh1])
 have x9:w1.cell? ⟨w.heap.size,9,none⟩=some (.int .i64 x.void):=(by simp [World.cell?,hh1])
 clear hl hb hh1 hw1 hb1;by_cases ha:(appendV l x).2=0
 case neg=>
  have hE:reachedE l x bs=(appendV l x).2:=by unfold reachedE;rw [if_pos ha]
  have hV:reachedV l x bs = []:=by unfold reachedV;rw [hE,if_pos ha]
  rw [hE,hV];have ha':((appendV l x).2 != 0)=true:=by simpa using ha
  clear hE hV;generalize appendV l x=av at *;obtain ⟨l',e1⟩:=av;simp only at ha ha' HAP hal ⊢;go_enter Tryz.func69,Tryz.ntmps69
  go_wp2_with (first
   | rw [HW1.out]
   | (go_at_call 36;(with_reducible refine HAP.out.mono ?_);rintro e w2 ⟨A2,c2,rfl,hb2,hO2⟩;have HB2:=Lib.hid hb2;clear hb2 hO2))
  go_ret2;exact ⟨none,0,rfl,HB1.out.trans (HB2.out.mono (by omega)),Own.none_ _ _ _ _ _⟩
 case pos=>
 by_cases hk1:askErr l x.known bs=0
 case neg=>
  have hE:reachedE l x bs=askErr l x.known bs:=by unfold reachedE;rw [if_neg (by simpa using ha),if_pos hk1]
  have hV:reachedV l x bs = []:=by unfold reachedV;rw [hE,if_pos hk1]
  rw [hE,hV];have hk1':(askErr l x.known bs != 0)=true:=by simpa using hk1
  clear hE hV;generalize appendV l x=av at *;obtain ⟨l',e1⟩:=av;simp only at ha HAP hal ⊢;subst ha;go_enter Tryz.func69,Tryz.ntmps69
  go_wp2_with (first
   | rw [HW1.out]
   | (go_at_call 36;(with_reducible refine HAP.out.mono ?_);rintro e w2 ⟨A2,c2,rfl,hb2,hO2⟩;have HB2:=Lib.hid hb2;have y1:=CX.out w2 hb2;clear hb2 hO2)
   | (go_at_call 72;(with_reducible refine (HK1.out _ HB2.out).mono ?_);rintro e w3 ⟨q,rfl,hb3,_⟩;have HB3:=Lib.hid (HB2.out.trans (hb3.mono HB2.out.size));clear hb3))
  go_ret2;exact ⟨none,0,rfl,HB1.out.trans (HB3.out.mono (by omega)),Own.none_ _ _ _ _ _⟩
 case pos=>
 by_cases hk2:askErr (appendV l x).1 x.known bs=0
 case neg=>
  have hE:reachedE l x bs=askErr (appendV l x).1 x.known bs:=by unfold reachedE;rw [if_neg (by simpa using ha),if_neg (by simpa using hk1)]
  have hV:reachedV l x bs = []:=by unfold reachedV;rw [hE,if_pos hk2]
  rw [hE,hV];have hk2':(askErr (appendV l x).1 x.known bs != 0)=true:=by simpa using hk2
  clear hE hV;generalize appendV l x=av at *;obtain ⟨l',e1⟩:=av;simp only at ha HAP hal hk2 hk2' ⊢;subst ha;rw [hk1] at HK1;go_enter Tryz.func69,Tryz.ntmps69
  go_wp2_with (first
   | rw [HW1.out]
   | (go_at_call 36;(with_reducible refine HAP.out.mono ?_);rintro e w2 ⟨A2,c2,rfl,hb2,hO2⟩
      have HB2:=Lib.hid hb2;have y1:=CX.out w2 hb2;have HK2:=Lib.hid (fun W (h:Below w2.heap.size w2 W)=>asked_any A2 l'.length c2 l' x.known bA bn bc bs W ((hO2.below h (Nat.le_refl _)).rd (fun _=>rfl) (by omega)) (HBD.out W (hb2.trans (h.mono hb2.size))))
      clear hb2 hO2)
   | (go_at_call 72;(with_reducible refine (HK1.out _ HB2.out).mono ?_);rintro e w3 ⟨q,rfl,hb3,_⟩;have HB23:=Lib.hid hb3;have HB3:=Lib.hid (HB2.out.trans (hb3.mono HB2.out.size));have y2:=CX.out w3 HB3.out;clear hb3)
   | (go_at_call 72;(with_reducible refine (HK2.out _ HB23.out).mono ?_);rintro e w4 ⟨q2,rfl,hb4,_⟩;have HB4:=Lib.hid (HB3.out.trans (hb4.mono HB3.out.size));clear hb4))
  go_ret2;exact ⟨none,0,rfl,HB1.out.trans (HB4.out.mono (by omega)),Own.none_ _ _ _ _ _⟩
 case pos=>
  have hE:reachedE l x bs=0:=by unfold reachedE;rw [if_neg (by simpa using ha),if_neg (by simpa using hk1)];exact hk2
  have hV:reachedV l x bs=reachedL (counting l x.known) (counting (appendV l x).1 x.known) bs:=by unfold reachedV;rw [hE];rfl
  rw [hE,hV];have F1:=Lib.hid (ordFacts hk1);have F2:=Lib.hid (ordFacts hk2);clear hE hV;generalize appendV l x=av at *;obtain ⟨l',e1⟩:=av;simp only at ha HAP hal hk2 F2 ⊢;subst ha;rw [hk1] at HK1;unfold reachedL;have p1:=F1.out.o.pn;have p2:=F2.out.o.pn
  obtain ⟨ps1,hp1⟩:∃ ps1,placesOf (counting l x.known) bs=ps1:=⟨_,rfl⟩
  obtain ⟨ps2,hp2⟩:∃ ps2,placesOf (counting l' x.known) bs=ps2:=⟨_,rfl⟩
  have hp1':=hp1;have hp2':=hp2;rw [hp1] at p1 ⊢;rw [hp2] at p2 ⊢;have HP1:=Lib.hid hp1;have HP2:=Lib.hid hp2;clear hp1 hp2 hp1' hp2'
  obtain ⟨m1,hm1⟩:∃ m1,spnM (counting l x.known) bs=m1:=⟨_,rfl⟩
  obtain ⟨m2,hm2⟩:∃ m2,spnM (counting l' x.known) bs=m2:=⟨_,rfl⟩
  rw [hm1,hm2];have HM1:=Lib.hid hm1;have HM2:=Lib.hid hm2;clear hm1 hm2 hk1
  obtain ⟨zs,hzse⟩:∃ zs,ps1++ps2=zs:=⟨_,rfl⟩
  rw [hzse];have HZS:=Lib.hid hzse;clear hzse;go_enter Tryz.func69,Tryz.ntmps69
  go_upto_region 12 with (first
   | rw [HW1.out]
   | (go_at_call 36;(with_reducible refine HAP.out.mono ?_);rintro e w2 ⟨A2,c2,rfl,hb2,hO2⟩
      have HB2:=Lib.hid hb2;have y1:=CX.out w2 hb2;have HK2:=Lib.hid (fun W (h:Below w2.heap.size w2 W)=>asked_any A2 l'.length c2 l' x.known bA bn bc bs W ((hO2.below h (Nat.le_refl _)).rd (fun _=>rfl) (by omega)) (HBD.out W (hb2.trans (h.mono hb2.size))));rw [hk2] at HK2
      clear hb2 hO2)
   | (go_at_call 72;(with_reducible refine (HK1.out _ HB2.out).mono ?_);rintro e w3 ⟨q,rfl,hb3,hq⟩;obtain ⟨o1,rfl,hor1⟩:=hq trivial;have HO1:=Lib.hid hor1;have HB23:=Lib.hid hb3;have HB3:=Lib.hid (HB2.out.trans (hb3.mono HB2.out.size));have y2:=CX.out w3 HB3.out;clear hb3 hor1 hq)
   | (go_at_call 72;(with_reducible refine (HK2.out _ HB23.out).mono ?_);rintro e w4 ⟨q2,rfl,hb4,hq2⟩;obtain ⟨o2,rfl,hor2⟩:=hq2 trivial;have HO2:=Lib.hid hor2;have HB4:=Lib.hid (HB3.out.trans (hb4.mono HB3.out.size));have HO14:=Lib.hid (HO1.out.below hb4 (Nat.le_refl _));clear hb4 hor2 hq2)
   | (go_at_call 125;(with_reducible refine (spans_ord _ o1 bA bn bc bs _ _ w4 HO14.out (HBD.out _ HB4.out) F1.out.o F1.out.t).mono ?_);rintro e w5 ⟨mb1,rfl,hb5,hl5,hu5,hmp5⟩;have HB5:=Lib.hid (HB4.out.trans (hb5.mono HB4.out.size));have HO15:=Lib.hid (HO14.out.below hb5 (Nat.le_refl _));have HO25:=Lib.hid (HO2.out.below hb5 (Nat.le_refl _));rw [HM1.out] at hmp5;have HMP5:=Lib.hid hmp5;clear hb5 hmp5)
   | (go_at_call 125;(with_reducible refine (spans_ord _ o2 bA bn bc bs _ _ w5 HO25.out (HBD.out _ HB5.out) F2.out.o F2.out.t).mono ?_);rintro e w6 ⟨mb2,rfl,hb6,hl6,hu6,hmp6⟩;have HB6:=Lib.hid (HB5.out.trans (hb6.mono HB5.out.size));have HO16:=Lib.hid (HO15.out.below hb6 (Nat.le_refl _));have HO26:=Lib.hid (HO25.out.below hb6 (Nat.le_refl _));rw [HM2.out] at hmp6;have HMP6:=Lib.hid hmp6;have HMP56:=Lib.hid (HMP5.out.below hb6 (by omega));have hz6:=hb6.size;have hmk:=fun t w=>run_makeMap (P:=Tryz.prog) t w;clear hb6 hmp6))
  clear hmk
  obtain ⟨w7,hw7⟩:∃ w7,w6.alloc (.map #[] 0)=w7:=⟨_,rfl⟩
  obtain ⟨mb,hmb⟩:∃ mb,w6.heap.size=mb:=⟨_,rfl⟩
  have hb67:Below w6.heap.size w6 w7:=(by rw [←hw7];exact (Below.refl _ _).alloc (Nat.le_refl _) _)
  have hz7:w7.heap.size=mb+1:=(by rw [←hw7,←hmb];simp)
  have HMP7:Hid (MapP eBool w7 mb []):=(show MapP eBool w7 mb [] by rw [←hw7,←hmb];exact MapP.made w6)
  have hmo:w7.heap[mb]? = some (.map #[] 0):=(by rw [←hw7,←hmb];exact heap_alloc_new w6 _)
  have HMO:=Lib.hid hmo;have HMA:=Lib.hid (HMP56.out.below hb67 (by omega));have HMC:=Lib.hid (HMP6.out.below hb67 (by omega));have HB7:=Lib.hid (HB6.out.trans (hb67.mono HB6.out.size));have hm1lt:=HMP56.out.lt;obtain ⟨_,At1,ct1,Ap1,cp1,Aa1,ca1,hob1,_,t1,_⟩:=HO16.out.below hb67 (Nat.le_refl _);obtain ⟨_,At2,ct2,Ap2,cp2,Aa2,ca2,hob2,_,t2,_⟩:=HO26.out.below hb67 (Nat.le_refl _);rw [HP1.out] at hob1 t1;rw [HP2.out] at hob2 t2
  have CE:Hid (∀ W,Below w7.heap.size w7 W→W.cell? ⟨o1,2,none⟩=some (.slice Ap1 ps1.length cp1)∧W.cell? ⟨o2,2,none⟩=some (.slice Ap2 ps2.length cp2)):=(show ∀ W,_→_ from fun W h=>by
   have e1:=(h.block o1 (Array.getElem?_eq_some_iff.1 hob1).1).trans hob1;have e2:=(h.block o2 (Array.getElem?_eq_some_iff.1 hob2).1).trans hob2
   exact ⟨by simp [World.cell?,e1],by simp [World.cell?,e2]⟩)
  have HR1:Hid (∀ W,Below w7.heap.size w7 W→Rd encPlace 2 W Ap1 ps1.length cp1 ps1):=(show ∀ W,_→_ from fun W h=>(t1.below h (Nat.le_refl _)).rd (fun _=>rfl) (by omega))
  have HR2:Hid (∀ W,Below w7.heap.size w7 W→Rd encPlace 2 W Ap2 ps2.length cp2 ps2):=(show ∀ W,_→_ from fun W h=>(t2.below h (Nat.le_refl _)).rd (fun _=>rfl) (by omega))
  rw [hw7];simp only [hmb];clear hw7 hb67 hob1 hob2 t1 t2 HO16 HO26 HO15 HO25 HO14 HO1 HO2 HMP56 HMP6 HMP5 hmo F1 F2 HM1 HM2 HP1 HP2 HAP HK1 HK2 y1 y2;refine rch12 _ rfl o1 o2 Ap1 ps1.length cp1 Ap2 ps2.length cp2 ps1 ps2 _ w7 _ rfl rfl rfl CE.out HR1.out HR2.out (by omega) (by omega) ?_;intro nb A8 c8 w8 hb8 hO8;have hzs:(ps1++ps2).length=ps1.length+ps2.length:=List.length_append
  obtain ⟨nz,hnz⟩:∃ nz,ps1.length+ps2.length=nz:=⟨_,rfl⟩
  rw [HZS.out] at hO8 hzs;rw [hnz] at hO8 hzs
  have hn9:nz≤2000:=(by omega)
  have hz8:=hb8.size;have hz17:=HB7.out.size;have hm8:=(hb8.block mb (by omega)).trans HMO.out
  have KF:Hid (∀ W,w8.grownBy W (some mb)→MapP spanE W mb1 m1∧MapP spanE W mb2 m2∧Rd encPlace 2 W A8 nz c8 zs∧Below w.heap.size w W):=(show ∀ W,_→_ from fun W h=>
   ⟨(HMA.out.below hb8 (by omega)).kept h (by simp;omega),(HMC.out.below hb8 (by omega)).kept h (by simp;omega),(hO8.kept h (hO8.ne hm8 (fun cur e=>by cases e))).rd (fun _=>rfl) (by omega),
     ((HB1.out.trans (HB7.out.mono (by omega))).trans (hb8.mono (by omega))).grown h (by omega) (fun j e=>by cases e;omega)⟩)
  have HMP8:=Lib.hid (HMP7.out.below hb8 (by omega));simp only [setsL,Trch12,List.getD_cons_zero,List.getD_cons_succ,Nat.reduceAdd,List.setIfInBounds_toArray,List.set_cons_succ,List.set_cons_zero,hnz];clear hb8 hO8 hm8 CE HR1 HR2 HMA HMC HMO HMP7 HB7 HB6 HB5 HB4 HB3 HB23 HB2 HBD CX x0 x1 x2 x3 x4 x5 x6 x7 x8 x9 hnz;go_wp2;go_loopw [64] (fun s64 wr=> ∃ (k:Nat) (m:List (Place×Bool)),k≤nz∧s64 = .int .i64 k∧Hid (w8.grownBy wr (some mb))∧Hid (MapP eBool wr mb m)∧Hid (∀ q,q∈m.map (·.1)↔q∈(zs.take k).filter (differ m1 m2))) (fun s64 _=>nz-(intOf s64).toNat)
  case atStart=>exact ⟨0,[],Nat.zero_le _,rfl,(show w8.grownBy w8 _ from ⟨rfl,rfl,rfl,Nat.le_refl _,fun _ _ _=>rfl⟩),HMP8,(show ∀ q,_↔_ from fun q=>by simp)⟩
  case round=>
   obtain ⟨k,m,hk,rfl,hgr,hmp,hks⟩:=hrel;rename World=>wr;have hzr:=hgr.out.size;obtain ⟨ka,kb,kr,kw⟩:=KF.out wr hgr.out;by_cases hlt:k<nz
   · obtain ⟨bp,op,p,hAp,hbpw,hp,hcp⟩:=kr.one hlt
     subst hAp;have p0:wr.cell? ⟨bp,op+k * 2,none⟩=some (.int .i64 p.pit):=hcp 0 _ rfl;have p1:wr.cell? ⟨bp,op+k * 2+1,none⟩=some (.int .i64 p.layer):=hcp 1 _ rfl
     have HTK:Hid (zs.take (k+1)=zs.take k ++ [p]):=(show _=_ by rw [List.take_add_one,hp];rfl)
     clear hcp hp ka kb kr kw;have hw9:Below wr.heap.size wr (wr.alloc (.cells #[.int .i64 p.pit,.int .i64 p.layer] 37)):=(Below.refl _ _).alloc (Nat.le_refl _) _;have HG9:=Lib.hid (grownBy_below hgr.out hw9);have HM9:=Lib.hid (hmp.out.below hw9 (by omega));have hd0:differ m1 m2 p = !eqSpn (spnAt m1 p) (spnAt m2 p):=rfl
     obtain ⟨w9,hw99⟩:∃ w9,wr.alloc (.cells #[.int .i64 p.pit,.int .i64 p.layer] 37)=w9:=⟨_,rfl⟩
     have hh9:w9.heap[wr.heap.size]? = some (.cells #[.int .i64 p.pit,.int .i64 p.layer] 37 (0,0)):=(by rw [←hw99];exact heap_alloc_new wr _)
     have hz9:wr.heap.size<w9.heap.size:=(by rw [←hw99];simp)
     rw [hw99] at HG9 HM9 hw9
     have CE9:Hid (∀ W,Below w9.heap.size w9 W→W.cell? ⟨wr.heap.size,0,none⟩=some (.int .i64 p.pit)∧W.cell? ⟨wr.heap.size,1,none⟩=some (.int .i64 p.layer)∧
      (Instr.lookup 171 (.map (some mb1)) (.agg #[.int .i64 p.pit,.int .i64 p.layer]) false).run Tryz.prog W = .ok (.agg #[.int .i64 (spnAt m1 p).low,.int .i64 (spnAt m1 p).high,.bool (spnAt m1 p).isLow,.bool (spnAt m1 p).isHigh,.bool (spnAt m1 p).place,.bool (spnAt m1 p).possible]) W∧
      (Instr.lookup 171 (.map (some mb2)) (.agg #[.int .i64 p.pit,.int .i64 p.layer]) false).run Tryz.prog W = .ok (.agg #[.int .i64 (spnAt m2 p).low,.int .i64 (spnAt m2 p).high,.bool (spnAt m2 p).isLow,.bool (spnAt m2 p).isHigh,.bool (spnAt m2 p).place,.bool (spnAt m2 p).possible]) W):=(show ∀ W,_→_ from fun W h=>by
        have h1:=(h.block wr.heap.size hz9).trans hh9;have h2:=grownBy_below HG9.out h
        exact ⟨by simp [World.cell?,h1],by simp [World.cell?,h1],lookup_spn (KF.out W h2).1 p,lookup_spn (KF.out W h2).2.1 p⟩)
     have HW99:=Lib.hid hw99;have HH9:=Lib.hid hh9
     obtain ⟨s1,hs1⟩:∃ s1,spnAt m1 p=s1:=⟨_,rfl⟩
     obtain ⟨s2,hs2⟩:∃ s2,spnAt m2 p=s2:=⟨_,rfl⟩
     rw [hs1,hs2] at CE9 hd0;clear hs1 hs2 hw9 hw99 hh9;cases hdf:eqSpn s1 s2
     all_goals
      rw [hdf] at hd0;have HD:=Lib.hid hd0;clear hd0
      go_upto_region 15 with (rw [HW99.out])
      refine rch15 _ rfl mb1 mb2 wr.heap.size p s1 s2 _ _ w9 _ rfl rfl rfl rfl CE9.out (congrArg not hdf) ?_;intro w15 hb15;have HG15:=Lib.hid (grownBy_below HG9.out hb15);have HM15:=Lib.hid (HM9.out.below hb15 HM9.out.lt);have hh15:=(hb15.block wr.heap.size hz9).trans HH9.out
      have p20:w15.cell? ⟨wr.heap.size,0,none⟩=some (.int .i64 p.pit):=(by simp [World.cell?,hh15])
      have p21:w15.cell? ⟨wr.heap.size,1,none⟩=some (.int .i64 p.layer):=(by simp [World.cell?,hh15])
      clear hb15 hh15;simp only [setsL,Trch15,Bool.not_true,Bool.not_false,Nat.reduceAdd,List.setIfInBounds_toArray,List.set_cons_succ,List.set_cons_zero]
      go_wp2_with (first
       | (at_mapUpdate;refine wpList_mapUpdatePl (E:=eBool) rfl _ _ _ 173 rfl Tryz.underlying173 p true rfl rfl rfl HM15.out ?_;intro w12 hm12 hg12 hs12;have HM12:=Lib.hid hm12;have HG12:=Lib.hid (grownBy_trans HG15.out hg12);clear hm12 hg12))
      go_roundw
     all_goals first
      | (simp [intOf];omega)
      | (refine ⟨k+1,putM m p true,by omega,by go_num,HG12,HM12,(show ∀ q,_↔_ from fun q=> ?_)⟩
         have hd:=HD.out;rw [HTK.out,List.filter_append,List.mem_append,keys_putM,hks.out];simp only [List.filter_cons,hd,Bool.not_false,if_true,List.filter_nil,List.mem_singleton]
         exact Or.comm)
      | (refine ⟨k+1,m,by omega,by go_num,(show w8.grownBy _ _ from HG15.out),(show MapP _ _ _ _ from HM15.out),(show ∀ q,_↔_ from fun q=> ?_)⟩
         have hd:=HD.out;rw [HTK.out,List.filter_append,List.mem_append,hks.out]
         simp [hd])
   · have hkn:k=nz:=by omega
     subst hkn;have hks2:∀ q,q∈m.map (·.1)↔q∈zs.filter (differ m1 m2):=fun q=>by have:=hks.out q;rwa [List.take_of_length_le (by omega)] at this
     have hml:m.length≤1000000000:=(by
      rw [keys_len hmp.out.once hks2];have h1:=len_uniq_le (zs.filter (differ m1 m2));have h2:=List.length_filter_le (differ m1 m2) zs
      omega)
     have HSR:=Lib.hid (reached_sorted hmp.out.once hks2);have HKW:=Lib.hid kw;clear hks hks2 ka kb kr kw;go_wp2_with (go_at_call 127;refine (sorted_b _ m _ hmp.out hml).mono ?_;rintro e w9 ⟨A9,c9,rfl,hO9,hb9⟩);go_ret2;have hl9:=hO9.len;rw [HSR.out] at hO9 hl9;rw [hl9];have:=HKW.out.size;exact ⟨A9,c9,rfl,HKW.out.trans (hb9.mono (by omega)),hO9.mono (by omega)⟩
end Go.Proofs.YtelnkflmnbhclaaGreat
end

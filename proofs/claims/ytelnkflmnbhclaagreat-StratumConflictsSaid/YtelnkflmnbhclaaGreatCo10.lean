/- Contracts that the laws lean on: RefS, RPnt, R1Sy, RSuR, RSum, RSlR, RSyR, RSys, REno. -/
import Derived.Test.YtelnkflmnbhclaaGreatCo01
import Derived.Test.YtelnkflmnbhclaaGreatK14
import Derived.Test.YtelnkflmnbhclaaGreatK17
import Derived.Test.YtelnkflmnbhclaaGreatK08
import Derived.Test.YtelnkflmnbhclaaGreatK13
import Derived.Test.YtelnkflmnbhclaaGreatCo02
import Derived.Test.YtelnkflmnbhclaaGreatCo06
import Derived.Test.YtelnkflmnbhclaaGreatK02
import Derived.Test.YtelnkflmnbhclaaGreatCo08
import Derived.Test.YtelnkflmnbhclaaGreatCo09
import Derived.Test.YtelnkflmnbhclaaGreatK18
section
namespace Go.Proofs.YtelnkflmnbhclaaGreat
open Go.RowKit Go.Proofs Go.Shelf
def farV:Int:=1000000000
section
variable {pts:Nat} {K:Int} {x:List Int} {st:Row×Row} {bs:List Bound}
end
structure SmallSys (pts:Int) (bs:List Bound):Prop where
 ok:SysOk pts bs
 p:pts≤51
 m:∀ b∈bs,-10000≤b.most∧b.most≤10000
section
variable {pts:Int} {bs:List Bound}
theorem SmallSys.in_ (h:SmallSys pts bs):∀ b∈bs,b.src.toNat<pts.toNat∧b.dst.toNat<pts.toNat∧ -10000≤b.most∧b.most≤10000:=fun b hb=>by
 have:=h.ok.b b hb
 have:=h.ok.p1
 have:=h.m b hb
 refine ⟨?_,?_,?_,?_⟩<;>omega
theorem val_replicate (n:Nat) (a:Int) (v:Nat):val (List.replicate n a) v=if v<n then a else 0:=by
 unfold val
 rw [List.getD_eq_getElem?_getD,List.getElem?_replicate]
 split<;>rfl
end
theorem smallSys_years {ts:List Trace} {bs:List Bond} (h:OkO ts bs) (mv:List Place):SmallSys ((placesOf ts bs).length+1) (sysB ts bs mv):=by
 refine ⟨sysOk_of (checkSys_years h mv),by have:=h.pn;omega,fun b hb=> ?_⟩
 unfold sysB at hb
 obtain ⟨x,hx,rfl⟩:=List.mem_map.1 hb
 obtain ⟨_,_,_,g4,g5,_,_⟩:=linksL_good h mv x hx
 exact ⟨g4,g5⟩
end Go.Proofs.YtelnkflmnbhclaaGreat
end
section
namespace Go.Proofs.YtelnkflmnbhclaaGreat
open Go.RowKit Go.Proofs Go.Shelf
set_option maxHeartbeats 1000000 in
set_option maxRecDepth 100000 in
theorem rpoint_any (A:Option Addr) (n c:Nat) (ps:List Place) (p:Place) (v:Int) (w:World) (hl:Rd encPlace 2 w A n c ps) (hn:ps.Nodup) (hz:z00∉ps) (hv:getM (ptsM ps ps.length) p=some v) (hbig:n≤1000000):
 Calls Tryz.prog 107 #[.slice A n c,.agg #[.int .i64 p.pit,.int .i64 p.layer]] w fun e w'=>e = .returned (.int .i64 v)∧Below w.heap.size w w':=by
 have hlen:=Lib.hid hl.len
 have HV:=Lib.hid hv
 have HN:=Lib.hid hn
 have hfrom:=ptsM_from ps _ (Nat.le_refl _) p v hv
 cases q0:eqPlace ⟨p.pit,p.layer⟩ ⟨0,0⟩ with
 | true=>
   have hp0:p=z00:=eqPlace_iff.1 q0
   have hv0:v=0:=by
    have:=ptsM_zero ps hz _ (Nat.le_refl _)
    rw [←hp0,hv] at this
    exact Option.some.inj this
   subst hv0
   clear hfrom hv hn hz hp0 hl
   go_enter Tryz.func107,Tryz.ntmps107
   go_wp2_with (fail)
   go_ret
   exact ⟨rfl,(Below.refl _ w).alloc (Nat.le_refl _) _⟩
 | false=>
   have hp0:p≠z00:=eqPlace_no.1 q0
   obtain ⟨i0,hi0,hpi0,hvi0⟩:∃ i:Nat,i<ps.length∧ps[i]? = some p∧v=i+1:=by
    rcases hfrom with ⟨h,_⟩|h
    · exact absurd h hp0
    · exact h
   have HI0:=Lib.hid (And.intro hi0 hpi0)
   clear hfrom hv hn hz hp0 hi0 hpi0 hvi0
   go_enter Tryz.func107,Tryz.ntmps107
   go_wp2_with (fail)
   go_loopw [5] (fun i wr=> ∃ k:Nat,k≤n∧i = .int .i64 k∧Below (w.heap.size+1) (w.alloc (.cells #[.int .i64 p.pit,.int .i64 p.layer] 37)) wr∧Hid (∀ q x,q<k→ps[q]? = some x→eqPlace x p=false)) (fun i _=>n-(intOf i).toNat)
   case atStart=>exact ⟨0,Nat.zero_le _,rfl,Below.refl _ _,fun k x h=>absurd h (by omega)⟩
   case round=>
    obtain ⟨k,hk,rfl,hb,hno⟩:=hrel
    have hzr:=hb.size
    simp only [World.size_alloc] at hzr
    have hbw0:Below w.heap.size w wr:=((Below.refl _ w).alloc (Nat.le_refl _) _).trans (hb.mono (by omega))
    obtain ⟨hcc,hff⟩:=bcell hb
    have p0:wr.cell? ⟨w.heap.size,0,none⟩=some (.int .i64 p.pit):=by rw [hcc _ _ (by omega)];simp
    have p1:wr.cell? ⟨w.heap.size,1,none⟩=some (.int .i64 p.layer):=by rw [hcc _ _ (by omega)];simp
    clear hcc hff
    by_cases hlt:k<n
    · have hlr:=hl.below hbw0 (Nat.le_refl _)
      obtain ⟨b,off,x,rfl,hbw,hx,hcell⟩:=hlr.one hlt
      have c0:wr.cell? ⟨b,off+k * 2,none⟩=some (.int .i64 x.pit):=hcell 0 _ rfl
      have c1:wr.cell? ⟨b,off+k * 2+1,none⟩=some (.int .i64 x.layer):=hcell 1 _ rfl
      have HX:=Lib.hid hx
      clear hlr hcell hx
      cases hq:eqPlace x p
      · have HQ:=Lib.hid hq
        go_wp2_with (fail)
        go_region
        all_goals go_wp2
        all_goals go_roundw
        all_goals first
         | exact ⟨k+1,by omega,by go_num,hb.drew,fun q y hqk hy=>(by
            by_cases hkq:q<k
            · exact hno.out q y hkq hy
            · have:q=k:=(by omega)
              subst this
              rw [HX.out] at hy
              cases hy
              exact HQ.out)⟩
         | (simp [intOf];omega)
      · have HQ:=Lib.hid hq
        have hvk:v=k+1:=by
         have hxp:x=p:=eqPlace_iff.1 HQ.out
         have h1:=ptsM_at ps HN.out _ (Nat.le_refl _) k p (by rw [hlen.out];exact hlt) (by rw [HX.out,hxp])
         rw [HV.out] at h1
         exact Option.some.inj h1
        subst hvk
        clear HV
        go_wp2_with (fail)
        go_region
        all_goals go_wp2
        all_goals go_ret
        all_goals exact ⟨by first|rfl|(congr 2;go_num),hbw0.drew⟩
    · exfalso
      obtain ⟨h1,h2⟩:=HI0.out
      have h3:=hno.out i0 p (by have:=hlen.out;omega) h2
      rw [eqPlace_iff.2 rfl] at h3
      cases h3
end Go.Proofs.YtelnkflmnbhclaaGreat
end
section
namespace Go.Proofs.YtelnkflmnbhclaaGreat
open Go.RowKit Go.Proofs Go.Shelf
end Go.Proofs.YtelnkflmnbhclaaGreat
end
section
namespace Go.Proofs.YtelnkflmnbhclaaGreat
open Go.RowKit Go.Proofs
end Go.Proofs.YtelnkflmnbhclaaGreat
end
section
namespace Go.Proofs.YtelnkflmnbhclaaGreat
open Go.RowKit Go.Proofs Go.Shelf
theorem el_at {xs:List Int} {lo hi:Int} (h:∀ v∈xs,lo≤v∧v≤hi) {i:Nat} (hi':i<xs.length):lo≤xs.getD i 0∧xs.getD i 0≤hi:=by
 rw [List.getD_eq_getElem?_getD,List.getElem?_eq_getElem hi']
 exact h _ (List.getElem_mem hi')
theorem el_set {xs:List Int} {lo hi lo':Int} (h:∀ v∈xs,lo≤v∧v≤hi) (hl:lo'≤lo) {i:Nat} {v:Int} (h1:lo'≤v) (h2:v≤hi):∀ u∈xs.set i v,lo'≤u∧u≤hi:=fun u hu=>by
 rcases List.mem_or_eq_of_mem_set hu with h3|h3
 · have:=h u h3;omega
 · subst h3;exact ⟨h1,h2⟩
end Go.Proofs.YtelnkflmnbhclaaGreat
end
section
namespace Go.Proofs.YtelnkflmnbhclaaGreat
open Go.RowKit Go.Proofs Go.Shelf
def SlvI (m:Nat) (ok:Bool) (w:World):List Value→World→Prop
 | [],W=>Below w.heap.size w W
 | [v],W=>Below w.heap.size w W∧∃ Az cz,v = .slice Az m cz∧Rd encInt 1 W Az m cz (List.replicate m 0)
 | [_,u],W=>Below w.heap.size w W∧∃ A' n' c',u = .tuple #[.slice A' n' c',.bool ok]
 | _,_=>False
theorem SlvI.two {m:Nat} {ok:Bool} {w W:World} {cv:List Value} (hl:2≤cv.length) (h:SlvI m ok w cv W):∃ v A' n' c',cv = [v,.tuple #[.slice A' n' c',.bool ok]]:=by
 match cv,hl,h with
 | [v,u],_,⟨_,A',n',c',e⟩=>exact ⟨v,A',n',c',by rw [e]⟩
 | [],hl,_=>simp at hl
 | [_],hl,_=>simp at hl
end Go.Proofs.YtelnkflmnbhclaaGreat
end
section
namespace Go.Proofs.YtelnkflmnbhclaaGreat
open Go.RowKit Go.Proofs Go.Shelf
def codeSys5:Option Code→Code
 | some (.seq _ (.seq _ (.seq (.seq _ (.block _ (.loop (.seq _ (.seq (.block _ c) _))))) _)))=>c
 | _=> .skip
def SysCells (bl ol k gs:Nat) (_:Int) (As:Option Addr) (ns cs:Nat) (x:Link) (w:World):Prop:=∀ W,w.grownBy W (blockOf As)→W.cell? ⟨bl,ol+k * 6,none⟩=some (.int .i64 x.src.pit)∧W.cell? ⟨bl,ol+k * 6+1,none⟩=some (.int .i64 x.src.layer)∧W.cell? ⟨bl,ol+k * 6+2,none⟩=some (.int .i64 x.dst.pit)∧W.cell? ⟨bl,ol+k * 6+3,none⟩=some (.int .i64 x.dst.layer)∧
 W.cell? ⟨bl,ol+k * 6+4,none⟩=some (.int .i64 x.most)∧W.cell? ⟨bl,ol+k * 6+5,none⟩=some (.int .i64 x.by_)∧W.cell? ⟨gs,1,none⟩=some (.slice As ns cs)∧W.frozen? ⟨gs,1,none⟩=false
def SysI (gs B:Nat) (As:Option Addr) (ns _:Nat) (xs:List Bound) (b:Bound) (w:World):List Value→World→Prop
 | [],W=>Below w.heap.size w W
 | [v],W=>Below w.heap.size w W∧∃ nb,v = .slice (some ⟨nb,0,none⟩) 1 1∧Rd encBound 4 W (some ⟨nb,0,none⟩) 1 1 [b]
 | [v,u],W=>w.grownBy W (blockOf As)∧∃ nb A' c',v = .slice (some ⟨nb,0,none⟩) 1 1∧u = .slice A' (ns+1) c'∧Own encBound 4 186 B W A' (ns+1) c' (xs ++ [b])
 | [v,u,_],W=> ∃ W0,w.grownBy W0 (blockOf As)∧∃ nb A' c',v = .slice (some ⟨nb,0,none⟩) 1 1∧u = .slice A' (ns+1) c'∧Own encBound 4 186 B W0 A' (ns+1) c' (xs ++ [b])∧W=W0.setCell ⟨gs,1,none⟩ u
 | _,_=>False
theorem SysI.grown {gs B:Nat} {As:Option Addr} {ns cs:Nat} {xs:List Bound} {b:Bound} {w W:World} {cv:List Value} (h:SysI gs B As ns cs xs b w cv W) (hl:cv.length≤1):w.grownBy W (blockOf As):=by
 match cv,h,hl with
 | [],h,_=>exact ⟨h.os,h.tape,h.output,h.size,fun i hi _=>h.block i hi⟩
 | [v],⟨h,_⟩,_=>exact ⟨h.os,h.tape,h.output,h.size,fun i hi _=>h.block i hi⟩
 | _::_::_,_,hl=>simp at hl
def Trsys5 (Ap:Option Addr) (n cp bl ol m cl gs k:Nat) (_:Int) (As:Option Addr) (ns cs:Nat) (x:Link) (v1 v2:Int) (_:Nat) (_:List Bound) (cv:List Value):List Value:=
 [.pointer (some ⟨gs,0+1,none⟩),.slice As ns cs,.slice Ap n cp,.slice (some ⟨bl,ol,none⟩) m cl,.int .i64 k,.pointer (some ⟨bl,ol+k * 6,none⟩),.pointer (some ⟨bl,ol+k * 6,none⟩),.agg #[.int .i64 x.src.pit,.int .i64 x.src.layer],.int .i64 v1,.slice Ap n cp,.slice (some ⟨bl,ol,none⟩) m cl,.int .i64 k,.pointer (some ⟨bl,ol+k * 6,none⟩),.pointer (some ⟨bl,ol+k * 6+2,none⟩),.agg #[.int .i64 x.dst.pit,.int .i64 x.dst.layer],.int .i64 v2,.slice (some ⟨bl,ol,none⟩) m cl,.int .i64 k,.pointer (some ⟨bl,ol+k * 6,none⟩),.pointer (some ⟨bl,ol+k * 6+4,none⟩),.int .i64 x.most,.slice (some ⟨bl,ol,none⟩) m cl,.int .i64 k,.pointer (some ⟨bl,ol+k * 6,none⟩),.pointer (some ⟨bl,ol+k * 6+5,none⟩),.int .i64 x.by_,.agg #[.int .i64 v1,.int .i64 v2,.int .i64 x.most,.int .i64 x.by_],cv.getD 0 undef,cv.getD 1 undef,.pointer (some ⟨gs,0+1,none⟩),cv.getD 2 undef]
set_option maxRecDepth 100000 in
set_option maxHeartbeats 4000000 in
theorem rsys5 (cC:Code) (hc:cC=codeSys5 Tryz.f106.body) (Ap:Option Addr) (n cp bl ol m cl gs k:Nat) (pts:Int) (As:Option Addr) (ns cs:Nat) (x:Link) (v1 v2:Int) (B:Nat) (xs:List Bound) (a:Act) (w:World) (Q:Exit→Act→World→Prop)
 (hT:a.tmps.size=48) (t0:a.tmps.getD 0 undef = .slice Ap n cp) (t1:a.tmps.getD 1 undef = .slice (some ⟨bl,ol,none⟩) m cl) (t5:a.tmps.getD 5 undef = .pointer (some ⟨gs,0,none⟩)) (t6:a.tmps.getD 6 undef = .int .i64 k)
 (CE:SysCells bl ol k gs pts As ns cs x w) (hown:Own encBound 4 186 B w As ns cs xs) (hB:B≤w.heap.size) (hns:ns≤1000000) (hkm:k<m) (_:m≤1000000)
 (C1:∀ W,Below w.heap.size w W→Calls Tryz.prog 107 #[.slice Ap n cp,.agg #[.int .i64 x.src.pit,.int .i64 x.src.layer]] W fun e w'=>e = .returned (.int .i64 v1)∧Below W.heap.size W w')
 (C2:∀ W,Below w.heap.size w W→Calls Tryz.prog 107 #[.slice Ap n cp,.agg #[.int .i64 x.dst.pit,.int .i64 x.dst.layer]] W fun e w'=>e = .returned (.int .i64 v2)∧Below W.heap.size W w')
 (hQ:∀ nb A' c' W,Own encBound 4 186 B W A' (ns+1) c' (xs ++ [⟨v1,v2,x.most,x.by_⟩])→w.grownBy W (blockOf As)→Q .normal { tmps:=setsL a.tmps 17 ((Trsys5 Ap n cp bl ol m cl gs k pts As ns cs x v1 v2 B xs [.slice (some ⟨nb,0,none⟩) 1 1,.slice A' (ns+1) c',undef]).take 30),defers:=a.defers } (W.setCell ⟨gs,1,none⟩ (.slice A' (ns+1) c'))):
 cC.wp Tryz.prog Q a w:=by
 subst hc
 unfold codeSys5 Tryz.f106
 dsimp only
 refine wpIn_wide.1 (wpIn_region_chain (nn:=5) 48 (by kernel_rfl) (by kernel_rfl) (by kernel_rfl) hT (fun i cv=>(Trsys5 Ap n cp bl ol m cl gs k pts As ns cs x v1 v2 B xs cv).getD i undef) (fun i=>([0,0,0,0,0,0,0,0,0,0,0,0,0,0,0,0,0,0,0,0,0,0,0,0,0,0,0,0,0,0,0]:List Nat).getD i 0) (fun i=>([1,1,0,0,0,0,0,0,0,0,0,0,0,0,0,0,0,0,0,0,0,0,0,0,0,0,0,1,2,2,3]:List Nat).getD i 0) [27,28,30] (by kernel_rfl) (by kernel_rfl) (by kernel_rfl) (by kernel_rfl) (SysI gs B As ns cs xs ⟨v1,v2,x.most,x.by_⟩ w) ((Below.refl _ _).drew) (fun b cv hE hold=> ?_) (fun cv W hl hI=> ?_))
 · clear hQ
   have q0:=hold 0 _ (by kernel_rfl) t0
   have q1:=hold 1 _ (by kernel_rfl) t1
   have q5:=hold 5 _ (by kernel_rfl) t5
   have q6:=hold 6 _ (by kernel_rfl) t6
   simp only [factsL,Vc,idxC,Trsys5,List.getD_cons_zero,List.getD_cons_succ,Nat.reduceAdd,Nat.reduceEqDiff,reduceIte,Option.map_some,Option.map_none] at hE
   repeat' first|exact chain_nil|refine chain_op 0 rfl rfl ?_ ?_|refine chain_op 1 rfl rfl ?_ ?_|refine chain_op 2 rfl rfl ?_ ?_|refine chain_skip rfl rfl rfl rfl ?_|refine chain_quiet rfl rfl ?_ ?_
   all_goals intro hl
   any_goals (
    intro hl2;simp only [List.getD_cons_zero,List.getD_cons_succ,Nat.reduceAdd] at hl hl2
    first
     | (obtain rfl:=List.eq_nil_of_length_eq_zero (Nat.le_zero.1 hl2);intro W hW;have hWb:Below w.heap.size w W:=hW;obtain ⟨c0,c1,c2,c3,c4,c5,s1,_⟩:=CE W ⟨hWb.os,hWb.tape,hWb.output,hWb.size,fun i hi _=>hWb.block i hi⟩;simp only [Trsys5,List.getD_cons_zero,List.getD_cons_succ,Nat.reduceAdd]
        first
         | (refine .inl ?_;go_simp;done)
         | (refine .inl ?_;go_simp;rfl)
         | (refine .inr (.inr ⟨107,#[.slice Ap n cp,.agg #[.int .i64 x.src.pit,.int .i64 x.src.layer]],?_,(C1 W hW).mono ?_⟩)
            · go_simp<;>done
            · rintro e w' ⟨rfl,hb'⟩;exact ⟨rfl,(show Below _ _ _ from (show Below _ _ _ from hW).trans (hb'.mono (show Below _ _ _ from hW).size))⟩)
         | (refine .inr (.inr ⟨107,#[.slice Ap n cp,.agg #[.int .i64 x.dst.pit,.int .i64 x.dst.layer]],?_,(C2 W hW).mono ?_⟩)
            · go_simp<;>done
            · rintro e w' ⟨rfl,hb'⟩;exact ⟨rfl,(show Below _ _ _ from (show Below _ _ _ from hW).trans (hb'.mono (show Below _ _ _ from hW).size))⟩))
     | (intro W hW;simp only [Trsys5,List.getD_cons_zero,List.getD_cons_succ,Nat.reduceAdd];refine .inl ?_;go_simp;(try rfl);done)
     | (intro W hW;obtain ⟨c0,c1,c2,c3,c4,c5,s1,_⟩:=CE W (SysI.grown hW hl2);simp only [Trsys5,List.getD_cons_zero,List.getD_cons_succ,Nat.reduceAdd]
        first
         | (refine .inl ?_;go_simp;done)
         | (refine .inl ?_;go_simp;rfl))
    done)
   · obtain rfl:=List.eq_nil_of_length_eq_zero hl
     intro W hW
     have hWb:Below w.heap.size w W:=hW
     refine .inl ⟨.slice (some ⟨W.heap.size,0,none⟩) 1 1,W.alloc (.cells #[.int .i64 v1,.int .i64 v2,.int .i64 x.most,.int .i64 x.by_] 186),.inl ?_,?_⟩
     · go_simp
     · exact ⟨hWb.alloc hWb.size _,_,rfl,Rd.single (enc:=encBound) (k:=4) W #[.int .i64 v1,.int .i64 v2,.int .i64 x.most,.int .i64 x.by_] 186 [⟨v1,v2,x.most,x.by_⟩] 1 rfl (by omega) (fun _=>rfl) (by simp [encBound])⟩
   · obtain ⟨v,rfl⟩:=len1 hl
     rintro W ⟨hWb,nb,rfl,hrd⟩
     have hz:=hWb.size
     have f0:b.eval (.tmp 18) = .slice As ns cs:=(by simp only [Act.eval,Array.getD_eq_getD_getElem?];simp [hE])
     have f1:b.eval (.tmp 44) = .slice (some ⟨nb,0,none⟩) 1 1:=(by simp only [Act.eval,Array.getD_eq_getD_getElem?];simp [hE])
     obtain ⟨A',c',wc,hrun,hO2,hg,_⟩:=run_append_src elBound 115 (fun _=>rfl) oneBound (hown.below hWb (Nat.le_refl _)) (some ⟨nb,0,none⟩) 1 1 [⟨v1,v2,x.most,x.by_⟩] hrd (by omega) (by omega) (by omega)
     refine .inl ⟨.slice A' (ns+1) c',wc,.inl ?_,?_,nb,A',c',rfl,rfl,hO2⟩
     · simp only [execOp,resolve,invoke,builtin,Sem.run_bind,Sem.run_pure,Result.andThen_ok,List.map_toArray,List.map_cons,List.map_nil,f0,f1,hrun]
     · exact ⟨hg.os.trans hWb.os,hg.tape.trans hWb.tape,hg.output.trans hWb.output,Nat.le_trans hWb.size hg.size,fun i hi hne=>(hg.block i (by omega) hne).trans (hWb.block i hi)⟩
   · obtain ⟨v,u,rfl⟩:=len2 hl
     rintro W ⟨hg,nb,A',c',rfl,rfl,hO2⟩
     obtain ⟨_,_,_,_,_,_,s1,f1⟩:=CE W hg
     simp only [List.getD_cons_zero,List.getD_cons_succ] at hE
     refine .inl ⟨undef,W.setCell ⟨gs,1,none⟩ (.slice A' (ns+1) c'),.inr ⟨?_,rfl⟩,W,hg,nb,A',c',rfl,rfl,hO2,rfl⟩
     go_simp
 · match cv,hl,hI with
   | [_,_,z],_,⟨W0,hg,nb,A',c',rfl,rfl,hO,e⟩=>subst e;exact hQ nb A' c' W0 hO hg
end Go.Proofs.YtelnkflmnbhclaaGreat
end
section
namespace Go.Proofs.YtelnkflmnbhclaaGreat
open Go.RowKit Go.Proofs Go.Shelf
set_option maxHeartbeats 8000000 in
set_option maxRecDepth 100000 in
theorem rsystem_any (Ap:Option Addr) (n cp:Nat) (ps:List Place) (Al:Option Addr) (m cl:Nat) (L:List Link) (w:World) (hp:Rd encPlace 2 w Ap n cp ps) (hl:Rd encLink 6 w Al m cl L) (hn:ps.Nodup) (hz:z00∉ps) (hg:∀ x∈L,goodLink ps x) (hn6:n≤100000) (hm6:m≤100000):
 Calls Tryz.prog 106 #[.slice Ap n cp,.slice Al m cl] w fun e w'=> ∃ A' c',e = .returned (.agg #[.int .i64 (n+1),.slice A' m c'])∧
  Own encBound 4 186 w.heap.size w' A' m c' (L.map (boundOf (ptsM ps ps.length)))∧Below w.heap.size w w':=by
 obtain ⟨w1,hw1⟩:∃ w1,w.alloc (.cells #[.int .i64 0,.slice none 0 0] 117)=w1:=⟨_,rfl⟩
 have hb1:Below w.heap.size w w1:=(by rw [←hw1];exact (Below.refl _ w).alloc (Nat.le_refl _) _)
 have hz1:w1.heap.size=w.heap.size+1:=(by rw [←hw1];simp)
 have hh1:w1.heap[w.heap.size]? = some (.cells #[.int .i64 0,.slice none 0 0] 117 (0,0)):=(by rw [←hw1];exact heap_alloc_new w _)
 obtain ⟨w2,hw2⟩:∃ w2,w1.alloc (.cells #[.int .i64 (n+1),.slice none 0 0] 117)=w2:=⟨_,rfl⟩
 have hb2:Below w1.heap.size w1 w2:=(by rw [←hw2];exact (Below.refl _ w1).alloc (Nat.le_refl _) _)
 have hh2:w2.heap[w1.heap.size]? = some (.cells #[.int .i64 (n+1),.slice none 0 0] 117 (0,0)):=(by rw [←hw2];exact heap_alloc_new w1 _)
 have hz2:w2.heap.size=w1.heap.size+1:=(by rw [←hw2];simp)
 obtain ⟨gs,hgs⟩:∃ gs,w1.heap.size=gs:=⟨_,rfl⟩
 have HP:Hid (∀ W,Below gs w1 W→Rd encPlace 2 W Ap n cp ps):=(show ∀ W,Below gs w1 W→Rd encPlace 2 W Ap n cp ps from fun W h=>(hp.below hb1 (Nat.le_refl _)).below h (by omega))
 have HL:Hid (∀ W,Below gs w1 W→Rd encLink 6 W Al m cl L):=(show ∀ W,Below gs w1 W→Rd encLink 6 W Al m cl L from fun W h=>(hl.below hb1 (Nat.le_refl _)).below h (by omega))
 have LT:Hid (0<m→∃ b off,Al=some ⟨b,off,none⟩∧b<w.heap.size):=(show 0<m→∃ b off,Al=some ⟨b,off,none⟩∧b<w.heap.size from fun h=>by
  obtain ⟨b,off,e,h1,_⟩:=hl.at_ h
  exact ⟨b,off,e,h1⟩)
 have PT:Hid (∀ (W:World) (p:Place),Below gs w1 W→(p=z00∨p∈ps)→Calls Tryz.prog 107 #[.slice Ap n cp,.agg #[.int .i64 p.pit,.int .i64 p.layer]] W fun e w'=>e = .returned (.int .i64 ((getM (ptsM ps ps.length) p).getD 0))∧Below W.heap.size W w'):=
  (show ∀ (W:World) (p:Place),Below gs w1 W→(p=z00∨p∈ps)→_ from fun W p h hpp=>by
    obtain ⟨v,hv⟩:=ptsM_some ps hn hz hpp
    have:=rpoint_any Ap n cp ps p v W (HP.out W h) hn hz hv (by omega)
    rw [hv];exact this)
 have HG:=Lib.hid hg
 have HNL:=Lib.hid hl.len
 have HB1:=Lib.hid hb1
 have HH1:=Lib.hid hh1
 have HW1:=Lib.hid hw1
 have HB2:=Lib.hid hb2
 have HZ2:=Lib.hid hz2
 have HZ1:=Lib.hid hz1
 have HH2:=Lib.hid hh2
 have HGS:=Lib.hid hgs
 have HW2:=Lib.hid hw2
 have hlw:w.heap.size<gs:=by omega
 clear hp hl hn hz hg hb1 hh1 hw1 hb2 hh2 hz1 hgs hw2 hz2
 obtain ⟨M,hM⟩:∃ M,ptsM ps ps.length=M:=⟨_,rfl⟩
 rw [hM] at PT ⊢
 clear hM
 go_enter Tryz.func106,Tryz.ntmps106
 go_wp2_with (rw [HW1.out])
 rw [HW2.out,HGS.out]
 go_loopw [6] (fun s6 wr=> ∃ (k:Nat) (A':Option Addr) (c':Nat),k≤m∧s6 = .int .i64 k∧Hid (Below gs w1 wr)∧Hid (wr.heap[gs]? = some (.cells #[.int .i64 (n+1),.slice A' k c'] 117 (0,0)))∧Hid (Own encBound 4 186 (gs+1) wr A' k c' ((L.take k).map (boundOf M)))) (fun s6 _=>m-(intOf s6).toNat)
 case atStart=>
  have h1:=HB2.out
  have h2:=HH2.out
  rw [HGS.out] at h1 h2
  exact ⟨0,none,0,Nat.zero_le _,rfl,h1,h2,(show Own _ _ _ _ _ _ _ _ _ from Own.none_ _ _ _ _ _)⟩
 case round=>
  obtain ⟨k,A',c',hk,rfl,hbl,hh,hO⟩:=hrel
  rename World=>wo
  have hgw:gs<wo.heap.size:=(Array.getElem?_eq_some_iff.1 hh.out).1
  have s0:wo.cell? ⟨gs,0,none⟩=some (.int .i64 (n+1)):=(by have:=hh.out;simp [World.cell?,this])
  have s1:wo.cell? ⟨gs,1,none⟩=some (.slice A' k c'):=(by have:=hh.out;simp [World.cell?,this])
  by_cases hlt:k<m
  · obtain ⟨b,off,rfl,hbB⟩:=LT.out (by omega)
    obtain ⟨b',off',x,e,hbw,hx,hcell⟩:=(HL.out wo hbl.out).one hlt
    cases e
    have c0:wo.cell? ⟨b,off+k * 6,none⟩=some (.int .i64 x.src.pit):=hcell 0 _ rfl
    have c1:wo.cell? ⟨b,off+k * 6+1,none⟩=some (.int .i64 x.src.layer):=hcell 1 _ rfl
    have c2:wo.cell? ⟨b,off+k * 6+2,none⟩=some (.int .i64 x.dst.pit):=hcell 2 _ rfl
    have c3:wo.cell? ⟨b,off+k * 6+3,none⟩=some (.int .i64 x.dst.layer):=hcell 3 _ rfl
    have c4:wo.cell? ⟨b,off+k * 6+4,none⟩=some (.int .i64 x.most):=hcell 4 _ rfl
    have c5:wo.cell? ⟨b,off+k * 6+5,none⟩=some (.int .i64 x.by_):=hcell 5 _ rfl
    have HX:=Lib.hid hx
    have hgx:=HG.out x (List.mem_of_getElem? hx)
    have hne:∀ j,j≤gs→some j≠blockOf A':=fun j hj e=>by have:=hO.out.ltB j e.symm;omega
    have hbb:some b≠blockOf A':=hne b (by omega)
    have hgb:some gs≠blockOf A':=hne gs (Nat.le_refl _)
    have CE:Hid (SysCells b off k gs (n+1) A' k c' x wo):=(show SysCells b off k gs (n+1) A' k c' x wo from fun W h=>by
     have e:=fun o=>World.cell?_of_block (a:=⟨b,o,none⟩) (h.block b hbw hbb)
     have e2:=(h.block gs hgw hgb).trans hh.out
     exact ⟨(e _).trans c0,(e _).trans c1,(e _).trans c2,(e _).trans c3,(e _).trans c4,(e _).trans c5,by simp [World.cell?,e2],by simp [World.frozen?,e2]⟩)
    have C1:Hid (∀ W,Below wo.heap.size wo W→Calls Tryz.prog 107 #[.slice Ap n cp,.agg #[.int .i64 x.src.pit,.int .i64 x.src.layer]] W fun e w'=>e = .returned (.int .i64 ((getM M x.src).getD 0))∧Below W.heap.size W w'):=
     (show ∀ W,Below wo.heap.size wo W→_ from fun W h=>PT.out W x.src (hbl.out.trans (h.mono (by omega))) hgx.1)
    have C2:Hid (∀ W,Below wo.heap.size wo W→Calls Tryz.prog 107 #[.slice Ap n cp,.agg #[.int .i64 x.dst.pit,.int .i64 x.dst.layer]] W fun e w'=>e = .returned (.int .i64 ((getM M x.dst).getD 0))∧Below W.heap.size W w'):=
     (show ∀ W,Below wo.heap.size wo W→_ from fun W h=>PT.out W x.dst (hbl.out.trans (h.mono (by omega))) hgx.2.1)
    have HGB:=Lib.hid hgb
    have HLTB:Hid (∀ j,blockOf A'=some j→gs≤j):=(show ∀ j,blockOf A'=some j→gs≤j from fun j hj=>by have:=hO.out.ltB j hj;omega)
    clear hcell hx hgx hne hbb hgb c0 c1 c2 c3 c4 c5 hbB
    go_upto_region 5 with (fail)
    refine rsys5 _ rfl Ap n cp b off m cl gs k (n+1) A' k c' x _ _ (gs+1) _ _ wo _ rfl rfl rfl rfl rfl CE.out hO.out (by omega) (by omega) hlt (by omega) C1.out C2.out ?_
    intro nb A6 c6 w6 hO6 hg6
    have hh6:=(hg6.block gs hgw HGB.out).trans hh.out
    have HH7:Hid ((w6.setCell ⟨gs,1,none⟩ (.slice A6 (k+1) c6)).heap[gs]? = some (.cells #[.int .i64 (n+1),.slice A6 (k+1) c6] 117 (0,0))):=(show _=_ by rw [heap_setCell_obj hh6];rfl)
    have hb6:Below gs w1 w6:=hbl.out.grown hg6 (by omega) HLTB.out
    have HB7:=Lib.hid (hb6.setCell (p:=⟨gs,1,none⟩) (Nat.le_refl _) (.slice A6 (k+1) c6))
    have hO7:Own encBound 4 186 (gs+1) (w6.setCell ⟨gs,1,none⟩ (.slice A6 (k+1) c6)) A6 (k+1) c6 ((L.take (k+1)).map (boundOf M)):=by
     have e1:(L.take (k+1)).map (boundOf M)=(L.take k).map (boundOf M) ++ [⟨(getM M x.src).getD 0,(getM M x.dst).getD 0,x.most,x.by_⟩]:=by rw [List.take_add_one,HX.out,Option.toList_some,List.map_append];rfl
     rw [e1]
     refine hO6.kept (row:=some gs) ?_ ?_
     · exact ⟨rfl,rfl,rfl,by simp,fun j hj hne=>Below.heap_setCell _ _ _ _ (fun e=>hne (by rw [e]))⟩
     · rcases hO6.form with ⟨h,_⟩|⟨g,rfl,h,_⟩
       · exact .inl h
       · refine .inr fun e=> ?_
         simp [blockOf] at e
         omega
    have HO7:=Lib.hid hO7
    clear hO6 hg6 hh6 hb6 hO7
    generalize w6.setCell ⟨gs,1,none⟩ (.slice A6 (k+1) c6)=w7 at *
    simp only [setsL,Trsys5,List.take_succ_cons,List.take_zero,List.getD_cons_zero,List.getD_cons_succ,Nat.reduceAdd,List.setIfInBounds_toArray,List.set_cons_succ,List.set_cons_zero]
    go_wp2
    go_roundw
    all_goals first
     | (simp [intOf];omega)
     | exact ⟨k+1,A6,c6,by omega,by go_num,HB7.out,HH7.out,HO7.out⟩
  · have hkm:k=m:=by omega
    subst hkm
    have h0:=(hbl.out.block w.heap.size hlw).trans HH1.out
    have r0:wo.cell? ⟨w.heap.size,0,none⟩=some (.int .i64 0):=(by simp [World.cell?,h0])
    have r1:wo.cell? ⟨w.heap.size,1,none⟩=some (.slice none 0 0):=(by simp [World.cell?,h0])
    have rf:∀ j,wo.frozen? ⟨w.heap.size,j,none⟩=false:=fun j=>by simp [World.frozen?,h0]
    have rf0:=rf 0
    have rf1:=rf 1
    have hwl:w.heap.size<wo.heap.size:=by omega
    have HH0:=Lib.hid h0
    clear h0 rf
    go_wp2
    have h5:((wo.setCell ⟨w.heap.size,0,none⟩ (.int .i64 (n+1))).setCell ⟨w.heap.size,1,none⟩ (.slice A' k c')).heap[w.heap.size]? = some (.cells #[.int .i64 (n+1),.slice A' k c'] 117 (0,0)):=by
     rw [heap_setCell_obj (heap_setCell_obj HH0.out)];rfl
    refine bodyPost_ret (results_cell_row rfl _ _ w.heap.size _ _ (0,0) _ rfl h5 Tryz.underlying117 rfl (by kernel_rfl)) rfl ?_
    have hO8:Own encBound 4 186 (gs+1) ((wo.setCell ⟨w.heap.size,0,none⟩ (.int .i64 (n+1))).setCell ⟨w.heap.size,1,none⟩ (.slice A' k c')) A' k c' ((L.take k).map (boundOf M)):=
     ⟨hO.out.len,ownsRow_setCell_below (ownsRow_setCell_below hO.out.own (a:=⟨w.heap.size,0,none⟩) (show w.heap.size<gs+1 by omega) _) (a:=⟨w.heap.size,1,none⟩) (show w.heap.size<gs+1 by omega) _⟩
    rw [List.take_of_length_le (by rw [HNL.out];exact Nat.le_refl _)] at hO8
    have hbw:Below w.heap.size w wo:=HB1.out.trans (hbl.out.mono (by omega))
    exact ⟨A',c',rfl,hO8.mono (by omega),(hbw.setCell (p:=⟨w.heap.size,0,none⟩) (Nat.le_refl _) _).setCell (p:=⟨w.heap.size,1,none⟩) (Nat.le_refl _) _⟩
end Go.Proofs.YtelnkflmnbhclaaGreat
end
section
namespace Go.Proofs.YtelnkflmnbhclaaGreat
open Go.RowKit Go.Proofs Go.Shelf
def SysBox (s:Nat) (pts:Int) (A:Option Addr) (n c:Nat) (w1:World):Prop:=∀ W,Below w1.heap.size w1 W→W.cell? ⟨s,0,none⟩=some (.int .i64 pts)∧W.cell? ⟨s,1,none⟩=some (.slice A n c)
theorem sysBox (pts:Int) (A:Option Addr) (n c:Nat) (w:World):SysBox w.heap.size pts A n c (w.alloc (.cells #[.int .i64 pts,.slice A n c] 117)):=fun W h=>by
 have h0:=heap_alloc_new w (.cells #[.int .i64 pts,.slice A n c] 117)
 have:=(h.block w.heap.size (by simp)).trans h0
 simp [World.cell?,this]
end Go.Proofs.YtelnkflmnbhclaaGreat
end

/- Contracts that the laws lean on: Gtst, Inv, Frame, Tab2, Facts, Reg. -/
import Derived.Test.YtpmkgmilfifkpaaGreatDoorDE05
set_option maxRecDepth 100000
set_option maxHeartbeats 2000000
section
namespace Go.Proofs.YtpmkgmilfifkpaaGreatDoor
open Go.RowKit Go.Proofs Go.Shelf
theorem GrownT.below {W W':World} (h:GrownT (fun _=>False) W W'):Below W.heap.size W W':=⟨h.os,h.tape,h.output,h.size,fun k hk=>h.block k hk (fun f=>f)⟩
theorem Below.grownT {W W':World} (T:Nat→Prop) (h:Below W.heap.size W W'):GrownT T W W':=⟨h.os,h.tape,h.output,h.size,fun k hk _=>h.block k hk⟩
def boxed4 (w:World) (pts:Int) (A:Option Addr) (n c:Nat) (a b:Int) (gw:Nat) (lw:Array Value):World:=
 (((w.alloc (.cells #[.int .i64 pts,.slice A n c] 83)).alloc (.cells #[.int .i64 a] 3)).alloc (.cells #[.int .i64 b] 3)).alloc (.cells #[.func (.func gw) #[] lw] 1)
theorem boxed4_size (w:World) (pts:Int) (A:Option Addr) (n c:Nat) (a b:Int) (gw:Nat) (lw:Array Value):(boxed4 w pts A n c a b gw lw).heap.size=w.heap.size+4:=by simp [boxed4]
theorem boxed4_below (w:World) (pts:Int) (A:Option Addr) (n c:Nat) (a b:Int) (gw:Nat) (lw:Array Value):Below w.heap.size w (boxed4 w pts A n c a b gw lw):=
 ((((Below.refl _ w).alloc (Nat.le_refl _) _).alloc (by simp<;>omega) _).alloc (by simp<;>omega) _).alloc (by simp<;>omega) _
theorem boxed4_s (w:World) (pts:Int) (A:Option Addr) (n c:Nat) (a b:Int) (gw:Nat) (lw:Array Value) (i:Nat):(boxed4 w pts A n c a b gw lw).cell? ⟨w.heap.size,i,none⟩ = #[Value.int .i64 pts,.slice A n c][i]? := by
 unfold boxed4
 rw [World.cell?_alloc_past _ _ _ (by simp<;>omega),World.cell?_alloc_past _ _ _ (by simp<;>omega),World.cell?_alloc_past _ _ _ (by simp<;>omega),World.cell?_alloc_at _ _ _ _ rfl]
theorem boxed4_a (w:World) (pts:Int) (A:Option Addr) (n c:Nat) (a b:Int) (gw:Nat) (lw:Array Value):(boxed4 w pts A n c a b gw lw).cell? ⟨w.heap.size+1,0,none⟩=some (.int .i64 a):=by
 unfold boxed4
 rw [World.cell?_alloc_past _ _ _ (by simp<;>omega),World.cell?_alloc_past _ _ _ (by simp<;>omega),World.cell?_alloc_at _ _ _ _ (by simp<;>omega)]
 all_goals rfl
theorem boxed4_b (w:World) (pts:Int) (A:Option Addr) (n c:Nat) (a b:Int) (gw:Nat) (lw:Array Value):(boxed4 w pts A n c a b gw lw).cell? ⟨w.heap.size+2,0,none⟩=some (.int .i64 b):=by
 unfold boxed4
 rw [World.cell?_alloc_past _ _ _ (by simp<;>omega),World.cell?_alloc_at _ _ _ _ (by simp<;>omega)]
 all_goals rfl
theorem boxed4_w (w:World) (pts:Int) (A:Option Addr) (n c:Nat) (a b:Int) (gw:Nat) (lw:Array Value):(boxed4 w pts A n c a b gw lw).cell? ⟨w.heap.size+3,0,none⟩=some (.func (.func gw) #[] lw):=by
 unfold boxed4
 rw [World.cell?_alloc_at _ _ _ _ (by simp<;>omega)]
 all_goals rfl
@[go_sem] theorem run_store_func2 (P:Program) (w:World) (a:Addr) (f:Fn) (b c:Array Value) (m:Mode):(store a (.func f b c) m).run P w=stored P w a (.func f b c) m:=run_store P w a _ m rfl
theorem gasked_of (pts:Int) (A:Option Addr) (n c:Nat) (a b:Int) (gw:Nat) (lw:Array Value) (w:World) (R:Ending→World→Prop)
 (h:Calls Tryz.prog 76 #[.agg #[.int .i64 pts,.slice A n c],.func (.func 94) #[] #[.pointer (some ⟨w.heap.size,0,none⟩),.pointer (some ⟨w.heap.size+1,0,none⟩),.pointer (some ⟨w.heap.size+2,0,none⟩),.pointer (some ⟨w.heap.size+3,0,none⟩)]] (boxed4 w pts A n c a b gw lw) fun e w'=>(∃ v:Int,e = .returned (.int .i64 v))∧R e w'):
 Calls Tryz.prog 61 #[.agg #[.int .i64 pts,.slice A n c],.int .i64 a,.int .i64 b,.func (.func gw) #[] lw] w R:=by
 unfold boxed4 at h
 have H:=Lib.hid h
 clear h
 go_enter Tryz.func61,Tryz.ntmps61
 go_wp2_with (go_at_call 76;refine H.out.mono ?_;rintro e w2 ⟨⟨v,rfl⟩,hR⟩)
 exact hR
theorem gasked_yes (pts:Int) (A:Option Addr) (n c:Nat) (bs:List Bound) (a b:Int) (gw:Nat) (lw:Array Value) (eg:∀ args w,(callFunc gw args).run Tryz.prog w = .ok (.enter gw args) w) (w:World) (hl:Rd encBound 4 w A n c bs) (hk:checkSys pts bs=0) (hs:solvedOk pts bs=true)
 (h1:0≤a) (h2:a<pts) (h3:0≤b) (h4:b<pts) (T:Nat→Prop) (hT:∀ k,T k→k<w.heap.size) (Φ:World→Prop) (hΦ:∀ W1 W2:World,Φ W1→(∀ k,k<w.heap.size→W2.heap[k]? = W1.heap[k]?)→Φ W2)
 (hdo:∀ W,Below w.heap.size w W→Calls Tryz.prog gw lw W fun e W'=>e = .returned (.tuple #[])∧GrownT T W W'∧Φ W'):
 Calls Tryz.prog 61 #[.agg #[.int .i64 pts,.slice A n c],.int .i64 a,.int .i64 b,.func (.func gw) #[] lw] w fun e w'=>e = .returned (.int .i64 0)∧GrownT T w w'∧Φ w':=by
 have hz:=boxed4_size w pts A n c a b gw lw
 have hb4:=boxed4_below w pts A n c a b gw lw
 refine gasked_of pts A n c a b gw lw w _ ((tried_any pts A n c bs 94 _ ent_asked1 0 _ (hl.below hb4 (Nat.le_refl _)) hk T (fun k hk=>by have:=hT k hk;omega) Φ (fun W1 W2 hf h=>hΦ W1 W2 hf (fun k hk=>h k (by omega))) (fun W hW=> ?_)).mono ?_)
 · exact asked1_yes pts A n c bs a b gw lw eg w.heap.size (w.heap.size+1) (w.heap.size+2) (w.heap.size+3) W (hl.below (hb4.trans (hW.mono (by omega))) (Nat.le_refl _)) (sysOk_of hk) hs h1 h2 h3 h4
    ((hW.cell (p:=⟨w.heap.size,0,none⟩) (show w.heap.size<_ by omega)).trans (boxed4_s w pts A n c a b gw lw 0)) ((hW.cell (p:=⟨w.heap.size,1,none⟩) (show w.heap.size<_ by omega)).trans (boxed4_s w pts A n c a b gw lw 1))
    ((hW.cell (p:=⟨w.heap.size+1,0,none⟩) (show w.heap.size+1<_ by omega)).trans (boxed4_a w pts A n c a b gw lw)) ((hW.cell (p:=⟨w.heap.size+2,0,none⟩) (show w.heap.size+2<_ by omega)).trans (boxed4_b w pts A n c a b gw lw))
    ((hW.cell (p:=⟨w.heap.size+3,0,none⟩) (show w.heap.size+3<_ by omega)).trans (boxed4_w w pts A n c a b gw lw)) T Φ
    (fun W' hW'=>hdo W' (hb4.trans ((hW.mono (by omega)).trans (hW'.mono (by have:=hW.size;omega)))))
 · rintro e w' ⟨rfl,hg,hf⟩
   exact ⟨⟨_,rfl⟩,rfl,(Below.grownT T hb4).trans hg,hf⟩
theorem gasked_no (pts:Int) (A:Option Addr) (n c:Nat) (bs:List Bound) (a b:Int) (gw:Nat) (lw:Array Value) (w:World) (hl:Rd encBound 4 w A n c bs) (hk:checkSys pts bs=0) (hs:solvedOk pts bs=false)
 (h1:0≤a) (h2:a<pts) (h3:0≤b) (h4:b<pts):
 Calls Tryz.prog 61 #[.agg #[.int .i64 pts,.slice A n c],.int .i64 a,.int .i64 b,.func (.func gw) #[] lw] w fun e w'=>e = .returned (.int .i64 10)∧Below w.heap.size w w':=by
 have hz:=boxed4_size w pts A n c a b gw lw
 have hb4:=boxed4_below w pts A n c a b gw lw
 refine gasked_of pts A n c a b gw lw w _ ((tried_any pts A n c bs 94 _ ent_asked1 10 _ (hl.below hb4 (Nat.le_refl _)) hk (fun _=>False) (fun k hk=>hk.elim) (fun _=>True) (fun _ _ _ _=>trivial) (fun W hW=> ?_)).mono ?_)
 · refine (asked1_no pts A n c bs a b w.heap.size (w.heap.size+1) (w.heap.size+2) (w.heap.size+3) W (hl.below (hb4.trans (hW.mono (by omega))) (Nat.le_refl _)) (sysOk_of hk) hs h1 h2 h3 h4
    ((hW.cell (p:=⟨w.heap.size,0,none⟩) (show w.heap.size<_ by omega)).trans (boxed4_s w pts A n c a b gw lw 0)) ((hW.cell (p:=⟨w.heap.size,1,none⟩) (show w.heap.size<_ by omega)).trans (boxed4_s w pts A n c a b gw lw 1))
    ((hW.cell (p:=⟨w.heap.size+1,0,none⟩) (show w.heap.size+1<_ by omega)).trans (boxed4_a w pts A n c a b gw lw)) ((hW.cell (p:=⟨w.heap.size+2,0,none⟩) (show w.heap.size+2<_ by omega)).trans (boxed4_b w pts A n c a b gw lw))).mono ?_
   rintro e w' ⟨rfl,hb⟩
   exact ⟨rfl,Below.grownT _ hb,trivial⟩
 · rintro e w' ⟨rfl,hg,_⟩
   exact ⟨⟨_,rfl⟩,rfl,hb4.trans (hg.below.mono (by omega))⟩
theorem ent_great1:∀ args w,(callFunc 62 args).run Tryz.prog w = .ok (.enter 62 args) w:=enters_of Tryz.func62 (by kernel_rfl) rfl
theorem great1 (pts:Int) (A:Option Addr) (n c:Nat) (bs:List Bound) (a b:Int) (b0 b1 b2 bn:Nat) (v0:Value) (w:World) (hl:Rd encBound 4 w A n c bs) (hok:SysOk pts bs)
 (h1:0≤a) (h2:a<pts) (h3:0≤b) (h4:b<pts) (c0:w.cell? ⟨b0,0,none⟩=some (.int .i64 pts)) (c1:w.cell? ⟨b0,1,none⟩=some (.slice A n c)) (ca:w.cell? ⟨b1,0,none⟩=some (.int .i64 a)) (cb:w.cell? ⟨b2,0,none⟩=some (.int .i64 b))
 (cn:w.cell? ⟨bn,0,none⟩=some v0) (fn:w.frozen? ⟨bn,0,none⟩=false):
 Calls Tryz.prog 62 #[.pointer (some ⟨b0,0,none⟩),.pointer (some ⟨b1,0,none⟩),.pointer (some ⟨b2,0,none⟩),.pointer (some ⟨bn,0,none⟩)] w fun e w'=>e = .returned (.tuple #[])∧GrownT (fun k=>k=bn) w w'∧w'.cell? ⟨bn,0,none⟩=some (.int .i64 (greatestR pts bs a b))∧w'.frozen? ⟨bn,0,none⟩=false:=by
 have hg:=greatest_any pts A n c bs a b w hl hok h1 h2 h3 h4
 have HG:=Lib.hid hg
 have zn:=block_lt_of_cell cn
 simp only at zn
 clear hg hl
 go_enter Tryz.func62,Tryz.ntmps62
 go_wp2_with (go_at_call 63;refine HG.out.mono ?_;rintro e w2 ⟨rfl,hb⟩
              have d1:w2.cell? ⟨bn,0,none⟩=some v0:=(hb.cell (p:=⟨bn,0,none⟩) zn).trans cn
              have d2:w2.frozen? ⟨bn,0,none⟩=false:=(hb.frozen (p:=⟨bn,0,none⟩) zn).trans fn)
 go_end0
 refine ⟨rfl,⟨hb.os,hb.tape,hb.output,by simpa using hb.size,fun k hk ht=>(Below.heap_setCell _ _ _ k (show k≠bn from ht)).trans (hb.block k hk)⟩,World.cell?_setCell_same' _ _ _ (by rw [d1];rfl),by rw [World.frozen?_setCell];exact d2⟩
def greatestV (pts:Int) (bs:List Bound) (a b:Int):Int×Bool×Int:=
 if solvedOk pts bs then (if greatestR pts bs a b=noneV then (0,false,0) else (greatestR pts bs a b,true,0)) else (0,false,10)
theorem Greatest_any (pts:Int) (A:Option Addr) (n c:Nat) (bs:List Bound) (a b:Int) (w:World) (hl:Rd encBound 4 w A n c bs) (hk:checkSys pts bs=0) (h1:0≤a) (h2:a<pts) (h3:0≤b) (h4:b<pts):
 Calls Tryz.prog 32 #[.agg #[.int .i64 pts,.slice A n c],.int .i64 a,.int .i64 b] w fun e w'=>e = .returned (.tuple #[.int .i64 (greatestV pts bs a b).1,.bool (greatestV pts bs a b).2.1,.int .i64 (greatestV pts bs a b).2.2])∧Below w.heap.size w w':=by
 obtain ⟨W1,hW1⟩:∃ W1,(((w.alloc (.cells #[.int .i64 pts,.slice A n c] 83)).alloc (.cells #[.int .i64 a] 3)).alloc (.cells #[.int .i64 b] 3)).alloc (.cells #[.int .i64 1099511627776] 3)=W1:=⟨_,rfl⟩
 have hs1:W1.heap.size=w.heap.size+4:=by rw [←hW1];simp
 have hb1:Below w.heap.size w W1:=by rw [←hW1];exact ((((Below.refl _ w).alloc (Nat.le_refl _) _).alloc (by simp<;>omega) _).alloc (by simp<;>omega) _).alloc (by simp<;>omega) _
 have hl1:=hl.below hb1 (Nat.le_refl _)
 have e0:∀ i,W1.cell? ⟨w.heap.size,i,none⟩ = #[Value.int .i64 pts,.slice A n c][i]? := fun i=>by rw [←hW1,World.cell?_alloc_past _ _ _ (by simp<;>omega),World.cell?_alloc_past _ _ _ (by simp<;>omega),World.cell?_alloc_past _ _ _ (by simp<;>omega),World.cell?_alloc_at _ _ _ _ rfl]
 have ea:W1.cell? ⟨w.heap.size+1,0,none⟩=some (.int .i64 a):=by rw [←hW1,World.cell?_alloc_past _ _ _ (by simp<;>omega),World.cell?_alloc_past _ _ _ (by simp<;>omega),World.cell?_alloc_at _ _ _ _ (by simp<;>omega)];rfl
 have eb:W1.cell? ⟨w.heap.size+2,0,none⟩=some (.int .i64 b):=by rw [←hW1,World.cell?_alloc_past _ _ _ (by simp<;>omega),World.cell?_alloc_at _ _ _ _ (by simp<;>omega)];rfl
 have en:W1.cell? ⟨w.heap.size+3,0,none⟩=some (.int .i64 1099511627776):=by rw [←hW1,World.cell?_alloc_at _ _ _ _ (by simp<;>omega)];rfl
 have fnz:W1.frozen? ⟨w.heap.size+3,0,none⟩=false:=by rw [←hW1];exact World.frozen?_alloc_at _ _ _ _ (by simp<;>omega)
 cases hs:solvedOk pts bs
 · have hg:greatestV pts bs a b=(0,false,10):=by unfold greatestV;rw [hs];rfl
   have hask:=gasked_no pts A n c bs a b 62 #[.pointer (some ⟨w.heap.size,0,none⟩),.pointer (some ⟨w.heap.size+1,0,none⟩),.pointer (some ⟨w.heap.size+2,0,none⟩),.pointer (some ⟨w.heap.size+3,0,none⟩)] W1 hl1 hk hs h1 h2 h3 h4
   rw [hg]
   have HA:=Lib.hid hask
   have HW:=Lib.hid hW1
   have HN:=Lib.hid en
   clear hg e0 ea eb en hl hl1 hk hs hask hW1
   go_enter Tryz.func32,Tryz.ntmps32
   go_wp2_with (go_at_call 61;rw [HW.out];refine HA.out.mono ?_;rintro e w2 ⟨rfl,hb⟩;have d1:w2.cell? ⟨w.heap.size+1+1+1,0,none⟩=some (.int .i64 1099511627776):=(hb.cell (p:=⟨w.heap.size+3,0,none⟩) (show w.heap.size+3<W1.heap.size by omega)).trans HN.out)
   go_ret3
   exact ⟨rfl,hb1.trans (hb.mono (by omega))⟩
 · have hask:=gasked_yes pts A n c bs a b 62 #[.pointer (some ⟨w.heap.size,0,none⟩),.pointer (some ⟨w.heap.size+1,0,none⟩),.pointer (some ⟨w.heap.size+2,0,none⟩),.pointer (some ⟨w.heap.size+3,0,none⟩)] ent_great1 W1 hl1 hk hs h1 h2 h3 h4
    (fun k=>k=w.heap.size+3) (fun k hk=>by omega) (fun W=>W.cell? ⟨w.heap.size+3,0,none⟩=some (.int .i64 (greatestR pts bs a b))) (fun Wa Wb hf h=>(World.cell?_of_block (a:=⟨w.heap.size+3,0,none⟩) (h (w.heap.size+3) (by omega))).trans hf)
    (fun W hW=>(great1 pts A n c bs a b w.heap.size (w.heap.size+1) (w.heap.size+2) (w.heap.size+3) (.int .i64 1099511627776) W (hl1.below hW (Nat.le_refl _)) (sysOk_of hk) h1 h2 h3 h4
      ((hW.cell (p:=⟨w.heap.size,0,none⟩) (show w.heap.size<W1.heap.size by omega)).trans (e0 0)) ((hW.cell (p:=⟨w.heap.size,1,none⟩) (show w.heap.size<W1.heap.size by omega)).trans (e0 1))
      ((hW.cell (p:=⟨w.heap.size+1,0,none⟩) (show w.heap.size+1<W1.heap.size by omega)).trans ea) ((hW.cell (p:=⟨w.heap.size+2,0,none⟩) (show w.heap.size+2<W1.heap.size by omega)).trans eb)
      ((hW.cell (p:=⟨w.heap.size+3,0,none⟩) (show w.heap.size+3<W1.heap.size by omega)).trans en) ((hW.frozen (p:=⟨w.heap.size+3,0,none⟩) (show w.heap.size+3<W1.heap.size by omega)).trans fnz)).mono fun _ _ h=>⟨h.1,h.2.1,h.2.2.1⟩)
   have hg:greatestV pts bs a b=if greatestR pts bs a b=noneV then (0,false,0) else (greatestR pts bs a b,true,0):=by unfold greatestV;rw [hs];rfl
   rw [hg]
   clear hg e0 ea eb en hl hl1 hk hs
   generalize greatestR pts bs a b=G at hask ⊢
   have HA:=Lib.hid hask
   have HW:=Lib.hid hW1
   clear hask hW1
   by_cases hq:G=noneV
   · rw [if_pos hq]
     unfold noneV at hq
     subst hq
     go_enter Tryz.func32,Tryz.ntmps32
     go_wp2_with (go_at_call 61;rw [HW.out];refine HA.out.mono ?_;rintro e w2 ⟨rfl,hg,hc⟩)
     go_ret3
     exact ⟨rfl,hb1.trans ⟨hg.os,hg.tape,hg.output,by have:=hg.size;omega,fun k hk=>hg.block k (by omega) (by omega)⟩⟩
   · rw [if_neg hq]
     have hq':(G==1099511627776)=false:=by simpa [noneV] using hq
     clear hq
     go_enter Tryz.func32,Tryz.ntmps32
     go_wp2_with (go_at_call 61;rw [HW.out];refine HA.out.mono ?_;rintro e w2 ⟨rfl,hg,hc⟩)
     go_ret3
     exact ⟨rfl,hb1.trans ⟨hg.os,hg.tape,hg.output,by have:=hg.size;omega,fun k hk=>hg.block k (by omega) (by omega)⟩⟩
end Go.Proofs.YtpmkgmilfifkpaaGreatDoor
end
section
namespace Go.Proofs.YtpmkgmilfifkpaaGreatDoor
open Go.RowKit Go.Proofs
section
variable {P:Program} {F:Fence} {nn:Nat} {ops:Array Oper}
theorem wpAnyIn_inv {Q:Exit→Act→World→Prop} {m:Nat} (_:∀ f,F.fn f) (hok:tabOk ops m=true) (I:Array Bool→Act→World→Prop)
 (hstep:∀ listed i o b W,listed.size=ops.size→i∈Region.ready .any ops listed→ops[i]? = some o→I listed b W→o.wpIn F nn P b W (fun b' W'=>I (listed.setIfInBounds i true) b' W') Q)
 (hend:∀ b W,I (Array.replicate ops.size true) b W→Q .normal b W):
 ∀ (fuel:Nat) (listed:Array Bool) (b:Act) (W:World),left listed=fuel→listed.size=ops.size→I listed b W→wpAnyIn F nn P .any ops Q fuel listed b W:=by
 intro fuel
 induction fuel with
 | zero=>
   intro listed b W hl hs h
   have hall:=left_zero hl
   rw [hs] at hall
   refine ⟨?_,hend b W (hall ▸ h)⟩
   apply List.eq_nil_iff_forall_not_mem.2
   intro i hi
   obtain ⟨hun,o,ho,_⟩:=mem_ready.1 hi
   have hlt:i<ops.size:=(Array.getElem?_eq_some_iff.1 ho).1
   rw [hall] at hun
   simp [hlt] at hun
 | succ fuel ih=>
   intro listed b W hl hs h
   refine ⟨fun hnil=> ?_,fun i hi=> ?_⟩
   · obtain ⟨i,hi,hmin⟩:=left_pos (listed:=listed) (by omega)
     have hlt:i<ops.size:=by rw [←hs];exact (Array.getElem?_eq_some_iff.1 hi).1
     have ho:ops[i]? = some ops[i]:=Array.getElem?_eq_getElem hlt
     obtain ⟨_,_,hed,_⟩:=tabOk_at hok ho
     have:i∈Region.ready .any ops listed:=mem_ready.2 ⟨by simp [hi],ops[i],ho,fun e he hbd=>by have:=hmin e.on (hed e he hbd);simp [this]⟩
     rw [hnil] at this
     cases this
   · obtain ⟨hun,o,ho,hall⟩:=mem_ready.1 hi
     obtain ⟨hg,hdf,_,_⟩:=tabOk_at hok ho
     have hlt:i<listed.size:=by rw [hs];exact (Array.getElem?_eq_some_iff.1 ho).1
     have hf:listed[i]? = some false:=by
      rw [Array.getElem?_eq_getElem hlt]
      simp [hlt] at hun
      rw [hun]
     have hl':left (listed.setIfInBounds i true)=fuel:=by have:=left_set hf;omega
     have hw:Region.wanted o (yielded ops b.tmps)=true:=by simp [Region.wanted,hg]
     unfold wpOpIn
     simp only [ho,hw,if_true]
     exact Oper.wpIn_mono (fun b' W' h'=>ih _ b' W' hl' (by simp [hs]) h') (hstep listed i o b W hs hi ho h)
theorem wpIn_region_inv {id:Nat} {l:List Oper} {Q:Exit→Act→World→Prop} {a:Act} {w:World} (m:Nat) (hm:P.follows .mixedOrders=true) (hF:∀ f,F.fn f) (hok:tabOk l.toArray m=true) (I:Array Bool→Act→World→Prop)
 (h0:I (Array.replicate l.toArray.size false) a w.drew)
 (hstep:∀ listed i o b W,listed.size=l.toArray.size→i∈Region.ready .any l.toArray listed→l.toArray[i]? = some o→I listed b W→o.wpIn F nn P b W (fun b' W'=>I (listed.setIfInBounds i true) b' W') Q)
 (hend:∀ b W,I (Array.replicate l.toArray.size true) b W→Q .normal b W):(Code.region id l.toArray true).wpIn F nn P Q a w:=by
 refine wpIn_region_any hm (wpAnyIn_inv hF hok I hstep hend _ _ _ _ ?_ (by simp) h0)
 have h2:∀ k,(List.filter (fun b=> !b) (List.replicate k false)).length=k:=by
  intro k
  rw [List.filter_eq_self.2 (fun b hb=>by rw [List.eq_of_mem_replicate hb];rfl),List.length_replicate]
 unfold left
 rw [Array.toList_replicate]
 exact h2 _
theorem wide_val {o:Oper} {b:Act} {W W':World} {K:Act→World→Prop} {Q:Exit→Act→World→Prop} {v:Value} (hr:(execOp b.eval o).run P W = .ok (.value v) W') (h:K (b.put o.dst v) W'):o.wpIn Fence.wide nn P b W K Q:=
 ⟨fun _ _=>trivial,by rw [show Oper.semAt Fence.wide.round b.eval o=execOp b.eval o from rfl,hr];exact h⟩
theorem wide_skip {o:Oper} {b:Act} {W W':World} {K:Act→World→Prop} {Q:Exit→Act→World→Prop} (hr:(execOp b.eval o).run P W = .ok .skip W') (h:K (b.put o.dst undef) W'):o.wpIn Fence.wide nn P b W K Q:=
 ⟨fun _ _=>trivial,by rw [show Oper.semAt Fence.wide.round b.eval o=execOp b.eval o from rfl,hr];exact h⟩
theorem wide_call {o:Oper} {b:Act} {W:World} {K:Act→World→Prop} {Q:Exit→Act→World→Prop} {f:FuncId} {args:Array Value} (hr:(execOp b.eval o).run P W = .ok (.enter f args) W)
 (h:Calls P f args W fun e w'=> ∃ v,e = .returned v∧K (b.put o.dst v) w'):o.wpIn Fence.wide nn P b W K Q:=
 ⟨fun _ _=>trivial,by
   rw [show Oper.semAt Fence.wide.round b.eval o=execOp b.eval o from rfl,hr]
   refine ⟨fun h=>by simp [Fence.wide] at h,callsIn_wide.2 (h.mono ?_)⟩
   rintro e w' ⟨v,rfl,hK⟩
   exact hK⟩
theorem TabAt.congr {V V':Nat→Value} {a0:Act} {listed:Array Bool} {b:Act} (h:TabAt ops V a0 listed b) (hv:∀ j,listed.getD j false=true→V j=V' j):TabAt ops V' a0 listed b:=
 ⟨h.size,h.closed,h.tsize,h.defers,fun j d hd hl=>(h.val j d hd hl).trans (hv j hl),h.old⟩
theorem TabAt.start {V:Nat→Value} (a:Act):TabAt ops V a (Array.replicate ops.size false) a:=
 ⟨by simp,fun j o _ hl=>(by rw [getD_replicate_false] at hl;cases hl),rfl,rfl,fun j d _ hl=>(by rw [getD_replicate_false] at hl;cases hl),fun _ _=>rfl⟩
end
def framed (ops:Array Oper) (V:Nat→Value) (t:Array Value):Nat→Array Value
 | 0=>t
 | k+1=>match dstOf ops k with
   | some d=>(framed ops V t k).setIfInBounds d (V k)
   | none=>framed ops V t k
section
variable {ops:Array Oper} {V:Nat→Value} {t:Array Value}
theorem framed_size (k:Nat):(framed ops V t k).size=t.size:=by
 induction k with
 | zero=>rfl
 | succ k ih=>unfold framed;split<;>simp [ih]
theorem framed_old (d k:Nat) (h:∀ j,j<k→dstOf ops j≠some d):(framed ops V t k).getD d undef=t.getD d undef:=by
 induction k with
 | zero=>rfl
 | succ k ih=>
   have:=ih (fun j hj=>h j (by omega))
   unfold framed
   split
   · rename_i d' hd
     have hne:d'≠d:=fun e=>h k (by omega) (by rw [hd,e])
     rw [←this]
     simp only [Array.getD_eq_getD_getElem?,Array.getElem?_setIfInBounds_ne hne]
   · exact this
theorem framed_val {m:Nat} (hok:tabOk ops m=true) (hm:m=t.size) {d j:Nat} (hj:dstOf ops j=some d) (k:Nat) (hk:k≤ops.size) (hjk:j<k):(framed ops V t k).getD d undef=V j:=by
 have hjs:j<ops.size:=by omega
 have ho:ops[j]? = some ops[j]:=Array.getElem?_eq_getElem hjs
 have hdst:ops[j].dst=some d:=by rw [dstOf,ho] at hj;exact hj
 obtain ⟨_,_,_,hd⟩:=tabOk_at hok ho
 obtain ⟨hlt,huniq⟩:=hd d hdst
 induction k with
 | zero=>omega
 | succ k ih=>
   by_cases h:j=k
   · subst h
     unfold framed
     rw [hj]
     have:d<(framed ops V t j).size:=by rw [framed_size,←hm];exact hlt
     simp [this]
   · have:=ih (by omega) (by omega)
     unfold framed
     split
     · rename_i d' hd'
       have hne:d'≠d:=fun e=>huniq k (by omega) (fun e2=>h e2.symm) (by rw [hd',e])
       rw [←this]
       simp only [Array.getD_eq_getD_getElem?,Array.getElem?_setIfInBounds_ne hne]
     · exact this
theorem TabAt.frame {m:Nat} {a b:Act} (hok:tabOk ops m=true) (hm:m=a.tmps.size) (h:TabAt ops V a (Array.replicate ops.size true) b):b.tmps=framed ops V a.tmps ops.size:=by
 apply Array.ext
 · rw [framed_size,h.tsize]
 · intro d h1 h2
   have e1:b.tmps[d]=b.tmps.getD d undef:=by simp [h1]
   have e2:(framed ops V a.tmps ops.size)[d]=(framed ops V a.tmps ops.size).getD d undef:=by simp [h2]
   rw [e1,e2]
   by_cases hj:∃ j,dstOf ops j=some d
   · obtain ⟨j,hj⟩:=hj
     have hjs:j<ops.size:=by
      rcases Nat.lt_or_ge j ops.size with h|h
      · exact h
      · simp [dstOf,Array.getElem?_eq_none h] at hj
     rw [framed_val hok hm hj ops.size (Nat.le_refl _) hjs,h.val j d hj (by simp [hjs])]
   · have hno:∀ j,dstOf ops j≠some d:=fun j e=>hj ⟨j,e⟩
     rw [framed_old d _ (fun j _=>hno j),h.old d hno]
theorem TabAt.act {m:Nat} {a b:Act} (hok:tabOk ops m=true) (hm:m=a.tmps.size) (h:TabAt ops V a (Array.replicate ops.size true) b):b = { tmps:=framed ops V a.tmps ops.size,defers:=a.defers } := by
 have h1:=h.frame hok hm
 have h2:=h.defers
 cases b
 cases h1
 cases h2
 rfl
end
def Later (ops:Array Oper) (a0:Act) (listed:Array Bool) (b:Act):Prop:=∀ j d,dstOf ops j=some d→listed.getD j false=false→b.tmps.getD d undef=a0.tmps.getD d undef
theorem Later.set {ops:Array Oper} {V:Nat→Value} {a0:Act} {listed:Array Bool} {b:Act} {m i:Nat} {o:Oper} (hok:tabOk ops m=true) (h:Later ops a0 listed b) (ho:ops[i]? = some o) (hs:listed.size=ops.size):Later ops a0 (listed.setIfInBounds i true) (b.put o.dst (V i)):=by
 intro j d hj hl
 have hij:i≠j:=fun e=>by
  subst e
  have hi:i<listed.size:=by rw [hs];exact (Array.getElem?_eq_some_iff.1 ho).1
  simp [hi] at hl
 rw [getD_set_ne false hij] at hl
 have h1:=h j d hj hl
 obtain ⟨_,_,_,hd⟩:=tabOk_at hok ho
 have hjs:j<ops.size:=by
  rcases Nat.lt_or_ge j ops.size with h|h
  · exact h
  · simp [dstOf,Array.getElem?_eq_none h] at hj
 cases hdst:o.dst with
 | none=>exact h1
 | some d'=>
   have hne:d'≠d:=fun e=>(hd d' hdst).2 j hjs (Ne.symm hij) (by rw [hj,e])
   rw [←h1]
   simp only [Act.put,Array.getD_eq_getD_getElem?,Array.getElem?_setIfInBounds_ne hne]
structure FactsAt (ops:Array Oper) (a:Act) (Fact:Nat→Value→World→Prop) (Pre:Nat→World→Prop) (G:World→Prop) (V:Nat→Value) (listed:Array Bool) (b:Act) (W:World):Prop where
 tab:TabAt ops V a listed b
 later:Later ops a listed b
 fact:∀ j,listed.getD j false=true→Fact j (V j) W
 pre:∀ j,j<ops.size→listed.getD j false=false→Pre j W
 glob:G W
def FactsGo (ops:Array Oper) (Fact:Nat→Value→World→Prop) (Pre:Nat→World→Prop) (G:World→Prop) (V:Nat→Value) (listed:Array Bool) (i:Nat) (d:Option Tmp) (b:Act) (W:World) (b':Act) (W':World):Prop:=
 ∃ v,b'=b.put d v∧Fact i v W'∧(∀ j,j≠i→listed.getD j false=true→Fact j (V j) W→Fact j (V j) W')∧(∀ j,j<ops.size→j≠i→listed.getD j false=false→Pre j W→Pre j W')∧G W'
theorem FactsGo.same {ops:Array Oper} {Fact:Nat→Value→World→Prop} {Pre:Nat→World→Prop} {G:World→Prop} {V:Nat→Value} {listed:Array Bool} {i:Nat} {d:Option Tmp} {b:Act} {W:World} {v:Value} (hg:G W) (h:Fact i v W):FactsGo ops Fact Pre G V listed i d b W (b.put d v) W:=
 ⟨v,rfl,h,fun _ _ _ h=>h,fun _ _ _ _ h=>h,hg⟩
section
variable {P:Program} {nn:Nat} {ops:Array Oper} {a:Act} {Fact:Nat→Value→World→Prop} {Pre:Nat→World→Prop} {G:World→Prop}
theorem FactsAt.next {m:Nat} (hok:tabOk ops m=true) (hT:m=a.tmps.size) {V:Nat→Value} {listed:Array Bool} {i:Nat} {o:Oper} {b b':Act} {W W':World} (h:FactsAt ops a Fact Pre G V listed b W) (hi:i∈Region.ready .any ops listed) (ho:ops[i]? = some o)
 (hg:FactsGo ops Fact Pre G V listed i o.dst b W b' W'):∃ V',FactsAt ops a Fact Pre G V' (listed.setIfInBounds i true) b' W':=by
 obtain ⟨v,rfl,h1,h2,h3,h4⟩:=hg
 obtain ⟨hun,_⟩:=mem_ready.1 hi
 have hun':listed.getD i false=false:=getD_both hun
 obtain ⟨V',hV⟩:∃ V':Nat→Value,∀ j,V' j=if j=i then v else V j:=⟨_,fun _=>rfl⟩
 have hi':V' i=v:=by rw [hV,if_pos rfl]
 have hcon:TabAt ops V' a listed b:=h.tab.congr (fun j hj=>by
  rw [hV,if_neg]
  intro e;subst e;rw [hun'] at hj;cases hj)
 have hlt:i<listed.size:=by rw [h.tab.size];exact (Array.getElem?_eq_some_iff.1 ho).1
 have hset:=hcon.set hok hT hi ho
 have hlat:=h.later.set (V:=V') hok ho h.tab.size
 rw [hi'] at hset hlat
 refine ⟨V',hset,hlat,fun j hj=> ?_,fun j hjs hj=> ?_,h4⟩
 · by_cases e:j=i
   · subst e;rw [hi'];exact h1
   · rw [getD_set_ne false (Ne.symm e)] at hj
     rw [hV,if_neg e]
     exact h2 j e hj (h.fact j hj)
 · by_cases e:j=i
   · subst e
     rw [getD_set_self rfl hlt] at hj
     cases hj
   · rw [getD_set_ne false (Ne.symm e)] at hj
     exact h3 j hjs e hj (h.pre j hjs hj)
theorem wpIn_region_facts {id:Nat} {l:List Oper} {Q:Exit→Act→World→Prop} {a:Act} {w:World} (m:Nat) (hm:P.follows .mixedOrders=true) (hok:tabOk l.toArray m=true) (hT:m=a.tmps.size)
 (Fact:Nat→Value→World→Prop) (Pre:Nat→World→Prop) (G:World→Prop) (hG:G w.drew) (hP:∀ j,j<l.toArray.size→Pre j w.drew)
 (hstep:∀ V listed i o b W,i∈Region.ready .any l.toArray listed→l.toArray[i]? = some o→FactsAt l.toArray a Fact Pre G V listed b W→o.wpIn Fence.wide nn P b W (fun b' W'=>FactsGo l.toArray Fact Pre G V listed i o.dst b W b' W') Q)
 (hend:∀ V W,(∀ j,j<l.toArray.size→Fact j (V j) W)→G W→Q .normal { tmps:=framed l.toArray V a.tmps l.toArray.size,defers:=a.defers } W):(Code.region id l.toArray true).wpIn Fence.wide nn P Q a w:=by
 refine wpIn_region_inv m hm (fun _=>trivial) hok (fun listed b W=> ∃ V,FactsAt l.toArray a Fact Pre G V listed b W) ?_ ?_ ?_
 · exact ⟨fun _=>undef,TabAt.start a,fun _ _ _ _=>rfl,fun j hj=>(by rw [getD_replicate_false] at hj;cases hj),fun j hj _=>hP j hj,hG⟩
 · rintro listed i o b W hs hi ho ⟨V,h⟩
   exact Oper.wpIn_mono (fun b' W' hg=>h.next hok hT hi ho hg) (hstep V listed i o b W hi ho h)
 · rintro b W ⟨V,h⟩
   have hact:=h.tab.act hok hT
   rw [hact]
   exact hend V W (fun j hj=>h.fact j (by have hj':j<l.length:=(by simpa using hj);simp [hj'])) h.glob
end
structure FactsAtX (ops:Array Oper) (a:Act) (Fact:Nat→Value→World→Prop) (Pre:Nat→World→Prop) (G:World→Prop) (X:(Nat→Value)→(Nat→Bool)→Prop) (V:Nat→Value) (listed:Array Bool) (b:Act) (W:World):Prop extends FactsAt ops a Fact Pre G V listed b W where
 x:X V (fun j=>listed.getD j false)
def nextV (V:Nat→Value) (i:Nat) (v:Value) (j:Nat):Value:=if j=i then v else V j
def nextL (listed:Array Bool) (i:Nat) (j:Nat):Bool:=if j=i then true else listed.getD j false
theorem nextV_at {V:Nat→Value} {i:Nat} {v:Value} : nextV V i v i=v:=by simp [nextV]
theorem nextV_ne {V:Nat→Value} {i j:Nat} {v:Value} (h:j≠i):nextV V i v j=V j:=by simp [nextV,h]
theorem nextL_at {listed:Array Bool} {i:Nat} : nextL listed i i=true:=by simp [nextL]
theorem nextL_ne {listed:Array Bool} {i j:Nat} (h:j≠i):nextL listed i j=listed.getD j false:=by simp only [nextL,if_neg h]
def FactsGoX (ops:Array Oper) (Fact:Nat→Value→World→Prop) (Pre:Nat→World→Prop) (G:World→Prop) (X:(Nat→Value)→(Nat→Bool)→Prop) (V:Nat→Value) (listed:Array Bool) (i:Nat) (d:Option Tmp) (b:Act) (W:World) (b':Act) (W':World):Prop:=
 ∃ v,b'=b.put d v∧Fact i v W'∧(∀ j,j≠i→listed.getD j false=true→Fact j (V j) W→Fact j (V j) W')∧(∀ j,j<ops.size→j≠i→listed.getD j false=false→Pre j W→Pre j W')∧G W'∧X (nextV V i v) (nextL listed i)
theorem FactsGoX.same {ops:Array Oper} {Fact:Nat→Value→World→Prop} {Pre:Nat→World→Prop} {G:World→Prop} {X:(Nat→Value)→(Nat→Bool)→Prop} {V:Nat→Value} {listed:Array Bool} {i:Nat} {d:Option Tmp} {b:Act} {W:World} {v:Value} (hg:G W) (h:Fact i v W) (hx:X (nextV V i v) (nextL listed i)):FactsGoX ops Fact Pre G X V listed i d b W (b.put d v) W:=
 ⟨v,rfl,h,fun _ _ _ h=>h,fun _ _ _ _ h=>h,hg,hx⟩
section
variable {P:Program} {nn:Nat} {ops:Array Oper} {a:Act} {Fact:Nat→Value→World→Prop} {Pre:Nat→World→Prop} {G:World→Prop} {X:(Nat→Value)→(Nat→Bool)→Prop}
theorem FactsAtX.next {m:Nat} (hok:tabOk ops m=true) (hT:m=a.tmps.size) {V:Nat→Value} {listed:Array Bool} {i:Nat} {o:Oper} {b b':Act} {W W':World} (h:FactsAtX ops a Fact Pre G X V listed b W) (hi:i∈Region.ready .any ops listed) (ho:ops[i]? = some o)
 (hg:FactsGoX ops Fact Pre G X V listed i o.dst b W b' W'):∃ V',FactsAtX ops a Fact Pre G X V' (listed.setIfInBounds i true) b' W':=by
 obtain ⟨v,rfl,h1,h2,h3,h4,h5⟩:=hg
 obtain ⟨hun,_⟩:=mem_ready.1 hi
 have hun':listed.getD i false=false:=getD_both hun
 have hV:∀ j,nextV V i v j=if j=i then v else V j:=fun _=>rfl
 have hi':nextV V i v i=v:=by rw [hV,if_pos rfl]
 have hcon:TabAt ops (nextV V i v) a listed b:=h.tab.congr (fun j hj=>by
  rw [hV,if_neg]
  intro e;subst e;rw [hun'] at hj;cases hj)
 have hlt:i<listed.size:=by rw [h.tab.size];exact (Array.getElem?_eq_some_iff.1 ho).1
 have hset:=hcon.set hok hT hi ho
 have hlat:=h.later.set (V:=nextV V i v) hok ho h.tab.size
 rw [hi'] at hset hlat
 have hL:nextL listed i=fun j=>(listed.setIfInBounds i true).getD j false:=by
  funext j
  by_cases e:j=i
  · subst e;rw [nextL_at,getD_set_self rfl hlt]
  · rw [nextL_ne e,getD_set_ne false (Ne.symm e)]
 refine ⟨nextV V i v,⟨hset,hlat,fun j hj=> ?_,fun j hjs hj=> ?_,h4⟩,hL ▸ h5⟩
 · by_cases e:j=i
   · subst e;rw [hi'];exact h1
   · rw [getD_set_ne false (Ne.symm e)] at hj
     rw [hV,if_neg e]
     exact h2 j e hj (h.fact j hj)
 · by_cases e:j=i
   · subst e
     rw [getD_set_self rfl hlt] at hj
     cases hj
   · rw [getD_set_ne false (Ne.symm e)] at hj
     exact h3 j hjs e hj (h.pre j hjs hj)
theorem wpIn_region_factsX {id:Nat} {l:List Oper} {Q:Exit→Act→World→Prop} {a:Act} {w:World} (m:Nat) (hm:P.follows .mixedOrders=true) (hok:tabOk l.toArray m=true) (hT:m=a.tmps.size)
 (Fact:Nat→Value→World→Prop) (Pre:Nat→World→Prop) (G:World→Prop) (X:(Nat→Value)→(Nat→Bool)→Prop) (hG:G w.drew) (hP:∀ j,j<l.toArray.size→Pre j w.drew) (hX:∀ V,X V (fun _=>false))
 (hstep:∀ V listed i o b W,i∈Region.ready .any l.toArray listed→l.toArray[i]? = some o→FactsAtX l.toArray a Fact Pre G X V listed b W→o.wpIn Fence.wide nn P b W (fun b' W'=>FactsGoX l.toArray Fact Pre G X V listed i o.dst b W b' W') Q)
 (hend:∀ V W,(∀ j,j<l.toArray.size→Fact j (V j) W)→G W→X V (fun j=>(Array.replicate l.toArray.size true).getD j false)→Q .normal { tmps:=framed l.toArray V a.tmps l.toArray.size,defers:=a.defers } W):(Code.region id l.toArray true).wpIn Fence.wide nn P Q a w:=by
 refine wpIn_region_inv m hm (fun _=>trivial) hok (fun listed b W=> ∃ V,FactsAtX l.toArray a Fact Pre G X V listed b W) ?_ ?_ ?_
 · refine ⟨fun _=>undef,⟨TabAt.start a,fun _ _ _ _=>rfl,fun j hj=>(by rw [getD_replicate_false] at hj;cases hj),fun j hj _=>hP j hj,hG⟩,?_⟩
   have:(fun j=>(Array.replicate l.toArray.size false).getD j false)=fun _=>false:=by funext j;exact getD_replicate_false _ _
   rw [this];exact hX _
 · rintro listed i o b W hs hi ho ⟨V,h⟩
   exact Oper.wpIn_mono (fun b' W' hg=>h.next hok hT hi ho hg) (hstep V listed i o b W hi ho h)
 · rintro b W ⟨V,h⟩
   have hact:=h.tab.act hok hT
   rw [hact]
   exact hend V W (fun j hj=>h.fact j (by have hj':j<l.length:=(by simpa using hj);simp [hj'])) h.glob h.x
end
def bare (o:Oper):Oper:={ o with guard:=none }
def bareL (l:List Oper):List Oper:=l.map bare
theorem bare_at {l:List Oper} {j:Nat} : (bareL l).toArray[j]? = (l.toArray[j]?).map bare:=by simp [bareL]
theorem bare_of {l:List Oper} {j:Nat} {o:Oper} (h:l.toArray[j]? = some o):(bareL l).toArray[j]? = some (bare o):=by rw [bare_at,h];rfl
theorem bare_size (l:List Oper):(bareL l).toArray.size=l.toArray.size:=by simp [bareL]
theorem dst_bare (l:List Oper) (j:Nat):dstOf (bareL l).toArray j=dstOf l.toArray j:=by
 unfold dstOf
 rw [bare_at]
 cases l.toArray[j]? <;> rfl
theorem ready_bare {l:List Oper} {i:Nat} {listed:Array Bool} (h:i∈Region.ready .any l.toArray listed):i∈Region.ready .any (bareL l).toArray listed:=by
 obtain ⟨h1,o,h2,h3⟩:=mem_ready.1 h
 exact mem_ready.2 ⟨h1,bare o,bare_of h2,h3⟩
section
variable {P:Program} {nn:Nat} {l:List Oper}
theorem wpAnyIn_invG {Q:Exit→Act→World→Prop} {m:Nat} (hok:tabOk (bareL l).toArray m=true) (I:Array Bool→Act→World→Prop)
 (hstep:∀ listed i o b W,listed.size=l.toArray.size→i∈Region.ready .any l.toArray listed→l.toArray[i]? = some o→I listed b W→
   if Region.wanted o (yielded l.toArray b.tmps)=true then o.wpIn Fence.wide nn P b W (fun b' W'=>I (listed.setIfInBounds i true) b' W') Q else I (listed.setIfInBounds i true) (b.put o.dst undef) W)
 (hend:∀ b W,I (Array.replicate l.toArray.size true) b W→Q .normal b W):
 ∀ (fuel:Nat) (listed:Array Bool) (b:Act) (W:World),left listed=fuel→listed.size=l.toArray.size→I listed b W→wpAnyIn Fence.wide nn P .any l.toArray Q fuel listed b W:=by
 intro fuel
 induction fuel with
 | zero=>
   intro listed b W hl hs h
   have hall:=left_zero hl
   rw [hs] at hall
   refine ⟨?_,hend b W (hall ▸ h)⟩
   apply List.eq_nil_iff_forall_not_mem.2
   intro i hi
   obtain ⟨hun,o,ho,_⟩:=mem_ready.1 hi
   have hlt:i<l.toArray.size:=(Array.getElem?_eq_some_iff.1 ho).1
   rw [hall] at hun
   rw [Array.getD_eq_getD_getElem?,Array.getElem?_replicate,if_pos hlt] at hun
   cases hun
 | succ fuel ih=>
   intro listed b W hl hs h
   refine ⟨fun hnil=> ?_,fun i hi=> ?_⟩
   · obtain ⟨i,hi,hmin⟩:=left_pos (listed:=listed) (by omega)
     have hlt:i<l.toArray.size:=by rw [←hs];exact (Array.getElem?_eq_some_iff.1 hi).1
     have ho:l.toArray[i]? = some l.toArray[i]:=Array.getElem?_eq_getElem hlt
     obtain ⟨_,_,hed,_⟩:=tabOk_at hok (bare_of ho)
     have:i∈Region.ready .any l.toArray listed:=mem_ready.2 ⟨by simp [hi],l.toArray[i],ho,fun e he hbd=>by have:=hmin e.on (hed e he hbd);simp [this]⟩
     rw [hnil] at this
     cases this
   · obtain ⟨hun,o,ho,hall⟩:=mem_ready.1 hi
     have hlt:i<listed.size:=by rw [hs];exact (Array.getElem?_eq_some_iff.1 ho).1
     have hf:listed[i]? = some false:=by
      rw [Array.getElem?_eq_getElem hlt]
      rw [Array.getD_eq_getD_getElem?,Array.getElem?_eq_getElem hlt] at hun
      simpa using hun
     have hl':left (listed.setIfInBounds i true)=fuel:=by have:=left_set hf;omega
     have hst:=hstep listed i o b W hs hi ho h
     unfold wpOpIn
     simp only [ho]
     split
     · rename_i hw
       rw [if_pos hw] at hst
       exact Oper.wpIn_mono (fun b' W' h'=>ih _ b' W' hl' (by simp [hs]) h') hst
     · rename_i hw
       rw [if_neg hw] at hst
       exact ⟨fun _ _=>trivial,ih _ _ _ hl' (by simp [hs]) hst⟩
structure ValsAt (l:List Oper) (a:Act) (V:Nat→Value) (G:World→Prop) (listed:Array Bool) (b:Act) (W:World):Prop where
 tab:TabAt (bareL l).toArray V a listed b
 later:Later (bareL l).toArray a listed b
 glob:G W
theorem ValsAt.val {a b:Act} {V:Nat→Value} {G:World→Prop} {listed:Array Bool} {W:World} (h:ValsAt l a V G listed b W) (j d:Nat) (hd:dstOf l.toArray j=some d) (hl:listed.getD j false=true):b.tmps.getD d undef=V j:=
 h.tab.val j d (by rw [dst_bare];exact hd) hl
theorem wanted_of {a b:Act} {V:Nat→Value} {G:World→Prop} {listed:Array Bool} {W:World} (h:ValsAt l a V G listed b W) {o:Oper} {j d:Nat} {g v:Bool} (hg:o.guard=some (j,g)) (hd:dstOf l.toArray j=some d) (hl:listed.getD j false=true) (hv:V j = .bool v):
 Region.wanted o (yielded l.toArray b.tmps)=(v==g):=by
 have h1:=h.val j d hd hl
 rw [hv] at h1
 have h2:b.tmps[d]? = some (.bool v):=by
  rw [Array.getD_eq_getD_getElem?] at h1
  cases hx:b.tmps[d]? with
  | none=>rw [hx] at h1;cases h1
  | some x=>rw [hx] at h1;simpa using h1
 have h3:yielded l.toArray b.tmps j=some v:=by
  unfold yielded
  have hd':(l.toArray[j]?).bind (·.dst)=some d:=hd
  rw [hd',Option.bind_some,h2]
 unfold Region.wanted
 rw [hg]
 simp only [h3]
 cases v<;>cases g<;>rfl
theorem wpIn_region_vals {id:Nat} {Q:Exit→Act→World→Prop} {a:Act} {w:World} (m:Nat) (hm:P.follows .mixedOrders=true) (hok:tabOk (bareL l).toArray m=true) (hT:m=a.tmps.size) (V:Nat→Value) (G:World→Prop) (hG:G w.drew)
 (hstep:∀ listed i o b W,i∈Region.ready .any l.toArray listed→l.toArray[i]? = some o→ValsAt l a V G listed b W→
   if Region.wanted o (yielded l.toArray b.tmps)=true then o.wpIn Fence.wide nn P b W (fun b' W'=>b'=b.put o.dst (V i)∧G W') Q else V i=undef)
 (hend:∀ W,G W→Q .normal { tmps:=framed (bareL l).toArray V a.tmps (bareL l).toArray.size,defers:=a.defers } W):(Code.region id l.toArray true).wpIn Fence.wide nn P Q a w:=by
 refine wpIn_region_any hm ?_
 refine wpAnyIn_invG hok (fun listed b W=>ValsAt l a V G listed b W) ?_ ?_ _ _ _ _ ?_ (by simp) ?_
 · intro listed i o b W hs hi ho h
   have hst:=hstep listed i o b W hi ho h
   have hs':listed.size=(bareL l).toArray.size:=by rw [bare_size];exact hs
   have step:∀ W',G W'→ValsAt l a V G (listed.setIfInBounds i true) (b.put o.dst (V i)) W':=fun W' hW'=>
    ⟨(h.tab.set hok hT (ready_bare hi) (bare_of ho):TabAt (bareL l).toArray V a (listed.setIfInBounds i true) (b.put (bare o).dst (V i))),(h.later.set hok (bare_of ho) hs':Later (bareL l).toArray a (listed.setIfInBounds i true) (b.put (bare o).dst (V i))),hW'⟩
   split
   · rename_i hw
     rw [if_pos hw] at hst
     refine Oper.wpIn_mono ?_ hst
     rintro b' W' ⟨rfl,hW'⟩
     exact step W' hW'
   · rename_i hw
     rw [if_neg hw] at hst
     have:=step W h.glob
     rw [hst] at this
     exact this
 · intro b W h
   have h1:=h.tab
   rw [←bare_size] at h1
   rw [h1.act hok hT]
   exact hend W h.glob
 · have h2:∀ k,(List.filter (fun b=> !b) (List.replicate k false)).length=k:=by
    intro k
    rw [List.filter_eq_self.2 (fun b hb=>by rw [List.eq_of_mem_replicate hb];rfl),List.length_replicate]
   unfold left
   rw [Array.toList_replicate]
   exact h2 _
 · have h0:=TabAt.start (ops:=(bareL l).toArray) (V:=V) a
   rw [bare_size] at h0
   exact ⟨h0,fun _ _ _ _=>rfl,hG⟩
end
end Go.Proofs.YtpmkgmilfifkpaaGreatDoor
end

/- Contracts that the laws lean on: Tried, Gtst, Betw, Dates. -/
import Derived.Test.YtejjplhknacoiaaGreatDoorLK20
import Derived.Test.YtejjplhknacoiaaGreatDoorLK17
set_option maxRecDepth 100000
set_option maxHeartbeats 2000000
section
namespace Go.Proofs.YtejjplhknacoiaaGreatDoor
open Go.RowKit Go.Proofs Go.Shelf
structure GrownT (T:Nat→Prop) (W W':World):Prop where
 os:W'.os=W.os
 tape:W'.tape=W.tape
 output:W'.output=W.output
 size:W.heap.size≤W'.heap.size
 block:∀ k,k<W.heap.size→¬T k→W'.heap[k]? = W.heap[k]?
theorem GrownT.refl (T:Nat→Prop) (W:World):GrownT T W W:=⟨rfl,rfl,rfl,Nat.le_refl _,fun _ _ _=>rfl⟩
theorem GrownT.trans {T:Nat→Prop} {A B C:World} (h:GrownT T A B) (k:GrownT T B C):GrownT T A C:=
 ⟨k.os.trans h.os,k.tape.trans h.tape,k.output.trans h.output,Nat.le_trans h.size k.size,fun i hi ht=>(k.block i (by have:=h.size;omega) ht).trans (h.block i hi ht)⟩
theorem GrownT.of_below {T:Nat→Prop} {A B C:World} {n:Nat} (h:GrownT T A B) (hb:Below n B C) (hn:A.heap.size≤n):GrownT T A C:=
 ⟨hb.os.trans h.os,hb.tape.trans h.tape,hb.output.trans h.output,Nat.le_trans h.size hb.size,fun i hi ht=>(hb.block i (by omega)).trans (h.block i hi ht)⟩
theorem GrownT.cell {T:Nat→Prop} {W W':World} (h:GrownT T W W') {b o:Nat} (hb:b<W.heap.size) (ht:¬T b):W'.cell? ⟨b,o,none⟩=W.cell? ⟨b,o,none⟩:=World.cell?_of_block (h.block b hb ht)
theorem GrownT.frozen {T:Nat→Prop} {W W':World} (h:GrownT T W W') {b o:Nat} (hb:b<W.heap.size) (ht:¬T b):W'.frozen? ⟨b,o,none⟩=W.frozen? ⟨b,o,none⟩:=World.frozen?_of_block (h.block b hb ht)
theorem GrownT.mono {T T':Nat→Prop} {W W':World} (h:GrownT T W W') (ht:∀ k,T k→T' k):GrownT T' W W':=⟨h.os,h.tape,h.output,h.size,fun k hk hn=>h.block k hk (fun q=>hn (ht k q))⟩
theorem tried_any (pts:Int) (A:Option Addr) (n c:Nat) (bs:List Bound) (g:Nat) (lb:Array Value) (eg:∀ args w,(callFunc g args).run Tryz.prog w = .ok (.enter g args) w) (v:Int) (w:World) (hl:Rd encBound 4 w A n c bs) (hk:checkSys pts bs=0)
 (T:Nat→Prop) (hT:∀ k,T k→k<w.heap.size) (Φ:World→Prop) (hΦ:∀ W1 W2:World,Φ W1→(∀ k,k<w.heap.size→W2.heap[k]? = W1.heap[k]?)→Φ W2)
 (hdo:∀ W,Below w.heap.size w W→Calls Tryz.prog g lb W fun e W'=>e = .returned (.int .i64 v)∧GrownT T W W'∧Φ W'):
 Calls Tryz.prog 95 #[.agg #[.int .i64 pts,.slice A n c],.func (.func g) #[] lb] w fun e w'=>e = .returned (.int .i64 v)∧GrownT T w w'∧Φ w':=by
 have hc:=CheckSystem_any pts A n c bs _ ((hl.alloc (.cells #[.int .i64 pts,.slice A n c] 84)).alloc (.cells #[.int .i64 0] 25))
 rw [hk] at hc
 have HC:=Lib.hid hc
 clear hc hk hl
 go_enter_defers Tryz.func95,Tryz.ntmps95
 go_wp2_with (first
  | (go_at_call 61;refine HC.out.mono ?_;rintro e w2 ⟨rfl,hb⟩
     have hz2:=hb.size
     simp only [World.size_alloc] at hz2
     have hb2:Below w.heap.size w w2:=(((Below.refl _ w).alloc (Nat.le_refl _) _).alloc (by simp) _).trans (hb.mono (by simp;omega))
     have d1:w2.cell? ⟨w.heap.size+1,0,none⟩=some (.int .i64 0):=(hb.cell (p:=⟨w.heap.size+1,0,none⟩) (by simp)).trans (by rw [World.cell?_alloc_at _ _ _ _ (by simp)];rfl)
     have f1:w2.frozen? ⟨w.heap.size+1,0,none⟩=false:=(hb.frozen (p:=⟨w.heap.size+1,0,none⟩) (by simp)).trans (World.frozen?_alloc_at _ _ _ _ (by simp))
     have hd:=hdo w2 hb2
     have HD:=Lib.hid hd
     clear hd)
  | (go_at_fn g;refine HD.out.mono ?_;rintro e w3 ⟨rfl,hg3,hf3⟩
     have e1:w3.cell? ⟨w.heap.size+1,0,none⟩=some (.int .i64 0):=(hg3.cell (by omega) (fun h=>by have:=hT _ h;omega)).trans d1
     have g1:w3.frozen? ⟨w.heap.size+1,0,none⟩=false:=(hg3.frozen (by omega) (fun h=>by have:=hT _ h;omega)).trans f1))
 refine leaves_cons (f:=138) (args:=#[.pointer (some ⟨w.heap.size+1,0,none⟩)]) (by simp) (by simp [go_sem]) ?_
 refine (tried1_idle ⟨w.heap.size+1,0,none⟩ _).mono ?_
 rintro e u' w'' ⟨rfl,rfl,rfl⟩
 have hz3:=hg3.size
 have hcv:(w3.setCell ⟨w.heap.size+1,0,none⟩ (.int .i64 v)).cell? ⟨w.heap.size+1,0,none⟩=some (.int .i64 v):=World.cell?_setCell_same' _ _ _ (by rw [e1];rfl)
 have hgw:GrownT T w w3:=(GrownT.refl T w |>.of_below hb2 (Nat.le_refl _)).trans hg3
 have hpost:GrownT T w (w3.setCell ⟨w.heap.size+1,0,none⟩ (.int .i64 v))∧Φ (w3.setCell ⟨w.heap.size+1,0,none⟩ (.int .i64 v)):=
  ⟨⟨hgw.os,hgw.tape,hgw.output,by simpa using hgw.size,fun k hk ht=>(Below.heap_setCell _ _ _ k (show k≠w.heap.size+1 by omega)).trans (hgw.block k hk ht)⟩,
   hΦ w3 _ hf3 (fun k hk=>Below.heap_setCell _ _ _ k (show k≠w.heap.size+1 by omega))⟩
 have HP:=Lib.hid hpost
 clear hpost HC HD
 refine ⟨.int .i64 v,?_,rfl,HP.out⟩
 simp [results,Tryz.results95,go_sem,hcv]
theorem ent_asked1:∀ args w,(callFunc 96 args).run Tryz.prog w = .ok (.enter 96 args) w:=enters_of Tryz.func96 (by kernel_rfl) rfl
theorem rd_two (w:World) (a b:Int) (t:TypeId):Rd encInt 1 (w.alloc (.cells #[.int .i64 a,.int .i64 b] t)) (some ⟨w.heap.size,0,none⟩) 2 2 [a,b]:=
 Rd.single (enc:=encInt) (k:=1) w #[.int .i64 a,.int .i64 b] t [a,b] 2 rfl (by omega) (fun _=>rfl) (by simp [encInt])
theorem asked1_yes (pts:Int) (A:Option Addr) (n c:Nat) (bs:List Bound) (a b:Int) (gw:Nat) (lw:Array Value) (eg:∀ args w,(callFunc gw args).run Tryz.prog w = .ok (.enter gw args) w) (b0 b1 b2 b3:Nat) (w:World) (hl:Rd encBound 4 w A n c bs) (hok:SysOk pts bs) (hs:solvedOk pts bs=true)
 (h1:0≤a) (h2:a<pts) (h3:0≤b) (h4:b<pts) (c0:w.cell? ⟨b0,0,none⟩=some (.int .i64 pts)) (c1:w.cell? ⟨b0,1,none⟩=some (.slice A n c)) (ca:w.cell? ⟨b1,0,none⟩=some (.int .i64 a)) (cb:w.cell? ⟨b2,0,none⟩=some (.int .i64 b)) (cw:w.cell? ⟨b3,0,none⟩=some (.func (.func gw) #[] lw))
 (T:Nat→Prop) (Φ:World→Prop) (hdo:∀ W,Below w.heap.size w W→Calls Tryz.prog gw lw W fun e W'=>e = .returned (.tuple #[])∧GrownT T W W'∧Φ W'):
 Calls Tryz.prog 96 #[.pointer (some ⟨b0,0,none⟩),.pointer (some ⟨b1,0,none⟩),.pointer (some ⟨b2,0,none⟩),.pointer (some ⟨b3,0,none⟩)] w fun e w'=>e = .returned (.int .i64 0)∧GrownT T w w'∧Φ w':=by
 have hpt:=points_any pts A n c (some ⟨w.heap.size,0,none⟩) 2 2 [a,b] _ (rd_two w a b 3) (fun x hx=>by simp at hx;rcases hx with rfl|rfl<;>(rw [withinB_iff];omega)) hok.p1 hok.p2
 have hsv:=fun W hl=>solvable_any pts A n c bs W hl hok
 rw [hs] at hsv
 have HPT:=Lib.hid hpt
 have HSV:=Lib.hid hsv
 have HL:=Lib.hid hl
 have z0:=block_lt_of_cell c0
 have z3:=block_lt_of_cell cw
 simp only at z0 z3
 clear hpt hsv hs hl
 go_enter Tryz.func96,Tryz.ntmps96
 go_wp2_with (first
  | (go_at_call 97;refine HPT.out.mono ?_;rintro e w2 ⟨rfl,hb⟩
     have hz2:=hb.size
     simp only [World.size_alloc] at hz2
     have hb2:Below w.heap.size w w2:=((Below.refl _ w).alloc (Nat.le_refl _) _).trans (hb.mono (by simp))
     have d0:w2.cell? ⟨b0,0,none⟩=some (.int .i64 pts):=(hb2.cell (p:=⟨b0,0,none⟩) z0).trans c0
     have d1:w2.cell? ⟨b0,1,none⟩=some (.slice A n c):=(hb2.cell (p:=⟨b0,1,none⟩) z0).trans c1)
  | (go_at_call 98;refine (HSV.out _ (HL.out.below hb2 (Nat.le_refl _))).mono ?_;rintro e w3 ⟨rfl,hb3⟩
     have hb4:Below w.heap.size w w3:=hb2.trans (hb3.mono hb2.size)
     have d3:w3.cell? ⟨b3,0,none⟩=some (.func (.func gw) #[] lw):=(hb4.cell (p:=⟨b3,0,none⟩) z3).trans cw
     have hd:=hdo w3 hb4
     have HD:=Lib.hid hd
     clear hd)
  | (go_at_fn gw;refine HD.out.mono ?_;rintro e w5 ⟨rfl,hg5,hf5⟩))
 go_ret
 exact ⟨rfl,(GrownT.refl T w |>.of_below hb4 (Nat.le_refl _)).trans hg5,hf5⟩
theorem asked1_no (pts:Int) (A:Option Addr) (n c:Nat) (bs:List Bound) (a b:Int) (b0 b1 b2 b3:Nat) (w:World) (hl:Rd encBound 4 w A n c bs) (hok:SysOk pts bs) (hs:solvedOk pts bs=false)
 (h1:0≤a) (h2:a<pts) (h3:0≤b) (h4:b<pts) (c0:w.cell? ⟨b0,0,none⟩=some (.int .i64 pts)) (c1:w.cell? ⟨b0,1,none⟩=some (.slice A n c)) (ca:w.cell? ⟨b1,0,none⟩=some (.int .i64 a)) (cb:w.cell? ⟨b2,0,none⟩=some (.int .i64 b)):
 Calls Tryz.prog 96 #[.pointer (some ⟨b0,0,none⟩),.pointer (some ⟨b1,0,none⟩),.pointer (some ⟨b2,0,none⟩),.pointer (some ⟨b3,0,none⟩)] w fun e w'=>e = .returned (.int .i64 10)∧Below w.heap.size w w':=by
 have hpt:=points_any pts A n c (some ⟨w.heap.size,0,none⟩) 2 2 [a,b] _ (rd_two w a b 3) (fun x hx=>by simp at hx;rcases hx with rfl|rfl<;>(rw [withinB_iff];omega)) hok.p1 hok.p2
 have hsv:=fun W hl=>solvable_any pts A n c bs W hl hok
 rw [hs] at hsv
 have HPT:=Lib.hid hpt
 have HSV:=Lib.hid hsv
 have HL:=Lib.hid hl
 have z0:=block_lt_of_cell c0
 simp only at z0
 clear hpt hsv hs hl
 go_enter Tryz.func96,Tryz.ntmps96
 go_wp2_with (first
  | (go_at_call 97;refine HPT.out.mono ?_;rintro e w2 ⟨rfl,hb⟩
     have hz2:=hb.size
     simp only [World.size_alloc] at hz2
     have hb2:Below w.heap.size w w2:=((Below.refl _ w).alloc (Nat.le_refl _) _).trans (hb.mono (by simp))
     have d0:w2.cell? ⟨b0,0,none⟩=some (.int .i64 pts):=(hb2.cell (p:=⟨b0,0,none⟩) z0).trans c0
     have d1:w2.cell? ⟨b0,1,none⟩=some (.slice A n c):=(hb2.cell (p:=⟨b0,1,none⟩) z0).trans c1)
  | (go_at_call 98;refine (HSV.out _ (HL.out.below hb2 (Nat.le_refl _))).mono ?_;rintro e w3 ⟨rfl,hb3⟩))
 go_ret
 exact ⟨rfl,hb2.trans (hb3.mono hb2.size)⟩
theorem GrownT.below {W W':World} (h:GrownT (fun _=>False) W W'):Below W.heap.size W W':=⟨h.os,h.tape,h.output,h.size,fun k hk=>h.block k hk (fun f=>f)⟩
theorem Below.grownT {W W':World} (T:Nat→Prop) (h:Below W.heap.size W W'):GrownT T W W':=⟨h.os,h.tape,h.output,h.size,fun k hk _=>h.block k hk⟩
def boxed4 (w:World) (pts:Int) (A:Option Addr) (n c:Nat) (a b:Int) (gw:Nat) (lw:Array Value):World:=
 (((w.alloc (.cells #[.int .i64 pts,.slice A n c] 84)).alloc (.cells #[.int .i64 a] 3)).alloc (.cells #[.int .i64 b] 3)).alloc (.cells #[.func (.func gw) #[] lw] 1)
theorem boxed4_size (w:World) (pts:Int) (A:Option Addr) (n c:Nat) (a b:Int) (gw:Nat) (lw:Array Value):(boxed4 w pts A n c a b gw lw).heap.size=w.heap.size+4:=by simp [boxed4]
theorem boxed4_below (w:World) (pts:Int) (A:Option Addr) (n c:Nat) (a b:Int) (gw:Nat) (lw:Array Value):Below w.heap.size w (boxed4 w pts A n c a b gw lw):=
 ((((Below.refl _ w).alloc (Nat.le_refl _) _).alloc (by simp<;>omega) _).alloc (by simp<;>omega) _).alloc (by simp<;>omega) _
theorem boxed4_s (w:World) (pts:Int) (A:Option Addr) (n c:Nat) (a b:Int) (gw:Nat) (lw:Array Value) (i:Nat):(boxed4 w pts A n c a b gw lw).cell? ⟨w.heap.size,i,none⟩ = #[Value.int .i64 pts,.slice A n c][i]? := by
 unfold boxed4
 rw [World.cell?_alloc_past _ _ _ (by simp<;>omega),World.cell?_alloc_past _ _ _ (by simp<;>omega),World.cell?_alloc_past _ _ _ (by simp<;>omega),World.cell?_alloc_at _ _ _ _ rfl]
theorem boxed4_a (w:World) (pts:Int) (A:Option Addr) (n c:Nat) (a b:Int) (gw:Nat) (lw:Array Value):(boxed4 w pts A n c a b gw lw).cell? ⟨w.heap.size+1,0,none⟩=some (.int .i64 a):=by
 unfold boxed4
 rw [World.cell?_alloc_past _ _ _ (by simp<;>omega),World.cell?_alloc_past _ _ _ (by simp<;>omega),World.cell?_alloc_at _ _ _ _ (by simp<;>omega)]
 all_goals rfl
theorem boxed4_b (w:World) (pts:Int) (A:Option Addr) (n c:Nat) (a b:Int) (gw:Nat) (lw:Array Value):(boxed4 w pts A n c a b gw lw).cell? ⟨w.heap.size+2,0,none⟩=some (.int .i64 b):=by
 unfold boxed4
 rw [World.cell?_alloc_past _ _ _ (by simp<;>omega),World.cell?_alloc_at _ _ _ _ (by simp<;>omega)]
 all_goals rfl
theorem boxed4_w (w:World) (pts:Int) (A:Option Addr) (n c:Nat) (a b:Int) (gw:Nat) (lw:Array Value):(boxed4 w pts A n c a b gw lw).cell? ⟨w.heap.size+3,0,none⟩=some (.func (.func gw) #[] lw):=by
 unfold boxed4
 rw [World.cell?_alloc_at _ _ _ _ (by simp<;>omega)]
 all_goals rfl
@[go_sem] theorem run_store_func2 (P:Program) (w:World) (a:Addr) (f:Fn) (b c:Array Value) (m:Mode):(store a (.func f b c) m).run P w=stored P w a (.func f b c) m:=run_store P w a _ m rfl
theorem gasked_of (pts:Int) (A:Option Addr) (n c:Nat) (a b:Int) (gw:Nat) (lw:Array Value) (w:World) (R:Ending→World→Prop)
 (h:Calls Tryz.prog 95 #[.agg #[.int .i64 pts,.slice A n c],.func (.func 96) #[] #[.pointer (some ⟨w.heap.size,0,none⟩),.pointer (some ⟨w.heap.size+1,0,none⟩),.pointer (some ⟨w.heap.size+2,0,none⟩),.pointer (some ⟨w.heap.size+3,0,none⟩)]] (boxed4 w pts A n c a b gw lw) fun e w'=>(∃ v:Int,e = .returned (.int .i64 v))∧R e w'):
 Calls Tryz.prog 57 #[.agg #[.int .i64 pts,.slice A n c],.int .i64 a,.int .i64 b,.func (.func gw) #[] lw] w R:=by
 unfold boxed4 at h
 have H:=Lib.hid h
 clear h
 go_enter Tryz.func57,Tryz.ntmps57
 go_wp2_with (go_at_call 95;refine H.out.mono ?_;rintro e w2 ⟨⟨v,rfl⟩,hR⟩)
 exact hR
theorem gasked_yes (pts:Int) (A:Option Addr) (n c:Nat) (bs:List Bound) (a b:Int) (gw:Nat) (lw:Array Value) (eg:∀ args w,(callFunc gw args).run Tryz.prog w = .ok (.enter gw args) w) (w:World) (hl:Rd encBound 4 w A n c bs) (hk:checkSys pts bs=0) (hs:solvedOk pts bs=true)
 (h1:0≤a) (h2:a<pts) (h3:0≤b) (h4:b<pts) (T:Nat→Prop) (hT:∀ k,T k→k<w.heap.size) (Φ:World→Prop) (hΦ:∀ W1 W2:World,Φ W1→(∀ k,k<w.heap.size→W2.heap[k]? = W1.heap[k]?)→Φ W2)
 (hdo:∀ W,Below w.heap.size w W→Calls Tryz.prog gw lw W fun e W'=>e = .returned (.tuple #[])∧GrownT T W W'∧Φ W'):
 Calls Tryz.prog 57 #[.agg #[.int .i64 pts,.slice A n c],.int .i64 a,.int .i64 b,.func (.func gw) #[] lw] w fun e w'=>e = .returned (.int .i64 0)∧GrownT T w w'∧Φ w':=by
 have hz:=boxed4_size w pts A n c a b gw lw
 have hb4:=boxed4_below w pts A n c a b gw lw
 refine gasked_of pts A n c a b gw lw w _ ((tried_any pts A n c bs 96 _ ent_asked1 0 _ (hl.below hb4 (Nat.le_refl _)) hk T (fun k hk=>by have:=hT k hk;omega) Φ (fun W1 W2 hf h=>hΦ W1 W2 hf (fun k hk=>h k (by omega))) (fun W hW=> ?_)).mono ?_)
 · exact asked1_yes pts A n c bs a b gw lw eg w.heap.size (w.heap.size+1) (w.heap.size+2) (w.heap.size+3) W (hl.below (hb4.trans (hW.mono (by omega))) (Nat.le_refl _)) (sysOk_of hk) hs h1 h2 h3 h4
    ((hW.cell (p:=⟨w.heap.size,0,none⟩) (show w.heap.size<_ by omega)).trans (boxed4_s w pts A n c a b gw lw 0)) ((hW.cell (p:=⟨w.heap.size,1,none⟩) (show w.heap.size<_ by omega)).trans (boxed4_s w pts A n c a b gw lw 1))
    ((hW.cell (p:=⟨w.heap.size+1,0,none⟩) (show w.heap.size+1<_ by omega)).trans (boxed4_a w pts A n c a b gw lw)) ((hW.cell (p:=⟨w.heap.size+2,0,none⟩) (show w.heap.size+2<_ by omega)).trans (boxed4_b w pts A n c a b gw lw))
    ((hW.cell (p:=⟨w.heap.size+3,0,none⟩) (show w.heap.size+3<_ by omega)).trans (boxed4_w w pts A n c a b gw lw)) T Φ
    (fun W' hW'=>hdo W' (hb4.trans ((hW.mono (by omega)).trans (hW'.mono (by have:=hW.size;omega)))))
 · rintro e w' ⟨rfl,hg,hf⟩
   exact ⟨⟨_,rfl⟩,rfl,(Below.grownT T hb4).trans hg,hf⟩
theorem gasked_no (pts:Int) (A:Option Addr) (n c:Nat) (bs:List Bound) (a b:Int) (gw:Nat) (lw:Array Value) (w:World) (hl:Rd encBound 4 w A n c bs) (hk:checkSys pts bs=0) (hs:solvedOk pts bs=false)
 (h1:0≤a) (h2:a<pts) (h3:0≤b) (h4:b<pts):
 Calls Tryz.prog 57 #[.agg #[.int .i64 pts,.slice A n c],.int .i64 a,.int .i64 b,.func (.func gw) #[] lw] w fun e w'=>e = .returned (.int .i64 10)∧Below w.heap.size w w':=by
 have hz:=boxed4_size w pts A n c a b gw lw
 have hb4:=boxed4_below w pts A n c a b gw lw
 refine gasked_of pts A n c a b gw lw w _ ((tried_any pts A n c bs 96 _ ent_asked1 10 _ (hl.below hb4 (Nat.le_refl _)) hk (fun _=>False) (fun k hk=>hk.elim) (fun _=>True) (fun _ _ _ _=>trivial) (fun W hW=> ?_)).mono ?_)
 · refine (asked1_no pts A n c bs a b w.heap.size (w.heap.size+1) (w.heap.size+2) (w.heap.size+3) W (hl.below (hb4.trans (hW.mono (by omega))) (Nat.le_refl _)) (sysOk_of hk) hs h1 h2 h3 h4
    ((hW.cell (p:=⟨w.heap.size,0,none⟩) (show w.heap.size<_ by omega)).trans (boxed4_s w pts A n c a b gw lw 0)) ((hW.cell (p:=⟨w.heap.size,1,none⟩) (show w.heap.size<_ by omega)).trans (boxed4_s w pts A n c a b gw lw 1))
    ((hW.cell (p:=⟨w.heap.size+1,0,none⟩) (show w.heap.size+1<_ by omega)).trans (boxed4_a w pts A n c a b gw lw)) ((hW.cell (p:=⟨w.heap.size+2,0,none⟩) (show w.heap.size+2<_ by omega)).trans (boxed4_b w pts A n c a b gw lw))).mono ?_
   rintro e w' ⟨rfl,hb⟩
   exact ⟨rfl,Below.grownT _ hb,trivial⟩
 · rintro e w' ⟨rfl,hg,_⟩
   exact ⟨⟨_,rfl⟩,rfl,hb4.trans (hg.below.mono (by omega))⟩
theorem ent_great1:∀ args w,(callFunc 58 args).run Tryz.prog w = .ok (.enter 58 args) w:=enters_of Tryz.func58 (by kernel_rfl) rfl
theorem great1 (pts:Int) (A:Option Addr) (n c:Nat) (bs:List Bound) (a b:Int) (b0 b1 b2 bn:Nat) (v0:Value) (w:World) (hl:Rd encBound 4 w A n c bs) (hok:SysOk pts bs)
 (h1:0≤a) (h2:a<pts) (h3:0≤b) (h4:b<pts) (c0:w.cell? ⟨b0,0,none⟩=some (.int .i64 pts)) (c1:w.cell? ⟨b0,1,none⟩=some (.slice A n c)) (ca:w.cell? ⟨b1,0,none⟩=some (.int .i64 a)) (cb:w.cell? ⟨b2,0,none⟩=some (.int .i64 b))
 (cn:w.cell? ⟨bn,0,none⟩=some v0) (fn:w.frozen? ⟨bn,0,none⟩=false):
 Calls Tryz.prog 58 #[.pointer (some ⟨b0,0,none⟩),.pointer (some ⟨b1,0,none⟩),.pointer (some ⟨b2,0,none⟩),.pointer (some ⟨bn,0,none⟩)] w fun e w'=>e = .returned (.tuple #[])∧GrownT (fun k=>k=bn) w w'∧w'.cell? ⟨bn,0,none⟩=some (.int .i64 (greatestR pts bs a b))∧w'.frozen? ⟨bn,0,none⟩=false:=by
 have hg:=greatest_any pts A n c bs a b w hl hok h1 h2 h3 h4
 have HG:=Lib.hid hg
 have zn:=block_lt_of_cell cn
 simp only at zn
 clear hg hl
 go_enter Tryz.func58,Tryz.ntmps58
 go_wp2_with (go_at_call 59;refine HG.out.mono ?_;rintro e w2 ⟨rfl,hb⟩
              have d1:w2.cell? ⟨bn,0,none⟩=some v0:=(hb.cell (p:=⟨bn,0,none⟩) zn).trans cn
              have d2:w2.frozen? ⟨bn,0,none⟩=false:=(hb.frozen (p:=⟨bn,0,none⟩) zn).trans fn)
 go_end0
 refine ⟨rfl,⟨hb.os,hb.tape,hb.output,by simpa using hb.size,fun k hk ht=>(Below.heap_setCell _ _ _ k (show k≠bn from ht)).trans (hb.block k hk)⟩,World.cell?_setCell_same' _ _ _ (by rw [d1];rfl),by rw [World.frozen?_setCell];exact d2⟩
def greatestV (pts:Int) (bs:List Bound) (a b:Int):Int×Bool×Int:=
 if solvedOk pts bs then (if greatestR pts bs a b=noneV then (0,false,0) else (greatestR pts bs a b,true,0)) else (0,false,10)
theorem Greatest_any (pts:Int) (A:Option Addr) (n c:Nat) (bs:List Bound) (a b:Int) (w:World) (hl:Rd encBound 4 w A n c bs) (hk:checkSys pts bs=0) (h1:0≤a) (h2:a<pts) (h3:0≤b) (h4:b<pts):
 Calls Tryz.prog 32 #[.agg #[.int .i64 pts,.slice A n c],.int .i64 a,.int .i64 b] w fun e w'=>e = .returned (.tuple #[.int .i64 (greatestV pts bs a b).1,.bool (greatestV pts bs a b).2.1,.int .i64 (greatestV pts bs a b).2.2])∧Below w.heap.size w w':=by
 obtain ⟨W1,hW1⟩:∃ W1,(((w.alloc (.cells #[.int .i64 pts,.slice A n c] 84)).alloc (.cells #[.int .i64 a] 3)).alloc (.cells #[.int .i64 b] 3)).alloc (.cells #[.int .i64 1099511627776] 3)=W1:=⟨_,rfl⟩
 have hs1:W1.heap.size=w.heap.size+4:=by rw [←hW1];simp
 have hb1:Below w.heap.size w W1:=by rw [←hW1];exact ((((Below.refl _ w).alloc (Nat.le_refl _) _).alloc (by simp<;>omega) _).alloc (by simp<;>omega) _).alloc (by simp<;>omega) _
 have hl1:=hl.below hb1 (Nat.le_refl _)
 have e0:∀ i,W1.cell? ⟨w.heap.size,i,none⟩ = #[Value.int .i64 pts,.slice A n c][i]? := fun i=>by rw [←hW1,World.cell?_alloc_past _ _ _ (by simp<;>omega),World.cell?_alloc_past _ _ _ (by simp<;>omega),World.cell?_alloc_past _ _ _ (by simp<;>omega),World.cell?_alloc_at _ _ _ _ rfl]
 have ea:W1.cell? ⟨w.heap.size+1,0,none⟩=some (.int .i64 a):=by rw [←hW1,World.cell?_alloc_past _ _ _ (by simp<;>omega),World.cell?_alloc_past _ _ _ (by simp<;>omega),World.cell?_alloc_at _ _ _ _ (by simp<;>omega)];rfl
 have eb:W1.cell? ⟨w.heap.size+2,0,none⟩=some (.int .i64 b):=by rw [←hW1,World.cell?_alloc_past _ _ _ (by simp<;>omega),World.cell?_alloc_at _ _ _ _ (by simp<;>omega)];rfl
 have en:W1.cell? ⟨w.heap.size+3,0,none⟩=some (.int .i64 1099511627776):=by rw [←hW1,World.cell?_alloc_at _ _ _ _ (by simp<;>omega)];rfl
 have fnz:W1.frozen? ⟨w.heap.size+3,0,none⟩=false:=by rw [←hW1];exact World.frozen?_alloc_at _ _ _ _ (by simp<;>omega)
 cases hs:solvedOk pts bs
 · have hg:greatestV pts bs a b=(0,false,10):=by unfold greatestV;rw [hs];rfl
   have hask:=gasked_no pts A n c bs a b 58 #[.pointer (some ⟨w.heap.size,0,none⟩),.pointer (some ⟨w.heap.size+1,0,none⟩),.pointer (some ⟨w.heap.size+2,0,none⟩),.pointer (some ⟨w.heap.size+3,0,none⟩)] W1 hl1 hk hs h1 h2 h3 h4
   rw [hg]
   have HA:=Lib.hid hask
   have HW:=Lib.hid hW1
   have HN:=Lib.hid en
   clear hg e0 ea eb en hl hl1 hk hs hask hW1
   go_enter Tryz.func32,Tryz.ntmps32
   go_wp2_with (go_at_call 57;rw [HW.out];refine HA.out.mono ?_;rintro e w2 ⟨rfl,hb⟩;have d1:w2.cell? ⟨w.heap.size+1+1+1,0,none⟩=some (.int .i64 1099511627776):=(hb.cell (p:=⟨w.heap.size+3,0,none⟩) (show w.heap.size+3<W1.heap.size by omega)).trans HN.out)
   go_ret3
   exact ⟨rfl,hb1.trans (hb.mono (by omega))⟩
 · have hask:=gasked_yes pts A n c bs a b 58 #[.pointer (some ⟨w.heap.size,0,none⟩),.pointer (some ⟨w.heap.size+1,0,none⟩),.pointer (some ⟨w.heap.size+2,0,none⟩),.pointer (some ⟨w.heap.size+3,0,none⟩)] ent_great1 W1 hl1 hk hs h1 h2 h3 h4
    (fun k=>k=w.heap.size+3) (fun k hk=>by omega) (fun W=>W.cell? ⟨w.heap.size+3,0,none⟩=some (.int .i64 (greatestR pts bs a b))) (fun Wa Wb hf h=>(World.cell?_of_block (a:=⟨w.heap.size+3,0,none⟩) (h (w.heap.size+3) (by omega))).trans hf)
    (fun W hW=>(great1 pts A n c bs a b w.heap.size (w.heap.size+1) (w.heap.size+2) (w.heap.size+3) (.int .i64 1099511627776) W (hl1.below hW (Nat.le_refl _)) (sysOk_of hk) h1 h2 h3 h4
      ((hW.cell (p:=⟨w.heap.size,0,none⟩) (show w.heap.size<W1.heap.size by omega)).trans (e0 0)) ((hW.cell (p:=⟨w.heap.size,1,none⟩) (show w.heap.size<W1.heap.size by omega)).trans (e0 1))
      ((hW.cell (p:=⟨w.heap.size+1,0,none⟩) (show w.heap.size+1<W1.heap.size by omega)).trans ea) ((hW.cell (p:=⟨w.heap.size+2,0,none⟩) (show w.heap.size+2<W1.heap.size by omega)).trans eb)
      ((hW.cell (p:=⟨w.heap.size+3,0,none⟩) (show w.heap.size+3<W1.heap.size by omega)).trans en) ((hW.frozen (p:=⟨w.heap.size+3,0,none⟩) (show w.heap.size+3<W1.heap.size by omega)).trans fnz)).mono fun _ _ h=>⟨h.1,h.2.1,h.2.2.1⟩)
   have hg:greatestV pts bs a b=if greatestR pts bs a b=noneV then (0,false,0) else (greatestR pts bs a b,true,0):=by unfold greatestV;rw [hs];rfl
   rw [hg]
   clear hg e0 ea eb en hl hl1 hk hs
   generalize greatestR pts bs a b=G at hask ⊢
   have HA:=Lib.hid hask
   have HW:=Lib.hid hW1
   clear hask hW1
   by_cases hq:G=noneV
   · rw [if_pos hq]
     unfold noneV at hq
     subst hq
     go_enter Tryz.func32,Tryz.ntmps32
     go_wp2_with (go_at_call 57;rw [HW.out];refine HA.out.mono ?_;rintro e w2 ⟨rfl,hg,hc⟩)
     go_ret3
     exact ⟨rfl,hb1.trans ⟨hg.os,hg.tape,hg.output,by have:=hg.size;omega,fun k hk=>hg.block k (by omega) (by omega)⟩⟩
   · rw [if_neg hq]
     have hq':(G==1099511627776)=false:=by simpa [noneV] using hq
     clear hq
     go_enter Tryz.func32,Tryz.ntmps32
     go_wp2_with (go_at_call 57;rw [HW.out];refine HA.out.mono ?_;rintro e w2 ⟨rfl,hg,hc⟩)
     go_ret3
     exact ⟨rfl,hb1.trans ⟨hg.os,hg.tape,hg.output,by have:=hg.size;omega,fun k hk=>hg.block k (by omega) (by omega)⟩⟩
def sysOf (l:List Trace) (known:Int) (bs:List Bond) (mv:List Place):List Bound:=(linksL (counting l known) bs mv).map (boundOf (ptsOf l known bs))
def betweenV (l:List Trace) (known:Int) (bs:List Bond) (mv:List Place) (a b:Place):Int×Bool×Int:=
 if endsErr l known bs mv a b≠0 then (0,false,endsErr l known bs mv a b) else
 let g:=greatestV ((placesOf (counting l known) bs).length+1) (sysOf l known bs mv) ((getM (ptsOf l known bs) a).getD 0) ((getM (ptsOf l known bs) b).getD 0)
 if g.2.2≠0 then (0,false,81) else (g.1,g.2.1,0)
theorem askErr_of_ends {l:List Trace} {known:Int} {bs:List Bond} {mv:List Place} {a b:Place} (h:endsErr l known bs mv a b=0):askErr l known bs=0:=by
 unfold endsErr at h
 split at h
 · rename_i h1;exact absurd h h1
 · rename_i h1
   have h2:withErr l known bs mv=0:=by simpa using h1
   unfold withErr at h2
   split at h2
   · rename_i h3;exact absurd h2 h3
   · rename_i h3;simpa using h3
theorem Between_any (A:Option Addr) (n c:Nat) (l:List Trace) (known:Int) (bA:Option Addr) (bn bc:Nat) (bs:List Bond) (M:Option Addr) (mn mc:Nat) (mv:List Place) (a b:Place) (w:World) (hl:Rd encTrace 10 w A n c l) (hb:Rd encBond 5 w bA bn bc bs) (hm:Rd encPlace 2 w M mn mc mv):
 Calls Tryz.prog 13 #[.slice A n c,.int .i64 known,.slice bA bn bc,.slice M mn mc,.agg #[.int .i64 a.pit,.int .i64 a.layer],.agg #[.int .i64 b.pit,.int .i64 b.layer]] w fun e w'=>e = .returned (.tuple #[.int .i64 (betweenV l known bs mv a b).1,.bool (betweenV l known bs mv a b).2.1,.int .i64 (betweenV l known bs mv a b).2.2])∧Below w.heap.size w w':=by
 obtain ⟨w1,hw1⟩:∃ w1,(w.alloc (.cells #[.int .i64 a.pit,.int .i64 a.layer] 36)).alloc (.cells #[.int .i64 b.pit,.int .i64 b.layer] 36)=w1:=⟨_,rfl⟩
 have hb1:Below w.heap.size w w1:=(by rw [←hw1];exact ((Below.refl _ w).alloc (Nat.le_refl _) _).alloc (by simp) _)
 have hz1:w1.heap.size=w.heap.size+2:=(by rw [←hw1];simp)
 have hra:w1.heap[w.heap.size]? = some (.cells #[.int .i64 a.pit,.int .i64 a.layer] 36 (0,0)):=(by rw [←hw1,Below.heap_alloc _ _ _ (by simp)];exact heap_alloc_new w _)
 have hrb:w1.heap[w.heap.size+1]? = some (.cells #[.int .i64 b.pit,.int .i64 b.layer] 36 (0,0)):=(by
  rw [←hw1]
  have:=heap_alloc_new (w.alloc (.cells #[.int .i64 a.pit,.int .i64 a.layer] 36)) (.cells #[.int .i64 b.pit,.int .i64 b.layer] 36)
  rw [World.size_alloc] at this;exact this)
 have a0:w1.cell? ⟨w.heap.size,0,none⟩=some (.int .i64 a.pit):=(by simp [World.cell?,hra])
 have a1:w1.cell? ⟨w.heap.size,1,none⟩=some (.int .i64 a.layer):=(by simp [World.cell?,hra])
 have b0:w1.cell? ⟨w.heap.size+1,0,none⟩=some (.int .i64 b.pit):=(by simp [World.cell?,hrb])
 have b1:w1.cell? ⟨w.heap.size+1,1,none⟩=some (.int .i64 b.layer):=(by simp [World.cell?,hrb])
 have hends:=ends_any A n c l known bA bn bc bs M mn mc mv a b w1 (hl.below hb1 (Nat.le_refl _)) (hb.below hb1 (Nat.le_refl _)) (hm.below hb1 (Nat.le_refl _))
 have HE:=Lib.hid hends
 clear hends hl hb hm hra hrb
 by_cases he:endsErr l known bs mv a b=0
 · have hO:=okO_of (askErr_of_ends he)
   have hck:=checkSys_years hO mv
   have HK:=Lib.hid hck
   have hv:betweenV l known bs mv a b=if (greatestV ((placesOf (counting l known) bs).length+1) (sysOf l known bs mv) ((getM (ptsOf l known bs) a).getD 0) ((getM (ptsOf l known bs) b).getD 0)).2.2≠0 then (0,false,81) else ((greatestV ((placesOf (counting l known) bs).length+1) (sysOf l known bs mv) ((getM (ptsOf l known bs) a).getD 0) ((getM (ptsOf l known bs) b).getD 0)).1,(greatestV ((placesOf (counting l known) bs).length+1) (sysOf l known bs mv) ((getM (ptsOf l known bs) a).getD 0) ((getM (ptsOf l known bs) b).getD 0)).2.1,0):=by
    unfold betweenV;rw [if_neg (by simpa using he)]
   rw [hv]
   have hll:=linksL_len (counting l known) bs mv
   have hl1:=hO.tn
   have hl2:=hO.bn
   clear hv hck
   rw [he] at HE
   have HEZ:=Lib.hid he
   clear he hO
   obtain ⟨G,hG⟩:∃ G,greatestV ((placesOf (counting l known) bs).length+1) (sysOf l known bs mv) ((getM (ptsOf l known bs) a).getD 0) ((getM (ptsOf l known bs) b).getD 0)=G:=⟨_,rfl⟩
   rw [hG]
   obtain ⟨g1,g2,g3⟩:=G
   have HG:=Lib.hid hG
   clear hG
   simp only
   by_cases hg3:g3=0
   all_goals
    first
     | rw [if_neg (by simpa using hg3)]
     | rw [if_pos hg3]
    have hg3':(g3 != 0)=decide (g3≠0):=by by_cases h:g3=0<;>simp [h]
    first
     | (have hg4:(g3 != 0)=true:=by simpa using hg3)
     | (have hg4:(g3 != 0)=false:=by simpa using hg3)
    clear hg3'
    go_enter Tryz.func13,Tryz.ntmps13
    go_wp2_with (first
     | (go_at_call 31;refine HE.out.mono ?_;rintro e w2 ⟨cs,p,q,rfl,hb2,_,hp⟩
        obtain ⟨hp1,hp2,Ab,cb,Al,cl,mb,rfl,y1,_,_,_⟩:=hp rfl
        have hr1:=ptsM_range _ hp1
        have hr2:=ptsM_range _ hp2
        have HG2:=HG.out
        rw [hp1,hp2] at HG2
        simp only [Option.getD_some] at HG2
        have hgr:=fun W h=>Greatest_any ((placesOf (counting l known) bs).length+1) Ab (linksL (counting l known) bs mv).length cb (sysOf l known bs mv) p q W h HK.out hr1.1 hr1.2 hr2.1 hr2.2
        rw [HG2] at hgr
        have HGR:=Lib.hid hgr
        clear hgr HG2 hr1 hr2)
     | (go_at_call 32;refine (HGR.out _ ((y1.rd (fun _=>rfl) (by omega)).alloc _)).mono ?_;rintro e w3 ⟨rfl,hb3⟩))
    go_ret3
    exact ⟨rfl,((hb1.trans (hb2.mono (by omega))).alloc (by have:=hb2.size;omega) _).trans (hb3.mono (by simp;have:=hb2.size;omega))⟩
 · have hv:betweenV l known bs mv a b=(0,false,endsErr l known bs mv a b):=by unfold betweenV;rw [if_pos he]
   rw [hv]
   have he':(endsErr l known bs mv a b != 0)=true:=by simpa using he
   go_enter Tryz.func13,Tryz.ntmps13
   go_wp2_with (first
    | (go_at_call 31;refine HE.out.mono ?_;rintro e w2 ⟨cs,p,q,rfl,hb2,⟨u,A1,k1,c1,A2,k2,c2,Mp,rfl⟩,_⟩))
   go_ret3
   exact ⟨rfl,(hb1.trans (hb2.mono (by omega))).alloc (by have:=hb2.size;omega) _⟩
def datesTo (ps:List Place) (x:List Int):Nat→List Dating
 | 0=> []
 | k+1=>datesTo ps x k ++ [⟨ps.getD k z00,x.getD (k+1) 0-x.getD 0 0⟩]
theorem datesTo_len (ps:List Place) (x:List Int):∀ k,(datesTo ps x k).length=k
 | 0=>rfl
 | k+1=>by rw [datesTo,List.length_append,datesTo_len ps x k];rfl
def datesV (l:List Trace) (known:Int) (bs:List Bond) (mv:List Place):List Dating×Bool×Int:=
 if withErr l known bs mv≠0 then ([],false,withErr l known bs mv) else
 if solvedOk ((placesOf (counting l known) bs).length+1) (sysOf l known bs mv) then
  (datesTo (placesOf (counting l known) bs) (solvedX ((placesOf (counting l known) bs).length+1) (sysOf l known bs mv)) (placesOf (counting l known) bs).length,true,0)
 else ([],false,0)
theorem askErr_of_with {l:List Trace} {known:Int} {bs:List Bond} {mv:List Place} (h2:withErr l known bs mv=0):askErr l known bs=0:=by
 unfold withErr at h2
 split at h2
 · rename_i h3;exact absurd h2 h3
 · rename_i h3;simpa using h3
theorem Dates_any (A:Option Addr) (n c:Nat) (l:List Trace) (known:Int) (bA:Option Addr) (bn bc:Nat) (bs:List Bond) (M:Option Addr) (mn mc:Nat) (mv:List Place) (w:World) (hl:Rd encTrace 10 w A n c l) (hb:Rd encBond 5 w bA bn bc bs) (hm:Rd encPlace 2 w M mn mc mv):
 Calls Tryz.prog 14 #[.slice A n c,.int .i64 known,.slice bA bn bc,.slice M mn mc] w fun e w'=> ∃ Ad cd,e = .returned (.tuple #[.slice Ad (datesV l known bs mv).1.length cd,.bool (datesV l known bs mv).2.1,.int .i64 (datesV l known bs mv).2.2])∧Below w.heap.size w w'∧
  Own encDating 3 96 w.heap.size w' Ad (datesV l known bs mv).1.length cd (datesV l known bs mv).1:=by
 have hwith:=with_any A n c l known bA bn bc bs M mn mc mv w hl hb hm
 have HW:=Lib.hid hwith
 clear hwith hl hb hm
 by_cases he:withErr l known bs mv=0
 · have hO:=okO_of (askErr_of_with he)
   have hck:=checkSys_years hO mv
   have hv:datesV l known bs mv=if solvedOk ((placesOf (counting l known) bs).length+1) (sysOf l known bs mv) then
    (datesTo (placesOf (counting l known) bs) (solvedX ((placesOf (counting l known) bs).length+1) (sysOf l known bs mv)) (placesOf (counting l known) bs).length,true,0)
    else ([],false,0):=by unfold datesV;rw [if_neg (by simpa using he)]
   rw [hv]
   have hsysE:sysOf l known bs mv=(linksL (counting l known) bs mv).map (boundOf (ptsM (placesOf (counting l known) bs) (placesOf (counting l known) bs).length)):=rfl
   rw [←hsysE] at hck
   rw [he] at HW
   have hps:=hO.pn
   have hll:=linksL_len (counting l known) bs mv
   have hl1:=hO.tn
   have hl2:=hO.bn
   clear hv he hO
   obtain ⟨ps,hpe⟩:∃ ps,placesOf (counting l known) bs=ps:=⟨_,rfl⟩
   obtain ⟨L,hLe⟩:∃ L,linksL (counting l known) bs mv=L:=⟨_,rfl⟩
   obtain ⟨S,hSe⟩:∃ S,sysOf l known bs mv=S:=⟨_,rfl⟩
   rw [hpe,hLe] at HW
   rw [hSe,hpe,hLe] at hsysE
   rw [hSe,hpe] at hck ⊢
   rw [hpe] at hps
   rw [hLe] at hll
   have hLn:L.length≤800:=by omega
   clear hpe hLe hSe hll hl1 hl2
   have hbnd:=solvedX_bnd hck
   have hlenX:=fun h=>solvedX_len hck h
   have hsol:∀ (w4:World) (A4:Option Addr) (c4:Nat),Rd encBound 4 w4 A4 L.length c4 (L.map (boundOf (ptsM ps ps.length)))→Calls Tryz.prog 34 #[.agg #[.int .i64 (ps.length+1),.slice A4 L.length c4]] w4 fun e w'=> ∃ A' c',e = .returned (.tuple #[.slice A' (solvedX (ps.length+1) S).length c',.bool (solvedOk (ps.length+1) S),.int .i64 0])∧Below w4.heap.size w4 w'∧
    Own encInt 1 3 w4.heap.size w' A' (solvedX (ps.length+1) S).length c' (solvedX (ps.length+1) S):=fun w4 A4 c4 h=>by
     rw [←hsysE] at h
     exact Solve_any (ps.length+1) A4 L.length c4 S w4 h hck
   have HSOL:=Lib.hid hsol
   clear hsol hck hsysE
   obtain ⟨X,hX⟩:∃ X,solvedX (ps.length+1) S=X:=⟨_,rfl⟩
   obtain ⟨ok,hok⟩:∃ ok,solvedOk (ps.length+1) S=ok:=⟨_,rfl⟩
   rw [hX] at hbnd hlenX HSOL ⊢
   rw [hok] at hlenX HSOL ⊢
   clear hX hok
   have HBND:=Lib.hid hbnd
   clear hbnd
   cases ok with
   | false=>
     clear hlenX
     rw [if_neg (by simp)]
     go_enter Tryz.func14,Tryz.ntmps14
     go_wp2_with (first
      | (go_at_call 33;refine HW.out.mono ?_;rintro e w2 ⟨p,cs,rfl,hb2,_,hp⟩
         obtain ⟨o,rfl,hOr,Ab,cb,Al,cl,mb,rfl,y1,y2,y3,y4⟩:=hp rfl
         have hs2:=HSOL.out (w2.alloc (.cells #[.int .i64 (ps.length+1),.slice Ab L.length cb,.slice Al L.length cl,.map (some mb)] 87)) Ab cb ((y1.rd (fun _=>rfl) (by omega)).alloc _)
         have HS2:=Lib.hid hs2
         have HB2:=Lib.hid hb2
         clear hs2 y1 y2 y3 y4 hOr hp hb2)
      | (go_at_call 34;refine HS2.out.mono ?_;rintro e w3 ⟨A',c',rfl,hb3,hOX⟩;have HB3:=Lib.hid hb3;clear hb3 hOX))
     go_ret3
     exact ⟨none,0,rfl,(HB2.out.alloc HB2.out.size _).trans (HB3.out.mono (by have:=HB2.out.size;simp;omega)),Own.none_ _ _ _ _ _⟩
   | true=>
     have hxl:=hlenX rfl
     clear hlenX
     have HXL:=Lib.hid (show X.length=ps.length+1 by omega)
     clear hxl
     rw [if_pos rfl]
     go_enter Tryz.func14,Tryz.ntmps14
     go_wp2_with (first
      | (go_at_call 33;refine HW.out.mono ?_;rintro e w2 ⟨p,cs,rfl,hb2,_,hp⟩
         obtain ⟨o,rfl,hOr,Ab,cb,Al,cl,mb,rfl,y1,y2,y3,y4⟩:=hp rfl
         obtain ⟨ho,At,ct,Ap,cp,Aa,ca,h1,h2o,h3o,h4o⟩:=id hOr
         have hlo:=(Array.getElem?_eq_some_iff.1 h1).1
         have hs2:=HSOL.out (w2.alloc (.cells #[.int .i64 (ps.length+1),.slice Ab L.length cb,.slice Al L.length cl,.map (some mb)] 87)) Ab cb ((y1.rd (fun _=>rfl) (by omega)).alloc _)
         have HS2:=Lib.hid hs2
         have HB2:=Lib.hid hb2
         have HH:=Lib.hid h1
         have H3:=Lib.hid h3o
         clear hs2 y1 y2 y3 y4 hOr hp hb2 h1 h2o h3o h4o)
      | (go_at_call 34;refine HS2.out.mono ?_;rintro e w3 ⟨A',c',rfl,hb3,hOX⟩
         have hb23:=((Below.refl _ w2).alloc (Nat.le_refl _) (.cells #[.int .i64 (ps.length+1),.slice Ab L.length cb,.slice Al L.length cl,.map (some mb)] 87)).trans (hb3.mono (by simp))
         have hh3:=(hb23.block _ hlo).trans HH.out
         have q2:w3.cell? ⟨o,2,none⟩=some (.slice Ap ps.length cp):=(by simp [World.cell?,hh3])
         have HP:=Lib.hid ((H3.out.rd (fun _=>rfl) (by omega)).below hb23 (Nat.le_refl _))
         have HB23:=Lib.hid hb23
         have HOX:=Lib.hid hOX
         have hsz3:=hb23.size
         clear hb3 hb23 hOX hh3))
     obtain ⟨bx,rfl⟩:∃ bx,A'=some ⟨bx,0,none⟩:=(by
      rcases HOX.out.form with ⟨_,e,_⟩|⟨bx,e,_⟩
      · have:=HXL.out;omega
      · exact ⟨bx,e⟩)
     have hbx:=HOX.out.lt.2
     clear q2
     go_loopw [17,46] (fun s17 i wr=> ∃ (k:Nat) (Ad:Option Addr) (cd:Nat) (ds:List Dating),k≤ps.length∧i = .int .i64 k∧s17 = .slice Ad ds.length cd∧Below w3.heap.size w3 wr∧Hid (datesTo ps X k=ds)∧Hid (Own encDating 3 96 w3.heap.size wr Ad ds.length cd ds)) (fun _ i _=>ps.length-(intOf i).toNat)
     case atStart=>exact ⟨0,none,0,[],Nat.zero_le _,rfl,rfl,Below.refl _ _,(show _=_ from rfl),(show Own _ _ _ _ _ _ _ _ _ from Own.none_ _ _ _ _ _)⟩
     case round=>
      obtain ⟨k,Ad,cd,ds,hk,rfl,rfl,hb,hds,hO⟩:=hrel
      have hsz:=hb.size
      by_cases hlt:k<ps.length
      · obtain ⟨b,off,x,rfl,hbw,hx,hcell⟩:=(HP.out.below hb (Nat.le_refl _)).one hlt
        have c0:wr.cell? ⟨b,off+k * 2,none⟩=some (.int .i64 x.pit):=hcell 0 _ rfl
        have c1:wr.cell? ⟨b,off+k * 2+1,none⟩=some (.int .i64 x.layer):=hcell 1 _ rfl
        have hx1:X[k+1]? = some (X.getD (k+1) 0):=(by rw [List.getD_eq_getElem?_getD,List.getElem?_eq_getElem (by have:=HXL.out;omega)];rfl)
        have hx0:X[0]? = some (X.getD 0 0):=(by rw [List.getD_eq_getElem?_getD,List.getElem?_eq_getElem (by have:=HXL.out;omega)];rfl)
        have b1:=HBND.out _ (List.mem_of_getElem? hx1)
        have b0:=HBND.out _ (List.mem_of_getElem? hx0)
        have e1:=(HOX.out.below hb (Nat.le_refl _)).cells (fun _=>rfl) hx1 0 _ rfl
        have e0:=(HOX.out.below hb (Nat.le_refl _)).cells (fun _=>rfl) hx0 0 _ rfl
        rw [Nat.mul_one,Nat.add_zero] at e1 e0
        have hstep:datesTo ps X (k+1)=ds ++ [⟨x,X.getD (k+1) 0-X.getD 0 0⟩]:=(by rw [datesTo,hds.out,List.getD_eq_getElem?_getD (l:=ps),hx];rfl)
        have hdl:ds.length=k:=(by rw [←hds.out,datesTo_len])
        obtain ⟨x1,hx1e⟩:∃ x1,X.getD (k+1) 0=x1:=⟨_,rfl⟩
        obtain ⟨x2,hx2e⟩:∃ x2,X.getD 0 0=x2:=⟨_,rfl⟩
        rw [hx1e] at e1 b1 hstep
        rw [hx2e] at e0 b0 hstep
        have hw1:IntKind.i64.wrap (x1-x2)=x1-x2:=(by rw [IntKind.wrap_i64];omega)
        have HW1:=Lib.hid hw1
        have HST:=Lib.hid hstep
        have HDL:=Lib.hid hdl
        have hd8:ds.length≤1000:=(by omega)
        have hxl2:k+1<X.length:=(by have:=HXL.out;omega)
        have hxl3:X.length≤60:=(by have:=HXL.out;omega)
        clear hcell hx hx1 hx0 hx1e hx2e hw1 hstep hdl
        go_upto_region 11 with (fail)
        obtain ⟨wa,hwa⟩:∃ wa,wr.alloc (.cells #[.int .i64 x.pit,.int .i64 x.layer] 36)=wa:=⟨_,rfl⟩
        rw [hwa]
        have hna:wa.heap[wr.heap.size]? = some (.cells #[.int .i64 x.pit,.int .i64 x.layer] 36 (0,0)):=(by rw [←hwa];exact heap_alloc_new wr _)
        have hza:wa.heap.size=wr.heap.size+1:=(by rw [←hwa];simp)
        have hbxr:bx<wr.heap.size:=(by omega)
        have hxa:wa.heap[bx]? = wr.heap[bx]? := (by rw [←hwa];exact Below.heap_alloc wr _ bx hbxr)
        have hpr:∀ W:World,W.heap[wr.heap.size]? = wa.heap[wr.heap.size]? → W.heap[bx]? = wa.heap[bx]? → PrD W wr.heap.size bx k x x1 x2:=(fun W h1 h2=>by
         rw [hna] at h1
         rw [hxa] at h2
         refine ⟨by simp [World.cell?,h1],by simp [World.cell?,h1],?_,?_⟩
         · rw [←e1];unfold World.cell?;rw [h2]
         · rw [←e0];unfold World.cell?;rw [h2])
        have hOa:Own encDating 3 96 w3.heap.size (wa.drew.alloc (.cells #[.int .i64 x.pit,.int .i64 x.layer,.int .i64 (x1-x2)] 96)) Ad ds.length cd ds:=(by rw [←hwa];exact ((hO.out.alloc _).drew).alloc _)
        have hba:Below w3.heap.size w3 (wa.drew.alloc (.cells #[.int .i64 x.pit,.int .i64 x.layer,.int .i64 (x1-x2)] 96)):=(by rw [←hwa];exact ((hb.alloc hsz _).drew).alloc (by simp;omega) _)
        have hq1:(wa.drew.alloc (.cells #[.int .i64 x.pit,.int .i64 x.layer,.int .i64 (x1-x2)] 96)).heap[wr.heap.size]? = wa.heap[wr.heap.size]? := Below.heap_alloc _ _ _ (by simp;omega)
        have hq2:(wa.drew.alloc (.cells #[.int .i64 x.pit,.int .i64 x.layer,.int .i64 (x1-x2)] 96)).heap[bx]? = wa.heap[bx]? := Below.heap_alloc _ _ _ (by simp;omega)
        refine dates11 _ rfl w3.heap.size wr.heap.size bx X.length c' Ad ds.length cd x k x1 x2 ds _ wa _ _ rfl rfl rfl rfl rfl hxl2 hxl3 HW1.out rfl (hpr _ rfl rfl) (hpr _ hq1 hq2) ?_ hOa (by simp;omega) hd8 ?_
        · intro w8 hg
          have hneB:some bx≠blockOf Ad:=(fun e=>by have:=hO.out.ltB bx e.symm;omega)
          have hneN:some wr.heap.size≠blockOf Ad:=hOa.ne' (hq1.trans hna) (fun cur e=>by injection e with _ h _;cases h)
          exact hpr _ ((hg.block _ (by simp;omega) hneN).trans hq1) ((hg.block _ (by simp;omega) hneB).trans hq2)
        · intro A2 c2 w8 hO8 hg8
          simp only [List.setIfInBounds_toArray,List.set_cons_succ,List.set_cons_zero]
          have hb8:=hba.grown hg8 (by simp;omega) (fun j e=>hOa.ltB j e)
          have H8:=Lib.hid hO8
          have HB8:=Lib.hid hb8
          clear hO8 hg8 hb8 hba hOa hq1 hq2 hpr hna hxa hza hwa c0 c1 e1 e0
          go_wp2
          go_roundw
          all_goals first
           | (simp [intOf];omega)
           | exact ⟨k+1,A2,c2,ds ++ [⟨x,x1-x2⟩],by omega,by go_num,by simp,HB8.out,(show _=_ from HST.out),(show Own _ _ _ _ _ _ _ _ _ by rw [List.length_append];exact H8.out)⟩
      · have hkn:k=ps.length:=by omega
        subst hkn
        go_wp2
        go_ret3
        have hfin:=hds.out
        have hB2:=HB2.out
        refine ⟨Ad,cd,by rw [hfin];rfl,(hB2.trans (HB23.out.mono hB2.size)).trans (hb.mono (by have:=hB2.size;omega)),?_⟩
        rw [hfin]
        exact hO.out.mono (by have:=hB2.size;omega)
 · have hv:datesV l known bs mv=([],false,withErr l known bs mv):=by unfold datesV;rw [if_pos he]
   rw [hv]
   have he':(withErr l known bs mv != 0)=true:=by simpa using he
   go_enter Tryz.func14,Tryz.ntmps14
   go_wp2_with (first
    | (go_at_call 33;refine HW.out.mono ?_;rintro e w2 ⟨p,cs,rfl,hb2,hp,_⟩
       obtain ⟨rfl,rfl⟩:=hp he
       simp only [zeroYears]))
   go_ret3
   exact ⟨none,0,rfl,hb2.alloc hb2.size _,Own.none_ _ _ _ _ _⟩
end Go.Proofs.YtejjplhknacoiaaGreatDoor
end

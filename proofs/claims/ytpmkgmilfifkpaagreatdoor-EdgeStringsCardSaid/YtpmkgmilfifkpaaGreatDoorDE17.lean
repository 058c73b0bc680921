/- Contracts that the laws lean on: EdF, EdG, AloP. -/
import Derived.Test.YtpmkgmilfifkpaaGreatDoorDE16
set_option maxRecDepth 100000
set_option maxHeartbeats 4000000
section
namespace Go.Proofs.YtpmkgmilfifkpaaGreatDoor
open Go.RowKit Go.Proofs Go.Shelf
theorem circV_meets {A B:Outl} {p:Pairing} (h:AskOk A B p):(circV (waysN A B p) (waysB A B p) (dirsN A B p) (dirsB A B p)).2.2 = !meetsV A B p:=by
 unfold circV meetsV
 rw [solved_circ (sysOk_of h.ways_sys),solved_circ (sysOk_of h.dirs_sys)]
 cases circOk (waysN A B p) (waysB A B p)<;>cases circOk (dirsN A B p) (dirsB A B p)<;>rfl
theorem pmeets_any (A:Outl) (AwA:Option Addr) (Awn Awc:Nat) (AtA:Option Addr) (Atn Atc:Nat) (B:Outl) (BwA:Option Addr) (Bwn Bwc:Nat) (BtA:Option Addr) (Btn Btc:Nat) (p:Pairing) (w:World) (Aw:Rd encBound 4 w AwA Awn Awc A.ways) (At:Rd encBound 4 w AtA Atn Atc A.turns) (Bw:Rd encBound 4 w BwA Bwn Bwc B.ways) (Bt:Rd encBound 4 w BtA Btn Btc B.turns) (h:AskOk A B p):
 Calls Tryz.prog 29 #[.agg #[.int .i64 A.n,.slice AwA Awn Awc,.slice AtA Atn Atc,.int .i64 B.n,.slice BwA Bwn Bwc,.slice BtA Btn Btc,.int .i64 p.a.lo,.int .i64 p.a.hi,.int .i64 p.b.lo,.int .i64 p.b.hi]] w fun e w'=>e = .returned (.bool (meetsV A B p))∧Below w.heap.size w w':=by
 have K1:=Lib.hid (fun W (hw:Below w.heap.size w W)=>psystems_any A AwA Awn Awc AtA Atn Atc B BwA Bwn Bwc BtA Btn Btc p W (Aw.below hw (Nat.le_refl _)) (At.below hw (Nat.le_refl _)) (Bw.below hw (Nat.le_refl _)) (Bt.below hw (Nat.le_refl _)) h.toPairOk)
 have RA:Hid (∀ W,Below w.heap.size w W→Rd encBound 4 W AwA Awn Awc A.ways):=(show ∀ W,_→_ from fun W hw=>Aw.below hw (Nat.le_refl _))
 have RT:Hid (∀ W,Below w.heap.size w W→Rd encBound 4 W AtA Atn Atc A.turns):=(show ∀ W,_→_ from fun W hw=>At.below hw (Nat.le_refl _))
 have l1:=Aw.len;have l2:=At.len;have l3:=Bw.len;have l4:=Bt.len
 have r1:=h.r1;have r2:=h.r2
 have hs1:=Lib.hid h.ways_sys
 have hs2:=Lib.hid h.dirs_sys
 have hc:=Lib.hid (circV_meets h)
 have hN1:Awn+Bwn≤400:=by omega
 have hN2:Atn+Btn≤400:=by omega
 clear Aw At Bw Bt h l1 l2 l3 l4 r1 r2
 generalize meetsV A B p=mv at *
 generalize waysN A B p=n1 at *
 generalize waysB A B p=b1 at *
 generalize dirsN A B p=n2 at *
 generalize dirsB A B p=b2 at *
 go_enter Tryz.func29,Tryz.ntmps29
 go_wp2_with (first
  | (go_at_call 42;(with_reducible refine (K1.out _ ((Below.refl _ _).alloc (Nat.le_refl _) _)).mono ?_);rintro e w3 ⟨A1,c1,A2,c2,rfl,hb3,hr1,hr2⟩
     have hb03:=((Below.refl _ w).alloc (Nat.le_refl _) (.cells #[.int .i64 A.n,.slice AwA Awn Awc,.slice AtA Atn Atc,.int .i64 B.n,.slice BwA Bwn Bwc,.slice BtA Btn Btc,.int .i64 p.a.lo,.int .i64 p.a.hi,.int .i64 p.b.lo,.int .i64 p.b.hi] 77)).trans (hb3.mono (by simp))
     have HC:=Lib.hid (circle_any n1 A1 (Awn+Bwn) c1 b1 n2 A2 (Atn+Btn) c2 b2 w3 (hr1.rd (RA.out w3 hb03) (by omega)) (hr2.rd (RT.out w3 hb03) (by omega)) hs1.out hs2.out)
     have HB3:=Lib.hid hb03
     rw [hc.out] at HC
     clear hb3 hr1 hr2 hb03)
  | (go_at_call 41;(with_reducible refine HC.out.mono ?_);rintro e w4 ⟨A4,c4,rfl,hb4,_⟩;have HB4:=Lib.hid (HB3.out.trans (hb4.mono HB3.out.size));clear hb4))
 go_ret
 exact ⟨by simp,HB4.out.alloc HB4.out.size _⟩
theorem ten_cells {W:World} {k:Nat} {x0 x1 x2 x3 x4 x5 x6 x7 x8 x9:Value} {t:TypeId} (h:W.heap[k]? = some (.cells #[x0,x1,x2,x3,x4,x5,x6,x7,x8,x9] t (0,0))):W.cell? ⟨k,0,none⟩=some x0∧W.cell? ⟨k,1,none⟩=some x1∧W.cell? ⟨k,2,none⟩=some x2∧W.cell? ⟨k,3,none⟩=some x3∧W.cell? ⟨k,4,none⟩=some x4∧W.cell? ⟨k,5,none⟩=some x5∧W.cell? ⟨k,6,none⟩=some x6∧W.cell? ⟨k,7,none⟩=some x7∧W.cell? ⟨k,8,none⟩=some x8∧W.cell? ⟨k,9,none⟩=some x9:=by
 simp [World.cell?,h]
theorem ten_free {W:World} {k:Nat} {x0 x1 x2 x3 x4 x5 x6 x7 x8 x9:Value} {t:TypeId} (h:W.heap[k]? = some (.cells #[x0,x1,x2,x3,x4,x5,x6,x7,x8,x9] t (0,0))):W.frozen? ⟨k,0,none⟩=false∧W.frozen? ⟨k,1,none⟩=false∧W.frozen? ⟨k,2,none⟩=false∧W.frozen? ⟨k,3,none⟩=false∧W.frozen? ⟨k,4,none⟩=false∧W.frozen? ⟨k,5,none⟩=false∧W.frozen? ⟨k,6,none⟩=false∧W.frozen? ⟨k,7,none⟩=false∧W.frozen? ⟨k,8,none⟩=false∧W.frozen? ⟨k,9,none⟩=false:=by
 simp [World.frozen?,h]
theorem ten_set {W:World} {k:Nat} {x0 x1 x2 x3 x4 x5 x6 x7 x8 x9 v0 v1 v2 v3 v4 v5 v6 v7 v8 v9:Value} {t:TypeId} (h:W.heap[k]? = some (.cells #[x0,x1,x2,x3,x4,x5,x6,x7,x8,x9] t (0,0))):((((((((((W.setCell ⟨k,0,none⟩ v0).setCell ⟨k,1,none⟩ v1).setCell ⟨k,2,none⟩ v2).setCell ⟨k,3,none⟩ v3).setCell ⟨k,4,none⟩ v4).setCell ⟨k,5,none⟩ v5).setCell ⟨k,6,none⟩ v6).setCell ⟨k,7,none⟩ v7).setCell ⟨k,8,none⟩ v8).setCell ⟨k,9,none⟩ v9).heap[k]? = some (.cells #[v0,v1,v2,v3,v4,v5,v6,v7,v8,v9] t (0,0)):=by
 have h0:(W.setCell ⟨k,0,none⟩ v0).heap[k]? = some (.cells #[v0,x1,x2,x3,x4,x5,x6,x7,x8,x9] t (0,0)):=(heap_setCell_obj h).trans rfl
 have h1:((W.setCell ⟨k,0,none⟩ v0).setCell ⟨k,1,none⟩ v1).heap[k]? = some (.cells #[v0,v1,x2,x3,x4,x5,x6,x7,x8,x9] t (0,0)):=(heap_setCell_obj h0).trans rfl
 have h2:(((W.setCell ⟨k,0,none⟩ v0).setCell ⟨k,1,none⟩ v1).setCell ⟨k,2,none⟩ v2).heap[k]? = some (.cells #[v0,v1,v2,x3,x4,x5,x6,x7,x8,x9] t (0,0)):=(heap_setCell_obj h1).trans rfl
 have h3:((((W.setCell ⟨k,0,none⟩ v0).setCell ⟨k,1,none⟩ v1).setCell ⟨k,2,none⟩ v2).setCell ⟨k,3,none⟩ v3).heap[k]? = some (.cells #[v0,v1,v2,v3,x4,x5,x6,x7,x8,x9] t (0,0)):=(heap_setCell_obj h2).trans rfl
 have h4:(((((W.setCell ⟨k,0,none⟩ v0).setCell ⟨k,1,none⟩ v1).setCell ⟨k,2,none⟩ v2).setCell ⟨k,3,none⟩ v3).setCell ⟨k,4,none⟩ v4).heap[k]? = some (.cells #[v0,v1,v2,v3,v4,x5,x6,x7,x8,x9] t (0,0)):=(heap_setCell_obj h3).trans rfl
 have h5:((((((W.setCell ⟨k,0,none⟩ v0).setCell ⟨k,1,none⟩ v1).setCell ⟨k,2,none⟩ v2).setCell ⟨k,3,none⟩ v3).setCell ⟨k,4,none⟩ v4).setCell ⟨k,5,none⟩ v5).heap[k]? = some (.cells #[v0,v1,v2,v3,v4,v5,x6,x7,x8,x9] t (0,0)):=(heap_setCell_obj h4).trans rfl
 have h6:(((((((W.setCell ⟨k,0,none⟩ v0).setCell ⟨k,1,none⟩ v1).setCell ⟨k,2,none⟩ v2).setCell ⟨k,3,none⟩ v3).setCell ⟨k,4,none⟩ v4).setCell ⟨k,5,none⟩ v5).setCell ⟨k,6,none⟩ v6).heap[k]? = some (.cells #[v0,v1,v2,v3,v4,v5,v6,x7,x8,x9] t (0,0)):=(heap_setCell_obj h5).trans rfl
 have h7:((((((((W.setCell ⟨k,0,none⟩ v0).setCell ⟨k,1,none⟩ v1).setCell ⟨k,2,none⟩ v2).setCell ⟨k,3,none⟩ v3).setCell ⟨k,4,none⟩ v4).setCell ⟨k,5,none⟩ v5).setCell ⟨k,6,none⟩ v6).setCell ⟨k,7,none⟩ v7).heap[k]? = some (.cells #[v0,v1,v2,v3,v4,v5,v6,v7,x8,x9] t (0,0)):=(heap_setCell_obj h6).trans rfl
 have h8:(((((((((W.setCell ⟨k,0,none⟩ v0).setCell ⟨k,1,none⟩ v1).setCell ⟨k,2,none⟩ v2).setCell ⟨k,3,none⟩ v3).setCell ⟨k,4,none⟩ v4).setCell ⟨k,5,none⟩ v5).setCell ⟨k,6,none⟩ v6).setCell ⟨k,7,none⟩ v7).setCell ⟨k,8,none⟩ v8).heap[k]? = some (.cells #[v0,v1,v2,v3,v4,v5,v6,v7,v8,x9] t (0,0)):=(heap_setCell_obj h7).trans rfl
 have h9:((((((((((W.setCell ⟨k,0,none⟩ v0).setCell ⟨k,1,none⟩ v1).setCell ⟨k,2,none⟩ v2).setCell ⟨k,3,none⟩ v3).setCell ⟨k,4,none⟩ v4).setCell ⟨k,5,none⟩ v5).setCell ⟨k,6,none⟩ v6).setCell ⟨k,7,none⟩ v7).setCell ⟨k,8,none⟩ v8).setCell ⟨k,9,none⟩ v9).heap[k]? = some (.cells #[v0,v1,v2,v3,v4,v5,v6,v7,v8,v9] t (0,0)):=(heap_setCell_obj h8).trans rfl
 exact h9
theorem ten_below {B:Nat} {w W:World} {k:Nat} (v0 v1 v2 v3 v4 v5 v6 v7 v8 v9:Value) (h:Below B w W) (hk:B≤k):Below B w ((((((((((W.setCell ⟨k,0,none⟩ v0).setCell ⟨k,1,none⟩ v1).setCell ⟨k,2,none⟩ v2).setCell ⟨k,3,none⟩ v3).setCell ⟨k,4,none⟩ v4).setCell ⟨k,5,none⟩ v5).setCell ⟨k,6,none⟩ v6).setCell ⟨k,7,none⟩ v7).setCell ⟨k,8,none⟩ v8).setCell ⟨k,9,none⟩ v9):=
 ((((((((((h.setCell (p:=⟨k,0,none⟩) hk _).setCell (p:=⟨k,1,none⟩) hk _).setCell (p:=⟨k,2,none⟩) hk _).setCell (p:=⟨k,3,none⟩) hk _).setCell (p:=⟨k,4,none⟩) hk _).setCell (p:=⟨k,5,none⟩) hk _).setCell (p:=⟨k,6,none⟩) hk _).setCell (p:=⟨k,7,none⟩) hk _).setCell (p:=⟨k,8,none⟩) hk _).setCell (p:=⟨k,9,none⟩) hk _)
theorem asked_any (A:Outl) (AwA:Option Addr) (Awn Awc:Nat) (AtA:Option Addr) (Atn Atc:Nat) (B:Outl) (BwA:Option Addr) (Bwn Bwc:Nat) (BtA:Option Addr) (Btn Btc:Nat) (p:Pairing) (w:World) (Aw:Rd encBound 4 w AwA Awn Awc A.ways) (At:Rd encBound 4 w AtA Atn Atc A.turns) (Bw:Rd encBound 4 w BwA Bwn Bwc B.ways) (Bt:Rd encBound 4 w BtA Btn Btc B.turns):
 Calls Tryz.prog 28 #[.agg #[.int .i64 A.n,.slice AwA Awn Awc,.slice AtA Atn Atc],.agg #[.int .i64 B.n,.slice BwA Bwn Bwc,.slice BtA Btn Btc],.agg #[.int .i64 p.a.lo,.int .i64 p.a.hi,.int .i64 p.b.lo,.int .i64 p.b.hi]] w fun e w'=>e = .returned (.tuple #[.agg #[.int .i64 A.n,.slice AwA Awn Awc,.slice AtA Atn Atc,.int .i64 B.n,.slice BwA Bwn Bwc,.slice BtA Btn Btc,.int .i64 p.a.lo,.int .i64 p.a.hi,.int .i64 p.b.lo,.int .i64 p.b.hi],.int .i64 (askedErr A B p)])∧Below w.heap.size w w':=by
 obtain ⟨w1,hw1,hb1,hz1,hbx⟩:=boxABP w A AwA Awn Awc AtA Atn Atc B BwA Bwn Bwc BtA Btn Btc p
 have KX:=Lib.hid hbx
 have K1:=Lib.hid (fun W (h:Below w1.heap.size w1 W)=>CheckPairing_any A AwA Awn Awc AtA Atn Atc B BwA Bwn Bwc BtA Btn Btc p W ((Aw.below hb1 (Nat.le_refl _)).below h (Nat.le_refl _)) ((At.below hb1 (Nat.le_refl _)).below h (Nat.le_refl _)) ((Bw.below hb1 (Nat.le_refl _)).below h (Nat.le_refl _)) ((Bt.below hb1 (Nat.le_refl _)).below h (Nat.le_refl _)))
 have K2:=Lib.hid (fun W (h:Below w1.heap.size w1 W)=>room_any A AwA Awn Awc AtA Atn Atc B BwA Bwn Bwc BtA Btn Btc W ((Aw.below hb1 (Nat.le_refl _)).below h (Nat.le_refl _)) ((At.below hb1 (Nat.le_refl _)).below h (Nat.le_refl _)) ((Bw.below hb1 (Nat.le_refl _)).below h (Nat.le_refl _)) ((Bt.below hb1 (Nat.le_refl _)).below h (Nat.le_refl _)))
 have HB1:=Lib.hid hb1
 have HB11:=Lib.hid (Below.refl w1.heap.size w1)
 have HW1:=Lib.hid hw1
 obtain ⟨xa0,xa1,xa2,xb0,xb1,xb2,xp0,xp1,xp2,xp3⟩:=KX.out w1 HB11.out
 have hv:askedErr A B p=if pairErr A B p≠0 then pairErr A B p else roomErr A B:=rfl
 rw [hv]
 clear Aw At Bw Bt hb1 hbx hw1 hv
 by_cases h1:pairErr A B p=0
 case neg=>
  rw [if_pos h1]
  have h1':(pairErr A B p != 0)=true:=by simpa using h1
  clear h1
  generalize pairErr A B p=er at *
  go_enter Tryz.func28,Tryz.ntmps28
  go_wp2_with (first
   | rw [HW1.out]
   | (go_at_call 58;(with_reducible refine (K1.out _ (by exact ((Below.refl _ w1).alloc (Nat.le_refl _) _).alloc (by simp) _)).mono ?_);rintro e w2 ⟨rfl,hb2⟩
      have hh1:=(hb2.block (w1.heap.size+1) (by simp)).trans (heap2 w1 (.cells #[.int .i64 0,.slice none 0 0,.slice none 0 0,.int .i64 0,.slice none 0 0,.slice none 0 0,.int .i64 0,.int .i64 0,.int .i64 0,.int .i64 0] 77) (.cells #[.int .i64 A.n,.slice AwA Awn Awc,.slice AtA Atn Atc,.int .i64 B.n,.slice BwA Bwn Bwc,.slice BtA Btn Btc,.int .i64 p.a.lo,.int .i64 p.a.hi,.int .i64 p.b.lo,.int .i64 p.b.hi] 77))
      have hh0:=(hb2.block w1.heap.size (by simp;omega)).trans ((Below.heap_alloc _ _ _ (by simp)).trans (heap_alloc_new w1 (.cells #[.int .i64 0,.slice none 0 0,.slice none 0 0,.int .i64 0,.slice none 0 0,.slice none 0 0,.int .i64 0,.int .i64 0,.int .i64 0,.int .i64 0] 77)))
      have HB2:=Lib.hid ((((Below.refl _ w1).alloc (Nat.le_refl _) (.cells #[.int .i64 0,.slice none 0 0,.slice none 0 0,.int .i64 0,.slice none 0 0,.slice none 0 0,.int .i64 0,.int .i64 0,.int .i64 0,.int .i64 0] 77)).alloc (by simp) (.cells #[.int .i64 A.n,.slice AwA Awn Awc,.slice AtA Atn Atc,.int .i64 B.n,.slice BwA Bwn Bwc,.slice BtA Btn Btc,.int .i64 p.a.lo,.int .i64 p.a.hi,.int .i64 p.b.lo,.int .i64 p.b.hi] 77)).trans (hb2.mono (by simp;omega)))
      rw [hz1] at hh0 hh1
      obtain ⟨d0,d1,d2,d3,d4,d5,d6,d7,d8,d9⟩:=ten_cells hh1
      obtain ⟨e0,e1,e2,e3,e4,e5,e6,e7,e8,e9⟩:=ten_cells hh0
      obtain ⟨f0,f1,f2,f3,f4,f5,f6,f7,f8,f9⟩:=ten_free hh0
      have HH0:=Lib.hid hh0
      have HH1:=Lib.hid hh1
      clear hb2 hh0 hh1))
  refine bodyPost_ret (results_ct rfl _ _ (w.heap.size+1+1+1) _ _ (0,0) _ rfl (ten_set HH0.out) Tryz.underlying77 rfl (by kernel_rfl)) rfl ?_
  exact ⟨rfl,ten_below _ _ _ _ _ _ _ _ _ _ (HB1.out.trans (HB2.out.mono HB1.out.size)) (by omega)⟩
 case pos=>
  rw [if_neg (by simpa using h1)]
  rw [h1] at K1
  clear h1
  generalize roomErr A B=er at *
  go_enter Tryz.func28,Tryz.ntmps28
  go_upto_region 5 with (first
   | rw [HW1.out]
   | (go_at_call 58;(with_reducible refine (K1.out _ (by exact ((Below.refl _ w1).alloc (Nat.le_refl _) _).alloc (by simp) _)).mono ?_);rintro e w2 ⟨rfl,hb2⟩
      have hh1:=(hb2.block (w1.heap.size+1) (by simp)).trans (heap2 w1 (.cells #[.int .i64 0,.slice none 0 0,.slice none 0 0,.int .i64 0,.slice none 0 0,.slice none 0 0,.int .i64 0,.int .i64 0,.int .i64 0,.int .i64 0] 77) (.cells #[.int .i64 A.n,.slice AwA Awn Awc,.slice AtA Atn Atc,.int .i64 B.n,.slice BwA Bwn Bwc,.slice BtA Btn Btc,.int .i64 p.a.lo,.int .i64 p.a.hi,.int .i64 p.b.lo,.int .i64 p.b.hi] 77))
      have hh0:=(hb2.block w1.heap.size (by simp;omega)).trans ((Below.heap_alloc _ _ _ (by simp)).trans (heap_alloc_new w1 (.cells #[.int .i64 0,.slice none 0 0,.slice none 0 0,.int .i64 0,.slice none 0 0,.slice none 0 0,.int .i64 0,.int .i64 0,.int .i64 0,.int .i64 0] 77)))
      have HB2:=Lib.hid ((((Below.refl _ w1).alloc (Nat.le_refl _) (.cells #[.int .i64 0,.slice none 0 0,.slice none 0 0,.int .i64 0,.slice none 0 0,.slice none 0 0,.int .i64 0,.int .i64 0,.int .i64 0,.int .i64 0] 77)).alloc (by simp) (.cells #[.int .i64 A.n,.slice AwA Awn Awc,.slice AtA Atn Atc,.int .i64 B.n,.slice BwA Bwn Bwc,.slice BtA Btn Btc,.int .i64 p.a.lo,.int .i64 p.a.hi,.int .i64 p.b.lo,.int .i64 p.b.hi] 77)).trans (hb2.mono (by simp;omega)))
      rw [hz1] at hh0 hh1
      obtain ⟨d0,d1,d2,d3,d4,d5,d6,d7,d8,d9⟩:=ten_cells hh1
      obtain ⟨e0,e1,e2,e3,e4,e5,e6,e7,e8,e9⟩:=ten_cells hh0
      obtain ⟨f0,f1,f2,f3,f4,f5,f6,f7,f8,f9⟩:=ten_free hh0
      have HH0:=Lib.hid hh0
      have HH1:=Lib.hid hh1
      clear hb2 hh0 hh1))
  go_region_with (first
   | (go_at_call 59;(with_reducible refine (K2.out _ (by exact HB2.out.drew)).mono ?_);rintro e w3 ⟨rfl,hb3⟩
      have hq0:=(hb3.block _ (show w.heap.size+1+1+1<w2.drew.heap.size from (Array.getElem?_eq_some_iff.1 HH0.out).1)).trans (show w2.drew.heap[w.heap.size+1+1+1]? = _ from HH0.out)
      have hq1:=(hb3.block _ (show w.heap.size+1+1+1+1<w2.drew.heap.size from (Array.getElem?_eq_some_iff.1 HH1.out).1)).trans (show w2.drew.heap[w.heap.size+1+1+1+1]? = _ from HH1.out)
      obtain ⟨m0,m1,m2,m3,m4,m5,m6,m7,m8,m9⟩:=ten_cells hq1
      obtain ⟨n0,n1,n2,n3,n4,n5,n6,n7,n8,n9⟩:=ten_cells hq0
      obtain ⟨o0,o1,o2,o3,o4,o5,o6,o7,o8,o9⟩:=ten_free hq0
      have HB3:=Lib.hid (HB2.out.drew.trans (hb3.mono HB2.out.drew.size))
      have HQ0:=Lib.hid hq0
      clear hb3 hq0 hq1))
  all_goals
   go_wp2
   refine bodyPost_ret (results_ct rfl _ _ (w.heap.size+1+1+1) _ _ (0,0) _ rfl (ten_set HQ0.out) Tryz.underlying77 rfl (by kernel_rfl)) rfl ?_
   exact ⟨rfl,ten_below _ _ _ _ _ _ _ _ _ _ (HB1.out.trans (HB3.out.mono HB1.out.size)) (by omega)⟩
theorem MeetsE_any (A:Outl) (AwA:Option Addr) (Awn Awc:Nat) (AtA:Option Addr) (Atn Atc:Nat) (B:Outl) (BwA:Option Addr) (Bwn Bwc:Nat) (BtA:Option Addr) (Btn Btc:Nat) (p:Pairing) (w:World) (Aw:Rd encBound 4 w AwA Awn Awc A.ways) (At:Rd encBound 4 w AtA Atn Atc A.turns) (Bw:Rd encBound 4 w BwA Bwn Bwc B.ways) (Bt:Rd encBound 4 w BtA Btn Btc B.turns):
 Calls Tryz.prog 11 #[.agg #[.int .i64 A.n,.slice AwA Awn Awc,.slice AtA Atn Atc],.agg #[.int .i64 B.n,.slice BwA Bwn Bwc,.slice BtA Btn Btc],.agg #[.int .i64 p.a.lo,.int .i64 p.a.hi,.int .i64 p.b.lo,.int .i64 p.b.hi]] w fun e w'=>e = .returned (.tuple #[.bool (decide (askedErr A B p=0)&&meetsV A B p),.int .i64 (askedErr A B p)])∧Below w.heap.size w w':=by
 obtain ⟨w1,hw1,hb1,hz1,hbx⟩:=boxABP w A AwA Awn Awc AtA Atn Atc B BwA Bwn Bwc BtA Btn Btc p
 have KX:=Lib.hid hbx
 have K1:=Lib.hid (fun W (h:Below w1.heap.size w1 W)=>asked_any A AwA Awn Awc AtA Atn Atc B BwA Bwn Bwc BtA Btn Btc p W ((Aw.below hb1 (Nat.le_refl _)).below h (Nat.le_refl _)) ((At.below hb1 (Nat.le_refl _)).below h (Nat.le_refl _)) ((Bw.below hb1 (Nat.le_refl _)).below h (Nat.le_refl _)) ((Bt.below hb1 (Nat.le_refl _)).below h (Nat.le_refl _)))
 have K2:Hid (AskOk A B p→∀ W,Below w1.heap.size w1 W→Calls Tryz.prog 29 #[.agg #[.int .i64 A.n,.slice AwA Awn Awc,.slice AtA Atn Atc,.int .i64 B.n,.slice BwA Bwn Bwc,.slice BtA Btn Btc,.int .i64 p.a.lo,.int .i64 p.a.hi,.int .i64 p.b.lo,.int .i64 p.b.hi]] W fun e w'=>e = .returned (.bool (meetsV A B p))∧Below W.heap.size W w'):=(show _→∀ W,_→_ from fun hok W h=>pmeets_any A AwA Awn Awc AtA Atn Atc B BwA Bwn Bwc BtA Btn Btc p W ((Aw.below hb1 (Nat.le_refl _)).below h (Nat.le_refl _)) ((At.below hb1 (Nat.le_refl _)).below h (Nat.le_refl _)) ((Bw.below hb1 (Nat.le_refl _)).below h (Nat.le_refl _)) ((Bt.below hb1 (Nat.le_refl _)).below h (Nat.le_refl _)) hok)
 have HB1:=Lib.hid hb1
 have HB11:=Lib.hid (Below.refl w1.heap.size w1)
 have HW1:=Lib.hid hw1
 obtain ⟨xa0,xa1,xa2,xb0,xb1,xb2,xp0,xp1,xp2,xp3⟩:=KX.out w1 HB11.out
 clear Aw At Bw Bt hb1 hbx hw1
 by_cases h1:askedErr A B p=0
 case neg=>
  rw [decide_eq_false h1,Bool.false_and]
  have h1':(askedErr A B p != 0)=true:=by simpa using h1
  clear h1 K2
  generalize askedErr A B p=er at *
  go_enter Tryz.func11,Tryz.ntmps11
  go_wp2_with (first
   | rw [HW1.out]
   | (go_at_call 28;(with_reducible refine (K1.out _ HB11.out).mono ?_);rintro e w2 ⟨rfl,hb2⟩;have HB2:=Lib.hid hb2;clear hb2))
  go_ret2
  exact ⟨rfl,(HB1.out.trans (HB2.out.mono HB1.out.size)).alloc (HB1.out.trans (HB2.out.mono HB1.out.size)).size _⟩
 case pos=>
  have K3:=Lib.hid (K2.out (askedErr_zero.1 h1))
  rw [h1] at K1 ⊢
  rw [decide_eq_true rfl,Bool.true_and]
  clear h1 K2
  generalize meetsV A B p=mv at *
  go_enter Tryz.func11,Tryz.ntmps11
  go_wp2_with (first
   | rw [HW1.out]
   | (go_at_call 28;(with_reducible refine (K1.out _ HB11.out).mono ?_);rintro e w2 ⟨rfl,hb2⟩;have HB2:=Lib.hid hb2;clear hb2)
   | (go_at_call 29;(with_reducible refine (K3.out _ (HB2.out.alloc HB2.out.size _)).mono ?_);rintro e w3 ⟨rfl,hb3⟩;have HB3:=Lib.hid ((HB2.out.alloc HB2.out.size _).trans (hb3.mono (HB2.out.alloc HB2.out.size _).size));clear hb3))
  go_ret2
  exact ⟨rfl,HB1.out.trans (HB3.out.mono HB1.out.size)⟩
theorem results_ctt {P:Program} {fn:Func} {p u v:Tmp} {ty:TypeId} (h:fn.results = #[.cell p ty,.tmp u,.tmp v]) (tmps:Array Value) (w:World) (g:Nat) (t:TypeId) (cs:Array Value) (fr:Nat×Nat) (d:TypeDesc)
 (hp:tmps.getD p undef = .pointer (some ⟨g,0,none⟩)) (hg:w.heap[g]? = some (.cells cs t fr))
 (hu:P.underlying ty=some d) (hd:(match d with | .struct _ | .array _ _=>true|_=>false)=true) (hi:(P.info? ty).map (·.size)=some cs.size):
 (results fn tmps).run P w = .ok (.tuple #[.agg cs,tmps.getD u undef,tmps.getD v undef]) w:=by
 have hp':tmps[p]?.getD undef = .pointer (some ⟨g,0,none⟩):=by simpa using hp
 simp [results,h,hp',asAddr,run_loadVar_row w g t ty cs fr d hg hu hd hi]
def clashV (A B:Outl) (p:Pairing):Bool×List Int×Bool:=if askedErr A B p=0 then circV (waysN A B p) (waysB A B p) (dirsN A B p) (dirsB A B p) else (false,[],false)
theorem Clash_any (A:Outl) (AwA:Option Addr) (Awn Awc:Nat) (AtA:Option Addr) (Atn Atc:Nat) (B:Outl) (BwA:Option Addr) (Bwn Bwc:Nat) (BtA:Option Addr) (Btn Btc:Nat) (p:Pairing) (w:World) (Aw:Rd encBound 4 w AwA Awn Awc A.ways) (At:Rd encBound 4 w AtA Atn Atc A.turns) (Bw:Rd encBound 4 w BwA Bwn Bwc B.ways) (Bt:Rd encBound 4 w BtA Btn Btc B.turns):
 Calls Tryz.prog 17 #[.agg #[.int .i64 A.n,.slice AwA Awn Awc,.slice AtA Atn Atc],.agg #[.int .i64 B.n,.slice BwA Bwn Bwc,.slice BtA Btn Btc],.agg #[.int .i64 p.a.lo,.int .i64 p.a.hi,.int .i64 p.b.lo,.int .i64 p.b.hi]] w fun e w'=> ∃ A' c',e = .returned (.tuple #[.agg #[.bool (clashV A B p).1,.slice A' (clashV A B p).2.1.length c'],.bool (clashV A B p).2.2,.int .i64 (askedErr A B p)])∧Below w.heap.size w w'∧Own encInt 1 3 w.heap.size w' A' (clashV A B p).2.1.length c' (clashV A B p).2.1:=by
 obtain ⟨w1,hw1,hb1,hz1,hbx⟩:=boxABP w A AwA Awn Awc AtA Atn Atc B BwA Bwn Bwc BtA Btn Btc p
 obtain ⟨w2,a2,b2,z2,e2⟩:=alloc_facts w1 #[.bool false,.slice none 0 0] 53
 have KX:=Lib.hid hbx
 have RA:Hid (∀ W,Below w1.heap.size w1 W→Rd encBound 4 W AwA Awn Awc A.ways):=(show ∀ W,_→_ from fun W h=>(Aw.below hb1 (Nat.le_refl _)).below h (Nat.le_refl _))
 have RT:Hid (∀ W,Below w1.heap.size w1 W→Rd encBound 4 W AtA Atn Atc A.turns):=(show ∀ W,_→_ from fun W h=>(At.below hb1 (Nat.le_refl _)).below h (Nat.le_refl _))
 have RB:Hid (∀ W,Below w1.heap.size w1 W→Rd encBound 4 W BwA Bwn Bwc B.ways):=(show ∀ W,_→_ from fun W h=>(Bw.below hb1 (Nat.le_refl _)).below h (Nat.le_refl _))
 have RU:Hid (∀ W,Below w1.heap.size w1 W→Rd encBound 4 W BtA Btn Btc B.turns):=(show ∀ W,_→_ from fun W h=>(Bt.below hb1 (Nat.le_refl _)).below h (Nat.le_refl _))
 have K1:=Lib.hid (fun W (h:Below w1.heap.size w1 W)=>asked_any A AwA Awn Awc AtA Atn Atc B BwA Bwn Bwc BtA Btn Btc p W (RA.out W h) (RT.out W h) (RB.out W h) (RU.out W h))
 have l1:=Aw.len;have l2:=At.len;have l3:=Bw.len;have l4:=Bt.len
 have HB1:=Lib.hid hb1
 have HB12:=Lib.hid b2
 have HW1:=Lib.hid hw1
 have HW2:=Lib.hid a2
 have HE2:=Lib.hid e2
 obtain ⟨xa0,xa1,xa2,xb0,xb1,xb2,xp0,xp1,xp2,xp3⟩:=KX.out w2 b2
 clear Aw At Bw Bt hb1 hbx hw1 a2 b2 e2
 by_cases h1:askedErr A B p=0
 case neg=>
  have hv:clashV A B p=(false,[],false):=by unfold clashV;rw [if_neg h1]
  rw [hv]
  have h1':(askedErr A B p != 0)=true:=by simpa using h1
  clear h1 hv l1 l2 l3 l4
  generalize askedErr A B p=er at *
  go_enter Tryz.func17,Tryz.ntmps17
  go_wp2_with (first
   | rw [HW1.out]
   | rw [HW2.out]
   | (go_at_call 28;(with_reducible refine (K1.out _ HB12.out).mono ?_);rintro e w3 ⟨rfl,hb3⟩
      obtain ⟨w4,a4,b4,z4,e4⟩:=alloc_facts w3 #[.int .i64 A.n,.slice AwA Awn Awc,.slice AtA Atn Atc,.int .i64 B.n,.slice BwA Bwn Bwc,.slice BtA Btn Btc,.int .i64 p.a.lo,.int .i64 p.a.hi,.int .i64 p.b.lo,.int .i64 p.b.hi] 77
      have hz3:=hb3.size
      have hh:=((b4.block w1.heap.size (by omega)).trans (hb3.block w1.heap.size (by omega))).trans HE2.out
      have f0:w4.cell? ⟨w1.heap.size,0,none⟩=some (.bool false):=(by simp [World.cell?,hh])
      have f1:w4.cell? ⟨w1.heap.size,1,none⟩=some (.slice none 0 0):=(by simp [World.cell?,hh])
      have g0:w4.frozen? ⟨w1.heap.size,0,none⟩=false:=(by simp [World.frozen?,hh])
      have g1:w4.frozen? ⟨w1.heap.size,1,none⟩=false:=(by simp [World.frozen?,hh])
      have HB4:=Lib.hid (HB1.out.trans ((HB12.out.trans ((hb3.trans (b4.mono hb3.size)).mono HB12.out.size)).mono HB1.out.size))
      have HH:=Lib.hid hh
      have HA4:=Lib.hid a4
      rw [hz1] at f0 f1 g0 g1
      clear hb3 hh a4 b4 e4)
   | rw [HA4.out])
  rw [hz1] at HH
  refine bodyPost_ret (results_ctt rfl _ _ (w.heap.size+1+1+1) _ _ (0,0) _ rfl (sys_set HH.out) Tryz.underlying53 rfl (by kernel_rfl)) rfl ?_
  exact ⟨none,0,rfl,(HB4.out.setCell (p:=⟨w.heap.size+1+1+1,0,none⟩) (show w.heap.size≤w.heap.size+1+1+1 by omega) _).setCell (p:=⟨w.heap.size+1+1+1,1,none⟩) (show w.heap.size≤w.heap.size+1+1+1 by omega) _,Own.none_ _ _ _ _ _⟩
 case pos=>
  have hok:=askedErr_zero.1 h1
  have r1:=hok.r1
  have r2:=hok.r2
  have hv:clashV A B p=circV (waysN A B p) (waysB A B p) (dirsN A B p) (dirsB A B p):=by unfold clashV;rw [if_pos h1]
  rw [hv]
  have K2:=Lib.hid (fun W (hw:Below w1.heap.size w1 W)=>psystems_any A AwA Awn Awc AtA Atn Atc B BwA Bwn Bwc BtA Btn Btc p W (RA.out W hw) (RT.out W hw) (RB.out W hw) (RU.out W hw) hok.toPairOk)
  have hs1:=Lib.hid hok.ways_sys
  have hs2:=Lib.hid hok.dirs_sys
  have hN1:Awn+Bwn≤400:=by omega
  have hN2:Atn+Btn≤400:=by omega
  rw [h1] at K1 ⊢
  clear h1 hv l1 l2 l3 l4 hok r1 r2
  generalize waysN A B p=n1 at *
  generalize waysB A B p=b1 at *
  generalize dirsN A B p=n2 at *
  generalize dirsB A B p=b2 at *
  have HCI:=Lib.hid (fun (A1 A2:Option Addr) (c1 c2:Nat) W (h1:Rd encBound 4 W A1 (Awn+Bwn) c1 b1) (h2:Rd encBound 4 W A2 (Atn+Btn) c2 b2)=>circle_any n1 A1 (Awn+Bwn) c1 b1 n2 A2 (Atn+Btn) c2 b2 W h1 h2 hs1.out hs2.out)
  generalize circV n1 b1 n2 b2=cv at *
  obtain ⟨v1,v2,v3⟩:=cv
  simp only at HCI ⊢
  go_enter Tryz.func17,Tryz.ntmps17
  go_wp2_with (first
   | rw [HW1.out]
   | rw [HW2.out]
   | (go_at_call 28;(with_reducible refine (K1.out _ HB12.out).mono ?_);rintro e w3 ⟨rfl,hb3⟩;have HB3:=Lib.hid (HB12.out.trans (hb3.mono HB12.out.size));have HH3:=Lib.hid ((hb3.block w1.heap.size (by omega)).trans HE2.out);have hz3:=hb3.size;clear hb3)
   | (go_at_call 42;(with_reducible refine (K2.out _ (HB3.out.alloc HB3.out.size _)).mono ?_);rintro e w4 ⟨A1,c1,A2,c2,rfl,hb4,hr1,hr2⟩
      have hb04:=(HB3.out.alloc HB3.out.size (.cells #[.int .i64 A.n,.slice AwA Awn Awc,.slice AtA Atn Atc,.int .i64 B.n,.slice BwA Bwn Bwc,.slice BtA Btn Btc,.int .i64 p.a.lo,.int .i64 p.a.hi,.int .i64 p.b.lo,.int .i64 p.b.hi] 77)).trans (hb4.mono (HB3.out.alloc HB3.out.size _).size)
      have HC:=Lib.hid (HCI.out A1 A2 c1 c2 w4 (hr1.rd (RA.out w4 hb04) (by omega)) (hr2.rd (RT.out w4 hb04) (by omega)))
      have HH4:=Lib.hid (((hb4.block w1.heap.size (by simp;omega)).trans (Below.heap_alloc _ _ _ (by omega))).trans HH3.out)
      have HB4:=Lib.hid hb04
      have hz4:=hb4.size
      clear hb4 hr1 hr2 hb04)
   | (go_at_call 41;(with_reducible refine HC.out.mono ?_);rintro e w5 ⟨A5,c5,rfl,hb5,ho5⟩
      obtain ⟨w6,a6,b6,z6,e6⟩:=alloc_facts w5 #[.bool v1,.slice A5 v2.length c5] 53
      have hh:=((b6.block w1.heap.size (by have:=hb5.size;simp at hz4;omega)).trans (hb5.block w1.heap.size (by simp at hz4;omega))).trans HH4.out
      have f0:w6.cell? ⟨w1.heap.size,0,none⟩=some (.bool false):=(by simp [World.cell?,hh])
      have f1:w6.cell? ⟨w1.heap.size,1,none⟩=some (.slice none 0 0):=(by simp [World.cell?,hh])
      have g0:w6.frozen? ⟨w1.heap.size,0,none⟩=false:=(by simp [World.frozen?,hh])
      have g1:w6.frozen? ⟨w1.heap.size,1,none⟩=false:=(by simp [World.frozen?,hh])
      have d0:w6.cell? ⟨w5.heap.size,0,none⟩=some (.bool v1):=(by simp [World.cell?,e6])
      have d1:w6.cell? ⟨w5.heap.size,1,none⟩=some (.slice A5 v2.length c5):=(by simp [World.cell?,e6])
      have HB6:=Lib.hid (HB1.out.trans ((HB4.out.trans ((hb5.trans (b6.mono hb5.size)).mono HB4.out.size)).mono HB1.out.size))
      have HO6:=Lib.hid ((ho5.below b6 (Nat.le_refl _)).mono (B':=w.heap.size) (Nat.le_trans HB1.out.size HB4.out.size))
      have HH:=Lib.hid hh
      have HA6:=Lib.hid a6
      rw [hz1] at f0 f1 g0 g1
      clear hb5 ho5 hh a6 b6 e6)
   | rw [HA6.out])
  rw [hz1] at HH
  refine bodyPost_ret (results_ctt rfl _ _ (w.heap.size+1+1+1) _ _ (0,0) _ rfl (sys_set HH.out) Tryz.underlying53 rfl (by kernel_rfl)) rfl ?_
  exact ⟨A5,c5,rfl,(HB6.out.setCell (p:=⟨w.heap.size+1+1+1,0,none⟩) (show w.heap.size≤w.heap.size+1+1+1 by omega) _).setCell (p:=⟨w.heap.size+1+1+1,1,none⟩) (show w.heap.size≤w.heap.size+1+1+1 by omega) _,own_set (own_set HO6.out HH.out (by decide) _) (heap_setCell_obj HH.out) (by decide) _⟩
end Go.Proofs.YtpmkgmilfifkpaaGreatDoor
end
section
namespace Go.Proofs.YtpmkgmilfifkpaaGreatDoor
structure AlSt where
 sum:Int
 pt:Int
 frm:List Bool
 tos:List Bool
def bnd (bs:List Bound) (i:Int):Bound:=bs.getD i.toNat default
def alongStep (bs:List Bound) (st:AlSt) (i:Int):Option AlSt:=
 if (0≤i∧i<bs.length)∧(bnd bs i).src=st.pt∧st.frm.getD (bnd bs i).src.toNat false=false∧st.tos.getD (bnd bs i).dst.toNat false=false then
  some ⟨st.sum+(bnd bs i).most,(bnd bs i).dst,st.frm.set (bnd bs i).src.toNat true,st.tos.set (bnd bs i).dst.toNat true⟩ else none
def alongTo (bs:List Bound) (l:List Int) (a:Int):Nat→Option AlSt
 | 0=>some ⟨0,a,List.replicate 60 false,List.replicate 60 false⟩
 | k+1=>match l[k]? with
   | some i=>(alongTo bs l a k).bind (alongStep bs · i)
   | none=>alongTo bs l a k
def alongV (bs:List Bound) (a b:Int) (l:List Int):Int×Bool:=match alongTo bs l a l.length with
 | none=>(0,false)
 | some st=>(st.sum,decide (st.pt=b))
def circleB (bs:List Bound) (l:List Int):Bool:=decide (2≤l.length)&&((alongV bs (bnd bs (l.getD 0 0)).src (bnd bs (l.getD 0 0)).src l).2&&decide ((alongV bs (bnd bs (l.getD 0 0)).src (bnd bs (l.getD 0 0)).src l).1<0))
end Go.Proofs.YtpmkgmilfifkpaaGreatDoor
end

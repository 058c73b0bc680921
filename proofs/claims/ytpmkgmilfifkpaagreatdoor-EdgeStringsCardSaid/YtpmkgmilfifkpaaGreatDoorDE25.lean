/- Contracts that the laws lean on: JoU, Maxi, CplR. -/
import Derived.Test.YtpmkgmilfifkpaaGreatDoorDE23
import Derived.Deep.CutRange
set_option maxRecDepth 100000
set_option maxHeartbeats 8000000
section
namespace Go.Proofs.YtpmkgmilfifkpaaGreatDoor
open Go.RowKit Go.Proofs Go.Shelf
def factU (w0:World) (an bn:Int) (aw at_ bw bt:Value) (g1 g2:Bool) (g3:Int) (m:Nat):Nat→Value→World→Prop
 | 0,v,_=>v = .agg #[.int .i64 an,aw,at_]
 | 1,v,_=>v = .agg #[.int .i64 bn,bw,bt]
 | 2,v,_=>v = .agg #[.int .i64 0,.int .i64 2,.int .i64 0,.int .i64 2]
 | 6,v,_=>v = .bool g2
 | 7,v,_=>v = .int .i64 g3
 | 10,v,_=>v = .bool g2
 | 11,v,_=>v = .int .i64 g3
 | 3,v,_=> ∃ A' c',v = .tuple #[.agg #[.bool g1,.slice A' m c'],.bool g2,.int .i64 g3]
 | 4,v,_=> ∃ A' c',v = .tuple #[.agg #[.bool g1,.slice A' m c'],.bool g2,.int .i64 g3]
 | 5,v,_=> ∃ A' c',v = .agg #[.bool g1,.slice A' m c']
 | 8,v,W=> ∃ g,v = .pointer (some ⟨g,0,none⟩)∧w0.heap.size≤g∧∃ u0 u1,W.heap[g]? = some (.cells #[u0,u1] 53 (0,0))
 | 9,v,W=> ∃ g A' c',v = .pointer (some ⟨g,0,none⟩)∧w0.heap.size≤g∧W.heap[g]? = some (.cells #[.bool g1,.slice A' m c'] 53 (0,0))
 | _,_,_=>True
def exU (V:Nat→Value) (L:Nat→Bool):Prop:=L 9=true→V 9=V 8
theorem exU.pure {V:Nat→Value} {listed:Array Bool} {i:Nat} {v:Value} (h:exU V (fun j=>listed.getD j false)) (h8:i≠8) (h9:i≠9):exU (nextV V i v) (nextL listed i):=by
 unfold exU
 rw [nextL_ne (Ne.symm h9),nextV_ne (Ne.symm h8),nextV_ne (Ne.symm h9)]
 exact h
theorem factU.below {w0:World} {an bn:Int} {aw at_ bw bt:Value} {g1 g2:Bool} {g3:Int} {m:Nat} {j:Nat} {v:Value} {W W':World} (h:factU w0 an bn aw at_ bw bt g1 g2 g3 m j v W) (hb:Below W.heap.size W W'):factU w0 an bn aw at_ bw bt g1 g2 g3 m j v W':=by
 unfold factU at h ⊢
 split at h
 all_goals first
  | exact h
  | (obtain ⟨g,h1,h2,u0,u1,h3⟩:=h;exact ⟨g,h1,h2,u0,u1,(hb.block g (Array.getElem?_eq_some_iff.1 h3).1).trans h3⟩)
  | (obtain ⟨g,A',c',h1,h2,h3⟩:=h;exact ⟨g,A',c',h1,h2,(hb.block g (Array.getElem?_eq_some_iff.1 h3).1).trans h3⟩)
theorem factU.grow {w0:World} {an bn:Int} {aw at_ bw bt:Value} {g1 g2:Bool} {g3:Int} {m:Nat} {ops:Array Oper} {a:Act} {V:Nat→Value} {listed:Array Bool} {i:Nat} {d:Option Tmp} {b:Act} {W W':World} {v:Value}
 (h:FactsAtX ops a (factU w0 an bn aw at_ bw bt g1 g2 g3 m) (fun _ _=>True) (fun W=>Below w0.heap.size w0 W) exU V listed b W) (hb:Below W.heap.size W W') (hf:factU w0 an bn aw at_ bw bt g1 g2 g3 m i v W') (hx:exU (nextV V i v) (nextL listed i)):FactsGoX ops (factU w0 an bn aw at_ bw bt g1 g2 g3 m) (fun _ _=>True) (fun W=>Below w0.heap.size w0 W) exU V listed i d b W (b.put d v) W':=
 ⟨v,rfl,hf,fun _ _ _ h=>h.below hb,fun _ _ _ _ _=>trivial,h.glob.trans (hb.mono h.glob.size),hx⟩
def codeJoi9:Option Code→Code
 | some (.seq _ (.seq _ (.seq _ (.seq _ (.seq _ (.seq _ (.seq _ (.seq _ (.seq _ (.seq c _))))))))))=>c
 | _=> .skip
theorem joi9 (c:Code) (hc:c=codeJoi9 Tryz.f4.body) (b1 b2:Nat) (an bn:Int) (aw at_ bw bt:Value) (g1 g2:Bool) (g3:Int) (m:Nat) (a:Act) (w:World) (Q:Exit→Act→World→Prop)
 (hT:a.tmps.size=172) (t1:a.tmps.getD 1 undef = .pointer (some ⟨b1,0,none⟩)) (t14:a.tmps.getD 14 undef = .pointer (some ⟨b2,0,none⟩))
 (CE:∀ W,Below w.heap.size w W→W.cell? ⟨b1,0,none⟩=some (.int .i64 an)∧W.cell? ⟨b1,1,none⟩=some aw∧W.cell? ⟨b1,2,none⟩=some at_∧W.cell? ⟨b2,0,none⟩=some (.int .i64 bn)∧W.cell? ⟨b2,1,none⟩=some bw∧W.cell? ⟨b2,2,none⟩=some bt)
 (C1:∀ W,Below w.heap.size w W→Calls Tryz.prog 12 #[.int .i64 0,.int .i64 2,.int .i64 0,.int .i64 2] W fun e w'=>e = .returned (.agg #[.int .i64 0,.int .i64 2,.int .i64 0,.int .i64 2])∧Below W.heap.size W w')
 (C2:∀ W,Below w.heap.size w W→Calls Tryz.prog 17 #[.agg #[.int .i64 an,aw,at_],.agg #[.int .i64 bn,bw,bt],.agg #[.int .i64 0,.int .i64 2,.int .i64 0,.int .i64 2]] W fun e w'=> ∃ A' c',e = .returned (.tuple #[.agg #[.bool g1,.slice A' m c'],.bool g2,.int .i64 g3])∧Below W.heap.size W w')
 (hQ:∀ W g A' c' v3 v4 v5,Below w.heap.size w W→w.heap.size≤g→W.heap[g]? = some (.cells #[.bool g1,.slice A' m c'] 53 (0,0))→Q .normal { tmps:=(((((((((((a.tmps.setIfInBounds 66 (.agg #[.int .i64 an,aw,at_])).setIfInBounds 67 (.agg #[.int .i64 bn,bw,bt])).setIfInBounds 68 (.agg #[.int .i64 0,.int .i64 2,.int .i64 0,.int .i64 2])).setIfInBounds 69 (v3)).setIfInBounds 65 (v4)).setIfInBounds 70 (v5)).setIfInBounds 71 (.bool g2)).setIfInBounds 72 (.int .i64 g3)).setIfInBounds 16 (.pointer (some ⟨g,0,none⟩))).setIfInBounds 17 (.bool g2)).setIfInBounds 18 (.int .i64 g3)),defers:=a.defers } W):
 c.wp Tryz.prog Q a w:=by
 subst hc
 unfold codeJoi9 Tryz.f4
 dsimp only
 refine wpIn_wide.1 (wpIn_region_factsX (nn:=5) 172 (by kernel_rfl) (by kernel_rfl) hT.symm (factU w an bn aw at_ bw bt g1 g2 g3 m) (fun _ _=>True) (fun W=>Below w.heap.size w W) exU (Below.refl _ w).drew (fun _ _=>trivial) (fun V h=>(by cases h)) ?_ ?_)
 · intro V listed i o b W hi ho h
   obtain ⟨hun,oi,hoi,hall⟩:=mem_ready.1 hi
   have:oi=o:=Option.some.inj (hoi.symm.trans ho)
   subst this
   clear hoi hi
   have hlt:i<12:=(by have:=(Array.getElem?_eq_some_iff.1 ho).1;simpa using this)
   have hun':listed.getD i false=false:=getD_both hun
   have hpre:=h.pre i (by simpa using hlt) hun'
   rcases (by omega:i=0∨i=1∨i=2∨i=3∨i=4∨i=5∨i=6∨i=7∨i=8∨i=9∨i=10∨i=11) with rfl|rfl|rfl|rfl|rfl|rfl|rfl|rfl|rfl|rfl|rfl|rfl
   all_goals simp only [List.getElem?_toArray,List.getElem?_cons_zero,List.getElem?_cons_succ] at ho
   all_goals cases ho
   ·
    have q1:=(h.tab.old 1 (dst_no h.tab (by kernel_rfl))).trans t1
    have q1':b.tmps[1]?.getD undef=_:=(by simpa using q1)
    obtain ⟨c0,c1,c2,c3,c4,c5⟩:=CE W h.glob
    refine wide_val (v:=.agg #[.int .i64 an,aw,at_]) (by go_simp;try rfl) (FactsGoX.same h.glob rfl (h.x.pure (by decide) (by decide)))
   ·
    have q14:=(h.tab.old 14 (dst_no h.tab (by kernel_rfl))).trans t14
    have q14':b.tmps[14]?.getD undef=_:=(by simpa using q14)
    obtain ⟨c0,c1,c2,c3,c4,c5⟩:=CE W h.glob
    refine wide_val (v:=.agg #[.int .i64 bn,bw,bt]) (by go_simp;try rfl) (FactsGoX.same h.glob rfl (h.x.pure (by decide) (by decide)))
   ·
    refine wide_call (f:=12) (args:=#[.int .i64 0,.int .i64 2,.int .i64 0,.int .i64 2]) (by go_simp) ((C1 W h.glob).mono ?_)
    rintro e wl ⟨rfl,hbl⟩
    exact ⟨_,rfl,factU.grow h hbl rfl (h.x.pure (by decide) (by decide))⟩
   ·
    have l0:=hall ⟨0,.data⟩ (by simp) rfl
    have e0:b.tmps.getD 66 undef = .agg #[.int .i64 an,aw,at_]:=(h.tab.val 0 66 rfl l0).trans (h.fact 0 l0)
    have e0':b.tmps[66]?.getD undef = .agg #[.int .i64 an,aw,at_]:=(by simpa using e0)
    have l1:=hall ⟨1,.data⟩ (by simp) rfl
    have e1:b.tmps.getD 67 undef = .agg #[.int .i64 bn,bw,bt]:=(h.tab.val 1 67 rfl l1).trans (h.fact 1 l1)
    have e1':b.tmps[67]?.getD undef = .agg #[.int .i64 bn,bw,bt]:=(by simpa using e1)
    have l2:=hall ⟨2,.data⟩ (by simp) rfl
    have e2:b.tmps.getD 68 undef = .agg #[.int .i64 0,.int .i64 2,.int .i64 0,.int .i64 2]:=(h.tab.val 2 68 rfl l2).trans (h.fact 2 l2)
    have e2':b.tmps[68]?.getD undef = .agg #[.int .i64 0,.int .i64 2,.int .i64 0,.int .i64 2]:=(by simpa using e2)
    refine wide_call (f:=17) (args:=#[.agg #[.int .i64 an,aw,at_],.agg #[.int .i64 bn,bw,bt],.agg #[.int .i64 0,.int .i64 2,.int .i64 0,.int .i64 2]]) (by go_simp) ((C2 W h.glob).mono ?_)
    rintro e wl ⟨A',c',rfl,hbl⟩
    exact ⟨_,rfl,factU.grow h hbl ⟨A',c',rfl⟩ (h.x.pure (by decide) (by decide))⟩
   ·
    have l3:=hall ⟨3,.data⟩ (by simp) rfl
    obtain ⟨A',c',a3⟩:=h.fact 3 l3
    have e3:b.tmps.getD 69 undef = .tuple #[.agg #[.bool g1,.slice A' m c'],.bool g2,.int .i64 g3]:=(h.tab.val 3 69 rfl l3).trans a3
    have e3':b.tmps[69]?.getD undef = .tuple #[.agg #[.bool g1,.slice A' m c'],.bool g2,.int .i64 g3]:=(by simpa using e3)
    refine wide_val (v:=.tuple #[.agg #[.bool g1,.slice A' m c'],.bool g2,.int .i64 g3]) (by go_simp;try rfl) (FactsGoX.same h.glob ⟨A',c',rfl⟩ (h.x.pure (by decide) (by decide)))
   ·
    have l4:=hall ⟨4,.data⟩ (by simp) rfl
    obtain ⟨A',c',a4⟩:=h.fact 4 l4
    have e4:b.tmps.getD 65 undef = .tuple #[.agg #[.bool g1,.slice A' m c'],.bool g2,.int .i64 g3]:=(h.tab.val 4 65 rfl l4).trans a4
    have e4':b.tmps[65]?.getD undef = .tuple #[.agg #[.bool g1,.slice A' m c'],.bool g2,.int .i64 g3]:=(by simpa using e4)
    refine wide_val (v:=.agg #[.bool g1,.slice A' m c']) (by go_simp;try rfl) (FactsGoX.same h.glob ⟨A',c',rfl⟩ (h.x.pure (by decide) (by decide)))
   ·
    have l4:=hall ⟨4,.data⟩ (by simp) rfl
    obtain ⟨A',c',a4⟩:=h.fact 4 l4
    have e4:b.tmps.getD 65 undef = .tuple #[.agg #[.bool g1,.slice A' m c'],.bool g2,.int .i64 g3]:=(h.tab.val 4 65 rfl l4).trans a4
    have e4':b.tmps[65]?.getD undef = .tuple #[.agg #[.bool g1,.slice A' m c'],.bool g2,.int .i64 g3]:=(by simpa using e4)
    refine wide_val (v:=.bool g2) (by go_simp;try rfl) (FactsGoX.same h.glob rfl (h.x.pure (by decide) (by decide)))
   ·
    have l4:=hall ⟨4,.data⟩ (by simp) rfl
    obtain ⟨A',c',a4⟩:=h.fact 4 l4
    have e4:b.tmps.getD 65 undef = .tuple #[.agg #[.bool g1,.slice A' m c'],.bool g2,.int .i64 g3]:=(h.tab.val 4 65 rfl l4).trans a4
    have e4':b.tmps[65]?.getD undef = .tuple #[.agg #[.bool g1,.slice A' m c'],.bool g2,.int .i64 g3]:=(by simpa using e4)
    refine wide_val (v:=.int .i64 g3) (by go_simp;try rfl) (FactsGoX.same h.glob rfl (h.x.pure (by decide) (by decide)))
   ·
    have n9:listed.getD 9 false=false:=not_listed (h.tab.closed 9 _ rfl) ⟨8,.data⟩ (by simp) rfl hun'
    refine wide_val (W':=W.alloc (.cells #[.bool false,.slice none 0 0] 53)) (v:=.pointer (some ⟨W.heap.size,0,none⟩)) (by go_simp) (factU.grow h ((Below.refl _ W).alloc (Nat.le_refl _) _) ⟨W.heap.size,rfl,h.glob.size,_,_,heap_alloc_new W _⟩ ?_)
    unfold exU
    intro h9
    rw [nextL_ne (by decide),n9] at h9
    cases h9
   ·
    have l8:=hall ⟨8,.data⟩ (by simp) rfl
    have l5:=hall ⟨5,.data⟩ (by simp) rfl
    obtain ⟨g,a8,hg8,u0,u1,h8⟩:=h.fact 8 l8
    have e8:b.tmps.getD 16 undef = .pointer (some ⟨g,0,none⟩):=(h.tab.val 8 16 rfl l8).trans a8
    have e8':b.tmps[16]?.getD undef = .pointer (some ⟨g,0,none⟩):=(by simpa using e8)
    obtain ⟨A',c',a5⟩:=h.fact 5 l5
    have e5:b.tmps.getD 70 undef = .agg #[.bool g1,.slice A' m c']:=(h.tab.val 5 70 rfl l5).trans a5
    have e5':b.tmps[70]?.getD undef = .agg #[.bool g1,.slice A' m c']:=(by simpa using e5)
    have k0:W.cell? ⟨g,0,none⟩=some u0:=(by simp [World.cell?,h8])
    have k1:W.cell? ⟨g,1,none⟩=some u1:=(by simp [World.cell?,h8])
    have k2:W.frozen? ⟨g,0,none⟩=false:=(by simp [World.frozen?,h8])
    have k3:W.frozen? ⟨g,1,none⟩=false:=(by simp [World.frozen?,h8])
    have hs:((W.setCell ⟨g,0,none⟩ (.bool g1)).setCell ⟨g,1,none⟩ (.slice A' m c')).heap[g]? = some (.cells #[.bool g1,.slice A' m c'] 53 (0,0)):=(by rw [heap_setCell_obj (heap_setCell_obj h8)];rfl)
    refine wide_skip (W':=(W.setCell ⟨g,0,none⟩ (.bool g1)).setCell ⟨g,1,none⟩ (.slice A' m c')) (by go_simp) ⟨.pointer (some ⟨g,0,none⟩),rfl,⟨g,A',c',rfl,hg8,hs⟩,?_,fun _ _ _ _ _=>trivial,(h.glob.setCell (p:=⟨g,0,none⟩) hg8 _).setCell (p:=⟨g,1,none⟩) hg8 _,?_⟩
    · intro j hj hl hf
      by_cases e:j=8
      · subst e;exact ⟨g,a8,hg8,_,_,hs⟩
      · unfold factU at hf ⊢
        split at hf
        all_goals first
         | exact hf
         | (exact absurd rfl e)
         | (exact absurd rfl hj)
    · unfold exU
      intro _
      rw [nextV_at,nextV_ne (by decide),a8]
   ·
    have l6:=hall ⟨6,.data⟩ (by simp) rfl
    have e6:b.tmps.getD 71 undef = .bool g2:=(h.tab.val 6 71 rfl l6).trans (h.fact 6 l6)
    have e6':b.tmps[71]?.getD undef = .bool g2:=(by simpa using e6)
    refine wide_val (v:=.bool g2) (by go_simp;try rfl) (FactsGoX.same h.glob rfl (h.x.pure (by decide) (by decide)))
   ·
    have l7:=hall ⟨7,.data⟩ (by simp) rfl
    have e7:b.tmps.getD 72 undef = .int .i64 g3:=(h.tab.val 7 72 rfl l7).trans (h.fact 7 l7)
    have e7':b.tmps[72]?.getD undef = .int .i64 g3:=(by simpa using e7)
    refine wide_val (v:=.int .i64 g3) (by go_simp;try rfl) (FactsGoX.same h.glob rfl (h.x.pure (by decide) (by decide)))
 · intro V W hf hg hx
   obtain ⟨g,A',c',a9,hg9,h9⟩:=hf 9 (by decide)
   have:=hQ W g A' c' (V 3) (V 4) (V 5) hg hg9 h9
   have x8:V 8 = .pointer (some ⟨g,0,none⟩):=(hx rfl).symm.trans a9
   have hV:V 0 = .agg #[.int .i64 an,aw,at_]∧V 1 = .agg #[.int .i64 bn,bw,bt]∧V 2 = .agg #[.int .i64 0,.int .i64 2,.int .i64 0,.int .i64 2]∧V 6 = .bool g2∧V 7 = .int .i64 g3∧V 10 = .bool g2∧V 11 = .int .i64 g3:=⟨hf 0 (by decide),hf 1 (by decide),hf 2 (by decide),hf 6 (by decide),hf 7 (by decide),hf 10 (by decide),hf 11 (by decide)⟩
   obtain ⟨v0,v1,v2,v6,v7,v10,v11⟩:=hV
   simp only [List.size_toArray,List.length_cons,List.length_nil,Nat.reduceAdd,framed,dstOf,List.getElem?_toArray,List.getElem?_cons_zero,List.getElem?_cons_succ,Option.bind_some,v0,v1,v2,v6,v7,v10,v11,x8]
   exact this
theorem own_tri {e:TypeId} {B:Nat} {W:World} {A:Option Addr} {n c:Nat} {ts:List Tri} : Own encPairing 4 e B W A n c (ts.map triP)↔Own encTri 4 e B W A n c ts:=by
 have hf:(ts.map triP).flatMap encPairing=ts.flatMap encTri:=by rw [List.flatMap_map];rfl
 constructor
 · intro h
   exact ⟨by simpa using h.len,by rw [←hf];exact h.own⟩
 · intro h
   exact ⟨by simpa using h.len,by rw [hf];exact h.own⟩
theorem Maximal_any (A:Outl) (AwA:Option Addr) (Awn Awc:Nat) (AtA:Option Addr) (Atn Atc:Nat) (B:Outl) (BwA:Option Addr) (Bwn Bwc:Nat) (BtA:Option Addr) (Btn Btc:Nat) (w:World) (Aw:Rd encBound 4 w AwA Awn Awc A.ways) (At:Rd encBound 4 w AtA Atn Atc A.turns) (Bw:Rd encBound 4 w BwA Bwn Bwc B.ways) (Bt:Rd encBound 4 w BtA Btn Btc B.turns):
 Calls Tryz.prog 14 #[.agg #[.int .i64 A.n,.slice AwA Awn Awc,.slice AtA Atn Atc],.agg #[.int .i64 B.n,.slice BwA Bwn Bwc,.slice BtA Btn Btc]] w fun e w'=> ∃ A' c',e = .returned (.tuple #[.slice A' (if twiceErr A B=0 then maxL A B else []).length c',.int .i64 (twiceErr A B)])∧Below w.heap.size w w'∧Own encPairing 4 25 w.heap.size w' A' (if twiceErr A B=0 then maxL A B else []).length c' (if twiceErr A B=0 then maxL A B else []):=by
 obtain ⟨x1,a1,l1,z1,e1⟩:=alloc_facts w #[.int .i64 A.n,.slice AwA Awn Awc,.slice AtA Atn Atc] 35
 obtain ⟨x2,a2,l2,z2,e2⟩:=alloc_facts x1 #[.int .i64 B.n,.slice BwA Bwn Bwc,.slice BtA Btn Btc] 35
 have b2:=l1.trans (l2.mono l1.size)
 have k0:=(l2.block w.heap.size (by omega)).trans e1
 rw [z1] at e2
 obtain ⟨p0,p1,p2⟩:x2.cell? ⟨w.heap.size,0,none⟩=some (.int .i64 A.n)∧x2.cell? ⟨w.heap.size,1,none⟩=some (.slice AwA Awn Awc)∧x2.cell? ⟨w.heap.size,2,none⟩=some (.slice AtA Atn Atc):=(by simp [World.cell?,k0])
 obtain ⟨q0,q1,q2⟩:x2.cell? ⟨w.heap.size+1,0,none⟩=some (.int .i64 B.n)∧x2.cell? ⟨w.heap.size+1,1,none⟩=some (.slice BwA Bwn Bwc)∧x2.cell? ⟨w.heap.size+1,2,none⟩=some (.slice BtA Btn Btc):=(by simp [World.cell?,e2])
 have K1:=Lib.hid (fun W (h:Below x2.heap.size x2 W)=>twice_any A AwA Awn Awc AtA Atn Atc B BwA Bwn Bwc BtA Btn Btc W ((Aw.below b2 (Nat.le_refl _)).below h (Nat.le_refl _)) ((At.below b2 (Nat.le_refl _)).below h (Nat.le_refl _)) ((Bw.below b2 (Nat.le_refl _)).below h (Nat.le_refl _)) ((Bt.below b2 (Nat.le_refl _)).below h (Nat.le_refl _)))
 have K2:Hid (twiceErr A B=0→∀ W (s:Int),Below x2.heap.size x2 W→1≤s∧s≤16→Calls Tryz.prog 34 #[.agg #[.int .i64 A.n,.slice AwA Awn Awc,.slice AtA Atn Atc,.int .i64 B.n,.slice BwA Bwn Bwc,.slice BtA Btn Btc],.int .i64 s] W fun e w'=> ∃ A' c',e = .returned (.slice A' (meetL A B s).length c')∧Below W.heap.size W w'∧Own encPairing 4 25 W.heap.size w' A' (meetL A B s).length c' (meetL A B s)):=(show _→∀ W s,_→_→_ from fun h0 W s h hs=>
  meeting_any A AwA Awn Awc AtA Atn Atc B BwA Bwn Bwc BtA Btn Btc s W ((Aw.below b2 (Nat.le_refl _)).below h (Nat.le_refl _)) ((At.below b2 (Nat.le_refl _)).below h (Nat.le_refl _)) ((Bw.below b2 (Nat.le_refl _)).below h (Nat.le_refl _)) ((Bt.below b2 (Nat.le_refl _)).below h (Nat.le_refl _)) (twice_zero.1 h0).1 (twice_zero.1 h0).2 hs)
 have HR:=Lib.hid (Below.refl x2.heap.size x2)
 have HB2:=Lib.hid b2
 have H1:=Lib.hid a1
 have H2:=Lib.hid a2
 clear Aw At Bw Bt l1 l2 b2 a1 a2 e1 e2 k0
 by_cases h1:twiceErr A B=0
 case neg=>
  simp only [if_neg h1]
  have h1':(twiceErr A B != 0)=true:=by simpa using h1
  clear h1 K2
  generalize twiceErr A B=er at *
  go_enter Tryz.func14,Tryz.ntmps14
  go_wp2_with (first
   | rw [H1.out]|rw [H2.out]
   | (go_at_call 33;(with_reducible refine (K1.out _ HR.out).mono ?_);rintro e w3 ⟨rfl,hb⟩;have HB:=Lib.hid (HB2.out.trans (hb.mono HB2.out.size));clear hb))
  go_ret2
  exact ⟨none,0,rfl,HB.out.alloc HB.out.size _,Own.none_ _ _ _ _ _⟩
 case pos=>
  have hAn:A.n≤16:=by
   obtain ⟨h2,_⟩:=bothErr_zero.1 (twice_zero.1 h1).1
   obtain ⟨n1,n2,_,_⟩:=checkOut_zero.1 h2
   omega
  have hBn:B.n≤16:=by
   obtain ⟨_,h2⟩:=bothErr_zero.1 (twice_zero.1 h1).1
   obtain ⟨n1,n2,_,_⟩:=checkOut_zero.1 h2
   omega
  have HLN:=Lib.hid (fun j (hj:j≤16)=>outTo_len (A:=A) (B:=B) hAn hBn j hj)
  have HLM:=Lib.hid (fun s (hs:1≤s)=>meetL_len A B s hs hAn hBn)
  have HAN:=Lib.hid (And.intro hAn hBn)
  have K3:=Lib.hid (K2.out h1)
  simp only [if_pos h1]
  rw [h1] at K1 ⊢
  clear h1 K2 hAn hBn
  go_enter Tryz.func14,Tryz.ntmps14
  go_wp2_with (first
   | rw [H1.out]|rw [H2.out]
   | (go_at_call 33;(with_reducible refine (K1.out _ HR.out).mono ?_);rintro e w3 ⟨rfl,hb⟩
      obtain ⟨x4,a4,l4,z4,e4⟩:=alloc_facts w3 #[.int .i64 A.n,.slice AwA Awn Awc,.slice AtA Atn Atc,.int .i64 B.n,.slice BwA Bwn Bwc,.slice BtA Btn Btc] 75
      have HB:=Lib.hid (hb.trans (l4.mono hb.size))
      have H4:=Lib.hid a4
      have HE4:=Lib.hid e4
      have hmm:= @run_makeMap Tryz.prog
      clear hb a4 l4 e4)
   | rw [H4.out])
  have HM0:=Lib.hid (MapP.made (E:=Value.bool) x4)
  rw [z4] at HM0
  have HB0:=Lib.hid ((Below.refl x4.heap.size x4).alloc (Nat.le_refl _) (.map #[] 0))
  clear hmm
  go_loopw [9,10] (fun s9 s10 wr=> ∃ (j:Nat) (Ao:Option Addr) (n c:Nat) (m:List (Pairing×Bool)),j≤16∧s9 = .slice Ao n c∧s10 = .int .i64 (16-(j:Int))∧Hid (Own encPairing 4 25 x4.heap.size wr Ao n c (outTo A B j))∧Hid (MapP Value.bool wr (w3.heap.size+1) m)∧Hid (SeenM m (seenTo A B j))∧Hid (Below x4.heap.size x4 wr)) (fun _ s10 _=>(intOf s10).toNat)
  case atStart=>exact ⟨0,none,0,0,[],by omega,rfl,rfl,(show Own _ _ _ _ _ _ _ _ _ from Own.none_ _ _ _ _ _),HM0,(show SeenM _ _ from SeenM.nil),HB0⟩
  case round=>
   obtain ⟨j,Ao,n,c,m,hj,rfl,rfl,hO,hM,hS,hbr⟩:=hrel
   have hzr:=hbr.out.size
   by_cases hlt:j<16
   · have hh:=(hbr.out.block w3.heap.size (by omega)).trans HE4.out
     obtain ⟨c0,c1,c2,c3,c4,c5⟩:=six_cells hh
     have hpos:(0:Int)<16-(j:Int):=(by omega)
     have KK:=Lib.hid (K3.out wr (16-(j:Int)) (HB.out.trans (hbr.out.mono HB.out.size)) (by omega))
     have hml:=HLM.out (16-(j:Int)) (by omega)
     have hol:=HLN.out j (by omega)
     obtain ⟨L,hL⟩:∃ L,meetL A B (16-(j:Int))=L:=⟨_,rfl⟩
     rw [hL] at KK hml
     have HL:=Lib.hid hL
     have HML:=Lib.hid hml
     have HOL:=Lib.hid hol
     clear hh hL hml hol
     go_wp2_with (first
      | (go_at_call 34;(with_reducible refine KK.out.mono ?_);rintro e w5 ⟨A5,q5,rfl,hb5,ho5⟩
         have HB5:=Lib.hid (hbr.out.trans (hb5.mono hbr.out.size))
         have HO5:=Lib.hid ho5
         have HOo:=Lib.hid (hO.out.below hb5 (Nat.le_refl _))
         have HMo:=Lib.hid (hM.out.below hb5 hM.out.lt)
         have HAP:Hid (∀ g,blockOf A5=some g→blockOf Ao≠some g∧g≠w3.heap.size+1):=(show ∀ g,_→_ from fun g hg=>⟨fun e=>by
          have h1:=ho5.ltB g hg
          have h2:=hO.out.lt_ g e
          omega,fun e=>by
          have h1:=ho5.ltB g hg
          have h2:=hM.out.lt
          omega⟩)
         clear hb5 ho5))
     go_loopw [9,33] (fun s9 s33 wr=> ∃ (k:Nat) (Ao:Option Addr) (n c:Nat) (m:List (Pairing×Bool)),k≤L.length∧s9 = .slice Ao n c∧s33 = .int .i64 k∧Hid (Own encPairing 4 25 x4.heap.size wr Ao n c (outTo A B j++(L.take k).filter (aloneB (seenTo A B j))))∧Hid (MapP Value.bool wr (w3.heap.size+1) m)∧Hid (SeenM m (seenTo A B j++L.take k))∧Hid (Below x4.heap.size x4 wr)∧Hid (∀ g,blockOf A5=some g→wr.heap[g]? = w5.heap[g]?)∧Hid (∀ g,blockOf A5=some g→blockOf Ao≠some g∧g≠w3.heap.size+1)) (fun _ s33 _=>L.length-(intOf s33).toNat)
     case atStart=>exact ⟨0,Ao,n,c,m,Nat.zero_le _,rfl,rfl,(show Own _ _ _ _ _ _ _ _ _ by simpa using HOo.out),HMo,(show SeenM _ _ by simpa using hS.out),HB5,(show ∀ g,_ from fun _ _=>rfl),HAP⟩
     case round=>
      clear HOo HMo HAP hO hM hS hbr hzr c0 c1 c2 c3 c4 c5
      obtain ⟨k,Ao,n,c,m,hk,rfl,rfl,hO,hM,hS,hbr,hLk,hAP⟩:=hrel
      have hzr:=hbr.out.size
      by_cases hlk:k<L.length
      · obtain ⟨bl,off,p,rfl,hblw,hx,hcell⟩:=((own_same HO5.out (fun g hg=>hLk.out g hg)).rd lenPairing (by have:=HML.out;omega)).one hlk
        have i0:wr.cell? ⟨bl,off+k * 4,none⟩=some (.int .i64 p.a.lo):=hcell 0 _ rfl
        have i1:wr.cell? ⟨bl,off+k * 4+1,none⟩=some (.int .i64 p.a.hi):=hcell 1 _ rfl
        have i2:wr.cell? ⟨bl,off+k * 4+2,none⟩=some (.int .i64 p.b.lo):=hcell 2 _ rfl
        have i3:wr.cell? ⟨bl,off+k * 4+3,none⟩=some (.int .i64 p.b.hi):=hcell 3 _ rfl
        have HX:=Lib.hid hx
        clear hcell hx
        obtain ⟨w6,a6,b6,z6,e6⟩:=alloc_facts wr #[.int .i64 p.a.lo,.int .i64 p.a.hi,.int .i64 p.b.lo,.int .i64 p.b.hi] 25
        obtain ⟨d0,d1,d2,d3⟩:w6.cell? ⟨wr.heap.size,0,none⟩=some (.int .i64 p.a.lo)∧w6.cell? ⟨wr.heap.size,1,none⟩=some (.int .i64 p.a.hi)∧w6.cell? ⟨wr.heap.size,2,none⟩=some (.int .i64 p.b.lo)∧w6.cell? ⟨wr.heap.size,3,none⟩=some (.int .i64 p.b.hi):=(by simp [World.cell?,e6])
        have hMlt:=hM.out.lt
        have HM6:=Lib.hid (hM.out.below b6 hM.out.lt)
        have HA6:=Lib.hid a6
        have HB6:=Lib.hid b6
        have HE6:=Lib.hid e6
        clear a6 b6 e6
        go_upto_region 13 with (first
         | rw [HA6.out]
         | (at_mapUpdate;refine wpList_mapUpdatePl (E:=Value.bool) rfl _ _ _ 87 rfl Tryz.underlying87 p true rfl rfl rfl HM6.out ?_;intro w7 hm7 hg7 hs7
            have HM7:=Lib.hid hm7
            have HG7:=Lib.hid hg7
            have h7:=(hg7.block wr.heap.size (by omega) (by simp;omega)).trans HE6.out
            obtain ⟨d0',d1',d2',d3'⟩:w7.cell? ⟨wr.heap.size,0,none⟩=some (.int .i64 p.a.lo)∧w7.cell? ⟨wr.heap.size,1,none⟩=some (.int .i64 p.a.hi)∧w7.cell? ⟨wr.heap.size,2,none⟩=some (.int .i64 p.b.lo)∧w7.cell? ⟨wr.heap.size,3,none⟩=some (.int .i64 p.b.hi):=(by simp [World.cell?,h7])
            have HH7:=Lib.hid h7
            clear hm7 hg7 h7
            go_frame))
        go_cut [13,14] from 34 to 79 (fun s13 s14 wx=> ∃ bf bb:Nat,s13 = .pointer (some ⟨bf,0,none⟩)∧s14 = .pointer (some ⟨bb,0,none⟩)∧bf≠bb∧w7.heap.size≤bf∧w7.heap.size≤bb∧Hid (wx.heap[bf]? = some (.cells #[.int .i64 p.a.lo,.int .i64 p.a.hi,.int .i64 p.b.lo,.int .i64 p.b.hi] 25 (0,0)))∧Hid (wx.heap[bb]? = some (.cells #[.int .i64 p.a.lo,.int .i64 p.a.hi,.int .i64 p.b.lo,.int .i64 p.b.hi] 25 (0,0)))∧Hid (Below w7.heap.size w7 wx))
        case first=>
         have q7:Hid ((w7.alloc (.cells #[.int .i64 p.a.lo,.int .i64 p.a.hi,.int .i64 p.b.lo,.int .i64 p.b.hi] 25)).alloc (.cells #[.int .i64 p.a.lo,.int .i64 p.a.hi,.int .i64 p.b.lo,.int .i64 p.b.hi] 25)=(w7.alloc (.cells #[.int .i64 p.a.lo,.int .i64 p.a.hi,.int .i64 p.b.lo,.int .i64 p.b.hi] 25)).alloc (.cells #[.int .i64 p.a.lo,.int .i64 p.a.hi,.int .i64 p.b.lo,.int .i64 p.b.hi] 25)):=(show _=_ from rfl)
         have n1:Hid ((((w7.alloc (.cells #[.int .i64 p.a.lo,.int .i64 p.a.hi,.int .i64 p.b.lo,.int .i64 p.b.hi] 25)).alloc (.cells #[.int .i64 p.a.lo,.int .i64 p.a.hi,.int .i64 p.b.lo,.int .i64 p.b.hi] 25)).drew).heap[w7.heap.size]? = some (.cells #[.int .i64 p.a.lo,.int .i64 p.a.hi,.int .i64 p.b.lo,.int .i64 p.b.hi] 25 (0,0))):=(show _=_ from (Below.heap_alloc _ _ _ (by simp)).trans (heap_alloc_new w7 _))
         have n2:Hid ((((w7.alloc (.cells #[.int .i64 p.a.lo,.int .i64 p.a.hi,.int .i64 p.b.lo,.int .i64 p.b.hi] 25)).alloc (.cells #[.int .i64 p.a.lo,.int .i64 p.a.hi,.int .i64 p.b.lo,.int .i64 p.b.hi] 25)).drew).heap[w7.heap.size+1]? = some (.cells #[.int .i64 p.a.lo,.int .i64 p.a.hi,.int .i64 p.b.lo,.int .i64 p.b.hi] 25 (0,0))):=(show _=_ from heap2 w7 _ _)
         have n3:Hid (Below w7.heap.size w7 (((w7.alloc (.cells #[.int .i64 p.a.lo,.int .i64 p.a.hi,.int .i64 p.b.lo,.int .i64 p.b.hi] 25)).alloc (.cells #[.int .i64 p.a.lo,.int .i64 p.a.hi,.int .i64 p.b.lo,.int .i64 p.b.hi] 25)).drew)):=(show Below _ _ _ from (((Below.refl _ w7).alloc (Nat.le_refl _) _).alloc (by simp) _).drew)
         have hz7:w7.heap.size=wr.heap.size+1:=(by omega)
         rw [hz7] at n1 n2
         go_region
         all_goals
          go_wp2_with fail
          go_meet
         all_goals first
          | exact ⟨wr.heap.size+1,wr.heap.size+1+1,rfl,rfl,by omega,by omega,by omega,n1,n2,n3⟩
          | exact ⟨wr.heap.size+1+1,wr.heap.size+1,rfl,rfl,by omega,by omega,by omega,n2,n1,n3⟩
        case rest=>
         obtain ⟨bf,bb,rfl,rfl,hne,hbf,hbb,hF,hG,hBC⟩:=hcut
         have hp:p∈meetL A B (16-(j:Int)):=(by rw [HL.out];exact List.mem_of_getElem? HX.out)
         have hside:=meetL_side (by omega) hp
         have hin:=(mem_pairsL (by omega)).1 (List.mem_filter.1 hp).1
         have hbnd:p.a.lo≤16∧p.b.lo≤16:=(by have:=HAN.out;omega)
         have v1:IntKind.i64.wrap (p.a.lo-1)=p.a.lo-1:=(by rw [IntKind.wrap_i64];omega)
         have v2:IntKind.i64.wrap (p.b.hi+1)=p.b.hi+1:=(by rw [IntKind.wrap_i64];omega)
         have v3:IntKind.i64.wrap (p.a.hi+1)=p.a.hi+1:=(by rw [IntKind.wrap_i64];omega)
         have v4:IntKind.i64.wrap (p.b.lo-1)=p.b.lo-1:=(by rw [IntKind.wrap_i64];omega)
         have HP:=Lib.hid hp
         clear hp hside hin hbnd
         obtain ⟨f0,f1,f2,f3⟩:wc.cell? ⟨bf,0,none⟩=some (.int .i64 p.a.lo)∧wc.cell? ⟨bf,1,none⟩=some (.int .i64 p.a.hi)∧wc.cell? ⟨bf,2,none⟩=some (.int .i64 p.b.lo)∧wc.cell? ⟨bf,3,none⟩=some (.int .i64 p.b.hi):=(by have:=hF.out;simp [World.cell?,this])
         obtain ⟨g0,g1,g2,g3⟩:wc.cell? ⟨bb,0,none⟩=some (.int .i64 p.a.lo)∧wc.cell? ⟨bb,1,none⟩=some (.int .i64 p.a.hi)∧wc.cell? ⟨bb,2,none⟩=some (.int .i64 p.b.lo)∧wc.cell? ⟨bb,3,none⟩=some (.int .i64 p.b.hi):=(by have:=hG.out;simp [World.cell?,this])
         have r0:∀ i,wc.frozen? ⟨bf,i,none⟩=false:=fun i=>(by have:=hF.out;simp [World.frozen?,this])
         have r1:∀ i,wc.frozen? ⟨bb,i,none⟩=false:=fun i=>(by have:=hG.out;simp [World.frozen?,this])
         have r00:=r0 0;have r03:=r0 3;have r11:=r1 1;have r12:=r1 2
         have hne':¬bf=bb:=hne
         have hne2:¬bb=bf:=fun e=>hne e.symm
         clear r0 r1
         go_upto_region 18 with (fail)
         obtain ⟨W,hW⟩:∃ W,((((wc.setCell ⟨bf,0,none⟩ (.int .i64 (p.a.lo-1))).setCell ⟨bf,3,none⟩ (.int .i64 (p.b.hi+1))).setCell ⟨bb,1,none⟩ (.int .i64 (p.a.hi+1))).setCell ⟨bb,2,none⟩ (.int .i64 (p.b.lo-1)))=W:=⟨_,rfl⟩
         rw [hW]
         have hbl7:=HM7.out.lt
         have hMW:MapP Value.bool W (w3.heap.size+1) (putM m p true):=(by rw [←hW];exact ((((HM7.out.below hBC.out hbl7).setCell _ _ (by show w3.heap.size+1≠bf;omega)).setCell _ _ (by show w3.heap.size+1≠bf;omega)).setCell _ _ (by show w3.heap.size+1≠bb;omega)).setCell _ _ (by show w3.heap.size+1≠bb;omega))
         have hF2:W.heap[bf]? = some (.cells #[.int .i64 (p.a.lo-1),.int .i64 p.a.hi,.int .i64 p.b.lo,.int .i64 (p.b.hi+1)] 25 (0,0)):=(by
          rw [←hW]
          have t1:=heap_setCell_obj (i:=0) (v:=.int .i64 (p.a.lo-1)) hF.out
          have t2:=heap_setCell_obj (i:=3) (v:=.int .i64 (p.b.hi+1)) t1
          exact (Below.heap_setCell _ _ _ bf hne).trans ((Below.heap_setCell _ _ _ bf hne).trans (t2.trans rfl)))
         have hG2:W.heap[bb]? = some (.cells #[.int .i64 p.a.lo,.int .i64 (p.a.hi+1),.int .i64 (p.b.lo-1),.int .i64 p.b.hi] 25 (0,0)):=(by
          rw [←hW]
          have t0:=(Below.heap_setCell (wc.setCell ⟨bf,0,none⟩ (.int .i64 (p.a.lo-1))) ⟨bf,3,none⟩ (.int .i64 (p.b.hi+1)) bb hne2).trans ((Below.heap_setCell wc ⟨bf,0,none⟩ (.int .i64 (p.a.lo-1)) bb hne2).trans hG.out)
          have t1:=heap_setCell_obj (i:=1) (v:=.int .i64 (p.a.hi+1)) t0
          have t2:=heap_setCell_obj (i:=2) (v:=.int .i64 (p.b.lo-1)) t1
          exact t2.trans rfl)
         have hBW:Below w7.heap.size w7 W:=(by rw [←hW];exact (((hBC.out.setCell (p:=⟨bf,0,none⟩) hbf _).setCell (p:=⟨bf,3,none⟩) hbf _).setCell (p:=⟨bb,1,none⟩) hbb _).setCell (p:=⟨bb,2,none⟩) hbb _)
         clear hW f0 f1 f2 f3 g0 g1 g2 g3 r00 r03 r11 r12 v1 v2 v3 v4
         obtain ⟨f0,f1,f2,f3⟩:W.cell? ⟨bf,0,none⟩=some (.int .i64 (p.a.lo-1))∧W.cell? ⟨bf,1,none⟩=some (.int .i64 p.a.hi)∧W.cell? ⟨bf,2,none⟩=some (.int .i64 p.b.lo)∧W.cell? ⟨bf,3,none⟩=some (.int .i64 (p.b.hi+1)):=(by simp [World.cell?,hF2])
         obtain ⟨g0,g1,g2,g3⟩:W.cell? ⟨bb,0,none⟩=some (.int .i64 p.a.lo)∧W.cell? ⟨bb,1,none⟩=some (.int .i64 (p.a.hi+1))∧W.cell? ⟨bb,2,none⟩=some (.int .i64 (p.b.lo-1))∧W.cell? ⟨bb,3,none⟩=some (.int .i64 p.b.hi):=(by simp [World.cell?,hG2])
         have hS':SeenM (putM m p true) (seenTo A B j++L.take (k+1)):=(by
          have:=hS.out.put p
          rwa [List.append_assoc,←List.take_append_getElem hlk,show L[k]=p from (List.getElem?_eq_some_iff.1 HX.out).2] at * )
         have z6:=HB6.out.size
         have z7:=HG7.out.size
         have z8:=hBW.size
         have z9:wr.heap.size+1≤w6.heap.size:=(by omega)
         have hOo:Own encPairing 4 25 x4.heap.size W Ao n c (outTo A B j++(L.take k).filter (aloneB (seenTo A B j))):=by
          have h6:=hO.out.below HB6.out (Nat.le_refl _)
          obtain ⟨es,cl,hmm,_⟩:=HM6.out.at_
          exact (h6.kept HG7.out (h6.ne hmm (fun cur e=>by cases e))).below hBW (Nat.le_refl _)
         have hneM:some (w3.heap.size+1)≠blockOf Ao:=by
          obtain ⟨es,cl,hmm,_⟩:=hMW.at_
          exact hOo.ne' hmm (fun cur e=>by cases e)
         have hBx:Below x4.heap.size x4 W:=(Below.grown (hbr.out.trans (HB6.out.mono hzr)) HG7.out (by omega) (fun k e=>by cases e;omega)).trans (hBW.mono (by omega))
         have hLW:∀ g,blockOf (some ⟨bl,off,none⟩)=some g→W.heap[g]? = w5.heap[g]? := fun g hg=>by
          have hlt:=(own_same HO5.out (fun g hg=>hLk.out g hg)).lt_ g hg
          have h2:=(hAP.out g hg).2
          exact (hBW.block g (by omega)).trans ((HG7.out.block g (by omega) (fun e=>h2 (by injection e))).trans ((HB6.out.block g hlt).trans (hLk.out g hg)))
         have hLlt:∀ g,blockOf (some ⟨bl,off,none⟩)=some g→g<wr.heap.size:=fun g hg=>(own_same HO5.out (fun g hg=>hLk.out g hg)).lt_ g hg
         have hh12:=(hBW.block wr.heap.size (by omega)).trans HH7.out
         obtain ⟨l0,l1,l2,l3⟩:W.cell? ⟨wr.heap.size,0,none⟩=some (.int .i64 p.a.lo)∧W.cell? ⟨wr.heap.size,1,none⟩=some (.int .i64 p.a.hi)∧W.cell? ⟨wr.heap.size,2,none⟩=some (.int .i64 p.b.lo)∧W.cell? ⟨wr.heap.size,3,none⟩=some (.int .i64 p.b.hi):=(by simp [World.cell?,hh12])
         clear hh12
         have hal:aloneB (seenTo A B j) p=(!decide (growF p∈seenTo A B j++L.take (k+1)) && !decide (growB p∈seenTo A B j++L.take (k+1))):=by
          have h:=alone_same (S:=seenTo A B j) (k:=k+1) (show (1:Int)≤16-(j:Int) by omega) HP.out
          rw [HL.out] at h
          exact h.symm
         have hft:(L.take (k+1)).filter (aloneB (seenTo A B j))=(L.take k).filter (aloneB (seenTo A B j))++(if aloneB (seenTo A B j) p then [p] else []):=by
          rw [List.take_add_one,HX.out,List.filter_append]
          congr 1
          cases h:aloneB (seenTo A B j) p<;>simp [h]
         have lkF:=run_lookupPl Tryz.underlying87 (Tryz.zeroValue4 W) hMW (growF p) false
         have lkB:=run_lookupPl Tryz.underlying87 (Tryz.zeroValue4 W) hMW (growB p) false
         simp only [Bool.false_eq_true,if_false,SeenM.val hS'] at lkF lkB
         generalize decide (growF p∈seenTo A B j++L.take (k+1))=vF at *
         generalize decide (growB p∈seenTo A B j++L.take (k+1))=vB at *
         simp only [keyV,growF,growB] at lkF lkB
         rw [hal] at hft
         have hlF:=hOo.len
         have HFT:=Lib.hid hft
         have HOW:=Lib.hid hOo
         have HMW:=Lib.hid hMW
         have HSW:=Lib.hid hS'
         have HBX:=Lib.hid hBx
         have HLW:=Lib.hid hLW
         have HLT:=Lib.hid hLlt
         have HNE:=Lib.hid hneM
         have HN:Hid (n≤8192):=(show n≤8192 from by
          have h1:=HOL.out
          have h2:=HML.out
          have h3:=List.length_filter_le (aloneB (seenTo A B j)) (L.take k)
          have h4:(L.take k).length≤L.length:=by rw [List.length_take];omega
          rw [List.length_append] at hlF
          omega)
         clear hft hal hOo hMW hS' hBx hLW hLlt hneM hlF hF2 hG2 hBW hO hM hS hLk
         have hml2:L.length≤256:=HML.out
         cases vF with
         | true=>
           go_wp2
           go_roundw
           case rel=>exact ⟨k+1,Ao,n,c,putM m p true,by omega,rfl,by go_num,(show Own _ _ _ _ _ _ _ _ _ from by rw [HFT.out];simpa using HOW.out),HMW,HSW,HBX,HLW,hAP⟩
           case measure=>simp [intOf];omega
         | false=>
           cases vB with
           | true=>
             go_wp2
             go_roundw
             case rel=>exact ⟨k+1,Ao,n,c,putM m p true,by omega,rfl,by go_num,(show Own _ _ _ _ _ _ _ _ _ from by rw [HFT.out];simpa using HOW.out),HMW,HSW,HBX,HLW,hAP⟩
             case measure=>simp [intOf];omega
           | false=>
             have HRD:=Lib.hid (Rd.single (enc:=encPairing) (k:=4) W #[.int .i64 p.a.lo,.int .i64 p.a.hi,.int .i64 p.b.lo,.int .i64 p.b.hi] 25 [p] 1 rfl (by omega) (fun _=>rfl) (by simp [encPairing]))
             go_wp2_with (at_builtin;refine wpList_append_src elPairing (fun _=>rfl) onePairing rfl _ _ rfl (some ⟨W.heap.size,0,none⟩) 1 1 [p] rfl rfl (HOW.out.alloc _) HRD.out (by have:=HN.out;omega) (by omega) (by have:=HBX.out.size;simp;omega) ?_;intro A' c' w8 hown' hg8 hA8
                          have HG8:=Lib.hid hg8
                          have HO8:=Lib.hid hown'
                          have HA8:=Lib.hid hA8
                          clear hown' hg8 hA8)
             have hB8:Below x4.heap.size x4 w8:=(HBX.out.alloc HBX.out.size _).grown HG8.out (by have:=HBX.out.size;simp;omega) (fun k e=>HOW.out.ltB k e)
             have hM8:MapP Value.bool w8 (w3.heap.size+1) (putM m p true):=(HMW.out.alloc _).kept HG8.out HNE.out
             have hL8:∀ g,blockOf (some ⟨bl,off,none⟩)=some g→w8.heap[g]? = w5.heap[g]? := fun g hg=>by
              have h1:=HLT.out g hg
              have h2:=(hAP.out g hg).1
              exact (HG8.out.block g (by simp;omega) (fun e=>h2 e.symm)).trans ((Below.heap_alloc _ _ _ (by omega)).trans (HLW.out g hg))
             have hP8:∀ g,blockOf (some ⟨bl,off,none⟩)=some g→blockOf A'≠some g∧g≠w3.heap.size+1:=fun g hg=>⟨fun e=>by
              have h1:=HLT.out g hg
              rcases HA8.out with h|h
              · exact (hAP.out g hg).1 (h.symm.trans e)
              · rw [h] at e
                simp at e
                omega,(hAP.out g hg).2⟩
             go_roundw
             case rel=>exact ⟨k+1,A',n+1,c',putM m p true,by omega,rfl,by go_num,(show Own _ _ _ _ _ _ _ _ _ from by rw [HFT.out];simpa using HO8.out),hM8,HSW,hB8,hL8,hP8⟩
             case measure=>simp [intOf];omega
      · have hkL:k=L.length:=by omega
        subst hkL
        go_wp2
        go_roundw
        case rel=>exact ⟨j+1,Ao,n,c,m,by omega,rfl,by go_num,(show Own _ _ _ _ _ _ _ _ _ from by rw [outTo,HL.out];simpa using hO.out),hM,(show SeenM _ _ from by rw [seenTo,HL.out];simpa using hS.out),hbr⟩
        case measure=>simp [intOf];omega
   · have hj16:j=16:=by omega
     subst hj16
     have hlen:(maxL A B).length=n:=by
      have h1:=hO.out.len
      unfold maxL
      rw [List.length_map,(sortTri_perm _).length_eq,List.length_map,h1]
     have HLE:=Lib.hid hlen
     have KS:=SortFunc_Tri x4.heap.size Ao n c ((outTo A B 16).map toTri) wr (own_tri.1 (by rw [outTo_tri (Nat.le_refl _)];exact hO.out)) (by have h1:=hO.out.len;have h2:=HLN.out 16 (Nat.le_refl _);omega)
     have HKS:=Lib.hid KS
     clear KS hlen
     rw [←outTo_tri (Nat.le_refl _)] at hO
     go_wp2_with (go_at_call 35;(with_reducible refine HKS.out.mono ?_);rintro e w8 ⟨rfl,ho8,hg8⟩
                  have HO8:=Lib.hid ho8
                  have HG8:=Lib.hid hg8
                  clear ho8 hg8)
     go_ret2
     have hB8:Below x4.heap.size x4 w8:=hbr.out.grown HG8.out hzr (fun k e=>hO.out.ltB k e)
     obtain rfl:=HLE.out
     exact ⟨Ao,c,rfl,HB2.out.trans ((HB.out.trans (hB8.mono HB.out.size)).mono HB2.out.size),(own_tri.2 HO8.out).mono (by have:=HB.out.size;have:=HB2.out.size;omega)⟩
def codeCpl4:Option Code→Code
 | some (.seq _ (.seq _ (.seq (.seq c _) _)))=>c
 | _=> .skip
def CplI (T:TypeId) (cs:Array Value) (w:World):List Value→World→Prop
 | [],W=>Below w.heap.size w W
 | [v],W=>Below w.heap.size w W∧∃ g,v = .slice (some ⟨g,0,none⟩) 4 4∧w.heap.size≤g∧W.heap[g]? = some (.cells cs T (0,0))
 | _,_=>False
theorem CplI.b {T:TypeId} {cs:Array Value} {w W:World} {cv:List Value} (h:CplI T cs w cv W):Below w.heap.size w W:=by
 match cv,h with
 | [],h=>exact h
 | [_],h=>exact h.1
theorem CplI.one {T:TypeId} {cs:Array Value} {w W:World} {cv:List Value} (hl:1≤cv.length) (h:CplI T cs w cv W):∃ g,cv = [.slice (some ⟨g,0,none⟩) 4 4]:=by
 match cv,hl,h with
 | [v],_,⟨_,g,e,_⟩=>exact ⟨g,by rw [e]⟩
 | [],hl,_=>simp at hl
def Tcpl4 (_ _ b7:Nat) (an bn:Int) (aw at_ bw bt:Value) (X0 X1 X2 X3:Option Addr) (n0 k0 n1 k1 n2 k2 n3 k3:Nat) (cv:List Value):List Value:=
 [.agg #[.int .i64 an,aw,at_],.agg #[.int .i64 (an+1),aw],.pointer (some ⟨b7,0,none⟩),.slice X0 n0 k0,.agg #[.int .i64 (an+1),aw,.slice X0 n0 k0],.agg #[.int .i64 bn,bw,bt],.agg #[.int .i64 (bn+1),bw],.pointer (some ⟨b7,0+1,none⟩),.slice X1 n1 k1,.agg #[.int .i64 (bn+1),bw,.slice X1 n1 k1],.agg #[.int .i64 an,aw,at_],.agg #[.int .i64 an,at_],.pointer (some ⟨b7,0+2,none⟩),.slice X2 n2 k2,.agg #[.int .i64 an,at_,.slice X2 n2 k2],.agg #[.int .i64 bn,bw,bt],.agg #[.int .i64 bn,bt],.pointer (some ⟨b7,0+3,none⟩),.slice X3 n3 k3,.agg #[.int .i64 bn,bt,.slice X3 n3 k3],cv.getD 0 undef,.int .i64 4,.int .i64 0]
theorem cpl4 (cC:Code) (hc:cC=codeCpl4 Tryz.f18.body) (b4 b5 b7:Nat) (an bn:Int) (aw at_ bw bt:Value) (X0 X1 X2 X3:Option Addr) (n0 k0 n1 k1 n2 k2 n3 k3:Nat) (a:Act) (w:World) (Q:Exit→Act→World→Prop)
 (hT:a.tmps.size=166) (t4:a.tmps.getD 4 undef = .pointer (some ⟨b4,0,none⟩)) (t5:a.tmps.getD 5 undef = .pointer (some ⟨b5,0,none⟩)) (t7:a.tmps.getD 7 undef = .pointer (some ⟨b7,0,none⟩))
 (CE:∀ W,Below w.heap.size w W→W.cell? ⟨b4,0,none⟩=some (.int .i64 an)∧W.cell? ⟨b4,1,none⟩=some aw∧W.cell? ⟨b4,2,none⟩=some at_∧W.cell? ⟨b5,0,none⟩=some (.int .i64 bn)∧W.cell? ⟨b5,1,none⟩=some bw∧W.cell? ⟨b5,2,none⟩=some bt∧W.cell? ⟨b7,0,none⟩=some (.slice X0 n0 k0)∧W.cell? ⟨b7,1,none⟩=some (.slice X1 n1 k1)∧W.cell? ⟨b7,2,none⟩=some (.slice X2 n2 k2)∧W.cell? ⟨b7,3,none⟩=some (.slice X3 n3 k3))
 (C1:∀ W,Below w.heap.size w W→Calls Tryz.prog 43 #[.agg #[.int .i64 an,aw,at_]] W fun e w'=>e = .returned (.agg #[.int .i64 (an+1),aw])∧Below W.heap.size W w')
 (C2:∀ W,Below w.heap.size w W→Calls Tryz.prog 43 #[.agg #[.int .i64 bn,bw,bt]] W fun e w'=>e = .returned (.agg #[.int .i64 (bn+1),bw])∧Below W.heap.size W w')
 (C3:∀ W,Below w.heap.size w W→Calls Tryz.prog 44 #[.agg #[.int .i64 an,aw,at_]] W fun e w'=>e = .returned (.agg #[.int .i64 an,at_])∧Below W.heap.size W w')
 (C4:∀ W,Below w.heap.size w W→Calls Tryz.prog 44 #[.agg #[.int .i64 bn,bw,bt]] W fun e w'=>e = .returned (.agg #[.int .i64 bn,bt])∧Below W.heap.size W w')
 (hQ:∀ g W,Below w.heap.size w W→w.heap.size≤g→W.heap[g]? = some (.cells #[.int .i64 (an+1),aw,.slice X0 n0 k0,.int .i64 (bn+1),bw,.slice X1 n1 k1,.int .i64 an,at_,.slice X2 n2 k2,.int .i64 bn,bt,.slice X3 n3 k3] 100 (0,0))→Q .normal { tmps:=setsL a.tmps 29 (Tcpl4 b4 b5 b7 an bn aw at_ bw bt X0 X1 X2 X3 n0 k0 n1 k1 n2 k2 n3 k3 [.slice (some ⟨g,0,none⟩) 4 4]),defers:=a.defers } W):
 cC.wp Tryz.prog Q a w:=by
 subst hc
 unfold codeCpl4 Tryz.f18
 dsimp only
 refine wpIn_wide.1 (wpIn_region_chain (nn:=5) 166 (by kernel_rfl) (by kernel_rfl) (by kernel_rfl) hT (fun i cv=>(Tcpl4 b4 b5 b7 an bn aw at_ bw bt X0 X1 X2 X3 n0 k0 n1 k1 n2 k2 n3 k3 cv).getD i undef) (fun i=>([0,0,0,0,0,0,0,0,0,0,0,0,0,0,0,0,0,0,0,0,0,1,0]:List Nat).getD i 0) (fun i=>([0,0,0,0,0,0,0,0,0,0,0,0,0,0,0,0,0,0,0,0,1,1,1]:List Nat).getD i 0) [20] (by kernel_rfl) (by kernel_rfl) (by kernel_rfl) (by kernel_rfl) (CplI 100 #[.int .i64 (an+1),aw,.slice X0 n0 k0,.int .i64 (bn+1),bw,.slice X1 n1 k1,.int .i64 an,at_,.slice X2 n2 k2,.int .i64 bn,bt,.slice X3 n3 k3] w) ((Below.refl _ _).drew) (fun b cv hE hold=> ?_) (fun cv W hl hI=> ?_))
 · clear hQ
   have q4:=hold 4 _ (by kernel_rfl) t4
   have q5:=hold 5 _ (by kernel_rfl) t5
   have q7:=hold 7 _ (by kernel_rfl) t7
   simp only [factsL,Vc,idxC,Tcpl4,List.getD_cons_zero,List.getD_cons_succ,Nat.reduceAdd,Nat.reduceEqDiff,reduceIte,Option.map_none] at hE
   repeat' first|exact chain_nil|refine chain_op 0 rfl rfl ?_ ?_|refine chain_skip rfl rfl rfl rfl ?_|refine chain_quiet rfl rfl ?_ ?_
   all_goals intro hl
   any_goals (
    intro hl2;simp only [List.getD_cons_zero,List.getD_cons_succ,Nat.reduceAdd] at hl hl2
    first
     | (obtain rfl:=List.eq_nil_of_length_eq_zero (Nat.le_zero.1 hl2);intro W hW;have hWb:Below w.heap.size w W:=hW;obtain ⟨e0,e1,e2,e3,e4,e5,e6,e7,e8,e9⟩:=CE W hWb;simp only [Tcpl4,List.getD_cons_zero,List.getD_cons_succ,Nat.reduceAdd]
        first
         | (refine .inl ?_;go_simp;done)
         | (refine .inl ?_;go_simp;rfl)
         | (refine .inr (.inr ⟨43,#[.agg #[.int .i64 an,aw,at_]],?_,(C1 W hWb).mono ?_⟩)
            · go_simp<;>done
            · rintro e w' ⟨rfl,hb'⟩;exact ⟨rfl,hWb.trans (hb'.mono hWb.size)⟩)
         | (refine .inr (.inr ⟨43,#[.agg #[.int .i64 bn,bw,bt]],?_,(C2 W hWb).mono ?_⟩)
            · go_simp<;>done
            · rintro e w' ⟨rfl,hb'⟩;exact ⟨rfl,hWb.trans (hb'.mono hWb.size)⟩)
         | (refine .inr (.inr ⟨44,#[.agg #[.int .i64 an,aw,at_]],?_,(C3 W hWb).mono ?_⟩)
            · go_simp<;>done
            · rintro e w' ⟨rfl,hb'⟩;exact ⟨rfl,hWb.trans (hb'.mono hWb.size)⟩)
         | (refine .inr (.inr ⟨44,#[.agg #[.int .i64 bn,bw,bt]],?_,(C4 W hWb).mono ?_⟩)
            · go_simp<;>done
            · rintro e w' ⟨rfl,hb'⟩;exact ⟨rfl,hWb.trans (hb'.mono hWb.size)⟩))
     | (intro W hW;simp only [Tcpl4,List.getD_cons_zero,List.getD_cons_succ,Nat.reduceAdd];refine .inl ?_;go_simp;(try rfl);done)
     | (intro W hW;obtain ⟨e0,e1,e2,e3,e4,e5,e6,e7,e8,e9⟩:=CE W (CplI.b hW);simp only [Tcpl4,List.getD_cons_zero,List.getD_cons_succ,Nat.reduceAdd]
        first
         | (refine .inl ?_;go_simp;done)
         | (refine .inl ?_;go_simp;rfl))
     | (intro W hW;obtain ⟨g,rfl⟩:=CplI.one hl hW;simp only [Tcpl4,List.getD_cons_zero,List.getD_cons_succ,Nat.reduceAdd] at hE ⊢;refine .inl ?_;go_simp;(try rfl);done)
    done)
   · obtain rfl:=List.eq_nil_of_length_eq_zero hl
     intro W hW
     have hWb:Below w.heap.size w W:=hW
     refine .inl ⟨.slice (some ⟨W.heap.size,0,none⟩) 4 4,W.alloc (.cells #[.int .i64 (an+1),aw,.slice X0 n0 k0,.int .i64 (bn+1),bw,.slice X1 n1 k1,.int .i64 an,at_,.slice X2 n2 k2,.int .i64 bn,bt,.slice X3 n3 k3] 100),.inl ?_,?_⟩
     · go_simp<;>rfl
     · exact ⟨hWb.alloc hWb.size _,_,rfl,hWb.size,heap_alloc_new W _⟩
 · match cv,hl,hI with
   | [v],_,⟨hb,g,e,h1,h2⟩=>subst e;exact hQ g W hb h1 h2
end Go.Proofs.YtpmkgmilfifkpaaGreatDoor
end

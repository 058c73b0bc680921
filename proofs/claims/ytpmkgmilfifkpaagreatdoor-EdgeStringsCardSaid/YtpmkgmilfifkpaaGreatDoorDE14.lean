/- Contracts that the laws lean on: Jo1, Joi, EdB, EdC. -/
import Derived.Test.YtpmkgmilfifkpaaGreatDoorDE13
set_option maxRecDepth 100000
set_option maxHeartbeats 8000000
section
namespace Go.Proofs.YtpmkgmilfifkpaaGreatDoor
open Go.RowKit Go.Proofs Go.Shelf
theorem ent_jo1:∀ args w,(callFunc 93 args).run Tryz.prog w = .ok (.enter 93 args) w:=enters_of Tryz.func93 (by kernel_rfl) rfl
theorem jo1_any (wb bb:Nat) (A:Option Addr) (n c:Nat) (wl:List Int) (back:Bool) (x:Bound) (s d:Int) (w:World) (hw:Rd encInt 1 w A n c wl) (c0:w.cell? ⟨wb,0,none⟩=some (.slice A n c)) (c1:w.cell? ⟨bb,0,none⟩=some (.bool back)) (hs:wl[x.src.toNat]? = some s) (hd:wl[x.dst.toNat]? = some d) (s0:0≤x.src) (d0:0≤x.dst):
 Calls Tryz.prog 93 #[.agg #[.int .i64 x.src,.int .i64 x.dst,.int .i64 x.most,.int .i64 x.by_],.pointer (some ⟨wb,0,none⟩),.pointer (some ⟨bb,0,none⟩)] w fun e w'=>e = .returned (if back then .agg #[.int .i64 d,.int .i64 s,.int .i64 x.most,.int .i64 x.by_] else .agg #[.int .i64 s,.int .i64 d,.int .i64 x.most,.int .i64 x.by_])∧Below w.heap.size w w':=by
 have hlen:=hw.len
 have hsn:x.src.toNat<n:=by have:=(List.getElem?_eq_some_iff.1 hs).1;omega
 have hdn:x.dst.toNat<n:=by have:=(List.getElem?_eq_some_iff.1 hd).1;omega
 obtain ⟨b,off,hA,hbw,hc⟩:=hw.at_ (by omega)
 have e0:w.cell? ⟨b,off+x.src.toNat,none⟩=some (.int .i64 s):=by have:=hc _ _ hs 0 _ rfl;rw [Nat.mul_one,Nat.add_zero] at this;exact this
 have e1:w.cell? ⟨b,off+x.dst.toNat,none⟩=some (.int .i64 d):=by have:=hc _ _ hd 0 _ rfl;rw [Nat.mul_one,Nat.add_zero] at this;exact this
 subst hA
 have lw:wb<w.heap.size:=block_lt_of_cell c0
 have lb:bb<w.heap.size:=block_lt_of_cell c1
 have g1:x.src<(n:Int):=by omega
 have g2:x.dst<(n:Int):=by omega
 clear hw hc hs hd hlen
 cases back
 · go_enter Tryz.func93,Tryz.ntmps93
   go_wp2_with (go_region)
   exact bodyPost_ret (v:=.agg #[.int .i64 s,.int .i64 d,.int .i64 x.most,.int .i64 x.by_]) (by simp [results,Tryz.results93,go_sem]) rfl ⟨rfl,(((Below.refl _ _).alloc (Nat.le_refl _) _).alloc (by simp) _).drew⟩
 · go_enter Tryz.func93,Tryz.ntmps93
   go_wp2_with (go_region)
   exact bodyPost_ret (v:=.agg #[.int .i64 d,.int .i64 s,.int .i64 x.most,.int .i64 x.by_]) (by simp [results,Tryz.results93,go_sem]) rfl ⟨rfl,(((Below.refl _ _).alloc (Nat.le_refl _) _).alloc (by simp) _).drew⟩
def wlL (first low high at_:Int) (k:Nat):List Int:=(List.range k).map fun i:Nat=>whereF first low high at_ (i:Int)
def ptsAt (first low high:Int) (k:Nat):Int:=if (k:Int)≤low then first+k else if (k:Int)≤high+1 then first+low else first+low+(k-high-1)
theorem wlL_succ (first low high at_:Int) (k:Nat):wlL first low high at_ (k+1)=wlL first low high at_ k ++ [whereF first low high at_ (k:Int)]:=by
 unfold wlL
 rw [List.range_succ,List.map_append];rfl
theorem wlL_get {first low high at_:Int} {k:Nat} {i:Int} (h0:0≤i) (h1:i<k):(wlL first low high at_ k)[i.toNat]? = some (whereF first low high at_ i):=by
 unfold wlL
 rw [List.getElem?_map,List.getElem?_range (by omega)]
 show some (whereF first low high at_ ((i.toNat:Nat):Int))=_
 rw [Int.toNat_of_nonneg h0]
theorem ptsAt_in {first low high:Int} {k:Nat} (h1:low≤(k:Int)) (h2:(k:Int)≤high):ptsAt first low high (k+1)=ptsAt first low high k:=by
 unfold ptsAt
 (repeat' split)<;>omega
theorem ptsAt_out {first low high at_:Int} {k:Nat} (hl:low≤high) (h:¬(low≤(k:Int)∧(k:Int)≤high)):whereF first low high at_ (k:Int)=ptsAt first low high k∧ptsAt first low high (k+1)=ptsAt first low high k+1:=by
 unfold whereF ptsAt
 rw [if_neg h]
 constructor
 · (repeat' split)<;>omega
 · (repeat' split)<;>omega
theorem ptsAt_end {first second low high:Int} {k:Nat} (hk:(k:Int)=second) (h1:low≤high) (h2:high<second):ptsAt first low high k=jointN first second low high:=by
 unfold ptsAt jointN
 (repeat' split)<;>omega
theorem own_same {α:Type} {enc:α→List Value} {k n c B:Nat} {e:TypeId} {W W':World} {A:Option Addr} {xs:List α} (h:Own enc k e B W A n c xs) (hs:∀ g,blockOf A=some g→W'.heap[g]? = W.heap[g]?):Own enc k e B W' A n c xs:=
 ⟨h.len,h.own.1,by
   rcases h.own.2 with h1|⟨g,cap,cur,h1,h2,h3,h4⟩
   · exact .inl h1
   · refine .inr ⟨g,cap,cur,h1,h2,(hs g ?_).trans h3,h4⟩
     injection h1 with a _ _
     rw [a];rfl⟩
theorem alloc_facts (w:World) (cs:Array Value) (t:TypeId):∃ w',w.alloc (.cells cs t)=w'∧Below w.heap.size w w'∧w'.heap.size=w.heap.size+1∧w'.heap[w.heap.size]? = some (.cells cs t (0,0)):=
 ⟨_,rfl,(Below.refl _ w).alloc (Nat.le_refl _) _,by simp,heap_alloc_new w _⟩
structure JoAt (k0:Nat) (back:Bool) (W:World) (A:Option Addr) (n c:Nat) (l:List Int):Prop where
 b0:W.heap[k0]? = some (.cells #[.bool back] 4 (0,0))
 b1:W.heap[k0+1]? = some (.cells #[.int .i64 0,.slice none 0 0] 83 (0,0))
 b2:W.heap[k0+1+1]? = some (.cells #[.slice A n c] 51 (0,0))
 own:Own encInt 1 3 k0 W A n c l
theorem JoAt.lt {k0:Nat} {back:Bool} {W:World} {A:Option Addr} {n c:Nat} {l:List Int} (h:JoAt k0 back W A n c l):k0+1+1<W.heap.size:=(Array.getElem?_eq_some_iff.1 h.b2).1
theorem JoAt.push {k0:Nat} {back:Bool} {W w3:World} {A A2:Option Addr} {n c c2:Nat} {l l2:List Int} (h:JoAt k0 back W A n c l) {cs:Array Value} (hO:Own encInt 1 3 k0 w3 A2 (n+1) c2 l2) (hg:(W.alloc (.cells cs 3)).grownBy w3 (blockOf A)):
 JoAt k0 back (w3.setCell ⟨k0+1+1,0,none⟩ (.slice A2 (n+1) c2)) A2 (n+1) c2 l2∧Below k0 W (w3.setCell ⟨k0+1+1,0,none⟩ (.slice A2 (n+1) c2))∧w3.heap[k0+1+1]? = some (.cells #[.slice A n c] 51 (0,0)):=by
 have hlt:=h.lt
 have hsz:W.heap.size<w3.heap.size:=by have:=hg.size;simp at this;omega
 have nt:∀ {j:Nat} {cur:Array Value} {e':TypeId},W.heap[j]? = some (.cells cur e' (0,0))→e'≠3→blockOf A≠some j:=fun hj he e=>by
  rcases h.own.ne_type hj he with rfl|h'
  · cases e
  · exact h' e
 have blk:∀ j,j<W.heap.size→blockOf A≠some j→j≠k0+1+1→(w3.setCell ⟨k0+1+1,0,none⟩ (.slice A2 (n+1) c2)).heap[j]? = W.heap[j]? := fun j hj hA hk=>by
  rw [Below.heap_setCell _ _ _ j hk]
  exact (hg.block j (by simp;omega) (fun e=>hA e.symm)).trans (Below.heap_alloc W _ j hj)
 have h3:w3.heap[k0+1+1]? = some (.cells #[.slice A n c] 51 (0,0)):=((hg.block _ (by simp;omega) (fun e=>nt h.b2 (by decide) e.symm)).trans (Below.heap_alloc W _ _ hlt)).trans h.b2
 refine ⟨⟨(blk k0 (by omega) (nt h.b0 (by decide)) (by omega)).trans h.b0,(blk (k0+1) (by omega) (nt h.b1 (by decide)) (by omega)).trans h.b1,by rw [heap_setCell_obj h3];rfl,own_same hO fun g hgA=>Below.heap_setCell _ _ _ g fun e=> ?_⟩,⟨hg.os,hg.tape,hg.output,by simp;omega,fun j hj=>blk j (by omega) (fun e=> ?_) (by omega)⟩,h3⟩
 · rcases hO.ne_type h3 (by decide) with rfl|h'
   · cases hgA
   · exact h' (hgA.trans (by rw [e]))
 · have:=h.own.ltB j e
   omega
theorem JoAt.below {k0:Nat} {back:Bool} {W W':World} {A:Option Addr} {n c:Nat} {l:List Int} (h:JoAt k0 back W A n c l) (hb:Below W.heap.size W W'):JoAt k0 back W' A n c l:=
 have hlt:=h.lt
 ⟨(hb.block _ (by omega)).trans h.b0,(hb.block _ (by omega)).trans h.b1,(hb.block _ hlt).trans h.b2,h.own.below hb (Nat.le_refl _)⟩
def RowS (A:Option Addr) (n:Nat) (a:List Bound) (B:Nat) (W:World) (A':Option Addr) (N c':Nat) (l:List Bound):Prop:=(A'=A∧c'=n∧N=n∧l=a)∨Own encBound 4 50 B W A' N c' l
theorem RowS.rd {A:Option Addr} {n c:Nat} {a:List Bound} {B:Nat} {W:World} {A':Option Addr} {N c':Nat} {l:List Bound} (h:RowS A n a B W A' N c' l) (ha:Rd encBound 4 W A n c a) (hN:N≤1000000):Rd encBound 4 W A' N c' l:=by
 rcases h with ⟨rfl,rfl,rfl,rfl⟩|h
 · exact ⟨ha.len,ha.big,⟨Nat.le_refl _,by have:=ha.big;omega⟩,ha.at_⟩
 · exact h.rd (fun _=>rfl) (by omega)
theorem RowS.below {A:Option Addr} {n:Nat} {a:List Bound} {B B':Nat} {W W':World} {A':Option Addr} {N c':Nat} {l:List Bound} (h:RowS A n a B W A' N c' l) (hb:Below W.heap.size W W') (hB:B'≤B):RowS A n a B' W' A' N c' l:=
 h.imp id fun h=>(h.below hb (Nat.le_refl _)).mono hB
theorem RowS.set {A:Option Addr} {n:Nat} {a:List Bound} {B:Nat} {W:World} {A':Option Addr} {N c':Nat} {l:List Bound} (h:RowS A n a B W A' N c' l) {k i:Nat} {cs:Array Value} {t:TypeId} (hk:W.heap[k]? = some (.cells cs t (0,0))) (ht:t≠50) (v:Value):RowS A n a B (W.setCell ⟨k,i,none⟩ v) A' N c' l:=
 h.imp id fun hO=>own_same hO fun g hgA=>by
  have hgne:g≠k:=fun e=>by
   rcases hO.ne_type hk ht with rfl|h'
   · cases hgA
   · exact h' (hgA.trans (by rw [e]))
  exact Below.heap_setCell _ _ _ g hgne
theorem JoAt.alloc' {k0:Nat} {back:Bool} {W:World} {A:Option Addr} {n c:Nat} {l:List Int} (h:JoAt k0 back W A n c l) (o:Obj):JoAt k0 back (W.alloc o) A n c l:=h.below ((Below.refl _ _).alloc (Nat.le_refl _) o)
theorem JoAt.grown {k0:Nat} {back:Bool} {W W':World} {A:Option Addr} {n c:Nat} {l:List Int} (h:JoAt k0 back W A n c l) {row:Option Nat} (hg:W.grownBy W' row) (hr:∀ r,row=some r→∃ cur fr,W.heap[r]? = some (.cells cur 50 fr)):JoAt k0 back W' A n c l:=by
 have hlt:=h.lt
 have nt:∀ {j:Nat} {cur:Array Value} {e':TypeId},W.heap[j]? = some (.cells cur e' (0,0))→e'≠50→some j≠row:=fun hj he e=>by
  obtain ⟨cur',fr,h'⟩:=hr _ e.symm
  rw [hj] at h'
  injection h' with h'
  injection h' with _ h2 _
  exact he h2
 refine ⟨(hg.block _ (by omega) (nt h.b0 (by decide))).trans h.b0,(hg.block _ (by omega) (nt h.b1 (by decide))).trans h.b1,(hg.block _ hlt (nt h.b2 (by decide))).trans h.b2,own_same h.own fun g hgA=> ?_⟩
 rcases h.own.block with rfl|⟨g',cur,rfl,hg',_⟩
 · cases hgA
 · have hgg:g'=g:=by simpa [blockOf] using hgA
   subst hgg
   exact hg.block _ (Array.getElem?_eq_some_iff.1 hg').1 (nt hg' (by decide))
theorem own_row {α:Type} {enc:α→List Value} {k n c B:Nat} {e:TypeId} {W:World} {A:Option Addr} {xs:List α} (h:Own enc k e B W A n c xs):∀ r,blockOf A=some r→∃ cur fr,W.heap[r]? = some (.cells cur e fr):=fun r hr=>by
 rcases h.block with rfl|⟨g,cur,rfl,hg,_⟩
 · cases hr
 · have:g=r:=by simpa [blockOf] using hr
   subst this
   exact ⟨_,_,hg⟩
theorem joint_any (first second low high at_:Int) (back:Bool) (A:Option Addr) (n c:Nat) (a:List Bound) (B:Option Addr) (m d:Nat) (b:List Bound) (w:World) (ha:Rd encBound 4 w A n c a) (hb:Rd encBound 4 w B m d b) (h0:0≤low) (h1:low≤high) (h2:high<second) (h3:0≤at_) (h4:at_+high-low<first) (h5:first≤1000) (h6:second≤1000)
 (hbb:∀ x∈b,0≤x.src∧x.src<second∧0≤x.dst∧x.dst<second) (hnm:n+m≤1000000):
 Calls Tryz.prog 60 #[.int .i64 first,.int .i64 second,.int .i64 low,.int .i64 high,.int .i64 at_,.slice A n c,.slice B m d,.bool back] w fun e w'=> ∃ A' c',e = .returned (.agg #[.int .i64 (jointN first second low high),.slice A' (n+m) c'])∧Below w.heap.size w w'∧RowS A n a w.heap.size w' A' (n+m) c' (jointB first low high at_ back a b):=by
 obtain ⟨w1,a1,l1,z1,e1⟩:=alloc_facts w (#[.bool back]) 4
 obtain ⟨w2,a2,l2,z2,e2⟩:=alloc_facts w1 (#[.int .i64 0,.slice none 0 0]) 83
 rw [z1] at e2 z2
 obtain ⟨w3,a3,l3,z3,e3⟩:=alloc_facts w2 (#[.slice none 0 0]) 51
 rw [z2] at e3 z3
 have m2:Below w1.heap.size w1 w3:=l2.trans (l3.mono l2.size)
 have m1:Below w.heap.size w w3:=l1.trans (m2.mono l1.size)
 have J0:JoAt w.heap.size back w3 none 0 0 []:=⟨(m2.block _ (by omega)).trans e1,(l3.block _ (by omega)).trans e2,e3,Own.none_ _ _ _ _ _⟩
 have HA:=Lib.hid (show ((w.alloc (.cells #[.bool back] 4)).alloc (.cells #[.int .i64 0,.slice none 0 0] 83)).alloc (.cells #[.slice none 0 0] 51)=w3 by rw [a1,a2,a3])
 have HJ0:=Lib.hid J0
 have HM1:=Lib.hid m1
 have RA:Hid (∀ W,Below w.heap.size w W→Rd encBound 4 W A n c a):=(show ∀ W,_→_ from fun W h=>ha.below h (Nat.le_refl _))
 have RB:Hid (∀ W,Below w.heap.size w W→Rd encBound 4 W B m d b):=(show ∀ W,_→_ from fun W h=>hb.below h (Nat.le_refl _))
 have HBB:=Lib.hid hbb
 have hca:n≤c:=ha.cap.1
 have hla:=ha.len
 have hlb:=hb.len
 clear ha hb a1 a2 a3 l1 l2 l3 z1 z2 z3 e1 e2 e3 m2 m1 J0 hbb
 go_enter Tryz.func60,Tryz.ntmps60
 go_wp2_with (rw [HA.out])
 go_loopw [17,26] (fun s17 s26 wr=> ∃ (k:Nat) (A':Option Addr) (c':Nat),(k:Int)≤second∧s17 = .int .i64 (ptsAt first low high k)∧s26 = .int .i64 k∧Hid (JoAt w.heap.size back wr A' k c' (wlL first low high at_ k))∧Hid (Below w.heap.size w wr)) (fun _ s26 _=>second.toNat-(intOf s26).toNat)
 case atStart=>exact ⟨0,none,0,by omega,by simp [ptsAt,h0],rfl,HJ0,HM1⟩
 case round=>
  obtain ⟨k,A',c',hk,rfl,rfl,hJ,hbr⟩:=hrel
  have hzr:=hbr.out.size
  by_cases hlt:(k:Int)<second
  · have p2:wr.cell? ⟨w.heap.size+1+1,0,none⟩=some (.slice A' k c'):=(by have:=hJ.out.b2;simp [World.cell?,this])
    by_cases hin:low≤(k:Int)∧(k:Int)≤high
    · have HI:Hid (inB (k:Int) low high=true):=(show _=_ by simp [inB];omega)
      have hw1:IntKind.i64.wrap (at_+high)=at_+high:=(by rw [IntKind.wrap_i64];omega)
      have hw2:IntKind.i64.wrap (at_+high-(k:Int))=at_+high-(k:Int):=(by rw [IntKind.wrap_i64];omega)
      have HV:Hid (wlL first low high at_ (k+1)=wlL first low high at_ k ++ [at_+high-(k:Int)]):=(show _=_ by rw [wlL_succ];unfold whereF;rw [if_pos hin])
      have HP:=Lib.hid (ptsAt_in (first:=first) hin.1 hin.2)
      clear hin
      go_wp2_with (first
       | (go_at_call 69;(with_reducible refine (inE_any _ _ _ _).mono ?_);rintro e w2 ⟨rfl,hw2⟩;obtain rfl:=hw2.symm;rw [HI.out])
       | (at_builtin
          have hown:Own encInt 1 3 w.heap.size (wr.alloc (.cells #[.int .i64 (at_+high-(k:Int))] 3)) A' k c' (wlL first low high at_ k):=hJ.out.own.alloc _
          have hrd7:=Rd.single (enc:=encInt) (k:=1) wr #[.int .i64 (at_+high-(k:Int))] 3 [at_+high-(k:Int)] 1 rfl (by omega) (fun _=>rfl) (by simp [encInt])
          refine wpList_append_src elInt (fun _=>rfl) oneInt rfl _ _ rfl _ _ _ _ rfl rfl hown hrd7 (by omega) (by decide) (by simp;omega) ?_
          intro A2 c2 w8 hO8 hg8 hA8
          obtain ⟨hp1,hp2,hp3⟩:=hJ.out.push hO8 hg8
          have q1:w8.cell? ⟨w.heap.size+1+1,0,none⟩=some (.slice A' k c'):=(by simp [World.cell?,hp3])
          have q2:w8.frozen? ⟨w.heap.size+1+1,0,none⟩=false:=(by simp [World.frozen?,hp3])
          rw [←HV.out] at hp1
          have HP1:=Lib.hid hp1
          have HP2:=Lib.hid (hbr.out.trans hp2)
          clear hO8 hg8 hA8 hown hrd7 hp1 hp2 hp3))
      go_roundw
      all_goals first
       | (simp [intOf];omega)
       | exact ⟨k+1,A2,c2,by omega,by rw [HP.out],by go_num,HP1,HP2⟩
    · have HI:Hid (inB (k:Int) low high=false):=(show _=_ by
       rw [←Bool.not_eq_true]
       intro hh
       simp [inB] at hh
       exact hin hh)
      obtain ⟨ho1,ho2⟩:=ptsAt_out (first:=first) (at_:=at_) h1 hin
      have HV:Hid (wlL first low high at_ (k+1)=wlL first low high at_ k ++ [ptsAt first low high k]):=(show _=_ by rw [wlL_succ,ho1])
      have hpb:0≤ptsAt first low high k∧ptsAt first low high k≤3000:=(by unfold ptsAt;(repeat' split)<;>omega)
      have HPB:=Lib.hid hpb
      have hw1:IntKind.i64.wrap (ptsAt first low high k+1)=ptsAt first low high k+1:=(by rw [IntKind.wrap_i64];omega)
      have HO2:=Lib.hid ho2
      clear hin ho1 ho2 hpb
      generalize ptsAt first low high k=pk at *
      go_wp2_with (first
       | (go_at_call 69;(with_reducible refine (inE_any _ _ _ _).mono ?_);rintro e w2 ⟨rfl,hw2⟩;obtain rfl:=hw2.symm;rw [HI.out])
       | (at_builtin
          have hown:Own encInt 1 3 w.heap.size (wr.alloc (.cells #[.int .i64 pk] 3)) A' k c' (wlL first low high at_ k):=hJ.out.own.alloc _
          have hrd7:=Rd.single (enc:=encInt) (k:=1) wr #[.int .i64 pk] 3 [pk] 1 rfl (by omega) (fun _=>rfl) (by simp [encInt])
          refine wpList_append_src elInt (fun _=>rfl) oneInt rfl _ _ rfl _ _ _ _ rfl rfl hown hrd7 (by omega) (by decide) (by simp;omega) ?_
          intro A2 c2 w8 hO8 hg8 hA8
          obtain ⟨hp1,hp2,hp3⟩:=hJ.out.push hO8 hg8
          have q1:w8.cell? ⟨w.heap.size+1+1,0,none⟩=some (.slice A' k c'):=(by simp [World.cell?,hp3])
          have q2:w8.frozen? ⟨w.heap.size+1+1,0,none⟩=false:=(by simp [World.frozen?,hp3])
          rw [←HV.out] at hp1
          have HP1:=Lib.hid hp1
          have HP2:=Lib.hid (hbr.out.trans hp2)
          clear hO8 hg8 hA8 hown hrd7 hp1 hp2 hp3))
      go_roundw
      all_goals first
       | (simp [intOf];omega)
       | exact ⟨k+1,A2,c2,by omega,by rw [HO2.out],by go_num,HP1,HP2⟩
  · have hks:(k:Int)=second:=by omega
    have HPE:=Lib.hid (ptsAt_end (first:=first) hks h1 h2)
    have HKS:=Lib.hid hks
    rw [HPE.out]
    clear hks
    have hJ2:=hJ
    have hbr2:=hbr
    go_wp2
    have hwlen:(wlL first low high at_ k).length=k:=(by unfold wlL;simp)
    have HWL:=Lib.hid hwlen
    clear hwlen
    rename World=>wm
    go_loopw [21,57] (fun s21 s57 wr=> ∃ (j:Nat) (A1:Option Addr) (c1:Nat),j≤m∧s57 = .int .i64 j∧s21 = .slice A1 (n+j) c1∧Hid (JoAt w.heap.size back wr A' k c' (wlL first low high at_ k))∧Hid (Below w.heap.size w wr)∧((j=0∧A1=A∧c1=n)∨Own encBound 4 50 w.heap.size wr A1 (n+j) c1 (a++(b.take j).map (placeB first low high at_ back)))) (fun _ s57 _=>m-(intOf s57).toNat)
    case atStart=>exact ⟨0,A,n,Nat.zero_le _,rfl,rfl,hJ,hbr,.inl ⟨rfl,rfl,rfl⟩⟩
    case round=>
     obtain ⟨j,A1,c1,hj,rfl,rfl,hJr,hbrr,hO⟩:=hrel
     have hzrr:=hbrr.out.size
     by_cases hlt:j<m
     · obtain ⟨bz,oz,x,hBz,hbz,hx,hcx⟩:=(RB.out wr hbrr.out).one hlt
       subst hBz
       have i0:wr.cell? ⟨bz,oz+j * 4,none⟩=some (.int .i64 x.src):=hcx 0 _ rfl
       have i1:wr.cell? ⟨bz,oz+j * 4+1,none⟩=some (.int .i64 x.dst):=hcx 1 _ rfl
       have i2:wr.cell? ⟨bz,oz+j * 4+2,none⟩=some (.int .i64 x.most):=hcx 2 _ rfl
       have i3:wr.cell? ⟨bz,oz+j * 4+3,none⟩=some (.int .i64 x.by_):=hcx 3 _ rfl
       obtain ⟨x1,x2,x3,x4⟩:=HBB.out x (List.mem_of_getElem? hx)
       obtain ⟨s,hs⟩:∃ s,whereF first low high at_ x.src=s:=⟨_,rfl⟩
       obtain ⟨dd,hdd⟩:∃ dd,whereF first low high at_ x.dst=dd:=⟨_,rfl⟩
       have g1:=wlL_get (first:=first) (low:=low) (high:=high) (at_:=at_) (k:=k) x1 (by have:=HKS.out;omega)
       have g2:=wlL_get (first:=first) (low:=low) (high:=high) (at_:=at_) (k:=k) x3 (by have:=HKS.out;omega)
       rw [hs] at g1
       rw [hdd] at g2
       obtain ⟨w5,hw5⟩:∃ w5,wr.alloc (.cells #[.int .i64 x.src,.int .i64 x.dst,.int .i64 x.most,.int .i64 x.by_] 50)=w5:=⟨_,rfl⟩
       have hb5:Below wr.heap.size wr w5:=(by rw [←hw5];exact (Below.refl _ _).alloc (Nat.le_refl _) _)
       have hh5:w5.heap[wr.heap.size]? = some (.cells #[.int .i64 x.src,.int .i64 x.dst,.int .i64 x.most,.int .i64 x.by_] 50 (0,0)):=(by rw [←hw5];exact heap_alloc_new wr _)
       have HJW:=Lib.hid (hJr.out.below hb5)
       have HBR:=Lib.hid hb5
       have HBW:=Lib.hid (hbrr.out.trans (hb5.mono hzrr))
       have u0:w5.cell? ⟨wr.heap.size,0,none⟩=some (.int .i64 x.src):=(by simp [World.cell?,hh5])
       have u1:w5.cell? ⟨wr.heap.size,1,none⟩=some (.int .i64 x.dst):=(by simp [World.cell?,hh5])
       have u2:w5.cell? ⟨wr.heap.size,2,none⟩=some (.int .i64 x.most):=(by simp [World.cell?,hh5])
       have u3:w5.cell? ⟨wr.heap.size,3,none⟩=some (.int .i64 x.by_):=(by simp [World.cell?,hh5])
       have hj1:=jo1_any (w.heap.size+1+1) w.heap.size A' k c' (wlL first low high at_ k) back x s dd w5 (HJW.out.own.rd (fun _=>rfl) (by omega)) (by have:=HJW.out.b2;simp [World.cell?,this]) (by have:=HJW.out.b0;simp [World.cell?,this]) g1 g2 x1 x3
       have ej:=ent_jo1
       have hz5:=hb5.size
       have hTK:(b.take (j+1)).map (placeB first low high at_ back)=(b.take j).map (placeB first low high at_ back) ++ [placeB first low high at_ back x]:=(by rw [List.take_add_one,hx];simp)
       have hPB:placeB first low high at_ back x=if back then ⟨dd,s,x.most,x.by_⟩ else ⟨s,dd,x.most,x.by_⟩:=(by unfold placeB;rw [hs,hdd])
       have hm1:(n+j+1:Nat)=n+(j+1):=rfl
       clear hcx hx x1 x2 x3 x4 hs hdd g1 g2 hb5 hh5
       cases back
       · have HPB:Hid (placeB first low high at_ false x=⟨s,dd,x.most,x.by_⟩):=(show _=_ from hPB)
         have HTK:=Lib.hid hTK
         have HJ1:Hid (Calls Tryz.prog 93 #[.agg #[.int .i64 x.src,.int .i64 x.dst,.int .i64 x.most,.int .i64 x.by_],.pointer (some ⟨w.heap.size+1+1,0,none⟩),.pointer (some ⟨w.heap.size,0,none⟩)] w5 fun e w'=>e = .returned (.agg #[.int .i64 s,.int .i64 dd,.int .i64 x.most,.int .i64 x.by_])∧Below w5.heap.size w5 w'):=(show Calls _ _ _ _ _ from hj1)
         have HW5:=Lib.hid hw5
         clear hPB hTK hj1 hw5
         rcases hO with ⟨rfl,rfl,rfl⟩|hO
         · (try simp only [Nat.zero_mul,Nat.add_zero] at i0 i1 i2 i3)
           go_wp2_with (first
            | rw [HW5.out]
            | (go_at_fn 93;(with_reducible refine (HJ1.out).mono ?_);rintro e w6 ⟨rfl,hb6⟩
               have HB6:=Lib.hid hb6
               have hz6:=hb6.size
               clear hb6)
            | (at_builtin
               have hsrc:=(RA.out (w6.alloc (.cells #[.int .i64 s,.int .i64 dd,.int .i64 x.most,.int .i64 x.by_] 50)) ((HBW.out.trans (HB6.out.mono HBW.out.size)).alloc (by omega) _))
               have hrd7:=Rd.single (enc:=encBound) (k:=4) w6 #[.int .i64 s,.int .i64 dd,.int .i64 x.most,.int .i64 x.by_] 50 [(⟨s,dd,x.most,x.by_⟩:Bound)] 1 rfl (by omega) (fun _=>rfl) (by simp [encBound])
               refine wpList_append_full elBound (fun _=>rfl) oneBound rfl _ _ rfl _ _ _ _ rfl rfl hsrc hrd7 (by omega) (by omega) (by decide) ?_
               intro A2 c2 w8 hO8 hg8
               have HO8:=Lib.hid (hO8.mono (B':=w.heap.size) (by simp;omega))
               have HJ8:=Lib.hid (((HJW.out.below HB6.out).alloc' _).grown hg8 (fun r hr=>by cases hr))
               have HB8:=Lib.hid (((HBW.out.trans (HB6.out.mono HBW.out.size)).alloc (by omega) (.cells #[.int .i64 s,.int .i64 dd,.int .i64 x.most,.int .i64 x.by_] 50)).grown hg8 (by simp;omega) (fun j e=>by cases e))
               clear hO8 hg8 hsrc hrd7))
           go_roundw
           all_goals first
            | (simp [intOf];omega)
            | exact ⟨0+1,A2,c2,by omega,by go_num,rfl,HJ8,HB8,.inr (by have h9:=HO8.out;rw [HTK.out,HPB.out];simpa using h9)⟩
         · (try simp only [Nat.zero_mul,Nat.add_zero] at i0 i1 i2 i3)
           go_wp2_with (first
            | rw [HW5.out]
            | (go_at_fn 93;(with_reducible refine (HJ1.out).mono ?_);rintro e w6 ⟨rfl,hb6⟩
               have HB6:=Lib.hid hb6
               have hz6:=hb6.size
               clear hb6)
            | (at_builtin
               have hown:=((hO.below HBR.out (Nat.le_refl _)).below HB6.out (Nat.le_refl _)).alloc (.cells #[.int .i64 s,.int .i64 dd,.int .i64 x.most,.int .i64 x.by_] 50)
               have hrd7:=Rd.single (enc:=encBound) (k:=4) w6 #[.int .i64 s,.int .i64 dd,.int .i64 x.most,.int .i64 x.by_] 50 [(⟨s,dd,x.most,x.by_⟩:Bound)] 1 rfl (by omega) (fun _=>rfl) (by simp [encBound])
               refine wpList_append_src elBound (fun _=>rfl) oneBound rfl _ _ rfl _ _ _ _ rfl rfl hown hrd7 (by omega) (by decide) (by simp;omega) ?_
               intro A2 c2 w8 hO8 hg8 hA8
               have HO8:=Lib.hid hO8
               have HJ8:=Lib.hid (((HJW.out.below HB6.out).alloc' _).grown hg8 (fun r hr=>own_row hown r hr))
               have HB8:=Lib.hid (((HBW.out.trans (HB6.out.mono HBW.out.size)).alloc (by omega) (.cells #[.int .i64 s,.int .i64 dd,.int .i64 x.most,.int .i64 x.by_] 50)).grown hg8 (by simp;omega) (fun j e=>hown.ltB j e))
               clear hO8 hg8 hA8 hown hrd7))
           go_roundw
           all_goals first
            | (simp [intOf];omega)
            | exact ⟨j+1,A2,c2,by omega,by go_num,rfl,HJ8,HB8,.inr (by rw [HTK.out,HPB.out,←List.append_assoc];exact HO8.out)⟩
       · have HPB:Hid (placeB first low high at_ true x=⟨dd,s,x.most,x.by_⟩):=(show _=_ from hPB)
         have HTK:=Lib.hid hTK
         have HJ1:Hid (Calls Tryz.prog 93 #[.agg #[.int .i64 x.src,.int .i64 x.dst,.int .i64 x.most,.int .i64 x.by_],.pointer (some ⟨w.heap.size+1+1,0,none⟩),.pointer (some ⟨w.heap.size,0,none⟩)] w5 fun e w'=>e = .returned (.agg #[.int .i64 dd,.int .i64 s,.int .i64 x.most,.int .i64 x.by_])∧Below w5.heap.size w5 w'):=(show Calls _ _ _ _ _ from hj1)
         have HW5:=Lib.hid hw5
         clear hPB hTK hj1 hw5
         rcases hO with ⟨rfl,rfl,rfl⟩|hO
         · (try simp only [Nat.zero_mul,Nat.add_zero] at i0 i1 i2 i3)
           go_wp2_with (first
            | rw [HW5.out]
            | (go_at_fn 93;(with_reducible refine (HJ1.out).mono ?_);rintro e w6 ⟨rfl,hb6⟩
               have HB6:=Lib.hid hb6
               have hz6:=hb6.size
               clear hb6)
            | (at_builtin
               have hsrc:=(RA.out (w6.alloc (.cells #[.int .i64 dd,.int .i64 s,.int .i64 x.most,.int .i64 x.by_] 50)) ((HBW.out.trans (HB6.out.mono HBW.out.size)).alloc (by omega) _))
               have hrd7:=Rd.single (enc:=encBound) (k:=4) w6 #[.int .i64 dd,.int .i64 s,.int .i64 x.most,.int .i64 x.by_] 50 [(⟨dd,s,x.most,x.by_⟩:Bound)] 1 rfl (by omega) (fun _=>rfl) (by simp [encBound])
               refine wpList_append_full elBound (fun _=>rfl) oneBound rfl _ _ rfl _ _ _ _ rfl rfl hsrc hrd7 (by omega) (by omega) (by decide) ?_
               intro A2 c2 w8 hO8 hg8
               have HO8:=Lib.hid (hO8.mono (B':=w.heap.size) (by simp;omega))
               have HJ8:=Lib.hid (((HJW.out.below HB6.out).alloc' _).grown hg8 (fun r hr=>by cases hr))
               have HB8:=Lib.hid (((HBW.out.trans (HB6.out.mono HBW.out.size)).alloc (by omega) (.cells #[.int .i64 dd,.int .i64 s,.int .i64 x.most,.int .i64 x.by_] 50)).grown hg8 (by simp;omega) (fun j e=>by cases e))
               clear hO8 hg8 hsrc hrd7))
           go_roundw
           all_goals first
            | (simp [intOf];omega)
            | exact ⟨0+1,A2,c2,by omega,by go_num,rfl,HJ8,HB8,.inr (by have h9:=HO8.out;rw [HTK.out,HPB.out];simpa using h9)⟩
         · (try simp only [Nat.zero_mul,Nat.add_zero] at i0 i1 i2 i3)
           go_wp2_with (first
            | rw [HW5.out]
            | (go_at_fn 93;(with_reducible refine (HJ1.out).mono ?_);rintro e w6 ⟨rfl,hb6⟩
               have HB6:=Lib.hid hb6
               have hz6:=hb6.size
               clear hb6)
            | (at_builtin
               have hown:=((hO.below HBR.out (Nat.le_refl _)).below HB6.out (Nat.le_refl _)).alloc (.cells #[.int .i64 dd,.int .i64 s,.int .i64 x.most,.int .i64 x.by_] 50)
               have hrd7:=Rd.single (enc:=encBound) (k:=4) w6 #[.int .i64 dd,.int .i64 s,.int .i64 x.most,.int .i64 x.by_] 50 [(⟨dd,s,x.most,x.by_⟩:Bound)] 1 rfl (by omega) (fun _=>rfl) (by simp [encBound])
               refine wpList_append_src elBound (fun _=>rfl) oneBound rfl _ _ rfl _ _ _ _ rfl rfl hown hrd7 (by omega) (by decide) (by simp;omega) ?_
               intro A2 c2 w8 hO8 hg8 hA8
               have HO8:=Lib.hid hO8
               have HJ8:=Lib.hid (((HJW.out.below HB6.out).alloc' _).grown hg8 (fun r hr=>own_row hown r hr))
               have HB8:=Lib.hid (((HBW.out.trans (HB6.out.mono HBW.out.size)).alloc (by omega) (.cells #[.int .i64 dd,.int .i64 s,.int .i64 x.most,.int .i64 x.by_] 50)).grown hg8 (by simp;omega) (fun j e=>hown.ltB j e))
               clear hO8 hg8 hA8 hown hrd7))
           go_roundw
           all_goals first
            | (simp [intOf];omega)
            | exact ⟨j+1,A2,c2,by omega,by go_num,rfl,HJ8,HB8,.inr (by rw [HTK.out,HPB.out,←List.append_assoc];exact HO8.out)⟩
     · have hjm:j=m:=by omega
       subst hjm
       have h1b:=hJr.out.b1
       have p1:wr.cell? ⟨w.heap.size+1,0,none⟩=some (.int .i64 0):=(by simp [World.cell?,h1b])
       have p2:wr.cell? ⟨w.heap.size+1,1,none⟩=some (.slice none 0 0):=(by simp [World.cell?,h1b])
       have rf:∀ i,wr.frozen? ⟨w.heap.size+1,i,none⟩=false:=fun i=>by simp [World.frozen?,h1b]
       have rf0:=rf 0
       have rf1:=rf 1
       have H1B:=Lib.hid h1b
       have hlt2:=hJr.out.lt
       clear h1b rf
       go_wp2
       have h5:((wr.setCell ⟨w.heap.size+1,0,none⟩ (.int .i64 (jointN first second low high))).setCell ⟨w.heap.size+1,1,none⟩ (.slice A1 (n+j) c1)).heap[w.heap.size+1]? = some (.cells #[.int .i64 (jointN first second low high),.slice A1 (n+j) c1] 83 (0,0)):=by
        rw [heap_setCell_obj (heap_setCell_obj H1B.out)];rfl
       refine bodyPost_ret (results_cell_row rfl _ _ (w.heap.size+1) _ _ (0,0) _ rfl h5 Tryz.underlying83 rfl (by kernel_rfl)) rfl ?_
       have hbf:=(hbrr.out.setCell (p:=⟨w.heap.size+1,0,none⟩) (show w.heap.size≤w.heap.size+1 by omega) (.int .i64 (jointN first second low high))).setCell (p:=⟨w.heap.size+1,1,none⟩) (show w.heap.size≤w.heap.size+1 by omega) (.slice A1 (n+j) c1)
       refine ⟨A1,c1,rfl,hbf,?_⟩
       rcases hO with ⟨rfl,rfl,rfl⟩|hO
       · have hb0:b = []:=List.eq_nil_of_length_eq_zero hlb
         subst hb0
         unfold jointB
         rw [List.map_nil,List.append_nil]
         exact .inl ⟨rfl,rfl,rfl,rfl⟩
       · rw [List.take_of_length_le (by omega)] at hO
         exact ((show RowS A n a w.heap.size wr A1 (n+j) c1 (jointB first low high at_ back a b) from .inr hO).set H1B.out (by decide) _).set (heap_setCell_obj H1B.out) (by decide) _
theorem box4 {w:World} {v0 v1 v2 v3:Value} {t:TypeId} {W:World} (hb:Below (w.alloc (.cells #[v0,v1,v2,v3] t)).heap.size (w.alloc (.cells #[v0,v1,v2,v3] t)) W):W.cell? ⟨w.heap.size,0,none⟩=some v0∧W.cell? ⟨w.heap.size,1,none⟩=some v1∧W.cell? ⟨w.heap.size,2,none⟩=some v2∧W.cell? ⟨w.heap.size,3,none⟩=some v3:=by
 have h:=(hb.block w.heap.size (by simp)).trans (heap_alloc_new w (.cells #[v0,v1,v2,v3] t))
 simp [World.cell?,h]
structure BoxABP (k:Nat) (A:Outl) (AwA:Option Addr) (Awn Awc:Nat) (AtA:Option Addr) (Atn Atc:Nat) (B:Outl) (BwA:Option Addr) (Bwn Bwc:Nat) (BtA:Option Addr) (Btn Btc:Nat) (p:Pairing) (W:World):Prop where
 a0:W.cell? ⟨k,0,none⟩=some (.int .i64 A.n)
 a1:W.cell? ⟨k,1,none⟩=some (.slice AwA Awn Awc)
 a2:W.cell? ⟨k,2,none⟩=some (.slice AtA Atn Atc)
 b0:W.cell? ⟨k+1,0,none⟩=some (.int .i64 B.n)
 b1:W.cell? ⟨k+1,1,none⟩=some (.slice BwA Bwn Bwc)
 b2:W.cell? ⟨k+1,2,none⟩=some (.slice BtA Btn Btc)
 p0:W.cell? ⟨k+1+1,0,none⟩=some (.int .i64 p.a.lo)
 p1:W.cell? ⟨k+1+1,1,none⟩=some (.int .i64 p.a.hi)
 p2:W.cell? ⟨k+1+1,2,none⟩=some (.int .i64 p.b.lo)
 p3:W.cell? ⟨k+1+1,3,none⟩=some (.int .i64 p.b.hi)
theorem boxABP (w:World) (A:Outl) (AwA:Option Addr) (Awn Awc:Nat) (AtA:Option Addr) (Atn Atc:Nat) (B:Outl) (BwA:Option Addr) (Bwn Bwc:Nat) (BtA:Option Addr) (Btn Btc:Nat) (p:Pairing):∃ w1,(((w.alloc (.cells #[.int .i64 A.n,.slice AwA Awn Awc,.slice AtA Atn Atc] 35)).alloc (.cells #[.int .i64 B.n,.slice BwA Bwn Bwc,.slice BtA Btn Btc] 35)).alloc (.cells #[.int .i64 p.a.lo,.int .i64 p.a.hi,.int .i64 p.b.lo,.int .i64 p.b.hi] 25))=w1∧
 Below w.heap.size w w1∧w1.heap.size=w.heap.size+1+1+1∧∀ W,Below w1.heap.size w1 W→BoxABP w.heap.size A AwA Awn Awc AtA Atn Atc B BwA Bwn Bwc BtA Btn Btc p W:=by
 refine ⟨_,rfl,(((Below.refl _ w).alloc (Nat.le_refl _) _).alloc (by simp) _).alloc (by simp;omega) _,by simp,fun W hb=> ?_⟩
 obtain ⟨q0,q1,q2,q3⟩:=box4 hb
 have hb2:=(Below.refl _ _).alloc (Nat.le_refl _) (.cells #[.int .i64 p.a.lo,.int .i64 p.a.hi,.int .i64 p.b.lo,.int .i64 p.b.hi] 25) |>.trans (hb.mono (by simp))
 obtain ⟨r0,r1,r2⟩:=box3 hb2
 have hb3:=(Below.refl _ _).alloc (Nat.le_refl _) (.cells #[.int .i64 B.n,.slice BwA Bwn Bwc,.slice BtA Btn Btc] 35) |>.trans (hb2.mono (by simp))
 obtain ⟨s0,s1,s2⟩:=box3 hb3
 exact ⟨s0,s1,s2,by simpa using r0,by simpa using r1,by simpa using r2,by simpa using q0,by simpa using q1,by simpa using q2,by simpa using q3⟩
theorem CheckPairing_any (A:Outl) (AwA:Option Addr) (Awn Awc:Nat) (AtA:Option Addr) (Atn Atc:Nat) (B:Outl) (BwA:Option Addr) (Bwn Bwc:Nat) (BtA:Option Addr) (Btn Btc:Nat) (p:Pairing) (w:World) (Aw:Rd encBound 4 w AwA Awn Awc A.ways) (At:Rd encBound 4 w AtA Atn Atc A.turns) (Bw:Rd encBound 4 w BwA Bwn Bwc B.ways) (Bt:Rd encBound 4 w BtA Btn Btc B.turns):
 Calls Tryz.prog 58 #[.agg #[.int .i64 A.n,.slice AwA Awn Awc,.slice AtA Atn Atc],.agg #[.int .i64 B.n,.slice BwA Bwn Bwc,.slice BtA Btn Btc],.agg #[.int .i64 p.a.lo,.int .i64 p.a.hi,.int .i64 p.b.lo,.int .i64 p.b.hi]] w fun e w'=>e = .returned (.int .i64 (pairErr A B p))∧Below w.heap.size w w':=by
 obtain ⟨w1,hw1,hb1,hz1,hbx⟩:=boxABP w A AwA Awn Awc AtA Atn Atc B BwA Bwn Bwc BtA Btn Btc p
 have KX:=Lib.hid hbx
 have K1:=Lib.hid (fun W (h:Below w1.heap.size w1 W)=>bothE_any A AwA Awn Awc AtA Atn Atc B BwA Bwn Bwc BtA Btn Btc W ((Aw.below hb1 (Nat.le_refl _)).below h (Nat.le_refl _)) ((At.below hb1 (Nat.le_refl _)).below h (Nat.le_refl _)) ((Bw.below hb1 (Nat.le_refl _)).below h (Nat.le_refl _)) ((Bt.below hb1 (Nat.le_refl _)).below h (Nat.le_refl _)))
 have HB1:=Lib.hid hb1
 have HB11:=Lib.hid (Below.refl w1.heap.size w1)
 have HW1:=Lib.hid hw1
 obtain ⟨xa0,xa1,xa2,xb0,xb1,xb2,xp0,xp1,xp2,xp3⟩:=KX.out w1 HB11.out
 clear Aw At Bw Bt hb1 hbx hw1 hz1
 by_cases h1:bothErr A B=0
 case neg=>
  have hv:pairErr A B p=bothErr A B:=by unfold pairErr;rw [if_pos h1]
  rw [hv]
  have h1':(bothErr A B != 0)=true:=by simpa using h1
  clear hv h1
  generalize bothErr A B=er at *
  go_enter Tryz.func58,Tryz.ntmps58
  go_wp2_with (first
   | rw [HW1.out]
   | (go_at_call 64;(with_reducible refine (K1.out _ HB11.out).mono ?_);rintro e w2 ⟨rfl,hb2⟩;have HB2:=Lib.hid hb2;clear hb2))
  go_ret
  exact ⟨rfl,HB1.out.trans (HB2.out.mono HB1.out.size)⟩
 case pos=>
  obtain ⟨k1,k2⟩:=bothErr_zero.1 h1
  obtain ⟨n1,n2,_,_⟩:=checkOut_zero.1 k1
  obtain ⟨m1,m2,_,_⟩:=checkOut_zero.1 k2
  have hv:pairErr A B p=if ofB A p.a=false∨ofB B p.b=false then 1 else if p.a.hi-p.a.lo≠p.b.hi-p.b.lo then 31 else 0:=by unfold pairErr;rw [if_neg (by simpa using h1)]
  rw [hv]
  rw [h1] at K1
  cases h2:ofB A p.a with
  | false=>
    rw [if_pos (.inl rfl)]
    have H2:=Lib.hid h2
    clear k1 k2 n1 n2 m1 m2 hv h1 h2
    go_enter Tryz.func58,Tryz.ntmps58
    go_wp2_with (first
     | rw [HW1.out]
     | (go_at_call 64;(with_reducible refine (K1.out _ HB11.out).mono ?_);rintro e w2 ⟨rfl,hb2⟩;have HB2:=Lib.hid hb2;obtain ⟨ya0,ya1,ya2,yb0,yb1,yb2,yp0,yp1,yp2,yp3⟩:=KX.out w2 hb2;clear xa0 xa1 xa2 xb0 xb1 xb2 xp0 xp1 xp2 xp3;clear hb2)
     | (go_at_call 92;(with_reducible refine (ofE_any A AwA Awn Awc AtA Atn Atc p.a w2).mono ?_);rintro e w3 ⟨rfl,hb3⟩;rw [H2.out];have HB3:=Lib.hid (HB2.out.trans (hb3.mono HB2.out.size));clear ya0 ya1 ya2 yb0 yb1 yb2 yp0 yp1 yp2 yp3;clear hb3))
    go_ret
    exact ⟨rfl,HB1.out.trans (HB3.out.mono HB1.out.size)⟩
  | true=>
    cases h3:ofB B p.b with
    | false=>
      rw [if_pos (.inr rfl)]
      have H2:=Lib.hid h2
      have H3:=Lib.hid h3
      clear k1 k2 n1 n2 m1 m2 hv h1 h2 h3
      go_enter Tryz.func58,Tryz.ntmps58
      go_wp2_with (first
       | rw [HW1.out]
       | (go_at_call 64;(with_reducible refine (K1.out _ HB11.out).mono ?_);rintro e w2 ⟨rfl,hb2⟩;have HB2:=Lib.hid hb2;obtain ⟨ya0,ya1,ya2,yb0,yb1,yb2,yp0,yp1,yp2,yp3⟩:=KX.out w2 hb2;clear xa0 xa1 xa2 xb0 xb1 xb2 xp0 xp1 xp2 xp3;clear hb2)
       | (go_at_call 92;(with_reducible refine (ofE_any A AwA Awn Awc AtA Atn Atc p.a w2).mono ?_);rintro e w3 ⟨rfl,hb3⟩;rw [H2.out];have HB3:=Lib.hid (HB2.out.trans (hb3.mono HB2.out.size));obtain ⟨za0,za1,za2,zb0,zb1,zb2,zp0,zp1,zp2,zp3⟩:=KX.out w3 HB3.out;clear ya0 ya1 ya2 yb0 yb1 yb2 yp0 yp1 yp2 yp3;clear hb3)
       | (go_at_call 92;(with_reducible refine (ofE_any B BwA Bwn Bwc BtA Btn Btc p.b w3).mono ?_);rintro e w4 ⟨rfl,hb4⟩;rw [H3.out];have HB4:=Lib.hid (HB3.out.trans (hb4.mono HB3.out.size));clear za0 za1 za2 zb0 zb1 zb2 zp0 zp1 zp2 zp3;clear hb4))
      go_ret
      exact ⟨rfl,HB1.out.trans (HB4.out.mono HB1.out.size)⟩
    | true=>
      rw [if_neg (by simp)]
      obtain ⟨u1,u2,u3⟩:=ofB_iff.1 h2
      obtain ⟨v1,v2,v3⟩:=ofB_iff.1 h3
      have hwA:IntKind.i64.wrap (p.a.hi-p.a.lo)=p.a.hi-p.a.lo:=(by rw [IntKind.wrap_i64];omega)
      have hwB:IntKind.i64.wrap (p.b.hi-p.b.lo)=p.b.hi-p.b.lo:=(by rw [IntKind.wrap_i64];omega)
      have H2:=Lib.hid h2
      have H3:=Lib.hid h3
      obtain ⟨kk,hkk⟩:∃ kk,(p.a.hi-p.a.lo != p.b.hi-p.b.lo)=kk:=⟨_,rfl⟩
      have hvv:(if p.a.hi-p.a.lo≠p.b.hi-p.b.lo then (31:Int) else 0)=if kk then 31 else 0:=by rw [←hkk];simp
      rw [hvv]
      clear k1 k2 n1 n2 m1 m2 hv h1 h2 h3 u1 u2 u3 v1 v2 v3 hvv
      cases kk
      all_goals
       go_enter Tryz.func58,Tryz.ntmps58
       go_wp2_with (first
        | rw [HW1.out]
        | (go_at_call 64;(with_reducible refine (K1.out _ HB11.out).mono ?_);rintro e w2 ⟨rfl,hb2⟩;have HB2:=Lib.hid hb2;obtain ⟨ya0,ya1,ya2,yb0,yb1,yb2,yp0,yp1,yp2,yp3⟩:=KX.out w2 hb2;clear xa0 xa1 xa2 xb0 xb1 xb2 xp0 xp1 xp2 xp3;clear hb2)
        | (go_at_call 92;(with_reducible refine (ofE_any A AwA Awn Awc AtA Atn Atc p.a w2).mono ?_);rintro e w3 ⟨rfl,hb3⟩;rw [H2.out];have HB3:=Lib.hid (HB2.out.trans (hb3.mono HB2.out.size));obtain ⟨za0,za1,za2,zb0,zb1,zb2,zp0,zp1,zp2,zp3⟩:=KX.out w3 HB3.out;clear ya0 ya1 ya2 yb0 yb1 yb2 yp0 yp1 yp2 yp3;clear hb3)
        | (go_at_call 92;(with_reducible refine (ofE_any B BwA Bwn Bwc BtA Btn Btc p.b w3).mono ?_);rintro e w4 ⟨rfl,hb4⟩;rw [H3.out];have HB4:=Lib.hid (HB3.out.trans (hb4.mono HB3.out.size));obtain ⟨ta0,ta1,ta2,tb0,tb1,tb2,tp0,tp1,tp2,tp3⟩:=KX.out w4 HB4.out;clear za0 za1 za2 zb0 zb1 zb2 zp0 zp1 zp2 zp3;clear hb4))
       go_ret
       exact ⟨rfl,HB1.out.trans (HB4.out.mono HB1.out.size)⟩
theorem heap2 (w:World) (a b:Obj):((w.alloc a).alloc b).heap[w.heap.size+1]? = some b:=by simpa using heap_alloc_new (w.alloc a) b
theorem sys_set {W:World} {k:Nat} {x0 x1 v0 v1:Value} {t:TypeId} (h:W.heap[k]? = some (.cells #[x0,x1] t (0,0))):((W.setCell ⟨k,0,none⟩ v0).setCell ⟨k,1,none⟩ v1).heap[k]? = some (.cells #[v0,v1] t (0,0)):=by
 rw [heap_setCell_obj (heap_setCell_obj h)];rfl
theorem pways_any (A:Outl) (AwA:Option Addr) (Awn Awc:Nat) (AtA:Option Addr) (Atn Atc:Nat) (B:Outl) (BwA:Option Addr) (Bwn Bwc:Nat) (BtA:Option Addr) (Btn Btc:Nat) (p:Pairing) (w:World) (Aw:Rd encBound 4 w AwA Awn Awc A.ways) (_:Rd encBound 4 w AtA Atn Atc A.turns) (Bw:Rd encBound 4 w BwA Bwn Bwc B.ways) (_:Rd encBound 4 w BtA Btn Btc B.turns) (h:PairOk A B p):
 Calls Tryz.prog 31 #[.agg #[.int .i64 A.n,.slice AwA Awn Awc,.slice AtA Atn Atc,.int .i64 B.n,.slice BwA Bwn Bwc,.slice BtA Btn Btc,.int .i64 p.a.lo,.int .i64 p.a.hi,.int .i64 p.b.lo,.int .i64 p.b.hi]] w fun e w'=> ∃ A' c',e = .returned (.agg #[.int .i64 (waysN A B p),.slice A' (Awn+Bwn) c'])∧Below w.heap.size w w'∧RowS AwA Awn A.ways w.heap.size w' A' (Awn+Bwn) c' (waysB A B p):=by
 obtain ⟨n1,n2,n3,n4⟩:=checkOut_zero.1 h.a
 obtain ⟨m1,m2,m3,m4⟩:=checkOut_zero.1 h.b
 obtain ⟨s1,s2,s3,s4⟩:=checkSys_zero.1 n3
 obtain ⟨t1,t2,t3,t4⟩:=checkSys_zero.1 m3
 have la:=Aw.len
 have lb:=Bw.len
 have hk:=h.k
 have ha0:=h.a0;have ha1:=h.a1;have ha2:=h.a2;have hb0:=h.b0;have hb1:=h.b1;have hb2:=h.b2
 have w1:IntKind.i64.wrap (A.n+1)=A.n+1:=(by rw [IntKind.wrap_i64];omega)
 have w2:IntKind.i64.wrap (B.n+1)=B.n+1:=(by rw [IntKind.wrap_i64];omega)
 have HJ:=Lib.hid (fun W (hw:Below w.heap.size w W)=>joint_any (A.n+1) (B.n+1) p.b.lo p.b.hi p.a.lo true AwA Awn Awc A.ways BwA Bwn Bwc B.ways W (Aw.below hw (Nat.le_refl _)) (Bw.below hw (Nat.le_refl _)) hb0 (by omega) (by omega) ha0 (by omega) (by omega) (by omega) (fun x hx=>by
  obtain ⟨q1,q2,q3,q4,_⟩:=wrongB_no.1 (t4 x hx)
  exact ⟨q1,q2,q3,q4⟩) (by omega))
 obtain ⟨x1,a1,l1,z1,e1⟩:=alloc_facts w (#[.int .i64 A.n,.slice AwA Awn Awc,.slice AtA Atn Atc,.int .i64 B.n,.slice BwA Bwn Bwc,.slice BtA Btn Btc,.int .i64 p.a.lo,.int .i64 p.a.hi,.int .i64 p.b.lo,.int .i64 p.b.hi]) 77
 have hjn:jointN (A.n+1) (B.n+1) p.b.lo p.b.hi=waysN A B p:=rfl
 have hjb:jointB (A.n+1) p.b.lo p.b.hi p.a.lo true A.ways B.ways=waysB A B p:=rfl
 rw [hjn,hjb] at HJ
 clear n1 n2 n3 n4 m1 m2 m3 m4 s1 s2 s3 s4 t1 t2 t3 t4 la lb hk ha0 ha1 ha2 hb0 hb1 hb2 h Aw Bw hjn hjb a1 l1 z1 e1
 go_enter Tryz.func31,Tryz.ntmps31
 go_wp2_with (first
  | (go_at_call 60;(with_reducible refine (HJ.out _ (by exact ((Below.refl _ w).alloc (Nat.le_refl _) _).alloc (by simp) _)).mono ?_);rintro e w3 ⟨A3,c3,rfl,hb3,hr3⟩
     have hh3:=(hb3.block (w.heap.size+1) (by simp)).trans (heap2 w _ _)
     have f0:w3.cell? ⟨w.heap.size+1,0,none⟩=some (.int .i64 0):=(by simp [World.cell?,hh3])
     have f1:w3.cell? ⟨w.heap.size+1,1,none⟩=some (.slice none 0 0):=(by simp [World.cell?,hh3])
     have f2:w3.frozen? ⟨w.heap.size+1,0,none⟩=false:=(by simp [World.frozen?,hh3])
     have f3:w3.frozen? ⟨w.heap.size+1,1,none⟩=false:=(by simp [World.frozen?,hh3])
     have HH3:=Lib.hid hh3
     have HB3:=Lib.hid ((((Below.refl _ w).alloc (Nat.le_refl _) _).alloc (by simp) _).trans (hb3.mono (by simp;omega)))
     have HR3:=Lib.hid (hr3.below (Below.refl _ _) (show w.heap.size≤_ by simp;omega))
     clear hb3 hr3 hh3))
 refine bodyPost_ret (results_cell_row rfl _ _ (w.heap.size+1) _ _ (0,0) _ rfl (sys_set HH3.out) Tryz.underlying83 rfl (by kernel_rfl)) rfl ?_
 exact ⟨A3,c3,rfl,(HB3.out.setCell (p:=⟨w.heap.size+1,0,none⟩) (show w.heap.size≤w.heap.size+1 by omega) _).setCell (p:=⟨w.heap.size+1,1,none⟩) (show w.heap.size≤w.heap.size+1 by omega) _,(HR3.out.set HH3.out (by decide) _).set (heap_setCell_obj HH3.out) (by decide) _⟩
theorem pdirs_any (A:Outl) (AwA:Option Addr) (Awn Awc:Nat) (AtA:Option Addr) (Atn Atc:Nat) (B:Outl) (BwA:Option Addr) (Bwn Bwc:Nat) (BtA:Option Addr) (Btn Btc:Nat) (p:Pairing) (w:World) (_:Rd encBound 4 w AwA Awn Awc A.ways) (At:Rd encBound 4 w AtA Atn Atc A.turns) (_:Rd encBound 4 w BwA Bwn Bwc B.ways) (Bt:Rd encBound 4 w BtA Btn Btc B.turns) (h:PairOk A B p):
 Calls Tryz.prog 72 #[.agg #[.int .i64 A.n,.slice AwA Awn Awc,.slice AtA Atn Atc,.int .i64 B.n,.slice BwA Bwn Bwc,.slice BtA Btn Btc,.int .i64 p.a.lo,.int .i64 p.a.hi,.int .i64 p.b.lo,.int .i64 p.b.hi]] w fun e w'=> ∃ A' c',e = .returned (.agg #[.int .i64 (dirsN A B p),.slice A' (Atn+Btn) c'])∧Below w.heap.size w w'∧RowS AtA Atn A.turns w.heap.size w' A' (Atn+Btn) c' (dirsB A B p):=by
 obtain ⟨n1,n2,n3,n4⟩:=checkOut_zero.1 h.a
 obtain ⟨m1,m2,m3,m4⟩:=checkOut_zero.1 h.b
 obtain ⟨s1,s2,s3,s4⟩:=checkSys_zero.1 n4
 obtain ⟨t1,t2,t3,t4⟩:=checkSys_zero.1 m4
 have la:=At.len
 have lb:=Bt.len
 have hk:=h.k
 have ha0:=h.a0;have ha1:=h.a1;have ha2:=h.a2;have hb0:=h.b0;have hb1:=h.b1;have hb2:=h.b2
 have w1:IntKind.i64.wrap (p.b.hi-1)=p.b.hi-1:=(by rw [IntKind.wrap_i64];omega)
 have HJ:=Lib.hid (fun W (hw:Below w.heap.size w W)=>joint_any A.n B.n p.b.lo (p.b.hi-1) p.a.lo false AtA Atn Atc A.turns BtA Btn Btc B.turns W (At.below hw (Nat.le_refl _)) (Bt.below hw (Nat.le_refl _)) hb0 (by omega) (by omega) ha0 (by omega) (by omega) (by omega) (fun x hx=>by
  obtain ⟨q1,q2,q3,q4,_⟩:=wrongB_no.1 (t4 x hx)
  exact ⟨q1,q2,q3,q4⟩) (by omega))
 obtain ⟨x1,a1,l1,z1,e1⟩:=alloc_facts w (#[.int .i64 A.n,.slice AwA Awn Awc,.slice AtA Atn Atc,.int .i64 B.n,.slice BwA Bwn Bwc,.slice BtA Btn Btc,.int .i64 p.a.lo,.int .i64 p.a.hi,.int .i64 p.b.lo,.int .i64 p.b.hi]) 77
 have hjn:jointN A.n B.n p.b.lo (p.b.hi-1)=dirsN A B p:=rfl
 have hjb:jointB A.n p.b.lo (p.b.hi-1) p.a.lo false A.turns B.turns=dirsB A B p:=rfl
 rw [hjn,hjb] at HJ
 clear n1 n2 n3 n4 m1 m2 m3 m4 s1 s2 s3 s4 t1 t2 t3 t4 la lb hk ha0 ha1 ha2 hb0 hb1 hb2 h At Bt hjn hjb a1 l1 z1 e1
 go_enter Tryz.func72,Tryz.ntmps72
 go_wp2_with (first
  | (go_at_call 60;(with_reducible refine (HJ.out _ (by exact ((Below.refl _ w).alloc (Nat.le_refl _) _).alloc (by simp) _)).mono ?_);rintro e w3 ⟨A3,c3,rfl,hb3,hr3⟩
     have hh3:=(hb3.block (w.heap.size+1) (by simp)).trans (heap2 w _ _)
     have f0:w3.cell? ⟨w.heap.size+1,0,none⟩=some (.int .i64 0):=(by simp [World.cell?,hh3])
     have f1:w3.cell? ⟨w.heap.size+1,1,none⟩=some (.slice none 0 0):=(by simp [World.cell?,hh3])
     have f2:w3.frozen? ⟨w.heap.size+1,0,none⟩=false:=(by simp [World.frozen?,hh3])
     have f3:w3.frozen? ⟨w.heap.size+1,1,none⟩=false:=(by simp [World.frozen?,hh3])
     have HH3:=Lib.hid hh3
     have HB3:=Lib.hid ((((Below.refl _ w).alloc (Nat.le_refl _) _).alloc (by simp) _).trans (hb3.mono (by simp;omega)))
     have HR3:=Lib.hid (hr3.below (Below.refl _ _) (show w.heap.size≤_ by simp;omega))
     clear hb3 hr3 hh3))
 refine bodyPost_ret (results_cell_row rfl _ _ (w.heap.size+1) _ _ (0,0) _ rfl (sys_set HH3.out) Tryz.underlying83 rfl (by kernel_rfl)) rfl ?_
 exact ⟨A3,c3,rfl,(HB3.out.setCell (p:=⟨w.heap.size+1,0,none⟩) (show w.heap.size≤w.heap.size+1 by omega) _).setCell (p:=⟨w.heap.size+1,1,none⟩) (show w.heap.size≤w.heap.size+1 by omega) _,(HR3.out.set HH3.out (by decide) _).set (heap_setCell_obj HH3.out) (by decide) _⟩
end Go.Proofs.YtpmkgmilfifkpaaGreatDoor
end

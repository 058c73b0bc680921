/- Contracts that the laws lean on: Cheap, DugM, Pit, Dug0, Earl. -/
import Derived.Test.YtejjplhknacoiaaGreatDoorLK22
import Derived.Deep.DeepCutAuto
set_option maxRecDepth 100000
set_option maxHeartbeats 8000000
section
namespace Go.Proofs.YtejjplhknacoiaaGreatDoor
open Go.RowKit Go.Proofs Go.Shelf
theorem putM_nodup {V:Type} {m:List (Place×V)} (h:(m.map (·.1)).Nodup) (k:Place) (v:V):((putM m k v).map (·.1)).Nodup:=by
 unfold putM
 split
 · rw [List.map_map]
   have:((fun x:Place×V=>x.1) ∘ fun p=>if p.1=k then (k,v) else p)=fun x:Place×V=>x.1:=by
    funext p
    simp only [Function.comp]
    split
    · rename_i e;exact e.symm
    · rfl
   rw [this];exact h
 · rename_i hn
   rw [List.map_append,List.nodup_append]
   refine ⟨h,by simp,fun x hx y hy e=> ?_⟩
   have hy':y=k:=by simpa using hy
   subst hy'
   subst e
   obtain ⟨p,hp,rfl⟩:=List.mem_map.1 hx
   exact hn (List.any_eq_true.2 ⟨p,hp,by simp⟩)
theorem admFold_nodup:∀ (ts:List Trace) (m:List (Place×Admit)),(m.map (·.1)).Nodup→((ts.foldl admStep m).map (·.1)).Nodup
 | [],m,h=>h
 | x::ts,m,h=>by
   rw [List.foldl_cons]
   refine admFold_nodup ts _ ?_
   unfold admStep
   split
   · exact putM_nodup h _ _
   · exact h
theorem admitsOf_nodup (ts:List Trace):((admitsOf ts).map (·.place)).Nodup:=by
 rw [admitsOf_places]
 exact (sortPl_perm _).nodup_iff.2 (admFold_nodup ts [] List.nodup_nil)
structure OrdFacts (l:List Trace) (known:Int) (bs:List Bond):Prop where
 o:OkO (counting l known) bs
 t:∀ x∈counting l known,okLT x
 a8:(admitsOf (counting l known)).length≤8
 cost:∀ x∈admitsOf (counting l known),0≤x.cost∧x.cost≤1000
 nd:((admitsOf (counting l known)).map (·.place)).Nodup
theorem ordFacts {l:List Trace} {known:Int} {bs:List Bond} (he:askErr l known bs=0):OrdFacts l known bs:=by
 have hck:(check l).2=0:=by
  unfold askErr at he
  split at he
  · rename_i h;exact absurd he h
  · rename_i h;simpa using h
 exact ⟨okO_of he,okLT_counting hck,(askErr_sizes he).2,admitsOf_cost (okO_of he),admitsOf_nodup _⟩
def setsOf (l:List Trace) (known:Int) (bs:List Bond):Int×List (List Place):=cheapestM (admitsOf (counting l known)) (enough (counting l known) bs)
def cheapV (l:List Trace) (known:Int) (bs:List Bond):Int×List Place×Int:=
 if askErr l known bs≠0 then (0,[],askErr l known bs) else
 match (setsOf l known bs).2 with
 | []=>(0,[],81)
 | s::_=>((setsOf l known bs).1,s,0)
theorem Cheapest_any (A:Option Addr) (n c:Nat) (l:List Trace) (known:Int) (bA:Option Addr) (bn bc:Nat) (bs:List Bond) (w:World) (hl:Rd encTrace 10 w A n c l) (hb:Rd encBond 5 w bA bn bc bs):
 Calls Tryz.prog 16 #[.slice A n c,.int .i64 known,.slice bA bn bc] w fun e w'=> ∃ A' c',e = .returned (.tuple #[.int .i64 (cheapV l known bs).1,.slice A' (cheapV l known bs).2.1.length c',.int .i64 (cheapV l known bs).2.2])∧Below w.heap.size w w'∧
  Own encPlace 2 36 w.heap.size w' A' (cheapV l known bs).2.1.length c' (cheapV l known bs).2.1:=by
 have hask:=asked_any A n c l known bA bn bc bs w hl hb
 have HASK:=Lib.hid hask
 have HB:=Lib.hid hb
 clear hask hl hb
 by_cases he:askErr l known bs=0
 · have hf:=ordFacts he
   rw [he] at HASK
   have hv:cheapV l known bs=match (setsOf l known bs).2 with
    | []=>(0,[],81)
    | s::_=>((setsOf l known bs).1,s,0):=by unfold cheapV;rw [if_neg (by simpa using he)]
   have hcon:=fun B o w2 h1 h2=>cheapest_any B o bA bn bc bs (counting l known) (admitsOf (counting l known)) w2 h1 h2 hf.o hf.t hf.a8 hf.cost hf.nd
   have hse:cheapestM (admitsOf (counting l known)) (enough (counting l known) bs)=setsOf l known bs:=rfl
   rw [hse] at hcon
   obtain ⟨⟨z,sets⟩,hS⟩:∃ q,setsOf l known bs=q:=⟨_,rfl⟩
   rw [hS] at hcon hv
   have HCON:=Lib.hid hcon
   clear hcon hse hf he hS
   simp only at hv
   cases sets with
   | nil=>
     simp only at hv
     rw [hv]
     clear hv
     go_enter Tryz.func16,Tryz.ntmps16
     go_wp2_with (first
      | (go_at_call 30;(with_reducible refine HASK.out.mono ?_);rintro e w2 ⟨p,rfl,hb2,hp⟩
         obtain ⟨o,rfl,hOr⟩:=hp rfl
         have HC:=Lib.hid (HCON.out _ o w2 hOr (HB.out.below hb2 (Nat.le_refl _)))
         have HB2:=Lib.hid hb2
         clear hOr hp hb2)
      | (go_at_call 37;(with_reducible refine HC.out.mono ?_);rintro e w3 ⟨A',c',rfl,hb3,hS3⟩;have HB3:=Lib.hid hb3;clear hb3 hS3))
     go_ret3
     exact ⟨none,0,rfl,HB2.out.trans (HB3.out.mono HB2.out.size),Own.none_ _ _ _ _ _⟩
   | cons s0 rest=>
     simp only at hv
     rw [hv]
     clear hv
     have hlen:0<(s0::rest).length:=by simp
     obtain ⟨N,hN⟩:∃ N,(s0::rest).length=N:=⟨_,rfl⟩
     obtain ⟨SS,hSS⟩:∃ SS,s0::rest=SS:=⟨_,rfl⟩
     have h0:SS[0]? = some s0:=by rw [←hSS];rfl
     rw [hN] at hlen
     simp only [hSS] at HCON hN
     rw [hN] at HCON
     have HN:=Lib.hid hN
     have H0:=Lib.hid h0
     clear hSS hN h0
     go_enter Tryz.func16,Tryz.ntmps16
     go_upto_region 7 with (first
      | (go_at_call 30;(with_reducible refine HASK.out.mono ?_);rintro e w2 ⟨p,rfl,hb2,hp⟩
         obtain ⟨o,rfl,hOr⟩:=hp rfl
         have HC:=Lib.hid (HCON.out _ o w2 hOr (HB.out.below hb2 (Nat.le_refl _)))
         have HB2:=Lib.hid hb2
         clear hOr hp hb2)
      | (go_at_call 37;(with_reducible refine HC.out.mono ?_);rintro e w3 ⟨A',c',rfl,hb3,hS3⟩
         have HB3:=Lib.hid hb3
         have HS3:=Lib.hid hS3
         clear hb3 hS3))
     obtain ⟨hs,h1,h2⟩:=HS3.out
     have hl1:=h1.len
     rw [HN.out] at hl1 h1
     obtain ⟨g,rfl⟩:∃ g,A'=some ⟨g,0,none⟩:=(by
      rcases h1.form with ⟨_,e,_⟩|⟨g,e,_⟩
      · omega
      · exact ⟨g,e⟩)
     obtain ⟨h0,hh0⟩:∃ h0,hs[0]? = some h0:=⟨_,List.getElem?_eq_getElem (by omega)⟩
     obtain ⟨e1,e2⟩:=h2 0 h0 s0 hh0 H0.out
     have hcell:=h1.cells (fun _=>rfl) hh0 0 _ rfl
     rw [Nat.mul_one,Nat.add_zero] at hcell
     unfold hdrV at hcell
     rw [e1] at hcell
     have E2:=Lib.hid e2
     clear h1 h2 hl1 hh0 e1 e2
     go_quiet (fail)
     go_wp2
     go_ret3
     exact ⟨h0.A,h0.c,rfl,below_drewN' (HB2.out.trans (HB3.out.mono HB2.out.size)) _,(E2.out.drewN _).mono HB2.out.size⟩
 · have hv:cheapV l known bs=(0,[],askErr l known bs):=by unfold cheapV;rw [if_pos he]
   rw [hv]
   have he':(askErr l known bs != 0)=true:=by simpa using he
   go_enter Tryz.func16,Tryz.ntmps16
   go_wp2_with (first
    | (go_at_call 30;(with_reducible refine HASK.out.mono ?_);rintro e w2 ⟨p,rfl,hb2,hp⟩))
   go_ret3
   exact ⟨none,0,rfl,hb2,Own.none_ _ _ _ _ _⟩
open Go.Sort
def insPl (p:Place):List Place→List Place
 | []=> [p]
 | q::l=>if ltPl p q then p::q::l else q::insPl p l
def isortPl:List Place→List Place
 | []=> []
 | p::l=>insPl p (isortPl l)
theorem insPl_perm (p:Place):∀ l,(insPl p l).Perm (p::l)
 | []=>List.Perm.refl _
 | q::l=>by
   unfold insPl
   split
   · exact List.Perm.refl _
   · exact ((insPl_perm p l).cons q).trans (List.Perm.swap p q l)
theorem isortPl_perm:∀ l,(isortPl l).Perm l
 | []=>List.Perm.refl _
 | p::l=>(insPl_perm p _).trans ((isortPl_perm l).cons p)
theorem insPl_pairwise (p:Place):∀ l,l.Pairwise (fun a b=>gePl a b=true)→(insPl p l).Pairwise (fun a b=>gePl a b=true)
 | [],_=>by simp [insPl]
 | q::l,h=>by
   obtain ⟨h1,h2⟩:=List.pairwise_cons.1 h
   unfold insPl
   split
   · rename_i hlt
     refine List.pairwise_cons.2 ⟨fun a ha=> ?_,h⟩
     rcases List.mem_cons.1 ha with rfl|ha
     · rw [gePl_iff];unfold ltPl at *;omega
     · have:=h1 a ha
       rw [gePl_iff] at *
       unfold ltPl at *;omega
   · rename_i hlt
     refine List.pairwise_cons.2 ⟨fun a ha=> ?_,insPl_pairwise p l h2⟩
     rcases List.mem_cons.1 ((insPl_perm p l).mem_iff.1 ha) with rfl|ha
     · rw [gePl_iff];exact hlt
     · exact h1 a ha
theorem isortPl_pairwise:∀ l,(isortPl l).Pairwise (fun a b=>gePl a b=true)
 | []=>List.Pairwise.nil
 | p::l=>insPl_pairwise p _ (isortPl_pairwise l)
theorem sortPl_isort (l:List Place):sortPl l=isortPl l:=by
 refine List.Perm.eq_of_pairwise ?_ (sortPl_pairwise l) (isortPl_pairwise l) ((sortPl_perm l).trans (isortPl_perm l).symm)
 intro a b _ _ h1 h2
 rw [gePl_iff] at h1 h2
 exact totPl a b (ltF.2 h2) (ltF.2 h1)
theorem sortLx_one (x:List Place):sortLx [x] = [x]:=sortLx_eq (List.Perm.refl _) (List.pairwise_singleton _ _)
def pitL:List Trace:=[⟨1,0,1,1,1,2,0,0,0,0⟩,⟨2,0,1,1,2,3,0,0,0,0⟩,⟨3,0,2,1,3,0,100,120,0,0⟩,⟨4,1,2,2,1,0,90,95,0,0⟩,⟨5,2,3,1,1,0,0,0,5,0⟩,⟨6,2,3,2,1,0,0,0,3,0⟩]
def bondL:List Bond:=[⟨⟨1,1⟩,⟨2,1⟩,40⟩]
def topP:Place:=⟨1,1⟩
def otherP:Place:=⟨2,1⟩
theorem dug_ask1:askErr pitL 1 bondL=0:=by decide +kernel
theorem dug_ask2:askErr pitL 2 bondL=0:=by decide +kernel
theorem dug_ask0:askErr pitL 0 []=0:=by decide +kernel
theorem dug_places1:placesOf (counting pitL 1) bondL = [⟨1,1⟩,⟨1,2⟩,⟨1,3⟩,⟨2,1⟩]:=by unfold placesOf;rw [sortPl_isort];decide +kernel
theorem dug_places2:placesOf (counting pitL 2) bondL = [⟨1,1⟩,⟨1,2⟩,⟨1,3⟩,⟨2,1⟩]:=by unfold placesOf;rw [sortPl_isort];decide +kernel
theorem dug_places0:placesOf (counting pitL 0) [] = [⟨1,1⟩,⟨1,2⟩,⟨1,3⟩]:=by unfold placesOf;rw [sortPl_isort];decide +kernel
theorem dug_admits2:admitsOf (counting pitL 2) = [⟨⟨1,1⟩,5,5⟩,⟨⟨2,1⟩,3,6⟩]:=by unfold admitsOf;rw [sortPl_isort];decide +kernel
theorem dug_admits1:admitsOf (counting pitL 1) = []:=by unfold admitsOf;rw [sortPl_isort];decide +kernel
theorem dug_admits0:admitsOf (counting pitL 0) = []:=by unfold admitsOf;rw [sortPl_isort];decide +kernel
theorem dug_with0:withErr pitL 0 [] []=0:=by unfold withErr;rw [dug_ask0,dug_admits0];decide +kernel
theorem dug_with1:withErr pitL 1 bondL []=0:=by unfold withErr;rw [dug_ask1,dug_admits1];decide +kernel
def sys0:List Bound:=(linksL (counting pitL 0) [] []).map (boundOf (ptsM [⟨1,1⟩,⟨1,2⟩,⟨1,3⟩] 3))
def sys1:List Bound:=(linksL (counting pitL 1) bondL []).map (boundOf (ptsM [⟨1,1⟩,⟨1,2⟩,⟨1,3⟩,⟨2,1⟩] 4))
theorem dug_sys0:sysOf pitL 0 [] []=sys0:=by unfold sysOf ptsOf sys0;rw [dug_places0];rfl
theorem dug_sys1:sysOf pitL 1 bondL []=sys1:=by unfold sysOf ptsOf sys1;rw [dug_places1];rfl
theorem dug_pts0:ptsOf pitL 0 []=ptsM [⟨1,1⟩,⟨1,2⟩,⟨1,3⟩] 3:=by unfold ptsOf;rw [dug_places0];rfl
theorem dug_pts2:ptsOf pitL 2 bondL=ptsM [⟨1,1⟩,⟨1,2⟩,⟨1,3⟩,⟨2,1⟩] 4:=by unfold ptsOf;rw [dug_places2];rfl
theorem dug_bet1:betweenV pitL 0 [] [] z00 topP=(0,false,0):=by
 unfold betweenV endsErr
 rw [dug_with0,dug_pts0,dug_places0,dug_sys0]
 decide +kernel
theorem dug_bet2:betweenV pitL 0 [] [] topP z00=(-102,true,0):=by
 unfold betweenV endsErr
 rw [dug_with0,dug_pts0,dug_places0,dug_sys0]
 decide +kernel
theorem dug_dates:datesV pitL 1 bondL []=([],false,0):=by
 unfold datesV
 rw [dug_with1,dug_places1,dug_sys1]
 decide +kernel
theorem dug_conf:(conflictV pitL 1 bondL []).1.length=5∧(conflictV pitL 1 bondL []).2.1=true∧(conflictV pitL 1 bondL []).2.2=0:=by
 unfold conflictV
 rw [dug_with1,dug_places1,dug_sys1]
 decide +kernel
def en2 (mv:List Place):Bool:=solvedOk 5 ((linksL (counting pitL 2) bondL mv).map (boundOf (ptsM [⟨1,1⟩,⟨1,2⟩,⟨1,3⟩,⟨2,1⟩] 4)))
def en1 (mv:List Place):Bool:=solvedOk 5 ((linksL (counting pitL 1) bondL mv).map (boundOf (ptsM [⟨1,1⟩,⟨1,2⟩,⟨1,3⟩,⟨2,1⟩] 4)))
theorem dug_en2:enough (counting pitL 2) bondL=en2:=by funext mv;unfold enough sysB en2;rw [dug_places2];rfl
theorem dug_en1:enough (counting pitL 1) bondL=en1:=by funext mv;unfold enough sysB en1;rw [dug_places1];rfl
theorem dug_chp2:chpTo [⟨⟨1,1⟩,5,5⟩,⟨⟨2,1⟩,3,6⟩] en2 4=(3,[[⟨2,1⟩]]):=by decide +kernel
theorem dug_sets2:setsOf pitL 2 bondL=(3,[[⟨2,1⟩]]):=by
 unfold setsOf cheapestM
 rw [dug_admits2,dug_en2]
 show ((chpTo _ en2 4).1,sortLx (chpTo _ en2 4).2)=_
 rw [dug_chp2,sortLx_one]
theorem dug_chp1:chpTo [] en1 1=(0,[]):=by decide +kernel
theorem dug_sets1:setsOf pitL 1 bondL=(0,[]):=by
 unfold setsOf cheapestM
 rw [dug_admits1,dug_en1]
 show ((chpTo _ en1 1).1,sortLx (chpTo _ en1 1).2)=_
 rw [dug_chp1]
 show (0,sortLx [])=_
 unfold sortLx
 simp
theorem dug_cheap2:cheapV pitL 2 bondL=(3,[⟨2,1⟩],0):=by unfold cheapV;rw [dug_ask2,dug_sets2];rfl
theorem dug_cheap1:cheapV pitL 1 bondL=(0,[],81):=by unfold cheapV;rw [dug_ask1,dug_sets1];rfl
end Go.Proofs.YtejjplhknacoiaaGreatDoor
end
section
namespace Go.Proofs.YtejjplhknacoiaaGreatDoor
open Go.RowKit Go.Proofs Go.Shelf
theorem pit_any (w:World):Calls Tryz.prog 9 #[] w fun e w'=>e = .returned (.slice (some ⟨w.heap.size,0,none⟩) 6 6)∧Below w.heap.size w w'∧Rd encTrace 10 w' (some ⟨w.heap.size,0,none⟩) 6 6 pitL:=by
 have hrd:∀ cs:Array Value,cs.toList=pitL.flatMap encTrace→Rd encTrace 10 (w.alloc (.cells cs 23)) (some ⟨w.heap.size,0,none⟩) 6 6 pitL:=fun cs h=>Rd.single w cs 23 pitL 6 rfl (by omega) (fun _=>rfl) h
 have HRD:=Lib.hid hrd
 clear hrd
 go_enter Tryz.func9,Tryz.ntmps9
 go_wp2
 go_ret
 exact ⟨rfl,(Below.refl _ w).alloc (Nat.le_refl _) _,HRD.out _ rfl⟩
theorem bonded_any (w:World):Calls Tryz.prog 10 #[] w fun e w'=>e = .returned (.slice (some ⟨w.heap.size,0,none⟩) 1 1)∧Below w.heap.size w w'∧Rd encBond 5 w' (some ⟨w.heap.size,0,none⟩) 1 1 bondL:=by
 have hrd:∀ cs:Array Value,cs.toList=bondL.flatMap encBond→Rd encBond 5 (w.alloc (.cells cs 74)) (some ⟨w.heap.size,0,none⟩) 1 1 bondL:=fun cs h=>Rd.single w cs 74 bondL 1 rfl (by omega) (fun _=>rfl) h
 have HRD:=Lib.hid hrd
 clear hrd
 go_enter Tryz.func10,Tryz.ntmps10
 go_wp2
 go_ret
 exact ⟨rfl,(Below.refl _ w).alloc (Nat.le_refl _) _,HRD.out _ rfl⟩
def EarlAt (a b:Place) (v:Int):Prop:=∀ (A:Option Addr) (n c:Nat) (bA:Option Addr) (bn bc:Nat) (w:World),Rd encTrace 10 w A n c pitL→Rd encBond 5 w bA bn bc bondL→
 Calls Tryz.prog 17 #[.slice A n c,.int .i64 2,.slice bA bn bc,.agg #[.int .i64 a.pit,.int .i64 a.layer],.agg #[.int .i64 b.pit,.int .i64 b.layer]] w fun e w'=>e = .returned (.tuple #[.int .u8 v,.int .i64 0])∧Below w.heap.size w w'
theorem dug_of (hE1:EarlAt otherP topP 1) (hE2:EarlAt topP otherP 2) (w:World):Calls Tryz.prog 4 #[] w fun e w'=>e = .returned (.bool true)∧Below w.heap.size w w':=by
 have HE1:=Lib.hid hE1
 have HE2:=Lib.hid hE2
 have HPIT:=Lib.hid (pit_any w)
 clear hE1 hE2
 go_enter Tryz.func4,Tryz.ntmps4
 go_wp2_with (first
  | (go_at_call 9;(with_reducible refine HPIT.out.mono ?_);rintro e w1 ⟨rfl,hb1,hp1⟩
     have HBON:=Lib.hid (bonded_any w1)
     have HB1:=Lib.hid hb1
     have HP1:=Lib.hid hp1
     clear hb1 hp1)
  | (go_at_call 10;(with_reducible refine HBON.out.mono ?_);rintro e w2 ⟨rfl,hb2,hq2⟩
     obtain ⟨w3,hw3⟩:∃ w3,(w2.alloc (.cells #[.int .i64 1,.int .i64 1] 36)).alloc (.cells #[.int .i64 2,.int .i64 1] 36)=w3:=⟨_,rfl⟩
     have hb23:Below w2.heap.size w2 w3:=(by rw [←hw3];exact ((Below.refl _ w2).alloc (Nat.le_refl _) _).alloc (by simp) _)
     have hz23:w2.heap.size+1<w3.heap.size:=(by rw [←hw3];simp)
     have hx3:w3.heap[w2.heap.size]? = some (.cells #[.int .i64 1,.int .i64 1] 36 (0,0)):=(by rw [←hw3,Below.heap_alloc _ _ _ (by simp)];exact heap_alloc_new w2 _)
     have hy3:w3.heap[w2.heap.size+1]? = some (.cells #[.int .i64 2,.int .i64 1] 36 (0,0)):=(by
      rw [←hw3]
      have:=heap_alloc_new (w2.alloc (.cells #[.int .i64 1,.int .i64 1] 36)) (.cells #[.int .i64 2,.int .i64 1] 36)
      rw [World.size_alloc] at this;exact this)
     have HX3:=Lib.hid hx3
     have HY3:=Lib.hid hy3
     have HP3:=Lib.hid ((HP1.out.below hb2 (Nat.le_refl _)).below hb23 (Nat.le_refl _))
     have HQ3:=Lib.hid (hq2.below hb23 (Nat.le_refl _))
     have HB3:=Lib.hid ((HB1.out.trans (hb2.mono HB1.out.size)).trans (hb23.mono (by have:=HB1.out.size;have:=hb2.size;omega)))
     have hplc:=Places_any _ _ _ pitL 1 _ _ _ bondL w3 HP3.out HQ3.out
     rw [dug_ask1,show onOk 0 (placesOf (counting pitL 1) bondL)=_ from rfl,dug_places1] at hplc
     have HPLC:=Lib.hid hplc
     clear hplc hx3 hy3 hb23 hb2 hq2)
  | (go_at_call 11;(with_reducible refine HPLC.out.mono ?_);rintro e w4 ⟨A4,n4,c4,rfl,hb4,ho4⟩
     have hn4:=ho4.len
     obtain rfl:4=n4:=hn4
     have hmv:=Movable_any _ _ _ pitL 2 _ _ _ bondL w4 (HP3.out.below hb4 (Nat.le_refl _)) (HQ3.out.below hb4 (Nat.le_refl _))
     rw [dug_ask2,show onOk 0 (admitsOf (counting pitL 2))=_ from rfl,dug_admits2] at hmv
     have HMV:=Lib.hid hmv
     have HB4:=Lib.hid hb4
     clear hmv hb4 ho4)
  | (go_at_call 12;(with_reducible refine HMV.out.mono ?_);rintro e w5 ⟨A5,n5,c5,rfl,hb5,ho5⟩
     have hn5:=ho5.len
     obtain rfl:2=n5:=hn5
     have hb35:=HB4.out.trans (hb5.mono HB4.out.size)
     have hbe:=Between_any _ _ _ pitL 0 none 0 0 [] none 0 0 [] z00 topP w5 (HP3.out.below hb35 (Nat.le_refl _)) (Rd.none_ none 0 (by omega)) (Rd.none_ none 0 (by omega))
     rw [dug_bet1] at hbe
     simp only [z00,topP] at hbe
     have HBE1:=Lib.hid hbe
     have HO5:=Lib.hid ho5
     have HB35:=Lib.hid hb35
     have hx6:=(hb35.block _ (by omega)).trans HX3.out
     have x0:w5.cell? ⟨w2.heap.size,0,none⟩=some (.int .i64 1):=(by simp [World.cell?,hx6])
     have x1:w5.cell? ⟨w2.heap.size,1,none⟩=some (.int .i64 1):=(by simp [World.cell?,hx6])
     clear hbe ho5 hb5 hb35 hx6)
  | (go_at_call 13;(with_reducible refine HBE1.out.mono ?_);rintro e w6 ⟨rfl,hb6⟩
     have hb36:=HB35.out.trans (hb6.mono HB35.out.size)
     have hbe:=Between_any _ _ _ pitL 0 none 0 0 [] none 0 0 [] topP z00 w6 (HP3.out.below hb36 (Nat.le_refl _)) (Rd.none_ none 0 (by omega)) (Rd.none_ none 0 (by omega))
     rw [dug_bet2] at hbe
     simp only [z00,topP] at hbe
     have HBE2:=Lib.hid hbe
     have HB56:=Lib.hid hb6
     have HB36:=Lib.hid hb36
     have hx6:=(hb36.block _ (by omega)).trans HX3.out
     clear x0 x1
     have x0:w6.cell? ⟨w2.heap.size,0,none⟩=some (.int .i64 1):=(by simp [World.cell?,hx6])
     have x1:w6.cell? ⟨w2.heap.size,1,none⟩=some (.int .i64 1):=(by simp [World.cell?,hx6])
     clear hbe hb6 hb36 hx6)
  | (go_at_call 13;(with_reducible refine HBE2.out.mono ?_);rintro e w7 ⟨rfl,hb7⟩
     have hb37:=HB36.out.trans (hb7.mono HB36.out.size)
     have hda:=Dates_any _ _ _ pitL 1 _ _ _ bondL none 0 0 [] w7 (HP3.out.below hb37 (Nat.le_refl _)) (HQ3.out.below hb37 (Nat.le_refl _)) (Rd.none_ none 0 (by omega))
     rw [dug_dates] at hda
     have HDA:=Lib.hid hda
     have HB57:=Lib.hid (HB56.out.trans (hb7.mono HB56.out.size))
     have HB37:=Lib.hid hb37
     clear hda hb7 hb37 x0 x1)
  | (go_at_call 14;(with_reducible refine HDA.out.mono ?_);rintro e w8 ⟨A8,c8,rfl,hb8,_⟩
     have hb38:=HB37.out.trans (hb8.mono HB37.out.size)
     have hcf:=Conflict_any _ _ _ pitL 1 _ _ _ bondL none 0 0 [] w8 (HP3.out.below hb38 (Nat.le_refl _)) (HQ3.out.below hb38 (Nat.le_refl _)) (Rd.none_ none 0 (by omega))
     rw [dug_conf.1,dug_conf.2.1,dug_conf.2.2] at hcf
     have HCF:=Lib.hid hcf
     have HB58:=Lib.hid (HB57.out.trans (hb8.mono HB57.out.size))
     have HB38:=Lib.hid hb38
     clear hcf hb8 hb38)
  | (go_at_call 15;(with_reducible refine HCF.out.mono ?_);rintro e w9 ⟨A9,c9,rfl,hb9,_⟩
     have hb39:=HB38.out.trans (hb9.mono HB38.out.size)
     have hch:=Cheapest_any _ _ _ pitL 2 _ _ _ bondL w9 (HP3.out.below hb39 (Nat.le_refl _)) (HQ3.out.below hb39 (Nat.le_refl _))
     rw [dug_cheap2] at hch
     have HCH2:=Lib.hid hch
     have HB59:=Lib.hid (HB58.out.trans (hb9.mono HB58.out.size))
     have HB39:=Lib.hid hb39
     clear hch hb9 hb39)
  | (go_at_call 16;(with_reducible refine HCH2.out.mono ?_);rintro e w10 ⟨A10,c10,rfl,hb10,ho10⟩
     have hb310:=HB39.out.trans (hb10.mono HB39.out.size)
     have hch:=Cheapest_any _ _ _ pitL 1 _ _ _ bondL w10 (HP3.out.below hb310 (Nat.le_refl _)) (HQ3.out.below hb310 (Nat.le_refl _))
     rw [dug_cheap1] at hch
     have HCH1:=Lib.hid hch
     have HO10:=Lib.hid ho10
     have HB510:=Lib.hid (HB59.out.trans (hb10.mono HB59.out.size))
     have HB310:=Lib.hid hb310
     clear hch hb10 hb310 ho10)
  | (go_at_call 16;(with_reducible refine HCH1.out.mono ?_);rintro e w11 ⟨A11,c11,rfl,hb11,_⟩
     have hb311:=HB310.out.trans (hb11.mono HB310.out.size)
     have hea:=HE1.out _ _ _ _ _ _ w11 (HP3.out.below hb311 (Nat.le_refl _)) (HQ3.out.below hb311 (Nat.le_refl _))
     simp only [topP,otherP] at hea
     have HEA:=Lib.hid hea
     have HB511:=Lib.hid (HB510.out.trans (hb11.mono HB510.out.size))
     have HB1011:=Lib.hid hb11
     have HB311:=Lib.hid hb311
     have hx6:=(hb311.block _ (by omega)).trans HX3.out
     have hy6:=(hb311.block _ (by omega)).trans HY3.out
     have x0:w11.cell? ⟨w2.heap.size,0,none⟩=some (.int .i64 1):=(by simp [World.cell?,hx6])
     have x1:w11.cell? ⟨w2.heap.size,1,none⟩=some (.int .i64 1):=(by simp [World.cell?,hx6])
     have y0:w11.cell? ⟨w2.heap.size+1,0,none⟩=some (.int .i64 2):=(by simp [World.cell?,hy6])
     have y1:w11.cell? ⟨w2.heap.size+1,1,none⟩=some (.int .i64 1):=(by simp [World.cell?,hy6])
     clear hea hb11 hb311 hx6 hy6)
  | (go_at_call 17;(with_reducible refine HEA.out.mono ?_);rintro e w12 ⟨rfl,hb12⟩
     have hb312:=HB311.out.trans (hb12.mono HB311.out.size)
     have hea:=HE2.out _ _ _ _ _ _ w12 (HP3.out.below hb312 (Nat.le_refl _)) (HQ3.out.below hb312 (Nat.le_refl _))
     simp only [topP,otherP] at hea
     have HEB:=Lib.hid hea
     have HB512:=Lib.hid (HB511.out.trans (hb12.mono HB511.out.size))
     have HB1012:=Lib.hid (HB1011.out.trans (hb12.mono HB1011.out.size))
     have HB312:=Lib.hid hb312
     have hx6:=(hb312.block _ (by omega)).trans HX3.out
     have hy6:=(hb312.block _ (by omega)).trans HY3.out
     clear x0 x1 y0 y1
     have x0:w12.cell? ⟨w2.heap.size,0,none⟩=some (.int .i64 1):=(by simp [World.cell?,hx6])
     have x1:w12.cell? ⟨w2.heap.size,1,none⟩=some (.int .i64 1):=(by simp [World.cell?,hx6])
     have y0:w12.cell? ⟨w2.heap.size+1,0,none⟩=some (.int .i64 2):=(by simp [World.cell?,hy6])
     have y1:w12.cell? ⟨w2.heap.size+1,1,none⟩=some (.int .i64 1):=(by simp [World.cell?,hy6])
     clear hea hb12 hb312 hx6 hy6)
  | (go_at_call 17;(with_reducible refine HEB.out.mono ?_);rintro e w13 ⟨rfl,hb13⟩
     have HB313:=Lib.hid (HB312.out.trans (hb13.mono HB312.out.size))
     have HB513:=Lib.hid (HB512.out.trans (hb13.mono HB512.out.size))
     have HB1013:=Lib.hid (HB1012.out.trans (hb13.mono HB1012.out.size))
     have hx6:=(HB313.out.block _ (by omega)).trans HX3.out
     have hy6:=(HB313.out.block _ (by omega)).trans HY3.out
     clear x0 x1 y0 y1
     have x0:w13.cell? ⟨w2.heap.size,0,none⟩=some (.int .i64 1):=(by simp [World.cell?,hx6])
     have x1:w13.cell? ⟨w2.heap.size,1,none⟩=some (.int .i64 1):=(by simp [World.cell?,hx6])
     have y0:w13.cell? ⟨w2.heap.size+1,0,none⟩=some (.int .i64 2):=(by simp [World.cell?,hy6])
     have y1:w13.cell? ⟨w2.heap.size+1,1,none⟩=some (.int .i64 1):=(by simp [World.cell?,hy6])
     clear hb13 hx6 hy6))
 obtain ⟨g5,rfl⟩:∃ g5,A5=some ⟨g5,0,none⟩:=(by
  rcases HO5.out.form with ⟨_,e,_⟩|⟨g5,e,_⟩
  · omega
  · exact ⟨g5,e⟩)
 obtain ⟨g10,rfl⟩:∃ g10,A10=some ⟨g10,0,none⟩:=(by
  rcases HO10.out.form with ⟨_,e,_⟩|⟨g10,e,_⟩
  · simp at e
  · exact ⟨g10,e⟩)
 have ad:∀ (j:Nat) (u:Value),(encAdmit ⟨⟨1,1⟩,5,5⟩)[j]? = some u→w13.cell? ⟨g5,0 * 4+j,none⟩=some u:=fun j u hu=>(HB513.out.cell (p:=⟨g5,0 * 4+j,none⟩) HO5.out.lt.2).trans (HO5.out.cells (fun _=>rfl) (i:=0) rfl j u hu)
 have pd:∀ (j:Nat) (u:Value),(encPlace ⟨2,1⟩)[j]? = some u→w13.cell? ⟨g10,0 * 2+j,none⟩=some u:=fun j u hu=>(HB1013.out.cell (p:=⟨g10,0 * 2+j,none⟩) HO10.out.lt.2).trans (HO10.out.cells (fun _=>rfl) (i:=0) rfl j u hu)
 have d0:w13.cell? ⟨g5,0,none⟩=some (.int .i64 1):=ad 0 _ rfl
 have d1:w13.cell? ⟨g5,1,none⟩=some (.int .i64 1):=ad 1 _ rfl
 have d2:w13.cell? ⟨g5,2,none⟩=some (.int .i64 5):=ad 2 _ rfl
 have d3:w13.cell? ⟨g5,3,none⟩=some (.int .i64 5):=ad 3 _ rfl
 have k0:w13.cell? ⟨g10,0,none⟩=some (.int .i64 2):=pd 0 _ rfl
 have k1:w13.cell? ⟨g10,1,none⟩=some (.int .i64 1):=pd 1 _ rfl
 have qa:eqAdmit ⟨⟨1,1⟩,5,5⟩ ⟨⟨1,1⟩,5,5⟩=true:=by decide
 have qp:eqPlace ⟨2,1⟩ ⟨2,1⟩=true:=by decide
 clear ad pd
 go_quiet (fail)
 go_upto_region 18 with (fail)
 go_quiet (fail)
 go_wp2
 go_ret
 exact ⟨rfl,below_drewN' (below_drewN' (HB3.out.trans (HB313.out.mono HB3.out.size)) _) _⟩
theorem wpL_field120m {ops:Array Oper} {rest:List Oper} {o:Oper} {a:Act} {w:World} {Q:Exit→Act→World→Prop} {x:Operand} (ho:o.op = .field 87 x 2) (hgd:o.guard=none) {v0 v1 v2 v3:Value} (hx:a.eval x = .agg #[v0,v1,v2,v3])
 (h:wpList Tryz.prog ops Q rest (a.put o.dst v3) w):wpList Tryz.prog ops Q (o::rest) a w:=by
 refine wpList_plain hgd fun _ hK=> ?_
 unfold Oper.wp execOp
 simp only [ho,hx]
 go_simp
 exact hK _ _ h
theorem earl1_any (pts:Int) (A:Option Addr) (n c:Nat) (w:World):
 Calls Tryz.prog 39 #[.agg #[.int .i64 pts,.slice A n c]] w fun e w'=>e = .returned (.func (.func 40) #[] #[.pointer (some ⟨w.heap.size,0,none⟩)])∧w.alloc (.cells #[.int .i64 pts,.slice A n c] 84)=w':=by
 go_enter Tryz.func39,Tryz.ntmps39
 go_wp2
 go_ret
 exact ⟨rfl,rfl⟩
theorem earl2_any (pts:Int) (A:Option Addr) (n c:Nat) (bs:List Bound) (x y:Int) (bx:Nat) (w:World) (h0:w.cell? ⟨bx,0,none⟩=some (.int .i64 pts)) (h1:w.cell? ⟨bx,1,none⟩=some (.slice A n c)) (hl:Rd encBound 4 w A n c bs) (hk:checkSys pts bs=0) (x1:0≤x) (x2:x<pts) (y1:0≤y) (y2:y<pts):
 Calls Tryz.prog 40 #[.int .i64 x,.int .i64 y,.pointer (some ⟨bx,0,none⟩)] w fun e w'=>e = .returned (.tuple #[.int .i64 (greatestV pts bs x y).1,.bool (greatestV pts bs x y).2.1,.int .i64 (greatestV pts bs x y).2.2])∧Below w.heap.size w w':=by
 have HG:=Lib.hid (Greatest_any pts A n c bs x y w hl hk x1 x2 y1 y2)
 clear hl hk
 go_enter Tryz.func40,Tryz.ntmps40
 go_wp2_with (go_at_call 32;(with_reducible refine HG.out.mono ?_);rintro e w2 ⟨rfl,hb2⟩)
 go_ret3
 exact ⟨rfl,hb2⟩
theorem four (s i:Bool) (v:Int):s=false∨(s=true∧i=false)∨(s=true∧i=true∧Hid (decide (v<0)=true)∧v<0)∨(s=true∧i=true∧Hid (decide (v<0)=false)∧0≤v):=by
 cases s
 · exact .inl rfl
 · cases i
   · exact .inr (.inl ⟨rfl,rfl⟩)
   · by_cases h:v<0
     · exact .inr (.inr (.inl ⟨rfl,rfl,Lib.hid (decide_eq_true h),h⟩))
     · exact .inr (.inr (.inr ⟨rfl,rfl,Lib.hid (decide_eq_false h),by omega⟩))
theorem four2 (s i:Bool) (v:Int):s=false∨(s=true∧i=false)∨(s=true∧i=true∧Hid (decide (v≤0)=true)∧v≤0)∨(s=true∧i=true∧Hid (decide (v≤0)=false)∧0<v):=by
 cases s
 · exact .inl rfl
 · cases i
   · exact .inr (.inl ⟨rfl,rfl⟩)
   · by_cases h:v≤0
     · exact .inr (.inr (.inl ⟨rfl,rfl,Lib.hid (decide_eq_true h),h⟩))
     · exact .inr (.inr (.inr ⟨rfl,rfl,Lib.hid (decide_eq_false h),by omega⟩))
def stepE (pts:Int) (S:List Place→List Bound) (i k:Int) (st:Bool×Bool) (mv:List Place):Bool×Bool:=
 (st.1&&(greatestV pts (S mv) k i).2.1&&decide ((greatestV pts (S mv) k i).1<0),st.2&&(greatestV pts (S mv) i k).2.1&&decide ((greatestV pts (S mv) i k).1≤0))
def earlS (pts:Int) (S:List Place→List Bound) (i k:Int) (sets:List (List Place)):Bool×Bool:=sets.foldl (stepE pts S i k) (true,true)
def earlR (r:Bool×Bool):Int:=if r.1 then 1 else if r.2 then 2 else 3
def earlierV (l:List Trace) (known:Int) (bs:List Bond) (a b:Place):Int×Int:=
 if askErr l known bs≠0 then (0,askErr l known bs) else
 if ((getM (ptsOf l known bs) a).isSome&&(getM (ptsOf l known bs) b).isSome)=false then (0,5) else
 if (setsOf l known bs).2 = [] then (0,81) else
 (earlR (earlS ((placesOf (counting l known) bs).length+1) (sysB (counting l known) bs) ((getM (ptsOf l known bs) a).getD 0) ((getM (ptsOf l known bs) b).getD 0) (setsOf l known bs).2),0)
theorem earlS_snoc (pts:Int) (S:List Place→List Bound) (i k:Int) {sets:List (List Place)} {j:Nat} {mv:List Place} (h:sets[j]? = some mv):earlS pts S i k (sets.take (j+1))=stepE pts S i k (earlS pts S i k (sets.take j)) mv:=by
 unfold earlS
 rw [List.take_add_one,h,List.foldl_append];rfl
theorem Earlier_any (A:Option Addr) (n c:Nat) (l:List Trace) (known:Int) (bA:Option Addr) (bn bc:Nat) (bs:List Bond) (a b:Place) (w:World) (hl:Rd encTrace 10 w A n c l) (hb:Rd encBond 5 w bA bn bc bs):
 Calls Tryz.prog 17 #[.slice A n c,.int .i64 known,.slice bA bn bc,.agg #[.int .i64 a.pit,.int .i64 a.layer],.agg #[.int .i64 b.pit,.int .i64 b.layer]] w fun e w'=>e = .returned (.tuple #[.int .u8 (earlierV l known bs a b).1,.int .i64 (earlierV l known bs a b).2])∧Below w.heap.size w w':=by
 obtain ⟨w1,hw1⟩:∃ w1,(w.alloc (.cells #[.int .i64 a.pit,.int .i64 a.layer] 36)).alloc (.cells #[.int .i64 b.pit,.int .i64 b.layer] 36)=w1:=⟨_,rfl⟩
 have hb1:Below w.heap.size w w1:=(by rw [←hw1];exact ((Below.refl _ w).alloc (Nat.le_refl _) _).alloc (by simp) _)
 have hz1:w1.heap.size=w.heap.size+2:=(by rw [←hw1];simp)
 have hra:w1.heap[w.heap.size]? = some (.cells #[.int .i64 a.pit,.int .i64 a.layer] 36 (0,0)):=(by rw [←hw1,Below.heap_alloc _ _ _ (by simp)];exact heap_alloc_new w _)
 have hrb:w1.heap[w.heap.size+1]? = some (.cells #[.int .i64 b.pit,.int .i64 b.layer] 36 (0,0)):=(by
  rw [←hw1]
  have:=heap_alloc_new (w.alloc (.cells #[.int .i64 a.pit,.int .i64 a.layer] 36)) (.cells #[.int .i64 b.pit,.int .i64 b.layer] 36)
  rw [World.size_alloc] at this;exact this)
 have hask:=asked_any A n c l known bA bn bc bs w1 (hl.below hb1 (Nat.le_refl _)) (hb.below hb1 (Nat.le_refl _))
 have HASK:=Lib.hid hask
 have HB:=Lib.hid (hb.below hb1 (Nat.le_refl _))
 have HRA:=Lib.hid hra
 have HRB:=Lib.hid hrb
 have hq1:w.heap.size<w1.heap.size:=(by omega)
 have hq2:w.heap.size+1<w1.heap.size:=(by omega)
 clear hask hl hb hra hrb hz1
 by_cases he:askErr l known bs=0
 · have hf:=ordFacts he
   have HF:=Lib.hid hf
   rw [he] at HASK
   have hv:earlierV l known bs a b=if ((getM (ptsOf l known bs) a).isSome&&(getM (ptsOf l known bs) b).isSome)=false then (0,5) else
    if (setsOf l known bs).2 = [] then (0,81) else
    (earlR (earlS ((placesOf (counting l known) bs).length+1) (sysB (counting l known) bs) ((getM (ptsOf l known bs) a).getD 0) ((getM (ptsOf l known bs) b).getD 0) (setsOf l known bs).2),0):=by unfold earlierV;rw [if_neg (by simpa using he)]
   rw [hv]
   have hcon:=fun B o w2 h1 h2=>cheapest_any B o bA bn bc bs (counting l known) (admitsOf (counting l known)) w2 h1 h2 hf.o hf.t hf.a8 hf.cost hf.nd
   have hse:cheapestM (admitsOf (counting l known)) (enough (counting l known) bs)=setsOf l known bs:=rfl
   rw [hse] at hcon
   obtain ⟨⟨z,sets⟩,hS⟩:∃ q,setsOf l known bs=q:=⟨_,rfl⟩
   have hsl:∀ s∈sets,s.length≤8:=(fun s hs=>by
    have h1:setsOf l known bs=((chpTo (admitsOf (counting l known)) (enough (counting l known) bs) (2 ^ (admitsOf (counting l known)).length)).1,sortLx (chpTo (admitsOf (counting l known)) (enough (counting l known) bs) (2 ^ (admitsOf (counting l known)).length)).2):=rfl
    rw [hS] at h1
    have h2:sets=sortLx (chpTo (admitsOf (counting l known)) (enough (counting l known) bs) (2 ^ (admitsOf (counting l known)).length)).2:=(Prod.mk.inj h1).2
    rw [h2] at hs
    obtain ⟨q,_,e,_⟩:=(chpInv _ _ _).from_ s ((sortLx_perm _).mem_iff.1 hs)
    have:=setTo_len (admitsOf (counting l known)) q (admitsOf (counting l known)).length
    have:=hf.a8
    rw [e];omega)
   have hslen:sets.length≤256:=by
    have h1:setsOf l known bs=((chpTo (admitsOf (counting l known)) (enough (counting l known) bs) (2 ^ (admitsOf (counting l known)).length)).1,sortLx (chpTo (admitsOf (counting l known)) (enough (counting l known) bs) (2 ^ (admitsOf (counting l known)).length)).2):=rfl
    rw [hS] at h1
    have h2:sets=sortLx (chpTo (admitsOf (counting l known)) (enough (counting l known) bs) (2 ^ (admitsOf (counting l known)).length)).2:=(Prod.mk.inj h1).2
    have h3:=chpTo_len (admitsOf (counting l known)) (enough (counting l known) bs) (2 ^ (admitsOf (counting l known)).length)
    have h4:2 ^ (admitsOf (counting l known)).length≤256:=Nat.pow_le_pow_right (n:=2) (by omega) hf.a8
    rw [h2,(sortLx_perm _).length_eq];omega
   rw [hS] at hcon ⊢
   have HCON:=Lib.hid hcon
   have HSL:=Lib.hid hsl
   clear hcon hse he hS hv hsl
   obtain ⟨m,hmm⟩:∃ m,ptsOf l known bs=m:=⟨_,rfl⟩
   have hmp:ptsM (placesOf (counting l known) bs) (placesOf (counting l known) bs).length=m:=hmm
   rw [hmm]
   have HM:=Lib.hid hmp
   have key:∀ (k:Place) (W:World) (mb:Nat),MapP intE W mb m→(Instr.lookup 85 (.map (some mb)) (.agg #[.int .i64 k.pit,.int .i64 k.layer]) true).run Tryz.prog W = .ok (.tuple #[.int .i64 ((getM m k).getD 0),.bool (getM m k).isSome]) W:=fun k W mb hm=>by
    have h1:=run_lookupPl Tryz.underlying85 (Tryz.zeroValue3 W) hm k true
    simp only [keyV,getD_intE,if_true] at h1
    exact h1
   have HK:=Lib.hid key
   clear key hmm hmp hf
   obtain ⟨x,hx⟩:∃ x,(getM m a).getD 0=x:=⟨_,rfl⟩
   obtain ⟨y,hy⟩:∃ y,(getM m b).getD 0=y:=⟨_,rfl⟩
   obtain ⟨sa,hsa⟩:∃ sa,(getM m a).isSome=sa:=⟨_,rfl⟩
   obtain ⟨sb,hsb⟩:∃ sb,(getM m b).isSome=sb:=⟨_,rfl⟩
   rw [hsa,hsb,hx,hy]
   have HX:=Lib.hid hx
   have HY:=Lib.hid hy
   have HSA:=Lib.hid hsa
   have HSB:=Lib.hid hsb
   clear hx hy hsa hsb
   simp only
   by_cases hss:(sa&&sb)=false
   · rw [if_pos hss]
     rcases (by cases sa<;>cases sb<;>simp at hss ⊢ : (sa=false)∨(sa=true∧sb=false)) with rfl|⟨rfl,rfl⟩
     all_goals
      go_enter Tryz.func17,Tryz.ntmps17
      go_wp2_with (first
       | (refine wpL_field120m rfl rfl rfl ?_)
       | (go_at_call 30;(with_reducible refine HASK.out.mono ?_);rintro e w2 ⟨p,rfl,hb2,hp⟩
          obtain ⟨o,rfl,hOr⟩:=hp rfl
          obtain ⟨ho,At,ct,Ap,cp,Aa,ca,hob,t1,t2,t3⟩:=id hOr
          have hol:=(Array.getElem?_eq_some_iff.1 hob).1
          have hyr:=years_any o At (counting l known).length ct bA bn bc Ap (placesOf (counting l known) bs).length cp none 0 0 (counting l known) bs (placesOf (counting l known) bs) [] w2 (by simp [World.cell?,hob]) (by simp [World.cell?,hob]) (by simp [World.cell?,hob]) (t1.rd (fun _=>rfl) (by have:=HF.out.o.tn;omega)) (HB.out.below hb2 (Nat.le_refl _)) (t2.rd (fun _=>rfl) (by have:=HF.out.o.pn;omega)) (Rd.none_ none 0 (by omega)) HF.out.t (by have:=HF.out.o.tn;omega) (by have:=HF.out.o.bn;have:=HB.out.len;omega)
          rw [HM.out] at hyr
          have HYR:=Lib.hid hyr
          have HB2:=Lib.hid hb2
          have HOR:=Lib.hid hOr
          have HOB:=Lib.hid hob
          have hz2:=hb2.size
          clear hyr hb2 hOr hob t1 t2 t3 hp)
       | (go_at_call 38;(with_reducible refine HYR.out.mono ?_);rintro e w3 ⟨Ab,cb,Al,cl,mb,rfl,hb3,_,_,y3,_⟩
          have hl1:=HK.out a _ mb y3
          have hl2:=HK.out b _ mb y3
          rw [HX.out,HSA.out] at hl1
          rw [HY.out,HSB.out] at hl2
          have hb13:=HB2.out.trans (hb3.mono hz2)
          have hra3:=(hb13.block _ hq1).trans HRA.out
          have hrb3:=(hb13.block _ hq2).trans HRB.out
          have a0:w3.cell? ⟨w.heap.size,0,none⟩=some (.int .i64 a.pit):=(by simp [World.cell?,hra3])
          have a1:w3.cell? ⟨w.heap.size,1,none⟩=some (.int .i64 a.layer):=(by simp [World.cell?,hra3])
          have b0:w3.cell? ⟨w.heap.size+1,0,none⟩=some (.int .i64 b.pit):=(by simp [World.cell?,hrb3])
          have b1:w3.cell? ⟨w.heap.size+1,1,none⟩=some (.int .i64 b.layer):=(by simp [World.cell?,hrb3])
          have HC:=Lib.hid (HCON.out _ o w3 (HOR.out.below hb3 (Nat.le_refl _)) (HB.out.below hb13 (Nat.le_refl _)))
          have HB13:=Lib.hid hb13
          have HB3:=Lib.hid hb3
          clear y3 hb13 hra3 hrb3 hb3)
       | (go_at_call 37;(with_reducible refine HC.out.mono ?_);rintro e w4 ⟨A4,c4,rfl,hb4,hS4⟩
          have HB4:=Lib.hid hb4
          have HS4:=Lib.hid hS4
          have HB14:=Lib.hid (HB13.out.trans (hb4.mono HB13.out.size))
          clear hb4 hS4 a0 a1 b0 b1 hl1 hl2))
      go_ret2
      exact ⟨rfl,hb1.trans (HB13.out.mono (by omega))⟩
   · rw [if_neg hss]
     have hsa:sa=true:=by cases sa<;>simp_all
     have hsb:sb=true:=by cases sb<;>simp_all
     subst hsa
     subst hsb
     clear hss
     cases sets with
     | nil=>
       rw [if_pos rfl]
       go_enter Tryz.func17,Tryz.ntmps17
       go_wp2_with (first
        | (refine wpL_field120m rfl rfl rfl ?_)
        | (go_at_call 30;(with_reducible refine HASK.out.mono ?_);rintro e w2 ⟨p,rfl,hb2,hp⟩
           obtain ⟨o,rfl,hOr⟩:=hp rfl
           obtain ⟨ho,At,ct,Ap,cp,Aa,ca,hob,t1,t2,t3⟩:=id hOr
           have hol:=(Array.getElem?_eq_some_iff.1 hob).1
           have hyr:=years_any o At (counting l known).length ct bA bn bc Ap (placesOf (counting l known) bs).length cp none 0 0 (counting l known) bs (placesOf (counting l known) bs) [] w2 (by simp [World.cell?,hob]) (by simp [World.cell?,hob]) (by simp [World.cell?,hob]) (t1.rd (fun _=>rfl) (by have:=HF.out.o.tn;omega)) (HB.out.below hb2 (Nat.le_refl _)) (t2.rd (fun _=>rfl) (by have:=HF.out.o.pn;omega)) (Rd.none_ none 0 (by omega)) HF.out.t (by have:=HF.out.o.tn;omega) (by have:=HF.out.o.bn;have:=HB.out.len;omega)
           rw [HM.out] at hyr
           have HYR:=Lib.hid hyr
           have HB2:=Lib.hid hb2
           have HOR:=Lib.hid hOr
           have HOB:=Lib.hid hob
           have hz2:=hb2.size
           clear hyr hb2 hOr hob t1 t2 t3 hp)
        | (go_at_call 38;(with_reducible refine HYR.out.mono ?_);rintro e w3 ⟨Ab,cb,Al,cl,mb,rfl,hb3,_,_,y3,_⟩
           have hl1:=HK.out a _ mb y3
           have hl2:=HK.out b _ mb y3
           rw [HX.out,HSA.out] at hl1
           rw [HY.out,HSB.out] at hl2
           have hb13:=HB2.out.trans (hb3.mono hz2)
           have hra3:=(hb13.block _ hq1).trans HRA.out
           have hrb3:=(hb13.block _ hq2).trans HRB.out
           have a0:w3.cell? ⟨w.heap.size,0,none⟩=some (.int .i64 a.pit):=(by simp [World.cell?,hra3])
           have a1:w3.cell? ⟨w.heap.size,1,none⟩=some (.int .i64 a.layer):=(by simp [World.cell?,hra3])
           have b0:w3.cell? ⟨w.heap.size+1,0,none⟩=some (.int .i64 b.pit):=(by simp [World.cell?,hrb3])
           have b1:w3.cell? ⟨w.heap.size+1,1,none⟩=some (.int .i64 b.layer):=(by simp [World.cell?,hrb3])
           have HC:=Lib.hid (HCON.out _ o w3 (HOR.out.below hb3 (Nat.le_refl _)) (HB.out.below hb13 (Nat.le_refl _)))
           have HB13:=Lib.hid hb13
           have HB3:=Lib.hid hb3
           clear y3 hb13 hra3 hrb3 hb3)
        | (go_at_call 37;(with_reducible refine HC.out.mono ?_);rintro e w4 ⟨A4,c4,rfl,hb4,hS4⟩
           have HB4:=Lib.hid hb4
           have HS4:=Lib.hid hS4
           have HB14:=Lib.hid (HB13.out.trans (hb4.mono HB13.out.size))
           clear hb4 hS4 a0 a1 b0 b1 hl1 hl2))
       go_ret2
       exact ⟨rfl,hb1.trans (HB14.out.mono (by omega))⟩
     | cons s0 rest=>
       rw [if_neg (by simp)]
       have hgx:getM (ptsM (placesOf (counting l known) bs) (placesOf (counting l known) bs).length) a=some x:=by rw [HM.out];exact some_of HX.out HSA.out
       have hgy:getM (ptsM (placesOf (counting l known) bs) (placesOf (counting l known) bs).length) b=some y:=by rw [HM.out];exact some_of HY.out HSB.out
       have hrx:=ptsM_range _ hgx
       have hry:=ptsM_range _ hgy
       have hlen:0<(s0::rest).length:=by simp
       obtain ⟨N,hN⟩:∃ N,(s0::rest).length=N:=⟨_,rfl⟩
       obtain ⟨SS,hSS⟩:∃ SS,s0::rest=SS:=⟨_,rfl⟩
       rw [hN] at hlen hslen
       have hN0:((N:Int)==0)=false:=by simp;omega
       rw [hSS] at HCON HSL hN ⊢
       rw [hN] at HCON
       have HN:=Lib.hid hN
       clear hSS hN hgx hgy
       go_enter Tryz.func17,Tryz.ntmps17
       go_wp2_with (first
        | (refine wpL_field120m rfl rfl rfl ?_)
        | (go_at_call 30;(with_reducible refine HASK.out.mono ?_);rintro e w2 ⟨p,rfl,hb2,hp⟩
           obtain ⟨o,rfl,hOr⟩:=hp rfl
           obtain ⟨ho,At,ct,Ap,cp,Aa,ca,hob,t1,t2,t3⟩:=id hOr
           have hol:=(Array.getElem?_eq_some_iff.1 hob).1
           have hyr:=years_any o At (counting l known).length ct bA bn bc Ap (placesOf (counting l known) bs).length cp none 0 0 (counting l known) bs (placesOf (counting l known) bs) [] w2 (by simp [World.cell?,hob]) (by simp [World.cell?,hob]) (by simp [World.cell?,hob]) (t1.rd (fun _=>rfl) (by have:=HF.out.o.tn;omega)) (HB.out.below hb2 (Nat.le_refl _)) (t2.rd (fun _=>rfl) (by have:=HF.out.o.pn;omega)) (Rd.none_ none 0 (by omega)) HF.out.t (by have:=HF.out.o.tn;omega) (by have:=HF.out.o.bn;have:=HB.out.len;omega)
           rw [HM.out] at hyr
           have HYR:=Lib.hid hyr
           have HB2:=Lib.hid hb2
           have HOR:=Lib.hid hOr
           have HOB:=Lib.hid hob
           have hz2:=hb2.size
           clear hyr hb2 hOr hob t1 t2 t3 hp)
        | (go_at_call 38;(with_reducible refine HYR.out.mono ?_);rintro e w3 ⟨Ab,cb,Al,cl,mb,rfl,hb3,_,_,y3,_⟩
           have hl1:=HK.out a _ mb y3
           have hl2:=HK.out b _ mb y3
           rw [HX.out,HSA.out] at hl1
           rw [HY.out,HSB.out] at hl2
           have hb13:=HB2.out.trans (hb3.mono hz2)
           have hra3:=(hb13.block _ hq1).trans HRA.out
           have hrb3:=(hb13.block _ hq2).trans HRB.out
           have a0:w3.cell? ⟨w.heap.size,0,none⟩=some (.int .i64 a.pit):=(by simp [World.cell?,hra3])
           have a1:w3.cell? ⟨w.heap.size,1,none⟩=some (.int .i64 a.layer):=(by simp [World.cell?,hra3])
           have b0:w3.cell? ⟨w.heap.size+1,0,none⟩=some (.int .i64 b.pit):=(by simp [World.cell?,hrb3])
           have b1:w3.cell? ⟨w.heap.size+1,1,none⟩=some (.int .i64 b.layer):=(by simp [World.cell?,hrb3])
           have HC:=Lib.hid (HCON.out _ o w3 (HOR.out.below hb3 (Nat.le_refl _)) (HB.out.below hb13 (Nat.le_refl _)))
           have HB13:=Lib.hid hb13
           have HB3:=Lib.hid hb3
           clear y3 hb13 hra3 hrb3 hb3)
        | (go_at_call 37;(with_reducible refine HC.out.mono ?_);rintro e w4 ⟨A4,c4,rfl,hb4,hS4⟩
           have HB4:=Lib.hid hb4
           have HS4:=Lib.hid hS4
           have HB14:=Lib.hid (HB13.out.trans (hb4.mono HB13.out.size))
           clear hb4 hS4 a0 a1 b0 b1 hl1 hl2))
       obtain ⟨hs,h1,h2⟩:=HS4.out
       rw [HN.out] at h1
       have hl1:=h1.len
       obtain ⟨g,rfl⟩:∃ g,A4=some ⟨g,0,none⟩:=(by
        rcases h1.form with ⟨_,e,_⟩|⟨g,e,_⟩
        · omega
        · exact ⟨g,e⟩)
       have H1:=Lib.hid h1
       have H2:=Lib.hid h2
       have HL1:=Lib.hid hl1
       have HOB4:=Lib.hid (((HB3.out.trans (HB4.out.mono HB3.out.size)).block _ hol).trans HOB.out)
       have hol4:o<w4.heap.size:=(by have:=HB3.out.size;have:=HB4.out.size;omega)
       have hgl4:=h1.lt.2
       have HORR:=Lib.hid (HOR.out.below (HB3.out.trans (HB4.out.mono HB3.out.size)) (Nat.le_refl _))
       have hz4:=HB4.out.size
       have hz3:=HB3.out.size
       clear h1 h2 hl1
       go_loopw [21,22,72] (fun s21 s22 i wr=> ∃ (k:Nat) (s nv:Bool),k≤N∧i = .int .i64 k∧s21 = .bool s∧s22 = .bool nv∧Hid (Below w4.heap.size w4 wr)∧Hid (earlS ((placesOf (counting l known) bs).length+1) (sysB (counting l known) bs) x y (SS.take k)=(s,nv))) (fun _ _ i _=>N-(intOf i).toNat)
       case atStart=>exact ⟨0,true,true,Nat.zero_le _,rfl,rfl,rfl,(show Below _ _ _ from Below.refl _ _),(show _=_ from rfl)⟩
       case round=>
        obtain ⟨k,s,nv,hk,rfl,rfl,rfl,hbel,hst⟩:=hrel
        by_cases hlt:k<N
        · obtain ⟨hd,hhd⟩:∃ hd,hs[k]? = some hd:=⟨_,List.getElem?_eq_getElem (by rw [HL1.out];exact hlt)⟩
          obtain ⟨mv,hmv⟩:∃ mv,SS[k]? = some mv:=⟨_,List.getElem?_eq_getElem (by rw [HN.out];exact hlt)⟩
          obtain ⟨e1,e2⟩:=H2.out k hd mv hhd hmv
          have hcell:=(hbel.out.cell (p:=⟨g,k * 1+0,none⟩) hgl4).trans (H1.out.cells (fun _=>rfl) hhd 0 _ rfl)
          rw [Nat.mul_one,Nat.add_zero] at hcell
          unfold hdrV at hcell
          rw [e1] at hcell
          have hml:=HSL.out mv (List.mem_of_getElem? hmv)
          have hobr:=(hbel.out.block _ hol4).trans HOB4.out
          obtain ⟨ho2,At2,ct2,Ap2,cp2,Aa2,ca2,hob2,t1,t2,t3⟩:=HORR.out
          have hobr2:=(hbel.out.block _ hol4).trans hob2
          have hyr:=years_any o At2 (counting l known).length ct2 bA bn bc Ap2 (placesOf (counting l known) bs).length cp2 hd.A mv.length hd.c (counting l known) bs (placesOf (counting l known) bs) mv wr (by simp [World.cell?,hobr2]) (by simp [World.cell?,hobr2]) (by simp [World.cell?,hobr2]) ((t1.rd (fun _=>rfl) (by have:=HF.out.o.tn;omega)).below hbel.out (Nat.le_refl _)) ((HB.out.below HB14.out (Nat.le_refl _)).below hbel.out (Nat.le_refl _)) ((t2.rd (fun _=>rfl) (by have:=HF.out.o.pn;omega)).below hbel.out (Nat.le_refl _)) ((e2.rd (fun _=>rfl) (by omega)).below hbel.out (Nat.le_refl _)) HF.out.t (by have:=HF.out.o.tn;omega) (by have:=HF.out.o.bn;have:=HB.out.len;omega)
          have HYR2:=Lib.hid hyr
          have hstep:=earlS_snoc ((placesOf (counting l known) bs).length+1) (sysB (counting l known) bs) x y hmv
          rw [hst.out] at hstep
          obtain ⟨⟨v1,is1,er1⟩,hG1⟩:∃ q,greatestV ((placesOf (counting l known) bs).length+1) (sysB (counting l known) bs mv) y x=q:=⟨_,rfl⟩
          obtain ⟨⟨v2,is2,er2⟩,hG2⟩:∃ q,greatestV ((placesOf (counting l known) bs).length+1) (sysB (counting l known) bs mv) x y=q:=⟨_,rfl⟩
          have hck:=checkSys_years HF.out.o mv
          have hsb:sysB (counting l known) bs mv=(linksL (counting l known) bs mv).map (boundOf (ptsM (placesOf (counting l known) bs) (placesOf (counting l known) bs).length)):=rfl
          rw [←hsb] at hck
          unfold stepE at hstep
          rw [hG1,hG2] at hstep
          simp only at hstep
          have HG1:=Lib.hid hG1
          have HG2:=Lib.hid hG2
          have HST:=Lib.hid hstep
          have HCK:=Lib.hid hck
          have hlinks:=linksL_len (counting l known) bs mv
          have htn:=HF.out.o.tn
          have hbn:=HF.out.o.bn
          have hbs:=hbel.out.size
          clear hyr hG1 hG2 hstep hck hsb hobr hobr2 hob2 t1 t2 t3 e1 e2 hhd hmv ho2
          go_upto_region 18 with (first
           | (refine wpL_field120 rfl rfl rfl ?_)
           | (go_at_call 38;(with_reducible refine HYR2.out.mono ?_);rintro e w5 ⟨Ab5,cb5,Al5,cl5,mb5,rfl,hb5,y1,_,_,_⟩
              obtain ⟨w6,hw6⟩:∃ w6,w5.alloc (.cells #[.int .i64 ((placesOf (counting l known) bs).length+1),.slice Ab5 (linksL (counting l known) bs mv).length cb5] 84)=w6:=⟨_,rfl⟩
              have hn6:w6.heap[w5.heap.size]? = some (.cells #[.int .i64 ((placesOf (counting l known) bs).length+1),.slice Ab5 (linksL (counting l known) bs mv).length cb5] 84 (0,0)):=(by rw [←hw6];exact heap_alloc_new w5 _)
              have hb56:Below w5.heap.size w5 w6:=(by rw [←hw6];exact (Below.refl _ w5).alloc (Nat.le_refl _) _)
              have hl6:w5.heap.size<w6.heap.size:=(by rw [←hw6];simp)
              have hrd6:Rd encBound 4 w6 Ab5 (linksL (counting l known) bs mv).length cb5 (sysB (counting l known) bs mv):=(y1.rd (fun _=>rfl) (by omega)).below hb56 (Nat.le_refl _)
              have hgA:=earl2_any ((placesOf (counting l known) bs).length+1) Ab5 (linksL (counting l known) bs mv).length cb5 (sysB (counting l known) bs mv) y x w5.heap.size w6 (by simp [World.cell?,hn6]) (by simp [World.cell?,hn6]) hrd6 HCK.out hry.1 hry.2 hrx.1 hrx.2
              rw [HG1.out] at hgA
              have HGA:=Lib.hid hgA
              have HE1:=Lib.hid (earl1_any ((placesOf (counting l known) bs).length+1) Ab5 (linksL (counting l known) bs mv).length cb5 w5)
              have HN6:=Lib.hid hn6
              have HRD6:=Lib.hid hrd6
              have HW6:=Lib.hid hw6
              have HB56:=Lib.hid ((hbel.out.trans (hb5.mono hbs)).trans (hb56.mono (by have:=hb5.size;omega)))
              clear hgA hn6 hrd6 hw6 y1 hb5 hb56)
           | (go_at_call 39;(with_reducible refine HE1.out.mono ?_);rintro e w7 ⟨rfl,hw7⟩;rw [HW6.out] at hw7;subst hw7)
           | ((first|go_at_call 40|go_at_fn 40);(with_reducible refine HGA.out.mono ?_);rintro e w8 ⟨rfl,hb8⟩
              have hn8:=(hb8.block _ hl6).trans HN6.out
              have hgB:=earl2_any ((placesOf (counting l known) bs).length+1) Ab5 (linksL (counting l known) bs mv).length cb5 (sysB (counting l known) bs mv) x y w5.heap.size w8 (by simp [World.cell?,hn8]) (by simp [World.cell?,hn8]) (HRD6.out.below hb8 (Nat.le_refl _)) HCK.out hrx.1 hrx.2 hry.1 hry.2
              rw [HG2.out] at hgB
              have HGB:=Lib.hid hgB
              have HB8:=Lib.hid (HB56.out.trans (hb8.mono HB56.out.size))
              clear hgB hn8 hb8))
          obtain ⟨s',hs'⟩:∃ s',(s&&is1&&decide (v1<0))=s':=⟨_,rfl⟩
          obtain ⟨n',hn'⟩:∃ n',(nv&&is2&&decide (v2≤0))=n':=⟨_,rfl⟩
          have HS':=Lib.hid hs'
          have HN':=Lib.hid hn'
          have hst2:=HST.out
          rw [hs',hn'] at hst2
          have HST2:=Lib.hid hst2
          clear hs' hn' hst2
          go_cut [21] (fun s21 wx=>s21 = .bool s'∧wx=w8)
          case first=>
           rcases four s is1 v1 with rfl|⟨rfl,rfl⟩|⟨rfl,rfl,Q1,q1⟩|⟨rfl,rfl,Q1,q1⟩
           all_goals
            go_wp2_with fail
            go_meet
           all_goals exact ⟨congrArg Value.bool (by have h9:=HS'.out;(first|rw [Q1.out] at h9|skip);rw [←h9];(first|rfl|exact Q1.out|simp [Q1.out])),rfl⟩
          case rest=>
           obtain ⟨rfl,rfl⟩:=hcut
           go_upto_region 20 with ((first|go_at_call 40|go_at_fn 40);(with_reducible refine HGB.out.mono ?_);rintro e w9 ⟨rfl,hb9⟩;have HB9:=Lib.hid (HB8.out.trans (hb9.mono HB8.out.size));clear hb9)
           rcases four2 nv is2 v2 with rfl|⟨rfl,rfl⟩|⟨rfl,rfl,Q2,q2⟩|⟨rfl,rfl,Q2,q2⟩
           all_goals
            go_wp2
            go_roundw
           all_goals first
            | (simp [intOf];omega)
            | exact ⟨k+1,s',_,by omega,by go_num,rfl,rfl,(show Below _ _ _ from HB9.out),(show _=_ by rw [HST2.out];congr 1;have h9:=HN'.out;(first|rw [Q2.out] at h9|skip);rw [←h9];(first|rfl|exact Q2.out.symm|simp [Q2.out]))⟩
        · have hke:k=N:=by omega
          subst hke
          have hfin:earlS ((placesOf (counting l known) bs).length+1) (sysB (counting l known) bs) x y SS=(s,nv):=(by
           have:=hst.out
           rwa [List.take_of_length_le (by rw [HN.out];exact Nat.le_refl _)] at this)
          have HFIN:=Lib.hid hfin
          clear hfin
          cases s<;>cases nv
          all_goals
           go_wp2_with (fail)
           go_ret2
           refine ⟨?_,(hb1.trans (HB14.out.mono (by omega))).trans (hbel.out.mono (by have:=HB14.out.size;omega))⟩
           rw [HFIN.out]
           rfl
 · have hv:earlierV l known bs a b=(0,askErr l known bs):=by unfold earlierV;rw [if_pos he]
   rw [hv]
   have he':(askErr l known bs != 0)=true:=by simpa using he
   go_enter Tryz.func17,Tryz.ntmps17
   go_wp2_with (first
    | (go_at_call 30;(with_reducible refine HASK.out.mono ?_);rintro e w2 ⟨p,rfl,hb2,hp⟩))
   go_ret2
   exact ⟨rfl,hb1.trans (hb2.mono (by omega))⟩
end Go.Proofs.YtejjplhknacoiaaGreatDoor
end

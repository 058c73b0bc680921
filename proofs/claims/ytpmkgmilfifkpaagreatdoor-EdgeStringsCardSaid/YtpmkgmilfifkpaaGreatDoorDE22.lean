/- Contracts that the laws lean on: CmpQ, MaxP, MeI, Twi. -/
import Derived.Test.YtpmkgmilfifkpaaGreatDoorDE21
import Derived.Shelf.SlSortCmp.NoneTotal
import Derived.Deep.DrawnRows
import Derived.RangeFuncNested
set_option maxRecDepth 100000
set_option maxHeartbeats 4000000
section
namespace Go.Proofs.YtpmkgmilfifkpaaGreatDoor
open Go.RowKit Go.Proofs Go.Shelf Go.Sort
theorem isNaN_any (x:Int) (w:World):Calls Tryz.prog 68 #[.int .i64 x] w fun e w'=>e = .returned (.bool false)∧w=w':=by
 go_enter Tryz.func68,Tryz.ntmps68
 go_wp2
 go_ret
 exact ⟨by simp,rfl⟩
def cmpI (x y:Int):Int:=if x<y then -1 else if y<x then 1 else 0
theorem Compare_any (x y:Int) (w:World):Calls Tryz.prog 38 #[.int .i64 x,.int .i64 y] w fun e w'=>e = .returned (.int .i64 (cmpI x y))∧w=w':=by
 by_cases h1:x<y
 · go_enter Tryz.func38,Tryz.ntmps38
   go_wp2_with (go_at_call 68;refine (isNaN_any _ _).mono ?_;rintro e w' ⟨rfl,rfl⟩)
   go_ret
   exact ⟨by simp [cmpI,h1],rfl⟩
 · by_cases h2:y<x
   all_goals
    go_enter Tryz.func38,Tryz.ntmps38
    go_wp2_with (go_at_call 68;refine (isNaN_any _ _).mono ?_;rintro e w' ⟨rfl,rfl⟩)
    go_ret
    refine ⟨?_,rfl⟩
    unfold cmpI
    rw [if_neg (by omega)]
    first|rw [if_pos (by omega)]|rw [if_neg (by omega)]
    rfl
def or3 (x y z:Int):Int:=if x≠0 then x else if y≠0 then y else z
theorem Or3_any (b c:Nat) (x y z:Int) (w:World) (h0:w.cell? ⟨b,0,none⟩=some (.int .i64 x)) (h1:w.cell? ⟨b,1,none⟩=some (.int .i64 y)) (h2:w.cell? ⟨b,2,none⟩=some (.int .i64 z)):
 Calls Tryz.prog 37 #[.slice (some ⟨b,0,none⟩) 3 c] w fun e w'=>e = .returned (.int .i64 (or3 x y z))∧w=w':=by
 by_cases hx:x=0
 · subst hx
   by_cases hy:y=0
   · subst hy
     by_cases hz:z=0
     · subst hz
       go_enter Tryz.func37,Tryz.ntmps37
       go_wp2
       refine wp_loop_rounds 4 ?_
       rw [rounds_succ]
       go_wp2
       rw [rounds_succ]
       go_wp2
       rw [rounds_succ]
       go_wp2
       rw [rounds_succ]
       go_wp2
       go_ret
       exact ⟨by simp [or3],rfl⟩
     · have hz':((z:Int) != 0)=true:=by simpa using hz
       go_enter Tryz.func37,Tryz.ntmps37
       go_wp2
       refine wp_loop_rounds 3 ?_
       rw [rounds_succ]
       go_wp2
       rw [rounds_succ]
       go_wp2
       rw [rounds_succ]
       go_wp2
       go_ret
       exact ⟨by simp [or3],rfl⟩
   · have hy':((y:Int) != 0)=true:=by simpa using hy
     go_enter Tryz.func37,Tryz.ntmps37
     go_wp2
     refine wp_loop_rounds 2 ?_
     rw [rounds_succ]
     go_wp2
     rw [rounds_succ]
     go_wp2
     go_ret
     exact ⟨by simp [or3,hy],rfl⟩
 · have hx':((x:Int) != 0)=true:=by simpa using hx
   go_enter Tryz.func37,Tryz.ntmps37
   go_wp2
   refine wp_loop_rounds 1 ?_
   simp only [rounds_succ]
   go_wp2
   go_ret
   exact ⟨by simp [or3,hx],rfl⟩
theorem Or3_new (x y z:Int) (W:World) (t:TypeId) (N:Nat) (hN:N=W.heap.size):
 Calls Tryz.prog 37 #[.slice (some ⟨N,0,none⟩) 3 3] ((W.alloc (.cells #[.int .i64 x,.int .i64 y,.int .i64 z] t)).drew) fun e w'=>e = .returned (.int .i64 (or3 x y z))∧(W.alloc (.cells #[.int .i64 x,.int .i64 y,.int .i64 z] t)).drew=w':=by
 subst hN
 exact Or3_any W.heap.size 3 x y z _ (by simp) (by simp) (by simp)
def Grew (w w':World):Prop:=∃ q os',w'=grow (w.drewN q) os'
theorem Grew.refl (w:World):Grew w w:=⟨0,#[],by simp [grow,World.drewN]⟩
theorem Grew.alloc {w w':World} (h:Grew w w') (o:Obj):Grew w (w'.alloc o):=by
 obtain ⟨q,os,rfl⟩:=h
 exact ⟨q,os.push o,by simp [grow,World.alloc]⟩
theorem Grew.drewN {w w':World} (h:Grew w w') (n:Nat):Grew w (w'.drewN n):=by
 obtain ⟨q,os,rfl⟩:=h
 exact ⟨q+n,os,by simp [grow,World.drewN];omega⟩
theorem Grew.drew {w w':World} (h:Grew w w'):Grew w w'.drew:=h.drewN 1
theorem Grew.trans {a b c:World} (h:Grew a b) (k:Grew b c):Grew a c:=by
 obtain ⟨q,os,rfl⟩:=h
 obtain ⟨q',os',rfl⟩:=k
 exact ⟨q+q',os++os',by simp [grow,World.drewN,Array.append_assoc];omega⟩
theorem Grew.below {w w':World} (h:Grew w w'):Below w.heap.size w w':=by
 obtain ⟨q,os,rfl⟩:=h
 refine ⟨rfl,rfl,rfl,by simp [grow,World.drewN],fun k hk=> ?_⟩
 show (w.heap++os)[k]? = _
 rw [Array.getElem?_append_left hk]
structure Tri where
 lo:Int
 hi:Int
 at_:Int
deriving DecidableEq,Inhabited
def triP (t:Tri):Pairing:=⟨⟨t.lo,t.hi⟩,⟨t.at_,t.at_+(t.hi-t.lo)⟩⟩
def encTri (t:Tri):List Value:=encPairing (triP t)
theorem oneTri (x:Tri):∀ u∈encTri x,u.oneCell'=true:=onePairing (triP x)
def cmpTri (p q:Tri):Int:=or3 (cmpI p.lo q.lo) (cmpI p.hi q.hi) (cmpI p.at_ q.at_)
theorem Maximal1_any (a0 a1 a2 a3 b0 b1 b2 b3:Int) (w:World):
 Calls Tryz.prog 36 #[.agg #[.int .i64 a0,.int .i64 a1,.int .i64 a2,.int .i64 a3],.agg #[.int .i64 b0,.int .i64 b1,.int .i64 b2,.int .i64 b3]] w fun e w'=>e = .returned (.int .i64 (or3 (cmpI a0 b0) (cmpI a1 b1) (cmpI a2 b2)))∧Grew w w':=by
 go_enter Tryz.func36,Tryz.ntmps36
 go_wp2
 generalize hW:(w.alloc (.cells #[.int .i64 a0,.int .i64 a1,.int .i64 a2,.int .i64 a3] 25)).alloc (.cells #[.int .i64 b0,.int .i64 b1,.int .i64 b2,.int .i64 b3] 25)=W
 have f0:W.cell? ⟨w.heap.size,0,none⟩=some (.int .i64 a0):=by rw [←hW];simp
 have f1:W.cell? ⟨w.heap.size,1,none⟩=some (.int .i64 a1):=by rw [←hW];simp
 have f2:W.cell? ⟨w.heap.size,2,none⟩=some (.int .i64 a2):=by rw [←hW];simp
 have g0:W.cell? ⟨w.heap.size+1,0,none⟩=some (.int .i64 b0):=by rw [←hW];simp
 have g1:W.cell? ⟨w.heap.size+1,1,none⟩=some (.int .i64 b1):=by rw [←hW];simp
 have g2:W.cell? ⟨w.heap.size+1,2,none⟩=some (.int .i64 b2):=by rw [←hW];simp
 have hGW:Grew w W:=by rw [←hW];exact ((Grew.refl w).alloc _).alloc _
 clear hW
 refine wp_region_still_tail 21 (by kernel_rfl) (by kernel_rfl) ?_
 simp only [List.take_succ_cons,List.take_zero,List.drop_succ_cons,List.drop_zero,World.drew_eq]
 iterate 6 still_step
 still_call (Compare_any _ _ _).mono fun _ _ ⟨he,hw⟩=>⟨he,hw.symm⟩
 iterate 6 still_step
 still_call (Compare_any _ _ _).mono fun _ _ ⟨he,hw⟩=>⟨he,hw.symm⟩
 iterate 6 still_step
 still_call (Compare_any _ _ _).mono fun _ _ ⟨he,hw⟩=>⟨he,hw.symm⟩
 refine wpStill_nil ?_
 go_wp2_with (go_at_call 37;refine (Or3_new _ _ _ _ _ _ (by simp)).mono ?_;rintro e w' ⟨rfl,rfl⟩)
 all_goals go_ret
 all_goals refine ⟨rfl,?_⟩
 all_goals (repeat' first|exact hGW|refine Grew.alloc ?_ _|refine Grew.drew ?_|refine Grew.drewN ?_ _)
section
variable {α:Type} [Inhabited α] {enc:α→List Value} {k n c B g:Nat} {e:TypeId} {w:World} {xs:List α}
theorem flatK_list (hk:∀ x,(enc x).length=k) (d:Array α):(flatK enc k d).toList=d.toList.flatMap enc:=by
 apply List.ext_getElem?
 intro t
 by_cases ht:t<d.size * k
 · have hk0:0<k:=by
    rcases Nat.eq_zero_or_pos k with h|h
    · subst h;simp at ht
    · exact h
   have h1:t / k<d.size:=Nat.div_lt_of_lt_mul (by rw [Nat.mul_comm];exact ht)
   have h2:t % k<k:=Nat.mod_lt _ hk0
   have hf:=get_flatK enc k d t ht
   have hs:t<(flatK enc k d).size:=by simpa using ht
   rw [getElem!_pos _ t hs] at hf
   have hx:d.toList[t / k]? = some d[t / k]! := by
    rw [Array.getElem?_toList,getElem!_pos d _ h1];simp [h1]
   have hu:(enc d[t / k]!)[t % k]? = some (enc d[t / k]!)[t % k]! := by
    rw [getElem!_pos (enc d[t / k]!) _ (by rw [hk];exact h2)];simp [hk,h2]
   have:=flatMap_at hk d.toList (t / k) _ hx (t % k) _ hu
   rw [Nat.mul_comm,Nat.div_add_mod] at this
   rw [this,Array.getElem?_toList,Array.getElem?_eq_getElem hs,hf]
 · rw [List.getElem?_eq_none (by simp;omega),List.getElem?_eq_none (by rw [flatMap_len hk];simp;omega)]
theorem Own.holdsK (h:Own enc k e B w (some ⟨g,0,none⟩) n c xs) (hk:∀ x,(enc x).length=k):HoldsK enc k w g 0 xs.toArray:=by
 intro j hj
 have hj':j<xs.length * k:=by simpa using hj
 have hl:=flatK_list hk xs.toArray
 have hfl:(flatK enc k xs.toArray).size=xs.length * k:=by simp
 have hget:(xs.flatMap enc)[j]? = some (flatK enc k xs.toArray)[j]! := by
  rw [show xs.flatMap enc=(flatK enc k xs.toArray).toList from hl.symm,Array.getElem?_toList,getElem!_pos _ j (by rw [hfl];exact hj')]
  simp [hj']
 have:=h.own.cells (g:=g) rfl j _ hget
 rw [add_lit] at this
 exact ⟨this,by rw [Nat.zero_add];exact h.own.frozenAt j⟩
theorem Own.sorted (h:Own enc k e B w (some ⟨g,0,none⟩) n c xs) (hk:∀ x,(enc x).length=k) (d':Array α) (hs:d'.size=n) (m:Nat) (os:Array Obj):
 Own enc k e B (sortWorldK enc k w g 0 m d' os) (some ⟨g,0,none⟩) n c d'.toList∧w.grownBy (sortWorldK enc k w g 0 m d' os) (some g):=by
 have hlt:=h.lt
 have hbl:∀ i,i<w.heap.size→(sortWorldK enc k w g 0 m d' os).heap[i]? = (w.heap.modify g (onCells (putCells id 0 (flatK enc k d'))))[i]? := by
  intro i hi
  show ((w.heap.modify g (onCells (putCells id 0 (flatK enc k d'))))++os)[i]? = _
  rw [Array.getElem?_append_left (by simpa using hi)]
 have hg:w.grownBy (sortWorldK enc k w g 0 m d' os) (some g):=by
  refine ⟨rfl,rfl,rfl,?_,fun i hi hne=> ?_⟩
  · show w.heap.size≤((w.heap.modify g (onCells (putCells id 0 (flatK enc k d'))))++os).size
    simp
  · rw [hbl i hi,Array.getElem?_modify,if_neg]
    intro e;exact hne (by rw [e])
 refine ⟨⟨by simpa using hs,?_⟩,hg⟩
 rcases h.own with ⟨hlen,⟨h1,_⟩|⟨g',cap,cur,h1,hb,hcur,hnc,hmax,hsz,htake⟩⟩
 · cases h1
 · cases h1
   refine ⟨by rw [flatMap_len hk];simp [hs],.inr ⟨g,c,putCells id 0 (flatK enc k d') cur,rfl,hb,?_,hnc,hmax,by simp [putCells,hsz],?_⟩⟩
   · rw [hbl g hlt.2,Array.getElem?_modify,if_pos rfl,hcur];rfl
   · rw [←flatK_list hk d']
     have hfs:(flatK enc k d').size=n * k:=by simp [hs]
     have hnk:n * k≤cur.size:=by rw [hsz];exact Nat.mul_le_mul_right _ hnc
     apply List.ext_getElem?
     intro t
     by_cases ht:t<n * k
     · rw [List.getElem?_take_of_lt ht]
       simp only [putCells,Array.getElem?_toList,Array.getElem?_mapIdx,id]
       rw [Array.getElem?_eq_getElem (by omega:t<cur.size)]
       simp only [Option.map_some,Nat.zero_le,true_and,Nat.zero_add,hfs,if_pos ht,Nat.sub_zero]
       rw [getElem!_pos _ t (by rw [hfs];exact ht),Array.getElem?_eq_getElem (by rw [hfs];exact ht)]
     · rw [List.getElem?_eq_none (by rw [List.length_take];omega),List.getElem?_eq_none (by simp [hs];omega)]
end
def ltTri (a b:Tri):Prop:=a.lo<b.lo∨a.lo=b.lo∧(a.hi<b.hi∨a.hi=b.hi∧a.at_<b.at_)
instance (a b:Tri):Decidable (ltTri a b):=by unfold ltTri;infer_instance
theorem cmpI_neg {x y:Int} : cmpI x y<0↔x<y:=by unfold cmpI;split<;>(try split)<;>omega
theorem cmpI_zero {x y:Int} : cmpI x y=0↔x=y:=by unfold cmpI;split<;>(try split)<;>omega
theorem ltOf_tri (a b:Tri):ltOf cmpTri a b=decide (ltTri a b):=by
 unfold ltOf cmpTri
 rw [decide_eq_decide]
 unfold or3 ltTri
 have h1:= @cmpI_neg a.lo b.lo
 have h2:= @cmpI_zero a.lo b.lo
 have h3:= @cmpI_neg a.hi b.hi
 have h4:= @cmpI_zero a.hi b.hi
 have h5:= @cmpI_neg a.at_ b.at_
 split
 · omega
 · split<;>omega
theorem ltF {a b:Tri} : ltOf cmpTri a b=false ↔ ¬ltTri a b:=by rw [ltOf_tri];simp
theorem ltT {a b:Tri} : ltOf cmpTri a b=true↔ltTri a b:=by rw [ltOf_tri];simp
theorem swoTri:SWO (ltOf cmpTri) where
 irrefl x:=by rw [ltF];unfold ltTri;omega
 trans x y z h1 h2:=by rw [ltT] at *;unfold ltTri at *;omega
 ntrans x y z h1 h2:=by rw [ltF] at *;unfold ltTri at *;omega
theorem totTri (x y:Tri) (h1:ltOf cmpTri x y=false) (h2:ltOf cmpTri y x=false):x=y:=by
 rw [ltF] at h1 h2
 cases x;cases y
 simp only [ltTri] at h1 h2
 simp only [Tri.mk.injEq]
 omega
def sortTri (l:List Tri):List Tri:=l.mergeSort fun x y=> !(ltOf cmpTri) y x
theorem sortTri_perm (l:List Tri):(sortTri l).Perm l:=List.mergeSort_perm _ _
theorem ent_max1:∀ args w,(callFunc 36 args).run Tryz.prog w = .ok (.enter 36 args) w:=enters_of Tryz.func36 (by kernel_rfl) rfl
theorem cmpLays_tri (blk size:Nat) (w:World):CmpLays Tryz.prog 36 #[] encTri 4 cmpTri blk 0 size w:=
 fun _ _ _ _ x y=>(Maximal1_any x.lo x.hi x.at_ (x.at_+(x.hi-x.lo)) y.lo y.hi y.at_ (y.at_+(y.hi-y.lo)) _).mono fun _ _ ⟨he,q,os',h⟩=>⟨he,q,os',h⟩
theorem SortFunc_Tri (B:Nat) (A:Option Addr) (n c:Nat) (xs:List Tri) (w:World) (h:Own encTri 4 25 B w A n c xs) (hn:n≤17592186044416):
 Calls Tryz.prog 35 #[.slice A n c,.func (.func 36) #[] #[]] w fun e w'=>
  e = .returned (.tuple #[])∧Own encTri 4 25 B w' A n c (sortTri xs)∧w.grownBy w' (blockOf A):=by
 have hlen:=h.len
 rcases h.form with ⟨rfl,rfl,rfl⟩|⟨g,rfl,_,hlt⟩
 · have hx:xs = []:=List.eq_nil_of_length_eq_zero hlen
   subst hx
   have:=AnyF.slices_SortFunc_none Tryz.sortPr none 0 (.func (.func 36) #[] #[]) w
   change Calls Tryz.prog 35 _ _ _ at this
   refine this.mono ?_
   rintro e w' ⟨rfl,rfl⟩
   exact ⟨rfl,by rw [show sortTri [] = [] by simp [sortTri]];exact h,World.grownBy.refl _ _⟩
 · have hcon:=AnyQ.slices_SortFunc_total Tryz.sortPr 4 Tryz.isAgg25 Tryz.sizeOf25 encTri (fun _=>rfl) oneTri cmpTri swoTri 36 #[] g 0 c xs.toArray w ent_max1 (cmpLays_tri g _ w) (h.holdsK (fun _=>rfl)) hlt (by simp;omega) totTri
   change Calls Tryz.prog 35 _ _ _ at hcon
   simp only [List.size_toArray,hlen] at hcon
   refine hcon.mono ?_
   rintro e w' ⟨rfl,m,os,rfl⟩
   obtain ⟨h1,h2⟩:=h.sorted (fun _=>rfl) (sortTri xs).toArray (by simp [sortTri,hlen]) m os
   exact ⟨rfl,h1,h2⟩
end Go.Proofs.YtpmkgmilfifkpaaGreatDoor
end
section
namespace Go.Proofs.YtpmkgmilfifkpaaGreatDoor
def growF (p:Pairing):Pairing:=⟨⟨p.a.lo-1,p.a.hi⟩,⟨p.b.lo,p.b.hi+1⟩⟩
def growB (p:Pairing):Pairing:=⟨⟨p.a.lo,p.a.hi+1⟩,⟨p.b.lo-1,p.b.hi⟩⟩
def seenTo (A B:Outl):Nat→List Pairing
 | 0=> []
 | j+1=>seenTo A B j++meetL A B (16-(j:Int))
def aloneB (S:List Pairing) (p:Pairing):Bool:= !decide (growF p∈S) && !decide (growB p∈S)
def outTo (A B:Outl):Nat→List Pairing
 | 0=> []
 | j+1=>outTo A B j++(meetL A B (16-(j:Int))).filter (aloneB (seenTo A B j))
def toTri (p:Pairing):Tri:=⟨p.a.lo,p.a.hi,p.b.lo⟩
def maxL (A B:Outl):List Pairing:=(sortTri ((outTo A B 16).map toTri)).map triP
theorem meetL_side {A B:Outl} {s:Int} (hs:1≤s) {p:Pairing} (h:p∈meetL A B s):p.a.hi=p.a.lo+s∧p.b.hi=p.b.lo+s:=by
 have:=(mem_pairsL hs).1 (List.mem_filter.1 h).1
 omega
theorem triP_toTri {p:Pairing} (h:p.b.hi-p.b.lo=p.a.hi-p.a.lo):triP (toTri p)=p:=by
 obtain ⟨⟨a,b⟩,⟨c,d⟩⟩:=p
 simp only at h
 simp only [triP,toTri,Pairing.mk.injEq,Stretch.mk.injEq,true_and]
 omega
theorem alone_same {A B:Outl} {s:Int} (hs:1≤s) {S:List Pairing} {k:Nat} {p:Pairing} (hp:p∈meetL A B s):aloneB (S++(meetL A B s).take k) p=aloneB S p:=by
 have h1:∀ q∈(meetL A B s).take k,q.a.hi-q.a.lo=s:=fun q hq=>by have:=meetL_side hs (List.mem_of_mem_take hq);omega
 have h2:=meetL_side hs hp
 have hf:growF p∉(meetL A B s).take k:=fun h=>by have:=h1 _ h;simp only [growF] at this;omega
 have hb:growB p∉(meetL A B s).take k:=fun h=>by have:=h1 _ h;simp only [growB] at this;omega
 unfold aloneB
 simp [List.mem_append,hf,hb]
theorem outTo_side {A B:Outl} :∀ {j:Nat},j≤16→∀ p∈outTo A B j,p.b.hi-p.b.lo=p.a.hi-p.a.lo
 | 0,_,p,h=>by simp [outTo] at h
 | j+1,hj,p,h=>by
   rcases List.mem_append.1 h with h|h
   · exact outTo_side (by omega) p h
   · have:=meetL_side (s:=16-(j:Int)) (by omega) (List.mem_filter.1 h).1
     omega
theorem outTo_tri {A B:Outl} {j:Nat} (hj:j≤16):((outTo A B j).map toTri).map triP=outTo A B j:=by
 rw [List.map_map]
 exact (List.map_congr_left fun p hp=>triP_toTri (outTo_side hj p hp)).trans (List.map_id _)
theorem meetL_len (A B:Outl) (s:Int) (hs:1≤s) (ha:A.n≤16) (hb:B.n≤16):(meetL A B s).length≤256:=by
 unfold meetL
 refine Nat.le_trans (List.length_filter_le _ _) ?_
 unfold pairsL
 rw [upTo_len]
 have h1:cntP A.n s≤16:=by unfold cntP;omega
 have h2:cntP B.n s≤16:=by unfold cntP;omega
 exact Nat.mul_le_mul h1 h2
theorem outTo_len {A B:Outl} (ha:A.n≤16) (hb:B.n≤16):∀ j,j≤16→(outTo A B j).length≤256 * j
 | 0,_=>by simp [outTo]
 | j+1,hj=>by
   have h1:=outTo_len ha hb j (by omega)
   have h2:=Nat.le_trans (List.length_filter_le (aloneB (seenTo A B j)) (meetL A B (16-(j:Int)))) (meetL_len A B _ (by omega) ha hb)
   rw [outTo,List.length_append]
   omega
def SeenM (m:List (Pairing×Bool)) (S:List Pairing):Prop:=∀ q,getM m q=if q∈S then some true else none
theorem SeenM.nil:SeenM [] []:=fun q=>by simp [getM]
theorem SeenM.put {m:List (Pairing×Bool)} {S:List Pairing} (h:SeenM m S) (p:Pairing):SeenM (putM m p true) (S ++ [p]):=fun q=>by
 rw [getM_putM,h q]
 by_cases e:q=p
 · simp [e]
 · simp [e]
theorem SeenM.val {m:List (Pairing×Bool)} {S:List Pairing} (h:SeenM m S) (q:Pairing):((getM m q).map Value.bool).getD (.bool false) = .bool (decide (q∈S)):=by
 rw [h q]
 split<;>simp_all
open Go.RowKit Go.Proofs Go.Shelf
attribute [local go_sem] Oper.semAt_some
def StayB (b1 b2:Nat) (W W':World):Prop:=W'.heap[b1]? = W.heap[b1]? ∧ W'.heap[b2]? = W.heap[b2]?
theorem StayB.cell1 {b1 b2:Nat} {W W':World} (h:StayB b1 b2 W W') (i:Nat):W'.cell? ⟨b1,i,none⟩=W.cell? ⟨b1,i,none⟩:=World.cell?_of_block (a:=⟨b1,i,none⟩) h.1
theorem StayB.cell2 {b1 b2:Nat} {W W':World} (h:StayB b1 b2 W W') (i:Nat):W'.cell? ⟨b2,i,none⟩=W.cell? ⟨b2,i,none⟩:=World.cell?_of_block (a:=⟨b2,i,none⟩) h.2
theorem pairings1_in (n l b1 b2:Nat) (na nb s:Int) (hn:1≤n) (ha:0≤na∧na≤16) (hb:0≤nb∧nb≤16) (hs:1≤s∧s≤16) (J Jx:List Pairing→World→Prop)
 (hY:∀ pre x W,x∈pairsL na nb s→J pre W→pre.length<300→YieldAt Fence.wide (n-1) Tryz.prog l #[.agg #[.int .i64 x.a.lo,.int .i64 x.a.hi,.int .i64 x.b.lo,.int .i64 x.b.hi]] W fun e W'=>
   (e = .returned (.bool true)∧J (pre ++ [x]) W'∧StayB b1 b2 W W')∨(e = .returned (.bool false)∧Jx (pre ++ [x]) W'))
 (W:World) (c1:W.cell? ⟨b1,0,none⟩=some (.int .i64 s)) (c2:W.cell? ⟨b2,0,none⟩=some (.int .i64 na)) (c3:W.cell? ⟨b2,3,none⟩=some (.int .i64 nb)) (h0:J [] W):
 CallsIn Fence.wide n Tryz.prog 98 #[.func (.yield l) #[] #[],.pointer (some ⟨b1,0,none⟩),.pointer (some ⟨b2,0,none⟩)] W fun e W'=>(∃ v,e = .returned v)∧
  ((∃ ys,ys=pairsL na nb s∧J ys W')∨(∃ pre,True∧Jx pre W')):=by
 obtain ⟨K,hK⟩:∃ K,cntP nb s=K:=⟨_,rfl⟩
 obtain ⟨N,hN⟩:∃ N,cntP na s=N:=⟨_,rfl⟩
 have hKi:K≤16∧∀ k:Nat,(k:Int)+s≤nb↔k<K:=by unfold cntP at hK;exact ⟨by omega,fun k=>by omega⟩
 have hNi:N≤16∧∀ k:Nat,(k:Int)+s≤na↔k<N:=by unfold cntP at hN;exact ⟨by omega,fun k=>by omega⟩
 have HP:=Lib.hid (show pairsL na nb s=upTo s K N by unfold pairsL;rw [hK,hN])
 have HK:=Lib.hid hKi
 have HN:=Lib.hid hNi
 have HY:=Lib.hid hY
 clear hK hN hKi hNi hY
 refine callsIn_wide.2 ?_
 go_enter Tryz.func98,Tryz.ntmps98
 go_wp2
 go_step3
 go_wp2
 go_step3
 go_wp2
 go_loopw [4] (fun s4 wr=> ∃ i:Nat,i≤N∧s4 = .int .i64 i∧wr.cell? ⟨b1,0,none⟩=some (.int .i64 s)∧wr.cell? ⟨b2,0,none⟩=some (.int .i64 na)∧wr.cell? ⟨b2,3,none⟩=some (.int .i64 nb)∧Hid (J (upTo s K i) wr)) (fun s4 _=>20-(intOf s4).toNat)
 case atStart=>exact ⟨0,Nat.zero_le _,rfl,c1,c2,c3,(show J _ _ from h0)⟩
 case round=>
  clear c1 c2 c3 h0
  obtain ⟨i,hi,rfl,d1,d2,d3,hJ⟩:=hrel
  have hi16:=HN.out.1
  have hwi:IntKind.i64.wrap ((i:Int)+s)=(i:Int)+s:=(by rw [IntKind.wrap_i64];omega)
  by_cases hlt:i<N
  · have hle:(i:Int)+s≤na:=(HN.out.2 i).2 hlt
    go_wp2
    go_loopw [5] (fun s5 wr=> ∃ k:Nat,k≤K∧s5 = .int .i64 k∧wr.cell? ⟨b1,0,none⟩=some (.int .i64 s)∧wr.cell? ⟨b2,0,none⟩=some (.int .i64 na)∧wr.cell? ⟨b2,3,none⟩=some (.int .i64 nb)∧Hid (J (upTo s K i++rowP s i k) wr)) (fun s5 _=>20-(intOf s5).toNat)
    case atStart=>exact ⟨0,Nat.zero_le _,rfl,d1,d2,d3,(show J _ _ by have:=hJ.out;simpa [rowP] using this)⟩
    case round=>
     clear d1 d2 d3 hJ
     obtain ⟨k,hk,rfl,e1,e2,e3,hJk⟩:=hrel
     have hk16:=HK.out.1
     have hwk:IntKind.i64.wrap ((k:Int)+s)=(k:Int)+s:=(by rw [IntKind.wrap_i64];omega)
     by_cases hlk:k<K
     · have hlk':(k:Int)+s≤nb:=(HK.out.2 k).2 hlk
       obtain ⟨fn,tmps,assign,body,hy,hR⟩:=HY.out (upTo s K i++rowP s i k) (pairAt s i k) wr (by rw [HP.out];exact mem_upTo.2 ⟨i,k,hlt,hlk,rfl⟩) hJk.out (upTo_lt hk16 (by omega) hlk)
       simp only [pairAt] at hy
       go_upto_region 6 with (fail)
       refine (wpIn_wide (n:=n)).1 ?_
       gi_wp2
       refine hR.mono ?_
       rintro e W3 (⟨rfl,hJ3,hk3⟩|⟨rfl,hJx3⟩)
       · have f1:W3.cell? ⟨b1,0,none⟩=some (.int .i64 s):=(hk3.cell1 0).trans e1
         have f2:W3.cell? ⟨b2,0,none⟩=some (.int .i64 na):=(hk3.cell2 0).trans e2
         have f3:W3.cell? ⟨b2,3,none⟩=some (.int .i64 nb):=(hk3.cell2 3).trans e3
         have HJ3:Hid (J (upTo s K i++rowP s i (k+1)) W3):=(show J _ _ by rw [rowP_succ,←List.append_assoc];exact hJ3)
         clear hJ3
         gi_wp2
         go_wp2
         go_roundw
         case rel=>exact ⟨k+1,by omega,by go_num,f1,f2,f3,HJ3⟩
         case measure=>simp [intOf];omega
       · have HX3:=Lib.hid hJx3
         clear hJx3
         gi_wp2
         go_wp2
         rw [Exit.noGoto_normal]
         go_end0
         exact ⟨⟨_,rfl⟩,.inr ⟨_,trivial,HX3.out⟩⟩
     · have hlk':¬(k:Int)+s≤nb:=fun h=>hlk ((HK.out.2 k).1 h)
       have hkK:k=K:=by omega
       have HJ3:Hid (J (upTo s K (i+1)) wr):=(show J _ _ by rw [upTo_succ,←hkK];have:=hJk.out;rw [hkK] at this ⊢;exact this)
       clear hJk
       go_wp2
       go_roundw
       case rel=>exact ⟨i+1,by omega,by go_num,e1,e2,e3,HJ3⟩
       case measure=>simp [intOf];omega
  · have hle:¬(i:Int)+s≤na:=fun h=>hlt ((HN.out.2 i).1 h)
    have hiN:i=N:=by omega
    subst hiN
    go_wp2
    go_end0
    exact ⟨⟨_,rfl⟩,.inl ⟨_,HP.out.symm,hJ.out⟩⟩
abbrev PairIn (na nb s:Int):={ p:Pairing // p∈pairsL na nb s }
theorem pairs_stops (n b1 b2:Nat) (na nb s:Int) (hn:1≤n) (ha:0≤na∧na≤16) (hb:0≤nb∧nb≤16) (hs:1≤s∧s≤16) (w:World) (h1:b1<w.heap.size) (h2:b2<w.heap.size)
 (c1:w.cell? ⟨b1,0,none⟩=some (.int .i64 s)) (c2:w.cell? ⟨b2,0,none⟩=some (.int .i64 na)) (c3:w.cell? ⟨b2,3,none⟩=some (.int .i64 nb)):
 SeqStopsK Fence.wide n Tryz.prog 98 #[.pointer (some ⟨b1,0,none⟩),.pointer (some ⟨b2,0,none⟩)] (fun x:PairIn na nb s=> #[.agg #[.int .i64 x.1.a.lo,.int .i64 x.1.a.hi,.int .i64 x.1.b.lo,.int .i64 x.1.b.hi]]) (StayB b1 b2) (fun ys=>ys.map (·.1)=pairsL na nb s) (fun _=>True) 300 w:=by
 intro l J Jx W hW _ _ hY h0
 refine (pairings1_in n l b1 b2 na nb s hn ha hb hs (fun pre W'=> ∃ pre':List (PairIn na nb s),pre'.map (·.1)=pre∧J pre' W') (fun pre W'=> ∃ pre':List (PairIn na nb s),pre'.map (·.1)=pre∧Jx pre' W') ?_ W ((hW.cell (p:=⟨b1,0,none⟩) h1).trans c1) ((hW.cell (p:=⟨b2,0,none⟩) h2).trans c2) ((hW.cell (p:=⟨b2,3,none⟩) h2).trans c3) ⟨[],rfl,h0⟩).mono ?_
 · rintro pre x W1 hx ⟨pre',rfl,hJ⟩ hlen
   refine (hY pre' ⟨x,hx⟩ W1 hJ (by simpa using hlen)).mono ?_
   rintro e W' (⟨rfl,h1,h2⟩|⟨rfl,h1⟩)
   · exact .inl ⟨rfl,⟨pre' ++ [⟨x,hx⟩],by simp,h1⟩,h2⟩
   · exact .inr ⟨rfl,pre' ++ [⟨x,hx⟩],by simp,h1⟩
 · rintro e W' ⟨hv,⟨ys,rfl,ys',h1,h2⟩|⟨_,_,pre',_,h⟩⟩
   · exact ⟨hv,.inl ⟨ys',h1,h2⟩⟩
   · exact ⟨hv,.inr ⟨pre',trivial,h⟩⟩
def twiceErr (A B:Outl):Int:=if bothErr A B≠0 then bothErr A B else roomErr A B
theorem six_cells {W:World} {k:Nat} {x0 x1 x2 x3 x4 x5:Value} {t:TypeId} (h:W.heap[k]? = some (.cells #[x0,x1,x2,x3,x4,x5] t (0,0))):W.cell? ⟨k,0,none⟩=some x0∧W.cell? ⟨k,1,none⟩=some x1∧W.cell? ⟨k,2,none⟩=some x2∧W.cell? ⟨k,3,none⟩=some x3∧W.cell? ⟨k,4,none⟩=some x4∧W.cell? ⟨k,5,none⟩=some x5:=by
 simp [World.cell?,h]
theorem six_free {W:World} {k:Nat} {x0 x1 x2 x3 x4 x5:Value} {t:TypeId} (h:W.heap[k]? = some (.cells #[x0,x1,x2,x3,x4,x5] t (0,0))):W.frozen? ⟨k,0,none⟩=false∧W.frozen? ⟨k,1,none⟩=false∧W.frozen? ⟨k,2,none⟩=false∧W.frozen? ⟨k,3,none⟩=false∧W.frozen? ⟨k,4,none⟩=false∧W.frozen? ⟨k,5,none⟩=false:=by
 simp [World.frozen?,h]
theorem six_set {W:World} {k:Nat} {x0 x1 x2 x3 x4 x5 v0 v1 v2 v3 v4 v5:Value} {t:TypeId} (h:W.heap[k]? = some (.cells #[x0,x1,x2,x3,x4,x5] t (0,0))):((((((W.setCell ⟨k,0,none⟩ v0).setCell ⟨k,1,none⟩ v1).setCell ⟨k,2,none⟩ v2).setCell ⟨k,3,none⟩ v3).setCell ⟨k,4,none⟩ v4).setCell ⟨k,5,none⟩ v5).heap[k]? = some (.cells #[v0,v1,v2,v3,v4,v5] t (0,0)):=by
 have h0:(W.setCell ⟨k,0,none⟩ v0).heap[k]? = some (.cells #[v0,x1,x2,x3,x4,x5] t (0,0)):=(heap_setCell_obj h).trans rfl
 have h1:((W.setCell ⟨k,0,none⟩ v0).setCell ⟨k,1,none⟩ v1).heap[k]? = some (.cells #[v0,v1,x2,x3,x4,x5] t (0,0)):=(heap_setCell_obj h0).trans rfl
 have h2:(((W.setCell ⟨k,0,none⟩ v0).setCell ⟨k,1,none⟩ v1).setCell ⟨k,2,none⟩ v2).heap[k]? = some (.cells #[v0,v1,v2,x3,x4,x5] t (0,0)):=(heap_setCell_obj h1).trans rfl
 have h3:((((W.setCell ⟨k,0,none⟩ v0).setCell ⟨k,1,none⟩ v1).setCell ⟨k,2,none⟩ v2).setCell ⟨k,3,none⟩ v3).heap[k]? = some (.cells #[v0,v1,v2,v3,x4,x5] t (0,0)):=(heap_setCell_obj h2).trans rfl
 have h4:(((((W.setCell ⟨k,0,none⟩ v0).setCell ⟨k,1,none⟩ v1).setCell ⟨k,2,none⟩ v2).setCell ⟨k,3,none⟩ v3).setCell ⟨k,4,none⟩ v4).heap[k]? = some (.cells #[v0,v1,v2,v3,v4,x5] t (0,0)):=(heap_setCell_obj h3).trans rfl
 exact (heap_setCell_obj h4).trans rfl
theorem six_below {B:Nat} {w W:World} {k:Nat} (v0 v1 v2 v3 v4 v5:Value) (h:Below B w W) (hk:B≤k):Below B w ((((((W.setCell ⟨k,0,none⟩ v0).setCell ⟨k,1,none⟩ v1).setCell ⟨k,2,none⟩ v2).setCell ⟨k,3,none⟩ v3).setCell ⟨k,4,none⟩ v4).setCell ⟨k,5,none⟩ v5):=
 (((((h.setCell (p:=⟨k,0,none⟩) hk _).setCell (p:=⟨k,1,none⟩) hk _).setCell (p:=⟨k,2,none⟩) hk _).setCell (p:=⟨k,3,none⟩) hk _).setCell (p:=⟨k,4,none⟩) hk _).setCell (p:=⟨k,5,none⟩) hk _
theorem twice_any (A:Outl) (AwA:Option Addr) (Awn Awc:Nat) (AtA:Option Addr) (Atn Atc:Nat) (B:Outl) (BwA:Option Addr) (Bwn Bwc:Nat) (BtA:Option Addr) (Btn Btc:Nat) (w:World) (Aw:Rd encBound 4 w AwA Awn Awc A.ways) (At:Rd encBound 4 w AtA Atn Atc A.turns) (Bw:Rd encBound 4 w BwA Bwn Bwc B.ways) (Bt:Rd encBound 4 w BtA Btn Btc B.turns):
 Calls Tryz.prog 33 #[.agg #[.int .i64 A.n,.slice AwA Awn Awc,.slice AtA Atn Atc],.agg #[.int .i64 B.n,.slice BwA Bwn Bwc,.slice BtA Btn Btc]] w fun e w'=>e = .returned (.tuple #[.agg #[.int .i64 A.n,.slice AwA Awn Awc,.slice AtA Atn Atc,.int .i64 B.n,.slice BwA Bwn Bwc,.slice BtA Btn Btc],.int .i64 (twiceErr A B)])∧Below w.heap.size w w':=by
 obtain ⟨x1,a1,l1,z1,e1⟩:=alloc_facts w #[.int .i64 A.n,.slice AwA Awn Awc,.slice AtA Atn Atc] 35
 obtain ⟨x2,a2,l2,z2,e2⟩:=alloc_facts x1 #[.int .i64 B.n,.slice BwA Bwn Bwc,.slice BtA Btn Btc] 35
 obtain ⟨x3,a3,l3,z3,e3⟩:=alloc_facts x2 #[.int .i64 0,.slice none 0 0,.slice none 0 0,.int .i64 0,.slice none 0 0,.slice none 0 0] 75
 obtain ⟨x4,a4,l4,z4,e4⟩:=alloc_facts x3 #[.int .i64 A.n,.slice AwA Awn Awc,.slice AtA Atn Atc,.int .i64 B.n,.slice BwA Bwn Bwc,.slice BtA Btn Btc] 75
 have b2:=l1.trans (l2.mono l1.size)
 have b3:=b2.trans (l3.mono b2.size)
 have b4:=b3.trans (l4.mono b3.size)
 have CE:Hid (∀ W,Below x4.heap.size x4 W→Below w.heap.size w W∧W.heap[w.heap.size]? = some (.cells #[.int .i64 A.n,.slice AwA Awn Awc,.slice AtA Atn Atc] 35 (0,0))∧W.heap[x1.heap.size]? = some (.cells #[.int .i64 B.n,.slice BwA Bwn Bwc,.slice BtA Btn Btc] 35 (0,0))∧W.heap[x2.heap.size]? = some (.cells #[.int .i64 0,.slice none 0 0,.slice none 0 0,.int .i64 0,.slice none 0 0,.slice none 0 0] 75 (0,0))∧W.heap[x3.heap.size]? = some (.cells #[.int .i64 A.n,.slice AwA Awn Awc,.slice AtA Atn Atc,.int .i64 B.n,.slice BwA Bwn Bwc,.slice BtA Btn Btc] 75 (0,0))):=(show ∀ W,_→_ from fun W h=>by
  have s3:=l4.trans (h.mono (by omega))
  have s2:=l3.trans (s3.mono (by omega))
  have s1:=l2.trans (s2.mono (by omega))
  exact ⟨b4.trans (h.mono b4.size),(s1.block _ (by omega)).trans e1,(s2.block _ (by omega)).trans e2,(s3.block _ (by omega)).trans e3,(h.block _ (by omega)).trans e4⟩)
 have K1:=Lib.hid (fun W (h:Below x4.heap.size x4 W)=>bothE_any A AwA Awn Awc AtA Atn Atc B BwA Bwn Bwc BtA Btn Btc W (Aw.below (CE.out W h).1 (Nat.le_refl _)) (At.below (CE.out W h).1 (Nat.le_refl _)) (Bw.below (CE.out W h).1 (Nat.le_refl _)) (Bt.below (CE.out W h).1 (Nat.le_refl _)))
 have K2:=Lib.hid (fun W (h:Below x4.heap.size x4 W)=>room_any A AwA Awn Awc AtA Atn Atc B BwA Bwn Bwc BtA Btn Btc W (Aw.below (CE.out W h).1 (Nat.le_refl _)) (At.below (CE.out W h).1 (Nat.le_refl _)) (Bw.below (CE.out W h).1 (Nat.le_refl _)) (Bt.below (CE.out W h).1 (Nat.le_refl _)))
 have HR:=Lib.hid (Below.refl x4.heap.size x4)
 have H1:=Lib.hid a1
 have H2:=Lib.hid a2
 have H3:=Lib.hid a3
 have H4:=Lib.hid a4
 have g30:=((l2.trans (l3.mono l2.size)).block w.heap.size (by omega)).trans e1
 have g31:=(l3.block x1.heap.size (by omega)).trans e2
 rw [z3,z2,z1] at z4
 rw [z2,z1] at z3
 rw [z1] at z2
 rw [z1,z2,z3] at CE
 rw [z1] at g31
 obtain ⟨m0,m1,m2⟩:x3.cell? ⟨w.heap.size,0,none⟩=some (.int .i64 A.n)∧x3.cell? ⟨w.heap.size,1,none⟩=some (.slice AwA Awn Awc)∧x3.cell? ⟨w.heap.size,2,none⟩=some (.slice AtA Atn Atc):=(by simp [World.cell?,g30])
 obtain ⟨n0,n1,n2⟩:x3.cell? ⟨w.heap.size+1,0,none⟩=some (.int .i64 B.n)∧x3.cell? ⟨w.heap.size+1,1,none⟩=some (.slice BwA Bwn Bwc)∧x3.cell? ⟨w.heap.size+1,2,none⟩=some (.slice BtA Btn Btc):=(by simp [World.cell?,g31])
 obtain ⟨_,g0,g1,g2,g3⟩:=CE.out x4 HR.out
 obtain ⟨p0,p1,p2⟩:x4.cell? ⟨w.heap.size,0,none⟩=some (.int .i64 A.n)∧x4.cell? ⟨w.heap.size,1,none⟩=some (.slice AwA Awn Awc)∧x4.cell? ⟨w.heap.size,2,none⟩=some (.slice AtA Atn Atc):=(by simp [World.cell?,g0])
 obtain ⟨q0,q1,q2⟩:x4.cell? ⟨w.heap.size+1,0,none⟩=some (.int .i64 B.n)∧x4.cell? ⟨w.heap.size+1,1,none⟩=some (.slice BwA Bwn Bwc)∧x4.cell? ⟨w.heap.size+1,2,none⟩=some (.slice BtA Btn Btc):=(by simp [World.cell?,g1])
 clear Aw At Bw Bt l1 l2 l3 l4 b2 b3 b4 a1 a2 a3 a4 e1 e2 e3 e4 g30 g31 g0 g1 g2 g3
 by_cases h1:bothErr A B=0
 case neg=>
  have hv:twiceErr A B=bothErr A B:=by unfold twiceErr;rw [if_pos h1]
  rw [hv]
  have h1':(bothErr A B != 0)=true:=by simpa using h1
  clear h1 hv
  generalize bothErr A B=er at *
  go_enter Tryz.func33,Tryz.ntmps33
  go_wp2_with (first
   | rw [H1.out]|rw [H2.out]|rw [H3.out]|rw [H4.out]
   | (go_at_call 64;(with_reducible refine (K1.out _ HR.out).mono ?_);rintro e w5 ⟨rfl,hb⟩
      obtain ⟨hw,h0,h1,h2,h3⟩:=CE.out _ hb
      obtain ⟨c0,c1,c2,c3,c4,c5⟩:=six_cells h3
      obtain ⟨d0,d1,d2,d3,d4,d5⟩:=six_cells h2
      obtain ⟨f0,f1,f2,f3,f4,f5⟩:=six_free h2
      have HG2:=Lib.hid h2
      have HB:=Lib.hid hw
      clear hb h0 h1 h2 h3 hw))
  refine bodyPost_ret (results_ct rfl _ _ (w.heap.size+1+1) _ _ (0,0) _ rfl (six_set HG2.out) Tryz.underlying75 rfl (by kernel_rfl)) rfl ?_
  exact ⟨rfl,six_below _ _ _ _ _ _ HB.out (by omega)⟩
 case pos=>
  have hv:twiceErr A B=roomErr A B:=by unfold twiceErr;rw [if_neg (by simpa using h1)]
  rw [hv]
  rw [h1] at K1
  clear h1 hv
  generalize roomErr A B=er at *
  go_enter Tryz.func33,Tryz.ntmps33
  go_upto_region 5 with (first
   | rw [H1.out]|rw [H2.out]|rw [H3.out]|rw [H4.out]
   | (go_at_call 64;(with_reducible refine (K1.out _ HR.out).mono ?_);rintro e w5 ⟨rfl,hb⟩
      obtain ⟨hw,h0,h1,h2,h3⟩:=CE.out _ hb
      obtain ⟨c0,c1,c2,c3,c4,c5⟩:=six_cells h3
      obtain ⟨d0,d1,d2,d3,d4,d5⟩:=six_cells h2
      obtain ⟨f0,f1,f2,f3,f4,f5⟩:=six_free h2
      have HG2:=Lib.hid h2
      have HB:=Lib.hid hb
      have HBW:=Lib.hid hw
      clear hb h0 h1 h2 h3 hw))
  go_region_with (first
   | (go_at_call 59;(with_reducible refine (K2.out _ (by exact HB.out.drew)).mono ?_);rintro e w6 ⟨rfl,hb⟩
      obtain ⟨hw,h0,h1,h2,h3⟩:=CE.out _ (HB.out.drew.trans (hb.mono HB.out.drew.size))
      obtain ⟨i0,i1,i2,i3,i4,i5⟩:=six_cells h3
      obtain ⟨j0,j1,j2,j3,j4,j5⟩:=six_cells h2
      obtain ⟨k0,k1,k2,k3,k4,k5⟩:=six_free h2
      have HG6:=Lib.hid h2
      have HB6:=Lib.hid hw
      clear hb h0 h1 h2 h3 hw))
  all_goals
   go_wp2
   refine bodyPost_ret (results_ct rfl _ _ (w.heap.size+1+1) _ _ (0,0) _ rfl (six_set HG6.out) Tryz.underlying75 rfl (by kernel_rfl)) rfl ?_
   exact ⟨rfl,six_below _ _ _ _ _ _ HB6.out (by omega)⟩
end Go.Proofs.YtpmkgmilfifkpaaGreatDoor
end

/- Contracts that the laws lean on: IdsP, Ids. -/
import Derived.Test.YtelnkflmnbhclaaGreatIdsLay
import Derived.Test.YtelnkflmnbhclaaGreatRaK13
import Derived.Shelf.Sort.Plain
import Derived.Shelf.Slices.In.SortNone
import Derived.Shelf.SlicesE.DeleteFunc
import Derived.Sort.OwnSortedInts
set_option maxRecDepth 100000
set_option maxHeartbeats 4000000
section
namespace Go.Proofs.YtelnkflmnbhclaaGreat
open Go.RowKit Go.Proofs Go.Lib
def sortI (l:List Int):List Int:=l.mergeSort fun x y=>decide (x≤y)
def idsV (c:List Link):List Int:=(compact (sortI (c.map (·.by_)))).filter fun x=> !decide (x=0)
theorem sortI_perm (l:List Int):(sortI l).Perm l:=List.mergeSort_perm _ _
theorem sortI_asc (l:List Int):(sortI l).Pairwise (· ≤ ·):=by
 have:=List.pairwise_mergeSort (le:=fun x y:Int=>decide (x≤y)) (fun a b c h1 h2=>by simp only [decide_eq_true_eq] at h1 h2 ⊢;omega) (fun a b=>by simp only [Bool.or_eq_true,decide_eq_true_eq];omega) l;exact this.imp fun h=>by simpa using h
theorem compact_mem_of {zs:List Int} {x:Int} (h:x∈compact zs):x∈zs:=by
 unfold compact compactUpTo at h;obtain ⟨j,hj,rfl⟩:=List.mem_map.1 h;have:=List.mem_range.1 (List.mem_filter.1 hj).1;rw [getElem!_pos zs.toArray j (by simpa using this)];simp
theorem keeps_iff {zs:List Int} {j:Nat} (hj:j<zs.length):keeps zs.toArray j=true↔j=0∨∃ h:j-1<zs.length,zs[j]≠zs[j-1]:=by
 have e1:zs.toArray[j]! = zs[j]:=by rw [getElem!_pos zs.toArray j (by simpa using hj)];simp
 have e2:zs.toArray[j-1]! = zs[j-1]'(by omega):=by rw [getElem!_pos zs.toArray (j-1) (by simp;omega)];simp
 unfold keeps;rw [e1,e2];simp only [decide_eq_true_eq]
 constructor
 · rintro (h|h)
   · exact .inl (by simpa using h)
   · exact .inr ⟨by omega,by simpa using h⟩
 · rintro (h|⟨_,h⟩)
   · exact .inl (by simpa using h)
   · exact .inr (by simpa using h)
theorem compact_mem {zs:List Int} {x:Int} (h:x∈zs):x∈compact zs:=by
 have key:∀ m j:Nat,j≤m→∀ hj:j<zs.length,zs[j]=x→∃ i:Nat,∃ hi:i<zs.length,zs[i]=x∧keeps zs.toArray i=true:=by
  intro m
  induction m with
  | zero=>intro j hm hj e;exact ⟨j,hj,e,(keeps_iff hj).2 (.inl (by omega))⟩
  | succ m ih=>
    intro j hm hj e;by_cases hk:keeps zs.toArray j=true
    · exact ⟨j,hj,e,hk⟩
    · have h1:¬(j=0∨∃ h:j-1<zs.length,zs[j]≠zs[j-1]):=fun h=>hk ((keeps_iff hj).2 h)
      have h0:j≠0:=fun h=>h1 (.inl h)
      refine ih (j-1) (by omega) (by omega) ?_;have h2:zs[j]=zs[j-1]'(by omega):=Classical.byContradiction fun h=>h1 (.inr ⟨by omega,h⟩)
      rw [←h2];exact e
 obtain ⟨j,hj⟩:=List.mem_iff_getElem.1 h;obtain ⟨hjl,e⟩:=hj;obtain ⟨i,hi,e2,hk⟩:=key j j (Nat.le_refl _) hjl e;unfold compact compactUpTo;refine List.mem_map.2 ⟨i,List.mem_filter.2 ⟨List.mem_range.2 hi,hk⟩,?_⟩;rw [getElem!_pos zs.toArray i (by simpa using hi)];simpa using e2
theorem compact_asc {zs:List Int} (hs:zs.Pairwise (· ≤ ·)):(compact zs).Pairwise (· < ·):=by
 unfold compact compactUpTo;rw [List.pairwise_map];have h1:((List.range zs.length).filter (keeps zs.toArray)).Pairwise (· < ·):=List.Pairwise.filter _ List.pairwise_lt_range;refine h1.imp_of_mem fun {i j} hi hj hij=> ?_
 have hjl:=List.mem_range.1 (List.mem_filter.1 hj).1;have hil:=List.mem_range.1 (List.mem_filter.1 hi).1;rw [getElem!_pos zs.toArray i (by simpa using hil),getElem!_pos zs.toArray j (by simpa using hjl)];simp only [List.getElem_toArray]
 rcases (keeps_iff hjl).1 (List.mem_filter.1 hj).2 with h|⟨h,hne⟩
 · omega
 · have hp:=List.pairwise_iff_getElem.1 hs
   have h2:=hp (j-1) j h hjl (by omega)
   have h3:zs[i]≤zs[j-1]:=by
    by_cases e:i=j-1
    · subst e;exact Int.le_refl _
    · exact hp i (j-1) hil h (by omega)
   omega
theorem idsV_asc (c:List Link):(idsV c).Pairwise (· < ·):=List.Pairwise.filter _ (compact_asc (sortI_asc _))
theorem idsV_mem {c:List Link} {x:Int} : x∈idsV c↔x≠0∧∃ y∈c,y.by_=x:=by
 unfold idsV;rw [List.mem_filter]
 constructor
 · rintro ⟨h1,h2⟩
   obtain ⟨y,hy,e⟩:=List.mem_map.1 ((sortI_perm _).mem_iff.1 (compact_mem_of h1));exact ⟨by simpa using h2,y,hy,e⟩
 · rintro ⟨h1,y,hy,e⟩
   exact ⟨compact_mem ((sortI_perm _).mem_iff.2 (List.mem_map.2 ⟨y,hy,e⟩)),by simpa using h1⟩
theorem idsV_len {c:List Link} {n:Nat} (h:c.length≤n):(idsV c).length≤n:=by
 unfold idsV;refine Nat.le_trans (List.length_filter_le _ _) (Nat.le_trans (m:=(sortI (c.map (·.by_))).length) ?_ ?_)
 · unfold compact compactUpTo
   rw [List.length_map];exact Nat.le_trans (List.length_filter_le _ _) (by simp)
 · rw [(sortI_perm _).length_eq,List.length_map];exact h
end Go.Proofs.YtelnkflmnbhclaaGreat
end
section
namespace Go.Proofs.YtelnkflmnbhclaaGreat
open Go.RowKit Go.Proofs Go.Shelf Go.Sort
section
variable {B n c g:Nat} {e:TypeId} {w:World} {xs:List Int}
theorem Own.heldI (h:Own encInt 1 e B w (some ⟨g,0,none⟩) n c xs):Holds (Value.int .i64) w g 0 xs.toArray:=fun j hj=>by
 have hj':j<xs.length:=by simpa using hj
 have:=h.cells (fun _=>rfl) (i:=j) (List.getElem?_eq_getElem hj') 0 _ rfl;rw [Nat.mul_one,Nat.add_zero] at this;rw [Nat.zero_add,this];refine ⟨?_,h.free _⟩;rw [getElem!_pos xs.toArray j hj];simp
theorem Own.shorter (h:Own encInt 1 e B w (some ⟨g,0,none⟩) n c xs) {i:Nat} (hi:i≤n):Own encInt 1 e B w (some ⟨g,0,none⟩) i c (xs.take i):=(h.cut (fun _=>rfl) hi [] (by simp;omega)).1
theorem Own.put (h:Own encInt 1 e B w (some ⟨g,0,none⟩) n c xs) (q:Nat) (ys:List Int) (hy:ys.length=n):
 Own encInt 1 e B (putRow (Value.int .i64) (Sort.ahead w q) g 0 ys.toArray) (some ⟨g,0,none⟩) n c ys∧w.grownBy (putRow (Value.int .i64) (Sort.ahead w q) g 0 ys.toArray) (some g):=by
 have hl:=h.len;have hbr:=Lib.putRow_eq_setCells (Value.int .i64) w g 0 xs.toArray ys q h.heldI (by simp;omega);rw [hbr];obtain ⟨h1,h2⟩:=(h.drewN q).setAll ys hy;exact ⟨h1,⟨h2.os,h2.tape,h2.output,h2.size,h2.block⟩⟩
end
theorem Sort_own (B:Nat) (A:Option Addr) (n c:Nat) (xs:List Int) (w:World) (h:Own encInt 1 3 B w A n c xs) (hn:n≤1000000):
 Calls Tryz.prog 121 #[.slice A n c] w fun e w'=>e = .returned (.tuple #[])∧Own encInt 1 3 B w' A n c (sortI xs)∧w.grownBy w' (blockOf A):=by
 have hlen:=h.len
 rcases h.form with ⟨rfl,rfl,rfl⟩|⟨g,rfl,_,hlt⟩
 · have hx:xs = []:=List.eq_nil_of_length_eq_zero hlen
   subst hx;have:=Any.slices_Sort_int_none Tryz.sortI none 0 w
   change Calls Tryz.prog 121 _ _ _ at this
   refine this.mono ?_;rintro e w' ⟨rfl,rfl⟩;exact ⟨rfl,by simpa [sortI] using h,World.grownBy.refl _ _⟩
 · have hcon:=Any.slices_Sort_int Tryz.sortI g 0 c xs w h.heldI hlt (by omega)
   change Calls Tryz.prog 121 _ _ _ at hcon
   rw [hlen] at hcon;refine hcon.mono ?_;rintro e w' ⟨rfl,q,os,rfl⟩;obtain ⟨h1,h2⟩:=h.put q (sortI xs) (by rw [(sortI_perm xs).length_eq,hlen]);have h3:=grow_grown (putRow (Value.int .i64) (Sort.ahead w q) g 0 (sortI xs).toArray) os;exact ⟨rfl,h1.below (grow_below _ os) (Nat.le_refl _),h2.trans ⟨h3.os,h3.tape,h3.output,h3.size,fun k hk _=>h3.block k hk (by simp)⟩⟩
theorem Compact_own (B:Nat) (A:Option Addr) (n c:Nat) (xs:List Int) (w:World) (h:Own encInt 1 3 B w A n c xs) (hn:n≤1000000):
 Calls Tryz.prog 123 #[.slice A n c] w fun e w'=>e = .returned (.slice A (Lib.compact xs).length c)∧Own encInt 1 3 B w' A (Lib.compact xs).length c (Lib.compact xs)∧w.grownBy w' (blockOf A):=by
 have hlen:=h.len
 rcases h.form with ⟨rfl,rfl,rfl⟩|⟨g,rfl,_,hlt⟩
 · have hx:xs = []:=List.eq_nil_of_length_eq_zero hlen
   subst hx;have:=Any.slices_Compact_int_empty Tryz.compI none 0 w
   change Calls Tryz.prog 123 _ _ _ at this
   refine this.mono ?_;rintro e w' ⟨rfl,rfl⟩;exact ⟨rfl,h,World.grownBy.refl _ _⟩
 · have hcap:=h.cap
   have hcon:=Any.slices_Compact_int Tryz.compI g 0 c xs w h.heldI (by omega) (by omega)
   change Calls Tryz.prog 123 _ _ _ at hcon
   have hle:=Lib.compact_length_le xs;rw [hlen] at hcon hle;refine hcon.mono ?_;rintro e w' ⟨rfl,q,rfl⟩;obtain ⟨h1,h2⟩:=h.put q (Lib.compact xs++List.replicate (n-(Lib.compact xs).length) 0) (by simp;omega);have h3:=h1.shorter hle;rw [List.take_left' rfl] at h3;exact ⟨rfl,h3,h2⟩
theorem ent_ids:∀ args w,(callFunc 124 args).run Tryz.prog w = .ok (.enter 124 args) w:=enters_of Tryz.func124 (by kernel_rfl) rfl
theorem ids1_any (x:Int) (W:World):FnGives Tryz.prog 124 #[] #[.int .i64 x] (.bool (decide (x=0))) W:=by
 unfold FnGives;rw [show (#[Value.int .i64 x] ++ #[]:Array Value) = #[.int .i64 x] from rfl];go_enter Tryz.func124,Tryz.ntmps124;go_wp2;go_ret;exact ⟨by first|rfl|simp [beq_eq_decide]|(congr 2),0,rfl⟩
theorem Delete_own (B:Nat) (A:Option Addr) (n c:Nat) (xs:List Int) (w:World) (h:Own encInt 1 3 B w A n c xs) (hn:n≤1000000):
 Calls Tryz.prog 122 #[.slice A n c,.func (.func 124) #[] #[]] w fun e w'=>e = .returned (.slice A (xs.filter fun x=> !decide (x=0)).length c)∧Own encInt 1 3 B w' A (xs.filter fun x=> !decide (x=0)).length c (xs.filter fun x=> !decide (x=0))∧w.grownBy w' (blockOf A):=by
 have hlen:=h.len
 rcases h.form with ⟨rfl,rfl,rfl⟩|⟨g,rfl,_,hlt⟩
 · have hx:xs = []:=List.eq_nil_of_length_eq_zero hlen
   subst hx;have hcon:=AnyE.slices_IndexFunc_empty { Tryz.delI with } none 0 (.func (.func 124) #[] #[]) w
   change Calls Tryz.prog 179 _ _ _ at hcon
   go_enter Tryz.func122,Tryz.ntmps122;go_wp2_with (go_at_call 179;refine hcon.mono ?_;rintro e w1 ⟨rfl,hw1⟩;obtain rfl:=hw1.symm);go_ret;exact ⟨rfl,h,World.grownBy.refl _ _⟩
 · have hcap:=h.cap
   have hcon:=AnyE.slices_DeleteFunc Tryz.delI (Value.int .i64) (fun _=>rfl) (fun x=>decide (x=0)) 124 #[] ent_ids 0 Tryz.zeroValue3 g 0 c xs.toArray w (fun W x _=>ids1_any x W) (fun _ _ _ x _=>ids1_any x _) h.heldI (by simp;omega) (by simp;omega)
   change Calls Tryz.prog 122 _ _ _ at hcon
   simp only [List.size_toArray] at hcon;rw [hlen] at hcon;have hle:(xs.filter fun x=> !decide (x=0)).length≤n:=by rw [←hlen];exact List.length_filter_le _ _
   refine hcon.mono ?_;rintro e w' ⟨rfl,q,rfl⟩;obtain ⟨h1,h2⟩:=h.put q ((xs.filter fun x=> !decide (x=0))++List.replicate (n-(xs.filter fun x=> !decide (x=0)).length) 0) (by simp;omega);have h3:=h1.shorter hle;rw [List.take_left' rfl] at h3;exact ⟨rfl,h3,h2⟩
theorem Ids_any (A:Option Addr) (n c:Nat) (l:List Link) (w:World) (hl:Rd encLink 6 w A n c l) (hn:n≤100000):
 Calls Tryz.prog 68 #[.slice A n c] w fun e w'=> ∃ A' c',e = .returned (.slice A' (idsV l).length c')∧Below w.heap.size w w'∧Own encInt 1 3 w.heap.size w' A' (idsV l).length c' (idsV l):=by
 have hnl:=Lib.hid hl.len;have HL:=Lib.hid hl;clear hl;go_enter Tryz.func68,Tryz.ntmps68;go_wp2;go_loopw [3,8] (fun s3 s8 wr=> ∃ (k:Nat) (A':Option Addr) (c':Nat) (xs:List Int),k≤n∧s8 = .int .i64 k∧s3 = .slice A' xs.length c'∧xs.length≤k∧Hid (Below w.heap.size w wr)∧Hid (xs=(l.take k).map (·.by_))∧Hid (Own encInt 1 3 w.heap.size wr A' xs.length c' xs)) (fun _ s8 _=>n-(intOf s8).toNat)
 case atStart=>exact ⟨0,none,0,[],Nat.zero_le _,rfl,rfl,by simp,(show Below _ _ _ from Below.refl _ _),(show _=_ from rfl),(show Own _ _ _ _ _ _ _ _ _ from Own.none_ _ _ _ _ _)⟩
 case round=>
  rename World=>wo;obtain ⟨k,A',c',xs,hk,rfl,rfl,hxl,hbl,hxs,hO⟩:=hrel;have hzr:=hbl.out.size;by_cases hlt:k<n
  · obtain ⟨b,off,x,rfl,hbw,hx,hcell⟩:=(HL.out.below hbl.out (Nat.le_refl _)).one hlt
    have c0:wo.cell? ⟨b,off+k * 6,none⟩=some (.int .i64 x.src.pit):=hcell 0 _ rfl;have c1:wo.cell? ⟨b,off+k * 6+1,none⟩=some (.int .i64 x.src.layer):=hcell 1 _ rfl;have c2:wo.cell? ⟨b,off+k * 6+2,none⟩=some (.int .i64 x.dst.pit):=hcell 2 _ rfl;have c3:wo.cell? ⟨b,off+k * 6+3,none⟩=some (.int .i64 x.dst.layer):=hcell 3 _ rfl;have c4:wo.cell? ⟨b,off+k * 6+4,none⟩=some (.int .i64 x.most):=hcell 4 _ rfl;have c5:wo.cell? ⟨b,off+k * 6+5,none⟩=some (.int .i64 x.by_):=hcell 5 _ rfl;have HX:=Lib.hid hx
    obtain ⟨w5,hw5⟩:∃ w5,wo.alloc (.cells #[.int .i64 x.src.pit,.int .i64 x.src.layer,.int .i64 x.dst.pit,.int .i64 x.dst.layer,.int .i64 x.most,.int .i64 x.by_] 74)=w5:=⟨_,rfl⟩
    have hb5:Below wo.heap.size wo w5:=(by rw [←hw5];exact (Below.refl _ wo).alloc (Nat.le_refl _) _)
    have hh5:w5.heap[wo.heap.size]? = some (.cells #[.int .i64 x.src.pit,.int .i64 x.src.layer,.int .i64 x.dst.pit,.int .i64 x.dst.layer,.int .i64 x.most,.int .i64 x.by_] 74 (0,0)):=(by rw [←hw5];exact heap_alloc_new wo _)
    have hs5:wo.heap.size<w5.heap.size:=(Array.getElem?_eq_some_iff.1 hh5).1
    have d5:w5.cell? ⟨wo.heap.size,5,none⟩=some (.int .i64 x.by_):=(by simp [World.cell?,hh5])
    have hO6:=((hO.out.below hb5 (Nat.le_refl _)).alloc (.cells #[.int .i64 x.by_] 3))
    have hrd6:=Rd.single (enc:=encInt) (k:=1) w5 #[.int .i64 x.by_] 3 [x.by_] 1 rfl (by omega) (fun _=>rfl) (by simp [encInt]);have HB7:=Lib.hid ((hbl.out.trans (hb5.mono hzr)).alloc (by have:=hb5.size;omega) (.cells #[.int .i64 x.by_] 3));have HW5:=Lib.hid hw5
    have hz5:w.heap.size≤w5.heap.size:=(by omega)
    clear hcell hx hb5 hh5 hw5
    go_wp2_with (first
     | rw [HW5.out]
     | (at_builtin;refine wpList_append_src elInt (fun _=>rfl) oneInt rfl _ _ rfl _ _ _ _ rfl rfl hO6 hrd6 (by omega) (by decide) (by simp;omega) ?_;intro A8 c8 w8 hO8 hg8 hA8
        have HB8:=Lib.hid (HB7.out.grown hg8 (by simp;omega) (fun j e=>hO6.ltB j e));have HO8:=Lib.hid hO8
        clear hO8 hg8 hA8))
    go_roundw
    all_goals first
     | (simp [intOf];omega)
     | exact ⟨k+1,A8,c8,xs ++ [x.by_],by omega,by go_num,(by simp;try omega),(by simp;omega),HB8.out,(show _=_ by rw [hxs.out,List.take_add_one,HX.out,Option.toList_some,List.map_append];rfl),(show Own _ _ _ _ _ _ _ _ _ by rw [List.length_append];exact HO8.out)⟩
  · have hkn:k=n:=by omega
    subst hkn
    have hx2:xs=l.map (·.by_):=by
     have h1:=hxs.out
     rwa [List.take_of_length_le (by rw [hnl.out];exact Nat.le_refl _)] at h1
    have HX2:=Lib.hid hx2;have hxn:xs.length≤1000000:=by omega
    have hsl:(sortI xs).length=xs.length:=(sortI_perm xs).length_eq;have hcl:(Lib.compact (sortI xs)).length≤1000000:=by have:=Lib.compact_length_le (sortI xs);omega
    have HS:=Lib.hid hsl;clear hx2 hxs hsl
    go_wp2_with (first
     | (go_at_call 121;(with_reducible refine (Sort_own w.heap.size A' _ c' xs _ hO.out hxn).mono ?_);rintro e w2 ⟨rfl,hO2,hg2⟩
        have HB2:=Lib.hid (hbl.out.grown hg2 hzr (fun j e=>hO.out.ltB j e));have HO2:=Lib.hid hO2
        clear hO2 hg2)
     | (go_at_call 123;(with_reducible refine (Compact_own w.heap.size A' _ c' (sortI xs) _ HO2.out hxn).mono ?_);rintro e w3 ⟨rfl,hO3,hg3⟩
        have HB3:=Lib.hid (HB2.out.grown hg3 HB2.out.size (fun j e=>HO2.out.ltB j e));have HO3:=Lib.hid hO3
        clear hO3 hg3)
     | (go_at_call 122;(with_reducible refine (Delete_own w.heap.size A' _ c' (Lib.compact (sortI xs)) _ HO3.out hcl).mono ?_);rintro e w4 ⟨rfl,hO4,hg4⟩
        have HB4:=Lib.hid (HB3.out.grown hg4 HB3.out.size (fun j e=>HO3.out.ltB j e));have HO4:=Lib.hid hO4
        clear hO4 hg4))
    go_ret;have hid:idsV l=(Lib.compact (sortI xs)).filter fun x=> !decide (x=0):=by unfold idsV;rw [HX2.out]
    rw [hid];exact ⟨A',c',rfl,HB4.out,HO4.out⟩
end Go.Proofs.YtelnkflmnbhclaaGreat
end

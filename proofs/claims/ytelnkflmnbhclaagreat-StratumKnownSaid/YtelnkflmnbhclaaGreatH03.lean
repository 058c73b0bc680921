/- Contracts that the laws lean on: ShaP, Walk, CirP, AloP, EitP, CirQ. -/
import Derived.Test.YtelnkflmnbhclaaGreatH01
import Derived.Test.YtelnkflmnbhclaaGreatH02
import Derived.Test.YtelnkflmnbhclaaGreatK18
import Derived.Test.YtelnkflmnbhclaaGreatK22
section
namespace Go.Proofs.YtelnkflmnbhclaaGreat
open Go.RowKit Go.Proofs Go.Shelf
def keepsB (bs:List Bound) (x:List Int):Bool:=bs.all fun b=> !decide (b.most<x.getD b.dst.toNat 0-x.getD b.src.toNat 0)
def datesFit (ps:List Place) (d:List Dating):Bool:=decide (d.map (·.place)=ps)&&d.all (fun y=>inB y.year (-1000000) 1000000)
def checkDatesV (l:List Trace) (known:Int) (bs:List Bond) (mv:List Place) (d:List Dating):Bool×Int:=
 if withErr l known bs mv≠0 then (false,withErr l known bs mv) else (datesFit (placesOf (counting l known) bs) d&&keepsB (sysOf l known bs mv) (0::d.map (·.year)),0)
def yearOfV:List Dating→Place→Int
 | [],_=>0
 | x::d,p=>if x.place=p then x.year else yearOfV d p
theorem keepsB_iff {bs:List Bound} {x:List Int} : keepsB bs x=true ↔ ∀ b∈bs,x.getD b.dst.toNat 0≤x.getD b.src.toNat 0+b.most:=by
 unfold keepsB
 rw [List.all_eq_true]
 refine forall_congr' fun b=>imp_congr_right fun _=> ?_
 simp only [Bool.not_eq_true',decide_eq_false_iff_not]
 omega
theorem yearOfV_out:∀ {d:List Dating} {p:Place},p∉d.map (·.place)→yearOfV d p=0
 | [],_,_=>rfl
 | x::d,p,h=>by
   simp only [List.map_cons,List.mem_cons,not_or] at h
   rw [yearOfV,if_neg (fun e=>h.1 e.symm)]
   exact yearOfV_out h.2
theorem yearOfV_at:∀ {d:List Dating} {i:Nat} {x:Dating},(d.map (·.place)).Nodup→d[i]? = some x→yearOfV d x.place=x.year
 | [],_,_,_,h=>by simp at h
 | y::d,0,x,_,h=>by
   simp only [List.getElem?_cons_zero,Option.some.injEq] at h
   subst h
   rw [yearOfV,if_pos rfl]
 | y::d,i+1,x,hn,h=>by
   rw [List.getElem?_cons_succ] at h
   rw [List.map_cons,List.nodup_cons] at hn
   rw [yearOfV,if_neg (fun e=>hn.1 (by rw [e];exact List.mem_map.2 ⟨x,List.mem_of_getElem? h,rfl⟩))]
   exact yearOfV_at hn.2 h
theorem yearOfV_pt {ps:List Place} {d:List Dating} (hd:d.map (·.place)=ps) (hn:ps.Nodup) (hz:z00∉ps) {p:Place} {v:Int} (h:getM (ptsM ps ps.length) p=some v):yearOfV d p=(0::d.map (·.year)).getD v.toNat 0:=by
 rcases ptsM_from ps ps.length (Nat.le_refl _) p v h with ⟨rfl,rfl⟩|⟨i,hi,hp,rfl⟩
 · rw [yearOfV_out (by rw [hd];exact hz)];rfl
 · have e:((i:Int)+1).toNat=i+1:=by omega
   rw [e,List.getD_cons_succ]
   rw [←hd,List.getElem?_map] at hp
   cases hx:d[i]? with
   | none=>rw [hx] at hp;cases hp
   | some x=>
     rw [hx] at hp
     cases hp
     rw [yearOfV_at (by rw [hd];exact hn) hx,List.getD_eq_getElem?_getD,List.getElem?_map,hx];rfl
theorem tight {pts:Int} {bs:List Bound} (hok:SysOk pts bs) (hs:solvedOk pts bs=true) {a b:Int} (a1:0≤a) (a2:a<pts) (b1:0≤b) (b2:b<pts) {year:Int} (y1: -10000≤year) (y2:year≤10000)
 (h1:year≤greatestR pts bs a b) (h2: -year≤greatestR pts bs b a):∃ y:Nat→Int,(∀ x∈bs,y x.dst.toNat≤y x.src.toNat+x.most)∧y b.toNat-y a.toNat=year:=by
 have hp:=hok.p2
 obtain ⟨y,hy,hyb⟩:=sol_bounded hok hs
 have ga:=from_zero hok a1 a2 hs
 have gb:=from_zero hok b1 b2 hs
 have fa:=from_fix hok a1 a2 hs
 have fb:=from_fix hok b1 b2 hs
 rw [greatestR_val] at h1 h2
 generalize fromV pts bs a=G at *
 generalize fromV pts bs b=H at *
 have hnone:noneV=1099511627776:=rfl
 obtain ⟨h,hh⟩:∃ h:Nat→Int,∀ v,(G v<noneV→h v≤G v)∧(H v<noneV→h v≤year+H v)∧h v≤y v+100000000000∧((G v<noneV∧h v=G v)∨(H v<noneV∧h v=year+H v)∨h v=y v+100000000000):=by
  refine ⟨fun v=>if G v<noneV∧G v≤y v+100000000000∧(H v<noneV→G v≤year+H v) then G v else if H v<noneV∧year+H v≤y v+100000000000 then year+H v else y v+100000000000,fun v=> ?_⟩
  simp only
  split
  · omega
  · split<;>omega
 refine ⟨h,fun x hx=> ?_,?_⟩
 · have hxm:=hok.b x hx
   have k1:=hh x.src.toNat
   have k2:=hh x.dst.toNat
   have k3:=hy x hx
   have k4:=hyb x.src.toNat
   have k5:=fa x hx
   have k6:=fb x hx
   unfold KeptB at k5 k6
   rcases k1.2.2.2 with ⟨e1,e2⟩|⟨e1,e2⟩|e2
   · have:=k5 e1
     have:=k2.1 (by omega)
     omega
   · have:=k6 e1
     have:=k2.2.1 (by omega)
     omega
   · omega
 · have k1:=hh a.toNat
   have k2:=hh b.toNat
   have k3:=hyb a.toNat
   have k4:=hyb b.toNat
   omega
theorem check_snoc {l:List Trace} {x:Trace} (h:(check l).2=0) (hx:follows l x=0):(check (l ++ [x])).2=0:=by
 have key:∀ k,k≤l.length+1→check (l ++ [x])=checkFrom (l ++ [x]) (l.length+1-k) k:=by
  intro k
  induction k with
  | zero=>intro _;unfold check;rw [List.length_append];rfl
  | succ k ih=>
    intro hk
    have hlen:k<(l ++ [x]).length:=by simp;omega
    refine check_step (List.getElem?_eq_getElem hlen) ?_ hk (ih (by omega))
    rcases Nat.lt_or_ge k l.length with hl|hl
    · rw [List.getElem_append_left hl,List.take_append_of_le_length (by omega)]
      exact check_ok h k _ (List.getElem?_eq_getElem hl)
    · have:k=l.length:=by omega
      subst this
      simpa using hx
 rw [key (l.length+1) (Nat.le_refl _),Nat.sub_self];rfl
theorem follows_parts {l:List Trace} {x:Trace} (h:follows l x=0):l.length<140∧checkTrace x=0∧l.any (p1 x)=false∧(x.kind=4→l.any (p2 x)=true):=by
 unfold follows at h
 split at h
 · cases h
 · split at h
   · cases h
   · split at h
     · cases h
     · split at h
       · cases h
       · rename_i h1 h2 h3 h4
         refine ⟨by omega,by simpa using h2,by simpa using h3,fun h5=> ?_⟩
         rw [if_neg (by simpa using h5)] at h
         split at h
         · cases h
         · rename_i h6;simpa using h6
theorem counting_dated {l:List Trace} {x:Trace} {known:Int} (h:(check l).2=0) (hx:follows l x=0) (hk:x.kind≠4) (hn:x.known≤known):counting (l ++ [x]) known=counting l known ++ [x]:=by
 have hno:pc l known x=false:=by
  unfold pc
  simp only [Bool.or_eq_false_iff,decide_eq_false_iff_not]
  refine ⟨⟨hk,by omega⟩,?_⟩
  rw [List.any_eq_false]
  intro v hv hpv
  simp only [pv,Bool.and_eq_true,decide_eq_true_eq] at hpv
  obtain ⟨i,hi⟩:=List.mem_iff_getElem?.1 hv
  have h2:=(follows_parts (check_ok h i v hi)).2.2.2 hpv.1.1
  obtain ⟨u,hu,hpu⟩:=List.any_eq_true.1 h2
  simp only [p2,Bool.and_eq_true,decide_eq_true_eq] at hpu
  have h3:=(follows_parts hx).2.2.1
  rw [List.any_eq_false] at h3
  exact h3 u (List.mem_of_mem_take hu) (by simp only [p1,decide_eq_true_eq];rw [hpu.1,hpv.1.2])
 unfold counting
 rw [List.filter_append]
 congr 1
 · refine List.filter_congr fun y _=> ?_
   rw [pc_snoc hk]
 · rw [List.filter_cons_of_pos (by rw [pc_snoc hk,hno];rfl)];rfl
theorem placesOf_same {ts:List Trace} {bs:List Bond} {x:Trace} (hk:x.kind=2) (hp:placeT x∈placesOf ts bs):(uniq (placeList (ts ++ [x]) bs)).Perm (uniq (placeList ts bs)):=by
 refine (List.perm_ext_iff_of_nodup (nodup_uniq _) (nodup_uniq _)).2 fun q=> ?_
 rw [mem_uniq,mem_uniq]
 rw [placesOf_mem] at hp
 unfold placeList at hp ⊢
 have e:plT x = [placeT x]:=by unfold plT;rw [if_neg (by omega)]
 rw [List.flatMap_append,List.flatMap_cons,List.flatMap_nil,List.append_nil,e]
 simp only [List.mem_append,List.mem_singleton] at hp ⊢
 constructor
 · rintro ((h|rfl)|h)
   · exact .inl h
   · exact hp
   · exact .inr h
 · rintro (h|h)
   · exact .inl (.inl h)
   · exact .inr h
theorem linksL_dated {ts:List Trace} {bs:List Bond} {mv:List Place} {x:Trace} (hk:x.kind=2) (y:Link):y∈linksL (ts ++ [x]) bs mv↔y∈linksL ts bs mv∨y∈datedL x:=by
 unfold linksL
 have e:linkT x=datedL x:=by unfold linkT;rw [if_neg (by omega),if_pos hk]
 rw [List.flatMap_append,List.flatMap_cons,List.flatMap_nil,List.append_nil,e]
 simp only [List.mem_append]
 constructor
 · rintro ((h|h)|h)
   · exact .inl (.inl h)
   · exact .inr h
   · exact .inl (.inr h)
 · rintro ((h|h)|h)
   · exact .inl (.inl h)
   · exact .inr h
   · exact .inl (.inr h)
theorem sharp_dates {l:List Trace} {known:Int} {bs:List Bond} {mv:List Place} {d:List Dating} {a b:Place} (h1:(checkDatesV l known bs mv d).1=true) (h2:(betweenV l known bs mv a b).2.2=0) (h3:(betweenV l known bs mv a b).2.1=true):
 yearOfV d b-yearOfV d a≤(betweenV l known bs mv a b).1:=by
 have he:endsErr l known bs mv a b=0:=by
  unfold betweenV at h2
  split at h2
  · rename_i h;exact absurd h2 h
  · rename_i h;simpa using h
 have hw:withErr l known bs mv=0:=by
  unfold endsErr at he
  split at he
  · rename_i h;exact absurd he h
  · rename_i h;simpa using h
 have hO:=okO_of (askErr_of_with hw)
 have hok:SysOk _ (sysOf l known bs mv):=sysOk_of (checkSys_years hO mv)
 have hn:=placesOf_nodup (counting l known) bs
 have hz:=z00_not hO
 unfold endsErr at he
 rw [if_neg (by simpa using hw)] at he
 split at he
 case isFalse=>cases he
 rename_i hsome
 rw [Bool.and_eq_true] at hsome
 obtain ⟨i,hi⟩:=Option.isSome_iff_exists.1 hsome.1
 obtain ⟨k,hk⟩:=Option.isSome_iff_exists.1 hsome.2
 obtain ⟨i1,i2⟩:=ptsM_range _ hi
 obtain ⟨k1,k2⟩:=ptsM_range _ hk
 unfold checkDatesV at h1
 rw [if_neg (by simpa using hw)] at h1
 simp only [Bool.and_eq_true,datesFit,decide_eq_true_eq] at h1
 obtain ⟨⟨hd,hyr⟩,hkeep⟩:=h1
 rw [keepsB_iff] at hkeep
 rw [yearOfV_pt hd hn hz hi,yearOfV_pt hd hn hz hk]
 have hsmall:∀ v:Nat,-1000000≤(0::d.map (·.year)).getD v 0∧(0::d.map (·.year)).getD v 0≤1000000:=fun v=>by
  rw [List.getD_eq_getElem?_getD]
  cases hv:(0::d.map (·.year))[v]? with
  | none=>simp
  | some n=>
    have:=List.mem_of_getElem? hv
    rcases List.mem_cons.1 this with rfl|hm
    · simp
    · obtain ⟨y,hy,rfl⟩:=List.mem_map.1 hm
      have:=inB_iff.1 (List.all_eq_true.1 hyr y hy)
      simpa using this
 have hlow:=from_low hok i1 (show i<_ from i2) (x:=fun v=>(0::d.map (·.year)).getD v 0) hkeep (fun v _=>by
  have:=hsmall v;have:=hsmall i.toNat;(try simp only);unfold noneV;omega) k.toNat (by have:=hO.pn;omega)
 have hbv:betweenV l known bs mv a b=((greatestV ((placesOf (counting l known) bs).length+1) (sysOf l known bs mv) i k).1,(greatestV ((placesOf (counting l known) bs).length+1) (sysOf l known bs mv) i k).2.1,0)∨(betweenV l known bs mv a b).2.1=false:=by
  unfold betweenV
  rw [if_neg (by unfold endsErr;rw [if_neg (by simpa using hw)];simp [hsome.1,hsome.2])]
  rw [show (getM (ptsOf l known bs) a)=some i from hi,show (getM (ptsOf l known bs) b)=some k from hk]
  simp only [Option.getD_some]
  split
  · right;rfl
  · left;rfl
 rcases hbv with hbv|hbv
 · rw [hbv] at h3 ⊢
   simp only at h3 ⊢
   unfold greatestV at h3 ⊢
   split
   · rename_i hs
     rw [if_pos hs] at h3
     split
     · rename_i hg;rw [if_pos hg] at h3;cases h3
     · rw [greatestR_val];simpa using hlow
   · rename_i hs;rw [if_neg hs] at h3;cases h3
 · rw [hbv] at h3;cases h3
def yearT (id known year:Int) (p:Place):Trace:=⟨id,known,2,p.pit,p.layer,0,year,year,0,0⟩
theorem between_ok {l:List Trace} {known:Int} {bs:List Bond} {mv:List Place} {a b:Place} (h:(betweenV l known bs mv a b).2.2=0):
 withErr l known bs mv=0∧solvedOk ((placesOf (counting l known) bs).length+1) (sysB (counting l known) bs mv)=true∧∃ i k,getM (ptsOf l known bs) a=some i∧getM (ptsOf l known bs) b=some k:=by
 unfold betweenV at h
 split at h
 · rename_i h1;exact absurd h h1
 · rename_i h1
   have he:endsErr l known bs mv a b=0:=by simpa using h1
   have hw:withErr l known bs mv=0:=by
    unfold endsErr at he
    split at he
    · rename_i h;exact absurd he h
    · rename_i h;simpa using h
   refine ⟨hw,?_,?_⟩
   · simp only at h
     split at h
     · cases h
     · rename_i h2
       unfold greatestV at h2
       split at h2
       · rename_i hs;exact hs
       · exact absurd (by decide) h2
   · unfold endsErr at he
     rw [if_neg (by simpa using hw)] at he
     split at he
     case isFalse=>cases he
     rename_i hsome
     rw [Bool.and_eq_true] at hsome
     obtain ⟨i,hi⟩:=Option.isSome_iff_exists.1 hsome.1
     obtain ⟨k,hk⟩:=Option.isSome_iff_exists.1 hsome.2
     exact ⟨i,k,hi,hk⟩
theorem between_is {l:List Trace} {known:Int} {bs:List Bond} {mv:List Place} {a b:Place} {i k:Int} (hw:withErr l known bs mv=0) (hs:solvedOk ((placesOf (counting l known) bs).length+1) (sysB (counting l known) bs mv)=true) (hi:getM (ptsOf l known bs) a=some i) (hk:getM (ptsOf l known bs) b=some k):
 betweenV l known bs mv a b=if greatestR ((placesOf (counting l known) bs).length+1) (sysB (counting l known) bs mv) i k=noneV then (0,false,0) else (greatestR ((placesOf (counting l known) bs).length+1) (sysB (counting l known) bs mv) i k,true,0):=by
 unfold betweenV
 rw [if_neg (show ¬endsErr l known bs mv a b≠0 by unfold endsErr;rw [if_neg (by simpa using hw),hi,hk];simp),hi,hk]
 simp only [Option.getD_some]
 have e:greatestV ((placesOf (counting l known) bs).length+1) (sysOf l known bs mv) i k=if greatestR ((placesOf (counting l known) bs).length+1) (sysB (counting l known) bs mv) i k=noneV then (0,false,0) else (greatestR ((placesOf (counting l known) bs).length+1) (sysB (counting l known) bs mv) i k,true,0):=by
  unfold greatestV
  rw [if_pos (show solvedOk _ (sysOf l known bs mv)=true from hs)];rfl
 rw [e]
 split<;>rfl
theorem between_le {l:List Trace} {known:Int} {bs:List Bond} {mv:List Place} {a b:Place} {G year:Int} (h:betweenV l known bs mv a b=if G=noneV then (0,false,0) else (G,true,0)) (hy:year≤10000):
 (!(betweenV l known bs mv a b).2.1||decide (year≤(betweenV l known bs mv a b).1))=decide (year≤G):=by
 rw [h]
 have hnone:noneV=1099511627776:=rfl
 split
 · rename_i e
   rw [e,decide_eq_true (show year≤noneV by omega)];rfl
 · rfl
theorem sharp_year {l:List Trace} {known:Int} {bs:List Bond} {mv:List Place} {p:Place} {id year:Int} (h1:(betweenV l known bs mv z00 p).2.2=0) (hA:(appendV l (yearT id known year p)).2=0):
 (betweenV l known bs mv p z00).2.2=0∧(datesV (l ++ [yearT id known year p]) known bs mv).2.2=0∧(-10000≤year∧year≤10000)∧
 (datesV (l ++ [yearT id known year p]) known bs mv).2.1=((!(betweenV l known bs mv z00 p).2.1||decide (year≤(betweenV l known bs mv z00 p).1))&&(!(betweenV l known bs mv p z00).2.1||decide (-year≤(betweenV l known bs mv p z00).1))):=by
 obtain ⟨hw,hs,i,k,hi,hk⟩:=between_ok h1
 have hO:=okO_of (askErr_of_with hw)
 have hok:SysOk _ (sysB (counting l known) bs mv):=sysOk_of (checkSys_years hO mv)
 have hn:=placesOf_nodup (counting l known) bs
 have hz:=z00_not hO
 obtain rfl:i=0:=by
  have:=ptsM_zero (placesOf (counting l known) bs) hz _ (Nat.le_refl _)
  rw [show getM (ptsM (placesOf (counting l known) bs) (placesOf (counting l known) bs).length) z00=some i from hi] at this
  exact Option.some.inj this
 obtain ⟨k1,k2⟩:=ptsM_range _ hk
 have hck:(check l).2=0∧follows l (yearT id known year p)=0:=by
  unfold appendV at hA
  split at hA
  · rename_i h;exact absurd hA h
  · rename_i h
    split at hA
    · rename_i h2;exact absurd hA h2
    · rename_i h2;exact ⟨by simpa using h,by simpa using h2⟩
 have hct:=(follows_parts hck.2).2.1
 have hokT:okT (yearT id known year p)=true:=by
  unfold checkTrace at hct
  by_cases hx:(okT (yearT id known year p)&&eqTrace (yearT id known year p) (yT (yearT id known year p)))=true
  · simp only [Bool.and_eq_true] at hx
    exact hx.1
  · rw [if_neg hx] at hct;cases hct
 obtain ⟨g1,_,_,g4⟩:=okT_parts hokT (by simp [yearT])
 obtain ⟨y1,_,y2⟩:=g4 rfl
 simp only [yearT] at y1 y2
 have hpp:p∈placesOf (counting l known) bs:=by
  rcases ptsM_from _ _ (Nat.le_refl _) p k hk with ⟨e,_⟩|⟨j,hj,hp,_⟩
  · have:=g1.1
    simp [yearT,placeT,e,z00] at this
  · exact List.mem_of_getElem? hp
 have hpT:placeT (yearT id known year p)=p:=rfl
 have hcnt:counting (l ++ [yearT id known year p]) known=counting l known ++ [yearT id known year p]:=counting_dated hck.1 hck.2 (by simp [yearT]) (Int.le_refl _)
 have hperm:=placesOf_same (ts:=counting l known) (bs:=bs) (x:=yearT id known year p) rfl (by rw [hpT];exact hpp)
 have hpl:placesOf (counting l known ++ [yearT id known year p]) bs=placesOf (counting l known) bs:=sortPl_congr hperm
 have had:admitsOf (counting l known ++ [yearT id known year p])=admitsOf (counting l known):=admitsOf_more fun y hy=>by
  rw [List.mem_singleton.1 hy];simp [yearT]
 have hask:askErr (l ++ [yearT id known year p]) known bs=0:=by
  have h0:=askErr_of_with hw
  unfold askErr at h0 ⊢
  rw [if_neg (by simpa using check_snoc hck.1 hck.2)]
  rw [if_neg (by simpa using hck.1)] at h0
  split at h0
  · rename_i h;exact absurd h0 h
  · rename_i h
    rw [if_neg h]
    rw [hcnt,hperm.length_eq]
    have:admitM (counting l known ++ [yearT id known year p])=admitM (counting l known):=by
     unfold admitM
     rw [List.foldl_append,admFold_more fun y hy=>by rw [List.mem_singleton.1 hy];simp [yearT]]
    rw [this];exact h0
 have hw':withErr (l ++ [yearT id known year p]) known bs mv=0:=by
  rw [withErr_zero,hcnt,had]
  exact ⟨hask,(withErr_zero.1 hw).2⟩
 have hO':=okO_of hask
 have b1:=between_is hw hs hi hk
 have b2:=between_is hw hs hk hi
 refine ⟨by rw [b2];split<;>rfl,by rw [datesV_err,hw'],⟨y1,y2⟩,?_⟩
 rw [between_le b1 (by omega),between_le b2 (by omega),datesV_is,hw',decide_eq_true rfl,Bool.true_and,hcnt]
 rw [hcnt] at hO'
 have hok':SysOk _ (sysB (counting l known ++ [yearT id known year p]) bs mv):=sysOk_of (checkSys_years hO' mv)
 rw [Bool.eq_iff_iff,Bool.and_eq_true,decide_eq_true_iff,decide_eq_true_iff]
 unfold enough
 rw [solvedOk_iff hok']
 have hmem:∀ b,b∈sysB (counting l known ++ [yearT id known year p]) bs mv↔b∈sysB (counting l known) bs mv∨b=⟨0,k,year,id⟩∨b=⟨k,0,-year,id⟩:=by
  intro b
  unfold sysB
  rw [hpl,List.mem_map,List.mem_map]
  have e1:boundOf (ptsM (placesOf (counting l known) bs) (placesOf (counting l known) bs).length) ⟨⟨0,0⟩,placeT (yearT id known year p),year,id⟩=⟨0,k,year,id⟩:=by
   unfold boundOf
   rw [hpT,show getM (ptsM (placesOf (counting l known) bs) (placesOf (counting l known) bs).length) ⟨0,0⟩=some 0 from hi,show getM (ptsM (placesOf (counting l known) bs) (placesOf (counting l known) bs).length) p=some k from hk];rfl
  have e2:boundOf (ptsM (placesOf (counting l known) bs) (placesOf (counting l known) bs).length) ⟨placeT (yearT id known year p),⟨0,0⟩,-year,id⟩=⟨k,0,-year,id⟩:=by
   unfold boundOf
   rw [hpT,show getM (ptsM (placesOf (counting l known) bs) (placesOf (counting l known) bs).length) ⟨0,0⟩=some 0 from hi,show getM (ptsM (placesOf (counting l known) bs) (placesOf (counting l known) bs).length) p=some k from hk];rfl
  constructor
  · rintro ⟨y,hy,rfl⟩
    rcases (linksL_dated rfl y).1 hy with hy|hy
    · exact .inl ⟨y,hy,rfl⟩
    · simp only [datedL,List.mem_cons,List.not_mem_nil,or_false] at hy
      rcases hy with rfl|rfl
      · exact .inr (.inl e1)
      · exact .inr (.inr e2)
  · rintro (⟨y,hy,rfl⟩|rfl|rfl)
    · exact ⟨y,(linksL_dated rfl y).2 (.inl hy),rfl⟩
    · exact ⟨_,(linksL_dated rfl _).2 (.inr (by unfold datedL;exact List.mem_cons_self)),e1⟩
    · exact ⟨_,(linksL_dated rfl _).2 (.inr (by unfold datedL;exact List.mem_cons_of_mem _ List.mem_cons_self)),e2⟩
 have hk0:k.toNat<60:=by have:=hO.pn;omega
 constructor
 · intro hex
   have hs':solvedOk _ (sysB (counting l known ++ [yearT id known year p]) bs mv)=true:=(solvedOk_iff hok').2 hex
   obtain ⟨y,hy,hyb⟩:=sol_bounded hok' hs'
   have q1:=hy _ ((hmem _).2 (.inr (.inl rfl)))
   have q2:=hy _ ((hmem _).2 (.inr (.inr rfl)))
   simp only at q1 q2
   have hy0:∀ b∈sysB (counting l known) bs mv,y b.dst.toNat≤y b.src.toNat+b.most:=fun b hb=>hy b ((hmem b).2 (.inl hb))
   have r1:=from_low hok (show (0:Int)≤0 by omega) (show (0:Int)<_ by omega) hy0 (fun v _=>by
    have:=hyb v;have:=hyb (0:Int).toNat;unfold noneV;omega) k.toNat hk0
   have r2:=from_low hok k1 (show k<_ from k2) hy0 (fun v _=>by
    have:=hyb v;have:=hyb k.toNat;unfold noneV;omega) (0:Int).toNat (by omega)
   rw [greatestR_val,greatestR_val]
   omega
 · rintro ⟨r1,r2⟩
   obtain ⟨y,hy,he⟩:=tight hok hs (show (0:Int)≤0 by omega) (show (0:Int)<_ by omega) k1 (show k<_ from k2) y1 y2 r1 r2
   refine ⟨y,fun b hb=> ?_⟩
   rcases (hmem b).1 hb with hb|rfl|rfl
   · exact hy b hb
   · simp only;omega
   · simp only;omega
end Go.Proofs.YtelnkflmnbhclaaGreat
end
section
namespace Go.Proofs.YtelnkflmnbhclaaGreat
def isWalk:Nat→List Bound→Nat→Prop
 | a,[],p=>a=p
 | a,b::t,p=>b.src.toNat=a∧isWalk b.dst.toNat t p
def sumW:List Bound→Int
 | []=>0
 | b::t=>b.most+sumW t
theorem sumW_append:∀ u v:List Bound,sumW (u++v)=sumW u+sumW v
 | [],v=>by simp [sumW]
 | b::u,v=>by simp [sumW,sumW_append u v];omega
theorem isWalk_append:∀ {a p:Nat} {u v:List Bound},isWalk a (u++v) p ↔ ∃ q,isWalk a u q∧isWalk q v p
 | a,p,[],v=>by simp [isWalk]
 | a,p,b::u,v=>by
   have ih:= @isWalk_append b.dst.toNat p u v
   simp only [List.cons_append,isWalk,ih]
   constructor
   · rintro ⟨h,q,h1,h2⟩;exact ⟨q,⟨h,h1⟩,h2⟩
   · rintro ⟨q,⟨h,h1⟩,h2⟩;exact ⟨h,q,h1,h2⟩
theorem isWalk_sum {y:Nat→Int} :∀ {a p:Nat} {ws:List Bound},(∀ b∈ws,y b.dst.toNat≤y b.src.toNat+b.most)→isWalk a ws p→y p≤y a+sumW ws
 | a,p,[],_,h=>by cases h;simp [sumW]
 | a,p,b::t,hy,⟨h1,h2⟩=>by
   have ih:=isWalk_sum (fun c hc=>hy c (List.mem_cons_of_mem _ hc)) h2
   have:=hy b List.mem_cons_self
   rw [h1] at this
   simp only [sumW]
   omega
theorem sumW_low {bs ws:List Bound} {M:Int} (hm:∀ b∈bs,-M≤b.most) (_:0≤M) (hs:∀ b∈ws,b∈bs): -(M * ws.length)≤sumW ws:=by
 induction ws with
 | nil=>simp [sumW]
 | cons b t ih=>
   have h1:=hm b (hs b List.mem_cons_self)
   have h2:=ih (fun c hc=>hs c (List.mem_cons_of_mem _ hc))
   simp only [sumW,List.length_cons,Int.natCast_add,Int.mul_add]
   omega
def leaves (ws:List Bound):List Nat:=ws.map (fun b=>b.src.toNat)
theorem not_nodup_split {α:Type} :∀ {l:List α},¬l.Nodup→∃ x u v t,l=u++x::v++x::t
 | [],h=>absurd List.nodup_nil h
 | a::l,h=>by
   by_cases hm:a∈l
   · obtain ⟨v,t,rfl⟩:=List.append_of_mem hm
     exact ⟨a,[],v,t,by simp⟩
   · have:¬l.Nodup:=fun hn=>h (List.nodup_cons.2 ⟨hm,hn⟩)
     obtain ⟨x,u,v,t,rfl⟩:=not_nodup_split this
     exact ⟨x,a::u,v,t,by simp⟩
theorem walk_split {a p:Nat} {ws:List Bound} (hw:isWalk a ws p) (h:¬(leaves ws).Nodup):∃ q u v t,ws=u++v++t∧v ≠ []∧t ≠ []∧isWalk a u q∧isWalk q v q∧isWalk q t p:=by
 obtain ⟨x,u,v,t,e⟩:=not_nodup_split h
 unfold leaves at e
 obtain ⟨uv,t',rfl,e1,e2⟩:=List.map_eq_append_iff.1 e
 obtain ⟨u',v',rfl,e3,e4⟩:=List.map_eq_append_iff.1 e1
 obtain ⟨b,v'',rfl,hb,_⟩:=List.map_eq_cons_iff.1 e4
 obtain ⟨c,t'',rfl,hc,_⟩:=List.map_eq_cons_iff.1 e2
 obtain ⟨q2,h1,h2⟩:=isWalk_append.1 hw
 obtain ⟨q1,h3,h4⟩:=isWalk_append.1 h1
 have a1:q1=x:=h4.1.symm.trans hb
 have a2:q2=x:=h2.1.symm.trans hc
 subst a1
 subst a2
 exact ⟨q2,u',b::v'',c::t'',rfl,by simp,by simp,h3,h4,h2⟩
theorem walk_split2 {a p:Nat} {ws:List Bound} (hw:isWalk a ws p) (h:¬(leaves ws ++ [p]).Nodup):∃ q u v t,ws=u++v++t∧v ≠ []∧isWalk a u q∧isWalk q v q∧isWalk q t p:=by
 by_cases h1:(leaves ws).Nodup
 · have hp:p∈leaves ws:=by
    apply Classical.byContradiction
    intro hp
    exact h (List.nodup_append.2 ⟨h1,by simp,fun x hx y hy e=>by
     have:y=p:=by simpa using hy
     subst this;subst e;exact hp hx⟩)
   unfold leaves at hp
   obtain ⟨b,hb,hbp⟩:=List.mem_map.1 hp
   obtain ⟨u,v,rfl⟩:=List.append_of_mem hb
   obtain ⟨q,h3,h4⟩:=isWalk_append.1 hw
   have:q=p:=h4.1.symm.trans hbp
   subst this
   exact ⟨q,u,b::v,[],by simp,by simp,h3,h4,rfl⟩
 · obtain ⟨q,u,v,t,e,e1,_,e3⟩:=walk_split hw h1
   exact ⟨q,u,v,t,e,e1,e3⟩
theorem nodup_range {n:Nat} {l:List Nat} (hn:l.Nodup) (h:∀ x∈l,x<n):l.length≤n:=by
 have:=len_le_of_sub l (List.range n) hn (fun q hq=>List.mem_range.2 (h q hq))
 simpa using this
def NoCircle (bs:List Bound):Prop:=∀ a ws,(∀ b∈ws,b∈bs)→isWalk a ws a→0≤sumW ws
theorem walkIn {n:Nat} {bs:List Bound} (he:Ends n bs):∀ {a p:Nat} {ws:List Bound},(∀ b∈ws,b∈bs)→isWalk a ws p→a<n→p<n
 | a,p,[],_,h,ha=>by cases h;exact ha
 | a,p,b::t,hs,⟨h1,h2⟩,ha=>walkIn he (fun c hc=>hs c (List.mem_cons_of_mem _ hc)) h2 (he b (hs b List.mem_cons_self)).2
theorem shorten {n:Nat} {bs:List Bound} (he:Ends n bs) (hno:NoCircle bs):∀ (m a p:Nat) (ws:List Bound),ws.length≤m→a<n→(∀ b∈ws,b∈bs)→isWalk a ws p→∃ vs,vs.length<n∧(∀ b∈vs,b∈bs)∧isWalk a vs p∧sumW vs≤sumW ws
 | m,a,p,ws,hm,ha,hs,hw=>by
   by_cases h:(leaves ws ++ [p]).Nodup
   · have hl:=nodup_range h (n:=n) (fun x hx=>by
      rcases List.mem_append.1 hx with hx|hx
      · unfold leaves at hx
        obtain ⟨b,hb,rfl⟩:=List.mem_map.1 hx
        exact (he b (hs b hb)).1
      · have:x=p:=by simpa using hx
        subst this
        exact walkIn he hs hw ha)
     have:(leaves ws).length=ws.length:=by simp [leaves]
     simp only [List.length_append,List.length_cons,List.length_nil] at hl
     exact ⟨ws,by omega,hs,hw,Int.le_refl _⟩
   · obtain ⟨q,u,v,t,rfl,hv,h1,h2,h3⟩:=walk_split2 hw h
     have hvl:0<v.length:=List.length_pos_iff.2 hv
     have hsv:0≤sumW v:=hno q v (fun b hb=>hs b (by simp [hb])) h2
     cases m with
     | zero=>rw [List.length_append,List.length_append] at hm;omega
     | succ m=>
       obtain ⟨vs,a1,a2,a3,a4⟩:=shorten he hno m a p (u++t) (by simp at hm ⊢;omega) ha (fun b hb=>hs b (by
        rcases List.mem_append.1 hb with hb|hb<;>simp [hb])) (isWalk_append.2 ⟨q,h1,h3⟩)
       refine ⟨vs,a1,a2,a3,?_⟩
       rw [sumW_append] at a4
       rw [sumW_append,sumW_append]
       omega
theorem int_least {P:Int→Prop} {B:Int} (hB:∀ x,P x→B≤x):∀ (m:Nat) (x:Int),P x→(x-B).toNat≤m→∃ y,P y∧∀ z,P z→y≤z
 | m,x,hx,hm=>by
   by_cases h:∃ z,P z∧z<x
   · obtain ⟨z,hz,hlt⟩:=h
     have:=hB z hz
     cases m with
     | zero=>omega
     | succ m=>exact int_least hB m z hz (by omega)
   · exact ⟨x,hx,fun z hz=>by
      apply Classical.byContradiction
      intro hn
      exact h ⟨z,hz,by omega⟩⟩
theorem solution_of {n:Nat} {bs:List Bound} (he:Ends n bs) {M:Int} (hM:0≤M) (hm:∀ b∈bs,-M≤b.most) (hno:NoCircle bs):∃ y:Nat→Int,(∀ b∈bs,y b.dst.toNat≤y b.src.toNat+b.most)∧∀ p,p<n→ -(M * n)≤y p∧y p≤0:=by
 have hB:∀ (p:Nat) (x:Int),(∃ a ws,a<n∧(∀ b∈ws,b∈bs)∧isWalk a ws p∧sumW ws=x)→ -(M * n)≤x:=fun p x hx=>by
  obtain ⟨a,ws,h1,h2,h3,rfl⟩:=hx
  obtain ⟨vs,a1,a2,_,a4⟩:=shorten he hno ws.length a p ws (Nat.le_refl _) h1 h2 h3
  have h5:=sumW_low hm hM a2
  have h6:M * (vs.length:Int)≤M * (n:Int):=Int.mul_le_mul_of_nonneg_left (by omega) hM
  omega
 have key:∀ p:Nat,∃ y:Int,p<n→(∃ a ws,a<n∧(∀ b∈ws,b∈bs)∧isWalk a ws p∧sumW ws=y)∧∀ a ws,a<n→(∀ b∈ws,b∈bs)→isWalk a ws p→y≤sumW ws:=fun p=>by
  by_cases hp:p<n
  · obtain ⟨y,h1,h2⟩:=int_least (hB p) _ 0 ⟨p,[],hp,by simp,rfl,rfl⟩ (Nat.le_refl _)
    exact ⟨y,fun _=>⟨h1,fun a ws ha hs hw=>h2 _ ⟨a,ws,ha,hs,hw,rfl⟩⟩⟩
  · exact ⟨0,fun h=>absurd h hp⟩
 refine ⟨fun p=>Classical.choose (key p),fun b hb=> ?_,fun p hp=> ?_⟩
 · obtain ⟨⟨a,ws,h1,h2,h3,h4⟩,_⟩:=Classical.choose_spec (key b.src.toNat) (he b hb).1
   have h5:=(Classical.choose_spec (key b.dst.toNat) (he b hb).2).2 a (ws ++ [b]) h1 (fun c hc=>by
    rcases List.mem_append.1 hc with hc|hc
    · exact h2 c hc
    · have:c=b:=by simpa using hc
      subst this;exact hb) (isWalk_append.2 ⟨_,h3,rfl,rfl⟩)
   rw [sumW_append] at h5
   simp only [sumW] at h5
   simp only
   omega
 · have h:=Classical.choose_spec (key p) hp
   exact ⟨hB p _ h.1,by have:=h.2 p [] hp (by simp) rfl;simpa [sumW] using this⟩
theorem solution_iff {pts:Int} {bs:List Bound} (hok:SysOk pts bs):solvedOk pts bs=true↔NoCircle bs:=by
 rw [solvedOk_iff hok]
 constructor
 · rintro ⟨y,hy⟩ a ws hs hw
   have:=isWalk_sum (fun b hb=>hy b (hs b hb)) hw
   omega
 · intro hno
   have hp:=hok.p2
   obtain ⟨y,hy,_⟩:=solution_of (n:=pts.toNat) (fun b hb=>by
    have:=hok.b b hb
    constructor<;>omega) (M:=1000000) (by omega) (fun b hb=>(hok.b b hb).2.2.2.2.2.1) hno
   exact ⟨y,hy⟩
theorem least_simple {bs:List Bound} {a:Nat} {ws:List Bound} (hs:∀ b∈ws,b∈bs) (hw:isWalk a ws a) (hneg:sumW ws<0) (hmin:∀ c vs,(∀ b∈vs,b∈bs)→isWalk c vs c→sumW vs<0→ws.length≤vs.length):(leaves ws).Nodup:=by
 apply Classical.byContradiction
 intro h
 obtain ⟨q,u,v,t,rfl,hv,ht,h1,h2,h3⟩:=walk_split hw h
 have hvl:0<v.length:=List.length_pos_iff.2 hv
 have htl:0<t.length:=List.length_pos_iff.2 ht
 rw [sumW_append,sumW_append] at hneg
 by_cases hvn:sumW v<0
 · have:=hmin q v (fun b hb=>hs b (by simp [hb])) h2 hvn
   simp at this;omega
 · have:=hmin a (u++t) (fun b hb=>hs b (by rcases List.mem_append.1 hb with hb|hb<;>simp [hb])) (isWalk_append.2 ⟨q,h1,h3⟩) (by rw [sumW_append];omega)
   simp at this;omega
end Go.Proofs.YtelnkflmnbhclaaGreat
end
section
namespace Go.Proofs.YtelnkflmnbhclaaGreat
theorem longerStep_yes {now:Row} {st:Row×Row} {b:Bound} {i:Nat} (h:val now b.src.toNat<noneV∧val now b.src.toNat+b.most<val st.1 b.dst.toNat):longerStep now st b i=(rPut st.1 b.dst (val now b.src.toNat+b.most),rPut st.2 b.dst i):=by
 unfold longerStep
 rw [if_pos (by rw [Bool.and_eq_true];exact ⟨decide_eq_true h.1,decide_eq_true h.2⟩)];rfl
theorem longerStep_no {now:Row} {st:Row×Row} {b:Bound} {i:Nat} (h:¬(val now b.src.toNat<noneV∧val now b.src.toNat+b.most<val st.1 b.dst.toNat)):longerStep now st b i=st:=by
 unfold longerStep
 rw [if_neg (by rw [Bool.and_eq_true];exact fun e=>h ⟨of_decide_eq_true e.1,of_decide_eq_true e.2⟩)]
theorem longerTo_spec {bs:List Bound} (he:Ends 60 bs) (now:Row):∀ k,(longerTo bs now k).1.length=60∧(longerTo bs now k).2.length=60∧∀ v,v<60→
 val (longerTo bs now k).1 v≤noneV∧
 (val (longerTo bs now k).1 v=noneV∨∃ (i:Nat) (b:Bound),bs[i]? = some b∧b.dst.toNat=v∧val (longerTo bs now k).2 v=(i:Int)∧val now b.src.toNat<noneV∧val (longerTo bs now k).1 v=val now b.src.toNat+b.most)∧
 ∀ (i:Nat) (b:Bound),i<k→bs[i]? = some b→b.dst.toNat=v→val now b.src.toNat<noneV→val (longerTo bs now k).1 v≤val now b.src.toNat+b.most
 | 0=>by
   refine ⟨by simp [longerTo,emptyRow],by simp [longerTo,zeroRow],fun v hv=> ?_⟩
   have e:val (longerTo bs now 0).1 v=noneV:=by
    show val emptyRow v=noneV
    unfold val emptyRow
    rw [List.getD_eq_getElem?_getD,List.getElem?_replicate,if_pos hv];rfl
   exact ⟨by omega,.inl e,fun i b h=>absurd h (Nat.not_lt_zero _)⟩
 | k+1=>by
   obtain ⟨l1,l2,ih⟩:=longerTo_spec he now k
   cases hb:bs[k]? with
   | none=>
     have e:longerTo bs now (k+1)=longerTo bs now k:=by rw [longerTo,hb]
     rw [e]
     refine ⟨l1,l2,fun v hv=> ?_⟩
     obtain ⟨i1,i2,i3⟩:=ih v hv
     refine ⟨i1,i2,fun i b hi hib=> ?_⟩
     rcases Nat.lt_or_ge i k with h|h
     · exact i3 i b h hib
     · have:i=k:=by omega
       subst this;rw [hb] at hib;cases hib
   | some c=>
     have hc:=he c (List.mem_of_getElem? hb)
     have e:longerTo bs now (k+1)=longerStep now (longerTo bs now k) c k:=by rw [longerTo,hb]
     rw [e]
     by_cases hr:val now c.src.toNat<noneV∧val now c.src.toNat+c.most<val (longerTo bs now k).1 c.dst.toNat
     · rw [longerStep_yes hr]
       refine ⟨by simp [rPut,l1],by simp [rPut,l2],fun v hv=> ?_⟩
       obtain ⟨i1,i2,i3⟩:=ih v hv
       simp only [rPut]
       rw [val_set _ _ _ _ (by rw [l1];exact hc.2),val_set _ _ _ _ (by rw [l2];exact hc.2)]
       by_cases hv2:c.dst.toNat=v
       · rw [if_pos hv2,if_pos hv2]
         refine ⟨by rw [hv2] at hr;omega,.inr ⟨k,c,hb,hv2,rfl,hr.1,rfl⟩,fun i b hi hib hbv hbn=> ?_⟩
         rcases Nat.lt_or_ge i k with h|h
         · have:=i3 i b h hib hbv hbn
           rw [hv2] at hr
           omega
         · have:i=k:=by omega
           subst this
           rw [hb] at hib
           cases hib
           exact Int.le_refl _
       · rw [if_neg hv2,if_neg hv2]
         refine ⟨i1,i2,fun i b hi hib hbv hbn=> ?_⟩
         rcases Nat.lt_or_ge i k with h|h
         · exact i3 i b h hib hbv hbn
         · have:i=k:=by omega
           subst this
           rw [hb] at hib
           cases hib
           exact absurd hbv hv2
     · rw [longerStep_no hr]
       refine ⟨l1,l2,fun v hv=> ?_⟩
       obtain ⟨i1,i2,i3⟩:=ih v hv
       refine ⟨i1,i2,fun i b hi hib hbv hbn=> ?_⟩
       rcases Nat.lt_or_ge i k with h|h
       · exact i3 i b h hib hbv hbn
       · have:i=k:=by omega
         subst this
         rw [hb] at hib
         cases hib
         subst hbv
         omega
structure WInv (bs:List Bound) (p m:Nat) (x:Walks):Prop where
 ls:x.sums.length=m+1
 ll:x.last.length=m+1
 zero:∀ v,v<60→val (x.sums.getD 0 []) v=if v=p then 0 else noneV
 step:∀ k,k<m→∀ v,v<60→val (x.sums.getD (k+1) []) v=noneV∨∃ (i:Nat) (b:Bound),bs[i]? = some b∧b.dst.toNat=v∧val (x.last.getD (k+1) []) v=(i:Int)∧val (x.sums.getD k []) b.src.toNat<noneV∧val (x.sums.getD (k+1) []) v=val (x.sums.getD k []) b.src.toNat+b.most
 min:∀ k,k<m→∀ b∈bs,val (x.sums.getD k []) b.src.toNat<noneV→val (x.sums.getD (k+1) []) b.dst.toNat≤val (x.sums.getD k []) b.src.toNat+b.most
theorem WInv.start (bs:List Bound) (p:Nat) (hp:p<60):WInv bs p 0 (walks0 p):=
 ⟨rfl,rfl,fun v hv=>by
   show val (rPut emptyRow (p:Int) 0) v=_
   rw [val_start (by omega) (by omega),Int.toNat_natCast,if_pos hv],fun k h=>absurd h (Nat.not_lt_zero _),fun k h=>absurd h (Nat.not_lt_zero _)⟩
theorem getD_old {α:Type} {l:List α} {x d:α} {k:Nat} (h:k<l.length):(l ++ [x]).getD k d=l.getD k d:=by
 rw [List.getD_eq_getElem?_getD,List.getD_eq_getElem?_getD,List.getElem?_append_left h]
theorem getD_new {α:Type} {l:List α} {x d:α} {k:Nat} (h:k=l.length):(l ++ [x]).getD k d=x:=by
 subst h
 rw [List.getD_eq_getElem?_getD,List.getElem?_append_right (Nat.le_refl _),Nat.sub_self];rfl
theorem WInv.longer {bs:List Bound} (he:Ends 60 bs) {p m:Nat} {x:Walks} (h:WInv bs p m x):WInv bs p (m+1) (x.longer bs):=by
 have hnow:x.now=x.sums.getD m []:=by unfold Walks.now;rw [h.ls];rfl
 have hsp:=longerTo_spec he x.now bs.length
 refine ⟨by simp [Walks.longer,h.ls],by simp [Walks.longer,h.ll],fun v hv=> ?_,fun k hk v hv=> ?_,fun k hk b hb hn=> ?_⟩
 · simp only [Walks.longer]
   rw [getD_old (by rw [h.ls];omega)]
   exact h.zero v hv
 · simp only [Walks.longer]
   rcases Nat.lt_or_ge k m with hkm|hkm
   · rw [getD_old (by rw [h.ls];omega),getD_old (by rw [h.ll];omega),getD_old (by rw [h.ls];omega)]
     exact h.step k hkm v hv
   · have:k=m:=by omega
     subst this
     rw [getD_new (by rw [h.ls]),getD_new (by rw [h.ll]),getD_old (by rw [h.ls];omega),←hnow]
     exact (hsp.2.2 v hv).2.1
 · simp only [Walks.longer] at hn ⊢
   rcases Nat.lt_or_ge k m with hkm|hkm
   · rw [getD_old (by rw [h.ls];omega)] at hn
     rw [getD_old (by rw [h.ls];omega),getD_old (by rw [h.ls];omega)]
     exact h.min k hkm b hb hn
   · have:k=m:=by omega
     subst this
     rw [getD_old (by rw [h.ls];omega)] at hn
     rw [getD_new (by rw [h.ls]),getD_old (by rw [h.ls];omega)]
     rw [←hnow] at hn ⊢
     obtain ⟨i,hi⟩:=List.mem_iff_getElem?.1 hb
     exact (hsp.2.2 b.dst.toNat (he b hb).2).2.2 i b (List.getElem?_eq_some_iff.1 hi).1 hi rfl hn
theorem sumW_up {bs ws:List Bound} {M:Int} (hm:∀ b∈bs,b.most≤M) (_:0≤M) (hs:∀ b∈ws,b∈bs):sumW ws≤M * ws.length:=by
 induction ws with
 | nil=>simp [sumW]
 | cons b t ih=>
   have h1:=hm b (hs b List.mem_cons_self)
   have h2:=ih (fun c hc=>hs c (List.mem_cons_of_mem _ hc))
   simp only [sumW,List.length_cons,Int.natCast_add,Int.mul_add]
   omega
theorem snoc_of {α:Type} :∀ {k:Nat} {l:List α},l.length=k+1→∃ u x,l=u ++ [x]∧u.length=k
 | 0,[x],_=>⟨[],x,rfl,rfl⟩
 | k+1,y::l,h=>by
   obtain ⟨u,x,rfl,hu⟩:=snoc_of (k:=k) (l:=l) (by simpa using h)
   exact ⟨y::u,x,rfl,by simp [hu]⟩
theorem WInv.low {bs:List Bound} (he:Ends 60 bs) (hm:∀ b∈bs,b.most≤1000000) {p m:Nat} {x:Walks} (h:WInv bs p m x) (hm60:m≤60):∀ k,k≤m→∀ (ws:List Bound) (v:Nat),ws.length=k→(∀ b∈ws,b∈bs)→isWalk p ws v→p<60→val (x.sums.getD k []) v≤sumW ws
 | 0,_,ws,v,hl,_,hw,hp=>by
   have:ws = []:=List.eq_nil_of_length_eq_zero hl
   subst this
   have:p=v:=hw
   subst this
   rw [h.zero p hp,if_pos rfl];exact Int.le_refl _
 | k+1,hk,ws,v,hl,hs,hw,hp=>by
   obtain ⟨u,b,rfl,hu⟩:=snoc_of hl
   obtain ⟨q,h1,h2,h3⟩:=isWalk_append.1 hw
   have h3':b.dst.toNat=v:=h3
   subst h2
   subst h3'
   have hsu:∀ c∈u,c∈bs:=fun c hc=>hs c (List.mem_append_left _ hc)
   have ih:=h.low he hm hm60 k (by omega) u _ hu hsu h1 hp
   have hup:=sumW_up hm (by omega) hsu
   have:=h.min k (by omega) b (hs b (by simp)) (by unfold noneV;rw [hu] at hup;omega)
   rw [sumW_append]
   simp only [sumW]
   omega
def IxOf (bs:List Bound) (c:List Int) (ws:List Bound):Prop:=c.map (fun i=>bs[i.toNat]?)=ws.map some∧∀ i∈c,0≤i
theorem WInv.back {bs:List Bound} (he:Ends 60 bs) {p m:Nat} {x:Walks} (h:WInv bs p m x):∀ k,k≤m→∀ v:Int,v.toNat<60→val (x.sums.getD k []) v.toNat<noneV→∃ ws,IxOf bs (backTo bs x.last (k+1) v).reverse ws∧ws.length=k∧(∀ b∈ws,b∈bs)∧isWalk p ws v.toNat∧sumW ws=val (x.sums.getD k []) v.toNat
 | 0,_,v,hv,hn=>by
   rw [h.zero _ hv] at hn ⊢
   by_cases e:v.toNat=p
   · rw [if_pos e]
     exact ⟨[],⟨rfl,by simp [backTo]⟩,rfl,by simp,e.symm,rfl⟩
   · rw [if_neg e] at hn
     exact absurd hn (by omega)
 | k+1,hk,v,hv,hn=>by
   rcases h.step k (by omega) _ hv with e|⟨i,b,hib,hbv,hl,hbn,hsum⟩
   · omega
   · have hb:=List.mem_of_getElem? hib
     obtain ⟨ws,g1,g2,g3,g4,g5⟩:=h.back he k (by omega) b.src (he b hb).1 hbn
     have hrat:rAt (x.last.getD (k+1) []) v=(i:Int):=by rw [rAt_val];exact hl
     have hget:(bs.getD (rAt (x.last.getD (k+1) []) v).toNat default).src=b.src:=by
      rw [hrat,Int.toNat_natCast,List.getD_eq_getElem?_getD,hib];rfl
     refine ⟨ws ++ [b],?_,by simp [g2],fun c hc=> ?_,isWalk_append.2 ⟨_,g4,rfl,hbv⟩,?_⟩
     · rw [backTo,List.reverse_cons,hget,hrat]
       refine ⟨?_,fun j hj=> ?_⟩
       · rw [List.map_append,List.map_append,g1.1]
         simp [hib]
       · rcases List.mem_append.1 hj with hj|hj
         · exact g1.2 j hj
         · rw [List.mem_singleton.1 hj];omega
     · rcases List.mem_append.1 hc with hc|hc
       · exact g3 c hc
       · rw [List.mem_singleton.1 hc];exact hb
     · rw [sumW_append]
       simp only [sumW]
       omega
def iterW (bs:List Bound) (p:Nat):Nat→Walks
 | 0=>walks0 p
 | n+1=>(iterW bs p n).longer bs
theorem iterW_inv {bs:List Bound} (he:Ends 60 bs) {p:Nat} (hp:p<60):∀ n,WInv bs p n (iterW bs p n)
 | 0=>WInv.start bs p hp
 | n+1=>(iterW_inv he hp n).longer he
def closedS (bs:List Bound) (n p:Nat):Int:=val ((iterW bs p n).sums.getD n []) p
theorem now_closed {bs:List Bound} (he:Ends 60 bs) {p:Nat} (hp:p<60) (n:Nat):rAt (iterW bs p n).now (p:Int)=closedS bs n p:=by
 unfold closedS Walks.now
 rw [(iterW_inv he hp n).ls,rAt_val,Int.toNat_natCast];rfl
theorem crow_law {bs:List Bound} (he:Ends 60 bs) (m:Nat):∀ (n j:Nat),j+n≤60→
 ((∀ p,j≤p→p<j+n→¬closedS bs (m+1) p<0)∧circleRow bs ((List.range' j n).map (iterW bs · m)) j=((List.range' j n).map (iterW bs · (m+1)),none))∨
 ∃ p ys,j≤p∧p<j+n∧closedS bs (m+1) p<0∧circleRow bs ((List.range' j n).map (iterW bs · m)) j=(ys,some ((iterW bs p (m+1)).back bs p))
 | 0,j,_=> .inl ⟨fun p h1 h2=>absurd h2 (by omega),rfl⟩
 | n+1,j,hj=>by
   rw [List.range'_succ,List.map_cons,List.map_cons]
   have e:(iterW bs j m).longer bs=iterW bs j (m+1):=rfl
   unfold circleRow
   rw [e,now_closed he (by omega)]
   by_cases hneg:closedS bs (m+1) j<0
   · right
     rw [if_pos hneg]
     exact ⟨j,_,Nat.le_refl _,by omega,hneg,rfl⟩
   · rw [if_neg hneg]
     rcases crow_law he m n (j+1) (by omega) with ⟨h1,h2⟩|⟨p,ys,h1,h2,h3,h4⟩
     · left
       refine ⟨fun p hp1 hp2=> ?_,by rw [h2]⟩
       by_cases e:p=j
       · subst e;exact hneg
       · exact h1 p (by omega) (by omega)
     · right
       exact ⟨p,_,by omega,by omega,h3,by rw [h4]⟩
theorem cloop_law {bs:List Bound} (he:Ends 60 bs) {pts:Nat} (hp:pts≤60):∀ (n m:Nat),
 ((∀ k p,m<k→k≤m+n→p<pts→¬closedS bs k p<0)∧circleLoop bs n ((List.range pts).map (iterW bs · m)) = [])∨
 ∃ k p,m<k∧k≤m+n∧p<pts∧closedS bs k p<0∧(∀ j q,m<j→j<k→q<pts→¬closedS bs j q<0)∧circleLoop bs n ((List.range pts).map (iterW bs · m))=(iterW bs p k).back bs p
 | 0,m=> .inl ⟨fun k p h1 h2=>absurd h2 (by omega),rfl⟩
 | n+1,m=>by
   unfold circleLoop
   have hr:=crow_law he m pts 0 (by omega)
   rw [←List.range_eq_range'] at hr
   rcases hr with ⟨h1,h2⟩|⟨p,ys,h1,h2,h3,h4⟩
   · rw [h2]
     simp only
     rcases cloop_law he hp n (m+1) with ⟨g1,g2⟩|⟨k,p,g1,g2,g3,g4,g5,g6⟩
     · left
       refine ⟨fun k p hk1 hk2 hp=> ?_,g2⟩
       by_cases e:k=m+1
       · subst e;exact h1 p (by omega) (by omega)
       · exact g1 k p (by omega) (by omega) hp
     · right
       refine ⟨k,p,by omega,by omega,g3,g4,fun j q hj1 hj2 hq=> ?_,g6⟩
       by_cases e:j=m+1
       · subst e;exact h1 q (by omega) (by omega)
       · exact g5 j q (by omega) hj2 hq
   · rw [h4]
     simp only
     exact .inr ⟨m+1,p,by omega,by omega,by omega,h3,fun j q hj1 hj2 _=>absurd hj2 (by omega),rfl⟩
theorem circle_law {pts:Int} {bs:List Bound} (hok:SysOk pts bs):
 (circleX pts bs = []∧NoCircle bs)∨∃ p ws,p<pts.toNat∧IxOf bs (circleX pts bs) ws∧(circleX pts bs).length=ws.length∧ws ≠ []∧(∀ b∈ws,b∈bs)∧isWalk p ws p∧sumW ws<0∧∀ c vs,(∀ b∈vs,b∈bs)→isWalk c vs c→sumW vs<0→ws.length≤vs.length:=by
 have hp2:=hok.p2
 have hp1:=hok.p1
 have hends:Ends pts.toNat bs:=fun b hb=>by
  have:=hok.b b hb
  constructor<;>omega
 have he:Ends 60 bs:=fun b hb=>by
  have:=hends b hb
  constructor<;>omega
 have hm:∀ b∈bs,b.most≤1000000:=fun b hb=>(hok.b b hb).2.2.2.2.2.2
 have hlow:∀ a ws,(∀ b∈ws,b∈bs)→isWalk a ws a→sumW ws<0→ws.length≤pts.toNat→a<pts.toNat∧0<ws.length∧closedS bs ws.length a<0:=fun a ws hs hw hneg hlen=>by
  cases ws with
  | nil=>exact absurd hneg (by simp [sumW])
  | cons b t=>
    have ha:a<pts.toNat:=by
     have:=(hends b (hs b List.mem_cons_self)).1
     rw [hw.1] at this;exact this
    refine ⟨ha,by simp,?_⟩
    have:=(iterW_inv he (show a<60 by omega) (b::t).length).low he hm (by omega) _ (Nat.le_refl _) (b::t) a rfl hs hw (by omega)
    unfold closedS
    omega
 have hshort:∀ (n:Nat) (a:Nat) (ws:List Bound),ws.length≤n→(∀ b∈ws,b∈bs)→isWalk a ws a→sumW ws<0→∃ c vs,(∀ b∈vs,b∈bs)∧isWalk c vs c∧sumW vs<0∧vs.length≤ws.length∧vs.length≤pts.toNat:=by
  intro n
  induction n with
  | zero=>
    intro a ws hl hs hw hneg
    have:ws = []:=List.eq_nil_of_length_eq_zero (by omega)
    subst this
    exact absurd hneg (by simp [sumW])
  | succ n ih=>
    intro a ws hl hs hw hneg
    by_cases hnd:(leaves ws).Nodup
    · have h1:=nodup_range hnd (n:=pts.toNat) (fun x hx=>by
       unfold leaves at hx
       obtain ⟨b,hb,rfl⟩:=List.mem_map.1 hx
       exact (hends b (hs b hb)).1)
      have h2:(leaves ws).length=ws.length:=by simp [leaves]
      exact ⟨a,ws,hs,hw,hneg,Nat.le_refl _,by omega⟩
    · obtain ⟨q,u,v,t,rfl,hv,ht,h1,h2,h3⟩:=walk_split hw hnd
      have hvl:0<v.length:=List.length_pos_iff.2 hv
      have htl:0<t.length:=List.length_pos_iff.2 ht
      rw [sumW_append,sumW_append] at hneg
      simp only [List.length_append] at hl
      by_cases hvn:sumW v<0
      · obtain ⟨c,vs,g1,g2,g3,g4,g5⟩:=ih q v (by omega) (fun b hb=>hs b (by simp [hb])) h2 hvn
        exact ⟨c,vs,g1,g2,g3,by simp only [List.length_append];omega,g5⟩
      · obtain ⟨c,vs,g1,g2,g3,g4,g5⟩:=ih a (u++t) (by rw [List.length_append];omega) (fun b hb=>hs b (by rcases List.mem_append.1 hb with hb|hb<;>simp [hb])) (isWalk_append.2 ⟨q,h1,h3⟩) (by rw [sumW_append];omega)
        exact ⟨c,vs,g1,g2,g3,by simp only [List.length_append] at g4 ⊢;omega,g5⟩
 have hsp:=cloop_law he (pts:=pts.toNat) (by omega) pts.toNat 0
 have hx:circleX pts bs=circleLoop bs pts.toNat ((List.range pts.toNat).map (iterW bs · 0)):=rfl
 rw [←hx] at hsp
 rcases hsp with ⟨h1,h2⟩|⟨k,p,h1,h2,h3,h4,h5,h6⟩
 · left
   refine ⟨h2,fun a ws hs hw=> ?_⟩
   apply Classical.byContradiction
   intro hneg
   obtain ⟨c,vs,g1,g2,g3,_,g5⟩:=hshort ws.length a ws (Nat.le_refl _) hs hw (by omega)
   obtain ⟨i1,i2,i3⟩:=hlow c vs g1 g2 g3 g5
   exact h1 vs.length c i2 (by omega) i1 i3
 · right
   have hinv:=iterW_inv he (show p<60 by omega) k
   have hbk:(iterW bs p k).back bs p=(backTo bs (iterW bs p k).last (k+1) (p:Int)).reverse:=by
    unfold Walks.back
    rw [hinv.ll]
   obtain ⟨ws,g1,g2,g3,g4,g5⟩:=hinv.back he k (Nat.le_refl _) (p:Int) (by omega) (by
    rw [Int.toNat_natCast]
    have h4':val ((iterW bs p k).sums.getD k []) p<0:=h4
    unfold noneV;omega)
   rw [Int.toNat_natCast] at g4 g5
   have h4':val ((iterW bs p k).sums.getD k []) p<0:=h4
   refine ⟨p,ws,h3,by rw [h6,hbk];exact g1,?_,fun e=>by rw [e] at g2;simp at g2;omega,g3,g4,by omega,fun c vs hs hw hneg=> ?_⟩
   · rw [h6,hbk]
     have:=congrArg List.length g1.1
     simpa using this
   · rw [g2]
     obtain ⟨c',vs',e1,e2,e3,e4,e5⟩:=hshort vs.length c vs (Nat.le_refl _) hs hw hneg
     obtain ⟨i1,i2,i3⟩:=hlow c' vs' e1 e2 e3 e5
     rcases Nat.lt_or_ge vs'.length k with hlt|hge
     · exact absurd i3 (h5 _ _ i2 hlt i1)
     · omega
end Go.Proofs.YtelnkflmnbhclaaGreat
end
section
namespace Go.Proofs.YtelnkflmnbhclaaGreat
structure AlSt where
 sum:Int
 pt:Int
 frm:List Bool
 tos:List Bool
def bnd (bs:List Bound) (i:Int):Bound:=bs.getD i.toNat default
def alongStep (bs:List Bound) (st:AlSt) (i:Int):Option AlSt:=
 if (bnd bs i).src=st.pt∧st.frm.getD (bnd bs i).src.toNat false=false∧st.tos.getD (bnd bs i).dst.toNat false=false then
  some ⟨st.sum+(bnd bs i).most,(bnd bs i).dst,st.frm.set (bnd bs i).src.toNat true,st.tos.set (bnd bs i).dst.toNat true⟩ else none
def alongTo (bs:List Bound) (l:List Int) (a:Int):Nat→Option AlSt
 | 0=>some ⟨0,a,List.replicate 60 false,List.replicate 60 false⟩
 | k+1=>match l[k]? with
   | some i=>(alongTo bs l a k).bind (alongStep bs · i)
   | none=>alongTo bs l a k
def alongV (bs:List Bound) (a b:Int) (l:List Int):Int×Bool:=match alongTo bs l a l.length with
 | none=>(0,false)
 | some st=>(st.sum,decide (st.pt=b))
def circleB (bs:List Bound) (l:List Int):Bool:=decide (2≤l.length)&&((alongV bs (bnd bs (l.getD 0 0)).src (bnd bs (l.getD 0 0)).src l).2&&decide ((alongV bs (bnd bs (l.getD 0 0)).src (bnd bs (l.getD 0 0)).src l).1<0))
def enters (ws:List Bound):List Nat:=ws.map (fun b=>b.dst.toNat)
def Fair (a:Nat) (ws:List Bound):Prop:=(∃ q,isWalk a ws q)∧(leaves ws).Nodup∧(enters ws).Nodup
theorem fair_less {a:Nat} {u v:List Bound} (h:Fair a (u++v)):Fair a u:=by
 obtain ⟨⟨q,hq⟩,h1,h2⟩:=h
 obtain ⟨q',h3,_⟩:=isWalk_append.1 hq
 unfold leaves enters at *
 rw [List.map_append] at h1 h2
 exact ⟨⟨q',h3⟩,(List.nodup_append.1 h1).1,(List.nodup_append.1 h2).1⟩
theorem nodup_snoc {α:Type} {l:List α} {x:α} : (l ++ [x]).Nodup↔l.Nodup∧x∉l:=by
 rw [List.nodup_append]
 constructor
 · rintro ⟨h1,_,h3⟩
   exact ⟨h1,fun hx=>h3 x hx x (by simp) rfl⟩
 · rintro ⟨h1,h2⟩
   refine ⟨h1,by simp,fun y hy z hz e=> ?_⟩
   rw [List.mem_singleton.1 hz] at e
   subst e;exact h2 hy
theorem walk_unique:∀ {a p q:Nat} {ws:List Bound},isWalk a ws p→isWalk a ws q→p=q
 | _,_,_,[],h1,h2=>by cases h1;exact h2
 | _,_,_,_::_,h1,h2=>walk_unique h1.2 h2.2
theorem set_getD {l:List Bool} {i j:Nat} (hi:i<l.length):(l.set i true).getD j false=(if i=j then true else l.getD j false):=by
 rw [List.getD_eq_getElem?_getD,List.getD_eq_getElem?_getD,List.getElem?_set]
 by_cases h:i=j
 · subst h;simp [hi]
 · simp [h]
theorem rep60 (v:Nat):(List.replicate 60 false).getD v false=false:=by
 rw [List.getD_eq_getElem?_getD,List.getElem?_replicate]
 split<;>rfl
structure AlInv (a:Nat) (us:List Bound) (st:AlSt):Prop where
 sum:st.sum=sumW us
 p0:0≤st.pt
 walk:isWalk a us st.pt.toNat
 n1:(leaves us).Nodup
 n2:(enters us).Nodup
 l1:st.frm.length=60
 l2:st.tos.length=60
 f:∀ v,v<60→(st.frm.getD v false=true↔v∈leaves us)
 t:∀ v,v<60→(st.tos.getD v false=true↔v∈enters us)
theorem along_to {bs:List Bound} (hb0:∀ b∈bs,0≤b.src∧b.src<60∧0≤b.dst∧b.dst<60) {l:List Int} {ws:List Bound} (hix:IxOf bs l ws) (hws:∀ b∈ws,b∈bs) {a:Int} (ha:0≤a):∀ k,k≤l.length→
 (alongTo bs l a k=none∧¬Fair a.toNat (ws.take k))∨∃ st,alongTo bs l a k=some st∧AlInv a.toNat (ws.take k) st
 | 0,_=> .inr ⟨_,rfl,⟨rfl,ha,rfl,by simp [leaves],by simp [enters],by simp,by simp,fun v _=>by simp only;rw [rep60];simp [leaves],fun v _=>by simp only;rw [rep60];simp [enters]⟩⟩
 | k+1,hk=>by
   have hlw:l.length=ws.length:=by have:=congrArg List.length hix.1;simpa using this
   have hl:l[k]? = some l[k]:=List.getElem?_eq_getElem (by omega)
   have hw:ws[k]? = some ws[k]:=List.getElem?_eq_getElem (by omega)
   have hbk:bs[(l[k]).toNat]? = some ws[k]:=by
    have:=congrArg (·[k]?) hix.1
    simp only [List.getElem?_map,hl,hw,Option.map_some] at this
    exact Option.some.inj this
   have hbnd:bnd bs l[k]=ws[k]:=by unfold bnd;rw [List.getD_eq_getElem?_getD,hbk];rfl
   have htk:ws.take (k+1)=ws.take k ++ [ws[k]]:=by rw [List.take_add_one,hw];rfl
   have hm:=hb0 _ (hws _ (List.mem_of_getElem? hw))
   rw [alongTo,hl,htk]
   simp only
   rcases along_to hb0 hix hws ha k (by omega) with ⟨h1,h2⟩|⟨st,h1,h2⟩
   · left
     rw [h1]
     exact ⟨rfl,fun h=>h2 (fair_less h)⟩
   · rw [h1]
     simp only [Option.bind_some]
     unfold alongStep
     rw [hbnd]
     have hleaf:leaves (ws.take k ++ [ws[k]])=leaves (ws.take k) ++ [(ws[k]).src.toNat]:=by unfold leaves;rw [List.map_append];rfl
     have hent:enters (ws.take k ++ [ws[k]])=enters (ws.take k) ++ [(ws[k]).dst.toNat]:=by unfold enters;rw [List.map_append];rfl
     split
     · rename_i hc
       obtain ⟨c1,c2,c3⟩:=hc
       right
       have d1:(ws[k]).src.toNat∉leaves (ws.take k):=fun h=>by
        have:=(h2.f _ (by omega)).2 h;rw [c2] at this;cases this
       have d2:(ws[k]).dst.toNat∉enters (ws.take k):=fun h=>by
        have:=(h2.t _ (by omega)).2 h;rw [c3] at this;cases this
       refine ⟨_,rfl,⟨?_,hm.2.2.1,?_,?_,?_,by simp [h2.l1],by simp [h2.l2],fun v hv=> ?_,fun v hv=> ?_⟩⟩
       · rw [sumW_append,h2.sum];simp only [sumW];omega
       · exact isWalk_append.2 ⟨_,h2.walk,by rw [c1],rfl⟩
       · rw [hleaf];exact nodup_snoc.2 ⟨h2.n1,d1⟩
       · rw [hent];exact nodup_snoc.2 ⟨h2.n2,d2⟩
       · simp only
         rw [set_getD (by rw [h2.l1];omega),hleaf,List.mem_append,List.mem_singleton]
         by_cases e:(ws[k]).src.toNat=v
         · simp [e]
         · rw [if_neg e,h2.f v hv]
           exact ⟨.inl,fun h=>h.elim id fun h=>absurd h.symm e⟩
       · simp only
         rw [set_getD (by rw [h2.l2];omega),hent,List.mem_append,List.mem_singleton]
         by_cases e:(ws[k]).dst.toNat=v
         · simp [e]
         · rw [if_neg e,h2.t v hv]
           exact ⟨.inl,fun h=>h.elim id fun h=>absurd h.symm e⟩
     · rename_i hc
       left
       refine ⟨rfl,fun hF=>hc ?_⟩
       obtain ⟨⟨q,hq⟩,g1,g2⟩:=hF
       rw [hleaf] at g1
       rw [hent] at g2
       obtain ⟨q',q1,q2⟩:=isWalk_append.1 hq
       have e1:=walk_unique q1 h2.walk
       have e2:(ws[k]).src.toNat=q':=q2.1
       refine ⟨?_,?_,?_⟩
       · have:=h2.p0;omega
       · cases hv:st.frm.getD (ws[k]).src.toNat false with
         | false=>rfl
         | true=>exact absurd ((h2.f _ (by omega)).1 hv) (nodup_snoc.1 g1).2
       · cases hv:st.tos.getD (ws[k]).dst.toNat false with
         | false=>rfl
         | true=>exact absurd ((h2.t _ (by omega)).1 hv) (nodup_snoc.1 g2).2
theorem closed_enters:∀ {a p:Nat} {ws:List Bound},isWalk a ws p→leaves ws ++ [p]=a::enters ws
 | _,_,[],h=>by cases h;rfl
 | a,p,b::t,h=>by
   have ih:=closed_enters h.2
   have e:b.src.toNat=a:=h.1
   simp only [leaves,enters,List.map_cons,List.cons_append] at ih ⊢
   rw [ih,e]
theorem closed_nodup {a:Nat} {ws:List Bound} (h:isWalk a ws a) (hn:(leaves ws).Nodup):(enters ws).Nodup:=by
 have e:=closed_enters h
 have hp:(leaves ws ++ [a]).Perm (a::leaves ws):=List.perm_append_comm (l₂:=[a])
 rw [e] at hp
 exact ((List.perm_cons a).1 hp).nodup_iff.2 hn
theorem circleB_iff {pts:Int} {bs:List Bound} (hok:SysOk pts bs) {l:List Int} {ws:List Bound} (hix:IxOf bs l ws) (hws:∀ b∈ws,b∈bs):
 circleB bs l=true↔2≤ws.length∧(∃ a,isWalk a ws a)∧(leaves ws).Nodup∧sumW ws<0:=by
 have hp2:=hok.p2
 have hb0:∀ b∈bs,0≤b.src∧b.src<60∧0≤b.dst∧b.dst<60:=fun b hb=>by
  have:=hok.b b hb
  refine ⟨?_,?_,?_,?_⟩<;>omega
 have hlw:l.length=ws.length:=by have:=congrArg List.length hix.1;simpa using this
 unfold circleB
 rw [hlw]
 cases ws with
 | nil=>simp
 | cons b t=>
   cases l with
   | nil=>simp at hlw
   | cons i l'=>
     have hbi:bs[i.toNat]? = some b:=by
      have:=hix.1
      simp only [List.map_cons,List.cons.injEq] at this
      exact this.1
     have hbnd:bnd bs ((i::l').getD 0 0)=b:=by
      show bnd bs i=b
      unfold bnd;rw [List.getD_eq_getElem?_getD,hbi];rfl
     rw [hbnd]
     have hb:=hb0 b (hws b List.mem_cons_self)
     have hto:=along_to hb0 hix hws hb.1 (i::l').length (Nat.le_refl _)
     rw [show (b::t).take (i::l').length=b::t from List.take_of_length_le (by omega)] at hto
     simp only [Bool.and_eq_true,decide_eq_true_eq]
     unfold alongV
     rcases hto with ⟨h1,h2⟩|⟨st,h1,h2⟩
     · rw [h1]
       simp only [Bool.false_eq_true,false_and,and_false,false_iff]
       rintro ⟨_,⟨a,ha⟩,hn,_⟩
       have:a=b.src.toNat:=ha.1.symm
       subst this
       exact h2 ⟨⟨_,ha⟩,hn,closed_nodup ha hn⟩
     · rw [h1]
       simp only [decide_eq_true_eq]
       rw [h2.sum]
       have hp0:=h2.p0
       constructor
       · rintro ⟨g1,g2,g3⟩
         refine ⟨g1,⟨b.src.toNat,?_⟩,h2.n1,g3⟩
         have:=h2.walk
         rw [g2] at this;exact this
       · rintro ⟨g1,⟨a,ha⟩,_,g3⟩
         have:a=b.src.toNat:=ha.1.symm
         subst this
         have:=walk_unique ha h2.walk
         exact ⟨g1,by omega,g3⟩
end Go.Proofs.YtelnkflmnbhclaaGreat
end
section
namespace Go.Proofs.YtelnkflmnbhclaaGreat
open Go.RowKit Go.Proofs Go.Shelf
def ContraP (L:List Link) (m:List (Place×Int)) (c:List Link):Prop:=
 (∀ x∈c,x∈L)∧2≤c.length∧(∃ a,isWalk a (c.map (boundOf m)) a)∧(leaves (c.map (boundOf m))).Nodup∧sumW (c.map (boundOf m))<0
noncomputable def contraV (L:List Link) (m:List (Place×Int)) (c:List Link):Bool:= @decide (ContraP L m c) (Classical.propDecidable _)
theorem contraV_iff {L:List Link} {m:List (Place×Int)} {c:List Link} : contraV L m c=true↔ContraP L m c:= @decide_eq_true_iff _ (Classical.propDecidable _)
noncomputable def checkConflictV (l:List Trace) (known:Int) (bs:List Bond) (mv:List Place) (c:List Link):Bool×Int:=
 if withErr l known bs mv≠0 then (false,withErr l known bs mv) else (contraV (linksL (counting l known) bs mv) (ptsOf l known bs) c,0)
section
variable {l:List Trace} {known:Int} {bs:List Bond} {mv:List Place}
theorem sys_ok (hw:withErr l known bs mv=0):SysOk ((placesOf (counting l known) bs).length+1) (sysOf l known bs mv):=sysOk_of (checkSys_years (okO_of (askErr_of_with hw)) mv)
theorem dates_is (hw:withErr l known bs mv=0):(datesV l known bs mv).2.1=solvedOk ((placesOf (counting l known) bs).length+1) (sysOf l known bs mv):=by
 rw [datesV_is,hw,decide_eq_true rfl,Bool.true_and];rfl
theorem conflict_is (hw:withErr l known bs mv=0):(conflictV l known bs mv).2.1=circOk ((placesOf (counting l known) bs).length+1) (sysOf l known bs mv):=by
 unfold conflictV;rw [if_neg (by simpa using hw)]
theorem conflict_err:(conflictV l known bs mv).2.2=withErr l known bs mv:=by
 unfold conflictV
 by_cases h:withErr l known bs mv=0
 · rw [if_neg (by simpa using h),h]
 · rw [if_pos h]
theorem circOk_iff {pts:Int} {S:List Bound} : circOk pts S=true↔circleX pts S ≠ []:=by
 unfold circOk
 rw [decide_eq_true_iff]
 exact List.length_pos_iff
theorem solved_circ {pts:Int} {S:List Bound} (hok:SysOk pts S):solvedOk pts S = !circOk pts S:=by
 rw [Bool.eq_iff_iff,solution_iff hok,Bool.not_eq_true',←Bool.not_eq_true,circOk_iff,ne_eq,Classical.not_not]
 rcases circle_law hok with ⟨h1,h2⟩|⟨p,ws,_,_,hl,hne,hs,hw,hneg,_⟩
 · exact ⟨fun _=>h1,fun _=>h2⟩
 · constructor
   · intro hno
     have:=hno p ws hs hw
     omega
   · intro h
     rw [h] at hl
     exact absurd (List.eq_nil_of_length_eq_zero hl.symm) hne
theorem either_or (hw:withErr l known bs mv=0):(datesV l known bs mv).2.1 = !(conflictV l known bs mv).2.1:=by
 rw [dates_is hw,conflict_is hw,solved_circ (sys_ok hw)]
theorem either_dates (hw:withErr l known bs mv=0) {d:List Dating} (h:(checkDatesV l known bs mv d).1=true):(datesV l known bs mv).2.1=true:=by
 rw [dates_is hw,solvedOk_iff (sys_ok hw)]
 unfold checkDatesV at h
 rw [if_neg (by simpa using hw)] at h
 simp only [Bool.and_eq_true] at h
 exact ⟨fun v=>(0::d.map (·.year)).getD v 0,keepsB_iff.1 h.2⟩
theorem either_conflict (hw:withErr l known bs mv=0) {c:List Link} (h:(checkConflictV l known bs mv c).1=true):(datesV l known bs mv).2.1=false∧(conflictV l known bs mv).1.length≤c.length:=by
 have hok:=sys_ok hw
 unfold checkConflictV at h
 rw [if_neg (by simpa using hw)] at h
 simp only at h
 obtain ⟨h1,h2,⟨a,ha⟩,h4,h5⟩:=contraV_iff.1 h
 have hs:∀ b∈c.map (boundOf (ptsOf l known bs)),b∈sysOf l known bs mv:=fun b hb=>by
  obtain ⟨x,hx,rfl⟩:=List.mem_map.1 hb
  exact List.mem_map.2 ⟨x,h1 x hx,rfl⟩
 have hnot:solvedOk ((placesOf (counting l known) bs).length+1) (sysOf l known bs mv)=false:=by
  rw [←Bool.not_eq_true,solution_iff hok]
  intro hno
  have:=hno a _ hs ha
  omega
 refine ⟨by rw [dates_is hw];exact hnot,?_⟩
 unfold conflictV
 rw [if_neg (by simpa using hw)]
 simp only [someL,List.length_map]
 rcases circle_law hok with ⟨e,_⟩|⟨p,ws,_,_,hl,_,_,_,_,hmin⟩
 · rw [e];simp
 · rw [hl]
   have:=hmin a _ hs ha h5
   simpa using this
theorem either_own (hw:withErr l known bs mv=0) (h:(conflictV l known bs mv).2.1=true):(checkConflictV l known bs mv (conflictV l known bs mv).1).1=true:=by
 have hok:=sys_ok hw
 rw [conflict_is hw,circOk_iff] at h
 unfold checkConflictV conflictV
 rw [if_neg (by simpa using hw),if_neg (by simpa using hw)]
 simp only
 rw [contraV_iff]
 rcases circle_law hok with ⟨e,_⟩|⟨p,ws,_,hix,hl,hne,hs,hwk,hneg,hmin⟩
 · exact absurd e h
 · have hL:(sysOf l known bs mv).length=(linksL (counting l known) bs mv).length:=by unfold sysOf;rw [List.length_map]
   have hval:=(circleX_ok hok).2
   have hmap:(someL (linksL (counting l known) bs mv) (circleX ((placesOf (counting l known) bs).length+1) (sysOf l known bs mv))).map (boundOf (ptsOf l known bs))=ws:=by
    have h1:((someL (linksL (counting l known) bs mv) (circleX ((placesOf (counting l known) bs).length+1) (sysOf l known bs mv))).map (boundOf (ptsOf l known bs))).map some=ws.map some:=by
     rw [←hix.1]
     unfold someL
     rw [List.map_map,List.map_map]
     refine List.map_congr_left fun i hi=> ?_
     obtain ⟨i1,i2⟩:=hval i hi
     have hi2:i.toNat<(linksL (counting l known) bs mv).length:=by omega
     simp only [Function.comp]
     unfold sysOf
     rw [List.getElem?_map,List.getElem?_eq_getElem hi2,List.getD_eq_getElem?_getD,List.getElem?_eq_getElem hi2];rfl
    exact (List.map_inj_right (fun _ _ h=>Option.some.inj h)).1 h1
   refine ⟨fun x hx=> ?_,?_,⟨p,by rw [hmap];exact hwk⟩,by rw [hmap];exact least_simple hs hwk hneg hmin,by rw [hmap];exact hneg⟩
   · unfold someL at hx
     obtain ⟨i,hi,rfl⟩:=List.mem_map.1 hx
     obtain ⟨i1,i2⟩:=hval i hi
     have hi2:i.toNat<(linksL (counting l known) bs mv).length:=by omega
     rw [List.getD_eq_getElem?_getD,List.getElem?_eq_getElem hi2]
     exact List.getElem_mem _
   · have hlen:=congrArg List.length hmap
     rw [List.length_map] at hlen
     rw [hlen]
     match ws,hne,hs,hwk with
     | [],hne,_,_=>exact absurd rfl hne
     | [b],_,hs,hwk=>
       have:=hok.b b (hs b List.mem_cons_self)
       have h1:b.src.toNat=p:=hwk.1
       have h2:b.dst.toNat=p:=hwk.2
       omega
     | _::_::_,_,_,_=>simp
theorem either_kept (hw:withErr l known bs mv=0) (h:(datesV l known bs mv).2.1=true):(checkDatesV l known bs mv (datesV l known bs mv).1).1=true:=by
 have hO:=okO_of (askErr_of_with hw)
 have hok:=sys_ok hw
 have hpn:=hO.pn
 rw [dates_is hw] at h
 have hv:(datesV l known bs mv).1=datesTo (placesOf (counting l known) bs) (solvedX ((placesOf (counting l known) bs).length+1) (sysOf l known bs mv)) (placesOf (counting l known) bs).length:=by
  unfold datesV
  rw [if_neg (by simpa using hw),if_pos h]
 rw [hv]
 unfold checkDatesV
 rw [if_neg (by simpa using hw)]
 simp only [Bool.and_eq_true,datesFit,decide_eq_true_eq]
 obtain ⟨ps,hps⟩:∃ ps,placesOf (counting l known) bs=ps:=⟨_,rfl⟩
 rw [hps] at hpn h hok ⊢
 obtain ⟨X,hX⟩:∃ X,solvedX (ps.length+1) (sysOf l known bs mv)=X:=⟨_,rfl⟩
 rw [hX]
 have hz60:zeroRow.length=60:=by simp [zeroRow]
 have hXr:∀ v,v<ps.length+1→X.getD v 0=val (settledLoop (sysOf l known bs mv) ((ps.length:Int)+1+1).toNat (zeroRow,lasts)).1 v:=fun v hv=>by
  rw [←hX]
  unfold solvedX
  rw [if_pos h]
  rw [List.getD_eq_getElem?_getD,List.getElem?_take,if_pos (by omega)]
  unfold val
  rw [List.getD_eq_getElem?_getD];rfl
 have hle:=loop_le (bs:=sysOf l known bs mv) ((ps.length:Int)+1+1).toNat (zeroRow,lasts) (ends60 hok hz60)
 have hends:Ends (ps.length+1) (sysOf l known bs mv):=fun b hb=>by
  have:=hok.b b hb
  constructor<;>omega
 have hmost:∀ b∈sysOf l known bs mv,-10000≤b.most:=fun b hb=>by
  unfold sysOf at hb
  obtain ⟨x,hx,rfl⟩:=List.mem_map.1 hb
  obtain ⟨_,_,_,g4,_,_,_⟩:=linksL_good hO mv x hx
  exact g4
 obtain ⟨y,hy,hyb⟩:=solution_of hends (M:=10000) (by omega) hmost ((solution_iff hok).1 h)
 have hlow:=loop_low (bs:=sysOf l known bs mv) (y:=fun v=>if v<ps.length+1 then y v else 0) (fun b hb _=>by
  have h1:=hends b hb
  have h2:=hy b hb
  try simp only
  rw [if_pos h1.1,if_pos h1.2];exact h2) ((ps.length:Int)+1+1).toNat (zeroRow,lasts) (ends60 hok hz60) (fun v=>by
  try simp only
  rw [val_zero]
  split
  · exact (hyb v (by assumption)).2
  · exact Int.le_refl _)
 have hrange:∀ v,v<ps.length+1→ -510000≤X.getD v 0∧X.getD v 0≤0:=fun v hv=>by
  have h1:=hle v
  have h2:=hlow v
  simp only [val_zero,if_pos hv] at h1 h2
  have h3:=(hyb v hv).1
  have h4:(10000:Int) * ((ps.length+1:Nat):Int)≤510000:=by omega
  rw [hXr v hv]
  omega
 have hkept:∀ b∈sysOf l known bs mv,X.getD b.dst.toNat 0≤X.getD b.src.toNat 0+b.most:=fun b hb=>by
  have h1:=hends b hb
  rw [hXr _ h1.1,hXr _ h1.2]
  refine loop_fix _ _ (ends60 hok hz60) h b hb ?_
  have:=hle b.src.toNat
  simp only [val_zero] at this
  unfold noneV
  omega
 have hto:∀ k,k≤ps.length→(datesTo ps X k).map (·.place)=ps.take k∧(datesTo ps X k).map (·.year)=(List.range k).map (fun i=>X.getD (i+1) 0-X.getD 0 0):=fun k=>by
  induction k with
  | zero=>intro _;exact ⟨rfl,rfl⟩
  | succ k ih=>
    intro hk
    obtain ⟨i1,i2⟩:=ih (by omega)
    rw [datesTo,List.map_append,List.map_append,i1,i2,List.range_succ,List.map_append]
    refine ⟨?_,rfl⟩
    rw [List.take_add_one,List.getElem?_eq_getElem (by omega:k<ps.length)]
    congr 1
    simp only [List.map_cons,List.map_nil,Option.toList_some]
    rw [List.getD_eq_getElem?_getD,List.getElem?_eq_getElem (by omega:k<ps.length)];rfl
 obtain ⟨t1,t2⟩:=hto ps.length (Nat.le_refl _)
 have hat:∀ v,v<ps.length+1→(0::(datesTo ps X ps.length).map (·.year)).getD v 0=X.getD v 0-X.getD 0 0:=fun v hv=>by
  rw [t2]
  cases v with
  | zero=>simp
  | succ v=>
    rw [List.getD_cons_succ,List.getD_eq_getElem?_getD,List.getElem?_map,List.getElem?_range (by omega)];rfl
 refine ⟨⟨by rw [t1,List.take_length],?_⟩,keepsB_iff.2 fun b hb=> ?_⟩
 · rw [List.all_eq_true]
   intro d hd
   have hm:d.year∈(datesTo ps X ps.length).map (·.year):=List.mem_map.2 ⟨d,hd,rfl⟩
   rw [t2] at hm
   obtain ⟨i,hi,e⟩:=List.mem_map.1 hm
   have hi':=List.mem_range.1 hi
   have h1:=hrange (i+1) (by omega)
   have h2:=hrange 0 (by omega)
   rw [inB_iff]
   omega
 · have h1:=hends b hb
   rw [hat _ h1.1,hat _ h1.2]
   have:=hkept b hb
   omega
end
end Go.Proofs.YtelnkflmnbhclaaGreat
end
section
namespace Go.Proofs.YtelnkflmnbhclaaGreat
open Go.RowKit Go.Proofs Go.Shelf
def walkP:Place→List Link→Place→Prop
 | p,[],q=>p=q
 | p,x::t,q=>x.src=p∧walkP x.dst t q
def sumL:List Link→Int
 | []=>0
 | x::t=>x.most+sumL t
def CircP (L c:List Link):Prop:=(∀ x∈c,x∈L)∧2≤c.length∧(∃ p,walkP p c p)∧(c.map (·.src)).Nodup∧sumL c<0
theorem sumL_eq (m:List (Place×Int)):∀ c:List Link,sumW (c.map (boundOf m))=sumL c
 | []=>rfl
 | x::t=>by simp only [List.map_cons,sumW,sumL,sumL_eq m t,boundOf]
section
variable {ps:List Place}
def numP (ps:List Place) (p:Place):Nat:=((getM (ptsM ps ps.length) p).getD 0).toNat
theorem numP_inj (hn:ps.Nodup) (hz:z00∉ps) {p q:Place} (hp:p=z00∨p∈ps) (hq:q=z00∨q∈ps) (h:numP ps p=numP ps q):p=q:=by
 obtain ⟨v,hv⟩:=ptsM_some ps hn hz hp
 obtain ⟨u,hu⟩:=ptsM_some ps hn hz hq
 have h1:=ptsM_range ps hv
 have h2:=ptsM_range ps hu
 unfold numP at h
 rw [hv,hu] at h
 simp only [Option.getD_some] at h
 have:v=u:=by omega
 subst this
 exact ptsM_inj ps hn hv hu
theorem walk_num (hn:ps.Nodup) (hz:z00∉ps):∀ {c:List Link} {p q:Place},(∀ x∈c,goodLink ps x)→(p=z00∨p∈ps)→(q=z00∨q∈ps)→(isWalk (numP ps p) (c.map (boundOf (ptsM ps ps.length))) (numP ps q)↔walkP p c q)
 | [],p,q,_,hp,hq=>⟨fun h=>numP_inj hn hz hp hq h,fun h=>by rw [show p=q from h];rfl⟩
 | x::t,p,q,hg,hp,hq=>by
   have hx:=hg x List.mem_cons_self
   have ih:=walk_num hn hz (c:=t) (p:=x.dst) (q:=q) (fun y hy=>hg y (List.mem_cons_of_mem _ hy)) hx.2.1 hq
   constructor
   · rintro ⟨h1,h2⟩
     exact ⟨numP_inj hn hz hx.1 hp h1,ih.1 h2⟩
   · rintro ⟨h1,h2⟩
     exact ⟨by rw [←h1];rfl,ih.2 h2⟩
theorem leaves_num (c:List Link):leaves (c.map (boundOf (ptsM ps ps.length)))=c.map fun x=>numP ps x.src:=by
 unfold leaves
 rw [List.map_map];rfl
theorem nodup_num (hn:ps.Nodup) (hz:z00∉ps):∀ {l:List Place},(∀ p∈l,p=z00∨p∈ps)→((l.map (numP ps)).Nodup↔l.Nodup)
 | [],_=>by simp
 | p::l,h=>by
   rw [List.map_cons,List.nodup_cons,List.nodup_cons,nodup_num hn hz fun q hq=>h q (List.mem_cons_of_mem _ hq)]
   refine and_congr_left fun _=>not_congr ⟨fun hm=> ?_,fun hm=>List.mem_map_of_mem hm⟩
   obtain ⟨q,hq,e⟩:=List.mem_map.1 hm
   rw [←numP_inj hn hz (h q (List.mem_cons_of_mem _ hq)) (h p List.mem_cons_self) e]
   exact hq
theorem contra_circ (hn:ps.Nodup) (hz:z00∉ps) {L c:List Link} (hL:∀ x∈L,goodLink ps x):ContraP L (ptsM ps ps.length) c↔CircP L c:=by
 unfold ContraP CircP
 refine and_congr_right fun hin=>and_congr_right fun hlen=> ?_
 have hg:∀ x∈c,goodLink ps x:=fun x hx=>hL x (hin x hx)
 refine and_congr ⟨?_,?_⟩ (and_congr ?_ ?_)
 · rintro ⟨a,ha⟩
   match c,hlen,hg,ha with
   | x::t,_,hg,ha=>
     have hx:=(hg x List.mem_cons_self).1
     have:a=numP ps x.src:=ha.1.symm
     subst this
     exact ⟨x.src,(walk_num hn hz hg hx hx).1 ha⟩
 · rintro ⟨p,hp⟩
   match c,hlen,hg,hp with
   | x::t,_,hg,hp=>
     have hx:=(hg x List.mem_cons_self).1
     have:x.src=p:=hp.1
     subst this
     exact ⟨numP ps x.src,(walk_num hn hz hg hx hx).2 hp⟩
 · rw [leaves_num,←nodup_num hn hz (l:=c.map (·.src)) (fun p hp=>by
    obtain ⟨x,hx,rfl⟩:=List.mem_map.1 hp
    exact (hg x hx).1),List.map_map];rfl
 · rw [sumL_eq]
end
theorem contra_years {ts:List Trace} {bs:List Bond} (h:OkO ts bs) (mv:List Place) {c:List Link} : ContraP (linksL ts bs mv) (ptsM (placesOf ts bs) (placesOf ts bs).length) c↔CircP (linksL ts bs mv) c:=
 contra_circ (placesOf_nodup ts bs) (z00_not h) (linksL_good h mv)
end Go.Proofs.YtelnkflmnbhclaaGreat
end

/- Contracts that the laws lean on: KnoP, KnoL. -/
import Derived.Test.YtelnkflmnbhclaaGreatH03
import Derived.Test.YtelnkflmnbhclaaGreatH01
import Derived.Test.YtelnkflmnbhclaaGreatH05
import Derived.Test.YtelnkflmnbhclaaGreatH04
import Derived.Test.YtelnkflmnbhclaaGreatH02
import Derived.Test.YtelnkflmnbhclaaGreatH06
import Derived.Test.YtelnkflmnbhclaaGreatK24
section
namespace Go.Proofs.YtelnkflmnbhclaaGreat
open Go.RowKit Go.Proofs Go.Shelf
def earlyOf2 (l:List Trace) (known:Int):List Trace:=l.filter fun x=>decide (x.known≤known)
theorem check_take {l:List Trace} (h:(check l).2=0):∀ m,m≤l.length→(check (l.take m)).2=0
 | 0,_=>rfl
 | m+1,hm=>by
   have hl:l[m]? = some l[m]:=List.getElem?_eq_getElem (by omega)
   rw [List.take_add_one,hl]
   exact check_snoc (check_take h m (by omega)) (check_ok h m _ hl)
theorem follows_time {l:List Trace} {x:Trace} (h:follows l x=0):lastLater l x=false:=by
 unfold follows at h
 split at h
 · cases h
 · split at h
   · cases h
   · split at h
     · cases h
     · split at h
       · cases h
       · rename_i h4;simpa using h4
theorem known_sorted {l:List Trace} (h:(check l).2=0):∀ i x y,l[i]? = some x→l[i+1]? = some y→x.known≤y.known:=by
 intro i x y hx hy
 have h1:=follows_time (check_ok h (i+1) y hy)
 have hl:(l.take (i+1)).getLast? = some x:=by
  rw [List.take_add_one,hx]
  simp
 unfold lastLater at h1
 rw [hl] at h1
 simpa using h1
theorem early_take {l:List Trace} (known:Int):(∀ i x y,l[i]? = some x→l[i+1]? = some y→x.known≤y.known)→∃ m,m≤l.length∧earlyOf2 l known=l.take m:=by
 induction l with
 | nil=>intro _;exact ⟨0,Nat.le_refl _,rfl⟩
 | cons x l ih=>
   intro h
   obtain ⟨m,hm,he⟩:=ih fun i a b ha hb=>h (i+1) a b (by simpa using ha) (by simpa using hb)
   by_cases hx:x.known≤known
   · refine ⟨m+1,by simpa using hm,?_⟩
     unfold earlyOf2 at he ⊢
     rw [List.filter_cons_of_pos (by simpa using hx),he,List.take_succ_cons]
   · refine ⟨0,Nat.zero_le _,?_⟩
     unfold earlyOf2
     rw [List.take_zero,List.filter_eq_nil_iff]
     have hall:∀ (i:Nat) (y:Trace),(x::l)[i]? = some y→x.known≤y.known:=fun i=>by
      induction i with
      | zero=>intro y hy;simp at hy;subst hy;exact Int.le_refl _
      | succ i ih2=>
        intro y hy
        have hlt:=(List.getElem?_eq_some_iff.1 hy).1
        have h0:(x::l)[i]? = some (x::l)[i]:=List.getElem?_eq_getElem (by omega)
        exact Int.le_trans (ih2 _ h0) (h i _ y h0 hy)
     intro y hy
     obtain ⟨i,hi⟩:=List.mem_iff_getElem?.1 hy
     have:=hall i y hi
     simp only [decide_eq_true_eq]
     omega
theorem check_early {l:List Trace} (h:(check l).2=0) (known:Int):(check (earlyOf2 l known)).2=0:=by
 obtain ⟨m,hm,e⟩:=early_take (l:=l) known (known_sorted h)
 rw [e]
 exact check_take h m hm
theorem counting_early (l:List Trace) (known:Int):counting (earlyOf2 l known) known=counting l known:=by
 have hany:∀ x,(earlyOf2 l known).any (pv known x)=l.any (pv known x):=fun x=>by
  unfold earlyOf2
  rw [List.any_filter]
  congr 1
  funext v
  unfold pv
  cases decide (v.known≤known)<;>simp
 have hpc:∀ x,pc (earlyOf2 l known) known x=pc l known x:=fun x=>by unfold pc;rw [hany]
 unfold counting
 simp only [hpc]
 unfold earlyOf2
 rw [List.filter_filter]
 refine List.filter_congr fun x _=> ?_
 unfold pc
 by_cases hx:x.known≤known
 · simp [hx]
 · have:known<x.known:=by omega
   simp [hx,this]
theorem askErr_early {l:List Trace} (h:(check l).2=0) (known:Int) (bs:List Bond):askErr (earlyOf2 l known) known bs=askErr l known bs:=by
 unfold askErr
 rw [check_early h,h,counting_early]
theorem cheapV_early {l:List Trace} (h:(check l).2=0) (known:Int) (bs:List Bond):cheapV (earlyOf2 l known) known bs=cheapV l known bs:=by
 unfold cheapV setsOf
 rw [askErr_early h,counting_early]
theorem counting_void {l:List Trace} {v:Trace} {known:Int} (hk:v.kind=4) (hv:v.known≤known):counting (l ++ [v]) known=(counting l known).filter fun y=> !decide (v.void=y.id):=by
 unfold counting
 rw [List.filter_append,List.filter_cons_of_neg (by unfold pc;simp [hk]),List.filter_nil,List.append_nil,List.filter_filter]
 refine List.filter_congr fun x _=> ?_
 unfold pc
 rw [List.any_append]
 have:([v].any (pv known x))=decide (v.void=x.id):=by simp [pv,hk,hv]
 rw [this]
 cases decide (x.kind=4)<;>cases decide (known<x.known)<;>cases l.any (pv known x)<;>cases decide (v.void=x.id)<;>rfl
theorem placesOf_less {ts:List Trace} {bs:List Bond} {q:Trace→Bool} : (placesOf (ts.filter q) bs).length≤(placesOf ts bs).length:=by
 refine len_le_of_sub _ _ (placesOf_nodup _ _) fun p hp=> ?_
 rw [placesOf_mem] at hp ⊢
 unfold placeList at hp ⊢
 rcases List.mem_append.1 hp with hp|hp
 · obtain ⟨x,hx,hp⟩:=List.mem_flatMap.1 hp
   exact List.mem_append_left _ (List.mem_flatMap.2 ⟨x,(List.mem_filter.1 hx).1,hp⟩)
 · exact List.mem_append_right _ hp
theorem admitsOf_less {ts:List Trace} {q:Trace→Bool} : (admitsOf (ts.filter q)).length≤(admitsOf ts).length:=by
 have e:∀ us:List Trace,(admitsOf us).length=((admitM us).map (·.1)).length:=fun us=>by rw [admitsOf_len,(sortPl_perm _).length_eq]
 rw [e,e]
 refine len_le_of_sub _ _ (admFold_nodup _ [] List.nodup_nil) fun p hp=> ?_
 have hp':=(admitM_keys (ts.filter q) [] p).1 hp
 refine (admitM_keys ts [] p).2 (.inr ?_)
 rcases hp' with hp'|hp'
 · cases hp'
 · unfold movedPl at hp' ⊢
   obtain ⟨x,hx,e⟩:=List.mem_map.1 hp'
   obtain ⟨h1,h2⟩:=List.mem_filter.1 hx
   exact List.mem_map.2 ⟨x,List.mem_filter.2 ⟨(List.mem_filter.1 h1).1,h2⟩,e⟩
theorem askErr_void {l:List Trace} {v:Trace} {known:Int} {bs:List Bond} (h:askErr l known bs=0) (hf:follows l v=0) (hk:v.kind=4) (hv:v.known≤known):askErr (l ++ [v]) known bs=0:=by
 obtain ⟨s1,s2⟩:=askErr_sizes h
 have hck:(check l).2=0∧checkBonds bs=0:=by
  rcases askErr_cases l known bs with ⟨a,b⟩|⟨a,b,c⟩|⟨a,b,_⟩|⟨a,b,_⟩|⟨a,b,_⟩
  · exact absurd (b.symm.trans h) a
  · exact absurd (c.symm.trans h) b
  · exact ⟨a,b⟩
  · exact ⟨a,b⟩
  · exact ⟨a,b⟩
 have c1:=check_snoc hck.1 hf
 have n1:=placesOf_less (ts:=counting l known) (bs:=bs) (q:=fun y=> !decide (v.void=y.id))
 have n2:=admitsOf_less (ts:=counting l known) (q:=fun y=> !decide (v.void=y.id))
 rw [←counting_void hk hv] at n1 n2
 rcases askErr_cases (l ++ [v]) known bs with ⟨a,b⟩|⟨a,b,c⟩|⟨a,b,c,_⟩|⟨a,b,c,d,_⟩|⟨a,b,c,d,e⟩
 · exact absurd c1 a
 · exact absurd hck.2 b
 · omega
 · omega
 · exact e
theorem linkT_by {t:Trace} {x:Link} (h:x∈linkT t):x.by_=t.id:=by
 unfold linkT aboveL datedL at h
 split at h
 · simp only [List.mem_singleton] at h;rw [h]
 · split at h
   · simp only [List.mem_cons,List.not_mem_nil,or_false] at h
     rcases h with rfl|rfl<;>rfl
   · cases h
theorem known_stays {l:List Trace} {v:Trace} {known:Int} {bs:List Bond} (hw:withErr l known bs []=0) (hc:(conflictV l known bs []).2.1=true) (hf:follows l v=0) (hk:v.kind=4) (hv:v.known≤known)
 (hno:∀ y∈(conflictV l known bs []).1,y.by_≠0→y.by_≠v.void):checkConflictV (l ++ [v]) known bs [] (conflictV l known bs []).1=(true,0):=by
 have ha:=askErr_of_with hw
 have hO:=okO_of ha
 have ha':=askErr_void ha hf hk hv
 have hO':=okO_of ha'
 have hw':withErr (l ++ [v]) known bs []=0:=by
  unfold withErr
  rw [if_neg (by simpa using ha')]
  exact admittedErr_zero.2 ⟨List.Pairwise.nil,fun p hp=>by cases hp⟩
 have h1:=either_own hw hc
 obtain ⟨cl,hcl⟩:∃ cl,(conflictV l known bs []).1=cl:=⟨_,rfl⟩
 rw [hcl] at h1 hno ⊢
 unfold checkConflictV at h1 ⊢
 rw [if_neg (by simpa using hw)] at h1
 rw [if_neg (by simpa using hw')]
 obtain ⟨g1,g2,g3,g4,g5⟩:=(contra_years hO []).1 (contraV_iff.1 h1)
 refine Prod.ext ?_ rfl
 refine contraV_iff.2 ((contra_years hO' []).2 ⟨fun x hx=> ?_,g2,g3,g4,g5⟩)
 rw [counting_void hk hv]
 have hxL:=g1 x hx
 unfold linksL at hxL ⊢
 rcases List.mem_append.1 hxL with h2|h2
 · obtain ⟨t,ht,hxt⟩:=List.mem_flatMap.1 h2
   refine List.mem_append_left _ (List.mem_flatMap.2 ⟨t,List.mem_filter.2 ⟨ht,?_⟩,hxt⟩)
   have hb:=linkT_by hxt
   have hid:=(okT_parts (hO.t t ht).1 (hO.t t ht).2).2.1
   have:=hno x hx (by omega)
   simp only [Bool.not_eq_true',decide_eq_false_iff_not]
   omega
 · exact List.mem_append_right _ h2
end Go.Proofs.YtelnkflmnbhclaaGreat
end
section
namespace Go.Proofs.YtelnkflmnbhclaaGreat
open Go.RowKit Go.Proofs Go.Shelf
def lastOf (l:List Trace):Int:=match l.getLast? with|some x=>x.known|none=>0
theorem lastOf_snoc (l:List Trace) (x:Trace):lastOf (l ++ [x])=x.known:=by unfold lastOf;simp
theorem early_snoc (l:List Trace) (x:Trace) (known:Int):earlyOf2 (l ++ [x]) known=earlyOf2 l known++(if x.known≤known then [x] else []):=by
 unfold earlyOf2
 rw [List.filter_append]
 congr 1
 by_cases h:x.known≤known
 · rw [if_pos h,List.filter_cons_of_pos (by simpa using h),List.filter_nil]
 · rw [if_neg h,List.filter_cons_of_neg (by simpa using h),List.filter_nil]
theorem conflict_len60 {l:List Trace} {known:Int} {bs:List Bond} {mv:List Place} : (conflictV l known bs mv).1.length≤60:=by
 unfold conflictV
 by_cases hw:withErr l known bs mv=0
 · rw [if_neg (by simpa using hw)]
   have:=(circleX_ok (sys_ok hw)).1
   simp only [someL,List.length_map]
   exact this
 · rw [if_pos hw];simp
theorem cheapV_len {l:List Trace} {known:Int} {bs:List Bond} : (cheapV l known bs).2.1.length≤1000000:=by
 by_cases he:askErr l known bs=0
 · have had:=(askErr_sizes he).2
   unfold cheapV
   rw [if_neg (by simpa using he)]
   split
   · simp
   · rename_i s t hs
     have hmem:s∈(setsOf l known bs).2:=by rw [hs];exact List.mem_cons_self
     obtain ⟨b,_,e,_⟩:=(chpInv _ _ _).from_ s ((sortLx_perm _).mem_iff.1 hmem)
     have:=setTo_len (admitsOf (counting l known)) b (admitsOf (counting l known)).length
     rw [←e] at this
     simp only
     omega
 · unfold cheapV;rw [if_pos he];simp
def voidT (id la void:Int):Trace:=⟨id,la,4,0,0,0,0,0,0,void⟩
set_option maxRecDepth 100000 in
set_option maxHeartbeats 8000000 in
theorem stratumKnown_of (lA:Option Addr) (ln lc:Nat) (l:List Trace) (hl0:l.length=ln) (known:Int) (bA:Option Addr) (bn bc:Nat) (b:List Bond) (hb0:b.length=bn) (id void:Int) (w:World) (rl:ln≤17592186044416→Rd encTrace 10 w lA ln lc l) (rb:bn≤17592186044416→Rd encBond 5 w bA bn bc b):
 Calls Tryz.prog 18 #[.slice lA ln lc,.int .i64 known,.slice bA bn bc,.int .i64 id,.int .i64 void] w fun e w'=>e = .returned (.bool true)∧Below w.heap.size w w':=by
 have HDUG:=Lib.hid dug_any
 by_cases hfew:fewB ln bn 20=true
 case neg=>
  have hfew':fewB ln bn 20=false:=by simpa using hfew
  have HF:=Lib.hid hfew'
  clear hfew hfew' rl rb hl0 hb0
  go_enter Tryz.func18,Tryz.ntmps18
  go_wp2_with (first
   | (go_at_call 23;(with_reducible refine (few_any _ _ _ _ _ _ _ _).mono ?_);rintro e w2 ⟨rfl,rfl⟩;rw [HF.out])
   | (go_at_call 22;(with_reducible refine (HDUG.out _).mono ?_);rintro e w7 ⟨rfl,hb7⟩;have HB7:=Lib.hid hb7;clear hb7))
  go_ret
  exact ⟨rfl,HB7.out⟩
 case pos=>
  obtain ⟨hn,hm⟩:=fewB_small hfew (by decide)
  have HF:=Lib.hid hfew
  have RL:Hid (∀ W,Below w.heap.size w W→Rd encTrace 10 W lA ln lc l):=(show ∀ W,Below w.heap.size w W→Rd encTrace 10 W lA ln lc l from fun W h=>(rl (by omega)).below h (Nat.le_refl _))
  have RB:Hid (∀ W,Below w.heap.size w W→Rd encBond 5 W bA bn bc b):=(show ∀ W,Below w.heap.size w W→Rd encBond 5 W bA bn bc b from fun W h=>(rb (by omega)).below h (Nat.le_refl _))
  have HB1:=Lib.hid (Below.refl w.heap.size w)
  have HN0:=Lib.hid hl0
  have KC:=Lib.hid (Check_any lA ln lc l w (rl (by omega)))
  clear hfew rl rb hb0
  by_cases hck:(check l).2=0
  case neg=>
   have he':=neBool hck
   clear hck hl0
   generalize (check l).2=er at *
   go_enter Tryz.func18,Tryz.ntmps18
   go_wp2_with (first
    | (go_at_call 23;(with_reducible refine (few_any _ _ _ _ _ _ _ _).mono ?_);rintro e w2 ⟨rfl,hw2⟩;obtain rfl:=hw2.symm;rw [HF.out])
    | (go_at_call 42;(with_reducible refine KC.out.mono ?_);rintro e w2 ⟨rfl,hb2⟩;have HB2:=Lib.hid hb2;clear hb2)
    | (go_at_call 22;(with_reducible refine (HDUG.out _).mono ?_);rintro e w7 ⟨rfl,hb7⟩;have HB7:=Lib.hid (HB2.out.trans (hb7.mono HB2.out.size));clear hb7))
   go_ret
   exact ⟨rfl,HB7.out⟩
  case pos=>
   have HCK:=Lib.hid hck
   rw [hck] at KC
   clear hck hl0
   go_enter Tryz.func18,Tryz.ntmps18
   go_wp2_with (first
    | (go_at_call 23;(with_reducible refine (few_any _ _ _ _ _ _ _ _).mono ?_);rintro e w2 ⟨rfl,hw2⟩;obtain rfl:=hw2.symm;rw [HF.out])
    | (go_at_call 42;(with_reducible refine KC.out.mono ?_);rintro e w2 ⟨rfl,hb2⟩;have HB2:=Lib.hid hb2;clear hb2))
   go_loopw [13,14,15] (fun s13 s14 s15 wr=> ∃ (k:Nat) (A':Option Addr) (c':Nat) (xs:List Trace) (la:Int),k≤ln∧s13 = .slice A' xs.length c'∧s14 = .int .i64 la∧s15 = .int .i64 k∧xs.length≤k∧Hid (Below w.heap.size w wr)∧Hid (xs=earlyOf2 (l.take k) known)∧Hid (la=lastOf (l.take k))∧Hid (Own encTrace 10 25 w.heap.size wr A' xs.length c' xs)) (fun _ _ s15 _=>ln-(intOf s15).toNat)
   case atStart=>exact ⟨0,none,0,[],0,Nat.zero_le _,rfl,rfl,rfl,by simp,HB2,(show _=_ from rfl),(show _=_ from rfl),(show Own _ _ _ _ _ _ _ _ _ from Own.none_ _ _ _ _ _)⟩
   case round=>
    rename World=>wo
    obtain ⟨k,A',c',xs,la,hk,rfl,rfl,rfl,hxl,hbl,hxs,hla,hO⟩:=hrel
    have hzr:=hbl.out.size
    by_cases hlt:k<ln
    · obtain ⟨bb,off,x,rfl,hbw,hx,hcell⟩:=(RL.out wo hbl.out).one hlt
      have c0:wo.cell? ⟨bb,off+k * 10,none⟩=some (.int .i64 x.id):=hcell 0 _ rfl
      have c1:wo.cell? ⟨bb,off+k * 10+1,none⟩=some (.int .i64 x.known):=hcell 1 _ rfl
      have c2:wo.cell? ⟨bb,off+k * 10+2,none⟩=some (.int .u8 x.kind):=hcell 2 _ rfl
      have c3:wo.cell? ⟨bb,off+k * 10+3,none⟩=some (.int .i64 x.pit):=hcell 3 _ rfl
      have c4:wo.cell? ⟨bb,off+k * 10+4,none⟩=some (.int .i64 x.layer):=hcell 4 _ rfl
      have c5:wo.cell? ⟨bb,off+k * 10+5,none⟩=some (.int .i64 x.lower):=hcell 5 _ rfl
      have c6:wo.cell? ⟨bb,off+k * 10+6,none⟩=some (.int .i64 x.low):=hcell 6 _ rfl
      have c7:wo.cell? ⟨bb,off+k * 10+7,none⟩=some (.int .i64 x.high):=hcell 7 _ rfl
      have c8:wo.cell? ⟨bb,off+k * 10+8,none⟩=some (.int .i64 x.cost):=hcell 8 _ rfl
      have c9:wo.cell? ⟨bb,off+k * 10+9,none⟩=some (.int .i64 x.void):=hcell 9 _ rfl
      have SN:Hid (earlyOf2 (l.take (k+1)) known=xs++(if x.known≤known then [x] else [])∧lastOf (l.take (k+1))=x.known):=(show _∧_ from by
       rw [List.take_add_one,hx,Option.toList_some,early_snoc,lastOf_snoc,hxs.out];exact ⟨rfl,rfl⟩)
      clear hcell hx
      by_cases hkn:x.known≤known
      · have SE:Hid (earlyOf2 (l.take (k+1)) known=xs ++ [x]):=(show _=_ by rw [SN.out.1,if_pos hkn])
        have hO6:=hO.out.alloc (.cells #[.int .i64 x.id,.int .i64 x.known,.int .u8 x.kind,.int .i64 x.pit,.int .i64 x.layer,.int .i64 x.lower,.int .i64 x.low,.int .i64 x.high,.int .i64 x.cost,.int .i64 x.void] 25)
        have hrd6:=Rd.single (enc:=encTrace) (k:=10) wo #[.int .i64 x.id,.int .i64 x.known,.int .u8 x.kind,.int .i64 x.pit,.int .i64 x.layer,.int .i64 x.lower,.int .i64 x.low,.int .i64 x.high,.int .i64 x.cost,.int .i64 x.void] 25 [x] 1 rfl (by omega) lenTrace (by simp [encTrace])
        have HB7:=Lib.hid (hbl.out.alloc hzr (.cells #[.int .i64 x.id,.int .i64 x.known,.int .u8 x.kind,.int .i64 x.pit,.int .i64 x.layer,.int .i64 x.lower,.int .i64 x.low,.int .i64 x.high,.int .i64 x.cost,.int .i64 x.void] 25))
        go_wp2_with (at_builtin;refine wpList_append_src elTrace lenTrace oneTrace rfl _ _ rfl _ _ _ _ rfl rfl hO6 hrd6 (by omega) (by decide) (by simp;omega) ?_;intro A8 c8 w8 hO8 hg8 hA8
                     have HB8:=Lib.hid (HB7.out.grown hg8 (by simp;omega) (fun j e=>hO6.ltB j e))
                     have HO8:=Lib.hid hO8
                     clear hO8 hg8 hA8)
        go_roundw
        all_goals first
         | (simp [intOf];omega)
         | exact ⟨k+1,A8,c8,xs ++ [x],x.known,by omega,by simp,rfl,by go_num,by simp;omega,HB8.out,(show _=_ from SE.out.symm),(show _=_ from SN.out.2.symm),(show Own _ _ _ _ _ _ _ _ _ by rw [List.length_append];exact HO8.out)⟩
      · have SE:Hid (earlyOf2 (l.take (k+1)) known=xs):=(show _=_ by rw [SN.out.1,if_neg hkn,List.append_nil])
        go_wp2
        go_roundw
        all_goals first
         | (simp [intOf];omega)
         | exact ⟨k+1,A',c',xs,x.known,by omega,rfl,rfl,by go_num,by omega,hbl.out,(show _=_ from SE.out.symm),(show _=_ from SN.out.2.symm),hO.out⟩
    · have hkn:k=ln:=by omega
      subst hkn
      have htk:l.take k=l:=List.take_of_length_le (by rw [HN0.out];exact Nat.le_refl _)
      have hx2:xs=earlyOf2 l known:=by have h1:=hxs.out;rwa [htk] at h1
      have hl2:la=lastOf l:=by have h1:=hla.out;rwa [htk] at h1
      have hxn:xs.length≤1000000:=by omega
      have TO:Hid (∀ W,Below wo.heap.size wo W→Below w.heap.size w W):=(show ∀ W,Below wo.heap.size wo W→Below w.heap.size w W from fun W h=>hbl.out.trans (h.mono hzr))
      have RX:Hid (∀ W,Below wo.heap.size wo W→Rd encTrace 10 W A' xs.length c' xs):=(show ∀ W,Below wo.heap.size wo W→Rd encTrace 10 W A' xs.length c' xs from fun W h=>(hO.out.rd lenTrace (by omega)).below h (Nat.le_refl _))
      have HB0:=Lib.hid (Below.refl wo.heap.size wo)
      have K1:=Lib.hid (fun W (h:Below wo.heap.size wo W)=>Places_any lA k lc l known bA bn bc b W (RL.out W (TO.out W h)) (RB.out W (TO.out W h)))
      have K2:=Lib.hid (fun W (h:Below wo.heap.size wo W)=>Places_any A' xs.length c' xs known bA bn bc b W (RX.out W h) (RB.out W (TO.out W h)))
      have K3:=Lib.hid (fun W (h:Below wo.heap.size wo W)=>Cheapest_any lA k lc l known bA bn bc b W (RL.out W (TO.out W h)) (RB.out W (TO.out W h)))
      have K4:=Lib.hid (fun W (h:Below wo.heap.size wo W)=>Cheapest_any A' xs.length c' xs known bA bn bc b W (RX.out W h) (RB.out W (TO.out W h)))
      have K5:=Lib.hid (fun W (h:Below wo.heap.size wo W)=>Conflict_any lA k lc l la bA bn bc b none 0 0 [] W (RL.out W (TO.out W h)) (RB.out W (TO.out W h)) (Rd.none_ none 0 (by omega)))
      have q1:askErr xs known b=askErr l known b:=by rw [hx2];exact askErr_early HCK.out known b
      have q2:counting xs known=counting l known:=by rw [hx2];exact counting_early l known
      have q3:cheapV xs known b=cheapV l known b:=by rw [hx2];exact cheapV_early HCK.out known b
      have hs1:=cheapV_len (l:=l) (known:=known) (bs:=b)
      have hc1:=conflict_len60 (l:=l) (known:=la) (bs:=b) (mv:=[])
      have hce:=conflict_err (l:=l) (known:=la) (bs:=b) (mv:=[])
      rw [q1,q2] at K2
      rw [q3] at K4
      obtain ⟨pls,hpls⟩:∃ q,onOk (askErr l known b) (placesOf (counting l known) b)=q:=⟨_,rfl⟩
      obtain ⟨ea,hea⟩:∃ q,askErr l known b=q:=⟨_,rfl⟩
      obtain ⟨⟨n1,s1,ec⟩,hch⟩:∃ q,cheapV l known b=q:=⟨_,rfl⟩
      obtain ⟨⟨cl,ok,e3⟩,hcv⟩:∃ q,conflictV l la b []=q:=⟨_,rfl⟩
      have hpl:pls.length≤50:=by
       rw [←hpls];unfold onOk
       split
       · rename_i h;exact (askErr_sizes h).1
       · simp
      rw [hpls,hea] at K1 K2
      rw [hch] at K3 K4 hs1
      rw [hcv] at K5 hc1 hce
      simp only at K3 K4 hs1 K5 hc1 hce
      have HCV:=Lib.hid hcv
      have HLA:=Lib.hid hl2
      have HCE:=Lib.hid hce
      clear hx2 hl2 htk q1 q2 q3 hpls hea hch hcv hce hxs hla hO
      by_cases h3:e3=0
      case neg=>
       have h3':=neBool h3
       clear h3
       go_wp2_with (first
        | (go_at_call 21;(with_reducible refine (K1.out _ HB0.out).mono ?_);rintro e w2 ⟨A2,n2,c2,rfl,hb2,hO2⟩
           have hm2:n2=pls.length:=hO2.len.symm
           subst hm2
           have HB2:=Lib.hid hb2
           have HP2:=Lib.hid (hO2.rd (fun _=>rfl) (by omega))
           clear hb2 hO2)
        | (go_at_call 21;(with_reducible refine (K2.out _ HB2.out).mono ?_);rintro e w3 ⟨A3,n3,c3,rfl,hb3,hO3⟩
           have hm3:n3=pls.length:=hO3.len.symm
           subst hm3
           have HB3:=Lib.hid (HB2.out.trans (hb3.mono HB2.out.size))
           have HP3:=Lib.hid (hO3.rd (fun _=>rfl) (by omega))
           have HQ2:=Lib.hid (HP2.out.below hb3 (Nat.le_refl _))
           clear hb3 hO3 HP2)
        | (go_at_call 35;(with_reducible refine (K3.out _ HB3.out).mono ?_);rintro e w4 ⟨A4,c4,rfl,hb4,hO4⟩
           have HB4:=Lib.hid (HB3.out.trans (hb4.mono HB3.out.size))
           have HP4:=Lib.hid (hO4.rd (fun _=>rfl) (by omega))
           have HR2:=Lib.hid (HQ2.out.below hb4 (Nat.le_refl _))
           have HR3:=Lib.hid (HP3.out.below hb4 (Nat.le_refl _))
           clear hb4 hO4 HQ2 HP3)
        | (go_at_call 35;(with_reducible refine (K4.out _ HB4.out).mono ?_);rintro e w5 ⟨A5,c5,rfl,hb5,hO5⟩
           have HB5:=Lib.hid (HB4.out.trans (hb5.mono HB4.out.size))
           have HS5:=Lib.hid (hO5.rd (fun _=>rfl) (by omega))
           have HS2:=Lib.hid (HR2.out.below hb5 (Nat.le_refl _))
           have HS3:=Lib.hid (HR3.out.below hb5 (Nat.le_refl _))
           have HS4:=Lib.hid (HP4.out.below hb5 (Nat.le_refl _))
           have q5a:(ea != ea)=false:=(by simp)
           have q5b:(ec != ec)=false:=(by simp)
           have q5c:(n1 != n1)=false:=(by simp)
           clear hb5 hO5 HR2 HR3 HP4)
        | (go_at_call 31;(with_reducible refine (rSamePlaces_refl _ _ _ _ _ pls _ HS2.out HS3.out).mono ?_);rintro e w6 ⟨rfl,hb6⟩
           have HB6:=Lib.hid (HB5.out.trans (hb6.mono HB5.out.size))
           have HT4:=Lib.hid (HS4.out.below hb6 (Nat.le_refl _))
           have HT5:=Lib.hid (HS5.out.below hb6 (Nat.le_refl _))
           clear hb6)
        | (go_at_call 31;(with_reducible refine (rSamePlaces_refl _ _ _ _ _ s1 _ HT4.out HT5.out).mono ?_);rintro e w7 ⟨rfl,hb7⟩
           have HB7:=Lib.hid (HB6.out.trans (hb7.mono HB6.out.size))
           clear hb7)
        | (go_at_call 58;(with_reducible refine (K5.out _ HB7.out).mono ?_);rintro e w8 ⟨A8,c8,rfl,hb8,hO8⟩
           have HB8:=Lib.hid (HB7.out.trans (hb8.mono HB7.out.size))
           have HL8:=Lib.hid (hO8.rd (fun _=>rfl) (by omega))
           clear hb8 hO8)
        | (go_at_call 22;(with_reducible refine (HDUG.out _).mono ?_);rintro e w9 ⟨rfl,hb9⟩;have HB9:=Lib.hid (HB8.out.trans (hb9.mono HB8.out.size));clear hb9))
       go_ret
       exact ⟨rfl,TO.out _ HB9.out⟩
      case pos=>
       subst h3
       cases ok with
       | false=>
         go_wp2_with (first
          | (go_at_call 21;(with_reducible refine (K1.out _ HB0.out).mono ?_);rintro e w2 ⟨A2,n2,c2,rfl,hb2,hO2⟩
             have hm2:n2=pls.length:=hO2.len.symm
             subst hm2
             have HB2:=Lib.hid hb2
             have HP2:=Lib.hid (hO2.rd (fun _=>rfl) (by omega))
             clear hb2 hO2)
          | (go_at_call 21;(with_reducible refine (K2.out _ HB2.out).mono ?_);rintro e w3 ⟨A3,n3,c3,rfl,hb3,hO3⟩
             have hm3:n3=pls.length:=hO3.len.symm
             subst hm3
             have HB3:=Lib.hid (HB2.out.trans (hb3.mono HB2.out.size))
             have HP3:=Lib.hid (hO3.rd (fun _=>rfl) (by omega))
             have HQ2:=Lib.hid (HP2.out.below hb3 (Nat.le_refl _))
             clear hb3 hO3 HP2)
          | (go_at_call 35;(with_reducible refine (K3.out _ HB3.out).mono ?_);rintro e w4 ⟨A4,c4,rfl,hb4,hO4⟩
             have HB4:=Lib.hid (HB3.out.trans (hb4.mono HB3.out.size))
             have HP4:=Lib.hid (hO4.rd (fun _=>rfl) (by omega))
             have HR2:=Lib.hid (HQ2.out.below hb4 (Nat.le_refl _))
             have HR3:=Lib.hid (HP3.out.below hb4 (Nat.le_refl _))
             clear hb4 hO4 HQ2 HP3)
          | (go_at_call 35;(with_reducible refine (K4.out _ HB4.out).mono ?_);rintro e w5 ⟨A5,c5,rfl,hb5,hO5⟩
             have HB5:=Lib.hid (HB4.out.trans (hb5.mono HB4.out.size))
             have HS5:=Lib.hid (hO5.rd (fun _=>rfl) (by omega))
             have HS2:=Lib.hid (HR2.out.below hb5 (Nat.le_refl _))
             have HS3:=Lib.hid (HR3.out.below hb5 (Nat.le_refl _))
             have HS4:=Lib.hid (HP4.out.below hb5 (Nat.le_refl _))
             have q5a:(ea != ea)=false:=(by simp)
             have q5b:(ec != ec)=false:=(by simp)
             have q5c:(n1 != n1)=false:=(by simp)
             clear hb5 hO5 HR2 HR3 HP4)
          | (go_at_call 31;(with_reducible refine (rSamePlaces_refl _ _ _ _ _ pls _ HS2.out HS3.out).mono ?_);rintro e w6 ⟨rfl,hb6⟩
             have HB6:=Lib.hid (HB5.out.trans (hb6.mono HB5.out.size))
             have HT4:=Lib.hid (HS4.out.below hb6 (Nat.le_refl _))
             have HT5:=Lib.hid (HS5.out.below hb6 (Nat.le_refl _))
             clear hb6)
          | (go_at_call 31;(with_reducible refine (rSamePlaces_refl _ _ _ _ _ s1 _ HT4.out HT5.out).mono ?_);rintro e w7 ⟨rfl,hb7⟩
             have HB7:=Lib.hid (HB6.out.trans (hb7.mono HB6.out.size))
             clear hb7)
          | (go_at_call 58;(with_reducible refine (K5.out _ HB7.out).mono ?_);rintro e w8 ⟨A8,c8,rfl,hb8,hO8⟩
             have HB8:=Lib.hid (HB7.out.trans (hb8.mono HB7.out.size))
             have HL8:=Lib.hid (hO8.rd (fun _=>rfl) (by omega))
             clear hb8 hO8)
          | (go_at_call 22;(with_reducible refine (HDUG.out _).mono ?_);rintro e w9 ⟨rfl,hb9⟩;have HB9:=Lib.hid (HB8.out.trans (hb9.mono HB8.out.size));clear hb9))
         go_ret
         exact ⟨rfl,TO.out _ HB9.out⟩
       | true=>
         obtain ⟨ids,hids⟩:∃ q,idsV cl=q:=⟨_,rfl⟩
         have HIDS:=Lib.hid hids
         have hil:ids.length≤1000000:=by rw [←hids];exact idsV_len (by omega)
         obtain ⟨⟨ws,e4⟩,hap⟩:∃ q,appendV l (voidT id la void)=q:=⟨_,rfl⟩
         have HAP:=Lib.hid hap
         have K6:Hid (∀ W,Below wo.heap.size wo W→Calls Tryz.prog 36 #[.slice lA k lc,.agg #[.int .i64 id,.int .i64 la,.int .u8 4,.int .i64 0,.int .i64 0,.int .i64 0,.int .i64 0,.int .i64 0,.int .i64 0,.int .i64 void]] W fun e w'=> ∃ A' c',e = .returned (.tuple #[.slice A' ws.length c',.int .i64 e4])∧Below W.heap.size W w'∧Own encTrace 10 25 W.heap.size w' A' ws.length c' ws):=
          (show ∀ W,Below wo.heap.size wo W→_ from fun W h=>by have:=Append_any lA k lc l (voidT id la void) W (RL.out W (TO.out W h));rw [hap] at this;exact this)
         have hwl:ws.length≤1000000:=by
          have:(appendV l (voidT id la void)).1.length≤l.length+1:=by
           unfold appendV
           split
           · simp
           · split<;>simp
          rw [hap] at this
          have h1:=HN0.out
          simp only at this
          omega
         clear hids hap
         go_wp2_with (first
          | (go_at_call 21;(with_reducible refine (K1.out _ HB0.out).mono ?_);rintro e w2 ⟨A2,n2,c2,rfl,hb2,hO2⟩
             have hm2:n2=pls.length:=hO2.len.symm
             subst hm2
             have HB2:=Lib.hid hb2
             have HP2:=Lib.hid (hO2.rd (fun _=>rfl) (by omega))
             clear hb2 hO2)
          | (go_at_call 21;(with_reducible refine (K2.out _ HB2.out).mono ?_);rintro e w3 ⟨A3,n3,c3,rfl,hb3,hO3⟩
             have hm3:n3=pls.length:=hO3.len.symm
             subst hm3
             have HB3:=Lib.hid (HB2.out.trans (hb3.mono HB2.out.size))
             have HP3:=Lib.hid (hO3.rd (fun _=>rfl) (by omega))
             have HQ2:=Lib.hid (HP2.out.below hb3 (Nat.le_refl _))
             clear hb3 hO3 HP2)
          | (go_at_call 35;(with_reducible refine (K3.out _ HB3.out).mono ?_);rintro e w4 ⟨A4,c4,rfl,hb4,hO4⟩
             have HB4:=Lib.hid (HB3.out.trans (hb4.mono HB3.out.size))
             have HP4:=Lib.hid (hO4.rd (fun _=>rfl) (by omega))
             have HR2:=Lib.hid (HQ2.out.below hb4 (Nat.le_refl _))
             have HR3:=Lib.hid (HP3.out.below hb4 (Nat.le_refl _))
             clear hb4 hO4 HQ2 HP3)
          | (go_at_call 35;(with_reducible refine (K4.out _ HB4.out).mono ?_);rintro e w5 ⟨A5,c5,rfl,hb5,hO5⟩
             have HB5:=Lib.hid (HB4.out.trans (hb5.mono HB4.out.size))
             have HS5:=Lib.hid (hO5.rd (fun _=>rfl) (by omega))
             have HS2:=Lib.hid (HR2.out.below hb5 (Nat.le_refl _))
             have HS3:=Lib.hid (HR3.out.below hb5 (Nat.le_refl _))
             have HS4:=Lib.hid (HP4.out.below hb5 (Nat.le_refl _))
             have q5a:(ea != ea)=false:=(by simp)
             have q5b:(ec != ec)=false:=(by simp)
             have q5c:(n1 != n1)=false:=(by simp)
             clear hb5 hO5 HR2 HR3 HP4)
          | (go_at_call 31;(with_reducible refine (rSamePlaces_refl _ _ _ _ _ pls _ HS2.out HS3.out).mono ?_);rintro e w6 ⟨rfl,hb6⟩
             have HB6:=Lib.hid (HB5.out.trans (hb6.mono HB5.out.size))
             have HT4:=Lib.hid (HS4.out.below hb6 (Nat.le_refl _))
             have HT5:=Lib.hid (HS5.out.below hb6 (Nat.le_refl _))
             clear hb6)
          | (go_at_call 31;(with_reducible refine (rSamePlaces_refl _ _ _ _ _ s1 _ HT4.out HT5.out).mono ?_);rintro e w7 ⟨rfl,hb7⟩
             have HB7:=Lib.hid (HB6.out.trans (hb7.mono HB6.out.size))
             clear hb7)
          | (go_at_call 58;(with_reducible refine (K5.out _ HB7.out).mono ?_);rintro e w8 ⟨A8,c8,rfl,hb8,hO8⟩
             have HB8:=Lib.hid (HB7.out.trans (hb8.mono HB7.out.size))
             have HL8:=Lib.hid (hO8.rd (fun _=>rfl) (by omega))
             clear hb8 hO8)
          | (go_at_call 68;(with_reducible refine (Ids_any A8 cl.length c8 cl _ HL8.out (by omega)).mono ?_);rw [HIDS.out];rintro e w9 ⟨A9,c9,rfl,hb9,hO9⟩
             have HB9:=Lib.hid (HB8.out.trans (hb9.mono HB8.out.size))
             have HI9:=Lib.hid (hO9.rd (fun _=>rfl) (by omega))
             have HL9:=Lib.hid (HL8.out.below hb9 (Nat.le_refl _))
             clear hb9 hO9))
         go_loopw [30] (fun s30 wr=> ∃ j:Nat,j≤ids.length∧s30 = .int .i64 j∧Hid (Below w9.heap.size w9 wr)∧Hid (∀ i x,i<j→ids[i]? = some x→x≠void)) (fun s30 _=>ids.length-(intOf s30).toNat)
         case atStart=>exact ⟨0,Nat.zero_le _,rfl,(show Below _ _ _ from Below.refl _ _),(show ∀ i x,i<0→_ from fun i x h=>absurd h (by omega))⟩
         case round=>
          obtain ⟨j,hj,rfl,hbj,hno⟩:=hrel
          rename World=>wj
          have HBj:=Lib.hid (HB9.out.trans (hbj.out.mono HB9.out.size))
          by_cases hjl:j<ids.length
          · obtain ⟨bi,oi,x,rfl,hbiw,hx,hci⟩:=(HI9.out.below hbj.out (Nat.le_refl _)).one hjl
            have ci0:wj.cell? ⟨bi,oi+j,none⟩=some (.int .i64 x):=by have:=hci 0 _ rfl;simpa using this
            have HX:=Lib.hid hx
            clear hci hx
            by_cases hxv:x=void
            · have hxv':(x==void)=true:=(by simpa using hxv)
              clear hxv
              go_wp2_with (go_at_call 22;(with_reducible refine (HDUG.out _).mono ?_);rintro e w10 ⟨rfl,hb10⟩;have HB10:=Lib.hid (HBj.out.trans (hb10.mono HBj.out.size));clear hb10)
              go_ret
              exact ⟨rfl,TO.out _ HB10.out⟩
            · have hxv':(x==void)=false:=(by simpa using hxv)
              have HXV:=Lib.hid hxv
              clear hxv
              go_wp2
              go_roundw
              all_goals first
               | (simp [intOf];omega)
               | exact ⟨j+1,by omega,by go_num,hbj.out,(show ∀ i y,i<j+1→_ from fun i y hi hy=>by
                  by_cases hij:i<j
                  · exact hno.out i y hij hy
                  · have:i=j:=(by omega)
                    subst this
                    rw [HX.out] at hy
                    cases hy
                    exact HXV.out)⟩
          · have hje:j=ids.length:=by omega
            subst hje
            by_cases h4:e4=0
            case neg=>
             have h4':=neBool h4
             clear h4
             go_wp2_with (first
              | (go_at_call 36;(with_reducible refine (K6.out _ HBj.out).mono ?_);rintro e w10 ⟨A10,c10,rfl,hb10,_⟩;have HB10:=Lib.hid (HBj.out.trans (hb10.mono HBj.out.size));clear hb10)
              | (go_at_call 22;(with_reducible refine (HDUG.out _).mono ?_);rintro e w11 ⟨rfl,hb11⟩;have HB11:=Lib.hid (HB10.out.trans (hb11.mono HB10.out.size));clear hb11))
             go_ret
             exact ⟨rfl,TO.out _ HB11.out⟩
            case pos=>
             subst h4
             have hfl:follows l (voidT id la void)=0∧ws=l ++ [voidT id la void]:=by
              have h5:=HAP.out
              unfold appendV at h5
              rw [if_neg (by simpa using HCK.out)] at h5
              split at h5
              · rename_i h6
                simp only [Prod.mk.injEq] at h5
                exact absurd h5.2 h6
              · rename_i h6
                simp only [Prod.mk.injEq] at h5
                exact ⟨by simpa using h6,h5.1.symm⟩
             have hst:=known_stays (l:=l) (v:=voidT id la void) (known:=la) (bs:=b) (by have h5:=HCE.out;omega) (by rw [HCV.out]) hfl.1 rfl (Int.le_refl _) (by
              rw [HCV.out]
              intro y hy hy0
              have h6:y.by_∈ids:=by rw [←HIDS.out];exact idsV_mem.2 ⟨hy0,y,hy,rfl⟩
              obtain ⟨i,hi⟩:=List.mem_iff_getElem?.1 h6
              exact hno.out i _ (List.getElem?_eq_some_iff.1 hi).1 hi)
             rw [HCV.out,←hfl.2] at hst
             simp only at hst
             have K7:Hid (∀ W A10 c10,Below wo.heap.size wo W→Rd encTrace 10 W A10 ws.length c10 ws→Rd encLink 6 W A8 cl.length c8 cl→Calls Tryz.prog 60 #[.slice A10 ws.length c10,.int .i64 la,.slice bA bn bc,.slice none 0 0,.slice A8 cl.length c8] W fun e w'=>e = .returned (.tuple #[.bool true,.int .i64 0])∧Below W.heap.size W w'):=
              (show ∀ W A10 c10,Below wo.heap.size wo W→Rd encTrace 10 W A10 ws.length c10 ws→Rd encLink 6 W A8 cl.length c8 cl→_ from fun W A10 c10 h h1 h2=>by
                have:=CheckConflict_any A10 ws.length c10 ws la bA bn bc b none 0 0 [] A8 cl.length c8 cl W h1 (RB.out W (TO.out W h)) (Rd.none_ none 0 (by omega)) h2 (by omega)
                rw [hst] at this;exact this)
             have HLj:=Lib.hid (HL9.out.below hbj.out (Nat.le_refl _))
             clear hfl hst hno
             go_wp2_with (first
              | (go_at_call 36;(with_reducible refine (K6.out _ HBj.out).mono ?_);rintro e w10 ⟨A10,c10,rfl,hb10,hO10⟩
                 have HB10:=Lib.hid (HBj.out.trans (hb10.mono HBj.out.size))
                 have HW10:=Lib.hid (hO10.rd lenTrace (by omega))
                 have HL10:=Lib.hid (HLj.out.below hb10 (Nat.le_refl _))
                 clear hb10 hO10)
              | (go_at_call 60;(with_reducible refine (K7.out _ _ _ HB10.out HW10.out HL10.out).mono ?_);rintro e w11 ⟨rfl,hb11⟩;have HB11:=Lib.hid (HB10.out.trans (hb11.mono HB10.out.size));clear hb11)
              | (go_at_call 22;(with_reducible refine (HDUG.out _).mono ?_);rintro e w12 ⟨rfl,hb12⟩;have HB12:=Lib.hid (HB11.out.trans (hb12.mono HB11.out.size));clear hb12))
             go_ret
             exact ⟨by simp,TO.out _ HB12.out⟩
end Go.Proofs.YtelnkflmnbhclaaGreat
end

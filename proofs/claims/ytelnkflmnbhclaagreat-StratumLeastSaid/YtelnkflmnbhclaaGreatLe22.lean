/- Contracts that the laws lean on: LeaP, LeaL. -/
import Derived.Test.YtelnkflmnbhclaaGreatLe21
import Derived.Test.YtelnkflmnbhclaaGreatLe12
import Derived.Test.YtelnkflmnbhclaaGreatLe09
import Derived.Test.YtelnkflmnbhclaaGreatLe02
import Derived.Test.YtelnkflmnbhclaaGreatK24
import Derived.Test.YtelnkflmnbhclaaGreatK07
import Derived.Test.YtelnkflmnbhclaaGreatK21
section
namespace Go.Proofs.YtelnkflmnbhclaaGreat
open Go.RowKit Go.Proofs Go.Shelf
theorem sub_of_asc:∀ {m l:List Place},l.Pairwise ltPl→m.Pairwise ltPl→(∀ x∈l,x∈m)→l.Sublist m
 | [],l,_,_,h=>by
   cases l with
   | nil=>exact List.Sublist.refl _
   | cons a t=>exact absurd (h a List.mem_cons_self) (by simp)
 | b::m,[],_,_,_=>List.nil_sublist _
 | b::m,a::l,hl,hm,h=>by
   rw [List.pairwise_cons] at hl hm
   rcases List.mem_cons.1 (h a List.mem_cons_self) with rfl|ha
   · refine List.Sublist.cons_cons _ (sub_of_asc hl.2 hm.2 fun x hx=> ?_)
     rcases List.mem_cons.1 (h x (List.mem_cons_of_mem _ hx)) with rfl|h'
     · exact absurd (hl.1 x hx) (ltPl_irrefl _)
     · exact h'
   · refine List.Sublist.cons _ (sub_of_asc (List.pairwise_cons.2 hl) hm.2 fun x hx=> ?_)
     rcases List.mem_cons.1 (h x hx) with rfl|h'
     · rcases List.mem_cons.1 hx with rfl|hx'
       · exact ha
       · exact absurd (ltPl_trans (hl.1 x hx') (hm.1 a ha)) (ltPl_irrefl _)
     · exact h'
section
variable {l:List Trace} {known:Int} {bs:List Bond}
theorem sets_cost (he:askErr l known bs=0) {mv:List Place} (h:mv∈(setsOf l known bs).2):costR (admitsOf (counting l known)) mv=(setsOf l known bs).1:=by
 obtain ⟨b,_,rfl,hc,_⟩:=setsOf_from h
 rw [costR_set (ordFacts he).nd,hc]
theorem sets_least (he:askErr l known bs=0) {mv:List Place} (hw:withErr l known bs mv=0) (hd:enough (counting l known) bs mv=true):(setsOf l known bs).2 ≠ []∧(setsOf l known bs).1≤costR (admitsOf (counting l known)) mv:=by
 obtain ⟨hp,hm⟩:=admittedErr_zero.1 (withErr_zero.1 hw).2
 have hsub:mv.Sublist ((admitsOf (counting l known)).map (·.place)):=sub_of_asc hp (admitsOf_asc _) fun x hx=>by
  have h1:=hm x hx
  unfold isAdm at h1
  obtain ⟨a,ha,e⟩:=List.any_eq_true.1 h1
  exact List.mem_map.2 ⟨a,ha,eqPlace_iff.1 e⟩
 obtain ⟨b,hb,hs⟩:=setTo_all (ordFacts he).a8 _ (Nat.le_refl _) mv (by rw [List.take_length];exact hsub)
 have hI:=chpInv (admitsOf (counting l known)) (enough (counting l known) bs) (2 ^ (admitsOf (counting l known)).length)
 obtain ⟨g1,g2,_⟩:=hI.all b hb (by rw [hs];exact hd)
 refine ⟨fun e=> ?_,?_⟩
 · have hl:=(sortLx_perm (chpTo (admitsOf (counting l known)) (enough (counting l known) bs) (2 ^ (admitsOf (counting l known)).length)).2).length_eq
   rw [show sortLx (chpTo (admitsOf (counting l known)) (enough (counting l known) bs) (2 ^ (admitsOf (counting l known)).length)).2 = [] from e] at hl
   exact g1 (List.eq_nil_of_length_eq_zero hl.symm)
 · rw [←hs,costR_set (ordFacts he).nd]
   exact g2
theorem cheapV_is (he:askErr l known bs=0):((setsOf l known bs).2 = []∧cheapV l known bs=(0,[],81))∨(∃ s,s∈(setsOf l known bs).2∧cheapV l known bs=((setsOf l known bs).1,s,0)):=by
 unfold cheapV
 rw [if_neg (by simpa using he)]
 cases hs:(setsOf l known bs).2 with
 | nil=>exact .inl ⟨rfl,rfl⟩
 | cons s t=>exact .inr ⟨s,List.mem_cons_self,rfl⟩
theorem proof_right {n:Int} {cuts:List (List Link)} (he:askErr l known bs=0) (hp:provesV (counting l known) bs n cuts=true) {mv:List Place} (hw:withErr l known bs mv=0) (hd:enough (counting l known) bs mv=true):n≤costR (admitsOf (counting l known)) mv:=
 prv_sound he hw hd _ _ _ _ (provesV_iff.1 hp) (fun q hq=>by cases hq)
end
end Go.Proofs.YtelnkflmnbhclaaGreat
end
section
namespace Go.Proofs.YtelnkflmnbhclaaGreat
open Go.RowKit Go.Proofs Go.Shelf
theorem cuts_of {w:World} :∀ hd:List Hdr,(∀ h∈hd,LinksOk w h∧h.n≤30)→∃ cuts:List (List Link),cuts.length=hd.length∧∀ (k:Nat) (h:Hdr),hd[k]? = some h→∃ c,cuts[k]? = some c∧Rd encLink 6 w h.A h.n h.c c
 | [],_=>⟨[],rfl,fun k h hk=>by simp at hk⟩
 | x::hd,hx=>by
   obtain ⟨cuts,h1,h2⟩:=cuts_of hd fun h hh=>hx h (List.mem_cons_of_mem _ hh)
   obtain ⟨⟨ls,_,hr⟩,hn⟩:=hx x List.mem_cons_self
   refine ⟨ls::cuts,by simp [h1],fun k h hk=> ?_⟩
   cases k with
   | zero=>
     simp only [List.getElem?_cons_zero,Option.some.injEq] at hk
     subst hk
     exact ⟨ls,rfl,hr (by omega)⟩
   | succ k=>
     simp only [List.getElem?_cons_succ] at hk ⊢
     exact h2 k h hk
theorem leaDates_e (l:List Trace) (known:Int) (bs:List Bond) (mv:List Place):(datesV l known bs mv).2.2=withErr l known bs mv:=by
 unfold datesV
 by_cases h:withErr l known bs mv=0
 · rw [if_neg (by simpa using h),h];split<;>rfl
 · rw [if_pos h]
theorem cheapV_small {l:List Trace} {known:Int} {bs:List Bond} (he:askErr l known bs=0):(cheapV l known bs).2.1.length≤8:=by
 rcases cheapV_is he with ⟨_,h⟩|⟨s,hs,h⟩
 · rw [h];simp
 · rw [h]
   obtain ⟨b,_,rfl,_,_⟩:=setsOf_from hs
   have:=setTo_len (admitsOf (counting l known)) b (admitsOf (counting l known)).length
   have:=(ordFacts he).a8
   simp only;omega
set_option maxRecDepth 100000 in
set_option maxHeartbeats 8000000 in
theorem stratumLeast_of (lA:Option Addr) (ln lc:Nat) (l:List Trace) (hl0:l.length=ln) (known:Int) (bA:Option Addr) (bn bc:Nat) (b:List Bond) (hb0:b.length=bn) (mA:Option Addr) (mn mc:Nat) (mv:List Place) (hm0:mv.length=mn) (n:Int) (pA:Option Addr) (pn pc:Nat) (hd:List Hdr) (w:World) (hat:HdAt w pA pn hd) (rl:ln≤17592186044416→Rd encTrace 10 w lA ln lc l) (rb:bn≤17592186044416→Rd encBond 5 w bA bn bc b) (rm:mn≤17592186044416→Rd encPlace 2 w mA mn mc mv) (rp:pn≤17592186044416→Rd encHdr 1 w pA pn pc hd) (lk:∀ h∈hd,LinksOk w h):
 Calls Tryz.prog 16 #[.slice lA ln lc,.int .i64 known,.slice bA bn bc,.slice mA mn mc,.int .i64 n,.slice pA pn pc] w fun e w'=>e = .returned (.bool true)∧Below w.heap.size w w':=by
 have HDUG:=Lib.hid dug_any
 have HSL:=Lib.hid (slight_any pA pn pc hd w hat)
 have hpl:=hat.len
 clear hat
 by_cases hlow:fewB ln bn 25=true∧mn≤10∧slightB hd=true
 case neg=>
  obtain ⟨fw,hfew⟩:∃ fw,fewB ln bn 25=fw:=⟨_,rfl⟩
  obtain ⟨sl,hsl⟩:∃ sl,slightB hd=sl:=⟨_,rfl⟩
  rw [hfew,hsl] at hlow
  rw [hsl] at HSL
  have HF:=Lib.hid hfew
  have h4:fw=false∨(fw=true∧decide ((mn:Int)>10)=true)∨(fw=true∧decide ((mn:Int)>10)=false∧sl=false):=by
   cases fw with
   | false=>exact .inl rfl
   | true=>
     by_cases h2:10<mn
     · exact .inr (.inl ⟨rfl,decide_eq_true (by omega)⟩)
     · refine .inr (.inr ⟨rfl,decide_eq_false (by omega),?_⟩)
       cases sl with
       | false=>rfl
       | true=>exact absurd ⟨rfl,by omega,rfl⟩ hlow
  clear hfew hlow rl rb rm rp hl0 hb0 hm0 hpl hsl lk
  rcases h4 with rfl|⟨rfl,g2⟩|⟨rfl,g2,rfl⟩
  all_goals
   go_enter Tryz.func16,Tryz.ntmps16
   go_wp2_with (first
    | (go_at_call 23;(with_reducible refine (few_any _ _ _ _ _ _ _ _).mono ?_);rintro e w2 ⟨rfl,hw2⟩;obtain rfl:=hw2.symm;rw [HF.out])
    | (go_at_call 63;(with_reducible refine HSL.out.mono ?_);rintro e w2 ⟨rfl,hw2⟩;obtain rfl:=hw2.symm)
    | (go_at_call 22;(with_reducible refine (HDUG.out _).mono ?_);rintro e w7 ⟨rfl,hb7⟩;have HB7:=Lib.hid hb7;clear hb7))
   go_ret
   exact ⟨rfl,HB7.out⟩
 case pos=>
  obtain ⟨hfew,hmn,hsl⟩:=hlow
  obtain ⟨hn,hm⟩:=fewB_small hfew (by decide)
  have HF:=Lib.hid hfew
  have g2:decide ((mn:Int)>10)=false:=decide_eq_false (by omega)
  rw [hsl] at HSL
  unfold slightB at hsl
  rw [Bool.and_eq_true,decide_eq_true_eq] at hsl
  obtain ⟨hall,h40⟩:=hsl
  rw [List.take_of_length_le h40] at hall
  have h30:∀ h∈hd,h.n≤30:=fun h hh=>by have:=List.all_eq_true.1 hall h hh;simpa using this
  obtain ⟨cuts,hc1,hc2⟩:=cuts_of hd fun h hh=>⟨lk h hh,h30 h hh⟩
  have hcut:CutsAt w pA pn pc hd cuts:=⟨rp (by omega),by omega,hc2⟩
  have HB0:=Lib.hid (Below.refl w.heap.size w)
  have RL:Hid (∀ W,Below w.heap.size w W→Rd encTrace 10 W lA ln lc l):=(show ∀ W,_→_ from fun W h=>(rl (by omega)).below h (Nat.le_refl _))
  have RB:Hid (∀ W,Below w.heap.size w W→Rd encBond 5 W bA bn bc b):=(show ∀ W,_→_ from fun W h=>(rb (by omega)).below h (Nat.le_refl _))
  have RM:Hid (∀ W,Below w.heap.size w W→Rd encPlace 2 W mA mn mc mv):=(show ∀ W,_→_ from fun W h=>(rm (by omega)).below h (Nat.le_refl _))
  have K1:=Lib.hid (fun W (h:Below w.heap.size w W)=>Cheapest_any lA ln lc l known bA bn bc b W (RL.out W h) (RB.out W h))
  have K2:=Lib.hid (fun W (h:Below w.heap.size w W)=>Movable_any lA ln lc l known bA bn bc b W (RL.out W h) (RB.out W h))
  have K3:=Lib.hid (fun W (h:Below w.heap.size w W)=>CheckProof_any lA ln lc l known bA bn bc b n pA pn pc hd cuts W (RL.out W h) (RB.out W h) (hcut.below h) (fun h hh=>by have:=h30 h hh;omega))
  clear hfew rl rb rm rp hl0 hb0 hm0 hall lk
  by_cases ha:askErr l known b=0
  case neg=>
   have hv1:cheapV l known b=(0,[],askErr l known b):=by unfold cheapV;rw [if_pos ha]
   have hv3:checkProofV l known b n cuts=(false,askErr l known b):=by unfold checkProofV;rw [if_pos ha]
   rw [hv1] at K1
   rw [hv3] at K3
   have ha':(askErr l known b != 0)=true:=by simpa using ha
   have ha2:(askErr l known b==askErr l known b)=true:=by simp
   generalize askErr l known b=er at *
   clear hv1 hv3 ha hcut hc1 hc2
   go_enter Tryz.func16,Tryz.ntmps16
   go_wp2_with (first
    | (go_at_call 23;(with_reducible refine (few_any _ _ _ _ _ _ _ _).mono ?_);rintro e w2 ⟨rfl,hw2⟩;obtain rfl:=hw2.symm;rw [HF.out])
    | (go_at_call 63;(with_reducible refine HSL.out.mono ?_);rintro e w2 ⟨rfl,hw2⟩;obtain rfl:=hw2.symm)
    | (go_at_call 35;(with_reducible refine (K1.out _ HB0.out).mono ?_);rintro e w3 ⟨A3,c3,rfl,hb3,_⟩;have HB3:=Lib.hid hb3;clear hb3)
    | (go_at_call 20;(with_reducible refine (K2.out _ HB3.out).mono ?_);rintro e w4 ⟨A4,n4,c4,rfl,hb4,_⟩;have HB4:=Lib.hid (HB3.out.trans (hb4.mono HB3.out.size));clear hb4)
    | (go_at_call 64;(with_reducible refine (K3.out _ HB4.out).mono ?_);rintro e w5 ⟨rfl,hb5⟩;have HB5:=Lib.hid (HB4.out.trans (hb5.mono HB4.out.size));clear hb5)
    | (go_at_call 22;(with_reducible refine (HDUG.out _).mono ?_);rintro e w7 ⟨rfl,hb7⟩;have HB7:=Lib.hid (HB5.out.trans (hb7.mono HB5.out.size));clear hb7))
   go_ret
   exact ⟨rfl,HB7.out⟩
  case pos=>
   have hv3:checkProofV l known b n cuts=(provesV (counting l known) b n cuts,0):=by unfold checkProofV;rw [if_neg (by simpa using ha),if_neg (by omega)]
   rw [hv3] at K3
   rw [ha] at K2
   have hads:onOk 0 (admitsOf (counting l known))=admitsOf (counting l known):=rfl
   rw [hads] at K2
   have ha8:=(ordFacts ha).a8
   have hch8:=cheapV_small ha
   have HCO:=Lib.hid (ordFacts ha).cost
   have K4:Hid (∀ W,Below w.heap.size w W→Calls Tryz.prog 34 #[.slice lA ln lc,.int .i64 known,.slice bA bn bc,.slice mA mn mc] W fun e w'=> ∃ Ad cd,e = .returned (.tuple #[.slice Ad (datesV l known b mv).1.length cd,.bool (datesV l known b mv).2.1,.int .i64 (datesV l known b mv).2.2])∧Below W.heap.size W w'):=
    (show ∀ W,_→_ from fun W h=>(Dates_any lA ln lc l known bA bn bc b mA mn mc mv W (RL.out W h) (RB.out W h) (RM.out W h)).mono (by rintro e w' ⟨A,c,h1,h2,_⟩;exact ⟨A,c,h1,h2⟩))
   have hdm:=leaDates_e l known b mv
   have hright:∀ q,withErr l known b q=0→enough (counting l known) b q=true→provesV (counting l known) b n cuts=true→n≤costR (admitsOf (counting l known)) q:=fun q h1 h2 h3=>proof_right ha h3 h1 h2
   have hgood:withErr l known b mv=0→(datesV l known b mv).2.1=true→enough (counting l known) b mv=true:=fun h1 h2=>by rw [dates_is h1] at h2;exact h2
   obtain ⟨⟨dl,sm,hh⟩,hD⟩:∃ q,datesV l known b mv=q:=⟨_,rfl⟩
   rw [hD] at K4 hdm hgood
   simp only at K4 hdm hgood
   have HGD:((hh==0)=false∨((hh==0)=true∧sm=false))∨(hh=0∧sm=true∧withErr l known b mv=0∧enough (counting l known) b mv=true):=by
    by_cases h0:hh=0
    · cases sm with
      | false=>exact .inl (.inr ⟨by simpa using h0,rfl⟩)
      | true=>exact .inr ⟨h0,rfl,by rw [←hdm,h0],hgood (by rw [←hdm,h0]) rfl⟩
    · exact .inl (.inl (by simpa using h0))
   clear hgood hdm hD
   have hadl:(admitsOf (counting l known)).length≤8:=ha8
   rcases cheapV_is ha with ⟨hse,hcv⟩|⟨st,hst,hcv⟩
   case inl=>
    rw [hcv] at K1 hch8
    have hng:(hh==0)=false∨((hh==0)=true∧sm=false):=HGD.resolve_right (fun h=>(sets_least ha h.2.2.1 h.2.2.2).1 hse)
    clear HGD hright hse hcv hv3 hads ha8 hcut hc1 hc2 HCO
    generalize admitsOf (counting l known)=ads at *
    generalize provesV (counting l known) b n cuts=pv at *
    clear ha
    rcases hng with q1|⟨q1,rfl⟩
    all_goals
     go_enter Tryz.func16,Tryz.ntmps16
     go_upto_region 9 with (first
      | (go_at_call 23;(with_reducible refine (few_any _ _ _ _ _ _ _ _).mono ?_);rintro e w2 ⟨rfl,hw2⟩;obtain rfl:=hw2.symm;rw [HF.out])
      | (go_at_call 63;(with_reducible refine (HSL.out).mono ?_);rintro e w2 ⟨rfl,hw2⟩;obtain rfl:=hw2.symm)
      | (go_at_call 35;(with_reducible refine (K1.out _ HB0.out).mono ?_);rintro e w3 ⟨A3,cA3,rfl,hb3,hO3⟩
         have HB3:=Lib.hid hb3
         have HR3:=Lib.hid (fun W (h:Below w3.heap.size w3 W)=>(hO3.below h (Nat.le_refl _)).rd (fun _=>rfl) (by omega))
         clear hb3 hO3)
      | (go_at_call 20;(with_reducible refine (K2.out _ HB3.out).mono ?_);rintro e w4 ⟨A4,n4,c4,rfl,hb4,hO4⟩
         have HB4:=Lib.hid (HB3.out.trans (hb4.mono HB3.out.size))
         have HB34:=Lib.hid hb4
         have hn4:=hO4.len
         have hn4b:n4≤8:=(by omega)
         have HR4:=Lib.hid (fun W (h:Below w4.heap.size w4 W)=>(hO4.below h (Nat.le_refl _)).rd (fun _=>rfl) (by omega))
         have HN4:=Lib.hid hn4
         clear hb4 hO4 hn4)
      | (go_at_call 64;(with_reducible refine (K3.out _ HB4.out).mono ?_);rintro e w5 ⟨rfl,hb5⟩
         have HB5:=Lib.hid (HB4.out.trans (hb5.mono HB4.out.size))
         have HB45:=Lib.hid hb5
         clear hb5)
      | (go_at_call 34;(with_reducible refine (K4.out _ HB5.out).mono ?_);rintro e w6 ⟨A6,c6,rfl,hb6⟩
         have HB6:=Lib.hid (HB5.out.trans (hb6.mono HB5.out.size))
         have HB46:=Lib.hid (HB45.out.trans (hb6.mono HB45.out.size))
         have HB36:=Lib.hid (HB34.out.trans (HB46.out.mono HB34.out.size))
         clear hb6))
     go_wp2_with (go_at_call 22;(with_reducible refine (HDUG.out _).mono ?_);rintro e w15 ⟨rfl,hb15⟩;have HB15:=Lib.hid (HB6.out.trans (hb15.mono HB6.out.size));clear hb15)
     go_ret
     exact ⟨rfl,HB15.out⟩
   case inr=>
    obtain ⟨hsw,hse⟩:=setsOf_with ha hst
    have hcs:=sets_cost ha hst
    rw [hcv] at K1 hch8
    simp only at K1 hch8
    have hrl:provesV (counting l known) b n cuts=true→n≤(setsOf l known b).1:=fun h=>by rw [←hcs];exact hright st hsw hse h
    have hds:(datesV l known b st).2.1=true:=by rw [dates_is hsw];exact hse
    have hd0:=leaDates_e l known b st
    rw [hsw] at hd0
    have K5:Hid (∀ W A c,Below w.heap.size w W→Rd encPlace 2 W A st.length c st→Calls Tryz.prog 34 #[.slice lA ln lc,.int .i64 known,.slice bA bn bc,.slice A st.length c] W fun e w'=> ∃ Ad cd,e = .returned (.tuple #[.slice Ad (datesV l known b st).1.length cd,.bool true,.int .i64 0])∧Below W.heap.size W w'):=
     (show ∀ W A c,_→_→_ from fun W A c h hr=>(Dates_any lA ln lc l known bA bn bc b A st.length c st W (RL.out W h) (RB.out W h) hr).mono (by rintro e w' ⟨A',c',h1,h2,_⟩;rw [hds,hd0] at h1;exact ⟨A',c',h1,h2⟩))
    have HGM:Hid (withErr l known b mv=0→enough (counting l known) b mv=true→(setsOf l known b).1≤costR (admitsOf (counting l known)) mv∧(provesV (counting l known) b n cuts=true→n≤costR (admitsOf (counting l known)) mv)):=(show _→_→_ from fun h1 h2=>⟨(sets_least ha h1 h2).2,hright mv h1 h2⟩)
    clear hright hse hcv hv3 hads ha8 hcut hc1 hc2 hsw hds hd0
    have HCS:=Lib.hid hcs
    generalize (setsOf l known b).1=least at *
    generalize datesV l known b st=dst at *
    obtain ⟨pv,hpv⟩:∃ pv,provesV (counting l known) b n cuts=pv:=⟨_,rfl⟩
    rw [hpv] at K3 hrl HGM
    generalize admitsOf (counting l known)=ads at *
    clear hpv hcs hst
    rcases HGD with hng|⟨rfl,rfl,h1,h2⟩
    · clear HGM
      cases pv
      all_goals
       first
        | (have hnl:decide (n≤least)=true:=decide_eq_true (hrl rfl))
        | (have hnl:True:=trivial)
       clear hrl ha
       rcases hng with q1|⟨q1,rfl⟩
      all_goals
       go_enter Tryz.func16,Tryz.ntmps16
       go_upto_region 9 with (first
        | (go_at_call 23;(with_reducible refine (few_any _ _ _ _ _ _ _ _).mono ?_);rintro e w2 ⟨rfl,hw2⟩;obtain rfl:=hw2.symm;rw [HF.out])
        | (go_at_call 63;(with_reducible refine (HSL.out).mono ?_);rintro e w2 ⟨rfl,hw2⟩;obtain rfl:=hw2.symm)
        | (go_at_call 35;(with_reducible refine (K1.out _ HB0.out).mono ?_);rintro e w3 ⟨A3,cA3,rfl,hb3,hO3⟩
           have HB3:=Lib.hid hb3
           have HR3:=Lib.hid (fun W (h:Below w3.heap.size w3 W)=>(hO3.below h (Nat.le_refl _)).rd (fun _=>rfl) (by omega))
           clear hb3 hO3)
        | (go_at_call 20;(with_reducible refine (K2.out _ HB3.out).mono ?_);rintro e w4 ⟨A4,n4,c4,rfl,hb4,hO4⟩
           have HB4:=Lib.hid (HB3.out.trans (hb4.mono HB3.out.size))
           have HB34:=Lib.hid hb4
           have hn4:=hO4.len
           have hn4b:n4≤8:=(by omega)
           have HR4:=Lib.hid (fun W (h:Below w4.heap.size w4 W)=>(hO4.below h (Nat.le_refl _)).rd (fun _=>rfl) (by omega))
           have HN4:=Lib.hid hn4
           clear hb4 hO4 hn4)
        | (go_at_call 64;(with_reducible refine (K3.out _ HB4.out).mono ?_);rintro e w5 ⟨rfl,hb5⟩
           have HB5:=Lib.hid (HB4.out.trans (hb5.mono HB4.out.size))
           have HB45:=Lib.hid hb5
           clear hb5)
        | (go_at_call 34;(with_reducible refine (K4.out _ HB5.out).mono ?_);rintro e w6 ⟨A6,c6,rfl,hb6⟩
           have HB6:=Lib.hid (HB5.out.trans (hb6.mono HB5.out.size))
           have HB46:=Lib.hid (HB45.out.trans (hb6.mono HB45.out.size))
           have HB36:=Lib.hid (HB34.out.trans (HB46.out.mono HB34.out.size))
           clear hb6))
       go_wp2_with (fail)
       have HBa:=HB46
       have HBSa:=HB36
       have HBXa:=HB6
       go_loopw [25,26] (fun s25 s26 wr=> ∃ k:Nat,k≤n4∧s26 = .int .i64 k∧s25 = .int .i64 (costR (ads.take k) st)∧Hid (Below w6.heap.size w6 wr)) (fun _ s26 _=>n4-(intOf s26).toNat)
       case atStart=>exact ⟨0,Nat.zero_le _,rfl,rfl,(show Below _ _ _ from Below.refl _ _)⟩
       case round=>
        obtain ⟨k,hk,rfl,rfl,hbr⟩:=hrel
        rename World=>wo
        have hzr:=hbr.out.size
        have hcb:=costR_bound (mv:=st) HCO.out k
        by_cases hlt:k<n4
        · obtain ⟨b,off,x,rfl,hbw,hx,hcell⟩:=(HR4.out wo (HBa.out.trans (hbr.out.mono HBa.out.size))).one hlt
          have c0:wo.cell? ⟨b,off+k * 4,none⟩=some (.int .i64 x.place.pit):=hcell 0 _ rfl
          have c1:wo.cell? ⟨b,off+k * 4+1,none⟩=some (.int .i64 x.place.layer):=hcell 1 _ rfl
          have c2:wo.cell? ⟨b,off+k * 4+2,none⟩=some (.int .i64 x.cost):=hcell 2 _ rfl
          have c3:wo.cell? ⟨b,off+k * 4+3,none⟩=some (.int .i64 x.by_):=hcell 3 _ rfl
          have hxc:=HCO.out x (List.mem_of_getElem? hx)
          have HTK:=Lib.hid (costR_take (mv:=st) hx)
          have CE:Hid (∀ W,Below wo.heap.size wo W→W.cell? ⟨b,off+k * 4+2,none⟩=some (.int .i64 x.cost)):=(show ∀ W,_→_ from fun W h=>(h.cell (p:=⟨b,_,none⟩) hbw).trans c2)
          have HHS:=Lib.hid (rHas_any A3 st.length cA3 st x.place wo (HR3.out wo (HBSa.out.trans (hbr.out.mono HBSa.out.size))))
          obtain ⟨s,hs⟩:∃ s,costR (ads.take k) st=s:=⟨_,rfl⟩
          rw [hs] at hcb HTK ⊢
          have hwr:IntKind.i64.wrap (s+x.cost)=s+x.cost:=(by rw [IntKind.wrap_i64];omega)
          clear hcell hx hs
          cases hh:hasPl st x.place
          all_goals
           have HST:Hid (costStepR st s x=if hasPl st x.place then s+x.cost else s):=(show _=_ from rfl)
           rw [hh] at HST HHS
           go_wp2_with (go_at_call 65;(with_reducible refine HHS.out.mono ?_);rintro e w13 ⟨rfl,hb13⟩;have e2:=CE.out w13 hb13;have HB13:=Lib.hid (hbr.out.trans (hb13.mono hzr));clear hb13)
           go_roundw
           all_goals first
            | (simp [intOf];omega)
            | exact ⟨k+1,by omega,by go_num,by rw [HTK.out,HST.out];(try simp);(try exact hwr),HB13⟩
        · have hkn:k=n4:=by omega
          subst hkn
          rw [List.take_of_length_le (by rw [HN4.out];exact Nat.le_refl _),HCS.out]
          go_wp2_with (first
           | (go_at_call 34;(with_reducible refine (K5.out _ _ _ (HBXa.out.trans (hbr.out.mono HBXa.out.size)) (HR3.out wo (HBSa.out.trans (hbr.out.mono HBSa.out.size)))).mono ?_);rintro e w14 ⟨A14,c14,rfl,hb14⟩;have HB14:=Lib.hid (hbr.out.trans (hb14.mono hzr));clear hb14)
           | (go_at_call 22;(with_reducible refine (HDUG.out _).mono ?_);rintro e w15 ⟨rfl,hb15⟩;have HB15:=Lib.hid (HB14.out.trans (hb15.mono HB14.out.size));clear hb15))
          go_ret
          exact ⟨rfl,HBXa.out.trans (HB15.out.mono HBXa.out.size)⟩
    · obtain ⟨hl1,hl2⟩:=HGM.out h1 h2
      have q1:decide (costR ads mv<least)=false:=decide_eq_false (by omega)
      cases pv
      all_goals
       first
        | (have hnl:decide (n≤least)=true:=decide_eq_true (hrl rfl);have hnm:decide (costR ads mv<n)=false:=decide_eq_false (by have:=hl2 rfl;omega))
        | (have hnl:True:=trivial)
       clear hrl ha hl1 hl2 h1 h2 HGM
       go_enter Tryz.func16,Tryz.ntmps16
       go_upto_region 9 with (first
        | (go_at_call 23;(with_reducible refine (few_any _ _ _ _ _ _ _ _).mono ?_);rintro e w2 ⟨rfl,hw2⟩;obtain rfl:=hw2.symm;rw [HF.out])
        | (go_at_call 63;(with_reducible refine (HSL.out).mono ?_);rintro e w2 ⟨rfl,hw2⟩;obtain rfl:=hw2.symm)
        | (go_at_call 35;(with_reducible refine (K1.out _ HB0.out).mono ?_);rintro e w3 ⟨A3,cA3,rfl,hb3,hO3⟩
           have HB3:=Lib.hid hb3
           have HR3:=Lib.hid (fun W (h:Below w3.heap.size w3 W)=>(hO3.below h (Nat.le_refl _)).rd (fun _=>rfl) (by omega))
           clear hb3 hO3)
        | (go_at_call 20;(with_reducible refine (K2.out _ HB3.out).mono ?_);rintro e w4 ⟨A4,n4,c4,rfl,hb4,hO4⟩
           have HB4:=Lib.hid (HB3.out.trans (hb4.mono HB3.out.size))
           have HB34:=Lib.hid hb4
           have hn4:=hO4.len
           have hn4b:n4≤8:=(by omega)
           have HR4:=Lib.hid (fun W (h:Below w4.heap.size w4 W)=>(hO4.below h (Nat.le_refl _)).rd (fun _=>rfl) (by omega))
           have HN4:=Lib.hid hn4
           clear hb4 hO4 hn4)
        | (go_at_call 64;(with_reducible refine (K3.out _ HB4.out).mono ?_);rintro e w5 ⟨rfl,hb5⟩
           have HB5:=Lib.hid (HB4.out.trans (hb5.mono HB4.out.size))
           have HB45:=Lib.hid hb5
           clear hb5)
        | (go_at_call 34;(with_reducible refine (K4.out _ HB5.out).mono ?_);rintro e w6 ⟨A6,c6,rfl,hb6⟩
           have HB6:=Lib.hid (HB5.out.trans (hb6.mono HB5.out.size))
           have HB46:=Lib.hid (HB45.out.trans (hb6.mono HB45.out.size))
           have HB36:=Lib.hid (HB34.out.trans (HB46.out.mono HB34.out.size))
           clear hb6))
       go_wp2_with (fail)
       go_loopw [23,24] (fun s23 s24 wr=> ∃ k:Nat,k≤n4∧s24 = .int .i64 k∧s23 = .int .i64 (costR (ads.take k) mv)∧Hid (Below w6.heap.size w6 wr)) (fun _ s24 _=>n4-(intOf s24).toNat)
       case atStart=>exact ⟨0,Nat.zero_le _,rfl,rfl,(show Below _ _ _ from Below.refl _ _)⟩
       case round=>
        obtain ⟨k,hk,rfl,rfl,hbr⟩:=hrel
        rename World=>wz
        have hzr:=hbr.out.size
        have hcb:=costR_bound (mv:=mv) HCO.out k
        by_cases hlt:k<n4
        · obtain ⟨b,off,x,rfl,hbw,hx,hcell⟩:=(HR4.out wz (HB46.out.trans (hbr.out.mono HB46.out.size))).one hlt
          have c0:wz.cell? ⟨b,off+k * 4,none⟩=some (.int .i64 x.place.pit):=hcell 0 _ rfl
          have c1:wz.cell? ⟨b,off+k * 4+1,none⟩=some (.int .i64 x.place.layer):=hcell 1 _ rfl
          have c2:wz.cell? ⟨b,off+k * 4+2,none⟩=some (.int .i64 x.cost):=hcell 2 _ rfl
          have c3:wz.cell? ⟨b,off+k * 4+3,none⟩=some (.int .i64 x.by_):=hcell 3 _ rfl
          have hxc:=HCO.out x (List.mem_of_getElem? hx)
          have HTK:=Lib.hid (costR_take (mv:=mv) hx)
          have CE:Hid (∀ W,Below wz.heap.size wz W→W.cell? ⟨b,off+k * 4+2,none⟩=some (.int .i64 x.cost)):=(show ∀ W,_→_ from fun W h=>(h.cell (p:=⟨b,_,none⟩) hbw).trans c2)
          have HHS:=Lib.hid (rHas_any mA mn mc mv x.place wz (RM.out wz (HB6.out.trans (hbr.out.mono HB6.out.size))))
          obtain ⟨s,hs⟩:∃ s,costR (ads.take k) mv=s:=⟨_,rfl⟩
          rw [hs] at hcb HTK ⊢
          have hwr:IntKind.i64.wrap (s+x.cost)=s+x.cost:=(by rw [IntKind.wrap_i64];omega)
          clear hcell hx hs
          cases hh:hasPl mv x.place
          all_goals
           have HST:Hid (costStepR mv s x=if hasPl mv x.place then s+x.cost else s):=(show _=_ from rfl)
           rw [hh] at HST HHS
           go_wp2_with (go_at_call 65;(with_reducible refine HHS.out.mono ?_);rintro e w13 ⟨rfl,hb13⟩;have e2:=CE.out w13 hb13;have HB13:=Lib.hid (hbr.out.trans (hb13.mono hzr));clear hb13)
           go_roundw
           all_goals first
            | (simp [intOf];omega)
            | exact ⟨k+1,by omega,by go_num,by rw [HTK.out,HST.out];(try simp);(try exact hwr),HB13⟩
        · have hkn:n4=k:=by omega
          subst hkn
          rw [List.take_of_length_le (by rw [HN4.out];exact Nat.le_refl _)]
          have HBb:=Lib.hid (HB46.out.trans (hbr.out.mono HB46.out.size))
          have HBSb:=Lib.hid (HB36.out.trans (hbr.out.mono HB36.out.size))
          have HBXb:=Lib.hid (HB6.out.trans (hbr.out.mono HB6.out.size))
          clear hbr hzr hlt hcb
          go_wp2_with (fail)
          go_loopw [25,26] (fun s25 s26 wr=> ∃ k:Nat,k≤n4∧s26 = .int .i64 k∧s25 = .int .i64 (costR (ads.take k) st)∧Hid (Below wz.heap.size wz wr)) (fun _ s26 _=>n4-(intOf s26).toNat)
          case atStart=>exact ⟨0,Nat.zero_le _,rfl,rfl,(show Below _ _ _ from Below.refl _ _)⟩
          case round=>
           obtain ⟨k,hk,rfl,rfl,hbr⟩:=hrel
           rename World=>wo
           have hzr:=hbr.out.size
           have hcb:=costR_bound (mv:=st) HCO.out k
           by_cases hlt:k<n4
           · obtain ⟨b,off,x,rfl,hbw,hx,hcell⟩:=(HR4.out wo (HBb.out.trans (hbr.out.mono HBb.out.size))).one hlt
             have c0:wo.cell? ⟨b,off+k * 4,none⟩=some (.int .i64 x.place.pit):=hcell 0 _ rfl
             have c1:wo.cell? ⟨b,off+k * 4+1,none⟩=some (.int .i64 x.place.layer):=hcell 1 _ rfl
             have c2:wo.cell? ⟨b,off+k * 4+2,none⟩=some (.int .i64 x.cost):=hcell 2 _ rfl
             have c3:wo.cell? ⟨b,off+k * 4+3,none⟩=some (.int .i64 x.by_):=hcell 3 _ rfl
             have hxc:=HCO.out x (List.mem_of_getElem? hx)
             have HTK:=Lib.hid (costR_take (mv:=st) hx)
             have CE:Hid (∀ W,Below wo.heap.size wo W→W.cell? ⟨b,off+k * 4+2,none⟩=some (.int .i64 x.cost)):=(show ∀ W,_→_ from fun W h=>(h.cell (p:=⟨b,_,none⟩) hbw).trans c2)
             have HHS:=Lib.hid (rHas_any A3 st.length cA3 st x.place wo (HR3.out wo (HBSb.out.trans (hbr.out.mono HBSb.out.size))))
             obtain ⟨s,hs⟩:∃ s,costR (ads.take k) st=s:=⟨_,rfl⟩
             rw [hs] at hcb HTK ⊢
             have hwr:IntKind.i64.wrap (s+x.cost)=s+x.cost:=(by rw [IntKind.wrap_i64];omega)
             clear hcell hx hs
             cases hh:hasPl st x.place
             all_goals
              have HST:Hid (costStepR st s x=if hasPl st x.place then s+x.cost else s):=(show _=_ from rfl)
              rw [hh] at HST HHS
              go_wp2_with (go_at_call 65;(with_reducible refine HHS.out.mono ?_);rintro e w13 ⟨rfl,hb13⟩;have e2:=CE.out w13 hb13;have HB13:=Lib.hid (hbr.out.trans (hb13.mono hzr));clear hb13)
              go_roundw
              all_goals first
               | (simp [intOf];omega)
               | exact ⟨k+1,by omega,by go_num,by rw [HTK.out,HST.out];(try simp);(try exact hwr),HB13⟩
           · have hkn:k=n4:=by omega
             subst hkn
             rw [List.take_of_length_le (by rw [HN4.out];exact Nat.le_refl _),HCS.out]
             go_wp2_with (first
              | (go_at_call 34;(with_reducible refine (K5.out _ _ _ (HBXb.out.trans (hbr.out.mono HBXb.out.size)) (HR3.out wo (HBSb.out.trans (hbr.out.mono HBSb.out.size)))).mono ?_);rintro e w14 ⟨A14,c14,rfl,hb14⟩;have HB14:=Lib.hid (hbr.out.trans (hb14.mono hzr));clear hb14)
              | (go_at_call 22;(with_reducible refine (HDUG.out _).mono ?_);rintro e w15 ⟨rfl,hb15⟩;have HB15:=Lib.hid (HB14.out.trans (hb15.mono HB14.out.size));clear hb15))
             go_ret
             exact ⟨rfl,HBXb.out.trans (HB15.out.mono HBXb.out.size)⟩
end Go.Proofs.YtelnkflmnbhclaaGreat
end

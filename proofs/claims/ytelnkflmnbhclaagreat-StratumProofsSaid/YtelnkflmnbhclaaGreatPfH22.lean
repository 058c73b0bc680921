/- Contracts that the laws lean on: LeaP, LeaL. -/
import Derived.Test.YtelnkflmnbhclaaGreatPfH21
section
namespace Go.Proofs.YtelnkflmnbhclaaGreat
open Go.RowKit Go.Proofs Go.Shelf
theorem sub_of_asc:∀ {m l:List Place},l.Pairwise ltPl→m.Pairwise ltPl→(∀ x∈l,x∈m)→l.Sublist m
 | [],l,_,_,h=>by
   cases l with
   | nil=>exact List.Sublist.refl _
   | cons a t=>exact absurd (h a List.mem_cons_self) (by simp)
 | b::m,[],_,_,_=>List.nil_sublist _
 | b::m,a::l,hl,hm,h=>by
   rw [List.pairwise_cons] at hl hm
   rcases List.mem_cons.1 (h a List.mem_cons_self) with rfl|ha
   · refine List.Sublist.cons_cons _ (sub_of_asc hl.2 hm.2 fun x hx=> ?_)
     rcases List.mem_cons.1 (h x (List.mem_cons_of_mem _ hx)) with rfl|h'
     · exact absurd (hl.1 x hx) (ltPl_irrefl _)
     · exact h'
   · refine List.Sublist.cons _ (sub_of_asc (List.pairwise_cons.2 hl) hm.2 fun x hx=> ?_)
     rcases List.mem_cons.1 (h x hx) with rfl|h'
     · rcases List.mem_cons.1 hx with rfl|hx'
       · exact ha
       · exact absurd (ltPl_trans (hl.1 x hx') (hm.1 a ha)) (ltPl_irrefl _)
     · exact h'
section
variable {l:List Trace} {known:Int} {bs:List Bond}
theorem sets_least (he:askErr l known bs=0) {mv:List Place} (hw:withErr l known bs mv=0) (hd:enough (counting l known) bs mv=true):(setsOf l known bs).2 ≠ []∧(setsOf l known bs).1≤costR (admitsOf (counting l known)) mv:=by
 obtain ⟨hp,hm⟩:=admittedErr_zero.1 (withErr_zero.1 hw).2
 have hsub:mv.Sublist ((admitsOf (counting l known)).map (·.place)):=sub_of_asc hp (admitsOf_asc _) fun x hx=>by
  have h1:=hm x hx;unfold isAdm at h1;obtain ⟨a,ha,e⟩:=List.any_eq_true.1 h1;exact List.mem_map.2 ⟨a,ha,eqPlace_iff.1 e⟩
 obtain ⟨b,hb,hs⟩:=setTo_all (ordFacts he).a8 _ (Nat.le_refl _) mv (by rw [List.take_length];exact hsub);have hI:=chpInv (admitsOf (counting l known)) (enough (counting l known) bs) (2 ^ (admitsOf (counting l known)).length);obtain ⟨g1,g2,_⟩:=hI.all b hb (by rw [hs];exact hd);refine ⟨fun e=> ?_,?_⟩
 · have hl:=(sortLx_perm (chpTo (admitsOf (counting l known)) (enough (counting l known) bs) (2 ^ (admitsOf (counting l known)).length)).2).length_eq
   rw [show sortLx (chpTo (admitsOf (counting l known)) (enough (counting l known) bs) (2 ^ (admitsOf (counting l known)).length)).2 = [] from e] at hl;exact g1 (List.eq_nil_of_length_eq_zero hl.symm)
 · rw [←hs,costR_set (ordFacts he).nd]
   exact g2
theorem cheapV_is (he:askErr l known bs=0):((setsOf l known bs).2 = []∧cheapV l known bs=(0,[],81))∨(∃ s,s∈(setsOf l known bs).2∧cheapV l known bs=((setsOf l known bs).1,s,0)):=by
 unfold cheapV;rw [if_neg (by simpa using he)]
 cases hs:(setsOf l known bs).2 with
 | nil=>exact .inl ⟨rfl,rfl⟩
 | cons s t=>exact .inr ⟨s,List.mem_cons_self,rfl⟩
end
theorem cuts_of {w:World} :∀ hd:List Hdr,(∀ h∈hd,LinksOk w h∧h.n≤30)→∃ cuts:List (List Link),cuts.length=hd.length∧∀ (k:Nat) (h:Hdr),hd[k]? = some h→∃ c,cuts[k]? = some c∧Rd encLink 6 w h.A h.n h.c c
 | [],_=>⟨[],rfl,fun k h hk=>by simp at hk⟩
 | x::hd,hx=>by
   obtain ⟨cuts,h1,h2⟩:=cuts_of hd fun h hh=>hx h (List.mem_cons_of_mem _ hh)
   obtain ⟨⟨ls,_,hr⟩,hn⟩:=hx x List.mem_cons_self;refine ⟨ls::cuts,by simp [h1],fun k h hk=> ?_⟩
   cases k with
   | zero=>
     simp only [List.getElem?_cons_zero,Option.some.injEq] at hk;subst hk;exact ⟨ls,rfl,hr (by omega)⟩
   | succ k=>
     simp only [List.getElem?_cons_succ] at hk ⊢;exact h2 k h hk
end Go.Proofs.YtelnkflmnbhclaaGreat
end

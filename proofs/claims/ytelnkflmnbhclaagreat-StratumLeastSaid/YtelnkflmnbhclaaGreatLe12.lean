/- Contracts that the laws lean on: RefK, OrdP, RefT, Sets2. -/
import Derived.Test.YtelnkflmnbhclaaGreatLe08
import Derived.Test.YtelnkflmnbhclaaGreatK23
import Derived.Test.YtelnkflmnbhclaaGreatLe01
section
namespace Go.Proofs.YtelnkflmnbhclaaGreat
open Go.RowKit Go.Proofs Go.Shelf
end Go.Proofs.YtelnkflmnbhclaaGreat
end
section
namespace Go.Proofs.YtelnkflmnbhclaaGreat
open Go.RowKit Go.Proofs Go.Shelf
theorem setTo_adm {ads:List Admit} (hs:(ads.map (·.place)).Pairwise ltPl) (b:Nat):∀ k,k≤ads.length→(setTo ads b k).1.Sublist ((ads.take k).map (·.place))
 | 0,_=>by simp [setTo]
 | k+1,h=>by
   have ih:=setTo_adm hs b k (by omega)
   have hy:ads[k]? = some ads[k]:=List.getElem?_eq_getElem h
   rw [List.take_add_one,hy,List.map_append]
   cases hb:bitOn b k with
   | true=>
     rw [setTo_on hy hb]
     exact ih.append (List.Sublist.refl _)
   | false=>
     rw [setTo_off hy hb]
     exact ih.trans (List.sublist_append_left _ _)
theorem isAdm_of {ads:List Admit} {p:Place} (h:p∈ads.map (·.place)):isAdm ads p=true:=by
 obtain ⟨x,hx,rfl⟩:=List.mem_map.1 h
 exact List.any_eq_true.2 ⟨x,hx,eqPlace_iff.2 rfl⟩
theorem admitsOf_asc (ts:List Trace):((admitsOf ts).map (·.place)).Pairwise ltPl:=by
 rw [admitsOf_places]
 exact sortPl_asc (admFold_nodup ts [] List.nodup_nil)
theorem setsOf_from {l:List Trace} {known:Int} {bs:List Bond} {mv:List Place} (h:mv∈(setsOf l known bs).2):∃ b,b<2 ^ (admitsOf (counting l known)).length∧mv=(setTo (admitsOf (counting l known)) b (admitsOf (counting l known)).length).1∧
 (setTo (admitsOf (counting l known)) b (admitsOf (counting l known)).length).2=(setsOf l known bs).1∧enough (counting l known) bs mv=true:=
 (chpInv _ _ _).from_ mv ((sortLx_perm _).mem_iff.1 h)
theorem setsOf_with {l:List Trace} {known:Int} {bs:List Bond} (he:askErr l known bs=0) {mv:List Place} (h:mv∈(setsOf l known bs).2):withErr l known bs mv=0∧enough (counting l known) bs mv=true:=by
 obtain ⟨b,_,rfl,_,h2⟩:=setsOf_from h
 refine ⟨withErr_zero.2 ⟨he,admittedErr_zero.2 ⟨?_,fun p hp=> ?_⟩⟩,h2⟩
 · have:=setTo_adm (admitsOf_asc (counting l known)) b _ (Nat.le_refl _)
   rw [List.take_length] at this
   exact (admitsOf_asc _).sublist this
 · have:=setTo_adm (admitsOf_asc (counting l known)) b _ (Nat.le_refl _)
   rw [List.take_length] at this
   exact isAdm_of (this.mem hp)
end Go.Proofs.YtelnkflmnbhclaaGreat
end
section
namespace Go.Proofs.YtelnkflmnbhclaaGreat
open Go.RowKit Go.Proofs Go.Shelf
def costStepR (set:List Place) (n:Int) (x:Admit):Int:=if hasPl set x.place then n+x.cost else n
def costR (ads:List Admit) (set:List Place):Int:=ads.foldl (costStepR set) 0
theorem costR_to {ads:List Admit} (hn:(ads.map (·.place)).Nodup) (b:Nat):∀ k,k≤ads.length→(ads.take k).foldl (costStepR (setTo ads b ads.length).1) 0=(setTo ads b k).2
 | 0,_=>rfl
 | k+1,h=>by
   have hy:ads[k]? = some ads[k]:=List.getElem?_eq_getElem h
   have hm:=setTo_mem hn b ads.length (Nat.le_refl _) k _ hy
   rw [List.take_add_one,hy,Option.toList_some,List.foldl_append,costR_to hn b k (by omega)]
   show costStepR _ _ ads[k]=_
   unfold costStepR
   cases hb:bitOn b k with
   | true=>rw [setTo_on hy hb,if_pos (hasPl_iff.2 (hm.2 ⟨h,hb⟩))]
   | false=>
     rw [setTo_off hy hb,if_neg]
     intro e
     have:=(hm.1 (hasPl_iff.1 e)).2
     rw [hb] at this;cases this
theorem costR_set {ads:List Admit} (hn:(ads.map (·.place)).Nodup) (b:Nat):costR ads (setTo ads b ads.length).1=(setTo ads b ads.length).2:=by
 have:=costR_to hn b ads.length (Nat.le_refl _)
 rwa [List.take_length] at this
theorem setTo_congr (ads:List Admit) (a b:Nat):∀ k,(∀ j,j<k→bitOn a j=bitOn b j)→setTo ads a k=setTo ads b k
 | 0,_=>rfl
 | k+1,h=>by
   rw [setTo,setTo,setTo_congr ads a b k fun j hj=>h j (by omega),h k (by omega)]
theorem setTo_all {ads:List Admit} (h8:ads.length≤8):∀ k,k≤ads.length→∀ s:List Place,s.Sublist ((ads.take k).map (·.place))→∃ b,b<2 ^ k∧(setTo ads b k).1=s
 | 0,_,s,h=>⟨0,by simp,by
   have:s = []:=by simpa using h
   rw [this];rfl⟩
 | k+1,hk,s,h=>by
   have hy:ads[k]? = some ads[k]:=List.getElem?_eq_getElem hk
   rw [List.take_add_one,hy,Option.toList_some,List.map_append,List.sublist_append_iff] at h
   obtain ⟨s1,s2,rfl,h1,h2⟩:=h
   obtain ⟨b,hb,rfl⟩:=setTo_all h8 k (by omega) s1 h1
   have hp:(2:Nat) ^ k≤2 ^ 7:=Nat.pow_le_pow_right (by omega) (by omega)
   have hp2:(2:Nat) ^ (k+1)=2 ^ k+2 ^ k:=by rw [Nat.pow_succ];omega
   have bit:∀ n,n<256→bitOn n k=n.testBit k:=fun n hn=>bitOn_test n hn k (by omega)
   have h2:s2 = []∨s2 = [ads[k].place]:=by
    rw [List.map_singleton] at h2
    cases h2 with
    | cons _ h=>exact .inl (List.sublist_nil.1 h)
    | cons_cons _ h=>rw [List.sublist_nil.1 h];exact .inr rfl
   rcases h2 with rfl|rfl
   · refine ⟨b,by omega,?_⟩
     rw [setTo_off hy (by rw [bit b (by omega)];exact Nat.testBit_lt_two_pow hb),List.append_nil]
   · refine ⟨2 ^ k+b,by omega,?_⟩
     rw [setTo_on hy (by rw [bit _ (by omega),Nat.testBit_two_pow_add_eq,Nat.testBit_lt_two_pow hb];rfl)]
     rw [setTo_congr ads (2 ^ k+b) b k fun j hj=>by rw [bitOn_test _ (by omega) j (by omega),bitOn_test _ (by omega) j (by omega),Nat.testBit_two_pow_add_gt hj]]
end Go.Proofs.YtelnkflmnbhclaaGreat
end
section
namespace Go.Proofs.YtelnkflmnbhclaaGreat
open Go.RowKit Go.Proofs Go.Shelf
end Go.Proofs.YtelnkflmnbhclaaGreat
end

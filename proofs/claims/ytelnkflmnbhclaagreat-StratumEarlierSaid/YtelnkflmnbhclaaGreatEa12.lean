/- Contracts that the laws lean on: RefK, OrdP, RefT, Sets2. -/
import Derived.Test.YtelnkflmnbhclaaGreatEa08
import Derived.Test.YtelnkflmnbhclaaGreatK23
import Derived.Test.YtelnkflmnbhclaaGreatEa01
section
namespace Go.Proofs.YtelnkflmnbhclaaGreat
open Go.RowKit Go.Proofs Go.Shelf
set_option maxHeartbeats 2000000 in
theorem rMovable_any (A:Option Addr) (n c:Nat) (l:List Trace) (known:Int) (B:Option Addr) (m d:Nat) (bs:List Bond) (w:World) (hl:Rd encTrace 10 w A n c l) (hb:Rd encBond 5 w B m d bs):
 Calls Tryz.prog 28 #[.slice A n c,.int .i64 known,.slice B m d] w fun e w'=> ∃ A' n' c',e = .returned (.tuple #[.slice A' n' c',.int .i64 (askErr l known bs)])∧Below w.heap.size w w'∧
  Rd encAdmit 4 w' A' n' c' (onOk (askErr l known bs) (admitsOf (counting l known))):=by
 have HL:=Lib.hid hl
 have HB:=Lib.hid hb
 have HA:=Lib.hid (rAsked_any A n c l known B m d bs w hl hb)
 clear hl hb
 by_cases he:askErr l known bs=0
 · have hs:=askErr_sizes he
   obtain ⟨o1,o2,o3,o4,o5⟩:=okO_of he
   have hck:(check l).2=0:=by rcases askErr_cases l known bs with ⟨h,h'⟩|⟨h,_⟩|⟨h,_⟩|⟨h,_⟩|⟨h,_⟩<;>first|exact h|exact absurd (h'.symm.trans he) h
   have hs1:=check_small hck
   have hln:=HL.out.len
   have hbn:=HB.out.len
   rw [he] at HA
   rw [he,onOk_zero]
   clear he hck hs o1 o2
   go_enter Tryz.func28,Tryz.ntmps28
   go_wp2_with (first
    | (go_at_call 80;(with_reducible refine HA.out.mono ?_);rintro e w2 ⟨rfl,hb2⟩
       have HB2:=Lib.hid hb2
       have HK2:=Lib.hid (rcounting_any A n c l known w2 (HL.out.below HB2.out (Nat.le_refl _)) (by omega))
       clear hb2)
    | (go_at_call 83;(with_reducible refine HK2.out.mono ?_);rintro e w4 ⟨A4,m4,c4,rfl,hO4,hb4⟩
       have HB4:=Lib.hid (HB2.out.trans (hb4.mono HB2.out.size))
       have hm4:=hO4.len
       have HR4:=Lib.hid (hO4.rd (fun _=>rfl) (by omega))
       have HK3:=Lib.hid (rmovable_any A4 m4 c4 (counting l known) w4 HR4.out (by omega))
       clear hb4 hO4 hm4)
    | (go_at_call 84;(with_reducible refine HK3.out.mono ?_);rintro e w5 ⟨A5,c5,rfl,hR5,hb5⟩
       have HB5:=Lib.hid (HB4.out.trans (hb5.mono HB4.out.size))
       have HR5:=Lib.hid hR5
       clear hb5 hR5))
   go_ret2
   exact ⟨A5,_,c5,rfl,HB5.out,HR5.out⟩
 · have he':=neBool he
   rw [onOk_err he]
   go_enter Tryz.func28,Tryz.ntmps28
   go_wp2_with (go_at_call 80;(with_reducible refine HA.out.mono ?_);rintro e w2 ⟨rfl,hb2⟩;have HB2:=Lib.hid hb2;clear hb2)
   go_ret2
   exact ⟨none,0,0,rfl,HB2.out,Rd.none_ _ _ (by omega)⟩
def SomeB (w:World) (e:Ending) (w':World):Prop:=∃ b:Bool,e = .returned (.bool b)∧Below w.heap.size w w'
set_option maxHeartbeats 2000000 in
theorem moderate_any (A:Option Addr) (n c:Nat) (l:List Trace) (known:Int) (B:Option Addr) (m d:Nat) (bs:List Bond) (M:Option Addr) (mn mc:Nat) (w:World) (hl:Rd encTrace 10 w A n c l) (hb:Rd encBond 5 w B m d bs):
 Calls Tryz.prog 24 #[.slice A n c,.int .i64 known,.slice B m d,.slice M mn mc] w (SomeB w):=by
 have HM:=Lib.hid (rMovable_any A n c l known B m d bs w hl hb)
 clear hl hb
 generalize askErr l known bs=er at HM
 go_enter Tryz.func24,Tryz.ntmps24
 go_wp2_with (go_at_call 28;(with_reducible refine HM.out.mono ?_);rintro e w2 ⟨A2,n2,c2,rfl,hb2,_⟩;have HB2:=Lib.hid hb2;clear hb2)
 all_goals go_ret
 all_goals exact ⟨_,rfl,HB2.out⟩
end Go.Proofs.YtelnkflmnbhclaaGreat
end
section
namespace Go.Proofs.YtelnkflmnbhclaaGreat
open Go.RowKit Go.Proofs Go.Shelf
def setsV (l:List Trace) (known:Int) (bs:List Bond):List (List Place)×Int:=
 if askErr l known bs≠0 then ([],askErr l known bs) else if (setsOf l known bs).2 = [] then ([],81) else ((setsOf l known bs).2,0)
def ordStep (l:List Trace) (known:Int) (bs:List Bond) (a b:Place) (st:Bool×Bool) (mv:List Place):Bool×Bool:=
 (st.1&&(betweenV l known bs mv b a).2.1&&decide ((betweenV l known bs mv b a).1<0),st.2&&(betweenV l known bs mv a b).2.1&&decide ((betweenV l known bs mv a b).1≤0))
def ordS (l:List Trace) (known:Int) (bs:List Bond) (a b:Place) (sets:List (List Place)):Bool×Bool:=sets.foldl (ordStep l known bs a b) (true,true)
theorem ordS_snoc (l:List Trace) (known:Int) (bs:List Bond) (a b:Place) {sets:List (List Place)} {j:Nat} {mv:List Place} (h:sets[j]? = some mv):ordS l known bs a b (sets.take (j+1))=ordStep l known bs a b (ordS l known bs a b (sets.take j)) mv:=by
 unfold ordS
 rw [List.take_add_one,h,List.foldl_append];rfl
theorem setTo_adm {ads:List Admit} (hs:(ads.map (·.place)).Pairwise ltPl) (b:Nat):∀ k,k≤ads.length→(setTo ads b k).1.Sublist ((ads.take k).map (·.place))
 | 0,_=>by simp [setTo]
 | k+1,h=>by
   have ih:=setTo_adm hs b k (by omega)
   have hy:ads[k]? = some ads[k]:=List.getElem?_eq_getElem h
   rw [List.take_add_one,hy,List.map_append]
   cases hb:bitOn b k with
   | true=>
     rw [setTo_on hy hb]
     exact ih.append (List.Sublist.refl _)
   | false=>
     rw [setTo_off hy hb]
     exact ih.trans (List.sublist_append_left _ _)
theorem isAdm_of {ads:List Admit} {p:Place} (h:p∈ads.map (·.place)):isAdm ads p=true:=by
 obtain ⟨x,hx,rfl⟩:=List.mem_map.1 h
 exact List.any_eq_true.2 ⟨x,hx,eqPlace_iff.2 rfl⟩
theorem admitsOf_asc (ts:List Trace):((admitsOf ts).map (·.place)).Pairwise ltPl:=by
 rw [admitsOf_places]
 exact sortPl_asc (admFold_nodup ts [] List.nodup_nil)
theorem setsOf_from {l:List Trace} {known:Int} {bs:List Bond} {mv:List Place} (h:mv∈(setsOf l known bs).2):∃ b,b<2 ^ (admitsOf (counting l known)).length∧mv=(setTo (admitsOf (counting l known)) b (admitsOf (counting l known)).length).1∧
 (setTo (admitsOf (counting l known)) b (admitsOf (counting l known)).length).2=(setsOf l known bs).1∧enough (counting l known) bs mv=true:=
 (chpInv _ _ _).from_ mv ((sortLx_perm _).mem_iff.1 h)
theorem setsOf_with {l:List Trace} {known:Int} {bs:List Bond} (he:askErr l known bs=0) {mv:List Place} (h:mv∈(setsOf l known bs).2):withErr l known bs mv=0∧enough (counting l known) bs mv=true:=by
 obtain ⟨b,_,rfl,_,h2⟩:=setsOf_from h
 refine ⟨withErr_zero.2 ⟨he,admittedErr_zero.2 ⟨?_,fun p hp=> ?_⟩⟩,h2⟩
 · have:=setTo_adm (admitsOf_asc (counting l known)) b _ (Nat.le_refl _)
   rw [List.take_length] at this
   exact (admitsOf_asc _).sublist this
 · have:=setTo_adm (admitsOf_asc (counting l known)) b _ (Nat.le_refl _)
   rw [List.take_length] at this
   exact isAdm_of (this.mem hp)
theorem between_set {l:List Trace} {known:Int} {bs:List Bond} {mv:List Place} {a b:Place} (hw:withErr l known bs mv=0) (he:enough (counting l known) bs mv=true) (ha:(getM (ptsOf l known bs) a).isSome=true) (hb:(getM (ptsOf l known bs) b).isSome=true):
 betweenV l known bs mv a b=((greatestV ((placesOf (counting l known) bs).length+1) (sysB (counting l known) bs mv) ((getM (ptsOf l known bs) a).getD 0) ((getM (ptsOf l known bs) b).getD 0)).1,
  (greatestV ((placesOf (counting l known) bs).length+1) (sysB (counting l known) bs mv) ((getM (ptsOf l known bs) a).getD 0) ((getM (ptsOf l known bs) b).getD 0)).2.1,0):=by
 have h0:endsErr l known bs mv a b=0:=by unfold endsErr;rw [if_neg (by simpa using hw),if_pos (by simp [ha,hb])]
 unfold betweenV
 rw [if_neg (by simpa using h0)]
 have hg:∀ x y,(greatestV ((placesOf (counting l known) bs).length+1) (sysB (counting l known) bs mv) x y).2.2=0:=fun x y=>by
  unfold greatestV
  rw [if_pos (show solvedOk _ _=true from he)]
  split<;>rfl
 simp only [show sysOf l known bs mv=sysB (counting l known) bs mv from rfl]
 rw [if_neg (by simpa using hg _ _)]
theorem earlS_ordS {l:List Trace} {known:Int} {bs:List Bond} {a b:Place} (ha:(getM (ptsOf l known bs) a).isSome=true) (hb:(getM (ptsOf l known bs) b).isSome=true):∀ (sets:List (List Place)) (st:Bool×Bool),(∀ mv∈sets,withErr l known bs mv=0∧enough (counting l known) bs mv=true)→
 sets.foldl (stepE ((placesOf (counting l known) bs).length+1) (sysB (counting l known) bs) ((getM (ptsOf l known bs) a).getD 0) ((getM (ptsOf l known bs) b).getD 0)) st=sets.foldl (ordStep l known bs a b) st
 | [],_,_=>rfl
 | mv::sets,st,h=>by
   rw [List.foldl_cons,List.foldl_cons]
   obtain ⟨h1,h2⟩:=h mv List.mem_cons_self
   have:stepE ((placesOf (counting l known) bs).length+1) (sysB (counting l known) bs) ((getM (ptsOf l known bs) a).getD 0) ((getM (ptsOf l known bs) b).getD 0) st mv=ordStep l known bs a b st mv:=by
    unfold stepE ordStep
    rw [between_set h1 h2 ha hb,between_set h1 h2 hb ha]
   rw [this]
   exact earlS_ordS ha hb sets _ fun mv hm=>h mv (List.mem_cons_of_mem _ hm)
theorem earl_ok {l:List Trace} {known:Int} {bs:List Bond} {a b:Place} (h:(earlierV l known bs a b).2=0):askErr l known bs=0∧(getM (ptsOf l known bs) a).isSome=true∧(getM (ptsOf l known bs) b).isSome=true∧(setsOf l known bs).2 ≠ []:=by
 unfold earlierV at h
 split at h
 · rename_i h1;exact absurd h h1
 · rename_i h1
   split at h
   · cases h
   · rename_i h2
     split at h
     · cases h
     · rename_i h3
       simp only [Bool.and_eq_false_iff,not_or,Bool.not_eq_false] at h2
       exact ⟨by simpa using h1,h2.1,h2.2,h3⟩
theorem earl_ord {l:List Trace} {known:Int} {bs:List Bond} {a b:Place} (h:(earlierV l known bs a b).2=0):(earlierV l known bs a b).1=earlR (ordS l known bs a b (setsOf l known bs).2)∧setsV l known bs=((setsOf l known bs).2,0)∧
 (∀ mv∈(setsOf l known bs).2,(betweenV l known bs mv a b).2.2=0∧(betweenV l known bs mv b a).2.2=0):=by
 obtain ⟨h1,h2,h3,h4⟩:=earl_ok h
 refine ⟨?_,?_,fun mv hm=> ?_⟩
 · unfold earlierV
   rw [if_neg (by simpa using h1),if_neg (by simp [h2,h3]),if_neg h4]
   simp only
   unfold earlS ordS
   rw [earlS_ordS h2 h3 _ _ fun mv hm=>setsOf_with h1 hm]
 · unfold setsV
   rw [if_neg (by simpa using h1),if_neg h4]
 · obtain ⟨g1,g2⟩:=setsOf_with h1 hm
   rw [between_set g1 g2 h2 h3,between_set g1 g2 h3 h2]
   exact ⟨rfl,rfl⟩
end Go.Proofs.YtelnkflmnbhclaaGreat
end
section
namespace Go.Proofs.YtelnkflmnbhclaaGreat
open Go.RowKit Go.Proofs Go.Shelf
def subsR:List Place→List (List Place)
 | []=> [[]]
 | p::m=> []::((subsR m).map (p :: ·)++(subsR m).drop 1)
theorem subsR_head (m:List Place):∃ r,subsR m = []::r:=by cases m<;>exact ⟨_,rfl⟩
theorem subsR_mem:∀ (m s:List Place),s∈subsR m↔s.Sublist m
 | [],s=>by simp [subsR]
 | p::m,s=>by
   have ih:=subsR_mem m
   obtain ⟨r,hr⟩:=subsR_head m
   rw [subsR,List.mem_cons,List.mem_append,List.mem_map]
   constructor
   · rintro (rfl|⟨a,ha,rfl⟩|h)
     · exact List.nil_sublist _
     · exact ((ih a).1 ha).cons_cons p
     · exact ((ih s).1 (List.mem_of_mem_drop h)).cons p
   · intro h
     cases h with
     | cons _ h=>
       have h2:=(ih s).2 h
       rw [hr] at h2 ⊢
       rcases List.mem_cons.1 h2 with rfl|h2
       · exact .inl rfl
       · exact .inr (.inr (by simpa using h2))
     | cons_cons _ h=>exact .inr (.inl ⟨_,(ih _).2 h,rfl⟩)
theorem subsR_sorted:∀ (m:List Place),m.Pairwise ltPl→(subsR m).Pairwise lexLt
 | [],_=>by simp [subsR]
 | p::m,h=>by
   rw [List.pairwise_cons] at h
   have ih:=subsR_sorted m h.2
   obtain ⟨r,hr⟩:=subsR_head m
   have hne:∀ s∈(subsR m).drop 1,∃ q t,s=q::t∧q∈m:=fun s hs=>by
    have hm:=(subsR_mem m s).1 (List.mem_of_mem_drop hs)
    cases s with
    | nil=>
      rw [hr] at hs ih
      have:=(List.pairwise_cons.1 ih).1 [] (by simpa using hs)
      exact absurd this (lexLt_irrefl _)
    | cons q t=>exact ⟨q,t,rfl,hm.mem List.mem_cons_self⟩
   rw [subsR,List.pairwise_cons]
   refine ⟨fun s hs=> ?_,?_⟩
   · rcases List.mem_append.1 hs with hs|hs
     · obtain ⟨a,_,rfl⟩:=List.mem_map.1 hs
       trivial
     · obtain ⟨q,t,rfl,_⟩:=hne s hs
       trivial
   · rw [List.pairwise_append]
     refine ⟨?_,ih.sublist (List.drop_sublist _ _),fun a ha b hb=> ?_⟩
     · rw [List.pairwise_map]
       exact ih.imp fun {a b} h=> .inr ⟨rfl,h⟩
     · obtain ⟨a',_,rfl⟩:=List.mem_map.1 ha
       obtain ⟨q,t,rfl,hq⟩:=hne b hb
       exact .inl (h.1 q hq)
def costStepR (set:List Place) (n:Int) (x:Admit):Int:=if hasPl set x.place then n+x.cost else n
def costR (ads:List Admit) (set:List Place):Int:=ads.foldl (costStepR set) 0
theorem costR_to {ads:List Admit} (hn:(ads.map (·.place)).Nodup) (b:Nat):∀ k,k≤ads.length→(ads.take k).foldl (costStepR (setTo ads b ads.length).1) 0=(setTo ads b k).2
 | 0,_=>rfl
 | k+1,h=>by
   have hy:ads[k]? = some ads[k]:=List.getElem?_eq_getElem h
   have hm:=setTo_mem hn b ads.length (Nat.le_refl _) k _ hy
   rw [List.take_add_one,hy,Option.toList_some,List.foldl_append,costR_to hn b k (by omega)]
   show costStepR _ _ ads[k]=_
   unfold costStepR
   cases hb:bitOn b k with
   | true=>rw [setTo_on hy hb,if_pos (hasPl_iff.2 (hm.2 ⟨h,hb⟩))]
   | false=>
     rw [setTo_off hy hb,if_neg]
     intro e
     have:=(hm.1 (hasPl_iff.1 e)).2
     rw [hb] at this;cases this
theorem costR_set {ads:List Admit} (hn:(ads.map (·.place)).Nodup) (b:Nat):costR ads (setTo ads b ads.length).1=(setTo ads b ads.length).2:=by
 have:=costR_to hn b ads.length (Nat.le_refl _)
 rwa [List.take_length] at this
theorem setTo_congr (ads:List Admit) (a b:Nat):∀ k,(∀ j,j<k→bitOn a j=bitOn b j)→setTo ads a k=setTo ads b k
 | 0,_=>rfl
 | k+1,h=>by
   rw [setTo,setTo,setTo_congr ads a b k fun j hj=>h j (by omega),h k (by omega)]
theorem setTo_all {ads:List Admit} (h8:ads.length≤8):∀ k,k≤ads.length→∀ s:List Place,s.Sublist ((ads.take k).map (·.place))→∃ b,b<2 ^ k∧(setTo ads b k).1=s
 | 0,_,s,h=>⟨0,by simp,by
   have:s = []:=by simpa using h
   rw [this];rfl⟩
 | k+1,hk,s,h=>by
   have hy:ads[k]? = some ads[k]:=List.getElem?_eq_getElem hk
   rw [List.take_add_one,hy,Option.toList_some,List.map_append,List.sublist_append_iff] at h
   obtain ⟨s1,s2,rfl,h1,h2⟩:=h
   obtain ⟨b,hb,rfl⟩:=setTo_all h8 k (by omega) s1 h1
   have hp:(2:Nat) ^ k≤2 ^ 7:=Nat.pow_le_pow_right (by omega) (by omega)
   have hp2:(2:Nat) ^ (k+1)=2 ^ k+2 ^ k:=by rw [Nat.pow_succ];omega
   have bit:∀ n,n<256→bitOn n k=n.testBit k:=fun n hn=>bitOn_test n hn k (by omega)
   have h2:s2 = []∨s2 = [ads[k].place]:=by
    rw [List.map_singleton] at h2
    cases h2 with
    | cons _ h=>exact .inl (List.sublist_nil.1 h)
    | cons_cons _ h=>rw [List.sublist_nil.1 h];exact .inr rfl
   rcases h2 with rfl|rfl
   · refine ⟨b,by omega,?_⟩
     rw [setTo_off hy (by rw [bit b (by omega)];exact Nat.testBit_lt_two_pow hb),List.append_nil]
   · refine ⟨2 ^ k+b,by omega,?_⟩
     rw [setTo_on hy (by rw [bit _ (by omega),Nat.testBit_two_pow_add_eq,Nat.testBit_lt_two_pow hb];rfl)]
     rw [setTo_congr ads (2 ^ k+b) b k fun j hj=>by rw [bitOn_test _ (by omega) j (by omega),bitOn_test _ (by omega) j (by omega),Nat.testBit_two_pow_add_gt hj]]
def setsStepR (ads:List Admit) (en:List Place→Bool) (out:List (List Place)) (s:List Place):List (List Place):=
 if (0<out.length∧costR ads (out.getD 0 [])<costR ads s)∨en s=false then out
 else (if 0<out.length∧costR ads s<costR ads (out.getD 0 []) then [] else out) ++ [s]
def setsR (ads:List Admit) (en:List Place→Bool):List (List Place):=(subsR (ads.map (·.place))).foldl (setsStepR ads en) []
structure SetsInv (ads:List Admit) (en:List Place→Bool) (P out:List (List Place)):Prop where
 sub:out.Sublist P
 from_:∀ s∈out,en s=true∧costR ads s=costR ads (out.getD 0 [])
 all:∀ t∈P,en t=true→0<out.length∧costR ads (out.getD 0 [])≤costR ads t∧(costR ads t=costR ads (out.getD 0 [])→t∈out)
theorem setsInv_step {ads:List Admit} {en:List Place→Bool} {P out:List (List Place)} (h:SetsInv ads en P out) (s:List Place):SetsInv ads en (P ++ [s]) (setsStepR ads en out s):=by
 obtain ⟨h1,h2,h3⟩:=h
 unfold setsStepR
 by_cases c1:(0<out.length∧costR ads (out.getD 0 [])<costR ads s)∨en s=false
 · rw [if_pos c1]
   refine ⟨h1.trans (List.sublist_append_left _ _),h2,fun t ht he=> ?_⟩
   rcases List.mem_append.1 ht with ht|ht
   · exact h3 t ht he
   · have:t=s:=by simpa using ht
     subst this
     rcases c1 with ⟨a,b⟩|a
     · exact ⟨a,by omega,fun e=>by omega⟩
     · rw [a] at he;cases he
 · rw [if_neg c1]
   have hen:en s=true:=by
    cases e:en s with
    | true=>rfl
    | false=>exact absurd (.inr e) c1
   by_cases c2:0<out.length∧costR ads s<costR ads (out.getD 0 [])
   · rw [if_pos c2,List.nil_append]
     refine ⟨List.sublist_append_right _ _,fun t ht=> ?_,fun t ht he=> ?_⟩
     · have:t=s:=by simpa using ht
       subst this
       exact ⟨hen,rfl⟩
     · show 0<1∧costR ads s≤costR ads t∧(costR ads t=costR ads s→t ∈ [s])
       rcases List.mem_append.1 ht with ht|ht
       · have:=h3 t ht he
         exact ⟨by omega,by omega,fun e=>by omega⟩
       · have:t=s:=by simpa using ht
         subst this
         exact ⟨by omega,Int.le_refl _,fun _=>by simp⟩
   · rw [if_neg c2]
     have hsub:(out ++ [s]).Sublist (P ++ [s]):=h1.append (List.Sublist.refl _)
     cases out with
     | nil=>
       refine ⟨hsub,fun t ht=> ?_,fun t ht he=> ?_⟩
       · have:t=s:=by simpa using ht
         subst this
         exact ⟨hen,rfl⟩
       · rcases List.mem_append.1 ht with ht|ht
         · have:=(h3 t ht he).1
           simp at this
         · have:t=s:=by simpa using ht
           subst this
           exact ⟨by simp,Int.le_refl _,fun _=>by simp⟩
     | cons o r=>
       have hg:((o::r) ++ [s]).getD 0 []=o:=rfl
       have hg2:(o::r).getD 0 []=o:=rfl
       rw [hg2] at h2 h3 c1 c2
       have hc:costR ads s=costR ads o:=by
        have a1:¬costR ads o<costR ads s:=fun e=>c1 (.inl ⟨by simp,e⟩)
        have a2:¬costR ads s<costR ads o:=fun e=>c2 ⟨by simp,e⟩
        omega
       refine ⟨hsub,fun t ht=> ?_,fun t ht he=> ?_⟩
       · rw [hg]
         rcases List.mem_append.1 ht with ht|ht
         · exact h2 t ht
         · have:t=s:=by simpa using ht
           subst this
           exact ⟨hen,hc⟩
       · rw [hg]
         rcases List.mem_append.1 ht with ht|ht
         · obtain ⟨_,b1,b2⟩:=h3 t ht he
           exact ⟨by simp,b1,fun e=>List.mem_append_left _ (b2 e)⟩
         · have:t=s:=by simpa using ht
           subst this
           exact ⟨by simp,by omega,fun _=>by simp⟩
theorem setsInv_all {ads:List Admit} {en:List Place→Bool} :∀ (xs P out:List (List Place)),SetsInv ads en P out→SetsInv ads en (P++xs) (xs.foldl (setsStepR ads en) out)
 | [],P,out,h=>by simpa using h
 | x::xs,P,out,h=>by
   have:=setsInv_all xs (P ++ [x]) _ (setsInv_step h x)
   rw [List.append_assoc] at this
   exact this
theorem setsR_inv (ads:List Admit) (en:List Place→Bool):SetsInv ads en (subsR (ads.map (·.place))) (setsR ads en):=by
 have:=setsInv_all (ads:=ads) (en:=en) (subsR (ads.map (·.place))) [] [] ⟨List.Sublist.refl _,fun s h=>(by cases h),fun t h=>(by cases h)⟩
 rwa [List.nil_append] at this
theorem setsR_eq {ads:List Admit} (ha:(ads.map (·.place)).Pairwise ltPl) (h8:ads.length≤8) (en:List Place→Bool):(cheapestM ads en).2=setsR ads en∧(setsR ads en ≠ []→(cheapestM ads en).1=costR ads ((setsR ads en).getD 0 [])):=by
 have hn:(ads.map (·.place)).Nodup:=ha.imp fun {a b} h e=>by subst e;exact ltPl_irrefl _ h
 obtain ⟨s1,s2,s3⟩:=setsR_inv ads en
 obtain ⟨c1,c2⟩:=chpInv ads en (2 ^ ads.length)
 have hnd:=chpTo_nodup hn h8 en (2 ^ ads.length) (Nat.le_refl _)
 have hsort:=(subsR_sorted _ ha).sublist s1
 have hsub:∀ b,(setTo ads b ads.length).1∈subsR (ads.map (·.place)):=fun b=>by
  have:=setTo_adm ha b _ (Nat.le_refl _)
  rw [List.take_length] at this
  exact (subsR_mem _ _).2 this
 have hnum:∀ t∈subsR (ads.map (·.place)),∃ b,b<2 ^ ads.length∧(setTo ads b ads.length).1=t:=fun t ht=>by
  have:=(subsR_mem _ _).1 ht
  refine setTo_all h8 _ (Nat.le_refl _) t ?_
  rw [List.take_length];exact this
 have hleast:∀ t∈setsR ads en,costR ads t=(chpTo ads en (2 ^ ads.length)).1:=fun t ht=>by
  obtain ⟨b,hb,rfl⟩:=hnum t (s1.mem ht)
  obtain ⟨e1,e2⟩:=s2 _ ht
  obtain ⟨g1,g2,_⟩:=c2 b hb e1
  obtain ⟨x,hx⟩:=List.exists_mem_of_ne_nil _ g1
  obtain ⟨b',hb',rfl,hc',he'⟩:=c1 x hx
  obtain ⟨_,k2,_⟩:=s3 _ (hsub b') he'
  rw [costR_set hn,hc'] at k2
  rw [costR_set hn] at e2 ⊢
  omega
 have hmem:∀ t,t∈(chpTo ads en (2 ^ ads.length)).2↔t∈setsR ads en:=fun t=>by
  constructor
  · intro ht
    obtain ⟨b,hb,rfl,hc,he⟩:=c1 t ht
    obtain ⟨k1,k2,k3⟩:=s3 _ (hsub b) he
    obtain ⟨o,ho⟩:∃ o,o∈setsR ads en∧(setsR ads en).getD 0 []=o:=by
     cases e:setsR ads en with
     | nil=>rw [e] at k1;simp at k1
     | cons o r=>exact ⟨o,List.mem_cons_self,rfl⟩
    refine k3 ?_
    rw [ho.2,hleast o ho.1,costR_set hn,hc]
  · intro ht
    obtain ⟨b,hb,rfl⟩:=hnum t (s1.mem ht)
    obtain ⟨e1,_⟩:=s2 _ ht
    refine (c2 b hb e1).2.2 ?_
    rw [←costR_set hn,hleast _ ht]
 have hnd2:(setsR ads en).Nodup:=hsort.imp fun {a b} h e=>by subst e;exact lexLt_irrefl _ h
 refine ⟨?_,fun hne=> ?_⟩
 · refine sortLx_eq (perm_of_sub hnd hnd2 hmem) (hsort.imp fun {a b} h=> ?_)
   rw [geLx_iff]
   exact fun h2=>lexLt_irrefl _ (lexLt_trans h h2)
 · cases e:setsR ads en with
   | nil=>exact absurd e hne
   | cons o r=>
     have:=hleast o (by rw [e];exact List.mem_cons_self)
     exact this.symm
end Go.Proofs.YtelnkflmnbhclaaGreat
end
section
namespace Go.Proofs.YtelnkflmnbhclaaGreat
open Go.RowKit Go.Proofs Go.Shelf
end Go.Proofs.YtelnkflmnbhclaaGreat
end

/- Contracts that the laws lean on: RefK, OrdP, RefT, Sets2. -/
import Derived.Test.YtelnkflmnbhclaaGreatPfH08
set_option maxHeartbeats 2000000
section
namespace Go.Proofs.YtelnkflmnbhclaaGreat
open Go.RowKit Go.Proofs Go.Shelf
theorem rMovable_any (A:Option Addr) (n c:Nat) (l:List Trace) (known:Int) (B:Option Addr) (m d:Nat) (bs:List Bond) (w:World) (hl:Rd encTrace 10 w A n c l) (hb:Rd encBond 5 w B m d bs):
 Calls Tryz.prog 28 #[.slice A n c,.int .i64 known,.slice B m d] w fun e w'=> ∃ A' n' c',e = .returned (.tuple #[.slice A' n' c',.int .i64 (askErr l known bs)])∧Below w.heap.size w w'∧
  Rd encAdmit 4 w' A' n' c' (onOk (askErr l known bs) (admitsOf (counting l known))):=by
 have HL:=Lib.hid hl;have HB:=Lib.hid hb;have HA:=Lib.hid (rAsked_any A n c l known B m d bs w hl hb);clear hl hb;by_cases he:askErr l known bs=0
 · have hs:=askErr_sizes he
   obtain ⟨o1,o2,o3,o4,o5⟩:=okO_of he
   have hck:(check l).2=0:=by rcases askErr_cases l known bs with ⟨h,h'⟩|⟨h,_⟩|⟨h,_⟩|⟨h,_⟩|⟨h,_⟩<;>first|exact h|exact absurd (h'.symm.trans he) h
   have hs1:=check_small hck;have hln:=HL.out.len;have hbn:=HB.out.len;rw [he] at HA;rw [he,onOk_zero];clear he hck hs o1 o2;go_enter Tryz.func28,Tryz.ntmps28
   go_wp2_with (first
    | (go_at_call 80;(with_reducible refine HA.out.mono ?_);rintro e w2 ⟨rfl,hb2⟩
       have HB2:=Lib.hid hb2;have HK2:=Lib.hid (rcounting_any A n c l known w2 (HL.out.below HB2.out (Nat.le_refl _)) (by omega))
       clear hb2)
    | (go_at_call 83;(with_reducible refine HK2.out.mono ?_);rintro e w4 ⟨A4,m4,c4,rfl,hO4,hb4⟩
       have HB4:=Lib.hid (HB2.out.trans (hb4.mono HB2.out.size));have hm4:=hO4.len;have HR4:=Lib.hid (hO4.rd (fun _=>rfl) (by omega));have HK3:=Lib.hid (rmovable_any A4 m4 c4 (counting l known) w4 HR4.out (by omega))
       clear hb4 hO4 hm4)
    | (go_at_call 84;(with_reducible refine HK3.out.mono ?_);rintro e w5 ⟨A5,c5,rfl,hR5,hb5⟩
       have HB5:=Lib.hid (HB4.out.trans (hb5.mono HB4.out.size));have HR5:=Lib.hid hR5
       clear hb5 hR5))
   go_ret2;exact ⟨A5,_,c5,rfl,HB5.out,HR5.out⟩
 · have he':=neBool he
   rw [onOk_err he];go_enter Tryz.func28,Tryz.ntmps28;go_wp2_with (go_at_call 80;(with_reducible refine HA.out.mono ?_);rintro e w2 ⟨rfl,hb2⟩;have HB2:=Lib.hid hb2;clear hb2);go_ret2;exact ⟨none,0,0,rfl,HB2.out,Rd.none_ _ _ (by omega)⟩
def SomeB (w:World) (e:Ending) (w':World):Prop:=∃ b:Bool,e = .returned (.bool b)∧Below w.heap.size w w'
theorem moderate_any (A:Option Addr) (n c:Nat) (l:List Trace) (known:Int) (B:Option Addr) (m d:Nat) (bs:List Bond) (M:Option Addr) (mn mc:Nat) (w:World) (hl:Rd encTrace 10 w A n c l) (hb:Rd encBond 5 w B m d bs):
 Calls Tryz.prog 24 #[.slice A n c,.int .i64 known,.slice B m d,.slice M mn mc] w (SomeB w):=by
 have HM:=Lib.hid (rMovable_any A n c l known B m d bs w hl hb);clear hl hb;generalize askErr l known bs=er at HM;go_enter Tryz.func24,Tryz.ntmps24;go_wp2_with (go_at_call 28;(with_reducible refine HM.out.mono ?_);rintro e w2 ⟨A2,n2,c2,rfl,hb2,_⟩;have HB2:=Lib.hid hb2;clear hb2)
 all_goals go_ret
 all_goals exact ⟨_,rfl,HB2.out⟩
theorem admitsOf_asc (ts:List Trace):((admitsOf ts).map (·.place)).Pairwise ltPl:=by
 rw [admitsOf_places];exact sortPl_asc (admFold_nodup ts [] List.nodup_nil)
def costStepR (set:List Place) (n:Int) (x:Admit):Int:=if hasPl set x.place then n+x.cost else n
def costR (ads:List Admit) (set:List Place):Int:=ads.foldl (costStepR set) 0
theorem costR_to {ads:List Admit} (hn:(ads.map (·.place)).Nodup) (b:Nat):∀ k,k≤ads.length→(ads.take k).foldl (costStepR (setTo ads b ads.length).1) 0=(setTo ads b k).2
 | 0,_=>rfl
 | k+1,h=>by
   have hy:ads[k]? = some ads[k]:=List.getElem?_eq_getElem h;have hm:=setTo_mem hn b ads.length (Nat.le_refl _) k _ hy;rw [List.take_add_one,hy,Option.toList_some,List.foldl_append,costR_to hn b k (by omega)]
   show costStepR _ _ ads[k]=_
   unfold costStepR
   cases hb:bitOn b k with
   | true=>rw [setTo_on hy hb,if_pos (hasPl_iff.2 (hm.2 ⟨h,hb⟩))]
   | false=>
     rw [setTo_off hy hb,if_neg];intro e;have:=(hm.1 (hasPl_iff.1 e)).2;rw [hb] at this;cases this
theorem costR_set {ads:List Admit} (hn:(ads.map (·.place)).Nodup) (b:Nat):costR ads (setTo ads b ads.length).1=(setTo ads b ads.length).2:=by
 have:=costR_to hn b ads.length (Nat.le_refl _)
 rwa [List.take_length] at this
theorem setTo_congr (ads:List Admit) (a b:Nat):∀ k,(∀ j,j<k→bitOn a j=bitOn b j)→setTo ads a k=setTo ads b k
 | 0,_=>rfl
 | k+1,h=>by
   rw [setTo,setTo,setTo_congr ads a b k fun j hj=>h j (by omega),h k (by omega)]
theorem setTo_all {ads:List Admit} (h8:ads.length≤8):∀ k,k≤ads.length→∀ s:List Place,s.Sublist ((ads.take k).map (·.place))→∃ b,b<2 ^ k∧(setTo ads b k).1=s
 | 0,_,s,h=>⟨0,by simp,by
   have:s = []:=by simpa using h
   rw [this];rfl⟩
 | k+1,hk,s,h=>by
   have hy:ads[k]? = some ads[k]:=List.getElem?_eq_getElem hk;rw [List.take_add_one,hy,Option.toList_some,List.map_append,List.sublist_append_iff] at h;obtain ⟨s1,s2,rfl,h1,h2⟩:=h;obtain ⟨b,hb,rfl⟩:=setTo_all h8 k (by omega) s1 h1;have hp:(2:Nat) ^ k≤2 ^ 7:=Nat.pow_le_pow_right (by omega) (by omega);have hp2:(2:Nat) ^ (k+1)=2 ^ k+2 ^ k:=by rw [Nat.pow_succ];omega
   have bit:∀ n,n<256→bitOn n k=n.testBit k:=fun n hn=>bitOn_test n hn k (by omega)
   have h2:s2 = []∨s2 = [ads[k].place]:=by
    rw [List.map_singleton] at h2
    cases h2 with
    | cons _ h=>exact .inl (List.sublist_nil.1 h)
    | cons_cons _ h=>rw [List.sublist_nil.1 h];exact .inr rfl
   rcases h2 with rfl|rfl
   · refine ⟨b,by omega,?_⟩
     rw [setTo_off hy (by rw [bit b (by omega)];exact Nat.testBit_lt_two_pow hb),List.append_nil]
   · refine ⟨2 ^ k+b,by omega,?_⟩
     rw [setTo_on hy (by rw [bit _ (by omega),Nat.testBit_two_pow_add_eq,Nat.testBit_lt_two_pow hb];rfl)];rw [setTo_congr ads (2 ^ k+b) b k fun j hj=>by rw [bitOn_test _ (by omega) j (by omega),bitOn_test _ (by omega) j (by omega),Nat.testBit_two_pow_add_gt hj]]
end Go.Proofs.YtelnkflmnbhclaaGreat
end

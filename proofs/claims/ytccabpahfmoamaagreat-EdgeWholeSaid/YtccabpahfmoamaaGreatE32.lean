/- Contracts that the laws lean on: WhoP, WhoL. -/
import Derived.Test.YtccabpahfmoamaaGreatE22
import Derived.Test.YtccabpahfmoamaaGreatE23
import Derived.Test.YtccabpahfmoamaaGreatE27
section
namespace Go.Proofs.YtccabpahfmoamaaGreat
def PartOf (p x:Pairing):Prop:=x.a.lo≤p.a.lo∧p.a.hi≤x.a.hi∧x.a.lo+x.b.hi=p.a.lo+p.b.hi
theorem mem_meetL {A B:Outl} {s:Int} {p:Pairing} : p∈meetL A B s↔p∈pairsL A.n B.n s∧meetsV A B p=true:=by unfold meetL;rw [List.mem_filter]
theorem mem_seenTo {A B:Outl} {p:Pairing} :∀ {j:Nat},p∈seenTo A B j ↔ ∃ i,i<j∧p∈meetL A B (16-(i:Int))
 | 0=>by simp [seenTo]
 | j+1=>by
   rw [seenTo,List.mem_append,mem_seenTo (j:=j)]
   constructor
   · rintro (⟨i,h1,h2⟩|h)
     · exact ⟨i,by omega,h2⟩
     · exact ⟨j,by omega,h⟩
   · rintro ⟨i,h1,h2⟩
     rcases Nat.lt_or_ge i j with h|h
     · exact .inl ⟨i,h,h2⟩
     · have:i=j:=by omega
       subst this;exact .inr h2
theorem mem_outTo {A B:Outl} {p:Pairing} :∀ {j:Nat},p∈outTo A B j ↔ ∃ i,i<j∧p∈meetL A B (16-(i:Int))∧aloneB (seenTo A B i) p=true
 | 0=>by simp [outTo]
 | j+1=>by
   rw [outTo,List.mem_append,mem_outTo (j:=j),List.mem_filter]
   constructor
   · rintro (⟨i,h1,h2⟩|h)
     · exact ⟨i,by omega,h2⟩
     · exact ⟨j,by omega,h⟩
   · rintro ⟨i,h1,h2⟩
     rcases Nat.lt_or_ge i j with h|h
     · exact .inl ⟨i,h,h2⟩
     · have:i=j:=by omega
       subst this;exact .inr h2
theorem mem_maxL {A B:Outl} {p:Pairing} : p∈maxL A B↔p∈outTo A B 16:=by
 unfold maxL
 have hp:=(sortTri_perm ((outTo A B 16).map toTri)).map triP
 rw [hp.mem_iff,outTo_tri (Nat.le_refl _)]
theorem part_grow {p x:Pairing} (h:PartOf (growF p) x∨PartOf (growB p) x):PartOf p x:=by
 rcases h with ⟨h1,h2,h3⟩|⟨h1,h2,h3⟩
 · simp only [growF] at h1 h2 h3;exact ⟨by omega,h2,by omega⟩
 · simp only [growB] at h1 h2 h3;exact ⟨h1,by omega,by omega⟩
theorem part_out {A B:Outl} :∀ (i:Nat),i<16→∀ p,p∈meetL A B (16-(i:Int))→∃ x∈outTo A B 16,PartOf p x:=by
 intro i
 induction i using Nat.strongRecOn with
 | _ i ih=>
   intro hi p hp
   cases ha:aloneB (seenTo A B i) p with
   | true=>exact ⟨p,mem_outTo.2 ⟨i,hi,hp,ha⟩,Int.le_refl _,Int.le_refl _,rfl⟩
   | false=>
     unfold aloneB at ha
     rw [Bool.and_eq_false_iff] at ha
     rcases ha with ha|ha
     · obtain ⟨j,h1,h2⟩:=mem_seenTo.1 (by simpa using ha)
       obtain ⟨x,hx,hpx⟩:=ih j h1 (by omega) _ h2
       exact ⟨x,hx,part_grow (.inl hpx)⟩
     · obtain ⟨j,h1,h2⟩:=mem_seenTo.1 (by simpa using ha)
       obtain ⟨x,hx,hpx⟩:=ih j h1 (by omega) _ h2
       exact ⟨x,hx,part_grow (.inr hpx)⟩
section
variable {A B:Outl} {p:Pairing}
theorem ask_meetL (h:AskOk A B p) (hm:meetsV A B p=true):∃ i:Nat,i<16∧p∈meetL A B (16-(i:Int)):=by
 obtain ⟨n1,n2,_,_⟩:=checkOut_zero.1 h.a
 have h0:=h.a0;have h1:=h.a1;have h2:=h.a2;have h3:=h.b0;have h4:=h.b1;have h5:=h.b2;have h6:=h.k
 refine ⟨(16-(p.a.hi-p.a.lo)).toNat,by omega,mem_meetL.2 ⟨(mem_pairsL (by omega)).2 ⟨h0,?_,h2,h3,?_,h5⟩,hm⟩⟩
 · omega
 · omega
theorem whole_part (h:AskOk A B p) (hm:meetsV A B p=true):∃ x∈maxL A B,PartOf p x:=by
 obtain ⟨i,hi,hp⟩:=ask_meetL h hm
 obtain ⟨x,hx,hpx⟩:=part_out i hi p hp
 exact ⟨x,mem_maxL.2 hx,hpx⟩
theorem maxL_ok (ht:twiceErr A B=0) {x:Pairing} (hx:x∈maxL A B):askedErr A B x=0∧meetsV A B x=true:=by
 obtain ⟨i,hi,hm,_⟩:=mem_outTo.1 (mem_maxL.1 hx)
 obtain ⟨h1,h2⟩:=mem_meetL.1 hm
 exact ⟨pairs_ask (twice_zero.1 ht).1 (twice_zero.1 ht).2 (by omega) h1,h2⟩
theorem meetL_less {s:Int} (ht:twiceErr A B=0) (hs:1≤s) (h:meetL A B (s+1) ≠ []):meetL A B s ≠ []:=by
 obtain ⟨p,hp⟩:=List.exists_mem_of_ne_nil _ h
 obtain ⟨h1,h2⟩:=mem_meetL.1 hp
 have hk:=askedErr_zero.1 (pairs_ask (twice_zero.1 ht).1 (twice_zero.1 ht).2 (by omega) h1)
 obtain ⟨g1,g2,g3,g4,g5,g6⟩:=(mem_pairsL (by omega)).1 h1
 have hm:=meets_front hk (by omega) h2
 refine List.ne_nil_of_mem (a:=frontP p) (mem_meetL.2 ⟨(mem_pairsL hs).2 ?_,hm⟩)
 simp only [frontP]
 omega
theorem snoc_rec {P:List Pairing→Prop} (h0:P []) (h1:∀ l x,P l→P (l ++ [x])) (l:List Pairing):P l:=by
 have h:∀ l:List Pairing,P l.reverse:=by
  intro l
  induction l with
  | nil=>exact h0
  | cons x l ih=>rw [List.reverse_cons];exact h1 _ _ ih
 have:=h l.reverse
 rwa [List.reverse_reverse] at this
def mostL (l:List Pairing):Int:=l.foldl (fun m x=>max m (x.a.hi-x.a.lo)) 0
theorem mostL_snoc (l:List Pairing) (x:Pairing):mostL (l ++ [x])=max (mostL l) (x.a.hi-x.a.lo):=by unfold mostL;rw [List.foldl_append];rfl
theorem mostL_le:∀ (l:List Pairing) (n:Int),0≤n→(∀ x∈l,x.a.hi-x.a.lo≤n)→mostL l≤n:=by
 refine snoc_rec ?_ ?_
 · intro n h _;exact h
 · intro l x ih n h0 h
   rw [mostL_snoc]
   have h1:=ih n h0 (fun y hy=>h y (List.mem_append_left _ hy))
   have h2:=h x (by simp)
   omega
theorem mostL_ge:∀ (l:List Pairing),0≤mostL l∧∀ x∈l,x.a.hi-x.a.lo≤mostL l:=by
 refine snoc_rec ?_ ?_
 · exact ⟨Int.le_refl _,by simp⟩
 · intro l x ih
   rw [mostL_snoc]
   refine ⟨by omega,fun y hy=> ?_⟩
   rcases List.mem_append.1 hy with h|h
   · have:=ih.2 y h;omega
   · have:y=x:=by simpa using h
     subst this;omega
theorem whole_most (ht:twiceErr A B=0) {n:Nat} (h:LongOk A B n):mostL (maxL A B)=n:=by
 obtain ⟨h1,h2,h3⟩:=h
 have hno:∀ k:Nat,n<k→k≤16→meetL A B k = []:=by
  intro k
  induction k with
  | zero=>intro h;omega
  | succ k ih=>
    intro hk hk2
    rcases h3 with rfl|h3
    · omega
    · by_cases e:k=n
      · subst e;simpa using h3
      · have hi:=ih (by omega) (by omega)
        by_cases hm:meetL A B ((k+1:Nat):Int) = []
        · exact hm
        · exact absurd hi (meetL_less ht (by omega) (by simpa using hm))
 have hle:mostL (maxL A B)≤n:=by
  refine mostL_le _ _ (by omega) fun x hx=> ?_
  obtain ⟨i,hi,hm,_⟩:=mem_outTo.1 (mem_maxL.1 hx)
  have hs:=(mem_pairsL (by omega)).1 (mem_meetL.1 hm).1
  have:¬n<16-i:=fun hlt=>by
   have:=hno (16-i) hlt (by omega)
   rw [show ((16-i:Nat):Int)=16-(i:Int) from by omega] at this
   rw [this] at hm;cases hm
  omega
 have hge:(n:Int)≤mostL (maxL A B):=by
  rcases Nat.eq_zero_or_pos n with rfl|hn
  · exact (mostL_ge _).1
  · obtain ⟨p,hp⟩:=List.exists_mem_of_ne_nil _ (h2 n hn (Nat.le_refl _))
    have hp':p∈meetL A B (16-((16-n:Nat):Int)):=by rw [show (16-((16-n:Nat):Int))=(n:Int) from by omega];exact hp
    obtain ⟨x,hx,g1,g2,_⟩:=part_out (16-n) (by omega) p hp'
    have hs:=(mem_pairsL (by omega)).1 (mem_meetL.1 hp).1
    have:=(mostL_ge (maxL A B)).2 x (mem_maxL.2 hx)
    omega
 omega
theorem maxL_len (ha:A.n≤16) (hb:B.n≤16):(maxL A B).length≤4096:=by
 have:=outTo_len ha hb 16 (Nat.le_refl _)
 unfold maxL
 rw [List.length_map,(sortTri_perm _).length_eq,List.length_map]
 exact this
end
end Go.Proofs.YtccabpahfmoamaaGreat
end
section
namespace Go.Proofs.YtccabpahfmoamaaGreat
open Go.RowKit Go.Proofs Go.Shelf
def stepF (p:Pairing) (wv:Int) (x:Pairing):Bool:=decide (x.a.lo≤p.a.lo)&&(decide (p.a.hi≤x.a.hi)&&(x.a.lo+x.b.hi==wv))
theorem stepF_any {p:Pairing} {wv:Int} {l:List Pairing} (hw:wv=p.a.lo+p.b.hi) (h:∃ x∈l,PartOf p x):l.any (stepF p wv)=true:=by
 obtain ⟨x,hx,h1,h2,h3⟩:=h
 refine List.any_eq_true.2 ⟨x,hx,?_⟩
 unfold stepF
 rw [h3,hw]
 simp [h1,h2]
set_option maxRecDepth 100000 in
set_option maxHeartbeats 8000000 in
theorem edgeWhole_of (A:Outl) (AwA:Option Addr) (Awn Awc:Nat) (AtA:Option Addr) (Atn Atc:Nat) (B:Outl) (BwA:Option Addr) (Bwn Bwc:Nat) (BtA:Option Addr) (Btn Btc:Nat) (p:Pairing) (w:World) (hsz:Awn≤17592186044416∧Atn≤17592186044416∧Bwn≤17592186044416∧Btn≤17592186044416) (Aw:InL encBound 4 w AwA Awn Awc A.ways) (At:InL encBound 4 w AtA Atn Atc A.turns) (Bw:InL encBound 4 w BwA Bwn Bwc B.ways) (Bt:InL encBound 4 w BtA Btn Btc B.turns):
 Calls Tryz.prog 6 #[.agg #[.int .i64 A.n,.slice AwA Awn Awc,.slice AtA Atn Atc],.agg #[.int .i64 B.n,.slice BwA Bwn Bwc,.slice BtA Btn Btc],.agg #[.int .i64 p.a.lo,.int .i64 p.a.hi,.int .i64 p.b.lo,.int .i64 p.b.hi]] w fun e w'=>e = .returned (.bool true)∧Below w.heap.size w w':=by
 obtain ⟨sz1,sz2,sz3,sz4⟩:=hsz
 obtain ⟨w1,hw1,hb1,hz1,hcx⟩:=boxABP w A AwA Awn Awc AtA Atn Atc B BwA Bwn Bwc BtA Btn Btc p
 have HW1:=Lib.hid hw1
 have HB1:=Lib.hid hb1
 have HCE:Hid (∀ W,Below w1.heap.size w1 W→BoxABP w.heap.size A AwA Awn Awc AtA Atn Atc B BwA Bwn Bwc BtA Btn Btc p W):=(show ∀ W,_→_ from hcx)
 obtain ⟨xa0,xa1,xa2,xb0,xb1,xb2,xp0,xp1,xp2,xp3⟩:=hcx w1 (Below.refl _ _)
 clear hw1 hcx
 by_cases g1:6<A.n
 case pos=>
  clear Aw At Bw Bt hb1 HCE
  go_enter Tryz.func6,Tryz.ntmps6
  go_wp2_with (first
   | rw [HW1.out]
   | (go_at_call 17;(with_reducible refine (joined_any _).mono ?_);rintro e w4 ⟨rfl,hb4⟩;have HJ:=Lib.hid (HB1.out.trans (hb4.mono HB1.out.size));clear hb4))
  go_ret
  exact ⟨rfl,HJ.out⟩
 case neg=>
 by_cases g2:6<B.n
 case pos=>
  clear Aw At Bw Bt hb1 HCE
  go_enter Tryz.func6,Tryz.ntmps6
  go_wp2_with (first
   | rw [HW1.out]
   | (go_at_call 17;(with_reducible refine (joined_any _).mono ?_);rintro e w4 ⟨rfl,hb4⟩;have HJ:=Lib.hid (HB1.out.trans (hb4.mono HB1.out.size));clear hb4))
  go_ret
  exact ⟨rfl,HJ.out⟩
 case neg=>
 by_cases g3:96<Awn+Atn+Bwn+Btn
 case pos=>
  have g4:(96:Int)<(Awn:Int)+Atn+Bwn+Btn:=(by omega)
  clear Aw At Bw Bt hb1 HCE
  go_enter Tryz.func6,Tryz.ntmps6
  go_wp2_with (first
   | rw [HW1.out]
   | (go_at_call 17;(with_reducible refine (joined_any _).mono ?_);rintro e w4 ⟨rfl,hb4⟩;have HJ:=Lib.hid (HB1.out.trans (hb4.mono HB1.out.size));clear hb4))
  go_ret
  exact ⟨rfl,HJ.out⟩
 case neg=>
  have g4:¬(96:Int)<(Awn:Int)+Atn+Bwn+Btn:=(by omega)
  have ra:=Aw.2 (by omega);have rt:=At.2 (by omega);have rb:=Bw.2 (by omega);have ru:=Bt.2 (by omega)
  have RD:Hid (∀ W,Below w1.heap.size w1 W→Rd encBound 4 W AwA Awn Awc A.ways∧Rd encBound 4 W AtA Atn Atc A.turns∧Rd encBound 4 W BwA Bwn Bwc B.ways∧Rd encBound 4 W BtA Btn Btc B.turns):=(show ∀ W,_→_ from fun W h=>⟨(ra.below hb1 (Nat.le_refl _)).below h (Nat.le_refl _),(rt.below hb1 (Nat.le_refl _)).below h (Nat.le_refl _),(rb.below hb1 (Nat.le_refl _)).below h (Nat.le_refl _),(ru.below hb1 (Nat.le_refl _)).below h (Nat.le_refl _)⟩)
  have KX:Hid (∀ W,Below w1.heap.size w1 W→Calls Tryz.prog 29 #[.agg #[.int .i64 A.n,.slice AwA Awn Awc,.slice AtA Atn Atc],.agg #[.int .i64 B.n,.slice BwA Bwn Bwc,.slice BtA Btn Btc]] W fun e w'=> ∃ A' c',e = .returned (.tuple #[.slice A' (if twiceErr A B=0 then maxL A B else []).length c',.int .i64 (twiceErr A B)])∧Below W.heap.size W w'∧Own encPairing 4 28 W.heap.size w' A' (if twiceErr A B=0 then maxL A B else []).length c' (if twiceErr A B=0 then maxL A B else [])):=(show ∀ W,_→_ from fun W hW=>Maximal_any A AwA Awn Awc AtA Atn Atc B BwA Bwn Bwc BtA Btn Btc W (RD.out W hW).1 (RD.out W hW).2.1 (RD.out W hW).2.2.1 (RD.out W hW).2.2.2)
  have KL:Hid (∀ W,Below w1.heap.size w1 W→Calls Tryz.prog 30 #[.agg #[.int .i64 A.n,.slice AwA Awn Awc,.slice AtA Atn Atc],.agg #[.int .i64 B.n,.slice BwA Bwn Bwc,.slice BtA Btn Btc]] W fun e w'=> ∃ n:Nat,e = .returned (.tuple #[.int .i64 n,.int .i64 (twiceErr A B)])∧(twiceErr A B=0→LongOk A B n)∧(twiceErr A B≠0→n=0)∧Below W.heap.size W w'):=(show ∀ W,_→_ from fun W hW=>Longest_any A AwA Awn Awc AtA Atn Atc B BwA Bwn Bwc BtA Btn Btc W (RD.out W hW).1 (RD.out W hW).2.1 (RD.out W hW).2.2.1 (RD.out W hW).2.2.2)
  have KM:Hid (∀ (p:Pairing) W,Below w1.heap.size w1 W→Calls Tryz.prog 26 #[.agg #[.int .i64 A.n,.slice AwA Awn Awc,.slice AtA Atn Atc],.agg #[.int .i64 B.n,.slice BwA Bwn Bwc,.slice BtA Btn Btc],.agg #[.int .i64 p.a.lo,.int .i64 p.a.hi,.int .i64 p.b.lo,.int .i64 p.b.hi]] W fun e w'=>e = .returned (.tuple #[.bool (decide (askedErr A B p=0)&&meetsV A B p),.int .i64 (askedErr A B p)])∧Below W.heap.size W w'):=(show ∀ p W,_→_ from fun p W hW=>MeetsE_any A AwA Awn Awc AtA Atn Atc B BwA Bwn Bwc BtA Btn Btc p W (RD.out W hW).1 (RD.out W hW).2.1 (RD.out W hW).2.2.1 (RD.out W hW).2.2.2)
  have HAN0:=Lib.hid (And.intro g1 g2)
  clear Aw At Bw Bt hb1 ra rt rb ru RD
  have hte:((twiceErr A B) != (twiceErr A B))=false:=(by simp)
  by_cases ht:twiceErr A B=0
  case neg=>
   have hk:(twiceErr A B != 0)=true:=by simpa using ht
   simp only [if_neg ht] at KX
   have HT:=Lib.hid ht
   clear KM ht HAN0
   generalize twiceErr A B=te at *
   go_enter Tryz.func6,Tryz.ntmps6
   go_wp2_with (first
    | rw [HW1.out]
    | (go_at_call 29;(with_reducible refine (KX.out _ (Below.refl _ _)).mono ?_);rintro e w3 ⟨MA,mc,rfl,hb3,ho3⟩
       have HC3:=Lib.hid hb3
       have HO3:=Lib.hid ho3
       obtain ⟨ca03,ca13,ca23,cb03,cb13,cb23,cp03,cp13,cp23,cp33⟩:=HCE.out w3 HC3.out
       clear hb3 ho3)
    | (go_at_call 30;(with_reducible refine (KL.out _ HC3.out).mono ?_);rintro e w4 ⟨n,rfl,hn1,hn2,hb4⟩
       have HC4:=Lib.hid (HC3.out.trans (hb4.mono HC3.out.size))
       have HB34:=Lib.hid hb4
       have HN1:=Lib.hid hn1
       have HN2:=Lib.hid hn2
       obtain ⟨ca04,ca14,ca24,cb04,cb14,cb24,cp04,cp14,cp24,cp34⟩:=HCE.out w4 HC4.out
       obtain rfl:=hn2 HT.out
       clear hb4 hn1 hn2)
    | (go_at_call 17;(with_reducible refine (joined_any _).mono ?_);rintro e w5 ⟨rfl,hb5⟩;have HJ:=Lib.hid (HB1.out.trans ((HC4.out.trans (hb5.mono HC4.out.size)).mono HB1.out.size));clear hb5))
   go_ret
   exact ⟨rfl,HJ.out⟩
  case pos=>
   have hlen:(maxL A B).length≤4096:=maxL_len (by have:=HAN0.out;omega) (by have:=HAN0.out;omega)
   have hok:=fun x hx=>maxL_ok (x:=x) ht hx
   have hmost:=fun n h=>whole_most (A:=A) (B:=B) (n:=n) ht h
   have hpart:=fun h hm=>whole_part (A:=A) (B:=B) (p:=p) h hm
   rw [if_pos ht,ht] at KX
   rw [ht] at KL
   rw [ht] at hte
   obtain ⟨L,hL⟩:∃ L,maxL A B=L:=⟨_,rfl⟩
   rw [hL] at hlen hmost hpart KX
   have KP0:Hid (∀ x∈L,(∀ W,Below w1.heap.size w1 W→Calls Tryz.prog 26 #[.agg #[.int .i64 A.n,.slice AwA Awn Awc,.slice AtA Atn Atc],.agg #[.int .i64 B.n,.slice BwA Bwn Bwc,.slice BtA Btn Btc],.agg #[.int .i64 x.a.lo,.int .i64 x.a.hi,.int .i64 x.b.lo,.int .i64 x.b.hi]] W fun e w'=>e = .returned (.tuple #[.bool true,.int .i64 0])∧Below W.heap.size W w')∧0≤x.a.lo∧x.a.lo<x.a.hi∧x.a.hi≤16∧0≤x.b.lo∧x.b.lo<x.b.hi∧x.b.hi≤16):=(show ∀ x∈L,_ from fun x hx=>by
    obtain ⟨h1,h2⟩:=hok x (by rw [hL];exact hx)
    have h3:=askedErr_zero.1 h1
    obtain ⟨_,n2,_,_⟩:=checkOut_zero.1 h3.a
    obtain ⟨_,n4,_,_⟩:=checkOut_zero.1 h3.b
    have q0:=h3.a0;have q1:=h3.a1;have q2:=h3.a2;have q3:=h3.b0;have q4:=h3.b1;have q5:=h3.b2
    refine ⟨fun W hW=> ?_,q0,q1,by omega,q3,q4,by omega⟩
    have h:=KM.out x W hW
    rw [h1,h2] at h
    exact h)
   have HFIN:Hid (∀ wv,IntKind.i64.wrap (p.a.lo+p.b.hi)=wv→askedErr A B p=0→meetsV A B p=true→L.any (stepF p wv)=true):=(show ∀ wv,_→_→_→_ from fun wv hw ha hm=>by
    have h3:=askedErr_zero.1 ha
    obtain ⟨_,n2,_,_⟩:=checkOut_zero.1 h3.a
    obtain ⟨_,n4,_,_⟩:=checkOut_zero.1 h3.b
    have q0:=h3.a0;have q1:=h3.a1;have q2:=h3.a2;have q3:=h3.b0;have q4:=h3.b1;have q5:=h3.b2
    refine stepF_any ?_ (hpart h3 hm)
    rw [←hw,IntKind.wrap_i64]
    omega)
   have HMST:=Lib.hid hmost
   have KM1:=Lib.hid (KM.out p)
   obtain ⟨wv,hwv⟩:∃ wv,IntKind.i64.wrap (p.a.lo+p.b.hi)=wv:=⟨_,rfl⟩
   have HF:=Lib.hid (HFIN.out wv hwv)
   obtain ⟨ba,hba⟩:∃ ba,(decide (askedErr A B p=0)&&meetsV A B p)=ba:=⟨_,rfl⟩
   have HBA:=Lib.hid hba
   rw [hba] at KM1
   clear KM ht hok hmost hpart hL HFIN hba
   have hlL:L.length≤4096:=hlen
   go_enter Tryz.func6,Tryz.ntmps6
   go_wp2_with (first
    | rw [HW1.out]
    | (go_at_call 29;(with_reducible refine (KX.out _ (Below.refl _ _)).mono ?_);rintro e w3 ⟨MA,mc,rfl,hb3,ho3⟩
       have HC3:=Lib.hid hb3
       have HO3:=Lib.hid ho3
       obtain ⟨ca03,ca13,ca23,cb03,cb13,cb23,cp03,cp13,cp23,cp33⟩:=HCE.out w3 HC3.out
       clear hb3 ho3)
    | (go_at_call 30;(with_reducible refine (KL.out _ HC3.out).mono ?_);rintro e w4 ⟨n,rfl,hn1,hn2,hb4⟩
       have HC4:=Lib.hid (HC3.out.trans (hb4.mono HC3.out.size))
       have HB34:=Lib.hid hb4
       have HN1:=Lib.hid hn1
       have HN2:=Lib.hid hn2
       obtain ⟨ca04,ca14,ca24,cb04,cb14,cb24,cp04,cp14,cp24,cp34⟩:=HCE.out w4 HC4.out
       clear hb4 hn1 hn2)
    | (go_at_call 26;(with_reducible refine (KM1.out _ HC4.out).mono ?_);rintro e w5 ⟨rfl,hb5⟩
       have HC5:=Lib.hid (HC4.out.trans (hb5.mono HC4.out.size))
       have HD5:=Lib.hid (HB34.out.trans (hb5.mono HB34.out.size))
       obtain ⟨ca05,ca15,ca25,cb05,cb15,cb25,cp05,cp15,cp25,cp35⟩:=HCE.out w5 HC5.out
       clear hb5))
   have hsz35:=HD5.out.size
   go_loopw [13,14,15] (fun s13 s14 s15 wr=> ∃ k:Nat,k≤L.length∧s13 = .bool ((L.take k).any (stepF p wv))∧s14 = .int .i64 (mostL (L.take k))∧s15 = .int .i64 k∧Hid (Below w5.heap.size w5 wr)) (fun _ _ s15 _=>L.length-(intOf s15).toNat)
   case atStart=>exact ⟨0,by omega,rfl,rfl,rfl,(show Below _ _ _ from Below.refl _ _)⟩
   case round=>
    obtain ⟨k,hk,rfl,rfl,rfl,hbr⟩:=hrel
    have hzr:=hbr.out.size
    have HCR:=Lib.hid (HC5.out.trans (hbr.out.mono HC5.out.size))
    by_cases hlt:k<L.length
    · have hrd:=(HO3.out.below (HD5.out.trans (hbr.out.mono HD5.out.size)) (Nat.le_refl _)).rd (fun _=>rfl) (by omega)
      obtain ⟨bl,off,x,rfl,hblw,hx,hcell⟩:=hrd.one hlt
      have e0:wr.cell? ⟨bl,off+k * 4,none⟩=some (.int .i64 x.a.lo):=hcell 0 _ rfl
      have e1:wr.cell? ⟨bl,off+k * 4+1,none⟩=some (.int .i64 x.a.hi):=hcell 1 _ rfl
      have e2:wr.cell? ⟨bl,off+k * 4+2,none⟩=some (.int .i64 x.b.lo):=hcell 2 _ rfl
      have e3:wr.cell? ⟨bl,off+k * 4+3,none⟩=some (.int .i64 x.b.hi):=hcell 3 _ rfl
      obtain ⟨kp,q0,q1,q2,q3,q4,q5⟩:=KP0.out x (List.mem_of_getElem? hx)
      have KP:=Lib.hid kp
      have v1:IntKind.i64.wrap (x.a.hi-x.a.lo)=x.a.hi-x.a.lo:=(by rw [IntKind.wrap_i64];omega)
      have v2:IntKind.i64.wrap (x.a.lo+x.b.hi)=x.a.lo+x.b.hi:=(by rw [IntKind.wrap_i64];omega)
      have htk:L.take (k+1)=L.take k ++ [x]:=(by rw [List.take_add_one,hx];rfl)
      have HAN:Hid ((L.take (k+1)).any (stepF p wv)=((L.take k).any (stepF p wv)||stepF p wv x)):=(show _=_ by rw [htk,List.any_append];simp)
      have HMO:Hid (mostL (L.take (k+1))=max (mostL (L.take k)) (x.a.hi-x.a.lo)):=(show _=_ by rw [htk,mostL_snoc])
      obtain ⟨w6,a6,b6,z6,e6⟩:=alloc_facts wr #[.int .i64 x.a.lo,.int .i64 x.a.hi,.int .i64 x.b.lo,.int .i64 x.b.hi] 28
      obtain ⟨d0,d1,d2,d3⟩:w6.cell? ⟨wr.heap.size,0,none⟩=some (.int .i64 x.a.lo)∧w6.cell? ⟨wr.heap.size,1,none⟩=some (.int .i64 x.a.hi)∧w6.cell? ⟨wr.heap.size,2,none⟩=some (.int .i64 x.b.lo)∧w6.cell? ⟨wr.heap.size,3,none⟩=some (.int .i64 x.b.hi):=(by simp [World.cell?,e6])
      have HC6:=Lib.hid (HCR.out.trans (b6.mono HCR.out.size))
      have HD6:=Lib.hid (hbr.out.trans (b6.mono hbr.out.size))
      obtain ⟨ca06,ca16,ca26,cb06,cb16,cb26,cp06,cp16,cp26,cp36⟩:=HCE.out w6 HC6.out
      have HA6:=Lib.hid a6
      have HE6:=Lib.hid e6
      clear a6 b6 e6 hx hcell htk kp q0 q1 q2 q3 q4 q5 hrd
      generalize mostL (L.take k)=mv at *
      generalize (L.take k).any (stepF p wv)=fv at *
      cases fv with
      | true=>
        have HST:Hid ((true||stepF p wv x)=true):=(show _=_ from rfl)
        go_wp2_with (first
         | rw [HA6.out]
         | (go_at_call 26;(with_reducible refine (KP.out _ HC6.out).mono ?_);rintro e w7 ⟨rfl,hb7⟩
            have HC7:=Lib.hid (HC6.out.trans (hb7.mono HC6.out.size))
            have HD7:=Lib.hid (HD6.out.trans (hb7.mono HD6.out.size))
            obtain ⟨ca07,ca17,ca27,cb07,cb17,cb27,cp07,cp17,cp27,cp37⟩:=HCE.out w7 HC7.out
            have hh7:=(hb7.block wr.heap.size (by omega)).trans HE6.out
            obtain ⟨i0,i1,i2,i3⟩:w7.cell? ⟨wr.heap.size,0,none⟩=some (.int .i64 x.a.lo)∧w7.cell? ⟨wr.heap.size,1,none⟩=some (.int .i64 x.a.hi)∧w7.cell? ⟨wr.heap.size,2,none⟩=some (.int .i64 x.b.lo)∧w7.cell? ⟨wr.heap.size,3,none⟩=some (.int .i64 x.b.hi):=(by simp [World.cell?,hh7])
            clear hb7 hh7))
        go_roundw
        case rel=>exact ⟨k+1,by omega,by rw [HAN.out,HST.out]<;>first|done|rfl,by rw [HMO.out],by go_num,(show Below _ _ _ from HD7.out)⟩
        case measure=>simp [intOf];omega
      | false=>
        by_cases c1:x.a.lo≤p.a.lo
        · by_cases c2:p.a.hi≤x.a.hi
          · by_cases c3:x.a.lo+x.b.hi=wv
            · have HST:Hid ((false||stepF p wv x)=true):=(show _=_ by unfold stepF;simp [c1,c2,c3])
              have c3b:(x.a.lo+x.b.hi==wv)=true:=(by simpa using c3)
              clear c3
              go_wp2_with (first
               | rw [HA6.out]
               | (go_at_call 26;(with_reducible refine (KP.out _ HC6.out).mono ?_);rintro e w7 ⟨rfl,hb7⟩
                  have HC7:=Lib.hid (HC6.out.trans (hb7.mono HC6.out.size))
                  have HD7:=Lib.hid (HD6.out.trans (hb7.mono HD6.out.size))
                  obtain ⟨ca07,ca17,ca27,cb07,cb17,cb27,cp07,cp17,cp27,cp37⟩:=HCE.out w7 HC7.out
                  have hh7:=(hb7.block wr.heap.size (by omega)).trans HE6.out
                  obtain ⟨i0,i1,i2,i3⟩:w7.cell? ⟨wr.heap.size,0,none⟩=some (.int .i64 x.a.lo)∧w7.cell? ⟨wr.heap.size,1,none⟩=some (.int .i64 x.a.hi)∧w7.cell? ⟨wr.heap.size,2,none⟩=some (.int .i64 x.b.lo)∧w7.cell? ⟨wr.heap.size,3,none⟩=some (.int .i64 x.b.hi):=(by simp [World.cell?,hh7])
                  clear hb7 hh7))
              go_roundw
              case rel=>exact ⟨k+1,by omega,by rw [HAN.out,HST.out]<;>first|done|rfl,by rw [HMO.out],by go_num,(show Below _ _ _ from HD7.out)⟩
              case measure=>simp [intOf];omega
            · have HST:Hid ((false||stepF p wv x)=false):=(show _=_ by unfold stepF;simp [c3])
              have c3b:(x.a.lo+x.b.hi==wv)=false:=(by simpa using c3)
              clear c3
              go_wp2_with (first
               | rw [HA6.out]
               | (go_at_call 26;(with_reducible refine (KP.out _ HC6.out).mono ?_);rintro e w7 ⟨rfl,hb7⟩
                  have HC7:=Lib.hid (HC6.out.trans (hb7.mono HC6.out.size))
                  have HD7:=Lib.hid (HD6.out.trans (hb7.mono HD6.out.size))
                  obtain ⟨ca07,ca17,ca27,cb07,cb17,cb27,cp07,cp17,cp27,cp37⟩:=HCE.out w7 HC7.out
                  have hh7:=(hb7.block wr.heap.size (by omega)).trans HE6.out
                  obtain ⟨i0,i1,i2,i3⟩:w7.cell? ⟨wr.heap.size,0,none⟩=some (.int .i64 x.a.lo)∧w7.cell? ⟨wr.heap.size,1,none⟩=some (.int .i64 x.a.hi)∧w7.cell? ⟨wr.heap.size,2,none⟩=some (.int .i64 x.b.lo)∧w7.cell? ⟨wr.heap.size,3,none⟩=some (.int .i64 x.b.hi):=(by simp [World.cell?,hh7])
                  clear hb7 hh7))
              go_roundw
              case rel=>exact ⟨k+1,by omega,by rw [HAN.out,HST.out]<;>first|done|rfl,by rw [HMO.out],by go_num,(show Below _ _ _ from HD7.out)⟩
              case measure=>simp [intOf];omega
          · have HST:Hid ((false||stepF p wv x)=false):=(show _=_ by unfold stepF;simp [c2])
            go_wp2_with (first
             | rw [HA6.out]
             | (go_at_call 26;(with_reducible refine (KP.out _ HC6.out).mono ?_);rintro e w7 ⟨rfl,hb7⟩
                have HC7:=Lib.hid (HC6.out.trans (hb7.mono HC6.out.size))
                have HD7:=Lib.hid (HD6.out.trans (hb7.mono HD6.out.size))
                obtain ⟨ca07,ca17,ca27,cb07,cb17,cb27,cp07,cp17,cp27,cp37⟩:=HCE.out w7 HC7.out
                have hh7:=(hb7.block wr.heap.size (by omega)).trans HE6.out
                obtain ⟨i0,i1,i2,i3⟩:w7.cell? ⟨wr.heap.size,0,none⟩=some (.int .i64 x.a.lo)∧w7.cell? ⟨wr.heap.size,1,none⟩=some (.int .i64 x.a.hi)∧w7.cell? ⟨wr.heap.size,2,none⟩=some (.int .i64 x.b.lo)∧w7.cell? ⟨wr.heap.size,3,none⟩=some (.int .i64 x.b.hi):=(by simp [World.cell?,hh7])
                clear hb7 hh7))
            go_roundw
            case rel=>exact ⟨k+1,by omega,by rw [HAN.out,HST.out]<;>first|done|rfl,by rw [HMO.out],by go_num,(show Below _ _ _ from HD7.out)⟩
            case measure=>simp [intOf];omega
        · have HST:Hid ((false||stepF p wv x)=false):=(show _=_ by unfold stepF;simp [c1])
          go_wp2_with (first
           | rw [HA6.out]
           | (go_at_call 26;(with_reducible refine (KP.out _ HC6.out).mono ?_);rintro e w7 ⟨rfl,hb7⟩
              have HC7:=Lib.hid (HC6.out.trans (hb7.mono HC6.out.size))
              have HD7:=Lib.hid (HD6.out.trans (hb7.mono HD6.out.size))
              obtain ⟨ca07,ca17,ca27,cb07,cb17,cb27,cp07,cp17,cp27,cp37⟩:=HCE.out w7 HC7.out
              have hh7:=(hb7.block wr.heap.size (by omega)).trans HE6.out
              obtain ⟨i0,i1,i2,i3⟩:w7.cell? ⟨wr.heap.size,0,none⟩=some (.int .i64 x.a.lo)∧w7.cell? ⟨wr.heap.size,1,none⟩=some (.int .i64 x.a.hi)∧w7.cell? ⟨wr.heap.size,2,none⟩=some (.int .i64 x.b.lo)∧w7.cell? ⟨wr.heap.size,3,none⟩=some (.int .i64 x.b.hi):=(by simp [World.cell?,hh7])
              clear hb7 hh7))
          go_roundw
          case rel=>exact ⟨k+1,by omega,by rw [HAN.out,HST.out]<;>first|done|rfl,by rw [HMO.out],by go_num,(show Below _ _ _ from HD7.out)⟩
          case measure=>simp [intOf];omega
    · have hkn:k=L.length:=by omega
      subst hkn
      rw [List.take_length]
      have hmn:=HMST.out n (by first|exact HN1.out trivial|exact HN1.out rfl)
      rw [hmn]
      have hnn:((n:Int)==(n:Int))=true:=(by simp)
      have HBA2:=HBA.out
      clear HN1 HN2
      by_cases ha:askedErr A B p=0
      · rw [ha]
        cases ba with
        | true=>
          have hany:=HF.out ha (by simpa [ha] using HBA2)
          rw [hany]
          clear HBA2 HF HBA
          go_wp2_with (first
           | (go_at_call 17;(with_reducible refine (joined_any _).mono ?_);rintro e w8 ⟨rfl,hb8⟩;have HJ:=Lib.hid (HB1.out.trans ((HCR.out.trans (hb8.mono HCR.out.size)).mono HB1.out.size));clear hb8))
          go_ret
          exact ⟨rfl,HJ.out⟩
        | false=>
          generalize L.any (stepF p wv)=fv at *
          clear HBA2 HF HBA
          go_wp2_with (first
           | (go_at_call 17;(with_reducible refine (joined_any _).mono ?_);rintro e w8 ⟨rfl,hb8⟩;have HJ:=Lib.hid (HB1.out.trans ((HCR.out.trans (hb8.mono HCR.out.size)).mono HB1.out.size));clear hb8))
          go_ret
          exact ⟨rfl,HJ.out⟩
      · have hab:(askedErr A B p != 0)=true:=(by simpa using ha)
        generalize L.any (stepF p wv)=fv at *
        clear HBA2 HF HBA ha
        generalize askedErr A B p=ea at *
        go_wp2_with (first
         | (go_at_call 17;(with_reducible refine (joined_any _).mono ?_);rintro e w8 ⟨rfl,hb8⟩;have HJ:=Lib.hid (HB1.out.trans ((HCR.out.trans (hb8.mono HCR.out.size)).mono HB1.out.size));clear hb8))
        go_ret
        exact ⟨rfl,HJ.out⟩
end Go.Proofs.YtccabpahfmoamaaGreat
end

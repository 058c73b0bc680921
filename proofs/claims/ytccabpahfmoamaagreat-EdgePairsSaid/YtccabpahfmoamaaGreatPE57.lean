/- Contracts that the laws lean on: MxP, R3Lg. -/
import Derived.Test.YtccabpahfmoamaaGreatPE32
import Derived.Test.YtccabpahfmoamaaGreatPE56
set_option maxRecDepth 100000
set_option maxHeartbeats 8000000
section
namespace Go.Proofs.YtccabpahfmoamaaGreat
def ltP (p q:Pairing):Prop:=ltTri (toTri p) (toTri q)
theorem befB_iff {p q:Pairing} : befB p q=true↔ltP p q:=by
 unfold befB ltP ltTri toTri
 simp only
 split
 · rw [decide_eq_true_eq];omega
 · split
   · rw [decide_eq_true_eq];omega
   · rw [decide_eq_true_eq];omega
theorem lt_tri {x y:Tri} (h:x≠y):ltTri x y∨ltTri y x:=by
 by_cases h1:ltTri x y
 · exact .inl h1
 · by_cases h2:ltTri y x
   · exact .inr h2
   · exact absurd (totTri x y (ltF.2 h1) (ltF.2 h2)) h
theorem lt_irr {x:Tri} :¬ltTri x x:=by unfold ltTri;omega
theorem lt_trans3 {x y z:Tri} (h1:ltTri x y) (h2:ltTri y z):ltTri x z:=by unfold ltTri at *;omega
theorem sorted_unique:∀ {l1 l2:List Tri},l1.Pairwise ltTri→l2.Pairwise ltTri→(∀ x,x∈l1↔x∈l2)→l1=l2
 | [],[],_,_,_=>rfl
 | [],y::l2,_,_,h=>absurd ((h y).2 (by simp)) (by simp)
 | x::l1,[],_,_,h=>absurd ((h x).1 (by simp)) (by simp)
 | x::l1,y::l2,h1,h2,h=>by
   obtain ⟨a1,b1⟩:=List.pairwise_cons.1 h1
   obtain ⟨a2,b2⟩:=List.pairwise_cons.1 h2
   have hxy:x=y:=by
    rcases List.mem_cons.1 ((h x).1 (by simp)) with e|e
    · exact e
    · rcases List.mem_cons.1 ((h y).2 (by simp)) with e2|e2
      · exact e2.symm
      · exact absurd (lt_trans3 (a2 x e) (a1 y e2)) lt_irr
   subst hxy
   rw [sorted_unique b1 b2 fun z=>⟨fun hz=>by
    rcases List.mem_cons.1 ((h z).1 (List.mem_cons_of_mem _ hz)) with e|e
    · subst e;exact absurd (a1 _ hz) lt_irr
    · exact e,fun hz=>by
    rcases List.mem_cons.1 ((h z).2 (List.mem_cons_of_mem _ hz)) with e|e
    · subst e;exact absurd (a2 _ hz) lt_irr
    · exact e⟩]
def insB (p:Pairing):List Pairing→List Pairing
 | []=> [p]
 | x::l=>if befB x p=true then x::insB p l else p::x::l
theorem mem_insB {x p:Pairing} :∀ {l:List Pairing},x∈insB p l↔x=p∨x∈l
 | []=>by simp [insB]
 | y::l=>by
   unfold insB
   split
   · rw [List.mem_cons,mem_insB (l:=l),List.mem_cons]
     exact ⟨fun h=>by rcases h with h|h|h<;>simp [h],fun h=>by rcases h with h|h|h<;>simp [h]⟩
   · simp
theorem ins_sorted {p:Pairing} :∀ {l:List Pairing},l.Pairwise ltP→(∀ x∈l,ltP x p∨ltP p x)→(insB p l).Pairwise ltP
 | [],_,_=>by simp [insB]
 | y::l,h,hp=>by
   obtain ⟨h1,h2⟩:=List.pairwise_cons.1 h
   unfold insB
   split
   · rename_i hb
     refine List.pairwise_cons.2 ⟨fun x hx=> ?_,ins_sorted h2 fun x hx=>hp x (List.mem_cons_of_mem _ hx)⟩
     rcases mem_insB.1 hx with rfl|hx
     · exact befB_iff.1 hb
     · exact h1 x hx
   · rename_i hb
     have hpy:ltP p y:=by
      rcases hp y (by simp) with h3|h3
      · exact absurd (befB_iff.2 h3) hb
      · exact h3
     refine List.pairwise_cons.2 ⟨fun x hx=> ?_,h⟩
     rcases List.mem_cons.1 hx with rfl|hx
     · exact hpy
     · exact lt_trans3 hpy (h1 x hx)
def fillB (more out l:List Pairing):List Pairing:=l.foldl (fun o p=>if aloneB more p=true then insB p o else o) out
theorem fill_snoc (more out l:List Pairing) (p:Pairing):fillB more out (l ++ [p])=if aloneB more p=true then insB p (fillB more out l) else fillB more out l:=by
 unfold fillB;rw [List.foldl_append];rfl
theorem mem_fill {more out:List Pairing} {x:Pairing} (l:List Pairing):x∈fillB more out l↔x∈out∨(x∈l∧aloneB more x=true):=by
 refine snoc_rec (P:=fun l=>x∈fillB more out l↔x∈out∨(x∈l∧aloneB more x=true)) (by simp [fillB]) (fun l p ih=> ?_) l
 rw [fill_snoc]
 cases ha:aloneB more p with
 | false=>
   rw [if_neg (by simp),ih,List.mem_append]
   constructor
   · rintro (h|⟨h1,h2⟩)
     · exact .inl h
     · exact .inr ⟨.inl h1,h2⟩
   · rintro (h|⟨h1|h1,h2⟩)
     · exact .inl h
     · exact .inr ⟨h1,h2⟩
     · have:x=p:=by simpa using h1
       subst this;rw [ha] at h2;cases h2
 | true=>
   rw [if_pos rfl,mem_insB,ih,List.mem_append]
   constructor
   · rintro (rfl|h|⟨h1,h2⟩)
     · exact .inr ⟨.inr (by simp),ha⟩
     · exact .inl h
     · exact .inr ⟨.inl h1,h2⟩
   · rintro (h|⟨h1|h1,h2⟩)
     · exact .inr (.inl h)
     · exact .inr (.inr ⟨h1,h2⟩)
     · exact .inl (by simpa using h1)
theorem fill_sorted {more out:List Pairing} (ho:out.Pairwise ltP) (l:List Pairing):l.Pairwise ltP→(∀ x∈out,∀ p∈l,ltP x p∨ltP p x)→(fillB more out l).Pairwise ltP:=by
 refine snoc_rec (P:=fun l=>l.Pairwise ltP→(∀ x∈out,∀ p∈l,ltP x p∨ltP p x)→(fillB more out l).Pairwise ltP) (fun _ _=>ho) (fun l p ih h1 h2=> ?_) l
 obtain ⟨g1,_,g3⟩:=List.pairwise_append.1 h1
 have hs:=ih g1 (fun x hx q hq=>h2 x hx q (List.mem_append_left _ hq))
 rw [fill_snoc]
 split
 · refine ins_sorted hs fun x hx=> ?_
   rcases (mem_fill l).1 hx with hx|⟨hx,_⟩
   · exact h2 x hx p (by simp)
   · exact .inl (g3 x hx p (by simp))
 · exact hs
theorem rowP_sorted (s:Int) (i K:Nat):(rowP s i K).Pairwise ltP:=by
 unfold rowP
 rw [List.pairwise_map]
 exact List.pairwise_lt_range.imp fun h=>Or.inr ⟨rfl,Or.inr ⟨rfl,by simp only [toTri,pairAt];omega⟩⟩
theorem upTo_sorted (s:Int) (K:Nat):∀ i,(upTo s K i).Pairwise ltP
 | 0=>by simp [upTo]
 | i+1=>by
   rw [upTo_succ]
   refine List.pairwise_append.2 ⟨upTo_sorted s K i,rowP_sorted s i K,fun x hx y hy=> ?_⟩
   obtain ⟨j,k,hj,_,rfl⟩:=mem_upTo.1 hx
   unfold rowP at hy
   obtain ⟨k',_,rfl⟩:=List.mem_map.1 hy
   exact Or.inl (by simp only [toTri,pairAt];omega)
section
variable {A B:Outl}
theorem meetL_sorted (A B:Outl) (s:Int):(meetL A B s).Pairwise ltP:=(upTo_sorted s _ _).sublist List.filter_sublist
def mxPrev (A B:Outl):Nat→List Pairing
 | 0=> []
 | j+1=>meetL A B (16-(j:Int))
def mxTo (A B:Outl):Nat→List Pairing
 | 0=> []
 | j+1=>fillB (mxPrev A B j) (mxTo A B j) (meetL A B (16-(j:Int)))
theorem alone_prev:∀ {j:Nat},j<16→∀ {p:Pairing},p∈meetL A B (16-(j:Int))→aloneB (mxPrev A B j) p=aloneB (seenTo A B j) p
 | 0,_,p,_=>rfl
 | j+1,hj,p,hp=>by
   have hside:=meetL_side (by omega) hp
   have key:∀ q:Pairing,q.a.hi=q.a.lo+(16-(j:Int))→(q∈mxPrev A B (j+1)↔q∈seenTo A B (j+1)):=fun q hq=>by
    rw [mem_seenTo]
    constructor
    · intro h;exact ⟨j,by omega,h⟩
    · rintro ⟨i,hi,h⟩
      have:=meetL_side (by omega) h
      have:i=j:=by omega
      subst this;exact h
   unfold aloneB
   rw [decide_eq_decide.2 (key (growF p) (by simp only [growF];omega)),decide_eq_decide.2 (key (growB p) (by simp only [growB];omega))]
theorem out_side2 {p:Pairing} {j:Nat} (hj:j≤16) (h:p∈outTo A B j):16-(j:Int)<p.a.hi-p.a.lo:=by
 obtain ⟨i,hi,hm,_⟩:=mem_outTo.1 h
 have:=meetL_side (by omega) hm
 omega
theorem mem_mxTo:∀ {j:Nat},j≤16→∀ x,x∈mxTo A B j↔x∈outTo A B j
 | 0,_,x=>by simp [mxTo,outTo]
 | j+1,hj,x=>by
   rw [mxTo,outTo,mem_fill,mem_mxTo (by omega),List.mem_append,List.mem_filter]
   constructor
   · rintro (h|⟨h1,h2⟩)
     · exact .inl h
     · exact .inr ⟨h1,by rw [←alone_prev (by omega) h1];exact h2⟩
   · rintro (h|⟨h1,h2⟩)
     · exact .inl h
     · exact .inr ⟨h1,by rw [alone_prev (by omega) h1];exact h2⟩
theorem side_ne {x p:Pairing} (h:x.a.hi-x.a.lo≠p.a.hi-p.a.lo):toTri x≠toTri p:=by
 intro e
 simp only [toTri,Tri.mk.injEq] at e
 omega
theorem mxTo_sorted:∀ {j:Nat},j≤16→(mxTo A B j).Pairwise ltP
 | 0,_=>by simp [mxTo]
 | j+1,hj=>by
   rw [mxTo]
   refine fill_sorted (mxTo_sorted (by omega)) _ (meetL_sorted A B _) fun x hx p hp=>lt_tri (side_ne ?_)
   have h1:=out_side2 (by omega) ((mem_mxTo (by omega) x).1 hx)
   have h2:=meetL_side (by omega) hp
   omega
theorem outTo_ne:∀ {j:Nat},j≤16→(outTo A B j).Pairwise fun p q=>toTri p≠toTri q
 | 0,_=>by simp [outTo]
 | j+1,hj=>by
   rw [outTo]
   refine List.pairwise_append.2 ⟨outTo_ne (by omega),?_,fun x hx p hp=>side_ne ?_⟩
   · refine ((meetL_sorted A B _).sublist List.filter_sublist).imp ?_
     intro x y h e
     have h':ltTri (toTri x) (toTri y):=h
     rw [e] at h'
     exact lt_irr h'
   · have h1:=out_side2 (by omega) hx
     have h2:=meetL_side (by omega) (List.mem_filter.1 hp).1
     omega
theorem sortTri_lt {l:List Tri} (hn:l.Nodup):(sortTri l).Pairwise ltTri:=by
 have h1:(sortTri l).Pairwise fun x y=>(!(ltOf cmpTri) y x)=true:=by
  unfold sortTri
  refine List.pairwise_mergeSort (fun a b c h1 h2=> ?_) (fun a b=> ?_) l
  · simp only [Bool.not_eq_true'] at h1 h2 ⊢
    exact swoTri.ntrans c b a h2 h1
  · cases h:(ltOf cmpTri) b a with
    | false=>rfl
    | true=>
      have:(ltOf cmpTri) a b=false:=by
       rw [ltF]
       rw [ltT] at h
       exact fun h2=>lt_irr (lt_trans3 h h2)
      rw [this];rfl
 have h2:(sortTri l).Nodup:=(sortTri_perm l).nodup_iff.2 hn
 refine (h1.and h2).imp fun {x y} h=> ?_
 rcases lt_tri h.2 with h3|h3
 · exact h3
 · have:=h.1
   rw [ltT.2 h3] at this
   cases this
theorem mxTo_max:mxTo A B 16=maxL A B:=by
 have h1:(mxTo A B 16).map toTri=sortTri ((outTo A B 16).map toTri):=by
  refine sorted_unique (List.pairwise_map.2 (mxTo_sorted (Nat.le_refl _))) (sortTri_lt (List.pairwise_map.2 (outTo_ne (Nat.le_refl _)))) fun t=> ?_
  rw [(sortTri_perm _).mem_iff,List.mem_map,List.mem_map]
  exact ⟨fun ⟨x,hx,e⟩=>⟨x,(mem_mxTo (Nat.le_refl _) x).1 hx,e⟩,fun ⟨x,hx,e⟩=>⟨x,(mem_mxTo (Nat.le_refl _) x).2 hx,e⟩⟩
 unfold maxL
 rw [←h1,List.map_map]
 exact ((List.map_congr_left fun p hp=>triP_toTri (outTo_side (Nat.le_refl _) p ((mem_mxTo (Nat.le_refl _) p).1 hp))).trans (List.map_id _)).symm
theorem long_of {n:Nat} (ht:twiceErr A B=0) (hn:n≤16) (h1:∀ k:Nat,n<k→k≤16→meetL A B k = []) (h2:n=0∨meetL A B n ≠ []):LongOk A B n:=by
 refine ⟨hn,fun k hk1 hk2=> ?_,?_⟩
 · have key:∀ d:Nat,d<n→meetL A B ((n-d:Nat):Int) ≠ []:=by
    intro d
    induction d with
    | zero=>intro hd;rcases h2 with h|h;· omega
            · simpa using h
    | succ d ih=>
      intro hd
      have h:=ih (by omega)
      have e:((n-d:Nat):Int)=((n-(d+1):Nat):Int)+1:=by omega
      rw [e] at h
      exact meetL_less ht (by omega) h
   have:=key (n-k) (by omega)
   rwa [show n-(n-k)=k by omega] at this
 · by_cases e:n=16
   · exact .inl e
   · exact .inr (by have:=h1 (n+1) (by omega) (by omega);simpa using this)
end
open Go.RowKit Go.Proofs Go.Shelf
theorem r3Longest_any (A:Outl) (AwA:Option Addr) (Awn Awc:Nat) (AtA:Option Addr) (Atn Atc:Nat) (B:Outl) (BwA:Option Addr) (Bwn Bwc:Nat) (BtA:Option Addr) (Btn Btc:Nat) (w:World) (Aw:Rd encBound 4 w AwA Awn Awc A.ways) (At:Rd encBound 4 w AtA Atn Atc A.turns) (Bw:Rd encBound 4 w BwA Bwn Bwc B.ways) (Bt:Rd encBound 4 w BtA Btn Btc B.turns):
 Calls Tryz.prog 44 #[.agg #[.int .i64 A.n,.slice AwA Awn Awc,.slice AtA Atn Atc],.agg #[.int .i64 B.n,.slice BwA Bwn Bwc,.slice BtA Btn Btc]] w fun e w'=> ∃ n:Nat,e = .returned (.tuple #[.int .i64 n,.int .i64 (twiceErr A B)])∧(twiceErr A B=0→LongOk A B n)∧(twiceErr A B≠0→n=0)∧Below w.heap.size w w':=by
 obtain ⟨w1,hw1,hb1,hz1,hbx⟩:=boxAB w A AwA Awn Awc AtA Atn Atc B BwA Bwn Bwc BtA Btn Btc
 have KX:=Lib.hid hbx
 have KB:=Lib.hid (fun W (h:Below w1.heap.size w1 W)=>r3both_any A AwA Awn Awc AtA Atn Atc B BwA Bwn Bwc BtA Btn Btc W ((Aw.below hb1 (Nat.le_refl _)).below h (Nat.le_refl _)) ((At.below hb1 (Nat.le_refl _)).below h (Nat.le_refl _)) ((Bw.below hb1 (Nat.le_refl _)).below h (Nat.le_refl _)) ((Bt.below hb1 (Nat.le_refl _)).below h (Nat.le_refl _)))
 have KP:=Lib.hid (fun (s:Int) W (h:Below w1.heap.size w1 W)=>r3Pairs_any A AwA Awn Awc AtA Atn Atc B BwA Bwn Bwc BtA Btn Btc s W ((Aw.below hb1 (Nat.le_refl _)).below h (Nat.le_refl _)) ((At.below hb1 (Nat.le_refl _)).below h (Nat.le_refl _)) ((Bw.below hb1 (Nat.le_refl _)).below h (Nat.le_refl _)) ((Bt.below hb1 (Nat.le_refl _)).below h (Nat.le_refl _)))
 have HB1:=Lib.hid hb1
 have HW1:=Lib.hid hw1
 obtain ⟨xa0,xa1,xa2,xb0,xb1,xb2⟩:=hbx w1 (Below.refl _ _)
 clear Aw At Bw Bt hb1 hw1 hbx
 by_cases h1:twiceErr A B=0
 case neg=>
  have h1':(twiceErr A B != 0)=true:=by simpa using h1
  have h1'':=Lib.hid h1
  clear h1 KP
  generalize twiceErr A B=er at *
  go_enter Tryz.func44,Tryz.ntmps44
  go_wp2_with (first
   | rw [HW1.out]
   | (go_at_call 100;(with_reducible refine (KB.out _ (Below.refl _ _)).mono ?_);rintro e w2 ⟨rfl,hb2⟩;have HB2:=Lib.hid hb2;clear hb2))
  go_ret2
  exact ⟨0,rfl,fun h=>absurd h h1''.out,fun _=>rfl,HB1.out.trans (HB2.out.mono HB1.out.size)⟩
 case pos=>
  have hpv:∀ j:Nat,j<16→pairsV A B (16-(j:Int))=meetL A B (16-(j:Int)):=fun j hj=>if_pos ⟨h1,by omega,by omega⟩
  have HPV:=Lib.hid hpv
  have HT:=Lib.hid h1
  rw [h1] at KB ⊢
  rw [h1] at KP
  clear h1 hpv
  go_enter Tryz.func44,Tryz.ntmps44
  go_wp2_with (first
   | rw [HW1.out]
   | (go_at_call 100;(with_reducible refine (KB.out _ (Below.refl _ _)).mono ?_);rintro e w2 ⟨rfl,hb2⟩;have HB2:=Lib.hid hb2;clear hb2))
  go_loopw [7] (fun s7 wr=> ∃ j:Nat,j≤16∧s7 = .int .i64 (16-(j:Int))∧Hid (Below w1.heap.size w1 wr)∧Hid (∀ k:Nat,16-j<k→k≤16→meetL A B k = [])) (fun s7 _=>(intOf s7).toNat)
  case atStart=>exact ⟨0,Nat.zero_le _,rfl,(show Below _ _ _ from HB2.out),(show ∀ k:Nat,_ from fun k h1 h2=>by omega)⟩
  case round=>
   obtain ⟨j,hj,rfl,hbr,hall⟩:=hrel
   by_cases hlt:j<16
   · obtain ⟨ya0,ya1,ya2,yb0,yb1,yb2⟩:=KX.out wr hbr.out
     have hpos:(0:Int)<16-(j:Int):=(by omega)
     have KK:=Lib.hid (KP.out (16-(j:Int)) wr hbr.out)
     rw [HPV.out j hlt] at KK
     obtain ⟨L,hL⟩:∃ L,meetL A B (16-(j:Int))=L:=⟨_,rfl⟩
     have HL:=Lib.hid hL
     rw [hL] at KK
     clear hL
     have hcs:0<L.length∨L.length=0:=(by omega)
     rcases hcs with hp|hp
     · go_wp2_with (go_at_call 43;(with_reducible refine KK.out.mono ?_);rintro e w5 ⟨A5,q5,rfl,hb5,_⟩;have HB5:=Lib.hid (hbr.out.trans (hb5.mono hbr.out.size));clear hb5)
       go_ret2
       refine ⟨16-j,by simp;omega,fun _=>long_of HT.out (by omega) hall.out (.inr fun e=> ?_),fun h=>absurd rfl h,HB1.out.trans (HB5.out.mono HB1.out.size)⟩
       rw [show ((16-j:Nat):Int)=16-(j:Int) by omega,HL.out] at e
       rw [e] at hp
       simp at hp
     · go_wp2_with (go_at_call 43;(with_reducible refine KK.out.mono ?_);rintro e w5 ⟨A5,q5,rfl,hb5,_⟩;have HB5:=Lib.hid (hbr.out.trans (hb5.mono hbr.out.size));clear hb5)
       go_roundw
       case rel=>exact ⟨j+1,by omega,by go_num,(show Below _ _ _ from HB5.out),(show ∀ k:Nat,_ from fun k h1 h2=>by
        rcases Nat.lt_or_ge (16-j) k with h|h
        · exact hall.out k h h2
        · have e:(k:Int)=16-(j:Int):=by omega
          rw [e,HL.out]
          exact List.eq_nil_of_length_eq_zero hp)⟩
       case measure=>simp [intOf];omega
   · have hj16:j=16:=by omega
     subst hj16
     go_wp2
     go_ret2
     exact ⟨0,rfl,fun _=>long_of HT.out (by omega) (fun k h1 h2=>hall.out k (by omega) h2) (.inl rfl),fun h=>absurd rfl h,HB1.out.trans (hbr.out.mono HB1.out.size)⟩
end Go.Proofs.YtccabpahfmoamaaGreat
end

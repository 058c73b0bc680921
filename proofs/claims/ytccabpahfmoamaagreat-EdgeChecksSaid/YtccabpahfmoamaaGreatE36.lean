/- Contracts that the laws lean on: BrE, BrR. -/
import Derived.Test.YtccabpahfmoamaaGreatE35
import Derived.Test.YtccabpahfmoamaaGreatE04
import Derived.BigQuiet
import Derived.StillTailTactics
section
namespace Go.Proofs.YtccabpahfmoamaaGreat
open Go.RowKit Go.Proofs Go.Shelf
def inS (i:Int) (s:Stretch):Bool:=inB i s.lo (s.hi-1)
def inW (i:Int) (s:Stretch):Bool:=inB i s.lo (IntKind.i64.wrap (s.hi-1))
def bareErr (A:Outl) (l:List Stretch):Int:=if checkOut A≠0 then checkOut A else if 100<l.length then 2 else if l.any (fun s=> !ofB A s)=true then 1 else 0
def bareS (n:Nat) (l:List Stretch):List Int:=((List.range n).filter (fun i:Nat=> !l.any (inS i))).map (fun i:Nat=>(i:Int))
def bareV (A:Outl) (l:List Stretch):List Int:=if bareErr A l=0 then bareS A.n.toNat l else []
def overB (s t:Stretch):Bool:=decide (max s.lo t.lo<min s.hi t.hi)
theorem bareS_succ (n:Nat) (l:List Stretch):bareS (n+1) l=bareS n l++(if l.any (inS n) then [] else [(n:Int)]):=by
 unfold bareS
 rw [List.range_succ,List.filter_append,List.map_append]
 congr 1
 cases h:l.any (inS n)<;>simp [h]
theorem bareS_len (n:Nat) (l:List Stretch):(bareS n l).length≤n:=by
 unfold bareS
 rw [List.length_map]
 exact Nat.le_trans (List.length_filter_le _ _) (by simp)
theorem ent_bare1:∀ args w,(callFunc 106 args).run Tryz.prog w = .ok (.enter 106 args) w:=enters_of Tryz.func106 (by kernel_rfl) rfl
theorem ent_bare2:∀ args w,(callFunc 107 args).run Tryz.prog w = .ok (.enter 107 args) w:=enters_of Tryz.func107 (by kernel_rfl) rfl
theorem OverlapE_any (s t:Stretch) (w:World):
 Calls Tryz.prog 52 #[.agg #[.int .i64 s.lo,.int .i64 s.hi],.agg #[.int .i64 t.lo,.int .i64 t.hi]] w fun e w'=>e = .returned (.bool (overB s t))∧Below w.heap.size w w':=by
 go_enter Tryz.func52,Tryz.ntmps52
 go_wp2
 go_ret
 exact ⟨rfl,((Below.refl _ _).alloc (Nat.le_refl _) _).alloc (by simp) _⟩
theorem bare1_any (A:Outl) (AwA:Option Addr) (Awn Awc:Nat) (AtA:Option Addr) (Atn Atc:Nat) (s:Stretch) (g:Nat) (w:World) (c0:w.cell? ⟨g,0,none⟩=some (.int .i64 A.n)) (c1:w.cell? ⟨g,1,none⟩=some (.slice AwA Awn Awc)) (c2:w.cell? ⟨g,2,none⟩=some (.slice AtA Atn Atc)) (hg:g<w.heap.size):
 Calls Tryz.prog 106 #[.agg #[.int .i64 s.lo,.int .i64 s.hi],.pointer (some ⟨g,0,none⟩)] w fun e w'=>e = .returned (.bool (!ofB A s))∧Below w.heap.size w w':=by
 have KO:=Lib.hid (fun W=>ofE_any A AwA Awn Awc AtA Atn Atc s W)
 go_enter Tryz.func106,Tryz.ntmps106
 go_wp2_with (go_at_call 95;(with_reducible refine (KO.out _).mono ?_);rintro e w2 ⟨rfl,hb2⟩;have HB2:=Lib.hid hb2;clear hb2)
 go_ret
 exact ⟨rfl,((Below.refl _ _).alloc (Nat.le_refl _) _).trans (HB2.out.mono (by simp))⟩
theorem bare2_any (k:Int) (s:Stretch) (g:Nat) (w:World) (c0:w.cell? ⟨g,0,none⟩=some (.int .i64 k)) (hg:g<w.heap.size):
 Calls Tryz.prog 107 #[.agg #[.int .i64 s.lo,.int .i64 s.hi],.pointer (some ⟨g,0,none⟩)] w fun e w'=>e = .returned (.bool (inW k s))∧Below w.heap.size w w':=by
 have KO:Hid (∀ W,Calls Tryz.prog 89 #[.int .i64 k,.int .i64 s.lo,.int .i64 (IntKind.i64.wrap (s.hi-1))] W fun e w'=>e = .returned (.bool (inW k s))∧w'=W):=(show ∀ W,_ from fun W=>inE_any k s.lo _ W)
 generalize inW k s=bv at *
 obtain ⟨hv,hhv⟩:∃ hv,IntKind.i64.wrap (s.hi-1)=hv:=⟨_,rfl⟩
 rw [hhv] at KO
 go_enter Tryz.func107,Tryz.ntmps107
 go_wp2_with (go_at_call 89;(with_reducible refine (KO.out _).mono ?_);rintro e w2 ⟨rfl,hw2⟩;obtain rfl:=hw2.symm)
 go_ret
 exact ⟨rfl,(Below.refl _ _).alloc (Nat.le_refl _) _⟩
theorem any_inW {n:Int} (hn:n≤1000000) {l:List Stretch} (h:∀ s∈l,0≤s.lo∧s.lo<s.hi∧s.hi≤n) (k:Int):l.any (inW k)=l.any (inS k):=by
 rw [Bool.eq_iff_iff,List.any_eq_true,List.any_eq_true]
 have e:∀ s∈l,inW k s=inS k s:=fun s hs=>by
  obtain ⟨h1,h2,h3⟩:=h s hs
  unfold inW inS
  rw [show IntKind.i64.wrap (s.hi-1)=s.hi-1 from by rw [IntKind.wrap_i64];omega]
 exact ⟨fun ⟨x,hx,hv⟩=>⟨x,hx,by rw [←e x hx];exact hv⟩,fun ⟨x,hx,hv⟩=>⟨x,hx,by rw [e x hx];exact hv⟩⟩
set_option maxRecDepth 100000 in
set_option maxHeartbeats 4000000 in
theorem BareE_any (A:Outl) (AwA:Option Addr) (Awn Awc:Nat) (AtA:Option Addr) (Atn Atc:Nat) (L:Option Addr) (n c:Nat) (l:List Stretch) (w:World) (Aw:Rd encBound 4 w AwA Awn Awc A.ways) (At:Rd encBound 4 w AtA Atn Atc A.turns) (hL:Rd encStretch 2 w L n c l):
 Calls Tryz.prog 50 #[.agg #[.int .i64 A.n,.slice AwA Awn Awc,.slice AtA Atn Atc],.slice L n c] w fun e w'=> ∃ A' c',e = .returned (.tuple #[.slice A' (bareV A l).length c',.int .i64 (bareErr A l)])∧Below w.heap.size w w'∧Own encInt 1 3 w.heap.size w' A' (bareV A l).length c' (bareV A l):=by
 obtain ⟨w1,a1,b1,z1,e1⟩:=alloc_facts w #[.int .i64 A.n,.slice AwA Awn Awc,.slice AtA Atn Atc] 24
 have HW1:=Lib.hid a1
 have HB1:=Lib.hid b1
 have HCE:Hid (∀ W,Below w1.heap.size w1 W→W.cell? ⟨w.heap.size,0,none⟩=some (.int .i64 A.n)∧W.cell? ⟨w.heap.size,1,none⟩=some (.slice AwA Awn Awc)∧W.cell? ⟨w.heap.size,2,none⟩=some (.slice AtA Atn Atc)):=(show ∀ W,_→_ from fun W h=>by
  have hh:=(h.block w.heap.size (by omega)).trans e1
  simp [World.cell?,hh])
 have KC:=Lib.hid (fun W (h:Below w1.heap.size w1 W)=>CheckOutline_any A AwA Awn Awc AtA Atn Atc W ((Aw.below b1 (Nat.le_refl _)).below h (Nat.le_refl _)) ((At.below b1 (Nat.le_refl _)).below h (Nat.le_refl _)))
 have RL:Hid (∀ W,Below w1.heap.size w1 W→Rd encStretch 2 W L n c l):=(show ∀ W,_→_ from fun W h=>(hL.below b1 (Nat.le_refl _)).below h (Nat.le_refl _))
 have hln:=hL.len
 obtain ⟨x0,x1,x2⟩:=HCE.out w1 (Below.refl _ _)
 clear Aw At hL a1 b1 e1
 by_cases h1:checkOut A=0
 case neg=>
  have hv:bareErr A l=checkOut A:=if_pos h1
  have hv2:bareV A l = []:=if_neg (by rw [hv];exact h1)
  rw [hv,hv2]
  have h1':(checkOut A != 0)=true:=by simpa using h1
  clear h1 hv hv2 RL hln
  generalize checkOut A=er at *
  go_enter Tryz.func50,Tryz.ntmps50
  go_wp2_with (first
   | rw [HW1.out]
   | (go_at_call 35;(with_reducible refine (KC.out _ (Below.refl _ _)).mono ?_);rintro e w2 ⟨rfl,hb2⟩;have HB2:=Lib.hid hb2;clear hb2))
  go_ret2
  exact ⟨none,0,rfl,HB1.out.trans (HB2.out.mono HB1.out.size),Own.none_ _ _ _ _ _⟩
 case pos=>
 obtain ⟨c1,c2,_,_⟩:=checkOut_zero.1 h1
 by_cases h2:(100:Int)<n
 case pos=>
  have hv:bareErr A l=2:=by unfold bareErr;rw [if_neg (fun h=>h h1),if_pos (by omega)]
  have hv2:bareV A l = []:=if_neg (by rw [hv];decide)
  rw [hv,hv2]
  rw [h1] at KC
  clear h1 hv hv2 RL hln c1 c2
  go_enter Tryz.func50,Tryz.ntmps50
  go_wp2_with (first
   | rw [HW1.out]
   | (go_at_call 35;(with_reducible refine (KC.out _ (Below.refl _ _)).mono ?_);rintro e w2 ⟨rfl,hb2⟩;have HB2:=Lib.hid hb2;clear hb2))
  go_ret2
  exact ⟨none,0,rfl,HB1.out.trans (HB2.out.mono HB1.out.size),Own.none_ _ _ _ _ _⟩
 case neg=>
 have HP1:Hid (∀ W,Below w1.heap.size w1 W→Calls Tryz.prog 105 #[.slice L n c,.func (.func 106) #[] #[.pointer (some ⟨w.heap.size,0,none⟩)]] W fun e w'=>e = .returned (.bool (l.any (fun s=> !ofB A s)))∧Below W.heap.size W w'):=(show ∀ W,_→_ from fun W hW=>ContainsFunc_Stretch 106 #[.pointer (some ⟨w.heap.size,0,none⟩)] ent_bare1 (fun s=> !ofB A s) L n c l W (RL.out W hW) (fun V x hV=>by
  have hB:=hW.trans (hV.mono hW.size)
  obtain ⟨k0,k1,k2⟩:=HCE.out V hB
  refine (bare1_any A AwA Awn Awc AtA Atn Atc x w.heap.size V k0 k1 k2 (by have:=hB.size;omega)).mono ?_
  rintro e w' ⟨rfl,hb⟩
  exact ⟨rfl,hV.trans (hb.mono hV.size)⟩))
 by_cases h3:l.any (fun s=> !ofB A s)=true
 case pos=>
  have hv:bareErr A l=1:=by unfold bareErr;rw [if_neg (fun h=>h h1),if_neg (by omega),if_pos h3]
  have hv2:bareV A l = []:=if_neg (by rw [hv];decide)
  rw [hv,hv2]
  rw [h1] at KC
  rw [h3] at HP1
  clear h1 hv hv2 RL hln c1 c2 h3
  go_enter Tryz.func50,Tryz.ntmps50
  go_wp2_with (first
   | rw [HW1.out]
   | (go_at_call 35;(with_reducible refine (KC.out _ (Below.refl _ _)).mono ?_);rintro e w2 ⟨rfl,hb2⟩;have HB2:=Lib.hid hb2;clear hb2)
   | (go_at_call 105;(with_reducible refine (HP1.out _ HB2.out).mono ?_);rintro e w3 ⟨rfl,hb3⟩;have HB3:=Lib.hid (HB2.out.trans (hb3.mono HB2.out.size));clear hb3))
  go_ret2
  exact ⟨none,0,rfl,HB1.out.trans (HB3.out.mono HB1.out.size),Own.none_ _ _ _ _ _⟩
 case neg=>
  have hv:bareErr A l=0:=by unfold bareErr;rw [if_neg (fun h=>h h1),if_neg (by omega),if_neg h3]
  obtain ⟨m,hmA⟩:∃ m:Nat,A.n=m:=⟨A.n.toNat,by omega⟩
  have hv2:bareV A l=bareS m l:=by unfold bareV;rw [if_pos hv];congr 1;omega
  rw [hv,hv2]
  rw [h1] at KC
  have hof:∀ s∈l,0≤s.lo∧s.lo<s.hi∧s.hi≤A.n:=fun s hs=>by
   rw [Bool.not_eq_true,List.any_eq_false] at h3
   have:=h3 s hs
   simp only [Bool.not_eq_true',Bool.not_eq_false] at this
   exact ofB_iff.1 this
  have HAW:=Lib.hid (any_inW (l:=l) (n:=A.n) (by omega) hof)
  rw [Bool.not_eq_true] at h3
  rw [h3] at HP1
  have HP2:Hid (∀ (k:Int) (g:Nat) W,Below w1.heap.size w1 W→(∀ V,Below W.heap.size W V→V.cell? ⟨g,0,none⟩=some (.int .i64 k))→g<W.heap.size→Calls Tryz.prog 105 #[.slice L n c,.func (.func 107) #[] #[.pointer (some ⟨g,0,none⟩)]] W fun e w'=>e = .returned (.bool (l.any (inS k)))∧Below W.heap.size W w'):=(show ∀ k g W,_→_→_→_ from fun k g W hW hc hg=>by
   rw [←HAW.out k]
   refine ContainsFunc_Stretch 107 #[.pointer (some ⟨g,0,none⟩)] ent_bare2 (inW k) L n c l W (RL.out W hW) (fun V x hV=> ?_)
   refine (bare2_any k x g V (hc V hV) (by have:=hV.size;omega)).mono ?_
   rintro e w' ⟨rfl,hb⟩
   exact ⟨rfl,hV.trans (hb.mono hV.size)⟩)
  have HA:Hid (A.n=m∧A.n≤16):=(show _∧_ from ⟨hmA,c2⟩)
  have hm16:m≤16:=(by omega)
  clear h1 hv hv2 RL hln c1 c2 h3 hof HAW hmA
  go_enter Tryz.func50,Tryz.ntmps50
  go_wp2_with (first
   | rw [HW1.out]
   | (go_at_call 35;(with_reducible refine (KC.out _ (Below.refl _ _)).mono ?_);rintro e w2 ⟨rfl,hb2⟩;have HB2:=Lib.hid hb2;clear hb2)
   | (go_at_call 105;(with_reducible refine (HP1.out _ HB2.out).mono ?_);rintro e w3 ⟨rfl,hb3⟩
      have HB3:=Lib.hid (HB2.out.trans (hb3.mono HB2.out.size))
      obtain ⟨y0,y1,y2⟩:=HCE.out w3 HB3.out
      clear hb3))
  go_loopw [7,24] (fun s7 s24 wr=> ∃ (k:Nat) (A':Option Addr) (c':Nat),k≤m∧s24 = .int .i64 k∧s7 = .slice A' (bareS k l).length c'∧Hid (Own encInt 1 3 w1.heap.size wr A' (bareS k l).length c' (bareS k l))∧Hid (Below w1.heap.size w1 wr)) (fun _ s24 _=>m-(intOf s24).toNat)
  case atStart=>exact ⟨0,none,0,by omega,rfl,rfl,(show Own _ _ _ _ _ _ _ _ _ from Own.none_ _ _ _ _ _),(show Below _ _ _ from HB3.out)⟩
  case round=>
   obtain ⟨k,A',c',hk,rfl,rfl,hO,hbr⟩:=hrel
   have hzr:=hbr.out.size
   by_cases hlt:k<m
   · have hlt':(k:Int)<A.n:=(by have:=HA.out;omega)
     obtain ⟨w4,a4,b4,z4,e4⟩:=alloc_facts wr #[.int .i64 (k:Int)] 3
     have HA4:=Lib.hid a4
     have HE4:Hid (∀ V,Below w4.heap.size w4 V→V.cell? ⟨wr.heap.size,0,none⟩=some (.int .i64 (k:Int))):=(show ∀ V,_→_ from fun V hV=>by
      have hh:=(hV.block wr.heap.size (by omega)).trans e4
      simp [World.cell?,hh])
     have HB4:=Lib.hid (hbr.out.trans (b4.mono hbr.out.size))
     have HO4:=Lib.hid (hO.out.below b4 (Nat.le_refl _))
     have HS:=Lib.hid (bareS_succ k l)
     have hlen:=bareS_len k l
     have HP:=Lib.hid (HP2.out k wr.heap.size w4 HB4.out HE4.out (by omega))
     have hz14:w1.heap.size≤w4.heap.size:=HB4.out.size
     clear a4 b4 e4
     generalize bareS k l=X at *
     cases hq:l.any (inS k) with
     | true=>
       rw [hq] at HP HS
       have HX:Hid (bareS (k+1) l=X):=(show _=_ by have:=HS.out;simpa using this)
       clear hq HS
       go_wp2_with (first
        | rw [HA4.out]
        | (go_at_call 105;(with_reducible refine HP.out.mono ?_);rintro e w5 ⟨rfl,hb5⟩
           have HB5:=Lib.hid (HB4.out.trans (hb5.mono HB4.out.size))
           have HO5:=Lib.hid (HO4.out.below hb5 (Nat.le_refl _))
           clear hb5))
       go_roundw
       all_goals first
        | (simp [intOf];omega)
        | exact ⟨k+1,A',c',by omega,by go_num,by rw [HX.out],(show Own _ _ _ _ _ _ _ _ _ by rw [HX.out];exact HO5.out),(show Below _ _ _ from HB5.out)⟩
     | false=>
       rw [hq] at HP HS
       have HX:Hid (bareS (k+1) l=X ++ [(k:Int)]):=(show _=_ by have:=HS.out;simpa using this)
       clear hq HS
       go_wp2_with (first
        | rw [HA4.out]
        | (go_at_call 105;(with_reducible refine HP.out.mono ?_);rintro e w5 ⟨rfl,hb5⟩
           have HB5:=Lib.hid (HB4.out.trans (hb5.mono HB4.out.size))
           have HO5:=Lib.hid (HO4.out.below hb5 (Nat.le_refl _))
           have y5:=HE4.out w5 hb5
           clear hb5)
        | (at_builtin
           have hown:Own encInt 1 3 w1.heap.size (w5.alloc (.cells #[.int .i64 (k:Int)] 3)) A' X.length c' X:=HO5.out.alloc _
           have hrd7:=Rd.single (enc:=encInt) (k:=1) w5 #[.int .i64 (k:Int)] 3 [(k:Int)] 1 rfl (by omega) (fun _=>rfl) (by simp [encInt])
           refine wpList_append_src elInt (fun _=>rfl) oneInt rfl _ _ rfl _ _ _ _ rfl rfl hown hrd7 (by omega) (by decide) (by simp;have:=HB5.out.size;omega) ?_
           intro A2 c2 w8 hO8 hg8 hA8
           have HB8:=Lib.hid ((HB5.out.alloc HB5.out.size (.cells #[.int .i64 (k:Int)] 3)).grown hg8 (by simp;have:=HB5.out.size;omega) (fun j e=>hown.ltB j e))
           have HO8:=Lib.hid hO8
           clear hO8 hg8 hA8 hown hrd7))
       go_roundw
       all_goals first
        | (simp [intOf];omega)
        | exact ⟨k+1,A2,c2,by omega,by go_num,by rw [HX.out,List.length_append];rfl,(show Own _ _ _ _ _ _ _ _ _ by rw [HX.out,List.length_append];exact HO8.out),(show Below _ _ _ from HB8.out)⟩
   · have hkm:k=m:=by omega
     subst hkm
     have hlt':¬(k:Int)<A.n:=(by have:=HA.out;omega)
     go_wp2
     go_ret2
     exact ⟨A',c',rfl,HB1.out.trans (hbr.out.mono HB1.out.size),hO.out.mono HB1.out.size⟩
end Go.Proofs.YtccabpahfmoamaaGreat
end
section
namespace Go.Proofs.YtccabpahfmoamaaGreat
open Go.RowKit Go.Proofs Go.Shelf
theorem r3Overlap_any (s t:Stretch) (w:World):
 Calls Tryz.prog 53 #[.agg #[.int .i64 s.lo,.int .i64 s.hi],.agg #[.int .i64 t.lo,.int .i64 t.hi]] w fun e w'=>e = .returned (.bool (overB s t))∧Below w.heap.size w w':=by
 have hv:overB s t=(decide (s.lo<s.hi)&&(decide (t.lo<t.hi)&&(decide (s.lo<t.hi)&&decide (t.lo<s.hi)))):=by
  unfold overB
  rw [Bool.eq_iff_iff]
  simp only [Bool.and_eq_true,decide_eq_true_eq]
  omega
 rw [hv]
 clear hv
 by_cases h1:s.lo<s.hi<;>by_cases h2:t.lo<t.hi<;>by_cases h3:s.lo<t.hi
 all_goals
  go_enter Tryz.func53,Tryz.ntmps53
  go_wp2
  go_ret
  exact ⟨by first|(simp [h1,h2,h3];done)|(simp;omega)|(simp;omega),((Below.refl _ _).alloc (Nat.le_refl _) _).alloc (by simp) _⟩
def fewN (n:Nat):Bool:=decide (n≤40)||(decide (395<n)&&decide (n≤405))
theorem fewN_iff {n:Nat} : fewN n=true↔n≤40∨395<n∧n≤405:=by unfold fewN;simp
set_option maxHeartbeats 4000000 in
theorem few_any (an:Value) (A1 A2:Option Addr) (n1 c1 n2 c2:Nat) (w:World):
 Calls Tryz.prog 16 #[.agg #[an,.slice A1 n1 c1,.slice A2 n2 c2]] w fun e w'=>e = .returned (.bool (fewN n1&&fewN n2))∧Below w.heap.size w w':=by
 have key:∀ n:Nat,(((n:Int)≤40∧fewN n=true)∨(¬(n:Int)≤40∧¬(395:Int)<n∧fewN n=false))∨((¬(n:Int)≤40∧(395:Int)<n∧(n:Int)≤405∧fewN n=true)∨(¬(n:Int)≤40∧(395:Int)<n∧¬(n:Int)≤405∧fewN n=false)):=fun n=>by
  have hb:fewN n=true∨fewN n=false:=by cases fewN n<;>simp
  have h:=fewN_iff (n:=n)
  rcases hb with hb|hb
  · have:=h.1 hb
    rw [hb]
    simp only [and_true]
    omega
  · have:¬(n≤40∨395<n∧n≤405):=fun hh=>by rw [h.2 hh] at hb;cases hb
    rw [hb]
    simp only [and_true,and_false,false_or,Bool.false_eq_true]
    omega
 rcases key n1 with (⟨a1,ha⟩|⟨a1,a2,ha⟩)|(⟨a1,a2,a3,ha⟩|⟨a1,a2,a3,ha⟩)<;>rcases key n2 with (⟨b1,hb⟩|⟨b1,b2,hb⟩)|(⟨b1,b2,b3,hb⟩|⟨b1,b2,b3,hb⟩)
 all_goals
  rw [ha,hb]
  clear ha hb
  go_enter Tryz.func16,Tryz.ntmps16
  go_wp2
  go_ret
  exact ⟨by first|rfl|simp [*],(Below.refl _ _).alloc (Nat.le_refl _) _⟩
theorem cov_inS (k:Int) (s:Stretch):(decide (s.lo≤k)&&decide (k<s.hi))=inS k s:=by
 unfold inS inB
 congr 1
 exact decide_eq_decide.2 (by omega)
theorem any_take_succ {p:Stretch→Bool} {l:List Stretch} {j:Nat} {x:Stretch} (hx:l[j]? = some x):(l.take (j+1)).any p=((l.take j).any p||p x):=by
 rw [List.take_add_one,hx,List.any_append]
 simp
set_option maxRecDepth 100000 in
set_option maxHeartbeats 4000000 in
theorem r3Bare_any (A:Outl) (AwA:Option Addr) (Awn Awc:Nat) (AtA:Option Addr) (Atn Atc:Nat) (L:Option Addr) (n c:Nat) (l:List Stretch) (w:World) (Aw:Rd encBound 4 w AwA Awn Awc A.ways) (At:Rd encBound 4 w AtA Atn Atc A.turns) (hL:Rd encStretch 2 w L n c l):
 Calls Tryz.prog 51 #[.agg #[.int .i64 A.n,.slice AwA Awn Awc,.slice AtA Atn Atc],.slice L n c] w fun e w'=> ∃ A' c',e = .returned (.tuple #[.slice A' (bareV A l).length c',.int .i64 (bareErr A l)])∧Below w.heap.size w w'∧Own encInt 1 3 w.heap.size w' A' (bareV A l).length c' (bareV A l):=by
 obtain ⟨w1,a1,b1,z1,e1⟩:=alloc_facts w #[.int .i64 A.n,.slice AwA Awn Awc,.slice AtA Atn Atc] 24
 have HW1:=Lib.hid a1
 have HB1:=Lib.hid b1
 have HCE:Hid (∀ W,Below w1.heap.size w1 W→W.cell? ⟨w.heap.size,0,none⟩=some (.int .i64 A.n)∧W.cell? ⟨w.heap.size,1,none⟩=some (.slice AwA Awn Awc)∧W.cell? ⟨w.heap.size,2,none⟩=some (.slice AtA Atn Atc)):=(show ∀ W,_→_ from fun W h=>by
  have hh:=(h.block w.heap.size (by omega)).trans e1
  simp [World.cell?,hh])
 have KC:=Lib.hid (fun W (h:Below w1.heap.size w1 W)=>r3CheckOutline_any A AwA Awn Awc AtA Atn Atc W ((Aw.below b1 (Nat.le_refl _)).below h (Nat.le_refl _)) ((At.below b1 (Nat.le_refl _)).below h (Nat.le_refl _)))
 have RL:Hid (∀ W,Below w1.heap.size w1 W→Rd encStretch 2 W L n c l):=(show ∀ W,_→_ from fun W h=>(hL.below b1 (Nat.le_refl _)).below h (Nat.le_refl _))
 have hln:=hL.len
 obtain ⟨x0,x1,x2⟩:=HCE.out w1 (Below.refl _ _)
 clear Aw At hL a1 b1 e1
 by_cases h1:checkOut A=0
 case neg=>
  have hv:bareErr A l=checkOut A:=if_pos h1
  have hv2:bareV A l = []:=if_neg (by rw [hv];exact h1)
  rw [hv,hv2]
  have h1':(checkOut A != 0)=true:=by simpa using h1
  clear h1 hv hv2 RL hln
  generalize checkOut A=er at *
  go_enter Tryz.func51,Tryz.ntmps51
  go_wp2_with (first
   | rw [HW1.out]
   | (go_at_call 36;(with_reducible refine (KC.out _ (Below.refl _ _)).mono ?_);rintro e w2 ⟨rfl,hb2⟩;have HB2:=Lib.hid hb2;clear hb2))
  go_ret2
  exact ⟨none,0,rfl,HB1.out.trans (HB2.out.mono HB1.out.size),Own.none_ _ _ _ _ _⟩
 case pos=>
 obtain ⟨c1,c2,_,_⟩:=checkOut_zero.1 h1
 by_cases h2:(100:Int)<n
 case pos=>
  have hv:bareErr A l=2:=by unfold bareErr;rw [if_neg (fun h=>h h1),if_pos (by omega)]
  have hv2:bareV A l = []:=if_neg (by rw [hv];decide)
  rw [hv,hv2]
  rw [h1] at KC
  clear h1 hv hv2 RL hln c1 c2
  go_enter Tryz.func51,Tryz.ntmps51
  go_wp2_with (first
   | rw [HW1.out]
   | (go_at_call 36;(with_reducible refine (KC.out _ (Below.refl _ _)).mono ?_);rintro e w2 ⟨rfl,hb2⟩;have HB2:=Lib.hid hb2;clear hb2))
  go_ret2
  exact ⟨none,0,rfl,HB1.out.trans (HB2.out.mono HB1.out.size),Own.none_ _ _ _ _ _⟩
 case neg=>
  have HE1:Hid (∀ s∈l,ofB A s=false→bareErr A l=1∧bareV A l = []):=(show ∀ s∈l,_→_ from fun s hs hf=>by
   have hv:bareErr A l=1:=by unfold bareErr;rw [if_neg (fun h=>h h1),if_neg (by omega),if_pos (List.any_eq_true.2 ⟨s,hs,by rw [hf];rfl⟩)]
   exact ⟨hv,if_neg (by rw [hv];decide)⟩)
  obtain ⟨m,hmA⟩:∃ m:Nat,A.n=m:=⟨A.n.toNat,by omega⟩
  have HE2:Hid ((∀ s∈l,ofB A s=true)→bareErr A l=0∧bareV A l=bareS m l):=(show _→_ from fun hall=>by
   have hv:bareErr A l=0:=by
    unfold bareErr
    rw [if_neg (fun h=>h h1),if_neg (by omega),if_neg (fun h=>by
     obtain ⟨s,hs,hf⟩:=List.any_eq_true.1 h
     rw [hall s hs] at hf
     cases hf)]
   refine ⟨hv,?_⟩
   unfold bareV
   rw [if_pos hv]
   congr 1
   omega)
  have HST:Hid (∀ (s:Stretch) W,Calls Tryz.prog 96 #[.int .i64 A.n,.agg #[.int .i64 s.lo,.int .i64 s.hi]] W fun e w'=>e = .returned (.bool (ofB A s))∧Below W.heap.size W w'):=(show ∀ s W,_ from fun s W=>r3stretch_any A.n s W)
  rw [h1] at KC
  have HA:Hid (A.n=m∧A.n≤16):=(show _∧_ from ⟨hmA,c2⟩)
  have hm16:m≤16:=(by omega)
  have hn100:n≤100:=(by omega)
  generalize bareErr A l=ev at *
  generalize bareV A l=vv at *
  clear h1 c1 c2 hmA
  go_enter Tryz.func51,Tryz.ntmps51
  go_wp2_with (first
   | rw [HW1.out]
   | (go_at_call 36;(with_reducible refine (KC.out _ (Below.refl _ _)).mono ?_);rintro e w2 ⟨rfl,hb2⟩;have HB2:=Lib.hid hb2;clear hb2))
  go_loopw [7] (fun s7 wr=> ∃ k:Nat,k≤n∧s7 = .int .i64 k∧Hid (Below w1.heap.size w1 wr)∧Hid (∀ j x,j<k→l[j]? = some x→ofB A x=true)) (fun s7 _=>n-(intOf s7).toNat)
  case atStart=>exact ⟨0,by omega,rfl,(show Below _ _ _ from HB2.out),(show ∀ (j:Nat) (x:Stretch),_ from fun j x h=>by omega)⟩
  case round=>
   obtain ⟨k,hk,rfl,hbr,hall⟩:=hrel
   have hzr:=hbr.out.size
   by_cases hlt:k<n
   · obtain ⟨bb,ob,x,rfl,hbb,hx,hcx⟩:=(RL.out wr hbr.out).one hlt
     have c0:wr.cell? ⟨bb,ob+k * 2,none⟩=some (.int .i64 x.lo):=hcx 0 _ rfl
     have c1:wr.cell? ⟨bb,ob+k * 2+1,none⟩=some (.int .i64 x.hi):=hcx 1 _ rfl
     obtain ⟨y0,y1,y2⟩:=HCE.out wr hbr.out
     have HX:=Lib.hid hx
     obtain ⟨ob',hob⟩:∃ ob',ofB A x=ob':=⟨_,rfl⟩
     have HO:=Lib.hid hob
     clear hcx hx hob
     go_wp2
     refine wp_region_still_tail 6 (by kernel_rfl) (by kernel_rfl) ?_
     simp only [List.take_succ_cons,List.take_zero,List.drop_succ_cons,List.drop_zero,World.drew_eq]
     iterate 6 still_step
     refine wpStill_nil ?_
     cases ob' with
     | false=>
       obtain ⟨he1,he2⟩:=HE1.out x (List.mem_of_getElem? HX.out) HO.out
       subst he1
       subst he2
       go_wp2_with (go_at_call 96;(with_reducible refine (HST.out x _).mono ?_);rintro e w3 ⟨rfl,hb3⟩;rw [HO.out];have HB3:=Lib.hid (Below.trans (by first|exact hbr.out|exact hbr.out.drew|exact below_drewN' hbr.out _) (hb3.mono hbr.out.size));clear hb3)
       go_ret2
       exact ⟨none,0,rfl,HB1.out.trans (HB3.out.mono HB1.out.size),Own.none_ _ _ _ _ _⟩
     | true=>
       go_wp2_with (go_at_call 96;(with_reducible refine (HST.out x _).mono ?_);rintro e w3 ⟨rfl,hb3⟩;rw [HO.out];have HB3:=Lib.hid (Below.trans (by first|exact hbr.out|exact hbr.out.drew|exact below_drewN' hbr.out _) (hb3.mono hbr.out.size));clear hb3)
       go_roundw
       all_goals first
        | (simp [intOf];omega)
        | exact ⟨k+1,by omega,by go_num,(show Below _ _ _ from HB3.out),(show ∀ (j:Nat) (y:Stretch),_ from fun j y hj hy=>by
           rcases Nat.lt_or_ge j k with h|h
           · exact hall.out j y h hy
           · have:j=k:=by omega
             subst this
             rw [HX.out] at hy
             cases hy
             exact HO.out)⟩
   · have hkn:k=n:=by omega
     subst hkn
     obtain ⟨he1,he2⟩:=HE2.out (fun s hs=>by
      obtain ⟨j,hj,hjx⟩:=List.getElem_of_mem hs
      exact hall.out j s (by omega) (by rw [List.getElem?_eq_getElem hj,hjx]))
     subst he1
     subst he2
     have HBR:=Lib.hid hbr.out
     obtain ⟨y0,y1,y2⟩:=HCE.out wr hbr.out
     clear hbr hall HE1 HE2 hln
     go_wp2
     go_loopw [8,9] (fun s8 s9 wv=> ∃ (i:Nat) (A':Option Addr) (c':Nat),i≤m∧s9 = .int .i64 i∧s8 = .slice A' (bareS i l).length c'∧Hid (Own encInt 1 3 w1.heap.size wv A' (bareS i l).length c' (bareS i l))∧Hid (Below w1.heap.size w1 wv)) (fun _ s9 _=>m-(intOf s9).toNat)
     case atStart=>exact ⟨0,none,0,by omega,rfl,rfl,(show Own _ _ _ _ _ _ _ _ _ from Own.none_ _ _ _ _ _),(show Below _ _ _ from HBR.out)⟩
     case round=>
      rename World=>wv
      obtain ⟨i,A',c',hi,rfl,rfl,hO,hbv⟩:=hrel
      have hzv:=hbv.out.size
      obtain ⟨z0,z1,z2⟩:=HCE.out wv hbv.out
      by_cases hil:i<m
      · have hil':(i:Int)<A.n:=(by have:=HA.out;omega)
        have HBV:=Lib.hid hbv.out
        clear hbv
        go_wp2
        go_loopw [10,11] (fun s10 s11 wu=> ∃ j:Nat,j≤k∧s11 = .int .i64 j∧s10 = .bool ((l.take j).any (inS i))∧Hid (Below wv.heap.size wv wu)) (fun _ s11 _=>k-(intOf s11).toNat)
        case atStart=>exact ⟨0,by omega,rfl,rfl,(show Below _ _ _ from Below.refl _ _)⟩
        case round=>
         rename World=>wu
         obtain ⟨j,hj,rfl,rfl,hbu⟩:=hrel
         have HBU:=Lib.hid (HBV.out.trans (hbu.out.mono HBV.out.size))
         by_cases hjl:j<k
         · obtain ⟨bb,ob,x,rfl,hbb,hx,hcx⟩:=(RL.out wu HBU.out).one hjl
           have c0:wu.cell? ⟨bb,ob+j * 2,none⟩=some (.int .i64 x.lo):=hcx 0 _ rfl
           have c1:wu.cell? ⟨bb,ob+j * 2+1,none⟩=some (.int .i64 x.hi):=hcx 1 _ rfl
           have HAT:=Lib.hid ((any_take_succ (p:=inS i) hx).trans (by rw [←cov_inS]))
           clear hx hcx
           generalize (l.take j).any (inS i)=fv at *
           cases fv with
           | true=>
             go_wp2
             go_roundw
             all_goals first
              | (simp [intOf];omega)
              | exact ⟨j+1,by omega,by go_num,by rw [HAT.out];rfl,(show Below _ _ _ from hbu.out)⟩
           | false=>
             by_cases q1:x.lo≤(i:Int)
             all_goals
              go_wp2
              go_roundw
              all_goals first
               | (simp [intOf];omega)
               | exact ⟨j+1,by omega,by go_num,by rw [HAT.out];simp [q1],(show Below _ _ _ from hbu.out)⟩
         · have hjk:j=k:=by omega
           subst hjk
           have hln:=(RL.out wu HBU.out).len
           rw [List.take_of_length_le (by omega)]
           have HS:=Lib.hid (bareS_succ i l)
           have hlen:=bareS_len i l
           have HOU:=Lib.hid (hO.out.below hbu.out (Nat.le_refl _))
           clear hln
           generalize bareS i l=X at *
           cases hq:l.any (inS i) with
           | true=>
             rw [hq] at HS
             have HX:Hid (bareS (i+1) l=X):=(show _=_ by have:=HS.out;simpa using this)
             clear hq HS
             go_wp2
             go_roundw
             all_goals first
              | (simp [intOf];omega)
              | exact ⟨i+1,A',c',by omega,by go_num,by rw [HX.out],(show Own _ _ _ _ _ _ _ _ _ by rw [HX.out];exact HOU.out),(show Below _ _ _ from HBU.out)⟩
           | false=>
             rw [hq] at HS
             have HX:Hid (bareS (i+1) l=X ++ [(i:Int)]):=(show _=_ by have:=HS.out;simpa using this)
             clear hq HS
             go_wp2_with (at_builtin
                          have hown:Own encInt 1 3 w1.heap.size (wu.alloc (.cells #[.int .i64 (i:Int)] 3)) A' X.length c' X:=HOU.out.alloc _
                          have hrd7:=Rd.single (enc:=encInt) (k:=1) wu #[.int .i64 (i:Int)] 3 [(i:Int)] 1 rfl (by omega) (fun _=>rfl) (by simp [encInt])
                          refine wpList_append_src elInt (fun _=>rfl) oneInt rfl _ _ rfl _ _ _ _ rfl rfl hown hrd7 (by omega) (by decide) (by simp;have:=HBU.out.size;omega) ?_
                          intro A2 c2 w8 hO8 hg8 hA8
                          have HB8:=Lib.hid ((HBU.out.alloc HBU.out.size (.cells #[.int .i64 (i:Int)] 3)).grown hg8 (by simp;have:=HBU.out.size;omega) (fun j e=>hown.ltB j e))
                          have HO8:=Lib.hid hO8
                          clear hO8 hg8 hA8 hown hrd7)
             go_roundw
             all_goals first
              | (simp [intOf];omega)
              | exact ⟨i+1,A2,c2,by omega,by go_num,by rw [HX.out,List.length_append];rfl,(show Own _ _ _ _ _ _ _ _ _ by rw [HX.out,List.length_append];exact HO8.out),(show Below _ _ _ from HB8.out)⟩
      · have him:i=m:=by omega
        subst him
        have hil':¬(i:Int)<A.n:=(by have:=HA.out;omega)
        go_wp2
        go_ret2
        exact ⟨A',c',rfl,HB1.out.trans (hbv.out.mono HB1.out.size),hO.out.mono HB1.out.size⟩
end Go.Proofs.YtccabpahfmoamaaGreat
end

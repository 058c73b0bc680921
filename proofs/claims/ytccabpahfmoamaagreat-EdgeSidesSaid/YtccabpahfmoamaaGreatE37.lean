/- Contracts that the laws lean on: SidL. -/
import Derived.Test.YtccabpahfmoamaaGreatE27
import Derived.Test.YtccabpahfmoamaaGreatE36
import Derived.Test.YtccabpahfmoamaaGreatE26
section
namespace Go.Proofs.YtccabpahfmoamaaGreat
open Go.RowKit Go.Proofs Go.Shelf
def inT (t:Stretch) (i:Int):Bool:=decide (t.lo≤i)&&decide (i<t.hi)
def freeN (t:Stretch) (l:List Int):Nat:=(l.filter (inT t)).length
theorem freeN_succ {t:Stretch} {l:List Int} {k:Nat} {x:Int} (hx:l[k]? = some x):freeN t (l.take (k+1))=freeN t (l.take k)+if inT t x then 1 else 0:=by
 unfold freeN
 rw [List.take_add_one,hx,List.filter_append,List.length_append]
 congr 1
 cases h:inT t x<;>simp [h]
theorem range_between {a b:Nat} (hab:a≤b):∀ m:Nat,((List.range m).filter (fun i=>decide (a≤i)&&decide (i<b))).length=min b m-min a m
 | 0=>by simp
 | m+1=>by
   rw [List.range_succ,List.filter_append,List.length_append,range_between hab m]
   by_cases h:a≤m∧m<b
   · rw [List.filter_cons_of_pos (by simp [h.1,h.2])]
     simp
     omega
   · rw [List.filter_cons_of_neg (by simp only [Bool.and_eq_true,decide_eq_true_eq];exact h)]
     simp
     omega
theorem sides_law {m:Nat} {s t:Stretch} (h1:0≤s.lo) (h2:s.lo<s.hi) (h3:s.hi≤m) (h4:0≤t.lo) (h5:t.lo<t.hi) (h6:t.hi≤m):decide ((freeN t (bareS m [s]):Int)<t.hi-t.lo)=overB s t:=by
 have e1:freeN t (bareS m [s])=((List.range m).filter (fun i:Nat=>inT t i)).countP (fun i:Nat=> ¬inS i s=true):=by
  unfold freeN bareS
  rw [List.countP_eq_length_filter,List.filter_filter,List.filter_map,List.length_map,List.filter_filter]
  congr 1
  apply List.filter_congr
  intro i _
  simp [Bool.and_comm]
 have e2:((List.range m).filter (fun i:Nat=>inT t i)).length=(t.hi-t.lo).toNat:=by
  have:=range_between (a:=t.lo.toNat) (b:=t.hi.toNat) (by omega) m
  rw [show (fun i:Nat=>inT t i)=(fun i=>decide (t.lo.toNat≤i)&&decide (i<t.hi.toNat)) from funext fun i=>by
   unfold inT
   congr 1
   · exact decide_eq_decide.2 (by omega)
   · exact decide_eq_decide.2 (by omega)]
  omega
 have e3:=List.length_eq_countP_add_countP (fun i:Nat=>inS i s) (l:=(List.range m).filter (fun i:Nat=>inT t i))
 have e4:0<((List.range m).filter (fun i:Nat=>inT t i)).countP (fun i:Nat=>inS i s)↔overB s t=true:=by
  rw [List.countP_pos_iff]
  unfold overB
  rw [decide_eq_true_eq]
  constructor
  · rintro ⟨i,hi,hs⟩
    obtain ⟨_,hi2⟩:=List.mem_filter.1 hi
    unfold inT at hi2
    unfold inS inB at hs
    simp only [Bool.and_eq_true,decide_eq_true_eq] at hi2 hs
    omega
  · intro h
    refine ⟨(max s.lo t.lo).toNat,List.mem_filter.2 ⟨List.mem_range.2 (by omega),?_⟩,?_⟩
    · unfold inT
      simp only [Bool.and_eq_true,decide_eq_true_eq]
      omega
    · unfold inS inB
      simp only [Bool.and_eq_true,decide_eq_true_eq]
      omega
 rw [Bool.eq_iff_iff,←e4,decide_eq_true_eq]
 simp only [Bool.not_eq_true] at e3 e1
 rw [e1]
 omega
theorem overB_turn (s t:Stretch):overB t s=overB s t:=by
 unfold overB
 rw [Int.max_comm,Int.min_comm]
set_option maxRecDepth 100000 in
set_option maxHeartbeats 8000000 in
theorem edgeSides_of (A:Outl) (AwA:Option Addr) (Awn Awc:Nat) (AtA:Option Addr) (Atn Atc:Nat) (s t:Stretch) (L:Option Addr) (n c:Nat) (l:List Stretch) (w:World) (Aw:InL encBound 4 w AwA Awn Awc A.ways) (At:InL encBound 4 w AtA Atn Atc A.turns) (YL:InL encStretch 2 w L n c l):
 Calls Tryz.prog 12 #[.agg #[.int .i64 A.n,.slice AwA Awn Awc,.slice AtA Atn Atc],.agg #[.int .i64 s.lo,.int .i64 s.hi],.agg #[.int .i64 t.lo,.int .i64 t.hi],.slice L n c] w fun e w'=>e = .returned (.bool true)∧Below w.heap.size w w':=by
 obtain ⟨wa,hwa,ba,hza,ea⟩:=alloc_facts w #[.int .i64 A.n,.slice AwA Awn Awc,.slice AtA Atn Atc] 24
 obtain ⟨wb,hwb,lb,zb,eb⟩:=alloc_facts wa #[.int .i64 s.lo,.int .i64 s.hi] 26
 obtain ⟨w1,hw1,l1,z1,e1⟩:=alloc_facts wb #[.int .i64 t.lo,.int .i64 t.hi] 26
 have hab:=ba.trans (lb.mono ba.size)
 have hb1:=hab.trans (l1.mono hab.size)
 have hz1:w1.heap.size=w.heap.size+1+1+1:=(by omega)
 rw [hza] at eb
 have ezb:wb.heap.size=w.heap.size+1+1:=(by omega)
 rw [ezb] at e1
 have HCE:Hid (∀ W,Below w1.heap.size w1 W→(W.cell? ⟨w.heap.size,0,none⟩=some (.int .i64 A.n)∧W.cell? ⟨w.heap.size,1,none⟩=some (.slice AwA Awn Awc)∧W.cell? ⟨w.heap.size,2,none⟩=some (.slice AtA Atn Atc))∧(W.cell? ⟨w.heap.size+1,0,none⟩=some (.int .i64 s.lo)∧W.cell? ⟨w.heap.size+1,1,none⟩=some (.int .i64 s.hi))∧W.cell? ⟨w.heap.size+1+1,0,none⟩=some (.int .i64 t.lo)∧W.cell? ⟨w.heap.size+1+1,1,none⟩=some (.int .i64 t.hi)):=(show ∀ W,_→_ from fun W h=>by
  have hbW:=l1.trans (h.mono l1.size)
  have hbV:=lb.trans (hbW.mono lb.size)
  have h1:=(hbV.block w.heap.size (by omega)).trans ea
  have h2:=(hbW.block (w.heap.size+1) (by omega)).trans eb
  have h3:=(h.block (w.heap.size+1+1) (by omega)).trans e1
  simp [World.cell?,h1,h2,h3])
 have HWA:=Lib.hid hwa
 have HWB:=Lib.hid hwb
 have HW1:=Lib.hid hw1
 have HB1:=Lib.hid hb1
 obtain ⟨⟨xa0,xa1,xa2⟩,⟨xs0,xs1⟩,xt0,xt1⟩:=HCE.out w1 (Below.refl _ _)
 clear hwa hwb hw1 ba ea lb zb eb l1 z1 e1 hab
 have KF:=Lib.hid (fun W=>few_any (.int .i64 A.n) AwA AtA Awn Awc Atn Atc W)
 by_cases hfe:(fewN Awn&&fewN Atn)=true
 case neg=>
  rw [Bool.not_eq_true] at hfe
  rw [hfe] at KF
  clear Aw At YL hfe hb1
  go_enter Tryz.func12,Tryz.ntmps12
  go_wp2_with (first
   | rw [HWA.out]
   | rw [HWB.out]
   | rw [HW1.out]
   | (go_at_call 16;(with_reducible refine (KF.out _).mono ?_);rintro e w2 ⟨rfl,hb2⟩
      have HC2:=Lib.hid hb2
      obtain ⟨⟨ca02,ca12,ca22⟩,⟨cs02,cs12⟩,ct02,ct12⟩:=HCE.out w2 HC2.out
      clear hb2)
   | (go_at_call 17;(with_reducible refine (joined_any _).mono ?_);rintro e w3 ⟨rfl,hb3⟩
      have HJ:=Lib.hid (HB1.out.trans ((HC2.out.trans (hb3.mono HC2.out.size)).mono HB1.out.size))
      clear hb3))
  go_ret
  exact ⟨rfl,HJ.out⟩
 case pos=>
 rw [hfe] at KF
 by_cases hfl:(110:Int)<n
 case pos=>
  clear Aw At YL hfe hb1
  go_enter Tryz.func12,Tryz.ntmps12
  go_wp2_with (first
   | rw [HWA.out]
   | rw [HWB.out]
   | rw [HW1.out]
   | (go_at_call 16;(with_reducible refine (KF.out _).mono ?_);rintro e w2 ⟨rfl,hb2⟩
      have HC2:=Lib.hid hb2
      obtain ⟨⟨ca02,ca12,ca22⟩,⟨cs02,cs12⟩,ct02,ct12⟩:=HCE.out w2 HC2.out
      clear hb2)
   | (go_at_call 17;(with_reducible refine (joined_any _).mono ?_);rintro e w3 ⟨rfl,hb3⟩
      have HJ:=Lib.hid (HB1.out.trans ((HC2.out.trans (hb3.mono HC2.out.size)).mono HB1.out.size))
      clear hb3))
  go_ret
  exact ⟨rfl,HJ.out⟩
 case neg=>
  obtain ⟨f1,f2⟩:=Bool.and_eq_true_iff.1 hfe
  have f3:=fewN_iff.1 f1
  have f4:=fewN_iff.1 f2
  have ra:=Aw.2 (by omega);have rt:=At.2 (by omega);have rl:=YL.2 (by omega)
  have KB:Hid (∀ (L:Option Addr) (n c:Nat) (l:List Stretch) W,Below w1.heap.size w1 W→Rd encStretch 2 W L n c l→Calls Tryz.prog 50 #[.agg #[.int .i64 A.n,.slice AwA Awn Awc,.slice AtA Atn Atc],.slice L n c] W fun e w'=> ∃ A' c',e = .returned (.tuple #[.slice A' (bareV A l).length c',.int .i64 (bareErr A l)])∧Below W.heap.size W w'∧Own encInt 1 3 W.heap.size w' A' (bareV A l).length c' (bareV A l)):=(show ∀ (L:Option Addr) (n c:Nat) (l:List Stretch) W,_→_→_ from fun L n c l W hW hL=>BareE_any A AwA Awn Awc AtA Atn Atc L n c l W ((ra.below hb1 (Nat.le_refl _)).below hW (Nat.le_refl _)) ((rt.below hb1 (Nat.le_refl _)).below hW (Nat.le_refl _)) hL)
  have KR:Hid (∀ W,Below w1.heap.size w1 W→Calls Tryz.prog 51 #[.agg #[.int .i64 A.n,.slice AwA Awn Awc,.slice AtA Atn Atc],.slice L n c] W fun e w'=> ∃ A' c',e = .returned (.tuple #[.slice A' (bareV A l).length c',.int .i64 (bareErr A l)])∧Below W.heap.size W w'∧Own encInt 1 3 W.heap.size w' A' (bareV A l).length c' (bareV A l)):=(show ∀ W,_→_ from fun W hW=>r3Bare_any A AwA Awn Awc AtA Atn Atc L n c l W ((ra.below hb1 (Nat.le_refl _)).below hW (Nat.le_refl _)) ((rt.below hb1 (Nat.le_refl _)).below hW (Nat.le_refl _)) ((rl.below hb1 (Nat.le_refl _)).below hW (Nat.le_refl _)))
  have KB1:=Lib.hid (fun W hW=>KB.out L n c l W hW ((rl.below hb1 (Nat.le_refl _)).below hW (Nat.le_refl _)))
  have hvl:(bareV A l).length≤1000:=by
   unfold bareV
   split
   · rename_i h0
     have h1:checkOut A=0:=by
      unfold bareErr at h0
      split at h0
      · rename_i hc;exact absurd h0 hc
      · rename_i hc;omega
     have:=(checkOut_zero.1 h1).2.1
     have:=bareS_len A.n.toNat l
     omega
   · simp
  have KB2:Hid (∀ (g:Nat) W,Below w1.heap.size w1 W→W.heap[g]? = some (.cells #[.int .i64 s.lo,.int .i64 s.hi] 26 (0,0))→Calls Tryz.prog 50 #[.agg #[.int .i64 A.n,.slice AwA Awn Awc,.slice AtA Atn Atc],.slice (some ⟨g,0,none⟩) 1 1] W fun e w'=> ∃ A' c',e = .returned (.tuple #[.slice A' (bareV A [s]).length c',.int .i64 (bareErr A [s])])∧Below W.heap.size W w'∧Own encInt 1 3 W.heap.size w' A' (bareV A [s]).length c' (bareV A [s])):=(show ∀ g W,_→_→_ from fun g W hW hg=>KB.out _ 1 1 [s] W hW ⟨rfl,by omega,⟨by omega,by omega⟩,fun _=>⟨g,0,rfl,(Array.getElem?_eq_some_iff.1 hg).1,fun i x hx j u hu=>by
   match i,hx with
   | 0,hx=>
     cases hx
     match j,hu with
     | 0,hu=>cases hu;simp [World.cell?,hg]
     | 1,hu=>cases hu;simp [World.cell?,hg]⟩⟩)
  have HOT:=Lib.hid (overB_turn s t)
  have HSO:Hid (bareErr A [s]=0→0≤s.lo∧s.lo<s.hi∧s.hi≤A.n∧A.n≤16∧3≤A.n∧bareV A [s]=bareS A.n.toNat [s]):=(show _→_ from fun h0=>by
   have hv:bareV A [s]=bareS A.n.toNat [s]:=if_pos h0
   unfold bareErr at h0
   split at h0
   · rename_i hc;exact absurd h0 hc
   · rename_i hc
     have h1:=checkOut_zero.1 (show checkOut A=0 by omega)
     split at h0
     · cases h0
     · split at h0
       · cases h0
       · rename_i hq
         simp only [List.any_cons,List.any_nil,Bool.or_false,Bool.not_eq_true',Bool.not_eq_false] at hq
         have:=ofB_iff.1 hq
         exact ⟨this.1,this.2.1,this.2.2,h1.2.1,h1.1,hv⟩)
  have hkey:∀ F:Nat,bareErr A [s]=0→0≤t.lo→t.lo<t.hi→t.hi≤A.n→F=freeN t (bareV A [s])→decide ((F:Int)<t.hi-t.lo)=overB s t:=fun F h0 h1 h2 h3 h4=>by
   obtain ⟨s0,s1,s2,s3,s4,s5⟩:=HSO.out h0
   rw [h4,s5]
   exact sides_law s0 s1 (by omega) h1 h2 (by omega)
  have HK:=Lib.hid hkey
  have HL2:Hid (bareErr A [s]=0→(bareV A [s]).length≤16):=(show _→_ from fun h0=>by
   obtain ⟨s0,s1,s2,s3,s4,s5⟩:=HSO.out h0
   rw [s5]
   have:=bareS_len A.n.toNat [s]
   omega)
  clear Aw At YL hfe hb1 f1 f2 f3 f4 ra rt rl KB hkey
  have hdd:decide (bareV A l=bareV A l)=true:=decide_eq_true rfl
  have hee:(bareErr A l != bareErr A l)=false:=(by simp)
  generalize bareV A l=V at *
  generalize bareErr A l=ev at *
  generalize bareV A [s]=U at *
  obtain ⟨eu,heu⟩:∃ eu,bareErr A [s]=eu:=⟨_,rfl⟩
  rw [heu] at KB2 HSO HK HL2
  obtain ⟨ov,hov⟩:∃ ov,overB s t=ov:=⟨_,rfl⟩
  have KO:Hid (∀ W,Calls Tryz.prog 52 #[.agg #[.int .i64 s.lo,.int .i64 s.hi],.agg #[.int .i64 t.lo,.int .i64 t.hi]] W fun e w'=>e = .returned (.bool ov)∧Below W.heap.size W w'):=(show ∀ W,_ from fun W=>by rw [←hov];exact OverlapE_any s t W)
  have KO2:Hid (∀ W,Calls Tryz.prog 52 #[.agg #[.int .i64 t.lo,.int .i64 t.hi],.agg #[.int .i64 s.lo,.int .i64 s.hi]] W fun e w'=>e = .returned (.bool ov)∧Below W.heap.size W w'):=(show ∀ W,_ from fun W=>by rw [←hov,←HOT.out];exact OverlapE_any t s W)
  have KO3:Hid (∀ W,Calls Tryz.prog 53 #[.agg #[.int .i64 s.lo,.int .i64 s.hi],.agg #[.int .i64 t.lo,.int .i64 t.hi]] W fun e w'=>e = .returned (.bool ov)∧Below W.heap.size W w'):=(show ∀ W,_ from fun W=>by rw [←hov];exact r3Overlap_any s t W)
  rw [hov] at HK
  have hoo:(ov != ov)=false:=(by simp)
  clear heu hov HOT
  have HSM:Hid (∀ (X:Option Addr) (k1:Nat) (Y:Option Addr) (k2:Nat) W,Rd encInt 1 W X V.length k1 V→Rd encInt 1 W Y V.length k2 V→Calls Tryz.prog 24 #[.slice X V.length k1,.slice Y V.length k2] W fun e w'=>e = .returned (.bool true)∧Below W.heap.size W w'):=(show ∀ X k1 Y k2 W,_→_→_ from fun X k1 Y k2 W h1 h2=>by
   have:=same_any X V.length k1 V Y V.length k2 V W h1 h2
   rw [hdd] at this
   exact this)
  clear hdd
  by_cases g1:eu=0∧0≤t.lo∧t.lo<t.hi∧t.hi≤A.n
  case neg=>
   rcases (show (eu != 0)=true∨(eu=0∧t.lo<0)∨(eu=0∧¬t.lo<0∧t.lo≥t.hi)∨(eu=0∧¬t.lo<0∧¬t.lo≥t.hi∧t.hi>A.n) from by
    by_cases q:eu=0
    · right;omega
    · left;simpa using q) with gg|⟨rfl,gg⟩|⟨rfl,gg,gg2⟩|⟨rfl,gg,gg2,gg3⟩
   all_goals (
    clear g1
    go_enter Tryz.func12,Tryz.ntmps12
    go_wp2_with (first
     | rw [HWA.out]
     | rw [HWB.out]
     | rw [HW1.out]
     | (go_at_call 16;(with_reducible refine (KF.out _).mono ?_);rintro e w2 ⟨rfl,hb2⟩
        have HC2:=Lib.hid hb2
        obtain ⟨⟨ca02,ca12,ca22⟩,⟨cs02,cs12⟩,ct02,ct12⟩:=HCE.out w2 HC2.out
        clear hb2)
     | (go_at_call 50;(with_reducible refine (KB1.out _ HC2.out).mono ?_);rintro e w3 ⟨X1,k1,rfl,hb3,ho3⟩
        have HC3:=Lib.hid (HC2.out.trans (hb3.mono HC2.out.size))
        have HO3:=Lib.hid ho3
        obtain ⟨⟨ca03,ca13,ca23⟩,⟨cs03,cs13⟩,ct03,ct13⟩:=HCE.out w3 HC3.out
        clear hb3 ho3)
     | (go_at_call 51;(with_reducible refine (KR.out _ HC3.out).mono ?_);rintro e w4 ⟨X2,k2,rfl,hb4,ho4⟩
        have HC4:=Lib.hid (HC3.out.trans (hb4.mono HC3.out.size))
        have HO34:=Lib.hid (HO3.out.below hb4 (Nat.le_refl _))
        have HO4:=Lib.hid ho4
        obtain ⟨⟨ca04,ca14,ca24⟩,⟨cs04,cs14⟩,ct04,ct14⟩:=HCE.out w4 HC4.out
        clear hb4 ho4)
     | (go_at_call 52;(with_reducible refine (KO.out _).mono ?_);rintro e w5 ⟨rfl,hb5⟩
        have HC5:=Lib.hid (HC4.out.trans (hb5.mono HC4.out.size))
        have RS1:=Lib.hid ((HO34.out.below hb5 (Nat.le_refl _)).rd (fun _=>rfl) (by omega))
        have RS2:=Lib.hid ((HO4.out.below hb5 (Nat.le_refl _)).rd (fun _=>rfl) (by omega))
        obtain ⟨⟨ca05,ca15,ca25⟩,⟨cs05,cs15⟩,ct05,ct15⟩:=HCE.out w5 HC5.out
        clear hb5)
     | (go_at_call 24;(with_reducible refine (HSM.out X1 k1 X2 k2 _ RS1.out RS2.out).mono ?_);rintro e w6 ⟨rfl,hb6⟩
        have HC6:=Lib.hid (HC5.out.trans (hb6.mono HC5.out.size))
        obtain ⟨⟨ca06,ca16,ca26⟩,⟨cs06,cs16⟩,ct06,ct16⟩:=HCE.out w6 HC6.out
        clear hb6)
     | (go_at_call 53;(with_reducible refine (KO3.out _).mono ?_);rintro e w7 ⟨rfl,hb7⟩
        have HC7:=Lib.hid (HC6.out.trans (hb7.mono HC6.out.size))
        obtain ⟨⟨ca07,ca17,ca27⟩,⟨cs07,cs17⟩,ct07,ct17⟩:=HCE.out w7 HC7.out
        clear hb7)
     | (go_at_call 52;(with_reducible refine (KO2.out _).mono ?_);rintro e w8 ⟨rfl,hb8⟩
        have HC8:=Lib.hid (HC7.out.trans (hb8.mono HC7.out.size))
        obtain ⟨⟨ca08,ca18,ca28⟩,⟨cs08,cs18⟩,ct08,ct18⟩:=HCE.out w8 HC8.out
        obtain ⟨w9,a9,b9,z9,e9⟩:=alloc_facts w8 #[.int .i64 s.lo,.int .i64 s.hi] 26
        have HC9:=Lib.hid (HC8.out.trans (b9.mono HC8.out.size))
        have HA9:=Lib.hid a9
        have KBB:=Lib.hid (KB2.out w8.heap.size w9 HC9.out e9)
        clear hb8 a9 b9 z9 e9)
     | rw [HA9.out]
     | (go_at_call 50;(with_reducible refine KBB.out.mono ?_);rintro e w10 ⟨X3,k3,rfl,hb10,ho10⟩
        have HC10:=Lib.hid (HC9.out.trans (hb10.mono HC9.out.size))
        have HO10:=Lib.hid ho10
        obtain ⟨⟨ca010,ca110,ca210⟩,⟨cs010,cs110⟩,ct010,ct110⟩:=HCE.out w10 HC10.out
        clear hb10 ho10)
     | (go_at_call 17;(with_reducible refine (joined_any _).mono ?_);rintro e w11 ⟨rfl,hb11⟩
        have HJ:=Lib.hid (HB1.out.trans ((HC10.out.trans (hb11.mono HC10.out.size)).mono HB1.out.size))
        clear hb11))
    go_ret
    exact ⟨rfl,HJ.out⟩)
  case pos=>
   obtain ⟨rfl,g2,g3,g4⟩:=g1
   have g5:¬t.lo<0:=(by omega)
   have g6:¬t.lo≥t.hi:=(by omega)
   have g7:¬t.hi>A.n:=(by omega)
   have hul:U.length≤16:=HL2.out rfl
   have h16:=(HSO.out rfl).2.2.2.1
   have hsub:IntKind.i64.wrap (t.hi-t.lo)=t.hi-t.lo:=(by rw [IntKind.wrap_i64];omega)
   have HG:Hid (∀ F:Nat,F=freeN t U→decide ((F:Int)<t.hi-t.lo)=ov):=(show ∀ F:Nat,_→_ from fun F h=>HK.out F rfl g2 g3 g4 h)
   clear HK HL2 HSO h16
   go_enter Tryz.func12,Tryz.ntmps12
   go_wp2_with (first
    | rw [HWA.out]
    | rw [HWB.out]
    | rw [HW1.out]
    | (go_at_call 16;(with_reducible refine (KF.out _).mono ?_);rintro e w2 ⟨rfl,hb2⟩
       have HC2:=Lib.hid hb2
       obtain ⟨⟨ca02,ca12,ca22⟩,⟨cs02,cs12⟩,ct02,ct12⟩:=HCE.out w2 HC2.out
       clear hb2)
    | (go_at_call 50;(with_reducible refine (KB1.out _ HC2.out).mono ?_);rintro e w3 ⟨X1,k1,rfl,hb3,ho3⟩
       have HC3:=Lib.hid (HC2.out.trans (hb3.mono HC2.out.size))
       have HO3:=Lib.hid ho3
       obtain ⟨⟨ca03,ca13,ca23⟩,⟨cs03,cs13⟩,ct03,ct13⟩:=HCE.out w3 HC3.out
       clear hb3 ho3)
    | (go_at_call 51;(with_reducible refine (KR.out _ HC3.out).mono ?_);rintro e w4 ⟨X2,k2,rfl,hb4,ho4⟩
       have HC4:=Lib.hid (HC3.out.trans (hb4.mono HC3.out.size))
       have HO34:=Lib.hid (HO3.out.below hb4 (Nat.le_refl _))
       have HO4:=Lib.hid ho4
       obtain ⟨⟨ca04,ca14,ca24⟩,⟨cs04,cs14⟩,ct04,ct14⟩:=HCE.out w4 HC4.out
       clear hb4 ho4)
    | (go_at_call 52;(with_reducible refine (KO.out _).mono ?_);rintro e w5 ⟨rfl,hb5⟩
       have HC5:=Lib.hid (HC4.out.trans (hb5.mono HC4.out.size))
       have RS1:=Lib.hid ((HO34.out.below hb5 (Nat.le_refl _)).rd (fun _=>rfl) (by omega))
       have RS2:=Lib.hid ((HO4.out.below hb5 (Nat.le_refl _)).rd (fun _=>rfl) (by omega))
       obtain ⟨⟨ca05,ca15,ca25⟩,⟨cs05,cs15⟩,ct05,ct15⟩:=HCE.out w5 HC5.out
       clear hb5)
    | (go_at_call 24;(with_reducible refine (HSM.out X1 k1 X2 k2 _ RS1.out RS2.out).mono ?_);rintro e w6 ⟨rfl,hb6⟩
       have HC6:=Lib.hid (HC5.out.trans (hb6.mono HC5.out.size))
       obtain ⟨⟨ca06,ca16,ca26⟩,⟨cs06,cs16⟩,ct06,ct16⟩:=HCE.out w6 HC6.out
       clear hb6)
    | (go_at_call 53;(with_reducible refine (KO3.out _).mono ?_);rintro e w7 ⟨rfl,hb7⟩
       have HC7:=Lib.hid (HC6.out.trans (hb7.mono HC6.out.size))
       obtain ⟨⟨ca07,ca17,ca27⟩,⟨cs07,cs17⟩,ct07,ct17⟩:=HCE.out w7 HC7.out
       clear hb7)
    | (go_at_call 52;(with_reducible refine (KO2.out _).mono ?_);rintro e w8 ⟨rfl,hb8⟩
       have HC8:=Lib.hid (HC7.out.trans (hb8.mono HC7.out.size))
       obtain ⟨⟨ca08,ca18,ca28⟩,⟨cs08,cs18⟩,ct08,ct18⟩:=HCE.out w8 HC8.out
       obtain ⟨w9,a9,b9,z9,e9⟩:=alloc_facts w8 #[.int .i64 s.lo,.int .i64 s.hi] 26
       have HC9:=Lib.hid (HC8.out.trans (b9.mono HC8.out.size))
       have HA9:=Lib.hid a9
       have KBB:=Lib.hid (KB2.out w8.heap.size w9 HC9.out e9)
       clear hb8 a9 b9 z9 e9)
    | rw [HA9.out]
    | (go_at_call 50;(with_reducible refine KBB.out.mono ?_);rintro e w10 ⟨X3,k3,rfl,hb10,ho10⟩
       have HC10:=Lib.hid (HC9.out.trans (hb10.mono HC9.out.size))
       have HO10:=Lib.hid ho10
       obtain ⟨⟨ca010,ca110,ca210⟩,⟨cs010,cs110⟩,ct010,ct110⟩:=HCE.out w10 HC10.out
       clear hb10 ho10))
   go_loopw [16,17] (fun s16 s17 wr=> ∃ k:Nat,k≤U.length∧s16 = .int .i64 (freeN t (U.take k))∧s17 = .int .i64 k∧Hid (Below w10.heap.size w10 wr)) (fun _ s17 _=>U.length-(intOf s17).toNat)
   case atStart=>exact ⟨0,by omega,rfl,rfl,(show Below _ _ _ from Below.refl _ _)⟩
   case round=>
    obtain ⟨k,hk,rfl,rfl,hbr⟩:=hrel
    have HCR:=Lib.hid (HC10.out.trans (hbr.out.mono HC10.out.size))
    obtain ⟨⟨ya0,ya1,ya2⟩,⟨ys0,ys1⟩,yt0,yt1⟩:=HCE.out wr HCR.out
    have hfl:freeN t (U.take k)≤k:=(by unfold freeN;exact Nat.le_trans (List.length_filter_le _ _) (by rw [List.length_take];omega))
    by_cases hlt:k<U.length
    · obtain ⟨b,off,x,rfl,hbw,hx,hcell⟩:=((HO10.out.below hbr.out (Nat.le_refl _)).rd (fun _=>rfl) (by omega)).one hlt
      have q0:wr.cell? ⟨b,off+k,none⟩=some (.int .i64 x):=(by have:=hcell 0 (.int .i64 x) rfl;simpa using this)
      have HF:=Lib.hid (freeN_succ (t:=t) hx)
      clear hcell hx
      generalize freeN t (U.take k)=F at *
      by_cases r1:t.lo≤x
      · have d1:decide (x≥t.lo)=true:=decide_eq_true r1
        by_cases r2:x<t.hi
        · have HN:Hid (freeN t (U.take (k+1))=F+1):=(show _=_ by rw [HF.out];simp [inT,r1,r2])
          have d2:decide (x<t.hi)=true:=decide_eq_true r2
          clear HF
          go_wp2_with (go_quiet (fail))
          go_roundw
          all_goals first
           | (simp [intOf];omega)
           | exact ⟨k+1,by omega,by rw [HN.out];go_num,by go_num,(show Below _ _ _ from by first|exact hbr.out|exact hbr.out.drew|exact below_drewN' hbr.out _)⟩
        · have HN:Hid (freeN t (U.take (k+1))=F):=(show _=_ by rw [HF.out];simp [inT,r2])
          have d2:decide (x<t.hi)=false:=decide_eq_false r2
          clear HF
          go_wp2_with (go_quiet (fail))
          go_roundw
          all_goals first
           | (simp [intOf];omega)
           | exact ⟨k+1,by omega,by rw [HN.out],by go_num,(show Below _ _ _ from by first|exact hbr.out|exact hbr.out.drew|exact below_drewN' hbr.out _)⟩
      · have HN:Hid (freeN t (U.take (k+1))=F):=(show _=_ by rw [HF.out];simp [inT,r1])
        have d1:decide (x≥t.lo)=false:=decide_eq_false r1
        clear HF
        go_wp2_with (go_quiet (fail))
        go_roundw
        all_goals first
         | (simp [intOf];omega)
         | exact ⟨k+1,by omega,by rw [HN.out],by go_num,(show Below _ _ _ from by first|exact hbr.out|exact hbr.out.drew|exact below_drewN' hbr.out _)⟩
    · have hku:k=U.length:=by omega
      subst hku
      rw [List.take_length] at hfl ⊢
      have hg:=HG.out _ rfl
      generalize freeN t U=F at *
      go_wp2_with (first
       | (go_at_call 17;(with_reducible refine (joined_any _).mono ?_);rintro e w11 ⟨rfl,hb11⟩
          have HJ:=Lib.hid (HB1.out.trans ((HCR.out.trans (hb11.mono HCR.out.size)).mono HB1.out.size))
          obtain ⟨_,_,vt0,vt1⟩:=HCE.out w11 (HCR.out.trans (hb11.mono HCR.out.size))
          clear hb11))
      go_ret
      exact ⟨by simp,HJ.out⟩
end Go.Proofs.YtccabpahfmoamaaGreat
end

/- Contracts that the laws lean on: FitL. -/
import Derived.Test.YtccabpahfmoamaaGreatE27
import Derived.Test.YtccabpahfmoamaaGreatE36
import Derived.Test.YtccabpahfmoamaaGreatE40
import Derived.Test.YtccabpahfmoamaaGreatE26
section
namespace Go.Proofs.YtccabpahfmoamaaGreat
open Go.RowKit Go.Proofs Go.Shelf
theorem fitV_len (A B:Outl) (p:Pairing) (turned:Bool):(fitV A B p turned).2.length≤400:=by
 unfold fitV
 split
 · rename_i h
   unfold fitErr at h
   split at h
   · rename_i h1;exact absurd h h1
   · split at h
     · cases h
     · simp only;omega
 · simp
set_option maxRecDepth 100000 in
set_option maxHeartbeats 8000000 in
theorem edgeFits_of (A:Outl) (AwA:Option Addr) (Awn Awc:Nat) (AtA:Option Addr) (Atn Atc:Nat) (B:Outl) (BwA:Option Addr) (Bwn Bwc:Nat) (BtA:Option Addr) (Btn Btc:Nat) (p:Pairing) (turned:Bool) (w:World) (Aw:InL encBound 4 w AwA Awn Awc A.ways) (At:InL encBound 4 w AtA Atn Atc A.turns) (Bw:InL encBound 4 w BwA Bwn Bwc B.ways) (Bt:InL encBound 4 w BtA Btn Btc B.turns):
 Calls Tryz.prog 11 #[.agg #[.int .i64 A.n,.slice AwA Awn Awc,.slice AtA Atn Atc],.agg #[.int .i64 B.n,.slice BwA Bwn Bwc,.slice BtA Btn Btc],.agg #[.int .i64 p.a.lo,.int .i64 p.a.hi,.int .i64 p.b.lo,.int .i64 p.b.hi],.bool turned] w fun e w'=>e = .returned (.bool true)∧Below w.heap.size w w':=by
 obtain ⟨w1,hw1,hb1,hz1,hbx⟩:=boxABP w A AwA Awn Awc AtA Atn Atc B BwA Bwn Bwc BtA Btn Btc p
 have HCE:Hid (∀ W,Below w1.heap.size w1 W→BoxABP w.heap.size A AwA Awn Awc AtA Atn Atc B BwA Bwn Bwc BtA Btn Btc p W):=(show ∀ W,_→_ from hbx)
 have HW1:=Lib.hid hw1
 have HB1:=Lib.hid hb1
 have KF1:=Lib.hid (fun W=>few_any (.int .i64 A.n) AwA AtA Awn Awc Atn Atc W)
 have KF2:=Lib.hid (fun W=>few_any (.int .i64 B.n) BwA BtA Bwn Bwc Btn Btc W)
 obtain ⟨xa0,xa1,xa2,xb0,xb1,xb2,xp0,xp1,xp2,xp3⟩:=hbx w1 (Below.refl _ _)
 clear hw1 hbx
 by_cases hf1:(fewN Awn&&fewN Atn)=true
 case neg=>
  rw [Bool.not_eq_true] at hf1
  rw [hf1] at KF1
  clear Aw At Bw Bt hf1 hb1
  go_enter Tryz.func11,Tryz.ntmps11
  go_wp2_with (first
   | rw [HW1.out]
   | (go_at_call 16;(with_reducible refine (KF1.out _).mono ?_);rintro e w2 ⟨rfl,hb2⟩
      have HC2:=Lib.hid hb2
      obtain ⟨ca02,ca12,ca22,cb02,cb12,cb22,cp02,cp12,cp22,cp32⟩:=HCE.out w2 HC2.out
      clear hb2)
   | (go_at_call 17;(with_reducible refine (joined_any _).mono ?_);rintro e w4 ⟨rfl,hb4⟩
      have HJ:=Lib.hid (HB1.out.trans ((HC2.out.trans (hb4.mono HC2.out.size)).mono HB1.out.size))
      clear hb4))
  go_ret
  exact ⟨rfl,HJ.out⟩
 case pos=>
 rw [hf1] at KF1
 by_cases hf2:(fewN Bwn&&fewN Btn)=true
 case neg=>
  rw [Bool.not_eq_true] at hf2
  rw [hf2] at KF2
  clear Aw At Bw Bt hf1 hf2 hb1
  go_enter Tryz.func11,Tryz.ntmps11
  go_wp2_with (first
   | rw [HW1.out]
   | (go_at_call 16;(with_reducible refine (KF1.out _).mono ?_);rintro e w2 ⟨rfl,hb2⟩
      have HC2:=Lib.hid hb2
      obtain ⟨ca02,ca12,ca22,cb02,cb12,cb22,cp02,cp12,cp22,cp32⟩:=HCE.out w2 HC2.out
      clear hb2)
   | (go_at_call 16;(with_reducible refine (KF2.out _).mono ?_);rintro e w3 ⟨rfl,hb3⟩
      have HC3:=Lib.hid (HC2.out.trans (hb3.mono HC2.out.size))
      obtain ⟨ca03,ca13,ca23,cb03,cb13,cb23,cp03,cp13,cp23,cp33⟩:=HCE.out w3 HC3.out
      clear hb3)
   | (go_at_call 17;(with_reducible refine (joined_any _).mono ?_);rintro e w4 ⟨rfl,hb4⟩
      have HJ:=Lib.hid (HB1.out.trans ((HC3.out.trans (hb4.mono HC3.out.size)).mono HB1.out.size))
      clear hb4))
  go_ret
  exact ⟨rfl,HJ.out⟩
 case pos=>
  rw [hf2] at KF2
  obtain ⟨f1,f2⟩:=Bool.and_eq_true_iff.1 hf1
  obtain ⟨f3,f4⟩:=Bool.and_eq_true_iff.1 hf2
  have f5:=fewN_iff.1 f1;have f6:=fewN_iff.1 f2;have f7:=fewN_iff.1 f3;have f8:=fewN_iff.1 f4
  have ra:=Aw.2 (by omega);have rt:=At.2 (by omega);have rb:=Bw.2 (by omega);have ru:=Bt.2 (by omega)
  have KE:Hid (∀ W,Below w1.heap.size w1 W→Calls Tryz.prog 47 #[.agg #[.int .i64 A.n,.slice AwA Awn Awc,.slice AtA Atn Atc],.agg #[.int .i64 B.n,.slice BwA Bwn Bwc,.slice BtA Btn Btc],.agg #[.int .i64 p.a.lo,.int .i64 p.a.hi,.int .i64 p.b.lo,.int .i64 p.b.hi],.bool turned] W fun e w'=> ∃ A' c',e = .returned (.tuple #[.agg #[.int .i64 (fitV A B p turned).1,.slice A' (fitV A B p turned).2.length c'],.int .i64 (fitErr A B p turned)])∧Below W.heap.size W w'∧Own encBound 4 56 W.heap.size w' A' (fitV A B p turned).2.length c' (fitV A B p turned).2):=(show ∀ W,_→_ from fun W h=>FitE_any A AwA Awn Awc AtA Atn Atc B BwA Bwn Bwc BtA Btn Btc p turned W ((ra.below hb1 (Nat.le_refl _)).below h (Nat.le_refl _)) ((rt.below hb1 (Nat.le_refl _)).below h (Nat.le_refl _)) ((rb.below hb1 (Nat.le_refl _)).below h (Nat.le_refl _)) ((ru.below hb1 (Nat.le_refl _)).below h (Nat.le_refl _)))
  have KR:Hid (∀ W,Below w1.heap.size w1 W→Calls Tryz.prog 48 #[.agg #[.int .i64 A.n,.slice AwA Awn Awc,.slice AtA Atn Atc],.agg #[.int .i64 B.n,.slice BwA Bwn Bwc,.slice BtA Btn Btc],.agg #[.int .i64 p.a.lo,.int .i64 p.a.hi,.int .i64 p.b.lo,.int .i64 p.b.hi],.bool turned] W fun e w'=> ∃ A' c',e = .returned (.tuple #[.agg #[.int .i64 (fitV A B p turned).1,.slice A' (fitV A B p turned).2.length c'],.int .i64 (fitErr A B p turned)])∧Below W.heap.size W w'∧Own encBound 4 56 W.heap.size w' A' (fitV A B p turned).2.length c' (fitV A B p turned).2):=(show ∀ W,_→_ from fun W h=>r3Fit_any A AwA Awn Awc AtA Atn Atc B BwA Bwn Bwc BtA Btn Btc p turned W ((ra.below hb1 (Nat.le_refl _)).below h (Nat.le_refl _)) ((rt.below hb1 (Nat.le_refl _)).below h (Nat.le_refl _)) ((rb.below hb1 (Nat.le_refl _)).below h (Nat.le_refl _)) ((ru.below hb1 (Nat.le_refl _)).below h (Nat.le_refl _)))
  have hlen:=fitV_len A B p turned
  clear Aw At Bw Bt hf1 hf2 hb1 f1 f2 f3 f4 f5 f6 f7 f8 ra rt rb ru
  generalize fitV A B p turned=fv at *
  obtain ⟨N,L⟩:=fv
  generalize fitErr A B p turned=ev at *
  simp only at KE KR hlen
  have q1:(ev==ev)=true:=(by simp)
  have q2:(N==N)=true:=(by simp)
  go_enter Tryz.func11,Tryz.ntmps11
  go_wp2_with (first
   | rw [HW1.out]
   | (go_at_call 16;(with_reducible refine (KF1.out _).mono ?_);rintro e w2 ⟨rfl,hb2⟩
      have HC2:=Lib.hid hb2
      obtain ⟨ca02,ca12,ca22,cb02,cb12,cb22,cp02,cp12,cp22,cp32⟩:=HCE.out w2 HC2.out
      clear hb2)
   | (go_at_call 16;(with_reducible refine (KF2.out _).mono ?_);rintro e w3 ⟨rfl,hb3⟩
      have HC3:=Lib.hid (HC2.out.trans (hb3.mono HC2.out.size))
      obtain ⟨ca03,ca13,ca23,cb03,cb13,cb23,cp03,cp13,cp23,cp33⟩:=HCE.out w3 HC3.out
      clear hb3)
   | (go_at_call 47;(with_reducible refine (KE.out _ HC3.out).mono ?_);rintro e w4 ⟨A4,c4,rfl,hb4,ho4⟩
      obtain ⟨w5,a5,b5,z5,e5⟩:=alloc_facts w4 #[.int .i64 N,.slice A4 L.length c4] 73
      have HC5:=Lib.hid (HC3.out.trans ((hb4.trans (b5.mono hb4.size)).mono HC3.out.size))
      have HA5:=Lib.hid a5
      have HE5:=Lib.hid e5
      have Z5:Hid (w5.heap.size=w4.heap.size+1):=(show _=_ from z5)
      have HR5:=Lib.hid ((ho4.below b5 (Nat.le_refl _)).rd (fun _=>rfl) (by omega))
      obtain ⟨ca05,ca15,ca25,cb05,cb15,cb25,cp05,cp15,cp25,cp35⟩:=HCE.out w5 HC5.out
      clear hb4 ho4 a5 b5 z5 e5)
   | rw [HA5.out]
   | (go_at_call 48;(with_reducible refine (KR.out _ HC5.out).mono ?_);rintro e w6 ⟨A6,c6,rfl,hb6,ho6⟩
      obtain ⟨w7,a7,b7,z7,e7⟩:=alloc_facts w6 #[.int .i64 N,.slice A6 L.length c6] 73
      have hb67:=hb6.trans (b7.mono hb6.size)
      have HC7:=Lib.hid (HC5.out.trans (hb67.mono HC5.out.size))
      have HA7:=Lib.hid a7
      have HR7:=Lib.hid ((ho6.below b7 (Nat.le_refl _)).rd (fun _=>rfl) (by omega))
      have HR57:=Lib.hid (HR5.out.below hb67 (Nat.le_refl _))
      have hh5:=(hb67.block w4.heap.size (by have:=Z5.out;omega)).trans HE5.out
      have HK7:Hid (∀ W,Below w7.heap.size w7 W→(W.cell? ⟨w4.heap.size,0,none⟩=some (.int .i64 N)∧W.cell? ⟨w4.heap.size,1,none⟩=some (.slice A4 L.length c4))∧(W.cell? ⟨w6.heap.size,0,none⟩=some (.int .i64 N)∧W.cell? ⟨w6.heap.size,1,none⟩=some (.slice A6 L.length c6))):=(show ∀ W,_→_ from fun W hW=>by
       have q1:=(hW.block w4.heap.size (by have:=hb67.size;have:=Z5.out;omega)).trans hh5
       have q2:=(hW.block w6.heap.size (by omega)).trans e7
       simp [World.cell?,q1,q2])
      clear hb6 ho6 a7 b7 z7 e7 hh5 hb67)
   | rw [HA7.out]
   | (go_at_call 17;(with_reducible refine (joined_any _).mono ?_);rintro e w8 ⟨rfl,hb8⟩
      have HC8:=Lib.hid (HC7.out.trans (hb8.mono HC7.out.size))
      have HSB:Hid (Calls Tryz.prog 49 #[.slice A4 L.length c4,.slice A6 L.length c6] w8 fun e w'=>e = .returned (.bool true)∧Below w8.heap.size w8 w'):=(show Calls _ _ _ _ _ from (sameBd_any A4 L.length c4 L A6 L.length c6 L w8 (HR57.out.below hb8 (Nat.le_refl _)) (HR7.out.below hb8 (Nat.le_refl _))).mono fun e w' h=>⟨h.1.trans (by simp),h.2⟩)
      obtain ⟨⟨r0,r1⟩,r2,r3⟩:=HK7.out w8 hb8
      clear hb8)
   | (go_at_call 49;(with_reducible refine (HSB.out).mono ?_);rintro e w9 ⟨rfl,hb9⟩
      have HJ:=Lib.hid (HB1.out.trans ((HC8.out.trans (hb9.mono HC8.out.size)).mono HB1.out.size))
      clear hb9))
  go_ret
  exact ⟨rfl,HJ.out⟩
end Go.Proofs.YtccabpahfmoamaaGreat
end

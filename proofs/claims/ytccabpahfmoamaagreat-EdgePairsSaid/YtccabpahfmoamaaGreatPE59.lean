/- Contracts that the laws lean on: PrsL. -/
import Derived.Test.YtccabpahfmoamaaGreatPE58
set_option maxRecDepth 100000
set_option maxHeartbeats 8000000
section
namespace Go.Proofs.YtccabpahfmoamaaGreat
open Go.RowKit Go.Proofs Go.Shelf
theorem pairsV_len {A B:Outl} {s:Int} (h1:A.n≤16) (h2:B.n≤16):(pairsV A B s).length≤256:=by
 unfold pairsV
 split
 · exact meetL_len A B s (by omega) h1 h2
 · simp
theorem maxV_len {A B:Outl} (h1:A.n≤16) (h2:B.n≤16):(maxV A B).length≤4096:=by
 unfold maxV
 split
 · have:=mxTo_len (A:=A) (B:=B) h1 h2 16 (by omega)
   rw [mxTo_max] at this
   omega
 · simp
theorem edgePairs_of (A:Outl) (AwA:Option Addr) (Awn Awc:Nat) (AtA:Option Addr) (Atn Atc:Nat) (B:Outl) (BwA:Option Addr) (Bwn Bwc:Nat) (BtA:Option Addr) (Btn Btc:Nat) (s:Int) (w:World) (hsz:Awn≤17592186044416∧Atn≤17592186044416∧Bwn≤17592186044416∧Btn≤17592186044416) (Aw:InL encBound 4 w AwA Awn Awc A.ways) (At:InL encBound 4 w AtA Atn Atc A.turns) (Bw:InL encBound 4 w BwA Bwn Bwc B.ways) (Bt:InL encBound 4 w BtA Btn Btc B.turns):
 Calls Tryz.prog 10 #[.agg #[.int .i64 A.n,.slice AwA Awn Awc,.slice AtA Atn Atc],.agg #[.int .i64 B.n,.slice BwA Bwn Bwc,.slice BtA Btn Btc],.int .i64 s] w fun e w'=>e = .returned (.bool true)∧Below w.heap.size w w':=by
 obtain ⟨sz1,sz2,sz3,sz4⟩:=hsz
 obtain ⟨w1,hw1,hb1,hz1,hcx⟩:=boxAB w A AwA Awn Awc AtA Atn Atc B BwA Bwn Bwc BtA Btn Btc
 have HW1:=Lib.hid hw1
 have HB1:=Lib.hid hb1
 have HCE:Hid (∀ W,Below w1.heap.size w1 W→BoxAB w.heap.size A AwA Awn Awc AtA Atn Atc B BwA Bwn Bwc BtA Btn Btc W):=(show ∀ W,_→_ from hcx)
 obtain ⟨xa0,xa1,xa2,xb0,xb1,xb2⟩:=hcx w1 (Below.refl _ _)
 clear hw1 hcx
 by_cases g1:6<A.n
 case pos=>
  clear Aw At Bw Bt hb1 HCE
  go_enter Tryz.func10,Tryz.ntmps10
  go_wp2_with (first
   | rw [HW1.out]
   | (go_at_call 17;(with_reducible refine (joined_any _).mono ?_);rintro e w4 ⟨rfl,hb4⟩;have HJ:=Lib.hid (HB1.out.trans (hb4.mono HB1.out.size));clear hb4))
  go_ret
  exact ⟨rfl,HJ.out⟩
 case neg=>
 by_cases g2:6<B.n
 case pos=>
  clear Aw At Bw Bt hb1 HCE
  go_enter Tryz.func10,Tryz.ntmps10
  go_wp2_with (first
   | rw [HW1.out]
   | (go_at_call 17;(with_reducible refine (joined_any _).mono ?_);rintro e w4 ⟨rfl,hb4⟩;have HJ:=Lib.hid (HB1.out.trans (hb4.mono HB1.out.size));clear hb4))
  go_ret
  exact ⟨rfl,HJ.out⟩
 case neg=>
 by_cases g3:96<Awn+Atn+Bwn+Btn
 case pos=>
  have g4:(96:Int)<(Awn:Int)+Atn+Bwn+Btn:=(by omega)
  clear Aw At Bw Bt hb1 HCE
  go_enter Tryz.func10,Tryz.ntmps10
  go_wp2_with (first
   | rw [HW1.out]
   | (go_at_call 17;(with_reducible refine (joined_any _).mono ?_);rintro e w4 ⟨rfl,hb4⟩;have HJ:=Lib.hid (HB1.out.trans (hb4.mono HB1.out.size));clear hb4))
  go_ret
  exact ⟨rfl,HJ.out⟩
 case neg=>
  have g4:¬(96:Int)<(Awn:Int)+Atn+Bwn+Btn:=(by omega)
  have ra:=Aw.2 (by omega);have rt:=At.2 (by omega);have rb:=Bw.2 (by omega);have ru:=Bt.2 (by omega)
  have RD:Hid (∀ W,Below w1.heap.size w1 W→Rd encBound 4 W AwA Awn Awc A.ways∧Rd encBound 4 W AtA Atn Atc A.turns∧Rd encBound 4 W BwA Bwn Bwc B.ways∧Rd encBound 4 W BtA Btn Btc B.turns):=(show ∀ W,_→_ from fun W h=>⟨(ra.below hb1 (Nat.le_refl _)).below h (Nat.le_refl _),(rt.below hb1 (Nat.le_refl _)).below h (Nat.le_refl _),(rb.below hb1 (Nat.le_refl _)).below h (Nat.le_refl _),(ru.below hb1 (Nat.le_refl _)).below h (Nat.le_refl _)⟩)
  have K1:Hid (∀ W,Below w1.heap.size w1 W→Calls Tryz.prog 42 #[.agg #[.int .i64 A.n,.slice AwA Awn Awc,.slice AtA Atn Atc],.agg #[.int .i64 B.n,.slice BwA Bwn Bwc,.slice BtA Btn Btc],.int .i64 s] W fun e w'=> ∃ A' c',e = .returned (.tuple #[.slice A' (pairsV A B s).length c',.int .i64 (twiceErr A B)])∧Below W.heap.size W w'∧Own encPairing 4 28 W.heap.size w' A' (pairsV A B s).length c' (pairsV A B s)):=(show ∀ W,_→_ from fun W hW=>PairsE_any A AwA Awn Awc AtA Atn Atc B BwA Bwn Bwc BtA Btn Btc s W (RD.out W hW).1 (RD.out W hW).2.1 (RD.out W hW).2.2.1 (RD.out W hW).2.2.2)
  have K2:Hid (∀ W,Below w1.heap.size w1 W→Calls Tryz.prog 43 #[.agg #[.int .i64 A.n,.slice AwA Awn Awc,.slice AtA Atn Atc],.agg #[.int .i64 B.n,.slice BwA Bwn Bwc,.slice BtA Btn Btc],.int .i64 s] W fun e w'=> ∃ A' c',e = .returned (.tuple #[.slice A' (pairsV A B s).length c',.int .i64 (twiceErr A B)])∧Below W.heap.size W w'∧Own encPairing 4 28 W.heap.size w' A' (pairsV A B s).length c' (pairsV A B s)):=(show ∀ W,_→_ from fun W hW=>r3Pairs_any A AwA Awn Awc AtA Atn Atc B BwA Bwn Bwc BtA Btn Btc s W (RD.out W hW).1 (RD.out W hW).2.1 (RD.out W hW).2.2.1 (RD.out W hW).2.2.2)
  have K3:Hid (∀ W,Below w1.heap.size w1 W→Calls Tryz.prog 30 #[.agg #[.int .i64 A.n,.slice AwA Awn Awc,.slice AtA Atn Atc],.agg #[.int .i64 B.n,.slice BwA Bwn Bwc,.slice BtA Btn Btc]] W fun e w'=> ∃ n:Nat,e = .returned (.tuple #[.int .i64 n,.int .i64 (twiceErr A B)])∧(twiceErr A B=0→LongOk A B n)∧(twiceErr A B≠0→n=0)∧Below W.heap.size W w'):=(show ∀ W,_→_ from fun W hW=>Longest_any A AwA Awn Awc AtA Atn Atc B BwA Bwn Bwc BtA Btn Btc W (RD.out W hW).1 (RD.out W hW).2.1 (RD.out W hW).2.2.1 (RD.out W hW).2.2.2)
  have K4:Hid (∀ W,Below w1.heap.size w1 W→Calls Tryz.prog 44 #[.agg #[.int .i64 A.n,.slice AwA Awn Awc,.slice AtA Atn Atc],.agg #[.int .i64 B.n,.slice BwA Bwn Bwc,.slice BtA Btn Btc]] W fun e w'=> ∃ n:Nat,e = .returned (.tuple #[.int .i64 n,.int .i64 (twiceErr A B)])∧(twiceErr A B=0→LongOk A B n)∧(twiceErr A B≠0→n=0)∧Below W.heap.size W w'):=(show ∀ W,_→_ from fun W hW=>r3Longest_any A AwA Awn Awc AtA Atn Atc B BwA Bwn Bwc BtA Btn Btc W (RD.out W hW).1 (RD.out W hW).2.1 (RD.out W hW).2.2.1 (RD.out W hW).2.2.2)
  have K5:Hid (∀ W,Below w1.heap.size w1 W→Calls Tryz.prog 29 #[.agg #[.int .i64 A.n,.slice AwA Awn Awc,.slice AtA Atn Atc],.agg #[.int .i64 B.n,.slice BwA Bwn Bwc,.slice BtA Btn Btc]] W fun e w'=> ∃ A' c',e = .returned (.tuple #[.slice A' (maxV A B).length c',.int .i64 (twiceErr A B)])∧Below W.heap.size W w'∧Own encPairing 4 28 W.heap.size w' A' (maxV A B).length c' (maxV A B)):=(show ∀ W,_→_ from fun W hW=>Maximal_any A AwA Awn Awc AtA Atn Atc B BwA Bwn Bwc BtA Btn Btc W (RD.out W hW).1 (RD.out W hW).2.1 (RD.out W hW).2.2.1 (RD.out W hW).2.2.2)
  have K6:Hid (∀ W,Below w1.heap.size w1 W→Calls Tryz.prog 45 #[.agg #[.int .i64 A.n,.slice AwA Awn Awc,.slice AtA Atn Atc],.agg #[.int .i64 B.n,.slice BwA Bwn Bwc,.slice BtA Btn Btc]] W fun e w'=> ∃ A' c',e = .returned (.tuple #[.slice A' (maxV A B).length c',.int .i64 (twiceErr A B)])∧Below W.heap.size W w'∧Rd encPairing 4 w' A' (maxV A B).length c' (maxV A B)):=(show ∀ W,_→_ from fun W hW=>r3Maximal_any A AwA Awn Awc AtA Atn Atc B BwA Bwn Bwc BtA Btn Btc W (RD.out W hW).1 (RD.out W hW).2.1 (RD.out W hW).2.2.1 (RD.out W hW).2.2.2)
  have HLU:Hid (∀ n m:Nat,(twiceErr A B=0→LongOk A B n)→(twiceErr A B≠0→n=0)→(twiceErr A B=0→LongOk A B m)→(twiceErr A B≠0→m=0)→m=n):=(show ∀ n m:Nat,_→_→_→_→_ from fun n m h1 h2 h3 h4=>by
   by_cases ht:twiceErr A B=0
   · exact (h3 ht).unique (h1 ht)
   · rw [h2 ht,h4 ht])
  have HPL:Hid ((pairsV A B s).length≤256):=(show _≤_ from pairsV_len (by omega) (by omega))
  have HML:Hid ((maxV A B).length≤4096):=(show _≤_ from maxV_len (by omega) (by omega))
  have KSP:Hid (∀ (xs:List Pairing) A1 c1 A2 c2 W,Rd encPairing 4 W A1 xs.length c1 xs→Rd encPairing 4 W A2 xs.length c2 xs→Calls Tryz.prog 46 #[.slice A1 xs.length c1,.slice A2 xs.length c2] W fun e w'=>e = .returned (.bool true)∧Below W.heap.size W w'):=(show ∀ xs A1 c1 A2 c2 W,_→_→_ from fun xs A1 c1 A2 c2 W h1 h2=>by
   have:=samePr_any A1 xs.length c1 xs A2 xs.length c2 xs W h1 h2
   rw [decide_eq_true (rfl:xs=xs)] at this
   exact this)
  clear Aw At Bw Bt hb1 ra rt rb ru RD
  have hte:(twiceErr A B==twiceErr A B)=true:=(by simp)
  generalize twiceErr A B=te at *
  generalize pairsV A B s=P at *
  generalize maxV A B=X at *
  go_enter Tryz.func10,Tryz.ntmps10
  go_wp2_with (first
   | rw [HW1.out]
   | (go_at_call 42;(with_reducible refine (K1.out _ (Below.refl _ _)).mono ?_);rintro e w3 ⟨P1,p1,rfl,hb3,ho3⟩
      have HC3:=Lib.hid (hb3)
      have HD3:=Lib.hid hb3
      obtain ⟨ca03,ca13,ca23,cb03,cb13,cb23⟩:=HCE.out w3 HC3.out
      have HO3:=Lib.hid ho3
      clear ho3
      clear hb3)
   | (go_at_call 43;(with_reducible refine (K2.out _ HC3.out).mono ?_);rintro e w4 ⟨P2,p2,rfl,hb4,ho4⟩
      have HC4:=Lib.hid (HC3.out.trans (hb4.mono HC3.out.size))
      have HD4:=Lib.hid hb4
      obtain ⟨ca04,ca14,ca24,cb04,cb14,cb24⟩:=HCE.out w4 HC4.out
      have HO4:=Lib.hid ho4
      clear ho4
      clear hb4)
   | (go_at_call 30;(with_reducible refine (K3.out _ HC4.out).mono ?_);rintro e w5 ⟨n,rfl,hn1,hn2,hb5⟩
      have HC5:=Lib.hid (HC4.out.trans (hb5.mono HC4.out.size))
      have HD5:=Lib.hid hb5
      obtain ⟨ca05,ca15,ca25,cb05,cb15,cb25⟩:=HCE.out w5 HC5.out
      have HN1:=Lib.hid hn1
      have HN2:=Lib.hid hn2
      have hnn:((n:Int)==(n:Int))=true:=(by simp)
      clear hn1 hn2
      clear hb5)
   | (go_at_call 44;(with_reducible refine (K4.out _ HC5.out).mono ?_);rintro e w6 ⟨m,rfl,hm1,hm2,hb6⟩
      have HC6:=Lib.hid (HC5.out.trans (hb6.mono HC5.out.size))
      have HD6:=Lib.hid hb6
      obtain ⟨ca06,ca16,ca26,cb06,cb16,cb26⟩:=HCE.out w6 HC6.out
      obtain rfl:=HLU.out n m HN1.out HN2.out hm1 hm2
      clear hm1 hm2
      clear hb6)
   | (go_at_call 29;(with_reducible refine (K5.out _ HC6.out).mono ?_);rintro e w7 ⟨P3,p3,rfl,hb7,ho7⟩
      have HC7:=Lib.hid (HC6.out.trans (hb7.mono HC6.out.size))
      have HD7:=Lib.hid hb7
      obtain ⟨ca07,ca17,ca27,cb07,cb17,cb27⟩:=HCE.out w7 HC7.out
      have HO7:=Lib.hid ho7
      clear ho7
      clear hb7)
   | (go_at_call 45;(with_reducible refine (K6.out _ HC7.out).mono ?_);rintro e w8 ⟨P4,p4,rfl,hb8,ho8⟩
      have HC8:=Lib.hid (HC7.out.trans (hb8.mono HC7.out.size))
      have HD8:=Lib.hid hb8
      obtain ⟨ca08,ca18,ca28,cb08,cb18,cb28⟩:=HCE.out w8 HC8.out
      have HO8:=Lib.hid ho8
      clear ho8
      clear hb8)
   | (go_at_call 17;(with_reducible refine (joined_any _).mono ?_);rintro e w9 ⟨rfl,hb9⟩
      have HC9:=Lib.hid (HC8.out.trans (hb9.mono HC8.out.size))
      have HD9:=Lib.hid hb9
      clear hb9)
   | (go_at_call 46;(with_reducible refine (KSP.out _ _ _ _ _ _ (by have g:=HML.out;exact ((HO7.out.below (((HD8.out).trans (HD9.out.mono (Below.size (HD8.out)))).trans (HD10.out.mono (Below.size ((HD8.out).trans (HD9.out.mono (Below.size (HD8.out))))))) (Nat.le_refl _)).rd (fun _=>rfl) (by omega))) (HO8.out.below ((HD9.out).trans (HD10.out.mono (Below.size (HD9.out)))) (Nat.le_refl _))).mono ?_);rintro e w11 ⟨rfl,hb11⟩
      have HC11:=Lib.hid (HC10.out.trans (hb11.mono HC10.out.size))
      have HD11:=Lib.hid hb11
      have HJ:=Lib.hid (HB1.out.trans (HC11.out.mono HB1.out.size))
      clear hb11)
   | (go_at_call 46;(with_reducible refine (KSP.out _ _ _ _ _ _ (by have g:=HPL.out;exact ((HO3.out.below ((((((HD4.out).trans (HD5.out.mono (Below.size (HD4.out)))).trans (HD6.out.mono (Below.size ((HD4.out).trans (HD5.out.mono (Below.size (HD4.out))))))).trans (HD7.out.mono (Below.size (((HD4.out).trans (HD5.out.mono (Below.size (HD4.out)))).trans (HD6.out.mono (Below.size ((HD4.out).trans (HD5.out.mono (Below.size (HD4.out)))))))))).trans (HD8.out.mono (Below.size ((((HD4.out).trans (HD5.out.mono (Below.size (HD4.out)))).trans (HD6.out.mono (Below.size ((HD4.out).trans (HD5.out.mono (Below.size (HD4.out))))))).trans (HD7.out.mono (Below.size (((HD4.out).trans (HD5.out.mono (Below.size (HD4.out)))).trans (HD6.out.mono (Below.size ((HD4.out).trans (HD5.out.mono (Below.size (HD4.out))))))))))))).trans (HD9.out.mono (Below.size (((((HD4.out).trans (HD5.out.mono (Below.size (HD4.out)))).trans (HD6.out.mono (Below.size ((HD4.out).trans (HD5.out.mono (Below.size (HD4.out))))))).trans (HD7.out.mono (Below.size (((HD4.out).trans (HD5.out.mono (Below.size (HD4.out)))).trans (HD6.out.mono (Below.size ((HD4.out).trans (HD5.out.mono (Below.size (HD4.out)))))))))).trans (HD8.out.mono (Below.size ((((HD4.out).trans (HD5.out.mono (Below.size (HD4.out)))).trans (HD6.out.mono (Below.size ((HD4.out).trans (HD5.out.mono (Below.size (HD4.out))))))).trans (HD7.out.mono (Below.size (((HD4.out).trans (HD5.out.mono (Below.size (HD4.out)))).trans (HD6.out.mono (Below.size ((HD4.out).trans (HD5.out.mono (Below.size (HD4.out)))))))))))))))) (Nat.le_refl _)).rd (fun _=>rfl) (by omega))) (by have g:=HPL.out;exact ((HO4.out.below (((((HD5.out).trans (HD6.out.mono (Below.size (HD5.out)))).trans (HD7.out.mono (Below.size ((HD5.out).trans (HD6.out.mono (Below.size (HD5.out))))))).trans (HD8.out.mono (Below.size (((HD5.out).trans (HD6.out.mono (Below.size (HD5.out)))).trans (HD7.out.mono (Below.size ((HD5.out).trans (HD6.out.mono (Below.size (HD5.out)))))))))).trans (HD9.out.mono (Below.size ((((HD5.out).trans (HD6.out.mono (Below.size (HD5.out)))).trans (HD7.out.mono (Below.size ((HD5.out).trans (HD6.out.mono (Below.size (HD5.out))))))).trans (HD8.out.mono (Below.size (((HD5.out).trans (HD6.out.mono (Below.size (HD5.out)))).trans (HD7.out.mono (Below.size ((HD5.out).trans (HD6.out.mono (Below.size (HD5.out))))))))))))) (Nat.le_refl _)).rd (fun _=>rfl) (by omega)))).mono ?_);rintro e w10 ⟨rfl,hb10⟩
      have HC10:=Lib.hid (HC9.out.trans (hb10.mono HC9.out.size))
      have HD10:=Lib.hid hb10
      have HJ:=Lib.hid (HB1.out.trans (HC10.out.mono HB1.out.size))
      clear hb10))
  go_ret
  exact ⟨rfl,HJ.out⟩
end Go.Proofs.YtccabpahfmoamaaGreat
end

/- Contracts that the laws lean on: R3Pr. -/
import Derived.Test.YtccabpahfmoamaaGreatPE55
import Derived.Test.YtccabpahfmoamaaGreatPE51
set_option maxRecDepth 100000
set_option maxHeartbeats 8000000
section
namespace Go.Proofs.YtccabpahfmoamaaGreat
open Go.RowKit Go.Proofs Go.Shelf
theorem fil_len {A B:Outl} {s:Int} {K i k:Nat} (hK:K≤16) (hi:i<16) (hk:k<K):((upTo s K i++rowP s i k).filter (meetsV A B)).length<300:=Nat.lt_of_le_of_lt (List.length_filter_le _ _) (upTo_lt hK hi hk)
theorem fil_yes {A B:Outl} {s:Int} {K i k:Nat} (h:meetsV A B (pairAt s i k)=true):(upTo s K i++rowP s i (k+1)).filter (meetsV A B)=(upTo s K i++rowP s i k).filter (meetsV A B) ++ [pairAt s i k]:=by
 rw [rowP_succ,←List.append_assoc,List.filter_append]
 simp [h]
theorem fil_no {A B:Outl} {s:Int} {K i k:Nat} (h:meetsV A B (pairAt s i k)=false):(upTo s K i++rowP s i (k+1)).filter (meetsV A B)=(upTo s K i++rowP s i k).filter (meetsV A B):=by
 rw [rowP_succ,←List.append_assoc,List.filter_append]
 simp [h]
theorem at_mem {na nb s:Int} {i k:Nat} (hi:i<cntP na s) (hk:k<cntP nb s):pairAt s i k∈pairsL na nb s:=mem_upTo.2 ⟨i,k,hi,hk,rfl⟩
theorem r3Pairs_any (A:Outl) (AwA:Option Addr) (Awn Awc:Nat) (AtA:Option Addr) (Atn Atc:Nat) (B:Outl) (BwA:Option Addr) (Bwn Bwc:Nat) (BtA:Option Addr) (Btn Btc:Nat) (s:Int) (w:World) (Aw:Rd encBound 4 w AwA Awn Awc A.ways) (At:Rd encBound 4 w AtA Atn Atc A.turns) (Bw:Rd encBound 4 w BwA Bwn Bwc B.ways) (Bt:Rd encBound 4 w BtA Btn Btc B.turns):
 Calls Tryz.prog 43 #[.agg #[.int .i64 A.n,.slice AwA Awn Awc,.slice AtA Atn Atc],.agg #[.int .i64 B.n,.slice BwA Bwn Bwc,.slice BtA Btn Btc],.int .i64 s] w fun e w'=> ∃ A' c',e = .returned (.tuple #[.slice A' (pairsV A B s).length c',.int .i64 (twiceErr A B)])∧Below w.heap.size w w'∧Own encPairing 4 28 w.heap.size w' A' (pairsV A B s).length c' (pairsV A B s):=by
 obtain ⟨w1,hw1,hb1,hz1,hbx⟩:=boxAB w A AwA Awn Awc AtA Atn Atc B BwA Bwn Bwc BtA Btn Btc
 have KX:=Lib.hid hbx
 have KB:=Lib.hid (fun W (h:Below w1.heap.size w1 W)=>r3both_any A AwA Awn Awc AtA Atn Atc B BwA Bwn Bwc BtA Btn Btc W ((Aw.below hb1 (Nat.le_refl _)).below h (Nat.le_refl _)) ((At.below hb1 (Nat.le_refl _)).below h (Nat.le_refl _)) ((Bw.below hb1 (Nat.le_refl _)).below h (Nat.le_refl _)) ((Bt.below hb1 (Nat.le_refl _)).below h (Nat.le_refl _)))
 have KM:Hid (twiceErr A B=0→1≤s→∀ (p:Pairing) W,Below w1.heap.size w1 W→p∈pairsL A.n B.n s→Calls Tryz.prog 101 #[.agg #[.int .i64 A.n,.slice AwA Awn Awc,.slice AtA Atn Atc],.agg #[.int .i64 B.n,.slice BwA Bwn Bwc,.slice BtA Btn Btc],.agg #[.int .i64 p.a.lo,.int .i64 p.a.hi,.int .i64 p.b.lo,.int .i64 p.b.hi]] W fun e w'=>e = .returned (.bool (meetsV A B p))∧Below W.heap.size W w'):=(show _→_→∀ p W,_→_→_ from fun h0 hs p W h hp=>
  r3meets_any A AwA Awn Awc AtA Atn Atc B BwA Bwn Bwc BtA Btn Btc p W ((Aw.below hb1 (Nat.le_refl _)).below h (Nat.le_refl _)) ((At.below hb1 (Nat.le_refl _)).below h (Nat.le_refl _)) ((Bw.below hb1 (Nat.le_refl _)).below h (Nat.le_refl _)) ((Bt.below hb1 (Nat.le_refl _)).below h (Nat.le_refl _)) (askedErr_zero.1 (pairs_ask (twice_zero.1 h0).1 (twice_zero.1 h0).2 hs hp)))
 have HB1:=Lib.hid hb1
 have HW1:=Lib.hid hw1
 obtain ⟨xa0,xa1,xa2,xb0,xb1,xb2⟩:=hbx w1 (Below.refl _ _)
 clear Aw At Bw Bt hb1 hw1 hbx
 by_cases h1:twiceErr A B=0
 case neg=>
  have hv:pairsV A B s = []:=if_neg (fun h=>h1 h.1)
  rw [hv]
  have h1':(twiceErr A B != 0)=true:=by simpa using h1
  clear h1 KM hv
  generalize twiceErr A B=er at *
  go_enter Tryz.func43,Tryz.ntmps43
  go_wp2_with (first
   | rw [HW1.out]
   | (go_at_call 100;(with_reducible refine (KB.out _ (Below.refl _ _)).mono ?_);rintro e w2 ⟨rfl,hb2⟩;have HB2:=Lib.hid hb2;clear hb2))
  go_ret2
  exact ⟨none,0,rfl,HB1.out.trans (HB2.out.mono HB1.out.size),Own.none_ _ _ _ _ _⟩
 case pos=>
 have HAN:Hid ((0≤A.n∧A.n≤16)∧(0≤B.n∧B.n≤16)):=(show _∧_ from by
  obtain ⟨hb,hr⟩:=twice_zero.1 h1
  obtain ⟨h3,h4⟩:=bothErr_zero.1 hb
  obtain ⟨n1,n2,_,_⟩:=checkOut_zero.1 h3
  obtain ⟨n3,n4,_,_⟩:=checkOut_zero.1 h4
  omega)
 have H1:=Lib.hid h1
 rw [h1] at KB ⊢
 by_cases hs1:s<1
 case pos=>
  have hv:pairsV A B s = []:=if_neg (fun h=>by omega)
  rw [hv]
  clear h1 KM hv
  go_enter Tryz.func43,Tryz.ntmps43
  go_wp2_with (first
   | rw [HW1.out]
   | (go_at_call 100;(with_reducible refine (KB.out _ (Below.refl _ _)).mono ?_);rintro e w2 ⟨rfl,hb2⟩;have HB2:=Lib.hid hb2;clear hb2))
  go_ret2
  exact ⟨none,0,rfl,HB1.out.trans (HB2.out.mono HB1.out.size),Own.none_ _ _ _ _ _⟩
 by_cases hs2:16<s
 case pos=>
  have hv:pairsV A B s = []:=if_neg (fun h=>by omega)
  rw [hv]
  clear h1 KM hv
  go_enter Tryz.func43,Tryz.ntmps43
  go_wp2_with (first
   | rw [HW1.out]
   | (go_at_call 100;(with_reducible refine (KB.out _ (Below.refl _ _)).mono ?_);rintro e w2 ⟨rfl,hb2⟩;have HB2:=Lib.hid hb2;clear hb2))
  go_ret2
  exact ⟨none,0,rfl,HB1.out.trans (HB2.out.mono HB1.out.size),Own.none_ _ _ _ _ _⟩
 have hv:pairsV A B s=(upTo s (cntP B.n s) (cntP A.n s)).filter (meetsV A B):=if_pos ⟨h1,by omega,by omega⟩
 rw [hv]
 have KN:=Lib.hid (KM.out h1 (by omega))
 have hN:∀ i:Nat,i<cntP A.n s↔(i:Int)+s≤A.n:=(fun i=>by unfold cntP;omega)
 have hK:∀ i:Nat,i<cntP B.n s↔(i:Int)+s≤B.n:=(fun i=>by unfold cntP;omega)
 have hN16:cntP A.n s≤16:=(by have:=HAN.out;unfold cntP;omega)
 have hK16:cntP B.n s≤16:=(by have:=HAN.out;unfold cntP;omega)
 have HM:Hid (∀ i k:Nat,i<cntP A.n s→k<cntP B.n s→pairAt s i k∈pairsL A.n B.n s):=(show ∀ i k:Nat,_→_→_ from fun i k h1 h2=>at_mem h1 h2)
 obtain ⟨N,hNe⟩:∃ N,cntP A.n s=N:=⟨_,rfl⟩
 obtain ⟨K,hKe⟩:∃ K,cntP B.n s=K:=⟨_,rfl⟩
 rw [hNe] at hN hN16 HM ⊢
 rw [hKe] at hK hK16 HM ⊢
 have HN:=Lib.hid hN
 have HK:=Lib.hid hK
 clear h1 KM hv hN hK hNe hKe H1
 have hs3:1≤s:=(by omega)
 have hs4:s≤16:=(by omega)
 go_enter Tryz.func43,Tryz.ntmps43
 go_wp2_with (first
  | rw [HW1.out]
  | (go_at_call 100;(with_reducible refine (KB.out _ (Below.refl _ _)).mono ?_);rintro e w2 ⟨rfl,hb2⟩;have HB2:=Lib.hid hb2;clear hb2))
 go_loopw [9,10] (fun s9 s10 wr=> ∃ (i:Nat) (Ao:Option Addr) (n c:Nat),i≤N∧s9 = .slice Ao n c∧s10 = .int .i64 i∧Hid (Own encPairing 4 28 w1.heap.size wr Ao n c ((upTo s K i).filter (meetsV A B)))∧Hid (Below w1.heap.size w1 wr)) (fun _ s10 _=>N-(intOf s10).toNat)
 case atStart=>exact ⟨0,none,0,0,by omega,rfl,rfl,(show Own _ _ _ _ _ _ _ _ _ from Own.none_ _ _ _ _ _),(show Below _ _ _ from HB2.out)⟩
 case round=>
  obtain ⟨i,Ao,n,c,hi,rfl,rfl,hO,hbr⟩:=hrel
  have hzr:=hbr.out.size
  obtain ⟨ya0,ya1,ya2,yb0,yb1,yb2⟩:=KX.out wr hbr.out
  by_cases hlt:i<N
  · have hle:(i:Int)+s≤A.n:=(HN.out i).1 hlt
    have HOo:=Lib.hid hO.out
    have HBR:=Lib.hid hbr.out
    clear hO hbr
    go_wp2
    go_loopw [9,11] (fun s9 s11 wr=> ∃ (k:Nat) (Ao:Option Addr) (n c:Nat),k≤K∧s9 = .slice Ao n c∧s11 = .int .i64 k∧Hid (Own encPairing 4 28 w1.heap.size wr Ao n c ((upTo s K i++rowP s i k).filter (meetsV A B)))∧Hid (Below w1.heap.size w1 wr)) (fun _ s11 _=>K-(intOf s11).toNat)
    case atStart=>exact ⟨0,Ao,n,c,by omega,rfl,rfl,(show Own _ _ _ _ _ _ _ _ _ by simpa [rowP] using HOo.out),(show Below _ _ _ from HBR.out)⟩
    case round=>
     clear HOo HBR hzr ya0 ya1 ya2 yb0 yb1 yb2
     obtain ⟨k,Ao,n,c,hk,rfl,rfl,hO,hbr⟩:=hrel
     have hzr:=hbr.out.size
     obtain ⟨ya0,ya1,ya2,yb0,yb1,yb2⟩:=KX.out _ hbr.out
     by_cases hlk:k<K
     · have hle2:(k:Int)+s≤B.n:=(HK.out k).1 hlk
       obtain ⟨w5,a5,b5,z5,e5⟩:=alloc_facts wr #[.int .i64 (i:Int),.int .i64 ((i:Int)+s),.int .i64 (k:Int),.int .i64 ((k:Int)+s)] 28
       have HA5:=Lib.hid a5
       have HB5:=Lib.hid (hbr.out.trans (b5.mono hbr.out.size))
       have HL5:=Lib.hid b5
       have HE5:=Lib.hid e5
       have hz5:w5.heap.size=wr.heap.size+1:=z5
       obtain ⟨va0,va1,va2,vb0,vb1,vb2⟩:=KX.out w5 HB5.out
       obtain ⟨u0,u1,u2,u3⟩:w5.cell? ⟨wr.heap.size,0,none⟩=some (.int .i64 (i:Int))∧w5.cell? ⟨wr.heap.size,1,none⟩=some (.int .i64 ((i:Int)+s))∧w5.cell? ⟨wr.heap.size,2,none⟩=some (.int .i64 (k:Int))∧w5.cell? ⟨wr.heap.size,3,none⟩=some (.int .i64 ((k:Int)+s)):=(by simp [World.cell?,e5])
       have KP:Hid (Calls Tryz.prog 101 #[.agg #[.int .i64 A.n,.slice AwA Awn Awc,.slice AtA Atn Atc],.agg #[.int .i64 B.n,.slice BwA Bwn Bwc,.slice BtA Btn Btc],.agg #[.int .i64 (i:Int),.int .i64 ((i:Int)+s),.int .i64 (k:Int),.int .i64 ((k:Int)+s)]] w5 fun e w'=>e = .returned (.bool (meetsV A B (pairAt s i k)))∧Below w5.heap.size w5 w'):=(show Calls _ _ _ _ _ from KN.out (pairAt s i k) w5 HB5.out (HM.out i k hlt hlk))
       have HFL:=Lib.hid (fil_len (A:=A) (B:=B) (s:=s) hK16 (show i<16 by omega) hlk)
       clear a5 b5 z5 e5
       cases hm:meetsV A B (pairAt s i k) with
       | false=>
         have HF:=Lib.hid (fil_no (K:=K) hm)
         rw [hm] at KP
         clear hm
         go_wp2_with (first
          | rw [HA5.out]
          | (go_at_call 101;(with_reducible refine KP.out.mono ?_);rintro e w6 ⟨rfl,hb6⟩;have HB6:=Lib.hid (HL5.out.trans (hb6.mono HL5.out.size));clear hb6))
         go_roundw
         case rel=>exact ⟨k+1,Ao,n,c,by omega,rfl,by go_num,(show Own _ _ _ _ _ _ _ _ _ by rw [HF.out];exact hO.out.below HB6.out (Nat.le_refl _)),(show Below _ _ _ from hbr.out.trans (HB6.out.mono hbr.out.size))⟩
         case measure=>simp [intOf];omega
       | true=>
         have HF:=Lib.hid (fil_yes (K:=K) hm)
         rw [hm] at KP
         have hlO:=hO.out.len
         have HN3:Hid (n<300):=(show n<300 by have:=HFL.out;omega)
         clear hm hlO
         go_wp2_with (first
          | rw [HA5.out]
          | (go_at_call 101;(with_reducible refine KP.out.mono ?_);rintro e w6 ⟨rfl,hb6⟩
             have HB6:=Lib.hid (HL5.out.trans (hb6.mono HL5.out.size))
             have hh6:=(hb6.block wr.heap.size (by omega)).trans HE5.out
             obtain ⟨t0,t1,t2,t3⟩:w6.cell? ⟨wr.heap.size,0,none⟩=some (.int .i64 (i:Int))∧w6.cell? ⟨wr.heap.size,1,none⟩=some (.int .i64 ((i:Int)+s))∧w6.cell? ⟨wr.heap.size,2,none⟩=some (.int .i64 (k:Int))∧w6.cell? ⟨wr.heap.size,3,none⟩=some (.int .i64 ((k:Int)+s)):=(by simp [World.cell?,hh6])
             have HO6:=Lib.hid (hO.out.below HB6.out (Nat.le_refl _))
             have HC6:=Lib.hid (hbr.out.trans (HB6.out.mono hbr.out.size))
             have HRD:=Lib.hid (Rd.single (enc:=encPairing) (k:=4) w6 #[.int .i64 (i:Int),.int .i64 ((i:Int)+s),.int .i64 (k:Int),.int .i64 ((k:Int)+s)] 28 [pairAt s i k] 1 rfl (by omega) (fun _=>rfl) (by simp [encPairing,pairAt]))
             clear hb6 hh6)
          | (at_builtin;refine wpList_append_src elPairing (fun _=>rfl) onePairing rfl _ _ rfl (some ⟨w6.heap.size,0,none⟩) 1 1 [pairAt s i k] rfl rfl (HO6.out.alloc _) HRD.out (by have:=HN3.out;omega) (by omega) (by have:=HC6.out.size;simp;omega) ?_;intro A' c' w8 hown' hg8 hA8
             have HG8:=Lib.hid hg8
             have HO8:=Lib.hid hown'
             clear hown' hg8 hA8))
         have hB8:Below w1.heap.size w1 w8:=(HC6.out.alloc HC6.out.size _).grown HG8.out (by have:=HC6.out.size;simp;omega) (fun k e=>HO6.out.ltB k e)
         go_roundw
         case rel=>exact ⟨k+1,A',n+1,c',by omega,rfl,by go_num,(show Own _ _ _ _ _ _ _ _ _ by rw [HF.out];exact HO8.out),(show Below _ _ _ from hB8)⟩
         case measure=>simp [intOf];omega
     · have hkK:k=K:=by omega
       subst hkK
       have hno:¬(k:Int)+s≤B.n:=fun h=>hlk ((HK.out k).2 h)
       go_wp2
       go_roundw
       case rel=>exact ⟨i+1,Ao,n,c,by omega,rfl,by go_num,(show Own _ _ _ _ _ _ _ _ _ by rw [upTo_succ];exact hO.out),(show Below _ _ _ from hbr.out)⟩
       case measure=>simp [intOf];omega
  · have hiN:i=N:=by omega
    subst hiN
    have hno:¬(i:Int)+s≤A.n:=fun h=>hlt ((HN.out i).2 h)
    have hlen:((upTo s K i).filter (meetsV A B)).length=n:=hO.out.len
    have HLE:=Lib.hid hlen
    clear hlen
    go_wp2
    go_ret2
    obtain rfl:=HLE.out
    exact ⟨Ao,c,rfl,HB1.out.trans (hbr.out.mono HB1.out.size),hO.out.mono HB1.out.size⟩
end Go.Proofs.YtccabpahfmoamaaGreat
end

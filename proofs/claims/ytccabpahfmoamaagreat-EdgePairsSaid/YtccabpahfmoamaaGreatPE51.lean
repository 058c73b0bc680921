/- Contracts that the laws lean on: R3M. -/
import Derived.Test.YtccabpahfmoamaaGreatPE50
import Derived.Test.YtccabpahfmoamaaGreatPE39
set_option maxRecDepth 100000
set_option maxHeartbeats 4000000
section
namespace Go.Proofs.YtccabpahfmoamaaGreat
open Go.RowKit Go.Proofs Go.Shelf
theorem joint_sys (A:Outl) (AwA:Option Addr) (Awn Awc:Nat) (AtA:Option Addr) (Atn Atc:Nat) (B:Outl) (BwA:Option Addr) (Bwn Bwc:Nat) (BtA:Option Addr) (Btn Btc:Nat) (p:Pairing) (tn:Bool) (w:World) (Aw:Rd encBound 4 w AwA Awn Awc A.ways) (At:Rd encBound 4 w AtA Atn Atc A.turns) (Bw:Rd encBound 4 w BwA Bwn Bwc B.ways) (Bt:Rd encBound 4 w BtA Btn Btc B.turns) (h:AskOk A B p):
 Calls Tryz.prog 74 #[.agg #[.int .i64 A.n,.slice AwA Awn Awc,.slice AtA Atn Atc],.agg #[.int .i64 B.n,.slice BwA Bwn Bwc,.slice BtA Btn Btc],.agg #[.int .i64 p.a.lo,.int .i64 p.a.hi,.int .i64 p.b.lo,.int .i64 p.b.hi],.bool tn] w fun e w'=> ∃ v,e = .returned v∧Below w.heap.size w w'∧OneSys (clashN A B p tn) (clashL A B p tn) v w':=by
 have l1:=Aw.len;have l2:=At.len;have l3:=Bw.len;have l4:=Bt.len
 have r1:=h.r1;have r2:=h.r2
 cases tn
 · refine (r3joint_false A AwA Awn Awc AtA Atn Atc B BwA Bwn Bwc BtA Btn Btc p w Aw At Bw Bt h.toPairOk).mono ?_
   rintro e w' ⟨A',c',rfl,hb,ho⟩
   exact ⟨_,rfl,hb,A',_,c',rfl,ho.rd (fun _=>rfl) (by omega)⟩
 · refine (r3joint_true A AwA Awn Awc AtA Atn Atc B BwA Bwn Bwc BtA Btn Btc p w Aw At Bw Bt h.toPairOk).mono ?_
   rintro e w' ⟨A',c',rfl,hb,ho⟩
   exact ⟨_,rfl,hb,A',_,c',rfl,ho.rd (fun _=>rfl) (by omega)⟩
theorem r3solved_any (pts:Int) (A:Option Addr) (n c:Nat) (bs:List Bound) (w:World) (hl:Rd encBound 4 w A n c bs) (hk:checkSys pts bs=0):
 Calls Tryz.prog 98 #[.agg #[.int .i64 pts,.slice A n c]] w fun e w'=>e = .returned (.bool (solvedOk pts bs))∧Below w.heap.size w w':=by
 obtain ⟨w1,hw1,b1,z1,e1⟩:=alloc_facts w #[.int .i64 pts,.slice A n c] 73
 have KS:=Lib.hid (rSolve_any pts A n c bs w1 (hl.below b1 (Nat.le_refl _)) hk)
 obtain ⟨x0,x1⟩:w1.cell? ⟨w.heap.size,0,none⟩=some (.int .i64 pts)∧w1.cell? ⟨w.heap.size,1,none⟩=some (.slice A n c):=(by simp [World.cell?,e1])
 have HB1:=Lib.hid b1
 have HW1:=Lib.hid hw1
 clear hl hk b1 z1 hw1 e1
 generalize solvedOk pts bs=sv at *
 cases sv
 all_goals
  go_enter Tryz.func98,Tryz.ntmps98
  go_wp2_with (first
   | rw [HW1.out]
   | (go_at_call 140;(with_reducible refine (KS.out).mono ?_);rintro e w2 ⟨A2,n2,c2,rfl,hb2⟩;have HB2:=Lib.hid hb2;clear hb2))
  go_ret
  exact ⟨rfl,HB1.out.trans (HB2.out.mono HB1.out.size)⟩
theorem r3meets_any (A:Outl) (AwA:Option Addr) (Awn Awc:Nat) (AtA:Option Addr) (Atn Atc:Nat) (B:Outl) (BwA:Option Addr) (Bwn Bwc:Nat) (BtA:Option Addr) (Btn Btc:Nat) (p:Pairing) (w:World) (Aw:Rd encBound 4 w AwA Awn Awc A.ways) (At:Rd encBound 4 w AtA Atn Atc A.turns) (Bw:Rd encBound 4 w BwA Bwn Bwc B.ways) (Bt:Rd encBound 4 w BtA Btn Btc B.turns) (hok:AskOk A B p):
 Calls Tryz.prog 101 #[.agg #[.int .i64 A.n,.slice AwA Awn Awc,.slice AtA Atn Atc],.agg #[.int .i64 B.n,.slice BwA Bwn Bwc,.slice BtA Btn Btc],.agg #[.int .i64 p.a.lo,.int .i64 p.a.hi,.int .i64 p.b.lo,.int .i64 p.b.hi]] w fun e w'=>e = .returned (.bool (meetsV A B p))∧Below w.heap.size w w':=by
 obtain ⟨w1,hw1,hb1,hz1,hbx⟩:=boxABP w A AwA Awn Awc AtA Atn Atc B BwA Bwn Bwc BtA Btn Btc p
 have KX:=Lib.hid hbx
 have RA:Hid (∀ W,Below w1.heap.size w1 W→Rd encBound 4 W AwA Awn Awc A.ways∧Rd encBound 4 W AtA Atn Atc A.turns∧Rd encBound 4 W BwA Bwn Bwc B.ways∧Rd encBound 4 W BtA Btn Btc B.turns):=(show ∀ W,_→_ from fun W h=>⟨(Aw.below hb1 (Nat.le_refl _)).below h (Nat.le_refl _),(At.below hb1 (Nat.le_refl _)).below h (Nat.le_refl _),(Bw.below hb1 (Nat.le_refl _)).below h (Nat.le_refl _),(Bt.below hb1 (Nat.le_refl _)).below h (Nat.le_refl _)⟩)
 have KJ0:Hid (∀ W,Below w1.heap.size w1 W→Calls Tryz.prog 74 #[.agg #[.int .i64 A.n,.slice AwA Awn Awc,.slice AtA Atn Atc],.agg #[.int .i64 B.n,.slice BwA Bwn Bwc,.slice BtA Btn Btc],.agg #[.int .i64 p.a.lo,.int .i64 p.a.hi,.int .i64 p.b.lo,.int .i64 p.b.hi],.bool false] W fun e w'=> ∃ v,e = .returned v∧Below W.heap.size W w'∧OneSys (waysN A B p) (waysB A B p) v w'):=(show ∀ W,_→_ from fun W h=>joint_sys A AwA Awn Awc AtA Atn Atc B BwA Bwn Bwc BtA Btn Btc p false W (RA.out W h).1 (RA.out W h).2.1 (RA.out W h).2.2.1 (RA.out W h).2.2.2 hok)
 have KJ1:Hid (∀ W,Below w1.heap.size w1 W→Calls Tryz.prog 74 #[.agg #[.int .i64 A.n,.slice AwA Awn Awc,.slice AtA Atn Atc],.agg #[.int .i64 B.n,.slice BwA Bwn Bwc,.slice BtA Btn Btc],.agg #[.int .i64 p.a.lo,.int .i64 p.a.hi,.int .i64 p.b.lo,.int .i64 p.b.hi],.bool true] W fun e w'=> ∃ v,e = .returned v∧Below W.heap.size W w'∧OneSys (dirsN A B p) (dirsB A B p) v w'):=(show ∀ W,_→_ from fun W h=>joint_sys A AwA Awn Awc AtA Atn Atc B BwA Bwn Bwc BtA Btn Btc p true W (RA.out W h).1 (RA.out W h).2.1 (RA.out W h).2.2.1 (RA.out W h).2.2.2 hok)
 have hs1:=hok.ways_sys
 have hs2:=hok.dirs_sys
 have KS:Hid (∀ N l v W,checkSys N l=0→OneSys N l v W→Calls Tryz.prog 98 #[v] W fun e w'=>e = .returned (.bool (solvedOk N l))∧Below W.heap.size W w'):=(show ∀ N l v W,_→_→_ from by
  rintro N l v W hk ⟨A',k,c',rfl,hr⟩
  exact r3solved_any N A' k c' l W hr hk)
 have KS0:=Lib.hid (fun v W (h:OneSys (waysN A B p) (waysB A B p) v W)=>KS.out _ _ v W hs1 h)
 have KS1:=Lib.hid (fun v W (h:OneSys (dirsN A B p) (dirsB A B p) v W)=>KS.out _ _ v W hs2 h)
 have HB1:=Lib.hid hb1
 have HW1:=Lib.hid hw1
 obtain ⟨xa0,xa1,xa2,xb0,xb1,xb2,xp0,xp1,xp2,xp3⟩:=hbx w1 (Below.refl _ _)
 have hv:meetsV A B p=(solvedOk (waysN A B p) (waysB A B p)&&solvedOk (dirsN A B p) (dirsB A B p)):=rfl
 rw [hv]
 clear Aw At Bw Bt hb1 hbx hw1 hok hs1 hs2 hv KS
 cases h1:solvedOk (waysN A B p) (waysB A B p) with
 | false=>
   rw [h1] at KS0
   clear h1
   go_enter Tryz.func101,Tryz.ntmps101
   go_wp2_with (first
    | rw [HW1.out]
    | (go_at_call 74;(with_reducible refine (KJ0.out _ (Below.refl _ _)).mono ?_);rintro e w2 ⟨v2,rfl,hb2,hv2⟩
       have HB2:=Lib.hid (hb2)
       have HV2:=Lib.hid hv2
       obtain ⟨xa0,xa1,xa2,xb0,xb1,xb2,xp0,xp1,xp2,xp3⟩:=KX.out w2 HB2.out
       clear hb2 hv2)
    | (go_at_call 98;(with_reducible refine (KS0.out _ _ HV2.out).mono ?_);rintro e w3 ⟨rfl,hb3⟩
       have HB3:=Lib.hid (HB2.out.trans (hb3.mono HB2.out.size))
       obtain ⟨xa0,xa1,xa2,xb0,xb1,xb2,xp0,xp1,xp2,xp3⟩:=KX.out w3 HB3.out
       clear hb3))
   go_ret
   exact ⟨rfl,HB1.out.trans (HB3.out.mono HB1.out.size)⟩
 | true=>
   rw [h1] at KS0
   clear h1
   cases h2:solvedOk (dirsN A B p) (dirsB A B p)
   all_goals
    rw [h2] at KS1
    clear h2
    go_enter Tryz.func101,Tryz.ntmps101
    go_wp2_with (first
     | rw [HW1.out]
     | (go_at_call 74;(with_reducible refine (KJ0.out _ (Below.refl _ _)).mono ?_);rintro e w2 ⟨v2,rfl,hb2,hv2⟩
        have HB2:=Lib.hid (hb2)
        have HV2:=Lib.hid hv2
        obtain ⟨xa0,xa1,xa2,xb0,xb1,xb2,xp0,xp1,xp2,xp3⟩:=KX.out w2 HB2.out
        clear hb2 hv2)
     | (go_at_call 98;(with_reducible refine (KS0.out _ _ HV2.out).mono ?_);rintro e w3 ⟨rfl,hb3⟩
        have HB3:=Lib.hid (HB2.out.trans (hb3.mono HB2.out.size))
        obtain ⟨xa0,xa1,xa2,xb0,xb1,xb2,xp0,xp1,xp2,xp3⟩:=KX.out w3 HB3.out
        clear hb3)
     | (go_at_call 74;(with_reducible refine (KJ1.out _ HB3.out).mono ?_);rintro e w4 ⟨v4,rfl,hb4,hv4⟩
        have HB4:=Lib.hid (HB3.out.trans (hb4.mono HB3.out.size))
        have HV4:=Lib.hid hv4
        obtain ⟨xa0,xa1,xa2,xb0,xb1,xb2,xp0,xp1,xp2,xp3⟩:=KX.out w4 HB4.out
        clear hb4 hv4)
     | (go_at_call 98;(with_reducible refine (KS1.out _ _ HV4.out).mono ?_);rintro e w5 ⟨rfl,hb5⟩
        have HB5:=Lib.hid (HB4.out.trans (hb5.mono HB4.out.size))
        obtain ⟨xa0,xa1,xa2,xb0,xb1,xb2,xp0,xp1,xp2,xp3⟩:=KX.out w5 HB5.out
        clear hb5))
    go_ret
    exact ⟨rfl,HB1.out.trans (HB5.out.mono HB1.out.size)⟩
end Go.Proofs.YtccabpahfmoamaaGreat
end

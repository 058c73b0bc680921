/- Contracts that the laws lean on: R3M. -/
import Derived.Test.YtccabpahfmoamaaGreatFE50
import Derived.Test.YtccabpahfmoamaaGreatFE39
set_option maxHeartbeats 2000000
section
namespace Go.Proofs.YtccabpahfmoamaaGreat
open Go.RowKit Go.Proofs Go.Shelf
theorem r3solved_any (pts:Int) (A:Option Addr) (n c:Nat) (bs:List Bound) (w:World) (hl:Rd encBound 4 w A n c bs) (hk:checkSys pts bs=0):
 Calls Tryz.prog 98 #[.agg #[.int .i64 pts,.slice A n c]] w fun e w'=>e = .returned (.bool (solvedOk pts bs))∧Below w.heap.size w w':=by
 obtain ⟨w1,hw1,b1,z1,e1⟩:=alloc_facts w #[.int .i64 pts,.slice A n c] 73
 have KS:=Lib.hid (rSolve_any pts A n c bs w1 (hl.below b1 (Nat.le_refl _)) hk)
 obtain ⟨x0,x1⟩:w1.cell? ⟨w.heap.size,0,none⟩=some (.int .i64 pts)∧w1.cell? ⟨w.heap.size,1,none⟩=some (.slice A n c):=(by simp [World.cell?,e1])
 have HB1:=Lib.hid b1
 have HW1:=Lib.hid hw1
 clear hl hk b1 z1 hw1 e1
 generalize solvedOk pts bs=sv at *
 cases sv
 all_goals
  go_enter Tryz.func98,Tryz.ntmps98
  go_wp2_with (first
   | rw [HW1.out]
   | (go_at_call 140;(with_reducible refine (KS.out).mono ?_);rintro e w2 ⟨A2,n2,c2,rfl,hb2⟩;have HB2:=Lib.hid hb2;clear hb2))
  go_ret
  exact ⟨rfl,HB1.out.trans (HB2.out.mono HB1.out.size)⟩
theorem few_ways {n1 n2:Int} {b1 b2:List Bound} (h1:SysOk n1 b1) (hs:solvedOk n1 b1=false):circV n1 b1 n2 b2=(false,circleX n1 b1,true):=by
 have:=solved_circ h1
 rw [hs] at this
 unfold circV
 rw [if_pos (by simpa using this.symm)]
theorem few_dirs {n1 n2:Int} {b1 b2:List Bound} (h1:SysOk n1 b1) (h2:SysOk n2 b2) (hs:solvedOk n1 b1=true) (hd:solvedOk n2 b2=false):circV n1 b1 n2 b2=(true,circleX n2 b2,true):=by
 have e1:=solved_circ h1
 have e2:=solved_circ h2
 rw [hs] at e1
 rw [hd] at e2
 unfold circV
 rw [if_neg (by have:=e1.symm;simp at this;simp [this]),if_pos (by simpa using e2.symm)]
theorem few_none {n1 n2:Int} {b1 b2:List Bound} (h1:SysOk n1 b1) (h2:SysOk n2 b2) (hs:solvedOk n1 b1=true) (hd:solvedOk n2 b2=true):circV n1 b1 n2 b2=(false,[],false):=by
 have e1:=solved_circ h1
 have e2:=solved_circ h2
 rw [hs] at e1
 rw [hd] at e2
 unfold circV
 rw [if_neg (by have:=e1.symm;simp at this;simp [this]),if_neg (by have:=e2.symm;simp at this;simp [this])]
theorem rfewest_len (pts:Int) (A:Option Addr) (n c:Nat) (bs:List Bound) (w:World) (hl:Rd encBound 4 w A n c bs) (hk:checkSys pts bs=0):
 Calls Tryz.prog 99 #[.agg #[.int .i64 pts,.slice A n c]] w fun e w'=>e = .returned (.int .i64 (circleX pts bs).length)∧Below w.heap.size w w':=by
 refine (rfewest1_any pts A n c bs w hl (sysOk_of hk)).mono ?_
 rintro e w' ⟨best,rfl,hi,hb⟩
 rw [few_law (sysOk_of hk) hi]
 exact ⟨rfl,hb⟩
end Go.Proofs.YtccabpahfmoamaaGreat
end

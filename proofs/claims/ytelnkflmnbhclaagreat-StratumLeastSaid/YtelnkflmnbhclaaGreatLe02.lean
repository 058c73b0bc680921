/- Contracts that the laws lean on: RefA, RefB, Sml, RefC. -/
import Derived.Test.YtelnkflmnbhclaaGreatK03
import Derived.Test.YtelnkflmnbhclaaGreatK01
import Derived.BigRegion
import Derived.Test.YtelnkflmnbhclaaGreatK05
import Derived.Test.YtelnkflmnbhclaaGreatK06
import Derived.Deep.RegionHeld3
import Derived.Test.YtelnkflmnbhclaaGreatK04
import Derived.Deep.DeepCutAuto
section
namespace Go.Proofs.YtelnkflmnbhclaaGreat
open Go.RowKit Go.Proofs Go.Shelf
end Go.Proofs.YtelnkflmnbhclaaGreat
end
section
namespace Go.Proofs.YtelnkflmnbhclaaGreat
open Go.RowKit Go.Proofs Go.Shelf
end Go.Proofs.YtelnkflmnbhclaaGreat
end
section
namespace Go.Proofs.YtelnkflmnbhclaaGreat
open Go.RowKit Go.Proofs Go.Shelf
def fewB (nl nb:Nat) (most:Int):Bool:=decide (((nl:Int)≤most∨(140<nl∧nl≤143))∧(nb≤6∨(60<nb∧nb≤63)))
theorem fewB_small {nl nb:Nat} {most:Int} (h:fewB nl nb most=true) (hm:most≤143):nl≤143∧nb≤63:=by
 unfold fewB at h
 simp only [decide_eq_true_eq] at h
 omega
set_option maxHeartbeats 2000000 in
theorem few_any (A:Option Addr) (n c:Nat) (B:Option Addr) (m d:Nat) (most:Int) (w:World):
 Calls Tryz.prog 23 #[.slice A n c,.slice B m d,.int .i64 most] w fun e w'=>e = .returned (.bool (fewB n m most))∧w'=w:=by
 go_enter Tryz.func23,Tryz.ntmps23
 go_wp2
 all_goals go_ret
 all_goals refine ⟨retB ?_,rfl⟩
 all_goals
  unfold fewB
  rw [Bool.eq_iff_iff]
  simp only [Bool.and_eq_true,Bool.or_eq_true,decide_eq_true_eq,Bool.false_eq_true,false_iff,true_iff]
  omega
end Go.Proofs.YtelnkflmnbhclaaGreat
end
section
namespace Go.Proofs.YtelnkflmnbhclaaGreat
open Go.RowKit Go.Proofs Go.Shelf
theorem two_ (a b:Int):(a=b∧(a==b)=true∧(a != b)=false)∨(a≠b∧(a==b)=false∧(a != b)=true):=by by_cases h:a=b<;>simp [h]
end Go.Proofs.YtelnkflmnbhclaaGreat
end

/- Contracts that the laws lean on: RefL, RefG, RefD, Room, RefH, RefF, RefE, RefI, RefJ. -/
import Derived.Test.YtelnkflmnbhclaaGreatLe01
import Derived.Test.YtelnkflmnbhclaaGreatLe02
import Derived.Deep.DeepCutAuto
import Derived.Test.YtelnkflmnbhclaaGreatK04
import Derived.Test.YtelnkflmnbhclaaGreatK06
import Derived.Test.YtelnkflmnbhclaaGreatK01
import Derived.Deep.RegionHeld3
section
namespace Go.Proofs.YtelnkflmnbhclaaGreat
open Go.RowKit Go.Proofs Go.Shelf
end Go.Proofs.YtelnkflmnbhclaaGreat
end
section
namespace Go.Proofs.YtelnkflmnbhclaaGreat
open Go.RowKit Go.Proofs
end Go.Proofs.YtelnkflmnbhclaaGreat
end
section
namespace Go.Proofs.YtelnkflmnbhclaaGreat
open Go.RowKit Go.Proofs Go.Shelf
section
variable {P:Program} {α:Type} {enc:α→List Value} {k bytes n c B:Nat} {t e:TypeId} {w:World} {A:Option Addr} {xs:List α}
end
end Go.Proofs.YtelnkflmnbhclaaGreat
end
section
namespace Go.Proofs.YtelnkflmnbhclaaGreat
open Go.RowKit Go.Proofs Go.Shelf
structure Room (W:World) (g m:Nat):Prop where
 at_:∃ (cs:Array Value) (t:TypeId),W.heap[g]? = some (.cells cs t (0,0))∧m≤cs.size
theorem Room.cell {W:World} {g m o:Nat} (h:Room W g m) (ho:o<m):∃ v,W.cell? ⟨g,o,none⟩=some v:=by
 obtain ⟨cs,t,h1,h2⟩:=h.at_
 exact ⟨cs[o]'(by omega),by simp [World.cell?,h1,Array.getElem?_eq_getElem (show o<cs.size by omega)]⟩
theorem Room.free {W:World} {g m:Nat} (h:Room W g m) (o:Nat):W.frozen? ⟨g,o,none⟩=false:=by
 obtain ⟨cs,t,h1,h2⟩:=h.at_
 simp [World.frozen?,h1]
theorem Room.lt {W:World} {g m:Nat} (h:Room W g m):g<W.heap.size:=by
 obtain ⟨cs,t,h1,h2⟩:=h.at_
 exact (Array.getElem?_eq_some_iff.1 h1).1
theorem Room.setCell {W:World} {g m:Nat} (h:Room W g m) (o:Nat) (v:Value):Room (W.setCell ⟨g,o,none⟩ v) g m:=by
 obtain ⟨cs,t,h1,h2⟩:=h.at_
 exact ⟨_,t,heap_setCell_obj h1,by simpa using h2⟩
def eqBond (x y:Bond):Bool:=decide (x=y)
theorem equalInBond (d:Nat) (a b c e r a' b' c' e' r':Int) (w:World):(Op.equalIn (d+3) 50 (.agg #[.int .i64 a,.int .i64 b,.int .i64 c,.int .i64 e,.int .i64 r]) (.agg #[.int .i64 a',.int .i64 b',.int .i64 c',.int .i64 e',.int .i64 r'])).run Tryz.prog w
 = .ok (eqBond ⟨⟨a,b⟩,⟨c,e⟩,r⟩ ⟨⟨a',b'⟩,⟨c',e'⟩,r'⟩) w:=by
 have hS:Tryz.prog.underlying 50=some (.struct (Tryz.prog.fieldsOf 50)):=by kernel_rfl
 have hp:Tryz.prog.stoodInHeld 50=false:=by kernel_rfl
 have hP:=fun a b a' b'=>equalInPlace d a b a' b' w
 rw [run_equalIn_agg w (d+2) 50 _ _ hS hp]
 simp only [Program.fieldsOf,Tryz.underlying50]
 go_simp
 simp only [eqBond,Bond.mk.injEq]
 (repeat' split)<;>simp_all
@[go_sem ↓ high] theorem neqBond (a b c e r a' b' c' e' r':Int) (w:World):
   (binOp .neq 50 (.agg #[.int .i64 a,.int .i64 b,.int .i64 c,.int .i64 e,.int .i64 r]) (.agg #[.int .i64 a',.int .i64 b',.int .i64 c',.int .i64 e',.int .i64 r'])).run Tryz.prog w
     = .ok (.bool (!eqBond ⟨⟨a,b⟩,⟨c,e⟩,r⟩ ⟨⟨a',b'⟩,⟨c',e'⟩,r'⟩)) w:=by
  rw [run_neq_struct,show (10000:Nat)=9997+3 from rfl,equalInBond];rfl
@[go_sem ↓ high] theorem eqGuardBond (op:BinOp) (x y:Operand) (xs ys:Array Value) (w:World):(eqGuard op 50 x y (.agg xs) (.agg ys)).run Tryz.prog w = .ok () w:=
  run_eqGuard_agg w op 50 x y xs ys (by kernel_rfl)
end Go.Proofs.YtelnkflmnbhclaaGreat
end
section
namespace Go.Proofs.YtelnkflmnbhclaaGreat
open Go.RowKit Go.Proofs Go.Shelf
end Go.Proofs.YtelnkflmnbhclaaGreat
end
section
namespace Go.Proofs.YtelnkflmnbhclaaGreat
open Go.RowKit Go.Proofs
end Go.Proofs.YtelnkflmnbhclaaGreat
end
section
namespace Go.Proofs.YtelnkflmnbhclaaGreat
open Go.RowKit Go.Proofs Go.Shelf
end Go.Proofs.YtelnkflmnbhclaaGreat
end
section
namespace Go.Proofs.YtelnkflmnbhclaaGreat
open Go.RowKit Go.Proofs Go.Shelf
structure AdmAt (W:World) (g:Nat) (p:Place) (y:Admit):Prop where
 at_:W.heap[g]? = some (.cells #[.int .i64 p.pit,.int .i64 p.layer,.int .i64 y.cost,.int .i64 y.by_] 96 (0,0))
theorem AdmAt.cell {W:World} {g:Nat} {p:Place} {y:Admit} (h:AdmAt W g p y):
 W.cell? ⟨g,0,none⟩=some (.int .i64 p.pit)∧W.cell? ⟨g,1,none⟩=some (.int .i64 p.layer)∧W.cell? ⟨g,2,none⟩=some (.int .i64 y.cost)∧W.cell? ⟨g,3,none⟩=some (.int .i64 y.by_)∧W.frozen? ⟨g,2,none⟩=false∧W.frozen? ⟨g,3,none⟩=false:=by
 have h1:=h.at_
 refine ⟨?_,?_,?_,?_,?_,?_⟩<;>simp [World.cell?,World.frozen?,h1]
end Go.Proofs.YtelnkflmnbhclaaGreat
end
section
namespace Go.Proofs.YtelnkflmnbhclaaGreat
open Go.RowKit Go.Proofs Go.Shelf
end Go.Proofs.YtelnkflmnbhclaaGreat
end

/- Contracts that the laws lean on: Open2, CDaR, Keep, CDat, RCdR, RCdS, RCdt, DatL. -/
import Derived.Test.YtelnkflmnbhclaaGreatPfH03
import Derived.Test.YtelnkflmnbhclaaGreatPfH10
import Derived.Test.YtelnkflmnbhclaaGreatPfK24
set_option maxRecDepth 100000
section
namespace Go.Proofs.YtelnkflmnbhclaaGreat
open Go.RowKit Go.Proofs Go.ChangeShapes Go.WideShapes Go.Deep
section
variable {H:Type} {enc:TypeId×Value→H} {w:World} {base:Nat} {spare:Nat→Bool} {held:Bool}
theorem decLink {fuel:Nat} {cs:List Value} {x:DataW H×List MemPlace} (h:DataW.trod enc Tryz.prog w base spare held fuel 74 cs=some x):∃ y:Link,cs=encLink y:=by
 obtain ⟨xs,m,_,_,hl,hxl,hf⟩:=DataW.trod_struct Tryz.underlying74 h;rw [show Tryz.prog.cellsOf 74=6 by kernel_rfl] at hl
 match cs,hl with
 | [c0,c1,c2,c3,c4,c5],_=>
   obtain ⟨y0,g0⟩:=field_read hf hxl 0 rfl 37 0 2 rfl rfl cellsPl;obtain ⟨y1,g1⟩:=field_read hf hxl 1 rfl 37 2 2 rfl rfl cellsPl;obtain ⟨y2,g2⟩:=field_read hf hxl 2 rfl 3 4 1 rfl rfl cellsInt;obtain ⟨y3,g3⟩:=field_read hf hxl 3 rfl 3 5 1 rfl rfl cellsInt;simp only [List.drop_zero,List.drop_succ_cons,List.take_succ_cons,List.take_zero] at g0 g1 g2 g3;obtain ⟨a,ha⟩:=decPlace g0;obtain ⟨b,hb⟩:=decPlace g1;obtain ⟨a2,rfl,_⟩:=one_int Tryz.underlying3 g2;obtain ⟨a3,rfl,_⟩:=one_int Tryz.underlying3 g3;cases ha;cases hb;exact ⟨⟨a,b,a2,a3⟩,rfl⟩
end
end Go.Proofs.YtelnkflmnbhclaaGreat
end
section
namespace Go.Proofs.YtelnkflmnbhclaaGreat
open Go.RowKit Go.Proofs
open Go.Shelf
end Go.Proofs.YtelnkflmnbhclaaGreat
end
section
namespace Go.Proofs.YtelnkflmnbhclaaGreat
open Go.RowKit Go.Proofs
open Go.Shelf
section
variable {l:List Trace} {known:Int} {bs:List Bond} {mv:List Place}
end
end Go.Proofs.YtelnkflmnbhclaaGreat
end

/- Contracts that the laws lean on: RHas, ToldR, RTold, RMov, LnkR, RLnk. -/
import Derived.Test.YtelnkflmnbhclaaGreatLe02
import Derived.Test.YtelnkflmnbhclaaGreatK14
import Derived.Test.YtelnkflmnbhclaaGreatLe08
import Derived.Test.YtelnkflmnbhclaaGreatK10
import Derived.Test.YtelnkflmnbhclaaGreatK02
import Derived.Test.YtelnkflmnbhclaaGreatK09
import Derived.Test.YtelnkflmnbhclaaGreatK04
import Derived.Test.YtelnkflmnbhclaaGreatK23
import Derived.Test.YtelnkflmnbhclaaGreatLe01
import Derived.Test.YtelnkflmnbhclaaGreatK17
section
namespace Go.Proofs.YtelnkflmnbhclaaGreat
open Go.RowKit Go.Proofs Go.Shelf
theorem snoc_anyP {α:Type} {l:List α} {k:Nat} {y:α} (hy:l[k]? = some y) (p:α→Bool):(l.take (k+1)).any p=((l.take k).any p||p y):=by
 rw [List.take_add_one,hy,Option.toList_some,List.any_append];simp
theorem eqPlace_comm (x y:Place):eqPlace x y=eqPlace y x:=by unfold eqPlace;simp [eq_comm]
set_option maxHeartbeats 2000000 in
set_option maxRecDepth 100000 in
theorem rHas_any (A:Option Addr) (n c:Nat) (l:List Place) (p:Place) (w:World) (hl:Rd encPlace 2 w A n c l):
 Calls Tryz.prog 65 #[.slice A n c,.agg #[.int .i64 p.pit,.int .i64 p.layer]] w fun e w'=>e = .returned (.bool (hasPl l p))∧Below w.heap.size w w':=by
 obtain ⟨w1,hw1⟩:∃ w1,w.alloc (.cells #[.int .i64 p.pit,.int .i64 p.layer] 37)=w1:=⟨_,rfl⟩
 have hb1:Below w.heap.size w w1:=(by rw [←hw1];exact (Below.refl _ w).alloc (Nat.le_refl _) _)
 have hz1:w1.heap.size=w.heap.size+1:=(by rw [←hw1];simp)
 have hr1:w1.heap[w.heap.size]? = some (.cells #[.int .i64 p.pit,.int .i64 p.layer] 37 (0,0)):=(by rw [←hw1];exact heap_alloc_new w _)
 have CELLS:Hid (∀ W:World,Below w1.heap.size w1 W→W.cell? ⟨w.heap.size,0,none⟩=some (.int .i64 p.pit)∧W.cell? ⟨w.heap.size,1,none⟩=some (.int .i64 p.layer)):=(show ∀ W:World,Below w1.heap.size w1 W→W.cell? ⟨w.heap.size,0,none⟩=some (.int .i64 p.pit)∧W.cell? ⟨w.heap.size,1,none⟩=some (.int .i64 p.layer) from fun W hb=>by
  have:=(hb.block _ (by omega)).trans hr1
  simp [World.cell?,this])
 have HL:=Lib.hid (hl.below hb1 (Nat.le_refl _))
 have hnl:=Lib.hid hl.len
 have hbig:=hl.big
 clear hl hr1
 go_enter Tryz.func65,Tryz.ntmps65
 go_wp2_with (fail)
 go_loopw [5] (fun i wr=> ∃ k:Nat,k≤n∧i = .int .i64 k∧Hid (Below w1.heap.size w1 wr)∧Hid ((l.take k).any (fun x=>eqPlace p x)=false)) (fun i _=>n-(intOf i).toNat)
 case atStart=>exact ⟨0,Nat.zero_le _,rfl,(show Below _ _ _ from Below.refl _ _),(show _=_ from rfl)⟩
 case round=>
  obtain ⟨k,hk,rfl,hb,hno⟩:=hrel
  have hzr:=hb.out.size
  obtain ⟨p0,p1⟩:=CELLS.out wr hb.out
  have hxlt:w.heap.size<wr.heap.size:=(by omega)
  by_cases hlt:k<n
  · obtain ⟨b,off,y,rfl,hbw,hy,hcell⟩:=(HL.out.below hb.out (Nat.le_refl _)).one hlt
    have y0:wr.cell? ⟨b,off+k * 2,none⟩=some (.int .i64 y.pit):=hcell 0 _ rfl
    have y1:wr.cell? ⟨b,off+k * 2+1,none⟩=some (.int .i64 y.layer):=hcell 1 _ rfl
    have SN:Hid ((l.take (k+1)).any (fun x=>eqPlace p x)=eqPlace p y):=(show _=_ by rw [snoc_anyP hy,hno.out,Bool.false_or])
    have HM:=Lib.hid (List.mem_of_getElem? hy)
    clear hcell hy
    cases hq:eqPlace ⟨y.pit,y.layer⟩ ⟨p.pit,p.layer⟩ with
    | true=>
      have HQ:=Lib.hid hq
      go_wp2_with (go_quiet (fail))
      go_ret
      exact ⟨retB (Eq.symm (List.any_eq_true.2 ⟨y,HM.out,by rw [eqPlace_comm];exact HQ.out⟩)),below_drewN' (hb1.trans (hb.out.mono (by omega))) _⟩
    | false=>
      have HQ:=Lib.hid hq
      go_wp2_with (go_quiet (fail))
      go_roundw
      all_goals first
       | (simp [intOf];omega)
       | exact ⟨k+1,by omega,by go_num,(show Below _ _ _ from below_drewN' hb.out _),(show _=_ by rw [SN.out,eqPlace_comm];exact HQ.out)⟩
  · have hkn:k=n:=by omega
    subst hkn
    have hn:=hno.out
    rw [List.take_of_length_le (by rw [hnl.out];exact Nat.le_refl _)] at hn
    have HN:=Lib.hid hn
    clear hn
    go_wp2
    go_ret
    exact ⟨retB (show false=hasPl l p from HN.out.symm),hb1.trans (hb.out.mono (by omega))⟩
end Go.Proofs.YtelnkflmnbhclaaGreat
end
section
namespace Go.Proofs.YtelnkflmnbhclaaGreat
open Go.RowKit Go.Proofs Go.Shelf
end Go.Proofs.YtelnkflmnbhclaaGreat
end
section
namespace Go.Proofs.YtelnkflmnbhclaaGreat
open Go.RowKit Go.Proofs Go.Shelf
end Go.Proofs.YtelnkflmnbhclaaGreat
end
section
namespace Go.Proofs.YtelnkflmnbhclaaGreat
open Go.RowKit Go.Proofs Go.Shelf
end Go.Proofs.YtelnkflmnbhclaaGreat
end
section
namespace Go.Proofs.YtelnkflmnbhclaaGreat
open Go.RowKit Go.Proofs Go.Shelf
end Go.Proofs.YtelnkflmnbhclaaGreat
end
section
namespace Go.Proofs.YtelnkflmnbhclaaGreat
open Go.RowKit Go.Proofs Go.Shelf
end Go.Proofs.YtelnkflmnbhclaaGreat
end

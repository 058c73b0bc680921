/- Contracts that the laws lean on: Fresh, Same. -/
import Derived.Test.YtelnkflmnbhclaaGreatRaH02
set_option maxRecDepth 100000
set_option maxHeartbeats 2000000
section
namespace Go.Proofs.YtelnkflmnbhclaaGreat
open Go.RowKit Go.Proofs
theorem Own.fresh {α:Type} (enc:α→List Value) (k:Nat) (e:TypeId) {B:Nat} (w:World) (hB:B≤w.heap.size):Own enc k e B (w.alloc (.cells #[] e)) (some ⟨w.heap.size,0,none⟩) 0 0 []:=
 ⟨rfl,by simp,.inr ⟨w.heap.size,0,#[],rfl,hB,heap_alloc_new w _,Nat.le_refl _,by decide,by simp,by simp⟩⟩
open Go.Shelf
theorem rSamePlaces_refl (A:Option Addr) (n c:Nat) (B:Option Addr) (d:Nat) (xs:List Place) (w:World) (h1:Rd encPlace 2 w A n c xs) (h2:Rd encPlace 2 w B n d xs):
 Calls Tryz.prog 31 #[.slice A n c,.slice B n d] w fun e w'=>e = .returned (.bool true)∧Below w.heap.size w w':=by
 have H1:=Lib.hid h1;have H2:=Lib.hid h2;have hbig:=h1.big;clear h1 h2;go_enter Tryz.func31,Tryz.ntmps31;go_wp2;go_loopw [5] (fun i wr=> ∃ k:Nat,k≤n∧i = .int .i64 k∧Hid (Below w.heap.size w wr)) (fun i _=>n-(intOf i).toNat)
 case atStart=>exact ⟨0,Nat.zero_le _,rfl,(show Below _ _ _ from Below.refl _ _)⟩
 case round=>
  obtain ⟨k,hk,rfl,hb⟩:=hrel;have hzr:=hb.out.size;by_cases hlt:k<n
  · obtain ⟨b,off,x,rfl,hbw,hx,hcell⟩:=(H1.out.below hb.out (Nat.le_refl _)).one hlt
    obtain ⟨b2,off2,y,rfl,hbw2,hy,hcell2⟩:=(H2.out.below hb.out (Nat.le_refl _)).one hlt;obtain rfl:y=x:=Option.some.inj (hy.symm.trans hx);have c0:wr.cell? ⟨b,off+k * 2,none⟩=some (.int .i64 y.pit):=hcell 0 _ rfl;have d0:wr.cell? ⟨b2,off2+k * 2,none⟩=some (.int .i64 y.pit):=hcell2 0 _ rfl;have c1:wr.cell? ⟨b,off+k * 2+1,none⟩=some (.int .i64 y.layer):=hcell 1 _ rfl;have d1:wr.cell? ⟨b2,off2+k * 2+1,none⟩=some (.int .i64 y.layer):=hcell2 1 _ rfl
    have heq:eqPlace ⟨y.pit,y.layer⟩ ⟨y.pit,y.layer⟩=true:=(by simp [eqPlace])
    clear hcell hcell2 hx hy;go_wp2_with (go_quiet (fail));go_roundw
    all_goals first
     | (simp [intOf];omega)
     | exact ⟨k+1,by omega,by go_num,(show Below _ _ _ from below_drewN' hb.out _)⟩
  · have hkn:k=n:=by omega
    subst hkn;go_wp2;go_ret;exact ⟨rfl,hb.out⟩
end Go.Proofs.YtelnkflmnbhclaaGreat
end

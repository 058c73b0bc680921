/- Contracts that the laws lean on: Fresh, Same. -/
import Derived.Test.YtelnkflmnbhclaaGreatK01
import Derived.Test.YtelnkflmnbhclaaGreatH02
import Derived.Test.YtelnkflmnbhclaaGreatK04
section
namespace Go.Proofs.YtelnkflmnbhclaaGreat
open Go.RowKit Go.Proofs
theorem Own.fresh {α:Type} (enc:α→List Value) (k:Nat) (e:TypeId) {B:Nat} (w:World) (hB:B≤w.heap.size):Own enc k e B (w.alloc (.cells #[] e)) (some ⟨w.heap.size,0,none⟩) 0 0 []:=
 ⟨rfl,by simp,.inr ⟨w.heap.size,0,#[],rfl,hB,heap_alloc_new w _,Nat.le_refl _,by decide,by simp,by simp⟩⟩
end Go.Proofs.YtelnkflmnbhclaaGreat
end
section
namespace Go.Proofs.YtelnkflmnbhclaaGreat
open Go.RowKit Go.Proofs Go.Shelf
set_option maxHeartbeats 2000000 in
set_option maxRecDepth 100000 in
theorem rSame_refl (A:Option Addr) (n c:Nat) (B:Option Addr) (d:Nat) (xs:List Trace) (w:World) (h1:Rd encTrace 10 w A n c xs) (h2:Rd encTrace 10 w B n d xs):
 Calls Tryz.prog 47 #[.slice A n c,.slice B n d] w fun e w'=>e = .returned (.bool true)∧Below w.heap.size w w':=by
 have H1:=Lib.hid h1
 have H2:=Lib.hid h2
 have hbig:=h1.big
 clear h1 h2
 go_enter Tryz.func47,Tryz.ntmps47
 go_wp2
 go_loopw [5] (fun i wr=> ∃ k:Nat,k≤n∧i = .int .i64 k∧Hid (Below w.heap.size w wr)) (fun i _=>n-(intOf i).toNat)
 case atStart=>exact ⟨0,Nat.zero_le _,rfl,(show Below _ _ _ from Below.refl _ _)⟩
 case round=>
  obtain ⟨k,hk,rfl,hb⟩:=hrel
  have hzr:=hb.out.size
  by_cases hlt:k<n
  · obtain ⟨b,off,x,rfl,hbw,hx,hcell⟩:=(H1.out.below hb.out (Nat.le_refl _)).one hlt
    obtain ⟨b2,off2,y,rfl,hbw2,hy,hcell2⟩:=(H2.out.below hb.out (Nat.le_refl _)).one hlt
    obtain rfl:y=x:=Option.some.inj (hy.symm.trans hx)
    have c0:wr.cell? ⟨b,off+k * 10,none⟩=some (.int .i64 y.id):=hcell 0 _ rfl
    have d0:wr.cell? ⟨b2,off2+k * 10,none⟩=some (.int .i64 y.id):=hcell2 0 _ rfl
    have c1:wr.cell? ⟨b,off+k * 10+1,none⟩=some (.int .i64 y.known):=hcell 1 _ rfl
    have d1:wr.cell? ⟨b2,off2+k * 10+1,none⟩=some (.int .i64 y.known):=hcell2 1 _ rfl
    have c2:wr.cell? ⟨b,off+k * 10+2,none⟩=some (.int .u8 y.kind):=hcell 2 _ rfl
    have d2:wr.cell? ⟨b2,off2+k * 10+2,none⟩=some (.int .u8 y.kind):=hcell2 2 _ rfl
    have c3:wr.cell? ⟨b,off+k * 10+3,none⟩=some (.int .i64 y.pit):=hcell 3 _ rfl
    have d3:wr.cell? ⟨b2,off2+k * 10+3,none⟩=some (.int .i64 y.pit):=hcell2 3 _ rfl
    have c4:wr.cell? ⟨b,off+k * 10+4,none⟩=some (.int .i64 y.layer):=hcell 4 _ rfl
    have d4:wr.cell? ⟨b2,off2+k * 10+4,none⟩=some (.int .i64 y.layer):=hcell2 4 _ rfl
    have c5:wr.cell? ⟨b,off+k * 10+5,none⟩=some (.int .i64 y.lower):=hcell 5 _ rfl
    have d5:wr.cell? ⟨b2,off2+k * 10+5,none⟩=some (.int .i64 y.lower):=hcell2 5 _ rfl
    have c6:wr.cell? ⟨b,off+k * 10+6,none⟩=some (.int .i64 y.low):=hcell 6 _ rfl
    have d6:wr.cell? ⟨b2,off2+k * 10+6,none⟩=some (.int .i64 y.low):=hcell2 6 _ rfl
    have c7:wr.cell? ⟨b,off+k * 10+7,none⟩=some (.int .i64 y.high):=hcell 7 _ rfl
    have d7:wr.cell? ⟨b2,off2+k * 10+7,none⟩=some (.int .i64 y.high):=hcell2 7 _ rfl
    have c8:wr.cell? ⟨b,off+k * 10+8,none⟩=some (.int .i64 y.cost):=hcell 8 _ rfl
    have d8:wr.cell? ⟨b2,off2+k * 10+8,none⟩=some (.int .i64 y.cost):=hcell2 8 _ rfl
    have c9:wr.cell? ⟨b,off+k * 10+9,none⟩=some (.int .i64 y.void):=hcell 9 _ rfl
    have d9:wr.cell? ⟨b2,off2+k * 10+9,none⟩=some (.int .i64 y.void):=hcell2 9 _ rfl
    have heq:eqTrace ⟨y.id,y.known,y.kind,y.pit,y.layer,y.lower,y.low,y.high,y.cost,y.void⟩ ⟨y.id,y.known,y.kind,y.pit,y.layer,y.lower,y.low,y.high,y.cost,y.void⟩=true:=(by simp [eqTrace])
    clear hcell hcell2 hx hy
    go_wp2_with (go_quiet (fail))
    go_roundw
    all_goals first
     | (simp [intOf];omega)
     | exact ⟨k+1,by omega,by go_num,(show Below _ _ _ from below_drewN' hb.out _)⟩
  · have hkn:k=n:=by omega
    subst hkn
    go_wp2
    go_ret
    exact ⟨rfl,hb.out⟩
set_option maxHeartbeats 2000000 in
set_option maxRecDepth 100000 in
theorem rSamePlaces_refl (A:Option Addr) (n c:Nat) (B:Option Addr) (d:Nat) (xs:List Place) (w:World) (h1:Rd encPlace 2 w A n c xs) (h2:Rd encPlace 2 w B n d xs):
 Calls Tryz.prog 31 #[.slice A n c,.slice B n d] w fun e w'=>e = .returned (.bool true)∧Below w.heap.size w w':=by
 have H1:=Lib.hid h1
 have H2:=Lib.hid h2
 have hbig:=h1.big
 clear h1 h2
 go_enter Tryz.func31,Tryz.ntmps31
 go_wp2
 go_loopw [5] (fun i wr=> ∃ k:Nat,k≤n∧i = .int .i64 k∧Hid (Below w.heap.size w wr)) (fun i _=>n-(intOf i).toNat)
 case atStart=>exact ⟨0,Nat.zero_le _,rfl,(show Below _ _ _ from Below.refl _ _)⟩
 case round=>
  obtain ⟨k,hk,rfl,hb⟩:=hrel
  have hzr:=hb.out.size
  by_cases hlt:k<n
  · obtain ⟨b,off,x,rfl,hbw,hx,hcell⟩:=(H1.out.below hb.out (Nat.le_refl _)).one hlt
    obtain ⟨b2,off2,y,rfl,hbw2,hy,hcell2⟩:=(H2.out.below hb.out (Nat.le_refl _)).one hlt
    obtain rfl:y=x:=Option.some.inj (hy.symm.trans hx)
    have c0:wr.cell? ⟨b,off+k * 2,none⟩=some (.int .i64 y.pit):=hcell 0 _ rfl
    have d0:wr.cell? ⟨b2,off2+k * 2,none⟩=some (.int .i64 y.pit):=hcell2 0 _ rfl
    have c1:wr.cell? ⟨b,off+k * 2+1,none⟩=some (.int .i64 y.layer):=hcell 1 _ rfl
    have d1:wr.cell? ⟨b2,off2+k * 2+1,none⟩=some (.int .i64 y.layer):=hcell2 1 _ rfl
    have heq:eqPlace ⟨y.pit,y.layer⟩ ⟨y.pit,y.layer⟩=true:=(by simp [eqPlace])
    clear hcell hcell2 hx hy
    go_wp2_with (go_quiet (fail))
    go_roundw
    all_goals first
     | (simp [intOf];omega)
     | exact ⟨k+1,by omega,by go_num,(show Below _ _ _ from below_drewN' hb.out _)⟩
  · have hkn:k=n:=by omega
    subst hkn
    go_wp2
    go_ret
    exact ⟨rfl,hb.out⟩
set_option maxHeartbeats 2000000 in
set_option maxRecDepth 100000 in
theorem rSameAdmits_refl (A:Option Addr) (n c:Nat) (B:Option Addr) (d:Nat) (xs:List Admit) (w:World) (h1:Rd encAdmit 4 w A n c xs) (h2:Rd encAdmit 4 w B n d xs):
 Calls Tryz.prog 32 #[.slice A n c,.slice B n d] w fun e w'=>e = .returned (.bool true)∧Below w.heap.size w w':=by
 have H1:=Lib.hid h1
 have H2:=Lib.hid h2
 have hbig:=h1.big
 clear h1 h2
 go_enter Tryz.func32,Tryz.ntmps32
 go_wp2
 go_loopw [5] (fun i wr=> ∃ k:Nat,k≤n∧i = .int .i64 k∧Hid (Below w.heap.size w wr)) (fun i _=>n-(intOf i).toNat)
 case atStart=>exact ⟨0,Nat.zero_le _,rfl,(show Below _ _ _ from Below.refl _ _)⟩
 case round=>
  obtain ⟨k,hk,rfl,hb⟩:=hrel
  have hzr:=hb.out.size
  by_cases hlt:k<n
  · obtain ⟨b,off,x,rfl,hbw,hx,hcell⟩:=(H1.out.below hb.out (Nat.le_refl _)).one hlt
    obtain ⟨b2,off2,y,rfl,hbw2,hy,hcell2⟩:=(H2.out.below hb.out (Nat.le_refl _)).one hlt
    obtain rfl:y=x:=Option.some.inj (hy.symm.trans hx)
    have c0:wr.cell? ⟨b,off+k * 4,none⟩=some (.int .i64 y.place.pit):=hcell 0 _ rfl
    have d0:wr.cell? ⟨b2,off2+k * 4,none⟩=some (.int .i64 y.place.pit):=hcell2 0 _ rfl
    have c1:wr.cell? ⟨b,off+k * 4+1,none⟩=some (.int .i64 y.place.layer):=hcell 1 _ rfl
    have d1:wr.cell? ⟨b2,off2+k * 4+1,none⟩=some (.int .i64 y.place.layer):=hcell2 1 _ rfl
    have c2:wr.cell? ⟨b,off+k * 4+2,none⟩=some (.int .i64 y.cost):=hcell 2 _ rfl
    have d2:wr.cell? ⟨b2,off2+k * 4+2,none⟩=some (.int .i64 y.cost):=hcell2 2 _ rfl
    have c3:wr.cell? ⟨b,off+k * 4+3,none⟩=some (.int .i64 y.by_):=hcell 3 _ rfl
    have d3:wr.cell? ⟨b2,off2+k * 4+3,none⟩=some (.int .i64 y.by_):=hcell2 3 _ rfl
    have heq:eqAdmit ⟨⟨y.place.pit,y.place.layer⟩,y.cost,y.by_⟩ ⟨⟨y.place.pit,y.place.layer⟩,y.cost,y.by_⟩=true:=(by simp [eqAdmit])
    clear hcell hcell2 hx hy
    go_wp2_with (go_quiet (fail))
    go_roundw
    all_goals first
     | (simp [intOf];omega)
     | exact ⟨k+1,by omega,by go_num,(show Below _ _ _ from below_drewN' hb.out _)⟩
  · have hkn:k=n:=by omega
    subst hkn
    go_wp2
    go_ret
    exact ⟨rfl,hb.out⟩
set_option maxHeartbeats 2000000 in
set_option maxRecDepth 100000 in
theorem rSameLinks_refl (A:Option Addr) (n c:Nat) (B:Option Addr) (d:Nat) (xs:List Link) (w:World) (h1:Rd encLink 6 w A n c xs) (h2:Rd encLink 6 w B n d xs):
 Calls Tryz.prog 33 #[.slice A n c,.slice B n d] w fun e w'=>e = .returned (.bool true)∧Below w.heap.size w w':=by
 have H1:=Lib.hid h1
 have H2:=Lib.hid h2
 have hbig:=h1.big
 clear h1 h2
 go_enter Tryz.func33,Tryz.ntmps33
 go_wp2
 go_loopw [5] (fun i wr=> ∃ k:Nat,k≤n∧i = .int .i64 k∧Hid (Below w.heap.size w wr)) (fun i _=>n-(intOf i).toNat)
 case atStart=>exact ⟨0,Nat.zero_le _,rfl,(show Below _ _ _ from Below.refl _ _)⟩
 case round=>
  obtain ⟨k,hk,rfl,hb⟩:=hrel
  have hzr:=hb.out.size
  by_cases hlt:k<n
  · obtain ⟨b,off,x,rfl,hbw,hx,hcell⟩:=(H1.out.below hb.out (Nat.le_refl _)).one hlt
    obtain ⟨b2,off2,y,rfl,hbw2,hy,hcell2⟩:=(H2.out.below hb.out (Nat.le_refl _)).one hlt
    obtain rfl:y=x:=Option.some.inj (hy.symm.trans hx)
    have c0:wr.cell? ⟨b,off+k * 6,none⟩=some (.int .i64 y.src.pit):=hcell 0 _ rfl
    have d0:wr.cell? ⟨b2,off2+k * 6,none⟩=some (.int .i64 y.src.pit):=hcell2 0 _ rfl
    have c1:wr.cell? ⟨b,off+k * 6+1,none⟩=some (.int .i64 y.src.layer):=hcell 1 _ rfl
    have d1:wr.cell? ⟨b2,off2+k * 6+1,none⟩=some (.int .i64 y.src.layer):=hcell2 1 _ rfl
    have c2:wr.cell? ⟨b,off+k * 6+2,none⟩=some (.int .i64 y.dst.pit):=hcell 2 _ rfl
    have d2:wr.cell? ⟨b2,off2+k * 6+2,none⟩=some (.int .i64 y.dst.pit):=hcell2 2 _ rfl
    have c3:wr.cell? ⟨b,off+k * 6+3,none⟩=some (.int .i64 y.dst.layer):=hcell 3 _ rfl
    have d3:wr.cell? ⟨b2,off2+k * 6+3,none⟩=some (.int .i64 y.dst.layer):=hcell2 3 _ rfl
    have c4:wr.cell? ⟨b,off+k * 6+4,none⟩=some (.int .i64 y.most):=hcell 4 _ rfl
    have d4:wr.cell? ⟨b2,off2+k * 6+4,none⟩=some (.int .i64 y.most):=hcell2 4 _ rfl
    have c5:wr.cell? ⟨b,off+k * 6+5,none⟩=some (.int .i64 y.by_):=hcell 5 _ rfl
    have d5:wr.cell? ⟨b2,off2+k * 6+5,none⟩=some (.int .i64 y.by_):=hcell2 5 _ rfl
    have heq:eqLink ⟨⟨y.src.pit,y.src.layer⟩,⟨y.dst.pit,y.dst.layer⟩,y.most,y.by_⟩ ⟨⟨y.src.pit,y.src.layer⟩,⟨y.dst.pit,y.dst.layer⟩,y.most,y.by_⟩=true:=(by simp [eqLink])
    clear hcell hcell2 hx hy
    go_wp2_with (go_quiet (fail))
    go_roundw
    all_goals first
     | (simp [intOf];omega)
     | exact ⟨k+1,by omega,by go_num,(show Below _ _ _ from below_drewN' hb.out _)⟩
  · have hkn:k=n:=by omega
    subst hkn
    go_wp2
    go_ret
    exact ⟨rfl,hb.out⟩
end Go.Proofs.YtelnkflmnbhclaaGreat
end

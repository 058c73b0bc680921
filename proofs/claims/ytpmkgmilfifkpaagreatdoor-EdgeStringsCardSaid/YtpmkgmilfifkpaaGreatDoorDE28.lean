/- Contracts that the laws lean on: StrN, StrW, StrV. -/
import Derived.Test.YtpmkgmilfifkpaaGreatDoorDE27
import Derived.Test.YtpmkgmilfifkpaaGreatDoorDE14
set_option maxRecDepth 100000
set_option maxHeartbeats 8000000
section
namespace Go.Proofs.YtpmkgmilfifkpaaGreatDoor
open Go.RowKit Go.Proofs Go.Shelf
theorem numB_one {m:Nat} (h:m<10):numB (m:Int) = [UInt8.ofNat (48+m)]:=by unfold numB;rw [Int.toNat_natCast,Lib.decDigits_one h]
theorem conv_one (w:World) (b:UInt8) (z:Int) (hz:z=b.toNat) (c:Nat):(convert 109 9 (.slice (some ⟨w.heap.size,0,none⟩) 1 c)).run Tryz.prog (w.alloc (.cells #[.int .u8 z] 5)) = .ok (.string ⟨#[b]⟩) (w.alloc (.cells #[.int .u8 z] 5)):=by
 have h:=run_convert_bytes_back (P:=Tryz.prog) (w.alloc (.cells #[.int .u8 z] 5)) 109 9 5 ⟨w.heap.size,0,none⟩ c [b] Tryz.underlying109 Tryz.underlying5 Tryz.underlying9 (fun j hj=>by
  have:j=0:=by simp at hj;omega
  subst this
  subst hz
  rw [show (Addr.add ⟨w.heap.size,0,none⟩ 0)=⟨w.heap.size,0,none⟩ from rfl,World.cell?_alloc_new]
  rfl)
 exact h
theorem r3num_0 (w:World):Calls Tryz.prog 25 #[.int .i64 0] w fun e w'=>e = .returned (.string ⟨#[48]⟩)∧Below w.heap.size w w':=by
 have hcv:=conv_one w 48 48 rfl
 go_enter Tryz.func25,Tryz.ntmps25
 go_wp2
 go_ret
 exact ⟨rfl,(Below.refl _ _).alloc (Nat.le_refl _) _⟩
theorem r3num_1 (w:World):Calls Tryz.prog 25 #[.int .i64 1] w fun e w'=>e = .returned (.string ⟨#[49]⟩)∧Below w.heap.size w w':=by
 have hcv:=conv_one w 49 49 rfl
 go_enter Tryz.func25,Tryz.ntmps25
 go_wp2
 go_ret
 exact ⟨rfl,(Below.refl _ _).alloc (Nat.le_refl _) _⟩
theorem r3num_2 (w:World):Calls Tryz.prog 25 #[.int .i64 2] w fun e w'=>e = .returned (.string ⟨#[50]⟩)∧Below w.heap.size w w':=by
 have hcv:=conv_one w 50 50 rfl
 go_enter Tryz.func25,Tryz.ntmps25
 go_wp2
 go_ret
 exact ⟨rfl,(Below.refl _ _).alloc (Nat.le_refl _) _⟩
theorem r3num_3 (w:World):Calls Tryz.prog 25 #[.int .i64 3] w fun e w'=>e = .returned (.string ⟨#[51]⟩)∧Below w.heap.size w w':=by
 have hcv:=conv_one w 51 51 rfl
 go_enter Tryz.func25,Tryz.ntmps25
 go_wp2
 go_ret
 exact ⟨rfl,(Below.refl _ _).alloc (Nat.le_refl _) _⟩
theorem r3num_4 (w:World):Calls Tryz.prog 25 #[.int .i64 4] w fun e w'=>e = .returned (.string ⟨#[52]⟩)∧Below w.heap.size w w':=by
 have hcv:=conv_one w 52 52 rfl
 go_enter Tryz.func25,Tryz.ntmps25
 go_wp2
 go_ret
 exact ⟨rfl,(Below.refl _ _).alloc (Nat.le_refl _) _⟩
theorem r3num_5 (w:World):Calls Tryz.prog 25 #[.int .i64 5] w fun e w'=>e = .returned (.string ⟨#[53]⟩)∧Below w.heap.size w w':=by
 have hcv:=conv_one w 53 53 rfl
 go_enter Tryz.func25,Tryz.ntmps25
 go_wp2
 go_ret
 exact ⟨rfl,(Below.refl _ _).alloc (Nat.le_refl _) _⟩
theorem r3num_6 (w:World):Calls Tryz.prog 25 #[.int .i64 6] w fun e w'=>e = .returned (.string ⟨#[54]⟩)∧Below w.heap.size w w':=by
 have hcv:=conv_one w 54 54 rfl
 go_enter Tryz.func25,Tryz.ntmps25
 go_wp2
 go_ret
 exact ⟨rfl,(Below.refl _ _).alloc (Nat.le_refl _) _⟩
theorem r3num_7 (w:World):Calls Tryz.prog 25 #[.int .i64 7] w fun e w'=>e = .returned (.string ⟨#[55]⟩)∧Below w.heap.size w w':=by
 have hcv:=conv_one w 55 55 rfl
 go_enter Tryz.func25,Tryz.ntmps25
 go_wp2
 go_ret
 exact ⟨rfl,(Below.refl _ _).alloc (Nat.le_refl _) _⟩
theorem r3num_8 (w:World):Calls Tryz.prog 25 #[.int .i64 8] w fun e w'=>e = .returned (.string ⟨#[56]⟩)∧Below w.heap.size w w':=by
 have hcv:=conv_one w 56 56 rfl
 go_enter Tryz.func25,Tryz.ntmps25
 go_wp2
 go_ret
 exact ⟨rfl,(Below.refl _ _).alloc (Nat.le_refl _) _⟩
theorem r3num_9 (w:World):Calls Tryz.prog 25 #[.int .i64 9] w fun e w'=>e = .returned (.string ⟨#[57]⟩)∧Below w.heap.size w w':=by
 have hcv:=conv_one w 57 57 rfl
 go_enter Tryz.func25,Tryz.ntmps25
 go_wp2
 go_ret
 exact ⟨rfl,(Below.refl _ _).alloc (Nat.le_refl _) _⟩
theorem r3num1_any (m:Nat) (h:m<10) (w:World):
 Calls Tryz.prog 25 #[.int .i64 (m:Int)] w fun e w'=>e = .returned (.string ⟨(numB (m:Int)).toArray⟩)∧Below w.heap.size w w':=by
 rw [numB_one h]
 rcases (by omega:m=0∨m=1∨m=2∨m=3∨m=4∨m=5∨m=6∨m=7∨m=8∨m=9) with rfl|rfl|rfl|rfl|rfl|rfl|rfl|rfl|rfl|rfl
 · exact r3num_0 w
 · exact r3num_1 w
 · exact r3num_2 w
 · exact r3num_3 w
 · exact r3num_4 w
 · exact r3num_5 w
 · exact r3num_6 w
 · exact r3num_7 w
 · exact r3num_8 w
 · exact r3num_9 w
theorem numB_two {m:Nat} (h1:¬m<10) (h2:m<100):numB (m:Int) = [UInt8.ofNat (48+m / 10),UInt8.ofNat (48+m % 10)]:=by unfold numB;rw [Int.toNat_natCast,Lib.decDigits_two h1 h2]
theorem r3number_any (m:Nat) (h:m≤16) (w:World):
 Calls Tryz.prog 25 #[.int .i64 (m:Int)] w fun e w'=>e = .returned (.string ⟨(numB (m:Int)).toArray⟩)∧Below w.heap.size w w':=by
 by_cases h9:m<10
 · exact r3num1_any m h9 w
 · have K:∀ (d:Nat) (_:d<10) W,Calls Tryz.prog 25 #[.int .i64 (d:Int)] W fun e w'=>e = .returned (.string ⟨(numB (d:Int)).toArray⟩)∧Below W.heap.size W w':=fun d hd W=>r3num1_any d hd W
   rcases (by omega:m=10∨m=11∨m=12∨m=13∨m=14∨m=15∨m=16) with rfl|rfl|rfl|rfl|rfl|rfl|rfl
   · have H1:=Lib.hid (fun W=>r3num_1 W)
     have H2:=Lib.hid (fun W=>r3num_0 W)
     rw [numB_two (by decide) (by decide)]
     clear K
     go_enter Tryz.func25,Tryz.ntmps25
     go_wp2_with (first
      | (go_at_call 25;(with_reducible refine (H2.out _).mono ?_);rintro e w3 ⟨rfl,hb3⟩;have HB3:=Lib.hid (HB2.out.trans (hb3.mono HB2.out.size));clear hb3)
      | (go_at_call 25;(with_reducible refine (H1.out _).mono ?_);rintro e w2 ⟨rfl,hb2⟩;have HB2:=Lib.hid hb2;clear hb2))
     go_ret
     exact ⟨rfl,HB3.out⟩
   · have H1:=Lib.hid (fun W=>r3num_1 W)
     have H2:=Lib.hid (fun W=>r3num_1 W)
     rw [numB_two (by decide) (by decide)]
     clear K
     go_enter Tryz.func25,Tryz.ntmps25
     go_wp2_with (first
      | (go_at_call 25;(with_reducible refine (H2.out _).mono ?_);rintro e w3 ⟨rfl,hb3⟩;have HB3:=Lib.hid (HB2.out.trans (hb3.mono HB2.out.size));clear hb3)
      | (go_at_call 25;(with_reducible refine (H1.out _).mono ?_);rintro e w2 ⟨rfl,hb2⟩;have HB2:=Lib.hid hb2;clear hb2))
     go_ret
     exact ⟨rfl,HB3.out⟩
   · have H1:=Lib.hid (fun W=>r3num_1 W)
     have H2:=Lib.hid (fun W=>r3num_2 W)
     rw [numB_two (by decide) (by decide)]
     clear K
     go_enter Tryz.func25,Tryz.ntmps25
     go_wp2_with (first
      | (go_at_call 25;(with_reducible refine (H2.out _).mono ?_);rintro e w3 ⟨rfl,hb3⟩;have HB3:=Lib.hid (HB2.out.trans (hb3.mono HB2.out.size));clear hb3)
      | (go_at_call 25;(with_reducible refine (H1.out _).mono ?_);rintro e w2 ⟨rfl,hb2⟩;have HB2:=Lib.hid hb2;clear hb2))
     go_ret
     exact ⟨rfl,HB3.out⟩
   · have H1:=Lib.hid (fun W=>r3num_1 W)
     have H2:=Lib.hid (fun W=>r3num_3 W)
     rw [numB_two (by decide) (by decide)]
     clear K
     go_enter Tryz.func25,Tryz.ntmps25
     go_wp2_with (first
      | (go_at_call 25;(with_reducible refine (H2.out _).mono ?_);rintro e w3 ⟨rfl,hb3⟩;have HB3:=Lib.hid (HB2.out.trans (hb3.mono HB2.out.size));clear hb3)
      | (go_at_call 25;(with_reducible refine (H1.out _).mono ?_);rintro e w2 ⟨rfl,hb2⟩;have HB2:=Lib.hid hb2;clear hb2))
     go_ret
     exact ⟨rfl,HB3.out⟩
   · have H1:=Lib.hid (fun W=>r3num_1 W)
     have H2:=Lib.hid (fun W=>r3num_4 W)
     rw [numB_two (by decide) (by decide)]
     clear K
     go_enter Tryz.func25,Tryz.ntmps25
     go_wp2_with (first
      | (go_at_call 25;(with_reducible refine (H2.out _).mono ?_);rintro e w3 ⟨rfl,hb3⟩;have HB3:=Lib.hid (HB2.out.trans (hb3.mono HB2.out.size));clear hb3)
      | (go_at_call 25;(with_reducible refine (H1.out _).mono ?_);rintro e w2 ⟨rfl,hb2⟩;have HB2:=Lib.hid hb2;clear hb2))
     go_ret
     exact ⟨rfl,HB3.out⟩
   · have H1:=Lib.hid (fun W=>r3num_1 W)
     have H2:=Lib.hid (fun W=>r3num_5 W)
     rw [numB_two (by decide) (by decide)]
     clear K
     go_enter Tryz.func25,Tryz.ntmps25
     go_wp2_with (first
      | (go_at_call 25;(with_reducible refine (H2.out _).mono ?_);rintro e w3 ⟨rfl,hb3⟩;have HB3:=Lib.hid (HB2.out.trans (hb3.mono HB2.out.size));clear hb3)
      | (go_at_call 25;(with_reducible refine (H1.out _).mono ?_);rintro e w2 ⟨rfl,hb2⟩;have HB2:=Lib.hid hb2;clear hb2))
     go_ret
     exact ⟨rfl,HB3.out⟩
   · have H1:=Lib.hid (fun W=>r3num_1 W)
     have H2:=Lib.hid (fun W=>r3num_6 W)
     rw [numB_two (by decide) (by decide)]
     clear K
     go_enter Tryz.func25,Tryz.ntmps25
     go_wp2_with (first
      | (go_at_call 25;(with_reducible refine (H2.out _).mono ?_);rintro e w3 ⟨rfl,hb3⟩;have HB3:=Lib.hid (HB2.out.trans (hb3.mono HB2.out.size));clear hb3)
      | (go_at_call 25;(with_reducible refine (H1.out _).mono ?_);rintro e w2 ⟨rfl,hb2⟩;have HB2:=Lib.hid hb2;clear hb2))
     go_ret
     exact ⟨rfl,HB3.out⟩
theorem run_idxt (v0 v1 v2 v3:Value) (k:Nat) (hk:k=0∨k=1) (w:World):(Instr.index 63 (.agg #[v0,v1,v2,v3]) (.int .i64 k)).run Tryz.prog w = .ok (if k=0 then .agg #[v0,v1] else .agg #[v2,v3]) w:=by
 have h0:(Tryz.prog.info? 23).map (·.size)=some 2:=by kernel_rfl
 obtain ⟨i,hi,hs⟩:=Option.map_eq_some_iff.1 h0
 rcases hk with rfl|rfl<;>simp [Instr.index,asIntOf,sizeOf,typeInfo,hi,hs,part,underlying]
@[go_sem ↓ high] theorem run_idxt0 (v0 v1 v2 v3:Value) (w:World):(Instr.index 63 (.agg #[v0,v1,v2,v3]) (.int .i64 0)).run Tryz.prog w = .ok (.agg #[v0,v1]) w:=run_idxt v0 v1 v2 v3 0 (.inl rfl) w
@[go_sem ↓ high] theorem run_idxt1 (v0 v1 v2 v3:Value) (w:World):(Instr.index 63 (.agg #[v0,v1,v2,v3]) (.int .i64 1)).run Tryz.prog w = .ok (.agg #[v2,v3]) w:=run_idxt v0 v1 v2 v3 1 (.inr rfl) w
def textV (p:Pairing):ByteArray:=if okP p=true then ⟨(textP p).toArray⟩ else ⟨#[]⟩
def writeErr (p:Pairing):Int:=if okP p=true then 0 else 1
theorem bad_ok {p:Pairing} (h:okP p=false):textV p=⟨#[]⟩∧writeErr p=1:=by unfold textV writeErr;rw [h];exact ⟨rfl,rfl⟩
theorem good_ok {p:Pairing} (h:okP p=true):textV p=⟨(textP p).toArray⟩∧writeErr p=0:=by unfold textV writeErr;rw [h];exact ⟨rfl,rfl⟩
theorem okP_no {p:Pairing} (h:¬((0≤p.a.lo∧p.a.lo<p.a.hi∧p.a.hi≤16)∧(0≤p.b.lo∧p.b.lo<p.b.hi∧p.b.hi≤16)∧p.a.hi-p.a.lo=p.b.hi-p.b.lo)):okP p=false:=by
 cases h2:okP p with
 | false=>rfl
 | true=>exact absurd (okP_iff.1 h2) h
theorem writeE_any (p:Pairing) (w:World):Calls Tryz.prog 5 #[.agg #[.int .i64 p.a.lo,.int .i64 p.a.hi,.int .i64 p.b.lo,.int .i64 p.b.hi]] w fun e w'=>e = .returned (.tuple #[.string (textV p),.int .i64 (writeErr p)])∧Below w.heap.size w w':=by
 obtain ⟨w1,hw1,hb1,hz1,e1⟩:=alloc_facts w #[.int .i64 p.a.lo,.int .i64 p.a.hi,.int .i64 p.b.lo,.int .i64 p.b.hi] 25
 have HW1:=Lib.hid hw1
 have HB1:=Lib.hid hb1
 have HCE:Hid (∀ W,Below w1.heap.size w1 W→W.cell? ⟨w.heap.size,0,none⟩=some (.int .i64 p.a.lo)∧W.cell? ⟨w.heap.size,1,none⟩=some (.int .i64 p.a.hi)∧W.cell? ⟨w.heap.size,2,none⟩=some (.int .i64 p.b.lo)∧W.cell? ⟨w.heap.size,3,none⟩=some (.int .i64 p.b.hi)):=(show ∀ W,_→_ from fun W h=>by
  have hh:=(h.block w.heap.size (by omega)).trans e1
  simp [World.cell?,hh])
 obtain ⟨c0,c1,c2,c3⟩:=HCE.out w1 (Below.refl _ _)
 have HV1:=Lib.hid (fun h:okP p=false=>bad_ok h)
 have HV2:=Lib.hid (fun h:okP p=true=>good_ok h)
 have HNO:=Lib.hid (@okP_no p)
 have HYE:=Lib.hid ((okP_iff (p:=p)).2)
 have HTX:Hid (textP p=Lib.join [numB p.a.lo,numB p.a.hi,numB p.b.lo,numB p.b.hi] [32]):=(show _=_ from rfl)
 have HTL:=Lib.hid (fun h:okP p=true=>text_len h)
 clear hw1 hb1 e1
 generalize textP p=T at *
 generalize textV p=tv at *
 generalize writeErr p=we at *
 generalize okP p=ok at *
 obtain ⟨⟨p0,p1⟩,p2,p3⟩:=p
 simp only at *
 go_enter Tryz.func5,Tryz.ntmps5
 go_wp2_with (rw [HW1.out])
 go_loopw [14] (fun s14 wr=>Hid (Below w1.heap.size w1 wr)∧(s14 = .int .i64 0∨(s14 = .int .i64 1∧Hid (0≤p0∧p0<p1∧p1≤16))∨(s14 = .int .i64 2∧Hid ((0≤p0∧p0<p1∧p1≤16)∧0≤p2∧p2<p3∧p3≤16)))) (fun s14 _=>2-(intOf s14).toNat)
 case atStart=>exact ⟨(show Below _ _ _ from Below.refl _ _),.inl rfl⟩
 case round=>
  obtain ⟨hbr,hc⟩:=hrel
  have hzr:=hbr.out.size
  obtain ⟨d0,d1,d2,d3⟩:=HCE.out wr hbr.out
  rcases hc with rfl|⟨rfl,hA⟩|⟨rfl,hAB⟩
  · obtain ⟨w4,a4,l4,z4,e4⟩:=alloc_facts wr #[.int .i64 p0,.int .i64 p1] 23
    have HA4:=Lib.hid a4
    have HB4:=Lib.hid (hbr.out.trans (l4.mono hbr.out.size))
    obtain ⟨x0,x1⟩:w4.cell? ⟨wr.heap.size,0,none⟩=some (.int .i64 p0)∧w4.cell? ⟨wr.heap.size,1,none⟩=some (.int .i64 p1):=(by simp [World.cell?,e4])
    clear a4 l4 e4
    by_cases q:p0<0
    case pos=>
     have hF:=HNO.out (fun h=>by omega)
     obtain ⟨t1,t2⟩:=HV1.out hF
     subst t1 t2
     clear hF
     go_wp2_with (rw [HA4.out])
     go_ret2
     exact ⟨rfl,HB1.out.trans (HB4.out.mono HB1.out.size)⟩
    have q1:¬p0<0:=q
    clear q
    by_cases q:p1≤p0
    case pos=>
     have hF:=HNO.out (fun h=>by omega)
     obtain ⟨t1,t2⟩:=HV1.out hF
     subst t1 t2
     clear hF
     go_wp2_with (rw [HA4.out])
     go_ret2
     exact ⟨rfl,HB1.out.trans (HB4.out.mono HB1.out.size)⟩
    have q2:¬p1≤p0:=q
    clear q
    by_cases q:16<p1
    case pos=>
     have hF:=HNO.out (fun h=>by omega)
     obtain ⟨t1,t2⟩:=HV1.out hF
     subst t1 t2
     clear hF
     go_wp2_with (rw [HA4.out])
     go_ret2
     exact ⟨rfl,HB1.out.trans (HB4.out.mono HB1.out.size)⟩
    have q3:¬16<p1:=q
    clear q
    go_wp2_with (rw [HA4.out])
    go_roundw
    all_goals first
     | (simp [intOf];done)
     | exact ⟨HB4,.inr (.inl ⟨by go_num,(show _∧_ from by omega)⟩)⟩
  · obtain ⟨w4,a4,l4,z4,e4⟩:=alloc_facts wr #[.int .i64 p2,.int .i64 p3] 23
    have HA4:=Lib.hid a4
    have HB4:=Lib.hid (hbr.out.trans (l4.mono hbr.out.size))
    obtain ⟨x0,x1⟩:w4.cell? ⟨wr.heap.size,0,none⟩=some (.int .i64 p2)∧w4.cell? ⟨wr.heap.size,1,none⟩=some (.int .i64 p3):=(by simp [World.cell?,e4])
    clear a4 l4 e4
    by_cases q:p2<0
    case pos=>
     have hF:=HNO.out (fun h=>by omega)
     obtain ⟨t1,t2⟩:=HV1.out hF
     subst t1 t2
     clear hF
     go_wp2_with (rw [HA4.out])
     go_ret2
     exact ⟨rfl,HB1.out.trans (HB4.out.mono HB1.out.size)⟩
    have q1:¬p2<0:=q
    clear q
    by_cases q:p3≤p2
    case pos=>
     have hF:=HNO.out (fun h=>by omega)
     obtain ⟨t1,t2⟩:=HV1.out hF
     subst t1 t2
     clear hF
     go_wp2_with (rw [HA4.out])
     go_ret2
     exact ⟨rfl,HB1.out.trans (HB4.out.mono HB1.out.size)⟩
    have q2:¬p3≤p2:=q
    clear q
    by_cases q:16<p3
    case pos=>
     have hF:=HNO.out (fun h=>by omega)
     obtain ⟨t1,t2⟩:=HV1.out hF
     subst t1 t2
     clear hF
     go_wp2_with (rw [HA4.out])
     go_ret2
     exact ⟨rfl,HB1.out.trans (HB4.out.mono HB1.out.size)⟩
    have q3:¬16<p3:=q
    clear q
    go_wp2_with (rw [HA4.out])
    go_roundw
    all_goals first
     | (simp [intOf];done)
     | exact ⟨HB4,.inr (.inr ⟨by go_num,(show _∧_ from ⟨hA.out,by omega⟩)⟩)⟩
  · obtain ⟨hA,hB⟩:=hAB.out
    by_cases hd:p1-p0=p3-p2
    case neg=>
     have hF:=HNO.out (fun h=>hd h.2.2)
     obtain ⟨t1,t2⟩:=HV1.out hF
     subst t1 t2
     have hne:(p1-p0 != p3-p2)=true:=(by simpa using hd)
     clear hd
     go_wp2
     go_ret2
     exact ⟨rfl,HB1.out.trans (hbr.out.mono HB1.out.size)⟩
    case pos=>
     have hT:=HYE.out ⟨hA,hB,hd⟩
     obtain ⟨t1,t2⟩:=HV2.out hT
     have hln:=HTL.out hT
     subst t1 t2
     have hne:(p1-p0 != p3-p2)=false:=(by simpa using hd)
     have HA0:=Lib.hid hA
     have HB0:=Lib.hid hB
     have KI:Hid (∀ (n:Int) W,0≤n→n<100→Calls Tryz.prog 22 #[.int .i64 n] W fun e w'=>e = .returned (.string ⟨(numB n).toArray⟩)∧w'=W):=(show ∀ n W,_→_→_ from fun n W h0 h1=>itoa_any n h0 h1 W)
     obtain ⟨w3,a3,l3,z3,e3⟩:=alloc_facts wr #[.int .i64 p0,.int .i64 p1,.int .i64 p2,.int .i64 p3] 3
     have HA3:=Lib.hid a3
     have HB3:=Lib.hid (hbr.out.trans (l3.mono hbr.out.size))
     have HCI:Hid (∀ W,Below w3.heap.size w3 W→W.cell? ⟨wr.heap.size,0,none⟩=some (.int .i64 p0)∧W.cell? ⟨wr.heap.size,1,none⟩=some (.int .i64 p1)∧W.cell? ⟨wr.heap.size,2,none⟩=some (.int .i64 p2)∧W.cell? ⟨wr.heap.size,3,none⟩=some (.int .i64 p3)):=(show ∀ W,_→_ from fun W h=>by
      have hh:=(h.block wr.heap.size (by omega)).trans e3
      simp [World.cell?,hh])
     have HLN:=Lib.hid hln
     clear hd hT a3 l3 e3 hln
     obtain ⟨N0,hN0⟩:∃ N:ByteArray,N=⟨(numB p0).toArray⟩:=⟨_,rfl⟩
     obtain ⟨N1,hN1⟩:∃ N:ByteArray,N=⟨(numB p1).toArray⟩:=⟨_,rfl⟩
     obtain ⟨N2,hN2⟩:∃ N:ByteArray,N=⟨(numB p2).toArray⟩:=⟨_,rfl⟩
     obtain ⟨N3,hN3⟩:∃ N:ByteArray,N=⟨(numB p3).toArray⟩:=⟨_,rfl⟩
     have HN:=Lib.hid (And.intro hN0 (And.intro hN1 (And.intro hN2 hN3)))
     have KI0:Hid (∀ W,Calls Tryz.prog 22 #[.int .i64 p0] W fun e w'=>e = .returned (.string N0)∧w'=W):=(show ∀ W,_ from fun W=>by rw [hN0];exact KI.out p0 W (by omega) (by omega))
     have KI1:Hid (∀ W,Calls Tryz.prog 22 #[.int .i64 p1] W fun e w'=>e = .returned (.string N1)∧w'=W):=(show ∀ W,_ from fun W=>by rw [hN1];exact KI.out p1 W (by omega) (by omega))
     have KI2:Hid (∀ W,Calls Tryz.prog 22 #[.int .i64 p2] W fun e w'=>e = .returned (.string N2)∧w'=W):=(show ∀ W,_ from fun W=>by rw [hN2];exact KI.out p2 W (by omega) (by omega))
     have KI3:Hid (∀ W,Calls Tryz.prog 22 #[.int .i64 p3] W fun e w'=>e = .returned (.string N3)∧w'=W):=(show ∀ W,_ from fun W=>by rw [hN3];exact KI.out p3 W (by omega) (by omega))
     have HJE:Hid (⟨(Lib.join ([N0,N1,N2,N3].map (·.data.toList)) (⟨#[32]⟩:ByteArray).data.toList).toArray⟩=(⟨T.toArray⟩:ByteArray)):=(show _=_ from by rw [HTX.out,hN0,hN1,hN2,hN3];rfl)
     have HJL:Hid ((Lib.join ([N0,N1,N2,N3].map (·.data.toList)) (⟨#[32]⟩:ByteArray).data.toList).length≤140737488355328):=(show _≤_ from by
      have h:=HLN.out
      rw [HTX.out] at h
      have e:Lib.join ([N0,N1,N2,N3].map (·.data.toList)) (⟨#[32]⟩:ByteArray).data.toList=Lib.join [numB p0,numB p1,numB p2,numB p3] [32]:=by rw [hN0,hN1,hN2,hN3];rfl
      rw [e];omega)
     clear hN0 hN1 hN2 hN3
     go_wp2_with (rw [HA3.out])
     go_loopw [6,62] (fun s6 s62 wr=> ∃ (k:Nat) (Ao:Option Addr) (c:Nat),k≤4∧s6 = .slice Ao k c∧s62 = .int .i64 k∧Hid (Own encStr 1 9 w3.heap.size wr Ao k c ([N0,N1,N2,N3].take k))∧Hid (Below w3.heap.size w3 wr)) (fun _ s62 _=>4-(intOf s62).toNat)
     case atStart=>exact ⟨0,none,0,by omega,rfl,rfl,(show Own _ _ _ _ _ _ _ _ _ from Own.none_ _ _ _ _ _),(show Below _ _ _ from Below.refl _ _)⟩
     case round=>
      obtain ⟨k,Ao,c,hk,rfl,rfl,hO,hbs⟩:=hrel
      have hzs:=hbs.out.size
      obtain ⟨f0,f1,f2,f3⟩:=HCI.out wr hbs.out
      rcases (by omega:k=0∨k=1∨k=2∨k=3∨k=4) with rfl|rfl|rfl|rfl|rfl
      · go_wp2_with (first
         | (go_at_call 22;(with_reducible refine (KI0.out _).mono ?_);rintro e w5 ⟨rfl,hw5⟩;obtain rfl:=hw5.symm
            have HRD:=Lib.hid (Rd.single (enc:=encStr) (k:=1) wr #[.string N0] 9 [N0] 1 rfl (by omega) (fun _=>rfl) (by simp [encStr])))
         | (at_builtin;refine wpList_append_src elStr (fun _=>rfl) oneStr rfl _ _ rfl (some ⟨wr.heap.size,0,none⟩) 1 1 [N0] rfl rfl (hO.out.alloc _) HRD.out (by omega) (by omega) (by simp;omega) ?_;intro A' c' w8 hown' hg8 hA8
            have HG8:=Lib.hid hg8
            have HO8:=Lib.hid hown'
            clear hown' hg8 hA8))
        have hB8:Below w3.heap.size w3 w8:=(hbs.out.alloc hzs _).grown HG8.out (by simp;omega) (fun k e=>hO.out.ltB k e)
        go_roundw
        all_goals first
         | (simp [intOf];done)
         | exact ⟨1,A',c',by omega,rfl,by go_num,HO8,(show Below _ _ _ from hB8)⟩
      · go_wp2_with (first
         | (go_at_call 22;(with_reducible refine (KI1.out _).mono ?_);rintro e w5 ⟨rfl,hw5⟩;obtain rfl:=hw5.symm
            have HRD:=Lib.hid (Rd.single (enc:=encStr) (k:=1) wr #[.string N1] 9 [N1] 1 rfl (by omega) (fun _=>rfl) (by simp [encStr])))
         | (at_builtin;refine wpList_append_src elStr (fun _=>rfl) oneStr rfl _ _ rfl (some ⟨wr.heap.size,0,none⟩) 1 1 [N1] rfl rfl (hO.out.alloc _) HRD.out (by omega) (by omega) (by simp;omega) ?_;intro A' c' w8 hown' hg8 hA8
            have HG8:=Lib.hid hg8
            have HO8:=Lib.hid hown'
            clear hown' hg8 hA8))
        have hB8:Below w3.heap.size w3 w8:=(hbs.out.alloc hzs _).grown HG8.out (by simp;omega) (fun k e=>hO.out.ltB k e)
        go_roundw
        all_goals first
         | (simp [intOf];done)
         | exact ⟨2,A',c',by omega,rfl,by go_num,HO8,(show Below _ _ _ from hB8)⟩
      · go_wp2_with (first
         | (go_at_call 22;(with_reducible refine (KI2.out _).mono ?_);rintro e w5 ⟨rfl,hw5⟩;obtain rfl:=hw5.symm
            have HRD:=Lib.hid (Rd.single (enc:=encStr) (k:=1) wr #[.string N2] 9 [N2] 1 rfl (by omega) (fun _=>rfl) (by simp [encStr])))
         | (at_builtin;refine wpList_append_src elStr (fun _=>rfl) oneStr rfl _ _ rfl (some ⟨wr.heap.size,0,none⟩) 1 1 [N2] rfl rfl (hO.out.alloc _) HRD.out (by omega) (by omega) (by simp;omega) ?_;intro A' c' w8 hown' hg8 hA8
            have HG8:=Lib.hid hg8
            have HO8:=Lib.hid hown'
            clear hown' hg8 hA8))
        have hB8:Below w3.heap.size w3 w8:=(hbs.out.alloc hzs _).grown HG8.out (by simp;omega) (fun k e=>hO.out.ltB k e)
        go_roundw
        all_goals first
         | (simp [intOf];done)
         | exact ⟨3,A',c',by omega,rfl,by go_num,HO8,(show Below _ _ _ from hB8)⟩
      · go_wp2_with (first
         | (go_at_call 22;(with_reducible refine (KI3.out _).mono ?_);rintro e w5 ⟨rfl,hw5⟩;obtain rfl:=hw5.symm
            have HRD:=Lib.hid (Rd.single (enc:=encStr) (k:=1) wr #[.string N3] 9 [N3] 1 rfl (by omega) (fun _=>rfl) (by simp [encStr])))
         | (at_builtin;refine wpList_append_src elStr (fun _=>rfl) oneStr rfl _ _ rfl (some ⟨wr.heap.size,0,none⟩) 1 1 [N3] rfl rfl (hO.out.alloc _) HRD.out (by omega) (by omega) (by simp;omega) ?_;intro A' c' w8 hown' hg8 hA8
            have HG8:=Lib.hid hg8
            have HO8:=Lib.hid hown'
            clear hown' hg8 hA8))
        have hB8:Below w3.heap.size w3 w8:=(hbs.out.alloc hzs _).grown HG8.out (by simp;omega) (fun k e=>hO.out.ltB k e)
        go_roundw
        all_goals first
         | (simp [intOf];done)
         | exact ⟨4,A',c',by omega,rfl,by go_num,HO8,(show Below _ _ _ from hB8)⟩
      · have HRD:=Lib.hid (hO.out.rd (fun _=>rfl) (by omega))
        have KJ:=Lib.hid (join_any Ao 4 c [N0,N1,N2,N3] ⟨#[32]⟩ wr (hO.out.rd (fun _=>rfl) (by omega)) (by omega) HJL.out)
        rw [HJE.out] at KJ
        go_wp2_with (go_at_call 23;(with_reducible refine KJ.out.mono ?_);rintro e w9 ⟨rfl,hb9⟩;have HB9:=Lib.hid (hbs.out.trans (hb9.mono hbs.out.size));clear hb9)
        go_ret2
        exact ⟨rfl,HB1.out.trans ((HB3.out.trans (HB9.out.mono HB3.out.size)).mono HB1.out.size)⟩
def okS (s:Stretch):Bool:=decide (0≤s.lo∧s.lo<s.hi∧s.hi≤16)
def codeRw3:Option Code→Code
 | some (.seq _ (.seq _ (.seq c _)))=>c
 | _=> .skip
def Trw3 (g:Nat) (p0 p1 p2 p3:Int) (N0 N1 N2 N3:ByteArray):List Value:=
 [.pointer (some ⟨g,0,none⟩),.pointer (some ⟨g,0,none⟩),.int .i64 p0,.string N0,.string (N0++(⟨#[32]⟩:ByteArray)),.pointer (some ⟨g,0,none⟩),.pointer (some ⟨g,0+1,none⟩),.int .i64 p1,.string N1,.string ((N0++(⟨#[32]⟩:ByteArray))++N1),.string (((N0++(⟨#[32]⟩:ByteArray))++N1)++(⟨#[32]⟩:ByteArray)),.pointer (some ⟨g,0+2,none⟩),.pointer (some ⟨g,0+2,none⟩),.int .i64 p2,.string N2,.string ((((N0++(⟨#[32]⟩:ByteArray))++N1)++(⟨#[32]⟩:ByteArray))++N2),.string (((((N0++(⟨#[32]⟩:ByteArray))++N1)++(⟨#[32]⟩:ByteArray))++N2)++(⟨#[32]⟩:ByteArray)),.pointer (some ⟨g,0+2,none⟩),.pointer (some ⟨g,0+3,none⟩),.int .i64 p3,.string N3,.string ((((((N0++(⟨#[32]⟩:ByteArray))++N1)++(⟨#[32]⟩:ByteArray))++N2)++(⟨#[32]⟩:ByteArray))++N3),.string ((((((N0++(⟨#[32]⟩:ByteArray))++N1)++(⟨#[32]⟩:ByteArray))++N2)++(⟨#[32]⟩:ByteArray))++N3),.int .i64 0]
theorem rw3 (cC:Code) (hc:cC=codeRw3 Tryz.f6.body) (g:Nat) (p0 p1 p2 p3:Int) (N0 N1 N2 N3:ByteArray) (a:Act) (w:World) (Q:Exit→Act→World→Prop)
 (hT:a.tmps.size=53) (t1:a.tmps.getD 1 undef = .pointer (some ⟨g,0,none⟩))
 (CE:∀ W,Below w.heap.size w W→W.cell? ⟨g,0,none⟩=some (.int .i64 p0)∧W.cell? ⟨g,1,none⟩=some (.int .i64 p1)∧W.cell? ⟨g,2,none⟩=some (.int .i64 p2)∧W.cell? ⟨g,3,none⟩=some (.int .i64 p3))
 (C0:∀ W,Calls Tryz.prog 25 #[.int .i64 p0] W fun e w'=>e = .returned (.string N0)∧Below W.heap.size W w')
 (C1:∀ W,Calls Tryz.prog 25 #[.int .i64 p1] W fun e w'=>e = .returned (.string N1)∧Below W.heap.size W w')
 (C2:∀ W,Calls Tryz.prog 25 #[.int .i64 p2] W fun e w'=>e = .returned (.string N2)∧Below W.heap.size W w')
 (C3:∀ W,Calls Tryz.prog 25 #[.int .i64 p3] W fun e w'=>e = .returned (.string N3)∧Below W.heap.size W w') (z0:N0.size≤2) (z1:N1.size≤2) (z2:N2.size≤2) (z3:N3.size≤2)
 (hQ:∀ W,Below w.heap.size w W→Q .normal { tmps:=setsL (setsL (a.tmps) 31 [.pointer (some ⟨g,0,none⟩),.pointer (some ⟨g,0,none⟩),.int .i64 p0,.string N0,.string (N0++(⟨#[32]⟩:ByteArray)),.pointer (some ⟨g,0,none⟩),.pointer (some ⟨g,0+1,none⟩),.int .i64 p1,.string N1,.string ((N0++(⟨#[32]⟩:ByteArray))++N1),.string (((N0++(⟨#[32]⟩:ByteArray))++N1)++(⟨#[32]⟩:ByteArray)),.pointer (some ⟨g,0+2,none⟩),.pointer (some ⟨g,0+2,none⟩),.int .i64 p2,.string N2,.string ((((N0++(⟨#[32]⟩:ByteArray))++N1)++(⟨#[32]⟩:ByteArray))++N2),.string (((((N0++(⟨#[32]⟩:ByteArray))++N1)++(⟨#[32]⟩:ByteArray))++N2)++(⟨#[32]⟩:ByteArray)),.pointer (some ⟨g,0+2,none⟩),.pointer (some ⟨g,0+3,none⟩),.int .i64 p3,.string N3,.string ((((((N0++(⟨#[32]⟩:ByteArray))++N1)++(⟨#[32]⟩:ByteArray))++N2)++(⟨#[32]⟩:ByteArray))++N3)]) 2 [.string ((((((N0++(⟨#[32]⟩:ByteArray))++N1)++(⟨#[32]⟩:ByteArray))++N2)++(⟨#[32]⟩:ByteArray))++N3),.int .i64 0],defers:=a.defers } W):
 cC.wp Tryz.prog Q a w:=by
 subst hc
 unfold codeRw3 Tryz.f6
 dsimp only
 refine wpIn_wide.1 (wpIn_region_flow (nn:=5) 53 (by kernel_rfl) (by kernel_rfl) (by kernel_rfl) hT (fun i=>(Trw3 g p0 p1 p2 p3 N0 N1 N2 N3).getD i undef) (fun W=>Below w.heap.size w W) ((Below.refl _ _).drew) (fun b hE hold=> ?_) hQ)
 clear hQ
 have q1:=hold 1 _ (by kernel_rfl) t1
 simp only [factsL,Trw3,List.getD_cons_zero,List.getD_cons_succ,Nat.reduceAdd] at hE
 repeat' first|exact steps_nil|refine steps_skip rfl rfl ?_|refine steps_go rfl ?_ ?_
 all_goals (intro W hW;obtain ⟨c0,c1,c2,c3⟩:=CE W hW;simp only [Trw3,List.getD_cons_zero,List.getD_cons_succ,Nat.reduceAdd])
 all_goals first
  | (refine .inl ?_;go_simp;done)
  | (refine .inl ?_;go_simp;rfl)
  | (refine .inl ?_;go_simp;omega)
  | (refine .inr (.inr ⟨25,#[.int .i64 p0],?_,(C0 W).mono ?_⟩)
     · go_simp<;>done
     · rintro e w' ⟨rfl,hb'⟩;exact ⟨rfl,(show Below _ _ _ from (show Below _ _ _ from hW).trans (hb'.mono (show Below _ _ _ from hW).size))⟩)
  | (refine .inr (.inr ⟨25,#[.int .i64 p1],?_,(C1 W).mono ?_⟩)
     · go_simp<;>done
     · rintro e w' ⟨rfl,hb'⟩;exact ⟨rfl,(show Below _ _ _ from (show Below _ _ _ from hW).trans (hb'.mono (show Below _ _ _ from hW).size))⟩)
  | (refine .inr (.inr ⟨25,#[.int .i64 p2],?_,(C2 W).mono ?_⟩)
     · go_simp<;>done
     · rintro e w' ⟨rfl,hb'⟩;exact ⟨rfl,(show Below _ _ _ from (show Below _ _ _ from hW).trans (hb'.mono (show Below _ _ _ from hW).size))⟩)
  | (refine .inr (.inr ⟨25,#[.int .i64 p3],?_,(C3 W).mono ?_⟩)
     · go_simp<;>done
     · rintro e w' ⟨rfl,hb'⟩;exact ⟨rfl,(show Below _ _ _ from (show Below _ _ _ from hW).trans (hb'.mono (show Below _ _ _ from hW).size))⟩)
theorem text_app (p0 p1 p2 p3:Int):(((((((⟨(numB p0).toArray⟩:ByteArray)++(⟨#[32]⟩:ByteArray))++(⟨(numB p1).toArray⟩:ByteArray))++(⟨#[32]⟩:ByteArray))++(⟨(numB p2).toArray⟩:ByteArray))++(⟨#[32]⟩:ByteArray))++(⟨(numB p3).toArray⟩:ByteArray))=⟨(Lib.join [numB p0,numB p1,numB p2,numB p3] [32]).toArray⟩:=by
 rw [join_more,join_more,join_more,Lib.join_one]
 apply ByteArray.ext
 simp only [ByteArray.data_append]
 apply Array.ext'
 simp
theorem r3strS_any (s:Stretch) (w:World):Calls Tryz.prog 24 #[.int .i64 16,.agg #[.int .i64 s.lo,.int .i64 s.hi]] w fun e w'=>e = .returned (.bool (okS s))∧Below w.heap.size w w':=by
 obtain ⟨w1,a1,b1,z1,e1⟩:=alloc_facts w #[.int .i64 s.lo,.int .i64 s.hi] 23
 obtain ⟨x0,x1⟩:w1.cell? ⟨w.heap.size,0,none⟩=some (.int .i64 s.lo)∧w1.cell? ⟨w.heap.size,1,none⟩=some (.int .i64 s.hi):=(by simp [World.cell?,e1])
 have HW1:=Lib.hid a1
 have HB1:=Lib.hid b1
 have hv:okS s=decide (0≤s.lo∧s.lo<s.hi∧s.hi≤16):=rfl
 rw [hv]
 clear a1 b1 e1 hv
 by_cases h1:s.lo<0
 · rw [decide_eq_false (by omega)]
   go_enter Tryz.func24,Tryz.ntmps24
   go_wp2_with (rw [HW1.out])
   go_ret
   exact ⟨rfl,HB1.out⟩
 · by_cases h2:s.hi≤s.lo
   · rw [decide_eq_false (by omega)]
     go_enter Tryz.func24,Tryz.ntmps24
     go_wp2_with (rw [HW1.out])
     go_ret
     exact ⟨rfl,HB1.out⟩
   · by_cases h3:16<s.hi
     · rw [decide_eq_false (by omega)]
       have h3':decide (s.hi≤16)=false:=decide_eq_false (by omega)
       go_enter Tryz.func24,Tryz.ntmps24
       go_wp2_with (rw [HW1.out])
       go_ret
       exact ⟨rfl,HB1.out⟩
     · rw [decide_eq_true (by omega)]
       go_enter Tryz.func24,Tryz.ntmps24
       go_wp2_with (rw [HW1.out])
       go_ret
       exact ⟨rfl,HB1.out⟩
theorem r3Write_any (p:Pairing) (w:World):Calls Tryz.prog 6 #[.agg #[.int .i64 p.a.lo,.int .i64 p.a.hi,.int .i64 p.b.lo,.int .i64 p.b.hi]] w fun e w'=>e = .returned (.tuple #[.string (textV p),.int .i64 (writeErr p)])∧Below w.heap.size w w':=by
 obtain ⟨w1,hw1,hb1,hz1,e1⟩:=alloc_facts w #[.int .i64 p.a.lo,.int .i64 p.a.hi,.int .i64 p.b.lo,.int .i64 p.b.hi] 25
 have HW1:=Lib.hid hw1
 have HB1:=Lib.hid hb1
 have HCE:Hid (∀ W,Below w1.heap.size w1 W→W.cell? ⟨w.heap.size,0,none⟩=some (.int .i64 p.a.lo)∧W.cell? ⟨w.heap.size,1,none⟩=some (.int .i64 p.a.hi)∧W.cell? ⟨w.heap.size,2,none⟩=some (.int .i64 p.b.lo)∧W.cell? ⟨w.heap.size,3,none⟩=some (.int .i64 p.b.hi)):=(show ∀ W,_→_ from fun W h=>by
  have hh:=(h.block w.heap.size (by omega)).trans e1
  simp [World.cell?,hh])
 obtain ⟨c0,c1,c2,c3⟩:=HCE.out w1 (Below.refl _ _)
 have KA:=Lib.hid (fun W=>r3strS_any p.a W)
 have KB:=Lib.hid (fun W=>r3strS_any p.b W)
 have HNO:=Lib.hid (@okP_no p)
 have HYE:=Lib.hid ((okP_iff (p:=p)).2)
 have HV1:=Lib.hid (fun h:okP p=false=>bad_ok h)
 have HV2:=Lib.hid (fun h:okP p=true=>good_ok h)
 have HSA:Hid (okS p.a=true↔0≤p.a.lo∧p.a.lo<p.a.hi∧p.a.hi≤16):=(show _↔_ from by unfold okS;rw [decide_eq_true_eq])
 have HSB:Hid (okS p.b=true↔0≤p.b.lo∧p.b.lo<p.b.hi∧p.b.hi≤16):=(show _↔_ from by unfold okS;rw [decide_eq_true_eq])
 have HTX:Hid (textP p=Lib.join [numB p.a.lo,numB p.a.hi,numB p.b.lo,numB p.b.hi] [32]):=(show _=_ from rfl)
 clear hw1 hb1 e1
 cases hA:okS p.a with
 | false=>
   have hF:=HNO.out (fun h=>by have:=HSA.out.2 h.1;rw [hA] at this;cases this)
   obtain ⟨t1,t2⟩:=HV1.out hF
   rw [t1,t2]
   rw [hA] at KA
   clear hA hF t1 t2
   go_enter Tryz.func6,Tryz.ntmps6
   go_wp2_with (first
    | rw [HW1.out]
    | (go_at_call 24;(with_reducible refine (KA.out _).mono ?_);rintro e w2 ⟨rfl,hb2⟩;have HB2:=Lib.hid hb2;obtain ⟨y0,y1,y2,y3⟩:=HCE.out w2 HB2.out;clear hb2))
   go_ret2
   exact ⟨rfl,HB1.out.trans (HB2.out.mono HB1.out.size)⟩
 | true=>
   cases hB:okS p.b with
   | false=>
     have hF:=HNO.out (fun h=>by have:=HSB.out.2 h.2.1;rw [hB] at this;cases this)
     obtain ⟨t1,t2⟩:=HV1.out hF
     rw [t1,t2]
     rw [hA] at KA
     rw [hB] at KB
     clear hA hB hF t1 t2
     go_enter Tryz.func6,Tryz.ntmps6
     go_wp2_with (first
      | rw [HW1.out]
      | (go_at_call 24;(with_reducible refine (KB.out _).mono ?_);rintro e w3 ⟨rfl,hb3⟩;have HB3:=Lib.hid (HB2.out.trans (hb3.mono HB2.out.size));obtain ⟨z0,z1,z2,z3⟩:=HCE.out w3 HB3.out;clear hb3)
      | (go_at_call 24;(with_reducible refine (KA.out _).mono ?_);rintro e w2 ⟨rfl,hb2⟩;have HB2:=Lib.hid hb2;obtain ⟨y0,y1,y2,y3⟩:=HCE.out w2 HB2.out;clear hb2))
     go_ret2
     exact ⟨rfl,HB1.out.trans (HB3.out.mono HB1.out.size)⟩
   | true=>
     have hA':=HSA.out.1 hA
     have hB':=HSB.out.1 hB
     rw [hA] at KA
     rw [hB] at KB
     by_cases hd:p.a.hi-p.a.lo=p.b.hi-p.b.lo
     case neg=>
      have hF:=HNO.out (fun h=>hd h.2.2)
      obtain ⟨t1,t2⟩:=HV1.out hF
      rw [t1,t2]
      have hne:(p.a.hi-p.a.lo != p.b.hi-p.b.lo)=true:=(by simpa using hd)
      clear hA hB hF hd t1 t2
      go_enter Tryz.func6,Tryz.ntmps6
      go_wp2_with (first
       | rw [HW1.out]
       | (go_at_call 24;(with_reducible refine (KB.out _).mono ?_);rintro e w3 ⟨rfl,hb3⟩;have HB3:=Lib.hid (HB2.out.trans (hb3.mono HB2.out.size));obtain ⟨z0,z1,z2,z3⟩:=HCE.out w3 HB3.out;clear hb3)
       | (go_at_call 24;(with_reducible refine (KA.out _).mono ?_);rintro e w2 ⟨rfl,hb2⟩;have HB2:=Lib.hid hb2;obtain ⟨y0,y1,y2,y3⟩:=HCE.out w2 HB2.out;clear hb2))
      go_ret2
      exact ⟨rfl,HB1.out.trans (HB3.out.mono HB1.out.size)⟩
     case pos=>
      have hT:=HYE.out ⟨hA',hB',hd⟩
      obtain ⟨t1,t2⟩:=HV2.out hT
      rw [t1,t2,HTX.out,←text_app]
      have hne:(p.a.hi-p.a.lo != p.b.hi-p.b.lo)=false:=(by simpa using hd)
      have KN:Hid (∀ (n:Int) W,0≤n→n≤16→Calls Tryz.prog 25 #[.int .i64 n] W fun e w'=>e = .returned (.string ⟨(numB n).toArray⟩)∧Below W.heap.size W w'):=(show ∀ n W,_→_→_ from fun n W h0 h1=>by
       obtain ⟨m,rfl⟩:∃ m:Nat,n=m:=⟨n.toNat,by omega⟩
       exact r3number_any m (by omega) W)
      clear hA hB hd t1 t2 hT
      obtain ⟨N0,hN0⟩:∃ N:ByteArray,(⟨(numB p.a.lo).toArray⟩:ByteArray)=N:=⟨_,rfl⟩
      obtain ⟨N1,hN1⟩:∃ N:ByteArray,(⟨(numB p.a.hi).toArray⟩:ByteArray)=N:=⟨_,rfl⟩
      obtain ⟨N2,hN2⟩:∃ N:ByteArray,(⟨(numB p.b.lo).toArray⟩:ByteArray)=N:=⟨_,rfl⟩
      obtain ⟨N3,hN3⟩:∃ N:ByteArray,(⟨(numB p.b.hi).toArray⟩:ByteArray)=N:=⟨_,rfl⟩
      have KN0:Hid (∀ W,Calls Tryz.prog 25 #[.int .i64 p.a.lo] W fun e w'=>e = .returned (.string N0)∧Below W.heap.size W w'):=(show ∀ W,_ from fun W=>by rw [←hN0];exact KN.out _ W (by omega) (by omega))
      have KN1:Hid (∀ W,Calls Tryz.prog 25 #[.int .i64 p.a.hi] W fun e w'=>e = .returned (.string N1)∧Below W.heap.size W w'):=(show ∀ W,_ from fun W=>by rw [←hN1];exact KN.out _ W (by omega) (by omega))
      have KN2:Hid (∀ W,Calls Tryz.prog 25 #[.int .i64 p.b.lo] W fun e w'=>e = .returned (.string N2)∧Below W.heap.size W w'):=(show ∀ W,_ from fun W=>by rw [←hN2];exact KN.out _ W (by omega) (by omega))
      have KN3:Hid (∀ W,Calls Tryz.prog 25 #[.int .i64 p.b.hi] W fun e w'=>e = .returned (.string N3)∧Below W.heap.size W w'):=(show ∀ W,_ from fun W=>by rw [←hN3];exact KN.out _ W (by omega) (by omega))
      have HZ:Hid (N0.size≤2∧N1.size≤2∧N2.size≤2∧N3.size≤2):=(show _∧_ from by
       rw [←hN0,←hN1,←hN2,←hN3]
       exact ⟨(numB_ok (by omega) (by omega)).2.2.2,(numB_ok (by omega) (by omega)).2.2.2,(numB_ok (by omega) (by omega)).2.2.2,(numB_ok (by omega) (by omega)).2.2.2⟩)
      rw [hN0,hN1,hN2,hN3]
      clear hN0 hN1 hN2 hN3
      go_enter Tryz.func6,Tryz.ntmps6
      go_upto_region 3 with (first
       | rw [HW1.out]
       | (go_at_call 24;(with_reducible refine (KB.out _).mono ?_);rintro e w3 ⟨rfl,hb3⟩;have HB3:=Lib.hid (HB2.out.trans (hb3.mono HB2.out.size));obtain ⟨z0,z1,z2,z3⟩:=HCE.out w3 HB3.out;clear hb3)
       | (go_at_call 24;(with_reducible refine (KA.out _).mono ?_);rintro e w2 ⟨rfl,hb2⟩;have HB2:=Lib.hid hb2;obtain ⟨y0,y1,y2,y3⟩:=HCE.out w2 HB2.out;clear hb2))
      refine rw3 _ rfl w.heap.size p.a.lo p.a.hi p.b.lo p.b.hi N0 N1 N2 N3 _ w3 _ rfl rfl (fun W hW=>HCE.out W (HB3.out.trans (hW.mono HB3.out.size))) (fun W=>KN0.out W) (fun W=>KN1.out W) (fun W=>KN2.out W) (fun W=>KN3.out W) HZ.out.1 HZ.out.2.1 HZ.out.2.2.1 HZ.out.2.2.2 ?_
      intro w4 hb4
      have HB4:=Lib.hid (HB3.out.trans (hb4.mono HB3.out.size))
      clear hb4
      simp only [setsL,Nat.reduceAdd,List.setIfInBounds_toArray,List.set_cons_succ,List.set_cons_zero]
      go_wp2
      go_ret2
      exact ⟨rfl,HB1.out.trans (HB4.out.mono HB1.out.size)⟩
end Go.Proofs.YtpmkgmilfifkpaaGreatDoor
end

/- Contracts that the laws lean on: LinL, LinY. -/
import Derived.Test.YtejjplhknacoiaaGreatDoorLH07
import Derived.Test.YtejjplhknacoiaaGreatDoorLK24
import Derived.Test.YtejjplhknacoiaaGreatDoorRows
import Derived.Stop.LaidErr
import Derived.LaidMore
import Derived.ProofKit
set_option maxRecDepth 100000
set_option maxHeartbeats 8000000
section
namespace Go.Proofs.YtejjplhknacoiaaGreatDoor
open Go.RowKit Go.Proofs
theorem back_ok {x:Trace} (h:okTr x=true):readX (textV x).data.toList=x∧readErr (textV x).data.toList=0:=by
 obtain ⟨h1,_⟩:=good_ok h
 rw [h1]
 exact read_some h rfl
theorem textV_size {x:Trace} : (textV x).size≤63:=by
 cases h:okTr x with
 | true=>
   rw [(good_ok h).1]
   exact text_size h
 | false=>
   rw [(bad_ok h).1]
   exact Nat.zero_le _
theorem read_back {s:ByteArray} (h:readErr s.data.toList=0):textV (readX s.data.toList)=s∧checkTrace (readX s.data.toList)=0:=by
 unfold readErr at h
 cases hr:readT s.data.toList with
 | none=>rw [hr] at h;simp at h
 | some x=>
   obtain ⟨h1,h2⟩:=readT_iff.1 hr
   have hp:readX s.data.toList=x:=by unfold readX;rw [hr];rfl
   rw [hp]
   obtain ⟨h3,h4⟩:=good_ok h1
   rw [h3,h2]
   exact ⟨rfl,h4⟩
theorem write01 (x:Trace):(checkTrace x=0∧okTr x=true)∨checkTrace x=1:=by
 cases h:okTr x with
 | true=>exact .inl ⟨(good_ok h).2,rfl⟩
 | false=>exact .inr (bad_ok h).2
theorem read04 (l:List UInt8):readErr l=0∨readErr l=4:=by unfold readErr;split<;>simp
theorem stratumLines_of (p:Trace) (s:ByteArray) (w:World) (hv:VarsOk w):
 Calls Tryz.prog 3 #[.agg #[.int .i64 p.id,.int .i64 p.known,.int .u8 p.kind,.int .i64 p.pit,.int .i64 p.layer,.int .i64 p.lower,.int .i64 p.low,.int .i64 p.high,.int .i64 p.cost,.int .i64 p.void],.string s] w fun e w'=>e = .returned (.bool true)∧Below w.heap.size w w':=by
 obtain ⟨w1,hw1,hb1,hz1,e1⟩:=alloc_facts w #[.int .i64 p.id,.int .i64 p.known,.int .u8 p.kind,.int .i64 p.pit,.int .i64 p.layer,.int .i64 p.lower,.int .i64 p.low,.int .i64 p.high,.int .i64 p.cost,.int .i64 p.void] 23
 have HW1:=Lib.hid hw1
 have HB1:=Lib.hid hb1
 have HPC:Hid (∀ W,Below w1.heap.size w1 W→W.cell? ⟨w.heap.size,0,none⟩=some (.int .i64 p.id)∧W.cell? ⟨w.heap.size,1,none⟩=some (.int .i64 p.known)∧W.cell? ⟨w.heap.size,2,none⟩=some (.int .u8 p.kind)∧W.cell? ⟨w.heap.size,3,none⟩=some (.int .i64 p.pit)∧W.cell? ⟨w.heap.size,4,none⟩=some (.int .i64 p.layer)∧W.cell? ⟨w.heap.size,5,none⟩=some (.int .i64 p.lower)∧W.cell? ⟨w.heap.size,6,none⟩=some (.int .i64 p.low)∧W.cell? ⟨w.heap.size,7,none⟩=some (.int .i64 p.high)∧W.cell? ⟨w.heap.size,8,none⟩=some (.int .i64 p.cost)∧W.cell? ⟨w.heap.size,9,none⟩=some (.int .i64 p.void)):=(show ∀ W,_→_ from fun W h=>by
  have hh:=(h.block w.heap.size (by omega)).trans e1
  simp [World.cell?,hh])
 have HV1:Hid (VarsOk w1):=(show VarsOk w1 from hv.below hb1)
 have HC1:Hid (Below w1.heap.size w1 w1):=(show Below _ _ _ from Below.refl _ _)
 obtain ⟨a1_0,a1_1,a1_2,a1_3,a1_4,a1_5,a1_6,a1_7,a1_8,a1_9⟩:=HPC.out w1 (Below.refl _ _)
 clear hw1 hb1 e1 hv
 by_cases hsz:200<s.size
 case pos=>
  have hc:(200:Int)<(s.size:Int):=(by omega)
  clear hsz
  go_enter Tryz.func3,Tryz.ntmps3
  go_wp2_with (first
   | rw [HW1.out]
   | (go_at_call 4;(with_reducible refine (dug_any _).mono ?_);rintro e w4 ⟨rfl,hb4⟩;have HJ:=Lib.hid (HB1.out.trans (hb4.mono HB1.out.size));clear hb4))
  go_ret
  exact ⟨rfl,HJ.out⟩
 case neg=>
  have hc:¬(200:Int)<(s.size:Int):=(by omega)
  have KW:Hid (∀ W,Below w1.heap.size w1 W→Calls Tryz.prog 5 #[.agg #[.int .i64 p.id,.int .i64 p.known,.int .u8 p.kind,.int .i64 p.pit,.int .i64 p.layer,.int .i64 p.lower,.int .i64 p.low,.int .i64 p.high,.int .i64 p.cost,.int .i64 p.void]] W fun e w'=>e = .returned (.tuple #[.string (textV p),.int .i64 (checkTrace p)])∧Below W.heap.size W w'):=(show ∀ W,_→_ from fun W hW=>write_any p W (HV1.out.below hW))
  have KV:=Lib.hid (fun W=>r8Write_any p W)
  have KR:Hid (∀ W,Below w1.heap.size w1 W→Calls Tryz.prog 7 #[.string s] W fun e w'=>e = .returned (.tuple #[.agg #[.int .i64 (readX s.data.toList).id,.int .i64 (readX s.data.toList).known,.int .u8 (readX s.data.toList).kind,.int .i64 (readX s.data.toList).pit,.int .i64 (readX s.data.toList).layer,.int .i64 (readX s.data.toList).lower,.int .i64 (readX s.data.toList).low,.int .i64 (readX s.data.toList).high,.int .i64 (readX s.data.toList).cost,.int .i64 (readX s.data.toList).void],.int .i64 (readErr s.data.toList)])∧Below W.heap.size W w'):=(show ∀ W,_→_ from fun W hW=>read_any s W (by omega) (HV1.out.below hW))
  have KQ:=Lib.hid (fun W=>r8Read_any s W (by omega))
  have KB:Hid (okTr p=true→∀ W,Below w1.heap.size w1 W→Calls Tryz.prog 7 #[.string (textV p)] W fun e w'=>e = .returned (.tuple #[.agg #[.int .i64 p.id,.int .i64 p.known,.int .u8 p.kind,.int .i64 p.pit,.int .i64 p.layer,.int .i64 p.lower,.int .i64 p.low,.int .i64 p.high,.int .i64 p.cost,.int .i64 p.void],.int .i64 0])∧Below W.heap.size W w'):=(show _→∀ W,_→_ from fun hok W hW=>by
   have h:=read_any (textV p) W (by have:=textV_size (x:=p);omega) (HV1.out.below hW)
   obtain ⟨h1,h2⟩:=back_ok hok
   rw [h1,h2] at h
   exact h)
  have KX:Hid (readErr s.data.toList=0→∀ W,Below w1.heap.size w1 W→Calls Tryz.prog 5 #[.agg #[.int .i64 (readX s.data.toList).id,.int .i64 (readX s.data.toList).known,.int .u8 (readX s.data.toList).kind,.int .i64 (readX s.data.toList).pit,.int .i64 (readX s.data.toList).layer,.int .i64 (readX s.data.toList).lower,.int .i64 (readX s.data.toList).low,.int .i64 (readX s.data.toList).high,.int .i64 (readX s.data.toList).cost,.int .i64 (readX s.data.toList).void]] W fun e w'=>e = .returned (.tuple #[.string s,.int .i64 0])∧Below W.heap.size W w'):=(show _→∀ W,_→_ from fun h0 W hW=>by
   have h:=write_any (readX s.data.toList) W (HV1.out.below hW)
   obtain ⟨h1,h2⟩:=read_back h0
   rw [h1,h2] at h
   exact h)
  have hw01:=write01 p
  have hr04:=read04 s.data.toList
  clear hsz HV1
  generalize textV p=T at *
  generalize checkTrace p=we at *
  generalize readX s.data.toList=rp at *
  generalize readErr s.data.toList=re at *
  have hTT:(T.toList==T.toList)=true:=(by simp)
  have hss:(s.toList==s.toList)=true:=(by simp)
  have hrr:eqTrace ⟨rp.id,rp.known,rp.kind,rp.pit,rp.layer,rp.lower,rp.low,rp.high,rp.cost,rp.void⟩ ⟨rp.id,rp.known,rp.kind,rp.pit,rp.layer,rp.lower,rp.low,rp.high,rp.cost,rp.void⟩=true:=eqTrace_iff.2 rfl
  have hpp:eqTrace ⟨p.id,p.known,p.kind,p.pit,p.layer,p.lower,p.low,p.high,p.cost,p.void⟩ ⟨p.id,p.known,p.kind,p.pit,p.layer,p.lower,p.low,p.high,p.cost,p.void⟩=true:=eqTrace_iff.2 rfl
  rcases hw01 with ⟨rfl,hok⟩|rfl
  · have KB1:=Lib.hid (KB.out hok)
    clear KB hok
    rcases hr04 with rfl|rfl
    · have KX1:=Lib.hid (KX.out rfl)
      clear KX
      go_enter Tryz.func3,Tryz.ntmps3
      go_wp2_with (first
       | rw [HW1.out]
       | rw [HA5.out]
       | rw [HA7.out]
       | rw [HA9.out]
       | (go_at_call 4;(with_reducible refine (dug_any _).mono ?_);rintro e w11 ⟨rfl,hb11⟩;have HJ:=Lib.hid (HB1.out.trans ((HC10.out.trans (hb11.mono HC10.out.size)).mono HB1.out.size));clear hb11)
       | (go_at_call 5;(with_reducible refine ((show Hid _ from KX1).out _ HC9.out).mono ?_);rintro e w10 ⟨rfl,hb10⟩
          have HC10:=Lib.hid (HC9.out.trans (hb10.mono HC9.out.size))
          have HDx10:=Lib.hid (HDx9.out.trans (hb10.mono HDx9.out.size))
          have HDy10:=Lib.hid (HDy9.out.trans (hb10.mono HDy9.out.size))
          have HDb10:=Lib.hid (hb10)
          obtain ⟨a10_0,a10_1,a10_2,a10_3,a10_4,a10_5,a10_6,a10_7,a10_8,a10_9⟩:=HPC.out w10 HC10.out
          obtain ⟨x10_0,x10_1,x10_2,x10_3,x10_4,x10_5,x10_6,x10_7,x10_8,x10_9⟩:=HXC.out w10 HDx10.out
          obtain ⟨y10_0,y10_1,y10_2,y10_3,y10_4,y10_5,y10_6,y10_7,y10_8,y10_9⟩:=HYC.out w10 HDy10.out
          obtain ⟨b10_0,b10_1,b10_2,b10_3,b10_4,b10_5,b10_6,b10_7,b10_8,b10_9⟩:=HBC.out w10 HDb10.out
          clear hb10)
       | (go_at_call 7;(with_reducible refine (KB1.out _ HC7.out).mono ?_);rintro e w8 ⟨rfl,hb8⟩
          have HC8:=Lib.hid (HC7.out.trans (hb8.mono HC7.out.size))
          have HDx8:=Lib.hid (HDx7.out.trans (hb8.mono HDx7.out.size))
          have HDy8:=Lib.hid (hb8)
          obtain ⟨w9,x9,l9,z9,e9⟩:=alloc_facts w8 #[.int .i64 p.id,.int .i64 p.known,.int .u8 p.kind,.int .i64 p.pit,.int .i64 p.layer,.int .i64 p.lower,.int .i64 p.low,.int .i64 p.high,.int .i64 p.cost,.int .i64 p.void] 23
          have HA9:=Lib.hid x9
          have z9':w9.heap.size=w8.heap.size+1:=z9
          have HC9:=Lib.hid (HC8.out.trans (l9.mono HC8.out.size))
          have HDx9:=Lib.hid (HDx8.out.trans (l9.mono HDx8.out.size))
          have HDy9:=Lib.hid (HDy8.out.trans (l9.mono HDy8.out.size))
          have HBC:Hid (∀ W,Below w9.heap.size w9 W→W.cell? ⟨w8.heap.size,0,none⟩=some (.int .i64 p.id)∧W.cell? ⟨w8.heap.size,1,none⟩=some (.int .i64 p.known)∧W.cell? ⟨w8.heap.size,2,none⟩=some (.int .u8 p.kind)∧W.cell? ⟨w8.heap.size,3,none⟩=some (.int .i64 p.pit)∧W.cell? ⟨w8.heap.size,4,none⟩=some (.int .i64 p.layer)∧W.cell? ⟨w8.heap.size,5,none⟩=some (.int .i64 p.lower)∧W.cell? ⟨w8.heap.size,6,none⟩=some (.int .i64 p.low)∧W.cell? ⟨w8.heap.size,7,none⟩=some (.int .i64 p.high)∧W.cell? ⟨w8.heap.size,8,none⟩=some (.int .i64 p.cost)∧W.cell? ⟨w8.heap.size,9,none⟩=some (.int .i64 p.void)):=(show ∀ W,_→_ from fun W h=>by
                   have hh:=(h.block w8.heap.size (by omega)).trans e9
                   simp [World.cell?,hh])
          have HDb9:=Lib.hid (Below.refl w9.heap.size w9)
          obtain ⟨a9_0,a9_1,a9_2,a9_3,a9_4,a9_5,a9_6,a9_7,a9_8,a9_9⟩:=HPC.out w9 HC9.out
          obtain ⟨x9_0,x9_1,x9_2,x9_3,x9_4,x9_5,x9_6,x9_7,x9_8,x9_9⟩:=HXC.out w9 HDx9.out
          obtain ⟨y9_0,y9_1,y9_2,y9_3,y9_4,y9_5,y9_6,y9_7,y9_8,y9_9⟩:=HYC.out w9 HDy9.out
          obtain ⟨b9_0,b9_1,b9_2,b9_3,b9_4,b9_5,b9_6,b9_7,b9_8,b9_9⟩:=HBC.out w9 HDb9.out
          clear hb8 x9 l9 z9 e9)
       | (go_at_call 8;(with_reducible refine (KQ.out _).mono ?_);rintro e w6 ⟨rfl,hb6⟩
          have HC6:=Lib.hid (HC5.out.trans (hb6.mono HC5.out.size))
          have HDx6:=Lib.hid (hb6)
          obtain ⟨w7,x7,l7,z7,e7⟩:=alloc_facts w6 #[.int .i64 rp.id,.int .i64 rp.known,.int .u8 rp.kind,.int .i64 rp.pit,.int .i64 rp.layer,.int .i64 rp.lower,.int .i64 rp.low,.int .i64 rp.high,.int .i64 rp.cost,.int .i64 rp.void] 23
          have HA7:=Lib.hid x7
          have z7':w7.heap.size=w6.heap.size+1:=z7
          have HC7:=Lib.hid (HC6.out.trans (l7.mono HC6.out.size))
          have HDx7:=Lib.hid (HDx6.out.trans (l7.mono HDx6.out.size))
          have HYC:Hid (∀ W,Below w7.heap.size w7 W→W.cell? ⟨w6.heap.size,0,none⟩=some (.int .i64 rp.id)∧W.cell? ⟨w6.heap.size,1,none⟩=some (.int .i64 rp.known)∧W.cell? ⟨w6.heap.size,2,none⟩=some (.int .u8 rp.kind)∧W.cell? ⟨w6.heap.size,3,none⟩=some (.int .i64 rp.pit)∧W.cell? ⟨w6.heap.size,4,none⟩=some (.int .i64 rp.layer)∧W.cell? ⟨w6.heap.size,5,none⟩=some (.int .i64 rp.lower)∧W.cell? ⟨w6.heap.size,6,none⟩=some (.int .i64 rp.low)∧W.cell? ⟨w6.heap.size,7,none⟩=some (.int .i64 rp.high)∧W.cell? ⟨w6.heap.size,8,none⟩=some (.int .i64 rp.cost)∧W.cell? ⟨w6.heap.size,9,none⟩=some (.int .i64 rp.void)):=(show ∀ W,_→_ from fun W h=>by
                   have hh:=(h.block w6.heap.size (by omega)).trans e7
                   simp [World.cell?,hh])
          have HDy7:=Lib.hid (Below.refl w7.heap.size w7)
          obtain ⟨a7_0,a7_1,a7_2,a7_3,a7_4,a7_5,a7_6,a7_7,a7_8,a7_9⟩:=HPC.out w7 HC7.out
          obtain ⟨x7_0,x7_1,x7_2,x7_3,x7_4,x7_5,x7_6,x7_7,x7_8,x7_9⟩:=HXC.out w7 HDx7.out
          obtain ⟨y7_0,y7_1,y7_2,y7_3,y7_4,y7_5,y7_6,y7_7,y7_8,y7_9⟩:=HYC.out w7 HDy7.out
          clear hb6 x7 l7 z7 e7)
       | (go_at_call 7;(with_reducible refine (KR.out _ HC3.out).mono ?_);rintro e w4 ⟨rfl,hb4⟩
          have HC4:=Lib.hid (HC3.out.trans (hb4.mono HC3.out.size))
          obtain ⟨w5,x5,l5,z5,e5⟩:=alloc_facts w4 #[.int .i64 rp.id,.int .i64 rp.known,.int .u8 rp.kind,.int .i64 rp.pit,.int .i64 rp.layer,.int .i64 rp.lower,.int .i64 rp.low,.int .i64 rp.high,.int .i64 rp.cost,.int .i64 rp.void] 23
          have HA5:=Lib.hid x5
          have z5':w5.heap.size=w4.heap.size+1:=z5
          have HC5:=Lib.hid (HC4.out.trans (l5.mono HC4.out.size))
          have HXC:Hid (∀ W,Below w5.heap.size w5 W→W.cell? ⟨w4.heap.size,0,none⟩=some (.int .i64 rp.id)∧W.cell? ⟨w4.heap.size,1,none⟩=some (.int .i64 rp.known)∧W.cell? ⟨w4.heap.size,2,none⟩=some (.int .u8 rp.kind)∧W.cell? ⟨w4.heap.size,3,none⟩=some (.int .i64 rp.pit)∧W.cell? ⟨w4.heap.size,4,none⟩=some (.int .i64 rp.layer)∧W.cell? ⟨w4.heap.size,5,none⟩=some (.int .i64 rp.lower)∧W.cell? ⟨w4.heap.size,6,none⟩=some (.int .i64 rp.low)∧W.cell? ⟨w4.heap.size,7,none⟩=some (.int .i64 rp.high)∧W.cell? ⟨w4.heap.size,8,none⟩=some (.int .i64 rp.cost)∧W.cell? ⟨w4.heap.size,9,none⟩=some (.int .i64 rp.void)):=(show ∀ W,_→_ from fun W h=>by
                   have hh:=(h.block w4.heap.size (by omega)).trans e5
                   simp [World.cell?,hh])
          have HDx5:=Lib.hid (Below.refl w5.heap.size w5)
          obtain ⟨a5_0,a5_1,a5_2,a5_3,a5_4,a5_5,a5_6,a5_7,a5_8,a5_9⟩:=HPC.out w5 HC5.out
          obtain ⟨x5_0,x5_1,x5_2,x5_3,x5_4,x5_5,x5_6,x5_7,x5_8,x5_9⟩:=HXC.out w5 HDx5.out
          clear hb4 x5 l5 z5 e5)
       | (go_at_call 6;(with_reducible refine (KV.out _).mono ?_);rintro e w3 ⟨rfl,hb3⟩
          have HC3:=Lib.hid (HC2.out.trans (hb3.mono HC2.out.size))
          obtain ⟨a3_0,a3_1,a3_2,a3_3,a3_4,a3_5,a3_6,a3_7,a3_8,a3_9⟩:=HPC.out w3 HC3.out
          clear hb3)
       | (go_at_call 5;(with_reducible refine (KW.out _ HC1.out).mono ?_);rintro e w2 ⟨rfl,hb2⟩
          have HC2:=Lib.hid (HC1.out.trans (hb2.mono HC1.out.size))
          obtain ⟨a2_0,a2_1,a2_2,a2_3,a2_4,a2_5,a2_6,a2_7,a2_8,a2_9⟩:=HPC.out w2 HC2.out
          clear hb2))
      go_ret
      exact ⟨rfl,HJ.out⟩
    · clear KX
      go_enter Tryz.func3,Tryz.ntmps3
      go_wp2_with (first
       | rw [HW1.out]
       | rw [HA5.out]
       | rw [HA7.out]
       | rw [HA9.out]
       | (go_at_call 4;(with_reducible refine (dug_any _).mono ?_);rintro e w10 ⟨rfl,hb10⟩;have HJ:=Lib.hid (HB1.out.trans ((HC9.out.trans (hb10.mono HC9.out.size)).mono HB1.out.size));clear hb10)
       | (go_at_call 7;(with_reducible refine (KB1.out _ HC7.out).mono ?_);rintro e w8 ⟨rfl,hb8⟩
          have HC8:=Lib.hid (HC7.out.trans (hb8.mono HC7.out.size))
          have HDx8:=Lib.hid (HDx7.out.trans (hb8.mono HDx7.out.size))
          have HDy8:=Lib.hid (hb8)
          obtain ⟨w9,x9,l9,z9,e9⟩:=alloc_facts w8 #[.int .i64 p.id,.int .i64 p.known,.int .u8 p.kind,.int .i64 p.pit,.int .i64 p.layer,.int .i64 p.lower,.int .i64 p.low,.int .i64 p.high,.int .i64 p.cost,.int .i64 p.void] 23
          have HA9:=Lib.hid x9
          have z9':w9.heap.size=w8.heap.size+1:=z9
          have HC9:=Lib.hid (HC8.out.trans (l9.mono HC8.out.size))
          have HDx9:=Lib.hid (HDx8.out.trans (l9.mono HDx8.out.size))
          have HDy9:=Lib.hid (HDy8.out.trans (l9.mono HDy8.out.size))
          have HBC:Hid (∀ W,Below w9.heap.size w9 W→W.cell? ⟨w8.heap.size,0,none⟩=some (.int .i64 p.id)∧W.cell? ⟨w8.heap.size,1,none⟩=some (.int .i64 p.known)∧W.cell? ⟨w8.heap.size,2,none⟩=some (.int .u8 p.kind)∧W.cell? ⟨w8.heap.size,3,none⟩=some (.int .i64 p.pit)∧W.cell? ⟨w8.heap.size,4,none⟩=some (.int .i64 p.layer)∧W.cell? ⟨w8.heap.size,5,none⟩=some (.int .i64 p.lower)∧W.cell? ⟨w8.heap.size,6,none⟩=some (.int .i64 p.low)∧W.cell? ⟨w8.heap.size,7,none⟩=some (.int .i64 p.high)∧W.cell? ⟨w8.heap.size,8,none⟩=some (.int .i64 p.cost)∧W.cell? ⟨w8.heap.size,9,none⟩=some (.int .i64 p.void)):=(show ∀ W,_→_ from fun W h=>by
                   have hh:=(h.block w8.heap.size (by omega)).trans e9
                   simp [World.cell?,hh])
          have HDb9:=Lib.hid (Below.refl w9.heap.size w9)
          obtain ⟨a9_0,a9_1,a9_2,a9_3,a9_4,a9_5,a9_6,a9_7,a9_8,a9_9⟩:=HPC.out w9 HC9.out
          obtain ⟨x9_0,x9_1,x9_2,x9_3,x9_4,x9_5,x9_6,x9_7,x9_8,x9_9⟩:=HXC.out w9 HDx9.out
          obtain ⟨y9_0,y9_1,y9_2,y9_3,y9_4,y9_5,y9_6,y9_7,y9_8,y9_9⟩:=HYC.out w9 HDy9.out
          obtain ⟨b9_0,b9_1,b9_2,b9_3,b9_4,b9_5,b9_6,b9_7,b9_8,b9_9⟩:=HBC.out w9 HDb9.out
          clear hb8 x9 l9 z9 e9)
       | (go_at_call 8;(with_reducible refine (KQ.out _).mono ?_);rintro e w6 ⟨rfl,hb6⟩
          have HC6:=Lib.hid (HC5.out.trans (hb6.mono HC5.out.size))
          have HDx6:=Lib.hid (hb6)
          obtain ⟨w7,x7,l7,z7,e7⟩:=alloc_facts w6 #[.int .i64 rp.id,.int .i64 rp.known,.int .u8 rp.kind,.int .i64 rp.pit,.int .i64 rp.layer,.int .i64 rp.lower,.int .i64 rp.low,.int .i64 rp.high,.int .i64 rp.cost,.int .i64 rp.void] 23
          have HA7:=Lib.hid x7
          have z7':w7.heap.size=w6.heap.size+1:=z7
          have HC7:=Lib.hid (HC6.out.trans (l7.mono HC6.out.size))
          have HDx7:=Lib.hid (HDx6.out.trans (l7.mono HDx6.out.size))
          have HYC:Hid (∀ W,Below w7.heap.size w7 W→W.cell? ⟨w6.heap.size,0,none⟩=some (.int .i64 rp.id)∧W.cell? ⟨w6.heap.size,1,none⟩=some (.int .i64 rp.known)∧W.cell? ⟨w6.heap.size,2,none⟩=some (.int .u8 rp.kind)∧W.cell? ⟨w6.heap.size,3,none⟩=some (.int .i64 rp.pit)∧W.cell? ⟨w6.heap.size,4,none⟩=some (.int .i64 rp.layer)∧W.cell? ⟨w6.heap.size,5,none⟩=some (.int .i64 rp.lower)∧W.cell? ⟨w6.heap.size,6,none⟩=some (.int .i64 rp.low)∧W.cell? ⟨w6.heap.size,7,none⟩=some (.int .i64 rp.high)∧W.cell? ⟨w6.heap.size,8,none⟩=some (.int .i64 rp.cost)∧W.cell? ⟨w6.heap.size,9,none⟩=some (.int .i64 rp.void)):=(show ∀ W,_→_ from fun W h=>by
                   have hh:=(h.block w6.heap.size (by omega)).trans e7
                   simp [World.cell?,hh])
          have HDy7:=Lib.hid (Below.refl w7.heap.size w7)
          obtain ⟨a7_0,a7_1,a7_2,a7_3,a7_4,a7_5,a7_6,a7_7,a7_8,a7_9⟩:=HPC.out w7 HC7.out
          obtain ⟨x7_0,x7_1,x7_2,x7_3,x7_4,x7_5,x7_6,x7_7,x7_8,x7_9⟩:=HXC.out w7 HDx7.out
          obtain ⟨y7_0,y7_1,y7_2,y7_3,y7_4,y7_5,y7_6,y7_7,y7_8,y7_9⟩:=HYC.out w7 HDy7.out
          clear hb6 x7 l7 z7 e7)
       | (go_at_call 7;(with_reducible refine (KR.out _ HC3.out).mono ?_);rintro e w4 ⟨rfl,hb4⟩
          have HC4:=Lib.hid (HC3.out.trans (hb4.mono HC3.out.size))
          obtain ⟨w5,x5,l5,z5,e5⟩:=alloc_facts w4 #[.int .i64 rp.id,.int .i64 rp.known,.int .u8 rp.kind,.int .i64 rp.pit,.int .i64 rp.layer,.int .i64 rp.lower,.int .i64 rp.low,.int .i64 rp.high,.int .i64 rp.cost,.int .i64 rp.void] 23
          have HA5:=Lib.hid x5
          have z5':w5.heap.size=w4.heap.size+1:=z5
          have HC5:=Lib.hid (HC4.out.trans (l5.mono HC4.out.size))
          have HXC:Hid (∀ W,Below w5.heap.size w5 W→W.cell? ⟨w4.heap.size,0,none⟩=some (.int .i64 rp.id)∧W.cell? ⟨w4.heap.size,1,none⟩=some (.int .i64 rp.known)∧W.cell? ⟨w4.heap.size,2,none⟩=some (.int .u8 rp.kind)∧W.cell? ⟨w4.heap.size,3,none⟩=some (.int .i64 rp.pit)∧W.cell? ⟨w4.heap.size,4,none⟩=some (.int .i64 rp.layer)∧W.cell? ⟨w4.heap.size,5,none⟩=some (.int .i64 rp.lower)∧W.cell? ⟨w4.heap.size,6,none⟩=some (.int .i64 rp.low)∧W.cell? ⟨w4.heap.size,7,none⟩=some (.int .i64 rp.high)∧W.cell? ⟨w4.heap.size,8,none⟩=some (.int .i64 rp.cost)∧W.cell? ⟨w4.heap.size,9,none⟩=some (.int .i64 rp.void)):=(show ∀ W,_→_ from fun W h=>by
                   have hh:=(h.block w4.heap.size (by omega)).trans e5
                   simp [World.cell?,hh])
          have HDx5:=Lib.hid (Below.refl w5.heap.size w5)
          obtain ⟨a5_0,a5_1,a5_2,a5_3,a5_4,a5_5,a5_6,a5_7,a5_8,a5_9⟩:=HPC.out w5 HC5.out
          obtain ⟨x5_0,x5_1,x5_2,x5_3,x5_4,x5_5,x5_6,x5_7,x5_8,x5_9⟩:=HXC.out w5 HDx5.out
          clear hb4 x5 l5 z5 e5)
       | (go_at_call 6;(with_reducible refine (KV.out _).mono ?_);rintro e w3 ⟨rfl,hb3⟩
          have HC3:=Lib.hid (HC2.out.trans (hb3.mono HC2.out.size))
          obtain ⟨a3_0,a3_1,a3_2,a3_3,a3_4,a3_5,a3_6,a3_7,a3_8,a3_9⟩:=HPC.out w3 HC3.out
          clear hb3)
       | (go_at_call 5;(with_reducible refine (KW.out _ HC1.out).mono ?_);rintro e w2 ⟨rfl,hb2⟩
          have HC2:=Lib.hid (HC1.out.trans (hb2.mono HC1.out.size))
          obtain ⟨a2_0,a2_1,a2_2,a2_3,a2_4,a2_5,a2_6,a2_7,a2_8,a2_9⟩:=HPC.out w2 HC2.out
          clear hb2))
      go_ret
      exact ⟨rfl,HJ.out⟩
  · clear KB
    rcases hr04 with rfl|rfl
    · have KX1:=Lib.hid (KX.out rfl)
      clear KX
      go_enter Tryz.func3,Tryz.ntmps3
      go_wp2_with (first
       | rw [HW1.out]
       | rw [HA5.out]
       | rw [HA7.out]
       | (go_at_call 4;(with_reducible refine (dug_any _).mono ?_);rintro e w9 ⟨rfl,hb9⟩;have HJ:=Lib.hid (HB1.out.trans ((HC8.out.trans (hb9.mono HC8.out.size)).mono HB1.out.size));clear hb9)
       | (go_at_call 5;(with_reducible refine ((show Hid _ from KX1).out _ HC7.out).mono ?_);rintro e w8 ⟨rfl,hb8⟩
          have HC8:=Lib.hid (HC7.out.trans (hb8.mono HC7.out.size))
          have HDx8:=Lib.hid (HDx7.out.trans (hb8.mono HDx7.out.size))
          have HDy8:=Lib.hid (hb8)
          obtain ⟨a8_0,a8_1,a8_2,a8_3,a8_4,a8_5,a8_6,a8_7,a8_8,a8_9⟩:=HPC.out w8 HC8.out
          obtain ⟨x8_0,x8_1,x8_2,x8_3,x8_4,x8_5,x8_6,x8_7,x8_8,x8_9⟩:=HXC.out w8 HDx8.out
          obtain ⟨y8_0,y8_1,y8_2,y8_3,y8_4,y8_5,y8_6,y8_7,y8_8,y8_9⟩:=HYC.out w8 HDy8.out
          clear hb8)
       | (go_at_call 8;(with_reducible refine (KQ.out _).mono ?_);rintro e w6 ⟨rfl,hb6⟩
          have HC6:=Lib.hid (HC5.out.trans (hb6.mono HC5.out.size))
          have HDx6:=Lib.hid (hb6)
          obtain ⟨w7,x7,l7,z7,e7⟩:=alloc_facts w6 #[.int .i64 rp.id,.int .i64 rp.known,.int .u8 rp.kind,.int .i64 rp.pit,.int .i64 rp.layer,.int .i64 rp.lower,.int .i64 rp.low,.int .i64 rp.high,.int .i64 rp.cost,.int .i64 rp.void] 23
          have HA7:=Lib.hid x7
          have z7':w7.heap.size=w6.heap.size+1:=z7
          have HC7:=Lib.hid (HC6.out.trans (l7.mono HC6.out.size))
          have HDx7:=Lib.hid (HDx6.out.trans (l7.mono HDx6.out.size))
          have HYC:Hid (∀ W,Below w7.heap.size w7 W→W.cell? ⟨w6.heap.size,0,none⟩=some (.int .i64 rp.id)∧W.cell? ⟨w6.heap.size,1,none⟩=some (.int .i64 rp.known)∧W.cell? ⟨w6.heap.size,2,none⟩=some (.int .u8 rp.kind)∧W.cell? ⟨w6.heap.size,3,none⟩=some (.int .i64 rp.pit)∧W.cell? ⟨w6.heap.size,4,none⟩=some (.int .i64 rp.layer)∧W.cell? ⟨w6.heap.size,5,none⟩=some (.int .i64 rp.lower)∧W.cell? ⟨w6.heap.size,6,none⟩=some (.int .i64 rp.low)∧W.cell? ⟨w6.heap.size,7,none⟩=some (.int .i64 rp.high)∧W.cell? ⟨w6.heap.size,8,none⟩=some (.int .i64 rp.cost)∧W.cell? ⟨w6.heap.size,9,none⟩=some (.int .i64 rp.void)):=(show ∀ W,_→_ from fun W h=>by
                   have hh:=(h.block w6.heap.size (by omega)).trans e7
                   simp [World.cell?,hh])
          have HDy7:=Lib.hid (Below.refl w7.heap.size w7)
          obtain ⟨a7_0,a7_1,a7_2,a7_3,a7_4,a7_5,a7_6,a7_7,a7_8,a7_9⟩:=HPC.out w7 HC7.out
          obtain ⟨x7_0,x7_1,x7_2,x7_3,x7_4,x7_5,x7_6,x7_7,x7_8,x7_9⟩:=HXC.out w7 HDx7.out
          obtain ⟨y7_0,y7_1,y7_2,y7_3,y7_4,y7_5,y7_6,y7_7,y7_8,y7_9⟩:=HYC.out w7 HDy7.out
          clear hb6 x7 l7 z7 e7)
       | (go_at_call 7;(with_reducible refine (KR.out _ HC3.out).mono ?_);rintro e w4 ⟨rfl,hb4⟩
          have HC4:=Lib.hid (HC3.out.trans (hb4.mono HC3.out.size))
          obtain ⟨w5,x5,l5,z5,e5⟩:=alloc_facts w4 #[.int .i64 rp.id,.int .i64 rp.known,.int .u8 rp.kind,.int .i64 rp.pit,.int .i64 rp.layer,.int .i64 rp.lower,.int .i64 rp.low,.int .i64 rp.high,.int .i64 rp.cost,.int .i64 rp.void] 23
          have HA5:=Lib.hid x5
          have z5':w5.heap.size=w4.heap.size+1:=z5
          have HC5:=Lib.hid (HC4.out.trans (l5.mono HC4.out.size))
          have HXC:Hid (∀ W,Below w5.heap.size w5 W→W.cell? ⟨w4.heap.size,0,none⟩=some (.int .i64 rp.id)∧W.cell? ⟨w4.heap.size,1,none⟩=some (.int .i64 rp.known)∧W.cell? ⟨w4.heap.size,2,none⟩=some (.int .u8 rp.kind)∧W.cell? ⟨w4.heap.size,3,none⟩=some (.int .i64 rp.pit)∧W.cell? ⟨w4.heap.size,4,none⟩=some (.int .i64 rp.layer)∧W.cell? ⟨w4.heap.size,5,none⟩=some (.int .i64 rp.lower)∧W.cell? ⟨w4.heap.size,6,none⟩=some (.int .i64 rp.low)∧W.cell? ⟨w4.heap.size,7,none⟩=some (.int .i64 rp.high)∧W.cell? ⟨w4.heap.size,8,none⟩=some (.int .i64 rp.cost)∧W.cell? ⟨w4.heap.size,9,none⟩=some (.int .i64 rp.void)):=(show ∀ W,_→_ from fun W h=>by
                   have hh:=(h.block w4.heap.size (by omega)).trans e5
                   simp [World.cell?,hh])
          have HDx5:=Lib.hid (Below.refl w5.heap.size w5)
          obtain ⟨a5_0,a5_1,a5_2,a5_3,a5_4,a5_5,a5_6,a5_7,a5_8,a5_9⟩:=HPC.out w5 HC5.out
          obtain ⟨x5_0,x5_1,x5_2,x5_3,x5_4,x5_5,x5_6,x5_7,x5_8,x5_9⟩:=HXC.out w5 HDx5.out
          clear hb4 x5 l5 z5 e5)
       | (go_at_call 6;(with_reducible refine (KV.out _).mono ?_);rintro e w3 ⟨rfl,hb3⟩
          have HC3:=Lib.hid (HC2.out.trans (hb3.mono HC2.out.size))
          obtain ⟨a3_0,a3_1,a3_2,a3_3,a3_4,a3_5,a3_6,a3_7,a3_8,a3_9⟩:=HPC.out w3 HC3.out
          clear hb3)
       | (go_at_call 5;(with_reducible refine (KW.out _ HC1.out).mono ?_);rintro e w2 ⟨rfl,hb2⟩
          have HC2:=Lib.hid (HC1.out.trans (hb2.mono HC1.out.size))
          obtain ⟨a2_0,a2_1,a2_2,a2_3,a2_4,a2_5,a2_6,a2_7,a2_8,a2_9⟩:=HPC.out w2 HC2.out
          clear hb2))
      go_ret
      exact ⟨rfl,HJ.out⟩
    · clear KX
      go_enter Tryz.func3,Tryz.ntmps3
      go_wp2_with (first
       | rw [HW1.out]
       | rw [HA5.out]
       | rw [HA7.out]
       | (go_at_call 4;(with_reducible refine (dug_any _).mono ?_);rintro e w8 ⟨rfl,hb8⟩;have HJ:=Lib.hid (HB1.out.trans ((HC7.out.trans (hb8.mono HC7.out.size)).mono HB1.out.size));clear hb8)
       | (go_at_call 8;(with_reducible refine (KQ.out _).mono ?_);rintro e w6 ⟨rfl,hb6⟩
          have HC6:=Lib.hid (HC5.out.trans (hb6.mono HC5.out.size))
          have HDx6:=Lib.hid (hb6)
          obtain ⟨w7,x7,l7,z7,e7⟩:=alloc_facts w6 #[.int .i64 rp.id,.int .i64 rp.known,.int .u8 rp.kind,.int .i64 rp.pit,.int .i64 rp.layer,.int .i64 rp.lower,.int .i64 rp.low,.int .i64 rp.high,.int .i64 rp.cost,.int .i64 rp.void] 23
          have HA7:=Lib.hid x7
          have z7':w7.heap.size=w6.heap.size+1:=z7
          have HC7:=Lib.hid (HC6.out.trans (l7.mono HC6.out.size))
          have HDx7:=Lib.hid (HDx6.out.trans (l7.mono HDx6.out.size))
          have HYC:Hid (∀ W,Below w7.heap.size w7 W→W.cell? ⟨w6.heap.size,0,none⟩=some (.int .i64 rp.id)∧W.cell? ⟨w6.heap.size,1,none⟩=some (.int .i64 rp.known)∧W.cell? ⟨w6.heap.size,2,none⟩=some (.int .u8 rp.kind)∧W.cell? ⟨w6.heap.size,3,none⟩=some (.int .i64 rp.pit)∧W.cell? ⟨w6.heap.size,4,none⟩=some (.int .i64 rp.layer)∧W.cell? ⟨w6.heap.size,5,none⟩=some (.int .i64 rp.lower)∧W.cell? ⟨w6.heap.size,6,none⟩=some (.int .i64 rp.low)∧W.cell? ⟨w6.heap.size,7,none⟩=some (.int .i64 rp.high)∧W.cell? ⟨w6.heap.size,8,none⟩=some (.int .i64 rp.cost)∧W.cell? ⟨w6.heap.size,9,none⟩=some (.int .i64 rp.void)):=(show ∀ W,_→_ from fun W h=>by
                   have hh:=(h.block w6.heap.size (by omega)).trans e7
                   simp [World.cell?,hh])
          have HDy7:=Lib.hid (Below.refl w7.heap.size w7)
          obtain ⟨a7_0,a7_1,a7_2,a7_3,a7_4,a7_5,a7_6,a7_7,a7_8,a7_9⟩:=HPC.out w7 HC7.out
          obtain ⟨x7_0,x7_1,x7_2,x7_3,x7_4,x7_5,x7_6,x7_7,x7_8,x7_9⟩:=HXC.out w7 HDx7.out
          obtain ⟨y7_0,y7_1,y7_2,y7_3,y7_4,y7_5,y7_6,y7_7,y7_8,y7_9⟩:=HYC.out w7 HDy7.out
          clear hb6 x7 l7 z7 e7)
       | (go_at_call 7;(with_reducible refine (KR.out _ HC3.out).mono ?_);rintro e w4 ⟨rfl,hb4⟩
          have HC4:=Lib.hid (HC3.out.trans (hb4.mono HC3.out.size))
          obtain ⟨w5,x5,l5,z5,e5⟩:=alloc_facts w4 #[.int .i64 rp.id,.int .i64 rp.known,.int .u8 rp.kind,.int .i64 rp.pit,.int .i64 rp.layer,.int .i64 rp.lower,.int .i64 rp.low,.int .i64 rp.high,.int .i64 rp.cost,.int .i64 rp.void] 23
          have HA5:=Lib.hid x5
          have z5':w5.heap.size=w4.heap.size+1:=z5
          have HC5:=Lib.hid (HC4.out.trans (l5.mono HC4.out.size))
          have HXC:Hid (∀ W,Below w5.heap.size w5 W→W.cell? ⟨w4.heap.size,0,none⟩=some (.int .i64 rp.id)∧W.cell? ⟨w4.heap.size,1,none⟩=some (.int .i64 rp.known)∧W.cell? ⟨w4.heap.size,2,none⟩=some (.int .u8 rp.kind)∧W.cell? ⟨w4.heap.size,3,none⟩=some (.int .i64 rp.pit)∧W.cell? ⟨w4.heap.size,4,none⟩=some (.int .i64 rp.layer)∧W.cell? ⟨w4.heap.size,5,none⟩=some (.int .i64 rp.lower)∧W.cell? ⟨w4.heap.size,6,none⟩=some (.int .i64 rp.low)∧W.cell? ⟨w4.heap.size,7,none⟩=some (.int .i64 rp.high)∧W.cell? ⟨w4.heap.size,8,none⟩=some (.int .i64 rp.cost)∧W.cell? ⟨w4.heap.size,9,none⟩=some (.int .i64 rp.void)):=(show ∀ W,_→_ from fun W h=>by
                   have hh:=(h.block w4.heap.size (by omega)).trans e5
                   simp [World.cell?,hh])
          have HDx5:=Lib.hid (Below.refl w5.heap.size w5)
          obtain ⟨a5_0,a5_1,a5_2,a5_3,a5_4,a5_5,a5_6,a5_7,a5_8,a5_9⟩:=HPC.out w5 HC5.out
          obtain ⟨x5_0,x5_1,x5_2,x5_3,x5_4,x5_5,x5_6,x5_7,x5_8,x5_9⟩:=HXC.out w5 HDx5.out
          clear hb4 x5 l5 z5 e5)
       | (go_at_call 6;(with_reducible refine (KV.out _).mono ?_);rintro e w3 ⟨rfl,hb3⟩
          have HC3:=Lib.hid (HC2.out.trans (hb3.mono HC2.out.size))
          obtain ⟨a3_0,a3_1,a3_2,a3_3,a3_4,a3_5,a3_6,a3_7,a3_8,a3_9⟩:=HPC.out w3 HC3.out
          clear hb3)
       | (go_at_call 5;(with_reducible refine (KW.out _ HC1.out).mono ?_);rintro e w2 ⟨rfl,hb2⟩
          have HC2:=Lib.hid (HC1.out.trans (hb2.mono HC1.out.size))
          obtain ⟨a2_0,a2_1,a2_2,a2_3,a2_4,a2_5,a2_6,a2_7,a2_8,a2_9⟩:=HPC.out w2 HC2.out
          clear hb2))
      go_ret
      exact ⟨rfl,HJ.out⟩
end Go.Proofs.YtejjplhknacoiaaGreatDoor
end
section
namespace Go
theorem returnsInHanded_and_shaped {H:Type} {enc:TypeId×Value→H} {a:Assume} {C:Checked} {os:Os} {f:FuncId} {fn:Func} {s:ChangeSpec} {conds:List PathCond} {apart fresh handsOn again:Bool} {X:World→Array Value→Prop}
 (hX:∀ (w w':World) (args:Array Value),w.heap=w'.heap→X w args→X w' args)
 (own:ownKnob C.prog.godebug=none) (started:os.Started) (noInit:C.prog.inits.idxOf? f=none) (hfn:C.prog.funcs[f]? = some fn)
 (witness:∃ (w:World) (tape:Tape) (i:Input),w.os=os∧(w.forCall tape i).Shaped C.prog∧i.vars = []∧Input.okWide C.prog (w.forCall tape i) .any w.heap.size f i∧
   ((s.pre enc C.prog fn conds apart (w.forCall tape i).memory i.args∧X (w.forCall tape i).memory i.args)∧sizedMet enc C.prog fn (OpenSpec.ofChange s) apart (w.forCall tape i).memory i.args)∧a.holds C.prog (lone (Frame.enter C.prog f i.args .normal) [] (w.forCall tape i)))
 (contract:∀ (W:World) (base:Nat) (args:Array Value) (ds gs:List (DataW H)) (before:List MemPlace),
   (∀ (j:Nat) t v,fn.params[j]? = some t→args[j]? = some v→Value.okWide C.prog W .any base t v)→
   DataW.Whole enc C.prog fn.params.toList s.vars apart W args.toList ds gs before→
   X W args→W.ShapedOpen C.prog→
   Calls C.prog f args W fun e W'=> ∃ v,e = .returned v∧s.post enc C.prog fn apart fresh handsOn again W args v W'):
 ReturnsInHanded a C os f .any (fun w args=>(s.pre enc C.prog fn conds apart w args∧X w args)∧sizedMet enc C.prog fn (OpenSpec.ofChange s) apart w args) (s.post enc C.prog fn apart fresh handsOn again):=by
 refine returnsInHanded_of_calls own started noInit witness ?_
 intro w tape i _ hsh _ hok hpre hholds
 obtain ⟨_,_,_,fn',hfn',_,_,_,_,hval⟩:=hok
 have e:fn'=fn:=Option.some.inj (hfn'.symm.trans hfn)
 subst e
 obtain ⟨⟨⟨ds,gs,before,hw,hc⟩,hx⟩,hz⟩:=hpre
 have hw':=DataW.Whole.of_heap (w':=w.forCall tape i) (by rfl) hw
 refine (contract (w.forCall tape i) w.heap.size i.args ds gs before hval hw' (hX _ _ _ (by rfl) hx) hsh).mono fun e W' ⟨v,he,hp⟩=> ?_
 subst he
 exact ChangeSpec.post_blind hp
end Go
namespace Go.Proofs.YtejjplhknacoiaaGreatDoor
open Go.RowKit Go.Proofs
theorem gES:Tryz.prog.globalNamed "strconv.ErrSyntax" = some 0:=by kernel_rfl
theorem gER:Tryz.prog.globalNamed "strconv.ErrRange" = some 1:=by kernel_rfl
theorem gESt:(Tryz.prog.globals[0]?).map (·.type)=some 66:=by kernel_rfl
theorem gERt:(Tryz.prog.globals[1]?).map (·.type)=some 66:=by kernel_rfl
theorem starE: "*" ++ "errors.errorString" = "*errors.errorString" := by decide
theorem gTabt:(Tryz.prog.globals[2]?).map (·.type)=some 237:=by kernel_rfl
theorem rowErr (u:TypeId) (h:Tryz.prog.typeName? 3 u=some "*errors.errorString"):u=242:=
 typeName_ptr_named (nm:= "errors.errorString") (by rw [starE];kernel_rfl) (by kernel_rfl) (by decide) u (by rw [starE];exact h)
theorem vars_ok {W:World} (h:laidMetH Tryz.prog Rows.stratumLinesRow.laid W) (hs:W.ShapedOpen Tryz.prog):VarsOk W:=by
 rw [MakeChecks.laidMetH_plain _ _ _ (by kernel_rfl)] at h
 have h4:=h.tail.tail.tail.tail
 obtain ⟨a0,s0,hv0,-,-,-⟩:=laid_sentinel h4 gER gERt Tryz.underlying66 rowErr Tryz.underlying242 Tryz.underlying244 rfl rfl Tryz.underlying9 (by kernel_rfl) (by kernel_rfl)
 obtain ⟨a1,s1,hv1,-,-,-⟩:=laid_sentinel h4.tail gES gESt Tryz.underlying66 rowErr Tryz.underlying242 Tryz.underlying244 rfl rfl Tryz.underlying9 (by kernel_rfl) (by kernel_rfl)
 have h2:=h.tail.tail
 have htab:Lib.TabIs Tryz.prog W "internal/strconv.uint64pow10" .u64 Lib.pow10Tab:=Lib.tabIs_of_head gTab gTabt Tryz.underlying237 Tryz.underlying198 (by kernel_rfl) (by kernel_rfl) h2
 refine ⟨⟨_,by have h0:=World.var?_cell gES hv1 0;simpa using h0,.inr ⟨_,_,rfl⟩⟩,⟨_,by have h0:=World.var?_cell gER hv0 0;simpa using h0,.inr ⟨_,_,rfl⟩⟩,?_,htab⟩
 exact cell_of_shapedOpen_int (t:=3) (zero:=#[.int .i64 0]) hs (of_decide_eq_true (by kernel_rfl)) (by kernel_rfl) rfl (by kernel_rfl) (by kernel_rfl) Tryz.underlying3
end Go.Proofs.YtejjplhknacoiaaGreatDoor
end

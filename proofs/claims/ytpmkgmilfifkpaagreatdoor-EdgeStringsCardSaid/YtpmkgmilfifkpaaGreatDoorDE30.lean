/- Contracts that the laws lean on: StrL, StrY. -/
import Derived.Test.YtpmkgmilfifkpaaGreatDoorDE29
import Derived.Test.YtpmkgmilfifkpaaGreatDoorDE26
import Derived.Test.YtpmkgmilfifkpaaGreatDoorRows
import Derived.Stop.LaidErr
import Derived.LaidMore
import Derived.ProofKit
set_option maxRecDepth 100000
set_option maxHeartbeats 8000000
section
namespace Go.Proofs.YtpmkgmilfifkpaaGreatDoor
open Go.RowKit Go.Proofs Go.Shelf
theorem back_ok {p:Pairing} (h:okP p=true):readP (textV p).data.toList=p∧readErr (textV p).data.toList=0:=by
 obtain ⟨h1,_⟩:=good_ok h
 rw [h1]
 exact read_some h rfl
theorem text_size {p:Pairing} : (textV p).size≤11:=by
 cases h:okP p with
 | true=>
   rw [(good_ok h).1]
   have:=(text_len h).2
   exact this
 | false=>
   rw [(bad_ok h).1]
   exact Nat.zero_le _
theorem read_back {s:ByteArray} (h:readErr s.data.toList=0):textV (readP s.data.toList)=s∧writeErr (readP s.data.toList)=0:=by
 unfold readErr at h
 cases hr:readE s.data.toList with
 | none=>rw [hr] at h;simp at h
 | some p=>
   obtain ⟨h1,h2⟩:=readE_some hr
   have hp:readP s.data.toList=p:=by unfold readP;rw [hr];rfl
   rw [hp]
   obtain ⟨h3,h4⟩:=good_ok h1
   rw [h3,h2]
   exact ⟨rfl,h4⟩
theorem write01 (p:Pairing):(writeErr p=0∧okP p=true)∨writeErr p=1:=by
 cases h:okP p with
 | true=>exact .inl ⟨(good_ok h).2,rfl⟩
 | false=>exact .inr (bad_ok h).2
theorem read04 (l:List UInt8):readErr l=0∨readErr l=4:=by unfold readErr;split<;>simp
theorem edgeStrings_of (p:Pairing) (s:ByteArray) (w:World) (hv:VarsOk w):
 Calls Tryz.prog 3 #[.agg #[.int .i64 p.a.lo,.int .i64 p.a.hi,.int .i64 p.b.lo,.int .i64 p.b.hi],.string s] w fun e w'=>e = .returned (.bool true)∧Below w.heap.size w w':=by
 obtain ⟨w1,hw1,hb1,hz1,e1⟩:=alloc_facts w #[.int .i64 p.a.lo,.int .i64 p.a.hi,.int .i64 p.b.lo,.int .i64 p.b.hi] 25
 have HW1:=Lib.hid hw1
 have HB1:=Lib.hid hb1
 have HPC:Hid (∀ W,Below w1.heap.size w1 W→W.cell? ⟨w.heap.size,0,none⟩=some (.int .i64 p.a.lo)∧W.cell? ⟨w.heap.size,1,none⟩=some (.int .i64 p.a.hi)∧W.cell? ⟨w.heap.size,2,none⟩=some (.int .i64 p.b.lo)∧W.cell? ⟨w.heap.size,3,none⟩=some (.int .i64 p.b.hi)):=(show ∀ W,_→_ from fun W h=>by
  have hh:=(h.block w.heap.size (by omega)).trans e1
  simp [World.cell?,hh])
 have HV1:Hid (VarsOk w1):=(show VarsOk w1 from hv.below hb1)
 obtain ⟨a0,a1,a2,a3⟩:=HPC.out w1 (Below.refl _ _)
 clear hw1 hb1 e1 hv
 by_cases hsz:40<s.size
 case pos=>
  have hc:(40:Int)<(s.size:Int):=(by omega)
  clear hsz
  go_enter Tryz.func3,Tryz.ntmps3
  go_wp2_with (first
   | rw [HW1.out]
   | (go_at_call 4;(with_reducible refine (joined_any _).mono ?_);rintro e w4 ⟨rfl,hb4⟩;have HJ:=Lib.hid (HB1.out.trans (hb4.mono HB1.out.size));clear hb4))
  go_ret
  exact ⟨rfl,HJ.out⟩
 case neg=>
  have hc:¬(40:Int)<(s.size:Int):=(by omega)
  have KW:=Lib.hid (fun W=>writeE_any p W)
  have KV:=Lib.hid (fun W=>r3Write_any p W)
  have KR:Hid (∀ W,Below w1.heap.size w1 W→Calls Tryz.prog 7 #[.string s] W fun e w'=>e = .returned (.tuple #[.agg #[.int .i64 (readP s.data.toList).a.lo,.int .i64 (readP s.data.toList).a.hi,.int .i64 (readP s.data.toList).b.lo,.int .i64 (readP s.data.toList).b.hi],.int .i64 (readErr s.data.toList)])∧Below W.heap.size W w'):=(show ∀ W,_→_ from fun W hW=>readE_any s W (by omega) (HV1.out.below hW))
  have KQ:=Lib.hid (fun W=>r3Read_any s W (by omega))
  have KB:Hid (okP p=true→∀ W,Below w1.heap.size w1 W→Calls Tryz.prog 7 #[.string (textV p)] W fun e w'=>e = .returned (.tuple #[.agg #[.int .i64 p.a.lo,.int .i64 p.a.hi,.int .i64 p.b.lo,.int .i64 p.b.hi],.int .i64 0])∧Below W.heap.size W w'):=(show _→∀ W,_→_ from fun hok W hW=>by
   have h:=readE_any (textV p) W (by have:=text_size (p:=p);omega) (HV1.out.below hW)
   obtain ⟨h1,h2⟩:=back_ok hok
   rw [h1,h2] at h
   exact h)
  have KX:Hid (readErr s.data.toList=0→∀ W,Calls Tryz.prog 5 #[.agg #[.int .i64 (readP s.data.toList).a.lo,.int .i64 (readP s.data.toList).a.hi,.int .i64 (readP s.data.toList).b.lo,.int .i64 (readP s.data.toList).b.hi]] W fun e w'=>e = .returned (.tuple #[.string s,.int .i64 0])∧Below W.heap.size W w'):=(show _→∀ W,_ from fun h0 W=>by
   have h:=writeE_any (readP s.data.toList) W
   obtain ⟨h1,h2⟩:=read_back h0
   rw [h1,h2] at h
   exact h)
  have hw01:=write01 p
  have hr04:=read04 s.data.toList
  clear hsz
  generalize textV p=T at *
  generalize writeErr p=we at *
  generalize readP s.data.toList=rp at *
  generalize readErr s.data.toList=re at *
  have hTT:(T.toList==T.toList)=true:=(by simp)
  have hss:(s.toList==s.toList)=true:=(by simp)
  have hrr:eqPairing ⟨⟨rp.a.lo,rp.a.hi⟩,⟨rp.b.lo,rp.b.hi⟩⟩ ⟨⟨rp.a.lo,rp.a.hi⟩,⟨rp.b.lo,rp.b.hi⟩⟩=true:=eqPairing_self _
  have hpp:eqPairing ⟨⟨p.a.lo,p.a.hi⟩,⟨p.b.lo,p.b.hi⟩⟩ ⟨⟨p.a.lo,p.a.hi⟩,⟨p.b.lo,p.b.hi⟩⟩=true:=eqPairing_self _
  rcases hw01 with ⟨rfl,hok⟩|rfl
  · have KB1:=Lib.hid (KB.out hok)
    clear KB hok
    rcases hr04 with rfl|rfl
    · have KX1:=Lib.hid (KX.out rfl)
      clear KX
      go_enter Tryz.func3,Tryz.ntmps3
      go_wp2_with (first
       | rw [HW1.out]
       | rw [HA5.out]
       | rw [HA7.out]
       | rw [HA9.out]
       | (go_at_call 4;(with_reducible refine (joined_any _).mono ?_);rintro e w11 ⟨rfl,hb11⟩;have HJ:=Lib.hid (HB1.out.trans ((HC10.out.trans (hb11.mono HC10.out.size)).mono HB1.out.size));clear hb11)
       | (go_at_call 5;(with_reducible refine ((show Hid _ from KX1).out _).mono ?_);rintro e w10 ⟨rfl,hb10⟩
          have HC10:=Lib.hid (HC9.out.trans (hb10.mono HC9.out.size))
          have HDx10:=Lib.hid (HDx9.out.trans (hb10.mono HDx9.out.size))
          have HDy10:=Lib.hid (HDy9.out.trans (hb10.mono HDy9.out.size))
          have HDb10:=Lib.hid (hb10)
          obtain ⟨a010,a110,a210,a310⟩:=HPC.out w10 HC10.out
          obtain ⟨x010,x110,x210,x310⟩:=HXC.out w10 HDx10.out
          obtain ⟨y010,y110,y210,y310⟩:=HYC.out w10 HDy10.out
          obtain ⟨b010,b110,b210,b310⟩:=HBC.out w10 HDb10.out
          clear hb10)
       | (go_at_call 7;(with_reducible refine (KB1.out _ HC7.out).mono ?_);rintro e w8 ⟨rfl,hb8⟩
          have HC8:=Lib.hid (HC7.out.trans (hb8.mono HC7.out.size))
          have HDx8:=Lib.hid (HDx7.out.trans (hb8.mono HDx7.out.size))
          have HDy8:=Lib.hid (hb8)
          obtain ⟨w9,x9,l9,z9,e9⟩:=alloc_facts w8 #[.int .i64 p.a.lo,.int .i64 p.a.hi,.int .i64 p.b.lo,.int .i64 p.b.hi] 25
          have HA9:=Lib.hid x9
          have z9':w9.heap.size=w8.heap.size+1:=z9
          have HC9:=Lib.hid (HC8.out.trans (l9.mono HC8.out.size))
          have HDx9:=Lib.hid (HDx8.out.trans (l9.mono HDx8.out.size))
          have HDy9:=Lib.hid (HDy8.out.trans (l9.mono HDy8.out.size))
          have HBC:Hid (∀ W,Below w9.heap.size w9 W→W.cell? ⟨w8.heap.size,0,none⟩=some (.int .i64 p.a.lo)∧W.cell? ⟨w8.heap.size,1,none⟩=some (.int .i64 p.a.hi)∧W.cell? ⟨w8.heap.size,2,none⟩=some (.int .i64 p.b.lo)∧W.cell? ⟨w8.heap.size,3,none⟩=some (.int .i64 p.b.hi)):=(show ∀ W,_→_ from fun W h=>by
                   have hh:=(h.block w8.heap.size (by omega)).trans e9
                   simp [World.cell?,hh])
          have HDb9:=Lib.hid (Below.refl w9.heap.size w9)
          obtain ⟨a09,a19,a29,a39⟩:=HPC.out w9 HC9.out
          obtain ⟨x09,x19,x29,x39⟩:=HXC.out w9 HDx9.out
          obtain ⟨y09,y19,y29,y39⟩:=HYC.out w9 HDy9.out
          obtain ⟨b09,b19,b29,b39⟩:=HBC.out w9 HDb9.out
          clear hb8 x9 l9 z9 e9)
       | (go_at_call 8;(with_reducible refine (KQ.out _).mono ?_);rintro e w6 ⟨rfl,hb6⟩
          have HC6:=Lib.hid (HC5.out.trans (hb6.mono HC5.out.size))
          have HDx6:=Lib.hid (hb6)
          obtain ⟨w7,x7,l7,z7,e7⟩:=alloc_facts w6 #[.int .i64 rp.a.lo,.int .i64 rp.a.hi,.int .i64 rp.b.lo,.int .i64 rp.b.hi] 25
          have HA7:=Lib.hid x7
          have z7':w7.heap.size=w6.heap.size+1:=z7
          have HC7:=Lib.hid (HC6.out.trans (l7.mono HC6.out.size))
          have HDx7:=Lib.hid (HDx6.out.trans (l7.mono HDx6.out.size))
          have HYC:Hid (∀ W,Below w7.heap.size w7 W→W.cell? ⟨w6.heap.size,0,none⟩=some (.int .i64 rp.a.lo)∧W.cell? ⟨w6.heap.size,1,none⟩=some (.int .i64 rp.a.hi)∧W.cell? ⟨w6.heap.size,2,none⟩=some (.int .i64 rp.b.lo)∧W.cell? ⟨w6.heap.size,3,none⟩=some (.int .i64 rp.b.hi)):=(show ∀ W,_→_ from fun W h=>by
                   have hh:=(h.block w6.heap.size (by omega)).trans e7
                   simp [World.cell?,hh])
          have HDy7:=Lib.hid (Below.refl w7.heap.size w7)
          obtain ⟨a07,a17,a27,a37⟩:=HPC.out w7 HC7.out
          obtain ⟨x07,x17,x27,x37⟩:=HXC.out w7 HDx7.out
          obtain ⟨y07,y17,y27,y37⟩:=HYC.out w7 HDy7.out
          clear hb6 x7 l7 z7 e7)
       | (go_at_call 7;(with_reducible refine (KR.out _ HC3.out).mono ?_);rintro e w4 ⟨rfl,hb4⟩
          have HC4:=Lib.hid (HC3.out.trans (hb4.mono HC3.out.size))
          obtain ⟨w5,x5,l5,z5,e5⟩:=alloc_facts w4 #[.int .i64 rp.a.lo,.int .i64 rp.a.hi,.int .i64 rp.b.lo,.int .i64 rp.b.hi] 25
          have HA5:=Lib.hid x5
          have z5':w5.heap.size=w4.heap.size+1:=z5
          have HC5:=Lib.hid (HC4.out.trans (l5.mono HC4.out.size))
          have HXC:Hid (∀ W,Below w5.heap.size w5 W→W.cell? ⟨w4.heap.size,0,none⟩=some (.int .i64 rp.a.lo)∧W.cell? ⟨w4.heap.size,1,none⟩=some (.int .i64 rp.a.hi)∧W.cell? ⟨w4.heap.size,2,none⟩=some (.int .i64 rp.b.lo)∧W.cell? ⟨w4.heap.size,3,none⟩=some (.int .i64 rp.b.hi)):=(show ∀ W,_→_ from fun W h=>by
                   have hh:=(h.block w4.heap.size (by omega)).trans e5
                   simp [World.cell?,hh])
          have HDx5:=Lib.hid (Below.refl w5.heap.size w5)
          obtain ⟨a05,a15,a25,a35⟩:=HPC.out w5 HC5.out
          obtain ⟨x05,x15,x25,x35⟩:=HXC.out w5 HDx5.out
          clear hb4 x5 l5 z5 e5)
       | (go_at_call 6;(with_reducible refine (KV.out _).mono ?_);rintro e w3 ⟨rfl,hb3⟩
          have HC3:=Lib.hid (HC2.out.trans (hb3.mono HC2.out.size))
          obtain ⟨a03,a13,a23,a33⟩:=HPC.out w3 HC3.out
          clear hb3)
       | (go_at_call 5;(with_reducible refine (KW.out _).mono ?_);rintro e w2 ⟨rfl,hb2⟩
          have HC2:=Lib.hid (hb2)
          obtain ⟨a02,a12,a22,a32⟩:=HPC.out w2 HC2.out
          clear hb2))
      go_ret
      exact ⟨rfl,HJ.out⟩
    · clear KX
      go_enter Tryz.func3,Tryz.ntmps3
      go_wp2_with (first
       | rw [HW1.out]
       | rw [HA5.out]
       | rw [HA7.out]
       | rw [HA9.out]
       | (go_at_call 4;(with_reducible refine (joined_any _).mono ?_);rintro e w10 ⟨rfl,hb10⟩;have HJ:=Lib.hid (HB1.out.trans ((HC9.out.trans (hb10.mono HC9.out.size)).mono HB1.out.size));clear hb10)
       | (go_at_call 7;(with_reducible refine (KB1.out _ HC7.out).mono ?_);rintro e w8 ⟨rfl,hb8⟩
          have HC8:=Lib.hid (HC7.out.trans (hb8.mono HC7.out.size))
          have HDx8:=Lib.hid (HDx7.out.trans (hb8.mono HDx7.out.size))
          have HDy8:=Lib.hid (hb8)
          obtain ⟨w9,x9,l9,z9,e9⟩:=alloc_facts w8 #[.int .i64 p.a.lo,.int .i64 p.a.hi,.int .i64 p.b.lo,.int .i64 p.b.hi] 25
          have HA9:=Lib.hid x9
          have z9':w9.heap.size=w8.heap.size+1:=z9
          have HC9:=Lib.hid (HC8.out.trans (l9.mono HC8.out.size))
          have HDx9:=Lib.hid (HDx8.out.trans (l9.mono HDx8.out.size))
          have HDy9:=Lib.hid (HDy8.out.trans (l9.mono HDy8.out.size))
          have HBC:Hid (∀ W,Below w9.heap.size w9 W→W.cell? ⟨w8.heap.size,0,none⟩=some (.int .i64 p.a.lo)∧W.cell? ⟨w8.heap.size,1,none⟩=some (.int .i64 p.a.hi)∧W.cell? ⟨w8.heap.size,2,none⟩=some (.int .i64 p.b.lo)∧W.cell? ⟨w8.heap.size,3,none⟩=some (.int .i64 p.b.hi)):=(show ∀ W,_→_ from fun W h=>by
                   have hh:=(h.block w8.heap.size (by omega)).trans e9
                   simp [World.cell?,hh])
          have HDb9:=Lib.hid (Below.refl w9.heap.size w9)
          obtain ⟨a09,a19,a29,a39⟩:=HPC.out w9 HC9.out
          obtain ⟨x09,x19,x29,x39⟩:=HXC.out w9 HDx9.out
          obtain ⟨y09,y19,y29,y39⟩:=HYC.out w9 HDy9.out
          obtain ⟨b09,b19,b29,b39⟩:=HBC.out w9 HDb9.out
          clear hb8 x9 l9 z9 e9)
       | (go_at_call 8;(with_reducible refine (KQ.out _).mono ?_);rintro e w6 ⟨rfl,hb6⟩
          have HC6:=Lib.hid (HC5.out.trans (hb6.mono HC5.out.size))
          have HDx6:=Lib.hid (hb6)
          obtain ⟨w7,x7,l7,z7,e7⟩:=alloc_facts w6 #[.int .i64 rp.a.lo,.int .i64 rp.a.hi,.int .i64 rp.b.lo,.int .i64 rp.b.hi] 25
          have HA7:=Lib.hid x7
          have z7':w7.heap.size=w6.heap.size+1:=z7
          have HC7:=Lib.hid (HC6.out.trans (l7.mono HC6.out.size))
          have HDx7:=Lib.hid (HDx6.out.trans (l7.mono HDx6.out.size))
          have HYC:Hid (∀ W,Below w7.heap.size w7 W→W.cell? ⟨w6.heap.size,0,none⟩=some (.int .i64 rp.a.lo)∧W.cell? ⟨w6.heap.size,1,none⟩=some (.int .i64 rp.a.hi)∧W.cell? ⟨w6.heap.size,2,none⟩=some (.int .i64 rp.b.lo)∧W.cell? ⟨w6.heap.size,3,none⟩=some (.int .i64 rp.b.hi)):=(show ∀ W,_→_ from fun W h=>by
                   have hh:=(h.block w6.heap.size (by omega)).trans e7
                   simp [World.cell?,hh])
          have HDy7:=Lib.hid (Below.refl w7.heap.size w7)
          obtain ⟨a07,a17,a27,a37⟩:=HPC.out w7 HC7.out
          obtain ⟨x07,x17,x27,x37⟩:=HXC.out w7 HDx7.out
          obtain ⟨y07,y17,y27,y37⟩:=HYC.out w7 HDy7.out
          clear hb6 x7 l7 z7 e7)
       | (go_at_call 7;(with_reducible refine (KR.out _ HC3.out).mono ?_);rintro e w4 ⟨rfl,hb4⟩
          have HC4:=Lib.hid (HC3.out.trans (hb4.mono HC3.out.size))
          obtain ⟨w5,x5,l5,z5,e5⟩:=alloc_facts w4 #[.int .i64 rp.a.lo,.int .i64 rp.a.hi,.int .i64 rp.b.lo,.int .i64 rp.b.hi] 25
          have HA5:=Lib.hid x5
          have z5':w5.heap.size=w4.heap.size+1:=z5
          have HC5:=Lib.hid (HC4.out.trans (l5.mono HC4.out.size))
          have HXC:Hid (∀ W,Below w5.heap.size w5 W→W.cell? ⟨w4.heap.size,0,none⟩=some (.int .i64 rp.a.lo)∧W.cell? ⟨w4.heap.size,1,none⟩=some (.int .i64 rp.a.hi)∧W.cell? ⟨w4.heap.size,2,none⟩=some (.int .i64 rp.b.lo)∧W.cell? ⟨w4.heap.size,3,none⟩=some (.int .i64 rp.b.hi)):=(show ∀ W,_→_ from fun W h=>by
                   have hh:=(h.block w4.heap.size (by omega)).trans e5
                   simp [World.cell?,hh])
          have HDx5:=Lib.hid (Below.refl w5.heap.size w5)
          obtain ⟨a05,a15,a25,a35⟩:=HPC.out w5 HC5.out
          obtain ⟨x05,x15,x25,x35⟩:=HXC.out w5 HDx5.out
          clear hb4 x5 l5 z5 e5)
       | (go_at_call 6;(with_reducible refine (KV.out _).mono ?_);rintro e w3 ⟨rfl,hb3⟩
          have HC3:=Lib.hid (HC2.out.trans (hb3.mono HC2.out.size))
          obtain ⟨a03,a13,a23,a33⟩:=HPC.out w3 HC3.out
          clear hb3)
       | (go_at_call 5;(with_reducible refine (KW.out _).mono ?_);rintro e w2 ⟨rfl,hb2⟩
          have HC2:=Lib.hid (hb2)
          obtain ⟨a02,a12,a22,a32⟩:=HPC.out w2 HC2.out
          clear hb2))
      go_ret
      exact ⟨rfl,HJ.out⟩
  · clear KB
    rcases hr04 with rfl|rfl
    · have KX1:=Lib.hid (KX.out rfl)
      clear KX
      go_enter Tryz.func3,Tryz.ntmps3
      go_wp2_with (first
       | rw [HW1.out]
       | rw [HA5.out]
       | rw [HA7.out]
       | (go_at_call 4;(with_reducible refine (joined_any _).mono ?_);rintro e w9 ⟨rfl,hb9⟩;have HJ:=Lib.hid (HB1.out.trans ((HC8.out.trans (hb9.mono HC8.out.size)).mono HB1.out.size));clear hb9)
       | (go_at_call 5;(with_reducible refine ((show Hid _ from KX1).out _).mono ?_);rintro e w8 ⟨rfl,hb8⟩
          have HC8:=Lib.hid (HC7.out.trans (hb8.mono HC7.out.size))
          have HDx8:=Lib.hid (HDx7.out.trans (hb8.mono HDx7.out.size))
          have HDy8:=Lib.hid (hb8)
          obtain ⟨a08,a18,a28,a38⟩:=HPC.out w8 HC8.out
          obtain ⟨x08,x18,x28,x38⟩:=HXC.out w8 HDx8.out
          obtain ⟨y08,y18,y28,y38⟩:=HYC.out w8 HDy8.out
          clear hb8)
       | (go_at_call 8;(with_reducible refine (KQ.out _).mono ?_);rintro e w6 ⟨rfl,hb6⟩
          have HC6:=Lib.hid (HC5.out.trans (hb6.mono HC5.out.size))
          have HDx6:=Lib.hid (hb6)
          obtain ⟨w7,x7,l7,z7,e7⟩:=alloc_facts w6 #[.int .i64 rp.a.lo,.int .i64 rp.a.hi,.int .i64 rp.b.lo,.int .i64 rp.b.hi] 25
          have HA7:=Lib.hid x7
          have z7':w7.heap.size=w6.heap.size+1:=z7
          have HC7:=Lib.hid (HC6.out.trans (l7.mono HC6.out.size))
          have HDx7:=Lib.hid (HDx6.out.trans (l7.mono HDx6.out.size))
          have HYC:Hid (∀ W,Below w7.heap.size w7 W→W.cell? ⟨w6.heap.size,0,none⟩=some (.int .i64 rp.a.lo)∧W.cell? ⟨w6.heap.size,1,none⟩=some (.int .i64 rp.a.hi)∧W.cell? ⟨w6.heap.size,2,none⟩=some (.int .i64 rp.b.lo)∧W.cell? ⟨w6.heap.size,3,none⟩=some (.int .i64 rp.b.hi)):=(show ∀ W,_→_ from fun W h=>by
                   have hh:=(h.block w6.heap.size (by omega)).trans e7
                   simp [World.cell?,hh])
          have HDy7:=Lib.hid (Below.refl w7.heap.size w7)
          obtain ⟨a07,a17,a27,a37⟩:=HPC.out w7 HC7.out
          obtain ⟨x07,x17,x27,x37⟩:=HXC.out w7 HDx7.out
          obtain ⟨y07,y17,y27,y37⟩:=HYC.out w7 HDy7.out
          clear hb6 x7 l7 z7 e7)
       | (go_at_call 7;(with_reducible refine (KR.out _ HC3.out).mono ?_);rintro e w4 ⟨rfl,hb4⟩
          have HC4:=Lib.hid (HC3.out.trans (hb4.mono HC3.out.size))
          obtain ⟨w5,x5,l5,z5,e5⟩:=alloc_facts w4 #[.int .i64 rp.a.lo,.int .i64 rp.a.hi,.int .i64 rp.b.lo,.int .i64 rp.b.hi] 25
          have HA5:=Lib.hid x5
          have z5':w5.heap.size=w4.heap.size+1:=z5
          have HC5:=Lib.hid (HC4.out.trans (l5.mono HC4.out.size))
          have HXC:Hid (∀ W,Below w5.heap.size w5 W→W.cell? ⟨w4.heap.size,0,none⟩=some (.int .i64 rp.a.lo)∧W.cell? ⟨w4.heap.size,1,none⟩=some (.int .i64 rp.a.hi)∧W.cell? ⟨w4.heap.size,2,none⟩=some (.int .i64 rp.b.lo)∧W.cell? ⟨w4.heap.size,3,none⟩=some (.int .i64 rp.b.hi)):=(show ∀ W,_→_ from fun W h=>by
                   have hh:=(h.block w4.heap.size (by omega)).trans e5
                   simp [World.cell?,hh])
          have HDx5:=Lib.hid (Below.refl w5.heap.size w5)
          obtain ⟨a05,a15,a25,a35⟩:=HPC.out w5 HC5.out
          obtain ⟨x05,x15,x25,x35⟩:=HXC.out w5 HDx5.out
          clear hb4 x5 l5 z5 e5)
       | (go_at_call 6;(with_reducible refine (KV.out _).mono ?_);rintro e w3 ⟨rfl,hb3⟩
          have HC3:=Lib.hid (HC2.out.trans (hb3.mono HC2.out.size))
          obtain ⟨a03,a13,a23,a33⟩:=HPC.out w3 HC3.out
          clear hb3)
       | (go_at_call 5;(with_reducible refine (KW.out _).mono ?_);rintro e w2 ⟨rfl,hb2⟩
          have HC2:=Lib.hid (hb2)
          obtain ⟨a02,a12,a22,a32⟩:=HPC.out w2 HC2.out
          clear hb2))
      go_ret
      exact ⟨rfl,HJ.out⟩
    · clear KX
      go_enter Tryz.func3,Tryz.ntmps3
      go_wp2_with (first
       | rw [HW1.out]
       | rw [HA5.out]
       | rw [HA7.out]
       | (go_at_call 4;(with_reducible refine (joined_any _).mono ?_);rintro e w8 ⟨rfl,hb8⟩;have HJ:=Lib.hid (HB1.out.trans ((HC7.out.trans (hb8.mono HC7.out.size)).mono HB1.out.size));clear hb8)
       | (go_at_call 8;(with_reducible refine (KQ.out _).mono ?_);rintro e w6 ⟨rfl,hb6⟩
          have HC6:=Lib.hid (HC5.out.trans (hb6.mono HC5.out.size))
          have HDx6:=Lib.hid (hb6)
          obtain ⟨w7,x7,l7,z7,e7⟩:=alloc_facts w6 #[.int .i64 rp.a.lo,.int .i64 rp.a.hi,.int .i64 rp.b.lo,.int .i64 rp.b.hi] 25
          have HA7:=Lib.hid x7
          have z7':w7.heap.size=w6.heap.size+1:=z7
          have HC7:=Lib.hid (HC6.out.trans (l7.mono HC6.out.size))
          have HDx7:=Lib.hid (HDx6.out.trans (l7.mono HDx6.out.size))
          have HYC:Hid (∀ W,Below w7.heap.size w7 W→W.cell? ⟨w6.heap.size,0,none⟩=some (.int .i64 rp.a.lo)∧W.cell? ⟨w6.heap.size,1,none⟩=some (.int .i64 rp.a.hi)∧W.cell? ⟨w6.heap.size,2,none⟩=some (.int .i64 rp.b.lo)∧W.cell? ⟨w6.heap.size,3,none⟩=some (.int .i64 rp.b.hi)):=(show ∀ W,_→_ from fun W h=>by
                   have hh:=(h.block w6.heap.size (by omega)).trans e7
                   simp [World.cell?,hh])
          have HDy7:=Lib.hid (Below.refl w7.heap.size w7)
          obtain ⟨a07,a17,a27,a37⟩:=HPC.out w7 HC7.out
          obtain ⟨x07,x17,x27,x37⟩:=HXC.out w7 HDx7.out
          obtain ⟨y07,y17,y27,y37⟩:=HYC.out w7 HDy7.out
          clear hb6 x7 l7 z7 e7)
       | (go_at_call 7;(with_reducible refine (KR.out _ HC3.out).mono ?_);rintro e w4 ⟨rfl,hb4⟩
          have HC4:=Lib.hid (HC3.out.trans (hb4.mono HC3.out.size))
          obtain ⟨w5,x5,l5,z5,e5⟩:=alloc_facts w4 #[.int .i64 rp.a.lo,.int .i64 rp.a.hi,.int .i64 rp.b.lo,.int .i64 rp.b.hi] 25
          have HA5:=Lib.hid x5
          have z5':w5.heap.size=w4.heap.size+1:=z5
          have HC5:=Lib.hid (HC4.out.trans (l5.mono HC4.out.size))
          have HXC:Hid (∀ W,Below w5.heap.size w5 W→W.cell? ⟨w4.heap.size,0,none⟩=some (.int .i64 rp.a.lo)∧W.cell? ⟨w4.heap.size,1,none⟩=some (.int .i64 rp.a.hi)∧W.cell? ⟨w4.heap.size,2,none⟩=some (.int .i64 rp.b.lo)∧W.cell? ⟨w4.heap.size,3,none⟩=some (.int .i64 rp.b.hi)):=(show ∀ W,_→_ from fun W h=>by
                   have hh:=(h.block w4.heap.size (by omega)).trans e5
                   simp [World.cell?,hh])
          have HDx5:=Lib.hid (Below.refl w5.heap.size w5)
          obtain ⟨a05,a15,a25,a35⟩:=HPC.out w5 HC5.out
          obtain ⟨x05,x15,x25,x35⟩:=HXC.out w5 HDx5.out
          clear hb4 x5 l5 z5 e5)
       | (go_at_call 6;(with_reducible refine (KV.out _).mono ?_);rintro e w3 ⟨rfl,hb3⟩
          have HC3:=Lib.hid (HC2.out.trans (hb3.mono HC2.out.size))
          obtain ⟨a03,a13,a23,a33⟩:=HPC.out w3 HC3.out
          clear hb3)
       | (go_at_call 5;(with_reducible refine (KW.out _).mono ?_);rintro e w2 ⟨rfl,hb2⟩
          have HC2:=Lib.hid (hb2)
          obtain ⟨a02,a12,a22,a32⟩:=HPC.out w2 HC2.out
          clear hb2))
      go_ret
      exact ⟨rfl,HJ.out⟩
end Go.Proofs.YtpmkgmilfifkpaaGreatDoor
end
section
namespace Go
theorem returnsInHanded_and_shaped {H:Type} {enc:TypeId×Value→H} {a:Assume} {C:Checked} {os:Os} {f:FuncId} {fn:Func} {s:ChangeSpec} {conds:List PathCond} {apart fresh handsOn again:Bool} {X:World→Array Value→Prop}
 (hX:∀ (w w':World) (args:Array Value),w.heap=w'.heap→X w args→X w' args)
 (own:ownKnob C.prog.godebug=none) (started:os.Started) (noInit:C.prog.inits.idxOf? f=none) (hfn:C.prog.funcs[f]? = some fn)
 (witness:∃ (w:World) (tape:Tape) (i:Input),w.os=os∧(w.forCall tape i).Shaped C.prog∧i.vars = []∧Input.okWide C.prog (w.forCall tape i) .any w.heap.size f i∧
   ((s.pre enc C.prog fn conds apart (w.forCall tape i).memory i.args∧X (w.forCall tape i).memory i.args)∧sizedMet enc C.prog fn (OpenSpec.ofChange s) apart (w.forCall tape i).memory i.args)∧a.holds C.prog (lone (Frame.enter C.prog f i.args .normal) [] (w.forCall tape i)))
 (contract:∀ (W:World) (base:Nat) (args:Array Value) (ds gs:List (DataW H)) (before:List MemPlace),
   (∀ (j:Nat) t v,fn.params[j]? = some t→args[j]? = some v→Value.okWide C.prog W .any base t v)→
   DataW.Whole enc C.prog fn.params.toList s.vars apart W args.toList ds gs before→
   X W args→W.ShapedOpen C.prog→
   Calls C.prog f args W fun e W'=> ∃ v,e = .returned v∧s.post enc C.prog fn apart fresh handsOn again W args v W'):
 ReturnsInHanded a C os f .any (fun w args=>(s.pre enc C.prog fn conds apart w args∧X w args)∧sizedMet enc C.prog fn (OpenSpec.ofChange s) apart w args) (s.post enc C.prog fn apart fresh handsOn again):=by
 refine returnsInHanded_of_calls own started noInit witness ?_
 intro w tape i _ hsh _ hok hpre hholds
 obtain ⟨_,_,_,fn',hfn',_,_,_,_,hval⟩:=hok
 have e:fn'=fn:=Option.some.inj (hfn'.symm.trans hfn)
 subst e
 obtain ⟨⟨⟨ds,gs,before,hw,hc⟩,hx⟩,hz⟩:=hpre
 have hw':=DataW.Whole.of_heap (w':=w.forCall tape i) (by rfl) hw
 refine (contract (w.forCall tape i) w.heap.size i.args ds gs before hval hw' (hX _ _ _ (by rfl) hx) hsh).mono fun e W' ⟨v,he,hp⟩=> ?_
 subst he
 exact ChangeSpec.post_blind hp
end Go
namespace Go.Proofs.YtpmkgmilfifkpaaGreatDoor
open Go.RowKit Go.Proofs Go.Shelf
theorem gES:Tryz.prog.globalNamed "strconv.ErrSyntax" = some 0:=by kernel_rfl
theorem gER:Tryz.prog.globalNamed "strconv.ErrRange" = some 1:=by kernel_rfl
theorem gESt:(Tryz.prog.globals[0]?).map (·.type)=some 71:=by kernel_rfl
theorem gERt:(Tryz.prog.globals[1]?).map (·.type)=some 71:=by kernel_rfl
theorem starE: "*" ++ "errors.errorString" = "*errors.errorString" := by decide
theorem rowErr (u:TypeId) (h:Tryz.prog.typeName? 3 u=some "*errors.errorString"):u=225:=
 typeName_ptr_named (nm:= "errors.errorString") (by rw [starE];kernel_rfl) (by kernel_rfl) (by decide) u (by rw [starE];exact h)
theorem vars_ok {W:World} (h:laidMetH Tryz.prog Rows.edgeStringsRow.laid W) (hs:W.ShapedOpen Tryz.prog):VarsOk W:=by
 rw [MakeChecks.laidMetH_plain _ _ _ (by kernel_rfl)] at h
 have h4:=h.tail.tail.tail.tail
 obtain ⟨a0,s0,hv0,-,-,-⟩:=laid_sentinel h4 gER gERt Tryz.underlying71 rowErr Tryz.underlying225 Tryz.underlying227 rfl rfl Tryz.underlying9 (by kernel_rfl) (by kernel_rfl)
 obtain ⟨a1,s1,hv1,-,-,-⟩:=laid_sentinel h4.tail gES gESt Tryz.underlying71 rowErr Tryz.underlying225 Tryz.underlying227 rfl rfl Tryz.underlying9 (by kernel_rfl) (by kernel_rfl)
 refine ⟨⟨_,by have h0:=World.var?_cell gES hv1 0;simpa using h0,.inr ⟨_,_,rfl⟩⟩,⟨_,by have h0:=World.var?_cell gER hv0 0;simpa using h0,.inr ⟨_,_,rfl⟩⟩,?_⟩
 exact cell_of_shapedOpen_int (t:=3) (zero:=#[.int .i64 0]) hs (of_decide_eq_true (by kernel_rfl)) (by kernel_rfl) rfl (by kernel_rfl) (by kernel_rfl) Tryz.underlying3
end Go.Proofs.YtpmkgmilfifkpaaGreatDoor
end

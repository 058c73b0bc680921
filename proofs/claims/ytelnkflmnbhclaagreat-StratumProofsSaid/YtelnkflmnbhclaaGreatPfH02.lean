/- Contracts that the laws lean on: RefA, RefB, Sml, RefC. -/
import Derived.Test.YtelnkflmnbhclaaGreatPfK06
import Derived.Deep.DeepCutAuto
set_option maxRecDepth 100000
set_option maxHeartbeats 8000000
section
namespace Go.Proofs.YtelnkflmnbhclaaGreat
open Go.RowKit Go.Proofs Go.Shelf
theorem rWithin2_any (n low high:Int) (w:World):
 Calls Tryz.prog 154 #[.int .i64 n,.int .i64 low,.int .i64 high] w fun e w'=>e = .returned (.bool (inB n low high))∧w'=w:=by
 by_cases h:low≤n
 · go_enter Tryz.func154,Tryz.ntmps154
   go_wp2;go_ret;exact ⟨by simp [inB,h],rfl⟩
 · go_enter Tryz.func154,Tryz.ntmps154
   go_wp2;go_ret;refine ⟨?_,rfl⟩;have:inB n low high=false:=inB_no.2 (by omega);rw [this];rfl
theorem rWithin_any (n low high:Int) (w:World):
 Calls Tryz.prog 102 #[.int .i64 n,.int .i64 low,.int .i64 high] w fun e w'=>e = .returned (.bool (inB n low high))∧w'=w:=by
 go_enter Tryz.func102,Tryz.ntmps102;go_wp2_with (go_at_call 154;(with_reducible refine (rWithin2_any _ _ _ _).mono ?_);rintro e w' ⟨rfl,rfl⟩);go_ret;exact ⟨rfl,rfl⟩
theorem rIsPlace_any (p l:Int) (w:World):
 Calls Tryz.prog 101 #[.agg #[.int .i64 p,.int .i64 l]] w fun e w'=>e = .returned (.bool (isPlaceB p l))∧Below w.heap.size w w':=by
 cases hp:inB p 1 20
 all_goals
  go_enter Tryz.func101,Tryz.ntmps101;go_wp2_with (go_at_call 102;refine (rWithin_any _ _ _ _).mono ?_;rintro e w' ⟨rfl,rfl⟩;try rw [hp]);go_ret;exact ⟨by simp [isPlaceB,hp],(Below.refl _ _).alloc (Nat.le_refl _) _⟩
theorem eqT_void (a b d e f g h i j:Int):eqTrace ⟨a,b,4,d,e,f,g,h,i,j⟩ (yT ⟨a,b,4,d,e,f,g,h,i,j⟩)=eqTrace ⟨0,0,0,d,e,f,g,h,i,0⟩ ⟨0,0,0,0,0,0,0,0,0,0⟩:=by simp [eqTrace,yT]
theorem eqT_above (a b d e f g h i j:Int):eqTrace ⟨a,b,1,d,e,f,g,h,i,j⟩ (yT ⟨a,b,1,d,e,f,g,h,i,j⟩)=eqTrace ⟨0,0,0,0,0,0,g,h,i,j⟩ ⟨0,0,0,0,0,0,0,0,0,0⟩:=by simp [eqTrace,yT]
theorem eqT_dated (a b d e f g h i j:Int):eqTrace ⟨a,b,2,d,e,f,g,h,i,j⟩ (yT ⟨a,b,2,d,e,f,g,h,i,j⟩)=eqTrace ⟨0,0,0,0,0,f,0,0,i,j⟩ ⟨0,0,0,0,0,0,0,0,0,0⟩:=by simp [eqTrace,yT]
theorem eqT_moved (a b d e f g h i j:Int):eqTrace ⟨a,b,3,d,e,f,g,h,i,j⟩ (yT ⟨a,b,3,d,e,f,g,h,i,j⟩)=eqTrace ⟨0,0,0,0,0,f,g,h,0,j⟩ ⟨0,0,0,0,0,0,0,0,0,0⟩:=by simp [eqTrace,yT]
theorem rCheckTrace_void (a b d e f g h i j:Int) (w:World):
 Calls Tryz.prog 49 #[.agg #[.int .i64 a,.int .i64 b,.int .u8 4,.int .i64 d,.int .i64 e,.int .i64 f,.int .i64 g,.int .i64 h,.int .i64 i,.int .i64 j]] w
  fun e' w'=>e' = .returned (.int .i64 (checkTrace ⟨a,b,4,d,e,f,g,h,i,j⟩))∧Below w.heap.size w w':=by
 go_enter Tryz.func49,Tryz.ntmps49
 go_wp2_with (first
  | (go_at_call 102;refine (rWithin_any _ _ _ _).mono ?_;rintro e w' ⟨rfl,rfl⟩)
  | (go_at_call 101;refine (rIsPlace_any _ _ _).mono ?_;rintro e wI ⟨rfl,hbI⟩;obtain ⟨hccI,hffI⟩:=bcell hbI;have hzI:=hbI.size;(try simp only [World.size_alloc,World.size_setCell,World.size_drew,World.heap_drewN] at hzI);have:w.heap.size<wI.heap.size:=(by omega);have:w.heap.size+1<wI.heap.size:=(by omega)))
 all_goals go_ret
 all_goals refine ⟨retI ?_,?_⟩
 all_goals first|((repeat' (first|(with_reducible assumption)|(with_reducible exact Below.refl _ _)|(with_reducible refine Below.drew ?_)|(with_reducible refine below_drewN' ?_ _)|(with_reducible refine Below.alloc ?_ ?_ _)|(with_reducible refine Below.setCell ?_ ?_ _)|(with_reducible refine below_step (by assumption) ?_ ?_)))<;>first|(simp;done)|(simp;omega)|omega)|(simp_all [checkTrace,okT,eqT_void];done)|(simp_all [checkTrace,okT,isPlaceB,inB,eqT_void];done)|(simp_all [checkTrace,okT,isPlaceB,inB,eqT_void];omega)
theorem rCheckTrace_above (a b d e f g h i j:Int) (w:World):
 Calls Tryz.prog 49 #[.agg #[.int .i64 a,.int .i64 b,.int .u8 1,.int .i64 d,.int .i64 e,.int .i64 f,.int .i64 g,.int .i64 h,.int .i64 i,.int .i64 j]] w
  fun e' w'=>e' = .returned (.int .i64 (checkTrace ⟨a,b,1,d,e,f,g,h,i,j⟩))∧Below w.heap.size w w':=by
 go_enter Tryz.func49,Tryz.ntmps49
 go_wp2_with (first
  | (go_at_call 102;refine (rWithin_any _ _ _ _).mono ?_;rintro e w' ⟨rfl,rfl⟩)
  | (go_at_call 101;refine (rIsPlace_any _ _ _).mono ?_;rintro e wI ⟨rfl,hbI⟩;obtain ⟨hccI,hffI⟩:=bcell hbI;have hzI:=hbI.size;(try simp only [World.size_alloc] at hzI);have:w.heap.size<wI.heap.size:=(by omega);have:w.heap.size+1<wI.heap.size:=(by omega)))
 all_goals go_ret
 all_goals refine ⟨retI ?_,?_⟩
 all_goals first|((repeat' (first|(with_reducible assumption)|(with_reducible exact Below.refl _ _)|(with_reducible refine Below.drew ?_)|(with_reducible refine below_drewN' ?_ _)|(with_reducible refine Below.alloc ?_ ?_ _)|(with_reducible refine Below.setCell ?_ ?_ _)|(with_reducible refine below_step (by assumption) ?_ ?_)))<;>first|(simp;done)|(simp;omega)|omega)|(simp_all [checkTrace,okT,isPlaceB,eqT_above];done)|(simp_all [checkTrace,okT,isPlaceB,inB,eqT_above];done)|(simp_all [checkTrace,okT,isPlaceB,inB,eqT_above];omega)
theorem rCheckTrace_dated (a b d e f g h i j:Int) (w:World):
 Calls Tryz.prog 49 #[.agg #[.int .i64 a,.int .i64 b,.int .u8 2,.int .i64 d,.int .i64 e,.int .i64 f,.int .i64 g,.int .i64 h,.int .i64 i,.int .i64 j]] w
  fun e' w'=>e' = .returned (.int .i64 (checkTrace ⟨a,b,2,d,e,f,g,h,i,j⟩))∧Below w.heap.size w w':=by
 go_enter Tryz.func49,Tryz.ntmps49
 go_wp2_with (first
  | (go_at_call 102;refine (rWithin_any _ _ _ _).mono ?_;rintro e w' ⟨rfl,rfl⟩)
  | (go_at_call 101;refine (rIsPlace_any _ _ _).mono ?_;rintro e wI ⟨rfl,hbI⟩;obtain ⟨hccI,hffI⟩:=bcell hbI;have hzI:=hbI.size;(try simp only [World.size_alloc] at hzI);have:w.heap.size<wI.heap.size:=(by omega);have:w.heap.size+1<wI.heap.size:=(by omega)))
 all_goals go_ret
 all_goals refine ⟨retI ?_,?_⟩
 all_goals first|((repeat' (first|(with_reducible assumption)|(with_reducible exact Below.refl _ _)|(with_reducible refine Below.drew ?_)|(with_reducible refine below_drewN' ?_ _)|(with_reducible refine Below.alloc ?_ ?_ _)|(with_reducible refine Below.setCell ?_ ?_ _)|(with_reducible refine below_step (by assumption) ?_ ?_)))<;>first|(simp;done)|(simp;omega)|omega)|(simp_all [checkTrace,okT,isPlaceB,eqT_dated];done)|(simp_all [checkTrace,okT,isPlaceB,inB,eqT_dated];done)|(simp_all [checkTrace,okT,isPlaceB,inB,eqT_dated];omega)
theorem rCheckTrace_moved (a b d e f g h i j:Int) (w:World):
 Calls Tryz.prog 49 #[.agg #[.int .i64 a,.int .i64 b,.int .u8 3,.int .i64 d,.int .i64 e,.int .i64 f,.int .i64 g,.int .i64 h,.int .i64 i,.int .i64 j]] w
  fun e' w'=>e' = .returned (.int .i64 (checkTrace ⟨a,b,3,d,e,f,g,h,i,j⟩))∧Below w.heap.size w w':=by
 go_enter Tryz.func49,Tryz.ntmps49
 go_wp2_with (first
  | (go_at_call 102;refine (rWithin_any _ _ _ _).mono ?_;rintro e w' ⟨rfl,rfl⟩)
  | (go_at_call 101;refine (rIsPlace_any _ _ _).mono ?_;rintro e wI ⟨rfl,hbI⟩;obtain ⟨hccI,hffI⟩:=bcell hbI;have hzI:=hbI.size;(try simp only [World.size_alloc] at hzI);have:w.heap.size<wI.heap.size:=(by omega);have:w.heap.size+1<wI.heap.size:=(by omega)))
 all_goals go_ret
 all_goals refine ⟨retI ?_,?_⟩
 all_goals first|((repeat' (first|(with_reducible assumption)|(with_reducible exact Below.refl _ _)|(with_reducible refine Below.drew ?_)|(with_reducible refine below_drewN' ?_ _)|(with_reducible refine Below.alloc ?_ ?_ _)|(with_reducible refine Below.setCell ?_ ?_ _)|(with_reducible refine below_step (by assumption) ?_ ?_)))<;>first|(simp;done)|(simp;omega)|omega)|(simp_all [checkTrace,okT,isPlaceB,eqT_moved];done)|(simp_all [checkTrace,okT,isPlaceB,inB,eqT_moved];done)|(simp_all [checkTrace,okT,isPlaceB,inB,eqT_moved];omega)
theorem rCheckTrace_other (a b c d e f g h i j:Int) (w:World) (h1:c≠1) (h2:c≠2) (h3:c≠3) (h4:c≠4):
 Calls Tryz.prog 49 #[.agg #[.int .i64 a,.int .i64 b,.int .u8 c,.int .i64 d,.int .i64 e,.int .i64 f,.int .i64 g,.int .i64 h,.int .i64 i,.int .i64 j]] w
  fun e' w'=>e' = .returned (.int .i64 (checkTrace ⟨a,b,c,d,e,f,g,h,i,j⟩))∧Below w.heap.size w w':=by
 go_enter Tryz.func49,Tryz.ntmps49
 go_wp2_with (first
  | (go_at_call 102;refine (rWithin_any _ _ _ _).mono ?_;rintro e w' ⟨rfl,rfl⟩)
  | (go_at_call 101;refine (rIsPlace_any _ _ _).mono ?_;rintro e wI ⟨rfl,hbI⟩;obtain ⟨hccI,hffI⟩:=bcell hbI;have hzI:=hbI.size;(try simp only [World.size_alloc,World.size_setCell,World.size_drew,World.heap_drewN] at hzI);have:w.heap.size<wI.heap.size:=(by omega);have:w.heap.size+1<wI.heap.size:=(by omega)))
 all_goals go_ret
 all_goals refine ⟨retI ?_,?_⟩
 all_goals first|((repeat' (first|(with_reducible assumption)|(with_reducible exact Below.refl _ _)|(with_reducible refine Below.drew ?_)|(with_reducible refine below_drewN' ?_ _)|(with_reducible refine Below.alloc ?_ ?_ _)|(with_reducible refine Below.setCell ?_ ?_ _)|(with_reducible refine below_step (by assumption) ?_ ?_)))<;>first|(simp;done)|(simp;omega)|omega)|(simp_all [checkTrace,okT,isPlaceB];done)|(simp_all [checkTrace,okT,isPlaceB,inB];done)|(simp_all [checkTrace,okT,isPlaceB,inB];omega)
theorem rCheckTrace_any (a b c d e f g h i j:Int) (w:World):
 Calls Tryz.prog 49 #[.agg #[.int .i64 a,.int .i64 b,.int .u8 c,.int .i64 d,.int .i64 e,.int .i64 f,.int .i64 g,.int .i64 h,.int .i64 i,.int .i64 j]] w
  fun e' w'=>e' = .returned (.int .i64 (checkTrace ⟨a,b,c,d,e,f,g,h,i,j⟩))∧Below w.heap.size w w':=by
 by_cases h1:c=1
 · subst h1;exact rCheckTrace_above a b d e f g h i j w
 by_cases h2:c=2
 · subst h2;exact rCheckTrace_dated a b d e f g h i j w
 by_cases h3:c=3
 · subst h3;exact rCheckTrace_moved a b d e f g h i j w
 by_cases h4:c=4
 · subst h4;exact rCheckTrace_void a b d e f g h i j w
 exact rCheckTrace_other a b c d e f g h i j w h1 h2 h3 h4
theorem neBool {a:Int} (h:a≠0):(a != 0)=true:=by simpa using h
theorem snoc_any {l:List Trace} {k:Nat} {y:Trace} (hy:l[k]? = some y) (p:Trace→Bool):(l.take (k+1)).any p=((l.take k).any p||p y):=by
 rw [List.take_add_one,hy,Option.toList_some,List.any_append];simp
theorem rRefused_any (A:Option Addr) (n c:Nat) (l:List Trace) (x:Trace) (w:World) (hl:Rd encTrace 10 w A n c l):
 Calls Tryz.prog 95 #[.slice A n c,.agg #[.int .i64 x.id,.int .i64 x.known,.int .u8 x.kind,.int .i64 x.pit,.int .i64 x.layer,.int .i64 x.lower,.int .i64 x.low,.int .i64 x.high,.int .i64 x.cost,.int .i64 x.void]] w
  fun e' w'=>e' = .returned (.int .i64 (follows l x))∧Below w.heap.size w w':=by
 obtain ⟨w1,hw1⟩:∃ w1,w.alloc (.cells #[.int .i64 x.id,.int .i64 x.known,.int .u8 x.kind,.int .i64 x.pit,.int .i64 x.layer,.int .i64 x.lower,.int .i64 x.low,.int .i64 x.high,.int .i64 x.cost,.int .i64 x.void] 25)=w1:=⟨_,rfl⟩
 have hb1:Below w.heap.size w w1:=(by rw [←hw1];exact (Below.refl _ w).alloc (Nat.le_refl _) _)
 have hz1:w1.heap.size=w.heap.size+1:=(by rw [←hw1];simp)
 have hr1:w1.heap[w.heap.size]? = some (.cells #[.int .i64 x.id,.int .i64 x.known,.int .u8 x.kind,.int .i64 x.pit,.int .i64 x.layer,.int .i64 x.lower,.int .i64 x.low,.int .i64 x.high,.int .i64 x.cost,.int .i64 x.void] 25 (0,0)):=(by rw [←hw1];exact heap_alloc_new w _)
 have cells:∀ W:World,Below w1.heap.size w1 W→W.cell? ⟨w.heap.size,0,none⟩=some (.int .i64 x.id)∧W.cell? ⟨w.heap.size,1,none⟩=some (.int .i64 x.known)∧W.cell? ⟨w.heap.size,2,none⟩=some (.int .u8 x.kind)∧W.cell? ⟨w.heap.size,3,none⟩=some (.int .i64 x.pit)∧W.cell? ⟨w.heap.size,4,none⟩=some (.int .i64 x.layer)∧W.cell? ⟨w.heap.size,5,none⟩=some (.int .i64 x.lower)∧W.cell? ⟨w.heap.size,6,none⟩=some (.int .i64 x.low)∧W.cell? ⟨w.heap.size,7,none⟩=some (.int .i64 x.high)∧W.cell? ⟨w.heap.size,8,none⟩=some (.int .i64 x.cost)∧W.cell? ⟨w.heap.size,9,none⟩=some (.int .i64 x.void):=fun W hb=>by
  have:=(hb.block _ (by omega)).trans hr1;simp [World.cell?,this]
 have CELLS:=Lib.hid cells;have HL:=Lib.hid (hl.below hb1 (Nat.le_refl _));have hnl:=Lib.hid hl.len;have hbig:=hl.big;obtain ⟨c0,c1,c2,c3,c4,c5,c6,c7,c8,c9⟩:=cells w1 (Below.refl _ _);have HC:=Lib.hid (rCheckTrace_any x.id x.known x.kind x.pit x.layer x.lower x.low x.high x.cost x.void w1);clear cells hl hr1;by_cases h140:140≤n
 · go_enter Tryz.func95,Tryz.ntmps95
   go_wp2_with (fail);go_ret;exact ⟨retI (fo1 hnl.out (by omega)),hb1⟩
 · by_cases hct:checkTrace x=0
   · have hc:checkTrace ⟨x.id,x.known,x.kind,x.pit,x.layer,x.lower,x.low,x.high,x.cost,x.void⟩=0:=hct
     rw [hc] at HC
     have hct':Hid ((checkTrace x != 0)=false):=(show (checkTrace x != 0)=false by rw [hct];rfl)
     clear hct hc;go_enter Tryz.func95,Tryz.ntmps95;go_wp2_with (go_at_call 49;(with_reducible refine HC.out.mono ?_);rintro e w2 ⟨rfl,hb2⟩;have HB2:=Lib.hid hb2;clear hb2);clear c0 c1 c2 c3 c4 c5 c6 c7 c8 c9;go_loopw [5,6,7] (fun s5 s6 s7 wr=> ∃ (k:Nat) (s t:Bool),k≤n∧s5 = .bool s∧s6 = .bool t∧s7 = .int .i64 k∧Hid (Below w1.heap.size w1 wr)∧Hid ((l.take k).any (p1 x)=false)∧Hid ((l.take k).any (p2 x)=s)∧Hid ((l.take k).any (p3 x)=t)) (fun _ _ s7 _=>n-(intOf s7).toNat)
     case atStart=>exact ⟨0,false,false,Nat.zero_le _,rfl,rfl,rfl,HB2,(show _=_ by simp),(show _=_ by simp),(show _=_ by simp)⟩
     case round=>
      obtain ⟨k,s,t,hk,rfl,rfl,rfl,hb,hn1,hn2,hn3⟩:=hrel;have hzr:=hb.out.size;obtain ⟨a0,a1,a2,a3,a4,a5,a6,a7,a8,a9⟩:=CELLS.out wr hb.out;clear a3 a4 a5 a6 a7 a8
      have hxlt:w.heap.size<wr.heap.size:=(by omega)
      by_cases hlt:k<n
      · obtain ⟨b,off,y,rfl,hbw,hy,hcell⟩:=(HL.out.below hb.out (Nat.le_refl _)).one hlt
        have y0:wr.cell? ⟨b,off+k * 10,none⟩=some (.int .i64 y.id):=hcell 0 _ rfl;have y2:wr.cell? ⟨b,off+k * 10+2,none⟩=some (.int .u8 y.kind):=hcell 2 _ rfl;have y9:wr.cell? ⟨b,off+k * 10+9,none⟩=some (.int .i64 y.void):=hcell 9 _ rfl;have S1:=Lib.hid (snoc_any hy (p1 x));have S2:=Lib.hid (snoc_any hy (p2 x));have S3:=Lib.hid (snoc_any hy (p3 x));have HM:=Lib.hid (List.mem_of_getElem? hy);clear hcell hy;by_cases hid:y.id=x.id
        · have hid':(y.id==x.id)=true:=beq_iff_eq.2 hid
          go_wp2_with (go_quiet (fail))
          all_goals go_ret
          all_goals exact ⟨retI (fo3 hnl.out (by omega) hct'.out (List.any_eq_true.2 ⟨y,HM.out,by simp [p1,hid]⟩)),below_drewN' (hb1.trans (hb.out.mono (by omega))) _⟩
        · have hid':(y.id==x.id)=false:=beq_eq_false_iff_ne.2 hid
          have HID:=Lib.hid hid;clear hid;have two:∀ {a b:Int},(a=b∧(a==b)=true∧(a != b)=false)∨(a≠b∧(a==b)=false∧(a != b)=true):=fun {a b} => by by_cases h:a=b<;>simp [h]
          rcases @two y.kind 4 with ⟨k1,k2,k3⟩|⟨k1,k2,k3⟩
          all_goals
           have K1:=Lib.hid k1;clear k1
          · rcases @two y.void x.void with ⟨v1,v2,v3⟩|⟨v1,v2,v3⟩
            all_goals
             have V1:=Lib.hid v1;clear v1
            all_goals cases s<;>cases t
            all_goals
             go_wp2_with (go_quiet (fail));go_roundw
            all_goals first
             | (simp [intOf];omega)
             | (refine ⟨k+1,_,_,by omega,rfl,rfl,by go_num,(show Below _ _ _ from by repeat' (first|with_reducible exact hb.out|with_reducible refine Below.drew ?_|with_reducible refine below_drewN' ?_ _)),(show _=_ by have h0:=HID.out;rw [S1.out,hn1.out];simp [p1,h0]),(show _=_ by have h1:=K1.out;have h2:=V1.out;rw [S2.out,hn2.out];simp [p2,h1]),(show _=_ by have h1:=K1.out;have h2:=V1.out;rw [S3.out,hn3.out];simp [p3,h1,h2])⟩)
          · rcases @two y.id x.void with ⟨v1,v2,v3⟩|⟨v1,v2,v3⟩
            all_goals
             have V1:=Lib.hid v1;clear v1
            all_goals cases s<;>cases t
            all_goals
             go_wp2_with (go_quiet (fail));go_roundw
            all_goals first
             | (simp [intOf];omega)
             | (refine ⟨k+1,_,_,by omega,rfl,rfl,by go_num,(show Below _ _ _ from by repeat' (first|with_reducible exact hb.out|with_reducible refine Below.drew ?_|with_reducible refine below_drewN' ?_ _)),(show _=_ by have h0:=HID.out;rw [S1.out,hn1.out];simp [p1,h0]),(show _=_ by have h1:=K1.out;have h2:=V1.out;rw [S2.out,hn2.out];simp [p2,h1,h2]),(show _=_ by have h1:=K1.out;have h2:=V1.out;rw [S3.out,hn3.out];simp [p3,h1])⟩)
      · have hkn:k=n:=by omega
        subst hkn
        have hn1':Hid (l.any (p1 x)=false):=(show _=_ by have:=hn1.out;rwa [List.take_of_length_le (by rw [hnl.out];exact Nat.le_refl _)] at this)
        have hn2':Hid (l.any (p2 x)=s):=(show _=_ by have:=hn2.out;rwa [List.take_of_length_le (by rw [hnl.out];exact Nat.le_refl _)] at this)
        have hn3':Hid (l.any (p3 x)=t):=(show _=_ by have:=hn3.out;rwa [List.take_of_length_le (by rw [hnl.out];exact Nat.le_refl _)] at this)
        clear hn1 hn2 hn3
        rcases Nat.eq_zero_or_pos k with h0|h0
        · subst h0
          have hnil:Hid (l = []):=(show l = [] from List.eq_nil_of_length_eq_zero hnl.out)
          by_cases hk4:x.kind=4
          all_goals cases s<;>cases t
          all_goals
           go_wp2_with (go_quiet (fail));go_ret
          all_goals
           have hll:lastLater l x=false:=by rw [hnil.out];rfl
          all_goals refine ⟨retI ?_,below_drewN' (hb1.trans (hb.out.mono (by omega))) _⟩
          all_goals first
           | exact fo5 hnl.out (by omega) hct'.out hn1'.out hll (by simpa using hk4)
           | exact fo6 hnl.out (by omega) hct'.out hn1'.out hll (by simpa using hk4) (by rw [hn2'.out];rfl)
           | exact fo7 hnl.out (by omega) hct'.out hn1'.out hll (by simpa using hk4) (by rw [hn2'.out];rfl) hn3'.out
           | exact fo8 hnl.out (by omega) hct'.out hn1'.out hll (by simpa using hk4) (by rw [hn2'.out];rfl) hn3'.out
        · obtain ⟨b,off,z,rfl,hbw,hz,hcell⟩:=(HL.out.below hb.out (Nat.le_refl _)).one (i:=k-1) (by omega)
          have z1:wr.cell? ⟨b,off+(k-1) * 10+1,none⟩=some (.int .i64 z.known):=hcell 1 _ rfl
          have hlast:Hid (l.getLast? = some z):=(show _=_ by rw [List.getLast?_eq_getElem?,hnl.out];exact hz)
          clear hcell hz;by_cases hzk:x.known<z.known
          · go_wp2_with (go_quiet (fail))
            go_ret;exact ⟨retI (fo4 hnl.out (by omega) hct'.out hn1'.out (lastLater_yes hlast.out hzk)),below_drewN' (hb1.trans (hb.out.mono (by omega))) _⟩
          · by_cases hk4:x.kind=4
            all_goals cases s<;>cases t
            all_goals
             go_wp2_with (go_quiet (fail));go_ret
            all_goals
             have hll:lastLater l x=false:=lastLater_no hlast.out (by omega)
            all_goals refine ⟨retI ?_,below_drewN' (hb1.trans (hb.out.mono (by omega))) _⟩
            all_goals first
             | exact fo5 hnl.out (by omega) hct'.out hn1'.out hll (by simpa using hk4)
             | exact fo6 hnl.out (by omega) hct'.out hn1'.out hll (by simpa using hk4) (by rw [hn2'.out];rfl)
             | exact fo7 hnl.out (by omega) hct'.out hn1'.out hll (by simpa using hk4) (by rw [hn2'.out];rfl) hn3'.out
             | exact fo8 hnl.out (by omega) hct'.out hn1'.out hll (by simpa using hk4) (by rw [hn2'.out];rfl) hn3'.out
   · obtain ⟨ct,hcte⟩:∃ ct,checkTrace x=ct:=⟨_,rfl⟩
     have hc:checkTrace ⟨x.id,x.known,x.kind,x.pit,x.layer,x.lower,x.low,x.high,x.cost,x.void⟩=ct:=hcte;rw [hc] at HC;rw [hcte] at hct;have hct':=neBool hct;have HCT:=Lib.hid hcte;clear hc hcte;go_enter Tryz.func95,Tryz.ntmps95;go_wp2_with (go_at_call 49;(with_reducible refine HC.out.mono ?_);rintro e w2 ⟨rfl,hb2⟩;have HB2:=Lib.hid hb2;clear hb2);go_ret;exact ⟨retI (fo2 hnl.out (by omega) (by rw [HCT.out];exact hct')),hb1.trans (HB2.out.mono (by omega))⟩
theorem rCheck_any (A:Option Addr) (n c:Nat) (l:List Trace) (w:World) (hl:Rd encTrace 10 w A n c l):
 Calls Tryz.prog 43 #[.slice A n c] w
  fun e' w'=>e' = .returned (.tuple #[.int .i64 (check l).1,.int .i64 (check l).2])∧Below w.heap.size w w':=by
 have hbig:=hl.big;have hlen:=hl.len;have HL:=Lib.hid hlen;clear hlen;go_enter Tryz.func43,Tryz.ntmps43;go_wp2;go_loopw [4] (fun i wr=> ∃ k:Nat,k≤n∧i = .int .i64 k∧Below w.heap.size w wr∧Hid (check l=checkFrom l (n-k) k)) (fun i _=>n-(intOf i).toNat)
 case atStart=>exact ⟨0,Nat.zero_le _,rfl,Below.refl _ _,(show _=_ by unfold check;rw [HL.out];rfl)⟩
 case round=>
  obtain ⟨k,hk,rfl,hb,hck⟩:=hrel;have hzr:=hb.size;by_cases hlt:k<n
  · have hlw:=hl.below hb (Nat.le_refl _)
    obtain ⟨b,off,x,rfl,hbw,hx,hcell⟩:=hlw.one hlt;have c0:wr.cell? ⟨b,off+k * 10,none⟩=some (.int .i64 x.id):=hcell 0 _ rfl;have c1:wr.cell? ⟨b,off+k * 10+1,none⟩=some (.int .i64 x.known):=hcell 1 _ rfl;have c2:wr.cell? ⟨b,off+k * 10+2,none⟩=some (.int .u8 x.kind):=hcell 2 _ rfl;have c3:wr.cell? ⟨b,off+k * 10+3,none⟩=some (.int .i64 x.pit):=hcell 3 _ rfl;have c4:wr.cell? ⟨b,off+k * 10+4,none⟩=some (.int .i64 x.layer):=hcell 4 _ rfl;have c5:wr.cell? ⟨b,off+k * 10+5,none⟩=some (.int .i64 x.lower):=hcell 5 _ rfl;have c6:wr.cell? ⟨b,off+k * 10+6,none⟩=some (.int .i64 x.low):=hcell 6 _ rfl;have c7:wr.cell? ⟨b,off+k * 10+7,none⟩=some (.int .i64 x.high):=hcell 7 _ rfl;have c8:wr.cell? ⟨b,off+k * 10+8,none⟩=some (.int .i64 x.cost):=hcell 8 _ rfl;have c9:wr.cell? ⟨b,off+k * 10+9,none⟩=some (.int .i64 x.void):=hcell 9 _ rfl;have hcap:=hlw.cap;have hkc:k≤c:=by omega
    have hkc':(k:Int)≤(c:Int):=by omega
    have hlt':=hlw.take (m:=k) (c':=k) (by omega) (by omega);clear hcell hl hlw;have HX:=Lib.hid hx;clear hx;go_wp2_with (fail);go_region_with (go_at_call 95;refine (rRefused_any _ _ _ _ x _ hlt'.drew).mono ?_;rintro e wF ⟨rfl,hbF⟩)
    all_goals go_wp2
    · have hne:(follows (l.take k) x != 0)=true:= ‹_›
      go_ret2;refine ⟨?_,(by ((repeat' (first|(with_reducible assumption)|(with_reducible exact Below.refl _ _)|(with_reducible refine Below.drew ?_)|(with_reducible refine below_drewN' ?_ _)|(with_reducible refine Below.alloc ?_ ?_ _)|(with_reducible refine Below.setCell ?_ ?_ _)|(with_reducible refine below_step (by assumption) ?_ ?_)))<;>first|(simp;done)|(simp;omega)|omega))⟩;have:=check_hit HX.out (by simpa using hne) (n:=n) hlt hck.out;rw [this]
      rfl
    · have hne:(follows (l.take k) x != 0)=false:= ‹_›
      have hck':=check_step HX.out (by simpa using hne) (n:=n) hlt hck.out;go_roundw
      case rel=>exact ⟨k+1,by omega,by go_num,(by ((repeat' (first|(with_reducible assumption)|(with_reducible exact Below.refl _ _)|(with_reducible refine Below.drew ?_)|(with_reducible refine below_drewN' ?_ _)|(with_reducible refine Below.alloc ?_ ?_ _)|(with_reducible refine Below.setCell ?_ ?_ _)|(with_reducible refine below_step (by assumption) ?_ ?_)))<;>first|(simp;done)|(simp;omega)|omega)),hck'⟩
      case measure=>simp [intOf];omega
  · have:k=n:=by omega
    subst this;go_wp2;go_ret2;refine ⟨?_,hb⟩;have:=hck.out;rw [Nat.sub_self] at this;rw [this]
    rfl
def fewB (nl nb:Nat) (most:Int):Bool:=decide (((nl:Int)≤most∨(140<nl∧nl≤143))∧(nb≤6∨(60<nb∧nb≤63)))
theorem fewB_small {nl nb:Nat} {most:Int} (h:fewB nl nb most=true) (hm:most≤143):nl≤143∧nb≤63:=by
 unfold fewB at h;simp only [decide_eq_true_eq] at h;omega
theorem few_any (A:Option Addr) (n c:Nat) (B:Option Addr) (m d:Nat) (most:Int) (w:World):
 Calls Tryz.prog 23 #[.slice A n c,.slice B m d,.int .i64 most] w fun e w'=>e = .returned (.bool (fewB n m most))∧w'=w:=by
 go_enter Tryz.func23,Tryz.ntmps23;go_wp2
 all_goals go_ret
 all_goals refine ⟨retB ?_,rfl⟩
 all_goals
  unfold fewB;rw [Bool.eq_iff_iff];simp only [Bool.and_eq_true,Bool.or_eq_true,decide_eq_true_eq,Bool.false_eq_true,false_iff,true_iff];omega
theorem two_ (a b:Int):(a=b∧(a==b)=true∧(a != b)=false)∨(a≠b∧(a==b)=false∧(a != b)=true):=by by_cases h:a=b<;>simp [h]
theorem pc_first (x:Trace) (known:Int):(x.kind != 4&&decide (x.known≤known)) = !(decide (x.kind=4)||decide (known<x.known)):=by
 rw [Bool.eq_iff_iff];simp only [Bool.and_eq_true,bne_iff_ne,decide_eq_true_eq,Bool.not_eq_true',Bool.or_eq_false_iff,decide_eq_false_iff_not,ne_eq];omega
theorem rcounting_any (A:Option Addr) (n c:Nat) (l:List Trace) (known:Int) (w:World) (hl:Rd encTrace 10 w A n c l) (hsm:n≤1000000):
 Calls Tryz.prog 83 #[.slice A n c,.int .i64 known] w fun e w'=> ∃ A' m c',e = .returned (.slice A' m c')∧Own encTrace 10 25 w.heap.size w' A' m c' (counting l known)∧Below w.heap.size w w':=by
 have hnl:=Lib.hid hl.len;have HL:=Lib.hid hl;clear hl;go_enter Tryz.func83,Tryz.ntmps83;go_wp2;go_loopw [5,6] (fun s5 s6 wr=> ∃ (i:Nat) (A':Option Addr) (c':Nat) (xs:List Trace),i≤n∧s5 = .slice A' xs.length c'∧s6 = .int .i64 i∧Hid (Below w.heap.size w wr)∧Hid (xs=(l.take i).filter fun x=> !pc l known x)∧Hid (Own encTrace 10 25 w.heap.size wr A' xs.length c' xs)) (fun _ s6 _=>n-(intOf s6).toNat)
 case atStart=>exact ⟨0,none,0,[],Nat.zero_le _,rfl,rfl,(show Below _ _ _ from Below.refl _ _),(show _=_ from rfl),(show Own _ _ _ _ _ _ _ _ _ from Own.none_ _ _ _ _ _)⟩
 case round=>
  rename World=>wo;obtain ⟨i,A',c',xs,hi,rfl,rfl,hb,hxs,hO⟩:=hrel;have hzr:=hb.out.size;by_cases hlt:i<n
  · obtain ⟨b,off,x,rfl,hbw,hx,hcell⟩:=(HL.out.below hb.out (Nat.le_refl _)).one hlt
    have c0:wo.cell? ⟨b,off+i * 10,none⟩=some (.int .i64 x.id):=hcell 0 _ rfl;have c1:wo.cell? ⟨b,off+i * 10+1,none⟩=some (.int .i64 x.known):=hcell 1 _ rfl;have c2:wo.cell? ⟨b,off+i * 10+2,none⟩=some (.int .u8 x.kind):=hcell 2 _ rfl;have c3:wo.cell? ⟨b,off+i * 10+3,none⟩=some (.int .i64 x.pit):=hcell 3 _ rfl;have c4:wo.cell? ⟨b,off+i * 10+4,none⟩=some (.int .i64 x.layer):=hcell 4 _ rfl;have c5:wo.cell? ⟨b,off+i * 10+5,none⟩=some (.int .i64 x.lower):=hcell 5 _ rfl;have c6:wo.cell? ⟨b,off+i * 10+6,none⟩=some (.int .i64 x.low):=hcell 6 _ rfl;have c7:wo.cell? ⟨b,off+i * 10+7,none⟩=some (.int .i64 x.high):=hcell 7 _ rfl;have c8:wo.cell? ⟨b,off+i * 10+8,none⟩=some (.int .i64 x.cost):=hcell 8 _ rfl;have c9:wo.cell? ⟨b,off+i * 10+9,none⟩=some (.int .i64 x.void):=hcell 9 _ rfl;have HX:=Lib.hid hx
    have hxl:xs.length≤1000000:=(by have h1:=hxs.out;rw [h1];have:=List.length_filter_le (fun x=> !pc l known x) (l.take i);rw [List.length_take] at this;omega)
    clear hcell hx
    obtain ⟨s0,hs0⟩:∃ s0:Bool,s0=(x.kind != 4&&decide (x.known≤known)):=⟨_,rfl⟩
    have HS0:=Lib.hid hs0;clear hs0
    go_upto_region 5 with (fail)
    go_cut [7] (fun s7 wx=>s7 = .bool s0∧wo=wx)
    case first=>
     have h0:=HS0.out
     rcases two_ x.kind 4 with ⟨k1,k2,k3⟩|⟨k1,k2,k3⟩<;>by_cases k4:x.known≤known
     all_goals
      rw [k3] at h0
      (first|rw [decide_eq_true k4] at h0|rw [decide_eq_false k4] at h0)
      simp only [Bool.and_true,Bool.and_false] at h0;subst h0;clear k1;go_wp2_with (fail);go_meet
     all_goals exact ⟨rfl,rfl⟩
    case rest=>
     obtain ⟨rfl,rfl⟩:=hcut;go_wp2_with (fail);go_loopw [7,8] (fun s7 s8 wq=> ∃ (k:Nat) (s:Bool),k≤n∧s7 = .bool s∧s8 = .int .i64 k∧Hid (Below wo.heap.size wo wq)∧Hid (s=(s0 && !(l.take k).any (pv known x)))) (fun _ s8 _=>n-(intOf s8).toNat)
     case atStart=>exact ⟨0,s0,Nat.zero_le _,rfl,rfl,(show Below _ _ _ from Below.refl _ _),(show _=_ by simp)⟩
     case round=>
      obtain ⟨k,s,hk,rfl,rfl,hq,hsv⟩:=hrel;have hzq:=hq.out.size;by_cases hlt2:k<n
      · obtain ⟨b2,off2,y,hA2,hbw2,hy,hcell2⟩:=(HL.out.below (hb.out.trans (hq.out.mono hzr)) (Nat.le_refl _)).one hlt2
        cases hA2;have y2:wr.cell? ⟨b,off+k * 10+2,none⟩=some (.int .u8 y.kind):=hcell2 2 _ rfl;have y1:wr.cell? ⟨b,off+k * 10+1,none⟩=some (.int .i64 y.known):=hcell2 1 _ rfl;have y9:wr.cell? ⟨b,off+k * 10+9,none⟩=some (.int .i64 y.void):=hcell2 9 _ rfl;have x0:wr.cell? ⟨b,off+i * 10,none⟩=some (.int .i64 x.id):=(hq.out.cell (p:=⟨b,_,none⟩) hbw).trans c0;have SN:=Lib.hid (snoc_any hy (pv known x));clear hcell2 hy
        rcases two_ y.kind 4 with ⟨k1,k2,k3⟩|⟨k1,k2,k3⟩
        all_goals
         have K1:=Lib.hid k1;clear k1
        · by_cases hkn:y.known≤known
          · rcases two_ y.void x.id with ⟨v1,v2,v3⟩|⟨v1,v2,v3⟩
            all_goals
             have V1:=Lib.hid v1;clear v1
            all_goals
             go_wp2_with (go_quiet (fail));go_roundw
            all_goals first
             | (simp [intOf];omega)
             | exact ⟨k+1,_,by omega,rfl,by go_num,(show Below _ _ _ from below_drewN' hq.out _),(show _=_ by have h1:=K1.out;have h2:=V1.out;rw [SN.out];(first|rw [hsv.out]|skip);simp [pv,h1,h2,hkn])⟩
          · go_wp2_with (go_quiet (fail))
            go_roundw
            all_goals first
             | (simp [intOf];omega)
             | exact ⟨k+1,_,by omega,rfl,by go_num,(show Below _ _ _ from below_drewN' hq.out _),(show _=_ by rw [SN.out,hsv.out];simp [pv,hkn])⟩
        · go_wp2_with (go_quiet (fail))
          go_roundw
          all_goals first
           | (simp [intOf];omega)
           | exact ⟨k+1,_,by omega,rfl,by go_num,(show Below _ _ _ from below_drewN' hq.out _),(show _=_ by have h1:=K1.out;rw [SN.out,hsv.out];simp [pv,h1])⟩
      · have hkn:k=n:=by omega
        subst hkn
        have hs2:Hid (s = !pc l known x):=(show _=_ by
         have h1:=hsv.out;rw [List.take_of_length_le (by rw [hnl.out];exact Nat.le_refl _)] at h1
         rw [h1,HS0.out];unfold pc;rw [Bool.not_or];congr 1;exact pc_first x known)
        clear hsv;have hbq:=hb.out.trans (hq.out.mono hzr);have hOq:=hO.out.below hq.out (Nat.le_refl _)
        have hf:Hid ((l.take (i+1)).filter (fun x=> !pc l known x)=xs++(if s then [x] else [])):=(show _=_ by
         rw [List.take_add_one,HX.out,Option.toList_some,List.filter_append,←hxs.out]
         congr 1
         have h2:=hs2.out;rw [List.filter_cons]
         rw [←h2];rfl)
        cases s
        · go_wp2_with (fail)
          go_roundw
          all_goals first
           | (simp [intOf];omega)
           | exact ⟨i+1,A',c',xs,by omega,rfl,by go_num,hbq,(show _=_ by rw [hf.out];simp),hOq⟩
        · have e0:wr.cell? ⟨b,off+i * 10,none⟩=some (.int .i64 x.id):=(hq.out.cell (p:=⟨b,_,none⟩) hbw).trans c0
          have e1:wr.cell? ⟨b,off+i * 10+1,none⟩=some (.int .i64 x.known):=(hq.out.cell (p:=⟨b,_,none⟩) hbw).trans c1;have e2:wr.cell? ⟨b,off+i * 10+2,none⟩=some (.int .u8 x.kind):=(hq.out.cell (p:=⟨b,_,none⟩) hbw).trans c2;have e3:wr.cell? ⟨b,off+i * 10+3,none⟩=some (.int .i64 x.pit):=(hq.out.cell (p:=⟨b,_,none⟩) hbw).trans c3;have e4:wr.cell? ⟨b,off+i * 10+4,none⟩=some (.int .i64 x.layer):=(hq.out.cell (p:=⟨b,_,none⟩) hbw).trans c4;have e5:wr.cell? ⟨b,off+i * 10+5,none⟩=some (.int .i64 x.lower):=(hq.out.cell (p:=⟨b,_,none⟩) hbw).trans c5;have e6:wr.cell? ⟨b,off+i * 10+6,none⟩=some (.int .i64 x.low):=(hq.out.cell (p:=⟨b,_,none⟩) hbw).trans c6;have e7:wr.cell? ⟨b,off+i * 10+7,none⟩=some (.int .i64 x.high):=(hq.out.cell (p:=⟨b,_,none⟩) hbw).trans c7;have e8:wr.cell? ⟨b,off+i * 10+8,none⟩=some (.int .i64 x.cost):=(hq.out.cell (p:=⟨b,_,none⟩) hbw).trans c8;have e9:wr.cell? ⟨b,off+i * 10+9,none⟩=some (.int .i64 x.void):=(hq.out.cell (p:=⟨b,_,none⟩) hbw).trans c9;clear c0 c1 c2 c3 c4 c5 c6 c7 c8 c9;have hO5:=hOq.alloc (.cells #[.int .i64 x.id,.int .i64 x.known,.int .u8 x.kind,.int .i64 x.pit,.int .i64 x.layer,.int .i64 x.lower,.int .i64 x.low,.int .i64 x.high,.int .i64 x.cost,.int .i64 x.void] 25);have hrd5:=Rd.single (enc:=encTrace) (k:=10) wr #[.int .i64 x.id,.int .i64 x.known,.int .u8 x.kind,.int .i64 x.pit,.int .i64 x.layer,.int .i64 x.lower,.int .i64 x.low,.int .i64 x.high,.int .i64 x.cost,.int .i64 x.void] 25 [x] 1 rfl (by omega) (fun _=>rfl) (by simp [encTrace]);have HB5:=Lib.hid (hbq.alloc (by omega) (.cells #[.int .i64 x.id,.int .i64 x.known,.int .u8 x.kind,.int .i64 x.pit,.int .i64 x.layer,.int .i64 x.lower,.int .i64 x.low,.int .i64 x.high,.int .i64 x.cost,.int .i64 x.void] 25))
          go_wp2_with (at_builtin;refine wpList_append_src elTrace (fun _=>rfl) oneTrace rfl _ _ rfl _ _ _ _ rfl rfl hO5 hrd5 (by omega) (by decide) (by simp;omega) ?_;intro A6 c6 w6 hO6 hg6 hA6
                       have HB6:=Lib.hid (HB5.out.grown hg6 (by simp;omega) (fun j e=>hO5.ltB j e));have HO6:=Lib.hid hO6
                       clear hO6 hg6 hA6)
          go_roundw
          all_goals first
           | (simp [intOf];omega)
           | exact ⟨i+1,A6,c6,xs ++ [x],by omega,by simp,by go_num,HB6.out,(show _=_ by rw [hf.out];rfl),(show Own _ _ _ _ _ _ _ _ _ by rw [List.length_append];exact HO6.out)⟩
  · have hin:i=n:=by omega
    subst hin;go_wp2;go_ret
    exact ⟨A',xs.length,c',rfl,(show Own _ _ _ _ _ _ _ _ _ by
     have h1:=hxs.out;rw [List.take_of_length_le (by rw [hnl.out];exact Nat.le_refl _)] at h1;unfold counting
     rw [←h1];exact hO.out),hb.out⟩
end Go.Proofs.YtelnkflmnbhclaaGreat
end

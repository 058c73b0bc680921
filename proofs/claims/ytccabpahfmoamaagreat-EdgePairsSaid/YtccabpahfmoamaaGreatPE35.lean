/- Contracts that the laws lean on: R1S. -/
import Derived.Test.YtccabpahfmoamaaGreatPE14
set_option maxRecDepth 100000
set_option maxHeartbeats 4000000
section
namespace Go.Proofs.YtccabpahfmoamaaGreat
open Go.RowKit Go.Proofs Go.Shelf
def pointB (pts v:Int):Bool:=decide (0≤v)&&decide (v<pts)
theorem r1Within_any (n low high:Int) (w:World):
 Calls Tryz.prog 138 #[.int .i64 n,.int .i64 low,.int .i64 high] w fun e w'=>e = .returned (.bool (withinB n low high))∧w'=w:=by
 by_cases h:low≤n
 · go_enter Tryz.func138,Tryz.ntmps138
   go_wp2
   go_ret
   exact ⟨by simp [withinB,h],rfl⟩
 · go_enter Tryz.func138,Tryz.ntmps138
   go_wp2
   go_ret
   refine ⟨?_,rfl⟩
   have:withinB n low high=false:=by unfold withinB;rw [decide_eq_false (by omega)];rfl
   rw [this];rfl
theorem r1Point_any (pts:Int) (A:Option Addr) (n c:Nat) (v:Int) (w:World):
 Calls Tryz.prog 137 #[.agg #[.int .i64 pts,.slice A n c],.int .i64 v] w fun e w'=>e = .returned (.bool (pointB pts v))∧Below w.heap.size w w':=by
 have hv:pointB pts v=(decide (0≤v)&&decide (v<pts)):=rfl
 rw [hv]
 by_cases h:0≤v
 all_goals
  go_enter Tryz.func137,Tryz.ntmps137
  go_wp2_with (fail)
  go_ret
  exact ⟨by first|(simp [h];done)|(simp;omega)|(simp;omega),(Below.refl _ w).alloc (Nat.le_refl _) _⟩
theorem wrongB_five (pts:Int) (x:Bound):wrongB pts x=(!pointB pts x.src || !pointB pts x.dst||(x.src==x.dst) || !withinB x.most (-1000000) 1000000 || !withinB x.by_ 0 1000000):=by
 have h1:∀ v,withinB v 0 (pts-1)=pointB pts v:=fun v=>by
  unfold withinB pointB
  congr 1
  exact decide_eq_decide.2 (by omega)
 unfold wrongB
 rw [h1,h1]
 congr 3
theorem checkSys_any {pts:Int} {bs:List Bound} (h1:¬(60<pts∨400<bs.length)) (h2:¬pts<1):(∀ x∈bs,wrongB pts x=true→checkSys pts bs=1)∧((∀ x∈bs,wrongB pts x=false)→checkSys pts bs=0):=by
 unfold checkSys
 rw [if_neg h1]
 refine ⟨fun x hx hw=>if_pos (.inr (List.any_eq_true.2 ⟨x,hx,hw⟩)),fun h=>if_neg (fun hh=> ?_)⟩
 rcases hh with hh|hh
 · exact h2 hh
 · obtain ⟨x,hx,hw⟩:=List.any_eq_true.1 hh
   rw [h x hx] at hw
   cases hw
theorem r1Check_any (pts:Int) (A:Option Addr) (n c:Nat) (bs:List Bound) (w:World) (hl:Rd encBound 4 w A n c bs):
 Calls Tryz.prog 91 #[.agg #[.int .i64 pts,.slice A n c]] w fun e w'=>e = .returned (.int .i64 (checkSys pts bs))∧Below w.heap.size w w':=by
 have hlen:=hl.len
 have hbig:=hl.big
 by_cases g1:60<pts
 · have hv:checkSys pts bs=2:=if_pos (.inl g1)
   rw [hv]
   clear hl hlen hbig hv
   go_enter Tryz.func91,Tryz.ntmps91
   go_wp2_with (fail)
   go_ret
   exact ⟨rfl,(Below.refl _ w).alloc (Nat.le_refl _) _⟩
 by_cases g2:(400:Int)<n
 · have hv:checkSys pts bs=2:=if_pos (.inr (by omega))
   rw [hv]
   clear hl hlen hbig hv
   go_enter Tryz.func91,Tryz.ntmps91
   go_wp2_with (fail)
   go_ret
   exact ⟨rfl,(Below.refl _ w).alloc (Nat.le_refl _) _⟩
 by_cases g3:pts<1
 · have hv:checkSys pts bs=1:=by unfold checkSys;rw [if_neg (by omega),if_pos (.inl g3)]
   rw [hv]
   clear hl hlen hbig hv
   go_enter Tryz.func91,Tryz.ntmps91
   go_wp2_with (fail)
   go_ret
   exact ⟨rfl,(Below.refl _ w).alloc (Nat.le_refl _) _⟩
 obtain ⟨hbad,hgood⟩:=checkSys_any (pts:=pts) (bs:=bs) (by omega) g3
 generalize checkSys pts bs=cv at *
 obtain ⟨w1,hw1⟩:∃ w1,w.alloc (.cells #[.int .i64 pts,.slice A n c] 73)=w1:=⟨_,rfl⟩
 have hb1:Below w.heap.size w w1:=(by rw [←hw1];exact (Below.refl _ w).alloc (Nat.le_refl _) _)
 have hh1:w1.heap[w.heap.size]? = some (.cells #[.int .i64 pts,.slice A n c] 73 (0,0)):=(by rw [←hw1];exact heap_alloc_new w _)
 have hz1:w.heap.size<w1.heap.size:=(Array.getElem?_eq_some_iff.1 hh1).1
 have SE:Hid (∀ W,Below w1.heap.size w1 W→W.cell? ⟨w.heap.size,0,none⟩=some (.int .i64 pts)∧W.cell? ⟨w.heap.size,1,none⟩=some (.slice A n c)):=(show ∀ W,Below w1.heap.size w1 W→_ from fun W h=>by
  have:=(h.block _ hz1).trans hh1
  simp [World.cell?,this])
 have hn:n≤400:=(by omega)
 have HL:=Lib.hid (hl.below hb1 (Nat.le_refl _))
 have HB1:=Lib.hid hb1
 have HBAD:=Lib.hid hbad
 have HGOOD:=Lib.hid hgood
 have HW1:=Lib.hid hw1
 obtain ⟨s0,s1⟩:=SE.out w1 (Below.refl _ _)
 clear hb1 hh1 hl hw1 hlen hbig hbad hgood
 go_enter Tryz.func91,Tryz.ntmps91
 go_wp2_with (rw [HW1.out])
 clear s0 s1
 go_loopw [3] (fun s3 wr=> ∃ k:Nat,k≤n∧s3 = .int .i64 k∧Hid (Below w1.heap.size w1 wr)∧Hid (∀ j x,j<k→bs[j]? = some x→wrongB pts x=false)) (fun s3 _=>n-(intOf s3).toNat)
 case atStart=>exact ⟨0,Nat.zero_le _,rfl,(show Below _ _ _ from Below.refl _ _),(show ∀ (j:Nat) (x:Bound),_ from fun j x h=>by omega)⟩
 case round=>
  obtain ⟨k,hk,rfl,hb,hall⟩:=hrel
  have hzr:=hb.out.size
  obtain ⟨s0,s1⟩:=SE.out wr hb.out
  have hwl:w.heap.size<wr.heap.size:=(by omega)
  by_cases hlt:k<n
  · obtain ⟨bb,ob,x,rfl,hbb,hx,hcx⟩:=(HL.out.below hb.out (Nat.le_refl _)).one hlt
    have c0:wr.cell? ⟨bb,ob+k * 4,none⟩=some (.int .i64 x.src):=hcx 0 _ rfl
    have c1:wr.cell? ⟨bb,ob+k * 4+1,none⟩=some (.int .i64 x.dst):=hcx 1 _ rfl
    have c2:wr.cell? ⟨bb,ob+k * 4+2,none⟩=some (.int .i64 x.most):=hcx 2 _ rfl
    have c3:wr.cell? ⟨bb,ob+k * 4+3,none⟩=some (.int .i64 x.by_):=hcx 3 _ rfl
    have HWX:=Lib.hid (wrongB_five pts x)
    have HX:=Lib.hid hx
    obtain ⟨e3,he3⟩:∃ e3,(x.src==x.dst)=e3:=⟨_,rfl⟩
    obtain ⟨p1,hp1⟩:∃ p1,pointB pts x.src=p1:=⟨_,rfl⟩
    obtain ⟨p2,hp2⟩:∃ p2,pointB pts x.dst=p2:=⟨_,rfl⟩
    obtain ⟨v4,hv4⟩:∃ v4,withinB x.most (-1000000) 1000000=v4:=⟨_,rfl⟩
    obtain ⟨v5,hv5⟩:∃ v5,withinB x.by_ 0 1000000=v5:=⟨_,rfl⟩
    rw [he3,hp1,hp2,hv4,hv5] at HWX
    have P1:=Lib.hid hp1
    have P2:=Lib.hid hp2
    have V4:=Lib.hid hv4
    have V5:=Lib.hid hv5
    obtain ⟨w2,hw2⟩:∃ w2,wr.alloc (.cells #[.int .i64 x.src,.int .i64 x.dst,.int .i64 x.most,.int .i64 x.by_] 56)=w2:=⟨_,rfl⟩
    have hb2:Below wr.heap.size wr w2:=(by rw [←hw2];exact (Below.refl _ wr).alloc (Nat.le_refl _) _)
    have hh2:w2.heap[wr.heap.size]? = some (.cells #[.int .i64 x.src,.int .i64 x.dst,.int .i64 x.most,.int .i64 x.by_] 56 (0,0)):=(by rw [←hw2];exact heap_alloc_new wr _)
    have hz2:wr.heap.size<w2.heap.size:=(Array.getElem?_eq_some_iff.1 hh2).1
    have CE:Hid (∀ W,Below w2.heap.size w2 W→W.cell? ⟨wr.heap.size,0,none⟩=some (.int .i64 x.src)∧W.cell? ⟨wr.heap.size,1,none⟩=some (.int .i64 x.dst)∧W.cell? ⟨wr.heap.size,2,none⟩=some (.int .i64 x.most)∧W.cell? ⟨wr.heap.size,3,none⟩=some (.int .i64 x.by_)):=(show ∀ W,Below w2.heap.size w2 W→_ from fun W h=>by
     have:=(h.block _ hz2).trans hh2
     simp [World.cell?,this])
    have HB2:=Lib.hid (hb.out.trans (hb2.mono hzr))
    have HW2:=Lib.hid hw2
    have hz12:w1.heap.size≤w2.heap.size:=(by omega)
    obtain ⟨d0,d1,d2,d3⟩:=CE.out w2 (Below.refl _ _)
    obtain ⟨s2,s3⟩:=SE.out w2 HB2.out
    clear hcx hx hp1 hp2 hv4 hv5 hb2 hh2 hw2
    cases p1
    case false=>
     have hone:cv=1:=HBAD.out x (List.mem_of_getElem? HX.out) (by rw [HWX.out];simp)
     subst hone
     go_wp2_with (first
      | rw [HW2.out]
      | (go_at_call 137;(with_reducible refine (r1Point_any pts _ n c x.src _).mono ?_);rintro e w3 ⟨rfl,hb3⟩
         rw [P1.out]
         have HB3:=Lib.hid hb3
         obtain ⟨d4,d5,d6,d7⟩:=CE.out w3 HB3.out
         obtain ⟨s4,s5⟩:=SE.out w3 (HB2.out.trans (HB3.out.mono hz12))
         clear hb3)
      | (go_at_call 137;(with_reducible refine (r1Point_any pts _ n c x.dst _).mono ?_);rintro e w4 ⟨rfl,hb4⟩
         rw [P2.out]
         have HB4:=Lib.hid (HB3.out.trans (hb4.mono HB3.out.size))
         obtain ⟨d8,d9,d10,d11⟩:=CE.out w4 HB4.out
         clear hb4)
      | (go_at_call 138;(with_reducible refine (r1Within_any x.most _ _ _).mono ?_);rintro e w5 ⟨rfl,hw5⟩;obtain rfl:=hw5.symm;rw [V4.out])
      | (go_at_call 138;(with_reducible refine (r1Within_any x.by_ _ _ _).mono ?_);rintro e w6 ⟨rfl,hw6⟩;obtain rfl:=hw6.symm;rw [V5.out]))
     go_ret
     exact ⟨rfl,HB1.out.trans ((HB2.out.trans (HB4.out.mono hz12)).mono HB1.out.size)⟩
    case true=>
     cases p2
     case false=>
      have hone:cv=1:=HBAD.out x (List.mem_of_getElem? HX.out) (by rw [HWX.out];simp)
      subst hone
      go_wp2_with (first
       | rw [HW2.out]
       | (go_at_call 137;(with_reducible refine (r1Point_any pts _ n c x.src _).mono ?_);rintro e w3 ⟨rfl,hb3⟩
          rw [P1.out]
          have HB3:=Lib.hid hb3
          obtain ⟨d4,d5,d6,d7⟩:=CE.out w3 HB3.out
          obtain ⟨s4,s5⟩:=SE.out w3 (HB2.out.trans (HB3.out.mono hz12))
          clear hb3)
       | (go_at_call 137;(with_reducible refine (r1Point_any pts _ n c x.dst _).mono ?_);rintro e w4 ⟨rfl,hb4⟩
          rw [P2.out]
          have HB4:=Lib.hid (HB3.out.trans (hb4.mono HB3.out.size))
          obtain ⟨d8,d9,d10,d11⟩:=CE.out w4 HB4.out
          clear hb4)
       | (go_at_call 138;(with_reducible refine (r1Within_any x.most _ _ _).mono ?_);rintro e w5 ⟨rfl,hw5⟩;obtain rfl:=hw5.symm;rw [V4.out])
       | (go_at_call 138;(with_reducible refine (r1Within_any x.by_ _ _ _).mono ?_);rintro e w6 ⟨rfl,hw6⟩;obtain rfl:=hw6.symm;rw [V5.out]))
      go_ret
      exact ⟨rfl,HB1.out.trans ((HB2.out.trans (HB4.out.mono hz12)).mono HB1.out.size)⟩
     case true=>
      cases e3
      case true=>
       have hone:cv=1:=HBAD.out x (List.mem_of_getElem? HX.out) (by rw [HWX.out];simp)
       subst hone
       go_wp2_with (first
        | rw [HW2.out]
        | (go_at_call 137;(with_reducible refine (r1Point_any pts _ n c x.src _).mono ?_);rintro e w3 ⟨rfl,hb3⟩
           rw [P1.out]
           have HB3:=Lib.hid hb3
           obtain ⟨d4,d5,d6,d7⟩:=CE.out w3 HB3.out
           obtain ⟨s4,s5⟩:=SE.out w3 (HB2.out.trans (HB3.out.mono hz12))
           clear hb3)
        | (go_at_call 137;(with_reducible refine (r1Point_any pts _ n c x.dst _).mono ?_);rintro e w4 ⟨rfl,hb4⟩
           rw [P2.out]
           have HB4:=Lib.hid (HB3.out.trans (hb4.mono HB3.out.size))
           obtain ⟨d8,d9,d10,d11⟩:=CE.out w4 HB4.out
           clear hb4)
        | (go_at_call 138;(with_reducible refine (r1Within_any x.most _ _ _).mono ?_);rintro e w5 ⟨rfl,hw5⟩;obtain rfl:=hw5.symm;rw [V4.out])
        | (go_at_call 138;(with_reducible refine (r1Within_any x.by_ _ _ _).mono ?_);rintro e w6 ⟨rfl,hw6⟩;obtain rfl:=hw6.symm;rw [V5.out]))
       go_ret
       exact ⟨rfl,HB1.out.trans ((HB2.out.trans (HB4.out.mono hz12)).mono HB1.out.size)⟩
      case false=>
       cases v4
       case false=>
        have hone:cv=1:=HBAD.out x (List.mem_of_getElem? HX.out) (by rw [HWX.out];simp)
        subst hone
        go_wp2_with (first
         | rw [HW2.out]
         | (go_at_call 137;(with_reducible refine (r1Point_any pts _ n c x.src _).mono ?_);rintro e w3 ⟨rfl,hb3⟩
            rw [P1.out]
            have HB3:=Lib.hid hb3
            obtain ⟨d4,d5,d6,d7⟩:=CE.out w3 HB3.out
            obtain ⟨s4,s5⟩:=SE.out w3 (HB2.out.trans (HB3.out.mono hz12))
            clear hb3)
         | (go_at_call 137;(with_reducible refine (r1Point_any pts _ n c x.dst _).mono ?_);rintro e w4 ⟨rfl,hb4⟩
            rw [P2.out]
            have HB4:=Lib.hid (HB3.out.trans (hb4.mono HB3.out.size))
            obtain ⟨d8,d9,d10,d11⟩:=CE.out w4 HB4.out
            clear hb4)
         | (go_at_call 138;(with_reducible refine (r1Within_any x.most _ _ _).mono ?_);rintro e w5 ⟨rfl,hw5⟩;obtain rfl:=hw5.symm;rw [V4.out])
         | (go_at_call 138;(with_reducible refine (r1Within_any x.by_ _ _ _).mono ?_);rintro e w6 ⟨rfl,hw6⟩;obtain rfl:=hw6.symm;rw [V5.out]))
        go_ret
        exact ⟨rfl,HB1.out.trans ((HB2.out.trans (HB4.out.mono hz12)).mono HB1.out.size)⟩
       case true=>
        cases v5
        case false=>
         have hone:cv=1:=HBAD.out x (List.mem_of_getElem? HX.out) (by rw [HWX.out];simp)
         subst hone
         go_wp2_with (first
          | rw [HW2.out]
          | (go_at_call 137;(with_reducible refine (r1Point_any pts _ n c x.src _).mono ?_);rintro e w3 ⟨rfl,hb3⟩
             rw [P1.out]
             have HB3:=Lib.hid hb3
             obtain ⟨d4,d5,d6,d7⟩:=CE.out w3 HB3.out
             obtain ⟨s4,s5⟩:=SE.out w3 (HB2.out.trans (HB3.out.mono hz12))
             clear hb3)
          | (go_at_call 137;(with_reducible refine (r1Point_any pts _ n c x.dst _).mono ?_);rintro e w4 ⟨rfl,hb4⟩
             rw [P2.out]
             have HB4:=Lib.hid (HB3.out.trans (hb4.mono HB3.out.size))
             obtain ⟨d8,d9,d10,d11⟩:=CE.out w4 HB4.out
             clear hb4)
          | (go_at_call 138;(with_reducible refine (r1Within_any x.most _ _ _).mono ?_);rintro e w5 ⟨rfl,hw5⟩;obtain rfl:=hw5.symm;rw [V4.out])
          | (go_at_call 138;(with_reducible refine (r1Within_any x.by_ _ _ _).mono ?_);rintro e w6 ⟨rfl,hw6⟩;obtain rfl:=hw6.symm;rw [V5.out]))
         go_ret
         exact ⟨rfl,HB1.out.trans ((HB2.out.trans (HB4.out.mono hz12)).mono HB1.out.size)⟩
        case true=>
         have HNX:=Lib.hid (HWX.out.trans rfl)
         go_wp2_with (first
          | rw [HW2.out]
          | (go_at_call 137;(with_reducible refine (r1Point_any pts _ n c x.src _).mono ?_);rintro e w3 ⟨rfl,hb3⟩
             rw [P1.out]
             have HB3:=Lib.hid hb3
             obtain ⟨d4,d5,d6,d7⟩:=CE.out w3 HB3.out
             obtain ⟨s4,s5⟩:=SE.out w3 (HB2.out.trans (HB3.out.mono hz12))
             clear hb3)
          | (go_at_call 137;(with_reducible refine (r1Point_any pts _ n c x.dst _).mono ?_);rintro e w4 ⟨rfl,hb4⟩
             rw [P2.out]
             have HB4:=Lib.hid (HB3.out.trans (hb4.mono HB3.out.size))
             obtain ⟨d8,d9,d10,d11⟩:=CE.out w4 HB4.out
             clear hb4)
          | (go_at_call 138;(with_reducible refine (r1Within_any x.most _ _ _).mono ?_);rintro e w5 ⟨rfl,hw5⟩;obtain rfl:=hw5.symm;rw [V4.out])
          | (go_at_call 138;(with_reducible refine (r1Within_any x.by_ _ _ _).mono ?_);rintro e w6 ⟨rfl,hw6⟩;obtain rfl:=hw6.symm;rw [V5.out]))
         go_roundw
         all_goals first
          | (simp [intOf];omega)
          | exact ⟨k+1,by omega,by go_num,(show Below _ _ _ from HB2.out.trans (HB4.out.mono hz12)),(show ∀ (j:Nat) (y:Bound),_ from fun j y hj hy=>by
             rcases Nat.lt_or_ge j k with h|h
             · exact hall.out j y h hy
             · have:j=k:=by omega
               subst this
               rw [HX.out] at hy
               cases hy
               exact HWX.out)⟩
  · have hkn:k=n:=by omega
    subst hkn
    have hz:cv=0:=HGOOD.out (fun x hx=>by
     obtain ⟨j,hj,hjx⟩:=List.getElem_of_mem hx
     exact hall.out j x (by have:=HL.out.len;omega) (by rw [List.getElem?_eq_getElem hj,hjx]))
    subst hz
    go_wp2
    go_ret
    exact ⟨rfl,HB1.out.trans (hb.out.mono (by omega))⟩
theorem r3ways_any (n:Int) (WA:Option Addr) (wn wc:Nat) (TA:Option Addr) (tn tc:Nat) (w:World) (h1: -1000≤n) (h2:n≤1000):
 Calls Tryz.prog 92 #[.agg #[.int .i64 n,.slice WA wn wc,.slice TA tn tc]] w fun e w'=>e = .returned (.agg #[.int .i64 (n+1),.slice WA wn wc])∧Below w.heap.size w w':=by
 have hw:IntKind.i64.wrap (n+1)=n+1:=(by rw [IntKind.wrap_i64];omega)
 go_enter Tryz.func92,Tryz.ntmps92
 go_wp2
 exact bodyPost_ret (v:=.agg #[.int .i64 (n+1),.slice WA wn wc]) (by simp [results,Tryz.results92,go_sem]) rfl ⟨rfl,((Below.refl _ _).alloc (Nat.le_refl _) _).alloc (by simp) _⟩
theorem r3turns_any (n:Int) (WA:Option Addr) (wn wc:Nat) (TA:Option Addr) (tn tc:Nat) (w:World):
 Calls Tryz.prog 93 #[.agg #[.int .i64 n,.slice WA wn wc,.slice TA tn tc]] w fun e w'=>e = .returned (.agg #[.int .i64 n,.slice TA tn tc])∧Below w.heap.size w w':=by
 go_enter Tryz.func93,Tryz.ntmps93
 go_wp2
 exact bodyPost_ret (v:=.agg #[.int .i64 n,.slice TA tn tc]) (by simp [results,Tryz.results93,go_sem]) rfl ⟨rfl,((Below.refl _ _).alloc (Nat.le_refl _) _).alloc (by simp) _⟩
theorem r3CheckOutline_any (A:Outl) (AwA:Option Addr) (Awn Awc:Nat) (AtA:Option Addr) (Atn Atc:Nat) (w:World) (Aw:Rd encBound 4 w AwA Awn Awc A.ways) (At:Rd encBound 4 w AtA Atn Atc A.turns):
 Calls Tryz.prog 36 #[.agg #[.int .i64 A.n,.slice AwA Awn Awc,.slice AtA Atn Atc]] w fun e w'=>e = .returned (.int .i64 (checkOut A))∧Below w.heap.size w w':=by
 by_cases g1:A.n<3
 · have hv:checkOut A=1:=if_pos (.inl g1)
   rw [hv]
   clear hv Aw At
   go_enter Tryz.func36,Tryz.ntmps36
   go_wp2
   go_ret
   exact ⟨rfl,(Below.refl _ _).alloc (Nat.le_refl _) _⟩
 by_cases g2:16<A.n
 · have hv:checkOut A=1:=if_pos (.inr g2)
   rw [hv]
   clear hv Aw At
   go_enter Tryz.func36,Tryz.ntmps36
   go_wp2
   go_ret
   exact ⟨rfl,(Below.refl _ _).alloc (Nat.le_refl _) _⟩
 have hv:checkOut A=if checkSys (A.n+1) A.ways≠0 then checkSys (A.n+1) A.ways else checkSys A.n A.turns:=by unfold checkOut;rw [if_neg (by omega)]
 rw [hv]
 obtain ⟨w1,hw1⟩:∃ w1,w.alloc (.cells #[.int .i64 A.n,.slice AwA Awn Awc,.slice AtA Atn Atc] 24)=w1:=⟨_,rfl⟩
 have hb1:Below w.heap.size w w1:=(by rw [←hw1];exact (Below.refl _ w).alloc (Nat.le_refl _) _)
 have KC:Hid (∀ W,Below w1.heap.size w1 W→W.cell? ⟨w.heap.size,0,none⟩=some (.int .i64 A.n)∧W.cell? ⟨w.heap.size,1,none⟩=some (.slice AwA Awn Awc)∧W.cell? ⟨w.heap.size,2,none⟩=some (.slice AtA Atn Atc)):=(show ∀ W,_→_ from by
  intro W hb
  rw [←hw1] at hb
  exact box3 hb)
 have KW:=Lib.hid (fun W (h:Below w1.heap.size w1 W)=>r1Check_any (A.n+1) AwA Awn Awc A.ways W ((Aw.below hb1 (Nat.le_refl _)).below h (Nat.le_refl _)))
 have KT:=Lib.hid (fun W (h:Below w1.heap.size w1 W)=>r1Check_any A.n AtA Atn Atc A.turns W ((At.below hb1 (Nat.le_refl _)).below h (Nat.le_refl _)))
 have KV:=Lib.hid (fun W=>r3ways_any A.n AwA Awn Awc AtA Atn Atc W (by omega) (by omega))
 obtain ⟨c0,c1,c2⟩:=KC.out w1 (Below.refl _ _)
 have HB1:=Lib.hid hb1
 have HW1:=Lib.hid hw1
 obtain ⟨s1,hs1⟩:∃ s1,checkSys (A.n+1) A.ways=s1:=⟨_,rfl⟩
 obtain ⟨s2,hs2⟩:∃ s2,checkSys A.n A.turns=s2:=⟨_,rfl⟩
 rw [hs1] at KW ⊢
 rw [hs2] at KT ⊢
 clear hv Aw At hs1 hs2 hb1 hw1
 by_cases h1:s1=0
 · subst h1
   rw [if_neg (fun h=>h rfl)]
   go_enter Tryz.func36,Tryz.ntmps36
   go_wp2_with (first
    | rw [HW1.out]
    | (go_at_call 92;(with_reducible refine (KV.out _).mono ?_);rintro e w2 ⟨rfl,hb2⟩;have HB2:=Lib.hid hb2;clear hb2)
    | (go_at_call 91;(with_reducible refine (KW.out _ HB2.out).mono ?_);rintro e w3 ⟨rfl,hb3⟩
       have HB3:=Lib.hid (HB2.out.trans (hb3.mono HB2.out.size))
       obtain ⟨d0,d1,d2⟩:=KC.out w3 HB3.out
       clear hb3)
    | (go_at_call 93;(with_reducible refine (r3turns_any _ _ _ _ _ _ _ _).mono ?_);rintro e w4 ⟨rfl,hb4⟩;have HB4:=Lib.hid (HB3.out.trans (hb4.mono HB3.out.size));clear hb4)
    | (go_at_call 91;(with_reducible refine (KT.out _ HB4.out).mono ?_);rintro e w5 ⟨rfl,hb5⟩;have HB5:=Lib.hid (HB4.out.trans (hb5.mono HB4.out.size));clear hb5))
   go_ret
   exact ⟨rfl,HB1.out.trans (HB5.out.mono HB1.out.size)⟩
 · have h1':(s1==0)=false:=by simpa using h1
   rw [if_pos h1]
   clear h1
   go_enter Tryz.func36,Tryz.ntmps36
   go_wp2_with (first
    | rw [HW1.out]
    | (go_at_call 92;(with_reducible refine (KV.out _).mono ?_);rintro e w2 ⟨rfl,hb2⟩;have HB2:=Lib.hid hb2;clear hb2)
    | (go_at_call 91;(with_reducible refine (KW.out _ HB2.out).mono ?_);rintro e w3 ⟨rfl,hb3⟩;have HB3:=Lib.hid (HB2.out.trans (hb3.mono HB2.out.size));clear hb3))
   go_ret
   exact ⟨rfl,HB1.out.trans (HB3.out.mono HB1.out.size)⟩
end Go.Proofs.YtccabpahfmoamaaGreat
end

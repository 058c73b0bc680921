/- Contracts that the laws lean on: RSbR, RSub, RStR, RSet, RChR, RSmR, RChp, CheL. -/
import Derived.Test.YtelnkflmnbhclaaGreatPfH12
import Derived.Test.YtelnkflmnbhclaaGreatPfH10
import Derived.Test.YtelnkflmnbhclaaGreatPfK24
set_option maxHeartbeats 2000000
section
namespace Go.Proofs.YtelnkflmnbhclaaGreat
open Go.RowKit Go.Proofs Go.Shelf
theorem rcost_any (A:Option Addr) (n c:Nat) (ads:List Admit) (S:Option Addr) (sn sc:Nat) (set:List Place) (w:World) (hl:Rd encAdmit 4 w A n c ads) (hs:Rd encPlace 2 w S sn sc set) (hn:n≤8) (hc:∀ x∈ads,0≤x.cost∧x.cost≤1000):
 Calls Tryz.prog 91 #[.slice A n c,.slice S sn sc] w fun e w'=>e = .returned (.int .i64 (costR ads set))∧Below w.heap.size w w':=by
 have HNL:=Lib.hid hl.len;have HL:=Lib.hid hl;have HH:=Lib.hid (fun W p (h:Below w.heap.size w W)=>rHas_any S sn sc set p W (hs.below h (Nat.le_refl _)));have HC:=Lib.hid hc;clear hl hs hc;go_enter Tryz.func91,Tryz.ntmps91;go_wp2;go_loopw [5,6] (fun s5 s6 wr=> ∃ (i:Nat) (z:Int),i≤n∧s5 = .int .i64 z∧s6 = .int .i64 i∧Hid (Below w.heap.size w wr)∧Hid ((ads.take i).foldl (costStepR set) 0=z)∧0≤z∧z≤1000 * i) (fun _ s6 _=>n-(intOf s6).toNat)
 case atStart=>exact ⟨0,0,Nat.zero_le _,rfl,rfl,(show Below _ _ _ from Below.refl _ _),(show _=_ from rfl),by omega,by omega⟩
 case round=>
  obtain ⟨i,z,hi,rfl,rfl,hb,hz,hz0,hz1⟩:=hrel;rename World=>wo;have hzr:=hb.out.size;by_cases hlt:i<n
  · obtain ⟨b,off,x,rfl,hbw,hx,hcell⟩:=(HL.out.below hb.out (Nat.le_refl _)).one hlt
    have c0:wo.cell? ⟨b,off+i * 4,none⟩=some (.int .i64 x.place.pit):=hcell 0 _ rfl;have c1:wo.cell? ⟨b,off+i * 4+1,none⟩=some (.int .i64 x.place.layer):=hcell 1 _ rfl;have c2:wo.cell? ⟨b,off+i * 4+2,none⟩=some (.int .i64 x.cost):=hcell 2 _ rfl;have c3:wo.cell? ⟨b,off+i * 4+3,none⟩=some (.int .i64 x.by_):=hcell 3 _ rfl;have hcx:=HC.out x (List.mem_of_getElem? hx)
    have HST:Hid ((ads.take (i+1)).foldl (costStepR set) 0=costStepR set z x):=(show _=_ by rw [List.take_add_one,hx,Option.toList_some,List.foldl_append,hz.out];rfl)
    have C4:Hid (∀ W,Below wo.heap.size wo W→W.cell? ⟨b,off+i * 4+2,none⟩=some (.int .i64 x.cost)):=(show ∀ W,Below wo.heap.size wo W→_ from fun W h=>(h.cell (p:=⟨b,_,none⟩) hbw).trans c2)
    clear hcell hx c2 c3
    cases hh:hasPl set x.place with
    | true=>
      have HHH:=Lib.hid hh;clear hh
      go_wp2_with (go_at_call 65;(with_reducible refine (HH.out _ x.place hb.out).mono ?_);rintro e w2 ⟨rfl,hb2⟩;rw [HHH.out]
                   have HB2:=Lib.hid (hb.out.trans (hb2.mono hzr));have c2:=C4.out w2 hb2
                   have hbw2:b<w2.heap.size:=(by have:=hb2.size;omega)
                   clear hb2)
      go_roundw
      all_goals first
       | (simp [intOf];omega)
       | exact ⟨i+1,z+x.cost,by omega,by go_num,by go_num,HB2.out,(show _=_ by rw [HST.out];unfold costStepR;rw [if_pos HHH.out]),by omega,by omega⟩
    | false=>
      have HHH:=Lib.hid hh;clear hh
      go_wp2_with (go_at_call 65;(with_reducible refine (HH.out _ x.place hb.out).mono ?_);rintro e w2 ⟨rfl,hb2⟩;rw [HHH.out]
                   have HB2:=Lib.hid (hb.out.trans (hb2.mono hzr))
                   clear hb2)
      go_roundw
      all_goals first
       | (simp [intOf];omega)
       | exact ⟨i+1,z,by omega,rfl,by go_num,HB2.out,(show _=_ by rw [HST.out];unfold costStepR;rw [if_neg (by rw [HHH.out];decide)]),hz0,by omega⟩
  · have hin:i=n:=by omega
    subst hin
    have hv:costR ads set=z:=by
     have h1:=hz.out;rw [List.take_of_length_le (by rw [HNL.out];exact Nat.le_refl _)] at h1;exact h1
    have HV:=Lib.hid hv;clear hv;go_wp2;go_ret;exact ⟨by rw [HV.out];rfl,hb.out⟩
def ChpI (ts:List Trace) (ads:List Admit) (z:Value) (w:World):List Value→World→Prop
 | [],W=>Below w.heap.size w W
 | [v],W=>Below w.heap.size w W∧∃ A n c,v = .slice A n c∧Rd encTrace 10 W A n c ts
 | [_,u],W=>Below w.heap.size w W∧∃ A c,u = .slice A ads.length c∧Rd encAdmit 4 W A ads.length c ads
 | [_,_,y],W=>Below w.heap.size w W∧y=z
 | _,_=>False
theorem ChpI.b {ts:List Trace} {ads:List Admit} {z:Value} {w W:World} {cv:List Value} (h:ChpI ts ads z w cv W):Below w.heap.size w W:=by
 match cv,h with
 | [],h=>exact h
 | [_],h=>exact h.1
 | [_,_],h=>exact h.1
 | [_,_,_],h=>exact h.1
theorem ChpI.three {ts:List Trace} {ads:List Admit} {z:Value} {w W:World} {cv:List Value} (hl:3≤cv.length) (h:ChpI ts ads z w cv W):∃ v u,cv = [v,u,z]:=by
 match cv,hl,h with
 | [v,u,y],_,⟨_,e⟩=>exact ⟨v,u,by rw [e]⟩
 | [],hl,_=>simp at hl
 | [_],hl,_=>simp at hl
 | [_,_],hl,_=>simp at hl
def SetsRd (w:World) (A:Option Addr) (n c:Nat) (sets:List (List Place)):Prop:=
 ∃ hs:List Hdr,Rd encHdr 1 w A n c hs∧sets.length=n∧∀ (i:Nat) (h:Hdr) (s:List Place),hs[i]? = some h→sets[i]? = some s→Rd encPlace 2 w h.A h.n h.c s
theorem SetsRd.below {w W:World} {A:Option Addr} {n c:Nat} {sets:List (List Place)} (h:SetsRd w A n c sets) (hb:Below w.heap.size w W):SetsRd W A n c sets:=by
 obtain ⟨hs,o1,o2,o3⟩:=h;exact ⟨hs,o1.below hb (Nat.le_refl _),o2,fun i x s h1 h2=>(o3 i x s h1 h2).below hb (Nat.le_refl _)⟩
end Go.Proofs.YtelnkflmnbhclaaGreat
end

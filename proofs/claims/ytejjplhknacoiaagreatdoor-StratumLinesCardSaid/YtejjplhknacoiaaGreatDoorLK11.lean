/- Contracts that the laws lean on: Gw2, Long1, Long7, Set2. -/
import Derived.Test.YtejjplhknacoiaaGreatDoorLK10
set_option maxRecDepth 100000
set_option maxHeartbeats 4000000
section
namespace Go.Proofs.YtejjplhknacoiaaGreatDoor
open Go.RowKit Go.Proofs Go.Shelf
def fillTo (n:Nat):List Int:=List.replicate n noneV++List.replicate (60-n) 0
theorem fillTo_len {n:Nat} (h:n≤60):(fillTo n).length=60:=by simp [fillTo];omega
theorem fillTo_succ {n:Nat} (h:n<60):(fillTo n).set n noneV=fillTo (n+1):=by
 unfold fillTo
 apply List.ext_getElem?
 intro i
 rw [List.getElem?_set]
 simp only [List.getElem?_append,List.getElem?_replicate,List.length_replicate,List.length_append]
 by_cases h1:n=i
 · subst h1
   simp;omega
 · rw [if_neg h1]
   by_cases h2:i<n
   · rw [if_pos h2,if_pos (by omega:i<n+1),if_pos h2,if_pos (by omega:i<n+1)]
   · rw [if_neg h2,if_neg (by omega:¬i<n+1)]
     by_cases h3:i<60
     · rw [if_pos (by omega),if_pos (by omega)]
     · rw [if_neg (by omega),if_neg (by omega)]
theorem fillTo_zero:fillTo 0=zeroRow:=rfl
theorem fillTo_all:fillTo 60=emptyRow:=rfl
theorem empty_any (w:World):Calls Tryz.prog 63 #[] w fun e w'=>e = .returned (.agg (rowA emptyRow))∧Below w.heap.size w w':=by
 go_enter Tryz.func63,Tryz.ntmps63
 go_wp2_with (refine wpL_alloc (t:=128) rfl rfl zero207 ?_)
 go_loopw [3] (fun i wr=> ∃ k:Nat,k≤60∧i = .int .i64 k∧w.heap.size+1<wr.heap.size∧Below w.heap.size w wr∧Hid (rowAt? wr w.heap.size 60=some (rowA zeroRow))∧Hid (rowAt? wr (w.heap.size+1) 60=some (rowA (fillTo k)))) (fun i _=>60-(intOf i).toNat)
 case atStart=>exact ⟨0,by omega,rfl,by simp,(by ((repeat' (first|(with_reducible assumption)|(with_reducible exact Below.refl _ _)|(with_reducible refine Below.drew ?_)|(with_reducible refine below_drewN' ?_ _)|(with_reducible refine Below.alloc ?_ ?_ _)|(with_reducible refine Below.setCell ?_ ?_ _)|(with_reducible refine below_step (by assumption) ?_ ?_)))<;>first|(simp;done)|(simp;omega)|omega)),(show _=_ by rw [rowAt?_alloc_past _ (by simp),rowAt?_alloc_at _ _ rfl];simp [zeroRow]),(show _=_ by rw [rowAt?_alloc_at _ _ (by simp),fillTo_zero];simp [zeroRow])⟩
 case round=>
  obtain ⟨k,hk,rfl,hz,hb,h1,h2⟩:=hrel
  have hl:=fillTo_len hk
  by_cases hlt:k<60
  · have hc:=rowAt?_int h2.out (i:=k) (by omega)
    have hf:=rowAt?_free h2.out k
    have HL:=Lib.hid hl
    clear hl
    go_wp2
    go_roundw
    case rel=>
     refine ⟨k+1,by omega,by go_num,by simpa using hz,(by ((repeat' (first|(with_reducible assumption)|(with_reducible exact Below.refl _ _)|(with_reducible refine Below.drew ?_)|(with_reducible refine below_drewN' ?_ _)|(with_reducible refine Below.alloc ?_ ?_ _)|(with_reducible refine Below.setCell ?_ ?_ _)|(with_reducible refine below_step (by assumption) ?_ ?_)))<;>first|(simp;done)|(simp;omega)|omega)),(show _=_ by rw [rowAt?_setCell_other _ _ (by simp)];exact h1.out),(show _=_ by rw [rowAt?_setCell_same,h2.out,←fillTo_succ hlt,←rowA_set];rfl)⟩
    case measure=>simp [intOf];omega
  · have hkn:k=60:=by omega
    subst hkn
    have hzz:w.heap.size<wr.heap.size:=by omega
    clear hl
    go_wp2_with (first|(refine wpL_load row207 rfl rfl rfl h2.out ?_)|(refine wpL_store row207 rfl rfl rfl rfl (by rw [h1.out];rfl) (by simp [fillTo]) ?_))
    refine bodyPost_ret (v:=.agg (rowA emptyRow)) ?_ rfl ⟨rfl,?_⟩
    · obtain ⟨t,hh,_⟩:=rowAt?_heap (w:=wr.setRow w.heap.size (rowA (fillTo 60))) (g:=w.heap.size) (n:=60) (cs:=rowA emptyRow) (by rw [rowAt?_setRow_same _ (by rw [h1.out];rfl) (by simp [fillTo]),fillTo_all])
      exact results_cell_row rfl _ _ w.heap.size t (rowA emptyRow) (0,0) _ rfl hh row207.arr rfl (by rw [rowA_size,emptyRow_len];exact row207.size)
    · exact below_setRow hb (Nat.le_refl _) _
end Go.Proofs.YtejjplhknacoiaaGreatDoor
end
section
namespace Go.Proofs.YtejjplhknacoiaaGreatDoor
open Go.RowKit Go.Proofs
def code164_1:Option Code→Code
 | some (.seq _ (.seq c _))=>c
 | _=> .skip
def factM (w0:World) (ba off g ns cs:Nat) (now:Row):Nat→Value→World→Prop
 | 0,v,_=>v = .pointer (some ⟨ba,off,none⟩)
 | 1,v,_=>v = .pointer (some ⟨ba,off,none⟩)
 | 2,v,_=>v = .pointer (some ⟨ba,off,none⟩)
 | 3,v,_=>v = .slice (some ⟨g,0,none⟩) ns cs
 | 4,v,_=>v = .pointer (some ⟨ba,off,none⟩)
 | 5,v,_=>v = .pointer (some ⟨ba,off,none⟩)
 | 6,v,_=>v = .pointer (some ⟨ba,off,none⟩)
 | 7,v,_=>v = .slice (some ⟨g,0,none⟩) ns cs
 | 8,v,_=>v = .int .i64 ns
 | 9,v,_=>v = .int .i64 (ns-1)
 | 10,v,_=>v = .pointer (some ⟨g,(ns-1) * 60,none⟩)
 | 11,v,_=>v = .agg (rowA now)
 | 12,v,_=>v = .agg (rowA emptyRow)
 | 13,v,W=> ∃ k,v = .pointer (some ⟨k,0,none⟩)∧w0.heap.size≤k∧∃ r:Row,r.length=60∧rowAt? W k 60=some (rowA r)
 | 14,v,W=> ∃ k,v = .pointer (some ⟨k,0,none⟩)∧w0.heap.size≤k∧∃ r:Row,r.length=60∧rowAt? W k 60=some (rowA r)
 | 15,v,W=> ∃ k,v = .pointer (some ⟨k,0,none⟩)∧w0.heap.size≤k∧rowAt? W k 60=some (rowA now)
 | 16,v,W=> ∃ k,v = .pointer (some ⟨k,0,none⟩)∧w0.heap.size≤k∧rowAt? W k 60=some (rowA emptyRow)
 | _,_,_=>True
def exX (V:Nat→Value) (L:Nat→Bool):Prop:=(L 15=true→V 15=V 13)∧(L 16=true→V 16=V 14)∧(L 13=true→L 14=true→V 13≠V 14)
theorem exX.pure {V:Nat→Value} {listed:Array Bool} {i:Nat} {v:Value} (h:exX V (fun j=>listed.getD j false)) (h13:i≠13) (h14:i≠14) (h15:i≠15) (h16:i≠16):exX (nextV V i v) (nextL listed i):=by
 obtain ⟨a,b,c⟩:=h
 unfold exX
 rw [nextL_ne (Ne.symm h13),nextL_ne (Ne.symm h14),nextL_ne (Ne.symm h15),nextL_ne (Ne.symm h16),nextV_ne (Ne.symm h13),nextV_ne (Ne.symm h14),nextV_ne (Ne.symm h15),nextV_ne (Ne.symm h16)]
 exact ⟨a,b,c⟩
def preM (_:World) (ba off g ns cs:Nat) (now:Row):Nat→World→Prop
 | 3,W=>W.cell? ⟨ba,off,none⟩=some (.slice (some ⟨g,0,none⟩) ns cs)
 | 7,W=>W.cell? ⟨ba,off,none⟩=some (.slice (some ⟨g,0,none⟩) ns cs)
 | 11,W=>W.rangeAt g ((ns-1) * 60) (encRow now)
 | _,_=>True
section
variable {w0 W W':World} {ba off g ns cs:Nat} {now:Row}
theorem range_grown {b o:Nat} {l:List Value} (h:W.rangeAt b o l) {row:Option Nat} (hg:W.grownBy W' row) (hr:row≠some b):W'.rangeAt b o l:=fun j v hv=>cell_grown (h j v hv) hg hr
theorem factM.keep {row:Option Nat} {j:Nat} {v:Value} (h:factM w0 ba off g ns cs now j v W) (hg:W.grownBy W' row) (h13:∀ k,j=13→v = .pointer (some ⟨k,0,none⟩)→row≠some k) (h14:∀ k,j=14→v = .pointer (some ⟨k,0,none⟩)→row≠some k) (h15:∀ k,j=15→v = .pointer (some ⟨k,0,none⟩)→row≠some k) (h16:∀ k,j=16→v = .pointer (some ⟨k,0,none⟩)→row≠some k):
 factM w0 ba off g ns cs now j v W':=by
 unfold factM at h ⊢
 split at h
 all_goals first
  | exact h
  | (obtain ⟨k,a1,a2,r,a3,a4⟩:=h;exact ⟨k,a1,a2,r,a3,rowAt?_grown a4 hg (h13 k rfl a1)⟩)
  | (obtain ⟨k,a1,a2,r,a3,a4⟩:=h;exact ⟨k,a1,a2,r,a3,rowAt?_grown a4 hg (h14 k rfl a1)⟩)
  | (obtain ⟨k,a1,a2,a3⟩:=h;exact ⟨k,a1,a2,rowAt?_grown a3 hg (h15 k rfl a1)⟩)
  | (obtain ⟨k,a1,a2,a3⟩:=h;exact ⟨k,a1,a2,rowAt?_grown a3 hg (h16 k rfl a1)⟩)
theorem factM.none {j:Nat} {v:Value} (h:factM w0 ba off g ns cs now j v W) (hg:W.grownBy W' Option.none):factM w0 ba off g ns cs now j v W':=
 h.keep hg (fun _ _ _ e=>by cases e) (fun _ _ _ e=>by cases e) (fun _ _ _ e=>by cases e) (fun _ _ _ e=>by cases e)
theorem preM.keep {row:Option Nat} {j:Nat} (h:preM w0 ba off g ns cs now j W) (hg:W.grownBy W' row) (h1:row≠some ba) (h2:row≠some g):preM w0 ba off g ns cs now j W':=by
 unfold preM at h ⊢
 split at h
 all_goals first
  | exact h
  | exact cell_grown h hg h1
  | exact range_grown h hg h2
theorem below_grownNone {W W':World} (h:Below W.heap.size W W'):W.grownBy W' Option.none:=⟨h.os,h.tape,h.output,h.size,fun k hk _=>h.block k hk⟩
theorem rowAt?_setRow_grown (W:World) (g:Nat) (c:Array Value):W.grownBy (W.setRow g c) (some g):=⟨rfl,rfl,rfl,by rw [size_setRow'];exact Nat.le_refl _,fun k _ hne=>setRow_other W g k c (fun e=>hne (by rw [e]))⟩
end
theorem longer1 (c:Code) (hc:c=code164_1 Tryz.f64.body) (ba off g ns cs:Nat) (now:Row) (a:Act) (w:World) (Q:Exit→Act→World→Prop)
 (hT:a.tmps.size=84) (t0:a.tmps.getD 0 undef = .pointer (some ⟨ba,off,none⟩))
 (hc0:w.cell? ⟨ba,off,none⟩=some (.slice (some ⟨g,0,none⟩) ns cs)) (hr:w.rangeAt g ((ns-1) * 60) (encRow now)) (hnow:now.length=60) (hns:1≤ns) (hns2:ns≤1000) (hba:ba<w.heap.size) (hgl:g<w.heap.size)
 (hQ:∀ W k4 k5,Below w.heap.size w W→w.heap.size≤k4→w.heap.size≤k5→k4≠k5→rowAt? W k4 60=some (rowA now)→rowAt? W k5 60=some (rowA emptyRow)→
   Q .normal { tmps:=(((((((((((((((a.tmps.setIfInBounds 9 (.pointer (some ⟨ba,off,none⟩))).setIfInBounds 10 (.pointer (some ⟨ba,off,none⟩))).setIfInBounds 11 (.pointer (some ⟨ba,off,none⟩))).setIfInBounds 12 (.slice (some ⟨g,0,none⟩) ns cs)).setIfInBounds 13 (.pointer (some ⟨ba,off,none⟩))).setIfInBounds 14 (.pointer (some ⟨ba,off,none⟩))).setIfInBounds 15 (.pointer (some ⟨ba,off,none⟩))).setIfInBounds 16 (.slice (some ⟨g,0,none⟩) ns cs)).setIfInBounds 17 (.int .i64 ns)).setIfInBounds 18 (.int .i64 (ns-1))).setIfInBounds 19 (.pointer (some ⟨g,(ns-1) * 60,none⟩))).setIfInBounds 20 (.agg (rowA now))).setIfInBounds 21 (.agg (rowA emptyRow))).setIfInBounds 4 (.pointer (some ⟨k4,0,none⟩))).setIfInBounds 5 (.pointer (some ⟨k5,0,none⟩))),defers:=a.defers } W):
 c.wp Tryz.prog Q a w:=by
 subst hc
 unfold code164_1 Tryz.f64
 dsimp only
 have HW1:=Lib.hid (show ((ns:Int)-1)=((ns-1:Nat):Int) by omega)
 refine wpIn_wide.1 (wpIn_region_factsX (nn:=5) 84 (by kernel_rfl) (by kernel_rfl) hT.symm (factM w ba off g ns cs now) (preM w ba off g ns cs now) (fun W=>Below w.heap.size w W) exX (Below.refl _ w).drew ?_ (fun V=>⟨fun h=>(by cases h),fun h=>(by cases h),fun h=>(by cases h)⟩) ?_ ?_)
 · intro j hj
   unfold preM
   split
   · exact hc0
   · exact hc0
   · exact hr
   · trivial
 · intro V listed i o b W hi ho h
   obtain ⟨hun,oi,hoi,hall⟩:=mem_ready.1 hi
   have:oi=o:=Option.some.inj (hoi.symm.trans ho)
   subst this
   clear hoi hi
   have hlt:i<17:=(by have:=(Array.getElem?_eq_some_iff.1 ho).1;simpa using this)
   have hun':listed.getD i false=false:=getD_both hun
   have hpre:=h.pre i (by simpa using hlt) hun'
   rcases (by omega:i=0∨i=1∨i=2∨i=3∨i=4∨i=5∨i=6∨i=7∨i=8∨i=9∨i=10∨i=11∨i=12∨i=13∨i=14∨i=15∨i=16) with rfl|rfl|rfl|rfl|rfl|rfl|rfl|rfl|rfl|rfl|rfl|rfl|rfl|rfl|rfl|rfl|rfl
   all_goals simp only [List.getElem?_toArray,List.getElem?_cons_zero,List.getElem?_cons_succ] at ho
   all_goals cases ho
   ·
    have q0:=(h.tab.old 0 (dst_no h.tab (by kernel_rfl))).trans t0
    have q0':b.tmps[0]?.getD undef=_:=(by simpa using q0)
    refine wide_val (v:=.pointer (some ⟨ba,off,none⟩)) (by go_simp;try rfl) (FactsGoX.same h.glob rfl (h.x.pure (by decide) (by decide) (by decide) (by decide)))
   ·
    have l0:=hall ⟨0,.data⟩ (by simp) rfl
    have e0:b.tmps.getD 9 undef = .pointer (some ⟨ba,off,none⟩):=(h.tab.val 0 9 rfl l0).trans (h.fact 0 l0)
    have e0':b.tmps[9]?.getD undef = .pointer (some ⟨ba,off,none⟩):=(by simpa using e0)
    refine wide_val (v:=.pointer (some ⟨ba,off,none⟩)) (by go_simp;try rfl) (FactsGoX.same h.glob rfl (h.x.pure (by decide) (by decide) (by decide) (by decide)))
   ·
    have l1:=hall ⟨1,.data⟩ (by simp) rfl
    have e1:b.tmps.getD 10 undef = .pointer (some ⟨ba,off,none⟩):=(h.tab.val 1 10 rfl l1).trans (h.fact 1 l1)
    have e1':b.tmps[10]?.getD undef = .pointer (some ⟨ba,off,none⟩):=(by simpa using e1)
    refine wide_val (v:=.pointer (some ⟨ba,off,none⟩)) (by go_simp;try rfl) (FactsGoX.same h.glob rfl (h.x.pure (by decide) (by decide) (by decide) (by decide)))
   ·
    have l2:=hall ⟨2,.data⟩ (by simp) rfl
    have e2:b.tmps.getD 11 undef = .pointer (some ⟨ba,off,none⟩):=(h.tab.val 2 11 rfl l2).trans (h.fact 2 l2)
    have e2':b.tmps[11]?.getD undef = .pointer (some ⟨ba,off,none⟩):=(by simpa using e2)
    have p0:W.cell? ⟨ba,off,none⟩=some (.slice (some ⟨g,0,none⟩) ns cs):=hpre
    refine wide_val (v:=.slice (some ⟨g,0,none⟩) ns cs) (by go_simp;try rfl) (FactsGoX.same h.glob rfl (h.x.pure (by decide) (by decide) (by decide) (by decide)))
   ·
    have q0:=(h.tab.old 0 (dst_no h.tab (by kernel_rfl))).trans t0
    have q0':b.tmps[0]?.getD undef=_:=(by simpa using q0)
    refine wide_val (v:=.pointer (some ⟨ba,off,none⟩)) (by go_simp;try rfl) (FactsGoX.same h.glob rfl (h.x.pure (by decide) (by decide) (by decide) (by decide)))
   ·
    have l4:=hall ⟨4,.data⟩ (by simp) rfl
    have e4:b.tmps.getD 13 undef = .pointer (some ⟨ba,off,none⟩):=(h.tab.val 4 13 rfl l4).trans (h.fact 4 l4)
    have e4':b.tmps[13]?.getD undef = .pointer (some ⟨ba,off,none⟩):=(by simpa using e4)
    refine wide_val (v:=.pointer (some ⟨ba,off,none⟩)) (by go_simp;try rfl) (FactsGoX.same h.glob rfl (h.x.pure (by decide) (by decide) (by decide) (by decide)))
   ·
    have l5:=hall ⟨5,.data⟩ (by simp) rfl
    have e5:b.tmps.getD 14 undef = .pointer (some ⟨ba,off,none⟩):=(h.tab.val 5 14 rfl l5).trans (h.fact 5 l5)
    have e5':b.tmps[14]?.getD undef = .pointer (some ⟨ba,off,none⟩):=(by simpa using e5)
    refine wide_val (v:=.pointer (some ⟨ba,off,none⟩)) (by go_simp;try rfl) (FactsGoX.same h.glob rfl (h.x.pure (by decide) (by decide) (by decide) (by decide)))
   ·
    have l6:=hall ⟨6,.data⟩ (by simp) rfl
    have e6:b.tmps.getD 15 undef = .pointer (some ⟨ba,off,none⟩):=(h.tab.val 6 15 rfl l6).trans (h.fact 6 l6)
    have e6':b.tmps[15]?.getD undef = .pointer (some ⟨ba,off,none⟩):=(by simpa using e6)
    have p0:W.cell? ⟨ba,off,none⟩=some (.slice (some ⟨g,0,none⟩) ns cs):=hpre
    refine wide_val (v:=.slice (some ⟨g,0,none⟩) ns cs) (by go_simp;try rfl) (FactsGoX.same h.glob rfl (h.x.pure (by decide) (by decide) (by decide) (by decide)))
   ·
    have l7:=hall ⟨7,.data⟩ (by simp) rfl
    have e7:b.tmps.getD 16 undef = .slice (some ⟨g,0,none⟩) ns cs:=(h.tab.val 7 16 rfl l7).trans (h.fact 7 l7)
    have e7':b.tmps[16]?.getD undef = .slice (some ⟨g,0,none⟩) ns cs:=(by simpa using e7)
    refine wide_val (v:=.int .i64 ns) (by go_simp;try rfl) (FactsGoX.same h.glob rfl (h.x.pure (by decide) (by decide) (by decide) (by decide)))
   ·
    have l8:=hall ⟨8,.data⟩ (by simp) rfl
    have e8:b.tmps.getD 17 undef = .int .i64 ns:=(h.tab.val 8 17 rfl l8).trans (h.fact 8 l8)
    have e8':b.tmps[17]?.getD undef = .int .i64 ns:=(by simpa using e8)
    have hw:IntKind.i64.wrap ((ns:Int)-1)=(ns:Int)-1:=(by rw [IntKind.wrap_i64];omega)
    refine wide_val (v:=.int .i64 (ns-1)) (by go_simp;try rfl) (FactsGoX.same h.glob rfl (h.x.pure (by decide) (by decide) (by decide) (by decide)))
   ·
    have l3:=hall ⟨3,.data⟩ (by simp) rfl
    have e3:b.tmps.getD 12 undef = .slice (some ⟨g,0,none⟩) ns cs:=(h.tab.val 3 12 rfl l3).trans (h.fact 3 l3)
    have e3':b.tmps[12]?.getD undef = .slice (some ⟨g,0,none⟩) ns cs:=(by simpa using e3)
    have l9:=hall ⟨9,.data⟩ (by simp) rfl
    have e9:b.tmps.getD 18 undef = .int .i64 (ns-1):=(h.tab.val 9 18 rfl l9).trans (h.fact 9 l9)
    have e9':b.tmps[18]?.getD undef = .int .i64 (ns-1):=(by simpa using e9)
    rw [HW1.out] at e9 e9'
    refine wide_val (v:=.pointer (some ⟨g,(ns-1) * 60,none⟩)) (by go_simp;intro hh;exfalso;omega) (FactsGoX.same h.glob rfl (h.x.pure (by decide) (by decide) (by decide) (by decide)))
   ·
    have l10:=hall ⟨10,.data⟩ (by simp) rfl
    have e10:b.tmps.getD 19 undef = .pointer (some ⟨g,(ns-1) * 60,none⟩):=(h.tab.val 10 19 rfl l10).trans (h.fact 10 l10)
    have e10':b.tmps[19]?.getD undef = .pointer (some ⟨g,(ns-1) * 60,none⟩):=(by simpa using e10)
    have p0:W.rangeAt g ((ns-1) * 60) (encRow now):=hpre
    have f0:b.eval (.tmp 19) = .pointer (some ⟨g,(ns-1) * 60,none⟩):=e10
    exact wide_val (v:=.agg (rowA now)) (by simp only [execOp,f0,Sem.run_bind,run_load207 hnow p0,Result.andThen_ok,Sem.run_pure]) (FactsGoX.same h.glob rfl (h.x.pure (by decide) (by decide) (by decide) (by decide)))
   ·
    refine wide_call (f:=63) (args:=#[]) (by go_simp) ((empty_any W).mono ?_)
    rintro e wl ⟨rfl,hbl⟩
    have hgr:=below_grownNone hbl
    exact ⟨_,rfl,_,rfl,rfl,fun j _ _ hf=>hf.none hgr,fun j _ _ _ hp=>hp.keep hgr (fun e=>by cases e) (fun e=>by cases e),h.glob.trans (hbl.mono h.glob.size),h.x.pure (by decide) (by decide) (by decide) (by decide)⟩
   ·
    have hgr:W.grownBy (W.alloc (.cells (rowA zeroRow) 128)) none:=World.grownBy_alloc _ _ _
    have n15:listed.getD 15 false=false:=not_listed (h.tab.closed 15 _ rfl) ⟨13,.data⟩ (by simp) rfl hun'
    have hx:=h.x
    refine wide_val (W':=W.alloc (.cells (rowA zeroRow) 128)) (v:=.pointer (some ⟨W.heap.size,0,none⟩)) (by simp only [execOp,Sem.run_bind,run_alloc_row zero207,Result.andThen_ok,Sem.run_pure]) ⟨_,rfl,⟨W.heap.size,rfl,h.glob.size,zeroRow,zeroRow_len,by rw [rowAt?_alloc_at _ _ rfl,if_pos (by rw [rowA_size,zeroRow_len])]⟩,fun j _ _ hf=>hf.none hgr,fun j _ _ _ hp=>hp.keep hgr (fun e=>by cases e) (fun e=>by cases e),h.glob.alloc h.glob.size _,?_⟩
    obtain ⟨x1,x2,x3⟩:=hx
    unfold exX
    rw [nextL_at,nextL_ne (show (14:Nat)≠13 by decide),nextL_ne (show (15:Nat)≠13 by decide),nextL_ne (show (16:Nat)≠13 by decide),nextV_at,nextV_ne (show (14:Nat)≠13 by decide),nextV_ne (show (15:Nat)≠13 by decide),nextV_ne (show (16:Nat)≠13 by decide)]
    refine ⟨fun h=>(by rw [n15] at h;cases h),x2,fun _ h14 e=> ?_⟩
    obtain ⟨k,a1,a2,r,a3,a4⟩:=h.fact 14 h14
    rw [a1] at e
    cases e
    exact absurd (rowAt?_lt a4) (Nat.lt_irrefl _)
   ·
    have hgr:W.grownBy (W.alloc (.cells (rowA zeroRow) 128)) none:=World.grownBy_alloc _ _ _
    have n16:listed.getD 16 false=false:=not_listed (h.tab.closed 16 _ rfl) ⟨14,.data⟩ (by simp) rfl hun'
    have hx:=h.x
    refine wide_val (W':=W.alloc (.cells (rowA zeroRow) 128)) (v:=.pointer (some ⟨W.heap.size,0,none⟩)) (by simp only [execOp,Sem.run_bind,run_alloc_row zero207,Result.andThen_ok,Sem.run_pure]) ⟨_,rfl,⟨W.heap.size,rfl,h.glob.size,zeroRow,zeroRow_len,by rw [rowAt?_alloc_at _ _ rfl,if_pos (by rw [rowA_size,zeroRow_len])]⟩,fun j _ _ hf=>hf.none hgr,fun j _ _ _ hp=>hp.keep hgr (fun e=>by cases e) (fun e=>by cases e),h.glob.alloc h.glob.size _,?_⟩
    obtain ⟨x1,x2,x3⟩:=hx
    unfold exX
    rw [nextL_at,nextL_ne (show (13:Nat)≠14 by decide),nextL_ne (show (15:Nat)≠14 by decide),nextL_ne (show (16:Nat)≠14 by decide),nextV_at,nextV_ne (show (13:Nat)≠14 by decide),nextV_ne (show (15:Nat)≠14 by decide),nextV_ne (show (16:Nat)≠14 by decide)]
    refine ⟨x1,fun h=>(by rw [n16] at h;cases h),fun h13 _ e=> ?_⟩
    obtain ⟨k,a1,a2,r,a3,a4⟩:=h.fact 13 h13
    rw [a1] at e
    cases e
    exact absurd (rowAt?_lt a4) (Nat.lt_irrefl _)
   ·
    have l13:=hall ⟨13,.data⟩ (by simp) rfl
    have l11:=hall ⟨11,.data⟩ (by simp) rfl
    have e11:b.tmps.getD 20 undef = .agg (rowA now):=(h.tab.val 11 20 rfl l11).trans (h.fact 11 l11)
    have e11':b.tmps[20]?.getD undef = .agg (rowA now):=(by simpa using e11)
    have hx:=h.x
    obtain ⟨k,a1,a2,r,a3,a4⟩:=h.fact 13 l13
    have f0:b.tmps.getD 4 undef = .pointer (some ⟨k,0,none⟩):=(h.tab.val 13 4 rfl l13).trans a1
    have f0e:b.eval (.tmp 4) = .pointer (some ⟨k,0,none⟩):=f0
    have f1e:b.eval (.tmp 20) = .agg (rowA now):=e11
    have hgr:=rowAt?_setRow_grown W k (rowA now)
    have y14:listed.getD 14 false=true:=hall ⟨14,.phase⟩ (by simp) rfl
    obtain ⟨x1,x2,x3⟩:=hx
    have x3':=x3 l13 y14
    have hgn:some k≠some g:=(fun e=>by cases e;omega)
    have hbn:some k≠some ba:=(fun e=>by cases e;omega)
    have hnr:rowAt? (W.setRow k (rowA now)) k 60=some (rowA now):=rowAt?_setRow_same _ (by rw [a4];rfl) (by rw [rowA_size,hnow])
    refine wide_skip (W':=W.setRow k (rowA now)) (by simp only [execOp,f0e,f1e,Sem.run_bind,run_storeAt_row row207,a4,hnow,Option.isSome_some,and_self,if_true,Result.andThen_ok,Sem.run_pure]) ⟨.pointer (some ⟨k,0,none⟩),rfl,⟨k,rfl,a2,hnr⟩,?_,fun j _ _ _ hp=>hp.keep hgr hbn hgn,h.glob.grown hgr (by have:=h.glob.size;omega) (fun q e=>by cases e;exact a2),?_⟩
    · intro j hj hl hf
      by_cases e13:j=13
      · subst e13;obtain ⟨k2,b1,_⟩:=id hf;rw [a1] at b1;cases b1;exact ⟨k,a1,a2,now,hnow,hnr⟩
      · refine hf.keep hgr (fun _ e _=>absurd e e13) (fun q e hq h2=> ?_) (fun _ e _=>absurd e hj) (fun q e hq h2=> ?_)
        · subst e;cases h2;exact x3' (a1.trans hq.symm)
        · subst e;cases h2;exact x3' (a1.trans (hq.symm.trans (x2 hl)))
    · exact ⟨fun _=>by rw [nextV_at,nextV_ne (by decide),a1],fun h=>by rw [nextV_ne (by decide),nextV_ne (by decide)];exact x2 h,fun h1 h2=>by rw [nextV_ne (by decide),nextV_ne (by decide)];exact x3'⟩
   ·
    have l14:=hall ⟨14,.data⟩ (by simp) rfl
    have l12:=hall ⟨12,.data⟩ (by simp) rfl
    have e12:b.tmps.getD 21 undef = .agg (rowA emptyRow):=(h.tab.val 12 21 rfl l12).trans (h.fact 12 l12)
    have e12':b.tmps[21]?.getD undef = .agg (rowA emptyRow):=(by simpa using e12)
    have hx:=h.x
    obtain ⟨k,a1,a2,r,a3,a4⟩:=h.fact 14 l14
    have f0:b.tmps.getD 5 undef = .pointer (some ⟨k,0,none⟩):=(h.tab.val 14 5 rfl l14).trans a1
    have f0e:b.eval (.tmp 5) = .pointer (some ⟨k,0,none⟩):=f0
    have f1e:b.eval (.tmp 21) = .agg (rowA emptyRow):=e12
    have hgr:=rowAt?_setRow_grown W k (rowA emptyRow)
    have y13:listed.getD 13 false=true:=hall ⟨13,.phase⟩ (by simp) rfl
    obtain ⟨x1,x2,x3⟩:=hx
    have x3':=x3 y13 l14
    have hgn:some k≠some g:=(fun e=>by cases e;omega)
    have hbn:some k≠some ba:=(fun e=>by cases e;omega)
    have hnr:rowAt? (W.setRow k (rowA emptyRow)) k 60=some (rowA emptyRow):=rowAt?_setRow_same _ (by rw [a4];rfl) (by rw [rowA_size,emptyRow_len])
    refine wide_skip (W':=W.setRow k (rowA emptyRow)) (by simp only [execOp,f0e,f1e,Sem.run_bind,run_storeAt_row row207,a4,emptyRow_len,Option.isSome_some,and_self,if_true,Result.andThen_ok,Sem.run_pure]) ⟨.pointer (some ⟨k,0,none⟩),rfl,⟨k,rfl,a2,hnr⟩,?_,fun j _ _ _ hp=>hp.keep hgr hbn hgn,h.glob.grown hgr (by have:=h.glob.size;omega) (fun q e=>by cases e;exact a2),?_⟩
    · intro j hj hl hf
      by_cases e14:j=14
      · subst e14;obtain ⟨k2,b1,_⟩:=id hf;rw [a1] at b1;cases b1;exact ⟨k,a1,a2,emptyRow,emptyRow_len,hnr⟩
      · refine hf.keep hgr (fun q e hq h2=> ?_) (fun _ e _=>absurd e e14) (fun q e hq h2=> ?_) (fun _ e _=>absurd e hj)
        · subst e;cases h2;exact x3' (hq.trans a1.symm)
        · subst e;cases h2;exact x3' ((x1 hl).symm.trans (hq.trans a1.symm))
    · exact ⟨fun h=>by rw [nextV_ne (by decide),nextV_ne (by decide)];exact x1 h,fun _=>by rw [nextV_at,nextV_ne (by decide),a1],fun h1 h2=>by rw [nextV_ne (by decide),nextV_ne (by decide)];exact x3'⟩
 · intro V W hf hg hx
   obtain ⟨k4,a1,a2,a3⟩:=hf 15 (by decide)
   obtain ⟨k5,b1,b2,b3⟩:=hf 16 (by decide)
   obtain ⟨x1,x2,x3⟩:=hx
   have c1:=(x1 rfl).symm.trans a1
   have c2:=(x2 rfl).symm.trans b1
   have c3:k4≠k5:=fun e=>x3 rfl rfl (by rw [c1,c2,e])
   have:=hQ W k4 k5 hg a2 b2 c3 a3 b3
   have hV:V 0 = .pointer (some ⟨ba,off,none⟩)∧V 1 = .pointer (some ⟨ba,off,none⟩)∧V 2 = .pointer (some ⟨ba,off,none⟩)∧V 3 = .slice (some ⟨g,0,none⟩) ns cs∧V 4 = .pointer (some ⟨ba,off,none⟩)∧V 5 = .pointer (some ⟨ba,off,none⟩)∧V 6 = .pointer (some ⟨ba,off,none⟩)∧V 7 = .slice (some ⟨g,0,none⟩) ns cs∧V 8 = .int .i64 ns∧V 9 = .int .i64 (ns-1)∧V 10 = .pointer (some ⟨g,(ns-1) * 60,none⟩)∧V 11 = .agg (rowA now)∧V 12 = .agg (rowA emptyRow):=⟨hf 0 (by decide),hf 1 (by decide),hf 2 (by decide),hf 3 (by decide),hf 4 (by decide),hf 5 (by decide),hf 6 (by decide),hf 7 (by decide),hf 8 (by decide),hf 9 (by decide),hf 10 (by decide),hf 11 (by decide),hf 12 (by decide)⟩
   obtain ⟨v0,v1,v2,v3,v4,v5,v6,v7,v8,v9,v10,v11,v12⟩:=hV
   simp only [List.size_toArray,List.length_cons,List.length_nil,Nat.reduceAdd,framed,dstOf,List.getElem?_toArray,List.getElem?_cons_zero,List.getElem?_cons_succ,Option.bind_some,v0,v1,v2,v3,v4,v5,v6,v7,v8,v9,v10,v11,v12,c1,c2]
   exact this
def code164_7:Option Code→Code
 | some (.seq _ (.seq _ (.seq _ (.seq (.seq _ (.block _ (.loop (.seq _ (.seq _ (.seq (.block _ (.seq _ (.seq _ (.cond _ c _)))) _)))))) _))))=>c
 | _=> .skip
def factS (bx k4 k5 k6 k:Nat) (x:Bound) (xs:Int) (L1 L2:Row):Nat→Value→World→Prop
 | 0,v,_=>v = .pointer (some ⟨bx,1,none⟩)
 | 1,v,_=>v = .int .i64 x.dst
 | 2,v,_=>v = .pointer (some ⟨bx,1,none⟩)
 | 3,v,_=>v = .int .i64 x.dst
 | 4,v,_=>v = .pointer (some ⟨bx,0,none⟩)
 | 5,v,_=>v = .int .i64 x.src
 | 6,v,_=>v = .pointer (some ⟨k4,x.src.toNat,none⟩)
 | 7,v,_=>v = .int .i64 xs
 | 8,v,_=>v = .pointer (some ⟨bx,2,none⟩)
 | 9,v,_=>v = .int .i64 x.most
 | 10,v,_=>v = .int .i64 (xs+x.most)
 | 11,v,_=>v = .int .i64 k
 | 12,v,_=>v = .pointer (some ⟨k5,x.dst.toNat,none⟩)
 | 14,v,_=>v = .pointer (some ⟨k6,x.dst.toNat,none⟩)
 | 13,_,W=>rowAt? W k5 60=some (rowA (rPut L1 x.dst (xs+x.most)))
 | 15,_,W=>rowAt? W k6 60=some (rowA (rPut L2 x.dst k))
 | _,_,_=>True
def preS (bx k4 k5 k6 _:Nat) (x:Bound) (xs:Int) (L1 L2:Row):Nat→World→Prop
 | 1,W=>W.cell? ⟨bx,1,none⟩=some (.int .i64 x.dst)
 | 3,W=>W.cell? ⟨bx,1,none⟩=some (.int .i64 x.dst)
 | 5,W=>W.cell? ⟨bx,0,none⟩=some (.int .i64 x.src)
 | 7,W=>W.cell? ⟨k4,x.src.toNat,none⟩=some (.int .i64 xs)
 | 9,W=>W.cell? ⟨bx,2,none⟩=some (.int .i64 x.most)
 | 13,W=>rowAt? W k5 60=some (rowA L1)
 | 15,W=>rowAt? W k6 60=some (rowA L2)
 | _,_=>True
theorem longer7 (c:Code) (hc:c=code164_7 Tryz.f64.body) (bx k4 k5 k6 k:Nat) (x:Bound) (xs:Int) (L1 L2:Row) (a:Act) (w:World) (Q:Exit→Act→World→Prop)
 (hT:a.tmps.size=84) (t8:a.tmps.getD 8 undef = .pointer (some ⟨bx,0,none⟩)) (t4:a.tmps.getD 4 undef = .pointer (some ⟨k4,0,none⟩)) (t5:a.tmps.getD 5 undef = .pointer (some ⟨k5,0,none⟩)) (t6:a.tmps.getD 6 undef = .pointer (some ⟨k6,0,none⟩)) (t7:a.tmps.getD 7 undef = .int .i64 k)
 (c0:w.cell? ⟨bx,0,none⟩=some (.int .i64 x.src)) (c1:w.cell? ⟨bx,1,none⟩=some (.int .i64 x.dst)) (c2:w.cell? ⟨bx,2,none⟩=some (.int .i64 x.most)) (c4:w.cell? ⟨k4,x.src.toNat,none⟩=some (.int .i64 xs))
 (r5:rowAt? w k5 60=some (rowA L1)) (r6:rowAt? w k6 60=some (rowA L2)) (o1:0≤x.src) (o2:x.src<60) (o3:0≤x.dst) (o4:x.dst<60) (hw:IntKind.i64.wrap (xs+x.most)=xs+x.most)
 (n1:k5≠bx) (n2:k6≠bx) (n3:k5≠k4) (n4:k6≠k4) (n5:k5≠k6)
 (hQ:∀ W,ChgT (fun q=>q=k5∨q=k6) w W→rowAt? W k5 60=some (rowA (rPut L1 x.dst (xs+x.most)))→rowAt? W k6 60=some (rowA (rPut L2 x.dst k))→
   Q .normal { tmps:=((((((((((((((a.tmps.setIfInBounds 49 (.pointer (some ⟨bx,1,none⟩))).setIfInBounds 50 (.int .i64 x.dst)).setIfInBounds 51 (.pointer (some ⟨bx,1,none⟩))).setIfInBounds 52 (.int .i64 x.dst)).setIfInBounds 53 (.pointer (some ⟨bx,0,none⟩))).setIfInBounds 54 (.int .i64 x.src)).setIfInBounds 55 (.pointer (some ⟨k4,x.src.toNat,none⟩))).setIfInBounds 56 (.int .i64 xs)).setIfInBounds 57 (.pointer (some ⟨bx,2,none⟩))).setIfInBounds 58 (.int .i64 x.most)).setIfInBounds 59 (.int .i64 (xs+x.most))).setIfInBounds 60 (.int .i64 k)).setIfInBounds 61 (.pointer (some ⟨k5,x.dst.toNat,none⟩))).setIfInBounds 62 (.pointer (some ⟨k6,x.dst.toNat,none⟩))),defers:=a.defers } W):
 c.wp Tryz.prog Q a w:=by
 subst hc
 unfold code164_7 Tryz.f64
 dsimp only
 have HW:=Lib.hid hw
 clear hw
 refine wpIn_wide.1 (wpIn_region_facts (nn:=5) 84 (by kernel_rfl) (by kernel_rfl) hT.symm (factS bx k4 k5 k6 k x xs L1 L2) (preS bx k4 k5 k6 k x xs L1 L2) (fun W=>ChgT (fun q=>q=k5∨q=k6) w W) (ChgT.refl _ w).drew ?_ ?_ ?_)
 · intro j hj
   unfold preS
   split
   all_goals first|exact c0|exact c1|exact c2|exact c4|exact r5|exact r6|trivial
 · intro V listed i o b W hi ho h
   clear c0 c1 c2 c4 r5 r6 hQ
   obtain ⟨hun,oi,hoi,hall⟩:=mem_ready.1 hi
   have:oi=o:=Option.some.inj (hoi.symm.trans ho)
   subst this
   clear hoi hi
   have hlt:i<16:=(by have:=(Array.getElem?_eq_some_iff.1 ho).1;simpa using this)
   have hun':listed.getD i false=false:=getD_both hun
   have hpre:=h.pre i (by simpa using hlt) hun'
   rcases (by omega:i=0∨i=1∨i=2∨i=3∨i=4∨i=5∨i=6∨i=7∨i=8∨i=9∨i=10∨i=11∨i=12∨i=13∨i=14∨i=15) with rfl|rfl|rfl|rfl|rfl|rfl|rfl|rfl|rfl|rfl|rfl|rfl|rfl|rfl|rfl|rfl
   all_goals simp only [List.getElem?_toArray,List.getElem?_cons_zero,List.getElem?_cons_succ] at ho
   all_goals cases ho
   ·
    have q8:=(h.tab.old 8 (dst_no h.tab (by kernel_rfl))).trans t8
    have q8':b.tmps[8]?.getD undef=_:=(by simpa using q8)
    refine wide_val (v:=.pointer (some ⟨bx,1,none⟩)) (by go_simp;try rfl) (FactsGo.same h.glob rfl)
   ·
    have l0:=hall ⟨0,.data⟩ (by simp) rfl
    have e0:b.tmps.getD 49 undef = .pointer (some ⟨bx,1,none⟩):=(h.tab.val 0 49 rfl l0).trans (h.fact 0 l0)
    have e0':b.tmps[49]?.getD undef = .pointer (some ⟨bx,1,none⟩):=(by simpa using e0)
    have p0:W.cell? ⟨bx,1,none⟩=some (.int .i64 x.dst):=hpre
    refine wide_val (v:=.int .i64 x.dst) (by go_simp;try rfl) (FactsGo.same h.glob rfl)
   ·
    have q8:=(h.tab.old 8 (dst_no h.tab (by kernel_rfl))).trans t8
    have q8':b.tmps[8]?.getD undef=_:=(by simpa using q8)
    refine wide_val (v:=.pointer (some ⟨bx,1,none⟩)) (by go_simp;try rfl) (FactsGo.same h.glob rfl)
   ·
    have l2:=hall ⟨2,.data⟩ (by simp) rfl
    have e2:b.tmps.getD 51 undef = .pointer (some ⟨bx,1,none⟩):=(h.tab.val 2 51 rfl l2).trans (h.fact 2 l2)
    have e2':b.tmps[51]?.getD undef = .pointer (some ⟨bx,1,none⟩):=(by simpa using e2)
    have p0:W.cell? ⟨bx,1,none⟩=some (.int .i64 x.dst):=hpre
    refine wide_val (v:=.int .i64 x.dst) (by go_simp;try rfl) (FactsGo.same h.glob rfl)
   ·
    have q8:=(h.tab.old 8 (dst_no h.tab (by kernel_rfl))).trans t8
    have q8':b.tmps[8]?.getD undef=_:=(by simpa using q8)
    refine wide_val (v:=.pointer (some ⟨bx,0,none⟩)) (by go_simp;try rfl) (FactsGo.same h.glob rfl)
   ·
    have l4:=hall ⟨4,.data⟩ (by simp) rfl
    have e4:b.tmps.getD 53 undef = .pointer (some ⟨bx,0,none⟩):=(h.tab.val 4 53 rfl l4).trans (h.fact 4 l4)
    have e4':b.tmps[53]?.getD undef = .pointer (some ⟨bx,0,none⟩):=(by simpa using e4)
    have p0:W.cell? ⟨bx,0,none⟩=some (.int .i64 x.src):=hpre
    refine wide_val (v:=.int .i64 x.src) (by go_simp;try rfl) (FactsGo.same h.glob rfl)
   ·
    have q4:=(h.tab.old 4 (dst_no h.tab (by kernel_rfl))).trans t4
    have q4':b.tmps[4]?.getD undef=_:=(by simpa using q4)
    have l5:=hall ⟨5,.data⟩ (by simp) rfl
    have e5:b.tmps.getD 54 undef = .int .i64 x.src:=(h.tab.val 5 54 rfl l5).trans (h.fact 5 l5)
    have e5':b.tmps[54]?.getD undef = .int .i64 x.src:=(by simpa using e5)
    refine wide_val (v:=.pointer (some ⟨k4,x.src.toNat,none⟩)) (by go_simp;try (rw [if_pos (by omega)])) (FactsGo.same h.glob rfl)
   ·
    have l6:=hall ⟨6,.data⟩ (by simp) rfl
    have e6:b.tmps.getD 55 undef = .pointer (some ⟨k4,x.src.toNat,none⟩):=(h.tab.val 6 55 rfl l6).trans (h.fact 6 l6)
    have e6':b.tmps[55]?.getD undef = .pointer (some ⟨k4,x.src.toNat,none⟩):=(by simpa using e6)
    have p0:W.cell? ⟨k4,x.src.toNat,none⟩=some (.int .i64 xs):=hpre
    refine wide_val (v:=.int .i64 xs) (by go_simp;try rfl) (FactsGo.same h.glob rfl)
   ·
    have q8:=(h.tab.old 8 (dst_no h.tab (by kernel_rfl))).trans t8
    have q8':b.tmps[8]?.getD undef=_:=(by simpa using q8)
    refine wide_val (v:=.pointer (some ⟨bx,2,none⟩)) (by go_simp;try rfl) (FactsGo.same h.glob rfl)
   ·
    have l8:=hall ⟨8,.data⟩ (by simp) rfl
    have e8:b.tmps.getD 57 undef = .pointer (some ⟨bx,2,none⟩):=(h.tab.val 8 57 rfl l8).trans (h.fact 8 l8)
    have e8':b.tmps[57]?.getD undef = .pointer (some ⟨bx,2,none⟩):=(by simpa using e8)
    have p0:W.cell? ⟨bx,2,none⟩=some (.int .i64 x.most):=hpre
    refine wide_val (v:=.int .i64 x.most) (by go_simp;try rfl) (FactsGo.same h.glob rfl)
   ·
    have l7:=hall ⟨7,.data⟩ (by simp) rfl
    have e7:b.tmps.getD 56 undef = .int .i64 xs:=(h.tab.val 7 56 rfl l7).trans (h.fact 7 l7)
    have e7':b.tmps[56]?.getD undef = .int .i64 xs:=(by simpa using e7)
    have l9:=hall ⟨9,.data⟩ (by simp) rfl
    have e9:b.tmps.getD 58 undef = .int .i64 x.most:=(h.tab.val 9 58 rfl l9).trans (h.fact 9 l9)
    have e9':b.tmps[58]?.getD undef = .int .i64 x.most:=(by simpa using e9)
    have hw:=HW.out
    refine wide_val (v:=.int .i64 (xs+x.most)) (by go_simp;try rfl) (FactsGo.same h.glob rfl)
   ·
    have q7:=(h.tab.old 7 (dst_no h.tab (by kernel_rfl))).trans t7
    have q7':b.tmps[7]?.getD undef=_:=(by simpa using q7)
    refine wide_val (v:=.int .i64 k) (by go_simp;try rfl) (FactsGo.same h.glob rfl)
   ·
    have q5:=(h.tab.old 5 (dst_no h.tab (by kernel_rfl))).trans t5
    have q5':b.tmps[5]?.getD undef=_:=(by simpa using q5)
    have l1:=hall ⟨1,.data⟩ (by simp) rfl
    have e1:b.tmps.getD 50 undef = .int .i64 x.dst:=(h.tab.val 1 50 rfl l1).trans (h.fact 1 l1)
    have e1':b.tmps[50]?.getD undef = .int .i64 x.dst:=(by simpa using e1)
    refine wide_val (v:=.pointer (some ⟨k5,x.dst.toNat,none⟩)) (by go_simp;try (rw [if_pos (by omega)])) (FactsGo.same h.glob rfl)
   ·
    have l12:=hall ⟨12,.data⟩ (by simp) rfl
    have e12:b.tmps.getD 61 undef = .pointer (some ⟨k5,x.dst.toNat,none⟩):=(h.tab.val 12 61 rfl l12).trans (h.fact 12 l12)
    have e12':b.tmps[61]?.getD undef = .pointer (some ⟨k5,x.dst.toNat,none⟩):=(by simpa using e12)
    have l10:=hall ⟨10,.data⟩ (by simp) rfl
    have e10:b.tmps.getD 59 undef = .int .i64 (xs+x.most):=(h.tab.val 10 59 rfl l10).trans (h.fact 10 l10)
    have e10':b.tmps[59]?.getD undef = .int .i64 (xs+x.most):=(by simpa using e10)
    have p0:rowAt? W k5 60=some (rowA L1):=hpre
    have hl:=rowAt?_len p0
    have d0:=rowAt?_int p0 (i:=x.dst.toNat) (by omega)
    have d1:=rowAt?_free p0 x.dst.toNat
    have hgr:W.grownBy (W.setCell ⟨k5,x.dst.toNat,none⟩ (.int .i64 (xs+x.most))) (some k5):=grownBy_setCell' W k5 _ _
    have hnr:rowAt? (W.setCell ⟨k5,x.dst.toNat,none⟩ (.int .i64 (xs+x.most))) k5 60=some (rowA (rPut L1 x.dst (xs+x.most))):=(by rw [rowAt?_setCell_same,p0];simp only [Option.map_some,rowA_set];rfl)
    refine wide_skip (W':=W.setCell ⟨k5,x.dst.toNat,none⟩ (.int .i64 (xs+x.most))) (by go_simp) ⟨undef,rfl,hnr,?_,?_,h.glob.grown hgr (fun r e=> .inl (by cases e;simp))⟩
    · intro j hj hl hf
      unfold factS at hf ⊢
      split at hf
      all_goals first
       | exact hf
       | exact absurd rfl hj
       | exact rowAt?_grown hf hgr (fun e=>by cases e;exact n5 rfl)
    · intro j hjs hj hl hp
      unfold preS at hp ⊢
      split at hp
      all_goals first
       | exact hp
       | exact absurd rfl hj
       | exact cell_grown hp hgr (fun e=>by cases e;first|exact n1 rfl|exact n2 rfl|exact n3 rfl|exact n4 rfl)
       | exact rowAt?_grown hp hgr (fun e=>by cases e;exact n5 rfl)
   ·
    have q6:=(h.tab.old 6 (dst_no h.tab (by kernel_rfl))).trans t6
    have q6':b.tmps[6]?.getD undef=_:=(by simpa using q6)
    have l3:=hall ⟨3,.data⟩ (by simp) rfl
    have e3:b.tmps.getD 52 undef = .int .i64 x.dst:=(h.tab.val 3 52 rfl l3).trans (h.fact 3 l3)
    have e3':b.tmps[52]?.getD undef = .int .i64 x.dst:=(by simpa using e3)
    refine wide_val (v:=.pointer (some ⟨k6,x.dst.toNat,none⟩)) (by go_simp;try (rw [if_pos (by omega)])) (FactsGo.same h.glob rfl)
   ·
    have l14:=hall ⟨14,.data⟩ (by simp) rfl
    have e14:b.tmps.getD 62 undef = .pointer (some ⟨k6,x.dst.toNat,none⟩):=(h.tab.val 14 62 rfl l14).trans (h.fact 14 l14)
    have e14':b.tmps[62]?.getD undef = .pointer (some ⟨k6,x.dst.toNat,none⟩):=(by simpa using e14)
    have l11:=hall ⟨11,.data⟩ (by simp) rfl
    have e11:b.tmps.getD 60 undef = .int .i64 k:=(h.tab.val 11 60 rfl l11).trans (h.fact 11 l11)
    have e11':b.tmps[60]?.getD undef = .int .i64 k:=(by simpa using e11)
    have p0:rowAt? W k6 60=some (rowA L2):=hpre
    have hl:=rowAt?_len p0
    have d0:=rowAt?_int p0 (i:=x.dst.toNat) (by omega)
    have d1:=rowAt?_free p0 x.dst.toNat
    have hgr:W.grownBy (W.setCell ⟨k6,x.dst.toNat,none⟩ (.int .i64 k)) (some k6):=grownBy_setCell' W k6 _ _
    have hnr:rowAt? (W.setCell ⟨k6,x.dst.toNat,none⟩ (.int .i64 k)) k6 60=some (rowA (rPut L2 x.dst k)):=(by rw [rowAt?_setCell_same,p0];simp only [Option.map_some,rowA_set];rfl)
    refine wide_skip (W':=W.setCell ⟨k6,x.dst.toNat,none⟩ (.int .i64 k)) (by go_simp) ⟨undef,rfl,hnr,?_,?_,h.glob.grown hgr (fun r e=> .inl (by cases e;simp))⟩
    · intro j hj hl hf
      unfold factS at hf ⊢
      split at hf
      all_goals first
       | exact hf
       | exact absurd rfl hj
       | exact rowAt?_grown hf hgr (fun e=>by cases e;exact n5 rfl)
    · intro j hjs hj hl hp
      unfold preS at hp ⊢
      split at hp
      all_goals first
       | exact hp
       | exact absurd rfl hj
       | exact cell_grown hp hgr (fun e=>by cases e;first|exact n1 rfl|exact n2 rfl|exact n3 rfl|exact n4 rfl)
       | exact rowAt?_grown hp hgr (fun e=>by cases e;exact n5 rfl)
 · intro V W hf hg
   have:=hQ W hg (hf 13 (by decide)) (hf 15 (by decide))
   have hV:V 0 = .pointer (some ⟨bx,1,none⟩)∧V 1 = .int .i64 x.dst∧V 2 = .pointer (some ⟨bx,1,none⟩)∧V 3 = .int .i64 x.dst∧V 4 = .pointer (some ⟨bx,0,none⟩)∧V 5 = .int .i64 x.src∧V 6 = .pointer (some ⟨k4,x.src.toNat,none⟩)∧V 7 = .int .i64 xs∧V 8 = .pointer (some ⟨bx,2,none⟩)∧V 9 = .int .i64 x.most∧V 10 = .int .i64 (xs+x.most)∧V 11 = .int .i64 k∧V 12 = .pointer (some ⟨k5,x.dst.toNat,none⟩)∧V 14 = .pointer (some ⟨k6,x.dst.toNat,none⟩):=⟨hf 0 (by decide),hf 1 (by decide),hf 2 (by decide),hf 3 (by decide),hf 4 (by decide),hf 5 (by decide),hf 6 (by decide),hf 7 (by decide),hf 8 (by decide),hf 9 (by decide),hf 10 (by decide),hf 11 (by decide),hf 12 (by decide),hf 14 (by decide)⟩
   obtain ⟨v0,v1,v2,v3,v4,v5,v6,v7,v8,v9,v10,v11,v12,v14⟩:=hV
   simp only [List.size_toArray,List.length_cons,List.length_nil,Nat.reduceAdd,framed,dstOf,List.getElem?_toArray,List.getElem?_cons_zero,List.getElem?_cons_succ,Option.bind_some,v0,v1,v2,v3,v4,v5,v6,v7,v8,v9,v10,v11,v12,v14]
   exact this
open Go.Shelf
theorem rAt_put {r:Row} {d v i:Int} (hl:r.length=60) (h1:0≤d) (h2:d<60) (h3:0≤i):rAt (rPut r d v) i=if i=d then v else rAt r i:=by
 unfold rAt rPut
 simp only [List.getD,List.getElem?_set]
 by_cases h:i=d
 · subst h
   have hlt:i.toNat<r.length:=by omega
   simp [hlt]
 · rw [if_neg (by omega),if_neg h]
def recS (asg bod:Code) (fn:FuncId) (tmps:Array Value) (D:Nat) (st:LoopState) (pend:Option Code):Loop:=
 { state:=st,pending:=pend,fn,tmps,params:=#[27,28],assign:=asg,body:=bod,defers:=D }
structure SetJ (W0:World) (r:Loop) (l D br bl:Nat) (lo:Int) (k:Nat) (σ:Row×Row) (W:World):Prop where
 os:W.os=W0.os
 tape:W.tape=W0.tape
 output:W.output=W0.output
 size:W0.heap.size+2≤W.heap.size
 kept:∀ j,j<W0.heap.size→j≠br→j≠bl→W.heap[j]? = W0.heap[j]?
 L:W.heap[l]? = some (.loop r)
 K:W.heap[D]? = some (.deferred (some []))
 row:rowAt? W br 60=some (rowA σ.1)
 las:rowAt? W bl 60=some (rowA σ.2)
 bnd:∀ i:Int,0≤i→i<60→lo-k * 1000000≤rAt σ.1 i∧rAt σ.1 i≤noneV
theorem rowAt?_putObj {W:World} {l g n:Nat} (o:Obj) (h:g≠l):rowAt? (W.putObj l o) g n=rowAt? W g n:=by
 unfold rowAt?
 rw [World.putObj_heap_other h]
section
variable {W0 W:World} {r:Loop} {l D br bl:Nat} {lo:Int} {k:Nat} {σ:Row×Row}
theorem SetJ.al (h:SetJ W0 r l D br bl lo k σ W) (o:Obj):SetJ W0 r l D br bl lo k σ (W.alloc o):=by
 have hs:=h.size
 exact ⟨h.os,h.tape,h.output,by simp;omega,fun j hj h1 h2=>(Below.heap_alloc _ _ j (by omega)).trans (h.kept j hj h1 h2),
  (Below.heap_alloc _ _ l (Array.getElem?_eq_some_iff.1 h.L).1).trans h.L,(Below.heap_alloc _ _ D (Array.getElem?_eq_some_iff.1 h.K).1).trans h.K,
  (rowAt?_alloc_past _ (rowAt?_lt h.row)).trans h.row,(rowAt?_alloc_past _ (rowAt?_lt h.las)).trans h.las,h.bnd⟩
theorem SetJ.dn (h:SetJ W0 r l D br bl lo k σ W) (m:Nat):SetJ W0 r l D br bl lo k σ (W.drewN m):=
 ⟨h.os,h.tape,h.output,h.size,h.kept,h.L,h.K,h.row,h.las,h.bnd⟩
theorem SetJ.dr (h:SetJ W0 r l D br bl lo k σ W):SetJ W0 r l D br bl lo k σ W.drew:=
 ⟨h.os,h.tape,h.output,h.size,h.kept,h.L,h.K,h.row,h.las,h.bnd⟩
theorem SetJ.skip (h:SetJ W0 r l D br bl lo k σ W):SetJ W0 r l D br bl lo (k+1) σ W:=
 ⟨h.os,h.tape,h.output,h.size,h.kept,h.L,h.K,h.row,h.las,fun i h1 h2=>by have:=h.bnd i h1 h2;push_cast;omega⟩
theorem SetJ.cell (h:SetJ W0 r l D br bl lo k σ W) {b o:Nat} (hb:b<W0.heap.size) (h1:b≠br) (h2:b≠bl):W.cell? ⟨b,o,none⟩=W0.cell? ⟨b,o,none⟩:=
 World.cell?_of_block (h.kept b hb h1 h2)
theorem SetJ.rd {α:Type} {enc:α→List Value} {kk n c:Nat} {A:Option Addr} {xs:List α} (h:SetJ W0 r l D br bl lo k σ W) (hr:Rd enc kk W0 A n c xs) (hA:∀ b o,A=some ⟨b,o,none⟩→0<n→b≠br∧b≠bl):Rd enc kk W A n c xs:=
 ⟨hr.len,hr.big,hr.cap,fun hn=>by
   obtain ⟨b,off,e,hlt,hc⟩:=hr.at_ hn
   obtain ⟨q1,q2⟩:=hA b off e hn
   exact ⟨b,off,e,by have:=h.size;omega,fun i x hx j u hu=>(h.cell hlt q1 q2).trans (hc i x hx j u hu)⟩⟩
end
theorem setYield (asg bod:Code) (hasg:asg=(codes202 Tryz.f105.body).1) (hbod:bod=(codes202 Tryz.f105.body).2) (m:Nat) (W0:World) (fn:FuncId) (r3 br bl D:Nat) (lo:Int)
 (hlb:bl≠br) (hl1:br<W0.heap.size) (hl2:bl<W0.heap.size) (hr3:r3<W0.heap.size) (hn1:r3≠br) (hn2:r3≠bl) (c3:W0.cell? ⟨r3,0,none⟩=some (.pointer (some ⟨br,0,none⟩)))
 (hD:D=W0.heap.size) (n:Nat) (hn:n≤1000) (hlo: -3000000000000000000≤lo) (t0 t1 t2 t5 t6 t7 t8 t9 t10 t11 t12 t13 t14 t15 t16 t17 t18 t19 t20 t21 t22 t23 t24 t25 t26 t27 t28 t29 t30 t31 t32 t33 t34 t35 t36 t37 t38 t39 t40 t41 t42 t43 t44 t45 t46 t47 t48 t49 t50 t51 t52 t53 t54:Value)
 (k:Nat) (σ:Row×Row) (x:Bound) (W:World) (hk:k<n) (ok:okB x) (hrx:relaxes σ.1 x=true)
 (h:SetJ W0 (recS asg bod fn #[t0,t1,t2,.pointer (some ⟨r3,0,none⟩),.pointer (some ⟨bl,0,none⟩),t5,t6,t7,t8,t9,t10,t11,t12,t13,t14,t15,t16,t17,t18,t19,t20,t21,t22,t23,t24,t25,t26,t27,t28,t29,t30,t31,t32,t33,t34,t35,t36,t37,t38,t39,t40,t41,t42,t43,t44,t45,t46,t47,t48,t49,t50,t51,t52,t53,t54] D .ready none) (W0.heap.size+1) D br bl lo k σ W):
 YieldAt Fence.wide m Tryz.prog (W0.heap.size+1) #[.int .i64 k,.agg #[.int .i64 x.src,.int .i64 x.dst,.int .i64 x.most,.int .i64 x.by_]] W fun e W'=>e = .returned (.bool true)∧SetJ W0 (recS asg bod fn #[t0,t1,t2,.pointer (some ⟨r3,0,none⟩),.pointer (some ⟨bl,0,none⟩),t5,t6,t7,t8,t9,t10,t11,t12,t13,t14,t15,t16,t17,t18,t19,t20,t21,t22,t23,t24,t25,t26,t27,t28,t29,t30,t31,t32,t33,t34,t35,t36,t37,t38,t39,t40,t41,t42,t43,t44,t45,t46,t47,t48,t49,t50,t51,t52,t53,t54] D .ready none) (W0.heap.size+1) D br bl lo (k+1) (relaxStep σ x k) W':=by
 subst hD
 obtain ⟨l,hl⟩:∃ l,W0.heap.size+1=l:=⟨_,rfl⟩
 rw [hl] at h ⊢
 refine ⟨fn,#[t0,t1,t2,.pointer (some ⟨r3,0,none⟩),.pointer (some ⟨bl,0,none⟩),t5,t6,t7,t8,t9,t10,t11,t12,t13,t14,t15,t16,t17,t18,t19,t20,t21,t22,t23,t24,t25,t26,.int .i64 k,.agg #[.int .i64 x.src,.int .i64 x.dst,.int .i64 x.most,.int .i64 x.by_],t29,t30,t31,t32,t33,t34,t35,t36,t37,t38,t39,t40,t41,t42,t43,t44,t45,t46,t47,t48,t49,t50,t51,t52,t53,t54],(codes202 Tryz.f105.body).1,(codes202 Tryz.f105.body).2,by rw [←hasg,←hbod];simpa [recS] using run_yield (P:=Tryz.prog) (args:=#[.int .i64 k,.agg #[.int .i64 x.src,.int .i64 x.dst,.int .i64 x.most,.int .i64 x.by_]]) h.L rfl,roundIn_of_wpIn trivial ?_⟩
 have hll:l<W.heap.size:=(Array.getElem?_eq_some_iff.1 h.L).1
 have hsz:=h.size
 obtain ⟨W1,hW1⟩:∃ W1,W.alloc (.cells #[.int .i64 x.src,.int .i64 x.dst,.int .i64 x.most,.int .i64 x.by_] 148)=W1:=⟨_,rfl⟩
 have h1:SetJ W0 (recS asg bod fn #[t0,t1,t2,.pointer (some ⟨r3,0,none⟩),.pointer (some ⟨bl,0,none⟩),t5,t6,t7,t8,t9,t10,t11,t12,t13,t14,t15,t16,t17,t18,t19,t20,t21,t22,t23,t24,t25,t26,t27,t28,t29,t30,t31,t32,t33,t34,t35,t36,t37,t38,t39,t40,t41,t42,t43,t44,t45,t46,t47,t48,t49,t50,t51,t52,t53,t54] W0.heap.size .ready none) l W0.heap.size br bl lo k σ W1:=by rw [←hW1];exact h.al _
 have hs1:W1.heap.size=W.heap.size+1:=by rw [←hW1];simp
 have hx1:W1.heap[W.heap.size]? = some (.cells #[.int .i64 x.src,.int .i64 x.dst,.int .i64 x.most,.int .i64 x.by_] 148 (0,0)):=by rw [←hW1];exact heap_alloc_new W _
 have hbr:=run_beginRound (P:=Tryz.prog) h1.L rfl
 obtain ⟨W2,hW2⟩:∃ W2,W1.putObj l (.loop { recS asg bod fn #[t0,t1,t2,.pointer (some ⟨r3,0,none⟩),.pointer (some ⟨bl,0,none⟩),t5,t6,t7,t8,t9,t10,t11,t12,t13,t14,t15,t16,t17,t18,t19,t20,t21,t22,t23,t24,t25,t26,t27,t28,t29,t30,t31,t32,t33,t34,t35,t36,t37,t38,t39,t40,t41,t42,t43,t44,t45,t46,t47,t48,t49,t50,t51,t52,t53,t54] W0.heap.size .ready none with state:=.busy })=W2:=⟨_,rfl⟩
 rw [hW2] at hbr
 have hp2:∀ g,g≠l→W2.heap[g]? = W1.heap[g]? := fun g hg=>by rw [←hW2];exact World.putObj_heap_other hg
 have hs2:W2.heap.size=W1.heap.size:=by rw [←hW2];simp
 have hL2:W2.heap[l]? = some (.loop { recS asg bod fn #[t0,t1,t2,.pointer (some ⟨r3,0,none⟩),.pointer (some ⟨bl,0,none⟩),t5,t6,t7,t8,t9,t10,t11,t12,t13,t14,t15,t16,t17,t18,t19,t20,t21,t22,t23,t24,t25,t26,t27,t28,t29,t30,t31,t32,t33,t34,t35,t36,t37,t38,t39,t40,t41,t42,t43,t44,t45,t46,t47,t48,t49,t50,t51,t52,t53,t54] W0.heap.size .ready none with state:=.busy }):=by rw [←hW2];exact World.putObj_heap_same (by omega)
 have hx2:W2.heap[W.heap.size]? = some (.cells #[.int .i64 x.src,.int .i64 x.dst,.int .i64 x.most,.int .i64 x.by_] 148 (0,0)):=(hp2 _ (by omega)).trans hx1
 have hrow2:rowAt? W2 br 60=some (rowA σ.1):=by rw [←hW2,rowAt?_putObj _ (by omega)];exact h1.row
 have hlas2:rowAt? W2 bl 60=some (rowA σ.2):=by rw [←hW2,rowAt?_putObj _ (by omega)];exact h1.las
 have hc3:W2.cell? ⟨r3,0,none⟩=some (.pointer (some ⟨br,0,none⟩)):=(World.cell?_of_block (hp2 r3 (by omega))).trans ((h1.cell hr3 hn1 hn2).trans c3)
 obtain ⟨o1,o2,o3,o4,o5,o6⟩:=ok
 have hl60:=rowAt?_len hrow2
 have hl60':=rowAt?_len hlas2
 obtain ⟨v1,v2⟩:=h.bnd x.src o1 o2
 obtain ⟨v3,v4⟩:=h.bnd x.dst o3 o4
 have hcs:=rowAt?_int hrow2 (i:=x.src.toNat) (by omega)
 have hcd:=rowAt?_int hrow2 (i:=x.dst.toNat) (by omega)
 have hcl:=rowAt?_int hlas2 (i:=x.dst.toNat) (by omega)
 have hfd:=rowAt?_free hrow2 x.dst.toNat
 have hfl:=rowAt?_free hlas2 x.dst.toNat
 have e0:W2.cell? ⟨W.heap.size,0,none⟩=some (.int .i64 x.src):=by simp only [World.cell?,hx2];rfl
 have e1:W2.cell? ⟨W.heap.size,1,none⟩=some (.int .i64 x.dst):=by simp only [World.cell?,hx2];rfl
 have e2:W2.cell? ⟨W.heap.size,2,none⟩=some (.int .i64 x.most):=by simp only [World.cell?,hx2];rfl
 have hrx':relaxes σ.1 x=(decide (rAt σ.1 x.src<noneV)&&decide (rAt σ.1 x.src+x.most<rAt σ.1 x.dst)):=rfl
 rw [hrx',Bool.and_eq_true,decide_eq_true_eq,decide_eq_true_eq] at hrx
 have hnv:noneV=1099511627776:=rfl
 have hw:IntKind.i64.wrap (rAt σ.1 x.src+x.most)=rAt σ.1 x.src+x.most:=by simp [IntKind.wrap,IntKind.bits,IntKind.signed];omega
 have hbody:=fun b Q hT h3 h4 h8 h9 hQ=>body202 _ rfl l m b W2 r3 br bl W.heap.size k x (rAt σ.1 x.src) Q hT h3 h4 h8 h9 hc3 e0 e1 e2 hcs _ _ hcd hfd hcl hfl (by omega) hlb ⟨o1,o2,o3,o4,o5,o6⟩ hw hQ
 have HB:=Lib.hid hbody
 clear hbody hx1 hx2 hcs hcd hcl hfd hfl e0 e1 e2 hc3 hw hp2
 have HBR:=Lib.hid hbr
 clear hbr hasg hbod
 unfold codes202 Tryz.f105
 dsimp only
 gi_wp2_with (rw [Oper.semAt_eq _ _ _ (fun c h=>by cases h)];go_simp;try go_bits)
 refine ⟨_,HBR.out,?_⟩
 refine HB.out _ _ rfl rfl rfl rfl rfl ?_
 intro b hb
 obtain ⟨W3,hW3⟩:∃ W3,(W2.drew.setCell ⟨br,x.dst.toNat,none⟩ (.int .i64 (rAt σ.1 x.src+x.most))).setCell ⟨bl,x.dst.toNat,none⟩ (.int .i64 k)=W3:=⟨_,rfl⟩
 rw [hW3]
 have hp3:∀ g,g≠br→g≠bl→W3.heap[g]? = W2.heap[g]? := fun g hg1 hg2=>by
  rw [←hW3];exact (Below.heap_setCell _ _ _ g hg2).trans (Below.heap_setCell _ _ _ g hg1)
 have hs3:W3.heap.size=W2.heap.size:=by rw [←hW3];simp
 have hL3:W3.heap[l]? = some (.loop { recS asg bod fn #[t0,t1,t2,.pointer (some ⟨r3,0,none⟩),.pointer (some ⟨bl,0,none⟩),t5,t6,t7,t8,t9,t10,t11,t12,t13,t14,t15,t16,t17,t18,t19,t20,t21,t22,t23,t24,t25,t26,t27,t28,t29,t30,t31,t32,t33,t34,t35,t36,t37,t38,t39,t40,t41,t42,t43,t44,t45,t46,t47,t48,t49,t50,t51,t52,t53,t54] W0.heap.size .ready none with state:=.busy }):=(hp3 l (by omega) (by omega)).trans hL2
 refine ⟨_,_,run_endRound none hL3,rfl,?_⟩
 have hrel:relaxStep σ x k=(rPut σ.1 x.dst (rAt σ.1 x.src+x.most),rPut σ.2 x.dst k):=by
  unfold relaxStep
  rw [if_pos (by rw [hrx',Bool.and_eq_true,decide_eq_true_eq,decide_eq_true_eq];exact hrx)]
 have hW2o:W2.os=W1.os∧W2.tape=W1.tape∧W2.output=W1.output:=by rw [←hW2];exact ⟨rfl,rfl,rfl⟩
 have hW3o:W3.os=W2.os∧W3.tape=W2.tape∧W3.output=W2.output:=by rw [←hW3];exact ⟨rfl,rfl,rfl⟩
 have hlt3:l<W3.heap.size:=by omega
 refine ⟨?_,?_,?_,?_,fun j hj q1 q2=> ?_,World.putObj_heap_same hlt3,?_,?_,?_,fun i i1 i2=> ?_⟩
 · exact hW3o.1.trans (hW2o.1.trans h1.os)
 · exact hW3o.2.1.trans (hW2o.2.1.trans h1.tape)
 · exact hW3o.2.2.trans (hW2o.2.2.trans h1.output)
 · simp;omega
 · refine (World.putObj_heap_other (by omega)).trans ((hp3 j q1 q2).trans ?_)
   rw [←hW2]
   exact (World.putObj_heap_other (by omega)).trans (h1.kept j hj q1 q2)
 · refine (World.putObj_heap_other (by omega)).trans ((hp3 W0.heap.size (by omega) (by omega)).trans ?_)
   rw [←hW2]
   exact (World.putObj_heap_other (by omega)).trans h1.K
 · rw [rowAt?_putObj _ (by omega),←hW3,rowAt?_setCell_other _ _ (fun e=>hlb e.symm),rowAt?_setCell_same,rowAt?_drew,hrow2,hrel]
   simp only [Option.map_some,rowA_set,rPut]
 · rw [rowAt?_putObj _ (by omega),←hW3,rowAt?_setCell_same,rowAt?_setCell_other _ _ hlb,rowAt?_drew,hlas2,hrel]
   simp only [Option.map_some,rowA_set,rPut]
 · rw [hrel,rAt_put hl60 o3 o4 i1]
   have:=h.bnd i i1 i2
   split<;>push_cast<;>omega
end Go.Proofs.YtejjplhknacoiaaGreatDoor
end

/- Contracts that the laws lean on: Long1, Long7. -/
import Derived.Test.YtpmkgmilfifkpaaGreatDoorDE10
set_option maxRecDepth 100000
set_option maxHeartbeats 4000000
section
namespace Go.Proofs.YtpmkgmilfifkpaaGreatDoor
open Go.RowKit Go.Proofs
def code164_1:Option Code→Code
 | some (.seq _ (.seq c _))=>c
 | _=> .skip
def factM (w0:World) (ba off g ns cs:Nat) (now:Row):Nat→Value→World→Prop
 | 0,v,_=>v = .pointer (some ⟨ba,off,none⟩)
 | 1,v,_=>v = .pointer (some ⟨ba,off,none⟩)
 | 2,v,_=>v = .pointer (some ⟨ba,off,none⟩)
 | 3,v,_=>v = .slice (some ⟨g,0,none⟩) ns cs
 | 4,v,_=>v = .pointer (some ⟨ba,off,none⟩)
 | 5,v,_=>v = .pointer (some ⟨ba,off,none⟩)
 | 6,v,_=>v = .pointer (some ⟨ba,off,none⟩)
 | 7,v,_=>v = .slice (some ⟨g,0,none⟩) ns cs
 | 8,v,_=>v = .int .i64 ns
 | 9,v,_=>v = .int .i64 (ns-1)
 | 10,v,_=>v = .pointer (some ⟨g,(ns-1) * 60,none⟩)
 | 11,v,_=>v = .agg (rowA now)
 | 12,v,_=>v = .agg (rowA emptyRow)
 | 13,v,W=> ∃ k,v = .pointer (some ⟨k,0,none⟩)∧w0.heap.size≤k∧∃ r:Row,r.length=60∧rowAt? W k 60=some (rowA r)
 | 14,v,W=> ∃ k,v = .pointer (some ⟨k,0,none⟩)∧w0.heap.size≤k∧∃ r:Row,r.length=60∧rowAt? W k 60=some (rowA r)
 | 15,v,W=> ∃ k,v = .pointer (some ⟨k,0,none⟩)∧w0.heap.size≤k∧rowAt? W k 60=some (rowA now)
 | 16,v,W=> ∃ k,v = .pointer (some ⟨k,0,none⟩)∧w0.heap.size≤k∧rowAt? W k 60=some (rowA emptyRow)
 | _,_,_=>True
def exX (V:Nat→Value) (L:Nat→Bool):Prop:=(L 15=true→V 15=V 13)∧(L 16=true→V 16=V 14)∧(L 13=true→L 14=true→V 13≠V 14)
theorem exX.pure {V:Nat→Value} {listed:Array Bool} {i:Nat} {v:Value} (h:exX V (fun j=>listed.getD j false)) (h13:i≠13) (h14:i≠14) (h15:i≠15) (h16:i≠16):exX (nextV V i v) (nextL listed i):=by
 obtain ⟨a,b,c⟩:=h
 unfold exX
 rw [nextL_ne (Ne.symm h13),nextL_ne (Ne.symm h14),nextL_ne (Ne.symm h15),nextL_ne (Ne.symm h16),nextV_ne (Ne.symm h13),nextV_ne (Ne.symm h14),nextV_ne (Ne.symm h15),nextV_ne (Ne.symm h16)]
 exact ⟨a,b,c⟩
def preM (_:World) (ba off g ns cs:Nat) (now:Row):Nat→World→Prop
 | 3,W=>W.cell? ⟨ba,off,none⟩=some (.slice (some ⟨g,0,none⟩) ns cs)
 | 7,W=>W.cell? ⟨ba,off,none⟩=some (.slice (some ⟨g,0,none⟩) ns cs)
 | 11,W=>W.rangeAt g ((ns-1) * 60) (encRow now)
 | _,_=>True
section
variable {w0 W W':World} {ba off g ns cs:Nat} {now:Row}
theorem range_grown {b o:Nat} {l:List Value} (h:W.rangeAt b o l) {row:Option Nat} (hg:W.grownBy W' row) (hr:row≠some b):W'.rangeAt b o l:=fun j v hv=>cell_grown (h j v hv) hg hr
theorem factM.keep {row:Option Nat} {j:Nat} {v:Value} (h:factM w0 ba off g ns cs now j v W) (hg:W.grownBy W' row) (h13:∀ k,j=13→v = .pointer (some ⟨k,0,none⟩)→row≠some k) (h14:∀ k,j=14→v = .pointer (some ⟨k,0,none⟩)→row≠some k) (h15:∀ k,j=15→v = .pointer (some ⟨k,0,none⟩)→row≠some k) (h16:∀ k,j=16→v = .pointer (some ⟨k,0,none⟩)→row≠some k):
 factM w0 ba off g ns cs now j v W':=by
 unfold factM at h ⊢
 split at h
 all_goals first
  | exact h
  | (obtain ⟨k,a1,a2,r,a3,a4⟩:=h;exact ⟨k,a1,a2,r,a3,rowAt?_grown a4 hg (h13 k rfl a1)⟩)
  | (obtain ⟨k,a1,a2,r,a3,a4⟩:=h;exact ⟨k,a1,a2,r,a3,rowAt?_grown a4 hg (h14 k rfl a1)⟩)
  | (obtain ⟨k,a1,a2,a3⟩:=h;exact ⟨k,a1,a2,rowAt?_grown a3 hg (h15 k rfl a1)⟩)
  | (obtain ⟨k,a1,a2,a3⟩:=h;exact ⟨k,a1,a2,rowAt?_grown a3 hg (h16 k rfl a1)⟩)
theorem factM.none {j:Nat} {v:Value} (h:factM w0 ba off g ns cs now j v W) (hg:W.grownBy W' Option.none):factM w0 ba off g ns cs now j v W':=
 h.keep hg (fun _ _ _ e=>by cases e) (fun _ _ _ e=>by cases e) (fun _ _ _ e=>by cases e) (fun _ _ _ e=>by cases e)
theorem preM.keep {row:Option Nat} {j:Nat} (h:preM w0 ba off g ns cs now j W) (hg:W.grownBy W' row) (h1:row≠some ba) (h2:row≠some g):preM w0 ba off g ns cs now j W':=by
 unfold preM at h ⊢
 split at h
 all_goals first
  | exact h
  | exact cell_grown h hg h1
  | exact range_grown h hg h2
theorem below_grownNone {W W':World} (h:Below W.heap.size W W'):W.grownBy W' Option.none:=⟨h.os,h.tape,h.output,h.size,fun k hk _=>h.block k hk⟩
theorem rowAt?_setRow_grown (W:World) (g:Nat) (c:Array Value):W.grownBy (W.setRow g c) (some g):=⟨rfl,rfl,rfl,by rw [size_setRow'];exact Nat.le_refl _,fun k _ hne=>setRow_other W g k c (fun e=>hne (by rw [e]))⟩
end
theorem longer1 (c:Code) (hc:c=code164_1 Tryz.f112.body) (ba off g ns cs:Nat) (now:Row) (a:Act) (w:World) (Q:Exit→Act→World→Prop)
 (hT:a.tmps.size=84) (t0:a.tmps.getD 0 undef = .pointer (some ⟨ba,off,none⟩))
 (hc0:w.cell? ⟨ba,off,none⟩=some (.slice (some ⟨g,0,none⟩) ns cs)) (hr:w.rangeAt g ((ns-1) * 60) (encRow now)) (hnow:now.length=60) (hns:1≤ns) (hns2:ns≤1000) (hba:ba<w.heap.size) (hgl:g<w.heap.size)
 (hQ:∀ W k4 k5,Below w.heap.size w W→w.heap.size≤k4→w.heap.size≤k5→k4≠k5→rowAt? W k4 60=some (rowA now)→rowAt? W k5 60=some (rowA emptyRow)→
   Q .normal { tmps:=(((((((((((((((a.tmps.setIfInBounds 9 (.pointer (some ⟨ba,off,none⟩))).setIfInBounds 10 (.pointer (some ⟨ba,off,none⟩))).setIfInBounds 11 (.pointer (some ⟨ba,off,none⟩))).setIfInBounds 12 (.slice (some ⟨g,0,none⟩) ns cs)).setIfInBounds 13 (.pointer (some ⟨ba,off,none⟩))).setIfInBounds 14 (.pointer (some ⟨ba,off,none⟩))).setIfInBounds 15 (.pointer (some ⟨ba,off,none⟩))).setIfInBounds 16 (.slice (some ⟨g,0,none⟩) ns cs)).setIfInBounds 17 (.int .i64 ns)).setIfInBounds 18 (.int .i64 (ns-1))).setIfInBounds 19 (.pointer (some ⟨g,(ns-1) * 60,none⟩))).setIfInBounds 20 (.agg (rowA now))).setIfInBounds 21 (.agg (rowA emptyRow))).setIfInBounds 4 (.pointer (some ⟨k4,0,none⟩))).setIfInBounds 5 (.pointer (some ⟨k5,0,none⟩))),defers:=a.defers } W):
 c.wp Tryz.prog Q a w:=by
 subst hc
 unfold code164_1 Tryz.f112
 dsimp only
 have HW1:=Lib.hid (show ((ns:Int)-1)=((ns-1:Nat):Int) by omega)
 refine wpIn_wide.1 (wpIn_region_factsX (nn:=5) 84 (by kernel_rfl) (by kernel_rfl) hT.symm (factM w ba off g ns cs now) (preM w ba off g ns cs now) (fun W=>Below w.heap.size w W) exX (Below.refl _ w).drew ?_ (fun V=>⟨fun h=>(by cases h),fun h=>(by cases h),fun h=>(by cases h)⟩) ?_ ?_)
 · intro j hj
   unfold preM
   split
   · exact hc0
   · exact hc0
   · exact hr
   · trivial
 · intro V listed i o b W hi ho h
   obtain ⟨hun,oi,hoi,hall⟩:=mem_ready.1 hi
   have:oi=o:=Option.some.inj (hoi.symm.trans ho)
   subst this
   clear hoi hi
   have hlt:i<17:=(by have:=(Array.getElem?_eq_some_iff.1 ho).1;simpa using this)
   have hun':listed.getD i false=false:=getD_both hun
   have hpre:=h.pre i (by simpa using hlt) hun'
   rcases (by omega:i=0∨i=1∨i=2∨i=3∨i=4∨i=5∨i=6∨i=7∨i=8∨i=9∨i=10∨i=11∨i=12∨i=13∨i=14∨i=15∨i=16) with rfl|rfl|rfl|rfl|rfl|rfl|rfl|rfl|rfl|rfl|rfl|rfl|rfl|rfl|rfl|rfl|rfl
   all_goals simp only [List.getElem?_toArray,List.getElem?_cons_zero,List.getElem?_cons_succ] at ho
   all_goals cases ho
   ·
    have q0:=(h.tab.old 0 (dst_no h.tab (by kernel_rfl))).trans t0
    have q0':b.tmps[0]?.getD undef=_:=(by simpa using q0)
    refine wide_val (v:=.pointer (some ⟨ba,off,none⟩)) (by go_simp;try rfl) (FactsGoX.same h.glob rfl (h.x.pure (by decide) (by decide) (by decide) (by decide)))
   ·
    have l0:=hall ⟨0,.data⟩ (by simp) rfl
    have e0:b.tmps.getD 9 undef = .pointer (some ⟨ba,off,none⟩):=(h.tab.val 0 9 rfl l0).trans (h.fact 0 l0)
    have e0':b.tmps[9]?.getD undef = .pointer (some ⟨ba,off,none⟩):=(by simpa using e0)
    refine wide_val (v:=.pointer (some ⟨ba,off,none⟩)) (by go_simp;try rfl) (FactsGoX.same h.glob rfl (h.x.pure (by decide) (by decide) (by decide) (by decide)))
   ·
    have l1:=hall ⟨1,.data⟩ (by simp) rfl
    have e1:b.tmps.getD 10 undef = .pointer (some ⟨ba,off,none⟩):=(h.tab.val 1 10 rfl l1).trans (h.fact 1 l1)
    have e1':b.tmps[10]?.getD undef = .pointer (some ⟨ba,off,none⟩):=(by simpa using e1)
    refine wide_val (v:=.pointer (some ⟨ba,off,none⟩)) (by go_simp;try rfl) (FactsGoX.same h.glob rfl (h.x.pure (by decide) (by decide) (by decide) (by decide)))
   ·
    have l2:=hall ⟨2,.data⟩ (by simp) rfl
    have e2:b.tmps.getD 11 undef = .pointer (some ⟨ba,off,none⟩):=(h.tab.val 2 11 rfl l2).trans (h.fact 2 l2)
    have e2':b.tmps[11]?.getD undef = .pointer (some ⟨ba,off,none⟩):=(by simpa using e2)
    have p0:W.cell? ⟨ba,off,none⟩=some (.slice (some ⟨g,0,none⟩) ns cs):=hpre
    refine wide_val (v:=.slice (some ⟨g,0,none⟩) ns cs) (by go_simp;try rfl) (FactsGoX.same h.glob rfl (h.x.pure (by decide) (by decide) (by decide) (by decide)))
   ·
    have q0:=(h.tab.old 0 (dst_no h.tab (by kernel_rfl))).trans t0
    have q0':b.tmps[0]?.getD undef=_:=(by simpa using q0)
    refine wide_val (v:=.pointer (some ⟨ba,off,none⟩)) (by go_simp;try rfl) (FactsGoX.same h.glob rfl (h.x.pure (by decide) (by decide) (by decide) (by decide)))
   ·
    have l4:=hall ⟨4,.data⟩ (by simp) rfl
    have e4:b.tmps.getD 13 undef = .pointer (some ⟨ba,off,none⟩):=(h.tab.val 4 13 rfl l4).trans (h.fact 4 l4)
    have e4':b.tmps[13]?.getD undef = .pointer (some ⟨ba,off,none⟩):=(by simpa using e4)
    refine wide_val (v:=.pointer (some ⟨ba,off,none⟩)) (by go_simp;try rfl) (FactsGoX.same h.glob rfl (h.x.pure (by decide) (by decide) (by decide) (by decide)))
   ·
    have l5:=hall ⟨5,.data⟩ (by simp) rfl
    have e5:b.tmps.getD 14 undef = .pointer (some ⟨ba,off,none⟩):=(h.tab.val 5 14 rfl l5).trans (h.fact 5 l5)
    have e5':b.tmps[14]?.getD undef = .pointer (some ⟨ba,off,none⟩):=(by simpa using e5)
    refine wide_val (v:=.pointer (some ⟨ba,off,none⟩)) (by go_simp;try rfl) (FactsGoX.same h.glob rfl (h.x.pure (by decide) (by decide) (by decide) (by decide)))
   ·
    have l6:=hall ⟨6,.data⟩ (by simp) rfl
    have e6:b.tmps.getD 15 undef = .pointer (some ⟨ba,off,none⟩):=(h.tab.val 6 15 rfl l6).trans (h.fact 6 l6)
    have e6':b.tmps[15]?.getD undef = .pointer (some ⟨ba,off,none⟩):=(by simpa using e6)
    have p0:W.cell? ⟨ba,off,none⟩=some (.slice (some ⟨g,0,none⟩) ns cs):=hpre
    refine wide_val (v:=.slice (some ⟨g,0,none⟩) ns cs) (by go_simp;try rfl) (FactsGoX.same h.glob rfl (h.x.pure (by decide) (by decide) (by decide) (by decide)))
   ·
    have l7:=hall ⟨7,.data⟩ (by simp) rfl
    have e7:b.tmps.getD 16 undef = .slice (some ⟨g,0,none⟩) ns cs:=(h.tab.val 7 16 rfl l7).trans (h.fact 7 l7)
    have e7':b.tmps[16]?.getD undef = .slice (some ⟨g,0,none⟩) ns cs:=(by simpa using e7)
    refine wide_val (v:=.int .i64 ns) (by go_simp;try rfl) (FactsGoX.same h.glob rfl (h.x.pure (by decide) (by decide) (by decide) (by decide)))
   ·
    have l8:=hall ⟨8,.data⟩ (by simp) rfl
    have e8:b.tmps.getD 17 undef = .int .i64 ns:=(h.tab.val 8 17 rfl l8).trans (h.fact 8 l8)
    have e8':b.tmps[17]?.getD undef = .int .i64 ns:=(by simpa using e8)
    have hw:IntKind.i64.wrap ((ns:Int)-1)=(ns:Int)-1:=(by rw [IntKind.wrap_i64];omega)
    refine wide_val (v:=.int .i64 (ns-1)) (by go_simp;try rfl) (FactsGoX.same h.glob rfl (h.x.pure (by decide) (by decide) (by decide) (by decide)))
   ·
    have l3:=hall ⟨3,.data⟩ (by simp) rfl
    have e3:b.tmps.getD 12 undef = .slice (some ⟨g,0,none⟩) ns cs:=(h.tab.val 3 12 rfl l3).trans (h.fact 3 l3)
    have e3':b.tmps[12]?.getD undef = .slice (some ⟨g,0,none⟩) ns cs:=(by simpa using e3)
    have l9:=hall ⟨9,.data⟩ (by simp) rfl
    have e9:b.tmps.getD 18 undef = .int .i64 (ns-1):=(h.tab.val 9 18 rfl l9).trans (h.fact 9 l9)
    have e9':b.tmps[18]?.getD undef = .int .i64 (ns-1):=(by simpa using e9)
    rw [HW1.out] at e9 e9'
    refine wide_val (v:=.pointer (some ⟨g,(ns-1) * 60,none⟩)) (by go_simp;intro hh;exfalso;omega) (FactsGoX.same h.glob rfl (h.x.pure (by decide) (by decide) (by decide) (by decide)))
   ·
    have l10:=hall ⟨10,.data⟩ (by simp) rfl
    have e10:b.tmps.getD 19 undef = .pointer (some ⟨g,(ns-1) * 60,none⟩):=(h.tab.val 10 19 rfl l10).trans (h.fact 10 l10)
    have e10':b.tmps[19]?.getD undef = .pointer (some ⟨g,(ns-1) * 60,none⟩):=(by simpa using e10)
    have p0:W.rangeAt g ((ns-1) * 60) (encRow now):=hpre
    have f0:b.eval (.tmp 19) = .pointer (some ⟨g,(ns-1) * 60,none⟩):=e10
    exact wide_val (v:=.agg (rowA now)) (by simp only [execOp,f0,Sem.run_bind,run_load207 hnow p0,Result.andThen_ok,Sem.run_pure]) (FactsGoX.same h.glob rfl (h.x.pure (by decide) (by decide) (by decide) (by decide)))
   ·
    refine wide_call (f:=111) (args:=#[]) (by go_simp) ((empty_any W).mono ?_)
    rintro e wl ⟨rfl,hbl⟩
    have hgr:=below_grownNone hbl
    exact ⟨_,rfl,_,rfl,rfl,fun j _ _ hf=>hf.none hgr,fun j _ _ _ hp=>hp.keep hgr (fun e=>by cases e) (fun e=>by cases e),h.glob.trans (hbl.mono h.glob.size),h.x.pure (by decide) (by decide) (by decide) (by decide)⟩
   ·
    have hgr:W.grownBy (W.alloc (.cells (rowA zeroRow) 151)) none:=World.grownBy_alloc _ _ _
    have n15:listed.getD 15 false=false:=not_listed (h.tab.closed 15 _ rfl) ⟨13,.data⟩ (by simp) rfl hun'
    have hx:=h.x
    refine wide_val (W':=W.alloc (.cells (rowA zeroRow) 151)) (v:=.pointer (some ⟨W.heap.size,0,none⟩)) (by simp only [execOp,Sem.run_bind,run_alloc_row zero207,Result.andThen_ok,Sem.run_pure]) ⟨_,rfl,⟨W.heap.size,rfl,h.glob.size,zeroRow,zeroRow_len,by rw [rowAt?_alloc_at _ _ rfl,if_pos (by rw [rowA_size,zeroRow_len])]⟩,fun j _ _ hf=>hf.none hgr,fun j _ _ _ hp=>hp.keep hgr (fun e=>by cases e) (fun e=>by cases e),h.glob.alloc h.glob.size _,?_⟩
    obtain ⟨x1,x2,x3⟩:=hx
    unfold exX
    rw [nextL_at,nextL_ne (show (14:Nat)≠13 by decide),nextL_ne (show (15:Nat)≠13 by decide),nextL_ne (show (16:Nat)≠13 by decide),nextV_at,nextV_ne (show (14:Nat)≠13 by decide),nextV_ne (show (15:Nat)≠13 by decide),nextV_ne (show (16:Nat)≠13 by decide)]
    refine ⟨fun h=>(by rw [n15] at h;cases h),x2,fun _ h14 e=> ?_⟩
    obtain ⟨k,a1,a2,r,a3,a4⟩:=h.fact 14 h14
    rw [a1] at e
    cases e
    exact absurd (rowAt?_lt a4) (Nat.lt_irrefl _)
   ·
    have hgr:W.grownBy (W.alloc (.cells (rowA zeroRow) 151)) none:=World.grownBy_alloc _ _ _
    have n16:listed.getD 16 false=false:=not_listed (h.tab.closed 16 _ rfl) ⟨14,.data⟩ (by simp) rfl hun'
    have hx:=h.x
    refine wide_val (W':=W.alloc (.cells (rowA zeroRow) 151)) (v:=.pointer (some ⟨W.heap.size,0,none⟩)) (by simp only [execOp,Sem.run_bind,run_alloc_row zero207,Result.andThen_ok,Sem.run_pure]) ⟨_,rfl,⟨W.heap.size,rfl,h.glob.size,zeroRow,zeroRow_len,by rw [rowAt?_alloc_at _ _ rfl,if_pos (by rw [rowA_size,zeroRow_len])]⟩,fun j _ _ hf=>hf.none hgr,fun j _ _ _ hp=>hp.keep hgr (fun e=>by cases e) (fun e=>by cases e),h.glob.alloc h.glob.size _,?_⟩
    obtain ⟨x1,x2,x3⟩:=hx
    unfold exX
    rw [nextL_at,nextL_ne (show (13:Nat)≠14 by decide),nextL_ne (show (15:Nat)≠14 by decide),nextL_ne (show (16:Nat)≠14 by decide),nextV_at,nextV_ne (show (13:Nat)≠14 by decide),nextV_ne (show (15:Nat)≠14 by decide),nextV_ne (show (16:Nat)≠14 by decide)]
    refine ⟨x1,fun h=>(by rw [n16] at h;cases h),fun h13 _ e=> ?_⟩
    obtain ⟨k,a1,a2,r,a3,a4⟩:=h.fact 13 h13
    rw [a1] at e
    cases e
    exact absurd (rowAt?_lt a4) (Nat.lt_irrefl _)
   ·
    have l13:=hall ⟨13,.data⟩ (by simp) rfl
    have l11:=hall ⟨11,.data⟩ (by simp) rfl
    have e11:b.tmps.getD 20 undef = .agg (rowA now):=(h.tab.val 11 20 rfl l11).trans (h.fact 11 l11)
    have e11':b.tmps[20]?.getD undef = .agg (rowA now):=(by simpa using e11)
    have hx:=h.x
    obtain ⟨k,a1,a2,r,a3,a4⟩:=h.fact 13 l13
    have f0:b.tmps.getD 4 undef = .pointer (some ⟨k,0,none⟩):=(h.tab.val 13 4 rfl l13).trans a1
    have f0e:b.eval (.tmp 4) = .pointer (some ⟨k,0,none⟩):=f0
    have f1e:b.eval (.tmp 20) = .agg (rowA now):=e11
    have hgr:=rowAt?_setRow_grown W k (rowA now)
    have y14:listed.getD 14 false=true:=hall ⟨14,.phase⟩ (by simp) rfl
    obtain ⟨x1,x2,x3⟩:=hx
    have x3':=x3 l13 y14
    have hgn:some k≠some g:=(fun e=>by cases e;omega)
    have hbn:some k≠some ba:=(fun e=>by cases e;omega)
    have hnr:rowAt? (W.setRow k (rowA now)) k 60=some (rowA now):=rowAt?_setRow_same _ (by rw [a4];rfl) (by rw [rowA_size,hnow])
    refine wide_skip (W':=W.setRow k (rowA now)) (by simp only [execOp,f0e,f1e,Sem.run_bind,run_storeAt_row row207,a4,hnow,Option.isSome_some,and_self,if_true,Result.andThen_ok,Sem.run_pure]) ⟨.pointer (some ⟨k,0,none⟩),rfl,⟨k,rfl,a2,hnr⟩,?_,fun j _ _ _ hp=>hp.keep hgr hbn hgn,h.glob.grown hgr (by have:=h.glob.size;omega) (fun q e=>by cases e;exact a2),?_⟩
    · intro j hj hl hf
      by_cases e13:j=13
      · subst e13;obtain ⟨k2,b1,_⟩:=id hf;rw [a1] at b1;cases b1;exact ⟨k,a1,a2,now,hnow,hnr⟩
      · refine hf.keep hgr (fun _ e _=>absurd e e13) (fun q e hq h2=> ?_) (fun _ e _=>absurd e hj) (fun q e hq h2=> ?_)
        · subst e;cases h2;exact x3' (a1.trans hq.symm)
        · subst e;cases h2;exact x3' (a1.trans (hq.symm.trans (x2 hl)))
    · exact ⟨fun _=>by rw [nextV_at,nextV_ne (by decide),a1],fun h=>by rw [nextV_ne (by decide),nextV_ne (by decide)];exact x2 h,fun h1 h2=>by rw [nextV_ne (by decide),nextV_ne (by decide)];exact x3'⟩
   ·
    have l14:=hall ⟨14,.data⟩ (by simp) rfl
    have l12:=hall ⟨12,.data⟩ (by simp) rfl
    have e12:b.tmps.getD 21 undef = .agg (rowA emptyRow):=(h.tab.val 12 21 rfl l12).trans (h.fact 12 l12)
    have e12':b.tmps[21]?.getD undef = .agg (rowA emptyRow):=(by simpa using e12)
    have hx:=h.x
    obtain ⟨k,a1,a2,r,a3,a4⟩:=h.fact 14 l14
    have f0:b.tmps.getD 5 undef = .pointer (some ⟨k,0,none⟩):=(h.tab.val 14 5 rfl l14).trans a1
    have f0e:b.eval (.tmp 5) = .pointer (some ⟨k,0,none⟩):=f0
    have f1e:b.eval (.tmp 21) = .agg (rowA emptyRow):=e12
    have hgr:=rowAt?_setRow_grown W k (rowA emptyRow)
    have y13:listed.getD 13 false=true:=hall ⟨13,.phase⟩ (by simp) rfl
    obtain ⟨x1,x2,x3⟩:=hx
    have x3':=x3 y13 l14
    have hgn:some k≠some g:=(fun e=>by cases e;omega)
    have hbn:some k≠some ba:=(fun e=>by cases e;omega)
    have hnr:rowAt? (W.setRow k (rowA emptyRow)) k 60=some (rowA emptyRow):=rowAt?_setRow_same _ (by rw [a4];rfl) (by rw [rowA_size,emptyRow_len])
    refine wide_skip (W':=W.setRow k (rowA emptyRow)) (by simp only [execOp,f0e,f1e,Sem.run_bind,run_storeAt_row row207,a4,emptyRow_len,Option.isSome_some,and_self,if_true,Result.andThen_ok,Sem.run_pure]) ⟨.pointer (some ⟨k,0,none⟩),rfl,⟨k,rfl,a2,hnr⟩,?_,fun j _ _ _ hp=>hp.keep hgr hbn hgn,h.glob.grown hgr (by have:=h.glob.size;omega) (fun q e=>by cases e;exact a2),?_⟩
    · intro j hj hl hf
      by_cases e14:j=14
      · subst e14;obtain ⟨k2,b1,_⟩:=id hf;rw [a1] at b1;cases b1;exact ⟨k,a1,a2,emptyRow,emptyRow_len,hnr⟩
      · refine hf.keep hgr (fun q e hq h2=> ?_) (fun _ e _=>absurd e e14) (fun q e hq h2=> ?_) (fun _ e _=>absurd e hj)
        · subst e;cases h2;exact x3' (hq.trans a1.symm)
        · subst e;cases h2;exact x3' ((x1 hl).symm.trans (hq.trans a1.symm))
    · exact ⟨fun h=>by rw [nextV_ne (by decide),nextV_ne (by decide)];exact x1 h,fun _=>by rw [nextV_at,nextV_ne (by decide),a1],fun h1 h2=>by rw [nextV_ne (by decide),nextV_ne (by decide)];exact x3'⟩
 · intro V W hf hg hx
   obtain ⟨k4,a1,a2,a3⟩:=hf 15 (by decide)
   obtain ⟨k5,b1,b2,b3⟩:=hf 16 (by decide)
   obtain ⟨x1,x2,x3⟩:=hx
   have c1:=(x1 rfl).symm.trans a1
   have c2:=(x2 rfl).symm.trans b1
   have c3:k4≠k5:=fun e=>x3 rfl rfl (by rw [c1,c2,e])
   have:=hQ W k4 k5 hg a2 b2 c3 a3 b3
   have hV:V 0 = .pointer (some ⟨ba,off,none⟩)∧V 1 = .pointer (some ⟨ba,off,none⟩)∧V 2 = .pointer (some ⟨ba,off,none⟩)∧V 3 = .slice (some ⟨g,0,none⟩) ns cs∧V 4 = .pointer (some ⟨ba,off,none⟩)∧V 5 = .pointer (some ⟨ba,off,none⟩)∧V 6 = .pointer (some ⟨ba,off,none⟩)∧V 7 = .slice (some ⟨g,0,none⟩) ns cs∧V 8 = .int .i64 ns∧V 9 = .int .i64 (ns-1)∧V 10 = .pointer (some ⟨g,(ns-1) * 60,none⟩)∧V 11 = .agg (rowA now)∧V 12 = .agg (rowA emptyRow):=⟨hf 0 (by decide),hf 1 (by decide),hf 2 (by decide),hf 3 (by decide),hf 4 (by decide),hf 5 (by decide),hf 6 (by decide),hf 7 (by decide),hf 8 (by decide),hf 9 (by decide),hf 10 (by decide),hf 11 (by decide),hf 12 (by decide)⟩
   obtain ⟨v0,v1,v2,v3,v4,v5,v6,v7,v8,v9,v10,v11,v12⟩:=hV
   simp only [List.size_toArray,List.length_cons,List.length_nil,Nat.reduceAdd,framed,dstOf,List.getElem?_toArray,List.getElem?_cons_zero,List.getElem?_cons_succ,Option.bind_some,v0,v1,v2,v3,v4,v5,v6,v7,v8,v9,v10,v11,v12,c1,c2]
   exact this
def code164_7:Option Code→Code
 | some (.seq _ (.seq _ (.seq _ (.seq (.seq _ (.block _ (.loop (.seq _ (.seq _ (.seq (.block _ (.seq _ (.seq _ (.cond _ c _)))) _)))))) _))))=>c
 | _=> .skip
def factS (bx k4 k5 k6 k:Nat) (x:Bound) (xs:Int) (L1 L2:Row):Nat→Value→World→Prop
 | 0,v,_=>v = .pointer (some ⟨bx,1,none⟩)
 | 1,v,_=>v = .int .i64 x.dst
 | 2,v,_=>v = .pointer (some ⟨bx,1,none⟩)
 | 3,v,_=>v = .int .i64 x.dst
 | 4,v,_=>v = .pointer (some ⟨bx,0,none⟩)
 | 5,v,_=>v = .int .i64 x.src
 | 6,v,_=>v = .pointer (some ⟨k4,x.src.toNat,none⟩)
 | 7,v,_=>v = .int .i64 xs
 | 8,v,_=>v = .pointer (some ⟨bx,2,none⟩)
 | 9,v,_=>v = .int .i64 x.most
 | 10,v,_=>v = .int .i64 (xs+x.most)
 | 11,v,_=>v = .int .i64 k
 | 12,v,_=>v = .pointer (some ⟨k5,x.dst.toNat,none⟩)
 | 14,v,_=>v = .pointer (some ⟨k6,x.dst.toNat,none⟩)
 | 13,_,W=>rowAt? W k5 60=some (rowA (rPut L1 x.dst (xs+x.most)))
 | 15,_,W=>rowAt? W k6 60=some (rowA (rPut L2 x.dst k))
 | _,_,_=>True
def preS (bx k4 k5 k6 _:Nat) (x:Bound) (xs:Int) (L1 L2:Row):Nat→World→Prop
 | 1,W=>W.cell? ⟨bx,1,none⟩=some (.int .i64 x.dst)
 | 3,W=>W.cell? ⟨bx,1,none⟩=some (.int .i64 x.dst)
 | 5,W=>W.cell? ⟨bx,0,none⟩=some (.int .i64 x.src)
 | 7,W=>W.cell? ⟨k4,x.src.toNat,none⟩=some (.int .i64 xs)
 | 9,W=>W.cell? ⟨bx,2,none⟩=some (.int .i64 x.most)
 | 13,W=>rowAt? W k5 60=some (rowA L1)
 | 15,W=>rowAt? W k6 60=some (rowA L2)
 | _,_=>True
theorem longer7 (c:Code) (hc:c=code164_7 Tryz.f112.body) (bx k4 k5 k6 k:Nat) (x:Bound) (xs:Int) (L1 L2:Row) (a:Act) (w:World) (Q:Exit→Act→World→Prop)
 (hT:a.tmps.size=84) (t8:a.tmps.getD 8 undef = .pointer (some ⟨bx,0,none⟩)) (t4:a.tmps.getD 4 undef = .pointer (some ⟨k4,0,none⟩)) (t5:a.tmps.getD 5 undef = .pointer (some ⟨k5,0,none⟩)) (t6:a.tmps.getD 6 undef = .pointer (some ⟨k6,0,none⟩)) (t7:a.tmps.getD 7 undef = .int .i64 k)
 (c0:w.cell? ⟨bx,0,none⟩=some (.int .i64 x.src)) (c1:w.cell? ⟨bx,1,none⟩=some (.int .i64 x.dst)) (c2:w.cell? ⟨bx,2,none⟩=some (.int .i64 x.most)) (c4:w.cell? ⟨k4,x.src.toNat,none⟩=some (.int .i64 xs))
 (r5:rowAt? w k5 60=some (rowA L1)) (r6:rowAt? w k6 60=some (rowA L2)) (o1:0≤x.src) (o2:x.src<60) (o3:0≤x.dst) (o4:x.dst<60) (hw:IntKind.i64.wrap (xs+x.most)=xs+x.most)
 (n1:k5≠bx) (n2:k6≠bx) (n3:k5≠k4) (n4:k6≠k4) (n5:k5≠k6)
 (hQ:∀ W,ChgT (fun q=>q=k5∨q=k6) w W→rowAt? W k5 60=some (rowA (rPut L1 x.dst (xs+x.most)))→rowAt? W k6 60=some (rowA (rPut L2 x.dst k))→
   Q .normal { tmps:=((((((((((((((a.tmps.setIfInBounds 49 (.pointer (some ⟨bx,1,none⟩))).setIfInBounds 50 (.int .i64 x.dst)).setIfInBounds 51 (.pointer (some ⟨bx,1,none⟩))).setIfInBounds 52 (.int .i64 x.dst)).setIfInBounds 53 (.pointer (some ⟨bx,0,none⟩))).setIfInBounds 54 (.int .i64 x.src)).setIfInBounds 55 (.pointer (some ⟨k4,x.src.toNat,none⟩))).setIfInBounds 56 (.int .i64 xs)).setIfInBounds 57 (.pointer (some ⟨bx,2,none⟩))).setIfInBounds 58 (.int .i64 x.most)).setIfInBounds 59 (.int .i64 (xs+x.most))).setIfInBounds 60 (.int .i64 k)).setIfInBounds 61 (.pointer (some ⟨k5,x.dst.toNat,none⟩))).setIfInBounds 62 (.pointer (some ⟨k6,x.dst.toNat,none⟩))),defers:=a.defers } W):
 c.wp Tryz.prog Q a w:=by
 subst hc
 unfold code164_7 Tryz.f112
 dsimp only
 have HW:=Lib.hid hw
 clear hw
 refine wpIn_wide.1 (wpIn_region_facts (nn:=5) 84 (by kernel_rfl) (by kernel_rfl) hT.symm (factS bx k4 k5 k6 k x xs L1 L2) (preS bx k4 k5 k6 k x xs L1 L2) (fun W=>ChgT (fun q=>q=k5∨q=k6) w W) (ChgT.refl _ w).drew ?_ ?_ ?_)
 · intro j hj
   unfold preS
   split
   all_goals first|exact c0|exact c1|exact c2|exact c4|exact r5|exact r6|trivial
 · intro V listed i o b W hi ho h
   clear c0 c1 c2 c4 r5 r6 hQ
   obtain ⟨hun,oi,hoi,hall⟩:=mem_ready.1 hi
   have:oi=o:=Option.some.inj (hoi.symm.trans ho)
   subst this
   clear hoi hi
   have hlt:i<16:=(by have:=(Array.getElem?_eq_some_iff.1 ho).1;simpa using this)
   have hun':listed.getD i false=false:=getD_both hun
   have hpre:=h.pre i (by simpa using hlt) hun'
   rcases (by omega:i=0∨i=1∨i=2∨i=3∨i=4∨i=5∨i=6∨i=7∨i=8∨i=9∨i=10∨i=11∨i=12∨i=13∨i=14∨i=15) with rfl|rfl|rfl|rfl|rfl|rfl|rfl|rfl|rfl|rfl|rfl|rfl|rfl|rfl|rfl|rfl
   all_goals simp only [List.getElem?_toArray,List.getElem?_cons_zero,List.getElem?_cons_succ] at ho
   all_goals cases ho
   ·
    have q8:=(h.tab.old 8 (dst_no h.tab (by kernel_rfl))).trans t8
    have q8':b.tmps[8]?.getD undef=_:=(by simpa using q8)
    refine wide_val (v:=.pointer (some ⟨bx,1,none⟩)) (by go_simp;try rfl) (FactsGo.same h.glob rfl)
   ·
    have l0:=hall ⟨0,.data⟩ (by simp) rfl
    have e0:b.tmps.getD 49 undef = .pointer (some ⟨bx,1,none⟩):=(h.tab.val 0 49 rfl l0).trans (h.fact 0 l0)
    have e0':b.tmps[49]?.getD undef = .pointer (some ⟨bx,1,none⟩):=(by simpa using e0)
    have p0:W.cell? ⟨bx,1,none⟩=some (.int .i64 x.dst):=hpre
    refine wide_val (v:=.int .i64 x.dst) (by go_simp;try rfl) (FactsGo.same h.glob rfl)
   ·
    have q8:=(h.tab.old 8 (dst_no h.tab (by kernel_rfl))).trans t8
    have q8':b.tmps[8]?.getD undef=_:=(by simpa using q8)
    refine wide_val (v:=.pointer (some ⟨bx,1,none⟩)) (by go_simp;try rfl) (FactsGo.same h.glob rfl)
   ·
    have l2:=hall ⟨2,.data⟩ (by simp) rfl
    have e2:b.tmps.getD 51 undef = .pointer (some ⟨bx,1,none⟩):=(h.tab.val 2 51 rfl l2).trans (h.fact 2 l2)
    have e2':b.tmps[51]?.getD undef = .pointer (some ⟨bx,1,none⟩):=(by simpa using e2)
    have p0:W.cell? ⟨bx,1,none⟩=some (.int .i64 x.dst):=hpre
    refine wide_val (v:=.int .i64 x.dst) (by go_simp;try rfl) (FactsGo.same h.glob rfl)
   ·
    have q8:=(h.tab.old 8 (dst_no h.tab (by kernel_rfl))).trans t8
    have q8':b.tmps[8]?.getD undef=_:=(by simpa using q8)
    refine wide_val (v:=.pointer (some ⟨bx,0,none⟩)) (by go_simp;try rfl) (FactsGo.same h.glob rfl)
   ·
    have l4:=hall ⟨4,.data⟩ (by simp) rfl
    have e4:b.tmps.getD 53 undef = .pointer (some ⟨bx,0,none⟩):=(h.tab.val 4 53 rfl l4).trans (h.fact 4 l4)
    have e4':b.tmps[53]?.getD undef = .pointer (some ⟨bx,0,none⟩):=(by simpa using e4)
    have p0:W.cell? ⟨bx,0,none⟩=some (.int .i64 x.src):=hpre
    refine wide_val (v:=.int .i64 x.src) (by go_simp;try rfl) (FactsGo.same h.glob rfl)
   ·
    have q4:=(h.tab.old 4 (dst_no h.tab (by kernel_rfl))).trans t4
    have q4':b.tmps[4]?.getD undef=_:=(by simpa using q4)
    have l5:=hall ⟨5,.data⟩ (by simp) rfl
    have e5:b.tmps.getD 54 undef = .int .i64 x.src:=(h.tab.val 5 54 rfl l5).trans (h.fact 5 l5)
    have e5':b.tmps[54]?.getD undef = .int .i64 x.src:=(by simpa using e5)
    refine wide_val (v:=.pointer (some ⟨k4,x.src.toNat,none⟩)) (by go_simp;try (rw [if_pos (by omega)])) (FactsGo.same h.glob rfl)
   ·
    have l6:=hall ⟨6,.data⟩ (by simp) rfl
    have e6:b.tmps.getD 55 undef = .pointer (some ⟨k4,x.src.toNat,none⟩):=(h.tab.val 6 55 rfl l6).trans (h.fact 6 l6)
    have e6':b.tmps[55]?.getD undef = .pointer (some ⟨k4,x.src.toNat,none⟩):=(by simpa using e6)
    have p0:W.cell? ⟨k4,x.src.toNat,none⟩=some (.int .i64 xs):=hpre
    refine wide_val (v:=.int .i64 xs) (by go_simp;try rfl) (FactsGo.same h.glob rfl)
   ·
    have q8:=(h.tab.old 8 (dst_no h.tab (by kernel_rfl))).trans t8
    have q8':b.tmps[8]?.getD undef=_:=(by simpa using q8)
    refine wide_val (v:=.pointer (some ⟨bx,2,none⟩)) (by go_simp;try rfl) (FactsGo.same h.glob rfl)
   ·
    have l8:=hall ⟨8,.data⟩ (by simp) rfl
    have e8:b.tmps.getD 57 undef = .pointer (some ⟨bx,2,none⟩):=(h.tab.val 8 57 rfl l8).trans (h.fact 8 l8)
    have e8':b.tmps[57]?.getD undef = .pointer (some ⟨bx,2,none⟩):=(by simpa using e8)
    have p0:W.cell? ⟨bx,2,none⟩=some (.int .i64 x.most):=hpre
    refine wide_val (v:=.int .i64 x.most) (by go_simp;try rfl) (FactsGo.same h.glob rfl)
   ·
    have l7:=hall ⟨7,.data⟩ (by simp) rfl
    have e7:b.tmps.getD 56 undef = .int .i64 xs:=(h.tab.val 7 56 rfl l7).trans (h.fact 7 l7)
    have e7':b.tmps[56]?.getD undef = .int .i64 xs:=(by simpa using e7)
    have l9:=hall ⟨9,.data⟩ (by simp) rfl
    have e9:b.tmps.getD 58 undef = .int .i64 x.most:=(h.tab.val 9 58 rfl l9).trans (h.fact 9 l9)
    have e9':b.tmps[58]?.getD undef = .int .i64 x.most:=(by simpa using e9)
    have hw:=HW.out
    refine wide_val (v:=.int .i64 (xs+x.most)) (by go_simp;try rfl) (FactsGo.same h.glob rfl)
   ·
    have q7:=(h.tab.old 7 (dst_no h.tab (by kernel_rfl))).trans t7
    have q7':b.tmps[7]?.getD undef=_:=(by simpa using q7)
    refine wide_val (v:=.int .i64 k) (by go_simp;try rfl) (FactsGo.same h.glob rfl)
   ·
    have q5:=(h.tab.old 5 (dst_no h.tab (by kernel_rfl))).trans t5
    have q5':b.tmps[5]?.getD undef=_:=(by simpa using q5)
    have l1:=hall ⟨1,.data⟩ (by simp) rfl
    have e1:b.tmps.getD 50 undef = .int .i64 x.dst:=(h.tab.val 1 50 rfl l1).trans (h.fact 1 l1)
    have e1':b.tmps[50]?.getD undef = .int .i64 x.dst:=(by simpa using e1)
    refine wide_val (v:=.pointer (some ⟨k5,x.dst.toNat,none⟩)) (by go_simp;try (rw [if_pos (by omega)])) (FactsGo.same h.glob rfl)
   ·
    have l12:=hall ⟨12,.data⟩ (by simp) rfl
    have e12:b.tmps.getD 61 undef = .pointer (some ⟨k5,x.dst.toNat,none⟩):=(h.tab.val 12 61 rfl l12).trans (h.fact 12 l12)
    have e12':b.tmps[61]?.getD undef = .pointer (some ⟨k5,x.dst.toNat,none⟩):=(by simpa using e12)
    have l10:=hall ⟨10,.data⟩ (by simp) rfl
    have e10:b.tmps.getD 59 undef = .int .i64 (xs+x.most):=(h.tab.val 10 59 rfl l10).trans (h.fact 10 l10)
    have e10':b.tmps[59]?.getD undef = .int .i64 (xs+x.most):=(by simpa using e10)
    have p0:rowAt? W k5 60=some (rowA L1):=hpre
    have hl:=rowAt?_len p0
    have d0:=rowAt?_int p0 (i:=x.dst.toNat) (by omega)
    have d1:=rowAt?_free p0 x.dst.toNat
    have hgr:W.grownBy (W.setCell ⟨k5,x.dst.toNat,none⟩ (.int .i64 (xs+x.most))) (some k5):=grownBy_setCell' W k5 _ _
    have hnr:rowAt? (W.setCell ⟨k5,x.dst.toNat,none⟩ (.int .i64 (xs+x.most))) k5 60=some (rowA (rPut L1 x.dst (xs+x.most))):=(by rw [rowAt?_setCell_same,p0];simp only [Option.map_some,rowA_set];rfl)
    refine wide_skip (W':=W.setCell ⟨k5,x.dst.toNat,none⟩ (.int .i64 (xs+x.most))) (by go_simp) ⟨undef,rfl,hnr,?_,?_,h.glob.grown hgr (fun r e=> .inl (by cases e;simp))⟩
    · intro j hj hl hf
      unfold factS at hf ⊢
      split at hf
      all_goals first
       | exact hf
       | exact absurd rfl hj
       | exact rowAt?_grown hf hgr (fun e=>by cases e;exact n5 rfl)
    · intro j hjs hj hl hp
      unfold preS at hp ⊢
      split at hp
      all_goals first
       | exact hp
       | exact absurd rfl hj
       | exact cell_grown hp hgr (fun e=>by cases e;first|exact n1 rfl|exact n2 rfl|exact n3 rfl|exact n4 rfl)
       | exact rowAt?_grown hp hgr (fun e=>by cases e;exact n5 rfl)
   ·
    have q6:=(h.tab.old 6 (dst_no h.tab (by kernel_rfl))).trans t6
    have q6':b.tmps[6]?.getD undef=_:=(by simpa using q6)
    have l3:=hall ⟨3,.data⟩ (by simp) rfl
    have e3:b.tmps.getD 52 undef = .int .i64 x.dst:=(h.tab.val 3 52 rfl l3).trans (h.fact 3 l3)
    have e3':b.tmps[52]?.getD undef = .int .i64 x.dst:=(by simpa using e3)
    refine wide_val (v:=.pointer (some ⟨k6,x.dst.toNat,none⟩)) (by go_simp;try (rw [if_pos (by omega)])) (FactsGo.same h.glob rfl)
   ·
    have l14:=hall ⟨14,.data⟩ (by simp) rfl
    have e14:b.tmps.getD 62 undef = .pointer (some ⟨k6,x.dst.toNat,none⟩):=(h.tab.val 14 62 rfl l14).trans (h.fact 14 l14)
    have e14':b.tmps[62]?.getD undef = .pointer (some ⟨k6,x.dst.toNat,none⟩):=(by simpa using e14)
    have l11:=hall ⟨11,.data⟩ (by simp) rfl
    have e11:b.tmps.getD 60 undef = .int .i64 k:=(h.tab.val 11 60 rfl l11).trans (h.fact 11 l11)
    have e11':b.tmps[60]?.getD undef = .int .i64 k:=(by simpa using e11)
    have p0:rowAt? W k6 60=some (rowA L2):=hpre
    have hl:=rowAt?_len p0
    have d0:=rowAt?_int p0 (i:=x.dst.toNat) (by omega)
    have d1:=rowAt?_free p0 x.dst.toNat
    have hgr:W.grownBy (W.setCell ⟨k6,x.dst.toNat,none⟩ (.int .i64 k)) (some k6):=grownBy_setCell' W k6 _ _
    have hnr:rowAt? (W.setCell ⟨k6,x.dst.toNat,none⟩ (.int .i64 k)) k6 60=some (rowA (rPut L2 x.dst k)):=(by rw [rowAt?_setCell_same,p0];simp only [Option.map_some,rowA_set];rfl)
    refine wide_skip (W':=W.setCell ⟨k6,x.dst.toNat,none⟩ (.int .i64 k)) (by go_simp) ⟨undef,rfl,hnr,?_,?_,h.glob.grown hgr (fun r e=> .inl (by cases e;simp))⟩
    · intro j hj hl hf
      unfold factS at hf ⊢
      split at hf
      all_goals first
       | exact hf
       | exact absurd rfl hj
       | exact rowAt?_grown hf hgr (fun e=>by cases e;exact n5 rfl)
    · intro j hjs hj hl hp
      unfold preS at hp ⊢
      split at hp
      all_goals first
       | exact hp
       | exact absurd rfl hj
       | exact cell_grown hp hgr (fun e=>by cases e;first|exact n1 rfl|exact n2 rfl|exact n3 rfl|exact n4 rfl)
       | exact rowAt?_grown hp hgr (fun e=>by cases e;exact n5 rfl)
 · intro V W hf hg
   have:=hQ W hg (hf 13 (by decide)) (hf 15 (by decide))
   have hV:V 0 = .pointer (some ⟨bx,1,none⟩)∧V 1 = .int .i64 x.dst∧V 2 = .pointer (some ⟨bx,1,none⟩)∧V 3 = .int .i64 x.dst∧V 4 = .pointer (some ⟨bx,0,none⟩)∧V 5 = .int .i64 x.src∧V 6 = .pointer (some ⟨k4,x.src.toNat,none⟩)∧V 7 = .int .i64 xs∧V 8 = .pointer (some ⟨bx,2,none⟩)∧V 9 = .int .i64 x.most∧V 10 = .int .i64 (xs+x.most)∧V 11 = .int .i64 k∧V 12 = .pointer (some ⟨k5,x.dst.toNat,none⟩)∧V 14 = .pointer (some ⟨k6,x.dst.toNat,none⟩):=⟨hf 0 (by decide),hf 1 (by decide),hf 2 (by decide),hf 3 (by decide),hf 4 (by decide),hf 5 (by decide),hf 6 (by decide),hf 7 (by decide),hf 8 (by decide),hf 9 (by decide),hf 10 (by decide),hf 11 (by decide),hf 12 (by decide),hf 14 (by decide)⟩
   obtain ⟨v0,v1,v2,v3,v4,v5,v6,v7,v8,v9,v10,v11,v12,v14⟩:=hV
   simp only [List.size_toArray,List.length_cons,List.length_nil,Nat.reduceAdd,framed,dstOf,List.getElem?_toArray,List.getElem?_cons_zero,List.getElem?_cons_succ,Option.bind_some,v0,v1,v2,v3,v4,v5,v6,v7,v8,v9,v10,v11,v12,v14]
   exact this
end Go.Proofs.YtpmkgmilfifkpaaGreatDoor
end

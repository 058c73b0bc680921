/- Contracts that the laws lean on: Trc, Cont, Links, Link1. -/
import Derived.Test.YtejjplhknacoiaaGreatDoorLK08
set_option maxRecDepth 100000
set_option maxHeartbeats 4000000
section
namespace Go.Proofs.YtejjplhknacoiaaGreatDoor
open Go.RowKit Go.Proofs Go.Shelf
def aboveL (x:Trace):List Link:=[⟨placeT x,lowerT x,-1,x.id⟩]
def datedL (x:Trace):List Link:=[⟨⟨0,0⟩,placeT x,x.high,x.id⟩,⟨placeT x,⟨0,0⟩,-x.low,x.id⟩]
theorem moved_any (x:Trace) (w:World):Calls Tryz.prog 113 #[.agg #[.int .i64 x.id,.int .i64 x.known,.int .u8 x.kind,.int .i64 x.pit,.int .i64 x.layer,.int .i64 x.lower,.int .i64 x.low,.int .i64 x.high,.int .i64 x.cost,.int .i64 x.void]] w
 fun e w'=> ∃ A n c,e = .returned (.slice A n c)∧Below w.heap.size w w'∧Rd encLink 6 w' A n c []∧(∀ b o,A=some ⟨b,o,none⟩→w.heap.size≤b):=by
 go_enter Tryz.func113,Tryz.ntmps113
 go_wp2
 go_ret
 exact ⟨none,0,0,rfl,(Below.refl _ w).alloc (Nat.le_refl _) _,Rd.none_ _ _ (by omega),fun b o h=>by cases h⟩
theorem dated_any (x:Trace) (w:World) (hlow:IntKind.i64.wrap (-x.low) = -x.low):Calls Tryz.prog 112 #[.agg #[.int .i64 x.id,.int .i64 x.known,.int .u8 x.kind,.int .i64 x.pit,.int .i64 x.layer,.int .i64 x.lower,.int .i64 x.low,.int .i64 x.high,.int .i64 x.cost,.int .i64 x.void]] w
 fun e w'=> ∃ A n c,e = .returned (.slice A n c)∧Below w.heap.size w w'∧Rd encLink 6 w' A n c (datedL x)∧(∀ b o,A=some ⟨b,o,none⟩→w.heap.size≤b):=by
 go_enter Tryz.func112,Tryz.ntmps112
 go_wp2_with (go_at_call 43;refine (place_any _ _ _ _ _ _ _ _ _ _ _).mono ?_;rintro e wP ⟨rfl,hbP⟩;obtain ⟨hccP,hffP⟩:=bcell hbP;have hzP:=hbP.size;(try simp only [World.size_alloc] at hzP);have:w.heap.size<wP.heap.size:=(by omega))
 go_ret
 refine ⟨_,_,_,rfl,(by ((repeat' (first|(with_reducible assumption)|(with_reducible exact Below.refl _ _)|(with_reducible refine Below.drew ?_)|(with_reducible refine below_drewN' ?_ _)|(with_reducible refine Below.alloc ?_ ?_ _)|(with_reducible refine Below.setCell ?_ ?_ _)|(with_reducible refine below_step (by assumption) ?_ ?_)))<;>first|(simp;done)|(simp;omega)|omega)),?_,fun b o h=>by cases h;(first|omega|(simp;omega)|(simp;done))⟩
 have:=Rd.single (enc:=encLink) (k:=6) ((wP.alloc (.cells #[.int .i64 x.pit,.int .i64 x.layer] 36)).alloc (.cells #[.int .i64 0,.int .i64 0] 36)) #[.int .i64 0,.int .i64 0,.int .i64 x.pit,.int .i64 x.layer,.int .i64 x.high,.int .i64 x.id,.int .i64 x.pit,.int .i64 x.layer,.int .i64 0,.int .i64 0,.int .i64 (-x.low),.int .i64 x.id] 138 (datedL x) 2 rfl (by omega) (fun _=>rfl) (by simp [datedL,encLink,placeT])
 simpa using this
theorem above_any (x:Trace) (w:World):Calls Tryz.prog 111 #[.agg #[.int .i64 x.id,.int .i64 x.known,.int .u8 x.kind,.int .i64 x.pit,.int .i64 x.layer,.int .i64 x.lower,.int .i64 x.low,.int .i64 x.high,.int .i64 x.cost,.int .i64 x.void]] w
 fun e w'=> ∃ A n c,e = .returned (.slice A n c)∧Below w.heap.size w w'∧Rd encLink 6 w' A n c (aboveL x)∧(∀ b o,A=some ⟨b,o,none⟩→w.heap.size≤b):=by
 go_enter Tryz.func111,Tryz.ntmps111
 go_wp2_with (fail)
 generalize hW:w.alloc (.cells #[.int .i64 x.id,.int .i64 x.known,.int .u8 x.kind,.int .i64 x.pit,.int .i64 x.layer,.int .i64 x.lower,.int .i64 x.low,.int .i64 x.high,.int .i64 x.cost,.int .i64 x.void] 193)=W
 have f0:W.cell? ⟨w.heap.size,0,none⟩=some (.int .i64 x.id):=by rw [←hW];simp
 have f1:W.cell? ⟨w.heap.size,1,none⟩=some (.int .i64 x.known):=by rw [←hW];simp
 have f2:W.cell? ⟨w.heap.size,2,none⟩=some (.int .u8 x.kind):=by rw [←hW];simp
 have f3:W.cell? ⟨w.heap.size,3,none⟩=some (.int .i64 x.pit):=by rw [←hW];simp
 have f4:W.cell? ⟨w.heap.size,4,none⟩=some (.int .i64 x.layer):=by rw [←hW];simp
 have f5:W.cell? ⟨w.heap.size,5,none⟩=some (.int .i64 x.lower):=by rw [←hW];simp
 have f6:W.cell? ⟨w.heap.size,6,none⟩=some (.int .i64 x.low):=by rw [←hW];simp
 have f7:W.cell? ⟨w.heap.size,7,none⟩=some (.int .i64 x.high):=by rw [←hW];simp
 have f8:W.cell? ⟨w.heap.size,8,none⟩=some (.int .i64 x.cost):=by rw [←hW];simp
 have f9:W.cell? ⟨w.heap.size,9,none⟩=some (.int .i64 x.void):=by rw [←hW];simp
 have hbW:Below w.heap.size w W:=by rw [←hW];exact (by ((repeat' (first|(with_reducible assumption)|(with_reducible exact Below.refl _ _)|(with_reducible refine Below.drew ?_)|(with_reducible refine below_drewN' ?_ _)|(with_reducible refine Below.alloc ?_ ?_ _)|(with_reducible refine Below.setCell ?_ ?_ _)|(with_reducible refine below_step (by assumption) ?_ ?_)))<;>first|(simp;done)|(simp;omega)|omega))
 have hzW:=hbW.size
 have hWs:w.heap.size<W.heap.size:=by rw [←hW];simp
 clear hW
 go_region_with (first
  | (go_at_call 43;refine (place_any _ _ _ _ _ _ _ _ _ _ _).mono ?_;rintro e wP ⟨rfl,hbP⟩;obtain ⟨hccP,hffP⟩:=bcell hbP;have hzP:=hbP.size;(try simp only [World.size_drew,World.cell?_drew] at hccP hzP);have qP:w.heap.size<wP.heap.size:=(by omega))
  | (go_at_call 44;refine (lower_any _ _ _ _ _ _ _ _ _ _ _).mono ?_;rintro e wL ⟨rfl,hbL⟩;obtain ⟨hccL,hffL⟩:=bcell hbL;have hzL:=hbL.size;(try simp only [World.size_drew,World.cell?_drew] at hccL hzL);have qL:w.heap.size<wL.heap.size:=(by omega)))
 all_goals go_wp2
 all_goals go_ret
 all_goals refine ⟨_,_,_,rfl,(by ((repeat' (first|(with_reducible assumption)|(with_reducible exact Below.refl _ _)|(with_reducible refine Below.drew ?_)|(with_reducible refine below_drewN' ?_ _)|(with_reducible refine Below.alloc ?_ ?_ _)|(with_reducible refine Below.setCell ?_ ?_ _)|(with_reducible refine below_step (by assumption) ?_ ?_)))<;>first|(simp;done)|(simp;omega)|omega)),?_,fun b o h=>by cases h;(first|omega|(simp;omega)|(simp;done))⟩
 all_goals exact Rd.single (enc:=encLink) (k:=6) _ #[.int .i64 x.pit,.int .i64 x.layer,.int .i64 x.pit,.int .i64 x.lower,.int .i64 (-1),.int .i64 x.id] _ (aboveL x) 1 rfl (by omega) (fun _=>rfl) (by simp [aboveL,encLink,placeT,lowerT])
theorem Index_Place (A:Option Addr) (n c:Nat) (l:List Place) (p:Place) (w:World) (hl:Rd encPlace 2 w A n c l):
 Calls Tryz.prog 153 #[.slice A n c,.agg #[.int .i64 p.pit,.int .i64 p.layer]] w fun e w'=> ∃ i:Int,e = .returned (.int .i64 i)∧(decide (0≤i)=l.any (fun x=>eqPlace p x))∧Below w.heap.size w w':=by
 have hlen:=Lib.hid hl.len
 have hbig:=hl.big
 go_enter Tryz.func153,Tryz.ntmps153
 go_wp2_with (fail)
 go_loopw [8] (fun i wr=> ∃ k:Nat,k≤n∧i = .int .i64 k∧Below (w.heap.size+1) (w.alloc (.cells #[.int .i64 p.pit,.int .i64 p.layer] 36)) wr∧Hid (∀ q x,q<k→l[q]? = some x→eqPlace p x=false)) (fun i _=>n-(intOf i).toNat)
 case atStart=>exact ⟨0,Nat.zero_le _,rfl,Below.refl _ _,fun k x h=>absurd h (by omega)⟩
 case round=>
  obtain ⟨k,hk,rfl,hb,hno⟩:=hrel
  have hzr:=hb.size
  simp only [World.size_alloc] at hzr
  have hbw0:Below w.heap.size w wr:=((Below.refl _ w).alloc (Nat.le_refl _) _).trans (hb.mono (by omega))
  obtain ⟨hcc,hff⟩:=bcell hb
  have p0:wr.cell? ⟨w.heap.size,0,none⟩=some (.int .i64 p.pit):=by rw [hcc _ _ (by omega)];simp
  have p1:wr.cell? ⟨w.heap.size,1,none⟩=some (.int .i64 p.layer):=by rw [hcc _ _ (by omega)];simp
  clear hcc hff
  by_cases hlt:k<n
  · have hlr:=hl.below hbw0 (Nat.le_refl _)
    obtain ⟨b,off,x,rfl,hbw,hx,hcell⟩:=hlr.one hlt
    have c0:wr.cell? ⟨b,off+k * 2,none⟩=some (.int .i64 x.pit):=hcell 0 _ rfl
    have c1:wr.cell? ⟨b,off+k * 2+1,none⟩=some (.int .i64 x.layer):=hcell 1 _ rfl
    have HX:=Lib.hid hx
    clear hlr hcell hx
    cases hq:eqPlace p x
    · have HQ:=Lib.hid hq
      go_wp2_with (fail)
      go_region
      all_goals go_wp2
      all_goals go_roundw
      all_goals first
       | exact ⟨k+1,by omega,by go_num,hb.drew,fun q y hqk hy=>(by
          by_cases hkq:q<k
          · exact hno.out q y hkq hy
          · have:q=k:=(by omega)
            subst this
            rw [HX.out] at hy
            cases hy
            exact HQ.out)⟩
       | (simp [intOf];omega)
    · have HQ:=Lib.hid hq
      go_wp2_with (fail)
      go_region
      all_goals go_wp2
      all_goals go_ret
      all_goals exact ⟨k,rfl,by rw [List.any_eq_true.2 ⟨x,List.mem_of_getElem? HX.out,HQ.out⟩];simp,hbw0.drew⟩
  · have hkn:k=n:=by omega
    subst hkn
    go_wp2
    go_ret
    refine ⟨-1,rfl,?_,hbw0⟩
    have:l.any (fun x=>eqPlace p x)=false:=by
     rw [List.any_eq_false]
     intro x hx
     obtain ⟨q,hq,rfl⟩:=List.getElem_of_mem hx
     rw [hno.out q _ (by rw [←hlen.out];exact hq) (List.getElem?_eq_getElem hq)]
     simp
    rw [this]
    rfl
theorem Contains_Place (A:Option Addr) (n c:Nat) (l:List Place) (p:Place) (w:World) (hl:Rd encPlace 2 w A n c l):
 Calls Tryz.prog 115 #[.slice A n c,.agg #[.int .i64 p.pit,.int .i64 p.layer]] w fun e w'=>e = .returned (.bool (l.any (fun x=>eqPlace p x)))∧Below w.heap.size w w':=by
 have hix:=Index_Place A n c l p _ (hl.alloc (.cells #[.int .i64 p.pit,.int .i64 p.layer] 36))
 generalize l.any (fun x=>eqPlace p x)=r at hix ⊢
 go_enter Tryz.func115,Tryz.ntmps115
 go_wp2_with (go_at_call 153;refine hix.mono ?_;rintro e w1 ⟨i,rfl,hr,hb1⟩;have HR:=Lib.hid hr;clear hr)
 go_ret
 exact ⟨retB (by have:=HR.out;simpa using this),((Below.refl _ w).alloc (Nat.le_refl _) _).trans (hb1.mono (by simp))⟩
@[go_sem] theorem run_store_func' (P:Program) (w:World) (a:Addr) (f:Fn) (b c:Array Value) (m:Mode):(store a (.func f b c) m).run P w=stored P w a (.func f b c) m:=run_store P w a _ m rfl
@[go_sem] theorem run_store_nilFunc' (P:Program) (w:World) (a:Addr) (m:Mode):(store a .nilFunc m).run P w=stored P w a .nilFunc m:=run_store P w a _ m rfl
structure LinksAt (w:World) (Bo Bm Bv o:Nat) (M:Option Addr) (mn mc:Nat):Prop where
 ord:w.heap[Bo]? = some (.cells #[.pointer (some ⟨o,0,none⟩)] 75 (0,0))
 mov:w.heap[Bv]? = some (.cells #[.slice M mn mc] 37 (0,0))
 made:w.heap[Bm]? = some (.cells #[Value.nilFunc,.func (.func 111) #[] #[],.func (.func 112) #[] #[],.func (.func 113) #[] #[]] 194 (0,0))
theorem links_any (o:Nat) (M:Option Addr) (mn mc:Nat) (w:World):
 Calls Tryz.prog 71 #[.pointer (some ⟨o,0,none⟩),.slice M mn mc] w fun e w'=> ∃ Bo Bm Bv,e = .returned (.func (.func 114) #[] #[.pointer (some ⟨Bo,0,none⟩),.pointer (some ⟨Bm,0,none⟩),.pointer (some ⟨Bv,0,none⟩)])∧Below w.heap.size w w'∧
  LinksAt w' Bo Bm Bv o M mn mc∧w.heap.size≤Bo∧w.heap.size≤Bm∧w.heap.size≤Bv:=by
 go_enter Tryz.func71,Tryz.ntmps71
 go_wp2
 go_ret
 refine ⟨_,_,_,rfl,(by ((repeat' (first|(with_reducible assumption)|(with_reducible exact Below.refl _ _)|(with_reducible refine Below.drew ?_)|(with_reducible refine below_drewN' ?_ _)|(with_reducible refine Below.alloc ?_ ?_ _)|(with_reducible refine Below.setCell ?_ ?_ _)|(with_reducible refine below_step (by assumption) ?_ ?_)))<;>first|(simp;done)|(simp;omega)|omega)),⟨?_,?_,?_⟩,Nat.le_refl _,by omega,by omega⟩
 · exact (Below.heap_alloc _ _ _ (by simp;omega)).trans ((Below.heap_alloc _ _ _ (by simp)).trans (World.alloc_heap_new _ _))
 · have:=World.alloc_heap_new (w.alloc (.cells #[.pointer (some ⟨o,0,none⟩)] 75)) (.cells #[.slice M mn mc] 37)
   rw [World.size_alloc] at this
   exact (Below.heap_alloc _ _ _ (by simp)).trans this
 · have:=World.alloc_heap_new ((w.alloc (.cells #[.pointer (some ⟨o,0,none⟩)] 75)).alloc (.cells #[.slice M mn mc] 37)) (.cells #[Value.nilFunc,.func (.func 111) #[] #[],.func (.func 112) #[] #[],.func (.func 113) #[] #[]] 194)
   rw [World.size_alloc,World.size_alloc] at this
   exact this
def linkT (x:Trace):List Link:=if x.kind=1 then aboveL x else if x.kind=2 then datedL x else []
def hasPl (mv:List Place) (p:Place):Bool:=mv.any (fun x=>eqPlace p x)
def linkB (mv:List Place) (x:Bond):List Link:=if hasPl mv x.a||hasPl mv x.b then [] else [⟨x.a,x.b,0,x.by_⟩,⟨x.b,x.a,0,x.by_⟩]
def linksL (ts:List Trace) (bs:List Bond) (mv:List Place):List Link:=ts.flatMap linkT++bs.flatMap (linkB mv)
theorem flatMap_take {α β:Type} (f:α→List β) {l:List α} {k:Nat} {x:α} (h:l[k]? = some x):(l.take (k+1)).flatMap f=(l.take k).flatMap f++f x:=by
 rw [List.take_add_one,h];simp
def linkV (x:Link):Value:=.agg #[.int .i64 x.src.pit,.int .i64 x.src.layer,.int .i64 x.dst.pit,.int .i64 x.dst.layer,.int .i64 x.most,.int .i64 x.by_]
structure LkEnv (Bo Bm Bv o:Nat) (At:Option Addr) (tn ct:Nat) (bA:Option Addr) (bn bc:Nat) (M:Option Addr) (mn mc:Nat) (ts:List Trace) (bs:List Bond) (mv:List Place) (W:World):Prop where
 la:LinksAt W Bo Bm Bv o M mn mc
 o0:W.cell? ⟨o,0,none⟩=some (.slice At tn ct)
 o1:W.cell? ⟨o,1,none⟩=some (.slice bA bn bc)
 rt:Rd encTrace 10 W At tn ct ts
 rb:Rd encBond 5 W bA bn bc bs
 rm:Rd encPlace 2 W M mn mc mv
def okLT (x:Trace):Prop:=(x.kind=1∨x.kind=2∨x.kind=3)∧IntKind.i64.wrap (-x.low) = -x.low
theorem ent_above:∀ args w,(callFunc 111 args).run Tryz.prog w = .ok (.enter 111 args) w:=enters_of Tryz.func111 (by kernel_rfl) rfl
theorem ent_dated:∀ args w,(callFunc 112 args).run Tryz.prog w = .ok (.enter 112 args) w:=enters_of Tryz.func112 (by kernel_rfl) rfl
theorem ent_moved:∀ args w,(callFunc 113 args).run Tryz.prog w = .ok (.enter 113 args) w:=enters_of Tryz.func113 (by kernel_rfl) rfl
theorem flat_len2 {α β:Type} (f:α→List β) (l:List α) (h:∀ y∈l,(f y).length≤2) (k:Nat) (hk:l.length≤k):(l.flatMap f).length≤2 * k:=by
 induction l generalizing k with
 | nil=>simp
 | cons a l ih=>
   simp only [List.flatMap_cons,List.length_append,List.length_cons] at hk ⊢
   have h1:=h a (by simp)
   have h2:=ih (fun y hy=>h y (by simp [hy])) (k-1) (by omega)
   omega
theorem Rd.kept_block {α:Type} {enc:α→List Value} {k n c b off:Nat} {W W':World} {xs:List α} (h:Rd enc k W (some ⟨b,off,none⟩) n c xs) (hk:W'.heap[b]? = W.heap[b]?):Rd enc k W' (some ⟨b,off,none⟩) n c xs:=by
 refine ⟨h.len,h.big,h.cap,fun hn0=> ?_⟩
 obtain ⟨b3,off3,e3,h3,hc3⟩:=h.at_ hn0
 cases e3
 refine ⟨b,off,rfl,?_,fun i x hx j u hu=>(World.cell?_of_block (a:=⟨b,_,none⟩) hk).trans (hc3 i x hx j u hu)⟩
 rw [Array.getElem?_eq_getElem h3] at hk
 exact (Array.getElem?_eq_some_iff.1 hk).1
structure LinkJ (J:List Link→World→Prop) (NT:World→Nat→Prop) (w0:World):Prop where
 below:∀ {pre W},J pre W→Below w0.heap.size w0 W
 grow:∀ {pre W W'},J pre W→Below W.heap.size W W'→J pre W'
 nt:∀ {pre W W'},J pre W→Below W.heap.size W W'→∀ k,k<W'.heap.size→(W.heap.size≤k∨NT W k)→NT W' k
theorem links1 (l m Bo Bm Bv o:Nat) (At:Option Addr) (tn ct:Nat) (bA:Option Addr) (bn bc:Nat) (M:Option Addr) (mn mc:Nat) (ts:List Trace) (bs:List Bond) (mv:List Place) (w0:World) (henv:LkEnv Bo Bm Bv o At tn ct bA bn bc M mn mc ts bs mv w0)
 (hts:∀ x∈ts,okLT x) (htn:tn≤200) (hbn:bn≤200) (J:List Link→World→Prop) (NT:World→Nat→Prop) (R:LinkJ J NT w0)
 (hY:∀ pre x W,J pre W→pre.length<1000→YieldAt Fence.wide (m-1) Tryz.prog l #[linkV x] W fun e W'=>e = .returned (.bool true)∧J (pre ++ [x]) W'∧∀ k,k<W.heap.size→NT W k→W'.heap[k]? = W.heap[k]? ∧ NT W' k)
 (w:World) (h0:J [] w):
 CallsIn Fence.wide m Tryz.prog 114 #[.func (.yield l) #[] #[],.pointer (some ⟨Bo,0,none⟩),.pointer (some ⟨Bm,0,none⟩),.pointer (some ⟨Bv,0,none⟩)] w fun e W'=>(∃ v,e = .returned v)∧J (linksL ts bs mv) W':=by
 refine callsIn_wide.2 ?_
 have hcells:∀ (pre:List Link) (W:World),J pre W→W.cell? ⟨Bo,0,none⟩=some (.pointer (some ⟨o,0,none⟩))∧W.cell? ⟨o,0,none⟩=some (.slice At tn ct)∧W.cell? ⟨o,1,none⟩=some (.slice bA bn bc)∧W.cell? ⟨Bv,0,none⟩=some (.slice M mn mc):=by
  intro pre W hJ
  have hb:=R.below hJ
  have e0:w0.cell? ⟨Bo,0,none⟩=some (.pointer (some ⟨o,0,none⟩)):=by simp [World.cell?,henv.la.ord]
  have e1:w0.cell? ⟨Bv,0,none⟩=some (.slice M mn mc):=by simp [World.cell?,henv.la.mov]
  exact ⟨(hb.cell (p:=⟨Bo,0,none⟩) (block_lt_of_cell e0)).trans e0,(hb.cell (p:=⟨o,0,none⟩) (block_lt_of_cell henv.o0)).trans henv.o0,(hb.cell (p:=⟨o,1,none⟩) (block_lt_of_cell henv.o1)).trans henv.o1,(hb.cell (p:=⟨Bv,0,none⟩) (block_lt_of_cell e1)).trans e1⟩
 obtain ⟨k0,k1,k2,k3⟩:=hcells _ _ h0
 have HC:=Lib.hid hcells
 clear hcells
 go_enter Tryz.func114,Tryz.ntmps114
 go_wp2
 clear k0 k1 k2 k3
 go_loopw [16] (fun i wr=> ∃ k:Nat,k≤tn∧i = .int .i64 k∧J ((ts.take k).flatMap linkT) wr) (fun i _=>tn-(intOf i).toNat)
 case atStart=>exact ⟨0,Nat.zero_le _,rfl,h0⟩
 case round=>
  clear h0
  obtain ⟨k,hk,rfl,hJ⟩:=hrel
  by_cases hlt:k<tn
  · have hbwr:=R.below hJ
    obtain ⟨b,off,x,rfl,hbw,hx,hcell⟩:=(henv.rt.below hbwr (Nat.le_refl _)).one hlt
    obtain ⟨hkd,hlow⟩:=hts x (List.mem_of_getElem? hx)
    have hmade:∀ i,wr.cell? ⟨Bm,i,none⟩ = #[Value.nilFunc,.func (.func 111) #[] #[],.func (.func 112) #[] #[],.func (.func 113) #[] #[]][i]? := fun i=>by
     have hlt:Bm<w0.heap.size:=(Array.getElem?_eq_some_iff.1 henv.la.made).1
     rw [hbwr.cell (p:=⟨Bm,i,none⟩) hlt]
     simp only [World.cell?,henv.la.made];rfl
    have mz:Bm<wr.heap.size:=by have:=(Array.getElem?_eq_some_iff.1 henv.la.made).1;have:=hbwr.size;omega
    have hJ1:=R.grow hJ ((Below.refl _ wr).alloc (Nat.le_refl _) (.cells #[.int .i64 x.id,.int .i64 x.known,.int .u8 x.kind,.int .i64 x.pit,.int .i64 x.layer,.int .i64 x.lower,.int .i64 x.low,.int .i64 x.high,.int .i64 x.cost,.int .i64 x.void] 23))
    have c0:wr.cell? ⟨b,off+k * 10,none⟩=some (.int .i64 x.id):=hcell 0 _ rfl
    have c1:wr.cell? ⟨b,off+k * 10+1,none⟩=some (.int .i64 x.known):=hcell 1 _ rfl
    have c2:wr.cell? ⟨b,off+k * 10+2,none⟩=some (.int .u8 x.kind):=hcell 2 _ rfl
    have c3:wr.cell? ⟨b,off+k * 10+3,none⟩=some (.int .i64 x.pit):=hcell 3 _ rfl
    have c4:wr.cell? ⟨b,off+k * 10+4,none⟩=some (.int .i64 x.layer):=hcell 4 _ rfl
    have c5:wr.cell? ⟨b,off+k * 10+5,none⟩=some (.int .i64 x.lower):=hcell 5 _ rfl
    have c6:wr.cell? ⟨b,off+k * 10+6,none⟩=some (.int .i64 x.low):=hcell 6 _ rfl
    have c7:wr.cell? ⟨b,off+k * 10+7,none⟩=some (.int .i64 x.high):=hcell 7 _ rfl
    have c8:wr.cell? ⟨b,off+k * 10+8,none⟩=some (.int .i64 x.cost):=hcell 8 _ rfl
    have c9:wr.cell? ⟨b,off+k * 10+9,none⟩=some (.int .i64 x.void):=hcell 9 _ rfl
    have HX:=Lib.hid hx
    clear hcell hx
    have hk4:0≤x.kind∧x.kind<4:=by omega
    obtain ⟨k4,k5⟩:=hk4
    obtain ⟨fk,efk,hfm,hfk⟩:∃ fk:Nat,(∀ args w,(callFunc fk args).run Tryz.prog w = .ok (.enter fk args) w)∧wr.cell? ⟨Bm,x.kind.toNat,none⟩=some (.func (.func fk) #[] #[])∧
     ∀ W,Calls Tryz.prog fk #[.agg #[.int .i64 x.id,.int .i64 x.known,.int .u8 x.kind,.int .i64 x.pit,.int .i64 x.layer,.int .i64 x.lower,.int .i64 x.low,.int .i64 x.high,.int .i64 x.cost,.int .i64 x.void]] W
       fun e w'=> ∃ A n c,e = .returned (.slice A n c)∧Below W.heap.size W w'∧Rd encLink 6 w' A n c (linkT x)∧(∀ b o,A=some ⟨b,o,none⟩→W.heap.size≤b):=by
     rcases hkd with hkk|hkk|hkk
     · refine ⟨111,ent_above,by rw [hmade,hkk];rfl,fun W=> ?_⟩
       have:=above_any x W
       unfold linkT;rw [if_pos hkk];exact this
     · refine ⟨112,ent_dated,by rw [hmade,hkk];rfl,fun W=> ?_⟩
       have:=dated_any x W hlow
       unfold linkT;rw [if_neg (by omega),if_pos hkk];exact this
     · refine ⟨113,ent_moved,by rw [hmade,hkk];rfl,fun W=> ?_⟩
       have:=moved_any x W
       unfold linkT;rw [if_neg (by omega),if_neg (by omega)];exact this
    have HFK:=Lib.hid hfk
    clear hfk hmade hlow hkd
    have hlen2:(linkT x).length≤2:=by unfold linkT aboveL datedL;split<;>(try split)<;>simp
    have htake:=flatMap_take linkT HX.out
    have HTK:=Lib.hid htake
    have hplen:((ts.take k).flatMap linkT).length≤2 * k:=flat_len2 _ _ (fun y _=>by unfold linkT aboveL datedL;split<;>(try split)<;>simp) _ (by rw [List.length_take];omega)
    clear htake
    go_wp2_with (fail)
    go_region_with (go_at_fn fk;refine (HFK.out _).mono ?_;rintro e w4 ⟨A',n',c',rfl,hb4,hL,hnew⟩)
    all_goals
     have hJ3:=R.grow hJ1 (below_drewN' (Below.refl _ _) 1)
     have hJ4:=R.grow hJ3 (show Below _ _ w4 from hb4)
     have hNT4:∀ b o,A'=some ⟨b,o,none⟩→0<n'→NT w4 b:=fun b o h hn0=>R.nt hJ3 (show Below _ _ w4 from hb4) b (by
      obtain ⟨b',off',e',hlt',_⟩:=hL.at_ hn0
      rw [h] at e';cases e';exact hlt') (.inl (hnew b o h))
     have hJ5:J ((ts.take k).flatMap linkT++(linkT x).take 0) w4:=by simpa using hJ4
     have hLl:=hL.len
     have HLL:=Lib.hid hLl
     have hn2:n'≤2:=by omega
     have hL4:Rd encLink 6 w4 A' n' c' (linkT x):=hL
     clear hJ hJ1 hJ3 hJ4 hb4 hnew hfm c0 c1 c2 c3 c4 c5 c6 c7 c8 c9 hL hLl mz hbwr
     generalize linkT x=L at HLL HTK hlen2 hJ5 hL4
     simp only [List.getElem_toArray,List.getElem_cons_succ,List.getElem_cons_zero,Act.put,List.setIfInBounds_toArray,List.set_cons_succ,List.set_cons_zero]
     go_wp2
     go_loopw [27] (fun i wr=> ∃ j:Nat,j≤n'∧i = .int .i64 j∧J ((ts.take k).flatMap linkT++L.take j) wr∧Rd encLink 6 wr A' n' c' L∧(∀ b o,A'=some ⟨b,o,none⟩→0<n'→NT wr b)) (fun i _=>n'-(intOf i).toNat)
     case atStart=>exact ⟨0,Nat.zero_le _,rfl,hJ5,hL4,hNT4⟩
     case round=>
      clear hJ5 hL4 hNT4
      obtain ⟨j,hj,rfl,hJ,hRd,hNT⟩:=hrel
      by_cases hlj:j<n'
      · obtain ⟨b2,off2,y,hA2,hbw2,hy,hcell⟩:=hRd.one hlj
        subst hA2
        have hNT2:=hNT b2 off2 rfl (by omega)
        have y0:wr.cell? ⟨b2,off2+j * 6,none⟩=some (.int .i64 y.src.pit):=hcell 0 _ rfl
        have y1:wr.cell? ⟨b2,off2+j * 6+1,none⟩=some (.int .i64 y.src.layer):=hcell 1 _ rfl
        have y2:wr.cell? ⟨b2,off2+j * 6+2,none⟩=some (.int .i64 y.dst.pit):=hcell 2 _ rfl
        have y3:wr.cell? ⟨b2,off2+j * 6+3,none⟩=some (.int .i64 y.dst.layer):=hcell 3 _ rfl
        have y4:wr.cell? ⟨b2,off2+j * 6+4,none⟩=some (.int .i64 y.most):=hcell 4 _ rfl
        have y5:wr.cell? ⟨b2,off2+j * 6+5,none⟩=some (.int .i64 y.by_):=hcell 5 _ rfl
        have hbx:Below wr.heap.size wr (wr.alloc (.cells #[.int .i64 y.src.pit,.int .i64 y.src.layer,.int .i64 y.dst.pit,.int .i64 y.dst.layer,.int .i64 y.most,.int .i64 y.by_] 138)):=(Below.refl _ wr).alloc (Nat.le_refl _) _
        have hJx:=R.grow hJ hbx
        have hNTx:=R.nt hJ hbx b2 (by simp;omega) (.inr hNT2)
        have hRdx:=hRd.below hbx (Nat.le_refl _)
        obtain ⟨fn,tmps,assign,body,hyy,hR⟩:=hY _ y _ hJx (by rw [List.length_append,List.length_take];omega)
        simp only [linkV] at hyy
        have HYL:=Lib.hid hy
        clear hcell hy hJ hNT hRd
        go_upto_region 6 with (fail)
        refine (wpIn_wide (n:=m)).1 ?_
        gi_wp2
        refine ⟨fun h=>(by cases h),hR.mono ?_⟩
        rintro e W6 ⟨rfl,hJ6,hk6⟩
        gi_wp2
        go_wp2
        go_roundw
        case rel=>
         have hk7:=hk6 b2 (by simp;omega) hNTx
         refine ⟨j+1,by omega,by go_num,by rw [List.take_add_one,HYL.out,←List.append_assoc];exact hJ6,?_,fun b o h _=>by cases h;exact hk7.2⟩
         exact hRdx.kept_block hk7.1
        case measure=>simp [intOf];omega
      · have hjn:j=n':=by omega
        subst hjn
        go_wp2
        go_roundw
        case rel=>exact ⟨k+1,by omega,by go_num,by rw [HTK.out];have hfl:L.take j=L:=List.take_of_length_le (by have:=HLL.out;omega);rw [hfl] at hJ;exact hJ⟩
        case measure=>simp [intOf];omega
  · have hkn:k=tn:=by omega
    subst hkn
    obtain ⟨k0,k1,k2,k3⟩:=HC.out _ _ hJ
    have hfull:ts.take k=ts:=by rw [←henv.rt.len,List.take_length]
    rw [hfull] at hJ
    clear hfull
    go_wp2
    clear k0 k1 k2 k3
    go_loopw [42] (fun i wr=> ∃ q:Nat,q≤bn∧i = .int .i64 q∧J (ts.flatMap linkT++(bs.take q).flatMap (linkB mv)) wr) (fun i _=>bn-(intOf i).toNat)
    case atStart=>exact ⟨0,Nat.zero_le _,rfl,by simpa using hJ⟩
    case round=>
     clear hJ
     obtain ⟨q,hq,rfl,hJ⟩:=hrel
     by_cases hlt2:q<bn
     · have hbwr:=R.below hJ
       obtain ⟨b,off,x,rfl,hbw,hx,hcell⟩:=(henv.rb.below hbwr (Nat.le_refl _)).one hlt2
       have c0:wr.cell? ⟨b,off+q * 5,none⟩=some (.int .i64 x.a.pit):=hcell 0 _ rfl
       have c1:wr.cell? ⟨b,off+q * 5+1,none⟩=some (.int .i64 x.a.layer):=hcell 1 _ rfl
       have c2:wr.cell? ⟨b,off+q * 5+2,none⟩=some (.int .i64 x.b.pit):=hcell 2 _ rfl
       have c3:wr.cell? ⟨b,off+q * 5+3,none⟩=some (.int .i64 x.b.layer):=hcell 3 _ rfl
       have c4:wr.cell? ⟨b,off+q * 5+4,none⟩=some (.int .i64 x.by_):=hcell 4 _ rfl
       obtain ⟨k0,k1,k2,k3⟩:=HC.out _ _ hJ
       have z3:=block_lt_of_cell k3
       simp only at z3
       have htake:=flatMap_take (linkB mv) hx
       have hplen:((bs.take q).flatMap (linkB mv)).length≤2 * q:=flat_len2 _ _ (fun y _=>by unfold linkB;split<;>simp) _ (by rw [List.length_take];omega)
       have hplen0:(ts.flatMap linkT).length≤2 * k:=flat_len2 _ _ (fun y _=>by unfold linkT aboveL datedL;split<;>(try split)<;>simp) _ (by rw [henv.rt.len];exact Nat.le_refl _)
       have HTK:=Lib.hid htake
       have hbx:Below wr.heap.size wr (wr.alloc (.cells #[.int .i64 x.a.pit,.int .i64 x.a.layer,.int .i64 x.b.pit,.int .i64 x.b.layer,.int .i64 x.by_] 74)):=(Below.refl _ wr).alloc (Nat.le_refl _) _
       have hJ1:=R.grow hJ hbx
       have hNT1:=R.nt hJ hbx wr.heap.size (by simp) (.inl (Nat.le_refl _))
       have hc1:=Contains_Place M mn mc mv x.a _ (henv.rm.below (R.below hJ1) (Nat.le_refl _))
       have ea:mv.any (fun y=>eqPlace x.a y)=hasPl mv x.a:=rfl
       have eb:mv.any (fun y=>eqPlace x.b y)=hasPl mv x.b:=rfl
       rw [ea] at hc1
       have hlk:linkB mv x=if hasPl mv x.a||hasPl mv x.b then [] else [⟨x.a,x.b,0,x.by_⟩,⟨x.b,x.a,0,x.by_⟩]:=rfl
       have HLK:=Lib.hid hlk
       have HC1:=Lib.hid hc1
       have HC2:Hid (∀ W,Below w0.heap.size w0 W→Calls Tryz.prog 115 #[.slice M mn mc,.agg #[.int .i64 x.b.pit,.int .i64 x.b.layer]] W fun e w'=>e = .returned (.bool (hasPl mv x.b))∧Below W.heap.size W w'):=
        Lib.hid (fun W hW=>Contains_Place M mn mc mv x.b W (henv.rm.below hW (Nat.le_refl _)))
       clear hcell hx htake hc1 ea eb hlk
       cases qa:hasPl mv x.a
       · rw [qa] at HC1 HLK
         cases qb:hasPl mv x.b
         · rw [qb] at HC2 HLK
           clear qa qb
           go_wp2_with (fail)
           refine HC1.out.mono ?_
           rintro e w4 ⟨rfl,hb4⟩
           have hJ4:=R.grow hJ1 hb4
           have hz4:=hb4.size
           simp only [World.size_alloc] at hz4
           have d3:=(HC.out _ _ hJ4).2.2.2
           obtain ⟨hcc4,hff4⟩:=bcell hb4
           simp only [World.size_alloc] at hcc4
           have q4:wr.heap.size<wr.heap.size+1:=by omega
           have q4':wr.heap.size<w4.heap.size:=by omega
           go_wp2_with (fail)
           refine (HC2.out _ (R.below hJ4)).mono ?_
           rintro e w5 ⟨rfl,hb5⟩
           have hJ5:=R.grow hJ4 hb5
           have hNT5:=R.nt hJ4 hb5 wr.heap.size (by have:=hb5.size;omega) (.inr (R.nt hJ1 hb4 wr.heap.size (by omega) (.inr hNT1)))
           have hcb:∀ i,w5.cell? ⟨wr.heap.size,i,none⟩ = #[Value.int .i64 x.a.pit,.int .i64 x.a.layer,.int .i64 x.b.pit,.int .i64 x.b.layer,.int .i64 x.by_][i]? := fun i=>by
            rw [hb5.cell (p:=⟨wr.heap.size,i,none⟩) (by simpa using q4'),hb4.cell (p:=⟨wr.heap.size,i,none⟩) (by simp),World.cell?_alloc_at _ _ _ _ rfl]
           have hq5:wr.heap.size<w5.heap.size:=by have:=hb5.size;omega
           have g0:=hcb 0
           have g1:=hcb 1
           have g2:=hcb 2
           have g3:=hcb 3
           have g4:=hcb 4
           simp only [List.getElem?_toArray,List.getElem?_cons_succ,List.getElem?_cons_zero] at g0 g1 g2 g3 g4
           obtain ⟨fn,tmps,assign,body,hyy,hR⟩:=hY _ ⟨x.a,x.b,0,x.by_⟩ _ hJ5 (by rw [List.length_append];omega)
           simp only [linkV] at hyy
           have HCB:=Lib.hid hcb
           clear hcb hcc4 hff4 k0 k1 k2 k3 c0 c1 c2 c3 c4 hJ hJ1 hJ4 hNT1 hb4 d3 hbx hbwr
           go_upto_region 13 with (fail)
           refine (wpIn_wide (n:=m)).1 ?_
           gi_wp2
           refine ⟨fun h=>(by cases h),hR.mono ?_⟩
           rintro e W6 ⟨rfl,hJ6,hk6⟩
           have hk7:=hk6 wr.heap.size hq5 hNT5
           obtain ⟨fn2,tmps2,assign2,body2,hyy2,hR2⟩:=hY _ ⟨x.b,x.a,0,x.by_⟩ _ hJ6 (by simp only [List.length_append,List.length_cons,List.length_nil];omega)
           simp only [linkV] at hyy2
           have hcb6:∀ i,W6.cell? ⟨wr.heap.size,i,none⟩=w5.cell? ⟨wr.heap.size,i,none⟩:=fun i=>World.cell?_of_block (a:=⟨wr.heap.size,i,none⟩) hk7.1
           have j0:=(hcb6 0).trans g0
           have j1:=(hcb6 1).trans g1
           have j2:=(hcb6 2).trans g2
           have j3:=(hcb6 3).trans g3
           have j4:=(hcb6 4).trans g4
           clear hcb6 g0 g1 g2 g3 g4 hyy
           gi_wp2
           refine ⟨fun h=>(by cases h),hR2.mono ?_⟩
           rintro e W7 ⟨rfl,hJ7,-⟩
           gi_wp2
           go_wp2
           go_roundw
           case rel=>exact ⟨q+1,by omega,by go_num,by rw [HTK.out,HLK.out];simpa using hJ7⟩
           case measure=>simp [intOf];omega
         · rw [qb] at HC2 HLK
           clear qa qb
           go_wp2_with (fail)
           refine HC1.out.mono ?_
           rintro e w4 ⟨rfl,hb4⟩
           have hJ4:=R.grow hJ1 hb4
           have hz4:=hb4.size
           simp only [World.size_alloc] at hz4
           have d3:=(HC.out _ _ hJ4).2.2.2
           obtain ⟨hcc4,hff4⟩:=bcell hb4
           simp only [World.size_alloc] at hcc4
           have q4:wr.heap.size<wr.heap.size+1:=by omega
           have q4':wr.heap.size<w4.heap.size:=by omega
           go_wp2_with (fail)
           refine (HC2.out _ (R.below hJ4)).mono ?_
           rintro e w5 ⟨rfl,hb5⟩
           have hJ5:=R.grow hJ4 hb5
           clear hJ hJ1 hJ4
           go_wp2
           go_roundw
           case rel=>exact ⟨q+1,by omega,by go_num,by rw [HTK.out,HLK.out];simpa using hJ5⟩
           case measure=>simp [intOf];omega
       · rw [qa] at HC1 HLK
         clear qa
         go_wp2_with (fail)
         refine HC1.out.mono ?_
         rintro e w4 ⟨rfl,hb4⟩
         have hJ4:=R.grow hJ1 hb4
         clear hJ hJ1
         go_wp2
         go_roundw
         case rel=>exact ⟨q+1,by omega,by go_num,by rw [HTK.out,HLK.out];simpa using hJ4⟩
         case measure=>simp [intOf];omega
     · have hqn:q=bn:=by omega
       subst hqn
       have hfull:bs.take q=bs:=by rw [←henv.rb.len,List.take_length]
       rw [hfull] at hJ
       clear hfull
       go_wp2
       go_end0
       exact ⟨⟨_,rfl⟩,hJ⟩
end Go.Proofs.YtejjplhknacoiaaGreatDoor
end

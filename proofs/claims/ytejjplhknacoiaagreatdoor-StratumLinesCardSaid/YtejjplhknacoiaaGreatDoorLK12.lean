/- Contracts that the laws lean on: Marks, Set3. -/
import Derived.Test.YtejjplhknacoiaaGreatDoorLK11
set_option maxRecDepth 100000
set_option maxHeartbeats 4000000
section
namespace Go.Proofs.YtejjplhknacoiaaGreatDoor
open Go.RowKit Go.Proofs
def markOf (D:Nat):Deferred:={ target:=.collected D,args:=#[] }
structure MarksAt (B:Nat) (W:World) (Ds:List Nat):Prop where
 once:Ds.Nodup
 at_:∀ D∈Ds,B≤D∧W.heap[D]? = some (.deferred (some []))
theorem MarksAt.none_ (B:Nat) (W:World):MarksAt B W []:=⟨List.nodup_nil,fun _ h=>by cases h⟩
theorem MarksAt.keep {B:Nat} {W W':World} {Ds:List Nat} (h:MarksAt B W Ds) (hk:∀ D,B≤D→W.heap[D]? = some (.deferred (some []))→W'.heap[D]? = some (.deferred (some []))):MarksAt B W' Ds:=
 ⟨h.once,fun D hD=>⟨(h.at_ D hD).1,hk D (h.at_ D hD).1 (h.at_ D hD).2⟩⟩
theorem MarksAt.add {B:Nat} {W:World} {Ds:List Nat} {D:Nat} (h:MarksAt B W Ds) (hD:W.heap[D]? = some (.deferred (some []))) (hB:B≤D) (hn:D∉Ds):MarksAt B W (D::Ds):=
 ⟨List.nodup_cons.2 ⟨hn,h.once⟩,fun E hE=>by
   rcases List.mem_cons.1 hE with rfl|hE
   · exact ⟨hB,hD⟩
   · exact h.at_ E hE⟩
structure SameBut (Ds:List Nat) (W W':World):Prop where
 os:W'.os=W.os
 tape:W'.tape=W.tape
 output:W'.output=W.output
 size:W'.heap.size=W.heap.size
 block:∀ g,g∉Ds→W'.heap[g]? = W.heap[g]?
theorem leaves_marks {n:Nat} {P:Program} {fn:Func} {tmps:Array Value} {R:Ending→World→Prop} {B:Nat} :∀ (Ds:List Nat) (W:World),MarksAt B W Ds→
 (∀ W',SameBut Ds W W'→∃ v,(results fn tmps).run P W' = .ok v W'∧R (.returned v) W')→LeavesInM Fence.wide n P fn tmps R (Ds.map markOf) .returning W
 | [],W,_,h=>h W ⟨rfl,rfl,rfl,rfl,fun _ _=>rfl⟩
 | D::Ds,W,hM,h=>by
   obtain ⟨hnd,hnn⟩:=List.nodup_cons.1 hM.once
   have hD:=(hM.at_ D (by simp)).2
   refine ⟨by simp,.inl ⟨D,W.putObj D (.deferred none),rfl,run_takeDeferred hD,?_⟩⟩
   refine leaves_marks (B:=B) Ds _ ⟨hnn,fun E hE=>⟨(hM.at_ E (by simp [hE])).1,(World.putObj_heap_other (show E≠D from fun e=>hnd (e ▸ hE))).trans (hM.at_ E (by simp [hE])).2⟩⟩ fun W' hs=> ?_
   refine h W' ⟨hs.os,hs.tape,hs.output,by rw [hs.size];simp,fun g hg=> ?_⟩
   simp only [List.mem_cons,not_or] at hg
   exact (hs.block g hg.2).trans (World.putObj_heap_other hg.1)
open Go.Shelf
theorem still_load_row {P:Program} {t e:TypeId} {n:Nat} (T:RowT P t e n) {o:Oper} {a:Act} {w:World} {K:Act→Prop} {x:Operand} (ho:o.op = .load t x) {g:Nat} (hx:a.eval x = .pointer (some ⟨g,0,none⟩)) {cs:Array Value} (hr:rowAt? w g n=some cs)
 (h:K (a.put o.dst (.agg cs))):o.still P a w K:=by
 unfold Oper.still execOp
 simp only [ho,hx,Sem.run_bind,run_loadAt_row T,hr,Result.andThen_ok,Sem.run_pure]
 exact ⟨rfl,h⟩
theorem cell3a (w:World) (cs:Array Value) (t:TypeId) (o2 o3:Obj) (i:Nat):(((w.alloc (.cells cs t)).alloc o2).alloc o3).cell? ⟨w.heap.size,i,none⟩=cs[i]? := by
 rw [World.cell?_alloc_past _ _ _ (by simp;omega),World.cell?_alloc_past _ _ _ (by simp),World.cell?_alloc_at _ _ _ _ rfl]
theorem cell3b (w:World) (cs:Array Value) (t:TypeId) (o1 o3:Obj) (i:Nat):(((w.alloc o1).alloc (.cells cs t)).alloc o3).cell? ⟨w.heap.size+1,i,none⟩=cs[i]? := by
 rw [World.cell?_alloc_past _ _ _ (by simp),World.cell?_alloc_at _ _ _ _ (by simp)]
theorem results_row_tmp {P:Program} {fn:Func} {p t2:Tmp} {ty:TypeId} (h:fn.results = #[.cell p ty,.tmp t2]) (tmps:Array Value) (w:World) {e:TypeId} {n:Nat} (T:RowT P ty e n) {g:Nat} {cs:Array Value}
 (hp:tmps.getD p undef = .pointer (some ⟨g,0,none⟩)) (hg:rowAt? w g n=some cs):(results fn tmps).run P w = .ok (.tuple #[.agg cs,tmps.getD t2 undef]) w:=by
 obtain ⟨t,hh,hs⟩:=rowAt?_heap hg
 have hp':tmps[p]?.getD undef = .pointer (some ⟨g,0,none⟩):=by simpa using hp
 simp [results,h,hp',asAddr,run_loadVar_row w g t ty cs (0,0) _ hh T.arr rfl (by rw [hs];exact T.size)]
def lastTo (n:Nat):List Int:=List.replicate n (-1)++List.replicate (60-n) 0
theorem lastTo_len {n:Nat} (h:n≤60):(lastTo n).length=60:=by simp [lastTo];omega
theorem lastTo_succ {n:Nat} (h:n<60):(lastTo n).set n (-1)=lastTo (n+1):=by
 unfold lastTo
 apply List.ext_getElem?
 intro i
 rw [List.getElem?_set]
 simp only [List.getElem?_append,List.getElem?_replicate,List.length_replicate,List.length_append]
 by_cases h1:n=i
 · subst h1
   simp;omega
 · rw [if_neg h1]
   by_cases h2:i<n
   · rw [if_pos h2,if_pos (by omega:i<n+1),if_pos h2,if_pos (by omega:i<n+1)]
   · rw [if_neg h2,if_neg (by omega:¬i<n+1)]
     by_cases h3:i<60
     · rw [if_pos (by omega),if_pos (by omega)]
     · rw [if_neg (by omega),if_neg (by omega)]
theorem lastTo_zero:lastTo 0=zeroRow:=rfl
theorem lastTo_all:lastTo 60=lasts:=rfl
structure PassAt (w:World) (B br:Nat) (pts:Int) (A:Option Addr) (n c:Nat) (bs:List Bound) (j:Nat) (σ:Row×Row) (Ds:List Nat) (W:World):Prop where
 grow:w.grownBy W (some br)
 s0:W.cell? ⟨B,0,none⟩=some (.int .i64 pts)
 s1:W.cell? ⟨B,1,none⟩=some (.slice A n c)
 r0:W.cell? ⟨B+1,0,none⟩=some (.pointer (some ⟨br,0,none⟩))
 row:rowAt? W br 60=some (rowA σ.1)
 las:rowAt? W (B+2) 60=some (rowA σ.2)
 rd:Rd encBound 4 W A n c bs
 marks:MarksAt w.heap.size W Ds
 bnd:∀ i:Int,0≤i→i<60→ -2000000000000000000-(j * n:Nat) * 1000000≤rAt σ.1 i∧rAt σ.1 i≤noneV
def OutI (w:World) (B br:Nat) (pts:Int) (A:Option Addr) (n c:Nat) (bs:List Bound) (R:Row×Row×Bool) (a:Act) (W:World):Prop:=
 ∃ (j:Nat) (σ:Row×Row) (Ds:List Nat) (t6 t7 t8 t9 t10 t11 t12 t13 t14 t15 t16 t17 t20 t21 t22 t23 t24 t25 t26 t27 t28 t29 t30 t31 t32 t33 t34 t35 t36 t37 t38 t39 t40 t41 t42 t43 t44 t45 t46 t47 t48 t49 t50 t51 t52 t53 t54:Value),a = { tmps:=#[.agg #[.int .i64 pts,.slice A n c],.pointer (some ⟨br,0,none⟩),.pointer (some ⟨B,0,none⟩),.pointer (some ⟨B+1,0,none⟩),.pointer (some ⟨B+2,0,none⟩),.bool false,t6,t7,t8,t9,t10,t11,t12,t13,t14,t15,t16,t17,.int .i64 (pts+1),.int .i64 j,t20,t21,t22,t23,t24,t25,t26,t27,t28,t29,t30,t31,t32,t33,t34,t35,t36,t37,t38,t39,t40,t41,t42,t43,t44,t45,t46,t47,t48,t49,t50,t51,t52,t53,t54],defers:=Ds.map markOf } ∧ j≤(pts+1).toNat∧settledLoop bs ((pts+1).toNat-j) σ=R∧PassAt w B br pts A n c bs j σ Ds W
theorem settled_any (pts:Int) (A:Option Addr) (n c:Nat) (bs:List Bound) (br:Nat) (r:Row) (w:World) (hl:Rd encBound 4 w A n c bs) (hr:rowAt? w br 60=some (rowA r)) (hA:∀ b o,A=some ⟨b,o,none⟩→0<n→b≠br)
 (hbs:∀ b∈bs,okB b) (hn:n≤1000) (hp1:0≤pts) (hp2:pts≤60) (hbnd:∀ i:Int,0≤i→i<60→ -2000000000000000000≤rAt r i∧rAt r i≤noneV):
 Calls Tryz.prog 105 #[.agg #[.int .i64 pts,.slice A n c],.pointer (some ⟨br,0,none⟩)] w fun e w'=>
  e = .returned (.tuple #[.agg (rowA (settled pts bs r).2.1),.bool (settled pts bs r).2.2])∧rowAt? w' br 60=some (rowA (settled pts bs r).1)∧w.grownBy w' (some br):=by
 have hbrw:=rowAt?_lt hr
 have HR:=Lib.hid hr
 have HL:=Lib.hid hl
 clear hr hl
 refine callsIn_wide.1 (callsIn_of_wp_marks (F:=Fence.wide) (n:=10) Tryz.func105 rfl trivial ?_ rfl)
 simp only [Tryz.ntmps105,List.size_toArray,List.length_cons,List.length_nil,Nat.reduceAdd,Nat.reduceSub,Array.replicate_succ,Array.replicate_zero,List.push_toArray,List.append_toArray,List.nil_append,List.cons_append]
 refine wpIn_wide.2 ?_
 go_wp2_with (refine wpL_alloc (t:=127) rfl rfl zero206 ?_)
 go_loopw [10] (fun i wr=> ∃ k:Nat,k≤60∧i = .int .i64 k∧w.heap.size+2<wr.heap.size∧Below w.heap.size w wr∧Hid (wr.cell? ⟨w.heap.size,0,none⟩=some (.int .i64 pts))∧Hid (wr.cell? ⟨w.heap.size,1,none⟩=some (.slice A n c))∧Hid (wr.cell? ⟨w.heap.size+1,0,none⟩=some (.pointer (some ⟨br,0,none⟩)))∧Hid (rowAt? wr (w.heap.size+2) 60=some (rowA (lastTo k)))) (fun i _=>60-(intOf i).toNat)
 case atStart=>exact ⟨0,by omega,rfl,by simp,(by ((repeat' (first|(with_reducible assumption)|(with_reducible exact Below.refl _ _)|(with_reducible refine Below.drew ?_)|(with_reducible refine below_drewN' ?_ _)|(with_reducible refine Below.alloc ?_ ?_ _)|(with_reducible refine Below.setCell ?_ ?_ _)|(with_reducible refine below_step (by assumption) ?_ ?_)))<;>first|(simp;done)|(simp;omega)|omega)),(show _=_ from cell3a _ _ _ _ _ _),(show _=_ from cell3a _ _ _ _ _ _),(show _=_ from cell3b _ _ _ _ _ _),(show _=_ by rw [rowAt?_alloc_at _ _ (by simp),lastTo_zero];simp [zeroRow_len])⟩
 case round=>
  obtain ⟨k,hk,rfl,hz,hb,h0,h1,h2,h3⟩:=hrel
  have hlen:=lastTo_len hk
  by_cases hlt:k<60
  · have hc:=rowAt?_int h3.out (i:=k) (by omega)
    have hf:=rowAt?_free h3.out k
    have HLn:=Lib.hid hlen
    clear hlen
    go_wp2
    go_roundw
    case rel=>
     refine ⟨k+1,by omega,by go_num,by simpa using hz,(by ((repeat' (first|(with_reducible assumption)|(with_reducible exact Below.refl _ _)|(with_reducible refine Below.drew ?_)|(with_reducible refine below_drewN' ?_ _)|(with_reducible refine Below.alloc ?_ ?_ _)|(with_reducible refine Below.setCell ?_ ?_ _)|(with_reducible refine below_step (by assumption) ?_ ?_)))<;>first|(simp;done)|(simp;omega)|omega)),(show _=_ by rw [World.cell?_setCell_other _ _ _ _ (by simp)];exact h0.out),(show _=_ by rw [World.cell?_setCell_other _ _ _ _ (by simp)];exact h1.out),(show _=_ by rw [World.cell?_setCell_other _ _ _ _ (by simp)];exact h2.out),(show _=_ by rw [rowAt?_setCell_same,h3.out,←lastTo_succ hlt,←rowA_set];rfl)⟩
    case measure=>simp [intOf];omega
  · have hkn:k=60:=by omega
    subst hkn
    have hwp:IntKind.i64.wrap (pts+1)=pts+1:=by simp [IntKind.wrap,IntKind.bits,IntKind.signed];omega
    have h0':=h0.out
    clear hlen
    go_wp2
    refine wp_loop (OutI w w.heap.size br pts A n c bs (settled pts bs r)) (fun a _=>(pts+1).toNat-(intOf (a.tmps.getD 19 undef)).toNat) ?_ ?_
    · refine ⟨0,(r,lasts),[],_,_,_,_,_,_,_,_,_,_,_,_,_,_,_,_,_,_,_,_,_,_,_,_,_,_,_,_,_,_,_,_,_,_,_,_,_,_,_,_,_,_,_,_,_,_,_,rfl,Nat.zero_le _,rfl,⟨⟨hb.os,hb.tape,hb.output,hb.size,fun k hk _=>hb.block k hk⟩,h0.out,h1.out,h2.out,rowAt?_below HR.out hb hbrw,by rw [h3.out,lastTo_all],HL.out.below hb (Nat.le_refl _),MarksAt.none_ _ _,fun i i1 i2=> ?_⟩⟩
      have:=hbnd i i1 i2
      simp;omega
    · rintro a W ⟨j,σ,Ds,t6,t7,t8,t9,t10,t11,t12,t13,t14,t15,t16,t17,t20,t21,t22,t23,t24,t25,t26,t27,t28,t29,t30,t31,t32,t33,t34,t35,t36,t37,t38,t39,t40,t41,t42,t43,t44,t45,t46,t47,t48,t49,t50,t51,t52,t53,t54,rfl,hj,hrem,hP⟩
      clear h0 h1 h2 h3 h0' hwp hz hb hlt hk
      have hBz:=rowAt?_lt hP.las
      have hwz:=hP.grow.size
      by_cases hlt:j<(pts+1).toNat
      · have hlt':(j:Int)<pts+1:=by omega
        have hr0:=hP.r0
        have hs0:=hP.s0
        have hs1:=hP.s1
        have HREM:=Lib.hid hrem
        have HP:=Lib.hid hP
        have q0:w.heap.size<W.heap.size:=by omega
        have q1:w.heap.size+1<W.heap.size:=by omega
        have q0':w.heap.size<W.heap.size+1:=by omega
        have q1':w.heap.size+1<W.heap.size+1:=by omega
        have hsz60:=rowAt?_len hP.row
        have H60:=Lib.hid hsz60
        clear hrem hP hsz60
        go_wp2_with (first
         | (refine wpL_load row207 rfl rfl rfl HP.out.row ?_)
         | (refine wpL_alloc (t:=128) rfl rfl zero207 ?_)
         | (refine wpL_storeNew row207 rfl rfl rfl rfl (by simp [zeroRow]) rfl H60.out ?_)
         | (go_at_call 142;refine (relaxing_any _ _ _ _ _ _).mono ?_;rintro e w' ⟨rfl,rfl⟩))
        have hl0:=HP.out.rd
        obtain ⟨W1,hW1⟩:∃ W1,W.alloc (.cells (rowA σ.1) 128)=W1:=⟨_,rfl⟩
        obtain ⟨W2,hW2⟩:∃ W2,(W1.alloc (.cells #[.int .i64 pts,.slice A n c] 84)).alloc (.cells #[.pointer (some ⟨br,0,none⟩)] 183)=W2:=⟨_,rfl⟩
        rw [hW1]
        have hsz1:W1.heap.size=W.heap.size+1:=by rw [←hW1];simp
        rw [hW2]
        have hsz2:W2.heap.size=W.heap.size+3:=by rw [←hW2];simp [hsz1]
        have hold:∀ g,g<W.heap.size→W2.heap[g]? = W.heap[g]? := fun g hg=>by
         rw [←hW2,Below.heap_alloc _ _ g (by simp;omega),Below.heap_alloc _ _ g (by omega),←hW1,Below.heap_alloc _ _ g hg]
        have hwas:rowAt? W2 W.heap.size 60=some (rowA σ.1):=by
         rw [←hW2,rowAt?_alloc_past _ (by simp;omega),rowAt?_alloc_past _ (by omega),←hW1,rowAt?_alloc_at _ _ rfl,if_pos (by rw [rowA_size];exact H60.out)]
        have hsb:W2.cell? ⟨W1.heap.size,1,none⟩=some (.slice A n c):=by rw [←hW2,World.cell?_alloc_past _ _ _ (by simp),World.cell?_alloc_at _ _ _ _ rfl];rfl
        have hrb:W2.cell? ⟨W1.heap.size+1,0,none⟩=some (.pointer (some ⟨br,0,none⟩)):=by rw [←hW2,World.cell?_alloc_at _ _ _ _ (by simp)];rfl
        have hg2:W.grownBy W2 none:=by
         rw [←hW2,←hW1]
         exact ⟨rfl,rfl,rfl,by simp;omega,fun k hk _=>by rw [Below.heap_alloc _ _ k (by simp;omega),Below.heap_alloc _ _ k (by simp;omega),Below.heap_alloc _ _ k hk]⟩
        have hcold:∀ g o,g<W.heap.size→W2.cell? ⟨g,o,none⟩=W.cell? ⟨g,o,none⟩:=fun g o hg=>World.cell?_of_block (hold g hg)
        have hrow2:rowAt? W2 br 60=some (rowA σ.1):=by
         have:=HP.out.row
         unfold rowAt? at this ⊢;rwa [hold br (by omega)]
        have hlas2:rowAt? W2 (w.heap.size+2) 60=some (rowA σ.2):=by
         have:=HP.out.las
         unfold rowAt? at this ⊢;rwa [hold _ (by omega)]
        have hrd2:Rd encBound 4 W2 A n c bs:=hl0.keep (by omega) (fun p hp=>World.cell?_of_block (hold p.block hp))
        have hneA:∀ b o,A=some ⟨b,o,none⟩→0<n→b≠br∧b≠w.heap.size+2:=fun b o hb hn0=>⟨hA b o hb hn0,by
         obtain ⟨b',off,e,hlt',_⟩:=HL.out.at_ hn0
         rw [hb] at e
         cases e
         omega⟩
        obtain ⟨asg,hasg⟩:∃ asg,asg=(codes202 Tryz.f105.body).1:=⟨_,rfl⟩
        obtain ⟨bod,hbod⟩:∃ bod,bod=(codes202 Tryz.f105.body).2:=⟨_,rfl⟩
        have hslots:W.heap.size+1=W1.heap.size:=hsz1.symm
        refine wpIn_wide.1 (wpIn_rangeFunc (n:=10) (F:=Fence.wide) ?_)
        intro fn hfn
        obtain ⟨W3,hW3⟩:∃ W3,(W2.alloc (.deferred (some []))).alloc (.loop (recS asg bod fn #[.agg #[.int .i64 pts,.slice A n c],.pointer (some ⟨br,0,none⟩),.pointer (some ⟨w.heap.size,0,none⟩),.pointer (some ⟨w.heap.size+1,0,none⟩),.pointer (some ⟨w.heap.size+2,0,none⟩),.bool false,t6,.pointer (some ⟨W.heap.size,0,none⟩),t8,t9,t10,t11,t12,t13,t14,t15,t16,t17,.int .i64 (pts+1),.int .i64 j,.bool true,.pointer (some ⟨br,0,none⟩),.pointer (some ⟨br,0,none⟩),.agg (rowA σ.1),.agg #[.int .i64 pts,.slice A n c],.pointer (some ⟨br,0,none⟩),.func (.func 167) #[] #[.pointer (some ⟨W.heap.size+1,0,none⟩),.pointer (some ⟨W.heap.size+1+1,0,none⟩)],t27,t28,t29,t30,t31,t32,t33,t34,t35,t36,t37,t38,t39,t40,t41,t42,t43,t44,t45,t46,t47,t48,t49,t50,t51,t52,t53,t54] W2.heap.size .ready none))=W3:=⟨_,rfl⟩
        have hsz3:W3.heap.size=W2.heap.size+2:=by rw [←hW3];simp
        have hold3:∀ g,g<W2.heap.size→W3.heap[g]? = W2.heap[g]? := fun g hg=>by rw [←hW3,Below.heap_alloc _ _ g (by simp;omega),Below.heap_alloc _ _ g hg]
        have hJ0:SetJ W2 (recS asg bod fn #[.agg #[.int .i64 pts,.slice A n c],.pointer (some ⟨br,0,none⟩),.pointer (some ⟨w.heap.size,0,none⟩),.pointer (some ⟨w.heap.size+1,0,none⟩),.pointer (some ⟨w.heap.size+2,0,none⟩),.bool false,t6,.pointer (some ⟨W.heap.size,0,none⟩),t8,t9,t10,t11,t12,t13,t14,t15,t16,t17,.int .i64 (pts+1),.int .i64 j,.bool true,.pointer (some ⟨br,0,none⟩),.pointer (some ⟨br,0,none⟩),.agg (rowA σ.1),.agg #[.int .i64 pts,.slice A n c],.pointer (some ⟨br,0,none⟩),.func (.func 167) #[] #[.pointer (some ⟨W.heap.size+1,0,none⟩),.pointer (some ⟨W.heap.size+1+1,0,none⟩)],t27,t28,t29,t30,t31,t32,t33,t34,t35,t36,t37,t38,t39,t40,t41,t42,t43,t44,t45,t46,t47,t48,t49,t50,t51,t52,t53,t54] W2.heap.size .ready none) (W2.heap.size+1) W2.heap.size br (w.heap.size+2) (-2000000000000000000-(j * n:Nat) * 1000000) 0 σ W3:=by
         refine ⟨by rw [←hW3];rfl,by rw [←hW3];rfl,by rw [←hW3];rfl,by omega,fun g hg _ _=>hold3 g hg,?_,?_,?_,?_,fun i i1 i2=>by have:=HP.out.bnd i i1 i2;simpa using this⟩
         · rw [←hW3];have:=heap_alloc_new (W2.alloc (.deferred (some []))) (.loop (recS asg bod fn #[.agg #[.int .i64 pts,.slice A n c],.pointer (some ⟨br,0,none⟩),.pointer (some ⟨w.heap.size,0,none⟩),.pointer (some ⟨w.heap.size+1,0,none⟩),.pointer (some ⟨w.heap.size+2,0,none⟩),.bool false,t6,.pointer (some ⟨W.heap.size,0,none⟩),t8,t9,t10,t11,t12,t13,t14,t15,t16,t17,.int .i64 (pts+1),.int .i64 j,.bool true,.pointer (some ⟨br,0,none⟩),.pointer (some ⟨br,0,none⟩),.agg (rowA σ.1),.agg #[.int .i64 pts,.slice A n c],.pointer (some ⟨br,0,none⟩),.func (.func 167) #[] #[.pointer (some ⟨W.heap.size+1,0,none⟩),.pointer (some ⟨W.heap.size+1+1,0,none⟩)],t27,t28,t29,t30,t31,t32,t33,t34,t35,t36,t37,t38,t39,t40,t41,t42,t43,t44,t45,t46,t47,t48,t49,t50,t51,t52,t53,t54] W2.heap.size .ready none));rwa [World.size_alloc] at this
         · rw [←hW3,Below.heap_alloc _ _ _ (by simp)];exact heap_alloc_new W2 _
         · unfold rowAt? at hrow2 ⊢;rwa [hold3 br (by omega)]
         · unfold rowAt? at hlas2 ⊢;rwa [hold3 _ (by omega)]
        have hjn:j * n≤60 * 1000:=Nat.mul_le_mul (by omega) hn
        refine ⟨W2.heap.size+1,[{ target:=.collected W2.heap.size,args:=#[] }],W3,{ target:=.fn (.func 167) #[.pointer (some ⟨W1.heap.size,0,none⟩),.pointer (some ⟨W1.heap.size+1,0,none⟩)],args:=#[.func (.yield (W2.heap.size+1)) #[] #[]] },W3,167,
         #[.func (.yield (W2.heap.size+1)) #[] #[]] ++ #[.pointer (some ⟨W1.heap.size,0,none⟩),.pointer (some ⟨W1.heap.size+1,0,none⟩)],W3,?_,?_,?_,?_,fun h=>(by cases h),?_⟩
        · rw [←hW3,hasg,hbod];exact run_enterLoop_outer _ _ _ _ _
        · rw [hsz1];simp [resolve,go_sem]
        · intro f' hf';trivial
        · simp [invoke,go_sem]
        · have hit:=relaxing1 (W2.heap.size+1) W1.heap.size (W1.heap.size+1) br 9 A n c bs
           (fun k σ' W'=>SetJ W2 (recS asg bod fn #[.agg #[.int .i64 pts,.slice A n c],.pointer (some ⟨br,0,none⟩),.pointer (some ⟨w.heap.size,0,none⟩),.pointer (some ⟨w.heap.size+1,0,none⟩),.pointer (some ⟨w.heap.size+2,0,none⟩),.bool false,t6,.pointer (some ⟨W.heap.size,0,none⟩),t8,t9,t10,t11,t12,t13,t14,t15,t16,t17,.int .i64 (pts+1),.int .i64 j,.bool true,.pointer (some ⟨br,0,none⟩),.pointer (some ⟨br,0,none⟩),.agg (rowA σ.1),.agg #[.int .i64 pts,.slice A n c],.pointer (some ⟨br,0,none⟩),.func (.func 167) #[] #[.pointer (some ⟨W.heap.size+1,0,none⟩),.pointer (some ⟨W.heap.size+1+1,0,none⟩)],t27,t28,t29,t30,t31,t32,t33,t34,t35,t36,t37,t38,t39,t40,t41,t42,t43,t44,t45,t46,t47,t48,t49,t50,t51,t52,t53,t54] W2.heap.size .ready none) (W2.heap.size+1) W2.heap.size br (w.heap.size+2) (-2000000000000000000-(j * n:Nat) * 1000000) k σ' W'∧k≤n)
           ⟨fun h=>(h.1.cell (by omega) (by omega) (by omega)).trans hsb,fun h=>(h.1.cell (by omega) (by omega) (by omega)).trans hrb,fun h=>h.1.row,fun h=>h.1.rd hrd2 hneA,
             fun {k σ' W'} h i i1 i2=>(by have hb1:=h.1.bnd i i1 i2;have hk1:=h.2;exact ⟨by omega,hb1.2⟩),fun o h=>⟨h.1.al o,h.2⟩,fun h=>⟨h.1.dr,h.2⟩,fun m h=>⟨h.1.dn m,h.2⟩,
             fun {k σ' W' b} h hb _=>⟨h.1.skip,by have:=(List.getElem?_eq_some_iff.1 hb).1;have:=hl0.len;omega⟩⟩ hbs hn
           (fun k σ' b W' h hb hrx=>by
             have hkn:k<n:=by have:=(List.getElem?_eq_some_iff.1 hb).1;have:=hl0.len;omega
             obtain ⟨f1,t1,a1,b1,y1,r1⟩:=setYield asg bod hasg hbod (9-1) W2 fn (w.heap.size+1) br (w.heap.size+2) W2.heap.size (-2000000000000000000-(j * n:Nat) * 1000000) (by omega) (by omega) (by omega) (by omega) (by omega) (by omega)
              ((hcold _ _ (by omega)).trans hr0) rfl n hn (by omega) (.agg #[.int .i64 pts,.slice A n c]) (.pointer (some ⟨br,0,none⟩)) (.pointer (some ⟨w.heap.size,0,none⟩)) (.bool false) (t6) (.pointer (some ⟨W.heap.size,0,none⟩)) (t8) (t9) (t10) (t11) (t12) (t13) (t14) (t15) (t16) (t17) (.int .i64 (pts+1)) (.int .i64 j) (.bool true) (.pointer (some ⟨br,0,none⟩)) (.pointer (some ⟨br,0,none⟩)) (.agg (rowA σ.1)) (.agg #[.int .i64 pts,.slice A n c]) (.pointer (some ⟨br,0,none⟩)) (.func (.func 167) #[] #[.pointer (some ⟨W.heap.size+1,0,none⟩),.pointer (some ⟨W.heap.size+1+1,0,none⟩)]) (t27) (t28) (t29) (t30) (t31) (t32) (t33) (t34) (t35) (t36) (t37) (t38) (t39) (t40) (t41) (t42) (t43) (t44) (t45) (t46) (t47) (t48) (t49) (t50) (t51) (t52) (t53) (t54) k σ' b W' hkn (hbs b (List.mem_of_getElem? hb)) hrx h.1
             exact ⟨f1,t1,a1,b1,y1,r1.mono fun _ _ h=>⟨h.1,h.2,by omega⟩⟩)
           σ W3 ⟨hJ0,Nat.zero_le _⟩
          refine hit.mono ?_
          rintro e W4 ⟨⟨v,rfl⟩,hJ4,-⟩
          have hend:=run_endLoop (P:=Tryz.prog) hJ4.L (by simp [recS])
          obtain ⟨W5,hW5⟩:∃ W5,W4.putObj (W2.heap.size+1) (.loop { recS asg bod fn #[.agg #[.int .i64 pts,.slice A n c],.pointer (some ⟨br,0,none⟩),.pointer (some ⟨w.heap.size,0,none⟩),.pointer (some ⟨w.heap.size+1,0,none⟩),.pointer (some ⟨w.heap.size+2,0,none⟩),.bool false,t6,.pointer (some ⟨W.heap.size,0,none⟩),t8,t9,t10,t11,t12,t13,t14,t15,t16,t17,.int .i64 (pts+1),.int .i64 j,.bool true,.pointer (some ⟨br,0,none⟩),.pointer (some ⟨br,0,none⟩),.agg (rowA σ.1),.agg #[.int .i64 pts,.slice A n c],.pointer (some ⟨br,0,none⟩),.func (.func 167) #[] #[.pointer (some ⟨W.heap.size+1,0,none⟩),.pointer (some ⟨W.heap.size+1+1,0,none⟩)],t27,t28,t29,t30,t31,t32,t33,t34,t35,t36,t37,t38,t39,t40,t41,t42,t43,t44,t45,t46,t47,t48,t49,t50,t51,t52,t53,t54] W2.heap.size .ready none with state:=.exhausted })=W5:=⟨_,rfl⟩
          rw [hW5] at hend
          refine ⟨none,W5,hend,?_⟩
          have hsz4:=hJ4.size
          have hp5:∀ g,g≠W2.heap.size+1→W5.heap[g]? = W4.heap[g]? := fun g hg=>by rw [←hW5];exact World.putObj_heap_other hg
          have hsz5:W5.heap.size=W4.heap.size:=by rw [←hW5];simp
          have ho5:W5.os=W4.os∧W5.tape=W4.tape∧W5.output=W4.output:=by rw [←hW5];exact ⟨rfl,rfl,rfl⟩
          have hrow5:rowAt? W5 br 60=some (rowA (passTo bs σ n).1):=by rw [←hW5,rowAt?_putObj _ (by omega)];exact hJ4.row
          have hlas5:rowAt? W5 (w.heap.size+2) 60=some (rowA (passTo bs σ n).2):=by rw [←hW5,rowAt?_putObj _ (by omega)];exact hJ4.las
          have hkept5:∀ g,g<W2.heap.size→g≠br→g≠w.heap.size+2→W5.heap[g]? = W2.heap[g]? := fun g hg h1 h2=>(hp5 g (by omega)).trans (hJ4.kept g hg h1 h2)
          have hwas5:rowAt? W5 W.heap.size 60=some (rowA σ.1):=by
           have:=hwas
           unfold rowAt? at this ⊢;rwa [hkept5 _ (by omega) (by omega) (by omega)]
          have hc5:∀ g o,g<W.heap.size→g≠br→g≠w.heap.size+2→W5.cell? ⟨g,o,none⟩=W.cell? ⟨g,o,none⟩:=fun g o hg h1 h2=>World.cell?_of_block ((hkept5 g (by omega) h1 h2).trans (hold g hg))
          have hr5:W5.cell? ⟨w.heap.size+1,0,none⟩=some (.pointer (some ⟨br,0,none⟩)):=(hc5 _ _ (by omega) (by omega) (by omega)).trans hr0
          have hmarks5:MarksAt w.heap.size W5 (W2.heap.size::Ds):=by
           refine (HP.out.marks.keep fun D hD h=> ?_).add ?_ (by omega) (fun h=> ?_)
           · have hDl:D<W.heap.size:=(Array.getElem?_eq_some_iff.1 h).1
             refine (hkept5 D (by omega) (by omega) (fun e=> ?_)).trans ((hold D hDl).trans h)
             have:=rowAt?_heap HP.out.las
             rw [←e,h] at this
             obtain ⟨_,h1,_⟩:=this
             cases h1
           · exact (hp5 _ (by omega)).trans hJ4.K
           · have:=(HP.out.marks.at_ _ h).2
             have:=(Array.getElem?_eq_some_iff.1 this).1
             omega
          have hgrow5:w.grownBy W5 (some br):=
           ⟨ho5.1.trans (hJ4.os.trans (hg2.os.trans HP.out.grow.os)),ho5.2.1.trans (hJ4.tape.trans (hg2.tape.trans HP.out.grow.tape)),ho5.2.2.trans (hJ4.output.trans (hg2.output.trans HP.out.grow.output)),by omega,
             fun k hk hne=>(hkept5 k (by omega) (fun e=>hne (by rw [e])) (by omega)).trans ((hold k (by omega)).trans (HP.out.grow.block k hk hne))⟩
          have hrd5:Rd encBound 4 W5 A n c bs:=by
           have h4:=hJ4.rd hrd2 hneA
           refine ⟨h4.len,h4.big,h4.cap,fun hn0=> ?_⟩
           obtain ⟨b,off,e,hlt',hc⟩:=h4.at_ hn0
           obtain ⟨b',off',e',hlt'',_⟩:=HL.out.at_ hn0
           rw [e] at e'
           cases e'
           exact ⟨b,off,e,by omega,fun i x hx j u hu=>(World.cell?_of_block (hp5 b (by omega))).trans (hc i x hx j u hu)⟩
          have hnl:n=bs.length:=hl0.len.symm
          have hpass:passTo bs σ n=pass bs σ:=by rw [hnl];rfl
          rw [hpass] at hrow5 hlas5
          have hl1:=rowAt?_len hrow5
          have hl2:=H60.out
          have hstep:settledLoop bs ((pts+1).toNat-j) σ=if (pass bs σ).1=σ.1 then ((pass bs σ).1,(pass bs σ).2,true) else settledLoop bs ((pts+1).toNat-(j+1)) (pass bs σ):=by
           rw [show (pts+1).toNat-j=((pts+1).toNat-(j+1))+1 by omega];rfl
          have hb5:=hJ4.bnd
          have hs05:W5.cell? ⟨w.heap.size,0,none⟩=some (.int .i64 pts):=(hc5 _ _ (by omega) (by omega) (by omega)).trans hs0
          have hs15:W5.cell? ⟨w.heap.size,1,none⟩=some (.slice A n c):=(hc5 _ _ (by omega) (by omega) (by omega)).trans hs1
          have HST:=Lib.hid hstep
          have HB5:=Lib.hid hb5
          have HPS:=Lib.hid hpass
          clear hstep hb5 hpass hnl hit hJ0 hJ4 hend hW5 hp5 hsz5 ho5 hold3 hold hsz3 hsz2 hsz1 hW3 hW2 hW1 hwas hsb hrb hg2 hcold hrow2 hlas2 hrd2 hneA hasg hbod hslots hkept5 hc5 hr0 hs0 hs1 hl0
          obtain ⟨l1,hl1'⟩:∃ l1,l1=(pass bs σ).1:=⟨_,rfl⟩
          rw [←hl1'] at hrow5 hl1
          have HL1:=Lib.hid hl1'
          have HS0:=Lib.hid hs05
          have HS1:=Lib.hid hs15
          have HR5:=Lib.hid hr5
          clear hl1' hs05 hs15
          by_cases hq:l1=σ.1
          · have hd:decide (l1=σ.1)=true:=decide_eq_true hq
            have HQ:=Lib.hid hq
            clear hq
            go_wp2_with (fail)
            refine wp_region_still_lit (by kernel_rfl) (by kernel_rfl) ?_
            simp only [World.drew_eq]
            still_step
            still_step
            refine wpStill_step (fun K hK=> ?_)
            rw [if_pos (show Region.wanted _ _=true from rfl)]
            refine still_load_row row207 rfl rfl (g:=br) (w:=W5.drew) hrow5 ?_
            refine hK _ ?_
            clear hK K
            refine wpStill_step (fun K hK=> ?_)
            rw [if_pos (show Region.wanted _ _=true from rfl)]
            refine still_load_row row207 rfl rfl (g:=W.heap.size) (w:=W5.drew) hwas5 ?_
            refine hK _ ?_
            clear hK K
            still_step
            refine wpStill_nil ?_
            clear HL HR
            have hnotD:∀ (W':World) g cs,MarksAt w.heap.size W' (W2.heap.size::Ds)→rowAt? W' g 60=some cs→g∉(W2.heap.size::Ds):=fun W' g cs hm h hg=>by
             obtain ⟨t,h1,_⟩:=rowAt?_heap h
             have:=(hm.at_ g hg).2
             rw [h1] at this
             cases this
            go_wp2_with (first
             | (refine wpL_load (g:=w.heap.size+2) row206 rfl rfl rfl (w:=W5.drew) hlas5 ?_)
             | (refine wpL_store (g:=w.heap.size+2) row206 rfl rfl rfl rfl (w:=W5.drew) (by rw [rowAt?_drew,hlas5];rfl) (rowAt?_len hlas5) ?_))
            obtain ⟨W6,hW6⟩:∃ W6,W5.drew.setRow (w.heap.size+2) (rowA (pass bs σ).2)=W6:=⟨_,rfl⟩
            rw [hW6]
            have hrow6:rowAt? W6 br 60=some (rowA l1):=by rw [←hW6,rowAt?_setRow_other _ (by omega)];exact hrow5
            have hlas6:rowAt? W6 (w.heap.size+2) 60=some (rowA (pass bs σ).2):=by rw [←hW6,rowAt?_setRow_same _ (by rw [rowAt?_drew,hlas5];rfl) (by rw [rowA_size];exact rowAt?_len hlas5)]
            have hoth6:∀ g,g≠w.heap.size+2→W6.heap[g]? = W5.heap[g]? := fun g hg=>by rw [←hW6];exact setRow_other W5.drew _ g _ hg
            have hM6:MarksAt w.heap.size W6 (W2.heap.size::Ds):=hmarks5.keep fun D hD h=>(hoth6 D (fun e=>by
             obtain ⟨t,h1,_⟩:=rowAt?_heap hlas5
             rw [←e,h] at h1
             cases h1)).trans h
            have hg6:w.grownBy W6 (some br):=⟨by rw [←hW6];exact hgrow5.os,by rw [←hW6];exact hgrow5.tape,by rw [←hW6];exact hgrow5.output,by rw [←hW6];simpa using hgrow5.size,fun k hk hne=>(hoth6 k (by omega)).trans (hgrow5.block k hk hne)⟩
            have hres:settled pts bs r=(l1,(pass bs σ).2,true):=by
             rw [←HREM.out,HST.out,if_pos (HL1.out ▸ HQ.out),HL1.out]
            show LeavesInM Fence.wide 10 _ _ _ _ (List.map markOf (W2.heap.size::Ds)) .returning _
            refine leaves_marks (B:=w.heap.size) _ _ hM6 fun W' hs=> ?_
            have hrowW:rowAt? W' br 60=some (rowA l1):=by
             have hb:=hs.block br (hnotD W6 br _ hM6 hrow6)
             unfold rowAt? at hrow6 ⊢;rwa [hb]
            have hlasW:rowAt? W' (w.heap.size+2) 60=some (rowA (pass bs σ).2):=by
             have hb:=hs.block (w.heap.size+2) (hnotD W6 _ _ hM6 hlas6)
             unfold rowAt? at hlas6 ⊢;rwa [hb]
            refine ⟨_,results_row_tmp rfl _ _ row206 rfl hlasW,?_⟩
            rw [hres]
            refine ⟨rfl,hrowW,⟨hs.os.trans hg6.os,hs.tape.trans hg6.tape,hs.output.trans hg6.output,by rw [hs.size];exact hg6.size,fun k hk hne=>(hs.block k (fun hk2=>by have:=(hM6.at_ k hk2).1;omega)).trans (hg6.block k hk hne)⟩⟩
          · have hd:decide (l1=σ.1)=false:=decide_eq_false hq
            have HQ:=Lib.hid hq
            clear hq
            go_wp2_with (fail)
            refine wp_region_still_lit (by kernel_rfl) (by kernel_rfl) ?_
            simp only [World.drew_eq]
            still_step
            still_step
            refine wpStill_step (fun K hK=> ?_)
            rw [if_pos (show Region.wanted _ _=true from rfl)]
            refine still_load_row row207 rfl rfl (g:=br) (w:=W5.drew) hrow5 ?_
            refine hK _ ?_
            clear hK K
            refine wpStill_step (fun K hK=> ?_)
            rw [if_pos (show Region.wanted _ _=true from rfl)]
            refine still_load_row row207 rfl rfl (g:=W.heap.size) (w:=W5.drew) hwas5 ?_
            refine hK _ ?_
            clear hK K
            still_step
            refine wpStill_nil ?_
            go_wp2
            refine ⟨⟨j+1,pass bs σ,W2.heap.size::Ds,_,_,_,_,_,_,_,_,_,_,_,_,_,_,_,_,_,_,_,_,_,_,_,_,_,_,_,_,_,_,_,_,_,_,_,_,_,_,_,_,_,_,_,_,_,_,_,rfl,by omega,?_,?_⟩,?_⟩
            · rw [←HREM.out,HST.out,if_neg (fun e=>HQ.out (HL1.out.trans e))]
            · exact ⟨⟨hgrow5.os,hgrow5.tape,hgrow5.output,hgrow5.size,hgrow5.block⟩,HS0.out,HS1.out,HR5.out,by rw [rowAt?_drew,hrow5,HL1.out],by rw [rowAt?_drew];exact hlas5,⟨hrd5.len,hrd5.big,hrd5.cap,hrd5.at_⟩,⟨hmarks5.once,hmarks5.at_⟩,fun i i1 i2=>by
               have h5:=HB5.out i i1 i2
               rw [HPS.out] at h5
               have e:(((j+1) * n:Nat):Int)=(j * n:Nat)+(n:Nat):=by rw [Nat.add_mul,Nat.one_mul];push_cast;rfl
               rw [e]
               omega⟩
            · simp [intOf];omega
      · have hlt':¬(j:Int)<pts+1:=by omega
        have hres:settled pts bs r=(σ.1,σ.2,false):=by
         rw [←hrem,show (pts+1).toNat-j=0 by omega];rfl
        have HRES:=Lib.hid hres
        have HP:=Lib.hid hP
        clear hres hrem hP HL HR
        go_wp2_with (first
         | (refine wpL_load (g:=w.heap.size+2) row206 rfl rfl rfl (w:=W) HP.out.las ?_)
         | (refine wpL_store (g:=w.heap.size+2) row206 rfl rfl rfl rfl (w:=W) (by rw [HP.out.las];rfl) (rowAt?_len HP.out.las) ?_))
        obtain ⟨W6,hW6⟩:∃ W6,W.setRow (w.heap.size+2) (rowA σ.2)=W6:=⟨_,rfl⟩
        rw [hW6]
        have hrow6:rowAt? W6 br 60=some (rowA σ.1):=by rw [←hW6,rowAt?_setRow_other _ (by omega)];exact HP.out.row
        have hlas6:rowAt? W6 (w.heap.size+2) 60=some (rowA σ.2):=by rw [←hW6,rowAt?_setRow_same _ (by rw [HP.out.las];rfl) (by rw [rowA_size];exact rowAt?_len HP.out.las)]
        have hoth6:∀ g,g≠w.heap.size+2→W6.heap[g]? = W.heap[g]? := fun g hg=>by rw [←hW6];exact setRow_other W _ g _ hg
        have hM6:MarksAt w.heap.size W6 Ds:=HP.out.marks.keep fun D hD h=>(hoth6 D (fun e=>by
         obtain ⟨t,h1,_⟩:=rowAt?_heap HP.out.las
         rw [←e,h] at h1
         cases h1)).trans h
        have hg6:w.grownBy W6 (some br):=⟨by rw [←hW6];exact HP.out.grow.os,by rw [←hW6];exact HP.out.grow.tape,by rw [←hW6];exact HP.out.grow.output,by rw [←hW6];simpa using HP.out.grow.size,fun k hk hne=>(hoth6 k (by omega)).trans (HP.out.grow.block k hk hne)⟩
        have hnotD:∀ (W':World) g cs,MarksAt w.heap.size W' Ds→rowAt? W' g 60=some cs→g∉Ds:=fun W' g cs hm h hg=>by
         obtain ⟨t,h1,_⟩:=rowAt?_heap h
         have:=(hm.at_ g hg).2
         rw [h1] at this
         cases this
        show LeavesInM Fence.wide 10 _ _ _ _ (List.map markOf Ds) .returning _
        refine leaves_marks (B:=w.heap.size) _ _ hM6 fun W' hs=> ?_
        have hrowW:rowAt? W' br 60=some (rowA σ.1):=by
         have hb:=hs.block br (hnotD W6 br _ hM6 hrow6)
         unfold rowAt? at hrow6 ⊢;rwa [hb]
        have hlasW:rowAt? W' (w.heap.size+2) 60=some (rowA σ.2):=by
         have hb:=hs.block (w.heap.size+2) (hnotD W6 _ _ hM6 hlas6)
         unfold rowAt? at hlas6 ⊢;rwa [hb]
        refine ⟨_,results_row_tmp rfl _ _ row206 rfl hlasW,?_⟩
        rw [HRES.out]
        refine ⟨rfl,hrowW,⟨hs.os.trans hg6.os,hs.tape.trans hg6.tape,hs.output.trans hg6.output,by rw [hs.size];exact hg6.size,fun k hk hne=>(hs.block k (fun hk2=>by have:=(hM6.at_ k hk2).1;omega)).trans (hg6.block k hk hne)⟩⟩
end Go.Proofs.YtejjplhknacoiaaGreatDoor
end

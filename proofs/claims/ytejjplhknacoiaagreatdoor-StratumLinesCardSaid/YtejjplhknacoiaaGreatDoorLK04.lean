/- Contracts that the laws lean on: Cmp, Mem2, SortLay, Sort. -/
import Derived.Test.YtejjplhknacoiaaGreatDoorLK03
import Derived.StillTailTactics
import Derived.Deep.DrawnRows
import Derived.Test.YtejjplhknacoiaaGreatDoorChecked
import Derived.Shelf.SlSortCmp.NoneTotal
set_option maxRecDepth 100000
set_option maxHeartbeats 1000000
section
namespace Go.Proofs.YtejjplhknacoiaaGreatDoor
open Go.RowKit Go.Proofs Go.Shelf Go.Sort
theorem isNaN_any (x:Int) (w:World):Calls Tryz.prog 136 #[.int .i64 x] w fun e w'=>e = .returned (.bool false)∧w=w':=by
 go_enter Tryz.func136,Tryz.ntmps136
 go_wp2
 go_ret
 exact ⟨by simp,rfl⟩
def cmpI (x y:Int):Int:=if x<y then -1 else if y<x then 1 else 0
theorem Compare_any (x y:Int) (w:World):Calls Tryz.prog 93 #[.int .i64 x,.int .i64 y] w fun e w'=>e = .returned (.int .i64 (cmpI x y))∧w=w':=by
 by_cases h1:x<y
 · go_enter Tryz.func93,Tryz.ntmps93
   go_wp2_with (go_at_call 136;refine (isNaN_any _ _).mono ?_;rintro e w' ⟨rfl,rfl⟩)
   go_ret
   exact ⟨by simp [cmpI,h1],rfl⟩
 · by_cases h2:y<x
   all_goals
    go_enter Tryz.func93,Tryz.ntmps93
    go_wp2_with (go_at_call 136;refine (isNaN_any _ _).mono ?_;rintro e w' ⟨rfl,rfl⟩)
    go_ret
    refine ⟨?_,rfl⟩
    unfold cmpI
    rw [if_neg (by omega)]
    first|rw [if_pos (by omega)]|rw [if_neg (by omega)]
    rfl
def or2 (x y:Int):Int:=if x≠0 then x else y
theorem Or2_any (b c:Nat) (x y:Int) (w:World) (h0:w.cell? ⟨b,0,none⟩=some (.int .i64 x)) (h1:w.cell? ⟨b,1,none⟩=some (.int .i64 y)):
 Calls Tryz.prog 92 #[.slice (some ⟨b,0,none⟩) 2 c] w fun e w'=>e = .returned (.int .i64 (or2 x y))∧w=w':=by
 by_cases hx:x=0
 · subst hx
   by_cases hy:y=0
   · subst hy
     go_enter Tryz.func92,Tryz.ntmps92
     go_wp2
     refine wp_loop_rounds 3 ?_
     rw [rounds_succ]
     go_wp2
     rw [rounds_succ]
     go_wp2
     rw [rounds_succ]
     go_wp2
     go_ret
     exact ⟨by simp [or2],rfl⟩
   · have hy':((y:Int) != 0)=true:=by simpa using hy
     go_enter Tryz.func92,Tryz.ntmps92
     go_wp2
     refine wp_loop_rounds 2 ?_
     rw [rounds_succ]
     go_wp2
     rw [rounds_succ]
     go_wp2
     go_ret
     exact ⟨by simp [or2],rfl⟩
 · have hx':((x:Int) != 0)=true:=by simpa using hx
   go_enter Tryz.func92,Tryz.ntmps92
   go_wp2
   refine wp_loop_rounds 1 ?_
   simp only [rounds_succ]
   go_wp2
   go_ret
   exact ⟨by simp [or2,hx],rfl⟩
theorem Or2_new (x y:Int) (W:World) (t:TypeId) (N:Nat) (hN:N=W.heap.size):
 Calls Tryz.prog 92 #[.slice (some ⟨N,0,none⟩) 2 2] ((W.alloc (.cells #[.int .i64 x,.int .i64 y] t)).drew) fun e w'=>e = .returned (.int .i64 (or2 x y))∧(W.alloc (.cells #[.int .i64 x,.int .i64 y] t)).drew=w':=by
 subst hN
 exact Or2_any W.heap.size 2 x y _ (by simp) (by simp)
def Grew (w w':World):Prop:=∃ q os',w'=grow (w.drewN q) os'
theorem Grew.refl (w:World):Grew w w:=⟨0,#[],by simp [grow,World.drewN]⟩
theorem Grew.alloc {w w':World} (h:Grew w w') (o:Obj):Grew w (w'.alloc o):=by
 obtain ⟨q,os,rfl⟩:=h
 exact ⟨q,os.push o,by simp [grow,World.alloc]⟩
theorem Grew.drewN {w w':World} (h:Grew w w') (n:Nat):Grew w (w'.drewN n):=by
 obtain ⟨q,os,rfl⟩:=h
 exact ⟨q+n,os,by simp [grow,World.drewN];omega⟩
theorem Grew.drew {w w':World} (h:Grew w w'):Grew w w'.drew:=h.drewN 1
theorem Grew.trans {a b c:World} (h:Grew a b) (k:Grew b c):Grew a c:=by
 obtain ⟨q,os,rfl⟩:=h
 obtain ⟨q',os',rfl⟩:=k
 exact ⟨q+q',os++os',by simp [grow,World.drewN,Array.append_assoc];omega⟩
theorem Grew.below {w w':World} (h:Grew w w'):Below w.heap.size w w':=by
 obtain ⟨q,os,rfl⟩:=h
 refine ⟨rfl,rfl,rfl,by simp [grow,World.drewN],fun k hk=> ?_⟩
 show (w.heap++os)[k]? = _
 rw [Array.getElem?_append_left hk]
def comparePl (a b:Place):Int:=or2 (cmpI a.pit b.pit) (cmpI a.layer b.layer)
theorem compare_any (a b c d:Int) (w:World):
 Calls Tryz.prog 55 #[.agg #[.int .i64 a,.int .i64 b],.agg #[.int .i64 c,.int .i64 d]] w fun e w'=>e = .returned (.int .i64 (comparePl ⟨a,b⟩ ⟨c,d⟩))∧Grew w w':=by
 go_enter Tryz.func55,Tryz.ntmps55
 go_wp2
 generalize hW:(w.alloc (.cells #[.int .i64 a,.int .i64 b] 36)).alloc (.cells #[.int .i64 c,.int .i64 d] 36)=W
 have f0:W.cell? ⟨w.heap.size,0,none⟩=some (.int .i64 a):=by rw [←hW];simp
 have f1:W.cell? ⟨w.heap.size,1,none⟩=some (.int .i64 b):=by rw [←hW];simp
 have f2:W.cell? ⟨w.heap.size+1,0,none⟩=some (.int .i64 c):=by rw [←hW];simp
 have f3:W.cell? ⟨w.heap.size+1,1,none⟩=some (.int .i64 d):=by rw [←hW];simp
 have hGW:Grew w W:=by rw [←hW];exact ((Grew.refl w).alloc _).alloc _
 clear hW
 refine wp_region_still_tail 10 (by kernel_rfl) (by kernel_rfl) ?_
 simp only [List.take_succ_cons,List.take_zero,List.drop_succ_cons,List.drop_zero,World.drew_eq]
 iterate 4 still_step
 still_call (Compare_any _ _ _).mono fun _ _ ⟨he,hw⟩=>⟨he,hw.symm⟩
 iterate 4 still_step
 still_call (Compare_any _ _ _).mono fun _ _ ⟨he,hw⟩=>⟨he,hw.symm⟩
 refine wpStill_nil ?_
 go_wp2_with (go_at_call 92;refine (Or2_new _ _ _ _ _ (by simp)).mono ?_;rintro e w' ⟨rfl,rfl⟩)
 all_goals go_ret
 all_goals refine ⟨retI rfl,?_⟩
 all_goals (repeat' first|exact hGW|refine Grew.alloc ?_ _|refine Grew.drew ?_|refine Grew.drewN ?_ _)
def wrongBond (x:Bond):Bool:= !isPlaceB x.a.pit x.a.layer || !isPlaceB x.b.pit x.b.layer||eqPlace x.a x.b || !inB x.by_ 1 1000000
def checkBonds (b:List Bond):Int:=if 60<b.length then 2 else if b.any wrongBond then 1 else 0
theorem entb:∀ args w,(callFunc 84 args).run Tryz.prog w = .ok (.enter 84 args) w:=enters_of Tryz.func84 (by kernel_rfl) rfl
theorem predbond (w:World):PredB Tryz.prog 84 #[] (fun x=> .agg (encBond x).toArray) wrongBond w:=by
 intro W x hb
 have hzb:=hb.size
 simp only [encBond,List.append_toArray,List.cons_append,List.nil_append]
 cases h1:isPlaceB x.a.pit x.a.layer
 · go_enter Tryz.func84,Tryz.ntmps84
   go_wp2_with (go_at_call 42;refine (isPlace_any _ _ _).mono ?_;rintro e wI ⟨rfl,hbI⟩;try rw [h1];obtain ⟨hccI,hffI⟩:=bcell hbI;have hzI:=hbI.size;(try simp only [World.size_alloc] at hzI);have:W.heap.size<wI.heap.size:=(by omega))
   go_ret
   exact ⟨by simp [wrongBond,h1],(by ((repeat' (first|(with_reducible assumption)|(with_reducible exact Below.refl _ _)|(with_reducible refine Below.drew ?_)|(with_reducible refine below_drewN' ?_ _)|(with_reducible refine Below.alloc ?_ ?_ _)|(with_reducible refine Below.setCell ?_ ?_ _)|(with_reducible refine below_step (by assumption) ?_ ?_)))<;>first|(simp;done)|(simp;omega)|omega))⟩
 · cases h2:isPlaceB x.b.pit x.b.layer
   · go_enter Tryz.func84,Tryz.ntmps84
     go_wp2_with (first
      | (go_at_call_of 42 (x.a.pit);refine (isPlace_any _ _ _).mono ?_;rintro e wI ⟨rfl,hbI⟩;rw [h1];obtain ⟨hccI,hffI⟩:=bcell hbI;have hzI:=hbI.size;(try simp only [World.size_alloc] at hzI);have:W.heap.size<wI.heap.size:=(by omega))
      | (go_at_call 42;refine (isPlace_any _ _ _).mono ?_;rintro e wJ ⟨rfl,hbJ⟩;rw [h2];obtain ⟨hccJ,hffJ⟩:=bcell hbJ;have hzJ:=hbJ.size;(try simp only [World.size_alloc,World.size_setCell,World.size_drew,World.heap_drewN] at hzJ);have:W.heap.size<wJ.heap.size:=(by omega)))
     go_ret
     exact ⟨by simp [wrongBond,h1,h2],(by ((repeat' (first|(with_reducible assumption)|(with_reducible exact Below.refl _ _)|(with_reducible refine Below.drew ?_)|(with_reducible refine below_drewN' ?_ _)|(with_reducible refine Below.alloc ?_ ?_ _)|(with_reducible refine Below.setCell ?_ ?_ _)|(with_reducible refine below_step (by assumption) ?_ ?_)))<;>first|(simp;done)|(simp;omega)|omega))⟩
   · cases h3:eqPlace x.a x.b
     all_goals
      go_enter Tryz.func84,Tryz.ntmps84
      go_wp2_with (first
       | (go_at_call_of 42 (x.a.pit);refine (isPlace_any _ _ _).mono ?_;rintro e wI ⟨rfl,hbI⟩;rw [h1];obtain ⟨hccI,hffI⟩:=bcell hbI;have hzI:=hbI.size;(try simp only [World.size_alloc] at hzI);have:W.heap.size<wI.heap.size:=(by omega))
       | (go_at_call 42;refine (isPlace_any _ _ _).mono ?_;rintro e wJ ⟨rfl,hbJ⟩;rw [h2];obtain ⟨hccJ,hffJ⟩:=bcell hbJ;have hzJ:=hbJ.size;(try simp only [World.size_alloc,World.size_setCell,World.size_drew,World.heap_drewN] at hzJ);have:W.heap.size<wJ.heap.size:=(by omega))
       | (go_at_call 41;refine (in_any _ _ _ _).mono ?_;rintro e w' ⟨rfl,rfl⟩))
      all_goals go_ret
      all_goals refine ⟨retB ?_,(by ((repeat' (first|(with_reducible assumption)|(with_reducible exact Below.refl _ _)|(with_reducible refine Below.drew ?_)|(with_reducible refine below_drewN' ?_ _)|(with_reducible refine Below.alloc ?_ ?_ _)|(with_reducible refine Below.setCell ?_ ?_ _)|(with_reducible refine below_step (by assumption) ?_ ?_)))<;>first|(simp;done)|(simp;omega)|omega))⟩
      all_goals simp_all [wrongBond]
theorem CheckBonds_any (A:Option Addr) (n c:Nat) (b:List Bond) (w:World) (hb:Rd encBond 5 w A n c b):
 Calls Tryz.prog 52 #[.slice A n c] w fun e w'=>e = .returned (.int .i64 (checkBonds b))∧Below w.heap.size w w':=by
 have hlen:=hb.len
 have hbig:=hb.big
 by_cases h60:60<n
 · go_enter Tryz.func52,Tryz.ntmps52
   go_wp2
   go_ret
   refine ⟨retI ?_,Below.refl _ _⟩
   unfold checkBonds
   rw [if_pos (by omega)]
 · have hc:=ContainsFunc_Bond 84 #[] entb wrongBond A n c b w hb (predbond w)
   clear hlen
   cases hq:b.any wrongBond
   all_goals
    rw [hq] at hc
    go_enter Tryz.func52,Tryz.ntmps52
    go_wp2_with (go_at_call 83;refine hc.mono ?_;rintro e w' ⟨rfl,hb'⟩)
    go_ret
    refine ⟨retI ?_,hb'⟩
    have:=hb.len
    unfold checkBonds
    rw [if_neg (by omega),hq]
    rfl
end Go.Proofs.YtejjplhknacoiaaGreatDoor
end
section
namespace Go.Proofs.YtejjplhknacoiaaGreatDoor
open Go.RowKit Go.Proofs
def setL (xs:List Value):Nat→List Value→List Value
 | _,[]=>xs
 | o,v::r=>setL (xs.set o v) (o+1) r
theorem setL_get:∀ (vs:List Value) (o:Nat) (xs:List Value) (t:Nat),o+vs.length≤xs.length→(setL xs o vs)[t]? = if o≤t∧t<o+vs.length then vs[t-o]? else xs[t]?
 | [],o,xs,t,_=>by simp [setL];omega
 | v::r,o,xs,t,h=>by
   simp only [List.length_cons] at h
   rw [setL,setL_get r (o+1) (xs.set o v) t (by simp;omega),List.length_cons]
   by_cases h1:o+1≤t∧t<o+1+r.length
   · rw [if_pos h1,if_pos (by omega)]
     obtain ⟨u,rfl⟩:∃ u,t=o+1+u:=⟨t-(o+1),by omega⟩
     rw [show o+1+u-(o+1)=u by omega,show o+1+u-o=u+1 by omega,List.getElem?_cons_succ]
   · rw [if_neg h1]
     by_cases h2:t=o
     · subst h2
       rw [if_pos (by omega),Nat.sub_self,List.getElem?_set_self (by omega)];rfl
     · rw [if_neg (by omega),List.getElem?_set_ne (by omega)]
section
variable {α:Type} {enc:α→List Value} {k n c B g:Nat} {e:TypeId} {w w':World} {xs:List α}
theorem ownsRow_setCells:∀ (vs:List Value) (o:Nat) (w:World) (L:List Value),w.ownsRow B e k (.slice (some ⟨g,0,none⟩) n c) n L→
 (w.setCells g o vs).ownsRow B e k (.slice (some ⟨g,0,none⟩) n c) n (setL L o vs)∧w.grownBy (w.setCells g o vs) (some g)
 | [],_,w,_,h=>⟨h,World.grownBy.refl w _⟩
 | v::r,o,w,L,h=>by
   obtain ⟨h1,g1⟩:=h.stored o v
   obtain ⟨h2,g2⟩:=ownsRow_setCells r (o+1) _ _ h1
   exact ⟨h2,g1.trans g2⟩
theorem Own.set (h:Own enc k e B w (some ⟨g,0,none⟩) n c xs) (hk:∀ x,(enc x).length=k) {i:Nat} (hi:i<n) (x:α):
 Own enc k e B (w.setCells g (i * k) (enc x)) (some ⟨g,0,none⟩) n c (xs.set i x)∧w.grownBy (w.setCells g (i * k) (enc x)) (some g):=by
 obtain ⟨h1,h2⟩:=ownsRow_setCells (enc x) (i * k) w _ h.own
 refine ⟨⟨by rw [List.length_set];exact h.len,?_⟩,h2⟩
 have hkp:0<k∨k=0:=by omega
 have e1:setL (xs.flatMap enc) (i * k) (enc x)=(xs.set i x).flatMap enc:=by
  have hL:(xs.flatMap enc).length=n * k:=by rw [flatMap_len hk,h.len]
  have hfit:i * k+(enc x).length≤(xs.flatMap enc).length:=by
   rw [hL,hk]
   have:=Nat.mul_le_mul_right k (show i+1≤n from hi)
   rwa [Nat.add_mul,Nat.one_mul] at this
  apply List.ext_getElem?
  intro t
  rw [setL_get _ _ _ _ hfit]
  rcases hkp with hkp|hk0
  · by_cases ht:t<n * k
    · have hq:t / k<n:=Nat.div_lt_of_lt_mul (by rw [Nat.mul_comm];exact ht)
      have hm:t % k<k:=Nat.mod_lt _ hkp
      have hte:t / k * k+t % k=t:=by rw [Nat.mul_comm];exact Nat.div_add_mod t k
      have hsl:t / k<(xs.set i x).length:=by rw [List.length_set,h.len];exact hq
      have hy:=flatMap_at hk (xs.set i x) (t / k) _ (List.getElem?_eq_getElem hsl) (t % k) _ (List.getElem?_eq_getElem (by rw [hk];exact hm))
      rw [hte] at hy
      rw [hy]
      by_cases hti:t / k=i
      · have hin:i * k≤t∧t<i * k+(enc x).length:=by rw [hk,←hti];omega
        rw [if_pos hin,←List.getElem?_eq_getElem]
        have hxx:(xs.set i x)[t / k]=x:=by simp [hti]
        rw [hxx]
        congr 1
        rw [←hti];omega
      · have hout:¬(i * k≤t∧t<i * k+(enc x).length):=by
         rw [hk]
         rintro ⟨ha,hb⟩
         apply hti
         rw [Nat.div_eq_iff hkp]
         omega
        rw [if_neg hout]
        have hxl:t / k<xs.length:=by rw [h.len];exact hq
        have hz:=flatMap_at hk xs (t / k) _ (List.getElem?_eq_getElem hxl) (t % k) _ (List.getElem?_eq_getElem (by rw [hk];exact hm))
        rw [hte] at hz
        rw [hz]
        have hxx:(xs.set i x)[t / k]=xs[t / k]:=List.getElem_set_ne (by omega) _
        simp only [hxx]
    · have hl2:((xs.set i x).flatMap enc).length=n * k:=by rw [flatMap_len hk,List.length_set,h.len]
      rw [List.getElem?_eq_none (by omega:((xs.set i x).flatMap enc).length≤t),if_neg (by omega),List.getElem?_eq_none (by omega)]
  · have hl2:((xs.set i x).flatMap enc).length=n * k:=by rw [flatMap_len hk,List.length_set,h.len]
    have hek:(enc x).length=0:=by rw [hk,hk0]
    rw [if_neg (by omega),List.getElem?_eq_none (by rw [hL,hk0];omega),List.getElem?_eq_none (by rw [hl2,hk0];omega)]
 rw [←e1]
 exact h1
theorem Own.cut (h:Own enc k e B w (some ⟨g,0,none⟩) n c xs) (hk:∀ x,(enc x).length=k) {i:Nat} (hi:i≤n) (vs:List Value) (hv:i * k+vs.length≤n * k):
 Own enc k e B (w.setCells g (i * k) vs) (some ⟨g,0,none⟩) i c (xs.take i)∧w.grownBy (w.setCells g (i * k) vs) (some g):=by
 obtain ⟨h1,h2⟩:=ownsRow_setCells vs (i * k) w _ h.own
 refine ⟨⟨by rw [List.length_take,h.len];omega,?_⟩,h2⟩
 have hlen:((xs.take i).flatMap enc).length=i * k:=by rw [flatMap_len hk,List.length_take,h.len];congr 1;omega
 refine ⟨hlen,?_⟩
 rcases h1.2 with ⟨h',_⟩|⟨g',cap',cur,h',hb,hg,hnc,hcm,hcs,htake⟩
 · simp at h'
 · simp only [Value.slice.injEq,Option.some.injEq,Addr.mk.injEq,and_true,true_and] at h'
   obtain ⟨rfl,rfl⟩:=h'
   refine .inr ⟨g,c,cur,rfl,hb,hg,Nat.le_trans hi hnc,hcm,hcs,?_⟩
   have hik:i * k≤n * k:=Nat.mul_le_mul_right k hi
   rw [show cur.toList.take (i * k)=(cur.toList.take (n * k)).take (i * k) by rw [List.take_take];congr 1;omega,htake]
   apply List.ext_getElem?
   intro t
   by_cases ht:t<i * k
   · rw [List.getElem?_take_of_lt ht,setL_get _ _ _ _ (by rw [flatMap_len hk,h.len];exact hv),if_neg (by omega)]
     conv=>rhs;rw [←List.getElem?_append_left (l₂:=(xs.drop i).flatMap enc) (by omega),←List.flatMap_append,List.take_append_drop]
   · rw [List.getElem?_eq_none (by rw [List.length_take];omega),List.getElem?_eq_none (by omega)]
theorem Own.cells (h:Own enc k e B w (some ⟨g,0,none⟩) n c xs) (hk:∀ x,(enc x).length=k) {i:Nat} {x:α} (hx:xs[i]? = some x):∀ j u,(enc x)[j]? = some u→w.cell? ⟨g,i * k+j,none⟩=some u:=by
 intro j u hu
 have:=h.own.cells (g:=g) rfl (i * k+j) u (flatMap_at hk xs i x hx j u hu)
 rwa [add_lit,Nat.zero_add] at this
theorem Own.free (h:Own enc k e B w (some ⟨g,0,none⟩) n c xs) (j:Nat):w.frozen? ⟨g,j,none⟩=false:=h.own.frozenAt j
theorem Own.lt (h:Own enc k e B w (some ⟨g,0,none⟩) n c xs):B≤g∧g<w.heap.size:=by
 rcases h.form with ⟨h1,_⟩|⟨g',h1,h2⟩
 · cases h1
 · cases h1;exact h2
end
theorem run_clear_row {P:Program} {t e:TypeId} {k bytes:Nat} (E:ElemT P t e k bytes) (w:World) (ty:TypeId) (z:Value) (hz:(P.info? e).map (·.zero)=some (some z)) (h1:∀ v∈z.cells.toList,v.oneCell'=true) (b o n c:Nat) (hn:0<n)
 (hc:∀ j,j<n * k→(w.cell? ⟨b,o+j,none⟩).isSome=true) (hf:∀ j,j<n * k→w.frozen? ⟨b,o+j,none⟩=false):
 (Builtin.clear_ #[t] ty #[.slice (some ⟨b,o,none⟩) n c]).run P w = .ok (.tuple #[]) (w.setCells b o (Builtin.zeroCells z.cells n).toList)∧(Builtin.zeroCells z.cells n).toList.length=n * k:=by
 obtain ⟨i,z',hi,hz0,hz1,hz2,hz3⟩:=E.info
 have hzz:z'=z:=by rw [hi] at hz;simp [hz0] at hz;exact hz
 subst hzz
 have hlen:(Builtin.zeroCells z'.cells n).toList.length=n * k:=by simp [Builtin.zeroCells,hz3]
 have hmem:∀ v∈(Builtin.zeroCells z'.cells n).toList,v.oneCell'=true:=by
  intro v hv
  simp only [Builtin.zeroCells,Array.toList_map,List.mem_map,Array.mem_toList_iff,Array.mem_range] at hv
  obtain ⟨a,ha,rfl⟩:=hv
  have hk0:=E.pos
  have hlt:a % z'.cells.size<z'.cells.size:=Nat.mod_lt _ (by omega)
  rw [getElem!_pos z'.cells _ hlt]
  exact h1 _ (by simp)
 have hst:=run_storeCells_cells (P:=P) b o (Builtin.zeroCells z'.cells n).toList 0 w (by rw [hlen];simpa using hc) (by rw [hlen];simpa using hf) hmem
 simp only [Nat.add_zero] at hst
 refine ⟨?_,hlen⟩
 have hv:∀ w,(zeroValue e).run P w = .ok z' w:=fun w=>by simp [zeroValue,typeInfo,hi,hz0]
 obtain ⟨m,rfl⟩:∃ m,n=m+1:=⟨n-1,by omega⟩
 simp [Builtin.clear_,run_underlying E.slice,hv,hst]
structure Kept {α:Type} (p:α→Bool) (l xs:List α) (i j:Nat):Prop where
 len:xs.length=l.length
 ij:i<j
 low:xs.take i=(l.take j).filter (fun x=> !p x)
 high:∀ m,j≤m→xs[m]? = l[m]?
section
variable {α:Type} {p:α→Bool} {l xs:List α} {i j:Nat}
theorem Kept.start {x:α} (hx:l[i]? = some x) (hp:p x=true) (hno:∀ m y,m<i→l[m]? = some y→p y=false):Kept p l l i (i+1):=by
 have hi:i<l.length:=(List.getElem?_eq_some_iff.1 hx).1
 refine ⟨rfl,by omega,?_,fun m _=>rfl⟩
 rw [List.take_add_one,hx,List.filter_append,List.filter_eq_self.2 (fun y hy=> ?_)]
 · simp [hp]
 · obtain ⟨m,hm,rfl⟩:=List.getElem_of_mem hy
   rw [List.length_take] at hm
   rw [List.getElem_take,hno m _ (by omega) (List.getElem?_eq_getElem (by omega))];rfl
theorem Kept.keep (h:Kept p l xs i j) {x:α} (hx:l[j]? = some x) (hp:p x=false):Kept p l (xs.set i x) (i+1) (j+1):=by
 have hj:j<l.length:=(List.getElem?_eq_some_iff.1 hx).1
 refine ⟨by rw [List.length_set];exact h.len,by have:=h.ij;omega,?_,fun m hm=> ?_⟩
 · rw [List.take_add_one,List.take_set_of_le (Nat.le_refl _),List.getElem?_set_self (by have:=h.ij;rw [h.len];omega),h.low,List.take_add_one,hx,List.filter_append]
   simp [hp]
 · rw [List.getElem?_set_ne (by have:=h.ij;omega)];exact h.high m (by omega)
theorem Kept.skip (h:Kept p l xs i j) {x:α} (hx:l[j]? = some x) (hp:p x=true):Kept p l xs i (j+1):=by
 refine ⟨h.len,by have:=h.ij;omega,?_,fun m hm=>h.high m (by omega)⟩
 rw [h.low,List.take_add_one,hx,List.filter_append]
 simp [hp]
theorem Kept.done (h:Kept p l xs i l.length):xs.take i=l.filter (fun x=> !p x):=by rw [h.low,List.take_length]
end
end Go.Proofs.YtejjplhknacoiaaGreatDoor
end
section
namespace Go.Proofs
open Go.Shelf
def Tryz.sortPl_ren:Go.Shelf.Ren:=⟨fun|6=>134|15=>109|14=>166|28=>151|29=>152|20=>177|21=>178|22=>179|23=>180|24=>181|25=>182|26=>183|27=>184|46=>186|47=>169|48=>170|49=>187|50=>188|57=>189|n=>n,fun|22=>37|24=>36|25=>118|3=>3|39=>188|0=>0|53=>234|55=>198|4=>4|46=>228|45=>227|50=>102|5=>5|9=>9|66=>248|70=>252|76=>265|77=>266|n=>n,fun|n=>n⟩
theorem Tryz.sortPl:Go.Proofs.SlLaysF0.n6 Tryz.prog Tryz.sortPl_ren:={
 mixed:=by kernel_rfl
 f6:=⟨Tryz.f134.name,by decide,Tryz.func134.trans (congrArg some (by kernel_rfl))⟩
 f14:=⟨Tryz.f166.name,by decide,Tryz.func166.trans (congrArg some (by kernel_rfl))⟩
 f15:=Tryz.func109.trans (congrArg some (by kernel_rfl))
 f20:=⟨Tryz.f177.name,by decide,Tryz.func177.trans (congrArg some (by kernel_rfl))⟩
 f21:=⟨Tryz.f178.name,by decide,Tryz.func178.trans (congrArg some (by kernel_rfl))⟩
 f22:=⟨Tryz.f179.name,by decide,Tryz.func179.trans (congrArg some (by kernel_rfl))⟩
 f23:=⟨Tryz.f180.name,by decide,Tryz.func180.trans (congrArg some (by kernel_rfl))⟩
 f24:=⟨Tryz.f181.name,by decide,Tryz.func181.trans (congrArg some (by kernel_rfl))⟩
 f25:=⟨Tryz.f182.name,by decide,Tryz.func182.trans (congrArg some (by kernel_rfl))⟩
 f26:=⟨Tryz.f183.name,by decide,Tryz.func183.trans (congrArg some (by kernel_rfl))⟩
 f27:=⟨Tryz.f184.name,by decide,Tryz.func184.trans (congrArg some (by kernel_rfl))⟩
 f28:=Tryz.func151.trans (congrArg some (by kernel_rfl))
 f29:=Tryz.func152.trans (congrArg some (by kernel_rfl))
 f46:=⟨Tryz.f186.name,by decide,Tryz.func186.trans (congrArg some (by kernel_rfl))⟩
 f47:=Tryz.func169.trans (congrArg some (by kernel_rfl))
 f48:=Tryz.func170.trans (congrArg some (by kernel_rfl))
 f49:=⟨Tryz.f187.name,by decide,Tryz.func187.trans (congrArg some (by kernel_rfl))⟩
 f50:=⟨Tryz.f188.name,by decide,Tryz.func188.trans (congrArg some (by kernel_rfl))⟩
 f57:=⟨Tryz.f189.name,by decide,Tryz.func189.trans (congrArg some (by kernel_rfl))⟩
 t0:=Tryz.underlying0
 a0:=Tryz.isAgg0
 z0:=Tryz.sizeOf0
 v0:=Tryz.zeroValue0
 t3:=Tryz.underlying3
 a3:=Tryz.isAgg3
 z3:=Tryz.sizeOf3
 v3:=Tryz.zeroValue3
 t4:=Tryz.underlying4
 a4:=Tryz.isAgg4
 z4:=Tryz.sizeOf4
 v4:=Tryz.zeroValue4
 t5:=Tryz.underlying5
 a5:=Tryz.isAgg5
 z5:=Tryz.sizeOf5
 v5:=Tryz.zeroValue5
 t9:=Tryz.underlying9
 a9:=Tryz.isAgg9
 z9:=Tryz.sizeOf9
 v9:=Tryz.zeroValue9
 t22:=Tryz.underlying37
 a22:=Tryz.isAgg37
 z22:=Tryz.sizeOf37
 v22:=Tryz.zeroValue37
 t25:=Tryz.underlying118
 a25:=Tryz.isAgg118
 z25:=Tryz.sizeOf118
 v25:=Tryz.zeroValue118
 t39:=Tryz.underlying188
 a39:=Tryz.isAgg188
 z39:=Tryz.sizeOf188
 v39:=Tryz.zeroValue188
 t45:=Tryz.underlying227
 a45:=Tryz.isAgg227
 z45:=Tryz.sizeOf227
 v45:=Tryz.zeroValue227
 t46:=Tryz.underlying228
 a46:=Tryz.isAgg228
 z46:=Tryz.sizeOf228
 v46:=Tryz.zeroValue228
 t50:=Tryz.underlying102
 a50:=Tryz.isAgg102
 z50:=Tryz.sizeOf102
 v50:=Tryz.zeroValue102
 t53:=Tryz.underlying234
 a53:=Tryz.isAgg234
 z53:=Tryz.sizeOf234
 v53:=Tryz.zeroValue234
 t55:=Tryz.underlying198
 a55:=Tryz.isAgg198
 z55:=Tryz.sizeOf198
 v55:=Tryz.zeroValue198
 t66:=Tryz.underlying248
 a66:=Tryz.isAgg248
 z66:=Tryz.sizeOf248
 v66:=Tryz.zeroValue248
 t70:=Tryz.underlying252
 a70:=Tryz.isAgg252
 z70:=Tryz.sizeOf252
 v70:=Tryz.zeroValue252
 t76:=Tryz.underlying265
 a76:=Tryz.isAgg265
 z76:=Tryz.sizeOf265
 v76:=Tryz.zeroValue265
 t77:=Tryz.underlying266
 a77:=Tryz.isAgg266
 z77:=Tryz.sizeOf266
 v77:=Tryz.zeroValue266 }
def Tryz.sortPls_ren:Go.Shelf.Ren:=⟨fun|6=>67|15=>109|14=>108|28=>151|29=>152|20=>143|21=>144|22=>145|23=>146|24=>147|25=>148|26=>149|27=>150|46=>168|47=>169|48=>170|49=>171|50=>172|57=>185|n=>n,fun|22=>98|24=>37|25=>143|3=>3|39=>188|0=>0|53=>234|55=>198|4=>4|46=>228|45=>227|50=>102|5=>5|9=>9|66=>248|70=>252|76=>265|77=>266|n=>n,fun|n=>n⟩
theorem Tryz.sortPls:Go.Proofs.SlLaysF.n6 Tryz.prog Tryz.sortPls_ren:={
 mixed:=by kernel_rfl
 f6:=⟨Tryz.f67.name,by decide,Tryz.func67.trans (congrArg some (by kernel_rfl))⟩
 f14:=⟨Tryz.f108.name,by decide,Tryz.func108.trans (congrArg some (by kernel_rfl))⟩
 f15:=Tryz.func109.trans (congrArg some (by kernel_rfl))
 f20:=⟨Tryz.f143.name,by decide,Tryz.func143.trans (congrArg some (by kernel_rfl))⟩
 f21:=⟨Tryz.f144.name,by decide,Tryz.func144.trans (congrArg some (by kernel_rfl))⟩
 f22:=⟨Tryz.f145.name,by decide,Tryz.func145.trans (congrArg some (by kernel_rfl))⟩
 f23:=⟨Tryz.f146.name,by decide,Tryz.func146.trans (congrArg some (by kernel_rfl))⟩
 f24:=⟨Tryz.f147.name,by decide,Tryz.func147.trans (congrArg some (by kernel_rfl))⟩
 f25:=⟨Tryz.f148.name,by decide,Tryz.func148.trans (congrArg some (by kernel_rfl))⟩
 f26:=⟨Tryz.f149.name,by decide,Tryz.func149.trans (congrArg some (by kernel_rfl))⟩
 f27:=⟨Tryz.f150.name,by decide,Tryz.func150.trans (congrArg some (by kernel_rfl))⟩
 f28:=Tryz.func151.trans (congrArg some (by kernel_rfl))
 f29:=Tryz.func152.trans (congrArg some (by kernel_rfl))
 f46:=⟨Tryz.f168.name,by decide,Tryz.func168.trans (congrArg some (by kernel_rfl))⟩
 f47:=Tryz.func169.trans (congrArg some (by kernel_rfl))
 f48:=Tryz.func170.trans (congrArg some (by kernel_rfl))
 f49:=⟨Tryz.f171.name,by decide,Tryz.func171.trans (congrArg some (by kernel_rfl))⟩
 f50:=⟨Tryz.f172.name,by decide,Tryz.func172.trans (congrArg some (by kernel_rfl))⟩
 f57:=⟨Tryz.f185.name,by decide,Tryz.func185.trans (congrArg some (by kernel_rfl))⟩
 t0:=Tryz.underlying0
 a0:=Tryz.isAgg0
 z0:=Tryz.sizeOf0
 v0:=Tryz.zeroValue0
 t3:=Tryz.underlying3
 a3:=Tryz.isAgg3
 z3:=Tryz.sizeOf3
 v3:=Tryz.zeroValue3
 t4:=Tryz.underlying4
 a4:=Tryz.isAgg4
 z4:=Tryz.sizeOf4
 v4:=Tryz.zeroValue4
 t5:=Tryz.underlying5
 a5:=Tryz.isAgg5
 z5:=Tryz.sizeOf5
 v5:=Tryz.zeroValue5
 t9:=Tryz.underlying9
 a9:=Tryz.isAgg9
 z9:=Tryz.sizeOf9
 v9:=Tryz.zeroValue9
 t22:=Tryz.underlying98
 a22:=Tryz.isAgg98
 z22:=Tryz.sizeOf98
 v22:=Tryz.zeroValue98
 a24:=Tryz.isAgg37
 z24:=Tryz.sizeOf37
 t25:=Tryz.underlying143
 a25:=Tryz.isAgg143
 z25:=Tryz.sizeOf143
 v25:=Tryz.zeroValue143
 t39:=Tryz.underlying188
 a39:=Tryz.isAgg188
 z39:=Tryz.sizeOf188
 v39:=Tryz.zeroValue188
 t45:=Tryz.underlying227
 a45:=Tryz.isAgg227
 z45:=Tryz.sizeOf227
 v45:=Tryz.zeroValue227
 t46:=Tryz.underlying228
 a46:=Tryz.isAgg228
 z46:=Tryz.sizeOf228
 v46:=Tryz.zeroValue228
 t50:=Tryz.underlying102
 a50:=Tryz.isAgg102
 z50:=Tryz.sizeOf102
 v50:=Tryz.zeroValue102
 t53:=Tryz.underlying234
 a53:=Tryz.isAgg234
 z53:=Tryz.sizeOf234
 v53:=Tryz.zeroValue234
 t55:=Tryz.underlying198
 a55:=Tryz.isAgg198
 z55:=Tryz.sizeOf198
 v55:=Tryz.zeroValue198
 t66:=Tryz.underlying248
 a66:=Tryz.isAgg248
 z66:=Tryz.sizeOf248
 v66:=Tryz.zeroValue248
 t70:=Tryz.underlying252
 a70:=Tryz.isAgg252
 z70:=Tryz.sizeOf252
 v70:=Tryz.zeroValue252
 t76:=Tryz.underlying265
 a76:=Tryz.isAgg265
 z76:=Tryz.sizeOf265
 v76:=Tryz.zeroValue265
 t77:=Tryz.underlying266
 a77:=Tryz.isAgg266
 z77:=Tryz.sizeOf266
 v77:=Tryz.zeroValue266 }
end Go.Proofs
end
section
namespace Go.Proofs.YtejjplhknacoiaaGreatDoor
open Go.RowKit Go.Proofs Go.Shelf Go.Sort
instance:Inhabited Place:=⟨⟨0,0⟩⟩
section
variable {α:Type} [Inhabited α] {enc:α→List Value} {k n c B g:Nat} {e:TypeId} {w:World} {xs:List α}
theorem flatK_list (hk:∀ x,(enc x).length=k) (d:Array α):(flatK enc k d).toList=d.toList.flatMap enc:=by
 apply List.ext_getElem?
 intro t
 by_cases ht:t<d.size * k
 · have hk0:0<k:=by
    rcases Nat.eq_zero_or_pos k with h|h
    · subst h;simp at ht
    · exact h
   have h1:t / k<d.size:=Nat.div_lt_of_lt_mul (by rw [Nat.mul_comm];exact ht)
   have h2:t % k<k:=Nat.mod_lt _ hk0
   have hf:=get_flatK enc k d t ht
   have hs:t<(flatK enc k d).size:=by simpa using ht
   rw [getElem!_pos _ t hs] at hf
   have hx:d.toList[t / k]? = some d[t / k]! := by
    rw [Array.getElem?_toList,getElem!_pos d _ h1];simp [h1]
   have hu:(enc d[t / k]!)[t % k]? = some (enc d[t / k]!)[t % k]! := by
    rw [getElem!_pos (enc d[t / k]!) _ (by rw [hk];exact h2)];simp [hk,h2]
   have:=flatMap_at hk d.toList (t / k) _ hx (t % k) _ hu
   rw [Nat.mul_comm,Nat.div_add_mod] at this
   rw [this,Array.getElem?_toList,Array.getElem?_eq_getElem hs,hf]
 · rw [List.getElem?_eq_none (by simp;omega),List.getElem?_eq_none (by rw [flatMap_len hk];simp;omega)]
theorem Own.holdsK (h:Own enc k e B w (some ⟨g,0,none⟩) n c xs) (hk:∀ x,(enc x).length=k):HoldsK enc k w g 0 xs.toArray:=by
 intro j hj
 have hj':j<xs.length * k:=by simpa using hj
 have hl:=flatK_list hk xs.toArray
 have hfl:(flatK enc k xs.toArray).size=xs.length * k:=by simp
 have hget:(xs.flatMap enc)[j]? = some (flatK enc k xs.toArray)[j]! := by
  rw [show xs.flatMap enc=(flatK enc k xs.toArray).toList from hl.symm,Array.getElem?_toList,getElem!_pos _ j (by rw [hfl];exact hj')]
  simp [hj']
 have:=h.own.cells (g:=g) rfl j _ hget
 rw [add_lit] at this
 exact ⟨this,by rw [Nat.zero_add];exact h.own.frozenAt j⟩
theorem Own.sorted (h:Own enc k e B w (some ⟨g,0,none⟩) n c xs) (hk:∀ x,(enc x).length=k) (d':Array α) (hs:d'.size=n) (m:Nat) (os:Array Obj):
 Own enc k e B (sortWorldK enc k w g 0 m d' os) (some ⟨g,0,none⟩) n c d'.toList∧w.grownBy (sortWorldK enc k w g 0 m d' os) (some g):=by
 have hlt:=h.lt
 have hbl:∀ i,i<w.heap.size→(sortWorldK enc k w g 0 m d' os).heap[i]? = (w.heap.modify g (onCells (putCells id 0 (flatK enc k d'))))[i]? := by
  intro i hi
  show ((w.heap.modify g (onCells (putCells id 0 (flatK enc k d'))))++os)[i]? = _
  rw [Array.getElem?_append_left (by simpa using hi)]
 have hg:w.grownBy (sortWorldK enc k w g 0 m d' os) (some g):=by
  refine ⟨rfl,rfl,rfl,?_,fun i hi hne=> ?_⟩
  · show w.heap.size≤((w.heap.modify g (onCells (putCells id 0 (flatK enc k d'))))++os).size
    simp
  · rw [hbl i hi,Array.getElem?_modify,if_neg]
    intro e;exact hne (by rw [e])
 refine ⟨⟨by simpa using hs,?_⟩,hg⟩
 rcases h.own with ⟨hlen,⟨h1,_⟩|⟨g',cap,cur,h1,hb,hcur,hnc,hmax,hsz,htake⟩⟩
 · cases h1
 · cases h1
   refine ⟨by rw [flatMap_len hk];simp [hs],.inr ⟨g,c,putCells id 0 (flatK enc k d') cur,rfl,hb,?_,hnc,hmax,by simp [putCells,hsz],?_⟩⟩
   · rw [hbl g hlt.2,Array.getElem?_modify,if_pos rfl,hcur];rfl
   · rw [←flatK_list hk d']
     have hfs:(flatK enc k d').size=n * k:=by simp [hs]
     have hnk:n * k≤cur.size:=by rw [hsz];exact Nat.mul_le_mul_right _ hnc
     apply List.ext_getElem?
     intro t
     by_cases ht:t<n * k
     · rw [List.getElem?_take_of_lt ht]
       simp only [putCells,Array.getElem?_toList,Array.getElem?_mapIdx,id]
       rw [Array.getElem?_eq_getElem (by omega:t<cur.size)]
       simp only [Option.map_some,Nat.zero_le,true_and,Nat.zero_add,hfs,if_pos ht,Nat.sub_zero]
       rw [getElem!_pos _ t (by rw [hfs];exact ht),Array.getElem?_eq_getElem (by rw [hfs];exact ht)]
     · rw [List.getElem?_eq_none (by rw [List.length_take];omega),List.getElem?_eq_none (by simp [hs];omega)]
end
def ltPl (a b:Place):Prop:=a.pit<b.pit∨a.pit=b.pit∧a.layer<b.layer
instance (a b:Place):Decidable (ltPl a b):=by unfold ltPl;infer_instance
theorem ltOf_pl (a b:Place):ltOf comparePl a b=decide (ltPl a b):=by
 unfold ltOf comparePl or2 cmpI ltPl
 by_cases h1:a.pit<b.pit
 · simp [h1]
 · by_cases h2:b.pit<a.pit
   · have:¬a.pit=b.pit:=by omega
     simp [h1,h2,this]
   · have h3:a.pit=b.pit:=by omega
     by_cases h4:a.layer<b.layer
     · simp [h3,h4]
     · by_cases h5:b.layer<a.layer<;>simp [h3,h4,h5]
theorem ltF {a b:Place} : ltOf comparePl a b=false ↔ ¬ltPl a b:=by rw [ltOf_pl];simp
theorem ltT {a b:Place} : ltOf comparePl a b=true↔ltPl a b:=by rw [ltOf_pl];simp
theorem swoPl:SWO (ltOf comparePl) where
 irrefl x:=by rw [ltF];unfold ltPl;omega
 trans x y z h1 h2:=by rw [ltT] at *;unfold ltPl at *;omega
 ntrans x y z h1 h2:=by rw [ltF] at *;unfold ltPl at *;omega
theorem totPl (x y:Place) (h1:ltOf comparePl x y=false) (h2:ltOf comparePl y x=false):x=y:=by
 rw [ltF] at h1 h2
 cases x;cases y
 simp only [ltPl] at h1 h2
 simp only [Place.mk.injEq]
 omega
def gePl (x y:Place):Bool:= !(ltOf comparePl) y x
theorem gePl_iff {x y:Place} : gePl x y=true ↔ ¬ltPl y x:=by unfold gePl;rw [Bool.not_eq_true',ltF]
def sortPl (l:List Place):List Place:=l.mergeSort fun x y=> !(ltOf comparePl) y x
theorem sortPl_perm (l:List Place):(sortPl l).Perm l:=List.mergeSort_perm _ _
theorem sortPl_pairwise (l:List Place):(sortPl l).Pairwise (fun a b=>gePl a b=true):=by
 refine List.pairwise_mergeSort (le:=gePl) ?_ ?_ l
 · intro a b c h1 h2
   rw [gePl_iff] at *
   unfold ltPl at *
   omega
 · intro a b
   rw [Bool.or_eq_true,gePl_iff,gePl_iff]
   unfold ltPl
   omega
theorem sortPl_congr {l m:List Place} (h:l.Perm m):sortPl l=sortPl m:=by
 refine List.Perm.eq_of_pairwise ?_ (sortPl_pairwise l) (sortPl_pairwise m) ((sortPl_perm l).trans (h.trans (sortPl_perm m).symm))
 intro a b _ _ h1 h2
 rw [gePl_iff] at h1 h2
 exact totPl a b (ltF.2 h2) (ltF.2 h1)
theorem ent_compare:∀ args w,(callFunc 55 args).run Tryz.prog w = .ok (.enter 55 args) w:=enters_of Tryz.func55 (by kernel_rfl) rfl
theorem cmpLays_pl (blk size:Nat) (w:World):CmpLays Tryz.prog 55 #[] encPlace 2 comparePl blk 0 size w:=
 fun _ _ _ _ x y=>(compare_any x.pit x.layer y.pit y.layer _).mono fun _ _ ⟨he,q,os',h⟩=>⟨he,q,os',h⟩
theorem SortFunc_Place (B:Nat) (A:Option Addr) (n c:Nat) (xs:List Place) (w:World) (h:Own encPlace 2 36 B w A n c xs) (hn:n≤17592186044416):
 Calls Tryz.prog 134 #[.slice A n c,.func (.func 55) #[] #[]] w fun e w'=>
  e = .returned (.tuple #[])∧Own encPlace 2 36 B w' A n c (sortPl xs)∧w.grownBy w' (blockOf A):=by
 have hlen:=h.len
 rcases h.form with ⟨rfl,rfl,rfl⟩|⟨g,rfl,_,hlt⟩
 · have hx:xs = []:=List.eq_nil_of_length_eq_zero hlen
   subst hx
   have:=AnyF.slices_SortFunc_none Tryz.sortPl none 0 (.func (.func 55) #[] #[]) w
   change Calls Tryz.prog 134 _ _ _ at this
   refine this.mono ?_
   rintro e w' ⟨rfl,rfl⟩
   exact ⟨rfl,by rw [show sortPl [] = [] by simp [sortPl]];exact h,World.grownBy.refl _ _⟩
 · have hcon:=AnyQ.slices_SortFunc_total Tryz.sortPl 2 Tryz.isAgg36 Tryz.sizeOf36 encPlace (fun _=>rfl) onePlace comparePl swoPl 55 #[] g 0 c xs.toArray w ent_compare (cmpLays_pl g _ w) (h.holdsK (fun _=>rfl)) hlt (by simp;omega) totPl
   change Calls Tryz.prog 134 _ _ _ at hcon
   simp only [List.size_toArray,hlen] at hcon
   refine hcon.mono ?_
   rintro e w' ⟨rfl,m,os,rfl⟩
   obtain ⟨h1,h2⟩:=h.sorted (fun _=>rfl) (sortPl xs).toArray (by simp [sortPl,hlen]) m os
   exact ⟨rfl,h1,h2⟩
theorem SortedFunc_Place (g:Nat) (lb:Array Value) (eg:∀ args w,(callFunc g args).run Tryz.prog w = .ok (.enter g args) w)
 (S:List Place→Prop) (N:Nat) (hN:N≤1000000000) (hS1:∀ ss,S ss→ss.length≤N) (w:World) (hseq:SeqGives Fence.wide 5 Tryz.prog g lb (fun x:Place=> .agg #[.int .i64 x.pit,.int .i64 x.layer]) S N w):
 Calls Tryz.prog 90 #[.func (.func g) #[] lb,.func (.func 55) #[] #[]] w fun e w'=>
  ∃ A c ss,e = .returned (.slice A ss.length c)∧S ss∧Own encPlace 2 36 w.heap.size w' A ss.length c (sortPl ss)∧Below w.heap.size w w':=by
 have hcol:=collectPlace g lb eg S N hN w hseq
 clear hseq
 go_enter Tryz.func90,Tryz.ntmps90
 go_wp2_with (first
  | (go_at_call 133;refine hcol.mono ?_;rintro e w1 ⟨A,c,ss,rfl,hS,hO,hb⟩;have hl1:=Lib.hid (hS1 ss hS))
  | (go_at_call 134;refine (SortFunc_Place _ A _ c ss w1 hO (by have:ss.length≤N:=hl1;omega)).mono ?_;rintro e w2 ⟨rfl,hO2,hg2⟩))
 go_ret
 exact ⟨A,c,ss,rfl,hS,hO2,hb.grown hg2 hb.size (fun k e=>hO.ltB k e)⟩
theorem sorted_b (b:Nat) (m:List (Place×Bool)) (w:World) (h:MapP eBool w b m) (hm:m.length≤1000000000):
 Calls Tryz.prog 54 #[.map (some b),.func (.func 55) #[] #[]] w fun e w'=>
  ∃ A c,e = .returned (.slice A m.length c)∧Own encPlace 2 36 w.heap.size w' A m.length c (sortPl (m.map (·.1)))∧Below w.heap.size w w':=by
 have hs:=SortedFunc_Place _ _ ent_keysb _ m.length hm (fun ss hp=>by rw [hp.length_eq];simp) _ (keys_givesb 5 b m w h)
 go_enter Tryz.func54,Tryz.ntmps54
 go_wp2_with (first
  | (go_at_call 91;refine (Keys_b b _).mono ?_;rintro e w1 ⟨rfl,rfl⟩)
  | (go_at_call 90;refine hs.mono ?_;rintro e w1 ⟨A,c,ss,rfl,hp,hO,hb⟩))
 go_ret
 refine ⟨A,c,?_,?_,?_⟩
 · rw [hp.length_eq];simp
 · rw [sortPl_congr hp,hp.length_eq] at hO
   simpa using hO.mono (B':=w.heap.size) (by simp)
 · exact ((Below.refl _ w).alloc (Nat.le_refl _) _).trans (hb.mono (by simp))
theorem sorted_a (b:Nat) (m:List (Place×Admit)) (w:World) (h:MapP eAdmit w b m) (hm:m.length≤1000000000):
 Calls Tryz.prog 56 #[.map (some b),.func (.func 55) #[] #[]] w fun e w'=>
  ∃ A c,e = .returned (.slice A m.length c)∧Own encPlace 2 36 w.heap.size w' A m.length c (sortPl (m.map (·.1)))∧Below w.heap.size w w':=by
 have hs:=SortedFunc_Place _ _ ent_keysa _ m.length hm (fun ss hp=>by rw [hp.length_eq];simp) _ (keys_givesa 5 b m w h)
 go_enter Tryz.func56,Tryz.ntmps56
 go_wp2_with (first
  | (go_at_call 94;refine (Keys_a b _).mono ?_;rintro e w1 ⟨rfl,rfl⟩)
  | (go_at_call 90;refine hs.mono ?_;rintro e w1 ⟨A,c,ss,rfl,hp,hO,hb⟩))
 go_ret
 refine ⟨A,c,?_,?_,?_⟩
 · rw [hp.length_eq];simp
 · rw [sortPl_congr hp,hp.length_eq] at hO
   simpa using hO.mono (B':=w.heap.size) (by simp)
 · exact ((Below.refl _ w).alloc (Nat.le_refl _) _).trans (hb.mono (by simp))
end Go.Proofs.YtejjplhknacoiaaGreatDoor
end

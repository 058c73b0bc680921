/- Contracts that the laws lean on: Circ, EdE, EdS, SolC. -/
import Derived.Test.YtpmkgmilfifkpaaGreatDoorDE15
set_option maxRecDepth 100000
set_option maxHeartbeats 4000000
section
namespace Go.Proofs.YtpmkgmilfifkpaaGreatDoor
open Go.RowKit Go.Proofs Go.Shelf
theorem AllAt.push {B ba pts n c k b8:Nat} {W W':World} {all:List Walks} {cur:Array Value} {g al:Nat→Nat} (h:AllAt B W ba pts all cur g al) (hlen:all.length=k) (hk:k<pts) (hc:ChgT (fun q=>q=ba) W W') (hf:factC W B ba n c k b8 cur (rPut emptyRow k 0) 7 undef W'):
 ∃ cur' g' al',AllAt B W' ba pts (all ++ [walks0 k]) cur' g' al':=by
 obtain ⟨k3,k4,a2,a3,a4,a5,a6⟩:=hf
 have hsz:=h.size
 refine ⟨_,fun q=>if q=k then k3 else g q,fun q=>if q=k then k4 else al q,a6,by simp [hsz],h.base,fun p x hx=> ?_,fun p q hp hq hne=> ?_⟩
 · by_cases e:p=k
   · subst e
     rw [List.getElem?_append_right (by omega),hlen,Nat.sub_self] at hx
     cases hx
     refine ⟨1,1,?_,?_,?_,?_⟩
     · simp only [if_true]
       rw [Array.getElem?_setIfInBounds_ne (by omega),Array.getElem?_setIfInBounds_self_of_lt (by omega)];rfl
     · simp only [if_true]
       rw [Array.getElem?_setIfInBounds_self_of_lt (by simp;omega)];rfl
     · simp only [if_true];exact a4
     · simp only [if_true];exact a5
   · have hpl:p<k:=by
      have:=(List.getElem?_eq_some_iff.1 hx).1
      rw [List.length_append,List.length_singleton,hlen] at this;omega
     rw [List.getElem?_append_left (by omega)] at hx
     have hw:=h.w p x hx
     obtain ⟨⟨cg,tg⟩,⟨ca,ta⟩⟩:=hw.types
     simp only [if_neg e]
     refine hw.kept ?_ ?_ (hc.block _ hw.lt.1 ?_) (hc.block _ hw.lt.2 ?_) hc.size
     · rw [Array.getElem?_setIfInBounds_ne (by omega),Array.getElem?_setIfInBounds_ne (by omega)]
     · rw [Array.getElem?_setIfInBounds_ne (by omega),Array.getElem?_setIfInBounds_ne (by omega)]
     · intro e;rw [e,h.at_] at tg;cases tg
     · intro e;rw [e,h.at_] at ta;cases ta
 · rw [List.length_append,List.length_singleton,hlen] at hp hq
   have hgl:∀ q,q<k→g q<W.heap.size∧al q<W.heap.size:=fun q hq=>(h.w q _ (List.getElem?_eq_getElem (by omega))).lt
   by_cases e:p=k
   · subst e
     have h2:=hgl q (by omega)
     simp only [if_true,if_neg (Ne.symm hne)]
     omega
   · by_cases e':q=k
     · subst e'
       have h2:=hgl p (by omega)
       simp only [if_true,if_neg hne]
       omega
     · have:=h.ne p q (by omega) (by omega) hne
       simp only [if_neg e,if_neg e'];exact this
theorem circleRow_hit {bs:List Bound} {l:List Walks} {p:Nat} {x:Walks} (hx:l[p]? = some x) (h:rAt (x.longer bs).now p<0):circleRow bs (l.drop p) p=(x.longer bs::l.drop (p+1),some ((x.longer bs).back bs p)):=by
 have hp:=(List.getElem?_eq_some_iff.1 hx).1
 have e:l.drop p=x::l.drop (p+1):=by rw [List.drop_eq_getElem_cons hp,(List.getElem?_eq_some_iff.1 hx).2]
 rw [e,circleRow,if_pos h]
theorem circleRow_miss {bs:List Bound} {l:List Walks} {p:Nat} {x:Walks} (hx:l[p]? = some x) (h:¬rAt (x.longer bs).now p<0):circleRow bs (l.drop p) p=(x.longer bs::(circleRow bs (l.drop (p+1)) (p+1)).1,(circleRow bs (l.drop (p+1)) (p+1)).2):=by
 have hp:=(List.getElem?_eq_some_iff.1 hx).1
 have e:l.drop p=x::l.drop (p+1):=by rw [List.drop_eq_getElem_cons hp,(List.getElem?_eq_some_iff.1 hx).2]
 rw [e,circleRow,if_neg h]
structure RowMid (bs:List Bound) (m:Nat) (all now:List Walks) (p:Nat):Prop where
 len:now.length=all.length
 same:∀ q:Nat,p≤q→now[q]? = all[q]?
 done:∀ (q:Nat) (x:Walks),q<p→now[q]? = some x→WOk bs (m+1) x
 todo:∀ (q:Nat) (x:Walks),p≤q→now[q]? = some x→WOk bs m x
 row1:(circleRow bs all 0).1=now.take p++(circleRow bs (all.drop p) p).1
 row2:(circleRow bs all 0).2=(circleRow bs (all.drop p) p).2
theorem RowMid.start {bs:List Bound} {m:Nat} {all:List Walks} (h:∀ (q:Nat) (x:Walks),all[q]? = some x→WOk bs m x):RowMid bs m all all 0:=
 ⟨rfl,fun _ _=>rfl,fun _ _ h=>absurd h (Nat.not_lt_zero _),fun q x _ hx=>h q x hx,by simp,by simp⟩
theorem RowMid.next {pts:Int} {bs:List Bound} (hok:SysOk pts bs) {m:Nat} {all now:List Walks} {p:Nat} {x:Walks} (h:RowMid bs m all now p) (hx:now[p]? = some x) (hn:¬rAt (x.longer bs).now p<0):RowMid bs m all (now.set p (x.longer bs)) (p+1):=by
 have hp:=(List.getElem?_eq_some_iff.1 hx).1
 have hxa:all[p]? = some x:=(h.same p (Nat.le_refl _)).symm.trans hx
 have hm:=circleRow_miss hxa hn
 refine ⟨by rw [List.length_set];exact h.len,fun q hq=>by rw [List.getElem?_set_ne (by omega)];exact h.same q (by omega),fun q y hq hy=> ?_,fun q y hq hy=> ?_,?_,?_⟩
 · by_cases e:q=p
   · subst e
     rw [List.getElem?_set_self hp] at hy
     cases hy
     exact (h.todo q x (Nat.le_refl _) hx).longer hok
   · rw [List.getElem?_set_ne (Ne.symm e)] at hy
     exact h.done q y (by omega) hy
 · rw [List.getElem?_set_ne (by omega)] at hy
   exact h.todo q y (by omega) hy
 · rw [h.row1,hm]
   simp only
   rw [List.take_add_one,List.take_set_of_le (Nat.le_refl _),List.getElem?_set_self hp]
   simp
 · rw [h.row2,hm]
theorem RowMid.fin {bs:List Bound} {m:Nat} {all now:List Walks} {p:Nat} (h:RowMid bs m all now p) (hp:p=all.length):circleRow bs all 0=(now,none):=by
 subst hp
 have h1:=h.row1
 have h2:=h.row2
 rw [List.drop_length,circleRow] at h1 h2
 simp only [List.append_nil] at h1 h2
 rw [←h.len,List.take_length] at h1
 rw [←h1,←h2]
theorem circleLoop_hit {bs:List Bound} {n:Nat} {all:List Walks} {c:List Int} (h:(circleRow bs all 0).2=some c):circleLoop bs (n+1) all=c:=by
 rw [circleLoop]
 split
 · rename_i c' e;rw [e] at h;exact Option.some.inj h
 · rename_i e;rw [e] at h;cases h
theorem circleLoop_miss {bs:List Bound} {n:Nat} {all now:List Walks} (h:circleRow bs all 0=(now,none)):circleLoop bs (n+1) all=circleLoop bs n now:=by
 rw [circleLoop,h]
theorem longerR_nil (now:Row):longerR [] now=(emptyRow,zeroRow):=rfl
theorem wpL_make {P:Program} {ops:Array Oper} {rest:List Oper} {o:Oper} {a:Act} {w:World} {Q:Exit→Act→World→Prop} {t e:TypeId} {k bytes:Nat} (E:ElemT P t e k bytes) (B m:Nat) {x y:Operand} (ho:o.op = .makeSlice t x y) (hgd:o.guard=none) (hx:a.eval x = .int .i64 (m:Int)) (hy:a.eval y = .int .i64 (m:Int)) (hm:m≤1000000) (hb:bytes≤1000000) (hB:B≤w.heap.size)
 (h:∀ w' cur,w'.heap[w.heap.size]? = some (.cells cur e (0,0))→cur.size=m * k→w.grownBy w' none→wpList P ops Q rest (a.put o.dst (.slice (some ⟨w.heap.size,0,none⟩) m m)) w'):wpList P ops Q (o::rest) a w:=by
 obtain ⟨i,z,hi,hz0,hz1,hz2,hz3⟩:=E.info
 have hbm:i.bytes * m≤1000000 * 1000000:=Nat.mul_le_mul (by omega) hm
 obtain ⟨w',h1,h2,h3⟩:=run_make_full (P:=P) w B t e i z k E.slice hi hz0 hz1 .i64 .i64 m (by omega) (by unfold maxLen;omega) hB
 refine wpList_plain hgd fun _ hK=> ?_
 unfold Oper.wp execOp
 simp only [ho,hx,hy,Sem.run_bind,h1,Result.andThen_ok,Sem.run_pure]
 rcases h2.2 with ⟨e1,_⟩|⟨g,cap,cur,e1,a1,a2,a3,a4,a5,_⟩
 · cases e1
 · cases e1
   exact hK _ _ (h w' cur a2 a5 h3)
theorem elWalks:ElemT Tryz.prog 169 174 2 48:=elemT_of (z:=.agg #[.slice none 0 0,.slice none 0 0]) Tryz.underlying169 (by kernel_rfl) rfl (by decide)
structure CircAt (w W:World) (pts:Int) (A:Option Addr) (n c ba P:Nat) (all:List Walks):Prop where
 bel:Below w.heap.size w W
 sys:W.heap[w.heap.size]? = some (.cells #[.int .i64 pts,.slice A n c] 83 (0,0))
 bal:w.heap.size<ba
 all:∃ cur g al,AllAt w.heap.size W ba P all cur g al
theorem CircAt.below {w W W':World} {pts:Int} {A:Option Addr} {n c ba P:Nat} {all:List Walks} (h:CircAt w W pts A n c ba P all) (hb:Below W.heap.size W W'):CircAt w W' pts A n c ba P all:=by
 have hl:=(Array.getElem?_eq_some_iff.1 h.sys).1
 obtain ⟨cur,g,al,ha⟩:=h.all
 exact ⟨h.bel.trans (hb.mono h.bel.size),(hb.block _ hl).trans h.sys,h.bal,cur,g,al,ha.below hb⟩
theorem CircAt.drew {w W:World} {pts:Int} {A:Option Addr} {n c ba P:Nat} {all:List Walks} (h:CircAt w W pts A n c ba P all):CircAt w W.drew pts A n c ba P all:=h.below (Below.refl _ _).drew
theorem CircAt.push {w W W':World} {pts:Int} {A:Option Addr} {n c ba P k b8:Nat} {nn cc:Nat} {all:List Walks} {cur:Array Value} {g al:Nat→Nat} (h:CircAt w W pts A n c ba P all) (ha:AllAt w.heap.size W ba P all cur g al) (hlen:all.length=k) (hk:k<P) (hc:ChgT (fun q=>q=ba) W W') (hf:factC W w.heap.size ba nn cc k b8 cur (rPut emptyRow k 0) 7 undef W'):
 CircAt w W' pts A n c ba P (all ++ [walks0 k]):=by
 have hl:=(Array.getElem?_eq_some_iff.1 h.sys).1
 exact ⟨below_chg h.bel hc (fun q e=>by have:=h.bal;omega) h.bel.size,(hc.block _ hl (fun e=>by have:=h.bal;omega)).trans h.sys,h.bal,ha.push hlen hk hc hf⟩
theorem CircAt.longer {w W W':World} {pts:Int} {A:Option Addr} {n c ba P p:Nat} {all:List Walks} {cur:Array Value} {g al:Nat→Nat} (h:CircAt w W pts A n c ba P all) (ha:AllAt w.heap.size W ba P all cur g al) {x:Walks} (hx:all[p]? = some x) (bs:List Bound)
 (hp:LongPost W W' w.heap.size ba (2 * p) cur (some ⟨g p,0,none⟩) x.sums.length (some ⟨al p,0,none⟩) x.last.length x.sums x.last (longerR bs x.now).1 (longerR bs x.now).2):CircAt w W' pts A n c ba P (all.set p (x.longer bs)):=by
 have hl:=(Array.getElem?_eq_some_iff.1 h.sys).1
 obtain ⟨h1,hc⟩:=ha.longer hx bs hp
 have key:∀ k,(k=ba∨∃ q,q<all.length∧(k=g q∨k=al q))→w.heap.size≤k:=by
  rintro k (rfl|⟨q,hq,e⟩)
  · exact Nat.le_of_lt h.bal
  · obtain ⟨cs,cl,_,_,h3,h4⟩:=ha.w q _ (List.getElem?_eq_getElem hq)
    have:=h3.lt.1;have:=h4.lt.1
    rcases e with rfl|rfl<;>omega
 have key2:¬(w.heap.size=ba∨∃ q,q<all.length∧(w.heap.size=g q∨w.heap.size=al q)):=by
  rintro (e|⟨q,hq,e⟩)
  · have:=h.bal;omega
  · obtain ⟨⟨_,t1⟩,⟨_,t2⟩⟩:=(ha.w q _ (List.getElem?_eq_getElem hq)).types
    rcases e with e|e
    · rw [←e,h.sys] at t1;cases t1
    · rw [←e,h.sys] at t2;cases t2
 exact ⟨below_chg h.bel hc key h.bel.size,(hc.block _ hl key2).trans h.sys,h.bal,h1⟩
theorem empty_cell (W:World) (k:Nat) (hk:k<60):(W.alloc (.cells (rowA emptyRow) 151)).cell? ⟨W.heap.size,k,none⟩=some (.int .i64 noneV):=by
 have h9:rowAt? (W.alloc (.cells (rowA emptyRow) 151)) W.heap.size 60=some (rowA emptyRow):=by rw [rowAt?_alloc_at _ _ rfl,if_pos (by rw [rowA_size,emptyRow_len])]
 have h:=rowAt?_int h9 (i:=k) (by rw [emptyRow_len];exact hk)
 have e:emptyRow.getD k 0=noneV:=by
  have:=rAt_empty (k:Int) (by omega) (by omega)
  unfold rAt at this
  rwa [Int.toNat_natCast] at this
 rw [h,e]
def circOk (pts:Int) (bs:List Bound):Bool:=decide (0<(circleX pts bs).length)
theorem Circle_any (pts:Int) (A:Option Addr) (n c:Nat) (bs:List Bound) (w:World) (hl:Rd encBound 4 w A n c bs) (hk:checkSys pts bs=0):
 Calls Tryz.prog 71 #[.agg #[.int .i64 pts,.slice A n c]] w fun e w'=> ∃ A' c',e = .returned (.tuple #[.slice A' (circleX pts bs).length c',.bool (circOk pts bs),.int .i64 0])∧Below w.heap.size w w'∧
  Own encInt 1 3 w.heap.size w' A' (circleX pts bs).length c' (circleX pts bs):=by
 have hok:=sysOk_of hk
 have hp1:=hok.p1
 have hp2:=hok.p2
 obtain ⟨P,hP⟩:∃ P:Nat,pts=P:=⟨pts.toNat,by omega⟩
 have hPl:1≤P∧P≤60:=by omega
 have hcx:circleX pts bs=circleLoop bs P ((List.range P).map walks0):=by unfold circleX;rw [hP,Int.toNat_natCast]
 obtain ⟨R,hR⟩:∃ R,circleX pts bs=R:=⟨_,rfl⟩
 have hro:circOk pts bs=decide (0<R.length):=by unfold circOk;rw [hR]
 rw [hro,hR]
 rw [hR] at hcx
 clear hro hR
 obtain ⟨w1,hw1⟩:∃ w1,w.alloc (.cells #[.int .i64 pts,.slice A n c] 83)=w1:=⟨_,rfl⟩
 have hb1:Below w.heap.size w w1:=(by rw [←hw1];exact (Below.refl _ w).alloc (Nat.le_refl _) _)
 have hz1:w1.heap.size=w.heap.size+1:=(by rw [←hw1];simp)
 have hsys:w1.heap[w.heap.size]? = some (.cells #[.int .i64 pts,.slice A n c] 83 (0,0)):=(by rw [←hw1];exact heap_alloc_new w _)
 have hc:=CheckSystem_any pts A n c bs w1 (hl.below hb1 (Nat.le_refl _))
 rw [hk] at hc
 have HC:=Lib.hid hc
 have HL:=Lib.hid hl
 have HOK:=Lib.hid hok
 have HCX:=Lib.hid hcx
 have HP:=Lib.hid hP
 have d0:w1.cell? ⟨w.heap.size,0,none⟩=some (.int .i64 pts):=(by simp [World.cell?,hsys])
 have d1:w1.cell? ⟨w.heap.size,1,none⟩=some (.slice A n c):=(by simp [World.cell?,hsys])
 clear hc hl hok hk hcx hP
 go_enter Tryz.func71,Tryz.ntmps71
 go_wp2_with (fail)
 go_step3
 go_wp2_with (first
  | (go_at_call 70;refine HC.out.mono ?_;rintro e w2 ⟨rfl,hb2⟩
     have hs2:=(hb2.block _ (by omega)).trans hsys
     have d0:w2.cell? ⟨w.heap.size,0,none⟩=some (.int .i64 pts):=(by simp [World.cell?,hs2])
     have hz2:=hb2.size
     have HS2:=Lib.hid hs2
     have HB2:=Lib.hid (hb1.trans (hb2.mono (by omega)))
     clear hs2 hb2)
  | (refine wpL_make elWalks w.heap.size P rfl rfl (by rw [HP.out];rfl) (by rw [HP.out];rfl) (by omega) (by decide) (by omega) ?_
     intro w3 cur hcur hcs hg3
     have hC:CircAt w w3 pts A n c w2.heap.size P []:=⟨HB2.out.grown hg3 (by omega) (fun k e=>by cases e),(hg3.block _ (by omega) (by simp)).trans HS2.out,by omega,cur,fun _=>0,fun _=>0,⟨hcur,by omega,by omega,fun p x h=>by simp at h,fun p q h=>absurd h (Nat.not_lt_zero _)⟩⟩
     have HC3:=Lib.hid hC
     clear hcur hcs hg3 hC))
 obtain ⟨ba,hba⟩:∃ ba,w2.heap.size=ba:=⟨_,rfl⟩
 rw [hba] at HC3 ⊢
 clear hba
 go_loopw [22] (fun i wr=> ∃ k:Nat,k≤P∧i = .int .i64 k∧Hid (CircAt w wr pts A n c ba P ((List.range k).map walks0))) (fun i _=>P-(intOf i).toNat)
 case atStart=>exact ⟨0,Nat.zero_le _,rfl,HC3⟩
 case round=>
  obtain ⟨k,hk,rfl,hC⟩:=hrel
  by_cases hlt:k<P
  · obtain ⟨cur,g,al,ha⟩:=hC.out.all
    have HA:=Lib.hid ha
    have hbal:=hC.out.bal
    have hbl:=ha.lt
    clear ha
    go_upto_region 10 with (first
     | (go_at_call 111;refine (empty_any _).mono ?_;rintro e w4 ⟨rfl,hb4⟩
        have hd4:=empty_cell w4 k (by omega)
        have hz4:=hb4.size
        have HB4:=Lib.hid hb4
        clear hb4)
     | (refine wpL_alloc (t:=151) rfl rfl zero207 ?_)
     | (refine wpL_storeNew row207 rfl rfl rfl rfl (by simp [zeroRow]) rfl emptyRow_len ?_))
    rw [rowA_set]
    have hre:emptyRow.set k 0=rPut emptyRow k 0:=(by unfold rPut;rw [Int.toNat_natCast])
    rw [hre]
    have hlen5:(rPut emptyRow (k:Int) 0).length=60:=(by rw [rPut_len,emptyRow_len])
    obtain ⟨W5,hW5⟩:∃ W5,w4.alloc (.cells (rowA (rPut emptyRow k 0)) 151)=W5:=⟨_,rfl⟩
    rw [hW5]
    have hb5:Below wr.heap.size wr W5:=(by rw [←hW5];exact HB4.out.alloc hz4 _)
    have hr5:rowAt? W5 w4.heap.size 60=some (rowA (rPut emptyRow k 0)):=(by rw [←hW5,rowAt?_alloc_at _ _ rfl,if_pos (by rw [rowA_size,hlen5])])
    have hC5:=hC.out.below hb5
    have hA5:=HA.out.below hb5
    refine circ10 _ rfl w.heap.size ba P P k w4.heap.size cur (rPut emptyRow k 0) _ W5 _ rfl rfl rfl rfl hA5.at_ hlt (by have:=hA5.size;omega) hr5 hlen5 hC5.bel.size (by omega) ?_
    intro V W9 hc9 hf9 _ _
    simp only [List.setIfInBounds_toArray,List.set_cons_succ,List.set_cons_zero]
    have hC9:=hC5.push hA5 (by simp) hlt hc9 hf9
    have hl9:(List.range k).map walks0 ++ [walks0 k]=(List.range (k+1)).map walks0:=(by rw [List.range_succ,List.map_append];rfl)
    rw [hl9] at hC9
    have HC9:=Lib.hid hC9
    clear hC9 hl9 hc9 hf9 hA5 hC5 hr5 hb5 hW5 hlen5 hre hd4
    go_wp2
    go_roundw
    all_goals first
     | (simp [intOf];omega)
     | exact ⟨k+1,by omega,by go_num,HC9⟩
  · have hkn:k=P:=by omega
    subst hkn
    clear hlt hk
    have hs0:=hC.out.sys
    have d0':wr.cell? ⟨w.heap.size,0,none⟩=some (.int .i64 pts):=(by simp [World.cell?,hs0])
    clear hs0
    go_wp2_with (fail)
    go_step3
    go_wp2_with (fail)
    clear d0 d0' HC3
    go_loopw [9,38] (fun s9 i W2=> ∃ (m:Nat) (all:List Walks),m≤k∧i = .int .i64 m∧s9 = .slice none 0 0∧all.length=k∧Hid (CircAt w W2 pts A n c ba k all)∧Hid (∀ (q:Nat) (x:Walks),all[q]? = some x→WOk bs m x)∧Hid (circleLoop bs (k-m) all=R)) (fun _ i _=>k-(intOf i).toNat)
    case atStart=>
     refine ⟨0,_,Nat.zero_le _,rfl,rfl,by simp,hC,(show ∀ (q:Nat) (x:Walks),_→_ from fun q x hx=> ?_),(show _=_ from HCX.out.symm)⟩
     rw [List.getElem?_map] at hx
     by_cases hq:q<k
     · rw [List.getElem?_range hq] at hx
       cases hx
       exact WOk.start bs q (by omega)
     · rw [List.getElem?_eq_none (by simpa using hq)] at hx;cases hx
    case round=>
     obtain ⟨m,all,hm,rfl,rfl,hall,hC2,hW2,hR2⟩:=hrel
     by_cases hmk:m<k
     · have hmp:(m:Int)<pts:=(by rw [HP.out];omega)
       go_wp2_with (fail)
       go_loopw [9,42] (fun s9 j W3=> ∃ (p:Nat) (now:List Walks),p≤k∧j = .int .i64 p∧s9 = .slice none 0 0∧Hid (CircAt w W3 pts A n c ba k now)∧Hid (RowMid bs m all now p)) (fun _ j _=>k-(intOf j).toNat)
       case atStart=>exact ⟨0,all,Nat.zero_le _,rfl,rfl,hC2,(show RowMid _ _ _ _ _ from RowMid.start hW2.out)⟩
       case round=>
        obtain ⟨p,now,hp,rfl,rfl,hC3,hM3⟩:=hrel
        by_cases hpk:p<k
        · obtain ⟨x,hx⟩:∃ x,now[p]? = some x:=⟨_,List.getElem?_eq_getElem (by rw [hM3.out.len,hall];exact hpk)⟩
          have hwx:=hM3.out.todo p x (Nat.le_refl _) hx
          obtain ⟨cur,g,al,ha⟩:=hC3.out.all
          obtain ⟨cs,cl,a1,a2,a3,a4⟩:=ha.w p x hx
          have hbal:=hC3.out.bal
          have hB3:=hC3.out.bel
          have hB3s:=hB3.size
          have hs3:=hC3.out.sys
          have hns:=hwx.s
          have hnl:=hwx.l
          have hlo:=hwx.low
          have hlong:=longer_any w.heap.size ba (2 * p) (g p) x.sums.length cs cur (some ⟨al p,0,none⟩) x.last.length cl x.sums x.last x.now pts A n c bs _ ha.at_ a1 a2 a3 a4 hB3s (by omega) (by omega) (by omega) (by rw [hns,Nat.add_sub_cancel];exact hwx.now_at) hwx.now60 (fun v h1 h2=>by have:=hlo v h1 h2;omega) (HL.out.below hB3 (Nat.le_refl _)) HOK.out
          have d0:∀ W5,CircAt w W5 pts A n c ba k (now.set p (x.longer bs))→W5.cell? ⟨w.heap.size,0,none⟩=some (.int .i64 pts)∧W5.cell? ⟨w.heap.size,1,none⟩=some (.slice A n c):=fun W5 h=>⟨by simp [World.cell?,h.sys],by simp [World.cell?,h.sys]⟩
          have e0:wr.cell? ⟨w.heap.size,0,none⟩=some (.int .i64 pts):=(by simp [World.cell?,hs3])
          have e1:wr.cell? ⟨w.heap.size,1,none⟩=some (.slice A n c):=(by simp [World.cell?,hs3])
          rw [Nat.mul_comm 2 p] at hlong
          have HLONG:=Lib.hid hlong
          have HD0:=Lib.hid d0
          have HX:=Lib.hid hx
          have HWX:=Lib.hid hwx
          have HA:=Lib.hid ha
          clear hlong d0 hx hwx ha a1 a2 a3 a4 hs3 hns hnl hlo hB3 hB3s
          go_upto_region 20 with (go_at_call 112;((with_reducible refine HLONG.out.mono ?_);rintro e w5 ⟨rfl,hLP⟩))
          rw [Nat.mul_comm p 2] at hLP
          have hC5:=hC3.out.longer HA.out HX.out bs hLP
          obtain ⟨x5,hx5⟩:∃ x5,x.longer bs=x5:=⟨_,rfl⟩
          have hwx5:=HWX.out.longer HOK.out
          rw [hx5] at hC5 hwx5
          obtain ⟨cur5,g5,al5,ha5⟩:=hC5.all
          have hpn:p<now.length:=(List.getElem?_eq_some_iff.1 HX.out).1
          obtain ⟨cs5,cl5,b1,b2,b3,b4⟩:=ha5.w p x5 (List.getElem?_set_self hpn)
          have hns5:=hwx5.s
          have hnl5:=hwx5.l
          have hcell5:=b3.cellRow (j:=p) hwx5.now_at (by omega)
          obtain ⟨v,hv⟩:∃ v,rAt x5.now p=v:=⟨_,rfl⟩
          have hvg:x5.now.getD p 0=v:=(by rw [←hv];unfold rAt;rw [Int.toNat_natCast])
          rw [hvg] at hcell5
          obtain ⟨f0,f1⟩:=HD0.out w5 (by rw [hx5];exact hC5)
          have HB1:=Lib.hid b1
          have HB2:=Lib.hid b2
          have HB4:=Lib.hid b4
          have HNS:=Lib.hid hns5
          have HNL:=Lib.hid hnl5
          have HV:=Lib.hid hv
          have HX5:=Lib.hid hx5
          have HWX5:=Lib.hid hwx5
          have HC5:=Lib.hid hC5
          have HA5:=Lib.hid ha5
          have hk60:k≤60:=hPl.2
          clear hLP b1 b2 b3 b4 hns5 hnl5 hv hvg hx5 hwx5 hC5 ha5 e0 e1
          refine circ20 _ rfl ba (p * 2) (g5 p) x5.sums.length (m+1) cs5 p v _ w5 _ rfl rfl rfl (by rw [Nat.mul_comm p 2];simp [World.cell?,HA5.out.at_,HB1.out]) hcell5 HNS.out (by omega) (by omega) ?_
          simp only [List.setIfInBounds_toArray,List.set_cons_succ,List.set_cons_zero]
          clear hcell5
          by_cases hv0:v<0
          · have hd:decide (v<0)=true:=by simpa using hv0
            have hne:bs ≠ []:=(fun e=>by
             have h1:=HV.out
             rw [←HX5.out,Walks.now_longer,e,longerR_nil] at h1
             simp only at h1
             rw [rAt_empty _ (by omega) (by omega)] at h1
             unfold noneV at h1;omega)
            have hback:=back_any w.heap.size ba (p * 2) (some ⟨al5 p,0,none⟩) x5.last.length cl5 x5.last pts A n c bs p w5.drew (by
             have e:w5.drew.cell? ⟨ba,2 * p+1,none⟩=some (.slice (some ⟨al5 p,0,none⟩) x5.last.length cl5):=(by
              show w5.cell? ⟨ba,2 * p+1,none⟩=_
              simp [World.cell?,HA5.out.at_,HB2.out])
             rw [Nat.mul_comm p 2];exact e) HB4.out.drew (by have:=HNL.out;omega) (by have:=HNL.out;omega) (HWX5.out.ok hne) (HL.out.below HC5.out.drew.bel (Nat.le_refl _)) HOK.out (by omega) (by omega)
            obtain ⟨BT,hBT⟩:∃ BT,backTo bs x5.last x5.last.length p=BT:=⟨_,rfl⟩
            rw [hBT] at hback
            have hpos:0<BT.length:=(by rw [←hBT,HNL.out,show m+1+1=m+2 from rfl,backTo];simp)
            have hRB:R=BT.reverse:=(by
             have hxa:all[p]? = some x:=(hM3.out.same p (Nat.le_refl _)).symm.trans HX.out
             have h1:=circleRow_hit (bs:=bs) hxa (by rw [HX5.out,HV.out];exact hv0)
             have h2:(circleRow bs all 0).2=some (x5.back bs p):=(by rw [hM3.out.row2,h1,HX5.out])
             have h3:=hR2.out
             rw [show k-m=(k-m-1)+1 by omega,circleLoop_hit h2] at h3
             rw [←h3,←hBT];rfl)
            have HBK:=Lib.hid hback
            have HRB:=Lib.hid hRB
            clear hback hRB hBT
            go_wp2_with (go_at_call 113;((with_reducible refine HBK.out.mono ?_);rintro e w6 ⟨A2,c2,rfl,hb6,hO6⟩))
            rw [Exit.noGoto_ret]
            go_ret3
            refine ⟨A2,c2,?_,HC5.out.drew.bel.trans (hb6.mono HC5.out.drew.bel.size),?_⟩
            · rw [HRB.out,List.length_reverse,decide_eq_true hpos];rfl
            · rw [HRB.out,List.length_reverse];exact hO6.mono HC5.out.drew.bel.size
          · have hd:decide (v<0)=false:=by simpa using hv0
            have hnx:=hM3.out.next HOK.out HX.out (by rw [HX5.out,HV.out];exact hv0)
            rw [HX5.out] at hnx
            have HNX:=Lib.hid hnx
            clear hnx
            go_wp2
            go_roundw
            all_goals first
             | (simp [intOf];omega)
             | exact ⟨p+1,_,by omega,by go_num,rfl,HC5.out.drew,HNX⟩
        · have hpe:p=k:=by omega
          subst hpe
          have hfin:=hM3.out.fin hall.symm
          have hstep:circleLoop bs (p-(m+1)) now=R:=(by
           have h3:=hR2.out
           rw [show p-m=(p-(m+1))+1 by omega,circleLoop_miss hfin] at h3
           exact h3)
          have HST:=Lib.hid hstep
          have hnlen:now.length=p:=(by rw [hM3.out.len,hall])
          have HNLEN:=Lib.hid hnlen
          clear hstep hfin hnlen
          go_wp2
          go_roundw
          all_goals first
           | (simp [intOf];omega)
           | exact ⟨m+1,now,by omega,by go_num,rfl,HNLEN.out,hC3,(show ∀ (q:Nat) (x:Walks),_→_ from fun q x hx=>hM3.out.done q x (by have:=(List.getElem?_eq_some_iff.1 hx).1;rw [HNLEN.out] at this;exact this) hx),HST⟩
     · have hmp:pts≤(m:Int):=(by rw [HP.out];omega)
       go_wp2_with (fail)
       rw [Exit.noGoto_ret]
       go_ret3
       have hR0:R = []:=(by rw [←hR2.out,show k-m=0 by omega];rfl)
       exact ⟨none,0,by rw [hR0];rfl,hC2.out.bel,by rw [hR0];exact Own.none_ _ _ _ _ _⟩
def circV (n1:Int) (b1:List Bound) (n2:Int) (b2:List Bound):Bool×List Int×Bool:=if circOk n1 b1 then (false,circleX n1 b1,true) else if circOk n2 b2 then (true,circleX n2 b2,true) else (false,[],false)
theorem run_idxs (v0 v1 v2 v3:Value) (k:Nat) (hk:k=0∨k=1) (w:World):(Instr.index 97 (.agg #[v0,v1,v2,v3]) (.int .i64 k)).run Tryz.prog w = .ok (if k=0 then .agg #[v0,v1] else .agg #[v2,v3]) w:=by
 have h0:(Tryz.prog.info? 83).map (·.size)=some 2:=by kernel_rfl
 obtain ⟨i,hi,hs⟩:=Option.map_eq_some_iff.1 h0
 rcases hk with rfl|rfl<;>simp [Instr.index,asIntOf,sizeOf,typeInfo,hi,hs,part,underlying]
@[go_sem ↓ high] theorem run_idxs0 (v0 v1 v2 v3:Value) (w:World):(Instr.index 97 (.agg #[v0,v1,v2,v3]) (.int .i64 0)).run Tryz.prog w = .ok (.agg #[v0,v1]) w:=run_idxs v0 v1 v2 v3 0 (.inl rfl) w
@[go_sem ↓ high] theorem run_idxs1 (v0 v1 v2 v3:Value) (w:World):(Instr.index 97 (.agg #[v0,v1,v2,v3]) (.int .i64 1)).run Tryz.prog w = .ok (.agg #[v2,v3]) w:=run_idxs v0 v1 v2 v3 1 (.inr rfl) w
theorem results_ct {P:Program} {fn:Func} {p u:Tmp} {ty:TypeId} (h:fn.results = #[.cell p ty,.tmp u]) (tmps:Array Value) (w:World) (g:Nat) (t:TypeId) (cs:Array Value) (fr:Nat×Nat) (d:TypeDesc)
 (hp:tmps.getD p undef = .pointer (some ⟨g,0,none⟩)) (hg:w.heap[g]? = some (.cells cs t fr))
 (hu:P.underlying ty=some d) (hd:(match d with | .struct _ | .array _ _=>true|_=>false)=true) (hi:(P.info? ty).map (·.size)=some cs.size):
 (results fn tmps).run P w = .ok (.tuple #[.agg cs,tmps.getD u undef]) w:=by
 have hp':tmps[p]?.getD undef = .pointer (some ⟨g,0,none⟩):=by simpa using hp
 simp [results,h,hp',asAddr,run_loadVar_row w g t ty cs fr d hg hu hd hi]
theorem own_set {α:Type} {enc:α→List Value} {k n c B:Nat} {e:TypeId} {W:World} {A:Option Addr} {xs:List α} (hO:Own enc k e B W A n c xs) {g i:Nat} {cs:Array Value} {t:TypeId} (hk:W.heap[g]? = some (.cells cs t (0,0))) (ht:t≠e) (v:Value):Own enc k e B (W.setCell ⟨g,i,none⟩ v) A n c xs:=
 own_same hO fun g' hgA=>by
  have hgne:g'≠g:=fun e=>by
   rcases hO.ne_type hk ht with rfl|h'
   · cases hgA
   · exact h' (hgA.trans (by rw [e]))
  exact Below.heap_setCell _ _ _ g' hgne
theorem circle_any (n1:Int) (A1:Option Addr) (m1 c1:Nat) (b1:List Bound) (n2:Int) (A2:Option Addr) (m2 c2:Nat) (b2:List Bound) (w:World) (h1:Rd encBound 4 w A1 m1 c1 b1) (h2:Rd encBound 4 w A2 m2 c2 b2) (k1:checkSys n1 b1=0) (k2:checkSys n2 b2=0):
 Calls Tryz.prog 41 #[.agg #[.int .i64 n1,.slice A1 m1 c1,.int .i64 n2,.slice A2 m2 c2]] w fun e w'=> ∃ A' c',e = .returned (.tuple #[.agg #[.bool (circV n1 b1 n2 b2).1,.slice A' (circV n1 b1 n2 b2).2.1.length c'],.bool (circV n1 b1 n2 b2).2.2])∧Below w.heap.size w w'∧Own encInt 1 3 w.heap.size w' A' (circV n1 b1 n2 b2).2.1.length c' (circV n1 b1 n2 b2).2.1:=by
 have K1:=Lib.hid (fun W (h:Below w.heap.size w W)=>Circle_any n1 A1 m1 c1 b1 W (h1.below h (Nat.le_refl _)) k1)
 have K2:=Lib.hid (fun W (h:Below w.heap.size w W)=>Circle_any n2 A2 m2 c2 b2 W (h2.below h (Nat.le_refl _)) k2)
 have hv:circV n1 b1 n2 b2=if circOk n1 b1 then (false,circleX n1 b1,true) else if circOk n2 b2 then (true,circleX n2 b2,true) else (false,[],false):=rfl
 rw [hv]
 clear h1 h2 k1 k2 hv
 generalize circleX n1 b1=x1 at *
 generalize circleX n2 b2=x2 at *
 generalize circOk n1 b1=o1 at *
 generalize circOk n2 b2=o2 at *
 go_enter Tryz.func41,Tryz.ntmps41
 go_wp2_with (fail)
 have HZ:=Lib.hid (heap2 w (.cells #[.int .i64 n1,.slice A1 m1 c1,.int .i64 n2,.slice A2 m2 c2] 97) (.cells #[.bool false,.slice none 0 0] 53))
 have HB0:=Lib.hid (((Below.refl _ w).alloc (Nat.le_refl _) (.cells #[.int .i64 n1,.slice A1 m1 c1,.int .i64 n2,.slice A2 m2 c2] 97)).alloc (by simp) (.cells #[.bool false,.slice none 0 0] 53))
 go_loopw [10] (fun s10 wr=>Hid (Below w.heap.size w wr)∧Hid (wr.heap[w.heap.size+1]? = some (.cells #[.bool false,.slice none 0 0] 53 (0,0)))∧(s10 = .int .i64 0∨(s10 = .int .i64 1∧o1=false)∨(s10 = .int .i64 2∧o1=false∧o2=false))) (fun s10 _=>2-(intOf s10).toNat)
 case atStart=>exact ⟨HB0,HZ,.inl rfl⟩
 case round=>
  obtain ⟨hbr,hres,hc⟩:=hrel
  have hzr:=hbr.out.size
  have hlt:=(Array.getElem?_eq_some_iff.1 hres.out).1
  rcases hc with rfl|⟨rfl,rfl⟩|⟨rfl,rfl,rfl⟩
  · cases o1 with
    | true=>
      go_wp2_with (first
       | (go_at_call 71;(with_reducible refine (K1.out _ (hbr.out.alloc hzr _)).mono ?_);rintro e w3 ⟨A3,c3,rfl,hb3,hO3⟩
          have hh3:=(hb3.block (w.heap.size+1) (by simp;omega)).trans ((Below.heap_alloc _ _ _ hlt).trans hres.out)
          have f0:w3.cell? ⟨w.heap.size+1,0,none⟩=some (.bool false):=(by simp [World.cell?,hh3])
          have f1:w3.cell? ⟨w.heap.size+1,1,none⟩=some (.slice none 0 0):=(by simp [World.cell?,hh3])
          have g0:w3.frozen? ⟨w.heap.size+1,0,none⟩=false:=(by simp [World.frozen?,hh3])
          have g1:w3.frozen? ⟨w.heap.size+1,1,none⟩=false:=(by simp [World.frozen?,hh3])
          have HH3:=Lib.hid hh3
          have HB3:=Lib.hid ((hbr.out.alloc hzr (.cells #[.int .i64 n1,.slice A1 m1 c1] 83)).trans (hb3.mono (by simp;omega)))
          have HO3:=Lib.hid (hO3.mono (B':=w.heap.size) (by simp;omega))
          clear hb3 hO3 hh3))
      refine bodyPost_ret (results_ct rfl _ _ (w.heap.size+1) _ _ (0,0) _ rfl (sys_set HH3.out) Tryz.underlying53 rfl (by kernel_rfl)) rfl ?_
      exact ⟨A3,c3,rfl,(HB3.out.setCell (p:=⟨w.heap.size+1,0,none⟩) (show w.heap.size≤w.heap.size+1 by omega) _).setCell (p:=⟨w.heap.size+1,1,none⟩) (show w.heap.size≤w.heap.size+1 by omega) _,own_set (own_set HO3.out HH3.out (by decide) _) (heap_setCell_obj HH3.out) (by decide) _⟩
    | false=>
      go_wp2_with (first
       | (go_at_call 71;(with_reducible refine (K1.out _ (hbr.out.alloc hzr _)).mono ?_);rintro e w3 ⟨A3,c3,rfl,hb3,hO3⟩
          have hh3:=(hb3.block (w.heap.size+1) (by simp;omega)).trans ((Below.heap_alloc _ _ _ hlt).trans hres.out)
          have f0:w3.cell? ⟨w.heap.size+1,0,none⟩=some (.bool false):=(by simp [World.cell?,hh3])
          have f1:w3.cell? ⟨w.heap.size+1,1,none⟩=some (.slice none 0 0):=(by simp [World.cell?,hh3])
          have g0:w3.frozen? ⟨w.heap.size+1,0,none⟩=false:=(by simp [World.frozen?,hh3])
          have g1:w3.frozen? ⟨w.heap.size+1,1,none⟩=false:=(by simp [World.frozen?,hh3])
          have HH3:=Lib.hid hh3
          have HB3:=Lib.hid ((hbr.out.alloc hzr (.cells #[.int .i64 n1,.slice A1 m1 c1] 83)).trans (hb3.mono (by simp;omega)))
          have HO3:=Lib.hid (hO3.mono (B':=w.heap.size) (by simp;omega))
          clear hb3 hO3 hh3))
      go_roundw
      all_goals first
       | (simp [intOf];done)
       | exact ⟨HB3,HH3,.inr (.inl ⟨by go_num,by simp⟩)⟩
  · cases o2 with
    | true=>
      go_wp2_with (first
       | (go_at_call 71;(with_reducible refine (K2.out _ (hbr.out.alloc hzr _)).mono ?_);rintro e w3 ⟨A3,c3,rfl,hb3,hO3⟩
          have hh3:=(hb3.block (w.heap.size+1) (by simp;omega)).trans ((Below.heap_alloc _ _ _ hlt).trans hres.out)
          have f0:w3.cell? ⟨w.heap.size+1,0,none⟩=some (.bool false):=(by simp [World.cell?,hh3])
          have f1:w3.cell? ⟨w.heap.size+1,1,none⟩=some (.slice none 0 0):=(by simp [World.cell?,hh3])
          have g0:w3.frozen? ⟨w.heap.size+1,0,none⟩=false:=(by simp [World.frozen?,hh3])
          have g1:w3.frozen? ⟨w.heap.size+1,1,none⟩=false:=(by simp [World.frozen?,hh3])
          have HH3:=Lib.hid hh3
          have HB3:=Lib.hid ((hbr.out.alloc hzr (.cells #[.int .i64 n2,.slice A2 m2 c2] 83)).trans (hb3.mono (by simp;omega)))
          have HO3:=Lib.hid (hO3.mono (B':=w.heap.size) (by simp;omega))
          clear hb3 hO3 hh3))
      refine bodyPost_ret (results_ct rfl _ _ (w.heap.size+1) _ _ (0,0) _ rfl (sys_set HH3.out) Tryz.underlying53 rfl (by kernel_rfl)) rfl ?_
      exact ⟨A3,c3,rfl,(HB3.out.setCell (p:=⟨w.heap.size+1,0,none⟩) (show w.heap.size≤w.heap.size+1 by omega) _).setCell (p:=⟨w.heap.size+1,1,none⟩) (show w.heap.size≤w.heap.size+1 by omega) _,own_set (own_set HO3.out HH3.out (by decide) _) (heap_setCell_obj HH3.out) (by decide) _⟩
    | false=>
      go_wp2_with (first
       | (go_at_call 71;(with_reducible refine (K2.out _ (hbr.out.alloc hzr _)).mono ?_);rintro e w3 ⟨A3,c3,rfl,hb3,hO3⟩
          have hh3:=(hb3.block (w.heap.size+1) (by simp;omega)).trans ((Below.heap_alloc _ _ _ hlt).trans hres.out)
          have f0:w3.cell? ⟨w.heap.size+1,0,none⟩=some (.bool false):=(by simp [World.cell?,hh3])
          have f1:w3.cell? ⟨w.heap.size+1,1,none⟩=some (.slice none 0 0):=(by simp [World.cell?,hh3])
          have g0:w3.frozen? ⟨w.heap.size+1,0,none⟩=false:=(by simp [World.frozen?,hh3])
          have g1:w3.frozen? ⟨w.heap.size+1,1,none⟩=false:=(by simp [World.frozen?,hh3])
          have HH3:=Lib.hid hh3
          have HB3:=Lib.hid ((hbr.out.alloc hzr (.cells #[.int .i64 n2,.slice A2 m2 c2] 83)).trans (hb3.mono (by simp;omega)))
          have HO3:=Lib.hid (hO3.mono (B':=w.heap.size) (by simp;omega))
          clear hb3 hO3 hh3))
      go_roundw
      all_goals first
       | (simp [intOf];done)
       | exact ⟨HB3,HH3,.inr (.inr ⟨by go_num,by simp,by simp⟩)⟩
  · have f0:wr.cell? ⟨w.heap.size+1,0,none⟩=some (.bool false):=(by have:=hres.out;simp [World.cell?,this])
    have f1:wr.cell? ⟨w.heap.size+1,1,none⟩=some (.slice none 0 0):=(by have:=hres.out;simp [World.cell?,this])
    have g0:wr.frozen? ⟨w.heap.size+1,0,none⟩=false:=(by have:=hres.out;simp [World.frozen?,this])
    have g1:wr.frozen? ⟨w.heap.size+1,1,none⟩=false:=(by have:=hres.out;simp [World.frozen?,this])
    go_wp2
    refine bodyPost_ret (results_ct rfl _ _ (w.heap.size+1) _ _ (0,0) _ rfl (sys_set hres.out) Tryz.underlying53 rfl (by kernel_rfl)) rfl ?_
    exact ⟨none,0,rfl,(hbr.out.setCell (p:=⟨w.heap.size+1,0,none⟩) (show w.heap.size≤w.heap.size+1 by omega) _).setCell (p:=⟨w.heap.size+1,1,none⟩) (show w.heap.size≤w.heap.size+1 by omega) _,Own.none_ _ _ _ _ _⟩
theorem system_any (n1:Int) (A1:Option Addr) (m1 c1:Nat) (n2:Int) (A2:Option Addr) (m2 c2:Nat) (turn:Bool) (v:Value) (w:World):
 Calls Tryz.prog 50 #[.agg #[.int .i64 n1,.slice A1 m1 c1,.int .i64 n2,.slice A2 m2 c2],.agg #[.bool turn,v]] w fun e w'=>e = .returned (if turn then .agg #[.int .i64 n2,.slice A2 m2 c2] else .agg #[.int .i64 n1,.slice A1 m1 c1])∧Below w.heap.size w w':=by
 cases turn
 · go_enter Tryz.func50,Tryz.ntmps50
   go_wp2
   exact bodyPost_ret (v:=.agg #[.int .i64 n1,.slice A1 m1 c1]) (by simp [results,Tryz.results50,go_sem]) rfl ⟨rfl,(((Below.refl _ _).alloc (Nat.le_refl _) _).alloc (by simp) _).alloc (by simp;omega) _⟩
 · go_enter Tryz.func50,Tryz.ntmps50
   go_wp2
   exact bodyPost_ret (v:=.agg #[.int .i64 n2,.slice A2 m2 c2]) (by simp [results,Tryz.results50,go_sem]) rfl ⟨rfl,(((Below.refl _ _).alloc (Nat.le_refl _) _).alloc (by simp) _).alloc (by simp;omega) _⟩
end Go.Proofs.YtpmkgmilfifkpaaGreatDoor
end
section
namespace Go.Proofs.YtpmkgmilfifkpaaGreatDoor
section
variable {A B:Outl} {p:Pairing}
theorem AskOk.n_ways (h:AskOk A B p):p.a.hi<waysN A B p∧0≤p.a.hi∧p.a.lo<waysN A B p:=by
 have:=h.a0;have:=h.a1;have:=h.a2;have:=h.b0;have:=h.b1;have:=h.b2
 unfold waysN jointN
 omega
theorem meets_solved (h:meetsV A B p=true):solvedOk (waysN A B p) (waysB A B p)=true:=by
 unfold meetsV at h
 rw [Bool.and_eq_true] at h
 exact h.1
def withB (A:Outl) (turned:Bool) (x:Bound):Outl:=if turned then ⟨A.n,A.ways,A.turns ++ [x]⟩ else ⟨A.n,A.ways ++ [x],A.turns⟩
end
theorem circOk_iff {pts:Int} {S:List Bound} : circOk pts S=true↔circleX pts S ≠ []:=by
 unfold circOk
 rw [decide_eq_true_iff]
 exact List.length_pos_iff
theorem solved_circ {pts:Int} {S:List Bound} (hok:SysOk pts S):solvedOk pts S = !circOk pts S:=by
 rw [Bool.eq_iff_iff,solution_iff hok,Bool.not_eq_true',←Bool.not_eq_true,circOk_iff,ne_eq,Classical.not_not]
 rcases circle_law hok with ⟨h1,h2⟩|⟨p,ws,_,_,hl,hne,hs,hw,hneg,_⟩
 · exact ⟨fun _=>h1,fun _=>h2⟩
 · constructor
   · intro hno
     have:=hno p ws hs hw
     omega
   · intro h
     rw [h] at hl
     exact absurd (List.eq_nil_of_length_eq_zero hl.symm) hne
end Go.Proofs.YtpmkgmilfifkpaaGreatDoor
end

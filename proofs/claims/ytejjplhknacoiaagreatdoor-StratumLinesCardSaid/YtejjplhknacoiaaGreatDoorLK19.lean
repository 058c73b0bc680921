/- Contracts that the laws lean on: Circ20, Circ. -/
import Derived.Test.YtejjplhknacoiaaGreatDoorLK18
set_option maxRecDepth 100000
set_option maxHeartbeats 4000000
section
namespace Go.Proofs.YtejjplhknacoiaaGreatDoor
open Go.RowKit Go.Proofs
def code111_20:Option Code→Code
 | some (.seq _ (.scope (.seq _ (.seq _ (.seq _ (.seq _ (.seq _ (.seq (.seq _ (.block _ (.loop (.seq _ (.seq _ (.seq (.block _ (.seq _ (.block _ (.loop (.seq _ (.seq _ (.seq (.block _ (.seq _ (.seq _ (.seq _ (.seq c _))))) _))))))) _)))))) _))))))))=>c
 | _=> .skip
def factR (ba off g nn n c p:Nat) (v:Int):Nat→Value→World→Prop
 | 0,v',_=>v' = .pointer (some ⟨ba,off,none⟩)
 | 1,v',_=>v' = .pointer (some ⟨ba,off,none⟩)
 | 2,v',_=>v' = .pointer (some ⟨ba,off,none⟩)
 | 3,v',_=>v' = .slice (some ⟨g,0,none⟩) nn c
 | 4,v',_=>v' = .pointer (some ⟨ba,off,none⟩)
 | 5,v',_=>v' = .pointer (some ⟨ba,off,none⟩)
 | 6,v',_=>v' = .pointer (some ⟨ba,off,none⟩)
 | 7,v',_=>v' = .slice (some ⟨g,0,none⟩) nn c
 | 8,v',_=>v' = .int .i64 nn
 | 9,v',_=>v' = .int .i64 n
 | 10,v',_=>v' = .int .i64 p
 | 11,v',_=>v' = .pointer (some ⟨g,n * 60,none⟩)
 | 12,v',_=>v' = .pointer (some ⟨g,n * 60+p,none⟩)
 | 13,v',_=>v' = .int .i64 v
 | 14,v',_=>v' = .bool (decide (v<0))
 | _,_,_=>True
theorem circ20 (c0:Code) (hc:c0=code111_20 Tryz.f35.body) (ba off g nn n c p:Nat) (v:Int) (a:Act) (w:World) (Q:Exit→Act→World→Prop)
 (hT:a.tmps.size=76) (t11:a.tmps.getD 11 undef = .pointer (some ⟨ba,off,none⟩)) (t10:a.tmps.getD 10 undef = .int .i64 p)
 (h0:w.cell? ⟨ba,off,none⟩=some (.slice (some ⟨g,0,none⟩) nn c)) (h1:w.cell? ⟨g,n * 60+p,none⟩=some (.int .i64 v)) (hnn:nn=n+1) (hn:n≤1000) (hp:p<60)
 (hQ:Q .normal { tmps:=(((((((((((((((a.tmps.setIfInBounds 51 (.pointer (some ⟨ba,off,none⟩))).setIfInBounds 52 (.pointer (some ⟨ba,off,none⟩))).setIfInBounds 53 (.pointer (some ⟨ba,off,none⟩))).setIfInBounds 54 (.slice (some ⟨g,0,none⟩) nn c)).setIfInBounds 55 (.pointer (some ⟨ba,off,none⟩))).setIfInBounds 56 (.pointer (some ⟨ba,off,none⟩))).setIfInBounds 57 (.pointer (some ⟨ba,off,none⟩))).setIfInBounds 58 (.slice (some ⟨g,0,none⟩) nn c)).setIfInBounds 59 (.int .i64 nn)).setIfInBounds 60 (.int .i64 n)).setIfInBounds 61 (.int .i64 p)).setIfInBounds 62 (.pointer (some ⟨g,n * 60,none⟩))).setIfInBounds 63 (.pointer (some ⟨g,n * 60+p,none⟩))).setIfInBounds 64 (.int .i64 v)).setIfInBounds 65 (.bool (decide (v<0)))),defers:=a.defers } w.drew):
 c0.wp Tryz.prog Q a w:=by
 subst hc
 unfold code111_20 Tryz.f35
 dsimp only
 have HN:=Lib.hid hnn
 have hnl:n<nn:=(by omega)
 clear hnn
 refine wpIn_wide.1 (wpIn_region_facts (nn:=5) 76 (by kernel_rfl) (by kernel_rfl) hT.symm (factR ba off g nn n c p v) (fun _ _=>True) (fun W=>W=w.drew) rfl (fun _ _=>trivial) ?_ ?_)
 · intro V listed i o b W hi ho h
   have hW:=h.glob
   subst hW
   have k0:w.drew.cell? ⟨ba,off,none⟩=some (.slice (some ⟨g,0,none⟩) nn c):=h0
   have k1:w.drew.cell? ⟨g,n * 60+p,none⟩=some (.int .i64 v):=h1
   clear hQ h0 h1
   obtain ⟨hun,oi,hoi,hall⟩:=mem_ready.1 hi
   have:oi=o:=Option.some.inj (hoi.symm.trans ho)
   subst this
   clear hoi hi
   have hlt:i<15:=(by have:=(Array.getElem?_eq_some_iff.1 ho).1;simpa using this)
   have hun':listed.getD i false=false:=getD_both hun
   have hpre:=h.pre i (by simpa using hlt) hun'
   rcases (by omega:i=0∨i=1∨i=2∨i=3∨i=4∨i=5∨i=6∨i=7∨i=8∨i=9∨i=10∨i=11∨i=12∨i=13∨i=14) with rfl|rfl|rfl|rfl|rfl|rfl|rfl|rfl|rfl|rfl|rfl|rfl|rfl|rfl|rfl
   all_goals simp only [List.getElem?_toArray,List.getElem?_cons_zero,List.getElem?_cons_succ] at ho
   all_goals cases ho
   ·
    have q11:=(h.tab.old 11 (dst_no h.tab (by kernel_rfl))).trans t11
    have q11':b.tmps[11]?.getD undef=_:=(by simpa using q11)
    refine wide_val (v:=.pointer (some ⟨ba,off,none⟩)) (by go_simp;try rfl) (FactsGo.same rfl rfl)
   ·
    have l0:=hall ⟨0,.data⟩ (by simp) rfl
    have e0:b.tmps.getD 51 undef = .pointer (some ⟨ba,off,none⟩):=(h.tab.val 0 51 rfl l0).trans (h.fact 0 l0)
    have e0':b.tmps[51]?.getD undef = .pointer (some ⟨ba,off,none⟩):=(by simpa using e0)
    refine wide_val (v:=.pointer (some ⟨ba,off,none⟩)) (by go_simp;try rfl) (FactsGo.same rfl rfl)
   ·
    have l1:=hall ⟨1,.data⟩ (by simp) rfl
    have e1:b.tmps.getD 52 undef = .pointer (some ⟨ba,off,none⟩):=(h.tab.val 1 52 rfl l1).trans (h.fact 1 l1)
    have e1':b.tmps[52]?.getD undef = .pointer (some ⟨ba,off,none⟩):=(by simpa using e1)
    refine wide_val (v:=.pointer (some ⟨ba,off,none⟩)) (by go_simp;try rfl) (FactsGo.same rfl rfl)
   ·
    have l2:=hall ⟨2,.data⟩ (by simp) rfl
    have e2:b.tmps.getD 53 undef = .pointer (some ⟨ba,off,none⟩):=(h.tab.val 2 53 rfl l2).trans (h.fact 2 l2)
    have e2':b.tmps[53]?.getD undef = .pointer (some ⟨ba,off,none⟩):=(by simpa using e2)
    refine wide_val (v:=.slice (some ⟨g,0,none⟩) nn c) (by go_simp;try rfl) (FactsGo.same rfl rfl)
   ·
    have q11:=(h.tab.old 11 (dst_no h.tab (by kernel_rfl))).trans t11
    have q11':b.tmps[11]?.getD undef=_:=(by simpa using q11)
    refine wide_val (v:=.pointer (some ⟨ba,off,none⟩)) (by go_simp;try rfl) (FactsGo.same rfl rfl)
   ·
    have l4:=hall ⟨4,.data⟩ (by simp) rfl
    have e4:b.tmps.getD 55 undef = .pointer (some ⟨ba,off,none⟩):=(h.tab.val 4 55 rfl l4).trans (h.fact 4 l4)
    have e4':b.tmps[55]?.getD undef = .pointer (some ⟨ba,off,none⟩):=(by simpa using e4)
    refine wide_val (v:=.pointer (some ⟨ba,off,none⟩)) (by go_simp;try rfl) (FactsGo.same rfl rfl)
   ·
    have l5:=hall ⟨5,.data⟩ (by simp) rfl
    have e5:b.tmps.getD 56 undef = .pointer (some ⟨ba,off,none⟩):=(h.tab.val 5 56 rfl l5).trans (h.fact 5 l5)
    have e5':b.tmps[56]?.getD undef = .pointer (some ⟨ba,off,none⟩):=(by simpa using e5)
    refine wide_val (v:=.pointer (some ⟨ba,off,none⟩)) (by go_simp;try rfl) (FactsGo.same rfl rfl)
   ·
    have l6:=hall ⟨6,.data⟩ (by simp) rfl
    have e6:b.tmps.getD 57 undef = .pointer (some ⟨ba,off,none⟩):=(h.tab.val 6 57 rfl l6).trans (h.fact 6 l6)
    have e6':b.tmps[57]?.getD undef = .pointer (some ⟨ba,off,none⟩):=(by simpa using e6)
    refine wide_val (v:=.slice (some ⟨g,0,none⟩) nn c) (by go_simp;try rfl) (FactsGo.same rfl rfl)
   ·
    have l7:=hall ⟨7,.data⟩ (by simp) rfl
    have e7:b.tmps.getD 58 undef = .slice (some ⟨g,0,none⟩) nn c:=(h.tab.val 7 58 rfl l7).trans (h.fact 7 l7)
    have e7':b.tmps[58]?.getD undef = .slice (some ⟨g,0,none⟩) nn c:=(by simpa using e7)
    refine wide_val (v:=.int .i64 nn) (by go_simp;try rfl) (FactsGo.same rfl rfl)
   ·
    have l8:=hall ⟨8,.data⟩ (by simp) rfl
    have e8:b.tmps.getD 59 undef = .int .i64 nn:=(h.tab.val 8 59 rfl l8).trans (h.fact 8 l8)
    have e8':b.tmps[59]?.getD undef = .int .i64 nn:=(by simpa using e8)
    have hw:IntKind.i64.wrap ((nn:Int)-1)=(n:Int):=(by have:=HN.out;rw [IntKind.wrap_i64];omega)
    refine wide_val (v:=.int .i64 n) (by go_simp;try rfl) (FactsGo.same rfl rfl)
   ·
    have q10:=(h.tab.old 10 (dst_no h.tab (by kernel_rfl))).trans t10
    have q10':b.tmps[10]?.getD undef=_:=(by simpa using q10)
    refine wide_val (v:=.int .i64 p) (by go_simp;try rfl) (FactsGo.same rfl rfl)
   ·
    have l3:=hall ⟨3,.data⟩ (by simp) rfl
    have e3:b.tmps.getD 54 undef = .slice (some ⟨g,0,none⟩) nn c:=(h.tab.val 3 54 rfl l3).trans (h.fact 3 l3)
    have e3':b.tmps[54]?.getD undef = .slice (some ⟨g,0,none⟩) nn c:=(by simpa using e3)
    have l9:=hall ⟨9,.data⟩ (by simp) rfl
    have e9:b.tmps.getD 60 undef = .int .i64 n:=(h.tab.val 9 60 rfl l9).trans (h.fact 9 l9)
    have e9':b.tmps[60]?.getD undef = .int .i64 n:=(by simpa using e9)
    refine wide_val (v:=.pointer (some ⟨g,n * 60,none⟩)) (by go_simp;try (intro hh;exfalso;omega)) (FactsGo.same rfl rfl)
   ·
    have l11:=hall ⟨11,.data⟩ (by simp) rfl
    have e11:b.tmps.getD 62 undef = .pointer (some ⟨g,n * 60,none⟩):=(h.tab.val 11 62 rfl l11).trans (h.fact 11 l11)
    have e11':b.tmps[62]?.getD undef = .pointer (some ⟨g,n * 60,none⟩):=(by simpa using e11)
    have l10:=hall ⟨10,.data⟩ (by simp) rfl
    have e10:b.tmps.getD 61 undef = .int .i64 p:=(h.tab.val 10 61 rfl l10).trans (h.fact 10 l10)
    have e10':b.tmps[61]?.getD undef = .int .i64 p:=(by simpa using e10)
    refine wide_val (v:=.pointer (some ⟨g,n * 60+p,none⟩)) (by go_simp;try (intro hh;exfalso;omega)) (FactsGo.same rfl rfl)
   ·
    have l12:=hall ⟨12,.data⟩ (by simp) rfl
    have e12:b.tmps.getD 63 undef = .pointer (some ⟨g,n * 60+p,none⟩):=(h.tab.val 12 63 rfl l12).trans (h.fact 12 l12)
    have e12':b.tmps[63]?.getD undef = .pointer (some ⟨g,n * 60+p,none⟩):=(by simpa using e12)
    refine wide_val (v:=.int .i64 v) (by go_simp;try rfl) (FactsGo.same rfl rfl)
   ·
    have l13:=hall ⟨13,.data⟩ (by simp) rfl
    have e13:b.tmps.getD 64 undef = .int .i64 v:=(h.tab.val 13 64 rfl l13).trans (h.fact 13 l13)
    have e13':b.tmps[64]?.getD undef = .int .i64 v:=(by simpa using e13)
    refine wide_val (v:=.bool (decide (v<0))) (by go_simp;try rfl) (FactsGo.same rfl rfl)
 · intro V W hf hg
   subst hg
   have:=hQ
   have hV:V 0 = .pointer (some ⟨ba,off,none⟩)∧V 1 = .pointer (some ⟨ba,off,none⟩)∧V 2 = .pointer (some ⟨ba,off,none⟩)∧V 3 = .slice (some ⟨g,0,none⟩) nn c∧V 4 = .pointer (some ⟨ba,off,none⟩)∧V 5 = .pointer (some ⟨ba,off,none⟩)∧V 6 = .pointer (some ⟨ba,off,none⟩)∧V 7 = .slice (some ⟨g,0,none⟩) nn c∧V 8 = .int .i64 nn∧V 9 = .int .i64 n∧V 10 = .int .i64 p∧V 11 = .pointer (some ⟨g,n * 60,none⟩)∧V 12 = .pointer (some ⟨g,n * 60+p,none⟩)∧V 13 = .int .i64 v∧V 14 = .bool (decide (v<0)):=⟨hf 0 (by decide),hf 1 (by decide),hf 2 (by decide),hf 3 (by decide),hf 4 (by decide),hf 5 (by decide),hf 6 (by decide),hf 7 (by decide),hf 8 (by decide),hf 9 (by decide),hf 10 (by decide),hf 11 (by decide),hf 12 (by decide),hf 13 (by decide),hf 14 (by decide)⟩
   obtain ⟨v0,v1,v2,v3,v4,v5,v6,v7,v8,v9,v10,v11,v12,v13,v14⟩:=hV
   simp only [List.size_toArray,List.length_cons,List.length_nil,Nat.reduceAdd,framed,dstOf,List.getElem?_toArray,List.getElem?_cons_zero,List.getElem?_cons_succ,Option.bind_some,v0,v1,v2,v3,v4,v5,v6,v7,v8,v9,v10,v11,v12,v13,v14]
   exact this
open Go.Shelf
theorem AllAt.push {B ba pts n c k b8:Nat} {W W':World} {all:List Walks} {cur:Array Value} {g al:Nat→Nat} (h:AllAt B W ba pts all cur g al) (hlen:all.length=k) (hk:k<pts) (hc:ChgT (fun q=>q=ba) W W') (hf:factC W B ba n c k b8 cur (rPut emptyRow k 0) 7 undef W'):
 ∃ cur' g' al',AllAt B W' ba pts (all ++ [walks0 k]) cur' g' al':=by
 obtain ⟨k3,k4,a2,a3,a4,a5,a6⟩:=hf
 have hsz:=h.size
 refine ⟨_,fun q=>if q=k then k3 else g q,fun q=>if q=k then k4 else al q,a6,by simp [hsz],h.base,fun p x hx=> ?_,fun p q hp hq hne=> ?_⟩
 · by_cases e:p=k
   · subst e
     rw [List.getElem?_append_right (by omega),hlen,Nat.sub_self] at hx
     cases hx
     refine ⟨1,1,?_,?_,?_,?_⟩
     · simp only [if_true]
       rw [Array.getElem?_setIfInBounds_ne (by omega),Array.getElem?_setIfInBounds_self_of_lt (by omega)];rfl
     · simp only [if_true]
       rw [Array.getElem?_setIfInBounds_self_of_lt (by simp;omega)];rfl
     · simp only [if_true];exact a4
     · simp only [if_true];exact a5
   · have hpl:p<k:=by
      have:=(List.getElem?_eq_some_iff.1 hx).1
      rw [List.length_append,List.length_singleton,hlen] at this;omega
     rw [List.getElem?_append_left (by omega)] at hx
     have hw:=h.w p x hx
     obtain ⟨⟨cg,tg⟩,⟨ca,ta⟩⟩:=hw.types
     simp only [if_neg e]
     refine hw.kept ?_ ?_ (hc.block _ hw.lt.1 ?_) (hc.block _ hw.lt.2 ?_) hc.size
     · rw [Array.getElem?_setIfInBounds_ne (by omega),Array.getElem?_setIfInBounds_ne (by omega)]
     · rw [Array.getElem?_setIfInBounds_ne (by omega),Array.getElem?_setIfInBounds_ne (by omega)]
     · intro e;rw [e,h.at_] at tg;cases tg
     · intro e;rw [e,h.at_] at ta;cases ta
 · rw [List.length_append,List.length_singleton,hlen] at hp hq
   have hgl:∀ q,q<k→g q<W.heap.size∧al q<W.heap.size:=fun q hq=>(h.w q _ (List.getElem?_eq_getElem (by omega))).lt
   by_cases e:p=k
   · subst e
     have h2:=hgl q (by omega)
     simp only [if_true,if_neg (Ne.symm hne)]
     omega
   · by_cases e':q=k
     · subst e'
       have h2:=hgl p (by omega)
       simp only [if_true,if_neg hne]
       omega
     · have:=h.ne p q (by omega) (by omega) hne
       simp only [if_neg e,if_neg e'];exact this
theorem circleRow_hit {bs:List Bound} {l:List Walks} {p:Nat} {x:Walks} (hx:l[p]? = some x) (h:rAt (x.longer bs).now p<0):circleRow bs (l.drop p) p=(x.longer bs::l.drop (p+1),some ((x.longer bs).back bs p)):=by
 have hp:=(List.getElem?_eq_some_iff.1 hx).1
 have e:l.drop p=x::l.drop (p+1):=by rw [List.drop_eq_getElem_cons hp,(List.getElem?_eq_some_iff.1 hx).2]
 rw [e,circleRow,if_pos h]
theorem circleRow_miss {bs:List Bound} {l:List Walks} {p:Nat} {x:Walks} (hx:l[p]? = some x) (h:¬rAt (x.longer bs).now p<0):circleRow bs (l.drop p) p=(x.longer bs::(circleRow bs (l.drop (p+1)) (p+1)).1,(circleRow bs (l.drop (p+1)) (p+1)).2):=by
 have hp:=(List.getElem?_eq_some_iff.1 hx).1
 have e:l.drop p=x::l.drop (p+1):=by rw [List.drop_eq_getElem_cons hp,(List.getElem?_eq_some_iff.1 hx).2]
 rw [e,circleRow,if_neg h]
structure RowMid (bs:List Bound) (m:Nat) (all now:List Walks) (p:Nat):Prop where
 len:now.length=all.length
 same:∀ q:Nat,p≤q→now[q]? = all[q]?
 done:∀ (q:Nat) (x:Walks),q<p→now[q]? = some x→WOk bs (m+1) x
 todo:∀ (q:Nat) (x:Walks),p≤q→now[q]? = some x→WOk bs m x
 row1:(circleRow bs all 0).1=now.take p++(circleRow bs (all.drop p) p).1
 row2:(circleRow bs all 0).2=(circleRow bs (all.drop p) p).2
theorem RowMid.start {bs:List Bound} {m:Nat} {all:List Walks} (h:∀ (q:Nat) (x:Walks),all[q]? = some x→WOk bs m x):RowMid bs m all all 0:=
 ⟨rfl,fun _ _=>rfl,fun _ _ h=>absurd h (Nat.not_lt_zero _),fun q x _ hx=>h q x hx,by simp,by simp⟩
theorem RowMid.next {pts:Int} {bs:List Bound} (hok:SysOk pts bs) {m:Nat} {all now:List Walks} {p:Nat} {x:Walks} (h:RowMid bs m all now p) (hx:now[p]? = some x) (hn:¬rAt (x.longer bs).now p<0):RowMid bs m all (now.set p (x.longer bs)) (p+1):=by
 have hp:=(List.getElem?_eq_some_iff.1 hx).1
 have hxa:all[p]? = some x:=(h.same p (Nat.le_refl _)).symm.trans hx
 have hm:=circleRow_miss hxa hn
 refine ⟨by rw [List.length_set];exact h.len,fun q hq=>by rw [List.getElem?_set_ne (by omega)];exact h.same q (by omega),fun q y hq hy=> ?_,fun q y hq hy=> ?_,?_,?_⟩
 · by_cases e:q=p
   · subst e
     rw [List.getElem?_set_self hp] at hy
     cases hy
     exact (h.todo q x (Nat.le_refl _) hx).longer hok
   · rw [List.getElem?_set_ne (Ne.symm e)] at hy
     exact h.done q y (by omega) hy
 · rw [List.getElem?_set_ne (by omega)] at hy
   exact h.todo q y (by omega) hy
 · rw [h.row1,hm]
   simp only
   rw [List.take_add_one,List.take_set_of_le (Nat.le_refl _),List.getElem?_set_self hp]
   simp
 · rw [h.row2,hm]
theorem RowMid.fin {bs:List Bound} {m:Nat} {all now:List Walks} {p:Nat} (h:RowMid bs m all now p) (hp:p=all.length):circleRow bs all 0=(now,none):=by
 subst hp
 have h1:=h.row1
 have h2:=h.row2
 rw [List.drop_length,circleRow] at h1 h2
 simp only [List.append_nil] at h1 h2
 rw [←h.len,List.take_length] at h1
 rw [←h1,←h2]
theorem circleLoop_hit {bs:List Bound} {n:Nat} {all:List Walks} {c:List Int} (h:(circleRow bs all 0).2=some c):circleLoop bs (n+1) all=c:=by
 rw [circleLoop]
 split
 · rename_i c' e;rw [e] at h;exact Option.some.inj h
 · rename_i e;rw [e] at h;cases h
theorem circleLoop_miss {bs:List Bound} {n:Nat} {all now:List Walks} (h:circleRow bs all 0=(now,none)):circleLoop bs (n+1) all=circleLoop bs n now:=by
 rw [circleLoop,h]
theorem longerR_nil (now:Row):longerR [] now=(emptyRow,zeroRow):=rfl
theorem wpL_make {P:Program} {ops:Array Oper} {rest:List Oper} {o:Oper} {a:Act} {w:World} {Q:Exit→Act→World→Prop} {t e:TypeId} {k bytes:Nat} (E:ElemT P t e k bytes) (B m:Nat) {x y:Operand} (ho:o.op = .makeSlice t x y) (hgd:o.guard=none) (hx:a.eval x = .int .i64 (m:Int)) (hy:a.eval y = .int .i64 (m:Int)) (hm:m≤1000000) (hb:bytes≤1000000) (hB:B≤w.heap.size)
 (h:∀ w' cur,w'.heap[w.heap.size]? = some (.cells cur e (0,0))→cur.size=m * k→w.grownBy w' none→wpList P ops Q rest (a.put o.dst (.slice (some ⟨w.heap.size,0,none⟩) m m)) w'):wpList P ops Q (o::rest) a w:=by
 obtain ⟨i,z,hi,hz0,hz1,hz2,hz3⟩:=E.info
 have hbm:i.bytes * m≤1000000 * 1000000:=Nat.mul_le_mul (by omega) hm
 obtain ⟨w',h1,h2,h3⟩:=run_make_full (P:=P) w B t e i z k E.slice hi hz0 hz1 .i64 .i64 m (by omega) (by unfold maxLen;omega) hB
 refine wpList_plain hgd fun _ hK=> ?_
 unfold Oper.wp execOp
 simp only [ho,hx,hy,Sem.run_bind,h1,Result.andThen_ok,Sem.run_pure]
 rcases h2.2 with ⟨e1,_⟩|⟨g,cap,cur,e1,a1,a2,a3,a4,a5,_⟩
 · cases e1
 · cases e1
   exact hK _ _ (h w' cur a2 a5 h3)
theorem elWalks:ElemT Tryz.prog 126 133 2 48:=elemT_of (z:=.agg #[.slice none 0 0,.slice none 0 0]) Tryz.underlying126 (by kernel_rfl) rfl (by decide)
structure CircAt (w W:World) (pts:Int) (A:Option Addr) (n c ba P:Nat) (all:List Walks):Prop where
 bel:Below w.heap.size w W
 sys:W.heap[w.heap.size]? = some (.cells #[.int .i64 pts,.slice A n c] 84 (0,0))
 bal:w.heap.size<ba
 all:∃ cur g al,AllAt w.heap.size W ba P all cur g al
theorem CircAt.below {w W W':World} {pts:Int} {A:Option Addr} {n c ba P:Nat} {all:List Walks} (h:CircAt w W pts A n c ba P all) (hb:Below W.heap.size W W'):CircAt w W' pts A n c ba P all:=by
 have hl:=(Array.getElem?_eq_some_iff.1 h.sys).1
 obtain ⟨cur,g,al,ha⟩:=h.all
 exact ⟨h.bel.trans (hb.mono h.bel.size),(hb.block _ hl).trans h.sys,h.bal,cur,g,al,ha.below hb⟩
theorem CircAt.drew {w W:World} {pts:Int} {A:Option Addr} {n c ba P:Nat} {all:List Walks} (h:CircAt w W pts A n c ba P all):CircAt w W.drew pts A n c ba P all:=h.below (Below.refl _ _).drew
theorem CircAt.push {w W W':World} {pts:Int} {A:Option Addr} {n c ba P k b8:Nat} {nn cc:Nat} {all:List Walks} {cur:Array Value} {g al:Nat→Nat} (h:CircAt w W pts A n c ba P all) (ha:AllAt w.heap.size W ba P all cur g al) (hlen:all.length=k) (hk:k<P) (hc:ChgT (fun q=>q=ba) W W') (hf:factC W w.heap.size ba nn cc k b8 cur (rPut emptyRow k 0) 7 undef W'):
 CircAt w W' pts A n c ba P (all ++ [walks0 k]):=by
 have hl:=(Array.getElem?_eq_some_iff.1 h.sys).1
 exact ⟨below_chg h.bel hc (fun q e=>by have:=h.bal;omega) h.bel.size,(hc.block _ hl (fun e=>by have:=h.bal;omega)).trans h.sys,h.bal,ha.push hlen hk hc hf⟩
theorem CircAt.longer {w W W':World} {pts:Int} {A:Option Addr} {n c ba P p:Nat} {all:List Walks} {cur:Array Value} {g al:Nat→Nat} (h:CircAt w W pts A n c ba P all) (ha:AllAt w.heap.size W ba P all cur g al) {x:Walks} (hx:all[p]? = some x) (bs:List Bound)
 (hp:LongPost W W' w.heap.size ba (2 * p) cur (some ⟨g p,0,none⟩) x.sums.length (some ⟨al p,0,none⟩) x.last.length x.sums x.last (longerR bs x.now).1 (longerR bs x.now).2):CircAt w W' pts A n c ba P (all.set p (x.longer bs)):=by
 have hl:=(Array.getElem?_eq_some_iff.1 h.sys).1
 obtain ⟨h1,hc⟩:=ha.longer hx bs hp
 have key:∀ k,(k=ba∨∃ q,q<all.length∧(k=g q∨k=al q))→w.heap.size≤k:=by
  rintro k (rfl|⟨q,hq,e⟩)
  · exact Nat.le_of_lt h.bal
  · obtain ⟨cs,cl,_,_,h3,h4⟩:=ha.w q _ (List.getElem?_eq_getElem hq)
    have:=h3.lt.1;have:=h4.lt.1
    rcases e with rfl|rfl<;>omega
 have key2:¬(w.heap.size=ba∨∃ q,q<all.length∧(w.heap.size=g q∨w.heap.size=al q)):=by
  rintro (e|⟨q,hq,e⟩)
  · have:=h.bal;omega
  · obtain ⟨⟨_,t1⟩,⟨_,t2⟩⟩:=(ha.w q _ (List.getElem?_eq_getElem hq)).types
    rcases e with e|e
    · rw [←e,h.sys] at t1;cases t1
    · rw [←e,h.sys] at t2;cases t2
 exact ⟨below_chg h.bel hc key h.bel.size,(hc.block _ hl key2).trans h.sys,h.bal,h1⟩
theorem empty_cell (W:World) (k:Nat) (hk:k<60):(W.alloc (.cells (rowA emptyRow) 128)).cell? ⟨W.heap.size,k,none⟩=some (.int .i64 noneV):=by
 have h9:rowAt? (W.alloc (.cells (rowA emptyRow) 128)) W.heap.size 60=some (rowA emptyRow):=by rw [rowAt?_alloc_at _ _ rfl,if_pos (by rw [rowA_size,emptyRow_len])]
 have h:=rowAt?_int h9 (i:=k) (by rw [emptyRow_len];exact hk)
 have e:emptyRow.getD k 0=noneV:=by
  have:=rAt_empty (k:Int) (by omega) (by omega)
  unfold rAt at this
  rwa [Int.toNat_natCast] at this
 rw [h,e]
def circOk (pts:Int) (bs:List Bound):Bool:=decide (0<(circleX pts bs).length)
theorem Circle_any (pts:Int) (A:Option Addr) (n c:Nat) (bs:List Bound) (w:World) (hl:Rd encBound 4 w A n c bs) (hk:checkSys pts bs=0):
 Calls Tryz.prog 35 #[.agg #[.int .i64 pts,.slice A n c]] w fun e w'=> ∃ A' c',e = .returned (.tuple #[.slice A' (circleX pts bs).length c',.bool (circOk pts bs),.int .i64 0])∧Below w.heap.size w w'∧
  Own encInt 1 3 w.heap.size w' A' (circleX pts bs).length c' (circleX pts bs):=by
 have hok:=sysOk_of hk
 have hp1:=hok.p1
 have hp2:=hok.p2
 obtain ⟨P,hP⟩:∃ P:Nat,pts=P:=⟨pts.toNat,by omega⟩
 have hPl:1≤P∧P≤60:=by omega
 have hcx:circleX pts bs=circleLoop bs P ((List.range P).map walks0):=by unfold circleX;rw [hP,Int.toNat_natCast]
 obtain ⟨R,hR⟩:∃ R,circleX pts bs=R:=⟨_,rfl⟩
 have hro:circOk pts bs=decide (0<R.length):=by unfold circOk;rw [hR]
 rw [hro,hR]
 rw [hR] at hcx
 clear hro hR
 obtain ⟨w1,hw1⟩:∃ w1,w.alloc (.cells #[.int .i64 pts,.slice A n c] 84)=w1:=⟨_,rfl⟩
 have hb1:Below w.heap.size w w1:=(by rw [←hw1];exact (Below.refl _ w).alloc (Nat.le_refl _) _)
 have hz1:w1.heap.size=w.heap.size+1:=(by rw [←hw1];simp)
 have hsys:w1.heap[w.heap.size]? = some (.cells #[.int .i64 pts,.slice A n c] 84 (0,0)):=(by rw [←hw1];exact heap_alloc_new w _)
 have hc:=CheckSystem_any pts A n c bs w1 (hl.below hb1 (Nat.le_refl _))
 rw [hk] at hc
 have HC:=Lib.hid hc
 have HL:=Lib.hid hl
 have HOK:=Lib.hid hok
 have HCX:=Lib.hid hcx
 have HP:=Lib.hid hP
 have d0:w1.cell? ⟨w.heap.size,0,none⟩=some (.int .i64 pts):=(by simp [World.cell?,hsys])
 have d1:w1.cell? ⟨w.heap.size,1,none⟩=some (.slice A n c):=(by simp [World.cell?,hsys])
 clear hc hl hok hk hcx hP
 go_enter Tryz.func35,Tryz.ntmps35
 go_wp2_with (fail)
 go_step3
 go_wp2_with (first
  | (go_at_call 61;refine HC.out.mono ?_;rintro e w2 ⟨rfl,hb2⟩
     have hs2:=(hb2.block _ (by omega)).trans hsys
     have d0:w2.cell? ⟨w.heap.size,0,none⟩=some (.int .i64 pts):=(by simp [World.cell?,hs2])
     have hz2:=hb2.size
     have HS2:=Lib.hid hs2
     have HB2:=Lib.hid (hb1.trans (hb2.mono (by omega)))
     clear hs2 hb2)
  | (refine wpL_make elWalks w.heap.size P rfl rfl (by rw [HP.out];rfl) (by rw [HP.out];rfl) (by omega) (by decide) (by omega) ?_
     intro w3 cur hcur hcs hg3
     have hC:CircAt w w3 pts A n c w2.heap.size P []:=⟨HB2.out.grown hg3 (by omega) (fun k e=>by cases e),(hg3.block _ (by omega) (by simp)).trans HS2.out,by omega,cur,fun _=>0,fun _=>0,⟨hcur,by omega,by omega,fun p x h=>by simp at h,fun p q h=>absurd h (Nat.not_lt_zero _)⟩⟩
     have HC3:=Lib.hid hC
     clear hcur hcs hg3 hC))
 obtain ⟨ba,hba⟩:∃ ba,w2.heap.size=ba:=⟨_,rfl⟩
 rw [hba] at HC3 ⊢
 clear hba
 go_loopw [22] (fun i wr=> ∃ k:Nat,k≤P∧i = .int .i64 k∧Hid (CircAt w wr pts A n c ba P ((List.range k).map walks0))) (fun i _=>P-(intOf i).toNat)
 case atStart=>exact ⟨0,Nat.zero_le _,rfl,HC3⟩
 case round=>
  obtain ⟨k,hk,rfl,hC⟩:=hrel
  by_cases hlt:k<P
  · obtain ⟨cur,g,al,ha⟩:=hC.out.all
    have HA:=Lib.hid ha
    have hbal:=hC.out.bal
    have hbl:=ha.lt
    clear ha
    go_upto_region 10 with (first
     | (go_at_call 63;refine (empty_any _).mono ?_;rintro e w4 ⟨rfl,hb4⟩
        have hd4:=empty_cell w4 k (by omega)
        have hz4:=hb4.size
        have HB4:=Lib.hid hb4
        clear hb4)
     | (refine wpL_alloc (t:=128) rfl rfl zero207 ?_)
     | (refine wpL_storeNew row207 rfl rfl rfl rfl (by simp [zeroRow]) rfl emptyRow_len ?_))
    rw [rowA_set]
    have hre:emptyRow.set k 0=rPut emptyRow k 0:=(by unfold rPut;rw [Int.toNat_natCast])
    rw [hre]
    have hlen5:(rPut emptyRow (k:Int) 0).length=60:=(by rw [rPut_len,emptyRow_len])
    obtain ⟨W5,hW5⟩:∃ W5,w4.alloc (.cells (rowA (rPut emptyRow k 0)) 128)=W5:=⟨_,rfl⟩
    rw [hW5]
    have hb5:Below wr.heap.size wr W5:=(by rw [←hW5];exact HB4.out.alloc hz4 _)
    have hr5:rowAt? W5 w4.heap.size 60=some (rowA (rPut emptyRow k 0)):=(by rw [←hW5,rowAt?_alloc_at _ _ rfl,if_pos (by rw [rowA_size,hlen5])])
    have hC5:=hC.out.below hb5
    have hA5:=HA.out.below hb5
    refine circ10 _ rfl w.heap.size ba P P k w4.heap.size cur (rPut emptyRow k 0) _ W5 _ rfl rfl rfl rfl hA5.at_ hlt (by have:=hA5.size;omega) hr5 hlen5 hC5.bel.size (by omega) ?_
    intro V W9 hc9 hf9 _ _
    simp only [List.setIfInBounds_toArray,List.set_cons_succ,List.set_cons_zero]
    have hC9:=hC5.push hA5 (by simp) hlt hc9 hf9
    have hl9:(List.range k).map walks0 ++ [walks0 k]=(List.range (k+1)).map walks0:=(by rw [List.range_succ,List.map_append];rfl)
    rw [hl9] at hC9
    have HC9:=Lib.hid hC9
    clear hC9 hl9 hc9 hf9 hA5 hC5 hr5 hb5 hW5 hlen5 hre hd4
    go_wp2
    go_roundw
    all_goals first
     | (simp [intOf];omega)
     | exact ⟨k+1,by omega,by go_num,HC9⟩
  · have hkn:k=P:=by omega
    subst hkn
    clear hlt hk
    have hs0:=hC.out.sys
    have d0':wr.cell? ⟨w.heap.size,0,none⟩=some (.int .i64 pts):=(by simp [World.cell?,hs0])
    clear hs0
    go_wp2_with (fail)
    go_step3
    go_wp2_with (fail)
    clear d0 d0' HC3
    go_loopw [9,38] (fun s9 i W2=> ∃ (m:Nat) (all:List Walks),m≤k∧i = .int .i64 m∧s9 = .slice none 0 0∧all.length=k∧Hid (CircAt w W2 pts A n c ba k all)∧Hid (∀ (q:Nat) (x:Walks),all[q]? = some x→WOk bs m x)∧Hid (circleLoop bs (k-m) all=R)) (fun _ i _=>k-(intOf i).toNat)
    case atStart=>
     refine ⟨0,_,Nat.zero_le _,rfl,rfl,by simp,hC,(show ∀ (q:Nat) (x:Walks),_→_ from fun q x hx=> ?_),(show _=_ from HCX.out.symm)⟩
     rw [List.getElem?_map] at hx
     by_cases hq:q<k
     · rw [List.getElem?_range hq] at hx
       cases hx
       exact WOk.start bs q (by omega)
     · rw [List.getElem?_eq_none (by simpa using hq)] at hx;cases hx
    case round=>
     obtain ⟨m,all,hm,rfl,rfl,hall,hC2,hW2,hR2⟩:=hrel
     by_cases hmk:m<k
     · have hmp:(m:Int)<pts:=(by rw [HP.out];omega)
       go_wp2_with (fail)
       go_loopw [9,42] (fun s9 j W3=> ∃ (p:Nat) (now:List Walks),p≤k∧j = .int .i64 p∧s9 = .slice none 0 0∧Hid (CircAt w W3 pts A n c ba k now)∧Hid (RowMid bs m all now p)) (fun _ j _=>k-(intOf j).toNat)
       case atStart=>exact ⟨0,all,Nat.zero_le _,rfl,rfl,hC2,(show RowMid _ _ _ _ _ from RowMid.start hW2.out)⟩
       case round=>
        obtain ⟨p,now,hp,rfl,rfl,hC3,hM3⟩:=hrel
        by_cases hpk:p<k
        · obtain ⟨x,hx⟩:∃ x,now[p]? = some x:=⟨_,List.getElem?_eq_getElem (by rw [hM3.out.len,hall];exact hpk)⟩
          have hwx:=hM3.out.todo p x (Nat.le_refl _) hx
          obtain ⟨cur,g,al,ha⟩:=hC3.out.all
          obtain ⟨cs,cl,a1,a2,a3,a4⟩:=ha.w p x hx
          have hbal:=hC3.out.bal
          have hB3:=hC3.out.bel
          have hB3s:=hB3.size
          have hs3:=hC3.out.sys
          have hns:=hwx.s
          have hnl:=hwx.l
          have hlo:=hwx.low
          have hlong:=longer_any w.heap.size ba (2 * p) (g p) x.sums.length cs cur (some ⟨al p,0,none⟩) x.last.length cl x.sums x.last x.now pts A n c bs _ ha.at_ a1 a2 a3 a4 hB3s (by omega) (by omega) (by omega) (by rw [hns,Nat.add_sub_cancel];exact hwx.now_at) hwx.now60 (fun v h1 h2=>by have:=hlo v h1 h2;omega) (HL.out.below hB3 (Nat.le_refl _)) HOK.out
          have d0:∀ W5,CircAt w W5 pts A n c ba k (now.set p (x.longer bs))→W5.cell? ⟨w.heap.size,0,none⟩=some (.int .i64 pts)∧W5.cell? ⟨w.heap.size,1,none⟩=some (.slice A n c):=fun W5 h=>⟨by simp [World.cell?,h.sys],by simp [World.cell?,h.sys]⟩
          have e0:wr.cell? ⟨w.heap.size,0,none⟩=some (.int .i64 pts):=(by simp [World.cell?,hs3])
          have e1:wr.cell? ⟨w.heap.size,1,none⟩=some (.slice A n c):=(by simp [World.cell?,hs3])
          rw [Nat.mul_comm 2 p] at hlong
          have HLONG:=Lib.hid hlong
          have HD0:=Lib.hid d0
          have HX:=Lib.hid hx
          have HWX:=Lib.hid hwx
          have HA:=Lib.hid ha
          clear hlong d0 hx hwx ha a1 a2 a3 a4 hs3 hns hnl hlo hB3 hB3s
          go_upto_region 20 with (go_at_call 64;((with_reducible refine HLONG.out.mono ?_);rintro e w5 ⟨rfl,hLP⟩))
          rw [Nat.mul_comm p 2] at hLP
          have hC5:=hC3.out.longer HA.out HX.out bs hLP
          obtain ⟨x5,hx5⟩:∃ x5,x.longer bs=x5:=⟨_,rfl⟩
          have hwx5:=HWX.out.longer HOK.out
          rw [hx5] at hC5 hwx5
          obtain ⟨cur5,g5,al5,ha5⟩:=hC5.all
          have hpn:p<now.length:=(List.getElem?_eq_some_iff.1 HX.out).1
          obtain ⟨cs5,cl5,b1,b2,b3,b4⟩:=ha5.w p x5 (List.getElem?_set_self hpn)
          have hns5:=hwx5.s
          have hnl5:=hwx5.l
          have hcell5:=b3.cellRow (j:=p) hwx5.now_at (by omega)
          obtain ⟨v,hv⟩:∃ v,rAt x5.now p=v:=⟨_,rfl⟩
          have hvg:x5.now.getD p 0=v:=(by rw [←hv];unfold rAt;rw [Int.toNat_natCast])
          rw [hvg] at hcell5
          obtain ⟨f0,f1⟩:=HD0.out w5 (by rw [hx5];exact hC5)
          have HB1:=Lib.hid b1
          have HB2:=Lib.hid b2
          have HB4:=Lib.hid b4
          have HNS:=Lib.hid hns5
          have HNL:=Lib.hid hnl5
          have HV:=Lib.hid hv
          have HX5:=Lib.hid hx5
          have HWX5:=Lib.hid hwx5
          have HC5:=Lib.hid hC5
          have HA5:=Lib.hid ha5
          have hk60:k≤60:=hPl.2
          clear hLP b1 b2 b3 b4 hns5 hnl5 hv hvg hx5 hwx5 hC5 ha5 e0 e1
          refine circ20 _ rfl ba (p * 2) (g5 p) x5.sums.length (m+1) cs5 p v _ w5 _ rfl rfl rfl (by rw [Nat.mul_comm p 2];simp [World.cell?,HA5.out.at_,HB1.out]) hcell5 HNS.out (by omega) (by omega) ?_
          simp only [List.setIfInBounds_toArray,List.set_cons_succ,List.set_cons_zero]
          clear hcell5
          by_cases hv0:v<0
          · have hd:decide (v<0)=true:=by simpa using hv0
            have hne:bs ≠ []:=(fun e=>by
             have h1:=HV.out
             rw [←HX5.out,Walks.now_longer,e,longerR_nil] at h1
             simp only at h1
             rw [rAt_empty _ (by omega) (by omega)] at h1
             unfold noneV at h1;omega)
            have hback:=back_any w.heap.size ba (p * 2) (some ⟨al5 p,0,none⟩) x5.last.length cl5 x5.last pts A n c bs p w5.drew (by
             have e:w5.drew.cell? ⟨ba,2 * p+1,none⟩=some (.slice (some ⟨al5 p,0,none⟩) x5.last.length cl5):=(by
              show w5.cell? ⟨ba,2 * p+1,none⟩=_
              simp [World.cell?,HA5.out.at_,HB2.out])
             rw [Nat.mul_comm p 2];exact e) HB4.out.drew (by have:=HNL.out;omega) (by have:=HNL.out;omega) (HWX5.out.ok hne) (HL.out.below HC5.out.drew.bel (Nat.le_refl _)) HOK.out (by omega) (by omega)
            obtain ⟨BT,hBT⟩:∃ BT,backTo bs x5.last x5.last.length p=BT:=⟨_,rfl⟩
            rw [hBT] at hback
            have hpos:0<BT.length:=(by rw [←hBT,HNL.out,show m+1+1=m+2 from rfl,backTo];simp)
            have hRB:R=BT.reverse:=(by
             have hxa:all[p]? = some x:=(hM3.out.same p (Nat.le_refl _)).symm.trans HX.out
             have h1:=circleRow_hit (bs:=bs) hxa (by rw [HX5.out,HV.out];exact hv0)
             have h2:(circleRow bs all 0).2=some (x5.back bs p):=(by rw [hM3.out.row2,h1,HX5.out])
             have h3:=hR2.out
             rw [show k-m=(k-m-1)+1 by omega,circleLoop_hit h2] at h3
             rw [←h3,←hBT];rfl)
            have HBK:=Lib.hid hback
            have HRB:=Lib.hid hRB
            clear hback hRB hBT
            go_wp2_with (go_at_call 65;((with_reducible refine HBK.out.mono ?_);rintro e w6 ⟨A2,c2,rfl,hb6,hO6⟩))
            rw [Exit.noGoto_ret]
            go_ret3
            refine ⟨A2,c2,?_,HC5.out.drew.bel.trans (hb6.mono HC5.out.drew.bel.size),?_⟩
            · rw [HRB.out,List.length_reverse,decide_eq_true hpos];rfl
            · rw [HRB.out,List.length_reverse];exact hO6.mono HC5.out.drew.bel.size
          · have hd:decide (v<0)=false:=by simpa using hv0
            have hnx:=hM3.out.next HOK.out HX.out (by rw [HX5.out,HV.out];exact hv0)
            rw [HX5.out] at hnx
            have HNX:=Lib.hid hnx
            clear hnx
            go_wp2
            go_roundw
            all_goals first
             | (simp [intOf];omega)
             | exact ⟨p+1,_,by omega,by go_num,rfl,HC5.out.drew,HNX⟩
        · have hpe:p=k:=by omega
          subst hpe
          have hfin:=hM3.out.fin hall.symm
          have hstep:circleLoop bs (p-(m+1)) now=R:=(by
           have h3:=hR2.out
           rw [show p-m=(p-(m+1))+1 by omega,circleLoop_miss hfin] at h3
           exact h3)
          have HST:=Lib.hid hstep
          have hnlen:now.length=p:=(by rw [hM3.out.len,hall])
          have HNLEN:=Lib.hid hnlen
          clear hstep hfin hnlen
          go_wp2
          go_roundw
          all_goals first
           | (simp [intOf];omega)
           | exact ⟨m+1,now,by omega,by go_num,rfl,HNLEN.out,hC3,(show ∀ (q:Nat) (x:Walks),_→_ from fun q x hx=>hM3.out.done q x (by have:=(List.getElem?_eq_some_iff.1 hx).1;rw [HNLEN.out] at this;exact this) hx),HST⟩
     · have hmp:pts≤(m:Int):=(by rw [HP.out];omega)
       go_wp2_with (fail)
       rw [Exit.noGoto_ret]
       go_ret3
       have hR0:R = []:=(by rw [←hR2.out,show k-m=0 by omega];rfl)
       exact ⟨none,0,by rw [hR0];rfl,hC2.out.bel,by rw [hR0];exact Own.none_ _ _ _ _ _⟩
end Go.Proofs.YtejjplhknacoiaaGreatDoor
end

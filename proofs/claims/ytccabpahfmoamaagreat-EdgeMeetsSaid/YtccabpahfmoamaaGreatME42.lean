/- Contracts that the laws lean on: R1W, R1C, R1CC. -/
import Derived.Test.YtccabpahfmoamaaGreatME35
import Derived.Test.YtccabpahfmoamaaGreatME20
set_option maxRecDepth 100000
set_option maxHeartbeats 8000000
section
namespace Go.Proofs.YtccabpahfmoamaaGreat
open Go.RowKit Go.Proofs Go.Shelf
theorem r1has_any (A:Option Addr) (n c:Nat) (xs:List Int) (v:Int) (w:World) (hx:Rd encInt 1 w A n c xs):
 Calls Tryz.prog 148 #[.slice A n c,.int .i64 v] w fun e w'=>e = .returned (.bool (decide (v∈xs)))∧Below w.heap.size w w':=by
 have hlx:=hx.len
 have hbx:=hx.big
 have HX:=Lib.hid hx
 have HLX:=Lib.hid hlx
 clear hx hlx
 go_enter Tryz.func148,Tryz.ntmps148
 go_wp2
 go_loopw [5] (fun s5 wr=> ∃ k:Nat,k≤n∧s5 = .int .i64 k∧Hid (Below w.heap.size w wr)∧Hid (∀ (j:Nat) (x:Int),j<k→xs[j]? = some x→x≠v)) (fun s5 _=>n-(intOf s5).toNat)
 case atStart=>exact ⟨0,Nat.zero_le _,rfl,(show Below _ _ _ from Below.refl _ _),(show ∀ (j:Nat) (x:Int),_ from fun j x h=>by omega)⟩
 case round=>
  obtain ⟨k,hk,rfl,hbr,hall⟩:=hrel
  by_cases hlt:k<n
  · obtain ⟨b,off,x,rfl,hbw,hxk,hcx⟩:=(HX.out.below hbr.out (Nat.le_refl _)).one hlt
    have g1:wr.cell? ⟨b,off+k,none⟩=some (.int .i64 x):=(by have:=hcx 0 _ rfl;simpa using this)
    have HXK:=Lib.hid hxk
    clear hcx hxk
    by_cases hq:x=v
    · subst hq
      have hqq:(x==x)=true:=(by simp)
      go_wp2
      go_ret
      exact ⟨by rw [decide_eq_true (List.mem_of_getElem? HXK.out)];rfl,hbr.out⟩
    · have hqq:(x==v)=false:=(by simpa using hq)
      go_wp2
      go_roundw
      case rel=>exact ⟨k+1,by omega,by go_num,(show Below _ _ _ from hbr.out),(show ∀ (j:Nat) (y:Int),_ from fun j y hj hy=>by
       by_cases e:j=k
       · subst e
         rw [HXK.out] at hy
         cases hy
         exact hq
       · exact hall.out j y (by omega) hy)⟩
      case measure=>simp [intOf];omega
  · have hkn:k=n:=by omega
    subst hkn
    go_wp2
    go_ret
    refine ⟨?_,hbr.out⟩
    rw [decide_eq_false (fun hm=>by
     obtain ⟨j,hj,hjx⟩:=List.getElem_of_mem hm
     exact hall.out j v (by rw [HLX.out] at hj;exact hj) (by rw [List.getElem?_eq_getElem hj,hjx]) rfl)]
    rfl
theorem Own.not_in {α:Type} {enc:α→List Value} {k n c B:Nat} {e:TypeId} {w:World} {A:Option Addr} {xs:List α} (h:Own enc k e B w A n c xs) {g:Nat} (hg:w.heap.size≤g):some g≠blockOf A:=fun e=>by
 rcases h.block with h'|⟨g',cur,h',hg',_⟩
 · subst h';cases e
 · subst h'
   cases e
   have h9:g'<w.heap.size:=(Array.getElem?_eq_some_iff.1 hg').1
   simp only at hg
   omega
def frL (bs:List Bound) (l:List Int):List Int:=l.map fun i=>(bnd bs i).src
def toL (bs:List Bound) (l:List Int):List Int:=l.map fun i=>(bnd bs i).dst
def mostsL (bs:List Bound) (l:List Int):Int:=(l.map fun i=>(bnd bs i).most).sum
def wkStep (bs:List Bound) (l:List Int) (k:Nat):Bool:=
 decide (0≤l.getD k 0∧l.getD k 0<bs.length)&&(!decide ((bnd bs (l.getD k 0)).src∈frL bs (l.take k))&&(!decide ((bnd bs (l.getD k 0)).dst∈toL bs (l.take k))&&(decide (k=0)||decide ((toL bs (l.take k)).getD (k-1) 0=(bnd bs (l.getD k 0)).src))))
def walkB (bs:List Bound) (l:List Int):Bool:=(List.range l.length).all (wkStep bs l)
def walkV (bs:List Bound) (l:List Int):Int×Bool:=if walkB bs l then (mostsL bs l,true) else (0,false)
theorem walkV_no {bs:List Bound} {l:List Int} {k:Nat} (hk:k<l.length) (h:wkStep bs l k=false):walkV bs l=(0,false):=by
 unfold walkV walkB
 rw [if_neg]
 intro hh
 rw [List.all_eq_true] at hh
 rw [hh k (List.mem_range.2 hk)] at h
 cases h
theorem walkV_yes {bs:List Bound} {l:List Int} (h:∀ k,k<l.length→wkStep bs l k=true):walkV bs l=(mostsL bs l,true):=by
 unfold walkV walkB
 rw [if_pos]
 rw [List.all_eq_true]
 exact fun k hk=>h k (List.mem_range.1 hk)
theorem frL_succ {bs:List Bound} {l:List Int} {k:Nat} {x:Int} (hx:l[k]? = some x):frL bs (l.take (k+1))=frL bs (l.take k) ++ [(bnd bs x).src]:=by
 unfold frL;rw [List.take_add_one,hx,List.map_append];rfl
theorem toL_succ {bs:List Bound} {l:List Int} {k:Nat} {x:Int} (hx:l[k]? = some x):toL bs (l.take (k+1))=toL bs (l.take k) ++ [(bnd bs x).dst]:=by
 unfold toL;rw [List.take_add_one,hx,List.map_append];rfl
theorem mostsL_succ {bs:List Bound} {l:List Int} {k:Nat} {x:Int} (hx:l[k]? = some x):mostsL bs (l.take (k+1))=mostsL bs (l.take k)+(bnd bs x).most:=by
 unfold mostsL;rw [List.take_add_one,hx,List.map_append,List.sum_append];simp
theorem mostsL_bnd {bs:List Bound} (hm:∀ b∈bs,-1000000≤b.most∧b.most≤1000000):∀ l:List Int,-(1000000 * (l.length:Int))≤mostsL bs l∧mostsL bs l≤1000000 * (l.length:Int)
 | []=>by simp [mostsL]
 | x::l=>by
   have h:=mostsL_bnd hm l
   have hx: -1000000≤(bnd bs x).most∧(bnd bs x).most≤1000000:=by
    unfold bnd
    rw [List.getD_eq_getElem?_getD]
    cases hb:bs[x.toNat]? with
    | none=>exact ⟨by decide,by decide⟩
    | some b=>exact hm b (List.mem_of_getElem? hb)
   have e:mostsL bs (x::l)=(bnd bs x).most+mostsL bs l:=by unfold mostsL;simp
   rw [e,List.length_cons]
   constructor<;>push_cast<;>omega
theorem Own.grown_other {α:Type} {enc:α→List Value} {k n c B:Nat} {e:TypeId} {W W':World} {A:Option Addr} {xs:List α} {row:Option Nat} (h:Own enc k e B W A n c xs) (hg:W.grownBy W' row) (hne:∀ g,blockOf A=some g→some g≠row):Own enc k e B W' A n c xs:=
 own_same h fun g hgA=>by
  rcases h.block with h'|⟨g',cur,h',hg',_⟩
  · subst h';cases hgA
  · subst h'
    cases hgA
    exact hg.block g' (Array.getElem?_eq_some_iff.1 hg').1 (hne _ rfl)
theorem r1walk_any (pts:Int) (A:Option Addr) (n c:Nat) (bs:List Bound) (L:Option Addr) (m lc:Nat) (l:List Int) (w:World) (hl:Rd encBound 4 w A n c bs) (hL:Rd encInt 1 w L m lc l) (hmo:∀ b∈bs,-1000000≤b.most∧b.most≤1000000) (hm:m≤1000000) (_:n≤1000000):
 Calls Tryz.prog 119 #[.agg #[.int .i64 pts,.slice A n c],.slice L m lc] w fun e w'=>e = .returned (.tuple #[.int .i64 (walkV bs l).1,.bool (walkV bs l).2])∧Below w.heap.size w w':=by
 obtain ⟨w1,hw1,b1,z1,e1⟩:=alloc_facts w #[.int .i64 pts,.slice A n c] 73
 have HCE:Hid (∀ W,Below w1.heap.size w1 W→W.cell? ⟨w.heap.size,0,none⟩=some (.int .i64 pts)∧W.cell? ⟨w.heap.size,1,none⟩=some (.slice A n c)):=(show ∀ W,_→_ from fun W h=>by
  have hh:=(h.block w.heap.size (by omega)).trans e1
  simp [World.cell?,hh])
 have RB:Hid (∀ W,Below w1.heap.size w1 W→Rd encBound 4 W A n c bs):=(show ∀ W,_→_ from fun W h=>(hl.below b1 (Nat.le_refl _)).below h (Nat.le_refl _))
 have RL:Hid (∀ W,Below w1.heap.size w1 W→Rd encInt 1 W L m lc l):=(show ∀ W,_→_ from fun W h=>(hL.below b1 (Nat.le_refl _)).below h (Nat.le_refl _))
 have hll:=hL.len
 have hbl:=hl.len
 have HLL:=Lib.hid hll
 have HBL:=Lib.hid hbl
 have HNO:=Lib.hid (fun k (hk:k<m) (h:wkStep bs l k=false)=>walkV_no (bs:=bs) (l:=l) (by rw [hll];exact hk) h)
 have HYES:=Lib.hid (fun (h:∀ k,k<m→wkStep bs l k=true)=>walkV_yes (bs:=bs) (l:=l) (fun k hk=>h k (by rw [hll] at hk;exact hk)))
 have HMB:=Lib.hid (mostsL_bnd hmo)
 have HXM:Hid (∀ (i:Nat) (x:Bound),bs[i]? = some x→ -1000000≤x.most∧x.most≤1000000):=(show ∀ (i:Nat) (x:Bound),_→_ from fun i x h=>hmo x (List.mem_of_getElem? h))
 have HB1:=Lib.hid b1
 have HW1:=Lib.hid hw1
 obtain ⟨x0,x1⟩:=HCE.out w1 (Below.refl _ _)
 clear hl hL b1 hw1 e1 hmo hll hbl
 generalize walkV bs l=wv at *
 go_enter Tryz.func119,Tryz.ntmps119
 go_wp2_with (rw [HW1.out])
 go_loopw [6,7,8,9] (fun s6 s7 s8 s9 wr=> ∃ (k:Nat) (F T:Option Addr) (fc tc:Nat),k≤m∧s9 = .int .i64 k∧s6 = .int .i64 (mostsL bs (l.take k))∧s7 = .slice F k fc∧s8 = .slice T k tc∧Hid (Below w1.heap.size w1 wr)∧Hid (Own encInt 1 3 w1.heap.size wr F k fc (frL bs (l.take k)))∧Hid (Own encInt 1 3 w1.heap.size wr T k tc (toL bs (l.take k)))∧Hid (∀ g,blockOf F=some g→blockOf T≠some g)∧Hid (∀ j,j<k→wkStep bs l j=true)) (fun _ _ _ s9 _=>m-(intOf s9).toNat)
 case atStart=>exact ⟨0,none,none,0,0,Nat.zero_le _,rfl,rfl,rfl,rfl,(show Below _ _ _ from Below.refl _ _),(show Own _ _ _ _ _ _ _ _ _ from Own.none_ _ _ _ _ _),(show Own _ _ _ _ _ _ _ _ _ from Own.none_ _ _ _ _ _),(show ∀ g:Nat,_→_ from fun g h=>by cases h),(show ∀ j:Nat,_ from fun j h=>by omega)⟩
 case round=>
  obtain ⟨k,F,T,fc,tc,hk,rfl,rfl,rfl,rfl,hbr,hF,hT,hFT,hall⟩:=hrel
  have hzr:=hbr.out.size
  obtain ⟨y0,y1⟩:=HCE.out wr hbr.out
  by_cases hlt:k<m
  · obtain ⟨bq,off,v,rfl,hbq,hv,hcv⟩:=(RL.out wr hbr.out).one hlt
    have g1:wr.cell? ⟨bq,off+k,none⟩=some (.int .i64 v):=(by have:=hcv 0 _ rfl;simpa using this)
    have HV:=Lib.hid hv
    have hgd:l.getD k 0=v:=(by rw [List.getD_eq_getElem?_getD,hv];rfl)
    have HGD:=Lib.hid hgd
    clear hcv hv hgd
    by_cases hv0:v<0
    · have hz:=HNO.out k hlt (by unfold wkStep;rw [HGD.out,decide_eq_false (by omega)];rfl)
      subst hz
      have d0:decide (v<0)=true:=decide_eq_true hv0
      go_wp2_with (go_quiet (fail))
      go_ret2
      exact ⟨rfl,HB1.out.trans (by first|exact hbr.out.mono HB1.out.size|exact (hbr.out.mono HB1.out.size).drew|exact below_drewN' (hbr.out.mono HB1.out.size) _)⟩
    · by_cases hvn:v≥(n:Int)
      · have hz:=HNO.out k hlt (by unfold wkStep;rw [HGD.out,decide_eq_false (by have:=HBL.out;omega)];rfl)
        subst hz
        have d0:decide (v<0)=false:=decide_eq_false hv0
        have d1:decide (v≥(n:Int))=true:=decide_eq_true hvn
        go_wp2_with (go_quiet (fail))
        go_ret2
        exact ⟨rfl,HB1.out.trans (by first|exact hbr.out.mono HB1.out.size|exact (hbr.out.mono HB1.out.size).drew|exact below_drewN' (hbr.out.mono HB1.out.size) _)⟩
      · have d0:decide (v<0)=false:=decide_eq_false hv0
        have d1:decide (v≥(n:Int))=false:=decide_eq_false hvn
        obtain ⟨i,rfl⟩:∃ i:Nat,v=i:=⟨v.toNat,by omega⟩
        obtain ⟨bb,ob,x,rfl,hbb,hx,hcx⟩:=(RB.out wr hbr.out).one (show i<n by omega)
        have c0:wr.cell? ⟨bb,ob+i * 4,none⟩=some (.int .i64 x.src):=hcx 0 _ rfl
        have c1:wr.cell? ⟨bb,ob+i * 4+1,none⟩=some (.int .i64 x.dst):=hcx 1 _ rfl
        have c2:wr.cell? ⟨bb,ob+i * 4+2,none⟩=some (.int .i64 x.most):=hcx 2 _ rfl
        have c3:wr.cell? ⟨bb,ob+i * 4+3,none⟩=some (.int .i64 x.by_):=hcx 3 _ rfl
        have HBX:Hid (bnd bs (i:Int)=x):=(show _=_ from by unfold bnd;rw [Int.toNat_natCast,List.getD_eq_getElem?_getD,hx];rfl)
        have hin:i<n:=(by omega)
        have HXI:=Lib.hid hx
        clear hcx hx hv0 hvn
        go_upto_region 9 with (go_quiet (fail))
        obtain ⟨wd,hwd⟩:∃ wd,wr.drewN nq=wd:=⟨_,rfl⟩
        rw [hwd]
        have CEL:∀ p,wd.cell? p=wr.cell? p:=(fun p=>by rw [←hwd];rfl)
        have hbd:Below wr.heap.size wr wd:=(by rw [←hwd];exact below_drewN' (Below.refl _ _) _)
        have e0:=(CEL _).trans c0
        have e1:=(CEL _).trans c1
        have e2:=(CEL _).trans c2
        have e3:=(CEL _).trans c3
        have eg:=(CEL _).trans g1
        have ey:=(CEL _).trans y1
        have ey0:=(CEL _).trans y0
        have hzd:=hbd.size
        have hbq':bq<wd.heap.size:=(by omega)
        have hbb':bb<wd.heap.size:=(by omega)
        have hwb':w.heap.size<wd.heap.size:=(by omega)
        clear c0 c1 c2 c3 g1 y1 y0 CEL
        go_region
        obtain ⟨w4,hw4⟩:∃ w4,(wd.alloc (.cells #[.int .i64 x.src,.int .i64 x.dst,.int .i64 x.most,.int .i64 x.by_] 56)).drew=w4:=⟨_,rfl⟩
        rw [hw4]
        have hb4:Below wd.heap.size wd w4:=(by rw [←hw4];exact ((Below.refl _ wd).alloc (Nat.le_refl _) _).drew)
        have hx4:w4.heap[wd.heap.size]? = some (.cells #[.int .i64 x.src,.int .i64 x.dst,.int .i64 x.most,.int .i64 x.by_] 56 (0,0)):=(by rw [←hw4];exact heap_alloc_new wd _)
        have hl4:wd.heap.size<w4.heap.size:=(Array.getElem?_eq_some_iff.1 hx4).1
        have hb14:=hbr.out.trans ((hbd.trans (hb4.mono hbd.size)).mono hbr.out.size)
        have HB4:Hid (∀ W,Below w4.heap.size w4 W→W.cell? ⟨wd.heap.size,0,none⟩=some (.int .i64 x.src)∧W.cell? ⟨wd.heap.size,1,none⟩=some (.int .i64 x.dst)∧W.cell? ⟨wd.heap.size,2,none⟩=some (.int .i64 x.most)∧W.cell? ⟨wd.heap.size,3,none⟩=some (.int .i64 x.by_)):=(show ∀ W,_→_ from fun W hW=>by
         have hh:=(hW.block wd.heap.size hl4).trans hx4
         simp [World.cell?,hh])
        obtain ⟨o0,o1,o2,o3⟩:=HB4.out w4 (Below.refl _ _)
        have hF4:=(hF.out.below hbd (Nat.le_refl _)).below hb4 (Nat.le_refl _)
        have hT4:=(hT.out.below hbd (Nat.le_refl _)).below hb4 (Nat.le_refl _)
        have HNF:Hid (some wd.heap.size≠blockOf F):=(show _≠_ from (hF.out.below hbd (Nat.le_refl _)).not_in (Nat.le_refl _))
        have HNT:Hid (some wd.heap.size≠blockOf T):=(show _≠_ from (hT.out.below hbd (Nat.le_refl _)).not_in (Nat.le_refl _))
        have HH1:=Lib.hid (r1has_any F k fc (frL bs (l.take k)) x.src w4 (hF4.rd (fun _=>rfl) (by omega)))
        have HH2:Hid (∀ W,Below w4.heap.size w4 W→Calls Tryz.prog 148 #[.slice T k tc,.int .i64 x.dst] W fun e w'=>e = .returned (.bool (decide (x.dst∈toL bs (l.take k))))∧Below W.heap.size W w'):=(show ∀ W,_→_ from fun W hW=>r1has_any T k tc (toL bs (l.take k)) x.dst W ((hT4.below hW (Nat.le_refl _)).rd (fun _=>rfl) (by omega)))
        have hxm: -1000000≤x.most∧x.most≤1000000:=(by
         exact HXM.out i x HXI.out)
        have HM1:Hid (mostsL bs (l.take (k+1))=mostsL bs (l.take k)+x.most):=(show _=_ from by rw [mostsL_succ HV.out,HBX.out])
        have HF1:Hid (frL bs (l.take (k+1))=frL bs (l.take k) ++ [x.src]):=(show _=_ from by rw [frL_succ HV.out,HBX.out])
        have HT1:Hid (toL bs (l.take (k+1))=toL bs (l.take k) ++ [x.dst]):=(show _=_ from by rw [toL_succ HV.out,HBX.out])
        have HST:Hid (wkStep bs l k=(!decide (x.src∈frL bs (l.take k))&&(!decide (x.dst∈toL bs (l.take k))&&(decide (k=0)||decide ((toL bs (l.take k)).getD (k-1) 0=x.src))))):=(show _=_ from by
         unfold wkStep
         rw [HGD.out,HBX.out,decide_eq_true (by have:=HBL.out;omega:0≤(i:Int)∧(i:Int)<bs.length),Bool.true_and])
        have HB14:=Lib.hid hb14
        have HF4:=Lib.hid hF4
        have HT4:=Lib.hid hT4
        have HX4:=Lib.hid hx4
        have HL4:=Lib.hid hl4
        have HFT:=Lib.hid hFT.out
        obtain ⟨p1',hp1'⟩:∃ b,decide (x.src∈frL bs (l.take k))=b:=⟨_,rfl⟩
        obtain ⟨p2',hp2'⟩:∃ b,decide (x.dst∈toL bs (l.take k))=b:=⟨_,rfl⟩
        rw [hp1'] at HH1 HST
        rw [hp2'] at HH2 HST
        clear hw4 hb4 hx4 hl4 hb14 hF4 hT4 hF hT hbr hFT e0 e1 e2 e3 eg ey ey0 hwd hbd hp1' hp2'
        go_upto_region 12 with (first
         | (go_at_call 148;(with_reducible refine (HH1.out).mono ?_);rintro e w5 ⟨rfl,hb5⟩
            have HB5:=Lib.hid hb5
            obtain ⟨n0,n1,n2,n3⟩:=HB4.out w5 hb5
            clear hb5)
         | (go_at_call 148;(with_reducible refine (HH2.out w5 HB5.out).mono ?_);rintro e w6 ⟨rfl,hb6⟩
            have HB6:=Lib.hid (HB5.out.trans (hb6.mono HB5.out.size))
            obtain ⟨m0,m1,m2,m3⟩:=HB4.out w6 HB6.out
            clear hb6))
        have HZ6:=Lib.hid (HB14.out.trans (HB6.out.mono HB14.out.size))
        have HF6:=Lib.hid (HF4.out.below HB6.out (Nat.le_refl _))
        have HT6:=Lib.hid (HT4.out.below HB6.out (Nat.le_refl _))
        have HX6:=Lib.hid ((HB6.out.block wd.heap.size HL4.out).trans HX4.out)
        have HLT:Hid (wd.heap.size<w6.heap.size):=(show _<_ from by have:=HL4.out;have:=HB6.out.size;omega)
        cases p1' with
        | true=>
          have hz:=HNO.out k hlt (by rw [HST.out];rfl)
          subst hz
          go_wp2_with (go_quiet (fail))
          go_ret2
          exact ⟨rfl,HB1.out.trans (Below.mono (by first|exact HZ6.out|exact HZ6.out.drew|exact below_drewN' HZ6.out _) HB1.out.size)⟩
        | false=>
          cases p2' with
          | true=>
            have hz:=HNO.out k hlt (by rw [HST.out];rfl)
            subst hz
            go_wp2_with (go_quiet (fail))
            go_ret2
            exact ⟨rfl,HB1.out.trans (Below.mono (by first|exact HZ6.out|exact HZ6.out.drew|exact below_drewN' HZ6.out _) HB1.out.size)⟩
          | false=>
            by_cases hk0:k=0
            · have HOKK:Hid (wkStep bs l k=true):=(show _=_ from by rw [HST.out,decide_eq_true hk0];rfl)
              have d2:decide ((k:Int)>0)=false:=decide_eq_false (by omega)
              have d2':decide (0<k)=false:=decide_eq_false (by omega)
              have d2'':¬0<k:=(by omega)
              clear hk0
              go_quiet (fail)
              go_upto_region 14 with (fail)
              obtain ⟨w7,hw7⟩:∃ w7,w6.drewN nq=w7:=⟨_,rfl⟩
              rw [hw7]
              have hb67:Below w6.heap.size w6 w7:=(by rw [←hw7];exact below_drewN' (Below.refl _ _) _)
              have HB7:=Lib.hid (HZ6.out.trans (hb67.mono HZ6.out.size))
              have HB47:=Lib.hid (HB6.out.trans (hb67.mono HB6.out.size))
              obtain ⟨p0,p1,p2,p3⟩:=HB4.out w7 HB47.out
              have HF7:=Lib.hid ((HF6.out.below hb67 (Nat.le_refl _)))
              have HT7:=Lib.hid ((HT6.out.below hb67 (Nat.le_refl _)))
              have HX7:=Lib.hid ((hb67.block wd.heap.size HLT.out).trans HX6.out)
              have HS67:Hid (w6.heap.size≤w7.heap.size):=(show _≤_ from hb67.size)
              clear hw7 hb67
              have hsz7:=HB7.out.size
              have hlt7:wd.heap.size<w7.heap.size:=(by have:=HLT.out;have:=HS67.out;omega)
              have hwv:IntKind.i64.wrap (mostsL bs (l.take k)+x.most)=mostsL bs (l.take k)+x.most:=(by
               have h1:=HMB.out (l.take (k+1))
               rw [HM1.out,List.length_take] at h1
               rw [IntKind.wrap_i64]
               omega)
              go_wp2_with (first
               | (at_builtin
                  have hown:Own encInt 1 3 w1.heap.size (w7.alloc (.cells #[.int .i64 x.src] 3)) F k fc (frL bs (l.take k)):=HF7.out.alloc _
                  have hrd:=Rd.single (enc:=encInt) (k:=1) w7 #[.int .i64 x.src] 3 [x.src] 1 rfl (by omega) (fun _=>rfl) (by simp [encInt])
                  refine wpList_append_src elInt (fun _=>rfl) oneInt rfl _ _ rfl _ _ _ _ rfl rfl hown hrd (by omega) (by decide) (by simp;omega) ?_
                  intro F2 fc2 w8 hF8 hg8 hA8
                  have hT7a:=HT7.out.alloc (.cells #[.int .i64 x.src] 3)
                  have hT8:=hT7a.grown_other hg8 (fun g h e=>HFT.out g e.symm h)
                  have hb8:=(HB7.out.alloc hsz7 (.cells #[.int .i64 x.src] 3)).grown hg8 (by simp;omega) (fun j e=>hown.ltB j e)
                  have hx8:=(hg8.block wd.heap.size (by simp;omega) HNF.out).trans ((Below.heap_alloc _ _ _ hlt7).trans HX7.out)
                  obtain ⟨q0,q1,q2,q3⟩:w8.cell? ⟨wd.heap.size,0,none⟩=some (.int .i64 x.src)∧w8.cell? ⟨wd.heap.size,1,none⟩=some (.int .i64 x.dst)∧w8.cell? ⟨wd.heap.size,2,none⟩=some (.int .i64 x.most)∧w8.cell? ⟨wd.heap.size,3,none⟩=some (.int .i64 x.by_):=(by simp [World.cell?,hx8])
                  have HFT8:Hid (∀ g,blockOf F2=some g→blockOf T≠some g):=(show ∀ g,_→_ from fun g h1 h2=>by
                   rcases hA8 with h|h
                   · exact HFT.out g (h.symm.trans h1) h2
                   · rw [h] at h1
                     cases h1
                     exact hT7a.not_in (Nat.le_refl _) h2.symm)
                  have HF8:=Lib.hid hF8
                  have HT8:=Lib.hid hT8
                  have HB8:=Lib.hid hb8
                  have HX8:=Lib.hid hx8
                  have hsz8:=hb8.size
                  have hlt8:wd.heap.size<w8.heap.size:=(Array.getElem?_eq_some_iff.1 hx8).1
                  clear hown hrd hF8 hg8 hA8 hT7a hT8 hb8 hx8)
               | (at_builtin
                  have hown:Own encInt 1 3 w1.heap.size (w8.alloc (.cells #[.int .i64 x.dst] 3)) T k tc (toL bs (l.take k)):=HT8.out.alloc _
                  have hrd:=Rd.single (enc:=encInt) (k:=1) w8 #[.int .i64 x.dst] 3 [x.dst] 1 rfl (by omega) (fun _=>rfl) (by simp [encInt])
                  refine wpList_append_src elInt (fun _=>rfl) oneInt rfl _ _ rfl _ _ _ _ rfl rfl hown hrd (by omega) (by decide) (by simp;omega) ?_
                  intro T2 tc2 w9 hT9 hg9 hA9
                  have hF8a:=HF8.out.alloc (.cells #[.int .i64 x.dst] 3)
                  have hF9:=hF8a.grown_other hg9 (fun g h e=>HFT8.out g h e.symm)
                  have hb9:=(HB8.out.alloc hsz8 (.cells #[.int .i64 x.dst] 3)).grown hg9 (by simp;omega) (fun j e=>hown.ltB j e)
                  have hx9:=(hg9.block wd.heap.size (by simp;omega) HNT.out).trans ((Below.heap_alloc _ _ _ hlt8).trans HX8.out)
                  obtain ⟨r0,r1,r2,r3⟩:w9.cell? ⟨wd.heap.size,0,none⟩=some (.int .i64 x.src)∧w9.cell? ⟨wd.heap.size,1,none⟩=some (.int .i64 x.dst)∧w9.cell? ⟨wd.heap.size,2,none⟩=some (.int .i64 x.most)∧w9.cell? ⟨wd.heap.size,3,none⟩=some (.int .i64 x.by_):=(by simp [World.cell?,hx9])
                  have HFT9:Hid (∀ g,blockOf F2=some g→blockOf T2≠some g):=(show ∀ g,_→_ from fun g h1 h2=>by
                   rcases hA9 with h|h
                   · exact HFT8.out g h1 (h.symm.trans h2)
                   · rw [h] at h2
                     cases h2
                     exact hF8a.not_in (Nat.le_refl _) h1.symm)
                  have HF9:=Lib.hid hF9
                  have HT9:=Lib.hid hT9
                  have HB9:=Lib.hid hb9
                  have hlt9:wd.heap.size<w9.heap.size:=(Array.getElem?_eq_some_iff.1 hx9).1
                  clear hown hrd hT9 hg9 hA9 hF8a hF9 hb9 hx9))
              go_roundw
              all_goals first
               | (simp [intOf];omega)
               | exact ⟨k+1,F2,T2,fc2,tc2,by omega,by go_num,by rw [HM1.out],rfl,rfl,HB9.out,(show Own _ _ _ _ _ _ _ _ _ from by rw [HF1.out];exact HF9.out),(show Own _ _ _ _ _ _ _ _ _ from by rw [HT1.out];exact HT9.out),HFT9.out,(show ∀ j:Nat,_→_ from fun j hj=>by
                  rcases Nat.lt_or_ge j k with h|h
                  · exact hall.out j h
                  · have:j=k:=by omega
                    subst this
                    exact HOKK.out)⟩
            · have d2:decide ((k:Int)>0)=true:=decide_eq_true (by omega)
              have d2':decide (0<k)=true:=decide_eq_true (by omega)
              have d2'':0<k:=(by omega)
              obtain ⟨bT,oT,yT,rfl,hbT,hyT,hcT⟩:=(HT6.out.rd (fun _=>rfl) (by omega)).one (show k-1<k by omega)
              have t1:w6.cell? ⟨bT,oT+(k-1),none⟩=some (.int .i64 yT):=(by have:=hcT 0 _ rfl;simpa using this)
              have t2:w6.cell? ⟨bT,oT+((k:Int)-1).toNat,none⟩=some (.int .i64 yT):=(by rw [show ((k:Int)-1).toNat=k-1 from by omega];exact t1)
              have hgT:(toL bs (l.take k)).getD (k-1) 0=yT:=(by rw [List.getD_eq_getElem?_getD,hyT];rfl)
              have v1:IntKind.i64.wrap ((k:Int)-1)=(k:Int)-1:=(by rw [IntKind.wrap_i64];omega)
              have j1:0≤(k:Int)-1:=(by omega)
              have j2:(k:Int)-1<k:=(by omega)
              rw [hgT,decide_eq_false hk0] at HST
              clear hcT hyT hgT
              by_cases hq:yT=x.src
              · have HOKK:Hid (wkStep bs l k=true):=(show _=_ from by rw [HST.out,decide_eq_true hq];rfl)
                have d3:(yT != x.src)=false:=(by simpa using hq)
                go_quiet (fail)
                go_upto_region 14 with (fail)
                obtain ⟨w7,hw7⟩:∃ w7,w6.drewN nq=w7:=⟨_,rfl⟩
                rw [hw7]
                have hb67:Below w6.heap.size w6 w7:=(by rw [←hw7];exact below_drewN' (Below.refl _ _) _)
                have HB7:=Lib.hid (HZ6.out.trans (hb67.mono HZ6.out.size))
                have HB47:=Lib.hid (HB6.out.trans (hb67.mono HB6.out.size))
                obtain ⟨p0,p1,p2,p3⟩:=HB4.out w7 HB47.out
                have HF7:=Lib.hid ((HF6.out.below hb67 (Nat.le_refl _)))
                have HT7:=Lib.hid ((HT6.out.below hb67 (Nat.le_refl _)))
                have HX7:=Lib.hid ((hb67.block wd.heap.size HLT.out).trans HX6.out)
                have HS67:Hid (w6.heap.size≤w7.heap.size):=(show _≤_ from hb67.size)
                clear hw7 hb67
                have hsz7:=HB7.out.size
                have hlt7:wd.heap.size<w7.heap.size:=(by have:=HLT.out;have:=HS67.out;omega)
                have hwv:IntKind.i64.wrap (mostsL bs (l.take k)+x.most)=mostsL bs (l.take k)+x.most:=(by
                 have h1:=HMB.out (l.take (k+1))
                 rw [HM1.out,List.length_take] at h1
                 rw [IntKind.wrap_i64]
                 omega)
                go_wp2_with (first
                 | (at_builtin
                    have hown:Own encInt 1 3 w1.heap.size (w7.alloc (.cells #[.int .i64 x.src] 3)) F k fc (frL bs (l.take k)):=HF7.out.alloc _
                    have hrd:=Rd.single (enc:=encInt) (k:=1) w7 #[.int .i64 x.src] 3 [x.src] 1 rfl (by omega) (fun _=>rfl) (by simp [encInt])
                    refine wpList_append_src elInt (fun _=>rfl) oneInt rfl _ _ rfl _ _ _ _ rfl rfl hown hrd (by omega) (by decide) (by simp;omega) ?_
                    intro F2 fc2 w8 hF8 hg8 hA8
                    have hT7a:=HT7.out.alloc (.cells #[.int .i64 x.src] 3)
                    have hT8:=hT7a.grown_other hg8 (fun g h e=>HFT.out g e.symm h)
                    have hb8:=(HB7.out.alloc hsz7 (.cells #[.int .i64 x.src] 3)).grown hg8 (by simp;omega) (fun j e=>hown.ltB j e)
                    have hx8:=(hg8.block wd.heap.size (by simp;omega) HNF.out).trans ((Below.heap_alloc _ _ _ hlt7).trans HX7.out)
                    obtain ⟨q0,q1,q2,q3⟩:w8.cell? ⟨wd.heap.size,0,none⟩=some (.int .i64 x.src)∧w8.cell? ⟨wd.heap.size,1,none⟩=some (.int .i64 x.dst)∧w8.cell? ⟨wd.heap.size,2,none⟩=some (.int .i64 x.most)∧w8.cell? ⟨wd.heap.size,3,none⟩=some (.int .i64 x.by_):=(by simp [World.cell?,hx8])
                    have HFT8:Hid (∀ g,blockOf F2=some g→blockOf (some ⟨bT,oT,none⟩)≠some g):=(show ∀ g,_→_ from fun g h1 h2=>by
                     rcases hA8 with h|h
                     · exact HFT.out g (h.symm.trans h1) h2
                     · rw [h] at h1
                       cases h1
                       exact hT7a.not_in (Nat.le_refl _) h2.symm)
                    have HF8:=Lib.hid hF8
                    have HT8:=Lib.hid hT8
                    have HB8:=Lib.hid hb8
                    have HX8:=Lib.hid hx8
                    have hsz8:=hb8.size
                    have hlt8:wd.heap.size<w8.heap.size:=(Array.getElem?_eq_some_iff.1 hx8).1
                    clear hown hrd hF8 hg8 hA8 hT7a hT8 hb8 hx8)
                 | (at_builtin
                    have hown:Own encInt 1 3 w1.heap.size (w8.alloc (.cells #[.int .i64 x.dst] 3)) (some ⟨bT,oT,none⟩) k tc (toL bs (l.take k)):=HT8.out.alloc _
                    have hrd:=Rd.single (enc:=encInt) (k:=1) w8 #[.int .i64 x.dst] 3 [x.dst] 1 rfl (by omega) (fun _=>rfl) (by simp [encInt])
                    refine wpList_append_src elInt (fun _=>rfl) oneInt rfl _ _ rfl _ _ _ _ rfl rfl hown hrd (by omega) (by decide) (by simp;omega) ?_
                    intro T2 tc2 w9 hT9 hg9 hA9
                    have hF8a:=HF8.out.alloc (.cells #[.int .i64 x.dst] 3)
                    have hF9:=hF8a.grown_other hg9 (fun g h e=>HFT8.out g h e.symm)
                    have hb9:=(HB8.out.alloc hsz8 (.cells #[.int .i64 x.dst] 3)).grown hg9 (by simp;omega) (fun j e=>hown.ltB j e)
                    have hx9:=(hg9.block wd.heap.size (by simp;omega) HNT.out).trans ((Below.heap_alloc _ _ _ hlt8).trans HX8.out)
                    obtain ⟨r0,r1,r2,r3⟩:w9.cell? ⟨wd.heap.size,0,none⟩=some (.int .i64 x.src)∧w9.cell? ⟨wd.heap.size,1,none⟩=some (.int .i64 x.dst)∧w9.cell? ⟨wd.heap.size,2,none⟩=some (.int .i64 x.most)∧w9.cell? ⟨wd.heap.size,3,none⟩=some (.int .i64 x.by_):=(by simp [World.cell?,hx9])
                    have HFT9:Hid (∀ g,blockOf F2=some g→blockOf T2≠some g):=(show ∀ g,_→_ from fun g h1 h2=>by
                     rcases hA9 with h|h
                     · exact HFT8.out g h1 (h.symm.trans h2)
                     · rw [h] at h2
                       cases h2
                       exact hF8a.not_in (Nat.le_refl _) h1.symm)
                    have HF9:=Lib.hid hF9
                    have HT9:=Lib.hid hT9
                    have HB9:=Lib.hid hb9
                    have hlt9:wd.heap.size<w9.heap.size:=(Array.getElem?_eq_some_iff.1 hx9).1
                    clear hown hrd hT9 hg9 hA9 hF8a hF9 hb9 hx9))
                go_roundw
                all_goals first
                 | (simp [intOf];omega)
                 | exact ⟨k+1,F2,T2,fc2,tc2,by omega,by go_num,by rw [HM1.out],rfl,rfl,HB9.out,(show Own _ _ _ _ _ _ _ _ _ from by rw [HF1.out];exact HF9.out),(show Own _ _ _ _ _ _ _ _ _ from by rw [HT1.out];exact HT9.out),HFT9.out,(show ∀ j:Nat,_→_ from fun j hj=>by
                    rcases Nat.lt_or_ge j k with h|h
                    · exact hall.out j h
                    · have:j=k:=by omega
                      subst this
                      exact HOKK.out)⟩
              · have hz:=HNO.out k hlt (by rw [HST.out,decide_eq_false hq];rfl)
                subst hz
                have d3:(yT != x.src)=true:=(by simpa using hq)
                go_wp2_with (go_quiet (fail))
                go_ret2
                exact ⟨rfl,HB1.out.trans (Below.mono (by first|exact HZ6.out|exact HZ6.out.drew|exact below_drewN' HZ6.out _) HB1.out.size)⟩
  · have hkm:k=m:=by omega
    subst hkm
    have hz:=HYES.out hall.out
    subst hz
    rw [List.take_of_length_le (by rw [HLL.out];exact Nat.le_refl _)]
    go_wp2
    go_ret2
    exact ⟨rfl,HB1.out.trans (hbr.out.mono HB1.out.size)⟩
end Go.Proofs.YtccabpahfmoamaaGreat
end
section
namespace Go.Proofs.YtccabpahfmoamaaGreat
theorem bnd_mem {bs:List Bound} {i:Int} (h:0≤i∧i<bs.length):bnd bs i∈bs:=by
 unfold bnd
 rw [List.getD_eq_getElem?_getD,List.getElem?_eq_getElem (by omega)]
 exact List.getElem_mem _
def ptAt (bs:List Bound) (l:List Int) (a:Int) (k:Nat):Int:=if k=0 then a else (bnd bs (l.getD (k-1) 0)).dst
structure WkInv (bs:List Bound) (l:List Int) (a:Int) (k:Nat) (st:AlSt):Prop where
 sum:st.sum=mostsL bs (l.take k)
 pt:st.pt=ptAt bs l a k
 l1:st.frm.length=60
 l2:st.tos.length=60
 f:∀ v:Int,0≤v→v<60→(st.frm.getD v.toNat false=true↔v∈frL bs (l.take k))
 t:∀ v:Int,0≤v→v<60→(st.tos.getD v.toNat false=true↔v∈toL bs (l.take k))
theorem not_true_iff {b:Bool} {p:Prop} (h:b=true↔p):b=false ↔ ¬p:=by
 rw [←h]
 cases b<;>simp
theorem toL_last {bs:List Bound} {l:List Int} {k:Nat} (hk:k≤l.length) (h0:¬k=0):(toL bs (l.take k)).getD (k-1) 0=(bnd bs (l.getD (k-1) 0)).dst:=by
 unfold toL
 have e:l[k-1]? = some l[k-1]:=List.getElem?_eq_getElem (by omega)
 rw [List.getD_eq_getElem?_getD,List.getElem?_map,List.getElem?_take,if_pos (by omega),List.getD_eq_getElem?_getD,e]
 rfl
theorem along_walk {bs:List Bound} (hb0:∀ b∈bs,0≤b.src∧b.src<60∧0≤b.dst∧b.dst<60) {l:List Int} {a:Int} (ha:a=(bnd bs (l.getD 0 0)).src):∀ k,k≤l.length→
 (alongTo bs l a k=none∧∃ j,j<k∧wkStep bs l j=false)∨∃ st,alongTo bs l a k=some st∧(∀ j,j<k→wkStep bs l j=true)∧WkInv bs l a k st
 | 0,_=> .inr ⟨_,rfl,fun j h=>by omega,⟨rfl,rfl,by simp,by simp,fun v _ _=>by simp only;rw [rep60];simp [frL],fun v _ _=>by simp only;rw [rep60];simp [toL]⟩⟩
 | k+1,hk=>by
   have hl:l[k]? = some l[k]:=List.getElem?_eq_getElem (by omega)
   have hgd:l.getD k 0=l[k]:=by rw [List.getD_eq_getElem?_getD,hl];rfl
   rw [alongTo,hl]
   simp only
   rcases along_walk hb0 ha k (by omega) with ⟨h1,j,h2,h3⟩|⟨st,h1,h2,h3⟩
   · left
     rw [h1]
     exact ⟨rfl,j,by omega,h3⟩
   · rw [h1]
     simp only [Option.bind_some]
     generalize hi:l[k]=i at *
     have hlast:(decide (k=0)||decide ((toL bs (l.take k)).getD (k-1) 0=(bnd bs i).src))=decide ((bnd bs i).src=st.pt):=by
      rw [h3.pt]
      unfold ptAt
      by_cases h0:k=0
      · subst h0
        rw [if_pos rfl,ha,hgd]
        simp
      · rw [if_neg h0,decide_eq_false h0,Bool.false_or,toL_last (by omega) h0]
        exact decide_eq_decide.2 ⟨Eq.symm,Eq.symm⟩
     have hst:wkStep bs l k=(decide (0≤i∧i<bs.length)&&(!decide ((bnd bs i).src∈frL bs (l.take k))&&(!decide ((bnd bs i).dst∈toL bs (l.take k))&&decide ((bnd bs i).src=st.pt)))):=by
      unfold wkStep
      rw [hgd,hlast]
     have hiff:wkStep bs l k=true↔((0≤i∧i<bs.length)∧(bnd bs i).src=st.pt∧st.frm.getD (bnd bs i).src.toNat false=false∧st.tos.getD (bnd bs i).dst.toNat false=false):=by
      rw [hst]
      simp only [Bool.and_eq_true,decide_eq_true_eq,Bool.not_eq_true',decide_eq_false_iff_not]
      constructor
      · rintro ⟨c0,c1,c2,c3⟩
        have hm:=hb0 _ (bnd_mem c0)
        exact ⟨c0,c3,(not_true_iff (h3.f _ hm.1 hm.2.1)).2 c1,(not_true_iff (h3.t _ hm.2.2.1 hm.2.2.2)).2 c2⟩
      · rintro ⟨c0,c3,c1,c2⟩
        have hm:=hb0 _ (bnd_mem c0)
        exact ⟨c0,(not_true_iff (h3.f _ hm.1 hm.2.1)).1 c1,(not_true_iff (h3.t _ hm.2.2.1 hm.2.2.2)).1 c2,c3⟩
     unfold alongStep
     split
     · rename_i hc
       right
       have hm:=hb0 _ (bnd_mem hc.1)
       refine ⟨_,rfl,fun j hj=> ?_,⟨?_,?_,by simp [h3.l1],by simp [h3.l2],fun v v0 v1=> ?_,fun v v0 v1=> ?_⟩⟩
       · rcases Nat.lt_or_ge j k with h|h
         · exact h2 j h
         · have:j=k:=by omega
           subst this
           exact hiff.2 hc
       · rw [mostsL_succ hl,h3.sum]
       · simp only [ptAt]
         rw [if_neg (by omega),Nat.add_sub_cancel,hgd]
       · simp only
         rw [set_getD (by rw [h3.l1];omega),frL_succ hl,List.mem_append,List.mem_singleton]
         by_cases e:(bnd bs i).src.toNat=v.toNat
         · have:(bnd bs i).src=v:=by omega
           simp [this]
         · rw [if_neg e,h3.f v v0 v1]
           exact ⟨.inl,fun h=>h.elim id fun h=>absurd (by rw [h]) e⟩
       · simp only
         rw [set_getD (by rw [h3.l2];omega),toL_succ hl,List.mem_append,List.mem_singleton]
         by_cases e:(bnd bs i).dst.toNat=v.toNat
         · have:(bnd bs i).dst=v:=by omega
           simp [this]
         · rw [if_neg e,h3.t v v0 v1]
           exact ⟨.inl,fun h=>h.elim id fun h=>absurd (by rw [h]) e⟩
     · rename_i hc
       left
       exact ⟨rfl,k,by omega,by rw [←Bool.not_eq_true];exact fun h=>hc (hiff.1 h)⟩
def r1circ (bs:List Bound) (l:List Int):Bool:=walkB bs l&&(decide (2≤l.length)&&(decide (mostsL bs l<0)&&decide ((bnd bs (l.getD 0 0)).src=(bnd bs (l.getD (l.length-1) 0)).dst)))
theorem circle_same {bs:List Bound} (hb0:∀ b∈bs,0≤b.src∧b.src<60∧0≤b.dst∧b.dst<60) (l:List Int):r1circ bs l=circleB bs l:=by
 unfold r1circ circleB alongV
 rcases along_walk hb0 (l:=l) rfl l.length (Nat.le_refl _) with ⟨h1,j,hj,h2⟩|⟨st,h1,h2,h3⟩
 · have hw:walkB bs l=false:=by
    rw [←Bool.not_eq_true]
    intro hh
    unfold walkB at hh
    rw [List.all_eq_true] at hh
    rw [hh j (List.mem_range.2 hj)] at h2
    cases h2
   rw [hw,h1]
   simp
 · have hw:walkB bs l=true:=by
    unfold walkB
    rw [List.all_eq_true]
    exact fun k hk=>h2 k (List.mem_range.1 hk)
   rw [hw,h1,Bool.true_and]
   simp only
   by_cases hl:2≤l.length
   · have hp:=h3.pt
     unfold ptAt at hp
     rw [if_neg (by omega)] at hp
     have hs:=h3.sum
     rw [List.take_length] at hs
     have e1:decide (st.pt=(bnd bs (l.getD 0 0)).src)=decide ((bnd bs (l.getD 0 0)).src=(bnd bs (l.getD (l.length-1) 0)).dst):=decide_eq_decide.2 (by rw [hp];exact ⟨Eq.symm,Eq.symm⟩)
     have e2:decide (st.sum<0)=decide (mostsL bs l<0):=decide_eq_decide.2 (by rw [hs])
     rw [e1,e2,Bool.and_comm (decide (mostsL bs l<0))]
   · rw [decide_eq_false hl,Bool.false_and,Bool.false_and]
open Go.RowKit Go.Proofs Go.Shelf
def r1cV (pts:Int) (bs:List Bound) (l:List Int):Bool:=decide (checkSys pts bs=0)&&circleB bs l
theorem r1CheckCircle_any (pts:Int) (A:Option Addr) (n c:Nat) (bs:List Bound) (L:Option Addr) (m lc:Nat) (l:List Int) (w:World) (hl:Rd encBound 4 w A n c bs) (hL:Rd encInt 1 w L m lc l) (hm:m≤1000000):
 Calls Tryz.prog 73 #[.agg #[.int .i64 pts,.slice A n c],.slice L m lc] w fun e w'=>e = .returned (.tuple #[.bool (r1cV pts bs l),.int .i64 (checkSys pts bs)])∧Below w.heap.size w w':=by
 obtain ⟨w1,hw1,b1,z1,e1⟩:=alloc_facts w #[.int .i64 pts,.slice A n c] 73
 have RB:Hid (∀ W,Below w1.heap.size w1 W→Rd encBound 4 W A n c bs):=(show ∀ W,_→_ from fun W h=>(hl.below b1 (Nat.le_refl _)).below h (Nat.le_refl _))
 have RL:Hid (∀ W,Below w1.heap.size w1 W→Rd encInt 1 W L m lc l):=(show ∀ W,_→_ from fun W h=>(hL.below b1 (Nat.le_refl _)).below h (Nat.le_refl _))
 have HCE:Hid (∀ W,Below w1.heap.size w1 W→W.cell? ⟨w.heap.size,0,none⟩=some (.int .i64 pts)∧W.cell? ⟨w.heap.size,1,none⟩=some (.slice A n c)):=(show ∀ W,_→_ from fun W h=>by
  have hh:=(h.block w.heap.size (by omega)).trans e1
  simp [World.cell?,hh])
 have K1:Hid (∀ W,Below w1.heap.size w1 W→Calls Tryz.prog 91 #[.agg #[.int .i64 pts,.slice A n c]] W fun e w'=>e = .returned (.int .i64 (checkSys pts bs))∧Below W.heap.size W w'):=(show ∀ W,_→_ from fun W h=>r1Check_any pts A n c bs W (RB.out W h))
 have hll:=hL.len
 have hbl:=hl.len
 have HLL:=Lib.hid hll
 have HBL:=Lib.hid hbl
 have HB1:=Lib.hid b1
 have HW1:=Lib.hid hw1
 obtain ⟨x0,x1⟩:=HCE.out w1 (Below.refl _ _)
 have ZW:Hid (w.heap.size<w1.heap.size):=(show _<_ from by omega)
 clear hl hL b1 hw1 e1 z1
 by_cases h1:checkSys pts bs=0
 case neg=>
  have hv:r1cV pts bs l=false:=by unfold r1cV;rw [decide_eq_false h1,Bool.false_and]
  rw [hv]
  have h1':(checkSys pts bs != 0)=true:=by simpa using h1
  clear h1 hv hll hbl
  generalize checkSys pts bs=er at *
  go_enter Tryz.func73,Tryz.ntmps73
  go_wp2_with (first
   | rw [HW1.out]
   | (go_at_call 91;(with_reducible refine (K1.out _ (Below.refl _ _)).mono ?_);rintro e w2 ⟨rfl,hb2⟩;have HB2:=Lib.hid hb2;clear hb2))
  go_ret2
  exact ⟨rfl,HB1.out.trans (HB2.out.mono HB1.out.size)⟩
 case pos=>
  obtain ⟨s1,s2,s3,s4⟩:=checkSys_zero.1 h1
  have hsame:=circle_same (bs:=bs) (fun b hb=>by
   obtain ⟨q1,q2,q3,q4,_⟩:=wrongB_no.1 (s4 b hb)
   exact ⟨by omega,by omega,by omega,by omega⟩) l
  have hmo:∀ b∈bs,-1000000≤b.most∧b.most≤1000000:=fun b hb=>by
   obtain ⟨q1,q2,q3,q4,q5,q6,q7,_⟩:=wrongB_no.1 (s4 b hb)
   exact ⟨by omega,by omega⟩
  have hv:r1cV pts bs l=r1circ bs l:=by unfold r1cV;rw [decide_eq_true h1,Bool.true_and,hsame]
  rw [hv]
  have K2:Hid (∀ W,Below w1.heap.size w1 W→Calls Tryz.prog 119 #[.agg #[.int .i64 pts,.slice A n c],.slice L m lc] W fun e w'=>e = .returned (.tuple #[.int .i64 (walkV bs l).1,.bool (walkV bs l).2])∧Below W.heap.size W w'):=(show ∀ W,_→_ from fun W h=>r1walk_any pts A n c bs L m lc l W (RB.out W h) (RL.out W h) hmo hm (by omega))
  rw [h1] at K1 ⊢
  clear h1 hv hsame hmo s1 s2 s3 s4
  by_cases hwk:walkB bs l=true
  case neg=>
   have hr:r1circ bs l=false:=by unfold r1circ;rw [Bool.not_eq_true] at hwk;rw [hwk,Bool.false_and]
   have hv:walkV bs l=(0,false):=by unfold walkV;rw [if_neg hwk]
   rw [hr]
   rw [hv] at K2
   clear hr hv hwk hll hbl
   go_enter Tryz.func73,Tryz.ntmps73
   go_wp2_with (first
    | rw [HW1.out]
    | (go_at_call 91;(with_reducible refine (K1.out _ (Below.refl _ _)).mono ?_);rintro e w2 ⟨rfl,hb2⟩;obtain ⟨y0,y1⟩:=HCE.out w2 hb2;have HB2:=Lib.hid hb2;clear hb2)
    | (go_at_call 119;(with_reducible refine (K2.out _ HB2.out).mono ?_);rintro e w3 ⟨rfl,hb3⟩;have HB3:=Lib.hid (HB2.out.trans (hb3.mono HB2.out.size));clear hb3))
   go_ret2
   exact ⟨rfl,HB1.out.trans (HB3.out.mono HB1.out.size)⟩
  case pos=>
   have hv:walkV bs l=(mostsL bs l,true):=by unfold walkV;rw [if_pos hwk]
   rw [hv] at K2
   by_cases h2:2≤m
   case neg=>
    have hr:r1circ bs l=false:=by unfold r1circ;rw [decide_eq_false (by omega),Bool.false_and,Bool.and_false]
    rw [hr]
    have hlt:(m:Int)<2:=(by omega)
    clear hr hv hwk h2 hll hbl
    generalize mostsL bs l=ms at *
    go_enter Tryz.func73,Tryz.ntmps73
    go_wp2_with (first
     | rw [HW1.out]
     | (go_at_call 91;(with_reducible refine (K1.out _ (Below.refl _ _)).mono ?_);rintro e w2 ⟨rfl,hb2⟩;obtain ⟨y0,y1⟩:=HCE.out w2 hb2;have HB2:=Lib.hid hb2;clear hb2)
     | (go_at_call 119;(with_reducible refine (K2.out _ HB2.out).mono ?_);rintro e w3 ⟨rfl,hb3⟩;have HB3:=Lib.hid (HB2.out.trans (hb3.mono HB2.out.size));clear hb3))
    go_ret2
    exact ⟨rfl,HB1.out.trans (HB3.out.mono HB1.out.size)⟩
   case pos=>
    have hin:∀ k,k<m→0≤l.getD k 0∧l.getD k 0<bs.length:=fun k hk=>by
     unfold walkB at hwk
     rw [List.all_eq_true] at hwk
     have:=hwk k (List.mem_range.2 (by omega))
     unfold wkStep at this
     rw [Bool.and_eq_true,decide_eq_true_eq] at this
     exact this.1
    have hr:r1circ bs l=(decide (mostsL bs l<0)&&decide ((bnd bs (l.getD 0 0)).src=(bnd bs (l.getD (m-1) 0)).dst)):=by
     unfold r1circ
     rw [hwk,decide_eq_true (by omega:2≤l.length),Bool.true_and,Bool.true_and,hll]
    rw [hr]
    have q0:=hin 0 (by omega)
    have q1:=hin (m-1) (by omega)
    obtain ⟨i,hi⟩:∃ i:Nat,l.getD 0 0=(i:Int):=⟨(l.getD 0 0).toNat,by omega⟩
    obtain ⟨j,hj⟩:∃ j:Nat,l.getD (m-1) 0=(j:Int):=⟨(l.getD (m-1) 0).toNat,by omega⟩
    rw [hi] at q0 ⊢
    rw [hj] at q1 ⊢
    have hn1:i<n:=(by omega)
    have hn2:j<n:=(by omega)
    have hnlt:¬(m:Int)<2:=(by omega)
    have v1:IntKind.i64.wrap ((m:Int)-1)=(m:Int)-1:=(by rw [IntKind.wrap_i64];omega)
    have j1:0≤(m:Int)-1:=(by omega)
    have j2:(m:Int)-1<m:=(by omega)
    have j3:(0:Int)<m:=(by omega)
    have HI:=Lib.hid hi
    have HJ:=Lib.hid hj
    clear hr hv hwk h2 hin q0 q1 hi hj hll hbl
    generalize mostsL bs l=ms at *
    obtain ⟨s1,hs1⟩:∃ s,(bnd bs (i:Int)).src=s:=⟨_,rfl⟩
    obtain ⟨s2,hs2⟩:∃ s,(bnd bs (j:Int)).dst=s:=⟨_,rfl⟩
    rw [hs1,hs2]
    have HS1:=Lib.hid hs1
    have HS2:=Lib.hid hs2
    clear hs1 hs2
    obtain ⟨dn,hdn⟩:∃ d,decide (ms<0)=d:=⟨_,rfl⟩
    obtain ⟨de,hde⟩:∃ d,(s1==s2)=d:=⟨_,rfl⟩
    have HV:Hid ((decide (ms<0)&&decide (s1=s2))=(dn&&de)):=(show _=_ from by rw [hdn,←hde];rfl)
    rw [HV.out]
    clear HV
    go_enter Tryz.func73,Tryz.ntmps73
    go_upto_region 7 with (first
     | rw [HW1.out]
     | (go_at_call 91;(with_reducible refine (K1.out _ (Below.refl _ _)).mono ?_);rintro e w2 ⟨rfl,hb2⟩;obtain ⟨y0,y1⟩:=HCE.out w2 hb2;have HB2:=Lib.hid hb2;clear hb2)
     | (go_at_call 119;(with_reducible refine (K2.out _ HB2.out).mono ?_);rintro e w3 ⟨rfl,hb3⟩;have HB3:=Lib.hid (HB2.out.trans (hb3.mono HB2.out.size));clear hb3))
    obtain ⟨bq,off,u,rfl,hbq,hu,hcu⟩:=(RL.out w3 HB3.out).one (show 0<m by omega)
    obtain ⟨bq',off',u',e',_,hu',hcu'⟩:=(RL.out w3 HB3.out).one (show m-1<m by omega)
    cases e'
    obtain rfl:u=(i:Int):=(by have:=HI.out;rw [List.getD_eq_getElem?_getD,hu] at this;exact this)
    obtain rfl:u'=(j:Int):=(by have:=HJ.out;rw [List.getD_eq_getElem?_getD,hu'] at this;exact this)
    obtain ⟨bb,ob,x,rfl,hbb,hx,hcx⟩:=(RB.out w3 HB3.out).one hn1
    obtain ⟨bb',ob',x',e'',_,hx',hcx'⟩:=(RB.out w3 HB3.out).one hn2
    cases e''
    obtain rfl:x.src=s1:=(by have:=HS1.out;unfold bnd at this;rw [Int.toNat_natCast,List.getD_eq_getElem?_getD,hx] at this;exact this)
    obtain rfl:x'.dst=s2:=(by have:=HS2.out;unfold bnd at this;rw [Int.toNat_natCast,List.getD_eq_getElem?_getD,hx'] at this;exact this)
    have g0:w3.cell? ⟨bq,off,none⟩=some (.int .i64 (i:Int)):=(by have:=hcu 0 _ rfl;simpa using this)
    have g1:w3.cell? ⟨bq,off+(m-1),none⟩=some (.int .i64 (j:Int)):=(by have:=hcu' 0 _ rfl;simpa using this)
    have g2:w3.cell? ⟨bq,off+((m:Int)-1).toNat,none⟩=some (.int .i64 (j:Int)):=(by rw [show ((m:Int)-1).toNat=m-1 from by omega];exact g1)
    have c0:w3.cell? ⟨bb,ob+i * 4,none⟩=some (.int .i64 x.src):=hcx 0 _ rfl
    have c1:w3.cell? ⟨bb,ob+j * 4+1,none⟩=some (.int .i64 x'.dst):=hcx' 1 _ rfl
    obtain ⟨y0,y1⟩:=HCE.out w3 HB3.out
    have hzw:w.heap.size<w3.heap.size:=(by have:=ZW.out;have:=HB3.out.size;omega)
    clear hu hcu hu' hcu' hx hcx hx' hcx' x0 x1
    cases dn
    all_goals
     go_wp2_with (go_quiet (fail))
     go_ret2
     exact ⟨by first|rfl|simp,HB1.out.trans (Below.mono (by first|exact HB3.out|exact HB3.out.drew|exact below_drewN' HB3.out _) HB1.out.size)⟩
end Go.Proofs.YtccabpahfmoamaaGreat
end

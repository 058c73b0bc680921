/- Contracts that the laws lean on: Mee, Lng, ShrR. -/
import Derived.Test.YtpmkgmilfifkpaaGreatDoorDE22
set_option maxRecDepth 100000
set_option maxHeartbeats 8000000
section
namespace Go.Proofs.YtpmkgmilfifkpaaGreatDoor
open Go.RowKit Go.Proofs Go.Shelf
section
variable {F:Fence} {nn:Nat} {P:Program} {α:Type} {enc:α→List Value} {k bytes n c B:Nat} {t e:TypeId} {w:World} {A:Option Addr} {xs:List α}
theorem wpListIn_append_src {ops:Array Oper} {rest:List Oper} {o:Oper} {a:Act} {Q:Exit→Act→World→Prop} (E:ElemT P t e k bytes) (hk:∀ x,(enc x).length=k) (h1:∀ x,∀ u∈enc x,u.oneCell'=true) (hgd:o.guard=none) (s x:Operand)
 (ho:o.op = .call { callee:=.builtin .append,args:=#[s,x],argTypes:=#[t,t] }) (A2:Option Addr) (m c2:Nat) (ys:List α) (hs:a.eval s = .slice A n c) (hx:a.eval x = .slice A2 m c2)
 (hown:Own enc k e B w A n c xs) (hrd:Rd enc k w A2 m c2 ys) (hbytes:(n+m) * bytes≤140737488355328) (hb8:1≤bytes) (hbase:B≤w.heap.size)
 (h:∀ A' c' w',Own enc k e B w' A' (n+m) c' (xs++ys)→w.grownBy w' (blockOf A)→(blockOf A'=blockOf A∨blockOf A'=some w.heap.size)→wpListIn F nn P ops Q rest (a.put o.dst (.slice A' (n+m) c')) w'):wpListIn F nn P ops Q (o::rest) a w:=by
 refine wpListIn_plain hgd fun K hK'=> ?_
 obtain ⟨A',c',w',hrun,h2,h3,h4⟩:=run_append_src E o.type hk h1 hown A2 m c2 ys hrd hbytes hb8 hbase
 unfold Oper.wpIn
 refine ⟨?_,?_⟩
 · simp [Oper.about,ho,resolve,Target.leads,Sem.run_pure]
 · rw [Oper.semAt_plain F _ _ (by rw [ho];intro c hc';cases hc')]
   simp [execOp,ho,resolve,invoke,builtin,hs,hx,hrun,Result.andThen]
   exact hK' _ _ (h A' c' w' h2 h3 h4)
end
theorem cell_of_box' {W:World} {B:Nat} {v:Value} {t:TypeId} (h:W.heap[B]? = some (.cells #[v] t (0,0))):W.cell? ⟨B,0,none⟩=some v∧W.frozen? ⟨B,0,none⟩=false:=by
 constructor<;>simp [World.cell?,World.frozen?,h]
theorem heap_setCell_box' {W:World} {B:Nat} {v:Value} {t:TypeId} (v':Value) (h:W.heap[B]? = some (.cells #[v] t (0,0))):(W.setCell ⟨B,0,none⟩ v').heap[B]? = some (.cells #[v'] t (0,0)):=by
 obtain ⟨hlt,hk⟩:=Array.getElem?_eq_some_iff.1 h
 show (W.heap.modify B _)[B]? = _
 rw [Array.getElem?_eq_getElem (by rw [Array.size_modify];exact hlt),Array.getElem_modify_self,hk]
 rfl
section
variable {α:Type} {enc:α→List Value} {k n c B:Nat} {e:TypeId} {w W W':World} {A:Option Addr} {xs:List α}
theorem Own.ne' (h:Own enc k e B W A n c xs) {j:Nat} {o:Obj} (hj:W.heap[j]? = some o) (hno:∀ cur,o ≠ .cells cur e (0,0)):some j≠blockOf A:=by
 rcases h.ne hj hno with rfl|h
 · simp [blockOf]
 · exact fun e=>h e.symm
end
theorem pairings_any (A:Outl) (AwA:Option Addr) (Awn Awc:Nat) (AtA:Option Addr) (Atn Atc:Nat) (B:Outl) (BwA:Option Addr) (Bwn Bwc:Nat) (BtA:Option Addr) (Btn Btc:Nat) (s:Int) (w:World):
 Calls Tryz.prog 65 #[.agg #[.int .i64 A.n,.slice AwA Awn Awc,.slice AtA Atn Atc,.int .i64 B.n,.slice BwA Bwn Bwc,.slice BtA Btn Btc],.int .i64 s] w fun e w'=>e = .returned (.func (.func 98) #[] #[.pointer (some ⟨w.heap.size+1,0,none⟩),.pointer (some ⟨w.heap.size,0,none⟩)])∧
  w'=(w.alloc (.cells #[.int .i64 A.n,.slice AwA Awn Awc,.slice AtA Atn Atc,.int .i64 B.n,.slice BwA Bwn Bwc,.slice BtA Btn Btc] 75)).alloc (.cells #[.int .i64 s] 3):=by
 go_enter Tryz.func65,Tryz.ntmps65
 go_wp2
 go_ret
 exact ⟨rfl,rfl⟩
structure MeetAt (w:World) (oa:Array Value) (L:List Pairing) (W:World):Prop where
 out:∃ A c,W.heap[w.heap.size+1]? = some (.cells #[.slice A L.length c] 42 (0,0))∧Own encPairing 4 25 w.heap.size W A L.length c L
 o:W.heap[w.heap.size]? = some (.cells oa 75 (0,0))
 two:W.heap[w.heap.size+1+1]? = some (.cells oa 75 (0,0))
 sid:∃ v,W.heap[w.heap.size+1+1+1]? = some (.cells #[v] 3 (0,0))
 b:Below w.heap.size w W
 sz:w.heap.size+1+1+1+1≤W.heap.size
theorem MeetAt.alloc {w:World} {oa:Array Value} {L:List Pairing} {W:World} (h:MeetAt w oa L W) (o:Obj):MeetAt w oa L (W.alloc o):=by
 obtain ⟨⟨A,c,h1,h2⟩,h3,h6,⟨v,h7⟩,h4,h5⟩:=h
 exact ⟨⟨A,c,(Below.heap_alloc _ _ _ (by omega)).trans h1,h2.alloc _⟩,(Below.heap_alloc _ _ _ (by omega)).trans h3,(Below.heap_alloc _ _ _ (by omega)).trans h6,⟨v,(Below.heap_alloc _ _ _ (by omega)).trans h7⟩,h4.alloc h4.size _,by simp;omega⟩
theorem MeetAt.below {w:World} {oa:Array Value} {L:List Pairing} {W W':World} (h:MeetAt w oa L W) (hb:Below W.heap.size W W'):MeetAt w oa L W':=by
 obtain ⟨⟨A,c,h1,h2⟩,h3,h6,⟨v,h7⟩,h4,h5⟩:=h
 exact ⟨⟨A,c,(hb.block _ (by omega)).trans h1,h2.below hb (Nat.le_refl _)⟩,(hb.block _ (by omega)).trans h3,(hb.block _ (by omega)).trans h6,⟨v,(hb.block _ (by omega)).trans h7⟩,h4.trans (hb.mono h4.size),Nat.le_trans h5 hb.size⟩
theorem meet_own (w:World) (oa:Array Value) (B:Nat) (hB:w.heap.size≤B) {β:Type} (f:List β→List Pairing):OwnFrom B (fun pre W=>MeetAt w oa (f pre) W):=by
 rintro s W W' row ⟨⟨A,c,h1,h2⟩,h3,h6,⟨v,h7⟩,h4,h5⟩ hg hr
 have hne:∀ {j:Nat} {cs:Array Value} {t:TypeId} {fr:Nat×Nat},W.heap[j]? = some (.cells cs t fr)→some j≠row:=fun hj e=>by
  obtain ⟨_,o,ho,hc⟩:=hr _ e.symm
  rw [hj] at ho;cases ho;cases hc
 refine ⟨⟨A,c,(hg.block _ (Array.getElem?_eq_some_iff.1 h1).1 (hne h1)).trans h1,h2.kept hg ?_⟩,(hg.block _ (Array.getElem?_eq_some_iff.1 h3).1 (hne h3)).trans h3,(hg.block _ (Array.getElem?_eq_some_iff.1 h6).1 (hne h6)).trans h6,⟨v,(hg.block _ (Array.getElem?_eq_some_iff.1 h7).1 (hne h7)).trans h7⟩,h4.grown hg h4.size (fun k e=>Nat.le_trans hB (hr k e).1),Nat.le_trans h5 hg.size⟩
 rcases h2.block with h|⟨g,cur,rfl,hgb,_⟩
 · exact .inl h
 · exact .inr (hne hgb)
theorem keeps_of_below {B B':Nat} {W W':World} (h:Below B' W W') (hB:W.heap.size≤B'):KeepsFrom B W W':=⟨h.size,fun k o _ hk _=>(h.block k (by have:=(Array.getElem?_eq_some_iff.1 hk).1;omega)).trans hk⟩
attribute [local go_sem] Oper.semAt_some
theorem meeting_any (A:Outl) (AwA:Option Addr) (Awn Awc:Nat) (AtA:Option Addr) (Atn Atc:Nat) (B:Outl) (BwA:Option Addr) (Bwn Bwc:Nat) (BtA:Option Addr) (Btn Btc:Nat) (s:Int) (w:World) (Aw:Rd encBound 4 w AwA Awn Awc A.ways) (At:Rd encBound 4 w AtA Atn Atc A.turns) (Bw:Rd encBound 4 w BwA Bwn Bwc B.ways) (Bt:Rd encBound 4 w BtA Btn Btc B.turns) (hb:bothErr A B=0) (hr:roomErr A B=0) (hs:1≤s∧s≤16):
 Calls Tryz.prog 34 #[.agg #[.int .i64 A.n,.slice AwA Awn Awc,.slice AtA Atn Atc,.int .i64 B.n,.slice BwA Bwn Bwc,.slice BtA Btn Btc],.int .i64 s] w fun e w'=> ∃ A' c',e = .returned (.slice A' (meetL A B s).length c')∧Below w.heap.size w w'∧Own encPairing 4 25 w.heap.size w' A' (meetL A B s).length c' (meetL A B s):=by
 have hAn:0≤A.n∧A.n≤16:=by
  obtain ⟨h1,_⟩:=bothErr_zero.1 hb
  obtain ⟨n1,n2,_,_⟩:=checkOut_zero.1 h1
  omega
 have hBn:0≤B.n∧B.n≤16:=by
  obtain ⟨_,h1⟩:=bothErr_zero.1 hb
  obtain ⟨n1,n2,_,_⟩:=checkOut_zero.1 h1
  omega
 have KM:Hid (∀ (x:PairIn A.n B.n s) W,Below w.heap.size w W→Calls Tryz.prog 29 #[.agg #[.int .i64 A.n,.slice AwA Awn Awc,.slice AtA Atn Atc,.int .i64 B.n,.slice BwA Bwn Bwc,.slice BtA Btn Btc,.int .i64 x.1.a.lo,.int .i64 x.1.a.hi,.int .i64 x.1.b.lo,.int .i64 x.1.b.hi]] W fun e w'=>e = .returned (.bool (meetsV A B x.1))∧Below W.heap.size W w'):=(show ∀ x W,_→_ from fun x W h=>
  pmeets_any A AwA Awn Awc AtA Atn Atc B BwA Bwn Bwc BtA Btn Btc x.1 W (Aw.below h (Nat.le_refl _)) (At.below h (Nat.le_refl _)) (Bw.below h (Nat.le_refl _)) (Bt.below h (Nat.le_refl _)) (askedErr_zero.1 (pairs_ask hb hr hs.1 x.2)))
 clear Aw At Bw Bt hb hr
 refine (callsIn_wide (n:=6)).1 ?_
 have hf1:Fence.wide.fn 65:=trivial
 refine callsIn_of_wp_marks Tryz.func34 rfl trivial ?_ rfl
 simp only [Tryz.ntmps34,List.size_toArray,List.length_cons,List.length_nil,Nat.reduceAdd,Nat.reduceSub,Array.replicate_succ,Array.replicate_zero,List.push_toArray,List.append_toArray,List.nil_append,List.cons_append]
 gi_wp2_with (gi_at_call 65;refine (callsIn_wide.2 (pairings_any A AwA Awn Awc AtA Atn Atc B BwA Bwn Bwc BtA Btn Btc s _)).mono ?_;rintro e w' ⟨rfl,rfl⟩)
 obtain ⟨x1,a1,l1,z1,e1⟩:=alloc_facts w #[.int .i64 A.n,.slice AwA Awn Awc,.slice AtA Atn Atc,.int .i64 B.n,.slice BwA Bwn Bwc,.slice BtA Btn Btc] 75
 obtain ⟨x2,a2,l2,z2,e2⟩:=alloc_facts x1 #[.slice none 0 0] 42
 obtain ⟨x3,a3,l3,z3,e3⟩:=alloc_facts x2 #[.int .i64 A.n,.slice AwA Awn Awc,.slice AtA Atn Atc,.int .i64 B.n,.slice BwA Bwn Bwc,.slice BtA Btn Btc] 75
 obtain ⟨W0,a4,l4,z4,e4⟩:=alloc_facts x3 #[.int .i64 s] 3
 rw [a1,a2]
 rw [show (x2.alloc (.cells #[.int .i64 A.n,.slice AwA Awn Awc,.slice AtA Atn Atc,.int .i64 B.n,.slice BwA Bwn Bwc,.slice BtA Btn Btc] 75))=x3 from a3,show (x3.alloc (.cells #[.int .i64 s] 3))=W0 from a4]
 have b2:=l1.trans (l2.mono l1.size)
 have b3:=b2.trans (l3.mono b2.size)
 have b4:=b3.trans (l4.mono b3.size)
 have hz0:W0.heap.size=w.heap.size+1+1+1+1:=(by omega)
 have k0:=(((l2.trans (l3.mono l2.size)).trans (l4.mono (by omega))).block w.heap.size (by omega)).trans e1
 have k1:=((l3.trans (l4.mono (by omega))).block x1.heap.size (by omega)).trans e2
 have k2:=(l4.block x2.heap.size (by omega)).trans e3
 rw [z1] at k1
 rw [z2,z1] at k2
 rw [z3,z2,z1] at e4
 have hM0:MeetAt w #[.int .i64 A.n,.slice AwA Awn Awc,.slice AtA Atn Atc,.int .i64 B.n,.slice BwA Bwn Bwc,.slice BtA Btn Btc] [] W0:=⟨⟨none,0,k1,Own.none_ _ _ _ _ _⟩,k0,k2,⟨_,e4⟩,b4,by omega⟩
 clear a1 a2 a3 a4 l1 l2 l3 l4 b2 b3 b4 k0 k1 e1 e2 e3 z1 z2 z3 z4
 refine wpIn_rangeFunc_ownH rfl (by omega) (gf:=98) (lb:=#[.pointer (some ⟨w.heap.size+1+1+1,0,none⟩),.pointer (some ⟨w.heap.size+1+1,0,none⟩)]) rfl trivial (enters_of Tryz.func98 (by kernel_rfl) rfl)
  (pairs_stops 5 (w.heap.size+1+1+1) (w.heap.size+1+1) A.n B.n s (by omega) hAn hBn hs W0 (by omega) (by omega) (by simp [World.cell?,e4]) (by simp [World.cell?,k2]) (by simp [World.cell?,k2]))
  (fun h1 h2=>⟨h2.1.trans h1.1,h2.2.trans h1.2⟩) (fun W l o o' hl _ _ _=>⟨World.putObj_heap_other (by omega),World.putObj_heap_other (by omega)⟩) (Below.refl _ _) (fun _=>rfl)
  (fun pre W=>MeetAt w #[.int .i64 A.n,.slice AwA Awn Awc,.slice AtA Atn Atc,.int .i64 B.n,.slice BwA Bwn Bwc,.slice BtA Btn Btc] ((pre.map (·.1)).filter (meetsV A B)) W) (fun _ _ _=>False) (meet_own w _ _ (by omega) _) (fun _ _ _ _ _ hs _ _=>hs) hM0
  (fun x a' W=> ∃ Bx,W.heap[Bx]? = some (.cells #[.int .i64 x.1.a.lo,.int .i64 x.1.a.hi,.int .i64 x.1.b.lo,.int .i64 x.1.b.hi] 25 (0,0))∧w.heap.size+1+1+1<Bx∧a' = { tmps:=#[.agg #[.int .i64 A.n,.slice AwA Awn Awc,.slice AtA Atn Atc,.int .i64 B.n,.slice BwA Bwn Bwc,.slice BtA Btn Btc],.int .i64 s,.pointer (some ⟨w.heap.size,0,none⟩),undef,.slice none 0 0,.pointer (some ⟨w.heap.size+1,0,none⟩),.pointer (some ⟨Bx,0,none⟩),.agg #[.int .i64 A.n,.slice AwA Awn Awc,.slice AtA Atn Atc,.int .i64 B.n,.slice BwA Bwn Bwc,.slice BtA Btn Btc],.int .i64 s,.func (.func 98) #[] #[.pointer (some ⟨w.heap.size+1+1+1,0,none⟩),.pointer (some ⟨w.heap.size+1+1,0,none⟩)],.agg #[.int .i64 x.1.a.lo,.int .i64 x.1.a.hi,.int .i64 x.1.b.lo,.int .i64 x.1.b.hi],undef,undef,undef,undef,undef,undef,undef,undef,undef],defers:=[] })
  (fun x a' _ X Y row hs hg hr=>by
    obtain ⟨Bx,h1,h2,h3⟩:=hs
    refine ⟨Bx,(hg.block _ (Array.getElem?_eq_some_iff.1 h1).1 fun e=> ?_).trans h1,h2,h3⟩
    obtain ⟨_,o,ho,hc⟩:=hr _ e.symm
    rw [h1] at ho;cases ho;cases hc)
  ?assign ?body ?done ?stop
 case assign=>
  rintro l pre x W K hI hK
  have hsz:=hI.sz
  gi_wp2
  exact hK _ _ ((KeepsOthers.alloc _ _).from _) ⟨Below.heap_alloc _ _ _ (by omega),Below.heap_alloc _ _ _ (by omega)⟩ (hI.alloc _) ⟨W.heap.size,heap_alloc_new W _,by omega,rfl⟩
 case body=>
  rintro l pre x a' W hl ⟨r,hr⟩ hI ⟨Bx,hX,hBx,rfl⟩ hlt
  have hBl:=(Array.getElem?_eq_some_iff.1 hX).1
  obtain ⟨c0,c1,c2,c3,c4,c5⟩:=six_cells hI.o
  have hlen:((pre.map (·.1)).filter (meetsV A B)).length<300:=Nat.lt_of_le_of_lt (List.length_filter_le _ _) (by simpa using hlt)
  have hnext:Hid (∀ b,meetsV A B x.1=b→((pre ++ [x]).map (·.1)).filter (meetsV A B)=(pre.map (·.1)).filter (meetsV A B)++(if b then [x.1] else [])):=(show ∀ b,_→_ from by rintro b rfl;rw [List.map_append,List.filter_append];congr 1;cases h:meetsV A B x.1<;>simp [h])
  have HK:=Lib.hid (KM.out x W hI.b)
  have HS:=Lib.hid hI.sz
  have HI:=Lib.hid hI
  have HX:=Lib.hid hX
  have HL:=Lib.hid hlen
  obtain ⟨p0,p1,p2,p3⟩:W.cell? ⟨Bx,0,none⟩=some (.int .i64 x.1.a.lo)∧W.cell? ⟨Bx,1,none⟩=some (.int .i64 x.1.a.hi)∧W.cell? ⟨Bx,2,none⟩=some (.int .i64 x.1.b.lo)∧W.cell? ⟨Bx,3,none⟩=some (.int .i64 x.1.b.hi):=(by simp [World.cell?,hX])
  clear hI hX hlen hM0 k2 e4 hlt
  obtain ⟨b,hm⟩:∃ b,meetsV A B x.1=b:=⟨_,rfl⟩
  have HN:=Lib.hid (hnext.out b hm)
  rw [hm] at HK
  clear hnext hm
  generalize (pre.map (·.1)).filter (meetsV A B)=L at *
  cases b with
  | false=>
    gi_wp2_with (refine ⟨trivial,?_⟩;gi_at_call 29;refine (CallsIn.inRound l (callsIn_wide.2 HK.out)).mono ?_;rintro e w2 ⟨rfl,hb2⟩;have HB2:=Lib.hid hb2;clear hb2)
    exact ⟨keeps_of_below HB2.out (Nat.le_refl _),⟨HB2.out.block _ (by have:=HS.out;omega),HB2.out.block _ (by have:=HS.out;omega)⟩,(show MeetAt w #[.int .i64 A.n,.slice AwA Awn Awc,.slice AtA Atn Atc,.int .i64 B.n,.slice BwA Bwn Bwc,.slice BtA Btn Btc] (((pre ++ [x]).map (·.1)).filter (meetsV A B)) w2 by rw [HN.out];simpa using HI.out.below HB2.out)⟩
  | true=>
    obtain ⟨⟨A1,q1,h1,hO⟩,_,_,_,hBW,_⟩:=HI.out
    have HO:=Lib.hid hO
    have HH1:=Lib.hid h1
    have HBW:=Lib.hid hBW
    clear hO h1 hBW
    gi_wp2_with (first
     | (refine ⟨trivial,?_⟩;gi_at_call 29;refine (CallsIn.inRound l (callsIn_wide.2 HK.out)).mono ?_;rintro e w2 ⟨rfl,hb2⟩
        have hx2:=(hb2.block Bx hBl).trans HX.out
        have ho2:=(hb2.block (w.heap.size+1) (by have:=HS.out;omega)).trans HH1.out
        obtain ⟨d0,d1,d2,d3⟩:w2.cell? ⟨Bx,0,none⟩=some (.int .i64 x.1.a.lo)∧w2.cell? ⟨Bx,1,none⟩=some (.int .i64 x.1.a.hi)∧w2.cell? ⟨Bx,2,none⟩=some (.int .i64 x.1.b.lo)∧w2.cell? ⟨Bx,3,none⟩=some (.int .i64 x.1.b.hi):=(by simp [World.cell?,hx2])
        have g0:w2.cell? ⟨w.heap.size+1,0,none⟩=some (.slice A1 L.length q1):=(by simp [World.cell?,ho2])
        have HO2:=Lib.hid (HO.out.below hb2 (Nat.le_refl _))
        have HH2:=Lib.hid ho2
        have HB2:=Lib.hid hb2
        have HBW2:=Lib.hid (HBW.out.trans (hb2.mono HBW.out.size))
        have hz2:=hb2.size
        have HRD:=Lib.hid (Rd.single (enc:=encPairing) (k:=4) w2 #[.int .i64 x.1.a.lo,.int .i64 x.1.a.hi,.int .i64 x.1.b.lo,.int .i64 x.1.b.hi] 25 [x.1] 1 rfl (by omega) (fun _=>rfl) (by simp [encPairing]))
        clear hx2 ho2 hb2)
     | (gi_at_builtin;refine wpListIn_append_src elPairing (fun _=>rfl) onePairing rfl _ _ rfl (some ⟨w2.heap.size,0,none⟩) 1 1 [x.1] rfl rfl (HO2.out.alloc _) HRD.out (by have:=HL.out;omega) (by omega) (by have:=HBW2.out.size;simp;omega) ?_;intro A' c' w3 hown' hg3 hA3
        have hv3:=(hg3.block (w.heap.size+1) (by have:=HS.out;simp;omega) (HO2.out.ne' HH2.out (fun cur e=>by cases e))).trans ((Below.heap_alloc _ _ (w.heap.size+1) (by have:=HS.out;omega)).trans HH2.out)
        obtain ⟨hc3,hf3⟩:=cell_of_box' hv3
        have HG3:=Lib.hid hg3
        have HO3:=Lib.hid hown'
        have HV3:=Lib.hid hv3
        clear hown' hg3 hA3 hv3
        go_frame))
    have hg4:=grownBy_setCell' w3 (w.heap.size+1) 0 (.slice A' (L.length+1) c')
    have hv4:=heap_setCell_box' (.slice A' (L.length+1) c') HV3.out
    have hO4:=HO3.out.kept hg4 (HO3.out.ne HV3.out (fun cur e=>by cases e))
    have hz3:=HG3.out.size
    have hbk:∀ k,k<w2.heap.size→k≠w.heap.size+1→(some k≠blockOf A1)→(w3.setCell ⟨w.heap.size+1,0,none⟩ (.slice A' (L.length+1) c')).heap[k]? = w2.heap[k]? := fun k h1 h2 h3=>
     (hg4.block k (by simp at hz3;omega) (fun e=>h2 (by cases e;rfl))).trans ((HG3.out.block k (by simp;omega) h3).trans (Below.heap_alloc _ _ _ h1))
    have hsz:=HS.out
    have hno:∀ {k:Nat} {o:Obj},w2.heap[k]? = some o→(∀ cur,o ≠ .cells cur 25 (0,0))→k≠w.heap.size+1→(w3.setCell ⟨w.heap.size+1,0,none⟩ (.slice A' (L.length+1) c')).heap[k]? = some o:=fun h1 h2 h3=>
     (hbk _ (Array.getElem?_eq_some_iff.1 h1).1 h3 (HO2.out.ne' h1 h2)).trans h1
    have hI2:=HI.out.below HB2.out
    have m1:=hno hI2.o (fun cur e=>by cases e) (by omega)
    have m2:=hno hI2.two (fun cur e=>by cases e) (by omega)
    obtain ⟨sv,hs3⟩:=hI2.sid
    have m3:=hno hs3 (fun cur e=>by cases e) (by omega)
    have hbw4:Below w.heap.size w (w3.setCell ⟨w.heap.size+1,0,none⟩ (.slice A' (L.length+1) c')):=((HBW2.out.alloc HBW2.out.size _).grown HG3.out (by have:=HBW2.out.size;simp;omega) (fun k e=>HO2.out.ltB k e)).setCell (p:=⟨w.heap.size+1,0,none⟩) (show w.heap.size≤w.heap.size+1 by omega) _
    refine ⟨⟨by have:=hg4.size;simp at hz3;omega,fun k o hk ho hc=>hno ((HB2.out.block k (Array.getElem?_eq_some_iff.1 ho).1).trans ho) (fun cur e=>by subst e;cases hc) (by omega)⟩,⟨m3.trans (hs3.symm.trans (HB2.out.block _ (by omega))),m2.trans (hI2.two.symm.trans (HB2.out.block _ (by omega)))⟩,(show MeetAt w #[.int .i64 A.n,.slice AwA Awn Awc,.slice AtA Atn Atc,.int .i64 B.n,.slice BwA Bwn Bwc,.slice BtA Btn Btc] (((pre ++ [x]).map (·.1)).filter (meetsV A B)) _ from ?_)⟩
    rw [HN.out]
    simp only [if_true]
    exact ⟨⟨A',c',by rw [hv4];simp,by simpa using hO4⟩,m1,m2,⟨sv,m3⟩,hbw4,by have:=hg4.size;simp at hz3;omega⟩
 case done=>
  rintro D ys W hD hys hI hK
  have hL:(ys.map (·.1)).filter (meetsV A B)=meetL A B s:=by unfold meetL;rw [hys]
  rw [hL] at hI
  obtain ⟨⟨A',c',h1,hO⟩,_,_,_,hB,_⟩:=hI
  obtain ⟨f1,f2⟩:=(show W.cell? ⟨w.heap.size+1,0,none⟩=some (.slice A' (meetL A B s).length c')∧W.frozen? ⟨w.heap.size+1,0,none⟩=false by simp [World.cell?,World.frozen?,h1])
  gi_wp2
  refine ⟨by simp,.inl ⟨_,_,rfl,run_takeDeferred hK,?_⟩⟩
  exact ⟨_,results_tmp rfl _ _ _,A',c',rfl,hB.trans (belowK_b (w:=w) (Nat.le_refl _) W D _ _ (by omega) hK rfl rfl),hO.kept (grownBy_putObj' _ D _) (hO.ne hK (fun cur e=>by cases e))⟩
 case stop=>
  rintro D c pre W _ _ h _
  exact h.elim
def LongOk (A B:Outl) (n:Nat):Prop:=n≤16∧(∀ k:Nat,1≤k→k≤n→meetL A B k ≠ [])∧(n=16∨meetL A B (n+1) = [])
theorem LongOk.unique {A B:Outl} {n m:Nat} (h:LongOk A B n) (h':LongOk A B m):n=m:=by
 obtain ⟨a1,a2,a3⟩:=h
 obtain ⟨b1,b2,b3⟩:=h'
 rcases Nat.lt_trichotomy n m with hlt|rfl|hlt
 · rcases a3 with rfl|a3
   · omega
   · exact absurd a3 (by have:=b2 (n+1) (by omega) (by omega);simpa using this)
 · rfl
 · rcases b3 with rfl|b3
   · omega
   · exact absurd b3 (by have:=a2 (m+1) (by omega) (by omega);simpa using this)
theorem twice_zero {A B:Outl} : twiceErr A B=0↔bothErr A B=0∧roomErr A B=0:=by
 unfold twiceErr
 by_cases h:bothErr A B=0
 · rw [if_neg (by simpa using h)];simp [h]
 · rw [if_pos h];simp [h]
theorem Longest_any (A:Outl) (AwA:Option Addr) (Awn Awc:Nat) (AtA:Option Addr) (Atn Atc:Nat) (B:Outl) (BwA:Option Addr) (Bwn Bwc:Nat) (BtA:Option Addr) (Btn Btc:Nat) (w:World) (Aw:Rd encBound 4 w AwA Awn Awc A.ways) (At:Rd encBound 4 w AtA Atn Atc A.turns) (Bw:Rd encBound 4 w BwA Bwn Bwc B.ways) (Bt:Rd encBound 4 w BtA Btn Btc B.turns):
 Calls Tryz.prog 15 #[.agg #[.int .i64 A.n,.slice AwA Awn Awc,.slice AtA Atn Atc],.agg #[.int .i64 B.n,.slice BwA Bwn Bwc,.slice BtA Btn Btc]] w fun e w'=> ∃ n:Nat,e = .returned (.tuple #[.int .i64 n,.int .i64 (twiceErr A B)])∧(twiceErr A B=0→LongOk A B n)∧(twiceErr A B≠0→n=0)∧Below w.heap.size w w':=by
 obtain ⟨x1,a1,l1,z1,e1⟩:=alloc_facts w #[.int .i64 A.n,.slice AwA Awn Awc,.slice AtA Atn Atc] 35
 obtain ⟨x2,a2,l2,z2,e2⟩:=alloc_facts x1 #[.int .i64 B.n,.slice BwA Bwn Bwc,.slice BtA Btn Btc] 35
 have b2:=l1.trans (l2.mono l1.size)
 have k0:=(l2.block w.heap.size (by omega)).trans e1
 rw [z1] at e2
 obtain ⟨p0,p1,p2⟩:x2.cell? ⟨w.heap.size,0,none⟩=some (.int .i64 A.n)∧x2.cell? ⟨w.heap.size,1,none⟩=some (.slice AwA Awn Awc)∧x2.cell? ⟨w.heap.size,2,none⟩=some (.slice AtA Atn Atc):=(by simp [World.cell?,k0])
 obtain ⟨q0,q1,q2⟩:x2.cell? ⟨w.heap.size+1,0,none⟩=some (.int .i64 B.n)∧x2.cell? ⟨w.heap.size+1,1,none⟩=some (.slice BwA Bwn Bwc)∧x2.cell? ⟨w.heap.size+1,2,none⟩=some (.slice BtA Btn Btc):=(by simp [World.cell?,e2])
 have K1:=Lib.hid (fun W (h:Below x2.heap.size x2 W)=>twice_any A AwA Awn Awc AtA Atn Atc B BwA Bwn Bwc BtA Btn Btc W ((Aw.below b2 (Nat.le_refl _)).below h (Nat.le_refl _)) ((At.below b2 (Nat.le_refl _)).below h (Nat.le_refl _)) ((Bw.below b2 (Nat.le_refl _)).below h (Nat.le_refl _)) ((Bt.below b2 (Nat.le_refl _)).below h (Nat.le_refl _)))
 have K2:Hid (twiceErr A B=0→∀ W (s:Int),Below x2.heap.size x2 W→1≤s∧s≤16→Calls Tryz.prog 34 #[.agg #[.int .i64 A.n,.slice AwA Awn Awc,.slice AtA Atn Atc,.int .i64 B.n,.slice BwA Bwn Bwc,.slice BtA Btn Btc],.int .i64 s] W fun e w'=> ∃ A' c',e = .returned (.slice A' (meetL A B s).length c')∧Below W.heap.size W w'∧Own encPairing 4 25 W.heap.size w' A' (meetL A B s).length c' (meetL A B s)):=(show _→∀ W s,_→_→_ from fun h0 W s h hs=>
  meeting_any A AwA Awn Awc AtA Atn Atc B BwA Bwn Bwc BtA Btn Btc s W ((Aw.below b2 (Nat.le_refl _)).below h (Nat.le_refl _)) ((At.below b2 (Nat.le_refl _)).below h (Nat.le_refl _)) ((Bw.below b2 (Nat.le_refl _)).below h (Nat.le_refl _)) ((Bt.below b2 (Nat.le_refl _)).below h (Nat.le_refl _)) (twice_zero.1 h0).1 (twice_zero.1 h0).2 hs)
 have HR:=Lib.hid (Below.refl x2.heap.size x2)
 have HB2:=Lib.hid b2
 have H1:=Lib.hid a1
 have H2:=Lib.hid a2
 clear Aw At Bw Bt l1 l2 b2 a1 a2 e1 e2 k0
 by_cases h1:twiceErr A B=0
 case neg=>
  have h1':(twiceErr A B != 0)=true:=by simpa using h1
  have h1'':=Lib.hid h1
  clear h1 K2
  generalize twiceErr A B=er at *
  go_enter Tryz.func15,Tryz.ntmps15
  go_wp2_with (first
   | rw [H1.out]|rw [H2.out]
   | (go_at_call 33;(with_reducible refine (K1.out _ HR.out).mono ?_);rintro e w3 ⟨rfl,hb⟩;have HB:=Lib.hid (HB2.out.trans (hb.mono HB2.out.size));clear hb))
  go_ret2
  exact ⟨0,rfl,fun h=>absurd h h1''.out,fun _=>rfl,HB.out.alloc HB.out.size _⟩
 case pos=>
  have K3:=Lib.hid (K2.out h1)
  rw [h1] at K1 ⊢
  clear h1 K2
  go_enter Tryz.func15,Tryz.ntmps15
  go_wp2_with (first
   | rw [H1.out]|rw [H2.out]
   | (go_at_call 33;(with_reducible refine (K1.out _ HR.out).mono ?_);rintro e w3 ⟨rfl,hb⟩
      obtain ⟨x4,a4,l4,z4,e4⟩:=alloc_facts w3 #[.int .i64 A.n,.slice AwA Awn Awc,.slice AtA Atn Atc,.int .i64 B.n,.slice BwA Bwn Bwc,.slice BtA Btn Btc] 75
      have HB:=Lib.hid (hb.trans (l4.mono hb.size))
      have H4:=Lib.hid a4
      have HE4:=Lib.hid e4
      clear hb a4 l4 e4)
   | rw [H4.out])
  go_loopw [8] (fun s8 wr=> ∃ k:Nat,k≤16∧s8 = .int .i64 k∧Hid (Below x4.heap.size x4 wr)∧Hid (∀ j:Nat,1≤j→j≤k→meetL A B j ≠ [])) (fun s8 _=>16-(intOf s8).toNat)
  case atStart=>exact ⟨0,Nat.zero_le _,rfl,(show Below _ _ _ from Below.refl _ _),(show ∀ j:Nat,_ from fun j h1 h2=>by omega)⟩
  case round=>
   obtain ⟨k,hk,rfl,hbr,hall⟩:=hrel
   by_cases hlt:k<16
   · have hh:=(hbr.out.block w3.heap.size (by omega)).trans HE4.out
     obtain ⟨c0,c1,c2,c3,c4,c5⟩:=six_cells hh
     have hbx:=Lib.hid (HB.out.trans (hbr.out.mono HB.out.size))
     have KK:=Lib.hid (K3.out wr ((k:Int)+1) hbx.out (by omega))
     clear hh
     obtain ⟨L,hL⟩:∃ L,meetL A B ((k:Int)+1)=L:=⟨_,rfl⟩
     have HL:=Lib.hid hL
     rw [hL] at KK
     clear hL
     have hpos:0<L.length∨L.length=0:=(by omega)
     rcases hpos with hp|hp
     · go_wp2_with (go_at_call 34;(with_reducible refine KK.out.mono ?_);rintro e w5 ⟨A5,q5,rfl,hb5,_⟩;have HB5:=Lib.hid hb5;clear hb5)
       go_roundw
       case rel=>exact ⟨k+1,by omega,by go_num,(show Below _ _ _ from hbr.out.trans (HB5.out.mono hbr.out.size)),(show ∀ j:Nat,_ from fun j h1 h2=>by
        rcases Nat.lt_or_ge j (k+1) with h3|h3
        · exact hall.out j h1 (by omega)
        · have:j=k+1:=by omega
          subst this
          have e:=HL.out
          intro e2
          rw [show ((k+1:Nat):Int)=(k:Int)+1 from by omega,e] at e2
          rw [e2] at hp;simp at hp)⟩
       case measure=>simp [intOf];omega
     · go_wp2_with (go_at_call 34;(with_reducible refine KK.out.mono ?_);rintro e w5 ⟨A5,q5,rfl,hb5,_⟩;have HB5:=Lib.hid hb5;clear hb5)
       go_ret2
       exact ⟨k,rfl,fun _=>⟨by omega,hall.out,.inr (by rw [HL.out];exact List.eq_nil_of_length_eq_zero hp)⟩,fun h=>absurd rfl h,HB2.out.trans ((hbx.out.trans (HB5.out.mono hbx.out.size)).mono HB2.out.size)⟩
   · have hk16:k=16:=by omega
     subst hk16
     go_wp2
     go_ret2
     exact ⟨16,rfl,fun _=>⟨by omega,hall.out,.inl rfl⟩,fun h=>absurd rfl h,HB2.out.trans ((HB.out.trans (hbr.out.mono HB.out.size)).mono HB2.out.size)⟩
def ShrI (N:Int) (ln:Nat) (l:List Bound) (z:Value) (w:World):List Value→World→Prop
 | [],W=>Below w.heap.size w W
 | [u],W=>Below w.heap.size w W∧∃ A c,u = .agg #[.int .i64 N,.slice A ln c]∧Rd encBound 4 W A ln c l
 | [_,y],W=>Below w.heap.size w W∧y=z
 | _,_=>False
theorem ShrI.b {N:Int} {ln:Nat} {l:List Bound} {z:Value} {w W:World} {cv:List Value} (h:ShrI N ln l z w cv W):Below w.heap.size w W:=by
 match cv,h with
 | [],h=>exact h
 | [_],h=>exact h.1
 | [_,_],h=>exact h.1
theorem ShrI.two {N:Int} {ln:Nat} {l:List Bound} {z:Value} {w W:World} {cv:List Value} (hl:2≤cv.length) (h:ShrI N ln l z w cv W):∃ u,cv = [u,z]:=by
 match cv,hl,h with
 | [u,y],_,⟨_,e⟩=>exact ⟨u,by rw [e]⟩
 | [],hl,_=>simp at hl
 | [_],hl,_=>simp at hl
def codeShr7:Option Code→Code
 | some (.seq _ (.seq _ (.seq _ (.seq _ (.seq (.seq c _) _)))))=>c
 | _=> .skip
def Tshr7 (_ b5:Nat) (x0 x1 x2 x3 x4 x5 x6 x7 x8 x9 _ _:Value) (lo hi _:Int) (_:Nat) (_:List Bound) (g1:Int) (g2:Bool) (g3:Int) (cv:List Value):List Value:=
 [.agg #[x0,x1,x2,x3,x4,x5,x6,x7,x8,x9],cv.getD 0 undef,.pointer (some ⟨b5,0,none⟩),.pointer (some ⟨b5,0,none⟩),.int .i64 lo,.pointer (some ⟨b5,0,none⟩),.pointer (some ⟨b5,0+1,none⟩),.int .i64 hi,cv.getD 1 undef,.tuple #[.int .i64 g1,.bool g2,.int .i64 g3],.int .i64 g1,.bool g2,.int .i64 g3,.int .i64 g1,.bool g2,.int .i64 g3]
theorem shr7 (cC:Code) (hc:cC=codeShr7 Tryz.f13.body) (b9 b5:Nat) (x0 x1 x2 x3 x4 x5 x6 x7 x8 x9 y2 y3:Value) (lo hi N:Int) (ln:Nat) (l:List Bound) (g1:Int) (g2:Bool) (g3:Int) (a:Act) (w:World) (Q:Exit→Act→World→Prop)
 (hT:a.tmps.size=63) (t5:a.tmps.getD 5 undef = .pointer (some ⟨b5,0,none⟩)) (t9:a.tmps.getD 9 undef = .pointer (some ⟨b9,0,none⟩))
 (CE:∀ W,Below w.heap.size w W→W.cell? ⟨b9,0,none⟩=some x0∧W.cell? ⟨b9,1,none⟩=some x1∧W.cell? ⟨b9,2,none⟩=some x2∧W.cell? ⟨b9,3,none⟩=some x3∧W.cell? ⟨b9,4,none⟩=some x4∧W.cell? ⟨b9,5,none⟩=some x5∧W.cell? ⟨b9,6,none⟩=some x6∧W.cell? ⟨b9,7,none⟩=some x7∧W.cell? ⟨b9,8,none⟩=some x8∧W.cell? ⟨b9,9,none⟩=some x9∧W.cell? ⟨b5,0,none⟩=some (.int .i64 lo)∧W.cell? ⟨b5,1,none⟩=some (.int .i64 hi))
 (C1:∀ W,Below w.heap.size w W→Calls Tryz.prog 31 #[.agg #[x0,x1,x2,x3,x4,x5,x6,x7,x8,x9]] W fun e w'=> ∃ A c,e = .returned (.agg #[.int .i64 N,.slice A ln c])∧Below W.heap.size W w'∧Rd encBound 4 w' A ln c l)
 (C2:∀ W A c,Below w.heap.size w W→Rd encBound 4 W A ln c l→Calls Tryz.prog 30 #[.agg #[.int .i64 N,.slice A ln c],.int .i64 lo,.int .i64 hi] W fun e w'=>e = .returned (.tuple #[.int .i64 g1,.bool g2,.int .i64 g3])∧Below W.heap.size W w')
 (hQ:∀ u W,Below w.heap.size w W→Q .normal { tmps:=setsL (setsL ((setsL (a.tmps) 32 [.agg #[x0,x1,x2,x3,x4,x5,x6,x7,x8,x9],u,.pointer (some ⟨b5,0,none⟩),.pointer (some ⟨b5,0,none⟩),.int .i64 lo,.pointer (some ⟨b5,0,none⟩),.pointer (some ⟨b5,0+1,none⟩),.int .i64 hi,.tuple #[.int .i64 g1,.bool g2,.int .i64 g3]]).setIfInBounds 31 (.tuple #[.int .i64 g1,.bool g2,.int .i64 g3])) 41 [.int .i64 g1,.bool g2,.int .i64 g3]) 10 [.int .i64 g1,.bool g2,.int .i64 g3],defers:=a.defers } W):
 cC.wp Tryz.prog Q a w:=by
 subst hc
 unfold codeShr7 Tryz.f13
 dsimp only
 refine wpIn_wide.1 (wpIn_region_chain (nn:=5) 63 (by kernel_rfl) (by kernel_rfl) (by kernel_rfl) hT (fun i cv=>(Tshr7 b9 b5 x0 x1 x2 x3 x4 x5 x6 x7 x8 x9 y2 y3 lo hi N ln l g1 g2 g3 cv).getD i undef) (fun i=>([0,0,0,0,0,0,0,0,0,2,0,0,0,0,0,0]:List Nat).getD i 0) (fun i=>([0,1,1,1,1,1,1,1,2,2,2,2,2,2,2,2]:List Nat).getD i 0) [1,8] (by kernel_rfl) (by kernel_rfl) (by kernel_rfl) (by kernel_rfl) (ShrI N ln l (.tuple #[.int .i64 g1,.bool g2,.int .i64 g3]) w) ((Below.refl _ _).drew) (fun b cv hE hold=> ?_) (fun cv W hl hI=> ?_))
 · clear hQ
   have q5:=hold 5 _ (by kernel_rfl) t5
   have q9:=hold 9 _ (by kernel_rfl) t9
   simp only [factsL,Vc,idxC,Tshr7,List.getD_cons_zero,List.getD_cons_succ,Nat.reduceAdd,Nat.reduceEqDiff,reduceIte,Option.map_some,Option.map_none] at hE
   repeat' first|exact chain_nil|refine chain_op 0 rfl rfl ?_ ?_|refine chain_op 1 rfl rfl ?_ ?_|refine chain_skip rfl rfl rfl rfl ?_|refine chain_quiet rfl rfl ?_ ?_
   all_goals intro hl
   any_goals (
    intro hl2;simp only [List.getD_cons_zero,List.getD_cons_succ,Nat.reduceAdd] at hl hl2
    first
     | (obtain rfl:=List.eq_nil_of_length_eq_zero (Nat.le_zero.1 hl2);intro W hW;have hWb:Below w.heap.size w W:=hW;obtain ⟨e0,e1,e2,e3,e4,e5,e6,e7,e8,e9,e10,e11⟩:=CE W hWb;simp only [Tshr7,List.getD_cons_zero,Nat.reduceAdd]
        first
         | (refine .inl ?_;go_simp;done)
         | (refine .inl ?_;go_simp;rfl))
     | (intro W hW;simp only [Tshr7,List.getD_cons_zero,List.getD_cons_succ,Nat.reduceAdd];refine .inl ?_;go_simp;(try rfl);done)
     | (intro W hW;obtain ⟨e0,e1,e2,e3,e4,e5,e6,e7,e8,e9,e10,e11⟩:=CE W (ShrI.b hW);simp only [Tshr7,List.getD_cons_zero,List.getD_cons_succ,Nat.reduceAdd]
        first
         | (refine .inl ?_;go_simp;done)
         | (refine .inl ?_;go_simp;rfl))
     | (intro W hW;obtain ⟨u,rfl⟩:=ShrI.two hl hW;simp only [Tshr7,List.getD_cons_zero,List.getD_cons_succ,Nat.reduceAdd] at hE ⊢;refine .inl ?_;go_simp;(try rfl);done)
    done)
   · obtain rfl:=List.eq_nil_of_length_eq_zero hl
     intro W hW
     have hWb:Below w.heap.size w W:=hW
     refine .inr ⟨31,#[.agg #[x0,x1,x2,x3,x4,x5,x6,x7,x8,x9]],?_,(C1 W hWb).mono ?_⟩
     · go_simp<;>done
     · rintro e w' ⟨A',c',rfl,hb',hr⟩;exact ⟨_,rfl,hWb.trans (hb'.mono hWb.size),A',c',rfl,hr⟩
   · obtain ⟨v,rfl⟩:=len1 hl
     rintro W ⟨hWb,A0,c0,rfl,hrd⟩
     simp only [List.getD_cons_zero] at hE
     refine .inr ⟨30,#[.agg #[.int .i64 N,.slice A0 ln c0],.int .i64 lo,.int .i64 hi],?_,(C2 W A0 c0 hWb hrd).mono ?_⟩
     · go_simp<;>done
     · rintro e w' ⟨rfl,hb'⟩;exact ⟨_,rfl,hWb.trans (hb'.mono hWb.size),rfl⟩
 · match cv,hl,hI with
   | [u,y],_,⟨hb,e⟩=>subst e;exact hQ u W hb
def codeShr10:Option Code→Code
 | some (.seq _ (.seq _ (.seq _ (.seq _ (.seq _ (.seq (.seq c _) _))))))=>c
 | _=> .skip
def Tshr10 (_ b5:Nat) (x0 x1 x2 x3 x4 x5 x6 x7 x8 x9 _ _:Value) (lo hi _:Int) (_:Nat) (_:List Bound) (g1:Int) (g2:Bool) (g3:Int) (cv:List Value):List Value:=
 [.agg #[x0,x1,x2,x3,x4,x5,x6,x7,x8,x9],cv.getD 0 undef,.pointer (some ⟨b5,0,none⟩),.pointer (some ⟨b5,0,none⟩),.int .i64 lo,.pointer (some ⟨b5,0,none⟩),.pointer (some ⟨b5,0+1,none⟩),.int .i64 hi,cv.getD 1 undef,.tuple #[.int .i64 g1,.bool g2,.int .i64 g3],.int .i64 g1,.bool g2,.int .i64 g3,.int .i64 g1,.bool g2,.int .i64 g3]
theorem shr10 (cC:Code) (hc:cC=codeShr10 Tryz.f13.body) (b9 b5:Nat) (x0 x1 x2 x3 x4 x5 x6 x7 x8 x9 y2 y3:Value) (lo hi N:Int) (ln:Nat) (l:List Bound) (g1:Int) (g2:Bool) (g3:Int) (a:Act) (w:World) (Q:Exit→Act→World→Prop)
 (hT:a.tmps.size=63) (t5:a.tmps.getD 5 undef = .pointer (some ⟨b5,0,none⟩)) (t9:a.tmps.getD 9 undef = .pointer (some ⟨b9,0,none⟩))
 (CE:∀ W,Below w.heap.size w W→W.cell? ⟨b9,0,none⟩=some x0∧W.cell? ⟨b9,1,none⟩=some x1∧W.cell? ⟨b9,2,none⟩=some x2∧W.cell? ⟨b9,3,none⟩=some x3∧W.cell? ⟨b9,4,none⟩=some x4∧W.cell? ⟨b9,5,none⟩=some x5∧W.cell? ⟨b9,6,none⟩=some x6∧W.cell? ⟨b9,7,none⟩=some x7∧W.cell? ⟨b9,8,none⟩=some x8∧W.cell? ⟨b9,9,none⟩=some x9∧W.cell? ⟨b5,0,none⟩=some (.int .i64 lo)∧W.cell? ⟨b5,1,none⟩=some (.int .i64 hi))
 (C1:∀ W,Below w.heap.size w W→Calls Tryz.prog 31 #[.agg #[x0,x1,x2,x3,x4,x5,x6,x7,x8,x9]] W fun e w'=> ∃ A c,e = .returned (.agg #[.int .i64 N,.slice A ln c])∧Below W.heap.size W w'∧Rd encBound 4 w' A ln c l)
 (C2:∀ W A c,Below w.heap.size w W→Rd encBound 4 W A ln c l→Calls Tryz.prog 32 #[.agg #[.int .i64 N,.slice A ln c],.int .i64 lo,.int .i64 hi] W fun e w'=>e = .returned (.tuple #[.int .i64 g1,.bool g2,.int .i64 g3])∧Below W.heap.size W w')
 (hQ:∀ u W,Below w.heap.size w W→Q .normal { tmps:=setsL (setsL ((setsL (a.tmps) 47 [.agg #[x0,x1,x2,x3,x4,x5,x6,x7,x8,x9],u,.pointer (some ⟨b5,0,none⟩),.pointer (some ⟨b5,0,none⟩),.int .i64 lo,.pointer (some ⟨b5,0,none⟩),.pointer (some ⟨b5,0+1,none⟩),.int .i64 hi,.tuple #[.int .i64 g1,.bool g2,.int .i64 g3]]).setIfInBounds 46 (.tuple #[.int .i64 g1,.bool g2,.int .i64 g3])) 56 [.int .i64 g1,.bool g2,.int .i64 g3]) 13 [.int .i64 g1,.bool g2,.int .i64 g3],defers:=a.defers } W):
 cC.wp Tryz.prog Q a w:=by
 subst hc
 unfold codeShr10 Tryz.f13
 dsimp only
 refine wpIn_wide.1 (wpIn_region_chain (nn:=5) 63 (by kernel_rfl) (by kernel_rfl) (by kernel_rfl) hT (fun i cv=>(Tshr10 b9 b5 x0 x1 x2 x3 x4 x5 x6 x7 x8 x9 y2 y3 lo hi N ln l g1 g2 g3 cv).getD i undef) (fun i=>([0,0,0,0,0,0,0,0,0,2,0,0,0,0,0,0]:List Nat).getD i 0) (fun i=>([0,1,1,1,1,1,1,1,2,2,2,2,2,2,2,2]:List Nat).getD i 0) [1,8] (by kernel_rfl) (by kernel_rfl) (by kernel_rfl) (by kernel_rfl) (ShrI N ln l (.tuple #[.int .i64 g1,.bool g2,.int .i64 g3]) w) ((Below.refl _ _).drew) (fun b cv hE hold=> ?_) (fun cv W hl hI=> ?_))
 · clear hQ
   have q5:=hold 5 _ (by kernel_rfl) t5
   have q9:=hold 9 _ (by kernel_rfl) t9
   simp only [factsL,Vc,idxC,Tshr10,List.getD_cons_zero,List.getD_cons_succ,Nat.reduceAdd,Nat.reduceEqDiff,reduceIte,Option.map_some,Option.map_none] at hE
   repeat' first|exact chain_nil|refine chain_op 0 rfl rfl ?_ ?_|refine chain_op 1 rfl rfl ?_ ?_|refine chain_skip rfl rfl rfl rfl ?_|refine chain_quiet rfl rfl ?_ ?_
   all_goals intro hl
   any_goals (
    intro hl2;simp only [List.getD_cons_zero,List.getD_cons_succ,Nat.reduceAdd] at hl hl2
    first
     | (obtain rfl:=List.eq_nil_of_length_eq_zero (Nat.le_zero.1 hl2);intro W hW;have hWb:Below w.heap.size w W:=hW;obtain ⟨e0,e1,e2,e3,e4,e5,e6,e7,e8,e9,e10,e11⟩:=CE W hWb;simp only [Tshr10,List.getD_cons_zero,Nat.reduceAdd]
        first
         | (refine .inl ?_;go_simp;done)
         | (refine .inl ?_;go_simp;rfl))
     | (intro W hW;simp only [Tshr10,List.getD_cons_zero,List.getD_cons_succ,Nat.reduceAdd];refine .inl ?_;go_simp;(try rfl);done)
     | (intro W hW;obtain ⟨e0,e1,e2,e3,e4,e5,e6,e7,e8,e9,e10,e11⟩:=CE W (ShrI.b hW);simp only [Tshr10,List.getD_cons_zero,List.getD_cons_succ,Nat.reduceAdd]
        first
         | (refine .inl ?_;go_simp;done)
         | (refine .inl ?_;go_simp;rfl))
     | (intro W hW;obtain ⟨u,rfl⟩:=ShrI.two hl hW;simp only [Tshr10,List.getD_cons_zero,List.getD_cons_succ,Nat.reduceAdd] at hE ⊢;refine .inl ?_;go_simp;(try rfl);done)
    done)
   · obtain rfl:=List.eq_nil_of_length_eq_zero hl
     intro W hW
     have hWb:Below w.heap.size w W:=hW
     refine .inr ⟨31,#[.agg #[x0,x1,x2,x3,x4,x5,x6,x7,x8,x9]],?_,(C1 W hWb).mono ?_⟩
     · go_simp<;>done
     · rintro e w' ⟨A',c',rfl,hb',hr⟩;exact ⟨_,rfl,hWb.trans (hb'.mono hWb.size),A',c',rfl,hr⟩
   · obtain ⟨v,rfl⟩:=len1 hl
     rintro W ⟨hWb,A0,c0,rfl,hrd⟩
     simp only [List.getD_cons_zero] at hE
     refine .inr ⟨32,#[.agg #[.int .i64 N,.slice A0 ln c0],.int .i64 lo,.int .i64 hi],?_,(C2 W A0 c0 hWb hrd).mono ?_⟩
     · go_simp<;>done
     · rintro e w' ⟨rfl,hb'⟩;exact ⟨_,rfl,hWb.trans (hb'.mono hWb.size),rfl⟩
 · match cv,hl,hI with
   | [u,y],_,⟨hb,e⟩=>subst e;exact hQ u W hb
end Go.Proofs.YtpmkgmilfifkpaaGreatDoor
end

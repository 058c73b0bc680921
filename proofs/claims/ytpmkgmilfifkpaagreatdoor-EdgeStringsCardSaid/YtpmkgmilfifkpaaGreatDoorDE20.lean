/- Contracts that the laws lean on: IdsG, Rst, Keep, Tri2. -/
import Derived.Test.YtpmkgmilfifkpaaGreatDoorDE19
set_option maxRecDepth 100000
set_option maxHeartbeats 4000000
section
namespace Go.Proofs.YtpmkgmilfifkpaaGreatDoor
open Go.RowKit Go.Proofs Go.Shelf
def pickB (bs:List Bound) (l:List Int):List Bound:=l.filterMap fun i=>bs[i.toNat]?
def idsAt (bs:List Bound) (l:List Int):List Int:=idsE ((pickB bs l).map (·.by_))
theorem ent_ids1:∀ args w,(callFunc 77 args).run Tryz.prog w = .ok (.enter 77 args) w:=enters_of Tryz.func77 (by kernel_rfl) rfl
theorem ids1_any (_:Int) (A:Option Addr) (n c:Nat) (bs:List Bound) (X:Option Addr) (nX cX:Nat) (xs:List Int) (b0 b1 b2:Nat) (v0:Value) (w:World) (hl:Rd encBound 4 w A n c bs) (hX:Rd encInt 1 w X nX cX xs) (hp2:bs.length≤400) (hok:∀ b∈bs,0≤b.by_∧b.by_≤1000000) (hs:∀ x∈xs,0≤x∧x<bs.length) (hnX:nX≤100000)
 (c0:w.cell? ⟨b0,0,none⟩=some (.slice X nX cX)) (c2:w.cell? ⟨b1,1,none⟩=some (.slice A n c)) (cn:w.cell? ⟨b2,0,none⟩=some v0) (fn:w.frozen? ⟨b2,0,none⟩=false):
 Calls Tryz.prog 77 #[.pointer (some ⟨b0,0,none⟩),.pointer (some ⟨b1,0,none⟩),.pointer (some ⟨b2,0,none⟩)] w fun e w'=>e = .returned (.int .i64 0)∧GrownT (fun k=>k=b2) w w'∧∃ A' c',w'.cell? ⟨b2,0,none⟩=some (.slice A' (idsAt bs xs).length c')∧Own encInt 1 3 w.heap.size w' A' (idsAt bs xs).length c' (idsAt bs xs):=by
 have hln:=hl.len
 have hXn:=hX.len
 have zn:=block_lt_of_cell cn
 simp only at zn
 have z0:=block_lt_of_cell c0
 simp only at z0
 have z1:=block_lt_of_cell c2
 simp only at z1
 have HL:=Lib.hid hl
 have HX:=Lib.hid hX
 have HS:=Lib.hid hs
 have HOK:=Lib.hid hok
 have HC:Hid (∀ W,Below w.heap.size w W→W.cell? ⟨b0,0,none⟩=some (.slice X nX cX)∧W.cell? ⟨b1,1,none⟩=some (.slice A n c)):=(show ∀ W,_→_ from fun W h=>⟨(h.cell (p:=⟨b0,0,none⟩) z0).trans c0,(h.cell (p:=⟨b1,1,none⟩) z1).trans c2⟩)
 clear hl hX hs hok
 go_enter Tryz.func77,Tryz.ntmps77
 go_wp2
 go_loopw [4,9] (fun s4 s9 wr=> ∃ (k:Nat) (Ao:Option Addr) (q:Nat),k≤nX∧s4 = .slice Ao k q∧s9 = .int .i64 k∧Hid ((pickB bs (xs.take k)).length=k)∧Hid (Own encBound 4 50 w.heap.size wr Ao k q (pickB bs (xs.take k)))∧Hid (Below w.heap.size w wr)) (fun _ s9 _=>nX-(intOf s9).toNat)
 case atStart=>exact ⟨0,none,0,Nat.zero_le _,rfl,rfl,(show _=_ by simp [pickB]),(show Own _ _ _ _ _ _ _ _ _ from Own.none_ _ _ _ _ _),(show Below _ _ _ from Below.refl _ _)⟩
 case round=>
  obtain ⟨k,Ao,q,hk,rfl,rfl,hlk,hO,hbr⟩:=hrel
  have hzr:=hbr.out.size
  obtain ⟨e0,e2⟩:=HC.out wr hbr.out
  by_cases hlt:k<nX
  · obtain ⟨b,off,xk,rfl,hbw,hxk,hcell⟩:=(HX.out.below hbr.out (Nat.le_refl _)).one hlt
    have g1:wr.cell? ⟨b,off+k,none⟩=some (.int .i64 xk):=(by have:=hcell 0 _ rfl;simpa using this)
    have hxr:=HS.out _ (List.mem_of_getElem? hxk)
    obtain ⟨j,hj⟩:∃ j:Nat,xk=j:=⟨xk.toNat,by omega⟩
    subst hj
    have hjn:j<n:=(by omega)
    obtain ⟨bb,bo,x,rfl,hbb,hx,hcb⟩:=(HL.out.below hbr.out (Nat.le_refl _)).one hjn
    have i0:wr.cell? ⟨bb,bo+j * 4,none⟩=some (.int .i64 x.src):=hcb 0 _ rfl
    have i1:wr.cell? ⟨bb,bo+j * 4+1,none⟩=some (.int .i64 x.dst):=hcb 1 _ rfl
    have i2:wr.cell? ⟨bb,bo+j * 4+2,none⟩=some (.int .i64 x.most):=hcb 2 _ rfl
    have i3:wr.cell? ⟨bb,bo+j * 4+3,none⟩=some (.int .i64 x.by_):=hcb 3 _ rfl
    have hwi:withinB (j:Int) 0 ((n:Int)-1)=true:=withinB_iff.2 (by omega)
    have hpk:pickB bs (xs.take (k+1))=pickB bs (xs.take k) ++ [x]:=(by
     unfold pickB
     rw [List.take_add_one,hxk,List.filterMap_append]
     congr 1
     simp [hx])
    have HWI:=Lib.hid hwi
    have HPK:=Lib.hid hpk
    have hw1:IntKind.i64.wrap ((n:Int)-1)=(n:Int)-1:=(by rw [IntKind.wrap_i64];omega)
    have HRD:=Lib.hid (Rd.single (enc:=encBound) (k:=4) wr #[.int .i64 x.src,.int .i64 x.dst,.int .i64 x.most,.int .i64 x.by_] 50 [x] 1 rfl (by omega) (fun _=>rfl) (by simp [encBound]))
    clear hcell hxk hwi hpk hcb hx hxr
    go_wp2_with (first
     | (go_at_call 79;(with_reducible refine (within_any _ _ _ _).mono ?_);rintro e w2 ⟨rfl,hw2⟩;obtain rfl:=hw2.symm;rw [HWI.out])
     | (go_at_call 78;((with_reducible refine (need_any wr).mono ?_);rintro e w2 ⟨rfl,hw2⟩;obtain rfl:=hw2))
     | (at_builtin;refine wpList_append_src elBound (fun _=>rfl) oneBound rfl _ _ rfl _ _ _ _ rfl rfl (hO.out.alloc _) HRD.out (by omega) (by decide) (by simp;omega) ?_;intro A' c' w8 hown' hg8 hA8
        have HG8:=Lib.hid hg8
        have HO8:=Lib.hid hown'
        clear hown' hg8 hA8))
    go_roundw
    case rel=>exact ⟨k+1,A',c',by omega,rfl,by go_num,(show _=_ from by rw [HPK.out,List.length_append,hlk.out];rfl),(show Own _ _ _ _ _ _ _ _ _ from by rw [HPK.out];exact HO8.out),(show Below _ _ _ from (hbr.out.alloc hzr _).grown HG8.out (by simp;omega) (fun k e=>hO.out.ltB k e))⟩
    case measure=>simp [intOf];omega
  · have hkn:k=nX:=by omega
    subst hkn
    rw [List.take_of_length_le (by omega)] at hlk hO
    have hI:=idsOf_any Ao k q (pickB bs xs) wr (hO.out.rd (fun _=>rfl) (by omega)) (fun b hb=>by
     obtain ⟨i,_,hi⟩:=List.mem_filterMap.1 hb
     exact HOK.out b (List.mem_of_getElem? hi)) (by omega)
    have HI:=Lib.hid hI
    clear hI
    have d1:wr.cell? ⟨b2,0,none⟩=some v0:=(hbr.out.cell (p:=⟨b2,0,none⟩) zn).trans cn
    have d2:wr.frozen? ⟨b2,0,none⟩=false:=(hbr.out.frozen (p:=⟨b2,0,none⟩) zn).trans fn
    go_wp2_with (go_at_call 80;(with_reducible refine HI.out.mono ?_);rintro e w2 ⟨A',c',rfl,hb,ho⟩
                 have t1:w2.cell? ⟨b2,0,none⟩=some v0:=(hb.cell (p:=⟨b2,0,none⟩) (show b2<wr.heap.size by omega)).trans d1
                 have t2:w2.frozen? ⟨b2,0,none⟩=false:=(hb.frozen (p:=⟨b2,0,none⟩) (show b2<wr.heap.size by omega)).trans d2
                 have HB:=Lib.hid hb
                 have HO:=Lib.hid ho
                 clear hb ho)
    go_ret
    have hbb:=hbr.out.trans (HB.out.mono hzr)
    refine ⟨rfl,⟨hbb.os,hbb.tape,hbb.output,by simpa using hbb.size,fun k hk ht=>(Below.heap_setCell _ _ _ k (show k≠b2 from ht)).trans (hbb.block k hk)⟩,A',c',World.cell?_setCell_same' _ _ _ (by rw [t1];rfl),?_⟩
    exact (HO.out.mono hzr).kept (grownBy_setCell' w2 b2 0 _) (by
     rcases HO.out.block with h|⟨g,cur,rfl,_,hg⟩
     · exact .inl h
     · exact .inr (fun e=>by have e2:=Option.some.inj e;simp only at e2;omega))
theorem tried_gen (pts:Int) (A:Option Addr) (n c:Nat) (bs:List Bound) (g:Nat) (lb:Array Value) (eg:∀ args w,(callFunc g args).run Tryz.prog w = .ok (.enter g args) w) (v:Int) (w:World) (hl:Rd encBound 4 w A n c bs) (hk:checkSys pts bs=0)
 (T:Nat→Prop) (hT:∀ k,T k→k<w.heap.size) (Φ:World→Prop) (hΦ:∀ (W1:World) (u:Value),Φ W1→Φ (W1.setCell ⟨w.heap.size+1,0,none⟩ u))
 (hdo:∀ W,Below w.heap.size w W→w.heap.size+2≤W.heap.size→Calls Tryz.prog g lb W fun e W'=>e = .returned (.int .i64 v)∧GrownT T W W'∧Φ W'):
 Calls Tryz.prog 76 #[.agg #[.int .i64 pts,.slice A n c],.func (.func g) #[] lb] w fun e w'=>e = .returned (.int .i64 v)∧GrownT T w w'∧Φ w':=by
 have hc:=CheckSystem_any pts A n c bs _ ((hl.alloc (.cells #[.int .i64 pts,.slice A n c] 83)).alloc (.cells #[.int .i64 0] 27))
 rw [hk] at hc
 have HC:=Lib.hid hc
 clear hc hk hl
 go_enter_defers Tryz.func76,Tryz.ntmps76
 go_wp2_with (first
  | (go_at_call 70;refine HC.out.mono ?_;rintro e w2 ⟨rfl,hb⟩
     have hz2:=hb.size
     simp only [World.size_alloc] at hz2
     have hb2:Below w.heap.size w w2:=(((Below.refl _ w).alloc (Nat.le_refl _) _).alloc (by simp) _).trans (hb.mono (by simp;omega))
     have d1:w2.cell? ⟨w.heap.size+1,0,none⟩=some (.int .i64 0):=(hb.cell (p:=⟨w.heap.size+1,0,none⟩) (by simp)).trans (by rw [World.cell?_alloc_at _ _ _ _ (by simp)];rfl)
     have f1:w2.frozen? ⟨w.heap.size+1,0,none⟩=false:=(hb.frozen (p:=⟨w.heap.size+1,0,none⟩) (by simp)).trans (World.frozen?_alloc_at _ _ _ _ (by simp))
     have hd:=hdo w2 hb2 (by omega)
     have HD:=Lib.hid hd
     clear hd)
  | (go_at_fn g;refine HD.out.mono ?_;rintro e w3 ⟨rfl,hg3,hf3⟩
     have e1:w3.cell? ⟨w.heap.size+1,0,none⟩=some (.int .i64 0):=(hg3.cell (by omega) (fun h=>by have:=hT _ h;omega)).trans d1
     have g1:w3.frozen? ⟨w.heap.size+1,0,none⟩=false:=(hg3.frozen (by omega) (fun h=>by have:=hT _ h;omega)).trans f1))
 refine leaves_cons (f:=117) (args:=#[.pointer (some ⟨w.heap.size+1,0,none⟩)]) (by simp) (by simp [go_sem]) ?_
 refine (tried1_idle ⟨w.heap.size+1,0,none⟩ _).mono ?_
 rintro e u' w'' ⟨rfl,rfl,rfl⟩
 have hz3:=hg3.size
 have hcv:(w3.setCell ⟨w.heap.size+1,0,none⟩ (.int .i64 v)).cell? ⟨w.heap.size+1,0,none⟩=some (.int .i64 v):=World.cell?_setCell_same' _ _ _ (by rw [e1];rfl)
 have hgw:GrownT T w w3:=(GrownT.refl T w |>.of_below hb2 (Nat.le_refl _)).trans hg3
 have hpost:GrownT T w (w3.setCell ⟨w.heap.size+1,0,none⟩ (.int .i64 v))∧Φ (w3.setCell ⟨w.heap.size+1,0,none⟩ (.int .i64 v)):=
  ⟨⟨hgw.os,hgw.tape,hgw.output,by simpa using hgw.size,fun k hk ht=>(Below.heap_setCell _ _ _ k (show k≠w.heap.size+1 by omega)).trans (hgw.block k hk ht)⟩,
   hΦ w3 _ hf3⟩
 have HP:=Lib.hid hpost
 clear hpost HC HD
 refine ⟨.int .i64 v,?_,rfl,HP.out⟩
 simp [results,Tryz.results76,go_sem,hcv]
theorem Ids_any (pts:Int) (A:Option Addr) (n c:Nat) (bs:List Bound) (X:Option Addr) (nX cX:Nat) (xs:List Int) (w:World) (hl:Rd encBound 4 w A n c bs) (hX:Rd encInt 1 w X nX cX xs) (hk:checkSys pts bs=0) (hs:∀ x∈xs,0≤x∧x<bs.length) (hnX:nX≤100000):
 Calls Tryz.prog 49 #[.agg #[.int .i64 pts,.slice A n c],.slice X nX cX] w fun e w'=> ∃ A' c',e = .returned (.tuple #[.slice A' (idsAt bs xs).length c',.int .i64 0])∧Below w.heap.size w w'∧Own encInt 1 3 w.heap.size w' A' (idsAt bs xs).length c' (idsAt bs xs):=by
 obtain ⟨W1,hW1⟩:∃ W1,((w.alloc (.cells #[.int .i64 pts,.slice A n c] 83)).alloc (.cells #[.slice X nX cX] 51)).alloc (.cells #[.slice none 0 0] 51)=W1:=⟨_,rfl⟩
 have hs1:W1.heap.size=w.heap.size+3:=by rw [←hW1];simp
 have hb1:Below w.heap.size w W1:=by rw [←hW1];exact (((Below.refl _ w).alloc (Nat.le_refl _) _).alloc (by simp<;>omega) _).alloc (by simp<;>omega) _
 have hl1:=hl.below hb1 (Nat.le_refl _)
 have hX1:=hX.below hb1 (Nat.le_refl _)
 have e0:∀ i,W1.cell? ⟨w.heap.size,i,none⟩ = #[Value.int .i64 pts,.slice A n c][i]? := fun i=>by rw [←hW1,World.cell?_alloc_past _ _ _ (by simp<;>omega),World.cell?_alloc_past _ _ _ (by simp<;>omega),World.cell?_alloc_at _ _ _ _ rfl]
 have ea:W1.cell? ⟨w.heap.size+1,0,none⟩=some (.slice X nX cX):=by rw [←hW1,World.cell?_alloc_past _ _ _ (by simp<;>omega),World.cell?_alloc_at _ _ _ _ (by simp<;>omega)];rfl
 have en:W1.cell? ⟨w.heap.size+2,0,none⟩=some (.slice none 0 0):=by rw [←hW1,World.cell?_alloc_at _ _ _ _ (by simp<;>omega)];rfl
 have fnz:W1.frozen? ⟨w.heap.size+2,0,none⟩=false:=by rw [←hW1];exact World.frozen?_alloc_at _ _ _ _ (by simp<;>omega)
 have htr:=tried_gen pts A n c bs 77 #[.pointer (some ⟨w.heap.size+1,0,none⟩),.pointer (some ⟨w.heap.size,0,none⟩),.pointer (some ⟨w.heap.size+2,0,none⟩)] ent_ids1 0 W1 hl1 hk
  (fun k=>k=w.heap.size+2) (fun k hk=>by omega) (fun W=> ∃ A' c',W.cell? ⟨w.heap.size+2,0,none⟩=some (.slice A' (idsAt bs xs).length c')∧Own encInt 1 3 (W1.heap.size+2) W A' (idsAt bs xs).length c' (idsAt bs xs)) (fun W u h=>by
    obtain ⟨A',c',q1,q2⟩:=h
    exact ⟨A',c',(World.cell?_of_block (a:=⟨w.heap.size+2,0,none⟩) (Below.heap_setCell _ _ _ _ (by show w.heap.size+2≠W1.heap.size+1;omega))).trans q1,q2.kept (grownBy_setCell' W (W1.heap.size+1) 0 u) (by
     rcases q2.block with h|⟨g,cur,rfl,_,hg⟩
     · exact .inl h
     · exact .inr (fun e=>by have e2:=Option.some.inj e;simp only at e2;omega))⟩)
  (fun W hW hsz=>by
    refine (ids1_any pts A n c bs X nX cX xs (w.heap.size+1) w.heap.size (w.heap.size+2) (.slice none 0 0) W (hl1.below hW (Nat.le_refl _)) (hX1.below hW (Nat.le_refl _)) (checkSys_zero.1 hk).2.2.1 (fun b hb=>by have:=wrongB_no.1 ((checkSys_zero.1 hk).2.2.2 b hb);omega) hs hnX
    ((hW.cell (p:=⟨w.heap.size+1,0,none⟩) (show w.heap.size+1<W1.heap.size by omega)).trans ea) ((hW.cell (p:=⟨w.heap.size,1,none⟩) (show w.heap.size<W1.heap.size by omega)).trans (e0 1))
    ((hW.cell (p:=⟨w.heap.size+2,0,none⟩) (show w.heap.size+2<W1.heap.size by omega)).trans en) ((hW.frozen (p:=⟨w.heap.size+2,0,none⟩) (show w.heap.size+2<W1.heap.size by omega)).trans fnz)).mono ?_
    rintro e w' ⟨rfl,h2,A',c',h3,h4⟩
    exact ⟨rfl,h2,A',c',h3,h4.mono hsz⟩)
 have HT:=Lib.hid htr
 have HW:=Lib.hid hW1
 clear htr hW1 e0 ea en fnz hl hl1 hX hX1 hk hs
 go_enter Tryz.func49,Tryz.ntmps49
 go_wp2_with (go_at_call 76;rw [HW.out];refine HT.out.mono ?_;rintro e w2 ⟨rfl,hg,A',c',hc,ho⟩;have HO:=Lib.hid ho;clear ho)
 go_ret2
 exact ⟨A',c',rfl,hb1.trans ⟨hg.os,hg.tape,hg.output,by have:=hg.size;omega,fun k hk=>hg.block k (by omega) (by omega)⟩,HO.out.mono (by omega)⟩
theorem alongTo_rng {bs:List Bound} {l:List Int} {a:Int} :∀ {k:Nat} {st:AlSt},alongTo bs l a k=some st→∀ i∈l.take k,0≤i∧i<bs.length
 | 0,_,_,i,hi=>by simp at hi
 | k+1,st,h,i,hi=>by
   unfold alongTo at h
   rw [List.take_add_one] at hi
   cases hk:l[k]? with
   | none=>rw [hk] at h hi;exact alongTo_rng h i (by simpa using hi)
   | some x=>
     rw [hk] at h hi
     obtain ⟨s1,h1,h2⟩:=Option.bind_eq_some_iff.1 h
     rcases List.mem_append.1 hi with hi|hi
     · exact alongTo_rng h1 i hi
     · have:i=x:=by simpa using hi
       subst this
       unfold alongStep at h2
       split at h2
       · rename_i hc;exact hc.1
       · cases h2
theorem circleB_rng {bs:List Bound} {l:List Int} (h:circleB bs l=true):∀ i∈l,0≤i∧i<bs.length:=by
 unfold circleB alongV at h
 generalize (bnd bs (l.getD 0 0)).src=a at h
 cases hk:alongTo bs l a l.length with
 | none=>rw [hk] at h;simp at h
 | some st=>exact fun i hi=>alongTo_rng hk i (by rw [List.take_length];exact hi)
def restsErr (A B:Outl) (p:Pairing) (tn:Bool) (l:List Int):Int:=if askedErr A B p≠0 then askedErr A B p else if clashB A B p tn l then 0 else 1
def restsV (A B:Outl) (p:Pairing) (tn:Bool) (l:List Int):List Int:=if restsErr A B p tn l=0 then idsAt (clashL A B p tn) l else []
theorem Rests_any (A:Outl) (AwA:Option Addr) (Awn Awc:Nat) (AtA:Option Addr) (Atn Atc:Nat) (B:Outl) (BwA:Option Addr) (Bwn Bwc:Nat) (BtA:Option Addr) (Btn Btc:Nat) (p:Pairing) (tn:Bool) (L:Option Addr) (m lc:Nat) (l:List Int) (w:World) (Aw:Rd encBound 4 w AwA Awn Awc A.ways) (At:Rd encBound 4 w AtA Atn Atc A.turns) (Bw:Rd encBound 4 w BwA Bwn Bwc B.ways) (Bt:Rd encBound 4 w BtA Btn Btc B.turns) (hL:Rd encInt 1 w L m lc l) (hm:m≤100000):
 Calls Tryz.prog 19 #[.agg #[.int .i64 A.n,.slice AwA Awn Awc,.slice AtA Atn Atc],.agg #[.int .i64 B.n,.slice BwA Bwn Bwc,.slice BtA Btn Btc],.agg #[.int .i64 p.a.lo,.int .i64 p.a.hi,.int .i64 p.b.lo,.int .i64 p.b.hi],.agg #[.bool tn,.slice L m lc]] w fun e w'=> ∃ A' c',e = .returned (.tuple #[.slice A' (restsV A B p tn l).length c',.int .i64 (restsErr A B p tn l)])∧Below w.heap.size w w'∧Own encInt 1 3 w.heap.size w' A' (restsV A B p tn l).length c' (restsV A B p tn l):=by
 obtain ⟨w1,hw1,hb1,hz1,hbx⟩:=boxABP w A AwA Awn Awc AtA Atn Atc B BwA Bwn Bwc BtA Btn Btc p
 obtain ⟨w2,a2,b2,z2,e2⟩:=alloc_facts w1 #[.bool tn,.slice L m lc] 53
 have KX:=Lib.hid hbx
 have RA:Hid (∀ W,Below w1.heap.size w1 W→Rd encBound 4 W AwA Awn Awc A.ways):=(show ∀ W,_→_ from fun W h=>(Aw.below hb1 (Nat.le_refl _)).below h (Nat.le_refl _))
 have RT:Hid (∀ W,Below w1.heap.size w1 W→Rd encBound 4 W AtA Atn Atc A.turns):=(show ∀ W,_→_ from fun W h=>(At.below hb1 (Nat.le_refl _)).below h (Nat.le_refl _))
 have RB:Hid (∀ W,Below w1.heap.size w1 W→Rd encBound 4 W BwA Bwn Bwc B.ways):=(show ∀ W,_→_ from fun W h=>(Bw.below hb1 (Nat.le_refl _)).below h (Nat.le_refl _))
 have RU:Hid (∀ W,Below w1.heap.size w1 W→Rd encBound 4 W BtA Btn Btc B.turns):=(show ∀ W,_→_ from fun W h=>(Bt.below hb1 (Nat.le_refl _)).below h (Nat.le_refl _))
 have RL:Hid (∀ W,Below w1.heap.size w1 W→Rd encInt 1 W L m lc l):=(show ∀ W,_→_ from fun W h=>(hL.below hb1 (Nat.le_refl _)).below h (Nat.le_refl _))
 have K1:=Lib.hid (fun W (h:Below w1.heap.size w1 W)=>CheckClash_any A AwA Awn Awc AtA Atn Atc B BwA Bwn Bwc BtA Btn Btc p tn L m lc l W (RA.out W h) (RT.out W h) (RB.out W h) (RU.out W h) (RL.out W h) (by omega))
 have HB1:=Lib.hid hb1
 have HB12:=Lib.hid b2
 have HW1:=Lib.hid hw1
 have HW2:=Lib.hid a2
 have HE2:=Lib.hid e2
 obtain ⟨xa0,xa1,xa2,xb0,xb1,xb2,xp0,xp1,xp2,xp3⟩:=KX.out w2 b2
 obtain ⟨y0,y1⟩:w2.cell? ⟨w.heap.size+1+1+1,0,none⟩=some (.bool tn)∧w2.cell? ⟨w.heap.size+1+1+1,1,none⟩=some (.slice L m lc):=(by rw [hz1] at e2;simp [World.cell?,e2])
 clear Aw At Bw Bt hb1 hbx hw1 a2 b2 e2 hL
 by_cases h1:askedErr A B p=0
 case neg=>
  have hv:restsErr A B p tn l=askedErr A B p:=by unfold restsErr;rw [if_pos h1]
  have hr:restsV A B p tn l = []:=by unfold restsV;rw [hv,if_neg h1]
  rw [hr,hv]
  have h1':(askedErr A B p != 0)=true:=by simpa using h1
  clear h1 hv hr
  generalize askedErr A B p=er at *
  generalize clashB A B p tn l=cb at *
  go_enter Tryz.func19,Tryz.ntmps19
  go_wp2_with (first
   | rw [HW1.out]
   | rw [HW2.out]
   | (go_at_call 48;(with_reducible refine (K1.out _ HB12.out).mono ?_);rintro e w3 ⟨rfl,hb3⟩;have HB3:=Lib.hid (HB12.out.trans (hb3.mono HB12.out.size));clear hb3))
  go_ret2
  exact ⟨none,0,rfl,HB1.out.trans (HB3.out.mono HB1.out.size),Own.none_ _ _ _ _ _⟩
 case pos=>
  have hok:=askedErr_zero.1 h1
  by_cases h2:clashB A B p tn l=true
  case neg=>
   have hcf:clashB A B p tn l=false:=by simpa using h2
   have hv:restsErr A B p tn l=1:=by unfold restsErr;rw [if_neg (by simpa using h1),if_neg h2]
   have hr:restsV A B p tn l = []:=by unfold restsV;rw [hv];rfl
   rw [hr,hv]
   rw [hcf,h1] at K1
   clear h1 h2 hcf hv hr hok
   go_enter Tryz.func19,Tryz.ntmps19
   go_wp2_with (first
    | rw [HW1.out]
    | rw [HW2.out]
    | (go_at_call 48;(with_reducible refine (K1.out _ HB12.out).mono ?_);rintro e w3 ⟨rfl,hb3⟩;have HB3:=Lib.hid (HB12.out.trans (hb3.mono HB12.out.size));clear hb3))
   go_ret2
   exact ⟨none,0,rfl,HB1.out.trans (HB3.out.mono HB1.out.size),Own.none_ _ _ _ _ _⟩
  have hv:restsErr A B p tn l=0:=by unfold restsErr;rw [if_neg (by simpa using h1),if_pos h2]
  have hr:restsV A B p tn l=idsAt (clashL A B p tn) l:=by unfold restsV;rw [if_pos hv]
  have hcb:circleB (clashL A B p tn) l=true:=by unfold clashB at h2;simpa [h1] using h2
  have hrg:=circleB_rng hcb
  rw [hr,hv]
  have C1:Hid (∀ W,Below w1.heap.size w1 W→Calls Tryz.prog 42 #[.agg #[.int .i64 A.n,.slice AwA Awn Awc,.slice AtA Atn Atc,.int .i64 B.n,.slice BwA Bwn Bwc,.slice BtA Btn Btc,.int .i64 p.a.lo,.int .i64 p.a.hi,.int .i64 p.b.lo,.int .i64 p.b.hi]] W fun e w'=> ∃ u,e = .returned u∧Below W.heap.size W w'∧TwoSys A B p u w'):=(show ∀ W,_→_ from fun W h=>systems_two A AwA Awn Awc AtA Atn Atc B BwA Bwn Bwc BtA Btn Btc p W (RA.out W h) (RT.out W h) (RB.out W h) (RU.out W h) hok)
  have C3:Hid (∀ W v,Below w1.heap.size w1 W→OneSys (clashN A B p tn) (clashL A B p tn) v W→Calls Tryz.prog 49 #[v,.slice L m lc] W fun e w'=> ∃ a b,e = .returned (.tuple #[a,b])∧Below W.heap.size W w'∧(b = .int .i64 0∧∃ A' c',a = .slice A' (idsAt (clashL A B p tn) l).length c'∧Own encInt 1 3 w1.heap.size w' A' (idsAt (clashL A B p tn) l).length c' (idsAt (clashL A B p tn) l))):=(show ∀ W v,_→_→_ from by
   rintro W v h ⟨A',k,c',rfl,hr⟩
   refine (Ids_any _ A' k c' _ L m lc l W hr (RL.out W h) (clash_sys hok tn) hrg hm).mono ?_
   rintro e w' ⟨A2,c2,rfl,hb,ho⟩
   exact ⟨_,_,rfl,hb,rfl,A2,c2,rfl,ho.mono h.size⟩)
  rw [h2,h1] at K1
  generalize idsAt (clashL A B p tn) l=R at *
  clear h1 h2 hv hr hcb hrg hok
  go_enter Tryz.func19,Tryz.ntmps19
  go_upto_region 7 with (first
   | rw [HW1.out]
   | rw [HW2.out]
   | (go_at_call 48;(with_reducible refine (K1.out _ HB12.out).mono ?_);rintro e w3 ⟨rfl,hb3⟩
      obtain ⟨ya0,ya1,ya2,yb0,yb1,yb2,yp0,yp1,yp2,yp3⟩:=KX.out w3 (HB12.out.trans (hb3.mono HB12.out.size))
      obtain ⟨w4,a4,b4,z4,e4⟩:=alloc_facts w3 #[.int .i64 A.n,.slice AwA Awn Awc,.slice AtA Atn Atc,.int .i64 B.n,.slice BwA Bwn Bwc,.slice BtA Btn Btc,.int .i64 p.a.lo,.int .i64 p.a.hi,.int .i64 p.b.lo,.int .i64 p.b.hi] 77
      have HB4:=Lib.hid (HB12.out.trans ((hb3.trans (b4.mono hb3.size)).mono HB12.out.size))
      have HH:=Lib.hid (((b4.block w1.heap.size (by have:=hb3.size;omega)).trans (hb3.block w1.heap.size (by omega))).trans HE2.out)
      have E4:=Lib.hid e4
      have Z4:=Lib.hid z4
      have Z3:=Lib.hid hb3.size
      have HA4:=Lib.hid a4
      clear hb3 a4 b4 z4 e4)
   | rw [HA4.out])
  have HCE:Hid (∀ W,Below w4.heap.size w4 W→Below w1.heap.size w1 W∧(W.cell? ⟨w3.heap.size,0,none⟩=some (.int .i64 A.n)∧W.cell? ⟨w3.heap.size,1,none⟩=some (.slice AwA Awn Awc)∧W.cell? ⟨w3.heap.size,2,none⟩=some (.slice AtA Atn Atc)∧W.cell? ⟨w3.heap.size,3,none⟩=some (.int .i64 B.n)∧W.cell? ⟨w3.heap.size,4,none⟩=some (.slice BwA Bwn Bwc)∧W.cell? ⟨w3.heap.size,5,none⟩=some (.slice BtA Btn Btc)∧W.cell? ⟨w3.heap.size,6,none⟩=some (.int .i64 p.a.lo)∧W.cell? ⟨w3.heap.size,7,none⟩=some (.int .i64 p.a.hi)∧W.cell? ⟨w3.heap.size,8,none⟩=some (.int .i64 p.b.lo)∧W.cell? ⟨w3.heap.size,9,none⟩=some (.int .i64 p.b.hi)∧W.cell? ⟨w.heap.size+1+1+1,0,none⟩=some (.bool tn)∧W.cell? ⟨w.heap.size+1+1+1,1,none⟩=some (.slice L m lc))):=(show ∀ W,_→_ from fun W hW=>by
   have hB:=HB4.out.trans (hW.mono HB4.out.size)
   have hh:=(hW.block w3.heap.size (by have:=Z4.out;omega)).trans E4.out
   have hf:=(hW.block w1.heap.size (by have:=Z4.out;have:=Z3.out;omega)).trans HH.out
   rw [hz1] at hf
   obtain ⟨c0,c1,c2,c3,c4,c5,c6,c7,c8,c9⟩:=ten_cells hh
   exact ⟨hB,c0,c1,c2,c3,c4,c5,c6,c7,c8,c9,by simp [World.cell?,hf],by simp [World.cell?,hf]⟩)
  refine rst7 _ rfl w3.heap.size (w.heap.size+1+1+1) (.int .i64 A.n) (.slice AwA Awn Awc) (.slice AtA Atn Atc) (.int .i64 B.n) (.slice BwA Bwn Bwc) (.slice BtA Btn Btc) (.int .i64 p.a.lo) (.int .i64 p.a.hi) (.int .i64 p.b.lo) (.int .i64 p.b.hi) (.bool tn) (.slice L m lc) _ w4 _ rfl rfl rfl (TwoSys A B p) (OneSys (clashN A B p tn) (clashL A B p tn)) (fun a b W=>b = .int .i64 0∧∃ A' c',a = .slice A' R.length c'∧Own encInt 1 3 w1.heap.size W A' R.length c' R) (fun W hW=>(HCE.out W hW).2) (fun W hW=>C1.out W (HCE.out W hW).1) (fun W u hW hu=>system_one hu tn _) (fun W v hW hv=>C3.out W v (HCE.out W hW).1 hv) ?_
  rintro u v _ _ w5 hb5 ⟨rfl,A',c',rfl,ho5⟩
  have HB5:=Lib.hid (HB1.out.trans ((HB4.out.trans (hb5.mono HB4.out.size)).mono HB1.out.size))
  have HO5:=Lib.hid ho5
  clear hb5 ho5
  simp only [setsL,List.setIfInBounds_toArray,List.set_cons_succ,List.set_cons_zero,Nat.reduceAdd]
  go_wp2
  go_ret2
  exact ⟨A',c',rfl,HB5.out,HO5.out.mono HB1.out.size⟩
def keepsB (bs:List Bound) (x:List Int):Bool:=bs.all fun b=> !decide (b.most<x.getD b.dst.toNat 0-x.getD b.src.toNat 0)
def brokenP (xs:List Int) (b:Bound):Bool:=decide (b.most<xs.getD b.dst.toNat 0-xs.getD b.src.toNat 0)
def PredIn {α:Type} (P:Program) (g:Nat) (lb:Array Value) (enc:α→Value) (p:α→Bool) (l:List α) (w:World):Prop:=
 ∀ (W:World) (x:α),x∈l→Below w.heap.size w W→Calls P g (#[enc x]++lb) W fun e w'=>e = .returned (.bool (p x))∧Below w.heap.size w w'
theorem IndexFuncIn_Bound (g:Nat) (lb:Array Value) (eg:∀ args w,(callFunc g args).run Tryz.prog w = .ok (.enter g args) w) (p:Bound→Bool) (A:Option Addr) (n c:Nat) (l:List Bound) (w:World)
 (hl:Rd encBound 4 w A n c l) (hp:PredIn Tryz.prog g lb (fun x=> .agg (encBound x).toArray) p l w):
 Calls Tryz.prog 140 #[.slice A n c,.func (.func g) #[] lb] w fun e w'=>e = .returned (.int .i64 (idxI p l))∧Below w.heap.size w w':=by
 have hbig:=hl.big
 go_enter Tryz.func140,Tryz.ntmps140
 go_wp2
 go_loopw [5,8] (fun _ i wr=> ∃ k:Nat,k≤n∧i = .int .i64 k∧Below w.heap.size w wr∧Hid (∀ j x,j<k→l[j]? = some x→p x=false)) (fun _ i _=>n-(intOf i).toNat)
 case atStart=>exact ⟨0,Nat.zero_le _,rfl,Below.refl _ _,fun j x h=>absurd h (by omega)⟩
 case round=>
  obtain ⟨k,hk,rfl,hb,hno⟩:=hrel
  by_cases hlt:k<n
  · obtain ⟨b,off,x,rfl,hbw,hx,hcell⟩:=(hl.below hb (Nat.le_refl _)).one hlt
    have hlen:=hl.len
    have c0:wr.cell? ⟨b,off+k * 4,none⟩=some (.int .i64 x.src):=hcell 0 _ rfl
    have c1:wr.cell? ⟨b,off+k * 4+1,none⟩=some (.int .i64 x.dst):=hcell 1 _ rfl
    have c2:wr.cell? ⟨b,off+k * 4+2,none⟩=some (.int .i64 x.most):=hcell 2 _ rfl
    have c3:wr.cell? ⟨b,off+k * 4+3,none⟩=some (.int .i64 x.by_):=hcell 3 _ rfl
    have hcall:=hp wr x (List.mem_of_getElem? hx) hb
    simp only [encBound] at hcall
    clear hcell hp hl
    cases hq:p x with
    | true=>
      rw [hq] at hcall
      have HQ:=Lib.hid hq
      have HX:=Lib.hid hx
      clear hq hx hlen
      go_wp2_with (go_at_fn g;refine hcall.mono ?_;rintro e w' ⟨rfl,hb'⟩)
      go_ret
      refine ⟨?_,hb'⟩
      rw [idxI_hit p l k x HX.out HQ.out hno.out]
      rfl
    | false=>
      rw [hq] at hcall
      have HQ:=Lib.hid hq
      have HX:=Lib.hid hx
      clear hq hx hlen
      go_wp2_with (go_at_fn g;refine hcall.mono ?_;rintro e w' ⟨rfl,hb'⟩)
      go_roundw
      case rel=>
       refine ⟨k+1,by omega,by go_num,hb',fun j y hj hy=> ?_⟩
       by_cases e:j=k
       · subst e
         rw [HX.out] at hy
         cases hy
         exact HQ.out
       · exact hno.out j y (by omega) hy
      case measure=>simp [intOf];omega
  · have:k=n:=by omega
    subst this
    have hlen:=hl.len
    go_wp2
    go_ret
    refine ⟨?_,hb⟩
    rw [idxI_miss p l (fun j x hj=>hno.out j x (by have:=(List.getElem?_eq_some_iff.1 hj).1;omega) hj)]
    rfl
theorem ent_broken1:∀ args w,(callFunc 142 args).run Tryz.prog w = .ok (.enter 142 args) w:=enters_of Tryz.func142 (by kernel_rfl) rfl
theorem broken1 (X:Option Addr) (nX cX:Nat) (xs:List Int) (bx:Nat) (bs:List Bound) (w:World) (hX:Rd encInt 1 w X nX cX xs) (c0:w.cell? ⟨bx,0,none⟩=some (.slice X nX cX)) (hlt:bx<w.heap.size)
 (hb:∀ b∈bs,0≤b.src∧b.src<nX∧0≤b.dst∧b.dst<nX) (_:nX≤60) (hs:∀ x∈xs,-1000000000≤x∧x≤1000000000):
 PredIn Tryz.prog 142 #[.pointer (some ⟨bx,0,none⟩)] (fun x=> .agg (encBound x).toArray) (brokenP xs) bs w:=by
 intro W x hx hbl
 have hz:=hbl.size
 simp only [encBound,List.append_toArray,List.cons_append,List.nil_append]
 obtain ⟨s1,s2,s3,s4⟩:=hb x hx
 obtain ⟨i,hi⟩:∃ i:Nat,x.src=(i:Int):=⟨x.src.toNat,by omega⟩
 obtain ⟨k,hk⟩:∃ k:Nat,x.dst=(k:Int):=⟨x.dst.toNat,by omega⟩
 have hi2:i<nX:=by omega
 have hk2:k<nX:=by omega
 obtain ⟨b,off,xi,rfl,hbw,hxi,hci⟩:=(hX.below hbl (Nat.le_refl _)).one hi2
 obtain ⟨b2,off2,xk,e2,_,hxk,hck⟩:=(hX.below hbl (Nat.le_refl _)).one hk2
 cases e2
 have m1:=hs _ (List.mem_of_getElem? hxi)
 have m2:=hs _ (List.mem_of_getElem? hxk)
 have g1:W.cell? ⟨bx,0,none⟩=some (.slice (some ⟨b,off,none⟩) nX cX):=(hbl.cell (p:=⟨bx,0,none⟩) hlt).trans c0
 have g2:W.cell? ⟨b,off+i,none⟩=some (.int .i64 xi):=(by have:=hci 0 _ rfl;simpa using this)
 have g3:W.cell? ⟨b,off+k,none⟩=some (.int .i64 xk):=(by have:=hck 0 _ rfl;simpa using this)
 have hv:Hid (brokenP xs x=decide (x.most<xk-xi)):=(show _=_ by
  unfold brokenP
  rw [hi,hk,Int.toNat_natCast,Int.toNat_natCast,List.getD_eq_getElem?_getD,List.getD_eq_getElem?_getD,hxi,hxk];rfl)
 have hbx:bx<W.heap.size:=by omega
 have hw0:IntKind.i64.wrap (xk-xi)=xk-xi:=(by rw [IntKind.wrap_i64];omega)
 have HBL:=Lib.hid hbl
 clear hci hck hxi hxk hX hbl s1 s2 s3 s4 hb hs c0 hz
 rw [hi,hk]
 rw [hv.out]
 have HI:=Lib.hid (And.intro hi hk)
 clear hi hk
 go_enter Tryz.func142,Tryz.ntmps142
 go_wp2_with (go_quiet (fail))
 go_ret
 exact ⟨rfl,by have:=(HBL.out.alloc (by have:=HBL.out.size;omega) (.cells #[.int .i64 i,.int .i64 k,.int .i64 x.most,.int .i64 x.by_] 50));exact below_drewN' this _⟩
theorem broken_any (pts:Int) (A:Option Addr) (n c:Nat) (bs:List Bound) (X:Option Addr) (nX cX:Nat) (xs:List Int) (w:World) (hl:Rd encBound 4 w A n c bs) (hX:Rd encInt 1 w X nX cX xs)
 (hb:∀ b∈bs,0≤b.src∧b.src<nX∧0≤b.dst∧b.dst<nX) (hn:nX≤60) (hs:∀ x∈xs,-1000000000≤x∧x≤1000000000):
 Calls Tryz.prog 115 #[.agg #[.int .i64 pts,.slice A n c],.slice X nX cX] w fun e w'=>e = .returned (.int .i64 (idxI (brokenP xs) bs))∧Below w.heap.size w w':=by
 obtain ⟨W1,hW1⟩:∃ W1,(w.alloc (.cells #[.int .i64 pts,.slice A n c] 83)).alloc (.cells #[.slice X nX cX] 51)=W1:=⟨_,rfl⟩
 have hb1:Below w.heap.size w W1:=by rw [←hW1];exact ((Below.refl _ w).alloc (Nat.le_refl _) _).alloc (by simp) _
 have hz1:W1.heap.size=w.heap.size+2:=by rw [←hW1];simp
 have c0:W1.cell? ⟨w.heap.size+1,0,none⟩=some (.slice X nX cX):=by rw [←hW1,World.cell?_alloc_at _ _ _ _ (by simp)];rfl
 have hI:=IndexFuncIn_Bound 142 #[.pointer (some ⟨w.heap.size+1,0,none⟩)] ent_broken1 (brokenP xs) A n c bs W1 (hl.below hb1 (Nat.le_refl _)) (broken1 X nX cX xs (w.heap.size+1) bs W1 (hX.below hb1 (Nat.le_refl _)) c0 (by omega) hb hn hs)
 have HI:=Lib.hid hI
 have HZ:=Lib.hid hz1
 have HW:=Lib.hid hW1
 clear hl hX hI c0 hz1 hW1
 generalize idxI (brokenP xs) bs=ix at *
 go_enter Tryz.func115,Tryz.ntmps115
 go_wp2_with (go_at_call 140;rw [HW.out];(with_reducible refine HI.out.mono ?_);rintro e w2 ⟨rfl,hb2⟩;have HB2:=Lib.hid hb2;clear hb2)
 go_ret
 exact ⟨rfl,hb1.trans (HB2.out.mono (by have:=HZ.out;omega))⟩
theorem ent_breaks1:∀ args w,(callFunc 114 args).run Tryz.prog w = .ok (.enter 114 args) w:=enters_of Tryz.func114 (by kernel_rfl) rfl
theorem breaks1 (pts:Int) (A:Option Addr) (n c:Nat) (bs:List Bound) (X:Option Addr) (nX cX:Nat) (xs:List Int) (b0 b1 b2:Nat) (v0:Value) (w:World) (hl:Rd encBound 4 w A n c bs) (hX:Rd encInt 1 w X nX cX xs) (hok:SysOk pts bs) (hlen:(nX:Int)=pts) (hs:∀ x∈xs,-1000000000≤x∧x≤1000000000)
 (c0:w.cell? ⟨b0,0,none⟩=some (.slice X nX cX)) (c1:w.cell? ⟨b1,0,none⟩=some (.int .i64 pts)) (c2:w.cell? ⟨b1,1,none⟩=some (.slice A n c)) (cn:w.cell? ⟨b2,0,none⟩=some v0) (fn:w.frozen? ⟨b2,0,none⟩=false):
 Calls Tryz.prog 114 #[.pointer (some ⟨b0,0,none⟩),.pointer (some ⟨b1,0,none⟩),.pointer (some ⟨b2,0,none⟩)] w fun e w'=>e = .returned (.int .i64 0)∧GrownT (fun k=>k=b2) w w'∧w'.cell? ⟨b2,0,none⟩=some (.int .i64 (idxI (brokenP xs) bs)):=by
 have hp2:=hok.p2
 have hbr:=broken_any pts A n c bs X nX cX xs w hl hX (fun b hb=>by have:=hok.b b hb;refine ⟨?_,?_,?_,?_⟩<;>omega) (by omega) hs
 have HBR:=Lib.hid hbr
 have HX:=Lib.hid hX
 have HS:=Lib.hid hs
 have zn:=block_lt_of_cell cn
 simp only at zn
 subst hlen
 clear hbr hl hX hok hs
 generalize idxI (brokenP xs) bs=ix at *
 go_enter Tryz.func114,Tryz.ntmps114
 have hee:((nX:Int)==(nX:Int))=true:=(by simp)
 go_wp2_with (go_at_call 78;((with_reducible refine (need_any w).mono ?_);rintro e w2 ⟨rfl,hw2⟩;obtain rfl:=hw2))
 go_loopw [14] (fun i wr=> ∃ k:Nat,k≤nX∧i = .int .i64 k∧Hid (w=wr)) (fun i _=>nX-(intOf i).toNat)
 case atStart=>exact ⟨0,Nat.zero_le _,rfl,(show w=w from rfl)⟩
 case round=>
  obtain ⟨k,hk,rfl,hw⟩:=hrel
  obtain rfl:=hw.out
  by_cases hlt:k<nX
  · obtain ⟨b,off,xk,rfl,hbw,hxk,hcell⟩:=HX.out.one hlt
    have g1:w.cell? ⟨b,off+k,none⟩=some (.int .i64 xk):=(by have:=hcell 0 _ rfl;simpa using this)
    have hwi:withinB xk (-1000000000) 1000000000=true:=withinB_iff.2 (HS.out _ (List.mem_of_getElem? hxk))
    have HWI:=Lib.hid hwi
    clear hcell hxk hwi
    go_wp2_with (first
     | (go_at_call 79;(with_reducible refine (within_any _ _ _ _).mono ?_);rintro e w2 ⟨rfl,hw2⟩;obtain rfl:=hw2.symm;rw [HWI.out])
     | (go_at_call 78;((with_reducible refine (need_any w).mono ?_);rintro e w2 ⟨rfl,hw2⟩;obtain rfl:=hw2)))
    go_roundw
    all_goals first
     | (simp [intOf];omega)
     | exact ⟨k+1,by omega,by go_num,(by first|exact (show True from trivial)|exact (show w=w from rfl))⟩
  · have hkn:k=nX:=by omega
    subst hkn
    go_wp2_with (go_at_call 115;(with_reducible refine HBR.out.mono ?_);rintro e w2 ⟨rfl,hb⟩
                 have d1:w2.cell? ⟨b2,0,none⟩=some v0:=(hb.cell (p:=⟨b2,0,none⟩) zn).trans cn
                 have d2:w2.frozen? ⟨b2,0,none⟩=false:=(hb.frozen (p:=⟨b2,0,none⟩) zn).trans fn)
    go_ret
    exact ⟨rfl,⟨hb.os,hb.tape,hb.output,by simpa using hb.size,fun k hk ht=>(Below.heap_setCell _ _ _ k (show k≠b2 from ht)).trans (hb.block k hk)⟩,World.cell?_setCell_same' _ _ _ (by rw [d1];rfl)⟩
def brkV (xs:List Int) (bs:List Bound):Int:=idxI (brokenP xs) bs
theorem Breaks_any (pts:Int) (A:Option Addr) (n c:Nat) (bs:List Bound) (X:Option Addr) (nX cX:Nat) (xs:List Int) (w:World) (hl:Rd encBound 4 w A n c bs) (hX:Rd encInt 1 w X nX cX xs) (hk:checkSys pts bs=0) (hlen:(nX:Int)=pts) (hs:∀ x∈xs,-1000000000≤x∧x≤1000000000):
 Calls Tryz.prog 74 #[.agg #[.int .i64 pts,.slice A n c],.slice X nX cX] w fun e w'=> ∃ i:Int,e = .returned (.tuple #[.int .i64 i,.bool (decide (0≤brkV xs bs)),.int .i64 0])∧Below w.heap.size w w':=by
 obtain ⟨W1,hW1⟩:∃ W1,((w.alloc (.cells #[.int .i64 pts,.slice A n c] 83)).alloc (.cells #[.slice X nX cX] 51)).alloc (.cells #[.int .i64 (-1)] 3)=W1:=⟨_,rfl⟩
 have hs1:W1.heap.size=w.heap.size+3:=by rw [←hW1];simp
 have hb1:Below w.heap.size w W1:=by rw [←hW1];exact (((Below.refl _ w).alloc (Nat.le_refl _) _).alloc (by simp<;>omega) _).alloc (by simp<;>omega) _
 have hl1:=hl.below hb1 (Nat.le_refl _)
 have hX1:=hX.below hb1 (Nat.le_refl _)
 have e0:∀ i,W1.cell? ⟨w.heap.size,i,none⟩ = #[Value.int .i64 pts,.slice A n c][i]? := fun i=>by rw [←hW1,World.cell?_alloc_past _ _ _ (by simp<;>omega),World.cell?_alloc_past _ _ _ (by simp<;>omega),World.cell?_alloc_at _ _ _ _ rfl]
 have ea:W1.cell? ⟨w.heap.size+1,0,none⟩=some (.slice X nX cX):=by rw [←hW1,World.cell?_alloc_past _ _ _ (by simp<;>omega),World.cell?_alloc_at _ _ _ _ (by simp<;>omega)];rfl
 have en:W1.cell? ⟨w.heap.size+2,0,none⟩=some (.int .i64 (-1)):=by rw [←hW1,World.cell?_alloc_at _ _ _ _ (by simp<;>omega)];rfl
 have fnz:W1.frozen? ⟨w.heap.size+2,0,none⟩=false:=by rw [←hW1];exact World.frozen?_alloc_at _ _ _ _ (by simp<;>omega)
 have htr:=tried_any pts A n c bs 114 #[.pointer (some ⟨w.heap.size+1,0,none⟩),.pointer (some ⟨w.heap.size,0,none⟩),.pointer (some ⟨w.heap.size+2,0,none⟩)] ent_breaks1 0 W1 hl1 hk
  (fun k=>k=w.heap.size+2) (fun k hk=>by omega) (fun W=>W.cell? ⟨w.heap.size+2,0,none⟩=some (.int .i64 (brkV xs bs))) (fun Wa Wb hf h=>(World.cell?_of_block (a:=⟨w.heap.size+2,0,none⟩) (h (w.heap.size+2) (by omega))).trans hf)
  (fun W hW=>breaks1 pts A n c bs X nX cX xs (w.heap.size+1) w.heap.size (w.heap.size+2) (.int .i64 (-1)) W (hl1.below hW (Nat.le_refl _)) (hX1.below hW (Nat.le_refl _)) (sysOk_of hk) hlen hs
    ((hW.cell (p:=⟨w.heap.size+1,0,none⟩) (show w.heap.size+1<W1.heap.size by omega)).trans ea) ((hW.cell (p:=⟨w.heap.size,0,none⟩) (show w.heap.size<W1.heap.size by omega)).trans (e0 0)) ((hW.cell (p:=⟨w.heap.size,1,none⟩) (show w.heap.size<W1.heap.size by omega)).trans (e0 1))
    ((hW.cell (p:=⟨w.heap.size+2,0,none⟩) (show w.heap.size+2<W1.heap.size by omega)).trans en) ((hW.frozen (p:=⟨w.heap.size+2,0,none⟩) (show w.heap.size+2<W1.heap.size by omega)).trans fnz))
 generalize brkV xs bs=ix at *
 have HT:=Lib.hid htr
 have HW:=Lib.hid hW1
 clear htr hW1 e0 ea en fnz hl hl1 hX hX1 hk hlen hs
 by_cases hi:0≤ix
 · rw [decide_eq_true hi]
   have hi':¬ix<0:=by omega
   clear hi
   go_enter Tryz.func74,Tryz.ntmps74
   go_wp2_with (go_at_call 76;rw [HW.out];refine HT.out.mono ?_;rintro e w2 ⟨rfl,hg,hc⟩)
   go_ret3
   exact ⟨_,rfl,hb1.trans ⟨hg.os,hg.tape,hg.output,by have:=hg.size;omega,fun k hk=>hg.block k (by omega) (by omega)⟩⟩
 · rw [decide_eq_false hi]
   have hi':ix<0:=by omega
   clear hi
   go_enter Tryz.func74,Tryz.ntmps74
   go_wp2_with (go_at_call 76;rw [HW.out];refine HT.out.mono ?_;rintro e w2 ⟨rfl,hg,hc⟩)
   go_ret3
   exact ⟨_,rfl,hb1.trans ⟨hg.os,hg.tape,hg.output,by have:=hg.size;omega,fun k hk=>hg.block k (by omega) (by omega)⟩⟩
theorem brk_keeps (xs:List Int) (bs:List Bound):(!decide (0≤brkV xs bs))=keepsB bs xs:=by
 unfold brkV keepsB
 rw [idxI_any,Bool.eq_iff_iff]
 simp only [Bool.not_eq_true',List.any_eq_false,List.all_eq_true,brokenP,decide_eq_true_eq,decide_eq_false_iff_not]
theorem Keeps_any (pts:Int) (A:Option Addr) (n c:Nat) (bs:List Bound) (X:Option Addr) (nX cX:Nat) (xs:List Int) (w:World) (hl:Rd encBound 4 w A n c bs) (hX:Rd encInt 1 w X nX cX xs) (hk:checkSys pts bs=0) (hlen:(nX:Int)=pts) (hs:∀ x∈xs,-1000000000≤x∧x≤1000000000):
 Calls Tryz.prog 47 #[.agg #[.int .i64 pts,.slice A n c],.slice X nX cX] w fun e w'=>e = .returned (.tuple #[.bool (keepsB bs xs),.int .i64 0])∧Below w.heap.size w w':=by
 have hbr:=Breaks_any pts A n c bs X nX cX xs _ (hl.alloc (.cells #[.int .i64 pts,.slice A n c] 83)) (hX.alloc (.cells #[.int .i64 pts,.slice A n c] 83)) hk hlen hs
 rw [←brk_keeps]
 generalize decide (0≤brkV xs bs)=r at *
 have HB:=Lib.hid hbr
 clear hbr hl hX hk hlen hs
 cases r
 all_goals
  go_enter Tryz.func47,Tryz.ntmps47
  go_wp2_with (go_at_call 74;(with_reducible refine HB.out.mono ?_);rintro e w2 ⟨i,rfl,hb2⟩;have HB2:=Lib.hid hb2;clear hb2)
  go_ret2
  exact ⟨rfl,((Below.refl _ w).alloc (Nat.le_refl _) _).trans (HB2.out.mono (by simp))⟩
def foreignP:PanicEntry:={ v:=.iface 181 (.agg #[]),recovered:=false }
theorem gneed_no (w:World):Calls Tryz.prog 78 #[.bool false] w fun e w'=>e = .panicked [foreignP]∧w'=w:=by
 go_enter Tryz.func78,Tryz.ntmps78
 go_wp2
 exact ⟨rfl,rfl,rfl⟩
theorem run_assertG (w:World):(Instr.typeAssert (.iface 181 (.agg #[])) 20 181 true).run Tryz.prog w = .ok (.tuple #[.agg #[],.bool true]) w:=by
 simp [Instr.typeAssert,go_sem]
theorem caughtG (b:Nat) (x:Int) (w:World) (hb:b<w.heap.size) (hc:w.cell? ⟨b,0,none⟩=some (.int .i64 x)) (hz:w.frozen? ⟨b,0,none⟩=false):
 CallsD Tryz.prog 117 #[.pointer (some ⟨b,0,none⟩)] (.panicking [foreignP]) w fun e u' w'=>
  e = .returned (.tuple #[])∧u' = .panicking [{ foreignP with recovered:=true }]∧w'=(w.setCell ⟨b,0,none⟩ (.int .i64 1)).alloc (.cells #[] 181):=by
 refine callsD_of_wpS Tryz.func117 rfl fun c₀ cs hu=> ?_
 apply wpS_seq
 apply wpS_region
 simp [wpOpsS,go_sem,recoverD,hu,foreignP,Tryz.ntmps117,Exit.thenS]
 have hta:=run_assertG
 refine wpS_of_wp ?_
 go_wp2
 simp [bodyPostS,results,Tryz.results117]
theorem tried_bad (pts:Int) (A:Option Addr) (n c:Nat) (bs:List Bound) (g:Nat) (lb:Array Value) (eg:∀ args w,(callFunc g args).run Tryz.prog w = .ok (.enter g args) w) (w:World) (hl:Rd encBound 4 w A n c bs) (hk:checkSys pts bs=0)
 (hdo:∀ W,Below w.heap.size w W→Calls Tryz.prog g lb W fun e W'=>e = .panicked [foreignP]∧Below W.heap.size W W'):
 Calls Tryz.prog 76 #[.agg #[.int .i64 pts,.slice A n c],.func (.func g) #[] lb] w fun e w'=>e = .returned (.int .i64 1)∧Below w.heap.size w w':=by
 have hc:=CheckSystem_any pts A n c bs _ ((hl.alloc (.cells #[.int .i64 pts,.slice A n c] 83)).alloc (.cells #[.int .i64 0] 27))
 rw [hk] at hc
 have HC:=Lib.hid hc
 clear hc hk hl
 go_enter_defers Tryz.func76,Tryz.ntmps76
 go_wp2_with (first
  | (go_at_call 70;refine HC.out.mono ?_;rintro e w2 ⟨rfl,hb⟩
     have hz2:=hb.size
     simp only [World.size_alloc] at hz2
     have hb2:Below w.heap.size w w2:=(((Below.refl _ w).alloc (Nat.le_refl _) _).alloc (by simp) _).trans (hb.mono (by simp;omega))
     have d1:w2.cell? ⟨w.heap.size+1,0,none⟩=some (.int .i64 0):=(hb.cell (p:=⟨w.heap.size+1,0,none⟩) (by simp)).trans (by rw [World.cell?_alloc_at _ _ _ _ (by simp)];rfl)
     have f1:w2.frozen? ⟨w.heap.size+1,0,none⟩=false:=(hb.frozen (p:=⟨w.heap.size+1,0,none⟩) (by simp)).trans (World.frozen?_alloc_at _ _ _ _ (by simp))
     have hd:=hdo w2 hb2
     have HD:=Lib.hid hd
     clear hd)
  | (go_at_fn g;refine HD.out.mono ?_;rintro e w3 ⟨rfl,hg3⟩))
 have hz3:=hg3.size
 have e1:w3.cell? ⟨w.heap.size+1,0,none⟩=some (.int .i64 0):=(hg3.cell (p:=⟨w.heap.size+1,0,none⟩) (show w.heap.size+1<w2.heap.size by omega)).trans d1
 have g1:w3.frozen? ⟨w.heap.size+1,0,none⟩=false:=(hg3.frozen (p:=⟨w.heap.size+1,0,none⟩) (show w.heap.size+1<w2.heap.size by omega)).trans f1
 have HB8:Hid (Below w.heap.size w w3):=(show Below _ _ _ from hb2.trans (hg3.mono hb2.size))
 have y3:w3.heap.size≠w.heap.size+1:=(by omega)
 have y4:((w3.setCell ⟨w.heap.size+1,0,none⟩ (.int .i64 1)).alloc (.cells #[] 181)).cell? ⟨w.heap.size+1,0,none⟩=some (.int .i64 1):=(by
  rw [World.cell?_alloc_past _ _ _ (by simp;omega)]
  exact World.cell?_setCell_same' _ _ _ (by rw [e1];rfl))
 refine leaves_cons (f:=117) (args:=#[.pointer (some ⟨w.heap.size+1,0,none⟩)]) (by simp) (by simp [go_sem]) ?_
 refine (caughtG (w.heap.size+1) 0 w3 (by omega) e1 g1).mono ?_
 rintro e u' w'' ⟨rfl,rfl,rfl⟩
 have hfin:Below w.heap.size w ((w3.setCell ⟨w.heap.size+1,0,none⟩ (.int .i64 1)).alloc (.cells #[] 181)):=(HB8.out.setCell (p:=⟨w.heap.size+1,0,none⟩) (show w.heap.size≤w.heap.size+1 by omega) _).alloc (by simp;omega) _
 simp [Leaves,settle,results,Tryz.results76,go_sem,y4,hfin]
end Go.Proofs.YtpmkgmilfifkpaaGreatDoor
end

/- Contracts that the laws lean on: Mx15, R3Mx. -/
import Derived.Test.YtccabpahfmoamaaGreatPE57
set_option maxRecDepth 100000
set_option maxHeartbeats 8000000
section
namespace Go.Proofs.YtccabpahfmoamaaGreat
open Go.RowKit Go.Proofs
def codeMx15:Option Code→Code
 | some (.seq _ (.seq _ (.seq _ (.seq _ (.seq _ (.seq (.seq _ (.block _ (.loop (.seq _ (.seq (.block _ (.seq _ (.seq (.seq _ (.block _ (.loop (.seq _ (.seq (.block _ (.seq _ (.seq _ (.seq (.block _ (.loop (.seq (.seq c _) _))) _)))) _))))) _))) _))))) _))))))=>c
 | _=> .skip
def Tmx15a (A7:Option Addr) (n c:Nat) (_ _ _ _:Nat) (t _:Int):List Value:=
 [.int .i64 t,.slice A7 n c,.int .i64 n,.bool false,.bool false,undef,undef,undef,undef,undef,undef,undef,undef,undef,.bool false]
theorem mx15a (cC:Code) (hc:cC=codeMx15 Tryz.f45.body) (A7:Option Addr) (n c:Nat) (bb ob ln lc:Nat) (t k:Int) (a:Act) (w:World) (Q:Exit→Act→World→Prop)
 (hT:a.tmps.size=81) (t7:a.tmps.getD 7 undef = .slice A7 n c) (t13:a.tmps.getD 13 undef = .int .i64 t)
 (h1:decide (t<(n:Int))=false)
 (hQ:∀ W,Below w.heap.size w W→Q .normal { tmps:=setsL a.tmps 44 (Tmx15a A7 n c bb ob ln lc t k),defers:=a.defers } W):
 cC.wp Tryz.prog Q a w:=by
 subst hc
 unfold codeMx15 Tryz.f45
 dsimp only
 refine wpIn_wide.1 (wpIn_region_flow (nn:=5) 81 (by kernel_rfl) (by kernel_rfl) (by kernel_rfl) hT (fun i=>(Tmx15a A7 n c bb ob ln lc t k).getD i undef) (fun W=>Below w.heap.size w W) ((Below.refl _ _).drew) (fun b hE hold=> ?_) hQ)
 clear hQ
 have q7:=hold 7 _ (by kernel_rfl) t7
 have q13:=hold 13 _ (by kernel_rfl) t13
 simp only [factsL,Tmx15a,List.getD_cons_zero,List.getD_cons_succ,Nat.reduceAdd] at hE
 repeat' first|exact steps_nil|refine steps_skip rfl rfl ?_|refine steps_go rfl ?_ ?_
 all_goals (intro W hW;simp only [Tmx15a,List.getD_cons_zero,List.getD_cons_succ,Nat.reduceAdd])
 all_goals first
  | (refine .inl ?_;go_simp;done)
  | (refine .inl ?_;go_simp;rfl)
  | (refine .inl ?_;go_simp;simp [h1];done)
  | (refine .inl ?_;go_simp;rw [h1];rfl)
  | (refine .inl ?_;go_simp;exact congrArg Value.bool h1)
def Tmx15b (b2 o2 n c bb ob ln lc t k:Nat) (y x:Pairing):List Value:=
 [.int .i64 t,.slice (some ⟨b2,o2,none⟩) n c,.int .i64 n,.bool true,.bool true,.slice (some ⟨b2,o2,none⟩) n c,.int .i64 t,.pointer (some ⟨b2,o2+t * 4,none⟩),.agg #[.int .i64 y.a.lo,.int .i64 y.a.hi,.int .i64 y.b.lo,.int .i64 y.b.hi],.slice (some ⟨bb,ob,none⟩) ln lc,.int .i64 k,.pointer (some ⟨bb,ob+k * 4,none⟩),.agg #[.int .i64 x.a.lo,.int .i64 x.a.hi,.int .i64 x.b.lo,.int .i64 x.b.hi],.bool (befB y x),.bool (befB y x)]
theorem mx15b (cC:Code) (hc:cC=codeMx15 Tryz.f45.body) (b2 o2 n c bb ob ln lc t k:Nat) (y x:Pairing) (a:Act) (w:World) (Q:Exit→Act→World→Prop)
 (hT:a.tmps.size=81) (t7:a.tmps.getD 7 undef = .slice (some ⟨b2,o2,none⟩) n c) (t10:a.tmps.getD 10 undef = .slice (some ⟨bb,ob,none⟩) ln lc) (t12:a.tmps.getD 12 undef = .int .i64 k) (t13:a.tmps.getD 13 undef = .int .i64 t)
 (CE:∀ W,Below w.heap.size w W→(W.cell? ⟨b2,o2+t * 4,none⟩=some (.int .i64 y.a.lo)∧W.cell? ⟨b2,o2+t * 4+1,none⟩=some (.int .i64 y.a.hi)∧W.cell? ⟨b2,o2+t * 4+2,none⟩=some (.int .i64 y.b.lo)∧W.cell? ⟨b2,o2+t * 4+3,none⟩=some (.int .i64 y.b.hi))∧W.cell? ⟨bb,ob+k * 4,none⟩=some (.int .i64 x.a.lo)∧W.cell? ⟨bb,ob+k * 4+1,none⟩=some (.int .i64 x.a.hi)∧W.cell? ⟨bb,ob+k * 4+2,none⟩=some (.int .i64 x.b.lo)∧W.cell? ⟨bb,ob+k * 4+3,none⟩=some (.int .i64 x.b.hi))
 (htn:t<n) (hkl:k<ln) (_:n≤1000000) (_:ln≤1000000) (_:decide ((t:Int)<(n:Int))=true)
 (hQ:∀ W,Below w.heap.size w W→Q .normal { tmps:=setsL a.tmps 44 (Tmx15b b2 o2 n c bb ob ln lc t k y x),defers:=a.defers } W):
 cC.wp Tryz.prog Q a w:=by
 subst hc
 unfold codeMx15 Tryz.f45
 dsimp only
 refine wpIn_wide.1 (wpIn_region_flow (nn:=5) 81 (by kernel_rfl) (by kernel_rfl) (by kernel_rfl) hT (fun i=>(Tmx15b b2 o2 n c bb ob ln lc t k y x).getD i undef) (fun W=>Below w.heap.size w W) ((Below.refl _ _).drew) (fun b hE hold=> ?_) hQ)
 clear hQ
 have q7:=hold 7 _ (by kernel_rfl) t7
 have q10:=hold 10 _ (by kernel_rfl) t10
 have q12:=hold 12 _ (by kernel_rfl) t12
 have q13:=hold 13 _ (by kernel_rfl) t13
 simp only [factsL,Tmx15b,List.getD_cons_zero,List.getD_cons_succ,Nat.reduceAdd] at hE
 repeat' first|exact steps_nil|refine steps_skip rfl rfl ?_|refine steps_go rfl ?_ ?_
 all_goals (intro W hW;obtain ⟨⟨y0,y1,y2,y3⟩,x0,x1,x2,x3⟩:=CE W hW;simp only [Tmx15b,List.getD_cons_zero,List.getD_cons_succ,Nat.reduceAdd])
 all_goals first
  | (refine .inl ?_;go_simp;done)
  | (refine .inl ?_;go_simp;rfl)
  | (refine .inl ?_;go_simp;simp [h1];done)
  | (refine .inl ?_;go_simp;rw [h1];rfl)
  | (refine .inl ?_;go_simp;exact congrArg Value.bool h1)
  | (refine .inr (.inr ⟨103,#[.agg #[.int .i64 y.a.lo,.int .i64 y.a.hi,.int .i64 y.b.lo,.int .i64 y.b.hi],.agg #[.int .i64 x.a.lo,.int .i64 x.a.hi,.int .i64 x.b.lo,.int .i64 x.b.hi]],?_,(r3before_any y x W).mono ?_⟩)
     · go_simp<;>done
     · rintro e w' ⟨rfl,hb'⟩;exact ⟨rfl,(show Below _ _ _ from (show Below _ _ _ from hW).trans (hb'.mono (show Below _ _ _ from hW).size))⟩)
open Go.Shelf
theorem ins_split {p:Pairing} :∀ {l:List Pairing} {t:Nat},(∀ (i:Nat) x,i<t→l[i]? = some x→befB x p=true)→(t=l.length∨∃ x,l[t]? = some x∧befB x p=false)→insB p l=l.take t ++ [p]++l.drop t
 | [],t,_,h=>by
   rcases h with rfl|⟨x,h,_⟩
   · rfl
   · simp at h
 | y::l,0,_,h=>by
   rcases h with h|⟨x,h,hb⟩
   · simp at h
   · simp only [List.getElem?_cons_zero,Option.some.injEq] at h
     subst h
     unfold insB
     rw [if_neg (by rw [hb];simp)]
     rfl
 | y::l,t+1,h1,h=>by
   unfold insB
   rw [if_pos (h1 0 y (by omega) rfl)]
   have:=ins_split (p:=p) (l:=l) (t:=t) (fun i x hi hx=>h1 (i+1) x (by omega) hx) (by
    rcases h with h|⟨x,h,hb⟩
    · exact .inl (by simpa using h)
    · exact .inr ⟨x,by simpa using h,hb⟩)
   rw [this]
   rfl
theorem ins_len (p:Pairing) (l:List Pairing):(insB p l).length=l.length+1:=by
 induction l with
 | nil=>rfl
 | cons y l ih=>unfold insB;split<;>simp [ih]
theorem fill_len (more out:List Pairing) (l:List Pairing):(fillB more out l).length≤out.length+l.length:=by
 refine snoc_rec (P:=fun l=>(fillB more out l).length≤out.length+l.length) (by simp [fillB]) (fun l p ih=> ?_) l
 rw [fill_snoc]
 split
 · rw [ins_len];simp;omega
 · simp;omega
theorem mxTo_len {A B:Outl} (ha:A.n≤16) (hb:B.n≤16):∀ j,j≤16→(mxTo A B j).length≤256 * j
 | 0,_=>by simp [mxTo]
 | j+1,hj=>by
   have h1:=mxTo_len ha hb j (by omega)
   have h2:=meetL_len A B (16-(j:Int)) (by omega) ha hb
   have h3:=fill_len (mxPrev A B j) (mxTo A B j) (meetL A B (16-(j:Int)))
   rw [mxTo]
   omega
def maxV (A B:Outl):List Pairing:=if twiceErr A B=0 then maxL A B else []
theorem take_snoc {l:List Pairing} {k:Nat} {x:Pairing} (h:l[k]? = some x):l.take (k+1)=l.take k ++ [x]:=by rw [List.take_add_one,h];rfl
theorem r3Maximal_any (A:Outl) (AwA:Option Addr) (Awn Awc:Nat) (AtA:Option Addr) (Atn Atc:Nat) (B:Outl) (BwA:Option Addr) (Bwn Bwc:Nat) (BtA:Option Addr) (Btn Btc:Nat) (w:World) (Aw:Rd encBound 4 w AwA Awn Awc A.ways) (At:Rd encBound 4 w AtA Atn Atc A.turns) (Bw:Rd encBound 4 w BwA Bwn Bwc B.ways) (Bt:Rd encBound 4 w BtA Btn Btc B.turns):
 Calls Tryz.prog 45 #[.agg #[.int .i64 A.n,.slice AwA Awn Awc,.slice AtA Atn Atc],.agg #[.int .i64 B.n,.slice BwA Bwn Bwc,.slice BtA Btn Btc]] w fun e w'=> ∃ A' c',e = .returned (.tuple #[.slice A' (maxV A B).length c',.int .i64 (twiceErr A B)])∧Below w.heap.size w w'∧Rd encPairing 4 w' A' (maxV A B).length c' (maxV A B):=by
 obtain ⟨w1,hw1,hb1,hz1,hbx⟩:=boxAB w A AwA Awn Awc AtA Atn Atc B BwA Bwn Bwc BtA Btn Btc
 have KX:=Lib.hid hbx
 have KB:=Lib.hid (fun W (h:Below w1.heap.size w1 W)=>r3both_any A AwA Awn Awc AtA Atn Atc B BwA Bwn Bwc BtA Btn Btc W ((Aw.below hb1 (Nat.le_refl _)).below h (Nat.le_refl _)) ((At.below hb1 (Nat.le_refl _)).below h (Nat.le_refl _)) ((Bw.below hb1 (Nat.le_refl _)).below h (Nat.le_refl _)) ((Bt.below hb1 (Nat.le_refl _)).below h (Nat.le_refl _)))
 have KP:=Lib.hid (fun (s:Int) W (h:Below w1.heap.size w1 W)=>r3Pairs_any A AwA Awn Awc AtA Atn Atc B BwA Bwn Bwc BtA Btn Btc s W ((Aw.below hb1 (Nat.le_refl _)).below h (Nat.le_refl _)) ((At.below hb1 (Nat.le_refl _)).below h (Nat.le_refl _)) ((Bw.below hb1 (Nat.le_refl _)).below h (Nat.le_refl _)) ((Bt.below hb1 (Nat.le_refl _)).below h (Nat.le_refl _)))
 have HB1:=Lib.hid hb1
 have HW1:=Lib.hid hw1
 obtain ⟨xa0,xa1,xa2,xb0,xb1,xb2⟩:=hbx w1 (Below.refl _ _)
 clear Aw At Bw Bt hb1 hw1 hbx
 by_cases h1:twiceErr A B=0
 case neg=>
  have hv:maxV A B = []:=if_neg h1
  rw [hv]
  have h1':(twiceErr A B != 0)=true:=by simpa using h1
  clear h1 KP hv
  generalize twiceErr A B=er at *
  go_enter Tryz.func45,Tryz.ntmps45
  go_wp2_with (first
   | rw [HW1.out]
   | (go_at_call 100;(with_reducible refine (KB.out _ (Below.refl _ _)).mono ?_);rintro e w2 ⟨rfl,hb2⟩;have HB2:=Lib.hid hb2;clear hb2))
  go_ret2
  exact ⟨none,0,rfl,HB1.out.trans (HB2.out.mono HB1.out.size),Rd.none_ _ _ (by omega)⟩
 case pos=>
  have hAN:(0≤A.n∧A.n≤16)∧(0≤B.n∧B.n≤16):=by
   obtain ⟨hb,hr⟩:=twice_zero.1 h1
   obtain ⟨h3,h4⟩:=bothErr_zero.1 hb
   obtain ⟨n1,n2,_,_⟩:=checkOut_zero.1 h3
   obtain ⟨n3,n4,_,_⟩:=checkOut_zero.1 h4
   omega
  have hv:maxV A B=mxTo A B 16:=by rw [mxTo_max];exact if_pos h1
  rw [hv]
  have HPV:Hid (∀ j:Nat,j<16→pairsV A B (16-(j:Int))=meetL A B (16-(j:Int))):=(show ∀ j:Nat,_→_ from fun j hj=>if_pos ⟨h1,by omega,by omega⟩)
  have HML:Hid (∀ j:Nat,j<16→(meetL A B (16-(j:Int))).length≤256):=(show ∀ j:Nat,_→_ from fun j hj=>meetL_len A B _ (by omega) hAN.1.2 hAN.2.2)
  have HOL:Hid (∀ j:Nat,j≤16→(mxTo A B j).length≤256 * j):=(show ∀ j:Nat,_→_ from fun j hj=>mxTo_len hAN.1.2 hAN.2.2 j hj)
  have HSD:Hid (∀ j:Nat,j<16→∀ p∈meetL A B (16-(j:Int)),(-1000≤p.a.lo∧p.a.lo≤1000)∧(-1000≤p.a.hi∧p.a.hi≤1000)∧(-1000≤p.b.lo∧p.b.lo≤1000)∧(-1000≤p.b.hi∧p.b.hi≤1000)):=(show ∀ j:Nat,_→_ from fun j hj p hp=>by
   have:=(mem_pairsL (by omega)).1 (List.mem_filter.1 hp).1
   omega)
  rw [h1] at KB KP ⊢
  clear h1 hv hAN
  go_enter Tryz.func45,Tryz.ntmps45
  go_wp2_with (first
   | rw [HW1.out]
   | (go_at_call 100;(with_reducible refine (KB.out _ (Below.refl _ _)).mono ?_);rintro e w2 ⟨rfl,hb2⟩;have HB2:=Lib.hid hb2;clear hb2))
  go_loopw [7,8,9] (fun s7 s8 s9 wr=> ∃ (j:Nat) (Ao:Option Addr) (n c:Nat) (Am:Option Addr) (m cm:Nat),j≤16∧s7 = .slice Ao n c∧s8 = .slice Am m cm∧s9 = .int .i64 (16-(j:Int))∧Hid (Rd encPairing 4 wr Ao n c (mxTo A B j))∧Hid (Rd encPairing 4 wr Am m cm (mxPrev A B j))∧Hid (Below w1.heap.size w1 wr)) (fun _ _ s9 _=>(intOf s9).toNat)
  case atStart=>exact ⟨0,none,0,0,none,0,0,by omega,rfl,rfl,rfl,(show Rd _ _ _ _ _ _ _ from Rd.none_ _ _ (by omega)),(show Rd _ _ _ _ _ _ _ from Rd.none_ _ _ (by omega)),(show Below _ _ _ from HB2.out)⟩
  case round=>
   obtain ⟨j,Ao,n,c,Am,m,cm,hj,rfl,rfl,rfl,hO,hM,hbr⟩:=hrel
   have hzr:=hbr.out.size
   by_cases hlt:j<16
   · obtain ⟨ya0,ya1,ya2,yb0,yb1,yb2⟩:=KX.out wr hbr.out
     have hpos:(0:Int)<16-(j:Int):=(by omega)
     have KK:=Lib.hid (KP.out (16-(j:Int)) wr hbr.out)
     rw [HPV.out j hlt] at KK
     obtain ⟨L,hL⟩:∃ L,meetL A B (16-(j:Int))=L:=⟨_,rfl⟩
     obtain ⟨O,hOO⟩:∃ O,mxTo A B j=O:=⟨_,rfl⟩
     obtain ⟨M,hMM⟩:∃ M,mxPrev A B j=M:=⟨_,rfl⟩
     have hnx:mxTo A B (j+1)=fillB M O L:=by rw [mxTo,hL,hOO,hMM]
     have hml:=HML.out j hlt
     have hol:=HOL.out j hj
     have hsd:=HSD.out j hlt
     have hpr:mxPrev A B (j+1)=L:=hL
     rw [hL] at KK hml hsd
     rw [hOO] at hO hol
     rw [hMM] at hM
     have HNX:=Lib.hid hnx
     have HPR:=Lib.hid hpr
     have HSL:=Lib.hid hsd
     have HLL:=Lib.hid hml
     have HOO:=Lib.hid hol
     clear hL hOO hMM hnx hml hol hsd hpr
     go_wp2_with (go_at_call 43;(with_reducible refine KK.out.mono ?_);rintro e w5 ⟨A5,q5,rfl,hb5,ho5⟩
                  have HB5:=Lib.hid (hbr.out.trans (hb5.mono hbr.out.size))
                  have HR5:=Lib.hid (ho5.rd (fun _=>rfl) (by have:=HLL.out;omega))
                  have HO5:=Lib.hid (hO.out.below hb5 (Nat.le_refl _))
                  have HM5:=Lib.hid (hM.out.below hb5 (Nat.le_refl _))
                  clear hb5 ho5)
     clear ya0 ya1 ya2 yb0 yb1 yb2 KK hO hM hbr hzr
     go_loopw [7,12] (fun s7 s12 wr=> ∃ (k:Nat) (Ao:Option Addr) (n c:Nat),k≤L.length∧s7 = .slice Ao n c∧s12 = .int .i64 k∧Hid (Rd encPairing 4 wr Ao n c (fillB M O (L.take k)))∧Hid (Below w5.heap.size w5 wr)) (fun _ s12 _=>L.length-(intOf s12).toNat)
     case atStart=>exact ⟨0,Ao,n,c,by omega,rfl,rfl,(show Rd _ _ _ _ _ _ _ from HO5.out),(show Below _ _ _ from Below.refl _ _)⟩
     case round=>
      clear HO5
      obtain ⟨k,Ao,n,c,hk,rfl,rfl,hO,hbr⟩:=hrel
      have hzr:=hbr.out.size
      have hll:=HLL.out
      by_cases hlk:k<L.length
      · have HP:Hid (∃ bb ob x,A5=some ⟨bb,ob,none⟩∧L[k]? = some x∧∀ W,Below w5.heap.size w5 W→W.cell? ⟨bb,ob+k * 4,none⟩=some (.int .i64 x.a.lo)∧W.cell? ⟨bb,ob+k * 4+1,none⟩=some (.int .i64 x.a.hi)∧W.cell? ⟨bb,ob+k * 4+2,none⟩=some (.int .i64 x.b.lo)∧W.cell? ⟨bb,ob+k * 4+3,none⟩=some (.int .i64 x.b.hi)):=(show ∃ bb ob x,_ from by
         obtain ⟨bb,ob,x,e,hbb,hx,hcx⟩:=HR5.out.one hlk
         exact ⟨bb,ob,x,e,hx,fun W hW=>⟨(hW.cell hbb).trans (hcx 0 _ rfl),(hW.cell hbb).trans (hcx 1 _ rfl),(hW.cell hbb).trans (hcx 2 _ rfl),(hW.cell hbb).trans (hcx 3 _ rfl)⟩⟩)
        obtain ⟨bb,ob,x,rfl,hx,hcx⟩:=HP.out
        have HC:=Lib.hid hcx
        obtain ⟨c0,c1,c2,c3⟩:=HC.out wr hbr.out
        have KL:=Lib.hid (r3longer_any Am m cm M x wr (HM5.out.below hbr.out (Nat.le_refl _)) (HSL.out x (List.mem_of_getElem? hx)))
        have hts:L.take (k+1)=L.take k ++ [x]:=take_snoc hx
        have hfs:=fill_snoc M O (L.take k) x
        rw [←hts] at hfs
        have hol2:=hO.out.len
        have hfl:=fill_len M O (L.take k)
        have hlt2:(L.take k).length≤L.length:=by rw [List.length_take];omega
        have HN:Hid (n≤8192):=(show n≤8192 from by have h1:=HOO.out;have h2:=HLL.out;omega)
        clear HP hx hcx hts hfl hlt2
        cases ha:aloneB M x with
        | false=>
          rw [ha,if_neg (by simp)] at hfs
          rw [ha] at KL
          have HF:=Lib.hid hfs
          clear hfs ha
          go_wp2_with (go_at_call 102;(with_reducible refine KL.out.mono ?_);rintro e w6 ⟨rfl,hb6⟩;have HB6:=Lib.hid (hbr.out.trans (hb6.mono hbr.out.size));have HL6:=Lib.hid hb6;clear hb6)
          go_roundw
          case rel=>exact ⟨k+1,Ao,n,c,by omega,rfl,by go_num,(show Rd _ _ _ _ _ _ _ by rw [HF.out];exact hO.out.below HL6.out (Nat.le_refl _)),(show Below _ _ _ from HB6.out)⟩
          case measure=>simp [intOf];omega
        | true=>
          rw [ha,if_pos rfl] at hfs
          rw [ha] at KL
          obtain ⟨F,hF⟩:∃ F,fillB M O (L.take k)=F:=⟨_,rfl⟩
          rw [hF] at hfs hO hol2
          have HF:=Lib.hid hfs
          clear hfs ha hF
          go_wp2_with (go_at_call 102;(with_reducible refine KL.out.mono ?_);rintro e w6 ⟨rfl,hb6⟩
                       have HB6:=Lib.hid (hbr.out.trans (hb6.mono hbr.out.size))
                       have HO6:=Lib.hid (hO.out.below hb6 (Nat.le_refl _))
                       clear hb6)
          clear hO hbr hzr c0 c1 c2 c3 KL
          go_loopw [13] (fun s13 wr=> ∃ t:Nat,t≤n∧s13 = .int .i64 t∧Hid (Below w6.heap.size w6 wr)∧Hid (∀ (i:Nat) y,i<t→F[i]? = some y→befB y x=true)) (fun s13 _=>n-(intOf s13).toNat)
          case atStart=>exact ⟨0,by omega,rfl,(show Below _ _ _ from Below.refl _ _),(show ∀ (i:Nat) (y:Pairing),_ from fun i y h=>by omega)⟩
          case round=>
           obtain ⟨t,ht,rfl,hbr,hall⟩:=hrel
           have hzr:=hbr.out.size
           have HBW:=Lib.hid (HB6.out.trans (hbr.out.mono HB6.out.size))
           obtain ⟨c0,c1,c2,c3⟩:=HC.out wr HBW.out
           by_cases hlt3:t<n
           · obtain ⟨b2,o2,y,rfl,hb2,hy,hcy⟩:=(HO6.out.below hbr.out (Nat.le_refl _)).one hlt3
             have d0:wr.cell? ⟨b2,o2+t * 4,none⟩=some (.int .i64 y.a.lo):=hcy 0 _ rfl
             have d1:wr.cell? ⟨b2,o2+t * 4+1,none⟩=some (.int .i64 y.a.hi):=hcy 1 _ rfl
             have d2:wr.cell? ⟨b2,o2+t * 4+2,none⟩=some (.int .i64 y.b.lo):=hcy 2 _ rfl
             have d3:wr.cell? ⟨b2,o2+t * 4+3,none⟩=some (.int .i64 y.b.hi):=hcy 3 _ rfl
             have HY:=Lib.hid hy
             have HDD:Hid (∀ W,Below wr.heap.size wr W→W.cell? ⟨b2,o2+t * 4,none⟩=some (.int .i64 y.a.lo)∧W.cell? ⟨b2,o2+t * 4+1,none⟩=some (.int .i64 y.a.hi)∧W.cell? ⟨b2,o2+t * 4+2,none⟩=some (.int .i64 y.b.lo)∧W.cell? ⟨b2,o2+t * 4+3,none⟩=some (.int .i64 y.b.hi)):=(show ∀ W,_→_ from fun W hW=>⟨(hW.cell hb2).trans d0,(hW.cell hb2).trans d1,(hW.cell hb2).trans d2,(hW.cell hb2).trans d3⟩)
             have hdt:decide ((t:Int)<(n:Int))=true:=decide_eq_true (by omega)
             have hn1:n≤1000000:=(by have:=HN.out;omega)
             clear hcy hy d0 d1 d2 d3
             obtain ⟨bf,hbf⟩:∃ bf,befB y x=bf:=⟨_,rfl⟩
             have HBF:=Lib.hid hbf
             go_upto_region 15 with (fail)
             refine mx15b _ rfl b2 o2 n c bb ob L.length q5 t k y x _ wr _ rfl rfl rfl rfl rfl (fun W hW=>⟨HDD.out W hW,HC.out W (HBW.out.trans (hW.mono HBW.out.size))⟩) hlt3 hlk hn1 (by omega) hdt ?_
             intro w7 hb7
             have HB7:=Lib.hid (hbr.out.trans (hb7.mono hbr.out.size))
             clear hb7
             simp only [setsL,Tmx15b,hbf,Nat.reduceAdd,List.setIfInBounds_toArray,List.set_cons_succ,List.set_cons_zero]
             clear hbf
             cases bf with
             | true=>
               go_wp2
               go_roundw
               case rel=>exact ⟨t+1,by omega,by go_num,(show Below _ _ _ from HB7.out),(show ∀ (i:Nat) (z:Pairing),_ from fun i z hi hz=>by
                rcases Nat.lt_or_ge i t with h|h
                · exact hall.out i z h hz
                · have:i=t:=by omega
                  subst this
                  rw [HY.out] at hz
                  cases hz
                  exact HBF.out)⟩
               case measure=>simp [intOf];omega
             | false=>
               have HSP:=Lib.hid (ins_split (p:=x) hall.out (.inr ⟨y,HY.out,HBF.out⟩))
               have HC7:=Lib.hid (HB6.out.trans (HB7.out.mono HB6.out.size))
               have HO7:=Lib.hid (HO6.out.below HB7.out (Nat.le_refl _))
               have hcap:n≤c:=HO7.out.cap.1
               have hcap2:c≤9223372036854775807:=HO7.out.cap.2
               have hn1:n≤8192:=HN.out
               have HTL:=Lib.hid hol2
               obtain ⟨e0,e1,e2,e3⟩:=HC.out w7 HC7.out
               clear hol2
               go_wp2_with (first
                | (at_builtin;refine wpList_append_src elPairing (fun _=>rfl) onePairing rfl _ _ rfl _ _ _ (F.drop t) rfl rfl HO9.out (by first|exact (HO7.out.below HQ9.out (Nat.le_refl _)).drop ht (fun h=>by first|exact absurd h (by omega)|rfl|(simp [add_lit];done))|exact Rd.none_ _ _ (by omega)) (by omega) (by omega) (by have:=HQ9.out.size;omega) ?_;intro A10 c10 w10 hown hg _
                   have HO10:=Lib.hid hown
                   have HG10:=Lib.hid hg
                   clear hown hg)
                | (at_builtin;refine wpList_append_src elPairing (fun _=>rfl) onePairing rfl _ _ rfl (some ⟨w8.heap.size,0,none⟩) 1 1 [x] rfl rfl (HO8.out.alloc _) HRD.out (by omega) (by omega) (by have:=HQ8.out.size;simp;omega) ?_;intro A9 c9 w9 hown hg _
                   have HO9:=Lib.hid hown
                   have HQ9:=Lib.hid ((HQ8.out.alloc HQ8.out.size _).grown hg (by have:=HQ8.out.size;simp;omega) (fun k e=>HO8.out.ltB k e))
                   clear hown hg)
                | (at_builtin;refine wpList_append_src elPairing (fun _=>rfl) onePairing rfl _ _ rfl _ _ _ (F.take t) rfl rfl (Own.none_ encPairing 4 28 w7.heap.size w7) (by first|exact HO7.out.take ht ⟨Nat.le_trans ht hcap,Nat.le_refl _⟩|exact Rd.none_ _ _ (by omega)) (by omega) (by omega) (Nat.le_refl _) ?_;intro A8 c8 w8 hown hg _
                   have HO8:Hid (Own encPairing 4 28 w7.heap.size w8 A8 t c8 (F.take t)):=(show Own _ _ _ _ _ _ _ _ _ by simpa using hown)
                   have HQ8:=Lib.hid ((Below.refl w7.heap.size w7).grown hg (Nat.le_refl _) (fun k e=>by cases e))
                   obtain ⟨f0,f1,f2,f3⟩:=HC.out w8 (HC7.out.trans (HQ8.out.mono HC7.out.size))
                   have HRD:=Lib.hid (Rd.single (enc:=encPairing) (k:=4) w8 #[.int .i64 x.a.lo,.int .i64 x.a.hi,.int .i64 x.b.lo,.int .i64 x.b.hi] 28 [x] 1 rfl (by omega) (fun _=>rfl) (by simp [encPairing]))
                   clear hown hg))
               have HQ10:=Lib.hid (HQ9.out.grown HG10.out (by have:=HQ9.out.size;omega) (fun k e=>HO9.out.ltB k e))
               have hrd10:=HO10.out.rd (fun _=>rfl) (by omega)
               have HR10:=Lib.hid hrd10
               go_roundw
               case rel=>exact ⟨k+1,A10,_,c10,by omega,rfl,by go_num,(show Rd _ _ _ _ _ _ _ by rw [HF.out,HSP.out];exact HR10.out),(show Below _ _ _ from HC7.out.trans (HQ10.out.mono HC7.out.size))⟩
               case measure=>simp [intOf];omega
           · have htn:t=n:=by omega
             have HSP:Hid (insB x F=F.take t ++ [x] ++ []):=(show _=_ from by
              have h:=ins_split (p:=x) hall.out (.inl (by rw [hol2];exact htn))
              rwa [List.drop_eq_nil_of_le (show F.length≤t by omega)] at h)
             have hdt:decide ((t:Int)<(n:Int))=false:=decide_eq_false (by omega)
             by_cases hn0:0<n
             · obtain ⟨b2,o2,y,rfl,hb2,_,_⟩:=HO6.out.one hn0
               have hnt:n=t:=by omega
               subst hnt
               go_upto_region 15 with (fail)
               refine mx15a _ rfl _ n c bb ob L.length q5 n k _ wr _ rfl rfl rfl hdt ?_
               intro w7 hb7
               have HB7:=Lib.hid (hbr.out.trans (hb7.mono hbr.out.size))
               clear hb7
               simp only [setsL,Tmx15a,Nat.reduceAdd,List.setIfInBounds_toArray,List.set_cons_succ,List.set_cons_zero]
               have HC7:=Lib.hid (HB6.out.trans (HB7.out.mono HB6.out.size))
               have HO7:=Lib.hid (HO6.out.below HB7.out (Nat.le_refl _))
               have hcap:n≤c:=HO7.out.cap.1
               have hcap2:c≤9223372036854775807:=HO7.out.cap.2
               have hn1:n≤8192:=HN.out
               have HTL:=Lib.hid hol2
               obtain ⟨e0,e1,e2,e3⟩:=HC.out w7 HC7.out
               clear hol2
               go_wp2_with (first
                | (at_builtin;refine wpList_append_src elPairing (fun _=>rfl) onePairing rfl _ _ rfl _ _ _ ([]:List Pairing) rfl rfl HO9.out (by first|exact (HO7.out.below HQ9.out (Nat.le_refl _)).drop ht (fun h=>by first|exact absurd h (by omega)|rfl|(simp [add_lit];done))|exact Rd.none_ _ _ (by omega)) (by omega) (by omega) (by have:=HQ9.out.size;omega) ?_;intro A10 c10 w10 hown hg _
                   have HO10:=Lib.hid hown
                   have HG10:=Lib.hid hg
                   clear hown hg)
                | (at_builtin;refine wpList_append_src elPairing (fun _=>rfl) onePairing rfl _ _ rfl (some ⟨w8.heap.size,0,none⟩) 1 1 [x] rfl rfl (HO8.out.alloc _) HRD.out (by omega) (by omega) (by have:=HQ8.out.size;simp;omega) ?_;intro A9 c9 w9 hown hg _
                   have HO9:=Lib.hid hown
                   have HQ9:=Lib.hid ((HQ8.out.alloc HQ8.out.size _).grown hg (by have:=HQ8.out.size;simp;omega) (fun k e=>HO8.out.ltB k e))
                   clear hown hg)
                | (at_builtin;refine wpList_append_src elPairing (fun _=>rfl) onePairing rfl _ _ rfl _ _ _ (F.take n) rfl rfl (Own.none_ encPairing 4 28 w7.heap.size w7) (by first|exact HO7.out.take ht ⟨Nat.le_trans ht hcap,Nat.le_refl _⟩|exact Rd.none_ _ _ (by omega)) (by omega) (by omega) (Nat.le_refl _) ?_;intro A8 c8 w8 hown hg _
                   have HO8:Hid (Own encPairing 4 28 w7.heap.size w8 A8 n c8 (F.take n)):=(show Own _ _ _ _ _ _ _ _ _ by simpa using hown)
                   have HQ8:=Lib.hid ((Below.refl w7.heap.size w7).grown hg (Nat.le_refl _) (fun k e=>by cases e))
                   obtain ⟨f0,f1,f2,f3⟩:=HC.out w8 (HC7.out.trans (HQ8.out.mono HC7.out.size))
                   have HRD:=Lib.hid (Rd.single (enc:=encPairing) (k:=4) w8 #[.int .i64 x.a.lo,.int .i64 x.a.hi,.int .i64 x.b.lo,.int .i64 x.b.hi] 28 [x] 1 rfl (by omega) (fun _=>rfl) (by simp [encPairing]))
                   clear hown hg))
               have HQ10:=Lib.hid (HQ9.out.grown HG10.out (by have:=HQ9.out.size;omega) (fun k e=>HO9.out.ltB k e))
               have hrd10:=HO10.out.rd (fun _=>rfl) (by omega)
               have HR10:=Lib.hid hrd10
               go_roundw
               case rel=>exact ⟨k+1,A10,_,c10,by omega,rfl,by go_num,(show Rd _ _ _ _ _ _ _ by rw [HF.out,HSP.out];exact HR10.out),(show Below _ _ _ from HC7.out.trans (HQ10.out.mono HC7.out.size))⟩
               case measure=>simp [intOf];omega
             · obtain rfl:n=0:=by omega
               obtain rfl:t=0:=by omega
               obtain rfl:F = []:=List.eq_nil_of_length_eq_zero hol2
               rcases Ao with _|a0
               all_goals
                go_upto_region 15 with (fail)
                refine mx15a _ rfl _ 0 c bb ob L.length q5 0 k _ wr _ rfl rfl rfl hdt ?_
                intro w7 hb7
                have HB7:=Lib.hid (hbr.out.trans (hb7.mono hbr.out.size))
                clear hb7
                simp only [setsL,Tmx15a,Nat.reduceAdd,List.setIfInBounds_toArray,List.set_cons_succ,List.set_cons_zero]
                have HC7:=Lib.hid (HB6.out.trans (HB7.out.mono HB6.out.size))
                have HO7:=Lib.hid (HO6.out.below HB7.out (Nat.le_refl _))
                have hcap:0≤c:=HO7.out.cap.1
                have hcap2:c≤9223372036854775807:=HO7.out.cap.2
                have hn1:0≤8192:=HN.out
                have HTL:=Lib.hid hol2
                obtain ⟨e0,e1,e2,e3⟩:=HC.out w7 HC7.out
                clear hol2
                go_wp2_with (first
                 | (at_builtin;refine wpList_append_src elPairing (fun _=>rfl) onePairing rfl _ _ rfl _ _ _ ([]:List Pairing) rfl rfl HO9.out (by first|exact (HO7.out.below HQ9.out (Nat.le_refl _)).drop ht (fun h=>by first|exact absurd h (by omega)|rfl|(simp [add_lit];done))|exact Rd.none_ _ _ (by omega)) (by omega) (by omega) (by have:=HQ9.out.size;omega) ?_;intro A10 c10 w10 hown hg _
                    have HO10:=Lib.hid hown
                    have HG10:=Lib.hid hg
                    clear hown hg)
                 | (at_builtin;refine wpList_append_src elPairing (fun _=>rfl) onePairing rfl _ _ rfl (some ⟨w8.heap.size,0,none⟩) 1 1 [x] rfl rfl (HO8.out.alloc _) HRD.out (by omega) (by omega) (by have:=HQ8.out.size;simp;omega) ?_;intro A9 c9 w9 hown hg _
                    have HO9:=Lib.hid hown
                    have HQ9:=Lib.hid ((HQ8.out.alloc HQ8.out.size _).grown hg (by have:=HQ8.out.size;simp;omega) (fun k e=>HO8.out.ltB k e))
                    clear hown hg)
                 | (at_builtin;refine wpList_append_src elPairing (fun _=>rfl) onePairing rfl _ _ rfl _ _ _ ([]:List Pairing) rfl rfl (Own.none_ encPairing 4 28 w7.heap.size w7) (by first|exact HO7.out.take ht ⟨Nat.le_trans ht hcap,Nat.le_refl _⟩|exact Rd.none_ _ _ (by omega)) (by omega) (by omega) (Nat.le_refl _) ?_;intro A8 c8 w8 hown hg _
                    have HO8:Hid (Own encPairing 4 28 w7.heap.size w8 A8 0 c8 ([]:List Pairing)):=(show Own _ _ _ _ _ _ _ _ _ by simpa using hown)
                    have HQ8:=Lib.hid ((Below.refl w7.heap.size w7).grown hg (Nat.le_refl _) (fun k e=>by cases e))
                    obtain ⟨f0,f1,f2,f3⟩:=HC.out w8 (HC7.out.trans (HQ8.out.mono HC7.out.size))
                    have HRD:=Lib.hid (Rd.single (enc:=encPairing) (k:=4) w8 #[.int .i64 x.a.lo,.int .i64 x.a.hi,.int .i64 x.b.lo,.int .i64 x.b.hi] 28 [x] 1 rfl (by omega) (fun _=>rfl) (by simp [encPairing]))
                    clear hown hg))
                have HQ10:=Lib.hid (HQ9.out.grown HG10.out (by have:=HQ9.out.size;omega) (fun k e=>HO9.out.ltB k e))
                have hrd10:=HO10.out.rd (fun _=>rfl) (by omega)
                have HR10:=Lib.hid hrd10
                go_roundw
                case rel=>exact ⟨k+1,A10,_,c10,by omega,rfl,by go_num,(show Rd _ _ _ _ _ _ _ by rw [HF.out,HSP.out];exact HR10.out),(show Below _ _ _ from HC7.out.trans (HQ10.out.mono HC7.out.size))⟩
                case measure=>simp [intOf];omega
      · have hkL:k=L.length:=by omega
        subst hkL
        have HRR:=Lib.hid (HR5.out.below hbr.out (Nat.le_refl _))
        go_wp2
        go_roundw
        case rel=>exact ⟨j+1,Ao,n,c,_,_,_,by omega,rfl,rfl,by go_num,(show Rd _ _ _ _ _ _ _ by rw [HNX.out];simpa using hO.out),(show Rd _ _ _ _ _ _ _ by rw [HPR.out];exact HRR.out),(show Below _ _ _ from HB5.out.trans (hbr.out.mono HB5.out.size))⟩
        case measure=>simp [intOf];omega
   · have hj16:j=16:=by omega
     subst hj16
     have hlen:=hO.out.len
     have HLE:=Lib.hid hlen
     clear hlen
     go_wp2
     go_ret2
     obtain rfl:=HLE.out
     exact ⟨Ao,c,rfl,HB1.out.trans (hbr.out.mono HB1.out.size),hO.out⟩
end Go.Proofs.YtccabpahfmoamaaGreat
end

/- Contracts that the laws lean on: LinS. -/
import Derived.Test.YtejjplhknacoiaaGreatDoorLH04
import Derived.Test.YtejjplhknacoiaaGreatDoorLH06
set_option maxRecDepth 100000
set_option maxHeartbeats 16000000
section
namespace Go.Proofs.YtejjplhknacoiaaGreatDoor
open Go.RowKit Go.Proofs
theorem rnum_any (gb:Nat) (A:Option Addr) (n c:Nat) (ws:List ByteArray) (i:Nat) (w:World) (hr:Rd encStr 1 w A n c ws) (hg:w.cell? ⟨gb,0,none⟩=some (.slice A n c)) (hsz:∀ b∈ws,b.size≤1000) (hi:i≤1000) (hv:VarsOk w):
 Calls Tryz.prog 25 #[.int .i64 (i:Int),.pointer (some ⟨gb,0,none⟩)] w fun e w'=>e = .returned (.int .i64 (atoiV (ws.getD i ⟨#[]⟩).data.toList))∧Below w.heap.size w w':=by
 by_cases hlt:i<n
 · obtain ⟨b,hb⟩:∃ b,ws[i]? = some b:=⟨ws[i]'(by have:=hr.len;omega),List.getElem?_eq_getElem _⟩
   obtain ⟨bk,off,rfl,-,-⟩:=hr.at_ (by omega)
   have hcell:=hr.str (Below.refl _ _) hb
   have hgd:ws.getD i ⟨#[]⟩=b:=by rw [List.getD_eq_getElem?_getD,hb];rfl
   rw [hgd]
   have KA:=Lib.hid (atoi_any b (hsz b (List.mem_of_getElem? hb)) w hv)
   have h1:¬(n:Int)≤(i:Int):=(by omega)
   have h2:(i:Int)<(n:Int):=(by omega)
   clear hr hb hgd hsz hv
   go_enter Tryz.func25,Tryz.ntmps25
   go_wp2_with (go_at_call 26;(with_reducible refine KA.out.mono ?_);rintro e w2 ⟨x,rfl,hb2⟩;have HB2:=Lib.hid hb2;clear hb2)
   go_ret
   exact ⟨rfl,HB2.out⟩
 · have h1:(n:Int)≤(i:Int):=(by omega)
   have hgd:ws.getD i ⟨#[]⟩=⟨#[]⟩:=by rw [List.getD_eq_getElem?_getD,List.getElem?_eq_none (by have:=hr.len;omega)];rfl
   rw [hgd]
   clear hr hgd hsz hv
   go_enter Tryz.func25,Tryz.ntmps25
   go_wp2
   go_ret
   exact ⟨rfl,Below.refl _ _⟩
def wordsL:List ByteArray:=[⟨#[]⟩,⟨#[97,98,111,118,101]⟩,⟨#[100,97,116,101,100]⟩,⟨#[109,111,118,101,100]⟩,⟨#[118,111,105,100]⟩]
def idxW (b:ByteArray):Int:=if b.data.toList = [] then 0 else if kindOf b.data.toList=0 then -1 else kindOf b.data.toList
theorem kindOf_rng (l:List UInt8):kindOf l=0∨kindOf l=1∨kindOf l=2∨kindOf l=3∨kindOf l=4:=by
 unfold kindOf
 split
 · exact .inr (.inl rfl)
 split
 · exact .inr (.inr (.inl rfl))
 split
 · exact .inr (.inr (.inr (.inl rfl)))
 split
 · exact .inr (.inr (.inr (.inr rfl)))
 · exact .inl rfl
theorem idxW_max (b:ByteArray):max 0 (idxW b)=kindOf b.data.toList:=by
 unfold idxW
 split
 · rename_i h;rw [h];rfl
 · split
   · rename_i h;rw [h];rfl
   · rcases kindOf_rng b.data.toList with h|h|h|h|h<;>rw [h]<;>rfl
theorem idxW_at {b:ByteArray} {k:Nat} (h:wordsL[k]? = some b):(k:Int)=idxW b:=by
 rcases (by have:=(List.getElem?_eq_some_iff.1 h).1;simp [wordsL] at this;omega:k=0∨k=1∨k=2∨k=3∨k=4) with rfl|rfl|rfl|rfl|rfl
 all_goals
  simp only [wordsL,List.getElem?_cons_zero,List.getElem?_cons_succ,Option.some.injEq] at h
  rw [←h]
  decide +kernel
theorem idxW_no {b:ByteArray} (h:b∉wordsL):idxW b = -1:=by
 have h1:∀ l:List UInt8,(⟨l.toArray⟩:ByteArray)∈wordsL→b.data.toList≠l:=fun l hl e=>h (by rw [data_inj e];exact hl)
 unfold idxW
 rw [if_neg (h1 [] (by simp [wordsL])),if_pos]
 exact none_b (fun e=>h (by rw [e];simp [wordsL])) (fun e=>h (by rw [e];simp [wordsL])) (fun e=>h (by rw [e];simp [wordsL])) (fun e=>h (by rw [e];simp [wordsL]))
theorem Index_W (gw:Nat) (b:ByteArray) (W:World) (hh:W.heap[gw]? = some (.cells #[.string ⟨#[]⟩,.string ⟨#[97,98,111,118,101]⟩,.string ⟨#[100,97,116,101,100]⟩,.string ⟨#[109,111,118,101,100]⟩,.string ⟨#[118,111,105,100]⟩] 60 (0,0))):
 Calls Tryz.prog 27 #[.slice (some ⟨gw,0,none⟩) 5 5,.string b] W fun e w'=>e = .returned (.int .i64 (idxW b))∧Below W.heap.size W w':=by
 refine (Index_Str gw 0 5 5 wordsL b W ⟨rfl,by decide,⟨by decide,by decide⟩,fun _=>⟨gw,0,rfl,(Array.getElem?_eq_some_iff.1 hh).1,fun i x hx j u hu=> ?_⟩⟩).mono ?_
 · unfold encStr at hu
   have hj:j=0:=by
    rcases j with _|j
    · rfl
    · simp at hu
   subst hj
   simp only [List.getElem?_cons_zero,Option.some.injEq] at hu
   subst hu
   rcases (by have:=(List.getElem?_eq_some_iff.1 hx).1;simp [wordsL] at this;omega:i=0∨i=1∨i=2∨i=3∨i=4) with rfl|rfl|rfl|rfl|rfl
   all_goals
    simp only [wordsL,List.getElem?_cons_zero,List.getElem?_cons_succ,Option.some.injEq] at hx
    rw [←hx]
    simp [World.cell?,hh]
 · rintro e w' ⟨i,rfl,hi,hb⟩
   refine ⟨?_,hb⟩
   rcases hi with ⟨k,rfl,hk⟩|⟨rfl,hk⟩
   · rw [idxW_at hk]
   · rw [idxW_no hk]
def RsI (gx:Nat) (kd:Int) (w:World):List Value→World→Prop
 | [],W=>Below w.heap.size w W
 | [_],W=> ∃ W0,Below w.heap.size w W0∧W=W0.setCell ⟨gx,2,none⟩ (.int .u8 kd)
 | _,_=>False
def codeRs6:Option Code→Code
 | some (.seq _ (.seq _ (.seq _ (.seq _ (.seq (.seq _ (.cond _ (.seq _ c) _)) _)))))=>c
 | _=> .skip
def Trs6 (_ gw gx bk off n c:Nat) (b2:ByteArray) (ix kd:Int) (cv:List Value):List Value:=
 [.slice (some ⟨gw,0,none⟩) 5 5,.slice (some ⟨bk,off,none⟩) n c,.pointer (some ⟨bk,off+2,none⟩),.string b2,.int .i64 ix,.int .i64 kd,.int .u8 kd,.pointer (some ⟨gx,0+2,none⟩),cv.getD 0 undef]
theorem rs6 (cC:Code) (hc:cC=codeRs6 Tryz.f7.body) (gb gw gx bk off n c:Nat) (b2:ByteArray) (ix kd:Int) (a:Act) (w:World) (Q:Exit→Act→World→Prop)
 (hT:a.tmps.size=76) (t4:a.tmps.getD 4 undef = .pointer (some ⟨gb,0,none⟩)) (t6:a.tmps.getD 6 undef = .pointer (some ⟨gx,0,none⟩)) (t7:a.tmps.getD 7 undef = .pointer (some ⟨gw,0,none⟩))
 (CE:∀ W,Below w.heap.size w W→W.cell? ⟨gb,0,none⟩=some (.slice (some ⟨bk,off,none⟩) n c)∧W.cell? ⟨bk,off+2,none⟩=some (.string b2)∧W.cell? ⟨gx,2,none⟩=some (.int .u8 0)∧W.frozen? ⟨gx,2,none⟩=false)
 (CI:∀ W,Below w.heap.size w W→Calls Tryz.prog 27 #[.slice (some ⟨gw,0,none⟩) 5 5,.string b2] W fun e w'=>e = .returned (.int .i64 ix)∧Below W.heap.size W w') (hn:2<n) (hmx:max 0 ix=kd) (hwk:IntKind.u8.wrap kd=kd)
 (hQ:∀ W,Below w.heap.size w W→Q .normal { tmps:=setsL a.tmps 22 ((Trs6 gb gw gx bk off n c b2 ix kd []).take 8),defers:=a.defers } (W.setCell ⟨gx,2,none⟩ (.int .u8 kd))):
 cC.wp Tryz.prog Q a w:=by
 subst hc
 unfold codeRs6 Tryz.f7
 dsimp only
 refine wpIn_wide.1 (wpIn_region_chain (nn:=5) 76 (by kernel_rfl) (by kernel_rfl) (by kernel_rfl) hT (fun i cv=>(Trs6 gb gw gx bk off n c b2 ix kd cv).getD i undef) (fun i=>([0,0,0,0,0,0,0,0,0]:List Nat).getD i 0) (fun i=>([0,0,0,0,0,0,0,0,1]:List Nat).getD i 0) [8] (by kernel_rfl) (by kernel_rfl) (by kernel_rfl) (by kernel_rfl) (RsI gx kd w) ((Below.refl _ _).drew) (fun b cv hE hold=> ?_) (fun cv W hl hI=> ?_))
 · clear hQ
   have q4:=hold 4 _ (by kernel_rfl) t4
   have q6:=hold 6 _ (by kernel_rfl) t6
   have q7:=hold 7 _ (by kernel_rfl) t7
   simp only [factsL,Vc,idxC,Trs6,List.getD_cons_zero,List.getD_cons_succ,Nat.reduceAdd,Nat.reduceEqDiff,reduceIte,Option.map_none] at hE
   repeat' first|exact chain_nil|refine chain_op 0 rfl rfl ?_ ?_|refine chain_skip rfl rfl rfl rfl ?_|refine chain_quiet rfl rfl ?_ ?_
   all_goals intro hl
   any_goals (
    intro hl2;simp only [List.getD_cons_zero,List.getD_cons_succ,Nat.reduceAdd] at hl hl2
    first
     | (obtain rfl:=List.eq_nil_of_length_eq_zero (Nat.le_zero.1 hl2);intro W hW;have hWb:Below w.heap.size w W:=hW;obtain ⟨b0,b1,a0,f1⟩:=CE W hWb;simp only [Trs6,List.getD_cons_zero,List.getD_cons_succ,Nat.reduceAdd]
        first
         | (refine .inl ?_;go_simp;done)
         | (refine .inl ?_;go_simp;rfl)
         | (refine .inl ?_;go_simp;omega)
         | (refine .inl ?_;go_simp;exact hwk)
         | (refine .inl ?_;go_simp;(simp [*];done))
         | (refine .inl ?_;go_simp;(simp [*];omega))
         | (refine .inl ?_;go_simp;(rw [hmx]))
         | (refine .inl ?_;go_simp;(simp [max_def];omega))
         | (refine .inr (.inr ⟨27,#[.slice (some ⟨gw,0,none⟩) 5 5,.string b2],?_,(CI W hWb).mono ?_⟩)
            · go_simp<;>done
            · rintro e w' ⟨rfl,hb'⟩;exact ⟨rfl,hWb.trans (hb'.mono hWb.size)⟩))
    done)
   · obtain rfl:=List.eq_nil_of_length_eq_zero hl
     intro W hW
     have hWb:Below w.heap.size w W:=hW
     obtain ⟨b0,b1,a0,f1⟩:=CE W hWb
     refine .inl ⟨undef,_,.inr ⟨?_,rfl⟩,W,hWb,rfl⟩
     go_simp
 · match cv,hl,hI with
   | [_],_,⟨W0,h0,e⟩=>subst e;exact hQ W0 h0
theorem read_any (s:ByteArray) (w:World) (hsz:s.size≤1000) (hv:VarsOk w):Calls Tryz.prog 7 #[.string s] w fun e w'=>e = .returned (.tuple #[.agg #[.int .i64 (readX s.data.toList).id,.int .i64 (readX s.data.toList).known,.int .u8 (readX s.data.toList).kind,.int .i64 (readX s.data.toList).pit,.int .i64 (readX s.data.toList).layer,.int .i64 (readX s.data.toList).lower,.int .i64 (readX s.data.toList).low,.int .i64 (readX s.data.toList).high,.int .i64 (readX s.data.toList).cost,.int .i64 (readX s.data.toList).void],.int .i64 (readErr s.data.toList)])∧Below w.heap.size w w':=by
 obtain ⟨w1,hw1,hb1,hz1,e1⟩:=alloc_facts w #[.int .i64 0,.int .i64 0,.int .u8 0,.int .i64 0,.int .i64 0,.int .i64 0,.int .i64 0,.int .i64 0,.int .i64 0,.int .i64 0] 23
 have HW1:=Lib.hid hw1
 have HB1:=Lib.hid hb1
 have HRE:Hid (∀ W,Below w1.heap.size w1 W→W.heap[w.heap.size]? = some (.cells #[.int .i64 0,.int .i64 0,.int .u8 0,.int .i64 0,.int .i64 0,.int .i64 0,.int .i64 0,.int .i64 0,.int .i64 0,.int .i64 0] 23 (0,0))∧(W.cell? ⟨w.heap.size,0,none⟩=some (.int .i64 0)∧W.cell? ⟨w.heap.size,1,none⟩=some (.int .i64 0)∧W.cell? ⟨w.heap.size,2,none⟩=some (.int .u8 0)∧W.cell? ⟨w.heap.size,3,none⟩=some (.int .i64 0)∧W.cell? ⟨w.heap.size,4,none⟩=some (.int .i64 0)∧W.cell? ⟨w.heap.size,5,none⟩=some (.int .i64 0)∧W.cell? ⟨w.heap.size,6,none⟩=some (.int .i64 0)∧W.cell? ⟨w.heap.size,7,none⟩=some (.int .i64 0)∧W.cell? ⟨w.heap.size,8,none⟩=some (.int .i64 0)∧W.cell? ⟨w.heap.size,9,none⟩=some (.int .i64 0))∧W.frozen? ⟨w.heap.size,0,none⟩=false∧W.frozen? ⟨w.heap.size,1,none⟩=false∧W.frozen? ⟨w.heap.size,2,none⟩=false∧W.frozen? ⟨w.heap.size,3,none⟩=false∧W.frozen? ⟨w.heap.size,4,none⟩=false∧W.frozen? ⟨w.heap.size,5,none⟩=false∧W.frozen? ⟨w.heap.size,6,none⟩=false∧W.frozen? ⟨w.heap.size,7,none⟩=false∧W.frozen? ⟨w.heap.size,8,none⟩=false∧W.frozen? ⟨w.heap.size,9,none⟩=false):=(show ∀ W,_→_ from fun W h=>by
  have hh:=(h.block w.heap.size (by omega)).trans e1
  refine ⟨hh,?_,?_⟩
  · simp [World.cell?,hh]
  · simp [World.frozen?,hh])
 have HV1:Hid (∀ W,Below w1.heap.size w1 W→VarsOk W):=(show ∀ W,_→_ from fun W h=>(hv.below hb1).below h)
 have KS:=Lib.hid (fun W h=>split_any s hsz W h)
 have HEN:=Lib.hid (fun x hx=>read_ends (f:=atoiV) (fun _ h0 h1=>atoiV_itoa h0 h1) s (x:=x) hx)
 have KW:=Lib.hid (fun (x:Trace) W h=>write_any x W h)
 have HZT:Hid (zeroT=⟨0,0,0,0,0,0,0,0,0,0⟩):=(show _=_ from rfl)
 have HPD:=Lib.hid (pieces_data s)
 have HPS:Hid (∀ b∈piecesB s,b.size≤1000):=(show ∀ b,_→_ from fun b hb=>Nat.le_trans (piece_size hb) hsz)
 have hv1:=HV1.out w1 (Below.refl _ _)
 clear hw1 hb1 hv
 generalize readX s.data.toList=rp at *
 generalize readErr s.data.toList=re at *
 generalize piecesB s=os at *
 go_enter Tryz.func7,Tryz.ntmps7
 go_upto_region 2 with (first
  | rw [HW1.out]
  | (go_at_call 24;(with_reducible refine (KS.out _ hv1).mono ?_);rintro e w2 ⟨A2,q2,rfl,hb2,hr2⟩
     obtain ⟨w3,a3,l3,z3,e3⟩:=alloc_facts w2 #[.slice A2 os.length q2] 63
     have HA3:=Lib.hid a3
     have HE3:=Lib.hid e3
     have HB2:=Lib.hid hb2
     have HR2:=Lib.hid hr2
     have HB3:=Lib.hid (hb2.trans (l3.mono hb2.size))
     have HL3:=Lib.hid l3
     have z3':w3.heap.size=w2.heap.size+1:=z3
     clear hb2 hr2 a3 l3 z3 e3)
  | rw [HA3.out])
 have HGB:Hid (∀ W,Below w3.heap.size w3 W→W.cell? ⟨w2.heap.size,0,none⟩=some (.slice A2 os.length q2)):=(show ∀ W,_→_ from fun W h=>by
  have hh:=(h.block w2.heap.size (by omega)).trans HE3.out
  simp [World.cell?,hh])
 have HRO:Hid (∀ W,Below w3.heap.size w3 W→Rd encStr 1 W A2 os.length q2 os):=(show ∀ W,_→_ from fun W h=>HR2.out.below (HL3.out.trans (h.mono HL3.out.size)) (Nat.le_refl _))
 have KN:Hid (∀ (i:Nat) W,i≤1000→Below w3.heap.size w3 W→Calls Tryz.prog 25 #[.int .i64 (i:Int),.pointer (some ⟨w2.heap.size,0,none⟩)] W fun e w'=>e = .returned (.int .i64 (atoiV (os.getD i ⟨#[]⟩).data.toList))∧Below W.heap.size W w'):=(show ∀ (i:Nat) W,_→_→_ from fun i W hi hW=>rnum_any w2.heap.size A2 os.length q2 os i W (HRO.out W hW) (HGB.out W hW) HPS.out hi (HV1.out W (HB3.out.trans (hW.mono HB3.out.size))))
 have K0:Hid (∀ W,Below w3.heap.size w3 W→Calls Tryz.prog 25 #[.int .i64 0,.pointer (some ⟨w2.heap.size,0,none⟩)] W fun e w'=>e = .returned (.int .i64 (atoiV (os.getD 0 ⟨#[]⟩).data.toList))∧Below W.heap.size W w'):=(show ∀ W,_→_ from fun W hW=>KN.out 0 W (by omega) hW)
 have K1:Hid (∀ W,Below w3.heap.size w3 W→Calls Tryz.prog 25 #[.int .i64 1,.pointer (some ⟨w2.heap.size,0,none⟩)] W fun e w'=>e = .returned (.int .i64 (atoiV (os.getD 1 ⟨#[]⟩).data.toList))∧Below W.heap.size W w'):=(show ∀ W,_→_ from fun W hW=>KN.out 1 W (by omega) hW)
 have K3:Hid (∀ W,Below w3.heap.size w3 W→Calls Tryz.prog 25 #[.int .i64 3,.pointer (some ⟨w2.heap.size,0,none⟩)] W fun e w'=>e = .returned (.int .i64 (atoiV (os.getD 3 ⟨#[]⟩).data.toList))∧Below W.heap.size W w'):=(show ∀ W,_→_ from fun W hW=>KN.out 3 W (by omega) hW)
 have K4:Hid (∀ W,Below w3.heap.size w3 W→Calls Tryz.prog 25 #[.int .i64 4,.pointer (some ⟨w2.heap.size,0,none⟩)] W fun e w'=>e = .returned (.int .i64 (atoiV (os.getD 4 ⟨#[]⟩).data.toList))∧Below W.heap.size W w'):=(show ∀ W,_→_ from fun W hW=>KN.out 4 W (by omega) hW)
 have K5:Hid (∀ W,Below w3.heap.size w3 W→Calls Tryz.prog 25 #[.int .i64 5,.pointer (some ⟨w2.heap.size,0,none⟩)] W fun e w'=>e = .returned (.int .i64 (atoiV (os.getD 5 ⟨#[]⟩).data.toList))∧Below W.heap.size W w'):=(show ∀ W,_→_ from fun W hW=>KN.out 5 W (by omega) hW)
 have K6:Hid (∀ W,Below w3.heap.size w3 W→Calls Tryz.prog 25 #[.int .i64 6,.pointer (some ⟨w2.heap.size,0,none⟩)] W fun e w'=>e = .returned (.int .i64 (atoiV (os.getD 6 ⟨#[]⟩).data.toList))∧Below W.heap.size W w'):=(show ∀ W,_→_ from fun W hW=>KN.out 6 W (by omega) hW)
 have HMK:Hid (∀ k,kindOf (os.getD 2 ⟨#[]⟩).data.toList=k→makeT atoiV (cutL s.data.toList) = { id:=atoiV (os.getD 0 ⟨#[]⟩).data.toList,known:=atoiV (os.getD 1 ⟨#[]⟩).data.toList,kind:=k,pit:=if k=4 then 0 else atoiV (os.getD 3 ⟨#[]⟩).data.toList,layer:=if k=4 then 0 else atoiV (os.getD 4 ⟨#[]⟩).data.toList,lower:=if k=1 then atoiV (os.getD 5 ⟨#[]⟩).data.toList else 0,low:=if k=2 then atoiV (os.getD 5 ⟨#[]⟩).data.toList else 0,high:=if k=2 then atoiV (os.getD 6 ⟨#[]⟩).data.toList else 0,cost:=if k=3 then atoiV (os.getD 5 ⟨#[]⟩).data.toList else 0,void:=if k=4 then atoiV (os.getD 3 ⟨#[]⟩).data.toList else 0 }):=(show ∀ k,_→_ from fun k hk=>by
  unfold makeT
  rw [←HPD.out]
  simp only [getD_data,hk])
 have HB3':Hid (Below w3.heap.size w3 w3):=(show Below _ _ _ from Below.refl _ _)
 clear KN HPD HPS
 generalize atoiV (os.getD 0 ⟨#[]⟩).data.toList=v0 at *
 generalize atoiV (os.getD 1 ⟨#[]⟩).data.toList=v1 at *
 generalize atoiV (os.getD 3 ⟨#[]⟩).data.toList=v3 at *
 generalize atoiV (os.getD 4 ⟨#[]⟩).data.toList=v4 at *
 generalize atoiV (os.getD 5 ⟨#[]⟩).data.toList=v5 at *
 generalize atoiV (os.getD 6 ⟨#[]⟩).data.toList=v6 at *
 go_upto_region 4 with (first
  | rw [HA6.out]
  | (((first|go_at_call 25|go_at_fn 25));(with_reducible refine (K1.out _ HB4.out).mono ?_);rintro e w5 ⟨rfl,hbx⟩
     have HB5:=Lib.hid (HB4.out.trans (hbx.mono HB4.out.size))
     have p5:=HGB.out w5 HB5.out
     obtain ⟨w6,a6,l6,z6,e6⟩:=alloc_facts w5 #[.int .i64 v0,.int .i64 v1,.int .u8 0,.int .i64 0,.int .i64 0,.int .i64 0,.int .i64 0,.int .i64 0,.int .i64 0,.int .i64 0] 23
     have HA6:=Lib.hid a6
     have HE6:=Lib.hid e6
     have HB6:=Lib.hid (HB5.out.trans (l6.mono HB5.out.size))
     have z6':w6.heap.size=w5.heap.size+1:=z6
     have hle5:w3.heap.size≤w5.heap.size:=HB5.out.size
     have p6:=HGB.out w6 HB6.out
     clear a6 l6 z6 e6
     clear hbx)
  | (((first|go_at_call 25|go_at_fn 25));(with_reducible refine (K0.out _ HB3'.out).mono ?_);rintro e w4 ⟨rfl,hbx⟩
     have HB4:=Lib.hid (HB3'.out.trans (hbx.mono HB3'.out.size))
     have p4:=HGB.out w4 HB4.out
     clear hbx))
 obtain ⟨c60,c61,c62,c63,c64,c65,c66,c67,c68,c69⟩:w6.cell? ⟨w5.heap.size,0,none⟩=some (.int .i64 v0)∧w6.cell? ⟨w5.heap.size,1,none⟩=some (.int .i64 v1)∧w6.cell? ⟨w5.heap.size,2,none⟩=some (.int .u8 0)∧w6.cell? ⟨w5.heap.size,3,none⟩=some (.int .i64 0)∧w6.cell? ⟨w5.heap.size,4,none⟩=some (.int .i64 0)∧w6.cell? ⟨w5.heap.size,5,none⟩=some (.int .i64 0)∧w6.cell? ⟨w5.heap.size,6,none⟩=some (.int .i64 0)∧w6.cell? ⟨w5.heap.size,7,none⟩=some (.int .i64 0)∧w6.cell? ⟨w5.heap.size,8,none⟩=some (.int .i64 0)∧w6.cell? ⟨w5.heap.size,9,none⟩=some (.int .i64 0):=(by simp [World.cell?,HE6.out])
 obtain ⟨g60,g61,g62,g63,g64,g65,g66,g67,g68,g69⟩:w6.frozen? ⟨w5.heap.size,0,none⟩=false∧w6.frozen? ⟨w5.heap.size,1,none⟩=false∧w6.frozen? ⟨w5.heap.size,2,none⟩=false∧w6.frozen? ⟨w5.heap.size,3,none⟩=false∧w6.frozen? ⟨w5.heap.size,4,none⟩=false∧w6.frozen? ⟨w5.heap.size,5,none⟩=false∧w6.frozen? ⟨w5.heap.size,6,none⟩=false∧w6.frozen? ⟨w5.heap.size,7,none⟩=false∧w6.frozen? ⟨w5.heap.size,8,none⟩=false∧w6.frozen? ⟨w5.heap.size,9,none⟩=false:=(by simp [World.frozen?,HE6.out])
 by_cases hlen:2<os.length
 case neg=>
  have l2:¬(2:Int)<(os.length:Int):=(by omega)
  have hkd:kindOf (os.getD 2 ⟨#[]⟩).data.toList=0:=(by rw [List.getD_eq_getElem?_getD,List.getElem?_eq_none (by omega)];rfl)
  obtain ⟨x,hx⟩:∃ x:Trace,x=⟨v0,v1,0,v3,v4,0,0,0,0,0⟩:=⟨_,rfl⟩
  have hmk:=HMK.out 0 hkd
  simp only [Int.reduceEq,reduceIte] at hmk
  rw [←hx] at hmk
  have HE:=Lib.hid (HEN.out x hmk)
  have KP:Hid (∀ W,VarsOk W→Calls Tryz.prog 5 #[.agg #[.int .i64 v0,.int .i64 v1,.int .u8 0,.int .i64 v3,.int .i64 v4,.int .i64 0,.int .i64 0,.int .i64 0,.int .i64 0,.int .i64 0]] W fun e w'=>e = .returned (.tuple #[.string (textV x),.int .i64 (checkTrace x)])∧Below W.heap.size W w'):=(show ∀ W,_→_ from fun W h=>by rw [hx];exact KW.out _ W h)
  have HX:=Lib.hid hx
  clear hmk hx HMK HEN KW hkd
  generalize textV x=T at *
  generalize checkTrace x=ce at *
  go_upto_region 18 with (first
   | (go_at_call 5;(with_reducible refine (KP.out _ (HV1.out _ (HB3.out.trans (((HB31.out.setCell (p:=⟨w5.heap.size,3,none⟩) hle5 _).setCell (p:=⟨w5.heap.size,4,none⟩) hle5 _).mono HB3.out.size)))).mono ?_);rintro e wz ⟨rfl,hbx⟩
      have hk:((w31.setCell ⟨w5.heap.size,3,none⟩ (.int .i64 v3)).setCell ⟨w5.heap.size,4,none⟩ (.int .i64 v4)).heap[w5.heap.size]? = some (.cells #[.int .i64 v0,.int .i64 v1,.int .u8 0,.int .i64 v3,.int .i64 v4,.int .i64 0,.int .i64 0,.int .i64 0,.int .i64 0,.int .i64 0] 23 (0,0)):=(by first|exact (heap_setCell_obj (heap_setCell_obj HE31.out))|(rw [(heap_setCell_obj (heap_setCell_obj HE31.out))];rfl))
      have hh:=(hbx.block w5.heap.size (Array.getElem?_eq_some_iff.1 hk).1).trans hk
      have HEz:=Lib.hid hh
      have HBz:=Lib.hid (((HB31.out.setCell (p:=⟨w5.heap.size,3,none⟩) hle5 _).setCell (p:=⟨w5.heap.size,4,none⟩) hle5 _).trans (hbx.mono ((HB31.out.setCell (p:=⟨w5.heap.size,3,none⟩) hle5 _).setCell (p:=⟨w5.heap.size,4,none⟩) hle5 _).size))
      obtain ⟨m0,m1,m2,m3,m4,m5,m6,m7,m8,m9⟩:wz.cell? ⟨w5.heap.size,0,none⟩=some (.int .i64 v0)∧wz.cell? ⟨w5.heap.size,1,none⟩=some (.int .i64 v1)∧wz.cell? ⟨w5.heap.size,2,none⟩=some (.int .u8 0)∧wz.cell? ⟨w5.heap.size,3,none⟩=some (.int .i64 v3)∧wz.cell? ⟨w5.heap.size,4,none⟩=some (.int .i64 v4)∧wz.cell? ⟨w5.heap.size,5,none⟩=some (.int .i64 0)∧wz.cell? ⟨w5.heap.size,6,none⟩=some (.int .i64 0)∧wz.cell? ⟨w5.heap.size,7,none⟩=some (.int .i64 0)∧wz.cell? ⟨w5.heap.size,8,none⟩=some (.int .i64 0)∧wz.cell? ⟨w5.heap.size,9,none⟩=some (.int .i64 0):=(by simp [World.cell?,hh])
      clear hbx hh hk)
   | (((first|go_at_call 25|go_at_fn 25));(with_reducible refine (K4.out _ HB30.out).mono ?_);rintro e w31 ⟨rfl,hbx⟩
      have hk:w30.heap[w5.heap.size]? = some (.cells #[.int .i64 v0,.int .i64 v1,.int .u8 0,.int .i64 0,.int .i64 0,.int .i64 0,.int .i64 0,.int .i64 0,.int .i64 0,.int .i64 0] 23 (0,0)):=(by first|exact HE30.out|(rw [HE30.out];rfl))
      have hh:=(hbx.block w5.heap.size (Array.getElem?_eq_some_iff.1 hk).1).trans hk
      have HE31:=Lib.hid hh
      have HB31:=Lib.hid (HB30.out.trans (hbx.mono HB30.out.size))
      have p31:=HGB.out w31 HB31.out
      obtain ⟨c31_0,c31_1,c31_2,c31_3,c31_4,c31_5,c31_6,c31_7,c31_8,c31_9⟩:w31.cell? ⟨w5.heap.size,0,none⟩=some (.int .i64 v0)∧w31.cell? ⟨w5.heap.size,1,none⟩=some (.int .i64 v1)∧w31.cell? ⟨w5.heap.size,2,none⟩=some (.int .u8 0)∧w31.cell? ⟨w5.heap.size,3,none⟩=some (.int .i64 0)∧w31.cell? ⟨w5.heap.size,4,none⟩=some (.int .i64 0)∧w31.cell? ⟨w5.heap.size,5,none⟩=some (.int .i64 0)∧w31.cell? ⟨w5.heap.size,6,none⟩=some (.int .i64 0)∧w31.cell? ⟨w5.heap.size,7,none⟩=some (.int .i64 0)∧w31.cell? ⟨w5.heap.size,8,none⟩=some (.int .i64 0)∧w31.cell? ⟨w5.heap.size,9,none⟩=some (.int .i64 0):=(by simp [World.cell?,hh])
      obtain ⟨g31_0,g31_1,g31_2,g31_3,g31_4,g31_5,g31_6,g31_7,g31_8,g31_9⟩:w31.frozen? ⟨w5.heap.size,0,none⟩=false∧w31.frozen? ⟨w5.heap.size,1,none⟩=false∧w31.frozen? ⟨w5.heap.size,2,none⟩=false∧w31.frozen? ⟨w5.heap.size,3,none⟩=false∧w31.frozen? ⟨w5.heap.size,4,none⟩=false∧w31.frozen? ⟨w5.heap.size,5,none⟩=false∧w31.frozen? ⟨w5.heap.size,6,none⟩=false∧w31.frozen? ⟨w5.heap.size,7,none⟩=false∧w31.frozen? ⟨w5.heap.size,8,none⟩=false∧w31.frozen? ⟨w5.heap.size,9,none⟩=false:=(by simp [World.frozen?,hh])
      clear hbx hh hk)
   | (((first|go_at_call 25|go_at_fn 25));(with_reducible refine (K3.out _ HB6.out).mono ?_);rintro e w30 ⟨rfl,hbx⟩
      have hk:w6.heap[w5.heap.size]? = some (.cells #[.int .i64 v0,.int .i64 v1,.int .u8 0,.int .i64 0,.int .i64 0,.int .i64 0,.int .i64 0,.int .i64 0,.int .i64 0,.int .i64 0] 23 (0,0)):=(by first|exact HE6.out|(rw [HE6.out];rfl))
      have hh:=(hbx.block w5.heap.size (Array.getElem?_eq_some_iff.1 hk).1).trans hk
      have HE30:=Lib.hid hh
      have HB30:=Lib.hid (HB6.out.trans (hbx.mono HB6.out.size))
      have p30:=HGB.out w30 HB30.out
      obtain ⟨c30_0,c30_1,c30_2,c30_3,c30_4,c30_5,c30_6,c30_7,c30_8,c30_9⟩:w30.cell? ⟨w5.heap.size,0,none⟩=some (.int .i64 v0)∧w30.cell? ⟨w5.heap.size,1,none⟩=some (.int .i64 v1)∧w30.cell? ⟨w5.heap.size,2,none⟩=some (.int .u8 0)∧w30.cell? ⟨w5.heap.size,3,none⟩=some (.int .i64 0)∧w30.cell? ⟨w5.heap.size,4,none⟩=some (.int .i64 0)∧w30.cell? ⟨w5.heap.size,5,none⟩=some (.int .i64 0)∧w30.cell? ⟨w5.heap.size,6,none⟩=some (.int .i64 0)∧w30.cell? ⟨w5.heap.size,7,none⟩=some (.int .i64 0)∧w30.cell? ⟨w5.heap.size,8,none⟩=some (.int .i64 0)∧w30.cell? ⟨w5.heap.size,9,none⟩=some (.int .i64 0):=(by simp [World.cell?,hh])
      obtain ⟨g30_0,g30_1,g30_2,g30_3,g30_4,g30_5,g30_6,g30_7,g30_8,g30_9⟩:w30.frozen? ⟨w5.heap.size,0,none⟩=false∧w30.frozen? ⟨w5.heap.size,1,none⟩=false∧w30.frozen? ⟨w5.heap.size,2,none⟩=false∧w30.frozen? ⟨w5.heap.size,3,none⟩=false∧w30.frozen? ⟨w5.heap.size,4,none⟩=false∧w30.frozen? ⟨w5.heap.size,5,none⟩=false∧w30.frozen? ⟨w5.heap.size,6,none⟩=false∧w30.frozen? ⟨w5.heap.size,7,none⟩=false∧w30.frozen? ⟨w5.heap.size,8,none⟩=false∧w30.frozen? ⟨w5.heap.size,9,none⟩=false:=(by simp [World.frozen?,hh])
      clear hbx hh hk))
  obtain ⟨q,⟨r0,r1,r2,r3,r4,r5,r6,r7,r8,r9⟩,c0,c1,c2,c3,c4,c5,c6,c7,c8,c9⟩:=HRE.out wz (HB3.out.trans (HBz.out.mono HB3.out.size))
  have HQz:=Lib.hid q
  have HBB:=Lib.hid (HB1.out.trans ((HB3.out.trans (HBz.out.mono HB3.out.size)).mono HB1.out.size))
  clear q
  rcases HE.out with ⟨rfl,rfl,t1,t2⟩|⟨rfl,hne,t1,t2⟩|⟨rfl,t1,t2⟩
  · rw [HX.out] at t1
    subst t1 t2
    go_wp2
    refine bodyPost_ret (results_ct rfl _ _ w.heap.size _ _ (0,0) _ rfl (set10 HQz.out) Tryz.underlying23 rfl (by kernel_rfl)) rfl ?_
    exact ⟨rfl,below_set10 HBB.out (Nat.le_refl _) _ _ _ _ _ _ _ _ _ _⟩
  · rw [HZT.out] at t1
    subst t1 t2
    have hte:(T.toList==s.toList)=false:=str_ne hne
    clear hne
    go_wp2
    refine bodyPost_ret (results_ct rfl _ _ w.heap.size _ _ (0,0) _ rfl (set10 HQz.out) Tryz.underlying23 rfl (by kernel_rfl)) rfl ?_
    exact ⟨rfl,below_set10 HBB.out (Nat.le_refl _) _ _ _ _ _ _ _ _ _ _⟩
  · rw [HZT.out] at t1
    subst t1 t2
    go_wp2
    refine bodyPost_ret (results_ct rfl _ _ w.heap.size _ _ (0,0) _ rfl (set10 HQz.out) Tryz.underlying23 rfl (by kernel_rfl)) rfl ?_
    exact ⟨rfl,below_set10 HBB.out (Nat.le_refl _) _ _ _ _ _ _ _ _ _ _⟩
 case pos=>
  have l2:(2:Int)<(os.length:Int):=(by omega)
  obtain ⟨bk,off,hA2,hbk,-⟩:=HR2.out.at_ (by omega)
  subst hA2
  obtain ⟨b2,hb2'⟩:∃ b,os[2]? = some b:=⟨os[2]'(by omega),List.getElem?_eq_getElem _⟩
  have HCS:Hid (∀ W,Below w3.heap.size w3 W→W.cell? ⟨bk,off+2,none⟩=some (.string b2)):=(show ∀ W,_→_ from fun W hW=>(HRO.out W hW).str (Below.refl _ _) hb2')
  have e2:(os.getD 2 ⟨#[]⟩)=b2:=(by rw [List.getD_eq_getElem?_getD,hb2'];rfl)
  rw [e2] at HMK
  clear hb2' e2
  obtain ⟨w7,a7,l7,z7,e7⟩:=alloc_facts w6 #[] 3
  clear a7 l7 z7 e7
  go_upto_region 6 with (first
   | (go_at_call 20;(with_reducible refine (words_any _).mono ?_);rintro e w8 ⟨rfl,hbx⟩
      obtain ⟨w9,a9,l9,z9,e9⟩:=alloc_facts w8 #[.string ⟨#[]⟩,.string ⟨#[97,98,111,118,101]⟩,.string ⟨#[100,97,116,101,100]⟩,.string ⟨#[109,111,118,101,100]⟩,.string ⟨#[118,111,105,100]⟩] 60
      have HA9:=Lib.hid a9
      have HE9:=Lib.hid e9
      have HB8:=Lib.hid (HB6.out.trans (hbx.mono HB6.out.size))
      have HK9:=Lib.hid (hbx.trans (l9.mono hbx.size))
      have HB9:=Lib.hid ((HB6.out.trans (hbx.mono HB6.out.size)).trans (l9.mono (HB6.out.trans (hbx.mono HB6.out.size)).size))
      unfold wordsV
      clear a9 l9 z9 e9 hbx)
   | rw [HA9.out])
  refine rs6 _ rfl w2.heap.size w8.heap.size w5.heap.size bk off os.length q2 b2 (idxW b2) (kindOf b2.data.toList) _ w9 _ rfl rfl rfl rfl (fun W hW=> ?_) (fun W hW=>Index_W w8.heap.size b2 W ((hW.block w8.heap.size (Array.getElem?_eq_some_iff.1 HE9.out).1).trans HE9.out)) hlen (idxW_max b2) (by rcases kindOf_rng b2.data.toList with h|h|h|h|h<;>rw [h]<;>rfl) ?_
  · have hh:=((HK9.out.trans (hW.mono HK9.out.size)).block w5.heap.size (by omega)).trans HE6.out
    refine ⟨HGB.out W (HB9.out.trans (hW.mono HB9.out.size)),HCS.out W (HB9.out.trans (hW.mono HB9.out.size)),?_,?_⟩
    · simp [World.cell?,hh]
    · simp [World.frozen?,hh]
  intro w10 hb10
  have HB10:=Lib.hid (HB9.out.trans (hb10.mono HB9.out.size))
  have HE10:Hid (w10.heap[w5.heap.size]? = some (.cells #[.int .i64 v0,.int .i64 v1,.int .u8 0,.int .i64 0,.int .i64 0,.int .i64 0,.int .i64 0,.int .i64 0,.int .i64 0,.int .i64 0] 23 (0,0))):=(show _=_ from ((HK9.out.trans (hb10.mono HK9.out.size)).block w5.heap.size (by omega)).trans HE6.out)
  have p10:=HGB.out w10 HB10.out
  obtain ⟨c10_0,c10_1,c10_2,c10_3,c10_4,c10_5,c10_6,c10_7,c10_8,c10_9⟩:w10.cell? ⟨w5.heap.size,0,none⟩=some (.int .i64 v0)∧w10.cell? ⟨w5.heap.size,1,none⟩=some (.int .i64 v1)∧w10.cell? ⟨w5.heap.size,2,none⟩=some (.int .u8 0)∧w10.cell? ⟨w5.heap.size,3,none⟩=some (.int .i64 0)∧w10.cell? ⟨w5.heap.size,4,none⟩=some (.int .i64 0)∧w10.cell? ⟨w5.heap.size,5,none⟩=some (.int .i64 0)∧w10.cell? ⟨w5.heap.size,6,none⟩=some (.int .i64 0)∧w10.cell? ⟨w5.heap.size,7,none⟩=some (.int .i64 0)∧w10.cell? ⟨w5.heap.size,8,none⟩=some (.int .i64 0)∧w10.cell? ⟨w5.heap.size,9,none⟩=some (.int .i64 0):=(by simp [World.cell?,HE10.out])
  obtain ⟨g10_0,g10_1,g10_2,g10_3,g10_4,g10_5,g10_6,g10_7,g10_8,g10_9⟩:w10.frozen? ⟨w5.heap.size,0,none⟩=false∧w10.frozen? ⟨w5.heap.size,1,none⟩=false∧w10.frozen? ⟨w5.heap.size,2,none⟩=false∧w10.frozen? ⟨w5.heap.size,3,none⟩=false∧w10.frozen? ⟨w5.heap.size,4,none⟩=false∧w10.frozen? ⟨w5.heap.size,5,none⟩=false∧w10.frozen? ⟨w5.heap.size,6,none⟩=false∧w10.frozen? ⟨w5.heap.size,7,none⟩=false∧w10.frozen? ⟨w5.heap.size,8,none⟩=false∧w10.frozen? ⟨w5.heap.size,9,none⟩=false:=(by simp [World.frozen?,HE10.out])
  clear hb10
  simp only [setsL,Trs6,Nat.reduceAdd,List.setIfInBounds_toArray,List.set_cons_succ,List.set_cons_zero,List.take_succ_cons,List.take_zero]
  obtain ⟨kd,hkd⟩:∃ kd,kindOf b2.data.toList=kd:=⟨_,rfl⟩
  have hkr:=kindOf_rng b2.data.toList
  rw [hkd] at hkr ⊢
  rcases hkr with rfl|rfl|rfl|rfl|rfl
  · obtain ⟨x,hx⟩:∃ x:Trace,x=⟨v0,v1,0,v3,v4,0,0,0,0,0⟩:=⟨_,rfl⟩
    have hmk:=HMK.out 0 hkd
    simp only [Int.reduceEq,reduceIte] at hmk
    rw [←hx] at hmk
    have HE:=Lib.hid (HEN.out x hmk)
    have KP:Hid (∀ W,VarsOk W→Calls Tryz.prog 5 #[.agg #[.int .i64 v0,.int .i64 v1,.int .u8 0,.int .i64 v3,.int .i64 v4,.int .i64 0,.int .i64 0,.int .i64 0,.int .i64 0,.int .i64 0]] W fun e w'=>e = .returned (.tuple #[.string (textV x),.int .i64 (checkTrace x)])∧Below W.heap.size W w'):=(show ∀ W,_→_ from fun W h=>by rw [hx];exact KW.out _ W h)
    have HX:=Lib.hid hx
    clear hmk hx HMK HEN KW hkd
    generalize textV x=T at *
    generalize checkTrace x=ce at *
    go_upto_region 18 with (first
     | (go_at_call 5;(with_reducible refine (KP.out _ (HV1.out _ (HB3.out.trans (((HB31.out.setCell (p:=⟨w5.heap.size,3,none⟩) hle5 _).setCell (p:=⟨w5.heap.size,4,none⟩) hle5 _).mono HB3.out.size)))).mono ?_);rintro e wz ⟨rfl,hbx⟩
        have hk:((w31.setCell ⟨w5.heap.size,3,none⟩ (.int .i64 v3)).setCell ⟨w5.heap.size,4,none⟩ (.int .i64 v4)).heap[w5.heap.size]? = some (.cells #[.int .i64 v0,.int .i64 v1,.int .u8 0,.int .i64 v3,.int .i64 v4,.int .i64 0,.int .i64 0,.int .i64 0,.int .i64 0,.int .i64 0] 23 (0,0)):=(by first|exact (heap_setCell_obj (heap_setCell_obj HE31.out))|(rw [(heap_setCell_obj (heap_setCell_obj HE31.out))];rfl))
        have hh:=(hbx.block w5.heap.size (Array.getElem?_eq_some_iff.1 hk).1).trans hk
        have HEz:=Lib.hid hh
        have HBz:=Lib.hid (((HB31.out.setCell (p:=⟨w5.heap.size,3,none⟩) hle5 _).setCell (p:=⟨w5.heap.size,4,none⟩) hle5 _).trans (hbx.mono ((HB31.out.setCell (p:=⟨w5.heap.size,3,none⟩) hle5 _).setCell (p:=⟨w5.heap.size,4,none⟩) hle5 _).size))
        obtain ⟨m0,m1,m2,m3,m4,m5,m6,m7,m8,m9⟩:wz.cell? ⟨w5.heap.size,0,none⟩=some (.int .i64 v0)∧wz.cell? ⟨w5.heap.size,1,none⟩=some (.int .i64 v1)∧wz.cell? ⟨w5.heap.size,2,none⟩=some (.int .u8 0)∧wz.cell? ⟨w5.heap.size,3,none⟩=some (.int .i64 v3)∧wz.cell? ⟨w5.heap.size,4,none⟩=some (.int .i64 v4)∧wz.cell? ⟨w5.heap.size,5,none⟩=some (.int .i64 0)∧wz.cell? ⟨w5.heap.size,6,none⟩=some (.int .i64 0)∧wz.cell? ⟨w5.heap.size,7,none⟩=some (.int .i64 0)∧wz.cell? ⟨w5.heap.size,8,none⟩=some (.int .i64 0)∧wz.cell? ⟨w5.heap.size,9,none⟩=some (.int .i64 0):=(by simp [World.cell?,hh])
        clear hbx hh hk)
     | (((first|go_at_call 25|go_at_fn 25));(with_reducible refine (K4.out _ HB30.out).mono ?_);rintro e w31 ⟨rfl,hbx⟩
        have hk:w30.heap[w5.heap.size]? = some (.cells #[.int .i64 v0,.int .i64 v1,.int .u8 0,.int .i64 0,.int .i64 0,.int .i64 0,.int .i64 0,.int .i64 0,.int .i64 0,.int .i64 0] 23 (0,0)):=(by first|exact HE30.out|(rw [HE30.out];rfl))
        have hh:=(hbx.block w5.heap.size (Array.getElem?_eq_some_iff.1 hk).1).trans hk
        have HE31:=Lib.hid hh
        have HB31:=Lib.hid (HB30.out.trans (hbx.mono HB30.out.size))
        have p31:=HGB.out w31 HB31.out
        obtain ⟨c31_0,c31_1,c31_2,c31_3,c31_4,c31_5,c31_6,c31_7,c31_8,c31_9⟩:w31.cell? ⟨w5.heap.size,0,none⟩=some (.int .i64 v0)∧w31.cell? ⟨w5.heap.size,1,none⟩=some (.int .i64 v1)∧w31.cell? ⟨w5.heap.size,2,none⟩=some (.int .u8 0)∧w31.cell? ⟨w5.heap.size,3,none⟩=some (.int .i64 0)∧w31.cell? ⟨w5.heap.size,4,none⟩=some (.int .i64 0)∧w31.cell? ⟨w5.heap.size,5,none⟩=some (.int .i64 0)∧w31.cell? ⟨w5.heap.size,6,none⟩=some (.int .i64 0)∧w31.cell? ⟨w5.heap.size,7,none⟩=some (.int .i64 0)∧w31.cell? ⟨w5.heap.size,8,none⟩=some (.int .i64 0)∧w31.cell? ⟨w5.heap.size,9,none⟩=some (.int .i64 0):=(by simp [World.cell?,hh])
        obtain ⟨g31_0,g31_1,g31_2,g31_3,g31_4,g31_5,g31_6,g31_7,g31_8,g31_9⟩:w31.frozen? ⟨w5.heap.size,0,none⟩=false∧w31.frozen? ⟨w5.heap.size,1,none⟩=false∧w31.frozen? ⟨w5.heap.size,2,none⟩=false∧w31.frozen? ⟨w5.heap.size,3,none⟩=false∧w31.frozen? ⟨w5.heap.size,4,none⟩=false∧w31.frozen? ⟨w5.heap.size,5,none⟩=false∧w31.frozen? ⟨w5.heap.size,6,none⟩=false∧w31.frozen? ⟨w5.heap.size,7,none⟩=false∧w31.frozen? ⟨w5.heap.size,8,none⟩=false∧w31.frozen? ⟨w5.heap.size,9,none⟩=false:=(by simp [World.frozen?,hh])
        clear hbx hh hk)
     | (((first|go_at_call 25|go_at_fn 25));(with_reducible refine (K3.out _ (HB10.out.setCell (p:=⟨w5.heap.size,2,none⟩) hle5 _)).mono ?_);rintro e w30 ⟨rfl,hbx⟩
        have hk:(w10.setCell ⟨w5.heap.size,2,none⟩ (.int .u8 0)).heap[w5.heap.size]? = some (.cells #[.int .i64 v0,.int .i64 v1,.int .u8 0,.int .i64 0,.int .i64 0,.int .i64 0,.int .i64 0,.int .i64 0,.int .i64 0,.int .i64 0] 23 (0,0)):=(by first|exact (heap_setCell_obj HE10.out)|(rw [(heap_setCell_obj HE10.out)];rfl))
        have hh:=(hbx.block w5.heap.size (Array.getElem?_eq_some_iff.1 hk).1).trans hk
        have HE30:=Lib.hid hh
        have HB30:=Lib.hid ((HB10.out.setCell (p:=⟨w5.heap.size,2,none⟩) hle5 _).trans (hbx.mono (HB10.out.setCell (p:=⟨w5.heap.size,2,none⟩) hle5 _).size))
        have p30:=HGB.out w30 HB30.out
        obtain ⟨c30_0,c30_1,c30_2,c30_3,c30_4,c30_5,c30_6,c30_7,c30_8,c30_9⟩:w30.cell? ⟨w5.heap.size,0,none⟩=some (.int .i64 v0)∧w30.cell? ⟨w5.heap.size,1,none⟩=some (.int .i64 v1)∧w30.cell? ⟨w5.heap.size,2,none⟩=some (.int .u8 0)∧w30.cell? ⟨w5.heap.size,3,none⟩=some (.int .i64 0)∧w30.cell? ⟨w5.heap.size,4,none⟩=some (.int .i64 0)∧w30.cell? ⟨w5.heap.size,5,none⟩=some (.int .i64 0)∧w30.cell? ⟨w5.heap.size,6,none⟩=some (.int .i64 0)∧w30.cell? ⟨w5.heap.size,7,none⟩=some (.int .i64 0)∧w30.cell? ⟨w5.heap.size,8,none⟩=some (.int .i64 0)∧w30.cell? ⟨w5.heap.size,9,none⟩=some (.int .i64 0):=(by simp [World.cell?,hh])
        obtain ⟨g30_0,g30_1,g30_2,g30_3,g30_4,g30_5,g30_6,g30_7,g30_8,g30_9⟩:w30.frozen? ⟨w5.heap.size,0,none⟩=false∧w30.frozen? ⟨w5.heap.size,1,none⟩=false∧w30.frozen? ⟨w5.heap.size,2,none⟩=false∧w30.frozen? ⟨w5.heap.size,3,none⟩=false∧w30.frozen? ⟨w5.heap.size,4,none⟩=false∧w30.frozen? ⟨w5.heap.size,5,none⟩=false∧w30.frozen? ⟨w5.heap.size,6,none⟩=false∧w30.frozen? ⟨w5.heap.size,7,none⟩=false∧w30.frozen? ⟨w5.heap.size,8,none⟩=false∧w30.frozen? ⟨w5.heap.size,9,none⟩=false:=(by simp [World.frozen?,hh])
        clear hbx hh hk))
    obtain ⟨q,⟨r0,r1,r2,r3,r4,r5,r6,r7,r8,r9⟩,c0,c1,c2,c3,c4,c5,c6,c7,c8,c9⟩:=HRE.out wz (HB3.out.trans (HBz.out.mono HB3.out.size))
    have HQz:=Lib.hid q
    have HBB:=Lib.hid (HB1.out.trans ((HB3.out.trans (HBz.out.mono HB3.out.size)).mono HB1.out.size))
    clear q
    rcases HE.out with ⟨rfl,rfl,t1,t2⟩|⟨rfl,hne,t1,t2⟩|⟨rfl,t1,t2⟩
    · rw [HX.out] at t1
      subst t1 t2
      go_wp2
      refine bodyPost_ret (results_ct rfl _ _ w.heap.size _ _ (0,0) _ rfl (set10 HQz.out) Tryz.underlying23 rfl (by kernel_rfl)) rfl ?_
      exact ⟨rfl,below_set10 HBB.out (Nat.le_refl _) _ _ _ _ _ _ _ _ _ _⟩
    · rw [HZT.out] at t1
      subst t1 t2
      have hte:(T.toList==s.toList)=false:=str_ne hne
      clear hne
      go_wp2
      refine bodyPost_ret (results_ct rfl _ _ w.heap.size _ _ (0,0) _ rfl (set10 HQz.out) Tryz.underlying23 rfl (by kernel_rfl)) rfl ?_
      exact ⟨rfl,below_set10 HBB.out (Nat.le_refl _) _ _ _ _ _ _ _ _ _ _⟩
    · rw [HZT.out] at t1
      subst t1 t2
      go_wp2
      refine bodyPost_ret (results_ct rfl _ _ w.heap.size _ _ (0,0) _ rfl (set10 HQz.out) Tryz.underlying23 rfl (by kernel_rfl)) rfl ?_
      exact ⟨rfl,below_set10 HBB.out (Nat.le_refl _) _ _ _ _ _ _ _ _ _ _⟩
  · obtain ⟨x,hx⟩:∃ x:Trace,x=⟨v0,v1,1,v3,v4,v5,0,0,0,0⟩:=⟨_,rfl⟩
    have hmk:=HMK.out 1 hkd
    simp only [Int.reduceEq,reduceIte] at hmk
    rw [←hx] at hmk
    have HE:=Lib.hid (HEN.out x hmk)
    have KP:Hid (∀ W,VarsOk W→Calls Tryz.prog 5 #[.agg #[.int .i64 v0,.int .i64 v1,.int .u8 1,.int .i64 v3,.int .i64 v4,.int .i64 v5,.int .i64 0,.int .i64 0,.int .i64 0,.int .i64 0]] W fun e w'=>e = .returned (.tuple #[.string (textV x),.int .i64 (checkTrace x)])∧Below W.heap.size W w'):=(show ∀ W,_→_ from fun W h=>by rw [hx];exact KW.out _ W h)
    have HX:=Lib.hid hx
    clear hmk hx HMK HEN KW hkd
    generalize textV x=T at *
    generalize checkTrace x=ce at *
    go_upto_region 18 with (first
     | (go_at_call 5;(with_reducible refine (KP.out _ (HV1.out _ (HB3.out.trans ((HB32.out.setCell (p:=⟨w5.heap.size,5,none⟩) hle5 _).mono HB3.out.size)))).mono ?_);rintro e wz ⟨rfl,hbx⟩
        have hk:(w32.setCell ⟨w5.heap.size,5,none⟩ (.int .i64 v5)).heap[w5.heap.size]? = some (.cells #[.int .i64 v0,.int .i64 v1,.int .u8 1,.int .i64 v3,.int .i64 v4,.int .i64 v5,.int .i64 0,.int .i64 0,.int .i64 0,.int .i64 0] 23 (0,0)):=(by first|exact (heap_setCell_obj HE32.out)|(rw [(heap_setCell_obj HE32.out)];rfl))
        have hh:=(hbx.block w5.heap.size (Array.getElem?_eq_some_iff.1 hk).1).trans hk
        have HEz:=Lib.hid hh
        have HBz:=Lib.hid ((HB32.out.setCell (p:=⟨w5.heap.size,5,none⟩) hle5 _).trans (hbx.mono (HB32.out.setCell (p:=⟨w5.heap.size,5,none⟩) hle5 _).size))
        obtain ⟨m0,m1,m2,m3,m4,m5,m6,m7,m8,m9⟩:wz.cell? ⟨w5.heap.size,0,none⟩=some (.int .i64 v0)∧wz.cell? ⟨w5.heap.size,1,none⟩=some (.int .i64 v1)∧wz.cell? ⟨w5.heap.size,2,none⟩=some (.int .u8 1)∧wz.cell? ⟨w5.heap.size,3,none⟩=some (.int .i64 v3)∧wz.cell? ⟨w5.heap.size,4,none⟩=some (.int .i64 v4)∧wz.cell? ⟨w5.heap.size,5,none⟩=some (.int .i64 v5)∧wz.cell? ⟨w5.heap.size,6,none⟩=some (.int .i64 0)∧wz.cell? ⟨w5.heap.size,7,none⟩=some (.int .i64 0)∧wz.cell? ⟨w5.heap.size,8,none⟩=some (.int .i64 0)∧wz.cell? ⟨w5.heap.size,9,none⟩=some (.int .i64 0):=(by simp [World.cell?,hh])
        clear hbx hh hk)
     | (((first|go_at_call 25|go_at_fn 25));(with_reducible refine (K5.out _ ((HB31.out.setCell (p:=⟨w5.heap.size,3,none⟩) hle5 _).setCell (p:=⟨w5.heap.size,4,none⟩) hle5 _)).mono ?_);rintro e w32 ⟨rfl,hbx⟩
        have hk:((w31.setCell ⟨w5.heap.size,3,none⟩ (.int .i64 v3)).setCell ⟨w5.heap.size,4,none⟩ (.int .i64 v4)).heap[w5.heap.size]? = some (.cells #[.int .i64 v0,.int .i64 v1,.int .u8 1,.int .i64 v3,.int .i64 v4,.int .i64 0,.int .i64 0,.int .i64 0,.int .i64 0,.int .i64 0] 23 (0,0)):=(by first|exact (heap_setCell_obj (heap_setCell_obj HE31.out))|(rw [(heap_setCell_obj (heap_setCell_obj HE31.out))];rfl))
        have hh:=(hbx.block w5.heap.size (Array.getElem?_eq_some_iff.1 hk).1).trans hk
        have HE32:=Lib.hid hh
        have HB32:=Lib.hid (((HB31.out.setCell (p:=⟨w5.heap.size,3,none⟩) hle5 _).setCell (p:=⟨w5.heap.size,4,none⟩) hle5 _).trans (hbx.mono ((HB31.out.setCell (p:=⟨w5.heap.size,3,none⟩) hle5 _).setCell (p:=⟨w5.heap.size,4,none⟩) hle5 _).size))
        have p32:=HGB.out w32 HB32.out
        obtain ⟨c32_0,c32_1,c32_2,c32_3,c32_4,c32_5,c32_6,c32_7,c32_8,c32_9⟩:w32.cell? ⟨w5.heap.size,0,none⟩=some (.int .i64 v0)∧w32.cell? ⟨w5.heap.size,1,none⟩=some (.int .i64 v1)∧w32.cell? ⟨w5.heap.size,2,none⟩=some (.int .u8 1)∧w32.cell? ⟨w5.heap.size,3,none⟩=some (.int .i64 v3)∧w32.cell? ⟨w5.heap.size,4,none⟩=some (.int .i64 v4)∧w32.cell? ⟨w5.heap.size,5,none⟩=some (.int .i64 0)∧w32.cell? ⟨w5.heap.size,6,none⟩=some (.int .i64 0)∧w32.cell? ⟨w5.heap.size,7,none⟩=some (.int .i64 0)∧w32.cell? ⟨w5.heap.size,8,none⟩=some (.int .i64 0)∧w32.cell? ⟨w5.heap.size,9,none⟩=some (.int .i64 0):=(by simp [World.cell?,hh])
        obtain ⟨g32_0,g32_1,g32_2,g32_3,g32_4,g32_5,g32_6,g32_7,g32_8,g32_9⟩:w32.frozen? ⟨w5.heap.size,0,none⟩=false∧w32.frozen? ⟨w5.heap.size,1,none⟩=false∧w32.frozen? ⟨w5.heap.size,2,none⟩=false∧w32.frozen? ⟨w5.heap.size,3,none⟩=false∧w32.frozen? ⟨w5.heap.size,4,none⟩=false∧w32.frozen? ⟨w5.heap.size,5,none⟩=false∧w32.frozen? ⟨w5.heap.size,6,none⟩=false∧w32.frozen? ⟨w5.heap.size,7,none⟩=false∧w32.frozen? ⟨w5.heap.size,8,none⟩=false∧w32.frozen? ⟨w5.heap.size,9,none⟩=false:=(by simp [World.frozen?,hh])
        clear hbx hh hk)
     | (((first|go_at_call 25|go_at_fn 25));(with_reducible refine (K4.out _ HB30.out).mono ?_);rintro e w31 ⟨rfl,hbx⟩
        have hk:w30.heap[w5.heap.size]? = some (.cells #[.int .i64 v0,.int .i64 v1,.int .u8 1,.int .i64 0,.int .i64 0,.int .i64 0,.int .i64 0,.int .i64 0,.int .i64 0,.int .i64 0] 23 (0,0)):=(by first|exact HE30.out|(rw [HE30.out];rfl))
        have hh:=(hbx.block w5.heap.size (Array.getElem?_eq_some_iff.1 hk).1).trans hk
        have HE31:=Lib.hid hh
        have HB31:=Lib.hid (HB30.out.trans (hbx.mono HB30.out.size))
        have p31:=HGB.out w31 HB31.out
        obtain ⟨c31_0,c31_1,c31_2,c31_3,c31_4,c31_5,c31_6,c31_7,c31_8,c31_9⟩:w31.cell? ⟨w5.heap.size,0,none⟩=some (.int .i64 v0)∧w31.cell? ⟨w5.heap.size,1,none⟩=some (.int .i64 v1)∧w31.cell? ⟨w5.heap.size,2,none⟩=some (.int .u8 1)∧w31.cell? ⟨w5.heap.size,3,none⟩=some (.int .i64 0)∧w31.cell? ⟨w5.heap.size,4,none⟩=some (.int .i64 0)∧w31.cell? ⟨w5.heap.size,5,none⟩=some (.int .i64 0)∧w31.cell? ⟨w5.heap.size,6,none⟩=some (.int .i64 0)∧w31.cell? ⟨w5.heap.size,7,none⟩=some (.int .i64 0)∧w31.cell? ⟨w5.heap.size,8,none⟩=some (.int .i64 0)∧w31.cell? ⟨w5.heap.size,9,none⟩=some (.int .i64 0):=(by simp [World.cell?,hh])
        obtain ⟨g31_0,g31_1,g31_2,g31_3,g31_4,g31_5,g31_6,g31_7,g31_8,g31_9⟩:w31.frozen? ⟨w5.heap.size,0,none⟩=false∧w31.frozen? ⟨w5.heap.size,1,none⟩=false∧w31.frozen? ⟨w5.heap.size,2,none⟩=false∧w31.frozen? ⟨w5.heap.size,3,none⟩=false∧w31.frozen? ⟨w5.heap.size,4,none⟩=false∧w31.frozen? ⟨w5.heap.size,5,none⟩=false∧w31.frozen? ⟨w5.heap.size,6,none⟩=false∧w31.frozen? ⟨w5.heap.size,7,none⟩=false∧w31.frozen? ⟨w5.heap.size,8,none⟩=false∧w31.frozen? ⟨w5.heap.size,9,none⟩=false:=(by simp [World.frozen?,hh])
        clear hbx hh hk)
     | (((first|go_at_call 25|go_at_fn 25));(with_reducible refine (K3.out _ (HB10.out.setCell (p:=⟨w5.heap.size,2,none⟩) hle5 _)).mono ?_);rintro e w30 ⟨rfl,hbx⟩
        have hk:(w10.setCell ⟨w5.heap.size,2,none⟩ (.int .u8 1)).heap[w5.heap.size]? = some (.cells #[.int .i64 v0,.int .i64 v1,.int .u8 1,.int .i64 0,.int .i64 0,.int .i64 0,.int .i64 0,.int .i64 0,.int .i64 0,.int .i64 0] 23 (0,0)):=(by first|exact (heap_setCell_obj HE10.out)|(rw [(heap_setCell_obj HE10.out)];rfl))
        have hh:=(hbx.block w5.heap.size (Array.getElem?_eq_some_iff.1 hk).1).trans hk
        have HE30:=Lib.hid hh
        have HB30:=Lib.hid ((HB10.out.setCell (p:=⟨w5.heap.size,2,none⟩) hle5 _).trans (hbx.mono (HB10.out.setCell (p:=⟨w5.heap.size,2,none⟩) hle5 _).size))
        have p30:=HGB.out w30 HB30.out
        obtain ⟨c30_0,c30_1,c30_2,c30_3,c30_4,c30_5,c30_6,c30_7,c30_8,c30_9⟩:w30.cell? ⟨w5.heap.size,0,none⟩=some (.int .i64 v0)∧w30.cell? ⟨w5.heap.size,1,none⟩=some (.int .i64 v1)∧w30.cell? ⟨w5.heap.size,2,none⟩=some (.int .u8 1)∧w30.cell? ⟨w5.heap.size,3,none⟩=some (.int .i64 0)∧w30.cell? ⟨w5.heap.size,4,none⟩=some (.int .i64 0)∧w30.cell? ⟨w5.heap.size,5,none⟩=some (.int .i64 0)∧w30.cell? ⟨w5.heap.size,6,none⟩=some (.int .i64 0)∧w30.cell? ⟨w5.heap.size,7,none⟩=some (.int .i64 0)∧w30.cell? ⟨w5.heap.size,8,none⟩=some (.int .i64 0)∧w30.cell? ⟨w5.heap.size,9,none⟩=some (.int .i64 0):=(by simp [World.cell?,hh])
        obtain ⟨g30_0,g30_1,g30_2,g30_3,g30_4,g30_5,g30_6,g30_7,g30_8,g30_9⟩:w30.frozen? ⟨w5.heap.size,0,none⟩=false∧w30.frozen? ⟨w5.heap.size,1,none⟩=false∧w30.frozen? ⟨w5.heap.size,2,none⟩=false∧w30.frozen? ⟨w5.heap.size,3,none⟩=false∧w30.frozen? ⟨w5.heap.size,4,none⟩=false∧w30.frozen? ⟨w5.heap.size,5,none⟩=false∧w30.frozen? ⟨w5.heap.size,6,none⟩=false∧w30.frozen? ⟨w5.heap.size,7,none⟩=false∧w30.frozen? ⟨w5.heap.size,8,none⟩=false∧w30.frozen? ⟨w5.heap.size,9,none⟩=false:=(by simp [World.frozen?,hh])
        clear hbx hh hk))
    obtain ⟨q,⟨r0,r1,r2,r3,r4,r5,r6,r7,r8,r9⟩,c0,c1,c2,c3,c4,c5,c6,c7,c8,c9⟩:=HRE.out wz (HB3.out.trans (HBz.out.mono HB3.out.size))
    have HQz:=Lib.hid q
    have HBB:=Lib.hid (HB1.out.trans ((HB3.out.trans (HBz.out.mono HB3.out.size)).mono HB1.out.size))
    clear q
    rcases HE.out with ⟨rfl,rfl,t1,t2⟩|⟨rfl,hne,t1,t2⟩|⟨rfl,t1,t2⟩
    · rw [HX.out] at t1
      subst t1 t2
      go_wp2
      refine bodyPost_ret (results_ct rfl _ _ w.heap.size _ _ (0,0) _ rfl (set10 HQz.out) Tryz.underlying23 rfl (by kernel_rfl)) rfl ?_
      exact ⟨rfl,below_set10 HBB.out (Nat.le_refl _) _ _ _ _ _ _ _ _ _ _⟩
    · rw [HZT.out] at t1
      subst t1 t2
      have hte:(T.toList==s.toList)=false:=str_ne hne
      clear hne
      go_wp2
      refine bodyPost_ret (results_ct rfl _ _ w.heap.size _ _ (0,0) _ rfl (set10 HQz.out) Tryz.underlying23 rfl (by kernel_rfl)) rfl ?_
      exact ⟨rfl,below_set10 HBB.out (Nat.le_refl _) _ _ _ _ _ _ _ _ _ _⟩
    · rw [HZT.out] at t1
      subst t1 t2
      go_wp2
      refine bodyPost_ret (results_ct rfl _ _ w.heap.size _ _ (0,0) _ rfl (set10 HQz.out) Tryz.underlying23 rfl (by kernel_rfl)) rfl ?_
      exact ⟨rfl,below_set10 HBB.out (Nat.le_refl _) _ _ _ _ _ _ _ _ _ _⟩
  · obtain ⟨x,hx⟩:∃ x:Trace,x=⟨v0,v1,2,v3,v4,0,v5,v6,0,0⟩:=⟨_,rfl⟩
    have hmk:=HMK.out 2 hkd
    simp only [Int.reduceEq,reduceIte] at hmk
    rw [←hx] at hmk
    have HE:=Lib.hid (HEN.out x hmk)
    have KP:Hid (∀ W,VarsOk W→Calls Tryz.prog 5 #[.agg #[.int .i64 v0,.int .i64 v1,.int .u8 2,.int .i64 v3,.int .i64 v4,.int .i64 0,.int .i64 v5,.int .i64 v6,.int .i64 0,.int .i64 0]] W fun e w'=>e = .returned (.tuple #[.string (textV x),.int .i64 (checkTrace x)])∧Below W.heap.size W w'):=(show ∀ W,_→_ from fun W h=>by rw [hx];exact KW.out _ W h)
    have HX:=Lib.hid hx
    clear hmk hx HMK HEN KW hkd
    generalize textV x=T at *
    generalize checkTrace x=ce at *
    go_upto_region 18 with (first
     | (go_at_call 5;(with_reducible refine (KP.out _ (HV1.out _ (HB3.out.trans (((HB33.out.setCell (p:=⟨w5.heap.size,6,none⟩) hle5 _).setCell (p:=⟨w5.heap.size,7,none⟩) hle5 _).mono HB3.out.size)))).mono ?_);rintro e wz ⟨rfl,hbx⟩
        have hk:((w33.setCell ⟨w5.heap.size,6,none⟩ (.int .i64 v5)).setCell ⟨w5.heap.size,7,none⟩ (.int .i64 v6)).heap[w5.heap.size]? = some (.cells #[.int .i64 v0,.int .i64 v1,.int .u8 2,.int .i64 v3,.int .i64 v4,.int .i64 0,.int .i64 v5,.int .i64 v6,.int .i64 0,.int .i64 0] 23 (0,0)):=(by first|exact (heap_setCell_obj (heap_setCell_obj HE33.out))|(rw [(heap_setCell_obj (heap_setCell_obj HE33.out))];rfl))
        have hh:=(hbx.block w5.heap.size (Array.getElem?_eq_some_iff.1 hk).1).trans hk
        have HEz:=Lib.hid hh
        have HBz:=Lib.hid (((HB33.out.setCell (p:=⟨w5.heap.size,6,none⟩) hle5 _).setCell (p:=⟨w5.heap.size,7,none⟩) hle5 _).trans (hbx.mono ((HB33.out.setCell (p:=⟨w5.heap.size,6,none⟩) hle5 _).setCell (p:=⟨w5.heap.size,7,none⟩) hle5 _).size))
        obtain ⟨m0,m1,m2,m3,m4,m5,m6,m7,m8,m9⟩:wz.cell? ⟨w5.heap.size,0,none⟩=some (.int .i64 v0)∧wz.cell? ⟨w5.heap.size,1,none⟩=some (.int .i64 v1)∧wz.cell? ⟨w5.heap.size,2,none⟩=some (.int .u8 2)∧wz.cell? ⟨w5.heap.size,3,none⟩=some (.int .i64 v3)∧wz.cell? ⟨w5.heap.size,4,none⟩=some (.int .i64 v4)∧wz.cell? ⟨w5.heap.size,5,none⟩=some (.int .i64 0)∧wz.cell? ⟨w5.heap.size,6,none⟩=some (.int .i64 v5)∧wz.cell? ⟨w5.heap.size,7,none⟩=some (.int .i64 v6)∧wz.cell? ⟨w5.heap.size,8,none⟩=some (.int .i64 0)∧wz.cell? ⟨w5.heap.size,9,none⟩=some (.int .i64 0):=(by simp [World.cell?,hh])
        clear hbx hh hk)
     | (((first|go_at_call 25|go_at_fn 25));(with_reducible refine (K6.out _ HB32.out).mono ?_);rintro e w33 ⟨rfl,hbx⟩
        have hk:w32.heap[w5.heap.size]? = some (.cells #[.int .i64 v0,.int .i64 v1,.int .u8 2,.int .i64 v3,.int .i64 v4,.int .i64 0,.int .i64 0,.int .i64 0,.int .i64 0,.int .i64 0] 23 (0,0)):=(by first|exact HE32.out|(rw [HE32.out];rfl))
        have hh:=(hbx.block w5.heap.size (Array.getElem?_eq_some_iff.1 hk).1).trans hk
        have HE33:=Lib.hid hh
        have HB33:=Lib.hid (HB32.out.trans (hbx.mono HB32.out.size))
        have p33:=HGB.out w33 HB33.out
        obtain ⟨c33_0,c33_1,c33_2,c33_3,c33_4,c33_5,c33_6,c33_7,c33_8,c33_9⟩:w33.cell? ⟨w5.heap.size,0,none⟩=some (.int .i64 v0)∧w33.cell? ⟨w5.heap.size,1,none⟩=some (.int .i64 v1)∧w33.cell? ⟨w5.heap.size,2,none⟩=some (.int .u8 2)∧w33.cell? ⟨w5.heap.size,3,none⟩=some (.int .i64 v3)∧w33.cell? ⟨w5.heap.size,4,none⟩=some (.int .i64 v4)∧w33.cell? ⟨w5.heap.size,5,none⟩=some (.int .i64 0)∧w33.cell? ⟨w5.heap.size,6,none⟩=some (.int .i64 0)∧w33.cell? ⟨w5.heap.size,7,none⟩=some (.int .i64 0)∧w33.cell? ⟨w5.heap.size,8,none⟩=some (.int .i64 0)∧w33.cell? ⟨w5.heap.size,9,none⟩=some (.int .i64 0):=(by simp [World.cell?,hh])
        obtain ⟨g33_0,g33_1,g33_2,g33_3,g33_4,g33_5,g33_6,g33_7,g33_8,g33_9⟩:w33.frozen? ⟨w5.heap.size,0,none⟩=false∧w33.frozen? ⟨w5.heap.size,1,none⟩=false∧w33.frozen? ⟨w5.heap.size,2,none⟩=false∧w33.frozen? ⟨w5.heap.size,3,none⟩=false∧w33.frozen? ⟨w5.heap.size,4,none⟩=false∧w33.frozen? ⟨w5.heap.size,5,none⟩=false∧w33.frozen? ⟨w5.heap.size,6,none⟩=false∧w33.frozen? ⟨w5.heap.size,7,none⟩=false∧w33.frozen? ⟨w5.heap.size,8,none⟩=false∧w33.frozen? ⟨w5.heap.size,9,none⟩=false:=(by simp [World.frozen?,hh])
        clear hbx hh hk)
     | (((first|go_at_call 25|go_at_fn 25));(with_reducible refine (K5.out _ ((HB31.out.setCell (p:=⟨w5.heap.size,3,none⟩) hle5 _).setCell (p:=⟨w5.heap.size,4,none⟩) hle5 _)).mono ?_);rintro e w32 ⟨rfl,hbx⟩
        have hk:((w31.setCell ⟨w5.heap.size,3,none⟩ (.int .i64 v3)).setCell ⟨w5.heap.size,4,none⟩ (.int .i64 v4)).heap[w5.heap.size]? = some (.cells #[.int .i64 v0,.int .i64 v1,.int .u8 2,.int .i64 v3,.int .i64 v4,.int .i64 0,.int .i64 0,.int .i64 0,.int .i64 0,.int .i64 0] 23 (0,0)):=(by first|exact (heap_setCell_obj (heap_setCell_obj HE31.out))|(rw [(heap_setCell_obj (heap_setCell_obj HE31.out))];rfl))
        have hh:=(hbx.block w5.heap.size (Array.getElem?_eq_some_iff.1 hk).1).trans hk
        have HE32:=Lib.hid hh
        have HB32:=Lib.hid (((HB31.out.setCell (p:=⟨w5.heap.size,3,none⟩) hle5 _).setCell (p:=⟨w5.heap.size,4,none⟩) hle5 _).trans (hbx.mono ((HB31.out.setCell (p:=⟨w5.heap.size,3,none⟩) hle5 _).setCell (p:=⟨w5.heap.size,4,none⟩) hle5 _).size))
        have p32:=HGB.out w32 HB32.out
        obtain ⟨c32_0,c32_1,c32_2,c32_3,c32_4,c32_5,c32_6,c32_7,c32_8,c32_9⟩:w32.cell? ⟨w5.heap.size,0,none⟩=some (.int .i64 v0)∧w32.cell? ⟨w5.heap.size,1,none⟩=some (.int .i64 v1)∧w32.cell? ⟨w5.heap.size,2,none⟩=some (.int .u8 2)∧w32.cell? ⟨w5.heap.size,3,none⟩=some (.int .i64 v3)∧w32.cell? ⟨w5.heap.size,4,none⟩=some (.int .i64 v4)∧w32.cell? ⟨w5.heap.size,5,none⟩=some (.int .i64 0)∧w32.cell? ⟨w5.heap.size,6,none⟩=some (.int .i64 0)∧w32.cell? ⟨w5.heap.size,7,none⟩=some (.int .i64 0)∧w32.cell? ⟨w5.heap.size,8,none⟩=some (.int .i64 0)∧w32.cell? ⟨w5.heap.size,9,none⟩=some (.int .i64 0):=(by simp [World.cell?,hh])
        obtain ⟨g32_0,g32_1,g32_2,g32_3,g32_4,g32_5,g32_6,g32_7,g32_8,g32_9⟩:w32.frozen? ⟨w5.heap.size,0,none⟩=false∧w32.frozen? ⟨w5.heap.size,1,none⟩=false∧w32.frozen? ⟨w5.heap.size,2,none⟩=false∧w32.frozen? ⟨w5.heap.size,3,none⟩=false∧w32.frozen? ⟨w5.heap.size,4,none⟩=false∧w32.frozen? ⟨w5.heap.size,5,none⟩=false∧w32.frozen? ⟨w5.heap.size,6,none⟩=false∧w32.frozen? ⟨w5.heap.size,7,none⟩=false∧w32.frozen? ⟨w5.heap.size,8,none⟩=false∧w32.frozen? ⟨w5.heap.size,9,none⟩=false:=(by simp [World.frozen?,hh])
        clear hbx hh hk)
     | (((first|go_at_call 25|go_at_fn 25));(with_reducible refine (K4.out _ HB30.out).mono ?_);rintro e w31 ⟨rfl,hbx⟩
        have hk:w30.heap[w5.heap.size]? = some (.cells #[.int .i64 v0,.int .i64 v1,.int .u8 2,.int .i64 0,.int .i64 0,.int .i64 0,.int .i64 0,.int .i64 0,.int .i64 0,.int .i64 0] 23 (0,0)):=(by first|exact HE30.out|(rw [HE30.out];rfl))
        have hh:=(hbx.block w5.heap.size (Array.getElem?_eq_some_iff.1 hk).1).trans hk
        have HE31:=Lib.hid hh
        have HB31:=Lib.hid (HB30.out.trans (hbx.mono HB30.out.size))
        have p31:=HGB.out w31 HB31.out
        obtain ⟨c31_0,c31_1,c31_2,c31_3,c31_4,c31_5,c31_6,c31_7,c31_8,c31_9⟩:w31.cell? ⟨w5.heap.size,0,none⟩=some (.int .i64 v0)∧w31.cell? ⟨w5.heap.size,1,none⟩=some (.int .i64 v1)∧w31.cell? ⟨w5.heap.size,2,none⟩=some (.int .u8 2)∧w31.cell? ⟨w5.heap.size,3,none⟩=some (.int .i64 0)∧w31.cell? ⟨w5.heap.size,4,none⟩=some (.int .i64 0)∧w31.cell? ⟨w5.heap.size,5,none⟩=some (.int .i64 0)∧w31.cell? ⟨w5.heap.size,6,none⟩=some (.int .i64 0)∧w31.cell? ⟨w5.heap.size,7,none⟩=some (.int .i64 0)∧w31.cell? ⟨w5.heap.size,8,none⟩=some (.int .i64 0)∧w31.cell? ⟨w5.heap.size,9,none⟩=some (.int .i64 0):=(by simp [World.cell?,hh])
        obtain ⟨g31_0,g31_1,g31_2,g31_3,g31_4,g31_5,g31_6,g31_7,g31_8,g31_9⟩:w31.frozen? ⟨w5.heap.size,0,none⟩=false∧w31.frozen? ⟨w5.heap.size,1,none⟩=false∧w31.frozen? ⟨w5.heap.size,2,none⟩=false∧w31.frozen? ⟨w5.heap.size,3,none⟩=false∧w31.frozen? ⟨w5.heap.size,4,none⟩=false∧w31.frozen? ⟨w5.heap.size,5,none⟩=false∧w31.frozen? ⟨w5.heap.size,6,none⟩=false∧w31.frozen? ⟨w5.heap.size,7,none⟩=false∧w31.frozen? ⟨w5.heap.size,8,none⟩=false∧w31.frozen? ⟨w5.heap.size,9,none⟩=false:=(by simp [World.frozen?,hh])
        clear hbx hh hk)
     | (((first|go_at_call 25|go_at_fn 25));(with_reducible refine (K3.out _ (HB10.out.setCell (p:=⟨w5.heap.size,2,none⟩) hle5 _)).mono ?_);rintro e w30 ⟨rfl,hbx⟩
        have hk:(w10.setCell ⟨w5.heap.size,2,none⟩ (.int .u8 2)).heap[w5.heap.size]? = some (.cells #[.int .i64 v0,.int .i64 v1,.int .u8 2,.int .i64 0,.int .i64 0,.int .i64 0,.int .i64 0,.int .i64 0,.int .i64 0,.int .i64 0] 23 (0,0)):=(by first|exact (heap_setCell_obj HE10.out)|(rw [(heap_setCell_obj HE10.out)];rfl))
        have hh:=(hbx.block w5.heap.size (Array.getElem?_eq_some_iff.1 hk).1).trans hk
        have HE30:=Lib.hid hh
        have HB30:=Lib.hid ((HB10.out.setCell (p:=⟨w5.heap.size,2,none⟩) hle5 _).trans (hbx.mono (HB10.out.setCell (p:=⟨w5.heap.size,2,none⟩) hle5 _).size))
        have p30:=HGB.out w30 HB30.out
        obtain ⟨c30_0,c30_1,c30_2,c30_3,c30_4,c30_5,c30_6,c30_7,c30_8,c30_9⟩:w30.cell? ⟨w5.heap.size,0,none⟩=some (.int .i64 v0)∧w30.cell? ⟨w5.heap.size,1,none⟩=some (.int .i64 v1)∧w30.cell? ⟨w5.heap.size,2,none⟩=some (.int .u8 2)∧w30.cell? ⟨w5.heap.size,3,none⟩=some (.int .i64 0)∧w30.cell? ⟨w5.heap.size,4,none⟩=some (.int .i64 0)∧w30.cell? ⟨w5.heap.size,5,none⟩=some (.int .i64 0)∧w30.cell? ⟨w5.heap.size,6,none⟩=some (.int .i64 0)∧w30.cell? ⟨w5.heap.size,7,none⟩=some (.int .i64 0)∧w30.cell? ⟨w5.heap.size,8,none⟩=some (.int .i64 0)∧w30.cell? ⟨w5.heap.size,9,none⟩=some (.int .i64 0):=(by simp [World.cell?,hh])
        obtain ⟨g30_0,g30_1,g30_2,g30_3,g30_4,g30_5,g30_6,g30_7,g30_8,g30_9⟩:w30.frozen? ⟨w5.heap.size,0,none⟩=false∧w30.frozen? ⟨w5.heap.size,1,none⟩=false∧w30.frozen? ⟨w5.heap.size,2,none⟩=false∧w30.frozen? ⟨w5.heap.size,3,none⟩=false∧w30.frozen? ⟨w5.heap.size,4,none⟩=false∧w30.frozen? ⟨w5.heap.size,5,none⟩=false∧w30.frozen? ⟨w5.heap.size,6,none⟩=false∧w30.frozen? ⟨w5.heap.size,7,none⟩=false∧w30.frozen? ⟨w5.heap.size,8,none⟩=false∧w30.frozen? ⟨w5.heap.size,9,none⟩=false:=(by simp [World.frozen?,hh])
        clear hbx hh hk))
    obtain ⟨q,⟨r0,r1,r2,r3,r4,r5,r6,r7,r8,r9⟩,c0,c1,c2,c3,c4,c5,c6,c7,c8,c9⟩:=HRE.out wz (HB3.out.trans (HBz.out.mono HB3.out.size))
    have HQz:=Lib.hid q
    have HBB:=Lib.hid (HB1.out.trans ((HB3.out.trans (HBz.out.mono HB3.out.size)).mono HB1.out.size))
    clear q
    rcases HE.out with ⟨rfl,rfl,t1,t2⟩|⟨rfl,hne,t1,t2⟩|⟨rfl,t1,t2⟩
    · rw [HX.out] at t1
      subst t1 t2
      go_wp2
      refine bodyPost_ret (results_ct rfl _ _ w.heap.size _ _ (0,0) _ rfl (set10 HQz.out) Tryz.underlying23 rfl (by kernel_rfl)) rfl ?_
      exact ⟨rfl,below_set10 HBB.out (Nat.le_refl _) _ _ _ _ _ _ _ _ _ _⟩
    · rw [HZT.out] at t1
      subst t1 t2
      have hte:(T.toList==s.toList)=false:=str_ne hne
      clear hne
      go_wp2
      refine bodyPost_ret (results_ct rfl _ _ w.heap.size _ _ (0,0) _ rfl (set10 HQz.out) Tryz.underlying23 rfl (by kernel_rfl)) rfl ?_
      exact ⟨rfl,below_set10 HBB.out (Nat.le_refl _) _ _ _ _ _ _ _ _ _ _⟩
    · rw [HZT.out] at t1
      subst t1 t2
      go_wp2
      refine bodyPost_ret (results_ct rfl _ _ w.heap.size _ _ (0,0) _ rfl (set10 HQz.out) Tryz.underlying23 rfl (by kernel_rfl)) rfl ?_
      exact ⟨rfl,below_set10 HBB.out (Nat.le_refl _) _ _ _ _ _ _ _ _ _ _⟩
  · obtain ⟨x,hx⟩:∃ x:Trace,x=⟨v0,v1,3,v3,v4,0,0,0,v5,0⟩:=⟨_,rfl⟩
    have hmk:=HMK.out 3 hkd
    simp only [Int.reduceEq,reduceIte] at hmk
    rw [←hx] at hmk
    have HE:=Lib.hid (HEN.out x hmk)
    have KP:Hid (∀ W,VarsOk W→Calls Tryz.prog 5 #[.agg #[.int .i64 v0,.int .i64 v1,.int .u8 3,.int .i64 v3,.int .i64 v4,.int .i64 0,.int .i64 0,.int .i64 0,.int .i64 v5,.int .i64 0]] W fun e w'=>e = .returned (.tuple #[.string (textV x),.int .i64 (checkTrace x)])∧Below W.heap.size W w'):=(show ∀ W,_→_ from fun W h=>by rw [hx];exact KW.out _ W h)
    have HX:=Lib.hid hx
    clear hmk hx HMK HEN KW hkd
    generalize textV x=T at *
    generalize checkTrace x=ce at *
    go_upto_region 18 with (first
     | (go_at_call 5;(with_reducible refine (KP.out _ (HV1.out _ (HB3.out.trans ((HB32.out.setCell (p:=⟨w5.heap.size,8,none⟩) hle5 _).mono HB3.out.size)))).mono ?_);rintro e wz ⟨rfl,hbx⟩
        have hk:(w32.setCell ⟨w5.heap.size,8,none⟩ (.int .i64 v5)).heap[w5.heap.size]? = some (.cells #[.int .i64 v0,.int .i64 v1,.int .u8 3,.int .i64 v3,.int .i64 v4,.int .i64 0,.int .i64 0,.int .i64 0,.int .i64 v5,.int .i64 0] 23 (0,0)):=(by first|exact (heap_setCell_obj HE32.out)|(rw [(heap_setCell_obj HE32.out)];rfl))
        have hh:=(hbx.block w5.heap.size (Array.getElem?_eq_some_iff.1 hk).1).trans hk
        have HEz:=Lib.hid hh
        have HBz:=Lib.hid ((HB32.out.setCell (p:=⟨w5.heap.size,8,none⟩) hle5 _).trans (hbx.mono (HB32.out.setCell (p:=⟨w5.heap.size,8,none⟩) hle5 _).size))
        obtain ⟨m0,m1,m2,m3,m4,m5,m6,m7,m8,m9⟩:wz.cell? ⟨w5.heap.size,0,none⟩=some (.int .i64 v0)∧wz.cell? ⟨w5.heap.size,1,none⟩=some (.int .i64 v1)∧wz.cell? ⟨w5.heap.size,2,none⟩=some (.int .u8 3)∧wz.cell? ⟨w5.heap.size,3,none⟩=some (.int .i64 v3)∧wz.cell? ⟨w5.heap.size,4,none⟩=some (.int .i64 v4)∧wz.cell? ⟨w5.heap.size,5,none⟩=some (.int .i64 0)∧wz.cell? ⟨w5.heap.size,6,none⟩=some (.int .i64 0)∧wz.cell? ⟨w5.heap.size,7,none⟩=some (.int .i64 0)∧wz.cell? ⟨w5.heap.size,8,none⟩=some (.int .i64 v5)∧wz.cell? ⟨w5.heap.size,9,none⟩=some (.int .i64 0):=(by simp [World.cell?,hh])
        clear hbx hh hk)
     | (((first|go_at_call 25|go_at_fn 25));(with_reducible refine (K5.out _ ((HB31.out.setCell (p:=⟨w5.heap.size,3,none⟩) hle5 _).setCell (p:=⟨w5.heap.size,4,none⟩) hle5 _)).mono ?_);rintro e w32 ⟨rfl,hbx⟩
        have hk:((w31.setCell ⟨w5.heap.size,3,none⟩ (.int .i64 v3)).setCell ⟨w5.heap.size,4,none⟩ (.int .i64 v4)).heap[w5.heap.size]? = some (.cells #[.int .i64 v0,.int .i64 v1,.int .u8 3,.int .i64 v3,.int .i64 v4,.int .i64 0,.int .i64 0,.int .i64 0,.int .i64 0,.int .i64 0] 23 (0,0)):=(by first|exact (heap_setCell_obj (heap_setCell_obj HE31.out))|(rw [(heap_setCell_obj (heap_setCell_obj HE31.out))];rfl))
        have hh:=(hbx.block w5.heap.size (Array.getElem?_eq_some_iff.1 hk).1).trans hk
        have HE32:=Lib.hid hh
        have HB32:=Lib.hid (((HB31.out.setCell (p:=⟨w5.heap.size,3,none⟩) hle5 _).setCell (p:=⟨w5.heap.size,4,none⟩) hle5 _).trans (hbx.mono ((HB31.out.setCell (p:=⟨w5.heap.size,3,none⟩) hle5 _).setCell (p:=⟨w5.heap.size,4,none⟩) hle5 _).size))
        have p32:=HGB.out w32 HB32.out
        obtain ⟨c32_0,c32_1,c32_2,c32_3,c32_4,c32_5,c32_6,c32_7,c32_8,c32_9⟩:w32.cell? ⟨w5.heap.size,0,none⟩=some (.int .i64 v0)∧w32.cell? ⟨w5.heap.size,1,none⟩=some (.int .i64 v1)∧w32.cell? ⟨w5.heap.size,2,none⟩=some (.int .u8 3)∧w32.cell? ⟨w5.heap.size,3,none⟩=some (.int .i64 v3)∧w32.cell? ⟨w5.heap.size,4,none⟩=some (.int .i64 v4)∧w32.cell? ⟨w5.heap.size,5,none⟩=some (.int .i64 0)∧w32.cell? ⟨w5.heap.size,6,none⟩=some (.int .i64 0)∧w32.cell? ⟨w5.heap.size,7,none⟩=some (.int .i64 0)∧w32.cell? ⟨w5.heap.size,8,none⟩=some (.int .i64 0)∧w32.cell? ⟨w5.heap.size,9,none⟩=some (.int .i64 0):=(by simp [World.cell?,hh])
        obtain ⟨g32_0,g32_1,g32_2,g32_3,g32_4,g32_5,g32_6,g32_7,g32_8,g32_9⟩:w32.frozen? ⟨w5.heap.size,0,none⟩=false∧w32.frozen? ⟨w5.heap.size,1,none⟩=false∧w32.frozen? ⟨w5.heap.size,2,none⟩=false∧w32.frozen? ⟨w5.heap.size,3,none⟩=false∧w32.frozen? ⟨w5.heap.size,4,none⟩=false∧w32.frozen? ⟨w5.heap.size,5,none⟩=false∧w32.frozen? ⟨w5.heap.size,6,none⟩=false∧w32.frozen? ⟨w5.heap.size,7,none⟩=false∧w32.frozen? ⟨w5.heap.size,8,none⟩=false∧w32.frozen? ⟨w5.heap.size,9,none⟩=false:=(by simp [World.frozen?,hh])
        clear hbx hh hk)
     | (((first|go_at_call 25|go_at_fn 25));(with_reducible refine (K4.out _ HB30.out).mono ?_);rintro e w31 ⟨rfl,hbx⟩
        have hk:w30.heap[w5.heap.size]? = some (.cells #[.int .i64 v0,.int .i64 v1,.int .u8 3,.int .i64 0,.int .i64 0,.int .i64 0,.int .i64 0,.int .i64 0,.int .i64 0,.int .i64 0] 23 (0,0)):=(by first|exact HE30.out|(rw [HE30.out];rfl))
        have hh:=(hbx.block w5.heap.size (Array.getElem?_eq_some_iff.1 hk).1).trans hk
        have HE31:=Lib.hid hh
        have HB31:=Lib.hid (HB30.out.trans (hbx.mono HB30.out.size))
        have p31:=HGB.out w31 HB31.out
        obtain ⟨c31_0,c31_1,c31_2,c31_3,c31_4,c31_5,c31_6,c31_7,c31_8,c31_9⟩:w31.cell? ⟨w5.heap.size,0,none⟩=some (.int .i64 v0)∧w31.cell? ⟨w5.heap.size,1,none⟩=some (.int .i64 v1)∧w31.cell? ⟨w5.heap.size,2,none⟩=some (.int .u8 3)∧w31.cell? ⟨w5.heap.size,3,none⟩=some (.int .i64 0)∧w31.cell? ⟨w5.heap.size,4,none⟩=some (.int .i64 0)∧w31.cell? ⟨w5.heap.size,5,none⟩=some (.int .i64 0)∧w31.cell? ⟨w5.heap.size,6,none⟩=some (.int .i64 0)∧w31.cell? ⟨w5.heap.size,7,none⟩=some (.int .i64 0)∧w31.cell? ⟨w5.heap.size,8,none⟩=some (.int .i64 0)∧w31.cell? ⟨w5.heap.size,9,none⟩=some (.int .i64 0):=(by simp [World.cell?,hh])
        obtain ⟨g31_0,g31_1,g31_2,g31_3,g31_4,g31_5,g31_6,g31_7,g31_8,g31_9⟩:w31.frozen? ⟨w5.heap.size,0,none⟩=false∧w31.frozen? ⟨w5.heap.size,1,none⟩=false∧w31.frozen? ⟨w5.heap.size,2,none⟩=false∧w31.frozen? ⟨w5.heap.size,3,none⟩=false∧w31.frozen? ⟨w5.heap.size,4,none⟩=false∧w31.frozen? ⟨w5.heap.size,5,none⟩=false∧w31.frozen? ⟨w5.heap.size,6,none⟩=false∧w31.frozen? ⟨w5.heap.size,7,none⟩=false∧w31.frozen? ⟨w5.heap.size,8,none⟩=false∧w31.frozen? ⟨w5.heap.size,9,none⟩=false:=(by simp [World.frozen?,hh])
        clear hbx hh hk)
     | (((first|go_at_call 25|go_at_fn 25));(with_reducible refine (K3.out _ (HB10.out.setCell (p:=⟨w5.heap.size,2,none⟩) hle5 _)).mono ?_);rintro e w30 ⟨rfl,hbx⟩
        have hk:(w10.setCell ⟨w5.heap.size,2,none⟩ (.int .u8 3)).heap[w5.heap.size]? = some (.cells #[.int .i64 v0,.int .i64 v1,.int .u8 3,.int .i64 0,.int .i64 0,.int .i64 0,.int .i64 0,.int .i64 0,.int .i64 0,.int .i64 0] 23 (0,0)):=(by first|exact (heap_setCell_obj HE10.out)|(rw [(heap_setCell_obj HE10.out)];rfl))
        have hh:=(hbx.block w5.heap.size (Array.getElem?_eq_some_iff.1 hk).1).trans hk
        have HE30:=Lib.hid hh
        have HB30:=Lib.hid ((HB10.out.setCell (p:=⟨w5.heap.size,2,none⟩) hle5 _).trans (hbx.mono (HB10.out.setCell (p:=⟨w5.heap.size,2,none⟩) hle5 _).size))
        have p30:=HGB.out w30 HB30.out
        obtain ⟨c30_0,c30_1,c30_2,c30_3,c30_4,c30_5,c30_6,c30_7,c30_8,c30_9⟩:w30.cell? ⟨w5.heap.size,0,none⟩=some (.int .i64 v0)∧w30.cell? ⟨w5.heap.size,1,none⟩=some (.int .i64 v1)∧w30.cell? ⟨w5.heap.size,2,none⟩=some (.int .u8 3)∧w30.cell? ⟨w5.heap.size,3,none⟩=some (.int .i64 0)∧w30.cell? ⟨w5.heap.size,4,none⟩=some (.int .i64 0)∧w30.cell? ⟨w5.heap.size,5,none⟩=some (.int .i64 0)∧w30.cell? ⟨w5.heap.size,6,none⟩=some (.int .i64 0)∧w30.cell? ⟨w5.heap.size,7,none⟩=some (.int .i64 0)∧w30.cell? ⟨w5.heap.size,8,none⟩=some (.int .i64 0)∧w30.cell? ⟨w5.heap.size,9,none⟩=some (.int .i64 0):=(by simp [World.cell?,hh])
        obtain ⟨g30_0,g30_1,g30_2,g30_3,g30_4,g30_5,g30_6,g30_7,g30_8,g30_9⟩:w30.frozen? ⟨w5.heap.size,0,none⟩=false∧w30.frozen? ⟨w5.heap.size,1,none⟩=false∧w30.frozen? ⟨w5.heap.size,2,none⟩=false∧w30.frozen? ⟨w5.heap.size,3,none⟩=false∧w30.frozen? ⟨w5.heap.size,4,none⟩=false∧w30.frozen? ⟨w5.heap.size,5,none⟩=false∧w30.frozen? ⟨w5.heap.size,6,none⟩=false∧w30.frozen? ⟨w5.heap.size,7,none⟩=false∧w30.frozen? ⟨w5.heap.size,8,none⟩=false∧w30.frozen? ⟨w5.heap.size,9,none⟩=false:=(by simp [World.frozen?,hh])
        clear hbx hh hk))
    obtain ⟨q,⟨r0,r1,r2,r3,r4,r5,r6,r7,r8,r9⟩,c0,c1,c2,c3,c4,c5,c6,c7,c8,c9⟩:=HRE.out wz (HB3.out.trans (HBz.out.mono HB3.out.size))
    have HQz:=Lib.hid q
    have HBB:=Lib.hid (HB1.out.trans ((HB3.out.trans (HBz.out.mono HB3.out.size)).mono HB1.out.size))
    clear q
    rcases HE.out with ⟨rfl,rfl,t1,t2⟩|⟨rfl,hne,t1,t2⟩|⟨rfl,t1,t2⟩
    · rw [HX.out] at t1
      subst t1 t2
      go_wp2
      refine bodyPost_ret (results_ct rfl _ _ w.heap.size _ _ (0,0) _ rfl (set10 HQz.out) Tryz.underlying23 rfl (by kernel_rfl)) rfl ?_
      exact ⟨rfl,below_set10 HBB.out (Nat.le_refl _) _ _ _ _ _ _ _ _ _ _⟩
    · rw [HZT.out] at t1
      subst t1 t2
      have hte:(T.toList==s.toList)=false:=str_ne hne
      clear hne
      go_wp2
      refine bodyPost_ret (results_ct rfl _ _ w.heap.size _ _ (0,0) _ rfl (set10 HQz.out) Tryz.underlying23 rfl (by kernel_rfl)) rfl ?_
      exact ⟨rfl,below_set10 HBB.out (Nat.le_refl _) _ _ _ _ _ _ _ _ _ _⟩
    · rw [HZT.out] at t1
      subst t1 t2
      go_wp2
      refine bodyPost_ret (results_ct rfl _ _ w.heap.size _ _ (0,0) _ rfl (set10 HQz.out) Tryz.underlying23 rfl (by kernel_rfl)) rfl ?_
      exact ⟨rfl,below_set10 HBB.out (Nat.le_refl _) _ _ _ _ _ _ _ _ _ _⟩
  · obtain ⟨x,hx⟩:∃ x:Trace,x=⟨v0,v1,4,0,0,0,0,0,0,v3⟩:=⟨_,rfl⟩
    have hmk:=HMK.out 4 hkd
    simp only [Int.reduceEq,reduceIte] at hmk
    rw [←hx] at hmk
    have HE:=Lib.hid (HEN.out x hmk)
    have KP:Hid (∀ W,VarsOk W→Calls Tryz.prog 5 #[.agg #[.int .i64 v0,.int .i64 v1,.int .u8 4,.int .i64 0,.int .i64 0,.int .i64 0,.int .i64 0,.int .i64 0,.int .i64 0,.int .i64 v3]] W fun e w'=>e = .returned (.tuple #[.string (textV x),.int .i64 (checkTrace x)])∧Below W.heap.size W w'):=(show ∀ W,_→_ from fun W h=>by rw [hx];exact KW.out _ W h)
    have HX:=Lib.hid hx
    clear hmk hx HMK HEN KW hkd
    generalize textV x=T at *
    generalize checkTrace x=ce at *
    go_upto_region 18 with (first
     | (go_at_call 5;(with_reducible refine (KP.out _ (HV1.out _ (HB3.out.trans ((HB30.out.setCell (p:=⟨w5.heap.size,9,none⟩) hle5 _).mono HB3.out.size)))).mono ?_);rintro e wz ⟨rfl,hbx⟩
        have hk:(w30.setCell ⟨w5.heap.size,9,none⟩ (.int .i64 v3)).heap[w5.heap.size]? = some (.cells #[.int .i64 v0,.int .i64 v1,.int .u8 4,.int .i64 0,.int .i64 0,.int .i64 0,.int .i64 0,.int .i64 0,.int .i64 0,.int .i64 v3] 23 (0,0)):=(by first|exact (heap_setCell_obj HE30.out)|(rw [(heap_setCell_obj HE30.out)];rfl))
        have hh:=(hbx.block w5.heap.size (Array.getElem?_eq_some_iff.1 hk).1).trans hk
        have HEz:=Lib.hid hh
        have HBz:=Lib.hid ((HB30.out.setCell (p:=⟨w5.heap.size,9,none⟩) hle5 _).trans (hbx.mono (HB30.out.setCell (p:=⟨w5.heap.size,9,none⟩) hle5 _).size))
        obtain ⟨m0,m1,m2,m3,m4,m5,m6,m7,m8,m9⟩:wz.cell? ⟨w5.heap.size,0,none⟩=some (.int .i64 v0)∧wz.cell? ⟨w5.heap.size,1,none⟩=some (.int .i64 v1)∧wz.cell? ⟨w5.heap.size,2,none⟩=some (.int .u8 4)∧wz.cell? ⟨w5.heap.size,3,none⟩=some (.int .i64 0)∧wz.cell? ⟨w5.heap.size,4,none⟩=some (.int .i64 0)∧wz.cell? ⟨w5.heap.size,5,none⟩=some (.int .i64 0)∧wz.cell? ⟨w5.heap.size,6,none⟩=some (.int .i64 0)∧wz.cell? ⟨w5.heap.size,7,none⟩=some (.int .i64 0)∧wz.cell? ⟨w5.heap.size,8,none⟩=some (.int .i64 0)∧wz.cell? ⟨w5.heap.size,9,none⟩=some (.int .i64 v3):=(by simp [World.cell?,hh])
        clear hbx hh hk)
     | (((first|go_at_call 25|go_at_fn 25));(with_reducible refine (K3.out _ (HB10.out.setCell (p:=⟨w5.heap.size,2,none⟩) hle5 _)).mono ?_);rintro e w30 ⟨rfl,hbx⟩
        have hk:(w10.setCell ⟨w5.heap.size,2,none⟩ (.int .u8 4)).heap[w5.heap.size]? = some (.cells #[.int .i64 v0,.int .i64 v1,.int .u8 4,.int .i64 0,.int .i64 0,.int .i64 0,.int .i64 0,.int .i64 0,.int .i64 0,.int .i64 0] 23 (0,0)):=(by first|exact (heap_setCell_obj HE10.out)|(rw [(heap_setCell_obj HE10.out)];rfl))
        have hh:=(hbx.block w5.heap.size (Array.getElem?_eq_some_iff.1 hk).1).trans hk
        have HE30:=Lib.hid hh
        have HB30:=Lib.hid ((HB10.out.setCell (p:=⟨w5.heap.size,2,none⟩) hle5 _).trans (hbx.mono (HB10.out.setCell (p:=⟨w5.heap.size,2,none⟩) hle5 _).size))
        have p30:=HGB.out w30 HB30.out
        obtain ⟨c30_0,c30_1,c30_2,c30_3,c30_4,c30_5,c30_6,c30_7,c30_8,c30_9⟩:w30.cell? ⟨w5.heap.size,0,none⟩=some (.int .i64 v0)∧w30.cell? ⟨w5.heap.size,1,none⟩=some (.int .i64 v1)∧w30.cell? ⟨w5.heap.size,2,none⟩=some (.int .u8 4)∧w30.cell? ⟨w5.heap.size,3,none⟩=some (.int .i64 0)∧w30.cell? ⟨w5.heap.size,4,none⟩=some (.int .i64 0)∧w30.cell? ⟨w5.heap.size,5,none⟩=some (.int .i64 0)∧w30.cell? ⟨w5.heap.size,6,none⟩=some (.int .i64 0)∧w30.cell? ⟨w5.heap.size,7,none⟩=some (.int .i64 0)∧w30.cell? ⟨w5.heap.size,8,none⟩=some (.int .i64 0)∧w30.cell? ⟨w5.heap.size,9,none⟩=some (.int .i64 0):=(by simp [World.cell?,hh])
        obtain ⟨g30_0,g30_1,g30_2,g30_3,g30_4,g30_5,g30_6,g30_7,g30_8,g30_9⟩:w30.frozen? ⟨w5.heap.size,0,none⟩=false∧w30.frozen? ⟨w5.heap.size,1,none⟩=false∧w30.frozen? ⟨w5.heap.size,2,none⟩=false∧w30.frozen? ⟨w5.heap.size,3,none⟩=false∧w30.frozen? ⟨w5.heap.size,4,none⟩=false∧w30.frozen? ⟨w5.heap.size,5,none⟩=false∧w30.frozen? ⟨w5.heap.size,6,none⟩=false∧w30.frozen? ⟨w5.heap.size,7,none⟩=false∧w30.frozen? ⟨w5.heap.size,8,none⟩=false∧w30.frozen? ⟨w5.heap.size,9,none⟩=false:=(by simp [World.frozen?,hh])
        clear hbx hh hk))
    obtain ⟨q,⟨r0,r1,r2,r3,r4,r5,r6,r7,r8,r9⟩,c0,c1,c2,c3,c4,c5,c6,c7,c8,c9⟩:=HRE.out wz (HB3.out.trans (HBz.out.mono HB3.out.size))
    have HQz:=Lib.hid q
    have HBB:=Lib.hid (HB1.out.trans ((HB3.out.trans (HBz.out.mono HB3.out.size)).mono HB1.out.size))
    clear q
    rcases HE.out with ⟨rfl,rfl,t1,t2⟩|⟨rfl,hne,t1,t2⟩|⟨rfl,t1,t2⟩
    · rw [HX.out] at t1
      subst t1 t2
      go_wp2
      refine bodyPost_ret (results_ct rfl _ _ w.heap.size _ _ (0,0) _ rfl (set10 HQz.out) Tryz.underlying23 rfl (by kernel_rfl)) rfl ?_
      exact ⟨rfl,below_set10 HBB.out (Nat.le_refl _) _ _ _ _ _ _ _ _ _ _⟩
    · rw [HZT.out] at t1
      subst t1 t2
      have hte:(T.toList==s.toList)=false:=str_ne hne
      clear hne
      go_wp2
      refine bodyPost_ret (results_ct rfl _ _ w.heap.size _ _ (0,0) _ rfl (set10 HQz.out) Tryz.underlying23 rfl (by kernel_rfl)) rfl ?_
      exact ⟨rfl,below_set10 HBB.out (Nat.le_refl _) _ _ _ _ _ _ _ _ _ _⟩
    · rw [HZT.out] at t1
      subst t1 t2
      go_wp2
      refine bodyPost_ret (results_ct rfl _ _ w.heap.size _ _ (0,0) _ rfl (set10 HQz.out) Tryz.underlying23 rfl (by kernel_rfl)) rfl ?_
      exact ⟨rfl,below_set10 HBB.out (Nat.le_refl _) _ _ _ _ _ _ _ _ _ _⟩
end Go.Proofs.YtejjplhknacoiaaGreatDoor
end

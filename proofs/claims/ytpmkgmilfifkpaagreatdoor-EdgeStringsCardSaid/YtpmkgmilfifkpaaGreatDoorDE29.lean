/- Contracts that the laws lean on: StrA, StrR, StrE. -/
import Derived.Test.YtpmkgmilfifkpaaGreatDoorDE28
import Derived.Test.YtpmkgmilfifkpaaGreatDoorDE16
set_option maxRecDepth 100000
set_option maxHeartbeats 8000000
section
namespace Go.Proofs.YtpmkgmilfifkpaaGreatDoor
open Go.RowKit Go.Proofs Go.Shelf
structure VarsOk (W:World):Prop where
 syn:∃ ev,W.cell? ⟨0,0,none⟩=some ev∧(ev = .nilIface∨∃ te pe,ev = .iface te pe)
 ran:∃ ev,W.cell? ⟨1,0,none⟩=some ev∧(ev = .nilIface∨∃ te pe,ev = .iface te pe)
 len:∃ m:Int,W.cell? ⟨3,0,none⟩=some (.int .i64 m)
theorem VarsOk.below {W W':World} (h:VarsOk W) (hb:Below W.heap.size W W'):VarsOk W':=by
 obtain ⟨⟨e1,h1,k1⟩,⟨e2,h2,k2⟩,m,h3⟩:=h
 exact ⟨⟨e1,(hb.cell (World.block_lt_of_cell? _ _ h1)).trans h1,k1⟩,⟨e2,(hb.cell (World.block_lt_of_cell? _ _ h2)).trans h2,k2⟩,m,(hb.cell (World.block_lt_of_cell? _ _ h3)).trans h3⟩
theorem atoi_any (s:ByteArray) (hs:s.size≤1000) (w:World) (hv:VarsOk w):Calls Tryz.prog 27 #[.string s] w fun e w'=> ∃ x,e = .returned (.tuple #[.int .i64 (atoiV s.data.toList),x])∧Below w.heap.size w w':=by
 cases h:Lib.atoiAll s.data.toList with
 | ok v=>
   have ha:atoiV s.data.toList=v:=by unfold atoiV;rw [h]
   rw [ha]
   refine Calls.mono (Any.strconv_Atoi_ok Tryz.atoiS s (by omega) v h w) ?_
   rintro e w' ⟨rfl,rfl|⟨t,rfl⟩⟩
   · exact ⟨_,rfl,Below.refl _ _⟩
   · exact ⟨_,rfl,Lib.bytesWorld_below _ _ _⟩
 | range=>
   have ha:atoiV s.data.toList=Lib.atoiSat s.data.toList:=by unfold atoiV;rw [h]
   rw [ha]
   obtain ⟨ev,h1,h2⟩:=hv.ran
   refine Calls.mono (Any.strconv_Atoi_range Tryz.atoiS s (by omega) h ev w h1 h2) ?_
   rintro e w' ⟨N,rfl,_,_,hb⟩
   exact ⟨_,rfl,hb⟩
 | _=>
   have ha:atoiV s.data.toList=0:=by unfold atoiV;rw [h]
   rw [ha]
   obtain ⟨ev,h1,h2⟩:=hv.syn
   refine Calls.mono (Any.strconv_Atoi_syntax Tryz.atoiS s (by omega) h ev w h1 h2) ?_
   rintro e w' ⟨N,rfl,_,_,hb⟩
   exact ⟨_,rfl,hb⟩
def piecesB (s:ByteArray):List ByteArray:=Lib.splitB ⟨#[32]⟩ 0 (Lib.countB s ⟨#[32]⟩) s
theorem pieces_len (s:ByteArray):(piecesB s).length=Lib.countB s ⟨#[32]⟩+1:=Lib.splitB_all ⟨#[32]⟩ (by decide) 0 _ s rfl
theorem pieces_data (s:ByteArray):(piecesB s).map (·.data.toList)=Lib.splitK [32] 0 (s.data.toList.count 32) s.data.toList:=by
 unfold piecesB
 rw [Lib.splitB_data]
 have h:Lib.countB s ⟨#[32]⟩=s.data.toList.count 32:=Lib.count_one 32 s.data.toList
 rw [h]
theorem split_any (s:ByteArray) (hs:s.size≤1000) (w:World) (hv:VarsOk w):Calls Tryz.prog 26 #[.string s,.string ⟨#[32]⟩] w fun e w'=> ∃ A c,e = .returned (.slice A (piecesB s).length c)∧Below w.heap.size w w'∧Rd encStr 1 w' A (piecesB s).length c (piecesB s):=by
 obtain ⟨m,hm⟩:=hv.len
 refine Calls.mono (Any.strings_Split Tryz.splitS (by kernel_rfl) s ⟨#[32]⟩ m w (by omega) hm (by decide)) ?_
 rintro e w' ⟨rfl,rfl⟩
 have hl:=pieces_len s
 have hle:Lib.countB s ⟨#[32]⟩≤s.size:=Lib.countB_le ⟨#[32]⟩ (by decide) s.size s (Nat.le_refl _)
 refine ⟨_,_,by rw [←hl],(Below.refl _ _).alloc (Nat.le_refl _) _,?_⟩
 refine Rd.single (enc:=encStr) (k:=1) w _ _ (piecesB s) _ rfl (by omega) (fun _=>rfl) ?_
 show (piecesB s).map Value.string=(piecesB s).flatMap encStr
 have h:∀ l:List ByteArray,l.map Value.string=l.flatMap encStr:=fun l=>by induction l with
  | nil=>rfl
  | cons x l ih=>rw [List.map_cons,List.flatMap_cons,ih];rfl
 exact h _
def zeroP:Pairing:=⟨⟨0,0⟩,⟨0,0⟩⟩
def readP (l:List UInt8):Pairing:=(readE l).getD zeroP
def readErr (l:List UInt8):Int:=if readE l=none then 4 else 0
theorem read_some {l:List UInt8} {p:Pairing} (h:okP p=true) (e:textP p=l):readP l=p∧readErr l=0:=by
 unfold readP readErr
 rw [readE_iff.2 ⟨h,e⟩]
 exact ⟨rfl,rfl⟩
theorem read_none {l:List UInt8} (h:∀ p,okP p=true→textP p≠l):readP l=zeroP∧readErr l=4:=by
 unfold readP readErr
 rw [readE_none.2 h]
 exact ⟨rfl,rfl⟩
theorem set4 {W:World} {g:Nat} {a0 a1 a2 a3 v0 v1 v2 v3:Value} {t:TypeId} (hh:W.heap[g]? = some (.cells #[a0,a1,a2,a3] t (0,0))):((((W.setCell ⟨g,0,none⟩ v0).setCell ⟨g,1,none⟩ v1).setCell ⟨g,2,none⟩ v2).setCell ⟨g,3,none⟩ v3).heap[g]? = some (.cells #[v0,v1,v2,v3] t (0,0)):=by
 rw [heap_setCell_obj (heap_setCell_obj (heap_setCell_obj (heap_setCell_obj hh)))]
 rfl
theorem below_set4 {B:Nat} {w W:World} {g:Nat} (hb:Below B w W) (hg:B≤g) (v0 v1 v2 v3:Value):Below B w ((((W.setCell ⟨g,0,none⟩ v0).setCell ⟨g,1,none⟩ v1).setCell ⟨g,2,none⟩ v2).setCell ⟨g,3,none⟩ v3):=
 (((hb.setCell (p:=⟨g,0,none⟩) hg _).setCell (p:=⟨g,1,none⟩) hg _).setCell (p:=⟨g,2,none⟩) hg _).setCell (p:=⟨g,3,none⟩) hg _
theorem str_ne {a b:ByteArray} (h:a≠b):(a.toList==b.toList)=false:=by
 rw [ByteArray.toList_eq,ByteArray.toList_eq,beq_eq_false_iff_ne]
 intro e
 apply h
 cases a
 cases b
 simp only [ByteArray.mk.injEq]
 exact Array.ext' e
theorem r3Read_any (s:ByteArray) (w:World) (hsz:s.size≤1000):Calls Tryz.prog 8 #[.string s] w fun e w'=>e = .returned (.tuple #[.agg #[.int .i64 (readP s.data.toList).a.lo,.int .i64 (readP s.data.toList).a.hi,.int .i64 (readP s.data.toList).b.lo,.int .i64 (readP s.data.toList).b.hi],.int .i64 (readErr s.data.toList)])∧Below w.heap.size w w':=by
 obtain ⟨w1,hw1,hb1,hz1,e1⟩:=alloc_facts w #[.int .i64 0,.int .i64 0,.int .i64 0,.int .i64 0] 25
 have HW1:=Lib.hid hw1
 have HB1:=Lib.hid hb1
 have HRE:Hid (∀ W,Below w1.heap.size w1 W→W.heap[w.heap.size]? = some (.cells #[.int .i64 0,.int .i64 0,.int .i64 0,.int .i64 0] 25 (0,0))∧(W.cell? ⟨w.heap.size,0,none⟩=some (.int .i64 0)∧W.cell? ⟨w.heap.size,1,none⟩=some (.int .i64 0)∧W.cell? ⟨w.heap.size,2,none⟩=some (.int .i64 0)∧W.cell? ⟨w.heap.size,3,none⟩=some (.int .i64 0))∧W.frozen? ⟨w.heap.size,0,none⟩=false∧W.frozen? ⟨w.heap.size,1,none⟩=false∧W.frozen? ⟨w.heap.size,2,none⟩=false∧W.frozen? ⟨w.heap.size,3,none⟩=false):=(show ∀ W,_→_ from fun W h=>by
  have hh:=(h.block w.heap.size (by omega)).trans e1
  refine ⟨hh,?_⟩
  simp [World.cell?,World.frozen?,hh])
 have HSL:Hid (s.data.toList.length=s.size):=(show _=_ from by rw [Lib.size_eq])
 have HRN:=Lib.hid (@read_none s.data.toList)
 have HRS:Hid (∀ p:Pairing,okP p=true→textP p=s.data.toList→readP s.data.toList=p∧readErr s.data.toList=0):=(show ∀ p,_→_→_ from fun p h e=>read_some h e)
 have HTL:Hid (∀ p:Pairing,okP p=true→7≤(textP p).length∧(textP p).length≤11):=(show ∀ p,_→_ from fun p h=>text_len h)
 have KW:=Lib.hid (fun (p:Pairing) W=>r3Write_any p W)
 have HEQ:Hid (∀ p:Pairing,okP p=true→(textV p=s↔textP p=s.data.toList)∧writeErr p=0):=(show ∀ p,_→_ from fun p hp=>by
  obtain ⟨h1,h2⟩:=good_ok hp
  refine ⟨?_,h2⟩
  rw [h1]
  constructor
  · intro e;rw [←e]
  · intro e;rw [e])
 clear hw1 hb1
 generalize readP s.data.toList=rp at *
 generalize readErr s.data.toList=re at *
 obtain ⟨x0,⟨y0,y1,y2,y3⟩,z0,z1,z2,z3⟩:=HRE.out w1 (Below.refl _ _)
 clear x0
 by_cases hlen:7≤s.size∧s.size≤11
 case neg=>
  obtain ⟨t1,t2⟩:=HRN.out (fun p hp e=>hlen (by have:=HTL.out p hp;rw [e,HSL.out] at this;exact this))
  subst t1 t2
  have hcs:(s.size:Int)<7∨(¬(s.size:Int)<7∧11<(s.size:Int)):=(by omega)
  clear hlen
  rcases hcs with h7|⟨h7,h11⟩
  all_goals
   go_enter Tryz.func8,Tryz.ntmps8
   go_wp2_with (rw [HW1.out])
   refine bodyPost_ret (results_ct rfl _ _ w.heap.size _ _ (0,0) _ rfl (set4 e1) Tryz.underlying25 rfl (by kernel_rfl)) rfl ?_
   exact ⟨rfl,below_set4 HB1.out (Nat.le_refl _) _ _ _ _⟩
 case pos=>
  have h7:¬(s.size:Int)<7:=(by omega)
  have h11:¬11<(s.size:Int):=(by omega)
  clear hlen
  go_enter Tryz.func8,Tryz.ntmps8
  go_wp2_with (rw [HW1.out])
  go_loopw [4] (fun s4 wr=> ∃ i:Nat,i≤16∧s4 = .int .i64 i∧Hid (Below w1.heap.size w1 wr)∧Hid (∀ p:Pairing,okP p=true→p.a.lo<i→textP p≠s.data.toList)) (fun s4 _=>16-(intOf s4).toNat)
  case atStart=>exact ⟨0,by omega,rfl,(show Below _ _ _ from Below.refl _ _),(show ∀ p:Pairing,_ from fun p hp h=>by have:=okP_iff.1 hp;omega)⟩
  case round=>
   obtain ⟨i,hi,rfl,hbr,hno⟩:=hrel
   by_cases hlt:i<16
   · have hlt':(i:Int)<16:=(by omega)
     go_wp2
     go_loopw [5] (fun s5 wr=> ∃ n:Nat,1≤n∧i+n≤17∧s5 = .int .i64 n∧Hid (Below w1.heap.size w1 wr)∧Hid (∀ p:Pairing,okP p=true→p.a.lo=i→p.a.hi<i+n→textP p≠s.data.toList)) (fun s5 _=>18-(intOf s5).toNat)
     case atStart=>exact ⟨1,by omega,by omega,rfl,hbr,(show ∀ p:Pairing,_ from fun p hp h1 h2=>by have:=okP_iff.1 hp;omega)⟩
     case round=>
      obtain ⟨n,hn,hin,rfl,hbr2,hno2⟩:=hrel
      by_cases hln:i+n≤16
      · have hln':(i:Int)+(n:Int)≤16:=(by omega)
        go_wp2
        go_loopw [6] (fun s6 wr=> ∃ k:Nat,k+n≤17∧s6 = .int .i64 k∧Hid (Below w1.heap.size w1 wr)∧Hid (∀ p:Pairing,okP p=true→p.a.lo=i→p.a.hi=i+n→p.b.lo<k→textP p≠s.data.toList)) (fun s6 _=>18-(intOf s6).toNat)
        case atStart=>exact ⟨0,by omega,rfl,hbr2,(show ∀ p:Pairing,_ from fun p hp h1 h2 h3=>by have:=okP_iff.1 hp;omega)⟩
        case round=>
         obtain ⟨k,hkn,rfl,hbr3,hno3⟩:=hrel
         by_cases hlk:k+n≤16
         · have hlk':(k:Int)+(n:Int)≤16:=(by omega)
           obtain ⟨w5,a5,b5,z5,e5⟩:=alloc_facts wr #[.int .i64 (i:Int),.int .i64 ((i:Int)+n),.int .i64 (k:Int),.int .i64 ((k:Int)+n)] 25
           have HA5:=Lib.hid a5
           have HB5:=Lib.hid (hbr3.out.trans (b5.mono hbr3.out.size))
           have HL5:=Lib.hid b5
           have HE5:=Lib.hid e5
           have z5':w5.heap.size=wr.heap.size+1:=z5
           obtain ⟨u0,u1,u2,u3⟩:w5.cell? ⟨wr.heap.size,0,none⟩=some (.int .i64 (i:Int))∧w5.cell? ⟨wr.heap.size,1,none⟩=some (.int .i64 ((i:Int)+n))∧w5.cell? ⟨wr.heap.size,2,none⟩=some (.int .i64 (k:Int))∧w5.cell? ⟨wr.heap.size,3,none⟩=some (.int .i64 ((k:Int)+n)):=(by simp [World.cell?,e5])
           obtain ⟨p,hp⟩:∃ p:Pairing,p=⟨⟨i,i+n⟩,⟨k,k+n⟩⟩:=⟨_,rfl⟩
           have hok:okP p=true:=okP_iff.2 (by rw [hp];simp only;omega)
           have KP:Hid (Calls Tryz.prog 6 #[.agg #[.int .i64 (i:Int),.int .i64 ((i:Int)+n),.int .i64 (k:Int),.int .i64 ((k:Int)+n)]] w5 fun e w'=>e = .returned (.tuple #[.string (textV p),.int .i64 (writeErr p)])∧Below w5.heap.size w5 w'):=(show Calls _ _ _ _ _ from by rw [hp];exact KW.out _ w5)
           obtain ⟨hq,hwe⟩:=HEQ.out p hok
           rw [hwe] at KP
           have HP:=Lib.hid hp
           have HOK:=Lib.hid hok
           have HQ:=Lib.hid hq
           clear hp hok hq hwe a5 b5 z5 e5
           generalize textV p=T at *
           by_cases he:T=s
           · subst he
             obtain ⟨t1,t2⟩:=HRS.out p HOK.out (HQ.out.1 rfl)
             rw [HP.out] at t1
             subst t1 t2
             go_wp2_with (first
              | rw [HA5.out]
              | (go_at_call 6;(with_reducible refine KP.out.mono ?_);rintro e w6 ⟨rfl,hb6⟩
                 have HB6:=Lib.hid (HB5.out.trans (hb6.mono HB5.out.size))
                 have hh:=(hb6.block wr.heap.size (by omega)).trans HE5.out
                 obtain ⟨v0,v1,v2,v3⟩:w6.cell? ⟨wr.heap.size,0,none⟩=some (.int .i64 (i:Int))∧w6.cell? ⟨wr.heap.size,1,none⟩=some (.int .i64 ((i:Int)+n))∧w6.cell? ⟨wr.heap.size,2,none⟩=some (.int .i64 (k:Int))∧w6.cell? ⟨wr.heap.size,3,none⟩=some (.int .i64 ((k:Int)+n)):=(by simp [World.cell?,hh])
                 obtain ⟨q,⟨y0,y1,y2,y3⟩,z0,z1,z2,z3⟩:=HRE.out w6 HB6.out
                 have HQ6:=Lib.hid q
                 clear hb6 hh q))
             refine bodyPost_ret (results_ct rfl _ _ w.heap.size _ _ (0,0) _ rfl (set4 HQ6.out) Tryz.underlying25 rfl (by kernel_rfl)) rfl ?_
             exact ⟨rfl,below_set4 (HB1.out.trans (HB6.out.mono HB1.out.size)) (Nat.le_refl _) _ _ _ _⟩
           · have hte:(T.toList==s.toList)=false:=str_ne he
             have HNE:=Lib.hid he
             clear he
             go_wp2_with (first
              | rw [HA5.out]
              | (go_at_call 6;(with_reducible refine KP.out.mono ?_);rintro e w6 ⟨rfl,hb6⟩
                 have HB6:=Lib.hid (HB5.out.trans (hb6.mono HB5.out.size))
                 clear hb6))
             go_roundw
             case rel=>exact ⟨k+1,by omega,by go_num,HB6,(show ∀ p:Pairing,_ from fun q hq h1 h2 h3=>by
              rcases (by omega:q.b.lo<k∨q.b.lo=k) with h4|h4
              · exact hno3.out q hq h1 h2 h4
              · intro e
                have hqp:q=p:=by
                 have hk:=okP_iff.1 hq
                 rw [HP.out]
                 obtain ⟨⟨q0,q1⟩,q2,q3⟩:=q
                 simp only at h1 h2 h4 hk
                 simp only [Pairing.mk.injEq,Stretch.mk.injEq]
                 omega
                rw [hqp] at e
                exact HNE.out (HQ.out.2 e))⟩
             case measure=>simp [intOf];omega
         · have hlk':¬(k:Int)+(n:Int)≤16:=(by omega)
           go_wp2
           go_roundw
           case rel=>exact ⟨n+1,by omega,by omega,by go_num,hbr3,(show ∀ p:Pairing,_ from fun q hq h1 h2=>by
            have hk:=okP_iff.1 hq
            rcases (by omega:q.a.hi<i+n∨q.a.hi=i+n) with h4|h4
            · exact hno2.out q hq h1 h4
            · exact hno3.out q hq h1 h4 (by omega))⟩
           case measure=>simp [intOf];omega
      · have hln':¬(i:Int)+(n:Int)≤16:=(by omega)
        go_wp2
        go_roundw
        case rel=>exact ⟨i+1,by omega,by go_num,hbr2,(show ∀ p:Pairing,_ from fun q hq h1=>by
         have hk:=okP_iff.1 hq
         rcases (by omega:q.a.lo<i∨q.a.lo=i) with h4|h4
         · exact hno.out q hq h4
         · exact hno2.out q hq h4 (by omega))⟩
        case measure=>simp [intOf];omega
   · obtain rfl:i=16:=by omega
     obtain ⟨t1,t2⟩:=HRN.out (fun p hp=>hno.out p hp (by have:=okP_iff.1 hp;omega))
     subst t1 t2
     obtain ⟨q,⟨y0,y1,y2,y3⟩,z0,z1,z2,z3⟩:=HRE.out wr hbr.out
     have HQ:=Lib.hid q
     clear q
     go_wp2
     refine bodyPost_ret (results_ct rfl _ _ w.heap.size _ _ (0,0) _ rfl (set4 HQ.out) Tryz.underlying25 rfl (by kernel_rfl)) rfl ?_
     exact ⟨rfl,below_set4 (HB1.out.trans (hbr.out.mono HB1.out.size)) (Nat.le_refl _) _ _ _ _⟩
theorem four {α:Type} {l:List α} (h:l.length=4):∃ a b c d,l = [a,b,c,d]:=by
 match l,h with
 | [a,b,c,d],_=>exact ⟨a,b,c,d,rfl⟩
theorem not_four {s:ByteArray} (h:(piecesB s).length≠4):∀ p,okP p=true→textP p≠s.data.toList:=by
 refine readE_none.1 ?_
 unfold readE
 refine if_neg fun hc=>h ?_
 have:=hc.1
 rw [←pieces_data,List.length_map] at this
 exact this
theorem of_four {s b0 b1 b2 b3:ByteArray} (h:piecesB s = [b0,b1,b2,b3]):∀ p,okP p=true→textP p=s.data.toList→p=⟨⟨atoiV b0.data.toList,atoiV b1.data.toList⟩,⟨atoiV b2.data.toList,atoiV b3.data.toList⟩⟩:=by
 intro p hp e
 have h1:=readE_iff.2 ⟨hp,e⟩
 have hd:=pieces_data s
 rw [h] at hd
 unfold readE at h1
 rw [←hd] at h1
 split at h1
 · injection h1 with h1
   exact h1.symm
 · cases h1
theorem piece_size {s b:ByteArray} (h:b∈piecesB s):b.size≤s.size:=by
 have h1:b.data.toList∈(piecesB s).map (·.data.toList):=List.mem_map_of_mem h
 rw [pieces_data] at h1
 have key:∀ (k:Nat) (l d:List UInt8),d∈Lib.splitK [32] 0 k l→d.length≤l.length:=by
  intro k
  induction k with
  | zero=>intro l d hd;rw [Lib.splitK,List.mem_singleton] at hd;subst hd;exact Nat.le_refl _
  | succ k ih=>
    intro l d hd
    rw [Lib.splitK] at hd
    split at hd
    · rw [List.mem_singleton] at hd;subst hd;exact Nat.le_refl _
    · rcases List.mem_cons.1 hd with rfl|hd
      · rw [List.length_take];omega
      · have:=ih _ _ hd
        rw [List.length_drop] at this
        omega
 have:=key _ _ _ h1
 rw [←Lib.size_eq,←Lib.size_eq] at this
 exact this
theorem readE_any (s:ByteArray) (w:World) (hsz:s.size≤1000) (hv:VarsOk w):Calls Tryz.prog 7 #[.string s] w fun e w'=>e = .returned (.tuple #[.agg #[.int .i64 (readP s.data.toList).a.lo,.int .i64 (readP s.data.toList).a.hi,.int .i64 (readP s.data.toList).b.lo,.int .i64 (readP s.data.toList).b.hi],.int .i64 (readErr s.data.toList)])∧Below w.heap.size w w':=by
 obtain ⟨w1,hw1,hb1,hz1,e1⟩:=alloc_facts w #[.int .i64 0,.int .i64 0,.int .i64 0,.int .i64 0] 25
 have HW1:=Lib.hid hw1
 have HB1:=Lib.hid hb1
 have HRE:Hid (∀ W,Below w1.heap.size w1 W→W.heap[w.heap.size]? = some (.cells #[.int .i64 0,.int .i64 0,.int .i64 0,.int .i64 0] 25 (0,0))∧(W.cell? ⟨w.heap.size,0,none⟩=some (.int .i64 0)∧W.cell? ⟨w.heap.size,1,none⟩=some (.int .i64 0)∧W.cell? ⟨w.heap.size,2,none⟩=some (.int .i64 0)∧W.cell? ⟨w.heap.size,3,none⟩=some (.int .i64 0))∧W.frozen? ⟨w.heap.size,0,none⟩=false∧W.frozen? ⟨w.heap.size,1,none⟩=false∧W.frozen? ⟨w.heap.size,2,none⟩=false∧W.frozen? ⟨w.heap.size,3,none⟩=false):=(show ∀ W,_→_ from fun W h=>by
  have hh:=(h.block w.heap.size (by omega)).trans e1
  refine ⟨hh,?_⟩
  simp [World.cell?,World.frozen?,hh])
 have HV1:Hid (VarsOk w1):=(show VarsOk w1 from hv.below hb1)
 have KS:=Lib.hid (split_any s hsz w1 HV1.out)
 have KW:=Lib.hid (fun (p:Pairing) W=>writeE_any p W)
 have KA:Hid (∀ (x:ByteArray) W,x.size≤1000→Below w1.heap.size w1 W→Calls Tryz.prog 27 #[.string x] W fun e w'=> ∃ y,e = .returned (.tuple #[.int .i64 (atoiV x.data.toList),y])∧Below W.heap.size W w'):=(show ∀ x W,_→_→_ from fun x W hx hW=>atoi_any x hx W (HV1.out.below hW))
 have HRN:=Lib.hid (@read_none s.data.toList)
 have HRS:Hid (∀ p:Pairing,okP p=true→textP p=s.data.toList→readP s.data.toList=p∧readErr s.data.toList=0):=(show ∀ p,_→_→_ from fun p h e=>read_some h e)
 have HN4:=Lib.hid (@not_four s)
 clear hw1 hb1 hv
 generalize readP s.data.toList=rp at *
 generalize readErr s.data.toList=re at *
 obtain ⟨x0,⟨y0,y1,y2,y3⟩,z0,z1,z2,z3⟩:=HRE.out w1 (Below.refl _ _)
 clear x0
 by_cases h4:(piecesB s).length=4
 case neg=>
  obtain ⟨t1,t2⟩:=HRN.out (HN4.out h4)
  subst t1 t2
  have hne:(((piecesB s).length:Int) != 4)=true:=(by simp;omega)
  clear h4
  generalize piecesB s=P at *
  go_enter Tryz.func7,Tryz.ntmps7
  go_wp2_with (first
   | rw [HW1.out]
   | (go_at_call 26;(with_reducible refine KS.out.mono ?_);rintro e w2 ⟨A2,q2,rfl,hb2,hr2⟩
      have HB2:=Lib.hid hb2
      obtain ⟨q,⟨a0,a1,a2,a3⟩,c0,c1,c2,c3⟩:=HRE.out w2 hb2
      have HQ2:=Lib.hid q
      clear hb2 q hr2))
  refine bodyPost_ret (results_ct rfl _ _ w.heap.size _ _ (0,0) _ rfl (set4 HQ2.out) Tryz.underlying25 rfl (by kernel_rfl)) rfl ?_
  exact ⟨rfl,below_set4 (HB1.out.trans (HB2.out.mono HB1.out.size)) (Nat.le_refl _) _ _ _ _⟩
 case pos=>
  obtain ⟨b0,b1,b2,b3,hP⟩:=four h4
  have HOF:=Lib.hid (of_four hP)
  have HSZ:Hid (b0.size≤1000∧b1.size≤1000∧b2.size≤1000∧b3.size≤1000):=(show _∧_ from by
   have h0:=piece_size (s:=s) (b:=b0) (by rw [hP];simp)
   have h1:=piece_size (s:=s) (b:=b1) (by rw [hP];simp)
   have h2:=piece_size (s:=s) (b:=b2) (by rw [hP];simp)
   have h3:=piece_size (s:=s) (b:=b3) (by rw [hP];simp)
   omega)
  rw [hP] at KS
  simp only [List.length_cons,List.length_nil] at KS
  clear h4 hP HN4
  have KA0:=Lib.hid (fun W (hW:Below w1.heap.size w1 W)=>KA.out b0 W HSZ.out.1 hW)
  have KA1:=Lib.hid (fun W (hW:Below w1.heap.size w1 W)=>KA.out b1 W HSZ.out.2.1 hW)
  have KA2:=Lib.hid (fun W (hW:Below w1.heap.size w1 W)=>KA.out b2 W HSZ.out.2.2.1 hW)
  have KA3:=Lib.hid (fun W (hW:Below w1.heap.size w1 W)=>KA.out b3 W HSZ.out.2.2.2 hW)
  generalize atoiV b0.data.toList=v0 at *
  generalize atoiV b1.data.toList=v1 at *
  generalize atoiV b2.data.toList=v2 at *
  generalize atoiV b3.data.toList=v3 at *
  clear KA HSZ
  go_enter Tryz.func7,Tryz.ntmps7
  go_wp2_with (first
   | rw [HW1.out]
   | (go_at_call 26;(with_reducible refine KS.out.mono ?_);rintro e w2 ⟨A2,q2,rfl,hb2,hr2⟩
      obtain ⟨w3,a3,l3,z3,e3⟩:=alloc_facts w2 #[.int .i64 0,.int .i64 0,.int .i64 0,.int .i64 0] 69
      have HB2:=Lib.hid hb2
      have HR2:=Lib.hid hr2
      have HA3:=Lib.hid a3
      have HE3:=Lib.hid e3
      have HL3:=Lib.hid l3
      have z3':w3.heap.size=w2.heap.size+1:=z3
      clear hb2 hr2 a3 l3 e3)
   | rw [HA3.out])
  obtain ⟨bk,off,rfl,hbk,hcs⟩:=HR2.out.at_ (by omega)
  have HCS:Hid (∀ W,Below w2.heap.size w2 W→W.cell? ⟨bk,off,none⟩=some (.string b0)∧W.cell? ⟨bk,off+1,none⟩=some (.string b1)∧W.cell? ⟨bk,off+2,none⟩=some (.string b2)∧W.cell? ⟨bk,off+3,none⟩=some (.string b3)):=(show ∀ W,_→_ from fun W hW=>
   ⟨(hW.cell hbk).trans (by have:=hcs 0 b0 rfl 0 _ rfl;simpa using this),(hW.cell hbk).trans (by have:=hcs 1 b1 rfl 0 _ rfl;simpa using this),(hW.cell hbk).trans (by have:=hcs 2 b2 rfl 0 _ rfl;simpa using this),(hW.cell hbk).trans (by have:=hcs 3 b3 rfl 0 _ rfl;simpa using this)⟩)
  clear hcs
  go_loopw [16] (fun s16 wr=>Hid (Below w2.heap.size w2 wr)∧((s16 = .int .i64 0∧Hid (wr.heap[w2.heap.size]? = some (.cells #[.int .i64 0,.int .i64 0,.int .i64 0,.int .i64 0] 69 (0,0))))∨(s16 = .int .i64 1∧Hid (wr.heap[w2.heap.size]? = some (.cells #[.int .i64 v0,.int .i64 0,.int .i64 0,.int .i64 0] 69 (0,0))))∨(s16 = .int .i64 2∧Hid (wr.heap[w2.heap.size]? = some (.cells #[.int .i64 v0,.int .i64 v1,.int .i64 0,.int .i64 0] 69 (0,0))))∨(s16 = .int .i64 3∧Hid (wr.heap[w2.heap.size]? = some (.cells #[.int .i64 v0,.int .i64 v1,.int .i64 v2,.int .i64 0] 69 (0,0))))∨(s16 = .int .i64 4∧Hid (wr.heap[w2.heap.size]? = some (.cells #[.int .i64 v0,.int .i64 v1,.int .i64 v2,.int .i64 v3] 69 (0,0)))))) (fun s16 _=>4-(intOf s16).toNat)
  case atStart=>exact ⟨HL3,.inl ⟨rfl,HE3⟩⟩
  case round=>
   obtain ⟨hbr,hc⟩:=hrel
   have hzr:=hbr.out.size
   obtain ⟨f0,f1,f2,f3⟩:=HCS.out wr hbr.out
   rcases hc with ⟨rfl,hh⟩|⟨rfl,hh⟩|⟨rfl,hh⟩|⟨rfl,hh⟩|⟨rfl,hh⟩
   · have hlt:=(Array.getElem?_eq_some_iff.1 hh.out).1
     go_wp2_with (go_at_call 27;(with_reducible refine (KA0.out _ (HB2.out.trans (hbr.out.mono HB2.out.size))).mono ?_);rintro e w5 ⟨y,rfl,hb5⟩
                  have hh5:=(hb5.block w2.heap.size hlt).trans hh.out
                  have f5:w5.cell? ⟨w2.heap.size,0,none⟩=some (.int .i64 0):=(by simp [World.cell?,hh5])
                  have g5:w5.frozen? ⟨w2.heap.size,0,none⟩=false:=(by simp [World.frozen?,hh5])
                  have HH5:=Lib.hid hh5
                  have HB5:=Lib.hid (hbr.out.trans (hb5.mono hbr.out.size))
                  clear hb5 hh5)
     have HS:Hid ((w5.setCell ⟨w2.heap.size,0,none⟩ (.int .i64 v0)).heap[w2.heap.size]? = some (.cells #[.int .i64 v0,.int .i64 0,.int .i64 0,.int .i64 0] 69 (0,0))):=(show _=_ from by rw [heap_setCell_obj HH5.out];rfl)
     go_roundw
     all_goals first
      | (simp [intOf];done)
      | exact ⟨(show Below _ _ _ from HB5.out.setCell (p:=⟨w2.heap.size,0,none⟩) (Nat.le_refl _) _),.inr (.inl ⟨by go_num,HS⟩)⟩
   · have hlt:=(Array.getElem?_eq_some_iff.1 hh.out).1
     go_wp2_with (go_at_call 27;(with_reducible refine (KA1.out _ (HB2.out.trans (hbr.out.mono HB2.out.size))).mono ?_);rintro e w5 ⟨y,rfl,hb5⟩
                  have hh5:=(hb5.block w2.heap.size hlt).trans hh.out
                  have f5:w5.cell? ⟨w2.heap.size,1,none⟩=some (.int .i64 0):=(by simp [World.cell?,hh5])
                  have g5:w5.frozen? ⟨w2.heap.size,1,none⟩=false:=(by simp [World.frozen?,hh5])
                  have HH5:=Lib.hid hh5
                  have HB5:=Lib.hid (hbr.out.trans (hb5.mono hbr.out.size))
                  clear hb5 hh5)
     have HS:Hid ((w5.setCell ⟨w2.heap.size,1,none⟩ (.int .i64 v1)).heap[w2.heap.size]? = some (.cells #[.int .i64 v0,.int .i64 v1,.int .i64 0,.int .i64 0] 69 (0,0))):=(show _=_ from by rw [heap_setCell_obj HH5.out];rfl)
     go_roundw
     all_goals first
      | (simp [intOf];done)
      | exact ⟨(show Below _ _ _ from HB5.out.setCell (p:=⟨w2.heap.size,1,none⟩) (Nat.le_refl _) _),.inr (.inr (.inl ⟨by go_num,HS⟩))⟩
   · have hlt:=(Array.getElem?_eq_some_iff.1 hh.out).1
     go_wp2_with (go_at_call 27;(with_reducible refine (KA2.out _ (HB2.out.trans (hbr.out.mono HB2.out.size))).mono ?_);rintro e w5 ⟨y,rfl,hb5⟩
                  have hh5:=(hb5.block w2.heap.size hlt).trans hh.out
                  have f5:w5.cell? ⟨w2.heap.size,2,none⟩=some (.int .i64 0):=(by simp [World.cell?,hh5])
                  have g5:w5.frozen? ⟨w2.heap.size,2,none⟩=false:=(by simp [World.frozen?,hh5])
                  have HH5:=Lib.hid hh5
                  have HB5:=Lib.hid (hbr.out.trans (hb5.mono hbr.out.size))
                  clear hb5 hh5)
     have HS:Hid ((w5.setCell ⟨w2.heap.size,2,none⟩ (.int .i64 v2)).heap[w2.heap.size]? = some (.cells #[.int .i64 v0,.int .i64 v1,.int .i64 v2,.int .i64 0] 69 (0,0))):=(show _=_ from by rw [heap_setCell_obj HH5.out];rfl)
     go_roundw
     all_goals first
      | (simp [intOf];done)
      | exact ⟨(show Below _ _ _ from HB5.out.setCell (p:=⟨w2.heap.size,2,none⟩) (Nat.le_refl _) _),.inr (.inr (.inr (.inl ⟨by go_num,HS⟩)))⟩
   · have hlt:=(Array.getElem?_eq_some_iff.1 hh.out).1
     go_wp2_with (go_at_call 27;(with_reducible refine (KA3.out _ (HB2.out.trans (hbr.out.mono HB2.out.size))).mono ?_);rintro e w5 ⟨y,rfl,hb5⟩
                  have hh5:=(hb5.block w2.heap.size hlt).trans hh.out
                  have f5:w5.cell? ⟨w2.heap.size,3,none⟩=some (.int .i64 0):=(by simp [World.cell?,hh5])
                  have g5:w5.frozen? ⟨w2.heap.size,3,none⟩=false:=(by simp [World.frozen?,hh5])
                  have HH5:=Lib.hid hh5
                  have HB5:=Lib.hid (hbr.out.trans (hb5.mono hbr.out.size))
                  clear hb5 hh5)
     have HS:Hid ((w5.setCell ⟨w2.heap.size,3,none⟩ (.int .i64 v3)).heap[w2.heap.size]? = some (.cells #[.int .i64 v0,.int .i64 v1,.int .i64 v2,.int .i64 v3] 69 (0,0))):=(show _=_ from by rw [heap_setCell_obj HH5.out];rfl)
     go_roundw
     all_goals first
      | (simp [intOf];done)
      | exact ⟨(show Below _ _ _ from HB5.out.setCell (p:=⟨w2.heap.size,3,none⟩) (Nat.le_refl _) _),.inr (.inr (.inr (.inr (⟨by go_num,HS⟩))))⟩
   · have hlt:=(Array.getElem?_eq_some_iff.1 hh.out).1
     obtain ⟨g0,g1,g2,g3⟩:wr.cell? ⟨w2.heap.size,0,none⟩=some (.int .i64 v0)∧wr.cell? ⟨w2.heap.size,1,none⟩=some (.int .i64 v1)∧wr.cell? ⟨w2.heap.size,2,none⟩=some (.int .i64 v2)∧wr.cell? ⟨w2.heap.size,3,none⟩=some (.int .i64 v3):=(by simp [World.cell?,hh.out])
     obtain ⟨w6,a6,l6,z6,e6⟩:=alloc_facts wr #[.int .i64 v0,.int .i64 v1,.int .i64 v2,.int .i64 v3] 25
     have HA6:=Lib.hid a6
     have HE6:=Lib.hid e6
     have HB6:=Lib.hid (HB2.out.trans ((hbr.out.trans (l6.mono hbr.out.size)).mono HB2.out.size))
     have z6':w6.heap.size=wr.heap.size+1:=z6
     obtain ⟨u0,u1,u2,u3⟩:w6.cell? ⟨wr.heap.size,0,none⟩=some (.int .i64 v0)∧w6.cell? ⟨wr.heap.size,1,none⟩=some (.int .i64 v1)∧w6.cell? ⟨wr.heap.size,2,none⟩=some (.int .i64 v2)∧w6.cell? ⟨wr.heap.size,3,none⟩=some (.int .i64 v3):=(by simp [World.cell?,e6])
     obtain ⟨p,hp⟩:∃ p:Pairing,p=⟨⟨v0,v1⟩,⟨v2,v3⟩⟩:=⟨_,rfl⟩
     have KP:Hid (Calls Tryz.prog 5 #[.agg #[.int .i64 v0,.int .i64 v1,.int .i64 v2,.int .i64 v3]] w6 fun e w'=>e = .returned (.tuple #[.string (textV p),.int .i64 (writeErr p)])∧Below w6.heap.size w6 w'):=(show Calls _ _ _ _ _ from by rw [hp];exact KW.out _ w6)
     have HP:=Lib.hid hp
     clear a6 l6 e6
     by_cases hok:okP p=true
     · obtain ⟨h1,h2⟩:=good_ok hok
       have hkk:=okP_iff.1 hok
       rw [hp] at hkk
       simp only at hkk
       have hz:eqPairing ⟨⟨v0,v1⟩,⟨v2,v3⟩⟩ ⟨⟨0,0⟩,⟨0,0⟩⟩=false:=eqPairing_no.2 (fun e=>by
        simp only [Pairing.mk.injEq,Stretch.mk.injEq] at e
        omega)
       rw [h2] at KP
       have HOK:=Lib.hid hok
       have HT1:=Lib.hid h1
       clear hp hok h1 h2 hkk
       generalize textV p=T at *
       by_cases he:T=s
       · obtain ⟨t1,t2⟩:=HRS.out p HOK.out (by rw [←he,HT1.out])
         rw [HP.out] at t1
         subst t1 t2
         subst he
         go_wp2_with (first
          | rw [HA6.out]
          | (go_at_call 5;(with_reducible refine KP.out.mono ?_);rintro e w7 ⟨rfl,hb7⟩
             have HB7:=Lib.hid (HB6.out.trans (hb7.mono HB6.out.size))
             have hh7:=(hb7.block wr.heap.size (by omega)).trans HE6.out
             obtain ⟨r0,r1,r2,r3⟩:w7.cell? ⟨wr.heap.size,0,none⟩=some (.int .i64 v0)∧w7.cell? ⟨wr.heap.size,1,none⟩=some (.int .i64 v1)∧w7.cell? ⟨wr.heap.size,2,none⟩=some (.int .i64 v2)∧w7.cell? ⟨wr.heap.size,3,none⟩=some (.int .i64 v3):=(by simp [World.cell?,hh7])
             obtain ⟨q,⟨y0,y1,y2,y3⟩,z0,z1,z2,z3⟩:=HRE.out w7 HB7.out
             have HQ7:=Lib.hid q
             clear hb7 hh7 q))
         refine bodyPost_ret (results_ct rfl _ _ w.heap.size _ _ (0,0) _ rfl (set4 HQ7.out) Tryz.underlying25 rfl (by kernel_rfl)) rfl ?_
         exact ⟨rfl,below_set4 (HB1.out.trans (HB7.out.mono HB1.out.size)) (Nat.le_refl _) _ _ _ _⟩
       · obtain ⟨t1,t2⟩:=HRN.out (fun q hq e=>by
          have h1:=HOF.out q hq e
          rw [←HP.out] at h1
          subst h1
          apply he
          rw [HT1.out,e])
         subst t1 t2
         have hte:(T.toList==s.toList)=false:=str_ne he
         clear he
         go_wp2_with (first
          | rw [HA6.out]
          | (go_at_call 5;(with_reducible refine KP.out.mono ?_);rintro e w7 ⟨rfl,hb7⟩
             have HB7:=Lib.hid (HB6.out.trans (hb7.mono HB6.out.size))
             have hh7:=(hb7.block wr.heap.size (by omega)).trans HE6.out
             obtain ⟨r0,r1,r2,r3⟩:w7.cell? ⟨wr.heap.size,0,none⟩=some (.int .i64 v0)∧w7.cell? ⟨wr.heap.size,1,none⟩=some (.int .i64 v1)∧w7.cell? ⟨wr.heap.size,2,none⟩=some (.int .i64 v2)∧w7.cell? ⟨wr.heap.size,3,none⟩=some (.int .i64 v3):=(by simp [World.cell?,hh7])
             obtain ⟨q,⟨y0,y1,y2,y3⟩,z0,z1,z2,z3⟩:=HRE.out w7 HB7.out
             have HQ7:=Lib.hid q
             clear hb7 hh7 q))
         refine bodyPost_ret (results_ct rfl _ _ w.heap.size _ _ (0,0) _ rfl (set4 HQ7.out) Tryz.underlying25 rfl (by kernel_rfl)) rfl ?_
         exact ⟨rfl,below_set4 (HB1.out.trans (HB7.out.mono HB1.out.size)) (Nat.le_refl _) _ _ _ _⟩
     · have hf:okP p=false:=by simpa using hok
       obtain ⟨h1,h2⟩:=bad_ok hf
       obtain ⟨t1,t2⟩:=HRN.out (fun q hq e=>by
        have h3:=HOF.out q hq e
        rw [←HP.out] at h3
        subst h3
        exact hok hq)
       subst t1 t2
       rw [h2] at KP
       clear hp hok hf h1 h2
       generalize textV p=T at *
       cases hz:eqPairing ⟨⟨v0,v1⟩,⟨v2,v3⟩⟩ ⟨⟨0,0⟩,⟨0,0⟩⟩
       all_goals
        go_wp2_with (first
         | rw [HA6.out]
         | (go_at_call 5;(with_reducible refine KP.out.mono ?_);rintro e w7 ⟨rfl,hb7⟩
            have HB7:=Lib.hid (HB6.out.trans (hb7.mono HB6.out.size))
            have hh7:=(hb7.block wr.heap.size (by omega)).trans HE6.out
            obtain ⟨r0,r1,r2,r3⟩:w7.cell? ⟨wr.heap.size,0,none⟩=some (.int .i64 v0)∧w7.cell? ⟨wr.heap.size,1,none⟩=some (.int .i64 v1)∧w7.cell? ⟨wr.heap.size,2,none⟩=some (.int .i64 v2)∧w7.cell? ⟨wr.heap.size,3,none⟩=some (.int .i64 v3):=(by simp [World.cell?,hh7])
            obtain ⟨q,⟨y0,y1,y2,y3⟩,z0,z1,z2,z3⟩:=HRE.out w7 HB7.out
            have HQ7:=Lib.hid q
            clear hb7 hh7 q))
        refine bodyPost_ret (results_ct rfl _ _ w.heap.size _ _ (0,0) _ rfl (set4 HQ7.out) Tryz.underlying25 rfl (by kernel_rfl)) rfl ?_
        exact ⟨rfl,below_set4 (HB1.out.trans (HB7.out.mono HB1.out.size)) (Nat.le_refl _) _ _ _ _⟩
end Go.Proofs.YtpmkgmilfifkpaaGreatDoor
end

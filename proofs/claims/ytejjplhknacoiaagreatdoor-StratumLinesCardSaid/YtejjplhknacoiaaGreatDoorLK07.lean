/- Contracts that the laws lean on: Adm, Setm, Lex, ChpM, CmpF, Tab. -/
import Derived.Test.YtejjplhknacoiaaGreatDoorLK06
set_option maxRecDepth 100000
set_option maxHeartbeats 2000000
section
namespace Go.Proofs.YtejjplhknacoiaaGreatDoor
open Go.RowKit Go.Proofs Go.Shelf
def onOk {α:Type} (e:Int) (xs:List α):List α:=if e=0 then xs else []
theorem Places_any (A:Option Addr) (n c:Nat) (l:List Trace) (known:Int) (bA:Option Addr) (bn bc:Nat) (bs:List Bond) (w:World) (hl:Rd encTrace 10 w A n c l) (hb:Rd encBond 5 w bA bn bc bs):
 Calls Tryz.prog 11 #[.slice A n c,.int .i64 known,.slice bA bn bc] w fun e w'=> ∃ A' n' c',e = .returned (.tuple #[.slice A' n' c',.int .i64 (askErr l known bs)])∧Below w.heap.size w w'∧
  Own encPlace 2 36 w.heap.size w' A' n' c' (onOk (askErr l known bs) (placesOf (counting l known) bs)):=by
 have hask:=asked_any A n c l known bA bn bc bs w hl hb
 generalize askErr l known bs=er at hask ⊢
 by_cases he:er=0
 · subst he
   go_enter Tryz.func11,Tryz.ntmps11
   go_wp2_with (go_at_call 30;refine hask.mono ?_;rintro e w1 ⟨p,rfl,hb1,hO⟩;obtain ⟨o,rfl,ho,At,ct,Ap,cp,Aa,ca,hobj,hT,hP,hA⟩:=hO rfl;have hc2:w1.cell? ⟨o,2,none⟩=some (.slice Ap (placesOf (counting l known) bs).length cp):=(by simp [World.cell?,hobj]);have hc3:w1.cell? ⟨o,3,none⟩=some (.slice Aa (admitsOf (counting l known)).length ca):=(by simp [World.cell?,hobj]);have HO:=Lib.hid hobj;clear hobj)
   go_ret2
   exact ⟨Ap,_,cp,rfl,hb1,by unfold onOk;rw [if_pos rfl];exact hP⟩
 · have he':(er != 0)=true:=by simpa using he
   go_enter Tryz.func11,Tryz.ntmps11
   go_wp2_with (go_at_call 30;refine hask.mono ?_;rintro e w1 ⟨p,rfl,hb1,hO⟩;clear hO)
   go_ret2
   exact ⟨none,0,0,rfl,hb1,by unfold onOk;rw [if_neg he];exact Own.none_ _ _ _ _ _⟩
theorem Movable_any (A:Option Addr) (n c:Nat) (l:List Trace) (known:Int) (bA:Option Addr) (bn bc:Nat) (bs:List Bond) (w:World) (hl:Rd encTrace 10 w A n c l) (hb:Rd encBond 5 w bA bn bc bs):
 Calls Tryz.prog 12 #[.slice A n c,.int .i64 known,.slice bA bn bc] w fun e w'=> ∃ A' n' c',e = .returned (.tuple #[.slice A' n' c',.int .i64 (askErr l known bs)])∧Below w.heap.size w w'∧
  Own encAdmit 4 56 w.heap.size w' A' n' c' (onOk (askErr l known bs) (admitsOf (counting l known))):=by
 have hask:=asked_any A n c l known bA bn bc bs w hl hb
 generalize askErr l known bs=er at hask ⊢
 by_cases he:er=0
 · subst he
   go_enter Tryz.func12,Tryz.ntmps12
   go_wp2_with (go_at_call 30;refine hask.mono ?_;rintro e w1 ⟨p,rfl,hb1,hO⟩;obtain ⟨o,rfl,ho,At,ct,Ap,cp,Aa,ca,hobj,hT,hP,hA⟩:=hO rfl;have hc2:w1.cell? ⟨o,2,none⟩=some (.slice Ap (placesOf (counting l known) bs).length cp):=(by simp [World.cell?,hobj]);have hc3:w1.cell? ⟨o,3,none⟩=some (.slice Aa (admitsOf (counting l known)).length ca):=(by simp [World.cell?,hobj]);have HO:=Lib.hid hobj;clear hobj)
   go_ret2
   exact ⟨Aa,_,ca,rfl,hb1,by unfold onOk;rw [if_pos rfl];exact hA⟩
 · have he':(er != 0)=true:=by simpa using he
   go_enter Tryz.func12,Tryz.ntmps12
   go_wp2_with (go_at_call 30;refine hask.mono ?_;rintro e w1 ⟨p,rfl,hb1,hO⟩;clear hO)
   go_ret2
   exact ⟨none,0,0,rfl,hb1,by unfold onOk;rw [if_neg he];exact Own.none_ _ _ _ _ _⟩
def isAdm (ads:List Admit) (p:Place):Bool:=ads.any (fun x=>eqPlace x.place p)
def notOrd (l:List Place) (i:Nat):Bool:=match i with
 | 0=>false
 | i+1=>match l[i]?,l[i+1]? with
   | some x,some y=>decide (0≤comparePl x y)
   | _,_=>false
def admittedErr (ads:List Admit) (moved:List Place):Int:=
 if (List.range moved.length).any (notOrd moved) then 1 else if moved.any (fun p=> !(isAdm ads p)) then 80 else 0
theorem admpred (p:Place) (bx:Nat) (w:World) (hlt:bx<w.heap.size) (h0:w.cell? ⟨bx,0,none⟩=some (.int .i64 p.pit)) (h1:w.cell? ⟨bx,1,none⟩=some (.int .i64 p.layer)):
 PredB Tryz.prog 101 #[.pointer (some ⟨bx,0,none⟩)] (fun x=> .agg (encAdmit x).toArray) (fun x=>eqPlace x.place p) w:=by
 intro W x hb
 have c0:W.cell? ⟨bx,0,none⟩=some (.int .i64 p.pit):=(hb.cell (p:=⟨bx,0,none⟩) hlt).trans h0
 have c1:W.cell? ⟨bx,1,none⟩=some (.int .i64 p.layer):=(hb.cell (p:=⟨bx,1,none⟩) hlt).trans h1
 have hlt2:bx<W.heap.size:=by have:=hb.size;omega
 simp only [encAdmit,List.append_toArray,List.cons_append,List.nil_append]
 go_enter Tryz.func101,Tryz.ntmps101
 go_wp2
 go_ret
 exact ⟨rfl,hb.alloc hb.size _⟩
theorem ent_adm:∀ args w,(callFunc 101 args).run Tryz.prog w = .ok (.enter 101 args) w:=enters_of Tryz.func101 (by kernel_rfl) rfl
theorem adm1 {ads:List Admit} {moved:List Place} {j:Nat} (h:notOrd moved j=true) (hj:j<moved.length):(1:Int)=admittedErr ads moved:=by
 unfold admittedErr
 rw [if_pos (List.any_eq_true.2 ⟨j,List.mem_range.2 hj,h⟩)]
theorem adm2 {ads:List Admit} {moved:List Place} {j:Nat} {x:Place} (h0:∀ k,k<moved.length→notOrd moved k=false) (hx:moved[j]? = some x) (h:isAdm ads x=false):(80:Int)=admittedErr ads moved:=by
 unfold admittedErr
 rw [if_neg,if_pos (List.any_eq_true.2 ⟨x,List.mem_of_getElem? hx,by simp [h]⟩)]
 simp only [List.any_eq_true,List.mem_range,not_exists,not_and,Bool.not_eq_true]
 exact h0
theorem adm3 {ads:List Admit} {moved:List Place} (h0:∀ k,k<moved.length→notOrd moved k=false) (h:∀ k x,k<moved.length→moved[k]? = some x→isAdm ads x=true):(0:Int)=admittedErr ads moved:=by
 unfold admittedErr
 rw [if_neg,if_neg]
 · simp only [List.any_eq_true,not_exists,not_and,Bool.not_eq_true]
   intro x hx
   obtain ⟨k,hk,rfl⟩:=List.getElem_of_mem hx
   rw [h k _ hk (List.getElem?_eq_getElem hk)];rfl
 · simp only [List.any_eq_true,List.mem_range,not_exists,not_and,Bool.not_eq_true]
   exact h0
theorem notOrd_at {moved:List Place} {j:Nat} {x y:Place} (hx:moved[j]? = some x) (hy:moved[j+1]? = some y):notOrd moved (j+1)=decide (0≤comparePl x y):=by
 simp [notOrd,hx,hy]
theorem admitted_any (o:Nat) (Aa:Option Addr) (na ca:Nat) (ads:List Admit) (M:Option Addr) (mn mc:Nat) (moved:List Place) (w:World) (ho:o<w.heap.size) (hc3:w.cell? ⟨o,3,none⟩=some (.slice Aa na ca))
 (hA:Rd encAdmit 4 w Aa na ca ads) (hm:Rd encPlace 2 w M mn mc moved):
 Calls Tryz.prog 60 #[.pointer (some ⟨o,0,none⟩),.slice M mn mc] w fun e w'=>e = .returned (.int .i64 (admittedErr ads moved))∧Below w.heap.size w w':=by
 have hlen:=Lib.hid hm.len
 have hbig:=hm.big
 go_enter Tryz.func60,Tryz.ntmps60
 go_wp2
 go_loopw [11] (fun i wr=> ∃ j:Nat,j≤mn∧i = .int .i64 j∧Below w.heap.size w wr∧Hid (∀ k,k<j→notOrd moved k=false)) (fun i _=>mn-(intOf i).toNat)
 case atStart=>exact ⟨0,Nat.zero_le _,rfl,Below.refl _ _,fun k h=>absurd h (by omega)⟩
 case round=>
  obtain ⟨j,hj,rfl,hb,hno⟩:=hrel
  have hzr:=hb.size
  by_cases hlt:j<mn
  · have hmr:=hm.below hb (Nat.le_refl _)
    obtain ⟨b,off,y,hM,hbw,hy,hcell⟩:=hmr.one hlt
    have y0:wr.cell? ⟨b,off+j * 2,none⟩=some (.int .i64 y.pit):=hcell 0 _ rfl
    have y1:wr.cell? ⟨b,off+j * 2+1,none⟩=some (.int .i64 y.layer):=hcell 1 _ rfl
    by_cases h0:j=0
    · subst h0
      subst hM
      simp only [Nat.zero_mul,Nat.add_zero] at y0 y1
      have HY:=Lib.hid hy
      clear hmr hcell hy
      go_wp2_with (fail)
      go_region
      all_goals go_wp2
      go_roundw
      case rel=>exact ⟨1,by omega,by go_num,(by ((repeat' (first|(with_reducible assumption)|(with_reducible exact Below.refl _ _)|(with_reducible refine Below.drew ?_)|(with_reducible refine below_drewN' ?_ _)|(with_reducible refine Below.alloc ?_ ?_ _)|(with_reducible refine Below.setCell ?_ ?_ _)|(with_reducible refine below_step (by assumption) ?_ ?_)))<;>first|(simp;done)|(simp;omega)|omega)),fun k hk=>(by have:k=0:=(by omega);subst this;rfl)⟩
      case measure=>simp [intOf];omega
    · obtain ⟨j',rfl⟩:∃ j',j=j'+1:=⟨j-1,by omega⟩
      obtain ⟨b2,off2,x,hM2,hbw2,hx,hcell2⟩:=hmr.one (show j'<mn by omega)
      rw [hM] at hM2
      cases hM2
      subst hM
      have x0:wr.cell? ⟨b,off+j' * 2,none⟩=some (.int .i64 x.pit):=hcell2 0 _ rfl
      have x1:wr.cell? ⟨b,off+j' * 2+1,none⟩=some (.int .i64 x.layer):=hcell2 1 _ rfl
      have HN:=Lib.hid (notOrd_at hx hy)
      have HY:=Lib.hid hy
      clear hmr hcell hcell2 hx hy
      have hwj:IntKind.i64.wrap (j':Int)=(j':Int):=by simp [IntKind.wrap,IntKind.bits,IntKind.signed];omega
      have hjj:(j':Int)<(mn:Int):=by omega
      have hjl:j'+1<moved.length:=by have:=hlen.out;omega
      have HJ:=Lib.hid hjl
      clear hjl
      by_cases hcp:0≤comparePl ⟨x.pit,x.layer⟩ ⟨y.pit,y.layer⟩
      · go_wp2_with (fail)
        go_region_with (first|(go_at_call 55;refine (compare_any _ _ _ _ _).mono ?_;rintro e wC ⟨rfl,hGC⟩;have hbC:=hGC.below))
        all_goals go_wp2
        all_goals go_ret
        all_goals exact ⟨retI (adm1 (by rw [HN.out];exact decide_eq_true hcp) HJ.out),(by ((repeat' (first|(with_reducible assumption)|(with_reducible exact Below.refl _ _)|(with_reducible refine Below.drew ?_)|(with_reducible refine below_drewN' ?_ _)|(with_reducible refine Below.alloc ?_ ?_ _)|(with_reducible refine Below.setCell ?_ ?_ _)|(with_reducible refine below_step (by assumption) ?_ ?_)))<;>first|(simp;done)|(simp;omega)|omega))⟩
      · go_wp2_with (fail)
        go_region_with (first|(go_at_call 55;refine (compare_any _ _ _ _ _).mono ?_;rintro e wC ⟨rfl,hGC⟩;have hbC:=hGC.below))
        all_goals go_wp2
        all_goals go_roundw
        all_goals first
         | exact ⟨j'+2,by omega,by go_num,(by ((repeat' (first|(with_reducible assumption)|(with_reducible exact Below.refl _ _)|(with_reducible refine Below.drew ?_)|(with_reducible refine below_drewN' ?_ _)|(with_reducible refine Below.alloc ?_ ?_ _)|(with_reducible refine Below.setCell ?_ ?_ _)|(with_reducible refine below_step (by assumption) ?_ ?_)))<;>first|(simp;done)|(simp;omega)|omega)),fun k hk=>(by
            by_cases hkj:k<j'+1
            · exact hno.out k hkj
            · have:k=j'+1:=(by omega)
              subst this
              rw [HN.out];exact decide_eq_false (Int.not_le.2 hcp))⟩
         | (simp [intOf];omega)
  · have hjn:j=mn:=by omega
    subst hjn
    have hno':Hid (∀ k,k<moved.length→notOrd moved k=false):=(show ∀ k,k<moved.length→notOrd moved k=false by rw [hlen.out];exact hno.out)
    clear hno
    go_wp2
    go_loopw [31] (fun i wr=> ∃ k:Nat,k≤j∧i = .int .i64 k∧Below w.heap.size w wr∧Hid (∀ q x,q<k→moved[q]? = some x→isAdm ads x=true)) (fun i _=>j-(intOf i).toNat)
    case atStart=>exact ⟨0,Nat.zero_le _,rfl,hb,fun k x h=>absurd h (by omega)⟩
    case round=>
     obtain ⟨k,hk,rfl,hb2,hall⟩:=hrel
     have hzr2:=hb2.size
     by_cases hlt2:k<j
     · have hmr:=hm.below hb2 (Nat.le_refl _)
       obtain ⟨b,off,x,rfl,hbw,hx,hcell⟩:=hmr.one hlt2
       have x0:wr.cell? ⟨b,off+k * 2,none⟩=some (.int .i64 x.pit):=hcell 0 _ rfl
       have x1:wr.cell? ⟨b,off+k * 2+1,none⟩=some (.int .i64 x.layer):=hcell 1 _ rfl
       have c3:wr.cell? ⟨o,3,none⟩=some (.slice Aa na ca):=(hb2.cell (p:=⟨o,3,none⟩) ho).trans hc3
       have how:o<wr.heap.size:=(by omega)
       have hAr:=(hA.below hb2 (Nat.le_refl _)).alloc (.cells #[.int .i64 x.pit,.int .i64 x.layer] 36)
       have hcf:=ContainsFunc_Admit _ _ ent_adm (fun y=>eqPlace y.place x) Aa na ca ads _ hAr (admpred x wr.heap.size _ (by simp) (by simp) (by simp))
       have HX:=Lib.hid hx
       have hia:ads.any (fun y=>eqPlace y.place x)=isAdm ads x:=rfl
       rw [hia] at hcf
       have HCF:=Lib.hid hcf
       clear hmr hcell hx hAr hia hcf
       cases hq:isAdm ads x
       · have HQ:=Lib.hid hq
         go_wp2_with (go_at_call 100;refine HCF.out.mono ?_;rintro e wC ⟨rfl,hbC⟩)
         go_ret
         exact ⟨retI (adm2 hno'.out HX.out HQ.out),(by ((repeat' (first|(with_reducible assumption)|(with_reducible exact Below.refl _ _)|(with_reducible refine Below.drew ?_)|(with_reducible refine below_drewN' ?_ _)|(with_reducible refine Below.alloc ?_ ?_ _)|(with_reducible refine Below.setCell ?_ ?_ _)|(with_reducible refine below_step (by assumption) ?_ ?_)))<;>first|(simp;done)|(simp;omega)|omega))⟩
       · have HQ:=Lib.hid hq
         go_wp2_with (go_at_call 100;refine HCF.out.mono ?_;rintro e wC ⟨rfl,hbC⟩)
         go_roundw
         case rel=>exact ⟨k+1,by omega,by go_num,(by ((repeat' (first|(with_reducible assumption)|(with_reducible exact Below.refl _ _)|(with_reducible refine Below.drew ?_)|(with_reducible refine below_drewN' ?_ _)|(with_reducible refine Below.alloc ?_ ?_ _)|(with_reducible refine Below.setCell ?_ ?_ _)|(with_reducible refine below_step (by assumption) ?_ ?_)))<;>first|(simp;done)|(simp;omega)|omega)),fun q y hqk hy=>(by
          by_cases hkq:q<k
          · exact hall.out q y hkq hy
          · have:q=k:=(by omega)
            subst this
            rw [HX.out] at hy
            cases hy
            exact HQ.out)⟩
         case measure=>simp [intOf];omega
     · have hkn:k=j:=by omega
       subst hkn
       go_wp2
       go_ret
       exact ⟨retI (adm3 hno'.out (fun q y hq hy=>hall.out q y (by rw [←hlen.out];exact hq) hy)),(by ((repeat' (first|(with_reducible assumption)|(with_reducible exact Below.refl _ _)|(with_reducible refine Below.drew ?_)|(with_reducible refine below_drewN' ?_ _)|(with_reducible refine Below.alloc ?_ ?_ _)|(with_reducible refine Below.setCell ?_ ?_ _)|(with_reducible refine below_step (by assumption) ?_ ?_)))<;>first|(simp;done)|(simp;omega)|omega))⟩
def bitOn (n:Nat) (k:Nat):Bool:=Go.bits BinOp.and IntKind.i64 ((n:Int) / 2 ^ k) 1==1
def setTo (ads:List Admit) (n:Nat):Nat→List Place×Int
 | 0=>([],0)
 | k+1=>match ads[k]? with
   | some x=>if bitOn n k then ((setTo ads n k).1 ++ [x.place],(setTo ads n k).2+x.cost) else setTo ads n k
   | none=>setTo ads n k
theorem setTo_on {ads:List Admit} {n k:Nat} {x:Admit} (hx:ads[k]? = some x) (h:bitOn n k=true):setTo ads n (k+1)=((setTo ads n k).1 ++ [x.place],(setTo ads n k).2+x.cost):=by
 rw [setTo,hx];simp only [h,if_true]
theorem setTo_off {ads:List Admit} {n k:Nat} {x:Admit} (hx:ads[k]? = some x) (h:bitOn n k=false):setTo ads n (k+1)=setTo ads n k:=by
 rw [setTo,hx];simp only [h,Bool.false_eq_true,if_false]
theorem setTo_len (ads:List Admit) (n:Nat):∀ k,(setTo ads n k).1.length≤k
 | 0=>by simp [setTo]
 | k+1=>by
   have:=setTo_len ads n k
   rw [setTo]
   split
   · split
     · simp;omega
     · omega
   · omega
theorem setTo_cost (ads:List Admit) (n:Nat) (hc:∀ x∈ads,0≤x.cost∧x.cost≤1000):∀ k,0≤(setTo ads n k).2∧(setTo ads n k).2≤1000 * k
 | 0=>by simp [setTo]
 | k+1=>by
   have:=setTo_cost ads n hc k
   rw [setTo]
   split
   · rename_i x hx
     have h2:=hc x (List.mem_of_getElem? hx)
     split
     · simp only;omega
     · omega
   · omega
theorem set_any (A:Option Addr) (n c:Nat) (ads:List Admit) (bits:Nat) (w:World) (hl:Rd encAdmit 4 w A n c ads) (hn:n≤8) (_:bits<256) (hcost:∀ x∈ads,0≤x.cost∧x.cost≤1000):
 Calls Tryz.prog 66 #[.agg #[.slice A n c],.int .i64 bits] w fun e w'=> ∃ A' c',e = .returned (.tuple #[.slice A' (setTo ads bits n).1.length c',.int .i64 (setTo ads bits n).2])∧Below w.heap.size w w'∧
  Own encPlace 2 36 w.heap.size w' A' (setTo ads bits n).1.length c' (setTo ads bits n).1:=by
 have hlen:=Lib.hid hl.len
 have HC:=Lib.hid hcost
 clear hcost
 go_enter Tryz.func66,Tryz.ntmps66
 go_wp2
 go_loopw [4,5,11] (fun s4 s5 i wr=> ∃ (k:Nat) (A':Option Addr) (c':Nat) (ps:List Place) (z:Int),k≤n∧i = .int .i64 k∧s4 = .slice A' ps.length c'∧s5 = .int .i64 z∧Below w.heap.size w wr∧Hid (setTo ads bits k=(ps,z))∧Hid (Own encPlace 2 36 w.heap.size wr A' ps.length c' ps)) (fun _ _ i _=>n-(intOf i).toNat)
 case atStart=>exact ⟨0,none,0,[],0,Nat.zero_le _,rfl,rfl,rfl,(Below.refl _ w).alloc (Nat.le_refl _) _,(show _=_ from rfl),(show Own _ _ _ _ _ _ _ _ _ from Own.none_ _ _ _ _ _)⟩
 case round=>
  obtain ⟨k,A',c',ps,z,hk,rfl,rfl,rfl,hb,hs,hO⟩:=hrel
  by_cases hlt:k<n
  · obtain ⟨b,off,x,rfl,hbw,hx,hcell⟩:=(hl.below hb (Nat.le_refl _)).one hlt
    have c0:wr.cell? ⟨b,off+k * 4,none⟩=some (.int .i64 x.place.pit):=hcell 0 _ rfl
    have c1:wr.cell? ⟨b,off+k * 4+1,none⟩=some (.int .i64 x.place.layer):=hcell 1 _ rfl
    have c2:wr.cell? ⟨b,off+k * 4+2,none⟩=some (.int .i64 x.cost):=hcell 2 _ rfl
    have c3:wr.cell? ⟨b,off+k * 4+3,none⟩=some (.int .i64 x.by_):=hcell 3 _ rfl
    have hcx:=HC.out x (List.mem_of_getElem? hx)
    have hz:=setTo_cost ads bits HC.out k
    have hpl:=setTo_len ads bits k
    rw [hs.out] at hz hpl
    simp only at hz hpl
    have HX:=Lib.hid hx
    have hsz:=hb.size
    clear hx hcell
    cases hbit:bitOn bits k with
    | true=>
      have hstep:=Lib.hid (setTo_on HX.out hbit)
      have hbit':(Go.bits BinOp.and IntKind.i64 ((bits:Int) / 2 ^ k) 1==1)=true:=hbit
      have hO5:=((hO.out.alloc (.cells #[.int .i64 x.place.pit,.int .i64 x.place.layer,.int .i64 x.cost,.int .i64 x.by_] 56)).alloc (.cells #[.int .i64 x.place.pit,.int .i64 x.place.layer] 36))
      have hrd5:=Rd.single (enc:=encPlace) (k:=2) (wr.alloc (.cells #[.int .i64 x.place.pit,.int .i64 x.place.layer,.int .i64 x.cost,.int .i64 x.by_] 56)) #[.int .i64 x.place.pit,.int .i64 x.place.layer] 36 [x.place] 1 rfl (by omega) (fun _=>rfl) (by simp [encPlace])
      simp only [World.size_alloc] at hrd5
      have hb5:Below w.heap.size w ((wr.alloc (.cells #[.int .i64 x.place.pit,.int .i64 x.place.layer,.int .i64 x.cost,.int .i64 x.by_] 56)).alloc (.cells #[.int .i64 x.place.pit,.int .i64 x.place.layer] 36)):=(hb.alloc hsz _).alloc (by simp;omega) _
      have hnc:(wr.alloc (.cells #[.int .i64 x.place.pit,.int .i64 x.place.layer,.int .i64 x.cost,.int .i64 x.by_] 56)).heap[wr.heap.size]? = some (.cells #[.int .i64 x.place.pit,.int .i64 x.place.layer,.int .i64 x.cost,.int .i64 x.by_] 56 (0,0)):=heap_alloc_new wr _
      go_wp2_with (at_builtin;refine wpList_append_src elPlace (fun _=>rfl) onePlace rfl _ _ rfl _ _ _ _ rfl rfl hO5 hrd5 (by omega) (by decide) (by simp;omega) ?_;intro A2 c2 w8 hO8 hg8 hA8
                   have hk8:w8.heap[wr.heap.size]? = some (.cells #[.int .i64 x.place.pit,.int .i64 x.place.layer,.int .i64 x.cost,.int .i64 x.by_] 56 (0,0)):=(hg8.block _ (by simp;omega) (hO5.ne' ((Below.heap_alloc _ _ _ (by simp)).trans hnc) (fun cur e=>by injection e with _ h _;cases h))).trans ((Below.heap_alloc _ _ _ (by simp)).trans hnc)
                   have h82:w8.cell? ⟨wr.heap.size,2,none⟩=some (.int .i64 x.cost):=(by simp [World.cell?,hk8]))
      go_roundw
      all_goals first
       | (simp [intOf];omega)
       | (refine ⟨k+1,A2,c2,ps ++ [x.place],z+x.cost,by omega,by go_num,by simp,by go_num,hb5.grown hg8 (by simp;omega) (fun j e=>hO5.ltB j e),?_,?_⟩
          · exact (show _=_ by rw [hstep.out,hs.out])
          · exact (show Own _ _ _ _ _ _ _ _ _ by rw [List.length_append];exact hO8))
    | false=>
      have hstep:=Lib.hid (setTo_off HX.out hbit)
      have hbit':(Go.bits BinOp.and IntKind.i64 ((bits:Int) / 2 ^ k) 1==1)=false:=hbit
      go_wp2
      go_roundw
      all_goals first
       | (simp [intOf];omega)
       | exact ⟨k+1,A',c',ps,z,by omega,by go_num,rfl,rfl,hb.alloc hsz _,(show _=_ by rw [hstep.out,hs.out]),(show Own _ _ _ _ _ _ _ _ _ from hO.out.alloc _)⟩
  · have hkn:k=n:=by omega
    subst hkn
    go_wp2
    go_ret2
    refine ⟨A',c',?_,hb,?_⟩
    · rw [hs.out];rfl
    · rw [hs.out];exact hO.out
open Go.Sort
def cmpLx:List Place→List Place→Int
 | [],[]=>0
 | [],_::_=> -1
 | _::_,[]=>1
 | a::xs,b::ys=>if comparePl a b≠0 then comparePl a b else cmpLx xs ys
def lexLt:List Place→List Place→Prop
 | _,[]=>False
 | [],_::_=>True
 | a::xs,b::ys=>ltPl a b∨(a=b∧lexLt xs ys)
theorem comparePl_neg {a b:Place} : comparePl a b<0↔ltPl a b:=by
 have:= @ltT a b
 unfold ltOf at this
 simpa using this
theorem comparePl_zero {a b:Place} : comparePl a b=0↔a=b:=by
 constructor
 · intro h
   have h1:¬ltPl a b:=fun e=>by have:=comparePl_neg.2 e;omega
   have h2:¬ltPl b a:=fun e=>by
    unfold ltPl at e
    have h3:¬a.pit<b.pit:=fun q=>by omega
    unfold comparePl or2 cmpI at h
    by_cases q1:b.pit<a.pit
    · simp [h3,q1] at h
    · have q2:b.layer<a.layer:=by omega
      have q3:¬a.layer<b.layer:=by omega
      simp [h3,q1,q2,q3] at h
   exact totPl a b (ltF.2 h1) (ltF.2 h2)
 · rintro rfl
   simp [comparePl,or2,cmpI]
theorem cmpLx_neg:∀ {x y:List Place},cmpLx x y<0↔lexLt x y
 | [],[]=>by simp [cmpLx,lexLt]
 | [],_::_=>by simp [cmpLx,lexLt]
 | _::_,[]=>by simp [cmpLx,lexLt]
 | a::xs,b::ys=>by
   have ih:= @cmpLx_neg xs ys
   have h1:= @comparePl_neg a b
   have h2:= @comparePl_zero a b
   simp only [cmpLx,lexLt]
   by_cases h:comparePl a b=0
   · have e:=h2.1 h
     rw [if_neg (by simpa using h),ih]
     constructor
     · exact fun h3=> .inr ⟨e,h3⟩
     · rintro (h3|⟨_,h3⟩)
       · have:=h1.2 h3;omega
       · exact h3
   · rw [if_pos h,h1]
     constructor
     · exact fun h3=> .inl h3
     · rintro (h3|⟨h3,_⟩)
       · exact h3
       · exact absurd (h2.2 h3) h
theorem ltPl_irrefl (a:Place):¬ltPl a a:=by unfold ltPl;omega
theorem ltPl_trans {a b c:Place} (h1:ltPl a b) (h2:ltPl b c):ltPl a c:=by unfold ltPl at *;omega
theorem ltPl_tri (a b:Place):ltPl a b∨a=b∨ltPl b a:=by
 by_cases h1:ltPl a b
 · exact .inl h1
 · by_cases h2:ltPl b a
   · exact .inr (.inr h2)
   · exact .inr (.inl (totPl a b (ltF.2 h1) (ltF.2 h2)))
theorem lexLt_irrefl:∀ x:List Place,¬lexLt x x
 | []=>fun h=>h
 | a::xs=>by
   rintro (h|⟨_,h⟩)
   · exact ltPl_irrefl a h
   · exact lexLt_irrefl xs h
theorem lexLt_nil:∀ x:List Place,¬lexLt x []
 | []=>fun h=>h
 | _::_=>fun h=>h
theorem lexLt_trans:∀ {x y z:List Place},lexLt x y→lexLt y z→lexLt x z
 | x,y,[],_,h=>absurd h (lexLt_nil y)
 | x,[],_::_,h,_=>absurd h (lexLt_nil x)
 | [],_::_,_::_,_,_=>trivial
 | a::xs,b::ys,c::zs,h1,h2=>by
   rcases h1 with h1|⟨rfl,h1⟩
   · rcases h2 with h2|⟨rfl,h2⟩
     · exact .inl (ltPl_trans h1 h2)
     · exact .inl h1
   · rcases h2 with h2|⟨rfl,h2⟩
     · exact .inl h2
     · exact .inr ⟨rfl,lexLt_trans h1 h2⟩
theorem lexLt_tri:∀ x y:List Place,lexLt x y∨x=y∨lexLt y x
 | [],[]=> .inr (.inl rfl)
 | [],_::_=> .inl trivial
 | _::_,[]=> .inr (.inr trivial)
 | a::xs,b::ys=>by
   rcases ltPl_tri a b with h|rfl|h
   · exact .inl (.inl h)
   · rcases lexLt_tri xs ys with h|rfl|h
     · exact .inl (.inr ⟨rfl,h⟩)
     · exact .inr (.inl rfl)
     · exact .inr (.inr (.inr ⟨rfl,h⟩))
   · exact .inr (.inr (.inl h))
theorem ltLxT {x y:List Place} : ltOf cmpLx x y=true↔lexLt x y:=by unfold ltOf;rw [decide_eq_true_eq];exact cmpLx_neg
theorem ltLxF {x y:List Place} : ltOf cmpLx x y=false ↔ ¬lexLt x y:=by rw [←ltLxT];simp
theorem totLx (x y:List Place) (h1:ltOf cmpLx x y=false) (h2:ltOf cmpLx y x=false):x=y:=by
 rw [ltLxF] at h1 h2
 rcases lexLt_tri x y with h|h|h
 · exact absurd h h1
 · exact h
 · exact absurd h h2
theorem swoLx:SWO (ltOf cmpLx) where
 irrefl x:=by rw [ltLxF];exact lexLt_irrefl x
 trans x y z h1 h2:=by rw [ltLxT] at *;exact lexLt_trans h1 h2
 ntrans x y z h1 h2:=by
  rw [ltLxF] at *
  intro h
  rcases lexLt_tri x y with e|e|e
  · exact h1 e
  · subst e;exact h2 h
  · exact h2 (lexLt_trans e h)
def geLx (x y:List Place):Bool:= !(ltOf cmpLx) y x
theorem geLx_iff {x y:List Place} : geLx x y=true ↔ ¬lexLt y x:=by unfold geLx;rw [Bool.not_eq_true',ltLxF]
def sortLx (l:List (List Place)):List (List Place):=l.mergeSort fun x y=> !(ltOf cmpLx) y x
theorem sortLx_perm (l:List (List Place)):(sortLx l).Perm l:=List.mergeSort_perm _ _
theorem sortLx_pairwise (l:List (List Place)):(sortLx l).Pairwise (fun a b=>geLx a b=true):=by
 refine List.pairwise_mergeSort (le:=geLx) ?_ ?_ l
 · intro a b c h1 h2
   have:=swoLx.ntrans c b a
   rw [geLx_iff] at *
   rw [ltLxF,ltLxF,ltLxF] at this
   exact this h2 h1
 · intro a b
   rw [Bool.or_eq_true,geLx_iff,geLx_iff]
   rcases lexLt_tri a b with e|e|e
   · exact .inl (fun h=>lexLt_irrefl _ (lexLt_trans e h))
   · subst e;exact .inl (lexLt_irrefl _)
   · exact .inr (fun h=>lexLt_irrefl _ (lexLt_trans e h))
theorem sortLx_eq {l m:List (List Place)} (h:l.Perm m) (hm:m.Pairwise (fun a b=>geLx a b=true)):sortLx l=m:=by
 refine List.Perm.eq_of_pairwise ?_ (sortLx_pairwise l) hm ((sortLx_perm l).trans h)
 intro a b _ _ h1 h2
 rw [geLx_iff] at h1 h2
 exact totLx a b (ltLxF.2 h2) (ltLxF.2 h1)
end Go.Proofs.YtejjplhknacoiaaGreatDoor
end
section
namespace Go.Proofs.YtejjplhknacoiaaGreatDoor
open Go.RowKit Go.Proofs Go.Shelf
def chpStep (ads:List Admit) (en:List Place→Bool) (st:Int×List (List Place)) (bits:Nat):Int×List (List Place):=
 if st.2 ≠ []∧st.1<(setTo ads bits ads.length).2 then st else if en (setTo ads bits ads.length).1=false then st else
  ((setTo ads bits ads.length).2,(if st.2 ≠ []∧(setTo ads bits ads.length).2<st.1 then [] else st.2) ++ [(setTo ads bits ads.length).1])
def chpTo (ads:List Admit) (en:List Place→Bool):Nat→Int×List (List Place)
 | 0=>(0,[])
 | k+1=>chpStep ads en (chpTo ads en k) k
def cheapestM (ads:List Admit) (en:List Place→Bool):Int×List (List Place):=((chpTo ads en (2 ^ ads.length)).1,sortLx (chpTo ads en (2 ^ ads.length)).2)
structure ChpInv (ads:List Admit) (en:List Place→Bool) (K:Nat) (st:Int×List (List Place)):Prop where
 from_:∀ x∈st.2,∃ b,b<K∧x=(setTo ads b ads.length).1∧(setTo ads b ads.length).2=st.1∧en x=true
 all:∀ b,b<K→en (setTo ads b ads.length).1=true→st.2 ≠ []∧st.1≤(setTo ads b ads.length).2∧((setTo ads b ads.length).2=st.1→(setTo ads b ads.length).1∈st.2)
theorem chpInv (ads:List Admit) (en:List Place→Bool):∀ K,ChpInv ads en K (chpTo ads en K)
 | 0=>⟨fun _ h=>by simp [chpTo] at h,fun b h=>absurd h (Nat.not_lt_zero b)⟩
 | K+1=>by
   have ih:=chpInv ads en K
   rw [chpTo]
   rcases hst:chpTo ads en K with ⟨l,out⟩
   rw [hst] at ih
   obtain ⟨h1,h2⟩:=ih
   simp only at h1 h2
   obtain ⟨⟨s,c⟩,hs⟩:∃ p,setTo ads K ads.length=p:=⟨_,rfl⟩
   unfold chpStep
   simp only [hs]
   by_cases g1:out ≠ []∧l<c
   · rw [if_pos g1]
     refine ⟨fun x hx=> ?_,fun b hb he=> ?_⟩
     · obtain ⟨b,a1,a2⟩:=h1 x hx
       exact ⟨b,by omega,a2⟩
     · by_cases e:b=K
       · subst e
         rw [hs]
         exact ⟨g1.1,by simp only;omega,fun h=>by simp only at h;omega⟩
       · exact h2 b (by omega) he
   · rw [if_neg g1]
     by_cases g2:en s=false
     · rw [if_pos g2]
       refine ⟨fun x hx=> ?_,fun b hb he=> ?_⟩
       · obtain ⟨b,a1,a2⟩:=h1 x hx
         exact ⟨b,by omega,a2⟩
       · by_cases e:b=K
         · subst e
           rw [hs] at he
           simp only at he
           rw [g2] at he;cases he
         · exact h2 b (by omega) he
     · rw [if_neg g2]
       have g2':en s=true:=by simpa using g2
       by_cases g3:out ≠ []∧c<l
       · rw [if_pos g3]
         refine ⟨fun x hx=> ?_,fun b hb he=> ?_⟩
         · have:x=s:=by simpa using hx
           subst this
           exact ⟨K,by omega,by rw [hs],by rw [hs],g2'⟩
         · by_cases e:b=K
           · subst e
             rw [hs]
             exact ⟨by simp,Int.le_refl _,fun _=>by simp⟩
           · have:=h2 b (by omega) he
             exact ⟨by simp,by simp only;omega,fun h=>by simp only at h;omega⟩
       · rw [if_neg g3]
         have hc:out ≠ []→c=l:=fun ho=>by
          have a1:¬l<c:=fun e=>g1 ⟨ho,e⟩
          have a2:¬c<l:=fun e=>g3 ⟨ho,e⟩
          omega
         refine ⟨fun x hx=> ?_,fun b hb he=> ?_⟩
         · rcases List.mem_append.1 hx with hx|hx
           · obtain ⟨b,a1,a2,a3,a4⟩:=h1 x hx
             exact ⟨b,by omega,a2,by simp only;rw [hc (fun e=>by rw [e] at hx;cases hx)];exact a3,a4⟩
           · have:x=s:=by simpa using hx
             subst this
             exact ⟨K,by omega,by rw [hs],by rw [hs],g2'⟩
         · by_cases e:b=K
           · subst e
             rw [hs]
             exact ⟨by simp,Int.le_refl _,fun _=>by simp⟩
           · obtain ⟨a1,a2,a3⟩:=h2 b (by omega) he
             have:=hc a1
             refine ⟨by simp,by simp only;omega,fun h=> ?_⟩
             simp only at h ⊢
             exact List.mem_append_left _ (a3 (by omega))
theorem bitOn_test:∀ n,n<256→∀ k,k<8→bitOn n k=n.testBit k:=by decide +kernel
theorem setTo_mem {ads:List Admit} (hn:(ads.map (·.place)).Nodup) (b:Nat):∀ K,K≤ads.length→∀ k x,ads[k]? = some x→(x.place∈(setTo ads b K).1↔k<K∧bitOn b k=true)
 | 0,_,k,x,_=>by simp [setTo]
 | K+1,hK,k,x,hx=>by
   have ih:=setTo_mem hn b K (by omega) k x hx
   have hy:ads[K]? = some ads[K]:=List.getElem?_eq_getElem hK
   have hne:k≠K→x.place≠ads[K].place:=fun h e=>by
    obtain ⟨hk,hxe⟩:=List.getElem?_eq_some_iff.1 hx
    have h3:(ads.map (·.place))[k]'(by simpa using hk)=(ads.map (·.place))[K]'(by rw [List.length_map];exact hK):=by simp [hxe,e]
    exact h ((List.getElem_inj hn).1 h3)
   cases hb:bitOn b K with
   | true=>
     rw [setTo_on hy hb]
     simp only [List.mem_append,List.mem_singleton,ih]
     by_cases e:k=K
     · subst e
       rw [hy] at hx
       cases hx
       simp [hb]
     · constructor
       · rintro (⟨h1,h2⟩|h)
         · exact ⟨by omega,h2⟩
         · exact absurd h (hne e)
       · rintro ⟨h1,h2⟩
         exact .inl ⟨by omega,h2⟩
   | false=>
     rw [setTo_off hy hb,ih]
     constructor
     · rintro ⟨h1,h2⟩;exact ⟨by omega,h2⟩
     · rintro ⟨h1,h2⟩
       refine ⟨?_,h2⟩
       have:k≠K:=fun e=>by subst e;rw [hb] at h2;cases h2
       omega
theorem setTo_inj {ads:List Admit} (hn:(ads.map (·.place)).Nodup) (h8:ads.length≤8) {a b:Nat} (ha:a<2 ^ ads.length) (hb:b<2 ^ ads.length) (h:(setTo ads a ads.length).1=(setTo ads b ads.length).1):a=b:=by
 have h256:2 ^ ads.length≤256:=Nat.pow_le_pow_right (by omega) h8
 apply Nat.eq_of_testBit_eq
 intro k
 by_cases hk:k<ads.length
 · have h1:=setTo_mem hn a _ (Nat.le_refl _) k _ (List.getElem?_eq_getElem hk)
   have h2:=setTo_mem hn b _ (Nat.le_refl _) k _ (List.getElem?_eq_getElem hk)
   rw [h,h2] at h1
   rw [←bitOn_test a (by omega) k (by omega),←bitOn_test b (by omega) k (by omega)]
   cases e1:bitOn a k<;>cases e2:bitOn b k<;>simp_all
 · have p:2 ^ ads.length≤2 ^ k:=Nat.pow_le_pow_right (by omega) (by omega)
   rw [Nat.testBit_lt_two_pow (by omega),Nat.testBit_lt_two_pow (by omega)]
theorem chpTo_nodup {ads:List Admit} (hn:(ads.map (·.place)).Nodup) (h8:ads.length≤8) (en:List Place→Bool):∀ K,K≤2 ^ ads.length→(chpTo ads en K).2.Nodup
 | 0,_=>by simp [chpTo]
 | K+1,hK=>by
   have ih:=chpTo_nodup hn h8 en K (by omega)
   have hinv:=(chpInv ads en K).from_
   rw [chpTo]
   unfold chpStep
   split
   · exact ih
   · split
     · exact ih
     · split
       · simp
       · simp only
         rw [List.nodup_append]
         refine ⟨ih,by simp,fun x hx y hy e=> ?_⟩
         obtain ⟨b,h1,h2,_⟩:=hinv x hx
         have hy':y=(setTo ads K ads.length).1:=by simpa using hy
         have:=setTo_inj hn h8 (a:=b) (b:=K) (by omega) (by omega) (by rw [←h2,←hy',e])
         omega
theorem chpTo_len (ads:List Admit) (en:List Place→Bool):∀ K,(chpTo ads en K).2.length≤K
 | 0=>by simp [chpTo]
 | K+1=>by
   have ih:=chpTo_len ads en K
   rw [chpTo]
   unfold chpStep
   split
   · omega
   · split
     · omega
     · split
       · simp
       · simp;omega
open Go.Sort
theorem Grew.rd {α:Type} {enc:α→List Value} {k:Nat} {w w':World} {A:Option Addr} {n c:Nat} {xs:List α} (h:Rd enc k w A n c xs) (hg:Grew w w'):Rd enc k w' A n c xs:=h.below hg.below (Nat.le_refl _)
theorem CompareFunc_any (A1:Option Addr) (n1 c1:Nat) (xs:List Place) (A2:Option Addr) (n2 c2:Nat) (ys:List Place) (w:World) (h1:Rd encPlace 2 w A1 n1 c1 xs) (h2:Rd encPlace 2 w A2 n2 c2 ys):
 Calls Tryz.prog 69 #[.slice A1 n1 c1,.slice A2 n2 c2,.func (.func 55) #[] #[]] w fun e w'=>e = .returned (.int .i64 (cmpLx xs ys))∧Grew w w':=by
 have H1:=Lib.hid h1
 have H2:=Lib.hid h2
 have HL1:=Lib.hid h1.len
 have HL2:=Lib.hid h2.len
 have hbig1:=h1.big
 have hbig2:=h2.big
 clear h1 h2
 go_enter Tryz.func69,Tryz.ntmps69
 go_wp2
 go_loopw [13] (fun i wr=> ∃ k:Nat,k≤n1∧k≤n2∧i = .int .i64 k∧Hid (Grew w wr)∧Hid (cmpLx xs ys=cmpLx (xs.drop k) (ys.drop k))) (fun i _=>n1-(intOf i).toNat)
 case atStart=>exact ⟨0,Nat.zero_le _,Nat.zero_le _,rfl,(show Grew w w from Grew.refl w),(show _=_ from rfl)⟩
 case round=>
  obtain ⟨k,hk1,hk2,rfl,hg,hc⟩:=hrel
  by_cases hlt:k<n1
  · obtain ⟨b,off,x,rfl,hbw,hx,hcell⟩:=(Grew.rd H1.out hg.out).one hlt
    have c0:wr.cell? ⟨b,off+k * 2,none⟩=some (.int .i64 x.pit):=hcell 0 _ rfl
    have c1':wr.cell? ⟨b,off+k * 2+1,none⟩=some (.int .i64 x.layer):=hcell 1 _ rfl
    have hdx:xs.drop k=x::xs.drop (k+1):=by rw [List.drop_eq_getElem_cons (by rw [HL1.out];exact hlt)];rw [(List.getElem?_eq_some_iff.1 hx).2]
    by_cases hlt2:k<n2
    · obtain ⟨b2,off2,y,rfl,hbw2,hy,hcell2⟩:=(Grew.rd H2.out hg.out).one hlt2
      have d0:wr.cell? ⟨b2,off2+k * 2,none⟩=some (.int .i64 y.pit):=hcell2 0 _ rfl
      have d1:wr.cell? ⟨b2,off2+k * 2+1,none⟩=some (.int .i64 y.layer):=hcell2 1 _ rfl
      have hdy:ys.drop k=y::ys.drop (k+1):=by rw [List.drop_eq_getElem_cons (by rw [HL2.out];exact hlt2)];rw [(List.getElem?_eq_some_iff.1 hy).2]
      have hstep:=hc.out
      rw [hdx,hdy,cmpLx] at hstep
      obtain ⟨v,hv⟩:∃ v,comparePl x y=v:=⟨_,rfl⟩
      rw [hv] at hstep
      have HST:=Lib.hid hstep
      have HV:=Lib.hid hv
      clear hcell hcell2 hx hy hdx hdy hstep hv
      by_cases hv0:v=0
      · have hv1:(v != 0)=false:=by simpa using hv0
        go_wp2_with ((first|go_at_call 55|go_at_fn 55);(refine (compare_any _ _ _ _ _).mono ?_;rintro e w5 ⟨rfl,hg5⟩;rw [show comparePl ⟨x.pit,x.layer⟩ ⟨y.pit,y.layer⟩=v from HV.out];have HG5:=Lib.hid hg5;clear hg5))
        go_roundw
        all_goals first
         | (simp [intOf];omega)
         | exact ⟨k+1,by omega,by omega,by go_num,(show Grew _ _ from ((hg.out.alloc _).alloc _).trans HG5.out),(show _=_ by rw [HST.out,if_neg (by simpa using hv0)])⟩
      · have hv1:(v != 0)=true:=by simpa using hv0
        go_wp2_with ((first|go_at_call 55|go_at_fn 55);(refine (compare_any _ _ _ _ _).mono ?_;rintro e w5 ⟨rfl,hg5⟩;rw [show comparePl ⟨x.pit,x.layer⟩ ⟨y.pit,y.layer⟩=v from HV.out];have HG5:=Lib.hid hg5;clear hg5))
        go_ret
        exact ⟨retI (by rw [HST.out,if_pos hv0]),((hg.out.alloc _).alloc _).trans HG5.out⟩
    · have hke:k=n2:=by omega
      subst hke
      have hdy:ys.drop k = []:=List.drop_eq_nil_of_le (by rw [HL2.out];exact Nat.le_refl _)
      have hstep:=hc.out
      rw [hdx,hdy,cmpLx] at hstep
      have HST:=Lib.hid hstep
      clear hcell hx hdx hdy hstep
      go_wp2
      go_ret
      exact ⟨retI HST.out.symm,hg.out.alloc _⟩
  · have hke:k=n1:=by omega
    subst hke
    have hdx:xs.drop k = []:=List.drop_eq_nil_of_le (by rw [HL1.out];exact Nat.le_refl _)
    by_cases hlt2:k<n2
    · obtain ⟨y,hy⟩:∃ y,ys[k]? = some y:=⟨_,List.getElem?_eq_getElem (by rw [HL2.out];exact hlt2)⟩
      have hdy:ys.drop k=y::ys.drop (k+1):=by rw [List.drop_eq_getElem_cons (by rw [HL2.out];exact hlt2)];rw [(List.getElem?_eq_some_iff.1 hy).2]
      have hstep:=hc.out
      rw [hdx,hdy,cmpLx] at hstep
      have HST:=Lib.hid hstep
      clear hdx hdy hstep hy
      go_wp2
      go_ret
      exact ⟨retI HST.out.symm,hg.out⟩
    · have hke:k=n2:=by omega
      subst hke
      have hdy:ys.drop k = []:=List.drop_eq_nil_of_le (by rw [HL2.out];exact Nat.le_refl _)
      have hstep:=hc.out
      rw [hdx,hdy,cmpLx] at hstep
      have HST:=Lib.hid hstep
      clear hdx hdy hstep
      go_wp2
      go_ret
      exact ⟨retI HST.out.symm,hg.out⟩
theorem cheap1_any (A1:Option Addr) (n1 c1:Nat) (xs:List Place) (A2:Option Addr) (n2 c2:Nat) (ys:List Place) (w:World) (h1:Rd encPlace 2 w A1 n1 c1 xs) (h2:Rd encPlace 2 w A2 n2 c2 ys):
 Calls Tryz.prog 68 #[.slice A1 n1 c1,.slice A2 n2 c2] w fun e w'=>e = .returned (.int .i64 (cmpLx xs ys))∧Grew w w':=by
 have HC:=Lib.hid (CompareFunc_any A1 n1 c1 xs A2 n2 c2 ys w h1 h2)
 clear h1 h2
 go_enter Tryz.func68,Tryz.ntmps68
 go_wp2_with (go_at_call 69;((with_reducible refine HC.out.mono ?_);rintro e w5 ⟨rfl,hg5⟩))
 go_ret
 exact ⟨rfl,hg5⟩
end Go.Proofs.YtejjplhknacoiaaGreatDoor
end
section
namespace Go.Proofs.YtejjplhknacoiaaGreatDoor
open Go.RowKit Go.Proofs
section
variable {P:Program} {F:Fence} {nn:Nat} {ops:Array Oper} {V:Nat→Value} {a0:Act}
def dstOf (ops:Array Oper) (j:Nat):Option Tmp:=(ops[j]?).bind (·.dst)
structure TabAt (ops:Array Oper) (V:Nat→Value) (a0:Act) (listed:Array Bool) (a:Act):Prop where
 size:listed.size=ops.size
 closed:∀ j o,ops[j]? = some o→listed.getD j false=true→∀ e∈o.after,Region.binds .any e=true→listed.getD e.on false=true
 tsize:a.tmps.size=a0.tmps.size
 defers:a.defers=a0.defers
 val:∀ j d,dstOf ops j=some d→listed.getD j false=true→a.tmps.getD d undef=V j
 old:∀ d,(∀ j,dstOf ops j≠some d)→a.tmps.getD d undef=a0.tmps.getD d undef
def tabOk (ops:Array Oper) (m:Nat):Bool:=
 (List.range ops.size).all fun j=>match ops[j]? with
   | none=>true
   | some o=>o.guard.isNone&&(match o.op with | .defer _=>false|_=>true)&&o.after.all (fun e=> !Region.binds .any e||decide (e.on<j)) &&
     (match o.dst with
      | none=>true
      | some d=>decide (d<m)&&(List.range ops.size).all fun k=>k==j||dstOf ops k != some d)
theorem tabOk_at {m:Nat} (h:tabOk ops m=true) {j:Nat} {o:Oper} (hj:ops[j]? = some o):
 o.guard=none∧(∀ c,o.op ≠ .defer c)∧(∀ e∈o.after,Region.binds .any e=true→e.on<j)∧∀ d,o.dst=some d→d<m∧∀ k,k<ops.size→k≠j→dstOf ops k≠some d:=by
 have hlt:j<ops.size:=(Array.getElem?_eq_some_iff.1 hj).1
 have h1:=List.all_eq_true.1 h j (List.mem_range.2 hlt)
 simp only [hj,Bool.and_eq_true] at h1
 obtain ⟨⟨⟨g,df⟩,ed⟩,ds⟩:=h1
 refine ⟨by simpa using g,fun c hc=>(by rw [hc] at df;cases df),fun e he hb=> ?_,fun d hd=> ?_⟩
 · have:=Array.all_eq_true_iff_forall_mem.1 ed e he
   simpa [hb] using this
 · rw [hd] at ds
   simp only [Bool.and_eq_true,decide_eq_true_eq] at ds
   refine ⟨ds.1,fun k hk hkj=> ?_⟩
   have:=List.all_eq_true.1 ds.2 k (List.mem_range.2 hk)
   simp only [Bool.or_eq_true,beq_iff_eq,bne_iff_ne] at this
   rcases this with h|h
   · exact absurd h hkj
   · exact h
def left (listed:Array Bool):Nat:=(listed.toList.filter (fun b=> !b)).length
theorem filter_set {l:List Bool} :∀ {i:Nat},l[i]? = some false→(l.filter (fun b=> !b)).length=((l.set i true).filter (fun b=> !b)).length+1:=by
 induction l with
 | nil=>intro i h;simp at h
 | cons x l ih=>
   intro i h
   cases i with
   | zero=>
     simp only [List.getElem?_cons_zero,Option.some.injEq] at h
     subst h
     simp
   | succ i=>
     simp only [List.getElem?_cons_succ] at h
     have:=ih h
     cases x<;>simp [this]
theorem left_set {listed:Array Bool} {i:Nat} (hi:listed[i]? = some false):left listed=left (listed.setIfInBounds i true)+1:=by
 unfold left
 rw [Array.toList_setIfInBounds]
 exact filter_set (by simpa using hi)
theorem left_zero {listed:Array Bool} (h:left listed=0):listed=Array.replicate listed.size true:=by
 unfold left at h
 have h1:listed.toList.filter (fun b=> !b) = []:=List.eq_nil_of_length_eq_zero h
 rw [List.filter_eq_nil_iff] at h1
 apply Array.ext
 · simp
 · intro i h2 h3
   have:=h1 listed[i] (by simp)
   simpa using this
theorem left_pos {listed:Array Bool} (h:0<left listed):∃ i:Nat,listed[i]? = some false∧∀ j:Nat,j<i→listed[j]? = some true:=by
 obtain ⟨x,hx⟩:∃ i:Nat,listed[i]? = some false:=by
  unfold left at h
  obtain ⟨b,hb⟩:=List.exists_mem_of_length_pos h
  rw [List.mem_filter] at hb
  obtain ⟨i,hi,he⟩:=List.getElem_of_mem hb.1
  have hbf:b=false:=by simpa using hb.2
  subst hbf
  exact ⟨i,by rw [Array.getElem?_eq_getElem (by simpa using hi)];simpa using he⟩
 induction x using Nat.strongRecOn with
 | _ x ih=>
   by_cases hq:∃ j,j<x∧listed[j]? = some false
   · obtain ⟨j,hj,hj2⟩:=hq
     exact ih j hj hj2
   · refine ⟨x,hx,fun j hj=> ?_⟩
     have hjs:j<listed.size:=by have:=(Array.getElem?_eq_some_iff.1 hx).1;omega
     rw [Array.getElem?_eq_getElem hjs]
     cases hv:listed[j] with
     | true=>rfl
     | false=>exact absurd ⟨j,hj,by rw [Array.getElem?_eq_getElem hjs,hv]⟩ hq
theorem TabAt.set {m i:Nat} {o:Oper} {listed:Array Bool} {b:Act} (hok:tabOk ops m=true) (hm:m=a0.tmps.size) (h:TabAt ops V a0 listed b) (hi:i∈Region.ready .any ops listed) (ho:ops[i]? = some o):
 TabAt ops V a0 (listed.setIfInBounds i true) (b.put o.dst (V i)):=by
 obtain ⟨hun,oi,hoi,hall⟩:=mem_ready.1 hi
 have:oi=o:=Option.some.inj (hoi.symm.trans ho)
 subst this
 obtain ⟨_,_,_,hd⟩:=tabOk_at hok ho
 have hput:∀ d,oi.dst≠some d→(b.put oi.dst (V i)).tmps.getD d undef=b.tmps.getD d undef:=by
  intro d hne
  cases hdst:oi.dst with
  | none=>rfl
  | some d'=>
    have hdd:d'≠d:=fun e=>hne (by rw [hdst,e])
    simp only [Act.put,Array.getD_eq_getD_getElem?,Array.getElem?_setIfInBounds_ne hdd]
 refine ⟨by simp [h.size],fun j oj hj hl e he hb=> ?_,?_,?_,fun j d hjd hl=> ?_,fun d hno=> ?_⟩
 · by_cases hij:i=j
   · subst hij
     have:oj=oi:=Option.some.inj (hj.symm.trans ho)
     subst this
     exact getD_set_true (hall e he hb)
   · rw [getD_set_ne false hij] at hl
     exact getD_set_true (h.closed j oj hj hl e he hb)
 · rw [←h.tsize];cases oi.dst<;>simp [Act.put]
 · rw [←h.defers];cases oi.dst<;>rfl
 · by_cases hij:i=j
   · subst hij
     have hdd:oi.dst=some d:=by simpa [dstOf,ho] using hjd
     obtain ⟨hlt,_⟩:=hd d hdd
     have:d<b.tmps.size:=by rw [h.tsize,←hm];exact hlt
     simp [Act.put,hdd,this]
   · rw [getD_set_ne false hij] at hl
     rw [hput d,h.val j d hjd hl]
     intro hdd
     have hjs:j<ops.size:=by
      rcases Nat.lt_or_ge j ops.size with h|h
      · exact h
      · simp [dstOf,Array.getElem?_eq_none h] at hjd
     exact (hd d hdd).2 j hjs (Ne.symm hij) hjd
 · rw [hput d (fun e=>hno i (by simp [dstOf,ho,e])),h.old d hno]
theorem wpAnyIn_tab {Q:Exit→Act→World→Prop} {m:Nat} (hF:∀ f,F.fn f) (hok:tabOk ops m=true) (hm:m=a0.tmps.size) (Wf:Array Bool→World)
 (hrun:∀ listed i o b,i∈Region.ready .any ops listed→ops[i]? = some o→TabAt ops V a0 listed b→
   (execOp b.eval o).run P (Wf listed) = .ok (.value (V i)) (Wf (listed.setIfInBounds i true))∨((execOp b.eval o).run P (Wf listed) = .ok .skip (Wf (listed.setIfInBounds i true))∧V i=undef))
 (hend:∀ b,TabAt ops V a0 (Array.replicate ops.size true) b→Q .normal b (Wf (Array.replicate ops.size true))):
 ∀ (fuel:Nat) (listed:Array Bool) (b:Act),left listed=fuel→TabAt ops V a0 listed b→wpAnyIn F nn P .any ops Q fuel listed b (Wf listed):=by
 intro fuel
 induction fuel with
 | zero=>
   intro listed b hl h
   have hall:=left_zero hl
   rw [h.size] at hall
   refine ⟨?_,by rw [hall];exact hend b (hall ▸ h)⟩
   apply List.eq_nil_iff_forall_not_mem.2
   intro i hi
   obtain ⟨hun,o,ho,_⟩:=mem_ready.1 hi
   have hlt:i<ops.size:=(Array.getElem?_eq_some_iff.1 ho).1
   rw [hall] at hun
   simp [hlt] at hun
 | succ fuel ih=>
   intro listed b hl h
   refine ⟨fun hnil=> ?_,fun i hi=> ?_⟩
   · obtain ⟨i,hi,hmin⟩:=left_pos (listed:=listed) (by omega)
     have hlt:i<ops.size:=by rw [←h.size];exact (Array.getElem?_eq_some_iff.1 hi).1
     have ho:ops[i]? = some ops[i]:=Array.getElem?_eq_getElem hlt
     obtain ⟨_,_,hed,_⟩:=tabOk_at hok ho
     have:i∈Region.ready .any ops listed:=mem_ready.2 ⟨by simp [hi],ops[i],ho,fun e he hbd=>by have:=hmin e.on (hed e he hbd);simp [this]⟩
     rw [hnil] at this
     cases this
   · obtain ⟨hun,o,ho,hall⟩:=mem_ready.1 hi
     obtain ⟨hg,hdf,_,_⟩:=tabOk_at hok ho
     have hlt:i<listed.size:=by rw [h.size];exact (Array.getElem?_eq_some_iff.1 ho).1
     have hf:listed[i]? = some false:=by
      rw [Array.getElem?_eq_getElem hlt]
      simp [hlt] at hun
      rw [hun]
     have hl':left (listed.setIfInBounds i true)=fuel:=by have:=left_set hf;omega
     have hnext:=ih _ _ hl' (h.set hok hm hi ho)
     have hw:Region.wanted o (yielded ops b.tmps)=true:=by simp [Region.wanted,hg]
     unfold wpOpIn
     simp only [ho,hw,if_true]
     refine ⟨fun f _=>hF f,?_⟩
     rw [Oper.semAt_eq _ _ _ hdf]
     rcases hrun listed i o b hi ho h with hr|⟨hr,hv⟩
     · rw [hr];exact hnext
     · rw [hr];rw [hv] at hnext;exact hnext
theorem wpIn_region_tab {id:Nat} {l:List Oper} {Q:Exit→Act→World→Prop} {a:Act} {w:World} (hm:P.follows .mixedOrders=true) (hF:∀ f,F.fn f) (V:Nat→Value) (Wf:Array Bool→World) (hok:tabOk l.toArray a.tmps.size=true)
 (h0:Wf (Array.replicate l.toArray.size false)=w.drew)
 (hrun:∀ listed i o b,i∈Region.ready .any l.toArray listed→l.toArray[i]? = some o→TabAt l.toArray V a listed b→
   (execOp b.eval o).run P (Wf listed) = .ok (.value (V i)) (Wf (listed.setIfInBounds i true))∨((execOp b.eval o).run P (Wf listed) = .ok .skip (Wf (listed.setIfInBounds i true))∧V i=undef))
 (hend:∀ b,TabAt l.toArray V a (Array.replicate l.toArray.size true) b→Q .normal b (Wf (Array.replicate l.toArray.size true))):
 (Code.region id l.toArray true).wpIn F nn P Q a w:=by
 refine wpIn_region_any hm ?_
 have hw:({ w with drawn:=w.drawn+1 } : World)=Wf (Array.replicate l.toArray.size false):=h0.symm
 rw [hw]
 refine wpAnyIn_tab hF hok rfl Wf hrun hend _ _ _ ?_ ⟨by simp,fun j o _ hl=> ?_,rfl,rfl,fun j d _ hl=> ?_,fun _ _=>rfl⟩
 · have h2:∀ k,(List.filter (fun b=> !b) (List.replicate k false)).length=k:=by
    intro k
    rw [List.filter_eq_self.2 (fun b hb=>by rw [List.eq_of_mem_replicate hb];rfl),List.length_replicate]
   unfold left
   rw [Array.toList_replicate]
   exact h2 _
 · rw [getD_replicate_false] at hl;cases hl
 · rw [getD_replicate_false] at hl;cases hl
end
end Go.Proofs.YtejjplhknacoiaaGreatDoor
end

/- Contracts that the laws lean on: Pred, Gw1, Still, Relax, Tab. -/
import Derived.Test.YtpmkgmilfifkpaaGreatDoorDE01
import Derived.Shelf.Abstract
import Derived.StillTailTactics
import Derived.OrdersIn
import Derived.RangeFuncGives
set_option maxRecDepth 100000
set_option maxHeartbeats 2000000
section
namespace Go.Proofs.YtpmkgmilfifkpaaGreatDoor
open Go.RowKit Go.Proofs Go.Shelf
def PredB {α:Type} (P:Program) (g:Nat) (lb:Array Value) (enc:α→Value) (p:α→Bool) (w:World):Prop:=
 ∀ (W:World) (x:α),Below w.heap.size w W→Calls P g (#[enc x]++lb) W fun e w'=>e = .returned (.bool (p x))∧Below w.heap.size w w'
theorem PredB.drewN {α:Type} {P:Program} {g:Nat} {lb:Array Value} {enc:α→Value} {p:α→Bool} {w:World} (h:PredB P g lb enc p w) (m:Nat):PredB P g lb enc p (w.drewN m):=
 fun W x hb=>(h W x (below_step hb (Nat.le_refl _) (below_drewN' (Below.refl _ _) m))).mono fun _ _ ⟨he,hb'⟩=>⟨he,⟨hb'.os,hb'.tape,hb'.output,hb'.size,hb'.block⟩⟩
def idxI {α:Type} (p:α→Bool) (l:List α):Int:=match l.findIdx? p with|some i=>(i:Int)|none=> -1
theorem idxI_hit {α:Type} (p:α→Bool) (l:List α) (k:Nat) (x:α) (hx:l[k]? = some x) (hp:p x=true) (hno:∀ j y,j<k→l[j]? = some y→p y=false):idxI p l=(k:Int):=by
 have h:l.findIdx? p=some k:=by
  rw [List.findIdx?_eq_some_iff_getElem]
  have hk:=(List.getElem?_eq_some_iff.1 hx).1
  refine ⟨hk,?_,fun j hj=> ?_⟩
  · have:=(List.getElem?_eq_some_iff.1 hx).2;rw [this];exact hp
  · have:=hno j l[j] hj (List.getElem?_eq_getElem _)
    simp [this]
 simp [idxI,h]
theorem idxI_miss {α:Type} (p:α→Bool) (l:List α) (hno:∀ (j:Nat) y,l[j]? = some y→p y=false):idxI p l = -1:=by
 have h:l.findIdx? p=none:=by
  rw [List.findIdx?_eq_none_iff]
  intro x hx
  obtain ⟨i,hi,h⟩:=List.getElem_of_mem hx
  exact hno i x (by rw [List.getElem?_eq_getElem hi,h])
 simp [idxI,h]
theorem idxI_any {α:Type} (p:α→Bool) (l:List α):decide (0≤idxI p l)=l.any p:=by
 unfold idxI
 cases h:l.findIdx? p with
 | none=>
   rw [List.findIdx?_eq_none_iff] at h
   have:l.any p=false:=by simp only [List.any_eq_false];intro x hx;simp [h x hx]
   simp [this]
 | some i=>
   rw [List.findIdx?_eq_some_iff_getElem] at h
   obtain ⟨hi,hp,_⟩:=h
   have:l.any p=true:=List.any_eq_true.2 ⟨l[i],List.getElem_mem hi,hp⟩
   simp [this]
theorem IndexFunc_Bound (g:Nat) (lb:Array Value) (eg:∀ args w,(callFunc g args).run Tryz.prog w = .ok (.enter g args) w) (p:Bound→Bool) (A:Option Addr) (n c:Nat) (l:List Bound) (w:World)
 (hl:Rd encBound 4 w A n c l) (hp:PredB Tryz.prog g lb (fun x=> .agg (encBound x).toArray) p w):
 Calls Tryz.prog 140 #[.slice A n c,.func (.func g) #[] lb] w fun e w'=>e = .returned (.int .i64 (idxI p l))∧Below w.heap.size w w':=by
 have hbig:=hl.big
 go_enter Tryz.func140,Tryz.ntmps140
 go_wp2
 go_loopw [5,8] (fun _ i wr=> ∃ k:Nat,k≤n∧i = .int .i64 k∧Below w.heap.size w wr∧Hid (∀ j x,j<k→l[j]? = some x→p x=false)) (fun _ i _=>n-(intOf i).toNat)
 case atStart=>exact ⟨0,Nat.zero_le _,rfl,Below.refl _ _,fun j x h=>absurd h (by omega)⟩
 case round=>
  obtain ⟨k,hk,rfl,hb,hno⟩:=hrel
  by_cases hlt:k<n
  · obtain ⟨b,off,x,rfl,hbw,hx,hcell⟩:=(hl.below hb (Nat.le_refl _)).one hlt
    have hlen:=hl.len
    have c0:wr.cell? ⟨b,off+k * 4,none⟩=some (.int .i64 x.src):=hcell 0 _ rfl
    have c1:wr.cell? ⟨b,off+k * 4+1,none⟩=some (.int .i64 x.dst):=hcell 1 _ rfl
    have c2:wr.cell? ⟨b,off+k * 4+2,none⟩=some (.int .i64 x.most):=hcell 2 _ rfl
    have c3:wr.cell? ⟨b,off+k * 4+3,none⟩=some (.int .i64 x.by_):=hcell 3 _ rfl
    have hcall:=hp wr x hb
    simp only [encBound] at hcall
    clear hcell hp hl
    cases hq:p x with
    | true=>
      rw [hq] at hcall
      have HQ:=Lib.hid hq
      have HX:=Lib.hid hx
      have HL:=Lib.hid hlen
      clear hq hx hlen
      go_wp2_with (go_at_fn g;refine hcall.mono ?_;rintro e w' ⟨rfl,hb'⟩)
      go_ret
      refine ⟨?_,hb'⟩
      rw [idxI_hit p l k x HX.out HQ.out hno.out]
      rfl
    | false=>
      rw [hq] at hcall
      have HQ:=Lib.hid hq
      have HX:=Lib.hid hx
      have HL:=Lib.hid hlen
      clear hq hx hlen
      go_wp2_with (go_at_fn g;refine hcall.mono ?_;rintro e w' ⟨rfl,hb'⟩)
      go_roundw
      case rel=>
       refine ⟨k+1,by omega,by go_num,hb',fun j y hj hy=> ?_⟩
       by_cases e:j=k
       · subst e
         rw [HX.out] at hy
         cases hy
         exact HQ.out
       · exact hno.out j y (by omega) hy
      case measure=>simp [intOf];omega
  · have:k=n:=by omega
    subst this
    have hlen:=hl.len
    go_wp2
    go_ret
    refine ⟨?_,hb⟩
    rw [idxI_miss p l (fun j x hj=>hno.out j x (by have:=(List.getElem?_eq_some_iff.1 hj).1;omega) hj)]
    rfl
theorem ContainsFunc_Bound (g:Nat) (lb:Array Value) (eg:∀ args w,(callFunc g args).run Tryz.prog w = .ok (.enter g args) w) (p:Bound→Bool) (A:Option Addr) (n c:Nat) (l:List Bound) (w:World)
 (hl:Rd encBound 4 w A n c l) (hp:PredB Tryz.prog g lb (fun x=> .agg (encBound x).toArray) p w):
 Calls Tryz.prog 110 #[.slice A n c,.func (.func g) #[] lb] w fun e w'=>e = .returned (.bool (l.any p))∧Below w.heap.size w w':=by
 have hI:=idxI_any p l
 go_enter Tryz.func110,Tryz.ntmps110
 go_wp2_with (go_at_call 140;refine (IndexFunc_Bound g lb eg p A n c l _ hl hp).mono ?_;rintro e w' ⟨rfl,hb'⟩)
 go_ret
 exact ⟨by rw [←hI];rfl,hb'⟩
theorem IndexFunc_Int (g:Nat) (lb:Array Value) (eg:∀ args w,(callFunc g args).run Tryz.prog w = .ok (.enter g args) w) (p:Int→Bool) (A:Option Addr) (n c:Nat) (l:List Int) (w:World)
 (hl:Rd encInt 1 w A n c l) (hp:PredB Tryz.prog g lb (fun x:Int=> .int .i64 x) p w):
 Calls Tryz.prog 73 #[.slice A n c,.func (.func g) #[] lb] w fun e w'=>e = .returned (.int .i64 (idxI p l))∧Below w.heap.size w w':=by
 have hbig:=hl.big
 go_enter Tryz.func73,Tryz.ntmps73
 go_wp2
 go_loopw [5,8] (fun _ i wr=> ∃ k:Nat,k≤n∧i = .int .i64 k∧Below w.heap.size w wr∧Hid (∀ j x,j<k→l[j]? = some x→p x=false)) (fun _ i _=>n-(intOf i).toNat)
 case atStart=>exact ⟨0,Nat.zero_le _,rfl,Below.refl _ _,fun j x h=>absurd h (by omega)⟩
 case round=>
  obtain ⟨k,hk,rfl,hb,hno⟩:=hrel
  by_cases hlt:k<n
  · obtain ⟨b,off,x,rfl,hbw,hx,hcell⟩:=(hl.below hb (Nat.le_refl _)).one hlt
    have hlen:=hl.len
    have c0:wr.cell? ⟨b,off+k,none⟩=some (.int .i64 x):=(by have:=hcell 0 (.int .i64 x) rfl;rw [Nat.mul_one,Nat.add_zero] at this;exact this)
    have hcall:=hp wr x hb
    try simp only at hcall
    clear hcell hp hl
    cases hq:p x with
    | true=>
      rw [hq] at hcall
      have HQ:=Lib.hid hq
      have HX:=Lib.hid hx
      have HL:=Lib.hid hlen
      clear hq hx hlen
      go_wp2_with (go_at_fn g;refine hcall.mono ?_;rintro e w' ⟨rfl,hb'⟩)
      go_ret
      refine ⟨?_,hb'⟩
      rw [idxI_hit p l k x HX.out HQ.out hno.out]
      rfl
    | false=>
      rw [hq] at hcall
      have HQ:=Lib.hid hq
      have HX:=Lib.hid hx
      have HL:=Lib.hid hlen
      clear hq hx hlen
      go_wp2_with (go_at_fn g;refine hcall.mono ?_;rintro e w' ⟨rfl,hb'⟩)
      go_roundw
      case rel=>
       refine ⟨k+1,by omega,by go_num,hb',fun j y hj hy=> ?_⟩
       by_cases e:j=k
       · subst e
         rw [HX.out] at hy
         cases hy
         exact HQ.out
       · exact hno.out j y (by omega) hy
      case measure=>simp [intOf];omega
  · have:k=n:=by omega
    subst this
    have hlen:=hl.len
    go_wp2
    go_ret
    refine ⟨?_,hb⟩
    rw [idxI_miss p l (fun j x hj=>hno.out j x (by have:=(List.getElem?_eq_some_iff.1 hj).1;omega) hj)]
    rfl
theorem ContainsFunc_Int (g:Nat) (lb:Array Value) (eg:∀ args w,(callFunc g args).run Tryz.prog w = .ok (.enter g args) w) (p:Int→Bool) (A:Option Addr) (n c:Nat) (l:List Int) (w:World)
 (hl:Rd encInt 1 w A n c l) (hp:PredB Tryz.prog g lb (fun x:Int=> .int .i64 x) p w):
 Calls Tryz.prog 45 #[.slice A n c,.func (.func g) #[] lb] w fun e w'=>e = .returned (.bool (l.any p))∧Below w.heap.size w w':=by
 have hI:=idxI_any p l
 go_enter Tryz.func45,Tryz.ntmps45
 go_wp2_with (go_at_call 73;refine (IndexFunc_Int g lb eg p A n c l _ hl hp).mono ?_;rintro e w' ⟨rfl,hb'⟩)
 go_ret
 exact ⟨by rw [←hI];rfl,hb'⟩
theorem withinB_iff {n low high:Int} : withinB n low high=true↔low≤n∧n≤high:=by simp [withinB]
theorem within_any (n low high:Int) (w:World):
 Calls Tryz.prog 79 #[.int .i64 n,.int .i64 low,.int .i64 high] w fun e w'=>e = .returned (.bool (withinB n low high))∧w'=w:=by
 by_cases h:low≤n
 · go_enter Tryz.func79,Tryz.ntmps79
   go_wp2
   go_ret
   exact ⟨by simp [withinB,h],rfl⟩
 · go_enter Tryz.func79,Tryz.ntmps79
   go_wp2
   go_ret
   exact ⟨by simp [withinB];omega,rfl⟩
theorem wrongpred (pts:Int) (_:Option Addr) (_ _:Nat) (bx:Nat) (w:World) (hlt:bx<w.heap.size) (h0:w.cell? ⟨bx,0,none⟩=some (.int .i64 pts)) (hp1:1≤pts) (hp2:pts≤60):
 PredB Tryz.prog 109 #[.pointer (some ⟨bx,0,none⟩)] (fun x=> .agg (encBound x).toArray) (wrongB pts) w:=by
 intro W x hb
 have c0:W.cell? ⟨bx,0,none⟩=some (.int .i64 pts):=(hb.cell (p:=⟨bx,0,none⟩) hlt).trans h0
 have hlt2:bx<W.heap.size:=by have:=hb.size;omega
 simp only [encBound,List.append_toArray,List.cons_append,List.nil_append]
 cases a1:withinB x.src 0 (pts-1)
 · go_enter Tryz.func109,Tryz.ntmps109
   go_wp2_with (go_at_call 79;refine (within_any _ _ _ _).mono ?_;rintro e w' ⟨rfl,rfl⟩;try simp only [a1])
   go_ret
   exact ⟨by simp [wrongB,a1],hb.alloc hb.size _⟩
 · cases a2:withinB x.dst 0 (pts-1)
   · go_enter Tryz.func109,Tryz.ntmps109
     go_wp2_with (go_at_call 79;refine (within_any _ _ _ _).mono ?_;rintro e w' ⟨rfl,rfl⟩;try simp only [a1,a2])
     go_ret
     exact ⟨by simp [wrongB,a1,a2],hb.alloc hb.size _⟩
   · by_cases a3:x.src=x.dst
     · have a3':(x.src==x.dst)=true:=by simpa using a3
       have HA:=Lib.hid a3
       clear a3
       go_enter Tryz.func109,Tryz.ntmps109
       go_wp2_with (go_at_call 79;refine (within_any _ _ _ _).mono ?_;rintro e w' ⟨rfl,rfl⟩;try simp only [a1,a2])
       go_ret
       exact ⟨by simp [wrongB,a2,HA.out],hb.alloc hb.size _⟩
     · have a3':(x.src==x.dst)=false:=by simpa using a3
       cases a4:withinB x.most (-1000000) 1000000
       · go_enter Tryz.func109,Tryz.ntmps109
         go_wp2_with (go_at_call 79;refine (within_any _ _ _ _).mono ?_;rintro e w' ⟨rfl,rfl⟩;try simp only [a1,a2,a4])
         go_ret
         exact ⟨by simp [wrongB,a1,a2,a3,a4],hb.alloc hb.size _⟩
       · cases a5:withinB x.by_ 0 1000000
         all_goals
          go_enter Tryz.func109,Tryz.ntmps109
          go_wp2_with (go_at_call 79;refine (within_any _ _ _ _).mono ?_;rintro e w' ⟨rfl,rfl⟩;try simp only [a1,a2,a4,a5])
          go_ret
          exact ⟨by simp [wrongB,a1,a2,a3,a4,a5],hb.alloc hb.size _⟩
theorem ent_wrong:∀ args w,(callFunc 109 args).run Tryz.prog w = .ok (.enter 109 args) w:=enters_of Tryz.func109 (by kernel_rfl) rfl
theorem CheckSystem_any (pts:Int) (A:Option Addr) (n c:Nat) (bs:List Bound) (w:World) (hl:Rd encBound 4 w A n c bs):
 Calls Tryz.prog 70 #[.agg #[.int .i64 pts,.slice A n c]] w fun e w'=>e = .returned (.int .i64 (checkSys pts bs))∧Below w.heap.size w w':=by
 have hlen:=hl.len
 by_cases h1:60<pts
 · have he:checkSys pts bs=2:=by unfold checkSys;rw [if_pos (.inl h1)]
   rw [he]
   clear he hlen
   go_enter Tryz.func70,Tryz.ntmps70
   go_wp2
   go_ret
   exact ⟨rfl,(by ((repeat' (first|(with_reducible assumption)|(with_reducible exact Below.refl _ _)|(with_reducible refine Below.drew ?_)|(with_reducible refine below_drewN' ?_ _)|(with_reducible refine Below.alloc ?_ ?_ _)|(with_reducible refine Below.setCell ?_ ?_ _)|(with_reducible refine below_step (by assumption) ?_ ?_)))<;>first|(simp;done)|(simp;omega)|omega))⟩
 · by_cases h2:400<n
   · have he:checkSys pts bs=2:=by unfold checkSys;rw [if_pos (.inr (by omega))]
     have h2':(400:Int)<n:=by omega
     rw [he]
     clear he hlen
     go_enter Tryz.func70,Tryz.ntmps70
     go_wp2
     go_ret
     exact ⟨rfl,(by ((repeat' (first|(with_reducible assumption)|(with_reducible exact Below.refl _ _)|(with_reducible refine Below.drew ?_)|(with_reducible refine below_drewN' ?_ _)|(with_reducible refine Below.alloc ?_ ?_ _)|(with_reducible refine Below.setCell ?_ ?_ _)|(with_reducible refine below_step (by assumption) ?_ ?_)))<;>first|(simp;done)|(simp;omega)|omega))⟩
   · have h2':¬(400:Int)<n:=by omega
     by_cases h3:pts<1
     · have he:checkSys pts bs=1:=by unfold checkSys;rw [if_neg (by omega),if_pos (.inl h3)]
       rw [he]
       clear he hlen
       go_enter Tryz.func70,Tryz.ntmps70
       go_wp2
       go_ret
       exact ⟨rfl,(by ((repeat' (first|(with_reducible assumption)|(with_reducible exact Below.refl _ _)|(with_reducible refine Below.drew ?_)|(with_reducible refine below_drewN' ?_ _)|(with_reducible refine Below.alloc ?_ ?_ _)|(with_reducible refine Below.setCell ?_ ?_ _)|(with_reducible refine below_step (by assumption) ?_ ?_)))<;>first|(simp;done)|(simp;omega)|omega))⟩
     · have hcf:=ContainsFunc_Bound 109 #[.pointer (some ⟨w.heap.size,0,none⟩)] ent_wrong (wrongB pts) A n c bs _ (hl.alloc (.cells #[.int .i64 pts,.slice A n c] 83)) (wrongpred pts A n c w.heap.size _ (by simp) (by simp) (by omega) (by omega))
       have he:checkSys pts bs=if bs.any (wrongB pts)=true then 1 else 0:=by
        unfold checkSys;rw [if_neg (by omega)]
        by_cases hq:bs.any (wrongB pts)=true
        · rw [if_pos (.inr hq),if_pos hq]
        · rw [if_neg (fun h=>by rcases h with h|h;exact h3 h;exact hq h),if_neg hq]
       rw [he]
       clear he hlen
       cases hq:bs.any (wrongB pts)
       all_goals
        rw [hq] at hcf
        clear hq
        have HCF:=Lib.hid hcf
        clear hcf
        go_enter Tryz.func70,Tryz.ntmps70
        go_wp2_with (go_at_call 110;refine HCF.out.mono ?_;rintro e w' ⟨rfl,hbC⟩)
        go_ret
        exact ⟨rfl,(by ((repeat' (first|(with_reducible assumption)|(with_reducible exact Below.refl _ _)|(with_reducible refine Below.drew ?_)|(with_reducible refine below_drewN' ?_ _)|(with_reducible refine Below.alloc ?_ ?_ _)|(with_reducible refine Below.setCell ?_ ?_ _)|(with_reducible refine below_step (by assumption) ?_ ?_)))<;>first|(simp;done)|(simp;omega)|omega))⟩
end Go.Proofs.YtpmkgmilfifkpaaGreatDoor
end
section
namespace Go.Proofs.YtpmkgmilfifkpaaGreatDoor
open Go.RowKit Go.Proofs
section
variable {P:Program} {ops:Array Oper} {md:Region.Mode} {w:World} {nn:Nat}
theorem wpIn_of_still {o:Oper} {a:Act} {K:Act→Prop} {K':Act→World→Prop} {Q':Exit→Act→World→Prop} (h:∀ a,K a→K' a w) (hh:o.still P a w K):o.wpIn Fence.wide nn P a w K' Q':=by
 refine ⟨fun _ _=>trivial,?_⟩
 have e:Oper.semAt Fence.wide.round a.eval o=execOp a.eval o:=rfl
 rw [e]
 unfold Oper.still at hh
 generalize (execOp a.eval o).run P w=r at *
 cases r with
 | ok x w'=>
   cases x<;>simp only [Oper.stillUpon] at hh<;>simp only [Oper.uponIn]
   case enter f args=>
    obtain ⟨rfl,v,hc,hn⟩:=hh
    refine ⟨fun h=>by simp [Fence.wide] at h,callsIn_wide.2 (hc.mono ?_)⟩
    rintro e w'' ⟨rfl,rfl⟩
    exact h _ hn
   case value v=>obtain ⟨rfl,hn⟩:=hh;exact h _ hn
   case skip=>obtain ⟨rfl,hn⟩:=hh;exact h _ hn
 | halt x w'=>simp only [Oper.stillUpon] at hh
theorem wpOpIn_of_stOp {i:Nat} {a:Act} {K:Act→Prop} {K':Act→World→Prop} {Q':Exit→Act→World→Prop} (h:∀ a,K a→K' a w) (hh:stOp P ops w i K a):wpOpIn Fence.wide nn P ops Q' i K' a w:=by
 unfold stOp at hh
 unfold wpOpIn
 split
 · rename_i ho;simp only [ho] at hh;exact h _ hh
 · rename_i o ho
   simp only [ho] at hh
   split
   · rename_i hw;simp only [hw,if_true] at hh;exact wpIn_of_still h hh
   · rename_i hw;simp only [hw] at hh;exact ⟨fun _ _=>trivial,h _ hh⟩
theorem wpAnyIn_of_head {n g:Nat} {L:Array Bool→Act→Prop} {Q':Exit→Act→World→Prop} (hL:∀ listed a,L listed a→wpAnyIn Fence.wide nn P md ops Q' g listed a w):
 ∀ (f:Nat) (listed:Array Bool) (a:Act),wpAnyL P md ops w n L f listed a→wpAnyIn Fence.wide nn P md ops Q' (f+g) listed a w
 | 0,listed,a,h=>by rw [Nat.zero_add];exact hL _ _ h
 | f+1,listed,a,h=>by
   rw [show f+1+g=(f+g)+1 by omega]
   exact ⟨fun h0=>absurd h0 h.1,fun i hi=>wpOpIn_of_stOp (fun a' h'=>wpAnyIn_of_head hL f _ a' h') (h.2 i hi).2⟩
theorem wpAnyIn_of_seq {Q':Exit→Act→World→Prop} :∀ (l:List Oper) (k:Nat) (listed:Array Bool) (a:Act) (w:World),(∀ j,l[j]? = ops[k+j]?)→
 Region.seqB md ops l.length k listed=true→wpListIn Fence.wide nn P ops Q' l a w→wpAnyIn Fence.wide nn P md ops Q' l.length listed a w
 | [],_,_,_,_,_,hB,h=>⟨by simpa [Region.seqB] using hB,h⟩
 | o::l,k,listed,a,w,hl,hB,h=>by
   have h0:ops[k]? = some o:=by simpa using (hl 0).symm
   simp only [List.length_cons,Region.seqB,Bool.and_eq_true,decide_eq_true_eq] at hB
   refine ⟨fun h1=>(by rw [hB.1] at h1;cases h1),fun i hi=> ?_⟩
   rw [hB.1] at hi
   have hik:i=k:=by simpa using hi
   subst hik
   have hw:wpOpIn Fence.wide nn P ops Q' i (wpListIn Fence.wide nn P ops Q' l) a w:=by unfold wpOpIn;simp only [h0];exact h
   exact wpOpIn_mono (fun a' w' h'=>wpAnyIn_of_seq l (i+1) _ a' w' (fun j=>by have:=hl (j+1);simpa [Nat.add_assoc,Nat.add_comm 1 j] using this) hB.2 h') hw
theorem wpIn_region_still_tail {id:Nat} {Q:Exit→Act→World→Prop} {a:Act} {w:World} {l:List Oper} (n:Nat) (hm:P.follows .mixedOrders=true) (hB:Region.lexTailB .any l.toArray n=true)
 (h:wpStill P l.toArray { w with drawn:=w.drawn+1 } (fun a'=>wpListIn Fence.wide nn P l.toArray Q (l.drop n) a' { w with drawn:=w.drawn+1 }) (l.take n) a):(Code.region id l.toArray true).wpIn Fence.wide nn P Q a w:=by
 simp only [Region.lexTailB,Bool.and_eq_true,decide_eq_true_eq] at hB
 obtain ⟨⟨⟨⟨hsel,hn⟩,hs⟩,hc⟩,hlex⟩:=hB
 have hn':n<l.length:=by simpa using hn
 have htl:(l.take n).length=n:=by simp;omega
 have hdl:(l.drop n).length=l.toArray.size-n:=by simp
 have inv0:HeadInv .any l.toArray n (Array.replicate l.toArray.size false):=
  ⟨by simp,fun j oj _ hl=>(by rw [getD_replicate_false] at hl;cases hl),fun t _ ht=>getD_in (by simpa using ht) (getD_replicate_false _ _)⟩
 have H:=wpAnyL_lex (md:=.any) (g:=l.toArray.size-n) hsel hs hc hn (l.take n) 0 _ a (fun j hj=>by
  have hj':j<n:=by rw [htl] at hj;exact hj
  simp [hj']) (by simpa using htl) inv0 (by rw [htl];exact hlex) h
 refine wpIn_region_any hm ?_
 have:=wpAnyIn_of_head (nn:=nn) (Q':=Q) (g:=l.toArray.size-n) (fun listed a' hL=>by
  have:=wpAnyIn_of_seq (nn:=nn) (md:=.any) (Q':=Q) (l.drop n) n listed a' { w with drawn:=w.drawn+1 } (fun j=>by simp [List.getElem?_drop]) (by rw [hdl];exact hL.1) hL.2
  rwa [hdl] at this) _ _ _ H
 rw [htl,show n+(l.toArray.size-n)=l.toArray.size by omega] at this
 exact this
theorem wp_region_yield {id:Nat} {Q:Exit→Act→World→Prop} {a:Act} {w:World} {l:List Oper} (nn n:Nat) (hm:P.follows .mixedOrders=true) (hB:Region.lexTailB .any l.toArray n=true)
 (h:wpStill P l.toArray { w with drawn:=w.drawn+1 } (fun a'=>wpListIn Fence.wide nn P l.toArray Q (l.drop n) a' { w with drawn:=w.drawn+1 }) (l.take n) a):(Code.region id l.toArray true).wp P Q a w:=
 wpIn_wide.1 (wpIn_region_still_tail (nn:=nn) n hm hB h)
end
open Go.Shelf
theorem relaxing_any (pts:Int) (A:Option Addr) (n c:Nat) (rp:Option Addr) (w:World):
 Calls Tryz.prog 158 #[.agg #[.int .i64 pts,.slice A n c],.pointer rp] w fun e w'=>e = .returned (.func (.func 166) #[] #[.pointer (some ⟨w.heap.size,0,none⟩),.pointer (some ⟨w.heap.size+1,0,none⟩)])∧
  (w.alloc (.cells #[.int .i64 pts,.slice A n c] 83)).alloc (.cells #[.pointer rp] 209)=w':=by
 go_enter Tryz.func158,Tryz.ntmps158
 go_wp2
 go_ret
 exact ⟨rfl,rfl⟩
structure RelJ (J:Nat→Row×Row→World→Prop) (sb rb br:Nat) (A:Option Addr) (n c:Nat) (bs:List Bound):Prop where
 s1:∀ {k σ W},J k σ W→W.cell? ⟨sb,1,none⟩=some (.slice A n c)
 rp:∀ {k σ W},J k σ W→W.cell? ⟨rb,0,none⟩=some (.pointer (some ⟨br,0,none⟩))
 row:∀ {k σ W},J k σ W→rowAt? W br 60=some (rowA σ.1)
 rd:∀ {k σ W},J k σ W→Rd encBound 4 W A n c bs
 ok:∀ {k σ W},J k σ W→∀ i:Int,0≤i→i<60→ -4000000000000000000≤rAt σ.1 i∧rAt σ.1 i≤noneV
 al:∀ {k σ W} (o:Obj),J k σ W→J k σ (W.alloc o)
 dr:∀ {k σ W},J k σ W→J k σ W.drew
 dn:∀ {k σ W} (m:Nat),J k σ W→J k σ (W.drewN m)
 skip:∀ {k σ W b},J k σ W→bs[k]? = some b→relaxes σ.1 b=false→J (k+1) σ W
def okB (b:Bound):Prop:=0≤b.src∧b.src<60∧0≤b.dst∧b.dst<60∧ -1000000≤b.most∧b.most≤1000000
theorem passTo_succ {bs:List Bound} {k:Nat} {b:Bound} (h:bs[k]? = some b) (st:Row×Row):passTo bs st (k+1)=relaxStep (passTo bs st k) b k:=by simp [passTo,h]
theorem relaxStep_no {st:Row×Row} {b:Bound} {k:Nat} (h:relaxes st.1 b=false):relaxStep st b k=st:=by simp [relaxStep,h]
theorem relaxing1 (l sb rb br m:Nat) (A:Option Addr) (n c:Nat) (bs:List Bound) (J:Nat→Row×Row→World→Prop) (R:RelJ J sb rb br A n c bs) (hbs:∀ b∈bs,okB b) (hn:n≤1000)
 (hY:∀ k σ b W,J k σ W→bs[k]? = some b→relaxes σ.1 b=true→YieldAt Fence.wide (m-1) Tryz.prog l #[.int .i64 k,.agg #[.int .i64 b.src,.int .i64 b.dst,.int .i64 b.most,.int .i64 b.by_]] W
   fun e W'=>e = .returned (.bool true)∧J (k+1) (relaxStep σ b k) W')
 (σ0:Row×Row) (w:World) (h0:J 0 σ0 w):
 CallsIn Fence.wide m Tryz.prog 166 #[.func (.yield l) #[] #[],.pointer (some ⟨sb,0,none⟩),.pointer (some ⟨rb,0,none⟩)] w fun e W'=>(∃ v,e = .returned v)∧J n (passTo bs σ0 n) W':=by
 refine callsIn_wide.2 ?_
 have s1:=R.s1 h0
 go_enter Tryz.func166,Tryz.ntmps166
 go_wp2
 go_loopw [9] (fun i wr=> ∃ (k:Nat) (σ:Row×Row),k≤n∧i = .int .i64 k∧J k σ wr∧Hid (σ=passTo bs σ0 k)) (fun i _=>n-(intOf i).toNat)
 case atStart=>exact ⟨0,σ0,Nat.zero_le _,rfl,h0,rfl⟩
 case round=>
  clear s1 h0
  obtain ⟨k,σ,hk,rfl,hJ,hσ⟩:=hrel
  by_cases hlt:k<n
  · obtain ⟨b,off,x,rfl,hbw,hx,hcell⟩:=(R.rd hJ).one hlt
    have hok:=hbs x (List.mem_of_getElem? hx)
    obtain ⟨o1,o2,o3,o4,o5,o6⟩:=hok
    have c0:wr.cell? ⟨b,off+k * 4,none⟩=some (.int .i64 x.src):=hcell 0 _ rfl
    have c1:wr.cell? ⟨b,off+k * 4+1,none⟩=some (.int .i64 x.dst):=hcell 1 _ rfl
    have c2:wr.cell? ⟨b,off+k * 4+2,none⟩=some (.int .i64 x.most):=hcell 2 _ rfl
    have c3:wr.cell? ⟨b,off+k * 4+3,none⟩=some (.int .i64 x.by_):=hcell 3 _ rfl
    have rp:=R.rp hJ
    have hrow:=R.row hJ
    have hbr:=rowAt?_lt hrow
    have hrb:rb<wr.heap.size:=block_lt_of_cell rp
    obtain ⟨v1,v2⟩:=R.ok hJ x.src o1 o2
    obtain ⟨v3,v4⟩:=R.ok hJ x.dst o3 o4
    have hl:=rowAt?_len hrow
    have hcs:=rowAt?_int hrow (i:=x.src.toNat) (by omega)
    have hcd:=rowAt?_int hrow (i:=x.dst.toNat) (by omega)
    have HX:=Lib.hid hx
    have hJ2:=R.al (.cells #[.int .i64 x.src,.int .i64 x.dst,.int .i64 x.most,.int .i64 x.by_] 50) hJ
    have hrel:relaxes σ.1 x=(decide (rAt σ.1 x.src<noneV)&&decide (rAt σ.1 x.src+x.most<rAt σ.1 x.dst)):=rfl
    have HJ:=Lib.hid hJ
    clear hrow hcell hx hJ
    have es:σ.1.getD x.src.toNat 0=rAt σ.1 x.src:=rfl
    have ed:σ.1.getD x.dst.toNat 0=rAt σ.1 x.dst:=rfl
    rw [es] at hcs
    rw [ed] at hcd
    clear es ed
    generalize rAt σ.1 x.src=xs at *
    generalize rAt σ.1 x.dst=xd at *
    have HR:=Lib.hid hrel
    have HL:=Lib.hid hl
    clear hrel hl
    unfold noneV at v2 v4
    have hw:IntKind.i64.wrap (xs+x.most)=xs+x.most:=by simp [IntKind.wrap,IntKind.bits,IntKind.signed];omega
    by_cases t1:xs<1099511627776
    · have d1:decide (xs<1099511627776)=true:=by simpa using t1
      by_cases t2:xs+x.most<xd
      · have d2:decide (xs+x.most<xd)=true:=by simpa using t2
        have hrlx:relaxes σ.1 x=true:=by rw [HR.out,show decide (xs<noneV)=true from d1,d2];rfl
        have HRX:=Lib.hid hrlx
        have hw':=Lib.hid hw
        clear hrlx hw
        go_wp2_with (fail)
        have hw:=hw'.out
        have hJ4:=R.dr hJ2
        obtain ⟨fn,tmps,assign,body,hy,hR⟩:=hY k σ x _ hJ4 HX.out HRX.out
        refine wp_region_yield m 29 (by kernel_rfl) (by kernel_rfl) ?_
        simp only [List.take_succ_cons,List.take_zero,List.drop_succ_cons,List.drop_zero,World.drew_eq]
        iterate 29 still_step
        refine wpStill_nil ?_
        clear hw hcs hcd
        gi_wp2
        refine ⟨fun h=>(by cases h),hR.mono ?_⟩
        rintro e W3 ⟨rfl,hJ5⟩
        gi_wp2
        go_wp2
        go_roundw
        case rel=>exact ⟨k+1,_,by omega,by go_num,hJ5,(show _=_ by rw [passTo_succ HX.out,←hσ.out])⟩
        case measure=>simp [intOf];omega
      · have d2:decide (xs+x.most<xd)=false:=by simpa using t2
        have hrlx:relaxes σ.1 x=false:=by rw [HR.out,show decide (xs<noneV)=true from d1,d2];rfl
        have HRX:=Lib.hid hrlx
        have hw':=Lib.hid hw
        clear hrlx hw
        go_wp2_with (fail)
        have hw:=hw'.out
        go_quiet (fail)
        clear hw
        go_wp2
        go_roundw
        case rel=>exact ⟨k+1,σ,by omega,by go_num,R.dn _ (R.skip hJ2 HX.out HRX.out),(show σ=_ by rw [passTo_succ HX.out,←hσ.out,relaxStep_no HRX.out])⟩
        case measure=>simp [intOf];omega
    · have d1:decide (xs<1099511627776)=false:=by simpa using t1
      have hrlx:relaxes σ.1 x=false:=by rw [HR.out,show decide (xs<noneV)=false from d1];rfl
      have HRX:=Lib.hid hrlx
      clear hrlx hw
      go_wp2_with (fail)
      go_quiet (fail)
      go_wp2
      go_roundw
      case rel=>exact ⟨k+1,σ,by omega,by go_num,R.dn _ (R.skip hJ2 HX.out HRX.out),(show σ=_ by rw [passTo_succ HX.out,←hσ.out,relaxStep_no HRX.out])⟩
      case measure=>simp [intOf];omega
  · have hkn:k=n:=by omega
    subst hkn
    go_wp2
    go_end0
    exact ⟨⟨_,rfl⟩,by rw [←hσ.out];exact hJ⟩
end Go.Proofs.YtpmkgmilfifkpaaGreatDoor
end
section
namespace Go.Proofs.YtpmkgmilfifkpaaGreatDoor
open Go.RowKit Go.Proofs
section
variable {P:Program} {F:Fence} {nn:Nat} {ops:Array Oper} {V:Nat→Value} {a0:Act}
def dstOf (ops:Array Oper) (j:Nat):Option Tmp:=(ops[j]?).bind (·.dst)
structure TabAt (ops:Array Oper) (V:Nat→Value) (a0:Act) (listed:Array Bool) (a:Act):Prop where
 size:listed.size=ops.size
 closed:∀ j o,ops[j]? = some o→listed.getD j false=true→∀ e∈o.after,Region.binds .any e=true→listed.getD e.on false=true
 tsize:a.tmps.size=a0.tmps.size
 defers:a.defers=a0.defers
 val:∀ j d,dstOf ops j=some d→listed.getD j false=true→a.tmps.getD d undef=V j
 old:∀ d,(∀ j,dstOf ops j≠some d)→a.tmps.getD d undef=a0.tmps.getD d undef
def tabOk (ops:Array Oper) (m:Nat):Bool:=
 (List.range ops.size).all fun j=>match ops[j]? with
   | none=>true
   | some o=>o.guard.isNone&&(match o.op with | .defer _=>false|_=>true)&&o.after.all (fun e=> !Region.binds .any e||decide (e.on<j)) &&
     (match o.dst with
      | none=>true
      | some d=>decide (d<m)&&(List.range ops.size).all fun k=>k==j||dstOf ops k != some d)
theorem tabOk_at {m:Nat} (h:tabOk ops m=true) {j:Nat} {o:Oper} (hj:ops[j]? = some o):
 o.guard=none∧(∀ c,o.op ≠ .defer c)∧(∀ e∈o.after,Region.binds .any e=true→e.on<j)∧∀ d,o.dst=some d→d<m∧∀ k,k<ops.size→k≠j→dstOf ops k≠some d:=by
 have hlt:j<ops.size:=(Array.getElem?_eq_some_iff.1 hj).1
 have h1:=List.all_eq_true.1 h j (List.mem_range.2 hlt)
 simp only [hj,Bool.and_eq_true] at h1
 obtain ⟨⟨⟨g,df⟩,ed⟩,ds⟩:=h1
 refine ⟨by simpa using g,fun c hc=>(by rw [hc] at df;cases df),fun e he hb=> ?_,fun d hd=> ?_⟩
 · have:=Array.all_eq_true_iff_forall_mem.1 ed e he
   simpa [hb] using this
 · rw [hd] at ds
   simp only [Bool.and_eq_true,decide_eq_true_eq] at ds
   refine ⟨ds.1,fun k hk hkj=> ?_⟩
   have:=List.all_eq_true.1 ds.2 k (List.mem_range.2 hk)
   simp only [Bool.or_eq_true,beq_iff_eq,bne_iff_ne] at this
   rcases this with h|h
   · exact absurd h hkj
   · exact h
def left (listed:Array Bool):Nat:=(listed.toList.filter (fun b=> !b)).length
theorem filter_set {l:List Bool} :∀ {i:Nat},l[i]? = some false→(l.filter (fun b=> !b)).length=((l.set i true).filter (fun b=> !b)).length+1:=by
 induction l with
 | nil=>intro i h;simp at h
 | cons x l ih=>
   intro i h
   cases i with
   | zero=>
     simp only [List.getElem?_cons_zero,Option.some.injEq] at h
     subst h
     simp
   | succ i=>
     simp only [List.getElem?_cons_succ] at h
     have:=ih h
     cases x<;>simp [this]
theorem left_set {listed:Array Bool} {i:Nat} (hi:listed[i]? = some false):left listed=left (listed.setIfInBounds i true)+1:=by
 unfold left
 rw [Array.toList_setIfInBounds]
 exact filter_set (by simpa using hi)
theorem left_zero {listed:Array Bool} (h:left listed=0):listed=Array.replicate listed.size true:=by
 unfold left at h
 have h1:listed.toList.filter (fun b=> !b) = []:=List.eq_nil_of_length_eq_zero h
 rw [List.filter_eq_nil_iff] at h1
 apply Array.ext
 · simp
 · intro i h2 h3
   have:=h1 listed[i] (by simp)
   simpa using this
theorem left_pos {listed:Array Bool} (h:0<left listed):∃ i:Nat,listed[i]? = some false∧∀ j:Nat,j<i→listed[j]? = some true:=by
 obtain ⟨x,hx⟩:∃ i:Nat,listed[i]? = some false:=by
  unfold left at h
  obtain ⟨b,hb⟩:=List.exists_mem_of_length_pos h
  rw [List.mem_filter] at hb
  obtain ⟨i,hi,he⟩:=List.getElem_of_mem hb.1
  have hbf:b=false:=by simpa using hb.2
  subst hbf
  exact ⟨i,by rw [Array.getElem?_eq_getElem (by simpa using hi)];simpa using he⟩
 induction x using Nat.strongRecOn with
 | _ x ih=>
   by_cases hq:∃ j,j<x∧listed[j]? = some false
   · obtain ⟨j,hj,hj2⟩:=hq
     exact ih j hj hj2
   · refine ⟨x,hx,fun j hj=> ?_⟩
     have hjs:j<listed.size:=by have:=(Array.getElem?_eq_some_iff.1 hx).1;omega
     rw [Array.getElem?_eq_getElem hjs]
     cases hv:listed[j] with
     | true=>rfl
     | false=>exact absurd ⟨j,hj,by rw [Array.getElem?_eq_getElem hjs,hv]⟩ hq
theorem TabAt.set {m i:Nat} {o:Oper} {listed:Array Bool} {b:Act} (hok:tabOk ops m=true) (hm:m=a0.tmps.size) (h:TabAt ops V a0 listed b) (hi:i∈Region.ready .any ops listed) (ho:ops[i]? = some o):
 TabAt ops V a0 (listed.setIfInBounds i true) (b.put o.dst (V i)):=by
 obtain ⟨hun,oi,hoi,hall⟩:=mem_ready.1 hi
 have:oi=o:=Option.some.inj (hoi.symm.trans ho)
 subst this
 obtain ⟨_,_,_,hd⟩:=tabOk_at hok ho
 have hput:∀ d,oi.dst≠some d→(b.put oi.dst (V i)).tmps.getD d undef=b.tmps.getD d undef:=by
  intro d hne
  cases hdst:oi.dst with
  | none=>rfl
  | some d'=>
    have hdd:d'≠d:=fun e=>hne (by rw [hdst,e])
    simp only [Act.put,Array.getD_eq_getD_getElem?,Array.getElem?_setIfInBounds_ne hdd]
 refine ⟨by simp [h.size],fun j oj hj hl e he hb=> ?_,?_,?_,fun j d hjd hl=> ?_,fun d hno=> ?_⟩
 · by_cases hij:i=j
   · subst hij
     have:oj=oi:=Option.some.inj (hj.symm.trans ho)
     subst this
     exact getD_set_true (hall e he hb)
   · rw [getD_set_ne false hij] at hl
     exact getD_set_true (h.closed j oj hj hl e he hb)
 · rw [←h.tsize];cases oi.dst<;>simp [Act.put]
 · rw [←h.defers];cases oi.dst<;>rfl
 · by_cases hij:i=j
   · subst hij
     have hdd:oi.dst=some d:=by simpa [dstOf,ho] using hjd
     obtain ⟨hlt,_⟩:=hd d hdd
     have:d<b.tmps.size:=by rw [h.tsize,←hm];exact hlt
     simp [Act.put,hdd,this]
   · rw [getD_set_ne false hij] at hl
     rw [hput d,h.val j d hjd hl]
     intro hdd
     have hjs:j<ops.size:=by
      rcases Nat.lt_or_ge j ops.size with h|h
      · exact h
      · simp [dstOf,Array.getElem?_eq_none h] at hjd
     exact (hd d hdd).2 j hjs (Ne.symm hij) hjd
 · rw [hput d (fun e=>hno i (by simp [dstOf,ho,e])),h.old d hno]
theorem wpAnyIn_tab {Q:Exit→Act→World→Prop} {m:Nat} (hF:∀ f,F.fn f) (hok:tabOk ops m=true) (hm:m=a0.tmps.size) (Wf:Array Bool→World)
 (hrun:∀ listed i o b,i∈Region.ready .any ops listed→ops[i]? = some o→TabAt ops V a0 listed b→
   (execOp b.eval o).run P (Wf listed) = .ok (.value (V i)) (Wf (listed.setIfInBounds i true))∨((execOp b.eval o).run P (Wf listed) = .ok .skip (Wf (listed.setIfInBounds i true))∧V i=undef))
 (hend:∀ b,TabAt ops V a0 (Array.replicate ops.size true) b→Q .normal b (Wf (Array.replicate ops.size true))):
 ∀ (fuel:Nat) (listed:Array Bool) (b:Act),left listed=fuel→TabAt ops V a0 listed b→wpAnyIn F nn P .any ops Q fuel listed b (Wf listed):=by
 intro fuel
 induction fuel with
 | zero=>
   intro listed b hl h
   have hall:=left_zero hl
   rw [h.size] at hall
   refine ⟨?_,by rw [hall];exact hend b (hall ▸ h)⟩
   apply List.eq_nil_iff_forall_not_mem.2
   intro i hi
   obtain ⟨hun,o,ho,_⟩:=mem_ready.1 hi
   have hlt:i<ops.size:=(Array.getElem?_eq_some_iff.1 ho).1
   rw [hall] at hun
   simp [hlt] at hun
 | succ fuel ih=>
   intro listed b hl h
   refine ⟨fun hnil=> ?_,fun i hi=> ?_⟩
   · obtain ⟨i,hi,hmin⟩:=left_pos (listed:=listed) (by omega)
     have hlt:i<ops.size:=by rw [←h.size];exact (Array.getElem?_eq_some_iff.1 hi).1
     have ho:ops[i]? = some ops[i]:=Array.getElem?_eq_getElem hlt
     obtain ⟨_,_,hed,_⟩:=tabOk_at hok ho
     have:i∈Region.ready .any ops listed:=mem_ready.2 ⟨by simp [hi],ops[i],ho,fun e he hbd=>by have:=hmin e.on (hed e he hbd);simp [this]⟩
     rw [hnil] at this
     cases this
   · obtain ⟨hun,o,ho,hall⟩:=mem_ready.1 hi
     obtain ⟨hg,hdf,_,_⟩:=tabOk_at hok ho
     have hlt:i<listed.size:=by rw [h.size];exact (Array.getElem?_eq_some_iff.1 ho).1
     have hf:listed[i]? = some false:=by
      rw [Array.getElem?_eq_getElem hlt]
      simp [hlt] at hun
      rw [hun]
     have hl':left (listed.setIfInBounds i true)=fuel:=by have:=left_set hf;omega
     have hnext:=ih _ _ hl' (h.set hok hm hi ho)
     have hw:Region.wanted o (yielded ops b.tmps)=true:=by simp [Region.wanted,hg]
     unfold wpOpIn
     simp only [ho,hw,if_true]
     refine ⟨fun f _=>hF f,?_⟩
     rw [Oper.semAt_eq _ _ _ hdf]
     rcases hrun listed i o b hi ho h with hr|⟨hr,hv⟩
     · rw [hr];exact hnext
     · rw [hr];rw [hv] at hnext;exact hnext
theorem wpIn_region_tab {id:Nat} {l:List Oper} {Q:Exit→Act→World→Prop} {a:Act} {w:World} (hm:P.follows .mixedOrders=true) (hF:∀ f,F.fn f) (V:Nat→Value) (Wf:Array Bool→World) (hok:tabOk l.toArray a.tmps.size=true)
 (h0:Wf (Array.replicate l.toArray.size false)=w.drew)
 (hrun:∀ listed i o b,i∈Region.ready .any l.toArray listed→l.toArray[i]? = some o→TabAt l.toArray V a listed b→
   (execOp b.eval o).run P (Wf listed) = .ok (.value (V i)) (Wf (listed.setIfInBounds i true))∨((execOp b.eval o).run P (Wf listed) = .ok .skip (Wf (listed.setIfInBounds i true))∧V i=undef))
 (hend:∀ b,TabAt l.toArray V a (Array.replicate l.toArray.size true) b→Q .normal b (Wf (Array.replicate l.toArray.size true))):
 (Code.region id l.toArray true).wpIn F nn P Q a w:=by
 refine wpIn_region_any hm ?_
 have hw:({ w with drawn:=w.drawn+1 } : World)=Wf (Array.replicate l.toArray.size false):=h0.symm
 rw [hw]
 refine wpAnyIn_tab hF hok rfl Wf hrun hend _ _ _ ?_ ⟨by simp,fun j o _ hl=> ?_,rfl,rfl,fun j d _ hl=> ?_,fun _ _=>rfl⟩
 · have h2:∀ k,(List.filter (fun b=> !b) (List.replicate k false)).length=k:=by
    intro k
    rw [List.filter_eq_self.2 (fun b hb=>by rw [List.eq_of_mem_replicate hb];rfl),List.length_replicate]
   unfold left
   rw [Array.toList_replicate]
   exact h2 _
 · rw [getD_replicate_false] at hl;cases hl
 · rw [getD_replicate_false] at hl;cases hl
end
end Go.Proofs.YtpmkgmilfifkpaaGreatDoor
end

/- Contracts that the laws lean on: KeB, CplP, MapQ, MeP. -/
import Derived.Test.YtpmkgmilfifkpaaGreatDoorDE20
set_option maxRecDepth 100000
set_option maxHeartbeats 2000000
section
namespace Go.Proofs.YtpmkgmilfifkpaaGreatDoor
open Go.RowKit Go.Proofs Go.Shelf
def nearN (x:Int):Bool:=withinB x (-1000000000) 1000000000
def fitsB (pts:Int) (xs:List Int):Bool:=decide ((xs.length:Int)=pts)&&xs.all nearN
def keepsC (pts:Int) (bs:List Bound) (xs:List Int):Bool:=fitsB pts xs&&keepsB bs xs
theorem all_at {α:Type} {p:α→Bool} {l:List α} (h:∀ j x,j<l.length→l[j]? = some x→p x=true):l.all p=true:=by
 rw [List.all_eq_true]
 intro x hx
 obtain ⟨j,hj,hjx⟩:=List.getElem_of_mem hx
 exact h j x hj (by rw [List.getElem?_eq_getElem hj,hjx])
theorem breaks1_bad (pts:Int) (X:Option Addr) (nX cX:Nat) (xs:List Int) (b0 b1 b2:Nat) (w:World) (hX:Rd encInt 1 w X nX cX xs) (hbad:fitsB pts xs=false)
 (c0:w.cell? ⟨b0,0,none⟩=some (.slice X nX cX)) (c1:w.cell? ⟨b1,0,none⟩=some (.int .i64 pts)):
 Calls Tryz.prog 114 #[.pointer (some ⟨b0,0,none⟩),.pointer (some ⟨b1,0,none⟩),.pointer (some ⟨b2,0,none⟩)] w fun e w'=>e = .panicked [foreignP]∧Below w.heap.size w w':=by
 have hln:=hX.len
 have hbg:=hX.big
 have HX:=Lib.hid hX
 clear hX
 by_cases hlen:(nX:Int)=pts
 · have hall:xs.all nearN=false:=by unfold fitsB at hbad;rw [hln,decide_eq_true hlen,Bool.true_and] at hbad;exact hbad
   have HA:=Lib.hid hall
   clear hbad hall
   subst hlen
   go_enter Tryz.func114,Tryz.ntmps114
   have hee:((nX:Int)==(nX:Int))=true:=(by simp)
   go_wp2_with (go_at_call 78;((with_reducible refine (need_any w).mono ?_);rintro e w2 ⟨rfl,hw2⟩;obtain rfl:=hw2))
   go_loopw [14] (fun i wr=> ∃ k:Nat,k≤nX∧i = .int .i64 k∧Hid (w=wr)∧Hid (∀ j x,j<k→xs[j]? = some x→nearN x=true)) (fun i _=>nX-(intOf i).toNat)
   case atStart=>exact ⟨0,Nat.zero_le _,rfl,(show w=w from rfl),(show ∀ (j:Nat) (x:Int),_ from fun j x h=>by omega)⟩
   case round=>
    obtain ⟨k,hk,rfl,hw,hno⟩:=hrel
    obtain rfl:=hw.out
    by_cases hlt:k<nX
    · obtain ⟨b,off,xk,rfl,hbw,hxk,hcell⟩:=HX.out.one hlt
      have g1:w.cell? ⟨b,off+k,none⟩=some (.int .i64 xk):=(by have:=hcell 0 _ rfl;simpa using this)
      have HXK:=Lib.hid hxk
      clear hcell hxk
      cases hq:nearN xk with
      | true=>
        have hwi:withinB xk (-1000000000) 1000000000=true:=hq
        have HWI:=Lib.hid hwi
        clear hwi hq
        go_wp2_with (first
         | (go_at_call 79;(with_reducible refine (within_any _ _ _ _).mono ?_);rintro e w2 ⟨rfl,hw2⟩;obtain rfl:=hw2.symm;rw [HWI.out])
         | (go_at_call 78;((with_reducible refine (need_any w).mono ?_);rintro e w2 ⟨rfl,hw2⟩;obtain rfl:=hw2)))
        go_roundw
        case rel=>exact ⟨k+1,by omega,by go_num,(by first|exact (show True from trivial)|exact (show w=w from rfl)),(show ∀ (j:Nat) (x:Int),_ from fun j x hj hx=>by
         by_cases e:j=k
         · subst e;rw [HXK.out] at hx;cases hx;exact HWI.out
         · exact hno.out j x (by omega) hx)⟩
        case measure=>simp [intOf];omega
      | false=>
        have hwi:withinB xk (-1000000000) 1000000000=false:=hq
        have HWI:=Lib.hid hwi
        clear hwi hq
        go_wp2_with (first
         | (go_at_call 79;(with_reducible refine (within_any _ _ _ _).mono ?_);rintro e w2 ⟨rfl,hw2⟩;obtain rfl:=hw2.symm;rw [HWI.out])
         | (go_at_call 78;((with_reducible refine (gneed_no w).mono ?_);rintro e w2 ⟨rfl,hw2⟩;obtain rfl:=hw2)))
        exact ⟨rfl,rfl,Below.refl _ _⟩
    · have hkn:k=nX:=by omega
      subst hkn
      have:=all_at (l:=xs) (p:=nearN) (fun j x hj hx=>hno.out j x (by omega) hx)
      rw [HA.out] at this
      cases this
 · have hee:((nX:Int)==pts)=false:=(by simpa using hlen)
   clear hlen hbad
   go_enter Tryz.func114,Tryz.ntmps114
   go_wp2_with (go_at_call 78;((with_reducible refine (gneed_no w).mono ?_);rintro e w2 ⟨rfl,hw2⟩;obtain rfl:=hw2))
   exact ⟨rfl,rfl,Below.refl _ _⟩
theorem Breaks_bad (pts:Int) (A:Option Addr) (n c:Nat) (bs:List Bound) (X:Option Addr) (nX cX:Nat) (xs:List Int) (w:World) (hl:Rd encBound 4 w A n c bs) (hX:Rd encInt 1 w X nX cX xs) (hk:checkSys pts bs=0) (hbad:fitsB pts xs=false):
 Calls Tryz.prog 74 #[.agg #[.int .i64 pts,.slice A n c],.slice X nX cX] w fun e w'=>e = .returned (.tuple #[.int .i64 0,.bool false,.int .i64 1])∧Below w.heap.size w w':=by
 obtain ⟨W1,hW1⟩:∃ W1,((w.alloc (.cells #[.int .i64 pts,.slice A n c] 83)).alloc (.cells #[.slice X nX cX] 51)).alloc (.cells #[.int .i64 (-1)] 3)=W1:=⟨_,rfl⟩
 have hb1:Below w.heap.size w W1:=by rw [←hW1];exact (((Below.refl _ w).alloc (Nat.le_refl _) _).alloc (by simp<;>omega) _).alloc (by simp<;>omega) _
 have hs1:W1.heap.size=w.heap.size+3:=by rw [←hW1];simp
 have hl1:=hl.below hb1 (Nat.le_refl _)
 have hX1:=hX.below hb1 (Nat.le_refl _)
 have e0:∀ i,W1.cell? ⟨w.heap.size,i,none⟩ = #[Value.int .i64 pts,.slice A n c][i]? := fun i=>by rw [←hW1,World.cell?_alloc_past _ _ _ (by simp<;>omega),World.cell?_alloc_past _ _ _ (by simp<;>omega),World.cell?_alloc_at _ _ _ _ rfl]
 have ea:W1.cell? ⟨w.heap.size+1,0,none⟩=some (.slice X nX cX):=by rw [←hW1,World.cell?_alloc_past _ _ _ (by simp<;>omega),World.cell?_alloc_at _ _ _ _ (by simp<;>omega)];rfl
 have htr:=tried_bad pts A n c bs 114 #[.pointer (some ⟨w.heap.size+1,0,none⟩),.pointer (some ⟨w.heap.size,0,none⟩),.pointer (some ⟨w.heap.size+2,0,none⟩)] ent_breaks1 W1 hl1 hk
  (fun W hW=>breaks1_bad pts X nX cX xs (w.heap.size+1) w.heap.size (w.heap.size+2) W (hX1.below hW (Nat.le_refl _)) hbad
    ((hW.cell (p:=⟨w.heap.size+1,0,none⟩) (show w.heap.size+1<W1.heap.size by omega)).trans ea) ((hW.cell (p:=⟨w.heap.size,0,none⟩) (show w.heap.size<W1.heap.size by omega)).trans (e0 0)))
 have HT:=Lib.hid htr
 have HW:=Lib.hid hW1
 clear htr hW1 e0 ea hl hl1 hX hX1 hk hbad
 go_enter Tryz.func74,Tryz.ntmps74
 go_wp2_with (go_at_call 76;rw [HW.out];refine HT.out.mono ?_;rintro e w2 ⟨rfl,hg⟩)
 go_ret3
 exact ⟨rfl,hb1.trans (hg.mono hb1.size)⟩
theorem Keeps_bad (pts:Int) (A:Option Addr) (n c:Nat) (bs:List Bound) (X:Option Addr) (nX cX:Nat) (xs:List Int) (w:World) (hl:Rd encBound 4 w A n c bs) (hX:Rd encInt 1 w X nX cX xs) (hk:checkSys pts bs=0) (hbad:fitsB pts xs=false):
 Calls Tryz.prog 47 #[.agg #[.int .i64 pts,.slice A n c],.slice X nX cX] w fun e w'=>e = .returned (.tuple #[.bool false,.int .i64 1])∧Below w.heap.size w w':=by
 have HB:=Lib.hid (Breaks_bad pts A n c bs X nX cX xs _ (hl.alloc (.cells #[.int .i64 pts,.slice A n c] 83)) (hX.alloc (.cells #[.int .i64 pts,.slice A n c] 83)) hk hbad)
 clear hl hX hk hbad
 go_enter Tryz.func47,Tryz.ntmps47
 go_wp2_with (go_at_call 74;(with_reducible refine HB.out.mono ?_);rintro e w2 ⟨rfl,hb2⟩;have HB2:=Lib.hid hb2;clear hb2)
 go_ret2
 exact ⟨rfl,((Below.refl _ w).alloc (Nat.le_refl _) _).trans (HB2.out.mono (by simp))⟩
theorem Keeps_all (pts:Int) (A:Option Addr) (n c:Nat) (bs:List Bound) (X:Option Addr) (nX cX:Nat) (xs:List Int) (w:World) (hl:Rd encBound 4 w A n c bs) (hX:Rd encInt 1 w X nX cX xs) (hk:checkSys pts bs=0):
 Calls Tryz.prog 47 #[.agg #[.int .i64 pts,.slice A n c],.slice X nX cX] w fun e w'=>e = .returned (.tuple #[.bool (keepsC pts bs xs),.int .i64 (if fitsB pts xs then 0 else 1)])∧Below w.heap.size w w':=by
 cases hf:fitsB pts xs with
 | false=>
   have hkc:keepsC pts bs xs=false:=by unfold keepsC;rw [hf];rfl
   rw [hkc]
   exact Keeps_bad pts A n c bs X nX cX xs w hl hX hk hf
 | true=>
   have hkc:keepsC pts bs xs=keepsB bs xs:=by unfold keepsC;rw [hf];rfl
   rw [hkc]
   unfold fitsB at hf
   simp only [Bool.and_eq_true,decide_eq_true_eq,List.all_eq_true] at hf
   exact Keeps_any pts A n c bs X nX cX xs w hl hX hk (by rw [←hX.len];exact hf.1) (fun x hx=>withinB_iff.1 (hf.2 x hx))
def farN (n:Int):Bool:=decide (n < -100000000)||decide (100000000<n)
abbrev Row3:=Int×List Bound×List Int
def rowK (r:Row3):Bool:= !r.2.2.any farN&&keepsC r.1 r.2.1 r.2.2
def rowsL (A B:Outl) (xa xb da db:List Int):List Row3:=[(A.n+1,A.ways,xa),(B.n+1,B.ways,xb),(A.n,A.turns,da),(B.n,B.turns,db)]
def gI (xs:List Int) (i:Int):Int:=xs.getD i.toNat 0
def roundW (p:Pairing) (xa xb:List Int) (m:Nat):Bool:=decide (gI xa (p.a.lo+m)-gI xa p.a.lo=gI xb p.b.hi-gI xb (p.b.hi-m))
def roundD (p:Pairing) (da db:List Int) (m:Nat):Bool:= !decide ((m:Int)<p.a.hi-p.a.lo)||decide (gI da (p.a.lo+m)-gI da p.a.lo=gI db (p.b.hi-1-m)-gI db (p.b.hi-1))
def roundB (p:Pairing) (xa xb da db:List Int) (m:Nat):Bool:=roundW p xa xb m&&roundD p da db m
def plcB (A B:Outl) (p:Pairing) (xa xb da db:List Int):Bool:=decide (askedErr A B p=0)&&((rowsL A B xa xb da db).all rowK&&(List.range ((p.a.hi-p.a.lo).toNat+1)).all (roundB p xa xb da db))
section
variable {A B:Outl} {p:Pairing} {xa xb da db:List Int}
theorem plcB_row {k:Nat} {r:Row3} (h:(rowsL A B xa xb da db)[k]? = some r) (hr:rowK r=false):plcB A B p xa xb da db=false:=by
 have:(rowsL A B xa xb da db).all rowK=false:=List.all_eq_false.2 ⟨r,List.mem_of_getElem? h,by simp [hr]⟩
 unfold plcB;rw [this];simp
theorem plcB_round {m:Nat} (hm:m≤(p.a.hi-p.a.lo).toNat) (hr:roundB p xa xb da db m=false):plcB A B p xa xb da db=false:=by
 have:(List.range ((p.a.hi-p.a.lo).toNat+1)).all (roundB p xa xb da db)=false:=List.all_eq_false.2 ⟨m,List.mem_range.2 (by omega),by simp [hr]⟩
 unfold plcB;rw [this];simp
theorem plcB_true (h0:askedErr A B p=0) (h1:∀ k r,k<4→(rowsL A B xa xb da db)[k]? = some r→rowK r=true) (h2:∀ m,m<(p.a.hi-p.a.lo).toNat+1→roundB p xa xb da db m=true):plcB A B p xa xb da db=true:=by
 unfold plcB
 rw [decide_eq_true h0,Bool.true_and,Bool.and_eq_true,List.all_eq_true,List.all_eq_true]
 refine ⟨fun r hr=> ?_,fun m hm=>h2 m (List.mem_range.1 hm)⟩
 obtain ⟨k,hk,hkr⟩:=List.getElem_of_mem hr
 exact h1 k r hk (by rw [List.getElem?_eq_getElem hk,hkr])
theorem rowK_true {r:Row3} (h:rowK r=true):(r.2.2.length:Int)=r.1∧∀ x∈r.2.2,-100000000≤x∧x≤100000000:=by
 unfold rowK keepsC fitsB at h
 simp only [Bool.and_eq_true,Bool.not_eq_true',List.any_eq_false,decide_eq_true_eq] at h
 refine ⟨h.2.1.1,fun x hx=> ?_⟩
 have:=h.1 x hx
 unfold farN at this
 simp only [Bool.or_eq_true,decide_eq_true_eq,not_or,Int.not_lt] at this
 omega
theorem gI_bnd {xs:List Int} (h:∀ x∈xs,-100000000≤x∧x≤100000000) (i:Int): -100000000≤gI xs i∧gI xs i≤100000000:=by
 unfold gI
 rw [List.getD_eq_getElem?_getD]
 cases hx:xs[i.toNat]? with
 | none=>simp
 | some x=>exact h x (List.mem_of_getElem? hx)
end
theorem Rd.gI {w:World} {A:Option Addr} {n c:Nat} {xs:List Int} (h:Rd encInt 1 w A n c xs) (hn:0<n):∃ b off,A=some ⟨b,off,none⟩∧b<w.heap.size∧∀ i:Int,0≤i→i<n→w.cell? ⟨b,off+i.toNat,none⟩=some (.int .i64 (gI xs i)):=by
 obtain ⟨b,off,hA,hb,hc⟩:=h.at_ hn
 refine ⟨b,off,hA,hb,fun i h0 hi=> ?_⟩
 have hlt:i.toNat<xs.length:=by rw [h.len];omega
 have:=hc _ _ (List.getElem?_eq_getElem hlt) 0 _ rfl
 rw [Nat.mul_one,Nat.add_zero] at this
 rw [this]
 unfold Go.Proofs.YtpmkgmilfifkpaaGreatDoor.gI
 rw [List.getD_eq_getElem?_getD,List.getElem?_eq_getElem hlt];rfl
def RowAt (W:World) (g k:Nat) (r:Row3):Prop:=∃ Ab nb cb Xa nx cx,W.cell? ⟨g,k * 3,none⟩=some (.int .i64 r.1)∧W.cell? ⟨g,k * 3+1,none⟩=some (.slice Ab nb cb)∧W.cell? ⟨g,k * 3+2,none⟩=some (.slice Xa nx cx)∧Rd encBound 4 W Ab nb cb r.2.1∧Rd encInt 1 W Xa nx cx r.2.2∧checkSys r.1 r.2.1=0
theorem ent_cpl1:∀ args w,(callFunc 46 args).run Tryz.prog w = .ok (.enter 46 args) w:=enters_of Tryz.func46 (by kernel_rfl) rfl
theorem cpl1_any (x:Int) (W:World):Calls Tryz.prog 46 #[.int .i64 x] W fun e w'=>e = .returned (.bool (farN x))∧Below W.heap.size W w':=by
 by_cases h1:x < -100000000
 · have hf:farN x=true:=by unfold farN;simp [h1]
   rw [hf]
   go_enter Tryz.func46,Tryz.ntmps46
   go_wp2
   go_ret
   exact ⟨rfl,Below.refl _ _⟩
 · by_cases h2:100000000<x
   · have hf:farN x=true:=by unfold farN;simp [h2]
     rw [hf]
     go_enter Tryz.func46,Tryz.ntmps46
     go_wp2
     go_ret
     exact ⟨rfl,Below.refl _ _⟩
   · have hf:farN x=false:=by unfold farN;simp [h1,h2]
     rw [hf]
     go_enter Tryz.func46,Tryz.ntmps46
     go_wp2
     go_ret
     exact ⟨rfl,Below.refl _ _⟩
theorem far_pred (w:World):PredB Tryz.prog 46 #[] (fun x:Int=> .int .i64 x) farN w:=fun W x hb=>by
 refine (cpl1_any x W).mono ?_
 rintro e w' ⟨rfl,h⟩
 exact ⟨rfl,hb.trans (h.mono hb.size)⟩
end Go.Proofs.YtpmkgmilfifkpaaGreatDoor
end
section
namespace Go.Proofs.YtpmkgmilfifkpaaGreatDoor
open Go.RowKit Go.Proofs
def keyV (p:Pairing):Value:=.agg #[.int .i64 p.a.lo,.int .i64 p.a.hi,.int .i64 p.b.lo,.int .i64 p.b.hi]
def keyPl:Value→Option Pairing
 | .agg a=>match a.toList with
   | [.int .i64 a,.int .i64 b,.int .i64 c,.int .i64 d]=>some ⟨⟨a,b⟩,⟨c,d⟩⟩
   | _=>none
 | _=>none
theorem keyPl_key (p:Pairing):keyPl (keyV p)=some p:=rfl
theorem keyPl_iff {p k:Pairing} {v:Value} (h:v=keyV p):keyPl v=some k↔p=k:=by
 subst h;rw [keyPl_key];simp
structure MapP {V:Type} (E:V→Value) (w:World) (b:Nat) (m:List (Pairing×V)):Prop where
 at_:∃ es clock,w.heap[b]? = some (.map es clock)∧es.toList.map (fun e=>(e.key,e.val))=m.map (fun p=>(keyV p.1,E p.2))∧
  es.toList.Pairwise (fun x y=>x.born<y.born)∧(∀ e∈es.toList,e.born<clock)
 once:(m.map (·.1)).Nodup
def putM {V:Type} (m:List (Pairing×V)) (k:Pairing) (v:V):List (Pairing×V):=
 if m.any (fun p=>decide (p.1=k)) then m.map (fun p=>if p.1=k then (k,v) else p) else m ++ [(k,v)]
def getM {V:Type} (m:List (Pairing×V)) (k:Pairing):Option V:=(m.find? (fun p=>decide (p.1=k))).map (·.2)
section
variable {V:Type} {E:V→Value} {w w':World} {b:Nat} {m:List (Pairing×V)}
theorem MapP.lt (h:MapP E w b m):b<w.heap.size:=by
 obtain ⟨es,cl,h1,_⟩:=h.at_
 exact (Array.getElem?_eq_some_iff.1 h1).1
theorem MapP.kept (h:MapP E w b m) {row:Option Nat} (hg:w.grownBy w' row) (hne:some b≠row):MapP E w' b m:=by
 have hl:=h.lt
 obtain ⟨es,cl,h1,h2⟩:=h.at_
 exact ⟨⟨es,cl,(hg.block b hl hne).trans h1,h2⟩,h.once⟩
theorem MapP.below (h:MapP E w b m) {B:Nat} (hb:Below B w w') (hB:b<B):MapP E w' b m:=by
 obtain ⟨es,cl,h1,h2⟩:=h.at_
 exact ⟨⟨es,cl,(hb.block b hB).trans h1,h2⟩,h.once⟩
theorem MapP.alloc (h:MapP E w b m) (o:Obj):MapP E (w.alloc o) b m:=h.kept (World.grownBy_alloc w o none) (by simp)
theorem MapP.drewN (h:MapP E w b m) (n:Nat):MapP E (w.drewN n) b m:=⟨h.at_,h.once⟩
theorem MapP.drew (h:MapP E w b m):MapP E w.drew b m:=⟨h.at_,h.once⟩
theorem MapP.made (w:World):MapP E (w.alloc (.map #[] 0)) w.heap.size []:=
 ⟨⟨#[],0,heap_alloc_new w _,rfl,by simp,by simp⟩,by simp⟩
theorem MapP.setCell (h:MapP E w b m) (p:Addr) (u:Value) (hp:b≠p.block):MapP E (w.setCell p u) b m:=by
 obtain ⟨es,cl,h1,h2⟩:=h.at_
 exact ⟨⟨es,cl,(Below.heap_setCell w p u b hp).trans h1,h2⟩,h.once⟩
end
theorem run_equalPl (p q:Pairing) (w:World):(Op.equal 25 (keyV p) (keyV q)).run Tryz.prog w = .ok (eqPairing p q) w:=by
 have:=equalInPairing 9997 p.a.lo p.a.hi p.b.lo p.b.hi q.a.lo q.a.hi q.b.lo q.b.hi w
 simpa [Op.equal,Op.maxDepth,keyV] using this
theorem run_checkSt (e:Bool) (n:Nat) (a b:Int) (w:World):(Instr.checkKey e (n+2) 23 (.agg #[.int .i64 a,.int .i64 b])).run Tryz.prog w = .ok () w:=by
 have h3:∀ v,(Instr.checkKey e (n+1) 3 (.int .i64 v)).run Tryz.prog w = .ok () w:=fun v=>by
  simp [Instr.checkKey,run_underlying Tryz.underlying3]
 rw [Instr.checkKey]
 simp only [Sem.run_bind,run_underlying Tryz.underlying23,Result.andThen_ok]
 have h4:=h3 a
 have h5:=h3 b
 rw [←Array.forIn_toList]
 simp only [List.forIn_cons,List.forIn_nil]
 go_simp
theorem run_checkPl (e:Bool) (p:Pairing) (w:World):(Instr.checkKey e 10000 25 (keyV p)).run Tryz.prog w = .ok () w:=by
 rw [show (10000:Nat)=9997+2+1 from rfl]
 rw [Instr.checkKey]
 simp only [Sem.run_bind,run_underlying Tryz.underlying25,Result.andThen_ok,keyV]
 have h4:=run_checkSt e 9997 p.a.lo p.a.hi w
 have h5:=run_checkSt e 9997 p.b.lo p.b.hi w
 rw [←Array.forIn_toList]
 simp only [List.forIn_cons,List.forIn_nil]
 go_simp
def findI (k:Pairing):List MapEntry→Nat→Option (Nat×Value)
 | [],_=>none
 | e::es,i=>if keyPl e.key=some k then some (i,e.val) else findI k es (i+1)
theorem run_findAskingPl (k:Pairing) (w:World):∀ (es:List MapEntry) (i:Nat),(∀ e∈es,∃ p,e.key=keyV p)→(Instr.findAsking 25 (keyV k) es i).run Tryz.prog w = .ok (findI k es i) w
 | [],_,_=>rfl
 | e::es,i,h=>by
   obtain ⟨p,hp⟩:=h e (by simp)
   have ih:=run_findAskingPl k w es (i+1) (fun e he=>h e (by simp [he]))
   rw [Instr.findAsking,Sem.run_bind,hp,run_equalPl,Result.andThen_ok,findI,hp,keyPl_key]
   by_cases hq:k=p
   · subst hq
     simp [eqPairing]
   · have h1:eqPairing k p=false:=eqPairing_no.2 hq
     rw [h1,if_neg (show ¬(some p=some k) from fun h=>hq (Option.some.inj h).symm)]
     simpa using ih
theorem run_findKeyPl (k:Pairing) (w:World) (es:List MapEntry) (h:∀ e∈es,∃ p,e.key=keyV p):(Instr.findKey 25 (keyV k) es).run Tryz.prog w = .ok (findI k es 0) w:=by
 have ha:=run_findAskingPl k w es 0 h
 cases es with
 | nil=>simp [Instr.findKey,run_underlying Tryz.underlying25,Instr.findNow,findI]
 | cons e es=>
   simp only [Instr.findKey,Sem.run_bind,run_underlying Tryz.underlying25,Result.andThen_ok,Instr.findNow,Instr.sameNow]
   exact ha
theorem findI_none {k:Pairing} :∀ (es:List MapEntry) (i:Nat),findI k es i=none→∀ e∈es,keyPl e.key≠some k
 | [],_,_=>by simp
 | e::es,i,h=>by
   unfold findI at h
   split at h
   · cases h
   · rename_i hne
     intro x hx
     rcases List.mem_cons.1 hx with rfl|hx
     · exact hne
     · exact findI_none es (i+1) h x hx
theorem findI_some {k:Pairing} :∀ (es:List MapEntry) (i j:Nat) (v:Value),findI k es i=some (j,v)→∃ n e,j=i+n∧es[n]? = some e∧keyPl e.key=some k∧e.val=v
 | [],_,_,_,h=>by simp [findI] at h
 | e::es,i,j,v,h=>by
   unfold findI at h
   split at h
   · rename_i hk
     simp only [Option.some.injEq,Prod.mk.injEq] at h
     exact ⟨0,e,by omega,rfl,hk,h.2⟩
   · obtain ⟨n,e',h1,h2,h3,h4⟩:=findI_some es (i+1) j v h
     exact ⟨n+1,e',by omega,h2,h3,h4⟩
section
variable {V:Type} {E:V→Value} {w:World} {b:Nat} {m:List (Pairing×V)}
theorem entry_at {es:List MapEntry} (h:es.map (fun e=>(e.key,e.val))=m.map (fun p=>(keyV p.1,E p.2))) {n:Nat} {e:MapEntry} (he:es[n]? = some e):∃ p,m[n]? = some p∧e.key=keyV p.1∧e.val=E p.2:=by
 have:=congrArg (·[n]?) h
 simp only [List.getElem?_map,he,Option.map_some] at this
 cases hm:m[n]? with
 | none=>rw [hm] at this;simp at this
 | some p=>rw [hm] at this;simp at this;exact ⟨p,rfl,this.1,this.2⟩
theorem entry_keys {es:List MapEntry} (h:es.map (fun e=>(e.key,e.val))=m.map (fun p=>(keyV p.1,E p.2))):∀ e∈es,∃ p,e.key=keyV p:=by
 intro e he
 obtain ⟨n,hn,hne⟩:=List.getElem_of_mem he
 obtain ⟨p,_,hp,_⟩:=entry_at h (n:=n) (by rw [List.getElem?_eq_getElem hn,hne])
 exact ⟨p.1,hp⟩
theorem once_at (h:(m.map (·.1)).Nodup) {i j:Nat} {p q:Pairing×V} (hi:m[i]? = some p) (hj:m[j]? = some q) (hpq:p.1=q.1):i=j:=by
 have hil:i<(m.map (·.1)).length:=by rw [List.length_map];exact (List.getElem?_eq_some_iff.1 hi).1
 have hjl:j<(m.map (·.1)).length:=by rw [List.length_map];exact (List.getElem?_eq_some_iff.1 hj).1
 have h1:(m.map (·.1))[i]=(m.map (·.1))[j]:=by
  have hi':=(List.getElem?_eq_some_iff.1 hi).2
  have hj':=(List.getElem?_eq_some_iff.1 hj).2
  simp only [List.getElem_map,hi',hj',hpq]
 exact (List.getElem_inj h).1 h1
theorem run_lookupPl {t e:TypeId} (ht:Tryz.prog.underlying t=some (.map 25 e)) {z:Value} (hz:(zeroValue e).run Tryz.prog w = .ok z w) (h:MapP E w b m) (k:Pairing) (ok:Bool):
 (Instr.lookup t (.map (some b)) (keyV k) ok).run Tryz.prog w = .ok (if ok then .tuple #[((getM m k).map E).getD z,.bool (getM m k).isSome] else ((getM m k).map E).getD z) w:=by
 obtain ⟨⟨es,cl,hb,hm,_,_⟩,honce⟩:=h
 have hg:(getObj b).run Tryz.prog w = .ok (.map es cl) w:=run_getObj_map w b es cl hb
 have hf:=run_findKeyPl k w es.toList (entry_keys hm)
 have hch:=run_checkPl es.isEmpty k w
 have key:(findI k es.toList 0).map (·.2)=(getM m k).map E:=by
  unfold getM
  cases hfi:findI k es.toList 0 with
  | none=>
    have hno:=findI_none _ _ hfi
    have:m.find? (fun p=>decide (p.1=k))=none:=by
     rw [List.find?_eq_none]
     intro p hp hk
     obtain ⟨n,hn,hne⟩:=List.getElem_of_mem hp
     have hlen:es.toList.length=m.length:=by simpa using congrArg List.length hm
     obtain ⟨q,hq,hqk,_⟩:=entry_at hm (n:=n) (List.getElem?_eq_getElem (by omega))
     rw [List.getElem?_eq_getElem hn,hne] at hq
     cases hq
     exact hno _ (List.getElem_mem _) (by rw [hqk,keyPl_key];simp at hk;rw [hk])
    simp [this]
  | some jv=>
    obtain ⟨j,v⟩:=jv
    obtain ⟨n,e,_,hne,hek,hev⟩:=findI_some _ _ _ _ hfi
    obtain ⟨p,hp,hpk,hpv⟩:=entry_at hm hne
    have hkp:p.1=k:=(keyPl_iff hpk).1 hek
    have:m.find? (fun p=>decide (p.1=k))=some p:=by
     cases hfd:m.find? (fun p=>decide (p.1=k)) with
     | none=>
       rw [List.find?_eq_none] at hfd
       exact absurd (by simpa using hkp) (hfd p (List.mem_of_getElem? hp))
     | some q=>
       have hqk:=List.find?_some hfd
       have hqm:=List.mem_of_find?_eq_some hfd
       obtain ⟨n',hn',hne'⟩:=List.getElem_of_mem hqm
       have:=once_at honce hp (List.getElem?_eq_getElem hn') (by rw [hne',hkp];simp at hqk;exact hqk.symm)
       subst this
       rw [List.getElem?_eq_getElem hn',hne'] at hp
       exact hp
    simp [this,←hev,hpv]
 cases hfi:findI k es.toList 0 with
 | none=>
   rw [hfi] at key hf
   have hk0:(getM m k).map E=none:=by simpa using key.symm
   have hk1:getM m k=none:=by simpa using hk0
   cases ok<;>simp [Instr.lookup,run_underlying ht,hg,hch,hf,hz,hk1]
 | some jv=>
   obtain ⟨j,v⟩:=jv
   rw [hfi] at key hf
   simp at key
   cases hgm:getM m k with
   | none=>rw [hgm] at key;simp at key
   | some u=>
     rw [hgm] at key
     simp at key
     cases ok<;>simp [Instr.lookup,run_underlying ht,hg,hch,hf,key]
theorem MapP.size {es:Array MapEntry} (h:es.toList.map (fun e=>(e.key,e.val))=m.map (fun p=>(keyV p.1,E p.2))):es.size=m.length:=by
 have:=congrArg List.length h
 simpa using this
theorem run_mapUpdatePl {t e:TypeId} (ht:Tryz.prog.underlying t=some (.map 25 e)) (h:MapP E w b m) (k:Pairing) (v:V):
 ∃ w',(Instr.mapUpdate t (.map (some b)) (keyV k) (E v)).run Tryz.prog w = .ok () w'∧MapP E w' b (putM m k v)∧w.grownBy w' (some b)∧w'.heap.size=w.heap.size:=by
 obtain ⟨⟨es,cl,hb,hm,hborn,hcl⟩,honce⟩:=h
 have hg:(getObj b).run Tryz.prog w = .ok (.map es cl) w:=run_getObj_map w b es cl hb
 have hf:=run_findKeyPl k w es.toList (entry_keys hm)
 have hch:=run_checkPl false k w
 have hgrow:∀ o,w.grownBy (ChangeMaps.setBlock w b o) (some b):=fun o=>⟨rfl,rfl,rfl,by simp [ChangeMaps.setBlock],fun i _ hi=>ChangeMaps.heap_setBlock_other hb _ (fun e=>hi (by rw [e]))⟩
 have hsz:∀ o,(ChangeMaps.setBlock w b o).heap.size=w.heap.size:=fun o=>by simp [ChangeMaps.setBlock]
 cases hfi:findI k es.toList 0 with
 | none=>
   rw [hfi] at hf
   have hno:=findI_none _ _ hfi
   have hnm:∀ p∈m,p.1≠k:=by
    intro p hp hk
    obtain ⟨n,hn,hne⟩:=List.getElem_of_mem hp
    have hlen:es.toList.length=m.length:=by simpa using congrArg List.length hm
    obtain ⟨q,hq,hqk,_⟩:=entry_at hm (n:=n) (List.getElem?_eq_getElem (by omega))
    rw [List.getElem?_eq_getElem hn,hne] at hq
    cases hq
    exact hno _ (List.getElem_mem _) (by rw [hqk,keyPl_key,hk])
   have hput:putM m k v=m ++ [(k,v)]:=by
    unfold putM
    rw [if_neg]
    simp only [List.any_eq_true,decide_eq_true_eq,not_exists,not_and]
    exact hnm
   refine ⟨_,?_,⟨⟨es.push ⟨keyV k,E v,cl⟩,cl+1,ChangeMaps.heap_setBlock_same hb _,?_,?_,?_⟩,?_⟩,hgrow _,hsz _⟩
   · simp [Instr.mapUpdate,run_underlying ht,hg,hch,hf,MapKept.run_setObj_map _ hb,ChangeMaps.setBlock]
   · rw [hput];simp [hm]
   · simp only [Array.toList_push,List.pairwise_append,List.pairwise_cons,List.mem_singleton]
     exact ⟨hborn,⟨by simp,List.Pairwise.nil⟩,fun a ha b hb=>by subst hb;exact hcl a ha⟩
   · intro e he
     simp only [Array.toList_push,List.mem_append,List.mem_singleton] at he
     rcases he with he|rfl
     · have:=hcl e he;omega
     · simp
   · rw [hput]
     simp only [List.map_append,List.map_cons,List.map_nil]
     rw [List.nodup_append]
     refine ⟨honce,by simp,fun a ha b hb=> ?_⟩
     simp only [List.mem_singleton] at hb
     obtain ⟨p,hp,rfl⟩:=List.mem_map.1 ha
     rw [hb]
     exact hnm p hp
 | some jv=>
   obtain ⟨j,u⟩:=jv
   rw [hfi] at hf
   obtain ⟨n,e0,hj,hne,hek,hev⟩:=findI_some _ _ _ _ hfi
   have hjn:j=n:=by omega
   subst hjn
   obtain ⟨p,hp,hpk,hpv⟩:=entry_at hm hne
   have hkp:p.1=k:=(keyPl_iff hpk).1 hek
   have hold:((es[j]?).map (·.key)).getD (keyV k)=keyV k:=by
    have:es[j]? = some e0:=by rw [←Array.getElem?_toList];exact hne
    rw [this];simp [hpk,hkp]
   have hstay:∀ w:World,(Instr.keyThatStays (keyV k) (keyV k)).run Tryz.prog w = .ok (keyV k) w:=by
    intro w
    have:Instr.sameBits 10000 (keyV k) (keyV k)=true:=by
     rw [show (10000:Nat)=9998+1+1 from rfl]
     simp [keyV,Instr.sameBits]
    simp [Instr.keyThatStays,this]
   have hput:∀ i:Nat,(putM m k v)[i]? = if i=j then some (k,v) else m[i]? := by
    intro i
    unfold putM
    rw [if_pos (List.any_eq_true.2 ⟨p,List.mem_of_getElem? hp,by simp [hkp]⟩),List.getElem?_map]
    by_cases hij:i=j
    · subst hij;simp [hp,hkp]
    · rw [if_neg hij]
      cases hmi:m[i]? with
      | none=>rfl
      | some q=>
        have:q.1≠k:=fun hq=>hij (once_at honce hmi hp (by rw [hq,hkp]))
        simp [this]
   have hmod:(es.modify j fun e=> { e with key:=keyV k,val:=E v }).toList=es.toList.modify j (fun e=> { e with key:=keyV k,val:=E v }):=by simp
   refine ⟨_,?_,⟨⟨es.modify j fun e=> { e with key:=keyV k,val:=E v },cl,ChangeMaps.heap_setBlock_same hb _,?_,?_,?_⟩,?_⟩,hgrow _,hsz _⟩
   · simp [Instr.mapUpdate,run_underlying ht,hg,hch,hf,hold,hstay,MapKept.run_setObj_map _ hb,ChangeMaps.setBlock]
   · apply List.ext_getElem?
     intro i
     rw [hmod,List.getElem?_map,List.getElem?_map,hput,List.getElem?_modify]
     have:=congrArg (·[i]?) hm
     simp only [List.getElem?_map] at this
     by_cases hij:i=j
     · subst hij;simp [hne]
     · have hji:¬j=i:=fun h=>hij h.symm
       simp only [if_neg hij,if_neg hji]
       simpa using this
   · rw [hmod]
     have hb':(es.toList.map (·.born)).Pairwise (· < ·):=List.pairwise_map.2 hborn
     have he:(es.toList.modify j (fun e=> { e with key:=keyV k,val:=E v })).map (·.born)=es.toList.map (·.born):=by
      apply List.ext_getElem?
      intro i
      rw [List.getElem?_map,List.getElem?_map,List.getElem?_modify]
      by_cases hij:j=i
      · subst hij;simp [hne]
      · simp [hij]
     rw [←he] at hb'
     exact List.pairwise_map.1 hb'
   · rw [hmod]
     intro e he
     obtain ⟨i,hi⟩:=List.getElem?_of_mem he
     rw [List.getElem?_modify] at hi
     by_cases hij:j=i
     · subst hij
       rw [hne] at hi
       simp at hi
       subst hi
       exact hcl e0 (List.mem_of_getElem? hne)
     · simp [hij] at hi
       exact hcl e (by rw [List.mem_iff_getElem?];exact ⟨i,by simpa using hi⟩)
   · have:(putM m k v).map (·.1)=m.map (·.1):=by
      apply List.ext_getElem?
      intro i
      rw [List.getElem?_map,List.getElem?_map,hput]
      by_cases hij:i=j
      · subst hij;simp [hp,hkp]
      · simp [hij]
     rw [this]
     exact honce
theorem wpList_mapUpdatePl {ops:Array Oper} {rest:List Oper} {o:Oper} {a:Act} {Q:Exit→Act→World→Prop}
 (hg:o.guard=none) (mm x v:Operand) (t:TypeId) (hop:o.op=Op.mapUpdate t mm x v) {e:TypeId} (ht:Tryz.prog.underlying t=some (.map 25 e)) (k:Pairing) (u:V)
 (hm:a.eval mm = .map (some b)) (hx:a.eval x=keyV k) (hv:a.eval v=E u) (h:MapP E w b m)
 (hK:∀ w',MapP E w' b (putM m k u)→w.grownBy w' (some b)→w'.heap.size=w.heap.size→wpList Tryz.prog ops Q rest (a.put o.dst undef) w'):
 wpList Tryz.prog ops Q (o::rest) a w:=by
 refine wpList_plain hg fun K' hK'=> ?_
 obtain ⟨w',hrun,r1,r2,r3⟩:=run_mapUpdatePl ht h k u
 unfold Oper.wp
 simp [execOp,hop,hm,hx,hv,hrun,Result.andThen]
 exact hK' _ _ (hK w' r1 r2 r3)
end
section
variable {V:Type} {m:List (Pairing×V)} {k k':Pairing} {v:V}
theorem getM_putM:getM (putM m k v) k'=if k'=k then some v else getM m k':=by
 unfold getM putM
 split
 · rename_i h
   by_cases hk:k'=k
   · subst hk
     rw [if_pos rfl,List.find?_map]
     obtain ⟨p,hp,hpk⟩:=List.any_eq_true.1 h
     simp at hpk
     cases hf:m.find? ((fun p:Pairing×V=>decide (p.1=k')) ∘ fun p=>if p.1=k' then (k',v) else p) with
     | none=>
       rw [List.find?_eq_none] at hf
       have:=hf p hp
       simp [hpk] at this
     | some q=>
       have:=List.find?_some hf
       simp only [Function.comp,decide_eq_true_eq] at this
       simp only [Option.map_some]
       by_cases hq:q.1=k'
       · simp [hq]
       · rw [if_neg hq] at this;exact absurd this hq
   · rw [if_neg hk,List.find?_map]
     have:((fun p:Pairing×V=>decide (p.1=k')) ∘ fun p=>if p.1=k then (k,v) else p)=fun p:Pairing×V=>decide (p.1=k'):=by
      funext p
      simp only [Function.comp]
      by_cases hp:p.1=k
      · simp [hp]
      · simp [hp]
     rw [this,Option.map_map]
     cases hf:m.find? (fun p=>decide (p.1=k')) with
     | none=>rfl
     | some q=>
       have:=List.find?_some hf
       simp only [decide_eq_true_eq] at this
       have hq:q.1≠k:=fun h=>hk (this.symm.trans h)
       simp [hq]
 · rename_i h
   have hno:m.find? (fun p=>decide (p.1=k))=none:=by
    rw [List.find?_eq_none]
    intro p hp hk
    exact h (List.any_eq_true.2 ⟨p,hp,hk⟩)
   rw [List.find?_append]
   by_cases hk:k'=k
   · subst hk;simp [hno]
   · rw [if_neg hk]
     cases hf:m.find? (fun p=>decide (p.1=k')) with
     | none=>simp;exact fun h=>hk h.symm
     | some q=>simp
end
end Go.Proofs.YtpmkgmilfifkpaaGreatDoor
end
section
namespace Go.Proofs.YtpmkgmilfifkpaaGreatDoor
def pairAt (s:Int) (i k:Nat):Pairing:=⟨⟨i,i+s⟩,⟨k,k+s⟩⟩
def rowP (s:Int) (i K:Nat):List Pairing:=(List.range K).map (pairAt s i)
def upTo (s:Int) (K i:Nat):List Pairing:=(List.range i).flatMap fun j=>rowP s j K
def cntP (n s:Int):Nat:=(n-s+1).toNat
def pairsL (na nb s:Int):List Pairing:=upTo s (cntP nb s) (cntP na s)
theorem rowP_succ (s:Int) (i k:Nat):rowP s i (k+1)=rowP s i k ++ [pairAt s i k]:=by unfold rowP;rw [List.range_succ,List.map_append];rfl
theorem upTo_succ (s:Int) (K i:Nat):upTo s K (i+1)=upTo s K i++rowP s i K:=by unfold upTo;rw [List.range_succ,List.flatMap_append];simp
theorem rowP_len (s:Int) (i k:Nat):(rowP s i k).length=k:=by simp [rowP]
theorem upTo_len (s:Int) (K:Nat):∀ i,(upTo s K i).length=i * K
 | 0=>by simp [upTo]
 | i+1=>by rw [upTo_succ,List.length_append,upTo_len s K i,rowP_len,Nat.add_mul,Nat.one_mul]
theorem upTo_lt {s:Int} {K i k:Nat} (hK:K≤16) (hi:i<16) (hk:k<K):(upTo s K i++rowP s i k).length<300:=by
 rw [List.length_append,upTo_len,rowP_len]
 have:=Nat.mul_le_mul (show i≤15 by omega) hK
 omega
theorem mem_upTo {s:Int} {K i:Nat} {p:Pairing} : p∈upTo s K i ↔ ∃ j k,j<i∧k<K∧p=pairAt s j k:=by
 unfold upTo rowP
 simp only [List.mem_flatMap,List.mem_range,List.mem_map]
 constructor
 · rintro ⟨j,hj,k,hk,rfl⟩;exact ⟨j,k,hj,hk,rfl⟩
 · rintro ⟨j,k,hj,hk,rfl⟩;exact ⟨j,hj,k,hk,rfl⟩
theorem mem_pairsL {na nb s:Int} (_:1≤s) {p:Pairing} : p∈pairsL na nb s↔0≤p.a.lo∧p.a.hi=p.a.lo+s∧p.a.hi≤na∧0≤p.b.lo∧p.b.hi=p.b.lo+s∧p.b.hi≤nb:=by
 unfold pairsL
 rw [mem_upTo]
 unfold cntP
 constructor
 · rintro ⟨j,k,hj,hk,rfl⟩
   simp only [pairAt]
   refine ⟨?_,?_,?_,?_,?_,?_⟩<;>first|trivial|omega
 · rintro ⟨h1,h2,h3,h4,h5,h6⟩
   refine ⟨p.a.lo.toNat,p.b.lo.toNat,by omega,by omega,?_⟩
   obtain ⟨⟨a1,a2⟩,⟨b1,b2⟩⟩:=p
   simp only at h1 h2 h3 h4 h5 h6
   simp only [pairAt,Pairing.mk.injEq,Stretch.mk.injEq]
   omega
theorem pairs_ask {A B:Outl} {s:Int} (hb:bothErr A B=0) (hr:roomErr A B=0) (hs:1≤s) {p:Pairing} (hp:p∈pairsL A.n B.n s):askedErr A B p=0:=by
 obtain ⟨h1,h2,h3,h4,h5,h6⟩:=(mem_pairsL hs).1 hp
 have hA:ofB A p.a=true:=by unfold ofB;simp only [Bool.and_eq_true,decide_eq_true_eq];omega
 have hB:ofB B p.b=true:=by unfold ofB;simp only [Bool.and_eq_true,decide_eq_true_eq];omega
 have hp:pairErr A B p=0:=by
  unfold pairErr
  rw [if_neg (by simpa using hb),hA,hB,if_neg (by simp),if_neg (by omega)]
 unfold askedErr
 rw [hp,if_neg (by simp),hr]
def meetL (A B:Outl) (s:Int):List Pairing:=(pairsL A.n B.n s).filter (meetsV A B)
end Go.Proofs.YtpmkgmilfifkpaaGreatDoor
end

/- Contracts that the laws lean on: Base, Gau, Arr, Mem. -/
import Derived.Test.YtpmkgmilfifkpaaGreatDoorProg
import Derived.WalkLawsBesides
import Derived.WalkSpells
import Derived.Lib.Hide
import Derived.Deep.LoopGhost
import Derived.BigQuiet
import Derived.Laws.CopyOwn
import Derived.OwnWalkIn
import Derived.RangeFuncRecord
import Derived.Deep.AppendLies
section
namespace Go.Proofs.YtpmkgmilfifkpaaGreatDoor
open Go.RowKit Go.Proofs
structure Bound where
 src:Int
 dst:Int
 most:Int
 by_:Int
deriving DecidableEq,Inhabited
structure Stretch where
 lo:Int
 hi:Int
deriving DecidableEq,Inhabited
structure Pairing where
 a:Stretch
 b:Stretch
deriving DecidableEq,Inhabited
structure Outl where
 n:Int
 ways:List Bound
 turns:List Bound
deriving DecidableEq,Inhabited
def encBound (x:Bound):List Value:=[.int .i64 x.src,.int .i64 x.dst,.int .i64 x.most,.int .i64 x.by_]
def encInt (x:Int):List Value:=[.int .i64 x]
def encPairing (x:Pairing):List Value:=[.int .i64 x.a.lo,.int .i64 x.a.hi,.int .i64 x.b.lo,.int .i64 x.b.hi]
def eqStretch (x y:Stretch):Bool:=decide (x=y)
def eqPairing (x y:Pairing):Bool:=decide (x=y)
def eqBound (x y:Bound):Bool:=decide (x=y)
theorem eqPairing_iff {x y:Pairing} : eqPairing x y=true↔x=y:=by simp [eqPairing]
theorem eqPairing_no {x y:Pairing} : eqPairing x y=false↔x≠y:=by simp [eqPairing]
theorem equalInStretch (d:Nat) (a b a' b':Int) (w:World):(Op.equalIn (d+2) 23 (.agg #[.int .i64 a,.int .i64 b]) (.agg #[.int .i64 a',.int .i64 b'])).run Tryz.prog w = .ok (eqStretch ⟨a,b⟩ ⟨a',b'⟩) w:=by
 have hS:Tryz.prog.underlying 23=some (.struct (Tryz.prog.fieldsOf 23)):=by kernel_rfl
 have hp:Tryz.prog.stoodInHeld 23=false:=by kernel_rfl
 rw [run_equalIn_agg w (d+1) 23 _ _ hS hp]
 simp only [Program.fieldsOf,Tryz.underlying23]
 go_simp
 by_cases h1:a=a'<;>by_cases h2:b=b'<;>simp [h1,h2,eqStretch]
theorem equalInPairing (d:Nat) (a b c e a' b' c' e':Int) (w:World):
 (Op.equalIn (d+3) 25 (.agg #[.int .i64 a,.int .i64 b,.int .i64 c,.int .i64 e]) (.agg #[.int .i64 a',.int .i64 b',.int .i64 c',.int .i64 e'])).run Tryz.prog w
   = .ok (eqPairing ⟨⟨a,b⟩,⟨c,e⟩⟩ ⟨⟨a',b'⟩,⟨c',e'⟩⟩) w:=by
 have hS:Tryz.prog.underlying 25=some (.struct (Tryz.prog.fieldsOf 25)):=by kernel_rfl
 have hp:Tryz.prog.stoodInHeld 25=false:=by kernel_rfl
 have hP:=fun a b a' b'=>equalInStretch d a b a' b' w
 rw [run_equalIn_agg w (d+2) 25 _ _ hS hp]
 simp only [Program.fieldsOf,Tryz.underlying25]
 go_simp
 simp only [eqPairing,Pairing.mk.injEq]
 (repeat' split)<;>simp_all
@[go_sem ↓ high] theorem eqlPairing (a b c e a' b' c' e':Int) (w:World):
   (binOp .eql 25 (.agg #[.int .i64 a,.int .i64 b,.int .i64 c,.int .i64 e]) (.agg #[.int .i64 a',.int .i64 b',.int .i64 c',.int .i64 e'])).run Tryz.prog w
     = .ok (.bool (eqPairing ⟨⟨a,b⟩,⟨c,e⟩⟩ ⟨⟨a',b'⟩,⟨c',e'⟩⟩)) w:=by
  rw [run_eql_struct,show (10000:Nat)=9997+3 from rfl,equalInPairing];rfl
@[go_sem ↓ high] theorem neqPairing (a b c e a' b' c' e':Int) (w:World):
   (binOp .neq 25 (.agg #[.int .i64 a,.int .i64 b,.int .i64 c,.int .i64 e]) (.agg #[.int .i64 a',.int .i64 b',.int .i64 c',.int .i64 e'])).run Tryz.prog w
     = .ok (.bool (!eqPairing ⟨⟨a,b⟩,⟨c,e⟩⟩ ⟨⟨a',b'⟩,⟨c',e'⟩⟩)) w:=by
  rw [run_neq_struct,show (10000:Nat)=9997+3 from rfl,equalInPairing];rfl
@[go_sem ↓ high] theorem eqGuardPairing (op:BinOp) (x y:Operand) (xs ys:Array Value) (w:World):(eqGuard op 25 x y (.agg xs) (.agg ys)).run Tryz.prog w = .ok () w:=
  run_eqGuard_agg w op 25 x y xs ys (by kernel_rfl)
theorem equalInBound (d:Nat) (a b c e a' b' c' e':Int) (w:World):
 (Op.equalIn (d+2) 50 (.agg #[.int .i64 a,.int .i64 b,.int .i64 c,.int .i64 e]) (.agg #[.int .i64 a',.int .i64 b',.int .i64 c',.int .i64 e'])).run Tryz.prog w = .ok (eqBound ⟨a,b,c,e⟩ ⟨a',b',c',e'⟩) w:=by
 have hS:Tryz.prog.underlying 50=some (.struct (Tryz.prog.fieldsOf 50)):=by kernel_rfl
 have hp:Tryz.prog.stoodInHeld 50=false:=by kernel_rfl
 rw [run_equalIn_agg w (d+1) 50 _ _ hS hp]
 simp only [Program.fieldsOf,Tryz.underlying50]
 go_simp
 (repeat' split)<;>simp_all [eqBound]
@[go_sem ↓ high] theorem neqBound (a b c e a' b' c' e':Int) (w:World):
   (binOp .neq 50 (.agg #[.int .i64 a,.int .i64 b,.int .i64 c,.int .i64 e]) (.agg #[.int .i64 a',.int .i64 b',.int .i64 c',.int .i64 e'])).run Tryz.prog w = .ok (.bool (!eqBound ⟨a,b,c,e⟩ ⟨a',b',c',e'⟩)) w:=by
  rw [run_neq_struct,show (10000:Nat)=9998+2 from rfl,equalInBound];rfl
@[go_sem ↓ high] theorem eqGuardBound (op:BinOp) (x y:Operand) (xs ys:Array Value) (w:World):(eqGuard op 50 x y (.agg xs) (.agg ys)).run Tryz.prog w = .ok () w:=
  run_eqGuard_agg w op 50 x y xs ys (by kernel_rfl)
def noneV:Int:=1099511627776
def withinB (n least most:Int):Bool:=decide (least≤n)&&decide (n≤most)
def wrongB (pts:Int) (b:Bound):Bool:=
 !withinB b.src 0 (pts-1) || !withinB b.dst 0 (pts-1)||decide (b.src=b.dst) || !withinB b.most (-1000000) 1000000 || !withinB b.by_ 0 1000000
def checkSys (pts:Int) (bs:List Bound):Int:=
 if 60<pts∨400<bs.length then 2 else if pts<1∨bs.any (wrongB pts)=true then 1 else 0
abbrev Row:=List Int
def rAt (r:Row) (i:Int):Int:=r.getD i.toNat 0
def rPut (r:Row) (i v:Int):Row:=r.set i.toNat v
@[simp] theorem rPut_len (r:Row) (i v:Int):(rPut r i v).length=r.length:=by simp [rPut]
def relaxes (r:Row) (b:Bound):Bool:=decide (rAt r b.src<noneV)&&decide (rAt r b.src+b.most<rAt r b.dst)
def relaxStep (st:Row×Row) (b:Bound) (i:Nat):Row×Row:=
 if relaxes st.1 b then (rPut st.1 b.dst (rAt st.1 b.src+b.most),rPut st.2 b.dst i) else st
def passTo (bs:List Bound) (st:Row×Row):Nat→Row×Row
 | 0=>st
 | k+1=>match bs[k]? with
   | some b=>relaxStep (passTo bs st k) b k
   | none=>passTo bs st k
def pass (bs:List Bound) (st:Row×Row):Row×Row:=passTo bs st bs.length
def settledLoop (bs:List Bound):Nat→Row×Row→Row×Row×Bool
 | 0,st=>(st.1,st.2,false)
 | n+1,st=>if (pass bs st).1=st.1 then ((pass bs st).1,(pass bs st).2,true) else settledLoop bs n (pass bs st)
def lasts:Row:=List.replicate 60 (-1)
def settled (pts:Int) (bs:List Bound) (r:Row):Row×Row×Bool:=settledLoop bs (pts+1).toNat (r,lasts)
def zeroRow:Row:=List.replicate 60 0
def emptyRow:Row:=List.replicate 60 noneV
def solvedR (pts:Int) (bs:List Bound):Row×Row×Bool:=settled pts bs zeroRow
def solvedOk (pts:Int) (bs:List Bound):Bool:=(solvedR pts bs).2.2
def solvedX (pts:Int) (bs:List Bound):List Int:=if solvedOk pts bs then (solvedR pts bs).1.take pts.toNat else []
def fromR (pts:Int) (bs:List Bound) (a:Int):Row×Row×Bool:=settled pts bs (rPut emptyRow a 0)
def greatestR (pts:Int) (bs:List Bound) (a b:Int):Int:=rAt (fromR pts bs a).1 b
theorem relaxStep_len (st:Row×Row) (b:Bound) (i:Nat):(relaxStep st b i).1.length=st.1.length∧(relaxStep st b i).2.length=st.2.length:=by
 unfold relaxStep;split<;>simp
theorem passTo_len (bs:List Bound) (st:Row×Row):∀ k,(passTo bs st k).1.length=st.1.length∧(passTo bs st k).2.length=st.2.length
 | 0=>⟨rfl,rfl⟩
 | k+1=>by
   have ih:=passTo_len bs st k
   unfold passTo
   split
   · have:=relaxStep_len (passTo bs st k) ‹_› k
     exact ⟨this.1.trans ih.1,this.2.trans ih.2⟩
   · exact ih
theorem settledLoop_len (bs:List Bound):∀ (n:Nat) (st:Row×Row),(settledLoop bs n st).1.length=st.1.length∧(settledLoop bs n st).2.1.length=st.2.length
 | 0,_=>⟨rfl,rfl⟩
 | n+1,st=>by
   have hp:=passTo_len bs st bs.length
   unfold settledLoop
   split
   · exact hp
   · have ih:=settledLoop_len bs n (pass bs st)
     exact ⟨ih.1.trans hp.1,ih.2.trans hp.2⟩
theorem lasts_len':lasts.length=60:=by simp [lasts]
theorem settled_len (pts:Int) (bs:List Bound) (r:Row):(settled pts bs r).1.length=r.length∧(settled pts bs r).2.1.length=60:=by
 have:=settledLoop_len bs (pts+1).toNat (r,lasts)
 exact ⟨this.1,this.2.trans lasts_len'⟩
def longerStep (now:Row) (st:Row×Row) (b:Bound) (i:Nat):Row×Row:=
 if decide (rAt now b.src<noneV)&&decide (rAt now b.src+b.most<rAt st.1 b.dst) then (rPut st.1 b.dst (rAt now b.src+b.most),rPut st.2 b.dst i) else st
def longerTo (bs:List Bound) (now:Row):Nat→Row×Row
 | 0=>(emptyRow,zeroRow)
 | k+1=>match bs[k]? with
   | some b=>longerStep now (longerTo bs now k) b k
   | none=>longerTo bs now k
def longerR (bs:List Bound) (now:Row):Row×Row:=longerTo bs now bs.length
structure Walks where
 sums:List Row
 last:List Row
deriving DecidableEq,Inhabited
def Walks.now (w:Walks):Row:=w.sums.getD (w.sums.length-1) []
def Walks.longer (bs:List Bound) (w:Walks):Walks:={ sums:=w.sums ++ [(longerR bs w.now).1],last:=w.last ++ [(longerR bs w.now).2] }
def backTo (bs:List Bound) (last:List Row):Nat→Int→List Int
 | 0,_=> []
 | 1,_=> []
 | k+2,p=>rAt (last.getD (k+1) []) p::backTo bs last (k+1) (bs.getD (rAt (last.getD (k+1) []) p).toNat default).src
def Walks.back (bs:List Bound) (w:Walks) (p:Int):List Int:=(backTo bs w.last w.last.length p).reverse
def walks0 (p:Nat):Walks:={ sums:=[rPut emptyRow p 0],last:=[zeroRow] }
def circleRow (bs:List Bound):List Walks→Nat→List Walks×Option (List Int)
 | [],_=>([],none)
 | w::ws,p=>if rAt (w.longer bs).now p<0 then (w.longer bs::ws,some ((w.longer bs).back bs p))
   else ((w.longer bs)::(circleRow bs ws (p+1)).1,(circleRow bs ws (p+1)).2)
def circleLoop (bs:List Bound):Nat→List Walks→List Int
 | 0,_=> []
 | n+1,all=>match circleRow bs all 0 with
   | (_,some c)=>c
   | (all',none)=>circleLoop bs n all'
def circleX (pts:Int) (bs:List Bound):List Int:=circleLoop bs pts.toNat ((List.range pts.toNat).map walks0)
section
variable {P:Program}
def rowA (r:List Int):Array Value:=(r.map fun n=>Value.int .i64 n).toArray
@[simp] theorem rowA_size (r:List Int):(rowA r).size=r.length:=by simp [rowA]
theorem rowA_get (r:List Int) (i:Nat):(rowA r)[i]? = (r[i]?).map fun n=>Value.int .i64 n:=by simp [rowA]
theorem rowA_set (r:List Int) (i:Nat) (v:Int):(rowA r).setIfInBounds i (.int .i64 v)=rowA (r.set i v):=by
 apply Array.ext_getElem?
 intro j
 rw [rowA_get,Array.getElem?_setIfInBounds,List.getElem?_set]
 simp only [rowA_size,rowA_get]
 by_cases h:i=j
 · simp only [h,if_true]
   by_cases h2:j<r.length<;>simp [h2]
 · simp [h]
theorem rowA_one (r:List Int):(rowA r).all (·.oneCell')=true:=by
 rw [Array.all_eq_true_iff_forall_mem]
 intro v hv
 simp only [rowA,List.mem_toArray,List.mem_map] at hv
 obtain ⟨n,_,rfl⟩:=hv
 rfl
theorem run_part_int (w:World) {e:TypeId} (he:P.underlying e=some (.int .i64)) (r:List Int) (i:Nat) (h:i<r.length):(part e (rowA r) i).run P w = .ok (.int .i64 r[i]) w:=by
 have hagg:(isAgg e).run P w = .ok false w:=by
  unfold isAgg
  rw [Sem.run_bind,run_underlying he w]
  rfl
 simp [part,hagg,h];simp [rowA]
theorem run_equalIn_row (d:Nat) {t e:TypeId} {len:Nat} {i:TypeInfo} (ht:P.underlying t=some (.array len e)) (he:P.underlying e=some (.int .i64)) (hi:P.info? e=some i) (hs:i.size=1)
 (xs ys:List Int) (hx:xs.length=len) (hy:ys.length=len) (w:World):
 (Op.equalIn ((d+1)+1) t (.agg (rowA xs)) (.agg (rowA ys))).run P w = .ok (decide (xs=ys)) w:=by
 obtain ⟨E,hE⟩:∃ E,E=Op.equalIn (d+1):=⟨_,rfl⟩
 have hEi:∀ (a b:Int) (w:World),(E e (.int .i64 a) (.int .i64 b)).run P w = .ok (a==b) w:=fun a b w=>by rw [hE];exact run_equalIn_int w d e .i64 .i64 a b he
 rw [Op.equalIn,←hE]
 clear hE
 simp only [Sem.run_bind,run_underlying ht,Result.andThen_ok,sizeOf,typeInfo,hi,run_program,Sem.run_pure,hs]
 simp only [Std.Legacy.Range.forIn_eq_forIn_range',Std.Legacy.Range.size,Nat.sub_zero,Nat.add_sub_cancel,Nat.div_one]
 obtain ⟨k,n,hk0,hn0⟩:∃ k n:Nat,k=0∧n=len:=⟨0,len,rfl,rfl⟩
 rw [show List.range' 0 len=List.range' k n by rw [hk0,hn0]]
 have hk:k+n=len:=by omega
 have hj:∀ j,j<k→xs[j]? = ys[j]? := fun j h=>absurd h (by omega)
 clear hk0 hn0
 induction n generalizing k with
 | zero=>
   have:xs=ys:=by
    apply List.ext_getElem?
    intro j
    by_cases h:j<k
    · exact hj j h
    · rw [List.getElem?_eq_none (by omega),List.getElem?_eq_none (by omega)]
   subst this
   simp
 | succ n ih=>
   have h1:k<xs.length:=by omega
   have h2:k<ys.length:=by omega
   by_cases hq:xs[k]=ys[k]
   · have:=ih (k+1) (by omega) (fun j hjk=>by
      by_cases h:j<k
      · exact hj j h
      · have:j=k:=by omega
        subst this
        rw [List.getElem?_eq_getElem h1,List.getElem?_eq_getElem h2,hq])
     simp only [List.range'_succ,List.forIn_cons,Nat.mul_one,Sem.run_bind,run_part_int w he xs k h1,run_part_int w he ys k h2,Result.andThen_ok,hEi,hq,beq_self_eq_true,Bool.not_true,Bool.false_eq_true,if_false,Sem.run_pure] at this ⊢
     exact this
   · have hne:(xs[k]==ys[k])=false:=by simpa using hq
     have hxy:xs≠ys:=by
      rintro rfl
      exact hq rfl
     simp only [List.range'_succ,List.forIn_cons,Nat.mul_one,Sem.run_bind,run_part_int w he xs k h1,run_part_int w he ys k h2,Result.andThen_ok,hEi,hne,Bool.not_false,if_true,Sem.run_pure]
     simp [hxy]
def rowAt? (w:World) (g n:Nat):Option (Array Value):=
 match w.heap[g]? with
 | some (.cells cs _ (0,0))=>if cs.size=n then some cs else none
 | _=>none
section
variable {w:World} {g b n:Nat} {cs:Array Value}
theorem rowAt?_heap (h:rowAt? w g n=some cs):∃ t,w.heap[g]? = some (.cells cs t (0,0))∧cs.size=n:=by
 unfold rowAt? at h
 split at h
 · rename_i c t hc
   split at h
   · cases h;exact ⟨t,hc,by assumption⟩
   · cases h
 · cases h
theorem rowAt?_of {t:TypeId} (h:w.heap[g]? = some (.cells cs t (0,0))) (hn:cs.size=n):rowAt? w g n=some cs:=by
 unfold rowAt?;rw [h];simp [hn]
@[go_sem,simp] theorem rowAt?_drew:rowAt? w.drew g n=rowAt? w g n:=rfl
@[go_sem,simp] theorem rowAt?_drewN (m:Nat):rowAt? (w.drewN m) g n=rowAt? w g n:=rfl
@[go_sem] theorem rowAt?_alloc_at (c:Array Value) (t:TypeId) (hn:b=w.heap.size):rowAt? (w.alloc (.cells c t)) b n=if c.size=n then some c else none:=by
  subst hn
  unfold rowAt?
  rw [heap_alloc_new];rfl
@[go_sem] theorem rowAt?_alloc_past (o:Obj) (hb:b<w.heap.size):rowAt? (w.alloc o) b n=rowAt? w b n:=by
  unfold rowAt?
  rw [Below.heap_alloc w o b hb]
@[go_sem] theorem rowAt?_setCell_same (i:Nat) (v:Value):rowAt? (w.setCell ⟨g,i,none⟩ v) g n=(rowAt? w g n).map (·.setIfInBounds i v):=by
  unfold rowAt?
  show (match (w.heap.modify g _)[g]? with|some (.cells cs _ (0,0))=>if cs.size=n then some cs else none|_=>none)=_
  cases h:w.heap[g]? with
  | none=>
    rw [Array.getElem?_eq_none (by rw [Array.size_modify];rwa [Array.getElem?_eq_none_iff] at h)];rfl
  | some o=>
    obtain ⟨hlt,hk⟩:=Array.getElem?_eq_some_iff.1 h
    rw [Array.getElem?_eq_getElem (by rw [Array.size_modify];exact hlt),Array.getElem_modify_self,hk]
    cases o with
    | cells c t fr=>
      rcases fr with ⟨a,b⟩
      rcases a with _|a
      · rcases b with _|b
        · by_cases hc:c.size=n<;>simp [hc]
        · rfl
      · rfl
    | _=>rfl
@[go_sem] theorem rowAt?_setCell_other (a:Addr) (v:Value) (h:¬b=a.block):rowAt? (w.setCell a v) b n=rowAt? w b n:=by
  unfold rowAt?
  rw [Below.heap_setCell w a v b h]
theorem rowAt?_lt (h:rowAt? w g n=some cs):g<w.heap.size:=by
 obtain ⟨t,h,_⟩:=rowAt?_heap h
 exact (Array.getElem?_eq_some_iff.1 h).1
@[go_sem] theorem rowAt?_setRow_same (cs':Array Value) (h:(rowAt? w g n).isSome=true) (hs:cs'.size=n):rowAt? (w.setRow g cs') g n=some cs':=by
  obtain ⟨cs,hc⟩:=Option.isSome_iff_exists.1 h
  obtain ⟨t,h1,h2⟩:=rowAt?_heap hc
  exact rowAt?_of (setRow_heap w g cs cs' t (0,0) h1) hs
@[go_sem] theorem rowAt?_setRow_other (cs':Array Value) (h:¬b=g):rowAt? (w.setRow g cs') b n=rowAt? w b n:=by
  unfold rowAt?
  rw [setRow_other w g b cs' h]
@[go_sem] theorem cell?_setRow_other (cs':Array Value) (i:Nat) (h:¬b=g):(w.setRow g cs').cell? ⟨b,i,none⟩=w.cell? ⟨b,i,none⟩:=by
  unfold World.cell?
  rw [setRow_other w g b cs' h]
@[go_sem] theorem frozen?_setRow_other (cs':Array Value) (i:Nat) (h:¬b=g):(w.setRow g cs').frozen? ⟨b,i,none⟩=w.frozen? ⟨b,i,none⟩:=by
  unfold World.frozen?
  rw [setRow_other w g b cs' h]
@[go_sem] theorem size_setRow' (cs':Array Value):(w.setRow g cs').heap.size=w.heap.size:=size_setRow w g cs'
theorem rowAt?_cell (h:rowAt? w g n=some cs) (i:Nat):w.cell? ⟨g,i,none⟩=cs[i]? := by
 obtain ⟨t,h1,_⟩:=rowAt?_heap h
 exact cell_of_row w g i cs t (0,0) h1
theorem rowAt?_free (h:rowAt? w g n=some cs) (i:Nat):w.frozen? ⟨g,i,none⟩=false:=by
 obtain ⟨t,h1,_⟩:=rowAt?_heap h
 exact frozen_of_row w g i cs t h1
theorem rowAt?_int {r:List Int} (h:rowAt? w g n=some (rowA r)) {i:Nat} (hi:i<r.length):w.cell? ⟨g,i,none⟩=some (.int .i64 (r.getD i 0)):=by
 rw [rowAt?_cell h,rowA_get]
 simp [List.getD,hi]
theorem rowAt?_len {r:List Int} (h:rowAt? w g n=some (rowA r)):r.length=n:=by
 obtain ⟨t,_,h2⟩:=rowAt?_heap h
 simpa using h2
theorem rowAt?_below {B:Nat} {w':World} (h:rowAt? w g n=some cs) (hb:Below B w w') (hg:g<B):rowAt? w' g n=some cs:=by
 obtain ⟨t,h1,h2⟩:=rowAt?_heap h
 exact rowAt?_of ((hb.block g hg).trans h1) h2
@[go_sem] theorem setRow_alloc_at (c c':Array Value) (t:TypeId) (hb:b=w.heap.size):(w.alloc (.cells c t)).setRow b c'=w.alloc (.cells c' t):=by
  subst hb
  simp only [World.setRow,World.alloc]
  congr 1
  apply Array.ext_getElem?
  intro i
  rw [Array.getElem?_modify,Array.getElem?_push,Array.getElem?_push]
  by_cases h:i=w.heap.size
  · subst h;simp
  · rw [if_neg h,if_neg (fun e=>h e.symm),if_neg h]
end
structure RowT (P:Program) (t e:TypeId) (n:Nat):Prop where
 arr:P.underlying t=some (.array n e)
 int:P.underlying e=some (.int .i64)
 info:(P.info? e).map (·.size)=some 1
 size:(P.info? t).map (·.size)=some n
def slowLoad (P:Program) (t:TypeId) (g:Nat) (w:World):Result Value:=(Instr.loadAt t (.pointer (some ⟨g,0,none⟩))).run P w
def slowStore (P:Program) (t:TypeId) (g:Nat) (v:Value) (w:World):Result Unit:=(Instr.storeAt t (.pointer (some ⟨g,0,none⟩)) v).run P w
theorem run_loadAt_row {t e:TypeId} {n:Nat} (T:RowT P t e n) (g:Nat) (w:World):
 (Instr.loadAt t (.pointer (some ⟨g,0,none⟩))).run P w=match rowAt? w g n with|some cs=> .ok (.agg cs) w|none=>slowLoad P t g w:=by
 cases h:rowAt? w g n with
 | none=>rfl
 | some cs=>
   obtain ⟨t',h1,h2⟩:=rowAt?_heap h
   simp only [Instr.loadAt,Instr.sureAddr,Sem.run_bind,Sem.run_pure,Result.andThen_ok]
   exact run_loadVar_row w g t' t cs (0,0) _ h1 T.arr rfl (by rw [h2];exact T.size)
theorem run_storeAt_row {t e:TypeId} {n:Nat} (T:RowT P t e n) (g:Nat) (r:List Int) (w:World):
 (Instr.storeAt t (.pointer (some ⟨g,0,none⟩)) (.agg (rowA r))).run P w=if (rowAt? w g n).isSome=true∧r.length=n then .ok () (w.setRow g (rowA r)) else slowStore P t g (.agg (rowA r)) w:=by
 split
 · rename_i h
   obtain ⟨cs,hc⟩:=Option.isSome_iff_exists.1 h.1
   obtain ⟨t',h1,h2⟩:=rowAt?_heap hc
   simp only [Instr.storeAt,Instr.sureAddr,Sem.run_bind,Sem.run_pure,Result.andThen_ok]
   exact run_storeVar_row w g t' t cs (rowA r) h1 (by rw [rowA_size,h.2];exact T.size) (by rw [rowA_size,h2,h.2]) (rowA_one r)
 · rfl
theorem run_alloc_row {t:TypeId} {cs:Array Value} (hz:(P.info? t).map (·.zero)=some (some (.agg cs))) (w:World):
 (Instr.alloc t true (.tuple #[])).run P w = .ok (.pointer (some ⟨w.heap.size,0,none⟩)) (w.alloc (.cells cs t)):=by
 cases hi:P.info? t with
 | none=>simp [hi] at hz
 | some i=>
   have h0:i.zero=some (.agg cs):=by simpa [hi] using hz
   simp [Instr.alloc,zeroValue,typeInfo,hi,h0,newVar,newRow,Value.cells]
theorem run_eql_row {t e:TypeId} {n:Nat} (T:RowT P t e n) (xs ys:List Int) (w:World) (hx:xs.length=n) (hy:ys.length=n):
 (binOp .eql t (.agg (rowA xs)) (.agg (rowA ys))).run P w = .ok (.bool (decide (xs=ys))) w:=by
 obtain ⟨i,hi,hs⟩:∃ i,P.info? e=some i∧i.size=1:=by simpa using T.info
 rw [run_eql_struct,show (10000:Nat)=9998+1+1 from rfl,run_equalIn_row 9998 T.arr T.int hi hs xs ys hx hy]
 rfl
end
theorem row206:RowT Tryz.prog 150 3 60:=⟨Tryz.underlying150,Tryz.underlying3,by kernel_rfl,by kernel_rfl⟩
theorem row207:RowT Tryz.prog 151 3 60:=⟨Tryz.underlying151,Tryz.underlying3,by kernel_rfl,by kernel_rfl⟩
theorem zero206:(Tryz.prog.info? 150).map (·.zero)=some (some (.agg (rowA zeroRow))):=by kernel_rfl
theorem zero207:(Tryz.prog.info? 151).map (·.zero)=some (some (.agg (rowA zeroRow))):=by kernel_rfl
section
variable {P:Program} {F:Fence} {nn:Nat} {ops:Array Oper} {rest:List Oper} {o:Oper} {a:Act} {w:World} {Q:Exit→Act→World→Prop}
theorem wpL_load {t e:TypeId} {n:Nat} (T:RowT P t e n) {x:Operand} (ho:o.op = .load t x) (hgd:o.guard=none) {g:Nat} (hx:a.eval x = .pointer (some ⟨g,0,none⟩)) {cs:Array Value} (hr:rowAt? w g n=some cs)
 (h:wpList P ops Q rest (a.put o.dst (.agg cs)) w):wpList P ops Q (o::rest) a w:=by
 refine wpList_plain hgd fun _ hK=> ?_
 unfold Oper.wp execOp
 simp only [ho,hx,Sem.run_bind,run_loadAt_row T,hr,Result.andThen_ok,Sem.run_pure]
 exact hK _ _ h
theorem wpL_store {t e:TypeId} {n:Nat} (T:RowT P t e n) {x y:Operand} (ho:o.op = .store t x y) (hgd:o.guard=none) {g:Nat} (hx:a.eval x = .pointer (some ⟨g,0,none⟩)) {r:List Int} (hy:a.eval y = .agg (rowA r)) (hr:(rowAt? w g n).isSome=true) (hl:r.length=n)
 (h:wpList P ops Q rest (a.put o.dst undef) (w.setRow g (rowA r))):wpList P ops Q (o::rest) a w:=by
 refine wpList_plain hgd fun _ hK=> ?_
 unfold Oper.wp execOp
 simp only [ho,hx,hy,Sem.run_bind,run_storeAt_row T,hr,hl,and_self,if_true,Result.andThen_ok,Sem.run_pure]
 exact hK _ _ h
theorem wpL_alloc {t:TypeId} (ho:o.op = .alloc t) (hgd:o.guard=none) {cs:Array Value} (hz:(P.info? t).map (·.zero)=some (some (.agg cs)))
 (h:wpList P ops Q rest (a.put o.dst (.pointer (some ⟨w.heap.size,0,none⟩))) (w.alloc (.cells cs t))):wpList P ops Q (o::rest) a w:=by
 refine wpList_plain hgd fun _ hK=> ?_
 unfold Oper.wp execOp
 simp only [ho,Sem.run_bind,run_alloc_row hz,Result.andThen_ok,Sem.run_pure]
 exact hK _ _ h
theorem wpL_storeNew {t e:TypeId} {n:Nat} (T:RowT P t e n) {x y:Operand} (ho:o.op = .store t x y) (hgd:o.guard=none) {c:Array Value} {t':TypeId} {b:Nat} (hx:a.eval x = .pointer (some ⟨b,0,none⟩)) (hb:b=w.heap.size) (hc:c.size=n) {r:List Int} (hy:a.eval y = .agg (rowA r)) (hl:r.length=n)
 (h:wpList P ops Q rest (a.put o.dst undef) (w.alloc (.cells (rowA r) t'))):wpList P ops Q (o::rest) a (w.alloc (.cells c t')):=by
 refine wpL_store T ho hgd hx hy (by rw [rowAt?_alloc_at _ _ hb,if_pos hc];rfl) hl ?_
 rwa [setRow_alloc_at _ _ _ hb]
end
@[go_sem,simp] theorem rowZ_ne:(rowA zeroRow = #[])=False:=by simp [rowA,zeroRow]
@[go_sem ↓ high] theorem eql207 (xs ys:List Int) (w:World) (hx:xs.length=60) (hy:ys.length=60):(binOp .eql 151 (.agg (rowA xs)) (.agg (rowA ys))).run Tryz.prog w = .ok (.bool (decide (xs=ys))) w:=run_eql_row row207 xs ys w hx hy
@[go_sem ↓ high] theorem eqGuard207 (op:BinOp) (x y:Operand) (xs ys:Array Value) (w:World):(eqGuard op 151 x y (.agg xs) (.agg ys)).run Tryz.prog w = .ok () w:=
  run_eqGuard_agg w op 151 x y xs ys (by kernel_rfl)
attribute [go_sem] rowA_size
@[go_sem] theorem zeroRow_len:zeroRow.length=60:=by simp [zeroRow]
@[go_sem] theorem emptyRow_len:emptyRow.length=60:=by simp [emptyRow]
@[go_sem] theorem lasts_len:lasts.length=60:=by simp [lasts]
theorem add_lit (b off j:Nat):(⟨b,off,none⟩:Addr).add j=⟨b,off+j,none⟩:=by
 unfold Addr.add
 split
 · rename_i h;subst h;rfl
 · rfl
theorem below_drewN' {B:Nat} {a w:World} (h:Below B a w) (n:Nat):Below B a (w.drewN n):=⟨h.os,h.tape,h.output,h.size,h.block⟩
theorem below_step {B B':Nat} {a W w:World} (h:Below B' W w) (hB:B≤B') (h0:Below B a W):Below B a w:=h0.trans (h.mono hB)
structure Rd {α:Type} (enc:α→List Value) (k:Nat) (w:World) (A:Option Addr) (n c:Nat) (xs:List α):Prop where
 len:xs.length=n
 big:n≤17592186044416
 cap:n≤c∧c≤9223372036854775807
 at_:0<n→∃ b off,A=some ⟨b,off,none⟩∧b<w.heap.size∧∀ i x,xs[i]? = some x→∀ j u,(enc x)[j]? = some u→w.cell? ⟨b,off+i * k+j,none⟩=some u
section
variable {α:Type} {enc:α→List Value} {k n c:Nat} {w w':World} {A:Option Addr} {xs:List α}
theorem Rd.none_ (A:Option Addr) (c:Nat) (hc:c≤9223372036854775807):Rd enc k w A 0 c []:=⟨rfl,by omega,⟨Nat.zero_le _,hc⟩,fun h=>absurd h (by omega)⟩
theorem Rd.keep (h:Rd enc k w A n c xs) (hs:w.heap.size≤w'.heap.size) (hk:∀ p:Addr,p.block<w.heap.size→w'.cell? p=w.cell? p):Rd enc k w' A n c xs:=
 ⟨h.len,h.big,h.cap,fun hn=>by
   obtain ⟨b,off,e,hlt,hc⟩:=h.at_ hn
   exact ⟨b,off,e,Nat.lt_of_lt_of_le hlt hs,fun i x hx j u hu=>(hk ⟨b,_,none⟩ hlt).trans (hc i x hx j u hu)⟩⟩
theorem Rd.below (h:Rd enc k w A n c xs) {B:Nat} (hb:Below B w w') (hB:w.heap.size≤B):Rd enc k w' A n c xs:=
 h.keep hb.size fun _ hp=>hb.cell (Nat.lt_of_lt_of_le hp hB)
theorem Rd.alloc (h:Rd enc k w A n c xs) (o:Obj):Rd enc k (w.alloc o) A n c xs:=h.keep (by simp) fun p hp=>World.cell?_alloc_lt w o p hp
theorem Rd.drewN (h:Rd enc k w A n c xs) (m:Nat):Rd enc k (w.drewN m) A n c xs:=h.keep (Nat.le_refl _) fun _ _=>rfl
theorem Rd.drew (h:Rd enc k w A n c xs):Rd enc k w.drew A n c xs:=h.keep (Nat.le_refl _) fun _ _=>rfl
theorem Rd.one (h:Rd enc k w A n c xs) {i:Nat} (hi:i<n):
 ∃ b off x,A=some ⟨b,off,none⟩∧b<w.heap.size∧xs[i]? = some x∧∀ j u,(enc x)[j]? = some u→w.cell? ⟨b,off+i * k+j,none⟩=some u:=by
 obtain ⟨b,off,e,hlt,hc⟩:=h.at_ (by omega)
 have hx:xs[i]? = some (xs[i]'(by rw [h.len];exact hi)):=List.getElem?_eq_getElem _
 exact ⟨b,off,_,e,hlt,hx,fun j u hu=>hc i _ hx j u hu⟩
theorem Rd.take (h:Rd enc k w A n c xs) {m c':Nat} (hm:m≤n) (hc':m≤c'∧c'≤c):Rd enc k w A m c' (xs.take m):=
 ⟨by rw [List.length_take,h.len];omega,by have:=h.big;omega,⟨hc'.1,by have:=h.cap;omega⟩,fun hn=>by
   obtain ⟨b,off,e,hlt,hc⟩:=h.at_ (by omega)
   exact ⟨b,off,e,hlt,fun i x hx=>hc i x (by
    rw [List.getElem?_take] at hx
    split at hx
    · exact hx
    · cases hx)⟩⟩
theorem Rd.drop (h:Rd enc k w A n c xs) {m:Nat} (hm:m≤n) {A':Option Addr} (hA:m<n→A'=A.map (·.add (m * k))):Rd enc k w A' (n-m) (c-m) (xs.drop m):=
 ⟨by rw [List.length_drop,h.len],by have:=h.big;omega,by have:=h.cap;omega,fun hn=>by
   obtain ⟨b,off,e,hlt,hc⟩:=h.at_ (by omega)
   refine ⟨b,off+m * k,by rw [hA (by omega),e];simp [add_lit],hlt,fun i x hx j u hu=> ?_⟩
   rw [List.getElem?_drop] at hx
   have:=hc _ x hx j u hu
   rwa [Nat.add_mul,←Nat.add_assoc] at this⟩
end
theorem flatMap_len {α:Type} {enc:α→List Value} {k:Nat} (hk:∀ x,(enc x).length=k):∀ ys:List α,(ys.flatMap enc).length=ys.length * k
 | []=>by simp
 | y::ys=>by rw [List.flatMap_cons,List.length_append,hk,flatMap_len hk ys,List.length_cons,Nat.add_mul];omega
structure Own {α:Type} (enc:α→List Value) (k:Nat) (e:TypeId) (B:Nat) (w:World) (A:Option Addr) (n c:Nat) (xs:List α):Prop where
 len:xs.length=n
 own:w.ownsRow B e k (.slice A n c) n (xs.flatMap enc)
def blockOf (A:Option Addr):Option Nat:=A.map (·.block)
theorem ownBlock_slice (A:Option Addr) (n c:Nat):(Value.slice A n c).ownBlock=blockOf A:=by cases A<;>rfl
section
variable {α:Type} {enc:α→List Value} {k n c B:Nat} {e:TypeId} {w w':World} {A:Option Addr} {xs:List α}
theorem Own.none_ (enc:α→List Value) (k:Nat) (e:TypeId) (B:Nat) (w:World):Own enc k e B w none 0 0 []:=⟨rfl,World.ownsRow_nil w B e k⟩
theorem Own.form (h:Own enc k e B w A n c xs):(A=none∧n=0∧c=0)∨∃ g,A=some ⟨g,0,none⟩∧B≤g∧g<w.heap.size:=by
 rcases h.own.2 with ⟨h1,_⟩|⟨g,cap,cur,h1,h2,h3,_⟩
 · injection h1 with a b c;exact .inl ⟨a,b,c⟩
 · injection h1 with a b c
   refine .inr ⟨g,a,h2,?_⟩
   rcases Nat.lt_or_ge g w.heap.size with h|h
   · exact h
   · rw [Array.getElem?_eq_none h] at h3;cases h3
theorem Own.kept (h:Own enc k e B w A n c xs) {row:Option Nat} (hg:w.grownBy w' row) (hne:A=none∨blockOf A≠row):Own enc k e B w' A n c xs:=
 ⟨h.len,h.own.kept hg (by
   rw [ownBlock_slice]
   rcases hne with rfl|h
   · exact .inl rfl
   · exact .inr h)⟩
theorem Own.below (h:Own enc k e B w A n c xs) {B':Nat} (hb:Below B' w w') (hB:w.heap.size≤B'):Own enc k e B w' A n c xs:=
 h.kept (row:=none) ⟨hb.os,hb.tape,hb.output,hb.size,fun i hi _=>hb.block i (by omega)⟩ (by cases A<;>simp [blockOf])
theorem Own.alloc (h:Own enc k e B w A n c xs) (o:Obj):Own enc k e B (w.alloc o) A n c xs:=⟨h.len,h.own.alloc o⟩
theorem Own.drewN (h:Own enc k e B w A n c xs) (m:Nat):Own enc k e B (w.drewN m) A n c xs:=⟨h.len,h.own⟩
theorem Own.drew (h:Own enc k e B w A n c xs):Own enc k e B w.drew A n c xs:=⟨h.len,h.own⟩
theorem Own.mono (h:Own enc k e B w A n c xs) {B':Nat} (hB:B'≤B):Own enc k e B' w A n c xs:=
 ⟨h.len,h.own.1,by
   rcases h.own.2 with h1|⟨g,cap,cur,h1,h2,h3⟩
   · exact .inl h1
   · exact .inr ⟨g,cap,cur,h1,Nat.le_trans hB h2,h3⟩⟩
theorem flatMap_at (hk:∀ x,(enc x).length=k):∀ (xs:List α) (i:Nat) (x:α),xs[i]? = some x→∀ j u,(enc x)[j]? = some u→(xs.flatMap enc)[i * k+j]? = some u
 | [],i,x,hx=>by simp at hx
 | y::ys,0,x,hx=>by
   intro j u hu
   simp only [List.getElem?_cons_zero,Option.some.injEq] at hx
   subst hx
   have hj:j<(enc y).length:=(List.getElem?_eq_some_iff.1 hu).1
   rw [List.flatMap_cons,List.getElem?_append_left (by omega),Nat.zero_mul,Nat.zero_add]
   exact hu
 | y::ys,i+1,x,hx=>by
   intro j u hu
   rw [List.getElem?_cons_succ] at hx
   have:=flatMap_at hk ys i x hx j u hu
   rw [List.flatMap_cons,List.getElem?_append_right (by rw [hk,Nat.add_mul];omega),hk]
   rw [show (i+1) * k+j-k=i * k+j by rw [Nat.add_mul];omega]
   exact this
theorem Own.cap (h:Own enc k e B w A n c xs):n≤c∧c≤maxLen:=by
 rcases h.own.2 with ⟨h1,h2⟩|⟨g,cap,cur,h1,_,_,h3,h4,_⟩
 · injection h1 with a b c;subst b c;exact ⟨Nat.le_refl _,by decide⟩
 · injection h1 with a b c;subst c;exact ⟨h3,h4⟩
theorem Own.rd (h:Own enc k e B w A n c xs) (hk:∀ x,(enc x).length=k) (hb:n≤17592186044416):Rd enc k w A n c xs:=
 ⟨h.len,hb,by have:=h.cap;unfold maxLen at this;exact this,fun hn=>by
   rcases h.form with ⟨_,h0,_⟩|⟨g,rfl,_,hlt⟩
   · omega
   · refine ⟨g,0,rfl,hlt,fun i x hx j u hu=> ?_⟩
     have hj:j<k:=by rw [←hk x];exact (List.getElem?_eq_some_iff.1 hu).1
     have hi:i<n:=by rw [←h.len];exact (List.getElem?_eq_some_iff.1 hx).1
     have hc:c=c:=rfl
     have hcell:=h.own.cells (g:=g) rfl (i * k+j) u (flatMap_at hk xs i x hx j u hu)
     rw [add_lit] at hcell
     rwa [←Nat.add_assoc] at hcell⟩
end
structure ElemT (P:Program) (t e:TypeId) (k bytes:Nat):Prop where
 slice:P.underlying t=some (.slice e)
 info:∃ i z,P.info? e=some i∧i.zero=some z∧i.size=k∧i.bytes=bytes∧z.cells.size=k
 pos:0<k
theorem elemT_of {P:Program} {t e:TypeId} {k bytes:Nat} {z:Value} (h1:P.underlying t=some (.slice e))
 (h2:(P.info? e).map (fun i=>(i.zero,i.size,i.bytes))=some (some z,k,bytes)) (h3:z.cells.size=k) (h4:0<k):ElemT P t e k bytes:=by
 refine ⟨h1,?_,h4⟩
 obtain ⟨i,hi,hz0,hz1,hz2⟩:=info_parts h2
 exact ⟨i,z,hi,hz0,hz1,hz2,h3⟩
section
variable {P:Program} {α:Type} {enc:α→List Value} {k bytes n c B:Nat} {t e:TypeId} {w:World} {A:Option Addr} {xs:List α}
theorem run_append_src (E:ElemT P t e k bytes) (ty:TypeId) (hk:∀ x,(enc x).length=k) (h1:∀ x,∀ u∈enc x,u.oneCell'=true)
 (hown:Own enc k e B w A n c xs) (A2:Option Addr) (m c2:Nat) (ys:List α) (hrd:Rd enc k w A2 m c2 ys) (hbytes:(n+m) * bytes≤140737488355328) (hb8:1≤bytes) (hbase:B≤w.heap.size):
 ∃ A' c' w',(Builtin.append_ #[t,t] ty #[.slice A n c,.slice A2 m c2]).run P w = .ok (.slice A' (n+m) c') w'∧Own enc k e B w' A' (n+m) c' (xs++ys)∧w.grownBy w' (blockOf A)∧
   (blockOf A'=blockOf A∨blockOf A'=some w.heap.size):=by
 obtain ⟨i,z,hi,hz0,hz1,hz2,hz3⟩:=E.info
 have hlen:(ys.flatMap enc).length=m * k:=by rw [flatMap_len hk,hrd.len]
 have hone:∀ u∈ys.flatMap enc,u.oneCell'=true:=by
  intro u hu
  obtain ⟨x,_,hx⟩:=List.mem_flatMap.1 hu
  exact h1 x u hx
 have hmax:n+m≤maxLen:=by
  have:(n+m) * 1≤(n+m) * bytes:=Nat.mul_le_mul_left _ hb8
  unfold maxLen;omega
 have key:∀ (ad:Addr),(∀ j u,(ys.flatMap enc)[j]? = some u→w.cell? (ad.add j)=some u)→∃ A' c' w',(Builtin.append_ #[t,t] ty #[.slice A n c,.slice (some ad) m c2]).run P w = .ok (.slice A' (n+m) c') w'∧Own enc k e B w' A' (n+m) c' (xs++ys)∧w.grownBy w' (blockOf A)∧
  (blockOf A'=blockOf A∨blockOf A'=some w.heap.size):=by
  intro ad hcells
  obtain ⟨v',w',hrun,h2,h3,_,h5⟩:=run_append_own_at (P:=P) w B t ty e i z k bytes E.slice hi hz0 hz1 hz2 hz3 E.pos (.slice A n c) n (xs.flatMap enc) hown.own ad m c2 (ys.flatMap enc) hlen hcells hone hmax hbytes hbase
  have hv:∃ A' c',v' = .slice A' (n+m) c':=by
   rcases h2.2 with ⟨h,h0⟩|⟨g,cap,cur,h,_⟩
   · exact ⟨none,0,by rw [h];simp [h0]⟩
   · exact ⟨_,_,h⟩
  obtain ⟨A',c',rfl⟩:=hv
  rw [ownBlock_slice] at h3
  rw [ownBlock_slice,ownBlock_slice] at h5
  exact ⟨A',c',w',hrun,⟨by rw [List.length_append,hown.len,hrd.len],by rw [List.flatMap_append];exact h2⟩,h3,h5⟩
 rcases Nat.eq_zero_or_pos m with h0|h0
 · subst h0
   have hys:ys = []:=List.eq_nil_of_length_eq_zero hrd.len
   subst hys
   rcases A2 with _|ad
   · refine ⟨A,c,w,?_,by simpa using hown,World.grownBy.refl w _,.inl rfl⟩
     rcases hown.own.2 with ⟨hv,h0⟩|⟨g,cap,cur,hv,_,_,hnc,_⟩
     · injection hv with a b d
       subst a b d
       simp [Builtin.append_,run_underlying E.slice,sizeOf,typeInfo,hi,Builtin.lenOf,Builtin.firstCells]
     · injection hv with a b d
       subst a d
       simp [Builtin.append_,run_underlying E.slice,sizeOf,typeInfo,hi,Builtin.lenOf,Builtin.firstCells,hnc,storeCells]
   · exact key ad (fun j u hu=>by simp at hu)
 · obtain ⟨b,off,rfl,hlt,hc⟩:=hrd.at_ h0
   refine key ⟨b,off,none⟩ fun j u hu=> ?_
   rw [add_lit]
   have hj:j<m * k:=by rw [←hlen];exact (List.getElem?_eq_some_iff.1 hu).1
   have hkp:=E.pos
   have hjk:j / k<ys.length:=by rw [hrd.len];exact Nat.div_lt_of_lt_mul (by rw [Nat.mul_comm];exact hj)
   have hx:ys[j / k]? = some (ys[j / k]):=List.getElem?_eq_getElem hjk
   have hm:j % k<k:=Nat.mod_lt _ hkp
   have hu':(enc (ys[j / k]))[j % k]? = some u:=by
    have h2:j % k<(enc (ys[j / k])).length:=by rw [hk];exact hm
    have h3:=flatMap_at hk ys _ _ hx (j % k) _ (List.getElem?_eq_getElem h2)
    rw [Nat.mul_comm,Nat.div_add_mod,hu] at h3
    rw [List.getElem?_eq_getElem h2];exact h3.symm
   have:=hc _ _ hx (j % k) u hu'
   rw [Nat.add_assoc,Nat.mul_comm,Nat.div_add_mod] at this
   exact this
theorem wp_append_src {o:Oper} {a:Act} {K:Act→World→Prop} {Q:Exit→Act→World→Prop} (E:ElemT P t e k bytes) (hk:∀ x,(enc x).length=k) (h1:∀ x,∀ u∈enc x,u.oneCell'=true) (s x:Operand)
 (ho:o.op = .call { callee:=.builtin .append,args:=#[s,x],argTypes:=#[t,t] }) (A2:Option Addr) (m c2:Nat) (ys:List α) (hs:a.eval s = .slice A n c) (hx:a.eval x = .slice A2 m c2)
 (hown:Own enc k e B w A n c xs) (hrd:Rd enc k w A2 m c2 ys) (hbytes:(n+m) * bytes≤140737488355328) (hb8:1≤bytes) (hbase:B≤w.heap.size)
 (h:∀ A' c' w',Own enc k e B w' A' (n+m) c' (xs++ys)→w.grownBy w' (blockOf A)→(blockOf A'=blockOf A∨blockOf A'=some w.heap.size)→K (a.put o.dst (.slice A' (n+m) c')) w'):o.wp P a w K Q:=by
 obtain ⟨A',c',w',hrun,h2,h3,h4⟩:=run_append_src E o.type hk h1 hown A2 m c2 ys hrd hbytes hb8 hbase
 unfold Oper.wp execOp
 simp only [ho,resolve,invoke,builtin,Sem.run_bind,Sem.run_pure,Result.andThen_ok,List.map_toArray,List.map_cons,List.map_nil,hs,hx,hrun]
 exact h A' c' w' h2 h3 h4
theorem wpList_append_src {ops:Array Oper} {rest:List Oper} {o:Oper} {a:Act} {Q:Exit→Act→World→Prop} (E:ElemT P t e k bytes) (hk:∀ x,(enc x).length=k) (h1:∀ x,∀ u∈enc x,u.oneCell'=true) (hgd:o.guard=none) (s x:Operand)
 (ho:o.op = .call { callee:=.builtin .append,args:=#[s,x],argTypes:=#[t,t] }) (A2:Option Addr) (m c2:Nat) (ys:List α) (hs:a.eval s = .slice A n c) (hx:a.eval x = .slice A2 m c2)
 (hown:Own enc k e B w A n c xs) (hrd:Rd enc k w A2 m c2 ys) (hbytes:(n+m) * bytes≤140737488355328) (hb8:1≤bytes) (hbase:B≤w.heap.size)
 (h:∀ A' c' w',Own enc k e B w' A' (n+m) c' (xs++ys)→w.grownBy w' (blockOf A)→(blockOf A'=blockOf A∨blockOf A'=some w.heap.size)→wpList P ops Q rest (a.put o.dst (.slice A' (n+m) c')) w'):wpList P ops Q (o::rest) a w:=
 wpList_plain hgd fun _ hK=>wp_append_src E hk h1 s x ho A2 m c2 ys hs hx hown hrd hbytes hb8 hbase fun A' c' w' h2 h3 h4=>hK _ _ (h A' c' w' h2 h3 h4)
end
theorem Rd.single {α:Type} {enc:α→List Value} {k:Nat} (w:World) (cs:Array Value) (t:TypeId) (ys:List α) (m:Nat) (hm:ys.length=m) (hb:m≤17592186044416) (hk:∀ x,(enc x).length=k) (hcs:cs.toList=ys.flatMap enc):
 Rd enc k (w.alloc (.cells cs t)) (some ⟨w.heap.size,0,none⟩) m m ys:=
 ⟨hm,hb,by omega,fun _=>⟨w.heap.size,0,rfl,by simp,fun i x hx j u hu=>by
   rw [World.cell?_alloc_new,Nat.zero_add]
   have:=flatMap_at hk ys i x hx j u hu
   rw [←hcs] at this
   simpa using this⟩⟩
end Go.Proofs.YtpmkgmilfifkpaaGreatDoor
end

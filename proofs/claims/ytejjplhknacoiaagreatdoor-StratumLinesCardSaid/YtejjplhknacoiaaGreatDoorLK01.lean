/- Contracts that the laws lean on: Base, Law, Mem. -/
import Derived.Test.YtejjplhknacoiaaGreatDoorProg
import Derived.WalkLawsBesides
import Derived.WalkSpells
import Derived.Lib.Hide
import Derived.Deep.LoopGhost
import Derived.BigQuiet
import Derived.Deep.AppendLies
section
namespace Go.Proofs.YtejjplhknacoiaaGreatDoor
open Go.RowKit Go.Proofs
structure Place where
 pit:Int
 layer:Int
deriving DecidableEq,Inhabited
structure Trace where
 id:Int
 known:Int
 kind:Int
 pit:Int
 layer:Int
 lower:Int
 low:Int
 high:Int
 cost:Int
 void:Int
deriving DecidableEq,Inhabited
structure Bond where
 a:Place
 b:Place
 by_:Int
deriving DecidableEq,Inhabited
structure Link where
 src:Place
 dst:Place
 most:Int
 by_:Int
deriving DecidableEq,Inhabited
structure Dating where
 place:Place
 year:Int
deriving DecidableEq,Inhabited
structure Admit where
 place:Place
 cost:Int
 by_:Int
deriving DecidableEq,Inhabited
structure Bound where
 src:Int
 dst:Int
 most:Int
 by_:Int
deriving DecidableEq,Inhabited
def encPlace (p:Place):List Value:=[.int .i64 p.pit,.int .i64 p.layer]
def encTrace (x:Trace):List Value:=[.int .i64 x.id,.int .i64 x.known,.int .u8 x.kind,.int .i64 x.pit,.int .i64 x.layer,.int .i64 x.lower,.int .i64 x.low,.int .i64 x.high,.int .i64 x.cost,.int .i64 x.void]
def encBond (x:Bond):List Value:=[.int .i64 x.a.pit,.int .i64 x.a.layer,.int .i64 x.b.pit,.int .i64 x.b.layer,.int .i64 x.by_]
def encLink (x:Link):List Value:=[.int .i64 x.src.pit,.int .i64 x.src.layer,.int .i64 x.dst.pit,.int .i64 x.dst.layer,.int .i64 x.most,.int .i64 x.by_]
def encDating (x:Dating):List Value:=[.int .i64 x.place.pit,.int .i64 x.place.layer,.int .i64 x.year]
def encAdmit (x:Admit):List Value:=[.int .i64 x.place.pit,.int .i64 x.place.layer,.int .i64 x.cost,.int .i64 x.by_]
def encBound (x:Bound):List Value:=[.int .i64 x.src,.int .i64 x.dst,.int .i64 x.most,.int .i64 x.by_]
def encInt (x:Int):List Value:=[.int .i64 x]
def eqPlace (x y:Place):Bool:=decide (x=y)
def eqTrace (x y:Trace):Bool:=decide (x=y)
def eqLink (x y:Link):Bool:=decide (x=y)
def eqAdmit (x y:Admit):Bool:=decide (x=y)
theorem eqPlace_iff {x y:Place} : eqPlace x y=true↔x=y:=by simp [eqPlace]
theorem eqTrace_iff {x y:Trace} : eqTrace x y=true↔x=y:=by simp [eqTrace]
theorem eqPlace_no {x y:Place} : eqPlace x y=false↔x≠y:=by simp [eqPlace]
theorem equalInPlace (d:Nat) (a b a' b':Int) (w:World):(Op.equalIn (d+2) 36 (.agg #[.int .i64 a,.int .i64 b]) (.agg #[.int .i64 a',.int .i64 b'])).run Tryz.prog w = .ok (eqPlace ⟨a,b⟩ ⟨a',b'⟩) w:=by
 have hS:Tryz.prog.underlying 36=some (.struct (Tryz.prog.fieldsOf 36)):=by kernel_rfl
 have hp:Tryz.prog.stoodInHeld 36=false:=by kernel_rfl
 rw [run_equalIn_agg w (d+1) 36 _ _ hS hp]
 simp only [Program.fieldsOf,Tryz.underlying36]
 go_simp
 by_cases h1:a=a'<;>by_cases h2:b=b'<;>simp [h1,h2,eqPlace]
@[go_sem ↓ high] theorem eqlPlace (a b a' b':Int) (w:World):(binOp .eql 36 (.agg #[.int .i64 a,.int .i64 b]) (.agg #[.int .i64 a',.int .i64 b'])).run Tryz.prog w = .ok (.bool (eqPlace ⟨a,b⟩ ⟨a',b'⟩)) w:=by
  rw [run_eql_struct,show (10000:Nat)=9998+2 from rfl,equalInPlace];rfl
@[go_sem ↓ high] theorem neqPlace (a b a' b':Int) (w:World):(binOp .neq 36 (.agg #[.int .i64 a,.int .i64 b]) (.agg #[.int .i64 a',.int .i64 b'])).run Tryz.prog w = .ok (.bool (!eqPlace ⟨a,b⟩ ⟨a',b'⟩)) w:=by
  rw [run_neq_struct,show (10000:Nat)=9998+2 from rfl,equalInPlace];rfl
@[go_sem ↓ high] theorem eqGuardPlace (op:BinOp) (x y:Operand) (xs ys:Array Value) (w:World):(eqGuard op 36 x y (.agg xs) (.agg ys)).run Tryz.prog w = .ok () w:=
  run_eqGuard_agg w op 36 x y xs ys (by kernel_rfl)
theorem equalInTrace (d:Nat) (a b c e f g h i j k a' b' c' e' f' g' h' i' j' k':Int) (w:World):
 (Op.equalIn (d+2) 23 (.agg #[.int .i64 a,.int .i64 b,.int .u8 c,.int .i64 e,.int .i64 f,.int .i64 g,.int .i64 h,.int .i64 i,.int .i64 j,.int .i64 k]) (.agg #[.int .i64 a',.int .i64 b',.int .u8 c',.int .i64 e',.int .i64 f',.int .i64 g',.int .i64 h',.int .i64 i',.int .i64 j',.int .i64 k'])).run Tryz.prog w
   = .ok (eqTrace ⟨a,b,c,e,f,g,h,i,j,k⟩ ⟨a',b',c',e',f',g',h',i',j',k'⟩) w:=by
 have hS:Tryz.prog.underlying 23=some (.struct (Tryz.prog.fieldsOf 23)):=by kernel_rfl
 have hp:Tryz.prog.stoodInHeld 23=false:=by kernel_rfl
 rw [run_equalIn_agg w (d+1) 23 _ _ hS hp]
 simp only [Program.fieldsOf,Tryz.underlying23]
 go_simp
 (repeat' split)<;>simp_all [eqTrace]
@[go_sem ↓ high] theorem eqlTrace (a b c e f g h i j k a' b' c' e' f' g' h' i' j' k':Int) (w:World):
   (binOp .eql 23 (.agg #[.int .i64 a,.int .i64 b,.int .u8 c,.int .i64 e,.int .i64 f,.int .i64 g,.int .i64 h,.int .i64 i,.int .i64 j,.int .i64 k]) (.agg #[.int .i64 a',.int .i64 b',.int .u8 c',.int .i64 e',.int .i64 f',.int .i64 g',.int .i64 h',.int .i64 i',.int .i64 j',.int .i64 k'])).run Tryz.prog w
     = .ok (.bool (eqTrace ⟨a,b,c,e,f,g,h,i,j,k⟩ ⟨a',b',c',e',f',g',h',i',j',k'⟩)) w:=by
  rw [run_eql_struct,show (10000:Nat)=9998+2 from rfl,equalInTrace];rfl
@[go_sem ↓ high] theorem neqTrace (a b c e f g h i j k a' b' c' e' f' g' h' i' j' k':Int) (w:World):
   (binOp .neq 23 (.agg #[.int .i64 a,.int .i64 b,.int .u8 c,.int .i64 e,.int .i64 f,.int .i64 g,.int .i64 h,.int .i64 i,.int .i64 j,.int .i64 k]) (.agg #[.int .i64 a',.int .i64 b',.int .u8 c',.int .i64 e',.int .i64 f',.int .i64 g',.int .i64 h',.int .i64 i',.int .i64 j',.int .i64 k'])).run Tryz.prog w
     = .ok (.bool (!eqTrace ⟨a,b,c,e,f,g,h,i,j,k⟩ ⟨a',b',c',e',f',g',h',i',j',k'⟩)) w:=by
  rw [run_neq_struct,show (10000:Nat)=9998+2 from rfl,equalInTrace];rfl
@[go_sem ↓ high] theorem eqGuardTrace (op:BinOp) (x y:Operand) (xs ys:Array Value) (w:World):(eqGuard op 23 x y (.agg xs) (.agg ys)).run Tryz.prog w = .ok () w:=
  run_eqGuard_agg w op 23 x y xs ys (by kernel_rfl)
theorem equalInLink (d:Nat) (a b c e m r a' b' c' e' m' r':Int) (w:World):
 (Op.equalIn (d+3) 138 (.agg #[.int .i64 a,.int .i64 b,.int .i64 c,.int .i64 e,.int .i64 m,.int .i64 r]) (.agg #[.int .i64 a',.int .i64 b',.int .i64 c',.int .i64 e',.int .i64 m',.int .i64 r'])).run Tryz.prog w
   = .ok (eqLink ⟨⟨a,b⟩,⟨c,e⟩,m,r⟩ ⟨⟨a',b'⟩,⟨c',e'⟩,m',r'⟩) w:=by
 have hS:Tryz.prog.underlying 138=some (.struct (Tryz.prog.fieldsOf 138)):=by kernel_rfl
 have hp:Tryz.prog.stoodInHeld 138=false:=by kernel_rfl
 have hP:=fun a b a' b'=>equalInPlace d a b a' b' w
 rw [run_equalIn_agg w (d+2) 138 _ _ hS hp]
 simp only [Program.fieldsOf,Tryz.underlying138]
 go_simp
 simp only [eqLink,Link.mk.injEq]
 (repeat' split)<;>simp_all
@[go_sem ↓ high] theorem eqlLink (a b c e m r a' b' c' e' m' r':Int) (w:World):
   (binOp .eql 138 (.agg #[.int .i64 a,.int .i64 b,.int .i64 c,.int .i64 e,.int .i64 m,.int .i64 r]) (.agg #[.int .i64 a',.int .i64 b',.int .i64 c',.int .i64 e',.int .i64 m',.int .i64 r'])).run Tryz.prog w
     = .ok (.bool (eqLink ⟨⟨a,b⟩,⟨c,e⟩,m,r⟩ ⟨⟨a',b'⟩,⟨c',e'⟩,m',r'⟩)) w:=by
  rw [run_eql_struct,show (10000:Nat)=9997+3 from rfl,equalInLink];rfl
@[go_sem ↓ high] theorem neqLink (a b c e m r a' b' c' e' m' r':Int) (w:World):
   (binOp .neq 138 (.agg #[.int .i64 a,.int .i64 b,.int .i64 c,.int .i64 e,.int .i64 m,.int .i64 r]) (.agg #[.int .i64 a',.int .i64 b',.int .i64 c',.int .i64 e',.int .i64 m',.int .i64 r'])).run Tryz.prog w
     = .ok (.bool (!eqLink ⟨⟨a,b⟩,⟨c,e⟩,m,r⟩ ⟨⟨a',b'⟩,⟨c',e'⟩,m',r'⟩)) w:=by
  rw [run_neq_struct,show (10000:Nat)=9997+3 from rfl,equalInLink];rfl
@[go_sem ↓ high] theorem eqGuardLink (op:BinOp) (x y:Operand) (xs ys:Array Value) (w:World):(eqGuard op 138 x y (.agg xs) (.agg ys)).run Tryz.prog w = .ok () w:=
  run_eqGuard_agg w op 138 x y xs ys (by kernel_rfl)
theorem equalInAdmit (d:Nat) (a b m r a' b' m' r':Int) (w:World):
 (Op.equalIn (d+3) 56 (.agg #[.int .i64 a,.int .i64 b,.int .i64 m,.int .i64 r]) (.agg #[.int .i64 a',.int .i64 b',.int .i64 m',.int .i64 r'])).run Tryz.prog w
   = .ok (eqAdmit ⟨⟨a,b⟩,m,r⟩ ⟨⟨a',b'⟩,m',r'⟩) w:=by
 have hS:Tryz.prog.underlying 56=some (.struct (Tryz.prog.fieldsOf 56)):=by kernel_rfl
 have hp:Tryz.prog.stoodInHeld 56=false:=by kernel_rfl
 have hP:=fun a b a' b'=>equalInPlace d a b a' b' w
 rw [run_equalIn_agg w (d+2) 56 _ _ hS hp]
 simp only [Program.fieldsOf,Tryz.underlying56]
 go_simp
 simp only [eqAdmit,Admit.mk.injEq]
 (repeat' split)<;>simp_all
@[go_sem ↓ high] theorem neqAdmit (a b m r a' b' m' r':Int) (w:World):
   (binOp .neq 56 (.agg #[.int .i64 a,.int .i64 b,.int .i64 m,.int .i64 r]) (.agg #[.int .i64 a',.int .i64 b',.int .i64 m',.int .i64 r'])).run Tryz.prog w
     = .ok (.bool (!eqAdmit ⟨⟨a,b⟩,m,r⟩ ⟨⟨a',b'⟩,m',r'⟩)) w:=by
  rw [run_neq_struct,show (10000:Nat)=9997+3 from rfl,equalInAdmit];rfl
@[go_sem ↓ high] theorem eqGuardAdmit (op:BinOp) (x y:Operand) (xs ys:Array Value) (w:World):(eqGuard op 56 x y (.agg xs) (.agg ys)).run Tryz.prog w = .ok () w:=
  run_eqGuard_agg w op 56 x y xs ys (by kernel_rfl)
end Go.Proofs.YtejjplhknacoiaaGreatDoor
end
section
namespace Go.Proofs.YtejjplhknacoiaaGreatDoor
open Go.RowKit Go.WideShapes Go.ChangeShapes
theorem law_kept {H:Type} {enc:TypeId×Value→H} {P:Program} {f:Func} {s:ChangeSpec} {apart fresh handsOn again:Bool} {W W':World} {args:Array Value} {v:Value} {ds gs:List (DataW H)} {before pa pv:List MemPlace}
 (hW:DataW.Whole enc P f.params.toList s.vars apart W args.toList ds gs before) (hb:Below W.heap.size W W') (hps:before=pa++pv)
 (hres:∀ (b:Nat) (sp:Nat→Bool) (hd:Bool),DataW.TrodAll enc P W' b sp hd f.resultTypes.toList (v.resultList f.resultTypes.size) (s.fn H (ds++gs)).results [])
 (hargs:∀ sp:Nat→Bool,(∀ p∈before,sp p.block=true)→DataW.TrodAll enc P W' 0 sp true f.params.toList args.toList (s.fn H (ds++gs)).args pa)
 (hvars:∀ sp:Nat→Bool,(∀ p∈before,sp p.block=true)→DataW.TrodVars enc P W' sp s.vars (s.fn H (ds++gs)).vars pv)
 (hok:∀ (j:Nat) (t:TypeId) (r:Value),f.resultTypes[j]? = some t→(v.resultList f.resultTypes.size)[j]? = some r→Value.okWide P W' .any 0 t r):
 s.post enc P f apart fresh handsOn again W args v W':=by
 have old:∀ p∈before,p.block<W.heap.size:=fun p hp=>hW.lt p hp
 have mem:∀ p,p∈before↔p∈pa++pv:=fun p=>by rw [hps]
 have full:∀ p∈before,(fun _:Nat=>true) p.block=true:=fun _ _=>rfl
 have some_:∀ p∈before,(fun b=>decide (b<W.heap.size)) p.block=true:=fun p hp=>decide_eq_true (old p hp)
 obtain ⟨k1,k2,k3,k4,k5,hz,hn⟩:=id hW
 refine ⟨ds,gs,before,[],pa,pv,hW,hres _ _ _,hargs _ some_,hvars _ some_,World.keptBut_mono (fun p hp=>⟨hp,.inr ((mem p).1 hp |> List.mem_append.1)⟩) (hb.frame (· ∈ before)),fun _=>⟨hok,_,_,([]++pa)++pv,⟨[]++pa,pv,trodAll_append (hargs _ full) (hres _ _ _),hvars _ full,rfl,fun b off hp=> ?_,fun ha=> ?_⟩,fun p hp _=> ?_⟩⟩
 · have hin:MemPlace.cell b off∈before:=(mem _).2 (by simpa using hp)
   exact (hb.frozen (old _ hin)).trans (hz b off hin)
 · have h:=hn ha
   rw [hps] at h
   simpa using h
 · exact (mem p).2 (by simpa using hp)
end Go.Proofs.YtejjplhknacoiaaGreatDoor
end
section
namespace Go.Proofs.YtejjplhknacoiaaGreatDoor
open Go.RowKit Go.Proofs
theorem retI {k:IntKind} {a b:Int} (h:a=b):Ending.returned (.int k a) = .returned (.int k b):=by rw [h]
theorem retB {a b:Bool} (h:a=b):Ending.returned (.bool a) = .returned (.bool b):=by rw [h]
theorem add_lit (b off j:Nat):(⟨b,off,none⟩:Addr).add j=⟨b,off+j,none⟩:=by
 unfold Addr.add
 split
 · rename_i h;subst h;rfl
 · rfl
theorem bcell {B:Nat} {W w1:World} (hb:Below B W w1):(∀ b o,b<B→w1.cell? ⟨b,o,none⟩=W.cell? ⟨b,o,none⟩)∧(∀ b o,b<B→w1.frozen? ⟨b,o,none⟩=W.frozen? ⟨b,o,none⟩):=
 ⟨fun b o h=>hb.cell (p:=⟨b,o,none⟩) h,fun b o h=>hb.frozen (p:=⟨b,o,none⟩) h⟩
theorem below_drewN' {B:Nat} {a w:World} (h:Below B a w) (n:Nat):Below B a (w.drewN n):=⟨h.os,h.tape,h.output,h.size,h.block⟩
theorem below_step {B B':Nat} {a W w:World} (h:Below B' W w) (hB:B≤B') (h0:Below B a W):Below B a w:=h0.trans (h.mono hB)
structure Rd {α:Type} (enc:α→List Value) (k:Nat) (w:World) (A:Option Addr) (n c:Nat) (xs:List α):Prop where
 len:xs.length=n
 big:n≤17592186044416
 cap:n≤c∧c≤9223372036854775807
 at_:0<n→∃ b off,A=some ⟨b,off,none⟩∧b<w.heap.size∧∀ i x,xs[i]? = some x→∀ j u,(enc x)[j]? = some u→w.cell? ⟨b,off+i * k+j,none⟩=some u
section
variable {α:Type} {enc:α→List Value} {k n c:Nat} {w w':World} {A:Option Addr} {xs:List α}
theorem Rd.none_ (A:Option Addr) (c:Nat) (hc:c≤9223372036854775807):Rd enc k w A 0 c []:=⟨rfl,by omega,⟨Nat.zero_le _,hc⟩,fun h=>absurd h (by omega)⟩
theorem Rd.keep (h:Rd enc k w A n c xs) (hs:w.heap.size≤w'.heap.size) (hk:∀ p:Addr,p.block<w.heap.size→w'.cell? p=w.cell? p):Rd enc k w' A n c xs:=
 ⟨h.len,h.big,h.cap,fun hn=>by
   obtain ⟨b,off,e,hlt,hc⟩:=h.at_ hn
   exact ⟨b,off,e,Nat.lt_of_lt_of_le hlt hs,fun i x hx j u hu=>(hk ⟨b,_,none⟩ hlt).trans (hc i x hx j u hu)⟩⟩
theorem Rd.below (h:Rd enc k w A n c xs) {B:Nat} (hb:Below B w w') (hB:w.heap.size≤B):Rd enc k w' A n c xs:=
 h.keep hb.size fun _ hp=>hb.cell (Nat.lt_of_lt_of_le hp hB)
theorem Rd.alloc (h:Rd enc k w A n c xs) (o:Obj):Rd enc k (w.alloc o) A n c xs:=h.keep (by simp) fun p hp=>World.cell?_alloc_lt w o p hp
theorem Rd.drewN (h:Rd enc k w A n c xs) (m:Nat):Rd enc k (w.drewN m) A n c xs:=h.keep (Nat.le_refl _) fun _ _=>rfl
theorem Rd.drew (h:Rd enc k w A n c xs):Rd enc k w.drew A n c xs:=h.keep (Nat.le_refl _) fun _ _=>rfl
theorem Rd.one (h:Rd enc k w A n c xs) {i:Nat} (hi:i<n):
 ∃ b off x,A=some ⟨b,off,none⟩∧b<w.heap.size∧xs[i]? = some x∧∀ j u,(enc x)[j]? = some u→w.cell? ⟨b,off+i * k+j,none⟩=some u:=by
 obtain ⟨b,off,e,hlt,hc⟩:=h.at_ (by omega)
 have hx:xs[i]? = some (xs[i]'(by rw [h.len];exact hi)):=List.getElem?_eq_getElem _
 exact ⟨b,off,_,e,hlt,hx,fun j u hu=>hc i _ hx j u hu⟩
theorem Rd.take (h:Rd enc k w A n c xs) {m c':Nat} (hm:m≤n) (hc':m≤c'∧c'≤c):Rd enc k w A m c' (xs.take m):=
 ⟨by rw [List.length_take,h.len];omega,by have:=h.big;omega,⟨hc'.1,by have:=h.cap;omega⟩,fun hn=>by
   obtain ⟨b,off,e,hlt,hc⟩:=h.at_ (by omega)
   exact ⟨b,off,e,hlt,fun i x hx=>hc i x (by
    rw [List.getElem?_take] at hx
    split at hx
    · exact hx
    · cases hx)⟩⟩
theorem Rd.drop (h:Rd enc k w A n c xs) {m:Nat} (hm:m≤n) {A':Option Addr} (hA:m<n→A'=A.map (·.add (m * k))):Rd enc k w A' (n-m) (c-m) (xs.drop m):=
 ⟨by rw [List.length_drop,h.len],by have:=h.big;omega,by have:=h.cap;omega,fun hn=>by
   obtain ⟨b,off,e,hlt,hc⟩:=h.at_ (by omega)
   refine ⟨b,off+m * k,by rw [hA (by omega),e];simp [add_lit],hlt,fun i x hx j u hu=> ?_⟩
   rw [List.getElem?_drop] at hx
   have:=hc _ x hx j u hu
   rwa [Nat.add_mul,←Nat.add_assoc] at this⟩
end
theorem flatMap_len {α:Type} {enc:α→List Value} {k:Nat} (hk:∀ x,(enc x).length=k):∀ ys:List α,(ys.flatMap enc).length=ys.length * k
 | []=>by simp
 | y::ys=>by rw [List.flatMap_cons,List.length_append,hk,flatMap_len hk ys,List.length_cons,Nat.add_mul];omega
structure Own {α:Type} (enc:α→List Value) (k:Nat) (e:TypeId) (B:Nat) (w:World) (A:Option Addr) (n c:Nat) (xs:List α):Prop where
 len:xs.length=n
 own:w.ownsRow B e k (.slice A n c) n (xs.flatMap enc)
def blockOf (A:Option Addr):Option Nat:=A.map (·.block)
theorem ownBlock_slice (A:Option Addr) (n c:Nat):(Value.slice A n c).ownBlock=blockOf A:=by cases A<;>rfl
section
variable {α:Type} {enc:α→List Value} {k n c B:Nat} {e:TypeId} {w w':World} {A:Option Addr} {xs:List α}
theorem Own.none_ (enc:α→List Value) (k:Nat) (e:TypeId) (B:Nat) (w:World):Own enc k e B w none 0 0 []:=⟨rfl,World.ownsRow_nil w B e k⟩
theorem Own.form (h:Own enc k e B w A n c xs):(A=none∧n=0∧c=0)∨∃ g,A=some ⟨g,0,none⟩∧B≤g∧g<w.heap.size:=by
 rcases h.own.2 with ⟨h1,_⟩|⟨g,cap,cur,h1,h2,h3,_⟩
 · injection h1 with a b c;exact .inl ⟨a,b,c⟩
 · injection h1 with a b c
   refine .inr ⟨g,a,h2,?_⟩
   rcases Nat.lt_or_ge g w.heap.size with h|h
   · exact h
   · rw [Array.getElem?_eq_none h] at h3;cases h3
theorem Own.kept (h:Own enc k e B w A n c xs) {row:Option Nat} (hg:w.grownBy w' row) (hne:A=none∨blockOf A≠row):Own enc k e B w' A n c xs:=
 ⟨h.len,h.own.kept hg (by
   rw [ownBlock_slice]
   rcases hne with rfl|h
   · exact .inl rfl
   · exact .inr h)⟩
theorem Own.below (h:Own enc k e B w A n c xs) {B':Nat} (hb:Below B' w w') (hB:w.heap.size≤B'):Own enc k e B w' A n c xs:=
 h.kept (row:=none) ⟨hb.os,hb.tape,hb.output,hb.size,fun i hi _=>hb.block i (by omega)⟩ (by cases A<;>simp [blockOf])
theorem Own.alloc (h:Own enc k e B w A n c xs) (o:Obj):Own enc k e B (w.alloc o) A n c xs:=⟨h.len,h.own.alloc o⟩
theorem Own.drewN (h:Own enc k e B w A n c xs) (m:Nat):Own enc k e B (w.drewN m) A n c xs:=⟨h.len,h.own⟩
theorem Own.drew (h:Own enc k e B w A n c xs):Own enc k e B w.drew A n c xs:=⟨h.len,h.own⟩
theorem Own.mono (h:Own enc k e B w A n c xs) {B':Nat} (hB:B'≤B):Own enc k e B' w A n c xs:=
 ⟨h.len,h.own.1,by
   rcases h.own.2 with h1|⟨g,cap,cur,h1,h2,h3⟩
   · exact .inl h1
   · exact .inr ⟨g,cap,cur,h1,Nat.le_trans hB h2,h3⟩⟩
theorem flatMap_at (hk:∀ x,(enc x).length=k):∀ (xs:List α) (i:Nat) (x:α),xs[i]? = some x→∀ j u,(enc x)[j]? = some u→(xs.flatMap enc)[i * k+j]? = some u
 | [],i,x,hx=>by simp at hx
 | y::ys,0,x,hx=>by
   intro j u hu
   simp only [List.getElem?_cons_zero,Option.some.injEq] at hx
   subst hx
   have hj:j<(enc y).length:=(List.getElem?_eq_some_iff.1 hu).1
   rw [List.flatMap_cons,List.getElem?_append_left (by omega),Nat.zero_mul,Nat.zero_add]
   exact hu
 | y::ys,i+1,x,hx=>by
   intro j u hu
   rw [List.getElem?_cons_succ] at hx
   have:=flatMap_at hk ys i x hx j u hu
   rw [List.flatMap_cons,List.getElem?_append_right (by rw [hk,Nat.add_mul];omega),hk]
   rw [show (i+1) * k+j-k=i * k+j by rw [Nat.add_mul];omega]
   exact this
theorem Own.cap (h:Own enc k e B w A n c xs):n≤c∧c≤maxLen:=by
 rcases h.own.2 with ⟨h1,h2⟩|⟨g,cap,cur,h1,_,_,h3,h4,_⟩
 · injection h1 with a b c;subst b c;exact ⟨Nat.le_refl _,by decide⟩
 · injection h1 with a b c;subst c;exact ⟨h3,h4⟩
theorem Own.rd (h:Own enc k e B w A n c xs) (hk:∀ x,(enc x).length=k) (hb:n≤17592186044416):Rd enc k w A n c xs:=
 ⟨h.len,hb,by have:=h.cap;unfold maxLen at this;exact this,fun hn=>by
   rcases h.form with ⟨_,h0,_⟩|⟨g,rfl,_,hlt⟩
   · omega
   · refine ⟨g,0,rfl,hlt,fun i x hx j u hu=> ?_⟩
     have hj:j<k:=by rw [←hk x];exact (List.getElem?_eq_some_iff.1 hu).1
     have hi:i<n:=by rw [←h.len];exact (List.getElem?_eq_some_iff.1 hx).1
     have hc:c=c:=rfl
     have hcell:=h.own.cells (g:=g) rfl (i * k+j) u (flatMap_at hk xs i x hx j u hu)
     rw [add_lit] at hcell
     rwa [←Nat.add_assoc] at hcell⟩
end
structure ElemT (P:Program) (t e:TypeId) (k bytes:Nat):Prop where
 slice:P.underlying t=some (.slice e)
 info:∃ i z,P.info? e=some i∧i.zero=some z∧i.size=k∧i.bytes=bytes∧z.cells.size=k
 pos:0<k
theorem elemT_of {P:Program} {t e:TypeId} {k bytes:Nat} {z:Value} (h1:P.underlying t=some (.slice e))
 (h2:(P.info? e).map (fun i=>(i.zero,i.size,i.bytes))=some (some z,k,bytes)) (h3:z.cells.size=k) (h4:0<k):ElemT P t e k bytes:=by
 refine ⟨h1,?_,h4⟩
 obtain ⟨i,hi,hz0,hz1,hz2⟩:=info_parts h2
 exact ⟨i,z,hi,hz0,hz1,hz2,h3⟩
section
variable {P:Program} {α:Type} {enc:α→List Value} {k bytes n c B:Nat} {t e:TypeId} {w:World} {A:Option Addr} {xs:List α}
theorem run_append_src (E:ElemT P t e k bytes) (ty:TypeId) (hk:∀ x,(enc x).length=k) (h1:∀ x,∀ u∈enc x,u.oneCell'=true)
 (hown:Own enc k e B w A n c xs) (A2:Option Addr) (m c2:Nat) (ys:List α) (hrd:Rd enc k w A2 m c2 ys) (hbytes:(n+m) * bytes≤140737488355328) (hb8:1≤bytes) (hbase:B≤w.heap.size):
 ∃ A' c' w',(Builtin.append_ #[t,t] ty #[.slice A n c,.slice A2 m c2]).run P w = .ok (.slice A' (n+m) c') w'∧Own enc k e B w' A' (n+m) c' (xs++ys)∧w.grownBy w' (blockOf A)∧
   (blockOf A'=blockOf A∨blockOf A'=some w.heap.size):=by
 obtain ⟨i,z,hi,hz0,hz1,hz2,hz3⟩:=E.info
 have hlen:(ys.flatMap enc).length=m * k:=by rw [flatMap_len hk,hrd.len]
 have hone:∀ u∈ys.flatMap enc,u.oneCell'=true:=by
  intro u hu
  obtain ⟨x,_,hx⟩:=List.mem_flatMap.1 hu
  exact h1 x u hx
 have hmax:n+m≤maxLen:=by
  have:(n+m) * 1≤(n+m) * bytes:=Nat.mul_le_mul_left _ hb8
  unfold maxLen;omega
 have key:∀ (ad:Addr),(∀ j u,(ys.flatMap enc)[j]? = some u→w.cell? (ad.add j)=some u)→∃ A' c' w',(Builtin.append_ #[t,t] ty #[.slice A n c,.slice (some ad) m c2]).run P w = .ok (.slice A' (n+m) c') w'∧Own enc k e B w' A' (n+m) c' (xs++ys)∧w.grownBy w' (blockOf A)∧
  (blockOf A'=blockOf A∨blockOf A'=some w.heap.size):=by
  intro ad hcells
  obtain ⟨v',w',hrun,h2,h3,_,h5⟩:=run_append_own_at (P:=P) w B t ty e i z k bytes E.slice hi hz0 hz1 hz2 hz3 E.pos (.slice A n c) n (xs.flatMap enc) hown.own ad m c2 (ys.flatMap enc) hlen hcells hone hmax hbytes hbase
  have hv:∃ A' c',v' = .slice A' (n+m) c':=by
   rcases h2.2 with ⟨h,h0⟩|⟨g,cap,cur,h,_⟩
   · exact ⟨none,0,by rw [h];simp [h0]⟩
   · exact ⟨_,_,h⟩
  obtain ⟨A',c',rfl⟩:=hv
  rw [ownBlock_slice] at h3
  rw [ownBlock_slice,ownBlock_slice] at h5
  exact ⟨A',c',w',hrun,⟨by rw [List.length_append,hown.len,hrd.len],by rw [List.flatMap_append];exact h2⟩,h3,h5⟩
 rcases Nat.eq_zero_or_pos m with h0|h0
 · subst h0
   have hys:ys = []:=List.eq_nil_of_length_eq_zero hrd.len
   subst hys
   rcases A2 with _|ad
   · refine ⟨A,c,w,?_,by simpa using hown,World.grownBy.refl w _,.inl rfl⟩
     rcases hown.own.2 with ⟨hv,h0⟩|⟨g,cap,cur,hv,_,_,hnc,_⟩
     · injection hv with a b d
       subst a b d
       simp [Builtin.append_,run_underlying E.slice,sizeOf,typeInfo,hi,Builtin.lenOf,Builtin.firstCells]
     · injection hv with a b d
       subst a d
       simp [Builtin.append_,run_underlying E.slice,sizeOf,typeInfo,hi,Builtin.lenOf,Builtin.firstCells,hnc,storeCells]
   · exact key ad (fun j u hu=>by simp at hu)
 · obtain ⟨b,off,rfl,hlt,hc⟩:=hrd.at_ h0
   refine key ⟨b,off,none⟩ fun j u hu=> ?_
   rw [add_lit]
   have hj:j<m * k:=by rw [←hlen];exact (List.getElem?_eq_some_iff.1 hu).1
   have hkp:=E.pos
   have hjk:j / k<ys.length:=by rw [hrd.len];exact Nat.div_lt_of_lt_mul (by rw [Nat.mul_comm];exact hj)
   have hx:ys[j / k]? = some (ys[j / k]):=List.getElem?_eq_getElem hjk
   have hm:j % k<k:=Nat.mod_lt _ hkp
   have hu':(enc (ys[j / k]))[j % k]? = some u:=by
    have h2:j % k<(enc (ys[j / k])).length:=by rw [hk];exact hm
    have h3:=flatMap_at hk ys _ _ hx (j % k) _ (List.getElem?_eq_getElem h2)
    rw [Nat.mul_comm,Nat.div_add_mod,hu] at h3
    rw [List.getElem?_eq_getElem h2];exact h3.symm
   have:=hc _ _ hx (j % k) u hu'
   rw [Nat.add_assoc,Nat.mul_comm,Nat.div_add_mod] at this
   exact this
theorem wp_append_src {o:Oper} {a:Act} {K:Act→World→Prop} {Q:Exit→Act→World→Prop} (E:ElemT P t e k bytes) (hk:∀ x,(enc x).length=k) (h1:∀ x,∀ u∈enc x,u.oneCell'=true) (s x:Operand)
 (ho:o.op = .call { callee:=.builtin .append,args:=#[s,x],argTypes:=#[t,t] }) (A2:Option Addr) (m c2:Nat) (ys:List α) (hs:a.eval s = .slice A n c) (hx:a.eval x = .slice A2 m c2)
 (hown:Own enc k e B w A n c xs) (hrd:Rd enc k w A2 m c2 ys) (hbytes:(n+m) * bytes≤140737488355328) (hb8:1≤bytes) (hbase:B≤w.heap.size)
 (h:∀ A' c' w',Own enc k e B w' A' (n+m) c' (xs++ys)→w.grownBy w' (blockOf A)→(blockOf A'=blockOf A∨blockOf A'=some w.heap.size)→K (a.put o.dst (.slice A' (n+m) c')) w'):o.wp P a w K Q:=by
 obtain ⟨A',c',w',hrun,h2,h3,h4⟩:=run_append_src E o.type hk h1 hown A2 m c2 ys hrd hbytes hb8 hbase
 unfold Oper.wp execOp
 simp only [ho,resolve,invoke,builtin,Sem.run_bind,Sem.run_pure,Result.andThen_ok,List.map_toArray,List.map_cons,List.map_nil,hs,hx,hrun]
 exact h A' c' w' h2 h3 h4
theorem wpList_append_src {ops:Array Oper} {rest:List Oper} {o:Oper} {a:Act} {Q:Exit→Act→World→Prop} (E:ElemT P t e k bytes) (hk:∀ x,(enc x).length=k) (h1:∀ x,∀ u∈enc x,u.oneCell'=true) (hgd:o.guard=none) (s x:Operand)
 (ho:o.op = .call { callee:=.builtin .append,args:=#[s,x],argTypes:=#[t,t] }) (A2:Option Addr) (m c2:Nat) (ys:List α) (hs:a.eval s = .slice A n c) (hx:a.eval x = .slice A2 m c2)
 (hown:Own enc k e B w A n c xs) (hrd:Rd enc k w A2 m c2 ys) (hbytes:(n+m) * bytes≤140737488355328) (hb8:1≤bytes) (hbase:B≤w.heap.size)
 (h:∀ A' c' w',Own enc k e B w' A' (n+m) c' (xs++ys)→w.grownBy w' (blockOf A)→(blockOf A'=blockOf A∨blockOf A'=some w.heap.size)→wpList P ops Q rest (a.put o.dst (.slice A' (n+m) c')) w'):wpList P ops Q (o::rest) a w:=
 wpList_plain hgd fun _ hK=>wp_append_src E hk h1 s x ho A2 m c2 ys hs hx hown hrd hbytes hb8 hbase fun A' c' w' h2 h3 h4=>hK _ _ (h A' c' w' h2 h3 h4)
theorem step_append_src {ops:Array Oper} {o:Oper} {a:Act} {K:Act→World→Prop} {Q:Exit→Act→World→Prop} {F:Prop} (E:ElemT P t e k bytes) (hk:∀ x,(enc x).length=k) (h1:∀ x,∀ u∈enc x,u.oneCell'=true) (hgd:o.guard=none) (s x:Operand)
 (ho:o.op = .call { callee:=.builtin .append,args:=#[s,x],argTypes:=#[t,t] }) (A2:Option Addr) (m c2:Nat) (ys:List α) (hs:a.eval s = .slice A n c) (hx:a.eval x = .slice A2 m c2)
 (hown:Own enc k e B w A n c xs) (hrd:Rd enc k w A2 m c2 ys) (hbytes:(n+m) * bytes≤140737488355328) (hb8:1≤bytes) (hbase:B≤w.heap.size)
 (h:∀ A' c' w',Own enc k e B w' A' (n+m) c' (xs++ys)→w.grownBy w' (blockOf A)→(blockOf A'=blockOf A∨blockOf A'=some w.heap.size)→K (a.put o.dst (.slice A' (n+m) c')) w'):
 if Region.wanted o (yielded ops a.tmps)=true then Oper.wp P o a w K Q else F:=by
 have hw:Region.wanted o (yielded ops a.tmps)=true:=by simp [Region.wanted,hgd]
 rw [if_pos hw]
 exact wp_append_src E hk h1 s x ho A2 m c2 ys hs hx hown hrd hbytes hb8 hbase h
end
theorem Rd.single {α:Type} {enc:α→List Value} {k:Nat} (w:World) (cs:Array Value) (t:TypeId) (ys:List α) (m:Nat) (hm:ys.length=m) (hb:m≤17592186044416) (hk:∀ x,(enc x).length=k) (hcs:cs.toList=ys.flatMap enc):
 Rd enc k (w.alloc (.cells cs t)) (some ⟨w.heap.size,0,none⟩) m m ys:=
 ⟨hm,hb,by omega,fun _=>⟨w.heap.size,0,rfl,by simp,fun i x hx j u hu=>by
   rw [World.cell?_alloc_new,Nat.zero_add]
   have:=flatMap_at hk ys i x hx j u hu
   rw [←hcs] at this
   simpa using this⟩⟩
end Go.Proofs.YtejjplhknacoiaaGreatDoor
end

/- Contracts that the law leans on: Base, Law. -/
import Derived.Test.YtelnkflmnbhclaaGreatProg
import Derived.WalkKit
import Derived.WalkLawsBesides
import Derived.WalkSpells
import Derived.Lib.Hide
import Derived.Deep.LoopGhost
import Derived.Deep.QuietTactic
import Derived.BigQuiet
import Derived.Below
import Derived.ChangeSame
/- What is proved: plain words for memory (a slice that reads as a list of structs; a row of the call's own), and the model's '==' at the structs of this program. Conditions: none. -/
section
namespace Go.Proofs.YtelnkflmnbhclaaGreat
open Go.RowKit Go.Proofs

/-! ### The data -/
structure Place where
  pit : Int
  layer : Int
deriving DecidableEq, Inhabited

structure Trace where
  id : Int
  known : Int
  kind : Int
  pit : Int
  layer : Int
  lower : Int
  low : Int
  high : Int
  cost : Int
  void : Int
deriving DecidableEq, Inhabited

structure Bond where
  a : Place
  b : Place
  by_ : Int
deriving DecidableEq, Inhabited

structure Link where
  src : Place
  dst : Place
  most : Int
  by_ : Int
deriving DecidableEq, Inhabited

structure Dating where
  place : Place
  year : Int
deriving DecidableEq, Inhabited

structure Admit where
  place : Place
  cost : Int
  by_ : Int
deriving DecidableEq, Inhabited

structure Bound where
  src : Int
  dst : Int
  most : Int
  by_ : Int
deriving DecidableEq, Inhabited

abbrev i6 (n : Int) : Value := .int .i64 n
def encPlace (p : Place) : List Value := [.int .i64 p.pit, .int .i64 p.layer]
def encTrace (x : Trace) : List Value := [.int .i64 x.id, .int .i64 x.known, .int .u8 x.kind, .int .i64 x.pit, .int .i64 x.layer, .int .i64 x.lower, .int .i64 x.low, .int .i64 x.high, .int .i64 x.cost, .int .i64 x.void]
def encBond (x : Bond) : List Value := [.int .i64 x.a.pit, .int .i64 x.a.layer, .int .i64 x.b.pit, .int .i64 x.b.layer, .int .i64 x.by_]
def encLink (x : Link) : List Value := [.int .i64 x.src.pit, .int .i64 x.src.layer, .int .i64 x.dst.pit, .int .i64 x.dst.layer, .int .i64 x.most, .int .i64 x.by_]
def encDating (x : Dating) : List Value := [.int .i64 x.place.pit, .int .i64 x.place.layer, .int .i64 x.year]
def encAdmit (x : Admit) : List Value := [.int .i64 x.place.pit, .int .i64 x.place.layer, .int .i64 x.cost, .int .i64 x.by_]
def encBound (x : Bound) : List Value := [.int .i64 x.src, .int .i64 x.dst, .int .i64 x.most, .int .i64 x.by_]
def encInt (x : Int) : List Value := [.int .i64 x]

/-! ### '==' -/
def eqPlace (x y : Place) : Bool := decide (x = y)
def eqTrace (x y : Trace) : Bool := decide (x = y)
def eqLink (x y : Link) : Bool := decide (x = y)
def eqAdmit (x y : Admit) : Bool := decide (x = y)
theorem eqPlace_iff {x y : Place} : eqPlace x y = true ↔ x = y := by simp [eqPlace]
theorem eqTrace_iff {x y : Trace} : eqTrace x y = true ↔ x = y := by simp [eqTrace]
theorem eqLink_iff {x y : Link} : eqLink x y = true ↔ x = y := by simp [eqLink]
theorem eqAdmit_iff {x y : Admit} : eqAdmit x y = true ↔ x = y := by simp [eqAdmit]
theorem eqPlace_no {x y : Place} : eqPlace x y = false ↔ x ≠ y := by simp [eqPlace]
theorem eqTrace_no {x y : Trace} : eqTrace x y = false ↔ x ≠ y := by simp [eqTrace]
theorem eqLink_no {x y : Link} : eqLink x y = false ↔ x ≠ y := by simp [eqLink]
theorem eqAdmit_no {x y : Admit} : eqAdmit x y = false ↔ x ≠ y := by simp [eqAdmit]

theorem equalInPlace (d : Nat) (a b a' b' : Int) (w : World) : (Op.equalIn (d + 2) 37 (.agg #[.int .i64 a, .int .i64 b]) (.agg #[.int .i64 a', .int .i64 b'])).run Tryz.prog w = .ok (eqPlace ⟨a, b⟩ ⟨a', b'⟩) w := by
  have hS : Tryz.prog.underlying 37 = some (.struct (Tryz.prog.fieldsOf 37)) := by kernel_rfl
  have hp : Tryz.prog.stoodInHeld 37 = false := by kernel_rfl
  rw [run_equalIn_agg w (d + 1) 37 _ _ hS hp]
  simp only [Program.fieldsOf, Tryz.underlying37]
  go_simp
  by_cases h1 : a = a' <;> by_cases h2 : b = b' <;> simp [h1, h2, eqPlace]
@[go_sem ↓ high] theorem eqlPlace (a b a' b' : Int) (w : World) : (binOp .eql 37 (.agg #[.int .i64 a, .int .i64 b]) (.agg #[.int .i64 a', .int .i64 b'])).run Tryz.prog w = .ok (.bool (eqPlace ⟨a, b⟩ ⟨a', b'⟩)) w := by
  rw [run_eql_struct, show (10000 : Nat) = 9998 + 2 from rfl, equalInPlace]; rfl
@[go_sem ↓ high] theorem neqPlace (a b a' b' : Int) (w : World) : (binOp .neq 37 (.agg #[.int .i64 a, .int .i64 b]) (.agg #[.int .i64 a', .int .i64 b'])).run Tryz.prog w = .ok (.bool (!eqPlace ⟨a, b⟩ ⟨a', b'⟩)) w := by
  rw [run_neq_struct, show (10000 : Nat) = 9998 + 2 from rfl, equalInPlace]; rfl
@[go_sem ↓ high] theorem eqGuardPlace (op : BinOp) (x y : Operand) (xs ys : Array Value) (w : World) : (eqGuard op 37 x y (.agg xs) (.agg ys)).run Tryz.prog w = .ok () w :=
  run_eqGuard_agg w op 37 x y xs ys (by kernel_rfl)

theorem bchain (b c : Bool) : (if (!b) = true then false else c) = (b && c) := by cases b <;> rfl
theorem equalInTrace (d : Nat) (a b c e f g h i j k a' b' c' e' f' g' h' i' j' k' : Int) (w : World) :
    (Op.equalIn (d + 2) 25 (.agg #[.int .i64 a, .int .i64 b, .int .u8 c, .int .i64 e, .int .i64 f, .int .i64 g, .int .i64 h, .int .i64 i, .int .i64 j, .int .i64 k]) (.agg #[.int .i64 a', .int .i64 b', .int .u8 c', .int .i64 e', .int .i64 f', .int .i64 g', .int .i64 h', .int .i64 i', .int .i64 j', .int .i64 k'])).run Tryz.prog w
      = .ok (eqTrace ⟨a, b, c, e, f, g, h, i, j, k⟩ ⟨a', b', c', e', f', g', h', i', j', k'⟩) w := by
  have hS : Tryz.prog.underlying 25 = some (.struct (Tryz.prog.fieldsOf 25)) := by kernel_rfl
  have hp : Tryz.prog.stoodInHeld 25 = false := by kernel_rfl
  rw [run_equalIn_agg w (d + 1) 25 _ _ hS hp]
  simp only [Program.fieldsOf, Tryz.underlying25]
  go_simp
  (repeat' split) <;> simp_all [eqTrace]
@[go_sem ↓ high] theorem eqlTrace (a b c e f g h i j k a' b' c' e' f' g' h' i' j' k' : Int) (w : World) :
    (binOp .eql 25 (.agg #[.int .i64 a, .int .i64 b, .int .u8 c, .int .i64 e, .int .i64 f, .int .i64 g, .int .i64 h, .int .i64 i, .int .i64 j, .int .i64 k]) (.agg #[.int .i64 a', .int .i64 b', .int .u8 c', .int .i64 e', .int .i64 f', .int .i64 g', .int .i64 h', .int .i64 i', .int .i64 j', .int .i64 k'])).run Tryz.prog w
      = .ok (.bool (eqTrace ⟨a, b, c, e, f, g, h, i, j, k⟩ ⟨a', b', c', e', f', g', h', i', j', k'⟩)) w := by
  rw [run_eql_struct, show (10000 : Nat) = 9998 + 2 from rfl, equalInTrace]; rfl
@[go_sem ↓ high] theorem neqTrace (a b c e f g h i j k a' b' c' e' f' g' h' i' j' k' : Int) (w : World) :
    (binOp .neq 25 (.agg #[.int .i64 a, .int .i64 b, .int .u8 c, .int .i64 e, .int .i64 f, .int .i64 g, .int .i64 h, .int .i64 i, .int .i64 j, .int .i64 k]) (.agg #[.int .i64 a', .int .i64 b', .int .u8 c', .int .i64 e', .int .i64 f', .int .i64 g', .int .i64 h', .int .i64 i', .int .i64 j', .int .i64 k'])).run Tryz.prog w
      = .ok (.bool (!eqTrace ⟨a, b, c, e, f, g, h, i, j, k⟩ ⟨a', b', c', e', f', g', h', i', j', k'⟩)) w := by
  rw [run_neq_struct, show (10000 : Nat) = 9998 + 2 from rfl, equalInTrace]; rfl
@[go_sem ↓ high] theorem eqGuardTrace (op : BinOp) (x y : Operand) (xs ys : Array Value) (w : World) : (eqGuard op 25 x y (.agg xs) (.agg ys)).run Tryz.prog w = .ok () w :=
  run_eqGuard_agg w op 25 x y xs ys (by kernel_rfl)

theorem equalInLink (d : Nat) (a b c e m r a' b' c' e' m' r' : Int) (w : World) :
    (Op.equalIn (d + 3) 74 (.agg #[.int .i64 a, .int .i64 b, .int .i64 c, .int .i64 e, .int .i64 m, .int .i64 r]) (.agg #[.int .i64 a', .int .i64 b', .int .i64 c', .int .i64 e', .int .i64 m', .int .i64 r'])).run Tryz.prog w
      = .ok (eqLink ⟨⟨a, b⟩, ⟨c, e⟩, m, r⟩ ⟨⟨a', b'⟩, ⟨c', e'⟩, m', r'⟩) w := by
  have hS : Tryz.prog.underlying 74 = some (.struct (Tryz.prog.fieldsOf 74)) := by kernel_rfl
  have hp : Tryz.prog.stoodInHeld 74 = false := by kernel_rfl
  have hP := fun a b a' b' => equalInPlace d a b a' b' w
  rw [run_equalIn_agg w (d + 2) 74 _ _ hS hp]
  simp only [Program.fieldsOf, Tryz.underlying74]
  go_simp
  simp only [eqLink, Link.mk.injEq]
  (repeat' split) <;> simp_all
@[go_sem ↓ high] theorem eqlLink (a b c e m r a' b' c' e' m' r' : Int) (w : World) :
    (binOp .eql 74 (.agg #[.int .i64 a, .int .i64 b, .int .i64 c, .int .i64 e, .int .i64 m, .int .i64 r]) (.agg #[.int .i64 a', .int .i64 b', .int .i64 c', .int .i64 e', .int .i64 m', .int .i64 r'])).run Tryz.prog w
      = .ok (.bool (eqLink ⟨⟨a, b⟩, ⟨c, e⟩, m, r⟩ ⟨⟨a', b'⟩, ⟨c', e'⟩, m', r'⟩)) w := by
  rw [run_eql_struct, show (10000 : Nat) = 9997 + 3 from rfl, equalInLink]; rfl
@[go_sem ↓ high] theorem neqLink (a b c e m r a' b' c' e' m' r' : Int) (w : World) :
    (binOp .neq 74 (.agg #[.int .i64 a, .int .i64 b, .int .i64 c, .int .i64 e, .int .i64 m, .int .i64 r]) (.agg #[.int .i64 a', .int .i64 b', .int .i64 c', .int .i64 e', .int .i64 m', .int .i64 r'])).run Tryz.prog w
      = .ok (.bool (!eqLink ⟨⟨a, b⟩, ⟨c, e⟩, m, r⟩ ⟨⟨a', b'⟩, ⟨c', e'⟩, m', r'⟩)) w := by
  rw [run_neq_struct, show (10000 : Nat) = 9997 + 3 from rfl, equalInLink]; rfl
@[go_sem ↓ high] theorem eqGuardLink (op : BinOp) (x y : Operand) (xs ys : Array Value) (w : World) : (eqGuard op 74 x y (.agg xs) (.agg ys)).run Tryz.prog w = .ok () w :=
  run_eqGuard_agg w op 74 x y xs ys (by kernel_rfl)

theorem equalInAdmit (d : Nat) (a b m r a' b' m' r' : Int) (w : World) :
    (Op.equalIn (d + 3) 96 (.agg #[.int .i64 a, .int .i64 b, .int .i64 m, .int .i64 r]) (.agg #[.int .i64 a', .int .i64 b', .int .i64 m', .int .i64 r'])).run Tryz.prog w
      = .ok (eqAdmit ⟨⟨a, b⟩, m, r⟩ ⟨⟨a', b'⟩, m', r'⟩) w := by
  have hS : Tryz.prog.underlying 96 = some (.struct (Tryz.prog.fieldsOf 96)) := by kernel_rfl
  have hp : Tryz.prog.stoodInHeld 96 = false := by kernel_rfl
  have hP := fun a b a' b' => equalInPlace d a b a' b' w
  rw [run_equalIn_agg w (d + 2) 96 _ _ hS hp]
  simp only [Program.fieldsOf, Tryz.underlying96]
  go_simp
  simp only [eqAdmit, Admit.mk.injEq]
  (repeat' split) <;> simp_all
@[go_sem ↓ high] theorem neqAdmit (a b m r a' b' m' r' : Int) (w : World) :
    (binOp .neq 96 (.agg #[.int .i64 a, .int .i64 b, .int .i64 m, .int .i64 r]) (.agg #[.int .i64 a', .int .i64 b', .int .i64 m', .int .i64 r'])).run Tryz.prog w
      = .ok (.bool (!eqAdmit ⟨⟨a, b⟩, m, r⟩ ⟨⟨a', b'⟩, m', r'⟩)) w := by
  rw [run_neq_struct, show (10000 : Nat) = 9997 + 3 from rfl, equalInAdmit]; rfl
@[go_sem ↓ high] theorem eqGuardAdmit (op : BinOp) (x y : Operand) (xs ys : Array Value) (w : World) : (eqGuard op 96 x y (.agg xs) (.agg ys)).run Tryz.prog w = .ok () w :=
  run_eqGuard_agg w op 96 x y xs ys (by kernel_rfl)
end Go.Proofs.YtelnkflmnbhclaaGreat
end

/- What is proved: a law that answers, leaves what came in as it was and makes new memory alone, meets its row. Conditions: none. -/
section
namespace Go.Proofs.YtelnkflmnbhclaaGreat
open Go.RowKit Go.WideShapes Go.ChangeShapes

/-- all that came in is read again: nothing below the old size has changed -/
theorem law_kept {H : Type} {enc : TypeId × Value → H} {P : Program} {f : Func} {s : ChangeSpec} {apart fresh handsOn again : Bool} {W W' : World} {args : Array Value} {v : Value} {ds gs : List (DataW H)} {before pa pv : List MemPlace}
    (hW : DataW.Whole enc P f.params.toList s.vars apart W args.toList ds gs before) (hb : Below W.heap.size W W') (hps : before = pa ++ pv)
    (hres : ∀ (b : Nat) (sp : Nat → Bool) (hd : Bool), DataW.TrodAll enc P W' b sp hd f.resultTypes.toList (v.resultList f.resultTypes.size) (s.fn H (ds ++ gs)).results [])
    (hargs : ∀ sp : Nat → Bool, (∀ p ∈ before, sp p.block = true) → DataW.TrodAll enc P W' 0 sp true f.params.toList args.toList (s.fn H (ds ++ gs)).args pa)
    (hvars : ∀ sp : Nat → Bool, (∀ p ∈ before, sp p.block = true) → DataW.TrodVars enc P W' sp s.vars (s.fn H (ds ++ gs)).vars pv)
    (hok : ∀ (j : Nat) (t : TypeId) (r : Value), f.resultTypes[j]? = some t → (v.resultList f.resultTypes.size)[j]? = some r → Value.okWide P W' .any 0 t r) :
    s.post enc P f apart fresh handsOn again W args v W' := by
  have old : ∀ p ∈ before, p.block < W.heap.size := fun p hp => hW.lt p hp
  have mem : ∀ p, p ∈ before ↔ p ∈ pa ++ pv := fun p => by rw [hps]
  have full : ∀ p ∈ before, (fun _ : Nat => true) p.block = true := fun _ _ => rfl
  have some_ : ∀ p ∈ before, (fun b => decide (b < W.heap.size)) p.block = true := fun p hp => decide_eq_true (old p hp)
  obtain ⟨k1, k2, k3, k4, k5, hz, hn⟩ := id hW
  refine ⟨ds, gs, before, [], pa, pv, hW, hres _ _ _, hargs _ some_, hvars _ some_, World.keptBut_mono (fun p hp => ⟨hp, .inr ((mem p).1 hp |> List.mem_append.1)⟩) (hb.frame (· ∈ before)), fun _ => ⟨hok, _, _, ([] ++ pa) ++ pv, ⟨[] ++ pa, pv, trodAll_append (hargs _ full) (hres _ _ _), hvars _ full, rfl, fun b off hp => ?_, fun ha => ?_⟩, fun p hp _ => ?_⟩⟩
  · have hin : MemPlace.cell b off ∈ before := (mem _).2 (by simpa using hp)
    exact (hb.frozen (old _ hin)).trans (hz b off hin)
  · have h := hn ha
    rw [hps] at h
    simpa using h
  · exact (mem p).2 (by simpa using hp)
end Go.Proofs.YtelnkflmnbhclaaGreat
end

/- Contracts that the law leans on: Arr, Gw1. -/
import Derived.WalkKit
import Derived.WalkLawsBesides
import Derived.Laws.Rows
import Derived.Laws.CopyOwn
import Derived.Deep.Draws
import Derived.OwnWalkIn
import Derived.RangeFuncRecord
import Derived.Test.YtelnkflmnbhclaaGreatG15
import Derived.Test.YtelnkflmnbhclaaGreatG02
import Derived.Test.YtelnkflmnbhclaaGreatG06
/- What is proved: whole arrays of integers in memory: how they are read, stored, compared, made. Conditions: none. -/
section
namespace Go.Proofs.YtelnkflmnbhclaaGreat
open Go.RowKit Go.Proofs

section
variable {P : Program}
def rowA (r : List Int) : Array Value := (r.map fun n => Value.int .i64 n).toArray
@[simp] theorem rowA_size (r : List Int) : (rowA r).size = r.length := by simp [rowA]
theorem rowA_get (r : List Int) (i : Nat) : (rowA r)[i]? = (r[i]?).map fun n => Value.int .i64 n := by simp [rowA]
theorem rowA_set (r : List Int) (i : Nat) (v : Int) : (rowA r).setIfInBounds i (.int .i64 v) = rowA (r.set i v) := by
  apply Array.ext_getElem?
  intro j
  rw [rowA_get, Array.getElem?_setIfInBounds, List.getElem?_set]
  simp only [rowA_size, rowA_get]
  by_cases h : i = j
  · simp only [h, if_true]
    by_cases h2 : j < r.length <;> simp [h2]
  · simp [h]
theorem rowA_one (r : List Int) : (rowA r).all (·.oneCell') = true := by
  rw [Array.all_eq_true_iff_forall_mem]
  intro v hv
  simp only [rowA, List.mem_toArray, List.mem_map] at hv
  obtain ⟨n, _, rfl⟩ := hv
  rfl

theorem run_part_int (w : World) {e : TypeId} (he : P.underlying e = some (.int .i64)) (r : List Int) (i : Nat) (h : i < r.length) : (part e (rowA r) i).run P w = .ok (.int .i64 r[i]) w := by
  have hagg : (isAgg e).run P w = .ok false w := by
    unfold isAgg
    rw [Sem.run_bind, run_underlying he w]
    rfl
  simp [part, hagg, h]; simp [rowA]

theorem run_equalIn_row (d : Nat) {t e : TypeId} {len : Nat} {i : TypeInfo} (ht : P.underlying t = some (.array len e)) (he : P.underlying e = some (.int .i64)) (hi : P.info? e = some i) (hs : i.size = 1)
    (xs ys : List Int) (hx : xs.length = len) (hy : ys.length = len) (w : World) :
    (Op.equalIn ((d + 1) + 1) t (.agg (rowA xs)) (.agg (rowA ys))).run P w = .ok (decide (xs = ys)) w := by
  obtain ⟨E, hE⟩ : ∃ E, E = Op.equalIn (d + 1) := ⟨_, rfl⟩
  have hEi : ∀ (a b : Int) (w : World), (E e (.int .i64 a) (.int .i64 b)).run P w = .ok (a == b) w := fun a b w => by rw [hE]; exact run_equalIn_int w d e .i64 .i64 a b he
  rw [Op.equalIn, ← hE]
  clear hE
  simp only [Sem.run_bind, run_underlying ht, Result.andThen_ok, sizeOf, typeInfo, hi, run_program, Sem.run_pure, hs]
  simp only [Std.Legacy.Range.forIn_eq_forIn_range', Std.Legacy.Range.size, Nat.sub_zero, Nat.add_sub_cancel, Nat.div_one]
  obtain ⟨k, n, hk0, hn0⟩ : ∃ k n : Nat, k = 0 ∧ n = len := ⟨0, len, rfl, rfl⟩
  rw [show List.range' 0 len = List.range' k n by rw [hk0, hn0]]
  have hk : k + n = len := by omega
  have hj : ∀ j, j < k → xs[j]? = ys[j]? := fun j h => absurd h (by omega)
  clear hk0 hn0
  induction n generalizing k with
  | zero =>
    have : xs = ys := by
      apply List.ext_getElem?
      intro j
      by_cases h : j < k
      · exact hj j h
      · rw [List.getElem?_eq_none (by omega), List.getElem?_eq_none (by omega)]
    subst this
    simp
  | succ n ih =>
    have h1 : k < xs.length := by omega
    have h2 : k < ys.length := by omega
    by_cases hq : xs[k] = ys[k]
    · have := ih (k + 1) (by omega) (fun j hjk => by
        by_cases h : j < k
        · exact hj j h
        · have : j = k := by omega
          subst this
          rw [List.getElem?_eq_getElem h1, List.getElem?_eq_getElem h2, hq])
      simp only [List.range'_succ, List.forIn_cons, Nat.mul_one, Sem.run_bind, run_part_int w he xs k h1, run_part_int w he ys k h2, Result.andThen_ok, hEi, hq, beq_self_eq_true, Bool.not_true, Bool.false_eq_true, if_false, Sem.run_pure] at this ⊢
      exact this
    · have hne : (xs[k] == ys[k]) = false := by simpa using hq
      have hxy : xs ≠ ys := by
        rintro rfl
        exact hq rfl
      simp only [List.range'_succ, List.forIn_cons, Nat.mul_one, Sem.run_bind, run_part_int w he xs k h1, run_part_int w he ys k h2, Result.andThen_ok, hEi, hne, Bool.not_false, if_true, Sem.run_pure]
      simp [hxy]

/-! ### a block that is one row -/
def rowAt? (w : World) (g n : Nat) : Option (Array Value) :=
  match w.heap[g]? with
  | some (.cells cs _ (0, 0)) => if cs.size = n then some cs else none
  | _ => none
section
variable {w : World} {g b n : Nat} {cs : Array Value}
theorem rowAt?_heap (h : rowAt? w g n = some cs) : ∃ t, w.heap[g]? = some (.cells cs t (0, 0)) ∧ cs.size = n := by
  unfold rowAt? at h
  split at h
  · rename_i c t hc
    split at h
    · cases h; exact ⟨t, hc, by assumption⟩
    · cases h
  · cases h
theorem rowAt?_of {t : TypeId} (h : w.heap[g]? = some (.cells cs t (0, 0))) (hn : cs.size = n) : rowAt? w g n = some cs := by
  unfold rowAt?; rw [h]; simp [hn]
@[go_sem, simp] theorem rowAt?_drew : rowAt? w.drew g n = rowAt? w g n := rfl
@[go_sem, simp] theorem rowAt?_drewN (m : Nat) : rowAt? (w.drewN m) g n = rowAt? w g n := rfl
@[go_sem] theorem rowAt?_alloc_at (c : Array Value) (t : TypeId) (hn : b = w.heap.size) : rowAt? (w.alloc (.cells c t)) b n = if c.size = n then some c else none := by
  subst hn
  unfold rowAt?
  rw [heap_alloc_new]; rfl
@[go_sem] theorem rowAt?_alloc_past (o : Obj) (hb : b < w.heap.size) : rowAt? (w.alloc o) b n = rowAt? w b n := by
  unfold rowAt?
  rw [Below.heap_alloc w o b hb]
@[go_sem] theorem rowAt?_setCell_same (i : Nat) (v : Value) : rowAt? (w.setCell ⟨g, i, none⟩ v) g n = (rowAt? w g n).map (·.setIfInBounds i v) := by
  unfold rowAt?
  show (match (w.heap.modify g _)[g]? with | some (.cells cs _ (0, 0)) => if cs.size = n then some cs else none | _ => none) = _
  cases h : w.heap[g]? with
  | none =>
    rw [Array.getElem?_eq_none (by rw [Array.size_modify]; rwa [Array.getElem?_eq_none_iff] at h)]; rfl
  | some o =>
    obtain ⟨hlt, hk⟩ := Array.getElem?_eq_some_iff.1 h
    rw [Array.getElem?_eq_getElem (by rw [Array.size_modify]; exact hlt), Array.getElem_modify_self, hk]
    cases o with
    | cells c t fr =>
      rcases fr with ⟨a, b⟩
      rcases a with _ | a
      · rcases b with _ | b
        · by_cases hc : c.size = n <;> simp [hc]
        · rfl
      · rfl
    | _ => rfl
@[go_sem] theorem rowAt?_setCell_other (a : Addr) (v : Value) (h : ¬ b = a.block) : rowAt? (w.setCell a v) b n = rowAt? w b n := by
  unfold rowAt?
  rw [Below.heap_setCell w a v b h]
theorem rowAt?_lt (h : rowAt? w g n = some cs) : g < w.heap.size := by
  obtain ⟨t, h, _⟩ := rowAt?_heap h
  exact (Array.getElem?_eq_some_iff.1 h).1
@[go_sem] theorem rowAt?_setRow_same (cs' : Array Value) (h : (rowAt? w g n).isSome = true) (hs : cs'.size = n) : rowAt? (w.setRow g cs') g n = some cs' := by
  obtain ⟨cs, hc⟩ := Option.isSome_iff_exists.1 h
  obtain ⟨t, h1, h2⟩ := rowAt?_heap hc
  exact rowAt?_of (setRow_heap w g cs cs' t (0, 0) h1) hs
@[go_sem] theorem rowAt?_setRow_other (cs' : Array Value) (h : ¬ b = g) : rowAt? (w.setRow g cs') b n = rowAt? w b n := by
  unfold rowAt?
  rw [setRow_other w g b cs' h]
@[go_sem] theorem cell?_setRow_other (cs' : Array Value) (i : Nat) (h : ¬ b = g) : (w.setRow g cs').cell? ⟨b, i, none⟩ = w.cell? ⟨b, i, none⟩ := by
  unfold World.cell?
  rw [setRow_other w g b cs' h]
@[go_sem] theorem frozen?_setRow_other (cs' : Array Value) (i : Nat) (h : ¬ b = g) : (w.setRow g cs').frozen? ⟨b, i, none⟩ = w.frozen? ⟨b, i, none⟩ := by
  unfold World.frozen?
  rw [setRow_other w g b cs' h]
@[go_sem] theorem size_setRow' (cs' : Array Value) : (w.setRow g cs').heap.size = w.heap.size := size_setRow w g cs'
theorem rowAt?_cell (h : rowAt? w g n = some cs) (i : Nat) : w.cell? ⟨g, i, none⟩ = cs[i]? := by
  obtain ⟨t, h1, _⟩ := rowAt?_heap h
  exact cell_of_row w g i cs t (0, 0) h1
theorem rowAt?_free (h : rowAt? w g n = some cs) (i : Nat) : w.frozen? ⟨g, i, none⟩ = false := by
  obtain ⟨t, h1, _⟩ := rowAt?_heap h
  exact frozen_of_row w g i cs t h1
/-- a cell of a row of integers -/
theorem rowAt?_int {r : List Int} (h : rowAt? w g n = some (rowA r)) {i : Nat} (hi : i < r.length) : w.cell? ⟨g, i, none⟩ = some (.int .i64 (r.getD i 0)) := by
  rw [rowAt?_cell h, rowA_get]
  simp [List.getD, hi]
theorem rowAt?_len {r : List Int} (h : rowAt? w g n = some (rowA r)) : r.length = n := by
  obtain ⟨t, _, h2⟩ := rowAt?_heap h
  simpa using h2
theorem rowAt?_below {B : Nat} {w' : World} (h : rowAt? w g n = some cs) (hb : Below B w w') (hg : g < B) : rowAt? w' g n = some cs := by
  obtain ⟨t, h1, h2⟩ := rowAt?_heap h
  exact rowAt?_of ((hb.block g hg).trans h1) h2
@[go_sem] theorem setRow_alloc_at (c c' : Array Value) (t : TypeId) (hb : b = w.heap.size) : (w.alloc (.cells c t)).setRow b c' = w.alloc (.cells c' t) := by
  subst hb
  simp only [World.setRow, World.alloc]
  congr 1
  apply Array.ext_getElem?
  intro i
  rw [Array.getElem?_modify, Array.getElem?_push, Array.getElem?_push]
  by_cases h : i = w.heap.size
  · subst h; simp
  · rw [if_neg h, if_neg (fun e => h e.symm), if_neg h]
end

/-- what a type of rows of n integers is -/
structure RowT (P : Program) (t e : TypeId) (n : Nat) : Prop where
  arr : P.underlying t = some (.array n e)
  int : P.underlying e = some (.int .i64)
  info : (P.info? e).map (·.size) = some 1
  size : (P.info? t).map (·.size) = some n

def slowLoad (P : Program) (t : TypeId) (g : Nat) (w : World) : Result Value := (Instr.loadAt t (.pointer (some ⟨g, 0, none⟩))).run P w
def slowStore (P : Program) (t : TypeId) (g : Nat) (v : Value) (w : World) : Result Unit := (Instr.storeAt t (.pointer (some ⟨g, 0, none⟩)) v).run P w
theorem run_loadAt_row {t e : TypeId} {n : Nat} (T : RowT P t e n) (g : Nat) (w : World) :
    (Instr.loadAt t (.pointer (some ⟨g, 0, none⟩))).run P w = match rowAt? w g n with | some cs => .ok (.agg cs) w | none => slowLoad P t g w := by
  cases h : rowAt? w g n with
  | none => rfl
  | some cs =>
    obtain ⟨t', h1, h2⟩ := rowAt?_heap h
    simp only [Instr.loadAt, Instr.sureAddr, Sem.run_bind, Sem.run_pure, Result.andThen_ok]
    exact run_loadVar_row w g t' t cs (0, 0) _ h1 T.arr rfl (by rw [h2]; exact T.size)
theorem run_storeAt_row {t e : TypeId} {n : Nat} (T : RowT P t e n) (g : Nat) (r : List Int) (w : World) :
    (Instr.storeAt t (.pointer (some ⟨g, 0, none⟩)) (.agg (rowA r))).run P w = if (rowAt? w g n).isSome = true ∧ r.length = n then .ok () (w.setRow g (rowA r)) else slowStore P t g (.agg (rowA r)) w := by
  split
  · rename_i h
    obtain ⟨cs, hc⟩ := Option.isSome_iff_exists.1 h.1
    obtain ⟨t', h1, h2⟩ := rowAt?_heap hc
    simp only [Instr.storeAt, Instr.sureAddr, Sem.run_bind, Sem.run_pure, Result.andThen_ok]
    exact run_storeVar_row w g t' t cs (rowA r) h1 (by rw [rowA_size, h.2]; exact T.size) (by rw [rowA_size, h2, h.2]) (rowA_one r)
  · rfl
theorem run_alloc_row {t : TypeId} {cs : Array Value} (hz : (P.info? t).map (·.zero) = some (some (.agg cs))) (w : World) :
    (Instr.alloc t true (.tuple #[])).run P w = .ok (.pointer (some ⟨w.heap.size, 0, none⟩)) (w.alloc (.cells cs t)) := by
  cases hi : P.info? t with
  | none => simp [hi] at hz
  | some i =>
    have h0 : i.zero = some (.agg cs) := by simpa [hi] using hz
    simp [Instr.alloc, zeroValue, typeInfo, hi, h0, newVar, newRow, Value.cells]
theorem run_eql_row {t e : TypeId} {n : Nat} (T : RowT P t e n) (xs ys : List Int) (w : World) (hx : xs.length = n) (hy : ys.length = n) :
    (binOp .eql t (.agg (rowA xs)) (.agg (rowA ys))).run P w = .ok (.bool (decide (xs = ys))) w := by
  obtain ⟨i, hi, hs⟩ : ∃ i, P.info? e = some i ∧ i.size = 1 := by simpa using T.info
  rw [run_eql_struct, show (10000 : Nat) = 9998 + 1 + 1 from rfl, run_equalIn_row 9998 T.arr T.int hi hs xs ys hx hy]
  rfl
end

theorem row206 : RowT Tryz.prog 206 3 60 := ⟨Tryz.underlying206, Tryz.underlying3, by kernel_rfl, by kernel_rfl⟩
theorem row207 : RowT Tryz.prog 207 3 60 := ⟨Tryz.underlying207, Tryz.underlying3, by kernel_rfl, by kernel_rfl⟩
theorem zero206 : (Tryz.prog.info? 206).map (·.zero) = some (some (.agg (rowA zeroRow))) := by kernel_rfl
theorem zero207 : (Tryz.prog.info? 207).map (·.zero) = some (some (.agg (rowA zeroRow))) := by kernel_rfl
section
variable {P : Program} {F : Fence} {nn : Nat} {ops : Array Oper} {rest : List Oper} {o : Oper} {a : Act} {w : World} {Q : Exit → Act → World → Prop}
theorem wpL_load {t e : TypeId} {n : Nat} (T : RowT P t e n) {x : Operand} (ho : o.op = .load t x) (hgd : o.guard = none) {g : Nat} (hx : a.eval x = .pointer (some ⟨g, 0, none⟩)) {cs : Array Value} (hr : rowAt? w g n = some cs)
    (h : wpList P ops Q rest (a.put o.dst (.agg cs)) w) : wpList P ops Q (o :: rest) a w := by
  refine wpList_plain hgd fun _ hK => ?_
  unfold Oper.wp execOp
  simp only [ho, hx, Sem.run_bind, run_loadAt_row T, hr, Result.andThen_ok, Sem.run_pure]
  exact hK _ _ h
theorem wpL_store {t e : TypeId} {n : Nat} (T : RowT P t e n) {x y : Operand} (ho : o.op = .store t x y) (hgd : o.guard = none) {g : Nat} (hx : a.eval x = .pointer (some ⟨g, 0, none⟩)) {r : List Int} (hy : a.eval y = .agg (rowA r)) (hr : (rowAt? w g n).isSome = true) (hl : r.length = n)
    (h : wpList P ops Q rest (a.put o.dst undef) (w.setRow g (rowA r))) : wpList P ops Q (o :: rest) a w := by
  refine wpList_plain hgd fun _ hK => ?_
  unfold Oper.wp execOp
  simp only [ho, hx, hy, Sem.run_bind, run_storeAt_row T, hr, hl, and_self, if_true, Result.andThen_ok, Sem.run_pure]
  exact hK _ _ h
theorem wpL_alloc {t : TypeId} (ho : o.op = .alloc t) (hgd : o.guard = none) {cs : Array Value} (hz : (P.info? t).map (·.zero) = some (some (.agg cs)))
    (h : wpList P ops Q rest (a.put o.dst (.pointer (some ⟨w.heap.size, 0, none⟩))) (w.alloc (.cells cs t))) : wpList P ops Q (o :: rest) a w := by
  refine wpList_plain hgd fun _ hK => ?_
  unfold Oper.wp execOp
  simp only [ho, Sem.run_bind, run_alloc_row hz, Result.andThen_ok, Sem.run_pure]
  exact hK _ _ h
/-- a row stored into the block that was just made for it -/
theorem wpL_storeNew {t e : TypeId} {n : Nat} (T : RowT P t e n) {x y : Operand} (ho : o.op = .store t x y) (hgd : o.guard = none) {c : Array Value} {t' : TypeId} {b : Nat} (hx : a.eval x = .pointer (some ⟨b, 0, none⟩)) (hb : b = w.heap.size) (hc : c.size = n) {r : List Int} (hy : a.eval y = .agg (rowA r)) (hl : r.length = n)
    (h : wpList P ops Q rest (a.put o.dst undef) (w.alloc (.cells (rowA r) t'))) : wpList P ops Q (o :: rest) a (w.alloc (.cells c t')) := by
  refine wpL_store T ho hgd hx hy (by rw [rowAt?_alloc_at _ _ hb, if_pos hc]; rfl) hl ?_
  rwa [setRow_alloc_at _ _ _ hb]
theorem wpLI_load {t e : TypeId} {n : Nat} (T : RowT P t e n) {x : Operand} (ho : o.op = .load t x) (hgd : o.guard = none) {g : Nat} (hx : a.eval x = .pointer (some ⟨g, 0, none⟩)) {cs : Array Value} (hr : rowAt? w g n = some cs)
    (h : wpListIn F nn P ops Q rest (a.put o.dst (.agg cs)) w) : wpListIn F nn P ops Q (o :: rest) a w := by
  refine wpListIn_plain hgd fun K hK' => ?_
  unfold Oper.wpIn
  refine ⟨?_, ?_⟩
  · simp [Oper.about, ho]
  · rw [Oper.semAt_plain F _ _ (by rw [ho]; intro c hc'; cases hc')]
    simp only [execOp, ho, hx, Sem.run_bind, run_loadAt_row T, hr, Result.andThen_ok, Sem.run_pure]
    exact hK' _ _ h
theorem wpLI_store {t e : TypeId} {n : Nat} (T : RowT P t e n) {x y : Operand} (ho : o.op = .store t x y) (hgd : o.guard = none) {g : Nat} (hx : a.eval x = .pointer (some ⟨g, 0, none⟩)) {r : List Int} (hy : a.eval y = .agg (rowA r)) (hr : (rowAt? w g n).isSome = true) (hl : r.length = n)
    (h : wpListIn F nn P ops Q rest (a.put o.dst undef) (w.setRow g (rowA r))) : wpListIn F nn P ops Q (o :: rest) a w := by
  refine wpListIn_plain hgd fun K hK' => ?_
  unfold Oper.wpIn
  refine ⟨?_, ?_⟩
  · simp [Oper.about, ho]
  · rw [Oper.semAt_plain F _ _ (by rw [ho]; intro c hc'; cases hc')]
    simp only [execOp, ho, hx, hy, Sem.run_bind, run_storeAt_row T, hr, hl, and_self, if_true, Result.andThen_ok, Sem.run_pure]
    exact hK' _ _ h
theorem wpLI_alloc {t : TypeId} (ho : o.op = .alloc t) (hgd : o.guard = none) {cs : Array Value} (hz : (P.info? t).map (·.zero) = some (some (.agg cs)))
    (h : wpListIn F nn P ops Q rest (a.put o.dst (.pointer (some ⟨w.heap.size, 0, none⟩))) (w.alloc (.cells cs t))) : wpListIn F nn P ops Q (o :: rest) a w := by
  refine wpListIn_plain hgd fun K hK' => ?_
  unfold Oper.wpIn
  refine ⟨?_, ?_⟩
  · simp [Oper.about, ho]
  · rw [Oper.semAt_plain F _ _ (by rw [ho]; intro c hc'; cases hc')]
    simp only [execOp, ho, Sem.run_bind, run_alloc_row hz, Result.andThen_ok, Sem.run_pure]
    exact hK' _ _ h
theorem wpLI_storeNew {t e : TypeId} {n : Nat} (T : RowT P t e n) {x y : Operand} (ho : o.op = .store t x y) (hgd : o.guard = none) {c : Array Value} {t' : TypeId} {b : Nat} (hx : a.eval x = .pointer (some ⟨b, 0, none⟩)) (hb : b = w.heap.size) (hc : c.size = n) {r : List Int} (hy : a.eval y = .agg (rowA r)) (hl : r.length = n)
    (h : wpListIn F nn P ops Q rest (a.put o.dst undef) (w.alloc (.cells (rowA r) t'))) : wpListIn F nn P ops Q (o :: rest) a (w.alloc (.cells c t')) := by
  refine wpLI_store T ho hgd hx hy (by rw [rowAt?_alloc_at _ _ hb, if_pos hc]; rfl) hl ?_
  rwa [setRow_alloc_at _ _ _ hb]
end
@[go_sem, simp] theorem rowZ_ne : (rowA zeroRow = #[]) = False := by simp [rowA, zeroRow]
@[go_sem ↓ high] theorem eql207 (xs ys : List Int) (w : World) (hx : xs.length = 60) (hy : ys.length = 60) : (binOp .eql 207 (.agg (rowA xs)) (.agg (rowA ys))).run Tryz.prog w = .ok (.bool (decide (xs = ys))) w := run_eql_row row207 xs ys w hx hy
@[go_sem ↓ high] theorem eqGuard207 (op : BinOp) (x y : Operand) (xs ys : Array Value) (w : World) : (eqGuard op 207 x y (.agg xs) (.agg ys)).run Tryz.prog w = .ok () w :=
  run_eqGuard_agg w op 207 x y xs ys (by kernel_rfl)
attribute [go_sem] rowA_size
@[go_sem] theorem zeroRow_len : zeroRow.length = 60 := by simp [zeroRow]
@[go_sem] theorem emptyRow_len : emptyRow.length = 60 := by simp [emptyRow]
@[go_sem] theorem lasts_len : lasts.length = 60 := by simp [lasts]
end Go.Proofs.YtelnkflmnbhclaaGreat
end

/- What is proved: the contracts of gauge.within, CheckSystem and its closure. Conditions: none. -/
section
namespace Go.Proofs.YtelnkflmnbhclaaGreat
open Go.RowKit Go.Proofs Go.Shelf

theorem withinB_iff {n low high : Int} : withinB n low high = true ↔ low ≤ n ∧ n ≤ high := by simp [withinB]
theorem within_any (n low high : Int) (w : World) :
    Calls Tryz.prog 200 #[.int .i64 n, .int .i64 low, .int .i64 high] w fun e w' => e = .returned (.bool (withinB n low high)) ∧ w' = w := by
  by_cases h : low ≤ n
  · go_enter Tryz.func200, Tryz.ntmps200
    go_wp2
    go_ret
    exact ⟨by simp [withinB, h], rfl⟩
  · go_enter Tryz.func200, Tryz.ntmps200
    go_wp2
    go_ret
    exact ⟨by simp [withinB]; omega, rfl⟩

set_option maxHeartbeats 1000000 in
theorem wrongpred (pts : Int) (_ : Option Addr) (_ _ : Nat) (bx : Nat) (w : World) (hlt : bx < w.heap.size) (h0 : w.cell? ⟨bx, 0, none⟩ = some (.int .i64 pts)) (hp1 : 1 ≤ pts) (hp2 : pts ≤ 60) :
    PredB Tryz.prog 199 #[.pointer (some ⟨bx, 0, none⟩)] (fun x => .agg (encBound x).toArray) (wrongB pts) w := by
  intro W x hb
  have c0 : W.cell? ⟨bx, 0, none⟩ = some (.int .i64 pts) := (hb.cell (p := ⟨bx, 0, none⟩) hlt).trans h0
  have hlt2 : bx < W.heap.size := by have := hb.size; omega
  simp only [encBound, List.append_toArray, List.cons_append, List.nil_append]
  cases a1 : withinB x.src 0 (pts - 1)
  · go_enter Tryz.func199, Tryz.ntmps199
    go_wp2_with (go_at_call 200; refine (within_any _ _ _ _).mono ?_; rintro e w' ⟨rfl, rfl⟩; try simp only [a1])
    go_ret
    exact ⟨by simp [wrongB, a1], hb.alloc hb.size _⟩
  · cases a2 : withinB x.dst 0 (pts - 1)
    · go_enter Tryz.func199, Tryz.ntmps199
      go_wp2_with (go_at_call 200; refine (within_any _ _ _ _).mono ?_; rintro e w' ⟨rfl, rfl⟩; try simp only [a1, a2])
      go_ret
      exact ⟨by simp [wrongB, a1, a2], hb.alloc hb.size _⟩
    · by_cases a3 : x.src = x.dst
      · have a3' : (x.src == x.dst) = true := by simpa using a3
        have HA := Lib.hid a3
        clear a3
        go_enter Tryz.func199, Tryz.ntmps199
        go_wp2_with (go_at_call 200; refine (within_any _ _ _ _).mono ?_; rintro e w' ⟨rfl, rfl⟩; try simp only [a1, a2])
        go_ret
        exact ⟨by simp [wrongB, a2, HA.out], hb.alloc hb.size _⟩
      · have a3' : (x.src == x.dst) = false := by simpa using a3
        cases a4 : withinB x.most (-1000000) 1000000
        · go_enter Tryz.func199, Tryz.ntmps199
          go_wp2_with (go_at_call 200; refine (within_any _ _ _ _).mono ?_; rintro e w' ⟨rfl, rfl⟩; try simp only [a1, a2, a4])
          go_ret
          exact ⟨by simp [wrongB, a1, a2, a3, a4], hb.alloc hb.size _⟩
        · cases a5 : withinB x.by_ 0 1000000
          all_goals
            go_enter Tryz.func199, Tryz.ntmps199
            go_wp2_with (go_at_call 200; refine (within_any _ _ _ _).mono ?_; rintro e w' ⟨rfl, rfl⟩; try simp only [a1, a2, a4, a5])
            go_ret
            exact ⟨by simp [wrongB, a1, a2, a3, a4, a5], hb.alloc hb.size _⟩

theorem ent_wrong : ∀ args w, (callFunc 199 args).run Tryz.prog w = .ok (.enter 199 args) w := enters_of Tryz.func199 (by kernel_rfl) rfl

set_option maxHeartbeats 1000000 in
theorem CheckSystem_any (pts : Int) (A : Option Addr) (n c : Nat) (bs : List Bound) (w : World) (hl : Rd encBound 4 w A n c bs) :
    Calls Tryz.prog 144 #[.agg #[.int .i64 pts, .slice A n c]] w fun e w' => e = .returned (.int .i64 (checkSys pts bs)) ∧ Below w.heap.size w w' := by
  have hlen := hl.len
  by_cases h1 : 60 < pts
  · have he : checkSys pts bs = 2 := by unfold checkSys; rw [if_pos (.inl h1)]
    rw [he]
    clear he hlen
    go_enter Tryz.func144, Tryz.ntmps144
    go_wp2
    go_ret
    exact ⟨rfl, (by ((repeat' (first | (with_reducible assumption) | (with_reducible exact Below.refl _ _) | (with_reducible refine Below.drew ?_) | (with_reducible refine below_drewN' ?_ _) | (with_reducible refine Below.alloc ?_ ?_ _) | (with_reducible refine Below.setCell ?_ ?_ _) | (with_reducible refine below_step (by assumption) ?_ ?_))) <;> first | (simp; done) | (simp; omega) | omega))⟩
  · by_cases h2 : 400 < n
    · have he : checkSys pts bs = 2 := by unfold checkSys; rw [if_pos (.inr (by omega))]
      have h2' : (400 : Int) < n := by omega
      rw [he]
      clear he hlen
      go_enter Tryz.func144, Tryz.ntmps144
      go_wp2
      go_ret
      exact ⟨rfl, (by ((repeat' (first | (with_reducible assumption) | (with_reducible exact Below.refl _ _) | (with_reducible refine Below.drew ?_) | (with_reducible refine below_drewN' ?_ _) | (with_reducible refine Below.alloc ?_ ?_ _) | (with_reducible refine Below.setCell ?_ ?_ _) | (with_reducible refine below_step (by assumption) ?_ ?_))) <;> first | (simp; done) | (simp; omega) | omega))⟩
    · have h2' : ¬ (400 : Int) < n := by omega
      by_cases h3 : pts < 1
      · have he : checkSys pts bs = 1 := by unfold checkSys; rw [if_neg (by omega), if_pos (.inl h3)]
        rw [he]
        clear he hlen
        go_enter Tryz.func144, Tryz.ntmps144
        go_wp2
        go_ret
        exact ⟨rfl, (by ((repeat' (first | (with_reducible assumption) | (with_reducible exact Below.refl _ _) | (with_reducible refine Below.drew ?_) | (with_reducible refine below_drewN' ?_ _) | (with_reducible refine Below.alloc ?_ ?_ _) | (with_reducible refine Below.setCell ?_ ?_ _) | (with_reducible refine below_step (by assumption) ?_ ?_))) <;> first | (simp; done) | (simp; omega) | omega))⟩
      · have hcf := ContainsFunc_Bound 199 #[.pointer (some ⟨w.heap.size, 0, none⟩)] ent_wrong (wrongB pts) A n c bs _ (hl.alloc (.cells #[.int .i64 pts, .slice A n c] 117)) (wrongpred pts A n c w.heap.size _ (by simp) (by simp) (by omega) (by omega))
        have he : checkSys pts bs = if bs.any (wrongB pts) = true then 1 else 0 := by
          unfold checkSys; rw [if_neg (by omega)]
          by_cases hq : bs.any (wrongB pts) = true
          · rw [if_pos (.inr hq), if_pos hq]
          · rw [if_neg (fun h => by rcases h with h | h; exact h3 h; exact hq h), if_neg hq]
        rw [he]
        clear he hlen
        cases hq : bs.any (wrongB pts)
        all_goals
          rw [hq] at hcf
          clear hq
          have HCF := Lib.hid hcf
          clear hcf
          go_enter Tryz.func144, Tryz.ntmps144
          go_wp2_with (go_at_call 201; refine HCF.out.mono ?_; rintro e w' ⟨rfl, hbC⟩)
          go_ret
          exact ⟨rfl, (by ((repeat' (first | (with_reducible assumption) | (with_reducible exact Below.refl _ _) | (with_reducible refine Below.drew ?_) | (with_reducible refine below_drewN' ?_ _) | (with_reducible refine Below.alloc ?_ ?_ _) | (with_reducible refine Below.setCell ?_ ?_ _) | (with_reducible refine below_step (by assumption) ?_ ?_))) <;> first | (simp; done) | (simp; omega) | omega))⟩
end Go.Proofs.YtelnkflmnbhclaaGreat
end

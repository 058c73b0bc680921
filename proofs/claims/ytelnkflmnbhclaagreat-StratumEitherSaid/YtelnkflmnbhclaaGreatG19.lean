/- Contracts that the law leans on: Tab2, Facts, Rowm. -/
import Derived.Test.YtelnkflmnbhclaaGreatG18
import Derived.Test.YtelnkflmnbhclaaGreatG16
import Derived.Test.YtelnkflmnbhclaaGreatG04
import Derived.Test.YtelnkflmnbhclaaGreatG07
import Derived.Deep.MidRow
import Derived.Great.BuildSlice
/- What is proved: a region that draws its order, by a table of values, where a slot may be read ahead of being written. Conditions: none. -/
section
namespace Go.Proofs.YtelnkflmnbhclaaGreat
open Go.RowKit Go.Proofs

def Later (ops : Array Oper) (a0 : Act) (listed : Array Bool) (b : Act) : Prop := ∀ j d, dstOf ops j = some d → listed.getD j false = false → b.tmps.getD d undef = a0.tmps.getD d undef
theorem Later.set {ops : Array Oper} {V : Nat → Value} {a0 : Act} {listed : Array Bool} {b : Act} {m i : Nat} {o : Oper} (hok : tabOk ops m = true) (h : Later ops a0 listed b) (ho : ops[i]? = some o) (hs : listed.size = ops.size) : Later ops a0 (listed.setIfInBounds i true) (b.put o.dst (V i)) := by
  intro j d hj hl
  have hij : i ≠ j := fun e => by
    subst e
    have hi : i < listed.size := by rw [hs]; exact (Array.getElem?_eq_some_iff.1 ho).1
    simp [hi] at hl
  rw [getD_set_ne false hij] at hl
  have h1 := h j d hj hl
  obtain ⟨_, _, _, hd⟩ := tabOk_at hok ho
  have hjs : j < ops.size := by
    rcases Nat.lt_or_ge j ops.size with h | h
    · exact h
    · simp [dstOf, Array.getElem?_eq_none h] at hj
  cases hdst : o.dst with
  | none => exact h1
  | some d' =>
    have hne : d' ≠ d := fun e => (hd d' hdst).2 j hjs (Ne.symm hij) (by rw [hj, e])
    rw [← h1]
    simp only [Act.put, Array.getD_eq_getD_getElem?, Array.getElem?_setIfInBounds_ne hne]
theorem wpIn_region_tab2 {P : Program} {nn : Nat} {id : Nat} {l : List Oper} {Q : Exit → Act → World → Prop} {a : Act} {w : World} (hm : P.follows .mixedOrders = true) (V : Nat → Value) (Wf : Array Bool → World) (hok : tabOk l.toArray a.tmps.size = true)
    (h0 : Wf (Array.replicate l.toArray.size false) = w.drew)
    (hrun : ∀ listed i o b, i ∈ Region.ready .any l.toArray listed → l.toArray[i]? = some o → TabAt l.toArray V a listed b → Later l.toArray a listed b →
      (execOp b.eval o).run P (Wf listed) = .ok (.value (V i)) (Wf (listed.setIfInBounds i true)) ∨ ((execOp b.eval o).run P (Wf listed) = .ok .skip (Wf (listed.setIfInBounds i true)) ∧ V i = undef))
    (hend : ∀ b, TabAt l.toArray V a (Array.replicate l.toArray.size true) b → Q .normal b (Wf (Array.replicate l.toArray.size true))) :
    (Code.region id l.toArray true).wpIn Fence.wide nn P Q a w := by
  refine wpIn_region_inv a.tmps.size hm (fun _ => trivial) hok (fun listed b W => TabAt l.toArray V a listed b ∧ Later l.toArray a listed b ∧ W = Wf listed) ⟨TabAt.start a, fun _ _ _ _ => rfl, h0.symm⟩ ?_ ?_
  · rintro listed i o b W hs hi ho ⟨h1, h2, rfl⟩
    rcases hrun listed i o b hi ho h1 h2 with hr | ⟨hr, hv⟩
    · exact wide_val hr ⟨h1.set hok rfl hi ho, h2.set hok ho hs, rfl⟩
    · refine wide_skip hr ⟨?_, ?_, rfl⟩
      · rw [← hv]; exact h1.set hok rfl hi ho
      · rw [← hv]; exact h2.set hok ho hs
  · rintro b W ⟨h1, _, rfl⟩
    exact hend b h1
end Go.Proofs.YtelnkflmnbhclaaGreat
end

/- What is proved: a region that draws its order: a fact for each operation that is done, a premise for each that is still to do: if each operation keeps the others', one end serves every order. Conditions: none. -/
section
namespace Go.Proofs.YtelnkflmnbhclaaGreat
open Go.RowKit Go.Proofs

/-- what is known while some operations are done -/
structure FactsAt (ops : Array Oper) (a : Act) (Fact : Nat → Value → World → Prop) (Pre : Nat → World → Prop) (G : World → Prop) (V : Nat → Value) (listed : Array Bool) (b : Act) (W : World) : Prop where
  tab : TabAt ops V a listed b
  later : Later ops a listed b
  fact : ∀ j, listed.getD j false = true → Fact j (V j) W
  pre : ∀ j, j < ops.size → listed.getD j false = false → Pre j W
  glob : G W
/-- what an operation that is done must leave -/
def FactsGo (ops : Array Oper) (Fact : Nat → Value → World → Prop) (Pre : Nat → World → Prop) (G : World → Prop) (V : Nat → Value) (listed : Array Bool) (i : Nat) (d : Option Tmp) (b : Act) (W : World) (b' : Act) (W' : World) : Prop :=
  ∃ v, b' = b.put d v ∧ Fact i v W' ∧ (∀ j, j ≠ i → listed.getD j false = true → Fact j (V j) W → Fact j (V j) W') ∧ (∀ j, j < ops.size → j ≠ i → listed.getD j false = false → Pre j W → Pre j W') ∧ G W'
theorem FactsGo.same {ops : Array Oper} {Fact : Nat → Value → World → Prop} {Pre : Nat → World → Prop} {G : World → Prop} {V : Nat → Value} {listed : Array Bool} {i : Nat} {d : Option Tmp} {b : Act} {W : World} {v : Value} (hg : G W) (h : Fact i v W) : FactsGo ops Fact Pre G V listed i d b W (b.put d v) W :=
  ⟨v, rfl, h, fun _ _ _ h => h, fun _ _ _ _ h => h, hg⟩
section
variable {P : Program} {nn : Nat} {ops : Array Oper} {a : Act} {Fact : Nat → Value → World → Prop} {Pre : Nat → World → Prop} {G : World → Prop}
theorem FactsAt.next {m : Nat} (hok : tabOk ops m = true) (hT : m = a.tmps.size) {V : Nat → Value} {listed : Array Bool} {i : Nat} {o : Oper} {b b' : Act} {W W' : World} (h : FactsAt ops a Fact Pre G V listed b W) (hi : i ∈ Region.ready .any ops listed) (ho : ops[i]? = some o)
    (hg : FactsGo ops Fact Pre G V listed i o.dst b W b' W') : ∃ V', FactsAt ops a Fact Pre G V' (listed.setIfInBounds i true) b' W' := by
  obtain ⟨v, rfl, h1, h2, h3, h4⟩ := hg
  obtain ⟨hun, _⟩ := mem_ready.1 hi
  have hun' : listed.getD i false = false := getD_both hun
  obtain ⟨V', hV⟩ : ∃ V' : Nat → Value, ∀ j, V' j = if j = i then v else V j := ⟨_, fun _ => rfl⟩
  have hi' : V' i = v := by rw [hV, if_pos rfl]
  have hcon : TabAt ops V' a listed b := h.tab.congr (fun j hj => by
    rw [hV, if_neg]
    intro e; subst e; rw [hun'] at hj; cases hj)
  have hlt : i < listed.size := by rw [h.tab.size]; exact (Array.getElem?_eq_some_iff.1 ho).1
  have hset := hcon.set hok hT hi ho
  have hlat := h.later.set (V := V') hok ho h.tab.size
  rw [hi'] at hset hlat
  refine ⟨V', hset, hlat, fun j hj => ?_, fun j hjs hj => ?_, h4⟩
  · by_cases e : j = i
    · subst e; rw [hi']; exact h1
    · rw [getD_set_ne false (Ne.symm e)] at hj
      rw [hV, if_neg e]
      exact h2 j e hj (h.fact j hj)
  · by_cases e : j = i
    · subst e
      rw [getD_set_self rfl hlt] at hj
      cases hj
    · rw [getD_set_ne false (Ne.symm e)] at hj
      exact h3 j hjs e hj (h.pre j hjs hj)
theorem wpIn_region_facts {id : Nat} {l : List Oper} {Q : Exit → Act → World → Prop} {a : Act} {w : World} (m : Nat) (hm : P.follows .mixedOrders = true) (hok : tabOk l.toArray m = true) (hT : m = a.tmps.size)
    (Fact : Nat → Value → World → Prop) (Pre : Nat → World → Prop) (G : World → Prop) (hG : G w.drew) (hP : ∀ j, j < l.toArray.size → Pre j w.drew)
    (hstep : ∀ V listed i o b W, i ∈ Region.ready .any l.toArray listed → l.toArray[i]? = some o → FactsAt l.toArray a Fact Pre G V listed b W → o.wpIn Fence.wide nn P b W (fun b' W' => FactsGo l.toArray Fact Pre G V listed i o.dst b W b' W') Q)
    (hend : ∀ V W, (∀ j, j < l.toArray.size → Fact j (V j) W) → G W → Q .normal { tmps := framed l.toArray V a.tmps l.toArray.size, defers := a.defers } W) : (Code.region id l.toArray true).wpIn Fence.wide nn P Q a w := by
  refine wpIn_region_inv m hm (fun _ => trivial) hok (fun listed b W => ∃ V, FactsAt l.toArray a Fact Pre G V listed b W) ?_ ?_ ?_
  · exact ⟨fun _ => undef, TabAt.start a, fun _ _ _ _ => rfl, fun j hj => (by rw [getD_replicate_false] at hj; cases hj), fun j hj _ => hP j hj, hG⟩
  · rintro listed i o b W hs hi ho ⟨V, h⟩
    exact Oper.wpIn_mono (fun b' W' hg => h.next hok hT hi ho hg) (hstep V listed i o b W hi ho h)
  · rintro b W ⟨V, h⟩
    have hact := h.tab.act hok hT
    rw [hact]
    exact hend V W (fun j hj => h.fact j (by have hj' : j < l.length := (by simpa using hj); simp [hj'])) h.glob
end
/-! ### the same, where values of two operations are held against each other (X) -/
structure FactsAtX (ops : Array Oper) (a : Act) (Fact : Nat → Value → World → Prop) (Pre : Nat → World → Prop) (G : World → Prop) (X : (Nat → Value) → (Nat → Bool) → Prop) (V : Nat → Value) (listed : Array Bool) (b : Act) (W : World) : Prop extends FactsAt ops a Fact Pre G V listed b W where
  x : X V (fun j => listed.getD j false)
def nextV (V : Nat → Value) (i : Nat) (v : Value) (j : Nat) : Value := if j = i then v else V j
def nextL (listed : Array Bool) (i : Nat) (j : Nat) : Bool := if j = i then true else listed.getD j false
theorem nextV_at {V : Nat → Value} {i : Nat} {v : Value} : nextV V i v i = v := by simp [nextV]
theorem nextV_ne {V : Nat → Value} {i j : Nat} {v : Value} (h : j ≠ i) : nextV V i v j = V j := by simp [nextV, h]
theorem nextL_at {listed : Array Bool} {i : Nat} : nextL listed i i = true := by simp [nextL]
theorem nextL_ne {listed : Array Bool} {i j : Nat} (h : j ≠ i) : nextL listed i j = listed.getD j false := by simp only [nextL, if_neg h]
def FactsGoX (ops : Array Oper) (Fact : Nat → Value → World → Prop) (Pre : Nat → World → Prop) (G : World → Prop) (X : (Nat → Value) → (Nat → Bool) → Prop) (V : Nat → Value) (listed : Array Bool) (i : Nat) (d : Option Tmp) (b : Act) (W : World) (b' : Act) (W' : World) : Prop :=
  ∃ v, b' = b.put d v ∧ Fact i v W' ∧ (∀ j, j ≠ i → listed.getD j false = true → Fact j (V j) W → Fact j (V j) W') ∧ (∀ j, j < ops.size → j ≠ i → listed.getD j false = false → Pre j W → Pre j W') ∧ G W' ∧ X (nextV V i v) (nextL listed i)
theorem FactsGoX.same {ops : Array Oper} {Fact : Nat → Value → World → Prop} {Pre : Nat → World → Prop} {G : World → Prop} {X : (Nat → Value) → (Nat → Bool) → Prop} {V : Nat → Value} {listed : Array Bool} {i : Nat} {d : Option Tmp} {b : Act} {W : World} {v : Value} (hg : G W) (h : Fact i v W) (hx : X (nextV V i v) (nextL listed i)) : FactsGoX ops Fact Pre G X V listed i d b W (b.put d v) W :=
  ⟨v, rfl, h, fun _ _ _ h => h, fun _ _ _ _ h => h, hg, hx⟩
section
variable {P : Program} {nn : Nat} {ops : Array Oper} {a : Act} {Fact : Nat → Value → World → Prop} {Pre : Nat → World → Prop} {G : World → Prop} {X : (Nat → Value) → (Nat → Bool) → Prop}
theorem FactsAtX.next {m : Nat} (hok : tabOk ops m = true) (hT : m = a.tmps.size) {V : Nat → Value} {listed : Array Bool} {i : Nat} {o : Oper} {b b' : Act} {W W' : World} (h : FactsAtX ops a Fact Pre G X V listed b W) (hi : i ∈ Region.ready .any ops listed) (ho : ops[i]? = some o)
    (hg : FactsGoX ops Fact Pre G X V listed i o.dst b W b' W') : ∃ V', FactsAtX ops a Fact Pre G X V' (listed.setIfInBounds i true) b' W' := by
  obtain ⟨v, rfl, h1, h2, h3, h4, h5⟩ := hg
  obtain ⟨hun, _⟩ := mem_ready.1 hi
  have hun' : listed.getD i false = false := getD_both hun
  have hV : ∀ j, nextV V i v j = if j = i then v else V j := fun _ => rfl
  have hi' : nextV V i v i = v := by rw [hV, if_pos rfl]
  have hcon : TabAt ops (nextV V i v) a listed b := h.tab.congr (fun j hj => by
    rw [hV, if_neg]
    intro e; subst e; rw [hun'] at hj; cases hj)
  have hlt : i < listed.size := by rw [h.tab.size]; exact (Array.getElem?_eq_some_iff.1 ho).1
  have hset := hcon.set hok hT hi ho
  have hlat := h.later.set (V := nextV V i v) hok ho h.tab.size
  rw [hi'] at hset hlat
  have hL : nextL listed i = fun j => (listed.setIfInBounds i true).getD j false := by
    funext j
    by_cases e : j = i
    · subst e; rw [nextL_at, getD_set_self rfl hlt]
    · rw [nextL_ne e, getD_set_ne false (Ne.symm e)]
  refine ⟨nextV V i v, ⟨hset, hlat, fun j hj => ?_, fun j hjs hj => ?_, h4⟩, hL ▸ h5⟩
  · by_cases e : j = i
    · subst e; rw [hi']; exact h1
    · rw [getD_set_ne false (Ne.symm e)] at hj
      rw [hV, if_neg e]
      exact h2 j e hj (h.fact j hj)
  · by_cases e : j = i
    · subst e
      rw [getD_set_self rfl hlt] at hj
      cases hj
    · rw [getD_set_ne false (Ne.symm e)] at hj
      exact h3 j hjs e hj (h.pre j hjs hj)
theorem wpIn_region_factsX {id : Nat} {l : List Oper} {Q : Exit → Act → World → Prop} {a : Act} {w : World} (m : Nat) (hm : P.follows .mixedOrders = true) (hok : tabOk l.toArray m = true) (hT : m = a.tmps.size)
    (Fact : Nat → Value → World → Prop) (Pre : Nat → World → Prop) (G : World → Prop) (X : (Nat → Value) → (Nat → Bool) → Prop) (hG : G w.drew) (hP : ∀ j, j < l.toArray.size → Pre j w.drew) (hX : ∀ V, X V (fun _ => false))
    (hstep : ∀ V listed i o b W, i ∈ Region.ready .any l.toArray listed → l.toArray[i]? = some o → FactsAtX l.toArray a Fact Pre G X V listed b W → o.wpIn Fence.wide nn P b W (fun b' W' => FactsGoX l.toArray Fact Pre G X V listed i o.dst b W b' W') Q)
    (hend : ∀ V W, (∀ j, j < l.toArray.size → Fact j (V j) W) → G W → X V (fun j => (Array.replicate l.toArray.size true).getD j false) → Q .normal { tmps := framed l.toArray V a.tmps l.toArray.size, defers := a.defers } W) : (Code.region id l.toArray true).wpIn Fence.wide nn P Q a w := by
  refine wpIn_region_inv m hm (fun _ => trivial) hok (fun listed b W => ∃ V, FactsAtX l.toArray a Fact Pre G X V listed b W) ?_ ?_ ?_
  · refine ⟨fun _ => undef, ⟨TabAt.start a, fun _ _ _ _ => rfl, fun j hj => (by rw [getD_replicate_false] at hj; cases hj), fun j hj _ => hP j hj, hG⟩, ?_⟩
    have : (fun j => (Array.replicate l.toArray.size false).getD j false) = fun _ => false := by funext j; exact getD_replicate_false _ _
    rw [this]; exact hX _
  · rintro listed i o b W hs hi ho ⟨V, h⟩
    exact Oper.wpIn_mono (fun b' W' hg => h.next hok hT hi ho hg) (hstep V listed i o b W hi ho h)
  · rintro b W ⟨V, h⟩
    have hact := h.tab.act hok hT
    rw [hact]
    exact hend V W (fun j hj => h.fact j (by have hj' : j < l.length := (by simpa using hj); simp [hj'])) h.glob h.x
end
end Go.Proofs.YtelnkflmnbhclaaGreat
end

/- What is proved: slices of whole rows of 60 integers: how a row is read out of one, built into one, put behind one. Conditions: the rows have 60 integers. -/
section
namespace Go.Proofs.YtelnkflmnbhclaaGreat
open Go.RowKit Go.Proofs

def encRow (r : Row) : List Value := (List.range 60).map fun j => .int .i64 (r.getD j 0)
theorem encRow_len (r : Row) : (encRow r).length = 60 := by simp [encRow]
theorem oneRow (r : Row) : ∀ u ∈ encRow r, u.oneCell' = true := by
  intro u hu
  unfold encRow at hu
  obtain ⟨j, _, rfl⟩ := List.mem_map.1 hu
  rfl
theorem encRow_get (r : Row) (j : Nat) (h : j < 60) : (encRow r)[j]? = some (.int .i64 (r.getD j 0)) := by
  simp [encRow, h]
theorem encRow_rowA {r : Row} (h : r.length = 60) : (rowA r).toList = encRow r := by
  apply List.ext_getElem?
  intro j
  by_cases hj : j < 60
  · rw [encRow_get r j hj, Array.getElem?_toList, rowA_get, List.getElem?_eq_getElem (by omega)]
    simp [List.getD_eq_getElem?_getD, h, hj]
  · rw [List.getElem?_eq_none (by simp [h]; omega), List.getElem?_eq_none (by rw [encRow_len]; omega)]
theorem elRow : ElemT Tryz.prog 213 207 60 480 := elemT_of (z := .agg (rowA zeroRow)) Tryz.underlying213 (by kernel_rfl) (by simp [Value.cells, zeroRow]) (by decide)
theorem elLast : ElemT Tryz.prog 214 206 60 480 := elemT_of (z := .agg (rowA zeroRow)) Tryz.underlying214 (by kernel_rfl) (by simp [Value.cells, zeroRow]) (by decide)

section
variable {w : World} {g n c B : Nat} {e : TypeId} {xs : List Row}
theorem Own.range (h : Own encRow 60 e B w (some ⟨g, 0, none⟩) n c xs) {i : Nat} {r : Row} (hx : xs[i]? = some r) : w.rangeAt g (i * 60) (encRow r) := fun j u hu => h.cells encRow_len hx j u hu
theorem run_load207 {o : Nat} {r : Row} (hr : r.length = 60) (h : w.rangeAt g o (encRow r)) : (Instr.loadAt 207 (.pointer (some ⟨g, o, none⟩))).run Tryz.prog w = .ok (.agg (rowA r)) w := by
  have := run_loadAt_mid (P := Tryz.prog) w g o 207 (encRow r) _ h row207.arr rfl (by rw [encRow_len]; exact row207.size)
  rw [this, ← encRow_rowA hr]
theorem run_load206 {o : Nat} {r : Row} (hr : r.length = 60) (h : w.rangeAt g o (encRow r)) : (Instr.loadAt 206 (.pointer (some ⟨g, o, none⟩))).run Tryz.prog w = .ok (.agg (rowA r)) w := by
  have := run_loadAt_mid (P := Tryz.prog) w g o 206 (encRow r) _ h row206.arr rfl (by rw [encRow_len]; exact row206.size)
  rw [this, ← encRow_rowA hr]
theorem Own.cellRow (h : Own encRow 60 e B w (some ⟨g, 0, none⟩) n c xs) {i j : Nat} {r : Row} (hx : xs[i]? = some r) (hj : j < 60) : w.cell? ⟨g, i * 60 + j, none⟩ = some (.int .i64 (r.getD j 0)) :=
  h.range hx j _ (encRow_get r j hj)
end

/-- one row built into a slice of its own -/
theorem run_build1 {P : Program} {tS e : TypeId} (E : ElemT P tS e 60 480) (w : World) {r : Row} (hr : r.length = 60) : (Instr.buildSlice tS 1 #[(0, .agg (rowA r))]).run P w = .ok (.slice (some ⟨w.heap.size, 0, none⟩) 1 1) (w.alloc (.cells (rowA r) e)) := by
  obtain ⟨i, z, hi, hz0, hz1, hz2, hz3⟩ := E.info
  have hsz : (rowA r).size = 60 := by rw [rowA_size, hr]
  have hf := Great.fill_whole (s := 60) (by decide) [.agg (rowA r)] ((Array.range (1 * i.size)).map (z.cells[· % z.cells.size]!)) (by simp [Value.cells, hr]) (by simp [hz1])
  have hc : ((Value.agg (rowA r)).cells.toList).toArray = rowA r := by simp [Value.cells]
  refine run_buildSlice w tS e 1 _ (rowA r) i z E.slice hi hz0 (by rw [hz1]; decide) (by rw [hz1]; decide) ?_
  rw [hz1] at hf ⊢
  simpa [Value.cells] using hf
/-- such a slice reads as one row -/
theorem Rd.row1 (w : World) {e : TypeId} {r : Row} (hr : r.length = 60) : Rd encRow 60 (w.alloc (.cells (rowA r) e)) (some ⟨w.heap.size, 0, none⟩) 1 1 [r] :=
  Rd.single w (rowA r) e [r] 1 rfl (by omega) encRow_len (by rw [encRow_rowA hr]; simp)
/-- a row made by 'make' -/
theorem run_make1 (B : Nat) (w : World) (hB : B ≤ w.heap.size) : ∃ w', (Instr.makeSlice 214 (.int .i64 1) (.int .i64 1)).run Tryz.prog w = .ok (.slice (some ⟨w.heap.size, 0, none⟩) 1 1) w' ∧ Own encRow 60 206 B w' (some ⟨w.heap.size, 0, none⟩) 1 1 [zeroRow] ∧ w.grownBy w' none := by
  obtain ⟨i, z, hi, hz0, hz1, hz2, hz3⟩ := elLast.info
  have hzz : z = .agg (rowA zeroRow) := by
    have h1 := zero206
    rw [hi] at h1
    simpa [hz0] using h1
  obtain ⟨w', h1, h2, h3⟩ := run_makeSlice_full (P := Tryz.prog) (w := w) B 214 206 i z 60 elLast.slice hi hz0 hz1 .i64 .i64 1 (by decide) (by omega) (by decide) hB
  refine ⟨w', h1, ⟨rfl, ?_⟩, h3⟩
  have hm : (madeCells z.cells (1 * 60)).toList = [zeroRow].flatMap encRow := by rw [hzz]; kernel_rfl
  rw [← hm]
  exact h2
end Go.Proofs.YtelnkflmnbhclaaGreat
end

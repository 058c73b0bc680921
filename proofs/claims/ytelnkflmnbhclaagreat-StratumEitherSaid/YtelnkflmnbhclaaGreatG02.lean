/- What is proved: plain words for memory, over any program: a slice that reads as a list of structs ('Rd'), a row of the call's own ('Own'), an append onto such a row. Conditions: none. -/
import Derived.WalkKit
import Derived.Maps.AppendAt
import Derived.Deep.AppendLies
import Derived.Deep.Draws
import Derived.RegionTactic
namespace Go.Proofs.YtelnkflmnbhclaaGreat
open Go.RowKit Go.Proofs

theorem retI {k : IntKind} {a b : Int} (h : a = b) : Ending.returned (.int k a) = .returned (.int k b) := by rw [h]
theorem retB {a b : Bool} (h : a = b) : Ending.returned (.bool a) = .returned (.bool b) := by rw [h]
theorem block_of_add (a : Addr) (n : Nat) : (a.add n).block = a.block := by unfold Addr.add; split <;> rfl
theorem add_lit (b off j : Nat) : (⟨b, off, none⟩ : Addr).add j = ⟨b, off + j, none⟩ := by
  unfold Addr.add
  split
  · rename_i h; subst h; rfl
  · rfl

theorem bcell {B : Nat} {W w1 : World} (hb : Below B W w1) : (∀ b o, b < B → w1.cell? ⟨b, o, none⟩ = W.cell? ⟨b, o, none⟩) ∧ (∀ b o, b < B → w1.frozen? ⟨b, o, none⟩ = W.frozen? ⟨b, o, none⟩) :=
  ⟨fun b o h => hb.cell (p := ⟨b, o, none⟩) h, fun b o h => hb.frozen (p := ⟨b, o, none⟩) h⟩
theorem below_drewN' {B : Nat} {a w : World} (h : Below B a w) (n : Nat) : Below B a (w.drewN n) := ⟨h.os, h.tape, h.output, h.size, h.block⟩
theorem below_step {B B' : Nat} {a W w : World} (h : Below B' W w) (hB : B ≤ B') (h0 : Below B a W) : Below B a w := h0.trans (h.mono hB)

/-- THE SLICE '.slice A n c' READS AS THE LIST xs: each element's cells. -/
structure Rd {α : Type} (enc : α → List Value) (k : Nat) (w : World) (A : Option Addr) (n c : Nat) (xs : List α) : Prop where
  len : xs.length = n
  big : n ≤ 17592186044416
  cap : n ≤ c ∧ c ≤ 9223372036854775807
  at_ : 0 < n → ∃ b off, A = some ⟨b, off, none⟩ ∧ b < w.heap.size ∧ ∀ i x, xs[i]? = some x → ∀ j u, (enc x)[j]? = some u → w.cell? ⟨b, off + i * k + j, none⟩ = some u

section
variable {α : Type} {enc : α → List Value} {k n c : Nat} {w w' : World} {A : Option Addr} {xs : List α}
theorem Rd.none_ (A : Option Addr) (c : Nat) (hc : c ≤ 9223372036854775807) : Rd enc k w A 0 c [] := ⟨rfl, by omega, ⟨Nat.zero_le _, hc⟩, fun h => absurd h (by omega)⟩
theorem Rd.keep (h : Rd enc k w A n c xs) (hs : w.heap.size ≤ w'.heap.size) (hk : ∀ p : Addr, p.block < w.heap.size → w'.cell? p = w.cell? p) : Rd enc k w' A n c xs :=
  ⟨h.len, h.big, h.cap, fun hn => by
    obtain ⟨b, off, e, hlt, hc⟩ := h.at_ hn
    exact ⟨b, off, e, Nat.lt_of_lt_of_le hlt hs, fun i x hx j u hu => (hk ⟨b, _, none⟩ hlt).trans (hc i x hx j u hu)⟩⟩
theorem Rd.below (h : Rd enc k w A n c xs) {B : Nat} (hb : Below B w w') (hB : w.heap.size ≤ B) : Rd enc k w' A n c xs :=
  h.keep hb.size fun _ hp => hb.cell (Nat.lt_of_lt_of_le hp hB)
theorem Rd.alloc (h : Rd enc k w A n c xs) (o : Obj) : Rd enc k (w.alloc o) A n c xs := h.keep (by simp) fun p hp => World.cell?_alloc_lt w o p hp
theorem Rd.drewN (h : Rd enc k w A n c xs) (m : Nat) : Rd enc k (w.drewN m) A n c xs := h.keep (Nat.le_refl _) fun _ _ => rfl
theorem Rd.drew (h : Rd enc k w A n c xs) : Rd enc k w.drew A n c xs := h.keep (Nat.le_refl _) fun _ _ => rfl
/-- one element: where it lies, its cells -/
theorem Rd.one (h : Rd enc k w A n c xs) {i : Nat} (hi : i < n) :
    ∃ b off x, A = some ⟨b, off, none⟩ ∧ b < w.heap.size ∧ xs[i]? = some x ∧ ∀ j u, (enc x)[j]? = some u → w.cell? ⟨b, off + i * k + j, none⟩ = some u := by
  obtain ⟨b, off, e, hlt, hc⟩ := h.at_ (by omega)
  have hx : xs[i]? = some (xs[i]'(by rw [h.len]; exact hi)) := List.getElem?_eq_getElem _
  exact ⟨b, off, _, e, hlt, hx, fun j u hu => hc i _ hx j u hu⟩
theorem Rd.take (h : Rd enc k w A n c xs) {m c' : Nat} (hm : m ≤ n) (hc' : m ≤ c' ∧ c' ≤ c) : Rd enc k w A m c' (xs.take m) :=
  ⟨by rw [List.length_take, h.len]; omega, by have := h.big; omega, ⟨hc'.1, by have := h.cap; omega⟩, fun hn => by
    obtain ⟨b, off, e, hlt, hc⟩ := h.at_ (by omega)
    exact ⟨b, off, e, hlt, fun i x hx => hc i x (by
      rw [List.getElem?_take] at hx
      split at hx
      · exact hx
      · cases hx)⟩⟩
theorem Rd.drop (h : Rd enc k w A n c xs) {m : Nat} (hm : m ≤ n) {A' : Option Addr} (hA : m < n → A' = A.map (·.add (m * k))) : Rd enc k w A' (n - m) (c - m) (xs.drop m) :=
  ⟨by rw [List.length_drop, h.len], by have := h.big; omega, by have := h.cap; omega, fun hn => by
    obtain ⟨b, off, e, hlt, hc⟩ := h.at_ (by omega)
    refine ⟨b, off + m * k, by rw [hA (by omega), e]; simp [add_lit], hlt, fun i x hx j u hu => ?_⟩
    rw [List.getElem?_drop] at hx
    have := hc _ x hx j u hu
    rwa [Nat.add_mul, ← Nat.add_assoc] at this⟩
end

theorem flatMap_len {α : Type} {enc : α → List Value} {k : Nat} (hk : ∀ x, (enc x).length = k) : ∀ ys : List α, (ys.flatMap enc).length = ys.length * k
  | [] => by simp
  | y :: ys => by rw [List.flatMap_cons, List.length_append, hk, flatMap_len hk ys, List.length_cons, Nat.add_mul]; omega

/-- A ROW OF THE CALL's OWN: from block B on, not frozen. -/
structure Own {α : Type} (enc : α → List Value) (k : Nat) (e : TypeId) (B : Nat) (w : World) (A : Option Addr) (n c : Nat) (xs : List α) : Prop where
  len : xs.length = n
  own : w.ownsRow B e k (.slice A n c) n (xs.flatMap enc)

/-- the block of an address -/
def blockOf (A : Option Addr) : Option Nat := A.map (·.block)
theorem ownBlock_slice (A : Option Addr) (n c : Nat) : (Value.slice A n c).ownBlock = blockOf A := by cases A <;> rfl

section
variable {α : Type} {enc : α → List Value} {k n c B : Nat} {e : TypeId} {w w' : World} {A : Option Addr} {xs : List α}
theorem Own.none_ (enc : α → List Value) (k : Nat) (e : TypeId) (B : Nat) (w : World) : Own enc k e B w none 0 0 [] := ⟨rfl, World.ownsRow_nil w B e k⟩
theorem Own.form (h : Own enc k e B w A n c xs) : (A = none ∧ n = 0 ∧ c = 0) ∨ ∃ g, A = some ⟨g, 0, none⟩ ∧ B ≤ g ∧ g < w.heap.size := by
  rcases h.own.2 with ⟨h1, _⟩ | ⟨g, cap, cur, h1, h2, h3, _⟩
  · injection h1 with a b c; exact .inl ⟨a, b, c⟩
  · injection h1 with a b c
    refine .inr ⟨g, a, h2, ?_⟩
    rcases Nat.lt_or_ge g w.heap.size with h | h
    · exact h
    · rw [Array.getElem?_eq_none h] at h3; cases h3
theorem Own.kept (h : Own enc k e B w A n c xs) {row : Option Nat} (hg : w.grownBy w' row) (hne : A = none ∨ blockOf A ≠ row) : Own enc k e B w' A n c xs :=
  ⟨h.len, h.own.kept hg (by
    rw [ownBlock_slice]
    rcases hne with rfl | h
    · exact .inl rfl
    · exact .inr h)⟩
theorem Own.below (h : Own enc k e B w A n c xs) {B' : Nat} (hb : Below B' w w') (hB : w.heap.size ≤ B') : Own enc k e B w' A n c xs :=
  h.kept (row := none) ⟨hb.os, hb.tape, hb.output, hb.size, fun i hi _ => hb.block i (by omega)⟩ (by cases A <;> simp [blockOf])
theorem Own.alloc (h : Own enc k e B w A n c xs) (o : Obj) : Own enc k e B (w.alloc o) A n c xs := ⟨h.len, h.own.alloc o⟩
theorem Own.drewN (h : Own enc k e B w A n c xs) (m : Nat) : Own enc k e B (w.drewN m) A n c xs := ⟨h.len, h.own⟩
theorem Own.drew (h : Own enc k e B w A n c xs) : Own enc k e B w.drew A n c xs := ⟨h.len, h.own⟩
theorem Own.mono (h : Own enc k e B w A n c xs) {B' : Nat} (hB : B' ≤ B) : Own enc k e B' w A n c xs :=
  ⟨h.len, h.own.1, by
    rcases h.own.2 with h1 | ⟨g, cap, cur, h1, h2, h3⟩
    · exact .inl h1
    · exact .inr ⟨g, cap, cur, h1, Nat.le_trans hB h2, h3⟩⟩
theorem flatMap_at (hk : ∀ x, (enc x).length = k) : ∀ (xs : List α) (i : Nat) (x : α), xs[i]? = some x → ∀ j u, (enc x)[j]? = some u → (xs.flatMap enc)[i * k + j]? = some u
  | [], i, x, hx => by simp at hx
  | y :: ys, 0, x, hx => by
    intro j u hu
    simp only [List.getElem?_cons_zero, Option.some.injEq] at hx
    subst hx
    have hj : j < (enc y).length := (List.getElem?_eq_some_iff.1 hu).1
    rw [List.flatMap_cons, List.getElem?_append_left (by omega), Nat.zero_mul, Nat.zero_add]
    exact hu
  | y :: ys, i + 1, x, hx => by
    intro j u hu
    rw [List.getElem?_cons_succ] at hx
    have := flatMap_at hk ys i x hx j u hu
    rw [List.flatMap_cons, List.getElem?_append_right (by rw [hk, Nat.add_mul]; omega), hk]
    rw [show (i + 1) * k + j - k = i * k + j by rw [Nat.add_mul]; omega]
    exact this
theorem Own.cap (h : Own enc k e B w A n c xs) : n ≤ c ∧ c ≤ maxLen := by
  rcases h.own.2 with ⟨h1, h2⟩ | ⟨g, cap, cur, h1, _, _, h3, h4, _⟩
  · injection h1 with a b c; subst b c; exact ⟨Nat.le_refl _, by decide⟩
  · injection h1 with a b c; subst c; exact ⟨h3, h4⟩
theorem Own.rd (h : Own enc k e B w A n c xs) (hk : ∀ x, (enc x).length = k) (hb : n ≤ 17592186044416) : Rd enc k w A n c xs :=
  ⟨h.len, hb, by have := h.cap; unfold maxLen at this; exact this, fun hn => by
    rcases h.form with ⟨_, h0, _⟩ | ⟨g, rfl, _, hlt⟩
    · omega
    · refine ⟨g, 0, rfl, hlt, fun i x hx j u hu => ?_⟩
      have hj : j < k := by rw [← hk x]; exact (List.getElem?_eq_some_iff.1 hu).1
      have hi : i < n := by rw [← h.len]; exact (List.getElem?_eq_some_iff.1 hx).1
      have hc : c = c := rfl
      have hcell := h.own.cells (g := g) rfl (i * k + j) u (flatMap_at hk xs i x hx j u hu)
      rw [add_lit] at hcell
      rwa [← Nat.add_assoc] at hcell⟩
end

/-- An element type's row of the table. -/
structure ElemT (P : Program) (t e : TypeId) (k bytes : Nat) : Prop where
  slice : P.underlying t = some (.slice e)
  info : ∃ i z, P.info? e = some i ∧ i.zero = some z ∧ i.size = k ∧ i.bytes = bytes ∧ z.cells.size = k
  pos : 0 < k

theorem elemT_of {P : Program} {t e : TypeId} {k bytes : Nat} {z : Value} (h1 : P.underlying t = some (.slice e))
    (h2 : (P.info? e).map (fun i => (i.zero, i.size, i.bytes)) = some (some z, k, bytes)) (h3 : z.cells.size = k) (h4 : 0 < k) : ElemT P t e k bytes := by
  refine ⟨h1, ?_, h4⟩
  obtain ⟨i, hi, hz0, hz1, hz2⟩ := info_parts h2
  exact ⟨i, z, hi, hz0, hz1, hz2, h3⟩

section
variable {P : Program} {α : Type} {enc : α → List Value} {k bytes n c B : Nat} {t e : TypeId} {w : World} {A : Option Addr} {xs : List α}

/-- 'append(out, ys...)', out a row of the call's own, the ys in a block that is known. -/
theorem run_append_src (E : ElemT P t e k bytes) (ty : TypeId) (hk : ∀ x, (enc x).length = k) (h1 : ∀ x, ∀ u ∈ enc x, u.oneCell' = true)
    (hown : Own enc k e B w A n c xs) (A2 : Option Addr) (m c2 : Nat) (ys : List α) (hrd : Rd enc k w A2 m c2 ys) (hbytes : (n + m) * bytes ≤ 140737488355328) (hb8 : 1 ≤ bytes) (hbase : B ≤ w.heap.size) :
    ∃ A' c' w', (Builtin.append_ #[t, t] ty #[.slice A n c, .slice A2 m c2]).run P w = .ok (.slice A' (n + m) c') w' ∧ Own enc k e B w' A' (n + m) c' (xs ++ ys) ∧ w.grownBy w' (blockOf A) ∧
      (blockOf A' = blockOf A ∨ blockOf A' = some w.heap.size) := by
  obtain ⟨i, z, hi, hz0, hz1, hz2, hz3⟩ := E.info
  have hlen : (ys.flatMap enc).length = m * k := by rw [flatMap_len hk, hrd.len]
  have hone : ∀ u ∈ ys.flatMap enc, u.oneCell' = true := by
    intro u hu
    obtain ⟨x, _, hx⟩ := List.mem_flatMap.1 hu
    exact h1 x u hx
  have hmax : n + m ≤ maxLen := by
    have : (n + m) * 1 ≤ (n + m) * bytes := Nat.mul_le_mul_left _ hb8
    unfold maxLen; omega
  have key : ∀ (ad : Addr), (∀ j u, (ys.flatMap enc)[j]? = some u → w.cell? (ad.add j) = some u) → ∃ A' c' w', (Builtin.append_ #[t, t] ty #[.slice A n c, .slice (some ad) m c2]).run P w = .ok (.slice A' (n + m) c') w' ∧ Own enc k e B w' A' (n + m) c' (xs ++ ys) ∧ w.grownBy w' (blockOf A) ∧
      (blockOf A' = blockOf A ∨ blockOf A' = some w.heap.size) := by
    intro ad hcells
    obtain ⟨v', w', hrun, h2, h3, _, h5⟩ := run_append_own_at (P := P) w B t ty e i z k bytes E.slice hi hz0 hz1 hz2 hz3 E.pos (.slice A n c) n (xs.flatMap enc) hown.own ad m c2 (ys.flatMap enc) hlen hcells hone hmax hbytes hbase
    have hv : ∃ A' c', v' = .slice A' (n + m) c' := by
      rcases h2.2 with ⟨h, h0⟩ | ⟨g, cap, cur, h, _⟩
      · exact ⟨none, 0, by rw [h]; simp [h0]⟩
      · exact ⟨_, _, h⟩
    obtain ⟨A', c', rfl⟩ := hv
    rw [ownBlock_slice] at h3
    rw [ownBlock_slice, ownBlock_slice] at h5
    exact ⟨A', c', w', hrun, ⟨by rw [List.length_append, hown.len, hrd.len], by rw [List.flatMap_append]; exact h2⟩, h3, h5⟩
  rcases Nat.eq_zero_or_pos m with h0 | h0
  · subst h0
    have hys : ys = [] := List.eq_nil_of_length_eq_zero hrd.len
    subst hys
    rcases A2 with _ | ad
    · refine ⟨A, c, w, ?_, by simpa using hown, World.grownBy.refl w _, .inl rfl⟩
      rcases hown.own.2 with ⟨hv, h0⟩ | ⟨g, cap, cur, hv, _, _, hnc, _⟩
      · injection hv with a b d
        subst a b d
        simp [Builtin.append_, run_underlying E.slice, sizeOf, typeInfo, hi, Builtin.lenOf, Builtin.firstCells]
      · injection hv with a b d
        subst a d
        simp [Builtin.append_, run_underlying E.slice, sizeOf, typeInfo, hi, Builtin.lenOf, Builtin.firstCells, hnc, storeCells]
    · exact key ad (fun j u hu => by simp at hu)
  · obtain ⟨b, off, rfl, hlt, hc⟩ := hrd.at_ h0
    refine key ⟨b, off, none⟩ fun j u hu => ?_
    rw [add_lit]
    have hj : j < m * k := by rw [← hlen]; exact (List.getElem?_eq_some_iff.1 hu).1
    have hkp := E.pos
    have hjk : j / k < ys.length := by rw [hrd.len]; exact Nat.div_lt_of_lt_mul (by rw [Nat.mul_comm]; exact hj)
    have hx : ys[j / k]? = some (ys[j / k]) := List.getElem?_eq_getElem hjk
    have hm : j % k < k := Nat.mod_lt _ hkp
    have hu' : (enc (ys[j / k]))[j % k]? = some u := by
      have h2 : j % k < (enc (ys[j / k])).length := by rw [hk]; exact hm
      have h3 := flatMap_at hk ys _ _ hx (j % k) _ (List.getElem?_eq_getElem h2)
      rw [Nat.mul_comm, Nat.div_add_mod, hu] at h3
      rw [List.getElem?_eq_getElem h2]; exact h3.symm
    have := hc _ _ hx (j % k) u hu'
    rw [Nat.add_assoc, Nat.mul_comm, Nat.div_add_mod] at this
    exact this

theorem wp_append_src {o : Oper} {a : Act} {K : Act → World → Prop} {Q : Exit → Act → World → Prop} (E : ElemT P t e k bytes) (hk : ∀ x, (enc x).length = k) (h1 : ∀ x, ∀ u ∈ enc x, u.oneCell' = true) (s x : Operand)
    (ho : o.op = .call { callee := .builtin .append, args := #[s, x], argTypes := #[t, t] }) (A2 : Option Addr) (m c2 : Nat) (ys : List α) (hs : a.eval s = .slice A n c) (hx : a.eval x = .slice A2 m c2)
    (hown : Own enc k e B w A n c xs) (hrd : Rd enc k w A2 m c2 ys) (hbytes : (n + m) * bytes ≤ 140737488355328) (hb8 : 1 ≤ bytes) (hbase : B ≤ w.heap.size)
    (h : ∀ A' c' w', Own enc k e B w' A' (n + m) c' (xs ++ ys) → w.grownBy w' (blockOf A) → (blockOf A' = blockOf A ∨ blockOf A' = some w.heap.size) → K (a.put o.dst (.slice A' (n + m) c')) w') : o.wp P a w K Q := by
  obtain ⟨A', c', w', hrun, h2, h3, h4⟩ := run_append_src E o.type hk h1 hown A2 m c2 ys hrd hbytes hb8 hbase
  unfold Oper.wp execOp
  simp only [ho, resolve, invoke, builtin, Sem.run_bind, Sem.run_pure, Result.andThen_ok, List.map_toArray, List.map_cons, List.map_nil, hs, hx, hrun]
  exact h A' c' w' h2 h3 h4

theorem wpList_append_src {ops : Array Oper} {rest : List Oper} {o : Oper} {a : Act} {Q : Exit → Act → World → Prop} (E : ElemT P t e k bytes) (hk : ∀ x, (enc x).length = k) (h1 : ∀ x, ∀ u ∈ enc x, u.oneCell' = true) (hgd : o.guard = none) (s x : Operand)
    (ho : o.op = .call { callee := .builtin .append, args := #[s, x], argTypes := #[t, t] }) (A2 : Option Addr) (m c2 : Nat) (ys : List α) (hs : a.eval s = .slice A n c) (hx : a.eval x = .slice A2 m c2)
    (hown : Own enc k e B w A n c xs) (hrd : Rd enc k w A2 m c2 ys) (hbytes : (n + m) * bytes ≤ 140737488355328) (hb8 : 1 ≤ bytes) (hbase : B ≤ w.heap.size)
    (h : ∀ A' c' w', Own enc k e B w' A' (n + m) c' (xs ++ ys) → w.grownBy w' (blockOf A) → (blockOf A' = blockOf A ∨ blockOf A' = some w.heap.size) → wpList P ops Q rest (a.put o.dst (.slice A' (n + m) c')) w') : wpList P ops Q (o :: rest) a w :=
  wpList_plain hgd fun _ hK => wp_append_src E hk h1 s x ho A2 m c2 ys hs hx hown hrd hbytes hb8 hbase fun A' c' w' h2 h3 h4 => hK _ _ (h A' c' w' h2 h3 h4)

theorem step_append_src {ops : Array Oper} {o : Oper} {a : Act} {K : Act → World → Prop} {Q : Exit → Act → World → Prop} {F : Prop} (E : ElemT P t e k bytes) (hk : ∀ x, (enc x).length = k) (h1 : ∀ x, ∀ u ∈ enc x, u.oneCell' = true) (hgd : o.guard = none) (s x : Operand)
    (ho : o.op = .call { callee := .builtin .append, args := #[s, x], argTypes := #[t, t] }) (A2 : Option Addr) (m c2 : Nat) (ys : List α) (hs : a.eval s = .slice A n c) (hx : a.eval x = .slice A2 m c2)
    (hown : Own enc k e B w A n c xs) (hrd : Rd enc k w A2 m c2 ys) (hbytes : (n + m) * bytes ≤ 140737488355328) (hb8 : 1 ≤ bytes) (hbase : B ≤ w.heap.size)
    (h : ∀ A' c' w', Own enc k e B w' A' (n + m) c' (xs ++ ys) → w.grownBy w' (blockOf A) → (blockOf A' = blockOf A ∨ blockOf A' = some w.heap.size) → K (a.put o.dst (.slice A' (n + m) c')) w') :
    if Region.wanted o (yielded ops a.tmps) = true then Oper.wp P o a w K Q else F := by
  have hw : Region.wanted o (yielded ops a.tmps) = true := by simp [Region.wanted, hgd]
  rw [if_pos hw]
  exact wp_append_src E hk h1 s x ho A2 m c2 ys hs hx hown hrd hbytes hb8 hbase h
end

/-- one element in a block of its own -/
theorem Rd.single {α : Type} {enc : α → List Value} {k : Nat} (w : World) (cs : Array Value) (t : TypeId) (ys : List α) (m : Nat) (hm : ys.length = m) (hb : m ≤ 17592186044416) (hk : ∀ x, (enc x).length = k) (hcs : cs.toList = ys.flatMap enc) :
    Rd enc k (w.alloc (.cells cs t)) (some ⟨w.heap.size, 0, none⟩) m m ys :=
  ⟨hm, hb, by omega, fun _ => ⟨w.heap.size, 0, rfl, by simp, fun i x hx j u hu => by
    rw [World.cell?_alloc_new, Nat.zero_add]
    have := flatMap_at hk ys i x hx j u hu
    rw [← hcs] at this
    simpa using this⟩⟩
end Go.Proofs.YtelnkflmnbhclaaGreat

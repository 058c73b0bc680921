/- Contracts that the laws lean on: Fresh, Same, Room, RHas. -/
import Derived.Test.YtelnkflmnbhclaaGreatG02
import Derived.Test.YtelnkflmnbhclaaGreatH01
import Derived.Test.YtelnkflmnbhclaaGreatG07
import Derived.Test.YtelnkflmnbhclaaGreatG11
import Derived.Test.YtelnkflmnbhclaaGreatG01
import Derived.Test.YtelnkflmnbhclaaGreatH02
import Derived.Test.YtelnkflmnbhclaaGreatG28
/- What is proved: an empty row of one's own in a new block. Conditions: none. -/
section
namespace Go.Proofs.YtelnkflmnbhclaaGreat
open Go.RowKit Go.Proofs

/-- an empty row of one's own -/
theorem Own.fresh {α : Type} (enc : α → List Value) (k : Nat) (e : TypeId) {B : Nat} (w : World) (hB : B ≤ w.heap.size) : Own enc k e B (w.alloc (.cells #[] e)) (some ⟨w.heap.size, 0, none⟩) 0 0 [] :=
  ⟨rfl, by simp, .inr ⟨w.heap.size, 0, #[], rfl, hB, heap_alloc_new w _, Nat.le_refl _, by decide, by simp, by simp⟩⟩
end Go.Proofs.YtelnkflmnbhclaaGreat
end

/- What is proved: the reference's tests whether two lists are equal: they are so of one list. Conditions: none. -/
section
namespace Go.Proofs.YtelnkflmnbhclaaGreat
open Go.RowKit Go.Proofs Go.Shelf

set_option maxHeartbeats 2000000 in
set_option maxRecDepth 100000 in
theorem rSame_refl (A : Option Addr) (n c : Nat) (B : Option Addr) (d : Nat) (xs : List Trace) (w : World) (h1 : Rd encTrace 10 w A n c xs) (h2 : Rd encTrace 10 w B n d xs) :
    Calls Tryz.prog 47 #[.slice A n c, .slice B n d] w fun e w' => e = .returned (.bool true) ∧ Below w.heap.size w w' := by
  have H1 := Lib.hid h1
  have H2 := Lib.hid h2
  have hbig := h1.big
  clear h1 h2
  go_enter Tryz.func47, Tryz.ntmps47
  go_wp2
  go_loopw [5] (fun i wr => ∃ k : Nat, k ≤ n ∧ i = .int .i64 k ∧ Hid (Below w.heap.size w wr)) (fun i _ => n - (intOf i).toNat)
  case atStart => exact ⟨0, Nat.zero_le _, rfl, (show Below _ _ _ from Below.refl _ _)⟩
  case round =>
    obtain ⟨k, hk, rfl, hb⟩ := hrel
    have hzr := hb.out.size
    by_cases hlt : k < n
    · obtain ⟨b, off, x, rfl, hbw, hx, hcell⟩ := (H1.out.below hb.out (Nat.le_refl _)).one hlt
      obtain ⟨b2, off2, y, rfl, hbw2, hy, hcell2⟩ := (H2.out.below hb.out (Nat.le_refl _)).one hlt
      obtain rfl : y = x := Option.some.inj (hy.symm.trans hx)
      have c0 : wr.cell? ⟨b, off + k * 10, none⟩ = some (.int .i64 y.id) := hcell 0 _ rfl
      have d0 : wr.cell? ⟨b2, off2 + k * 10, none⟩ = some (.int .i64 y.id) := hcell2 0 _ rfl
      have c1 : wr.cell? ⟨b, off + k * 10 + 1, none⟩ = some (.int .i64 y.known) := hcell 1 _ rfl
      have d1 : wr.cell? ⟨b2, off2 + k * 10 + 1, none⟩ = some (.int .i64 y.known) := hcell2 1 _ rfl
      have c2 : wr.cell? ⟨b, off + k * 10 + 2, none⟩ = some (.int .u8 y.kind) := hcell 2 _ rfl
      have d2 : wr.cell? ⟨b2, off2 + k * 10 + 2, none⟩ = some (.int .u8 y.kind) := hcell2 2 _ rfl
      have c3 : wr.cell? ⟨b, off + k * 10 + 3, none⟩ = some (.int .i64 y.pit) := hcell 3 _ rfl
      have d3 : wr.cell? ⟨b2, off2 + k * 10 + 3, none⟩ = some (.int .i64 y.pit) := hcell2 3 _ rfl
      have c4 : wr.cell? ⟨b, off + k * 10 + 4, none⟩ = some (.int .i64 y.layer) := hcell 4 _ rfl
      have d4 : wr.cell? ⟨b2, off2 + k * 10 + 4, none⟩ = some (.int .i64 y.layer) := hcell2 4 _ rfl
      have c5 : wr.cell? ⟨b, off + k * 10 + 5, none⟩ = some (.int .i64 y.lower) := hcell 5 _ rfl
      have d5 : wr.cell? ⟨b2, off2 + k * 10 + 5, none⟩ = some (.int .i64 y.lower) := hcell2 5 _ rfl
      have c6 : wr.cell? ⟨b, off + k * 10 + 6, none⟩ = some (.int .i64 y.low) := hcell 6 _ rfl
      have d6 : wr.cell? ⟨b2, off2 + k * 10 + 6, none⟩ = some (.int .i64 y.low) := hcell2 6 _ rfl
      have c7 : wr.cell? ⟨b, off + k * 10 + 7, none⟩ = some (.int .i64 y.high) := hcell 7 _ rfl
      have d7 : wr.cell? ⟨b2, off2 + k * 10 + 7, none⟩ = some (.int .i64 y.high) := hcell2 7 _ rfl
      have c8 : wr.cell? ⟨b, off + k * 10 + 8, none⟩ = some (.int .i64 y.cost) := hcell 8 _ rfl
      have d8 : wr.cell? ⟨b2, off2 + k * 10 + 8, none⟩ = some (.int .i64 y.cost) := hcell2 8 _ rfl
      have c9 : wr.cell? ⟨b, off + k * 10 + 9, none⟩ = some (.int .i64 y.void) := hcell 9 _ rfl
      have d9 : wr.cell? ⟨b2, off2 + k * 10 + 9, none⟩ = some (.int .i64 y.void) := hcell2 9 _ rfl
      have heq : eqTrace ⟨y.id, y.known, y.kind, y.pit, y.layer, y.lower, y.low, y.high, y.cost, y.void⟩ ⟨y.id, y.known, y.kind, y.pit, y.layer, y.lower, y.low, y.high, y.cost, y.void⟩ = true := (by simp [eqTrace])
      clear hcell hcell2 hx hy
      go_wp2_with (go_quiet (fail))
      go_roundw
      all_goals first
        | (simp [intOf]; omega)
        | exact ⟨k + 1, by omega, by go_num, (show Below _ _ _ from below_drewN' hb.out _)⟩
    · have hkn : k = n := by omega
      subst hkn
      go_wp2
      go_ret
      exact ⟨rfl, hb.out⟩
set_option maxHeartbeats 2000000 in
set_option maxRecDepth 100000 in
theorem rSamePlaces_refl (A : Option Addr) (n c : Nat) (B : Option Addr) (d : Nat) (xs : List Place) (w : World) (h1 : Rd encPlace 2 w A n c xs) (h2 : Rd encPlace 2 w B n d xs) :
    Calls Tryz.prog 31 #[.slice A n c, .slice B n d] w fun e w' => e = .returned (.bool true) ∧ Below w.heap.size w w' := by
  have H1 := Lib.hid h1
  have H2 := Lib.hid h2
  have hbig := h1.big
  clear h1 h2
  go_enter Tryz.func31, Tryz.ntmps31
  go_wp2
  go_loopw [5] (fun i wr => ∃ k : Nat, k ≤ n ∧ i = .int .i64 k ∧ Hid (Below w.heap.size w wr)) (fun i _ => n - (intOf i).toNat)
  case atStart => exact ⟨0, Nat.zero_le _, rfl, (show Below _ _ _ from Below.refl _ _)⟩
  case round =>
    obtain ⟨k, hk, rfl, hb⟩ := hrel
    have hzr := hb.out.size
    by_cases hlt : k < n
    · obtain ⟨b, off, x, rfl, hbw, hx, hcell⟩ := (H1.out.below hb.out (Nat.le_refl _)).one hlt
      obtain ⟨b2, off2, y, rfl, hbw2, hy, hcell2⟩ := (H2.out.below hb.out (Nat.le_refl _)).one hlt
      obtain rfl : y = x := Option.some.inj (hy.symm.trans hx)
      have c0 : wr.cell? ⟨b, off + k * 2, none⟩ = some (.int .i64 y.pit) := hcell 0 _ rfl
      have d0 : wr.cell? ⟨b2, off2 + k * 2, none⟩ = some (.int .i64 y.pit) := hcell2 0 _ rfl
      have c1 : wr.cell? ⟨b, off + k * 2 + 1, none⟩ = some (.int .i64 y.layer) := hcell 1 _ rfl
      have d1 : wr.cell? ⟨b2, off2 + k * 2 + 1, none⟩ = some (.int .i64 y.layer) := hcell2 1 _ rfl
      have heq : eqPlace ⟨y.pit, y.layer⟩ ⟨y.pit, y.layer⟩ = true := (by simp [eqPlace])
      clear hcell hcell2 hx hy
      go_wp2_with (go_quiet (fail))
      go_roundw
      all_goals first
        | (simp [intOf]; omega)
        | exact ⟨k + 1, by omega, by go_num, (show Below _ _ _ from below_drewN' hb.out _)⟩
    · have hkn : k = n := by omega
      subst hkn
      go_wp2
      go_ret
      exact ⟨rfl, hb.out⟩
set_option maxHeartbeats 2000000 in
set_option maxRecDepth 100000 in
theorem rSameAdmits_refl (A : Option Addr) (n c : Nat) (B : Option Addr) (d : Nat) (xs : List Admit) (w : World) (h1 : Rd encAdmit 4 w A n c xs) (h2 : Rd encAdmit 4 w B n d xs) :
    Calls Tryz.prog 32 #[.slice A n c, .slice B n d] w fun e w' => e = .returned (.bool true) ∧ Below w.heap.size w w' := by
  have H1 := Lib.hid h1
  have H2 := Lib.hid h2
  have hbig := h1.big
  clear h1 h2
  go_enter Tryz.func32, Tryz.ntmps32
  go_wp2
  go_loopw [5] (fun i wr => ∃ k : Nat, k ≤ n ∧ i = .int .i64 k ∧ Hid (Below w.heap.size w wr)) (fun i _ => n - (intOf i).toNat)
  case atStart => exact ⟨0, Nat.zero_le _, rfl, (show Below _ _ _ from Below.refl _ _)⟩
  case round =>
    obtain ⟨k, hk, rfl, hb⟩ := hrel
    have hzr := hb.out.size
    by_cases hlt : k < n
    · obtain ⟨b, off, x, rfl, hbw, hx, hcell⟩ := (H1.out.below hb.out (Nat.le_refl _)).one hlt
      obtain ⟨b2, off2, y, rfl, hbw2, hy, hcell2⟩ := (H2.out.below hb.out (Nat.le_refl _)).one hlt
      obtain rfl : y = x := Option.some.inj (hy.symm.trans hx)
      have c0 : wr.cell? ⟨b, off + k * 4, none⟩ = some (.int .i64 y.place.pit) := hcell 0 _ rfl
      have d0 : wr.cell? ⟨b2, off2 + k * 4, none⟩ = some (.int .i64 y.place.pit) := hcell2 0 _ rfl
      have c1 : wr.cell? ⟨b, off + k * 4 + 1, none⟩ = some (.int .i64 y.place.layer) := hcell 1 _ rfl
      have d1 : wr.cell? ⟨b2, off2 + k * 4 + 1, none⟩ = some (.int .i64 y.place.layer) := hcell2 1 _ rfl
      have c2 : wr.cell? ⟨b, off + k * 4 + 2, none⟩ = some (.int .i64 y.cost) := hcell 2 _ rfl
      have d2 : wr.cell? ⟨b2, off2 + k * 4 + 2, none⟩ = some (.int .i64 y.cost) := hcell2 2 _ rfl
      have c3 : wr.cell? ⟨b, off + k * 4 + 3, none⟩ = some (.int .i64 y.by_) := hcell 3 _ rfl
      have d3 : wr.cell? ⟨b2, off2 + k * 4 + 3, none⟩ = some (.int .i64 y.by_) := hcell2 3 _ rfl
      have heq : eqAdmit ⟨⟨y.place.pit, y.place.layer⟩, y.cost, y.by_⟩ ⟨⟨y.place.pit, y.place.layer⟩, y.cost, y.by_⟩ = true := (by simp [eqAdmit])
      clear hcell hcell2 hx hy
      go_wp2_with (go_quiet (fail))
      go_roundw
      all_goals first
        | (simp [intOf]; omega)
        | exact ⟨k + 1, by omega, by go_num, (show Below _ _ _ from below_drewN' hb.out _)⟩
    · have hkn : k = n := by omega
      subst hkn
      go_wp2
      go_ret
      exact ⟨rfl, hb.out⟩
set_option maxHeartbeats 2000000 in
set_option maxRecDepth 100000 in
theorem rSameLinks_refl (A : Option Addr) (n c : Nat) (B : Option Addr) (d : Nat) (xs : List Link) (w : World) (h1 : Rd encLink 6 w A n c xs) (h2 : Rd encLink 6 w B n d xs) :
    Calls Tryz.prog 33 #[.slice A n c, .slice B n d] w fun e w' => e = .returned (.bool true) ∧ Below w.heap.size w w' := by
  have H1 := Lib.hid h1
  have H2 := Lib.hid h2
  have hbig := h1.big
  clear h1 h2
  go_enter Tryz.func33, Tryz.ntmps33
  go_wp2
  go_loopw [5] (fun i wr => ∃ k : Nat, k ≤ n ∧ i = .int .i64 k ∧ Hid (Below w.heap.size w wr)) (fun i _ => n - (intOf i).toNat)
  case atStart => exact ⟨0, Nat.zero_le _, rfl, (show Below _ _ _ from Below.refl _ _)⟩
  case round =>
    obtain ⟨k, hk, rfl, hb⟩ := hrel
    have hzr := hb.out.size
    by_cases hlt : k < n
    · obtain ⟨b, off, x, rfl, hbw, hx, hcell⟩ := (H1.out.below hb.out (Nat.le_refl _)).one hlt
      obtain ⟨b2, off2, y, rfl, hbw2, hy, hcell2⟩ := (H2.out.below hb.out (Nat.le_refl _)).one hlt
      obtain rfl : y = x := Option.some.inj (hy.symm.trans hx)
      have c0 : wr.cell? ⟨b, off + k * 6, none⟩ = some (.int .i64 y.src.pit) := hcell 0 _ rfl
      have d0 : wr.cell? ⟨b2, off2 + k * 6, none⟩ = some (.int .i64 y.src.pit) := hcell2 0 _ rfl
      have c1 : wr.cell? ⟨b, off + k * 6 + 1, none⟩ = some (.int .i64 y.src.layer) := hcell 1 _ rfl
      have d1 : wr.cell? ⟨b2, off2 + k * 6 + 1, none⟩ = some (.int .i64 y.src.layer) := hcell2 1 _ rfl
      have c2 : wr.cell? ⟨b, off + k * 6 + 2, none⟩ = some (.int .i64 y.dst.pit) := hcell 2 _ rfl
      have d2 : wr.cell? ⟨b2, off2 + k * 6 + 2, none⟩ = some (.int .i64 y.dst.pit) := hcell2 2 _ rfl
      have c3 : wr.cell? ⟨b, off + k * 6 + 3, none⟩ = some (.int .i64 y.dst.layer) := hcell 3 _ rfl
      have d3 : wr.cell? ⟨b2, off2 + k * 6 + 3, none⟩ = some (.int .i64 y.dst.layer) := hcell2 3 _ rfl
      have c4 : wr.cell? ⟨b, off + k * 6 + 4, none⟩ = some (.int .i64 y.most) := hcell 4 _ rfl
      have d4 : wr.cell? ⟨b2, off2 + k * 6 + 4, none⟩ = some (.int .i64 y.most) := hcell2 4 _ rfl
      have c5 : wr.cell? ⟨b, off + k * 6 + 5, none⟩ = some (.int .i64 y.by_) := hcell 5 _ rfl
      have d5 : wr.cell? ⟨b2, off2 + k * 6 + 5, none⟩ = some (.int .i64 y.by_) := hcell2 5 _ rfl
      have heq : eqLink ⟨⟨y.src.pit, y.src.layer⟩, ⟨y.dst.pit, y.dst.layer⟩, y.most, y.by_⟩ ⟨⟨y.src.pit, y.src.layer⟩, ⟨y.dst.pit, y.dst.layer⟩, y.most, y.by_⟩ = true := (by simp [eqLink])
      clear hcell hcell2 hx hy
      go_wp2_with (go_quiet (fail))
      go_roundw
      all_goals first
        | (simp [intOf]; omega)
        | exact ⟨k + 1, by omega, by go_num, (show Below _ _ _ from below_drewN' hb.out _)⟩
    · have hkn : k = n := by omega
      subst hkn
      go_wp2
      go_ret
      exact ⟨rfl, hb.out⟩
end Go.Proofs.YtelnkflmnbhclaaGreat
end

/- What is proved: a block with room for a row's cells, which may be written over; equality of bonds. Conditions: none. -/
section
namespace Go.Proofs.YtelnkflmnbhclaaGreat
open Go.RowKit Go.Proofs Go.Shelf

/-- a block with so many cells, that may be written -/
structure Room (W : World) (g m : Nat) : Prop where
  at_ : ∃ (cs : Array Value) (t : TypeId), W.heap[g]? = some (.cells cs t (0, 0)) ∧ m ≤ cs.size
theorem Room.cell {W : World} {g m o : Nat} (h : Room W g m) (ho : o < m) : ∃ v, W.cell? ⟨g, o, none⟩ = some v := by
  obtain ⟨cs, t, h1, h2⟩ := h.at_
  exact ⟨cs[o]'(by omega), by simp [World.cell?, h1, Array.getElem?_eq_getElem (show o < cs.size by omega)]⟩
theorem Room.free {W : World} {g m : Nat} (h : Room W g m) (o : Nat) : W.frozen? ⟨g, o, none⟩ = false := by
  obtain ⟨cs, t, h1, h2⟩ := h.at_
  simp [World.frozen?, h1]
theorem Room.lt {W : World} {g m : Nat} (h : Room W g m) : g < W.heap.size := by
  obtain ⟨cs, t, h1, h2⟩ := h.at_
  exact (Array.getElem?_eq_some_iff.1 h1).1
theorem Room.setCell {W : World} {g m : Nat} (h : Room W g m) (o : Nat) (v : Value) : Room (W.setCell ⟨g, o, none⟩ v) g m := by
  obtain ⟨cs, t, h1, h2⟩ := h.at_
  exact ⟨_, t, heap_setCell_obj h1, by simpa using h2⟩
theorem Room.of_own {α : Type} {enc : α → List Value} {k n c B g : Nat} {e : TypeId} {W : World} {xs : List α} (h : Own enc k e B W (some ⟨g, 0, none⟩) n c xs) (hk : ∀ x, (enc x).length = k) : Room W g (n * k) := by
  rcases h.own.2 with ⟨h1, _⟩ | ⟨g', cap, cur, h1, h2, h3, _⟩
  · cases h1
  · injection h1 with a b d
    injection a with a
    injection a with a1 a2 a3
    subst a1
    refine ⟨cur, e, h3, ?_⟩
    rcases Nat.lt_or_ge cur.size (n * k) with hlt | hge
    · exfalso
      have hl : (xs.flatMap enc).length = n * k := by rw [flatMap_len hk, h.len]
      have hc := h.own.cells (g := g) rfl cur.size ((xs.flatMap enc)[cur.size]'(by omega)) (List.getElem?_eq_getElem _)
      rw [add_lit, Nat.zero_add] at hc
      simp [World.cell?, h3] at hc
    · exact hge
theorem grown_setCell {W0 W : World} {g : Nat} (h : W0.grownBy W (some g)) (o : Nat) (v : Value) : W0.grownBy (W.setCell ⟨g, o, none⟩ v) (some g) := by
  have h2 := grownBy_setCell' W g o v
  exact ⟨h2.os.trans h.os, h2.tape.trans h.tape, h2.output.trans h.output, by have := h.size; have := h2.size; omega, fun i hi hne => (h2.block i (by have := h.size; omega) hne).trans (h.block i hi hne)⟩
theorem grown_drew (w : World) (row : Option Nat) : w.grownBy w.drew row := ⟨rfl, rfl, rfl, Nat.le_refl _, fun _ _ _ => rfl⟩
theorem grown_alloc {w W : World} {row : Option Nat} (h : w.grownBy W row) (o : Obj) : w.grownBy (W.alloc o) row :=
  ⟨h.os, h.tape, h.output, by have := h.size; simp; omega, fun i hi hne => (Below.heap_alloc _ _ i (by have := h.size; omega)).trans (h.block i hi hne)⟩
theorem grown_trans {w W W' : World} {row : Option Nat} (h : w.grownBy W row) (h2 : W.grownBy W' row) : w.grownBy W' row :=
  ⟨h2.os.trans h.os, h2.tape.trans h.tape, h2.output.trans h.output, by have := h.size; have := h2.size; omega, fun i hi hne => (h2.block i (by have := h.size; omega) hne).trans (h.block i hi hne)⟩
theorem grown_cell {w W : World} {row : Option Nat} (h : w.grownBy W row) {b o : Nat} (hb : b < w.heap.size) (hne : some b ≠ row) : W.cell? ⟨b, o, none⟩ = w.cell? ⟨b, o, none⟩ := World.cell?_of_block (h.block b hb hne)
theorem grown_refl (W : World) (g : Nat) : W.grownBy W (some g) := World.grownBy.refl W _
theorem Own.younger {α β : Type} {enc : α → List Value} {enc2 : β → List Value} {k k2 n c n2 c2 B : Nat} {e e2 : TypeId} {W W' : World} {A A2 : Option Addr} {xs : List α} {ys : List β}
    (h : Own enc k e B W A n c xs) (h2 : Own enc2 k2 e2 W.heap.size W' A2 n2 c2 ys) : A = none ∨ blockOf A ≠ blockOf A2 := by
  rcases h.form with ⟨e, _⟩ | ⟨g, rfl, _, hg⟩
  · exact .inl e
  · refine .inr fun e' => ?_
    have := h2.ltB g e'.symm
    omega
def eqBond (x y : Bond) : Bool := decide (x = y)
theorem equalInBond (d : Nat) (a b c e r a' b' c' e' r' : Int) (w : World) : (Op.equalIn (d + 3) 50 (.agg #[.int .i64 a, .int .i64 b, .int .i64 c, .int .i64 e, .int .i64 r]) (.agg #[.int .i64 a', .int .i64 b', .int .i64 c', .int .i64 e', .int .i64 r'])).run Tryz.prog w
      = .ok (eqBond ⟨⟨a, b⟩, ⟨c, e⟩, r⟩ ⟨⟨a', b'⟩, ⟨c', e'⟩, r'⟩) w := by
  have hS : Tryz.prog.underlying 50 = some (.struct (Tryz.prog.fieldsOf 50)) := by kernel_rfl
  have hp : Tryz.prog.stoodInHeld 50 = false := by kernel_rfl
  have hP := fun a b a' b' => equalInPlace d a b a' b' w
  rw [run_equalIn_agg w (d + 2) 50 _ _ hS hp]
  simp only [Program.fieldsOf, Tryz.underlying50]
  go_simp
  simp only [eqBond, Bond.mk.injEq]
  (repeat' split) <;> simp_all
@[go_sem ↓ high] theorem neqBond (a b c e r a' b' c' e' r' : Int) (w : World) :
    (binOp .neq 50 (.agg #[.int .i64 a, .int .i64 b, .int .i64 c, .int .i64 e, .int .i64 r]) (.agg #[.int .i64 a', .int .i64 b', .int .i64 c', .int .i64 e', .int .i64 r'])).run Tryz.prog w
      = .ok (.bool (!eqBond ⟨⟨a, b⟩, ⟨c, e⟩, r⟩ ⟨⟨a', b'⟩, ⟨c', e'⟩, r'⟩)) w := by
  rw [run_neq_struct, show (10000 : Nat) = 9997 + 3 from rfl, equalInBond]; rfl
@[go_sem ↓ high] theorem eqGuardBond (op : BinOp) (x y : Operand) (xs ys : Array Value) (w : World) : (eqGuard op 50 x y (.agg xs) (.agg ys)).run Tryz.prog w = .ok () w :=
  run_eqGuard_agg w op 50 x y xs ys (by kernel_rfl)
end Go.Proofs.YtelnkflmnbhclaaGreat
end

/- What is proved: the contract of the reference's Has: whether a place is in a list. Conditions: none. -/
section
namespace Go.Proofs.YtelnkflmnbhclaaGreat
open Go.RowKit Go.Proofs Go.Shelf

theorem snoc_anyP {α : Type} {l : List α} {k : Nat} {y : α} (hy : l[k]? = some y) (p : α → Bool) : (l.take (k + 1)).any p = ((l.take k).any p || p y) := by
  rw [List.take_add_one, hy, Option.toList_some, List.any_append]; simp
theorem eqPlace_comm (x y : Place) : eqPlace x y = eqPlace y x := by unfold eqPlace; simp [eq_comm]
set_option maxHeartbeats 2000000 in
set_option maxRecDepth 100000 in
theorem rHas_any (A : Option Addr) (n c : Nat) (l : List Place) (p : Place) (w : World) (hl : Rd encPlace 2 w A n c l) :
    Calls Tryz.prog 65 #[.slice A n c, .agg #[.int .i64 p.pit, .int .i64 p.layer]] w fun e w' => e = .returned (.bool (hasPl l p)) ∧ Below w.heap.size w w' := by
  obtain ⟨w1, hw1⟩ : ∃ w1, w.alloc (.cells #[.int .i64 p.pit, .int .i64 p.layer] 37) = w1 := ⟨_, rfl⟩
  have hb1 : Below w.heap.size w w1 := (by rw [← hw1]; exact (Below.refl _ w).alloc (Nat.le_refl _) _)
  have hz1 : w1.heap.size = w.heap.size + 1 := (by rw [← hw1]; simp)
  have hr1 : w1.heap[w.heap.size]? = some (.cells #[.int .i64 p.pit, .int .i64 p.layer] 37 (0, 0)) := (by rw [← hw1]; exact heap_alloc_new w _)
  have CELLS : Hid (∀ W : World, Below w1.heap.size w1 W → W.cell? ⟨w.heap.size, 0, none⟩ = some (.int .i64 p.pit) ∧ W.cell? ⟨w.heap.size, 1, none⟩ = some (.int .i64 p.layer)) := (show ∀ W : World, Below w1.heap.size w1 W → W.cell? ⟨w.heap.size, 0, none⟩ = some (.int .i64 p.pit) ∧ W.cell? ⟨w.heap.size, 1, none⟩ = some (.int .i64 p.layer) from fun W hb => by
    have := (hb.block _ (by omega)).trans hr1
    simp [World.cell?, this])
  have HL := Lib.hid (hl.below hb1 (Nat.le_refl _))
  have hnl := Lib.hid hl.len
  have hbig := hl.big
  clear hl hr1
  go_enter Tryz.func65, Tryz.ntmps65
  go_wp2_with (fail)
  go_loopw [5] (fun i wr => ∃ k : Nat, k ≤ n ∧ i = .int .i64 k ∧ Hid (Below w1.heap.size w1 wr) ∧ Hid ((l.take k).any (fun x => eqPlace p x) = false)) (fun i _ => n - (intOf i).toNat)
  case atStart => exact ⟨0, Nat.zero_le _, rfl, (show Below _ _ _ from Below.refl _ _), (show _ = _ from rfl)⟩
  case round =>
    obtain ⟨k, hk, rfl, hb, hno⟩ := hrel
    have hzr := hb.out.size
    obtain ⟨p0, p1⟩ := CELLS.out wr hb.out
    have hxlt : w.heap.size < wr.heap.size := (by omega)
    by_cases hlt : k < n
    · obtain ⟨b, off, y, rfl, hbw, hy, hcell⟩ := (HL.out.below hb.out (Nat.le_refl _)).one hlt
      have y0 : wr.cell? ⟨b, off + k * 2, none⟩ = some (.int .i64 y.pit) := hcell 0 _ rfl
      have y1 : wr.cell? ⟨b, off + k * 2 + 1, none⟩ = some (.int .i64 y.layer) := hcell 1 _ rfl
      have SN : Hid ((l.take (k + 1)).any (fun x => eqPlace p x) = eqPlace p y) := (show _ = _ by rw [snoc_anyP hy, hno.out, Bool.false_or])
      have HM := Lib.hid (List.mem_of_getElem? hy)
      clear hcell hy
      cases hq : eqPlace ⟨y.pit, y.layer⟩ ⟨p.pit, p.layer⟩ with
      | true =>
        have HQ := Lib.hid hq
        go_wp2_with (go_quiet (fail))
        go_ret
        exact ⟨retB (Eq.symm (List.any_eq_true.2 ⟨y, HM.out, by rw [eqPlace_comm]; exact HQ.out⟩)), below_drewN' (hb1.trans (hb.out.mono (by omega))) _⟩
      | false =>
        have HQ := Lib.hid hq
        go_wp2_with (go_quiet (fail))
        go_roundw
        all_goals first
          | (simp [intOf]; omega)
          | exact ⟨k + 1, by omega, by go_num, (show Below _ _ _ from below_drewN' hb.out _), (show _ = _ by rw [SN.out, eqPlace_comm]; exact HQ.out)⟩
    · have hkn : k = n := by omega
      subst hkn
      have hn := hno.out
      rw [List.take_of_length_le (by rw [hnl.out]; exact Nat.le_refl _)] at hn
      have HN := Lib.hid hn
      clear hn
      go_wp2
      go_ret
      exact ⟨retB (show false = hasPl l p from HN.out.symm), hb1.trans (hb.out.mono (by omega))⟩
end Go.Proofs.YtelnkflmnbhclaaGreat
end

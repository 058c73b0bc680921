/- Contracts that the law leans on: Trc, Cont, Links. -/
import Derived.Test.YtelnkflmnbhclaaGreatG13
import Derived.Test.YtelnkflmnbhclaaGreatG01
import Derived.Test.YtelnkflmnbhclaaGreatG02
import Derived.Test.YtelnkflmnbhclaaGreatG06
import Derived.Lib.Hide
import Derived.Shelf.Abstract
import Derived.Test.YtelnkflmnbhclaaGreatG05
/- What is proved: the contracts of the methods above, dated and moved of a trace. Conditions: none. -/
section
namespace Go.Proofs.YtelnkflmnbhclaaGreat
open Go.RowKit Go.Proofs Go.Shelf

def aboveL (x : Trace) : List Link := [⟨placeT x, lowerT x, -1, x.id⟩]
def datedL (x : Trace) : List Link := [⟨⟨0, 0⟩, placeT x, x.high, x.id⟩, ⟨placeT x, ⟨0, 0⟩, -x.low, x.id⟩]

theorem moved_any (x : Trace) (w : World) : Calls Tryz.prog 190 #[.agg #[.int .i64 x.id, .int .i64 x.known, .int .u8 x.kind, .int .i64 x.pit, .int .i64 x.layer, .int .i64 x.lower, .int .i64 x.low, .int .i64 x.high, .int .i64 x.cost, .int .i64 x.void]] w
    fun e w' => ∃ A n c, e = .returned (.slice A n c) ∧ Below w.heap.size w w' ∧ Rd encLink 6 w' A n c [] ∧ (∀ b o, A = some ⟨b, o, none⟩ → w.heap.size ≤ b) := by
  go_enter Tryz.func190, Tryz.ntmps190
  go_wp2
  go_ret
  exact ⟨none, 0, 0, rfl, (Below.refl _ w).alloc (Nat.le_refl _) _, Rd.none_ _ _ (by omega), fun b o h => by cases h⟩

set_option maxHeartbeats 1000000 in
set_option maxRecDepth 100000 in
theorem dated_any (x : Trace) (w : World) (hlow : IntKind.i64.wrap (-x.low) = -x.low) : Calls Tryz.prog 189 #[.agg #[.int .i64 x.id, .int .i64 x.known, .int .u8 x.kind, .int .i64 x.pit, .int .i64 x.layer, .int .i64 x.lower, .int .i64 x.low, .int .i64 x.high, .int .i64 x.cost, .int .i64 x.void]] w
    fun e w' => ∃ A n c, e = .returned (.slice A n c) ∧ Below w.heap.size w w' ∧ Rd encLink 6 w' A n c (datedL x) ∧ (∀ b o, A = some ⟨b, o, none⟩ → w.heap.size ≤ b) := by
  go_enter Tryz.func189, Tryz.ntmps189
  go_wp2_with (go_at_call 99; refine (place_any _ _ _ _ _ _ _ _ _ _ _).mono ?_; rintro e wP ⟨rfl, hbP⟩; obtain ⟨hccP, hffP⟩ := bcell hbP; have hzP := hbP.size; (try simp only [World.size_alloc] at hzP); have : w.heap.size < wP.heap.size := (by omega))
  go_ret
  refine ⟨_, _, _, rfl, (by ((repeat' (first | (with_reducible assumption) | (with_reducible exact Below.refl _ _) | (with_reducible refine Below.drew ?_) | (with_reducible refine below_drewN' ?_ _) | (with_reducible refine Below.alloc ?_ ?_ _) | (with_reducible refine Below.setCell ?_ ?_ _) | (with_reducible refine below_step (by assumption) ?_ ?_))) <;> first | (simp; done) | (simp; omega) | omega)), ?_, fun b o h => by cases h; (first | omega | (simp; omega) | (simp; done))⟩
  have := Rd.single (enc := encLink) (k := 6) ((wP.alloc (.cells #[.int .i64 x.pit, .int .i64 x.layer] 37)).alloc (.cells #[.int .i64 0, .int .i64 0] 37)) #[.int .i64 0, .int .i64 0, .int .i64 x.pit, .int .i64 x.layer, .int .i64 x.high, .int .i64 x.id, .int .i64 x.pit, .int .i64 x.layer, .int .i64 0, .int .i64 0, .int .i64 (-x.low), .int .i64 x.id] 74 (datedL x) 2 rfl (by omega) (fun _ => rfl) (by simp [datedL, encLink, placeT])
  simpa using this

set_option maxHeartbeats 2000000 in
set_option maxRecDepth 100000 in
theorem above_any (x : Trace) (w : World) : Calls Tryz.prog 188 #[.agg #[.int .i64 x.id, .int .i64 x.known, .int .u8 x.kind, .int .i64 x.pit, .int .i64 x.layer, .int .i64 x.lower, .int .i64 x.low, .int .i64 x.high, .int .i64 x.cost, .int .i64 x.void]] w
    fun e w' => ∃ A n c, e = .returned (.slice A n c) ∧ Below w.heap.size w w' ∧ Rd encLink 6 w' A n c (aboveL x) ∧ (∀ b o, A = some ⟨b, o, none⟩ → w.heap.size ≤ b) := by
  go_enter Tryz.func188, Tryz.ntmps188
  go_wp2_with (fail)
  generalize hW : w.alloc (.cells #[.int .i64 x.id, .int .i64 x.known, .int .u8 x.kind, .int .i64 x.pit, .int .i64 x.layer, .int .i64 x.lower, .int .i64 x.low, .int .i64 x.high, .int .i64 x.cost, .int .i64 x.void] 243) = W
  have f0 : W.cell? ⟨w.heap.size, 0, none⟩ = some (.int .i64 x.id) := by rw [← hW]; simp
  have f1 : W.cell? ⟨w.heap.size, 1, none⟩ = some (.int .i64 x.known) := by rw [← hW]; simp
  have f2 : W.cell? ⟨w.heap.size, 2, none⟩ = some (.int .u8 x.kind) := by rw [← hW]; simp
  have f3 : W.cell? ⟨w.heap.size, 3, none⟩ = some (.int .i64 x.pit) := by rw [← hW]; simp
  have f4 : W.cell? ⟨w.heap.size, 4, none⟩ = some (.int .i64 x.layer) := by rw [← hW]; simp
  have f5 : W.cell? ⟨w.heap.size, 5, none⟩ = some (.int .i64 x.lower) := by rw [← hW]; simp
  have f6 : W.cell? ⟨w.heap.size, 6, none⟩ = some (.int .i64 x.low) := by rw [← hW]; simp
  have f7 : W.cell? ⟨w.heap.size, 7, none⟩ = some (.int .i64 x.high) := by rw [← hW]; simp
  have f8 : W.cell? ⟨w.heap.size, 8, none⟩ = some (.int .i64 x.cost) := by rw [← hW]; simp
  have f9 : W.cell? ⟨w.heap.size, 9, none⟩ = some (.int .i64 x.void) := by rw [← hW]; simp
  have hbW : Below w.heap.size w W := by rw [← hW]; exact (by ((repeat' (first | (with_reducible assumption) | (with_reducible exact Below.refl _ _) | (with_reducible refine Below.drew ?_) | (with_reducible refine below_drewN' ?_ _) | (with_reducible refine Below.alloc ?_ ?_ _) | (with_reducible refine Below.setCell ?_ ?_ _) | (with_reducible refine below_step (by assumption) ?_ ?_))) <;> first | (simp; done) | (simp; omega) | omega))
  have hzW := hbW.size
  have hWs : w.heap.size < W.heap.size := by rw [← hW]; simp
  clear hW
  go_region_with (first
    | (go_at_call 99; refine (place_any _ _ _ _ _ _ _ _ _ _ _).mono ?_; rintro e wP ⟨rfl, hbP⟩; obtain ⟨hccP, hffP⟩ := bcell hbP; have hzP := hbP.size; (try simp only [World.size_drew, World.cell?_drew] at hccP hzP); have qP : w.heap.size < wP.heap.size := (by omega))
    | (go_at_call 100; refine (lower_any _ _ _ _ _ _ _ _ _ _ _).mono ?_; rintro e wL ⟨rfl, hbL⟩; obtain ⟨hccL, hffL⟩ := bcell hbL; have hzL := hbL.size; (try simp only [World.size_drew, World.cell?_drew] at hccL hzL); have qL : w.heap.size < wL.heap.size := (by omega)))
  all_goals go_wp2
  all_goals go_ret
  all_goals refine ⟨_, _, _, rfl, (by ((repeat' (first | (with_reducible assumption) | (with_reducible exact Below.refl _ _) | (with_reducible refine Below.drew ?_) | (with_reducible refine below_drewN' ?_ _) | (with_reducible refine Below.alloc ?_ ?_ _) | (with_reducible refine Below.setCell ?_ ?_ _) | (with_reducible refine below_step (by assumption) ?_ ?_))) <;> first | (simp; done) | (simp; omega) | omega)), ?_, fun b o h => by cases h; (first | omega | (simp; omega) | (simp; done))⟩
  all_goals exact Rd.single (enc := encLink) (k := 6) _ #[.int .i64 x.pit, .int .i64 x.layer, .int .i64 x.pit, .int .i64 x.lower, .int .i64 (-1), .int .i64 x.id] _ (aboveL x) 1 rfl (by omega) (fun _ => rfl) (by simp [aboveL, encLink, placeT, lowerT])
end Go.Proofs.YtelnkflmnbhclaaGreat
end

/- What is proved: the contracts of slices.Index and slices.Contains at places. Conditions: none. -/
section
namespace Go.Proofs.YtelnkflmnbhclaaGreat
open Go.RowKit Go.Proofs Go.Shelf

theorem ret_i {k : IntKind} {a b : Int} (h : a = b) : Ending.returned (.int k a) = .returned (.int k b) := by rw [h]
set_option maxHeartbeats 1000000 in
set_option maxRecDepth 100000 in
theorem Index_Place (A : Option Addr) (n c : Nat) (l : List Place) (p : Place) (w : World) (hl : Rd encPlace 2 w A n c l) :
    Calls Tryz.prog 214 #[.slice A n c, .agg #[.int .i64 p.pit, .int .i64 p.layer]] w fun e w' => ∃ i : Int, e = .returned (.int .i64 i) ∧ (decide (0 ≤ i) = l.any (fun x => eqPlace p x)) ∧ Below w.heap.size w w' := by
  have hlen := Lib.hid hl.len
  have hbig := hl.big
  go_enter Tryz.func214, Tryz.ntmps214
  go_wp2_with (fail)
  go_loopw [8] (fun i wr => ∃ k : Nat, k ≤ n ∧ i = .int .i64 k ∧ Below (w.heap.size + 1) (w.alloc (.cells #[.int .i64 p.pit, .int .i64 p.layer] 37)) wr ∧ Hid (∀ q x, q < k → l[q]? = some x → eqPlace p x = false)) (fun i _ => n - (intOf i).toNat)
  case atStart => exact ⟨0, Nat.zero_le _, rfl, Below.refl _ _, fun k x h => absurd h (by omega)⟩
  case round =>
    obtain ⟨k, hk, rfl, hb, hno⟩ := hrel
    have hzr := hb.size
    simp only [World.size_alloc] at hzr
    have hbw0 : Below w.heap.size w wr := ((Below.refl _ w).alloc (Nat.le_refl _) _).trans (hb.mono (by omega))
    obtain ⟨hcc, hff⟩ := bcell hb
    have p0 : wr.cell? ⟨w.heap.size, 0, none⟩ = some (.int .i64 p.pit) := by rw [hcc _ _ (by omega)]; simp
    have p1 : wr.cell? ⟨w.heap.size, 1, none⟩ = some (.int .i64 p.layer) := by rw [hcc _ _ (by omega)]; simp
    clear hcc hff
    by_cases hlt : k < n
    · have hlr := hl.below hbw0 (Nat.le_refl _)
      obtain ⟨b, off, x, rfl, hbw, hx, hcell⟩ := hlr.one hlt
      have c0 : wr.cell? ⟨b, off + k * 2, none⟩ = some (.int .i64 x.pit) := hcell 0 _ rfl
      have c1 : wr.cell? ⟨b, off + k * 2 + 1, none⟩ = some (.int .i64 x.layer) := hcell 1 _ rfl
      have HX := Lib.hid hx
      clear hlr hcell hx
      cases hq : eqPlace p x
      · have HQ := Lib.hid hq
        go_wp2_with (fail)
        go_region
        all_goals go_wp2
        all_goals go_roundw
        all_goals first
          | exact ⟨k + 1, by omega, by go_num, hb.drew, fun q y hqk hy => (by
              by_cases hkq : q < k
              · exact hno.out q y hkq hy
              · have : q = k := (by omega)
                subst this
                rw [HX.out] at hy
                cases hy
                exact HQ.out)⟩
          | (simp [intOf]; omega)
      · have HQ := Lib.hid hq
        go_wp2_with (fail)
        go_region
        all_goals go_wp2
        all_goals go_ret
        all_goals exact ⟨k, rfl, by rw [List.any_eq_true.2 ⟨x, List.mem_of_getElem? HX.out, HQ.out⟩]; simp, hbw0.drew⟩
    · have hkn : k = n := by omega
      subst hkn
      go_wp2
      go_ret
      refine ⟨-1, rfl, ?_, hbw0⟩
      have : l.any (fun x => eqPlace p x) = false := by
        rw [List.any_eq_false]
        intro x hx
        obtain ⟨q, hq, rfl⟩ := List.getElem_of_mem hx
        rw [hno.out q _ (by rw [← hlen.out]; exact hq) (List.getElem?_eq_getElem hq)]
        simp
      rw [this]
      rfl

set_option maxHeartbeats 1000000 in
theorem Contains_Place (A : Option Addr) (n c : Nat) (l : List Place) (p : Place) (w : World) (hl : Rd encPlace 2 w A n c l) :
    Calls Tryz.prog 171 #[.slice A n c, .agg #[.int .i64 p.pit, .int .i64 p.layer]] w fun e w' => e = .returned (.bool (l.any (fun x => eqPlace p x))) ∧ Below w.heap.size w w' := by
  have hix := Index_Place A n c l p _ (hl.alloc (.cells #[.int .i64 p.pit, .int .i64 p.layer] 37))
  generalize l.any (fun x => eqPlace p x) = r at hix ⊢
  go_enter Tryz.func171, Tryz.ntmps171
  go_wp2_with (go_at_call 214; refine hix.mono ?_; rintro e w1 ⟨i, rfl, hr, hb1⟩; have HR := Lib.hid hr; clear hr)
  go_ret
  exact ⟨retB (by have := HR.out; simpa using this), ((Below.refl _ w).alloc (Nat.le_refl _) _).trans (hb1.mono (by simp))⟩
end Go.Proofs.YtelnkflmnbhclaaGreat
end

/- What is proved: the contract of the making of the iterator over links. Conditions: none. -/
section
namespace Go.Proofs.YtelnkflmnbhclaaGreat
open Go.RowKit Go.Proofs Go.Shelf

@[go_sem] theorem run_store_func' (P : Program) (w : World) (a : Addr) (f : Fn) (b c : Array Value) (m : Mode) : (store a (.func f b c) m).run P w = stored P w a (.func f b c) m := run_store P w a _ m rfl
@[go_sem] theorem run_store_nilFunc' (P : Program) (w : World) (a : Addr) (m : Mode) : (store a .nilFunc m).run P w = stored P w a .nilFunc m := run_store P w a _ m rfl

/-- what the closure of links holds on to -/
structure LinksAt (w : World) (Bo Bm Bv o : Nat) (M : Option Addr) (mn mc : Nat) : Prop where
  ord : w.heap[Bo]? = some (.cells #[.pointer (some ⟨o, 0, none⟩)] 106 (0, 0))
  mov : w.heap[Bv]? = some (.cells #[.slice M mn mc] 30 (0, 0))
  made : w.heap[Bm]? = some (.cells #[Value.nilFunc, .func (.func 188) #[] #[], .func (.func 189) #[] #[], .func (.func 190) #[] #[]] 244 (0, 0))

set_option maxHeartbeats 1000000 in
theorem links_any (o : Nat) (M : Option Addr) (mn mc : Nat) (w : World) :
    Calls Tryz.prog 133 #[.pointer (some ⟨o, 0, none⟩), .slice M mn mc] w fun e w' => ∃ Bo Bm Bv, e = .returned (.func (.func 191) #[] #[.pointer (some ⟨Bo, 0, none⟩), .pointer (some ⟨Bm, 0, none⟩), .pointer (some ⟨Bv, 0, none⟩)]) ∧ Below w.heap.size w w' ∧
      LinksAt w' Bo Bm Bv o M mn mc ∧ w.heap.size ≤ Bo ∧ w.heap.size ≤ Bm ∧ w.heap.size ≤ Bv := by
  go_enter Tryz.func133, Tryz.ntmps133
  go_wp2
  go_ret
  refine ⟨_, _, _, rfl, (by ((repeat' (first | (with_reducible assumption) | (with_reducible exact Below.refl _ _) | (with_reducible refine Below.drew ?_) | (with_reducible refine below_drewN' ?_ _) | (with_reducible refine Below.alloc ?_ ?_ _) | (with_reducible refine Below.setCell ?_ ?_ _) | (with_reducible refine below_step (by assumption) ?_ ?_))) <;> first | (simp; done) | (simp; omega) | omega)), ⟨?_, ?_, ?_⟩, Nat.le_refl _, by omega, by omega⟩
  · exact (Below.heap_alloc _ _ _ (by simp; omega)).trans ((Below.heap_alloc _ _ _ (by simp)).trans (World.alloc_heap_new _ _))
  · have := World.alloc_heap_new (w.alloc (.cells #[.pointer (some ⟨o, 0, none⟩)] 106)) (.cells #[.slice M mn mc] 30)
    rw [World.size_alloc] at this
    exact (Below.heap_alloc _ _ _ (by simp)).trans this
  · have := World.alloc_heap_new ((w.alloc (.cells #[.pointer (some ⟨o, 0, none⟩)] 106)).alloc (.cells #[.slice M mn mc] 30)) (.cells #[Value.nilFunc, .func (.func 188) #[] #[], .func (.func 189) #[] #[], .func (.func 190) #[] #[]] 244)
    rw [World.size_alloc, World.size_alloc] at this
    exact this
end Go.Proofs.YtelnkflmnbhclaaGreat
end

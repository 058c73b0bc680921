/- Contracts that the laws lean on: ChkA, ChkR, ChkL. -/
import Derived.Test.YtelnkflmnbhclaaGreatH02
import Derived.Test.YtelnkflmnbhclaaGreatH07
import Derived.Deep.RegionHeld3
import Derived.Test.YtelnkflmnbhclaaGreatH01
import Derived.Test.YtelnkflmnbhclaaGreatH03
import Derived.Test.YtelnkflmnbhclaaGreatG47
import Derived.Deep.DeepCutAuto
/- What is proved: the contract of the reference's Append: what the program's returns. Conditions: none. -/
section
namespace Go.Proofs.YtelnkflmnbhclaaGreat
open Go.RowKit Go.Proofs Go.Shelf

set_option maxRecDepth 100000 in
set_option maxHeartbeats 4000000 in
theorem rAppend_any (A : Option Addr) (n c : Nat) (l : List Trace) (x : Trace) (w : World) (hl : Rd encTrace 10 w A n c l) :
    Calls Tryz.prog 44 #[.slice A n c, .agg #[.int .i64 x.id, .int .i64 x.known, .int .u8 x.kind, .int .i64 x.pit, .int .i64 x.layer, .int .i64 x.lower, .int .i64 x.low, .int .i64 x.high, .int .i64 x.cost, .int .i64 x.void]] w fun e w' => ∃ A' c', e = .returned (.tuple #[.slice A' (appendV l x).1.length c', .int .i64 (appendV l x).2]) ∧ Below w.heap.size w w' ∧
      Own encTrace 10 25 w.heap.size w' A' (appendV l x).1.length c' (appendV l x).1 := by
  obtain ⟨w1, hw1⟩ : ∃ w1, w.alloc (.cells #[.int .i64 x.id, .int .i64 x.known, .int .u8 x.kind, .int .i64 x.pit, .int .i64 x.layer, .int .i64 x.lower, .int .i64 x.low, .int .i64 x.high, .int .i64 x.cost, .int .i64 x.void] 25) = w1 := ⟨_, rfl⟩
  have hb1 : Below w.heap.size w w1 := (by rw [← hw1]; exact (Below.refl _ w).alloc (Nat.le_refl _) _)
  have hz1 : w1.heap.size = w.heap.size + 1 := (by rw [← hw1]; simp)
  have hr1 : w1.heap[w.heap.size]? = some (.cells #[.int .i64 x.id, .int .i64 x.known, .int .u8 x.kind, .int .i64 x.pit, .int .i64 x.layer, .int .i64 x.lower, .int .i64 x.low, .int .i64 x.high, .int .i64 x.cost, .int .i64 x.void] 25 (0, 0)) := (by rw [← hw1]; exact heap_alloc_new w _)
  have HC := Lib.hid (rCheck_any A n c l w1 (hl.below hb1 (Nat.le_refl _)))
  have HL := Lib.hid hl
  have CELLS : Hid (∀ W : World, Below w1.heap.size w1 W → W.cell? ⟨w.heap.size, 0, none⟩ = some (.int .i64 x.id) ∧ W.cell? ⟨w.heap.size, 1, none⟩ = some (.int .i64 x.known) ∧ W.cell? ⟨w.heap.size, 2, none⟩ = some (.int .u8 x.kind) ∧ W.cell? ⟨w.heap.size, 3, none⟩ = some (.int .i64 x.pit) ∧ W.cell? ⟨w.heap.size, 4, none⟩ = some (.int .i64 x.layer) ∧ W.cell? ⟨w.heap.size, 5, none⟩ = some (.int .i64 x.lower) ∧ W.cell? ⟨w.heap.size, 6, none⟩ = some (.int .i64 x.low) ∧ W.cell? ⟨w.heap.size, 7, none⟩ = some (.int .i64 x.high) ∧ W.cell? ⟨w.heap.size, 8, none⟩ = some (.int .i64 x.cost) ∧ W.cell? ⟨w.heap.size, 9, none⟩ = some (.int .i64 x.void)) := (show ∀ W : World, Below w1.heap.size w1 W → _ from fun W hb => by
    have := (hb.block _ (by omega)).trans hr1
    simp [World.cell?, this])
  clear hl hr1
  by_cases he : (check l).2 = 0
  · have hsm := check_small he
    rw [he] at HC
    have hv : appendV l x = if follows l x ≠ 0 then ([], follows l x) else (l ++ [x], 0) := by unfold appendV; rw [if_neg (by simpa using he)]
    rw [hv]
    clear hv he
    obtain ⟨f, hf⟩ : ∃ f, follows l x = f := ⟨_, rfl⟩
    have hfol := fun W (hb : Below w1.heap.size w1 W) => rRefused_any A n c l x W (HL.out.below (hb1.trans (hb.mono (by omega))) (Nat.le_refl _))
    have HF := Lib.hid (show ∀ W, Below w1.heap.size w1 W → Calls Tryz.prog 95 #[.slice A n c, .agg #[.int .i64 x.id, .int .i64 x.known, .int .u8 x.kind, .int .i64 x.pit, .int .i64 x.layer, .int .i64 x.lower, .int .i64 x.low, .int .i64 x.high, .int .i64 x.cost, .int .i64 x.void]] W fun e' w' => e' = .returned (.int .i64 f) ∧ Below W.heap.size W w' by
      intro W hb; have := hfol W hb; rw [← hf]; exact this)
    rw [hf]
    clear hfol hf
    have hnl := HL.out.len
    have hn140 : n ≤ 140 := by omega
    have HNL := Lib.hid hnl
    clear hnl hsm
    by_cases hf0 : f = 0
    · subst hf0
      rw [if_neg (by simp)]
      go_enter Tryz.func44, Tryz.ntmps44
      go_upto_region 6 with (first
        | (go_at_call 43; (with_reducible refine HC.out.mono ?_); rintro e w2 ⟨rfl, hb2⟩
           obtain ⟨c0, c1, c2, c3, c4, c5, c6, c7, c8, c9⟩ := CELLS.out w2 hb2
           have HF2 := Lib.hid (HF.out w2 hb2)
           have HB2 := Lib.hid hb2
           clear hb2)
        | (go_at_call 95; (with_reducible refine HF2.out.mono ?_); rintro e w3 ⟨rfl, hb3⟩
           have HB3 := Lib.hid (HB2.out.trans (hb3.mono HB2.out.size))
           clear hb3 c0 c1 c2 c3 c4 c5 c6 c7 c8 c9))
      have hz3 : w1.heap.size ≤ w3.heap.size := HB3.out.size
      have RL : Hid (∀ W, Below w1.heap.size w1 W → Rd encTrace 10 W A n c l) := (show ∀ W, Below w1.heap.size w1 W → Rd encTrace 10 W A n c l from fun W hb => HL.out.below (hb1.trans (hb.mono (by omega))) (Nat.le_refl _))
      have SX : Hid (∀ W, Below w1.heap.size w1 W → Hid (Below w1.heap.size w1 W) ∧ W.cell? ⟨w.heap.size, 0, none⟩ = some (.int .i64 x.id) ∧ W.cell? ⟨w.heap.size, 1, none⟩ = some (.int .i64 x.known) ∧ W.cell? ⟨w.heap.size, 2, none⟩ = some (.int .u8 x.kind) ∧ W.cell? ⟨w.heap.size, 3, none⟩ = some (.int .i64 x.pit) ∧ W.cell? ⟨w.heap.size, 4, none⟩ = some (.int .i64 x.layer) ∧ W.cell? ⟨w.heap.size, 5, none⟩ = some (.int .i64 x.lower) ∧ W.cell? ⟨w.heap.size, 6, none⟩ = some (.int .i64 x.low) ∧ W.cell? ⟨w.heap.size, 7, none⟩ = some (.int .i64 x.high) ∧ W.cell? ⟨w.heap.size, 8, none⟩ = some (.int .i64 x.cost) ∧ W.cell? ⟨w.heap.size, 9, none⟩ = some (.int .i64 x.void)) := (show ∀ W, Below w1.heap.size w1 W → _ from fun W hb => ⟨hb, CELLS.out W hb⟩)
      have E1 : Hid (Own encTrace 10 25 w1.heap.size (w3.alloc (.cells #[] 25)).drew (some ⟨w3.heap.size, 0, none⟩) 0 0 []) := Lib.hid (Own.fresh encTrace 10 25 w3 hz3).drew
      have E2 : Hid (Own encTrace 10 25 w1.heap.size ((w3.alloc (.cells #[] 25)).alloc (.cells #[.int .i64 x.id, .int .i64 x.known, .int .u8 x.kind, .int .i64 x.pit, .int .i64 x.layer, .int .i64 x.lower, .int .i64 x.low, .int .i64 x.high, .int .i64 x.cost, .int .i64 x.void] 25)).drew (some ⟨w3.heap.size, 0, none⟩) 0 0 []) := Lib.hid ((Own.fresh encTrace 10 25 w3 hz3).alloc _).drew
      have E3 : Hid (Own encTrace 10 25 w1.heap.size ((w3.alloc (.cells #[.int .i64 x.id, .int .i64 x.known, .int .u8 x.kind, .int .i64 x.pit, .int .i64 x.layer, .int .i64 x.lower, .int .i64 x.low, .int .i64 x.high, .int .i64 x.cost, .int .i64 x.void] 25)).alloc (.cells #[] 25)).drew (some ⟨w3.heap.size + 1, 0, none⟩) 0 0 []) := Lib.hid (by have := (Own.fresh encTrace 10 25 (B := w1.heap.size) (w3.alloc (.cells #[.int .i64 x.id, .int .i64 x.known, .int .u8 x.kind, .int .i64 x.pit, .int .i64 x.layer, .int .i64 x.lower, .int .i64 x.low, .int .i64 x.high, .int .i64 x.cost, .int .i64 x.void] 25)) (by simp; omega)).drew; rwa [World.size_alloc] at this)
      have B1 : Hid (Below w1.heap.size w1 (w3.alloc (.cells #[] 25)).drew) := Lib.hid (HB3.out.alloc hz3 _).drew
      have B2 : Hid (Below w1.heap.size w1 ((w3.alloc (.cells #[] 25)).alloc (.cells #[.int .i64 x.id, .int .i64 x.known, .int .u8 x.kind, .int .i64 x.pit, .int .i64 x.layer, .int .i64 x.lower, .int .i64 x.low, .int .i64 x.high, .int .i64 x.cost, .int .i64 x.void] 25)).drew) := Lib.hid ((HB3.out.alloc hz3 _).alloc (by simp; omega) _).drew
      have B3 : Hid (Below w1.heap.size w1 ((w3.alloc (.cells #[.int .i64 x.id, .int .i64 x.known, .int .u8 x.kind, .int .i64 x.pit, .int .i64 x.layer, .int .i64 x.lower, .int .i64 x.low, .int .i64 x.high, .int .i64 x.cost, .int .i64 x.void] 25)).alloc (.cells #[] 25)).drew) := Lib.hid ((HB3.out.alloc hz3 _).alloc (by simp; omega) _).drew
      have R2 : Hid (Rd encTrace 10 ((w3.alloc (.cells #[] 25)).alloc (.cells #[.int .i64 x.id, .int .i64 x.known, .int .u8 x.kind, .int .i64 x.pit, .int .i64 x.layer, .int .i64 x.lower, .int .i64 x.low, .int .i64 x.high, .int .i64 x.cost, .int .i64 x.void] 25)).drew (some ⟨w3.heap.size + 1, 0, none⟩) 1 1 [x]) := Lib.hid (by have := (Rd.single (enc := encTrace) (k := 10) (w3.alloc (.cells #[] 25)) #[.int .i64 x.id, .int .i64 x.known, .int .u8 x.kind, .int .i64 x.pit, .int .i64 x.layer, .int .i64 x.lower, .int .i64 x.low, .int .i64 x.high, .int .i64 x.cost, .int .i64 x.void] 25 [x] 1 rfl (by omega) (fun _ => rfl) (by simp [encTrace])).drew; rwa [World.size_alloc] at this)
      have R3 : Hid (Rd encTrace 10 ((w3.alloc (.cells #[.int .i64 x.id, .int .i64 x.known, .int .u8 x.kind, .int .i64 x.pit, .int .i64 x.layer, .int .i64 x.lower, .int .i64 x.low, .int .i64 x.high, .int .i64 x.cost, .int .i64 x.void] 25)).alloc (.cells #[] 25)).drew (some ⟨w3.heap.size, 0, none⟩) 1 1 [x]) := Lib.hid ((Rd.single (enc := encTrace) (k := 10) w3 #[.int .i64 x.id, .int .i64 x.known, .int .u8 x.kind, .int .i64 x.pit, .int .i64 x.layer, .int .i64 x.lower, .int .i64 x.low, .int .i64 x.high, .int .i64 x.cost, .int .i64 x.void] 25 [x] 1 rfl (by omega) (fun _ => rfl) (by simp [encTrace])).alloc _).drew
      clear CELLS HC HF HF2 HB2
      go_region_held3 (fun W => Hid (Below w1.heap.size w1 W) ∧ W.cell? ⟨w.heap.size, 0, none⟩ = some (.int .i64 x.id) ∧ W.cell? ⟨w.heap.size, 1, none⟩ = some (.int .i64 x.known) ∧ W.cell? ⟨w.heap.size, 2, none⟩ = some (.int .u8 x.kind) ∧ W.cell? ⟨w.heap.size, 3, none⟩ = some (.int .i64 x.pit) ∧ W.cell? ⟨w.heap.size, 4, none⟩ = some (.int .i64 x.layer) ∧ W.cell? ⟨w.heap.size, 5, none⟩ = some (.int .i64 x.lower) ∧ W.cell? ⟨w.heap.size, 6, none⟩ = some (.int .i64 x.low) ∧ W.cell? ⟨w.heap.size, 7, none⟩ = some (.int .i64 x.high) ∧ W.cell? ⟨w.heap.size, 8, none⟩ = some (.int .i64 x.cost) ∧ W.cell? ⟨w.heap.size, 9, none⟩ = some (.int .i64 x.void)) (first | exact SX.out _ HB9.out | exact SX.out _ HB8.out | exact SX.out _ (HB8.out.alloc hz8 _) | exact SX.out _ B1.out | exact SX.out _ B2.out | exact SX.out _ B3.out | exact SX.out _ HB3.out.drew | exact SX.out _ (HB3.out.drew.alloc hz3 _))
        (first
          | (refine step_append_src elTrace (fun _ => rfl) oneTrace rfl (.tmp 21) (.tmp 22) rfl _ _ _ _ rfl rfl E1.out (RL.out _ B1.out) (by omega) (by decide) (by (try simp); omega) ?_; intro A8 c8 w8 hO8 hg8 hA8
             have HB8 := Lib.hid (B1.out.grown hg8 (by simp; omega) (fun j e => by have : w3.heap.size = j := (by simpa [blockOf] using e); omega))
             have hz8 := HB8.out.size
             rw [Nat.zero_add, List.nil_append] at hO8
             have HO8 := Lib.hid (hO8.alloc (.cells #[.int .i64 x.id, .int .i64 x.known, .int .u8 x.kind, .int .i64 x.pit, .int .i64 x.layer, .int .i64 x.lower, .int .i64 x.low, .int .i64 x.high, .int .i64 x.cost, .int .i64 x.void] 25))
             have HR8 := Lib.hid (Rd.single (enc := encTrace) (k := 10) w8 #[.int .i64 x.id, .int .i64 x.known, .int .u8 x.kind, .int .i64 x.pit, .int .i64 x.layer, .int .i64 x.lower, .int .i64 x.low, .int .i64 x.high, .int .i64 x.cost, .int .i64 x.void] 25 [x] 1 rfl (by omega) (fun _ => rfl) (by simp [encTrace]))
             clear hO8 hg8 hA8)
          | (refine step_append_src elTrace (fun _ => rfl) oneTrace rfl (.tmp 21) (.tmp 22) rfl _ _ _ _ rfl rfl E2.out (RL.out _ B2.out) (by omega) (by decide) (by (try simp); omega) ?_; intro A8 c8 w8 hO8 hg8 hA8
             have HB8 := Lib.hid (B2.out.grown hg8 (by simp; omega) (fun j e => by have : w3.heap.size = j := (by simpa [blockOf] using e); omega))
             have hz8 := HB8.out.size
             have HR8 := Lib.hid (R2.out.grown hg8 (fun _ q e => by simp [blockOf] at e ⊢; omega))
             have HO8 := Lib.hid hO8
             clear hO8 hg8 hA8)
          | (refine step_append_src elTrace (fun _ => rfl) oneTrace rfl (.tmp 21) (.tmp 22) rfl _ _ _ _ rfl rfl E3.out (RL.out _ B3.out) (by omega) (by decide) (by (try simp); omega) ?_; intro A8 c8 w8 hO8 hg8 hA8
             have HB8 := Lib.hid (B3.out.grown hg8 (by simp; omega) (fun j e => by have : w3.heap.size + 1 = j := (by simpa [blockOf] using e); omega))
             have hz8 := HB8.out.size
             have HR8 := Lib.hid (R3.out.grown hg8 (fun _ q e => by simp [blockOf] at e ⊢; omega))
             have HO8 := Lib.hid hO8
             clear hO8 hg8 hA8)
          | (refine step_append_src elTrace (fun _ => rfl) oneTrace rfl (.tmp 23) (.tmp 25) rfl _ _ _ _ rfl rfl HO8.out HR8.out (by omega) (by decide) (by (try simp); omega) ?_; intro A9 c9 w9 hO9 hg9 hA9
             have HB9 := Lib.hid (show Below w1.heap.size w1 w9 from by first | exact (HB8.out.alloc hz8 _).grown hg9 (by simp; omega) (fun j e => HO8.out.ltB j e) | exact HB8.out.grown hg9 hz8 (fun j e => HO8.out.ltB j e))
             have HO9 := Lib.hid hO9
             clear hO9 hg9 hA9))
      all_goals go_wp2
      all_goals go_ret2
      all_goals exact ⟨A9, c9, by simp [HNL.out], hb1.trans (HB9.out.mono (by omega)), by
        have h9 := HO9.out.mono (B' := w.heap.size) (by omega)
        first
          | (rw [Nat.zero_add, List.nil_append] at h9; simpa [HNL.out] using h9)
          | simpa [HNL.out] using h9⟩
    · rw [if_pos hf0]
      have hf1 := neBool hf0
      go_enter Tryz.func44, Tryz.ntmps44
      go_wp2_with (first
        | (go_at_call 43; (with_reducible refine HC.out.mono ?_); rintro e w2 ⟨rfl, hb2⟩
           obtain ⟨c0, c1, c2, c3, c4, c5, c6, c7, c8, c9⟩ := CELLS.out w2 hb2
           have HF2 := Lib.hid (HF.out w2 hb2)
           have HB2 := Lib.hid hb2
           clear hb2)
        | (go_at_call 95; (with_reducible refine HF2.out.mono ?_); rintro e w3 ⟨rfl, hb3⟩
           have HB3 := Lib.hid (HB2.out.trans (hb3.mono HB2.out.size))
           clear hb3))
      go_ret2
      exact ⟨none, 0, rfl, hb1.trans (HB3.out.mono (by omega)), Own.none_ _ _ _ _ _⟩
  · have hv : appendV l x = ([], (check l).2) := by unfold appendV; rw [if_pos he]
    rw [hv]
    have he' := neBool he
    have he2 : ((check l).2 == 0) = false := beq_eq_false_iff_ne.2 he
    generalize (check l).2 = ce at *
    go_enter Tryz.func44, Tryz.ntmps44
    go_wp2_with (first
      | (go_at_call 43; (with_reducible refine HC.out.mono ?_); rintro e w2 ⟨rfl, hb2⟩
         have HB2 := Lib.hid hb2
         clear hb2))
    go_ret2
    exact ⟨none, 0, rfl, hb1.trans (HB2.out.mono (by omega)), Own.none_ _ _ _ _ _⟩
end Go.Proofs.YtelnkflmnbhclaaGreat
end

/- What is proved: the drawn region of the law StratumChecks that compares. Conditions: none. -/
section
namespace Go.Proofs.YtelnkflmnbhclaaGreat
open Go.RowKit Go.Proofs

def coderchk9 : Option Code → Code
  | some (.seq _ (.seq _ (.seq _ (.seq _ (.seq _ (.seq _ (.seq _ (.seq _ (.seq c _))))))))) => c
  | _ => .skip
def valrchk9 (bA : Option Addr) (bn bc _ : Nat) (x : Trace) (ci ce : Int) (a1 : Option Addr) (n1 c1 : Nat) (g1 : Int) (a2 : Option Addr) (c2 : Nat) (a3 : Option Addr) (n3 c3 : Nat) (g3 : Int) (a4 : Option Addr) (c4 : Nat) (ct cb : Int) : Nat → Value
  | 0 => .bool true
  | 1 => .bool true
  | 2 => .int .i64 ci
  | 3 => .int .i64 ci
  | 4 => .bool true
  | 5 => .bool true
  | 6 => .bool true
  | 7 => .int .i64 ce
  | 8 => .int .i64 ce
  | 9 => .bool true
  | 10 => .bool true
  | 11 => .bool true
  | 12 => .int .i64 g1
  | 13 => .int .i64 g1
  | 14 => .bool true
  | 15 => .bool true
  | 16 => .bool true
  | 17 => .int .i64 g3
  | 18 => .int .i64 g3
  | 19 => .bool true
  | 20 => .bool true
  | 21 => .bool true
  | 22 => .slice a1 n1 c1
  | 23 => .slice a2 n1 c2
  | 24 => .bool true
  | 25 => .bool true
  | 26 => .bool true
  | 27 => .slice a3 n3 c3
  | 28 => .slice a4 n3 c4
  | 29 => .bool true
  | 30 => .bool true
  | 31 => .bool true
  | 32 => .agg #[.int .i64 x.id, .int .i64 x.known, .int .u8 (x.kind), .int .i64 x.pit, .int .i64 x.layer, .int .i64 x.lower, .int .i64 x.low, .int .i64 x.high, .int .i64 x.cost, .int .i64 x.void]
  | 33 => .int .i64 ct
  | 34 => .agg #[.int .i64 x.id, .int .i64 x.known, .int .u8 (x.kind), .int .i64 x.pit, .int .i64 x.layer, .int .i64 x.lower, .int .i64 x.low, .int .i64 x.high, .int .i64 x.cost, .int .i64 x.void]
  | 35 => .int .i64 ct
  | 36 => .bool true
  | 37 => .bool true
  | 38 => .bool true
  | 39 => .slice bA bn bc
  | 40 => .int .i64 cb
  | 41 => .slice bA bn bc
  | 42 => .int .i64 cb
  | 43 => .bool true
  | 44 => .bool true
  | 45 => .bool true
  | _ => undef
set_option maxRecDepth 100000 in
set_option maxHeartbeats 4000000 in
theorem rchk9 (cC : Code) (hc : cC = coderchk9 Tryz.f9.body) (bA : Option Addr) (bn bc pb : Nat) (x : Trace) (ci ce : Int) (a1 : Option Addr) (n1 c1 : Nat) (g1 : Int) (a2 : Option Addr) (c2 : Nat) (a3 : Option Addr) (n3 c3 : Nat) (g3 : Int) (a4 : Option Addr) (c4 : Nat) (ct cb : Int) (a : Act) (w : World) (Q : Exit → Act → World → Prop)
    (hT : a.tmps.size = 105) (t2 : a.tmps.getD 2 undef = .slice bA bn bc) (t5 : a.tmps.getD 5 undef = .pointer (some ⟨pb, 0, none⟩)) (t9 : a.tmps.getD 9 undef = .int .i64 ci) (t10 : a.tmps.getD 10 undef = .int .i64 ce) (t11 : a.tmps.getD 11 undef = .int .i64 ci) (t12 : a.tmps.getD 12 undef = .int .i64 ce) (t13 : a.tmps.getD 13 undef = .slice a1 n1 c1) (t14 : a.tmps.getD 14 undef = .int .i64 g1) (t15 : a.tmps.getD 15 undef = .slice a2 n1 c2) (t16 : a.tmps.getD 16 undef = .int .i64 g1) (t17 : a.tmps.getD 17 undef = .slice a3 n3 c3) (t18 : a.tmps.getD 18 undef = .int .i64 g3) (t19 : a.tmps.getD 19 undef = .slice a4 n3 c4) (t20 : a.tmps.getD 20 undef = .int .i64 g3)
    (CE : ∀ W, Below w.heap.size w W → W.cell? ⟨pb, 0, none⟩ = some (.int .i64 x.id) ∧ W.cell? ⟨pb, 1, none⟩ = some (.int .i64 x.known) ∧ W.cell? ⟨pb, 2, none⟩ = some (.int .u8 x.kind) ∧ W.cell? ⟨pb, 3, none⟩ = some (.int .i64 x.pit) ∧ W.cell? ⟨pb, 4, none⟩ = some (.int .i64 x.layer) ∧ W.cell? ⟨pb, 5, none⟩ = some (.int .i64 x.lower) ∧ W.cell? ⟨pb, 6, none⟩ = some (.int .i64 x.low) ∧ W.cell? ⟨pb, 7, none⟩ = some (.int .i64 x.high) ∧ W.cell? ⟨pb, 8, none⟩ = some (.int .i64 x.cost) ∧ W.cell? ⟨pb, 9, none⟩ = some (.int .i64 x.void)) (H0 : ∀ W, Below w.heap.size w W → Calls Tryz.prog 22 #[] W fun e' w' => e' = .returned (.bool true) ∧ Below W.heap.size W w') (H1 : ∀ W, Below w.heap.size w W → Calls Tryz.prog 47 #[.slice a1 n1 c1, .slice a2 n1 c2] W fun e' w' => e' = .returned (.bool true) ∧ Below W.heap.size W w') (H2 : ∀ W, Below w.heap.size w W → Calls Tryz.prog 47 #[.slice a3 n3 c3, .slice a4 n3 c4] W fun e' w' => e' = .returned (.bool true) ∧ Below W.heap.size W w') (H3 : ∀ W, Below w.heap.size w W → Calls Tryz.prog 48 #[.agg #[.int .i64 x.id, .int .i64 x.known, .int .u8 x.kind, .int .i64 x.pit, .int .i64 x.layer, .int .i64 x.lower, .int .i64 x.low, .int .i64 x.high, .int .i64 x.cost, .int .i64 x.void]] W fun e' w' => e' = .returned (.int .i64 ct) ∧ Below W.heap.size W w') (H4 : ∀ W, Below w.heap.size w W → Calls Tryz.prog 49 #[.agg #[.int .i64 x.id, .int .i64 x.known, .int .u8 x.kind, .int .i64 x.pit, .int .i64 x.layer, .int .i64 x.lower, .int .i64 x.low, .int .i64 x.high, .int .i64 x.cost, .int .i64 x.void]] W fun e' w' => e' = .returned (.int .i64 ct) ∧ Below W.heap.size W w') (H5 : ∀ W, Below w.heap.size w W → Calls Tryz.prog 50 #[.slice bA bn bc] W fun e' w' => e' = .returned (.int .i64 cb) ∧ Below W.heap.size W w') (H6 : ∀ W, Below w.heap.size w W → Calls Tryz.prog 51 #[.slice bA bn bc] W fun e' w' => e' = .returned (.int .i64 cb) ∧ Below W.heap.size W w')
    (hQ : ∀ W, (fun W => Below w.heap.size w W) W → Q .normal { tmps := ((((((((((((((((((((((((((((((((((((((((((((((a.tmps.setIfInBounds 60 (.bool true)).setIfInBounds 61 (.bool true)).setIfInBounds 62 (.int .i64 ci)).setIfInBounds 63 (.int .i64 ci)).setIfInBounds 64 (.bool true)).setIfInBounds 65 (.bool true)).setIfInBounds 66 (.bool true)).setIfInBounds 67 (.int .i64 ce)).setIfInBounds 68 (.int .i64 ce)).setIfInBounds 69 (.bool true)).setIfInBounds 70 (.bool true)).setIfInBounds 71 (.bool true)).setIfInBounds 72 (.int .i64 g1)).setIfInBounds 73 (.int .i64 g1)).setIfInBounds 74 (.bool true)).setIfInBounds 75 (.bool true)).setIfInBounds 76 (.bool true)).setIfInBounds 77 (.int .i64 g3)).setIfInBounds 78 (.int .i64 g3)).setIfInBounds 79 (.bool true)).setIfInBounds 80 (.bool true)).setIfInBounds 81 (.bool true)).setIfInBounds 82 (.slice a1 n1 c1)).setIfInBounds 83 (.slice a2 n1 c2)).setIfInBounds 84 (.bool true)).setIfInBounds 85 (.bool true)).setIfInBounds 86 (.bool true)).setIfInBounds 87 (.slice a3 n3 c3)).setIfInBounds 88 (.slice a4 n3 c4)).setIfInBounds 89 (.bool true)).setIfInBounds 90 (.bool true)).setIfInBounds 91 (.bool true)).setIfInBounds 92 (.agg #[.int .i64 x.id, .int .i64 x.known, .int .u8 (x.kind), .int .i64 x.pit, .int .i64 x.layer, .int .i64 x.lower, .int .i64 x.low, .int .i64 x.high, .int .i64 x.cost, .int .i64 x.void])).setIfInBounds 93 (.int .i64 ct)).setIfInBounds 94 (.agg #[.int .i64 x.id, .int .i64 x.known, .int .u8 (x.kind), .int .i64 x.pit, .int .i64 x.layer, .int .i64 x.lower, .int .i64 x.low, .int .i64 x.high, .int .i64 x.cost, .int .i64 x.void])).setIfInBounds 95 (.int .i64 ct)).setIfInBounds 96 (.bool true)).setIfInBounds 97 (.bool true)).setIfInBounds 98 (.bool true)).setIfInBounds 99 (.slice bA bn bc)).setIfInBounds 100 (.int .i64 cb)).setIfInBounds 101 (.slice bA bn bc)).setIfInBounds 102 (.int .i64 cb)).setIfInBounds 103 (.bool true)).setIfInBounds 104 (.bool true)).setIfInBounds 8 (.bool true)), defers := a.defers } W) :
    cC.wp Tryz.prog Q a w := by
  subst hc
  unfold coderchk9 Tryz.f9
  dsimp only
  refine wpIn_wide.1 (wpIn_region_vals (nn := 5) 105 (by kernel_rfl) (by kernel_rfl) hT.symm (valrchk9 bA bn bc pb x ci ce a1 n1 c1 g1 a2 c2 a3 n3 c3 g3 a4 c4 ct cb) (fun W => Below w.heap.size w W) ((Below.refl _ _).drew) ?_ ?_)
  · intro listed io o b W hi ho h
    obtain ⟨c0, c1_, c2_, c3_, c4_, c5, c6, c7, c8, c9⟩ := CE W h.glob
    clear hQ
    obtain ⟨hun, oi, hoi, hall⟩ := mem_ready.1 hi
    have : oi = o := Option.some.inj (hoi.symm.trans ho)
    subst this
    clear hoi hi
    have hlt : io < 46 := (by have := (Array.getElem?_eq_some_iff.1 ho).1; simpa using this)
    have hun' : listed.getD io false = false := getD_both hun
    have q2 : b.tmps[2]?.getD undef = _ := (by simpa using (h.tab.old 2 (dst_no h.tab (by kernel_rfl))).trans t2)
    have q5 : b.tmps[5]?.getD undef = _ := (by simpa using (h.tab.old 5 (dst_no h.tab (by kernel_rfl))).trans t5)
    have q9 : b.tmps[9]?.getD undef = _ := (by simpa using (h.tab.old 9 (dst_no h.tab (by kernel_rfl))).trans t9)
    have q10 : b.tmps[10]?.getD undef = _ := (by simpa using (h.tab.old 10 (dst_no h.tab (by kernel_rfl))).trans t10)
    have q11 : b.tmps[11]?.getD undef = _ := (by simpa using (h.tab.old 11 (dst_no h.tab (by kernel_rfl))).trans t11)
    have q12 : b.tmps[12]?.getD undef = _ := (by simpa using (h.tab.old 12 (dst_no h.tab (by kernel_rfl))).trans t12)
    have q13 : b.tmps[13]?.getD undef = _ := (by simpa using (h.tab.old 13 (dst_no h.tab (by kernel_rfl))).trans t13)
    have q14 : b.tmps[14]?.getD undef = _ := (by simpa using (h.tab.old 14 (dst_no h.tab (by kernel_rfl))).trans t14)
    have q15 : b.tmps[15]?.getD undef = _ := (by simpa using (h.tab.old 15 (dst_no h.tab (by kernel_rfl))).trans t15)
    have q16 : b.tmps[16]?.getD undef = _ := (by simpa using (h.tab.old 16 (dst_no h.tab (by kernel_rfl))).trans t16)
    have q17 : b.tmps[17]?.getD undef = _ := (by simpa using (h.tab.old 17 (dst_no h.tab (by kernel_rfl))).trans t17)
    have q18 : b.tmps[18]?.getD undef = _ := (by simpa using (h.tab.old 18 (dst_no h.tab (by kernel_rfl))).trans t18)
    have q19 : b.tmps[19]?.getD undef = _ := (by simpa using (h.tab.old 19 (dst_no h.tab (by kernel_rfl))).trans t19)
    have q20 : b.tmps[20]?.getD undef = _ := (by simpa using (h.tab.old 20 (dst_no h.tab (by kernel_rfl))).trans t20)
    have E : ∀ (j s : Nat) (v : Value), dstOf _ j = some s → valrchk9 bA bn bc pb x ci ce a1 n1 c1 g1 a2 c2 a3 n3 c3 g3 a4 c4 ct cb j = v → listed.getD j false = true → b.tmps[s]?.getD undef = v := fun j s v h1 h2 h3 => by rw [← h2]; simpa using h.val j s h1 h3
    have U0 : ∀ y, oi.guard = none → Region.wanted oi y = true := fun y h => by simp [Region.wanted, h]
    have U : ∀ (j d : Nat) (g v : Bool), oi.guard = some (j, g) → dstOf _ j = some d → valrchk9 bA bn bc pb x ci ce a1 n1 c1 g1 a2 c2 a3 n3 c3 g3 a4 c4 ct cb j = .bool v → ⟨j, .guard⟩ ∈ oi.after → Region.wanted oi (yielded _ b.tmps) = (v == g) := fun j d g v h1 h2 h3 h4 => wanted_of h h1 h2 (hall _ h4 rfl) h3
    rcases (by omega : io = 0 ∨ io = 1 ∨ io = 2 ∨ io = 3 ∨ io = 4 ∨ io = 5 ∨ io = 6 ∨ io = 7 ∨ io = 8 ∨ io = 9 ∨ io = 10 ∨ io = 11 ∨ io = 12 ∨ io = 13 ∨ io = 14 ∨ io = 15 ∨ io = 16 ∨ io = 17 ∨ io = 18 ∨ io = 19 ∨ io = 20 ∨ io = 21 ∨ io = 22 ∨ io = 23 ∨ io = 24 ∨ io = 25 ∨ io = 26 ∨ io = 27 ∨ io = 28 ∨ io = 29 ∨ io = 30 ∨ io = 31 ∨ io = 32 ∨ io = 33 ∨ io = 34 ∨ io = 35 ∨ io = 36 ∨ io = 37 ∨ io = 38 ∨ io = 39 ∨ io = 40 ∨ io = 41 ∨ io = 42 ∨ io = 43 ∨ io = 44 ∨ io = 45) with rfl | rfl | rfl | rfl | rfl | rfl | rfl | rfl | rfl | rfl | rfl | rfl | rfl | rfl | rfl | rfl | rfl | rfl | rfl | rfl | rfl | rfl | rfl | rfl | rfl | rfl | rfl | rfl | rfl | rfl | rfl | rfl | rfl | rfl | rfl | rfl | rfl | rfl | rfl | rfl | rfl | rfl | rfl | rfl | rfl | rfl
    all_goals simp only [List.getElem?_toArray, List.getElem?_cons_zero, List.getElem?_cons_succ] at ho
    all_goals cases ho
    · rw [if_pos (U0 _ rfl)]
      clear E U U0
      refine wide_call (f := 22) (args := #[]) (by go_simp) ((H0 W h.glob).mono ?_)
      rintro e w' ⟨rfl, hb'⟩
      exact ⟨_, rfl, rfl, h.glob.trans (hb'.mono h.glob.size)⟩
    · rw [if_pos (U0 _ rfl)]
      have e0 := E 0 60 (.bool true) rfl rfl (hall ⟨0, .data⟩ (by simp) rfl)
      exact wide_val (v := .bool true) (by clear E U U0; go_simp; try rfl) ⟨rfl, h.glob⟩
    · rw [U 1 61 true true rfl rfl rfl (by simp), if_pos (show (true == true) = true from rfl)]
      exact wide_val (v := .int .i64 ci) (by clear E U U0; go_simp; try rfl) ⟨rfl, h.glob⟩
    · rw [U 1 61 true true rfl rfl rfl (by simp), if_pos (show (true == true) = true from rfl)]
      exact wide_val (v := .int .i64 ci) (by clear E U U0; go_simp; try rfl) ⟨rfl, h.glob⟩
    · rw [U 1 61 true true rfl rfl rfl (by simp), if_pos (show (true == true) = true from rfl)]
      have e2 := E 2 62 (.int .i64 ci) rfl rfl (hall ⟨2, .data⟩ (by simp) rfl)
      have e3 := E 3 63 (.int .i64 ci) rfl rfl (hall ⟨3, .data⟩ (by simp) rfl)
      exact wide_val (v := .bool true) (by clear E U U0; go_simp; try rfl) ⟨rfl, h.glob⟩
    · rw [if_pos (U0 _ rfl)]
      have e1 := E 1 61 (.bool true) rfl rfl (hall ⟨1, .data⟩ (by simp) rfl)
      have e4 := E 4 64 (.bool true) rfl rfl (hall ⟨4, .data⟩ (by simp) rfl)
      exact wide_val (v := .bool true) (by clear E U U0; go_simp; try rfl) ⟨rfl, h.glob⟩
    · rw [if_pos (U0 _ rfl)]
      have e5 := E 5 65 (.bool true) rfl rfl (hall ⟨5, .data⟩ (by simp) rfl)
      exact wide_val (v := .bool true) (by clear E U U0; go_simp; try rfl) ⟨rfl, h.glob⟩
    · rw [U 6 66 true true rfl rfl rfl (by simp), if_pos (show (true == true) = true from rfl)]
      exact wide_val (v := .int .i64 ce) (by clear E U U0; go_simp; try rfl) ⟨rfl, h.glob⟩
    · rw [U 6 66 true true rfl rfl rfl (by simp), if_pos (show (true == true) = true from rfl)]
      exact wide_val (v := .int .i64 ce) (by clear E U U0; go_simp; try rfl) ⟨rfl, h.glob⟩
    · rw [U 6 66 true true rfl rfl rfl (by simp), if_pos (show (true == true) = true from rfl)]
      have e7 := E 7 67 (.int .i64 ce) rfl rfl (hall ⟨7, .data⟩ (by simp) rfl)
      have e8 := E 8 68 (.int .i64 ce) rfl rfl (hall ⟨8, .data⟩ (by simp) rfl)
      exact wide_val (v := .bool true) (by clear E U U0; go_simp; try rfl) ⟨rfl, h.glob⟩
    · rw [if_pos (U0 _ rfl)]
      have e6 := E 6 66 (.bool true) rfl rfl (hall ⟨6, .data⟩ (by simp) rfl)
      have e9 := E 9 69 (.bool true) rfl rfl (hall ⟨9, .data⟩ (by simp) rfl)
      exact wide_val (v := .bool true) (by clear E U U0; go_simp; try rfl) ⟨rfl, h.glob⟩
    · rw [if_pos (U0 _ rfl)]
      have e10 := E 10 70 (.bool true) rfl rfl (hall ⟨10, .data⟩ (by simp) rfl)
      exact wide_val (v := .bool true) (by clear E U U0; go_simp; try rfl) ⟨rfl, h.glob⟩
    · rw [U 11 71 true true rfl rfl rfl (by simp), if_pos (show (true == true) = true from rfl)]
      exact wide_val (v := .int .i64 g1) (by clear E U U0; go_simp; try rfl) ⟨rfl, h.glob⟩
    · rw [U 11 71 true true rfl rfl rfl (by simp), if_pos (show (true == true) = true from rfl)]
      exact wide_val (v := .int .i64 g1) (by clear E U U0; go_simp; try rfl) ⟨rfl, h.glob⟩
    · rw [U 11 71 true true rfl rfl rfl (by simp), if_pos (show (true == true) = true from rfl)]
      have e12 := E 12 72 (.int .i64 g1) rfl rfl (hall ⟨12, .data⟩ (by simp) rfl)
      have e13 := E 13 73 (.int .i64 g1) rfl rfl (hall ⟨13, .data⟩ (by simp) rfl)
      exact wide_val (v := .bool true) (by clear E U U0; go_simp; try rfl) ⟨rfl, h.glob⟩
    · rw [if_pos (U0 _ rfl)]
      have e11 := E 11 71 (.bool true) rfl rfl (hall ⟨11, .data⟩ (by simp) rfl)
      have e14 := E 14 74 (.bool true) rfl rfl (hall ⟨14, .data⟩ (by simp) rfl)
      exact wide_val (v := .bool true) (by clear E U U0; go_simp; try rfl) ⟨rfl, h.glob⟩
    · rw [if_pos (U0 _ rfl)]
      have e15 := E 15 75 (.bool true) rfl rfl (hall ⟨15, .data⟩ (by simp) rfl)
      exact wide_val (v := .bool true) (by clear E U U0; go_simp; try rfl) ⟨rfl, h.glob⟩
    · rw [U 16 76 true true rfl rfl rfl (by simp), if_pos (show (true == true) = true from rfl)]
      exact wide_val (v := .int .i64 g3) (by clear E U U0; go_simp; try rfl) ⟨rfl, h.glob⟩
    · rw [U 16 76 true true rfl rfl rfl (by simp), if_pos (show (true == true) = true from rfl)]
      exact wide_val (v := .int .i64 g3) (by clear E U U0; go_simp; try rfl) ⟨rfl, h.glob⟩
    · rw [U 16 76 true true rfl rfl rfl (by simp), if_pos (show (true == true) = true from rfl)]
      have e17 := E 17 77 (.int .i64 g3) rfl rfl (hall ⟨17, .data⟩ (by simp) rfl)
      have e18 := E 18 78 (.int .i64 g3) rfl rfl (hall ⟨18, .data⟩ (by simp) rfl)
      exact wide_val (v := .bool true) (by clear E U U0; go_simp; try rfl) ⟨rfl, h.glob⟩
    · rw [if_pos (U0 _ rfl)]
      have e16 := E 16 76 (.bool true) rfl rfl (hall ⟨16, .data⟩ (by simp) rfl)
      have e19 := E 19 79 (.bool true) rfl rfl (hall ⟨19, .data⟩ (by simp) rfl)
      exact wide_val (v := .bool true) (by clear E U U0; go_simp; try rfl) ⟨rfl, h.glob⟩
    · rw [if_pos (U0 _ rfl)]
      have e20 := E 20 80 (.bool true) rfl rfl (hall ⟨20, .data⟩ (by simp) rfl)
      exact wide_val (v := .bool true) (by clear E U U0; go_simp; try rfl) ⟨rfl, h.glob⟩
    · rw [U 21 81 true true rfl rfl rfl (by simp), if_pos (show (true == true) = true from rfl)]
      exact wide_val (v := .slice a1 n1 c1) (by clear E U U0; go_simp; try rfl) ⟨rfl, h.glob⟩
    · rw [U 21 81 true true rfl rfl rfl (by simp), if_pos (show (true == true) = true from rfl)]
      exact wide_val (v := .slice a2 n1 c2) (by clear E U U0; go_simp; try rfl) ⟨rfl, h.glob⟩
    · rw [U 21 81 true true rfl rfl rfl (by simp), if_pos (show (true == true) = true from rfl)]
      have e22 := E 22 82 (.slice a1 n1 c1) rfl rfl (hall ⟨22, .data⟩ (by simp) rfl)
      have e23 := E 23 83 (.slice a2 n1 c2) rfl rfl (hall ⟨23, .data⟩ (by simp) rfl)
      clear E U U0
      refine wide_call (f := 47) (args := #[.slice a1 n1 c1, .slice a2 n1 c2]) (by go_simp <;> (try exact ⟨by simpa [Act.eval] using e22, by simpa [Act.eval] using e23⟩)) ((H1 W h.glob).mono ?_)
      rintro e w' ⟨rfl, hb'⟩
      exact ⟨_, rfl, rfl, h.glob.trans (hb'.mono h.glob.size)⟩
    · rw [if_pos (U0 _ rfl)]
      have e21 := E 21 81 (.bool true) rfl rfl (hall ⟨21, .data⟩ (by simp) rfl)
      have e24 := E 24 84 (.bool true) rfl rfl (hall ⟨24, .data⟩ (by simp) rfl)
      exact wide_val (v := .bool true) (by clear E U U0; go_simp; try rfl) ⟨rfl, h.glob⟩
    · rw [if_pos (U0 _ rfl)]
      have e25 := E 25 85 (.bool true) rfl rfl (hall ⟨25, .data⟩ (by simp) rfl)
      exact wide_val (v := .bool true) (by clear E U U0; go_simp; try rfl) ⟨rfl, h.glob⟩
    · rw [U 26 86 true true rfl rfl rfl (by simp), if_pos (show (true == true) = true from rfl)]
      exact wide_val (v := .slice a3 n3 c3) (by clear E U U0; go_simp; try rfl) ⟨rfl, h.glob⟩
    · rw [U 26 86 true true rfl rfl rfl (by simp), if_pos (show (true == true) = true from rfl)]
      exact wide_val (v := .slice a4 n3 c4) (by clear E U U0; go_simp; try rfl) ⟨rfl, h.glob⟩
    · rw [U 26 86 true true rfl rfl rfl (by simp), if_pos (show (true == true) = true from rfl)]
      have e27 := E 27 87 (.slice a3 n3 c3) rfl rfl (hall ⟨27, .data⟩ (by simp) rfl)
      have e28 := E 28 88 (.slice a4 n3 c4) rfl rfl (hall ⟨28, .data⟩ (by simp) rfl)
      clear E U U0
      refine wide_call (f := 47) (args := #[.slice a3 n3 c3, .slice a4 n3 c4]) (by go_simp <;> (try exact ⟨by simpa [Act.eval] using e27, by simpa [Act.eval] using e28⟩)) ((H2 W h.glob).mono ?_)
      rintro e w' ⟨rfl, hb'⟩
      exact ⟨_, rfl, rfl, h.glob.trans (hb'.mono h.glob.size)⟩
    · rw [if_pos (U0 _ rfl)]
      have e26 := E 26 86 (.bool true) rfl rfl (hall ⟨26, .data⟩ (by simp) rfl)
      have e29 := E 29 89 (.bool true) rfl rfl (hall ⟨29, .data⟩ (by simp) rfl)
      exact wide_val (v := .bool true) (by clear E U U0; go_simp; try rfl) ⟨rfl, h.glob⟩
    · rw [if_pos (U0 _ rfl)]
      have e30 := E 30 90 (.bool true) rfl rfl (hall ⟨30, .data⟩ (by simp) rfl)
      exact wide_val (v := .bool true) (by clear E U U0; go_simp; try rfl) ⟨rfl, h.glob⟩
    · rw [U 31 91 true true rfl rfl rfl (by simp), if_pos (show (true == true) = true from rfl)]
      exact wide_val (v := .agg #[.int .i64 x.id, .int .i64 x.known, .int .u8 (x.kind), .int .i64 x.pit, .int .i64 x.layer, .int .i64 x.lower, .int .i64 x.low, .int .i64 x.high, .int .i64 x.cost, .int .i64 x.void]) (by clear E U U0; go_simp; try rfl) ⟨rfl, h.glob⟩
    · rw [U 31 91 true true rfl rfl rfl (by simp), if_pos (show (true == true) = true from rfl)]
      have e32 := E 32 92 (.agg #[.int .i64 x.id, .int .i64 x.known, .int .u8 (x.kind), .int .i64 x.pit, .int .i64 x.layer, .int .i64 x.lower, .int .i64 x.low, .int .i64 x.high, .int .i64 x.cost, .int .i64 x.void]) rfl rfl (hall ⟨32, .data⟩ (by simp) rfl)
      clear E U U0
      refine wide_call (f := 48) (args := #[.agg #[.int .i64 x.id, .int .i64 x.known, .int .u8 x.kind, .int .i64 x.pit, .int .i64 x.layer, .int .i64 x.lower, .int .i64 x.low, .int .i64 x.high, .int .i64 x.cost, .int .i64 x.void]]) (by go_simp <;> (try simpa [Act.eval] using e32)) ((H3 W h.glob).mono ?_)
      rintro e w' ⟨rfl, hb'⟩
      exact ⟨_, rfl, rfl, h.glob.trans (hb'.mono h.glob.size)⟩
    · rw [U 31 91 true true rfl rfl rfl (by simp), if_pos (show (true == true) = true from rfl)]
      exact wide_val (v := .agg #[.int .i64 x.id, .int .i64 x.known, .int .u8 (x.kind), .int .i64 x.pit, .int .i64 x.layer, .int .i64 x.lower, .int .i64 x.low, .int .i64 x.high, .int .i64 x.cost, .int .i64 x.void]) (by clear E U U0; go_simp; try rfl) ⟨rfl, h.glob⟩
    · rw [U 31 91 true true rfl rfl rfl (by simp), if_pos (show (true == true) = true from rfl)]
      have e34 := E 34 94 (.agg #[.int .i64 x.id, .int .i64 x.known, .int .u8 (x.kind), .int .i64 x.pit, .int .i64 x.layer, .int .i64 x.lower, .int .i64 x.low, .int .i64 x.high, .int .i64 x.cost, .int .i64 x.void]) rfl rfl (hall ⟨34, .data⟩ (by simp) rfl)
      clear E U U0
      refine wide_call (f := 49) (args := #[.agg #[.int .i64 x.id, .int .i64 x.known, .int .u8 x.kind, .int .i64 x.pit, .int .i64 x.layer, .int .i64 x.lower, .int .i64 x.low, .int .i64 x.high, .int .i64 x.cost, .int .i64 x.void]]) (by go_simp <;> (try simpa [Act.eval] using e34)) ((H4 W h.glob).mono ?_)
      rintro e w' ⟨rfl, hb'⟩
      exact ⟨_, rfl, rfl, h.glob.trans (hb'.mono h.glob.size)⟩
    · rw [U 31 91 true true rfl rfl rfl (by simp), if_pos (show (true == true) = true from rfl)]
      have e33 := E 33 93 (.int .i64 ct) rfl rfl (hall ⟨33, .data⟩ (by simp) rfl)
      have e35 := E 35 95 (.int .i64 ct) rfl rfl (hall ⟨35, .data⟩ (by simp) rfl)
      exact wide_val (v := .bool true) (by clear E U U0; go_simp; try rfl) ⟨rfl, h.glob⟩
    · rw [if_pos (U0 _ rfl)]
      have e31 := E 31 91 (.bool true) rfl rfl (hall ⟨31, .data⟩ (by simp) rfl)
      have e36 := E 36 96 (.bool true) rfl rfl (hall ⟨36, .data⟩ (by simp) rfl)
      exact wide_val (v := .bool true) (by clear E U U0; go_simp; try rfl) ⟨rfl, h.glob⟩
    · rw [if_pos (U0 _ rfl)]
      have e37 := E 37 97 (.bool true) rfl rfl (hall ⟨37, .data⟩ (by simp) rfl)
      exact wide_val (v := .bool true) (by clear E U U0; go_simp; try rfl) ⟨rfl, h.glob⟩
    · rw [U 38 98 true true rfl rfl rfl (by simp), if_pos (show (true == true) = true from rfl)]
      exact wide_val (v := .slice bA bn bc) (by clear E U U0; go_simp; try rfl) ⟨rfl, h.glob⟩
    · rw [U 38 98 true true rfl rfl rfl (by simp), if_pos (show (true == true) = true from rfl)]
      have e39 := E 39 99 (.slice bA bn bc) rfl rfl (hall ⟨39, .data⟩ (by simp) rfl)
      clear E U U0
      refine wide_call (f := 50) (args := #[.slice bA bn bc]) (by go_simp <;> (try simpa [Act.eval] using e39)) ((H5 W h.glob).mono ?_)
      rintro e w' ⟨rfl, hb'⟩
      exact ⟨_, rfl, rfl, h.glob.trans (hb'.mono h.glob.size)⟩
    · rw [U 38 98 true true rfl rfl rfl (by simp), if_pos (show (true == true) = true from rfl)]
      exact wide_val (v := .slice bA bn bc) (by clear E U U0; go_simp; try rfl) ⟨rfl, h.glob⟩
    · rw [U 38 98 true true rfl rfl rfl (by simp), if_pos (show (true == true) = true from rfl)]
      have e41 := E 41 101 (.slice bA bn bc) rfl rfl (hall ⟨41, .data⟩ (by simp) rfl)
      clear E U U0
      refine wide_call (f := 51) (args := #[.slice bA bn bc]) (by go_simp <;> (try simpa [Act.eval] using e41)) ((H6 W h.glob).mono ?_)
      rintro e w' ⟨rfl, hb'⟩
      exact ⟨_, rfl, rfl, h.glob.trans (hb'.mono h.glob.size)⟩
    · rw [U 38 98 true true rfl rfl rfl (by simp), if_pos (show (true == true) = true from rfl)]
      have e40 := E 40 100 (.int .i64 cb) rfl rfl (hall ⟨40, .data⟩ (by simp) rfl)
      have e42 := E 42 102 (.int .i64 cb) rfl rfl (hall ⟨42, .data⟩ (by simp) rfl)
      exact wide_val (v := .bool true) (by clear E U U0; go_simp; try rfl) ⟨rfl, h.glob⟩
    · rw [if_pos (U0 _ rfl)]
      have e38 := E 38 98 (.bool true) rfl rfl (hall ⟨38, .data⟩ (by simp) rfl)
      have e43 := E 43 103 (.bool true) rfl rfl (hall ⟨43, .data⟩ (by simp) rfl)
      exact wide_val (v := .bool true) (by clear E U U0; go_simp; try rfl) ⟨rfl, h.glob⟩
    · rw [if_pos (U0 _ rfl)]
      have e44 := E 44 104 (.bool true) rfl rfl (hall ⟨44, .data⟩ (by simp) rfl)
      exact wide_val (v := .bool true) (by clear E U U0; go_simp; try rfl) ⟨rfl, h.glob⟩
  · intro W hg
    have := hQ W hg
    simp only [List.size_toArray, bareL, bare, List.map_cons, List.map_nil, List.length_cons, List.length_nil, Nat.reduceAdd, framed, dstOf, List.getElem?_toArray, List.getElem?_cons_zero, List.getElem?_cons_succ, Option.bind_some, valrchk9]
    exact this
end Go.Proofs.YtelnkflmnbhclaaGreat
end

/- What is proved: the walk of the law StratumChecks. Conditions: as said. -/
section
namespace Go.Proofs.YtelnkflmnbhclaaGreat
open Go.RowKit Go.Proofs Go.Shelf

set_option maxRecDepth 100000 in
set_option maxHeartbeats 8000000 in
theorem stratumChecks_of (lA : Option Addr) (ln lc : Nat) (l : List Trace) (hl0 : l.length = ln) (x : Trace) (bA : Option Addr) (bn bc : Nat) (b : List Bond) (hb0 : b.length = bn) (known : Int) (w : World) (rl : ln ≤ 17592186044416 → Rd encTrace 10 w lA ln lc l) (rb : bn ≤ 17592186044416 → Rd encBond 5 w bA bn bc b) :
    Calls Tryz.prog 9 #[.slice lA ln lc, .agg #[.int .i64 x.id, .int .i64 x.known, .int .u8 x.kind, .int .i64 x.pit, .int .i64 x.layer, .int .i64 x.lower, .int .i64 x.low, .int .i64 x.high, .int .i64 x.cost, .int .i64 x.void], .slice bA bn bc, .int .i64 known] w fun e w' => e = .returned (.bool true) ∧ Below w.heap.size w w' := by
  obtain ⟨w1, hw1⟩ : ∃ w1, w.alloc (.cells #[.int .i64 x.id, .int .i64 x.known, .int .u8 x.kind, .int .i64 x.pit, .int .i64 x.layer, .int .i64 x.lower, .int .i64 x.low, .int .i64 x.high, .int .i64 x.cost, .int .i64 x.void] 25) = w1 := ⟨_, rfl⟩
  have hb1 : Below w.heap.size w w1 := (by rw [← hw1]; exact (Below.refl _ w).alloc (Nat.le_refl _) _)
  have hz1 : w1.heap.size = w.heap.size + 1 := (by rw [← hw1]; simp)
  have hrx : w1.heap[w.heap.size]? = some (.cells #[.int .i64 x.id, .int .i64 x.known, .int .u8 x.kind, .int .i64 x.pit, .int .i64 x.layer, .int .i64 x.lower, .int .i64 x.low, .int .i64 x.high, .int .i64 x.cost, .int .i64 x.void] 25 (0, 0)) := (by rw [← hw1]; exact heap_alloc_new w _)
  have CX : Hid (∀ W, Below w1.heap.size w1 W → W.cell? ⟨w.heap.size, 0, none⟩ = some (.int .i64 x.id) ∧ W.cell? ⟨w.heap.size, 1, none⟩ = some (.int .i64 x.known) ∧ W.cell? ⟨w.heap.size, 2, none⟩ = some (.int .u8 x.kind) ∧ W.cell? ⟨w.heap.size, 3, none⟩ = some (.int .i64 x.pit) ∧ W.cell? ⟨w.heap.size, 4, none⟩ = some (.int .i64 x.layer) ∧ W.cell? ⟨w.heap.size, 5, none⟩ = some (.int .i64 x.lower) ∧ W.cell? ⟨w.heap.size, 6, none⟩ = some (.int .i64 x.low) ∧ W.cell? ⟨w.heap.size, 7, none⟩ = some (.int .i64 x.high) ∧ W.cell? ⟨w.heap.size, 8, none⟩ = some (.int .i64 x.cost) ∧ W.cell? ⟨w.heap.size, 9, none⟩ = some (.int .i64 x.void)) := (show ∀ W, Below w1.heap.size w1 W → _ from fun W hb => by
    have := (hb.block _ (by omega)).trans hrx
    simp [World.cell?, this])
  clear hrx
  have HDUG := Lib.hid dug_any
  cases hfew : fewB ln bn 40 with
  | false =>
    have HF := Lib.hid hfew
    clear hfew rl rb hl0 hb0
    go_enter Tryz.func9, Tryz.ntmps9
    go_wp2_with (first
      | (go_at_call 23; (with_reducible refine (few_any _ _ _ _ _ _ _ _).mono ?_); rintro e w2 ⟨rfl, rfl⟩; rw [HF.out])
      | (go_at_call 22; (with_reducible refine (HDUG.out _).mono ?_); rintro e w7 ⟨rfl, hb7⟩; have HB7 := Lib.hid hb7; clear hb7))
    go_ret
    exact ⟨rfl, hb1.trans (HB7.out.mono (by omega))⟩
  | true =>
    obtain ⟨hn, hm⟩ := fewB_small hfew (by decide)
    have HF := Lib.hid hfew
    have RL : Hid (∀ W, Below w1.heap.size w1 W → Rd encTrace 10 W lA ln lc l) := (show ∀ W, Below w1.heap.size w1 W → Rd encTrace 10 W lA ln lc l from fun W h => (rl (by omega)).below (hb1.trans (h.mono (by omega))) (Nat.le_refl _))
    have RB : Hid (∀ W, Below w1.heap.size w1 W → Rd encBond 5 W bA bn bc b) := (show ∀ W, Below w1.heap.size w1 W → Rd encBond 5 W bA bn bc b from fun W h => (rb (by omega)).below (hb1.trans (h.mono (by omega))) (Nat.le_refl _))
    have HB1 := Lib.hid (Below.refl w1.heap.size w1)
    have hap : (appendV l x).1.length ≤ 144 := by
      unfold appendV
      split
      · simp
      · split <;> simp <;> omega
    have hco : (countingV l known).1.length ≤ 144 := by
      unfold countingV
      split
      · simp
      · have := List.length_filter_le (fun x => !pc l known x) l
        unfold counting
        simp only; omega
    clear hfew rl rb hl0 hb0
    obtain ⟨⟨ci, ce⟩, hck⟩ : ∃ q, check l = q := ⟨_, rfl⟩
    obtain ⟨⟨pl, g1⟩, hP⟩ : ∃ q, appendV l x = q := ⟨_, rfl⟩
    obtain ⟨⟨cl, g3⟩, hC⟩ : ∃ q, countingV l known = q := ⟨_, rfl⟩
    rw [hP] at hap
    rw [hC] at hco
    have K1 : Hid (∀ W, Below w1.heap.size w1 W → Calls Tryz.prog 42 #[.slice lA ln lc] W fun e' w' => e' = .returned (.tuple #[.int .i64 ci, .int .i64 ce]) ∧ Below W.heap.size W w') :=
      (show ∀ W, Below w1.heap.size w1 W → _ from fun W h => by have := Check_any lA ln lc l W (RL.out W h); rw [hck] at this; exact this)
    have K2 : Hid (∀ W, Below w1.heap.size w1 W → Calls Tryz.prog 43 #[.slice lA ln lc] W fun e' w' => e' = .returned (.tuple #[.int .i64 ci, .int .i64 ce]) ∧ Below W.heap.size W w') :=
      (show ∀ W, Below w1.heap.size w1 W → _ from fun W h => by have := rCheck_any lA ln lc l W (RL.out W h); rw [hck] at this; exact this)
    have K3 : Hid (∀ W, Below w1.heap.size w1 W → Calls Tryz.prog 36 #[.slice lA ln lc, .agg #[.int .i64 x.id, .int .i64 x.known, .int .u8 x.kind, .int .i64 x.pit, .int .i64 x.layer, .int .i64 x.lower, .int .i64 x.low, .int .i64 x.high, .int .i64 x.cost, .int .i64 x.void]] W fun e' w' => ∃ A' c', e' = .returned (.tuple #[.slice A' pl.length c', .int .i64 g1]) ∧ Below W.heap.size W w' ∧ Own encTrace 10 25 W.heap.size w' A' pl.length c' pl) :=
      (show ∀ W, Below w1.heap.size w1 W → _ from fun W h => by have := Append_any lA ln lc l x W (RL.out W h); rw [hP] at this; exact this)
    have K4 : Hid (∀ W, Below w1.heap.size w1 W → Calls Tryz.prog 44 #[.slice lA ln lc, .agg #[.int .i64 x.id, .int .i64 x.known, .int .u8 x.kind, .int .i64 x.pit, .int .i64 x.layer, .int .i64 x.lower, .int .i64 x.low, .int .i64 x.high, .int .i64 x.cost, .int .i64 x.void]] W fun e' w' => ∃ A' c', e' = .returned (.tuple #[.slice A' pl.length c', .int .i64 g1]) ∧ Below W.heap.size W w' ∧ Own encTrace 10 25 W.heap.size w' A' pl.length c' pl) :=
      (show ∀ W, Below w1.heap.size w1 W → _ from fun W h => by have := rAppend_any lA ln lc l x W (RL.out W h); rw [hP] at this; exact this)
    have K5 : Hid (∀ W, Below w1.heap.size w1 W → Calls Tryz.prog 45 #[.slice lA ln lc, .int .i64 known] W fun e' w' => ∃ A' m c', e' = .returned (.tuple #[.slice A' m c', .int .i64 g3]) ∧ Below W.heap.size W w' ∧ Own encTrace 10 25 W.heap.size w' A' m c' cl) :=
      (show ∀ W, Below w1.heap.size w1 W → _ from fun W h => by have := Counting_any lA ln lc l known W (RL.out W h); rw [hC] at this; exact this)
    have K6 : Hid (∀ W, Below w1.heap.size w1 W → Calls Tryz.prog 46 #[.slice lA ln lc, .int .i64 known] W fun e' w' => ∃ A' m c', e' = .returned (.tuple #[.slice A' m c', .int .i64 g3]) ∧ Below W.heap.size W w' ∧ Own encTrace 10 25 W.heap.size w' A' m c' cl) :=
      (show ∀ W, Below w1.heap.size w1 W → _ from fun W h => by have := rCounting_any lA ln lc l known W (RL.out W h); rw [hC] at this; exact this)
    clear hck hP hC
    go_enter Tryz.func9, Tryz.ntmps9
    go_upto_region 9 with (first
      | (go_at_call 23; (with_reducible refine (few_any _ _ _ _ _ _ _ _).mono ?_); rintro e w2 ⟨rfl, hw2⟩; obtain rfl := hw2.symm; rw [HF.out])
      | (go_at_call 42; (with_reducible refine (K1.out _ HB1.out).mono ?_); rintro e w2 ⟨rfl, hb2⟩
         have HB2 := Lib.hid hb2
         clear hb2)
      | (go_at_call 43; (with_reducible refine (K2.out _ HB2.out).mono ?_); rintro e w3 ⟨rfl, hb3⟩
         have HB3 := Lib.hid (HB2.out.trans (hb3.mono HB2.out.size))
         clear hb3
         obtain ⟨c0, c1, c2, c3, c4, c5, c6, c7, c8, c9⟩ := CX.out _ HB3.out)
      | (go_at_call 36; (with_reducible refine (K3.out _ HB3.out).mono ?_); rintro e w4 ⟨A4, cc4, rfl, hb4, hO4⟩
         have HB4 := Lib.hid (HB3.out.trans (hb4.mono HB3.out.size))
         have HO4 := Lib.hid hO4
         clear hb4 hO4 c0 c1 c2 c3 c4 c5 c6 c7 c8 c9
         obtain ⟨c0, c1, c2, c3, c4, c5, c6, c7, c8, c9⟩ := CX.out _ HB4.out)
      | (go_at_call 44; (with_reducible refine (K4.out _ HB4.out).mono ?_); rintro e w5 ⟨A5, cc5, rfl, hb5, hO5⟩
         have HB5 := Lib.hid (HB4.out.trans (hb5.mono HB4.out.size))
         have HO5 := Lib.hid hO5
         have HO4' := Lib.hid (HO4.out.below hb5 (Nat.le_refl _))
         clear hb5 hO5 HO4 c0 c1 c2 c3 c4 c5 c6 c7 c8 c9)
      | (go_at_call 45; (with_reducible refine (K5.out _ HB5.out).mono ?_); rintro e w6 ⟨A6, m6, cc6, rfl, hb6, hO6⟩
         have HB6 := Lib.hid (HB5.out.trans (hb6.mono HB5.out.size))
         have hm6 : m6 = cl.length := hO6.len.symm
         subst hm6
         have HO6 := Lib.hid hO6
         have HO4'' := Lib.hid (HO4'.out.below hb6 (Nat.le_refl _))
         have HO5' := Lib.hid (HO5.out.below hb6 (Nat.le_refl _))
         clear hb6 hO6 HO4' HO5)
      | (go_at_call 46; (with_reducible refine (K6.out _ HB6.out).mono ?_); rintro e w7 ⟨A7, m7, cc7, rfl, hb7, hO7⟩
         have HB7 := Lib.hid (HB6.out.trans (hb7.mono HB6.out.size))
         have hm7 : m7 = cl.length := hO7.len.symm
         subst hm7
         have HO7 := Lib.hid hO7
         have HP4 := Lib.hid ((HO4''.out.below hb7 (Nat.le_refl _)).rd (fun _ => rfl) (by omega))
         have HP5 := Lib.hid ((HO5'.out.below hb7 (Nat.le_refl _)).rd (fun _ => rfl) (by omega))
         have HP6 := Lib.hid ((HO6.out.below hb7 (Nat.le_refl _)).rd (fun _ => rfl) (by omega))
         have HP7 := Lib.hid (hO7.rd (fun _ => rfl) (by omega))
         clear hb7 hO7 HO4'' HO5' HO6 HO7))
    have hz7 := HB7.out.size
    refine rchk9 _ rfl bA bn bc w.heap.size x ci ce A4 pl.length cc4 g1 A5 cc5 A6 cl.length cc6 g3 A7 cc7 (checkTrace x) (checkBonds b) _ w7 _ rfl rfl rfl rfl rfl rfl rfl rfl rfl rfl rfl rfl rfl rfl rfl
      (fun W h => CX.out W (HB7.out.trans (h.mono hz7)))
      (fun W _ => HDUG.out W)
      (fun W h => rSame_refl _ _ _ _ _ pl W (HP4.out.below h (Nat.le_refl _)) (HP5.out.below h (Nat.le_refl _)))
      (fun W h => rSame_refl _ _ _ _ _ cl W (HP6.out.below h (Nat.le_refl _)) (HP7.out.below h (Nat.le_refl _)))
      (fun W _ => CheckTrace_any x.id x.known x.kind x.pit x.layer x.lower x.low x.high x.cost x.void W)
      (fun W _ => rCheckTrace_any x.id x.known x.kind x.pit x.layer x.lower x.low x.high x.cost x.void W)
      (fun W h => CheckBonds_any bA bn bc b W (RB.out W (HB7.out.trans (h.mono hz7))))
      (fun W h => rCheckBonds_any bA bn bc b W (RB.out W (HB7.out.trans (h.mono hz7)))) ?_
    intro w8 hb8
    have HB8 := Lib.hid hb8
    clear hb8
    simp only [List.setIfInBounds_toArray, List.set_cons_succ, List.set_cons_zero]
    go_wp2
    go_ret
    exact ⟨rfl, hb1.trans ((HB7.out.trans (HB8.out.mono hz7)).mono (by omega))⟩
end Go.Proofs.YtelnkflmnbhclaaGreat
end

/- Contracts that the laws lean on: OrdR, OrdL. -/
import Derived.Test.YtelnkflmnbhclaaGreatH01
import Derived.Test.YtelnkflmnbhclaaGreatH04
import Derived.Test.YtelnkflmnbhclaaGreatH02
import Derived.Test.YtelnkflmnbhclaaGreatG47
import Derived.Deep.DeepCutAuto
/- What is proved: the drawn regions of the law StratumOrder that call Between. Conditions: none. -/
section
namespace Go.Proofs.YtelnkflmnbhclaaGreat
open Go.RowKit Go.Proofs

def coderord15 : Option Code → Code
  | some (.seq _ (.seq _ (.seq _ (.seq _ (.seq _ (.seq _ (.seq _ (.seq _ (.seq _ (.seq (.seq _ (.block _ (.loop (.seq _ (.seq (.block _ (.seq c _)) _))))) _)))))))))) => c
  | _ => .skip
def valrord15 (lA : Option Addr) (ln lc : Nat) (known : Int) (bA : Option Addr) (bn bc g N c6 k _ _ : Nat) (sA : Option Addr) (sn sc : Nat) (fa fc : Place) (vi : Int) (bi : Bool) : Nat → Value
  | 0 => .slice lA ln lc
  | 1 => .int .i64 known
  | 2 => .slice bA bn bc
  | 3 => .slice (some ⟨g, 0, none⟩) N c6
  | 4 => .int .i64 k
  | 5 => .pointer (some ⟨g, k, none⟩)
  | 6 => .slice sA sn sc
  | 7 => .agg #[.int .i64 fc.pit, .int .i64 fc.layer]
  | 8 => .agg #[.int .i64 fa.pit, .int .i64 fa.layer]
  | 9 => .tuple #[.int .i64 vi, .bool bi, .int .i64 0]
  | 10 => .tuple #[.int .i64 vi, .bool bi, .int .i64 0]
  | 11 => .int .i64 vi
  | 12 => .bool (bi)
  | 13 => .int .i64 0
  | 14 => .int .i64 vi
  | 15 => .bool (bi)
  | 16 => .int .i64 0
  | _ => undef
set_option maxRecDepth 100000 in
set_option maxHeartbeats 4000000 in
theorem rord15 (c0 : Code) (hc : c0 = coderord15 Tryz.f8.body) (lA : Option Addr) (ln lc : Nat) (known : Int) (bA : Option Addr) (bn bc g N c6 k pa pc : Nat) (sA : Option Addr) (sn sc : Nat) (fa fc : Place) (vi : Int) (bi : Bool) (a : Act) (w : World) (Q : Exit → Act → World → Prop)
    (hT : a.tmps.size = 159) (t0 : a.tmps.getD 0 undef = .slice lA ln lc) (t1 : a.tmps.getD 1 undef = .int .i64 known) (t2 : a.tmps.getD 2 undef = .slice bA bn bc) (t8 : a.tmps.getD 8 undef = .pointer (some ⟨pa, 0, none⟩)) (t9 : a.tmps.getD 9 undef = .pointer (some ⟨pc, 0, none⟩)) (t15 : a.tmps.getD 15 undef = .slice (some ⟨g, 0, none⟩) N c6) (t19 : a.tmps.getD 19 undef = .int .i64 k)
    (KE : ∀ W, Below w.heap.size w W → W.cell? ⟨g, k, none⟩ = some (.slice sA sn sc) ∧ W.cell? ⟨pa, 0, none⟩ = some (.int .i64 fa.pit) ∧ W.cell? ⟨pa, 1, none⟩ = some (.int .i64 fa.layer) ∧ W.cell? ⟨pc, 0, none⟩ = some (.int .i64 fc.pit) ∧ W.cell? ⟨pc, 1, none⟩ = some (.int .i64 fc.layer)) (hkN : k < N) (HC : ∀ W, Below w.heap.size w W → Calls Tryz.prog 41 #[.slice lA ln lc, .int .i64 known, .slice bA bn bc, .slice sA sn sc, .agg #[.int .i64 fc.pit, .int .i64 fc.layer], .agg #[.int .i64 fa.pit, .int .i64 fa.layer]] W fun e' w' => e' = .returned (.tuple #[.int .i64 vi, .bool bi, .int .i64 0]) ∧ Below W.heap.size W w')
    (hQ : ∀ W, (fun W => Below w.heap.size w W) W → Q .normal { tmps := (((((((((((((((((a.tmps.setIfInBounds 89 (.slice lA ln lc)).setIfInBounds 90 (.int .i64 known)).setIfInBounds 91 (.slice bA bn bc)).setIfInBounds 92 (.slice (some ⟨g, 0, none⟩) N c6)).setIfInBounds 93 (.int .i64 k)).setIfInBounds 94 (.pointer (some ⟨g, k, none⟩))).setIfInBounds 95 (.slice sA sn sc)).setIfInBounds 96 (.agg #[.int .i64 fc.pit, .int .i64 fc.layer])).setIfInBounds 97 (.agg #[.int .i64 fa.pit, .int .i64 fa.layer])).setIfInBounds 98 (.tuple #[.int .i64 vi, .bool bi, .int .i64 0])).setIfInBounds 88 (.tuple #[.int .i64 vi, .bool bi, .int .i64 0])).setIfInBounds 99 (.int .i64 vi)).setIfInBounds 100 (.bool (bi))).setIfInBounds 101 (.int .i64 0)).setIfInBounds 20 (.int .i64 vi)).setIfInBounds 21 (.bool (bi))).setIfInBounds 22 (.int .i64 0)), defers := a.defers } W) :
    c0.wp Tryz.prog Q a w := by
  subst hc
  unfold coderord15 Tryz.f8
  dsimp only
  refine wpIn_wide.1 (wpIn_region_vals (nn := 5) 159 (by kernel_rfl) (by kernel_rfl) hT.symm (valrord15 lA ln lc known bA bn bc g N c6 k pa pc sA sn sc fa fc vi bi) (fun W => Below w.heap.size w W) ((Below.refl _ _).drew) ?_ ?_)
  · intro listed i o b W hi ho h
    obtain ⟨k0, k1, k2, k3, k4⟩ := KE W h.glob
    clear hQ
    obtain ⟨hun, oi, hoi, hall⟩ := mem_ready.1 hi
    have : oi = o := Option.some.inj (hoi.symm.trans ho)
    subst this
    clear hoi hi
    have hlt : i < 17 := (by have := (Array.getElem?_eq_some_iff.1 ho).1; simpa using this)
    have hun' : listed.getD i false = false := getD_both hun
    rcases (by omega : i = 0 ∨ i = 1 ∨ i = 2 ∨ i = 3 ∨ i = 4 ∨ i = 5 ∨ i = 6 ∨ i = 7 ∨ i = 8 ∨ i = 9 ∨ i = 10 ∨ i = 11 ∨ i = 12 ∨ i = 13 ∨ i = 14 ∨ i = 15 ∨ i = 16) with rfl | rfl | rfl | rfl | rfl | rfl | rfl | rfl | rfl | rfl | rfl | rfl | rfl | rfl | rfl | rfl | rfl
    all_goals simp only [List.getElem?_toArray, List.getElem?_cons_zero, List.getElem?_cons_succ] at ho
    all_goals cases ho
    · -- 0
      rw [if_pos (show Region.wanted _ _ = true from rfl)]
      have q0 := (h.tab.old 0 (dst_no h.tab (by kernel_rfl))).trans t0
      have q0' : b.tmps[0]?.getD undef = _ := (by simpa using q0)
      refine wide_val (v := .slice lA ln lc) (by go_simp; try rfl) ⟨rfl, h.glob⟩
    · -- 1
      rw [if_pos (show Region.wanted _ _ = true from rfl)]
      have q1 := (h.tab.old 1 (dst_no h.tab (by kernel_rfl))).trans t1
      have q1' : b.tmps[1]?.getD undef = _ := (by simpa using q1)
      refine wide_val (v := .int .i64 known) (by go_simp; try rfl) ⟨rfl, h.glob⟩
    · -- 2
      rw [if_pos (show Region.wanted _ _ = true from rfl)]
      have q2 := (h.tab.old 2 (dst_no h.tab (by kernel_rfl))).trans t2
      have q2' : b.tmps[2]?.getD undef = _ := (by simpa using q2)
      refine wide_val (v := .slice bA bn bc) (by go_simp; try rfl) ⟨rfl, h.glob⟩
    · -- 3
      rw [if_pos (show Region.wanted _ _ = true from rfl)]
      have q15 := (h.tab.old 15 (dst_no h.tab (by kernel_rfl))).trans t15
      have q15' : b.tmps[15]?.getD undef = _ := (by simpa using q15)
      refine wide_val (v := .slice (some ⟨g, 0, none⟩) N c6) (by go_simp; try rfl) ⟨rfl, h.glob⟩
    · -- 4
      rw [if_pos (show Region.wanted _ _ = true from rfl)]
      have q19 := (h.tab.old 19 (dst_no h.tab (by kernel_rfl))).trans t19
      have q19' : b.tmps[19]?.getD undef = _ := (by simpa using q19)
      refine wide_val (v := .int .i64 k) (by go_simp; try rfl) ⟨rfl, h.glob⟩
    · -- 5
      rw [if_pos (show Region.wanted _ _ = true from rfl)]
      have l3 := hall ⟨3, .data⟩ (by simp) rfl
      have e3 : b.tmps.getD 92 undef = .slice (some ⟨g, 0, none⟩) N c6 := h.val 3 92 rfl l3
      have e3' : b.tmps[92]?.getD undef = .slice (some ⟨g, 0, none⟩) N c6 := (by simpa using e3)
      have l4 := hall ⟨4, .data⟩ (by simp) rfl
      have e4 : b.tmps.getD 93 undef = .int .i64 k := h.val 4 93 rfl l4
      have e4' : b.tmps[93]?.getD undef = .int .i64 k := (by simpa using e4)
      refine wide_val (v := .pointer (some ⟨g, k, none⟩)) (by go_simp; try rfl) ⟨rfl, h.glob⟩
    · -- 6
      rw [if_pos (show Region.wanted _ _ = true from rfl)]
      have l5 := hall ⟨5, .data⟩ (by simp) rfl
      have e5 : b.tmps.getD 94 undef = .pointer (some ⟨g, k, none⟩) := h.val 5 94 rfl l5
      have e5' : b.tmps[94]?.getD undef = .pointer (some ⟨g, k, none⟩) := (by simpa using e5)
      refine wide_val (v := .slice sA sn sc) (by go_simp; try rfl) ⟨rfl, h.glob⟩
    · -- 7
      rw [if_pos (show Region.wanted _ _ = true from rfl)]
      have q9 := (h.tab.old 9 (dst_no h.tab (by kernel_rfl))).trans t9
      have q9' : b.tmps[9]?.getD undef = _ := (by simpa using q9)
      refine wide_val (v := .agg #[.int .i64 fc.pit, .int .i64 fc.layer]) (by go_simp; try rfl) ⟨rfl, h.glob⟩
    · -- 8
      rw [if_pos (show Region.wanted _ _ = true from rfl)]
      have q8 := (h.tab.old 8 (dst_no h.tab (by kernel_rfl))).trans t8
      have q8' : b.tmps[8]?.getD undef = _ := (by simpa using q8)
      refine wide_val (v := .agg #[.int .i64 fa.pit, .int .i64 fa.layer]) (by go_simp; try rfl) ⟨rfl, h.glob⟩
    · -- 9
      rw [if_pos (show Region.wanted _ _ = true from rfl)]
      have l0 := hall ⟨0, .data⟩ (by simp) rfl
      have e0 : b.tmps.getD 89 undef = .slice lA ln lc := h.val 0 89 rfl l0
      have e0' : b.tmps[89]?.getD undef = .slice lA ln lc := (by simpa using e0)
      have l1 := hall ⟨1, .data⟩ (by simp) rfl
      have e1 : b.tmps.getD 90 undef = .int .i64 known := h.val 1 90 rfl l1
      have e1' : b.tmps[90]?.getD undef = .int .i64 known := (by simpa using e1)
      have l2 := hall ⟨2, .data⟩ (by simp) rfl
      have e2 : b.tmps.getD 91 undef = .slice bA bn bc := h.val 2 91 rfl l2
      have e2' : b.tmps[91]?.getD undef = .slice bA bn bc := (by simpa using e2)
      have l6 := hall ⟨6, .data⟩ (by simp) rfl
      have e6 : b.tmps.getD 95 undef = .slice sA sn sc := h.val 6 95 rfl l6
      have e6' : b.tmps[95]?.getD undef = .slice sA sn sc := (by simpa using e6)
      have l7 := hall ⟨7, .data⟩ (by simp) rfl
      have e7 : b.tmps.getD 96 undef = .agg #[.int .i64 fc.pit, .int .i64 fc.layer] := h.val 7 96 rfl l7
      have e7' : b.tmps[96]?.getD undef = .agg #[.int .i64 fc.pit, .int .i64 fc.layer] := (by simpa using e7)
      have l8 := hall ⟨8, .data⟩ (by simp) rfl
      have e8 : b.tmps.getD 97 undef = .agg #[.int .i64 fa.pit, .int .i64 fa.layer] := h.val 8 97 rfl l8
      have e8' : b.tmps[97]?.getD undef = .agg #[.int .i64 fa.pit, .int .i64 fa.layer] := (by simpa using e8)
      refine wide_call (f := 41) (args := #[.slice lA ln lc, .int .i64 known, .slice bA bn bc, .slice sA sn sc, .agg #[.int .i64 fc.pit, .int .i64 fc.layer], .agg #[.int .i64 fa.pit, .int .i64 fa.layer]]) (by go_simp <;> (try exact ⟨by simpa [Act.eval] using e0, by simpa [Act.eval] using e1, by simpa [Act.eval] using e2, by simpa [Act.eval] using e6, by simpa [Act.eval] using e7, by simpa [Act.eval] using e8⟩)) ((HC W h.glob).mono ?_)
      rintro e w' ⟨rfl, hb'⟩
      exact ⟨_, rfl, rfl, h.glob.trans (hb'.mono h.glob.size)⟩
    · -- 10
      rw [if_pos (show Region.wanted _ _ = true from rfl)]
      have l9 := hall ⟨9, .data⟩ (by simp) rfl
      have e9 : b.tmps.getD 98 undef = .tuple #[.int .i64 vi, .bool bi, .int .i64 0] := h.val 9 98 rfl l9
      have e9' : b.tmps[98]?.getD undef = .tuple #[.int .i64 vi, .bool bi, .int .i64 0] := (by simpa using e9)
      refine wide_val (v := .tuple #[.int .i64 vi, .bool bi, .int .i64 0]) (by go_simp; try rfl) ⟨rfl, h.glob⟩
    · -- 11
      rw [if_pos (show Region.wanted _ _ = true from rfl)]
      have l10 := hall ⟨10, .data⟩ (by simp) rfl
      have e10 : b.tmps.getD 88 undef = .tuple #[.int .i64 vi, .bool bi, .int .i64 0] := h.val 10 88 rfl l10
      have e10' : b.tmps[88]?.getD undef = .tuple #[.int .i64 vi, .bool bi, .int .i64 0] := (by simpa using e10)
      refine wide_val (v := .int .i64 vi) (by go_simp; try rfl) ⟨rfl, h.glob⟩
    · -- 12
      rw [if_pos (show Region.wanted _ _ = true from rfl)]
      have l10 := hall ⟨10, .data⟩ (by simp) rfl
      have e10 : b.tmps.getD 88 undef = .tuple #[.int .i64 vi, .bool bi, .int .i64 0] := h.val 10 88 rfl l10
      have e10' : b.tmps[88]?.getD undef = .tuple #[.int .i64 vi, .bool bi, .int .i64 0] := (by simpa using e10)
      refine wide_val (v := .bool (bi)) (by go_simp; try rfl) ⟨rfl, h.glob⟩
    · -- 13
      rw [if_pos (show Region.wanted _ _ = true from rfl)]
      have l10 := hall ⟨10, .data⟩ (by simp) rfl
      have e10 : b.tmps.getD 88 undef = .tuple #[.int .i64 vi, .bool bi, .int .i64 0] := h.val 10 88 rfl l10
      have e10' : b.tmps[88]?.getD undef = .tuple #[.int .i64 vi, .bool bi, .int .i64 0] := (by simpa using e10)
      refine wide_val (v := .int .i64 0) (by go_simp; try rfl) ⟨rfl, h.glob⟩
    · -- 14
      rw [if_pos (show Region.wanted _ _ = true from rfl)]
      have l11 := hall ⟨11, .data⟩ (by simp) rfl
      have e11 : b.tmps.getD 99 undef = .int .i64 vi := h.val 11 99 rfl l11
      have e11' : b.tmps[99]?.getD undef = .int .i64 vi := (by simpa using e11)
      refine wide_val (v := .int .i64 vi) (by go_simp; try rfl) ⟨rfl, h.glob⟩
    · -- 15
      rw [if_pos (show Region.wanted _ _ = true from rfl)]
      have l12 := hall ⟨12, .data⟩ (by simp) rfl
      have e12 : b.tmps.getD 100 undef = .bool (bi) := h.val 12 100 rfl l12
      have e12' : b.tmps[100]?.getD undef = .bool (bi) := (by simpa using e12)
      refine wide_val (v := .bool (bi)) (by go_simp; try rfl) ⟨rfl, h.glob⟩
    · -- 16
      rw [if_pos (show Region.wanted _ _ = true from rfl)]
      have l13 := hall ⟨13, .data⟩ (by simp) rfl
      have e13 : b.tmps.getD 101 undef = .int .i64 0 := h.val 13 101 rfl l13
      have e13' : b.tmps[101]?.getD undef = .int .i64 0 := (by simpa using e13)
      refine wide_val (v := .int .i64 0) (by go_simp; try rfl) ⟨rfl, h.glob⟩
  · intro W hg
    have := hQ W hg
    simp only [List.size_toArray, bareL, bare, List.map_cons, List.map_nil, List.length_cons, List.length_nil, Nat.reduceAdd, framed, dstOf, List.getElem?_toArray, List.getElem?_cons_zero, List.getElem?_cons_succ, Option.bind_some, valrord15]
    exact this
def coderord16 : Option Code → Code
  | some (.seq _ (.seq _ (.seq _ (.seq _ (.seq _ (.seq _ (.seq _ (.seq _ (.seq _ (.seq (.seq _ (.block _ (.loop (.seq _ (.seq (.block _ (.seq _ (.seq c _))) _))))) _)))))))))) => c
  | _ => .skip
def valrord16 (lA : Option Addr) (ln lc : Nat) (known : Int) (bA : Option Addr) (bn bc g N c6 k _ _ : Nat) (sA : Option Addr) (sn sc : Nat) (fa fc : Place) (vi : Int) (bi : Bool) : Nat → Value
  | 0 => .slice lA ln lc
  | 1 => .int .i64 known
  | 2 => .slice bA bn bc
  | 3 => .slice (some ⟨g, 0, none⟩) N c6
  | 4 => .int .i64 k
  | 5 => .pointer (some ⟨g, k, none⟩)
  | 6 => .slice sA sn sc
  | 7 => .agg #[.int .i64 fa.pit, .int .i64 fa.layer]
  | 8 => .agg #[.int .i64 fc.pit, .int .i64 fc.layer]
  | 9 => .tuple #[.int .i64 vi, .bool bi, .int .i64 0]
  | 10 => .tuple #[.int .i64 vi, .bool bi, .int .i64 0]
  | 11 => .int .i64 vi
  | 12 => .bool (bi)
  | 13 => .int .i64 0
  | 14 => .int .i64 vi
  | 15 => .bool (bi)
  | 16 => .int .i64 0
  | _ => undef
set_option maxRecDepth 100000 in
set_option maxHeartbeats 4000000 in
theorem rord16 (c0 : Code) (hc : c0 = coderord16 Tryz.f8.body) (lA : Option Addr) (ln lc : Nat) (known : Int) (bA : Option Addr) (bn bc g N c6 k pa pc : Nat) (sA : Option Addr) (sn sc : Nat) (fa fc : Place) (vi : Int) (bi : Bool) (a : Act) (w : World) (Q : Exit → Act → World → Prop)
    (hT : a.tmps.size = 159) (t0 : a.tmps.getD 0 undef = .slice lA ln lc) (t1 : a.tmps.getD 1 undef = .int .i64 known) (t2 : a.tmps.getD 2 undef = .slice bA bn bc) (t8 : a.tmps.getD 8 undef = .pointer (some ⟨pa, 0, none⟩)) (t9 : a.tmps.getD 9 undef = .pointer (some ⟨pc, 0, none⟩)) (t15 : a.tmps.getD 15 undef = .slice (some ⟨g, 0, none⟩) N c6) (t19 : a.tmps.getD 19 undef = .int .i64 k)
    (KE : ∀ W, Below w.heap.size w W → W.cell? ⟨g, k, none⟩ = some (.slice sA sn sc) ∧ W.cell? ⟨pa, 0, none⟩ = some (.int .i64 fa.pit) ∧ W.cell? ⟨pa, 1, none⟩ = some (.int .i64 fa.layer) ∧ W.cell? ⟨pc, 0, none⟩ = some (.int .i64 fc.pit) ∧ W.cell? ⟨pc, 1, none⟩ = some (.int .i64 fc.layer)) (hkN : k < N) (HC : ∀ W, Below w.heap.size w W → Calls Tryz.prog 41 #[.slice lA ln lc, .int .i64 known, .slice bA bn bc, .slice sA sn sc, .agg #[.int .i64 fa.pit, .int .i64 fa.layer], .agg #[.int .i64 fc.pit, .int .i64 fc.layer]] W fun e' w' => e' = .returned (.tuple #[.int .i64 vi, .bool bi, .int .i64 0]) ∧ Below W.heap.size W w')
    (hQ : ∀ W, (fun W => Below w.heap.size w W) W → Q .normal { tmps := (((((((((((((((((a.tmps.setIfInBounds 103 (.slice lA ln lc)).setIfInBounds 104 (.int .i64 known)).setIfInBounds 105 (.slice bA bn bc)).setIfInBounds 106 (.slice (some ⟨g, 0, none⟩) N c6)).setIfInBounds 107 (.int .i64 k)).setIfInBounds 108 (.pointer (some ⟨g, k, none⟩))).setIfInBounds 109 (.slice sA sn sc)).setIfInBounds 110 (.agg #[.int .i64 fa.pit, .int .i64 fa.layer])).setIfInBounds 111 (.agg #[.int .i64 fc.pit, .int .i64 fc.layer])).setIfInBounds 112 (.tuple #[.int .i64 vi, .bool bi, .int .i64 0])).setIfInBounds 102 (.tuple #[.int .i64 vi, .bool bi, .int .i64 0])).setIfInBounds 113 (.int .i64 vi)).setIfInBounds 114 (.bool (bi))).setIfInBounds 115 (.int .i64 0)).setIfInBounds 23 (.int .i64 vi)).setIfInBounds 24 (.bool (bi))).setIfInBounds 25 (.int .i64 0)), defers := a.defers } W) :
    c0.wp Tryz.prog Q a w := by
  subst hc
  unfold coderord16 Tryz.f8
  dsimp only
  refine wpIn_wide.1 (wpIn_region_vals (nn := 5) 159 (by kernel_rfl) (by kernel_rfl) hT.symm (valrord16 lA ln lc known bA bn bc g N c6 k pa pc sA sn sc fa fc vi bi) (fun W => Below w.heap.size w W) ((Below.refl _ _).drew) ?_ ?_)
  · intro listed i o b W hi ho h
    obtain ⟨k0, k1, k2, k3, k4⟩ := KE W h.glob
    clear hQ
    obtain ⟨hun, oi, hoi, hall⟩ := mem_ready.1 hi
    have : oi = o := Option.some.inj (hoi.symm.trans ho)
    subst this
    clear hoi hi
    have hlt : i < 17 := (by have := (Array.getElem?_eq_some_iff.1 ho).1; simpa using this)
    have hun' : listed.getD i false = false := getD_both hun
    rcases (by omega : i = 0 ∨ i = 1 ∨ i = 2 ∨ i = 3 ∨ i = 4 ∨ i = 5 ∨ i = 6 ∨ i = 7 ∨ i = 8 ∨ i = 9 ∨ i = 10 ∨ i = 11 ∨ i = 12 ∨ i = 13 ∨ i = 14 ∨ i = 15 ∨ i = 16) with rfl | rfl | rfl | rfl | rfl | rfl | rfl | rfl | rfl | rfl | rfl | rfl | rfl | rfl | rfl | rfl | rfl
    all_goals simp only [List.getElem?_toArray, List.getElem?_cons_zero, List.getElem?_cons_succ] at ho
    all_goals cases ho
    · -- 0
      rw [if_pos (show Region.wanted _ _ = true from rfl)]
      have q0 := (h.tab.old 0 (dst_no h.tab (by kernel_rfl))).trans t0
      have q0' : b.tmps[0]?.getD undef = _ := (by simpa using q0)
      refine wide_val (v := .slice lA ln lc) (by go_simp; try rfl) ⟨rfl, h.glob⟩
    · -- 1
      rw [if_pos (show Region.wanted _ _ = true from rfl)]
      have q1 := (h.tab.old 1 (dst_no h.tab (by kernel_rfl))).trans t1
      have q1' : b.tmps[1]?.getD undef = _ := (by simpa using q1)
      refine wide_val (v := .int .i64 known) (by go_simp; try rfl) ⟨rfl, h.glob⟩
    · -- 2
      rw [if_pos (show Region.wanted _ _ = true from rfl)]
      have q2 := (h.tab.old 2 (dst_no h.tab (by kernel_rfl))).trans t2
      have q2' : b.tmps[2]?.getD undef = _ := (by simpa using q2)
      refine wide_val (v := .slice bA bn bc) (by go_simp; try rfl) ⟨rfl, h.glob⟩
    · -- 3
      rw [if_pos (show Region.wanted _ _ = true from rfl)]
      have q15 := (h.tab.old 15 (dst_no h.tab (by kernel_rfl))).trans t15
      have q15' : b.tmps[15]?.getD undef = _ := (by simpa using q15)
      refine wide_val (v := .slice (some ⟨g, 0, none⟩) N c6) (by go_simp; try rfl) ⟨rfl, h.glob⟩
    · -- 4
      rw [if_pos (show Region.wanted _ _ = true from rfl)]
      have q19 := (h.tab.old 19 (dst_no h.tab (by kernel_rfl))).trans t19
      have q19' : b.tmps[19]?.getD undef = _ := (by simpa using q19)
      refine wide_val (v := .int .i64 k) (by go_simp; try rfl) ⟨rfl, h.glob⟩
    · -- 5
      rw [if_pos (show Region.wanted _ _ = true from rfl)]
      have l3 := hall ⟨3, .data⟩ (by simp) rfl
      have e3 : b.tmps.getD 106 undef = .slice (some ⟨g, 0, none⟩) N c6 := h.val 3 106 rfl l3
      have e3' : b.tmps[106]?.getD undef = .slice (some ⟨g, 0, none⟩) N c6 := (by simpa using e3)
      have l4 := hall ⟨4, .data⟩ (by simp) rfl
      have e4 : b.tmps.getD 107 undef = .int .i64 k := h.val 4 107 rfl l4
      have e4' : b.tmps[107]?.getD undef = .int .i64 k := (by simpa using e4)
      refine wide_val (v := .pointer (some ⟨g, k, none⟩)) (by go_simp; try rfl) ⟨rfl, h.glob⟩
    · -- 6
      rw [if_pos (show Region.wanted _ _ = true from rfl)]
      have l5 := hall ⟨5, .data⟩ (by simp) rfl
      have e5 : b.tmps.getD 108 undef = .pointer (some ⟨g, k, none⟩) := h.val 5 108 rfl l5
      have e5' : b.tmps[108]?.getD undef = .pointer (some ⟨g, k, none⟩) := (by simpa using e5)
      refine wide_val (v := .slice sA sn sc) (by go_simp; try rfl) ⟨rfl, h.glob⟩
    · -- 7
      rw [if_pos (show Region.wanted _ _ = true from rfl)]
      have q8 := (h.tab.old 8 (dst_no h.tab (by kernel_rfl))).trans t8
      have q8' : b.tmps[8]?.getD undef = _ := (by simpa using q8)
      refine wide_val (v := .agg #[.int .i64 fa.pit, .int .i64 fa.layer]) (by go_simp; try rfl) ⟨rfl, h.glob⟩
    · -- 8
      rw [if_pos (show Region.wanted _ _ = true from rfl)]
      have q9 := (h.tab.old 9 (dst_no h.tab (by kernel_rfl))).trans t9
      have q9' : b.tmps[9]?.getD undef = _ := (by simpa using q9)
      refine wide_val (v := .agg #[.int .i64 fc.pit, .int .i64 fc.layer]) (by go_simp; try rfl) ⟨rfl, h.glob⟩
    · -- 9
      rw [if_pos (show Region.wanted _ _ = true from rfl)]
      have l0 := hall ⟨0, .data⟩ (by simp) rfl
      have e0 : b.tmps.getD 103 undef = .slice lA ln lc := h.val 0 103 rfl l0
      have e0' : b.tmps[103]?.getD undef = .slice lA ln lc := (by simpa using e0)
      have l1 := hall ⟨1, .data⟩ (by simp) rfl
      have e1 : b.tmps.getD 104 undef = .int .i64 known := h.val 1 104 rfl l1
      have e1' : b.tmps[104]?.getD undef = .int .i64 known := (by simpa using e1)
      have l2 := hall ⟨2, .data⟩ (by simp) rfl
      have e2 : b.tmps.getD 105 undef = .slice bA bn bc := h.val 2 105 rfl l2
      have e2' : b.tmps[105]?.getD undef = .slice bA bn bc := (by simpa using e2)
      have l6 := hall ⟨6, .data⟩ (by simp) rfl
      have e6 : b.tmps.getD 109 undef = .slice sA sn sc := h.val 6 109 rfl l6
      have e6' : b.tmps[109]?.getD undef = .slice sA sn sc := (by simpa using e6)
      have l7 := hall ⟨7, .data⟩ (by simp) rfl
      have e7 : b.tmps.getD 110 undef = .agg #[.int .i64 fa.pit, .int .i64 fa.layer] := h.val 7 110 rfl l7
      have e7' : b.tmps[110]?.getD undef = .agg #[.int .i64 fa.pit, .int .i64 fa.layer] := (by simpa using e7)
      have l8 := hall ⟨8, .data⟩ (by simp) rfl
      have e8 : b.tmps.getD 111 undef = .agg #[.int .i64 fc.pit, .int .i64 fc.layer] := h.val 8 111 rfl l8
      have e8' : b.tmps[111]?.getD undef = .agg #[.int .i64 fc.pit, .int .i64 fc.layer] := (by simpa using e8)
      refine wide_call (f := 41) (args := #[.slice lA ln lc, .int .i64 known, .slice bA bn bc, .slice sA sn sc, .agg #[.int .i64 fa.pit, .int .i64 fa.layer], .agg #[.int .i64 fc.pit, .int .i64 fc.layer]]) (by go_simp <;> (try exact ⟨by simpa [Act.eval] using e0, by simpa [Act.eval] using e1, by simpa [Act.eval] using e2, by simpa [Act.eval] using e6, by simpa [Act.eval] using e7, by simpa [Act.eval] using e8⟩)) ((HC W h.glob).mono ?_)
      rintro e w' ⟨rfl, hb'⟩
      exact ⟨_, rfl, rfl, h.glob.trans (hb'.mono h.glob.size)⟩
    · -- 10
      rw [if_pos (show Region.wanted _ _ = true from rfl)]
      have l9 := hall ⟨9, .data⟩ (by simp) rfl
      have e9 : b.tmps.getD 112 undef = .tuple #[.int .i64 vi, .bool bi, .int .i64 0] := h.val 9 112 rfl l9
      have e9' : b.tmps[112]?.getD undef = .tuple #[.int .i64 vi, .bool bi, .int .i64 0] := (by simpa using e9)
      refine wide_val (v := .tuple #[.int .i64 vi, .bool bi, .int .i64 0]) (by go_simp; try rfl) ⟨rfl, h.glob⟩
    · -- 11
      rw [if_pos (show Region.wanted _ _ = true from rfl)]
      have l10 := hall ⟨10, .data⟩ (by simp) rfl
      have e10 : b.tmps.getD 102 undef = .tuple #[.int .i64 vi, .bool bi, .int .i64 0] := h.val 10 102 rfl l10
      have e10' : b.tmps[102]?.getD undef = .tuple #[.int .i64 vi, .bool bi, .int .i64 0] := (by simpa using e10)
      refine wide_val (v := .int .i64 vi) (by go_simp; try rfl) ⟨rfl, h.glob⟩
    · -- 12
      rw [if_pos (show Region.wanted _ _ = true from rfl)]
      have l10 := hall ⟨10, .data⟩ (by simp) rfl
      have e10 : b.tmps.getD 102 undef = .tuple #[.int .i64 vi, .bool bi, .int .i64 0] := h.val 10 102 rfl l10
      have e10' : b.tmps[102]?.getD undef = .tuple #[.int .i64 vi, .bool bi, .int .i64 0] := (by simpa using e10)
      refine wide_val (v := .bool (bi)) (by go_simp; try rfl) ⟨rfl, h.glob⟩
    · -- 13
      rw [if_pos (show Region.wanted _ _ = true from rfl)]
      have l10 := hall ⟨10, .data⟩ (by simp) rfl
      have e10 : b.tmps.getD 102 undef = .tuple #[.int .i64 vi, .bool bi, .int .i64 0] := h.val 10 102 rfl l10
      have e10' : b.tmps[102]?.getD undef = .tuple #[.int .i64 vi, .bool bi, .int .i64 0] := (by simpa using e10)
      refine wide_val (v := .int .i64 0) (by go_simp; try rfl) ⟨rfl, h.glob⟩
    · -- 14
      rw [if_pos (show Region.wanted _ _ = true from rfl)]
      have l11 := hall ⟨11, .data⟩ (by simp) rfl
      have e11 : b.tmps.getD 113 undef = .int .i64 vi := h.val 11 113 rfl l11
      have e11' : b.tmps[113]?.getD undef = .int .i64 vi := (by simpa using e11)
      refine wide_val (v := .int .i64 vi) (by go_simp; try rfl) ⟨rfl, h.glob⟩
    · -- 15
      rw [if_pos (show Region.wanted _ _ = true from rfl)]
      have l12 := hall ⟨12, .data⟩ (by simp) rfl
      have e12 : b.tmps.getD 114 undef = .bool (bi) := h.val 12 114 rfl l12
      have e12' : b.tmps[114]?.getD undef = .bool (bi) := (by simpa using e12)
      refine wide_val (v := .bool (bi)) (by go_simp; try rfl) ⟨rfl, h.glob⟩
    · -- 16
      rw [if_pos (show Region.wanted _ _ = true from rfl)]
      have l13 := hall ⟨13, .data⟩ (by simp) rfl
      have e13 : b.tmps.getD 115 undef = .int .i64 0 := h.val 13 115 rfl l13
      have e13' : b.tmps[115]?.getD undef = .int .i64 0 := (by simpa using e13)
      refine wide_val (v := .int .i64 0) (by go_simp; try rfl) ⟨rfl, h.glob⟩
  · intro W hg
    have := hQ W hg
    simp only [List.size_toArray, bareL, bare, List.map_cons, List.map_nil, List.length_cons, List.length_nil, Nat.reduceAdd, framed, dstOf, List.getElem?_toArray, List.getElem?_cons_zero, List.getElem?_cons_succ, Option.bind_some, valrord16]
    exact this
end Go.Proofs.YtelnkflmnbhclaaGreat
end

/- What is proved: the walk of the law StratumOrder. Conditions: as said. -/
section
namespace Go.Proofs.YtelnkflmnbhclaaGreat
open Go.RowKit Go.Proofs Go.Shelf

theorem askErr_of_sets {l : List Trace} {known : Int} {bs : List Bond} {a b : Place} (h : (earlierV l known bs a b).2 = 0) : (setsV l known bs) = ((setsOf l known bs).2, 0) ∧ (setsOf l known bs).2 ≠ [] := ⟨(earl_ord h).2.1, (earl_ok h).2.2.2⟩
theorem setsOf_len {l : List Trace} {known : Int} {bs : List Bond} {a b : Place} (h : (earlierV l known bs a b).2 = 0) : (setsOf l known bs).2.length ≤ 256 := by
  have h8 := (askErr_sizes (earl_ok h).1).2
  have h2 : (2 : Nat) ^ (admitsOf (counting l known)).length ≤ 256 := Nat.pow_le_pow_right (by omega) h8
  have h3 := chpTo_len (admitsOf (counting l known)) (enough (counting l known) bs) (2 ^ (admitsOf (counting l known)).length)
  have h4 : (setsOf l known bs).2.length = _ := (sortLx_perm _).length_eq
  rw [h4]; omega
theorem setsOf_small {l : List Trace} {known : Int} {bs : List Bond} (he : askErr l known bs = 0) {mv : List Place} (h : mv ∈ (setsOf l known bs).2) : mv.length ≤ 8 := by
  obtain ⟨b, _, rfl, _, _⟩ := setsOf_from h
  have := setTo_len (admitsOf (counting l known)) b (admitsOf (counting l known)).length
  have := (askErr_sizes he).2
  omega
set_option maxRecDepth 100000 in
set_option maxHeartbeats 8000000 in
theorem stratumOrder_of (lA : Option Addr) (ln lc : Nat) (l : List Trace) (hl0 : l.length = ln) (known : Int) (bA : Option Addr) (bn bc : Nat) (b : List Bond) (hb0 : b.length = bn) (a c : Place) (w : World) (rl : ln ≤ 17592186044416 → Rd encTrace 10 w lA ln lc l) (rb : bn ≤ 17592186044416 → Rd encBond 5 w bA bn bc b) :
    Calls Tryz.prog 8 #[.slice lA ln lc, .int .i64 known, .slice bA bn bc, .agg #[.int .i64 a.pit, .int .i64 a.layer], .agg #[.int .i64 c.pit, .int .i64 c.layer]] w fun e w' => e = .returned (.bool true) ∧ Below w.heap.size w w' := by
  obtain ⟨w1, hw1⟩ : ∃ w1, (w.alloc (.cells #[.int .i64 a.pit, .int .i64 a.layer] 37)).alloc (.cells #[.int .i64 c.pit, .int .i64 c.layer] 37) = w1 := ⟨_, rfl⟩
  have hb1 : Below w.heap.size w w1 := (by rw [← hw1]; exact ((Below.refl _ w).alloc (Nat.le_refl _) _).alloc (by simp) _)
  have hz1 : w1.heap.size = w.heap.size + 2 := (by rw [← hw1]; simp)
  have hra : w1.heap[w.heap.size]? = some (.cells #[.int .i64 a.pit, .int .i64 a.layer] 37 (0, 0)) := (by rw [← hw1, Below.heap_alloc _ _ _ (by simp)]; exact heap_alloc_new w _)
  have hrc : w1.heap[w.heap.size + 1]? = some (.cells #[.int .i64 c.pit, .int .i64 c.layer] 37 (0, 0)) := (by
    rw [← hw1]
    have := heap_alloc_new (w.alloc (.cells #[.int .i64 a.pit, .int .i64 a.layer] 37)) (.cells #[.int .i64 c.pit, .int .i64 c.layer] 37)
    rw [World.size_alloc] at this; exact this)
  have CE : Hid (∀ W, Below w1.heap.size w1 W → W.cell? ⟨w.heap.size, 0, none⟩ = some (.int .i64 a.pit) ∧ W.cell? ⟨w.heap.size, 1, none⟩ = some (.int .i64 a.layer) ∧ W.cell? ⟨w.heap.size + 1, 0, none⟩ = some (.int .i64 c.pit) ∧ W.cell? ⟨w.heap.size + 1, 1, none⟩ = some (.int .i64 c.layer)) :=
    (show ∀ W, Below w1.heap.size w1 W → W.cell? ⟨w.heap.size, 0, none⟩ = some (.int .i64 a.pit) ∧ W.cell? ⟨w.heap.size, 1, none⟩ = some (.int .i64 a.layer) ∧ W.cell? ⟨w.heap.size + 1, 0, none⟩ = some (.int .i64 c.pit) ∧ W.cell? ⟨w.heap.size + 1, 1, none⟩ = some (.int .i64 c.layer) from fun W h => by
      have h1 := (h.block _ (by omega)).trans hra
      have h2 := (h.block _ (by omega)).trans hrc
      simp [World.cell?, h1, h2])
  clear hra hrc
  have HDUG := Lib.hid dug_any
  cases hfew : fewB ln bn 20 with
  | false =>
    have HF := Lib.hid hfew
    clear hfew
    go_enter Tryz.func8, Tryz.ntmps8
    go_wp2_with (first
      | (go_at_call 23; (with_reducible refine (few_any _ _ _ _ _ _ _ _).mono ?_); rintro e w2 ⟨rfl, rfl⟩; rw [HF.out])
      | (go_at_call 22; (with_reducible refine (HDUG.out _).mono ?_); rintro e w7 ⟨rfl, hb7⟩; have HB7 := Lib.hid hb7; clear hb7))
    go_ret
    exact ⟨rfl, hb1.trans (HB7.out.mono (by omega))⟩
  | true =>
    obtain ⟨hn, hm⟩ := fewB_small hfew (by decide)
    have HF := Lib.hid hfew
    have RL : Hid (∀ W, Below w1.heap.size w1 W → Rd encTrace 10 W lA ln lc l) := (show ∀ W, Below w1.heap.size w1 W → Rd encTrace 10 W lA ln lc l from fun W h => (rl (by omega)).below (hb1.trans (h.mono (by omega))) (Nat.le_refl _))
    have RB : Hid (∀ W, Below w1.heap.size w1 W → Rd encBond 5 W bA bn bc b) := (show ∀ W, Below w1.heap.size w1 W → Rd encBond 5 W bA bn bc b from fun W h => (rb (by omega)).below (hb1.trans (h.mono (by omega))) (Nat.le_refl _))
    have HB1 := Lib.hid (Below.refl w1.heap.size w1)
    have HM := Lib.hid (moderate_any lA ln lc l known bA bn bc b none 0 0 w1 (RL.out w1 HB1.out) (RB.out w1 HB1.out))
    obtain ⟨⟨xv, e⟩, hx⟩ : ∃ q, earlierV l known b a c = q := ⟨_, rfl⟩
    obtain ⟨⟨yv, f⟩, hy⟩ : ∃ q, earlierV l known b c a = q := ⟨_, rfl⟩
    have hef : f = e := by
      have := earl_err (l := l) (known := known) (bs := b) (a := a) (b := c)
      rw [hx, hy] at this; exact this.symm
    subst hef
    have HX : Hid (∀ W, Below w1.heap.size w1 W → Calls Tryz.prog 25 #[.slice lA ln lc, .int .i64 known, .slice bA bn bc, .agg #[.int .i64 a.pit, .int .i64 a.layer], .agg #[.int .i64 c.pit, .int .i64 c.layer]] W fun e' w' => e' = .returned (.tuple #[.int .u8 xv, .int .i64 f]) ∧ Below W.heap.size W w') :=
      (show ∀ W, Below w1.heap.size w1 W → _ from fun W h => by have := Earlier_any lA ln lc l known bA bn bc b a c W (RL.out W h) (RB.out W h); rw [hx] at this; exact this)
    have HY : Hid (∀ W, Below w1.heap.size w1 W → Calls Tryz.prog 25 #[.slice lA ln lc, .int .i64 known, .slice bA bn bc, .agg #[.int .i64 c.pit, .int .i64 c.layer], .agg #[.int .i64 a.pit, .int .i64 a.layer]] W fun e' w' => e' = .returned (.tuple #[.int .u8 yv, .int .i64 f]) ∧ Below W.heap.size W w') :=
      (show ∀ W, Below w1.heap.size w1 W → _ from fun W h => by have := Earlier_any lA ln lc l known bA bn bc b c a W (RL.out W h) (RB.out W h); rw [hy] at this; exact this)
    have HXE := Lib.hid hx
    have HYE := Lib.hid hy
    clear hx hy hfew rl rb hl0 hb0
    by_cases hf0 : f = 0
    · subst hf0
      have hx0 : (earlierV l known b a c).2 = 0 := by rw [HXE.out]
      obtain ⟨hsv, hne⟩ := askErr_of_sets hx0
      have hord := earl_ord hx0
      have hs256 := setsOf_len hx0
      have hask := (earl_ok hx0).1
      obtain ⟨SS, hSS⟩ : ∃ SS, (setsOf l known b).2 = SS := ⟨_, rfl⟩
      have hsm : ∀ mv ∈ SS, mv.length ≤ 8 := fun mv h => setsOf_small hask (by rw [hSS]; exact h)
      have hap : ∀ s n, ordS l known b a c SS = (s, n) → ¬ (s = true ∧ n = true) := fun s n h => by
        rintro ⟨rfl, rfl⟩
        rw [← hSS] at h
        exact ord_apart hx0 (by rw [h]) (by rw [h])
      have hone : xv = 1 → yv = 2 := fun h => by
        have := earl_one hx0 (by rw [HXE.out]; exact h)
        rw [HYE.out] at this; exact this
      rw [hSS] at hsv hne hord hs256
      rw [HXE.out] at hord
      have HORD := Lib.hid hord
      have HSM := Lib.hid hsm
      have HAP := Lib.hid hap
      have HONE := Lib.hid hone
      obtain ⟨N, hN⟩ : ∃ N, SS.length = N := ⟨_, rfl⟩
      have hN0 : 0 < N := by rw [← hN]; exact List.length_pos_iff.2 hne
      rw [hN] at hs256
      have HN := Lib.hid hN
      have HSET : Hid (∀ W, Below w1.heap.size w1 W → Calls Tryz.prog 38 #[.slice lA ln lc, .int .i64 known, .slice bA bn bc] W fun e' w' => ∃ A' c', e' = .returned (.tuple #[.slice A' N c', .int .i64 0]) ∧ Below W.heap.size W w' ∧ SetsAt W.heap.size w' A' c' SS) :=
        (show ∀ W, Below w1.heap.size w1 W → _ from fun W h => by have := Sets_any lA ln lc l known bA bn bc b W (RL.out W h) (RB.out W h); rw [hsv] at this; simp only [hN] at this; exact this)
      clear hsv hne hord hask hsm hap hone hx0 hSS hN
      go_enter Tryz.func8, Tryz.ntmps8
      go_upto_region 3 with (first
        | (go_at_call 23; (with_reducible refine (few_any _ _ _ _ _ _ _ _).mono ?_); rintro e w2 ⟨rfl, rfl⟩; rw [HF.out])
        | (go_at_call 24; (with_reducible refine HM.out.mono ?_); rintro e w3 ⟨md, rfl, hb3⟩; have HB3 := Lib.hid hb3; clear hb3)
        | (go_at_call 22; (with_reducible refine (HDUG.out _).mono ?_); rintro e w7 ⟨rfl, hb7⟩; have HB7 := Lib.hid hb7; clear hb7))
      all_goals first
        | (go_ret; exact ⟨rfl, hb1.trans ((HB3.out.trans (HB7.out.mono HB3.out.size)).mono (by omega))⟩)
        | skip
      obtain ⟨c0, c1, c2, c3⟩ := CE.out w3 HB3.out
      have hN0' : ((N : Int) == 0) = false := beq_eq_false_iff_ne.2 (by omega)
      have hz3 := HB3.out.size
      go_wp2_with (first
        | (go_at_call 25; (with_reducible refine (HX.out _ HB3.out).mono ?_); rintro e w4 ⟨rfl, hb4⟩
           have HB4 := Lib.hid (HB3.out.trans (hb4.mono hz3))
           obtain ⟨d0, d1, d2, d3⟩ := CE.out w4 HB4.out
           have hz4 := HB4.out.size
           clear hb4 c0 c1 c2 c3)
        | (go_at_call 25; (with_reducible refine (HY.out _ HB4.out).mono ?_); rintro e w5 ⟨rfl, hb5⟩
           have HB5 := Lib.hid (HB4.out.trans (hb5.mono hz4))
           have hz5 := HB5.out.size
           clear hb5 d0 d1 d2 d3)
        | (go_at_call 38; (with_reducible refine (HSET.out _ HB5.out).mono ?_); rintro e w6 ⟨A6, c6, rfl, hb6, hS6⟩
           have HB6 := Lib.hid (HB5.out.trans (hb6.mono hz5))
           have HS6 := Lib.hid hS6
           have hz6 := HB6.out.size
           clear hb6 hS6))
      obtain ⟨hs, h1, h2⟩ := HS6.out
      rw [HN.out] at h1
      have hl1 := h1.len
      obtain ⟨g, rfl⟩ : ∃ g, A6 = some ⟨g, 0, none⟩ := (by
        rcases h1.form with ⟨_, e, _⟩ | ⟨g, e, _⟩
        · omega
        · exact ⟨g, e⟩)
      have H1 := Lib.hid h1
      have H2 := Lib.hid h2
      have HL1 := Lib.hid hl1
      have hgl := h1.lt.2
      clear h1 h2 hl1
      go_loopw [17, 18, 19] (fun s17 s18 i wr => ∃ (k : Nat) (s nv : Bool), k ≤ N ∧ i = .int .i64 k ∧ s17 = .bool s ∧ s18 = .bool nv ∧ Hid (Below w6.heap.size w6 wr) ∧ Hid (ordS l known b a c (SS.take k) = (s, nv))) (fun _ _ i _ => N - (intOf i).toNat)
      case atStart => exact ⟨0, true, true, Nat.zero_le _, rfl, rfl, rfl, (show Below _ _ _ from Below.refl _ _), (show _ = _ from rfl)⟩
      case round =>
        rename World => wo
        obtain ⟨k, s, nv, hk, rfl, rfl, rfl, hbel, hst⟩ := hrel
        have hzo := hbel.out.size
        by_cases hlt : k < N
        · obtain ⟨hd, hhd⟩ : ∃ hd, hs[k]? = some hd := ⟨_, List.getElem?_eq_getElem (by rw [HL1.out]; exact hlt)⟩
          obtain ⟨mv, hmv⟩ : ∃ mv, SS[k]? = some mv := ⟨_, List.getElem?_eq_getElem (by rw [HN.out]; exact hlt)⟩
          obtain ⟨e1, e2⟩ := H2.out k hd mv hhd hmv
          have hml := HSM.out mv (List.mem_of_getElem? hmv)
          obtain ⟨q1, q2⟩ := HORD.out.2.2 mv (List.mem_of_getElem? hmv)
          have hcell := H1.out.cells (fun _ => rfl) hhd 0 _ rfl
          rw [Nat.mul_one, Nat.add_zero] at hcell
          unfold hdrV at hcell
          rw [e1] at hcell
          obtain ⟨⟨v1, is1, z1⟩, hv1⟩ : ∃ q, betweenV l known b mv c a = q := ⟨_, rfl⟩
          obtain ⟨⟨v2, is2, z2⟩, hv2⟩ : ∃ q, betweenV l known b mv a c = q := ⟨_, rfl⟩
          rw [hv1] at q2
          rw [hv2] at q1
          simp only at q1 q2
          subst q1
          subst q2
          have KE : Hid (∀ W, Below wo.heap.size wo W → W.cell? ⟨g, k, none⟩ = some (.slice hd.A mv.length hd.c) ∧ W.cell? ⟨w.heap.size, 0, none⟩ = some (.int .i64 a.pit) ∧ W.cell? ⟨w.heap.size, 1, none⟩ = some (.int .i64 a.layer) ∧ W.cell? ⟨w.heap.size + 1, 0, none⟩ = some (.int .i64 c.pit) ∧ W.cell? ⟨w.heap.size + 1, 1, none⟩ = some (.int .i64 c.layer)) :=
            (show ∀ W, Below wo.heap.size wo W → W.cell? ⟨g, k, none⟩ = some (.slice hd.A mv.length hd.c) ∧ W.cell? ⟨w.heap.size, 0, none⟩ = some (.int .i64 a.pit) ∧ W.cell? ⟨w.heap.size, 1, none⟩ = some (.int .i64 a.layer) ∧ W.cell? ⟨w.heap.size + 1, 0, none⟩ = some (.int .i64 c.pit) ∧ W.cell? ⟨w.heap.size + 1, 1, none⟩ = some (.int .i64 c.layer) from
              fun W h => ⟨((hbel.out.trans (h.mono hzo)).cell (p := ⟨g, _, none⟩) hgl).trans hcell, CE.out W ((HB6.out.trans (hbel.out.mono hz6)).trans (h.mono (by omega)))⟩)
          have HC1 : Hid (∀ W, Below wo.heap.size wo W → Calls Tryz.prog 41 #[.slice lA ln lc, .int .i64 known, .slice bA bn bc, .slice hd.A mv.length hd.c, .agg #[.int .i64 c.pit, .int .i64 c.layer], .agg #[.int .i64 a.pit, .int .i64 a.layer]] W fun e' w' => e' = .returned (.tuple #[.int .i64 v1, .bool is1, .int .i64 0]) ∧ Below W.heap.size W w') :=
            (show ∀ W, Below wo.heap.size wo W → _ from fun W h => by
              have hWW := (HB6.out.trans (hbel.out.mono hz6)).trans (h.mono (by omega))
              have := Between_any lA ln lc l known bA bn bc b hd.A mv.length hd.c mv c a W (RL.out W hWW) (RB.out W hWW) ((e2.rd (fun _ => rfl) (by omega)).below (hbel.out.trans (h.mono hzo)) (Nat.le_refl _))
              rw [hv1] at this; exact this)
          have HC2 : Hid (∀ W, Below wo.heap.size wo W → Calls Tryz.prog 41 #[.slice lA ln lc, .int .i64 known, .slice bA bn bc, .slice hd.A mv.length hd.c, .agg #[.int .i64 a.pit, .int .i64 a.layer], .agg #[.int .i64 c.pit, .int .i64 c.layer]] W fun e' w' => e' = .returned (.tuple #[.int .i64 v2, .bool is2, .int .i64 0]) ∧ Below W.heap.size W w') :=
            (show ∀ W, Below wo.heap.size wo W → _ from fun W h => by
              have hWW := (HB6.out.trans (hbel.out.mono hz6)).trans (h.mono (by omega))
              have := Between_any lA ln lc l known bA bn bc b hd.A mv.length hd.c mv a c W (RL.out W hWW) (RB.out W hWW) ((e2.rd (fun _ => rfl) (by omega)).below (hbel.out.trans (h.mono hzo)) (Nat.le_refl _))
              rw [hv2] at this; exact this)
          have hstep := ordS_snoc l known b a c hmv
          rw [hst.out] at hstep
          unfold ordStep at hstep
          rw [hv1, hv2] at hstep
          simp only at hstep
          have HST := Lib.hid hstep
          clear hstep hv1 hv2 hcell e1 e2 hhd hmv
          go_upto_region 15 with (fail)
          refine rord15 _ rfl lA ln lc known bA bn bc g N c6 k w.heap.size (w.heap.size + 1) hd.A mv.length hd.c a c v1 is1 _ wo _ rfl rfl rfl rfl rfl rfl rfl rfl KE.out hlt HC1.out ?_
          intro w7 hb7
          have HB7 := Lib.hid hb7
          have hz7 := hb7.size
          clear hb7
          simp only [List.setIfInBounds_toArray, List.set_cons_succ, List.set_cons_zero]
          go_upto_region 16 with (fail)
          refine rord16 _ rfl lA ln lc known bA bn bc g N c6 k w.heap.size (w.heap.size + 1) hd.A mv.length hd.c a c v2 is2 _ w7 _ rfl rfl rfl rfl rfl rfl rfl rfl (fun W h => KE.out W (HB7.out.trans (h.mono hz7))) hlt (fun W h => HC2.out W (HB7.out.trans (h.mono hz7))) ?_
          intro w8 hb8
          have HB8 := Lib.hid (hbel.out.trans ((HB7.out.trans (hb8.mono hz7)).mono hzo))
          clear hb8
          simp only [List.setIfInBounds_toArray, List.set_cons_succ, List.set_cons_zero]
          obtain ⟨s', hs'⟩ : ∃ s', (s && is1 && decide (v1 < 0)) = s' := ⟨_, rfl⟩
          obtain ⟨n', hn'⟩ : ∃ n', (nv && is2 && decide (v2 ≤ 0)) = n' := ⟨_, rfl⟩
          have HS' := Lib.hid hs'
          have HN' := Lib.hid hn'
          have hst2 := HST.out
          rw [hs', hn'] at hst2
          have HST2 := Lib.hid hst2
          clear hs' hn' hst2
          go_upto_region 19 with (fail)
          go_cut [17] (fun s17 wx => s17 = .bool s' ∧ w8 = wx)
          case first =>
            rcases four s is1 v1 with rfl | ⟨rfl, rfl⟩ | ⟨rfl, rfl, Q1, q1⟩ | ⟨rfl, rfl, Q1, q1⟩
            all_goals
              go_wp2_with fail
              go_meet
            all_goals exact ⟨congrArg Value.bool (by have h9 := HS'.out; (first | rw [Q1.out] at h9 | skip); rw [← h9]; (first | rfl | exact Q1.out | simp [Q1.out])), rfl⟩
          case rest =>
            obtain ⟨rfl, rfl⟩ := hcut
            rcases four2 nv is2 v2 with rfl | ⟨rfl, rfl⟩ | ⟨rfl, rfl, Q2, q2⟩ | ⟨rfl, rfl, Q2, q2⟩
            all_goals
              go_wp2_with (fail)
              go_roundw
            all_goals first
              | (simp [intOf]; omega)
              | exact ⟨k + 1, s', n', by omega, by go_num, rfl, congrArg Value.bool (by have h9 := HN'.out; (first | rw [Q2.out] at h9 | skip); rw [← h9]; (first | rfl | exact Q2.out | simp [Q2.out])), HB8.out, (show _ = _ from HST2.out)⟩
        · have hkN : k = N := by omega
          subst hkN
          have hS : ordS l known b a c SS = (s, nv) := (by
            have h9 := hst.out
            rwa [List.take_of_length_le (by rw [HN.out]; exact Nat.le_refl _)] at h9)
          have hxv : xv = earlR (s, nv) := by rw [← hS]; exact HORD.out.1
          have hno := HAP.out s nv hS
          have hbo := (HB6.out.trans (hbel.out.mono hz6))
          have hzb := hbo.size
          have hbo2 := Lib.hid (hb1.trans (hbo.mono (by omega)))
          clear hbo hS
          cases s <;> cases nv
          case true.true => exact absurd ⟨rfl, rfl⟩ hno
          case true.false =>
            obtain rfl : xv = 1 := hxv
            obtain rfl : yv = 2 := HONE.out rfl
            clear hno
            go_wp2_with (go_at_call 22; (with_reducible refine (HDUG.out _).mono ?_); rintro e w9 ⟨rfl, hb9⟩; have HB9 := Lib.hid hb9; clear hb9)
            go_ret
            exact ⟨rfl, hbo2.out.trans (HB9.out.mono hbo2.out.size)⟩
          case false.true =>
            obtain rfl : xv = 2 := hxv
            clear hno
            go_wp2_with (go_at_call 22; (with_reducible refine (HDUG.out _).mono ?_); rintro e w9 ⟨rfl, hb9⟩; have HB9 := Lib.hid hb9; clear hb9)
            go_ret
            exact ⟨rfl, hbo2.out.trans (HB9.out.mono hbo2.out.size)⟩
          case false.false =>
            obtain rfl : xv = 3 := hxv
            clear hno
            go_wp2_with (go_at_call 22; (with_reducible refine (HDUG.out _).mono ?_); rintro e w9 ⟨rfl, hb9⟩; have HB9 := Lib.hid hb9; clear hb9)
            go_ret
            exact ⟨rfl, hbo2.out.trans (HB9.out.mono hbo2.out.size)⟩
    · have hf1 := neBool hf0
      clear hf0
      go_enter Tryz.func8, Tryz.ntmps8
      go_upto_region 3 with (first
        | (go_at_call 23; (with_reducible refine (few_any _ _ _ _ _ _ _ _).mono ?_); rintro e w2 ⟨rfl, rfl⟩; rw [HF.out])
        | (go_at_call 24; (with_reducible refine HM.out.mono ?_); rintro e w3 ⟨md, rfl, hb3⟩; have HB3 := Lib.hid hb3; clear hb3)
        | (go_at_call 22; (with_reducible refine (HDUG.out _).mono ?_); rintro e w7 ⟨rfl, hb7⟩; have HB7 := Lib.hid hb7; clear hb7))
      all_goals first
        | (go_ret; exact ⟨rfl, hb1.trans ((HB3.out.trans (HB7.out.mono HB3.out.size)).mono (by omega))⟩)
        | skip
      obtain ⟨c0, c1, c2, c3⟩ := CE.out w3 HB3.out
      have hz3 := HB3.out.size
      go_wp2_with (first
        | (go_at_call 25; (with_reducible refine (HX.out _ HB3.out).mono ?_); rintro e w4 ⟨rfl, hb4⟩
           have HB4 := Lib.hid (HB3.out.trans (hb4.mono hz3))
           obtain ⟨d0, d1, d2, d3⟩ := CE.out w4 HB4.out
           have hz4 := HB4.out.size
           clear hb4 c0 c1 c2 c3)
        | (go_at_call 25; (with_reducible refine (HY.out _ HB4.out).mono ?_); rintro e w5 ⟨rfl, hb5⟩
           have HB5 := Lib.hid (HB4.out.trans (hb5.mono hz4))
           have hz5 := HB5.out.size
           clear hb5 d0 d1 d2 d3)
        | (go_at_call 22; (with_reducible refine (HDUG.out _).mono ?_); rintro e w9 ⟨rfl, hb9⟩; have HB9 := Lib.hid (HB5.out.trans (hb9.mono hz5)); clear hb9))
      go_ret
      exact ⟨retB (by simp), hb1.trans (HB9.out.mono (by omega))⟩
end Go.Proofs.YtelnkflmnbhclaaGreat
end

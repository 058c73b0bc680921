/- Contracts that the laws lean on: RefF, RefE. -/
import Derived.Test.YtelnkflmnbhclaaGreatH01
import Derived.Test.YtelnkflmnbhclaaGreatG07
import Derived.Deep.RegionHeld3
import Derived.Deep.DeepCutAuto
/- What is proved: the drawn region of the reference's CheckBonds: whether a bond is wrong. Conditions: none. -/
section
namespace Go.Proofs.YtelnkflmnbhclaaGreat
open Go.RowKit Go.Proofs

def coderbond1 : Option Code → Code
  | some (.seq _ (.seq _ (.seq (.seq _ (.block _ (.loop (.seq _ (.seq (.block _ (.seq c _)) _))))) _))) => c
  | _ => .skip
def valrbond1 (bq off n c k : Nat) (x : Bond) : Nat → Value
  | 0 => .slice (some ⟨bq, off, none⟩) n c
  | 1 => .int .i64 k
  | 2 => .pointer (some ⟨bq, off + k * 5, none⟩)
  | 3 => .pointer (some ⟨bq, off + k * 5, none⟩)
  | 4 => .agg #[.int .i64 x.a.pit, .int .i64 x.a.layer]
  | 5 => .bool false
  | 6 => .bool true
  | 7 => .bool true
  | 8 => undef
  | 9 => undef
  | 10 => undef
  | 11 => undef
  | 12 => undef
  | 13 => undef
  | 14 => undef
  | 15 => .bool true
  | 16 => .bool true
  | 17 => undef
  | 18 => undef
  | 19 => undef
  | 20 => undef
  | 21 => undef
  | 22 => undef
  | 23 => undef
  | 24 => undef
  | 25 => undef
  | 26 => undef
  | 27 => undef
  | 28 => .bool true
  | 29 => .bool true
  | 30 => undef
  | 31 => undef
  | 32 => undef
  | 33 => undef
  | 34 => undef
  | 35 => undef
  | 36 => undef
  | 37 => .bool true
  | _ => undef
set_option maxRecDepth 100000 in
set_option maxHeartbeats 4000000 in
theorem rbond1 (c0 : Code) (hc : c0 = coderbond1 Tryz.f51.body) (bq off n c k : Nat) (x : Bond) (a : Act) (w : World) (Q : Exit → Act → World → Prop)
    (hT : a.tmps.size = 51) (t0 : a.tmps.getD 0 undef = .slice (some ⟨bq, off, none⟩) n c) (t3 : a.tmps.getD 3 undef = .int .i64 k)
    (CE : ∀ W, Below w.heap.size w W → W.cell? ⟨bq, off + k * 5, none⟩ = some (.int .i64 x.a.pit) ∧ W.cell? ⟨bq, off + k * 5 + 1, none⟩ = some (.int .i64 x.a.layer) ∧ W.cell? ⟨bq, off + k * 5 + 2, none⟩ = some (.int .i64 x.b.pit) ∧ W.cell? ⟨bq, off + k * 5 + 3, none⟩ = some (.int .i64 x.b.layer) ∧ W.cell? ⟨bq, off + k * 5 + 4, none⟩ = some (.int .i64 x.by_)) (hkn : k < n) (h1 : isPlaceB x.a.pit x.a.layer = false)
    (hQ : ∀ W, (fun W => Below w.heap.size w W) W → Q .normal { tmps := ((((((((((((((((((((((((((((((((((((((a.tmps.setIfInBounds 13 (.slice (some ⟨bq, off, none⟩) n c)).setIfInBounds 14 (.int .i64 k)).setIfInBounds 15 (.pointer (some ⟨bq, off + k * 5, none⟩))).setIfInBounds 16 (.pointer (some ⟨bq, off + k * 5, none⟩))).setIfInBounds 17 (.agg #[.int .i64 x.a.pit, .int .i64 x.a.layer])).setIfInBounds 18 (.bool false)).setIfInBounds 19 (.bool true)).setIfInBounds 20 (.bool true)).setIfInBounds 21 (undef)).setIfInBounds 22 (undef)).setIfInBounds 23 (undef)).setIfInBounds 24 (undef)).setIfInBounds 25 (undef)).setIfInBounds 26 (undef)).setIfInBounds 27 (undef)).setIfInBounds 28 (.bool true)).setIfInBounds 29 (.bool true)).setIfInBounds 30 (undef)).setIfInBounds 31 (undef)).setIfInBounds 32 (undef)).setIfInBounds 33 (undef)).setIfInBounds 34 (undef)).setIfInBounds 35 (undef)).setIfInBounds 36 (undef)).setIfInBounds 37 (undef)).setIfInBounds 38 (undef)).setIfInBounds 39 (undef)).setIfInBounds 40 (undef)).setIfInBounds 41 (.bool true)).setIfInBounds 42 (.bool true)).setIfInBounds 43 (undef)).setIfInBounds 44 (undef)).setIfInBounds 45 (undef)).setIfInBounds 46 (undef)).setIfInBounds 47 (undef)).setIfInBounds 48 (undef)).setIfInBounds 49 (undef)).setIfInBounds 50 (.bool true)), defers := a.defers } W) :
    c0.wp Tryz.prog Q a w := by
  subst hc
  unfold coderbond1 Tryz.f51
  dsimp only
  refine wpIn_wide.1 (wpIn_region_vals (nn := 5) 51 (by kernel_rfl) (by kernel_rfl) hT.symm (valrbond1 bq off n c k x) (fun W => Below w.heap.size w W) ((Below.refl _ _).drew) ?_ ?_)
  · intro listed i o b W hi ho h
    obtain ⟨c0, c1, c2, c3, c4⟩ := CE W h.glob
    clear hQ
    obtain ⟨hun, oi, hoi, hall⟩ := mem_ready.1 hi
    have : oi = o := Option.some.inj (hoi.symm.trans ho)
    subst this
    clear hoi hi
    have hlt : i < 38 := (by have := (Array.getElem?_eq_some_iff.1 ho).1; simpa using this)
    have hun' : listed.getD i false = false := getD_both hun
    rcases (by omega : i = 0 ∨ i = 1 ∨ i = 2 ∨ i = 3 ∨ i = 4 ∨ i = 5 ∨ i = 6 ∨ i = 7 ∨ i = 8 ∨ i = 9 ∨ i = 10 ∨ i = 11 ∨ i = 12 ∨ i = 13 ∨ i = 14 ∨ i = 15 ∨ i = 16 ∨ i = 17 ∨ i = 18 ∨ i = 19 ∨ i = 20 ∨ i = 21 ∨ i = 22 ∨ i = 23 ∨ i = 24 ∨ i = 25 ∨ i = 26 ∨ i = 27 ∨ i = 28 ∨ i = 29 ∨ i = 30 ∨ i = 31 ∨ i = 32 ∨ i = 33 ∨ i = 34 ∨ i = 35 ∨ i = 36 ∨ i = 37) with rfl | rfl | rfl | rfl | rfl | rfl | rfl | rfl | rfl | rfl | rfl | rfl | rfl | rfl | rfl | rfl | rfl | rfl | rfl | rfl | rfl | rfl | rfl | rfl | rfl | rfl | rfl | rfl | rfl | rfl | rfl | rfl | rfl | rfl | rfl | rfl | rfl | rfl
    all_goals simp only [List.getElem?_toArray, List.getElem?_cons_zero, List.getElem?_cons_succ] at ho
    all_goals cases ho
    · -- 0
      rw [if_pos (show Region.wanted _ _ = true from rfl)]
      have q0 := (h.tab.old 0 (dst_no h.tab (by kernel_rfl))).trans t0
      have q0' : b.tmps[0]?.getD undef = _ := (by simpa using q0)
      refine wide_val (v := .slice (some ⟨bq, off, none⟩) n c) (by go_simp; try rfl) ⟨rfl, h.glob⟩
    · -- 1
      rw [if_pos (show Region.wanted _ _ = true from rfl)]
      have q3 := (h.tab.old 3 (dst_no h.tab (by kernel_rfl))).trans t3
      have q3' : b.tmps[3]?.getD undef = _ := (by simpa using q3)
      refine wide_val (v := .int .i64 k) (by go_simp; try rfl) ⟨rfl, h.glob⟩
    · -- 2
      rw [if_pos (show Region.wanted _ _ = true from rfl)]
      have l0 := hall ⟨0, .data⟩ (by simp) rfl
      have e0 : b.tmps.getD 13 undef = .slice (some ⟨bq, off, none⟩) n c := h.val 0 13 rfl l0
      have e0' : b.tmps[13]?.getD undef = .slice (some ⟨bq, off, none⟩) n c := (by simpa using e0)
      have l1 := hall ⟨1, .data⟩ (by simp) rfl
      have e1 : b.tmps.getD 14 undef = .int .i64 k := h.val 1 14 rfl l1
      have e1' : b.tmps[14]?.getD undef = .int .i64 k := (by simpa using e1)
      refine wide_val (v := .pointer (some ⟨bq, off + k * 5, none⟩)) (by go_simp; try rfl) ⟨rfl, h.glob⟩
    · -- 3
      rw [if_pos (show Region.wanted _ _ = true from rfl)]
      have l2 := hall ⟨2, .data⟩ (by simp) rfl
      have e2 : b.tmps.getD 15 undef = .pointer (some ⟨bq, off + k * 5, none⟩) := h.val 2 15 rfl l2
      have e2' : b.tmps[15]?.getD undef = .pointer (some ⟨bq, off + k * 5, none⟩) := (by simpa using e2)
      refine wide_val (v := .pointer (some ⟨bq, off + k * 5, none⟩)) (by go_simp; try rfl) ⟨rfl, h.glob⟩
    · -- 4
      rw [if_pos (show Region.wanted _ _ = true from rfl)]
      have l3 := hall ⟨3, .data⟩ (by simp) rfl
      have e3 : b.tmps.getD 16 undef = .pointer (some ⟨bq, off + k * 5, none⟩) := h.val 3 16 rfl l3
      have e3' : b.tmps[16]?.getD undef = .pointer (some ⟨bq, off + k * 5, none⟩) := (by simpa using e3)
      refine wide_val (v := .agg #[.int .i64 x.a.pit, .int .i64 x.a.layer]) (by go_simp; try rfl) ⟨rfl, h.glob⟩
    · -- 5
      rw [if_pos (show Region.wanted _ _ = true from rfl)]
      have l4 := hall ⟨4, .data⟩ (by simp) rfl
      have e4 : b.tmps.getD 17 undef = .agg #[.int .i64 x.a.pit, .int .i64 x.a.layer] := h.val 4 17 rfl l4
      have e4' : b.tmps[17]?.getD undef = .agg #[.int .i64 x.a.pit, .int .i64 x.a.layer] := (by simpa using e4)
      refine wide_call (f := 101) (args := #[.agg #[.int .i64 x.a.pit, .int .i64 x.a.layer]]) (by go_simp <;> (try simpa [Act.eval] using e4)) ((rIsPlace_any _ _ W).mono ?_)
      rintro e w' ⟨rfl, hb'⟩
      rw [h1]
      exact ⟨_, rfl, rfl, h.glob.trans (hb'.mono h.glob.size)⟩
    · -- 6
      rw [if_pos (show Region.wanted _ _ = true from rfl)]
      have l5 := hall ⟨5, .data⟩ (by simp) rfl
      have e5 : b.tmps.getD 18 undef = .bool false := h.val 5 18 rfl l5
      have e5' : b.tmps[18]?.getD undef = .bool false := (by simpa using e5)
      refine wide_val (v := .bool true) (by go_simp; try rfl) ⟨rfl, h.glob⟩
    · -- 7
      rw [if_pos (show Region.wanted _ _ = true from rfl)]
      have l6 := hall ⟨6, .data⟩ (by simp) rfl
      have e6 : b.tmps.getD 19 undef = .bool true := h.val 6 19 rfl l6
      have e6' : b.tmps[19]?.getD undef = .bool true := (by simpa using e6)
      refine wide_val (v := .bool true) (by go_simp; try rfl) ⟨rfl, h.glob⟩
    · -- 8
      have lg := hall ⟨7, .guard⟩ (by simp) rfl
      rw [wanted_of h (j := 7) (d := 20) (g := false) (v := true) rfl rfl lg rfl]
      exact rfl
    · -- 9
      have lg := hall ⟨7, .guard⟩ (by simp) rfl
      rw [wanted_of h (j := 7) (d := 20) (g := false) (v := true) rfl rfl lg rfl]
      exact rfl
    · -- 10
      have lg := hall ⟨7, .guard⟩ (by simp) rfl
      rw [wanted_of h (j := 7) (d := 20) (g := false) (v := true) rfl rfl lg rfl]
      exact rfl
    · -- 11
      have lg := hall ⟨7, .guard⟩ (by simp) rfl
      rw [wanted_of h (j := 7) (d := 20) (g := false) (v := true) rfl rfl lg rfl]
      exact rfl
    · -- 12
      have lg := hall ⟨7, .guard⟩ (by simp) rfl
      rw [wanted_of h (j := 7) (d := 20) (g := false) (v := true) rfl rfl lg rfl]
      exact rfl
    · -- 13
      have lg := hall ⟨7, .guard⟩ (by simp) rfl
      rw [wanted_of h (j := 7) (d := 20) (g := false) (v := true) rfl rfl lg rfl]
      exact rfl
    · -- 14
      have lg := hall ⟨7, .guard⟩ (by simp) rfl
      rw [wanted_of h (j := 7) (d := 20) (g := false) (v := true) rfl rfl lg rfl]
      exact rfl
    · -- 15
      rw [if_pos (show Region.wanted _ _ = true from rfl)]
      have l7 := hall ⟨7, .data⟩ (by simp) rfl
      have e7 : b.tmps.getD 20 undef = .bool true := h.val 7 20 rfl l7
      have e7' : b.tmps[20]?.getD undef = .bool true := (by simpa using e7)
      have l14 := hall ⟨14, .data⟩ (by simp) rfl
      have e14 : b.tmps.getD 27 undef = undef := h.val 14 27 rfl l14
      have e14' : b.tmps[27]?.getD undef = undef := (by simpa using e14)
      refine wide_val (v := .bool true) (by go_simp; try rfl) ⟨rfl, h.glob⟩
    · -- 16
      rw [if_pos (show Region.wanted _ _ = true from rfl)]
      have l15 := hall ⟨15, .data⟩ (by simp) rfl
      have e15 : b.tmps.getD 28 undef = .bool true := h.val 15 28 rfl l15
      have e15' : b.tmps[28]?.getD undef = .bool true := (by simpa using e15)
      refine wide_val (v := .bool true) (by go_simp; try rfl) ⟨rfl, h.glob⟩
    · -- 17
      have lg := hall ⟨16, .guard⟩ (by simp) rfl
      rw [wanted_of h (j := 16) (d := 29) (g := false) (v := true) rfl rfl lg rfl]
      exact rfl
    · -- 18
      have lg := hall ⟨16, .guard⟩ (by simp) rfl
      rw [wanted_of h (j := 16) (d := 29) (g := false) (v := true) rfl rfl lg rfl]
      exact rfl
    · -- 19
      have lg := hall ⟨16, .guard⟩ (by simp) rfl
      rw [wanted_of h (j := 16) (d := 29) (g := false) (v := true) rfl rfl lg rfl]
      exact rfl
    · -- 20
      have lg := hall ⟨16, .guard⟩ (by simp) rfl
      rw [wanted_of h (j := 16) (d := 29) (g := false) (v := true) rfl rfl lg rfl]
      exact rfl
    · -- 21
      have lg := hall ⟨16, .guard⟩ (by simp) rfl
      rw [wanted_of h (j := 16) (d := 29) (g := false) (v := true) rfl rfl lg rfl]
      exact rfl
    · -- 22
      have lg := hall ⟨16, .guard⟩ (by simp) rfl
      rw [wanted_of h (j := 16) (d := 29) (g := false) (v := true) rfl rfl lg rfl]
      exact rfl
    · -- 23
      have lg := hall ⟨16, .guard⟩ (by simp) rfl
      rw [wanted_of h (j := 16) (d := 29) (g := false) (v := true) rfl rfl lg rfl]
      exact rfl
    · -- 24
      have lg := hall ⟨16, .guard⟩ (by simp) rfl
      rw [wanted_of h (j := 16) (d := 29) (g := false) (v := true) rfl rfl lg rfl]
      exact rfl
    · -- 25
      have lg := hall ⟨16, .guard⟩ (by simp) rfl
      rw [wanted_of h (j := 16) (d := 29) (g := false) (v := true) rfl rfl lg rfl]
      exact rfl
    · -- 26
      have lg := hall ⟨16, .guard⟩ (by simp) rfl
      rw [wanted_of h (j := 16) (d := 29) (g := false) (v := true) rfl rfl lg rfl]
      exact rfl
    · -- 27
      have lg := hall ⟨16, .guard⟩ (by simp) rfl
      rw [wanted_of h (j := 16) (d := 29) (g := false) (v := true) rfl rfl lg rfl]
      exact rfl
    · -- 28
      rw [if_pos (show Region.wanted _ _ = true from rfl)]
      have l16 := hall ⟨16, .data⟩ (by simp) rfl
      have e16 : b.tmps.getD 29 undef = .bool true := h.val 16 29 rfl l16
      have e16' : b.tmps[29]?.getD undef = .bool true := (by simpa using e16)
      have l27 := hall ⟨27, .data⟩ (by simp) rfl
      have e27 : b.tmps.getD 40 undef = undef := h.val 27 40 rfl l27
      have e27' : b.tmps[40]?.getD undef = undef := (by simpa using e27)
      refine wide_val (v := .bool true) (by go_simp; try rfl) ⟨rfl, h.glob⟩
    · -- 29
      rw [if_pos (show Region.wanted _ _ = true from rfl)]
      have l28 := hall ⟨28, .data⟩ (by simp) rfl
      have e28 : b.tmps.getD 41 undef = .bool true := h.val 28 41 rfl l28
      have e28' : b.tmps[41]?.getD undef = .bool true := (by simpa using e28)
      refine wide_val (v := .bool true) (by go_simp; try rfl) ⟨rfl, h.glob⟩
    · -- 30
      have lg := hall ⟨29, .guard⟩ (by simp) rfl
      rw [wanted_of h (j := 29) (d := 42) (g := false) (v := true) rfl rfl lg rfl]
      exact rfl
    · -- 31
      have lg := hall ⟨29, .guard⟩ (by simp) rfl
      rw [wanted_of h (j := 29) (d := 42) (g := false) (v := true) rfl rfl lg rfl]
      exact rfl
    · -- 32
      have lg := hall ⟨29, .guard⟩ (by simp) rfl
      rw [wanted_of h (j := 29) (d := 42) (g := false) (v := true) rfl rfl lg rfl]
      exact rfl
    · -- 33
      have lg := hall ⟨29, .guard⟩ (by simp) rfl
      rw [wanted_of h (j := 29) (d := 42) (g := false) (v := true) rfl rfl lg rfl]
      exact rfl
    · -- 34
      have lg := hall ⟨29, .guard⟩ (by simp) rfl
      rw [wanted_of h (j := 29) (d := 42) (g := false) (v := true) rfl rfl lg rfl]
      exact rfl
    · -- 35
      have lg := hall ⟨29, .guard⟩ (by simp) rfl
      rw [wanted_of h (j := 29) (d := 42) (g := false) (v := true) rfl rfl lg rfl]
      exact rfl
    · -- 36
      have lg := hall ⟨29, .guard⟩ (by simp) rfl
      rw [wanted_of h (j := 29) (d := 42) (g := false) (v := true) rfl rfl lg rfl]
      exact rfl
    · -- 37
      rw [if_pos (show Region.wanted _ _ = true from rfl)]
      have l29 := hall ⟨29, .data⟩ (by simp) rfl
      have e29 : b.tmps.getD 42 undef = .bool true := h.val 29 42 rfl l29
      have e29' : b.tmps[42]?.getD undef = .bool true := (by simpa using e29)
      have l36 := hall ⟨36, .data⟩ (by simp) rfl
      have e36 : b.tmps.getD 49 undef = undef := h.val 36 49 rfl l36
      have e36' : b.tmps[49]?.getD undef = undef := (by simpa using e36)
      refine wide_val (v := .bool true) (by go_simp; try rfl) ⟨rfl, h.glob⟩
  · intro W hg
    have := hQ W hg
    simp only [List.size_toArray, bareL, bare, List.map_cons, List.map_nil, List.length_cons, List.length_nil, Nat.reduceAdd, framed, dstOf, List.getElem?_toArray, List.getElem?_cons_zero, List.getElem?_cons_succ, Option.bind_some, valrbond1]
    exact this
def coderbond2 : Option Code → Code
  | some (.seq _ (.seq _ (.seq (.seq _ (.block _ (.loop (.seq _ (.seq (.block _ (.seq c _)) _))))) _))) => c
  | _ => .skip
def valrbond2 (bq off n c k : Nat) (x : Bond) : Nat → Value
  | 0 => .slice (some ⟨bq, off, none⟩) n c
  | 1 => .int .i64 k
  | 2 => .pointer (some ⟨bq, off + k * 5, none⟩)
  | 3 => .pointer (some ⟨bq, off + k * 5, none⟩)
  | 4 => .agg #[.int .i64 x.a.pit, .int .i64 x.a.layer]
  | 5 => .bool true
  | 6 => .bool false
  | 7 => .bool false
  | 8 => .slice (some ⟨bq, off, none⟩) n c
  | 9 => .int .i64 k
  | 10 => .pointer (some ⟨bq, off + k * 5, none⟩)
  | 11 => .pointer (some ⟨bq, off + k * 5 + 2, none⟩)
  | 12 => .agg #[.int .i64 x.b.pit, .int .i64 x.b.layer]
  | 13 => .bool false
  | 14 => .bool true
  | 15 => .bool true
  | 16 => .bool true
  | 17 => undef
  | 18 => undef
  | 19 => undef
  | 20 => undef
  | 21 => undef
  | 22 => undef
  | 23 => undef
  | 24 => undef
  | 25 => undef
  | 26 => undef
  | 27 => undef
  | 28 => .bool true
  | 29 => .bool true
  | 30 => undef
  | 31 => undef
  | 32 => undef
  | 33 => undef
  | 34 => undef
  | 35 => undef
  | 36 => undef
  | 37 => .bool true
  | _ => undef
set_option maxRecDepth 100000 in
set_option maxHeartbeats 4000000 in
theorem rbond2 (c0 : Code) (hc : c0 = coderbond2 Tryz.f51.body) (bq off n c k : Nat) (x : Bond) (a : Act) (w : World) (Q : Exit → Act → World → Prop)
    (hT : a.tmps.size = 51) (t0 : a.tmps.getD 0 undef = .slice (some ⟨bq, off, none⟩) n c) (t3 : a.tmps.getD 3 undef = .int .i64 k)
    (CE : ∀ W, Below w.heap.size w W → W.cell? ⟨bq, off + k * 5, none⟩ = some (.int .i64 x.a.pit) ∧ W.cell? ⟨bq, off + k * 5 + 1, none⟩ = some (.int .i64 x.a.layer) ∧ W.cell? ⟨bq, off + k * 5 + 2, none⟩ = some (.int .i64 x.b.pit) ∧ W.cell? ⟨bq, off + k * 5 + 3, none⟩ = some (.int .i64 x.b.layer) ∧ W.cell? ⟨bq, off + k * 5 + 4, none⟩ = some (.int .i64 x.by_)) (hkn : k < n) (h1 : isPlaceB x.a.pit x.a.layer = true) (h2 : isPlaceB x.b.pit x.b.layer = false)
    (hQ : ∀ W, (fun W => Below w.heap.size w W) W → Q .normal { tmps := ((((((((((((((((((((((((((((((((((((((a.tmps.setIfInBounds 13 (.slice (some ⟨bq, off, none⟩) n c)).setIfInBounds 14 (.int .i64 k)).setIfInBounds 15 (.pointer (some ⟨bq, off + k * 5, none⟩))).setIfInBounds 16 (.pointer (some ⟨bq, off + k * 5, none⟩))).setIfInBounds 17 (.agg #[.int .i64 x.a.pit, .int .i64 x.a.layer])).setIfInBounds 18 (.bool true)).setIfInBounds 19 (.bool false)).setIfInBounds 20 (.bool false)).setIfInBounds 21 (.slice (some ⟨bq, off, none⟩) n c)).setIfInBounds 22 (.int .i64 k)).setIfInBounds 23 (.pointer (some ⟨bq, off + k * 5, none⟩))).setIfInBounds 24 (.pointer (some ⟨bq, off + k * 5 + 2, none⟩))).setIfInBounds 25 (.agg #[.int .i64 x.b.pit, .int .i64 x.b.layer])).setIfInBounds 26 (.bool false)).setIfInBounds 27 (.bool true)).setIfInBounds 28 (.bool true)).setIfInBounds 29 (.bool true)).setIfInBounds 30 (undef)).setIfInBounds 31 (undef)).setIfInBounds 32 (undef)).setIfInBounds 33 (undef)).setIfInBounds 34 (undef)).setIfInBounds 35 (undef)).setIfInBounds 36 (undef)).setIfInBounds 37 (undef)).setIfInBounds 38 (undef)).setIfInBounds 39 (undef)).setIfInBounds 40 (undef)).setIfInBounds 41 (.bool true)).setIfInBounds 42 (.bool true)).setIfInBounds 43 (undef)).setIfInBounds 44 (undef)).setIfInBounds 45 (undef)).setIfInBounds 46 (undef)).setIfInBounds 47 (undef)).setIfInBounds 48 (undef)).setIfInBounds 49 (undef)).setIfInBounds 50 (.bool true)), defers := a.defers } W) :
    c0.wp Tryz.prog Q a w := by
  subst hc
  unfold coderbond2 Tryz.f51
  dsimp only
  refine wpIn_wide.1 (wpIn_region_vals (nn := 5) 51 (by kernel_rfl) (by kernel_rfl) hT.symm (valrbond2 bq off n c k x) (fun W => Below w.heap.size w W) ((Below.refl _ _).drew) ?_ ?_)
  · intro listed i o b W hi ho h
    obtain ⟨c0, c1, c2, c3, c4⟩ := CE W h.glob
    clear hQ
    obtain ⟨hun, oi, hoi, hall⟩ := mem_ready.1 hi
    have : oi = o := Option.some.inj (hoi.symm.trans ho)
    subst this
    clear hoi hi
    have hlt : i < 38 := (by have := (Array.getElem?_eq_some_iff.1 ho).1; simpa using this)
    have hun' : listed.getD i false = false := getD_both hun
    rcases (by omega : i = 0 ∨ i = 1 ∨ i = 2 ∨ i = 3 ∨ i = 4 ∨ i = 5 ∨ i = 6 ∨ i = 7 ∨ i = 8 ∨ i = 9 ∨ i = 10 ∨ i = 11 ∨ i = 12 ∨ i = 13 ∨ i = 14 ∨ i = 15 ∨ i = 16 ∨ i = 17 ∨ i = 18 ∨ i = 19 ∨ i = 20 ∨ i = 21 ∨ i = 22 ∨ i = 23 ∨ i = 24 ∨ i = 25 ∨ i = 26 ∨ i = 27 ∨ i = 28 ∨ i = 29 ∨ i = 30 ∨ i = 31 ∨ i = 32 ∨ i = 33 ∨ i = 34 ∨ i = 35 ∨ i = 36 ∨ i = 37) with rfl | rfl | rfl | rfl | rfl | rfl | rfl | rfl | rfl | rfl | rfl | rfl | rfl | rfl | rfl | rfl | rfl | rfl | rfl | rfl | rfl | rfl | rfl | rfl | rfl | rfl | rfl | rfl | rfl | rfl | rfl | rfl | rfl | rfl | rfl | rfl | rfl | rfl
    all_goals simp only [List.getElem?_toArray, List.getElem?_cons_zero, List.getElem?_cons_succ] at ho
    all_goals cases ho
    · -- 0
      rw [if_pos (show Region.wanted _ _ = true from rfl)]
      have q0 := (h.tab.old 0 (dst_no h.tab (by kernel_rfl))).trans t0
      have q0' : b.tmps[0]?.getD undef = _ := (by simpa using q0)
      refine wide_val (v := .slice (some ⟨bq, off, none⟩) n c) (by go_simp; try rfl) ⟨rfl, h.glob⟩
    · -- 1
      rw [if_pos (show Region.wanted _ _ = true from rfl)]
      have q3 := (h.tab.old 3 (dst_no h.tab (by kernel_rfl))).trans t3
      have q3' : b.tmps[3]?.getD undef = _ := (by simpa using q3)
      refine wide_val (v := .int .i64 k) (by go_simp; try rfl) ⟨rfl, h.glob⟩
    · -- 2
      rw [if_pos (show Region.wanted _ _ = true from rfl)]
      have l0 := hall ⟨0, .data⟩ (by simp) rfl
      have e0 : b.tmps.getD 13 undef = .slice (some ⟨bq, off, none⟩) n c := h.val 0 13 rfl l0
      have e0' : b.tmps[13]?.getD undef = .slice (some ⟨bq, off, none⟩) n c := (by simpa using e0)
      have l1 := hall ⟨1, .data⟩ (by simp) rfl
      have e1 : b.tmps.getD 14 undef = .int .i64 k := h.val 1 14 rfl l1
      have e1' : b.tmps[14]?.getD undef = .int .i64 k := (by simpa using e1)
      refine wide_val (v := .pointer (some ⟨bq, off + k * 5, none⟩)) (by go_simp; try rfl) ⟨rfl, h.glob⟩
    · -- 3
      rw [if_pos (show Region.wanted _ _ = true from rfl)]
      have l2 := hall ⟨2, .data⟩ (by simp) rfl
      have e2 : b.tmps.getD 15 undef = .pointer (some ⟨bq, off + k * 5, none⟩) := h.val 2 15 rfl l2
      have e2' : b.tmps[15]?.getD undef = .pointer (some ⟨bq, off + k * 5, none⟩) := (by simpa using e2)
      refine wide_val (v := .pointer (some ⟨bq, off + k * 5, none⟩)) (by go_simp; try rfl) ⟨rfl, h.glob⟩
    · -- 4
      rw [if_pos (show Region.wanted _ _ = true from rfl)]
      have l3 := hall ⟨3, .data⟩ (by simp) rfl
      have e3 : b.tmps.getD 16 undef = .pointer (some ⟨bq, off + k * 5, none⟩) := h.val 3 16 rfl l3
      have e3' : b.tmps[16]?.getD undef = .pointer (some ⟨bq, off + k * 5, none⟩) := (by simpa using e3)
      refine wide_val (v := .agg #[.int .i64 x.a.pit, .int .i64 x.a.layer]) (by go_simp; try rfl) ⟨rfl, h.glob⟩
    · -- 5
      rw [if_pos (show Region.wanted _ _ = true from rfl)]
      have l4 := hall ⟨4, .data⟩ (by simp) rfl
      have e4 : b.tmps.getD 17 undef = .agg #[.int .i64 x.a.pit, .int .i64 x.a.layer] := h.val 4 17 rfl l4
      have e4' : b.tmps[17]?.getD undef = .agg #[.int .i64 x.a.pit, .int .i64 x.a.layer] := (by simpa using e4)
      refine wide_call (f := 101) (args := #[.agg #[.int .i64 x.a.pit, .int .i64 x.a.layer]]) (by go_simp <;> (try simpa [Act.eval] using e4)) ((rIsPlace_any _ _ W).mono ?_)
      rintro e w' ⟨rfl, hb'⟩
      rw [h1]
      exact ⟨_, rfl, rfl, h.glob.trans (hb'.mono h.glob.size)⟩
    · -- 6
      rw [if_pos (show Region.wanted _ _ = true from rfl)]
      have l5 := hall ⟨5, .data⟩ (by simp) rfl
      have e5 : b.tmps.getD 18 undef = .bool true := h.val 5 18 rfl l5
      have e5' : b.tmps[18]?.getD undef = .bool true := (by simpa using e5)
      refine wide_val (v := .bool false) (by go_simp; try rfl) ⟨rfl, h.glob⟩
    · -- 7
      rw [if_pos (show Region.wanted _ _ = true from rfl)]
      have l6 := hall ⟨6, .data⟩ (by simp) rfl
      have e6 : b.tmps.getD 19 undef = .bool false := h.val 6 19 rfl l6
      have e6' : b.tmps[19]?.getD undef = .bool false := (by simpa using e6)
      refine wide_val (v := .bool false) (by go_simp; try rfl) ⟨rfl, h.glob⟩
    · -- 8
      have lg := hall ⟨7, .guard⟩ (by simp) rfl
      rw [wanted_of h (j := 7) (d := 20) (g := false) (v := false) rfl rfl lg rfl]
      rw [if_pos (show (false == false) = true from rfl)]
      have q0 := (h.tab.old 0 (dst_no h.tab (by kernel_rfl))).trans t0
      have q0' : b.tmps[0]?.getD undef = _ := (by simpa using q0)
      refine wide_val (v := .slice (some ⟨bq, off, none⟩) n c) (by go_simp; try rfl) ⟨rfl, h.glob⟩
    · -- 9
      have lg := hall ⟨7, .guard⟩ (by simp) rfl
      rw [wanted_of h (j := 7) (d := 20) (g := false) (v := false) rfl rfl lg rfl]
      rw [if_pos (show (false == false) = true from rfl)]
      have q3 := (h.tab.old 3 (dst_no h.tab (by kernel_rfl))).trans t3
      have q3' : b.tmps[3]?.getD undef = _ := (by simpa using q3)
      refine wide_val (v := .int .i64 k) (by go_simp; try rfl) ⟨rfl, h.glob⟩
    · -- 10
      have lg := hall ⟨7, .guard⟩ (by simp) rfl
      rw [wanted_of h (j := 7) (d := 20) (g := false) (v := false) rfl rfl lg rfl]
      rw [if_pos (show (false == false) = true from rfl)]
      have l8 := hall ⟨8, .data⟩ (by simp) rfl
      have e8 : b.tmps.getD 21 undef = .slice (some ⟨bq, off, none⟩) n c := h.val 8 21 rfl l8
      have e8' : b.tmps[21]?.getD undef = .slice (some ⟨bq, off, none⟩) n c := (by simpa using e8)
      have l9 := hall ⟨9, .data⟩ (by simp) rfl
      have e9 : b.tmps.getD 22 undef = .int .i64 k := h.val 9 22 rfl l9
      have e9' : b.tmps[22]?.getD undef = .int .i64 k := (by simpa using e9)
      refine wide_val (v := .pointer (some ⟨bq, off + k * 5, none⟩)) (by go_simp; try rfl) ⟨rfl, h.glob⟩
    · -- 11
      have lg := hall ⟨7, .guard⟩ (by simp) rfl
      rw [wanted_of h (j := 7) (d := 20) (g := false) (v := false) rfl rfl lg rfl]
      rw [if_pos (show (false == false) = true from rfl)]
      have l10 := hall ⟨10, .data⟩ (by simp) rfl
      have e10 : b.tmps.getD 23 undef = .pointer (some ⟨bq, off + k * 5, none⟩) := h.val 10 23 rfl l10
      have e10' : b.tmps[23]?.getD undef = .pointer (some ⟨bq, off + k * 5, none⟩) := (by simpa using e10)
      refine wide_val (v := .pointer (some ⟨bq, off + k * 5 + 2, none⟩)) (by go_simp; try rfl) ⟨rfl, h.glob⟩
    · -- 12
      have lg := hall ⟨7, .guard⟩ (by simp) rfl
      rw [wanted_of h (j := 7) (d := 20) (g := false) (v := false) rfl rfl lg rfl]
      rw [if_pos (show (false == false) = true from rfl)]
      have l11 := hall ⟨11, .data⟩ (by simp) rfl
      have e11 : b.tmps.getD 24 undef = .pointer (some ⟨bq, off + k * 5 + 2, none⟩) := h.val 11 24 rfl l11
      have e11' : b.tmps[24]?.getD undef = .pointer (some ⟨bq, off + k * 5 + 2, none⟩) := (by simpa using e11)
      refine wide_val (v := .agg #[.int .i64 x.b.pit, .int .i64 x.b.layer]) (by go_simp; try rfl) ⟨rfl, h.glob⟩
    · -- 13
      have lg := hall ⟨7, .guard⟩ (by simp) rfl
      rw [wanted_of h (j := 7) (d := 20) (g := false) (v := false) rfl rfl lg rfl]
      rw [if_pos (show (false == false) = true from rfl)]
      have l12 := hall ⟨12, .data⟩ (by simp) rfl
      have e12 : b.tmps.getD 25 undef = .agg #[.int .i64 x.b.pit, .int .i64 x.b.layer] := h.val 12 25 rfl l12
      have e12' : b.tmps[25]?.getD undef = .agg #[.int .i64 x.b.pit, .int .i64 x.b.layer] := (by simpa using e12)
      refine wide_call (f := 101) (args := #[.agg #[.int .i64 x.b.pit, .int .i64 x.b.layer]]) (by go_simp <;> (try simpa [Act.eval] using e12)) ((rIsPlace_any _ _ W).mono ?_)
      rintro e w' ⟨rfl, hb'⟩
      rw [h2]
      exact ⟨_, rfl, rfl, h.glob.trans (hb'.mono h.glob.size)⟩
    · -- 14
      have lg := hall ⟨7, .guard⟩ (by simp) rfl
      rw [wanted_of h (j := 7) (d := 20) (g := false) (v := false) rfl rfl lg rfl]
      rw [if_pos (show (false == false) = true from rfl)]
      have l13 := hall ⟨13, .data⟩ (by simp) rfl
      have e13 : b.tmps.getD 26 undef = .bool false := h.val 13 26 rfl l13
      have e13' : b.tmps[26]?.getD undef = .bool false := (by simpa using e13)
      refine wide_val (v := .bool true) (by go_simp; try rfl) ⟨rfl, h.glob⟩
    · -- 15
      rw [if_pos (show Region.wanted _ _ = true from rfl)]
      have l7 := hall ⟨7, .data⟩ (by simp) rfl
      have e7 : b.tmps.getD 20 undef = .bool false := h.val 7 20 rfl l7
      have e7' : b.tmps[20]?.getD undef = .bool false := (by simpa using e7)
      have l14 := hall ⟨14, .data⟩ (by simp) rfl
      have e14 : b.tmps.getD 27 undef = .bool true := h.val 14 27 rfl l14
      have e14' : b.tmps[27]?.getD undef = .bool true := (by simpa using e14)
      refine wide_val (v := .bool true) (by go_simp; try rfl) ⟨rfl, h.glob⟩
    · -- 16
      rw [if_pos (show Region.wanted _ _ = true from rfl)]
      have l15 := hall ⟨15, .data⟩ (by simp) rfl
      have e15 : b.tmps.getD 28 undef = .bool true := h.val 15 28 rfl l15
      have e15' : b.tmps[28]?.getD undef = .bool true := (by simpa using e15)
      refine wide_val (v := .bool true) (by go_simp; try rfl) ⟨rfl, h.glob⟩
    · -- 17
      have lg := hall ⟨16, .guard⟩ (by simp) rfl
      rw [wanted_of h (j := 16) (d := 29) (g := false) (v := true) rfl rfl lg rfl]
      exact rfl
    · -- 18
      have lg := hall ⟨16, .guard⟩ (by simp) rfl
      rw [wanted_of h (j := 16) (d := 29) (g := false) (v := true) rfl rfl lg rfl]
      exact rfl
    · -- 19
      have lg := hall ⟨16, .guard⟩ (by simp) rfl
      rw [wanted_of h (j := 16) (d := 29) (g := false) (v := true) rfl rfl lg rfl]
      exact rfl
    · -- 20
      have lg := hall ⟨16, .guard⟩ (by simp) rfl
      rw [wanted_of h (j := 16) (d := 29) (g := false) (v := true) rfl rfl lg rfl]
      exact rfl
    · -- 21
      have lg := hall ⟨16, .guard⟩ (by simp) rfl
      rw [wanted_of h (j := 16) (d := 29) (g := false) (v := true) rfl rfl lg rfl]
      exact rfl
    · -- 22
      have lg := hall ⟨16, .guard⟩ (by simp) rfl
      rw [wanted_of h (j := 16) (d := 29) (g := false) (v := true) rfl rfl lg rfl]
      exact rfl
    · -- 23
      have lg := hall ⟨16, .guard⟩ (by simp) rfl
      rw [wanted_of h (j := 16) (d := 29) (g := false) (v := true) rfl rfl lg rfl]
      exact rfl
    · -- 24
      have lg := hall ⟨16, .guard⟩ (by simp) rfl
      rw [wanted_of h (j := 16) (d := 29) (g := false) (v := true) rfl rfl lg rfl]
      exact rfl
    · -- 25
      have lg := hall ⟨16, .guard⟩ (by simp) rfl
      rw [wanted_of h (j := 16) (d := 29) (g := false) (v := true) rfl rfl lg rfl]
      exact rfl
    · -- 26
      have lg := hall ⟨16, .guard⟩ (by simp) rfl
      rw [wanted_of h (j := 16) (d := 29) (g := false) (v := true) rfl rfl lg rfl]
      exact rfl
    · -- 27
      have lg := hall ⟨16, .guard⟩ (by simp) rfl
      rw [wanted_of h (j := 16) (d := 29) (g := false) (v := true) rfl rfl lg rfl]
      exact rfl
    · -- 28
      rw [if_pos (show Region.wanted _ _ = true from rfl)]
      have l16 := hall ⟨16, .data⟩ (by simp) rfl
      have e16 : b.tmps.getD 29 undef = .bool true := h.val 16 29 rfl l16
      have e16' : b.tmps[29]?.getD undef = .bool true := (by simpa using e16)
      have l27 := hall ⟨27, .data⟩ (by simp) rfl
      have e27 : b.tmps.getD 40 undef = undef := h.val 27 40 rfl l27
      have e27' : b.tmps[40]?.getD undef = undef := (by simpa using e27)
      refine wide_val (v := .bool true) (by go_simp; try rfl) ⟨rfl, h.glob⟩
    · -- 29
      rw [if_pos (show Region.wanted _ _ = true from rfl)]
      have l28 := hall ⟨28, .data⟩ (by simp) rfl
      have e28 : b.tmps.getD 41 undef = .bool true := h.val 28 41 rfl l28
      have e28' : b.tmps[41]?.getD undef = .bool true := (by simpa using e28)
      refine wide_val (v := .bool true) (by go_simp; try rfl) ⟨rfl, h.glob⟩
    · -- 30
      have lg := hall ⟨29, .guard⟩ (by simp) rfl
      rw [wanted_of h (j := 29) (d := 42) (g := false) (v := true) rfl rfl lg rfl]
      exact rfl
    · -- 31
      have lg := hall ⟨29, .guard⟩ (by simp) rfl
      rw [wanted_of h (j := 29) (d := 42) (g := false) (v := true) rfl rfl lg rfl]
      exact rfl
    · -- 32
      have lg := hall ⟨29, .guard⟩ (by simp) rfl
      rw [wanted_of h (j := 29) (d := 42) (g := false) (v := true) rfl rfl lg rfl]
      exact rfl
    · -- 33
      have lg := hall ⟨29, .guard⟩ (by simp) rfl
      rw [wanted_of h (j := 29) (d := 42) (g := false) (v := true) rfl rfl lg rfl]
      exact rfl
    · -- 34
      have lg := hall ⟨29, .guard⟩ (by simp) rfl
      rw [wanted_of h (j := 29) (d := 42) (g := false) (v := true) rfl rfl lg rfl]
      exact rfl
    · -- 35
      have lg := hall ⟨29, .guard⟩ (by simp) rfl
      rw [wanted_of h (j := 29) (d := 42) (g := false) (v := true) rfl rfl lg rfl]
      exact rfl
    · -- 36
      have lg := hall ⟨29, .guard⟩ (by simp) rfl
      rw [wanted_of h (j := 29) (d := 42) (g := false) (v := true) rfl rfl lg rfl]
      exact rfl
    · -- 37
      rw [if_pos (show Region.wanted _ _ = true from rfl)]
      have l29 := hall ⟨29, .data⟩ (by simp) rfl
      have e29 : b.tmps.getD 42 undef = .bool true := h.val 29 42 rfl l29
      have e29' : b.tmps[42]?.getD undef = .bool true := (by simpa using e29)
      have l36 := hall ⟨36, .data⟩ (by simp) rfl
      have e36 : b.tmps.getD 49 undef = undef := h.val 36 49 rfl l36
      have e36' : b.tmps[49]?.getD undef = undef := (by simpa using e36)
      refine wide_val (v := .bool true) (by go_simp; try rfl) ⟨rfl, h.glob⟩
  · intro W hg
    have := hQ W hg
    simp only [List.size_toArray, bareL, bare, List.map_cons, List.map_nil, List.length_cons, List.length_nil, Nat.reduceAdd, framed, dstOf, List.getElem?_toArray, List.getElem?_cons_zero, List.getElem?_cons_succ, Option.bind_some, valrbond2]
    exact this
def coderbond3 : Option Code → Code
  | some (.seq _ (.seq _ (.seq (.seq _ (.block _ (.loop (.seq _ (.seq (.block _ (.seq c _)) _))))) _))) => c
  | _ => .skip
def valrbond3 (bq off n c k : Nat) (x : Bond) : Nat → Value
  | 0 => .slice (some ⟨bq, off, none⟩) n c
  | 1 => .int .i64 k
  | 2 => .pointer (some ⟨bq, off + k * 5, none⟩)
  | 3 => .pointer (some ⟨bq, off + k * 5, none⟩)
  | 4 => .agg #[.int .i64 x.a.pit, .int .i64 x.a.layer]
  | 5 => .bool true
  | 6 => .bool false
  | 7 => .bool false
  | 8 => .slice (some ⟨bq, off, none⟩) n c
  | 9 => .int .i64 k
  | 10 => .pointer (some ⟨bq, off + k * 5, none⟩)
  | 11 => .pointer (some ⟨bq, off + k * 5 + 2, none⟩)
  | 12 => .agg #[.int .i64 x.b.pit, .int .i64 x.b.layer]
  | 13 => .bool true
  | 14 => .bool false
  | 15 => .bool false
  | 16 => .bool false
  | 17 => .slice (some ⟨bq, off, none⟩) n c
  | 18 => .int .i64 k
  | 19 => .pointer (some ⟨bq, off + k * 5, none⟩)
  | 20 => .pointer (some ⟨bq, off + k * 5, none⟩)
  | 21 => .agg #[.int .i64 x.a.pit, .int .i64 x.a.layer]
  | 22 => .slice (some ⟨bq, off, none⟩) n c
  | 23 => .int .i64 k
  | 24 => .pointer (some ⟨bq, off + k * 5, none⟩)
  | 25 => .pointer (some ⟨bq, off + k * 5 + 2, none⟩)
  | 26 => .agg #[.int .i64 x.b.pit, .int .i64 x.b.layer]
  | 27 => .bool true
  | 28 => .bool true
  | 29 => .bool true
  | 30 => undef
  | 31 => undef
  | 32 => undef
  | 33 => undef
  | 34 => undef
  | 35 => undef
  | 36 => undef
  | 37 => .bool true
  | _ => undef
set_option maxRecDepth 100000 in
set_option maxHeartbeats 4000000 in
theorem rbond3 (c0 : Code) (hc : c0 = coderbond3 Tryz.f51.body) (bq off n c k : Nat) (x : Bond) (a : Act) (w : World) (Q : Exit → Act → World → Prop)
    (hT : a.tmps.size = 51) (t0 : a.tmps.getD 0 undef = .slice (some ⟨bq, off, none⟩) n c) (t3 : a.tmps.getD 3 undef = .int .i64 k)
    (CE : ∀ W, Below w.heap.size w W → W.cell? ⟨bq, off + k * 5, none⟩ = some (.int .i64 x.a.pit) ∧ W.cell? ⟨bq, off + k * 5 + 1, none⟩ = some (.int .i64 x.a.layer) ∧ W.cell? ⟨bq, off + k * 5 + 2, none⟩ = some (.int .i64 x.b.pit) ∧ W.cell? ⟨bq, off + k * 5 + 3, none⟩ = some (.int .i64 x.b.layer) ∧ W.cell? ⟨bq, off + k * 5 + 4, none⟩ = some (.int .i64 x.by_)) (hkn : k < n) (h1 : isPlaceB x.a.pit x.a.layer = true) (h2 : isPlaceB x.b.pit x.b.layer = true) (h3 : eqPlace x.a x.b = true)
    (hQ : ∀ W, (fun W => Below w.heap.size w W) W → Q .normal { tmps := ((((((((((((((((((((((((((((((((((((((a.tmps.setIfInBounds 13 (.slice (some ⟨bq, off, none⟩) n c)).setIfInBounds 14 (.int .i64 k)).setIfInBounds 15 (.pointer (some ⟨bq, off + k * 5, none⟩))).setIfInBounds 16 (.pointer (some ⟨bq, off + k * 5, none⟩))).setIfInBounds 17 (.agg #[.int .i64 x.a.pit, .int .i64 x.a.layer])).setIfInBounds 18 (.bool true)).setIfInBounds 19 (.bool false)).setIfInBounds 20 (.bool false)).setIfInBounds 21 (.slice (some ⟨bq, off, none⟩) n c)).setIfInBounds 22 (.int .i64 k)).setIfInBounds 23 (.pointer (some ⟨bq, off + k * 5, none⟩))).setIfInBounds 24 (.pointer (some ⟨bq, off + k * 5 + 2, none⟩))).setIfInBounds 25 (.agg #[.int .i64 x.b.pit, .int .i64 x.b.layer])).setIfInBounds 26 (.bool true)).setIfInBounds 27 (.bool false)).setIfInBounds 28 (.bool false)).setIfInBounds 29 (.bool false)).setIfInBounds 30 (.slice (some ⟨bq, off, none⟩) n c)).setIfInBounds 31 (.int .i64 k)).setIfInBounds 32 (.pointer (some ⟨bq, off + k * 5, none⟩))).setIfInBounds 33 (.pointer (some ⟨bq, off + k * 5, none⟩))).setIfInBounds 34 (.agg #[.int .i64 x.a.pit, .int .i64 x.a.layer])).setIfInBounds 35 (.slice (some ⟨bq, off, none⟩) n c)).setIfInBounds 36 (.int .i64 k)).setIfInBounds 37 (.pointer (some ⟨bq, off + k * 5, none⟩))).setIfInBounds 38 (.pointer (some ⟨bq, off + k * 5 + 2, none⟩))).setIfInBounds 39 (.agg #[.int .i64 x.b.pit, .int .i64 x.b.layer])).setIfInBounds 40 (.bool true)).setIfInBounds 41 (.bool true)).setIfInBounds 42 (.bool true)).setIfInBounds 43 (undef)).setIfInBounds 44 (undef)).setIfInBounds 45 (undef)).setIfInBounds 46 (undef)).setIfInBounds 47 (undef)).setIfInBounds 48 (undef)).setIfInBounds 49 (undef)).setIfInBounds 50 (.bool true)), defers := a.defers } W) :
    c0.wp Tryz.prog Q a w := by
  subst hc
  unfold coderbond3 Tryz.f51
  dsimp only
  refine wpIn_wide.1 (wpIn_region_vals (nn := 5) 51 (by kernel_rfl) (by kernel_rfl) hT.symm (valrbond3 bq off n c k x) (fun W => Below w.heap.size w W) ((Below.refl _ _).drew) ?_ ?_)
  · intro listed i o b W hi ho h
    obtain ⟨c0, c1, c2, c3, c4⟩ := CE W h.glob
    clear hQ
    obtain ⟨hun, oi, hoi, hall⟩ := mem_ready.1 hi
    have : oi = o := Option.some.inj (hoi.symm.trans ho)
    subst this
    clear hoi hi
    have hlt : i < 38 := (by have := (Array.getElem?_eq_some_iff.1 ho).1; simpa using this)
    have hun' : listed.getD i false = false := getD_both hun
    rcases (by omega : i = 0 ∨ i = 1 ∨ i = 2 ∨ i = 3 ∨ i = 4 ∨ i = 5 ∨ i = 6 ∨ i = 7 ∨ i = 8 ∨ i = 9 ∨ i = 10 ∨ i = 11 ∨ i = 12 ∨ i = 13 ∨ i = 14 ∨ i = 15 ∨ i = 16 ∨ i = 17 ∨ i = 18 ∨ i = 19 ∨ i = 20 ∨ i = 21 ∨ i = 22 ∨ i = 23 ∨ i = 24 ∨ i = 25 ∨ i = 26 ∨ i = 27 ∨ i = 28 ∨ i = 29 ∨ i = 30 ∨ i = 31 ∨ i = 32 ∨ i = 33 ∨ i = 34 ∨ i = 35 ∨ i = 36 ∨ i = 37) with rfl | rfl | rfl | rfl | rfl | rfl | rfl | rfl | rfl | rfl | rfl | rfl | rfl | rfl | rfl | rfl | rfl | rfl | rfl | rfl | rfl | rfl | rfl | rfl | rfl | rfl | rfl | rfl | rfl | rfl | rfl | rfl | rfl | rfl | rfl | rfl | rfl | rfl
    all_goals simp only [List.getElem?_toArray, List.getElem?_cons_zero, List.getElem?_cons_succ] at ho
    all_goals cases ho
    · -- 0
      rw [if_pos (show Region.wanted _ _ = true from rfl)]
      have q0 := (h.tab.old 0 (dst_no h.tab (by kernel_rfl))).trans t0
      have q0' : b.tmps[0]?.getD undef = _ := (by simpa using q0)
      refine wide_val (v := .slice (some ⟨bq, off, none⟩) n c) (by go_simp; try rfl) ⟨rfl, h.glob⟩
    · -- 1
      rw [if_pos (show Region.wanted _ _ = true from rfl)]
      have q3 := (h.tab.old 3 (dst_no h.tab (by kernel_rfl))).trans t3
      have q3' : b.tmps[3]?.getD undef = _ := (by simpa using q3)
      refine wide_val (v := .int .i64 k) (by go_simp; try rfl) ⟨rfl, h.glob⟩
    · -- 2
      rw [if_pos (show Region.wanted _ _ = true from rfl)]
      have l0 := hall ⟨0, .data⟩ (by simp) rfl
      have e0 : b.tmps.getD 13 undef = .slice (some ⟨bq, off, none⟩) n c := h.val 0 13 rfl l0
      have e0' : b.tmps[13]?.getD undef = .slice (some ⟨bq, off, none⟩) n c := (by simpa using e0)
      have l1 := hall ⟨1, .data⟩ (by simp) rfl
      have e1 : b.tmps.getD 14 undef = .int .i64 k := h.val 1 14 rfl l1
      have e1' : b.tmps[14]?.getD undef = .int .i64 k := (by simpa using e1)
      refine wide_val (v := .pointer (some ⟨bq, off + k * 5, none⟩)) (by go_simp; try rfl) ⟨rfl, h.glob⟩
    · -- 3
      rw [if_pos (show Region.wanted _ _ = true from rfl)]
      have l2 := hall ⟨2, .data⟩ (by simp) rfl
      have e2 : b.tmps.getD 15 undef = .pointer (some ⟨bq, off + k * 5, none⟩) := h.val 2 15 rfl l2
      have e2' : b.tmps[15]?.getD undef = .pointer (some ⟨bq, off + k * 5, none⟩) := (by simpa using e2)
      refine wide_val (v := .pointer (some ⟨bq, off + k * 5, none⟩)) (by go_simp; try rfl) ⟨rfl, h.glob⟩
    · -- 4
      rw [if_pos (show Region.wanted _ _ = true from rfl)]
      have l3 := hall ⟨3, .data⟩ (by simp) rfl
      have e3 : b.tmps.getD 16 undef = .pointer (some ⟨bq, off + k * 5, none⟩) := h.val 3 16 rfl l3
      have e3' : b.tmps[16]?.getD undef = .pointer (some ⟨bq, off + k * 5, none⟩) := (by simpa using e3)
      refine wide_val (v := .agg #[.int .i64 x.a.pit, .int .i64 x.a.layer]) (by go_simp; try rfl) ⟨rfl, h.glob⟩
    · -- 5
      rw [if_pos (show Region.wanted _ _ = true from rfl)]
      have l4 := hall ⟨4, .data⟩ (by simp) rfl
      have e4 : b.tmps.getD 17 undef = .agg #[.int .i64 x.a.pit, .int .i64 x.a.layer] := h.val 4 17 rfl l4
      have e4' : b.tmps[17]?.getD undef = .agg #[.int .i64 x.a.pit, .int .i64 x.a.layer] := (by simpa using e4)
      refine wide_call (f := 101) (args := #[.agg #[.int .i64 x.a.pit, .int .i64 x.a.layer]]) (by go_simp <;> (try simpa [Act.eval] using e4)) ((rIsPlace_any _ _ W).mono ?_)
      rintro e w' ⟨rfl, hb'⟩
      rw [h1]
      exact ⟨_, rfl, rfl, h.glob.trans (hb'.mono h.glob.size)⟩
    · -- 6
      rw [if_pos (show Region.wanted _ _ = true from rfl)]
      have l5 := hall ⟨5, .data⟩ (by simp) rfl
      have e5 : b.tmps.getD 18 undef = .bool true := h.val 5 18 rfl l5
      have e5' : b.tmps[18]?.getD undef = .bool true := (by simpa using e5)
      refine wide_val (v := .bool false) (by go_simp; try rfl) ⟨rfl, h.glob⟩
    · -- 7
      rw [if_pos (show Region.wanted _ _ = true from rfl)]
      have l6 := hall ⟨6, .data⟩ (by simp) rfl
      have e6 : b.tmps.getD 19 undef = .bool false := h.val 6 19 rfl l6
      have e6' : b.tmps[19]?.getD undef = .bool false := (by simpa using e6)
      refine wide_val (v := .bool false) (by go_simp; try rfl) ⟨rfl, h.glob⟩
    · -- 8
      have lg := hall ⟨7, .guard⟩ (by simp) rfl
      rw [wanted_of h (j := 7) (d := 20) (g := false) (v := false) rfl rfl lg rfl]
      rw [if_pos (show (false == false) = true from rfl)]
      have q0 := (h.tab.old 0 (dst_no h.tab (by kernel_rfl))).trans t0
      have q0' : b.tmps[0]?.getD undef = _ := (by simpa using q0)
      refine wide_val (v := .slice (some ⟨bq, off, none⟩) n c) (by go_simp; try rfl) ⟨rfl, h.glob⟩
    · -- 9
      have lg := hall ⟨7, .guard⟩ (by simp) rfl
      rw [wanted_of h (j := 7) (d := 20) (g := false) (v := false) rfl rfl lg rfl]
      rw [if_pos (show (false == false) = true from rfl)]
      have q3 := (h.tab.old 3 (dst_no h.tab (by kernel_rfl))).trans t3
      have q3' : b.tmps[3]?.getD undef = _ := (by simpa using q3)
      refine wide_val (v := .int .i64 k) (by go_simp; try rfl) ⟨rfl, h.glob⟩
    · -- 10
      have lg := hall ⟨7, .guard⟩ (by simp) rfl
      rw [wanted_of h (j := 7) (d := 20) (g := false) (v := false) rfl rfl lg rfl]
      rw [if_pos (show (false == false) = true from rfl)]
      have l8 := hall ⟨8, .data⟩ (by simp) rfl
      have e8 : b.tmps.getD 21 undef = .slice (some ⟨bq, off, none⟩) n c := h.val 8 21 rfl l8
      have e8' : b.tmps[21]?.getD undef = .slice (some ⟨bq, off, none⟩) n c := (by simpa using e8)
      have l9 := hall ⟨9, .data⟩ (by simp) rfl
      have e9 : b.tmps.getD 22 undef = .int .i64 k := h.val 9 22 rfl l9
      have e9' : b.tmps[22]?.getD undef = .int .i64 k := (by simpa using e9)
      refine wide_val (v := .pointer (some ⟨bq, off + k * 5, none⟩)) (by go_simp; try rfl) ⟨rfl, h.glob⟩
    · -- 11
      have lg := hall ⟨7, .guard⟩ (by simp) rfl
      rw [wanted_of h (j := 7) (d := 20) (g := false) (v := false) rfl rfl lg rfl]
      rw [if_pos (show (false == false) = true from rfl)]
      have l10 := hall ⟨10, .data⟩ (by simp) rfl
      have e10 : b.tmps.getD 23 undef = .pointer (some ⟨bq, off + k * 5, none⟩) := h.val 10 23 rfl l10
      have e10' : b.tmps[23]?.getD undef = .pointer (some ⟨bq, off + k * 5, none⟩) := (by simpa using e10)
      refine wide_val (v := .pointer (some ⟨bq, off + k * 5 + 2, none⟩)) (by go_simp; try rfl) ⟨rfl, h.glob⟩
    · -- 12
      have lg := hall ⟨7, .guard⟩ (by simp) rfl
      rw [wanted_of h (j := 7) (d := 20) (g := false) (v := false) rfl rfl lg rfl]
      rw [if_pos (show (false == false) = true from rfl)]
      have l11 := hall ⟨11, .data⟩ (by simp) rfl
      have e11 : b.tmps.getD 24 undef = .pointer (some ⟨bq, off + k * 5 + 2, none⟩) := h.val 11 24 rfl l11
      have e11' : b.tmps[24]?.getD undef = .pointer (some ⟨bq, off + k * 5 + 2, none⟩) := (by simpa using e11)
      refine wide_val (v := .agg #[.int .i64 x.b.pit, .int .i64 x.b.layer]) (by go_simp; try rfl) ⟨rfl, h.glob⟩
    · -- 13
      have lg := hall ⟨7, .guard⟩ (by simp) rfl
      rw [wanted_of h (j := 7) (d := 20) (g := false) (v := false) rfl rfl lg rfl]
      rw [if_pos (show (false == false) = true from rfl)]
      have l12 := hall ⟨12, .data⟩ (by simp) rfl
      have e12 : b.tmps.getD 25 undef = .agg #[.int .i64 x.b.pit, .int .i64 x.b.layer] := h.val 12 25 rfl l12
      have e12' : b.tmps[25]?.getD undef = .agg #[.int .i64 x.b.pit, .int .i64 x.b.layer] := (by simpa using e12)
      refine wide_call (f := 101) (args := #[.agg #[.int .i64 x.b.pit, .int .i64 x.b.layer]]) (by go_simp <;> (try simpa [Act.eval] using e12)) ((rIsPlace_any _ _ W).mono ?_)
      rintro e w' ⟨rfl, hb'⟩
      rw [h2]
      exact ⟨_, rfl, rfl, h.glob.trans (hb'.mono h.glob.size)⟩
    · -- 14
      have lg := hall ⟨7, .guard⟩ (by simp) rfl
      rw [wanted_of h (j := 7) (d := 20) (g := false) (v := false) rfl rfl lg rfl]
      rw [if_pos (show (false == false) = true from rfl)]
      have l13 := hall ⟨13, .data⟩ (by simp) rfl
      have e13 : b.tmps.getD 26 undef = .bool true := h.val 13 26 rfl l13
      have e13' : b.tmps[26]?.getD undef = .bool true := (by simpa using e13)
      refine wide_val (v := .bool false) (by go_simp; try rfl) ⟨rfl, h.glob⟩
    · -- 15
      rw [if_pos (show Region.wanted _ _ = true from rfl)]
      have l7 := hall ⟨7, .data⟩ (by simp) rfl
      have e7 : b.tmps.getD 20 undef = .bool false := h.val 7 20 rfl l7
      have e7' : b.tmps[20]?.getD undef = .bool false := (by simpa using e7)
      have l14 := hall ⟨14, .data⟩ (by simp) rfl
      have e14 : b.tmps.getD 27 undef = .bool false := h.val 14 27 rfl l14
      have e14' : b.tmps[27]?.getD undef = .bool false := (by simpa using e14)
      refine wide_val (v := .bool false) (by go_simp; try rfl) ⟨rfl, h.glob⟩
    · -- 16
      rw [if_pos (show Region.wanted _ _ = true from rfl)]
      have l15 := hall ⟨15, .data⟩ (by simp) rfl
      have e15 : b.tmps.getD 28 undef = .bool false := h.val 15 28 rfl l15
      have e15' : b.tmps[28]?.getD undef = .bool false := (by simpa using e15)
      refine wide_val (v := .bool false) (by go_simp; try rfl) ⟨rfl, h.glob⟩
    · -- 17
      have lg := hall ⟨16, .guard⟩ (by simp) rfl
      rw [wanted_of h (j := 16) (d := 29) (g := false) (v := false) rfl rfl lg rfl]
      rw [if_pos (show (false == false) = true from rfl)]
      have q0 := (h.tab.old 0 (dst_no h.tab (by kernel_rfl))).trans t0
      have q0' : b.tmps[0]?.getD undef = _ := (by simpa using q0)
      refine wide_val (v := .slice (some ⟨bq, off, none⟩) n c) (by go_simp; try rfl) ⟨rfl, h.glob⟩
    · -- 18
      have lg := hall ⟨16, .guard⟩ (by simp) rfl
      rw [wanted_of h (j := 16) (d := 29) (g := false) (v := false) rfl rfl lg rfl]
      rw [if_pos (show (false == false) = true from rfl)]
      have q3 := (h.tab.old 3 (dst_no h.tab (by kernel_rfl))).trans t3
      have q3' : b.tmps[3]?.getD undef = _ := (by simpa using q3)
      refine wide_val (v := .int .i64 k) (by go_simp; try rfl) ⟨rfl, h.glob⟩
    · -- 19
      have lg := hall ⟨16, .guard⟩ (by simp) rfl
      rw [wanted_of h (j := 16) (d := 29) (g := false) (v := false) rfl rfl lg rfl]
      rw [if_pos (show (false == false) = true from rfl)]
      have l17 := hall ⟨17, .data⟩ (by simp) rfl
      have e17 : b.tmps.getD 30 undef = .slice (some ⟨bq, off, none⟩) n c := h.val 17 30 rfl l17
      have e17' : b.tmps[30]?.getD undef = .slice (some ⟨bq, off, none⟩) n c := (by simpa using e17)
      have l18 := hall ⟨18, .data⟩ (by simp) rfl
      have e18 : b.tmps.getD 31 undef = .int .i64 k := h.val 18 31 rfl l18
      have e18' : b.tmps[31]?.getD undef = .int .i64 k := (by simpa using e18)
      refine wide_val (v := .pointer (some ⟨bq, off + k * 5, none⟩)) (by go_simp; try rfl) ⟨rfl, h.glob⟩
    · -- 20
      have lg := hall ⟨16, .guard⟩ (by simp) rfl
      rw [wanted_of h (j := 16) (d := 29) (g := false) (v := false) rfl rfl lg rfl]
      rw [if_pos (show (false == false) = true from rfl)]
      have l19 := hall ⟨19, .data⟩ (by simp) rfl
      have e19 : b.tmps.getD 32 undef = .pointer (some ⟨bq, off + k * 5, none⟩) := h.val 19 32 rfl l19
      have e19' : b.tmps[32]?.getD undef = .pointer (some ⟨bq, off + k * 5, none⟩) := (by simpa using e19)
      refine wide_val (v := .pointer (some ⟨bq, off + k * 5, none⟩)) (by go_simp; try rfl) ⟨rfl, h.glob⟩
    · -- 21
      have lg := hall ⟨16, .guard⟩ (by simp) rfl
      rw [wanted_of h (j := 16) (d := 29) (g := false) (v := false) rfl rfl lg rfl]
      rw [if_pos (show (false == false) = true from rfl)]
      have l20 := hall ⟨20, .data⟩ (by simp) rfl
      have e20 : b.tmps.getD 33 undef = .pointer (some ⟨bq, off + k * 5, none⟩) := h.val 20 33 rfl l20
      have e20' : b.tmps[33]?.getD undef = .pointer (some ⟨bq, off + k * 5, none⟩) := (by simpa using e20)
      refine wide_val (v := .agg #[.int .i64 x.a.pit, .int .i64 x.a.layer]) (by go_simp; try rfl) ⟨rfl, h.glob⟩
    · -- 22
      have lg := hall ⟨16, .guard⟩ (by simp) rfl
      rw [wanted_of h (j := 16) (d := 29) (g := false) (v := false) rfl rfl lg rfl]
      rw [if_pos (show (false == false) = true from rfl)]
      have q0 := (h.tab.old 0 (dst_no h.tab (by kernel_rfl))).trans t0
      have q0' : b.tmps[0]?.getD undef = _ := (by simpa using q0)
      refine wide_val (v := .slice (some ⟨bq, off, none⟩) n c) (by go_simp; try rfl) ⟨rfl, h.glob⟩
    · -- 23
      have lg := hall ⟨16, .guard⟩ (by simp) rfl
      rw [wanted_of h (j := 16) (d := 29) (g := false) (v := false) rfl rfl lg rfl]
      rw [if_pos (show (false == false) = true from rfl)]
      have q3 := (h.tab.old 3 (dst_no h.tab (by kernel_rfl))).trans t3
      have q3' : b.tmps[3]?.getD undef = _ := (by simpa using q3)
      refine wide_val (v := .int .i64 k) (by go_simp; try rfl) ⟨rfl, h.glob⟩
    · -- 24
      have lg := hall ⟨16, .guard⟩ (by simp) rfl
      rw [wanted_of h (j := 16) (d := 29) (g := false) (v := false) rfl rfl lg rfl]
      rw [if_pos (show (false == false) = true from rfl)]
      have l22 := hall ⟨22, .data⟩ (by simp) rfl
      have e22 : b.tmps.getD 35 undef = .slice (some ⟨bq, off, none⟩) n c := h.val 22 35 rfl l22
      have e22' : b.tmps[35]?.getD undef = .slice (some ⟨bq, off, none⟩) n c := (by simpa using e22)
      have l23 := hall ⟨23, .data⟩ (by simp) rfl
      have e23 : b.tmps.getD 36 undef = .int .i64 k := h.val 23 36 rfl l23
      have e23' : b.tmps[36]?.getD undef = .int .i64 k := (by simpa using e23)
      refine wide_val (v := .pointer (some ⟨bq, off + k * 5, none⟩)) (by go_simp; try rfl) ⟨rfl, h.glob⟩
    · -- 25
      have lg := hall ⟨16, .guard⟩ (by simp) rfl
      rw [wanted_of h (j := 16) (d := 29) (g := false) (v := false) rfl rfl lg rfl]
      rw [if_pos (show (false == false) = true from rfl)]
      have l24 := hall ⟨24, .data⟩ (by simp) rfl
      have e24 : b.tmps.getD 37 undef = .pointer (some ⟨bq, off + k * 5, none⟩) := h.val 24 37 rfl l24
      have e24' : b.tmps[37]?.getD undef = .pointer (some ⟨bq, off + k * 5, none⟩) := (by simpa using e24)
      refine wide_val (v := .pointer (some ⟨bq, off + k * 5 + 2, none⟩)) (by go_simp; try rfl) ⟨rfl, h.glob⟩
    · -- 26
      have lg := hall ⟨16, .guard⟩ (by simp) rfl
      rw [wanted_of h (j := 16) (d := 29) (g := false) (v := false) rfl rfl lg rfl]
      rw [if_pos (show (false == false) = true from rfl)]
      have l25 := hall ⟨25, .data⟩ (by simp) rfl
      have e25 : b.tmps.getD 38 undef = .pointer (some ⟨bq, off + k * 5 + 2, none⟩) := h.val 25 38 rfl l25
      have e25' : b.tmps[38]?.getD undef = .pointer (some ⟨bq, off + k * 5 + 2, none⟩) := (by simpa using e25)
      refine wide_val (v := .agg #[.int .i64 x.b.pit, .int .i64 x.b.layer]) (by go_simp; try rfl) ⟨rfl, h.glob⟩
    · -- 27
      have lg := hall ⟨16, .guard⟩ (by simp) rfl
      rw [wanted_of h (j := 16) (d := 29) (g := false) (v := false) rfl rfl lg rfl]
      rw [if_pos (show (false == false) = true from rfl)]
      have l21 := hall ⟨21, .data⟩ (by simp) rfl
      have e21 : b.tmps.getD 34 undef = .agg #[.int .i64 x.a.pit, .int .i64 x.a.layer] := h.val 21 34 rfl l21
      have e21' : b.tmps[34]?.getD undef = .agg #[.int .i64 x.a.pit, .int .i64 x.a.layer] := (by simpa using e21)
      have l26 := hall ⟨26, .data⟩ (by simp) rfl
      have e26 : b.tmps.getD 39 undef = .agg #[.int .i64 x.b.pit, .int .i64 x.b.layer] := h.val 26 39 rfl l26
      have e26' : b.tmps[39]?.getD undef = .agg #[.int .i64 x.b.pit, .int .i64 x.b.layer] := (by simpa using e26)
      have h3' : eqPlace ⟨x.a.pit, x.a.layer⟩ ⟨x.b.pit, x.b.layer⟩ = true := h3
      refine wide_val (v := .bool true) (by go_simp; (try exact congrArg Value.bool h3')) ⟨rfl, h.glob⟩
    · -- 28
      rw [if_pos (show Region.wanted _ _ = true from rfl)]
      have l16 := hall ⟨16, .data⟩ (by simp) rfl
      have e16 : b.tmps.getD 29 undef = .bool false := h.val 16 29 rfl l16
      have e16' : b.tmps[29]?.getD undef = .bool false := (by simpa using e16)
      have l27 := hall ⟨27, .data⟩ (by simp) rfl
      have e27 : b.tmps.getD 40 undef = .bool true := h.val 27 40 rfl l27
      have e27' : b.tmps[40]?.getD undef = .bool true := (by simpa using e27)
      refine wide_val (v := .bool true) (by go_simp; try rfl) ⟨rfl, h.glob⟩
    · -- 29
      rw [if_pos (show Region.wanted _ _ = true from rfl)]
      have l28 := hall ⟨28, .data⟩ (by simp) rfl
      have e28 : b.tmps.getD 41 undef = .bool true := h.val 28 41 rfl l28
      have e28' : b.tmps[41]?.getD undef = .bool true := (by simpa using e28)
      refine wide_val (v := .bool true) (by go_simp; try rfl) ⟨rfl, h.glob⟩
    · -- 30
      have lg := hall ⟨29, .guard⟩ (by simp) rfl
      rw [wanted_of h (j := 29) (d := 42) (g := false) (v := true) rfl rfl lg rfl]
      exact rfl
    · -- 31
      have lg := hall ⟨29, .guard⟩ (by simp) rfl
      rw [wanted_of h (j := 29) (d := 42) (g := false) (v := true) rfl rfl lg rfl]
      exact rfl
    · -- 32
      have lg := hall ⟨29, .guard⟩ (by simp) rfl
      rw [wanted_of h (j := 29) (d := 42) (g := false) (v := true) rfl rfl lg rfl]
      exact rfl
    · -- 33
      have lg := hall ⟨29, .guard⟩ (by simp) rfl
      rw [wanted_of h (j := 29) (d := 42) (g := false) (v := true) rfl rfl lg rfl]
      exact rfl
    · -- 34
      have lg := hall ⟨29, .guard⟩ (by simp) rfl
      rw [wanted_of h (j := 29) (d := 42) (g := false) (v := true) rfl rfl lg rfl]
      exact rfl
    · -- 35
      have lg := hall ⟨29, .guard⟩ (by simp) rfl
      rw [wanted_of h (j := 29) (d := 42) (g := false) (v := true) rfl rfl lg rfl]
      exact rfl
    · -- 36
      have lg := hall ⟨29, .guard⟩ (by simp) rfl
      rw [wanted_of h (j := 29) (d := 42) (g := false) (v := true) rfl rfl lg rfl]
      exact rfl
    · -- 37
      rw [if_pos (show Region.wanted _ _ = true from rfl)]
      have l29 := hall ⟨29, .data⟩ (by simp) rfl
      have e29 : b.tmps.getD 42 undef = .bool true := h.val 29 42 rfl l29
      have e29' : b.tmps[42]?.getD undef = .bool true := (by simpa using e29)
      have l36 := hall ⟨36, .data⟩ (by simp) rfl
      have e36 : b.tmps.getD 49 undef = undef := h.val 36 49 rfl l36
      have e36' : b.tmps[49]?.getD undef = undef := (by simpa using e36)
      refine wide_val (v := .bool true) (by go_simp; try rfl) ⟨rfl, h.glob⟩
  · intro W hg
    have := hQ W hg
    simp only [List.size_toArray, bareL, bare, List.map_cons, List.map_nil, List.length_cons, List.length_nil, Nat.reduceAdd, framed, dstOf, List.getElem?_toArray, List.getElem?_cons_zero, List.getElem?_cons_succ, Option.bind_some, valrbond3]
    exact this
def coderbond4 : Option Code → Code
  | some (.seq _ (.seq _ (.seq (.seq _ (.block _ (.loop (.seq _ (.seq (.block _ (.seq c _)) _))))) _))) => c
  | _ => .skip
def valrbond4 (bq off n c k : Nat) (x : Bond) : Nat → Value
  | 0 => .slice (some ⟨bq, off, none⟩) n c
  | 1 => .int .i64 k
  | 2 => .pointer (some ⟨bq, off + k * 5, none⟩)
  | 3 => .pointer (some ⟨bq, off + k * 5, none⟩)
  | 4 => .agg #[.int .i64 x.a.pit, .int .i64 x.a.layer]
  | 5 => .bool true
  | 6 => .bool false
  | 7 => .bool false
  | 8 => .slice (some ⟨bq, off, none⟩) n c
  | 9 => .int .i64 k
  | 10 => .pointer (some ⟨bq, off + k * 5, none⟩)
  | 11 => .pointer (some ⟨bq, off + k * 5 + 2, none⟩)
  | 12 => .agg #[.int .i64 x.b.pit, .int .i64 x.b.layer]
  | 13 => .bool true
  | 14 => .bool false
  | 15 => .bool false
  | 16 => .bool false
  | 17 => .slice (some ⟨bq, off, none⟩) n c
  | 18 => .int .i64 k
  | 19 => .pointer (some ⟨bq, off + k * 5, none⟩)
  | 20 => .pointer (some ⟨bq, off + k * 5, none⟩)
  | 21 => .agg #[.int .i64 x.a.pit, .int .i64 x.a.layer]
  | 22 => .slice (some ⟨bq, off, none⟩) n c
  | 23 => .int .i64 k
  | 24 => .pointer (some ⟨bq, off + k * 5, none⟩)
  | 25 => .pointer (some ⟨bq, off + k * 5 + 2, none⟩)
  | 26 => .agg #[.int .i64 x.b.pit, .int .i64 x.b.layer]
  | 27 => .bool false
  | 28 => .bool false
  | 29 => .bool false
  | 30 => .slice (some ⟨bq, off, none⟩) n c
  | 31 => .int .i64 k
  | 32 => .pointer (some ⟨bq, off + k * 5, none⟩)
  | 33 => .pointer (some ⟨bq, off + k * 5 + 4, none⟩)
  | 34 => .int .i64 x.by_
  | 35 => .bool false
  | 36 => .bool true
  | 37 => .bool true
  | _ => undef
set_option maxRecDepth 100000 in
set_option maxHeartbeats 4000000 in
theorem rbond4 (c0 : Code) (hc : c0 = coderbond4 Tryz.f51.body) (bq off n c k : Nat) (x : Bond) (a : Act) (w : World) (Q : Exit → Act → World → Prop)
    (hT : a.tmps.size = 51) (t0 : a.tmps.getD 0 undef = .slice (some ⟨bq, off, none⟩) n c) (t3 : a.tmps.getD 3 undef = .int .i64 k)
    (CE : ∀ W, Below w.heap.size w W → W.cell? ⟨bq, off + k * 5, none⟩ = some (.int .i64 x.a.pit) ∧ W.cell? ⟨bq, off + k * 5 + 1, none⟩ = some (.int .i64 x.a.layer) ∧ W.cell? ⟨bq, off + k * 5 + 2, none⟩ = some (.int .i64 x.b.pit) ∧ W.cell? ⟨bq, off + k * 5 + 3, none⟩ = some (.int .i64 x.b.layer) ∧ W.cell? ⟨bq, off + k * 5 + 4, none⟩ = some (.int .i64 x.by_)) (hkn : k < n) (h1 : isPlaceB x.a.pit x.a.layer = true) (h2 : isPlaceB x.b.pit x.b.layer = true) (h3 : eqPlace x.a x.b = false) (h4 : inB x.by_ 1 1000000 = false)
    (hQ : ∀ W, (fun W => Below w.heap.size w W) W → Q .normal { tmps := ((((((((((((((((((((((((((((((((((((((a.tmps.setIfInBounds 13 (.slice (some ⟨bq, off, none⟩) n c)).setIfInBounds 14 (.int .i64 k)).setIfInBounds 15 (.pointer (some ⟨bq, off + k * 5, none⟩))).setIfInBounds 16 (.pointer (some ⟨bq, off + k * 5, none⟩))).setIfInBounds 17 (.agg #[.int .i64 x.a.pit, .int .i64 x.a.layer])).setIfInBounds 18 (.bool true)).setIfInBounds 19 (.bool false)).setIfInBounds 20 (.bool false)).setIfInBounds 21 (.slice (some ⟨bq, off, none⟩) n c)).setIfInBounds 22 (.int .i64 k)).setIfInBounds 23 (.pointer (some ⟨bq, off + k * 5, none⟩))).setIfInBounds 24 (.pointer (some ⟨bq, off + k * 5 + 2, none⟩))).setIfInBounds 25 (.agg #[.int .i64 x.b.pit, .int .i64 x.b.layer])).setIfInBounds 26 (.bool true)).setIfInBounds 27 (.bool false)).setIfInBounds 28 (.bool false)).setIfInBounds 29 (.bool false)).setIfInBounds 30 (.slice (some ⟨bq, off, none⟩) n c)).setIfInBounds 31 (.int .i64 k)).setIfInBounds 32 (.pointer (some ⟨bq, off + k * 5, none⟩))).setIfInBounds 33 (.pointer (some ⟨bq, off + k * 5, none⟩))).setIfInBounds 34 (.agg #[.int .i64 x.a.pit, .int .i64 x.a.layer])).setIfInBounds 35 (.slice (some ⟨bq, off, none⟩) n c)).setIfInBounds 36 (.int .i64 k)).setIfInBounds 37 (.pointer (some ⟨bq, off + k * 5, none⟩))).setIfInBounds 38 (.pointer (some ⟨bq, off + k * 5 + 2, none⟩))).setIfInBounds 39 (.agg #[.int .i64 x.b.pit, .int .i64 x.b.layer])).setIfInBounds 40 (.bool false)).setIfInBounds 41 (.bool false)).setIfInBounds 42 (.bool false)).setIfInBounds 43 (.slice (some ⟨bq, off, none⟩) n c)).setIfInBounds 44 (.int .i64 k)).setIfInBounds 45 (.pointer (some ⟨bq, off + k * 5, none⟩))).setIfInBounds 46 (.pointer (some ⟨bq, off + k * 5 + 4, none⟩))).setIfInBounds 47 (.int .i64 x.by_)).setIfInBounds 48 (.bool false)).setIfInBounds 49 (.bool true)).setIfInBounds 50 (.bool true)), defers := a.defers } W) :
    c0.wp Tryz.prog Q a w := by
  subst hc
  unfold coderbond4 Tryz.f51
  dsimp only
  refine wpIn_wide.1 (wpIn_region_vals (nn := 5) 51 (by kernel_rfl) (by kernel_rfl) hT.symm (valrbond4 bq off n c k x) (fun W => Below w.heap.size w W) ((Below.refl _ _).drew) ?_ ?_)
  · intro listed i o b W hi ho h
    obtain ⟨c0, c1, c2, c3, c4⟩ := CE W h.glob
    clear hQ
    obtain ⟨hun, oi, hoi, hall⟩ := mem_ready.1 hi
    have : oi = o := Option.some.inj (hoi.symm.trans ho)
    subst this
    clear hoi hi
    have hlt : i < 38 := (by have := (Array.getElem?_eq_some_iff.1 ho).1; simpa using this)
    have hun' : listed.getD i false = false := getD_both hun
    rcases (by omega : i = 0 ∨ i = 1 ∨ i = 2 ∨ i = 3 ∨ i = 4 ∨ i = 5 ∨ i = 6 ∨ i = 7 ∨ i = 8 ∨ i = 9 ∨ i = 10 ∨ i = 11 ∨ i = 12 ∨ i = 13 ∨ i = 14 ∨ i = 15 ∨ i = 16 ∨ i = 17 ∨ i = 18 ∨ i = 19 ∨ i = 20 ∨ i = 21 ∨ i = 22 ∨ i = 23 ∨ i = 24 ∨ i = 25 ∨ i = 26 ∨ i = 27 ∨ i = 28 ∨ i = 29 ∨ i = 30 ∨ i = 31 ∨ i = 32 ∨ i = 33 ∨ i = 34 ∨ i = 35 ∨ i = 36 ∨ i = 37) with rfl | rfl | rfl | rfl | rfl | rfl | rfl | rfl | rfl | rfl | rfl | rfl | rfl | rfl | rfl | rfl | rfl | rfl | rfl | rfl | rfl | rfl | rfl | rfl | rfl | rfl | rfl | rfl | rfl | rfl | rfl | rfl | rfl | rfl | rfl | rfl | rfl | rfl
    all_goals simp only [List.getElem?_toArray, List.getElem?_cons_zero, List.getElem?_cons_succ] at ho
    all_goals cases ho
    · -- 0
      rw [if_pos (show Region.wanted _ _ = true from rfl)]
      have q0 := (h.tab.old 0 (dst_no h.tab (by kernel_rfl))).trans t0
      have q0' : b.tmps[0]?.getD undef = _ := (by simpa using q0)
      refine wide_val (v := .slice (some ⟨bq, off, none⟩) n c) (by go_simp; try rfl) ⟨rfl, h.glob⟩
    · -- 1
      rw [if_pos (show Region.wanted _ _ = true from rfl)]
      have q3 := (h.tab.old 3 (dst_no h.tab (by kernel_rfl))).trans t3
      have q3' : b.tmps[3]?.getD undef = _ := (by simpa using q3)
      refine wide_val (v := .int .i64 k) (by go_simp; try rfl) ⟨rfl, h.glob⟩
    · -- 2
      rw [if_pos (show Region.wanted _ _ = true from rfl)]
      have l0 := hall ⟨0, .data⟩ (by simp) rfl
      have e0 : b.tmps.getD 13 undef = .slice (some ⟨bq, off, none⟩) n c := h.val 0 13 rfl l0
      have e0' : b.tmps[13]?.getD undef = .slice (some ⟨bq, off, none⟩) n c := (by simpa using e0)
      have l1 := hall ⟨1, .data⟩ (by simp) rfl
      have e1 : b.tmps.getD 14 undef = .int .i64 k := h.val 1 14 rfl l1
      have e1' : b.tmps[14]?.getD undef = .int .i64 k := (by simpa using e1)
      refine wide_val (v := .pointer (some ⟨bq, off + k * 5, none⟩)) (by go_simp; try rfl) ⟨rfl, h.glob⟩
    · -- 3
      rw [if_pos (show Region.wanted _ _ = true from rfl)]
      have l2 := hall ⟨2, .data⟩ (by simp) rfl
      have e2 : b.tmps.getD 15 undef = .pointer (some ⟨bq, off + k * 5, none⟩) := h.val 2 15 rfl l2
      have e2' : b.tmps[15]?.getD undef = .pointer (some ⟨bq, off + k * 5, none⟩) := (by simpa using e2)
      refine wide_val (v := .pointer (some ⟨bq, off + k * 5, none⟩)) (by go_simp; try rfl) ⟨rfl, h.glob⟩
    · -- 4
      rw [if_pos (show Region.wanted _ _ = true from rfl)]
      have l3 := hall ⟨3, .data⟩ (by simp) rfl
      have e3 : b.tmps.getD 16 undef = .pointer (some ⟨bq, off + k * 5, none⟩) := h.val 3 16 rfl l3
      have e3' : b.tmps[16]?.getD undef = .pointer (some ⟨bq, off + k * 5, none⟩) := (by simpa using e3)
      refine wide_val (v := .agg #[.int .i64 x.a.pit, .int .i64 x.a.layer]) (by go_simp; try rfl) ⟨rfl, h.glob⟩
    · -- 5
      rw [if_pos (show Region.wanted _ _ = true from rfl)]
      have l4 := hall ⟨4, .data⟩ (by simp) rfl
      have e4 : b.tmps.getD 17 undef = .agg #[.int .i64 x.a.pit, .int .i64 x.a.layer] := h.val 4 17 rfl l4
      have e4' : b.tmps[17]?.getD undef = .agg #[.int .i64 x.a.pit, .int .i64 x.a.layer] := (by simpa using e4)
      refine wide_call (f := 101) (args := #[.agg #[.int .i64 x.a.pit, .int .i64 x.a.layer]]) (by go_simp <;> (try simpa [Act.eval] using e4)) ((rIsPlace_any _ _ W).mono ?_)
      rintro e w' ⟨rfl, hb'⟩
      rw [h1]
      exact ⟨_, rfl, rfl, h.glob.trans (hb'.mono h.glob.size)⟩
    · -- 6
      rw [if_pos (show Region.wanted _ _ = true from rfl)]
      have l5 := hall ⟨5, .data⟩ (by simp) rfl
      have e5 : b.tmps.getD 18 undef = .bool true := h.val 5 18 rfl l5
      have e5' : b.tmps[18]?.getD undef = .bool true := (by simpa using e5)
      refine wide_val (v := .bool false) (by go_simp; try rfl) ⟨rfl, h.glob⟩
    · -- 7
      rw [if_pos (show Region.wanted _ _ = true from rfl)]
      have l6 := hall ⟨6, .data⟩ (by simp) rfl
      have e6 : b.tmps.getD 19 undef = .bool false := h.val 6 19 rfl l6
      have e6' : b.tmps[19]?.getD undef = .bool false := (by simpa using e6)
      refine wide_val (v := .bool false) (by go_simp; try rfl) ⟨rfl, h.glob⟩
    · -- 8
      have lg := hall ⟨7, .guard⟩ (by simp) rfl
      rw [wanted_of h (j := 7) (d := 20) (g := false) (v := false) rfl rfl lg rfl]
      rw [if_pos (show (false == false) = true from rfl)]
      have q0 := (h.tab.old 0 (dst_no h.tab (by kernel_rfl))).trans t0
      have q0' : b.tmps[0]?.getD undef = _ := (by simpa using q0)
      refine wide_val (v := .slice (some ⟨bq, off, none⟩) n c) (by go_simp; try rfl) ⟨rfl, h.glob⟩
    · -- 9
      have lg := hall ⟨7, .guard⟩ (by simp) rfl
      rw [wanted_of h (j := 7) (d := 20) (g := false) (v := false) rfl rfl lg rfl]
      rw [if_pos (show (false == false) = true from rfl)]
      have q3 := (h.tab.old 3 (dst_no h.tab (by kernel_rfl))).trans t3
      have q3' : b.tmps[3]?.getD undef = _ := (by simpa using q3)
      refine wide_val (v := .int .i64 k) (by go_simp; try rfl) ⟨rfl, h.glob⟩
    · -- 10
      have lg := hall ⟨7, .guard⟩ (by simp) rfl
      rw [wanted_of h (j := 7) (d := 20) (g := false) (v := false) rfl rfl lg rfl]
      rw [if_pos (show (false == false) = true from rfl)]
      have l8 := hall ⟨8, .data⟩ (by simp) rfl
      have e8 : b.tmps.getD 21 undef = .slice (some ⟨bq, off, none⟩) n c := h.val 8 21 rfl l8
      have e8' : b.tmps[21]?.getD undef = .slice (some ⟨bq, off, none⟩) n c := (by simpa using e8)
      have l9 := hall ⟨9, .data⟩ (by simp) rfl
      have e9 : b.tmps.getD 22 undef = .int .i64 k := h.val 9 22 rfl l9
      have e9' : b.tmps[22]?.getD undef = .int .i64 k := (by simpa using e9)
      refine wide_val (v := .pointer (some ⟨bq, off + k * 5, none⟩)) (by go_simp; try rfl) ⟨rfl, h.glob⟩
    · -- 11
      have lg := hall ⟨7, .guard⟩ (by simp) rfl
      rw [wanted_of h (j := 7) (d := 20) (g := false) (v := false) rfl rfl lg rfl]
      rw [if_pos (show (false == false) = true from rfl)]
      have l10 := hall ⟨10, .data⟩ (by simp) rfl
      have e10 : b.tmps.getD 23 undef = .pointer (some ⟨bq, off + k * 5, none⟩) := h.val 10 23 rfl l10
      have e10' : b.tmps[23]?.getD undef = .pointer (some ⟨bq, off + k * 5, none⟩) := (by simpa using e10)
      refine wide_val (v := .pointer (some ⟨bq, off + k * 5 + 2, none⟩)) (by go_simp; try rfl) ⟨rfl, h.glob⟩
    · -- 12
      have lg := hall ⟨7, .guard⟩ (by simp) rfl
      rw [wanted_of h (j := 7) (d := 20) (g := false) (v := false) rfl rfl lg rfl]
      rw [if_pos (show (false == false) = true from rfl)]
      have l11 := hall ⟨11, .data⟩ (by simp) rfl
      have e11 : b.tmps.getD 24 undef = .pointer (some ⟨bq, off + k * 5 + 2, none⟩) := h.val 11 24 rfl l11
      have e11' : b.tmps[24]?.getD undef = .pointer (some ⟨bq, off + k * 5 + 2, none⟩) := (by simpa using e11)
      refine wide_val (v := .agg #[.int .i64 x.b.pit, .int .i64 x.b.layer]) (by go_simp; try rfl) ⟨rfl, h.glob⟩
    · -- 13
      have lg := hall ⟨7, .guard⟩ (by simp) rfl
      rw [wanted_of h (j := 7) (d := 20) (g := false) (v := false) rfl rfl lg rfl]
      rw [if_pos (show (false == false) = true from rfl)]
      have l12 := hall ⟨12, .data⟩ (by simp) rfl
      have e12 : b.tmps.getD 25 undef = .agg #[.int .i64 x.b.pit, .int .i64 x.b.layer] := h.val 12 25 rfl l12
      have e12' : b.tmps[25]?.getD undef = .agg #[.int .i64 x.b.pit, .int .i64 x.b.layer] := (by simpa using e12)
      refine wide_call (f := 101) (args := #[.agg #[.int .i64 x.b.pit, .int .i64 x.b.layer]]) (by go_simp <;> (try simpa [Act.eval] using e12)) ((rIsPlace_any _ _ W).mono ?_)
      rintro e w' ⟨rfl, hb'⟩
      rw [h2]
      exact ⟨_, rfl, rfl, h.glob.trans (hb'.mono h.glob.size)⟩
    · -- 14
      have lg := hall ⟨7, .guard⟩ (by simp) rfl
      rw [wanted_of h (j := 7) (d := 20) (g := false) (v := false) rfl rfl lg rfl]
      rw [if_pos (show (false == false) = true from rfl)]
      have l13 := hall ⟨13, .data⟩ (by simp) rfl
      have e13 : b.tmps.getD 26 undef = .bool true := h.val 13 26 rfl l13
      have e13' : b.tmps[26]?.getD undef = .bool true := (by simpa using e13)
      refine wide_val (v := .bool false) (by go_simp; try rfl) ⟨rfl, h.glob⟩
    · -- 15
      rw [if_pos (show Region.wanted _ _ = true from rfl)]
      have l7 := hall ⟨7, .data⟩ (by simp) rfl
      have e7 : b.tmps.getD 20 undef = .bool false := h.val 7 20 rfl l7
      have e7' : b.tmps[20]?.getD undef = .bool false := (by simpa using e7)
      have l14 := hall ⟨14, .data⟩ (by simp) rfl
      have e14 : b.tmps.getD 27 undef = .bool false := h.val 14 27 rfl l14
      have e14' : b.tmps[27]?.getD undef = .bool false := (by simpa using e14)
      refine wide_val (v := .bool false) (by go_simp; try rfl) ⟨rfl, h.glob⟩
    · -- 16
      rw [if_pos (show Region.wanted _ _ = true from rfl)]
      have l15 := hall ⟨15, .data⟩ (by simp) rfl
      have e15 : b.tmps.getD 28 undef = .bool false := h.val 15 28 rfl l15
      have e15' : b.tmps[28]?.getD undef = .bool false := (by simpa using e15)
      refine wide_val (v := .bool false) (by go_simp; try rfl) ⟨rfl, h.glob⟩
    · -- 17
      have lg := hall ⟨16, .guard⟩ (by simp) rfl
      rw [wanted_of h (j := 16) (d := 29) (g := false) (v := false) rfl rfl lg rfl]
      rw [if_pos (show (false == false) = true from rfl)]
      have q0 := (h.tab.old 0 (dst_no h.tab (by kernel_rfl))).trans t0
      have q0' : b.tmps[0]?.getD undef = _ := (by simpa using q0)
      refine wide_val (v := .slice (some ⟨bq, off, none⟩) n c) (by go_simp; try rfl) ⟨rfl, h.glob⟩
    · -- 18
      have lg := hall ⟨16, .guard⟩ (by simp) rfl
      rw [wanted_of h (j := 16) (d := 29) (g := false) (v := false) rfl rfl lg rfl]
      rw [if_pos (show (false == false) = true from rfl)]
      have q3 := (h.tab.old 3 (dst_no h.tab (by kernel_rfl))).trans t3
      have q3' : b.tmps[3]?.getD undef = _ := (by simpa using q3)
      refine wide_val (v := .int .i64 k) (by go_simp; try rfl) ⟨rfl, h.glob⟩
    · -- 19
      have lg := hall ⟨16, .guard⟩ (by simp) rfl
      rw [wanted_of h (j := 16) (d := 29) (g := false) (v := false) rfl rfl lg rfl]
      rw [if_pos (show (false == false) = true from rfl)]
      have l17 := hall ⟨17, .data⟩ (by simp) rfl
      have e17 : b.tmps.getD 30 undef = .slice (some ⟨bq, off, none⟩) n c := h.val 17 30 rfl l17
      have e17' : b.tmps[30]?.getD undef = .slice (some ⟨bq, off, none⟩) n c := (by simpa using e17)
      have l18 := hall ⟨18, .data⟩ (by simp) rfl
      have e18 : b.tmps.getD 31 undef = .int .i64 k := h.val 18 31 rfl l18
      have e18' : b.tmps[31]?.getD undef = .int .i64 k := (by simpa using e18)
      refine wide_val (v := .pointer (some ⟨bq, off + k * 5, none⟩)) (by go_simp; try rfl) ⟨rfl, h.glob⟩
    · -- 20
      have lg := hall ⟨16, .guard⟩ (by simp) rfl
      rw [wanted_of h (j := 16) (d := 29) (g := false) (v := false) rfl rfl lg rfl]
      rw [if_pos (show (false == false) = true from rfl)]
      have l19 := hall ⟨19, .data⟩ (by simp) rfl
      have e19 : b.tmps.getD 32 undef = .pointer (some ⟨bq, off + k * 5, none⟩) := h.val 19 32 rfl l19
      have e19' : b.tmps[32]?.getD undef = .pointer (some ⟨bq, off + k * 5, none⟩) := (by simpa using e19)
      refine wide_val (v := .pointer (some ⟨bq, off + k * 5, none⟩)) (by go_simp; try rfl) ⟨rfl, h.glob⟩
    · -- 21
      have lg := hall ⟨16, .guard⟩ (by simp) rfl
      rw [wanted_of h (j := 16) (d := 29) (g := false) (v := false) rfl rfl lg rfl]
      rw [if_pos (show (false == false) = true from rfl)]
      have l20 := hall ⟨20, .data⟩ (by simp) rfl
      have e20 : b.tmps.getD 33 undef = .pointer (some ⟨bq, off + k * 5, none⟩) := h.val 20 33 rfl l20
      have e20' : b.tmps[33]?.getD undef = .pointer (some ⟨bq, off + k * 5, none⟩) := (by simpa using e20)
      refine wide_val (v := .agg #[.int .i64 x.a.pit, .int .i64 x.a.layer]) (by go_simp; try rfl) ⟨rfl, h.glob⟩
    · -- 22
      have lg := hall ⟨16, .guard⟩ (by simp) rfl
      rw [wanted_of h (j := 16) (d := 29) (g := false) (v := false) rfl rfl lg rfl]
      rw [if_pos (show (false == false) = true from rfl)]
      have q0 := (h.tab.old 0 (dst_no h.tab (by kernel_rfl))).trans t0
      have q0' : b.tmps[0]?.getD undef = _ := (by simpa using q0)
      refine wide_val (v := .slice (some ⟨bq, off, none⟩) n c) (by go_simp; try rfl) ⟨rfl, h.glob⟩
    · -- 23
      have lg := hall ⟨16, .guard⟩ (by simp) rfl
      rw [wanted_of h (j := 16) (d := 29) (g := false) (v := false) rfl rfl lg rfl]
      rw [if_pos (show (false == false) = true from rfl)]
      have q3 := (h.tab.old 3 (dst_no h.tab (by kernel_rfl))).trans t3
      have q3' : b.tmps[3]?.getD undef = _ := (by simpa using q3)
      refine wide_val (v := .int .i64 k) (by go_simp; try rfl) ⟨rfl, h.glob⟩
    · -- 24
      have lg := hall ⟨16, .guard⟩ (by simp) rfl
      rw [wanted_of h (j := 16) (d := 29) (g := false) (v := false) rfl rfl lg rfl]
      rw [if_pos (show (false == false) = true from rfl)]
      have l22 := hall ⟨22, .data⟩ (by simp) rfl
      have e22 : b.tmps.getD 35 undef = .slice (some ⟨bq, off, none⟩) n c := h.val 22 35 rfl l22
      have e22' : b.tmps[35]?.getD undef = .slice (some ⟨bq, off, none⟩) n c := (by simpa using e22)
      have l23 := hall ⟨23, .data⟩ (by simp) rfl
      have e23 : b.tmps.getD 36 undef = .int .i64 k := h.val 23 36 rfl l23
      have e23' : b.tmps[36]?.getD undef = .int .i64 k := (by simpa using e23)
      refine wide_val (v := .pointer (some ⟨bq, off + k * 5, none⟩)) (by go_simp; try rfl) ⟨rfl, h.glob⟩
    · -- 25
      have lg := hall ⟨16, .guard⟩ (by simp) rfl
      rw [wanted_of h (j := 16) (d := 29) (g := false) (v := false) rfl rfl lg rfl]
      rw [if_pos (show (false == false) = true from rfl)]
      have l24 := hall ⟨24, .data⟩ (by simp) rfl
      have e24 : b.tmps.getD 37 undef = .pointer (some ⟨bq, off + k * 5, none⟩) := h.val 24 37 rfl l24
      have e24' : b.tmps[37]?.getD undef = .pointer (some ⟨bq, off + k * 5, none⟩) := (by simpa using e24)
      refine wide_val (v := .pointer (some ⟨bq, off + k * 5 + 2, none⟩)) (by go_simp; try rfl) ⟨rfl, h.glob⟩
    · -- 26
      have lg := hall ⟨16, .guard⟩ (by simp) rfl
      rw [wanted_of h (j := 16) (d := 29) (g := false) (v := false) rfl rfl lg rfl]
      rw [if_pos (show (false == false) = true from rfl)]
      have l25 := hall ⟨25, .data⟩ (by simp) rfl
      have e25 : b.tmps.getD 38 undef = .pointer (some ⟨bq, off + k * 5 + 2, none⟩) := h.val 25 38 rfl l25
      have e25' : b.tmps[38]?.getD undef = .pointer (some ⟨bq, off + k * 5 + 2, none⟩) := (by simpa using e25)
      refine wide_val (v := .agg #[.int .i64 x.b.pit, .int .i64 x.b.layer]) (by go_simp; try rfl) ⟨rfl, h.glob⟩
    · -- 27
      have lg := hall ⟨16, .guard⟩ (by simp) rfl
      rw [wanted_of h (j := 16) (d := 29) (g := false) (v := false) rfl rfl lg rfl]
      rw [if_pos (show (false == false) = true from rfl)]
      have l21 := hall ⟨21, .data⟩ (by simp) rfl
      have e21 : b.tmps.getD 34 undef = .agg #[.int .i64 x.a.pit, .int .i64 x.a.layer] := h.val 21 34 rfl l21
      have e21' : b.tmps[34]?.getD undef = .agg #[.int .i64 x.a.pit, .int .i64 x.a.layer] := (by simpa using e21)
      have l26 := hall ⟨26, .data⟩ (by simp) rfl
      have e26 : b.tmps.getD 39 undef = .agg #[.int .i64 x.b.pit, .int .i64 x.b.layer] := h.val 26 39 rfl l26
      have e26' : b.tmps[39]?.getD undef = .agg #[.int .i64 x.b.pit, .int .i64 x.b.layer] := (by simpa using e26)
      have h3' : eqPlace ⟨x.a.pit, x.a.layer⟩ ⟨x.b.pit, x.b.layer⟩ = false := h3
      refine wide_val (v := .bool false) (by go_simp; (try exact congrArg Value.bool h3')) ⟨rfl, h.glob⟩
    · -- 28
      rw [if_pos (show Region.wanted _ _ = true from rfl)]
      have l16 := hall ⟨16, .data⟩ (by simp) rfl
      have e16 : b.tmps.getD 29 undef = .bool false := h.val 16 29 rfl l16
      have e16' : b.tmps[29]?.getD undef = .bool false := (by simpa using e16)
      have l27 := hall ⟨27, .data⟩ (by simp) rfl
      have e27 : b.tmps.getD 40 undef = .bool false := h.val 27 40 rfl l27
      have e27' : b.tmps[40]?.getD undef = .bool false := (by simpa using e27)
      refine wide_val (v := .bool false) (by go_simp; try rfl) ⟨rfl, h.glob⟩
    · -- 29
      rw [if_pos (show Region.wanted _ _ = true from rfl)]
      have l28 := hall ⟨28, .data⟩ (by simp) rfl
      have e28 : b.tmps.getD 41 undef = .bool false := h.val 28 41 rfl l28
      have e28' : b.tmps[41]?.getD undef = .bool false := (by simpa using e28)
      refine wide_val (v := .bool false) (by go_simp; try rfl) ⟨rfl, h.glob⟩
    · -- 30
      have lg := hall ⟨29, .guard⟩ (by simp) rfl
      rw [wanted_of h (j := 29) (d := 42) (g := false) (v := false) rfl rfl lg rfl]
      rw [if_pos (show (false == false) = true from rfl)]
      have q0 := (h.tab.old 0 (dst_no h.tab (by kernel_rfl))).trans t0
      have q0' : b.tmps[0]?.getD undef = _ := (by simpa using q0)
      refine wide_val (v := .slice (some ⟨bq, off, none⟩) n c) (by go_simp; try rfl) ⟨rfl, h.glob⟩
    · -- 31
      have lg := hall ⟨29, .guard⟩ (by simp) rfl
      rw [wanted_of h (j := 29) (d := 42) (g := false) (v := false) rfl rfl lg rfl]
      rw [if_pos (show (false == false) = true from rfl)]
      have q3 := (h.tab.old 3 (dst_no h.tab (by kernel_rfl))).trans t3
      have q3' : b.tmps[3]?.getD undef = _ := (by simpa using q3)
      refine wide_val (v := .int .i64 k) (by go_simp; try rfl) ⟨rfl, h.glob⟩
    · -- 32
      have lg := hall ⟨29, .guard⟩ (by simp) rfl
      rw [wanted_of h (j := 29) (d := 42) (g := false) (v := false) rfl rfl lg rfl]
      rw [if_pos (show (false == false) = true from rfl)]
      have l30 := hall ⟨30, .data⟩ (by simp) rfl
      have e30 : b.tmps.getD 43 undef = .slice (some ⟨bq, off, none⟩) n c := h.val 30 43 rfl l30
      have e30' : b.tmps[43]?.getD undef = .slice (some ⟨bq, off, none⟩) n c := (by simpa using e30)
      have l31 := hall ⟨31, .data⟩ (by simp) rfl
      have e31 : b.tmps.getD 44 undef = .int .i64 k := h.val 31 44 rfl l31
      have e31' : b.tmps[44]?.getD undef = .int .i64 k := (by simpa using e31)
      refine wide_val (v := .pointer (some ⟨bq, off + k * 5, none⟩)) (by go_simp; try rfl) ⟨rfl, h.glob⟩
    · -- 33
      have lg := hall ⟨29, .guard⟩ (by simp) rfl
      rw [wanted_of h (j := 29) (d := 42) (g := false) (v := false) rfl rfl lg rfl]
      rw [if_pos (show (false == false) = true from rfl)]
      have l32 := hall ⟨32, .data⟩ (by simp) rfl
      have e32 : b.tmps.getD 45 undef = .pointer (some ⟨bq, off + k * 5, none⟩) := h.val 32 45 rfl l32
      have e32' : b.tmps[45]?.getD undef = .pointer (some ⟨bq, off + k * 5, none⟩) := (by simpa using e32)
      refine wide_val (v := .pointer (some ⟨bq, off + k * 5 + 4, none⟩)) (by go_simp; try rfl) ⟨rfl, h.glob⟩
    · -- 34
      have lg := hall ⟨29, .guard⟩ (by simp) rfl
      rw [wanted_of h (j := 29) (d := 42) (g := false) (v := false) rfl rfl lg rfl]
      rw [if_pos (show (false == false) = true from rfl)]
      have l33 := hall ⟨33, .data⟩ (by simp) rfl
      have e33 : b.tmps.getD 46 undef = .pointer (some ⟨bq, off + k * 5 + 4, none⟩) := h.val 33 46 rfl l33
      have e33' : b.tmps[46]?.getD undef = .pointer (some ⟨bq, off + k * 5 + 4, none⟩) := (by simpa using e33)
      refine wide_val (v := .int .i64 x.by_) (by go_simp; try rfl) ⟨rfl, h.glob⟩
    · -- 35
      have lg := hall ⟨29, .guard⟩ (by simp) rfl
      rw [wanted_of h (j := 29) (d := 42) (g := false) (v := false) rfl rfl lg rfl]
      rw [if_pos (show (false == false) = true from rfl)]
      have l34 := hall ⟨34, .data⟩ (by simp) rfl
      have e34 : b.tmps.getD 47 undef = .int .i64 x.by_ := h.val 34 47 rfl l34
      have e34' : b.tmps[47]?.getD undef = .int .i64 x.by_ := (by simpa using e34)
      refine wide_call (f := 102) (args := #[.int .i64 x.by_, .int .i64 1, .int .i64 1000000]) (by go_simp <;> (try simpa [Act.eval] using e34)) ((rWithin_any _ _ _ W).mono ?_)
      rintro e w' ⟨rfl, rfl⟩
      rw [h4]
      exact ⟨_, rfl, rfl, h.glob⟩
    · -- 36
      have lg := hall ⟨29, .guard⟩ (by simp) rfl
      rw [wanted_of h (j := 29) (d := 42) (g := false) (v := false) rfl rfl lg rfl]
      rw [if_pos (show (false == false) = true from rfl)]
      have l35 := hall ⟨35, .data⟩ (by simp) rfl
      have e35 : b.tmps.getD 48 undef = .bool false := h.val 35 48 rfl l35
      have e35' : b.tmps[48]?.getD undef = .bool false := (by simpa using e35)
      refine wide_val (v := .bool true) (by go_simp; try rfl) ⟨rfl, h.glob⟩
    · -- 37
      rw [if_pos (show Region.wanted _ _ = true from rfl)]
      have l29 := hall ⟨29, .data⟩ (by simp) rfl
      have e29 : b.tmps.getD 42 undef = .bool false := h.val 29 42 rfl l29
      have e29' : b.tmps[42]?.getD undef = .bool false := (by simpa using e29)
      have l36 := hall ⟨36, .data⟩ (by simp) rfl
      have e36 : b.tmps.getD 49 undef = .bool true := h.val 36 49 rfl l36
      have e36' : b.tmps[49]?.getD undef = .bool true := (by simpa using e36)
      refine wide_val (v := .bool true) (by go_simp; try rfl) ⟨rfl, h.glob⟩
  · intro W hg
    have := hQ W hg
    simp only [List.size_toArray, bareL, bare, List.map_cons, List.map_nil, List.length_cons, List.length_nil, Nat.reduceAdd, framed, dstOf, List.getElem?_toArray, List.getElem?_cons_zero, List.getElem?_cons_succ, Option.bind_some, valrbond4]
    exact this
def coderbond5 : Option Code → Code
  | some (.seq _ (.seq _ (.seq (.seq _ (.block _ (.loop (.seq _ (.seq (.block _ (.seq c _)) _))))) _))) => c
  | _ => .skip
def valrbond5 (bq off n c k : Nat) (x : Bond) : Nat → Value
  | 0 => .slice (some ⟨bq, off, none⟩) n c
  | 1 => .int .i64 k
  | 2 => .pointer (some ⟨bq, off + k * 5, none⟩)
  | 3 => .pointer (some ⟨bq, off + k * 5, none⟩)
  | 4 => .agg #[.int .i64 x.a.pit, .int .i64 x.a.layer]
  | 5 => .bool true
  | 6 => .bool false
  | 7 => .bool false
  | 8 => .slice (some ⟨bq, off, none⟩) n c
  | 9 => .int .i64 k
  | 10 => .pointer (some ⟨bq, off + k * 5, none⟩)
  | 11 => .pointer (some ⟨bq, off + k * 5 + 2, none⟩)
  | 12 => .agg #[.int .i64 x.b.pit, .int .i64 x.b.layer]
  | 13 => .bool true
  | 14 => .bool false
  | 15 => .bool false
  | 16 => .bool false
  | 17 => .slice (some ⟨bq, off, none⟩) n c
  | 18 => .int .i64 k
  | 19 => .pointer (some ⟨bq, off + k * 5, none⟩)
  | 20 => .pointer (some ⟨bq, off + k * 5, none⟩)
  | 21 => .agg #[.int .i64 x.a.pit, .int .i64 x.a.layer]
  | 22 => .slice (some ⟨bq, off, none⟩) n c
  | 23 => .int .i64 k
  | 24 => .pointer (some ⟨bq, off + k * 5, none⟩)
  | 25 => .pointer (some ⟨bq, off + k * 5 + 2, none⟩)
  | 26 => .agg #[.int .i64 x.b.pit, .int .i64 x.b.layer]
  | 27 => .bool false
  | 28 => .bool false
  | 29 => .bool false
  | 30 => .slice (some ⟨bq, off, none⟩) n c
  | 31 => .int .i64 k
  | 32 => .pointer (some ⟨bq, off + k * 5, none⟩)
  | 33 => .pointer (some ⟨bq, off + k * 5 + 4, none⟩)
  | 34 => .int .i64 x.by_
  | 35 => .bool true
  | 36 => .bool false
  | 37 => .bool false
  | _ => undef
set_option maxRecDepth 100000 in
set_option maxHeartbeats 4000000 in
theorem rbond5 (c0 : Code) (hc : c0 = coderbond5 Tryz.f51.body) (bq off n c k : Nat) (x : Bond) (a : Act) (w : World) (Q : Exit → Act → World → Prop)
    (hT : a.tmps.size = 51) (t0 : a.tmps.getD 0 undef = .slice (some ⟨bq, off, none⟩) n c) (t3 : a.tmps.getD 3 undef = .int .i64 k)
    (CE : ∀ W, Below w.heap.size w W → W.cell? ⟨bq, off + k * 5, none⟩ = some (.int .i64 x.a.pit) ∧ W.cell? ⟨bq, off + k * 5 + 1, none⟩ = some (.int .i64 x.a.layer) ∧ W.cell? ⟨bq, off + k * 5 + 2, none⟩ = some (.int .i64 x.b.pit) ∧ W.cell? ⟨bq, off + k * 5 + 3, none⟩ = some (.int .i64 x.b.layer) ∧ W.cell? ⟨bq, off + k * 5 + 4, none⟩ = some (.int .i64 x.by_)) (hkn : k < n) (h1 : isPlaceB x.a.pit x.a.layer = true) (h2 : isPlaceB x.b.pit x.b.layer = true) (h3 : eqPlace x.a x.b = false) (h4 : inB x.by_ 1 1000000 = true)
    (hQ : ∀ W, (fun W => Below w.heap.size w W) W → Q .normal { tmps := ((((((((((((((((((((((((((((((((((((((a.tmps.setIfInBounds 13 (.slice (some ⟨bq, off, none⟩) n c)).setIfInBounds 14 (.int .i64 k)).setIfInBounds 15 (.pointer (some ⟨bq, off + k * 5, none⟩))).setIfInBounds 16 (.pointer (some ⟨bq, off + k * 5, none⟩))).setIfInBounds 17 (.agg #[.int .i64 x.a.pit, .int .i64 x.a.layer])).setIfInBounds 18 (.bool true)).setIfInBounds 19 (.bool false)).setIfInBounds 20 (.bool false)).setIfInBounds 21 (.slice (some ⟨bq, off, none⟩) n c)).setIfInBounds 22 (.int .i64 k)).setIfInBounds 23 (.pointer (some ⟨bq, off + k * 5, none⟩))).setIfInBounds 24 (.pointer (some ⟨bq, off + k * 5 + 2, none⟩))).setIfInBounds 25 (.agg #[.int .i64 x.b.pit, .int .i64 x.b.layer])).setIfInBounds 26 (.bool true)).setIfInBounds 27 (.bool false)).setIfInBounds 28 (.bool false)).setIfInBounds 29 (.bool false)).setIfInBounds 30 (.slice (some ⟨bq, off, none⟩) n c)).setIfInBounds 31 (.int .i64 k)).setIfInBounds 32 (.pointer (some ⟨bq, off + k * 5, none⟩))).setIfInBounds 33 (.pointer (some ⟨bq, off + k * 5, none⟩))).setIfInBounds 34 (.agg #[.int .i64 x.a.pit, .int .i64 x.a.layer])).setIfInBounds 35 (.slice (some ⟨bq, off, none⟩) n c)).setIfInBounds 36 (.int .i64 k)).setIfInBounds 37 (.pointer (some ⟨bq, off + k * 5, none⟩))).setIfInBounds 38 (.pointer (some ⟨bq, off + k * 5 + 2, none⟩))).setIfInBounds 39 (.agg #[.int .i64 x.b.pit, .int .i64 x.b.layer])).setIfInBounds 40 (.bool false)).setIfInBounds 41 (.bool false)).setIfInBounds 42 (.bool false)).setIfInBounds 43 (.slice (some ⟨bq, off, none⟩) n c)).setIfInBounds 44 (.int .i64 k)).setIfInBounds 45 (.pointer (some ⟨bq, off + k * 5, none⟩))).setIfInBounds 46 (.pointer (some ⟨bq, off + k * 5 + 4, none⟩))).setIfInBounds 47 (.int .i64 x.by_)).setIfInBounds 48 (.bool true)).setIfInBounds 49 (.bool false)).setIfInBounds 50 (.bool false)), defers := a.defers } W) :
    c0.wp Tryz.prog Q a w := by
  subst hc
  unfold coderbond5 Tryz.f51
  dsimp only
  refine wpIn_wide.1 (wpIn_region_vals (nn := 5) 51 (by kernel_rfl) (by kernel_rfl) hT.symm (valrbond5 bq off n c k x) (fun W => Below w.heap.size w W) ((Below.refl _ _).drew) ?_ ?_)
  · intro listed i o b W hi ho h
    obtain ⟨c0, c1, c2, c3, c4⟩ := CE W h.glob
    clear hQ
    obtain ⟨hun, oi, hoi, hall⟩ := mem_ready.1 hi
    have : oi = o := Option.some.inj (hoi.symm.trans ho)
    subst this
    clear hoi hi
    have hlt : i < 38 := (by have := (Array.getElem?_eq_some_iff.1 ho).1; simpa using this)
    have hun' : listed.getD i false = false := getD_both hun
    rcases (by omega : i = 0 ∨ i = 1 ∨ i = 2 ∨ i = 3 ∨ i = 4 ∨ i = 5 ∨ i = 6 ∨ i = 7 ∨ i = 8 ∨ i = 9 ∨ i = 10 ∨ i = 11 ∨ i = 12 ∨ i = 13 ∨ i = 14 ∨ i = 15 ∨ i = 16 ∨ i = 17 ∨ i = 18 ∨ i = 19 ∨ i = 20 ∨ i = 21 ∨ i = 22 ∨ i = 23 ∨ i = 24 ∨ i = 25 ∨ i = 26 ∨ i = 27 ∨ i = 28 ∨ i = 29 ∨ i = 30 ∨ i = 31 ∨ i = 32 ∨ i = 33 ∨ i = 34 ∨ i = 35 ∨ i = 36 ∨ i = 37) with rfl | rfl | rfl | rfl | rfl | rfl | rfl | rfl | rfl | rfl | rfl | rfl | rfl | rfl | rfl | rfl | rfl | rfl | rfl | rfl | rfl | rfl | rfl | rfl | rfl | rfl | rfl | rfl | rfl | rfl | rfl | rfl | rfl | rfl | rfl | rfl | rfl | rfl
    all_goals simp only [List.getElem?_toArray, List.getElem?_cons_zero, List.getElem?_cons_succ] at ho
    all_goals cases ho
    · -- 0
      rw [if_pos (show Region.wanted _ _ = true from rfl)]
      have q0 := (h.tab.old 0 (dst_no h.tab (by kernel_rfl))).trans t0
      have q0' : b.tmps[0]?.getD undef = _ := (by simpa using q0)
      refine wide_val (v := .slice (some ⟨bq, off, none⟩) n c) (by go_simp; try rfl) ⟨rfl, h.glob⟩
    · -- 1
      rw [if_pos (show Region.wanted _ _ = true from rfl)]
      have q3 := (h.tab.old 3 (dst_no h.tab (by kernel_rfl))).trans t3
      have q3' : b.tmps[3]?.getD undef = _ := (by simpa using q3)
      refine wide_val (v := .int .i64 k) (by go_simp; try rfl) ⟨rfl, h.glob⟩
    · -- 2
      rw [if_pos (show Region.wanted _ _ = true from rfl)]
      have l0 := hall ⟨0, .data⟩ (by simp) rfl
      have e0 : b.tmps.getD 13 undef = .slice (some ⟨bq, off, none⟩) n c := h.val 0 13 rfl l0
      have e0' : b.tmps[13]?.getD undef = .slice (some ⟨bq, off, none⟩) n c := (by simpa using e0)
      have l1 := hall ⟨1, .data⟩ (by simp) rfl
      have e1 : b.tmps.getD 14 undef = .int .i64 k := h.val 1 14 rfl l1
      have e1' : b.tmps[14]?.getD undef = .int .i64 k := (by simpa using e1)
      refine wide_val (v := .pointer (some ⟨bq, off + k * 5, none⟩)) (by go_simp; try rfl) ⟨rfl, h.glob⟩
    · -- 3
      rw [if_pos (show Region.wanted _ _ = true from rfl)]
      have l2 := hall ⟨2, .data⟩ (by simp) rfl
      have e2 : b.tmps.getD 15 undef = .pointer (some ⟨bq, off + k * 5, none⟩) := h.val 2 15 rfl l2
      have e2' : b.tmps[15]?.getD undef = .pointer (some ⟨bq, off + k * 5, none⟩) := (by simpa using e2)
      refine wide_val (v := .pointer (some ⟨bq, off + k * 5, none⟩)) (by go_simp; try rfl) ⟨rfl, h.glob⟩
    · -- 4
      rw [if_pos (show Region.wanted _ _ = true from rfl)]
      have l3 := hall ⟨3, .data⟩ (by simp) rfl
      have e3 : b.tmps.getD 16 undef = .pointer (some ⟨bq, off + k * 5, none⟩) := h.val 3 16 rfl l3
      have e3' : b.tmps[16]?.getD undef = .pointer (some ⟨bq, off + k * 5, none⟩) := (by simpa using e3)
      refine wide_val (v := .agg #[.int .i64 x.a.pit, .int .i64 x.a.layer]) (by go_simp; try rfl) ⟨rfl, h.glob⟩
    · -- 5
      rw [if_pos (show Region.wanted _ _ = true from rfl)]
      have l4 := hall ⟨4, .data⟩ (by simp) rfl
      have e4 : b.tmps.getD 17 undef = .agg #[.int .i64 x.a.pit, .int .i64 x.a.layer] := h.val 4 17 rfl l4
      have e4' : b.tmps[17]?.getD undef = .agg #[.int .i64 x.a.pit, .int .i64 x.a.layer] := (by simpa using e4)
      refine wide_call (f := 101) (args := #[.agg #[.int .i64 x.a.pit, .int .i64 x.a.layer]]) (by go_simp <;> (try simpa [Act.eval] using e4)) ((rIsPlace_any _ _ W).mono ?_)
      rintro e w' ⟨rfl, hb'⟩
      rw [h1]
      exact ⟨_, rfl, rfl, h.glob.trans (hb'.mono h.glob.size)⟩
    · -- 6
      rw [if_pos (show Region.wanted _ _ = true from rfl)]
      have l5 := hall ⟨5, .data⟩ (by simp) rfl
      have e5 : b.tmps.getD 18 undef = .bool true := h.val 5 18 rfl l5
      have e5' : b.tmps[18]?.getD undef = .bool true := (by simpa using e5)
      refine wide_val (v := .bool false) (by go_simp; try rfl) ⟨rfl, h.glob⟩
    · -- 7
      rw [if_pos (show Region.wanted _ _ = true from rfl)]
      have l6 := hall ⟨6, .data⟩ (by simp) rfl
      have e6 : b.tmps.getD 19 undef = .bool false := h.val 6 19 rfl l6
      have e6' : b.tmps[19]?.getD undef = .bool false := (by simpa using e6)
      refine wide_val (v := .bool false) (by go_simp; try rfl) ⟨rfl, h.glob⟩
    · -- 8
      have lg := hall ⟨7, .guard⟩ (by simp) rfl
      rw [wanted_of h (j := 7) (d := 20) (g := false) (v := false) rfl rfl lg rfl]
      rw [if_pos (show (false == false) = true from rfl)]
      have q0 := (h.tab.old 0 (dst_no h.tab (by kernel_rfl))).trans t0
      have q0' : b.tmps[0]?.getD undef = _ := (by simpa using q0)
      refine wide_val (v := .slice (some ⟨bq, off, none⟩) n c) (by go_simp; try rfl) ⟨rfl, h.glob⟩
    · -- 9
      have lg := hall ⟨7, .guard⟩ (by simp) rfl
      rw [wanted_of h (j := 7) (d := 20) (g := false) (v := false) rfl rfl lg rfl]
      rw [if_pos (show (false == false) = true from rfl)]
      have q3 := (h.tab.old 3 (dst_no h.tab (by kernel_rfl))).trans t3
      have q3' : b.tmps[3]?.getD undef = _ := (by simpa using q3)
      refine wide_val (v := .int .i64 k) (by go_simp; try rfl) ⟨rfl, h.glob⟩
    · -- 10
      have lg := hall ⟨7, .guard⟩ (by simp) rfl
      rw [wanted_of h (j := 7) (d := 20) (g := false) (v := false) rfl rfl lg rfl]
      rw [if_pos (show (false == false) = true from rfl)]
      have l8 := hall ⟨8, .data⟩ (by simp) rfl
      have e8 : b.tmps.getD 21 undef = .slice (some ⟨bq, off, none⟩) n c := h.val 8 21 rfl l8
      have e8' : b.tmps[21]?.getD undef = .slice (some ⟨bq, off, none⟩) n c := (by simpa using e8)
      have l9 := hall ⟨9, .data⟩ (by simp) rfl
      have e9 : b.tmps.getD 22 undef = .int .i64 k := h.val 9 22 rfl l9
      have e9' : b.tmps[22]?.getD undef = .int .i64 k := (by simpa using e9)
      refine wide_val (v := .pointer (some ⟨bq, off + k * 5, none⟩)) (by go_simp; try rfl) ⟨rfl, h.glob⟩
    · -- 11
      have lg := hall ⟨7, .guard⟩ (by simp) rfl
      rw [wanted_of h (j := 7) (d := 20) (g := false) (v := false) rfl rfl lg rfl]
      rw [if_pos (show (false == false) = true from rfl)]
      have l10 := hall ⟨10, .data⟩ (by simp) rfl
      have e10 : b.tmps.getD 23 undef = .pointer (some ⟨bq, off + k * 5, none⟩) := h.val 10 23 rfl l10
      have e10' : b.tmps[23]?.getD undef = .pointer (some ⟨bq, off + k * 5, none⟩) := (by simpa using e10)
      refine wide_val (v := .pointer (some ⟨bq, off + k * 5 + 2, none⟩)) (by go_simp; try rfl) ⟨rfl, h.glob⟩
    · -- 12
      have lg := hall ⟨7, .guard⟩ (by simp) rfl
      rw [wanted_of h (j := 7) (d := 20) (g := false) (v := false) rfl rfl lg rfl]
      rw [if_pos (show (false == false) = true from rfl)]
      have l11 := hall ⟨11, .data⟩ (by simp) rfl
      have e11 : b.tmps.getD 24 undef = .pointer (some ⟨bq, off + k * 5 + 2, none⟩) := h.val 11 24 rfl l11
      have e11' : b.tmps[24]?.getD undef = .pointer (some ⟨bq, off + k * 5 + 2, none⟩) := (by simpa using e11)
      refine wide_val (v := .agg #[.int .i64 x.b.pit, .int .i64 x.b.layer]) (by go_simp; try rfl) ⟨rfl, h.glob⟩
    · -- 13
      have lg := hall ⟨7, .guard⟩ (by simp) rfl
      rw [wanted_of h (j := 7) (d := 20) (g := false) (v := false) rfl rfl lg rfl]
      rw [if_pos (show (false == false) = true from rfl)]
      have l12 := hall ⟨12, .data⟩ (by simp) rfl
      have e12 : b.tmps.getD 25 undef = .agg #[.int .i64 x.b.pit, .int .i64 x.b.layer] := h.val 12 25 rfl l12
      have e12' : b.tmps[25]?.getD undef = .agg #[.int .i64 x.b.pit, .int .i64 x.b.layer] := (by simpa using e12)
      refine wide_call (f := 101) (args := #[.agg #[.int .i64 x.b.pit, .int .i64 x.b.layer]]) (by go_simp <;> (try simpa [Act.eval] using e12)) ((rIsPlace_any _ _ W).mono ?_)
      rintro e w' ⟨rfl, hb'⟩
      rw [h2]
      exact ⟨_, rfl, rfl, h.glob.trans (hb'.mono h.glob.size)⟩
    · -- 14
      have lg := hall ⟨7, .guard⟩ (by simp) rfl
      rw [wanted_of h (j := 7) (d := 20) (g := false) (v := false) rfl rfl lg rfl]
      rw [if_pos (show (false == false) = true from rfl)]
      have l13 := hall ⟨13, .data⟩ (by simp) rfl
      have e13 : b.tmps.getD 26 undef = .bool true := h.val 13 26 rfl l13
      have e13' : b.tmps[26]?.getD undef = .bool true := (by simpa using e13)
      refine wide_val (v := .bool false) (by go_simp; try rfl) ⟨rfl, h.glob⟩
    · -- 15
      rw [if_pos (show Region.wanted _ _ = true from rfl)]
      have l7 := hall ⟨7, .data⟩ (by simp) rfl
      have e7 : b.tmps.getD 20 undef = .bool false := h.val 7 20 rfl l7
      have e7' : b.tmps[20]?.getD undef = .bool false := (by simpa using e7)
      have l14 := hall ⟨14, .data⟩ (by simp) rfl
      have e14 : b.tmps.getD 27 undef = .bool false := h.val 14 27 rfl l14
      have e14' : b.tmps[27]?.getD undef = .bool false := (by simpa using e14)
      refine wide_val (v := .bool false) (by go_simp; try rfl) ⟨rfl, h.glob⟩
    · -- 16
      rw [if_pos (show Region.wanted _ _ = true from rfl)]
      have l15 := hall ⟨15, .data⟩ (by simp) rfl
      have e15 : b.tmps.getD 28 undef = .bool false := h.val 15 28 rfl l15
      have e15' : b.tmps[28]?.getD undef = .bool false := (by simpa using e15)
      refine wide_val (v := .bool false) (by go_simp; try rfl) ⟨rfl, h.glob⟩
    · -- 17
      have lg := hall ⟨16, .guard⟩ (by simp) rfl
      rw [wanted_of h (j := 16) (d := 29) (g := false) (v := false) rfl rfl lg rfl]
      rw [if_pos (show (false == false) = true from rfl)]
      have q0 := (h.tab.old 0 (dst_no h.tab (by kernel_rfl))).trans t0
      have q0' : b.tmps[0]?.getD undef = _ := (by simpa using q0)
      refine wide_val (v := .slice (some ⟨bq, off, none⟩) n c) (by go_simp; try rfl) ⟨rfl, h.glob⟩
    · -- 18
      have lg := hall ⟨16, .guard⟩ (by simp) rfl
      rw [wanted_of h (j := 16) (d := 29) (g := false) (v := false) rfl rfl lg rfl]
      rw [if_pos (show (false == false) = true from rfl)]
      have q3 := (h.tab.old 3 (dst_no h.tab (by kernel_rfl))).trans t3
      have q3' : b.tmps[3]?.getD undef = _ := (by simpa using q3)
      refine wide_val (v := .int .i64 k) (by go_simp; try rfl) ⟨rfl, h.glob⟩
    · -- 19
      have lg := hall ⟨16, .guard⟩ (by simp) rfl
      rw [wanted_of h (j := 16) (d := 29) (g := false) (v := false) rfl rfl lg rfl]
      rw [if_pos (show (false == false) = true from rfl)]
      have l17 := hall ⟨17, .data⟩ (by simp) rfl
      have e17 : b.tmps.getD 30 undef = .slice (some ⟨bq, off, none⟩) n c := h.val 17 30 rfl l17
      have e17' : b.tmps[30]?.getD undef = .slice (some ⟨bq, off, none⟩) n c := (by simpa using e17)
      have l18 := hall ⟨18, .data⟩ (by simp) rfl
      have e18 : b.tmps.getD 31 undef = .int .i64 k := h.val 18 31 rfl l18
      have e18' : b.tmps[31]?.getD undef = .int .i64 k := (by simpa using e18)
      refine wide_val (v := .pointer (some ⟨bq, off + k * 5, none⟩)) (by go_simp; try rfl) ⟨rfl, h.glob⟩
    · -- 20
      have lg := hall ⟨16, .guard⟩ (by simp) rfl
      rw [wanted_of h (j := 16) (d := 29) (g := false) (v := false) rfl rfl lg rfl]
      rw [if_pos (show (false == false) = true from rfl)]
      have l19 := hall ⟨19, .data⟩ (by simp) rfl
      have e19 : b.tmps.getD 32 undef = .pointer (some ⟨bq, off + k * 5, none⟩) := h.val 19 32 rfl l19
      have e19' : b.tmps[32]?.getD undef = .pointer (some ⟨bq, off + k * 5, none⟩) := (by simpa using e19)
      refine wide_val (v := .pointer (some ⟨bq, off + k * 5, none⟩)) (by go_simp; try rfl) ⟨rfl, h.glob⟩
    · -- 21
      have lg := hall ⟨16, .guard⟩ (by simp) rfl
      rw [wanted_of h (j := 16) (d := 29) (g := false) (v := false) rfl rfl lg rfl]
      rw [if_pos (show (false == false) = true from rfl)]
      have l20 := hall ⟨20, .data⟩ (by simp) rfl
      have e20 : b.tmps.getD 33 undef = .pointer (some ⟨bq, off + k * 5, none⟩) := h.val 20 33 rfl l20
      have e20' : b.tmps[33]?.getD undef = .pointer (some ⟨bq, off + k * 5, none⟩) := (by simpa using e20)
      refine wide_val (v := .agg #[.int .i64 x.a.pit, .int .i64 x.a.layer]) (by go_simp; try rfl) ⟨rfl, h.glob⟩
    · -- 22
      have lg := hall ⟨16, .guard⟩ (by simp) rfl
      rw [wanted_of h (j := 16) (d := 29) (g := false) (v := false) rfl rfl lg rfl]
      rw [if_pos (show (false == false) = true from rfl)]
      have q0 := (h.tab.old 0 (dst_no h.tab (by kernel_rfl))).trans t0
      have q0' : b.tmps[0]?.getD undef = _ := (by simpa using q0)
      refine wide_val (v := .slice (some ⟨bq, off, none⟩) n c) (by go_simp; try rfl) ⟨rfl, h.glob⟩
    · -- 23
      have lg := hall ⟨16, .guard⟩ (by simp) rfl
      rw [wanted_of h (j := 16) (d := 29) (g := false) (v := false) rfl rfl lg rfl]
      rw [if_pos (show (false == false) = true from rfl)]
      have q3 := (h.tab.old 3 (dst_no h.tab (by kernel_rfl))).trans t3
      have q3' : b.tmps[3]?.getD undef = _ := (by simpa using q3)
      refine wide_val (v := .int .i64 k) (by go_simp; try rfl) ⟨rfl, h.glob⟩
    · -- 24
      have lg := hall ⟨16, .guard⟩ (by simp) rfl
      rw [wanted_of h (j := 16) (d := 29) (g := false) (v := false) rfl rfl lg rfl]
      rw [if_pos (show (false == false) = true from rfl)]
      have l22 := hall ⟨22, .data⟩ (by simp) rfl
      have e22 : b.tmps.getD 35 undef = .slice (some ⟨bq, off, none⟩) n c := h.val 22 35 rfl l22
      have e22' : b.tmps[35]?.getD undef = .slice (some ⟨bq, off, none⟩) n c := (by simpa using e22)
      have l23 := hall ⟨23, .data⟩ (by simp) rfl
      have e23 : b.tmps.getD 36 undef = .int .i64 k := h.val 23 36 rfl l23
      have e23' : b.tmps[36]?.getD undef = .int .i64 k := (by simpa using e23)
      refine wide_val (v := .pointer (some ⟨bq, off + k * 5, none⟩)) (by go_simp; try rfl) ⟨rfl, h.glob⟩
    · -- 25
      have lg := hall ⟨16, .guard⟩ (by simp) rfl
      rw [wanted_of h (j := 16) (d := 29) (g := false) (v := false) rfl rfl lg rfl]
      rw [if_pos (show (false == false) = true from rfl)]
      have l24 := hall ⟨24, .data⟩ (by simp) rfl
      have e24 : b.tmps.getD 37 undef = .pointer (some ⟨bq, off + k * 5, none⟩) := h.val 24 37 rfl l24
      have e24' : b.tmps[37]?.getD undef = .pointer (some ⟨bq, off + k * 5, none⟩) := (by simpa using e24)
      refine wide_val (v := .pointer (some ⟨bq, off + k * 5 + 2, none⟩)) (by go_simp; try rfl) ⟨rfl, h.glob⟩
    · -- 26
      have lg := hall ⟨16, .guard⟩ (by simp) rfl
      rw [wanted_of h (j := 16) (d := 29) (g := false) (v := false) rfl rfl lg rfl]
      rw [if_pos (show (false == false) = true from rfl)]
      have l25 := hall ⟨25, .data⟩ (by simp) rfl
      have e25 : b.tmps.getD 38 undef = .pointer (some ⟨bq, off + k * 5 + 2, none⟩) := h.val 25 38 rfl l25
      have e25' : b.tmps[38]?.getD undef = .pointer (some ⟨bq, off + k * 5 + 2, none⟩) := (by simpa using e25)
      refine wide_val (v := .agg #[.int .i64 x.b.pit, .int .i64 x.b.layer]) (by go_simp; try rfl) ⟨rfl, h.glob⟩
    · -- 27
      have lg := hall ⟨16, .guard⟩ (by simp) rfl
      rw [wanted_of h (j := 16) (d := 29) (g := false) (v := false) rfl rfl lg rfl]
      rw [if_pos (show (false == false) = true from rfl)]
      have l21 := hall ⟨21, .data⟩ (by simp) rfl
      have e21 : b.tmps.getD 34 undef = .agg #[.int .i64 x.a.pit, .int .i64 x.a.layer] := h.val 21 34 rfl l21
      have e21' : b.tmps[34]?.getD undef = .agg #[.int .i64 x.a.pit, .int .i64 x.a.layer] := (by simpa using e21)
      have l26 := hall ⟨26, .data⟩ (by simp) rfl
      have e26 : b.tmps.getD 39 undef = .agg #[.int .i64 x.b.pit, .int .i64 x.b.layer] := h.val 26 39 rfl l26
      have e26' : b.tmps[39]?.getD undef = .agg #[.int .i64 x.b.pit, .int .i64 x.b.layer] := (by simpa using e26)
      have h3' : eqPlace ⟨x.a.pit, x.a.layer⟩ ⟨x.b.pit, x.b.layer⟩ = false := h3
      refine wide_val (v := .bool false) (by go_simp; (try exact congrArg Value.bool h3')) ⟨rfl, h.glob⟩
    · -- 28
      rw [if_pos (show Region.wanted _ _ = true from rfl)]
      have l16 := hall ⟨16, .data⟩ (by simp) rfl
      have e16 : b.tmps.getD 29 undef = .bool false := h.val 16 29 rfl l16
      have e16' : b.tmps[29]?.getD undef = .bool false := (by simpa using e16)
      have l27 := hall ⟨27, .data⟩ (by simp) rfl
      have e27 : b.tmps.getD 40 undef = .bool false := h.val 27 40 rfl l27
      have e27' : b.tmps[40]?.getD undef = .bool false := (by simpa using e27)
      refine wide_val (v := .bool false) (by go_simp; try rfl) ⟨rfl, h.glob⟩
    · -- 29
      rw [if_pos (show Region.wanted _ _ = true from rfl)]
      have l28 := hall ⟨28, .data⟩ (by simp) rfl
      have e28 : b.tmps.getD 41 undef = .bool false := h.val 28 41 rfl l28
      have e28' : b.tmps[41]?.getD undef = .bool false := (by simpa using e28)
      refine wide_val (v := .bool false) (by go_simp; try rfl) ⟨rfl, h.glob⟩
    · -- 30
      have lg := hall ⟨29, .guard⟩ (by simp) rfl
      rw [wanted_of h (j := 29) (d := 42) (g := false) (v := false) rfl rfl lg rfl]
      rw [if_pos (show (false == false) = true from rfl)]
      have q0 := (h.tab.old 0 (dst_no h.tab (by kernel_rfl))).trans t0
      have q0' : b.tmps[0]?.getD undef = _ := (by simpa using q0)
      refine wide_val (v := .slice (some ⟨bq, off, none⟩) n c) (by go_simp; try rfl) ⟨rfl, h.glob⟩
    · -- 31
      have lg := hall ⟨29, .guard⟩ (by simp) rfl
      rw [wanted_of h (j := 29) (d := 42) (g := false) (v := false) rfl rfl lg rfl]
      rw [if_pos (show (false == false) = true from rfl)]
      have q3 := (h.tab.old 3 (dst_no h.tab (by kernel_rfl))).trans t3
      have q3' : b.tmps[3]?.getD undef = _ := (by simpa using q3)
      refine wide_val (v := .int .i64 k) (by go_simp; try rfl) ⟨rfl, h.glob⟩
    · -- 32
      have lg := hall ⟨29, .guard⟩ (by simp) rfl
      rw [wanted_of h (j := 29) (d := 42) (g := false) (v := false) rfl rfl lg rfl]
      rw [if_pos (show (false == false) = true from rfl)]
      have l30 := hall ⟨30, .data⟩ (by simp) rfl
      have e30 : b.tmps.getD 43 undef = .slice (some ⟨bq, off, none⟩) n c := h.val 30 43 rfl l30
      have e30' : b.tmps[43]?.getD undef = .slice (some ⟨bq, off, none⟩) n c := (by simpa using e30)
      have l31 := hall ⟨31, .data⟩ (by simp) rfl
      have e31 : b.tmps.getD 44 undef = .int .i64 k := h.val 31 44 rfl l31
      have e31' : b.tmps[44]?.getD undef = .int .i64 k := (by simpa using e31)
      refine wide_val (v := .pointer (some ⟨bq, off + k * 5, none⟩)) (by go_simp; try rfl) ⟨rfl, h.glob⟩
    · -- 33
      have lg := hall ⟨29, .guard⟩ (by simp) rfl
      rw [wanted_of h (j := 29) (d := 42) (g := false) (v := false) rfl rfl lg rfl]
      rw [if_pos (show (false == false) = true from rfl)]
      have l32 := hall ⟨32, .data⟩ (by simp) rfl
      have e32 : b.tmps.getD 45 undef = .pointer (some ⟨bq, off + k * 5, none⟩) := h.val 32 45 rfl l32
      have e32' : b.tmps[45]?.getD undef = .pointer (some ⟨bq, off + k * 5, none⟩) := (by simpa using e32)
      refine wide_val (v := .pointer (some ⟨bq, off + k * 5 + 4, none⟩)) (by go_simp; try rfl) ⟨rfl, h.glob⟩
    · -- 34
      have lg := hall ⟨29, .guard⟩ (by simp) rfl
      rw [wanted_of h (j := 29) (d := 42) (g := false) (v := false) rfl rfl lg rfl]
      rw [if_pos (show (false == false) = true from rfl)]
      have l33 := hall ⟨33, .data⟩ (by simp) rfl
      have e33 : b.tmps.getD 46 undef = .pointer (some ⟨bq, off + k * 5 + 4, none⟩) := h.val 33 46 rfl l33
      have e33' : b.tmps[46]?.getD undef = .pointer (some ⟨bq, off + k * 5 + 4, none⟩) := (by simpa using e33)
      refine wide_val (v := .int .i64 x.by_) (by go_simp; try rfl) ⟨rfl, h.glob⟩
    · -- 35
      have lg := hall ⟨29, .guard⟩ (by simp) rfl
      rw [wanted_of h (j := 29) (d := 42) (g := false) (v := false) rfl rfl lg rfl]
      rw [if_pos (show (false == false) = true from rfl)]
      have l34 := hall ⟨34, .data⟩ (by simp) rfl
      have e34 : b.tmps.getD 47 undef = .int .i64 x.by_ := h.val 34 47 rfl l34
      have e34' : b.tmps[47]?.getD undef = .int .i64 x.by_ := (by simpa using e34)
      refine wide_call (f := 102) (args := #[.int .i64 x.by_, .int .i64 1, .int .i64 1000000]) (by go_simp <;> (try simpa [Act.eval] using e34)) ((rWithin_any _ _ _ W).mono ?_)
      rintro e w' ⟨rfl, rfl⟩
      rw [h4]
      exact ⟨_, rfl, rfl, h.glob⟩
    · -- 36
      have lg := hall ⟨29, .guard⟩ (by simp) rfl
      rw [wanted_of h (j := 29) (d := 42) (g := false) (v := false) rfl rfl lg rfl]
      rw [if_pos (show (false == false) = true from rfl)]
      have l35 := hall ⟨35, .data⟩ (by simp) rfl
      have e35 : b.tmps.getD 48 undef = .bool true := h.val 35 48 rfl l35
      have e35' : b.tmps[48]?.getD undef = .bool true := (by simpa using e35)
      refine wide_val (v := .bool false) (by go_simp; try rfl) ⟨rfl, h.glob⟩
    · -- 37
      rw [if_pos (show Region.wanted _ _ = true from rfl)]
      have l29 := hall ⟨29, .data⟩ (by simp) rfl
      have e29 : b.tmps.getD 42 undef = .bool false := h.val 29 42 rfl l29
      have e29' : b.tmps[42]?.getD undef = .bool false := (by simpa using e29)
      have l36 := hall ⟨36, .data⟩ (by simp) rfl
      have e36 : b.tmps.getD 49 undef = .bool false := h.val 36 49 rfl l36
      have e36' : b.tmps[49]?.getD undef = .bool false := (by simpa using e36)
      refine wide_val (v := .bool false) (by go_simp; try rfl) ⟨rfl, h.glob⟩
  · intro W hg
    have := hQ W hg
    simp only [List.size_toArray, bareL, bare, List.map_cons, List.map_nil, List.length_cons, List.length_nil, Nat.reduceAdd, framed, dstOf, List.getElem?_toArray, List.getElem?_cons_zero, List.getElem?_cons_succ, Option.bind_some, valrbond5]
    exact this
end Go.Proofs.YtelnkflmnbhclaaGreat
end

/- What is proved: the contract of the reference's CheckBonds: what the program's returns. Conditions: none. -/
section
namespace Go.Proofs.YtelnkflmnbhclaaGreat
open Go.RowKit Go.Proofs Go.Shelf

theorem bond_ways (x : Bond) : (isPlaceB x.a.pit x.a.layer = false ∧ wrongBond x = true) ∨ (isPlaceB x.a.pit x.a.layer = true ∧ isPlaceB x.b.pit x.b.layer = false ∧ wrongBond x = true) ∨ (isPlaceB x.a.pit x.a.layer = true ∧ isPlaceB x.b.pit x.b.layer = true ∧ eqPlace x.a x.b = true ∧ wrongBond x = true) ∨
    (isPlaceB x.a.pit x.a.layer = true ∧ isPlaceB x.b.pit x.b.layer = true ∧ eqPlace x.a x.b = false ∧ inB x.by_ 1 1000000 = false ∧ wrongBond x = true) ∨ (isPlaceB x.a.pit x.a.layer = true ∧ isPlaceB x.b.pit x.b.layer = true ∧ eqPlace x.a x.b = false ∧ inB x.by_ 1 1000000 = true ∧ wrongBond x = false) := by
  unfold wrongBond
  cases isPlaceB x.a.pit x.a.layer <;> cases isPlaceB x.b.pit x.b.layer <;> cases eqPlace x.a x.b <;> cases inB x.by_ 1 1000000 <;> simp
set_option maxHeartbeats 4000000 in
set_option maxRecDepth 100000 in
theorem rCheckBonds_any (A : Option Addr) (n c : Nat) (l : List Bond) (w : World) (hl : Rd encBond 5 w A n c l) :
    Calls Tryz.prog 51 #[.slice A n c] w fun e w' => e = .returned (.int .i64 (checkBonds l)) ∧ Below w.heap.size w w' := by
  have hnl := Lib.hid hl.len
  have hbig := hl.big
  have HL := Lib.hid hl
  clear hl
  by_cases h60 : 60 < n
  · go_enter Tryz.func51, Tryz.ntmps51
    go_wp2
    go_ret
    refine ⟨retI ?_, Below.refl _ _⟩
    unfold checkBonds
    rw [if_pos (by rw [hnl.out]; omega)]
  · go_enter Tryz.func51, Tryz.ntmps51
    go_wp2
    go_loopw [3] (fun i wr => ∃ k : Nat, k ≤ n ∧ i = .int .i64 k ∧ Hid (Below w.heap.size w wr) ∧ Hid ((l.take k).any wrongBond = false)) (fun i _ => n - (intOf i).toNat)
    case atStart => exact ⟨0, Nat.zero_le _, rfl, (show Below _ _ _ from Below.refl _ _), (show _ = _ from rfl)⟩
    case round =>
      obtain ⟨k, hk, rfl, hb, hno⟩ := hrel
      have hzr := hb.out.size
      by_cases hlt : k < n
      · obtain ⟨b, off, x, rfl, hbw, hx, hcell⟩ := (HL.out.below hb.out (Nat.le_refl _)).one hlt
        have c0 : wr.cell? ⟨b, off + k * 5, none⟩ = some (.int .i64 x.a.pit) := hcell 0 _ rfl
        have c1 : wr.cell? ⟨b, off + k * 5 + 1, none⟩ = some (.int .i64 x.a.layer) := hcell 1 _ rfl
        have c2 : wr.cell? ⟨b, off + k * 5 + 2, none⟩ = some (.int .i64 x.b.pit) := hcell 2 _ rfl
        have c3 : wr.cell? ⟨b, off + k * 5 + 3, none⟩ = some (.int .i64 x.b.layer) := hcell 3 _ rfl
        have c4 : wr.cell? ⟨b, off + k * 5 + 4, none⟩ = some (.int .i64 x.by_) := hcell 4 _ rfl
        have SN : Hid ((l.take (k + 1)).any wrongBond = wrongBond x) := (show _ = _ by rw [List.take_add_one, hx, Option.toList_some, List.any_append, hno.out]; simp)
        have HM := Lib.hid (List.mem_of_getElem? hx)
        have CE : Hid (∀ W, Below wr.heap.size wr W → W.cell? ⟨b, off + k * 5, none⟩ = some (.int .i64 x.a.pit) ∧ W.cell? ⟨b, off + k * 5 + 1, none⟩ = some (.int .i64 x.a.layer) ∧ W.cell? ⟨b, off + k * 5 + 2, none⟩ = some (.int .i64 x.b.pit) ∧ W.cell? ⟨b, off + k * 5 + 3, none⟩ = some (.int .i64 x.b.layer) ∧ W.cell? ⟨b, off + k * 5 + 4, none⟩ = some (.int .i64 x.by_)) :=
          (show ∀ W, Below wr.heap.size wr W → W.cell? ⟨b, off + k * 5, none⟩ = some (.int .i64 x.a.pit) ∧ W.cell? ⟨b, off + k * 5 + 1, none⟩ = some (.int .i64 x.a.layer) ∧ W.cell? ⟨b, off + k * 5 + 2, none⟩ = some (.int .i64 x.b.pit) ∧ W.cell? ⟨b, off + k * 5 + 3, none⟩ = some (.int .i64 x.b.layer) ∧ W.cell? ⟨b, off + k * 5 + 4, none⟩ = some (.int .i64 x.by_) from
            fun W hb => ⟨(hb.cell (p := ⟨b, _, none⟩) hbw).trans c0, (hb.cell (p := ⟨b, _, none⟩) hbw).trans c1, (hb.cell (p := ⟨b, _, none⟩) hbw).trans c2, (hb.cell (p := ⟨b, _, none⟩) hbw).trans c3, (hb.cell (p := ⟨b, _, none⟩) hbw).trans c4⟩)
        clear hcell hx
        rcases bond_ways x with ⟨h1, hw⟩ | ⟨h1, h2, hw⟩ | ⟨h1, h2, h3, hw⟩ | ⟨h1, h2, h3, h4, hw⟩ | ⟨h1, h2, h3, h4, hw⟩
        all_goals
          have HW := Lib.hid hw
          clear hw c0 c1 c2 c3 c4
        all_goals
          (first
            | (have H1 := Lib.hid (And.intro h1 (And.intro h2 (And.intro h3 h4))); clear h1 h2 h3 h4)
            | (have H1 := Lib.hid (And.intro h1 (And.intro h2 h3)); clear h1 h2 h3)
            | (have H1 := Lib.hid (And.intro h1 h2); clear h1 h2)
            | (have H1 := Lib.hid h1; clear h1))
          go_upto_region 6 with (fail)
          first
            | refine rbond5 _ rfl b off n c k x _ wr _ rfl rfl rfl CE.out hlt H1.out.1 H1.out.2.1 H1.out.2.2.1 H1.out.2.2.2 ?_
            | refine rbond4 _ rfl b off n c k x _ wr _ rfl rfl rfl CE.out hlt H1.out.1 H1.out.2.1 H1.out.2.2.1 H1.out.2.2.2 ?_
            | refine rbond3 _ rfl b off n c k x _ wr _ rfl rfl rfl CE.out hlt H1.out.1 H1.out.2.1 H1.out.2.2 ?_
            | refine rbond2 _ rfl b off n c k x _ wr _ rfl rfl rfl CE.out hlt H1.out.1 H1.out.2 ?_
            | refine rbond1 _ rfl b off n c k x _ wr _ rfl rfl rfl CE.out hlt H1.out ?_
          intro wI hbI
          have HBI := Lib.hid hbI
          clear hbI
          simp only [List.setIfInBounds_toArray, List.set_cons_succ, List.set_cons_zero]
          go_wp2
          first
            | (go_ret
               refine ⟨retI ?_, hb.out.trans (HBI.out.mono hzr)⟩
               unfold checkBonds
               rw [if_neg (by rw [hnl.out]; omega), if_pos (List.any_eq_true.2 ⟨x, HM.out, HW.out⟩)])
            | go_roundw
        all_goals first
            | (simp [intOf]; omega)
            | exact ⟨k + 1, by omega, by go_num, hb.out.trans (HBI.out.mono hzr), (show _ = _ by rw [SN.out]; exact HW.out)⟩
      · have hkn : k = n := by omega
        subst hkn
        go_wp2
        go_ret
        refine ⟨retI ?_, hb.out⟩
        have h1 := hno.out
        rw [List.take_of_length_le (by rw [hnl.out]; exact Nat.le_refl _)] at h1
        unfold checkBonds
        rw [if_neg (by rw [hnl.out]; omega), if_neg (by rw [h1]; decide)]
end Go.Proofs.YtelnkflmnbhclaaGreat
end

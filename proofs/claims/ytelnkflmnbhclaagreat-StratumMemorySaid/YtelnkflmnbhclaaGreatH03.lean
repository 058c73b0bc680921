/- Contracts that the laws lean on: RefF, RefE. -/
import Derived.Test.YtelnkflmnbhclaaGreatH01
import Derived.Test.YtelnkflmnbhclaaGreatG07
import Derived.Deep.RegionHeld3
import Derived.Deep.DeepCutAuto
/- What is proved: the drawn region of the reference's CheckBonds: whether a bond is wrong. Conditions: none. -/
section
namespace Go.Proofs.YtelnkflmnbhclaaGreat
open Go.RowKit Go.Proofs

def coderbond1 : Option Code → Code
  | some (.seq _ (.seq _ (.seq (.seq _ (.block _ (.loop (.seq _ (.seq (.block _ (.seq c _)) _))))) _))) => c
  | _ => .skip
def valrbond1 (bq off n c k : Nat) (x : Bond) : Nat → Value
  | 0 => .slice (some ⟨bq, off, none⟩) n c
  | 1 => .int .i64 k
  | 2 => .pointer (some ⟨bq, off + k * 5, none⟩)
  | 3 => .pointer (some ⟨bq, off + k * 5, none⟩)
  | 4 => .agg #[.int .i64 x.a.pit, .int .i64 x.a.layer]
  | 5 => .bool false
  | 6 => .bool true
  | 7 => .bool true
  | 15 => .bool true
  | 16 => .bool true
  | 28 => .bool true
  | 29 => .bool true
  | 37 => .bool true
  | _ => undef
set_option maxRecDepth 100000 in
set_option maxHeartbeats 4000000 in
theorem rbond1 (cC : Code) (hc : cC = coderbond1 Tryz.f51.body) (bq off n c k : Nat) (x : Bond) (a : Act) (w : World) (Q : Exit → Act → World → Prop)
    (hT : a.tmps.size = 51) (t0 : a.tmps.getD 0 undef = .slice (some ⟨bq, off, none⟩) n c) (t3 : a.tmps.getD 3 undef = .int .i64 k)
    (CE : ∀ W, Below w.heap.size w W → W.cell? ⟨bq, off + k * 5, none⟩ = some (.int .i64 x.a.pit) ∧ W.cell? ⟨bq, off + k * 5 + 1, none⟩ = some (.int .i64 x.a.layer) ∧ W.cell? ⟨bq, off + k * 5 + 2, none⟩ = some (.int .i64 x.b.pit) ∧ W.cell? ⟨bq, off + k * 5 + 3, none⟩ = some (.int .i64 x.b.layer) ∧ W.cell? ⟨bq, off + k * 5 + 4, none⟩ = some (.int .i64 x.by_)) (hkn : k < n) (h1 : isPlaceB x.a.pit x.a.layer = false)
    (hQ : ∀ W, (fun W => Below w.heap.size w W) W → Q .normal { tmps := ((((((((((((((((((((((((((((((((((((((a.tmps.setIfInBounds 13 (.slice (some ⟨bq, off, none⟩) n c)).setIfInBounds 14 (.int .i64 k)).setIfInBounds 15 (.pointer (some ⟨bq, off + k * 5, none⟩))).setIfInBounds 16 (.pointer (some ⟨bq, off + k * 5, none⟩))).setIfInBounds 17 (.agg #[.int .i64 x.a.pit, .int .i64 x.a.layer])).setIfInBounds 18 (.bool false)).setIfInBounds 19 (.bool true)).setIfInBounds 20 (.bool true)).setIfInBounds 21 (undef)).setIfInBounds 22 (undef)).setIfInBounds 23 (undef)).setIfInBounds 24 (undef)).setIfInBounds 25 (undef)).setIfInBounds 26 (undef)).setIfInBounds 27 (undef)).setIfInBounds 28 (.bool true)).setIfInBounds 29 (.bool true)).setIfInBounds 30 (undef)).setIfInBounds 31 (undef)).setIfInBounds 32 (undef)).setIfInBounds 33 (undef)).setIfInBounds 34 (undef)).setIfInBounds 35 (undef)).setIfInBounds 36 (undef)).setIfInBounds 37 (undef)).setIfInBounds 38 (undef)).setIfInBounds 39 (undef)).setIfInBounds 40 (undef)).setIfInBounds 41 (.bool true)).setIfInBounds 42 (.bool true)).setIfInBounds 43 (undef)).setIfInBounds 44 (undef)).setIfInBounds 45 (undef)).setIfInBounds 46 (undef)).setIfInBounds 47 (undef)).setIfInBounds 48 (undef)).setIfInBounds 49 (undef)).setIfInBounds 50 (.bool true)), defers := a.defers } W) :
    cC.wp Tryz.prog Q a w := by
  subst hc
  unfold coderbond1 Tryz.f51
  dsimp only
  refine wpIn_wide.1 (wpIn_region_vals (nn := 5) 51 (by kernel_rfl) (by kernel_rfl) hT.symm (valrbond1 bq off n c k x) (fun W => Below w.heap.size w W) ((Below.refl _ _).drew) ?_ ?_)
  · intro listed io o b W hi ho h
    obtain ⟨c0, c1, c2, c3, c4⟩ := CE W h.glob
    clear hQ
    obtain ⟨hun, oi, hoi, hall⟩ := mem_ready.1 hi
    have : oi = o := Option.some.inj (hoi.symm.trans ho)
    subst this
    clear hoi hi
    have hlt : io < 38 := (by have := (Array.getElem?_eq_some_iff.1 ho).1; simpa using this)
    have hun' : listed.getD io false = false := getD_both hun
    have q0 : b.tmps[0]?.getD undef = _ := (by simpa using (h.tab.old 0 (dst_no h.tab (by kernel_rfl))).trans t0)
    have q3 : b.tmps[3]?.getD undef = _ := (by simpa using (h.tab.old 3 (dst_no h.tab (by kernel_rfl))).trans t3)
    have E : ∀ (j s : Nat) (v : Value), dstOf _ j = some s → valrbond1 bq off n c k x j = v → listed.getD j false = true → b.tmps[s]?.getD undef = v := fun j s v h1 h2 h3 => by rw [← h2]; simpa using h.val j s h1 h3
    have U0 : ∀ y, oi.guard = none → Region.wanted oi y = true := fun y h => by simp [Region.wanted, h]
    have U : ∀ (j d : Nat) (g v : Bool), oi.guard = some (j, g) → dstOf _ j = some d → valrbond1 bq off n c k x j = .bool v → ⟨j, .guard⟩ ∈ oi.after → Region.wanted oi (yielded _ b.tmps) = (v == g) := fun j d g v h1 h2 h3 h4 => wanted_of h h1 h2 (hall _ h4 rfl) h3
    rcases (by omega : io = 0 ∨ io = 1 ∨ io = 2 ∨ io = 3 ∨ io = 4 ∨ io = 5 ∨ io = 6 ∨ io = 7 ∨ io = 8 ∨ io = 9 ∨ io = 10 ∨ io = 11 ∨ io = 12 ∨ io = 13 ∨ io = 14 ∨ io = 15 ∨ io = 16 ∨ io = 17 ∨ io = 18 ∨ io = 19 ∨ io = 20 ∨ io = 21 ∨ io = 22 ∨ io = 23 ∨ io = 24 ∨ io = 25 ∨ io = 26 ∨ io = 27 ∨ io = 28 ∨ io = 29 ∨ io = 30 ∨ io = 31 ∨ io = 32 ∨ io = 33 ∨ io = 34 ∨ io = 35 ∨ io = 36 ∨ io = 37) with rfl | rfl | rfl | rfl | rfl | rfl | rfl | rfl | rfl | rfl | rfl | rfl | rfl | rfl | rfl | rfl | rfl | rfl | rfl | rfl | rfl | rfl | rfl | rfl | rfl | rfl | rfl | rfl | rfl | rfl | rfl | rfl | rfl | rfl | rfl | rfl | rfl | rfl
    all_goals simp only [List.getElem?_toArray, List.getElem?_cons_zero, List.getElem?_cons_succ] at ho
    all_goals cases ho
    · rw [if_pos (U0 _ rfl)]
      exact wide_val (v := .slice (some ⟨bq, off, none⟩) n c) (by clear E U U0; go_simp; try rfl) ⟨rfl, h.glob⟩
    · rw [if_pos (U0 _ rfl)]
      exact wide_val (v := .int .i64 k) (by clear E U U0; go_simp; try rfl) ⟨rfl, h.glob⟩
    · rw [if_pos (U0 _ rfl)]
      have e0 := E 0 13 (.slice (some ⟨bq, off, none⟩) n c) rfl rfl (hall ⟨0, .data⟩ (by simp) rfl)
      have e1 := E 1 14 (.int .i64 k) rfl rfl (hall ⟨1, .data⟩ (by simp) rfl)
      exact wide_val (v := .pointer (some ⟨bq, off + k * 5, none⟩)) (by clear E U U0; go_simp; try rfl) ⟨rfl, h.glob⟩
    · rw [if_pos (U0 _ rfl)]
      have e2 := E 2 15 (.pointer (some ⟨bq, off + k * 5, none⟩)) rfl rfl (hall ⟨2, .data⟩ (by simp) rfl)
      exact wide_val (v := .pointer (some ⟨bq, off + k * 5, none⟩)) (by clear E U U0; go_simp; try rfl) ⟨rfl, h.glob⟩
    · rw [if_pos (U0 _ rfl)]
      have e3 := E 3 16 (.pointer (some ⟨bq, off + k * 5, none⟩)) rfl rfl (hall ⟨3, .data⟩ (by simp) rfl)
      exact wide_val (v := .agg #[.int .i64 x.a.pit, .int .i64 x.a.layer]) (by clear E U U0; go_simp; try rfl) ⟨rfl, h.glob⟩
    · rw [if_pos (U0 _ rfl)]
      have e4 := E 4 17 (.agg #[.int .i64 x.a.pit, .int .i64 x.a.layer]) rfl rfl (hall ⟨4, .data⟩ (by simp) rfl)
      clear E U U0
      refine wide_call (f := 101) (args := #[.agg #[.int .i64 x.a.pit, .int .i64 x.a.layer]]) (by go_simp <;> (try simpa [Act.eval] using e4)) ((rIsPlace_any _ _ W).mono ?_)
      rintro e w' ⟨rfl, hb'⟩
      rw [h1]
      exact ⟨_, rfl, rfl, h.glob.trans (hb'.mono h.glob.size)⟩
    · rw [if_pos (U0 _ rfl)]
      have e5 := E 5 18 (.bool false) rfl rfl (hall ⟨5, .data⟩ (by simp) rfl)
      exact wide_val (v := .bool true) (by clear E U U0; go_simp; try rfl) ⟨rfl, h.glob⟩
    · rw [if_pos (U0 _ rfl)]
      have e6 := E 6 19 (.bool true) rfl rfl (hall ⟨6, .data⟩ (by simp) rfl)
      exact wide_val (v := .bool true) (by clear E U U0; go_simp; try rfl) ⟨rfl, h.glob⟩
    · rw [U 7 20 false true rfl rfl rfl (by simp)]; exact rfl
    · rw [U 7 20 false true rfl rfl rfl (by simp)]; exact rfl
    · rw [U 7 20 false true rfl rfl rfl (by simp)]; exact rfl
    · rw [U 7 20 false true rfl rfl rfl (by simp)]; exact rfl
    · rw [U 7 20 false true rfl rfl rfl (by simp)]; exact rfl
    · rw [U 7 20 false true rfl rfl rfl (by simp)]; exact rfl
    · rw [U 7 20 false true rfl rfl rfl (by simp)]; exact rfl
    · rw [if_pos (U0 _ rfl)]
      have e7 := E 7 20 (.bool true) rfl rfl (hall ⟨7, .data⟩ (by simp) rfl)
      have e14 := E 14 27 (undef) rfl rfl (hall ⟨14, .data⟩ (by simp) rfl)
      exact wide_val (v := .bool true) (by clear E U U0; go_simp; try rfl) ⟨rfl, h.glob⟩
    · rw [if_pos (U0 _ rfl)]
      have e15 := E 15 28 (.bool true) rfl rfl (hall ⟨15, .data⟩ (by simp) rfl)
      exact wide_val (v := .bool true) (by clear E U U0; go_simp; try rfl) ⟨rfl, h.glob⟩
    · rw [U 16 29 false true rfl rfl rfl (by simp)]; exact rfl
    · rw [U 16 29 false true rfl rfl rfl (by simp)]; exact rfl
    · rw [U 16 29 false true rfl rfl rfl (by simp)]; exact rfl
    · rw [U 16 29 false true rfl rfl rfl (by simp)]; exact rfl
    · rw [U 16 29 false true rfl rfl rfl (by simp)]; exact rfl
    · rw [U 16 29 false true rfl rfl rfl (by simp)]; exact rfl
    · rw [U 16 29 false true rfl rfl rfl (by simp)]; exact rfl
    · rw [U 16 29 false true rfl rfl rfl (by simp)]; exact rfl
    · rw [U 16 29 false true rfl rfl rfl (by simp)]; exact rfl
    · rw [U 16 29 false true rfl rfl rfl (by simp)]; exact rfl
    · rw [U 16 29 false true rfl rfl rfl (by simp)]; exact rfl
    · rw [if_pos (U0 _ rfl)]
      have e16 := E 16 29 (.bool true) rfl rfl (hall ⟨16, .data⟩ (by simp) rfl)
      have e27 := E 27 40 (undef) rfl rfl (hall ⟨27, .data⟩ (by simp) rfl)
      exact wide_val (v := .bool true) (by clear E U U0; go_simp; try rfl) ⟨rfl, h.glob⟩
    · rw [if_pos (U0 _ rfl)]
      have e28 := E 28 41 (.bool true) rfl rfl (hall ⟨28, .data⟩ (by simp) rfl)
      exact wide_val (v := .bool true) (by clear E U U0; go_simp; try rfl) ⟨rfl, h.glob⟩
    · rw [U 29 42 false true rfl rfl rfl (by simp)]; exact rfl
    · rw [U 29 42 false true rfl rfl rfl (by simp)]; exact rfl
    · rw [U 29 42 false true rfl rfl rfl (by simp)]; exact rfl
    · rw [U 29 42 false true rfl rfl rfl (by simp)]; exact rfl
    · rw [U 29 42 false true rfl rfl rfl (by simp)]; exact rfl
    · rw [U 29 42 false true rfl rfl rfl (by simp)]; exact rfl
    · rw [U 29 42 false true rfl rfl rfl (by simp)]; exact rfl
    · rw [if_pos (U0 _ rfl)]
      have e29 := E 29 42 (.bool true) rfl rfl (hall ⟨29, .data⟩ (by simp) rfl)
      have e36 := E 36 49 (undef) rfl rfl (hall ⟨36, .data⟩ (by simp) rfl)
      exact wide_val (v := .bool true) (by clear E U U0; go_simp; try rfl) ⟨rfl, h.glob⟩
  · intro W hg
    have := hQ W hg
    simp only [List.size_toArray, bareL, bare, List.map_cons, List.map_nil, List.length_cons, List.length_nil, Nat.reduceAdd, framed, dstOf, List.getElem?_toArray, List.getElem?_cons_zero, List.getElem?_cons_succ, Option.bind_some, valrbond1]
    exact this
def coderbond2 : Option Code → Code
  | some (.seq _ (.seq _ (.seq (.seq _ (.block _ (.loop (.seq _ (.seq (.block _ (.seq c _)) _))))) _))) => c
  | _ => .skip
def valrbond2 (bq off n c k : Nat) (x : Bond) : Nat → Value
  | 0 => .slice (some ⟨bq, off, none⟩) n c
  | 1 => .int .i64 k
  | 2 => .pointer (some ⟨bq, off + k * 5, none⟩)
  | 3 => .pointer (some ⟨bq, off + k * 5, none⟩)
  | 4 => .agg #[.int .i64 x.a.pit, .int .i64 x.a.layer]
  | 5 => .bool true
  | 6 => .bool false
  | 7 => .bool false
  | 8 => .slice (some ⟨bq, off, none⟩) n c
  | 9 => .int .i64 k
  | 10 => .pointer (some ⟨bq, off + k * 5, none⟩)
  | 11 => .pointer (some ⟨bq, off + k * 5 + 2, none⟩)
  | 12 => .agg #[.int .i64 x.b.pit, .int .i64 x.b.layer]
  | 13 => .bool false
  | 14 => .bool true
  | 15 => .bool true
  | 16 => .bool true
  | 28 => .bool true
  | 29 => .bool true
  | 37 => .bool true
  | _ => undef
set_option maxRecDepth 100000 in
set_option maxHeartbeats 4000000 in
theorem rbond2 (cC : Code) (hc : cC = coderbond2 Tryz.f51.body) (bq off n c k : Nat) (x : Bond) (a : Act) (w : World) (Q : Exit → Act → World → Prop)
    (hT : a.tmps.size = 51) (t0 : a.tmps.getD 0 undef = .slice (some ⟨bq, off, none⟩) n c) (t3 : a.tmps.getD 3 undef = .int .i64 k)
    (CE : ∀ W, Below w.heap.size w W → W.cell? ⟨bq, off + k * 5, none⟩ = some (.int .i64 x.a.pit) ∧ W.cell? ⟨bq, off + k * 5 + 1, none⟩ = some (.int .i64 x.a.layer) ∧ W.cell? ⟨bq, off + k * 5 + 2, none⟩ = some (.int .i64 x.b.pit) ∧ W.cell? ⟨bq, off + k * 5 + 3, none⟩ = some (.int .i64 x.b.layer) ∧ W.cell? ⟨bq, off + k * 5 + 4, none⟩ = some (.int .i64 x.by_)) (hkn : k < n) (h1 : isPlaceB x.a.pit x.a.layer = true) (h2 : isPlaceB x.b.pit x.b.layer = false)
    (hQ : ∀ W, (fun W => Below w.heap.size w W) W → Q .normal { tmps := ((((((((((((((((((((((((((((((((((((((a.tmps.setIfInBounds 13 (.slice (some ⟨bq, off, none⟩) n c)).setIfInBounds 14 (.int .i64 k)).setIfInBounds 15 (.pointer (some ⟨bq, off + k * 5, none⟩))).setIfInBounds 16 (.pointer (some ⟨bq, off + k * 5, none⟩))).setIfInBounds 17 (.agg #[.int .i64 x.a.pit, .int .i64 x.a.layer])).setIfInBounds 18 (.bool true)).setIfInBounds 19 (.bool false)).setIfInBounds 20 (.bool false)).setIfInBounds 21 (.slice (some ⟨bq, off, none⟩) n c)).setIfInBounds 22 (.int .i64 k)).setIfInBounds 23 (.pointer (some ⟨bq, off + k * 5, none⟩))).setIfInBounds 24 (.pointer (some ⟨bq, off + k * 5 + 2, none⟩))).setIfInBounds 25 (.agg #[.int .i64 x.b.pit, .int .i64 x.b.layer])).setIfInBounds 26 (.bool false)).setIfInBounds 27 (.bool true)).setIfInBounds 28 (.bool true)).setIfInBounds 29 (.bool true)).setIfInBounds 30 (undef)).setIfInBounds 31 (undef)).setIfInBounds 32 (undef)).setIfInBounds 33 (undef)).setIfInBounds 34 (undef)).setIfInBounds 35 (undef)).setIfInBounds 36 (undef)).setIfInBounds 37 (undef)).setIfInBounds 38 (undef)).setIfInBounds 39 (undef)).setIfInBounds 40 (undef)).setIfInBounds 41 (.bool true)).setIfInBounds 42 (.bool true)).setIfInBounds 43 (undef)).setIfInBounds 44 (undef)).setIfInBounds 45 (undef)).setIfInBounds 46 (undef)).setIfInBounds 47 (undef)).setIfInBounds 48 (undef)).setIfInBounds 49 (undef)).setIfInBounds 50 (.bool true)), defers := a.defers } W) :
    cC.wp Tryz.prog Q a w := by
  subst hc
  unfold coderbond2 Tryz.f51
  dsimp only
  refine wpIn_wide.1 (wpIn_region_vals (nn := 5) 51 (by kernel_rfl) (by kernel_rfl) hT.symm (valrbond2 bq off n c k x) (fun W => Below w.heap.size w W) ((Below.refl _ _).drew) ?_ ?_)
  · intro listed io o b W hi ho h
    obtain ⟨c0, c1, c2, c3, c4⟩ := CE W h.glob
    clear hQ
    obtain ⟨hun, oi, hoi, hall⟩ := mem_ready.1 hi
    have : oi = o := Option.some.inj (hoi.symm.trans ho)
    subst this
    clear hoi hi
    have hlt : io < 38 := (by have := (Array.getElem?_eq_some_iff.1 ho).1; simpa using this)
    have hun' : listed.getD io false = false := getD_both hun
    have q0 : b.tmps[0]?.getD undef = _ := (by simpa using (h.tab.old 0 (dst_no h.tab (by kernel_rfl))).trans t0)
    have q3 : b.tmps[3]?.getD undef = _ := (by simpa using (h.tab.old 3 (dst_no h.tab (by kernel_rfl))).trans t3)
    have E : ∀ (j s : Nat) (v : Value), dstOf _ j = some s → valrbond2 bq off n c k x j = v → listed.getD j false = true → b.tmps[s]?.getD undef = v := fun j s v h1 h2 h3 => by rw [← h2]; simpa using h.val j s h1 h3
    have U0 : ∀ y, oi.guard = none → Region.wanted oi y = true := fun y h => by simp [Region.wanted, h]
    have U : ∀ (j d : Nat) (g v : Bool), oi.guard = some (j, g) → dstOf _ j = some d → valrbond2 bq off n c k x j = .bool v → ⟨j, .guard⟩ ∈ oi.after → Region.wanted oi (yielded _ b.tmps) = (v == g) := fun j d g v h1 h2 h3 h4 => wanted_of h h1 h2 (hall _ h4 rfl) h3
    rcases (by omega : io = 0 ∨ io = 1 ∨ io = 2 ∨ io = 3 ∨ io = 4 ∨ io = 5 ∨ io = 6 ∨ io = 7 ∨ io = 8 ∨ io = 9 ∨ io = 10 ∨ io = 11 ∨ io = 12 ∨ io = 13 ∨ io = 14 ∨ io = 15 ∨ io = 16 ∨ io = 17 ∨ io = 18 ∨ io = 19 ∨ io = 20 ∨ io = 21 ∨ io = 22 ∨ io = 23 ∨ io = 24 ∨ io = 25 ∨ io = 26 ∨ io = 27 ∨ io = 28 ∨ io = 29 ∨ io = 30 ∨ io = 31 ∨ io = 32 ∨ io = 33 ∨ io = 34 ∨ io = 35 ∨ io = 36 ∨ io = 37) with rfl | rfl | rfl | rfl | rfl | rfl | rfl | rfl | rfl | rfl | rfl | rfl | rfl | rfl | rfl | rfl | rfl | rfl | rfl | rfl | rfl | rfl | rfl | rfl | rfl | rfl | rfl | rfl | rfl | rfl | rfl | rfl | rfl | rfl | rfl | rfl | rfl | rfl
    all_goals simp only [List.getElem?_toArray, List.getElem?_cons_zero, List.getElem?_cons_succ] at ho
    all_goals cases ho
    · rw [if_pos (U0 _ rfl)]
      exact wide_val (v := .slice (some ⟨bq, off, none⟩) n c) (by clear E U U0; go_simp; try rfl) ⟨rfl, h.glob⟩
    · rw [if_pos (U0 _ rfl)]
      exact wide_val (v := .int .i64 k) (by clear E U U0; go_simp; try rfl) ⟨rfl, h.glob⟩
    · rw [if_pos (U0 _ rfl)]
      have e0 := E 0 13 (.slice (some ⟨bq, off, none⟩) n c) rfl rfl (hall ⟨0, .data⟩ (by simp) rfl)
      have e1 := E 1 14 (.int .i64 k) rfl rfl (hall ⟨1, .data⟩ (by simp) rfl)
      exact wide_val (v := .pointer (some ⟨bq, off + k * 5, none⟩)) (by clear E U U0; go_simp; try rfl) ⟨rfl, h.glob⟩
    · rw [if_pos (U0 _ rfl)]
      have e2 := E 2 15 (.pointer (some ⟨bq, off + k * 5, none⟩)) rfl rfl (hall ⟨2, .data⟩ (by simp) rfl)
      exact wide_val (v := .pointer (some ⟨bq, off + k * 5, none⟩)) (by clear E U U0; go_simp; try rfl) ⟨rfl, h.glob⟩
    · rw [if_pos (U0 _ rfl)]
      have e3 := E 3 16 (.pointer (some ⟨bq, off + k * 5, none⟩)) rfl rfl (hall ⟨3, .data⟩ (by simp) rfl)
      exact wide_val (v := .agg #[.int .i64 x.a.pit, .int .i64 x.a.layer]) (by clear E U U0; go_simp; try rfl) ⟨rfl, h.glob⟩
    · rw [if_pos (U0 _ rfl)]
      have e4 := E 4 17 (.agg #[.int .i64 x.a.pit, .int .i64 x.a.layer]) rfl rfl (hall ⟨4, .data⟩ (by simp) rfl)
      clear E U U0
      refine wide_call (f := 101) (args := #[.agg #[.int .i64 x.a.pit, .int .i64 x.a.layer]]) (by go_simp <;> (try simpa [Act.eval] using e4)) ((rIsPlace_any _ _ W).mono ?_)
      rintro e w' ⟨rfl, hb'⟩
      rw [h1]
      exact ⟨_, rfl, rfl, h.glob.trans (hb'.mono h.glob.size)⟩
    · rw [if_pos (U0 _ rfl)]
      have e5 := E 5 18 (.bool true) rfl rfl (hall ⟨5, .data⟩ (by simp) rfl)
      exact wide_val (v := .bool false) (by clear E U U0; go_simp; try rfl) ⟨rfl, h.glob⟩
    · rw [if_pos (U0 _ rfl)]
      have e6 := E 6 19 (.bool false) rfl rfl (hall ⟨6, .data⟩ (by simp) rfl)
      exact wide_val (v := .bool false) (by clear E U U0; go_simp; try rfl) ⟨rfl, h.glob⟩
    · rw [U 7 20 false false rfl rfl rfl (by simp), if_pos (show (false == false) = true from rfl)]
      exact wide_val (v := .slice (some ⟨bq, off, none⟩) n c) (by clear E U U0; go_simp; try rfl) ⟨rfl, h.glob⟩
    · rw [U 7 20 false false rfl rfl rfl (by simp), if_pos (show (false == false) = true from rfl)]
      exact wide_val (v := .int .i64 k) (by clear E U U0; go_simp; try rfl) ⟨rfl, h.glob⟩
    · rw [U 7 20 false false rfl rfl rfl (by simp), if_pos (show (false == false) = true from rfl)]
      have e8 := E 8 21 (.slice (some ⟨bq, off, none⟩) n c) rfl rfl (hall ⟨8, .data⟩ (by simp) rfl)
      have e9 := E 9 22 (.int .i64 k) rfl rfl (hall ⟨9, .data⟩ (by simp) rfl)
      exact wide_val (v := .pointer (some ⟨bq, off + k * 5, none⟩)) (by clear E U U0; go_simp; try rfl) ⟨rfl, h.glob⟩
    · rw [U 7 20 false false rfl rfl rfl (by simp), if_pos (show (false == false) = true from rfl)]
      have e10 := E 10 23 (.pointer (some ⟨bq, off + k * 5, none⟩)) rfl rfl (hall ⟨10, .data⟩ (by simp) rfl)
      exact wide_val (v := .pointer (some ⟨bq, off + k * 5 + 2, none⟩)) (by clear E U U0; go_simp; try rfl) ⟨rfl, h.glob⟩
    · rw [U 7 20 false false rfl rfl rfl (by simp), if_pos (show (false == false) = true from rfl)]
      have e11 := E 11 24 (.pointer (some ⟨bq, off + k * 5 + 2, none⟩)) rfl rfl (hall ⟨11, .data⟩ (by simp) rfl)
      exact wide_val (v := .agg #[.int .i64 x.b.pit, .int .i64 x.b.layer]) (by clear E U U0; go_simp; try rfl) ⟨rfl, h.glob⟩
    · rw [U 7 20 false false rfl rfl rfl (by simp), if_pos (show (false == false) = true from rfl)]
      have e12 := E 12 25 (.agg #[.int .i64 x.b.pit, .int .i64 x.b.layer]) rfl rfl (hall ⟨12, .data⟩ (by simp) rfl)
      clear E U U0
      refine wide_call (f := 101) (args := #[.agg #[.int .i64 x.b.pit, .int .i64 x.b.layer]]) (by go_simp <;> (try simpa [Act.eval] using e12)) ((rIsPlace_any _ _ W).mono ?_)
      rintro e w' ⟨rfl, hb'⟩
      rw [h2]
      exact ⟨_, rfl, rfl, h.glob.trans (hb'.mono h.glob.size)⟩
    · rw [U 7 20 false false rfl rfl rfl (by simp), if_pos (show (false == false) = true from rfl)]
      have e13 := E 13 26 (.bool false) rfl rfl (hall ⟨13, .data⟩ (by simp) rfl)
      exact wide_val (v := .bool true) (by clear E U U0; go_simp; try rfl) ⟨rfl, h.glob⟩
    · rw [if_pos (U0 _ rfl)]
      have e7 := E 7 20 (.bool false) rfl rfl (hall ⟨7, .data⟩ (by simp) rfl)
      have e14 := E 14 27 (.bool true) rfl rfl (hall ⟨14, .data⟩ (by simp) rfl)
      exact wide_val (v := .bool true) (by clear E U U0; go_simp; try rfl) ⟨rfl, h.glob⟩
    · rw [if_pos (U0 _ rfl)]
      have e15 := E 15 28 (.bool true) rfl rfl (hall ⟨15, .data⟩ (by simp) rfl)
      exact wide_val (v := .bool true) (by clear E U U0; go_simp; try rfl) ⟨rfl, h.glob⟩
    · rw [U 16 29 false true rfl rfl rfl (by simp)]; exact rfl
    · rw [U 16 29 false true rfl rfl rfl (by simp)]; exact rfl
    · rw [U 16 29 false true rfl rfl rfl (by simp)]; exact rfl
    · rw [U 16 29 false true rfl rfl rfl (by simp)]; exact rfl
    · rw [U 16 29 false true rfl rfl rfl (by simp)]; exact rfl
    · rw [U 16 29 false true rfl rfl rfl (by simp)]; exact rfl
    · rw [U 16 29 false true rfl rfl rfl (by simp)]; exact rfl
    · rw [U 16 29 false true rfl rfl rfl (by simp)]; exact rfl
    · rw [U 16 29 false true rfl rfl rfl (by simp)]; exact rfl
    · rw [U 16 29 false true rfl rfl rfl (by simp)]; exact rfl
    · rw [U 16 29 false true rfl rfl rfl (by simp)]; exact rfl
    · rw [if_pos (U0 _ rfl)]
      have e16 := E 16 29 (.bool true) rfl rfl (hall ⟨16, .data⟩ (by simp) rfl)
      have e27 := E 27 40 (undef) rfl rfl (hall ⟨27, .data⟩ (by simp) rfl)
      exact wide_val (v := .bool true) (by clear E U U0; go_simp; try rfl) ⟨rfl, h.glob⟩
    · rw [if_pos (U0 _ rfl)]
      have e28 := E 28 41 (.bool true) rfl rfl (hall ⟨28, .data⟩ (by simp) rfl)
      exact wide_val (v := .bool true) (by clear E U U0; go_simp; try rfl) ⟨rfl, h.glob⟩
    · rw [U 29 42 false true rfl rfl rfl (by simp)]; exact rfl
    · rw [U 29 42 false true rfl rfl rfl (by simp)]; exact rfl
    · rw [U 29 42 false true rfl rfl rfl (by simp)]; exact rfl
    · rw [U 29 42 false true rfl rfl rfl (by simp)]; exact rfl
    · rw [U 29 42 false true rfl rfl rfl (by simp)]; exact rfl
    · rw [U 29 42 false true rfl rfl rfl (by simp)]; exact rfl
    · rw [U 29 42 false true rfl rfl rfl (by simp)]; exact rfl
    · rw [if_pos (U0 _ rfl)]
      have e29 := E 29 42 (.bool true) rfl rfl (hall ⟨29, .data⟩ (by simp) rfl)
      have e36 := E 36 49 (undef) rfl rfl (hall ⟨36, .data⟩ (by simp) rfl)
      exact wide_val (v := .bool true) (by clear E U U0; go_simp; try rfl) ⟨rfl, h.glob⟩
  · intro W hg
    have := hQ W hg
    simp only [List.size_toArray, bareL, bare, List.map_cons, List.map_nil, List.length_cons, List.length_nil, Nat.reduceAdd, framed, dstOf, List.getElem?_toArray, List.getElem?_cons_zero, List.getElem?_cons_succ, Option.bind_some, valrbond2]
    exact this
def coderbond3 : Option Code → Code
  | some (.seq _ (.seq _ (.seq (.seq _ (.block _ (.loop (.seq _ (.seq (.block _ (.seq c _)) _))))) _))) => c
  | _ => .skip
def valrbond3 (bq off n c k : Nat) (x : Bond) : Nat → Value
  | 0 => .slice (some ⟨bq, off, none⟩) n c
  | 1 => .int .i64 k
  | 2 => .pointer (some ⟨bq, off + k * 5, none⟩)
  | 3 => .pointer (some ⟨bq, off + k * 5, none⟩)
  | 4 => .agg #[.int .i64 x.a.pit, .int .i64 x.a.layer]
  | 5 => .bool true
  | 6 => .bool false
  | 7 => .bool false
  | 8 => .slice (some ⟨bq, off, none⟩) n c
  | 9 => .int .i64 k
  | 10 => .pointer (some ⟨bq, off + k * 5, none⟩)
  | 11 => .pointer (some ⟨bq, off + k * 5 + 2, none⟩)
  | 12 => .agg #[.int .i64 x.b.pit, .int .i64 x.b.layer]
  | 13 => .bool true
  | 14 => .bool false
  | 15 => .bool false
  | 16 => .bool false
  | 17 => .slice (some ⟨bq, off, none⟩) n c
  | 18 => .int .i64 k
  | 19 => .pointer (some ⟨bq, off + k * 5, none⟩)
  | 20 => .pointer (some ⟨bq, off + k * 5, none⟩)
  | 21 => .agg #[.int .i64 x.a.pit, .int .i64 x.a.layer]
  | 22 => .slice (some ⟨bq, off, none⟩) n c
  | 23 => .int .i64 k
  | 24 => .pointer (some ⟨bq, off + k * 5, none⟩)
  | 25 => .pointer (some ⟨bq, off + k * 5 + 2, none⟩)
  | 26 => .agg #[.int .i64 x.b.pit, .int .i64 x.b.layer]
  | 27 => .bool true
  | 28 => .bool true
  | 29 => .bool true
  | 37 => .bool true
  | _ => undef
set_option maxRecDepth 100000 in
set_option maxHeartbeats 4000000 in
theorem rbond3 (cC : Code) (hc : cC = coderbond3 Tryz.f51.body) (bq off n c k : Nat) (x : Bond) (a : Act) (w : World) (Q : Exit → Act → World → Prop)
    (hT : a.tmps.size = 51) (t0 : a.tmps.getD 0 undef = .slice (some ⟨bq, off, none⟩) n c) (t3 : a.tmps.getD 3 undef = .int .i64 k)
    (CE : ∀ W, Below w.heap.size w W → W.cell? ⟨bq, off + k * 5, none⟩ = some (.int .i64 x.a.pit) ∧ W.cell? ⟨bq, off + k * 5 + 1, none⟩ = some (.int .i64 x.a.layer) ∧ W.cell? ⟨bq, off + k * 5 + 2, none⟩ = some (.int .i64 x.b.pit) ∧ W.cell? ⟨bq, off + k * 5 + 3, none⟩ = some (.int .i64 x.b.layer) ∧ W.cell? ⟨bq, off + k * 5 + 4, none⟩ = some (.int .i64 x.by_)) (hkn : k < n) (h1 : isPlaceB x.a.pit x.a.layer = true) (h2 : isPlaceB x.b.pit x.b.layer = true) (h3 : eqPlace x.a x.b = true)
    (hQ : ∀ W, (fun W => Below w.heap.size w W) W → Q .normal { tmps := ((((((((((((((((((((((((((((((((((((((a.tmps.setIfInBounds 13 (.slice (some ⟨bq, off, none⟩) n c)).setIfInBounds 14 (.int .i64 k)).setIfInBounds 15 (.pointer (some ⟨bq, off + k * 5, none⟩))).setIfInBounds 16 (.pointer (some ⟨bq, off + k * 5, none⟩))).setIfInBounds 17 (.agg #[.int .i64 x.a.pit, .int .i64 x.a.layer])).setIfInBounds 18 (.bool true)).setIfInBounds 19 (.bool false)).setIfInBounds 20 (.bool false)).setIfInBounds 21 (.slice (some ⟨bq, off, none⟩) n c)).setIfInBounds 22 (.int .i64 k)).setIfInBounds 23 (.pointer (some ⟨bq, off + k * 5, none⟩))).setIfInBounds 24 (.pointer (some ⟨bq, off + k * 5 + 2, none⟩))).setIfInBounds 25 (.agg #[.int .i64 x.b.pit, .int .i64 x.b.layer])).setIfInBounds 26 (.bool true)).setIfInBounds 27 (.bool false)).setIfInBounds 28 (.bool false)).setIfInBounds 29 (.bool false)).setIfInBounds 30 (.slice (some ⟨bq, off, none⟩) n c)).setIfInBounds 31 (.int .i64 k)).setIfInBounds 32 (.pointer (some ⟨bq, off + k * 5, none⟩))).setIfInBounds 33 (.pointer (some ⟨bq, off + k * 5, none⟩))).setIfInBounds 34 (.agg #[.int .i64 x.a.pit, .int .i64 x.a.layer])).setIfInBounds 35 (.slice (some ⟨bq, off, none⟩) n c)).setIfInBounds 36 (.int .i64 k)).setIfInBounds 37 (.pointer (some ⟨bq, off + k * 5, none⟩))).setIfInBounds 38 (.pointer (some ⟨bq, off + k * 5 + 2, none⟩))).setIfInBounds 39 (.agg #[.int .i64 x.b.pit, .int .i64 x.b.layer])).setIfInBounds 40 (.bool true)).setIfInBounds 41 (.bool true)).setIfInBounds 42 (.bool true)).setIfInBounds 43 (undef)).setIfInBounds 44 (undef)).setIfInBounds 45 (undef)).setIfInBounds 46 (undef)).setIfInBounds 47 (undef)).setIfInBounds 48 (undef)).setIfInBounds 49 (undef)).setIfInBounds 50 (.bool true)), defers := a.defers } W) :
    cC.wp Tryz.prog Q a w := by
  subst hc
  unfold coderbond3 Tryz.f51
  dsimp only
  refine wpIn_wide.1 (wpIn_region_vals (nn := 5) 51 (by kernel_rfl) (by kernel_rfl) hT.symm (valrbond3 bq off n c k x) (fun W => Below w.heap.size w W) ((Below.refl _ _).drew) ?_ ?_)
  · intro listed io o b W hi ho h
    obtain ⟨c0, c1, c2, c3, c4⟩ := CE W h.glob
    clear hQ
    obtain ⟨hun, oi, hoi, hall⟩ := mem_ready.1 hi
    have : oi = o := Option.some.inj (hoi.symm.trans ho)
    subst this
    clear hoi hi
    have hlt : io < 38 := (by have := (Array.getElem?_eq_some_iff.1 ho).1; simpa using this)
    have hun' : listed.getD io false = false := getD_both hun
    have q0 : b.tmps[0]?.getD undef = _ := (by simpa using (h.tab.old 0 (dst_no h.tab (by kernel_rfl))).trans t0)
    have q3 : b.tmps[3]?.getD undef = _ := (by simpa using (h.tab.old 3 (dst_no h.tab (by kernel_rfl))).trans t3)
    have E : ∀ (j s : Nat) (v : Value), dstOf _ j = some s → valrbond3 bq off n c k x j = v → listed.getD j false = true → b.tmps[s]?.getD undef = v := fun j s v h1 h2 h3 => by rw [← h2]; simpa using h.val j s h1 h3
    have U0 : ∀ y, oi.guard = none → Region.wanted oi y = true := fun y h => by simp [Region.wanted, h]
    have U : ∀ (j d : Nat) (g v : Bool), oi.guard = some (j, g) → dstOf _ j = some d → valrbond3 bq off n c k x j = .bool v → ⟨j, .guard⟩ ∈ oi.after → Region.wanted oi (yielded _ b.tmps) = (v == g) := fun j d g v h1 h2 h3 h4 => wanted_of h h1 h2 (hall _ h4 rfl) h3
    rcases (by omega : io = 0 ∨ io = 1 ∨ io = 2 ∨ io = 3 ∨ io = 4 ∨ io = 5 ∨ io = 6 ∨ io = 7 ∨ io = 8 ∨ io = 9 ∨ io = 10 ∨ io = 11 ∨ io = 12 ∨ io = 13 ∨ io = 14 ∨ io = 15 ∨ io = 16 ∨ io = 17 ∨ io = 18 ∨ io = 19 ∨ io = 20 ∨ io = 21 ∨ io = 22 ∨ io = 23 ∨ io = 24 ∨ io = 25 ∨ io = 26 ∨ io = 27 ∨ io = 28 ∨ io = 29 ∨ io = 30 ∨ io = 31 ∨ io = 32 ∨ io = 33 ∨ io = 34 ∨ io = 35 ∨ io = 36 ∨ io = 37) with rfl | rfl | rfl | rfl | rfl | rfl | rfl | rfl | rfl | rfl | rfl | rfl | rfl | rfl | rfl | rfl | rfl | rfl | rfl | rfl | rfl | rfl | rfl | rfl | rfl | rfl | rfl | rfl | rfl | rfl | rfl | rfl | rfl | rfl | rfl | rfl | rfl | rfl
    all_goals simp only [List.getElem?_toArray, List.getElem?_cons_zero, List.getElem?_cons_succ] at ho
    all_goals cases ho
    · rw [if_pos (U0 _ rfl)]
      exact wide_val (v := .slice (some ⟨bq, off, none⟩) n c) (by clear E U U0; go_simp; try rfl) ⟨rfl, h.glob⟩
    · rw [if_pos (U0 _ rfl)]
      exact wide_val (v := .int .i64 k) (by clear E U U0; go_simp; try rfl) ⟨rfl, h.glob⟩
    · rw [if_pos (U0 _ rfl)]
      have e0 := E 0 13 (.slice (some ⟨bq, off, none⟩) n c) rfl rfl (hall ⟨0, .data⟩ (by simp) rfl)
      have e1 := E 1 14 (.int .i64 k) rfl rfl (hall ⟨1, .data⟩ (by simp) rfl)
      exact wide_val (v := .pointer (some ⟨bq, off + k * 5, none⟩)) (by clear E U U0; go_simp; try rfl) ⟨rfl, h.glob⟩
    · rw [if_pos (U0 _ rfl)]
      have e2 := E 2 15 (.pointer (some ⟨bq, off + k * 5, none⟩)) rfl rfl (hall ⟨2, .data⟩ (by simp) rfl)
      exact wide_val (v := .pointer (some ⟨bq, off + k * 5, none⟩)) (by clear E U U0; go_simp; try rfl) ⟨rfl, h.glob⟩
    · rw [if_pos (U0 _ rfl)]
      have e3 := E 3 16 (.pointer (some ⟨bq, off + k * 5, none⟩)) rfl rfl (hall ⟨3, .data⟩ (by simp) rfl)
      exact wide_val (v := .agg #[.int .i64 x.a.pit, .int .i64 x.a.layer]) (by clear E U U0; go_simp; try rfl) ⟨rfl, h.glob⟩
    · rw [if_pos (U0 _ rfl)]
      have e4 := E 4 17 (.agg #[.int .i64 x.a.pit, .int .i64 x.a.layer]) rfl rfl (hall ⟨4, .data⟩ (by simp) rfl)
      clear E U U0
      refine wide_call (f := 101) (args := #[.agg #[.int .i64 x.a.pit, .int .i64 x.a.layer]]) (by go_simp <;> (try simpa [Act.eval] using e4)) ((rIsPlace_any _ _ W).mono ?_)
      rintro e w' ⟨rfl, hb'⟩
      rw [h1]
      exact ⟨_, rfl, rfl, h.glob.trans (hb'.mono h.glob.size)⟩
    · rw [if_pos (U0 _ rfl)]
      have e5 := E 5 18 (.bool true) rfl rfl (hall ⟨5, .data⟩ (by simp) rfl)
      exact wide_val (v := .bool false) (by clear E U U0; go_simp; try rfl) ⟨rfl, h.glob⟩
    · rw [if_pos (U0 _ rfl)]
      have e6 := E 6 19 (.bool false) rfl rfl (hall ⟨6, .data⟩ (by simp) rfl)
      exact wide_val (v := .bool false) (by clear E U U0; go_simp; try rfl) ⟨rfl, h.glob⟩
    · rw [U 7 20 false false rfl rfl rfl (by simp), if_pos (show (false == false) = true from rfl)]
      exact wide_val (v := .slice (some ⟨bq, off, none⟩) n c) (by clear E U U0; go_simp; try rfl) ⟨rfl, h.glob⟩
    · rw [U 7 20 false false rfl rfl rfl (by simp), if_pos (show (false == false) = true from rfl)]
      exact wide_val (v := .int .i64 k) (by clear E U U0; go_simp; try rfl) ⟨rfl, h.glob⟩
    · rw [U 7 20 false false rfl rfl rfl (by simp), if_pos (show (false == false) = true from rfl)]
      have e8 := E 8 21 (.slice (some ⟨bq, off, none⟩) n c) rfl rfl (hall ⟨8, .data⟩ (by simp) rfl)
      have e9 := E 9 22 (.int .i64 k) rfl rfl (hall ⟨9, .data⟩ (by simp) rfl)
      exact wide_val (v := .pointer (some ⟨bq, off + k * 5, none⟩)) (by clear E U U0; go_simp; try rfl) ⟨rfl, h.glob⟩
    · rw [U 7 20 false false rfl rfl rfl (by simp), if_pos (show (false == false) = true from rfl)]
      have e10 := E 10 23 (.pointer (some ⟨bq, off + k * 5, none⟩)) rfl rfl (hall ⟨10, .data⟩ (by simp) rfl)
      exact wide_val (v := .pointer (some ⟨bq, off + k * 5 + 2, none⟩)) (by clear E U U0; go_simp; try rfl) ⟨rfl, h.glob⟩
    · rw [U 7 20 false false rfl rfl rfl (by simp), if_pos (show (false == false) = true from rfl)]
      have e11 := E 11 24 (.pointer (some ⟨bq, off + k * 5 + 2, none⟩)) rfl rfl (hall ⟨11, .data⟩ (by simp) rfl)
      exact wide_val (v := .agg #[.int .i64 x.b.pit, .int .i64 x.b.layer]) (by clear E U U0; go_simp; try rfl) ⟨rfl, h.glob⟩
    · rw [U 7 20 false false rfl rfl rfl (by simp), if_pos (show (false == false) = true from rfl)]
      have e12 := E 12 25 (.agg #[.int .i64 x.b.pit, .int .i64 x.b.layer]) rfl rfl (hall ⟨12, .data⟩ (by simp) rfl)
      clear E U U0
      refine wide_call (f := 101) (args := #[.agg #[.int .i64 x.b.pit, .int .i64 x.b.layer]]) (by go_simp <;> (try simpa [Act.eval] using e12)) ((rIsPlace_any _ _ W).mono ?_)
      rintro e w' ⟨rfl, hb'⟩
      rw [h2]
      exact ⟨_, rfl, rfl, h.glob.trans (hb'.mono h.glob.size)⟩
    · rw [U 7 20 false false rfl rfl rfl (by simp), if_pos (show (false == false) = true from rfl)]
      have e13 := E 13 26 (.bool true) rfl rfl (hall ⟨13, .data⟩ (by simp) rfl)
      exact wide_val (v := .bool false) (by clear E U U0; go_simp; try rfl) ⟨rfl, h.glob⟩
    · rw [if_pos (U0 _ rfl)]
      have e7 := E 7 20 (.bool false) rfl rfl (hall ⟨7, .data⟩ (by simp) rfl)
      have e14 := E 14 27 (.bool false) rfl rfl (hall ⟨14, .data⟩ (by simp) rfl)
      exact wide_val (v := .bool false) (by clear E U U0; go_simp; try rfl) ⟨rfl, h.glob⟩
    · rw [if_pos (U0 _ rfl)]
      have e15 := E 15 28 (.bool false) rfl rfl (hall ⟨15, .data⟩ (by simp) rfl)
      exact wide_val (v := .bool false) (by clear E U U0; go_simp; try rfl) ⟨rfl, h.glob⟩
    · rw [U 16 29 false false rfl rfl rfl (by simp), if_pos (show (false == false) = true from rfl)]
      exact wide_val (v := .slice (some ⟨bq, off, none⟩) n c) (by clear E U U0; go_simp; try rfl) ⟨rfl, h.glob⟩
    · rw [U 16 29 false false rfl rfl rfl (by simp), if_pos (show (false == false) = true from rfl)]
      exact wide_val (v := .int .i64 k) (by clear E U U0; go_simp; try rfl) ⟨rfl, h.glob⟩
    · rw [U 16 29 false false rfl rfl rfl (by simp), if_pos (show (false == false) = true from rfl)]
      have e17 := E 17 30 (.slice (some ⟨bq, off, none⟩) n c) rfl rfl (hall ⟨17, .data⟩ (by simp) rfl)
      have e18 := E 18 31 (.int .i64 k) rfl rfl (hall ⟨18, .data⟩ (by simp) rfl)
      exact wide_val (v := .pointer (some ⟨bq, off + k * 5, none⟩)) (by clear E U U0; go_simp; try rfl) ⟨rfl, h.glob⟩
    · rw [U 16 29 false false rfl rfl rfl (by simp), if_pos (show (false == false) = true from rfl)]
      have e19 := E 19 32 (.pointer (some ⟨bq, off + k * 5, none⟩)) rfl rfl (hall ⟨19, .data⟩ (by simp) rfl)
      exact wide_val (v := .pointer (some ⟨bq, off + k * 5, none⟩)) (by clear E U U0; go_simp; try rfl) ⟨rfl, h.glob⟩
    · rw [U 16 29 false false rfl rfl rfl (by simp), if_pos (show (false == false) = true from rfl)]
      have e20 := E 20 33 (.pointer (some ⟨bq, off + k * 5, none⟩)) rfl rfl (hall ⟨20, .data⟩ (by simp) rfl)
      exact wide_val (v := .agg #[.int .i64 x.a.pit, .int .i64 x.a.layer]) (by clear E U U0; go_simp; try rfl) ⟨rfl, h.glob⟩
    · rw [U 16 29 false false rfl rfl rfl (by simp), if_pos (show (false == false) = true from rfl)]
      exact wide_val (v := .slice (some ⟨bq, off, none⟩) n c) (by clear E U U0; go_simp; try rfl) ⟨rfl, h.glob⟩
    · rw [U 16 29 false false rfl rfl rfl (by simp), if_pos (show (false == false) = true from rfl)]
      exact wide_val (v := .int .i64 k) (by clear E U U0; go_simp; try rfl) ⟨rfl, h.glob⟩
    · rw [U 16 29 false false rfl rfl rfl (by simp), if_pos (show (false == false) = true from rfl)]
      have e22 := E 22 35 (.slice (some ⟨bq, off, none⟩) n c) rfl rfl (hall ⟨22, .data⟩ (by simp) rfl)
      have e23 := E 23 36 (.int .i64 k) rfl rfl (hall ⟨23, .data⟩ (by simp) rfl)
      exact wide_val (v := .pointer (some ⟨bq, off + k * 5, none⟩)) (by clear E U U0; go_simp; try rfl) ⟨rfl, h.glob⟩
    · rw [U 16 29 false false rfl rfl rfl (by simp), if_pos (show (false == false) = true from rfl)]
      have e24 := E 24 37 (.pointer (some ⟨bq, off + k * 5, none⟩)) rfl rfl (hall ⟨24, .data⟩ (by simp) rfl)
      exact wide_val (v := .pointer (some ⟨bq, off + k * 5 + 2, none⟩)) (by clear E U U0; go_simp; try rfl) ⟨rfl, h.glob⟩
    · rw [U 16 29 false false rfl rfl rfl (by simp), if_pos (show (false == false) = true from rfl)]
      have e25 := E 25 38 (.pointer (some ⟨bq, off + k * 5 + 2, none⟩)) rfl rfl (hall ⟨25, .data⟩ (by simp) rfl)
      exact wide_val (v := .agg #[.int .i64 x.b.pit, .int .i64 x.b.layer]) (by clear E U U0; go_simp; try rfl) ⟨rfl, h.glob⟩
    · rw [U 16 29 false false rfl rfl rfl (by simp), if_pos (show (false == false) = true from rfl)]
      have e21 := E 21 34 (.agg #[.int .i64 x.a.pit, .int .i64 x.a.layer]) rfl rfl (hall ⟨21, .data⟩ (by simp) rfl)
      have e26 := E 26 39 (.agg #[.int .i64 x.b.pit, .int .i64 x.b.layer]) rfl rfl (hall ⟨26, .data⟩ (by simp) rfl)
      have h3' : eqPlace ⟨x.a.pit, x.a.layer⟩ ⟨x.b.pit, x.b.layer⟩ = true := h3
      exact wide_val (v := .bool true) (by clear E U U0; go_simp; (try exact congrArg Value.bool h3')) ⟨rfl, h.glob⟩
    · rw [if_pos (U0 _ rfl)]
      have e16 := E 16 29 (.bool false) rfl rfl (hall ⟨16, .data⟩ (by simp) rfl)
      have e27 := E 27 40 (.bool true) rfl rfl (hall ⟨27, .data⟩ (by simp) rfl)
      exact wide_val (v := .bool true) (by clear E U U0; go_simp; try rfl) ⟨rfl, h.glob⟩
    · rw [if_pos (U0 _ rfl)]
      have e28 := E 28 41 (.bool true) rfl rfl (hall ⟨28, .data⟩ (by simp) rfl)
      exact wide_val (v := .bool true) (by clear E U U0; go_simp; try rfl) ⟨rfl, h.glob⟩
    · rw [U 29 42 false true rfl rfl rfl (by simp)]; exact rfl
    · rw [U 29 42 false true rfl rfl rfl (by simp)]; exact rfl
    · rw [U 29 42 false true rfl rfl rfl (by simp)]; exact rfl
    · rw [U 29 42 false true rfl rfl rfl (by simp)]; exact rfl
    · rw [U 29 42 false true rfl rfl rfl (by simp)]; exact rfl
    · rw [U 29 42 false true rfl rfl rfl (by simp)]; exact rfl
    · rw [U 29 42 false true rfl rfl rfl (by simp)]; exact rfl
    · rw [if_pos (U0 _ rfl)]
      have e29 := E 29 42 (.bool true) rfl rfl (hall ⟨29, .data⟩ (by simp) rfl)
      have e36 := E 36 49 (undef) rfl rfl (hall ⟨36, .data⟩ (by simp) rfl)
      exact wide_val (v := .bool true) (by clear E U U0; go_simp; try rfl) ⟨rfl, h.glob⟩
  · intro W hg
    have := hQ W hg
    simp only [List.size_toArray, bareL, bare, List.map_cons, List.map_nil, List.length_cons, List.length_nil, Nat.reduceAdd, framed, dstOf, List.getElem?_toArray, List.getElem?_cons_zero, List.getElem?_cons_succ, Option.bind_some, valrbond3]
    exact this
def coderbond4 : Option Code → Code
  | some (.seq _ (.seq _ (.seq (.seq _ (.block _ (.loop (.seq _ (.seq (.block _ (.seq c _)) _))))) _))) => c
  | _ => .skip
def valrbond4 (bq off n c k : Nat) (x : Bond) : Nat → Value
  | 0 => .slice (some ⟨bq, off, none⟩) n c
  | 1 => .int .i64 k
  | 2 => .pointer (some ⟨bq, off + k * 5, none⟩)
  | 3 => .pointer (some ⟨bq, off + k * 5, none⟩)
  | 4 => .agg #[.int .i64 x.a.pit, .int .i64 x.a.layer]
  | 5 => .bool true
  | 6 => .bool false
  | 7 => .bool false
  | 8 => .slice (some ⟨bq, off, none⟩) n c
  | 9 => .int .i64 k
  | 10 => .pointer (some ⟨bq, off + k * 5, none⟩)
  | 11 => .pointer (some ⟨bq, off + k * 5 + 2, none⟩)
  | 12 => .agg #[.int .i64 x.b.pit, .int .i64 x.b.layer]
  | 13 => .bool true
  | 14 => .bool false
  | 15 => .bool false
  | 16 => .bool false
  | 17 => .slice (some ⟨bq, off, none⟩) n c
  | 18 => .int .i64 k
  | 19 => .pointer (some ⟨bq, off + k * 5, none⟩)
  | 20 => .pointer (some ⟨bq, off + k * 5, none⟩)
  | 21 => .agg #[.int .i64 x.a.pit, .int .i64 x.a.layer]
  | 22 => .slice (some ⟨bq, off, none⟩) n c
  | 23 => .int .i64 k
  | 24 => .pointer (some ⟨bq, off + k * 5, none⟩)
  | 25 => .pointer (some ⟨bq, off + k * 5 + 2, none⟩)
  | 26 => .agg #[.int .i64 x.b.pit, .int .i64 x.b.layer]
  | 27 => .bool false
  | 28 => .bool false
  | 29 => .bool false
  | 30 => .slice (some ⟨bq, off, none⟩) n c
  | 31 => .int .i64 k
  | 32 => .pointer (some ⟨bq, off + k * 5, none⟩)
  | 33 => .pointer (some ⟨bq, off + k * 5 + 4, none⟩)
  | 34 => .int .i64 x.by_
  | 35 => .bool false
  | 36 => .bool true
  | 37 => .bool true
  | _ => undef
set_option maxRecDepth 100000 in
set_option maxHeartbeats 4000000 in
theorem rbond4 (cC : Code) (hc : cC = coderbond4 Tryz.f51.body) (bq off n c k : Nat) (x : Bond) (a : Act) (w : World) (Q : Exit → Act → World → Prop)
    (hT : a.tmps.size = 51) (t0 : a.tmps.getD 0 undef = .slice (some ⟨bq, off, none⟩) n c) (t3 : a.tmps.getD 3 undef = .int .i64 k)
    (CE : ∀ W, Below w.heap.size w W → W.cell? ⟨bq, off + k * 5, none⟩ = some (.int .i64 x.a.pit) ∧ W.cell? ⟨bq, off + k * 5 + 1, none⟩ = some (.int .i64 x.a.layer) ∧ W.cell? ⟨bq, off + k * 5 + 2, none⟩ = some (.int .i64 x.b.pit) ∧ W.cell? ⟨bq, off + k * 5 + 3, none⟩ = some (.int .i64 x.b.layer) ∧ W.cell? ⟨bq, off + k * 5 + 4, none⟩ = some (.int .i64 x.by_)) (hkn : k < n) (h1 : isPlaceB x.a.pit x.a.layer = true) (h2 : isPlaceB x.b.pit x.b.layer = true) (h3 : eqPlace x.a x.b = false) (h4 : inB x.by_ 1 1000000 = false)
    (hQ : ∀ W, (fun W => Below w.heap.size w W) W → Q .normal { tmps := ((((((((((((((((((((((((((((((((((((((a.tmps.setIfInBounds 13 (.slice (some ⟨bq, off, none⟩) n c)).setIfInBounds 14 (.int .i64 k)).setIfInBounds 15 (.pointer (some ⟨bq, off + k * 5, none⟩))).setIfInBounds 16 (.pointer (some ⟨bq, off + k * 5, none⟩))).setIfInBounds 17 (.agg #[.int .i64 x.a.pit, .int .i64 x.a.layer])).setIfInBounds 18 (.bool true)).setIfInBounds 19 (.bool false)).setIfInBounds 20 (.bool false)).setIfInBounds 21 (.slice (some ⟨bq, off, none⟩) n c)).setIfInBounds 22 (.int .i64 k)).setIfInBounds 23 (.pointer (some ⟨bq, off + k * 5, none⟩))).setIfInBounds 24 (.pointer (some ⟨bq, off + k * 5 + 2, none⟩))).setIfInBounds 25 (.agg #[.int .i64 x.b.pit, .int .i64 x.b.layer])).setIfInBounds 26 (.bool true)).setIfInBounds 27 (.bool false)).setIfInBounds 28 (.bool false)).setIfInBounds 29 (.bool false)).setIfInBounds 30 (.slice (some ⟨bq, off, none⟩) n c)).setIfInBounds 31 (.int .i64 k)).setIfInBounds 32 (.pointer (some ⟨bq, off + k * 5, none⟩))).setIfInBounds 33 (.pointer (some ⟨bq, off + k * 5, none⟩))).setIfInBounds 34 (.agg #[.int .i64 x.a.pit, .int .i64 x.a.layer])).setIfInBounds 35 (.slice (some ⟨bq, off, none⟩) n c)).setIfInBounds 36 (.int .i64 k)).setIfInBounds 37 (.pointer (some ⟨bq, off + k * 5, none⟩))).setIfInBounds 38 (.pointer (some ⟨bq, off + k * 5 + 2, none⟩))).setIfInBounds 39 (.agg #[.int .i64 x.b.pit, .int .i64 x.b.layer])).setIfInBounds 40 (.bool false)).setIfInBounds 41 (.bool false)).setIfInBounds 42 (.bool false)).setIfInBounds 43 (.slice (some ⟨bq, off, none⟩) n c)).setIfInBounds 44 (.int .i64 k)).setIfInBounds 45 (.pointer (some ⟨bq, off + k * 5, none⟩))).setIfInBounds 46 (.pointer (some ⟨bq, off + k * 5 + 4, none⟩))).setIfInBounds 47 (.int .i64 x.by_)).setIfInBounds 48 (.bool false)).setIfInBounds 49 (.bool true)).setIfInBounds 50 (.bool true)), defers := a.defers } W) :
    cC.wp Tryz.prog Q a w := by
  subst hc
  unfold coderbond4 Tryz.f51
  dsimp only
  refine wpIn_wide.1 (wpIn_region_vals (nn := 5) 51 (by kernel_rfl) (by kernel_rfl) hT.symm (valrbond4 bq off n c k x) (fun W => Below w.heap.size w W) ((Below.refl _ _).drew) ?_ ?_)
  · intro listed io o b W hi ho h
    obtain ⟨c0, c1, c2, c3, c4⟩ := CE W h.glob
    clear hQ
    obtain ⟨hun, oi, hoi, hall⟩ := mem_ready.1 hi
    have : oi = o := Option.some.inj (hoi.symm.trans ho)
    subst this
    clear hoi hi
    have hlt : io < 38 := (by have := (Array.getElem?_eq_some_iff.1 ho).1; simpa using this)
    have hun' : listed.getD io false = false := getD_both hun
    have q0 : b.tmps[0]?.getD undef = _ := (by simpa using (h.tab.old 0 (dst_no h.tab (by kernel_rfl))).trans t0)
    have q3 : b.tmps[3]?.getD undef = _ := (by simpa using (h.tab.old 3 (dst_no h.tab (by kernel_rfl))).trans t3)
    have E : ∀ (j s : Nat) (v : Value), dstOf _ j = some s → valrbond4 bq off n c k x j = v → listed.getD j false = true → b.tmps[s]?.getD undef = v := fun j s v h1 h2 h3 => by rw [← h2]; simpa using h.val j s h1 h3
    have U0 : ∀ y, oi.guard = none → Region.wanted oi y = true := fun y h => by simp [Region.wanted, h]
    have U : ∀ (j d : Nat) (g v : Bool), oi.guard = some (j, g) → dstOf _ j = some d → valrbond4 bq off n c k x j = .bool v → ⟨j, .guard⟩ ∈ oi.after → Region.wanted oi (yielded _ b.tmps) = (v == g) := fun j d g v h1 h2 h3 h4 => wanted_of h h1 h2 (hall _ h4 rfl) h3
    rcases (by omega : io = 0 ∨ io = 1 ∨ io = 2 ∨ io = 3 ∨ io = 4 ∨ io = 5 ∨ io = 6 ∨ io = 7 ∨ io = 8 ∨ io = 9 ∨ io = 10 ∨ io = 11 ∨ io = 12 ∨ io = 13 ∨ io = 14 ∨ io = 15 ∨ io = 16 ∨ io = 17 ∨ io = 18 ∨ io = 19 ∨ io = 20 ∨ io = 21 ∨ io = 22 ∨ io = 23 ∨ io = 24 ∨ io = 25 ∨ io = 26 ∨ io = 27 ∨ io = 28 ∨ io = 29 ∨ io = 30 ∨ io = 31 ∨ io = 32 ∨ io = 33 ∨ io = 34 ∨ io = 35 ∨ io = 36 ∨ io = 37) with rfl | rfl | rfl | rfl | rfl | rfl | rfl | rfl | rfl | rfl | rfl | rfl | rfl | rfl | rfl | rfl | rfl | rfl | rfl | rfl | rfl | rfl | rfl | rfl | rfl | rfl | rfl | rfl | rfl | rfl | rfl | rfl | rfl | rfl | rfl | rfl | rfl | rfl
    all_goals simp only [List.getElem?_toArray, List.getElem?_cons_zero, List.getElem?_cons_succ] at ho
    all_goals cases ho
    · rw [if_pos (U0 _ rfl)]
      exact wide_val (v := .slice (some ⟨bq, off, none⟩) n c) (by clear E U U0; go_simp; try rfl) ⟨rfl, h.glob⟩
    · rw [if_pos (U0 _ rfl)]
      exact wide_val (v := .int .i64 k) (by clear E U U0; go_simp; try rfl) ⟨rfl, h.glob⟩
    · rw [if_pos (U0 _ rfl)]
      have e0 := E 0 13 (.slice (some ⟨bq, off, none⟩) n c) rfl rfl (hall ⟨0, .data⟩ (by simp) rfl)
      have e1 := E 1 14 (.int .i64 k) rfl rfl (hall ⟨1, .data⟩ (by simp) rfl)
      exact wide_val (v := .pointer (some ⟨bq, off + k * 5, none⟩)) (by clear E U U0; go_simp; try rfl) ⟨rfl, h.glob⟩
    · rw [if_pos (U0 _ rfl)]
      have e2 := E 2 15 (.pointer (some ⟨bq, off + k * 5, none⟩)) rfl rfl (hall ⟨2, .data⟩ (by simp) rfl)
      exact wide_val (v := .pointer (some ⟨bq, off + k * 5, none⟩)) (by clear E U U0; go_simp; try rfl) ⟨rfl, h.glob⟩
    · rw [if_pos (U0 _ rfl)]
      have e3 := E 3 16 (.pointer (some ⟨bq, off + k * 5, none⟩)) rfl rfl (hall ⟨3, .data⟩ (by simp) rfl)
      exact wide_val (v := .agg #[.int .i64 x.a.pit, .int .i64 x.a.layer]) (by clear E U U0; go_simp; try rfl) ⟨rfl, h.glob⟩
    · rw [if_pos (U0 _ rfl)]
      have e4 := E 4 17 (.agg #[.int .i64 x.a.pit, .int .i64 x.a.layer]) rfl rfl (hall ⟨4, .data⟩ (by simp) rfl)
      clear E U U0
      refine wide_call (f := 101) (args := #[.agg #[.int .i64 x.a.pit, .int .i64 x.a.layer]]) (by go_simp <;> (try simpa [Act.eval] using e4)) ((rIsPlace_any _ _ W).mono ?_)
      rintro e w' ⟨rfl, hb'⟩
      rw [h1]
      exact ⟨_, rfl, rfl, h.glob.trans (hb'.mono h.glob.size)⟩
    · rw [if_pos (U0 _ rfl)]
      have e5 := E 5 18 (.bool true) rfl rfl (hall ⟨5, .data⟩ (by simp) rfl)
      exact wide_val (v := .bool false) (by clear E U U0; go_simp; try rfl) ⟨rfl, h.glob⟩
    · rw [if_pos (U0 _ rfl)]
      have e6 := E 6 19 (.bool false) rfl rfl (hall ⟨6, .data⟩ (by simp) rfl)
      exact wide_val (v := .bool false) (by clear E U U0; go_simp; try rfl) ⟨rfl, h.glob⟩
    · rw [U 7 20 false false rfl rfl rfl (by simp), if_pos (show (false == false) = true from rfl)]
      exact wide_val (v := .slice (some ⟨bq, off, none⟩) n c) (by clear E U U0; go_simp; try rfl) ⟨rfl, h.glob⟩
    · rw [U 7 20 false false rfl rfl rfl (by simp), if_pos (show (false == false) = true from rfl)]
      exact wide_val (v := .int .i64 k) (by clear E U U0; go_simp; try rfl) ⟨rfl, h.glob⟩
    · rw [U 7 20 false false rfl rfl rfl (by simp), if_pos (show (false == false) = true from rfl)]
      have e8 := E 8 21 (.slice (some ⟨bq, off, none⟩) n c) rfl rfl (hall ⟨8, .data⟩ (by simp) rfl)
      have e9 := E 9 22 (.int .i64 k) rfl rfl (hall ⟨9, .data⟩ (by simp) rfl)
      exact wide_val (v := .pointer (some ⟨bq, off + k * 5, none⟩)) (by clear E U U0; go_simp; try rfl) ⟨rfl, h.glob⟩
    · rw [U 7 20 false false rfl rfl rfl (by simp), if_pos (show (false == false) = true from rfl)]
      have e10 := E 10 23 (.pointer (some ⟨bq, off + k * 5, none⟩)) rfl rfl (hall ⟨10, .data⟩ (by simp) rfl)
      exact wide_val (v := .pointer (some ⟨bq, off + k * 5 + 2, none⟩)) (by clear E U U0; go_simp; try rfl) ⟨rfl, h.glob⟩
    · rw [U 7 20 false false rfl rfl rfl (by simp), if_pos (show (false == false) = true from rfl)]
      have e11 := E 11 24 (.pointer (some ⟨bq, off + k * 5 + 2, none⟩)) rfl rfl (hall ⟨11, .data⟩ (by simp) rfl)
      exact wide_val (v := .agg #[.int .i64 x.b.pit, .int .i64 x.b.layer]) (by clear E U U0; go_simp; try rfl) ⟨rfl, h.glob⟩
    · rw [U 7 20 false false rfl rfl rfl (by simp), if_pos (show (false == false) = true from rfl)]
      have e12 := E 12 25 (.agg #[.int .i64 x.b.pit, .int .i64 x.b.layer]) rfl rfl (hall ⟨12, .data⟩ (by simp) rfl)
      clear E U U0
      refine wide_call (f := 101) (args := #[.agg #[.int .i64 x.b.pit, .int .i64 x.b.layer]]) (by go_simp <;> (try simpa [Act.eval] using e12)) ((rIsPlace_any _ _ W).mono ?_)
      rintro e w' ⟨rfl, hb'⟩
      rw [h2]
      exact ⟨_, rfl, rfl, h.glob.trans (hb'.mono h.glob.size)⟩
    · rw [U 7 20 false false rfl rfl rfl (by simp), if_pos (show (false == false) = true from rfl)]
      have e13 := E 13 26 (.bool true) rfl rfl (hall ⟨13, .data⟩ (by simp) rfl)
      exact wide_val (v := .bool false) (by clear E U U0; go_simp; try rfl) ⟨rfl, h.glob⟩
    · rw [if_pos (U0 _ rfl)]
      have e7 := E 7 20 (.bool false) rfl rfl (hall ⟨7, .data⟩ (by simp) rfl)
      have e14 := E 14 27 (.bool false) rfl rfl (hall ⟨14, .data⟩ (by simp) rfl)
      exact wide_val (v := .bool false) (by clear E U U0; go_simp; try rfl) ⟨rfl, h.glob⟩
    · rw [if_pos (U0 _ rfl)]
      have e15 := E 15 28 (.bool false) rfl rfl (hall ⟨15, .data⟩ (by simp) rfl)
      exact wide_val (v := .bool false) (by clear E U U0; go_simp; try rfl) ⟨rfl, h.glob⟩
    · rw [U 16 29 false false rfl rfl rfl (by simp), if_pos (show (false == false) = true from rfl)]
      exact wide_val (v := .slice (some ⟨bq, off, none⟩) n c) (by clear E U U0; go_simp; try rfl) ⟨rfl, h.glob⟩
    · rw [U 16 29 false false rfl rfl rfl (by simp), if_pos (show (false == false) = true from rfl)]
      exact wide_val (v := .int .i64 k) (by clear E U U0; go_simp; try rfl) ⟨rfl, h.glob⟩
    · rw [U 16 29 false false rfl rfl rfl (by simp), if_pos (show (false == false) = true from rfl)]
      have e17 := E 17 30 (.slice (some ⟨bq, off, none⟩) n c) rfl rfl (hall ⟨17, .data⟩ (by simp) rfl)
      have e18 := E 18 31 (.int .i64 k) rfl rfl (hall ⟨18, .data⟩ (by simp) rfl)
      exact wide_val (v := .pointer (some ⟨bq, off + k * 5, none⟩)) (by clear E U U0; go_simp; try rfl) ⟨rfl, h.glob⟩
    · rw [U 16 29 false false rfl rfl rfl (by simp), if_pos (show (false == false) = true from rfl)]
      have e19 := E 19 32 (.pointer (some ⟨bq, off + k * 5, none⟩)) rfl rfl (hall ⟨19, .data⟩ (by simp) rfl)
      exact wide_val (v := .pointer (some ⟨bq, off + k * 5, none⟩)) (by clear E U U0; go_simp; try rfl) ⟨rfl, h.glob⟩
    · rw [U 16 29 false false rfl rfl rfl (by simp), if_pos (show (false == false) = true from rfl)]
      have e20 := E 20 33 (.pointer (some ⟨bq, off + k * 5, none⟩)) rfl rfl (hall ⟨20, .data⟩ (by simp) rfl)
      exact wide_val (v := .agg #[.int .i64 x.a.pit, .int .i64 x.a.layer]) (by clear E U U0; go_simp; try rfl) ⟨rfl, h.glob⟩
    · rw [U 16 29 false false rfl rfl rfl (by simp), if_pos (show (false == false) = true from rfl)]
      exact wide_val (v := .slice (some ⟨bq, off, none⟩) n c) (by clear E U U0; go_simp; try rfl) ⟨rfl, h.glob⟩
    · rw [U 16 29 false false rfl rfl rfl (by simp), if_pos (show (false == false) = true from rfl)]
      exact wide_val (v := .int .i64 k) (by clear E U U0; go_simp; try rfl) ⟨rfl, h.glob⟩
    · rw [U 16 29 false false rfl rfl rfl (by simp), if_pos (show (false == false) = true from rfl)]
      have e22 := E 22 35 (.slice (some ⟨bq, off, none⟩) n c) rfl rfl (hall ⟨22, .data⟩ (by simp) rfl)
      have e23 := E 23 36 (.int .i64 k) rfl rfl (hall ⟨23, .data⟩ (by simp) rfl)
      exact wide_val (v := .pointer (some ⟨bq, off + k * 5, none⟩)) (by clear E U U0; go_simp; try rfl) ⟨rfl, h.glob⟩
    · rw [U 16 29 false false rfl rfl rfl (by simp), if_pos (show (false == false) = true from rfl)]
      have e24 := E 24 37 (.pointer (some ⟨bq, off + k * 5, none⟩)) rfl rfl (hall ⟨24, .data⟩ (by simp) rfl)
      exact wide_val (v := .pointer (some ⟨bq, off + k * 5 + 2, none⟩)) (by clear E U U0; go_simp; try rfl) ⟨rfl, h.glob⟩
    · rw [U 16 29 false false rfl rfl rfl (by simp), if_pos (show (false == false) = true from rfl)]
      have e25 := E 25 38 (.pointer (some ⟨bq, off + k * 5 + 2, none⟩)) rfl rfl (hall ⟨25, .data⟩ (by simp) rfl)
      exact wide_val (v := .agg #[.int .i64 x.b.pit, .int .i64 x.b.layer]) (by clear E U U0; go_simp; try rfl) ⟨rfl, h.glob⟩
    · rw [U 16 29 false false rfl rfl rfl (by simp), if_pos (show (false == false) = true from rfl)]
      have e21 := E 21 34 (.agg #[.int .i64 x.a.pit, .int .i64 x.a.layer]) rfl rfl (hall ⟨21, .data⟩ (by simp) rfl)
      have e26 := E 26 39 (.agg #[.int .i64 x.b.pit, .int .i64 x.b.layer]) rfl rfl (hall ⟨26, .data⟩ (by simp) rfl)
      have h3' : eqPlace ⟨x.a.pit, x.a.layer⟩ ⟨x.b.pit, x.b.layer⟩ = false := h3
      exact wide_val (v := .bool false) (by clear E U U0; go_simp; (try exact congrArg Value.bool h3')) ⟨rfl, h.glob⟩
    · rw [if_pos (U0 _ rfl)]
      have e16 := E 16 29 (.bool false) rfl rfl (hall ⟨16, .data⟩ (by simp) rfl)
      have e27 := E 27 40 (.bool false) rfl rfl (hall ⟨27, .data⟩ (by simp) rfl)
      exact wide_val (v := .bool false) (by clear E U U0; go_simp; try rfl) ⟨rfl, h.glob⟩
    · rw [if_pos (U0 _ rfl)]
      have e28 := E 28 41 (.bool false) rfl rfl (hall ⟨28, .data⟩ (by simp) rfl)
      exact wide_val (v := .bool false) (by clear E U U0; go_simp; try rfl) ⟨rfl, h.glob⟩
    · rw [U 29 42 false false rfl rfl rfl (by simp), if_pos (show (false == false) = true from rfl)]
      exact wide_val (v := .slice (some ⟨bq, off, none⟩) n c) (by clear E U U0; go_simp; try rfl) ⟨rfl, h.glob⟩
    · rw [U 29 42 false false rfl rfl rfl (by simp), if_pos (show (false == false) = true from rfl)]
      exact wide_val (v := .int .i64 k) (by clear E U U0; go_simp; try rfl) ⟨rfl, h.glob⟩
    · rw [U 29 42 false false rfl rfl rfl (by simp), if_pos (show (false == false) = true from rfl)]
      have e30 := E 30 43 (.slice (some ⟨bq, off, none⟩) n c) rfl rfl (hall ⟨30, .data⟩ (by simp) rfl)
      have e31 := E 31 44 (.int .i64 k) rfl rfl (hall ⟨31, .data⟩ (by simp) rfl)
      exact wide_val (v := .pointer (some ⟨bq, off + k * 5, none⟩)) (by clear E U U0; go_simp; try rfl) ⟨rfl, h.glob⟩
    · rw [U 29 42 false false rfl rfl rfl (by simp), if_pos (show (false == false) = true from rfl)]
      have e32 := E 32 45 (.pointer (some ⟨bq, off + k * 5, none⟩)) rfl rfl (hall ⟨32, .data⟩ (by simp) rfl)
      exact wide_val (v := .pointer (some ⟨bq, off + k * 5 + 4, none⟩)) (by clear E U U0; go_simp; try rfl) ⟨rfl, h.glob⟩
    · rw [U 29 42 false false rfl rfl rfl (by simp), if_pos (show (false == false) = true from rfl)]
      have e33 := E 33 46 (.pointer (some ⟨bq, off + k * 5 + 4, none⟩)) rfl rfl (hall ⟨33, .data⟩ (by simp) rfl)
      exact wide_val (v := .int .i64 x.by_) (by clear E U U0; go_simp; try rfl) ⟨rfl, h.glob⟩
    · rw [U 29 42 false false rfl rfl rfl (by simp), if_pos (show (false == false) = true from rfl)]
      have e34 := E 34 47 (.int .i64 x.by_) rfl rfl (hall ⟨34, .data⟩ (by simp) rfl)
      clear E U U0
      refine wide_call (f := 102) (args := #[.int .i64 x.by_, .int .i64 1, .int .i64 1000000]) (by go_simp <;> (try simpa [Act.eval] using e34)) ((rWithin_any _ _ _ W).mono ?_)
      rintro e w' ⟨rfl, rfl⟩
      rw [h4]
      exact ⟨_, rfl, rfl, h.glob⟩
    · rw [U 29 42 false false rfl rfl rfl (by simp), if_pos (show (false == false) = true from rfl)]
      have e35 := E 35 48 (.bool false) rfl rfl (hall ⟨35, .data⟩ (by simp) rfl)
      exact wide_val (v := .bool true) (by clear E U U0; go_simp; try rfl) ⟨rfl, h.glob⟩
    · rw [if_pos (U0 _ rfl)]
      have e29 := E 29 42 (.bool false) rfl rfl (hall ⟨29, .data⟩ (by simp) rfl)
      have e36 := E 36 49 (.bool true) rfl rfl (hall ⟨36, .data⟩ (by simp) rfl)
      exact wide_val (v := .bool true) (by clear E U U0; go_simp; try rfl) ⟨rfl, h.glob⟩
  · intro W hg
    have := hQ W hg
    simp only [List.size_toArray, bareL, bare, List.map_cons, List.map_nil, List.length_cons, List.length_nil, Nat.reduceAdd, framed, dstOf, List.getElem?_toArray, List.getElem?_cons_zero, List.getElem?_cons_succ, Option.bind_some, valrbond4]
    exact this
def coderbond5 : Option Code → Code
  | some (.seq _ (.seq _ (.seq (.seq _ (.block _ (.loop (.seq _ (.seq (.block _ (.seq c _)) _))))) _))) => c
  | _ => .skip
def valrbond5 (bq off n c k : Nat) (x : Bond) : Nat → Value
  | 0 => .slice (some ⟨bq, off, none⟩) n c
  | 1 => .int .i64 k
  | 2 => .pointer (some ⟨bq, off + k * 5, none⟩)
  | 3 => .pointer (some ⟨bq, off + k * 5, none⟩)
  | 4 => .agg #[.int .i64 x.a.pit, .int .i64 x.a.layer]
  | 5 => .bool true
  | 6 => .bool false
  | 7 => .bool false
  | 8 => .slice (some ⟨bq, off, none⟩) n c
  | 9 => .int .i64 k
  | 10 => .pointer (some ⟨bq, off + k * 5, none⟩)
  | 11 => .pointer (some ⟨bq, off + k * 5 + 2, none⟩)
  | 12 => .agg #[.int .i64 x.b.pit, .int .i64 x.b.layer]
  | 13 => .bool true
  | 14 => .bool false
  | 15 => .bool false
  | 16 => .bool false
  | 17 => .slice (some ⟨bq, off, none⟩) n c
  | 18 => .int .i64 k
  | 19 => .pointer (some ⟨bq, off + k * 5, none⟩)
  | 20 => .pointer (some ⟨bq, off + k * 5, none⟩)
  | 21 => .agg #[.int .i64 x.a.pit, .int .i64 x.a.layer]
  | 22 => .slice (some ⟨bq, off, none⟩) n c
  | 23 => .int .i64 k
  | 24 => .pointer (some ⟨bq, off + k * 5, none⟩)
  | 25 => .pointer (some ⟨bq, off + k * 5 + 2, none⟩)
  | 26 => .agg #[.int .i64 x.b.pit, .int .i64 x.b.layer]
  | 27 => .bool false
  | 28 => .bool false
  | 29 => .bool false
  | 30 => .slice (some ⟨bq, off, none⟩) n c
  | 31 => .int .i64 k
  | 32 => .pointer (some ⟨bq, off + k * 5, none⟩)
  | 33 => .pointer (some ⟨bq, off + k * 5 + 4, none⟩)
  | 34 => .int .i64 x.by_
  | 35 => .bool true
  | 36 => .bool false
  | 37 => .bool false
  | _ => undef
set_option maxRecDepth 100000 in
set_option maxHeartbeats 4000000 in
theorem rbond5 (cC : Code) (hc : cC = coderbond5 Tryz.f51.body) (bq off n c k : Nat) (x : Bond) (a : Act) (w : World) (Q : Exit → Act → World → Prop)
    (hT : a.tmps.size = 51) (t0 : a.tmps.getD 0 undef = .slice (some ⟨bq, off, none⟩) n c) (t3 : a.tmps.getD 3 undef = .int .i64 k)
    (CE : ∀ W, Below w.heap.size w W → W.cell? ⟨bq, off + k * 5, none⟩ = some (.int .i64 x.a.pit) ∧ W.cell? ⟨bq, off + k * 5 + 1, none⟩ = some (.int .i64 x.a.layer) ∧ W.cell? ⟨bq, off + k * 5 + 2, none⟩ = some (.int .i64 x.b.pit) ∧ W.cell? ⟨bq, off + k * 5 + 3, none⟩ = some (.int .i64 x.b.layer) ∧ W.cell? ⟨bq, off + k * 5 + 4, none⟩ = some (.int .i64 x.by_)) (hkn : k < n) (h1 : isPlaceB x.a.pit x.a.layer = true) (h2 : isPlaceB x.b.pit x.b.layer = true) (h3 : eqPlace x.a x.b = false) (h4 : inB x.by_ 1 1000000 = true)
    (hQ : ∀ W, (fun W => Below w.heap.size w W) W → Q .normal { tmps := ((((((((((((((((((((((((((((((((((((((a.tmps.setIfInBounds 13 (.slice (some ⟨bq, off, none⟩) n c)).setIfInBounds 14 (.int .i64 k)).setIfInBounds 15 (.pointer (some ⟨bq, off + k * 5, none⟩))).setIfInBounds 16 (.pointer (some ⟨bq, off + k * 5, none⟩))).setIfInBounds 17 (.agg #[.int .i64 x.a.pit, .int .i64 x.a.layer])).setIfInBounds 18 (.bool true)).setIfInBounds 19 (.bool false)).setIfInBounds 20 (.bool false)).setIfInBounds 21 (.slice (some ⟨bq, off, none⟩) n c)).setIfInBounds 22 (.int .i64 k)).setIfInBounds 23 (.pointer (some ⟨bq, off + k * 5, none⟩))).setIfInBounds 24 (.pointer (some ⟨bq, off + k * 5 + 2, none⟩))).setIfInBounds 25 (.agg #[.int .i64 x.b.pit, .int .i64 x.b.layer])).setIfInBounds 26 (.bool true)).setIfInBounds 27 (.bool false)).setIfInBounds 28 (.bool false)).setIfInBounds 29 (.bool false)).setIfInBounds 30 (.slice (some ⟨bq, off, none⟩) n c)).setIfInBounds 31 (.int .i64 k)).setIfInBounds 32 (.pointer (some ⟨bq, off + k * 5, none⟩))).setIfInBounds 33 (.pointer (some ⟨bq, off + k * 5, none⟩))).setIfInBounds 34 (.agg #[.int .i64 x.a.pit, .int .i64 x.a.layer])).setIfInBounds 35 (.slice (some ⟨bq, off, none⟩) n c)).setIfInBounds 36 (.int .i64 k)).setIfInBounds 37 (.pointer (some ⟨bq, off + k * 5, none⟩))).setIfInBounds 38 (.pointer (some ⟨bq, off + k * 5 + 2, none⟩))).setIfInBounds 39 (.agg #[.int .i64 x.b.pit, .int .i64 x.b.layer])).setIfInBounds 40 (.bool false)).setIfInBounds 41 (.bool false)).setIfInBounds 42 (.bool false)).setIfInBounds 43 (.slice (some ⟨bq, off, none⟩) n c)).setIfInBounds 44 (.int .i64 k)).setIfInBounds 45 (.pointer (some ⟨bq, off + k * 5, none⟩))).setIfInBounds 46 (.pointer (some ⟨bq, off + k * 5 + 4, none⟩))).setIfInBounds 47 (.int .i64 x.by_)).setIfInBounds 48 (.bool true)).setIfInBounds 49 (.bool false)).setIfInBounds 50 (.bool false)), defers := a.defers } W) :
    cC.wp Tryz.prog Q a w := by
  subst hc
  unfold coderbond5 Tryz.f51
  dsimp only
  refine wpIn_wide.1 (wpIn_region_vals (nn := 5) 51 (by kernel_rfl) (by kernel_rfl) hT.symm (valrbond5 bq off n c k x) (fun W => Below w.heap.size w W) ((Below.refl _ _).drew) ?_ ?_)
  · intro listed io o b W hi ho h
    obtain ⟨c0, c1, c2, c3, c4⟩ := CE W h.glob
    clear hQ
    obtain ⟨hun, oi, hoi, hall⟩ := mem_ready.1 hi
    have : oi = o := Option.some.inj (hoi.symm.trans ho)
    subst this
    clear hoi hi
    have hlt : io < 38 := (by have := (Array.getElem?_eq_some_iff.1 ho).1; simpa using this)
    have hun' : listed.getD io false = false := getD_both hun
    have q0 : b.tmps[0]?.getD undef = _ := (by simpa using (h.tab.old 0 (dst_no h.tab (by kernel_rfl))).trans t0)
    have q3 : b.tmps[3]?.getD undef = _ := (by simpa using (h.tab.old 3 (dst_no h.tab (by kernel_rfl))).trans t3)
    have E : ∀ (j s : Nat) (v : Value), dstOf _ j = some s → valrbond5 bq off n c k x j = v → listed.getD j false = true → b.tmps[s]?.getD undef = v := fun j s v h1 h2 h3 => by rw [← h2]; simpa using h.val j s h1 h3
    have U0 : ∀ y, oi.guard = none → Region.wanted oi y = true := fun y h => by simp [Region.wanted, h]
    have U : ∀ (j d : Nat) (g v : Bool), oi.guard = some (j, g) → dstOf _ j = some d → valrbond5 bq off n c k x j = .bool v → ⟨j, .guard⟩ ∈ oi.after → Region.wanted oi (yielded _ b.tmps) = (v == g) := fun j d g v h1 h2 h3 h4 => wanted_of h h1 h2 (hall _ h4 rfl) h3
    rcases (by omega : io = 0 ∨ io = 1 ∨ io = 2 ∨ io = 3 ∨ io = 4 ∨ io = 5 ∨ io = 6 ∨ io = 7 ∨ io = 8 ∨ io = 9 ∨ io = 10 ∨ io = 11 ∨ io = 12 ∨ io = 13 ∨ io = 14 ∨ io = 15 ∨ io = 16 ∨ io = 17 ∨ io = 18 ∨ io = 19 ∨ io = 20 ∨ io = 21 ∨ io = 22 ∨ io = 23 ∨ io = 24 ∨ io = 25 ∨ io = 26 ∨ io = 27 ∨ io = 28 ∨ io = 29 ∨ io = 30 ∨ io = 31 ∨ io = 32 ∨ io = 33 ∨ io = 34 ∨ io = 35 ∨ io = 36 ∨ io = 37) with rfl | rfl | rfl | rfl | rfl | rfl | rfl | rfl | rfl | rfl | rfl | rfl | rfl | rfl | rfl | rfl | rfl | rfl | rfl | rfl | rfl | rfl | rfl | rfl | rfl | rfl | rfl | rfl | rfl | rfl | rfl | rfl | rfl | rfl | rfl | rfl | rfl | rfl
    all_goals simp only [List.getElem?_toArray, List.getElem?_cons_zero, List.getElem?_cons_succ] at ho
    all_goals cases ho
    · rw [if_pos (U0 _ rfl)]
      exact wide_val (v := .slice (some ⟨bq, off, none⟩) n c) (by clear E U U0; go_simp; try rfl) ⟨rfl, h.glob⟩
    · rw [if_pos (U0 _ rfl)]
      exact wide_val (v := .int .i64 k) (by clear E U U0; go_simp; try rfl) ⟨rfl, h.glob⟩
    · rw [if_pos (U0 _ rfl)]
      have e0 := E 0 13 (.slice (some ⟨bq, off, none⟩) n c) rfl rfl (hall ⟨0, .data⟩ (by simp) rfl)
      have e1 := E 1 14 (.int .i64 k) rfl rfl (hall ⟨1, .data⟩ (by simp) rfl)
      exact wide_val (v := .pointer (some ⟨bq, off + k * 5, none⟩)) (by clear E U U0; go_simp; try rfl) ⟨rfl, h.glob⟩
    · rw [if_pos (U0 _ rfl)]
      have e2 := E 2 15 (.pointer (some ⟨bq, off + k * 5, none⟩)) rfl rfl (hall ⟨2, .data⟩ (by simp) rfl)
      exact wide_val (v := .pointer (some ⟨bq, off + k * 5, none⟩)) (by clear E U U0; go_simp; try rfl) ⟨rfl, h.glob⟩
    · rw [if_pos (U0 _ rfl)]
      have e3 := E 3 16 (.pointer (some ⟨bq, off + k * 5, none⟩)) rfl rfl (hall ⟨3, .data⟩ (by simp) rfl)
      exact wide_val (v := .agg #[.int .i64 x.a.pit, .int .i64 x.a.layer]) (by clear E U U0; go_simp; try rfl) ⟨rfl, h.glob⟩
    · rw [if_pos (U0 _ rfl)]
      have e4 := E 4 17 (.agg #[.int .i64 x.a.pit, .int .i64 x.a.layer]) rfl rfl (hall ⟨4, .data⟩ (by simp) rfl)
      clear E U U0
      refine wide_call (f := 101) (args := #[.agg #[.int .i64 x.a.pit, .int .i64 x.a.layer]]) (by go_simp <;> (try simpa [Act.eval] using e4)) ((rIsPlace_any _ _ W).mono ?_)
      rintro e w' ⟨rfl, hb'⟩
      rw [h1]
      exact ⟨_, rfl, rfl, h.glob.trans (hb'.mono h.glob.size)⟩
    · rw [if_pos (U0 _ rfl)]
      have e5 := E 5 18 (.bool true) rfl rfl (hall ⟨5, .data⟩ (by simp) rfl)
      exact wide_val (v := .bool false) (by clear E U U0; go_simp; try rfl) ⟨rfl, h.glob⟩
    · rw [if_pos (U0 _ rfl)]
      have e6 := E 6 19 (.bool false) rfl rfl (hall ⟨6, .data⟩ (by simp) rfl)
      exact wide_val (v := .bool false) (by clear E U U0; go_simp; try rfl) ⟨rfl, h.glob⟩
    · rw [U 7 20 false false rfl rfl rfl (by simp), if_pos (show (false == false) = true from rfl)]
      exact wide_val (v := .slice (some ⟨bq, off, none⟩) n c) (by clear E U U0; go_simp; try rfl) ⟨rfl, h.glob⟩
    · rw [U 7 20 false false rfl rfl rfl (by simp), if_pos (show (false == false) = true from rfl)]
      exact wide_val (v := .int .i64 k) (by clear E U U0; go_simp; try rfl) ⟨rfl, h.glob⟩
    · rw [U 7 20 false false rfl rfl rfl (by simp), if_pos (show (false == false) = true from rfl)]
      have e8 := E 8 21 (.slice (some ⟨bq, off, none⟩) n c) rfl rfl (hall ⟨8, .data⟩ (by simp) rfl)
      have e9 := E 9 22 (.int .i64 k) rfl rfl (hall ⟨9, .data⟩ (by simp) rfl)
      exact wide_val (v := .pointer (some ⟨bq, off + k * 5, none⟩)) (by clear E U U0; go_simp; try rfl) ⟨rfl, h.glob⟩
    · rw [U 7 20 false false rfl rfl rfl (by simp), if_pos (show (false == false) = true from rfl)]
      have e10 := E 10 23 (.pointer (some ⟨bq, off + k * 5, none⟩)) rfl rfl (hall ⟨10, .data⟩ (by simp) rfl)
      exact wide_val (v := .pointer (some ⟨bq, off + k * 5 + 2, none⟩)) (by clear E U U0; go_simp; try rfl) ⟨rfl, h.glob⟩
    · rw [U 7 20 false false rfl rfl rfl (by simp), if_pos (show (false == false) = true from rfl)]
      have e11 := E 11 24 (.pointer (some ⟨bq, off + k * 5 + 2, none⟩)) rfl rfl (hall ⟨11, .data⟩ (by simp) rfl)
      exact wide_val (v := .agg #[.int .i64 x.b.pit, .int .i64 x.b.layer]) (by clear E U U0; go_simp; try rfl) ⟨rfl, h.glob⟩
    · rw [U 7 20 false false rfl rfl rfl (by simp), if_pos (show (false == false) = true from rfl)]
      have e12 := E 12 25 (.agg #[.int .i64 x.b.pit, .int .i64 x.b.layer]) rfl rfl (hall ⟨12, .data⟩ (by simp) rfl)
      clear E U U0
      refine wide_call (f := 101) (args := #[.agg #[.int .i64 x.b.pit, .int .i64 x.b.layer]]) (by go_simp <;> (try simpa [Act.eval] using e12)) ((rIsPlace_any _ _ W).mono ?_)
      rintro e w' ⟨rfl, hb'⟩
      rw [h2]
      exact ⟨_, rfl, rfl, h.glob.trans (hb'.mono h.glob.size)⟩
    · rw [U 7 20 false false rfl rfl rfl (by simp), if_pos (show (false == false) = true from rfl)]
      have e13 := E 13 26 (.bool true) rfl rfl (hall ⟨13, .data⟩ (by simp) rfl)
      exact wide_val (v := .bool false) (by clear E U U0; go_simp; try rfl) ⟨rfl, h.glob⟩
    · rw [if_pos (U0 _ rfl)]
      have e7 := E 7 20 (.bool false) rfl rfl (hall ⟨7, .data⟩ (by simp) rfl)
      have e14 := E 14 27 (.bool false) rfl rfl (hall ⟨14, .data⟩ (by simp) rfl)
      exact wide_val (v := .bool false) (by clear E U U0; go_simp; try rfl) ⟨rfl, h.glob⟩
    · rw [if_pos (U0 _ rfl)]
      have e15 := E 15 28 (.bool false) rfl rfl (hall ⟨15, .data⟩ (by simp) rfl)
      exact wide_val (v := .bool false) (by clear E U U0; go_simp; try rfl) ⟨rfl, h.glob⟩
    · rw [U 16 29 false false rfl rfl rfl (by simp), if_pos (show (false == false) = true from rfl)]
      exact wide_val (v := .slice (some ⟨bq, off, none⟩) n c) (by clear E U U0; go_simp; try rfl) ⟨rfl, h.glob⟩
    · rw [U 16 29 false false rfl rfl rfl (by simp), if_pos (show (false == false) = true from rfl)]
      exact wide_val (v := .int .i64 k) (by clear E U U0; go_simp; try rfl) ⟨rfl, h.glob⟩
    · rw [U 16 29 false false rfl rfl rfl (by simp), if_pos (show (false == false) = true from rfl)]
      have e17 := E 17 30 (.slice (some ⟨bq, off, none⟩) n c) rfl rfl (hall ⟨17, .data⟩ (by simp) rfl)
      have e18 := E 18 31 (.int .i64 k) rfl rfl (hall ⟨18, .data⟩ (by simp) rfl)
      exact wide_val (v := .pointer (some ⟨bq, off + k * 5, none⟩)) (by clear E U U0; go_simp; try rfl) ⟨rfl, h.glob⟩
    · rw [U 16 29 false false rfl rfl rfl (by simp), if_pos (show (false == false) = true from rfl)]
      have e19 := E 19 32 (.pointer (some ⟨bq, off + k * 5, none⟩)) rfl rfl (hall ⟨19, .data⟩ (by simp) rfl)
      exact wide_val (v := .pointer (some ⟨bq, off + k * 5, none⟩)) (by clear E U U0; go_simp; try rfl) ⟨rfl, h.glob⟩
    · rw [U 16 29 false false rfl rfl rfl (by simp), if_pos (show (false == false) = true from rfl)]
      have e20 := E 20 33 (.pointer (some ⟨bq, off + k * 5, none⟩)) rfl rfl (hall ⟨20, .data⟩ (by simp) rfl)
      exact wide_val (v := .agg #[.int .i64 x.a.pit, .int .i64 x.a.layer]) (by clear E U U0; go_simp; try rfl) ⟨rfl, h.glob⟩
    · rw [U 16 29 false false rfl rfl rfl (by simp), if_pos (show (false == false) = true from rfl)]
      exact wide_val (v := .slice (some ⟨bq, off, none⟩) n c) (by clear E U U0; go_simp; try rfl) ⟨rfl, h.glob⟩
    · rw [U 16 29 false false rfl rfl rfl (by simp), if_pos (show (false == false) = true from rfl)]
      exact wide_val (v := .int .i64 k) (by clear E U U0; go_simp; try rfl) ⟨rfl, h.glob⟩
    · rw [U 16 29 false false rfl rfl rfl (by simp), if_pos (show (false == false) = true from rfl)]
      have e22 := E 22 35 (.slice (some ⟨bq, off, none⟩) n c) rfl rfl (hall ⟨22, .data⟩ (by simp) rfl)
      have e23 := E 23 36 (.int .i64 k) rfl rfl (hall ⟨23, .data⟩ (by simp) rfl)
      exact wide_val (v := .pointer (some ⟨bq, off + k * 5, none⟩)) (by clear E U U0; go_simp; try rfl) ⟨rfl, h.glob⟩
    · rw [U 16 29 false false rfl rfl rfl (by simp), if_pos (show (false == false) = true from rfl)]
      have e24 := E 24 37 (.pointer (some ⟨bq, off + k * 5, none⟩)) rfl rfl (hall ⟨24, .data⟩ (by simp) rfl)
      exact wide_val (v := .pointer (some ⟨bq, off + k * 5 + 2, none⟩)) (by clear E U U0; go_simp; try rfl) ⟨rfl, h.glob⟩
    · rw [U 16 29 false false rfl rfl rfl (by simp), if_pos (show (false == false) = true from rfl)]
      have e25 := E 25 38 (.pointer (some ⟨bq, off + k * 5 + 2, none⟩)) rfl rfl (hall ⟨25, .data⟩ (by simp) rfl)
      exact wide_val (v := .agg #[.int .i64 x.b.pit, .int .i64 x.b.layer]) (by clear E U U0; go_simp; try rfl) ⟨rfl, h.glob⟩
    · rw [U 16 29 false false rfl rfl rfl (by simp), if_pos (show (false == false) = true from rfl)]
      have e21 := E 21 34 (.agg #[.int .i64 x.a.pit, .int .i64 x.a.layer]) rfl rfl (hall ⟨21, .data⟩ (by simp) rfl)
      have e26 := E 26 39 (.agg #[.int .i64 x.b.pit, .int .i64 x.b.layer]) rfl rfl (hall ⟨26, .data⟩ (by simp) rfl)
      have h3' : eqPlace ⟨x.a.pit, x.a.layer⟩ ⟨x.b.pit, x.b.layer⟩ = false := h3
      exact wide_val (v := .bool false) (by clear E U U0; go_simp; (try exact congrArg Value.bool h3')) ⟨rfl, h.glob⟩
    · rw [if_pos (U0 _ rfl)]
      have e16 := E 16 29 (.bool false) rfl rfl (hall ⟨16, .data⟩ (by simp) rfl)
      have e27 := E 27 40 (.bool false) rfl rfl (hall ⟨27, .data⟩ (by simp) rfl)
      exact wide_val (v := .bool false) (by clear E U U0; go_simp; try rfl) ⟨rfl, h.glob⟩
    · rw [if_pos (U0 _ rfl)]
      have e28 := E 28 41 (.bool false) rfl rfl (hall ⟨28, .data⟩ (by simp) rfl)
      exact wide_val (v := .bool false) (by clear E U U0; go_simp; try rfl) ⟨rfl, h.glob⟩
    · rw [U 29 42 false false rfl rfl rfl (by simp), if_pos (show (false == false) = true from rfl)]
      exact wide_val (v := .slice (some ⟨bq, off, none⟩) n c) (by clear E U U0; go_simp; try rfl) ⟨rfl, h.glob⟩
    · rw [U 29 42 false false rfl rfl rfl (by simp), if_pos (show (false == false) = true from rfl)]
      exact wide_val (v := .int .i64 k) (by clear E U U0; go_simp; try rfl) ⟨rfl, h.glob⟩
    · rw [U 29 42 false false rfl rfl rfl (by simp), if_pos (show (false == false) = true from rfl)]
      have e30 := E 30 43 (.slice (some ⟨bq, off, none⟩) n c) rfl rfl (hall ⟨30, .data⟩ (by simp) rfl)
      have e31 := E 31 44 (.int .i64 k) rfl rfl (hall ⟨31, .data⟩ (by simp) rfl)
      exact wide_val (v := .pointer (some ⟨bq, off + k * 5, none⟩)) (by clear E U U0; go_simp; try rfl) ⟨rfl, h.glob⟩
    · rw [U 29 42 false false rfl rfl rfl (by simp), if_pos (show (false == false) = true from rfl)]
      have e32 := E 32 45 (.pointer (some ⟨bq, off + k * 5, none⟩)) rfl rfl (hall ⟨32, .data⟩ (by simp) rfl)
      exact wide_val (v := .pointer (some ⟨bq, off + k * 5 + 4, none⟩)) (by clear E U U0; go_simp; try rfl) ⟨rfl, h.glob⟩
    · rw [U 29 42 false false rfl rfl rfl (by simp), if_pos (show (false == false) = true from rfl)]
      have e33 := E 33 46 (.pointer (some ⟨bq, off + k * 5 + 4, none⟩)) rfl rfl (hall ⟨33, .data⟩ (by simp) rfl)
      exact wide_val (v := .int .i64 x.by_) (by clear E U U0; go_simp; try rfl) ⟨rfl, h.glob⟩
    · rw [U 29 42 false false rfl rfl rfl (by simp), if_pos (show (false == false) = true from rfl)]
      have e34 := E 34 47 (.int .i64 x.by_) rfl rfl (hall ⟨34, .data⟩ (by simp) rfl)
      clear E U U0
      refine wide_call (f := 102) (args := #[.int .i64 x.by_, .int .i64 1, .int .i64 1000000]) (by go_simp <;> (try simpa [Act.eval] using e34)) ((rWithin_any _ _ _ W).mono ?_)
      rintro e w' ⟨rfl, rfl⟩
      rw [h4]
      exact ⟨_, rfl, rfl, h.glob⟩
    · rw [U 29 42 false false rfl rfl rfl (by simp), if_pos (show (false == false) = true from rfl)]
      have e35 := E 35 48 (.bool true) rfl rfl (hall ⟨35, .data⟩ (by simp) rfl)
      exact wide_val (v := .bool false) (by clear E U U0; go_simp; try rfl) ⟨rfl, h.glob⟩
    · rw [if_pos (U0 _ rfl)]
      have e29 := E 29 42 (.bool false) rfl rfl (hall ⟨29, .data⟩ (by simp) rfl)
      have e36 := E 36 49 (.bool false) rfl rfl (hall ⟨36, .data⟩ (by simp) rfl)
      exact wide_val (v := .bool false) (by clear E U U0; go_simp; try rfl) ⟨rfl, h.glob⟩
  · intro W hg
    have := hQ W hg
    simp only [List.size_toArray, bareL, bare, List.map_cons, List.map_nil, List.length_cons, List.length_nil, Nat.reduceAdd, framed, dstOf, List.getElem?_toArray, List.getElem?_cons_zero, List.getElem?_cons_succ, Option.bind_some, valrbond5]
    exact this
end Go.Proofs.YtelnkflmnbhclaaGreat
end

/- What is proved: the contract of the reference's CheckBonds: what the program's returns. Conditions: none. -/
section
namespace Go.Proofs.YtelnkflmnbhclaaGreat
open Go.RowKit Go.Proofs Go.Shelf

theorem bond_ways (x : Bond) : (isPlaceB x.a.pit x.a.layer = false ∧ wrongBond x = true) ∨ (isPlaceB x.a.pit x.a.layer = true ∧ isPlaceB x.b.pit x.b.layer = false ∧ wrongBond x = true) ∨ (isPlaceB x.a.pit x.a.layer = true ∧ isPlaceB x.b.pit x.b.layer = true ∧ eqPlace x.a x.b = true ∧ wrongBond x = true) ∨
    (isPlaceB x.a.pit x.a.layer = true ∧ isPlaceB x.b.pit x.b.layer = true ∧ eqPlace x.a x.b = false ∧ inB x.by_ 1 1000000 = false ∧ wrongBond x = true) ∨ (isPlaceB x.a.pit x.a.layer = true ∧ isPlaceB x.b.pit x.b.layer = true ∧ eqPlace x.a x.b = false ∧ inB x.by_ 1 1000000 = true ∧ wrongBond x = false) := by
  unfold wrongBond
  cases isPlaceB x.a.pit x.a.layer <;> cases isPlaceB x.b.pit x.b.layer <;> cases eqPlace x.a x.b <;> cases inB x.by_ 1 1000000 <;> simp
set_option maxHeartbeats 4000000 in
set_option maxRecDepth 100000 in
theorem rCheckBonds_any (A : Option Addr) (n c : Nat) (l : List Bond) (w : World) (hl : Rd encBond 5 w A n c l) :
    Calls Tryz.prog 51 #[.slice A n c] w fun e w' => e = .returned (.int .i64 (checkBonds l)) ∧ Below w.heap.size w w' := by
  have hnl := Lib.hid hl.len
  have hbig := hl.big
  have HL := Lib.hid hl
  clear hl
  by_cases h60 : 60 < n
  · go_enter Tryz.func51, Tryz.ntmps51
    go_wp2
    go_ret
    refine ⟨retI ?_, Below.refl _ _⟩
    unfold checkBonds
    rw [if_pos (by rw [hnl.out]; omega)]
  · go_enter Tryz.func51, Tryz.ntmps51
    go_wp2
    go_loopw [3] (fun i wr => ∃ k : Nat, k ≤ n ∧ i = .int .i64 k ∧ Hid (Below w.heap.size w wr) ∧ Hid ((l.take k).any wrongBond = false)) (fun i _ => n - (intOf i).toNat)
    case atStart => exact ⟨0, Nat.zero_le _, rfl, (show Below _ _ _ from Below.refl _ _), (show _ = _ from rfl)⟩
    case round =>
      obtain ⟨k, hk, rfl, hb, hno⟩ := hrel
      have hzr := hb.out.size
      by_cases hlt : k < n
      · obtain ⟨b, off, x, rfl, hbw, hx, hcell⟩ := (HL.out.below hb.out (Nat.le_refl _)).one hlt
        have c0 : wr.cell? ⟨b, off + k * 5, none⟩ = some (.int .i64 x.a.pit) := hcell 0 _ rfl
        have c1 : wr.cell? ⟨b, off + k * 5 + 1, none⟩ = some (.int .i64 x.a.layer) := hcell 1 _ rfl
        have c2 : wr.cell? ⟨b, off + k * 5 + 2, none⟩ = some (.int .i64 x.b.pit) := hcell 2 _ rfl
        have c3 : wr.cell? ⟨b, off + k * 5 + 3, none⟩ = some (.int .i64 x.b.layer) := hcell 3 _ rfl
        have c4 : wr.cell? ⟨b, off + k * 5 + 4, none⟩ = some (.int .i64 x.by_) := hcell 4 _ rfl
        have SN : Hid ((l.take (k + 1)).any wrongBond = wrongBond x) := (show _ = _ by rw [List.take_add_one, hx, Option.toList_some, List.any_append, hno.out]; simp)
        have HM := Lib.hid (List.mem_of_getElem? hx)
        have CE : Hid (∀ W, Below wr.heap.size wr W → W.cell? ⟨b, off + k * 5, none⟩ = some (.int .i64 x.a.pit) ∧ W.cell? ⟨b, off + k * 5 + 1, none⟩ = some (.int .i64 x.a.layer) ∧ W.cell? ⟨b, off + k * 5 + 2, none⟩ = some (.int .i64 x.b.pit) ∧ W.cell? ⟨b, off + k * 5 + 3, none⟩ = some (.int .i64 x.b.layer) ∧ W.cell? ⟨b, off + k * 5 + 4, none⟩ = some (.int .i64 x.by_)) :=
          (show ∀ W, Below wr.heap.size wr W → W.cell? ⟨b, off + k * 5, none⟩ = some (.int .i64 x.a.pit) ∧ W.cell? ⟨b, off + k * 5 + 1, none⟩ = some (.int .i64 x.a.layer) ∧ W.cell? ⟨b, off + k * 5 + 2, none⟩ = some (.int .i64 x.b.pit) ∧ W.cell? ⟨b, off + k * 5 + 3, none⟩ = some (.int .i64 x.b.layer) ∧ W.cell? ⟨b, off + k * 5 + 4, none⟩ = some (.int .i64 x.by_) from
            fun W hb => ⟨(hb.cell (p := ⟨b, _, none⟩) hbw).trans c0, (hb.cell (p := ⟨b, _, none⟩) hbw).trans c1, (hb.cell (p := ⟨b, _, none⟩) hbw).trans c2, (hb.cell (p := ⟨b, _, none⟩) hbw).trans c3, (hb.cell (p := ⟨b, _, none⟩) hbw).trans c4⟩)
        clear hcell hx
        rcases bond_ways x with ⟨h1, hw⟩ | ⟨h1, h2, hw⟩ | ⟨h1, h2, h3, hw⟩ | ⟨h1, h2, h3, h4, hw⟩ | ⟨h1, h2, h3, h4, hw⟩
        all_goals
          have HW := Lib.hid hw
          clear hw c0 c1 c2 c3 c4
        all_goals
          (first
            | (have H1 := Lib.hid (And.intro h1 (And.intro h2 (And.intro h3 h4))); clear h1 h2 h3 h4)
            | (have H1 := Lib.hid (And.intro h1 (And.intro h2 h3)); clear h1 h2 h3)
            | (have H1 := Lib.hid (And.intro h1 h2); clear h1 h2)
            | (have H1 := Lib.hid h1; clear h1))
          go_upto_region 6 with (fail)
          first
            | refine rbond5 _ rfl b off n c k x _ wr _ rfl rfl rfl CE.out hlt H1.out.1 H1.out.2.1 H1.out.2.2.1 H1.out.2.2.2 ?_
            | refine rbond4 _ rfl b off n c k x _ wr _ rfl rfl rfl CE.out hlt H1.out.1 H1.out.2.1 H1.out.2.2.1 H1.out.2.2.2 ?_
            | refine rbond3 _ rfl b off n c k x _ wr _ rfl rfl rfl CE.out hlt H1.out.1 H1.out.2.1 H1.out.2.2 ?_
            | refine rbond2 _ rfl b off n c k x _ wr _ rfl rfl rfl CE.out hlt H1.out.1 H1.out.2 ?_
            | refine rbond1 _ rfl b off n c k x _ wr _ rfl rfl rfl CE.out hlt H1.out ?_
          intro wI hbI
          have HBI := Lib.hid hbI
          clear hbI
          simp only [List.setIfInBounds_toArray, List.set_cons_succ, List.set_cons_zero]
          go_wp2
          first
            | (go_ret
               refine ⟨retI ?_, hb.out.trans (HBI.out.mono hzr)⟩
               unfold checkBonds
               rw [if_neg (by rw [hnl.out]; omega), if_pos (List.any_eq_true.2 ⟨x, HM.out, HW.out⟩)])
            | go_roundw
        all_goals first
            | (simp [intOf]; omega)
            | exact ⟨k + 1, by omega, by go_num, hb.out.trans (HBI.out.mono hzr), (show _ = _ by rw [SN.out]; exact HW.out)⟩
      · have hkn : k = n := by omega
        subst hkn
        go_wp2
        go_ret
        refine ⟨retI ?_, hb.out⟩
        have h1 := hno.out
        rw [List.take_of_length_le (by rw [hnl.out]; exact Nat.le_refl _)] at h1
        unfold checkBonds
        rw [if_neg (by rw [hnl.out]; omega), if_neg (by rw [h1]; decide)]
end Go.Proofs.YtelnkflmnbhclaaGreat
end

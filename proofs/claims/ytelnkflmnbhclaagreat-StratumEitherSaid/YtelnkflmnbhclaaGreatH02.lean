/- Contracts that the laws lean on: RefG, RefD, RefB, Sml, RefC. -/
import Derived.Test.YtelnkflmnbhclaaGreatH01
import Derived.Deep.DeepCutAuto
import Derived.Test.YtelnkflmnbhclaaGreatG10
import Derived.Test.YtelnkflmnbhclaaGreatG11
import Derived.Deep.RegionHeld3
import Derived.Test.YtelnkflmnbhclaaGreatG07
/- What is proved: the drawn regions of the reference's put: the tests of the place ahead. Conditions: none. -/
section
namespace Go.Proofs.YtelnkflmnbhclaaGreat
open Go.RowKit Go.Proofs

def coderput2z : Option Code → Code
  | some (.seq _ (.seq _ (.seq (.block _ (.loop (.seq (.seq c _) _))) _))) => c
  | _ => .skip
def valrput2z (_ : Value) (_ : Nat) : Nat → Value
  | 0 => .int .i64 0
  | 1 => .bool false
  | 2 => .bool false
  | 10 => .bool false
  | _ => undef
set_option maxRecDepth 100000 in
set_option maxHeartbeats 4000000 in
theorem rput2z (cC : Code) (hc : cC = coderput2z Tryz.f129.body) (s0 : Value) (pb : Nat) (a : Act) (w : World) (Q : Exit → Act → World → Prop)
    (hT : a.tmps.size = 48) (t0 : a.tmps.getD 0 undef = s0) (t3 : a.tmps.getD 3 undef = .pointer (some ⟨pb, 0, none⟩)) (t5 : a.tmps.getD 5 undef = .int .i64 0)
    
    (hQ : ∀ W, (fun W => Below w.heap.size w W) W → Q .normal { tmps := (((((((((((a.tmps.setIfInBounds 9 (.int .i64 0)).setIfInBounds 10 (.bool false)).setIfInBounds 11 (.bool false)).setIfInBounds 12 (undef)).setIfInBounds 13 (undef)).setIfInBounds 14 (undef)).setIfInBounds 15 (undef)).setIfInBounds 16 (undef)).setIfInBounds 17 (undef)).setIfInBounds 18 (undef)).setIfInBounds 19 (.bool false)), defers := a.defers } W) :
    cC.wp Tryz.prog Q a w := by
  subst hc
  unfold coderput2z Tryz.f129
  dsimp only
  refine wpIn_wide.1 (wpIn_region_vals (nn := 5) 48 (by kernel_rfl) (by kernel_rfl) hT.symm (valrput2z s0 pb) (fun W => Below w.heap.size w W) ((Below.refl _ _).drew) ?_ ?_)
  · intro listed io o b W hi ho h
    clear hQ
    obtain ⟨hun, oi, hoi, hall⟩ := mem_ready.1 hi
    have : oi = o := Option.some.inj (hoi.symm.trans ho)
    subst this
    clear hoi hi
    have hlt : io < 11 := (by have := (Array.getElem?_eq_some_iff.1 ho).1; simpa using this)
    have hun' : listed.getD io false = false := getD_both hun
    have q0 : b.tmps[0]?.getD undef = _ := (by simpa using (h.tab.old 0 (dst_no h.tab (by kernel_rfl))).trans t0)
    have q3 : b.tmps[3]?.getD undef = _ := (by simpa using (h.tab.old 3 (dst_no h.tab (by kernel_rfl))).trans t3)
    have q5 : b.tmps[5]?.getD undef = _ := (by simpa using (h.tab.old 5 (dst_no h.tab (by kernel_rfl))).trans t5)
    have E : ∀ (jj s : Nat) (v : Value), dstOf _ jj = some s → valrput2z s0 pb jj = v → listed.getD jj false = true → b.tmps[s]?.getD undef = v := fun jj s v h1 h2 h3 => by rw [← h2]; simpa using h.val jj s h1 h3
    have U0 : ∀ y, oi.guard = none → Region.wanted oi y = true := fun y h => by simp [Region.wanted, h]
    have U : ∀ (jj d : Nat) (g v : Bool), oi.guard = some (jj, g) → dstOf _ jj = some d → valrput2z s0 pb jj = .bool v → ⟨jj, .guard⟩ ∈ oi.after → Region.wanted oi (yielded _ b.tmps) = (v == g) := fun jj d g v h1 h2 h3 h4 => wanted_of h h1 h2 (hall _ h4 rfl) h3
    rcases (by omega : io = 0 ∨ io = 1 ∨ io = 2 ∨ io = 3 ∨ io = 4 ∨ io = 5 ∨ io = 6 ∨ io = 7 ∨ io = 8 ∨ io = 9 ∨ io = 10) with rfl | rfl | rfl | rfl | rfl | rfl | rfl | rfl | rfl | rfl | rfl
    all_goals simp only [List.getElem?_toArray, List.getElem?_cons_zero, List.getElem?_cons_succ] at ho
    all_goals cases ho
    · rw [if_pos (U0 _ rfl)]
      exact wide_val (v := .int .i64 0) (by clear E U U0; go_simp; try rfl) ⟨rfl, h.glob⟩
    · rw [if_pos (U0 _ rfl)]
      have e0 := E 0 9 (.int .i64 0) rfl rfl (hall ⟨0, .data⟩ (by simp) rfl)
      exact wide_val (v := .bool false) (by clear E U U0; go_simp; try rfl) ⟨rfl, h.glob⟩
    · rw [if_pos (U0 _ rfl)]
      have e1 := E 1 10 (.bool false) rfl rfl (hall ⟨1, .data⟩ (by simp) rfl)
      exact wide_val (v := .bool false) (by clear E U U0; go_simp; try rfl) ⟨rfl, h.glob⟩
    · rw [U 2 11 true false rfl rfl rfl (by simp)]; exact rfl
    · rw [U 2 11 true false rfl rfl rfl (by simp)]; exact rfl
    · rw [U 2 11 true false rfl rfl rfl (by simp)]; exact rfl
    · rw [U 2 11 true false rfl rfl rfl (by simp)]; exact rfl
    · rw [U 2 11 true false rfl rfl rfl (by simp)]; exact rfl
    · rw [U 2 11 true false rfl rfl rfl (by simp)]; exact rfl
    · rw [U 2 11 true false rfl rfl rfl (by simp)]; exact rfl
    · rw [if_pos (U0 _ rfl)]
      have e2 := E 2 11 (.bool false) rfl rfl (hall ⟨2, .data⟩ (by simp) rfl)
      have e9 := E 9 18 (undef) rfl rfl (hall ⟨9, .data⟩ (by simp) rfl)
      exact wide_val (v := .bool false) (by clear E U U0; go_simp; try rfl) ⟨rfl, h.glob⟩
  · intro W hg
    have := hQ W hg
    simp only [List.size_toArray, bareL, bare, List.map_cons, List.map_nil, List.length_cons, List.length_nil, Nat.reduceAdd, framed, dstOf, List.getElem?_toArray, List.getElem?_cons_zero, List.getElem?_cons_succ, Option.bind_some, valrput2z]
    exact this
def coderput2s : Option Code → Code
  | some (.seq _ (.seq _ (.seq (.block _ (.loop (.seq (.seq c _) _))) _))) => c
  | _ => .skip
def valrput2s (bq off n c _ k j : Nat) (p y : Place) (r : Bool) : Nat → Value
  | 0 => .int .i64 k
  | 1 => .bool true
  | 2 => .bool true
  | 3 => .agg #[.int .i64 p.pit, .int .i64 p.layer]
  | 4 => .slice (some ⟨bq, off, none⟩) n c
  | 5 => .int .i64 k
  | 6 => .int .i64 j
  | 7 => .pointer (some ⟨bq, off + j * 2, none⟩)
  | 8 => .agg #[.int .i64 y.pit, .int .i64 y.layer]
  | 9 => .bool (r)
  | 10 => .bool (r)
  | _ => undef
set_option maxRecDepth 100000 in
set_option maxHeartbeats 4000000 in
theorem rput2s (cC : Code) (hc : cC = coderput2s Tryz.f129.body) (bq off n c pb k j : Nat) (p y : Place) (r : Bool) (a : Act) (w : World) (Q : Exit → Act → World → Prop)
    (hT : a.tmps.size = 48) (t0 : a.tmps.getD 0 undef = .slice (some ⟨bq, off, none⟩) n c) (t3 : a.tmps.getD 3 undef = .pointer (some ⟨pb, 0, none⟩)) (t5 : a.tmps.getD 5 undef = .int .i64 k)
    (PE : ∀ W, Below w.heap.size w W → W.cell? ⟨pb, 0, none⟩ = some (.int .i64 p.pit) ∧ W.cell? ⟨pb, 1, none⟩ = some (.int .i64 p.layer)) (YE : ∀ W, Below w.heap.size w W → W.cell? ⟨bq, off + j * 2, none⟩ = some (.int .i64 y.pit) ∧ W.cell? ⟨bq, off + j * 2 + 1, none⟩ = some (.int .i64 y.layer)) (hkj : k = j + 1) (hj : j < n) (hn : n ≤ 1000000) (hr : lessPl p y = r)
    (hQ : ∀ W, (fun W => Below w.heap.size w W) W → Q .normal { tmps := (((((((((((a.tmps.setIfInBounds 9 (.int .i64 k)).setIfInBounds 10 (.bool true)).setIfInBounds 11 (.bool true)).setIfInBounds 12 (.agg #[.int .i64 p.pit, .int .i64 p.layer])).setIfInBounds 13 (.slice (some ⟨bq, off, none⟩) n c)).setIfInBounds 14 (.int .i64 k)).setIfInBounds 15 (.int .i64 j)).setIfInBounds 16 (.pointer (some ⟨bq, off + j * 2, none⟩))).setIfInBounds 17 (.agg #[.int .i64 y.pit, .int .i64 y.layer])).setIfInBounds 18 (.bool (r))).setIfInBounds 19 (.bool (r))), defers := a.defers } W) :
    cC.wp Tryz.prog Q a w := by
  subst hc
  unfold coderput2s Tryz.f129
  dsimp only
  refine wpIn_wide.1 (wpIn_region_vals (nn := 5) 48 (by kernel_rfl) (by kernel_rfl) hT.symm (valrput2s bq off n c pb k j p y r) (fun W => Below w.heap.size w W) ((Below.refl _ _).drew) ?_ ?_)
  · intro listed io o b W hi ho h
    have HKJ := Lib.hid hkj
    clear hkj
    obtain ⟨p0, p1⟩ := PE W h.glob
    obtain ⟨y0, y1⟩ := YE W h.glob
    clear hQ
    obtain ⟨hun, oi, hoi, hall⟩ := mem_ready.1 hi
    have : oi = o := Option.some.inj (hoi.symm.trans ho)
    subst this
    clear hoi hi
    have hlt : io < 11 := (by have := (Array.getElem?_eq_some_iff.1 ho).1; simpa using this)
    have hun' : listed.getD io false = false := getD_both hun
    have q0 : b.tmps[0]?.getD undef = _ := (by simpa using (h.tab.old 0 (dst_no h.tab (by kernel_rfl))).trans t0)
    have q3 : b.tmps[3]?.getD undef = _ := (by simpa using (h.tab.old 3 (dst_no h.tab (by kernel_rfl))).trans t3)
    have q5 : b.tmps[5]?.getD undef = _ := (by simpa using (h.tab.old 5 (dst_no h.tab (by kernel_rfl))).trans t5)
    have E : ∀ (jj s : Nat) (v : Value), dstOf _ jj = some s → valrput2s bq off n c pb k j p y r jj = v → listed.getD jj false = true → b.tmps[s]?.getD undef = v := fun jj s v h1 h2 h3 => by rw [← h2]; simpa using h.val jj s h1 h3
    have U0 : ∀ y, oi.guard = none → Region.wanted oi y = true := fun y h => by simp [Region.wanted, h]
    have U : ∀ (jj d : Nat) (g v : Bool), oi.guard = some (jj, g) → dstOf _ jj = some d → valrput2s bq off n c pb k j p y r jj = .bool v → ⟨jj, .guard⟩ ∈ oi.after → Region.wanted oi (yielded _ b.tmps) = (v == g) := fun jj d g v h1 h2 h3 h4 => wanted_of h h1 h2 (hall _ h4 rfl) h3
    rcases (by omega : io = 0 ∨ io = 1 ∨ io = 2 ∨ io = 3 ∨ io = 4 ∨ io = 5 ∨ io = 6 ∨ io = 7 ∨ io = 8 ∨ io = 9 ∨ io = 10) with rfl | rfl | rfl | rfl | rfl | rfl | rfl | rfl | rfl | rfl | rfl
    all_goals simp only [List.getElem?_toArray, List.getElem?_cons_zero, List.getElem?_cons_succ] at ho
    all_goals cases ho
    · rw [if_pos (U0 _ rfl)]
      exact wide_val (v := .int .i64 k) (by clear E U U0; go_simp; try rfl) ⟨rfl, h.glob⟩
    · rw [if_pos (U0 _ rfl)]
      have e0 := E 0 9 (.int .i64 k) rfl rfl (hall ⟨0, .data⟩ (by simp) rfl)
      have hk0 : (0 : Int) < (k : Int) := (by have := HKJ.out; omega)
      exact wide_val (v := .bool true) (by clear E U U0; go_simp; omega) ⟨rfl, h.glob⟩
    · rw [if_pos (U0 _ rfl)]
      have e1 := E 1 10 (.bool true) rfl rfl (hall ⟨1, .data⟩ (by simp) rfl)
      exact wide_val (v := .bool true) (by clear E U U0; go_simp; try rfl) ⟨rfl, h.glob⟩
    · rw [U 2 11 true true rfl rfl rfl (by simp), if_pos (show (true == true) = true from rfl)]
      exact wide_val (v := .agg #[.int .i64 p.pit, .int .i64 p.layer]) (by clear E U U0; go_simp; try rfl) ⟨rfl, h.glob⟩
    · rw [U 2 11 true true rfl rfl rfl (by simp), if_pos (show (true == true) = true from rfl)]
      exact wide_val (v := .slice (some ⟨bq, off, none⟩) n c) (by clear E U U0; go_simp; try rfl) ⟨rfl, h.glob⟩
    · rw [U 2 11 true true rfl rfl rfl (by simp), if_pos (show (true == true) = true from rfl)]
      exact wide_val (v := .int .i64 k) (by clear E U U0; go_simp; try rfl) ⟨rfl, h.glob⟩
    · rw [U 2 11 true true rfl rfl rfl (by simp), if_pos (show (true == true) = true from rfl)]
      have e5 := E 5 14 (.int .i64 k) rfl rfl (hall ⟨5, .data⟩ (by simp) rfl)
      have hw : IntKind.i64.wrap ((k : Int) - 1) = (j : Int) := (by have := HKJ.out; rw [IntKind.wrap_i64]; omega)
      exact wide_val (v := .int .i64 j) (by clear E U U0; go_simp; try simp [hw]) ⟨rfl, h.glob⟩
    · rw [U 2 11 true true rfl rfl rfl (by simp), if_pos (show (true == true) = true from rfl)]
      have e4 := E 4 13 (.slice (some ⟨bq, off, none⟩) n c) rfl rfl (hall ⟨4, .data⟩ (by simp) rfl)
      have e6 := E 6 15 (.int .i64 j) rfl rfl (hall ⟨6, .data⟩ (by simp) rfl)
      exact wide_val (v := .pointer (some ⟨bq, off + j * 2, none⟩)) (by clear E U U0; go_simp; try rfl) ⟨rfl, h.glob⟩
    · rw [U 2 11 true true rfl rfl rfl (by simp), if_pos (show (true == true) = true from rfl)]
      have e7 := E 7 16 (.pointer (some ⟨bq, off + j * 2, none⟩)) rfl rfl (hall ⟨7, .data⟩ (by simp) rfl)
      exact wide_val (v := .agg #[.int .i64 y.pit, .int .i64 y.layer]) (by clear E U U0; go_simp; try rfl) ⟨rfl, h.glob⟩
    · rw [U 2 11 true true rfl rfl rfl (by simp), if_pos (show (true == true) = true from rfl)]
      have e3 := E 3 12 (.agg #[.int .i64 p.pit, .int .i64 p.layer]) rfl rfl (hall ⟨3, .data⟩ (by simp) rfl)
      have e8 := E 8 17 (.agg #[.int .i64 y.pit, .int .i64 y.layer]) rfl rfl (hall ⟨8, .data⟩ (by simp) rfl)
      clear E U U0
      refine wide_call (f := 142) (args := #[.agg #[.int .i64 p.pit, .int .i64 p.layer], .agg #[.int .i64 y.pit, .int .i64 y.layer]]) (by go_simp <;> (try exact ⟨by simpa [Act.eval] using e3, by simpa [Act.eval] using e8⟩)) ((rLess_any _ _ _ _ W).mono ?_)
      rintro e w' ⟨rfl, hb'⟩
      rw [show lessPl ⟨p.pit, p.layer⟩ ⟨y.pit, y.layer⟩ = r from hr]
      exact ⟨_, rfl, rfl, h.glob.trans (hb'.mono h.glob.size)⟩
    · rw [if_pos (U0 _ rfl)]
      have e2 := E 2 11 (.bool true) rfl rfl (hall ⟨2, .data⟩ (by simp) rfl)
      have e9 := E 9 18 (.bool (r)) rfl rfl (hall ⟨9, .data⟩ (by simp) rfl)
      exact wide_val (v := .bool (r)) (by clear E U U0; go_simp; try rfl) ⟨rfl, h.glob⟩
  · intro W hg
    have := hQ W hg
    simp only [List.size_toArray, bareL, bare, List.map_cons, List.map_nil, List.length_cons, List.length_nil, Nat.reduceAdd, framed, dstOf, List.getElem?_toArray, List.getElem?_cons_zero, List.getElem?_cons_succ, Option.bind_some, valrput2s]
    exact this
def coderput4z : Option Code → Code
  | some (.seq _ (.seq _ (.seq _ (.seq (.seq c _) _)))) => c
  | _ => .skip
def valrput4z (_ : Value) (_ : Nat) : Nat → Value
  | 0 => .int .i64 0
  | 1 => .bool false
  | 2 => .bool false
  | 10 => .bool false
  | _ => undef
set_option maxRecDepth 100000 in
set_option maxHeartbeats 4000000 in
theorem rput4z (cC : Code) (hc : cC = coderput4z Tryz.f129.body) (s0 : Value) (pb : Nat) (a : Act) (w : World) (Q : Exit → Act → World → Prop)
    (hT : a.tmps.size = 48) (t0 : a.tmps.getD 0 undef = s0) (t3 : a.tmps.getD 3 undef = .pointer (some ⟨pb, 0, none⟩)) (t5 : a.tmps.getD 5 undef = .int .i64 0)
    
    (hQ : ∀ W, (fun W => Below w.heap.size w W) W → Q .normal { tmps := (((((((((((a.tmps.setIfInBounds 22 (.int .i64 0)).setIfInBounds 23 (.bool false)).setIfInBounds 24 (.bool false)).setIfInBounds 25 (undef)).setIfInBounds 26 (undef)).setIfInBounds 27 (undef)).setIfInBounds 28 (undef)).setIfInBounds 29 (undef)).setIfInBounds 30 (undef)).setIfInBounds 31 (undef)).setIfInBounds 32 (.bool false)), defers := a.defers } W) :
    cC.wp Tryz.prog Q a w := by
  subst hc
  unfold coderput4z Tryz.f129
  dsimp only
  refine wpIn_wide.1 (wpIn_region_vals (nn := 5) 48 (by kernel_rfl) (by kernel_rfl) hT.symm (valrput4z s0 pb) (fun W => Below w.heap.size w W) ((Below.refl _ _).drew) ?_ ?_)
  · intro listed io o b W hi ho h
    clear hQ
    obtain ⟨hun, oi, hoi, hall⟩ := mem_ready.1 hi
    have : oi = o := Option.some.inj (hoi.symm.trans ho)
    subst this
    clear hoi hi
    have hlt : io < 11 := (by have := (Array.getElem?_eq_some_iff.1 ho).1; simpa using this)
    have hun' : listed.getD io false = false := getD_both hun
    have q0 : b.tmps[0]?.getD undef = _ := (by simpa using (h.tab.old 0 (dst_no h.tab (by kernel_rfl))).trans t0)
    have q3 : b.tmps[3]?.getD undef = _ := (by simpa using (h.tab.old 3 (dst_no h.tab (by kernel_rfl))).trans t3)
    have q5 : b.tmps[5]?.getD undef = _ := (by simpa using (h.tab.old 5 (dst_no h.tab (by kernel_rfl))).trans t5)
    have E : ∀ (jj s : Nat) (v : Value), dstOf _ jj = some s → valrput4z s0 pb jj = v → listed.getD jj false = true → b.tmps[s]?.getD undef = v := fun jj s v h1 h2 h3 => by rw [← h2]; simpa using h.val jj s h1 h3
    have U0 : ∀ y, oi.guard = none → Region.wanted oi y = true := fun y h => by simp [Region.wanted, h]
    have U : ∀ (jj d : Nat) (g v : Bool), oi.guard = some (jj, g) → dstOf _ jj = some d → valrput4z s0 pb jj = .bool v → ⟨jj, .guard⟩ ∈ oi.after → Region.wanted oi (yielded _ b.tmps) = (v == g) := fun jj d g v h1 h2 h3 h4 => wanted_of h h1 h2 (hall _ h4 rfl) h3
    rcases (by omega : io = 0 ∨ io = 1 ∨ io = 2 ∨ io = 3 ∨ io = 4 ∨ io = 5 ∨ io = 6 ∨ io = 7 ∨ io = 8 ∨ io = 9 ∨ io = 10) with rfl | rfl | rfl | rfl | rfl | rfl | rfl | rfl | rfl | rfl | rfl
    all_goals simp only [List.getElem?_toArray, List.getElem?_cons_zero, List.getElem?_cons_succ] at ho
    all_goals cases ho
    · rw [if_pos (U0 _ rfl)]
      exact wide_val (v := .int .i64 0) (by clear E U U0; go_simp; try rfl) ⟨rfl, h.glob⟩
    · rw [if_pos (U0 _ rfl)]
      have e0 := E 0 22 (.int .i64 0) rfl rfl (hall ⟨0, .data⟩ (by simp) rfl)
      exact wide_val (v := .bool false) (by clear E U U0; go_simp; try rfl) ⟨rfl, h.glob⟩
    · rw [if_pos (U0 _ rfl)]
      have e1 := E 1 23 (.bool false) rfl rfl (hall ⟨1, .data⟩ (by simp) rfl)
      exact wide_val (v := .bool false) (by clear E U U0; go_simp; try rfl) ⟨rfl, h.glob⟩
    · rw [U 2 24 true false rfl rfl rfl (by simp)]; exact rfl
    · rw [U 2 24 true false rfl rfl rfl (by simp)]; exact rfl
    · rw [U 2 24 true false rfl rfl rfl (by simp)]; exact rfl
    · rw [U 2 24 true false rfl rfl rfl (by simp)]; exact rfl
    · rw [U 2 24 true false rfl rfl rfl (by simp)]; exact rfl
    · rw [U 2 24 true false rfl rfl rfl (by simp)]; exact rfl
    · rw [U 2 24 true false rfl rfl rfl (by simp)]; exact rfl
    · rw [if_pos (U0 _ rfl)]
      have e2 := E 2 24 (.bool false) rfl rfl (hall ⟨2, .data⟩ (by simp) rfl)
      have e9 := E 9 31 (undef) rfl rfl (hall ⟨9, .data⟩ (by simp) rfl)
      exact wide_val (v := .bool false) (by clear E U U0; go_simp; try rfl) ⟨rfl, h.glob⟩
  · intro W hg
    have := hQ W hg
    simp only [List.size_toArray, bareL, bare, List.map_cons, List.map_nil, List.length_cons, List.length_nil, Nat.reduceAdd, framed, dstOf, List.getElem?_toArray, List.getElem?_cons_zero, List.getElem?_cons_succ, Option.bind_some, valrput4z]
    exact this
def coderput4s : Option Code → Code
  | some (.seq _ (.seq _ (.seq _ (.seq (.seq c _) _)))) => c
  | _ => .skip
def valrput4s (bq off n c _ k j : Nat) (p y : Place) (r : Bool) : Nat → Value
  | 0 => .int .i64 k
  | 1 => .bool true
  | 2 => .bool true
  | 3 => .slice (some ⟨bq, off, none⟩) n c
  | 4 => .int .i64 k
  | 5 => .int .i64 j
  | 6 => .pointer (some ⟨bq, off + j * 2, none⟩)
  | 7 => .agg #[.int .i64 y.pit, .int .i64 y.layer]
  | 8 => .agg #[.int .i64 p.pit, .int .i64 p.layer]
  | 9 => .bool (r)
  | 10 => .bool (r)
  | _ => undef
set_option maxRecDepth 100000 in
set_option maxHeartbeats 4000000 in
theorem rput4s (cC : Code) (hc : cC = coderput4s Tryz.f129.body) (bq off n c pb k j : Nat) (p y : Place) (r : Bool) (a : Act) (w : World) (Q : Exit → Act → World → Prop)
    (hT : a.tmps.size = 48) (t0 : a.tmps.getD 0 undef = .slice (some ⟨bq, off, none⟩) n c) (t3 : a.tmps.getD 3 undef = .pointer (some ⟨pb, 0, none⟩)) (t5 : a.tmps.getD 5 undef = .int .i64 k)
    (PE : ∀ W, Below w.heap.size w W → W.cell? ⟨pb, 0, none⟩ = some (.int .i64 p.pit) ∧ W.cell? ⟨pb, 1, none⟩ = some (.int .i64 p.layer)) (YE : ∀ W, Below w.heap.size w W → W.cell? ⟨bq, off + j * 2, none⟩ = some (.int .i64 y.pit) ∧ W.cell? ⟨bq, off + j * 2 + 1, none⟩ = some (.int .i64 y.layer)) (hkj : k = j + 1) (hj : j < n) (hn : n ≤ 1000000) (hr : eqPlace y p = r)
    (hQ : ∀ W, (fun W => Below w.heap.size w W) W → Q .normal { tmps := (((((((((((a.tmps.setIfInBounds 22 (.int .i64 k)).setIfInBounds 23 (.bool true)).setIfInBounds 24 (.bool true)).setIfInBounds 25 (.slice (some ⟨bq, off, none⟩) n c)).setIfInBounds 26 (.int .i64 k)).setIfInBounds 27 (.int .i64 j)).setIfInBounds 28 (.pointer (some ⟨bq, off + j * 2, none⟩))).setIfInBounds 29 (.agg #[.int .i64 y.pit, .int .i64 y.layer])).setIfInBounds 30 (.agg #[.int .i64 p.pit, .int .i64 p.layer])).setIfInBounds 31 (.bool (r))).setIfInBounds 32 (.bool (r))), defers := a.defers } W) :
    cC.wp Tryz.prog Q a w := by
  subst hc
  unfold coderput4s Tryz.f129
  dsimp only
  refine wpIn_wide.1 (wpIn_region_vals (nn := 5) 48 (by kernel_rfl) (by kernel_rfl) hT.symm (valrput4s bq off n c pb k j p y r) (fun W => Below w.heap.size w W) ((Below.refl _ _).drew) ?_ ?_)
  · intro listed io o b W hi ho h
    have HKJ := Lib.hid hkj
    clear hkj
    obtain ⟨p0, p1⟩ := PE W h.glob
    obtain ⟨y0, y1⟩ := YE W h.glob
    clear hQ
    obtain ⟨hun, oi, hoi, hall⟩ := mem_ready.1 hi
    have : oi = o := Option.some.inj (hoi.symm.trans ho)
    subst this
    clear hoi hi
    have hlt : io < 11 := (by have := (Array.getElem?_eq_some_iff.1 ho).1; simpa using this)
    have hun' : listed.getD io false = false := getD_both hun
    have q0 : b.tmps[0]?.getD undef = _ := (by simpa using (h.tab.old 0 (dst_no h.tab (by kernel_rfl))).trans t0)
    have q3 : b.tmps[3]?.getD undef = _ := (by simpa using (h.tab.old 3 (dst_no h.tab (by kernel_rfl))).trans t3)
    have q5 : b.tmps[5]?.getD undef = _ := (by simpa using (h.tab.old 5 (dst_no h.tab (by kernel_rfl))).trans t5)
    have E : ∀ (jj s : Nat) (v : Value), dstOf _ jj = some s → valrput4s bq off n c pb k j p y r jj = v → listed.getD jj false = true → b.tmps[s]?.getD undef = v := fun jj s v h1 h2 h3 => by rw [← h2]; simpa using h.val jj s h1 h3
    have U0 : ∀ y, oi.guard = none → Region.wanted oi y = true := fun y h => by simp [Region.wanted, h]
    have U : ∀ (jj d : Nat) (g v : Bool), oi.guard = some (jj, g) → dstOf _ jj = some d → valrput4s bq off n c pb k j p y r jj = .bool v → ⟨jj, .guard⟩ ∈ oi.after → Region.wanted oi (yielded _ b.tmps) = (v == g) := fun jj d g v h1 h2 h3 h4 => wanted_of h h1 h2 (hall _ h4 rfl) h3
    rcases (by omega : io = 0 ∨ io = 1 ∨ io = 2 ∨ io = 3 ∨ io = 4 ∨ io = 5 ∨ io = 6 ∨ io = 7 ∨ io = 8 ∨ io = 9 ∨ io = 10) with rfl | rfl | rfl | rfl | rfl | rfl | rfl | rfl | rfl | rfl | rfl
    all_goals simp only [List.getElem?_toArray, List.getElem?_cons_zero, List.getElem?_cons_succ] at ho
    all_goals cases ho
    · rw [if_pos (U0 _ rfl)]
      exact wide_val (v := .int .i64 k) (by clear E U U0; go_simp; try rfl) ⟨rfl, h.glob⟩
    · rw [if_pos (U0 _ rfl)]
      have e0 := E 0 22 (.int .i64 k) rfl rfl (hall ⟨0, .data⟩ (by simp) rfl)
      have hk0 : (0 : Int) < (k : Int) := (by have := HKJ.out; omega)
      exact wide_val (v := .bool true) (by clear E U U0; go_simp; omega) ⟨rfl, h.glob⟩
    · rw [if_pos (U0 _ rfl)]
      have e1 := E 1 23 (.bool true) rfl rfl (hall ⟨1, .data⟩ (by simp) rfl)
      exact wide_val (v := .bool true) (by clear E U U0; go_simp; try rfl) ⟨rfl, h.glob⟩
    · rw [U 2 24 true true rfl rfl rfl (by simp), if_pos (show (true == true) = true from rfl)]
      exact wide_val (v := .slice (some ⟨bq, off, none⟩) n c) (by clear E U U0; go_simp; try rfl) ⟨rfl, h.glob⟩
    · rw [U 2 24 true true rfl rfl rfl (by simp), if_pos (show (true == true) = true from rfl)]
      exact wide_val (v := .int .i64 k) (by clear E U U0; go_simp; try rfl) ⟨rfl, h.glob⟩
    · rw [U 2 24 true true rfl rfl rfl (by simp), if_pos (show (true == true) = true from rfl)]
      have e4 := E 4 26 (.int .i64 k) rfl rfl (hall ⟨4, .data⟩ (by simp) rfl)
      have hw : IntKind.i64.wrap ((k : Int) - 1) = (j : Int) := (by have := HKJ.out; rw [IntKind.wrap_i64]; omega)
      exact wide_val (v := .int .i64 j) (by clear E U U0; go_simp; try simp [hw]) ⟨rfl, h.glob⟩
    · rw [U 2 24 true true rfl rfl rfl (by simp), if_pos (show (true == true) = true from rfl)]
      have e3 := E 3 25 (.slice (some ⟨bq, off, none⟩) n c) rfl rfl (hall ⟨3, .data⟩ (by simp) rfl)
      have e5 := E 5 27 (.int .i64 j) rfl rfl (hall ⟨5, .data⟩ (by simp) rfl)
      exact wide_val (v := .pointer (some ⟨bq, off + j * 2, none⟩)) (by clear E U U0; go_simp; try rfl) ⟨rfl, h.glob⟩
    · rw [U 2 24 true true rfl rfl rfl (by simp), if_pos (show (true == true) = true from rfl)]
      have e6 := E 6 28 (.pointer (some ⟨bq, off + j * 2, none⟩)) rfl rfl (hall ⟨6, .data⟩ (by simp) rfl)
      exact wide_val (v := .agg #[.int .i64 y.pit, .int .i64 y.layer]) (by clear E U U0; go_simp; try rfl) ⟨rfl, h.glob⟩
    · rw [U 2 24 true true rfl rfl rfl (by simp), if_pos (show (true == true) = true from rfl)]
      exact wide_val (v := .agg #[.int .i64 p.pit, .int .i64 p.layer]) (by clear E U U0; go_simp; try rfl) ⟨rfl, h.glob⟩
    · rw [U 2 24 true true rfl rfl rfl (by simp), if_pos (show (true == true) = true from rfl)]
      have e7 := E 7 29 (.agg #[.int .i64 y.pit, .int .i64 y.layer]) rfl rfl (hall ⟨7, .data⟩ (by simp) rfl)
      have e8 := E 8 30 (.agg #[.int .i64 p.pit, .int .i64 p.layer]) rfl rfl (hall ⟨8, .data⟩ (by simp) rfl)
      clear E U U0
      refine wide_val (v := .bool r) (by go_simp <;> (try exact congrArg Value.bool hr)) ⟨rfl, h.glob⟩
    · rw [if_pos (U0 _ rfl)]
      have e2 := E 2 24 (.bool true) rfl rfl (hall ⟨2, .data⟩ (by simp) rfl)
      have e9 := E 9 31 (.bool (r)) rfl rfl (hall ⟨9, .data⟩ (by simp) rfl)
      exact wide_val (v := .bool (r)) (by clear E U U0; go_simp; try rfl) ⟨rfl, h.glob⟩
  · intro W hg
    have := hQ W hg
    simp only [List.size_toArray, bareL, bare, List.map_cons, List.map_nil, List.length_cons, List.length_nil, Nat.reduceAdd, framed, dstOf, List.getElem?_toArray, List.getElem?_cons_zero, List.getElem?_cons_succ, Option.bind_some, valrput4s]
    exact this
end Go.Proofs.YtelnkflmnbhclaaGreat
end

/- What is proved: the contracts of the reference's less and put: a place put into an ascending list. Conditions: at most 1000000 places. -/
section
namespace Go.Proofs.YtelnkflmnbhclaaGreat
open Go.RowKit Go.Proofs Go.Shelf

section
variable {P : Program} {α : Type} {enc : α → List Value} {k bytes n c B : Nat} {t e : TypeId} {w : World} {A : Option Addr} {xs : List α}
/-- 'append', the sum and the list under names of one's own -/
theorem wpList_append_to {ops : Array Oper} {rest : List Oper} {o : Oper} {a : Act} {Q : Exit → Act → World → Prop} (E : ElemT P t e k bytes) (hk : ∀ x, (enc x).length = k) (h1 : ∀ x, ∀ u ∈ enc x, u.oneCell' = true) (hgd : o.guard = none) (s x : Operand)
    (ho : o.op = .call { callee := .builtin .append, args := #[s, x], argTypes := #[t, t] }) (A2 : Option Addr) (m c2 : Nat) (ys : List α) (hs : a.eval s = .slice A n c) (hx : a.eval x = .slice A2 m c2)
    (hown : Own enc k e B w A n c xs) (hrd : Rd enc k w A2 m c2 ys) (hbytes : (n + m) * bytes ≤ 140737488355328) (hb8 : 1 ≤ bytes) (hbase : B ≤ w.heap.size) (N : Nat) (hN : n + m = N) (zs : List α) (hz : xs ++ ys = zs)
    (h : ∀ A' c' w', Own enc k e B w' A' N c' zs → w.grownBy w' (blockOf A) → (blockOf A' = blockOf A ∨ blockOf A' = some w.heap.size) → wpList P ops Q rest (a.put o.dst (.slice A' N c')) w') : wpList P ops Q (o :: rest) a w := by
  subst hN
  subst hz
  exact wpList_append_src E hk h1 hgd s x ho A2 m c2 ys hs hx hown hrd hbytes hb8 hbase h
end

theorem putPl_len (l : List Place) (p : Place) : (putPl l p).length ≤ l.length + 1 := by
  unfold putPl
  split
  · omega
  · simp; omega
theorem putPl_there {l : List Place} {p : Place} {k : Nat} (h : putAt l p l.length = k) (h0 : 0 < k) (he : l.getD (k - 1) z00 = p) : putPl l p = l := by
  unfold putPl
  rw [h, if_pos ⟨h0, he⟩]
theorem putPl_new {l : List Place} {p : Place} {k : Nat} (h : putAt l p l.length = k) (hn : ¬ (0 < k ∧ l.getD (k - 1) z00 = p)) : putPl l p = l.take k ++ [p] ++ l.drop k := by
  unfold putPl
  rw [h, if_neg hn]; simp
set_option maxHeartbeats 4000000 in
set_option maxRecDepth 100000 in
theorem rPut_any (A : Option Addr) (n c : Nat) (l : List Place) (p : Place) (w : World) (hl : Rd encPlace 2 w A n c l) (hsm : n ≤ 1000000) :
    Calls Tryz.prog 129 #[.slice A n c, .agg #[.int .i64 p.pit, .int .i64 p.layer]] w fun e w' => ∃ A' c', e = .returned (.slice A' (putPl l p).length c') ∧ Rd encPlace 2 w' A' (putPl l p).length c' (putPl l p) ∧ Below w.heap.size w w' := by
  obtain ⟨w1, hw1⟩ : ∃ w1, w.alloc (.cells #[.int .i64 p.pit, .int .i64 p.layer] 37) = w1 := ⟨_, rfl⟩
  have hb1 : Below w.heap.size w w1 := (by rw [← hw1]; exact (Below.refl _ w).alloc (Nat.le_refl _) _)
  have hz1 : w1.heap.size = w.heap.size + 1 := (by rw [← hw1]; simp)
  have hr1 : w1.heap[w.heap.size]? = some (.cells #[.int .i64 p.pit, .int .i64 p.layer] 37 (0, 0)) := (by rw [← hw1]; exact heap_alloc_new w _)
  have CELLS : Hid (∀ W : World, Below w1.heap.size w1 W → W.cell? ⟨w.heap.size, 0, none⟩ = some (.int .i64 p.pit) ∧ W.cell? ⟨w.heap.size, 1, none⟩ = some (.int .i64 p.layer)) := (show ∀ W : World, Below w1.heap.size w1 W → W.cell? ⟨w.heap.size, 0, none⟩ = some (.int .i64 p.pit) ∧ W.cell? ⟨w.heap.size, 1, none⟩ = some (.int .i64 p.layer) from fun W hb => by
    have := (hb.block _ (by omega)).trans hr1
    simp [World.cell?, this])
  have HL := Lib.hid (hl.below hb1 (Nat.le_refl _))
  have hnl := Lib.hid hl.len
  have hcap := hl.cap
  clear hl hr1
  go_enter Tryz.func129, Tryz.ntmps129
  go_wp2_with (fail)
  go_loopw [5] (fun s5 wr => ∃ k : Nat, k ≤ n ∧ s5 = .int .i64 k ∧ Hid (Below w1.heap.size w1 wr) ∧ Hid (putAt l p n = putAt l p k)) (fun s5 _ => (intOf s5).toNat)
  case atStart => exact ⟨n, Nat.le_refl _, rfl, (show Below _ _ _ from Below.refl _ _), (show _ = _ from rfl)⟩
  case round =>
    rename World => wo
    obtain ⟨k, hk, rfl, hb, hat⟩ := hrel
    have hzr := hb.out.size
    obtain ⟨p0, p1⟩ := CELLS.out wo hb.out
    have hxlt : w.heap.size < wo.heap.size := (by omega)
    have PE : Hid (∀ W, Below wo.heap.size wo W → W.cell? ⟨w.heap.size, 0, none⟩ = some (.int .i64 p.pit) ∧ W.cell? ⟨w.heap.size, 1, none⟩ = some (.int .i64 p.layer)) := (show ∀ W, Below wo.heap.size wo W → W.cell? ⟨w.heap.size, 0, none⟩ = some (.int .i64 p.pit) ∧ W.cell? ⟨w.heap.size, 1, none⟩ = some (.int .i64 p.layer) from fun W h => CELLS.out W (hb.out.trans (h.mono hzr)))
    rcases Nat.eq_zero_or_pos k with h0 | h0
    · subst h0
      go_upto_region 2 with (fail)
      refine rput2z _ rfl _ w.heap.size _ wo _ rfl rfl rfl rfl ?_
      intro w2 hb2
      have HB2 := Lib.hid (hb.out.trans (hb2.mono hzr))
      clear hb2
      simp only [List.setIfInBounds_toArray, List.set_cons_succ, List.set_cons_zero]
      go_upto_region 4 with (fail)
      refine rput4z _ rfl _ w.heap.size _ w2 _ rfl rfl rfl rfl ?_
      intro w4 hb4
      have HB4 := Lib.hid (HB2.out.trans (hb4.mono HB2.out.size))
      clear hb4
      simp only [List.setIfInBounds_toArray, List.set_cons_succ, List.set_cons_zero]
      have hatk : Hid (putAt l p l.length = 0) := (show _ = _ by have h1 := hat.out; rw [hnl.out, h1]; rfl)
      have hpn : Hid (putPl l p = l.take 0 ++ [p] ++ l.drop 0) := (show _ = _ from putPl_new hatk.out (by simp))
      rcases A with _ | a
      · have hn0 : n = 0 := (by
          rcases Nat.eq_zero_or_pos n with h | h
          · exact h
          · obtain ⟨b, off, e, _⟩ := HL.out.at_ h
            cases e)
        subst hn0
        have hs4 := HB4.out.size
        have F0 := Own.fresh0 encPlace 2 37 w4
        have R1 := ((HL.out.below HB4.out (Nat.le_refl _)).take (m := 0) (c' := c) (by omega) ⟨by omega, Nat.le_refl _⟩).alloc (.cells #[] 37)
        have RL := Lib.hid (HL.out.below HB4.out (Nat.le_refl _))
        obtain ⟨q0, q1⟩ := CELLS.out w4 HB4.out
        have hkc : 0 ≤ c := (by omega)
        have hkc2 : ((0 : Nat) : Int) ≤ ((c : Nat) : Int) := (by omega)
        have hkn2 : ((0 : Nat) : Int) ≤ ((0 : Nat) : Int) := (by omega)
        go_wp2_with (first
          | (at_builtin; refine wpList_append_to elPlace (fun _ => rfl) onePlace rfl _ _ rfl _ _ _ _ rfl rfl F0 R1 (by omega) (by decide) (by simp) 0 (by omega) (l.take 0) (by simp) ?_; intro A2 c2 w5 hO5 hg5 hA5
             have HB5 := Lib.hid ((HB4.out.alloc hs4 (.cells #[] 37)).grown hg5 (by simp; omega) (fun j e => Nat.le_trans hs4 (F0.ltB j e)))
             have hs5 := HB5.out.size
             have hs45 : w4.heap.size ≤ w5.heap.size := (by have := hg5.size; simp at this; omega)
             have HG5 := Lib.hid ((Below.refl w4.heap.size w4).alloc (Nat.le_refl _) (.cells #[] 37) |>.grown hg5 (by simp) (fun j e => F0.ltB j e))
             obtain ⟨s0, s1⟩ := CELLS.out w5 HB5.out
             have F5 := hO5.alloc (.cells #[.int .i64 p.pit, .int .i64 p.layer] 37)
             have R5 := Rd.single (enc := encPlace) (k := 2) w5 #[.int .i64 p.pit, .int .i64 p.layer] 37 [p] 1 rfl (by omega) (fun _ => rfl) (by simp [encPlace])
             clear hO5 hg5 hA5 F0 R1)
          | (at_builtin; refine wpList_append_to elPlace (fun _ => rfl) onePlace rfl _ _ rfl _ _ _ _ rfl rfl F5 R5 (by omega) (by decide) (by simp; omega) (1) (by omega) (l.take 0 ++ [p]) rfl ?_; intro A3 c3 w6 hO6 hg6 hA6
             have HG6 := Lib.hid ((HG5.out.alloc hs45 (.cells #[.int .i64 p.pit, .int .i64 p.layer] 37)).grown hg6 (by simp; omega) (fun j e => F5.ltB j e))
             have HO6 := Lib.hid hO6
             have hs46 := HG6.out.size
             clear hO6 hg6 hA6 F5 R5)
          | (at_builtin; refine wpList_append_to elPlace (fun _ => rfl) onePlace rfl _ _ rfl _ _ _ _ rfl rfl HO6.out ((show Rd encPlace 2 w6 none 0 c (l.drop 0) from (RL.out.below HG6.out (Nat.le_refl _)))) (by omega) (by decide) hs46 (1) (by omega) (l.take 0 ++ [p] ++ l.drop 0) rfl ?_; intro A4 c4 w7 hO7 hg7 hA7
             have HB7 := Lib.hid (HB4.out.trans ((HG6.out.grown hg7 hs46 (fun j e => HO6.out.ltB j e)).mono hs4))
             have HO7 := Lib.hid hO7
             clear hO7 hg7 hA7))
        go_ret
        refine ⟨A4, c4, ?_, ?_, hb1.trans (HB7.out.mono (by omega))⟩
        · rw [hpn.out, show (l.take 0 ++ [p] ++ l.drop 0).length = 1 by (try simp [hnl.out]); (try omega)]; rfl
        · have h7 := HO7.out.rd (fun _ => rfl) (by omega)
          rw [hpn.out, show (l.take 0 ++ [p] ++ l.drop 0).length = 1 by (try simp [hnl.out]); (try omega)]
          exact h7
      · rcases Nat.eq_zero_or_pos n with hn0 | hn0
        · subst hn0
          have hl0 : Hid (l.drop 0 = []) := (show l.drop 0 = [] from List.eq_nil_of_length_eq_zero (by rw [List.length_drop, hnl.out]))
          rcases Nat.eq_zero_or_pos c with hc0 | hc0
          · subst hc0
            have hs4 := HB4.out.size
            have F0 := Own.fresh0 encPlace 2 37 w4
            have R1 := ((HL.out.below HB4.out (Nat.le_refl _)).take (m := 0) (c' := 0) (by omega) ⟨by omega, Nat.le_refl _⟩).alloc (.cells #[] 37)
            have RL := Lib.hid (HL.out.below HB4.out (Nat.le_refl _))
            obtain ⟨q0, q1⟩ := CELLS.out w4 HB4.out
            have hkc : 0 ≤ 0 := (by omega)
            have hkc2 : ((0 : Nat) : Int) ≤ ((0 : Nat) : Int) := (by omega)
            have hkn2 : ((0 : Nat) : Int) ≤ ((0 : Nat) : Int) := (by omega)
            go_wp2_with (first
              | (at_builtin; refine wpList_append_to elPlace (fun _ => rfl) onePlace rfl _ _ rfl _ _ _ _ rfl rfl F0 R1 (by omega) (by decide) (by simp) 0 (by omega) (l.take 0) (by simp) ?_; intro A2 c2 w5 hO5 hg5 hA5
                 have HB5 := Lib.hid ((HB4.out.alloc hs4 (.cells #[] 37)).grown hg5 (by simp; omega) (fun j e => Nat.le_trans hs4 (F0.ltB j e)))
                 have hs5 := HB5.out.size
                 have hs45 : w4.heap.size ≤ w5.heap.size := (by have := hg5.size; simp at this; omega)
                 have HG5 := Lib.hid ((Below.refl w4.heap.size w4).alloc (Nat.le_refl _) (.cells #[] 37) |>.grown hg5 (by simp) (fun j e => F0.ltB j e))
                 obtain ⟨s0, s1⟩ := CELLS.out w5 HB5.out
                 have F5 := hO5.alloc (.cells #[.int .i64 p.pit, .int .i64 p.layer] 37)
                 have R5 := Rd.single (enc := encPlace) (k := 2) w5 #[.int .i64 p.pit, .int .i64 p.layer] 37 [p] 1 rfl (by omega) (fun _ => rfl) (by simp [encPlace])
                 clear hO5 hg5 hA5 F0 R1)
              | (at_builtin; refine wpList_append_to elPlace (fun _ => rfl) onePlace rfl _ _ rfl _ _ _ _ rfl rfl F5 R5 (by omega) (by decide) (by simp; omega) (1) (by omega) (l.take 0 ++ [p]) rfl ?_; intro A3 c3 w6 hO6 hg6 hA6
                 have HG6 := Lib.hid ((HG5.out.alloc hs45 (.cells #[.int .i64 p.pit, .int .i64 p.layer] 37)).grown hg6 (by simp; omega) (fun j e => F5.ltB j e))
                 have HO6 := Lib.hid hO6
                 have hs46 := HG6.out.size
                 clear hO6 hg6 hA6 F5 R5)
              | (at_builtin; refine wpList_append_to elPlace (fun _ => rfl) onePlace rfl _ _ rfl _ _ _ _ rfl rfl HO6.out ((show Rd encPlace 2 w6 (some a) 0 0 (l.drop 0) from by rw [hl0.out]; exact Rd.none_ _ _ (by omega))) (by omega) (by decide) hs46 (1) (by omega) (l.take 0 ++ [p] ++ l.drop 0) rfl ?_; intro A4 c4 w7 hO7 hg7 hA7
                 have HB7 := Lib.hid (HB4.out.trans ((HG6.out.grown hg7 hs46 (fun j e => HO6.out.ltB j e)).mono hs4))
                 have HO7 := Lib.hid hO7
                 clear hO7 hg7 hA7))
            go_ret
            refine ⟨A4, c4, ?_, ?_, hb1.trans (HB7.out.mono (by omega))⟩
            · rw [hpn.out, show (l.take 0 ++ [p] ++ l.drop 0).length = 1 by (try simp [hnl.out]); (try omega)]; rfl
            · have h7 := HO7.out.rd (fun _ => rfl) (by omega)
              rw [hpn.out, show (l.take 0 ++ [p] ++ l.drop 0).length = 1 by (try simp [hnl.out]); (try omega)]
              exact h7
          · have hc1 : ¬ 0 = c := by omega
            have hs4 := HB4.out.size
            have F0 := Own.fresh0 encPlace 2 37 w4
            have R1 := ((HL.out.below HB4.out (Nat.le_refl _)).take (m := 0) (c' := c) (by omega) ⟨by omega, Nat.le_refl _⟩).alloc (.cells #[] 37)
            have RL := Lib.hid (HL.out.below HB4.out (Nat.le_refl _))
            obtain ⟨q0, q1⟩ := CELLS.out w4 HB4.out
            have hkc : 0 ≤ c := (by omega)
            have hkc2 : ((0 : Nat) : Int) ≤ ((c : Nat) : Int) := (by omega)
            have hkn2 : ((0 : Nat) : Int) ≤ ((0 : Nat) : Int) := (by omega)
            go_wp2_with (first
              | (at_builtin; refine wpList_append_to elPlace (fun _ => rfl) onePlace rfl _ _ rfl _ _ _ _ rfl rfl F0 R1 (by omega) (by decide) (by simp) 0 (by omega) (l.take 0) (by simp) ?_; intro A2 c2 w5 hO5 hg5 hA5
                 have HB5 := Lib.hid ((HB4.out.alloc hs4 (.cells #[] 37)).grown hg5 (by simp; omega) (fun j e => Nat.le_trans hs4 (F0.ltB j e)))
                 have hs5 := HB5.out.size
                 have hs45 : w4.heap.size ≤ w5.heap.size := (by have := hg5.size; simp at this; omega)
                 have HG5 := Lib.hid ((Below.refl w4.heap.size w4).alloc (Nat.le_refl _) (.cells #[] 37) |>.grown hg5 (by simp) (fun j e => F0.ltB j e))
                 obtain ⟨s0, s1⟩ := CELLS.out w5 HB5.out
                 have F5 := hO5.alloc (.cells #[.int .i64 p.pit, .int .i64 p.layer] 37)
                 have R5 := Rd.single (enc := encPlace) (k := 2) w5 #[.int .i64 p.pit, .int .i64 p.layer] 37 [p] 1 rfl (by omega) (fun _ => rfl) (by simp [encPlace])
                 clear hO5 hg5 hA5 F0 R1)
              | (at_builtin; refine wpList_append_to elPlace (fun _ => rfl) onePlace rfl _ _ rfl _ _ _ _ rfl rfl F5 R5 (by omega) (by decide) (by simp; omega) (1) (by omega) (l.take 0 ++ [p]) rfl ?_; intro A3 c3 w6 hO6 hg6 hA6
                 have HG6 := Lib.hid ((HG5.out.alloc hs45 (.cells #[.int .i64 p.pit, .int .i64 p.layer] 37)).grown hg6 (by simp; omega) (fun j e => F5.ltB j e))
                 have HO6 := Lib.hid hO6
                 have hs46 := HG6.out.size
                 clear hO6 hg6 hA6 F5 R5)
              | (at_builtin; refine wpList_append_to elPlace (fun _ => rfl) onePlace rfl _ _ rfl _ _ _ _ rfl rfl HO6.out ((show Rd encPlace 2 w6 (some a) 0 c (l.drop 0) from by rw [hl0.out]; exact Rd.none_ _ _ (by omega))) (by omega) (by decide) hs46 (1) (by omega) (l.take 0 ++ [p] ++ l.drop 0) rfl ?_; intro A4 c4 w7 hO7 hg7 hA7
                 have HB7 := Lib.hid (HB4.out.trans ((HG6.out.grown hg7 hs46 (fun j e => HO6.out.ltB j e)).mono hs4))
                 have HO7 := Lib.hid hO7
                 clear hO7 hg7 hA7))
            go_ret
            refine ⟨A4, c4, ?_, ?_, hb1.trans (HB7.out.mono (by omega))⟩
            · rw [hpn.out, show (l.take 0 ++ [p] ++ l.drop 0).length = 1 by (try simp [hnl.out]); (try omega)]; rfl
            · have h7 := HO7.out.rd (fun _ => rfl) (by omega)
              rw [hpn.out, show (l.take 0 ++ [p] ++ l.drop 0).length = 1 by (try simp [hnl.out]); (try omega)]
              exact h7
        · obtain ⟨b, off, e, _⟩ := HL.out.at_ hn0
          cases e
          have hc1 : ¬ 0 = c := by omega
          have hs4 := HB4.out.size
          have F0 := Own.fresh0 encPlace 2 37 w4
          have R1 := ((HL.out.below HB4.out (Nat.le_refl _)).take (m := 0) (c' := c) (by omega) ⟨by omega, Nat.le_refl _⟩).alloc (.cells #[] 37)
          have RL := Lib.hid (HL.out.below HB4.out (Nat.le_refl _))
          obtain ⟨q0, q1⟩ := CELLS.out w4 HB4.out
          have hkc : 0 ≤ c := (by omega)
          have hkc2 : ((0 : Nat) : Int) ≤ ((c : Nat) : Int) := (by omega)
          have hkn2 : ((0 : Nat) : Int) ≤ ((n : Nat) : Int) := (by omega)
          go_wp2_with (first
            | (at_builtin; refine wpList_append_to elPlace (fun _ => rfl) onePlace rfl _ _ rfl _ _ _ _ rfl rfl F0 R1 (by omega) (by decide) (by simp) 0 (by omega) (l.take 0) (by simp) ?_; intro A2 c2 w5 hO5 hg5 hA5
               have HB5 := Lib.hid ((HB4.out.alloc hs4 (.cells #[] 37)).grown hg5 (by simp; omega) (fun j e => Nat.le_trans hs4 (F0.ltB j e)))
               have hs5 := HB5.out.size
               have hs45 : w4.heap.size ≤ w5.heap.size := (by have := hg5.size; simp at this; omega)
               have HG5 := Lib.hid ((Below.refl w4.heap.size w4).alloc (Nat.le_refl _) (.cells #[] 37) |>.grown hg5 (by simp) (fun j e => F0.ltB j e))
               obtain ⟨s0, s1⟩ := CELLS.out w5 HB5.out
               have F5 := hO5.alloc (.cells #[.int .i64 p.pit, .int .i64 p.layer] 37)
               have R5 := Rd.single (enc := encPlace) (k := 2) w5 #[.int .i64 p.pit, .int .i64 p.layer] 37 [p] 1 rfl (by omega) (fun _ => rfl) (by simp [encPlace])
               clear hO5 hg5 hA5 F0 R1)
            | (at_builtin; refine wpList_append_to elPlace (fun _ => rfl) onePlace rfl _ _ rfl _ _ _ _ rfl rfl F5 R5 (by omega) (by decide) (by simp; omega) (1) (by omega) (l.take 0 ++ [p]) rfl ?_; intro A3 c3 w6 hO6 hg6 hA6
               have HG6 := Lib.hid ((HG5.out.alloc hs45 (.cells #[.int .i64 p.pit, .int .i64 p.layer] 37)).grown hg6 (by simp; omega) (fun j e => F5.ltB j e))
               have HO6 := Lib.hid hO6
               have hs46 := HG6.out.size
               clear hO6 hg6 hA6 F5 R5)
            | (at_builtin; refine wpList_append_to elPlace (fun _ => rfl) onePlace rfl _ _ rfl _ _ _ _ rfl rfl HO6.out ((show Rd encPlace 2 w6 (some ⟨b, off, none⟩) n c (l.drop 0) from RL.out.below HG6.out (Nat.le_refl _))) (by omega) (by decide) hs46 (n + 1) (by omega) (l.take 0 ++ [p] ++ l.drop 0) rfl ?_; intro A4 c4 w7 hO7 hg7 hA7
               have HB7 := Lib.hid (HB4.out.trans ((HG6.out.grown hg7 hs46 (fun j e => HO6.out.ltB j e)).mono hs4))
               have HO7 := Lib.hid hO7
               clear hO7 hg7 hA7))
          go_ret
          refine ⟨A4, c4, ?_, ?_, hb1.trans (HB7.out.mono (by omega))⟩
          · rw [hpn.out, show (l.take 0 ++ [p] ++ l.drop 0).length = n + 1 by (try simp [hnl.out]); (try omega)]; rfl
          · have h7 := HO7.out.rd (fun _ => rfl) (by omega)
            rw [hpn.out, show (l.take 0 ++ [p] ++ l.drop 0).length = n + 1 by (try simp [hnl.out]); (try omega)]
            exact h7
    · obtain ⟨j, hkj⟩ : ∃ j, k = j + 1 := ⟨k - 1, by omega⟩
      have HKJ := Lib.hid hkj
      have hjn : j < n := (by omega)
      clear hkj
      obtain ⟨b, off, y, rfl, hbw, hy, hcell⟩ := (HL.out.below hb.out (Nat.le_refl _)).one hjn
      have y0 : wo.cell? ⟨b, off + j * 2, none⟩ = some (.int .i64 y.pit) := hcell 0 _ rfl
      have y1 : wo.cell? ⟨b, off + j * 2 + 1, none⟩ = some (.int .i64 y.layer) := hcell 1 _ rfl
      have YE : Hid (∀ W, Below wo.heap.size wo W → W.cell? ⟨b, off + j * 2, none⟩ = some (.int .i64 y.pit) ∧ W.cell? ⟨b, off + j * 2 + 1, none⟩ = some (.int .i64 y.layer)) := (show ∀ W, Below wo.heap.size wo W → W.cell? ⟨b, off + j * 2, none⟩ = some (.int .i64 y.pit) ∧ W.cell? ⟨b, off + j * 2 + 1, none⟩ = some (.int .i64 y.layer) from fun W h => ⟨(h.cell (p := ⟨b, _, none⟩) hbw).trans y0, (h.cell (p := ⟨b, _, none⟩) hbw).trans y1⟩)
      have hyd : Hid (l.getD j z00 = y) := (show _ = _ by rw [List.getD_eq_getElem?_getD, hy]; rfl)
      clear hcell hy y0 y1
      go_upto_region 2 with (fail)
      obtain ⟨r, hr⟩ : ∃ r, lessPl p y = r := ⟨_, rfl⟩
      have HR := Lib.hid hr
      clear hr
      refine rput2s _ rfl b off n c w.heap.size k j p y r _ wo _ rfl rfl rfl rfl PE.out YE.out HKJ.out hjn hsm HR.out ?_
      intro w2 hb2
      have HB2 := Lib.hid hb2
      clear hb2
      simp only [List.setIfInBounds_toArray, List.set_cons_succ, List.set_cons_zero]
      cases r with
      | true =>
        have HLP := HR
        go_wp2
        go_roundw
        all_goals first
          | (have := HKJ.out; simp [intOf]; omega)
          | exact ⟨j, by omega, by have := HKJ.out; subst this; go_num, (show Below _ _ _ from hb.out.trans (HB2.out.mono hzr)), (show _ = _ by have h1 := hat.out; rw [HKJ.out, putAt, hyd.out, if_pos HLP.out] at h1; exact h1)⟩
      | false =>
        have HLP : Hid (¬ lessPl p y = true) := (show ¬ lessPl p y = true by rw [HR.out]; decide)
        obtain ⟨r, hr⟩ : ∃ r, eqPlace y p = r := ⟨_, rfl⟩
        have HR2 := Lib.hid hr
        clear hr
        go_upto_region 4 with (fail)
        refine rput4s _ rfl b off n c w.heap.size k j p y r _ w2 _ rfl rfl rfl rfl (fun W h => PE.out W (HB2.out.trans (h.mono HB2.out.size))) (fun W h => YE.out W (HB2.out.trans (h.mono HB2.out.size))) HKJ.out hjn hsm HR2.out ?_
        intro w4 hb4
        have HB4 := Lib.hid ((hb.out.trans (HB2.out.mono hzr)).trans (hb4.mono (by have := HB2.out.size; omega)))
        clear hb4
        simp only [List.setIfInBounds_toArray, List.set_cons_succ, List.set_cons_zero]
        have hatk : Hid (putAt l p l.length = k) := (show _ = _ by have h1 := hat.out; rw [hnl.out, h1, HKJ.out, putAt, hyd.out, if_neg HLP.out])
        cases r with
        | true =>
          go_wp2
          go_ret
          refine ⟨some ⟨b, off, none⟩, c, ?_, ?_, hb1.trans (HB4.out.mono (by omega))⟩
          · rw [putPl_there hatk.out h0 (by rw [show k - 1 = j by have := HKJ.out; omega, hyd.out]; exact eqPlace_iff.1 HR2.out), hnl.out]; rfl
          · rw [putPl_there hatk.out h0 (by rw [show k - 1 = j by have := HKJ.out; omega, hyd.out]; exact eqPlace_iff.1 HR2.out), hnl.out]
            exact HL.out.below HB4.out (Nat.le_refl _)
        | false =>
          have hpn : Hid (putPl l p = l.take k ++ [p] ++ l.drop k) := (show _ = _ from putPl_new hatk.out (by rw [show k - 1 = j by have := HKJ.out; omega, hyd.out]; exact fun h => eqPlace_no.1 HR2.out h.2))
          rcases (by omega : k = c ∨ k < c) with hkc0 | hkc0
          · have hnk : n = k := by omega
            subst hkc0
            subst hnk
            have hs4 := HB4.out.size
            have F0 := Own.fresh0 encPlace 2 37 w4
            have R1 := ((HL.out.below HB4.out (Nat.le_refl _)).take (m := n) (c' := n) (by omega) ⟨by omega, Nat.le_refl _⟩).alloc (.cells #[] 37)
            have RL := Lib.hid (HL.out.below HB4.out (Nat.le_refl _))
            obtain ⟨q0, q1⟩ := CELLS.out w4 HB4.out
            have hkc : n ≤ n := (by omega)
            have hkc2 : ((n : Nat) : Int) ≤ ((n : Nat) : Int) := (by omega)
            have hkn2 : ((n : Nat) : Int) ≤ ((n : Nat) : Int) := (by omega)
            go_wp2_with (first
              | (at_builtin; refine wpList_append_to elPlace (fun _ => rfl) onePlace rfl _ _ rfl _ _ _ _ rfl rfl F0 R1 (by omega) (by decide) (by simp) n (by omega) (l.take n) (by simp) ?_; intro A2 c2 w5 hO5 hg5 hA5
                 have HB5 := Lib.hid ((HB4.out.alloc hs4 (.cells #[] 37)).grown hg5 (by simp; omega) (fun j e => Nat.le_trans hs4 (F0.ltB j e)))
                 have hs5 := HB5.out.size
                 have hs45 : w4.heap.size ≤ w5.heap.size := (by have := hg5.size; simp at this; omega)
                 have HG5 := Lib.hid ((Below.refl w4.heap.size w4).alloc (Nat.le_refl _) (.cells #[] 37) |>.grown hg5 (by simp) (fun j e => F0.ltB j e))
                 obtain ⟨s0, s1⟩ := CELLS.out w5 HB5.out
                 have F5 := hO5.alloc (.cells #[.int .i64 p.pit, .int .i64 p.layer] 37)
                 have R5 := Rd.single (enc := encPlace) (k := 2) w5 #[.int .i64 p.pit, .int .i64 p.layer] 37 [p] 1 rfl (by omega) (fun _ => rfl) (by simp [encPlace])
                 clear hO5 hg5 hA5 F0 R1)
              | (at_builtin; refine wpList_append_to elPlace (fun _ => rfl) onePlace rfl _ _ rfl _ _ _ _ rfl rfl F5 R5 (by omega) (by decide) (by simp; omega) (n + 1) (by omega) (l.take n ++ [p]) rfl ?_; intro A3 c3 w6 hO6 hg6 hA6
                 have HG6 := Lib.hid ((HG5.out.alloc hs45 (.cells #[.int .i64 p.pit, .int .i64 p.layer] 37)).grown hg6 (by simp; omega) (fun j e => F5.ltB j e))
                 have HO6 := Lib.hid hO6
                 have hs46 := HG6.out.size
                 clear hO6 hg6 hA6 F5 R5)
              | (at_builtin; refine wpList_append_to elPlace (fun _ => rfl) onePlace rfl _ _ rfl _ _ _ _ rfl rfl HO6.out ((show Rd encPlace 2 w6 (some ⟨b, off, none⟩) 0 0 (l.drop n) from by rw [List.drop_of_length_le (by rw [hnl.out]; exact Nat.le_refl _)]; exact Rd.none_ _ _ (by omega))) (by omega) (by decide) hs46 (n + 1) (by omega) (l.take n ++ [p] ++ l.drop n) rfl ?_; intro A4 c4 w7 hO7 hg7 hA7
                 have HB7 := Lib.hid (HB4.out.trans ((HG6.out.grown hg7 hs46 (fun j e => HO6.out.ltB j e)).mono hs4))
                 have HO7 := Lib.hid hO7
                 clear hO7 hg7 hA7))
            go_ret
            refine ⟨A4, c4, ?_, ?_, hb1.trans (HB7.out.mono (by omega))⟩
            · rw [hpn.out, show (l.take n ++ [p] ++ l.drop n).length = n + 1 by (try simp [hnl.out]); (try omega)]; rfl
            · have h7 := HO7.out.rd (fun _ => rfl) (by omega)
              rw [hpn.out, show (l.take n ++ [p] ++ l.drop n).length = n + 1 by (try simp [hnl.out]); (try omega)]
              exact h7
          · have hkc1 : ¬ k = c := by omega
            have hs4 := HB4.out.size
            have F0 := Own.fresh0 encPlace 2 37 w4
            have R1 := ((HL.out.below HB4.out (Nat.le_refl _)).take (m := k) (c' := c) (by omega) ⟨by omega, Nat.le_refl _⟩).alloc (.cells #[] 37)
            have RL := Lib.hid (HL.out.below HB4.out (Nat.le_refl _))
            obtain ⟨q0, q1⟩ := CELLS.out w4 HB4.out
            have hkc : k ≤ c := (by omega)
            have hkc2 : ((k : Nat) : Int) ≤ ((c : Nat) : Int) := (by omega)
            have hkn2 : ((k : Nat) : Int) ≤ ((n : Nat) : Int) := (by omega)
            go_wp2_with (first
              | (at_builtin; refine wpList_append_to elPlace (fun _ => rfl) onePlace rfl _ _ rfl _ _ _ _ rfl rfl F0 R1 (by omega) (by decide) (by simp) k (by omega) (l.take k) (by simp) ?_; intro A2 c2 w5 hO5 hg5 hA5
                 have HB5 := Lib.hid ((HB4.out.alloc hs4 (.cells #[] 37)).grown hg5 (by simp; omega) (fun j e => Nat.le_trans hs4 (F0.ltB j e)))
                 have hs5 := HB5.out.size
                 have hs45 : w4.heap.size ≤ w5.heap.size := (by have := hg5.size; simp at this; omega)
                 have HG5 := Lib.hid ((Below.refl w4.heap.size w4).alloc (Nat.le_refl _) (.cells #[] 37) |>.grown hg5 (by simp) (fun j e => F0.ltB j e))
                 obtain ⟨s0, s1⟩ := CELLS.out w5 HB5.out
                 have F5 := hO5.alloc (.cells #[.int .i64 p.pit, .int .i64 p.layer] 37)
                 have R5 := Rd.single (enc := encPlace) (k := 2) w5 #[.int .i64 p.pit, .int .i64 p.layer] 37 [p] 1 rfl (by omega) (fun _ => rfl) (by simp [encPlace])
                 clear hO5 hg5 hA5 F0 R1)
              | (at_builtin; refine wpList_append_to elPlace (fun _ => rfl) onePlace rfl _ _ rfl _ _ _ _ rfl rfl F5 R5 (by omega) (by decide) (by simp; omega) (k + 1) (by omega) (l.take k ++ [p]) rfl ?_; intro A3 c3 w6 hO6 hg6 hA6
                 have HG6 := Lib.hid ((HG5.out.alloc hs45 (.cells #[.int .i64 p.pit, .int .i64 p.layer] 37)).grown hg6 (by simp; omega) (fun j e => F5.ltB j e))
                 have HO6 := Lib.hid hO6
                 have hs46 := HG6.out.size
                 clear hO6 hg6 hA6 F5 R5)
              | (at_builtin; refine wpList_append_to elPlace (fun _ => rfl) onePlace rfl _ _ rfl _ _ _ _ rfl rfl HO6.out ((RL.out.below HG6.out (Nat.le_refl _)).drop (m := k) hk (fun _ => by simp [add_lit])) (by omega) (by decide) hs46 (n + 1) (by omega) (l.take k ++ [p] ++ l.drop k) rfl ?_; intro A4 c4 w7 hO7 hg7 hA7
                 have HB7 := Lib.hid (HB4.out.trans ((HG6.out.grown hg7 hs46 (fun j e => HO6.out.ltB j e)).mono hs4))
                 have HO7 := Lib.hid hO7
                 clear hO7 hg7 hA7))
            go_ret
            refine ⟨A4, c4, ?_, ?_, hb1.trans (HB7.out.mono (by omega))⟩
            · rw [hpn.out, show (l.take k ++ [p] ++ l.drop k).length = n + 1 by (try simp [hnl.out]); (try omega)]; rfl
            · have h7 := HO7.out.rd (fun _ => rfl) (by omega)
              rw [hpn.out, show (l.take k ++ [p] ++ l.drop k).length = n + 1 by (try simp [hnl.out]); (try omega)]
              exact h7
end Go.Proofs.YtelnkflmnbhclaaGreat
end

/- What is proved: the contracts of the reference's refused and Check: what the program's follows and Check return. Conditions: none. -/
section
namespace Go.Proofs.YtelnkflmnbhclaaGreat
open Go.RowKit Go.Proofs Go.Shelf

theorem neBool {a : Int} (h : a ≠ 0) : (a != 0) = true := by simpa using h
theorem snoc_any {l : List Trace} {k : Nat} {y : Trace} (hy : l[k]? = some y) (p : Trace → Bool) : (l.take (k + 1)).any p = ((l.take k).any p || p y) := by
  rw [List.take_add_one, hy, Option.toList_some, List.any_append]; simp
theorem ways2 (s : Bool) (y x : Trace) : s = true ∨ (s = false ∧ y.kind = 4) ∨ (s = false ∧ y.kind ≠ 4 ∧ y.id = x.void) ∨ (s = false ∧ y.kind ≠ 4 ∧ y.id ≠ x.void) := by
  cases s
  · by_cases h : y.kind = 4
    · exact .inr (.inl ⟨rfl, h⟩)
    · by_cases g : y.id = x.void
      · exact .inr (.inr (.inl ⟨rfl, h, g⟩))
      · exact .inr (.inr (.inr ⟨rfl, h, g⟩))
  · exact .inl rfl
theorem ways3 (s : Bool) (y x : Trace) : s = true ∨ (s = false ∧ y.kind ≠ 4) ∨ (s = false ∧ y.kind = 4 ∧ y.void = x.void) ∨ (s = false ∧ y.kind = 4 ∧ y.void ≠ x.void) := by
  cases s
  · by_cases h : y.kind = 4
    · by_cases g : y.void = x.void
      · exact .inr (.inr (.inl ⟨rfl, h, g⟩))
      · exact .inr (.inr (.inr ⟨rfl, h, g⟩))
    · exact .inr (.inl ⟨rfl, h⟩)
  · exact .inl rfl
set_option maxHeartbeats 8000000 in
set_option maxRecDepth 100000 in
theorem rRefused_any (A : Option Addr) (n c : Nat) (l : List Trace) (x : Trace) (w : World) (hl : Rd encTrace 10 w A n c l) :
    Calls Tryz.prog 95 #[.slice A n c, .agg #[.int .i64 x.id, .int .i64 x.known, .int .u8 x.kind, .int .i64 x.pit, .int .i64 x.layer, .int .i64 x.lower, .int .i64 x.low, .int .i64 x.high, .int .i64 x.cost, .int .i64 x.void]] w
      fun e' w' => e' = .returned (.int .i64 (follows l x)) ∧ Below w.heap.size w w' := by
  obtain ⟨w1, hw1⟩ : ∃ w1, w.alloc (.cells #[.int .i64 x.id, .int .i64 x.known, .int .u8 x.kind, .int .i64 x.pit, .int .i64 x.layer, .int .i64 x.lower, .int .i64 x.low, .int .i64 x.high, .int .i64 x.cost, .int .i64 x.void] 25) = w1 := ⟨_, rfl⟩
  have hb1 : Below w.heap.size w w1 := (by rw [← hw1]; exact (Below.refl _ w).alloc (Nat.le_refl _) _)
  have hz1 : w1.heap.size = w.heap.size + 1 := (by rw [← hw1]; simp)
  have hr1 : w1.heap[w.heap.size]? = some (.cells #[.int .i64 x.id, .int .i64 x.known, .int .u8 x.kind, .int .i64 x.pit, .int .i64 x.layer, .int .i64 x.lower, .int .i64 x.low, .int .i64 x.high, .int .i64 x.cost, .int .i64 x.void] 25 (0, 0)) := (by rw [← hw1]; exact heap_alloc_new w _)
  have cells : ∀ W : World, Below w1.heap.size w1 W → W.cell? ⟨w.heap.size, 0, none⟩ = some (.int .i64 x.id) ∧ W.cell? ⟨w.heap.size, 1, none⟩ = some (.int .i64 x.known) ∧ W.cell? ⟨w.heap.size, 2, none⟩ = some (.int .u8 x.kind) ∧ W.cell? ⟨w.heap.size, 3, none⟩ = some (.int .i64 x.pit) ∧ W.cell? ⟨w.heap.size, 4, none⟩ = some (.int .i64 x.layer) ∧ W.cell? ⟨w.heap.size, 5, none⟩ = some (.int .i64 x.lower) ∧ W.cell? ⟨w.heap.size, 6, none⟩ = some (.int .i64 x.low) ∧ W.cell? ⟨w.heap.size, 7, none⟩ = some (.int .i64 x.high) ∧ W.cell? ⟨w.heap.size, 8, none⟩ = some (.int .i64 x.cost) ∧ W.cell? ⟨w.heap.size, 9, none⟩ = some (.int .i64 x.void) := fun W hb => by
    have := (hb.block _ (by omega)).trans hr1
    simp [World.cell?, this]
  have CELLS := Lib.hid cells
  have HL := Lib.hid (hl.below hb1 (Nat.le_refl _))
  have hnl := Lib.hid hl.len
  have hbig := hl.big
  obtain ⟨c0, c1, c2, c3, c4, c5, c6, c7, c8, c9⟩ := cells w1 (Below.refl _ _)
  have HC := Lib.hid (rCheckTrace_any x.id x.known x.kind x.pit x.layer x.lower x.low x.high x.cost x.void w1)
  clear cells hl hr1
  by_cases h140 : 140 ≤ n
  · go_enter Tryz.func95, Tryz.ntmps95
    go_wp2_with (fail)
    go_ret
    exact ⟨retI (fo1 hnl.out (by omega)), hb1⟩
  · by_cases hct : checkTrace x = 0
    · have hc : checkTrace ⟨x.id, x.known, x.kind, x.pit, x.layer, x.lower, x.low, x.high, x.cost, x.void⟩ = 0 := hct
      rw [hc] at HC
      have hct' : Hid ((checkTrace x != 0) = false) := (show (checkTrace x != 0) = false by rw [hct]; rfl)
      clear hct hc
      go_enter Tryz.func95, Tryz.ntmps95
      go_wp2_with (go_at_call 49; (with_reducible refine HC.out.mono ?_); rintro e w2 ⟨rfl, hb2⟩; have HB2 := Lib.hid hb2; clear hb2)
      clear c0 c1 c2 c3 c4 c5 c6 c7 c8 c9
      go_loopw [5, 6, 7] (fun s5 s6 s7 wr => ∃ (k : Nat) (s t : Bool), k ≤ n ∧ s5 = .bool s ∧ s6 = .bool t ∧ s7 = .int .i64 k ∧ Hid (Below w1.heap.size w1 wr) ∧ Hid ((l.take k).any (p1 x) = false) ∧ Hid ((l.take k).any (p2 x) = s) ∧ Hid ((l.take k).any (p3 x) = t)) (fun _ _ s7 _ => n - (intOf s7).toNat)
      case atStart => exact ⟨0, false, false, Nat.zero_le _, rfl, rfl, rfl, HB2, (show _ = _ by simp), (show _ = _ by simp), (show _ = _ by simp)⟩
      case round =>
        obtain ⟨k, s, t, hk, rfl, rfl, rfl, hb, hn1, hn2, hn3⟩ := hrel
        have hzr := hb.out.size
        obtain ⟨a0, a1, a2, a3, a4, a5, a6, a7, a8, a9⟩ := CELLS.out wr hb.out
        clear a3 a4 a5 a6 a7 a8
        have hxlt : w.heap.size < wr.heap.size := (by omega)
        by_cases hlt : k < n
        · obtain ⟨b, off, y, rfl, hbw, hy, hcell⟩ := (HL.out.below hb.out (Nat.le_refl _)).one hlt
          have y0 : wr.cell? ⟨b, off + k * 10, none⟩ = some (.int .i64 y.id) := hcell 0 _ rfl
          have y2 : wr.cell? ⟨b, off + k * 10 + 2, none⟩ = some (.int .u8 y.kind) := hcell 2 _ rfl
          have y9 : wr.cell? ⟨b, off + k * 10 + 9, none⟩ = some (.int .i64 y.void) := hcell 9 _ rfl
          have S1 := Lib.hid (snoc_any hy (p1 x))
          have S2 := Lib.hid (snoc_any hy (p2 x))
          have S3 := Lib.hid (snoc_any hy (p3 x))
          have HM := Lib.hid (List.mem_of_getElem? hy)
          clear hcell hy
          by_cases hid : y.id = x.id
          · have hid' : (y.id == x.id) = true := beq_iff_eq.2 hid
            go_wp2_with (go_quiet (fail))
            all_goals go_ret
            all_goals exact ⟨retI (fo3 hnl.out (by omega) hct'.out (List.any_eq_true.2 ⟨y, HM.out, by simp [p1, hid]⟩)), below_drewN' (hb1.trans (hb.out.mono (by omega))) _⟩
          · have hid' : (y.id == x.id) = false := beq_eq_false_iff_ne.2 hid
            have HID := Lib.hid hid
            clear hid
            have two : ∀ {a b : Int}, (a = b ∧ (a == b) = true ∧ (a != b) = false) ∨ (a ≠ b ∧ (a == b) = false ∧ (a != b) = true) := fun {a b} => by by_cases h : a = b <;> simp [h]
            rcases @two y.kind 4 with ⟨k1, k2, k3⟩ | ⟨k1, k2, k3⟩
            all_goals
              have K1 := Lib.hid k1
              clear k1
            · rcases @two y.void x.void with ⟨v1, v2, v3⟩ | ⟨v1, v2, v3⟩
              all_goals
                have V1 := Lib.hid v1
                clear v1
              all_goals cases s <;> cases t
              all_goals
                go_wp2_with (go_quiet (fail))
                go_roundw
              all_goals first
                | (simp [intOf]; omega)
                | (refine ⟨k + 1, _, _, by omega, rfl, rfl, by go_num, (show Below _ _ _ from by repeat' (first | with_reducible exact hb.out | with_reducible refine Below.drew ?_ | with_reducible refine below_drewN' ?_ _)), (show _ = _ by have h0 := HID.out; rw [S1.out, hn1.out]; simp [p1, h0]), (show _ = _ by have h1 := K1.out; have h2 := V1.out; rw [S2.out, hn2.out]; simp [p2, h1]), (show _ = _ by have h1 := K1.out; have h2 := V1.out; rw [S3.out, hn3.out]; simp [p3, h1, h2])⟩)
            · rcases @two y.id x.void with ⟨v1, v2, v3⟩ | ⟨v1, v2, v3⟩
              all_goals
                have V1 := Lib.hid v1
                clear v1
              all_goals cases s <;> cases t
              all_goals
                go_wp2_with (go_quiet (fail))
                go_roundw
              all_goals first
                | (simp [intOf]; omega)
                | (refine ⟨k + 1, _, _, by omega, rfl, rfl, by go_num, (show Below _ _ _ from by repeat' (first | with_reducible exact hb.out | with_reducible refine Below.drew ?_ | with_reducible refine below_drewN' ?_ _)), (show _ = _ by have h0 := HID.out; rw [S1.out, hn1.out]; simp [p1, h0]), (show _ = _ by have h1 := K1.out; have h2 := V1.out; rw [S2.out, hn2.out]; simp [p2, h1, h2]), (show _ = _ by have h1 := K1.out; have h2 := V1.out; rw [S3.out, hn3.out]; simp [p3, h1])⟩)
        · have hkn : k = n := by omega
          subst hkn
          have hn1' : Hid (l.any (p1 x) = false) := (show _ = _ by have := hn1.out; rwa [List.take_of_length_le (by rw [hnl.out]; exact Nat.le_refl _)] at this)
          have hn2' : Hid (l.any (p2 x) = s) := (show _ = _ by have := hn2.out; rwa [List.take_of_length_le (by rw [hnl.out]; exact Nat.le_refl _)] at this)
          have hn3' : Hid (l.any (p3 x) = t) := (show _ = _ by have := hn3.out; rwa [List.take_of_length_le (by rw [hnl.out]; exact Nat.le_refl _)] at this)
          clear hn1 hn2 hn3
          rcases Nat.eq_zero_or_pos k with h0 | h0
          · subst h0
            have hnil : Hid (l = []) := (show l = [] from List.eq_nil_of_length_eq_zero hnl.out)
            by_cases hk4 : x.kind = 4
            all_goals cases s <;> cases t
            all_goals
              go_wp2_with (go_quiet (fail))
              go_ret
            all_goals
              have hll : lastLater l x = false := by rw [hnil.out]; rfl
            all_goals refine ⟨retI ?_, below_drewN' (hb1.trans (hb.out.mono (by omega))) _⟩
            all_goals first
              | exact fo5 hnl.out (by omega) hct'.out hn1'.out hll (by simpa using hk4)
              | exact fo6 hnl.out (by omega) hct'.out hn1'.out hll (by simpa using hk4) (by rw [hn2'.out]; rfl)
              | exact fo7 hnl.out (by omega) hct'.out hn1'.out hll (by simpa using hk4) (by rw [hn2'.out]; rfl) hn3'.out
              | exact fo8 hnl.out (by omega) hct'.out hn1'.out hll (by simpa using hk4) (by rw [hn2'.out]; rfl) hn3'.out
          · obtain ⟨b, off, z, rfl, hbw, hz, hcell⟩ := (HL.out.below hb.out (Nat.le_refl _)).one (i := k - 1) (by omega)
            have z1 : wr.cell? ⟨b, off + (k - 1) * 10 + 1, none⟩ = some (.int .i64 z.known) := hcell 1 _ rfl
            have hlast : Hid (l.getLast? = some z) := (show _ = _ by rw [List.getLast?_eq_getElem?, hnl.out]; exact hz)
            clear hcell hz
            by_cases hzk : x.known < z.known
            · go_wp2_with (go_quiet (fail))
              go_ret
              exact ⟨retI (fo4 hnl.out (by omega) hct'.out hn1'.out (lastLater_yes hlast.out hzk)), below_drewN' (hb1.trans (hb.out.mono (by omega))) _⟩
            · by_cases hk4 : x.kind = 4
              all_goals cases s <;> cases t
              all_goals
                go_wp2_with (go_quiet (fail))
                go_ret
              all_goals
                have hll : lastLater l x = false := lastLater_no hlast.out (by omega)
              all_goals refine ⟨retI ?_, below_drewN' (hb1.trans (hb.out.mono (by omega))) _⟩
              all_goals first
                | exact fo5 hnl.out (by omega) hct'.out hn1'.out hll (by simpa using hk4)
                | exact fo6 hnl.out (by omega) hct'.out hn1'.out hll (by simpa using hk4) (by rw [hn2'.out]; rfl)
                | exact fo7 hnl.out (by omega) hct'.out hn1'.out hll (by simpa using hk4) (by rw [hn2'.out]; rfl) hn3'.out
                | exact fo8 hnl.out (by omega) hct'.out hn1'.out hll (by simpa using hk4) (by rw [hn2'.out]; rfl) hn3'.out
    · obtain ⟨ct, hcte⟩ : ∃ ct, checkTrace x = ct := ⟨_, rfl⟩
      have hc : checkTrace ⟨x.id, x.known, x.kind, x.pit, x.layer, x.lower, x.low, x.high, x.cost, x.void⟩ = ct := hcte
      rw [hc] at HC
      rw [hcte] at hct
      have hct' := neBool hct
      have HCT := Lib.hid hcte
      clear hc hcte
      go_enter Tryz.func95, Tryz.ntmps95
      go_wp2_with (go_at_call 49; (with_reducible refine HC.out.mono ?_); rintro e w2 ⟨rfl, hb2⟩; have HB2 := Lib.hid hb2; clear hb2)
      go_ret
      exact ⟨retI (fo2 hnl.out (by omega) (by rw [HCT.out]; exact hct')), hb1.trans (HB2.out.mono (by omega))⟩

set_option maxHeartbeats 2000000 in
set_option maxRecDepth 100000 in
theorem rCheck_any (A : Option Addr) (n c : Nat) (l : List Trace) (w : World) (hl : Rd encTrace 10 w A n c l) :
    Calls Tryz.prog 43 #[.slice A n c] w
      fun e' w' => e' = .returned (.tuple #[.int .i64 (check l).1, .int .i64 (check l).2]) ∧ Below w.heap.size w w' := by
  have hbig := hl.big
  have hlen := hl.len
  have HL := Lib.hid hlen
  clear hlen
  go_enter Tryz.func43, Tryz.ntmps43
  go_wp2
  go_loopw [4] (fun i wr => ∃ k : Nat, k ≤ n ∧ i = .int .i64 k ∧ Below w.heap.size w wr ∧ Hid (check l = checkFrom l (n - k) k)) (fun i _ => n - (intOf i).toNat)
  case atStart => exact ⟨0, Nat.zero_le _, rfl, Below.refl _ _, (show _ = _ by unfold check; rw [HL.out]; rfl)⟩
  case round =>
    obtain ⟨k, hk, rfl, hb, hck⟩ := hrel
    have hzr := hb.size
    by_cases hlt : k < n
    · have hlw := hl.below hb (Nat.le_refl _)
      obtain ⟨b, off, x, rfl, hbw, hx, hcell⟩ := hlw.one hlt
      have c0 : wr.cell? ⟨b, off + k * 10, none⟩ = some (.int .i64 x.id) := hcell 0 _ rfl
      have c1 : wr.cell? ⟨b, off + k * 10 + 1, none⟩ = some (.int .i64 x.known) := hcell 1 _ rfl
      have c2 : wr.cell? ⟨b, off + k * 10 + 2, none⟩ = some (.int .u8 x.kind) := hcell 2 _ rfl
      have c3 : wr.cell? ⟨b, off + k * 10 + 3, none⟩ = some (.int .i64 x.pit) := hcell 3 _ rfl
      have c4 : wr.cell? ⟨b, off + k * 10 + 4, none⟩ = some (.int .i64 x.layer) := hcell 4 _ rfl
      have c5 : wr.cell? ⟨b, off + k * 10 + 5, none⟩ = some (.int .i64 x.lower) := hcell 5 _ rfl
      have c6 : wr.cell? ⟨b, off + k * 10 + 6, none⟩ = some (.int .i64 x.low) := hcell 6 _ rfl
      have c7 : wr.cell? ⟨b, off + k * 10 + 7, none⟩ = some (.int .i64 x.high) := hcell 7 _ rfl
      have c8 : wr.cell? ⟨b, off + k * 10 + 8, none⟩ = some (.int .i64 x.cost) := hcell 8 _ rfl
      have c9 : wr.cell? ⟨b, off + k * 10 + 9, none⟩ = some (.int .i64 x.void) := hcell 9 _ rfl
      have hcap := hlw.cap
      have hkc : k ≤ c := by omega
      have hkc' : (k : Int) ≤ (c : Int) := by omega
      have hlt' := hlw.take (m := k) (c' := k) (by omega) (by omega)
      clear hcell hl hlw
      have HX := Lib.hid hx
      clear hx
      go_wp2_with (fail)
      go_region_with (go_at_call 95; refine (rRefused_any _ _ _ _ x _ hlt'.drew).mono ?_; rintro e wF ⟨rfl, hbF⟩)
      all_goals go_wp2
      · have hne : (follows (l.take k) x != 0) = true := ‹_›
        go_ret2
        refine ⟨?_, (by ((repeat' (first | (with_reducible assumption) | (with_reducible exact Below.refl _ _) | (with_reducible refine Below.drew ?_) | (with_reducible refine below_drewN' ?_ _) | (with_reducible refine Below.alloc ?_ ?_ _) | (with_reducible refine Below.setCell ?_ ?_ _) | (with_reducible refine below_step (by assumption) ?_ ?_))) <;> first | (simp; done) | (simp; omega) | omega))⟩
        have := check_hit HX.out (by simpa using hne) (n := n) hlt hck.out
        rw [this]
        rfl
      · have hne : (follows (l.take k) x != 0) = false := ‹_›
        have hck' := check_step HX.out (by simpa using hne) (n := n) hlt hck.out
        go_roundw
        case rel => exact ⟨k + 1, by omega, by go_num, (by ((repeat' (first | (with_reducible assumption) | (with_reducible exact Below.refl _ _) | (with_reducible refine Below.drew ?_) | (with_reducible refine below_drewN' ?_ _) | (with_reducible refine Below.alloc ?_ ?_ _) | (with_reducible refine Below.setCell ?_ ?_ _) | (with_reducible refine below_step (by assumption) ?_ ?_))) <;> first | (simp; done) | (simp; omega) | omega)), hck'⟩
        case measure => simp [intOf]; omega
    · have : k = n := by omega
      subst this
      go_wp2
      go_ret2
      refine ⟨?_, hb⟩
      have := hck.out
      rw [Nat.sub_self] at this
      rw [this]
      rfl
end Go.Proofs.YtelnkflmnbhclaaGreat
end

/- What is proved: the contracts of Append and Counting, and of the law's few. Conditions: none. -/
section
namespace Go.Proofs.YtelnkflmnbhclaaGreat
open Go.RowKit Go.Proofs Go.Shelf

def fewB (nl nb : Nat) (most : Int) : Bool := decide (((nl : Int) ≤ most ∨ (140 < nl ∧ nl ≤ 143)) ∧ (nb ≤ 6 ∨ (60 < nb ∧ nb ≤ 63)))
theorem fewB_small {nl nb : Nat} {most : Int} (h : fewB nl nb most = true) (hm : most ≤ 143) : nl ≤ 143 ∧ nb ≤ 63 := by
  unfold fewB at h
  simp only [decide_eq_true_eq] at h
  omega
set_option maxHeartbeats 2000000 in
theorem few_any (A : Option Addr) (n c : Nat) (B : Option Addr) (m d : Nat) (most : Int) (w : World) :
    Calls Tryz.prog 23 #[.slice A n c, .slice B m d, .int .i64 most] w fun e w' => e = .returned (.bool (fewB n m most)) ∧ w' = w := by
  go_enter Tryz.func23, Tryz.ntmps23
  go_wp2
  all_goals go_ret
  all_goals refine ⟨retB ?_, rfl⟩
  all_goals
    unfold fewB
    rw [Bool.eq_iff_iff]
    simp only [Bool.and_eq_true, Bool.or_eq_true, decide_eq_true_eq, Bool.false_eq_true, false_iff, true_iff]
    omega

def appendV (l : List Trace) (x : Trace) : List Trace × Int := if (check l).2 ≠ 0 then ([], (check l).2) else if follows l x ≠ 0 then ([], follows l x) else (l ++ [x], 0)
set_option maxRecDepth 100000 in
set_option maxHeartbeats 1000000 in
theorem Append_any (A : Option Addr) (n c : Nat) (l : List Trace) (x : Trace) (w : World) (hl : Rd encTrace 10 w A n c l) :
    Calls Tryz.prog 36 #[.slice A n c, .agg #[.int .i64 x.id, .int .i64 x.known, .int .u8 x.kind, .int .i64 x.pit, .int .i64 x.layer, .int .i64 x.lower, .int .i64 x.low, .int .i64 x.high, .int .i64 x.cost, .int .i64 x.void]] w fun e w' => ∃ A' c', e = .returned (.tuple #[.slice A' (appendV l x).1.length c', .int .i64 (appendV l x).2]) ∧ Below w.heap.size w w' ∧
      Own encTrace 10 25 w.heap.size w' A' (appendV l x).1.length c' (appendV l x).1 := by
  obtain ⟨w1, hw1⟩ : ∃ w1, w.alloc (.cells #[.int .i64 x.id, .int .i64 x.known, .int .u8 x.kind, .int .i64 x.pit, .int .i64 x.layer, .int .i64 x.lower, .int .i64 x.low, .int .i64 x.high, .int .i64 x.cost, .int .i64 x.void] 25) = w1 := ⟨_, rfl⟩
  have hb1 : Below w.heap.size w w1 := (by rw [← hw1]; exact (Below.refl _ w).alloc (Nat.le_refl _) _)
  have hz1 : w1.heap.size = w.heap.size + 1 := (by rw [← hw1]; simp)
  have hr1 : w1.heap[w.heap.size]? = some (.cells #[.int .i64 x.id, .int .i64 x.known, .int .u8 x.kind, .int .i64 x.pit, .int .i64 x.layer, .int .i64 x.lower, .int .i64 x.low, .int .i64 x.high, .int .i64 x.cost, .int .i64 x.void] 25 (0, 0)) := (by rw [← hw1]; exact heap_alloc_new w _)
  have HC := Lib.hid (Check_any A n c l w1 (hl.below hb1 (Nat.le_refl _)))
  have HL := Lib.hid hl
  have cells : ∀ W : World, Below w1.heap.size w1 W → W.cell? ⟨w.heap.size, 0, none⟩ = some (.int .i64 x.id) ∧ W.cell? ⟨w.heap.size, 1, none⟩ = some (.int .i64 x.known) ∧ W.cell? ⟨w.heap.size, 2, none⟩ = some (.int .u8 x.kind) ∧ W.cell? ⟨w.heap.size, 3, none⟩ = some (.int .i64 x.pit) ∧ W.cell? ⟨w.heap.size, 4, none⟩ = some (.int .i64 x.layer) ∧ W.cell? ⟨w.heap.size, 5, none⟩ = some (.int .i64 x.lower) ∧ W.cell? ⟨w.heap.size, 6, none⟩ = some (.int .i64 x.low) ∧ W.cell? ⟨w.heap.size, 7, none⟩ = some (.int .i64 x.high) ∧ W.cell? ⟨w.heap.size, 8, none⟩ = some (.int .i64 x.cost) ∧ W.cell? ⟨w.heap.size, 9, none⟩ = some (.int .i64 x.void) := fun W hb => by
    have := (hb.block _ (by omega)).trans hr1
    simp [World.cell?, this]
  have CELLS := Lib.hid cells
  clear cells hl hr1
  by_cases he : (check l).2 = 0
  · have HE := Lib.hid he
    have hsm := check_small he
    rw [he] at HC
    have hv : appendV l x = if follows l x ≠ 0 then ([], follows l x) else (l ++ [x], 0) := by unfold appendV; rw [if_neg (by simpa using he)]
    rw [hv]
    clear hv he
    obtain ⟨f, hf⟩ : ∃ f, follows l x = f := ⟨_, rfl⟩
    have hfol := fun W (hb : Below w1.heap.size w1 W) => follows_any A n c l x.id x.known x.kind x.pit x.layer x.lower x.low x.high x.cost x.void W (HL.out.below (hb1.trans (hb.mono (by omega))) (Nat.le_refl _))
    have HF := Lib.hid (show ∀ W, Below w1.heap.size w1 W → Calls Tryz.prog 89 #[.slice A n c, .agg #[.int .i64 x.id, .int .i64 x.known, .int .u8 x.kind, .int .i64 x.pit, .int .i64 x.layer, .int .i64 x.lower, .int .i64 x.low, .int .i64 x.high, .int .i64 x.cost, .int .i64 x.void]] W fun e' w' => e' = .returned (.int .i64 f) ∧ Below W.heap.size W w' by
      intro W hb; have := hfol W hb; rw [← hf]; exact this)
    rw [hf]
    clear hfol hf
    have hnl := HL.out.len
    by_cases hf0 : f = 0
    · subst hf0
      rw [if_neg (by simp)]
      go_enter Tryz.func36, Tryz.ntmps36
      go_wp2_with (first
        | (go_at_call 42; (with_reducible refine HC.out.mono ?_); rintro e w2 ⟨rfl, hb2⟩
           obtain ⟨c0, c1, c2, c3, c4, c5, c6, c7, c8, c9⟩ := CELLS.out w2 hb2
           have HF2 := Lib.hid (HF.out w2 hb2)
           have HB2 := Lib.hid hb2
           clear hb2)
        | (go_at_call 89; (with_reducible refine HF2.out.mono ?_); rintro e w3 ⟨rfl, hb3⟩
           have HB3 := Lib.hid (HB2.out.trans (hb3.mono HB2.out.size))
           obtain ⟨d0, d1, d2, d3, d4, d5, d6, d7, d8, d9⟩ := CELLS.out w3 HB3.out
           have HCL := Lib.hid (Clone_Trace A n c l w3 (HL.out.below (hb1.trans (HB3.out.mono (by omega))) (Nat.le_refl _)) (by omega))
           clear hb3 c0 c1 c2 c3 c4 c5 c6 c7 c8 c9)
        | fail)
      have hs3 : w1.heap.size ≤ w3.heap.size := HB3.out.size
      have RDW : Hid (∀ W, Below w1.heap.size w1 W → Rd encTrace 10 W A n c l) := (show ∀ W, Below w1.heap.size w1 W → Rd encTrace 10 W A n c l from fun W hb => HL.out.below (hb1.trans (hb.mono (by omega))) (Nat.le_refl _))
      have SX : Hid (∀ W, Below w1.heap.size w1 W → Hid (Below w1.heap.size w1 W) ∧ W.cell? ⟨w.heap.size, 0, none⟩ = some (.int .i64 x.id) ∧ W.cell? ⟨w.heap.size, 1, none⟩ = some (.int .i64 x.known) ∧ W.cell? ⟨w.heap.size, 2, none⟩ = some (.int .u8 x.kind) ∧ W.cell? ⟨w.heap.size, 3, none⟩ = some (.int .i64 x.pit) ∧ W.cell? ⟨w.heap.size, 4, none⟩ = some (.int .i64 x.layer) ∧ W.cell? ⟨w.heap.size, 5, none⟩ = some (.int .i64 x.lower) ∧ W.cell? ⟨w.heap.size, 6, none⟩ = some (.int .i64 x.low) ∧ W.cell? ⟨w.heap.size, 7, none⟩ = some (.int .i64 x.high) ∧ W.cell? ⟨w.heap.size, 8, none⟩ = some (.int .i64 x.cost) ∧ W.cell? ⟨w.heap.size, 9, none⟩ = some (.int .i64 x.void)) := (show ∀ W, Below w1.heap.size w1 W → _ from fun W hb => ⟨hb, CELLS.out W hb⟩)
      go_region_held3 (fun W => Hid (Below w1.heap.size w1 W) ∧ W.cell? ⟨w.heap.size, 0, none⟩ = some (.int .i64 x.id) ∧ W.cell? ⟨w.heap.size, 1, none⟩ = some (.int .i64 x.known) ∧ W.cell? ⟨w.heap.size, 2, none⟩ = some (.int .u8 x.kind) ∧ W.cell? ⟨w.heap.size, 3, none⟩ = some (.int .i64 x.pit) ∧ W.cell? ⟨w.heap.size, 4, none⟩ = some (.int .i64 x.layer) ∧ W.cell? ⟨w.heap.size, 5, none⟩ = some (.int .i64 x.lower) ∧ W.cell? ⟨w.heap.size, 6, none⟩ = some (.int .i64 x.low) ∧ W.cell? ⟨w.heap.size, 7, none⟩ = some (.int .i64 x.high) ∧ W.cell? ⟨w.heap.size, 8, none⟩ = some (.int .i64 x.cost) ∧ W.cell? ⟨w.heap.size, 9, none⟩ = some (.int .i64 x.void)) (first | exact SX.out _ HB6.out | exact SX.out _ HB4.out | exact SX.out _ (HB4.out.alloc HB4.out.size _) | exact SX.out _ HB3.out.drew | exact SX.out _ (HB3.out.drew.alloc hs3 _))
        (first
          | (go_at_call 90; (with_reducible refine (Clone_Trace A n c l _ (RDW.out _ HB3.out.drew) (by omega)).mono ?_); rintro e w4 ⟨A4, c4, rfl, hO4, hb4⟩
             have HB4 := Lib.hid (HB3.out.drew.trans (hb4.mono hs3))
             have hs4 := HB4.out.size
             have HO5 := Lib.hid ((hO4.mono (show w1.heap.size ≤ w3.drew.heap.size from hs3)).alloc (.cells #[.int .i64 x.id, .int .i64 x.known, .int .u8 x.kind, .int .i64 x.pit, .int .i64 x.layer, .int .i64 x.lower, .int .i64 x.low, .int .i64 x.high, .int .i64 x.cost, .int .i64 x.void] 25))
             have HR5 := Lib.hid (Rd.single (enc := encTrace) (k := 10) w4 #[.int .i64 x.id, .int .i64 x.known, .int .u8 x.kind, .int .i64 x.pit, .int .i64 x.layer, .int .i64 x.lower, .int .i64 x.low, .int .i64 x.high, .int .i64 x.cost, .int .i64 x.void] 25 [x] 1 rfl (by omega) (fun _ => rfl) (by simp [encTrace]))
             clear hO4 hb4)
          | (go_at_call 90; (with_reducible refine (Clone_Trace A n c l _ (RDW.out _ ((HB3.out.alloc hs3 _).drew)) (by omega)).mono ?_); rintro e w4 ⟨A4, c4, rfl, hO4, hb4⟩
             have HB4 := Lib.hid (((HB3.out.alloc hs3 (.cells #[.int .i64 x.id, .int .i64 x.known, .int .u8 x.kind, .int .i64 x.pit, .int .i64 x.layer, .int .i64 x.lower, .int .i64 x.low, .int .i64 x.high, .int .i64 x.cost, .int .i64 x.void] 25)).drew).trans (hb4.mono (show w1.heap.size ≤ (w3.alloc _).heap.size by simp; omega)))
             have hs4 := HB4.out.size
             have HO5 := Lib.hid (hO4.mono (show w1.heap.size ≤ (w3.alloc (.cells #[.int .i64 x.id, .int .i64 x.known, .int .u8 x.kind, .int .i64 x.pit, .int .i64 x.layer, .int .i64 x.lower, .int .i64 x.low, .int .i64 x.high, .int .i64 x.cost, .int .i64 x.void] 25)).heap.size by simp; omega))
             have HR5 := Lib.hid ((Rd.single (enc := encTrace) (k := 10) w3 #[.int .i64 x.id, .int .i64 x.known, .int .u8 x.kind, .int .i64 x.pit, .int .i64 x.layer, .int .i64 x.lower, .int .i64 x.low, .int .i64 x.high, .int .i64 x.cost, .int .i64 x.void] 25 [x] 1 rfl (by omega) (fun _ => rfl) (by simp [encTrace])).drew.below hb4 (Nat.le_refl _))
             clear hO4 hb4)
          | (refine step_append_src elTrace (fun _ => rfl) oneTrace rfl (.tmp 24) (.tmp 26) rfl _ _ _ _ rfl rfl HO5.out HR5.out (by omega) (by decide) (by (try simp); omega) ?_; intro A6 c6 w6 hO6 hg6 hA6
             have HB6 := Lib.hid (show Below w1.heap.size w1 w6 from by first | exact (HB4.out.alloc hs4 _).grown hg6 (by simp; omega) (fun j e => HO5.out.ltB j e) | exact HB4.out.grown hg6 hs4 (fun j e => HO5.out.ltB j e))
             have HO6 := Lib.hid hO6
             clear hO6 hg6 hA6))
      all_goals go_wp2
      all_goals go_ret2
      all_goals exact ⟨A6, c6, by simp [hnl], hb1.trans (HB6.out.mono (by omega)), by simpa [hnl] using HO6.out.mono (B' := w.heap.size) (by omega)⟩
    · rw [if_pos hf0]
      have hf1 := neBool hf0
      go_enter Tryz.func36, Tryz.ntmps36
      go_wp2_with (first
        | (go_at_call 42; (with_reducible refine HC.out.mono ?_); rintro e w2 ⟨rfl, hb2⟩
           obtain ⟨c0, c1, c2, c3, c4, c5, c6, c7, c8, c9⟩ := CELLS.out w2 hb2
           have HF2 := Lib.hid (HF.out w2 hb2)
           have HB2 := Lib.hid hb2
           clear hb2)
        | (go_at_call 89; (with_reducible refine HF2.out.mono ?_); rintro e w3 ⟨rfl, hb3⟩
           have HB3 := Lib.hid (HB2.out.trans (hb3.mono HB2.out.size))
           clear hb3))
      go_ret2
      exact ⟨none, 0, rfl, hb1.trans (HB3.out.mono (by omega)), Own.none_ _ _ _ _ _⟩
  · have hv : appendV l x = ([], (check l).2) := by unfold appendV; rw [if_pos he]
    rw [hv]
    have he' := neBool he
    go_enter Tryz.func36, Tryz.ntmps36
    go_wp2_with (first
      | (go_at_call 42; (with_reducible refine HC.out.mono ?_); rintro e w2 ⟨rfl, hb2⟩
         have HB2 := Lib.hid hb2
         clear hb2))
    go_ret2
    exact ⟨none, 0, rfl, hb1.trans (HB2.out.mono (by omega)), Own.none_ _ _ _ _ _⟩

def countingV (l : List Trace) (known : Int) : List Trace × Int := if (check l).2 ≠ 0 then ([], (check l).2) else (counting l known, 0)
theorem Counting_any (A : Option Addr) (n c : Nat) (l : List Trace) (known : Int) (w : World) (hl : Rd encTrace 10 w A n c l) :
    Calls Tryz.prog 45 #[.slice A n c, .int .i64 known] w fun e w' => ∃ A' m c', e = .returned (.tuple #[.slice A' m c', .int .i64 (countingV l known).2]) ∧ Below w.heap.size w w' ∧ Own encTrace 10 25 w.heap.size w' A' m c' (countingV l known).1 := by
  have HC := Lib.hid (Check_any A n c l w hl)
  have HL := Lib.hid hl
  clear hl
  by_cases he : (check l).2 = 0
  · have hsm := check_small he
    have hnl := HL.out.len
    rw [he] at HC
    have hv : countingV l known = (counting l known, 0) := by unfold countingV; rw [if_neg (by simpa using he)]
    rw [hv]
    clear hv he
    go_enter Tryz.func45, Tryz.ntmps45
    go_wp2_with (first
      | (go_at_call 42; (with_reducible refine HC.out.mono ?_); rintro e w2 ⟨rfl, hb2⟩
         have HK := Lib.hid (counting_any A n c l known w2 (HL.out.below hb2 (Nat.le_refl _)) (by omega))
         have HB2 := Lib.hid hb2
         clear hb2)
      | (go_at_call 96; (with_reducible refine HK.out.mono ?_); rintro e w3 ⟨A3, m3, c3, rfl, hO3, hb3⟩
         have HO3 := Lib.hid hO3
         have HB3 := Lib.hid (HB2.out.trans (hb3.mono HB2.out.size))
         clear hb3 hO3))
    go_ret2
    exact ⟨A3, m3, c3, rfl, HB3.out, HO3.out.mono HB2.out.size⟩
  · have hv : countingV l known = ([], (check l).2) := by unfold countingV; rw [if_pos he]
    rw [hv]
    have he' := neBool he
    go_enter Tryz.func45, Tryz.ntmps45
    go_wp2_with (first
      | (go_at_call 42; (with_reducible refine HC.out.mono ?_); rintro e w2 ⟨rfl, hb2⟩
         have HB2 := Lib.hid hb2
         clear hb2))
    go_ret2
    exact ⟨none, 0, 0, rfl, HB2.out, Own.none_ _ _ _ _ _⟩
end Go.Proofs.YtelnkflmnbhclaaGreat
end

/- What is proved: the contracts of the reference's counting, Counting, CheckBonds and Append. Conditions: none. -/
section
namespace Go.Proofs.YtelnkflmnbhclaaGreat
open Go.RowKit Go.Proofs Go.Shelf

theorem waysV (y x : Trace) (known : Int) : y.kind ≠ 4 ∨ (y.kind = 4 ∧ known < y.known) ∨ (y.kind = 4 ∧ y.known ≤ known ∧ y.void ≠ x.id) ∨ (y.kind = 4 ∧ y.known ≤ known ∧ y.void = x.id) := by omega
theorem two_ (a b : Int) : (a = b ∧ (a == b) = true ∧ (a != b) = false) ∨ (a ≠ b ∧ (a == b) = false ∧ (a != b) = true) := by by_cases h : a = b <;> simp [h]
theorem pc_first (x : Trace) (known : Int) : (x.kind != 4 && decide (x.known ≤ known)) = !(decide (x.kind = 4) || decide (known < x.known)) := by
  rw [Bool.eq_iff_iff]
  simp only [Bool.and_eq_true, bne_iff_ne, decide_eq_true_eq, Bool.not_eq_true', Bool.or_eq_false_iff, decide_eq_false_iff_not, ne_eq]
  omega
set_option maxHeartbeats 4000000 in
set_option maxRecDepth 100000 in
theorem rcounting_any (A : Option Addr) (n c : Nat) (l : List Trace) (known : Int) (w : World) (hl : Rd encTrace 10 w A n c l) (hsm : n ≤ 1000000) :
    Calls Tryz.prog 83 #[.slice A n c, .int .i64 known] w fun e w' => ∃ A' m c', e = .returned (.slice A' m c') ∧ Own encTrace 10 25 w.heap.size w' A' m c' (counting l known) ∧ Below w.heap.size w w' := by
  have hnl := Lib.hid hl.len
  have HL := Lib.hid hl
  clear hl
  go_enter Tryz.func83, Tryz.ntmps83
  go_wp2
  go_loopw [5, 6] (fun s5 s6 wr => ∃ (i : Nat) (A' : Option Addr) (c' : Nat) (xs : List Trace), i ≤ n ∧ s5 = .slice A' xs.length c' ∧ s6 = .int .i64 i ∧ Hid (Below w.heap.size w wr) ∧ Hid (xs = (l.take i).filter fun x => !pc l known x) ∧ Hid (Own encTrace 10 25 w.heap.size wr A' xs.length c' xs)) (fun _ s6 _ => n - (intOf s6).toNat)
  case atStart => exact ⟨0, none, 0, [], Nat.zero_le _, rfl, rfl, (show Below _ _ _ from Below.refl _ _), (show _ = _ from rfl), (show Own _ _ _ _ _ _ _ _ _ from Own.none_ _ _ _ _ _)⟩
  case round =>
    rename World => wo
    obtain ⟨i, A', c', xs, hi, rfl, rfl, hb, hxs, hO⟩ := hrel
    have hzr := hb.out.size
    by_cases hlt : i < n
    · obtain ⟨b, off, x, rfl, hbw, hx, hcell⟩ := (HL.out.below hb.out (Nat.le_refl _)).one hlt
      have c0 : wo.cell? ⟨b, off + i * 10, none⟩ = some (.int .i64 x.id) := hcell 0 _ rfl
      have c1 : wo.cell? ⟨b, off + i * 10 + 1, none⟩ = some (.int .i64 x.known) := hcell 1 _ rfl
      have c2 : wo.cell? ⟨b, off + i * 10 + 2, none⟩ = some (.int .u8 x.kind) := hcell 2 _ rfl
      have c3 : wo.cell? ⟨b, off + i * 10 + 3, none⟩ = some (.int .i64 x.pit) := hcell 3 _ rfl
      have c4 : wo.cell? ⟨b, off + i * 10 + 4, none⟩ = some (.int .i64 x.layer) := hcell 4 _ rfl
      have c5 : wo.cell? ⟨b, off + i * 10 + 5, none⟩ = some (.int .i64 x.lower) := hcell 5 _ rfl
      have c6 : wo.cell? ⟨b, off + i * 10 + 6, none⟩ = some (.int .i64 x.low) := hcell 6 _ rfl
      have c7 : wo.cell? ⟨b, off + i * 10 + 7, none⟩ = some (.int .i64 x.high) := hcell 7 _ rfl
      have c8 : wo.cell? ⟨b, off + i * 10 + 8, none⟩ = some (.int .i64 x.cost) := hcell 8 _ rfl
      have c9 : wo.cell? ⟨b, off + i * 10 + 9, none⟩ = some (.int .i64 x.void) := hcell 9 _ rfl
      have HX := Lib.hid hx
      have hxl : xs.length ≤ 1000000 := (by have h1 := hxs.out; rw [h1]; have := List.length_filter_le (fun x => !pc l known x) (l.take i); rw [List.length_take] at this; omega)
      clear hcell hx
      obtain ⟨s0, hs0⟩ : ∃ s0 : Bool, s0 = (x.kind != 4 && decide (x.known ≤ known)) := ⟨_, rfl⟩
      have HS0 := Lib.hid hs0
      clear hs0
      go_upto_region 5 with (fail)
      go_cut [7] (fun s7 wx => s7 = .bool s0 ∧ wo = wx)
      case first =>
        have h0 := HS0.out
        rcases two_ x.kind 4 with ⟨k1, k2, k3⟩ | ⟨k1, k2, k3⟩ <;> by_cases k4 : x.known ≤ known
        all_goals
          rw [k3] at h0
          (first | rw [decide_eq_true k4] at h0 | rw [decide_eq_false k4] at h0)
          simp only [Bool.and_true, Bool.and_false] at h0
          subst h0
          clear k1
          go_wp2_with (fail)
          go_meet
        all_goals exact ⟨rfl, rfl⟩
      case rest =>
       obtain ⟨rfl, rfl⟩ := hcut
       go_wp2_with (fail)
       go_loopw [7, 8] (fun s7 s8 wq => ∃ (k : Nat) (s : Bool), k ≤ n ∧ s7 = .bool s ∧ s8 = .int .i64 k ∧ Hid (Below wo.heap.size wo wq) ∧ Hid (s = (s0 && !(l.take k).any (pv known x)))) (fun _ s8 _ => n - (intOf s8).toNat)
       case atStart => exact ⟨0, s0, Nat.zero_le _, rfl, rfl, (show Below _ _ _ from Below.refl _ _), (show _ = _ by simp)⟩
       case round =>
         obtain ⟨k, s, hk, rfl, rfl, hq, hsv⟩ := hrel
         have hzq := hq.out.size
         by_cases hlt2 : k < n
         · obtain ⟨b2, off2, y, hA2, hbw2, hy, hcell2⟩ := (HL.out.below (hb.out.trans (hq.out.mono hzr)) (Nat.le_refl _)).one hlt2
           cases hA2
           have y2 : wr.cell? ⟨b, off + k * 10 + 2, none⟩ = some (.int .u8 y.kind) := hcell2 2 _ rfl
           have y1 : wr.cell? ⟨b, off + k * 10 + 1, none⟩ = some (.int .i64 y.known) := hcell2 1 _ rfl
           have y9 : wr.cell? ⟨b, off + k * 10 + 9, none⟩ = some (.int .i64 y.void) := hcell2 9 _ rfl
           have x0 : wr.cell? ⟨b, off + i * 10, none⟩ = some (.int .i64 x.id) := (hq.out.cell (p := ⟨b, _, none⟩) hbw).trans c0
           have SN := Lib.hid (snoc_any hy (pv known x))
           clear hcell2 hy
           rcases two_ y.kind 4 with ⟨k1, k2, k3⟩ | ⟨k1, k2, k3⟩
           all_goals
             have K1 := Lib.hid k1
             clear k1
           · by_cases hkn : y.known ≤ known
             · rcases two_ y.void x.id with ⟨v1, v2, v3⟩ | ⟨v1, v2, v3⟩
               all_goals
                 have V1 := Lib.hid v1
                 clear v1
               all_goals
                 go_wp2_with (go_quiet (fail))
                 go_roundw
               all_goals first
                 | (simp [intOf]; omega)
                 | exact ⟨k + 1, _, by omega, rfl, by go_num, (show Below _ _ _ from below_drewN' hq.out _), (show _ = _ by have h1 := K1.out; have h2 := V1.out; rw [SN.out]; (first | rw [hsv.out] | skip); simp [pv, h1, h2, hkn])⟩
             · go_wp2_with (go_quiet (fail))
               go_roundw
               all_goals first
                 | (simp [intOf]; omega)
                 | exact ⟨k + 1, _, by omega, rfl, by go_num, (show Below _ _ _ from below_drewN' hq.out _), (show _ = _ by rw [SN.out, hsv.out]; simp [pv, hkn])⟩
           · go_wp2_with (go_quiet (fail))
             go_roundw
             all_goals first
               | (simp [intOf]; omega)
               | exact ⟨k + 1, _, by omega, rfl, by go_num, (show Below _ _ _ from below_drewN' hq.out _), (show _ = _ by have h1 := K1.out; rw [SN.out, hsv.out]; simp [pv, h1])⟩
         · have hkn : k = n := by omega
           subst hkn
           have hs2 : Hid (s = !pc l known x) := (show _ = _ by
             have h1 := hsv.out
             rw [List.take_of_length_le (by rw [hnl.out]; exact Nat.le_refl _)] at h1
             rw [h1, HS0.out]; unfold pc; rw [Bool.not_or]; congr 1; exact pc_first x known)
           clear hsv
           have hbq := hb.out.trans (hq.out.mono hzr)
           have hOq := hO.out.below hq.out (Nat.le_refl _)
           have hf : Hid ((l.take (i + 1)).filter (fun x => !pc l known x) = xs ++ (if s then [x] else [])) := (show _ = _ by
             rw [List.take_add_one, HX.out, Option.toList_some, List.filter_append, ← hxs.out]
             congr 1
             have h2 := hs2.out
             rw [List.filter_cons]
             rw [← h2]; rfl)
           cases s
           · go_wp2_with (fail)
             go_roundw
             all_goals first
               | (simp [intOf]; omega)
               | exact ⟨i + 1, A', c', xs, by omega, rfl, by go_num, hbq, (show _ = _ by rw [hf.out]; simp), hOq⟩
           · have e0 : wr.cell? ⟨b, off + i * 10, none⟩ = some (.int .i64 x.id) := (hq.out.cell (p := ⟨b, _, none⟩) hbw).trans c0
             have e1 : wr.cell? ⟨b, off + i * 10 + 1, none⟩ = some (.int .i64 x.known) := (hq.out.cell (p := ⟨b, _, none⟩) hbw).trans c1
             have e2 : wr.cell? ⟨b, off + i * 10 + 2, none⟩ = some (.int .u8 x.kind) := (hq.out.cell (p := ⟨b, _, none⟩) hbw).trans c2
             have e3 : wr.cell? ⟨b, off + i * 10 + 3, none⟩ = some (.int .i64 x.pit) := (hq.out.cell (p := ⟨b, _, none⟩) hbw).trans c3
             have e4 : wr.cell? ⟨b, off + i * 10 + 4, none⟩ = some (.int .i64 x.layer) := (hq.out.cell (p := ⟨b, _, none⟩) hbw).trans c4
             have e5 : wr.cell? ⟨b, off + i * 10 + 5, none⟩ = some (.int .i64 x.lower) := (hq.out.cell (p := ⟨b, _, none⟩) hbw).trans c5
             have e6 : wr.cell? ⟨b, off + i * 10 + 6, none⟩ = some (.int .i64 x.low) := (hq.out.cell (p := ⟨b, _, none⟩) hbw).trans c6
             have e7 : wr.cell? ⟨b, off + i * 10 + 7, none⟩ = some (.int .i64 x.high) := (hq.out.cell (p := ⟨b, _, none⟩) hbw).trans c7
             have e8 : wr.cell? ⟨b, off + i * 10 + 8, none⟩ = some (.int .i64 x.cost) := (hq.out.cell (p := ⟨b, _, none⟩) hbw).trans c8
             have e9 : wr.cell? ⟨b, off + i * 10 + 9, none⟩ = some (.int .i64 x.void) := (hq.out.cell (p := ⟨b, _, none⟩) hbw).trans c9
             clear c0 c1 c2 c3 c4 c5 c6 c7 c8 c9
             have hO5 := hOq.alloc (.cells #[.int .i64 x.id, .int .i64 x.known, .int .u8 x.kind, .int .i64 x.pit, .int .i64 x.layer, .int .i64 x.lower, .int .i64 x.low, .int .i64 x.high, .int .i64 x.cost, .int .i64 x.void] 25)
             have hrd5 := Rd.single (enc := encTrace) (k := 10) wr #[.int .i64 x.id, .int .i64 x.known, .int .u8 x.kind, .int .i64 x.pit, .int .i64 x.layer, .int .i64 x.lower, .int .i64 x.low, .int .i64 x.high, .int .i64 x.cost, .int .i64 x.void] 25 [x] 1 rfl (by omega) (fun _ => rfl) (by simp [encTrace])
             have HB5 := Lib.hid (hbq.alloc (by omega) (.cells #[.int .i64 x.id, .int .i64 x.known, .int .u8 x.kind, .int .i64 x.pit, .int .i64 x.layer, .int .i64 x.lower, .int .i64 x.low, .int .i64 x.high, .int .i64 x.cost, .int .i64 x.void] 25))
             go_wp2_with (at_builtin; refine wpList_append_src elTrace (fun _ => rfl) oneTrace rfl _ _ rfl _ _ _ _ rfl rfl hO5 hrd5 (by omega) (by decide) (by simp; omega) ?_; intro A6 c6 w6 hO6 hg6 hA6
                          have HB6 := Lib.hid (HB5.out.grown hg6 (by simp; omega) (fun j e => hO5.ltB j e))
                          have HO6 := Lib.hid hO6
                          clear hO6 hg6 hA6)
             go_roundw
             all_goals first
               | (simp [intOf]; omega)
               | exact ⟨i + 1, A6, c6, xs ++ [x], by omega, by simp, by go_num, HB6.out, (show _ = _ by rw [hf.out]; rfl), (show Own _ _ _ _ _ _ _ _ _ by rw [List.length_append]; exact HO6.out)⟩
    · have hin : i = n := by omega
      subst hin
      go_wp2
      go_ret
      exact ⟨A', xs.length, c', rfl, (show Own _ _ _ _ _ _ _ _ _ by
        have h1 := hxs.out
        rw [List.take_of_length_le (by rw [hnl.out]; exact Nat.le_refl _)] at h1
        unfold counting
        rw [← h1]; exact hO.out), hb.out⟩

theorem rCounting_any (A : Option Addr) (n c : Nat) (l : List Trace) (known : Int) (w : World) (hl : Rd encTrace 10 w A n c l) :
    Calls Tryz.prog 46 #[.slice A n c, .int .i64 known] w fun e w' => ∃ A' m c', e = .returned (.tuple #[.slice A' m c', .int .i64 (countingV l known).2]) ∧ Below w.heap.size w w' ∧ Own encTrace 10 25 w.heap.size w' A' m c' (countingV l known).1 := by
  have HC := Lib.hid (rCheck_any A n c l w hl)
  have HL := Lib.hid hl
  clear hl
  by_cases he : (check l).2 = 0
  · have hsm := check_small he
    have hnl := HL.out.len
    rw [he] at HC
    have hv : countingV l known = (counting l known, 0) := by unfold countingV; rw [if_neg (by simpa using he)]
    rw [hv]
    have hn140 : n ≤ 140 := by omega
    clear hv he hsm hnl
    go_enter Tryz.func46, Tryz.ntmps46
    go_wp2_with (first
      | (go_at_call 43; (with_reducible refine HC.out.mono ?_); rintro e w2 ⟨rfl, hb2⟩
         have HK := Lib.hid (rcounting_any A n c l known w2 (HL.out.below hb2 (Nat.le_refl _)) (by omega))
         have HB2 := Lib.hid hb2
         clear hb2)
      | (go_at_call 83; (with_reducible refine HK.out.mono ?_); rintro e w3 ⟨A3, m3, c3, rfl, hO3, hb3⟩
         have HO3 := Lib.hid hO3
         have HB3 := Lib.hid (HB2.out.trans (hb3.mono HB2.out.size))
         clear hb3 hO3))
    go_ret2
    exact ⟨A3, m3, c3, rfl, HB3.out, HO3.out.mono HB2.out.size⟩
  · have hv : countingV l known = ([], (check l).2) := by unfold countingV; rw [if_pos he]
    rw [hv]
    have he' := neBool he
    go_enter Tryz.func46, Tryz.ntmps46
    go_wp2_with (first
      | (go_at_call 43; (with_reducible refine HC.out.mono ?_); rintro e w2 ⟨rfl, hb2⟩
         have HB2 := Lib.hid hb2
         clear hb2))
    go_ret2
    exact ⟨none, 0, 0, rfl, HB2.out, Own.none_ _ _ _ _ _⟩
end Go.Proofs.YtelnkflmnbhclaaGreat
end

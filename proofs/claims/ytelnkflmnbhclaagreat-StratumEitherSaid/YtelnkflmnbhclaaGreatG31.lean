/- What is proved: the drawn region in the second loop of years: one bound is put behind the others. Conditions: none. -/
import Derived.Test.YtelnkflmnbhclaaGreatG29
import Derived.Test.YtelnkflmnbhclaaGreatG18
namespace Go.Proofs.YtelnkflmnbhclaaGreat
open Go.RowKit Go.Proofs Go.Shelf

def code75_11 : Option Code → Code
  | some (.seq _ (.seq _ (.seq _ (.seq _ (.seq (.seq _ (.block _ (.loop (.seq _ (.seq _ (.seq (.block _ (.seq _ c)) _)))))) _))))) => c
  | _ => .skip
structure Pr11 (W : World) (yb nb : Nat) (Ab : Option Addr) (n cb mb : Nat) (x : Link) (x1 x2 : Int) : Prop where
  y1 : W.cell? ⟨yb, 1, none⟩ = some (.slice Ab n cb)
  y3 : W.cell? ⟨yb, 3, none⟩ = some (.map (some mb))
  n0 : W.cell? ⟨nb, 0, none⟩ = some (.int .i64 x.src.pit)
  n1 : W.cell? ⟨nb, 1, none⟩ = some (.int .i64 x.src.layer)
  n2 : W.cell? ⟨nb, 2, none⟩ = some (.int .i64 x.dst.pit)
  n3 : W.cell? ⟨nb, 3, none⟩ = some (.int .i64 x.dst.layer)
  n4 : W.cell? ⟨nb, 4, none⟩ = some (.int .i64 x.most)
  n5 : W.cell? ⟨nb, 5, none⟩ = some (.int .i64 x.by_)
  lk1 : (Instr.lookup 118 (.map (some mb)) (.agg #[.int .i64 x.src.pit, .int .i64 x.src.layer]) false).run Tryz.prog W = .ok (.int .i64 x1) W
  lk2 : (Instr.lookup 118 (.map (some mb)) (.agg #[.int .i64 x.dst.pit, .int .i64 x.dst.layer]) false).run Tryz.prog W = .ok (.int .i64 x2) W
def tab11 (yb nb nw : Nat) (Ab : Option Addr) (n cb mb : Nat) (x : Link) (x1 x2 : Int) (A' : Option Addr) (c' : Nat) : Nat → Value
  | 0 => .pointer (some ⟨yb, 0, none⟩)
  | 1 => .pointer (some ⟨yb, 1, none⟩)
  | 2 => .slice Ab n cb
  | 3 => .pointer (some ⟨yb, 3, none⟩)
  | 4 => .map (some mb)
  | 5 => .pointer (some ⟨nb, 0, none⟩)
  | 6 => .agg #[.int .i64 x.src.pit, .int .i64 x.src.layer]
  | 7 => .int .i64 x1
  | 8 => .pointer (some ⟨yb, 3, none⟩)
  | 9 => .map (some mb)
  | 10 => .pointer (some ⟨nb, 2, none⟩)
  | 11 => .agg #[.int .i64 x.dst.pit, .int .i64 x.dst.layer]
  | 12 => .int .i64 x2
  | 13 => .pointer (some ⟨nb, 4, none⟩)
  | 14 => .int .i64 x.most
  | 15 => .pointer (some ⟨nb, 5, none⟩)
  | 16 => .int .i64 x.by_
  | 17 => .agg #[.int .i64 x1, .int .i64 x2, .int .i64 x.most, .int .i64 x.by_]
  | 18 => .slice (some ⟨nw, 0, none⟩) 1 1
  | 19 => .slice A' (n + 1) c'
  | 20 => .pointer (some ⟨yb, 0, none⟩)
  | 21 => .pointer (some ⟨yb, 1, none⟩)
  | _ => undef
set_option maxRecDepth 100000 in
set_option maxHeartbeats 4000000 in
theorem years11 (c : Code) (hc : c = code75_11 Tryz.f75.body) (B yb nb : Nat) (Ab : Option Addr) (n cb mb : Nat) (x : Link) (x1 x2 : Int) (bds : List Bound) (a : Act) (w wb : World) (Q : Exit → Act → World → Prop)
    (hT : a.tmps.size = 73) (t5 : a.tmps.getD 5 undef = .pointer (some ⟨yb, 0, none⟩)) (t9 : a.tmps.getD 9 undef = .pointer (some ⟨nb, 0, none⟩))
    (hwb : wb = w.drew.alloc (.cells #[.int .i64 x1, .int .i64 x2, .int .i64 x.most, .int .i64 x.by_] 186))
    (hpa : Pr11 w.drew yb nb Ab n cb mb x x1 x2) (hpb : Pr11 wb yb nb Ab n cb mb x x1 x2) (hpc : ∀ w8, wb.grownBy w8 (blockOf Ab) → Pr11 w8 yb nb Ab n cb mb x x1 x2)
    (hfc : ∀ w8, wb.grownBy w8 (blockOf Ab) → w8.frozen? ⟨yb, 1, none⟩ = false)
    (hown : Own encBound 4 186 B wb Ab n cb bds) (hB : B ≤ wb.heap.size) (hn : n ≤ 1000)
    (hQ : ∀ A' c' w8, Own encBound 4 186 B w8 A' (n + 1) c' (bds ++ [⟨x1, x2, x.most, x.by_⟩]) → wb.grownBy w8 (blockOf Ab) →
      Q .normal { tmps := ((((((((((((((((((((((a.tmps.setIfInBounds 49 (.pointer (some ⟨yb, 0, none⟩))).setIfInBounds 50 (.pointer (some ⟨yb, 1, none⟩))).setIfInBounds 51 (.slice Ab n cb)).setIfInBounds 52 (.pointer (some ⟨yb, 3, none⟩))).setIfInBounds 53 (.map (some mb))).setIfInBounds 54 (.pointer (some ⟨nb, 0, none⟩))).setIfInBounds 55 (.agg #[.int .i64 x.src.pit, .int .i64 x.src.layer])).setIfInBounds 56 (.int .i64 x1)).setIfInBounds 57 (.pointer (some ⟨yb, 3, none⟩))).setIfInBounds 58 (.map (some mb))).setIfInBounds 59 (.pointer (some ⟨nb, 2, none⟩))).setIfInBounds 60 (.agg #[.int .i64 x.dst.pit, .int .i64 x.dst.layer])).setIfInBounds 61 (.int .i64 x2)).setIfInBounds 62 (.pointer (some ⟨nb, 4, none⟩))).setIfInBounds 63 (.int .i64 x.most)).setIfInBounds 64 (.pointer (some ⟨nb, 5, none⟩))).setIfInBounds 65 (.int .i64 x.by_)).setIfInBounds 66 (.agg #[.int .i64 x1, .int .i64 x2, .int .i64 x.most, .int .i64 x.by_])).setIfInBounds 67 (.slice (some ⟨w.drew.heap.size, 0, none⟩) 1 1)).setIfInBounds 68 (.slice A' (n + 1) c')).setIfInBounds 69 (.pointer (some ⟨yb, 0, none⟩))).setIfInBounds 70 (.pointer (some ⟨yb, 1, none⟩))), defers := a.defers } (w8.setCell ⟨yb, 1, none⟩ (.slice A' (n + 1) c'))) :
    c.wp Tryz.prog Q a w := by
  subst hc
  unfold code75_11 Tryz.f75
  dsimp only
  obtain ⟨wa, hwa⟩ : ∃ wa, w.drew = wa := ⟨_, rfl⟩
  rw [hwa] at hwb hpa hQ
  obtain ⟨nw, hnw⟩ : ∃ nw, wa.heap.size = nw := ⟨_, rfl⟩
  have hrd : Rd encBound 4 wb (some ⟨nw, 0, none⟩) 1 1 [⟨x1, x2, x.most, x.by_⟩] := (by
    have := Rd.single (enc := encBound) (k := 4) wa #[.int .i64 x1, .int .i64 x2, .int .i64 x.most, .int .i64 x.by_] 186 [⟨x1, x2, x.most, x.by_⟩] 1 rfl (by omega) (fun _ => rfl) (by simp [encBound])
    rw [hwb, ← hnw]; exact this)
  obtain ⟨A', c', wc, hrun, hO, hg, _⟩ := run_append_src elBound 115 (fun _ => rfl) oneBound hown (some ⟨nw, 0, none⟩) 1 1 [⟨x1, x2, x.most, x.by_⟩] hrd (by omega) (by omega) hB
  have hQ' := hQ A' c' wc hO hg
  have hpc' := hpc wc hg
  have hfc' := hfc wc hg
  rw [hnw] at hQ'
  obtain ⟨wd, hwd⟩ : ∃ wd, wc.setCell ⟨yb, 1, none⟩ (.slice A' (n + 1) c') = wd := ⟨_, rfl⟩
  rw [hwd] at hQ'
  clear hQ hpc hfc hO hg hrd hown
  obtain ⟨Wf, hWf⟩ : ∃ Wf : Array Bool → World, ∀ L, Wf L = if L.getD 22 false = true then wd else if L.getD 19 false = true then wc else if L.getD 18 false = true then wb else wa := ⟨fun L => if L.getD 22 false = true then wd else if L.getD 19 false = true then wc else if L.getD 18 false = true then wb else wa, fun _ => rfl⟩
  refine wpIn_wide.1 (wpIn_region_tab (F := Fence.wide) (nn := 5) (by kernel_rfl) (fun _ => trivial) (tab11 yb nb nw Ab n cb mb x x1 x2 A' c') Wf (by rw [hT]; kernel_rfl) ?_ ?_ ?_)
  · rw [hWf, hwa]; rfl
  · intro listed i o b hi ho hb
    obtain ⟨hun, oi, hoi, hall⟩ := mem_ready.1 hi
    have : oi = o := Option.some.inj (hoi.symm.trans ho)
    subst this
    clear hoi hi hQ'
    have hlt : i < 23 := by have := (Array.getElem?_eq_some_iff.1 ho).1; simpa using this
    have q5 := (hb.old 5 (dst_no hb (by kernel_rfl))).trans t5
    have q9 := (hb.old 9 (dst_no hb (by kernel_rfl))).trans t9
    have hun' : listed.getD i false = false := getD_both hun
    have hsame : i ≠ 18 → i ≠ 19 → i ≠ 22 → Wf (listed.setIfInBounds i true) = Wf listed := fun h1 h2 h3 => by rw [hWf, hWf, getD_set_ne false h1, getD_set_ne false h2, getD_set_ne false h3]
    have hpr : listed.getD 22 false = false → ∃ W, Wf listed = W ∧ Pr11 W yb nb Ab n cb mb x x1 x2 := fun h => by
      refine ⟨_, rfl, ?_⟩
      rw [hWf, h]
      simp only [Bool.false_eq_true, if_false]
      split
      · exact hpc'
      · split
        · exact hpb
        · exact hpa
    rcases (by omega : i = 0 ∨ i = 1 ∨ i = 2 ∨ i = 3 ∨ i = 4 ∨ i = 5 ∨ i = 6 ∨ i = 7 ∨ i = 8 ∨ i = 9 ∨ i = 10 ∨ i = 11 ∨ i = 12 ∨ i = 13 ∨ i = 14 ∨ i = 15 ∨ i = 16 ∨ i = 17 ∨ i = 18 ∨ i = 19 ∨ i = 20 ∨ i = 21 ∨ i = 22) with rfl | rfl | rfl | rfl | rfl | rfl | rfl | rfl | rfl | rfl | rfl | rfl | rfl | rfl | rfl | rfl | rfl | rfl | rfl | rfl | rfl | rfl | rfl
    all_goals simp only [List.getElem?_toArray, List.getElem?_cons_zero, List.getElem?_cons_succ] at ho
    all_goals cases ho
    · -- 0
      have n22 : listed.getD 22 false = false := not_listed (hb.closed 22 _ rfl) ⟨0, .phase⟩ (by simp) rfl hun'
      obtain ⟨W, hW, ⟨y1, y3, n0, n1, n2, n3, n4, n5, lk1, lk2⟩⟩ := hpr n22
      refine .inl ?_
      rw [hsame (by decide) (by decide) (by decide), hW]
      clear hsame hpr hWf hW hwb hpa hpb hpc' hrun hwd
      go_simp
      try rfl
    · -- 1
      have e0 : b.tmps.getD 49 undef = .pointer (some ⟨yb, 0, none⟩) := hb.val 0 49 rfl (hall ⟨0, .data⟩ (by simp) rfl)
      have e0' : b.tmps[49]?.getD undef = .pointer (some ⟨yb, 0, none⟩) := (by simpa using e0)
      have n22 : listed.getD 22 false = false := not_listed (hb.closed 22 _ rfl) ⟨1, .phase⟩ (by simp) rfl hun'
      obtain ⟨W, hW, ⟨y1, y3, n0, n1, n2, n3, n4, n5, lk1, lk2⟩⟩ := hpr n22
      refine .inl ?_
      rw [hsame (by decide) (by decide) (by decide), hW]
      clear hsame hpr hWf hW hwb hpa hpb hpc' hrun hwd
      go_simp
      try rfl
    · -- 2
      have e1 : b.tmps.getD 50 undef = .pointer (some ⟨yb, 1, none⟩) := hb.val 1 50 rfl (hall ⟨1, .data⟩ (by simp) rfl)
      have e1' : b.tmps[50]?.getD undef = .pointer (some ⟨yb, 1, none⟩) := (by simpa using e1)
      have n22 : listed.getD 22 false = false := not_listed (hb.closed 22 _ rfl) ⟨2, .phase⟩ (by simp) rfl hun'
      obtain ⟨W, hW, ⟨y1, y3, n0, n1, n2, n3, n4, n5, lk1, lk2⟩⟩ := hpr n22
      refine .inl ?_
      rw [hsame (by decide) (by decide) (by decide), hW]
      clear hsame hpr hWf hW hwb hpa hpb hpc' hrun hwd
      go_simp
      try rfl
    · -- 3
      have n22 : listed.getD 22 false = false := not_listed (hb.closed 22 _ rfl) ⟨3, .phase⟩ (by simp) rfl hun'
      obtain ⟨W, hW, ⟨y1, y3, n0, n1, n2, n3, n4, n5, lk1, lk2⟩⟩ := hpr n22
      refine .inl ?_
      rw [hsame (by decide) (by decide) (by decide), hW]
      clear hsame hpr hWf hW hwb hpa hpb hpc' hrun hwd
      go_simp
      try rfl
    · -- 4
      have e3 : b.tmps.getD 52 undef = .pointer (some ⟨yb, 3, none⟩) := hb.val 3 52 rfl (hall ⟨3, .data⟩ (by simp) rfl)
      have e3' : b.tmps[52]?.getD undef = .pointer (some ⟨yb, 3, none⟩) := (by simpa using e3)
      have n22 : listed.getD 22 false = false := not_listed (hb.closed 22 _ rfl) ⟨4, .phase⟩ (by simp) rfl hun'
      obtain ⟨W, hW, ⟨y1, y3, n0, n1, n2, n3, n4, n5, lk1, lk2⟩⟩ := hpr n22
      refine .inl ?_
      rw [hsame (by decide) (by decide) (by decide), hW]
      clear hsame hpr hWf hW hwb hpa hpb hpc' hrun hwd
      go_simp
      try rfl
    · -- 5
      have n22 : listed.getD 22 false = false := not_listed (hb.closed 22 _ rfl) ⟨5, .phase⟩ (by simp) rfl hun'
      obtain ⟨W, hW, ⟨y1, y3, n0, n1, n2, n3, n4, n5, lk1, lk2⟩⟩ := hpr n22
      refine .inl ?_
      rw [hsame (by decide) (by decide) (by decide), hW]
      clear hsame hpr hWf hW hwb hpa hpb hpc' hrun hwd
      go_simp
      try rfl
    · -- 6
      have e5 : b.tmps.getD 54 undef = .pointer (some ⟨nb, 0, none⟩) := hb.val 5 54 rfl (hall ⟨5, .data⟩ (by simp) rfl)
      have e5' : b.tmps[54]?.getD undef = .pointer (some ⟨nb, 0, none⟩) := (by simpa using e5)
      have n22 : listed.getD 22 false = false := not_listed (hb.closed 22 _ rfl) ⟨6, .phase⟩ (by simp) rfl hun'
      obtain ⟨W, hW, ⟨y1, y3, n0, n1, n2, n3, n4, n5, lk1, lk2⟩⟩ := hpr n22
      refine .inl ?_
      rw [hsame (by decide) (by decide) (by decide), hW]
      clear hsame hpr hWf hW hwb hpa hpb hpc' hrun hwd
      go_simp
      try rfl
    · -- 7
      have e4 : b.tmps.getD 53 undef = .map (some mb) := hb.val 4 53 rfl (hall ⟨4, .data⟩ (by simp) rfl)
      have e4' : b.tmps[53]?.getD undef = .map (some mb) := (by simpa using e4)
      have e6 : b.tmps.getD 55 undef = .agg #[.int .i64 x.src.pit, .int .i64 x.src.layer] := hb.val 6 55 rfl (hall ⟨6, .data⟩ (by simp) rfl)
      have e6' : b.tmps[55]?.getD undef = .agg #[.int .i64 x.src.pit, .int .i64 x.src.layer] := (by simpa using e6)
      have n22 : listed.getD 22 false = false := not_listed (hb.closed 22 _ rfl) ⟨7, .phase⟩ (by simp) rfl hun'
      obtain ⟨W, hW, ⟨y1, y3, n0, n1, n2, n3, n4, n5, lk1, lk2⟩⟩ := hpr n22
      refine .inl ?_
      rw [hsame (by decide) (by decide) (by decide), hW]
      clear hsame hpr hWf hW hwb hpa hpb hpc' hrun hwd
      go_simp
      try rfl
    · -- 8
      have n22 : listed.getD 22 false = false := not_listed (hb.closed 22 _ rfl) ⟨8, .phase⟩ (by simp) rfl hun'
      obtain ⟨W, hW, ⟨y1, y3, n0, n1, n2, n3, n4, n5, lk1, lk2⟩⟩ := hpr n22
      refine .inl ?_
      rw [hsame (by decide) (by decide) (by decide), hW]
      clear hsame hpr hWf hW hwb hpa hpb hpc' hrun hwd
      go_simp
      try rfl
    · -- 9
      have e8 : b.tmps.getD 57 undef = .pointer (some ⟨yb, 3, none⟩) := hb.val 8 57 rfl (hall ⟨8, .data⟩ (by simp) rfl)
      have e8' : b.tmps[57]?.getD undef = .pointer (some ⟨yb, 3, none⟩) := (by simpa using e8)
      have n22 : listed.getD 22 false = false := not_listed (hb.closed 22 _ rfl) ⟨9, .phase⟩ (by simp) rfl hun'
      obtain ⟨W, hW, ⟨y1, y3, n0, n1, n2, n3, n4, n5, lk1, lk2⟩⟩ := hpr n22
      refine .inl ?_
      rw [hsame (by decide) (by decide) (by decide), hW]
      clear hsame hpr hWf hW hwb hpa hpb hpc' hrun hwd
      go_simp
      try rfl
    · -- 10
      have n22 : listed.getD 22 false = false := not_listed (hb.closed 22 _ rfl) ⟨10, .phase⟩ (by simp) rfl hun'
      obtain ⟨W, hW, ⟨y1, y3, n0, n1, n2, n3, n4, n5, lk1, lk2⟩⟩ := hpr n22
      refine .inl ?_
      rw [hsame (by decide) (by decide) (by decide), hW]
      clear hsame hpr hWf hW hwb hpa hpb hpc' hrun hwd
      go_simp
      try rfl
    · -- 11
      have e10 : b.tmps.getD 59 undef = .pointer (some ⟨nb, 2, none⟩) := hb.val 10 59 rfl (hall ⟨10, .data⟩ (by simp) rfl)
      have e10' : b.tmps[59]?.getD undef = .pointer (some ⟨nb, 2, none⟩) := (by simpa using e10)
      have n22 : listed.getD 22 false = false := not_listed (hb.closed 22 _ rfl) ⟨11, .phase⟩ (by simp) rfl hun'
      obtain ⟨W, hW, ⟨y1, y3, n0, n1, n2, n3, n4, n5, lk1, lk2⟩⟩ := hpr n22
      refine .inl ?_
      rw [hsame (by decide) (by decide) (by decide), hW]
      clear hsame hpr hWf hW hwb hpa hpb hpc' hrun hwd
      go_simp
      try rfl
    · -- 12
      have e9 : b.tmps.getD 58 undef = .map (some mb) := hb.val 9 58 rfl (hall ⟨9, .data⟩ (by simp) rfl)
      have e9' : b.tmps[58]?.getD undef = .map (some mb) := (by simpa using e9)
      have e11 : b.tmps.getD 60 undef = .agg #[.int .i64 x.dst.pit, .int .i64 x.dst.layer] := hb.val 11 60 rfl (hall ⟨11, .data⟩ (by simp) rfl)
      have e11' : b.tmps[60]?.getD undef = .agg #[.int .i64 x.dst.pit, .int .i64 x.dst.layer] := (by simpa using e11)
      have n22 : listed.getD 22 false = false := not_listed (hb.closed 22 _ rfl) ⟨12, .phase⟩ (by simp) rfl hun'
      obtain ⟨W, hW, ⟨y1, y3, n0, n1, n2, n3, n4, n5, lk1, lk2⟩⟩ := hpr n22
      refine .inl ?_
      rw [hsame (by decide) (by decide) (by decide), hW]
      clear hsame hpr hWf hW hwb hpa hpb hpc' hrun hwd
      go_simp
      try rfl
    · -- 13
      have n22 : listed.getD 22 false = false := not_listed (hb.closed 22 _ rfl) ⟨13, .phase⟩ (by simp) rfl hun'
      obtain ⟨W, hW, ⟨y1, y3, n0, n1, n2, n3, n4, n5, lk1, lk2⟩⟩ := hpr n22
      refine .inl ?_
      rw [hsame (by decide) (by decide) (by decide), hW]
      clear hsame hpr hWf hW hwb hpa hpb hpc' hrun hwd
      go_simp
      try rfl
    · -- 14
      have e13 : b.tmps.getD 62 undef = .pointer (some ⟨nb, 4, none⟩) := hb.val 13 62 rfl (hall ⟨13, .data⟩ (by simp) rfl)
      have e13' : b.tmps[62]?.getD undef = .pointer (some ⟨nb, 4, none⟩) := (by simpa using e13)
      have n22 : listed.getD 22 false = false := not_listed (hb.closed 22 _ rfl) ⟨14, .phase⟩ (by simp) rfl hun'
      obtain ⟨W, hW, ⟨y1, y3, n0, n1, n2, n3, n4, n5, lk1, lk2⟩⟩ := hpr n22
      refine .inl ?_
      rw [hsame (by decide) (by decide) (by decide), hW]
      clear hsame hpr hWf hW hwb hpa hpb hpc' hrun hwd
      go_simp
      try rfl
    · -- 15
      have n22 : listed.getD 22 false = false := not_listed (hb.closed 22 _ rfl) ⟨15, .phase⟩ (by simp) rfl hun'
      obtain ⟨W, hW, ⟨y1, y3, n0, n1, n2, n3, n4, n5, lk1, lk2⟩⟩ := hpr n22
      refine .inl ?_
      rw [hsame (by decide) (by decide) (by decide), hW]
      clear hsame hpr hWf hW hwb hpa hpb hpc' hrun hwd
      go_simp
      try rfl
    · -- 16
      have e15 : b.tmps.getD 64 undef = .pointer (some ⟨nb, 5, none⟩) := hb.val 15 64 rfl (hall ⟨15, .data⟩ (by simp) rfl)
      have e15' : b.tmps[64]?.getD undef = .pointer (some ⟨nb, 5, none⟩) := (by simpa using e15)
      have n22 : listed.getD 22 false = false := not_listed (hb.closed 22 _ rfl) ⟨16, .phase⟩ (by simp) rfl hun'
      obtain ⟨W, hW, ⟨y1, y3, n0, n1, n2, n3, n4, n5, lk1, lk2⟩⟩ := hpr n22
      refine .inl ?_
      rw [hsame (by decide) (by decide) (by decide), hW]
      clear hsame hpr hWf hW hwb hpa hpb hpc' hrun hwd
      go_simp
      try rfl
    · -- 17
      have e7 : b.tmps.getD 56 undef = .int .i64 x1 := hb.val 7 56 rfl (hall ⟨7, .data⟩ (by simp) rfl)
      have e7' : b.tmps[56]?.getD undef = .int .i64 x1 := (by simpa using e7)
      have e12 : b.tmps.getD 61 undef = .int .i64 x2 := hb.val 12 61 rfl (hall ⟨12, .data⟩ (by simp) rfl)
      have e12' : b.tmps[61]?.getD undef = .int .i64 x2 := (by simpa using e12)
      have e14 : b.tmps.getD 63 undef = .int .i64 x.most := hb.val 14 63 rfl (hall ⟨14, .data⟩ (by simp) rfl)
      have e14' : b.tmps[63]?.getD undef = .int .i64 x.most := (by simpa using e14)
      have e16 : b.tmps.getD 65 undef = .int .i64 x.by_ := hb.val 16 65 rfl (hall ⟨16, .data⟩ (by simp) rfl)
      have e16' : b.tmps[65]?.getD undef = .int .i64 x.by_ := (by simpa using e16)
      have n22 : listed.getD 22 false = false := not_listed (hb.closed 22 _ rfl) ⟨17, .phase⟩ (by simp) rfl hun'
      obtain ⟨W, hW, ⟨y1, y3, n0, n1, n2, n3, n4, n5, lk1, lk2⟩⟩ := hpr n22
      refine .inl ?_
      rw [hsame (by decide) (by decide) (by decide), hW]
      clear hsame hpr hWf hW hwb hpa hpb hpc' hrun hwd
      go_simp
      try rfl
    · -- 18
      have e17 : b.tmps.getD 66 undef = .agg #[.int .i64 x1, .int .i64 x2, .int .i64 x.most, .int .i64 x.by_] := hb.val 17 66 rfl (hall ⟨17, .data⟩ (by simp) rfl)
      have e17' : b.tmps[66]?.getD undef = .agg #[.int .i64 x1, .int .i64 x2, .int .i64 x.most, .int .i64 x.by_] := (by simpa using e17)
      have n19 : listed.getD 19 false = false := not_listed (hb.closed 19 _ rfl) ⟨18, .data⟩ (by simp) rfl hun'
      have n22 : listed.getD 22 false = false := not_listed (hb.closed 22 _ rfl) ⟨18, .phase⟩ (by simp) rfl hun'
      have h1 : Wf listed = wa := (by rw [hWf, n22, n19, hun']; rfl)
      have h2 : Wf (listed.setIfInBounds 18 true) = wb := (by rw [hWf, getD_set_ne false (by decide), getD_set_ne false (by decide), n22, n19, getD_set_self hb.size (by simp)]; rfl)
      refine .inl ?_
      rw [h1, h2]
      clear h1 h2 hWf hsame hpr
      subst hwb
      subst hnw
      go_simp
      try rfl
    · -- 19
      have e2 : b.tmps.getD 51 undef = .slice Ab n cb := hb.val 2 51 rfl (hall ⟨2, .data⟩ (by simp) rfl)
      have e2' : b.tmps[51]?.getD undef = .slice Ab n cb := (by simpa using e2)
      have e18 : b.tmps.getD 67 undef = .slice (some ⟨nw, 0, none⟩) 1 1 := hb.val 18 67 rfl (hall ⟨18, .data⟩ (by simp) rfl)
      have e18' : b.tmps[67]?.getD undef = .slice (some ⟨nw, 0, none⟩) 1 1 := (by simpa using e18)
      have p18 : listed.getD 18 false = true := hall ⟨18, .data⟩ (by simp) rfl
      have n22 : listed.getD 22 false = false := not_listed (hb.closed 22 _ rfl) ⟨19, .phase⟩ (by simp) rfl hun'
      have h1 : Wf listed = wb := (by rw [hWf, n22, hun', p18]; rfl)
      have h2 : Wf (listed.setIfInBounds 19 true) = wc := (by rw [hWf, getD_set_ne false (by decide), n22, getD_set_self hb.size (by simp)]; rfl)
      refine .inl ?_
      rw [h1, h2]
      have f2 : b.eval (.tmp 51) = .slice Ab n cb := e2
      have f18 : b.eval (.tmp 67) = .slice (some ⟨nw, 0, none⟩) 1 1 := e18
      simp only [execOp, resolve, invoke, builtin, Sem.run_bind, Sem.run_pure, Result.andThen_ok, List.map_toArray, List.map_cons, List.map_nil, f2, f18, hrun]
      rfl
    · -- 20
      have n21 : listed.getD 21 false = false := not_listed (hb.closed 21 _ rfl) ⟨20, .data⟩ (by simp) rfl hun'
      have n22 : listed.getD 22 false = false := not_listed (hb.closed 22 _ rfl) ⟨21, .data⟩ (by simp) rfl n21
      obtain ⟨W, hW, ⟨y1, y3, n0, n1, n2, n3, n4, n5, lk1, lk2⟩⟩ := hpr n22
      refine .inl ?_
      rw [hsame (by decide) (by decide) (by decide), hW]
      clear hsame hpr hWf hW hwb hpa hpb hpc' hrun hwd
      go_simp
      try rfl
    · -- 21
      have e20 : b.tmps.getD 69 undef = .pointer (some ⟨yb, 0, none⟩) := hb.val 20 69 rfl (hall ⟨20, .data⟩ (by simp) rfl)
      have e20' : b.tmps[69]?.getD undef = .pointer (some ⟨yb, 0, none⟩) := (by simpa using e20)
      have n22 : listed.getD 22 false = false := not_listed (hb.closed 22 _ rfl) ⟨21, .data⟩ (by simp) rfl hun'
      obtain ⟨W, hW, ⟨y1, y3, n0, n1, n2, n3, n4, n5, lk1, lk2⟩⟩ := hpr n22
      refine .inl ?_
      rw [hsame (by decide) (by decide) (by decide), hW]
      clear hsame hpr hWf hW hwb hpa hpb hpc' hrun hwd
      go_simp
      try rfl
    · -- 22
      have e21 : b.tmps.getD 70 undef = .pointer (some ⟨yb, 1, none⟩) := hb.val 21 70 rfl (hall ⟨21, .data⟩ (by simp) rfl)
      have e21' : b.tmps[70]?.getD undef = .pointer (some ⟨yb, 1, none⟩) := (by simpa using e21)
      have e19 : b.tmps.getD 68 undef = .slice A' (n + 1) c' := hb.val 19 68 rfl (hall ⟨19, .data⟩ (by simp) rfl)
      have e19' : b.tmps[68]?.getD undef = .slice A' (n + 1) c' := (by simpa using e19)
      have p19 : listed.getD 19 false = true := hall ⟨19, .data⟩ (by simp) rfl
      have h1 : Wf listed = wc := (by rw [hWf, hun', p19]; rfl)
      have h2 : Wf (listed.setIfInBounds 22 true) = wd := (by rw [hWf, getD_set_self hb.size (by simp)]; rfl)
      refine .inr ⟨?_, rfl⟩
      rw [h1, h2, ← hwd]
      clear h1 h2 hWf hsame hpr
      obtain ⟨y1, y3, n0, n1, n2, n3, n4, n5, lk1, lk2⟩ := hpc'
      go_simp
      try rfl
  · intro b hb
    have hact := hb.act (m := 73) (by kernel_rfl) hT.symm
    have hW : Wf (Array.replicate 23 true) = wd := (by rw [hWf]; rfl)
    refine (?_ : Q .normal b (Wf (Array.replicate 23 true)))
    rw [hW, hact]
    exact hQ'
end Go.Proofs.YtelnkflmnbhclaaGreat

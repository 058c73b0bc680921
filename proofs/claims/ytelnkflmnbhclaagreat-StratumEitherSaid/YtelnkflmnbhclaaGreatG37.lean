/- What is proved: the drawn region of Circle's search: whether a closed walk has a sum below 0. Conditions: none. -/
import Derived.Test.YtelnkflmnbhclaaGreatG36
namespace Go.Proofs.YtelnkflmnbhclaaGreat
open Go.RowKit Go.Proofs

def code111_20 : Option Code → Code
  | some (.seq _ (.scope (.seq _ (.seq _ (.seq _ (.seq _ (.seq _ (.seq (.seq _ (.block _ (.loop (.seq _ (.seq _ (.seq (.block _ (.seq _ (.block _ (.loop (.seq _ (.seq _ (.seq (.block _ (.seq _ (.seq _ (.seq _ (.seq c _))))) _))))))) _)))))) _)))))))) => c
  | _ => .skip

def factR (ba off g nn n c p : Nat) (v : Int) : Nat → Value → World → Prop
  | 0, v', _ => v' = .pointer (some ⟨ba, off, none⟩)
  | 1, v', _ => v' = .pointer (some ⟨ba, off, none⟩)
  | 2, v', _ => v' = .pointer (some ⟨ba, off, none⟩)
  | 3, v', _ => v' = .slice (some ⟨g, 0, none⟩) nn c
  | 4, v', _ => v' = .pointer (some ⟨ba, off, none⟩)
  | 5, v', _ => v' = .pointer (some ⟨ba, off, none⟩)
  | 6, v', _ => v' = .pointer (some ⟨ba, off, none⟩)
  | 7, v', _ => v' = .slice (some ⟨g, 0, none⟩) nn c
  | 8, v', _ => v' = .int .i64 nn
  | 9, v', _ => v' = .int .i64 n
  | 10, v', _ => v' = .int .i64 p
  | 11, v', _ => v' = .pointer (some ⟨g, n * 60, none⟩)
  | 12, v', _ => v' = .pointer (some ⟨g, n * 60 + p, none⟩)
  | 13, v', _ => v' = .int .i64 v
  | 14, v', _ => v' = .bool (decide (v < 0))
  | _, _, _ => True

set_option maxRecDepth 100000 in
set_option maxHeartbeats 4000000 in
theorem circ20 (c0 : Code) (hc : c0 = code111_20 Tryz.f111.body) (ba off g nn n c p : Nat) (v : Int) (a : Act) (w : World) (Q : Exit → Act → World → Prop)
    (hT : a.tmps.size = 76) (t11 : a.tmps.getD 11 undef = .pointer (some ⟨ba, off, none⟩)) (t10 : a.tmps.getD 10 undef = .int .i64 p)
    (h0 : w.cell? ⟨ba, off, none⟩ = some (.slice (some ⟨g, 0, none⟩) nn c)) (h1 : w.cell? ⟨g, n * 60 + p, none⟩ = some (.int .i64 v)) (hnn : nn = n + 1) (hn : n ≤ 1000) (hp : p < 60)
    (hQ : Q .normal { tmps := (((((((((((((((a.tmps.setIfInBounds 51 (.pointer (some ⟨ba, off, none⟩))).setIfInBounds 52 (.pointer (some ⟨ba, off, none⟩))).setIfInBounds 53 (.pointer (some ⟨ba, off, none⟩))).setIfInBounds 54 (.slice (some ⟨g, 0, none⟩) nn c)).setIfInBounds 55 (.pointer (some ⟨ba, off, none⟩))).setIfInBounds 56 (.pointer (some ⟨ba, off, none⟩))).setIfInBounds 57 (.pointer (some ⟨ba, off, none⟩))).setIfInBounds 58 (.slice (some ⟨g, 0, none⟩) nn c)).setIfInBounds 59 (.int .i64 nn)).setIfInBounds 60 (.int .i64 n)).setIfInBounds 61 (.int .i64 p)).setIfInBounds 62 (.pointer (some ⟨g, n * 60, none⟩))).setIfInBounds 63 (.pointer (some ⟨g, n * 60 + p, none⟩))).setIfInBounds 64 (.int .i64 v)).setIfInBounds 65 (.bool (decide (v < 0)))), defers := a.defers } w.drew) :
    c0.wp Tryz.prog Q a w := by
  subst hc
  unfold code111_20 Tryz.f111
  dsimp only
  have HN := Lib.hid hnn
  have hnl : n < nn := (by omega)
  clear hnn
  refine wpIn_wide.1 (wpIn_region_facts (nn := 5) 76 (by kernel_rfl) (by kernel_rfl) hT.symm (factR ba off g nn n c p v) (fun _ _ => True) (fun W => W = w.drew) rfl (fun _ _ => trivial) ?_ ?_)
  · intro V listed i o b W hi ho h
    have hW := h.glob
    subst hW
    have k0 : w.drew.cell? ⟨ba, off, none⟩ = some (.slice (some ⟨g, 0, none⟩) nn c) := h0
    have k1 : w.drew.cell? ⟨g, n * 60 + p, none⟩ = some (.int .i64 v) := h1
    clear hQ h0 h1
    obtain ⟨hun, oi, hoi, hall⟩ := mem_ready.1 hi
    have : oi = o := Option.some.inj (hoi.symm.trans ho)
    subst this
    clear hoi hi
    have hlt : i < 15 := (by have := (Array.getElem?_eq_some_iff.1 ho).1; simpa using this)
    have hun' : listed.getD i false = false := getD_both hun
    have hpre := h.pre i (by simpa using hlt) hun'
    rcases (by omega : i = 0 ∨ i = 1 ∨ i = 2 ∨ i = 3 ∨ i = 4 ∨ i = 5 ∨ i = 6 ∨ i = 7 ∨ i = 8 ∨ i = 9 ∨ i = 10 ∨ i = 11 ∨ i = 12 ∨ i = 13 ∨ i = 14) with rfl | rfl | rfl | rfl | rfl | rfl | rfl | rfl | rfl | rfl | rfl | rfl | rfl | rfl | rfl
    all_goals simp only [List.getElem?_toArray, List.getElem?_cons_zero, List.getElem?_cons_succ] at ho
    all_goals cases ho
    · -- 0
      have q11 := (h.tab.old 11 (dst_no h.tab (by kernel_rfl))).trans t11
      have q11' : b.tmps[11]?.getD undef = _ := (by simpa using q11)
      refine wide_val (v := .pointer (some ⟨ba, off, none⟩)) (by go_simp; try rfl) (FactsGo.same rfl rfl)
    · -- 1
      have l0 := hall ⟨0, .data⟩ (by simp) rfl
      have e0 : b.tmps.getD 51 undef = .pointer (some ⟨ba, off, none⟩) := (h.tab.val 0 51 rfl l0).trans (h.fact 0 l0)
      have e0' : b.tmps[51]?.getD undef = .pointer (some ⟨ba, off, none⟩) := (by simpa using e0)
      refine wide_val (v := .pointer (some ⟨ba, off, none⟩)) (by go_simp; try rfl) (FactsGo.same rfl rfl)
    · -- 2
      have l1 := hall ⟨1, .data⟩ (by simp) rfl
      have e1 : b.tmps.getD 52 undef = .pointer (some ⟨ba, off, none⟩) := (h.tab.val 1 52 rfl l1).trans (h.fact 1 l1)
      have e1' : b.tmps[52]?.getD undef = .pointer (some ⟨ba, off, none⟩) := (by simpa using e1)
      refine wide_val (v := .pointer (some ⟨ba, off, none⟩)) (by go_simp; try rfl) (FactsGo.same rfl rfl)
    · -- 3
      have l2 := hall ⟨2, .data⟩ (by simp) rfl
      have e2 : b.tmps.getD 53 undef = .pointer (some ⟨ba, off, none⟩) := (h.tab.val 2 53 rfl l2).trans (h.fact 2 l2)
      have e2' : b.tmps[53]?.getD undef = .pointer (some ⟨ba, off, none⟩) := (by simpa using e2)
      refine wide_val (v := .slice (some ⟨g, 0, none⟩) nn c) (by go_simp; try rfl) (FactsGo.same rfl rfl)
    · -- 4
      have q11 := (h.tab.old 11 (dst_no h.tab (by kernel_rfl))).trans t11
      have q11' : b.tmps[11]?.getD undef = _ := (by simpa using q11)
      refine wide_val (v := .pointer (some ⟨ba, off, none⟩)) (by go_simp; try rfl) (FactsGo.same rfl rfl)
    · -- 5
      have l4 := hall ⟨4, .data⟩ (by simp) rfl
      have e4 : b.tmps.getD 55 undef = .pointer (some ⟨ba, off, none⟩) := (h.tab.val 4 55 rfl l4).trans (h.fact 4 l4)
      have e4' : b.tmps[55]?.getD undef = .pointer (some ⟨ba, off, none⟩) := (by simpa using e4)
      refine wide_val (v := .pointer (some ⟨ba, off, none⟩)) (by go_simp; try rfl) (FactsGo.same rfl rfl)
    · -- 6
      have l5 := hall ⟨5, .data⟩ (by simp) rfl
      have e5 : b.tmps.getD 56 undef = .pointer (some ⟨ba, off, none⟩) := (h.tab.val 5 56 rfl l5).trans (h.fact 5 l5)
      have e5' : b.tmps[56]?.getD undef = .pointer (some ⟨ba, off, none⟩) := (by simpa using e5)
      refine wide_val (v := .pointer (some ⟨ba, off, none⟩)) (by go_simp; try rfl) (FactsGo.same rfl rfl)
    · -- 7
      have l6 := hall ⟨6, .data⟩ (by simp) rfl
      have e6 : b.tmps.getD 57 undef = .pointer (some ⟨ba, off, none⟩) := (h.tab.val 6 57 rfl l6).trans (h.fact 6 l6)
      have e6' : b.tmps[57]?.getD undef = .pointer (some ⟨ba, off, none⟩) := (by simpa using e6)
      refine wide_val (v := .slice (some ⟨g, 0, none⟩) nn c) (by go_simp; try rfl) (FactsGo.same rfl rfl)
    · -- 8
      have l7 := hall ⟨7, .data⟩ (by simp) rfl
      have e7 : b.tmps.getD 58 undef = .slice (some ⟨g, 0, none⟩) nn c := (h.tab.val 7 58 rfl l7).trans (h.fact 7 l7)
      have e7' : b.tmps[58]?.getD undef = .slice (some ⟨g, 0, none⟩) nn c := (by simpa using e7)
      refine wide_val (v := .int .i64 nn) (by go_simp; try rfl) (FactsGo.same rfl rfl)
    · -- 9
      have l8 := hall ⟨8, .data⟩ (by simp) rfl
      have e8 : b.tmps.getD 59 undef = .int .i64 nn := (h.tab.val 8 59 rfl l8).trans (h.fact 8 l8)
      have e8' : b.tmps[59]?.getD undef = .int .i64 nn := (by simpa using e8)
      have hw : IntKind.i64.wrap ((nn : Int) - 1) = (n : Int) := (by have := HN.out; rw [IntKind.wrap_i64]; omega)
      refine wide_val (v := .int .i64 n) (by go_simp; try rfl) (FactsGo.same rfl rfl)
    · -- 10
      have q10 := (h.tab.old 10 (dst_no h.tab (by kernel_rfl))).trans t10
      have q10' : b.tmps[10]?.getD undef = _ := (by simpa using q10)
      refine wide_val (v := .int .i64 p) (by go_simp; try rfl) (FactsGo.same rfl rfl)
    · -- 11
      have l3 := hall ⟨3, .data⟩ (by simp) rfl
      have e3 : b.tmps.getD 54 undef = .slice (some ⟨g, 0, none⟩) nn c := (h.tab.val 3 54 rfl l3).trans (h.fact 3 l3)
      have e3' : b.tmps[54]?.getD undef = .slice (some ⟨g, 0, none⟩) nn c := (by simpa using e3)
      have l9 := hall ⟨9, .data⟩ (by simp) rfl
      have e9 : b.tmps.getD 60 undef = .int .i64 n := (h.tab.val 9 60 rfl l9).trans (h.fact 9 l9)
      have e9' : b.tmps[60]?.getD undef = .int .i64 n := (by simpa using e9)
      refine wide_val (v := .pointer (some ⟨g, n * 60, none⟩)) (by go_simp; try (intro hh; exfalso; omega)) (FactsGo.same rfl rfl)
    · -- 12
      have l11 := hall ⟨11, .data⟩ (by simp) rfl
      have e11 : b.tmps.getD 62 undef = .pointer (some ⟨g, n * 60, none⟩) := (h.tab.val 11 62 rfl l11).trans (h.fact 11 l11)
      have e11' : b.tmps[62]?.getD undef = .pointer (some ⟨g, n * 60, none⟩) := (by simpa using e11)
      have l10 := hall ⟨10, .data⟩ (by simp) rfl
      have e10 : b.tmps.getD 61 undef = .int .i64 p := (h.tab.val 10 61 rfl l10).trans (h.fact 10 l10)
      have e10' : b.tmps[61]?.getD undef = .int .i64 p := (by simpa using e10)
      refine wide_val (v := .pointer (some ⟨g, n * 60 + p, none⟩)) (by go_simp; try (intro hh; exfalso; omega)) (FactsGo.same rfl rfl)
    · -- 13
      have l12 := hall ⟨12, .data⟩ (by simp) rfl
      have e12 : b.tmps.getD 63 undef = .pointer (some ⟨g, n * 60 + p, none⟩) := (h.tab.val 12 63 rfl l12).trans (h.fact 12 l12)
      have e12' : b.tmps[63]?.getD undef = .pointer (some ⟨g, n * 60 + p, none⟩) := (by simpa using e12)
      refine wide_val (v := .int .i64 v) (by go_simp; try rfl) (FactsGo.same rfl rfl)
    · -- 14
      have l13 := hall ⟨13, .data⟩ (by simp) rfl
      have e13 : b.tmps.getD 64 undef = .int .i64 v := (h.tab.val 13 64 rfl l13).trans (h.fact 13 l13)
      have e13' : b.tmps[64]?.getD undef = .int .i64 v := (by simpa using e13)
      refine wide_val (v := .bool (decide (v < 0))) (by go_simp; try rfl) (FactsGo.same rfl rfl)
  · intro V W hf hg
    subst hg
    have := hQ
    have hV : V 0 = .pointer (some ⟨ba, off, none⟩) ∧ V 1 = .pointer (some ⟨ba, off, none⟩) ∧ V 2 = .pointer (some ⟨ba, off, none⟩) ∧ V 3 = .slice (some ⟨g, 0, none⟩) nn c ∧ V 4 = .pointer (some ⟨ba, off, none⟩) ∧ V 5 = .pointer (some ⟨ba, off, none⟩) ∧ V 6 = .pointer (some ⟨ba, off, none⟩) ∧ V 7 = .slice (some ⟨g, 0, none⟩) nn c ∧ V 8 = .int .i64 nn ∧ V 9 = .int .i64 n ∧ V 10 = .int .i64 p ∧ V 11 = .pointer (some ⟨g, n * 60, none⟩) ∧ V 12 = .pointer (some ⟨g, n * 60 + p, none⟩) ∧ V 13 = .int .i64 v ∧ V 14 = .bool (decide (v < 0)) := ⟨hf 0 (by decide), hf 1 (by decide), hf 2 (by decide), hf 3 (by decide), hf 4 (by decide), hf 5 (by decide), hf 6 (by decide), hf 7 (by decide), hf 8 (by decide), hf 9 (by decide), hf 10 (by decide), hf 11 (by decide), hf 12 (by decide), hf 13 (by decide), hf 14 (by decide)⟩
    obtain ⟨v0, v1, v2, v3, v4, v5, v6, v7, v8, v9, v10, v11, v12, v13, v14⟩ := hV
    simp only [List.size_toArray, List.length_cons, List.length_nil, Nat.reduceAdd, framed, dstOf, List.getElem?_toArray, List.getElem?_cons_zero, List.getElem?_cons_succ, Option.bind_some, v0, v1, v2, v3, v4, v5, v6, v7, v8, v9, v10, v11, v12, v13, v14]
    exact this
end Go.Proofs.YtelnkflmnbhclaaGreat

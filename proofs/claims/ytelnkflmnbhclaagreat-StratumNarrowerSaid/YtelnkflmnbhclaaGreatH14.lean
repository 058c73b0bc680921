/- Contracts that the laws lean on: NarR, NarB, NarA, NarL. -/
import Derived.Test.YtelnkflmnbhclaaGreatH07
import Derived.Test.YtelnkflmnbhclaaGreatG19
import Derived.Test.YtelnkflmnbhclaaGreatG04
import Derived.Test.YtelnkflmnbhclaaGreatG18
import Derived.Test.YtelnkflmnbhclaaGreatH01
import Derived.Test.YtelnkflmnbhclaaGreatH02
import Derived.Test.YtelnkflmnbhclaaGreatG47
import Derived.Deep.DeepCutAuto
import Derived.Deep.RegionHeld3
/- What is proved: the drawn region of the law StratumNarrower that leaves one place out. Conditions: none. -/
section
namespace Go.Proofs.YtelnkflmnbhclaaGreat
open Go.RowKit Go.Proofs Go.Shelf

def codenar18 : Option Code → Code
  | some (.seq _ (.seq _ (.seq _ (.seq _ (.seq _ (.seq _ (.seq _ (.seq _ (.seq _ (.seq _ (.seq _ (.seq c _)))))))))))) => c
  | _ => .skip
def valnar18 (mA : Option Addr) (mn mc k : Nat) (D : Option Addr) (nw : Nat) (A8 : Option Addr) (c8 : Nat) (A9 : Option Addr) (c9 : Nat) : Nat → Value
  | 0 => .slice (some ⟨nw, 0, none⟩) 0 0
  | 1 => .slice mA mn mc
  | 2 => .int .i64 k
  | 3 => .slice mA k mc
  | 4 => .slice A8 (0 + k) c8
  | 5 => .slice mA mn mc
  | 6 => .int .i64 k
  | 7 => .int .i64 (k + 1)
  | 8 => .slice D (mn - (k + 1)) (mc - (k + 1))
  | 9 => .slice A9 (0 + k + (mn - (k + 1))) c9
  | 10 => .slice A9 (0 + k + (mn - (k + 1))) c9
  | _ => undef
set_option maxRecDepth 100000 in
set_option maxHeartbeats 4000000 in
theorem nar18 (cC : Code) (hc : cC = codenar18 Tryz.f6.body) (mA : Option Addr) (mn mc k : Nat) (D : Option Addr) (mv : List Place) (a : Act) (w : World) (Q : Exit → Act → World → Prop)
    (hT : a.tmps.size = 204) (t4 : a.tmps.getD 4 undef = .slice mA mn mc) (t31 : a.tmps.getD 31 undef = .int .i64 k)
    (hk : k < mn) (hmn : mn ≤ 10) (hcap : mn ≤ mc ∧ mc ≤ 9223372036854775807) (hD : D = if mc = k + 1 then mA else mA.map (·.add ((k + 1) * 2)))
    (RT : Rd encPlace 2 w mA k mc (mv.take k)) (RD : Rd encPlace 2 w D (mn - (k + 1)) (mc - (k + 1)) (mv.drop (k + 1)))
    (hQ : ∀ A8 c8 A9 c9 w8, Own encPlace 2 37 w.heap.size w8 A9 (0 + k + (mn - (k + 1))) c9 ([] ++ mv.take k ++ mv.drop (k + 1)) → Below w.heap.size w w8 →
      Q .normal { tmps := (((((((((((a.tmps.setIfInBounds 172 (.slice (some ⟨w.heap.size, 0, none⟩) 0 0)).setIfInBounds 173 (.slice mA mn mc)).setIfInBounds 174 (.int .i64 k)).setIfInBounds 175 (.slice mA k mc)).setIfInBounds 176 (.slice A8 (0 + k) c8)).setIfInBounds 177 (.slice mA mn mc)).setIfInBounds 178 (.int .i64 k)).setIfInBounds 179 (.int .i64 (k + 1))).setIfInBounds 180 (.slice D (mn - (k + 1)) (mc - (k + 1)))).setIfInBounds 181 (.slice A9 (0 + k + (mn - (k + 1))) c9)).setIfInBounds 32 (.slice A9 (0 + k + (mn - (k + 1))) c9)), defers := a.defers } w8) :
    cC.wp Tryz.prog Q a w := by
  subst hc
  unfold codenar18 Tryz.f6
  dsimp only
  obtain ⟨nw, hnw⟩ : ∃ nw, w.heap.size = nw := ⟨_, rfl⟩
  obtain ⟨wb, hwb⟩ : ∃ wb, wb = w.drew.alloc (.cells #[] 37) := ⟨_, rfl⟩
  have ha : Below nw w w.drew := (Below.refl _ _).drew
  have hb1 : Below nw w wb := (by rw [hwb]; exact ha.alloc (Nat.le_of_eq hnw.symm) _)
  have F0 : Own encPlace 2 37 nw wb (some ⟨nw, 0, none⟩) 0 0 [] := (by have := Own.fresh0 encPlace 2 37 w.drew; rw [show w.drew.heap.size = nw from hnw] at this; rw [hwb]; exact this)
  obtain ⟨A8, c8, wc, hrun1, hO1, hg1, _⟩ := run_append_src elPlace 30 (fun _ => rfl) onePlace F0 mA k mc (mv.take k) (RT.below hb1 (Nat.le_of_eq hnw)) (by omega) (by omega) (by have := hb1.size; omega)
  have hb2 : Below nw w wc := hb1.grown hg1 (by have := hb1.size; omega) (fun j e => F0.ltB j e)
  obtain ⟨A9, c9, wd, hrun2, hO2, hg2, _⟩ := run_append_src elPlace 30 (fun _ => rfl) onePlace hO1 D (mn - (k + 1)) (mc - (k + 1)) (mv.drop (k + 1)) (RD.below hb2 (Nat.le_of_eq hnw)) (by omega) (by omega) (by have := hb2.size; omega)
  have hb3 : Below nw w wd := hb2.grown hg2 (by have := hb2.size; omega) (fun j e => hO1.ltB j e)
  have hQ' := hQ A8 c8 A9 c9 wd (by rw [hnw]; exact hO2) (by rw [hnw]; exact hb3)
  rw [hnw] at hQ'
  clear hQ hO1 hO2 hg1 hg2 hb1 hb2 hb3 F0 RT RD ha
  obtain ⟨Wf, hWf⟩ : ∃ Wf : Array Bool → World, ∀ L, Wf L = if L.getD 9 false = true then wd else if L.getD 4 false = true then wc else if L.getD 0 false = true then wb else w.drew := ⟨_, fun _ => rfl⟩
  refine wpIn_wide.1 (wpIn_region_tab2 (nn := 5) (by kernel_rfl) (valnar18 mA mn mc k D nw A8 c8 A9 c9) Wf (by rw [hT]; kernel_rfl) ?_ ?_ ?_)
  · rw [hWf]; rfl
  · intro listed io o b hi ho hb hlat
    obtain ⟨hun, oi, hoi, hall⟩ := mem_ready.1 hi
    have : oi = o := Option.some.inj (hoi.symm.trans ho)
    subst this
    clear hoi hi hQ'
    have hlt : io < 11 := (by have := (Array.getElem?_eq_some_iff.1 ho).1; simpa using this)
    have q4 : b.tmps[4]?.getD undef = _ := (by simpa using (hb.old 4 (dst_no hb (by kernel_rfl))).trans t4)
    have q31 : b.tmps[31]?.getD undef = _ := (by simpa using (hb.old 31 (dst_no hb (by kernel_rfl))).trans t31)
    have hun' : listed.getD io false = false := getD_both hun
    have hsame : io ≠ 0 → io ≠ 4 → io ≠ 9 → Wf (listed.setIfInBounds io true) = Wf listed := fun h0 h1 h2 => by rw [hWf, hWf, getD_set_ne false h0, getD_set_ne false h1, getD_set_ne false h2]
    have E : ∀ (j s : Nat) (v : Value), dstOf _ j = some s → valnar18 mA mn mc k D nw A8 c8 A9 c9 j = v → listed.getD j false = true → b.tmps[s]?.getD undef = v := fun j s v h1 h2 h3 => by rw [← h2]; simpa using hb.val j s h1 h3
    by_cases h0 : io = 0
    · subst h0
      simp only [List.getElem?_toArray, List.getElem?_cons_zero] at ho
      cases ho
      have n4 := not_listed (hb.closed 4 _ rfl) ⟨0, .data⟩ (by simp) rfl hun'
      have n9 := not_listed (hb.closed 9 _ rfl) ⟨4, .data⟩ (by simp) rfl n4
      have h1 : Wf listed = w.drew := (by rw [hWf, n9, n4, hun']; rfl)
      have h2 : Wf (listed.setIfInBounds 0 true) = wb := (by rw [hWf, getD_set_ne false (by decide), getD_set_ne false (by decide), n9, n4, getD_set_self hb.size (by simp)]; rfl)
      refine .inl ?_
      rw [h1, h2]
      clear h1 h2 hWf hsame E hrun1 hrun2
      subst hwb
      subst hnw
      go_simp
      try rfl
    by_cases h4 : io = 4
    · subst h4
      simp only [List.getElem?_toArray, List.getElem?_cons_zero, List.getElem?_cons_succ] at ho
      cases ho
      have e0 := E 0 172 (.slice (some ⟨nw, 0, none⟩) 0 0) rfl rfl (hall ⟨0, .data⟩ (by simp) rfl)
      have e3 := E 3 175 (.slice mA k mc) rfl rfl (hall ⟨3, .data⟩ (by simp) rfl)
      have p0 := hall ⟨0, .data⟩ (by simp) rfl
      have n9 := not_listed (hb.closed 9 _ rfl) ⟨4, .data⟩ (by simp) rfl hun'
      have h1 : Wf listed = wb := (by rw [hWf, n9, hun', p0]; rfl)
      have h2 : Wf (listed.setIfInBounds 4 true) = wc := (by rw [hWf, getD_set_ne false (by decide), n9, getD_set_self hb.size (by simp)]; rfl)
      refine .inl ?_
      rw [h1, h2]
      have f0 : b.eval (.tmp 172) = .slice (some ⟨nw, 0, none⟩) 0 0 := (by simpa [Act.eval] using e0)
      have f1 : b.eval (.tmp 175) = .slice mA k mc := (by simpa [Act.eval] using e3)
      simp only [execOp, resolve, invoke, builtin, Sem.run_bind, Sem.run_pure, Result.andThen_ok, List.map_toArray, List.map_cons, List.map_nil, f0, f1, hrun1]
      rfl
    by_cases h9 : io = 9
    · subst h9
      simp only [List.getElem?_toArray, List.getElem?_cons_zero, List.getElem?_cons_succ] at ho
      cases ho
      have e4 := E 4 176 (.slice A8 (0 + k) c8) rfl rfl (hall ⟨4, .data⟩ (by simp) rfl)
      have e8 := E 8 180 (.slice D (mn - (k + 1)) (mc - (k + 1))) rfl rfl (hall ⟨8, .data⟩ (by simp) rfl)
      have p4 := hall ⟨4, .data⟩ (by simp) rfl
      have h1 : Wf listed = wc := (by rw [hWf, hun', p4]; rfl)
      have h2 : Wf (listed.setIfInBounds 9 true) = wd := (by rw [hWf, getD_set_self hb.size (by simp)]; rfl)
      refine .inl ?_
      rw [h1, h2]
      have f0 : b.eval (.tmp 176) = .slice A8 (0 + k) c8 := (by simpa [Act.eval] using e4)
      have f1 : b.eval (.tmp 180) = .slice D (mn - (k + 1)) (mc - (k + 1)) := (by simpa [Act.eval] using e8)
      simp only [execOp, resolve, invoke, builtin, Sem.run_bind, Sem.run_pure, Result.andThen_ok, List.map_toArray, List.map_cons, List.map_nil, f0, f1, hrun2]
      rfl
    obtain ⟨W, hW⟩ : ∃ W, Wf listed = W := ⟨_, rfl⟩
    rw [hsame h0 h4 h9, hW]
    refine .inl ?_
    clear hsame hWf hW hwb hrun1 hrun2
    have s1 : (0 : Int) ≤ (k : Int) := (by omega)
    have s2 : (0 : Int) ≤ (k : Int) + 1 := (by omega)
    have s3 : (k : Int) + 1 ≤ (mn : Int) := (by omega)
    have s4 : IntKind.i64.wrap ((k : Int) + 1) = (k : Int) + 1 := (by simp [IntKind.wrap, IntKind.bits, IntKind.signed]; omega)
    have s5 : wrap64 ((k : Int) + 1) = (k : Int) + 1 := (by unfold wrap64; omega)
    have s6 : ((k : Int) + 1).toNat = k + 1 := (by omega)
    have s7 : (k : Int) ≤ (mc : Int) := (by omega)
    have s8 : (k : Int) ≤ (mn : Int) := (by omega)
    have s9 : (mn : Int) ≤ (mc : Int) := (by omega)
    rcases (by omega : io = 1 ∨ io = 2 ∨ io = 3 ∨ io = 5 ∨ io = 6 ∨ io = 7 ∨ io = 8 ∨ io = 10) with rfl | rfl | rfl | rfl | rfl | rfl | rfl | rfl
    all_goals simp only [List.getElem?_toArray, List.getElem?_cons_zero, List.getElem?_cons_succ] at ho
    all_goals cases ho
    · clear E; go_simp; try rfl
    · clear E; go_simp; try rfl
    · have e1 := E 1 173 (.slice mA mn mc) rfl rfl (hall ⟨1, .data⟩ (by simp) rfl); have e2 := E 2 174 (.int .i64 k) rfl rfl (hall ⟨2, .data⟩ (by simp) rfl); clear E; go_simp; try rfl
    · clear E; go_simp; try rfl
    · clear E; go_simp; try rfl
    · have e6 := E 6 178 (.int .i64 k) rfl rfl (hall ⟨6, .data⟩ (by simp) rfl); clear E; go_simp; try rfl
    · have e5 := E 5 177 (.slice mA mn mc) rfl rfl (hall ⟨5, .data⟩ (by simp) rfl); have e7 := E 7 179 (.int .i64 (k + 1)) rfl rfl (hall ⟨7, .data⟩ (by simp) rfl); clear E; go_simp; try rfl
    · have e9 := E 9 181 (.slice A9 (0 + k + (mn - (k + 1))) c9) rfl rfl (hall ⟨9, .data⟩ (by simp) rfl); clear E; go_simp; simp only [valnar18, Nat.zero_add]
  · intro b hb
    have hact := hb.act (m := 204) (by kernel_rfl) hT.symm
    have hW : Wf (Array.replicate 11 true) = wd := (by rw [hWf]; rfl)
    refine (?_ : Q .normal b (Wf (Array.replicate 11 true)))
    rw [hW, hact]
    exact hQ'
end Go.Proofs.YtelnkflmnbhclaaGreat
end

/- What is proved: the second half of the walk of the law StratumNarrower: behind the bond more. Conditions: as said. -/
section
namespace Go.Proofs.YtelnkflmnbhclaaGreat
open Go.RowKit Go.Proofs Go.Shelf

theorem mod_small (m : Int) (d : Nat) (h0 : 0 < d) (h1 : d ≤ 10) : ∃ k : Nat, k < d ∧ wrap64 ((IntKind.u64.wrap m).tmod (d : Int)) = (k : Int) := by
  have h : (0 : Int) ≤ IntKind.u64.wrap m := by rw [IntKind.wrap_u64]; omega
  have h2 := Int.tmod_nonneg (d : Int) h
  have h3 := Int.tmod_lt_of_pos (IntKind.u64.wrap m) (show (0 : Int) < (d : Int) by omega)
  refine ⟨((IntKind.u64.wrap m).tmod (d : Int)).toNat, by omega, ?_⟩
  unfold wrap64; omega
def codenarB : Option Code → Code
  | some (.seq _ (.seq _ (.seq _ (.seq _ (.seq _ (.seq _ (.seq _ c))))))) => c
  | _ => .skip
set_option maxRecDepth 100000 in
set_option maxHeartbeats 8000000 in
theorem narB (cC : Code) (hc : cC = codenarB Tryz.f6.body) (lA : Option Addr) (ln lc : Nat) (l : List Trace) (x : Trace) (bA : Option Addr) (bn bc : Nat) (b : List Bond) (y : Bond) (mA : Option Addr) (mn mc : Nat) (mv : List Place) (which : Int) (w w1 w10 : World) (some_ : Bool) (e : Int) (A10 : Option Addr) (c10 : Nat) {u1 u3 u6 u8 u9 u10 u11 u12 u13 u16 u17 u18 u19 u20 u21 u22 u23 u24 u25 u26 u28 u29 u30 u31 u32 u33 u34 u35 u36 u37 u38 u39 u40 u41 u42 u43 u44 u45 u46 u47 u48 u49 u50 u51 u52 u53 u54 u55 u56 u57 u58 u59 u60 u61 u62 u63 u64 u65 u66 u67 u68 u69 u70 u71 u72 u73 u74 u75 u76 u77 u78 u79 u80 u81 u82 u83 u84 u85 u86 u87 u88 u89 u90 u91 u92 u93 u94 u95 u96 u97 u98 u99 u100 u101 u102 u103 u104 u105 u106 u107 u108 u109 u110 u111 u112 u113 u114 u115 u116 u117 u118 u119 u120 u121 u122 u123 u124 u125 u126 u127 u128 u129 u130 u131 u132 u133 u134 u135 u136 u137 u138 u139 u140 u141 u142 u143 u144 u145 u146 u147 u148 u149 u150 u151 u152 u153 u154 u155 u156 u157 u158 u159 u160 u161 u162 u163 u164 u165 u166 u167 u168 u169 u170 u171 u172 u173 u174 u175 u176 u177 u178 u179 u180 u181 u182 u183 u184 u185 u186 u187 u188 u189 u190 u191 u192 u193 u194 u195 u196 u197 u198 u199 u200 u201 u202 u203 : Value}
    (hb1 : Below w.heap.size w w1) (hz1 : w1.heap.size = w.heap.size + 2) (_ : ln ≤ 143) (hm : bn ≤ 63) (hmn : mn ≤ 10)
    (CX : Hid (∀ W, Below w1.heap.size w1 W → W.cell? ⟨w.heap.size, 0, none⟩ = some (.int .i64 x.id) ∧ W.cell? ⟨w.heap.size, 1, none⟩ = some (.int .i64 x.known) ∧ W.cell? ⟨w.heap.size, 2, none⟩ = some (.int .u8 x.kind) ∧ W.cell? ⟨w.heap.size, 3, none⟩ = some (.int .i64 x.pit) ∧ W.cell? ⟨w.heap.size, 4, none⟩ = some (.int .i64 x.layer) ∧ W.cell? ⟨w.heap.size, 5, none⟩ = some (.int .i64 x.lower) ∧ W.cell? ⟨w.heap.size, 6, none⟩ = some (.int .i64 x.low) ∧ W.cell? ⟨w.heap.size, 7, none⟩ = some (.int .i64 x.high) ∧ W.cell? ⟨w.heap.size, 8, none⟩ = some (.int .i64 x.cost) ∧ W.cell? ⟨w.heap.size, 9, none⟩ = some (.int .i64 x.void)))
    (RL : Hid (∀ W, Below w1.heap.size w1 W → Rd encTrace 10 W lA ln lc l)) (RB : Hid (∀ W, Below w1.heap.size w1 W → Rd encBond 5 W bA bn bc b)) (RM : Hid (∀ W, Below w1.heap.size w1 W → Rd encPlace 2 W mA mn mc mv))
    (NB : Hid (e = 0 → ∀ dl2 h2, (datesV l x.known (b ++ [y]) mv) = (dl2, true, h2) → some_ = true))
    (NP : Hid (e = 0 → ∀ k dl2 was h2, (datesV l x.known b (mv.take k ++ mv.drop (k + 1))) = (dl2, was, h2) → h2 = 0 ∧ (was = true → some_ = true)))
    (HB10 : Hid (Below w1.heap.size w1 w10)) (HO10 : Hid (Own encBond 5 50 w1.heap.size w10 A10 (bn + 1) c10 (b ++ [y]))) :
    cC.wp Tryz.prog (bodyPost Tryz.prog Tryz.f6 fun e w' => e = .returned (.bool true) ∧ Below w.heap.size w w') { tmps := #[.slice lA ln lc, u1, .slice bA bn bc, u3, .slice mA mn mc, .int .i64 which, u6, .pointer (some ⟨w.heap.size, 0, none⟩), u8, u9, u10, u11, u12, u13, .bool some_, .int .i64 e, u16, u17, u18, u19, u20, u21, u22, u23, u24, u25, u26, .slice A10 (bn + 1) c10, u28, u29, u30, u31, u32, u33, u34, u35, u36, u37, u38, u39, u40, u41, u42, u43, u44, u45, u46, u47, u48, u49, u50, u51, u52, u53, u54, u55, u56, u57, u58, u59, u60, u61, u62, u63, u64, u65, u66, u67, u68, u69, u70, u71, u72, u73, u74, u75, u76, u77, u78, u79, u80, u81, u82, u83, u84, u85, u86, u87, u88, u89, u90, u91, u92, u93, u94, u95, u96, u97, u98, u99, u100, u101, u102, u103, u104, u105, u106, u107, u108, u109, u110, u111, u112, u113, u114, u115, u116, u117, u118, u119, u120, u121, u122, u123, u124, u125, u126, u127, u128, u129, u130, u131, u132, u133, u134, u135, u136, u137, u138, u139, u140, u141, u142, u143, u144, u145, u146, u147, u148, u149, u150, u151, u152, u153, u154, u155, u156, u157, u158, u159, u160, u161, u162, u163, u164, u165, u166, u167, u168, u169, u170, u171, u172, u173, u174, u175, u176, u177, u178, u179, u180, u181, u182, u183, u184, u185, u186, u187, u188, u189, u190, u191, u192, u193, u194, u195, u196, u197, u198, u199, u200, u201, u202, u203], defers := [] } w10 := by
  subst hc
  obtain ⟨QQ, hQQ⟩ : ∃ QQ, bodyPost Tryz.prog Tryz.f6 (fun e w' => e = .returned (.bool true) ∧ Below w.heap.size w w') = QQ := ⟨_, rfl⟩
  rw [hQQ]
  unfold codenarB Tryz.f6
  dsimp only
  rw [← hQQ]
  clear hQQ
  have HDUG := Lib.hid dug_any
  obtain ⟨⟨dl3, st3, h3⟩, hD3⟩ : ∃ q, datesV l x.known (b ++ [y]) mv = q := ⟨_, rfl⟩
  have HD3 : Hid (∀ W, Below w10.heap.size w10 W → Calls Tryz.prog 34 #[.slice lA ln lc, .int .i64 x.known, .slice A10 (bn + 1) c10, .slice mA mn mc] W fun e' w' => ∃ Ad cd, e' = .returned (.tuple #[.slice Ad dl3.length cd, .bool st3, .int .i64 h3]) ∧ Below W.heap.size W w') :=
    (show ∀ W, Below w10.heap.size w10 W → _ from fun W h => by
      have hW := HB10.out.trans (h.mono HB10.out.size)
      have := Dates_any lA ln lc l x.known A10 (bn + 1) c10 (b ++ [y]) mA mn mc mv W (RL.out W hW) ((HO10.out.rd (fun _ => rfl) (by omega)).below h (Nat.le_refl _)) (RM.out W hW)
      rw [hD3] at this
      exact this.mono fun e' w' ⟨Ad, cd, h1, h2, _⟩ => ⟨Ad, cd, h1, h2⟩)
  have hnb : e = 0 → st3 = true → some_ = true := fun he hs => NB.out he dl3 h3 (by rw [hD3, hs])
  have HNB := Lib.hid hnb
  obtain ⟨c0, c1, c2, c3, c4, c5, c6_, c7, c8, c9⟩ := CX.out _ HB10.out
  clear hD3 hnb NB HO10
  go_upto_region 13 with (go_at_call 34; (with_reducible refine (HD3.out _ (Below.refl _ _)).mono ?_); rintro e w11 ⟨A11, cc11, rfl, hb11⟩
                          have HB11 := Lib.hid (HB10.out.trans (hb11.mono HB10.out.size))
                          clear hb11 c0 c1 c2 c3 c4 c5 c6_ c7 c8 c9)
  clear HD3 HB10
  go_cut [14, 29, 156] (fun s14 s29 s156 wx => s14 = .bool some_ ∧ s29 = .bool st3 ∧ s156 = .bool false ∧ w11 = wx)
  case first =>
    have h4 : (e ≠ 0 ∧ (e == 0) = false) ∨ (e = 0 ∧ (e == 0) = true ∧ h3 ≠ 0 ∧ (h3 == 0) = false) ∨ (e = 0 ∧ (e == 0) = true ∧ h3 = 0 ∧ (h3 == 0) = true ∧ st3 = false) ∨ (e = 0 ∧ (e == 0) = true ∧ h3 = 0 ∧ (h3 == 0) = true ∧ st3 = true ∧ some_ = true) := by
      by_cases h1 : e = 0
      · by_cases h2 : h3 = 0
        · cases hs : st3 with
          | false => exact .inr (.inr (.inl ⟨h1, by simp [h1], h2, by simp [h2], rfl⟩))
          | true => exact .inr (.inr (.inr ⟨h1, by simp [h1], h2, by simp [h2], rfl, HNB.out h1 hs⟩))
        · exact .inr (.inl ⟨h1, by simp [h1], h2, by simp [h2]⟩)
      · exact .inl ⟨h1, by simp [h1]⟩
    rcases h4 with ⟨-, q1⟩ | ⟨-, q1, -, q2⟩ | ⟨-, q1, -, q2, rfl⟩ | ⟨-, q1, -, q2, rfl, rfl⟩
    all_goals
      go_wp2_with fail
      go_meet
    all_goals exact ⟨rfl, rfl, rfl, rfl⟩
  case rest =>
    obtain ⟨rfl, rfl, rfl, rfl⟩ := hcut
    go_upto_region 15 with fail
    have hz11 := HB11.out.size
    rcases two_ e 0 with ⟨he, e1, e2⟩ | ⟨he, e1, e2⟩
    case inr =>
      clear he
      go_wp2_with (go_at_call 22; (with_reducible refine (HDUG.out _).mono ?_); rintro e' w12 ⟨rfl, hb12⟩; have HB12 := Lib.hid hb12; clear hb12)
      go_ret
      exact ⟨rfl, hb1.trans ((HB11.out.trans (HB12.out.mono hz11)).mono (by omega))⟩
    case inl =>
      have HE := Lib.hid he
      clear he
      by_cases hm0 : mn = 0
      · have m1 : ((mn : Int) == 0) = true := by simp [hm0]
        clear hm0
        go_wp2_with (go_at_call 22; (with_reducible refine (HDUG.out _).mono ?_); rintro e' w12 ⟨rfl, hb12⟩; have HB12 := Lib.hid hb12; clear hb12)
        go_ret
        exact ⟨rfl, hb1.trans ((HB11.out.trans (HB12.out.mono hz11)).mono (by omega))⟩
      · have m1 : ((mn : Int) == 0) = false := by simp [hm0]
        have hm1 : 0 < mn := Nat.pos_of_ne_zero hm0
        clear hm0
        go_upto_region 17 with fail
        go_cut [31] (fun s31 wx => ∃ k : Nat, k < mn ∧ s31 = .int .i64 k ∧ w11 = wx)
        case first =>
          go_wp2_with fail
          go_meet
          obtain ⟨k, hk, hw⟩ := mod_small which mn hm1 hmn
          exact ⟨k, hk, by rw [hw], rfl⟩
        case rest =>
          obtain ⟨k, hk, rfl, rfl⟩ := hcut
          obtain ⟨⟨dl4, was, h4⟩, hD4⟩ : ∃ q, datesV l x.known b (mv.take k ++ mv.drop (k + 1)) = q := ⟨_, rfl⟩
          obtain ⟨hh4, hws⟩ := NP.out HE.out k dl4 was h4 hD4
          subst hh4
          have HWS := Lib.hid hws
          have HD4E := Lib.hid hD4
          clear hws hD4 NP HNB
          have hrm := RM.out _ HB11.out
          have hcap := hrm.cap
          have hlen := hrm.len
          have HRT : Hid (∀ W, Below w1.heap.size w1 W → Rd encPlace 2 W mA k mc (mv.take k)) := (show ∀ W, Below w1.heap.size w1 W → Rd encPlace 2 W mA k mc (mv.take k) from fun W h => (RM.out W h).take (by omega) ⟨by omega, Nat.le_refl _⟩)
          have HRD : Hid (∀ W, Below w1.heap.size w1 W → Rd encPlace 2 W (if mc = k + 1 then mA else mA.map (·.add ((k + 1) * 2))) (mn - (k + 1)) (mc - (k + 1)) (mv.drop (k + 1))) := (show ∀ W, Below w1.heap.size w1 W → Rd encPlace 2 W (if mc = k + 1 then mA else mA.map (·.add ((k + 1) * 2))) (mn - (k + 1)) (mc - (k + 1)) (mv.drop (k + 1)) from fun W h => (RM.out W h).drop (by omega) (fun h2 => by rw [if_neg (by omega)]))
          have HLEN := Lib.hid hlen
          clear hrm hlen
          go_upto_region 18 with fail
          go_cut [32] (fun s32 wx => ∃ A' c', s32 = .slice A' (mn - 1) c' ∧ Hid (Below w1.heap.size w1 wx) ∧ Hid (Own encPlace 2 37 w1.heap.size wx A' (mn - 1) c' (mv.take k ++ mv.drop (k + 1))))
          case first =>
            have hrd := HRD.out _ HB11.out
            obtain ⟨D, hD⟩ : ∃ D, (if mc = k + 1 then mA else mA.map (·.add ((k + 1) * 2))) = D := ⟨_, rfl⟩
            rw [hD] at hrd
            refine nar18 _ rfl mA mn mc k D mv _ w11 _ rfl rfl rfl hk hmn hcap hD.symm (HRT.out _ HB11.out) hrd ?_
            intro A8 c8 A9 c9 w9 hO9 hb9
            have HB9 := Lib.hid (HB11.out.trans (hb9.mono hz11))
            have HO9 := Lib.hid (hO9.mono hz11)
            clear hO9 hb9
            simp only [List.setIfInBounds_toArray, List.set_cons_succ, List.set_cons_zero]
            clear hD
            go_wp2_with fail
            go_meet
            have e9 : 0 + k + (mn - (k + 1)) = mn - 1 := (by omega)
            have h9 := HO9.out
            rw [e9, List.nil_append] at h9
            exact ⟨A9, c9, (by first | rfl | (congr 1; omega) | (simp; omega)), HB9.out, h9⟩
          case rest =>
            rename World => w12
            obtain ⟨A12, c12, rfl, HB12, HO12⟩ := hcut
            have hz12 := HB12.out.size
            have HD4 : Hid (∀ W, Below w12.heap.size w12 W → Calls Tryz.prog 34 #[.slice lA ln lc, .int .i64 x.known, .slice bA bn bc, .slice A12 (mn - 1) c12] W fun e' w' => ∃ Ad cd, e' = .returned (.tuple #[.slice Ad dl4.length cd, .bool was, .int .i64 0]) ∧ Below W.heap.size W w') :=
              (show ∀ W, Below w12.heap.size w12 W → _ from fun W h => by
                have hW := HB12.out.trans (h.mono hz12)
                have := Dates_any lA ln lc l x.known bA bn bc b A12 (mn - 1) c12 _ W (RL.out W hW) (RB.out W hW) ((HO12.out.rd (fun _ => rfl) (by omega)).below h (Nat.le_refl _))
                rw [HD4E.out] at this
                exact this.mono fun e' w' ⟨Ad, cd, h1, h2, _⟩ => ⟨Ad, cd, h1, h2⟩)
            have h7 : was = false ∨ (was = true ∧ some_ = true) := by
              cases hs : was with
              | false => exact .inl rfl
              | true => exact .inr ⟨rfl, HWS.out hs⟩
            obtain ⟨c0, c1, c2, c3, c4, c5, c6_, c7, c8, c9⟩ := CX.out _ HB12.out
            clear HWS HD4E HO12 HRT HRD RL RB RM CX HB11
            rcases h7 with rfl | ⟨rfl, rfl⟩
            all_goals
              go_wp2_with (first
                | (go_at_call 34; (with_reducible refine (HD4.out _ (Below.refl _ _)).mono ?_); rintro e' w13 ⟨A13, cc13, rfl, hb13⟩
                   have HB13 := Lib.hid (HB12.out.trans (hb13.mono hz12))
                   have hz13 := HB13.out.size
                   clear hb13 c0 c1 c2 c3 c4 c5 c6_ c7 c8 c9)
                | (go_at_call 22; (with_reducible refine (HDUG.out _).mono ?_); rintro e' w14 ⟨rfl, hb14⟩; have HB14 := Lib.hid hb14; clear hb14))
              go_ret
              exact ⟨rfl, hb1.trans ((HB13.out.trans (HB14.out.mono hz13)).mono (by omega))⟩
end Go.Proofs.YtelnkflmnbhclaaGreat
end

/- What is proved: the middle of the walk of the law StratumNarrower: the bond more. Conditions: as said. -/
section
namespace Go.Proofs.YtelnkflmnbhclaaGreat
open Go.RowKit Go.Proofs Go.Shelf

def codenarA : Option Code → Code
  | some (.seq _ (.seq _ (.seq _ (.seq _ (.seq _ (.seq _ c)))))) => c
  | _ => .skip
set_option maxRecDepth 100000 in
set_option maxHeartbeats 8000000 in
theorem narA (cC : Code) (hc : cC = codenarA Tryz.f6.body) (lA : Option Addr) (ln lc : Nat) (l : List Trace) (x : Trace) (bA : Option Addr) (bn bc : Nat) (b : List Bond) (y : Bond) (mA : Option Addr) (mn mc : Nat) (mv : List Place) (which : Int) (w w1 w6 : World) (some_ : Bool) (e : Int) {u1 u3 u6 u8 u10 u11 u12 u13 u16 u17 u18 u19 u20 u21 u22 u23 u24 u25 u26 u27 u28 u29 u30 u31 u32 u33 u34 u35 u36 u37 u38 u39 u40 u41 u42 u43 u44 u45 u46 u47 u48 u49 u50 u51 u52 u53 u54 u55 u56 u57 u58 u59 u60 u61 u62 u63 u64 u65 u66 u67 u68 u69 u70 u71 u72 u73 u74 u75 u76 u77 u78 u79 u80 u81 u82 u83 u84 u85 u86 u87 u88 u89 u90 u91 u92 u93 u94 u95 u96 u97 u98 u99 u100 u101 u102 u103 u104 u105 u106 u107 u108 u109 u110 u111 u112 u113 u114 u115 u116 u117 u118 u119 u120 u121 u122 u123 u124 u125 u126 u127 u128 u129 u130 u131 u132 u133 u134 u135 u136 u137 u138 u139 u140 u141 u142 u143 u144 u145 u146 u147 u148 u149 u150 u151 u152 u153 u154 u155 u156 u157 u158 u159 u160 u161 u162 u163 u164 u165 u166 u167 u168 u169 u170 u171 u172 u173 u174 u175 u176 u177 u178 u179 u180 u181 u182 u183 u184 u185 u186 u187 u188 u189 u190 u191 u192 u193 u194 u195 u196 u197 u198 u199 u200 u201 u202 u203 : Value}
    (hb1 : Below w.heap.size w w1) (hz1 : w1.heap.size = w.heap.size + 2) (hn : ln ≤ 143) (hm : bn ≤ 63) (hmn : mn ≤ 10)
    (CX : Hid (∀ W, Below w1.heap.size w1 W → W.cell? ⟨w.heap.size, 0, none⟩ = some (.int .i64 x.id) ∧ W.cell? ⟨w.heap.size, 1, none⟩ = some (.int .i64 x.known) ∧ W.cell? ⟨w.heap.size, 2, none⟩ = some (.int .u8 x.kind) ∧ W.cell? ⟨w.heap.size, 3, none⟩ = some (.int .i64 x.pit) ∧ W.cell? ⟨w.heap.size, 4, none⟩ = some (.int .i64 x.layer) ∧ W.cell? ⟨w.heap.size, 5, none⟩ = some (.int .i64 x.lower) ∧ W.cell? ⟨w.heap.size, 6, none⟩ = some (.int .i64 x.low) ∧ W.cell? ⟨w.heap.size, 7, none⟩ = some (.int .i64 x.high) ∧ W.cell? ⟨w.heap.size, 8, none⟩ = some (.int .i64 x.cost) ∧ W.cell? ⟨w.heap.size, 9, none⟩ = some (.int .i64 x.void))) (CY : Hid (∀ W, Below w1.heap.size w1 W → W.cell? ⟨w.heap.size + 1, 0, none⟩ = some (.int .i64 y.a.pit) ∧ W.cell? ⟨w.heap.size + 1, 1, none⟩ = some (.int .i64 y.a.layer) ∧ W.cell? ⟨w.heap.size + 1, 2, none⟩ = some (.int .i64 y.b.pit) ∧ W.cell? ⟨w.heap.size + 1, 3, none⟩ = some (.int .i64 y.b.layer) ∧ W.cell? ⟨w.heap.size + 1, 4, none⟩ = some (.int .i64 y.by_)))
    (RL : Hid (∀ W, Below w1.heap.size w1 W → Rd encTrace 10 W lA ln lc l)) (RB : Hid (∀ W, Below w1.heap.size w1 W → Rd encBond 5 W bA bn bc b)) (RM : Hid (∀ W, Below w1.heap.size w1 W → Rd encPlace 2 W mA mn mc mv))
    (NB : Hid (e = 0 → ∀ dl2 h2, (datesV l x.known (b ++ [y]) mv) = (dl2, true, h2) → some_ = true))
    (NP : Hid (e = 0 → ∀ k dl2 was h2, (datesV l x.known b (mv.take k ++ mv.drop (k + 1))) = (dl2, was, h2) → h2 = 0 ∧ (was = true → some_ = true)))
    (HB6 : Hid (Below w1.heap.size w1 w6)) (hlb : b.length = bn) :
    cC.wp Tryz.prog (bodyPost Tryz.prog Tryz.f6 fun e w' => e = .returned (.bool true) ∧ Below w.heap.size w w') { tmps := #[.slice lA ln lc, u1, .slice bA bn bc, u3, .slice mA mn mc, .int .i64 which, u6, .pointer (some ⟨w.heap.size, 0, none⟩), u8, .pointer (some ⟨w.heap.size + 1, 0, none⟩), u10, u11, u12, u13, .bool some_, .int .i64 e, u16, u17, u18, u19, u20, u21, u22, u23, u24, u25, u26, u27, u28, u29, u30, u31, u32, u33, u34, u35, u36, u37, u38, u39, u40, u41, u42, u43, u44, u45, u46, u47, u48, u49, u50, u51, u52, u53, u54, u55, u56, u57, u58, u59, u60, u61, u62, u63, u64, u65, u66, u67, u68, u69, u70, u71, u72, u73, u74, u75, u76, u77, u78, u79, u80, u81, u82, u83, u84, u85, u86, u87, u88, u89, u90, u91, u92, u93, u94, u95, u96, u97, u98, u99, u100, u101, u102, u103, u104, u105, u106, u107, u108, u109, u110, u111, u112, u113, u114, u115, u116, u117, u118, u119, u120, u121, u122, u123, u124, u125, u126, u127, u128, u129, u130, u131, u132, u133, u134, u135, u136, u137, u138, u139, u140, u141, u142, u143, u144, u145, u146, u147, u148, u149, u150, u151, u152, u153, u154, u155, u156, u157, u158, u159, u160, u161, u162, u163, u164, u165, u166, u167, u168, u169, u170, u171, u172, u173, u174, u175, u176, u177, u178, u179, u180, u181, u182, u183, u184, u185, u186, u187, u188, u189, u190, u191, u192, u193, u194, u195, u196, u197, u198, u199, u200, u201, u202, u203], defers := [] } w6 := by
  subst hc
  obtain ⟨QQ, hQQ⟩ : ∃ QQ, bodyPost Tryz.prog Tryz.f6 (fun e w' => e = .returned (.bool true) ∧ Below w.heap.size w w') = QQ := ⟨_, rfl⟩
  rw [hQQ]
  unfold codenarA Tryz.f6
  dsimp only
  rw [← hQQ]
  clear hQQ
  obtain ⟨y0, y1, y2, y3, y4⟩ := CY.out _ HB6.out
  have hz6 := HB6.out.size
  have HLB := Lib.hid hlb
  clear hlb
  go_upto_region 11 with fail
  go_cut [27] (fun s27 wx => ∃ A' c', s27 = .slice A' (bn + 1) c' ∧ Hid (Below w1.heap.size w1 wx) ∧ Hid (Own encBond 5 50 w1.heap.size wx A' (bn + 1) c' (b ++ [y])))
  case first =>
    have SY : Hid (∀ W, Below w1.heap.size w1 W → Hid (Below w1.heap.size w1 W) ∧ W.cell? ⟨w.heap.size + 1, 0, none⟩ = some (.int .i64 y.a.pit) ∧ W.cell? ⟨w.heap.size + 1, 1, none⟩ = some (.int .i64 y.a.layer) ∧ W.cell? ⟨w.heap.size + 1, 2, none⟩ = some (.int .i64 y.b.pit) ∧ W.cell? ⟨w.heap.size + 1, 3, none⟩ = some (.int .i64 y.b.layer) ∧ W.cell? ⟨w.heap.size + 1, 4, none⟩ = some (.int .i64 y.by_)) := (show ∀ W, Below w1.heap.size w1 W → _ from fun W hb => ⟨hb, CY.out W hb⟩)
    have E1 : Hid (Own encBond 5 50 w1.heap.size (w6.alloc (.cells #[] 50)).drew (some ⟨w6.heap.size, 0, none⟩) 0 0 []) := Lib.hid (Own.fresh encBond 5 50 w6 hz6).drew
    have E2 : Hid (Own encBond 5 50 w1.heap.size ((w6.alloc (.cells #[] 50)).alloc (.cells #[.int .i64 y.a.pit, .int .i64 y.a.layer, .int .i64 y.b.pit, .int .i64 y.b.layer, .int .i64 y.by_] 50)).drew (some ⟨w6.heap.size, 0, none⟩) 0 0 []) := Lib.hid ((Own.fresh encBond 5 50 w6 hz6).alloc _).drew
    have E3 : Hid (Own encBond 5 50 w1.heap.size ((w6.alloc (.cells #[.int .i64 y.a.pit, .int .i64 y.a.layer, .int .i64 y.b.pit, .int .i64 y.b.layer, .int .i64 y.by_] 50)).alloc (.cells #[] 50)).drew (some ⟨w6.heap.size + 1, 0, none⟩) 0 0 []) := Lib.hid (by have := (Own.fresh encBond 5 50 (B := w1.heap.size) (w6.alloc (.cells #[.int .i64 y.a.pit, .int .i64 y.a.layer, .int .i64 y.b.pit, .int .i64 y.b.layer, .int .i64 y.by_] 50)) (by simp; omega)).drew; rwa [World.size_alloc] at this)
    have B1 : Hid (Below w1.heap.size w1 (w6.alloc (.cells #[] 50)).drew) := Lib.hid (HB6.out.alloc hz6 _).drew
    have B2 : Hid (Below w1.heap.size w1 ((w6.alloc (.cells #[] 50)).alloc (.cells #[.int .i64 y.a.pit, .int .i64 y.a.layer, .int .i64 y.b.pit, .int .i64 y.b.layer, .int .i64 y.by_] 50)).drew) := Lib.hid ((HB6.out.alloc hz6 _).alloc (by simp; omega) _).drew
    have B3 : Hid (Below w1.heap.size w1 ((w6.alloc (.cells #[.int .i64 y.a.pit, .int .i64 y.a.layer, .int .i64 y.b.pit, .int .i64 y.b.layer, .int .i64 y.by_] 50)).alloc (.cells #[] 50)).drew) := Lib.hid ((HB6.out.alloc hz6 _).alloc (by simp; omega) _).drew
    have R2 : Hid (Rd encBond 5 ((w6.alloc (.cells #[] 50)).alloc (.cells #[.int .i64 y.a.pit, .int .i64 y.a.layer, .int .i64 y.b.pit, .int .i64 y.b.layer, .int .i64 y.by_] 50)).drew (some ⟨w6.heap.size + 1, 0, none⟩) 1 1 [y]) := Lib.hid (by have := (Rd.single (enc := encBond) (k := 5) (w6.alloc (.cells #[] 50)) #[.int .i64 y.a.pit, .int .i64 y.a.layer, .int .i64 y.b.pit, .int .i64 y.b.layer, .int .i64 y.by_] 50 [y] 1 rfl (by omega) (fun _ => rfl) (by simp [encBond])).drew; rwa [World.size_alloc] at this)
    have R3 : Hid (Rd encBond 5 ((w6.alloc (.cells #[.int .i64 y.a.pit, .int .i64 y.a.layer, .int .i64 y.b.pit, .int .i64 y.b.layer, .int .i64 y.by_] 50)).alloc (.cells #[] 50)).drew (some ⟨w6.heap.size, 0, none⟩) 1 1 [y]) := Lib.hid ((Rd.single (enc := encBond) (k := 5) w6 #[.int .i64 y.a.pit, .int .i64 y.a.layer, .int .i64 y.b.pit, .int .i64 y.b.layer, .int .i64 y.by_] 50 [y] 1 rfl (by omega) (fun _ => rfl) (by simp [encBond])).alloc _).drew
    clear CX NB NP
    go_region_held3 (fun W => Hid (Below w1.heap.size w1 W) ∧ W.cell? ⟨w.heap.size + 1, 0, none⟩ = some (.int .i64 y.a.pit) ∧ W.cell? ⟨w.heap.size + 1, 1, none⟩ = some (.int .i64 y.a.layer) ∧ W.cell? ⟨w.heap.size + 1, 2, none⟩ = some (.int .i64 y.b.pit) ∧ W.cell? ⟨w.heap.size + 1, 3, none⟩ = some (.int .i64 y.b.layer) ∧ W.cell? ⟨w.heap.size + 1, 4, none⟩ = some (.int .i64 y.by_)) (first | exact SY.out _ HB9.out | exact SY.out _ HB8.out | exact SY.out _ (HB8.out.alloc hz8 _) | exact SY.out _ B1.out | exact SY.out _ B2.out | exact SY.out _ B3.out | exact SY.out _ HB6.out.drew | exact SY.out _ (HB6.out.drew.alloc hz6 _))
      (first
        | (refine step_append_src elBond (fun _ => rfl) oneBond rfl (.tmp 128) (.tmp 129) rfl _ _ _ _ rfl rfl E1.out (RB.out _ B1.out) (by omega) (by decide) (by (try simp); omega) ?_; intro A8 c8 w8 hO8 hg8 hA8
           have HB8 := Lib.hid (B1.out.grown hg8 (by simp; omega) (fun j e => by have : w6.heap.size = j := (by simpa [blockOf] using e); omega))
           have hz8 := HB8.out.size
           rw [Nat.zero_add, List.nil_append] at hO8
           have HO8 := Lib.hid (hO8.alloc (.cells #[.int .i64 y.a.pit, .int .i64 y.a.layer, .int .i64 y.b.pit, .int .i64 y.b.layer, .int .i64 y.by_] 50))
           have HR8 := Lib.hid (Rd.single (enc := encBond) (k := 5) w8 #[.int .i64 y.a.pit, .int .i64 y.a.layer, .int .i64 y.b.pit, .int .i64 y.b.layer, .int .i64 y.by_] 50 [y] 1 rfl (by omega) (fun _ => rfl) (by simp [encBond]))
           clear hO8 hg8 hA8)
        | (refine step_append_src elBond (fun _ => rfl) oneBond rfl (.tmp 128) (.tmp 129) rfl _ _ _ _ rfl rfl E2.out (RB.out _ B2.out) (by omega) (by decide) (by (try simp); omega) ?_; intro A8 c8 w8 hO8 hg8 hA8
           have HB8 := Lib.hid (B2.out.grown hg8 (by simp; omega) (fun j e => by have : w6.heap.size = j := (by simpa [blockOf] using e); omega))
           have hz8 := HB8.out.size
           have HR8 := Lib.hid (R2.out.grown hg8 (fun _ q e => by simp [blockOf] at e ⊢; omega))
           have HO8 := Lib.hid hO8
           clear hO8 hg8 hA8)
        | (refine step_append_src elBond (fun _ => rfl) oneBond rfl (.tmp 128) (.tmp 129) rfl _ _ _ _ rfl rfl E3.out (RB.out _ B3.out) (by omega) (by decide) (by (try simp); omega) ?_; intro A8 c8 w8 hO8 hg8 hA8
           have HB8 := Lib.hid (B3.out.grown hg8 (by simp; omega) (fun j e => by have : w6.heap.size + 1 = j := (by simpa [blockOf] using e); omega))
           have hz8 := HB8.out.size
           have HR8 := Lib.hid (R3.out.grown hg8 (fun _ q e => by simp [blockOf] at e ⊢; omega))
           have HO8 := Lib.hid hO8
           clear hO8 hg8 hA8)
        | (refine step_append_src elBond (fun _ => rfl) oneBond rfl (.tmp 130) (.tmp 132) rfl _ _ _ _ rfl rfl HO8.out HR8.out (by omega) (by decide) (by (try simp); omega) ?_; intro A9 c9 w9 hO9 hg9 hA9
           have HB9 := Lib.hid (show Below w1.heap.size w1 w9 from by first | exact (HB8.out.alloc hz8 _).grown hg9 (by simp; omega) (fun j e => HO8.out.ltB j e) | exact HB8.out.grown hg9 hz8 (fun j e => HO8.out.ltB j e))
           have HO9 := Lib.hid hO9
           clear hO9 hg9 hA9))
    all_goals (go_wp2_with fail; go_meet)
    all_goals exact ⟨A9, c9, by simp, HB9.out, by first | exact HO9.out | (have h9 := HO9.out; rw [Nat.zero_add, List.nil_append] at h9; exact h9)⟩
  case rest =>
    rename World => w10
    obtain ⟨A10, c10, rfl, HB10, HO10⟩ := hcut
    rename ∀ (a : Act) (w : World), Code.wp _ _ _ a w → _ => hK0
    refine hK0 _ _ ?_
    exact narB _ rfl lA ln lc l x bA bn bc b y mA mn mc mv which w w1 w10 some_ e A10 c10 hb1 hz1 hn hm hmn CX RL RB RM NB NP HB10 HO10
end Go.Proofs.YtelnkflmnbhclaaGreat
end

/- What is proved: the walk of the law StratumNarrower. Conditions: as said. -/
section
namespace Go.Proofs.YtelnkflmnbhclaaGreat
open Go.RowKit Go.Proofs Go.Shelf

set_option maxRecDepth 100000 in
set_option maxHeartbeats 8000000 in
theorem stratumNarrower_of (lA : Option Addr) (ln lc : Nat) (l : List Trace) (hl0 : l.length = ln) (x : Trace) (bA : Option Addr) (bn bc : Nat) (b : List Bond) (hb0 : b.length = bn) (y : Bond) (mA : Option Addr) (mn mc : Nat) (mv : List Place) (hm0 : mv.length = mn) (which : Int) (w : World) (rl : ln ≤ 17592186044416 → Rd encTrace 10 w lA ln lc l) (rb : bn ≤ 17592186044416 → Rd encBond 5 w bA bn bc b) (rm : mn ≤ 17592186044416 → Rd encPlace 2 w mA mn mc mv) :
    Calls Tryz.prog 6 #[.slice lA ln lc, .agg #[.int .i64 x.id, .int .i64 x.known, .int .u8 x.kind, .int .i64 x.pit, .int .i64 x.layer, .int .i64 x.lower, .int .i64 x.low, .int .i64 x.high, .int .i64 x.cost, .int .i64 x.void], .slice bA bn bc, .agg #[.int .i64 y.a.pit, .int .i64 y.a.layer, .int .i64 y.b.pit, .int .i64 y.b.layer, .int .i64 y.by_], .slice mA mn mc, .int .i64 which] w fun e w' => e = .returned (.bool true) ∧ Below w.heap.size w w' := by
  obtain ⟨w1, hw1⟩ : ∃ w1, (w.alloc (.cells #[.int .i64 x.id, .int .i64 x.known, .int .u8 x.kind, .int .i64 x.pit, .int .i64 x.layer, .int .i64 x.lower, .int .i64 x.low, .int .i64 x.high, .int .i64 x.cost, .int .i64 x.void] 25)).alloc (.cells #[.int .i64 y.a.pit, .int .i64 y.a.layer, .int .i64 y.b.pit, .int .i64 y.b.layer, .int .i64 y.by_] 50) = w1 := ⟨_, rfl⟩
  have hb1 : Below w.heap.size w w1 := (by rw [← hw1]; exact ((Below.refl _ w).alloc (Nat.le_refl _) _).alloc (by simp) _)
  have hz1 : w1.heap.size = w.heap.size + 2 := (by rw [← hw1]; simp)
  have hrx : w1.heap[w.heap.size]? = some (.cells #[.int .i64 x.id, .int .i64 x.known, .int .u8 x.kind, .int .i64 x.pit, .int .i64 x.layer, .int .i64 x.lower, .int .i64 x.low, .int .i64 x.high, .int .i64 x.cost, .int .i64 x.void] 25 (0, 0)) := (by rw [← hw1, Below.heap_alloc _ _ _ (by simp)]; exact heap_alloc_new w _)
  have hry : w1.heap[w.heap.size + 1]? = some (.cells #[.int .i64 y.a.pit, .int .i64 y.a.layer, .int .i64 y.b.pit, .int .i64 y.b.layer, .int .i64 y.by_] 50 (0, 0)) := (by
    rw [← hw1]
    have := heap_alloc_new (w.alloc (.cells #[.int .i64 x.id, .int .i64 x.known, .int .u8 x.kind, .int .i64 x.pit, .int .i64 x.layer, .int .i64 x.lower, .int .i64 x.low, .int .i64 x.high, .int .i64 x.cost, .int .i64 x.void] 25)) (.cells #[.int .i64 y.a.pit, .int .i64 y.a.layer, .int .i64 y.b.pit, .int .i64 y.b.layer, .int .i64 y.by_] 50)
    rw [World.size_alloc] at this; exact this)
  have CX : Hid (∀ W, Below w1.heap.size w1 W → W.cell? ⟨w.heap.size, 0, none⟩ = some (.int .i64 x.id) ∧ W.cell? ⟨w.heap.size, 1, none⟩ = some (.int .i64 x.known) ∧ W.cell? ⟨w.heap.size, 2, none⟩ = some (.int .u8 x.kind) ∧ W.cell? ⟨w.heap.size, 3, none⟩ = some (.int .i64 x.pit) ∧ W.cell? ⟨w.heap.size, 4, none⟩ = some (.int .i64 x.layer) ∧ W.cell? ⟨w.heap.size, 5, none⟩ = some (.int .i64 x.lower) ∧ W.cell? ⟨w.heap.size, 6, none⟩ = some (.int .i64 x.low) ∧ W.cell? ⟨w.heap.size, 7, none⟩ = some (.int .i64 x.high) ∧ W.cell? ⟨w.heap.size, 8, none⟩ = some (.int .i64 x.cost) ∧ W.cell? ⟨w.heap.size, 9, none⟩ = some (.int .i64 x.void)) := (show ∀ W, Below w1.heap.size w1 W → _ from fun W hb => by
    have := (hb.block _ (by omega)).trans hrx
    simp [World.cell?, this])
  have CY : Hid (∀ W, Below w1.heap.size w1 W → W.cell? ⟨w.heap.size + 1, 0, none⟩ = some (.int .i64 y.a.pit) ∧ W.cell? ⟨w.heap.size + 1, 1, none⟩ = some (.int .i64 y.a.layer) ∧ W.cell? ⟨w.heap.size + 1, 2, none⟩ = some (.int .i64 y.b.pit) ∧ W.cell? ⟨w.heap.size + 1, 3, none⟩ = some (.int .i64 y.b.layer) ∧ W.cell? ⟨w.heap.size + 1, 4, none⟩ = some (.int .i64 y.by_)) := (show ∀ W, Below w1.heap.size w1 W → _ from fun W hb => by
    have := (hb.block _ (by omega)).trans hry
    simp [World.cell?, this])
  clear hrx hry
  have HDUG := Lib.hid dug_any
  by_cases hlow : fewB ln bn 20 = true ∧ mn ≤ 10
  case neg =>
    cases hfew : fewB ln bn 20 with
    | false =>
      have HF := Lib.hid hfew
      clear hfew hlow rl rb rm hl0 hb0 hm0
      go_enter Tryz.func6, Tryz.ntmps6
      go_wp2_with (first
        | (go_at_call 23; (with_reducible refine (few_any _ _ _ _ _ _ _ _).mono ?_); rintro e w2 ⟨rfl, rfl⟩; rw [HF.out])
        | (go_at_call 22; (with_reducible refine (HDUG.out _).mono ?_); rintro e w7 ⟨rfl, hb7⟩; have HB7 := Lib.hid hb7; clear hb7))
      go_ret
      exact ⟨rfl, hb1.trans (HB7.out.mono (by omega))⟩
    | true =>
      have HF := Lib.hid hfew
      have hmn : 10 < mn := by
        rcases Nat.lt_or_ge 10 mn with h | h
        · exact h
        · exact absurd ⟨hfew, h⟩ hlow
      have hmn' : decide ((mn : Int) > 10) = true := decide_eq_true (by omega)
      clear hfew hlow rl rb rm hl0 hb0 hm0
      go_enter Tryz.func6, Tryz.ntmps6
      go_wp2_with (first
        | (go_at_call 23; (with_reducible refine (few_any _ _ _ _ _ _ _ _).mono ?_); rintro e w2 ⟨rfl, rfl⟩; rw [HF.out])
        | (go_at_call 22; (with_reducible refine (HDUG.out _).mono ?_); rintro e w7 ⟨rfl, hb7⟩; have HB7 := Lib.hid hb7; clear hb7))
      go_ret
      exact ⟨rfl, hb1.trans (HB7.out.mono (by omega))⟩
  case pos =>
    obtain ⟨hfew, hmn⟩ := hlow
    obtain ⟨hn, hm⟩ := fewB_small hfew (by decide)
    have HF := Lib.hid hfew
    have hmn' : decide ((mn : Int) > 10) = false := decide_eq_false (by omega)
    have RL : Hid (∀ W, Below w1.heap.size w1 W → Rd encTrace 10 W lA ln lc l) := (show ∀ W, Below w1.heap.size w1 W → Rd encTrace 10 W lA ln lc l from fun W h => (rl (by omega)).below (hb1.trans (h.mono (by omega))) (Nat.le_refl _))
    have RB : Hid (∀ W, Below w1.heap.size w1 W → Rd encBond 5 W bA bn bc b) := (show ∀ W, Below w1.heap.size w1 W → Rd encBond 5 W bA bn bc b from fun W h => (rb (by omega)).below (hb1.trans (h.mono (by omega))) (Nat.le_refl _))
    have RM : Hid (∀ W, Below w1.heap.size w1 W → Rd encPlace 2 W mA mn mc mv) := (show ∀ W, Below w1.heap.size w1 W → Rd encPlace 2 W mA mn mc mv from fun W h => (rm (by omega)).below (hb1.trans (h.mono (by omega))) (Nat.le_refl _))
    have HB1 := Lib.hid (Below.refl w1.heap.size w1)
    clear hfew rl rb rm
    have HL0 := Lib.hid hl0
    have HB0 := Lib.hid hb0
    have HM0 := Lib.hid hm0
    obtain ⟨⟨dl, some_, e⟩, hD⟩ : ∃ q, datesV l x.known b mv = q := ⟨_, rfl⟩
    obtain ⟨⟨cost, cl, f⟩, hC⟩ : ∃ q, cheapV l x.known b = q := ⟨_, rfl⟩
    obtain ⟨⟨pl, g⟩, hP⟩ : ∃ q, appendV l x = q := ⟨_, rfl⟩
    have HD : Hid (∀ W, Below w1.heap.size w1 W → Calls Tryz.prog 34 #[.slice lA ln lc, .int .i64 x.known, .slice bA bn bc, .slice mA mn mc] W fun e' w' => ∃ Ad cd, e' = .returned (.tuple #[.slice Ad dl.length cd, .bool some_, .int .i64 e]) ∧ Below W.heap.size W w') :=
      (show ∀ W, Below w1.heap.size w1 W → _ from fun W h => by
        have := Dates_any lA ln lc l x.known bA bn bc b mA mn mc mv W (RL.out W h) (RB.out W h) (RM.out W h)
        rw [hD] at this
        exact this.mono fun e' w' ⟨Ad, cd, h1, h2, _⟩ => ⟨Ad, cd, h1, h2⟩)
    have HC : Hid (∀ W, Below w1.heap.size w1 W → Calls Tryz.prog 35 #[.slice lA ln lc, .int .i64 x.known, .slice bA bn bc] W fun e' w' => ∃ Ad cd, e' = .returned (.tuple #[.int .i64 cost, .slice Ad cl.length cd, .int .i64 f]) ∧ Below W.heap.size W w') :=
      (show ∀ W, Below w1.heap.size w1 W → _ from fun W h => by
        have := Cheapest_any lA ln lc l x.known bA bn bc b W (RL.out W h) (RB.out W h)
        rw [hC] at this
        exact this.mono fun e' w' ⟨Ad, cd, h1, h2, _⟩ => ⟨Ad, cd, h1, h2⟩)
    have HP : Hid (∀ W, Below w1.heap.size w1 W → Calls Tryz.prog 36 #[.slice lA ln lc, .agg #[.int .i64 x.id, .int .i64 x.known, .int .u8 x.kind, .int .i64 x.pit, .int .i64 x.layer, .int .i64 x.lower, .int .i64 x.low, .int .i64 x.high, .int .i64 x.cost, .int .i64 x.void]] W fun e' w' => ∃ A' c', e' = .returned (.tuple #[.slice A' pl.length c', .int .i64 g]) ∧ Below W.heap.size W w' ∧ Own encTrace 10 25 W.heap.size w' A' pl.length c' pl) :=
      (show ∀ W, Below w1.heap.size w1 W → _ from fun W h => by
        have := Append_any lA ln lc l x W (RL.out W h)
        rw [hP] at this
        exact this)
    have hpl : pl.length ≤ 144 := by
      have h1 : pl = (appendV l x).1 := by rw [hP]
      rw [h1]; unfold appendV
      split
      · simp
      · split <;> simp <;> omega
    have hpg : g = 0 → pl = l ++ [x] := fun h => by
      have h1 : pl = (appendV l x).1 := by rw [hP]
      have h2 : (appendV l x).2 = 0 := by rw [hP]; exact h
      rw [h1]; unfold appendV at h2 ⊢
      split at h2
      · rename_i h3; exact absurd h2 h3
      · rename_i h3; rw [if_neg h3]
        split at h2
        · rename_i h4; exact absurd h2 h4
        · rename_i h4; rw [if_neg h4]
    clear hl0 hb0 hm0
    have HDE := Lib.hid hD
    have HCE := Lib.hid hC
    have HPG := Lib.hid hpg
    clear hD hC hP hpg
    have NE : Hid (g = 0 → e = 0 → (x.kind = 1 ∨ x.kind = 2) → ∀ dl2 h2 , (datesV (l ++ [x]) x.known b mv) = (dl2, true, h2) → some_ = true) := (show g = 0 → e = 0 → (x.kind = 1 ∨ x.kind = 2) → ∀ dl2 h2 , (datesV (l ++ [x]) x.known b mv) = (dl2, true, h2) → some_ = true from fun _ he hk dl2 h2 hd => by
      have := narrow_dates (l := l) (x := x) (known := x.known) (bs := b) (mv := mv) hk (by rw [HDE.out]; exact he) (by rw [hd])
      rw [HDE.out] at this; exact this)
    have NC : Hid (e = 0 → (x.kind = 1 ∨ x.kind = 2) → ∀ co cl2, (cheapV (l ++ [x]) x.known b) = (co, cl2, 0) → f = 0 ∧ cost ≤ co) := (show e = 0 → (x.kind = 1 ∨ x.kind = 2) → ∀ co cl2, (cheapV (l ++ [x]) x.known b) = (co, cl2, 0) → f = 0 ∧ cost ≤ co from fun he hk co cl2 hd => by
      have h1 : (datesV l x.known b mv).2.2 = 0 := by rw [HDE.out]; exact he
      rw [datesV_err] at h1
      have := narrow_cost (l := l) (x := x) (known := x.known) (bs := b) hk (withErr_zero.1 h1).1 (by rw [hd])
      rw [HCE.out, hd] at this; exact this)
    have NB : Hid (e = 0 → ∀ dl2 h2, (datesV l x.known (b ++ [y]) mv) = (dl2, true, h2) → some_ = true) := (show e = 0 → ∀ dl2 h2, (datesV l x.known (b ++ [y]) mv) = (dl2, true, h2) → some_ = true from fun he dl2 h2 hd => by
      have := narrow_bond (l := l) (known := x.known) (bs := b) (y := y) (mv := mv) (by rw [HDE.out]; exact he) (by rw [hd])
      rw [HDE.out] at this; exact this)
    have NP : Hid (e = 0 → ∀ k dl2 was h2, (datesV l x.known b (mv.take k ++ mv.drop (k + 1))) = (dl2, was, h2) → h2 = 0 ∧ (was = true → some_ = true)) := (show e = 0 → ∀ k dl2 was h2, (datesV l x.known b (mv.take k ++ mv.drop (k + 1))) = (dl2, was, h2) → h2 = 0 ∧ (was = true → some_ = true) from fun he k dl2 was h2 hd => by
      have := narrow_place (l := l) (known := x.known) (bs := b) (mv := mv) k (by rw [HDE.out]; exact he)
      rw [HDE.out, hd] at this; exact this)
    clear HDE HCE
    go_enter Tryz.func6, Tryz.ntmps6
    go_upto_region 6 with (first
      | (go_at_call 23; (with_reducible refine (few_any _ _ _ _ _ _ _ _).mono ?_); rintro e w2 ⟨rfl, hw2⟩; obtain rfl := hw2.symm; rw [HF.out]; obtain ⟨c0, c1, c2, c3, c4, c5, c6, c7, c8, c9⟩ := CX.out _ HB1.out)
      | (go_at_call 34; (with_reducible refine (HD.out _ HB1.out).mono ?_); rintro e w3 ⟨A3, cc3, rfl, hb3⟩
         have HB3 := Lib.hid hb3
         clear hb3 c0 c1 c2 c3 c4 c5 c6 c7 c8 c9
         obtain ⟨c0, c1, c2, c3, c4, c5, c6, c7, c8, c9⟩ := CX.out _ HB3.out)
      | (go_at_call 35; (with_reducible refine (HC.out _ HB3.out).mono ?_); rintro e w4 ⟨A4, cc4, rfl, hb4⟩
         have HB4 := Lib.hid (HB3.out.trans (hb4.mono HB3.out.size))
         clear hb4 c0 c1 c2 c3 c4 c5 c6 c7 c8 c9
         obtain ⟨c0, c1, c2, c3, c4, c5, c6, c7, c8, c9⟩ := CX.out _ HB4.out)
      | (go_at_call 36; (with_reducible refine (HP.out _ HB4.out).mono ?_); rintro e w5 ⟨A5, cc5, rfl, hb5, hO5⟩
         have HB5 := Lib.hid (HB4.out.trans (hb5.mono HB4.out.size))
         have HO5 := Lib.hid hO5
         clear hb5 hO5 c0 c1 c2 c3 c4 c5 c6 c7 c8 c9))
    clear HC HP HB3 HB4
    have hO5' := HO5.out
    obtain ⟨c6, hc6⟩ : ∃ c6 : Bool, decide (g = 0 ∧ e = 0 ∧ (x.kind = 1 ∨ x.kind = 2)) = c6 := ⟨_, rfl⟩
    have HC6 := Lib.hid hc6
    clear hc6
    obtain ⟨c0, c1, c2, c3, c4, c5, c6_, c7, c8, c9⟩ := CX.out _ HB5.out
    go_cut [86] (fun s86 wx => s86 = .bool c6 ∧ w5 = wx)
    case first =>
      have h4 : ((g ≠ 0 ∧ (g == 0) = false) ∨ (g = 0 ∧ (g == 0) = true ∧ e ≠ 0 ∧ (e == 0) = false) ∨ (g = 0 ∧ (g == 0) = true ∧ e = 0 ∧ (e == 0) = true ∧ x.kind ≠ 1 ∧ x.kind ≠ 2 ∧ (x.kind == 1) = false ∧ (x.kind == 2) = false) ∨ (g = 0 ∧ (g == 0) = true ∧ e = 0 ∧ (e == 0) = true ∧ x.kind = 1 ∧ (x.kind == 1) = true) ∨ (g = 0 ∧ (g == 0) = true ∧ e = 0 ∧ (e == 0) = true ∧ x.kind = 2 ∧ (x.kind == 1) = false ∧ (x.kind == 2) = true)) := by
        by_cases h1 : g = 0
        · by_cases h2 : e = 0
          · by_cases h3 : x.kind = 1
            · simp [h1, h2, h3]
            · by_cases h5 : x.kind = 2
              · simp [h1, h2, h5]
              · simp [h1, h2, h3, h5]
          · simp [h1, h2]
        · simp [h1]
      rcases h4 with ⟨p1, q1⟩ | ⟨p1, q1, p2, q2⟩ | ⟨p1, q1, p2, q2, p3, p4, q3, q4⟩ | ⟨p1, q1, p2, q2, p3, q3⟩ | ⟨p1, q1, p2, q2, p3, q3, q4⟩
      all_goals
        go_wp2_with fail
        go_meet
      all_goals exact ⟨congrArg Value.bool (by rw [← HC6.out]; simp [p1] <;> simp [*]), rfl⟩
    case rest =>
    obtain ⟨rfl, rfl⟩ := hcut
    clear c0 c1 c2 c3 c4 c5 c6_ c7 c8 c9
    go_upto_if 86 with fail
    go_cut [14, 20] (fun s14 s20 wx => s14 = .bool some_ ∧ s20 = .int .i64 g ∧ Hid (Below w1.heap.size w1 wx))
    case first =>
      cases c6 with
      | false =>
        go_wp2_with fail
        go_meet
        exact ⟨rfl, rfl, HB5.out⟩
      | true =>
        have h6 := HC6.out
        simp only [decide_eq_true_eq] at h6
        obtain ⟨hg, he, hk⟩ := h6
        obtain ⟨⟨dl2, st2, h2⟩, hD2⟩ : ∃ q, datesV (l ++ [x]) x.known b mv = q := ⟨_, rfl⟩
        obtain ⟨⟨co2, cl2, i2⟩, hC2⟩ : ∃ q, cheapV (l ++ [x]) x.known b = q := ⟨_, rfl⟩
        have hpl2 := HPG.out hg
        have HD2 : Hid (∀ W, Below w5.heap.size w5 W → Calls Tryz.prog 34 #[.slice A5 pl.length cc5, .int .i64 x.known, .slice bA bn bc, .slice mA mn mc] W fun e' w' => ∃ Ad cd, e' = .returned (.tuple #[.slice Ad dl2.length cd, .bool st2, .int .i64 h2]) ∧ Below W.heap.size W w') :=
          (show ∀ W, Below w5.heap.size w5 W → _ from fun W h => by
            have hW := HB5.out.trans (h.mono HB5.out.size)
            have := Dates_any A5 pl.length cc5 pl x.known bA bn bc b mA mn mc mv W ((HO5.out.rd (fun _ => rfl) (by omega)).below h (Nat.le_refl _)) (RB.out W hW) (RM.out W hW)
            rw [hpl2, hD2, ← hpl2] at this
            exact this.mono fun e' w' ⟨Ad, cd, h1, h2, _⟩ => ⟨Ad, cd, h1, h2⟩)
        have HC2 : Hid (∀ W, Below w5.heap.size w5 W → Calls Tryz.prog 35 #[.slice A5 pl.length cc5, .int .i64 x.known, .slice bA bn bc] W fun e' w' => ∃ Ad cd, e' = .returned (.tuple #[.int .i64 co2, .slice Ad cl2.length cd, .int .i64 i2]) ∧ Below W.heap.size W w') :=
          (show ∀ W, Below w5.heap.size w5 W → _ from fun W h => by
            have hW := HB5.out.trans (h.mono HB5.out.size)
            have := Cheapest_any A5 pl.length cc5 pl x.known bA bn bc b W ((HO5.out.rd (fun _ => rfl) (by omega)).below h (Nat.le_refl _)) (RB.out W hW)
            rw [hpl2, hC2, ← hpl2] at this
            exact this.mono fun e' w' ⟨Ad, cd, h1, h2, _⟩ => ⟨Ad, cd, h1, h2⟩)
        have hst : st2 = true → some_ = true := fun h => NE.out hg he hk dl2 h2 (by rw [hD2, h])
        have hco : i2 = 0 → f = 0 ∧ cost ≤ co2 := fun h => NC.out he hk co2 cl2 (by rw [hC2, h])
        have hwa : (h2 ≠ 0 ∧ (h2 == 0) = false) ∨ (h2 = 0 ∧ (h2 == 0) = true) := by by_cases h : h2 = 0 <;> simp [h]
        have hwb : (st2 = false) ∨ (st2 = true ∧ some_ = true) := by
          cases st2 with
          | false => exact .inl rfl
          | true => exact .inr ⟨rfl, hst rfl⟩
        have hwc : (i2 ≠ 0 ∧ (i2 == 0) = false) ∨ (i2 = 0 ∧ (i2 == 0) = true ∧ f = 0 ∧ (f != 0) = false ∧ decide (co2 < cost) = false) := by
          by_cases h : i2 = 0
          · obtain ⟨h3, h4⟩ := hco h
            right; simp [h, h3]; omega
          · left; simp [h]
        have h5 : (h2 ≠ 0 ∧ (h2 == 0) = false) ∨ (h2 = 0 ∧ (h2 == 0) = true ∧ st2 = false ∧ i2 ≠ 0 ∧ (i2 == 0) = false) ∨ (h2 = 0 ∧ (h2 == 0) = true ∧ st2 = false ∧ i2 = 0 ∧ (i2 == 0) = true ∧ f = 0 ∧ (f != 0) = false ∧ decide (co2 < cost) = false) ∨ (h2 = 0 ∧ (h2 == 0) = true ∧ (st2 = true ∧ some_ = true) ∧ i2 ≠ 0 ∧ (i2 == 0) = false) ∨ (h2 = 0 ∧ (h2 == 0) = true ∧ (st2 = true ∧ some_ = true) ∧ i2 = 0 ∧ (i2 == 0) = true ∧ f = 0 ∧ (f != 0) = false ∧ decide (co2 < cost) = false) := by
          rcases hwa with ⟨ha, a1⟩ | ⟨ha, a1⟩
          · exact .inl ⟨ha, a1⟩
          · rcases hwb with h | h
            · rcases hwc with h6 | h6
              · exact .inr (.inl ⟨ha, a1, h, h6⟩)
              · exact .inr (.inr (.inl ⟨ha, a1, h, h6⟩))
            · rcases hwc with h6 | h6
              · exact .inr (.inr (.inr (.inl ⟨ha, a1, h, h6⟩)))
              · exact .inr (.inr (.inr (.inr ⟨ha, a1, h, h6⟩)))
        clear hwa hwb hwc
        have hkk : (x.kind = 1 ∧ (x.kind == 1) = true) ∨ (x.kind = 2 ∧ (x.kind == 1) = false ∧ (x.kind == 2) = true) := by
          rcases hk with h | h
          · left; simp [h]
          · right; simp [h]
        obtain ⟨c0, c1, c2, c3, c4, c5, c6, c7, c8, c9⟩ := CX.out _ HB5.out
        have hz5 := HB5.out.size
        clear hpl2 hst hco hk hD2 hC2 NE NC NB NP HD HPG RL RM RB
        rcases hkk with ⟨hk, k1⟩ | ⟨hk, k1, k2⟩
        all_goals rcases h5 with ⟨ha, a1⟩ | ⟨ha, a1, rfl, hi, i1⟩ | ⟨ha, a1, rfl, hi, i1, -, f1, f2⟩ | ⟨ha, a1, ⟨rfl, rfl⟩, hi, i1⟩ | ⟨ha, a1, ⟨rfl, rfl⟩, hi, i1, -, f1, f2⟩
        all_goals
          clear hg he hk ha
          try clear hi
          go_wp2_with (first
            | (go_at_call 34; (with_reducible refine (HD2.out _ (Below.refl _ _)).mono ?_); rintro e w6 ⟨A6, cc6, rfl, hb6⟩
               have HB6 := Lib.hid hb6
               obtain ⟨d0, d1, d2, d3, d4, d5, d6, d7, d8, d9⟩ := CX.out _ (HB5.out.trans (hb6.mono hz5))
               clear hb6 c0 c1 c2 c3 c4 c5 c6 c7 c8 c9)
            | (go_at_call 35; (with_reducible refine (HC2.out _ HB6.out).mono ?_); rintro e w7 ⟨A7, cc7, rfl, hb7⟩
               have HB7 := Lib.hid (HB6.out.trans (hb7.mono HB6.out.size))
               clear hb7))
          go_meet
        all_goals (exact ⟨rfl, rfl, HB5.out.trans (HB7.out.mono hz5)⟩)
    case rest =>
      rename World => w6
      obtain ⟨rfl, rfl, HB6⟩ := hcut
      have hlb : b.length = bn := HB0.out
      rename ∀ (a : Act) (w : World), Code.wp _ _ _ a w → _ => hK0
      refine hK0 _ _ ?_
      exact narA _ rfl lA ln lc l x bA bn bc b y mA mn mc mv which w w1 w6 some_ e hb1 hz1 hn hm hmn CX CY RL RB RM NB NP HB6 hlb
end Go.Proofs.YtelnkflmnbhclaaGreat
end

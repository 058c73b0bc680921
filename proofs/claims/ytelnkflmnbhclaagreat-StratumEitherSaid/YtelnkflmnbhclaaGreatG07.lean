/- Contracts that the law leans on: Cmp, Mem2. -/
import Derived.Test.YtelnkflmnbhclaaGreatG06
import Derived.Deep.RegionWith
import Derived.BigRegion
import Derived.StillTailTactics
import Derived.Deep.DrawnRows
import Derived.Sort.Grow
import Derived.Test.YtelnkflmnbhclaaGreatG02
import Derived.Laws.IdiomCopy
import Derived.Laws.OwnMore
import Derived.Lib.SliceRun
/- What is proved: the contracts of cmp.Compare, cmp.Or, stratum.compare, and CheckBonds with its predicate. Conditions: none. -/
section
namespace Go.Proofs.YtelnkflmnbhclaaGreat
open Go.RowKit Go.Proofs Go.Shelf Go.Sort

theorem isNaN_any (x : Int) (w : World) : Calls Tryz.prog 231 #[.int .i64 x] w fun e w' => e = .returned (.bool false) ∧ w = w' := by
  go_enter Tryz.func231, Tryz.ntmps231
  go_wp2
  go_ret
  exact ⟨by simp, rfl⟩
def cmpI (x y : Int) : Int := if x < y then -1 else if y < x then 1 else 0
theorem Compare_any (x y : Int) (w : World) : Calls Tryz.prog 185 #[.int .i64 x, .int .i64 y] w fun e w' => e = .returned (.int .i64 (cmpI x y)) ∧ w = w' := by
  by_cases h1 : x < y
  · go_enter Tryz.func185, Tryz.ntmps185
    go_wp2_with (go_at_call 231; refine (isNaN_any _ _).mono ?_; rintro e w' ⟨rfl, rfl⟩)
    go_ret
    exact ⟨by simp [cmpI, h1], rfl⟩
  · by_cases h2 : y < x
    all_goals
      go_enter Tryz.func185, Tryz.ntmps185
      go_wp2_with (go_at_call 231; refine (isNaN_any _ _).mono ?_; rintro e w' ⟨rfl, rfl⟩)
      go_ret
      refine ⟨?_, rfl⟩
      unfold cmpI
      rw [if_neg (by omega)]
      first | rw [if_pos (by omega)] | rw [if_neg (by omega)]
      rfl

def or2 (x y : Int) : Int := if x ≠ 0 then x else y
theorem Or2_any (b c : Nat) (x y : Int) (w : World) (h0 : w.cell? ⟨b, 0, none⟩ = some (.int .i64 x)) (h1 : w.cell? ⟨b, 1, none⟩ = some (.int .i64 y)) :
    Calls Tryz.prog 184 #[.slice (some ⟨b, 0, none⟩) 2 c] w fun e w' => e = .returned (.int .i64 (or2 x y)) ∧ w = w' := by
  by_cases hx : x = 0
  · subst hx
    by_cases hy : y = 0
    · subst hy
      go_enter Tryz.func184, Tryz.ntmps184
      go_wp2
      refine wp_loop_rounds 3 ?_
      rw [rounds_succ]
      go_wp2
      rw [rounds_succ]
      go_wp2
      rw [rounds_succ]
      go_wp2
      go_ret
      exact ⟨by simp [or2], rfl⟩
    · have hy' : ((y : Int) != 0) = true := by simpa using hy
      go_enter Tryz.func184, Tryz.ntmps184
      go_wp2
      refine wp_loop_rounds 2 ?_
      rw [rounds_succ]
      go_wp2
      rw [rounds_succ]
      go_wp2
      go_ret
      exact ⟨by simp [or2], rfl⟩
  · have hx' : ((x : Int) != 0) = true := by simpa using hx
    go_enter Tryz.func184, Tryz.ntmps184
    go_wp2
    refine wp_loop_rounds 1 ?_
    simp only [rounds_succ]
    go_wp2
    go_ret
    exact ⟨by simp [or2, hx], rfl⟩

theorem Or2_new (x y : Int) (W : World) (t : TypeId) (N : Nat) (hN : N = W.heap.size) :
    Calls Tryz.prog 184 #[.slice (some ⟨N, 0, none⟩) 2 2] ((W.alloc (.cells #[.int .i64 x, .int .i64 y] t)).drew) fun e w' => e = .returned (.int .i64 (or2 x y)) ∧ (W.alloc (.cells #[.int .i64 x, .int .i64 y] t)).drew = w' := by
  subst hN
  exact Or2_any W.heap.size 2 x y _ (by simp) (by simp)

/-- w' is w with draws and new blocks -/
def Grew (w w' : World) : Prop := ∃ q os', w' = grow (w.drewN q) os'
theorem Grew.refl (w : World) : Grew w w := ⟨0, #[], by simp [grow, World.drewN]⟩
theorem Grew.alloc {w w' : World} (h : Grew w w') (o : Obj) : Grew w (w'.alloc o) := by
  obtain ⟨q, os, rfl⟩ := h
  exact ⟨q, os.push o, by simp [grow, World.alloc]⟩
theorem Grew.drewN {w w' : World} (h : Grew w w') (n : Nat) : Grew w (w'.drewN n) := by
  obtain ⟨q, os, rfl⟩ := h
  exact ⟨q + n, os, by simp [grow, World.drewN]; omega⟩
theorem Grew.drew {w w' : World} (h : Grew w w') : Grew w w'.drew := h.drewN 1
theorem Grew.trans {a b c : World} (h : Grew a b) (k : Grew b c) : Grew a c := by
  obtain ⟨q, os, rfl⟩ := h
  obtain ⟨q', os', rfl⟩ := k
  exact ⟨q + q', os ++ os', by simp [grow, World.drewN, Array.append_assoc]; omega⟩
theorem Grew.below {w w' : World} (h : Grew w w') : Below w.heap.size w w' := by
  obtain ⟨q, os, rfl⟩ := h
  refine ⟨rfl, rfl, rfl, by simp [grow, World.drewN], fun k hk => ?_⟩
  show (w.heap ++ os)[k]? = _
  rw [Array.getElem?_append_left hk]

def comparePl (a b : Place) : Int := or2 (cmpI a.pit b.pit) (cmpI a.layer b.layer)
set_option maxHeartbeats 400000 in
set_option maxRecDepth 100000 in
theorem compare_any (a b c d : Int) (w : World) :
    Calls Tryz.prog 128 #[.agg #[.int .i64 a, .int .i64 b], .agg #[.int .i64 c, .int .i64 d]] w fun e w' => e = .returned (.int .i64 (comparePl ⟨a, b⟩ ⟨c, d⟩)) ∧ Grew w w' := by
  go_enter Tryz.func128, Tryz.ntmps128
  go_wp2
  generalize hW : (w.alloc (.cells #[.int .i64 a, .int .i64 b] 37)).alloc (.cells #[.int .i64 c, .int .i64 d] 37) = W
  have f0 : W.cell? ⟨w.heap.size, 0, none⟩ = some (.int .i64 a) := by rw [← hW]; simp
  have f1 : W.cell? ⟨w.heap.size, 1, none⟩ = some (.int .i64 b) := by rw [← hW]; simp
  have f2 : W.cell? ⟨w.heap.size + 1, 0, none⟩ = some (.int .i64 c) := by rw [← hW]; simp
  have f3 : W.cell? ⟨w.heap.size + 1, 1, none⟩ = some (.int .i64 d) := by rw [← hW]; simp
  have hGW : Grew w W := by rw [← hW]; exact ((Grew.refl w).alloc _).alloc _
  clear hW
  refine wp_region_still_tail 10 (by kernel_rfl) (by kernel_rfl) ?_
  simp only [List.take_succ_cons, List.take_zero, List.drop_succ_cons, List.drop_zero, World.drew_eq]
  iterate 4 still_step
  still_call (Compare_any _ _ _).mono fun _ _ ⟨he, hw⟩ => ⟨he, hw.symm⟩
  iterate 4 still_step
  still_call (Compare_any _ _ _).mono fun _ _ ⟨he, hw⟩ => ⟨he, hw.symm⟩
  refine wpStill_nil ?_
  go_wp2_with (go_at_call 184; refine (Or2_new _ _ _ _ _ (by simp)).mono ?_; rintro e w' ⟨rfl, rfl⟩)
  all_goals go_ret
  all_goals refine ⟨retI rfl, ?_⟩
  all_goals (repeat' first | exact hGW | refine Grew.alloc ?_ _ | refine Grew.drew ?_ | refine Grew.drewN ?_ _)

def wrongBond (x : Bond) : Bool := !isPlaceB x.a.pit x.a.layer || !isPlaceB x.b.pit x.b.layer || eqPlace x.a x.b || !inB x.by_ 1 1000000
def checkBonds (b : List Bond) : Int := if 60 < b.length then 2 else if b.any wrongBond then 1 else 0
theorem entb : ∀ args w, (callFunc 104 args).run Tryz.prog w = .ok (.enter 104 args) w := enters_of Tryz.func104 (by kernel_rfl) rfl
set_option maxHeartbeats 1000000 in
set_option maxRecDepth 100000 in
theorem predbond (w : World) : PredB Tryz.prog 104 #[] (fun x => .agg (encBond x).toArray) wrongBond w := by
  intro W x hb
  have hzb := hb.size
  simp only [encBond, List.append_toArray, List.cons_append, List.nil_append]
  cases h1 : isPlaceB x.a.pit x.a.layer
  · go_enter Tryz.func104, Tryz.ntmps104
    go_wp2_with (go_at_call 98; refine (isPlace_any _ _ _).mono ?_; rintro e wI ⟨rfl, hbI⟩; try rw [h1]; obtain ⟨hccI, hffI⟩ := bcell hbI; have hzI := hbI.size; (try simp only [World.size_alloc] at hzI); have : W.heap.size < wI.heap.size := (by omega))
    go_ret
    exact ⟨by simp [wrongBond, h1], (by ((repeat' (first | (with_reducible assumption) | (with_reducible exact Below.refl _ _) | (with_reducible refine Below.drew ?_) | (with_reducible refine below_drewN' ?_ _) | (with_reducible refine Below.alloc ?_ ?_ _) | (with_reducible refine Below.setCell ?_ ?_ _) | (with_reducible refine below_step (by assumption) ?_ ?_))) <;> first | (simp; done) | (simp; omega) | omega))⟩
  · cases h2 : isPlaceB x.b.pit x.b.layer
    · go_enter Tryz.func104, Tryz.ntmps104
      go_wp2_with (first
        | (go_at_call_of 98 (x.a.pit); refine (isPlace_any _ _ _).mono ?_; rintro e wI ⟨rfl, hbI⟩; rw [h1]; obtain ⟨hccI, hffI⟩ := bcell hbI; have hzI := hbI.size; (try simp only [World.size_alloc] at hzI); have : W.heap.size < wI.heap.size := (by omega))
        | (go_at_call 98; refine (isPlace_any _ _ _).mono ?_; rintro e wJ ⟨rfl, hbJ⟩; rw [h2]; obtain ⟨hccJ, hffJ⟩ := bcell hbJ; have hzJ := hbJ.size; (try simp only [World.size_alloc, World.size_setCell, World.size_drew, World.heap_drewN] at hzJ); have : W.heap.size < wJ.heap.size := (by omega)))
      go_ret
      exact ⟨by simp [wrongBond, h1, h2], (by ((repeat' (first | (with_reducible assumption) | (with_reducible exact Below.refl _ _) | (with_reducible refine Below.drew ?_) | (with_reducible refine below_drewN' ?_ _) | (with_reducible refine Below.alloc ?_ ?_ _) | (with_reducible refine Below.setCell ?_ ?_ _) | (with_reducible refine below_step (by assumption) ?_ ?_))) <;> first | (simp; done) | (simp; omega) | omega))⟩
    · cases h3 : eqPlace x.a x.b
      all_goals
        go_enter Tryz.func104, Tryz.ntmps104
        go_wp2_with (first
          | (go_at_call_of 98 (x.a.pit); refine (isPlace_any _ _ _).mono ?_; rintro e wI ⟨rfl, hbI⟩; rw [h1]; obtain ⟨hccI, hffI⟩ := bcell hbI; have hzI := hbI.size; (try simp only [World.size_alloc] at hzI); have : W.heap.size < wI.heap.size := (by omega))
          | (go_at_call 98; refine (isPlace_any _ _ _).mono ?_; rintro e wJ ⟨rfl, hbJ⟩; rw [h2]; obtain ⟨hccJ, hffJ⟩ := bcell hbJ; have hzJ := hbJ.size; (try simp only [World.size_alloc, World.size_setCell, World.size_drew, World.heap_drewN] at hzJ); have : W.heap.size < wJ.heap.size := (by omega))
          | (go_at_call 97; refine (in_any _ _ _ _).mono ?_; rintro e w' ⟨rfl, rfl⟩))
        all_goals go_ret
        all_goals refine ⟨retB ?_, (by ((repeat' (first | (with_reducible assumption) | (with_reducible exact Below.refl _ _) | (with_reducible refine Below.drew ?_) | (with_reducible refine below_drewN' ?_ _) | (with_reducible refine Below.alloc ?_ ?_ _) | (with_reducible refine Below.setCell ?_ ?_ _) | (with_reducible refine below_step (by assumption) ?_ ?_))) <;> first | (simp; done) | (simp; omega) | omega))⟩
        all_goals simp_all [wrongBond]
theorem CheckBonds_any (A : Option Addr) (n c : Nat) (b : List Bond) (w : World) (hb : Rd encBond 5 w A n c b) :
    Calls Tryz.prog 50 #[.slice A n c] w fun e w' => e = .returned (.int .i64 (checkBonds b)) ∧ Below w.heap.size w w' := by
  have hlen := hb.len
  have hbig := hb.big
  by_cases h60 : 60 < n
  · go_enter Tryz.func50, Tryz.ntmps50
    go_wp2
    go_ret
    refine ⟨retI ?_, Below.refl _ _⟩
    unfold checkBonds
    rw [if_pos (by omega)]
  · have hc := ContainsFunc_Bond 104 #[] entb wrongBond A n c b w hb (predbond w)
    clear hlen
    cases hq : b.any wrongBond
    all_goals
      rw [hq] at hc
      go_enter Tryz.func50, Tryz.ntmps50
      go_wp2_with (go_at_call 103; refine hc.mono ?_; rintro e w' ⟨rfl, hb'⟩)
      go_ret
      refine ⟨retI ?_, hb'⟩
      have := hb.len
      unfold checkBonds
      rw [if_neg (by omega), hq]
      rfl
end Go.Proofs.YtelnkflmnbhclaaGreat
end

/- What is proved: stores into a row of the call's own; what is kept when elements are struck out. Conditions: none. -/
section
namespace Go.Proofs.YtelnkflmnbhclaaGreat
open Go.RowKit Go.Proofs

def setL (xs : List Value) : Nat → List Value → List Value
  | _, [] => xs
  | o, v :: r => setL (xs.set o v) (o + 1) r
theorem setL_len : ∀ (vs : List Value) (o : Nat) (xs : List Value), (setL xs o vs).length = xs.length
  | [], _, _ => rfl
  | v :: r, o, xs => by rw [setL, setL_len r]; simp
theorem setL_get : ∀ (vs : List Value) (o : Nat) (xs : List Value) (t : Nat), o + vs.length ≤ xs.length → (setL xs o vs)[t]? = if o ≤ t ∧ t < o + vs.length then vs[t - o]? else xs[t]?
  | [], o, xs, t, _ => by simp [setL]; omega
  | v :: r, o, xs, t, h => by
    simp only [List.length_cons] at h
    rw [setL, setL_get r (o + 1) (xs.set o v) t (by simp; omega), List.length_cons]
    by_cases h1 : o + 1 ≤ t ∧ t < o + 1 + r.length
    · rw [if_pos h1, if_pos (by omega)]
      obtain ⟨u, rfl⟩ : ∃ u, t = o + 1 + u := ⟨t - (o + 1), by omega⟩
      rw [show o + 1 + u - (o + 1) = u by omega, show o + 1 + u - o = u + 1 by omega, List.getElem?_cons_succ]
    · rw [if_neg h1]
      by_cases h2 : t = o
      · subst h2
        rw [if_pos (by omega), Nat.sub_self, List.getElem?_set_self (by omega)]; rfl
      · rw [if_neg (by omega), List.getElem?_set_ne (by omega)]

section
variable {α : Type} {enc : α → List Value} {k n c B g : Nat} {e : TypeId} {w w' : World} {xs : List α}
theorem ownsRow_setCells : ∀ (vs : List Value) (o : Nat) (w : World) (L : List Value), w.ownsRow B e k (.slice (some ⟨g, 0, none⟩) n c) n L →
    (w.setCells g o vs).ownsRow B e k (.slice (some ⟨g, 0, none⟩) n c) n (setL L o vs) ∧ w.grownBy (w.setCells g o vs) (some g)
  | [], _, w, _, h => ⟨h, World.grownBy.refl w _⟩
  | v :: r, o, w, L, h => by
    obtain ⟨h1, g1⟩ := h.stored o v
    obtain ⟨h2, g2⟩ := ownsRow_setCells r (o + 1) _ _ h1
    exact ⟨h2, g1.trans g2⟩
/-- one element stored -/
theorem Own.set (h : Own enc k e B w (some ⟨g, 0, none⟩) n c xs) (hk : ∀ x, (enc x).length = k) {i : Nat} (hi : i < n) (x : α) :
    Own enc k e B (w.setCells g (i * k) (enc x)) (some ⟨g, 0, none⟩) n c (xs.set i x) ∧ w.grownBy (w.setCells g (i * k) (enc x)) (some g) := by
  obtain ⟨h1, h2⟩ := ownsRow_setCells (enc x) (i * k) w _ h.own
  refine ⟨⟨by rw [List.length_set]; exact h.len, ?_⟩, h2⟩
  have hkp : 0 < k ∨ k = 0 := by omega
  have e1 : setL (xs.flatMap enc) (i * k) (enc x) = (xs.set i x).flatMap enc := by
    have hL : (xs.flatMap enc).length = n * k := by rw [flatMap_len hk, h.len]
    have hfit : i * k + (enc x).length ≤ (xs.flatMap enc).length := by
      rw [hL, hk]
      have := Nat.mul_le_mul_right k (show i + 1 ≤ n from hi)
      rwa [Nat.add_mul, Nat.one_mul] at this
    apply List.ext_getElem?
    intro t
    rw [setL_get _ _ _ _ hfit]
    rcases hkp with hkp | hk0
    · by_cases ht : t < n * k
      · have hq : t / k < n := Nat.div_lt_of_lt_mul (by rw [Nat.mul_comm]; exact ht)
        have hm : t % k < k := Nat.mod_lt _ hkp
        have hte : t / k * k + t % k = t := by rw [Nat.mul_comm]; exact Nat.div_add_mod t k
        have hsl : t / k < (xs.set i x).length := by rw [List.length_set, h.len]; exact hq
        have hy := flatMap_at hk (xs.set i x) (t / k) _ (List.getElem?_eq_getElem hsl) (t % k) _ (List.getElem?_eq_getElem (by rw [hk]; exact hm))
        rw [hte] at hy
        rw [hy]
        by_cases hti : t / k = i
        · have hin : i * k ≤ t ∧ t < i * k + (enc x).length := by rw [hk, ← hti]; omega
          rw [if_pos hin, ← List.getElem?_eq_getElem]
          have hxx : (xs.set i x)[t / k] = x := by simp [hti]
          rw [hxx]
          congr 1
          rw [← hti]; omega
        · have hout : ¬ (i * k ≤ t ∧ t < i * k + (enc x).length) := by
            rw [hk]
            rintro ⟨ha, hb⟩
            apply hti
            rw [Nat.div_eq_iff hkp]
            omega
          rw [if_neg hout]
          have hxl : t / k < xs.length := by rw [h.len]; exact hq
          have hz := flatMap_at hk xs (t / k) _ (List.getElem?_eq_getElem hxl) (t % k) _ (List.getElem?_eq_getElem (by rw [hk]; exact hm))
          rw [hte] at hz
          rw [hz]
          have hxx : (xs.set i x)[t / k] = xs[t / k] := List.getElem_set_ne (by omega) _
          simp only [hxx]
      · have hl2 : ((xs.set i x).flatMap enc).length = n * k := by rw [flatMap_len hk, List.length_set, h.len]
        rw [List.getElem?_eq_none (by omega : ((xs.set i x).flatMap enc).length ≤ t), if_neg (by omega), List.getElem?_eq_none (by omega)]
    · have hl2 : ((xs.set i x).flatMap enc).length = n * k := by rw [flatMap_len hk, List.length_set, h.len]
      have hek : (enc x).length = 0 := by rw [hk, hk0]
      rw [if_neg (by omega), List.getElem?_eq_none (by rw [hL, hk0]; omega), List.getElem?_eq_none (by rw [hl2, hk0]; omega)]
  rw [← e1]
  exact h1
/-- the row cut: what stands behind the cut may be overwritten -/
theorem Own.cut (h : Own enc k e B w (some ⟨g, 0, none⟩) n c xs) (hk : ∀ x, (enc x).length = k) {i : Nat} (hi : i ≤ n) (vs : List Value) (hv : i * k + vs.length ≤ n * k) :
    Own enc k e B (w.setCells g (i * k) vs) (some ⟨g, 0, none⟩) i c (xs.take i) ∧ w.grownBy (w.setCells g (i * k) vs) (some g) := by
  obtain ⟨h1, h2⟩ := ownsRow_setCells vs (i * k) w _ h.own
  refine ⟨⟨by rw [List.length_take, h.len]; omega, ?_⟩, h2⟩
  have hlen : ((xs.take i).flatMap enc).length = i * k := by rw [flatMap_len hk, List.length_take, h.len]; congr 1; omega
  refine ⟨hlen, ?_⟩
  rcases h1.2 with ⟨h', _⟩ | ⟨g', cap', cur, h', hb, hg, hnc, hcm, hcs, htake⟩
  · simp at h'
  · simp only [Value.slice.injEq, Option.some.injEq, Addr.mk.injEq, and_true, true_and] at h'
    obtain ⟨rfl, rfl⟩ := h'
    refine .inr ⟨g, c, cur, rfl, hb, hg, Nat.le_trans hi hnc, hcm, hcs, ?_⟩
    have hik : i * k ≤ n * k := Nat.mul_le_mul_right k hi
    rw [show cur.toList.take (i * k) = (cur.toList.take (n * k)).take (i * k) by rw [List.take_take]; congr 1; omega, htake]
    apply List.ext_getElem?
    intro t
    by_cases ht : t < i * k
    · rw [List.getElem?_take_of_lt ht, setL_get _ _ _ _ (by rw [flatMap_len hk, h.len]; exact hv), if_neg (by omega)]
      conv => rhs; rw [← List.getElem?_append_left (l₂ := (xs.drop i).flatMap enc) (by omega), ← List.flatMap_append, List.take_append_drop]
    · rw [List.getElem?_eq_none (by rw [List.length_take]; omega), List.getElem?_eq_none (by omega)]
theorem Own.cells (h : Own enc k e B w (some ⟨g, 0, none⟩) n c xs) (hk : ∀ x, (enc x).length = k) {i : Nat} {x : α} (hx : xs[i]? = some x) : ∀ j u, (enc x)[j]? = some u → w.cell? ⟨g, i * k + j, none⟩ = some u := by
  intro j u hu
  have := h.own.cells (g := g) rfl (i * k + j) u (flatMap_at hk xs i x hx j u hu)
  rwa [add_lit, Nat.zero_add] at this
theorem Own.free (h : Own enc k e B w (some ⟨g, 0, none⟩) n c xs) (j : Nat) : w.frozen? ⟨g, j, none⟩ = false := h.own.frozenAt j
theorem Own.lt (h : Own enc k e B w (some ⟨g, 0, none⟩) n c xs) : B ≤ g ∧ g < w.heap.size := by
  rcases h.form with ⟨h1, _⟩ | ⟨g', h1, h2⟩
  · cases h1
  · cases h1; exact h2
end

/-- 'clear(s)' at elements of k cells -/
theorem run_clear_row {P : Program} {t e : TypeId} {k bytes : Nat} (E : ElemT P t e k bytes) (w : World) (ty : TypeId) (z : Value) (hz : (P.info? e).map (·.zero) = some (some z)) (h1 : ∀ v ∈ z.cells.toList, v.oneCell' = true) (b o n c : Nat) (hn : 0 < n)
    (hc : ∀ j, j < n * k → (w.cell? ⟨b, o + j, none⟩).isSome = true) (hf : ∀ j, j < n * k → w.frozen? ⟨b, o + j, none⟩ = false) :
    (Builtin.clear_ #[t] ty #[.slice (some ⟨b, o, none⟩) n c]).run P w = .ok (.tuple #[]) (w.setCells b o (Builtin.zeroCells z.cells n).toList) ∧ (Builtin.zeroCells z.cells n).toList.length = n * k := by
  obtain ⟨i, z', hi, hz0, hz1, hz2, hz3⟩ := E.info
  have hzz : z' = z := by rw [hi] at hz; simp [hz0] at hz; exact hz
  subst hzz
  have hlen : (Builtin.zeroCells z'.cells n).toList.length = n * k := by simp [Builtin.zeroCells, hz3]
  have hmem : ∀ v ∈ (Builtin.zeroCells z'.cells n).toList, v.oneCell' = true := by
    intro v hv
    simp only [Builtin.zeroCells, Array.toList_map, List.mem_map, Array.mem_toList_iff, Array.mem_range] at hv
    obtain ⟨a, ha, rfl⟩ := hv
    have hk0 := E.pos
    have hlt : a % z'.cells.size < z'.cells.size := Nat.mod_lt _ (by omega)
    rw [getElem!_pos z'.cells _ hlt]
    exact h1 _ (by simp)
  have hst := run_storeCells_cells (P := P) b o (Builtin.zeroCells z'.cells n).toList 0 w (by rw [hlen]; simpa using hc) (by rw [hlen]; simpa using hf) hmem
  simp only [Nat.add_zero] at hst
  refine ⟨?_, hlen⟩
  have hv : ∀ w, (zeroValue e).run P w = .ok z' w := fun w => by simp [zeroValue, typeInfo, hi, hz0]
  obtain ⟨m, rfl⟩ : ∃ m, n = m + 1 := ⟨n - 1, by omega⟩
  simp [Builtin.clear_, run_underlying E.slice, hv, hst]

/-! ### what is kept -/
structure Kept {α : Type} (p : α → Bool) (l xs : List α) (i j : Nat) : Prop where
  len : xs.length = l.length
  ij : i < j
  low : xs.take i = (l.take j).filter (fun x => !p x)
  high : ∀ m, j ≤ m → xs[m]? = l[m]?
section
variable {α : Type} {p : α → Bool} {l xs : List α} {i j : Nat}
theorem Kept.start {x : α} (hx : l[i]? = some x) (hp : p x = true) (hno : ∀ m y, m < i → l[m]? = some y → p y = false) : Kept p l l i (i + 1) := by
  have hi : i < l.length := (List.getElem?_eq_some_iff.1 hx).1
  refine ⟨rfl, by omega, ?_, fun m _ => rfl⟩
  rw [List.take_add_one, hx, List.filter_append, List.filter_eq_self.2 (fun y hy => ?_)]
  · simp [hp]
  · obtain ⟨m, hm, rfl⟩ := List.getElem_of_mem hy
    rw [List.length_take] at hm
    rw [List.getElem_take, hno m _ (by omega) (List.getElem?_eq_getElem (by omega))]; rfl
theorem Kept.keep (h : Kept p l xs i j) {x : α} (hx : l[j]? = some x) (hp : p x = false) : Kept p l (xs.set i x) (i + 1) (j + 1) := by
  have hj : j < l.length := (List.getElem?_eq_some_iff.1 hx).1
  refine ⟨by rw [List.length_set]; exact h.len, by have := h.ij; omega, ?_, fun m hm => ?_⟩
  · rw [List.take_add_one, List.take_set_of_le (Nat.le_refl _), List.getElem?_set_self (by have := h.ij; rw [h.len]; omega), h.low, List.take_add_one, hx, List.filter_append]
    simp [hp]
  · rw [List.getElem?_set_ne (by have := h.ij; omega)]; exact h.high m (by omega)
theorem Kept.skip (h : Kept p l xs i j) {x : α} (hx : l[j]? = some x) (hp : p x = true) : Kept p l xs i (j + 1) := by
  refine ⟨h.len, by have := h.ij; omega, ?_, fun m hm => h.high m (by omega)⟩
  rw [h.low, List.take_add_one, hx, List.filter_append]
  simp [hp]
theorem Kept.done (h : Kept p l xs i l.length) : xs.take i = l.filter (fun x => !p x) := by rw [h.low, List.take_length]
end
end Go.Proofs.YtelnkflmnbhclaaGreat
end

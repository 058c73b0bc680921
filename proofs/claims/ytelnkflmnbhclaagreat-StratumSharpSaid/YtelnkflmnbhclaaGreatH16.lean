/- Contracts that the laws lean on: Yof, ShaR, ShaL. -/
import Derived.Test.YtelnkflmnbhclaaGreatH15
import Derived.Test.YtelnkflmnbhclaaGreatH02
import Derived.Test.YtelnkflmnbhclaaGreatG06
import Derived.Test.YtelnkflmnbhclaaGreatH01
import Derived.Test.YtelnkflmnbhclaaGreatG47
/- What is proved: the contract of the law's yearOf: the year of a place in dates. Conditions: none. -/
section
namespace Go.Proofs.YtelnkflmnbhclaaGreat
open Go.RowKit Go.Proofs Go.Shelf

theorem yearOfV_none : ∀ (k : Nat) {d : List Dating} {p : Place}, (∀ j y, j < k → d[j]? = some y → y.place ≠ p) → yearOfV d p = yearOfV (d.drop k) p
  | 0, _, _, _ => rfl
  | k + 1, [], _, _ => rfl
  | k + 1, x :: d, p, h => by
    rw [yearOfV, if_neg (h 0 x (by omega) rfl), List.drop_succ_cons]
    exact yearOfV_none k fun j y hj hy => h (j + 1) y (by omega) hy
set_option maxHeartbeats 2000000 in
set_option maxRecDepth 100000 in
theorem yearOf_any (A : Option Addr) (n c : Nat) (d : List Dating) (p : Place) (w : World) (hl : Rd encDating 3 w A n c d) :
    Calls Tryz.prog 62 #[.slice A n c, .agg #[.int .i64 p.pit, .int .i64 p.layer]] w fun e w' => e = .returned (.int .i64 (yearOfV d p)) ∧ Below w.heap.size w w' := by
  obtain ⟨w1, hw1⟩ : ∃ w1, w.alloc (.cells #[.int .i64 p.pit, .int .i64 p.layer] 37) = w1 := ⟨_, rfl⟩
  have hb1 : Below w.heap.size w w1 := (by rw [← hw1]; exact (Below.refl _ w).alloc (Nat.le_refl _) _)
  have hz1 : w1.heap.size = w.heap.size + 1 := (by rw [← hw1]; simp)
  have hr1 : w1.heap[w.heap.size]? = some (.cells #[.int .i64 p.pit, .int .i64 p.layer] 37 (0, 0)) := (by rw [← hw1]; exact heap_alloc_new w _)
  have CELLS : Hid (∀ W : World, Below w1.heap.size w1 W → W.cell? ⟨w.heap.size, 0, none⟩ = some (.int .i64 p.pit) ∧ W.cell? ⟨w.heap.size, 1, none⟩ = some (.int .i64 p.layer)) := (show ∀ W : World, Below w1.heap.size w1 W → W.cell? ⟨w.heap.size, 0, none⟩ = some (.int .i64 p.pit) ∧ W.cell? ⟨w.heap.size, 1, none⟩ = some (.int .i64 p.layer) from fun W hb => by
    have := (hb.block _ (by omega)).trans hr1
    simp [World.cell?, this])
  have HL := Lib.hid (hl.below hb1 (Nat.le_refl _))
  have hnl := Lib.hid hl.len
  have hbig := hl.big
  clear hl hr1
  go_enter Tryz.func62, Tryz.ntmps62
  go_wp2_with (fail)
  go_loopw [5] (fun i wr => ∃ k : Nat, k ≤ n ∧ i = .int .i64 k ∧ Hid (Below w1.heap.size w1 wr) ∧ Hid (∀ j y, j < k → d[j]? = some y → y.place ≠ p)) (fun i _ => n - (intOf i).toNat)
  case atStart => exact ⟨0, Nat.zero_le _, rfl, (show Below _ _ _ from Below.refl _ _), (show ∀ j y, j < 0 → _ from fun j y h => absurd h (by omega))⟩
  case round =>
    obtain ⟨k, hk, rfl, hb, hno⟩ := hrel
    have hzr := hb.out.size
    obtain ⟨p0, p1⟩ := CELLS.out wr hb.out
    have hxlt : w.heap.size < wr.heap.size := (by omega)
    by_cases hlt : k < n
    · obtain ⟨b, off, y, rfl, hbw, hy, hcell⟩ := (HL.out.below hb.out (Nat.le_refl _)).one hlt
      have y0 : wr.cell? ⟨b, off + k * 3, none⟩ = some (.int .i64 y.place.pit) := hcell 0 _ rfl
      have y1 : wr.cell? ⟨b, off + k * 3 + 1, none⟩ = some (.int .i64 y.place.layer) := hcell 1 _ rfl
      have y2 : wr.cell? ⟨b, off + k * 3 + 2, none⟩ = some (.int .i64 y.year) := hcell 2 _ rfl
      have HY := Lib.hid hy
      clear hcell hy
      cases hq : eqPlace ⟨y.place.pit, y.place.layer⟩ ⟨p.pit, p.layer⟩ with
      | true =>
        have HQ := Lib.hid hq
        go_wp2_with (go_quiet (fail))
        go_ret
        refine ⟨retI ?_, below_drewN' (hb1.trans (hb.out.mono (by omega))) _⟩
        have hlen := (List.getElem?_eq_some_iff.1 HY.out)
        obtain ⟨hl1, hl2⟩ := hlen
        rw [yearOfV_none k hno.out, List.drop_eq_getElem_cons hl1, hl2, yearOfV, if_pos (eqPlace_iff.1 HQ.out)]
      | false =>
        have HQ := Lib.hid hq
        go_wp2_with (go_quiet (fail))
        go_roundw
        all_goals first
          | (simp [intOf]; omega)
          | exact ⟨k + 1, by omega, by go_num, (show Below _ _ _ from below_drewN' hb.out _), (show ∀ j z, j < k + 1 → _ from fun j z hj hz => by
              by_cases hjk : j < k
              · exact hno.out j z hjk hz
              · have : j = k := (by omega)
                subst this
                rw [HY.out] at hz
                cases hz
                exact eqPlace_no.1 HQ.out)⟩
    · have hkn : k = n := by omega
      subst hkn
      go_wp2
      go_ret
      refine ⟨retI ?_, hb1.trans (hb.out.mono (by omega))⟩
      rw [yearOfV_none k hno.out, List.drop_of_length_le (by rw [hnl.out]; exact Nat.le_refl _)]; rfl
end Go.Proofs.YtelnkflmnbhclaaGreat
end

/- What is proved: the drawn region of the law StratumSharp that compares the years. Conditions: none. -/
section
namespace Go.Proofs.YtelnkflmnbhclaaGreat
open Go.RowKit Go.Proofs

def codeshar10 : Option Code → Code
  | some (.seq _ (.seq _ (.seq _ (.seq _ (.seq _ (.seq _ (.seq _ (.seq (.seq c _) _)))))))) => c
  | _ => .skip
def valshar10 (dA : Option Addr) (dn dc _ _ : Nat) (fa fc : Place) (most yc ya : Int) : Nat → Value
  | 0 => .bool true
  | 1 => .bool true
  | 2 => .bool true
  | 3 => .bool true
  | 4 => .bool true
  | 5 => .slice dA dn dc
  | 6 => .agg #[.int .i64 fc.pit, .int .i64 fc.layer]
  | 7 => .int .i64 yc
  | 8 => .slice dA dn dc
  | 9 => .agg #[.int .i64 fa.pit, .int .i64 fa.layer]
  | 10 => .int .i64 ya
  | 11 => .int .i64 (yc - ya)
  | 12 => .int .i64 most
  | 13 => .bool false
  | 14 => .bool false
  | _ => undef
set_option maxRecDepth 100000 in
set_option maxHeartbeats 4000000 in
theorem shar10 (cC : Code) (hc : cC = codeshar10 Tryz.f14.body) (dA : Option Addr) (dn dc pa pc : Nat) (fa fc : Place) (most yc ya : Int) (a : Act) (w : World) (Q : Exit → Act → World → Prop)
    (hT : a.tmps.size = 168) (t3 : a.tmps.getD 3 undef = .slice dA dn dc) (t12 : a.tmps.getD 12 undef = .pointer (some ⟨pa, 0, none⟩)) (t13 : a.tmps.getD 13 undef = .pointer (some ⟨pc, 0, none⟩)) (t18 : a.tmps.getD 18 undef = .int .i64 most) (t19 : a.tmps.getD 19 undef = .bool true) (t21 : a.tmps.getD 21 undef = .bool true)
    (CE : ∀ W, Below w.heap.size w W → W.cell? ⟨pa, 0, none⟩ = some (.int .i64 fa.pit) ∧ W.cell? ⟨pa, 1, none⟩ = some (.int .i64 fa.layer) ∧ W.cell? ⟨pc, 0, none⟩ = some (.int .i64 fc.pit) ∧ W.cell? ⟨pc, 1, none⟩ = some (.int .i64 fc.layer)) (HC : ∀ W, Below w.heap.size w W → Calls Tryz.prog 62 #[.slice dA dn dc, .agg #[.int .i64 fc.pit, .int .i64 fc.layer]] W fun e' w' => e' = .returned (.int .i64 yc) ∧ Below W.heap.size W w') (HA : ∀ W, Below w.heap.size w W → Calls Tryz.prog 62 #[.slice dA dn dc, .agg #[.int .i64 fa.pit, .int .i64 fa.layer]] W fun e' w' => e' = .returned (.int .i64 ya) ∧ Below W.heap.size W w') (hw : IntKind.i64.wrap (yc - ya) = yc - ya) (hm : yc - ya ≤ most)
    (hQ : ∀ W, (fun W => Below w.heap.size w W) W → Q .normal { tmps := (((((((((((((((a.tmps.setIfInBounds 83 (.bool true)).setIfInBounds 84 (.bool true)).setIfInBounds 85 (.bool true)).setIfInBounds 86 (.bool true)).setIfInBounds 87 (.bool true)).setIfInBounds 88 (.slice dA dn dc)).setIfInBounds 89 (.agg #[.int .i64 fc.pit, .int .i64 fc.layer])).setIfInBounds 90 (.int .i64 yc)).setIfInBounds 91 (.slice dA dn dc)).setIfInBounds 92 (.agg #[.int .i64 fa.pit, .int .i64 fa.layer])).setIfInBounds 93 (.int .i64 ya)).setIfInBounds 94 (.int .i64 (yc - ya))).setIfInBounds 95 (.int .i64 most)).setIfInBounds 96 (.bool false)).setIfInBounds 97 (.bool false)), defers := a.defers } W) :
    cC.wp Tryz.prog Q a w := by
  subst hc
  unfold codeshar10 Tryz.f14
  dsimp only
  refine wpIn_wide.1 (wpIn_region_vals (nn := 5) 168 (by kernel_rfl) (by kernel_rfl) hT.symm (valshar10 dA dn dc pa pc fa fc most yc ya) (fun W => Below w.heap.size w W) ((Below.refl _ _).drew) ?_ ?_)
  · intro listed io o b W hi ho h
    obtain ⟨p0, p1, p2, p3⟩ := CE W h.glob
    clear hQ
    obtain ⟨hun, oi, hoi, hall⟩ := mem_ready.1 hi
    have : oi = o := Option.some.inj (hoi.symm.trans ho)
    subst this
    clear hoi hi
    have hlt : io < 15 := (by have := (Array.getElem?_eq_some_iff.1 ho).1; simpa using this)
    have hun' : listed.getD io false = false := getD_both hun
    have q3 : b.tmps[3]?.getD undef = _ := (by simpa using (h.tab.old 3 (dst_no h.tab (by kernel_rfl))).trans t3)
    have q12 : b.tmps[12]?.getD undef = _ := (by simpa using (h.tab.old 12 (dst_no h.tab (by kernel_rfl))).trans t12)
    have q13 : b.tmps[13]?.getD undef = _ := (by simpa using (h.tab.old 13 (dst_no h.tab (by kernel_rfl))).trans t13)
    have q18 : b.tmps[18]?.getD undef = _ := (by simpa using (h.tab.old 18 (dst_no h.tab (by kernel_rfl))).trans t18)
    have q19 : b.tmps[19]?.getD undef = _ := (by simpa using (h.tab.old 19 (dst_no h.tab (by kernel_rfl))).trans t19)
    have q21 : b.tmps[21]?.getD undef = _ := (by simpa using (h.tab.old 21 (dst_no h.tab (by kernel_rfl))).trans t21)
    have E : ∀ (jj s : Nat) (v : Value), dstOf _ jj = some s → valshar10 dA dn dc pa pc fa fc most yc ya jj = v → listed.getD jj false = true → b.tmps[s]?.getD undef = v := fun jj s v h1 h2 h3 => by rw [← h2]; simpa using h.val jj s h1 h3
    have U0 : ∀ y, oi.guard = none → Region.wanted oi y = true := fun y h => by simp [Region.wanted, h]
    have U : ∀ (jj d : Nat) (g v : Bool), oi.guard = some (jj, g) → dstOf _ jj = some d → valshar10 dA dn dc pa pc fa fc most yc ya jj = .bool v → ⟨jj, .guard⟩ ∈ oi.after → Region.wanted oi (yielded _ b.tmps) = (v == g) := fun jj d g v h1 h2 h3 h4 => wanted_of h h1 h2 (hall _ h4 rfl) h3
    rcases (by omega : io = 0 ∨ io = 1 ∨ io = 2 ∨ io = 3 ∨ io = 4 ∨ io = 5 ∨ io = 6 ∨ io = 7 ∨ io = 8 ∨ io = 9 ∨ io = 10 ∨ io = 11 ∨ io = 12 ∨ io = 13 ∨ io = 14) with rfl | rfl | rfl | rfl | rfl | rfl | rfl | rfl | rfl | rfl | rfl | rfl | rfl | rfl | rfl
    all_goals simp only [List.getElem?_toArray, List.getElem?_cons_zero, List.getElem?_cons_succ] at ho
    all_goals cases ho
    · rw [if_pos (U0 _ rfl)]
      exact wide_val (v := .bool true) (by clear E U U0; go_simp; try rfl) ⟨rfl, h.glob⟩
    · rw [if_pos (U0 _ rfl)]
      have e0 := E 0 83 (.bool true) rfl rfl (hall ⟨0, .data⟩ (by simp) rfl)
      exact wide_val (v := .bool true) (by clear E U U0; go_simp; try rfl) ⟨rfl, h.glob⟩
    · rw [U 1 84 true true rfl rfl rfl (by simp), if_pos (show (true == true) = true from rfl)]
      exact wide_val (v := .bool true) (by clear E U U0; go_simp; try rfl) ⟨rfl, h.glob⟩
    · rw [if_pos (U0 _ rfl)]
      have e1 := E 1 84 (.bool true) rfl rfl (hall ⟨1, .data⟩ (by simp) rfl)
      have e2 := E 2 85 (.bool true) rfl rfl (hall ⟨2, .data⟩ (by simp) rfl)
      exact wide_val (v := .bool true) (by clear E U U0; go_simp; try rfl) ⟨rfl, h.glob⟩
    · rw [if_pos (U0 _ rfl)]
      have e3 := E 3 86 (.bool true) rfl rfl (hall ⟨3, .data⟩ (by simp) rfl)
      exact wide_val (v := .bool true) (by clear E U U0; go_simp; try rfl) ⟨rfl, h.glob⟩
    · rw [U 4 87 true true rfl rfl rfl (by simp), if_pos (show (true == true) = true from rfl)]
      exact wide_val (v := .slice dA dn dc) (by clear E U U0; go_simp; try rfl) ⟨rfl, h.glob⟩
    · rw [U 4 87 true true rfl rfl rfl (by simp), if_pos (show (true == true) = true from rfl)]
      exact wide_val (v := .agg #[.int .i64 fc.pit, .int .i64 fc.layer]) (by clear E U U0; go_simp; try rfl) ⟨rfl, h.glob⟩
    · rw [U 4 87 true true rfl rfl rfl (by simp), if_pos (show (true == true) = true from rfl)]
      have e5 := E 5 88 (.slice dA dn dc) rfl rfl (hall ⟨5, .data⟩ (by simp) rfl)
      have e6 := E 6 89 (.agg #[.int .i64 fc.pit, .int .i64 fc.layer]) rfl rfl (hall ⟨6, .data⟩ (by simp) rfl)
      clear E U U0
      refine wide_call (f := 62) (args := #[.slice dA dn dc, .agg #[.int .i64 fc.pit, .int .i64 fc.layer]]) (by go_simp <;> (try exact ⟨by simpa [Act.eval] using e5, by simpa [Act.eval] using e6⟩)) ((HC W h.glob).mono ?_)
      rintro e w' ⟨rfl, hb'⟩
      exact ⟨_, rfl, rfl, h.glob.trans (hb'.mono h.glob.size)⟩
    · rw [U 4 87 true true rfl rfl rfl (by simp), if_pos (show (true == true) = true from rfl)]
      exact wide_val (v := .slice dA dn dc) (by clear E U U0; go_simp; try rfl) ⟨rfl, h.glob⟩
    · rw [U 4 87 true true rfl rfl rfl (by simp), if_pos (show (true == true) = true from rfl)]
      exact wide_val (v := .agg #[.int .i64 fa.pit, .int .i64 fa.layer]) (by clear E U U0; go_simp; try rfl) ⟨rfl, h.glob⟩
    · rw [U 4 87 true true rfl rfl rfl (by simp), if_pos (show (true == true) = true from rfl)]
      have e8 := E 8 91 (.slice dA dn dc) rfl rfl (hall ⟨8, .data⟩ (by simp) rfl)
      have e9 := E 9 92 (.agg #[.int .i64 fa.pit, .int .i64 fa.layer]) rfl rfl (hall ⟨9, .data⟩ (by simp) rfl)
      clear E U U0
      refine wide_call (f := 62) (args := #[.slice dA dn dc, .agg #[.int .i64 fa.pit, .int .i64 fa.layer]]) (by go_simp <;> (try exact ⟨by simpa [Act.eval] using e8, by simpa [Act.eval] using e9⟩)) ((HA W h.glob).mono ?_)
      rintro e w' ⟨rfl, hb'⟩
      exact ⟨_, rfl, rfl, h.glob.trans (hb'.mono h.glob.size)⟩
    · rw [U 4 87 true true rfl rfl rfl (by simp), if_pos (show (true == true) = true from rfl)]
      have e7 := E 7 90 (.int .i64 yc) rfl rfl (hall ⟨7, .data⟩ (by simp) rfl)
      have e10 := E 10 93 (.int .i64 ya) rfl rfl (hall ⟨10, .data⟩ (by simp) rfl)
      exact wide_val (v := .int .i64 (yc - ya)) (by clear E U U0; go_simp; try simp [hw]) ⟨rfl, h.glob⟩
    · rw [U 4 87 true true rfl rfl rfl (by simp), if_pos (show (true == true) = true from rfl)]
      exact wide_val (v := .int .i64 most) (by clear E U U0; go_simp; try rfl) ⟨rfl, h.glob⟩
    · rw [U 4 87 true true rfl rfl rfl (by simp), if_pos (show (true == true) = true from rfl)]
      have e11 := E 11 94 (.int .i64 (yc - ya)) rfl rfl (hall ⟨11, .data⟩ (by simp) rfl)
      have e12 := E 12 95 (.int .i64 most) rfl rfl (hall ⟨12, .data⟩ (by simp) rfl)
      exact wide_val (v := .bool false) (by clear E U U0; go_simp; (try exact congrArg Value.bool (decide_eq_false (by omega))); (try omega)) ⟨rfl, h.glob⟩
    · rw [if_pos (U0 _ rfl)]
      have e4 := E 4 87 (.bool true) rfl rfl (hall ⟨4, .data⟩ (by simp) rfl)
      have e13 := E 13 96 (.bool false) rfl rfl (hall ⟨13, .data⟩ (by simp) rfl)
      exact wide_val (v := .bool false) (by clear E U U0; go_simp; try rfl) ⟨rfl, h.glob⟩
  · intro W hg
    have := hQ W hg
    simp only [List.size_toArray, bareL, bare, List.map_cons, List.map_nil, List.length_cons, List.length_nil, Nat.reduceAdd, framed, dstOf, List.getElem?_toArray, List.getElem?_cons_zero, List.getElem?_cons_succ, Option.bind_some, valshar10]
    exact this
end Go.Proofs.YtelnkflmnbhclaaGreat
end

/- What is proved: the walk of the law StratumSharp. Conditions: as said. -/
section
namespace Go.Proofs.YtelnkflmnbhclaaGreat
open Go.RowKit Go.Proofs Go.Shelf

theorem checkDates_err {l : List Trace} {known : Int} {bs : List Bond} {mv : List Place} {d : List Dating} (h : withErr l known bs mv = 0) : (checkDatesV l known bs mv d).2 = 0 := by
  unfold checkDatesV; rw [if_neg (by simpa using h)]
theorem yearOfV_small {l : List Trace} {known : Int} {bs : List Bond} {mv : List Place} {d : List Dating} (h : (checkDatesV l known bs mv d).1 = true) (p : Place) : -1000000 ≤ yearOfV d p ∧ yearOfV d p ≤ 1000000 := by
  have hall : ∀ y ∈ d, inB y.year (-1000000) 1000000 = true := by
    unfold checkDatesV at h
    split at h
    · cases h
    · simp only [Bool.and_eq_true, datesFit, List.all_eq_true] at h
      exact h.1.2
  clear h
  induction d with
  | nil => simp [yearOfV]
  | cons x d ih =>
    rw [yearOfV]
    split
    · exact inB_iff.1 (hall x List.mem_cons_self)
    · exact ih fun y hy => hall y (List.mem_cons_of_mem _ hy)
theorem sharp_ways {is has some_ : Bool} {m1 m2 year : Int} (h : some_ = ((!is || decide (year ≤ m1)) && (!has || decide (-year ≤ m2)))) :
    (is = false ∧ has = false ∧ some_ = true) ∨ (is = false ∧ has = true ∧ decide (-year ≤ m2) = true ∧ some_ = true) ∨ (is = false ∧ has = true ∧ decide (-year ≤ m2) = false ∧ some_ = false) ∨ (is = true ∧ decide (year ≤ m1) = true ∧ has = false ∧ some_ = true) ∨
    (is = true ∧ decide (year ≤ m1) = true ∧ has = true ∧ decide (-year ≤ m2) = true ∧ some_ = true) ∨ (is = true ∧ decide (year ≤ m1) = true ∧ has = true ∧ decide (-year ≤ m2) = false ∧ some_ = false) ∨ (is = true ∧ decide (year ≤ m1) = false ∧ some_ = false) := by
  cases is <;> cases has <;> by_cases h1 : year ≤ m1 <;> by_cases h2 : -year ≤ m2 <;> simp_all
set_option maxRecDepth 100000 in
set_option maxHeartbeats 8000000 in
theorem stratumSharp_of (lA : Option Addr) (ln lc : Nat) (l : List Trace) (hl0 : l.length = ln) (bA : Option Addr) (bn bc : Nat) (b : List Bond) (hb0 : b.length = bn) (mA : Option Addr) (mn mc : Nat) (mv : List Place) (hm0 : mv.length = mn) (dA : Option Addr) (dn dc : Nat) (d : List Dating) (hd0 : d.length = dn) (a c : Place) (id year : Int) (w : World) (rl : ln ≤ 17592186044416 → Rd encTrace 10 w lA ln lc l) (rb : bn ≤ 17592186044416 → Rd encBond 5 w bA bn bc b) (rm : mn ≤ 17592186044416 → Rd encPlace 2 w mA mn mc mv) (rd : dn ≤ 17592186044416 → Rd encDating 3 w dA dn dc d) :
    Calls Tryz.prog 14 #[.slice lA ln lc, .slice bA bn bc, .slice mA mn mc, .slice dA dn dc, .agg #[.int .i64 a.pit, .int .i64 a.layer], .agg #[.int .i64 c.pit, .int .i64 c.layer], .int .i64 id, .int .i64 year] w fun e w' => e = .returned (.bool true) ∧ Below w.heap.size w w' := by
  obtain ⟨w1, hw1⟩ : ∃ w1, (w.alloc (.cells #[.int .i64 a.pit, .int .i64 a.layer] 37)).alloc (.cells #[.int .i64 c.pit, .int .i64 c.layer] 37) = w1 := ⟨_, rfl⟩
  have hb1 : Below w.heap.size w w1 := (by rw [← hw1]; exact ((Below.refl _ w).alloc (Nat.le_refl _) _).alloc (by simp) _)
  have hz1 : w1.heap.size = w.heap.size + 2 := (by rw [← hw1]; simp)
  have hra : w1.heap[w.heap.size]? = some (.cells #[.int .i64 a.pit, .int .i64 a.layer] 37 (0, 0)) := (by rw [← hw1, Below.heap_alloc _ _ _ (by simp)]; exact heap_alloc_new w _)
  have hrc : w1.heap[w.heap.size + 1]? = some (.cells #[.int .i64 c.pit, .int .i64 c.layer] 37 (0, 0)) := (by
    rw [← hw1]
    have := heap_alloc_new (w.alloc (.cells #[.int .i64 a.pit, .int .i64 a.layer] 37)) (.cells #[.int .i64 c.pit, .int .i64 c.layer] 37)
    rw [World.size_alloc] at this; exact this)
  have CE : Hid (∀ W, Below w1.heap.size w1 W → W.cell? ⟨w.heap.size, 0, none⟩ = some (.int .i64 a.pit) ∧ W.cell? ⟨w.heap.size, 1, none⟩ = some (.int .i64 a.layer) ∧ W.cell? ⟨w.heap.size + 1, 0, none⟩ = some (.int .i64 c.pit) ∧ W.cell? ⟨w.heap.size + 1, 1, none⟩ = some (.int .i64 c.layer)) :=
    (show ∀ W, Below w1.heap.size w1 W → W.cell? ⟨w.heap.size, 0, none⟩ = some (.int .i64 a.pit) ∧ W.cell? ⟨w.heap.size, 1, none⟩ = some (.int .i64 a.layer) ∧ W.cell? ⟨w.heap.size + 1, 0, none⟩ = some (.int .i64 c.pit) ∧ W.cell? ⟨w.heap.size + 1, 1, none⟩ = some (.int .i64 c.layer) from fun W h => by
      have h1 := (h.block _ (by omega)).trans hra
      have h2 := (h.block _ (by omega)).trans hrc
      simp [World.cell?, h1, h2])
  clear hra hrc
  have HDUG := Lib.hid dug_any
  by_cases hlow : fewB ln bn 20 = true ∧ ln ≠ 0 ∧ mn ≤ 10 ∧ dn ≤ 60
  case neg =>
    obtain ⟨fw, hfew⟩ : ∃ fw, fewB ln bn 20 = fw := ⟨_, rfl⟩
    rw [hfew] at hlow
    have HF := Lib.hid hfew
    have h4 : fw = false ∨ (fw = true ∧ ((ln : Int) == 0) = true) ∨ (fw = true ∧ ((ln : Int) == 0) = false ∧ decide ((mn : Int) > 10) = true) ∨ (fw = true ∧ ((ln : Int) == 0) = false ∧ decide ((mn : Int) > 10) = false ∧ decide ((dn : Int) > 60) = true) := by
      cases fw with
      | false => exact .inl rfl
      | true =>
        by_cases h1 : ln = 0
        · exact .inr (.inl ⟨rfl, by simp [h1]⟩)
        · by_cases h2 : 10 < mn
          · exact .inr (.inr (.inl ⟨rfl, by simp [h1], decide_eq_true (by omega)⟩))
          · exact .inr (.inr (.inr ⟨rfl, by simp [h1], decide_eq_false (by omega), decide_eq_true (by have : ¬ dn ≤ 60 := (fun h => hlow ⟨rfl, h1, by omega, h⟩); omega)⟩))
    clear hfew hlow rl rb rm rd hl0 hb0 hm0 hd0
    rcases h4 with rfl | ⟨rfl, g1⟩ | ⟨rfl, g1, g2⟩ | ⟨rfl, g1, g2, g3⟩
    all_goals
      go_enter Tryz.func14, Tryz.ntmps14
      go_wp2_with (first
        | (go_at_call 23; (with_reducible refine (few_any _ _ _ _ _ _ _ _).mono ?_); rintro e w2 ⟨rfl, rfl⟩; rw [HF.out])
        | (go_at_call 22; (with_reducible refine (HDUG.out _).mono ?_); rintro e w7 ⟨rfl, hb7⟩; have HB7 := Lib.hid hb7; clear hb7))
      go_ret
      exact ⟨rfl, hb1.trans (HB7.out.mono (by omega))⟩
  case pos =>
    obtain ⟨hfew, hln, hmn, hdn⟩ := hlow
    obtain ⟨hn, hm⟩ := fewB_small hfew (by decide)
    have HF := Lib.hid hfew
    have m0 : ((ln : Int) == 0) = false := (by simp [hln])
    have m1 : decide ((mn : Int) > 10) = false := decide_eq_false (by omega)
    have m2 : decide ((dn : Int) > 60) = false := decide_eq_false (by omega)
    have RL : Hid (∀ W, Below w1.heap.size w1 W → Rd encTrace 10 W lA ln lc l) := (show ∀ W, Below w1.heap.size w1 W → Rd encTrace 10 W lA ln lc l from fun W h => (rl (by omega)).below (hb1.trans (h.mono (by omega))) (Nat.le_refl _))
    have RB : Hid (∀ W, Below w1.heap.size w1 W → Rd encBond 5 W bA bn bc b) := (show ∀ W, Below w1.heap.size w1 W → Rd encBond 5 W bA bn bc b from fun W h => (rb (by omega)).below (hb1.trans (h.mono (by omega))) (Nat.le_refl _))
    have RM : Hid (∀ W, Below w1.heap.size w1 W → Rd encPlace 2 W mA mn mc mv) := (show ∀ W, Below w1.heap.size w1 W → Rd encPlace 2 W mA mn mc mv from fun W h => (rm (by omega)).below (hb1.trans (h.mono (by omega))) (Nat.le_refl _))
    have RD : Hid (∀ W, Below w1.heap.size w1 W → Rd encDating 3 W dA dn dc d) := (show ∀ W, Below w1.heap.size w1 W → Rd encDating 3 W dA dn dc d from fun W h => (rd (by omega)).below (hb1.trans (h.mono (by omega))) (Nat.le_refl _))
    have HB1 := Lib.hid (Below.refl w1.heap.size w1)
    obtain ⟨lb, lo, z, hlA, hlw, hz, hcz⟩ := (RL.out w1 HB1.out).one (i := ln - 1) (by omega)
    obtain ⟨known, hkn⟩ : ∃ known, z.known = known := ⟨_, rfl⟩
    have CZ : Hid (∀ W, Below w1.heap.size w1 W → W.cell? ⟨lb, lo + (ln - 1) * 10 + 1, none⟩ = some (.int .i64 known)) := (show ∀ W, Below w1.heap.size w1 W → _ from fun W h => (h.cell (p := ⟨lb, _, none⟩) hlw).trans (by have := hcz 1 _ rfl; rw [← hkn]; exact this))
    have hl1 : IntKind.i64.wrap ((ln : Int) - 1) = ((ln - 1 : Nat) : Int) := (by rw [IntKind.wrap_i64]; omega)
    have hl2 : (0 : Int) ≤ (ln : Int) - 1 := (by omega)
    have hl3 : (ln : Int) - 1 < (ln : Int) := (by omega)
    have hl5 : ((ln - 1 : Nat) : Int) < (ln : Int) := (by omega)
    have hl4 : ((ln : Int) - 1).toNat = ln - 1 := (by omega)
    clear hfew rl rb rm rd hb0 hm0 hd0 hcz hz hkn
    obtain ⟨⟨t1, t2, t3⟩, hbt⟩ : ∃ q, betweenV l known b mv a c = q := ⟨_, rfl⟩
    have K1 : Hid (∀ W, Below w1.heap.size w1 W → Calls Tryz.prog 41 #[.slice lA ln lc, .int .i64 known, .slice bA bn bc, .slice mA mn mc, .agg #[.int .i64 a.pit, .int .i64 a.layer], .agg #[.int .i64 c.pit, .int .i64 c.layer]] W fun e' w' => e' = .returned (.tuple #[.int .i64 t1, .bool t2, .int .i64 t3]) ∧ Below W.heap.size W w') := (show ∀ W, Below w1.heap.size w1 W → Calls Tryz.prog 41 #[.slice lA ln lc, .int .i64 known, .slice bA bn bc, .slice mA mn mc, .agg #[.int .i64 a.pit, .int .i64 a.layer], .agg #[.int .i64 c.pit, .int .i64 c.layer]] W fun e' w' => e' = .returned (.tuple #[.int .i64 t1, .bool t2, .int .i64 t3]) ∧ Below W.heap.size W w' from fun W h => by have := Between_any lA ln lc l known bA bn bc b mA mn mc mv a c W (RL.out W h) (RB.out W h) (RM.out W h); rw [hbt] at this; exact this)
    have HBT := Lib.hid hbt
    clear hbt
    subst hlA
    have z1 := CZ.out w1 HB1.out
    have hlw1 : lb < w1.heap.size := hlw
    by_cases ht3 : t3 = 0
    case neg =>
      have ht3' := neBool ht3
      clear ht3 hl0
      obtain ⟨c0, c1, c2, c3⟩ := CE.out w1 HB1.out
      go_enter Tryz.func14, Tryz.ntmps14
      go_wp2_with (first
        | (go_at_call 23; (with_reducible refine (few_any _ _ _ _ _ _ _ _).mono ?_); rintro e w2 ⟨rfl, hw2⟩; obtain rfl := hw2.symm; rw [HF.out])
        | (go_at_call 41; (with_reducible refine (K1.out _ HB1.out).mono ?_); rintro e w4 ⟨rfl, hb4⟩; have HB4 := Lib.hid hb4; clear hb4)
        | (go_at_call 22; (with_reducible refine (HDUG.out _).mono ?_); rintro e w7 ⟨rfl, hb7⟩; have HB7 := Lib.hid (HB4.out.trans (hb7.mono HB4.out.size)); clear hb7))
      go_ret
      exact ⟨rfl, hb1.trans (HB7.out.mono (by omega))⟩
    case pos =>
      subst ht3
      have hbe : (betweenV l known b mv a c).2.2 = 0 := by rw [HBT.out]
      have hwe := (between_ok hbe).1
      obtain ⟨⟨ok, ec⟩, hcd⟩ : ∃ q, checkDatesV l known b mv d = q := ⟨_, rfl⟩
      obtain rfl : ec = 0 := by have := checkDates_err (d := d) hwe; rw [hcd] at this; exact this
      obtain ⟨ya, hya⟩ : ∃ q, yearOfV d a = q := ⟨_, rfl⟩
      obtain ⟨yc, hyc⟩ : ∃ q, yearOfV d c = q := ⟨_, rfl⟩
      have hyr : ok = true → t2 = true → IntKind.i64.wrap (yc - ya) = yc - ya ∧ yc - ya ≤ t1 := fun h1 h2 => by
        have h3 : (checkDatesV l known b mv d).1 = true := by rw [hcd]; exact h1
        have h4 := yearOfV_small h3 a
        have h5 := yearOfV_small h3 c
        have h6 := sharp_dates h3 hbe (by rw [HBT.out]; exact h2)
        rw [HBT.out] at h6
        rw [hya] at h4 h6
        rw [hyc] at h5 h6
        exact ⟨by rw [IntKind.wrap_i64]; omega, h6⟩
      have K2 : Hid (∀ W, Below w1.heap.size w1 W → Calls Tryz.prog 56 #[.slice (some ⟨lb, lo, none⟩) ln lc, .int .i64 known, .slice bA bn bc, .slice mA mn mc, .slice dA dn dc] W fun e' w' => e' = .returned (.tuple #[.bool ok, .int .i64 0]) ∧ Below W.heap.size W w') :=
        (show ∀ W, Below w1.heap.size w1 W → _ from fun W h => by have := CheckDates_any (some ⟨lb, lo, none⟩) ln lc l known bA bn bc b mA mn mc mv dA dn dc d W (RL.out W h) (RB.out W h) (RM.out W h) (RD.out W h) (by omega); rw [hcd] at this; exact this)
      have K3 : Hid (∀ W, Below w1.heap.size w1 W → Calls Tryz.prog 62 #[.slice dA dn dc, .agg #[.int .i64 a.pit, .int .i64 a.layer]] W fun e' w' => e' = .returned (.int .i64 ya) ∧ Below W.heap.size W w') :=
        (show ∀ W, Below w1.heap.size w1 W → _ from fun W h => by have := yearOf_any dA dn dc d a W (RD.out W h); rw [hya] at this; exact this)
      have K4 : Hid (∀ W, Below w1.heap.size w1 W → Calls Tryz.prog 62 #[.slice dA dn dc, .agg #[.int .i64 c.pit, .int .i64 c.layer]] W fun e' w' => e' = .returned (.int .i64 yc) ∧ Below W.heap.size W w') :=
        (show ∀ W, Below w1.heap.size w1 W → _ from fun W h => by have := yearOf_any dA dn dc d c W (RD.out W h); rw [hyc] at this; exact this)
      obtain ⟨⟨pl, g⟩, hP⟩ : ∃ q, appendV l (yearT id known year c) = q := ⟨_, rfl⟩
      have K5 : Hid (∀ W, Below w1.heap.size w1 W → Calls Tryz.prog 36 #[.slice (some ⟨lb, lo, none⟩) ln lc, .agg #[.int .i64 id, .int .i64 known, .int .u8 2, .int .i64 c.pit, .int .i64 c.layer, .int .i64 0, .int .i64 year, .int .i64 year, .int .i64 0, .int .i64 0]] W fun e' w' => ∃ A' c', e' = .returned (.tuple #[.slice A' pl.length c', .int .i64 g]) ∧ Below W.heap.size W w' ∧ Own encTrace 10 25 W.heap.size w' A' pl.length c' pl) :=
        (show ∀ W, Below w1.heap.size w1 W → _ from fun W h => by have := Append_any (some ⟨lb, lo, none⟩) ln lc l (yearT id known year c) W (RL.out W h); rw [hP] at this; exact this)
      have HPE := Lib.hid hP
      have HYR := Lib.hid hyr
      clear hcd hya hyc hyr hP hbe hwe
      have hpl : pl.length ≤ 144 := by
        have h1 : pl = (appendV l (yearT id known year c)).1 := by rw [HPE.out]
        rw [h1]; unfold appendV
        split
        · simp
        · split <;> simp <;> omega
      clear hl0
      obtain ⟨c0, c1, c2, c3⟩ := CE.out w1 HB1.out
      go_enter Tryz.func14, Tryz.ntmps14
      go_upto_region 10 with (first
        | (go_at_call 23; (with_reducible refine (few_any _ _ _ _ _ _ _ _).mono ?_); rintro e w2 ⟨rfl, hw2⟩; obtain rfl := hw2.symm; rw [HF.out])
        | (go_at_call 41; (with_reducible refine (K1.out _ HB1.out).mono ?_); rintro e w4 ⟨rfl, hb4⟩; have HB4 := Lib.hid hb4; clear hb4)
        | (go_at_call 56; (with_reducible refine (K2.out _ HB4.out).mono ?_); rintro e w5 ⟨rfl, hb5⟩; have HB5 := Lib.hid (HB4.out.trans (hb5.mono HB4.out.size)); clear hb5))
      clear c0 c1 c2 c3
      have hz5 := HB5.out.size
      go_cut [19, 21, 97] (fun s19 s21 s97 wx => s19 = .bool t2 ∧ s21 = .bool ok ∧ s97 = .bool false ∧ Hid (Below w1.heap.size w1 wx))
      case first =>
        cases ok with
        | false =>
          go_wp2_with (go_quiet (fail))
          go_meet
          exact ⟨rfl, rfl, rfl, below_drewN' HB5.out _⟩
        | true =>
          cases t2 with
          | false =>
            go_wp2_with (go_quiet (fail))
            go_meet
            exact ⟨rfl, rfl, rfl, below_drewN' HB5.out _⟩
          | true =>
            obtain ⟨hw1, hw2⟩ := HYR.out rfl rfl
            refine shar10 _ rfl dA dn dc w.heap.size (w.heap.size + 1) a c t1 yc ya _ w5 _ rfl rfl rfl rfl rfl rfl rfl (fun W h => CE.out W (HB5.out.trans (h.mono hz5))) (fun W h => K4.out W (HB5.out.trans (h.mono hz5))) (fun W h => K3.out W (HB5.out.trans (h.mono hz5))) hw1 hw2 ?_
            intro w6 hb6
            have HB6 := Lib.hid (HB5.out.trans (hb6.mono hz5))
            clear hb6
            simp only [List.setIfInBounds_toArray, List.set_cons_succ, List.set_cons_zero]
            go_wp2_with fail
            go_meet
            exact ⟨rfl, rfl, rfl, HB6.out⟩
      case rest =>
      rename World => w6
      obtain ⟨rfl, rfl, rfl, HB6⟩ := hcut
      clear HB5 HB4 hz5 K1 K2 K3 K4 HYR
      obtain ⟨c0, c1, c2, c3⟩ := CE.out w6 HB6.out
      have hz6 := HB6.out.size
      by_cases hg : g = 0
      case neg =>
        have hg' := neBool hg
        clear hg
        go_wp2_with (first
          | (go_at_call 36; (with_reducible refine (K5.out _ HB6.out).mono ?_); rintro e w8 ⟨A8, cc8, rfl, hb8, _⟩; have HB8 := Lib.hid (HB6.out.trans (hb8.mono hz6)); clear hb8)
          | (go_at_call 22; (with_reducible refine (HDUG.out _).mono ?_); rintro e w9 ⟨rfl, hb9⟩; have HB9 := Lib.hid (HB8.out.trans (hb9.mono HB8.out.size)); clear hb9))
        go_ret
        exact ⟨rfl, hb1.trans (HB9.out.mono (by omega))⟩
      case pos =>
        subst hg
        cases q0 : eqPlace ⟨a.pit, a.layer⟩ ⟨0, 0⟩ with
        | false =>
          go_wp2_with (first
            | (go_at_call 36; (with_reducible refine (K5.out _ HB6.out).mono ?_); rintro e w8 ⟨A8, cc8, rfl, hb8, _⟩; have HB8 := Lib.hid (HB6.out.trans (hb8.mono hz6)); clear hb8 c0 c1 c2 c3; obtain ⟨c0, c1, c2, c3⟩ := CE.out w8 HB8.out)
            | (go_at_call 22; (with_reducible refine (HDUG.out _).mono ?_); rintro e w9 ⟨rfl, hb9⟩; have HB9 := Lib.hid (HB8.out.trans (hb9.mono HB8.out.size)); clear hb9))
          go_ret
          exact ⟨rfl, hb1.trans (HB9.out.mono (by omega))⟩
        | true =>
          have ha0 : a = z00 := eqPlace_iff.1 q0
          have hA0 : (appendV l (yearT id known year c)).2 = 0 := by rw [HPE.out]
          have hbz : (betweenV l known b mv z00 c) = (t1, t2, 0) := by rw [← ha0]; exact HBT.out
          obtain ⟨r1, r2, ⟨r3, r4⟩, r5⟩ := sharp_year (by rw [hbz]) hA0
          have hpl2 : pl = l ++ [yearT id known year c] := by
            have h1 : pl = (appendV l (yearT id known year c)).1 := by rw [HPE.out]
            rw [h1]
            unfold appendV at hA0 ⊢
            split at hA0
            · rename_i h3; exact absurd hA0 h3
            · rename_i h3; rw [if_neg h3]
              split at hA0
              · rename_i h4; exact absurd hA0 h4
              · rename_i h4; rw [if_neg h4]
          obtain ⟨⟨s1, s2, s3⟩, hs⟩ : ∃ q, betweenV l known b mv c z00 = q := ⟨_, rfl⟩
          obtain ⟨⟨dl, some_, di⟩, hdd⟩ : ∃ q, datesV (l ++ [yearT id known year c]) known b mv = q := ⟨_, rfl⟩
          rw [hs] at r1 r5
          rw [hdd] at r2 r5
          rw [hbz] at r5
          simp only at r1 r2 r5
          subst r1
          subst r2
          have hneg : IntKind.i64.wrap (-year) = -year := (by rw [IntKind.wrap_i64]; omega)
          have K6 : Hid (∀ W, Below w1.heap.size w1 W → Calls Tryz.prog 41 #[.slice (some ⟨lb, lo, none⟩) ln lc, .int .i64 known, .slice bA bn bc, .slice mA mn mc, .agg #[.int .i64 c.pit, .int .i64 c.layer], .agg #[.int .i64 a.pit, .int .i64 a.layer]] W fun e' w' => e' = .returned (.tuple #[.int .i64 s1, .bool s2, .int .i64 0]) ∧ Below W.heap.size W w') := (show ∀ W, Below w1.heap.size w1 W → Calls Tryz.prog 41 #[.slice (some ⟨lb, lo, none⟩) ln lc, .int .i64 known, .slice bA bn bc, .slice mA mn mc, .agg #[.int .i64 c.pit, .int .i64 c.layer], .agg #[.int .i64 a.pit, .int .i64 a.layer]] W fun e' w' => e' = .returned (.tuple #[.int .i64 s1, .bool s2, .int .i64 0]) ∧ Below W.heap.size W w' from fun W h => by have := Between_any (some ⟨lb, lo, none⟩) ln lc l known bA bn bc b mA mn mc mv c a W (RL.out W h) (RB.out W h) (RM.out W h); rw [ha0, hs] at this; rw [ha0]; exact this)
          have K7 : Hid (∀ W A8 cc8, Below w1.heap.size w1 W → Rd encTrace 10 W A8 pl.length cc8 pl → Calls Tryz.prog 34 #[.slice A8 pl.length cc8, .int .i64 known, .slice bA bn bc, .slice mA mn mc] W fun e' w' => ∃ Ad cd, e' = .returned (.tuple #[.slice Ad dl.length cd, .bool some_, .int .i64 0]) ∧ Below W.heap.size W w') :=
            (show ∀ W A8 cc8, Below w1.heap.size w1 W → Rd encTrace 10 W A8 pl.length cc8 pl → _ from fun W A8 cc8 h h2 => by
              have := Dates_any A8 pl.length cc8 pl known bA bn bc b mA mn mc mv W h2 (RB.out W h) (RM.out W h)
              rw [hpl2, hdd, ← hpl2] at this
              exact this.mono fun e' w' ⟨Ad, cd, h1, h2, _⟩ => ⟨Ad, cd, h1, h2⟩)
          have R5 := sharp_ways r5
          clear ha0 hA0 hbz hpl2 hs hdd r5 HBT HPE r3 r4
          rcases R5 with ⟨rfl, rfl, rfl⟩ | ⟨rfl, rfl, v2, rfl⟩ | ⟨rfl, rfl, v2, rfl⟩ | ⟨rfl, v1, rfl, rfl⟩ | ⟨rfl, v1, rfl, v2, rfl⟩ | ⟨rfl, v1, rfl, v2, rfl⟩ | ⟨rfl, v1, rfl⟩
          all_goals
            go_wp2_with (first
              | (go_at_call 36; (with_reducible refine (K5.out _ HB6.out).mono ?_); rintro e w8 ⟨A8, cc8, rfl, hb8, hO8⟩
                 have HB8 := Lib.hid (HB6.out.trans (hb8.mono hz6))
                 have hz8 := HB8.out.size
                 have HR8 := Lib.hid (hO8.rd (fun _ => rfl) (by omega))
                 clear hb8 hO8 c0 c1 c2 c3
                 obtain ⟨c0, c1, c2, c3⟩ := CE.out w8 HB8.out)
              | (go_at_call 41; (with_reducible refine (K6.out _ HB8.out).mono ?_); rintro e w9 ⟨rfl, hb9⟩
                 have HB9 := Lib.hid (HB8.out.trans (hb9.mono hz8))
                 have hz9 := HB9.out.size
                 have HR9 := Lib.hid (HR8.out.below hb9 (Nat.le_refl _))
                 clear hb9 c0 c1 c2 c3)
              | (go_at_call 34; (with_reducible refine (K7.out _ _ _ HB9.out HR9.out).mono ?_); rintro e w10 ⟨Ad, cd, rfl, hb10⟩
                 have HB10 := Lib.hid (HB9.out.trans (hb10.mono hz9))
                 have hz10 := HB10.out.size
                 clear hb10)
              | (go_at_call 22; (with_reducible refine (HDUG.out _).mono ?_); rintro e w11 ⟨rfl, hb11⟩; have HB11 := Lib.hid (HB10.out.trans (hb11.mono hz10)); clear hb11))
            go_ret
            exact ⟨rfl, hb1.trans (HB11.out.mono (by omega))⟩
end Go.Proofs.YtelnkflmnbhclaaGreat
end

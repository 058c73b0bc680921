/- Contracts that the laws lean on: EitL. -/
import Derived.Test.YtelnkflmnbhclaaGreatH17
import Derived.Test.YtelnkflmnbhclaaGreatH15
import Derived.Test.YtelnkflmnbhclaaGreatH02
import Derived.Test.YtelnkflmnbhclaaGreatG47
/- What is proved: the walk of the law StratumEither. Conditions: as said. -/
section
namespace Go.Proofs.YtelnkflmnbhclaaGreat
open Go.RowKit Go.Proofs Go.Shelf

section
variable {l : List Trace} {known : Int} {bs : List Bond} {mv : List Place}
theorem either_err (hw : withErr l known bs mv ≠ 0) : datesV l known bs mv = ([], false, withErr l known bs mv) ∧ conflictV l known bs mv = ([], false, withErr l known bs mv) := by
  constructor
  · unfold datesV; rw [if_pos hw]
  · unfold conflictV; rw [if_pos hw]
theorem dates_ok0 (hw : withErr l known bs mv = 0) : (datesV l known bs mv).2.2 = 0 := by
  unfold datesV; rw [if_neg (by simpa using hw)]; split <;> rfl
theorem dates_none (h : (datesV l known bs mv).2.1 = false) : (datesV l known bs mv).1 = [] := by
  unfold datesV at h ⊢
  split
  · rfl
  · rename_i h1
    rw [if_neg h1] at h
    split
    · rename_i h2; rw [if_pos h2] at h; cases h
    · rfl
theorem conflict_none (hw : withErr l known bs mv = 0) (h : (conflictV l known bs mv).2.1 = false) : (conflictV l known bs mv).1 = [] := by
  rw [conflict_is hw, ← Bool.not_eq_true, circOk_iff, ne_eq, Classical.not_not] at h
  unfold conflictV
  rw [if_neg (by simpa using hw), h]; rfl
theorem dates_len (hw : withErr l known bs mv = 0) : (datesV l known bs mv).1.length ≤ 1000000 := by
  have hpn := (okO_of (askErr_of_with hw)).pn
  unfold datesV
  rw [if_neg (by simpa using hw)]
  split
  · rw [datesTo_len]; omega
  · simp
theorem conflict_len (hw : withErr l known bs mv = 0) : (conflictV l known bs mv).1.length ≤ 1000000 := by
  have := (circleX_ok (sys_ok hw)).1
  unfold conflictV
  rw [if_neg (by simpa using hw)]
  simp only [someL, List.length_map]
  omega
theorem checkDates_e0 {d : List Dating} (h : withErr l known bs mv = 0) : (checkDatesV l known bs mv d).2 = 0 := by
  unfold checkDatesV; rw [if_neg (by simpa using h)]
theorem checkConflict_e0 {d : List Link} (h : withErr l known bs mv = 0) : (checkConflictV l known bs mv d).2 = 0 := by
  unfold checkConflictV; rw [if_neg (by simpa using h)]
end
set_option maxRecDepth 100000 in
set_option maxHeartbeats 8000000 in
theorem stratumEither_of (lA : Option Addr) (ln lc : Nat) (l : List Trace) (hl0 : l.length = ln) (known : Int) (bA : Option Addr) (bn bc : Nat) (b : List Bond) (hb0 : b.length = bn) (mA : Option Addr) (mn mc : Nat) (mv : List Place) (hm0 : mv.length = mn) (dA : Option Addr) (dn dc : Nat) (d : List Dating) (hd0 : d.length = dn) (cA : Option Addr) (cn cc : Nat) (c : List Link) (hc0 : c.length = cn) (w : World) (rl : ln ≤ 17592186044416 → Rd encTrace 10 w lA ln lc l) (rb : bn ≤ 17592186044416 → Rd encBond 5 w bA bn bc b) (rm : mn ≤ 17592186044416 → Rd encPlace 2 w mA mn mc mv) (rd : dn ≤ 17592186044416 → Rd encDating 3 w dA dn dc d) (rc : cn ≤ 17592186044416 → Rd encLink 6 w cA cn cc c) :
    Calls Tryz.prog 15 #[.slice lA ln lc, .int .i64 known, .slice bA bn bc, .slice mA mn mc, .slice dA dn dc, .slice cA cn cc] w fun e w' => e = .returned (.bool true) ∧ Below w.heap.size w w' := by
  have HDUG := Lib.hid dug_any
  by_cases hlow : fewB ln bn 25 = true ∧ mn ≤ 10 ∧ dn ≤ 60 ∧ cn ≤ 60
  case neg =>
    obtain ⟨fw, hfew⟩ : ∃ fw, fewB ln bn 25 = fw := ⟨_, rfl⟩
    rw [hfew] at hlow
    have HF := Lib.hid hfew
    have h4 : fw = false ∨ (fw = true ∧ decide ((mn : Int) > 10) = true) ∨ (fw = true ∧ decide ((mn : Int) > 10) = false ∧ decide ((dn : Int) > 60) = true) ∨ (fw = true ∧ decide ((mn : Int) > 10) = false ∧ decide ((dn : Int) > 60) = false ∧ decide ((cn : Int) > 60) = true) := by
      cases fw with
      | false => exact .inl rfl
      | true =>
        by_cases h2 : 10 < mn
        · exact .inr (.inl ⟨rfl, decide_eq_true (by omega)⟩)
        · by_cases h3 : 60 < dn
          · exact .inr (.inr (.inl ⟨rfl, decide_eq_false (by omega), decide_eq_true (by omega)⟩))
          · exact .inr (.inr (.inr ⟨rfl, decide_eq_false (by omega), decide_eq_false (by omega), decide_eq_true (by have : ¬ cn ≤ 60 := (fun h => hlow ⟨rfl, by omega, by omega, h⟩); omega)⟩))
    clear hfew hlow rl rb rm rd rc hl0 hb0 hm0 hd0 hc0
    rcases h4 with rfl | ⟨rfl, g2⟩ | ⟨rfl, g2, g3⟩ | ⟨rfl, g2, g3, g4⟩
    all_goals
      go_enter Tryz.func15, Tryz.ntmps15
      go_wp2_with (first
        | (go_at_call 23; (with_reducible refine (few_any _ _ _ _ _ _ _ _).mono ?_); rintro e w2 ⟨rfl, rfl⟩; rw [HF.out])
        | (go_at_call 22; (with_reducible refine (HDUG.out _).mono ?_); rintro e w7 ⟨rfl, hb7⟩; have HB7 := Lib.hid hb7; clear hb7))
      go_ret
      exact ⟨rfl, HB7.out⟩
  case pos =>
    obtain ⟨hfew, hmn, hdn, hcn⟩ := hlow
    obtain ⟨hn, hm⟩ := fewB_small hfew (by decide)
    have HF := Lib.hid hfew
    have m1 : decide ((mn : Int) > 10) = false := decide_eq_false (by omega)
    have m2 : decide ((dn : Int) > 60) = false := decide_eq_false (by omega)
    have m3 : decide ((cn : Int) > 60) = false := decide_eq_false (by omega)
    have RL : Hid (∀ W, Below w.heap.size w W → Rd encTrace 10 W lA ln lc l) := (show ∀ W, Below w.heap.size w W → Rd encTrace 10 W lA ln lc l from fun W h => (rl (by omega)).below h (Nat.le_refl _))
    have RB : Hid (∀ W, Below w.heap.size w W → Rd encBond 5 W bA bn bc b) := (show ∀ W, Below w.heap.size w W → Rd encBond 5 W bA bn bc b from fun W h => (rb (by omega)).below h (Nat.le_refl _))
    have RM : Hid (∀ W, Below w.heap.size w W → Rd encPlace 2 W mA mn mc mv) := (show ∀ W, Below w.heap.size w W → Rd encPlace 2 W mA mn mc mv from fun W h => (rm (by omega)).below h (Nat.le_refl _))
    have RD : Hid (∀ W, Below w.heap.size w W → Rd encDating 3 W dA dn dc d) := (show ∀ W, Below w.heap.size w W → Rd encDating 3 W dA dn dc d from fun W h => (rd (by omega)).below h (Nat.le_refl _))
    have RC : Hid (∀ W, Below w.heap.size w W → Rd encLink 6 W cA cn cc c) := (show ∀ W, Below w.heap.size w W → Rd encLink 6 W cA cn cc c from fun W h => (rc (by omega)).below h (Nat.le_refl _))
    have HB1 := Lib.hid (Below.refl w.heap.size w)
    clear hfew rl rb rm rd rc hb0 hm0 hd0 hl0
    obtain ⟨⟨dl, ok1, e1⟩, hdv⟩ : ∃ q, datesV l known b mv = q := ⟨_, rfl⟩
    obtain ⟨⟨cl, ok2, e2⟩, hcv⟩ : ∃ q, conflictV l known b mv = q := ⟨_, rfl⟩
    have K1 : Hid (∀ W, Below w.heap.size w W → Calls Tryz.prog 34 #[.slice lA ln lc, .int .i64 known, .slice bA bn bc, .slice mA mn mc] W fun e' w' => ∃ Ad cd, e' = .returned (.tuple #[.slice Ad dl.length cd, .bool ok1, .int .i64 e1]) ∧ Below W.heap.size W w' ∧ Own encDating 3 140 W.heap.size w' Ad dl.length cd dl) :=
      (show ∀ W, Below w.heap.size w W → _ from fun W h => by have := Dates_any lA ln lc l known bA bn bc b mA mn mc mv W (RL.out W h) (RB.out W h) (RM.out W h); rw [hdv] at this; exact this)
    have K2 : Hid (∀ W, Below w.heap.size w W → Calls Tryz.prog 58 #[.slice lA ln lc, .int .i64 known, .slice bA bn bc, .slice mA mn mc] W fun e' w' => ∃ Ad cd, e' = .returned (.tuple #[.slice Ad cl.length cd, .bool ok2, .int .i64 e2]) ∧ Below W.heap.size W w' ∧ Own encLink 6 74 W.heap.size w' Ad cl.length cd cl) :=
      (show ∀ W, Below w.heap.size w W → _ from fun W h => by have := Conflict_any lA ln lc l known bA bn bc b mA mn mc mv W (RL.out W h) (RB.out W h) (RM.out W h); rw [hcv] at this; exact this)
    by_cases hw : withErr l known b mv = 0
    case neg =>
      obtain ⟨x1, x2⟩ := either_err hw
      rw [hdv] at x1
      rw [hcv] at x2
      obtain ⟨rfl, rfl, rfl⟩ : dl = [] ∧ ok1 = false ∧ e1 = withErr l known b mv := by cases x1; exact ⟨rfl, rfl, rfl⟩
      obtain ⟨rfl, rfl, rfl⟩ : cl = [] ∧ ok2 = false ∧ e2 = withErr l known b mv := by cases x2; exact ⟨rfl, rfl, rfl⟩
      have he' := neBool hw
      clear x1 x2 hw hdv hcv
      generalize withErr l known b mv = er at *
      go_enter Tryz.func15, Tryz.ntmps15
      go_wp2_with (first
        | (go_at_call 23; (with_reducible refine (few_any _ _ _ _ _ _ _ _).mono ?_); rintro e w2 ⟨rfl, hw2⟩; obtain rfl := hw2.symm; rw [HF.out])
        | (go_at_call 34; (with_reducible refine (K1.out _ HB1.out).mono ?_); rintro e w4 ⟨Ad, cd, rfl, hb4, _⟩; have HB4 := Lib.hid hb4; clear hb4)
        | (go_at_call 58; (with_reducible refine (K2.out _ HB4.out).mono ?_); rintro e w5 ⟨Ae, ce, rfl, hb5, _⟩; have HB5 := Lib.hid (HB4.out.trans (hb5.mono HB4.out.size)); clear hb5)
        | (go_at_call 22; (with_reducible refine (HDUG.out _).mono ?_); rintro e w7 ⟨rfl, hb7⟩; have HB7 := Lib.hid (HB5.out.trans (hb7.mono HB5.out.size)); clear hb7))
      go_ret
      exact ⟨by simp, HB7.out⟩
    case pos =>
      have y1 := dates_ok0 hw
      have y2 := conflict_err (l := l) (known := known) (bs := b) (mv := mv)
      have y3 := either_or hw
      rw [hdv] at y1 y3
      rw [hcv, hw] at y2
      rw [hcv] at y3
      simp only at y1 y2 y3
      subst y1
      subst y2
      obtain ⟨⟨kd, ed⟩, hkd⟩ : ∃ q, checkDatesV l known b mv d = q := ⟨_, rfl⟩
      obtain rfl : ed = 0 := by have := checkDates_e0 (d := d) hw; rw [hkd] at this; exact this
      obtain ⟨⟨kc, ec⟩, hkc⟩ : ∃ q, checkConflictV l known b mv c = q := ⟨_, rfl⟩
      obtain rfl : ec = 0 := by have := checkConflict_e0 (d := c) hw; rw [hkc] at this; exact this
      have z1 : kd = true → ok1 = true := fun h => by have := either_dates hw (d := d) (by rw [hkd]; exact h); rw [hdv] at this; exact this
      have z2 : kc = true → ok1 = false ∧ cl.length ≤ cn := fun h => by have := either_conflict hw (c := c) (by rw [hkc]; exact h); rw [hdv, hcv, hc0] at this; exact this
      have K3 : Hid (∀ W, Below w.heap.size w W → Calls Tryz.prog 56 #[.slice lA ln lc, .int .i64 known, .slice bA bn bc, .slice mA mn mc, .slice dA dn dc] W fun e' w' => e' = .returned (.tuple #[.bool kd, .int .i64 0]) ∧ Below W.heap.size W w') :=
        (show ∀ W, Below w.heap.size w W → _ from fun W h => by have := CheckDates_any lA ln lc l known bA bn bc b mA mn mc mv dA dn dc d W (RL.out W h) (RB.out W h) (RM.out W h) (RD.out W h) (by omega); rw [hkd] at this; exact this)
      have K4 : Hid (∀ W, Below w.heap.size w W → Calls Tryz.prog 60 #[.slice lA ln lc, .int .i64 known, .slice bA bn bc, .slice mA mn mc, .slice cA cn cc] W fun e' w' => e' = .returned (.tuple #[.bool kc, .int .i64 0]) ∧ Below W.heap.size W w') :=
        (show ∀ W, Below w.heap.size w W → _ from fun W h => by have := CheckConflict_any lA ln lc l known bA bn bc b mA mn mc mv cA cn cc c W (RL.out W h) (RB.out W h) (RM.out W h) (RC.out W h) (by omega); rw [hkc] at this; exact this)
      cases ok1 with
      | true =>
        obtain rfl : ok2 = false := by
          cases ok2 with
          | false => rfl
          | true => exact absurd y3 (by decide)
        obtain rfl : kc = false := by cases kc with | false => rfl | true => exact absurd (z2 rfl).1 (by simp)
        have hc1 := conflict_none hw (by rw [hcv])
        rw [hcv] at hc1
        obtain rfl : cl = [] := hc1
        have hk := either_kept hw (by rw [hdv])
        have hk0 := checkDates_e0 (d := (datesV l known b mv).1) hw
        rw [hdv] at hk hk0
        have hpn : dl.length ≤ 1000000 := by have := dates_len hw; rw [hdv] at this; exact this
        have K5 : Hid (∀ W Ad cd, Below w.heap.size w W → Rd encDating 3 W Ad dl.length cd dl → Calls Tryz.prog 56 #[.slice lA ln lc, .int .i64 known, .slice bA bn bc, .slice mA mn mc, .slice Ad dl.length cd] W fun e' w' => e' = .returned (.tuple #[.bool true, .int .i64 0]) ∧ Below W.heap.size W w') :=
          (show ∀ W Ad cd, Below w.heap.size w W → Rd encDating 3 W Ad dl.length cd dl → _ from fun W Ad cd h h2 => by
            have := CheckDates_any lA ln lc l known bA bn bc b mA mn mc mv Ad dl.length cd dl W (RL.out W h) (RB.out W h) (RM.out W h) h2 hpn
            rw [hk, hk0] at this; exact this)
        clear hk hk0 z1 z2 y3 hkd hkc hdv hcv hw
        cases kd
        all_goals
          go_enter Tryz.func15, Tryz.ntmps15
          go_wp2_with (first
            | (go_at_call 23; (with_reducible refine (few_any _ _ _ _ _ _ _ _).mono ?_); rintro e w2 ⟨rfl, hw2⟩; obtain rfl := hw2.symm; rw [HF.out])
            | (go_at_call 34; (with_reducible refine (K1.out _ HB1.out).mono ?_); rintro e w4 ⟨Ad, cd, rfl, hb4, hO4⟩; have HB4 := Lib.hid hb4; have HR4 := Lib.hid (hO4.rd (fun _ => rfl) (by omega)); clear hb4 hO4)
            | (go_at_call 58; (with_reducible refine (K2.out _ HB4.out).mono ?_); rintro e w5 ⟨Ae, ce, rfl, hb5, _⟩; have HB5 := Lib.hid (HB4.out.trans (hb5.mono HB4.out.size)); have HR5 := Lib.hid (HR4.out.below hb5 (Nat.le_refl _)); clear hb5)
            | (go_at_call 56; (with_reducible refine (K3.out _ HB5.out).mono ?_); rintro e w6 ⟨rfl, hb6⟩; have HB6 := Lib.hid (HB5.out.trans (hb6.mono HB5.out.size)); have HR6 := Lib.hid (HR5.out.below hb6 (Nat.le_refl _)); clear hb6)
            | (go_at_call 60; (with_reducible refine (K4.out _ HB6.out).mono ?_); rintro e w7 ⟨rfl, hb7⟩; have HB7 := Lib.hid (HB6.out.trans (hb7.mono HB6.out.size)); have HR7 := Lib.hid (HR6.out.below hb7 (Nat.le_refl _)); clear hb7)
            | (go_at_call 56; (with_reducible refine (K5.out _ _ _ HB7.out HR7.out).mono ?_); rintro e w8 ⟨rfl, hb8⟩; have HB8 := Lib.hid (HB7.out.trans (hb8.mono HB7.out.size)); clear hb8)
            | (go_at_call 22; (with_reducible refine (HDUG.out _).mono ?_); rintro e w9 ⟨rfl, hb9⟩; have HB9 := Lib.hid (HB8.out.trans (hb9.mono HB8.out.size)); clear hb9))
          go_ret
          exact ⟨by simp, HB9.out⟩
      | false =>
        obtain rfl : ok2 = true := by
          cases ok2 with
          | true => rfl
          | false => exact absurd y3 (by decide)
        obtain rfl : kd = false := by cases kd with | false => rfl | true => exact absurd (z1 rfl) (by simp)
        have hd1 := dates_none (l := l) (known := known) (bs := b) (mv := mv) (by rw [hdv])
        rw [hdv] at hd1
        obtain rfl : dl = [] := hd1
        have hk := either_own hw (by rw [hcv])
        have hk0 := checkConflict_e0 (d := (conflictV l known b mv).1) hw
        rw [hcv] at hk hk0
        have hpn : cl.length ≤ 1000000 := by have := conflict_len hw; rw [hcv] at this; exact this
        have K5 : Hid (∀ W Ad cd, Below w.heap.size w W → Rd encLink 6 W Ad cl.length cd cl → Calls Tryz.prog 60 #[.slice lA ln lc, .int .i64 known, .slice bA bn bc, .slice mA mn mc, .slice Ad cl.length cd] W fun e' w' => e' = .returned (.tuple #[.bool true, .int .i64 0]) ∧ Below W.heap.size W w') :=
          (show ∀ W Ad cd, Below w.heap.size w W → Rd encLink 6 W Ad cl.length cd cl → _ from fun W Ad cd h h2 => by
            have := CheckConflict_any lA ln lc l known bA bn bc b mA mn mc mv Ad cl.length cd cl W (RL.out W h) (RB.out W h) (RM.out W h) h2 hpn
            rw [hk, hk0] at this; exact this)
        have hlt : kc = true → ¬ cn < cl.length := fun h => (by have := (z2 h).2; omega)
        clear hk hk0 z1 z2 y3 hkd hkc hdv hcv hw
        cases kc
        all_goals
          (try have hlt' := hlt rfl)
          clear hlt
          go_enter Tryz.func15, Tryz.ntmps15
          go_wp2_with (first
            | (go_at_call 23; (with_reducible refine (few_any _ _ _ _ _ _ _ _).mono ?_); rintro e w2 ⟨rfl, hw2⟩; obtain rfl := hw2.symm; rw [HF.out])
            | (go_at_call 34; (with_reducible refine (K1.out _ HB1.out).mono ?_); rintro e w4 ⟨Ad, cd, rfl, hb4, _⟩; have HB4 := Lib.hid hb4; clear hb4)
            | (go_at_call 58; (with_reducible refine (K2.out _ HB4.out).mono ?_); rintro e w5 ⟨Ae, ce, rfl, hb5, hO5⟩; have HB5 := Lib.hid (HB4.out.trans (hb5.mono HB4.out.size)); have HR5 := Lib.hid (hO5.rd (fun _ => rfl) (by omega)); clear hb5 hO5)
            | (go_at_call 56; (with_reducible refine (K3.out _ HB5.out).mono ?_); rintro e w6 ⟨rfl, hb6⟩; have HB6 := Lib.hid (HB5.out.trans (hb6.mono HB5.out.size)); have HR6 := Lib.hid (HR5.out.below hb6 (Nat.le_refl _)); clear hb6)
            | (go_at_call 60; (with_reducible refine (K4.out _ HB6.out).mono ?_); rintro e w7 ⟨rfl, hb7⟩; have HB7 := Lib.hid (HB6.out.trans (hb7.mono HB6.out.size)); have HR7 := Lib.hid (HR6.out.below hb7 (Nat.le_refl _)); clear hb7)
            | (go_at_call 60; (with_reducible refine (K5.out _ _ _ HB7.out HR7.out).mono ?_); rintro e w8 ⟨rfl, hb8⟩; have HB8 := Lib.hid (HB7.out.trans (hb8.mono HB7.out.size)); clear hb8)
            | (go_at_call 22; (with_reducible refine (HDUG.out _).mono ?_); rintro e w9 ⟨rfl, hb9⟩; have HB9 := Lib.hid (HB8.out.trans (hb9.mono HB8.out.size)); clear hb9))
          all_goals first
            | omega
            | (go_ret; exact ⟨by simp, HB9.out⟩)
end Go.Proofs.YtelnkflmnbhclaaGreat
end

/- Contracts that the laws lean on: PlaL. -/
import Derived.Test.YtelnkflmnbhclaaGreatH09
import Derived.Test.YtelnkflmnbhclaaGreatH07
import Derived.Test.YtelnkflmnbhclaaGreatH04
import Derived.Test.YtelnkflmnbhclaaGreatH02
import Derived.Test.YtelnkflmnbhclaaGreatG47
/- What is proved: the walk of the law StratumPlaces. Conditions: as said. -/
section
namespace Go.Proofs.YtelnkflmnbhclaaGreat
open Go.RowKit Go.Proofs Go.Shelf

set_option maxRecDepth 100000 in
set_option maxHeartbeats 8000000 in
theorem stratumPlaces_of (lA : Option Addr) (ln lc : Nat) (l : List Trace) (hl0 : l.length = ln) (known : Int) (bA : Option Addr) (bn bc : Nat) (b : List Bond) (hb0 : b.length = bn) (mA : Option Addr) (mn mc : Nat) (mv : List Place) (hm0 : mv.length = mn) (w : World) (rl : ln ≤ 17592186044416 → Rd encTrace 10 w lA ln lc l) (rb : bn ≤ 17592186044416 → Rd encBond 5 w bA bn bc b) (rm : mn ≤ 17592186044416 → Rd encPlace 2 w mA mn mc mv) :
    Calls Tryz.prog 5 #[.slice lA ln lc, .int .i64 known, .slice bA bn bc, .slice mA mn mc] w fun e w' => e = .returned (.bool true) ∧ Below w.heap.size w w' := by
  have HDUG := Lib.hid dug_any
  by_cases hlow : fewB ln bn 40 = true ∧ mn ≤ 10
  case neg =>
    cases hfew : fewB ln bn 40 with
    | false =>
      have HF := Lib.hid hfew
      clear hfew hlow rl rb rm hl0 hb0 hm0
      go_enter Tryz.func5, Tryz.ntmps5
      go_wp2_with (first
        | (go_at_call 23; (with_reducible refine (few_any _ _ _ _ _ _ _ _).mono ?_); rintro e w2 ⟨rfl, rfl⟩; rw [HF.out])
        | (go_at_call 22; (with_reducible refine (HDUG.out _).mono ?_); rintro e w7 ⟨rfl, hb7⟩; have HB7 := Lib.hid hb7; clear hb7))
      go_ret
      exact ⟨rfl, HB7.out⟩
    | true =>
      have HF := Lib.hid hfew
      have hmn : 10 < mn := by
        rcases Nat.lt_or_ge 10 mn with h | h
        · exact h
        · exact absurd ⟨hfew, h⟩ hlow
      have hmn' : decide ((mn : Int) > 10) = true := decide_eq_true (by omega)
      clear hfew hlow rl rb rm hl0 hb0 hm0
      go_enter Tryz.func5, Tryz.ntmps5
      go_wp2_with (first
        | (go_at_call 23; (with_reducible refine (few_any _ _ _ _ _ _ _ _).mono ?_); rintro e w2 ⟨rfl, rfl⟩; rw [HF.out])
        | (go_at_call 22; (with_reducible refine (HDUG.out _).mono ?_); rintro e w7 ⟨rfl, hb7⟩; have HB7 := Lib.hid hb7; clear hb7))
      go_ret
      exact ⟨rfl, HB7.out⟩
  case pos =>
    obtain ⟨hfew, hmn⟩ := hlow
    obtain ⟨hn, hm⟩ := fewB_small hfew (by decide)
    have HF := Lib.hid hfew
    have hmn' : decide ((mn : Int) > 10) = false := decide_eq_false (by omega)
    have RL : Hid (∀ W, Below w.heap.size w W → Rd encTrace 10 W lA ln lc l) := (show ∀ W, Below w.heap.size w W → Rd encTrace 10 W lA ln lc l from fun W h => (rl (by omega)).below h (Nat.le_refl _))
    have RB : Hid (∀ W, Below w.heap.size w W → Rd encBond 5 W bA bn bc b) := (show ∀ W, Below w.heap.size w W → Rd encBond 5 W bA bn bc b from fun W h => (rb (by omega)).below h (Nat.le_refl _))
    have RM : Hid (∀ W, Below w.heap.size w W → Rd encPlace 2 W mA mn mc mv) := (show ∀ W, Below w.heap.size w W → Rd encPlace 2 W mA mn mc mv from fun W h => (rm (by omega)).below h (Nat.le_refl _))
    have HB1 := Lib.hid (Below.refl w.heap.size w)
    clear hfew rl rb rm hl0 hb0 hm0
    have hl800 := linksV_len (l := l) (known := known) (bs := b) (mv := mv)
    have K1 := Lib.hid (fun W (h : Below w.heap.size w W) => Places_any lA ln lc l known bA bn bc b W (RL.out W h) (RB.out W h))
    have K2 := Lib.hid (fun W (h : Below w.heap.size w W) => rPlaces_any lA ln lc l known bA bn bc b W (RL.out W h) (RB.out W h))
    have K3 := Lib.hid (fun W (h : Below w.heap.size w W) => Movable_any lA ln lc l known bA bn bc b W (RL.out W h) (RB.out W h))
    have K4 := Lib.hid (fun W (h : Below w.heap.size w W) => rMovable_any lA ln lc l known bA bn bc b W (RL.out W h) (RB.out W h))
    have K5 := Lib.hid (fun W (h : Below w.heap.size w W) => Links_any lA ln lc l known bA bn bc b mA mn mc mv W (RL.out W h) (RB.out W h) (RM.out W h))
    have K6 := Lib.hid (fun W (h : Below w.heap.size w W) => rLinks_any lA ln lc l known bA bn bc b mA mn mc mv W (RL.out W h) (RB.out W h) (RM.out W h))
    obtain ⟨pls, hpls⟩ : ∃ q, onOk (askErr l known b) (placesOf (counting l known) b) = q := ⟨_, rfl⟩
    obtain ⟨ads, hads⟩ : ∃ q, onOk (askErr l known b) (admitsOf (counting l known)) = q := ⟨_, rfl⟩
    obtain ⟨L, hL⟩ : ∃ q, linksV l known b mv = q := ⟨_, rfl⟩
    obtain ⟨ea, hea⟩ : ∃ q, askErr l known b = q := ⟨_, rfl⟩
    obtain ⟨ew, hew⟩ : ∃ q, withErr l known b mv = q := ⟨_, rfl⟩
    have hpl : pls.length ≤ 50 := by
      rw [← hpls]; unfold onOk
      split
      · rename_i h; exact (askErr_sizes h).1
      · simp
    have hal : ads.length ≤ 8 := by
      rw [← hads]; unfold onOk
      split
      · rename_i h; exact (askErr_sizes h).2
      · simp
    rw [hpls, hea] at K1 K2
    rw [hads, hea] at K3 K4
    have hL2 : onOk (withErr l known b mv) (linksL (counting l known) b mv) = L := hL
    rw [hL2] at K6
    rw [hL] at K5
    rw [hew] at K5 K6
    rw [hL] at hl800
    clear hpls hads hL hL2 hea hew
    go_enter Tryz.func5, Tryz.ntmps5
    go_wp2_with (first
      | (go_at_call 23; (with_reducible refine (few_any _ _ _ _ _ _ _ _).mono ?_); rintro e w2 ⟨rfl, hw2⟩; obtain rfl := hw2.symm; rw [HF.out])
      | (go_at_call 21; (with_reducible refine (K1.out _ HB1.out).mono ?_); rintro e w2 ⟨A2, n2, c2, rfl, hb2, hO2⟩
         have hm2 : n2 = pls.length := hO2.len.symm
         subst hm2
         have HB2 := Lib.hid hb2
         have HP2 := Lib.hid (hO2.rd (fun _ => rfl) (by omega))
         clear hb2 hO2)
      | (go_at_call 27; (with_reducible refine (K2.out _ HB2.out).mono ?_); rintro e w3 ⟨A3, n3, c3, rfl, hb3, hO3⟩
         have hm3 : n3 = pls.length := hO3.len.symm
         subst hm3
         have HB3 := Lib.hid (HB2.out.trans (hb3.mono HB2.out.size))
         have HP3 := Lib.hid hO3
         have HP2' := Lib.hid (HP2.out.below hb3 (Nat.le_refl _))
         clear hb3 hO3 HP2)
      | (go_at_call 20; (with_reducible refine (K3.out _ HB3.out).mono ?_); rintro e w4 ⟨A4, n4, c4, rfl, hb4, hO4⟩
         have hm4 : n4 = ads.length := hO4.len.symm
         subst hm4
         have HB4 := Lib.hid (HB3.out.trans (hb4.mono HB3.out.size))
         have HP4 := Lib.hid (hO4.rd (fun _ => rfl) (by omega))
         have HQ2 := Lib.hid (HP2'.out.below hb4 (Nat.le_refl _))
         have HQ3 := Lib.hid (HP3.out.below hb4 (Nat.le_refl _))
         clear hb4 hO4 HP2' HP3)
      | (go_at_call 28; (with_reducible refine (K4.out _ HB4.out).mono ?_); rintro e w5 ⟨A5, n5, c5, rfl, hb5, hO5⟩
         have hm5 : n5 = ads.length := hO5.len.symm
         subst hm5
         have HB5 := Lib.hid (HB4.out.trans (hb5.mono HB4.out.size))
         have HR2 := Lib.hid (HQ2.out.below hb5 (Nat.le_refl _))
         have HR3 := Lib.hid (HQ3.out.below hb5 (Nat.le_refl _))
         have HR4 := Lib.hid (HP4.out.below hb5 (Nat.le_refl _))
         have HR5 := Lib.hid hO5
         clear hb5 hO5 HQ2 HQ3 HP4)
      | (go_at_call 29; (with_reducible refine (K5.out _ HB5.out).mono ?_); rintro e w6 ⟨A6, c6, rfl, hb6, hO6⟩
         have HB6 := Lib.hid (HB5.out.trans (hb6.mono HB5.out.size))
         have HS2 := Lib.hid (HR2.out.below hb6 (Nat.le_refl _))
         have HS3 := Lib.hid (HR3.out.below hb6 (Nat.le_refl _))
         have HS4 := Lib.hid (HR4.out.below hb6 (Nat.le_refl _))
         have HS5 := Lib.hid (HR5.out.below hb6 (Nat.le_refl _))
         have HS6 := Lib.hid (hO6.rd (fun _ => rfl) (by omega))
         clear hb6 hO6 HR2 HR3 HR4 HR5)
      | (go_at_call 30; (with_reducible refine (K6.out _ HB6.out).mono ?_); rintro e w7 ⟨A7, c7, rfl, hb7, hO7⟩
         have HB7 := Lib.hid (HB6.out.trans (hb7.mono HB6.out.size))
         have hz7 := HB7.out.size
         have HT2 := Lib.hid (HS2.out.below hb7 (Nat.le_refl _))
         have HT3 := Lib.hid (HS3.out.below hb7 (Nat.le_refl _))
         have HT4 := Lib.hid (HS4.out.below hb7 (Nat.le_refl _))
         have HT5 := Lib.hid (HS5.out.below hb7 (Nat.le_refl _))
         have HT6 := Lib.hid (HS6.out.below hb7 (Nat.le_refl _))
         have HT7 := Lib.hid (hO7.rd (fun _ => rfl) (by omega))
         have e1 : (ea == ea) = true := (by simp)
         have e2 : (ew == ew) = true := (by simp)
         clear hb7 hO7 HS2 HS3 HS4 HS5 HS6)
      | (go_at_call 22; (with_reducible refine (HDUG.out _).mono ?_); rintro e w8 ⟨rfl, hb8⟩; have HB8 := Lib.hid hb8; have hz8 := hb8.size; clear hb8)
      | (go_at_call 31; (with_reducible refine (rSamePlaces_refl _ _ _ _ _ pls _ (HT2.out.below HB8.out (Nat.le_refl _)) (HT3.out.below HB8.out (Nat.le_refl _))).mono ?_); rintro e w9 ⟨rfl, hb9⟩; have HB9 := Lib.hid (HB8.out.trans (hb9.mono hz8)); have hz9 := HB9.out.size; clear hb9)
      | (go_at_call 32; (with_reducible refine (rSameAdmits_refl _ _ _ _ _ ads _ (HT4.out.below HB9.out (Nat.le_refl _)) (HT5.out.below HB9.out (Nat.le_refl _))).mono ?_); rintro e w10 ⟨rfl, hb10⟩; have HB10 := Lib.hid (HB9.out.trans (hb10.mono hz9)); have hz10 := HB10.out.size; clear hb10)
      | (go_at_call 33; (with_reducible refine (rSameLinks_refl _ _ _ _ _ L _ (HT6.out.below HB10.out (Nat.le_refl _)) (HT7.out.below HB10.out (Nat.le_refl _))).mono ?_); rintro e w11 ⟨rfl, hb11⟩; have HB11 := Lib.hid (HB10.out.trans (hb11.mono hz10)); clear hb11))
    go_ret
    exact ⟨rfl, HB7.out.trans (HB11.out.mono hz7)⟩
end Go.Proofs.YtelnkflmnbhclaaGreat
end

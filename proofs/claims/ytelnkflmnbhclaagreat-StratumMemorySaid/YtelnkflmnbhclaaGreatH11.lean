/- Contracts that the laws lean on: MemL. -/
import Derived.Test.YtelnkflmnbhclaaGreatH07
import Derived.Test.YtelnkflmnbhclaaGreatH09
import Derived.Test.YtelnkflmnbhclaaGreatH04
import Derived.Test.YtelnkflmnbhclaaGreatH02
import Derived.Test.YtelnkflmnbhclaaGreatG47
import Derived.Deep.DeepCutAuto
/- What is proved: the walk of the law StratumMemory. Conditions: as said. -/
section
namespace Go.Proofs.YtelnkflmnbhclaaGreat
open Go.RowKit Go.Proofs Go.Shelf

theorem Own.ne_swap {α : Type} {enc : α → List Value} {k n c B : Nat} {e : TypeId} {W : World} {A A2 : Option Addr} {xs : List α} (h : Own enc k e B W A2 n c xs) (hn : A = none ∨ blockOf A ≠ blockOf A2) : A2 = none ∨ blockOf A2 ≠ blockOf A := by
  rcases h.form with ⟨e, _⟩ | ⟨g, rfl, _⟩
  · exact .inl e
  · rcases hn with rfl | hn
    · right; simp [blockOf]
    · exact .inr fun e => hn e.symm
set_option maxRecDepth 100000 in
set_option maxHeartbeats 16000000 in
theorem stratumMemory_of (lA : Option Addr) (ln lc : Nat) (l : List Trace) (hl0 : l.length = ln) (x : Trace) (known : Int) (bA : Option Addr) (bn bc : Nat) (b : List Bond) (hb0 : b.length = bn) (w : World) (rl : ln ≤ 17592186044416 → Rd encTrace 10 w lA ln lc l) (rb : bn ≤ 17592186044416 → Rd encBond 5 w bA bn bc b) :
    Calls Tryz.prog 10 #[.slice lA ln lc, .agg #[.int .i64 x.id, .int .i64 x.known, .int .u8 x.kind, .int .i64 x.pit, .int .i64 x.layer, .int .i64 x.lower, .int .i64 x.low, .int .i64 x.high, .int .i64 x.cost, .int .i64 x.void], .int .i64 known, .slice bA bn bc] w fun e w' => e = .returned (.bool true) ∧ Below w.heap.size w w' := by
  obtain ⟨w1, hw1⟩ : ∃ w1, w.alloc (.cells #[.int .i64 x.id, .int .i64 x.known, .int .u8 x.kind, .int .i64 x.pit, .int .i64 x.layer, .int .i64 x.lower, .int .i64 x.low, .int .i64 x.high, .int .i64 x.cost, .int .i64 x.void] 25) = w1 := ⟨_, rfl⟩
  have hb1 : Below w.heap.size w w1 := (by rw [← hw1]; exact (Below.refl _ w).alloc (Nat.le_refl _) _)
  have hz1 : w1.heap.size = w.heap.size + 1 := (by rw [← hw1]; simp)
  have hrx : w1.heap[w.heap.size]? = some (.cells #[.int .i64 x.id, .int .i64 x.known, .int .u8 x.kind, .int .i64 x.pit, .int .i64 x.layer, .int .i64 x.lower, .int .i64 x.low, .int .i64 x.high, .int .i64 x.cost, .int .i64 x.void] 25 (0, 0)) := (by rw [← hw1]; exact heap_alloc_new w _)
  have CX : Hid (∀ W, Below w1.heap.size w1 W → W.cell? ⟨w.heap.size, 0, none⟩ = some (.int .i64 x.id) ∧ W.cell? ⟨w.heap.size, 1, none⟩ = some (.int .i64 x.known) ∧ W.cell? ⟨w.heap.size, 2, none⟩ = some (.int .u8 x.kind) ∧ W.cell? ⟨w.heap.size, 3, none⟩ = some (.int .i64 x.pit) ∧ W.cell? ⟨w.heap.size, 4, none⟩ = some (.int .i64 x.layer) ∧ W.cell? ⟨w.heap.size, 5, none⟩ = some (.int .i64 x.lower) ∧ W.cell? ⟨w.heap.size, 6, none⟩ = some (.int .i64 x.low) ∧ W.cell? ⟨w.heap.size, 7, none⟩ = some (.int .i64 x.high) ∧ W.cell? ⟨w.heap.size, 8, none⟩ = some (.int .i64 x.cost) ∧ W.cell? ⟨w.heap.size, 9, none⟩ = some (.int .i64 x.void)) := (show ∀ W, Below w1.heap.size w1 W → _ from fun W hb => by
    have := (hb.block _ (by omega)).trans hrx
    simp [World.cell?, this])
  clear hrx
  have HDUG := Lib.hid dug_any
  cases hfew : fewB ln bn 20 with
  | false =>
    have HF := Lib.hid hfew
    clear hfew rl rb hl0 hb0
    go_enter Tryz.func10, Tryz.ntmps10
    go_wp2_with (first
      | (go_at_call 23; (with_reducible refine (few_any _ _ _ _ _ _ _ _).mono ?_); rintro e w2 ⟨rfl, rfl⟩; rw [HF.out])
      | (go_at_call 22; (with_reducible refine (HDUG.out _).mono ?_); rintro e w7 ⟨rfl, hb7⟩; have HB7 := Lib.hid hb7; clear hb7))
    go_ret
    exact ⟨rfl, hb1.trans (HB7.out.mono (by omega))⟩
  | true =>
    obtain ⟨hn, hm⟩ := fewB_small hfew (by decide)
    have HF := Lib.hid hfew
    have RL : Hid (∀ W, Below w1.heap.size w1 W → Rd encTrace 10 W lA ln lc l) := (show ∀ W, Below w1.heap.size w1 W → Rd encTrace 10 W lA ln lc l from fun W h => (rl (by omega)).below (hb1.trans (h.mono (by omega))) (Nat.le_refl _))
    have RB : Hid (∀ W, Below w1.heap.size w1 W → Rd encBond 5 W bA bn bc b) := (show ∀ W, Below w1.heap.size w1 W → Rd encBond 5 W bA bn bc b from fun W h => (rb (by omega)).below (hb1.trans (h.mono (by omega))) (Nat.le_refl _))
    have HB1 := Lib.hid (Below.refl w1.heap.size w1)
    have hap : (appendV l x).1.length ≤ 144 := by
      unfold appendV
      split
      · simp
      · split <;> simp <;> omega
    clear hfew rl rb hl0 hb0
    have hl800 := linksV_len (l := l) (known := known) (bs := b) (mv := [])
    have K1 := Lib.hid (fun W (h : Below w1.heap.size w1 W) => Append_any lA ln lc l x W (RL.out W h))
    have K2 := Lib.hid (fun W (h : Below w1.heap.size w1 W) => Places_any lA ln lc l known bA bn bc b W (RL.out W h) (RB.out W h))
    have K3 := Lib.hid (fun W (h : Below w1.heap.size w1 W) => Links_any lA ln lc l known bA bn bc b none 0 0 [] W (RL.out W h) (RB.out W h) (Rd.none_ _ _ (by omega)))
    have K4 := Lib.hid (fun W (A : Option Addr) (c : Nat) (B : Option Addr) (d : Nat) (h1 : Rd encTrace 10 W A ln c l) (h2 : Rd encBond 5 W B bn d b) => rPlaces_any A ln c l known B bn d b W h1 h2)
    have K5 := Lib.hid (fun W (A : Option Addr) (c : Nat) (B : Option Addr) (d : Nat) (h1 : Rd encTrace 10 W A ln c l) (h2 : Rd encBond 5 W B bn d b) => rLinks_any A ln c l known B bn d b none 0 0 [] W h1 h2 (Rd.none_ _ _ (by omega)))
    obtain ⟨⟨pl, g1⟩, hP⟩ : ∃ q, appendV l x = q := ⟨_, rfl⟩
    obtain ⟨pls, hpls⟩ : ∃ q, onOk (askErr l known b) (placesOf (counting l known) b) = q := ⟨_, rfl⟩
    obtain ⟨L, hL⟩ : ∃ q, linksV l known b [] = q := ⟨_, rfl⟩
    obtain ⟨ea, hea⟩ : ∃ q, askErr l known b = q := ⟨_, rfl⟩
    obtain ⟨ew, hew⟩ : ∃ q, withErr l known b [] = q := ⟨_, rfl⟩
    have heaw : ew = ea := by
      rw [← hea, ← hew]; unfold withErr
      by_cases h : askErr l known b = 0
      · rw [if_neg (by simpa using h), h]; exact adm3 (fun k h => absurd h (by simp)) (fun k x h => absurd h (by simp)) |>.symm
      · rw [if_pos h]
    have hpl : pls.length ≤ 50 := by
      rw [← hpls]; unfold onOk
      split
      · rename_i h; exact (askErr_sizes h).1
      · simp
    rw [hP] at hap K1
    rw [hpls, hea] at K2 K4
    have hL2 : onOk (withErr l known b []) (linksL (counting l known) b []) = L := hL
    rw [hL2] at K5
    rw [hL] at K3
    rw [hew] at K3 K5
    rw [hL] at hl800
    subst heaw
    have HZW := Lib.hid hz1
    clear hpls hL hL2 hea hew hP hz1
    go_enter Tryz.func10, Tryz.ntmps10
    have F1 := Own.fresh0 encTrace 10 25 w1
    have R1 := (RL.out w1 HB1.out).alloc (.cells #[] 25)
    go_wp2_with (first
      | (go_at_call 23; (with_reducible refine (few_any _ _ _ _ _ _ _ _).mono ?_); rintro e w2 ⟨rfl, hw2⟩; obtain rfl := hw2.symm; rw [HF.out])
      | (at_builtin; refine wpList_append_to elTrace (fun _ => rfl) oneTrace rfl _ _ rfl _ _ _ _ rfl rfl F1 R1 (by omega) (by decide) (by simp) ln (by omega) l (by simp) ?_; intro Aw cw w2 hO2 hg2 hA2
         have HB2 := Lib.hid ((HB1.out.alloc (Nat.le_refl _) (.cells #[] 25)).grown hg2 (by simp) (fun j e => F1.ltB j e))
         have hz2 := HB2.out.size
         have HX1 := Lib.hid hO2
         have F2 := Own.fresh0 encBond 5 50 w2
         have R2 := (RB.out w2 HB2.out).alloc (.cells #[] 50)
         clear hO2 hg2 hA2 F1 R1)
      | (at_builtin; refine wpList_append_to elBond (fun _ => rfl) oneBond rfl _ _ rfl _ _ _ _ rfl rfl F2 R2 (by omega) (by decide) (by simp) bn (by omega) b (by simp) ?_; intro Ab cb w3 hO3 hg3 hA3
         have HB23 := Lib.hid (((Below.refl w2.heap.size w2).alloc (Nat.le_refl _) (.cells #[] 50)).grown hg3 (by simp) (fun j e => F2.ltB j e))
         have HB3 := Lib.hid (HB2.out.trans (HB23.out.mono hz2))
         have hz3 := HB3.out.size
         have HX2 := Lib.hid hO3
         have HY1 := Lib.hid (HX1.out.below HB23.out (Nat.le_refl _))
         obtain ⟨c0, c1, c2, c3, c4, c5, c6, c7, c8, c9⟩ := CX.out _ HB3.out
         clear hO3 hg3 hA3 F2 R2 HX1 HB23)
      | (go_at_call 36; (with_reducible refine (K1.out _ HB3.out).mono ?_); rintro e w4 ⟨Aa, ca, rfl, hb4, hO4⟩
         have HB4 := Lib.hid (HB3.out.trans (hb4.mono hz3))
         have hz4 := HB4.out.size
         have N1 := Lib.hid (HY1.out.younger hO4)
         have HZ1 := Lib.hid (HY1.out.below hb4 (Nat.le_refl _))
         have HZ2 := Lib.hid (HX2.out.below hb4 (Nat.le_refl _))
         have HZ3 := Lib.hid hO4
         clear hb4 hO4 HY1 HX2 c0 c1 c2 c3 c4 c5 c6 c7 c8 c9)
      | (go_at_call 21; (with_reducible refine (K2.out _ HB4.out).mono ?_); rintro e w5 ⟨Ap, pn, cp, rfl, hb5, hO5⟩
         have hmp : pn = pls.length := hO5.len.symm
         subst hmp
         have HB5 := Lib.hid (HB4.out.trans (hb5.mono hz4))
         have hz5 := HB5.out.size
         have HV1 := Lib.hid (HZ1.out.below hb5 (Nat.le_refl _))
         have HV2 := Lib.hid (HZ2.out.below hb5 (Nat.le_refl _))
         have HV3 := Lib.hid (HZ3.out.below hb5 (Nat.le_refl _))
         have HV4 := Lib.hid hO5
         clear hb5 hO5 HZ1 HZ2 HZ3)
      | (go_at_call 29; (with_reducible refine (K3.out _ HB5.out).mono ?_); rintro e w6 ⟨Ak, ck, rfl, hb6, hO6⟩
         have HB6 := Lib.hid (HB5.out.trans (hb6.mono hz5))
         have hz6 := HB6.out.size
         have HU1 := Lib.hid (HV1.out.below hb6 (Nat.le_refl _))
         have HU2 := Lib.hid (HV2.out.below hb6 (Nat.le_refl _))
         have HU3 := Lib.hid (HV3.out.below hb6 (Nat.le_refl _))
         have HU4 := Lib.hid (HV4.out.below hb6 (Nat.le_refl _))
         have HU5 := Lib.hid hO6
         have F6 := Own.fresh0 encTrace 10 25 w6
         have R6 := (HU3.out.rd (fun _ => rfl) (by omega)).alloc (.cells #[] 25)
         clear hb6 hO6 HV1 HV2 HV3 HV4)
      | (at_builtin; refine wpList_append_to elTrace (fun _ => rfl) oneTrace rfl _ _ rfl _ _ _ _ rfl rfl F6 R6 (by omega) (by decide) (by simp) pl.length (by omega) pl (by simp) ?_; intro Ao co w7 hO7 hg7 hA7
         have HB67 := Lib.hid (((Below.refl w6.heap.size w6).alloc (Nat.le_refl _) (.cells #[] 25)).grown hg7 (by simp) (fun j e => F6.ltB j e))
         have HB7 := Lib.hid (HB6.out.trans (HB67.out.mono hz6))
         have hz7 := HB7.out.size
         have N2 := Lib.hid (HU3.out.younger hO7)
         have HS1 := Lib.hid (HU1.out.below HB67.out (Nat.le_refl _))
         have HS2 := Lib.hid (HU2.out.below HB67.out (Nat.le_refl _))
         have HS3 := Lib.hid (HU3.out.below HB67.out (Nat.le_refl _))
         have HS4 := Lib.hid (HU4.out.below HB67.out (Nat.le_refl _))
         have HS5 := Lib.hid (HU5.out.below HB67.out (Nat.le_refl _))
         have HS6 := Lib.hid hO7
         clear hO7 hg7 hA7 F6 R6 HU1 HU2 HU3 HU4 HU5 HB67))
    go_loopw [18] (fun i wr => ∃ k : Nat, k ≤ pl.length ∧ i = .int .i64 k ∧ Hid (w7.grownBy wr (blockOf Aa)) ∧ Hid (∀ g, Aa = some ⟨g, 0, none⟩ → Room wr g (pl.length * 10))) (fun i _ => pl.length - (intOf i).toNat)
    case atStart => exact ⟨0, Nat.zero_le _, rfl, (show World.grownBy _ _ _ from World.grownBy.refl _ _), (show ∀ g, Aa = some ⟨g, 0, none⟩ → Room w7 g (pl.length * 10) from fun g e => Room.of_own (by have := HS3.out; rw [e] at this; exact this) (fun _ => rfl))⟩
    case round =>
    rename World => w8
    obtain ⟨k, hk, rfl, hgr, hroom⟩ := hrel
    by_cases hlt : k < pl.length
    case pos =>
      obtain ⟨g, hAg⟩ : ∃ g, Aa = some ⟨g, 0, none⟩ := (by
        rcases HS3.out.form with ⟨_, e, _⟩ | ⟨g, e, _⟩
        · omega
        · exact ⟨g, e⟩)
      have hR := hroom.out g hAg
      have hGR : Hid (w7.grownBy w8 (some g)) := (show _ by have := hgr.out; rw [hAg] at this; exact this)
      have HR := Lib.hid hR
      have hgl := hR.lt
      have hn0 : pl.length ≤ 17592186044416 := (by omega)
      have HAG := Lib.hid hAg
      clear hAg
      obtain ⟨v0, q0⟩ := hR.cell (o := k * 10) (by omega)
      have f0 := hR.free (k * 10)
      obtain ⟨v1, q1⟩ := hR.cell (o := k * 10 + 1) (by omega)
      have f1 := hR.free (k * 10 + 1)
      obtain ⟨v2, q2⟩ := hR.cell (o := k * 10 + 2) (by omega)
      have f2 := hR.free (k * 10 + 2)
      obtain ⟨v3, q3⟩ := hR.cell (o := k * 10 + 3) (by omega)
      have f3 := hR.free (k * 10 + 3)
      obtain ⟨v4, q4⟩ := hR.cell (o := k * 10 + 4) (by omega)
      have f4 := hR.free (k * 10 + 4)
      obtain ⟨v5, q5⟩ := hR.cell (o := k * 10 + 5) (by omega)
      have f5 := hR.free (k * 10 + 5)
      obtain ⟨v6, q6⟩ := hR.cell (o := k * 10 + 6) (by omega)
      have f6 := hR.free (k * 10 + 6)
      obtain ⟨v7, q7⟩ := hR.cell (o := k * 10 + 7) (by omega)
      have f7 := hR.free (k * 10 + 7)
      obtain ⟨v8, q8⟩ := hR.cell (o := k * 10 + 8) (by omega)
      have f8 := hR.free (k * 10 + 8)
      obtain ⟨v9, q9⟩ := hR.cell (o := k * 10 + 9) (by omega)
      have f9 := hR.free (k * 10 + 9)
      clear hR
      have HAE := HAG.out
      subst HAE
      go_wp2
      go_roundw
      all_goals first
        | (simp [intOf]; omega)
        | exact ⟨k + 1, by omega, by go_num, (show World.grownBy _ _ (some g) from by repeat' (first | with_reducible exact hGR.out | with_reducible refine grown_setCell ?_ _ _)), (show ∀ g', _ → Room _ g' _ from fun g' e => by cases e; repeat' (first | with_reducible exact HR.out | with_reducible refine Room.setCell ?_ _ _))⟩
    case neg =>
    have hgr' := Lib.hid hgr.out
    have HT1 := Lib.hid (HS1.out.kept hgr.out (N1.out))
    have HT2 := Lib.hid (HS2.out.kept hgr.out (HS2.out.ne_other HS3.out (by decide)))
    have HT6 := Lib.hid (HS6.out.kept hgr.out (HS6.out.ne_swap N2.out))
    have HT4 := Lib.hid (HS4.out.kept hgr.out (HS4.out.ne_other HS3.out (by decide)))
    have HT5 := Lib.hid (HS5.out.kept hgr.out (HS5.out.ne_other HS3.out (by decide)))
    have HB8 := Lib.hid (HB7.out.grown hgr.out hz7 (fun j e => Nat.le_trans (by omega) (HS3.out.ltB j e)))
    have hz8 := HB8.out.size
    clear hgr hgr' hroom
    go_wp2_with (fail)
    clear hlt hk
    go_loopw [19] (fun i wr => ∃ k : Nat, k ≤ pls.length ∧ i = .int .i64 k ∧ Hid (w8.grownBy wr (blockOf Ap)) ∧ Hid (∀ g, Ap = some ⟨g, 0, none⟩ → Room wr g (pls.length * 2))) (fun i _ => pls.length - (intOf i).toNat)
    case atStart => exact ⟨0, Nat.zero_le _, rfl, (show World.grownBy _ _ _ from World.grownBy.refl _ _), (show ∀ g, Ap = some ⟨g, 0, none⟩ → Room w8 g (pls.length * 2) from fun g e => Room.of_own (by have := HT4.out; rw [e] at this; exact this) (fun _ => rfl))⟩
    case round =>
    rename World => w9
    obtain ⟨k, hk, rfl, hgr, hroom⟩ := hrel
    by_cases hlt : k < pls.length
    case pos =>
      obtain ⟨g, hAg⟩ : ∃ g, Ap = some ⟨g, 0, none⟩ := (by
        rcases HT4.out.form with ⟨_, e, _⟩ | ⟨g, e, _⟩
        · omega
        · exact ⟨g, e⟩)
      have hR := hroom.out g hAg
      have hGR : Hid (w8.grownBy w9 (some g)) := (show _ by have := hgr.out; rw [hAg] at this; exact this)
      have HR := Lib.hid hR
      have hgl := hR.lt
      have hn0 : pls.length ≤ 17592186044416 := (by omega)
      have HAG := Lib.hid hAg
      clear hAg
      obtain ⟨v0, q0⟩ := hR.cell (o := k * 2) (by omega)
      have f0 := hR.free (k * 2)
      obtain ⟨v1, q1⟩ := hR.cell (o := k * 2 + 1) (by omega)
      have f1 := hR.free (k * 2 + 1)
      clear hR
      have HAE := HAG.out
      subst HAE
      go_wp2
      go_roundw
      all_goals first
        | (simp [intOf]; omega)
        | exact ⟨k + 1, by omega, by go_num, (show World.grownBy _ _ (some g) from by repeat' (first | with_reducible exact hGR.out | with_reducible refine grown_setCell ?_ _ _)), (show ∀ g', _ → Room _ g' _ from fun g' e => by cases e; repeat' (first | with_reducible exact HR.out | with_reducible refine Room.setCell ?_ _ _))⟩
    case neg =>
    have hgr' := Lib.hid hgr.out
    have HM1 := Lib.hid (HT1.out.kept hgr.out (HT1.out.ne_other HT4.out (by decide)))
    have HM2 := Lib.hid (HT2.out.kept hgr.out (HT2.out.ne_other HT4.out (by decide)))
    have HM6 := Lib.hid (HT6.out.kept hgr.out (HT6.out.ne_other HT4.out (by decide)))
    have HM5 := Lib.hid (HT5.out.kept hgr.out (HT5.out.ne_other HT4.out (by decide)))
    have HB9 := Lib.hid (HB8.out.grown hgr.out hz8 (fun j e => Nat.le_trans (by omega) (HT4.out.ltB j e)))
    have hz9 := HB9.out.size
    clear hgr hgr' hroom
    go_wp2_with (fail)
    clear hlt hk
    go_loopw [20] (fun i wr => ∃ k : Nat, k ≤ L.length ∧ i = .int .i64 k ∧ Hid (w9.grownBy wr (blockOf Ak)) ∧ Hid (∀ g, Ak = some ⟨g, 0, none⟩ → Room wr g (L.length * 6))) (fun i _ => L.length - (intOf i).toNat)
    case atStart => exact ⟨0, Nat.zero_le _, rfl, (show World.grownBy _ _ _ from World.grownBy.refl _ _), (show ∀ g, Ak = some ⟨g, 0, none⟩ → Room w9 g (L.length * 6) from fun g e => Room.of_own (by have := HM5.out; rw [e] at this; exact this) (fun _ => rfl))⟩
    case round =>
    rename World => w10
    obtain ⟨k, hk, rfl, hgr, hroom⟩ := hrel
    by_cases hlt : k < L.length
    case pos =>
      obtain ⟨g, hAg⟩ : ∃ g, Ak = some ⟨g, 0, none⟩ := (by
        rcases HM5.out.form with ⟨_, e, _⟩ | ⟨g, e, _⟩
        · omega
        · exact ⟨g, e⟩)
      have hR := hroom.out g hAg
      have hGR : Hid (w9.grownBy w10 (some g)) := (show _ by have := hgr.out; rw [hAg] at this; exact this)
      have HR := Lib.hid hR
      have hgl := hR.lt
      have hn0 : L.length ≤ 17592186044416 := (by omega)
      have HAG := Lib.hid hAg
      clear hAg
      obtain ⟨v0, q0⟩ := hR.cell (o := k * 6) (by omega)
      have f0 := hR.free (k * 6)
      obtain ⟨v1, q1⟩ := hR.cell (o := k * 6 + 1) (by omega)
      have f1 := hR.free (k * 6 + 1)
      obtain ⟨v2, q2⟩ := hR.cell (o := k * 6 + 2) (by omega)
      have f2 := hR.free (k * 6 + 2)
      obtain ⟨v3, q3⟩ := hR.cell (o := k * 6 + 3) (by omega)
      have f3 := hR.free (k * 6 + 3)
      obtain ⟨v4, q4⟩ := hR.cell (o := k * 6 + 4) (by omega)
      have f4 := hR.free (k * 6 + 4)
      obtain ⟨v5, q5⟩ := hR.cell (o := k * 6 + 5) (by omega)
      have f5 := hR.free (k * 6 + 5)
      clear hR
      have HAE := HAG.out
      subst HAE
      go_wp2
      go_roundw
      all_goals first
        | (simp [intOf]; omega)
        | exact ⟨k + 1, by omega, by go_num, (show World.grownBy _ _ (some g) from by repeat' (first | with_reducible exact hGR.out | with_reducible refine grown_setCell ?_ _ _)), (show ∀ g', _ → Room _ g' _ from fun g' e => by cases e; repeat' (first | with_reducible exact HR.out | with_reducible refine Room.setCell ?_ _ _))⟩
    case neg =>
    have hgr' := Lib.hid hgr.out
    have HN1 := Lib.hid (HM1.out.kept hgr.out (HM1.out.ne_other HM5.out (by decide)))
    have HN2 := Lib.hid (HM2.out.kept hgr.out (HM2.out.ne_other HM5.out (by decide)))
    have HN6 := Lib.hid (HM6.out.kept hgr.out (HM6.out.ne_other HM5.out (by decide)))
    have HB10 := Lib.hid (HB9.out.grown hgr.out hz9 (fun j e => Nat.le_trans (by omega) (HM5.out.ltB j e)))
    have hz10 := HB10.out.size
    clear hgr hgr' hroom
    skip
    have Q1 := Lib.hid (HN1.out.rd (fun _ => rfl) (by omega))
    have Q2 := Lib.hid (HN2.out.rd (fun _ => rfl) (by omega))
    have Q6 := Lib.hid (HN6.out.rd (fun _ => rfl) (by omega))
    clear HN1 HN2 HN6 HM1 HM2 HM5 HM6 HT1 HT2 HT4 HT5 HT6 HS1 HS2 HS3 HS4 HS5 HS6 N1 N2
    obtain ⟨c0, c1, c2, c3, c4, c5, c6, c7, c8, c9⟩ := CX.out _ HB10.out
    go_wp2_with (first
      | (go_at_call 36; (with_reducible refine (K1.out _ HB10.out).mono ?_); rintro e w11 ⟨Ac, cc, rfl, hb11, hO11⟩
         have HB11 := Lib.hid (HB10.out.trans (hb11.mono hz10))
         have hz11 := HB11.out.size
         have HBa := Lib.hid hb11
         have P3 := Lib.hid (hO11.rd (fun _ => rfl) (by omega))
         clear hb11 hO11 c0 c1 c2 c3 c4 c5 c6 c7 c8 c9)
      | (go_at_call 21; (with_reducible refine (K2.out _ HB11.out).mono ?_); rintro e w12 ⟨Aq, qn, cq, rfl, hb12, hO12⟩
         have hmq : qn = pls.length := hO12.len.symm
         subst hmq
         have HB12 := Lib.hid (HB11.out.trans (hb12.mono hz11))
         have hz12 := HB12.out.size
         have hza : w10.heap.size ≤ w11.heap.size := HBa.out.size
         have HBb := Lib.hid (HBa.out.trans (hb12.mono hza))
         have P4 := Lib.hid (hO12.rd (fun _ => rfl) (by omega))
         have P3b := Lib.hid (P3.out.below hb12 (Nat.le_refl _))
         clear hb12 hO12 P3 HBa)
      | (go_at_call 27; (with_reducible refine (K4.out _ Aw cw Ab cb (Q1.out.below HBb.out (Nat.le_refl _)) (Q2.out.below HBb.out (Nat.le_refl _))).mono ?_); rintro e w13 ⟨Ar, rn, cr, rfl, hb13, hO13⟩
         have hmr : rn = pls.length := hO13.len.symm
         subst hmr
         have HB13 := Lib.hid (HB12.out.trans (hb13.mono hz12))
         have hz13 := HB13.out.size
         have hzb : w10.heap.size ≤ w12.heap.size := HBb.out.size
         have HBc := Lib.hid (HBb.out.trans (hb13.mono hzb))
         have P5 := Lib.hid hO13
         have P4b := Lib.hid (P4.out.below hb13 (Nat.le_refl _))
         have P3c := Lib.hid (P3b.out.below hb13 (Nat.le_refl _))
         clear hb13 hO13 P3b P4 HBb)
      | (go_at_call 29; (with_reducible refine (K3.out _ HB13.out).mono ?_); rintro e w14 ⟨Ay, cy, rfl, hb14, hO14⟩
         have HB14 := Lib.hid (HB13.out.trans (hb14.mono hz13))
         have hz14 := HB14.out.size
         have hzc : w10.heap.size ≤ w13.heap.size := HBc.out.size
         have HBd := Lib.hid (HBc.out.trans (hb14.mono hzc))
         have P6 := Lib.hid (hO14.rd (fun _ => rfl) (by omega))
         have P5b := Lib.hid (P5.out.below hb14 (Nat.le_refl _))
         have P4c := Lib.hid (P4b.out.below hb14 (Nat.le_refl _))
         have P3d := Lib.hid (P3c.out.below hb14 (Nat.le_refl _))
         clear hb14 hO14 P3c P4b P5 HBc)
      | (go_at_call 30; (with_reducible refine (K5.out _ Aw cw Ab cb (Q1.out.below HBd.out (Nat.le_refl _)) (Q2.out.below HBd.out (Nat.le_refl _))).mono ?_); rintro e w15 ⟨Az, cz, rfl, hb15, hO15⟩
         have HB15 := Lib.hid (HB14.out.trans (hb15.mono hz14))
         have hz15 := HB15.out.size
         have hzd : w10.heap.size ≤ w14.heap.size := HBd.out.size
         have HBe := Lib.hid (HBd.out.trans (hb15.mono hzd))
         have P7 := Lib.hid (hO15.rd (fun _ => rfl) (by omega))
         have P6b := Lib.hid (P6.out.below hb15 (Nat.le_refl _))
         have P5c := Lib.hid (P5b.out.below hb15 (Nat.le_refl _))
         have P4d := Lib.hid (P4c.out.below hb15 (Nat.le_refl _))
         have P3e := Lib.hid (P3d.out.below hb15 (Nat.le_refl _))
         clear hb15 hO15 P3d P4c P5b P6 HBd))
    have Z1 := Lib.hid (Q1.out.below HBe.out (Nat.le_refl _))
    have Z2 := Lib.hid (Q2.out.below HBe.out (Nat.le_refl _))
    have Z6 := Lib.hid (Q6.out.below HBe.out (Nat.le_refl _))
    clear Q1 Q2 Q6
    go_loopw [31] (fun i wr => ∃ k : Nat, k ≤ bn ∧ i = .int .i64 k ∧ Hid (Below w15.heap.size w15 wr)) (fun i _ => bn - (intOf i).toNat)
    case atStart => exact ⟨0, Nat.zero_le _, rfl, (show Below _ _ _ from Below.refl _ _)⟩
    case round =>
    rename World => w16
    obtain ⟨k, hk, rfl, hbk⟩ := hrel
    have hzk := hbk.out.size
    by_cases hlt : k < bn
    case pos =>
      obtain ⟨B1, off, y, rfl, hbw, hy, hcell⟩ := (RB.out _ (HB15.out.trans (hbk.out.mono hz15))).one hlt
      obtain ⟨B2, off2, z, rfl, hbw2, hz, hcell2⟩ := (Z2.out.below hbk.out (Nat.le_refl _)).one hlt
      obtain rfl : y = z := Option.some.inj (hy.symm.trans hz)
      have y0 : w16.cell? ⟨B1, off + k * 5, none⟩ = some (.int .i64 y.a.pit) := hcell 0 _ rfl
      have y1 : w16.cell? ⟨B1, off + k * 5 + 1, none⟩ = some (.int .i64 y.a.layer) := hcell 1 _ rfl
      have y2 : w16.cell? ⟨B1, off + k * 5 + 2, none⟩ = some (.int .i64 y.b.pit) := hcell 2 _ rfl
      have y3 : w16.cell? ⟨B1, off + k * 5 + 3, none⟩ = some (.int .i64 y.b.layer) := hcell 3 _ rfl
      have y4 : w16.cell? ⟨B1, off + k * 5 + 4, none⟩ = some (.int .i64 y.by_) := hcell 4 _ rfl
      have z0 : w16.cell? ⟨B2, off2 + k * 5, none⟩ = some (.int .i64 y.a.pit) := hcell2 0 _ rfl
      have z1 : w16.cell? ⟨B2, off2 + k * 5 + 1, none⟩ = some (.int .i64 y.a.layer) := hcell2 1 _ rfl
      have z2 : w16.cell? ⟨B2, off2 + k * 5 + 2, none⟩ = some (.int .i64 y.b.pit) := hcell2 2 _ rfl
      have z3 : w16.cell? ⟨B2, off2 + k * 5 + 3, none⟩ = some (.int .i64 y.b.layer) := hcell2 3 _ rfl
      have z4 : w16.cell? ⟨B2, off2 + k * 5 + 4, none⟩ = some (.int .i64 y.by_) := hcell2 4 _ rfl
      have heq : eqBond ⟨⟨y.a.pit, y.a.layer⟩, ⟨y.b.pit, y.b.layer⟩, y.by_⟩ ⟨⟨y.a.pit, y.a.layer⟩, ⟨y.b.pit, y.b.layer⟩, y.by_⟩ = true := (by simp [eqBond])
      clear hcell hcell2 hy hz
      go_wp2_with (go_quiet (fail))
      go_roundw
      all_goals first
        | (simp [intOf]; omega)
        | exact ⟨k + 1, by omega, by go_num, (show Below _ _ _ from below_drewN' hbk.out _)⟩
    case neg =>
    have e1 : (g1 == g1) = true := (by simp)
    have e2 : (ew == ew) = true := (by simp)
    have HBk := Lib.hid hbk.out
    clear hbk
    go_wp2_with (first
      | (go_at_call 22; (with_reducible refine (HDUG.out _).mono ?_); rintro e w17 ⟨rfl, hb17⟩
         have HBf := Lib.hid (HBk.out.trans (hb17.mono hzk))
         have hzf := HBf.out.size
         clear hb17)
      | (go_at_call_of 47 (pl.length); (with_reducible refine (rSame_refl _ _ _ _ _ pl _ (P3e.out.below HBf.out (Nat.le_refl _)) (Z6.out.below HBf.out (Nat.le_refl _))).mono ?_); rintro e w18 ⟨rfl, hb18⟩
         have HBg := Lib.hid (HBf.out.trans (hb18.mono hzf))
         have hzg := HBg.out.size
         clear hb18)
      | (go_at_call 47; (with_reducible refine (rSame_refl _ _ _ _ _ l _ (RL.out _ (HB15.out.trans (HBg.out.mono hz15))) (Z1.out.below HBg.out (Nat.le_refl _))).mono ?_); rintro e w19 ⟨rfl, hb19⟩
         have HBh := Lib.hid (HBg.out.trans (hb19.mono hzg))
         have hzh := HBh.out.size
         clear hb19)
      | (go_at_call 31; (with_reducible refine (rSamePlaces_refl _ _ _ _ _ pls _ (P4d.out.below HBh.out (Nat.le_refl _)) (P5c.out.below HBh.out (Nat.le_refl _))).mono ?_); rintro e w20 ⟨rfl, hb20⟩
         have HBi := Lib.hid (HBh.out.trans (hb20.mono hzh))
         have hzi := HBi.out.size
         clear hb20)
      | (go_at_call 33; (with_reducible refine (rSameLinks_refl _ _ _ _ _ L _ (P6b.out.below HBi.out (Nat.le_refl _)) (P7.out.below HBi.out (Nat.le_refl _))).mono ?_); rintro e w21 ⟨rfl, hb21⟩
         have HBj := Lib.hid (HBi.out.trans (hb21.mono hzi))
         clear hb21))
    go_ret
    exact ⟨rfl, hb1.trans ((HB15.out.trans (HBj.out.mono hz15)).mono (by have := HZW.out; omega))⟩
end Go.Proofs.YtelnkflmnbhclaaGreat
end

/- Contracts that the law leans on: Dug, Most. -/
import Derived.Test.YtelnkflmnbhclaaGreatG45
import Derived.Test.YtelnkflmnbhclaaGreatG46
/- What is proved: dug answers true. Conditions: none. -/
section
namespace Go.Proofs.YtelnkflmnbhclaaGreat
open Go.RowKit Go.Proofs Go.Shelf

def sysF (mv : List Place) : List Bound := (linksL (counting pitL 2) bondL mv).map (boundOf (ptsM [⟨1, 1⟩, ⟨1, 2⟩, ⟨1, 3⟩, ⟨2, 1⟩] 4))
theorem dug_sysB : sysB (counting pitL 2) bondL = sysF := by funext mv; unfold sysB sysF; rw [dug_places2]; rfl
theorem dug_earl1 : earlierV pitL 2 bondL otherP topP = (1, 0) := by
  unfold earlierV
  rw [dug_ask2, dug_pts2, dug_sets2, dug_places2, dug_sysB]
  decide +kernel
theorem dug_earl2 : earlierV pitL 2 bondL topP otherP = (2, 0) := by
  unfold earlierV
  rw [dug_ask2, dug_pts2, dug_sets2, dug_places2, dug_sysB]
  decide +kernel
theorem dug_any (w : World) : Calls Tryz.prog 22 #[] w fun e w' => e = .returned (.bool true) ∧ Below w.heap.size w w' :=
  dug_of (fun A n c bA bn bc W hl hb => by
    have h := Earlier_any A n c pitL 2 bA bn bc bondL otherP topP W hl hb
    rw [dug_earl1] at h; exact h) (fun A n c bA bn bc W hl hb => by
    have h := Earlier_any A n c pitL 2 bA bn bc bondL topP otherP W hl hb
    rw [dug_earl2] at h; exact h) w
end Go.Proofs.YtelnkflmnbhclaaGreat
end

/- What is proved: the walk of the law StratumMost, given that dug answers true. Conditions: as said. -/
section
namespace Go.Proofs.YtelnkflmnbhclaaGreat
open Go.RowKit Go.Proofs Go.Shelf

def mvL (n : Nat) : List Trace := (List.range n).map fun (i : Nat) => ⟨(i : Int) + 1, 0, 3, 1, (i : Int) + 1, 0, 0, 0, 1, 0⟩
def plL (n : Nat) : List Trace := (List.range n).map fun (i : Nat) => ⟨(i : Int) + 1, 0, 2, 1 + (i : Int) / 40, 1 + (i : Int) % 40, 0, 0, 0, 0, 0⟩
theorem mvL_snoc (n : Nat) : mvL (n + 1) = mvL n ++ [⟨(n : Int) + 1, 0, 3, 1, (n : Int) + 1, 0, 0, 0, 1, 0⟩] := by unfold mvL; rw [List.range_succ, List.map_append]; rfl
theorem plL_snoc (n : Nat) : plL (n + 1) = plL n ++ [⟨(n : Int) + 1, 0, 2, 1 + (n : Int) / 40, 1 + (n : Int) % 40, 0, 0, 0, 0, 0⟩] := by unfold plL; rw [List.range_succ, List.map_append]; rfl
theorem mvL_len (n : Nat) : (mvL n).length = n := by simp [mvL]
theorem plL_len (n : Nat) : (plL n).length = n := by simp [plL]
theorem most1 : ∀ r : Nat, r < 5 → askErr (mvL (6 + r)) 0 [] = if 8 < 6 + r then 2 else 0 := by
  intro r hr
  rcases (by omega : r = 0 ∨ r = 1 ∨ r = 2 ∨ r = 3 ∨ r = 4) with rfl | rfl | rfl | rfl | rfl <;> decide +kernel
theorem most2 : ∀ r : Nat, r < 8 → askErr (plL (46 + r)) 0 [] = if 50 < 46 + r then 2 else 0 := by
  intro r hr
  rcases (by omega : r = 0 ∨ r = 1 ∨ r = 2 ∨ r = 3 ∨ r = 4 ∨ r = 5 ∨ r = 6 ∨ r = 7) with rfl | rfl | rfl | rfl | rfl | rfl | rfl | rfl <;> decide +kernel

theorem u64_nonneg (m : Int) : 0 ≤ IntKind.u64.wrap m := by
  simp [IntKind.wrap, IntKind.bits, IntKind.signed]
  omega
theorem wrap_mod (m : Int) (c d : Nat) (hd : 0 < d) (hd2 : d ≤ 100) (hc : c ≤ 100) : ∃ r : Nat, r < d ∧ wrap64 ((c : Int) + wrap64 ((IntKind.u64.wrap m).tmod (d : Int))) = ((c + r : Nat) : Int) := by
  have hu := u64_nonneg m
  obtain ⟨u, hue⟩ : ∃ u, IntKind.u64.wrap m = u := ⟨_, rfl⟩
  rw [hue] at hu ⊢
  have h1 : u.tmod (d : Int) = u % (d : Int) := Int.tmod_eq_emod_of_nonneg hu
  have h2 : 0 ≤ u % (d : Int) := Int.emod_nonneg _ (by omega)
  have h3 : u % (d : Int) < d := Int.emod_lt_of_pos _ (by omega)
  rw [h1]
  obtain ⟨q, hq⟩ : ∃ q, u % (d : Int) = q := ⟨_, rfl⟩
  rw [hq] at h2 h3 ⊢
  refine ⟨q.toNat, by omega, ?_⟩
  unfold wrap64
  omega
set_option maxRecDepth 100000 in
set_option maxHeartbeats 8000000 in
theorem most_of (hdug : ∀ w : World, Calls Tryz.prog 22 #[] w fun e w' => e = .returned (.bool true) ∧ Below w.heap.size w w') (m : Int) (w : World) :
    Calls Tryz.prog 3 #[.int .i64 m] w fun e w' => e = .returned (.bool true) ∧ Below w.heap.size w w' := by
  have HDUG := Lib.hid hdug
  clear hdug
  obtain ⟨r, hr, hw5⟩ := wrap_mod m 6 5 (by decide) (by decide) (by decide)
  obtain ⟨s, hs, hw8⟩ := wrap_mod m 46 8 (by decide) (by decide) (by decide)
  have h1 := most1 r hr
  have h2 := most2 s hs
  obtain ⟨n, hn⟩ : ∃ n, 6 + r = n := ⟨_, rfl⟩
  obtain ⟨p, hp⟩ : ∃ p, 46 + s = p := ⟨_, rfl⟩
  rw [hn] at hw5 h1
  rw [hp] at hw8 h2
  have hn1 : 6 ≤ n ∧ n ≤ 10 := by omega
  have hp1 : 46 ≤ p ∧ p ≤ 53 := by omega
  have H1 := Lib.hid h1
  have H2 := Lib.hid h2
  have HW5 := Lib.hid hw5
  have HW8 := Lib.hid hw8
  clear h1 h2 hw5 hw8 hn hp hr hs
  go_enter Tryz.func3, Tryz.ntmps3
  go_wp2_with (fail)
  rw [show wrap64 (6 + wrap64 ((IntKind.u64.wrap m).tmod 5)) = (n : Int) from HW5.out]
  go_loopw [4, 5] (fun s4 s5 wr => ∃ (k : Nat) (A' : Option Addr) (c' : Nat), k ≤ n ∧ s5 = .int .i64 k ∧ s4 = .slice A' k c' ∧ Hid (Below w.heap.size w wr) ∧ Hid (Own encTrace 10 25 w.heap.size wr A' k c' (mvL k))) (fun _ s5 _ => n - (intOf s5).toNat)
  case atStart => exact ⟨0, none, 0, Nat.zero_le _, rfl, rfl, (show Below _ _ _ from Below.refl _ _), (show Own _ _ _ _ _ _ _ _ _ from Own.none_ _ _ _ _ _)⟩
  case round =>
    obtain ⟨k, A', c', hk, rfl, rfl, hb, hO⟩ := hrel
    have hsz := hb.out.size
    by_cases hlt : k < n
    · have hO5 := hO.out.alloc (.cells #[.int .i64 ((k : Int) + 1), .int .i64 0, .int .u8 3, .int .i64 1, .int .i64 ((k : Int) + 1), .int .i64 0, .int .i64 0, .int .i64 0, .int .i64 1, .int .i64 0] 25)
      have hrd5 := Rd.single (enc := encTrace) (k := 10) wr #[.int .i64 ((k : Int) + 1), .int .i64 0, .int .u8 3, .int .i64 1, .int .i64 ((k : Int) + 1), .int .i64 0, .int .i64 0, .int .i64 0, .int .i64 1, .int .i64 0] 25 [⟨(k : Int) + 1, 0, 3, 1, (k : Int) + 1, 0, 0, 0, 1, 0⟩] 1 rfl (by omega) (fun _ => rfl) (by simp [encTrace])
      have HB5 := Lib.hid (show Below w.heap.size w (wr.alloc (.cells #[.int .i64 ((k : Int) + 1), .int .i64 0, .int .u8 3, .int .i64 1, .int .i64 ((k : Int) + 1), .int .i64 0, .int .i64 0, .int .i64 0, .int .i64 1, .int .i64 0] 25)) from hb.out.alloc hsz _)
      go_wp2_with (at_builtin; refine wpList_append_src elTrace (fun _ => rfl) oneTrace rfl _ _ rfl _ _ _ _ rfl rfl hO5 hrd5 (by omega) (by decide) (by simp; omega) ?_; intro A2 c2 w8 hO8 hg8 hA8
                   have HB8 := Lib.hid (HB5.out.grown hg8 (by simp; omega) (fun j e => hO5.ltB j e))
                   have HO8 := Lib.hid hO8
                   clear hO8 hg8 hA8)
      go_roundw
      all_goals first
        | (simp [intOf]; omega)
        | exact ⟨k + 1, A2, c2, by omega, by go_num, rfl, HB8, (show Own _ _ _ _ _ _ _ _ _ by rw [mvL_snoc]; exact HO8.out)⟩
    · have hke : k = n := by omega
      subst hke
      have hmv := Movable_any A' k c' (mvL k) 0 none 0 0 [] wr (hO.out.rd (fun _ => rfl) (by omega)) (Rd.none_ none 0 (by omega))
      rw [H1.out] at hmv
      have HMV := Lib.hid hmv
      clear hmv hlt
      rcases (by omega : 8 < k ∨ k ≤ 8) with h8 | h8
      all_goals
        first
          | rw [if_pos h8] at HMV
          | rw [if_neg (show ¬ 8 < k by omega)] at HMV
        go_wp2_with (go_at_call 20; (with_reducible refine HMV.out.mono ?_); rintro e w4 ⟨A4, n4, c4, rfl, hb4, _⟩
                     have HB4 := Lib.hid (hb.out.trans (hb4.mono hsz))
                     clear hb4)
        rw [show wrap64 (46 + wrap64 ((IntKind.u64.wrap m).tmod 8)) = (p : Int) from HW8.out]
        go_loopw [8, 10] (fun s8 s10 w5 => ∃ (q : Nat) (Aq : Option Addr) (cq : Nat), q ≤ p ∧ s10 = .int .i64 q ∧ s8 = .slice Aq q cq ∧ Hid (Below w.heap.size w w5) ∧ Hid (Own encTrace 10 25 w.heap.size w5 Aq q cq (plL q))) (fun _ s10 _ => p - (intOf s10).toNat)
        case atStart => exact ⟨0, none, 0, Nat.zero_le _, rfl, rfl, HB4, (show Own _ _ _ _ _ _ _ _ _ from Own.none_ _ _ _ _ _)⟩
        case round =>
          obtain ⟨q, Aq, cq, hq, rfl, rfl, hbq, hOq⟩ := hrel
          have hsq := hbq.out.size
          by_cases hltq : q < p
          · have hO5 := hOq.out.alloc (.cells #[.int .i64 ((q : Int) + 1), .int .i64 0, .int .u8 2, .int .i64 (1 + (q : Int) / 40), .int .i64 (1 + (q : Int) % 40), .int .i64 0, .int .i64 0, .int .i64 0, .int .i64 0, .int .i64 0] 25)
            have hrd5 := Rd.single (enc := encTrace) (k := 10) wr #[.int .i64 ((q : Int) + 1), .int .i64 0, .int .u8 2, .int .i64 (1 + (q : Int) / 40), .int .i64 (1 + (q : Int) % 40), .int .i64 0, .int .i64 0, .int .i64 0, .int .i64 0, .int .i64 0] 25 [⟨(q : Int) + 1, 0, 2, 1 + (q : Int) / 40, 1 + (q : Int) % 40, 0, 0, 0, 0, 0⟩] 1 rfl (by omega) (fun _ => rfl) (by simp [encTrace])
            have HB5 := Lib.hid (show Below w.heap.size w (wr.alloc (.cells #[.int .i64 ((q : Int) + 1), .int .i64 0, .int .u8 2, .int .i64 (1 + (q : Int) / 40), .int .i64 (1 + (q : Int) % 40), .int .i64 0, .int .i64 0, .int .i64 0, .int .i64 0, .int .i64 0] 25)) from hbq.out.alloc hsq _)
            go_wp2_with (at_builtin; refine wpList_append_src elTrace (fun _ => rfl) oneTrace rfl _ _ rfl _ _ _ _ rfl rfl hO5 hrd5 (by omega) (by decide) (by simp; omega) ?_; intro A2 c2 w8 hO8 hg8 hA8
                         have HB8 := Lib.hid (HB5.out.grown hg8 (by simp; omega) (fun j e => hO5.ltB j e))
                         have HO8 := Lib.hid hO8
                         clear hO8 hg8 hA8)
            go_roundw
            all_goals first
              | (simp [intOf]; omega)
              | exact ⟨q + 1, A2, c2, by omega, by go_num, rfl, HB8, (show Own _ _ _ _ _ _ _ _ _ by rw [plL_snoc]; exact HO8.out)⟩
          · have hqe : q = p := by omega
            subst hqe
            have hpl := Places_any Aq q cq (plL q) 0 none 0 0 [] wr (hOq.out.rd (fun _ => rfl) (by omega)) (Rd.none_ none 0 (by omega))
            rw [H2.out] at hpl
            have HPL := Lib.hid hpl
            clear hpl hltq
            rcases (by omega : 50 < q ∨ q ≤ 50) with h50 | h50
            all_goals
              first
                | rw [if_pos h50] at HPL
                | rw [if_neg (show ¬ 50 < q by omega)] at HPL
              go_wp2_with (first
                | (go_at_call 21; (with_reducible refine HPL.out.mono ?_); rintro e w6 ⟨A6, n6, c6, rfl, hb6, _⟩
                   have HB6 := Lib.hid (hbq.out.trans (hb6.mono hsq))
                   clear hb6)
                | (go_at_call 22; refine (HDUG.out _).mono ?_; rintro e w7 ⟨rfl, hb7⟩
                   have HB7 := Lib.hid (HB6.out.trans (hb7.mono HB6.out.size))
                   clear hb7))
              go_ret
              exact ⟨rfl, HB7.out⟩
end Go.Proofs.YtelnkflmnbhclaaGreat
end

/- Contracts that the laws lean on: RefH, RefI, RefJ, RefK. -/
import Derived.Test.YtelnkflmnbhclaaGreatH02
import Derived.Deep.RegionHeld3
import Derived.Test.YtelnkflmnbhclaaGreatH03
import Derived.Test.YtelnkflmnbhclaaGreatG45
import Derived.Test.YtelnkflmnbhclaaGreatH01
/- What is proved: the contract of the reference's places: the places that traces and bonds name. Conditions: at most 100000 of each. -/
section
namespace Go.Proofs.YtelnkflmnbhclaaGreat
open Go.RowKit Go.Proofs Go.Shelf

theorem putAll_len : ∀ (xs l : List Place), (xs.foldl putPl l).length ≤ l.length + xs.length
  | [], l => by simp
  | x :: xs, l => by
    have := putAll_len xs (putPl l x)
    have := putPl_len l x
    rw [List.foldl_cons, List.length_cons]
    omega
theorem plT_len (ts : List Trace) : (ts.flatMap plT).length ≤ 2 * ts.length := by
  induction ts with
  | nil => simp
  | cons x ts ih =>
    rw [List.flatMap_cons, List.length_append, List.length_cons]
    have : (plT x).length ≤ 2 := by unfold plT; split <;> simp
    omega
theorem plB_len (bs : List Bond) : (bs.flatMap plB).length = 2 * bs.length := by
  induction bs with
  | nil => simp
  | cons x bs ih =>
    rw [List.flatMap_cons, List.length_append, List.length_cons, ih]
    simp [plB]; omega
set_option maxHeartbeats 4000000 in
set_option maxRecDepth 100000 in
theorem rplaces_any (A : Option Addr) (n c : Nat) (ts : List Trace) (B : Option Addr) (m d : Nat) (bs : List Bond) (w : World) (hl : Rd encTrace 10 w A n c ts) (hb : Rd encBond 5 w B m d bs) (hn : n ≤ 100000) (hm : m ≤ 100000) :
    Calls Tryz.prog 82 #[.slice A n c, .slice B m d] w fun e w' => ∃ A' c', e = .returned (.slice A' (placesOf ts bs).length c') ∧ Rd encPlace 2 w' A' (placesOf ts bs).length c' (placesOf ts bs) ∧ Below w.heap.size w w' := by
  have hnl := Lib.hid hl.len
  have hml := Lib.hid hb.len
  have HL := Lib.hid hl
  have HB := Lib.hid hb
  clear hl hb
  go_enter Tryz.func82, Tryz.ntmps82
  go_wp2
  go_loopw [5, 6] (fun s5 s6 wr => ∃ (i : Nat) (A' : Option Addr) (c' : Nat) (xs : List Place), i ≤ n ∧ s5 = .slice A' xs.length c' ∧ s6 = .int .i64 i ∧ Hid (Below w.heap.size w wr) ∧ Hid (((ts.take i).flatMap plT).foldl putPl [] = xs) ∧ Hid (Rd encPlace 2 wr A' xs.length c' xs) ∧ xs.length ≤ 2 * i) (fun _ s6 _ => n - (intOf s6).toNat)
  case atStart => exact ⟨0, none, 0, [], Nat.zero_le _, rfl, rfl, (show Below _ _ _ from Below.refl _ _), (show _ = _ from rfl), (show Rd _ _ _ _ _ _ _ from Rd.none_ _ _ (by omega)), by simp⟩
  case round =>
    rename World => wo
    obtain ⟨i, A', c', xs, hi, rfl, rfl, hbl, hxs, hR, hxl⟩ := hrel
    have hzr := hbl.out.size
    by_cases hlt : i < n
    · obtain ⟨b, off, x, rfl, hbw, hx, hcell⟩ := (HL.out.below hbl.out (Nat.le_refl _)).one hlt
      have c0 : wo.cell? ⟨b, off + i * 10, none⟩ = some (.int .i64 x.id) := hcell 0 _ rfl
      have c1 : wo.cell? ⟨b, off + i * 10 + 1, none⟩ = some (.int .i64 x.known) := hcell 1 _ rfl
      have c2 : wo.cell? ⟨b, off + i * 10 + 2, none⟩ = some (.int .u8 x.kind) := hcell 2 _ rfl
      have c3 : wo.cell? ⟨b, off + i * 10 + 3, none⟩ = some (.int .i64 x.pit) := hcell 3 _ rfl
      have c4 : wo.cell? ⟨b, off + i * 10 + 4, none⟩ = some (.int .i64 x.layer) := hcell 4 _ rfl
      have c5 : wo.cell? ⟨b, off + i * 10 + 5, none⟩ = some (.int .i64 x.lower) := hcell 5 _ rfl
      have c6 : wo.cell? ⟨b, off + i * 10 + 6, none⟩ = some (.int .i64 x.low) := hcell 6 _ rfl
      have c7 : wo.cell? ⟨b, off + i * 10 + 7, none⟩ = some (.int .i64 x.high) := hcell 7 _ rfl
      have c8 : wo.cell? ⟨b, off + i * 10 + 8, none⟩ = some (.int .i64 x.cost) := hcell 8 _ rfl
      have c9 : wo.cell? ⟨b, off + i * 10 + 9, none⟩ = some (.int .i64 x.void) := hcell 9 _ rfl
      have HX := Lib.hid hx
      have CE : Hid (∀ W, Below wo.heap.size wo W → W.cell? ⟨b, off + i * 10 + 2, none⟩ = some (.int .u8 x.kind) ∧ W.cell? ⟨b, off + i * 10 + 3, none⟩ = some (.int .i64 x.pit) ∧ W.cell? ⟨b, off + i * 10 + 5, none⟩ = some (.int .i64 x.lower)) :=
        (show ∀ W, Below wo.heap.size wo W → W.cell? ⟨b, off + i * 10 + 2, none⟩ = some (.int .u8 x.kind) ∧ W.cell? ⟨b, off + i * 10 + 3, none⟩ = some (.int .i64 x.pit) ∧ W.cell? ⟨b, off + i * 10 + 5, none⟩ = some (.int .i64 x.lower) from
          fun W h => ⟨(h.cell (p := ⟨b, _, none⟩) hbw).trans c2, (h.cell (p := ⟨b, _, none⟩) hbw).trans c3, (h.cell (p := ⟨b, _, none⟩) hbw).trans c5⟩)
      have SN : Hid (((ts.take (i + 1)).flatMap plT).foldl putPl [] = (plT x).foldl putPl xs) := (show _ = _ by
        rw [List.take_add_one, HX.out, Option.toList_some, List.flatMap_append, List.foldl_append, hxs.out]; simp)
      clear hcell hx
      go_upto_region 5 with (fail)
      go_region_with (go_at_call 129; (with_reducible refine (rPut_any A' xs.length c' xs ⟨x.pit, x.layer⟩ wo.drew hR.out.drew (by omega)).mono ?_); rintro e w2 ⟨A2, c2', rfl, hR2, hb2⟩
                      have HR2 := Lib.hid hR2
                      have HB2 := Lib.hid (hbl.out.drew.trans (hb2.mono hzr))
                      have HB3 := Lib.hid (show Below wo.heap.size wo w2 from (Below.refl wo.heap.size wo).drew.trans hb2)
                      clear hR2 hb2)
      all_goals
        obtain ⟨e2, e3, e5⟩ := CE.out w2 HB3.out
        have hbw2 : b < w2.heap.size := (by have := HB3.out.size; omega)
        have hl2 := putPl_len xs ⟨x.pit, x.layer⟩
        have hs2 := HB2.out.size
        clear c0 c1 c2 c3 c4 c5 c6 c7 c8 c9
        rcases two_ x.kind 1 with ⟨k1, k2, k3⟩ | ⟨k1, k2, k3⟩
        all_goals
          have K1 := Lib.hid k1
          clear k1
        · go_upto_region 7 with (fail)
          go_region_with (go_at_call 129; (with_reducible refine (rPut_any A2 (putPl xs ⟨x.pit, x.layer⟩).length c2' (putPl xs ⟨x.pit, x.layer⟩) ⟨x.pit, x.lower⟩ w2.drew HR2.out.drew (by omega)).mono ?_); rintro e w3 ⟨A3, c3', rfl, hR3, hb3⟩
                          have HR3 := Lib.hid hR3
                          have HB4 := Lib.hid (HB2.out.drew.trans (hb3.mono hs2))
                          clear hR3 hb3)
          all_goals
            go_wp2
            go_roundw
          all_goals first
            | (simp [intOf]; omega)
            | exact ⟨i + 1, A3, c3', putPl (putPl xs ⟨x.pit, x.layer⟩) ⟨x.pit, x.lower⟩, by omega, rfl, by go_num, HB4.out, (show _ = _ by rw [SN.out]; unfold plT; rw [if_pos K1.out]; rfl), HR3.out, by have := putPl_len (putPl xs ⟨x.pit, x.layer⟩) ⟨x.pit, x.lower⟩; omega⟩
        · go_wp2
          go_roundw
          all_goals first
            | (simp [intOf]; omega)
            | exact ⟨i + 1, A2, c2', putPl xs ⟨x.pit, x.layer⟩, by omega, rfl, by go_num, HB2.out, (show _ = _ by rw [SN.out]; unfold plT; rw [if_neg K1.out]; rfl), HR2.out, by omega⟩
    · have hin : i = n := by omega
      subst hin
      have hxs2 : Hid ((ts.flatMap plT).foldl putPl [] = xs) := (show _ = _ by have h1 := hxs.out; rwa [List.take_of_length_le (by rw [hnl.out]; exact Nat.le_refl _)] at h1)
      clear hxs
      go_wp2
      go_loopw [5, 7] (fun s5 s7 wr => ∃ (k : Nat) (A2 : Option Addr) (c2 : Nat) (ys : List Place), k ≤ m ∧ s5 = .slice A2 ys.length c2 ∧ s7 = .int .i64 k ∧ Hid (Below w.heap.size w wr) ∧ Hid (((bs.take k).flatMap plB).foldl putPl xs = ys) ∧ Hid (Rd encPlace 2 wr A2 ys.length c2 ys) ∧ ys.length ≤ 2 * i + 2 * k) (fun _ s7 _ => m - (intOf s7).toNat)
      case atStart => exact ⟨0, A', c', xs, Nat.zero_le _, rfl, rfl, hbl, (show _ = _ from rfl), hR, by omega⟩
      case round =>
        rename World => wp
        obtain ⟨k, A2, c2', ys, hk, rfl, rfl, hbk, hys, hR2, hyl⟩ := hrel
        have hzk := hbk.out.size
        by_cases hlt2 : k < m
        · obtain ⟨b, off, x, rfl, hbw, hx, hcell⟩ := (HB.out.below hbk.out (Nat.le_refl _)).one hlt2
          have c0 : wp.cell? ⟨b, off + k * 5, none⟩ = some (.int .i64 x.a.pit) := hcell 0 _ rfl
          have c1 : wp.cell? ⟨b, off + k * 5 + 1, none⟩ = some (.int .i64 x.a.layer) := hcell 1 _ rfl
          have c2 : wp.cell? ⟨b, off + k * 5 + 2, none⟩ = some (.int .i64 x.b.pit) := hcell 2 _ rfl
          have c3 : wp.cell? ⟨b, off + k * 5 + 3, none⟩ = some (.int .i64 x.b.layer) := hcell 3 _ rfl
          have c4 : wp.cell? ⟨b, off + k * 5 + 4, none⟩ = some (.int .i64 x.by_) := hcell 4 _ rfl
          have SN : Hid (((bs.take (k + 1)).flatMap plB).foldl putPl xs = putPl (putPl ys x.a) x.b) := (show _ = _ by
            rw [List.take_add_one, hx, Option.toList_some, List.flatMap_append, List.foldl_append, hys.out]; simp [plB])
          have SX : Hid (∀ W, Below wp.heap.size wp W → Hid (Below wp.heap.size wp W) ∧ W.cell? ⟨b, off + k * 5, none⟩ = some (.int .i64 x.a.pit) ∧ W.cell? ⟨b, off + k * 5 + 1, none⟩ = some (.int .i64 x.a.layer) ∧ W.cell? ⟨b, off + k * 5 + 2, none⟩ = some (.int .i64 x.b.pit) ∧ W.cell? ⟨b, off + k * 5 + 3, none⟩ = some (.int .i64 x.b.layer)) :=
            (show ∀ W, Below wp.heap.size wp W → Hid (Below wp.heap.size wp W) ∧ W.cell? ⟨b, off + k * 5, none⟩ = some (.int .i64 x.a.pit) ∧ W.cell? ⟨b, off + k * 5 + 1, none⟩ = some (.int .i64 x.a.layer) ∧ W.cell? ⟨b, off + k * 5 + 2, none⟩ = some (.int .i64 x.b.pit) ∧ W.cell? ⟨b, off + k * 5 + 3, none⟩ = some (.int .i64 x.b.layer) from
              fun W h => ⟨h, (h.cell (p := ⟨b, _, none⟩) hbw).trans c0, (h.cell (p := ⟨b, _, none⟩) hbw).trans c1, (h.cell (p := ⟨b, _, none⟩) hbw).trans c2, (h.cell (p := ⟨b, _, none⟩) hbw).trans c3⟩)
          have hl1 := putPl_len ys ⟨x.a.pit, x.a.layer⟩
          have hl2 := putPl_len (putPl ys ⟨x.a.pit, x.a.layer⟩) ⟨x.b.pit, x.b.layer⟩
          have HRF := Lib.hid ((Below.refl wp.heap.size wp).drew)
          clear hcell hx c0 c1 c2 c3 c4
          go_upto_region 11 with (fail)
          go_region_held3 (fun W => Hid (Below wp.heap.size wp W) ∧ W.cell? ⟨b, off + k * 5, none⟩ = some (.int .i64 x.a.pit) ∧ W.cell? ⟨b, off + k * 5 + 1, none⟩ = some (.int .i64 x.a.layer) ∧ W.cell? ⟨b, off + k * 5 + 2, none⟩ = some (.int .i64 x.b.pit) ∧ W.cell? ⟨b, off + k * 5 + 3, none⟩ = some (.int .i64 x.b.layer))
            (first | exact SX.out _ HB5.out | exact SX.out _ HB4.out | exact SX.out _ HRF.out)
            (first
              | (go_at_call 129; (with_reducible refine (rPut_any A2 ys.length c2' ys ⟨x.a.pit, x.a.layer⟩ wp.drew hR2.out.drew (by omega)).mono ?_); rintro e w3 ⟨A3, c3', rfl, hR3, hb3⟩
                 have HR3 := Lib.hid hR3
                 have HB4 := Lib.hid (HRF.out.trans hb3)
                 have hs4 := HB4.out.size
                 clear hR3 hb3)
              | (go_at_call 129; (with_reducible refine (rPut_any A3 (putPl ys ⟨x.a.pit, x.a.layer⟩).length c3' (putPl ys ⟨x.a.pit, x.a.layer⟩) ⟨x.b.pit, x.b.layer⟩ w3 HR3.out (by omega)).mono ?_); rintro e w4 ⟨A4, c4', rfl, hR4, hb4⟩
                 have HR4 := Lib.hid hR4
                 have HB5 := Lib.hid (HB4.out.trans (hb4.mono hs4))
                 clear hR4 hb4))
          all_goals
            go_wp2
            go_roundw
          all_goals first
            | (simp [intOf]; omega)
            | exact ⟨k + 1, A4, c4', putPl (putPl ys ⟨x.a.pit, x.a.layer⟩) ⟨x.b.pit, x.b.layer⟩, by omega, rfl, by go_num, hbk.out.trans (HB5.out.mono hzk), (show _ = _ from SN.out), HR4.out, by omega⟩
        · have hkm : k = m := by omega
          subst hkm
          have hfin : Hid (placesOf ts bs = ys) := (show _ = _ by
            have h1 := hys.out
            rw [List.take_of_length_le (by rw [hml.out]; exact Nat.le_refl _), ← hxs2.out, ← List.foldl_append] at h1
            rw [← putAll_places]; exact h1)
          go_wp2
          go_ret
          exact ⟨A2, c2', by rw [hfin.out]; rfl, by rw [hfin.out]; exact hR2.out, hbk.out⟩
end Go.Proofs.YtelnkflmnbhclaaGreat
end

/- What is proved: the contract of the reference's movable: the admissions by traces. Conditions: at most 100000 traces. -/
section
namespace Go.Proofs.YtelnkflmnbhclaaGreat
open Go.RowKit Go.Proofs Go.Shelf

/-- a block with the four cells of an admission -/
structure AdmAt (W : World) (g : Nat) (p : Place) (y : Admit) : Prop where
  at_ : W.heap[g]? = some (.cells #[.int .i64 p.pit, .int .i64 p.layer, .int .i64 y.cost, .int .i64 y.by_] 96 (0, 0))
theorem AdmAt.cell {W : World} {g : Nat} {p : Place} {y : Admit} (h : AdmAt W g p y) :
    W.cell? ⟨g, 0, none⟩ = some (.int .i64 p.pit) ∧ W.cell? ⟨g, 1, none⟩ = some (.int .i64 p.layer) ∧ W.cell? ⟨g, 2, none⟩ = some (.int .i64 y.cost) ∧ W.cell? ⟨g, 3, none⟩ = some (.int .i64 y.by_) ∧ W.frozen? ⟨g, 2, none⟩ = false ∧ W.frozen? ⟨g, 3, none⟩ = false := by
  have h1 := h.at_
  refine ⟨?_, ?_, ?_, ?_, ?_, ?_⟩ <;> simp [World.cell?, World.frozen?, h1]
theorem admStepR_yes {p : Place} {x : Admit} {t : Trace} (h : t.kind = 3) (h1 : t.pit = p.pit) (h2 : t.layer = p.layer) : admStepR p x t = ⟨p, t.cost, t.id⟩ := by unfold admStepR; rw [if_pos ⟨h, h1, h2⟩]
theorem admStepR_no {p : Place} {x : Admit} {t : Trace} (h : ¬ (t.kind = 3 ∧ t.pit = p.pit ∧ t.layer = p.layer)) : admStepR p x t = x := by unfold admStepR; rw [if_neg h]
theorem admStepR_place (p : Place) : ∀ (ts : List Trace) (x : Admit), x.place = p → (ts.foldl (admStepR p) x).place = p
  | [], x, h => h
  | t :: ts, x, h => by
    rw [List.foldl_cons]
    refine admStepR_place p ts _ ?_
    unfold admStepR
    split
    · rfl
    · exact h
set_option maxHeartbeats 4000000 in
set_option maxRecDepth 100000 in
theorem rmovable_any (A : Option Addr) (n c : Nat) (ts : List Trace) (w : World) (hl : Rd encTrace 10 w A n c ts) (hn : n ≤ 100000) :
    Calls Tryz.prog 84 #[.slice A n c] w fun e w' => ∃ A' c', e = .returned (.slice A' (admitsOf ts).length c') ∧ Rd encAdmit 4 w' A' (admitsOf ts).length c' (admitsOf ts) ∧ Below w.heap.size w w' := by
  have hnl := Lib.hid hl.len
  have HL := Lib.hid hl
  clear hl
  go_enter Tryz.func84, Tryz.ntmps84
  go_wp2
  go_loopw [3, 4] (fun s3 s4 wr => ∃ (i : Nat) (A' : Option Addr) (c' : Nat) (xs : List Place), i ≤ n ∧ s3 = .slice A' xs.length c' ∧ s4 = .int .i64 i ∧ Hid (Below w.heap.size w wr) ∧ Hid ((movedPl (ts.take i)).foldl putPl [] = xs) ∧ Hid (Rd encPlace 2 wr A' xs.length c' xs) ∧ xs.length ≤ i) (fun _ s4 _ => n - (intOf s4).toNat)
  case atStart => exact ⟨0, none, 0, [], Nat.zero_le _, rfl, rfl, (show Below _ _ _ from Below.refl _ _), (show _ = _ from rfl), (show Rd _ _ _ _ _ _ _ from Rd.none_ _ _ (by omega)), by simp⟩
  case round =>
    rename World => wo
    obtain ⟨i, A', c', xs, hi, rfl, rfl, hbl, hxs, hR, hxl⟩ := hrel
    have hzr := hbl.out.size
    by_cases hlt : i < n
    · obtain ⟨b, off, x, rfl, hbw, hx, hcell⟩ := (HL.out.below hbl.out (Nat.le_refl _)).one hlt
      have c0 : wo.cell? ⟨b, off + i * 10, none⟩ = some (.int .i64 x.id) := hcell 0 _ rfl
      have c1 : wo.cell? ⟨b, off + i * 10 + 1, none⟩ = some (.int .i64 x.known) := hcell 1 _ rfl
      have c2 : wo.cell? ⟨b, off + i * 10 + 2, none⟩ = some (.int .u8 x.kind) := hcell 2 _ rfl
      have c3 : wo.cell? ⟨b, off + i * 10 + 3, none⟩ = some (.int .i64 x.pit) := hcell 3 _ rfl
      have c4 : wo.cell? ⟨b, off + i * 10 + 4, none⟩ = some (.int .i64 x.layer) := hcell 4 _ rfl
      have c5 : wo.cell? ⟨b, off + i * 10 + 5, none⟩ = some (.int .i64 x.lower) := hcell 5 _ rfl
      have c6 : wo.cell? ⟨b, off + i * 10 + 6, none⟩ = some (.int .i64 x.low) := hcell 6 _ rfl
      have c7 : wo.cell? ⟨b, off + i * 10 + 7, none⟩ = some (.int .i64 x.high) := hcell 7 _ rfl
      have c8 : wo.cell? ⟨b, off + i * 10 + 8, none⟩ = some (.int .i64 x.cost) := hcell 8 _ rfl
      have c9 : wo.cell? ⟨b, off + i * 10 + 9, none⟩ = some (.int .i64 x.void) := hcell 9 _ rfl
      have SN : Hid ((movedPl (ts.take (i + 1))).foldl putPl [] = if x.kind = 3 then putPl xs ⟨x.pit, x.layer⟩ else xs) := (show _ = _ by
        rw [List.take_add_one, hx, Option.toList_some]
        unfold movedPl at hxs ⊢
        rw [List.filter_append, List.map_append, List.foldl_append, hxs.out]
        by_cases h3 : x.kind = 3
        · rw [if_pos h3, List.filter_cons_of_pos (by simpa using h3)]; rfl
        · rw [if_neg h3, List.filter_cons_of_neg (by simpa using h3)]; rfl)
      clear hcell hx
      rcases two_ x.kind 3 with ⟨k1, k2, k3⟩ | ⟨k1, k2, k3⟩
      all_goals
        have K1 := Lib.hid k1
        clear k1
      · go_upto_region 6 with (fail)
        go_region_with (go_at_call 129; (with_reducible refine (rPut_any A' xs.length c' xs ⟨x.pit, x.layer⟩ wo.drew hR.out.drew (by omega)).mono ?_); rintro e w2 ⟨A2, c2', rfl, hR2, hb2⟩
                        have HR2 := Lib.hid hR2
                        have HB2 := Lib.hid (hbl.out.drew.trans (hb2.mono hzr))
                        clear hR2 hb2)
        all_goals
          go_wp2
          go_roundw
        all_goals first
          | (simp [intOf]; omega)
          | exact ⟨i + 1, A2, c2', putPl xs ⟨x.pit, x.layer⟩, by omega, rfl, by go_num, HB2.out, (show _ = _ by rw [SN.out, if_pos K1.out]), HR2.out, by have := putPl_len xs ⟨x.pit, x.layer⟩; omega⟩
      · go_wp2
        go_roundw
        all_goals first
          | (simp [intOf]; omega)
          | exact ⟨i + 1, A', c', xs, by omega, rfl, by go_num, hbl.out, (show _ = _ by rw [SN.out, if_neg K1.out]), hR.out, by omega⟩
    · have hin : i = n := by omega
      subst hin
      have hads : Hid (admitsOf ts = xs.map (admR ts)) := (show _ = _ by
        have h1 := hxs.out
        rw [List.take_of_length_le (by rw [hnl.out]; exact Nat.le_refl _)] at h1
        rw [admitsOf_eq, h1])
      clear hxs
      go_wp2
      go_loopw [5, 6] (fun s5 s6 wr => ∃ (k : Nat) (A2 : Option Addr) (c2 : Nat) (ys : List Admit), k ≤ xs.length ∧ s5 = .slice A2 ys.length c2 ∧ s6 = .int .i64 k ∧ Hid (Below wo.heap.size wo wr) ∧ Hid ((xs.take k).map (admR ts) = ys) ∧ Hid (Own encAdmit 4 96 wo.heap.size wr A2 ys.length c2 ys)) (fun _ s6 _ => xs.length - (intOf s6).toNat)
      case atStart => exact ⟨0, none, 0, [], Nat.zero_le _, rfl, rfl, (show Below _ _ _ from Below.refl _ _), (show _ = _ from rfl), (show Own _ _ _ _ _ _ _ _ _ from Own.none_ _ _ _ _ _)⟩
      case round =>
        rename World => wp
        obtain ⟨k, A2, c2, ys, hk, rfl, rfl, hbk, hys, hO⟩ := hrel
        have hzk := hbk.out.size
        by_cases hlt2 : k < xs.length
        · obtain ⟨b2, off2, p, rfl, hbw2, hp, hcell⟩ := (hR.out.below hbk.out (Nat.le_refl _)).one hlt2
          have p0 : wp.cell? ⟨b2, off2 + k * 2, none⟩ = some (.int .i64 p.pit) := hcell 0 _ rfl
          have p1 : wp.cell? ⟨b2, off2 + k * 2 + 1, none⟩ = some (.int .i64 p.layer) := hcell 1 _ rfl
          have hyl : ys.length ≤ 100000 := (by have h1 := hys.out; rw [← h1, List.length_map, List.length_take]; omega)
          have SN : Hid ((xs.take (k + 1)).map (admR ts) = ys ++ [admR ts p]) := (show _ = _ by rw [List.take_add_one, hp, Option.toList_some, List.map_append, hys.out]; rfl)
          have HPX := Lib.hid hp
          clear hcell hp
          go_wp2
          have hb0 : Below wo.heap.size wo (wp.alloc (.cells #[.int .i64 p.pit, .int .i64 p.layer, .int .i64 0, .int .i64 0] 96)) := hbk.out.alloc hzk _
          have hA0 : AdmAt (wp.alloc (.cells #[.int .i64 p.pit, .int .i64 p.layer, .int .i64 0, .int .i64 0] 96)) wp.heap.size p ⟨p, 0, 0⟩ := ⟨heap_alloc_new wp _⟩
          have hO0 := hO.out.alloc (.cells #[.int .i64 p.pit, .int .i64 p.layer, .int .i64 0, .int .i64 0] 96)
          have hne : Hid (A2 = none ∨ blockOf A2 ≠ some wp.heap.size) := (show A2 = none ∨ blockOf A2 ≠ some wp.heap.size by
            rcases hO.out.form with ⟨e, _⟩ | ⟨g, rfl, _, hg⟩
            · exact .inl e
            · right; intro e; simp [blockOf] at e; omega)
          have hpe : Hid (∀ W, Below wo.heap.size wo W → W.cell? ⟨b2, off2 + k * 2, none⟩ = some (.int .i64 p.pit) ∧ W.cell? ⟨b2, off2 + k * 2 + 1, none⟩ = some (.int .i64 p.layer)) := (show ∀ W, Below wo.heap.size wo W → W.cell? ⟨b2, off2 + k * 2, none⟩ = some (.int .i64 p.pit) ∧ W.cell? ⟨b2, off2 + k * 2 + 1, none⟩ = some (.int .i64 p.layer) from fun W h => by
            obtain ⟨b3, off3, q, e, hb3, hq, hc3⟩ := (hR.out.below h (Nat.le_refl _)).one hlt2
            cases e
            have hq' : xs[k]? = some p := HPX.out
            rw [hq] at hq'
            cases hq'
            exact ⟨hc3 0 _ rfl, hc3 1 _ rfl⟩)
          have HB0 := Lib.hid hb0
          have HA0 := Lib.hid hA0
          have HO0 := Lib.hid hO0
          have hgs : wo.heap.size ≤ wp.heap.size := hzk
          clear hb0 hA0 hO0 p0 p1
          go_loopw [8] (fun s8 wr => ∃ (q : Nat) (y : Admit), q ≤ i ∧ s8 = .int .i64 q ∧ Hid (Below wo.heap.size wo wr) ∧ Hid ((ts.take q).foldl (admStepR p) ⟨p, 0, 0⟩ = y) ∧ Hid (AdmAt wr wp.heap.size p y) ∧ Hid (Own encAdmit 4 96 wo.heap.size wr A2 ys.length c2 ys)) (fun s8 _ => i - (intOf s8).toNat)
          case atStart => exact ⟨0, ⟨p, 0, 0⟩, Nat.zero_le _, rfl, HB0, (show _ = _ from rfl), HA0, HO0⟩
          case round =>
            obtain ⟨q, y, hq, rfl, hbq, hyq, hAq, hOq⟩ := hrel
            have hzq := hbq.out.size
            have hgl : wp.heap.size < wr.heap.size := (Array.getElem?_eq_some_iff.1 hAq.out.at_).1
            obtain ⟨a0, a1, a2, a3, f2, f3⟩ := hAq.out.cell
            by_cases hlt3 : q < i
            · obtain ⟨b, off, x, rfl, hbw, hx, hcell⟩ := (HL.out.below (hbl.out.trans (hbq.out.mono hzr)) (Nat.le_refl _)).one hlt3
              have c0 : wr.cell? ⟨b, off + q * 10, none⟩ = some (.int .i64 x.id) := hcell 0 _ rfl
              have c1 : wr.cell? ⟨b, off + q * 10 + 1, none⟩ = some (.int .i64 x.known) := hcell 1 _ rfl
              have c2 : wr.cell? ⟨b, off + q * 10 + 2, none⟩ = some (.int .u8 x.kind) := hcell 2 _ rfl
              have c3 : wr.cell? ⟨b, off + q * 10 + 3, none⟩ = some (.int .i64 x.pit) := hcell 3 _ rfl
              have c4 : wr.cell? ⟨b, off + q * 10 + 4, none⟩ = some (.int .i64 x.layer) := hcell 4 _ rfl
              have c5 : wr.cell? ⟨b, off + q * 10 + 5, none⟩ = some (.int .i64 x.lower) := hcell 5 _ rfl
              have c6 : wr.cell? ⟨b, off + q * 10 + 6, none⟩ = some (.int .i64 x.low) := hcell 6 _ rfl
              have c7 : wr.cell? ⟨b, off + q * 10 + 7, none⟩ = some (.int .i64 x.high) := hcell 7 _ rfl
              have c8 : wr.cell? ⟨b, off + q * 10 + 8, none⟩ = some (.int .i64 x.cost) := hcell 8 _ rfl
              have c9 : wr.cell? ⟨b, off + q * 10 + 9, none⟩ = some (.int .i64 x.void) := hcell 9 _ rfl
              obtain ⟨p0, p1⟩ := hpe.out wr hbq.out
              have hb2w : b2 < wr.heap.size := (by omega)
              obtain ⟨bb, oo, eb, hbb, _⟩ := HL.out.at_ (show 0 < i by omega)
              cases eb
              have hbg : ¬ b = wp.heap.size := (by omega)
              have hbg2 : ¬ wp.heap.size = b := (by omega)
              have SQ : Hid ((ts.take (q + 1)).foldl (admStepR p) ⟨p, 0, 0⟩ = admStepR p y x) := (show _ = _ by rw [List.take_add_one, hx, Option.toList_some, List.foldl_append, hyq.out]; rfl)
              clear hcell hx
              rcases two_ x.kind 3 with ⟨k1, k2, k3⟩ | ⟨k1, k2, k3⟩
              all_goals
                have K1 := Lib.hid k1
                clear k1
              · rcases two_ x.pit p.pit with ⟨v1, v2, v3⟩ | ⟨v1, v2, v3⟩
                all_goals
                  have V1 := Lib.hid v1
                  clear v1
                · rcases two_ x.layer p.layer with ⟨u1, u2, u3⟩ | ⟨u1, u2, u3⟩
                  all_goals
                    have U1 := Lib.hid u1
                    clear u1
                  · go_wp2_with (go_quiet (fail))
                    go_roundw
                    all_goals first
                      | (simp [intOf]; omega)
                      | (refine ⟨q + 1, ⟨p, x.cost, x.id⟩, by omega, by go_num, ?_, (show _ = _ by rw [SQ.out, admStepR_yes K1.out V1.out U1.out]), ?_, ?_⟩
                         · exact (show Below _ _ _ from ((below_drewN' hbq.out _).setCell (p := ⟨wp.heap.size, 2, none⟩) hgs _).setCell (p := ⟨wp.heap.size, 3, none⟩) hgs _)
                         · exact (show AdmAt _ _ _ _ from ⟨by rw [heap_setCell_obj (heap_setCell_obj (show (wr.drewN _).heap[wp.heap.size]? = _ from hAq.out.at_))]; rfl⟩)
                         · exact (show Own _ _ _ _ _ _ _ _ _ from ((hOq.out.drewN _).kept (grownBy_setCell' _ _ _ _) hne.out).kept (grownBy_setCell' _ _ _ _) hne.out))
                  · go_wp2_with (go_quiet (fail))
                    go_roundw
                    all_goals first
                      | (simp [intOf]; omega)
                      | exact ⟨q + 1, y, by omega, by go_num, (show Below _ _ _ from below_drewN' hbq.out _), (show _ = _ by rw [SQ.out, admStepR_no (fun h => U1.out h.2.2)]), (show AdmAt _ _ _ _ from ⟨hAq.out.at_⟩), (show Own _ _ _ _ _ _ _ _ _ from hOq.out.drewN _)⟩
                · go_wp2_with (go_quiet (fail))
                  go_roundw
                  all_goals first
                    | (simp [intOf]; omega)
                    | exact ⟨q + 1, y, by omega, by go_num, (show Below _ _ _ from below_drewN' hbq.out _), (show _ = _ by rw [SQ.out, admStepR_no (fun h => V1.out h.2.1)]), (show AdmAt _ _ _ _ from ⟨hAq.out.at_⟩), (show Own _ _ _ _ _ _ _ _ _ from hOq.out.drewN _)⟩
              · go_wp2_with (go_quiet (fail))
                go_roundw
                all_goals first
                  | (simp [intOf]; omega)
                  | exact ⟨q + 1, y, by omega, by go_num, (show Below _ _ _ from below_drewN' hbq.out _), (show _ = _ by rw [SQ.out, admStepR_no (fun h => K1.out h.1)]), (show AdmAt _ _ _ _ from ⟨hAq.out.at_⟩), (show Own _ _ _ _ _ _ _ _ _ from hOq.out.drewN _)⟩
            · have hqi : q = i := by omega
              subst hqi
              have hyf : Hid (admR ts p = y) := (show _ = _ by
                have h1 := hyq.out
                rwa [List.take_of_length_le (by rw [hnl.out]; exact Nat.le_refl _)] at h1)
              have hyp : Hid (y.place = p) := (show _ = _ by rw [← hyf.out]; exact admStepR_place p ts _ rfl)
              have hO5 := hOq.out.alloc (.cells #[.int .i64 p.pit, .int .i64 p.layer, .int .i64 y.cost, .int .i64 y.by_] 96)
              have hrd5 := Rd.single (enc := encAdmit) (k := 4) wr #[.int .i64 p.pit, .int .i64 p.layer, .int .i64 y.cost, .int .i64 y.by_] 96 [y] 1 rfl (by omega) (fun _ => rfl) (by simp [encAdmit, hyp.out])
              have HB5 := Lib.hid (hbq.out.alloc hzq (.cells #[.int .i64 p.pit, .int .i64 p.layer, .int .i64 y.cost, .int .i64 y.by_] 96))
              go_wp2_with (at_builtin; refine wpList_append_src elAdmit (fun _ => rfl) oneAdmit rfl _ _ rfl _ _ _ _ rfl rfl hO5 hrd5 (by omega) (by decide) (by simp; omega) ?_; intro A6 c6 w6 hO6 hg6 hA6
                           have HB6 := Lib.hid (HB5.out.grown hg6 (by simp; omega) (fun j e => hO5.ltB j e))
                           have HO6 := Lib.hid hO6
                           clear hO6 hg6 hA6)
              go_roundw
              all_goals first
                | (simp [intOf]; omega)
                | exact ⟨k + 1, A6, c6, ys ++ [y], by omega, by simp, by go_num, HB6.out, (show _ = _ by rw [SN.out, hyf.out]), (show Own _ _ _ _ _ _ _ _ _ by rw [List.length_append]; exact HO6.out)⟩
        · have hkx : k = xs.length := by omega
          subst hkx
          have hfin : Hid (admitsOf ts = ys) := (show _ = _ by
            have h1 := hys.out
            rw [List.take_of_length_le (Nat.le_refl _)] at h1
            rw [hads.out, h1])
          have hyl : ys.length ≤ 100000 := (by have h1 := hys.out; rw [← h1, List.length_map, List.length_take]; omega)
          go_wp2
          go_ret
          exact ⟨A2, c2, by rw [hfin.out]; rfl, by rw [hfin.out]; exact hO.out.rd (fun _ => rfl) (by omega), hbl.out.trans (hbk.out.mono hzr)⟩
end Go.Proofs.YtelnkflmnbhclaaGreat
end

/- What is proved: the contracts of the reference's Asked, Places and Movable: what the program's say. Conditions: none. -/
section
namespace Go.Proofs.YtelnkflmnbhclaaGreat
open Go.RowKit Go.Proofs Go.Shelf

theorem askErr_cases (l : List Trace) (known : Int) (bs : List Bond) : ((check l).2 ≠ 0 ∧ askErr l known bs = (check l).2) ∨ ((check l).2 = 0 ∧ checkBonds bs ≠ 0 ∧ askErr l known bs = checkBonds bs) ∨
    ((check l).2 = 0 ∧ checkBonds bs = 0 ∧ 50 < (placesOf (counting l known) bs).length ∧ askErr l known bs = 2) ∨ ((check l).2 = 0 ∧ checkBonds bs = 0 ∧ (placesOf (counting l known) bs).length ≤ 50 ∧ 8 < (admitsOf (counting l known)).length ∧ askErr l known bs = 2) ∨
    ((check l).2 = 0 ∧ checkBonds bs = 0 ∧ (placesOf (counting l known) bs).length ≤ 50 ∧ (admitsOf (counting l known)).length ≤ 8 ∧ askErr l known bs = 0) := by
  have e1 : (placesOf (counting l known) bs).length = (uniq (placeList (counting l known) bs)).length := (sortPl_perm _).length_eq
  have e2 : (admitsOf (counting l known)).length = (admitM (counting l known)).length := by rw [admitsOf_len, (sortPl_perm _).length_eq, List.length_map]
  unfold askErr
  rw [← e1, ← e2]
  by_cases h1 : (check l).2 = 0
  · rw [if_neg (by simpa using h1)]
    by_cases h2 : checkBonds bs = 0
    · rw [if_neg (by simpa using h2)]
      by_cases h3 : 50 < (placesOf (counting l known) bs).length
      · rw [if_pos (.inl h3)]; exact .inr (.inr (.inl ⟨h1, h2, h3, rfl⟩))
      · by_cases h4 : 8 < (admitsOf (counting l known)).length
        · rw [if_pos (.inr h4)]; exact .inr (.inr (.inr (.inl ⟨h1, h2, by omega, h4, rfl⟩)))
        · rw [if_neg (by omega)]; exact .inr (.inr (.inr (.inr ⟨h1, h2, by omega, by omega, rfl⟩)))
    · rw [if_pos h2]; exact .inr (.inl ⟨h1, h2, rfl⟩)
  · rw [if_pos h1]; exact .inl ⟨h1, rfl⟩
set_option maxHeartbeats 2000000 in
set_option maxRecDepth 100000 in
theorem rAsked_any (A : Option Addr) (n c : Nat) (l : List Trace) (known : Int) (B : Option Addr) (m d : Nat) (bs : List Bond) (w : World) (hl : Rd encTrace 10 w A n c l) (hb : Rd encBond 5 w B m d bs) :
    Calls Tryz.prog 80 #[.slice A n c, .int .i64 known, .slice B m d] w fun e w' => e = .returned (.int .i64 (askErr l known bs)) ∧ Below w.heap.size w w' := by
  have HL := Lib.hid hl
  have HB := Lib.hid hb
  have HC := Lib.hid (rCheck_any A n c l w hl)
  clear hl hb
  rcases askErr_cases l known bs with ⟨h1, hv⟩ | ⟨h1, h2, hv⟩ | ⟨h1, h2, h3, hv⟩ | ⟨h1, h2, h3, h4, hv⟩ | ⟨h1, h2, h3, h4, hv⟩
  · rw [hv]
    have h1' := neBool h1
    have h1'' : ((check l).2 == 0) = false := beq_eq_false_iff_ne.2 h1
    clear hv
    go_enter Tryz.func80, Tryz.ntmps80
    go_wp2_with (go_at_call 43; (with_reducible refine HC.out.mono ?_); rintro e w2 ⟨rfl, hb2⟩; have HB2 := Lib.hid hb2; clear hb2)
    go_ret
    exact ⟨rfl, HB2.out⟩
  · rw [hv]
    rw [h1] at HC
    have h2' := neBool h2
    clear hv h1
    obtain ⟨cb, hcb⟩ : ∃ cb, checkBonds bs = cb := ⟨_, rfl⟩
    rw [hcb] at h2' ⊢
    have HCB := Lib.hid hcb
    clear h2 hcb
    go_enter Tryz.func80, Tryz.ntmps80
    go_wp2_with (first
      | (go_at_call 43; (with_reducible refine HC.out.mono ?_); rintro e w2 ⟨rfl, hb2⟩
         have HK := Lib.hid (rCheckBonds_any B m d bs w2 (HB.out.below hb2 (Nat.le_refl _)))
         rw [HCB.out] at HK
         have HB2 := Lib.hid hb2
         clear hb2)
      | (go_at_call 51; (with_reducible refine HK.out.mono ?_); rintro e w3 ⟨rfl, hb3⟩
         have HB3 := Lib.hid (HB2.out.trans (hb3.mono HB2.out.size))
         clear hb3))
    go_ret
    exact ⟨rfl, HB3.out⟩
  all_goals
    rw [hv]
    rw [h1] at HC
    have hs1 := check_small h1
    have hs2 := checkBonds_small h2
    have hln := HL.out.len
    have hbn := HB.out.len
    have hn1 : n ≤ 140 := by omega
    have hm1 : m ≤ 60 := by omega
    have hcl : (counting l known).length ≤ 140 := Nat.le_trans (List.length_filter_le _ _) hs1
    have HCB := Lib.hid h2
    clear hv h1 h2 hs1 hs2 hln hbn
    obtain ⟨ts, hts⟩ : ∃ ts, counting l known = ts := ⟨_, rfl⟩
    have HTS := Lib.hid hts
    rw [hts] at h3 hcl
    (first | rw [hts] at h4 | skip)
    clear hts
    go_enter Tryz.func80, Tryz.ntmps80
    go_wp2_with (first
      | (go_at_call 43; (with_reducible refine HC.out.mono ?_); rintro e w2 ⟨rfl, hb2⟩
         have HK := Lib.hid (rCheckBonds_any B m d bs w2 (HB.out.below hb2 (Nat.le_refl _)))
         rw [HCB.out] at HK
         have HB2 := Lib.hid hb2
         clear hb2)
      | (go_at_call 51; (with_reducible refine HK.out.mono ?_); rintro e w3 ⟨rfl, hb3⟩
         have HB3 := Lib.hid (HB2.out.trans (hb3.mono HB2.out.size))
         have HK2 := Lib.hid (rcounting_any A n c l known w3 (HL.out.below HB3.out (Nat.le_refl _)) (by omega))
         rw [HTS.out] at HK2
         clear hb3)
      | (go_at_call 83; (with_reducible refine HK2.out.mono ?_); rintro e w4 ⟨A4, m4, c4, rfl, hO4, hb4⟩
         have HB4 := Lib.hid (HB3.out.trans (hb4.mono HB3.out.size))
         have hm4 := hO4.len
         have HR4 := Lib.hid (hO4.rd (fun _ => rfl) (by omega))
         have hm5 : m4 ≤ 140 := (by omega)
         have HK3 := Lib.hid (rplaces_any A4 m4 c4 ts B m d bs w4 HR4.out (HB.out.below HB4.out (Nat.le_refl _)) (by omega) (by omega))
         clear hb4 hO4 hm4)
      | (go_at_call 82; (with_reducible refine HK3.out.mono ?_); rintro e w5 ⟨A5, c5, rfl, hR5, hb5⟩
         have HB5 := Lib.hid (HB4.out.trans (hb5.mono HB4.out.size))
         have HK4 := Lib.hid (rmovable_any A4 m4 c4 ts w5 (HR4.out.below hb5 (Nat.le_refl _)) (by omega))
         clear hb5 hR5)
      | (go_at_call 84; (with_reducible refine HK4.out.mono ?_); rintro e w6 ⟨A6, c6, rfl, hR6, hb6⟩
         have HB6 := Lib.hid (HB5.out.trans (hb6.mono HB5.out.size))
         clear hb6 hR6))
    go_ret
    first
      | exact ⟨rfl, HB6.out⟩
      | exact ⟨rfl, HB5.out⟩
end Go.Proofs.YtelnkflmnbhclaaGreat
end

/- What is proved: the contracts of the reference's Places and Movable, of Sets, and of the law's moderate. Conditions: none. -/
section
namespace Go.Proofs.YtelnkflmnbhclaaGreat
open Go.RowKit Go.Proofs Go.Shelf

theorem onOk_zero {α : Type} (xs : List α) : onOk 0 xs = xs := by unfold onOk; rw [if_pos rfl]
theorem onOk_err {α : Type} {e : Int} (h : e ≠ 0) (xs : List α) : onOk e xs = [] := by unfold onOk; rw [if_neg h]
set_option maxHeartbeats 2000000 in
theorem rPlaces_any (A : Option Addr) (n c : Nat) (l : List Trace) (known : Int) (B : Option Addr) (m d : Nat) (bs : List Bond) (w : World) (hl : Rd encTrace 10 w A n c l) (hb : Rd encBond 5 w B m d bs) :
    Calls Tryz.prog 27 #[.slice A n c, .int .i64 known, .slice B m d] w fun e w' => ∃ A' n' c', e = .returned (.tuple #[.slice A' n' c', .int .i64 (askErr l known bs)]) ∧ Below w.heap.size w w' ∧
      Rd encPlace 2 w' A' n' c' (onOk (askErr l known bs) (placesOf (counting l known) bs)) := by
  have HL := Lib.hid hl
  have HB := Lib.hid hb
  have HA := Lib.hid (rAsked_any A n c l known B m d bs w hl hb)
  clear hl hb
  by_cases he : askErr l known bs = 0
  · have hs := askErr_sizes he
    obtain ⟨o1, o2, o3, o4, o5⟩ := okO_of he
    have hck : (check l).2 = 0 := by rcases askErr_cases l known bs with ⟨h, h'⟩ | ⟨h, _⟩ | ⟨h, _⟩ | ⟨h, _⟩ | ⟨h, _⟩ <;> first | exact h | exact absurd (h'.symm.trans he) h
    have hs1 := check_small hck
    have hln := HL.out.len
    have hbn := HB.out.len
    rw [he] at HA
    rw [he, onOk_zero]
    clear he hck hs o1 o2
    go_enter Tryz.func27, Tryz.ntmps27
    go_wp2_with (first
      | (go_at_call 80; (with_reducible refine HA.out.mono ?_); rintro e w2 ⟨rfl, hb2⟩
         have HB2 := Lib.hid hb2
         have HK2 := Lib.hid (rcounting_any A n c l known w2 (HL.out.below HB2.out (Nat.le_refl _)) (by omega))
         clear hb2)
      | (go_at_call 83; (with_reducible refine HK2.out.mono ?_); rintro e w4 ⟨A4, m4, c4, rfl, hO4, hb4⟩
         have HB4 := Lib.hid (HB2.out.trans (hb4.mono HB2.out.size))
         have hm4 := hO4.len
         have HR4 := Lib.hid (hO4.rd (fun _ => rfl) (by omega))
         have HK3 := Lib.hid (rplaces_any A4 m4 c4 (counting l known) B m d bs w4 HR4.out (HB.out.below HB4.out (Nat.le_refl _)) (by omega) (by omega))
         clear hb4 hO4 hm4)
      | (go_at_call 82; (with_reducible refine HK3.out.mono ?_); rintro e w5 ⟨A5, c5, rfl, hR5, hb5⟩
         have HB5 := Lib.hid (HB4.out.trans (hb5.mono HB4.out.size))
         have HR5 := Lib.hid hR5
         clear hb5 hR5))
    go_ret2
    exact ⟨A5, _, c5, rfl, HB5.out, HR5.out⟩
  · have he' := neBool he
    rw [onOk_err he]
    go_enter Tryz.func27, Tryz.ntmps27
    go_wp2_with (go_at_call 80; (with_reducible refine HA.out.mono ?_); rintro e w2 ⟨rfl, hb2⟩; have HB2 := Lib.hid hb2; clear hb2)
    go_ret2
    exact ⟨none, 0, 0, rfl, HB2.out, Rd.none_ _ _ (by omega)⟩
set_option maxHeartbeats 2000000 in
theorem rMovable_any (A : Option Addr) (n c : Nat) (l : List Trace) (known : Int) (B : Option Addr) (m d : Nat) (bs : List Bond) (w : World) (hl : Rd encTrace 10 w A n c l) (hb : Rd encBond 5 w B m d bs) :
    Calls Tryz.prog 28 #[.slice A n c, .int .i64 known, .slice B m d] w fun e w' => ∃ A' n' c', e = .returned (.tuple #[.slice A' n' c', .int .i64 (askErr l known bs)]) ∧ Below w.heap.size w w' ∧
      Rd encAdmit 4 w' A' n' c' (onOk (askErr l known bs) (admitsOf (counting l known))) := by
  have HL := Lib.hid hl
  have HB := Lib.hid hb
  have HA := Lib.hid (rAsked_any A n c l known B m d bs w hl hb)
  clear hl hb
  by_cases he : askErr l known bs = 0
  · have hs := askErr_sizes he
    obtain ⟨o1, o2, o3, o4, o5⟩ := okO_of he
    have hck : (check l).2 = 0 := by rcases askErr_cases l known bs with ⟨h, h'⟩ | ⟨h, _⟩ | ⟨h, _⟩ | ⟨h, _⟩ | ⟨h, _⟩ <;> first | exact h | exact absurd (h'.symm.trans he) h
    have hs1 := check_small hck
    have hln := HL.out.len
    have hbn := HB.out.len
    rw [he] at HA
    rw [he, onOk_zero]
    clear he hck hs o1 o2
    go_enter Tryz.func28, Tryz.ntmps28
    go_wp2_with (first
      | (go_at_call 80; (with_reducible refine HA.out.mono ?_); rintro e w2 ⟨rfl, hb2⟩
         have HB2 := Lib.hid hb2
         have HK2 := Lib.hid (rcounting_any A n c l known w2 (HL.out.below HB2.out (Nat.le_refl _)) (by omega))
         clear hb2)
      | (go_at_call 83; (with_reducible refine HK2.out.mono ?_); rintro e w4 ⟨A4, m4, c4, rfl, hO4, hb4⟩
         have HB4 := Lib.hid (HB2.out.trans (hb4.mono HB2.out.size))
         have hm4 := hO4.len
         have HR4 := Lib.hid (hO4.rd (fun _ => rfl) (by omega))
         have HK3 := Lib.hid (rmovable_any A4 m4 c4 (counting l known) w4 HR4.out (by omega))
         clear hb4 hO4 hm4)
      | (go_at_call 84; (with_reducible refine HK3.out.mono ?_); rintro e w5 ⟨A5, c5, rfl, hR5, hb5⟩
         have HB5 := Lib.hid (HB4.out.trans (hb5.mono HB4.out.size))
         have HR5 := Lib.hid hR5
         clear hb5 hR5))
    go_ret2
    exact ⟨A5, _, c5, rfl, HB5.out, HR5.out⟩
  · have he' := neBool he
    rw [onOk_err he]
    go_enter Tryz.func28, Tryz.ntmps28
    go_wp2_with (go_at_call 80; (with_reducible refine HA.out.mono ?_); rintro e w2 ⟨rfl, hb2⟩; have HB2 := Lib.hid hb2; clear hb2)
    go_ret2
    exact ⟨none, 0, 0, rfl, HB2.out, Rd.none_ _ _ (by omega)⟩
def SomeB (w : World) (e : Ending) (w' : World) : Prop := ∃ b : Bool, e = .returned (.bool b) ∧ Below w.heap.size w w'
set_option maxHeartbeats 2000000 in
theorem moderate_any (A : Option Addr) (n c : Nat) (l : List Trace) (known : Int) (B : Option Addr) (m d : Nat) (bs : List Bond) (M : Option Addr) (mn mc : Nat) (w : World) (hl : Rd encTrace 10 w A n c l) (hb : Rd encBond 5 w B m d bs) :
    Calls Tryz.prog 24 #[.slice A n c, .int .i64 known, .slice B m d, .slice M mn mc] w (SomeB w) := by
  have HM := Lib.hid (rMovable_any A n c l known B m d bs w hl hb)
  clear hl hb
  generalize askErr l known bs = er at HM
  go_enter Tryz.func24, Tryz.ntmps24
  go_wp2_with (go_at_call 28; (with_reducible refine HM.out.mono ?_); rintro e w2 ⟨A2, n2, c2, rfl, hb2, _⟩; have HB2 := Lib.hid hb2; clear hb2)
  all_goals go_ret
  all_goals exact ⟨_, rfl, HB2.out⟩
end Go.Proofs.YtelnkflmnbhclaaGreat
end

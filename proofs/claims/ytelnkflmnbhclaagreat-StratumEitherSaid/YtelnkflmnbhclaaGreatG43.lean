/- What is proved: the numbers of a circle are bounds of the system; the contract of Conflict. Conditions: none. -/
import Derived.Test.YtelnkflmnbhclaaGreatG38
import Derived.Test.YtelnkflmnbhclaaGreatG39
import Derived.Test.YtelnkflmnbhclaaGreatG42
namespace Go.Proofs.YtelnkflmnbhclaaGreat
open Go.RowKit Go.Proofs Go.Shelf

theorem backTo_len (bs : List Bound) (last : List Row) : ∀ k p, (backTo bs last k p).length = k - 1
  | 0, _ => rfl
  | 1, _ => rfl
  | k + 2, p => by
    have ih := backTo_len bs last (k + 1) (bs.getD (rAt (last.getD (k + 1) []) p).toNat default).src
    rw [backTo, List.length_cons, ih]; omega
theorem backTo_ok {pts : Int} {bs : List Bound} (hok : SysOk pts bs) {last : List Row} (hl : LastOk bs last) : ∀ k, k ≤ last.length → ∀ p : Int, 0 ≤ p → p < 60 → ∀ i ∈ backTo bs last k p, 0 ≤ i ∧ i < bs.length
  | 0, _, _, _, _, i, hi => by simp [backTo] at hi
  | 1, _, _, _, _, i, hi => by simp [backTo] at hi
  | k + 2, hk, p, h1, h2, i, hi => by
    rw [backTo] at hi
    have hm : last.getD (k + 1) [] ∈ last := by rw [List.getD_eq_getElem?_getD, List.getElem?_eq_getElem (by omega)]; exact List.getElem_mem _
    obtain ⟨_, hv⟩ := hl _ hm
    have hv' := hv p h1 h2
    have hp := hok.p2
    have hb : bs.getD (rAt (last.getD (k + 1) []) p).toNat default ∈ bs := by rw [List.getD_eq_getElem?_getD, List.getElem?_eq_getElem (by omega)]; exact List.getElem_mem _
    have hbk := hok.b _ hb
    rcases List.mem_cons.1 hi with rfl | hi
    · exact hv'
    · exact backTo_ok hok hl (k + 1) (by omega) _ hbk.1 (by omega) i hi
theorem circleRow_spec {pts : Int} {bs : List Bound} (hok : SysOk pts bs) {m : Nat} : ∀ (ws : List Walks) (p : Nat), (∀ x ∈ ws, WOk bs m x) → p + ws.length ≤ 60 →
    (∀ c, (circleRow bs ws p).2 = some c → c.length = m + 1 ∧ ∀ i ∈ c, 0 ≤ i ∧ i < bs.length) ∧ ((circleRow bs ws p).2 = none → ∀ x ∈ (circleRow bs ws p).1, WOk bs (m + 1) x) ∧ (circleRow bs ws p).1.length = ws.length
  | [], p, _, _ => ⟨fun c h => (by cases h), fun _ x h => (by simp [circleRow] at h), rfl⟩
  | x :: ws, p, hw, hp => by
    have hx := (hw x List.mem_cons_self).longer hok
    simp only [List.length_cons] at hp
    obtain ⟨h1, h2, h3⟩ := circleRow_spec hok ws (p + 1) (fun y hy => hw y (List.mem_cons_of_mem _ hy)) (by omega)
    by_cases h : rAt (x.longer bs).now p < 0
    · rw [circleRow, if_pos h]
      refine ⟨fun c hc => ?_, fun hc => (by cases hc), by simp⟩
      cases hc
      have hne : bs ≠ [] := fun e => by
        rw [Walks.now_longer, e, longerR_nil] at h
        simp only at h
        rw [rAt_empty _ (by omega) (by omega)] at h
        unfold noneV at h; omega
      unfold Walks.back
      refine ⟨by rw [List.length_reverse, backTo_len, hx.l]; omega, fun i hi => ?_⟩
      exact backTo_ok hok (hx.ok hne) _ (Nat.le_refl _) p (by omega) (by omega) i (List.mem_reverse.1 hi)
    · rw [circleRow, if_neg h]
      refine ⟨h1, fun hc y hy => ?_, by simp [h3]⟩
      rcases List.mem_cons.1 hy with rfl | hy
      · exact hx
      · exact h2 hc y hy
theorem circleLoop_spec {pts : Int} {bs : List Bound} (hok : SysOk pts bs) : ∀ (n m : Nat) (all : List Walks), (∀ x ∈ all, WOk bs m x) → all.length ≤ 60 → (circleLoop bs n all).length ≤ m + n ∧ ∀ i ∈ circleLoop bs n all, 0 ≤ i ∧ i < bs.length
  | 0, m, all, _, _ => ⟨by simp [circleLoop], fun i hi => by simp [circleLoop] at hi⟩
  | n + 1, m, all, hw, hl => by
    obtain ⟨h1, h2, h3⟩ := circleRow_spec hok all 0 hw (by omega)
    cases hc : (circleRow bs all 0).2 with
    | some c =>
      obtain ⟨a, b⟩ := h1 c hc
      rw [circleLoop_hit hc]
      exact ⟨by omega, b⟩
    | none =>
      rw [circleLoop_miss (show circleRow bs all 0 = ((circleRow bs all 0).1, none) from by rw [← hc])]
      obtain ⟨a, b⟩ := circleLoop_spec hok n (m + 1) (circleRow bs all 0).1 (h2 hc) (by omega)
      exact ⟨by omega, b⟩
theorem circleX_ok {pts : Int} {bs : List Bound} (hok : SysOk pts bs) : (circleX pts bs).length ≤ 60 ∧ ∀ i ∈ circleX pts bs, 0 ≤ i ∧ i < bs.length := by
  have hp := hok.p2
  have h := circleLoop_spec hok pts.toNat 0 ((List.range pts.toNat).map walks0) (fun x hx => by
    obtain ⟨p, hp, rfl⟩ := List.mem_map.1 hx
    exact WOk.start bs p (by have := List.mem_range.1 hp; omega)) (by simp; omega)
  unfold circleX
  exact ⟨by omega, h.2⟩

def conflictV (l : List Trace) (known : Int) (bs : List Bond) (mv : List Place) : List Link × Bool × Int :=
  if withErr l known bs mv ≠ 0 then ([], false, withErr l known bs mv) else
  (someL (linksL (counting l known) bs mv) (circleX ((placesOf (counting l known) bs).length + 1) (sysOf l known bs mv)), circOk ((placesOf (counting l known) bs).length + 1) (sysOf l known bs mv), 0)

set_option maxRecDepth 100000 in
set_option maxHeartbeats 2000000 in
theorem Conflict_any (A : Option Addr) (n c : Nat) (l : List Trace) (known : Int) (bA : Option Addr) (bn bc : Nat) (bs : List Bond) (M : Option Addr) (mn mc : Nat) (mv : List Place) (w : World) (hl : Rd encTrace 10 w A n c l) (hb : Rd encBond 5 w bA bn bc bs) (hm : Rd encPlace 2 w M mn mc mv) :
    Calls Tryz.prog 58 #[.slice A n c, .int .i64 known, .slice bA bn bc, .slice M mn mc] w fun e w' => ∃ Ad cd, e = .returned (.tuple #[.slice Ad (conflictV l known bs mv).1.length cd, .bool (conflictV l known bs mv).2.1, .int .i64 (conflictV l known bs mv).2.2]) ∧ Below w.heap.size w w' ∧
      Own encLink 6 74 w.heap.size w' Ad (conflictV l known bs mv).1.length cd (conflictV l known bs mv).1 := by
  have hwith := with_any A n c l known bA bn bc bs M mn mc mv w hl hb hm
  have HW := Lib.hid hwith
  clear hwith hl hb hm
  by_cases he : withErr l known bs mv = 0
  · have hO := okO_of (askErr_of_with he)
    have hck := checkSys_years hO mv
    have hv : conflictV l known bs mv = (someL (linksL (counting l known) bs mv) (circleX ((placesOf (counting l known) bs).length + 1) (sysOf l known bs mv)), circOk ((placesOf (counting l known) bs).length + 1) (sysOf l known bs mv), 0) := by unfold conflictV; rw [if_neg (by simpa using he)]
    rw [hv]
    have hsysE : sysOf l known bs mv = (linksL (counting l known) bs mv).map (boundOf (ptsM (placesOf (counting l known) bs) (placesOf (counting l known) bs).length)) := rfl
    rw [← hsysE] at hck
    rw [he] at HW
    have hll := linksL_len (counting l known) bs mv
    have hl1 := hO.tn
    have hl2 := hO.bn
    clear hv he hO
    obtain ⟨ps, hpe⟩ : ∃ ps, placesOf (counting l known) bs = ps := ⟨_, rfl⟩
    obtain ⟨L, hLe⟩ : ∃ L, linksL (counting l known) bs mv = L := ⟨_, rfl⟩
    obtain ⟨S, hSe⟩ : ∃ S, sysOf l known bs mv = S := ⟨_, rfl⟩
    rw [hpe, hLe] at HW
    rw [hSe, hpe, hLe] at hsysE
    rw [hSe, hpe] at hck ⊢
    rw [hLe] at hll ⊢
    have hLn : L.length ≤ 800 := by omega
    clear hpe hLe hSe hll hl1 hl2
    have hcx := circleX_ok (sysOk_of hck)
    have hcir : ∀ (w4 : World) (A4 : Option Addr) (c4 : Nat), Rd encBound 4 w4 A4 L.length c4 (L.map (boundOf (ptsM ps ps.length))) → _ := fun w4 A4 c4 h => by
        rw [← hsysE] at h
        exact Circle_any (ps.length + 1) A4 L.length c4 S w4 h hck
    have hSl : S.length = L.length := (by rw [hsysE, List.length_map])
    rw [hSl] at hcx
    have HCIR := Lib.hid hcir
    clear hcir hck hsysE hSl
    obtain ⟨X, hX⟩ : ∃ X, circleX (ps.length + 1) S = X := ⟨_, rfl⟩
    obtain ⟨ok, hok⟩ : ∃ ok, circOk (ps.length + 1) S = ok := ⟨_, rfl⟩
    rw [hX] at hcx HCIR ⊢
    rw [hok] at HCIR ⊢
    clear hX hok
    have hx60 := hcx.1
    have HCX := Lib.hid hcx.2
    clear hcx
    go_enter Tryz.func58, Tryz.ntmps58
    go_wp2_with (first
      | (go_at_call 85; refine HW.out.mono ?_; rintro e w2 ⟨p, cs, rfl, hb2, _, hp⟩
         obtain ⟨o, rfl, hOr, Ab, cb, Al, cl, mb, rfl, y1, y2, y3, y4⟩ := hp rfl
         obtain ⟨w3, hw3⟩ : ∃ w3, w2.alloc (.cells #[.int .i64 (ps.length + 1), .slice Ab L.length cb, .slice Al L.length cl, .map (some mb)] 120) = w3 := ⟨_, rfl⟩
         have hs2 := HCIR.out w3 Ab cb (by rw [← hw3]; exact (y1.rd (fun _ => rfl) (by omega)).alloc _)
         have hb23 : Below w2.heap.size w2 w3 := (by rw [← hw3]; exact (Below.refl _ w2).alloc (Nat.le_refl _) _)
         have hh3 : w3.heap[w2.heap.size]? = some (.cells #[.int .i64 (ps.length + 1), .slice Ab L.length cb, .slice Al L.length cl, .map (some mb)] 120 (0, 0)) := (by rw [← hw3]; exact heap_alloc_new w2 _)
         have hz3 : w2.heap.size < w3.heap.size := (by rw [← hw3]; simp)
         have HS2 := Lib.hid hs2
         have HB2 := Lib.hid hb2
         have HB23 := Lib.hid hb23
         have HL := Lib.hid ((y2.rd (fun _ => rfl) (by omega)).below hb23 (Nat.le_refl _))
         have HH3 := Lib.hid hh3
         have i0 : w3.cell? ⟨w2.heap.size, 0, none⟩ = some (.int .i64 (ps.length + 1)) := (by simp [World.cell?, hh3])
         have i1 : w3.cell? ⟨w2.heap.size, 1, none⟩ = some (.slice Ab L.length cb) := (by simp [World.cell?, hh3])
         have HW3 := Lib.hid hw3
         clear hs2 y1 y2 y3 y4 hOr hp hb2 hb23 hh3)
      | (go_at_call 111; refine HS2.out.mono ?_; rintro e w4 ⟨A', c', rfl, hb3, hOX⟩
         have hh4 := (hb3.block _ hz3).trans HH3.out
         have i0 : w4.cell? ⟨w2.heap.size, 0, none⟩ = some (.int .i64 (ps.length + 1)) := (by simp [World.cell?, hh4])
         have i1 : w4.cell? ⟨w2.heap.size, 1, none⟩ = some (.slice Ab L.length cb) := (by simp [World.cell?, hh4])
         have i2 : w4.cell? ⟨w2.heap.size, 2, none⟩ = some (.slice Al L.length cl) := (by simp [World.cell?, hh4])
         have i3 : w4.cell? ⟨w2.heap.size, 3, none⟩ = some (.map (some mb)) := (by simp [World.cell?, hh4])
         have HB3 := Lib.hid hb3
         have HSOME := Lib.hid (some_years (ps.length + 1) Ab L.length cb Al cl L (some mb) A' X.length c' X w4 (HL.out.below hb3 (Nat.le_refl _)) (hOX.rd (fun _ => rfl) (by omega)) (by omega) HCX.out)
         clear hb3 hOX hh4)
      | (go_at_call 109; ((with_reducible refine HSOME.out.mono ?_); rintro e w5 ⟨A5, c5, rfl, hb5, hO5⟩)))
    go_ret3
    have hlen : (someL L X).length = X.length := by unfold someL; rw [List.length_map]
    have hbz := HB2.out.size
    have hbz3 := HB3.out.size
    refine ⟨A5, c5, by rw [hlen]; rfl, ((HB2.out.trans (HB23.out.mono hbz)).trans (HB3.out.mono (by omega))).trans (hb5.mono (by omega)), ?_⟩
    rw [hlen]
    exact hO5.mono (by omega)
  · have hv : conflictV l known bs mv = ([], false, withErr l known bs mv) := by unfold conflictV; rw [if_pos he]
    rw [hv]
    have he' : (withErr l known bs mv != 0) = true := by simpa using he
    go_enter Tryz.func58, Tryz.ntmps58
    go_wp2_with (first
      | (go_at_call 85; refine HW.out.mono ?_; rintro e w2 ⟨p, cs, rfl, hb2, hp, _⟩
         obtain ⟨rfl, rfl⟩ := hp he
         simp only [zeroYears]))
    go_ret3
    exact ⟨none, 0, rfl, hb2.alloc hb2.size _, Own.none_ _ _ _ _ _⟩
end Go.Proofs.YtelnkflmnbhclaaGreat

/- What is proved: the contract of Earlier: whether a place is surely earlier than another one. Conditions: none. -/
import Derived.Test.YtelnkflmnbhclaaGreatG45
import Derived.Test.YtelnkflmnbhclaaGreatG41
import Derived.Deep.DeepCutAuto
namespace Go.Proofs.YtelnkflmnbhclaaGreat
open Go.RowKit Go.Proofs Go.Shelf

set_option maxRecDepth 100000 in
theorem wpL_field120m {ops : Array Oper} {rest : List Oper} {o : Oper} {a : Act} {w : World} {Q : Exit → Act → World → Prop} {x : Operand} (ho : o.op = .field 120 x 2) (hgd : o.guard = none) {v0 v1 v2 v3 : Value} (hx : a.eval x = .agg #[v0, v1, v2, v3])
    (h : wpList Tryz.prog ops Q rest (a.put o.dst v3) w) : wpList Tryz.prog ops Q (o :: rest) a w := by
  refine wpList_plain hgd fun _ hK => ?_
  unfold Oper.wp execOp
  simp only [ho, hx]
  go_simp
  exact hK _ _ h
theorem earl1_any (pts : Int) (A : Option Addr) (n c : Nat) (w : World) :
    Calls Tryz.prog 77 #[.agg #[.int .i64 pts, .slice A n c]] w fun e w' => e = .returned (.func (.func 78) #[] #[.pointer (some ⟨w.heap.size, 0, none⟩)]) ∧ w.alloc (.cells #[.int .i64 pts, .slice A n c] 117) = w' := by
  go_enter Tryz.func77, Tryz.ntmps77
  go_wp2
  go_ret
  exact ⟨rfl, rfl⟩
set_option maxHeartbeats 1000000 in
theorem earl2_any (pts : Int) (A : Option Addr) (n c : Nat) (bs : List Bound) (x y : Int) (bx : Nat) (w : World) (h0 : w.cell? ⟨bx, 0, none⟩ = some (.int .i64 pts)) (h1 : w.cell? ⟨bx, 1, none⟩ = some (.slice A n c)) (hl : Rd encBound 4 w A n c bs) (hk : checkSys pts bs = 0) (x1 : 0 ≤ x) (x2 : x < pts) (y1 : 0 ≤ y) (y2 : y < pts) :
    Calls Tryz.prog 78 #[.int .i64 x, .int .i64 y, .pointer (some ⟨bx, 0, none⟩)] w fun e w' => e = .returned (.tuple #[.int .i64 (greatestV pts bs x y).1, .bool (greatestV pts bs x y).2.1, .int .i64 (greatestV pts bs x y).2.2]) ∧ Below w.heap.size w w' := by
  have HG := Lib.hid (Greatest_any pts A n c bs x y w hl hk x1 x2 y1 y2)
  clear hl hk
  go_enter Tryz.func78, Tryz.ntmps78
  go_wp2_with (go_at_call 79; (with_reducible refine HG.out.mono ?_); rintro e w2 ⟨rfl, hb2⟩)
  go_ret3
  exact ⟨rfl, hb2⟩

theorem four (s i : Bool) (v : Int) : s = false ∨ (s = true ∧ i = false) ∨ (s = true ∧ i = true ∧ Hid (decide (v < 0) = true) ∧ v < 0) ∨ (s = true ∧ i = true ∧ Hid (decide (v < 0) = false) ∧ 0 ≤ v) := by
  cases s
  · exact .inl rfl
  · cases i
    · exact .inr (.inl ⟨rfl, rfl⟩)
    · by_cases h : v < 0
      · exact .inr (.inr (.inl ⟨rfl, rfl, Lib.hid (decide_eq_true h), h⟩))
      · exact .inr (.inr (.inr ⟨rfl, rfl, Lib.hid (decide_eq_false h), by omega⟩))
theorem four2 (s i : Bool) (v : Int) : s = false ∨ (s = true ∧ i = false) ∨ (s = true ∧ i = true ∧ Hid (decide (v ≤ 0) = true) ∧ v ≤ 0) ∨ (s = true ∧ i = true ∧ Hid (decide (v ≤ 0) = false) ∧ 0 < v) := by
  cases s
  · exact .inl rfl
  · cases i
    · exact .inr (.inl ⟨rfl, rfl⟩)
    · by_cases h : v ≤ 0
      · exact .inr (.inr (.inl ⟨rfl, rfl, Lib.hid (decide_eq_true h), h⟩))
      · exact .inr (.inr (.inr ⟨rfl, rfl, Lib.hid (decide_eq_false h), by omega⟩))
def stepE (pts : Int) (S : List Place → List Bound) (i k : Int) (st : Bool × Bool) (mv : List Place) : Bool × Bool :=
  (st.1 && (greatestV pts (S mv) k i).2.1 && decide ((greatestV pts (S mv) k i).1 < 0), st.2 && (greatestV pts (S mv) i k).2.1 && decide ((greatestV pts (S mv) i k).1 ≤ 0))
def earlS (pts : Int) (S : List Place → List Bound) (i k : Int) (sets : List (List Place)) : Bool × Bool := sets.foldl (stepE pts S i k) (true, true)
def earlR (r : Bool × Bool) : Int := if r.1 then 1 else if r.2 then 2 else 3
def earlierV (l : List Trace) (known : Int) (bs : List Bond) (a b : Place) : Int × Int :=
  if askErr l known bs ≠ 0 then (0, askErr l known bs) else
  if ((getM (ptsOf l known bs) a).isSome && (getM (ptsOf l known bs) b).isSome) = false then (0, 5) else
  if (setsOf l known bs).2 = [] then (0, 81) else
  (earlR (earlS ((placesOf (counting l known) bs).length + 1) (sysB (counting l known) bs) ((getM (ptsOf l known bs) a).getD 0) ((getM (ptsOf l known bs) b).getD 0) (setsOf l known bs).2), 0)
theorem earlS_snoc (pts : Int) (S : List Place → List Bound) (i k : Int) {sets : List (List Place)} {j : Nat} {mv : List Place} (h : sets[j]? = some mv) : earlS pts S i k (sets.take (j + 1)) = stepE pts S i k (earlS pts S i k (sets.take j)) mv := by
  unfold earlS
  rw [List.take_add_one, h, List.foldl_append]; rfl

set_option maxRecDepth 100000 in
set_option maxHeartbeats 8000000 in
theorem Earlier_any (A : Option Addr) (n c : Nat) (l : List Trace) (known : Int) (bA : Option Addr) (bn bc : Nat) (bs : List Bond) (a b : Place) (w : World) (hl : Rd encTrace 10 w A n c l) (hb : Rd encBond 5 w bA bn bc bs) :
    Calls Tryz.prog 25 #[.slice A n c, .int .i64 known, .slice bA bn bc, .agg #[.int .i64 a.pit, .int .i64 a.layer], .agg #[.int .i64 b.pit, .int .i64 b.layer]] w fun e w' => e = .returned (.tuple #[.int .u8 (earlierV l known bs a b).1, .int .i64 (earlierV l known bs a b).2]) ∧ Below w.heap.size w w' := by
  obtain ⟨w1, hw1⟩ : ∃ w1, (w.alloc (.cells #[.int .i64 a.pit, .int .i64 a.layer] 37)).alloc (.cells #[.int .i64 b.pit, .int .i64 b.layer] 37) = w1 := ⟨_, rfl⟩
  have hb1 : Below w.heap.size w w1 := (by rw [← hw1]; exact ((Below.refl _ w).alloc (Nat.le_refl _) _).alloc (by simp) _)
  have hz1 : w1.heap.size = w.heap.size + 2 := (by rw [← hw1]; simp)
  have hra : w1.heap[w.heap.size]? = some (.cells #[.int .i64 a.pit, .int .i64 a.layer] 37 (0, 0)) := (by rw [← hw1, Below.heap_alloc _ _ _ (by simp)]; exact heap_alloc_new w _)
  have hrb : w1.heap[w.heap.size + 1]? = some (.cells #[.int .i64 b.pit, .int .i64 b.layer] 37 (0, 0)) := (by
    rw [← hw1]
    have := heap_alloc_new (w.alloc (.cells #[.int .i64 a.pit, .int .i64 a.layer] 37)) (.cells #[.int .i64 b.pit, .int .i64 b.layer] 37)
    rw [World.size_alloc] at this; exact this)
  have hask := asked_any A n c l known bA bn bc bs w1 (hl.below hb1 (Nat.le_refl _)) (hb.below hb1 (Nat.le_refl _))
  have HASK := Lib.hid hask
  have HB := Lib.hid (hb.below hb1 (Nat.le_refl _))
  have HRA := Lib.hid hra
  have HRB := Lib.hid hrb
  have hq1 : w.heap.size < w1.heap.size := (by omega)
  have hq2 : w.heap.size + 1 < w1.heap.size := (by omega)
  clear hask hl hb hra hrb hz1
  by_cases he : askErr l known bs = 0
  · have hf := ordFacts he
    have HF := Lib.hid hf
    rw [he] at HASK
    have hv : earlierV l known bs a b = if ((getM (ptsOf l known bs) a).isSome && (getM (ptsOf l known bs) b).isSome) = false then (0, 5) else
      if (setsOf l known bs).2 = [] then (0, 81) else
      (earlR (earlS ((placesOf (counting l known) bs).length + 1) (sysB (counting l known) bs) ((getM (ptsOf l known bs) a).getD 0) ((getM (ptsOf l known bs) b).getD 0) (setsOf l known bs).2), 0) := by unfold earlierV; rw [if_neg (by simpa using he)]
    rw [hv]
    have hcon := fun B o w2 h1 h2 => cheapest_any B o bA bn bc bs (counting l known) (admitsOf (counting l known)) w2 h1 h2 hf.o hf.t hf.a8 hf.cost hf.nd
    have hse : cheapestM (admitsOf (counting l known)) (enough (counting l known) bs) = setsOf l known bs := rfl
    rw [hse] at hcon
    obtain ⟨⟨z, sets⟩, hS⟩ : ∃ q, setsOf l known bs = q := ⟨_, rfl⟩
    have hsl : ∀ s ∈ sets, s.length ≤ 8 := (fun s hs => by
      have h1 : setsOf l known bs = ((chpTo (admitsOf (counting l known)) (enough (counting l known) bs) (2 ^ (admitsOf (counting l known)).length)).1, sortLx (chpTo (admitsOf (counting l known)) (enough (counting l known) bs) (2 ^ (admitsOf (counting l known)).length)).2) := rfl
      rw [hS] at h1
      have h2 : sets = sortLx (chpTo (admitsOf (counting l known)) (enough (counting l known) bs) (2 ^ (admitsOf (counting l known)).length)).2 := (Prod.mk.inj h1).2
      rw [h2] at hs
      obtain ⟨q, _, e, _⟩ := (chpInv _ _ _).from_ s ((sortLx_perm _).mem_iff.1 hs)
      have := setTo_len (admitsOf (counting l known)) q (admitsOf (counting l known)).length
      have := hf.a8
      rw [e]; omega)
    have hslen : sets.length ≤ 256 := by
      have h1 : setsOf l known bs = ((chpTo (admitsOf (counting l known)) (enough (counting l known) bs) (2 ^ (admitsOf (counting l known)).length)).1, sortLx (chpTo (admitsOf (counting l known)) (enough (counting l known) bs) (2 ^ (admitsOf (counting l known)).length)).2) := rfl
      rw [hS] at h1
      have h2 : sets = sortLx (chpTo (admitsOf (counting l known)) (enough (counting l known) bs) (2 ^ (admitsOf (counting l known)).length)).2 := (Prod.mk.inj h1).2
      have h3 := chpTo_len (admitsOf (counting l known)) (enough (counting l known) bs) (2 ^ (admitsOf (counting l known)).length)
      have h4 : 2 ^ (admitsOf (counting l known)).length ≤ 256 := Nat.pow_le_pow_right (n := 2) (by omega) hf.a8
      rw [h2, (sortLx_perm _).length_eq]; omega
    rw [hS] at hcon ⊢
    have HCON := Lib.hid hcon
    have HSL := Lib.hid hsl
    clear hcon hse he hS hv hsl
    obtain ⟨m, hmm⟩ : ∃ m, ptsOf l known bs = m := ⟨_, rfl⟩
    have hmp : ptsM (placesOf (counting l known) bs) (placesOf (counting l known) bs).length = m := hmm
    rw [hmm]
    have HM := Lib.hid hmp
    have key : ∀ (k : Place) (W : World) (mb : Nat), MapP intE W mb m → (Instr.lookup 118 (.map (some mb)) (.agg #[.int .i64 k.pit, .int .i64 k.layer]) true).run Tryz.prog W = .ok (.tuple #[.int .i64 ((getM m k).getD 0), .bool (getM m k).isSome]) W := fun k W mb hm => by
      have h1 := run_lookupPl Tryz.underlying118 (Tryz.zeroValue3 W) hm k true
      simp only [keyV, getD_intE, if_true] at h1
      exact h1
    have HK := Lib.hid key
    clear key hmm hmp hf
    obtain ⟨x, hx⟩ : ∃ x, (getM m a).getD 0 = x := ⟨_, rfl⟩
    obtain ⟨y, hy⟩ : ∃ y, (getM m b).getD 0 = y := ⟨_, rfl⟩
    obtain ⟨sa, hsa⟩ : ∃ sa, (getM m a).isSome = sa := ⟨_, rfl⟩
    obtain ⟨sb, hsb⟩ : ∃ sb, (getM m b).isSome = sb := ⟨_, rfl⟩
    rw [hsa, hsb, hx, hy]
    have HX := Lib.hid hx
    have HY := Lib.hid hy
    have HSA := Lib.hid hsa
    have HSB := Lib.hid hsb
    clear hx hy hsa hsb
    simp only
    by_cases hss : (sa && sb) = false
    · rw [if_pos hss]
      rcases (by cases sa <;> cases sb <;> simp at hss ⊢ : (sa = false) ∨ (sa = true ∧ sb = false)) with rfl | ⟨rfl, rfl⟩
      all_goals
        go_enter Tryz.func25, Tryz.ntmps25
        go_wp2_with (first
          | (refine wpL_field120m rfl rfl rfl ?_)
          | (go_at_call 72; (with_reducible refine HASK.out.mono ?_); rintro e w2 ⟨p, rfl, hb2, hp⟩
             obtain ⟨o, rfl, hOr⟩ := hp rfl
             obtain ⟨ho, At, ct, Ap, cp, Aa, ca, hob, t1, t2, t3⟩ := id hOr
             have hol := (Array.getElem?_eq_some_iff.1 hob).1
             have hyr := years_any o At (counting l known).length ct bA bn bc Ap (placesOf (counting l known) bs).length cp none 0 0 (counting l known) bs (placesOf (counting l known) bs) [] w2 (by simp [World.cell?, hob]) (by simp [World.cell?, hob]) (by simp [World.cell?, hob]) (t1.rd (fun _ => rfl) (by have := HF.out.o.tn; omega)) (HB.out.below hb2 (Nat.le_refl _)) (t2.rd (fun _ => rfl) (by have := HF.out.o.pn; omega)) (Rd.none_ none 0 (by omega)) HF.out.t (by have := HF.out.o.tn; omega) (by have := HF.out.o.bn; have := HB.out.len; omega)
             rw [HM.out] at hyr
             have HYR := Lib.hid hyr
             have HB2 := Lib.hid hb2
             have HOR := Lib.hid hOr
             have HOB := Lib.hid hob
             have hz2 := hb2.size
             clear hyr hb2 hOr hob t1 t2 t3 hp)
          | (go_at_call 75; (with_reducible refine HYR.out.mono ?_); rintro e w3 ⟨Ab, cb, Al, cl, mb, rfl, hb3, _, _, y3, _⟩
             have hl1 := HK.out a _ mb y3
             have hl2 := HK.out b _ mb y3
             rw [HX.out, HSA.out] at hl1
             rw [HY.out, HSB.out] at hl2
             have hb13 := HB2.out.trans (hb3.mono hz2)
             have hra3 := (hb13.block _ hq1).trans HRA.out
             have hrb3 := (hb13.block _ hq2).trans HRB.out
             have a0 : w3.cell? ⟨w.heap.size, 0, none⟩ = some (.int .i64 a.pit) := (by simp [World.cell?, hra3])
             have a1 : w3.cell? ⟨w.heap.size, 1, none⟩ = some (.int .i64 a.layer) := (by simp [World.cell?, hra3])
             have b0 : w3.cell? ⟨w.heap.size + 1, 0, none⟩ = some (.int .i64 b.pit) := (by simp [World.cell?, hrb3])
             have b1 : w3.cell? ⟨w.heap.size + 1, 1, none⟩ = some (.int .i64 b.layer) := (by simp [World.cell?, hrb3])
             have HC := Lib.hid (HCON.out _ o w3 (HOR.out.below hb3 (Nat.le_refl _)) (HB.out.below hb13 (Nat.le_refl _)))
             have HB13 := Lib.hid hb13
             have HB3 := Lib.hid hb3
             clear y3 hb13 hra3 hrb3 hb3)
          | (go_at_call 76; (with_reducible refine HC.out.mono ?_); rintro e w4 ⟨A4, c4, rfl, hb4, hS4⟩
             have HB4 := Lib.hid hb4
             have HS4 := Lib.hid hS4
             have HB14 := Lib.hid (HB13.out.trans (hb4.mono HB13.out.size))
             clear hb4 hS4 a0 a1 b0 b1 hl1 hl2))
        go_ret2
        exact ⟨rfl, hb1.trans (HB13.out.mono (by omega))⟩
    · rw [if_neg hss]
      have hsa : sa = true := by cases sa <;> simp_all
      have hsb : sb = true := by cases sb <;> simp_all
      subst hsa
      subst hsb
      clear hss
      cases sets with
      | nil =>
        rw [if_pos rfl]
        go_enter Tryz.func25, Tryz.ntmps25
        go_wp2_with (first
          | (refine wpL_field120m rfl rfl rfl ?_)
          | (go_at_call 72; (with_reducible refine HASK.out.mono ?_); rintro e w2 ⟨p, rfl, hb2, hp⟩
             obtain ⟨o, rfl, hOr⟩ := hp rfl
             obtain ⟨ho, At, ct, Ap, cp, Aa, ca, hob, t1, t2, t3⟩ := id hOr
             have hol := (Array.getElem?_eq_some_iff.1 hob).1
             have hyr := years_any o At (counting l known).length ct bA bn bc Ap (placesOf (counting l known) bs).length cp none 0 0 (counting l known) bs (placesOf (counting l known) bs) [] w2 (by simp [World.cell?, hob]) (by simp [World.cell?, hob]) (by simp [World.cell?, hob]) (t1.rd (fun _ => rfl) (by have := HF.out.o.tn; omega)) (HB.out.below hb2 (Nat.le_refl _)) (t2.rd (fun _ => rfl) (by have := HF.out.o.pn; omega)) (Rd.none_ none 0 (by omega)) HF.out.t (by have := HF.out.o.tn; omega) (by have := HF.out.o.bn; have := HB.out.len; omega)
             rw [HM.out] at hyr
             have HYR := Lib.hid hyr
             have HB2 := Lib.hid hb2
             have HOR := Lib.hid hOr
             have HOB := Lib.hid hob
             have hz2 := hb2.size
             clear hyr hb2 hOr hob t1 t2 t3 hp)
          | (go_at_call 75; (with_reducible refine HYR.out.mono ?_); rintro e w3 ⟨Ab, cb, Al, cl, mb, rfl, hb3, _, _, y3, _⟩
             have hl1 := HK.out a _ mb y3
             have hl2 := HK.out b _ mb y3
             rw [HX.out, HSA.out] at hl1
             rw [HY.out, HSB.out] at hl2
             have hb13 := HB2.out.trans (hb3.mono hz2)
             have hra3 := (hb13.block _ hq1).trans HRA.out
             have hrb3 := (hb13.block _ hq2).trans HRB.out
             have a0 : w3.cell? ⟨w.heap.size, 0, none⟩ = some (.int .i64 a.pit) := (by simp [World.cell?, hra3])
             have a1 : w3.cell? ⟨w.heap.size, 1, none⟩ = some (.int .i64 a.layer) := (by simp [World.cell?, hra3])
             have b0 : w3.cell? ⟨w.heap.size + 1, 0, none⟩ = some (.int .i64 b.pit) := (by simp [World.cell?, hrb3])
             have b1 : w3.cell? ⟨w.heap.size + 1, 1, none⟩ = some (.int .i64 b.layer) := (by simp [World.cell?, hrb3])
             have HC := Lib.hid (HCON.out _ o w3 (HOR.out.below hb3 (Nat.le_refl _)) (HB.out.below hb13 (Nat.le_refl _)))
             have HB13 := Lib.hid hb13
             have HB3 := Lib.hid hb3
             clear y3 hb13 hra3 hrb3 hb3)
          | (go_at_call 76; (with_reducible refine HC.out.mono ?_); rintro e w4 ⟨A4, c4, rfl, hb4, hS4⟩
             have HB4 := Lib.hid hb4
             have HS4 := Lib.hid hS4
             have HB14 := Lib.hid (HB13.out.trans (hb4.mono HB13.out.size))
             clear hb4 hS4 a0 a1 b0 b1 hl1 hl2))
        go_ret2
        exact ⟨rfl, hb1.trans (HB14.out.mono (by omega))⟩
      | cons s0 rest =>
        rw [if_neg (by simp)]
        have hgx : getM (ptsM (placesOf (counting l known) bs) (placesOf (counting l known) bs).length) a = some x := by rw [HM.out]; exact some_of HX.out HSA.out
        have hgy : getM (ptsM (placesOf (counting l known) bs) (placesOf (counting l known) bs).length) b = some y := by rw [HM.out]; exact some_of HY.out HSB.out
        have hrx := ptsM_range _ hgx
        have hry := ptsM_range _ hgy
        have hlen : 0 < (s0 :: rest).length := by simp
        obtain ⟨N, hN⟩ : ∃ N, (s0 :: rest).length = N := ⟨_, rfl⟩
        obtain ⟨SS, hSS⟩ : ∃ SS, s0 :: rest = SS := ⟨_, rfl⟩
        rw [hN] at hlen hslen
        have hN0 : ((N : Int) == 0) = false := by simp; omega
        rw [hSS] at HCON HSL hN ⊢
        rw [hN] at HCON
        have HN := Lib.hid hN
        clear hSS hN hgx hgy
        go_enter Tryz.func25, Tryz.ntmps25
        go_wp2_with (first
          | (refine wpL_field120m rfl rfl rfl ?_)
          | (go_at_call 72; (with_reducible refine HASK.out.mono ?_); rintro e w2 ⟨p, rfl, hb2, hp⟩
             obtain ⟨o, rfl, hOr⟩ := hp rfl
             obtain ⟨ho, At, ct, Ap, cp, Aa, ca, hob, t1, t2, t3⟩ := id hOr
             have hol := (Array.getElem?_eq_some_iff.1 hob).1
             have hyr := years_any o At (counting l known).length ct bA bn bc Ap (placesOf (counting l known) bs).length cp none 0 0 (counting l known) bs (placesOf (counting l known) bs) [] w2 (by simp [World.cell?, hob]) (by simp [World.cell?, hob]) (by simp [World.cell?, hob]) (t1.rd (fun _ => rfl) (by have := HF.out.o.tn; omega)) (HB.out.below hb2 (Nat.le_refl _)) (t2.rd (fun _ => rfl) (by have := HF.out.o.pn; omega)) (Rd.none_ none 0 (by omega)) HF.out.t (by have := HF.out.o.tn; omega) (by have := HF.out.o.bn; have := HB.out.len; omega)
             rw [HM.out] at hyr
             have HYR := Lib.hid hyr
             have HB2 := Lib.hid hb2
             have HOR := Lib.hid hOr
             have HOB := Lib.hid hob
             have hz2 := hb2.size
             clear hyr hb2 hOr hob t1 t2 t3 hp)
          | (go_at_call 75; (with_reducible refine HYR.out.mono ?_); rintro e w3 ⟨Ab, cb, Al, cl, mb, rfl, hb3, _, _, y3, _⟩
             have hl1 := HK.out a _ mb y3
             have hl2 := HK.out b _ mb y3
             rw [HX.out, HSA.out] at hl1
             rw [HY.out, HSB.out] at hl2
             have hb13 := HB2.out.trans (hb3.mono hz2)
             have hra3 := (hb13.block _ hq1).trans HRA.out
             have hrb3 := (hb13.block _ hq2).trans HRB.out
             have a0 : w3.cell? ⟨w.heap.size, 0, none⟩ = some (.int .i64 a.pit) := (by simp [World.cell?, hra3])
             have a1 : w3.cell? ⟨w.heap.size, 1, none⟩ = some (.int .i64 a.layer) := (by simp [World.cell?, hra3])
             have b0 : w3.cell? ⟨w.heap.size + 1, 0, none⟩ = some (.int .i64 b.pit) := (by simp [World.cell?, hrb3])
             have b1 : w3.cell? ⟨w.heap.size + 1, 1, none⟩ = some (.int .i64 b.layer) := (by simp [World.cell?, hrb3])
             have HC := Lib.hid (HCON.out _ o w3 (HOR.out.below hb3 (Nat.le_refl _)) (HB.out.below hb13 (Nat.le_refl _)))
             have HB13 := Lib.hid hb13
             have HB3 := Lib.hid hb3
             clear y3 hb13 hra3 hrb3 hb3)
          | (go_at_call 76; (with_reducible refine HC.out.mono ?_); rintro e w4 ⟨A4, c4, rfl, hb4, hS4⟩
             have HB4 := Lib.hid hb4
             have HS4 := Lib.hid hS4
             have HB14 := Lib.hid (HB13.out.trans (hb4.mono HB13.out.size))
             clear hb4 hS4 a0 a1 b0 b1 hl1 hl2))
        obtain ⟨hs, h1, h2⟩ := HS4.out
        rw [HN.out] at h1
        have hl1 := h1.len
        obtain ⟨g, rfl⟩ : ∃ g, A4 = some ⟨g, 0, none⟩ := (by
          rcases h1.form with ⟨_, e, _⟩ | ⟨g, e, _⟩
          · omega
          · exact ⟨g, e⟩)
        have H1 := Lib.hid h1
        have H2 := Lib.hid h2
        have HL1 := Lib.hid hl1
        have HOB4 := Lib.hid (((HB3.out.trans (HB4.out.mono HB3.out.size)).block _ hol).trans HOB.out)
        have hol4 : o < w4.heap.size := (by have := HB3.out.size; have := HB4.out.size; omega)
        have hgl4 := h1.lt.2
        have HORR := Lib.hid (HOR.out.below (HB3.out.trans (HB4.out.mono HB3.out.size)) (Nat.le_refl _))
        have hz4 := HB4.out.size
        have hz3 := HB3.out.size
        clear h1 h2 hl1
        go_loopw [21, 22, 72] (fun s21 s22 i wr => ∃ (k : Nat) (s nv : Bool), k ≤ N ∧ i = .int .i64 k ∧ s21 = .bool s ∧ s22 = .bool nv ∧ Hid (Below w4.heap.size w4 wr) ∧ Hid (earlS ((placesOf (counting l known) bs).length + 1) (sysB (counting l known) bs) x y (SS.take k) = (s, nv))) (fun _ _ i _ => N - (intOf i).toNat)
        case atStart => exact ⟨0, true, true, Nat.zero_le _, rfl, rfl, rfl, (show Below _ _ _ from Below.refl _ _), (show _ = _ from rfl)⟩
        case round =>
          obtain ⟨k, s, nv, hk, rfl, rfl, rfl, hbel, hst⟩ := hrel
          by_cases hlt : k < N
          · obtain ⟨hd, hhd⟩ : ∃ hd, hs[k]? = some hd := ⟨_, List.getElem?_eq_getElem (by rw [HL1.out]; exact hlt)⟩
            obtain ⟨mv, hmv⟩ : ∃ mv, SS[k]? = some mv := ⟨_, List.getElem?_eq_getElem (by rw [HN.out]; exact hlt)⟩
            obtain ⟨e1, e2⟩ := H2.out k hd mv hhd hmv
            have hcell := (hbel.out.cell (p := ⟨g, k * 1 + 0, none⟩) hgl4).trans (H1.out.cells (fun _ => rfl) hhd 0 _ rfl)
            rw [Nat.mul_one, Nat.add_zero] at hcell
            unfold hdrV at hcell
            rw [e1] at hcell
            have hml := HSL.out mv (List.mem_of_getElem? hmv)
            have hobr := (hbel.out.block _ hol4).trans HOB4.out
            obtain ⟨ho2, At2, ct2, Ap2, cp2, Aa2, ca2, hob2, t1, t2, t3⟩ := HORR.out
            have hobr2 := (hbel.out.block _ hol4).trans hob2
            have hyr := years_any o At2 (counting l known).length ct2 bA bn bc Ap2 (placesOf (counting l known) bs).length cp2 hd.A mv.length hd.c (counting l known) bs (placesOf (counting l known) bs) mv wr (by simp [World.cell?, hobr2]) (by simp [World.cell?, hobr2]) (by simp [World.cell?, hobr2]) ((t1.rd (fun _ => rfl) (by have := HF.out.o.tn; omega)).below hbel.out (Nat.le_refl _)) ((HB.out.below HB14.out (Nat.le_refl _)).below hbel.out (Nat.le_refl _)) ((t2.rd (fun _ => rfl) (by have := HF.out.o.pn; omega)).below hbel.out (Nat.le_refl _)) ((e2.rd (fun _ => rfl) (by omega)).below hbel.out (Nat.le_refl _)) HF.out.t (by have := HF.out.o.tn; omega) (by have := HF.out.o.bn; have := HB.out.len; omega)
            have HYR2 := Lib.hid hyr
            have hstep := earlS_snoc ((placesOf (counting l known) bs).length + 1) (sysB (counting l known) bs) x y hmv
            rw [hst.out] at hstep
            obtain ⟨⟨v1, is1, er1⟩, hG1⟩ : ∃ q, greatestV ((placesOf (counting l known) bs).length + 1) (sysB (counting l known) bs mv) y x = q := ⟨_, rfl⟩
            obtain ⟨⟨v2, is2, er2⟩, hG2⟩ : ∃ q, greatestV ((placesOf (counting l known) bs).length + 1) (sysB (counting l known) bs mv) x y = q := ⟨_, rfl⟩
            have hck := checkSys_years HF.out.o mv
            have hsb : sysB (counting l known) bs mv = (linksL (counting l known) bs mv).map (boundOf (ptsM (placesOf (counting l known) bs) (placesOf (counting l known) bs).length)) := rfl
            rw [← hsb] at hck
            unfold stepE at hstep
            rw [hG1, hG2] at hstep
            simp only at hstep
            have HG1 := Lib.hid hG1
            have HG2 := Lib.hid hG2
            have HST := Lib.hid hstep
            have HCK := Lib.hid hck
            have hlinks := linksL_len (counting l known) bs mv
            have htn := HF.out.o.tn
            have hbn := HF.out.o.bn
            have hbs := hbel.out.size
            clear hyr hG1 hG2 hstep hck hsb hobr hobr2 hob2 t1 t2 t3 e1 e2 hhd hmv ho2
            go_upto_region 18 with (first
                | (refine wpL_field120 rfl rfl rfl ?_)
                | (go_at_call 75; (with_reducible refine HYR2.out.mono ?_); rintro e w5 ⟨Ab5, cb5, Al5, cl5, mb5, rfl, hb5, y1, _, _, _⟩
                   obtain ⟨w6, hw6⟩ : ∃ w6, w5.alloc (.cells #[.int .i64 ((placesOf (counting l known) bs).length + 1), .slice Ab5 (linksL (counting l known) bs mv).length cb5] 117) = w6 := ⟨_, rfl⟩
                   have hn6 : w6.heap[w5.heap.size]? = some (.cells #[.int .i64 ((placesOf (counting l known) bs).length + 1), .slice Ab5 (linksL (counting l known) bs mv).length cb5] 117 (0, 0)) := (by rw [← hw6]; exact heap_alloc_new w5 _)
                   have hb56 : Below w5.heap.size w5 w6 := (by rw [← hw6]; exact (Below.refl _ w5).alloc (Nat.le_refl _) _)
                   have hl6 : w5.heap.size < w6.heap.size := (by rw [← hw6]; simp)
                   have hrd6 : Rd encBound 4 w6 Ab5 (linksL (counting l known) bs mv).length cb5 (sysB (counting l known) bs mv) := (y1.rd (fun _ => rfl) (by omega)).below hb56 (Nat.le_refl _)
                   have hgA := earl2_any ((placesOf (counting l known) bs).length + 1) Ab5 (linksL (counting l known) bs mv).length cb5 (sysB (counting l known) bs mv) y x w5.heap.size w6 (by simp [World.cell?, hn6]) (by simp [World.cell?, hn6]) hrd6 HCK.out hry.1 hry.2 hrx.1 hrx.2
                   rw [HG1.out] at hgA
                   have HGA := Lib.hid hgA
                   have HE1 := Lib.hid (earl1_any ((placesOf (counting l known) bs).length + 1) Ab5 (linksL (counting l known) bs mv).length cb5 w5)
                   have HN6 := Lib.hid hn6
                   have HRD6 := Lib.hid hrd6
                   have HW6 := Lib.hid hw6
                   have HB56 := Lib.hid ((hbel.out.trans (hb5.mono hbs)).trans (hb56.mono (by have := hb5.size; omega)))
                   clear hgA hn6 hrd6 hw6 y1 hb5 hb56)
                | (go_at_call 77; (with_reducible refine HE1.out.mono ?_); rintro e w7 ⟨rfl, hw7⟩; rw [HW6.out] at hw7; subst hw7)
                | ((first | go_at_call 78 | go_at_fn 78); (with_reducible refine HGA.out.mono ?_); rintro e w8 ⟨rfl, hb8⟩
                   have hn8 := (hb8.block _ hl6).trans HN6.out
                   have hgB := earl2_any ((placesOf (counting l known) bs).length + 1) Ab5 (linksL (counting l known) bs mv).length cb5 (sysB (counting l known) bs mv) x y w5.heap.size w8 (by simp [World.cell?, hn8]) (by simp [World.cell?, hn8]) (HRD6.out.below hb8 (Nat.le_refl _)) HCK.out hrx.1 hrx.2 hry.1 hry.2
                   rw [HG2.out] at hgB
                   have HGB := Lib.hid hgB
                   have HB8 := Lib.hid (HB56.out.trans (hb8.mono HB56.out.size))
                   clear hgB hn8 hb8))
            obtain ⟨s', hs'⟩ : ∃ s', (s && is1 && decide (v1 < 0)) = s' := ⟨_, rfl⟩
            obtain ⟨n', hn'⟩ : ∃ n', (nv && is2 && decide (v2 ≤ 0)) = n' := ⟨_, rfl⟩
            have HS' := Lib.hid hs'
            have HN' := Lib.hid hn'
            have hst2 := HST.out
            rw [hs', hn'] at hst2
            have HST2 := Lib.hid hst2
            clear hs' hn' hst2
            go_cut [21] (fun s21 wx => s21 = .bool s' ∧ wx = w8)
            case first =>
              rcases four s is1 v1 with rfl | ⟨rfl, rfl⟩ | ⟨rfl, rfl, Q1, q1⟩ | ⟨rfl, rfl, Q1, q1⟩
              all_goals
                go_wp2_with fail
                go_meet
              all_goals exact ⟨congrArg Value.bool (by have h9 := HS'.out; (first | rw [Q1.out] at h9 | skip); rw [← h9]; (first | rfl | exact Q1.out | simp [Q1.out])), rfl⟩
            case rest =>
              obtain ⟨rfl, rfl⟩ := hcut
              go_upto_region 20 with ((first | go_at_call 78 | go_at_fn 78); (with_reducible refine HGB.out.mono ?_); rintro e w9 ⟨rfl, hb9⟩; have HB9 := Lib.hid (HB8.out.trans (hb9.mono HB8.out.size)); clear hb9)
              rcases four2 nv is2 v2 with rfl | ⟨rfl, rfl⟩ | ⟨rfl, rfl, Q2, q2⟩ | ⟨rfl, rfl, Q2, q2⟩
              all_goals
                go_wp2
                go_roundw
              all_goals first
                | (simp [intOf]; omega)
                | exact ⟨k + 1, s', _, by omega, by go_num, rfl, rfl, (show Below _ _ _ from HB9.out), (show _ = _ by rw [HST2.out]; congr 1; have h9 := HN'.out; (first | rw [Q2.out] at h9 | skip); rw [← h9]; (first | rfl | exact Q2.out.symm | simp [Q2.out]))⟩
          · have hke : k = N := by omega
            subst hke
            have hfin : earlS ((placesOf (counting l known) bs).length + 1) (sysB (counting l known) bs) x y SS = (s, nv) := (by
              have := hst.out
              rwa [List.take_of_length_le (by rw [HN.out]; exact Nat.le_refl _)] at this)
            have HFIN := Lib.hid hfin
            clear hfin
            cases s <;> cases nv
            all_goals
              go_wp2_with (fail)
              go_ret2
              refine ⟨?_, (hb1.trans (HB14.out.mono (by omega))).trans (hbel.out.mono (by have := HB14.out.size; omega))⟩
              rw [HFIN.out]
              rfl
  · have hv : earlierV l known bs a b = (0, askErr l known bs) := by unfold earlierV; rw [if_pos he]
    rw [hv]
    have he' : (askErr l known bs != 0) = true := by simpa using he
    go_enter Tryz.func25, Tryz.ntmps25
    go_wp2_with (first
      | (go_at_call 72; (with_reducible refine HASK.out.mono ?_); rintro e w2 ⟨p, rfl, hb2, hp⟩))
    go_ret2
    exact ⟨rfl, hb1.trans (hb2.mono (by omega))⟩
end Go.Proofs.YtelnkflmnbhclaaGreat

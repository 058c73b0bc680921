/- Contracts that the laws lean on: Bell3, OrdP. -/
import Derived.Test.YtelnkflmnbhclaaGreatG42
import Derived.Test.YtelnkflmnbhclaaGreatG45
import Derived.Test.YtelnkflmnbhclaaGreatG06
import Derived.Test.YtelnkflmnbhclaaGreatG01
import Derived.BigRegion
import Derived.Test.YtelnkflmnbhclaaGreatG19
import Derived.Test.YtelnkflmnbhclaaGreatG35
import Derived.Test.YtelnkflmnbhclaaGreatG41
import Derived.Test.YtelnkflmnbhclaaGreatG39
import Derived.Test.YtelnkflmnbhclaaGreatG46
import Derived.Test.YtelnkflmnbhclaaGreatG02
import Derived.ReadAgain
import Derived.Deep.Slices
import Derived.Test.YtelnkflmnbhclaaGreatH01
/- What is proved: what the greatest difference says of solutions. Conditions: the system is as said and has a solution. -/
section
namespace Go.Proofs.YtelnkflmnbhclaaGreat

theorem val_start {a : Int} (h1 : 0 ≤ a) (h2 : a < 60) (v : Nat) : val (rPut emptyRow a 0) v = if v = a.toNat then 0 else if v < 60 then noneV else 0 := by
  have he : emptyRow.length = 60 := by simp [emptyRow]
  simp only [rPut]
  rw [val_set _ _ _ _ (by rw [he]; omega)]
  by_cases e : v = a.toNat
  · subst e; rw [if_pos rfl, if_pos rfl]
  · rw [if_neg (fun h => e h.symm), if_neg e]
    unfold val emptyRow
    rw [List.getD_eq_getElem?_getD, List.getElem?_replicate]
    split <;> rfl
/-- the row of least sums from a point -/
def fromV (pts : Int) (bs : List Bound) (a : Int) : Nat → Int := val (fromR pts bs a).1
theorem greatestR_val (pts : Int) (bs : List Bound) (a b : Int) : greatestR pts bs a b = fromV pts bs a b.toNat := rfl

theorem sol_bounded {pts : Int} {bs : List Bound} (hok : SysOk pts bs) (hs : solvedOk pts bs = true) : ∃ y : Nat → Int, (∀ b ∈ bs, y b.dst.toNat ≤ y b.src.toNat + b.most) ∧ ∀ v, -30000000000 ≤ y v ∧ y v ≤ 0 := by
  have hz60 : zeroRow.length = 60 := by simp [zeroRow]
  have hp1 := hok.p1
  have hp2 := hok.p2
  have hle := loop_le (bs := bs) (pts + 1).toNat (zeroRow, lasts) (ends60 hok hz60)
  refine ⟨val (settledLoop bs (pts + 1).toNat (zeroRow, lasts)).1, fun b hb => ?_, fun v => ⟨?_, ?_⟩⟩
  · refine loop_fix _ _ (ends60 hok hz60) hs b hb ?_
    have := hle b.src.toNat
    simp only [val_zero] at this
    unfold noneV
    omega
  · have hz : Bnd 0 0 zeroRow := fun v hv => by
      have := List.eq_of_mem_replicate hv
      omega
    have hb := bnd_loop (fun b hb => (hok.b b hb).2.2.2.2.2.1) hok.len (Int.le_refl 0) (pts + 1).toNat 0 (zeroRow, lasts) hz (Int.le_refl 0)
    have := hb.at (by omega) (Int.le_refl 0) (v : Int)
    have e : rAt (settledLoop bs (pts + 1).toNat (zeroRow, lasts)).1 (v : Int) = val (settledLoop bs (pts + 1).toNat (zeroRow, lasts)).1 v := by rw [rAt_val, Int.toNat_natCast]
    rw [e] at this
    omega
  · have := hle v
    simpa only [val_zero] using this

theorem from_len60 {a : Int} : (rPut emptyRow a 0).length = 60 := by simp [emptyRow]
section
variable {pts : Int} {bs : List Bound} (hok : SysOk pts bs) {a : Int} (h1 : 0 ≤ a) (h2 : a < pts)
include hok h1 h2
/-- no solution has a greater difference -/
theorem from_low {x : Nat → Int} (hx : ∀ b ∈ bs, x b.dst.toNat ≤ x b.src.toNat + b.most) (hb : ∀ v, v < 60 → x v - x a.toNat ≤ noneV) (v : Nat) (hv : v < 60) : x v - x a.toNat ≤ fromV pts bs a v := by
  have hp := hok.p2
  have := loop_low (bs := bs) (y := fun v => if v < 60 then x v - x a.toNat else 0) (fun b hb _ => by
    have h3 := hok.b b hb
    have h4 := hx b hb
    try simp only
    rw [if_pos (by omega), if_pos (by omega)]
    omega) (pts + 1).toNat (rPut emptyRow a 0, lasts) (ends60 hok from_len60) (fun v => by
    try simp only
    rw [val_start h1 (by omega)]
    by_cases e : v = a.toNat
    · subst e; rw [if_pos (by omega), if_pos rfl]; omega
    · rw [if_neg e]
      split
      · exact hb v (by assumption)
      · exact Int.le_refl _) v
  simp only [if_pos hv] at this
  exact this
theorem from_le (v : Nat) : fromV pts bs a v ≤ if v = a.toNat then 0 else if v < 60 then noneV else 0 := by
  have hp := hok.p2
  have := loop_le (bs := bs) (pts + 1).toNat (rPut emptyRow a 0, lasts) (ends60 hok from_len60) v
  simp only [val_start h1 (show a < 60 by omega)] at this
  exact this
theorem from_zero (hs : solvedOk pts bs = true) : fromV pts bs a a.toNat = 0 := by
  have hp := hok.p2
  obtain ⟨y, hy, hyb⟩ := sol_bounded hok hs
  have h3 := from_le hok h1 h2 a.toNat
  rw [if_pos rfl] at h3
  have h4 := from_low hok h1 h2 hy (fun v _ => by
    have := hyb v; have := hyb a.toNat; unfold noneV; omega) a.toNat (by omega)
  omega
theorem from_fix (hs : solvedOk pts bs = true) : ∀ b ∈ bs, KeptB (fromV pts bs a) b := by
  have hp := hok.p2
  have hp1 := hok.p1
  obtain ⟨y, hy⟩ := (solvedOk_iff hok).1 hs
  obtain ⟨C, hC⟩ : ∃ C : Int, ∀ v, v < 60 → y v ≤ C := ⟨(sumTo (fun v => (y v).toNat) 60 : Nat), fun v hv => by
    have := le_sumTo (fun v => (y v).toNat) 60 v hv
    try simp only at this
    omega⟩
  have ht : (settled pts bs (rPut emptyRow a 0)).2.2 = true := settled_true (y := fun v => if v < 60 then y v - C else 0) (by omega) (ends60 hok from_len60) (fun b hb => by have := hok.b b hb; omega) (fun b hb _ => by
      have h1 := hok.b b hb
      have h2 := hy b hb
      try simp only
      rw [if_pos (by omega), if_pos (by omega)]
      omega) (fun v => by
      rw [val_start h1 (by omega)]
      try simp only
      split
      · have := hC v (by assumption)
        split
        · omega
        · unfold noneV; omega
      · split
        · omega
        · omega)
  exact fun b hb => loop_fix _ _ (ends60 hok from_len60) ht b hb
end
end Go.Proofs.YtelnkflmnbhclaaGreat
end

/- What is proved: the plain law of StratumOrder: Earlier against Sets and Between. Conditions: as said. -/
section
namespace Go.Proofs.YtelnkflmnbhclaaGreat
open Go.RowKit Go.Proofs Go.Shelf

/-- what Sets returns -/
def setsV (l : List Trace) (known : Int) (bs : List Bond) : List (List Place) × Int :=
  if askErr l known bs ≠ 0 then ([], askErr l known bs) else if (setsOf l known bs).2 = [] then ([], 81) else ((setsOf l known bs).2, 0)
/-- a round of the law's loop -/
def ordStep (l : List Trace) (known : Int) (bs : List Bond) (a b : Place) (st : Bool × Bool) (mv : List Place) : Bool × Bool :=
  (st.1 && (betweenV l known bs mv b a).2.1 && decide ((betweenV l known bs mv b a).1 < 0), st.2 && (betweenV l known bs mv a b).2.1 && decide ((betweenV l known bs mv a b).1 ≤ 0))
def ordS (l : List Trace) (known : Int) (bs : List Bond) (a b : Place) (sets : List (List Place)) : Bool × Bool := sets.foldl (ordStep l known bs a b) (true, true)
theorem ordS_snoc (l : List Trace) (known : Int) (bs : List Bond) (a b : Place) {sets : List (List Place)} {j : Nat} {mv : List Place} (h : sets[j]? = some mv) : ordS l known bs a b (sets.take (j + 1)) = ordStep l known bs a b (ordS l known bs a b (sets.take j)) mv := by
  unfold ordS
  rw [List.take_add_one, h, List.foldl_append]; rfl

/-- the places of a chosen set, in their order, are admitted ones -/
theorem setTo_adm {ads : List Admit} (hs : (ads.map (·.place)).Pairwise ltPl) (b : Nat) : ∀ k, k ≤ ads.length → (setTo ads b k).1.Sublist ((ads.take k).map (·.place))
  | 0, _ => by simp [setTo]
  | k + 1, h => by
    have ih := setTo_adm hs b k (by omega)
    have hy : ads[k]? = some ads[k] := List.getElem?_eq_getElem h
    rw [List.take_add_one, hy, List.map_append]
    cases hb : bitOn b k with
    | true =>
      rw [setTo_on hy hb]
      exact ih.append (List.Sublist.refl _)
    | false =>
      rw [setTo_off hy hb]
      exact ih.trans (List.sublist_append_left _ _)
theorem isAdm_of {ads : List Admit} {p : Place} (h : p ∈ ads.map (·.place)) : isAdm ads p = true := by
  obtain ⟨x, hx, rfl⟩ := List.mem_map.1 h
  exact List.any_eq_true.2 ⟨x, hx, eqPlace_iff.2 rfl⟩
theorem admitsOf_asc (ts : List Trace) : ((admitsOf ts).map (·.place)).Pairwise ltPl := by
  rw [admitsOf_places]
  exact sortPl_asc (admFold_nodup ts [] List.nodup_nil)
theorem setsOf_from {l : List Trace} {known : Int} {bs : List Bond} {mv : List Place} (h : mv ∈ (setsOf l known bs).2) : ∃ b, b < 2 ^ (admitsOf (counting l known)).length ∧ mv = (setTo (admitsOf (counting l known)) b (admitsOf (counting l known)).length).1 ∧
    (setTo (admitsOf (counting l known)) b (admitsOf (counting l known)).length).2 = (setsOf l known bs).1 ∧ enough (counting l known) bs mv = true :=
  (chpInv _ _ _).from_ mv ((sortLx_perm _).mem_iff.1 h)
theorem setsOf_with {l : List Trace} {known : Int} {bs : List Bond} (he : askErr l known bs = 0) {mv : List Place} (h : mv ∈ (setsOf l known bs).2) : withErr l known bs mv = 0 ∧ enough (counting l known) bs mv = true := by
  obtain ⟨b, _, rfl, _, h2⟩ := setsOf_from h
  refine ⟨withErr_zero.2 ⟨he, admittedErr_zero.2 ⟨?_, fun p hp => ?_⟩⟩, h2⟩
  · have := setTo_adm (admitsOf_asc (counting l known)) b _ (Nat.le_refl _)
    rw [List.take_length] at this
    exact (admitsOf_asc _).sublist this
  · have := setTo_adm (admitsOf_asc (counting l known)) b _ (Nat.le_refl _)
    rw [List.take_length] at this
    exact isAdm_of (this.mem hp)
/-- Between at a set of Sets: no error, and what gauge says -/
theorem between_set {l : List Trace} {known : Int} {bs : List Bond} {mv : List Place} {a b : Place} (hw : withErr l known bs mv = 0) (he : enough (counting l known) bs mv = true) (ha : (getM (ptsOf l known bs) a).isSome = true) (hb : (getM (ptsOf l known bs) b).isSome = true) :
    betweenV l known bs mv a b = ((greatestV ((placesOf (counting l known) bs).length + 1) (sysB (counting l known) bs mv) ((getM (ptsOf l known bs) a).getD 0) ((getM (ptsOf l known bs) b).getD 0)).1,
      (greatestV ((placesOf (counting l known) bs).length + 1) (sysB (counting l known) bs mv) ((getM (ptsOf l known bs) a).getD 0) ((getM (ptsOf l known bs) b).getD 0)).2.1, 0) := by
  have h0 : endsErr l known bs mv a b = 0 := by unfold endsErr; rw [if_neg (by simpa using hw), if_pos (by simp [ha, hb])]
  unfold betweenV
  rw [if_neg (by simpa using h0)]
  have hg : ∀ x y, (greatestV ((placesOf (counting l known) bs).length + 1) (sysB (counting l known) bs mv) x y).2.2 = 0 := fun x y => by
    unfold greatestV
    rw [if_pos (show solvedOk _ _ = true from he)]
    split <;> rfl
  simp only [show sysOf l known bs mv = sysB (counting l known) bs mv from rfl]
  rw [if_neg (by simpa using hg _ _)]
theorem earlS_ordS {l : List Trace} {known : Int} {bs : List Bond} {a b : Place} (ha : (getM (ptsOf l known bs) a).isSome = true) (hb : (getM (ptsOf l known bs) b).isSome = true) : ∀ (sets : List (List Place)) (st : Bool × Bool), (∀ mv ∈ sets, withErr l known bs mv = 0 ∧ enough (counting l known) bs mv = true) →
    sets.foldl (stepE ((placesOf (counting l known) bs).length + 1) (sysB (counting l known) bs) ((getM (ptsOf l known bs) a).getD 0) ((getM (ptsOf l known bs) b).getD 0)) st = sets.foldl (ordStep l known bs a b) st
  | [], _, _ => rfl
  | mv :: sets, st, h => by
    rw [List.foldl_cons, List.foldl_cons]
    obtain ⟨h1, h2⟩ := h mv List.mem_cons_self
    have : stepE ((placesOf (counting l known) bs).length + 1) (sysB (counting l known) bs) ((getM (ptsOf l known bs) a).getD 0) ((getM (ptsOf l known bs) b).getD 0) st mv = ordStep l known bs a b st mv := by
      unfold stepE ordStep
      rw [between_set h1 h2 ha hb, between_set h1 h2 hb ha]
    rw [this]
    exact earlS_ordS ha hb sets _ fun mv hm => h mv (List.mem_cons_of_mem _ hm)
theorem earl_ok {l : List Trace} {known : Int} {bs : List Bond} {a b : Place} (h : (earlierV l known bs a b).2 = 0) : askErr l known bs = 0 ∧ (getM (ptsOf l known bs) a).isSome = true ∧ (getM (ptsOf l known bs) b).isSome = true ∧ (setsOf l known bs).2 ≠ [] := by
  unfold earlierV at h
  split at h
  · rename_i h1; exact absurd h h1
  · rename_i h1
    split at h
    · cases h
    · rename_i h2
      split at h
      · cases h
      · rename_i h3
        simp only [Bool.and_eq_false_iff, not_or, Bool.not_eq_false] at h2
        exact ⟨by simpa using h1, h2.1, h2.2, h3⟩
/-- Earlier says what the law's loop finds -/
theorem earl_ord {l : List Trace} {known : Int} {bs : List Bond} {a b : Place} (h : (earlierV l known bs a b).2 = 0) : (earlierV l known bs a b).1 = earlR (ordS l known bs a b (setsOf l known bs).2) ∧ setsV l known bs = ((setsOf l known bs).2, 0) ∧
    (∀ mv ∈ (setsOf l known bs).2, (betweenV l known bs mv a b).2.2 = 0 ∧ (betweenV l known bs mv b a).2.2 = 0) := by
  obtain ⟨h1, h2, h3, h4⟩ := earl_ok h
  refine ⟨?_, ?_, fun mv hm => ?_⟩
  · unfold earlierV
    rw [if_neg (by simpa using h1), if_neg (by simp [h2, h3]), if_neg h4]
    simp only
    unfold earlS ordS
    rw [earlS_ordS h2 h3 _ _ fun mv hm => setsOf_with h1 hm]
  · unfold setsV
    rw [if_neg (by simpa using h1), if_neg h4]
  · obtain ⟨g1, g2⟩ := setsOf_with h1 hm
    rw [between_set g1 g2 h2 h3, between_set g1 g2 h3 h2]
    exact ⟨rfl, rfl⟩
theorem earl_err {l : List Trace} {known : Int} {bs : List Bond} {a b : Place} : (earlierV l known bs a b).2 = (earlierV l known bs b a).2 := by
  unfold earlierV
  rw [Bool.and_comm]
  split
  · rfl
  · split
    · rfl
    · split
      · rfl
      · rfl

/-! ### of two places at most one is surely earlier -/
theorem greatest_both {pts : Int} {bs : List Bound} (hok : SysOk pts bs) (hs : solvedOk pts bs = true) {a b : Int} (a1 : 0 ≤ a) (a2 : a < pts) (b1 : 0 ≤ b) (b2 : b < pts) : 0 ≤ greatestR pts bs a b + greatestR pts bs b a := by
  obtain ⟨y, hy, hb⟩ := sol_bounded hok hs
  have hp := hok.p2
  have h1 := from_low hok a1 a2 hy (fun v _ => by have := hb v; have := hb a.toNat; unfold noneV; omega) b.toNat (by omega)
  have h2 := from_low hok b1 b2 hy (fun v _ => by have := hb v; have := hb b.toNat; unfold noneV; omega) a.toNat (by omega)
  rw [greatestR_val, greatestR_val]
  omega
theorem fold_false (l : List Trace) (known : Int) (bs : List Bond) (a b : Place) : ∀ (sets : List (List Place)) (st : Bool × Bool), st.1 = false → (sets.foldl (ordStep l known bs a b) st).1 = false
  | [], _, h => h
  | mv :: sets, st, h => by
    rw [List.foldl_cons]
    exact fold_false l known bs a b sets _ (by unfold ordStep; simp [h])
theorem fold_false2 (l : List Trace) (known : Int) (bs : List Bond) (a b : Place) : ∀ (sets : List (List Place)) (st : Bool × Bool), st.2 = false → (sets.foldl (ordStep l known bs a b) st).2 = false
  | [], _, h => h
  | mv :: sets, st, h => by
    rw [List.foldl_cons]
    exact fold_false2 l known bs a b sets _ (by unfold ordStep; simp [h])
/-- surely earlier: never later the other way round -/
theorem fold_sure {l : List Trace} {known : Int} {bs : List Bond} {a b : Place} : ∀ (sets : List (List Place)) (s t : Bool × Bool), (sets.foldl (ordStep l known bs a b) s).1 = true → t.2 = true → (sets.foldl (ordStep l known bs b a) t).2 = true
  | [], _, _, _, h => h
  | mv :: sets, s, t, h1, h2 => by
    rw [List.foldl_cons] at h1 ⊢
    have hs : (ordStep l known bs a b s mv).1 = true := by
      cases e : (ordStep l known bs a b s mv).1 with
      | true => rfl
      | false => rw [fold_false l known bs a b sets _ e] at h1; cases h1
    refine fold_sure sets _ _ h1 ?_
    unfold ordStep at hs ⊢
    simp only [Bool.and_eq_true, decide_eq_true_eq] at hs ⊢
    exact ⟨⟨h2, hs.1.2⟩, by omega⟩
theorem fold_first {l : List Trace} {known : Int} {bs : List Bond} {a b : Place} {mv : List Place} {sets : List (List Place)} {s : Bool × Bool} (h : ((mv :: sets).foldl (ordStep l known bs a b) s).1 = true) : (betweenV l known bs mv b a).2.1 = true ∧ (betweenV l known bs mv b a).1 < 0 := by
  rw [List.foldl_cons] at h
  have hs : (ordStep l known bs a b s mv).1 = true := by
    cases e : (ordStep l known bs a b s mv).1 with
    | true => rfl
    | false => rw [fold_false l known bs a b sets _ e] at h; cases h
  unfold ordStep at hs
  simp only [Bool.and_eq_true, decide_eq_true_eq] at hs
  exact ⟨hs.1.2, hs.2⟩
theorem fold_first2 {l : List Trace} {known : Int} {bs : List Bond} {a b : Place} {mv : List Place} {sets : List (List Place)} {s : Bool × Bool} (h : ((mv :: sets).foldl (ordStep l known bs a b) s).2 = true) : (betweenV l known bs mv a b).2.1 = true ∧ (betweenV l known bs mv a b).1 ≤ 0 := by
  rw [List.foldl_cons] at h
  have hs : (ordStep l known bs a b s mv).2 = true := by
    cases e : (ordStep l known bs a b s mv).2 with
    | true => rfl
    | false => rw [fold_false2 l known bs a b sets _ e] at h; cases h
  unfold ordStep at hs
  simp only [Bool.and_eq_true, decide_eq_true_eq] at hs
  exact ⟨hs.1.2, hs.2⟩
/-- not both -/
theorem ord_apart {l : List Trace} {known : Int} {bs : List Bond} {a b : Place} (h : (earlierV l known bs a b).2 = 0) (hS : (ordS l known bs a b (setsOf l known bs).2).1 = true) (hS2 : (ordS l known bs a b (setsOf l known bs).2).2 = true) : False := by
  obtain ⟨g1, g2, g3, g4⟩ := earl_ok h
  obtain ⟨mv, sets, he⟩ : ∃ mv sets, (setsOf l known bs).2 = mv :: sets := by
    cases e : (setsOf l known bs).2 with
    | nil => exact absurd e g4
    | cons x r => exact ⟨x, r, rfl⟩
  unfold ordS at hS hS2
  rw [he] at hS hS2
  obtain ⟨p1, p2⟩ := fold_first hS
  obtain ⟨q1, q2⟩ := fold_first2 hS2
  obtain ⟨k1, k2⟩ := setsOf_with g1 (mv := mv) (by rw [he]; exact List.mem_cons_self)
  rw [between_set k1 k2 g3 g2] at p1 p2
  rw [between_set k1 k2 g2 g3] at q1 q2
  obtain ⟨u, hu⟩ := Option.isSome_iff_exists.1 g2
  obtain ⟨v, hv⟩ := Option.isSome_iff_exists.1 g3
  have ru := ptsM_range _ (show getM (ptsM _ _) a = some u from hu)
  have rv := ptsM_range _ (show getM (ptsM _ _) b = some v from hv)
  rw [hu, hv] at p1 p2 q1 q2
  simp only [Option.getD_some] at p1 p2 q1 q2
  have hb := greatest_both (sysOk_of (checkSys_years (okO_of g1) mv)) (show solvedOk _ (sysB (counting l known) bs mv) = true from k2) ru.1 ru.2 rv.1 rv.2
  unfold greatestV at p1 p2 q1 q2
  rw [if_pos (show solvedOk _ (sysB (counting l known) bs mv) = true from k2)] at p1 p2 q1 q2
  have hsys : (linksL (counting l known) bs mv).map (boundOf (ptsM (placesOf (counting l known) bs) (placesOf (counting l known) bs).length)) = sysB (counting l known) bs mv := rfl
  rw [hsys] at hb
  split at p1
  · cases p1
  · rename_i n1
    rw [if_neg n1] at p2
    split at q1
    · cases q1
    · rename_i n2
      rw [if_neg n2] at q2
      simp only at p2 q2
      omega
theorem earl_one {l : List Trace} {known : Int} {bs : List Bond} {a b : Place} (h : (earlierV l known bs a b).2 = 0) (h1 : (earlierV l known bs a b).1 = 1) : (earlierV l known bs b a).1 = 2 := by
  have h' : (earlierV l known bs b a).2 = 0 := by rw [← earl_err]; exact h
  obtain ⟨g1, g2, g3, g4⟩ := earl_ok h
  obtain ⟨e1, _, _⟩ := earl_ord h
  obtain ⟨e2, _, _⟩ := earl_ord h'
  rw [e1] at h1
  have hS : (ordS l known bs a b (setsOf l known bs).2).1 = true := by
    unfold earlR at h1
    split at h1
    · assumption
    · split at h1 <;> cases h1
  have hN : (ordS l known bs b a (setsOf l known bs).2).2 = true := fold_sure _ _ _ hS rfl
  rw [e2]
  unfold earlR
  rw [if_neg, if_pos hN]
  intro hS2
  obtain ⟨mv, sets, he⟩ : ∃ mv sets, (setsOf l known bs).2 = mv :: sets := by
    cases e : (setsOf l known bs).2 with
    | nil => exact absurd e g4
    | cons x r => exact ⟨x, r, rfl⟩
  unfold ordS at hS hS2
  rw [he] at hS hS2
  obtain ⟨p1, p2⟩ := fold_first hS
  obtain ⟨q1, q2⟩ := fold_first hS2
  obtain ⟨k1, k2⟩ := setsOf_with g1 (mv := mv) (by rw [he]; exact List.mem_cons_self)
  rw [between_set k1 k2 g3 g2] at p1 p2
  rw [between_set k1 k2 g2 g3] at q1 q2
  obtain ⟨u, hu⟩ := Option.isSome_iff_exists.1 g2
  obtain ⟨v, hv⟩ := Option.isSome_iff_exists.1 g3
  have ru := ptsM_range _ (show getM (ptsM _ _) a = some u from hu)
  have rv := ptsM_range _ (show getM (ptsM _ _) b = some v from hv)
  rw [hu, hv] at p1 p2 q1 q2
  simp only [Option.getD_some] at p1 p2 q1 q2
  have hb := greatest_both (sysOk_of (checkSys_years (okO_of g1) mv)) (show solvedOk _ (sysB (counting l known) bs mv) = true from k2) ru.1 ru.2 rv.1 rv.2
  unfold greatestV at p1 p2 q1 q2
  rw [if_pos (show solvedOk _ (sysB (counting l known) bs mv) = true from k2)] at p1 p2 q1 q2
  have hsys : (linksL (counting l known) bs mv).map (boundOf (ptsM (placesOf (counting l known) bs) (placesOf (counting l known) bs).length)) = sysB (counting l known) bs mv := rfl
  rw [hsys] at hb
  split at p1
  · cases p1
  · rename_i n1
    rw [if_neg n1] at p2
    split at q1
    · cases q1
    · rename_i n2
      rw [if_neg n2] at q2
      simp only at p2 q2
      omega
end Go.Proofs.YtelnkflmnbhclaaGreat
end

/- Contracts that the laws lean on: NarP, RefP, RefA, RefL, Reg, Open. -/
import Derived.Test.YtelnkflmnbhclaaGreatG42
import Derived.Test.YtelnkflmnbhclaaGreatG45
import Derived.Test.YtelnkflmnbhclaaGreatG06
import Derived.Test.YtelnkflmnbhclaaGreatG01
import Derived.BigRegion
import Derived.Test.YtelnkflmnbhclaaGreatG19
import Derived.Test.YtelnkflmnbhclaaGreatG35
import Derived.Test.YtelnkflmnbhclaaGreatG41
import Derived.Test.YtelnkflmnbhclaaGreatG39
import Derived.Test.YtelnkflmnbhclaaGreatG46
import Derived.Test.YtelnkflmnbhclaaGreatG02
import Derived.ReadAgain
import Derived.Deep.Slices
/- What is proved: the plain law of StratumNarrower: what one trace, one bond or one admitted place more does to dates and to the least cost. Conditions: as said. -/
section
namespace Go.Proofs.YtelnkflmnbhclaaGreat
open Go.RowKit Go.Proofs Go.Shelf

theorem pc_snoc {l : List Trace} {x : Trace} (hx : x.kind ≠ 4) (known : Int) (y : Trace) : pc (l ++ [x]) known y = pc l known y := by
  unfold pc
  rw [List.any_append]
  simp [pv, hx]
theorem counting_snoc {l : List Trace} {x : Trace} (hx : x.kind ≠ 4) (known : Int) : ∃ t, counting (l ++ [x]) known = counting l known ++ t ∧ ∀ y ∈ t, y = x := by
  unfold counting
  rw [List.filter_append]
  have : (fun y => !pc (l ++ [x]) known y) = fun y => !pc l known y := by funext y; rw [pc_snoc hx]
  rw [this]
  exact ⟨_, rfl, fun y hy => by simpa using (List.mem_filter.1 hy).1⟩
theorem hasPl_iff {mv : List Place} {p : Place} : hasPl mv p = true ↔ p ∈ mv := by
  unfold hasPl
  simp only [List.any_eq_true, eqPlace_iff]
  exact ⟨fun ⟨x, hx, e⟩ => by rw [e]; exact hx, fun h => ⟨p, h, rfl⟩⟩
theorem hasPl_less {mv mv' : List Place} (hm : ∀ p ∈ mv', p ∈ mv) {p : Place} (h : hasPl mv p = false) : hasPl mv' p = false := by
  cases h' : hasPl mv' p with
  | false => rfl
  | true => rw [hasPl_iff.2 (hm p (hasPl_iff.1 h'))] at h; cases h
theorem linksL_more {ts t : List Trace} {bs b : List Bond} {mv mv' : List Place} (hm : ∀ p ∈ mv', p ∈ mv) {x : Link} (h : x ∈ linksL ts bs mv) : x ∈ linksL (ts ++ t) (bs ++ b) mv' := by
  unfold linksL at h ⊢
  rcases List.mem_append.1 h with h | h
  · rw [List.flatMap_append]
    exact List.mem_append_left _ (List.mem_append_left _ h)
  · rw [List.flatMap_append (xs := bs)]
    refine List.mem_append_right _ (List.mem_append_left _ ?_)
    obtain ⟨y, hy, h⟩ := List.mem_flatMap.1 h
    refine List.mem_flatMap.2 ⟨y, hy, ?_⟩
    unfold linkB at h ⊢
    split at h
    · cases h
    · rename_i hn
      simp only [Bool.or_eq_true, not_or, Bool.not_eq_true] at hn
      rw [hasPl_less hm hn.1, hasPl_less hm hn.2]
      exact h
theorem enough_more {ts t : List Trace} {bs b : List Bond} {mv mv' : List Place} (h1 : OkO ts bs) (h2 : OkO (ts ++ t) (bs ++ b)) (hm : ∀ p ∈ mv', p ∈ mv) (h : enough (ts ++ t) (bs ++ b) mv' = true) : enough ts bs mv = true := by
  rw [enough_iff h1]
  obtain ⟨f, hf⟩ := (enough_iff h2 mv').1 h
  exact ⟨f, fun x hx => hf x (linksL_more hm hx)⟩

theorem admFold_more {t : List Trace} (h : ∀ y ∈ t, y.kind ≠ 3) : ∀ m, t.foldl admStep m = m := by
  induction t with
  | nil => intro m; rfl
  | cons x t ih =>
    intro m
    rw [List.foldl_cons]
    have : admStep m x = m := by unfold admStep; rw [if_neg (h x List.mem_cons_self)]
    rw [this]
    exact ih (fun y hy => h y (List.mem_cons_of_mem _ hy)) m
theorem admitsOf_more {ts t : List Trace} (h : ∀ y ∈ t, y.kind ≠ 3) : admitsOf (ts ++ t) = admitsOf ts := by
  have : admitM (ts ++ t) = admitM ts := by unfold admitM; rw [List.foldl_append, admFold_more h]
  unfold admitsOf
  rw [this]

theorem cheapestM_less {ads : List Admit} {en en' : List Place → Bool} (h : ∀ mv, en' mv = true → en mv = true) (hne : (cheapestM ads en').2 ≠ []) :
    (cheapestM ads en).2 ≠ [] ∧ (cheapestM ads en).1 ≤ (cheapestM ads en').1 := by
  unfold cheapestM at hne ⊢
  simp only at hne ⊢
  have hl' := (sortLx_perm (chpTo ads en' (2 ^ ads.length)).2).length_eq
  have hl := (sortLx_perm (chpTo ads en (2 ^ ads.length)).2).length_eq
  have hout : (chpTo ads en' (2 ^ ads.length)).2 ≠ [] := fun e => by
    rw [e] at hl' hne
    exact hne (List.eq_nil_of_length_eq_zero hl')
  obtain ⟨x, hx⟩ := List.exists_mem_of_ne_nil _ hout
  obtain ⟨b, hb, rfl, hc, he⟩ := (chpInv ads en' _).from_ x hx
  obtain ⟨g1, g2, _⟩ := (chpInv ads en _).all b hb (h _ he)
  refine ⟨fun e => ?_, by omega⟩
  rw [e] at hl
  exact g1 (List.eq_nil_of_length_eq_zero hl.symm)

theorem comparePl_lt {a b : Place} : comparePl a b < 0 ↔ ltPl a b := by
  have := ltOf_pl a b
  unfold ltOf at this
  constructor
  · intro h
    rw [decide_eq_true h] at this
    exact of_decide_eq_true this.symm
  · intro h
    rw [decide_eq_true h] at this
    exact of_decide_eq_true this
theorem notOrd_iff {mv : List Place} : (∀ i, i < mv.length → notOrd mv i = false) ↔ mv.Pairwise ltPl := by
  rw [List.pairwise_iff_getElem]
  have key : ∀ i (hi : i + 1 < mv.length), notOrd mv (i + 1) = false ↔ ltPl mv[i] mv[i + 1] := fun i hi => by
    rw [notOrd_at (List.getElem?_eq_getElem (by omega)) (List.getElem?_eq_getElem hi), decide_eq_false_iff_not, ← comparePl_lt]
    omega
  constructor
  · intro h i j hi hj hij
    induction j with
    | zero => omega
    | succ j ih =>
      have h1 := (key j hj).1 (h (j + 1) hj)
      by_cases e : i = j
      · subst e; exact h1
      · exact ltPl_trans (ih (by omega) (by omega)) h1
  · intro h i hi
    cases i with
    | zero => rfl
    | succ i => exact (key i hi).2 (h i (i + 1) (by omega) hi (by omega))
theorem admittedErr_zero {ads : List Admit} {mv : List Place} : admittedErr ads mv = 0 ↔ mv.Pairwise ltPl ∧ ∀ p ∈ mv, isAdm ads p = true := by
  rw [← notOrd_iff]
  unfold admittedErr
  constructor
  · intro h
    split at h
    · cases h
    · rename_i h1
      split at h
      · cases h
      · rename_i h2
        refine ⟨fun i hi => ?_, fun p hp => ?_⟩
        · cases hn : notOrd mv i with
          | false => rfl
          | true => exact absurd (List.any_eq_true.2 ⟨i, List.mem_range.2 hi, hn⟩) h1
        · cases hn : isAdm ads p with
          | true => rfl
          | false => exact absurd (List.any_eq_true.2 ⟨p, hp, by simp [hn]⟩) h2
  · rintro ⟨h1, h2⟩
    rw [if_neg, if_neg]
    · intro h
      obtain ⟨p, hp, hn⟩ := List.any_eq_true.1 h
      rw [h2 p hp] at hn; cases hn
    · intro h
      obtain ⟨i, hi, hn⟩ := List.any_eq_true.1 h
      rw [h1 i (List.mem_range.1 hi)] at hn; cases hn
theorem admittedErr_less {ads : List Admit} {mv : List Place} (h : admittedErr ads mv = 0) (k : Nat) : admittedErr ads (mv.take k ++ mv.drop (k + 1)) = 0 := by
  rw [admittedErr_zero] at h ⊢
  rw [← List.eraseIdx_eq_take_drop_succ]
  exact ⟨h.1.sublist (List.eraseIdx_sublist _ _), fun p hp => h.2 p ((List.eraseIdx_sublist _ _).mem hp)⟩

theorem withErr_zero {l : List Trace} {known : Int} {bs : List Bond} {mv : List Place} : withErr l known bs mv = 0 ↔ askErr l known bs = 0 ∧ admittedErr (admitsOf (counting l known)) mv = 0 := by
  unfold withErr
  by_cases h : askErr l known bs = 0
  · rw [if_neg (by simpa using h)]; simp [h]
  · rw [if_pos h]; simp [h]
theorem datesV_is {l : List Trace} {known : Int} {bs : List Bond} {mv : List Place} : (datesV l known bs mv).2.1 = (decide (withErr l known bs mv = 0) && enough (counting l known) bs mv) := by
  unfold datesV
  by_cases h : withErr l known bs mv = 0
  · rw [if_neg (by simpa using h), decide_eq_true h, Bool.true_and]
    show _ = solvedOk _ (sysOf l known bs mv)
    split
    · rename_i h2; exact h2.symm
    · rename_i h2; simpa using h2
  · rw [if_pos h, decide_eq_false h]; rfl
theorem datesV_err {l : List Trace} {known : Int} {bs : List Bond} {mv : List Place} : (datesV l known bs mv).2.2 = withErr l known bs mv := by
  unfold datesV
  by_cases h : withErr l known bs mv = 0
  · rw [if_neg (by simpa using h), h]; split <;> rfl
  · rw [if_pos h]
theorem datesV_nil {l : List Trace} {known : Int} {bs : List Bond} {mv : List Place} (h : (datesV l known bs mv).2.1 = false) : (datesV l known bs mv).1 = [] := by
  unfold datesV at h ⊢
  split
  · rfl
  · rename_i h1
    rw [if_neg h1] at h
    split
    · rename_i h2; rw [if_pos h2] at h; cases h
    · rfl

/-- a layer above, or a year, more: no dates are added -/
theorem narrow_dates {l : List Trace} {x : Trace} {known : Int} {bs : List Bond} {mv : List Place} (hx : x.kind = 1 ∨ x.kind = 2) (h1 : (datesV l known bs mv).2.2 = 0)
    (h3 : (datesV (l ++ [x]) known bs mv).2.1 = true) : (datesV l known bs mv).2.1 = true := by
  rw [datesV_err] at h1
  rw [datesV_is, Bool.and_eq_true, decide_eq_true_iff] at h3 ⊢
  refine ⟨h1, ?_⟩
  obtain ⟨t, ht, hy⟩ := counting_snoc (l := l) (x := x) (by omega) known
  have o1 := okO_of (withErr_zero.1 h1).1
  have o2 := okO_of (withErr_zero.1 h3.1).1
  rw [ht] at o2 h3
  refine enough_more (t := t) (b := []) o1 (by rw [List.append_nil]; exact o2) (fun _ h => h) (mv' := mv) ?_
  rw [List.append_nil]; exact h3.2
/-- a layer above, or a year, more: the least cost does not become less -/
theorem narrow_cost {l : List Trace} {x : Trace} {known : Int} {bs : List Bond} (hx : x.kind = 1 ∨ x.kind = 2) (h1 : askErr l known bs = 0)
    (h3 : (cheapV (l ++ [x]) known bs).2.2 = 0) : (cheapV l known bs).2.2 = 0 ∧ (cheapV l known bs).1 ≤ (cheapV (l ++ [x]) known bs).1 := by
  have h2 : askErr (l ++ [x]) known bs = 0 := by
    unfold cheapV at h3
    split at h3
    · rename_i h; exact absurd h3 h
    · rename_i h; simpa using h
  obtain ⟨t, ht, hy⟩ := counting_snoc (l := l) (x := x) (by omega) known
  have o1 := okO_of h1
  have o2 := okO_of h2
  rw [ht] at o2
  have hen : ∀ mv, enough (counting l known ++ t) bs mv = true → enough (counting l known) bs mv = true := fun mv h =>
    enough_more (t := t) (b := []) o1 (by rw [List.append_nil]; exact o2) (fun _ h => h) (mv' := mv) (by rw [List.append_nil]; exact h)
  have had : admitsOf (counting l known ++ t) = admitsOf (counting l known) := admitsOf_more fun y h => by rw [hy y h]; omega
  unfold cheapV setsOf at h3 ⊢
  rw [if_neg (by simpa using h2), ht, had] at h3
  rw [if_neg (by simpa using h1), if_neg (by simpa using h2), ht, had]
  have key : (cheapestM (admitsOf (counting l known)) (enough (counting l known ++ t) bs)).2 ≠ [] := fun e => by rw [e] at h3; cases h3
  obtain ⟨g1, g2⟩ := cheapestM_less hen key
  cases e1 : (cheapestM (admitsOf (counting l known)) (enough (counting l known) bs)).2 with
  | nil => exact absurd e1 g1
  | cons s r =>
    cases e2 : (cheapestM (admitsOf (counting l known)) (enough (counting l known ++ t) bs)).2 with
    | nil => exact absurd e2 key
    | cons s' r' => exact ⟨rfl, g2⟩
/-- a bond more: no dates are added -/
theorem narrow_bond {l : List Trace} {known : Int} {bs : List Bond} {y : Bond} {mv : List Place} (h1 : (datesV l known bs mv).2.2 = 0)
    (h3 : (datesV l known (bs ++ [y]) mv).2.1 = true) : (datesV l known bs mv).2.1 = true := by
  rw [datesV_err] at h1
  rw [datesV_is, Bool.and_eq_true, decide_eq_true_iff] at h3 ⊢
  refine ⟨h1, ?_⟩
  refine enough_more (t := []) (b := [y]) (okO_of (withErr_zero.1 h1).1) (by rw [List.append_nil]; exact okO_of (withErr_zero.1 h3.1).1) (fun _ h => h) (mv' := mv) ?_
  rw [List.append_nil]; exact h3.2
/-- an admitted place less -/
theorem narrow_place {l : List Trace} {known : Int} {bs : List Bond} {mv : List Place} (k : Nat) (h1 : (datesV l known bs mv).2.2 = 0) :
    (datesV l known bs (mv.take k ++ mv.drop (k + 1))).2.2 = 0 ∧ ((datesV l known bs (mv.take k ++ mv.drop (k + 1))).2.1 = true → (datesV l known bs mv).2.1 = true) := by
  rw [datesV_err] at h1 ⊢
  obtain ⟨e1, e2⟩ := withErr_zero.1 h1
  refine ⟨withErr_zero.2 ⟨e1, admittedErr_less e2 k⟩, fun h3 => ?_⟩
  rw [datesV_is, Bool.and_eq_true, decide_eq_true_iff] at h3 ⊢
  refine ⟨h1, ?_⟩
  refine enough_more (t := []) (b := []) (okO_of e1) (by rw [List.append_nil, List.append_nil]; exact okO_of e1) (mv' := mv.take k ++ mv.drop (k + 1)) (fun p hp => ?_) ?_
  · rw [← List.eraseIdx_eq_take_drop_succ] at hp
    exact (List.eraseIdx_sublist _ _).mem hp
  · rw [List.append_nil, List.append_nil]; exact h3.2
end Go.Proofs.YtelnkflmnbhclaaGreat
end

/- What is proved: plain laws of the reference's places and admissions: putting places one by one into an ascending list gives the sorted list of them; the admission of a place is that of the last trace. Conditions: none. -/
section
namespace Go.Proofs.YtelnkflmnbhclaaGreat
open Go.RowKit Go.Proofs Go.Shelf

def lessPl (a b : Place) : Bool := decide (ltPl a b)
/-- where a place belongs in an ascending list, seen from its end -/
def putAt (l : List Place) (p : Place) : Nat → Nat
  | 0 => 0
  | k + 1 => if lessPl p (l.getD k z00) then putAt l p k else k + 1
def putPl (l : List Place) (p : Place) : List Place :=
  if 0 < putAt l p l.length ∧ l.getD (putAt l p l.length - 1) z00 = p then l else l.take (putAt l p l.length) ++ p :: l.drop (putAt l p l.length)
theorem putAt_le (l : List Place) (p : Place) : ∀ k, putAt l p k ≤ k
  | 0 => Nat.le_refl _
  | k + 1 => by
    have := putAt_le l p k
    rw [putAt]; split <;> omega
theorem putAt_above (l : List Place) (p : Place) : ∀ k j, putAt l p k ≤ j → j < k → ltPl p (l.getD j z00)
  | 0, j, _, h => absurd h (Nat.not_lt_zero _)
  | k + 1, j, h1, h2 => by
    rw [putAt] at h1
    split at h1
    · rename_i h
      by_cases e : j = k
      · subst e; exact of_decide_eq_true h
      · exact putAt_above l p k j h1 (by omega)
    · omega
theorem putAt_not (l : List Place) (p : Place) : ∀ k, 0 < putAt l p k → ¬ ltPl p (l.getD (putAt l p k - 1) z00)
  | 0, h => absurd h (Nat.not_lt_zero _)
  | k + 1, h => by
    rw [putAt] at h ⊢
    split
    · rename_i h1
      rw [if_pos h1] at h
      exact putAt_not l p k h
    · rename_i h1
      intro h2
      exact h1 (decide_eq_true h2)
theorem putPl_mem (l : List Place) (p q : Place) : q ∈ putPl l p ↔ q = p ∨ q ∈ l := by
  unfold putPl
  split
  · rename_i h
    constructor
    · exact .inr
    · rintro (rfl | h2)
      · have hlt : putAt l q l.length - 1 < l.length := by have := putAt_le l q l.length; omega
        rw [List.getD_eq_getElem?_getD, List.getElem?_eq_getElem hlt] at h
        rw [← h.2]
        exact List.getElem_mem _
      · exact h2
  · rw [List.mem_append, List.mem_cons]
    constructor
    · rintro (h | h | h)
      · exact .inr (List.mem_of_mem_take h)
      · exact .inl h
      · exact .inr (List.mem_of_mem_drop h)
    · rintro (h | h)
      · exact .inr (.inl h)
      · rw [← List.take_append_drop (putAt l p l.length) l, List.mem_append] at h
        exact h.elim .inl fun h => .inr (.inr h)
theorem ltPl_not {a b : Place} (h1 : ¬ ltPl a b) (h2 : a ≠ b) : ltPl b a := by
  cases a; cases b
  simp only [ltPl, Place.mk.injEq, ne_eq] at h1 h2 ⊢
  omega
theorem putPl_asc {l : List Place} (h : l.Pairwise ltPl) (p : Place) : (putPl l p).Pairwise ltPl := by
  unfold putPl
  split
  · exact h
  · rename_i hn
    have hle := putAt_le l p l.length
    have h1 := putAt_above l p l.length
    have h2 := putAt_not l p l.length
    obtain ⟨k, hk⟩ : ∃ k, putAt l p l.length = k := ⟨_, rfl⟩
    rw [hk] at hn hle h1 h2 ⊢
    have hge : ∀ i (hi : i < l.length), l.getD i z00 = l[i] := fun i hi => by rw [List.getD_eq_getElem?_getD, List.getElem?_eq_getElem hi]; rfl
    have low : ∀ q ∈ l.take k, ltPl q p := fun q hq => by
      obtain ⟨i, hi, rfl⟩ := List.getElem_of_mem hq
      rw [List.length_take] at hi
      rw [List.getElem_take]
      have hk0 : 0 < k := by omega
      have hlast : ltPl (l.getD (k - 1) z00) p := ltPl_not (h2 hk0) (fun e => hn ⟨hk0, e.symm⟩)
      rw [hge _ (by omega)] at hlast
      by_cases e : i = k - 1
      · subst e; exact hlast
      · exact ltPl_trans (List.pairwise_iff_getElem.1 h i (k - 1) (by omega) (by omega) (by omega)) hlast
    have high : ∀ q ∈ l.drop k, ltPl p q := fun q hq => by
      obtain ⟨i, hi, rfl⟩ := List.getElem_of_mem hq
      rw [List.length_drop] at hi
      rw [List.getElem_drop]
      have := h1 (k + i) (by omega) (by omega)
      rwa [hge _ (by omega)] at this
    rw [List.pairwise_append]
    refine ⟨h.sublist (List.take_sublist _ _), ?_, fun a ha b hb => ?_⟩
    · rw [List.pairwise_cons]
      exact ⟨high, h.sublist (List.drop_sublist _ _)⟩
    · rcases List.mem_cons.1 hb with rfl | hb
      · exact low a ha
      · exact ltPl_trans (low a ha) (high b hb)
theorem putAll_asc : ∀ (xs : List Place) {l : List Place}, l.Pairwise ltPl → (xs.foldl putPl l).Pairwise ltPl
  | [], _, h => h
  | x :: xs, _, h => putAll_asc xs (putPl_asc h x)
theorem putAll_mem : ∀ (xs : List Place) (l : List Place) (q : Place), q ∈ xs.foldl putPl l ↔ q ∈ l ∨ q ∈ xs
  | [], l, q => by simp
  | x :: xs, l, q => by
    rw [List.foldl_cons, putAll_mem xs, putPl_mem, List.mem_cons]
    constructor
    · rintro ((h | h) | h)
      · exact .inr (.inl h)
      · exact .inl h
      · exact .inr (.inr h)
    · rintro (h | h | h)
      · exact .inl (.inr h)
      · exact .inl (.inl h)
      · exact .inr h
/-- two ascending lists with the same members are equal -/
theorem asc_eq {l m : List Place} (hl : l.Pairwise ltPl) (hm : m.Pairwise ltPl) (h : ∀ q, q ∈ l ↔ q ∈ m) : l = m := by
  have nd : ∀ {l : List Place}, l.Pairwise ltPl → l.Nodup := fun h => h.imp fun {a b} h1 e => by subst e; exact ltPl_irrefl _ h1
  refine List.Perm.eq_of_pairwise ?_ hl hm (perm_of_sub (nd hl) (nd hm) h)
  intro a b _ _ h1 h2
  exact absurd (ltPl_trans h1 h2) (ltPl_irrefl _)
theorem sortPl_asc {l : List Place} (h : l.Nodup) : (sortPl l).Pairwise ltPl := by
  have h1 := sortPl_pairwise l
  have h2 : (sortPl l).Nodup := (sortPl_perm l).nodup_iff.2 h
  exact (h1.and h2).imp fun {a b} h => by
    obtain ⟨h3, h4⟩ := h
    rw [gePl_iff] at h3
    exact ltPl_not h3 (fun e => h4 e.symm)
theorem placesOf_asc (ts : List Trace) (bs : List Bond) : (placesOf ts bs).Pairwise ltPl := sortPl_asc (nodup_uniq _)
theorem putAll_places (ts : List Trace) (bs : List Bond) : (placeList ts bs).foldl putPl [] = placesOf ts bs :=
  asc_eq (putAll_asc _ List.Pairwise.nil) (placesOf_asc ts bs) fun q => by rw [putAll_mem, placesOf_mem]; simp

/-! ### admissions -/
def movedPl (ts : List Trace) : List Place := (ts.filter fun x => decide (x.kind = 3)).map placeT
theorem admitM_keys : ∀ (ts : List Trace) (m : List (Place × Admit)) (q : Place), q ∈ (ts.foldl admStep m).map (·.1) ↔ q ∈ m.map (·.1) ∨ q ∈ movedPl ts
  | [], m, q => by simp [movedPl]
  | x :: ts, m, q => by
    rw [List.foldl_cons, admitM_keys ts]
    unfold admStep movedPl
    by_cases h : x.kind = 3
    · rw [if_pos h, List.filter_cons_of_pos (by simpa using h), List.map_cons, List.mem_cons, keys_putM]
      constructor
      · rintro ((h | h) | h)
        · exact .inr (.inl h)
        · exact .inl h
        · exact .inr (.inr h)
      · rintro (h | h | h)
        · exact .inl (.inr h)
        · exact .inl (.inl h)
        · exact .inr h
    · rw [if_neg h, List.filter_cons_of_neg (by simpa using h)]
theorem putAll_moved (ts : List Trace) : (movedPl ts).foldl putPl [] = sortPl ((admitM ts).map (·.1)) :=
  asc_eq (putAll_asc _ List.Pairwise.nil) (sortPl_asc (admFold_nodup ts [] List.nodup_nil)) fun q => by
    rw [putAll_mem, (sortPl_perm _).mem_iff]
    unfold admitM
    rw [admitM_keys]; simp
/-- the admission of a place by traces: that of the last one -/
def admStepR (p : Place) (x : Admit) (t : Trace) : Admit := if t.kind = 3 ∧ t.pit = p.pit ∧ t.layer = p.layer then ⟨p, t.cost, t.id⟩ else x
def admR (ts : List Trace) (p : Place) : Admit := ts.foldl (admStepR p) ⟨p, 0, 0⟩
theorem admR_eq (p : Place) : ∀ (ts : List Trace) (m : List (Place × Admit)), ts.foldl (admStepR p) ((getM m p).getD ⟨p, 0, 0⟩) = (getM (ts.foldl admStep m) p).getD ⟨p, 0, 0⟩
  | [], m => rfl
  | x :: ts, m => by
    rw [List.foldl_cons, List.foldl_cons, ← admR_eq p ts]
    congr 1
    unfold admStepR admStep
    by_cases h : x.kind = 3
    · rw [if_pos h, getM_putM]
      by_cases e : p = placeT x
      · rw [if_pos e, if_pos ⟨h, by rw [e]; rfl, by rw [e]; rfl⟩, e]; rfl
      · rw [if_neg e, if_neg]
        rintro ⟨_, h1, h2⟩
        refine e ?_
        cases p
        simp only at h1 h2
        rw [← h1, ← h2]; rfl
    · rw [if_neg h, if_neg (fun e => h e.1)]
theorem admitsOf_eq (ts : List Trace) : admitsOf ts = ((movedPl ts).foldl putPl []).map (admR ts) := by
  unfold admitsOf
  rw [putAll_moved]
  refine List.map_congr_left fun p _ => ?_
  exact (admR_eq p ts []).symm
end Go.Proofs.YtelnkflmnbhclaaGreat
end

/- What is proved: the contracts of the reference's within, IsPlace and CheckTrace: they return what the program's do. Conditions: none. -/
section
namespace Go.Proofs.YtelnkflmnbhclaaGreat
open Go.RowKit Go.Proofs Go.Shelf

theorem rWithin2_any (n low high : Int) (w : World) :
    Calls Tryz.prog 154 #[.int .i64 n, .int .i64 low, .int .i64 high] w fun e w' => e = .returned (.bool (inB n low high)) ∧ w' = w := by
  by_cases h : low ≤ n
  · go_enter Tryz.func154, Tryz.ntmps154
    go_wp2
    go_ret
    exact ⟨by simp [inB, h], rfl⟩
  · go_enter Tryz.func154, Tryz.ntmps154
    go_wp2
    go_ret
    refine ⟨?_, rfl⟩
    have : inB n low high = false := inB_no.2 (by omega)
    rw [this]; rfl
theorem rWithin_any (n low high : Int) (w : World) :
    Calls Tryz.prog 102 #[.int .i64 n, .int .i64 low, .int .i64 high] w fun e w' => e = .returned (.bool (inB n low high)) ∧ w' = w := by
  go_enter Tryz.func102, Tryz.ntmps102
  go_wp2_with (go_at_call 154; (with_reducible refine (rWithin2_any _ _ _ _).mono ?_); rintro e w' ⟨rfl, rfl⟩)
  go_ret
  exact ⟨rfl, rfl⟩
theorem rIsPlace_any (p l : Int) (w : World) :
    Calls Tryz.prog 101 #[.agg #[.int .i64 p, .int .i64 l]] w fun e w' => e = .returned (.bool (isPlaceB p l)) ∧ Below w.heap.size w w' := by
  cases hp : inB p 1 20
  all_goals
    go_enter Tryz.func101, Tryz.ntmps101
    go_wp2_with (go_at_call 102; refine (rWithin_any _ _ _ _).mono ?_; rintro e w' ⟨rfl, rfl⟩; try rw [hp])
    go_ret
    exact ⟨by simp [isPlaceB, hp], (Below.refl _ _).alloc (Nat.le_refl _) _⟩
theorem eqT_void (a b d e f g h i j : Int) : eqTrace ⟨a, b, 4, d, e, f, g, h, i, j⟩ (yT ⟨a, b, 4, d, e, f, g, h, i, j⟩) = eqTrace ⟨0, 0, 0, d, e, f, g, h, i, 0⟩ ⟨0, 0, 0, 0, 0, 0, 0, 0, 0, 0⟩ := by simp [eqTrace, yT]
theorem eqT_above (a b d e f g h i j : Int) : eqTrace ⟨a, b, 1, d, e, f, g, h, i, j⟩ (yT ⟨a, b, 1, d, e, f, g, h, i, j⟩) = eqTrace ⟨0, 0, 0, 0, 0, 0, g, h, i, j⟩ ⟨0, 0, 0, 0, 0, 0, 0, 0, 0, 0⟩ := by simp [eqTrace, yT]
theorem eqT_dated (a b d e f g h i j : Int) : eqTrace ⟨a, b, 2, d, e, f, g, h, i, j⟩ (yT ⟨a, b, 2, d, e, f, g, h, i, j⟩) = eqTrace ⟨0, 0, 0, 0, 0, f, 0, 0, i, j⟩ ⟨0, 0, 0, 0, 0, 0, 0, 0, 0, 0⟩ := by simp [eqTrace, yT]
theorem eqT_moved (a b d e f g h i j : Int) : eqTrace ⟨a, b, 3, d, e, f, g, h, i, j⟩ (yT ⟨a, b, 3, d, e, f, g, h, i, j⟩) = eqTrace ⟨0, 0, 0, 0, 0, f, g, h, 0, j⟩ ⟨0, 0, 0, 0, 0, 0, 0, 0, 0, 0⟩ := by simp [eqTrace, yT]

set_option maxHeartbeats 2000000 in
set_option maxRecDepth 100000 in
theorem rCheckTrace_void (a b d e f g h i j : Int) (w : World) :
    Calls Tryz.prog 49 #[.agg #[.int .i64 a, .int .i64 b, .int .u8 4, .int .i64 d, .int .i64 e, .int .i64 f, .int .i64 g, .int .i64 h, .int .i64 i, .int .i64 j]] w
      fun e' w' => e' = .returned (.int .i64 (checkTrace ⟨a, b, 4, d, e, f, g, h, i, j⟩)) ∧ Below w.heap.size w w' := by
  go_enter Tryz.func49, Tryz.ntmps49
  go_wp2_with (first
    | (go_at_call 102; refine (rWithin_any _ _ _ _).mono ?_; rintro e w' ⟨rfl, rfl⟩)
    | (go_at_call 101; refine (rIsPlace_any _ _ _).mono ?_; rintro e wI ⟨rfl, hbI⟩; obtain ⟨hccI, hffI⟩ := bcell hbI; have hzI := hbI.size; (try simp only [World.size_alloc, World.size_setCell, World.size_drew, World.heap_drewN] at hzI); have : w.heap.size < wI.heap.size := (by omega); have : w.heap.size + 1 < wI.heap.size := (by omega)))
  all_goals go_ret
  all_goals refine ⟨retI ?_, ?_⟩
  all_goals first | ((repeat' (first | (with_reducible assumption) | (with_reducible exact Below.refl _ _) | (with_reducible refine Below.drew ?_) | (with_reducible refine below_drewN' ?_ _) | (with_reducible refine Below.alloc ?_ ?_ _) | (with_reducible refine Below.setCell ?_ ?_ _) | (with_reducible refine below_step (by assumption) ?_ ?_))) <;> first | (simp; done) | (simp; omega) | omega) | (simp_all [checkTrace, okT, eqT_void]; done) | (simp_all [checkTrace, okT, isPlaceB, inB, eqT_void]; done) | (simp_all [checkTrace, okT, isPlaceB, inB, eqT_void]; omega)

set_option maxHeartbeats 2000000 in
set_option maxRecDepth 100000 in
theorem rCheckTrace_above (a b d e f g h i j : Int) (w : World) :
    Calls Tryz.prog 49 #[.agg #[.int .i64 a, .int .i64 b, .int .u8 1, .int .i64 d, .int .i64 e, .int .i64 f, .int .i64 g, .int .i64 h, .int .i64 i, .int .i64 j]] w
      fun e' w' => e' = .returned (.int .i64 (checkTrace ⟨a, b, 1, d, e, f, g, h, i, j⟩)) ∧ Below w.heap.size w w' := by
  go_enter Tryz.func49, Tryz.ntmps49
  go_wp2_with (first
    | (go_at_call 102; refine (rWithin_any _ _ _ _).mono ?_; rintro e w' ⟨rfl, rfl⟩)
    | (go_at_call 101; refine (rIsPlace_any _ _ _).mono ?_; rintro e wI ⟨rfl, hbI⟩; obtain ⟨hccI, hffI⟩ := bcell hbI; have hzI := hbI.size; (try simp only [World.size_alloc] at hzI); have : w.heap.size < wI.heap.size := (by omega); have : w.heap.size + 1 < wI.heap.size := (by omega)))
  all_goals go_ret
  all_goals refine ⟨retI ?_, ?_⟩
  all_goals first | ((repeat' (first | (with_reducible assumption) | (with_reducible exact Below.refl _ _) | (with_reducible refine Below.drew ?_) | (with_reducible refine below_drewN' ?_ _) | (with_reducible refine Below.alloc ?_ ?_ _) | (with_reducible refine Below.setCell ?_ ?_ _) | (with_reducible refine below_step (by assumption) ?_ ?_))) <;> first | (simp; done) | (simp; omega) | omega) | (simp_all [checkTrace, okT, isPlaceB, eqT_above]; done) | (simp_all [checkTrace, okT, isPlaceB, inB, eqT_above]; done) | (simp_all [checkTrace, okT, isPlaceB, inB, eqT_above]; omega)

set_option maxHeartbeats 2000000 in
set_option maxRecDepth 100000 in
theorem rCheckTrace_dated (a b d e f g h i j : Int) (w : World) :
    Calls Tryz.prog 49 #[.agg #[.int .i64 a, .int .i64 b, .int .u8 2, .int .i64 d, .int .i64 e, .int .i64 f, .int .i64 g, .int .i64 h, .int .i64 i, .int .i64 j]] w
      fun e' w' => e' = .returned (.int .i64 (checkTrace ⟨a, b, 2, d, e, f, g, h, i, j⟩)) ∧ Below w.heap.size w w' := by
  go_enter Tryz.func49, Tryz.ntmps49
  go_wp2_with (first
    | (go_at_call 102; refine (rWithin_any _ _ _ _).mono ?_; rintro e w' ⟨rfl, rfl⟩)
    | (go_at_call 101; refine (rIsPlace_any _ _ _).mono ?_; rintro e wI ⟨rfl, hbI⟩; obtain ⟨hccI, hffI⟩ := bcell hbI; have hzI := hbI.size; (try simp only [World.size_alloc] at hzI); have : w.heap.size < wI.heap.size := (by omega); have : w.heap.size + 1 < wI.heap.size := (by omega)))
  all_goals go_ret
  all_goals refine ⟨retI ?_, ?_⟩
  all_goals first | ((repeat' (first | (with_reducible assumption) | (with_reducible exact Below.refl _ _) | (with_reducible refine Below.drew ?_) | (with_reducible refine below_drewN' ?_ _) | (with_reducible refine Below.alloc ?_ ?_ _) | (with_reducible refine Below.setCell ?_ ?_ _) | (with_reducible refine below_step (by assumption) ?_ ?_))) <;> first | (simp; done) | (simp; omega) | omega) | (simp_all [checkTrace, okT, isPlaceB, eqT_dated]; done) | (simp_all [checkTrace, okT, isPlaceB, inB, eqT_dated]; done) | (simp_all [checkTrace, okT, isPlaceB, inB, eqT_dated]; omega)

set_option maxHeartbeats 2000000 in
set_option maxRecDepth 100000 in
theorem rCheckTrace_moved (a b d e f g h i j : Int) (w : World) :
    Calls Tryz.prog 49 #[.agg #[.int .i64 a, .int .i64 b, .int .u8 3, .int .i64 d, .int .i64 e, .int .i64 f, .int .i64 g, .int .i64 h, .int .i64 i, .int .i64 j]] w
      fun e' w' => e' = .returned (.int .i64 (checkTrace ⟨a, b, 3, d, e, f, g, h, i, j⟩)) ∧ Below w.heap.size w w' := by
  go_enter Tryz.func49, Tryz.ntmps49
  go_wp2_with (first
    | (go_at_call 102; refine (rWithin_any _ _ _ _).mono ?_; rintro e w' ⟨rfl, rfl⟩)
    | (go_at_call 101; refine (rIsPlace_any _ _ _).mono ?_; rintro e wI ⟨rfl, hbI⟩; obtain ⟨hccI, hffI⟩ := bcell hbI; have hzI := hbI.size; (try simp only [World.size_alloc] at hzI); have : w.heap.size < wI.heap.size := (by omega); have : w.heap.size + 1 < wI.heap.size := (by omega)))
  all_goals go_ret
  all_goals refine ⟨retI ?_, ?_⟩
  all_goals first | ((repeat' (first | (with_reducible assumption) | (with_reducible exact Below.refl _ _) | (with_reducible refine Below.drew ?_) | (with_reducible refine below_drewN' ?_ _) | (with_reducible refine Below.alloc ?_ ?_ _) | (with_reducible refine Below.setCell ?_ ?_ _) | (with_reducible refine below_step (by assumption) ?_ ?_))) <;> first | (simp; done) | (simp; omega) | omega) | (simp_all [checkTrace, okT, isPlaceB, eqT_moved]; done) | (simp_all [checkTrace, okT, isPlaceB, inB, eqT_moved]; done) | (simp_all [checkTrace, okT, isPlaceB, inB, eqT_moved]; omega)

set_option maxHeartbeats 2000000 in
set_option maxRecDepth 100000 in
theorem rCheckTrace_other (a b c d e f g h i j : Int) (w : World) (h1 : c ≠ 1) (h2 : c ≠ 2) (h3 : c ≠ 3) (h4 : c ≠ 4) :
    Calls Tryz.prog 49 #[.agg #[.int .i64 a, .int .i64 b, .int .u8 c, .int .i64 d, .int .i64 e, .int .i64 f, .int .i64 g, .int .i64 h, .int .i64 i, .int .i64 j]] w
      fun e' w' => e' = .returned (.int .i64 (checkTrace ⟨a, b, c, d, e, f, g, h, i, j⟩)) ∧ Below w.heap.size w w' := by
  go_enter Tryz.func49, Tryz.ntmps49
  go_wp2_with (first
    | (go_at_call 102; refine (rWithin_any _ _ _ _).mono ?_; rintro e w' ⟨rfl, rfl⟩)
    | (go_at_call 101; refine (rIsPlace_any _ _ _).mono ?_; rintro e wI ⟨rfl, hbI⟩; obtain ⟨hccI, hffI⟩ := bcell hbI; have hzI := hbI.size; (try simp only [World.size_alloc, World.size_setCell, World.size_drew, World.heap_drewN] at hzI); have : w.heap.size < wI.heap.size := (by omega); have : w.heap.size + 1 < wI.heap.size := (by omega)))
  all_goals go_ret
  all_goals refine ⟨retI ?_, ?_⟩
  all_goals first | ((repeat' (first | (with_reducible assumption) | (with_reducible exact Below.refl _ _) | (with_reducible refine Below.drew ?_) | (with_reducible refine below_drewN' ?_ _) | (with_reducible refine Below.alloc ?_ ?_ _) | (with_reducible refine Below.setCell ?_ ?_ _) | (with_reducible refine below_step (by assumption) ?_ ?_))) <;> first | (simp; done) | (simp; omega) | omega) | (simp_all [checkTrace, okT, isPlaceB]; done) | (simp_all [checkTrace, okT, isPlaceB, inB]; done) | (simp_all [checkTrace, okT, isPlaceB, inB]; omega)

theorem rCheckTrace_any (a b c d e f g h i j : Int) (w : World) :
    Calls Tryz.prog 49 #[.agg #[.int .i64 a, .int .i64 b, .int .u8 c, .int .i64 d, .int .i64 e, .int .i64 f, .int .i64 g, .int .i64 h, .int .i64 i, .int .i64 j]] w
      fun e' w' => e' = .returned (.int .i64 (checkTrace ⟨a, b, c, d, e, f, g, h, i, j⟩)) ∧ Below w.heap.size w w' := by
  by_cases h1 : c = 1
  · subst h1; exact rCheckTrace_above a b d e f g h i j w
  by_cases h2 : c = 2
  · subst h2; exact rCheckTrace_dated a b d e f g h i j w
  by_cases h3 : c = 3
  · subst h3; exact rCheckTrace_moved a b d e f g h i j w
  by_cases h4 : c = 4
  · subst h4; exact rCheckTrace_void a b d e f g h i j w
  exact rCheckTrace_other a b c d e f g h i j w h1 h2 h3 h4
end Go.Proofs.YtelnkflmnbhclaaGreat
end

/- What is proved: the contract of the reference's less, and the plain laws of put's ways. Conditions: none. -/
section
namespace Go.Proofs.YtelnkflmnbhclaaGreat
open Go.RowKit Go.Proofs Go.Shelf

theorem rLess_any (a b c d : Int) (w : World) :
    Calls Tryz.prog 142 #[.agg #[.int .i64 a, .int .i64 b], .agg #[.int .i64 c, .int .i64 d]] w fun e w' => e = .returned (.bool (lessPl ⟨a, b⟩ ⟨c, d⟩)) ∧ Below w.heap.size w w' := by
  have hB : ∀ o1 o2, Below w.heap.size w ((w.alloc o1).alloc o2) := fun o1 o2 => ((Below.refl _ _).alloc (Nat.le_refl _) _).alloc (by simp) _
  by_cases h1 : a < c
  · go_enter Tryz.func142, Tryz.ntmps142
    go_wp2
    go_ret
    exact ⟨by simp [lessPl, ltPl, h1], hB _ _⟩
  · by_cases h2 : a = c
    · have h3 : (a == c) = true := beq_iff_eq.2 h2
      have H2 := Lib.hid h2
      clear h2
      go_enter Tryz.func142, Tryz.ntmps142
      go_wp2
      go_ret
      refine ⟨?_, hB _ _⟩
      have h2 := H2.out
      by_cases h4 : b < d <;> simp [lessPl, ltPl, h2, h4]
    · have h3 : (a == c) = false := beq_eq_false_iff_ne.2 h2
      go_enter Tryz.func142, Tryz.ntmps142
      go_wp2
      go_ret
      exact ⟨by simp [lessPl, ltPl, h1, h2], hB _ _⟩
end Go.Proofs.YtelnkflmnbhclaaGreat
end

/- What is proved: a region that draws its order and has guarded operations: a table of values, one step for each operation, one end for every order. Conditions: none. -/
section
namespace Go.Proofs.YtelnkflmnbhclaaGreat
open Go.RowKit Go.Proofs

def bare (o : Oper) : Oper := { o with guard := none }
def bareL (l : List Oper) : List Oper := l.map bare
theorem bare_at {l : List Oper} {j : Nat} : (bareL l).toArray[j]? = (l.toArray[j]?).map bare := by simp [bareL]
theorem bare_of {l : List Oper} {j : Nat} {o : Oper} (h : l.toArray[j]? = some o) : (bareL l).toArray[j]? = some (bare o) := by rw [bare_at, h]; rfl
theorem bare_size (l : List Oper) : (bareL l).toArray.size = l.toArray.size := by simp [bareL]
theorem dst_bare (l : List Oper) (j : Nat) : dstOf (bareL l).toArray j = dstOf l.toArray j := by
  unfold dstOf
  rw [bare_at]
  cases l.toArray[j]? <;> rfl
theorem ready_bare {l : List Oper} {i : Nat} {listed : Array Bool} (h : i ∈ Region.ready .any l.toArray listed) : i ∈ Region.ready .any (bareL l).toArray listed := by
  obtain ⟨h1, o, h2, h3⟩ := mem_ready.1 h
  exact mem_ready.2 ⟨h1, bare o, bare_of h2, h3⟩
theorem ready_back {l : List Oper} {i : Nat} {listed : Array Bool} (h : i ∈ Region.ready .any (bareL l).toArray listed) : i ∈ Region.ready .any l.toArray listed := by
  obtain ⟨h1, o, h2, h3⟩ := mem_ready.1 h
  rw [bare_at] at h2
  cases ho : l.toArray[i]? with
  | none => rw [ho] at h2; cases h2
  | some o' =>
    rw [ho] at h2
    cases h2
    exact mem_ready.2 ⟨h1, o', ho, h3⟩
section
variable {P : Program} {nn : Nat} {l : List Oper}
theorem wpAnyIn_invG {Q : Exit → Act → World → Prop} {m : Nat} (hok : tabOk (bareL l).toArray m = true) (I : Array Bool → Act → World → Prop)
    (hstep : ∀ listed i o b W, listed.size = l.toArray.size → i ∈ Region.ready .any l.toArray listed → l.toArray[i]? = some o → I listed b W →
      if Region.wanted o (yielded l.toArray b.tmps) = true then o.wpIn Fence.wide nn P b W (fun b' W' => I (listed.setIfInBounds i true) b' W') Q else I (listed.setIfInBounds i true) (b.put o.dst undef) W)
    (hend : ∀ b W, I (Array.replicate l.toArray.size true) b W → Q .normal b W) :
    ∀ (fuel : Nat) (listed : Array Bool) (b : Act) (W : World), left listed = fuel → listed.size = l.toArray.size → I listed b W → wpAnyIn Fence.wide nn P .any l.toArray Q fuel listed b W := by
  intro fuel
  induction fuel with
  | zero =>
    intro listed b W hl hs h
    have hall := left_zero hl
    rw [hs] at hall
    refine ⟨?_, hend b W (hall ▸ h)⟩
    apply List.eq_nil_iff_forall_not_mem.2
    intro i hi
    obtain ⟨hun, o, ho, _⟩ := mem_ready.1 hi
    have hlt : i < l.toArray.size := (Array.getElem?_eq_some_iff.1 ho).1
    rw [hall] at hun
    rw [Array.getD_eq_getD_getElem?, Array.getElem?_replicate, if_pos hlt] at hun
    cases hun
  | succ fuel ih =>
    intro listed b W hl hs h
    refine ⟨fun hnil => ?_, fun i hi => ?_⟩
    · obtain ⟨i, hi, hmin⟩ := left_pos (listed := listed) (by omega)
      have hlt : i < l.toArray.size := by rw [← hs]; exact (Array.getElem?_eq_some_iff.1 hi).1
      have ho : l.toArray[i]? = some l.toArray[i] := Array.getElem?_eq_getElem hlt
      obtain ⟨_, _, hed, _⟩ := tabOk_at hok (bare_of ho)
      have : i ∈ Region.ready .any l.toArray listed := mem_ready.2 ⟨by simp [hi], l.toArray[i], ho, fun e he hbd => by have := hmin e.on (hed e he hbd); simp [this]⟩
      rw [hnil] at this
      cases this
    · obtain ⟨hun, o, ho, hall⟩ := mem_ready.1 hi
      have hlt : i < listed.size := by rw [hs]; exact (Array.getElem?_eq_some_iff.1 ho).1
      have hf : listed[i]? = some false := by
        rw [Array.getElem?_eq_getElem hlt]
        rw [Array.getD_eq_getD_getElem?, Array.getElem?_eq_getElem hlt] at hun
        simpa using hun
      have hl' : left (listed.setIfInBounds i true) = fuel := by have := left_set hf; omega
      have hst := hstep listed i o b W hs hi ho h
      unfold wpOpIn
      simp only [ho]
      split
      · rename_i hw
        rw [if_pos hw] at hst
        exact Oper.wpIn_mono (fun b' W' h' => ih _ b' W' hl' (by simp [hs]) h') hst
      · rename_i hw
        rw [if_neg hw] at hst
        exact ⟨fun _ _ => trivial, ih _ _ _ hl' (by simp [hs]) hst⟩
/-- what is known while some operations are done -/
structure ValsAt (l : List Oper) (a : Act) (V : Nat → Value) (G : World → Prop) (listed : Array Bool) (b : Act) (W : World) : Prop where
  tab : TabAt (bareL l).toArray V a listed b
  later : Later (bareL l).toArray a listed b
  glob : G W
theorem ValsAt.val {a b : Act} {V : Nat → Value} {G : World → Prop} {listed : Array Bool} {W : World} (h : ValsAt l a V G listed b W) (j d : Nat) (hd : dstOf l.toArray j = some d) (hl : listed.getD j false = true) : b.tmps.getD d undef = V j :=
  h.tab.val j d (by rw [dst_bare]; exact hd) hl
/-- a guard that does not let an operation be done, or does -/
theorem wanted_of {a b : Act} {V : Nat → Value} {G : World → Prop} {listed : Array Bool} {W : World} (h : ValsAt l a V G listed b W) {o : Oper} {j d : Nat} {g v : Bool} (hg : o.guard = some (j, g)) (hd : dstOf l.toArray j = some d) (hl : listed.getD j false = true) (hv : V j = .bool v) :
    Region.wanted o (yielded l.toArray b.tmps) = (v == g) := by
  have h1 := h.val j d hd hl
  rw [hv] at h1
  have h2 : b.tmps[d]? = some (.bool v) := by
    rw [Array.getD_eq_getD_getElem?] at h1
    cases hx : b.tmps[d]? with
    | none => rw [hx] at h1; cases h1
    | some x => rw [hx] at h1; simpa using h1
  have h3 : yielded l.toArray b.tmps j = some v := by
    unfold yielded
    have hd' : (l.toArray[j]?).bind (·.dst) = some d := hd
    rw [hd', Option.bind_some, h2]
  unfold Region.wanted
  rw [hg]
  simp only [h3]
  cases v <;> cases g <;> rfl
theorem wpIn_region_vals {id : Nat} {Q : Exit → Act → World → Prop} {a : Act} {w : World} (m : Nat) (hm : P.follows .mixedOrders = true) (hok : tabOk (bareL l).toArray m = true) (hT : m = a.tmps.size) (V : Nat → Value) (G : World → Prop) (hG : G w.drew)
    (hstep : ∀ listed i o b W, i ∈ Region.ready .any l.toArray listed → l.toArray[i]? = some o → ValsAt l a V G listed b W →
      if Region.wanted o (yielded l.toArray b.tmps) = true then o.wpIn Fence.wide nn P b W (fun b' W' => b' = b.put o.dst (V i) ∧ G W') Q else V i = undef)
    (hend : ∀ W, G W → Q .normal { tmps := framed (bareL l).toArray V a.tmps (bareL l).toArray.size, defers := a.defers } W) : (Code.region id l.toArray true).wpIn Fence.wide nn P Q a w := by
  refine wpIn_region_any hm ?_
  refine wpAnyIn_invG hok (fun listed b W => ValsAt l a V G listed b W) ?_ ?_ _ _ _ _ ?_ (by simp) ?_
  · intro listed i o b W hs hi ho h
    have hst := hstep listed i o b W hi ho h
    have hs' : listed.size = (bareL l).toArray.size := by rw [bare_size]; exact hs
    have step : ∀ W', G W' → ValsAt l a V G (listed.setIfInBounds i true) (b.put o.dst (V i)) W' := fun W' hW' =>
      ⟨(h.tab.set hok hT (ready_bare hi) (bare_of ho) : TabAt (bareL l).toArray V a (listed.setIfInBounds i true) (b.put (bare o).dst (V i))), (h.later.set hok (bare_of ho) hs' : Later (bareL l).toArray a (listed.setIfInBounds i true) (b.put (bare o).dst (V i))), hW'⟩
    split
    · rename_i hw
      rw [if_pos hw] at hst
      refine Oper.wpIn_mono ?_ hst
      rintro b' W' ⟨rfl, hW'⟩
      exact step W' hW'
    · rename_i hw
      rw [if_neg hw] at hst
      have := step W h.glob
      rw [hst] at this
      exact this
  · intro b W h
    have h1 := h.tab
    rw [← bare_size] at h1
    rw [h1.act hok hT]
    exact hend W h.glob
  · have h2 : ∀ k, (List.filter (fun b => !b) (List.replicate k false)).length = k := by
      intro k
      rw [List.filter_eq_self.2 (fun b hb => by rw [List.eq_of_mem_replicate hb]; rfl), List.length_replicate]
    unfold left
    rw [Array.toList_replicate]
    exact h2 _
  · have h0 := TabAt.start (ops := (bareL l).toArray) (V := V) a
    rw [bare_size] at h0
    exact ⟨h0, fun _ _ _ _ => rfl, hG⟩
end
end Go.Proofs.YtelnkflmnbhclaaGreat
end

/- What is proved: what comes in: a slice of structs that is read as data reads as a list; what came in reads again behind a call that leaves the old memory as it was. Conditions: none. -/
section
namespace Go.Proofs.YtelnkflmnbhclaaGreat
open Go.RowKit Go.Proofs Go.ChangeShapes Go.WideShapes Go.Deep

theorem kidsP : Kids Tryz.prog (· < Tryz.prog.types.size) := kids_rows (by kernel_rfl) (by kernel_rfl)
theorem fullP : ∀ t e, t < Tryz.prog.types.size → Tryz.prog.underlying t = some (.slice e) → 0 < Tryz.prog.cellsOf e := slices_full_of Tryz.prog (by kernel_rfl)

section
variable {H : Type} {enc : TypeId × Value → H} {w W W' : World} {base : Nat} {spare : Nat → Bool} {held : Bool}
theorem trodAll_carry (hs : ∀ p : MemPlace, p.block < W.heap.size → W.sameAt W' p) {sp : Nat → Bool} : ∀ {ts : List TypeId} {vs : List Value} {ds : List (DataW H)} {ps : List MemPlace}, DataW.TrodAll enc Tryz.prog W base sp held ts vs ds ps → DataW.TrodAll enc Tryz.prog W' base sp held ts vs ds ps
  | [], [], [], _, h => h
  | t :: ts, v :: vs, d :: ds, _, ⟨p, q, h1, h2, e⟩ => by
    have hlt := DataW.TrodAll.lt (ts := [t]) (vs := [v]) (ds := [d]) (trodAll_mk1 h1)
    obtain ⟨n, hn⟩ := h1
    exact ⟨p, q, ⟨n, DataW.trod_carry n _ _ _ hn fun x hx => hs x (hlt x hx)⟩, trodAll_carry hs h2, e⟩
/-- what came in reads again -/
theorem args_kept {ts : List TypeId} {vs : List Value} {ds : List (DataW H)} {ps : List MemPlace} (hA : DataW.TrodAll enc Tryz.prog W 0 (fun _ => true) true ts vs ds ps) (hb : Below W.heap.size W W') (hT : ∀ t ∈ ts, t < Tryz.prog.types.size) (sp : Nat → Bool) (hsp : ∀ p ∈ ps, sp p.block = true) :
    DataW.TrodAll enc Tryz.prog W' 0 sp true ts vs ds ps :=
  DataW.TrodAll.respare kidsP fullP hT (trodAll_carry (fun _ h => hb.same h) hA) hsp

theorem field_read {P : Program} {fs : Array Field} {xs : List (DataW H × List MemPlace)} {n : Nat} {cs : List Value} (hf : ∀ (i : Nat) (f : Field), fs[i]? = some f → DataW.trod enc P w base spare held n f.type ((cs.drop f.offset).take (P.cellsOf f.type)) = xs[i]?) (hl : xs.length = fs.size)
    (i : Nat) {f : Field} (hi : fs[i]? = some f) (t o k : Nat) (ht : f.type = t) (ho : f.offset = o) (hk : P.cellsOf t = k) : ∃ y, DataW.trod enc P w base spare held n t ((cs.drop o).take k) = some y := by
  subst ht
  subst ho
  subst hk
  have h := hf i f hi
  have hlt := (Array.getElem?_eq_some_iff.1 hi).1
  rw [List.getElem?_eq_getElem (by omega)] at h
  exact ⟨_, h⟩
theorem one_int {P : Program} {t : TypeId} {k : IntKind} {fuel : Nat} {v : Value} {x : DataW H × List MemPlace} (ht : P.underlying t = some (.int k)) (h : DataW.trod enc P w base spare held fuel t [v] = some x) : ∃ n, v = .int k n ∧ (Lit.int k n).wf = true := by
  obtain ⟨n, hn, _, hw⟩ := DataW.trod_int ht h
  cases hn
  exact ⟨n, rfl, hw⟩
theorem cellsInt : Tryz.prog.cellsOf 3 = 1 := by kernel_rfl
theorem cellsU8 : Tryz.prog.cellsOf 5 = 1 := by kernel_rfl
theorem cellsPl : Tryz.prog.cellsOf 37 = 2 := by kernel_rfl
set_option maxRecDepth 100000 in
theorem decPlace {fuel : Nat} {cs : List Value} {x : DataW H × List MemPlace} (h : DataW.trod enc Tryz.prog w base spare held fuel 37 cs = some x) : ∃ y : Place, cs = encPlace y := by
  obtain ⟨xs, m, _, _, hl, hxl, hf⟩ := DataW.trod_struct Tryz.underlying37 h
  rw [cellsPl] at hl
  match cs, hl with
  | [c0, c1], _ =>
    obtain ⟨y0, g0⟩ := field_read hf hxl 0 rfl 3 0 1 rfl rfl cellsInt
    obtain ⟨y1, g1⟩ := field_read hf hxl 1 rfl 3 1 1 rfl rfl cellsInt
    simp only [List.drop_zero, List.drop_succ_cons, List.take_succ_cons, List.take_zero] at g0 g1
    obtain ⟨a0, rfl, _⟩ := one_int Tryz.underlying3 g0
    obtain ⟨a1, rfl, _⟩ := one_int Tryz.underlying3 g1
    exact ⟨⟨a0, a1⟩, rfl⟩
set_option maxRecDepth 100000 in
theorem decTrace {fuel : Nat} {cs : List Value} {x : DataW H × List MemPlace} (h : DataW.trod enc Tryz.prog w base spare held fuel 25 cs = some x) : ∃ y : Trace, cs = encTrace y := by
  obtain ⟨xs, m, _, _, hl, hxl, hf⟩ := DataW.trod_struct Tryz.underlying25 h
  rw [show Tryz.prog.cellsOf 25 = 10 by kernel_rfl] at hl
  match cs, hl with
  | [c0, c1, c2, c3, c4, c5, c6, c7, c8, c9], _ =>
    obtain ⟨y0, g0⟩ := field_read hf hxl 0 rfl 3 0 1 rfl rfl cellsInt
    obtain ⟨y1, g1⟩ := field_read hf hxl 1 rfl 3 1 1 rfl rfl cellsInt
    obtain ⟨y2, g2⟩ := field_read hf hxl 2 rfl 5 2 1 rfl rfl cellsU8
    obtain ⟨y3, g3⟩ := field_read hf hxl 3 rfl 3 3 1 rfl rfl cellsInt
    obtain ⟨y4, g4⟩ := field_read hf hxl 4 rfl 3 4 1 rfl rfl cellsInt
    obtain ⟨y5, g5⟩ := field_read hf hxl 5 rfl 3 5 1 rfl rfl cellsInt
    obtain ⟨y6, g6⟩ := field_read hf hxl 6 rfl 3 6 1 rfl rfl cellsInt
    obtain ⟨y7, g7⟩ := field_read hf hxl 7 rfl 3 7 1 rfl rfl cellsInt
    obtain ⟨y8, g8⟩ := field_read hf hxl 8 rfl 3 8 1 rfl rfl cellsInt
    obtain ⟨y9, g9⟩ := field_read hf hxl 9 rfl 3 9 1 rfl rfl cellsInt
    simp only [List.drop_zero, List.drop_succ_cons, List.take_succ_cons, List.take_zero] at g0 g1 g2 g3 g4 g5 g6 g7 g8 g9
    obtain ⟨a0, rfl, _⟩ := one_int Tryz.underlying3 g0
    obtain ⟨a1, rfl, _⟩ := one_int Tryz.underlying3 g1
    obtain ⟨a2, rfl, _⟩ := one_int Tryz.underlying5 g2
    obtain ⟨a3, rfl, _⟩ := one_int Tryz.underlying3 g3
    obtain ⟨a4, rfl, _⟩ := one_int Tryz.underlying3 g4
    obtain ⟨a5, rfl, _⟩ := one_int Tryz.underlying3 g5
    obtain ⟨a6, rfl, _⟩ := one_int Tryz.underlying3 g6
    obtain ⟨a7, rfl, _⟩ := one_int Tryz.underlying3 g7
    obtain ⟨a8, rfl, _⟩ := one_int Tryz.underlying3 g8
    obtain ⟨a9, rfl, _⟩ := one_int Tryz.underlying3 g9
    exact ⟨⟨a0, a1, a2, a3, a4, a5, a6, a7, a8, a9⟩, rfl⟩
set_option maxRecDepth 100000 in
theorem decBond {fuel : Nat} {cs : List Value} {x : DataW H × List MemPlace} (h : DataW.trod enc Tryz.prog w base spare held fuel 50 cs = some x) : ∃ y : Bond, cs = encBond y := by
  obtain ⟨xs, m, _, _, hl, hxl, hf⟩ := DataW.trod_struct Tryz.underlying50 h
  rw [show Tryz.prog.cellsOf 50 = 5 by kernel_rfl] at hl
  match cs, hl with
  | [c0, c1, c2, c3, c4], _ =>
    obtain ⟨y0, g0⟩ := field_read hf hxl 0 rfl 37 0 2 rfl rfl cellsPl
    obtain ⟨y1, g1⟩ := field_read hf hxl 1 rfl 37 2 2 rfl rfl cellsPl
    obtain ⟨y2, g2⟩ := field_read hf hxl 2 rfl 3 4 1 rfl rfl cellsInt
    simp only [List.drop_zero, List.drop_succ_cons, List.take_succ_cons, List.take_zero] at g0 g1 g2
    obtain ⟨a, ha⟩ := decPlace g0
    obtain ⟨b, hb⟩ := decPlace g1
    obtain ⟨a2, rfl, _⟩ := one_int Tryz.underlying3 g2
    cases ha
    cases hb
    exact ⟨⟨a, b, a2⟩, rfl⟩

/-- a slice that is read as data reads as a list -/
theorem open_rd {α : Type} [Inhabited α] {encA : α → List Value} {k : Nat} {t e : TypeId} {fuel : Nat} {cs : List Value} {x : DataW H × List MemPlace} (ht : Tryz.prog.underlying t = some (.slice e)) (hC : Tryz.prog.cellsOf e = k) (hk : 0 < k) (hlen : ∀ y : α, (encA y).length = k)
    (hdec : ∀ (n : Nat) (cs : List Value) (x : DataW H × List MemPlace), DataW.trod enc Tryz.prog w base spare held n e cs = some x → ∃ y : α, cs = encA y) (h : DataW.trod enc Tryz.prog w base spare held fuel t cs = some x) :
    ∃ (A : Option Addr) (n c : Nat) (xs : List α), cs = [.slice A n c] ∧ xs.length = n ∧ (n ≤ 17592186044416 → Rd encA k w A n c xs) := by
  rcases open_slice ht h with ⟨rfl, _⟩ | ⟨a, len, cap, m, n, D, Pl, rfl, hb, hl, hm, hmm, _, hx⟩
  · exact ⟨none, 0, 0, [], rfl, rfl, fun _ => Rd.none_ none 0 (by omega)⟩
  · have hlm : len ≤ m := by rw [hmm]; split <;> omega
    have each : ∀ i, i < len → ∃ y : α, ∀ j, j < k → w.cell? (a.add (i * k + j)) = (encA y)[j]? := fun i hi => by
      obtain ⟨cs', h1, h2⟩ := hx i (by omega)
      obtain ⟨y, rfl⟩ := hdec _ _ _ h2
      rw [hC] at h1
      obtain ⟨_, _, h3⟩ := World.cells?_some h1
      exact ⟨y, fun j hj => by rw [← add_add]; exact h3 j hj⟩
    obtain ⟨f, hf⟩ := choose_lt each
    refine ⟨some a, len, cap, (List.range len).map f, rfl, by simp, fun hbig => ⟨by simp, hbig, ⟨hl, hm⟩, fun hn => ?_⟩⟩
    have h0 := hf 0 hn 0 hk
    obtain ⟨b, off, spot⟩ := a
    rw [List.getElem?_eq_getElem (by rw [hlen]; exact hk)] at h0
    have hspot : spot = none := by
      cases spot with
      | none => rfl
      | some s =>
        rw [show 0 * k + 0 = 0 by omega, show (⟨b, off, some s⟩ : Addr).add 0 = ⟨b, off, some s⟩ from rfl] at h0
        unfold World.cell? at h0
        split at h0
        · cases h0
        · cases h0
    subst hspot
    have hlt : b < w.heap.size := by
      rw [add_lit] at h0
      unfold World.cell? at h0
      split at h0
      · rename_i h1; exact (Array.getElem?_eq_some_iff.1 h1).1
      · cases h0
    refine ⟨b, off, rfl, hlt, fun i y hy j u hu => ?_⟩
    rw [List.getElem?_map] at hy
    have hi : i < len := by
      rcases Nat.lt_or_ge i len with h | h
      · exact h
      · rw [List.getElem?_eq_none (by simpa using h)] at hy; cases hy
    rw [List.getElem?_eq_getElem (by simpa using hi)] at hy
    simp only [List.getElem_range, Option.map_some, Option.some.injEq] at hy
    subst hy
    have hj : j < k := by rw [← hlen (f i)]; exact (List.getElem?_eq_some_iff.1 hu).1
    have := hf i hi j hj
    rw [add_lit, hu] at this
    rw [Nat.add_assoc]; exact this
end
end Go.Proofs.YtelnkflmnbhclaaGreat
end

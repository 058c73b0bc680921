/- Contracts that the laws lean on: ShaP, Keep, CDaR, CDat, Open2. -/
import Derived.Test.YtelnkflmnbhclaaGreatH01
import Derived.Test.YtelnkflmnbhclaaGreatH12
import Derived.Test.YtelnkflmnbhclaaGreatH02
import Derived.Test.YtelnkflmnbhclaaGreatG41
import Derived.Test.YtelnkflmnbhclaaGreatG06
/- What is proved: the plain law of StratumSharp: no dates have a greater difference than Between, and a year within the bounds both ways can be added. Conditions: as said. -/
section
namespace Go.Proofs.YtelnkflmnbhclaaGreat
open Go.RowKit Go.Proofs Go.Shelf

/-! ### the model of CheckDates -/
def keepsB (bs : List Bound) (x : List Int) : Bool := bs.all fun b => !decide (b.most < x.getD b.dst.toNat 0 - x.getD b.src.toNat 0)
def datesFit (ps : List Place) (d : List Dating) : Bool := decide (d.map (·.place) = ps) && d.all (fun y => inB y.year (-1000000) 1000000)
def checkDatesV (l : List Trace) (known : Int) (bs : List Bond) (mv : List Place) (d : List Dating) : Bool × Int :=
  if withErr l known bs mv ≠ 0 then (false, withErr l known bs mv) else (datesFit (placesOf (counting l known) bs) d && keepsB (sysOf l known bs mv) (0 :: d.map (·.year)), 0)
def yearOfV : List Dating → Place → Int
  | [], _ => 0
  | x :: d, p => if x.place = p then x.year else yearOfV d p
theorem keepsB_iff {bs : List Bound} {x : List Int} : keepsB bs x = true ↔ ∀ b ∈ bs, x.getD b.dst.toNat 0 ≤ x.getD b.src.toNat 0 + b.most := by
  unfold keepsB
  rw [List.all_eq_true]
  refine forall_congr' fun b => imp_congr_right fun _ => ?_
  simp only [Bool.not_eq_true', decide_eq_false_iff_not]
  omega
theorem yearOfV_out : ∀ {d : List Dating} {p : Place}, p ∉ d.map (·.place) → yearOfV d p = 0
  | [], _, _ => rfl
  | x :: d, p, h => by
    simp only [List.map_cons, List.mem_cons, not_or] at h
    rw [yearOfV, if_neg (fun e => h.1 e.symm)]
    exact yearOfV_out h.2
theorem yearOfV_at : ∀ {d : List Dating} {i : Nat} {x : Dating}, (d.map (·.place)).Nodup → d[i]? = some x → yearOfV d x.place = x.year
  | [], _, _, _, h => by simp at h
  | y :: d, 0, x, _, h => by
    simp only [List.getElem?_cons_zero, Option.some.injEq] at h
    subst h
    rw [yearOfV, if_pos rfl]
  | y :: d, i + 1, x, hn, h => by
    rw [List.getElem?_cons_succ] at h
    rw [List.map_cons, List.nodup_cons] at hn
    rw [yearOfV, if_neg (fun e => hn.1 (by rw [e]; exact List.mem_map.2 ⟨x, List.mem_of_getElem? h, rfl⟩))]
    exact yearOfV_at hn.2 h
/-- the year of a place stands at its point -/
theorem yearOfV_pt {ps : List Place} {d : List Dating} (hd : d.map (·.place) = ps) (hn : ps.Nodup) (hz : z00 ∉ ps) {p : Place} {v : Int} (h : getM (ptsM ps ps.length) p = some v) : yearOfV d p = (0 :: d.map (·.year)).getD v.toNat 0 := by
  rcases ptsM_from ps ps.length (Nat.le_refl _) p v h with ⟨rfl, rfl⟩ | ⟨i, hi, hp, rfl⟩
  · rw [yearOfV_out (by rw [hd]; exact hz)]; rfl
  · have e : ((i : Int) + 1).toNat = i + 1 := by omega
    rw [e, List.getD_cons_succ]
    rw [← hd, List.getElem?_map] at hp
    cases hx : d[i]? with
    | none => rw [hx] at hp; cases hp
    | some x =>
      rw [hx] at hp
      cases hp
      rw [yearOfV_at (by rw [hd]; exact hn) hx, List.getD_eq_getElem?_getD, List.getElem?_map, hx]; rfl

/-! ### a year within the bounds can be had -/
theorem tight {pts : Int} {bs : List Bound} (hok : SysOk pts bs) (hs : solvedOk pts bs = true) {a b : Int} (a1 : 0 ≤ a) (a2 : a < pts) (b1 : 0 ≤ b) (b2 : b < pts) {year : Int} (y1 : -10000 ≤ year) (y2 : year ≤ 10000)
    (h1 : year ≤ greatestR pts bs a b) (h2 : -year ≤ greatestR pts bs b a) : ∃ y : Nat → Int, (∀ x ∈ bs, y x.dst.toNat ≤ y x.src.toNat + x.most) ∧ y b.toNat - y a.toNat = year := by
  have hp := hok.p2
  obtain ⟨y, hy, hyb⟩ := sol_bounded hok hs
  have ga := from_zero hok a1 a2 hs
  have gb := from_zero hok b1 b2 hs
  have fa := from_fix hok a1 a2 hs
  have fb := from_fix hok b1 b2 hs
  rw [greatestR_val] at h1 h2
  generalize fromV pts bs a = G at *
  generalize fromV pts bs b = H at *
  have hnone : noneV = 1099511627776 := rfl
  obtain ⟨h, hh⟩ : ∃ h : Nat → Int, ∀ v, (G v < noneV → h v ≤ G v) ∧ (H v < noneV → h v ≤ year + H v) ∧ h v ≤ y v + 100000000000 ∧ ((G v < noneV ∧ h v = G v) ∨ (H v < noneV ∧ h v = year + H v) ∨ h v = y v + 100000000000) := by
    refine ⟨fun v => if G v < noneV ∧ G v ≤ y v + 100000000000 ∧ (H v < noneV → G v ≤ year + H v) then G v else if H v < noneV ∧ year + H v ≤ y v + 100000000000 then year + H v else y v + 100000000000, fun v => ?_⟩
    simp only
    split
    · omega
    · split <;> omega
  refine ⟨h, fun x hx => ?_, ?_⟩
  · have hxm := hok.b x hx
    have k1 := hh x.src.toNat
    have k2 := hh x.dst.toNat
    have k3 := hy x hx
    have k4 := hyb x.src.toNat
    have k5 := fa x hx
    have k6 := fb x hx
    unfold KeptB at k5 k6
    rcases k1.2.2.2 with ⟨e1, e2⟩ | ⟨e1, e2⟩ | e2
    · have := k5 e1
      have := k2.1 (by omega)
      omega
    · have := k6 e1
      have := k2.2.1 (by omega)
      omega
    · omega
  · have k1 := hh a.toNat
    have k2 := hh b.toNat
    have k3 := hyb a.toNat
    have k4 := hyb b.toNat
    omega

/-! ### a trace more, that dates a place of the log -/
theorem check_snoc {l : List Trace} {x : Trace} (h : (check l).2 = 0) (hx : follows l x = 0) : (check (l ++ [x])).2 = 0 := by
  have key : ∀ k, k ≤ l.length + 1 → check (l ++ [x]) = checkFrom (l ++ [x]) (l.length + 1 - k) k := by
    intro k
    induction k with
    | zero => intro _; unfold check; rw [List.length_append]; rfl
    | succ k ih =>
      intro hk
      have hlen : k < (l ++ [x]).length := by simp; omega
      refine check_step (List.getElem?_eq_getElem hlen) ?_ hk (ih (by omega))
      rcases Nat.lt_or_ge k l.length with hl | hl
      · rw [List.getElem_append_left hl, List.take_append_of_le_length (by omega)]
        exact check_ok h k _ (List.getElem?_eq_getElem hl)
      · have : k = l.length := by omega
        subst this
        simpa using hx
  rw [key (l.length + 1) (Nat.le_refl _), Nat.sub_self]; rfl
theorem follows_parts {l : List Trace} {x : Trace} (h : follows l x = 0) : l.length < 140 ∧ checkTrace x = 0 ∧ l.any (p1 x) = false ∧ (x.kind = 4 → l.any (p2 x) = true) := by
  unfold follows at h
  split at h
  · cases h
  · split at h
    · cases h
    · split at h
      · cases h
      · split at h
        · cases h
        · rename_i h1 h2 h3 h4
          refine ⟨by omega, by simpa using h2, by simpa using h3, fun h5 => ?_⟩
          rw [if_neg (by simpa using h5)] at h
          split at h
          · cases h
          · rename_i h6; simpa using h6
theorem counting_dated {l : List Trace} {x : Trace} {known : Int} (h : (check l).2 = 0) (hx : follows l x = 0) (hk : x.kind ≠ 4) (hn : x.known ≤ known) : counting (l ++ [x]) known = counting l known ++ [x] := by
  have hno : pc l known x = false := by
    unfold pc
    simp only [Bool.or_eq_false_iff, decide_eq_false_iff_not]
    refine ⟨⟨hk, by omega⟩, ?_⟩
    rw [List.any_eq_false]
    intro v hv hpv
    simp only [pv, Bool.and_eq_true, decide_eq_true_eq] at hpv
    obtain ⟨i, hi⟩ := List.mem_iff_getElem?.1 hv
    have h2 := (follows_parts (check_ok h i v hi)).2.2.2 hpv.1.1
    obtain ⟨u, hu, hpu⟩ := List.any_eq_true.1 h2
    simp only [p2, Bool.and_eq_true, decide_eq_true_eq] at hpu
    have h3 := (follows_parts hx).2.2.1
    rw [List.any_eq_false] at h3
    exact h3 u (List.mem_of_mem_take hu) (by simp only [p1, decide_eq_true_eq]; rw [hpu.1, hpv.1.2])
  unfold counting
  rw [List.filter_append]
  congr 1
  · refine List.filter_congr fun y _ => ?_
    rw [pc_snoc hk]
  · rw [List.filter_cons_of_pos (by rw [pc_snoc hk, hno]; rfl)]; rfl
theorem placesOf_same {ts : List Trace} {bs : List Bond} {x : Trace} (hk : x.kind = 2) (hp : placeT x ∈ placesOf ts bs) : (uniq (placeList (ts ++ [x]) bs)).Perm (uniq (placeList ts bs)) := by
  refine (List.perm_ext_iff_of_nodup (nodup_uniq _) (nodup_uniq _)).2 fun q => ?_
  rw [mem_uniq, mem_uniq]
  rw [placesOf_mem] at hp
  unfold placeList at hp ⊢
  have e : plT x = [placeT x] := by unfold plT; rw [if_neg (by omega)]
  rw [List.flatMap_append, List.flatMap_cons, List.flatMap_nil, List.append_nil, e]
  simp only [List.mem_append, List.mem_singleton] at hp ⊢
  constructor
  · rintro ((h | rfl) | h)
    · exact .inl h
    · exact hp
    · exact .inr h
  · rintro (h | h)
    · exact .inl (.inl h)
    · exact .inr h
theorem linksL_dated {ts : List Trace} {bs : List Bond} {mv : List Place} {x : Trace} (hk : x.kind = 2) (y : Link) : y ∈ linksL (ts ++ [x]) bs mv ↔ y ∈ linksL ts bs mv ∨ y ∈ datedL x := by
  unfold linksL
  have e : linkT x = datedL x := by unfold linkT; rw [if_neg (by omega), if_pos hk]
  rw [List.flatMap_append, List.flatMap_cons, List.flatMap_nil, List.append_nil, e]
  simp only [List.mem_append]
  constructor
  · rintro ((h | h) | h)
    · exact .inl (.inl h)
    · exact .inr h
    · exact .inl (.inr h)
  · rintro ((h | h) | h)
    · exact .inl (.inl h)
    · exact .inr h
    · exact .inl (.inr h)

/-- no dates have a greater difference than Between -/
theorem sharp_dates {l : List Trace} {known : Int} {bs : List Bond} {mv : List Place} {d : List Dating} {a b : Place} (h1 : (checkDatesV l known bs mv d).1 = true) (h2 : (betweenV l known bs mv a b).2.2 = 0) (h3 : (betweenV l known bs mv a b).2.1 = true) :
    yearOfV d b - yearOfV d a ≤ (betweenV l known bs mv a b).1 := by
  have he : endsErr l known bs mv a b = 0 := by
    unfold betweenV at h2
    split at h2
    · rename_i h; exact absurd h2 h
    · rename_i h; simpa using h
  have hw : withErr l known bs mv = 0 := by
    unfold endsErr at he
    split at he
    · rename_i h; exact absurd he h
    · rename_i h; simpa using h
  have hO := okO_of (askErr_of_with hw)
  have hok : SysOk _ (sysOf l known bs mv) := sysOk_of (checkSys_years hO mv)
  have hn := placesOf_nodup (counting l known) bs
  have hz := z00_not hO
  unfold endsErr at he
  rw [if_neg (by simpa using hw)] at he
  split at he
  case isFalse => cases he
  rename_i hsome
  rw [Bool.and_eq_true] at hsome
  obtain ⟨i, hi⟩ := Option.isSome_iff_exists.1 hsome.1
  obtain ⟨k, hk⟩ := Option.isSome_iff_exists.1 hsome.2
  obtain ⟨i1, i2⟩ := ptsM_range _ hi
  obtain ⟨k1, k2⟩ := ptsM_range _ hk
  unfold checkDatesV at h1
  rw [if_neg (by simpa using hw)] at h1
  simp only [Bool.and_eq_true, datesFit, decide_eq_true_eq] at h1
  obtain ⟨⟨hd, hyr⟩, hkeep⟩ := h1
  rw [keepsB_iff] at hkeep
  rw [yearOfV_pt hd hn hz hi, yearOfV_pt hd hn hz hk]
  have hsmall : ∀ v : Nat, -1000000 ≤ (0 :: d.map (·.year)).getD v 0 ∧ (0 :: d.map (·.year)).getD v 0 ≤ 1000000 := fun v => by
    rw [List.getD_eq_getElem?_getD]
    cases hv : (0 :: d.map (·.year))[v]? with
    | none => simp
    | some n =>
      have := List.mem_of_getElem? hv
      rcases List.mem_cons.1 this with rfl | hm
      · simp
      · obtain ⟨y, hy, rfl⟩ := List.mem_map.1 hm
        have := inB_iff.1 (List.all_eq_true.1 hyr y hy)
        simpa using this
  have hlow := from_low hok i1 (show i < _ from i2) (x := fun v => (0 :: d.map (·.year)).getD v 0) hkeep (fun v _ => by
    have := hsmall v; have := hsmall i.toNat; (try simp only); unfold noneV; omega) k.toNat (by have := hO.pn; omega)
  have hbv : betweenV l known bs mv a b = ((greatestV ((placesOf (counting l known) bs).length + 1) (sysOf l known bs mv) i k).1, (greatestV ((placesOf (counting l known) bs).length + 1) (sysOf l known bs mv) i k).2.1, 0) ∨ (betweenV l known bs mv a b).2.1 = false := by
    unfold betweenV
    rw [if_neg (by unfold endsErr; rw [if_neg (by simpa using hw)]; simp [hsome.1, hsome.2])]
    rw [show (getM (ptsOf l known bs) a) = some i from hi, show (getM (ptsOf l known bs) b) = some k from hk]
    simp only [Option.getD_some]
    split
    · right; rfl
    · left; rfl
  rcases hbv with hbv | hbv
  · rw [hbv] at h3 ⊢
    simp only at h3 ⊢
    unfold greatestV at h3 ⊢
    split
    · rename_i hs
      rw [if_pos hs] at h3
      split
      · rename_i hg; rw [if_pos hg] at h3; cases h3
      · rw [greatestR_val]; simpa using hlow
    · rename_i hs; rw [if_neg hs] at h3; cases h3
  · rw [hbv] at h3; cases h3

def yearT (id known year : Int) (p : Place) : Trace := ⟨id, known, 2, p.pit, p.layer, 0, year, year, 0, 0⟩
/-- what Between says, where it says anything -/
theorem between_ok {l : List Trace} {known : Int} {bs : List Bond} {mv : List Place} {a b : Place} (h : (betweenV l known bs mv a b).2.2 = 0) :
    withErr l known bs mv = 0 ∧ solvedOk ((placesOf (counting l known) bs).length + 1) (sysB (counting l known) bs mv) = true ∧ ∃ i k, getM (ptsOf l known bs) a = some i ∧ getM (ptsOf l known bs) b = some k := by
  unfold betweenV at h
  split at h
  · rename_i h1; exact absurd h h1
  · rename_i h1
    have he : endsErr l known bs mv a b = 0 := by simpa using h1
    have hw : withErr l known bs mv = 0 := by
      unfold endsErr at he
      split at he
      · rename_i h; exact absurd he h
      · rename_i h; simpa using h
    refine ⟨hw, ?_, ?_⟩
    · simp only at h
      split at h
      · cases h
      · rename_i h2
        unfold greatestV at h2
        split at h2
        · rename_i hs; exact hs
        · exact absurd (by decide) h2
    · unfold endsErr at he
      rw [if_neg (by simpa using hw)] at he
      split at he
      case isFalse => cases he
      rename_i hsome
      rw [Bool.and_eq_true] at hsome
      obtain ⟨i, hi⟩ := Option.isSome_iff_exists.1 hsome.1
      obtain ⟨k, hk⟩ := Option.isSome_iff_exists.1 hsome.2
      exact ⟨i, k, hi, hk⟩
theorem between_is {l : List Trace} {known : Int} {bs : List Bond} {mv : List Place} {a b : Place} {i k : Int} (hw : withErr l known bs mv = 0) (hs : solvedOk ((placesOf (counting l known) bs).length + 1) (sysB (counting l known) bs mv) = true) (hi : getM (ptsOf l known bs) a = some i) (hk : getM (ptsOf l known bs) b = some k) :
    betweenV l known bs mv a b = if greatestR ((placesOf (counting l known) bs).length + 1) (sysB (counting l known) bs mv) i k = noneV then (0, false, 0) else (greatestR ((placesOf (counting l known) bs).length + 1) (sysB (counting l known) bs mv) i k, true, 0) := by
  unfold betweenV
  rw [if_neg (show ¬ endsErr l known bs mv a b ≠ 0 by unfold endsErr; rw [if_neg (by simpa using hw), hi, hk]; simp), hi, hk]
  simp only [Option.getD_some]
  have e : greatestV ((placesOf (counting l known) bs).length + 1) (sysOf l known bs mv) i k = if greatestR ((placesOf (counting l known) bs).length + 1) (sysB (counting l known) bs mv) i k = noneV then (0, false, 0) else (greatestR ((placesOf (counting l known) bs).length + 1) (sysB (counting l known) bs mv) i k, true, 0) := by
    unfold greatestV
    rw [if_pos (show solvedOk _ (sysOf l known bs mv) = true from hs)]; rfl
  rw [e]
  split <;> rfl
theorem between_le {l : List Trace} {known : Int} {bs : List Bond} {mv : List Place} {a b : Place} {G year : Int} (h : betweenV l known bs mv a b = if G = noneV then (0, false, 0) else (G, true, 0)) (hy : year ≤ 10000) :
    (!(betweenV l known bs mv a b).2.1 || decide (year ≤ (betweenV l known bs mv a b).1)) = decide (year ≤ G) := by
  rw [h]
  have hnone : noneV = 1099511627776 := rfl
  split
  · rename_i e
    rw [e, decide_eq_true (show year ≤ noneV by omega)]; rfl
  · rfl
theorem sharp_year {l : List Trace} {known : Int} {bs : List Bond} {mv : List Place} {p : Place} {id year : Int} (h1 : (betweenV l known bs mv z00 p).2.2 = 0) (hA : (appendV l (yearT id known year p)).2 = 0) :
    (betweenV l known bs mv p z00).2.2 = 0 ∧ (datesV (l ++ [yearT id known year p]) known bs mv).2.2 = 0 ∧ (-10000 ≤ year ∧ year ≤ 10000) ∧
    (datesV (l ++ [yearT id known year p]) known bs mv).2.1 = ((!(betweenV l known bs mv z00 p).2.1 || decide (year ≤ (betweenV l known bs mv z00 p).1)) && (!(betweenV l known bs mv p z00).2.1 || decide (-year ≤ (betweenV l known bs mv p z00).1))) := by
  obtain ⟨hw, hs, i, k, hi, hk⟩ := between_ok h1
  have hO := okO_of (askErr_of_with hw)
  have hok : SysOk _ (sysB (counting l known) bs mv) := sysOk_of (checkSys_years hO mv)
  have hn := placesOf_nodup (counting l known) bs
  have hz := z00_not hO
  obtain rfl : i = 0 := by
    have := ptsM_zero (placesOf (counting l known) bs) hz _ (Nat.le_refl _)
    rw [show getM (ptsM (placesOf (counting l known) bs) (placesOf (counting l known) bs).length) z00 = some i from hi] at this
    exact Option.some.inj this
  obtain ⟨k1, k2⟩ := ptsM_range _ hk
  -- the trace
  have hck : (check l).2 = 0 ∧ follows l (yearT id known year p) = 0 := by
    unfold appendV at hA
    split at hA
    · rename_i h; exact absurd hA h
    · rename_i h
      split at hA
      · rename_i h2; exact absurd hA h2
      · rename_i h2; exact ⟨by simpa using h, by simpa using h2⟩
  have hct := (follows_parts hck.2).2.1
  have hokT : okT (yearT id known year p) = true := by
    unfold checkTrace at hct
    by_cases hx : (okT (yearT id known year p) && eqTrace (yearT id known year p) (yT (yearT id known year p))) = true
    · simp only [Bool.and_eq_true] at hx
      exact hx.1
    · rw [if_neg hx] at hct; cases hct
  obtain ⟨g1, _, _, g4⟩ := okT_parts hokT (by simp [yearT])
  obtain ⟨y1, _, y2⟩ := g4 rfl
  simp only [yearT] at y1 y2
  have hpp : p ∈ placesOf (counting l known) bs := by
    rcases ptsM_from _ _ (Nat.le_refl _) p k hk with ⟨e, _⟩ | ⟨j, hj, hp, _⟩
    · have := g1.1
      simp [yearT, placeT, e, z00] at this
    · exact List.mem_of_getElem? hp
  have hpT : placeT (yearT id known year p) = p := rfl
  have hcnt : counting (l ++ [yearT id known year p]) known = counting l known ++ [yearT id known year p] := counting_dated hck.1 hck.2 (by simp [yearT]) (Int.le_refl _)
  have hperm := placesOf_same (ts := counting l known) (bs := bs) (x := yearT id known year p) rfl (by rw [hpT]; exact hpp)
  have hpl : placesOf (counting l known ++ [yearT id known year p]) bs = placesOf (counting l known) bs := sortPl_congr hperm
  have had : admitsOf (counting l known ++ [yearT id known year p]) = admitsOf (counting l known) := admitsOf_more fun y hy => by
    rw [List.mem_singleton.1 hy]; simp [yearT]
  have hask : askErr (l ++ [yearT id known year p]) known bs = 0 := by
    have h0 := askErr_of_with hw
    unfold askErr at h0 ⊢
    rw [if_neg (by simpa using check_snoc hck.1 hck.2)]
    rw [if_neg (by simpa using hck.1)] at h0
    split at h0
    · rename_i h; exact absurd h0 h
    · rename_i h
      rw [if_neg h]
      rw [hcnt, hperm.length_eq]
      have : admitM (counting l known ++ [yearT id known year p]) = admitM (counting l known) := by
        unfold admitM
        rw [List.foldl_append, admFold_more fun y hy => by rw [List.mem_singleton.1 hy]; simp [yearT]]
      rw [this]; exact h0
  have hw' : withErr (l ++ [yearT id known year p]) known bs mv = 0 := by
    rw [withErr_zero, hcnt, had]
    exact ⟨hask, (withErr_zero.1 hw).2⟩
  have hO' := okO_of hask
  have b1 := between_is hw hs hi hk
  have b2 := between_is hw hs hk hi
  refine ⟨by rw [b2]; split <;> rfl, by rw [datesV_err, hw'], ⟨y1, y2⟩, ?_⟩
  rw [between_le b1 (by omega), between_le b2 (by omega), datesV_is, hw', decide_eq_true rfl, Bool.true_and, hcnt]
  rw [hcnt] at hO'
  have hok' : SysOk _ (sysB (counting l known ++ [yearT id known year p]) bs mv) := sysOk_of (checkSys_years hO' mv)
  rw [Bool.eq_iff_iff, Bool.and_eq_true, decide_eq_true_iff, decide_eq_true_iff]
  unfold enough
  rw [solvedOk_iff hok']
  have hmem : ∀ b, b ∈ sysB (counting l known ++ [yearT id known year p]) bs mv ↔ b ∈ sysB (counting l known) bs mv ∨ b = ⟨0, k, year, id⟩ ∨ b = ⟨k, 0, -year, id⟩ := by
    intro b
    unfold sysB
    rw [hpl, List.mem_map, List.mem_map]
    have e1 : boundOf (ptsM (placesOf (counting l known) bs) (placesOf (counting l known) bs).length) ⟨⟨0, 0⟩, placeT (yearT id known year p), year, id⟩ = ⟨0, k, year, id⟩ := by
      unfold boundOf
      rw [hpT, show getM (ptsM (placesOf (counting l known) bs) (placesOf (counting l known) bs).length) ⟨0, 0⟩ = some 0 from hi, show getM (ptsM (placesOf (counting l known) bs) (placesOf (counting l known) bs).length) p = some k from hk]; rfl
    have e2 : boundOf (ptsM (placesOf (counting l known) bs) (placesOf (counting l known) bs).length) ⟨placeT (yearT id known year p), ⟨0, 0⟩, -year, id⟩ = ⟨k, 0, -year, id⟩ := by
      unfold boundOf
      rw [hpT, show getM (ptsM (placesOf (counting l known) bs) (placesOf (counting l known) bs).length) ⟨0, 0⟩ = some 0 from hi, show getM (ptsM (placesOf (counting l known) bs) (placesOf (counting l known) bs).length) p = some k from hk]; rfl
    constructor
    · rintro ⟨y, hy, rfl⟩
      rcases (linksL_dated rfl y).1 hy with hy | hy
      · exact .inl ⟨y, hy, rfl⟩
      · simp only [datedL, List.mem_cons, List.not_mem_nil, or_false] at hy
        rcases hy with rfl | rfl
        · exact .inr (.inl e1)
        · exact .inr (.inr e2)
    · rintro (⟨y, hy, rfl⟩ | rfl | rfl)
      · exact ⟨y, (linksL_dated rfl y).2 (.inl hy), rfl⟩
      · exact ⟨_, (linksL_dated rfl _).2 (.inr (by unfold datedL; exact List.mem_cons_self)), e1⟩
      · exact ⟨_, (linksL_dated rfl _).2 (.inr (by unfold datedL; exact List.mem_cons_of_mem _ List.mem_cons_self)), e2⟩
  have hk0 : k.toNat < 60 := by have := hO.pn; omega
  constructor
  · intro hex
    have hs' : solvedOk _ (sysB (counting l known ++ [yearT id known year p]) bs mv) = true := (solvedOk_iff hok').2 hex
    obtain ⟨y, hy, hyb⟩ := sol_bounded hok' hs'
    have q1 := hy _ ((hmem _).2 (.inr (.inl rfl)))
    have q2 := hy _ ((hmem _).2 (.inr (.inr rfl)))
    simp only at q1 q2
    have hy0 : ∀ b ∈ sysB (counting l known) bs mv, y b.dst.toNat ≤ y b.src.toNat + b.most := fun b hb => hy b ((hmem b).2 (.inl hb))
    have r1 := from_low hok (show (0 : Int) ≤ 0 by omega) (show (0 : Int) < _ by omega) hy0 (fun v _ => by
      have := hyb v; have := hyb (0 : Int).toNat; unfold noneV; omega) k.toNat hk0
    have r2 := from_low hok k1 (show k < _ from k2) hy0 (fun v _ => by
      have := hyb v; have := hyb k.toNat; unfold noneV; omega) (0 : Int).toNat (by omega)
    rw [greatestR_val, greatestR_val]
    omega
  · rintro ⟨r1, r2⟩
    obtain ⟨y, hy, he⟩ := tight hok hs (show (0 : Int) ≤ 0 by omega) (show (0 : Int) < _ by omega) k1 (show k < _ from k2) y1 y2 r1 r2
    refine ⟨y, fun b hb => ?_⟩
    rcases (hmem b).1 hb with hb | rfl | rfl
    · exact hy b hb
    · simp only; omega
    · simp only; omega
end Go.Proofs.YtelnkflmnbhclaaGreat
end

/- What is proved: the contracts of gauge.broken, Breaks and Keeps, where nothing gives up. Conditions: the system is as said, the list is as long as it has points, and its numbers are not too far. -/
section
namespace Go.Proofs.YtelnkflmnbhclaaGreat
open Go.RowKit Go.Proofs Go.Shelf

def brokenP (xs : List Int) (b : Bound) : Bool := decide (b.most < xs.getD b.dst.toNat 0 - xs.getD b.src.toNat 0)
/-- a predicate that answers for the elements of a list -/
def PredIn {α : Type} (P : Program) (g : Nat) (lb : Array Value) (enc : α → Value) (p : α → Bool) (l : List α) (w : World) : Prop :=
  ∀ (W : World) (x : α), x ∈ l → Below w.heap.size w W → Calls P g (#[enc x] ++ lb) W fun e w' => e = .returned (.bool (p x)) ∧ Below w.heap.size w w'
set_option maxHeartbeats 1000000 in
theorem IndexFuncIn_Bound (g : Nat) (lb : Array Value) (eg : ∀ args w, (callFunc g args).run Tryz.prog w = .ok (.enter g args) w) (p : Bound → Bool) (A : Option Addr) (n c : Nat) (l : List Bound) (w : World)
    (hl : Rd encBound 4 w A n c l) (hp : PredIn Tryz.prog g lb (fun x => .agg (encBound x).toArray) p l w) :
    Calls Tryz.prog 243 #[.slice A n c, .func (.func g) #[] lb] w fun e w' => e = .returned (.int .i64 (idxI p l)) ∧ Below w.heap.size w w' := by
  have hbig := hl.big
  go_enter Tryz.func243, Tryz.ntmps243
  go_wp2
  go_loopw [5, 8] (fun _ i wr => ∃ k : Nat, k ≤ n ∧ i = .int .i64 k ∧ Below w.heap.size w wr ∧ Hid (∀ j x, j < k → l[j]? = some x → p x = false)) (fun _ i _ => n - (intOf i).toNat)
  case atStart => exact ⟨0, Nat.zero_le _, rfl, Below.refl _ _, fun j x h => absurd h (by omega)⟩
  case round =>
    obtain ⟨k, hk, rfl, hb, hno⟩ := hrel
    by_cases hlt : k < n
    · obtain ⟨b, off, x, rfl, hbw, hx, hcell⟩ := (hl.below hb (Nat.le_refl _)).one hlt
      have hlen := hl.len
      have c0 : wr.cell? ⟨b, off + k * 4, none⟩ = some (.int .i64 x.src) := hcell 0 _ rfl
      have c1 : wr.cell? ⟨b, off + k * 4 + 1, none⟩ = some (.int .i64 x.dst) := hcell 1 _ rfl
      have c2 : wr.cell? ⟨b, off + k * 4 + 2, none⟩ = some (.int .i64 x.most) := hcell 2 _ rfl
      have c3 : wr.cell? ⟨b, off + k * 4 + 3, none⟩ = some (.int .i64 x.by_) := hcell 3 _ rfl
      have hcall := hp wr x (List.mem_of_getElem? hx) hb
      simp only [encBound] at hcall
      clear hcell hp hl
      cases hq : p x with
      | true =>
        rw [hq] at hcall
        have HQ := Lib.hid hq
        have HX := Lib.hid hx
        clear hq hx hlen
        go_wp2_with (go_at_fn g; refine hcall.mono ?_; rintro e w' ⟨rfl, hb'⟩)
        go_ret
        refine ⟨?_, hb'⟩
        rw [idxI_hit p l k x HX.out HQ.out hno.out]
        rfl
      | false =>
        rw [hq] at hcall
        have HQ := Lib.hid hq
        have HX := Lib.hid hx
        clear hq hx hlen
        go_wp2_with (go_at_fn g; refine hcall.mono ?_; rintro e w' ⟨rfl, hb'⟩)
        go_roundw
        case rel =>
          refine ⟨k + 1, by omega, by go_num, hb', fun j y hj hy => ?_⟩
          by_cases e : j = k
          · subst e
            rw [HX.out] at hy
            cases hy
            exact HQ.out
          · exact hno.out j y (by omega) hy
        case measure => simp [intOf]; omega
    · have : k = n := by omega
      subst this
      have hlen := hl.len
      go_wp2
      go_ret
      refine ⟨?_, hb⟩
      rw [idxI_miss p l (fun j x hj => hno.out j x (by have := (List.getElem?_eq_some_iff.1 hj).1; omega) hj)]
      rfl
theorem ent_broken1 : ∀ args w, (callFunc 246 args).run Tryz.prog w = .ok (.enter 246 args) w := enters_of Tryz.func246 (by kernel_rfl) rfl
set_option maxHeartbeats 2000000 in
set_option maxRecDepth 100000 in
theorem broken1 (X : Option Addr) (nX cX : Nat) (xs : List Int) (bx : Nat) (bs : List Bound) (w : World) (hX : Rd encInt 1 w X nX cX xs) (c0 : w.cell? ⟨bx, 0, none⟩ = some (.slice X nX cX)) (hlt : bx < w.heap.size)
    (hb : ∀ b ∈ bs, 0 ≤ b.src ∧ b.src < nX ∧ 0 ≤ b.dst ∧ b.dst < nX) (_ : nX ≤ 60) (hs : ∀ x ∈ xs, -1000000000 ≤ x ∧ x ≤ 1000000000) :
    PredIn Tryz.prog 246 #[.pointer (some ⟨bx, 0, none⟩)] (fun x => .agg (encBound x).toArray) (brokenP xs) bs w := by
  intro W x hx hbl
  have hz := hbl.size
  simp only [encBound, List.append_toArray, List.cons_append, List.nil_append]
  obtain ⟨s1, s2, s3, s4⟩ := hb x hx
  obtain ⟨i, hi⟩ : ∃ i : Nat, x.src = (i : Int) := ⟨x.src.toNat, by omega⟩
  obtain ⟨k, hk⟩ : ∃ k : Nat, x.dst = (k : Int) := ⟨x.dst.toNat, by omega⟩
  have hi2 : i < nX := by omega
  have hk2 : k < nX := by omega
  obtain ⟨b, off, xi, rfl, hbw, hxi, hci⟩ := (hX.below hbl (Nat.le_refl _)).one hi2
  obtain ⟨b2, off2, xk, e2, _, hxk, hck⟩ := (hX.below hbl (Nat.le_refl _)).one hk2
  cases e2
  have m1 := hs _ (List.mem_of_getElem? hxi)
  have m2 := hs _ (List.mem_of_getElem? hxk)
  have g1 : W.cell? ⟨bx, 0, none⟩ = some (.slice (some ⟨b, off, none⟩) nX cX) := (hbl.cell (p := ⟨bx, 0, none⟩) hlt).trans c0
  have g2 : W.cell? ⟨b, off + i, none⟩ = some (.int .i64 xi) := (by have := hci 0 _ rfl; simpa using this)
  have g3 : W.cell? ⟨b, off + k, none⟩ = some (.int .i64 xk) := (by have := hck 0 _ rfl; simpa using this)
  have hv : Hid (brokenP xs x = decide (x.most < xk - xi)) := (show _ = _ by
    unfold brokenP
    rw [hi, hk, Int.toNat_natCast, Int.toNat_natCast, List.getD_eq_getElem?_getD, List.getD_eq_getElem?_getD, hxi, hxk]; rfl)
  have hbx : bx < W.heap.size := by omega
  have hw0 : IntKind.i64.wrap (xk - xi) = xk - xi := (by rw [IntKind.wrap_i64]; omega)
  have HBL := Lib.hid hbl
  clear hci hck hxi hxk hX hbl s1 s2 s3 s4 hb hs c0 hz
  rw [hi, hk]
  rw [hv.out]
  have HI := Lib.hid (And.intro hi hk)
  clear hi hk
  go_enter Tryz.func246, Tryz.ntmps246
  go_wp2_with (go_quiet (fail))
  go_ret
  exact ⟨rfl, by have := (HBL.out.alloc (by have := HBL.out.size; omega) (.cells #[.int .i64 i, .int .i64 k, .int .i64 x.most, .int .i64 x.by_] 186)); exact below_drewN' this _⟩
theorem broken_any (pts : Int) (A : Option Addr) (n c : Nat) (bs : List Bound) (X : Option Addr) (nX cX : Nat) (xs : List Int) (w : World) (hl : Rd encBound 4 w A n c bs) (hX : Rd encInt 1 w X nX cX xs)
    (hb : ∀ b ∈ bs, 0 ≤ b.src ∧ b.src < nX ∧ 0 ≤ b.dst ∧ b.dst < nX) (hn : nX ≤ 60) (hs : ∀ x ∈ xs, -1000000000 ≤ x ∧ x ≤ 1000000000) :
    Calls Tryz.prog 212 #[.agg #[.int .i64 pts, .slice A n c], .slice X nX cX] w fun e w' => e = .returned (.int .i64 (idxI (brokenP xs) bs)) ∧ Below w.heap.size w w' := by
  obtain ⟨W1, hW1⟩ : ∃ W1, (w.alloc (.cells #[.int .i64 pts, .slice A n c] 117)).alloc (.cells #[.slice X nX cX] 101) = W1 := ⟨_, rfl⟩
  have hb1 : Below w.heap.size w W1 := by rw [← hW1]; exact ((Below.refl _ w).alloc (Nat.le_refl _) _).alloc (by simp) _
  have hz1 : W1.heap.size = w.heap.size + 2 := by rw [← hW1]; simp
  have c0 : W1.cell? ⟨w.heap.size + 1, 0, none⟩ = some (.slice X nX cX) := by rw [← hW1, World.cell?_alloc_at _ _ _ _ (by simp)]; rfl
  have hI := IndexFuncIn_Bound 246 #[.pointer (some ⟨w.heap.size + 1, 0, none⟩)] ent_broken1 (brokenP xs) A n c bs W1 (hl.below hb1 (Nat.le_refl _)) (broken1 X nX cX xs (w.heap.size + 1) bs W1 (hX.below hb1 (Nat.le_refl _)) c0 (by omega) hb hn hs)
  have HI := Lib.hid hI
  have HZ := Lib.hid hz1
  have HW := Lib.hid hW1
  clear hl hX hI c0 hz1 hW1
  generalize idxI (brokenP xs) bs = ix at *
  go_enter Tryz.func212, Tryz.ntmps212
  go_wp2_with (go_at_call 243; rw [HW.out]; (with_reducible refine HI.out.mono ?_); rintro e w2 ⟨rfl, hb2⟩; have HB2 := Lib.hid hb2; clear hb2)
  go_ret
  exact ⟨rfl, hb1.trans (HB2.out.mono (by have := HZ.out; omega))⟩
theorem ent_breaks1 : ∀ args w, (callFunc 210 args).run Tryz.prog w = .ok (.enter 210 args) w := enters_of Tryz.func210 (by kernel_rfl) rfl
set_option maxHeartbeats 2000000 in
set_option maxRecDepth 100000 in
theorem breaks1 (pts : Int) (A : Option Addr) (n c : Nat) (bs : List Bound) (X : Option Addr) (nX cX : Nat) (xs : List Int) (b0 b1 b2 : Nat) (v0 : Value) (w : World) (hl : Rd encBound 4 w A n c bs) (hX : Rd encInt 1 w X nX cX xs) (hok : SysOk pts bs) (hlen : (nX : Int) = pts) (hs : ∀ x ∈ xs, -1000000000 ≤ x ∧ x ≤ 1000000000)
    (c0 : w.cell? ⟨b0, 0, none⟩ = some (.slice X nX cX)) (c1 : w.cell? ⟨b1, 0, none⟩ = some (.int .i64 pts)) (c2 : w.cell? ⟨b1, 1, none⟩ = some (.slice A n c)) (cn : w.cell? ⟨b2, 0, none⟩ = some v0) (fn : w.frozen? ⟨b2, 0, none⟩ = false) :
    Calls Tryz.prog 210 #[.pointer (some ⟨b0, 0, none⟩), .pointer (some ⟨b1, 0, none⟩), .pointer (some ⟨b2, 0, none⟩)] w fun e w' => e = .returned (.int .i64 0) ∧ GrownT (fun k => k = b2) w w' ∧ w'.cell? ⟨b2, 0, none⟩ = some (.int .i64 (idxI (brokenP xs) bs)) := by
  have hp2 := hok.p2
  have hbr := broken_any pts A n c bs X nX cX xs w hl hX (fun b hb => by have := hok.b b hb; refine ⟨?_, ?_, ?_, ?_⟩ <;> omega) (by omega) hs
  have HBR := Lib.hid hbr
  have HX := Lib.hid hX
  have HS := Lib.hid hs
  have zn := block_lt_of_cell cn
  simp only at zn
  subst hlen
  clear hbr hl hX hok hs
  generalize idxI (brokenP xs) bs = ix at *
  go_enter Tryz.func210, Tryz.ntmps210
  have hee : ((nX : Int) == (nX : Int)) = true := (by simp)
  go_wp2_with (go_at_call 211; ((with_reducible refine (need_any w).mono ?_); rintro e w2 ⟨rfl, hw2⟩; obtain rfl := hw2))
  go_loopw [14] (fun i wr => ∃ k : Nat, k ≤ nX ∧ i = .int .i64 k ∧ Hid (w = wr)) (fun i _ => nX - (intOf i).toNat)
  case atStart => exact ⟨0, Nat.zero_le _, rfl, (show w = w from rfl)⟩
  case round =>
    obtain ⟨k, hk, rfl, hw⟩ := hrel
    obtain rfl := hw.out
    by_cases hlt : k < nX
    · obtain ⟨b, off, xk, rfl, hbw, hxk, hcell⟩ := HX.out.one hlt
      have g1 : w.cell? ⟨b, off + k, none⟩ = some (.int .i64 xk) := (by have := hcell 0 _ rfl; simpa using this)
      have hwi : withinB xk (-1000000000) 1000000000 = true := withinB_iff.2 (HS.out _ (List.mem_of_getElem? hxk))
      have HWI := Lib.hid hwi
      clear hcell hxk hwi
      go_wp2_with (first
        | (go_at_call 200; (with_reducible refine (within_any _ _ _ _).mono ?_); rintro e w2 ⟨rfl, hw2⟩; obtain rfl := hw2.symm; rw [HWI.out])
        | (go_at_call 211; ((with_reducible refine (need_any w).mono ?_); rintro e w2 ⟨rfl, hw2⟩; obtain rfl := hw2)))
      go_roundw
      all_goals first
        | (simp [intOf]; omega)
        | exact ⟨k + 1, by omega, by go_num, (by first | exact (show True from trivial) | exact (show w = w from rfl))⟩
    · have hkn : k = nX := by omega
      subst hkn
      go_wp2_with (go_at_call 212; (with_reducible refine HBR.out.mono ?_); rintro e w2 ⟨rfl, hb⟩
                   have d1 : w2.cell? ⟨b2, 0, none⟩ = some v0 := (hb.cell (p := ⟨b2, 0, none⟩) zn).trans cn
                   have d2 : w2.frozen? ⟨b2, 0, none⟩ = false := (hb.frozen (p := ⟨b2, 0, none⟩) zn).trans fn)
      go_ret
      exact ⟨rfl, ⟨hb.os, hb.tape, hb.output, by simpa using hb.size, fun k hk ht => (Below.heap_setCell _ _ _ k (show k ≠ b2 from ht)).trans (hb.block k hk)⟩, World.cell?_setCell_same' _ _ _ (by rw [d1]; rfl)⟩
def brkV (xs : List Int) (bs : List Bound) : Int := idxI (brokenP xs) bs
set_option maxHeartbeats 2000000 in
set_option maxRecDepth 100000 in
theorem Breaks_any (pts : Int) (A : Option Addr) (n c : Nat) (bs : List Bound) (X : Option Addr) (nX cX : Nat) (xs : List Int) (w : World) (hl : Rd encBound 4 w A n c bs) (hX : Rd encInt 1 w X nX cX xs) (hk : checkSys pts bs = 0) (hlen : (nX : Int) = pts) (hs : ∀ x ∈ xs, -1000000000 ≤ x ∧ x ≤ 1000000000) :
    Calls Tryz.prog 162 #[.agg #[.int .i64 pts, .slice A n c], .slice X nX cX] w fun e w' => ∃ i : Int, e = .returned (.tuple #[.int .i64 i, .bool (decide (0 ≤ brkV xs bs)), .int .i64 0]) ∧ Below w.heap.size w w' := by
  obtain ⟨W1, hW1⟩ : ∃ W1, ((w.alloc (.cells #[.int .i64 pts, .slice A n c] 117)).alloc (.cells #[.slice X nX cX] 101)).alloc (.cells #[.int .i64 (-1)] 3) = W1 := ⟨_, rfl⟩
  have hs1 : W1.heap.size = w.heap.size + 3 := by rw [← hW1]; simp
  have hb1 : Below w.heap.size w W1 := by rw [← hW1]; exact (((Below.refl _ w).alloc (Nat.le_refl _) _).alloc (by simp <;> omega) _).alloc (by simp <;> omega) _
  have hl1 := hl.below hb1 (Nat.le_refl _)
  have hX1 := hX.below hb1 (Nat.le_refl _)
  have e0 : ∀ i, W1.cell? ⟨w.heap.size, i, none⟩ = #[Value.int .i64 pts, .slice A n c][i]? := fun i => by rw [← hW1, World.cell?_alloc_past _ _ _ (by simp <;> omega), World.cell?_alloc_past _ _ _ (by simp <;> omega), World.cell?_alloc_at _ _ _ _ rfl]
  have ea : W1.cell? ⟨w.heap.size + 1, 0, none⟩ = some (.slice X nX cX) := by rw [← hW1, World.cell?_alloc_past _ _ _ (by simp <;> omega), World.cell?_alloc_at _ _ _ _ (by simp <;> omega)]; rfl
  have en : W1.cell? ⟨w.heap.size + 2, 0, none⟩ = some (.int .i64 (-1)) := by rw [← hW1, World.cell?_alloc_at _ _ _ _ (by simp <;> omega)]; rfl
  have fnz : W1.frozen? ⟨w.heap.size + 2, 0, none⟩ = false := by rw [← hW1]; exact World.frozen?_alloc_at _ _ _ _ (by simp <;> omega)
  have htr := tried_any pts A n c bs 210 #[.pointer (some ⟨w.heap.size + 1, 0, none⟩), .pointer (some ⟨w.heap.size, 0, none⟩), .pointer (some ⟨w.heap.size + 2, 0, none⟩)] ent_breaks1 0 W1 hl1 hk
    (fun k => k = w.heap.size + 2) (fun k hk => by omega) (fun W => W.cell? ⟨w.heap.size + 2, 0, none⟩ = some (.int .i64 (brkV xs bs))) (fun Wa Wb hf h => (World.cell?_of_block (a := ⟨w.heap.size + 2, 0, none⟩) (h (w.heap.size + 2) (by omega))).trans hf)
    (fun W hW => breaks1 pts A n c bs X nX cX xs (w.heap.size + 1) w.heap.size (w.heap.size + 2) (.int .i64 (-1)) W (hl1.below hW (Nat.le_refl _)) (hX1.below hW (Nat.le_refl _)) (sysOk_of hk) hlen hs
      ((hW.cell (p := ⟨w.heap.size + 1, 0, none⟩) (show w.heap.size + 1 < W1.heap.size by omega)).trans ea) ((hW.cell (p := ⟨w.heap.size, 0, none⟩) (show w.heap.size < W1.heap.size by omega)).trans (e0 0)) ((hW.cell (p := ⟨w.heap.size, 1, none⟩) (show w.heap.size < W1.heap.size by omega)).trans (e0 1))
      ((hW.cell (p := ⟨w.heap.size + 2, 0, none⟩) (show w.heap.size + 2 < W1.heap.size by omega)).trans en) ((hW.frozen (p := ⟨w.heap.size + 2, 0, none⟩) (show w.heap.size + 2 < W1.heap.size by omega)).trans fnz))
  generalize brkV xs bs = ix at *
  have HT := Lib.hid htr
  have HW := Lib.hid hW1
  clear htr hW1 e0 ea en fnz hl hl1 hX hX1 hk hlen hs
  by_cases hi : 0 ≤ ix
  · rw [decide_eq_true hi]
    have hi' : ¬ ix < 0 := by omega
    clear hi
    go_enter Tryz.func162, Tryz.ntmps162
    go_wp2_with (go_at_call 193; rw [HW.out]; refine HT.out.mono ?_; rintro e w2 ⟨rfl, hg, hc⟩)
    go_ret3
    exact ⟨_, rfl, hb1.trans ⟨hg.os, hg.tape, hg.output, by have := hg.size; omega, fun k hk => hg.block k (by omega) (by omega)⟩⟩
  · rw [decide_eq_false hi]
    have hi' : ix < 0 := by omega
    clear hi
    go_enter Tryz.func162, Tryz.ntmps162
    go_wp2_with (go_at_call 193; rw [HW.out]; refine HT.out.mono ?_; rintro e w2 ⟨rfl, hg, hc⟩)
    go_ret3
    exact ⟨_, rfl, hb1.trans ⟨hg.os, hg.tape, hg.output, by have := hg.size; omega, fun k hk => hg.block k (by omega) (by omega)⟩⟩
theorem brk_keeps (xs : List Int) (bs : List Bound) : (!decide (0 ≤ brkV xs bs)) = keepsB bs xs := by
  unfold brkV keepsB
  rw [idxI_any, Bool.eq_iff_iff]
  simp only [Bool.not_eq_true', List.any_eq_false, List.all_eq_true, brokenP, decide_eq_true_eq, decide_eq_false_iff_not]
theorem Keeps_any (pts : Int) (A : Option Addr) (n c : Nat) (bs : List Bound) (X : Option Addr) (nX cX : Nat) (xs : List Int) (w : World) (hl : Rd encBound 4 w A n c bs) (hX : Rd encInt 1 w X nX cX xs) (hk : checkSys pts bs = 0) (hlen : (nX : Int) = pts) (hs : ∀ x ∈ xs, -1000000000 ≤ x ∧ x ≤ 1000000000) :
    Calls Tryz.prog 110 #[.agg #[.int .i64 pts, .slice A n c], .slice X nX cX] w fun e w' => e = .returned (.tuple #[.bool (keepsB bs xs), .int .i64 0]) ∧ Below w.heap.size w w' := by
  have hbr := Breaks_any pts A n c bs X nX cX xs _ (hl.alloc (.cells #[.int .i64 pts, .slice A n c] 117)) (hX.alloc (.cells #[.int .i64 pts, .slice A n c] 117)) hk hlen hs
  rw [← brk_keeps]
  generalize decide (0 ≤ brkV xs bs) = r at *
  have HB := Lib.hid hbr
  clear hbr hl hX hk hlen hs
  cases r
  all_goals
    go_enter Tryz.func110, Tryz.ntmps110
    go_wp2_with (go_at_call 162; (with_reducible refine HB.out.mono ?_); rintro e w2 ⟨i, rfl, hb2⟩; have HB2 := Lib.hid hb2; clear hb2)
    go_ret2
    exact ⟨rfl, ((Below.refl _ w).alloc (Nat.le_refl _) _).trans (HB2.out.mono (by simp))⟩
end Go.Proofs.YtelnkflmnbhclaaGreat
end

/- What is proved: the drawn region in the loop of CheckDates: whether a date is one of the place. Conditions: none. -/
section
namespace Go.Proofs.YtelnkflmnbhclaaGreat
open Go.RowKit Go.Proofs

def codecdat1 : Option Code → Code
  | some (.seq _ (.seq _ (.seq _ (.seq _ (.seq (.seq _ (.block _ (.loop (.seq _ (.seq _ (.seq (.block _ (.seq _ (.seq (.seq c _) _))) _)))))) _))))) => c
  | _ => .skip
def valcdat1 (bq off n c k _ : Nat) (y : Dating) (p : Place) : Nat → Value
  | 0 => .slice (some ⟨bq, off, none⟩) n c
  | 1 => .int .i64 k
  | 2 => .pointer (some ⟨bq, off + k * 3, none⟩)
  | 3 => .pointer (some ⟨bq, off + k * 3, none⟩)
  | 4 => .agg #[.int .i64 y.place.pit, .int .i64 y.place.layer]
  | 5 => .agg #[.int .i64 p.pit, .int .i64 p.layer]
  | 6 => .bool true
  | 7 => .bool true
  | 15 => .bool true
  | _ => undef
set_option maxRecDepth 100000 in
set_option maxHeartbeats 4000000 in
theorem cdat1 (cC : Code) (hc : cC = codecdat1 Tryz.f56.body) (bq off n c k pb : Nat) (y : Dating) (p : Place) (a : Act) (w : World) (Q : Exit → Act → World → Prop)
    (hT : a.tmps.size = 86) (t4 : a.tmps.getD 4 undef = .slice (some ⟨bq, off, none⟩) n c) (t16 : a.tmps.getD 16 undef = .int .i64 k) (t17 : a.tmps.getD 17 undef = .pointer (some ⟨pb, 0, none⟩))
    (CE : ∀ W, Below w.heap.size w W → W.cell? ⟨bq, off + k * 3, none⟩ = some (.int .i64 y.place.pit) ∧ W.cell? ⟨bq, off + k * 3 + 1, none⟩ = some (.int .i64 y.place.layer) ∧ W.cell? ⟨bq, off + k * 3 + 2, none⟩ = some (.int .i64 y.year) ∧ W.cell? ⟨pb, 0, none⟩ = some (.int .i64 p.pit) ∧ W.cell? ⟨pb, 1, none⟩ = some (.int .i64 p.layer)) (hkn : k < n) (_ : n ≤ 1000000) (h1 : eqPlace ⟨y.place.pit, y.place.layer⟩ ⟨p.pit, p.layer⟩ = false)
    (hQ : ∀ W, (fun W => Below w.heap.size w W) W → Q .normal { tmps := ((((((((((((((((a.tmps.setIfInBounds 53 (.slice (some ⟨bq, off, none⟩) n c)).setIfInBounds 54 (.int .i64 k)).setIfInBounds 55 (.pointer (some ⟨bq, off + k * 3, none⟩))).setIfInBounds 56 (.pointer (some ⟨bq, off + k * 3, none⟩))).setIfInBounds 57 (.agg #[.int .i64 y.place.pit, .int .i64 y.place.layer])).setIfInBounds 58 (.agg #[.int .i64 p.pit, .int .i64 p.layer])).setIfInBounds 59 (.bool true)).setIfInBounds 60 (.bool true)).setIfInBounds 61 (undef)).setIfInBounds 62 (undef)).setIfInBounds 63 (undef)).setIfInBounds 64 (undef)).setIfInBounds 65 (undef)).setIfInBounds 66 (undef)).setIfInBounds 67 (undef)).setIfInBounds 68 (.bool true)), defers := a.defers } W) :
    cC.wp Tryz.prog Q a w := by
  subst hc
  unfold codecdat1 Tryz.f56
  dsimp only
  refine wpIn_wide.1 (wpIn_region_vals (nn := 5) 86 (by kernel_rfl) (by kernel_rfl) hT.symm (valcdat1 bq off n c k pb y p) (fun W => Below w.heap.size w W) ((Below.refl _ _).drew) ?_ ?_)
  · intro listed io o b W hi ho h
    obtain ⟨y0, y1, y2, p0, p1⟩ := CE W h.glob
    clear hQ
    obtain ⟨hun, oi, hoi, hall⟩ := mem_ready.1 hi
    have : oi = o := Option.some.inj (hoi.symm.trans ho)
    subst this
    clear hoi hi
    have hlt : io < 16 := (by have := (Array.getElem?_eq_some_iff.1 ho).1; simpa using this)
    have hun' : listed.getD io false = false := getD_both hun
    have q4 : b.tmps[4]?.getD undef = _ := (by simpa using (h.tab.old 4 (dst_no h.tab (by kernel_rfl))).trans t4)
    have q16 : b.tmps[16]?.getD undef = _ := (by simpa using (h.tab.old 16 (dst_no h.tab (by kernel_rfl))).trans t16)
    have q17 : b.tmps[17]?.getD undef = _ := (by simpa using (h.tab.old 17 (dst_no h.tab (by kernel_rfl))).trans t17)
    have E : ∀ (jj s : Nat) (v : Value), dstOf _ jj = some s → valcdat1 bq off n c k pb y p jj = v → listed.getD jj false = true → b.tmps[s]?.getD undef = v := fun jj s v h1 h2 h3 => by rw [← h2]; simpa using h.val jj s h1 h3
    have U0 : ∀ y, oi.guard = none → Region.wanted oi y = true := fun y h => by simp [Region.wanted, h]
    have U : ∀ (jj d : Nat) (g v : Bool), oi.guard = some (jj, g) → dstOf _ jj = some d → valcdat1 bq off n c k pb y p jj = .bool v → ⟨jj, .guard⟩ ∈ oi.after → Region.wanted oi (yielded _ b.tmps) = (v == g) := fun jj d g v h1 h2 h3 h4 => wanted_of h h1 h2 (hall _ h4 rfl) h3
    rcases (by omega : io = 0 ∨ io = 1 ∨ io = 2 ∨ io = 3 ∨ io = 4 ∨ io = 5 ∨ io = 6 ∨ io = 7 ∨ io = 8 ∨ io = 9 ∨ io = 10 ∨ io = 11 ∨ io = 12 ∨ io = 13 ∨ io = 14 ∨ io = 15) with rfl | rfl | rfl | rfl | rfl | rfl | rfl | rfl | rfl | rfl | rfl | rfl | rfl | rfl | rfl | rfl
    all_goals simp only [List.getElem?_toArray, List.getElem?_cons_zero, List.getElem?_cons_succ] at ho
    all_goals cases ho
    · rw [if_pos (U0 _ rfl)]
      exact wide_val (v := .slice (some ⟨bq, off, none⟩) n c) (by clear E U U0; go_simp; try rfl) ⟨rfl, h.glob⟩
    · rw [if_pos (U0 _ rfl)]
      exact wide_val (v := .int .i64 k) (by clear E U U0; go_simp; try rfl) ⟨rfl, h.glob⟩
    · rw [if_pos (U0 _ rfl)]
      have e0 := E 0 53 (.slice (some ⟨bq, off, none⟩) n c) rfl rfl (hall ⟨0, .data⟩ (by simp) rfl)
      have e1 := E 1 54 (.int .i64 k) rfl rfl (hall ⟨1, .data⟩ (by simp) rfl)
      exact wide_val (v := .pointer (some ⟨bq, off + k * 3, none⟩)) (by clear E U U0; go_simp; try rfl) ⟨rfl, h.glob⟩
    · rw [if_pos (U0 _ rfl)]
      have e2 := E 2 55 (.pointer (some ⟨bq, off + k * 3, none⟩)) rfl rfl (hall ⟨2, .data⟩ (by simp) rfl)
      exact wide_val (v := .pointer (some ⟨bq, off + k * 3, none⟩)) (by clear E U U0; go_simp; try rfl) ⟨rfl, h.glob⟩
    · rw [if_pos (U0 _ rfl)]
      have e3 := E 3 56 (.pointer (some ⟨bq, off + k * 3, none⟩)) rfl rfl (hall ⟨3, .data⟩ (by simp) rfl)
      exact wide_val (v := .agg #[.int .i64 y.place.pit, .int .i64 y.place.layer]) (by clear E U U0; go_simp; try rfl) ⟨rfl, h.glob⟩
    · rw [if_pos (U0 _ rfl)]
      exact wide_val (v := .agg #[.int .i64 p.pit, .int .i64 p.layer]) (by clear E U U0; go_simp; try rfl) ⟨rfl, h.glob⟩
    · rw [if_pos (U0 _ rfl)]
      have e4 := E 4 57 (.agg #[.int .i64 y.place.pit, .int .i64 y.place.layer]) rfl rfl (hall ⟨4, .data⟩ (by simp) rfl)
      have e5 := E 5 58 (.agg #[.int .i64 p.pit, .int .i64 p.layer]) rfl rfl (hall ⟨5, .data⟩ (by simp) rfl)
      exact wide_val (v := .bool true) (by clear E U U0; go_simp; (try rw [h1]); try rfl) ⟨rfl, h.glob⟩
    · rw [if_pos (U0 _ rfl)]
      have e6 := E 6 59 (.bool true) rfl rfl (hall ⟨6, .data⟩ (by simp) rfl)
      exact wide_val (v := .bool true) (by clear E U U0; go_simp; try rfl) ⟨rfl, h.glob⟩
    · rw [U 7 60 false true rfl rfl rfl (by simp)]; exact rfl
    · rw [U 7 60 false true rfl rfl rfl (by simp)]; exact rfl
    · rw [U 7 60 false true rfl rfl rfl (by simp)]; exact rfl
    · rw [U 7 60 false true rfl rfl rfl (by simp)]; exact rfl
    · rw [U 7 60 false true rfl rfl rfl (by simp)]; exact rfl
    · rw [U 7 60 false true rfl rfl rfl (by simp)]; exact rfl
    · rw [U 7 60 false true rfl rfl rfl (by simp)]; exact rfl
    · rw [if_pos (U0 _ rfl)]
      have e7 := E 7 60 (.bool true) rfl rfl (hall ⟨7, .data⟩ (by simp) rfl)
      have e14 := E 14 67 (undef) rfl rfl (hall ⟨14, .data⟩ (by simp) rfl)
      exact wide_val (v := .bool true) (by clear E U U0; go_simp; try rfl) ⟨rfl, h.glob⟩
  · intro W hg
    have := hQ W hg
    simp only [List.size_toArray, bareL, bare, List.map_cons, List.map_nil, List.length_cons, List.length_nil, Nat.reduceAdd, framed, dstOf, List.getElem?_toArray, List.getElem?_cons_zero, List.getElem?_cons_succ, Option.bind_some, valcdat1]
    exact this
def codecdat2 : Option Code → Code
  | some (.seq _ (.seq _ (.seq _ (.seq _ (.seq (.seq _ (.block _ (.loop (.seq _ (.seq _ (.seq (.block _ (.seq _ (.seq (.seq c _) _))) _)))))) _))))) => c
  | _ => .skip
def valcdat2 (bq off n c k _ : Nat) (y : Dating) (p : Place) : Nat → Value
  | 0 => .slice (some ⟨bq, off, none⟩) n c
  | 1 => .int .i64 k
  | 2 => .pointer (some ⟨bq, off + k * 3, none⟩)
  | 3 => .pointer (some ⟨bq, off + k * 3, none⟩)
  | 4 => .agg #[.int .i64 y.place.pit, .int .i64 y.place.layer]
  | 5 => .agg #[.int .i64 p.pit, .int .i64 p.layer]
  | 6 => .bool false
  | 7 => .bool false
  | 8 => .slice (some ⟨bq, off, none⟩) n c
  | 9 => .int .i64 k
  | 10 => .pointer (some ⟨bq, off + k * 3, none⟩)
  | 11 => .pointer (some ⟨bq, off + k * 3 + 2, none⟩)
  | 12 => .int .i64 y.year
  | 13 => .bool false
  | 14 => .bool true
  | 15 => .bool true
  | _ => undef
set_option maxRecDepth 100000 in
set_option maxHeartbeats 4000000 in
theorem cdat2 (cC : Code) (hc : cC = codecdat2 Tryz.f56.body) (bq off n c k pb : Nat) (y : Dating) (p : Place) (a : Act) (w : World) (Q : Exit → Act → World → Prop)
    (hT : a.tmps.size = 86) (t4 : a.tmps.getD 4 undef = .slice (some ⟨bq, off, none⟩) n c) (t16 : a.tmps.getD 16 undef = .int .i64 k) (t17 : a.tmps.getD 17 undef = .pointer (some ⟨pb, 0, none⟩))
    (CE : ∀ W, Below w.heap.size w W → W.cell? ⟨bq, off + k * 3, none⟩ = some (.int .i64 y.place.pit) ∧ W.cell? ⟨bq, off + k * 3 + 1, none⟩ = some (.int .i64 y.place.layer) ∧ W.cell? ⟨bq, off + k * 3 + 2, none⟩ = some (.int .i64 y.year) ∧ W.cell? ⟨pb, 0, none⟩ = some (.int .i64 p.pit) ∧ W.cell? ⟨pb, 1, none⟩ = some (.int .i64 p.layer)) (hkn : k < n) (_ : n ≤ 1000000) (h1 : eqPlace ⟨y.place.pit, y.place.layer⟩ ⟨p.pit, p.layer⟩ = true) (h2 : inB y.year (-1000000) 1000000 = false)
    (hQ : ∀ W, (fun W => Below w.heap.size w W) W → Q .normal { tmps := ((((((((((((((((a.tmps.setIfInBounds 53 (.slice (some ⟨bq, off, none⟩) n c)).setIfInBounds 54 (.int .i64 k)).setIfInBounds 55 (.pointer (some ⟨bq, off + k * 3, none⟩))).setIfInBounds 56 (.pointer (some ⟨bq, off + k * 3, none⟩))).setIfInBounds 57 (.agg #[.int .i64 y.place.pit, .int .i64 y.place.layer])).setIfInBounds 58 (.agg #[.int .i64 p.pit, .int .i64 p.layer])).setIfInBounds 59 (.bool false)).setIfInBounds 60 (.bool false)).setIfInBounds 61 (.slice (some ⟨bq, off, none⟩) n c)).setIfInBounds 62 (.int .i64 k)).setIfInBounds 63 (.pointer (some ⟨bq, off + k * 3, none⟩))).setIfInBounds 64 (.pointer (some ⟨bq, off + k * 3 + 2, none⟩))).setIfInBounds 65 (.int .i64 y.year)).setIfInBounds 66 (.bool false)).setIfInBounds 67 (.bool true)).setIfInBounds 68 (.bool true)), defers := a.defers } W) :
    cC.wp Tryz.prog Q a w := by
  subst hc
  unfold codecdat2 Tryz.f56
  dsimp only
  refine wpIn_wide.1 (wpIn_region_vals (nn := 5) 86 (by kernel_rfl) (by kernel_rfl) hT.symm (valcdat2 bq off n c k pb y p) (fun W => Below w.heap.size w W) ((Below.refl _ _).drew) ?_ ?_)
  · intro listed io o b W hi ho h
    obtain ⟨y0, y1, y2, p0, p1⟩ := CE W h.glob
    clear hQ
    obtain ⟨hun, oi, hoi, hall⟩ := mem_ready.1 hi
    have : oi = o := Option.some.inj (hoi.symm.trans ho)
    subst this
    clear hoi hi
    have hlt : io < 16 := (by have := (Array.getElem?_eq_some_iff.1 ho).1; simpa using this)
    have hun' : listed.getD io false = false := getD_both hun
    have q4 : b.tmps[4]?.getD undef = _ := (by simpa using (h.tab.old 4 (dst_no h.tab (by kernel_rfl))).trans t4)
    have q16 : b.tmps[16]?.getD undef = _ := (by simpa using (h.tab.old 16 (dst_no h.tab (by kernel_rfl))).trans t16)
    have q17 : b.tmps[17]?.getD undef = _ := (by simpa using (h.tab.old 17 (dst_no h.tab (by kernel_rfl))).trans t17)
    have E : ∀ (jj s : Nat) (v : Value), dstOf _ jj = some s → valcdat2 bq off n c k pb y p jj = v → listed.getD jj false = true → b.tmps[s]?.getD undef = v := fun jj s v h1 h2 h3 => by rw [← h2]; simpa using h.val jj s h1 h3
    have U0 : ∀ y, oi.guard = none → Region.wanted oi y = true := fun y h => by simp [Region.wanted, h]
    have U : ∀ (jj d : Nat) (g v : Bool), oi.guard = some (jj, g) → dstOf _ jj = some d → valcdat2 bq off n c k pb y p jj = .bool v → ⟨jj, .guard⟩ ∈ oi.after → Region.wanted oi (yielded _ b.tmps) = (v == g) := fun jj d g v h1 h2 h3 h4 => wanted_of h h1 h2 (hall _ h4 rfl) h3
    rcases (by omega : io = 0 ∨ io = 1 ∨ io = 2 ∨ io = 3 ∨ io = 4 ∨ io = 5 ∨ io = 6 ∨ io = 7 ∨ io = 8 ∨ io = 9 ∨ io = 10 ∨ io = 11 ∨ io = 12 ∨ io = 13 ∨ io = 14 ∨ io = 15) with rfl | rfl | rfl | rfl | rfl | rfl | rfl | rfl | rfl | rfl | rfl | rfl | rfl | rfl | rfl | rfl
    all_goals simp only [List.getElem?_toArray, List.getElem?_cons_zero, List.getElem?_cons_succ] at ho
    all_goals cases ho
    · rw [if_pos (U0 _ rfl)]
      exact wide_val (v := .slice (some ⟨bq, off, none⟩) n c) (by clear E U U0; go_simp; try rfl) ⟨rfl, h.glob⟩
    · rw [if_pos (U0 _ rfl)]
      exact wide_val (v := .int .i64 k) (by clear E U U0; go_simp; try rfl) ⟨rfl, h.glob⟩
    · rw [if_pos (U0 _ rfl)]
      have e0 := E 0 53 (.slice (some ⟨bq, off, none⟩) n c) rfl rfl (hall ⟨0, .data⟩ (by simp) rfl)
      have e1 := E 1 54 (.int .i64 k) rfl rfl (hall ⟨1, .data⟩ (by simp) rfl)
      exact wide_val (v := .pointer (some ⟨bq, off + k * 3, none⟩)) (by clear E U U0; go_simp; try rfl) ⟨rfl, h.glob⟩
    · rw [if_pos (U0 _ rfl)]
      have e2 := E 2 55 (.pointer (some ⟨bq, off + k * 3, none⟩)) rfl rfl (hall ⟨2, .data⟩ (by simp) rfl)
      exact wide_val (v := .pointer (some ⟨bq, off + k * 3, none⟩)) (by clear E U U0; go_simp; try rfl) ⟨rfl, h.glob⟩
    · rw [if_pos (U0 _ rfl)]
      have e3 := E 3 56 (.pointer (some ⟨bq, off + k * 3, none⟩)) rfl rfl (hall ⟨3, .data⟩ (by simp) rfl)
      exact wide_val (v := .agg #[.int .i64 y.place.pit, .int .i64 y.place.layer]) (by clear E U U0; go_simp; try rfl) ⟨rfl, h.glob⟩
    · rw [if_pos (U0 _ rfl)]
      exact wide_val (v := .agg #[.int .i64 p.pit, .int .i64 p.layer]) (by clear E U U0; go_simp; try rfl) ⟨rfl, h.glob⟩
    · rw [if_pos (U0 _ rfl)]
      have e4 := E 4 57 (.agg #[.int .i64 y.place.pit, .int .i64 y.place.layer]) rfl rfl (hall ⟨4, .data⟩ (by simp) rfl)
      have e5 := E 5 58 (.agg #[.int .i64 p.pit, .int .i64 p.layer]) rfl rfl (hall ⟨5, .data⟩ (by simp) rfl)
      exact wide_val (v := .bool false) (by clear E U U0; go_simp; (try rw [h1]); try rfl) ⟨rfl, h.glob⟩
    · rw [if_pos (U0 _ rfl)]
      have e6 := E 6 59 (.bool false) rfl rfl (hall ⟨6, .data⟩ (by simp) rfl)
      exact wide_val (v := .bool false) (by clear E U U0; go_simp; try rfl) ⟨rfl, h.glob⟩
    · rw [U 7 60 false false rfl rfl rfl (by simp), if_pos (show (false == false) = true from rfl)]
      exact wide_val (v := .slice (some ⟨bq, off, none⟩) n c) (by clear E U U0; go_simp; try rfl) ⟨rfl, h.glob⟩
    · rw [U 7 60 false false rfl rfl rfl (by simp), if_pos (show (false == false) = true from rfl)]
      exact wide_val (v := .int .i64 k) (by clear E U U0; go_simp; try rfl) ⟨rfl, h.glob⟩
    · rw [U 7 60 false false rfl rfl rfl (by simp), if_pos (show (false == false) = true from rfl)]
      have e8 := E 8 61 (.slice (some ⟨bq, off, none⟩) n c) rfl rfl (hall ⟨8, .data⟩ (by simp) rfl)
      have e9 := E 9 62 (.int .i64 k) rfl rfl (hall ⟨9, .data⟩ (by simp) rfl)
      exact wide_val (v := .pointer (some ⟨bq, off + k * 3, none⟩)) (by clear E U U0; go_simp; try rfl) ⟨rfl, h.glob⟩
    · rw [U 7 60 false false rfl rfl rfl (by simp), if_pos (show (false == false) = true from rfl)]
      have e10 := E 10 63 (.pointer (some ⟨bq, off + k * 3, none⟩)) rfl rfl (hall ⟨10, .data⟩ (by simp) rfl)
      exact wide_val (v := .pointer (some ⟨bq, off + k * 3 + 2, none⟩)) (by clear E U U0; go_simp; try rfl) ⟨rfl, h.glob⟩
    · rw [U 7 60 false false rfl rfl rfl (by simp), if_pos (show (false == false) = true from rfl)]
      have e11 := E 11 64 (.pointer (some ⟨bq, off + k * 3 + 2, none⟩)) rfl rfl (hall ⟨11, .data⟩ (by simp) rfl)
      exact wide_val (v := .int .i64 y.year) (by clear E U U0; go_simp; try rfl) ⟨rfl, h.glob⟩
    · rw [U 7 60 false false rfl rfl rfl (by simp), if_pos (show (false == false) = true from rfl)]
      have e12 := E 12 65 (.int .i64 y.year) rfl rfl (hall ⟨12, .data⟩ (by simp) rfl)
      clear E U U0
      refine wide_call (f := 97) (args := #[.int .i64 y.year, .int .i64 (-1000000), .int .i64 1000000]) (by go_simp <;> (try simpa [Act.eval] using e12)) ((in_any _ _ _ W).mono ?_)
      rintro e w' ⟨rfl, rfl⟩
      rw [h2]
      exact ⟨_, rfl, rfl, h.glob⟩
    · rw [U 7 60 false false rfl rfl rfl (by simp), if_pos (show (false == false) = true from rfl)]
      have e13 := E 13 66 (.bool false) rfl rfl (hall ⟨13, .data⟩ (by simp) rfl)
      exact wide_val (v := .bool true) (by clear E U U0; go_simp; try rfl) ⟨rfl, h.glob⟩
    · rw [if_pos (U0 _ rfl)]
      have e7 := E 7 60 (.bool false) rfl rfl (hall ⟨7, .data⟩ (by simp) rfl)
      have e14 := E 14 67 (.bool true) rfl rfl (hall ⟨14, .data⟩ (by simp) rfl)
      exact wide_val (v := .bool true) (by clear E U U0; go_simp; try rfl) ⟨rfl, h.glob⟩
  · intro W hg
    have := hQ W hg
    simp only [List.size_toArray, bareL, bare, List.map_cons, List.map_nil, List.length_cons, List.length_nil, Nat.reduceAdd, framed, dstOf, List.getElem?_toArray, List.getElem?_cons_zero, List.getElem?_cons_succ, Option.bind_some, valcdat2]
    exact this
def codecdat3 : Option Code → Code
  | some (.seq _ (.seq _ (.seq _ (.seq _ (.seq (.seq _ (.block _ (.loop (.seq _ (.seq _ (.seq (.block _ (.seq _ (.seq (.seq c _) _))) _)))))) _))))) => c
  | _ => .skip
def valcdat3 (bq off n c k _ : Nat) (y : Dating) (p : Place) : Nat → Value
  | 0 => .slice (some ⟨bq, off, none⟩) n c
  | 1 => .int .i64 k
  | 2 => .pointer (some ⟨bq, off + k * 3, none⟩)
  | 3 => .pointer (some ⟨bq, off + k * 3, none⟩)
  | 4 => .agg #[.int .i64 y.place.pit, .int .i64 y.place.layer]
  | 5 => .agg #[.int .i64 p.pit, .int .i64 p.layer]
  | 6 => .bool false
  | 7 => .bool false
  | 8 => .slice (some ⟨bq, off, none⟩) n c
  | 9 => .int .i64 k
  | 10 => .pointer (some ⟨bq, off + k * 3, none⟩)
  | 11 => .pointer (some ⟨bq, off + k * 3 + 2, none⟩)
  | 12 => .int .i64 y.year
  | 13 => .bool true
  | 14 => .bool false
  | 15 => .bool false
  | _ => undef
set_option maxRecDepth 100000 in
set_option maxHeartbeats 4000000 in
theorem cdat3 (cC : Code) (hc : cC = codecdat3 Tryz.f56.body) (bq off n c k pb : Nat) (y : Dating) (p : Place) (a : Act) (w : World) (Q : Exit → Act → World → Prop)
    (hT : a.tmps.size = 86) (t4 : a.tmps.getD 4 undef = .slice (some ⟨bq, off, none⟩) n c) (t16 : a.tmps.getD 16 undef = .int .i64 k) (t17 : a.tmps.getD 17 undef = .pointer (some ⟨pb, 0, none⟩))
    (CE : ∀ W, Below w.heap.size w W → W.cell? ⟨bq, off + k * 3, none⟩ = some (.int .i64 y.place.pit) ∧ W.cell? ⟨bq, off + k * 3 + 1, none⟩ = some (.int .i64 y.place.layer) ∧ W.cell? ⟨bq, off + k * 3 + 2, none⟩ = some (.int .i64 y.year) ∧ W.cell? ⟨pb, 0, none⟩ = some (.int .i64 p.pit) ∧ W.cell? ⟨pb, 1, none⟩ = some (.int .i64 p.layer)) (hkn : k < n) (_ : n ≤ 1000000) (h1 : eqPlace ⟨y.place.pit, y.place.layer⟩ ⟨p.pit, p.layer⟩ = true) (h2 : inB y.year (-1000000) 1000000 = true)
    (hQ : ∀ W, (fun W => Below w.heap.size w W) W → Q .normal { tmps := ((((((((((((((((a.tmps.setIfInBounds 53 (.slice (some ⟨bq, off, none⟩) n c)).setIfInBounds 54 (.int .i64 k)).setIfInBounds 55 (.pointer (some ⟨bq, off + k * 3, none⟩))).setIfInBounds 56 (.pointer (some ⟨bq, off + k * 3, none⟩))).setIfInBounds 57 (.agg #[.int .i64 y.place.pit, .int .i64 y.place.layer])).setIfInBounds 58 (.agg #[.int .i64 p.pit, .int .i64 p.layer])).setIfInBounds 59 (.bool false)).setIfInBounds 60 (.bool false)).setIfInBounds 61 (.slice (some ⟨bq, off, none⟩) n c)).setIfInBounds 62 (.int .i64 k)).setIfInBounds 63 (.pointer (some ⟨bq, off + k * 3, none⟩))).setIfInBounds 64 (.pointer (some ⟨bq, off + k * 3 + 2, none⟩))).setIfInBounds 65 (.int .i64 y.year)).setIfInBounds 66 (.bool true)).setIfInBounds 67 (.bool false)).setIfInBounds 68 (.bool false)), defers := a.defers } W) :
    cC.wp Tryz.prog Q a w := by
  subst hc
  unfold codecdat3 Tryz.f56
  dsimp only
  refine wpIn_wide.1 (wpIn_region_vals (nn := 5) 86 (by kernel_rfl) (by kernel_rfl) hT.symm (valcdat3 bq off n c k pb y p) (fun W => Below w.heap.size w W) ((Below.refl _ _).drew) ?_ ?_)
  · intro listed io o b W hi ho h
    obtain ⟨y0, y1, y2, p0, p1⟩ := CE W h.glob
    clear hQ
    obtain ⟨hun, oi, hoi, hall⟩ := mem_ready.1 hi
    have : oi = o := Option.some.inj (hoi.symm.trans ho)
    subst this
    clear hoi hi
    have hlt : io < 16 := (by have := (Array.getElem?_eq_some_iff.1 ho).1; simpa using this)
    have hun' : listed.getD io false = false := getD_both hun
    have q4 : b.tmps[4]?.getD undef = _ := (by simpa using (h.tab.old 4 (dst_no h.tab (by kernel_rfl))).trans t4)
    have q16 : b.tmps[16]?.getD undef = _ := (by simpa using (h.tab.old 16 (dst_no h.tab (by kernel_rfl))).trans t16)
    have q17 : b.tmps[17]?.getD undef = _ := (by simpa using (h.tab.old 17 (dst_no h.tab (by kernel_rfl))).trans t17)
    have E : ∀ (jj s : Nat) (v : Value), dstOf _ jj = some s → valcdat3 bq off n c k pb y p jj = v → listed.getD jj false = true → b.tmps[s]?.getD undef = v := fun jj s v h1 h2 h3 => by rw [← h2]; simpa using h.val jj s h1 h3
    have U0 : ∀ y, oi.guard = none → Region.wanted oi y = true := fun y h => by simp [Region.wanted, h]
    have U : ∀ (jj d : Nat) (g v : Bool), oi.guard = some (jj, g) → dstOf _ jj = some d → valcdat3 bq off n c k pb y p jj = .bool v → ⟨jj, .guard⟩ ∈ oi.after → Region.wanted oi (yielded _ b.tmps) = (v == g) := fun jj d g v h1 h2 h3 h4 => wanted_of h h1 h2 (hall _ h4 rfl) h3
    rcases (by omega : io = 0 ∨ io = 1 ∨ io = 2 ∨ io = 3 ∨ io = 4 ∨ io = 5 ∨ io = 6 ∨ io = 7 ∨ io = 8 ∨ io = 9 ∨ io = 10 ∨ io = 11 ∨ io = 12 ∨ io = 13 ∨ io = 14 ∨ io = 15) with rfl | rfl | rfl | rfl | rfl | rfl | rfl | rfl | rfl | rfl | rfl | rfl | rfl | rfl | rfl | rfl
    all_goals simp only [List.getElem?_toArray, List.getElem?_cons_zero, List.getElem?_cons_succ] at ho
    all_goals cases ho
    · rw [if_pos (U0 _ rfl)]
      exact wide_val (v := .slice (some ⟨bq, off, none⟩) n c) (by clear E U U0; go_simp; try rfl) ⟨rfl, h.glob⟩
    · rw [if_pos (U0 _ rfl)]
      exact wide_val (v := .int .i64 k) (by clear E U U0; go_simp; try rfl) ⟨rfl, h.glob⟩
    · rw [if_pos (U0 _ rfl)]
      have e0 := E 0 53 (.slice (some ⟨bq, off, none⟩) n c) rfl rfl (hall ⟨0, .data⟩ (by simp) rfl)
      have e1 := E 1 54 (.int .i64 k) rfl rfl (hall ⟨1, .data⟩ (by simp) rfl)
      exact wide_val (v := .pointer (some ⟨bq, off + k * 3, none⟩)) (by clear E U U0; go_simp; try rfl) ⟨rfl, h.glob⟩
    · rw [if_pos (U0 _ rfl)]
      have e2 := E 2 55 (.pointer (some ⟨bq, off + k * 3, none⟩)) rfl rfl (hall ⟨2, .data⟩ (by simp) rfl)
      exact wide_val (v := .pointer (some ⟨bq, off + k * 3, none⟩)) (by clear E U U0; go_simp; try rfl) ⟨rfl, h.glob⟩
    · rw [if_pos (U0 _ rfl)]
      have e3 := E 3 56 (.pointer (some ⟨bq, off + k * 3, none⟩)) rfl rfl (hall ⟨3, .data⟩ (by simp) rfl)
      exact wide_val (v := .agg #[.int .i64 y.place.pit, .int .i64 y.place.layer]) (by clear E U U0; go_simp; try rfl) ⟨rfl, h.glob⟩
    · rw [if_pos (U0 _ rfl)]
      exact wide_val (v := .agg #[.int .i64 p.pit, .int .i64 p.layer]) (by clear E U U0; go_simp; try rfl) ⟨rfl, h.glob⟩
    · rw [if_pos (U0 _ rfl)]
      have e4 := E 4 57 (.agg #[.int .i64 y.place.pit, .int .i64 y.place.layer]) rfl rfl (hall ⟨4, .data⟩ (by simp) rfl)
      have e5 := E 5 58 (.agg #[.int .i64 p.pit, .int .i64 p.layer]) rfl rfl (hall ⟨5, .data⟩ (by simp) rfl)
      exact wide_val (v := .bool false) (by clear E U U0; go_simp; (try rw [h1]); try rfl) ⟨rfl, h.glob⟩
    · rw [if_pos (U0 _ rfl)]
      have e6 := E 6 59 (.bool false) rfl rfl (hall ⟨6, .data⟩ (by simp) rfl)
      exact wide_val (v := .bool false) (by clear E U U0; go_simp; try rfl) ⟨rfl, h.glob⟩
    · rw [U 7 60 false false rfl rfl rfl (by simp), if_pos (show (false == false) = true from rfl)]
      exact wide_val (v := .slice (some ⟨bq, off, none⟩) n c) (by clear E U U0; go_simp; try rfl) ⟨rfl, h.glob⟩
    · rw [U 7 60 false false rfl rfl rfl (by simp), if_pos (show (false == false) = true from rfl)]
      exact wide_val (v := .int .i64 k) (by clear E U U0; go_simp; try rfl) ⟨rfl, h.glob⟩
    · rw [U 7 60 false false rfl rfl rfl (by simp), if_pos (show (false == false) = true from rfl)]
      have e8 := E 8 61 (.slice (some ⟨bq, off, none⟩) n c) rfl rfl (hall ⟨8, .data⟩ (by simp) rfl)
      have e9 := E 9 62 (.int .i64 k) rfl rfl (hall ⟨9, .data⟩ (by simp) rfl)
      exact wide_val (v := .pointer (some ⟨bq, off + k * 3, none⟩)) (by clear E U U0; go_simp; try rfl) ⟨rfl, h.glob⟩
    · rw [U 7 60 false false rfl rfl rfl (by simp), if_pos (show (false == false) = true from rfl)]
      have e10 := E 10 63 (.pointer (some ⟨bq, off + k * 3, none⟩)) rfl rfl (hall ⟨10, .data⟩ (by simp) rfl)
      exact wide_val (v := .pointer (some ⟨bq, off + k * 3 + 2, none⟩)) (by clear E U U0; go_simp; try rfl) ⟨rfl, h.glob⟩
    · rw [U 7 60 false false rfl rfl rfl (by simp), if_pos (show (false == false) = true from rfl)]
      have e11 := E 11 64 (.pointer (some ⟨bq, off + k * 3 + 2, none⟩)) rfl rfl (hall ⟨11, .data⟩ (by simp) rfl)
      exact wide_val (v := .int .i64 y.year) (by clear E U U0; go_simp; try rfl) ⟨rfl, h.glob⟩
    · rw [U 7 60 false false rfl rfl rfl (by simp), if_pos (show (false == false) = true from rfl)]
      have e12 := E 12 65 (.int .i64 y.year) rfl rfl (hall ⟨12, .data⟩ (by simp) rfl)
      clear E U U0
      refine wide_call (f := 97) (args := #[.int .i64 y.year, .int .i64 (-1000000), .int .i64 1000000]) (by go_simp <;> (try simpa [Act.eval] using e12)) ((in_any _ _ _ W).mono ?_)
      rintro e w' ⟨rfl, rfl⟩
      rw [h2]
      exact ⟨_, rfl, rfl, h.glob⟩
    · rw [U 7 60 false false rfl rfl rfl (by simp), if_pos (show (false == false) = true from rfl)]
      have e13 := E 13 66 (.bool true) rfl rfl (hall ⟨13, .data⟩ (by simp) rfl)
      exact wide_val (v := .bool false) (by clear E U U0; go_simp; try rfl) ⟨rfl, h.glob⟩
    · rw [if_pos (U0 _ rfl)]
      have e7 := E 7 60 (.bool false) rfl rfl (hall ⟨7, .data⟩ (by simp) rfl)
      have e14 := E 14 67 (.bool false) rfl rfl (hall ⟨14, .data⟩ (by simp) rfl)
      exact wide_val (v := .bool false) (by clear E U U0; go_simp; try rfl) ⟨rfl, h.glob⟩
  · intro W hg
    have := hQ W hg
    simp only [List.size_toArray, bareL, bare, List.map_cons, List.map_nil, List.length_cons, List.length_nil, Nat.reduceAdd, framed, dstOf, List.getElem?_toArray, List.getElem?_cons_zero, List.getElem?_cons_succ, Option.bind_some, valcdat3]
    exact this
end Go.Proofs.YtelnkflmnbhclaaGreat
end

/- What is proved: the contract of CheckDates: whether a list is dates. Conditions: none. -/
section
namespace Go.Proofs.YtelnkflmnbhclaaGreat
open Go.RowKit Go.Proofs Go.Shelf

theorem Own.zero1 (w : World) : Own encInt 1 3 w.heap.size (w.alloc (.cells #[.int .i64 0] 3)) (some ⟨w.heap.size, 0, none⟩) 1 1 [0] :=
  ⟨rfl, by simp [encInt], .inr ⟨w.heap.size, 1, #[.int .i64 0], rfl, Nat.le_refl _, heap_alloc_new w _, Nat.le_refl _, by decide, by simp, by simp [encInt]⟩⟩
theorem elInt_years {d : List Dating} {ps : List Place} (h : datesFit ps d = true) : ∀ x ∈ (0 :: d.map (·.year)), -1000000000 ≤ x ∧ x ≤ 1000000000 := by
  unfold datesFit at h
  rw [Bool.and_eq_true, List.all_eq_true] at h
  intro x hx
  rcases List.mem_cons.1 hx with rfl | hx
  · omega
  · obtain ⟨y, hy, rfl⟩ := List.mem_map.1 hx
    have := inB_iff.1 (h.2 y hy)
    omega
theorem fit_len {d : List Dating} {ps : List Place} (h : d.length ≠ ps.length) : datesFit ps d = false := by
  unfold datesFit
  rw [decide_eq_false (fun e => h (by rw [← e, List.length_map])), Bool.false_and]
theorem fit_place {d : List Dating} {ps : List Place} {k : Nat} {y : Dating} {p : Place} (hy : d[k]? = some y) (hp : ps[k]? = some p) (h : eqPlace ⟨y.place.pit, y.place.layer⟩ ⟨p.pit, p.layer⟩ = false) : datesFit ps d = false := by
  unfold datesFit
  rw [decide_eq_false, Bool.false_and]
  intro e
  rw [← e, List.getElem?_map, hy] at hp
  cases hp
  exact eqPlace_no.1 h rfl
theorem fit_year {d : List Dating} {ps : List Place} {k : Nat} {y : Dating} (hy : d[k]? = some y) (h : inB y.year (-1000000) 1000000 = false) : datesFit ps d = false := by
  unfold datesFit
  have : d.all (fun y => inB y.year (-1000000) 1000000) = false := by
    rw [List.all_eq_false]
    exact ⟨y, List.mem_of_getElem? hy, by simp [h]⟩
  rw [this, Bool.and_false]
theorem fit_all {d : List Dating} {ps : List Place} (hl : d.length = ps.length) (h : ∀ (k : Nat) (y : Dating) (p : Place), d[k]? = some y → ps[k]? = some p → y.place = p ∧ inB y.year (-1000000) 1000000 = true) : datesFit ps d = true := by
  unfold datesFit
  rw [Bool.and_eq_true, decide_eq_true_iff, List.all_eq_true]
  refine ⟨List.ext_getElem? fun k => ?_, fun y hy => ?_⟩
  · rw [List.getElem?_map]
    rcases Nat.lt_or_ge k d.length with hk | hk
    · have h1 : d[k]? = some d[k] := List.getElem?_eq_getElem hk
      have h2 : ps[k]? = some (ps[k]'(by omega)) := List.getElem?_eq_getElem (by omega)
      rw [h1, h2, Option.map_some, (h k _ _ h1 h2).1]
    · rw [List.getElem?_eq_none hk, List.getElem?_eq_none (by omega)]; rfl
  · obtain ⟨k, hk⟩ := List.mem_iff_getElem?.1 hy
    have hkl := (List.getElem?_eq_some_iff.1 hk).1
    exact (h k y _ hk (List.getElem?_eq_getElem (show k < ps.length by omega))).2
set_option maxRecDepth 100000 in
set_option maxHeartbeats 8000000 in
theorem CheckDates_any (A : Option Addr) (n c : Nat) (l : List Trace) (known : Int) (bA : Option Addr) (bn bc : Nat) (bs : List Bond) (M : Option Addr) (mn mc : Nat) (mv : List Place) (DA : Option Addr) (dn dc : Nat) (d : List Dating) (w : World) (hl : Rd encTrace 10 w A n c l) (hb : Rd encBond 5 w bA bn bc bs) (hm : Rd encPlace 2 w M mn mc mv) (hd : Rd encDating 3 w DA dn dc d) (hdn : dn ≤ 1000000) :
    Calls Tryz.prog 56 #[.slice A n c, .int .i64 known, .slice bA bn bc, .slice M mn mc, .slice DA dn dc] w fun e w' => e = .returned (.tuple #[.bool (checkDatesV l known bs mv d).1, .int .i64 (checkDatesV l known bs mv d).2]) ∧ Below w.heap.size w w' := by
  have hwith := with_any A n c l known bA bn bc bs M mn mc mv w hl hb hm
  have HW := Lib.hid hwith
  have HD := Lib.hid hd
  have hdl := hd.len
  clear hwith hl hb hm hd
  by_cases he : withErr l known bs mv = 0
  case neg =>
    have he' := neBool he
    have hv : checkDatesV l known bs mv d = (false, withErr l known bs mv) := by unfold checkDatesV; rw [if_pos he]
    rw [hv]
    have HNE := Lib.hid he
    clear hv he hdl
    generalize withErr l known bs mv = er at *
    go_enter Tryz.func56, Tryz.ntmps56
    go_wp2_with (go_at_call 85; refine HW.out.mono ?_; rintro e w2 ⟨p, cs, rfl, hb2, hp, _⟩
                 obtain ⟨rfl, rfl⟩ := hp HNE.out
                 unfold zeroYears
                 have HB2 := Lib.hid hb2
                 clear hp hb2)
    go_ret2
    exact ⟨rfl, HB2.out.alloc HB2.out.size _⟩
  case pos =>
    have hO := okO_of (askErr_of_with he)
    have hck := checkSys_years hO mv
    have hv : checkDatesV l known bs mv d = (datesFit (placesOf (counting l known) bs) d && keepsB (sysOf l known bs mv) (0 :: d.map (·.year)), 0) := by unfold checkDatesV; rw [if_neg (by simpa using he)]
    rw [hv]
    have hsysE : sysOf l known bs mv = (linksL (counting l known) bs mv).map (boundOf (ptsM (placesOf (counting l known) bs) (placesOf (counting l known) bs).length)) := rfl
    rw [← hsysE] at hck
    rw [he] at HW
    have hps := hO.pn
    have hll := linksL_len (counting l known) bs mv
    have hl1 := hO.tn
    have hl2 := hO.bn
    clear hv he hO
    obtain ⟨ps, hpe⟩ : ∃ ps, placesOf (counting l known) bs = ps := ⟨_, rfl⟩
    obtain ⟨L, hLe⟩ : ∃ L, linksL (counting l known) bs mv = L := ⟨_, rfl⟩
    obtain ⟨S, hSe⟩ : ∃ S, sysOf l known bs mv = S := ⟨_, rfl⟩
    rw [hpe, hLe] at HW
    rw [hSe, hpe, hLe] at hsysE
    rw [hSe, hpe] at hck ⊢
    rw [hpe] at hps
    rw [hLe] at hll
    have hLn : L.length ≤ 800 := by omega
    have hkeep : datesFit ps d = true → ∀ (w4 : World) (A4 : Option Addr) (c4 : Nat) (X : Option Addr) (cX : Nat), Rd encBound 4 w4 A4 L.length c4 (L.map (boundOf (ptsM ps ps.length))) → Rd encInt 1 w4 X (ps.length + 1) cX (0 :: d.map (·.year)) → Calls Tryz.prog 110 #[.agg #[.int .i64 (ps.length + 1), .slice A4 L.length c4], .slice X (ps.length + 1) cX] w4 fun e w' => e = .returned (.tuple #[.bool (keepsB S (0 :: d.map (·.year))), .int .i64 0]) ∧ Below w4.heap.size w4 w' := fun hf w4 A4 c4 X cX h1 h2 => by
      rw [← hsysE] at h1
      exact Keeps_any (ps.length + 1) A4 L.length c4 S X (ps.length + 1) cX _ w4 h1 h2 hck (by omega) (elInt_years hf)
    have HKEEP := Lib.hid hkeep
    clear hkeep hck hsysE hpe hLe hSe hll hl1 hl2
    by_cases hlen : dn = ps.length
    case neg =>
      have hff : datesFit ps d = false := fit_len (by omega)
      rw [hff, Bool.false_and]
      have hne : ((dn : Int) != (ps.length : Int)) = true := (by simp; omega)
      clear hff hlen HKEEP
      go_enter Tryz.func56, Tryz.ntmps56
      go_wp2_with (go_at_call 85; refine HW.out.mono ?_; rintro e w2 ⟨p, cs, rfl, hb2, _, hp⟩
                   obtain ⟨o, rfl, hOr, Ab, cb, Al, cl, mb, rfl, y1, y2, y3, y4⟩ := hp rfl
                   obtain ⟨ho, At, ct, Ap, cp, Aa, ca, h1, h2o, h3o, h4o⟩ := id hOr
                   have hlo := (Array.getElem?_eq_some_iff.1 h1).1
                   have q2 : w2.cell? ⟨o, 2, none⟩ = some (.slice Ap ps.length cp) := (by simp [World.cell?, h1])
                   have HB2 := Lib.hid hb2
                   clear y1 y2 y3 y4 hOr hp hb2 h1 h2o h3o h4o)
      go_ret2
      exact ⟨rfl, HB2.out.alloc HB2.out.size _⟩
    case pos =>
      have HDL := Lib.hid hdl
      clear hdl
      subst hlen
      have hee : ((ps.length : Int) != (ps.length : Int)) = false := (by simp)
      go_enter Tryz.func56, Tryz.ntmps56
      go_wp2_with (go_at_call 85; refine HW.out.mono ?_; rintro e w2 ⟨p, cs, rfl, hb2, _, hp⟩
                   obtain ⟨o, rfl, hOr, Ab, cb, Al, cl, mb, rfl, y1, y2, y3, y4⟩ := hp rfl
                   obtain ⟨ho, At, ct, Ap, cp, Aa, ca, h1, h2o, h3o, h4o⟩ := id hOr
                   have hlo := (Array.getElem?_eq_some_iff.1 h1).1
                   obtain ⟨w3, hw3⟩ : ∃ w3, w2.alloc (.cells #[.int .i64 (ps.length + 1), .slice Ab L.length cb, .slice Al L.length cl, .map (some mb)] 120) = w3 := ⟨_, rfl⟩
                   have hb23 : Below w2.heap.size w2 w3 := (by rw [← hw3]; exact (Below.refl _ w2).alloc (Nat.le_refl _) _)
                   have hh3 : w3.heap[w2.heap.size]? = some (.cells #[.int .i64 (ps.length + 1), .slice Ab L.length cb, .slice Al L.length cl, .map (some mb)] 120 (0, 0)) := (by rw [← hw3]; exact heap_alloc_new w2 _)
                   have HZ3 := Lib.hid (show w3.heap.size = w2.heap.size + 1 from by rw [← hw3]; simp)
                   obtain ⟨w4, hw4⟩ : ∃ w4, w3.alloc (.cells #[.int .i64 0] 3) = w4 := ⟨_, rfl⟩
                   have hb34 : Below w3.heap.size w3 w4 := (by rw [← hw4]; exact (Below.refl _ w3).alloc (Nat.le_refl _) _)
                   have HX4 := Lib.hid (show Own encInt 1 3 w3.heap.size w4 (some ⟨w3.heap.size, 0, none⟩) 1 1 [0] from by rw [← hw4]; exact Own.zero1 w3)
                   have q3 : w3.cell? ⟨o, 2, none⟩ = some (.slice Ap ps.length cp) := (by have := (hb23.block o hlo).trans h1; simp [World.cell?, this])
                   have q4 : w4.cell? ⟨o, 2, none⟩ = some (.slice Ap ps.length cp) := (by have := (hb34.block o (by have := hb23.size; omega)).trans ((hb23.block o hlo).trans h1); simp [World.cell?, this])
                   have HB2 := Lib.hid hb2
                   have HB3 := Lib.hid (hb2.trans (hb23.mono hb2.size))
                   have HB34 := Lib.hid hb34
                   have HH3 := Lib.hid hh3
                   have HP3 := Lib.hid ((h3o.rd (fun _ => rfl) (by omega)).below hb23 (Nat.le_refl _))
                   have HS3 := Lib.hid ((y1.rd (fun _ => rfl) (by omega)).below hb23 (Nat.le_refl _))
                   clear y1 y2 y3 y4 hOr hp hb2 h1 h2o h3o h4o hb23 hb34 hh3)
      clear q3 q4
      have hz3 := HB3.out.size
      go_loopw [15, 48] (fun s15 s48 wr => ∃ (k : Nat) (Ax : Option Addr) (cx : Nat) (xs : List Int), k ≤ ps.length ∧ s48 = .int .i64 k ∧ s15 = .slice Ax xs.length cx ∧ xs.length = k + 1 ∧ Hid (Below w3.heap.size w3 wr) ∧ Hid (xs = 0 :: (d.take k).map (·.year)) ∧ Hid (Own encInt 1 3 w3.heap.size wr Ax xs.length cx xs) ∧ Hid (∀ j y p, j < k → d[j]? = some y → ps[j]? = some p → y.place = p ∧ inB y.year (-1000000) 1000000 = true)) (fun _ s48 _ => ps.length - (intOf s48).toNat)
      case atStart => exact ⟨0, some ⟨w3.heap.size, 0, none⟩, 1, [0], Nat.zero_le _, rfl, rfl, rfl, HB34, (show _ = _ from rfl), HX4, (show ∀ j y p, j < 0 → _ from fun j y p h => absurd h (by omega))⟩
      case round =>
        obtain ⟨k, Ax, cx, xs, hk, rfl, rfl, hxl, hbl, hxs, hO, hall⟩ := hrel
        have hzr := hbl.out.size
        by_cases hlt : k < ps.length
        · obtain ⟨bp, op, p, rfl, hbpw, hp, hcp⟩ := (HP3.out.below hbl.out (Nat.le_refl _)).one hlt
          obtain ⟨bd, od, y, rfl, hbdw, hy, hcy⟩ := (HD.out.below (HB3.out.trans (hbl.out.mono hz3)) (Nat.le_refl _)).one hlt
          have c0 : wr.cell? ⟨bp, op + k * 2, none⟩ = some (.int .i64 p.pit) := hcp 0 _ rfl
          have c1 : wr.cell? ⟨bp, op + k * 2 + 1, none⟩ = some (.int .i64 p.layer) := hcp 1 _ rfl
          have y0 : wr.cell? ⟨bd, od + k * 3, none⟩ = some (.int .i64 y.place.pit) := hcy 0 _ rfl
          have y1 : wr.cell? ⟨bd, od + k * 3 + 1, none⟩ = some (.int .i64 y.place.layer) := hcy 1 _ rfl
          have y2 : wr.cell? ⟨bd, od + k * 3 + 2, none⟩ = some (.int .i64 y.year) := hcy 2 _ rfl
          have HPK := Lib.hid hp
          have HYK := Lib.hid hy
          obtain ⟨w5, hw5⟩ : ∃ w5, wr.alloc (.cells #[.int .i64 p.pit, .int .i64 p.layer] 37) = w5 := ⟨_, rfl⟩
          have hb5 : Below wr.heap.size wr w5 := (by rw [← hw5]; exact (Below.refl _ wr).alloc (Nat.le_refl _) _)
          have hh5 : w5.heap[wr.heap.size]? = some (.cells #[.int .i64 p.pit, .int .i64 p.layer] 37 (0, 0)) := (by rw [← hw5]; exact heap_alloc_new wr _)
          have hs5 : wr.heap.size < w5.heap.size := (Array.getElem?_eq_some_iff.1 hh5).1
          have HB5 := Lib.hid (hbl.out.trans (hb5.mono hzr))
          have hz5 : w3.heap.size ≤ w5.heap.size := (by omega)
          have CE : Hid (∀ W, Below w5.heap.size w5 W → W.cell? ⟨bd, od + k * 3, none⟩ = some (.int .i64 y.place.pit) ∧ W.cell? ⟨bd, od + k * 3 + 1, none⟩ = some (.int .i64 y.place.layer) ∧ W.cell? ⟨bd, od + k * 3 + 2, none⟩ = some (.int .i64 y.year)) := (show ∀ W, Below w5.heap.size w5 W → W.cell? ⟨bd, od + k * 3, none⟩ = some (.int .i64 y.place.pit) ∧ W.cell? ⟨bd, od + k * 3 + 1, none⟩ = some (.int .i64 y.place.layer) ∧ W.cell? ⟨bd, od + k * 3 + 2, none⟩ = some (.int .i64 y.year) from fun W hW => by
            have e := fun o => (hW.cell (p := ⟨bd, o, none⟩) (show bd < w5.heap.size by omega)).trans (hb5.cell (p := ⟨bd, o, none⟩) hbdw)
            exact ⟨(e _).trans y0, (e _).trans y1, (e _).trans y2⟩)
          have CP : Hid (∀ W, Below w5.heap.size w5 W → W.cell? ⟨wr.heap.size, 0, none⟩ = some (.int .i64 p.pit) ∧ W.cell? ⟨wr.heap.size, 1, none⟩ = some (.int .i64 p.layer)) := (show ∀ W, Below w5.heap.size w5 W → _ from fun W hW => by
            have := (hW.block _ hs5).trans hh5
            simp [World.cell?, this])
          have HO5 := Lib.hid (hO.out.below hb5 (Nat.le_refl _))
          have hbd5 : bd < w5.heap.size := (by omega)
          have hk1 : k ≤ 1000000 := (by omega)
          clear hcp hcy hp hy y0 y1 y2 hh5 hb5
          cases q1 : eqPlace ⟨y.place.pit, y.place.layer⟩ ⟨p.pit, p.layer⟩ with
          | false =>
            have HQ1 := Lib.hid q1
            clear q1
            go_upto_region 8 with (fail)
            refine cdat1 _ rfl bd od ps.length dc k wr.heap.size y p _ w5 _ rfl rfl rfl rfl (fun W hW => by
              obtain ⟨a0, a1, a2⟩ := CE.out W hW
              obtain ⟨b0, b1⟩ := CP.out W hW
              exact ⟨a0, a1, a2, b0, b1⟩) hlt hdn HQ1.out ?_
            intro w6 hb6
            have HB6 := Lib.hid (HB5.out.trans (hb6.mono hz5))
            clear hb6
            simp only [List.setIfInBounds_toArray, List.set_cons_succ, List.set_cons_zero]
            go_wp2
            go_ret2
            exact ⟨by rw [fit_place HYK.out HPK.out HQ1.out]; rfl, HB3.out.trans (HB6.out.mono hz3)⟩
          | true =>
            have HQ1 := Lib.hid q1
            clear q1
            cases q2 : inB y.year (-1000000) 1000000 with
            | false =>
              have HQ2 := Lib.hid q2
              clear q2
              go_upto_region 8 with (fail)
              refine cdat2 _ rfl bd od ps.length dc k wr.heap.size y p _ w5 _ rfl rfl rfl rfl (fun W hW => by
                obtain ⟨a0, a1, a2⟩ := CE.out W hW
                obtain ⟨b0, b1⟩ := CP.out W hW
                exact ⟨a0, a1, a2, b0, b1⟩) hlt hdn HQ1.out HQ2.out ?_
              intro w6 hb6
              have HB6 := Lib.hid (HB5.out.trans (hb6.mono hz5))
              clear hb6
              simp only [List.setIfInBounds_toArray, List.set_cons_succ, List.set_cons_zero]
              go_wp2
              go_ret2
              exact ⟨by rw [fit_year HYK.out HQ2.out]; rfl, HB3.out.trans (HB6.out.mono hz3)⟩
            | true =>
              have HQ2 := Lib.hid q2
              clear q2
              go_upto_region 8 with (fail)
              refine cdat3 _ rfl bd od ps.length dc k wr.heap.size y p _ w5 _ rfl rfl rfl rfl (fun W hW => by
                obtain ⟨a0, a1, a2⟩ := CE.out W hW
                obtain ⟨b0, b1⟩ := CP.out W hW
                exact ⟨a0, a1, a2, b0, b1⟩) hlt hdn HQ1.out HQ2.out ?_
              intro w6 hb6
              have HB6 := Lib.hid (HB5.out.trans (hb6.mono hz5))
              obtain ⟨a0, a1, a2⟩ := CE.out w6 hb6
              simp only [List.setIfInBounds_toArray, List.set_cons_succ, List.set_cons_zero]
              have hz6 := hb6.size
              have hbd6 : bd < w6.heap.size := (by omega)
              have hO6 := (HO5.out.below hb6 (Nat.le_refl _)).alloc (.cells #[.int .i64 y.year] 3)
              have hrd6 := Rd.single (enc := encInt) (k := 1) w6 #[.int .i64 y.year] 3 [y.year] 1 rfl (by omega) (fun _ => rfl) (by simp [encInt])
              have HB7 := Lib.hid (HB6.out.alloc HB6.out.size (.cells #[.int .i64 y.year] 3))
              have hz67 : w3.heap.size ≤ w6.heap.size := HB6.out.size
              clear hb6
              go_wp2_with (at_builtin; refine wpList_append_src elInt (fun _ => rfl) oneInt rfl _ _ rfl _ _ _ _ rfl rfl hO6 hrd6 (by omega) (by decide) (by simp; omega) ?_; intro A8 c8 w8 hO8 hg8 hA8
                           have HB8 := Lib.hid (HB7.out.grown hg8 (by simp; omega) (fun j e => hO6.ltB j e))
                           have HO8 := Lib.hid hO8
                           clear hO8 hg8 hA8)
              go_roundw
              all_goals first
                | (simp [intOf]; omega)
                | exact ⟨k + 1, A8, c8, xs ++ [y.year], by omega, by go_num, (by simp; try omega), (by simp; omega), HB8.out, (show _ = _ by rw [hxs.out, List.take_add_one, HYK.out, Option.toList_some, List.map_append]; rfl), (show Own _ _ _ _ _ _ _ _ _ by rw [List.length_append]; exact HO8.out), (show ∀ j y' p', _ → _ from fun j y' p' hj h1 h2 => by
                    by_cases hjk : j < k
                    · exact hall.out j y' p' hjk h1 h2
                    · have : j = k := (by omega)
                      subst this
                      rw [HYK.out] at h1
                      rw [HPK.out] at h2
                      cases h1
                      cases h2
                      exact ⟨eqPlace_iff.1 HQ1.out, HQ2.out⟩)⟩
        · have hkn : k = ps.length := by omega
          subst hkn
          have hfit : datesFit ps d = true := fit_all HDL.out (fun j y p hy hp => hall.out j y p (List.getElem?_eq_some_iff.1 hp).1 hy hp)
          have hxs2 : xs = 0 :: d.map (·.year) := by
            have h1 := hxs.out
            rwa [List.take_of_length_le (by rw [HDL.out]; exact Nat.le_refl _)] at h1
          have hK := HKEEP.out hfit wr Ab cb Ax cx (HS3.out.below hbl.out (Nat.le_refl _)) (by
            have h1 := hO.out.rd (fun _ => rfl) (by omega)
            rw [hxl, hxs2] at h1; exact h1)
          have hh := (hbl.out.block _ (by have := HZ3.out; omega)).trans HH3.out
          have i0 : wr.cell? ⟨w2.heap.size, 0, none⟩ = some (.int .i64 (ps.length + 1)) := (by simp [World.cell?, hh])
          have i1 : wr.cell? ⟨w2.heap.size, 1, none⟩ = some (.slice Ab L.length cb) := (by simp [World.cell?, hh])
          have hbxw : w2.heap.size < wr.heap.size := (by have := HZ3.out; omega)
          obtain ⟨kb, hkb⟩ : ∃ kb, keepsB S (0 :: d.map (·.year)) = kb := ⟨_, rfl⟩
          rw [← hxl, hkb] at hK
          have HK := Lib.hid hK
          have HFIT := Lib.hid hfit
          have HKB := Lib.hid hkb
          clear hK hh hxs hxs2 hfit HKEEP hxl hkb
          go_wp2_with (go_at_call 110; (with_reducible refine HK.out.mono ?_); rintro e w9 ⟨rfl, hb9⟩; have HB9 := Lib.hid (hbl.out.trans (hb9.mono hzr)); clear hb9)
          go_ret2
          exact ⟨by rw [HFIT.out, HKB.out]; rfl, HB3.out.trans (HB9.out.mono hz3)⟩
end Go.Proofs.YtelnkflmnbhclaaGreat
end

/- What is proved: dates and links that come in read as such. Conditions: none. -/
section
namespace Go.Proofs.YtelnkflmnbhclaaGreat
open Go.RowKit Go.Proofs Go.ChangeShapes Go.WideShapes Go.Deep

section
variable {H : Type} {enc : TypeId × Value → H} {w : World} {base : Nat} {spare : Nat → Bool} {held : Bool}
set_option maxRecDepth 100000 in
theorem decDating {fuel : Nat} {cs : List Value} {x : DataW H × List MemPlace} (h : DataW.trod enc Tryz.prog w base spare held fuel 140 cs = some x) : ∃ y : Dating, cs = encDating y := by
  obtain ⟨xs, m, _, _, hl, hxl, hf⟩ := DataW.trod_struct Tryz.underlying140 h
  rw [show Tryz.prog.cellsOf 140 = 3 by kernel_rfl] at hl
  match cs, hl with
  | [c0, c1, c2], _ =>
    obtain ⟨y0, g0⟩ := field_read hf hxl 0 rfl 37 0 2 rfl rfl cellsPl
    obtain ⟨y1, g1⟩ := field_read hf hxl 1 rfl 3 2 1 rfl rfl cellsInt
    simp only [List.drop_zero, List.drop_succ_cons, List.take_succ_cons, List.take_zero] at g0 g1
    obtain ⟨a, ha⟩ := decPlace g0
    obtain ⟨a1, rfl, _⟩ := one_int Tryz.underlying3 g1
    cases ha
    exact ⟨⟨a, a1⟩, rfl⟩
set_option maxRecDepth 100000 in
theorem decLink {fuel : Nat} {cs : List Value} {x : DataW H × List MemPlace} (h : DataW.trod enc Tryz.prog w base spare held fuel 74 cs = some x) : ∃ y : Link, cs = encLink y := by
  obtain ⟨xs, m, _, _, hl, hxl, hf⟩ := DataW.trod_struct Tryz.underlying74 h
  rw [show Tryz.prog.cellsOf 74 = 6 by kernel_rfl] at hl
  match cs, hl with
  | [c0, c1, c2, c3, c4, c5], _ =>
    obtain ⟨y0, g0⟩ := field_read hf hxl 0 rfl 37 0 2 rfl rfl cellsPl
    obtain ⟨y1, g1⟩ := field_read hf hxl 1 rfl 37 2 2 rfl rfl cellsPl
    obtain ⟨y2, g2⟩ := field_read hf hxl 2 rfl 3 4 1 rfl rfl cellsInt
    obtain ⟨y3, g3⟩ := field_read hf hxl 3 rfl 3 5 1 rfl rfl cellsInt
    simp only [List.drop_zero, List.drop_succ_cons, List.take_succ_cons, List.take_zero] at g0 g1 g2 g3
    obtain ⟨a, ha⟩ := decPlace g0
    obtain ⟨b, hb⟩ := decPlace g1
    obtain ⟨a2, rfl, _⟩ := one_int Tryz.underlying3 g2
    obtain ⟨a3, rfl, _⟩ := one_int Tryz.underlying3 g3
    cases ha
    cases hb
    exact ⟨⟨a, b, a2, a3⟩, rfl⟩
end
end Go.Proofs.YtelnkflmnbhclaaGreat
end

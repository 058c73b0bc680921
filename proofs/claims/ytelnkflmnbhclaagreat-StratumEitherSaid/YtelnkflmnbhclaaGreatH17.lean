/- Contracts that the laws lean on: Walk, CirP, AloP, EitP, Alon, IxLk, CCiR, CCir, Ctra, CCon. -/
import Derived.Test.YtelnkflmnbhclaaGreatG35
import Derived.Test.YtelnkflmnbhclaaGreatG36
import Derived.Test.YtelnkflmnbhclaaGreatH12
import Derived.Test.YtelnkflmnbhclaaGreatH15
import Derived.Test.YtelnkflmnbhclaaGreatG43
import Derived.Test.YtelnkflmnbhclaaGreatG16
import Derived.Test.YtelnkflmnbhclaaGreatH02
import Derived.Test.YtelnkflmnbhclaaGreatG41
import Derived.Test.YtelnkflmnbhclaaGreatG27
import Derived.Test.YtelnkflmnbhclaaGreatH01
/- What is proved: a system has a solution exactly if no closed walk of its bounds has a sum below 0; a shortest such walk goes through no point twice. Conditions: the bounds' ends are points. -/
section
namespace Go.Proofs.YtelnkflmnbhclaaGreat

def isWalk : Nat → List Bound → Nat → Prop
  | a, [], p => a = p
  | a, b :: t, p => b.src.toNat = a ∧ isWalk b.dst.toNat t p
def sumW : List Bound → Int
  | [] => 0
  | b :: t => b.most + sumW t
theorem sumW_append : ∀ u v : List Bound, sumW (u ++ v) = sumW u + sumW v
  | [], v => by simp [sumW]
  | b :: u, v => by simp [sumW, sumW_append u v]; omega
theorem isWalk_append : ∀ {a p : Nat} {u v : List Bound}, isWalk a (u ++ v) p ↔ ∃ q, isWalk a u q ∧ isWalk q v p
  | a, p, [], v => by simp [isWalk]
  | a, p, b :: u, v => by
    have ih := @isWalk_append b.dst.toNat p u v
    simp only [List.cons_append, isWalk, ih]
    constructor
    · rintro ⟨h, q, h1, h2⟩; exact ⟨q, ⟨h, h1⟩, h2⟩
    · rintro ⟨q, ⟨h, h1⟩, h2⟩; exact ⟨h, q, h1, h2⟩
theorem isWalk_sum {y : Nat → Int} : ∀ {a p : Nat} {ws : List Bound}, (∀ b ∈ ws, y b.dst.toNat ≤ y b.src.toNat + b.most) → isWalk a ws p → y p ≤ y a + sumW ws
  | a, p, [], _, h => by cases h; simp [sumW]
  | a, p, b :: t, hy, ⟨h1, h2⟩ => by
    have ih := isWalk_sum (fun c hc => hy c (List.mem_cons_of_mem _ hc)) h2
    have := hy b List.mem_cons_self
    rw [h1] at this
    simp only [sumW]
    omega
theorem sumW_low {bs ws : List Bound} {M : Int} (hm : ∀ b ∈ bs, -M ≤ b.most) (_ : 0 ≤ M) (hs : ∀ b ∈ ws, b ∈ bs) : -(M * ws.length) ≤ sumW ws := by
  induction ws with
  | nil => simp [sumW]
  | cons b t ih =>
    have h1 := hm b (hs b List.mem_cons_self)
    have h2 := ih (fun c hc => hs c (List.mem_cons_of_mem _ hc))
    simp only [sumW, List.length_cons, Int.natCast_add, Int.mul_add]
    omega

/-- the points that a walk leaves -/
def leaves (ws : List Bound) : List Nat := ws.map (fun b => b.src.toNat)
theorem not_nodup_split {α : Type} : ∀ {l : List α}, ¬ l.Nodup → ∃ x u v t, l = u ++ x :: v ++ x :: t
  | [], h => absurd List.nodup_nil h
  | a :: l, h => by
    by_cases hm : a ∈ l
    · obtain ⟨v, t, rfl⟩ := List.append_of_mem hm
      exact ⟨a, [], v, t, by simp⟩
    · have : ¬ l.Nodup := fun hn => h (List.nodup_cons.2 ⟨hm, hn⟩)
      obtain ⟨x, u, v, t, rfl⟩ := not_nodup_split this
      exact ⟨x, a :: u, v, t, by simp⟩
/-- a walk that leaves a point twice has a closed part -/
theorem walk_split {a p : Nat} {ws : List Bound} (hw : isWalk a ws p) (h : ¬ (leaves ws).Nodup) : ∃ q u v t, ws = u ++ v ++ t ∧ v ≠ [] ∧ t ≠ [] ∧ isWalk a u q ∧ isWalk q v q ∧ isWalk q t p := by
  obtain ⟨x, u, v, t, e⟩ := not_nodup_split h
  unfold leaves at e
  obtain ⟨uv, t', rfl, e1, e2⟩ := List.map_eq_append_iff.1 e
  obtain ⟨u', v', rfl, e3, e4⟩ := List.map_eq_append_iff.1 e1
  obtain ⟨b, v'', rfl, hb, _⟩ := List.map_eq_cons_iff.1 e4
  obtain ⟨c, t'', rfl, hc, _⟩ := List.map_eq_cons_iff.1 e2
  obtain ⟨q2, h1, h2⟩ := isWalk_append.1 hw
  obtain ⟨q1, h3, h4⟩ := isWalk_append.1 h1
  have a1 : q1 = x := h4.1.symm.trans hb
  have a2 : q2 = x := h2.1.symm.trans hc
  subst a1
  subst a2
  exact ⟨q2, u', b :: v'', c :: t'', rfl, by simp, by simp, h3, h4, h2⟩
/-- the points that a walk leaves, and its end -/
theorem walk_split2 {a p : Nat} {ws : List Bound} (hw : isWalk a ws p) (h : ¬ (leaves ws ++ [p]).Nodup) : ∃ q u v t, ws = u ++ v ++ t ∧ v ≠ [] ∧ isWalk a u q ∧ isWalk q v q ∧ isWalk q t p := by
  by_cases h1 : (leaves ws).Nodup
  · have hp : p ∈ leaves ws := by
      apply Classical.byContradiction
      intro hp
      exact h (List.nodup_append.2 ⟨h1, by simp, fun x hx y hy e => by
        have : y = p := by simpa using hy
        subst this; subst e; exact hp hx⟩)
    unfold leaves at hp
    obtain ⟨b, hb, hbp⟩ := List.mem_map.1 hp
    obtain ⟨u, v, rfl⟩ := List.append_of_mem hb
    obtain ⟨q, h3, h4⟩ := isWalk_append.1 hw
    have : q = p := h4.1.symm.trans hbp
    subst this
    exact ⟨q, u, b :: v, [], by simp, by simp, h3, h4, rfl⟩
  · obtain ⟨q, u, v, t, e, e1, _, e3⟩ := walk_split hw h1
    exact ⟨q, u, v, t, e, e1, e3⟩
theorem nodup_range {n : Nat} {l : List Nat} (hn : l.Nodup) (h : ∀ x ∈ l, x < n) : l.length ≤ n := by
  have := len_le_of_sub l (List.range n) hn (fun q hq => List.mem_range.2 (h q hq))
  simpa using this

/-- no closed walk has a sum below 0 -/
def NoCircle (bs : List Bound) : Prop := ∀ a ws, (∀ b ∈ ws, b ∈ bs) → isWalk a ws a → 0 ≤ sumW ws
theorem walkIn {n : Nat} {bs : List Bound} (he : Ends n bs) : ∀ {a p : Nat} {ws : List Bound}, (∀ b ∈ ws, b ∈ bs) → isWalk a ws p → a < n → p < n
  | a, p, [], _, h, ha => by cases h; exact ha
  | a, p, b :: t, hs, ⟨h1, h2⟩, ha => walkIn he (fun c hc => hs c (List.mem_cons_of_mem _ hc)) h2 (he b (hs b List.mem_cons_self)).2
/-- without such a walk there is a short one for each -/
theorem shorten {n : Nat} {bs : List Bound} (he : Ends n bs) (hno : NoCircle bs) : ∀ (m a p : Nat) (ws : List Bound), ws.length ≤ m → a < n → (∀ b ∈ ws, b ∈ bs) → isWalk a ws p → ∃ vs, vs.length < n ∧ (∀ b ∈ vs, b ∈ bs) ∧ isWalk a vs p ∧ sumW vs ≤ sumW ws
  | m, a, p, ws, hm, ha, hs, hw => by
    by_cases h : (leaves ws ++ [p]).Nodup
    · have hl := nodup_range h (n := n) (fun x hx => by
        rcases List.mem_append.1 hx with hx | hx
        · unfold leaves at hx
          obtain ⟨b, hb, rfl⟩ := List.mem_map.1 hx
          exact (he b (hs b hb)).1
        · have : x = p := by simpa using hx
          subst this
          exact walkIn he hs hw ha)
      have : (leaves ws).length = ws.length := by simp [leaves]
      simp only [List.length_append, List.length_cons, List.length_nil] at hl
      exact ⟨ws, by omega, hs, hw, Int.le_refl _⟩
    · obtain ⟨q, u, v, t, rfl, hv, h1, h2, h3⟩ := walk_split2 hw h
      have hvl : 0 < v.length := List.length_pos_iff.2 hv
      have hsv : 0 ≤ sumW v := hno q v (fun b hb => hs b (by simp [hb])) h2
      cases m with
      | zero => rw [List.length_append, List.length_append] at hm; omega
      | succ m =>
        obtain ⟨vs, a1, a2, a3, a4⟩ := shorten he hno m a p (u ++ t) (by simp at hm ⊢; omega) ha (fun b hb => hs b (by
          rcases List.mem_append.1 hb with hb | hb <;> simp [hb])) (isWalk_append.2 ⟨q, h1, h3⟩)
        refine ⟨vs, a1, a2, a3, ?_⟩
        rw [sumW_append] at a4
        rw [sumW_append, sumW_append]
        omega
theorem int_least {P : Int → Prop} {B : Int} (hB : ∀ x, P x → B ≤ x) : ∀ (m : Nat) (x : Int), P x → (x - B).toNat ≤ m → ∃ y, P y ∧ ∀ z, P z → y ≤ z
  | m, x, hx, hm => by
    by_cases h : ∃ z, P z ∧ z < x
    · obtain ⟨z, hz, hlt⟩ := h
      have := hB z hz
      cases m with
      | zero => omega
      | succ m => exact int_least hB m z hz (by omega)
    · exact ⟨x, hx, fun z hz => by
        apply Classical.byContradiction
        intro hn
        exact h ⟨z, hz, by omega⟩⟩
theorem solution_of {n : Nat} {bs : List Bound} (he : Ends n bs) {M : Int} (hM : 0 ≤ M) (hm : ∀ b ∈ bs, -M ≤ b.most) (hno : NoCircle bs) : ∃ y : Nat → Int, (∀ b ∈ bs, y b.dst.toNat ≤ y b.src.toNat + b.most) ∧ ∀ p, p < n → -(M * n) ≤ y p ∧ y p ≤ 0 := by
  have hB : ∀ (p : Nat) (x : Int), (∃ a ws, a < n ∧ (∀ b ∈ ws, b ∈ bs) ∧ isWalk a ws p ∧ sumW ws = x) → -(M * n) ≤ x := fun p x hx => by
    obtain ⟨a, ws, h1, h2, h3, rfl⟩ := hx
    obtain ⟨vs, a1, a2, _, a4⟩ := shorten he hno ws.length a p ws (Nat.le_refl _) h1 h2 h3
    have h5 := sumW_low hm hM a2
    have h6 : M * (vs.length : Int) ≤ M * (n : Int) := Int.mul_le_mul_of_nonneg_left (by omega) hM
    omega
  have key : ∀ p : Nat, ∃ y : Int, p < n → (∃ a ws, a < n ∧ (∀ b ∈ ws, b ∈ bs) ∧ isWalk a ws p ∧ sumW ws = y) ∧ ∀ a ws, a < n → (∀ b ∈ ws, b ∈ bs) → isWalk a ws p → y ≤ sumW ws := fun p => by
    by_cases hp : p < n
    · obtain ⟨y, h1, h2⟩ := int_least (hB p) _ 0 ⟨p, [], hp, by simp, rfl, rfl⟩ (Nat.le_refl _)
      exact ⟨y, fun _ => ⟨h1, fun a ws ha hs hw => h2 _ ⟨a, ws, ha, hs, hw, rfl⟩⟩⟩
    · exact ⟨0, fun h => absurd h hp⟩
  refine ⟨fun p => Classical.choose (key p), fun b hb => ?_, fun p hp => ?_⟩
  · obtain ⟨⟨a, ws, h1, h2, h3, h4⟩, _⟩ := Classical.choose_spec (key b.src.toNat) (he b hb).1
    have h5 := (Classical.choose_spec (key b.dst.toNat) (he b hb).2).2 a (ws ++ [b]) h1 (fun c hc => by
      rcases List.mem_append.1 hc with hc | hc
      · exact h2 c hc
      · have : c = b := by simpa using hc
        subst this; exact hb) (isWalk_append.2 ⟨_, h3, rfl, rfl⟩)
    rw [sumW_append] at h5
    simp only [sumW] at h5
    simp only
    omega
  · have h := Classical.choose_spec (key p) hp
    exact ⟨hB p _ h.1, by have := h.2 p [] hp (by simp) rfl; simpa [sumW] using this⟩
theorem solution_iff {pts : Int} {bs : List Bound} (hok : SysOk pts bs) : solvedOk pts bs = true ↔ NoCircle bs := by
  rw [solvedOk_iff hok]
  constructor
  · rintro ⟨y, hy⟩ a ws hs hw
    have := isWalk_sum (fun b hb => hy b (hs b hb)) hw
    omega
  · intro hno
    have hp := hok.p2
    obtain ⟨y, hy, _⟩ := solution_of (n := pts.toNat) (fun b hb => by
      have := hok.b b hb
      constructor <;> omega) (M := 1000000) (by omega) (fun b hb => (hok.b b hb).2.2.2.2.2.1) hno
    exact ⟨y, hy⟩
/-- a shortest closed walk with a sum below 0 leaves no point twice -/
theorem least_simple {bs : List Bound} {a : Nat} {ws : List Bound} (hs : ∀ b ∈ ws, b ∈ bs) (hw : isWalk a ws a) (hneg : sumW ws < 0) (hmin : ∀ c vs, (∀ b ∈ vs, b ∈ bs) → isWalk c vs c → sumW vs < 0 → ws.length ≤ vs.length) : (leaves ws).Nodup := by
  apply Classical.byContradiction
  intro h
  obtain ⟨q, u, v, t, rfl, hv, ht, h1, h2, h3⟩ := walk_split hw h
  have hvl : 0 < v.length := List.length_pos_iff.2 hv
  have htl : 0 < t.length := List.length_pos_iff.2 ht
  rw [sumW_append, sumW_append] at hneg
  by_cases hvn : sumW v < 0
  · have := hmin q v (fun b hb => hs b (by simp [hb])) h2 hvn
    simp at this; omega
  · have := hmin a (u ++ t) (fun b hb => hs b (by rcases List.mem_append.1 hb with hb | hb <;> simp [hb])) (isWalk_append.2 ⟨q, h1, h3⟩) (by rw [sumW_append]; omega)
    simp at this; omega
end Go.Proofs.YtelnkflmnbhclaaGreat
end

/- What is proved: the plain law of the search for a circle: it returns a shortest circle that contradicts itself, and none exactly if there is none. Conditions: the system is as said. -/
section
namespace Go.Proofs.YtelnkflmnbhclaaGreat

/-! ### one round -/
theorem longerStep_yes {now : Row} {st : Row × Row} {b : Bound} {i : Nat} (h : val now b.src.toNat < noneV ∧ val now b.src.toNat + b.most < val st.1 b.dst.toNat) : longerStep now st b i = (rPut st.1 b.dst (val now b.src.toNat + b.most), rPut st.2 b.dst i) := by
  unfold longerStep
  rw [if_pos (by rw [Bool.and_eq_true]; exact ⟨decide_eq_true h.1, decide_eq_true h.2⟩)]; rfl
theorem longerStep_no {now : Row} {st : Row × Row} {b : Bound} {i : Nat} (h : ¬ (val now b.src.toNat < noneV ∧ val now b.src.toNat + b.most < val st.1 b.dst.toNat)) : longerStep now st b i = st := by
  unfold longerStep
  rw [if_neg (by rw [Bool.and_eq_true]; exact fun e => h ⟨of_decide_eq_true e.1, of_decide_eq_true e.2⟩)]
theorem longerTo_spec {bs : List Bound} (he : Ends 60 bs) (now : Row) : ∀ k, (longerTo bs now k).1.length = 60 ∧ (longerTo bs now k).2.length = 60 ∧ ∀ v, v < 60 →
    val (longerTo bs now k).1 v ≤ noneV ∧
    (val (longerTo bs now k).1 v = noneV ∨ ∃ (i : Nat) (b : Bound), bs[i]? = some b ∧ b.dst.toNat = v ∧ val (longerTo bs now k).2 v = (i : Int) ∧ val now b.src.toNat < noneV ∧ val (longerTo bs now k).1 v = val now b.src.toNat + b.most) ∧
    ∀ (i : Nat) (b : Bound), i < k → bs[i]? = some b → b.dst.toNat = v → val now b.src.toNat < noneV → val (longerTo bs now k).1 v ≤ val now b.src.toNat + b.most
  | 0 => by
    refine ⟨by simp [longerTo, emptyRow], by simp [longerTo, zeroRow], fun v hv => ?_⟩
    have e : val (longerTo bs now 0).1 v = noneV := by
      show val emptyRow v = noneV
      unfold val emptyRow
      rw [List.getD_eq_getElem?_getD, List.getElem?_replicate, if_pos hv]; rfl
    exact ⟨by omega, .inl e, fun i b h => absurd h (Nat.not_lt_zero _)⟩
  | k + 1 => by
    obtain ⟨l1, l2, ih⟩ := longerTo_spec he now k
    cases hb : bs[k]? with
    | none =>
      have e : longerTo bs now (k + 1) = longerTo bs now k := by rw [longerTo, hb]
      rw [e]
      refine ⟨l1, l2, fun v hv => ?_⟩
      obtain ⟨i1, i2, i3⟩ := ih v hv
      refine ⟨i1, i2, fun i b hi hib => ?_⟩
      rcases Nat.lt_or_ge i k with h | h
      · exact i3 i b h hib
      · have : i = k := by omega
        subst this; rw [hb] at hib; cases hib
    | some c =>
      have hc := he c (List.mem_of_getElem? hb)
      have e : longerTo bs now (k + 1) = longerStep now (longerTo bs now k) c k := by rw [longerTo, hb]
      rw [e]
      by_cases hr : val now c.src.toNat < noneV ∧ val now c.src.toNat + c.most < val (longerTo bs now k).1 c.dst.toNat
      · rw [longerStep_yes hr]
        refine ⟨by simp [rPut, l1], by simp [rPut, l2], fun v hv => ?_⟩
        obtain ⟨i1, i2, i3⟩ := ih v hv
        simp only [rPut]
        rw [val_set _ _ _ _ (by rw [l1]; exact hc.2), val_set _ _ _ _ (by rw [l2]; exact hc.2)]
        by_cases hv2 : c.dst.toNat = v
        · rw [if_pos hv2, if_pos hv2]
          refine ⟨by rw [hv2] at hr; omega, .inr ⟨k, c, hb, hv2, rfl, hr.1, rfl⟩, fun i b hi hib hbv hbn => ?_⟩
          rcases Nat.lt_or_ge i k with h | h
          · have := i3 i b h hib hbv hbn
            rw [hv2] at hr
            omega
          · have : i = k := by omega
            subst this
            rw [hb] at hib
            cases hib
            exact Int.le_refl _
        · rw [if_neg hv2, if_neg hv2]
          refine ⟨i1, i2, fun i b hi hib hbv hbn => ?_⟩
          rcases Nat.lt_or_ge i k with h | h
          · exact i3 i b h hib hbv hbn
          · have : i = k := by omega
            subst this
            rw [hb] at hib
            cases hib
            exact absurd hbv hv2
      · rw [longerStep_no hr]
        refine ⟨l1, l2, fun v hv => ?_⟩
        obtain ⟨i1, i2, i3⟩ := ih v hv
        refine ⟨i1, i2, fun i b hi hib hbv hbn => ?_⟩
        rcases Nat.lt_or_ge i k with h | h
        · exact i3 i b h hib hbv hbn
        · have : i = k := by omega
          subst this
          rw [hb] at hib
          cases hib
          subst hbv
          omega

/-! ### the rounds from one point -/
structure WInv (bs : List Bound) (p m : Nat) (x : Walks) : Prop where
  ls : x.sums.length = m + 1
  ll : x.last.length = m + 1
  zero : ∀ v, v < 60 → val (x.sums.getD 0 []) v = if v = p then 0 else noneV
  step : ∀ k, k < m → ∀ v, v < 60 → val (x.sums.getD (k + 1) []) v = noneV ∨ ∃ (i : Nat) (b : Bound), bs[i]? = some b ∧ b.dst.toNat = v ∧ val (x.last.getD (k + 1) []) v = (i : Int) ∧ val (x.sums.getD k []) b.src.toNat < noneV ∧ val (x.sums.getD (k + 1) []) v = val (x.sums.getD k []) b.src.toNat + b.most
  min : ∀ k, k < m → ∀ b ∈ bs, val (x.sums.getD k []) b.src.toNat < noneV → val (x.sums.getD (k + 1) []) b.dst.toNat ≤ val (x.sums.getD k []) b.src.toNat + b.most
theorem WInv.start (bs : List Bound) (p : Nat) (hp : p < 60) : WInv bs p 0 (walks0 p) :=
  ⟨rfl, rfl, fun v hv => by
    show val (rPut emptyRow (p : Int) 0) v = _
    rw [val_start (by omega) (by omega), Int.toNat_natCast, if_pos hv], fun k h => absurd h (Nat.not_lt_zero _), fun k h => absurd h (Nat.not_lt_zero _)⟩
theorem getD_old {α : Type} {l : List α} {x d : α} {k : Nat} (h : k < l.length) : (l ++ [x]).getD k d = l.getD k d := by
  rw [List.getD_eq_getElem?_getD, List.getD_eq_getElem?_getD, List.getElem?_append_left h]
theorem getD_new {α : Type} {l : List α} {x d : α} {k : Nat} (h : k = l.length) : (l ++ [x]).getD k d = x := by
  subst h
  rw [List.getD_eq_getElem?_getD, List.getElem?_append_right (Nat.le_refl _), Nat.sub_self]; rfl
theorem WInv.longer {bs : List Bound} (he : Ends 60 bs) {p m : Nat} {x : Walks} (h : WInv bs p m x) : WInv bs p (m + 1) (x.longer bs) := by
  have hnow : x.now = x.sums.getD m [] := by unfold Walks.now; rw [h.ls]; rfl
  have hsp := longerTo_spec he x.now bs.length
  refine ⟨by simp [Walks.longer, h.ls], by simp [Walks.longer, h.ll], fun v hv => ?_, fun k hk v hv => ?_, fun k hk b hb hn => ?_⟩
  · simp only [Walks.longer]
    rw [getD_old (by rw [h.ls]; omega)]
    exact h.zero v hv
  · simp only [Walks.longer]
    rcases Nat.lt_or_ge k m with hkm | hkm
    · rw [getD_old (by rw [h.ls]; omega), getD_old (by rw [h.ll]; omega), getD_old (by rw [h.ls]; omega)]
      exact h.step k hkm v hv
    · have : k = m := by omega
      subst this
      rw [getD_new (by rw [h.ls]), getD_new (by rw [h.ll]), getD_old (by rw [h.ls]; omega), ← hnow]
      exact (hsp.2.2 v hv).2.1
  · simp only [Walks.longer] at hn ⊢
    rcases Nat.lt_or_ge k m with hkm | hkm
    · rw [getD_old (by rw [h.ls]; omega)] at hn
      rw [getD_old (by rw [h.ls]; omega), getD_old (by rw [h.ls]; omega)]
      exact h.min k hkm b hb hn
    · have : k = m := by omega
      subst this
      rw [getD_old (by rw [h.ls]; omega)] at hn
      rw [getD_new (by rw [h.ls]), getD_old (by rw [h.ls]; omega)]
      rw [← hnow] at hn ⊢
      obtain ⟨i, hi⟩ := List.mem_iff_getElem?.1 hb
      exact (hsp.2.2 b.dst.toNat (he b hb).2).2.2 i b (List.getElem?_eq_some_iff.1 hi).1 hi rfl hn

theorem sumW_up {bs ws : List Bound} {M : Int} (hm : ∀ b ∈ bs, b.most ≤ M) (_ : 0 ≤ M) (hs : ∀ b ∈ ws, b ∈ bs) : sumW ws ≤ M * ws.length := by
  induction ws with
  | nil => simp [sumW]
  | cons b t ih =>
    have h1 := hm b (hs b List.mem_cons_self)
    have h2 := ih (fun c hc => hs c (List.mem_cons_of_mem _ hc))
    simp only [sumW, List.length_cons, Int.natCast_add, Int.mul_add]
    omega
theorem snoc_of {α : Type} : ∀ {k : Nat} {l : List α}, l.length = k + 1 → ∃ u x, l = u ++ [x] ∧ u.length = k
  | 0, [x], _ => ⟨[], x, rfl, rfl⟩
  | k + 1, y :: l, h => by
    obtain ⟨u, x, rfl, hu⟩ := snoc_of (k := k) (l := l) (by simpa using h)
    exact ⟨y :: u, x, rfl, by simp [hu]⟩
/-- no walk of so many bounds has a smaller sum -/
theorem WInv.low {bs : List Bound} (he : Ends 60 bs) (hm : ∀ b ∈ bs, b.most ≤ 1000000) {p m : Nat} {x : Walks} (h : WInv bs p m x) (hm60 : m ≤ 60) : ∀ k, k ≤ m → ∀ (ws : List Bound) (v : Nat), ws.length = k → (∀ b ∈ ws, b ∈ bs) → isWalk p ws v → p < 60 → val (x.sums.getD k []) v ≤ sumW ws
  | 0, _, ws, v, hl, _, hw, hp => by
    have : ws = [] := List.eq_nil_of_length_eq_zero hl
    subst this
    have : p = v := hw
    subst this
    rw [h.zero p hp, if_pos rfl]; exact Int.le_refl _
  | k + 1, hk, ws, v, hl, hs, hw, hp => by
    obtain ⟨u, b, rfl, hu⟩ := snoc_of hl
    obtain ⟨q, h1, h2, h3⟩ := isWalk_append.1 hw
    have h3' : b.dst.toNat = v := h3
    subst h2
    subst h3'
    have hsu : ∀ c ∈ u, c ∈ bs := fun c hc => hs c (List.mem_append_left _ hc)
    have ih := h.low he hm hm60 k (by omega) u _ hu hsu h1 hp
    have hup := sumW_up hm (by omega) hsu
    have := h.min k (by omega) b (hs b (by simp)) (by unfold noneV; rw [hu] at hup; omega)
    rw [sumW_append]
    simp only [sumW]
    omega
/-- the indices that are walked back are those of a walk with the sum -/
def IxOf (bs : List Bound) (c : List Int) (ws : List Bound) : Prop := c.map (fun i => bs[i.toNat]?) = ws.map some ∧ ∀ i ∈ c, 0 ≤ i
theorem WInv.back {bs : List Bound} (he : Ends 60 bs) {p m : Nat} {x : Walks} (h : WInv bs p m x) : ∀ k, k ≤ m → ∀ v : Int, v.toNat < 60 → val (x.sums.getD k []) v.toNat < noneV → ∃ ws, IxOf bs (backTo bs x.last (k + 1) v).reverse ws ∧ ws.length = k ∧ (∀ b ∈ ws, b ∈ bs) ∧ isWalk p ws v.toNat ∧ sumW ws = val (x.sums.getD k []) v.toNat
  | 0, _, v, hv, hn => by
    rw [h.zero _ hv] at hn ⊢
    by_cases e : v.toNat = p
    · rw [if_pos e]
      exact ⟨[], ⟨rfl, by simp [backTo]⟩, rfl, by simp, e.symm, rfl⟩
    · rw [if_neg e] at hn
      exact absurd hn (by omega)
  | k + 1, hk, v, hv, hn => by
    rcases h.step k (by omega) _ hv with e | ⟨i, b, hib, hbv, hl, hbn, hsum⟩
    · omega
    · have hb := List.mem_of_getElem? hib
      obtain ⟨ws, g1, g2, g3, g4, g5⟩ := h.back he k (by omega) b.src (he b hb).1 hbn
      have hrat : rAt (x.last.getD (k + 1) []) v = (i : Int) := by rw [rAt_val]; exact hl
      have hget : (bs.getD (rAt (x.last.getD (k + 1) []) v).toNat default).src = b.src := by
        rw [hrat, Int.toNat_natCast, List.getD_eq_getElem?_getD, hib]; rfl
      refine ⟨ws ++ [b], ?_, by simp [g2], fun c hc => ?_, isWalk_append.2 ⟨_, g4, rfl, hbv⟩, ?_⟩
      · rw [backTo, List.reverse_cons, hget, hrat]
        refine ⟨?_, fun j hj => ?_⟩
        · rw [List.map_append, List.map_append, g1.1]
          simp [hib]
        · rcases List.mem_append.1 hj with hj | hj
          · exact g1.2 j hj
          · rw [List.mem_singleton.1 hj]; omega
      · rcases List.mem_append.1 hc with hc | hc
        · exact g3 c hc
        · rw [List.mem_singleton.1 hc]; exact hb
      · rw [sumW_append]
        simp only [sumW]
        omega

/-! ### the search -/
def iterW (bs : List Bound) (p : Nat) : Nat → Walks
  | 0 => walks0 p
  | n + 1 => (iterW bs p n).longer bs
theorem iterW_inv {bs : List Bound} (he : Ends 60 bs) {p : Nat} (hp : p < 60) : ∀ n, WInv bs p n (iterW bs p n)
  | 0 => WInv.start bs p hp
  | n + 1 => (iterW_inv he hp n).longer he
/-- the sum of the least closed walk of n bounds at a point -/
def closedS (bs : List Bound) (n p : Nat) : Int := val ((iterW bs p n).sums.getD n []) p
theorem now_closed {bs : List Bound} (he : Ends 60 bs) {p : Nat} (hp : p < 60) (n : Nat) : rAt (iterW bs p n).now (p : Int) = closedS bs n p := by
  unfold closedS Walks.now
  rw [(iterW_inv he hp n).ls, rAt_val, Int.toNat_natCast]; rfl
theorem crow_law {bs : List Bound} (he : Ends 60 bs) (m : Nat) : ∀ (n j : Nat), j + n ≤ 60 →
    ((∀ p, j ≤ p → p < j + n → ¬ closedS bs (m + 1) p < 0) ∧ circleRow bs ((List.range' j n).map (iterW bs · m)) j = ((List.range' j n).map (iterW bs · (m + 1)), none)) ∨
    ∃ p ys, j ≤ p ∧ p < j + n ∧ closedS bs (m + 1) p < 0 ∧ circleRow bs ((List.range' j n).map (iterW bs · m)) j = (ys, some ((iterW bs p (m + 1)).back bs p))
  | 0, j, _ => .inl ⟨fun p h1 h2 => absurd h2 (by omega), rfl⟩
  | n + 1, j, hj => by
    rw [List.range'_succ, List.map_cons, List.map_cons]
    have e : (iterW bs j m).longer bs = iterW bs j (m + 1) := rfl
    unfold circleRow
    rw [e, now_closed he (by omega)]
    by_cases hneg : closedS bs (m + 1) j < 0
    · right
      rw [if_pos hneg]
      exact ⟨j, _, Nat.le_refl _, by omega, hneg, rfl⟩
    · rw [if_neg hneg]
      rcases crow_law he m n (j + 1) (by omega) with ⟨h1, h2⟩ | ⟨p, ys, h1, h2, h3, h4⟩
      · left
        refine ⟨fun p hp1 hp2 => ?_, by rw [h2]⟩
        by_cases e : p = j
        · subst e; exact hneg
        · exact h1 p (by omega) (by omega)
      · right
        exact ⟨p, _, by omega, by omega, h3, by rw [h4]⟩
theorem cloop_law {bs : List Bound} (he : Ends 60 bs) {pts : Nat} (hp : pts ≤ 60) : ∀ (n m : Nat),
    ((∀ k p, m < k → k ≤ m + n → p < pts → ¬ closedS bs k p < 0) ∧ circleLoop bs n ((List.range pts).map (iterW bs · m)) = []) ∨
    ∃ k p, m < k ∧ k ≤ m + n ∧ p < pts ∧ closedS bs k p < 0 ∧ (∀ j q, m < j → j < k → q < pts → ¬ closedS bs j q < 0) ∧ circleLoop bs n ((List.range pts).map (iterW bs · m)) = (iterW bs p k).back bs p
  | 0, m => .inl ⟨fun k p h1 h2 => absurd h2 (by omega), rfl⟩
  | n + 1, m => by
    unfold circleLoop
    have hr := crow_law he m pts 0 (by omega)
    rw [← List.range_eq_range'] at hr
    rcases hr with ⟨h1, h2⟩ | ⟨p, ys, h1, h2, h3, h4⟩
    · rw [h2]
      simp only
      rcases cloop_law he hp n (m + 1) with ⟨g1, g2⟩ | ⟨k, p, g1, g2, g3, g4, g5, g6⟩
      · left
        refine ⟨fun k p hk1 hk2 hp => ?_, g2⟩
        by_cases e : k = m + 1
        · subst e; exact h1 p (by omega) (by omega)
        · exact g1 k p (by omega) (by omega) hp
      · right
        refine ⟨k, p, by omega, by omega, g3, g4, fun j q hj1 hj2 hq => ?_, g6⟩
        by_cases e : j = m + 1
        · subst e; exact h1 q (by omega) (by omega)
        · exact g5 j q (by omega) hj2 hq
    · rw [h4]
      simp only
      exact .inr ⟨m + 1, p, by omega, by omega, by omega, h3, fun j q hj1 hj2 _ => absurd hj2 (by omega), rfl⟩
/-- THE LAW: a shortest circle that contradicts itself, or none, if there is none. -/
theorem circle_law {pts : Int} {bs : List Bound} (hok : SysOk pts bs) :
    (circleX pts bs = [] ∧ NoCircle bs) ∨ ∃ p ws, p < pts.toNat ∧ IxOf bs (circleX pts bs) ws ∧ (circleX pts bs).length = ws.length ∧ ws ≠ [] ∧ (∀ b ∈ ws, b ∈ bs) ∧ isWalk p ws p ∧ sumW ws < 0 ∧ ∀ c vs, (∀ b ∈ vs, b ∈ bs) → isWalk c vs c → sumW vs < 0 → ws.length ≤ vs.length := by
  have hp2 := hok.p2
  have hp1 := hok.p1
  have hends : Ends pts.toNat bs := fun b hb => by
    have := hok.b b hb
    constructor <;> omega
  have he : Ends 60 bs := fun b hb => by
    have := hends b hb
    constructor <;> omega
  have hm : ∀ b ∈ bs, b.most ≤ 1000000 := fun b hb => (hok.b b hb).2.2.2.2.2.2
  -- a circle that contradicts itself with so few bounds is found
  have hlow : ∀ a ws, (∀ b ∈ ws, b ∈ bs) → isWalk a ws a → sumW ws < 0 → ws.length ≤ pts.toNat → a < pts.toNat ∧ 0 < ws.length ∧ closedS bs ws.length a < 0 := fun a ws hs hw hneg hlen => by
    cases ws with
    | nil => exact absurd hneg (by simp [sumW])
    | cons b t =>
      have ha : a < pts.toNat := by
        have := (hends b (hs b List.mem_cons_self)).1
        rw [hw.1] at this; exact this
      refine ⟨ha, by simp, ?_⟩
      have := (iterW_inv he (show a < 60 by omega) (b :: t).length).low he hm (by omega) _ (Nat.le_refl _) (b :: t) a rfl hs hw (by omega)
      unfold closedS
      omega
  -- a shortest one is short
  have hshort : ∀ (n : Nat) (a : Nat) (ws : List Bound), ws.length ≤ n → (∀ b ∈ ws, b ∈ bs) → isWalk a ws a → sumW ws < 0 → ∃ c vs, (∀ b ∈ vs, b ∈ bs) ∧ isWalk c vs c ∧ sumW vs < 0 ∧ vs.length ≤ ws.length ∧ vs.length ≤ pts.toNat := by
    intro n
    induction n with
    | zero =>
      intro a ws hl hs hw hneg
      have : ws = [] := List.eq_nil_of_length_eq_zero (by omega)
      subst this
      exact absurd hneg (by simp [sumW])
    | succ n ih =>
      intro a ws hl hs hw hneg
      by_cases hnd : (leaves ws).Nodup
      · have h1 := nodup_range hnd (n := pts.toNat) (fun x hx => by
          unfold leaves at hx
          obtain ⟨b, hb, rfl⟩ := List.mem_map.1 hx
          exact (hends b (hs b hb)).1)
        have h2 : (leaves ws).length = ws.length := by simp [leaves]
        exact ⟨a, ws, hs, hw, hneg, Nat.le_refl _, by omega⟩
      · obtain ⟨q, u, v, t, rfl, hv, ht, h1, h2, h3⟩ := walk_split hw hnd
        have hvl : 0 < v.length := List.length_pos_iff.2 hv
        have htl : 0 < t.length := List.length_pos_iff.2 ht
        rw [sumW_append, sumW_append] at hneg
        simp only [List.length_append] at hl
        by_cases hvn : sumW v < 0
        · obtain ⟨c, vs, g1, g2, g3, g4, g5⟩ := ih q v (by omega) (fun b hb => hs b (by simp [hb])) h2 hvn
          exact ⟨c, vs, g1, g2, g3, by simp only [List.length_append]; omega, g5⟩
        · obtain ⟨c, vs, g1, g2, g3, g4, g5⟩ := ih a (u ++ t) (by rw [List.length_append]; omega) (fun b hb => hs b (by rcases List.mem_append.1 hb with hb | hb <;> simp [hb])) (isWalk_append.2 ⟨q, h1, h3⟩) (by rw [sumW_append]; omega)
          exact ⟨c, vs, g1, g2, g3, by simp only [List.length_append] at g4 ⊢; omega, g5⟩
  have hsp := cloop_law he (pts := pts.toNat) (by omega) pts.toNat 0
  have hx : circleX pts bs = circleLoop bs pts.toNat ((List.range pts.toNat).map (iterW bs · 0)) := rfl
  rw [← hx] at hsp
  rcases hsp with ⟨h1, h2⟩ | ⟨k, p, h1, h2, h3, h4, h5, h6⟩
  · left
    refine ⟨h2, fun a ws hs hw => ?_⟩
    apply Classical.byContradiction
    intro hneg
    obtain ⟨c, vs, g1, g2, g3, _, g5⟩ := hshort ws.length a ws (Nat.le_refl _) hs hw (by omega)
    obtain ⟨i1, i2, i3⟩ := hlow c vs g1 g2 g3 g5
    exact h1 vs.length c i2 (by omega) i1 i3
  · right
    have hinv := iterW_inv he (show p < 60 by omega) k
    have hbk : (iterW bs p k).back bs p = (backTo bs (iterW bs p k).last (k + 1) (p : Int)).reverse := by
      unfold Walks.back
      rw [hinv.ll]
    obtain ⟨ws, g1, g2, g3, g4, g5⟩ := hinv.back he k (Nat.le_refl _) (p : Int) (by omega) (by
      rw [Int.toNat_natCast]
      have h4' : val ((iterW bs p k).sums.getD k []) p < 0 := h4
      unfold noneV; omega)
    rw [Int.toNat_natCast] at g4 g5
    have h4' : val ((iterW bs p k).sums.getD k []) p < 0 := h4
    refine ⟨p, ws, h3, by rw [h6, hbk]; exact g1, ?_, fun e => by rw [e] at g2; simp at g2; omega, g3, g4, by omega, fun c vs hs hw hneg => ?_⟩
    · rw [h6, hbk]
      have := congrArg List.length g1.1
      simpa using this
    · rw [g2]
      obtain ⟨c', vs', e1, e2, e3, e4, e5⟩ := hshort vs.length c vs (Nat.le_refl _) hs hw hneg
      obtain ⟨i1, i2, i3⟩ := hlow c' vs' e1 e2 e3 e5
      rcases Nat.lt_or_ge vs'.length k with hlt | hge
      · exact absurd i3 (h5 _ _ i2 hlt i1)
      · omega
end Go.Proofs.YtelnkflmnbhclaaGreat
end

/- What is proved: the plain law of the test whether bounds are a circle that contradicts itself. Conditions: the indices are of bounds. -/
section
namespace Go.Proofs.YtelnkflmnbhclaaGreat

/-! ### the model of gauge.along -/
structure AlSt where
  sum : Int
  pt : Int
  frm : List Bool
  tos : List Bool
def bnd (bs : List Bound) (i : Int) : Bound := bs.getD i.toNat default
def alongStep (bs : List Bound) (st : AlSt) (i : Int) : Option AlSt :=
  if (bnd bs i).src = st.pt ∧ st.frm.getD (bnd bs i).src.toNat false = false ∧ st.tos.getD (bnd bs i).dst.toNat false = false then
    some ⟨st.sum + (bnd bs i).most, (bnd bs i).dst, st.frm.set (bnd bs i).src.toNat true, st.tos.set (bnd bs i).dst.toNat true⟩ else none
def alongTo (bs : List Bound) (l : List Int) (a : Int) : Nat → Option AlSt
  | 0 => some ⟨0, a, List.replicate 60 false, List.replicate 60 false⟩
  | k + 1 => match l[k]? with
    | some i => (alongTo bs l a k).bind (alongStep bs · i)
    | none => alongTo bs l a k
def alongV (bs : List Bound) (a b : Int) (l : List Int) : Int × Bool := match alongTo bs l a l.length with
  | none => (0, false)
  | some st => (st.sum, decide (st.pt = b))
def circleB (bs : List Bound) (l : List Int) : Bool := decide (2 ≤ l.length) && ((alongV bs (bnd bs (l.getD 0 0)).src (bnd bs (l.getD 0 0)).src l).2 && decide ((alongV bs (bnd bs (l.getD 0 0)).src (bnd bs (l.getD 0 0)).src l).1 < 0))

def enters (ws : List Bound) : List Nat := ws.map (fun b => b.dst.toNat)
def Fair (a : Nat) (ws : List Bound) : Prop := (∃ q, isWalk a ws q) ∧ (leaves ws).Nodup ∧ (enters ws).Nodup
theorem fair_less {a : Nat} {u v : List Bound} (h : Fair a (u ++ v)) : Fair a u := by
  obtain ⟨⟨q, hq⟩, h1, h2⟩ := h
  obtain ⟨q', h3, _⟩ := isWalk_append.1 hq
  unfold leaves enters at *
  rw [List.map_append] at h1 h2
  exact ⟨⟨q', h3⟩, (List.nodup_append.1 h1).1, (List.nodup_append.1 h2).1⟩
theorem nodup_snoc {α : Type} {l : List α} {x : α} : (l ++ [x]).Nodup ↔ l.Nodup ∧ x ∉ l := by
  rw [List.nodup_append]
  constructor
  · rintro ⟨h1, _, h3⟩
    exact ⟨h1, fun hx => h3 x hx x (by simp) rfl⟩
  · rintro ⟨h1, h2⟩
    refine ⟨h1, by simp, fun y hy z hz e => ?_⟩
    rw [List.mem_singleton.1 hz] at e
    subst e; exact h2 hy
theorem walk_unique : ∀ {a p q : Nat} {ws : List Bound}, isWalk a ws p → isWalk a ws q → p = q
  | _, _, _, [], h1, h2 => by cases h1; exact h2
  | _, _, _, _ :: _, h1, h2 => walk_unique h1.2 h2.2
theorem set_getD {l : List Bool} {i j : Nat} (hi : i < l.length) : (l.set i true).getD j false = (if i = j then true else l.getD j false) := by
  rw [List.getD_eq_getElem?_getD, List.getD_eq_getElem?_getD, List.getElem?_set]
  by_cases h : i = j
  · subst h; simp [hi]
  · simp [h]
theorem rep60 (v : Nat) : (List.replicate 60 false).getD v false = false := by
  rw [List.getD_eq_getElem?_getD, List.getElem?_replicate]
  split <;> rfl
structure AlInv (a : Nat) (us : List Bound) (st : AlSt) : Prop where
  sum : st.sum = sumW us
  p0 : 0 ≤ st.pt
  walk : isWalk a us st.pt.toNat
  n1 : (leaves us).Nodup
  n2 : (enters us).Nodup
  l1 : st.frm.length = 60
  l2 : st.tos.length = 60
  f : ∀ v, v < 60 → (st.frm.getD v false = true ↔ v ∈ leaves us)
  t : ∀ v, v < 60 → (st.tos.getD v false = true ↔ v ∈ enters us)
theorem along_to {bs : List Bound} (hb0 : ∀ b ∈ bs, 0 ≤ b.src ∧ b.src < 60 ∧ 0 ≤ b.dst ∧ b.dst < 60) {l : List Int} {ws : List Bound} (hix : IxOf bs l ws) (hws : ∀ b ∈ ws, b ∈ bs) {a : Int} (ha : 0 ≤ a) : ∀ k, k ≤ l.length →
    (alongTo bs l a k = none ∧ ¬ Fair a.toNat (ws.take k)) ∨ ∃ st, alongTo bs l a k = some st ∧ AlInv a.toNat (ws.take k) st
  | 0, _ => .inr ⟨_, rfl, ⟨rfl, ha, rfl, by simp [leaves], by simp [enters], by simp, by simp, fun v _ => by simp only; rw [rep60]; simp [leaves], fun v _ => by simp only; rw [rep60]; simp [enters]⟩⟩
  | k + 1, hk => by
    have hlw : l.length = ws.length := by have := congrArg List.length hix.1; simpa using this
    have hl : l[k]? = some l[k] := List.getElem?_eq_getElem (by omega)
    have hw : ws[k]? = some ws[k] := List.getElem?_eq_getElem (by omega)
    have hbk : bs[(l[k]).toNat]? = some ws[k] := by
      have := congrArg (·[k]?) hix.1
      simp only [List.getElem?_map, hl, hw, Option.map_some] at this
      exact Option.some.inj this
    have hbnd : bnd bs l[k] = ws[k] := by unfold bnd; rw [List.getD_eq_getElem?_getD, hbk]; rfl
    have htk : ws.take (k + 1) = ws.take k ++ [ws[k]] := by rw [List.take_add_one, hw]; rfl
    have hm := hb0 _ (hws _ (List.mem_of_getElem? hw))
    rw [alongTo, hl, htk]
    simp only
    rcases along_to hb0 hix hws ha k (by omega) with ⟨h1, h2⟩ | ⟨st, h1, h2⟩
    · left
      rw [h1]
      exact ⟨rfl, fun h => h2 (fair_less h)⟩
    · rw [h1]
      simp only [Option.bind_some]
      unfold alongStep
      rw [hbnd]
      have hleaf : leaves (ws.take k ++ [ws[k]]) = leaves (ws.take k) ++ [(ws[k]).src.toNat] := by unfold leaves; rw [List.map_append]; rfl
      have hent : enters (ws.take k ++ [ws[k]]) = enters (ws.take k) ++ [(ws[k]).dst.toNat] := by unfold enters; rw [List.map_append]; rfl
      split
      · rename_i hc
        obtain ⟨c1, c2, c3⟩ := hc
        right
        have d1 : (ws[k]).src.toNat ∉ leaves (ws.take k) := fun h => by
          have := (h2.f _ (by omega)).2 h; rw [c2] at this; cases this
        have d2 : (ws[k]).dst.toNat ∉ enters (ws.take k) := fun h => by
          have := (h2.t _ (by omega)).2 h; rw [c3] at this; cases this
        refine ⟨_, rfl, ⟨?_, hm.2.2.1, ?_, ?_, ?_, by simp [h2.l1], by simp [h2.l2], fun v hv => ?_, fun v hv => ?_⟩⟩
        · rw [sumW_append, h2.sum]; simp only [sumW]; omega
        · exact isWalk_append.2 ⟨_, h2.walk, by rw [c1], rfl⟩
        · rw [hleaf]; exact nodup_snoc.2 ⟨h2.n1, d1⟩
        · rw [hent]; exact nodup_snoc.2 ⟨h2.n2, d2⟩
        · simp only
          rw [set_getD (by rw [h2.l1]; omega), hleaf, List.mem_append, List.mem_singleton]
          by_cases e : (ws[k]).src.toNat = v
          · simp [e]
          · rw [if_neg e, h2.f v hv]
            exact ⟨.inl, fun h => h.elim id fun h => absurd h.symm e⟩
        · simp only
          rw [set_getD (by rw [h2.l2]; omega), hent, List.mem_append, List.mem_singleton]
          by_cases e : (ws[k]).dst.toNat = v
          · simp [e]
          · rw [if_neg e, h2.t v hv]
            exact ⟨.inl, fun h => h.elim id fun h => absurd h.symm e⟩
      · rename_i hc
        left
        refine ⟨rfl, fun hF => hc ?_⟩
        obtain ⟨⟨q, hq⟩, g1, g2⟩ := hF
        rw [hleaf] at g1
        rw [hent] at g2
        obtain ⟨q', q1, q2⟩ := isWalk_append.1 hq
        have e1 := walk_unique q1 h2.walk
        have e2 : (ws[k]).src.toNat = q' := q2.1
        refine ⟨?_, ?_, ?_⟩
        · have := h2.p0; omega
        · cases hv : st.frm.getD (ws[k]).src.toNat false with
          | false => rfl
          | true => exact absurd ((h2.f _ (by omega)).1 hv) (nodup_snoc.1 g1).2
        · cases hv : st.tos.getD (ws[k]).dst.toNat false with
          | false => rfl
          | true => exact absurd ((h2.t _ (by omega)).1 hv) (nodup_snoc.1 g2).2
/-- a closed walk enters what it leaves -/
theorem closed_enters : ∀ {a p : Nat} {ws : List Bound}, isWalk a ws p → leaves ws ++ [p] = a :: enters ws
  | _, _, [], h => by cases h; rfl
  | a, p, b :: t, h => by
    have ih := closed_enters h.2
    have e : b.src.toNat = a := h.1
    simp only [leaves, enters, List.map_cons, List.cons_append] at ih ⊢
    rw [ih, e]
theorem closed_nodup {a : Nat} {ws : List Bound} (h : isWalk a ws a) (hn : (leaves ws).Nodup) : (enters ws).Nodup := by
  have e := closed_enters h
  have hp : (leaves ws ++ [a]).Perm (a :: leaves ws) := List.perm_append_comm (l₂ := [a])
  rw [e] at hp
  exact ((List.perm_cons a).1 hp).nodup_iff.2 hn
/-- THE TEST's LAW -/
theorem circleB_iff {pts : Int} {bs : List Bound} (hok : SysOk pts bs) {l : List Int} {ws : List Bound} (hix : IxOf bs l ws) (hws : ∀ b ∈ ws, b ∈ bs) :
    circleB bs l = true ↔ 2 ≤ ws.length ∧ (∃ a, isWalk a ws a) ∧ (leaves ws).Nodup ∧ sumW ws < 0 := by
  have hp2 := hok.p2
  have hb0 : ∀ b ∈ bs, 0 ≤ b.src ∧ b.src < 60 ∧ 0 ≤ b.dst ∧ b.dst < 60 := fun b hb => by
    have := hok.b b hb
    refine ⟨?_, ?_, ?_, ?_⟩ <;> omega
  have hlw : l.length = ws.length := by have := congrArg List.length hix.1; simpa using this
  unfold circleB
  rw [hlw]
  cases ws with
  | nil => simp
  | cons b t =>
    cases l with
    | nil => simp at hlw
    | cons i l' =>
      have hbi : bs[i.toNat]? = some b := by
        have := hix.1
        simp only [List.map_cons, List.cons.injEq] at this
        exact this.1
      have hbnd : bnd bs ((i :: l').getD 0 0) = b := by
        show bnd bs i = b
        unfold bnd; rw [List.getD_eq_getElem?_getD, hbi]; rfl
      rw [hbnd]
      have hb := hb0 b (hws b List.mem_cons_self)
      have hto := along_to hb0 hix hws hb.1 (i :: l').length (Nat.le_refl _)
      rw [show (b :: t).take (i :: l').length = b :: t from List.take_of_length_le (by omega)] at hto
      simp only [Bool.and_eq_true, decide_eq_true_eq]
      unfold alongV
      rcases hto with ⟨h1, h2⟩ | ⟨st, h1, h2⟩
      · rw [h1]
        simp only [Bool.false_eq_true, false_and, and_false, false_iff]
        rintro ⟨_, ⟨a, ha⟩, hn, _⟩
        have : a = b.src.toNat := ha.1.symm
        subst this
        exact h2 ⟨⟨_, ha⟩, hn, closed_nodup ha hn⟩
      · rw [h1]
        simp only [decide_eq_true_eq]
        rw [h2.sum]
        have hp0 := h2.p0
        constructor
        · rintro ⟨g1, g2, g3⟩
          refine ⟨g1, ⟨b.src.toNat, ?_⟩, h2.n1, g3⟩
          have := h2.walk
          rw [g2] at this; exact this
        · rintro ⟨g1, ⟨a, ha⟩, _, g3⟩
          have : a = b.src.toNat := ha.1.symm
          subst this
          have := walk_unique ha h2.walk
          exact ⟨g1, by omega, g3⟩
end Go.Proofs.YtelnkflmnbhclaaGreat
end

/- What is proved: the plain law of StratumEither: there are dates or a contradiction, never both. Conditions: as said. -/
section
namespace Go.Proofs.YtelnkflmnbhclaaGreat
open Go.RowKit Go.Proofs Go.Shelf

/-! ### the model of CheckConflict -/
def ContraP (L : List Link) (m : List (Place × Int)) (c : List Link) : Prop :=
  (∀ x ∈ c, x ∈ L) ∧ 2 ≤ c.length ∧ (∃ a, isWalk a (c.map (boundOf m)) a) ∧ (leaves (c.map (boundOf m))).Nodup ∧ sumW (c.map (boundOf m)) < 0
noncomputable def contraV (L : List Link) (m : List (Place × Int)) (c : List Link) : Bool := @decide (ContraP L m c) (Classical.propDecidable _)
theorem contraV_iff {L : List Link} {m : List (Place × Int)} {c : List Link} : contraV L m c = true ↔ ContraP L m c := @decide_eq_true_iff _ (Classical.propDecidable _)
noncomputable def checkConflictV (l : List Trace) (known : Int) (bs : List Bond) (mv : List Place) (c : List Link) : Bool × Int :=
  if withErr l known bs mv ≠ 0 then (false, withErr l known bs mv) else (contraV (linksL (counting l known) bs mv) (ptsOf l known bs) c, 0)

section
variable {l : List Trace} {known : Int} {bs : List Bond} {mv : List Place}
theorem sys_ok (hw : withErr l known bs mv = 0) : SysOk ((placesOf (counting l known) bs).length + 1) (sysOf l known bs mv) := sysOk_of (checkSys_years (okO_of (askErr_of_with hw)) mv)
theorem dates_is (hw : withErr l known bs mv = 0) : (datesV l known bs mv).2.1 = solvedOk ((placesOf (counting l known) bs).length + 1) (sysOf l known bs mv) := by
  rw [datesV_is, hw, decide_eq_true rfl, Bool.true_and]; rfl
theorem conflict_is (hw : withErr l known bs mv = 0) : (conflictV l known bs mv).2.1 = circOk ((placesOf (counting l known) bs).length + 1) (sysOf l known bs mv) := by
  unfold conflictV; rw [if_neg (by simpa using hw)]
theorem conflict_err : (conflictV l known bs mv).2.2 = withErr l known bs mv := by
  unfold conflictV
  by_cases h : withErr l known bs mv = 0
  · rw [if_neg (by simpa using h), h]
  · rw [if_pos h]
theorem circOk_iff {pts : Int} {S : List Bound} : circOk pts S = true ↔ circleX pts S ≠ [] := by
  unfold circOk
  rw [decide_eq_true_iff]
  exact List.length_pos_iff
theorem solved_circ {pts : Int} {S : List Bound} (hok : SysOk pts S) : solvedOk pts S = !circOk pts S := by
  rw [Bool.eq_iff_iff, solution_iff hok, Bool.not_eq_true', ← Bool.not_eq_true, circOk_iff, ne_eq, Classical.not_not]
  rcases circle_law hok with ⟨h1, h2⟩ | ⟨p, ws, _, _, hl, hne, hs, hw, hneg, _⟩
  · exact ⟨fun _ => h1, fun _ => h2⟩
  · constructor
    · intro hno
      have := hno p ws hs hw
      omega
    · intro h
      rw [h] at hl
      exact absurd (List.eq_nil_of_length_eq_zero hl.symm) hne
/-- there are dates, or a contradiction -/
theorem either_or (hw : withErr l known bs mv = 0) : (datesV l known bs mv).2.1 = !(conflictV l known bs mv).2.1 := by
  rw [dates_is hw, conflict_is hw, solved_circ (sys_ok hw)]
/-- what CheckDates accepts are dates -/
theorem either_dates (hw : withErr l known bs mv = 0) {d : List Dating} (h : (checkDatesV l known bs mv d).1 = true) : (datesV l known bs mv).2.1 = true := by
  rw [dates_is hw, solvedOk_iff (sys_ok hw)]
  unfold checkDatesV at h
  rw [if_neg (by simpa using hw)] at h
  simp only [Bool.and_eq_true] at h
  exact ⟨fun v => (0 :: d.map (·.year)).getD v 0, keepsB_iff.1 h.2⟩
/-- what CheckConflict accepts is a contradiction, and no shorter one than that of Conflict -/
theorem either_conflict (hw : withErr l known bs mv = 0) {c : List Link} (h : (checkConflictV l known bs mv c).1 = true) : (datesV l known bs mv).2.1 = false ∧ (conflictV l known bs mv).1.length ≤ c.length := by
  have hok := sys_ok hw
  unfold checkConflictV at h
  rw [if_neg (by simpa using hw)] at h
  simp only at h
  obtain ⟨h1, h2, ⟨a, ha⟩, h4, h5⟩ := contraV_iff.1 h
  have hs : ∀ b ∈ c.map (boundOf (ptsOf l known bs)), b ∈ sysOf l known bs mv := fun b hb => by
    obtain ⟨x, hx, rfl⟩ := List.mem_map.1 hb
    exact List.mem_map.2 ⟨x, h1 x hx, rfl⟩
  have hnot : solvedOk ((placesOf (counting l known) bs).length + 1) (sysOf l known bs mv) = false := by
    rw [← Bool.not_eq_true, solution_iff hok]
    intro hno
    have := hno a _ hs ha
    omega
  refine ⟨by rw [dates_is hw]; exact hnot, ?_⟩
  unfold conflictV
  rw [if_neg (by simpa using hw)]
  simp only [someL, List.length_map]
  rcases circle_law hok with ⟨e, _⟩ | ⟨p, ws, _, _, hl, _, _, _, _, hmin⟩
  · rw [e]; simp
  · rw [hl]
    have := hmin a _ hs ha h5
    simpa using this
/-- that of Conflict is accepted -/
theorem either_own (hw : withErr l known bs mv = 0) (h : (conflictV l known bs mv).2.1 = true) : (checkConflictV l known bs mv (conflictV l known bs mv).1).1 = true := by
  have hok := sys_ok hw
  rw [conflict_is hw, circOk_iff] at h
  unfold checkConflictV conflictV
  rw [if_neg (by simpa using hw), if_neg (by simpa using hw)]
  simp only
  rw [contraV_iff]
  rcases circle_law hok with ⟨e, _⟩ | ⟨p, ws, _, hix, hl, hne, hs, hwk, hneg, hmin⟩
  · exact absurd e h
  · have hL : (sysOf l known bs mv).length = (linksL (counting l known) bs mv).length := by unfold sysOf; rw [List.length_map]
    have hval := (circleX_ok hok).2
    have hmap : (someL (linksL (counting l known) bs mv) (circleX ((placesOf (counting l known) bs).length + 1) (sysOf l known bs mv))).map (boundOf (ptsOf l known bs)) = ws := by
      have h1 : ((someL (linksL (counting l known) bs mv) (circleX ((placesOf (counting l known) bs).length + 1) (sysOf l known bs mv))).map (boundOf (ptsOf l known bs))).map some = ws.map some := by
        rw [← hix.1]
        unfold someL
        rw [List.map_map, List.map_map]
        refine List.map_congr_left fun i hi => ?_
        obtain ⟨i1, i2⟩ := hval i hi
        have hi2 : i.toNat < (linksL (counting l known) bs mv).length := by omega
        simp only [Function.comp]
        unfold sysOf
        rw [List.getElem?_map, List.getElem?_eq_getElem hi2, List.getD_eq_getElem?_getD, List.getElem?_eq_getElem hi2]; rfl
      exact (List.map_inj_right (fun _ _ h => Option.some.inj h)).1 h1
    refine ⟨fun x hx => ?_, ?_, ⟨p, by rw [hmap]; exact hwk⟩, by rw [hmap]; exact least_simple hs hwk hneg hmin, by rw [hmap]; exact hneg⟩
    · unfold someL at hx
      obtain ⟨i, hi, rfl⟩ := List.mem_map.1 hx
      obtain ⟨i1, i2⟩ := hval i hi
      have hi2 : i.toNat < (linksL (counting l known) bs mv).length := by omega
      rw [List.getD_eq_getElem?_getD, List.getElem?_eq_getElem hi2]
      exact List.getElem_mem _
    · have hlen := congrArg List.length hmap
      rw [List.length_map] at hlen
      rw [hlen]
      match ws, hne, hs, hwk with
      | [], hne, _, _ => exact absurd rfl hne
      | [b], _, hs, hwk =>
        have := hok.b b (hs b List.mem_cons_self)
        have h1 : b.src.toNat = p := hwk.1
        have h2 : b.dst.toNat = p := hwk.2
        omega
      | _ :: _ :: _, _, _, _ => simp
/-- those of Dates are accepted -/
theorem either_kept (hw : withErr l known bs mv = 0) (h : (datesV l known bs mv).2.1 = true) : (checkDatesV l known bs mv (datesV l known bs mv).1).1 = true := by
  have hO := okO_of (askErr_of_with hw)
  have hok := sys_ok hw
  have hpn := hO.pn
  rw [dates_is hw] at h
  have hv : (datesV l known bs mv).1 = datesTo (placesOf (counting l known) bs) (solvedX ((placesOf (counting l known) bs).length + 1) (sysOf l known bs mv)) (placesOf (counting l known) bs).length := by
    unfold datesV
    rw [if_neg (by simpa using hw), if_pos h]
  rw [hv]
  unfold checkDatesV
  rw [if_neg (by simpa using hw)]
  simp only [Bool.and_eq_true, datesFit, decide_eq_true_eq]
  obtain ⟨ps, hps⟩ : ∃ ps, placesOf (counting l known) bs = ps := ⟨_, rfl⟩
  rw [hps] at hpn h hok ⊢
  obtain ⟨X, hX⟩ : ∃ X, solvedX (ps.length + 1) (sysOf l known bs mv) = X := ⟨_, rfl⟩
  rw [hX]
  -- the years of the solution
  have hz60 : zeroRow.length = 60 := by simp [zeroRow]
  have hXr : ∀ v, v < ps.length + 1 → X.getD v 0 = val (settledLoop (sysOf l known bs mv) ((ps.length : Int) + 1 + 1).toNat (zeroRow, lasts)).1 v := fun v hv => by
    rw [← hX]
    unfold solvedX
    rw [if_pos h]
    rw [List.getD_eq_getElem?_getD, List.getElem?_take, if_pos (by omega)]
    unfold val
    rw [List.getD_eq_getElem?_getD]; rfl
  have hle := loop_le (bs := sysOf l known bs mv) ((ps.length : Int) + 1 + 1).toNat (zeroRow, lasts) (ends60 hok hz60)
  have hends : Ends (ps.length + 1) (sysOf l known bs mv) := fun b hb => by
    have := hok.b b hb
    constructor <;> omega
  have hmost : ∀ b ∈ sysOf l known bs mv, -10000 ≤ b.most := fun b hb => by
    unfold sysOf at hb
    obtain ⟨x, hx, rfl⟩ := List.mem_map.1 hb
    obtain ⟨_, _, _, g4, _, _, _⟩ := linksL_good hO mv x hx
    exact g4
  obtain ⟨y, hy, hyb⟩ := solution_of hends (M := 10000) (by omega) hmost ((solution_iff hok).1 h)
  have hlow := loop_low (bs := sysOf l known bs mv) (y := fun v => if v < ps.length + 1 then y v else 0) (fun b hb _ => by
    have h1 := hends b hb
    have h2 := hy b hb
    try simp only
    rw [if_pos h1.1, if_pos h1.2]; exact h2) ((ps.length : Int) + 1 + 1).toNat (zeroRow, lasts) (ends60 hok hz60) (fun v => by
    try simp only
    rw [val_zero]
    split
    · exact (hyb v (by assumption)).2
    · exact Int.le_refl _)
  have hrange : ∀ v, v < ps.length + 1 → -510000 ≤ X.getD v 0 ∧ X.getD v 0 ≤ 0 := fun v hv => by
    have h1 := hle v
    have h2 := hlow v
    simp only [val_zero, if_pos hv] at h1 h2
    have h3 := (hyb v hv).1
    have h4 : (10000 : Int) * ((ps.length + 1 : Nat) : Int) ≤ 510000 := by omega
    rw [hXr v hv]
    omega
  have hkept : ∀ b ∈ sysOf l known bs mv, X.getD b.dst.toNat 0 ≤ X.getD b.src.toNat 0 + b.most := fun b hb => by
    have h1 := hends b hb
    rw [hXr _ h1.1, hXr _ h1.2]
    refine loop_fix _ _ (ends60 hok hz60) h b hb ?_
    have := hle b.src.toNat
    simp only [val_zero] at this
    unfold noneV
    omega
  -- the dates
  have hto : ∀ k, k ≤ ps.length → (datesTo ps X k).map (·.place) = ps.take k ∧ (datesTo ps X k).map (·.year) = (List.range k).map (fun i => X.getD (i + 1) 0 - X.getD 0 0) := fun k => by
    induction k with
    | zero => intro _; exact ⟨rfl, rfl⟩
    | succ k ih =>
      intro hk
      obtain ⟨i1, i2⟩ := ih (by omega)
      rw [datesTo, List.map_append, List.map_append, i1, i2, List.range_succ, List.map_append]
      refine ⟨?_, rfl⟩
      rw [List.take_add_one, List.getElem?_eq_getElem (by omega : k < ps.length)]
      congr 1
      simp only [List.map_cons, List.map_nil, Option.toList_some]
      rw [List.getD_eq_getElem?_getD, List.getElem?_eq_getElem (by omega : k < ps.length)]; rfl
  obtain ⟨t1, t2⟩ := hto ps.length (Nat.le_refl _)
  have hat : ∀ v, v < ps.length + 1 → (0 :: (datesTo ps X ps.length).map (·.year)).getD v 0 = X.getD v 0 - X.getD 0 0 := fun v hv => by
    rw [t2]
    cases v with
    | zero => simp
    | succ v =>
      rw [List.getD_cons_succ, List.getD_eq_getElem?_getD, List.getElem?_map, List.getElem?_range (by omega)]; rfl
  refine ⟨⟨by rw [t1, List.take_length], ?_⟩, keepsB_iff.2 fun b hb => ?_⟩
  · rw [List.all_eq_true]
    intro d hd
    have hm : d.year ∈ (datesTo ps X ps.length).map (·.year) := List.mem_map.2 ⟨d, hd, rfl⟩
    rw [t2] at hm
    obtain ⟨i, hi, e⟩ := List.mem_map.1 hm
    have hi' := List.mem_range.1 hi
    have h1 := hrange (i + 1) (by omega)
    have h2 := hrange 0 (by omega)
    rw [inB_iff]
    omega
  · have h1 := hends b hb
    rw [hat _ h1.1, hat _ h1.2]
    have := hkept b hb
    omega
end
end Go.Proofs.YtelnkflmnbhclaaGreat
end

/- What is proved: the contracts of gauge.along and CheckCircle. Conditions: the system is as said, the indices are of bounds. -/
section
namespace Go.Proofs.YtelnkflmnbhclaaGreat
open Go.RowKit Go.Proofs Go.Shelf

/-- a block of flags -/
structure Flags (W : World) (g : Nat) (r : List Bool) : Prop where
  at_ : W.heap[g]? = some (.cells (r.map Value.bool).toArray 287 (0, 0))
  len : r.length = 60
theorem Flags.cell {W : World} {g : Nat} {r : List Bool} (h : Flags W g r) {i : Nat} (hi : i < 60) : W.cell? ⟨g, i, none⟩ = some (.bool (r.getD i false)) := by
  have h1 := h.at_
  have h2 := h.len
  simp [World.cell?, h1, List.getD_eq_getElem?_getD, List.getElem?_eq_getElem (show i < r.length by omega)]
theorem Flags.free {W : World} {g : Nat} {r : List Bool} (h : Flags W g r) (i : Nat) : W.frozen? ⟨g, i, none⟩ = false := by
  have h1 := h.at_
  simp [World.frozen?, h1]
theorem Flags.lt {W : World} {g : Nat} {r : List Bool} (h : Flags W g r) : g < W.heap.size := (Array.getElem?_eq_some_iff.1 h.at_).1
theorem Flags.set {W : World} {g : Nat} {r : List Bool} (h : Flags W g r) (i : Nat) : Flags (W.setCell ⟨g, i, none⟩ (.bool true)) g (r.set i true) :=
  ⟨by rw [heap_setCell_obj h.at_]; simp [List.map_set], by rw [List.length_set]; exact h.len⟩
theorem Flags.other {W : World} {g b i : Nat} {v : Value} {r : List Bool} (h : Flags W g r) (hne : g ≠ b) : Flags (W.setCell ⟨b, i, none⟩ v) g r :=
  ⟨(Below.heap_setCell _ _ _ g hne).trans h.at_, h.len⟩
theorem Flags.below {W W' : World} {g : Nat} {r : List Bool} (h : Flags W g r) (hb : Below W.heap.size W W') : Flags W' g r := ⟨(hb.block g h.lt).trans h.at_, h.len⟩
theorem Flags.drewN {W : World} {g : Nat} {r : List Bool} (h : Flags W g r) (m : Nat) : Flags (W.drewN m) g r := ⟨h.at_, h.len⟩
theorem Flags.alloc {W : World} {g : Nat} {r : List Bool} (h : Flags W g r) (o : Obj) : Flags (W.alloc o) g r := ⟨(Below.heap_alloc _ _ _ h.lt).trans h.at_, h.len⟩
theorem Flags.drew {W : World} {g : Nat} {r : List Bool} (h : Flags W g r) : Flags W.drew g r := ⟨h.at_, h.len⟩
theorem along_none {bs : List Bound} {l : List Int} {a : Int} {k : Nat} (h : alongTo bs l a k = none) : ∀ m, k ≤ m → alongTo bs l a m = none
  | 0, hm => by
    have : k = 0 := by omega
    subst this; exact h
  | m + 1, hm => by
    rcases Nat.lt_or_ge m k with hlt | hge
    · have : k = m + 1 := by omega
      subst this; exact h
    · have ih := along_none h m hge
      rw [alongTo]
      split
      · rw [ih]; rfl
      · exact ih
theorem alongV_none {bs : List Bound} {l : List Int} {a b : Int} {k : Nat} (h : alongTo bs l a k = none) (hk : k ≤ l.length) : alongV bs a b l = (0, false) := by
  unfold alongV; rw [along_none h _ hk]
theorem along_next {bs : List Bound} {l : List Int} {a : Int} {k : Nat} {i : Int} {st : AlSt} (hi : l[k]? = some i) (h : alongTo bs l a k = some st) : alongTo bs l a (k + 1) = alongStep bs st i := by
  rw [alongTo, hi, h]; rfl
theorem zero287 : (Tryz.prog.info? 287).map (·.zero) = some (some (.agg (List.replicate 60 (Value.bool false)).toArray)) := by kernel_rfl
theorem flags_new (w : World) : Flags (w.alloc (.cells (List.replicate 60 (Value.bool false)).toArray 287)) w.heap.size (List.replicate 60 false) :=
  ⟨by rw [heap_alloc_new]; simp, by simp⟩
theorem step_no {bs : List Bound} {st : AlSt} {i : Int} (h : ¬ ((bnd bs i).src = st.pt ∧ st.frm.getD (bnd bs i).src.toNat false = false ∧ st.tos.getD (bnd bs i).dst.toNat false = false)) : alongStep bs st i = none := by unfold alongStep; rw [if_neg h]
set_option maxHeartbeats 8000000 in
set_option maxRecDepth 100000 in
theorem along_any (pts : Int) (A : Option Addr) (n c : Nat) (bs : List Bound) (a b : Int) (L : Option Addr) (m lc : Nat) (l : List Int) (w : World) (hl : Rd encBound 4 w A n c bs) (hL : Rd encInt 1 w L m lc l) (hok : SysOk pts bs) (hv : ∀ i ∈ l, 0 ≤ i ∧ i < bs.length) (hm : m ≤ 1000000) :
    Calls Tryz.prog 213 #[.agg #[.int .i64 pts, .slice A n c], .int .i64 a, .int .i64 b, .slice L m lc] w fun e w' => e = .returned (.tuple #[.int .i64 (alongV bs a b l).1, .bool (alongV bs a b l).2]) ∧ Below w.heap.size w w' := by
  obtain ⟨w1, hw1⟩ : ∃ w1, w.alloc (.cells #[.int .i64 pts, .slice A n c] 117) = w1 := ⟨_, rfl⟩
  obtain ⟨w2, hw2⟩ : ∃ w2, w1.alloc (.cells (List.replicate 60 (Value.bool false)).toArray 287) = w2 := ⟨_, rfl⟩
  obtain ⟨w3, hw3⟩ : ∃ w3, w2.alloc (.cells (List.replicate 60 (Value.bool false)).toArray 287) = w3 := ⟨_, rfl⟩
  have hb1 : Below w.heap.size w w1 := (by rw [← hw1]; exact (Below.refl _ w).alloc (Nat.le_refl _) _)
  have hz1 : w.heap.size < w1.heap.size := (by rw [← hw1]; simp)
  have hb12 : Below w1.heap.size w1 w2 := (by rw [← hw2]; exact (Below.refl _ w1).alloc (Nat.le_refl _) _)
  have hz2 : w1.heap.size < w2.heap.size := (by rw [← hw2]; simp)
  have hb23 : Below w2.heap.size w2 w3 := (by rw [← hw3]; exact (Below.refl _ w2).alloc (Nat.le_refl _) _)
  have hz3 : w2.heap.size < w3.heap.size := (by rw [← hw3]; simp)
  have F1 : Flags w3 w1.heap.size (List.replicate 60 false) := (by have := flags_new w1; rw [hw2] at this; exact this.below hb23)
  have F2 : Flags w3 w2.heap.size (List.replicate 60 false) := (by have := flags_new w2; rw [hw3] at this; exact this)
  have hs1 : w1.heap[w.heap.size]? = some (.cells #[.int .i64 pts, .slice A n c] 117 (0, 0)) := (by rw [← hw1]; exact heap_alloc_new w _)
  have HB13 := Lib.hid (hb12.trans (hb23.mono (Nat.le_of_lt hz2)))
  have hp2 := hok.p2
  have hbl := hok.len
  have hln := hl.len
  have hLn := Lib.hid hL.len
  have HLB := Lib.hid (hl.below hb1 (Nat.le_refl _))
  have HLL := Lib.hid (hL.below hb1 (Nat.le_refl _))
  have HV := Lib.hid hv
  have HOK := Lib.hid (fun b hb => (hok.b b hb))
  have HF1 := Lib.hid F1
  have HF2 := Lib.hid F2
  have HS1 := Lib.hid hs1
  have HB1 := Lib.hid hb1
  have HW2 := Lib.hid hw2
  have HW3 := Lib.hid hw3
  have hnn : n ≤ 400 := (by omega)
  have HLN := Lib.hid hln
  clear hb1 hb12 hb23 F1 F2 hs1 hl hL hv hok hw2 hw3 hln hbl
  go_enter Tryz.func213, Tryz.ntmps213
  go_wp2_with (refine wpL_alloc (t := 287) rfl rfl zero287 ?_; first | rw [HW2.out] | rw [HW3.out])
  go_loopw [12, 13, 20] (fun s12 s13 s20 wr => ∃ (k : Nat) (st : AlSt), k ≤ m ∧ s12 = .int .i64 st.sum ∧ s13 = .int .i64 st.pt ∧ s20 = .int .i64 k ∧ (-(1000000 * (k : Int)) ≤ st.sum ∧ st.sum ≤ 1000000 * (k : Int)) ∧ Hid (Below w1.heap.size w1 wr) ∧ Hid (alongTo bs l a k = some st) ∧ Hid (Flags wr w1.heap.size st.frm) ∧ Hid (Flags wr w2.heap.size st.tos)) (fun _ _ s20 _ => m - (intOf s20).toNat)
  case atStart => exact ⟨0, ⟨0, a, List.replicate 60 false, List.replicate 60 false⟩, Nat.zero_le _, rfl, rfl, rfl, ⟨by simp, by simp⟩, HB13, (show _ = _ from rfl), HF1, HF2⟩
  case round =>
    obtain ⟨k, st, hk, rfl, rfl, rfl, ⟨hs1, hs2⟩, hb, hto, hf1, hf2⟩ := hrel
    have hzr := hb.out.size
    have g1l := hf1.out.lt
    have g2l := hf2.out.lt
    by_cases hlt : k < m
    · obtain ⟨bi, oi, i, rfl, hbiw, hi, hci⟩ := (HLL.out.below hb.out (Nat.le_refl _)).one hlt
      have i0 : wr.cell? ⟨bi, oi + k, none⟩ = some (.int .i64 i) := (by have := hci 0 _ rfl; simpa using this)
      obtain ⟨v1, v2⟩ := HV.out i (List.mem_of_getElem? hi)
      obtain ⟨j, hj⟩ : ∃ j : Nat, i = (j : Int) := ⟨i.toNat, by omega⟩
      subst hj
      have hjn : j < n := (by have := HLN.out; omega)
      obtain ⟨bb, ob, x, rfl, hbbw, hx, hcx⟩ := (HLB.out.below hb.out (Nat.le_refl _)).one hjn
      have hbnd : Hid (bnd bs (j : Int) = x) := (show _ = _ by unfold bnd; rw [Int.toNat_natCast, List.getD_eq_getElem?_getD, hx]; rfl)
      have hxm := HOK.out x (List.mem_of_getElem? hx)
      have HI := Lib.hid hi
      have c0 : wr.cell? ⟨bb, ob + j * 4, none⟩ = some (.int .i64 x.src) := hcx 0 _ rfl
      have c1 : wr.cell? ⟨bb, ob + j * 4 + 1, none⟩ = some (.int .i64 x.dst) := hcx 1 _ rfl
      have c2 : wr.cell? ⟨bb, ob + j * 4 + 2, none⟩ = some (.int .i64 x.most) := hcx 2 _ rfl
      have c3 : wr.cell? ⟨bb, ob + j * 4 + 3, none⟩ = some (.int .i64 x.by_) := hcx 3 _ rfl
      clear hci hcx hi hx
      obtain ⟨xs, xd, xm, xb⟩ := x
      simp only at hxm c0 c1 c2 c3
      obtain ⟨sN, hsN⟩ : ∃ sN : Nat, xs = (sN : Int) := ⟨xs.toNat, by omega⟩
      obtain ⟨dN, hdN⟩ : ∃ dN : Nat, xd = (dN : Int) := ⟨xd.toNat, by omega⟩
      subst hsN
      subst hdN
      have hs60 : sN < 60 := (by omega)
      have hd60 : dN < 60 := (by omega)
      have hh := (hb.out.block _ hz1).trans HS1.out
      have y1 : wr.cell? ⟨w.heap.size, 1, none⟩ = some (.slice (some ⟨bb, ob, none⟩) n c) := (by simp [World.cell?, hh])
      have hwl : w.heap.size < wr.heap.size := (by omega)
      have hwi : withinB (j : Int) 0 ((n : Int) - 1) = true := withinB_iff.2 ⟨by omega, by omega⟩
      have hw0 : IntKind.i64.wrap ((n : Int) - 1) = (n : Int) - 1 := (by rw [IntKind.wrap_i64]; omega)
      have HWI := Lib.hid hwi
      obtain ⟨b1, hb1⟩ : ∃ b1, st.frm.getD sN false = b1 := ⟨_, rfl⟩
      obtain ⟨b2, hb2⟩ : ∃ b2, st.tos.getD dN false = b2 := ⟨_, rfl⟩
      have f1 := hf1.out.cell hs60
      have f2 := hf2.out.cell hd60
      have e1 := hf1.out.free sN
      have e2 := hf2.out.free dN
      rw [hb1] at f1
      rw [hb2] at f2
      have HB1' := Lib.hid hb1
      have HB2' := Lib.hid hb2
      have hng : ¬ w1.heap.size = w2.heap.size := (by omega)
      have hng2 : ¬ w2.heap.size = w1.heap.size := (by omega)
      have hsum : IntKind.i64.wrap (st.sum + xm) = st.sum + xm := (by rw [IntKind.wrap_i64]; omega)
      have HXM := Lib.hid hxm
      clear hh hwi hb1 hb2 hxm
      rcases two_ (sN : Int) st.pt with ⟨k1, k2, k3⟩ | ⟨k1, k2, k3⟩
      case inr =>
        have K1 := Lib.hid k1
        clear k1
        go_wp2_with (go_at_call 200; (with_reducible refine (within_any _ _ _ _).mono ?_); rintro e w' ⟨rfl, hw'⟩; obtain rfl := hw'.symm; rw [HWI.out])
        go_ret2
        exact ⟨by rw [alongV_none (k := k + 1) (by rw [along_next HI.out hto.out]; exact step_no (by rw [hbnd.out]; exact fun h => K1.out h.1)) (by have := hLn.out; omega)]; rfl, HB1.out.trans ((hb.out.alloc hzr _).mono (by omega))⟩
      case inl =>
        have K1 := Lib.hid k1
        clear k1
        cases b1 with
        | true =>
          go_wp2_with (go_at_call 200; (with_reducible refine (within_any _ _ _ _).mono ?_); rintro e w' ⟨rfl, hw'⟩; obtain rfl := hw'.symm; rw [HWI.out])
          go_ret2
          exact ⟨by rw [alongV_none (k := k + 1) (by rw [along_next HI.out hto.out]; exact step_no (by rw [hbnd.out]; exact fun h => by have h2 := h.2.1; simp only [Int.toNat_natCast] at h2; rw [HB1'.out] at h2; cases h2)) (by have := hLn.out; omega)]; rfl, HB1.out.trans ((hb.out.alloc hzr _).mono (by omega))⟩
        | false =>
          cases b2 with
          | true =>
            go_wp2_with (go_at_call 200; (with_reducible refine (within_any _ _ _ _).mono ?_); rintro e w' ⟨rfl, hw'⟩; obtain rfl := hw'.symm; rw [HWI.out])
            go_ret2
            exact ⟨by rw [alongV_none (k := k + 1) (by rw [along_next HI.out hto.out]; exact step_no (by rw [hbnd.out]; exact fun h => by have h2 := h.2.2; simp only [Int.toNat_natCast] at h2; rw [HB2'.out] at h2; cases h2)) (by have := hLn.out; omega)]; rfl, HB1.out.trans ((hb.out.alloc hzr _).mono (by omega))⟩
          | false =>
            have hnext : Hid (alongTo bs l a (k + 1) = some ⟨st.sum + xm, (dN : Int), st.frm.set sN true, st.tos.set dN true⟩) := (show _ = _ by
              rw [along_next HI.out hto.out]
              unfold alongStep
              rw [hbnd.out]
              simp only [Int.toNat_natCast]
              rw [if_pos ⟨K1.out, HB1'.out, HB2'.out⟩])
            have hbb := hb.out
            have hle2 : w1.heap.size ≤ w2.heap.size := (by omega)
            go_upto_region 11 with (go_at_call 200; (with_reducible refine (within_any _ _ _ _).mono ?_); rintro e w' ⟨rfl, hw'⟩; obtain rfl := hw'.symm; rw [HWI.out])
            go_region
            all_goals
              go_wp2_with (go_quiet (fail))
              go_roundw
            all_goals first
              | (simp [intOf]; omega)
              | exact ⟨k + 1, ⟨st.sum + xm, (dN : Int), st.frm.set sN true, st.tos.set dN true⟩, by omega, rfl, rfl, by go_num, ⟨by have := HXM.out; simp only; omega, by have := HXM.out; simp only; omega⟩, (show Below _ _ _ from (by ((repeat' (first | (with_reducible assumption) | (with_reducible exact Below.refl _ _) | (with_reducible refine Below.drew ?_) | (with_reducible refine below_drewN' ?_ _) | (with_reducible refine Below.alloc ?_ ?_ _) | (with_reducible refine Below.setCell ?_ ?_ _) | (with_reducible refine below_step (by assumption) ?_ ?_))) <;> first | (simp; done) | (simp; omega) | omega))), hnext, (show Flags _ _ _ from by repeat' (first | with_reducible exact hf1.out | with_reducible refine Flags.set ?_ _ | with_reducible refine Flags.other ?_ hng | with_reducible refine Flags.drewN ?_ _ | with_reducible refine Flags.drew ?_ | with_reducible refine Flags.alloc ?_ _)), (show Flags _ _ _ from by repeat' (first | with_reducible exact hf2.out | with_reducible refine Flags.set ?_ _ | with_reducible refine Flags.other ?_ hng2 | with_reducible refine Flags.drewN ?_ _ | with_reducible refine Flags.drew ?_ | with_reducible refine Flags.alloc ?_ _))⟩
    · have hkm : k = m := by omega
      subst hkm
      have HAV : Hid (alongV bs a b l = (st.sum, decide (st.pt = b))) := (show _ = _ by unfold alongV; rw [hLn.out, hto.out])
      have hbq : Hid ((st.pt == b) = decide (st.pt = b)) := (show _ = _ by rw [Bool.eq_iff_iff]; simp)
      go_wp2
      go_ret2
      exact ⟨by rw [HAV.out]; simp [hbq.out], HB1.out.trans (hb.out.mono (by omega))⟩
end Go.Proofs.YtelnkflmnbhclaaGreat
end

/- What is proved: the contract of slices.Index at links. Conditions: none. -/
section
namespace Go.Proofs.YtelnkflmnbhclaaGreat
open Go.RowKit Go.Proofs Go.Shelf

set_option maxHeartbeats 1000000 in
set_option maxRecDepth 100000 in
theorem Index_Link (A : Option Addr) (n c : Nat) (l : List Link) (p : Link) (w : World) (hl : Rd encLink 6 w A n c l) :
    Calls Tryz.prog 166 #[.slice A n c, .agg #[.int .i64 p.src.pit, .int .i64 p.src.layer, .int .i64 p.dst.pit, .int .i64 p.dst.layer, .int .i64 p.most, .int .i64 p.by_]] w fun e w' => ∃ i : Int, e = .returned (.int .i64 i) ∧ ((i = -1 ∧ p ∉ l) ∨ ∃ k : Nat, i = (k : Int) ∧ l[k]? = some p) ∧ Below w.heap.size w w' := by
  have hlen := Lib.hid hl.len
  have hbig := hl.big
  go_enter Tryz.func166, Tryz.ntmps166
  go_wp2_with (fail)
  go_loopw [8] (fun i wr => ∃ k : Nat, k ≤ n ∧ i = .int .i64 k ∧ Below (w.heap.size + 1) (w.alloc (.cells #[.int .i64 p.src.pit, .int .i64 p.src.layer, .int .i64 p.dst.pit, .int .i64 p.dst.layer, .int .i64 p.most, .int .i64 p.by_] 74)) wr ∧ Hid (∀ q x, q < k → l[q]? = some x → eqLink p x = false)) (fun i _ => n - (intOf i).toNat)
  case atStart => exact ⟨0, Nat.zero_le _, rfl, Below.refl _ _, fun k x h => absurd h (by omega)⟩
  case round =>
    obtain ⟨k, hk, rfl, hb, hno⟩ := hrel
    have hzr := hb.size
    simp only [World.size_alloc] at hzr
    have hbw0 : Below w.heap.size w wr := ((Below.refl _ w).alloc (Nat.le_refl _) _).trans (hb.mono (by omega))
    obtain ⟨hcc, hff⟩ := bcell hb
    have p0 : wr.cell? ⟨w.heap.size, 0, none⟩ = some (.int .i64 p.src.pit) := by rw [hcc _ _ (by omega)]; simp
    have p1 : wr.cell? ⟨w.heap.size, 1, none⟩ = some (.int .i64 p.src.layer) := by rw [hcc _ _ (by omega)]; simp
    have p2 : wr.cell? ⟨w.heap.size, 2, none⟩ = some (.int .i64 p.dst.pit) := by rw [hcc _ _ (by omega)]; simp
    have p3 : wr.cell? ⟨w.heap.size, 3, none⟩ = some (.int .i64 p.dst.layer) := by rw [hcc _ _ (by omega)]; simp
    have p4 : wr.cell? ⟨w.heap.size, 4, none⟩ = some (.int .i64 p.most) := by rw [hcc _ _ (by omega)]; simp
    have p5 : wr.cell? ⟨w.heap.size, 5, none⟩ = some (.int .i64 p.by_) := by rw [hcc _ _ (by omega)]; simp
    clear hcc hff
    by_cases hlt : k < n
    · have hlr := hl.below hbw0 (Nat.le_refl _)
      obtain ⟨b, off, x, rfl, hbw, hx, hcell⟩ := hlr.one hlt
      have c0 : wr.cell? ⟨b, off + k * 6, none⟩ = some (.int .i64 x.src.pit) := hcell 0 _ rfl
      have c1 : wr.cell? ⟨b, off + k * 6 + 1, none⟩ = some (.int .i64 x.src.layer) := hcell 1 _ rfl
      have c2 : wr.cell? ⟨b, off + k * 6 + 2, none⟩ = some (.int .i64 x.dst.pit) := hcell 2 _ rfl
      have c3 : wr.cell? ⟨b, off + k * 6 + 3, none⟩ = some (.int .i64 x.dst.layer) := hcell 3 _ rfl
      have c4 : wr.cell? ⟨b, off + k * 6 + 4, none⟩ = some (.int .i64 x.most) := hcell 4 _ rfl
      have c5 : wr.cell? ⟨b, off + k * 6 + 5, none⟩ = some (.int .i64 x.by_) := hcell 5 _ rfl
      have HX := Lib.hid hx
      clear hlr hcell hx
      cases hq : eqLink p x
      · have HQ := Lib.hid hq
        go_wp2_with (fail)
        go_region
        all_goals go_wp2
        all_goals go_roundw
        all_goals first
          | exact ⟨k + 1, by omega, by go_num, hb.drew, fun q y hqk hy => (by
              by_cases hkq : q < k
              · exact hno.out q y hkq hy
              · have : q = k := (by omega)
                subst this
                rw [HX.out] at hy
                cases hy
                exact HQ.out)⟩
          | (simp [intOf]; omega)
      · have HQ := Lib.hid hq
        go_wp2_with (fail)
        go_region
        all_goals go_wp2
        all_goals go_ret
        all_goals exact ⟨k, rfl, .inr ⟨k, rfl, by rw [HX.out, eqLink_iff.1 HQ.out]⟩, hbw0.drew⟩
    · have hkn : k = n := by omega
      subst hkn
      go_wp2
      go_ret
      refine ⟨-1, rfl, .inl ⟨rfl, fun hp => ?_⟩, hbw0⟩
      obtain ⟨q, hq, he⟩ := List.getElem_of_mem hp
      have h1 := hno.out q _ (by rw [← hlen.out]; exact hq) (List.getElem?_eq_getElem hq)
      rw [he] at h1
      exact eqLink_no.1 h1 rfl
end Go.Proofs.YtelnkflmnbhclaaGreat
end

/- What is proved: the drawn region of gauge.CheckCircle. Conditions: none. -/
section
namespace Go.Proofs.YtelnkflmnbhclaaGreat
open Go.RowKit Go.Proofs

def codeccir4 : Option Code → Code
  | some (.seq _ (.seq _ (.seq (.seq c _) _))) => c
  | _ => .skip
def valccir4 (bq off m lc pb : Nat) (_ : Int) (A : Option Addr) (n c : Nat) (i : Int) : Nat → Value
  | 0 => .slice (some ⟨bq, off, none⟩) m lc
  | 1 => .int .i64 m
  | 2 => .bool false
  | 3 => .bool false
  | 4 => .slice (some ⟨bq, off, none⟩) m lc
  | 5 => .pointer (some ⟨bq, off, none⟩)
  | 6 => .int .i64 i
  | 7 => .pointer (some ⟨pb, 0 + 1, none⟩)
  | 8 => .slice A n c
  | 9 => .int .i64 n
  | 10 => .int .i64 (n - 1)
  | 11 => .bool true
  | 12 => .bool false
  | 13 => .bool false
  | _ => undef
set_option maxRecDepth 100000 in
set_option maxHeartbeats 4000000 in
theorem ccir4 (cC : Code) (hc : cC = codeccir4 Tryz.f167.body) (bq off m lc pb : Nat) (pts : Int) (A : Option Addr) (n c : Nat) (i : Int) (a : Act) (w : World) (Q : Exit → Act → World → Prop)
    (hT : a.tmps.size = 50) (t1 : a.tmps.getD 1 undef = .slice (some ⟨bq, off, none⟩) m lc) (t2 : a.tmps.getD 2 undef = .pointer (some ⟨pb, 0, none⟩))
    (CE : ∀ W, Below w.heap.size w W → W.cell? ⟨pb, 0, none⟩ = some (.int .i64 pts) ∧ W.cell? ⟨pb, 1, none⟩ = some (.slice A n c) ∧ W.cell? ⟨bq, off, none⟩ = some (.int .i64 i)) (hm : 2 ≤ m) (hm2 : m ≤ 1000000) (hw : IntKind.i64.wrap ((n : Int) - 1) = (n : Int) - 1) (hwi : withinB i 0 ((n : Int) - 1) = true)
    (hQ : ∀ W, (fun W => Below w.heap.size w W) W → Q .normal { tmps := ((((((((((((((a.tmps.setIfInBounds 15 (.slice (some ⟨bq, off, none⟩) m lc)).setIfInBounds 16 (.int .i64 m)).setIfInBounds 17 (.bool false)).setIfInBounds 18 (.bool false)).setIfInBounds 19 (.slice (some ⟨bq, off, none⟩) m lc)).setIfInBounds 20 (.pointer (some ⟨bq, off, none⟩))).setIfInBounds 21 (.int .i64 i)).setIfInBounds 22 (.pointer (some ⟨pb, 0 + 1, none⟩))).setIfInBounds 23 (.slice A n c)).setIfInBounds 24 (.int .i64 n)).setIfInBounds 25 (.int .i64 (n - 1))).setIfInBounds 26 (.bool true)).setIfInBounds 27 (.bool false)).setIfInBounds 28 (.bool false)), defers := a.defers } W) :
    cC.wp Tryz.prog Q a w := by
  subst hc
  unfold codeccir4 Tryz.f167
  dsimp only
  refine wpIn_wide.1 (wpIn_region_vals (nn := 5) 50 (by kernel_rfl) (by kernel_rfl) hT.symm (valccir4 bq off m lc pb pts A n c i) (fun W => Below w.heap.size w W) ((Below.refl _ _).drew) ?_ ?_)
  · intro listed io o b W hi ho h
    obtain ⟨p0, p1, p2⟩ := CE W h.glob
    have hm1 : ¬ (m : Int) < 2 := (by omega)
    have hm3 : (0 : Int) < (m : Int) := (by omega)
    clear hQ
    obtain ⟨hun, oi, hoi, hall⟩ := mem_ready.1 hi
    have : oi = o := Option.some.inj (hoi.symm.trans ho)
    subst this
    clear hoi hi
    have hlt : io < 14 := (by have := (Array.getElem?_eq_some_iff.1 ho).1; simpa using this)
    have hun' : listed.getD io false = false := getD_both hun
    have q1 : b.tmps[1]?.getD undef = _ := (by simpa using (h.tab.old 1 (dst_no h.tab (by kernel_rfl))).trans t1)
    have q2 : b.tmps[2]?.getD undef = _ := (by simpa using (h.tab.old 2 (dst_no h.tab (by kernel_rfl))).trans t2)
    have E : ∀ (jj s : Nat) (v : Value), dstOf _ jj = some s → valccir4 bq off m lc pb pts A n c i jj = v → listed.getD jj false = true → b.tmps[s]?.getD undef = v := fun jj s v h1 h2 h3 => by rw [← h2]; simpa using h.val jj s h1 h3
    have U0 : ∀ y, oi.guard = none → Region.wanted oi y = true := fun y h => by simp [Region.wanted, h]
    have U : ∀ (jj d : Nat) (g v : Bool), oi.guard = some (jj, g) → dstOf _ jj = some d → valccir4 bq off m lc pb pts A n c i jj = .bool v → ⟨jj, .guard⟩ ∈ oi.after → Region.wanted oi (yielded _ b.tmps) = (v == g) := fun jj d g v h1 h2 h3 h4 => wanted_of h h1 h2 (hall _ h4 rfl) h3
    rcases (by omega : io = 0 ∨ io = 1 ∨ io = 2 ∨ io = 3 ∨ io = 4 ∨ io = 5 ∨ io = 6 ∨ io = 7 ∨ io = 8 ∨ io = 9 ∨ io = 10 ∨ io = 11 ∨ io = 12 ∨ io = 13) with rfl | rfl | rfl | rfl | rfl | rfl | rfl | rfl | rfl | rfl | rfl | rfl | rfl | rfl
    all_goals simp only [List.getElem?_toArray, List.getElem?_cons_zero, List.getElem?_cons_succ] at ho
    all_goals cases ho
    · rw [if_pos (U0 _ rfl)]
      exact wide_val (v := .slice (some ⟨bq, off, none⟩) m lc) (by clear E U U0; go_simp; try rfl) ⟨rfl, h.glob⟩
    · rw [if_pos (U0 _ rfl)]
      have e0 := E 0 15 (.slice (some ⟨bq, off, none⟩) m lc) rfl rfl (hall ⟨0, .data⟩ (by simp) rfl)
      exact wide_val (v := .int .i64 m) (by clear E U U0; go_simp; try rfl) ⟨rfl, h.glob⟩
    · rw [if_pos (U0 _ rfl)]
      have e1 := E 1 16 (.int .i64 m) rfl rfl (hall ⟨1, .data⟩ (by simp) rfl)
      exact wide_val (v := .bool false) (by clear E U U0; go_simp; (try exact congrArg Value.bool (decide_eq_false (by omega))); (try omega)) ⟨rfl, h.glob⟩
    · rw [if_pos (U0 _ rfl)]
      have e2 := E 2 17 (.bool false) rfl rfl (hall ⟨2, .data⟩ (by simp) rfl)
      exact wide_val (v := .bool false) (by clear E U U0; go_simp; try rfl) ⟨rfl, h.glob⟩
    · rw [U 3 18 false false rfl rfl rfl (by simp), if_pos (show (false == false) = true from rfl)]
      exact wide_val (v := .slice (some ⟨bq, off, none⟩) m lc) (by clear E U U0; go_simp; try rfl) ⟨rfl, h.glob⟩
    · rw [U 3 18 false false rfl rfl rfl (by simp), if_pos (show (false == false) = true from rfl)]
      have e4 := E 4 19 (.slice (some ⟨bq, off, none⟩) m lc) rfl rfl (hall ⟨4, .data⟩ (by simp) rfl)
      exact wide_val (v := .pointer (some ⟨bq, off, none⟩)) (by clear E U U0; go_simp; (try rfl); (try (intro h0; omega))) ⟨rfl, h.glob⟩
    · rw [U 3 18 false false rfl rfl rfl (by simp), if_pos (show (false == false) = true from rfl)]
      have e5 := E 5 20 (.pointer (some ⟨bq, off, none⟩)) rfl rfl (hall ⟨5, .data⟩ (by simp) rfl)
      exact wide_val (v := .int .i64 i) (by clear E U U0; go_simp; try rfl) ⟨rfl, h.glob⟩
    · rw [U 3 18 false false rfl rfl rfl (by simp), if_pos (show (false == false) = true from rfl)]
      exact wide_val (v := .pointer (some ⟨pb, 0 + 1, none⟩)) (by clear E U U0; go_simp; try rfl) ⟨rfl, h.glob⟩
    · rw [U 3 18 false false rfl rfl rfl (by simp), if_pos (show (false == false) = true from rfl)]
      have e7 := E 7 22 (.pointer (some ⟨pb, 0 + 1, none⟩)) rfl rfl (hall ⟨7, .data⟩ (by simp) rfl)
      exact wide_val (v := .slice A n c) (by clear E U U0; go_simp; try rfl) ⟨rfl, h.glob⟩
    · rw [U 3 18 false false rfl rfl rfl (by simp), if_pos (show (false == false) = true from rfl)]
      have e8 := E 8 23 (.slice A n c) rfl rfl (hall ⟨8, .data⟩ (by simp) rfl)
      exact wide_val (v := .int .i64 n) (by clear E U U0; go_simp; try rfl) ⟨rfl, h.glob⟩
    · rw [U 3 18 false false rfl rfl rfl (by simp), if_pos (show (false == false) = true from rfl)]
      have e9 := E 9 24 (.int .i64 n) rfl rfl (hall ⟨9, .data⟩ (by simp) rfl)
      exact wide_val (v := .int .i64 (n - 1)) (by clear E U U0; go_simp; try simp [hw]) ⟨rfl, h.glob⟩
    · rw [U 3 18 false false rfl rfl rfl (by simp), if_pos (show (false == false) = true from rfl)]
      have e6 := E 6 21 (.int .i64 i) rfl rfl (hall ⟨6, .data⟩ (by simp) rfl)
      have e10 := E 10 25 (.int .i64 (n - 1)) rfl rfl (hall ⟨10, .data⟩ (by simp) rfl)
      clear E U U0
      refine wide_call (f := 200) (args := #[.int .i64 i, .int .i64 0, .int .i64 (n - 1)]) (by go_simp <;> (try exact ⟨by simpa [Act.eval] using e6, by simpa [Act.eval] using e10⟩)) ((within_any _ _ _ W).mono ?_)
      rintro e w' ⟨rfl, rfl⟩
      rw [hwi]
      exact ⟨_, rfl, rfl, h.glob⟩
    · rw [U 3 18 false false rfl rfl rfl (by simp), if_pos (show (false == false) = true from rfl)]
      have e11 := E 11 26 (.bool true) rfl rfl (hall ⟨11, .data⟩ (by simp) rfl)
      exact wide_val (v := .bool false) (by clear E U U0; go_simp; try rfl) ⟨rfl, h.glob⟩
    · rw [if_pos (U0 _ rfl)]
      have e3 := E 3 18 (.bool false) rfl rfl (hall ⟨3, .data⟩ (by simp) rfl)
      have e12 := E 12 27 (.bool false) rfl rfl (hall ⟨12, .data⟩ (by simp) rfl)
      exact wide_val (v := .bool false) (by clear E U U0; go_simp; try rfl) ⟨rfl, h.glob⟩
  · intro W hg
    have := hQ W hg
    simp only [List.size_toArray, bareL, bare, List.map_cons, List.map_nil, List.length_cons, List.length_nil, Nat.reduceAdd, framed, dstOf, List.getElem?_toArray, List.getElem?_cons_zero, List.getElem?_cons_succ, Option.bind_some, valccir4]
    exact this
end Go.Proofs.YtelnkflmnbhclaaGreat
end

/- What is proved: the contract of gauge.CheckCircle. Conditions: the system is sound, the indices are of bounds. -/
section
namespace Go.Proofs.YtelnkflmnbhclaaGreat
open Go.RowKit Go.Proofs Go.Shelf

set_option maxHeartbeats 4000000 in
set_option maxRecDepth 100000 in
theorem CheckCircle_any (pts : Int) (A : Option Addr) (n c : Nat) (bs : List Bound) (L : Option Addr) (m lc : Nat) (l : List Int) (w : World) (hl : Rd encBound 4 w A n c bs) (hL : Rd encInt 1 w L m lc l) (hk : checkSys pts bs = 0) (hv : ∀ i ∈ l, 0 ≤ i ∧ i < bs.length) (hm : m ≤ 1000000) :
    Calls Tryz.prog 167 #[.agg #[.int .i64 pts, .slice A n c], .slice L m lc] w fun e w' => e = .returned (.tuple #[.bool (circleB bs l), .int .i64 0]) ∧ Below w.heap.size w w' := by
  have hok := sysOk_of hk
  obtain ⟨w1, hw1⟩ : ∃ w1, w.alloc (.cells #[.int .i64 pts, .slice A n c] 117) = w1 := ⟨_, rfl⟩
  have hb1 : Below w.heap.size w w1 := (by rw [← hw1]; exact (Below.refl _ w).alloc (Nat.le_refl _) _)
  have hh1 : w1.heap[w.heap.size]? = some (.cells #[.int .i64 pts, .slice A n c] 117 (0, 0)) := (by rw [← hw1]; exact heap_alloc_new w _)
  have hz1 : w.heap.size < w1.heap.size := (Array.getElem?_eq_some_iff.1 hh1).1
  have d0 : w1.cell? ⟨w.heap.size, 0, none⟩ = some (.int .i64 pts) := (by simp [World.cell?, hh1])
  have d1 : w1.cell? ⟨w.heap.size, 1, none⟩ = some (.slice A n c) := (by simp [World.cell?, hh1])
  have hck := CheckSystem_any pts A n c bs w1 (hl.below hb1 (Nat.le_refl _))
  rw [hk] at hck
  have HC := Lib.hid hck
  have HB1 := Lib.hid hb1
  have HW1 := Lib.hid hw1
  have HH1 := Lib.hid hh1
  have hlL := hL.len
  have hll := hl.len
  clear hck hb1 hw1 hh1
  by_cases h2 : 2 ≤ m
  case neg =>
    have hv0 : circleB bs l = false := by unfold circleB; rw [decide_eq_false (by omega), Bool.false_and]
    rw [hv0]
    have hlt : (m : Int) < 2 := by omega
    have hdl : decide ((m : Int) < 2) = true := decide_eq_true hlt
    clear hv0 hl hL hk hv hok hlL hll h2
    go_enter Tryz.func167, Tryz.ntmps167
    go_upto_region 4 with (first | rw [HW1.out] | (go_at_call 144; (with_reducible refine HC.out.mono ?_); rintro e w2 ⟨rfl, hb2⟩; have HB2 := Lib.hid (HB1.out.trans (hb2.mono (Nat.le_of_lt hz1))); clear hb2))
    go_wp2_with (go_quiet (fail))
    go_ret2
    exact ⟨rfl, by first | exact HB2.out | exact HB2.out.drew | exact below_drewN' HB2.out _⟩
  case pos =>
    obtain ⟨bq, off, i, rfl, hbq, hi, hci⟩ := hL.one (show 0 < m by omega)
    obtain ⟨v1, v2⟩ := hv i (List.mem_of_getElem? hi)
    obtain ⟨j, hj⟩ : ∃ j : Nat, i = (j : Int) := ⟨i.toNat, by omega⟩
    subst hj
    have hjn : j < n := by omega
    obtain ⟨bb, ob, x, rfl, hbb, hx, hcx⟩ := hl.one hjn
    have hi0 : l.getD 0 0 = (j : Int) := by rw [List.getD_eq_getElem?_getD, hi]; rfl
    have hbnd : bnd bs (l.getD 0 0) = x := by unfold bnd; rw [hi0, Int.toNat_natCast, List.getD_eq_getElem?_getD, hx]; rfl
    have g0 : w.cell? ⟨bq, off, none⟩ = some (.int .i64 (j : Int)) := by have := hci 0 _ rfl; simpa using this
    have g1 : w.cell? ⟨bb, ob + j * 4, none⟩ = some (.int .i64 x.src) := hcx 0 _ rfl
    have hv1 : circleB bs l = ((alongV bs x.src x.src l).2 && decide ((alongV bs x.src x.src l).1 < 0)) := by unfold circleB; rw [decide_eq_true (by omega), Bool.true_and, hbnd]
    rw [hv1]
    have hal : ∀ W, Below w.heap.size w W → Calls Tryz.prog 213 #[.agg #[.int .i64 pts, .slice (some ⟨bb, ob, none⟩) n c], .int .i64 x.src, .int .i64 x.src, .slice (some ⟨bq, off, none⟩) m lc] W fun e w' => e = .returned (.tuple #[.int .i64 (alongV bs x.src x.src l).1, .bool (alongV bs x.src x.src l).2]) ∧ Below W.heap.size W w' := fun W hW => along_any pts _ n c bs x.src x.src _ m lc l W (hl.below hW (Nat.le_refl _)) (hL.below hW (Nat.le_refl _)) hok hv hm
    generalize alongV bs x.src x.src l = r at *
    obtain ⟨sm, okb⟩ := r
    dsimp only at hal ⊢
    have hwi : withinB (j : Int) 0 ((n : Int) - 1) = true := withinB_iff.2 ⟨by omega, by omega⟩
    have hwr : IntKind.i64.wrap ((n : Int) - 1) = (n : Int) - 1 := (by have := hl.len; rw [IntKind.wrap_i64]; have := hok.len; omega)
    have CE : Hid (∀ W, Below w1.heap.size w1 W → (W.cell? ⟨w.heap.size, 0, none⟩ = some (.int .i64 pts) ∧ W.cell? ⟨w.heap.size, 1, none⟩ = some (.slice (some ⟨bb, ob, none⟩) n c) ∧ W.cell? ⟨bq, off, none⟩ = some (.int .i64 (j : Int))) ∧ W.cell? ⟨bb, ob + j * 4, none⟩ = some (.int .i64 x.src)) := (show ∀ W, Below w1.heap.size w1 W → _ from fun W hW => by
      have e := (hW.block _ hz1).trans HH1.out
      have e2 := HB1.out.trans (hW.mono (Nat.le_of_lt hz1))
      exact ⟨⟨by simp [World.cell?, e], by simp [World.cell?, e], (e2.cell (p := ⟨bq, off, none⟩) hbq).trans g0⟩, (e2.cell (p := ⟨bb, ob + j * 4, none⟩) hbb).trans g1⟩)
    have HAL := Lib.hid hal
    have HWI := Lib.hid hwi
    have HWR := Lib.hid hwr
    clear hal hwi hwr g0 g1 hv1 hbnd hi0 hcx hci hi hx hl hL hk hv hok
    go_enter Tryz.func167, Tryz.ntmps167
    go_upto_region 4 with (first | rw [HW1.out] | (go_at_call 144; (with_reducible refine HC.out.mono ?_); rintro e w2 ⟨rfl, hb2⟩; have HB2 := Lib.hid hb2; clear hb2))
    refine ccir4 _ rfl bq off m lc w.heap.size pts _ n c (j : Int) _ w2 _ rfl rfl rfl (fun W hW => (CE.out W (HB2.out.trans (hW.mono HB2.out.size))).1) h2 hm HWR.out HWI.out ?_
    intro w3 hb3
    have hb13 := HB2.out.trans (hb3.mono HB2.out.size)
    obtain ⟨⟨c0, c1, c2⟩, c3⟩ := CE.out w3 hb13
    have hz3 := hb13.size
    have hbw : bb < w3.heap.size := (by omega)
    have hbw2 : bq < w3.heap.size := (by omega)
    have hbw3 : w.heap.size < w3.heap.size := (by omega)
    have HB3 := Lib.hid (HB1.out.trans (hb13.mono (Nat.le_of_lt hz1)))
    clear hb3 hb13
    simp only [List.setIfInBounds_toArray, List.set_cons_succ, List.set_cons_zero]
    cases okb
    all_goals
      go_upto_region 6 with (fail)
      go_quiet (fail)
      go_wp2_with (go_at_call 213; (with_reducible refine (HAL.out _ (by first | exact HB3.out | exact HB3.out.drew | exact below_drewN' HB3.out _)).mono ?_); rintro e w9 ⟨rfl, hb9⟩; have HB9 := Lib.hid hb9; clear hb9)
      go_ret2
      exact ⟨by first | rfl | simp, by first | exact HB3.out.trans (HB9.out.mono HB3.out.size) | exact HB3.out.drew.trans (HB9.out.mono HB3.out.size) | exact (below_drewN' HB3.out _).trans (HB9.out.mono HB3.out.size)⟩
end Go.Proofs.YtelnkflmnbhclaaGreat
end

/- What is proved: the contract of years.contradicts. Conditions: the years are sound. -/
section
namespace Go.Proofs.YtelnkflmnbhclaaGreat
open Go.RowKit Go.Proofs Go.Shelf

theorem contra_no {L : List Link} {m : List (Place × Int)} {c : List Link} {k : Nat} {x : Link} (hx : c[k]? = some x) (h : x ∉ L) : contraV L m c = false := by
  rw [← Bool.not_eq_true, contraV_iff]
  exact fun hc => h (hc.1 x (List.mem_of_getElem? hx))
theorem ix_nth {L : List Link} {m : List (Place × Int)} {q : Nat} {x : Link} (h : L[q]? = some x) : (L.map (boundOf m))[q]? = some (boundOf m x) := by
  rw [List.getElem?_map, h]; rfl
set_option maxHeartbeats 4000000 in
set_option maxRecDepth 100000 in
theorem contradicts_any (pts : Int) (m : List (Place × Int)) (Ab : Option Addr) (cb : Nat) (Al : Option Addr) (cl : Nat) (mb : Nat) (L : List Link) (C : Option Addr) (cn cc : Nat) (cs : List Link) (w : World) (hb : Rd encBound 4 w Ab L.length cb (L.map (boundOf m))) (hl : Rd encLink 6 w Al L.length cl L) (hc : Rd encLink 6 w C cn cc cs) (hk : checkSys pts (L.map (boundOf m)) = 0) (hcn : cn ≤ 1000000) :
    Calls Tryz.prog 113 #[.agg #[.int .i64 pts, .slice Ab L.length cb, .slice Al L.length cl, .map (some mb)], .slice C cn cc] w fun e w' => e = .returned (.bool (contraV L m cs)) ∧ Below w.heap.size w w' := by
  have hok := sysOk_of hk
  obtain ⟨w1, hw1⟩ : ∃ w1, w.alloc (.cells #[.int .i64 pts, .slice Ab L.length cb, .slice Al L.length cl, .map (some mb)] 120) = w1 := ⟨_, rfl⟩
  have hb1 : Below w.heap.size w w1 := (by rw [← hw1]; exact (Below.refl _ w).alloc (Nat.le_refl _) _)
  have hh1 : w1.heap[w.heap.size]? = some (.cells #[.int .i64 pts, .slice Ab L.length cb, .slice Al L.length cl, .map (some mb)] 120 (0, 0)) := (by rw [← hw1]; exact heap_alloc_new w _)
  have hz1 : w.heap.size < w1.heap.size := (Array.getElem?_eq_some_iff.1 hh1).1
  have hcl := hc.len
  have hn4 : L.length ≤ 800 := (by have := hok.len; rw [List.length_map] at this; omega)
  have HB := Lib.hid (hb.below hb1 (Nat.le_refl _))
  have HL := Lib.hid (hl.below hb1 (Nat.le_refl _))
  have HC := Lib.hid (hc.below hb1 (Nat.le_refl _))
  have HB1 := Lib.hid hb1
  have HH1 := Lib.hid hh1
  have HK := Lib.hid hk
  have HOK := Lib.hid hok
  have HW1 := Lib.hid hw1
  have hCL := Lib.hid hcl
  clear hb1 hh1 hb hl hc hk hok hw1 hcl
  go_enter Tryz.func113, Tryz.ntmps113
  go_wp2_with (rw [HW1.out])
  go_loopw [5, 13] (fun s5 s13 wr => ∃ (k : Nat) (Ax : Option Addr) (cx : Nat) (xs : List Int), k ≤ cn ∧ s13 = .int .i64 k ∧ s5 = .slice Ax xs.length cx ∧ Hid (xs.length = k) ∧ Hid (Below w1.heap.size w1 wr) ∧ Hid (Own encInt 1 3 w1.heap.size wr Ax xs.length cx xs) ∧ Hid (∀ j x, j < k → cs[j]? = some x → ∃ q : Nat, xs[j]? = some (q : Int) ∧ L[q]? = some x)) (fun _ s13 _ => cn - (intOf s13).toNat)
  case atStart => exact ⟨0, none, 0, [], Nat.zero_le _, rfl, rfl, (show _ = _ from rfl), (show Below _ _ _ from Below.refl _ _), (show Own _ _ _ _ _ _ _ _ _ from Own.none_ _ _ _ _ _), (show ∀ j x, j < 0 → _ from fun j x h => absurd h (by omega))⟩
  case round =>
    obtain ⟨k, Ax, cx, xs, hk, rfl, rfl, hxl, hbl, hO, hall⟩ := hrel
    have hzr := hbl.out.size
    by_cases hlt : k < cn
    · obtain ⟨b, off, x, rfl, hbpw, hp, hcell⟩ := (HC.out.below hbl.out (Nat.le_refl _)).one hlt
      have c0 : wr.cell? ⟨b, off + k * 6, none⟩ = some (.int .i64 x.src.pit) := hcell 0 _ rfl
      have c1 : wr.cell? ⟨b, off + k * 6 + 1, none⟩ = some (.int .i64 x.src.layer) := hcell 1 _ rfl
      have c2 : wr.cell? ⟨b, off + k * 6 + 2, none⟩ = some (.int .i64 x.dst.pit) := hcell 2 _ rfl
      have c3 : wr.cell? ⟨b, off + k * 6 + 3, none⟩ = some (.int .i64 x.dst.layer) := hcell 3 _ rfl
      have c4 : wr.cell? ⟨b, off + k * 6 + 4, none⟩ = some (.int .i64 x.most) := hcell 4 _ rfl
      have c5 : wr.cell? ⟨b, off + k * 6 + 5, none⟩ = some (.int .i64 x.by_) := hcell 5 _ rfl
      have HP := Lib.hid hp
      have hh := (hbl.out.block _ hz1).trans HH1.out
      obtain ⟨w2, hw2⟩ : ∃ w2, wr.alloc (.cells #[.int .i64 x.src.pit, .int .i64 x.src.layer, .int .i64 x.dst.pit, .int .i64 x.dst.layer, .int .i64 x.most, .int .i64 x.by_] 74) = w2 := ⟨_, rfl⟩
      have hb2 : Below wr.heap.size wr w2 := (by rw [← hw2]; exact (Below.refl _ wr).alloc (Nat.le_refl _) _)
      have hh2 : w2.heap[wr.heap.size]? = some (.cells #[.int .i64 x.src.pit, .int .i64 x.src.layer, .int .i64 x.dst.pit, .int .i64 x.dst.layer, .int .i64 x.most, .int .i64 x.by_] 74 (0, 0)) := (by rw [← hw2]; exact heap_alloc_new wr _)
      have hs2 : wr.heap.size < w2.heap.size := (Array.getElem?_eq_some_iff.1 hh2).1
      have q0 : w2.cell? ⟨wr.heap.size, 0, none⟩ = some (.int .i64 x.src.pit) := (by simp [World.cell?, hh2])
      have q1 : w2.cell? ⟨wr.heap.size, 1, none⟩ = some (.int .i64 x.src.layer) := (by simp [World.cell?, hh2])
      have q2 : w2.cell? ⟨wr.heap.size, 2, none⟩ = some (.int .i64 x.dst.pit) := (by simp [World.cell?, hh2])
      have q3 : w2.cell? ⟨wr.heap.size, 3, none⟩ = some (.int .i64 x.dst.layer) := (by simp [World.cell?, hh2])
      have q4 : w2.cell? ⟨wr.heap.size, 4, none⟩ = some (.int .i64 x.most) := (by simp [World.cell?, hh2])
      have q5 : w2.cell? ⟨wr.heap.size, 5, none⟩ = some (.int .i64 x.by_) := (by simp [World.cell?, hh2])
      have hy := (hb2.block _ (show w.heap.size < wr.heap.size by omega)).trans hh
      have y2 : w2.cell? ⟨w.heap.size, 2, none⟩ = some (.slice Al L.length cl) := (by simp [World.cell?, hy])
      have hyl : w.heap.size < w2.heap.size := (by omega)
      have HIX := Lib.hid (Index_Link Al L.length cl L x w2 (HL.out.below (hbl.out.trans (hb2.mono hzr)) (Nat.le_refl _)))
      have HB2 := Lib.hid (hbl.out.trans (hb2.mono hzr))
      have hz12 : w1.heap.size ≤ w2.heap.size := (by omega)
      have HO2 := Lib.hid (hO.out.below hb2 (Nat.le_refl _))
      have HW2 := Lib.hid hw2
      clear hh hp hh2 hy hb2 hw2
      go_upto_region 6 with (first | rw [HW2.out] | (go_at_call 166; (with_reducible refine HIX.out.mono ?_); rintro e w3 ⟨i, rfl, hi, hb3⟩; have HI := Lib.hid hi; have HB3 := Lib.hid hb3; clear hi hb3))
      by_cases hneg : i < 0
      · have hno : x ∉ L := by
          rcases HI.out with ⟨_, h⟩ | ⟨q, h, _⟩
          · exact h
          · exact absurd hneg (by omega)
        have HNO := Lib.hid hno
        clear hno
        go_wp2
        go_ret
        exact ⟨by rw [contra_no HP.out HNO.out]; rfl, HB1.out.trans ((HB2.out.trans (HB3.out.mono hz12)).mono (Nat.le_of_lt hz1))⟩
      · obtain ⟨q, rfl, hq⟩ : ∃ q : Nat, i = (q : Int) ∧ L[q]? = some x := by
          rcases HI.out with ⟨h, _⟩ | h
          · exact absurd h (by omega)
          · exact h
        have HQ := Lib.hid hq
        have hz3 := HB3.out.size
        have hO4 := (HO2.out.below HB3.out (Nat.le_refl _)).alloc (.cells #[.int .i64 (q : Int)] 3)
        have hrd4 := Rd.single (enc := encInt) (k := 1) w3 #[.int .i64 (q : Int)] 3 [(q : Int)] 1 rfl (by omega) (fun _ => rfl) (by simp [encInt])
        have hB34 := HB2.out.trans (HB3.out.mono hz12)
        have HB4 := Lib.hid (hB34.alloc hB34.size (.cells #[.int .i64 (q : Int)] 3))
        have hxlk : xs.length ≤ 1000000 := (by have := hxl.out; omega)
        have hz13 : w1.heap.size ≤ w3.heap.size := (by omega)
        clear hq hneg hB34
        go_wp2_with (at_builtin; refine wpList_append_src elInt (fun _ => rfl) oneInt rfl _ _ rfl _ _ _ _ rfl rfl hO4 hrd4 (by omega) (by decide) (by simp; omega) ?_; intro A8 c8 w8 hO8 hg8 hA8
                     have HB8 := Lib.hid (HB4.out.grown hg8 (by simp; omega) (fun j e => hO4.ltB j e))
                     have HO8 := Lib.hid hO8
                     clear hO8 hg8 hA8)
        go_roundw
        all_goals first
          | (simp [intOf]; omega)
          | exact ⟨k + 1, A8, c8, xs ++ [(q : Int)], by omega, by go_num, (by simp; try omega), (show _ = _ by have := hxl.out; simp; omega), HB8.out, (show Own _ _ _ _ _ _ _ _ _ by rw [List.length_append]; exact HO8.out), (show ∀ j x, _ → _ from fun j x hj hx => by
              by_cases hjk : j < k
              · obtain ⟨q', e1, e2⟩ := hall.out j x hjk hx
                exact ⟨q', by rw [List.getElem?_append_left (by have := hxl.out; omega)]; exact e1, e2⟩
              · have : j = k := (by omega)
                subst this
                rw [HP.out] at hx
                cases hx
                refine ⟨q, ?_, HQ.out⟩
                rw [List.getElem?_append_right (by have := hxl.out; omega), hxl.out]
                simp)⟩
    · have hkn : k = cn := by omega
      subst hkn
      have hlen : xs.length = cs.length := by rw [hxl.out, hCL.out]
      have hix : IxOf (L.map (boundOf m)) xs (cs.map (boundOf m)) := by
        refine ⟨List.ext_getElem? fun j => ?_, fun i hi => ?_⟩
        · rw [List.getElem?_map, List.getElem?_map, List.getElem?_map]
          rcases Nat.lt_or_ge j cs.length with hj | hj
          · obtain ⟨q, h1, h2⟩ := hall.out j _ (by rw [← hCL.out]; exact hj) (List.getElem?_eq_getElem hj)
            rw [h1, List.getElem?_eq_getElem hj, Option.map_some, Option.map_some, Option.map_some, Int.toNat_natCast, ix_nth h2]
          · rw [List.getElem?_eq_none hj, List.getElem?_eq_none (by omega)]; rfl
        · obtain ⟨j, hj⟩ := List.mem_iff_getElem?.1 hi
          have hjl := (List.getElem?_eq_some_iff.1 hj).1
          obtain ⟨q, h1, _⟩ := hall.out j _ (by rw [← hxl.out]; exact hjl) (List.getElem?_eq_getElem (show j < cs.length by omega))
          rw [h1] at hj
          cases hj
          omega
      have hin : ∀ x ∈ cs, x ∈ L := fun x hx => by
        obtain ⟨j, hj⟩ := List.mem_iff_getElem?.1 hx
        obtain ⟨q, _, hq⟩ := hall.out j x (by rw [← hCL.out]; exact (List.getElem?_eq_some_iff.1 hj).1) hj
        exact List.mem_of_getElem? hq
      have hcv : circleB (L.map (boundOf m)) xs = contraV L m cs := by
        rw [Bool.eq_iff_iff, circleB_iff HOK.out hix (fun b hb => by obtain ⟨x, hx, rfl⟩ := List.mem_map.1 hb; exact List.mem_map.2 ⟨x, hin x hx, rfl⟩), contraV_iff, List.length_map]
        exact ⟨fun h => ⟨hin, h⟩, fun h => h.2⟩
      have hvx : ∀ i ∈ xs, 0 ≤ i ∧ i < ((L.map (boundOf m)).length : Int) := fun i hi => by
        obtain ⟨j, hj⟩ := List.mem_iff_getElem?.1 hi
        have hjl := (List.getElem?_eq_some_iff.1 hj).1
        obtain ⟨q, h1, h2⟩ := hall.out j _ (by rw [← hxl.out]; exact hjl) (List.getElem?_eq_getElem (show j < cs.length by omega))
        rw [h1] at hj
        cases hj
        have := (List.getElem?_eq_some_iff.1 h2).1
        rw [List.length_map]
        omega
      have hCK := CheckCircle_any pts Ab L.length cb (L.map (boundOf m)) Ax xs.length cx xs wr (HB.out.below hbl.out (Nat.le_refl _)) (hO.out.rd (fun _ => rfl) (by have := hxl.out; omega)) HK.out hvx (by have := hxl.out; omega)
      rw [hcv] at hCK
      have HCK := Lib.hid hCK
      have hh := (hbl.out.block _ hz1).trans HH1.out
      have i0 : wr.cell? ⟨w.heap.size, 0, none⟩ = some (.int .i64 pts) := (by simp [World.cell?, hh])
      have i1 : wr.cell? ⟨w.heap.size, 1, none⟩ = some (.slice Ab L.length cb) := (by simp [World.cell?, hh])
      have hbxw : w.heap.size < wr.heap.size := (by omega)
      obtain ⟨cv, hcv2⟩ : ∃ cv, contraV L m cs = cv := ⟨_, rfl⟩
      rw [hcv2] at HCK
      have HCV := Lib.hid hcv2
      clear hcv2
      clear hCK hh hlen hix hin hcv hvx
      go_wp2_with (go_at_call 167; (with_reducible refine HCK.out.mono ?_); rintro e w9 ⟨rfl, hb9⟩; have HB9 := Lib.hid (hbl.out.trans (hb9.mono hzr)); clear hb9)
      go_ret
      exact ⟨by rw [HCV.out]; rfl, HB1.out.trans (HB9.out.mono (Nat.le_of_lt hz1))⟩
end Go.Proofs.YtelnkflmnbhclaaGreat
end

/- What is proved: the contract of CheckConflict. Conditions: none. -/
section
namespace Go.Proofs.YtelnkflmnbhclaaGreat
open Go.RowKit Go.Proofs Go.Shelf

set_option maxRecDepth 100000 in
set_option maxHeartbeats 8000000 in
theorem CheckConflict_any (A : Option Addr) (n c : Nat) (l : List Trace) (known : Int) (bA : Option Addr) (bn bc : Nat) (bs : List Bond) (M : Option Addr) (mn mc : Nat) (mv : List Place) (DA : Option Addr) (dn dc : Nat) (d : List Link) (w : World) (hl : Rd encTrace 10 w A n c l) (hb : Rd encBond 5 w bA bn bc bs) (hm : Rd encPlace 2 w M mn mc mv) (hd : Rd encLink 6 w DA dn dc d) (hdn : dn ≤ 1000000) :
    Calls Tryz.prog 60 #[.slice A n c, .int .i64 known, .slice bA bn bc, .slice M mn mc, .slice DA dn dc] w fun e w' => e = .returned (.tuple #[.bool (checkConflictV l known bs mv d).1, .int .i64 (checkConflictV l known bs mv d).2]) ∧ Below w.heap.size w w' := by
  have hwith := with_any A n c l known bA bn bc bs M mn mc mv w hl hb hm
  have HW := Lib.hid hwith
  have HD := Lib.hid hd
  clear hwith hl hb hm hd
  by_cases he : withErr l known bs mv = 0
  case neg =>
    have he' := neBool he
    have hv : checkConflictV l known bs mv d = (false, withErr l known bs mv) := by unfold checkConflictV; rw [if_pos he]
    rw [hv]
    have HNE := Lib.hid he
    clear hv he
    generalize withErr l known bs mv = er at *
    go_enter Tryz.func60, Tryz.ntmps60
    go_wp2_with (go_at_call 85; refine HW.out.mono ?_; rintro e w2 ⟨p, cs, rfl, hb2, hp, _⟩
                 obtain ⟨rfl, rfl⟩ := hp HNE.out
                 unfold zeroYears
                 have HB2 := Lib.hid hb2
                 clear hp hb2)
    go_ret2
    exact ⟨rfl, HB2.out.alloc HB2.out.size _⟩
  case pos =>
    have hO := okO_of (askErr_of_with he)
    have hck := checkSys_years hO mv
    have hv : checkConflictV l known bs mv d = (contraV (linksL (counting l known) bs mv) (ptsOf l known bs) d, 0) := by unfold checkConflictV; rw [if_neg (by simpa using he)]
    rw [hv]
    rw [he] at HW
    have hpt : ptsOf l known bs = ptsM (placesOf (counting l known) bs) (placesOf (counting l known) bs).length := rfl
    rw [hpt]
    have hps := hO.pn
    have hll := linksL_len (counting l known) bs mv
    have hl1 := hO.tn
    have hl2 := hO.bn
    clear hv he hO hpt
    obtain ⟨ps, hpe⟩ : ∃ ps, placesOf (counting l known) bs = ps := ⟨_, rfl⟩
    obtain ⟨L, hLe⟩ : ∃ L, linksL (counting l known) bs mv = L := ⟨_, rfl⟩
    rw [hpe, hLe] at HW
    rw [hpe, hLe] at hck ⊢
    rw [hpe] at hps
    rw [hLe] at hll
    have hLn : L.length ≤ 800 := by omega
    have hcon : ∀ (w4 : World) (A4 : Option Addr) (c4 : Nat) (A5 : Option Addr) (c5 mb : Nat), Rd encBound 4 w4 A4 L.length c4 (L.map (boundOf (ptsM ps ps.length))) → Rd encLink 6 w4 A5 L.length c5 L → Rd encLink 6 w4 DA dn dc d → Calls Tryz.prog 113 #[.agg #[.int .i64 (ps.length + 1), .slice A4 L.length c4, .slice A5 L.length c5, .map (some mb)], .slice DA dn dc] w4 fun e w' => e = .returned (.bool (contraV L (ptsM ps ps.length) d)) ∧ Below w4.heap.size w4 w' := fun w4 A4 c4 A5 c5 mb h1 h2 h3 => contradicts_any (ps.length + 1) (ptsM ps ps.length) A4 c4 A5 c5 mb L DA dn dc d w4 h1 h2 h3 hck hdn
    have HCON := Lib.hid hcon
    clear hcon hck hpe hLe hll hl1 hl2
    generalize contraV L (ptsM ps ps.length) d = cv at *
    go_enter Tryz.func60, Tryz.ntmps60
    go_wp2_with (first
                 | (go_at_call 85; refine HW.out.mono ?_; rintro e w2 ⟨p, cs, rfl, hb2, _, hp⟩
                    obtain ⟨o, rfl, hOr, Ab, cb, Al, cl, mb, rfl, y1, y2, y3, y4⟩ := hp rfl
                    obtain ⟨w3, hw3⟩ : ∃ w3, w2.alloc (.cells #[.int .i64 (ps.length + 1), .slice Ab L.length cb, .slice Al L.length cl, .map (some mb)] 120) = w3 := ⟨_, rfl⟩
                    have hb23 : Below w2.heap.size w2 w3 := (by rw [← hw3]; exact (Below.refl _ w2).alloc (Nat.le_refl _) _)
                    have hh3 : w3.heap[w2.heap.size]? = some (.cells #[.int .i64 (ps.length + 1), .slice Ab L.length cb, .slice Al L.length cl, .map (some mb)] 120 (0, 0)) := (by rw [← hw3]; exact heap_alloc_new w2 _)
                    have h30 : w3.cell? ⟨w2.heap.size, 0, none⟩ = some (.int .i64 (ps.length + 1)) := (by simp [World.cell?, hh3])
                    have h31 : w3.cell? ⟨w2.heap.size, 1, none⟩ = some (.slice Ab L.length cb) := (by simp [World.cell?, hh3])
                    have h32 : w3.cell? ⟨w2.heap.size, 2, none⟩ = some (.slice Al L.length cl) := (by simp [World.cell?, hh3])
                    have h33 : w3.cell? ⟨w2.heap.size, 3, none⟩ = some (.map (some mb)) := (by simp [World.cell?, hh3])
                    have hlt3 : w2.heap.size < w3.heap.size := (Array.getElem?_eq_some_iff.1 hh3).1
                    have HB3 := Lib.hid (hb2.trans (hb23.mono hb2.size))
                    have HCC := Lib.hid (HCON.out w3 Ab cb Al cl mb ((y1.rd (fun _ => rfl) (by omega)).below hb23 (Nat.le_refl _)) ((y2.rd (fun _ => rfl) (by omega)).below hb23 (Nat.le_refl _)) (HD.out.below (hb2.trans (hb23.mono hb2.size)) (Nat.le_refl _)))
                    have HW3 := Lib.hid hw3
                    clear y1 y2 y3 y4 hOr hp hb2 hb23 hh3 hw3)
                 | rw [HW3.out]
                 | (go_at_call 113; (with_reducible refine HCC.out.mono ?_); rintro e w9 ⟨rfl, hb9⟩; have HB9 := Lib.hid (HB3.out.trans (hb9.mono HB3.out.size)); clear hb9))
    go_ret2
    exact ⟨rfl, HB9.out⟩
end Go.Proofs.YtelnkflmnbhclaaGreat
end

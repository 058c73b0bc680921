/- Contracts that the law leans on: Bell, Bell2, AdmP. -/
import Derived.Test.YtelnkflmnbhclaaGreatG15
import Derived.Test.YtelnkflmnbhclaaGreatG34
import Derived.Test.YtelnkflmnbhclaaGreatG25
/- What is proved: the passes of gauge come to rest within one round more than there are points exactly if the system has a solution. Conditions: the bounds' ends are points. -/
section
namespace Go.Proofs.YtelnkflmnbhclaaGreat

abbrev val (r : Row) (v : Nat) : Int := r.getD v 0
theorem val_set (r : Row) (i j : Nat) (x : Int) (hi : i < r.length) : val (r.set i x) j = if i = j then x else val r j := by
  unfold val
  rw [List.getD_eq_getElem?_getD, List.getD_eq_getElem?_getD, List.getElem?_set]
  by_cases h : i = j
  · subst h; simp [hi]
  · simp [h]
theorem rAt_val (r : Row) (i : Int) : rAt r i = val r i.toNat := rfl
theorem row_ext {r s : Row} (hl : r.length = s.length) (h : ∀ v, val r v = val s v) : r = s := by
  apply List.ext_getElem hl
  intro i h1 h2
  have := h i
  simpa [val, List.getD_eq_getElem?_getD, h1, h2] using this

theorem relaxes_iff {r : Row} {b : Bound} : relaxes r b = true ↔ val r b.src.toNat < noneV ∧ val r b.src.toNat + b.most < val r b.dst.toNat := by
  unfold relaxes
  rw [Bool.and_eq_true, decide_eq_true_eq, decide_eq_true_eq]
  exact Iff.rfl

/-- the ends of the bounds lie within a row of n -/
def Ends (n : Nat) (bs : List Bound) : Prop := ∀ b ∈ bs, b.src.toNat < n ∧ b.dst.toNat < n
/-- y keeps a bound, as far as its beginning counts -/
def KeptB (y : Nat → Int) (b : Bound) : Prop := y b.src.toNat < noneV → y b.dst.toNat ≤ y b.src.toNat + b.most

section
variable {bs : List Bound} {st : Row × Row} {b : Bound} {i : Nat}
theorem step_le (hd : b.dst.toNat < st.1.length) (v : Nat) : val (relaxStep st b i).1 v ≤ val st.1 v := by
  unfold relaxStep
  split
  · rename_i h
    rw [relaxes_iff] at h
    simp only [rPut]
    rw [val_set _ _ _ _ hd, rAt_val]
    split
    · rename_i e; rw [← e]; omega
    · exact Int.le_refl _
  · exact Int.le_refl _
theorem step_hit (hd : b.dst.toNat < st.1.length) (hs : val st.1 b.src.toNat < noneV) : val (relaxStep st b i).1 b.dst.toNat ≤ val st.1 b.src.toNat + b.most := by
  unfold relaxStep
  split
  · simp only [rPut]
    rw [val_set _ _ _ _ hd, if_pos rfl, rAt_val]; exact Int.le_refl _
  · rename_i h
    rw [relaxes_iff, not_and] at h
    have := h hs
    omega
theorem step_low {y : Nat → Int} (hd : b.dst.toNat < st.1.length) (hy : ∀ v, y v ≤ val st.1 v) (hk : KeptB y b) (v : Nat) : y v ≤ val (relaxStep st b i).1 v := by
  unfold relaxStep
  split
  · rename_i h
    rw [relaxes_iff] at h
    simp only [rPut]
    rw [val_set _ _ _ _ hd, rAt_val]
    split
    · rename_i e
      have h1 := hy b.src.toNat
      have h2 := hk (by omega)
      rw [← e]; omega
    · exact hy v
  · exact hy v
theorem step_out (hd : b.dst.toNat < st.1.length) {v : Nat} (hv : v ≠ b.dst.toNat) : val (relaxStep st b i).1 v = val st.1 v := by
  unfold relaxStep
  split
  · simp only [rPut]
    rw [val_set _ _ _ _ hd, if_neg (fun e => hv e.symm)]
  · rfl
/-- a bound that is kept changes nothing -/
theorem step_same (hk : KeptB (val st.1) b) : (relaxStep st b i).1 = st.1 := by
  unfold relaxStep
  rw [if_neg]
  intro h
  rw [relaxes_iff] at h
  have := hk h.1
  omega
end

section
variable {bs : List Bound} {st : Row × Row}
theorem passTo_next {k : Nat} {b : Bound} (hb : bs[k]? = some b) : passTo bs st (k + 1) = relaxStep (passTo bs st k) b k := by
  rw [passTo, hb]
theorem passTo_past {k : Nat} (hb : bs[k]? = none) : passTo bs st (k + 1) = passTo bs st k := by
  rw [passTo, hb]
theorem passTo_le (he : Ends st.1.length bs) (v : Nat) : ∀ k j, j ≤ k → val (passTo bs st k).1 v ≤ val (passTo bs st j).1 v
  | 0, j, hj => by cases Nat.le_zero.1 hj; exact Int.le_refl _
  | k + 1, j, hj => by
    rcases Nat.lt_or_ge k j with h | h
    · have : j = k + 1 := by omega
      subst this; exact Int.le_refl _
    · have ih := passTo_le he v k j h
      cases hb : bs[k]? with
      | none => rw [passTo_past hb]; exact ih
      | some b =>
        rw [passTo_next hb]
        exact Int.le_trans (step_le (by rw [(passTo_len bs st k).1]; exact (he b (List.mem_of_getElem? hb)).2) v) ih
theorem passTo_low {y : Nat → Int} (he : Ends st.1.length bs) (hk : ∀ b ∈ bs, KeptB y b) (hy : ∀ v, y v ≤ val st.1 v) : ∀ k v, y v ≤ val (passTo bs st k).1 v
  | 0, v => hy v
  | k + 1, v => by
    have ih := passTo_low he hk hy k
    cases hb : bs[k]? with
    | none => rw [passTo_past hb]; exact ih v
    | some b =>
      have hm := List.mem_of_getElem? hb
      rw [passTo_next hb]
      exact step_low (by rw [(passTo_len bs st k).1]; exact (he b hm).2) ih (hk b hm) v
theorem passTo_out (he : Ends st.1.length bs) {v : Nat} (hv : ∀ b ∈ bs, v ≠ b.dst.toNat) : ∀ k, val (passTo bs st k).1 v = val st.1 v
  | 0 => rfl
  | k + 1 => by
    have ih := passTo_out he hv k
    cases hb : bs[k]? with
    | none => rw [passTo_past hb]; exact ih
    | some b =>
      have hm := List.mem_of_getElem? hb
      rw [passTo_next hb, step_out (by rw [(passTo_len bs st k).1]; exact (he b hm).2) (hv b hm), ih]
theorem passTo_same (hk : ∀ b ∈ bs, KeptB (val st.1) b) : ∀ k, (passTo bs st k).1 = st.1
  | 0 => rfl
  | k + 1 => by
    have ih := passTo_same hk k
    cases hb : bs[k]? with
    | none => rw [passTo_past hb]; exact ih
    | some b => rw [passTo_next hb, step_same (by rw [ih]; exact hk b (List.mem_of_getElem? hb)), ih]
theorem pass_len : (pass bs st).1.length = st.1.length := (passTo_len bs st bs.length).1
theorem pass_le (he : Ends st.1.length bs) (v : Nat) : val (pass bs st).1 v ≤ val st.1 v := passTo_le he v bs.length 0 (Nat.zero_le _)
theorem pass_low {y : Nat → Int} (he : Ends st.1.length bs) (hk : ∀ b ∈ bs, KeptB y b) (hy : ∀ v, y v ≤ val st.1 v) (v : Nat) : y v ≤ val (pass bs st).1 v := passTo_low he hk hy bs.length v
/-- a bound whose beginning has come to rest has been kept behind the pass -/
theorem pass_hit {Y : Nat → Int} (he : Ends st.1.length bs) (hY : ∀ v, Y v ≤ val (pass bs st).1 v) {b : Bound} (hb : b ∈ bs) (hs : val st.1 b.src.toNat = Y b.src.toNat) (hn : Y b.src.toNat < noneV) : val (pass bs st).1 b.dst.toNat ≤ Y b.src.toNat + b.most := by
  obtain ⟨j, hj, hjb⟩ := List.getElem_of_mem hb
  have hb' : bs[j]? = some b := by rw [List.getElem?_eq_getElem hj, hjb]
  have h1 := passTo_le he b.src.toNat j 0 (Nat.zero_le _)
  have h2 := passTo_le he b.src.toNat bs.length j (Nat.le_of_lt hj)
  have h3 := hY b.src.toNat
  have h4 : val (passTo bs st j).1 b.src.toNat = Y b.src.toNat := by
    have e : (pass bs st).1 = (passTo bs st bs.length).1 := rfl
    have e0 : (passTo bs st 0).1 = st.1 := rfl
    rw [e] at h3
    rw [e0] at h1
    omega
  have h5 := step_hit (st := passTo bs st j) (b := b) (i := j) (by rw [(passTo_len bs st j).1]; exact (he b hb).2) (by omega)
  rw [← passTo_next hb', h4] at h5
  exact Int.le_trans (passTo_le he b.dst.toNat bs.length (j + 1) hj) h5
theorem pass_fix (he : Ends st.1.length bs) (h : (pass bs st).1 = st.1) : ∀ b ∈ bs, KeptB (val st.1) b := fun b hb hn => by
  have := pass_hit (Y := val st.1) he (fun v => by rw [h]; exact Int.le_refl _) hb rfl hn
  rwa [h] at this
end

/-! ### rounds -/
def rounds (bs : List Bound) : Nat → Row × Row → Row × Row
  | 0, st => st
  | n + 1, st => rounds bs n (pass bs st)
theorem rounds_low {bs : List Bound} {y : Nat → Int} (hk : ∀ b ∈ bs, KeptB y b) : ∀ n (st : Row × Row), Ends st.1.length bs → (∀ v, y v ≤ val st.1 v) → ∀ v, y v ≤ val (rounds bs n st).1 v
  | 0, _, _, hy, v => hy v
  | n + 1, st, he, hy, v => rounds_low hk n (pass bs st) (by rw [pass_len]; exact he) (pass_low he hk hy) v
theorem rounds_le {bs : List Bound} : ∀ n (st : Row × Row), Ends st.1.length bs → ∀ v, val (rounds bs n st).1 v ≤ val st.1 v
  | 0, _, _, _ => Int.le_refl _
  | n + 1, st, he, v => Int.le_trans (rounds_le n (pass bs st) (by rw [pass_len]; exact he) v) (pass_le he v)
theorem rounds_out {bs : List Bound} {v : Nat} (hv : ∀ b ∈ bs, v ≠ b.dst.toNat) : ∀ n (st : Row × Row), Ends st.1.length bs → val (rounds bs n st).1 v = val st.1 v
  | 0, _, _ => rfl
  | n + 1, st, he => (rounds_out hv n (pass bs st) (by rw [pass_len]; exact he)).trans (passTo_out he hv _)

/-! ### they end, if there is a solution below -/
def sumTo (f : Nat → Nat) : Nat → Nat
  | 0 => 0
  | n + 1 => sumTo f n + f n
theorem sumTo_le {f g : Nat → Nat} : ∀ n, (∀ v, v < n → f v ≤ g v) → sumTo f n ≤ sumTo g n
  | 0, _ => Nat.le_refl _
  | n + 1, h => Nat.add_le_add (sumTo_le n (fun v hv => h v (by omega))) (h n (by omega))
theorem sumTo_lt {f g : Nat → Nat} : ∀ n, (∀ v, v < n → f v ≤ g v) → (∃ v, v < n ∧ f v < g v) → sumTo f n < sumTo g n
  | 0, _, ⟨_, h, _⟩ => absurd h (Nat.not_lt_zero _)
  | n + 1, h, ⟨v, hv, hlt⟩ => by
    by_cases e : v = n
    · subst e
      exact Nat.add_lt_add_of_le_of_lt (sumTo_le v (fun u hu => h u (by omega))) hlt
    · exact Nat.add_lt_add_of_lt_of_le (sumTo_lt n (fun u hu => h u (by omega)) ⟨v, by omega, hlt⟩) (h n (by omega))
theorem row_differ {r s : Row} (hl : r.length = s.length) (h : r ≠ s) : ∃ v, v < r.length ∧ val r v ≠ val s v := by
  apply Classical.byContradiction
  intro hn
  apply h
  refine row_ext hl (fun v => ?_)
  by_cases hv : v < r.length
  · exact Classical.byContradiction fun e => hn ⟨v, hv, e⟩
  · simp [val, List.getD_eq_getElem?_getD, List.getElem?_eq_none (Nat.le_of_not_lt hv), List.getElem?_eq_none (by omega : s.length ≤ v)]
theorem rounds_end {bs : List Bound} {y : Nat → Int} (hk : ∀ b ∈ bs, KeptB y b) : ∀ (m : Nat) (st : Row × Row), Ends st.1.length bs → (∀ v, y v ≤ val st.1 v) → sumTo (fun v => (val st.1 v - y v).toNat) st.1.length ≤ m →
    ∃ J, (pass bs (rounds bs J st)).1 = (rounds bs J st).1
  | m, st, he, hy, hm => by
    by_cases h : (pass bs st).1 = st.1
    · exact ⟨0, h⟩
    · obtain ⟨v, hv, hne⟩ := row_differ pass_len h
      rw [pass_len] at hv
      have hle := fun u => pass_le (st := st) he u
      have hlow := pass_low he hk hy
      have hlt : sumTo (fun v => (val (pass bs st).1 v - y v).toNat) st.1.length < sumTo (fun v => (val st.1 v - y v).toNat) st.1.length := by
        refine sumTo_lt _ (fun u _ => ?_) ⟨v, hv, ?_⟩
        · have := hle u; omega
        · have := hle v; have := hlow v; omega
      cases m with
      | zero => omega
      | succ m =>
        obtain ⟨J, hJ⟩ := rounds_end hk m (pass bs st) (by rw [pass_len]; exact he) hlow (by rw [pass_len]; omega)
        exact ⟨J + 1, hJ⟩

/-! ### and soon -/
theorem settledLoop_stop {bs : List Bound} {n : Nat} {st : Row × Row} (h : (pass bs st).1 = st.1) : (settledLoop bs (n + 1) st).2.2 = true := by
  rw [settledLoop, if_pos h]
theorem settledLoop_go {bs : List Bound} {n : Nat} {st : Row × Row} (h : ¬ (pass bs st).1 = st.1) : settledLoop bs (n + 1) st = settledLoop bs n (pass bs st) := by
  rw [settledLoop, if_neg h]
theorem loop_true {bs : List Bound} {pts : Nat} (hp : ∀ b ∈ bs, b.dst.toNat < pts) {R : Nat → Int} (hR : ∀ b ∈ bs, KeptB R b) : ∀ (m : Nat) (st : Row × Row), Ends st.1.length bs → (∃ J, ∀ v, val (rounds bs J st).1 v = R v) →
    sumTo (fun v => if val st.1 v = R v then 0 else 1) pts ≤ m → (settledLoop bs (m + 1) st).2.2 = true
  | m, st, he, ⟨J, hJ⟩, hm => by
    by_cases h : (pass bs st).1 = st.1
    · exact settledLoop_stop h
    · have hRlow : ∀ v, R v ≤ val st.1 v := fun v => by rw [← hJ v]; exact rounds_le J st he v
      have hPlow : ∀ v, R v ≤ val (pass bs st).1 v := pass_low he hR hRlow
      have hPle := fun u => pass_le (st := st) he u
      have hout : ∀ v, pts ≤ v → val st.1 v = R v := fun v hv => by
        rw [← hJ v, rounds_out (fun b hb e => by have := hp b hb; omega) J st he]
      cases J with
      | zero =>
        exact absurd (passTo_same (fun b hb => by
          have := hR b hb
          unfold KeptB at this ⊢
          rw [← hJ, ← hJ] at this
          exact this) bs.length) h
      | succ J =>
        have hJ' : ∀ v, val (rounds bs J (pass bs st)).1 v = R v := hJ
        have he' : Ends (pass bs st).1.length bs := by rw [pass_len]; exact he
        have hlt : sumTo (fun v => if val (pass bs st).1 v = R v then 0 else 1) pts < sumTo (fun v => if val st.1 v = R v then 0 else 1) pts := by
          refine sumTo_lt _ (fun v _ => ?_) ?_
          · by_cases e : val st.1 v = R v
            · have : val (pass bs st).1 v = R v := by have := hPle v; have := hPlow v; omega
              rw [if_pos this]; exact Nat.zero_le _
            · rw [if_neg e]; split <;> omega
          · apply Classical.byContradiction
            intro hno
            have hsame : ∀ v, val (pass bs st).1 v = R v → val st.1 v = R v := fun v e => by
              by_cases hv : v < pts
              · apply Classical.byContradiction
                intro e2
                exact hno ⟨v, hv, by rw [if_pos e, if_neg e2]; omega⟩
              · exact hout v (by omega)
            by_cases hT : ∃ v, val (pass bs st).1 v ≠ R v
            · obtain ⟨v0, hv0⟩ := hT
              have hD : ∀ b ∈ bs, KeptB (fun v => if val (pass bs st).1 v = R v then R v else R v + 1) b := fun b hb hn => by
                simp only at hn ⊢
                have hk := hR b hb
                unfold KeptB at hk
                by_cases hs : val (pass bs st).1 b.src.toNat = R b.src.toNat
                · rw [if_pos hs] at hn ⊢
                  have h1 := hk hn
                  have h2 := pass_hit he hPlow hb (hsame _ hs) hn
                  split
                  · exact h1
                  · rename_i h3
                    have := hPlow b.dst.toNat
                    omega
                · rw [if_neg hs] at hn ⊢
                  have h1 := hk (by omega)
                  split <;> omega
              have h4 := rounds_low hD J (pass bs st) he' (fun v => by
                show (if val (pass bs st).1 v = R v then R v else R v + 1) ≤ _
                split
                · exact hPlow v
                · rename_i h3
                  have := hPlow v
                  omega) v0
              rw [hJ' v0] at h4
              simp only [if_neg hv0] at h4
              omega
            · apply h
              refine row_ext pass_len (fun v => ?_)
              have h5 : val (pass bs st).1 v = R v := Classical.byContradiction fun e => hT ⟨v, e⟩
              rw [h5, hsame v h5]
        cases m with
        | zero => omega
        | succ m =>
          rw [settledLoop_go h]
          exact loop_true hp hR m (pass bs st) he' ⟨J, hJ'⟩ (by omega)
theorem sumTo_one (p : Nat → Bool) : ∀ n, sumTo (fun v => if p v = true then 0 else 1) n ≤ n
  | 0 => Nat.le_refl _
  | n + 1 => by
    have := sumTo_one p n
    simp only [sumTo]
    split <;> omega
/-- the passes come to rest if there is a solution below the first row -/
theorem settled_true {pts : Int} {bs : List Bound} {r : Row} (h0 : 0 ≤ pts) (he : Ends r.length bs) (hp : ∀ b ∈ bs, b.dst.toNat < pts.toNat) {y : Nat → Int} (hk : ∀ b ∈ bs, KeptB y b) (hy : ∀ v, y v ≤ val r v) : (settled pts bs r).2.2 = true := by
  obtain ⟨J, hJ⟩ := rounds_end hk _ (r, lasts) he hy (Nat.le_refl _)
  have hlen : ∀ n (st : Row × Row), (rounds bs n st).1.length = st.1.length := fun n => by
    induction n with
    | zero => intro st; rfl
    | succ n ih => intro st; exact (ih (pass bs st)).trans pass_len
  have hfix := pass_fix (st := rounds bs J (r, lasts)) (by rw [hlen]; exact he) hJ
  have e : (pts + 1).toNat = pts.toNat + 1 := by omega
  unfold settled
  rw [e]
  refine loop_true hp hfix pts.toNat (r, lasts) he ⟨J, fun _ => rfl⟩ ?_
  have := sumTo_one (fun v => decide (val r v = val (rounds bs J (r, lasts)).1 v)) pts.toNat
  simpa using this
/-- what is at rest keeps all bounds -/
theorem loop_fix {bs : List Bound} : ∀ (n : Nat) (st : Row × Row), Ends st.1.length bs → (settledLoop bs n st).2.2 = true → ∀ b ∈ bs, KeptB (val (settledLoop bs n st).1) b
  | 0, _, _, h => by cases h
  | n + 1, st, he, h => by
    by_cases hf : (pass bs st).1 = st.1
    · rw [settledLoop, if_pos hf]
      simp only [hf]
      exact pass_fix he hf
    · rw [settledLoop_go hf] at h ⊢
      exact loop_fix n (pass bs st) (by rw [pass_len]; exact he) h
theorem loop_low {bs : List Bound} {y : Nat → Int} (hk : ∀ b ∈ bs, KeptB y b) : ∀ (n : Nat) (st : Row × Row), Ends st.1.length bs → (∀ v, y v ≤ val st.1 v) → ∀ v, y v ≤ val (settledLoop bs n st).1 v
  | 0, _, _, hy, v => hy v
  | n + 1, st, he, hy, v => by
    have hp := pass_low he hk hy
    by_cases hf : (pass bs st).1 = st.1
    · rw [settledLoop, if_pos hf]; exact hp v
    · rw [settledLoop_go hf]; exact loop_low hk n (pass bs st) (by rw [pass_len]; exact he) hp v
theorem loop_le {bs : List Bound} : ∀ (n : Nat) (st : Row × Row), Ends st.1.length bs → ∀ v, val (settledLoop bs n st).1 v ≤ val st.1 v
  | 0, _, _, _ => Int.le_refl _
  | n + 1, st, he, v => by
    by_cases hf : (pass bs st).1 = st.1
    · rw [settledLoop, if_pos hf]; exact pass_le he v
    · rw [settledLoop_go hf]; exact Int.le_trans (loop_le n (pass bs st) (by rw [pass_len]; exact he) v) (pass_le he v)
end Go.Proofs.YtelnkflmnbhclaaGreat
end

/- What is proved: a system as said has a solution exactly if gauge finds one; so have the links of an order exactly if there are dates. Conditions: the system is as said. -/
section
namespace Go.Proofs.YtelnkflmnbhclaaGreat

theorem le_sumTo (f : Nat → Nat) : ∀ n v, v < n → f v ≤ sumTo f n
  | 0, _, h => absurd h (Nat.not_lt_zero _)
  | n + 1, v, h => by
    simp only [sumTo]
    by_cases e : v = n
    · subst e; omega
    · have := le_sumTo f n v (by omega)
      omega
theorem ends60 {pts : Int} {bs : List Bound} (hok : SysOk pts bs) {r : Row} (hr : r.length = 60) : Ends r.length bs := fun b hb => by
  have := hok.b b hb
  have := hok.p2
  rw [hr]
  constructor <;> omega
theorem val_zero (v : Nat) : val zeroRow v = 0 := by
  unfold val zeroRow
  rw [List.getD_eq_getElem?_getD, List.getElem?_replicate]
  split <;> rfl
theorem solvedOk_iff {pts : Int} {bs : List Bound} (hok : SysOk pts bs) : solvedOk pts bs = true ↔ ∃ y : Nat → Int, ∀ b ∈ bs, y b.dst.toNat ≤ y b.src.toNat + b.most := by
  have hz60 : zeroRow.length = 60 := by simp [zeroRow]
  have hp1 := hok.p1
  have hp2 := hok.p2
  constructor
  · intro h
    refine ⟨val (settledLoop bs (pts + 1).toNat (zeroRow, lasts)).1, fun b hb => ?_⟩
    refine loop_fix _ _ (ends60 hok hz60) h b hb ?_
    have := loop_le (bs := bs) (pts + 1).toNat (zeroRow, lasts) (ends60 hok hz60) b.src.toNat
    simp only [val_zero] at this
    unfold noneV
    omega
  · rintro ⟨y, hy⟩
    obtain ⟨C, hC⟩ : ∃ C : Int, ∀ v, v < 60 → y v ≤ C := ⟨(sumTo (fun v => (y v).toNat) 60 : Nat), fun v hv => by
      have := le_sumTo (fun v => (y v).toNat) 60 v hv
      try simp only at this
      omega⟩
    refine settled_true (y := fun v => if v < 60 then y v - C else 0) (by omega) (ends60 hok hz60) (fun b hb => ?_) (fun b hb _ => ?_) (fun v => ?_)
    · have := hok.b b hb; omega
    · have h1 := hok.b b hb
      have h2 := hy b hb
      try simp only
      rw [if_pos (by omega), if_pos (by omega)]
      omega
    · rw [val_zero]
      try simp only
      split
      · have := hC v (by assumption); omega
      · exact Int.le_refl _

/-- years of places that keep all links -/
def DatesOk (f : Place → Int) (L : List Link) : Prop := ∀ x ∈ L, f x.dst ≤ f x.src + x.most
def sysB (ts : List Trace) (bs : List Bond) (mv : List Place) : List Bound := (linksL ts bs mv).map (boundOf (ptsM (placesOf ts bs) (placesOf ts bs).length))
def enough (ts : List Trace) (bs : List Bond) (mv : List Place) : Bool := solvedOk ((placesOf ts bs).length + 1) (sysB ts bs mv)
/-- the place at a point -/
def plAt (ps : List Place) (i : Nat) : Place := if i = 0 then z00 else ps.getD (i - 1) z00
theorem plAt_of {ps : List Place} (hn : ps.Nodup) (hz : z00 ∉ ps) {p : Place} (h : p = z00 ∨ p ∈ ps) : plAt ps ((getM (ptsM ps ps.length) p).getD 0).toNat = p := by
  rcases h with rfl | h
  · rw [ptsM_zero ps hz _ (Nat.le_refl _)]; rfl
  · obtain ⟨i, hi⟩ := List.mem_iff_getElem?.1 h
    rw [ptsM_at ps hn _ (Nat.le_refl _) i p (List.getElem?_eq_some_iff.1 hi).1 hi]
    have : ((i : Int) + 1).toNat = i + 1 := by omega
    simp [plAt, this, List.getD_eq_getElem?_getD, hi]
theorem enough_iff {ts : List Trace} {bs : List Bond} (h : OkO ts bs) (mv : List Place) : enough ts bs mv = true ↔ ∃ f, DatesOk f (linksL ts bs mv) := by
  have hok := sysOk_of (checkSys_years h mv)
  have hg := linksL_good h mv
  have hn := placesOf_nodup ts bs
  have hz := z00_not h
  unfold enough sysB
  rw [solvedOk_iff hok]
  constructor
  · rintro ⟨y, hy⟩
    refine ⟨fun p => y ((getM (ptsM (placesOf ts bs) (placesOf ts bs).length) p).getD 0).toNat, fun x hx => ?_⟩
    exact hy _ (List.mem_map.2 ⟨x, hx, rfl⟩)
  · rintro ⟨f, hf⟩
    refine ⟨fun i => f (plAt (placesOf ts bs) i), fun b hb => ?_⟩
    obtain ⟨x, hx, rfl⟩ := List.mem_map.1 hb
    obtain ⟨g1, g2, _⟩ := hg x hx
    simp only [boundOf]
    rw [plAt_of hn hz g1, plAt_of hn hz g2]
    exact hf x hx
end Go.Proofs.YtelnkflmnbhclaaGreat
end

/- What is proved: the admissions of an order that was made: what they cost, and that their places differ. Conditions: the order was made. -/
section
namespace Go.Proofs.YtelnkflmnbhclaaGreat
open Go.RowKit Go.Proofs Go.Shelf

theorem admStep_get {m : List (Place × Admit)} {x : Trace} {p : Place} {v : Admit} (h : getM (admStep m x) p = some v) : getM m p = some v ∨ (x.kind = 3 ∧ p = placeT x ∧ v = admT x) := by
  unfold admStep at h
  split at h
  · rename_i hk
    rw [getM_putM] at h
    split at h
    · rename_i e
      exact .inr ⟨hk, by first | exact e | exact e.symm, (Option.some.inj h).symm⟩
    · exact .inl h
  · exact .inl h
theorem admFold_get : ∀ (ts : List Trace) (m : List (Place × Admit)) (p : Place) (v : Admit), getM (ts.foldl admStep m) p = some v → getM m p = some v ∨ ∃ x ∈ ts, x.kind = 3 ∧ p = placeT x ∧ v = admT x
  | [], m, p, v, h => .inl h
  | x :: ts, m, p, v, h => by
    rw [List.foldl_cons] at h
    rcases admFold_get ts (admStep m x) p v h with h1 | ⟨y, hy, h1⟩
    · rcases admStep_get h1 with h2 | h2
      · exact .inl h2
      · exact .inr ⟨x, List.mem_cons_self, h2⟩
    · exact .inr ⟨y, List.mem_cons_of_mem _ hy, h1⟩
theorem admitM_get {ts : List Trace} {p : Place} {v : Admit} (h : getM (admitM ts) p = some v) : ∃ x ∈ ts, x.kind = 3 ∧ p = placeT x ∧ v = admT x := by
  rcases admFold_get ts [] p v h with h1 | h1
  · cases h1
  · exact h1
theorem admitsOf_from {ts : List Trace} {a : Admit} (h : a ∈ admitsOf ts) : ∃ x ∈ ts, x.kind = 3 ∧ a = admT x := by
  unfold admitsOf at h
  obtain ⟨p, hp, rfl⟩ := List.mem_map.1 h
  obtain ⟨v, hv⟩ := getM_key ((sortPl_perm _).mem_iff.1 hp)
  obtain ⟨x, hx, hk, _, e⟩ := admitM_get hv
  exact ⟨x, hx, hk, by rw [hv, ← e]; rfl⟩
theorem admitsOf_cost {ts : List Trace} {bs : List Bond} (h : OkO ts bs) : ∀ x ∈ admitsOf ts, 0 ≤ x.cost ∧ x.cost ≤ 1000 := fun a ha => by
  obtain ⟨x, hx, hk, rfl⟩ := admitsOf_from ha
  have h1 := (h.t x hx).1
  unfold okT at h1
  simp [hk, inB] at h1
  simp only [admT]
  omega
theorem admitsOf_places (ts : List Trace) : (admitsOf ts).map (·.place) = sortPl ((admitM ts).map (·.1)) := by
  unfold admitsOf
  rw [List.map_map]
  conv => rhs; rw [← List.map_id (sortPl ((admitM ts).map (·.1)))]
  refine List.map_congr_left fun p hp => ?_
  obtain ⟨v, hv⟩ := getM_key ((sortPl_perm _).mem_iff.1 hp)
  obtain ⟨x, _, _, e1, e2⟩ := admitM_get hv
  show ((getM (admitM ts) p).getD _).place = p
  rw [hv, Option.getD_some, e2, e1]
  rfl
end Go.Proofs.YtelnkflmnbhclaaGreat
end

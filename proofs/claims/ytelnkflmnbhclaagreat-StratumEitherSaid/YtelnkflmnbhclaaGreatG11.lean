/- What is proved: the contract of stratum.asked. Conditions: none. -/
import Derived.Test.YtelnkflmnbhclaaGreatG08
import Derived.Test.YtelnkflmnbhclaaGreatG10
namespace Go.Proofs.YtelnkflmnbhclaaGreat
open Go.RowKit Go.Proofs Go.Shelf

/-! ### the plain law of asked -/
def uniq : List Place → List Place
  | [] => []
  | x :: l => if x ∈ l then uniq l else x :: uniq l
theorem mem_uniq {q : Place} : ∀ {l : List Place}, q ∈ uniq l ↔ q ∈ l
  | [] => by simp [uniq]
  | x :: l => by
    unfold uniq
    split
    · rename_i h
      rw [mem_uniq, List.mem_cons]
      exact ⟨.inr, fun h' => h'.elim (fun e => by rw [e]; exact h) id⟩
    · rw [List.mem_cons, List.mem_cons, mem_uniq]
theorem nodup_uniq : ∀ (l : List Place), (uniq l).Nodup
  | [] => by simp [uniq]
  | x :: l => by
    unfold uniq
    split
    · exact nodup_uniq l
    · rename_i h
      exact List.nodup_cons.2 ⟨fun h' => h (mem_uniq.1 h'), nodup_uniq l⟩
def placeT (x : Trace) : Place := ⟨x.pit, x.layer⟩
def lowerT (x : Trace) : Place := ⟨x.pit, x.lower⟩
def plT (x : Trace) : List Place := if x.kind = 1 then [placeT x, lowerT x] else [placeT x]
def plB (x : Bond) : List Place := [x.a, x.b]
def placeList (ts : List Trace) (b : List Bond) : List Place := ts.flatMap plT ++ b.flatMap plB
def placesOf (ts : List Trace) (b : List Bond) : List Place := sortPl (uniq (placeList ts b))
def admT (x : Trace) : Admit := ⟨placeT x, x.cost, x.id⟩
def admStep (m : List (Place × Admit)) (x : Trace) : List (Place × Admit) := if x.kind = 3 then putM m (placeT x) (admT x) else m
def admitM (ts : List Trace) : List (Place × Admit) := ts.foldl admStep []
def admitsOf (ts : List Trace) : List Admit := (sortPl ((admitM ts).map (·.1))).map (fun p => ((getM (admitM ts) p).getD ⟨p, 0, 0⟩))
def askErr (l : List Trace) (known : Int) (b : List Bond) : Int :=
  if (check l).2 ≠ 0 then (check l).2 else if checkBonds b ≠ 0 then checkBonds b else
  if 50 < (uniq (placeList (counting l known) b)).length ∨ 8 < (admitM (counting l known)).length then 2 else 0

theorem checkFrom_ok {l : List Trace} : ∀ (f k : Nat), (checkFrom l f k).2 = 0 → ∀ i x, k ≤ i → i < k + f → l[i]? = some x → follows (l.take i) x = 0
  | 0, k, _, i, x, h1, h2, _ => by omega
  | f + 1, k, h, i, x, h1, h2, hx => by
    rw [checkFrom] at h
    cases hk : l[k]? with
    | none =>
      rw [List.getElem?_eq_none_iff] at hk
      have := (List.getElem?_eq_some_iff.1 hx).1
      omega
    | some y =>
      rw [hk] at h
      simp only at h
      by_cases hf : follows (l.take k) y ≠ 0
      · rw [if_pos hf] at h
        exact absurd h hf
      · rw [if_neg hf] at h
        by_cases hik : i = k
        · subst hik
          rw [hk] at hx
          cases hx
          simpa using hf
        · exact checkFrom_ok f (k + 1) h i x (by omega) (by omega) hx
theorem check_ok {l : List Trace} (h : (check l).2 = 0) : ∀ i x, l[i]? = some x → follows (l.take i) x = 0 :=
  fun i x hx => checkFrom_ok l.length 0 h i x (Nat.zero_le _) (by have := (List.getElem?_eq_some_iff.1 hx).1; omega) hx
theorem check_small {l : List Trace} (h : (check l).2 = 0) : l.length ≤ 140 := by
  rcases Nat.lt_or_ge 140 l.length with hl | hl
  · have := check_ok h 140 l[140] (List.getElem?_eq_getElem hl)
    unfold follows at this
    rw [if_pos (by rw [List.length_take]; omega)] at this
    cases this
  · exact hl
theorem checkBonds_small {b : List Bond} (h : checkBonds b = 0) : b.length ≤ 60 := by
  unfold checkBonds at h
  split at h
  · cases h
  · omega
theorem keys_len {m : List (Place × Bool)} {l : List Place} (hn : (m.map (·.1)).Nodup) (h : ∀ q, q ∈ m.map (·.1) ↔ q ∈ l) : m.length = (uniq l).length := by
  have := (perm_of_sub hn (nodup_uniq l) (fun q => (h q).trans mem_uniq.symm)).length_eq
  simpa using this
theorem keys_sort {m : List (Place × Bool)} {l : List Place} (hn : (m.map (·.1)).Nodup) (h : ∀ q, q ∈ m.map (·.1) ↔ q ∈ l) : sortPl (m.map (·.1)) = sortPl (uniq l) :=
  sortPl_congr (perm_of_sub hn (nodup_uniq l) (fun q => (h q).trans mem_uniq.symm))
theorem len_uniq_le : ∀ (l : List Place), (uniq l).length ≤ l.length
  | [] => by simp [uniq]
  | x :: l => by
    unfold uniq
    have := len_uniq_le l
    split
    · simp; omega
    · simp; omega
theorem admitM_snoc (ts : List Trace) (x : Trace) : admitM (ts ++ [x]) = admStep (admitM ts) x := by simp [admitM]

/-! ### the walk -/
structure OrdAt (B : Nat) (w : World) (o : Nat) (bA : Option Addr) (bn bc : Nat) (ts : List Trace) (ps : List Place) (ads : List Admit) : Prop where
  old : B ≤ o
  at_ : ∃ At ct Ap cp Aa ca, w.heap[o]? = some (.cells #[.slice At ts.length ct, .slice bA bn bc, .slice Ap ps.length cp, .slice Aa ads.length ca] 112 (0, 0)) ∧
    Own encTrace 10 25 B w At ts.length ct ts ∧ Own encPlace 2 37 B w Ap ps.length cp ps ∧ Own encAdmit 4 96 B w Aa ads.length ca ads

/-- under way: the maps filled so far -/
structure AskAt (B : Nat) (w wr : World) (o : Nat) (At : Option Addr) (ct : Nat) (ts : List Trace) (bA : Option Addr) (bn bc : Nat) (m : List (Place × Bool)) (am : List (Place × Admit)) (ps : List Place) : Prop where
  below : Below B w wr
  ob : B ≤ o
  obj : wr.heap[o]? = some (.cells #[.slice At ts.length ct, .slice bA bn bc, .slice none 0 0, .slice none 0 0] 112 (0, 0))
  own : Own encTrace 10 25 B wr At ts.length ct ts
  mp : MapP eBool wr (o + 1) m
  ma : MapP eAdmit wr (o + 2) am
  keys : ∀ q, q ∈ m.map (·.1) ↔ q ∈ ps
  hB : B ≤ wr.heap.size
theorem AskAt.grown {B : Nat} {w wr w' : World} {o : Nat} {At : Option Addr} {ct : Nat} {ts : List Trace} {bA : Option Addr} {bn bc : Nat} {m : List (Place × Bool)} {am : List (Place × Admit)} {ps : List Place}
    (h : AskAt B w wr o At ct ts bA bn bc m am ps) (hb : Below wr.heap.size wr w') : AskAt B w w' o At ct ts bA bn bc m am ps :=
  ⟨h.below.trans (hb.mono (Nat.le_trans (Nat.le_of_lt_succ (Nat.lt_succ_of_le h.hB)) (Nat.le_refl _))), h.ob, (hb.block _ (Array.getElem?_eq_some_iff.1 h.obj).1).trans h.obj, h.own.below hb (Nat.le_refl _), h.mp.below hb h.mp.lt, h.ma.below hb h.ma.lt, h.keys, Nat.le_trans h.hB hb.size⟩

section
variable {B : Nat} {w wr w' : World} {o : Nat} {At : Option Addr} {ct : Nat} {ts : List Trace} {bA : Option Addr} {bn bc : Nat} {m : List (Place × Bool)} {am : List (Place × Admit)} {ps : List Place}
theorem AskAt.put (h : AskAt B w wr o At ct ts bA bn bc m am ps) {k : Place} (hm : MapP eBool w' (o + 1) (putM m k true)) (hg : wr.grownBy w' (some (o + 1))) : AskAt B w w' o At ct ts bA bn bc (putM m k true) am (ps ++ [k]) :=
  ⟨h.below.grown hg h.hB (fun k e => by cases e; have := h.ob; omega), h.ob, (hg.block _ (Array.getElem?_eq_some_iff.1 h.obj).1 (by simp)).trans h.obj,
    h.own.kept hg (by
      obtain ⟨es, cl, hb, _⟩ := h.mp.at_
      exact h.own.ne hb (fun cur e => by cases e)), hm, h.ma.kept hg (by simp), fun q => by
      rw [keys_putM, h.keys, List.mem_append, List.mem_singleton]; exact ⟨fun h => h.symm, fun h => h.symm⟩, Nat.le_trans h.hB hg.size⟩
theorem AskAt.putA (h : AskAt B w wr o At ct ts bA bn bc m am ps) {k : Place} {v : Admit} (hm : MapP eAdmit w' (o + 2) (putM am k v)) (hg : wr.grownBy w' (some (o + 2))) : AskAt B w w' o At ct ts bA bn bc m (putM am k v) ps :=
  ⟨h.below.grown hg h.hB (fun k e => by cases e; have := h.ob; omega), h.ob, (hg.block _ (Array.getElem?_eq_some_iff.1 h.obj).1 (by simp)).trans h.obj,
    h.own.kept hg (by
      obtain ⟨es, cl, hb, _⟩ := h.ma.at_
      exact h.own.ne hb (fun cur e => by cases e)), h.mp.kept hg (by simp), hm, h.keys, Nat.le_trans h.hB hg.size⟩
theorem AskAt.as (h : AskAt B w wr o At ct ts bA bn bc m am ps) {am' : List (Place × Admit)} {ps' : List Place} (e1 : am = am') (e2 : ps = ps') : AskAt B w wr o At ct ts bA bn bc m am' ps' := by subst e1 e2; exact h
theorem AskAt.drew (h : AskAt B w wr o At ct ts bA bn bc m am ps) : AskAt B w wr.drew o At ct ts bA bn bc m am ps :=
  ⟨h.below.drew, h.ob, h.obj, h.own.drew, h.mp.drew, h.ma.drew, h.keys, h.hB⟩
theorem AskAt.lt (h : AskAt B w wr o At ct ts bA bn bc m am ps) : o < wr.heap.size ∧ o + 1 < wr.heap.size ∧ o + 2 < wr.heap.size := ⟨(Array.getElem?_eq_some_iff.1 h.obj).1, h.mp.lt, h.ma.lt⟩
end
theorem heap_setCell_obj {W : World} {B i : Nat} {cs : Array Value} {v : Value} {t : TypeId} (h : W.heap[B]? = some (.cells cs t (0, 0))) : (W.setCell ⟨B, i, none⟩ v).heap[B]? = some (.cells (cs.setIfInBounds i v) t (0, 0)) := by
  obtain ⟨hlt, hk⟩ := Array.getElem?_eq_some_iff.1 h
  show (W.heap.modify B _)[B]? = _
  rw [Array.getElem?_eq_getElem (by rw [Array.size_modify]; exact hlt), Array.getElem_modify_self, hk]
  rfl
theorem Own.ne_other {α β : Type} {enc : α → List Value} {enc2 : β → List Value} {k k2 n c n2 c2 B B2 : Nat} {e e2 : TypeId} {W : World} {A A2 : Option Addr} {xs : List α} {ys : List β}
    (h : Own enc k e B W A n c xs) (h2 : Own enc2 k2 e2 B2 W A2 n2 c2 ys) (he : e ≠ e2) : A = none ∨ blockOf A ≠ blockOf A2 := by
  rcases h.block with h | ⟨g, cur, rfl, hg, _⟩
  · exact .inl h
  · refine .inr fun e' => ?_
    rcases h2.block with rfl | ⟨g2, cur2, rfl, hg2, _⟩
    · simp [blockOf] at e'
    · have : g = g2 := by simpa [blockOf] using e'
      subst this
      rw [hg] at hg2
      simp at hg2
      exact he hg2.2
/-- the last loop under way -/
structure LastAt (B : Nat) (w wr : World) (o : Nat) (At : Option Addr) (ct : Nat) (ts : List Trace) (bA : Option Addr) (bn bc : Nat) (Ap : Option Addr) (cp : Nat) (ps : List Place) (Ak : Option Addr) (ck : Nat) (ks : List Place) (am : List (Place × Admit)) (Aa : Option Addr) (ca : Nat) (ads : List Admit) : Prop where
  below : Below B w wr
  hB : B ≤ wr.heap.size
  ob : B ≤ o
  obj : wr.heap[o]? = some (.cells #[.slice At ts.length ct, .slice bA bn bc, .slice Ap ps.length cp, .slice Aa ads.length ca] 112 (0, 0))
  own : Own encTrace 10 25 B wr At ts.length ct ts
  ownP : Own encPlace 2 37 B wr Ap ps.length cp ps
  ownK : Own encPlace 2 37 B wr Ak ks.length ck ks
  ownA : Own encAdmit 4 96 B wr Aa ads.length ca ads
  ma : MapP eAdmit wr (o + 2) am
section
variable {B : Nat} {w wr w' : World} {o : Nat} {At : Option Addr} {ct : Nat} {ts : List Trace} {bA : Option Addr} {bn bc : Nat} {Ap : Option Addr} {cp : Nat} {ps : List Place} {Ak : Option Addr} {ck : Nat} {ks : List Place} {am : List (Place × Admit)} {Aa : Option Addr} {ca : Nat} {ads : List Admit}
theorem LastAt.grown (h : LastAt B w wr o At ct ts bA bn bc Ap cp ps Ak ck ks am Aa ca ads) (hb : Below wr.heap.size wr w') : LastAt B w w' o At ct ts bA bn bc Ap cp ps Ak ck ks am Aa ca ads :=
  ⟨h.below.trans (hb.mono h.hB), Nat.le_trans h.hB hb.size, h.ob, (hb.block _ (Array.getElem?_eq_some_iff.1 h.obj).1).trans h.obj, h.own.below hb (Nat.le_refl _), h.ownP.below hb (Nat.le_refl _), h.ownK.below hb (Nat.le_refl _), h.ownA.below hb (Nat.le_refl _), h.ma.below hb h.ma.lt⟩
theorem LastAt.drew (h : LastAt B w wr o At ct ts bA bn bc Ap cp ps Ak ck ks am Aa ca ads) : LastAt B w wr.drew o At ct ts bA bn bc Ap cp ps Ak ck ks am Aa ca ads :=
  ⟨h.below.drew, h.hB, h.ob, h.obj, h.own.drew, h.ownP.drew, h.ownK.drew, h.ownA.drew, h.ma.drew⟩
theorem LastAt.push (h : LastAt B w wr o At ct ts bA bn bc Ap cp ps Ak ck ks am Aa ca ads) {A' : Option Addr} {c' : Nat} {ads' : List Admit} (hg : wr.grownBy w' (blockOf Aa)) (hO : Own encAdmit 4 96 B w' A' ads'.length c' ads') :
    LastAt B w (w'.setCell ⟨o, 3, none⟩ (.slice A' ads'.length c')) o At ct ts bA bn bc Ap cp ps Ak ck ks am A' c' ads' := by
  have ho : w'.heap[o]? = some (.cells #[.slice At ts.length ct, .slice bA bn bc, .slice Ap ps.length cp, .slice Aa ads.length ca] 112 (0, 0)) := (hg.block _ (Array.getElem?_eq_some_iff.1 h.obj).1 (h.ownA.ne' h.obj (fun cur e => by simp at e))).trans h.obj
  have hg2 := grownBy_setCell' w' o 3 (.slice A' ads'.length c')
  have b1 : Below B w w' := h.below.grown hg h.hB (fun k e => h.ownA.ltB k e)
  have o1 := h.own.kept hg (h.own.ne_other h.ownA (by decide))
  have o2 := h.ownP.kept hg (h.ownP.ne_other h.ownA (by decide))
  have o3 := h.ownK.kept hg (h.ownK.ne_other h.ownA (by decide))
  have m1 : MapP eAdmit w' (o + 2) am := by
    obtain ⟨es, cl, hb, _⟩ := h.ma.at_
    exact h.ma.kept hg (h.ownA.ne' hb (fun cur e => by cases e))
  refine ⟨b1.grown hg2 (Nat.le_trans h.hB hg.size) (fun k e => by cases e; exact h.ob), Nat.le_trans (Nat.le_trans h.hB hg.size) hg2.size, h.ob, ?_, o1.kept hg2 (o1.ne ho (fun cur e => by simp at e)), o2.kept hg2 (o2.ne ho (fun cur e => by simp at e)), o3.kept hg2 (o3.ne ho (fun cur e => by simp at e)), hO.kept hg2 (hO.ne ho (fun cur e => by simp at e)), m1.kept hg2 (by simp)⟩
  rw [heap_setCell_obj ho]
  rfl
end

section
variable {B : Nat} {w wr w5 w6 : World} {o : Nat} {At : Option Addr} {ct : Nat} {ts : List Trace} {bA : Option Addr} {bn bc : Nat} {m : List (Place × Bool)} {am : List (Place × Admit)} {pp : List Place} {Ap : Option Addr} {cp : Nat} {ps : List Place} {Ak : Option Addr} {ck : Nat} {ks : List Place}
theorem AskAt.last (h : AskAt B w w5 o At ct ts bA bn bc m am pp) (hOp : Own encPlace 2 37 B w5 Ap ps.length cp ps) (hOk : Own encPlace 2 37 (w5.setCell ⟨o, 2, none⟩ (.slice Ap ps.length cp)).heap.size w6 Ak ks.length ck ks)
    (hb6 : Below (w5.setCell ⟨o, 2, none⟩ (.slice Ap ps.length cp)).heap.size (w5.setCell ⟨o, 2, none⟩ (.slice Ap ps.length cp)) w6) : LastAt B w w6 o At ct ts bA bn bc Ap cp ps Ak ck ks am none 0 [] := by
  have hg := grownBy_setCell' w5 o 2 (.slice Ap ps.length cp)
  have hs := hg.size
  have hB := h.hB
  have ho : (w5.setCell ⟨o, 2, none⟩ (.slice Ap ps.length cp)).heap[o]? = some (.cells #[.slice At ts.length ct, .slice bA bn bc, .slice Ap ps.length cp, .slice none 0 0] 112 (0, 0)) := by
    rw [heap_setCell_obj h.obj]; rfl
  have hlt : o < (w5.setCell ⟨o, 2, none⟩ (.slice Ap ps.length cp)).heap.size := (Array.getElem?_eq_some_iff.1 ho).1
  exact ⟨(h.below.grown hg h.hB (fun k e => by cases e; exact h.ob)).trans (hb6.mono (by omega)), Nat.le_trans (by omega) hb6.size, h.ob, (hb6.block _ hlt).trans ho,
    (h.own.kept hg (h.own.ne h.obj (fun cur e => by simp at e))).below hb6 (Nat.le_refl _), (hOp.kept hg (hOp.ne h.obj (fun cur e => by simp at e))).below hb6 (Nat.le_refl _), hOk.mono (by omega), Own.none_ _ _ _ _ _,
    (h.ma.kept hg (by simp)).below hb6 (h.ma.kept hg (by simp)).lt⟩
theorem getM_key {am : List (Place × Admit)} {p : Place} (h : p ∈ am.map (·.1)) : ∃ v, getM am p = some v := by
  obtain ⟨q, hq, rfl⟩ := List.mem_map.1 h
  unfold getM
  cases hf : am.find? (fun x => decide (x.1 = q.1)) with
  | none => rw [List.find?_eq_none] at hf; exact absurd (by simp) (hf q hq)
  | some r => exact ⟨r.2, rfl⟩
theorem admitsOf_at {ts : List Trace} {j : Nat} {p : Place} (h : (sortPl ((admitM ts).map (·.1)))[j]? = some p) : ∃ v, getM (admitM ts) p = some v ∧ (admitsOf ts)[j]? = some v := by
  obtain ⟨v, hv⟩ := getM_key ((sortPl_perm _).mem_iff.1 (List.mem_of_getElem? h))
  exact ⟨v, hv, by unfold admitsOf; rw [List.getElem?_map, h]; simp [hv]⟩
theorem admitsOf_len (ts : List Trace) : (admitsOf ts).length = (sortPl ((admitM ts).map (·.1))).length := by simp [admitsOf]
end

theorem gcell {W w1 : World} {r : Nat} (hg : W.grownBy w1 (some r)) : (∀ b o, b < W.heap.size → ¬ b = r → w1.cell? ⟨b, o, none⟩ = W.cell? ⟨b, o, none⟩) ∧ (∀ b o, b < W.heap.size → ¬ b = r → w1.frozen? ⟨b, o, none⟩ = W.frozen? ⟨b, o, none⟩) := by
  constructor
  · intro b o h1 h2
    simp only [World.cell?, hg.block b h1 (by simpa using h2)]
  · intro b o h1 h2
    simp only [World.frozen?, hg.block b h1 (by simpa using h2)]
theorem plT_take {ts : List Trace} {j : Nat} {x : Trace} (hx : ts[j]? = some x) : (ts.take (j + 1)).flatMap plT = (ts.take j).flatMap plT ++ plT x := by
  rw [List.take_add_one, hx]; simp
theorem plB_take {ts : List Bond} {j : Nat} {x : Bond} (hx : ts[j]? = some x) : (ts.take (j + 1)).flatMap plB = (ts.take j).flatMap plB ++ plB x := by
  rw [List.take_add_one, hx]; simp
theorem adm_take {ts : List Trace} {j : Nat} {x : Trace} (hx : ts[j]? = some x) : admitM (ts.take (j + 1)) = admStep (admitM (ts.take j)) x := by
  rw [List.take_add_one, hx]; exact admitM_snoc _ _

end Go.Proofs.YtelnkflmnbhclaaGreat

/- Contracts that the law leans on: ChpM, CmpF, Tab. -/
import Derived.Test.YtelnkflmnbhclaaGreatG13
import Derived.OrdersIn
import Derived.StillTail
import Derived.TacticsIn
import Derived.WalkKit
/- What is proved: the plain function of the cheapest sets, and what it gives. Conditions: the places differ. -/
section
namespace Go.Proofs.YtelnkflmnbhclaaGreat
open Go.RowKit Go.Proofs Go.Shelf

def chpStep (ads : List Admit) (en : List Place → Bool) (st : Int × List (List Place)) (bits : Nat) : Int × List (List Place) :=
  if st.2 ≠ [] ∧ st.1 < (setTo ads bits ads.length).2 then st else if en (setTo ads bits ads.length).1 = false then st else
    ((setTo ads bits ads.length).2, (if st.2 ≠ [] ∧ (setTo ads bits ads.length).2 < st.1 then [] else st.2) ++ [(setTo ads bits ads.length).1])
def chpTo (ads : List Admit) (en : List Place → Bool) : Nat → Int × List (List Place)
  | 0 => (0, [])
  | k + 1 => chpStep ads en (chpTo ads en k) k
def cheapestM (ads : List Admit) (en : List Place → Bool) : Int × List (List Place) := ((chpTo ads en (2 ^ ads.length)).1, sortLx (chpTo ads en (2 ^ ads.length)).2)

/-- what is known of the sets of the first numbers -/
structure ChpInv (ads : List Admit) (en : List Place → Bool) (K : Nat) (st : Int × List (List Place)) : Prop where
  from_ : ∀ x ∈ st.2, ∃ b, b < K ∧ x = (setTo ads b ads.length).1 ∧ (setTo ads b ads.length).2 = st.1 ∧ en x = true
  all : ∀ b, b < K → en (setTo ads b ads.length).1 = true → st.2 ≠ [] ∧ st.1 ≤ (setTo ads b ads.length).2 ∧ ((setTo ads b ads.length).2 = st.1 → (setTo ads b ads.length).1 ∈ st.2)
theorem chpInv (ads : List Admit) (en : List Place → Bool) : ∀ K, ChpInv ads en K (chpTo ads en K)
  | 0 => ⟨fun _ h => by simp [chpTo] at h, fun b h => absurd h (Nat.not_lt_zero b)⟩
  | K + 1 => by
    have ih := chpInv ads en K
    rw [chpTo]
    rcases hst : chpTo ads en K with ⟨l, out⟩
    rw [hst] at ih
    obtain ⟨h1, h2⟩ := ih
    simp only at h1 h2
    obtain ⟨⟨s, c⟩, hs⟩ : ∃ p, setTo ads K ads.length = p := ⟨_, rfl⟩
    unfold chpStep
    simp only [hs]
    by_cases g1 : out ≠ [] ∧ l < c
    · rw [if_pos g1]
      refine ⟨fun x hx => ?_, fun b hb he => ?_⟩
      · obtain ⟨b, a1, a2⟩ := h1 x hx
        exact ⟨b, by omega, a2⟩
      · by_cases e : b = K
        · subst e
          rw [hs]
          exact ⟨g1.1, by simp only; omega, fun h => by simp only at h; omega⟩
        · exact h2 b (by omega) he
    · rw [if_neg g1]
      by_cases g2 : en s = false
      · rw [if_pos g2]
        refine ⟨fun x hx => ?_, fun b hb he => ?_⟩
        · obtain ⟨b, a1, a2⟩ := h1 x hx
          exact ⟨b, by omega, a2⟩
        · by_cases e : b = K
          · subst e
            rw [hs] at he
            simp only at he
            rw [g2] at he; cases he
          · exact h2 b (by omega) he
      · rw [if_neg g2]
        have g2' : en s = true := by simpa using g2
        by_cases g3 : out ≠ [] ∧ c < l
        · rw [if_pos g3]
          refine ⟨fun x hx => ?_, fun b hb he => ?_⟩
          · have : x = s := by simpa using hx
            subst this
            exact ⟨K, by omega, by rw [hs], by rw [hs], g2'⟩
          · by_cases e : b = K
            · subst e
              rw [hs]
              exact ⟨by simp, Int.le_refl _, fun _ => by simp⟩
            · have := h2 b (by omega) he
              exact ⟨by simp, by simp only; omega, fun h => by simp only at h; omega⟩
        · rw [if_neg g3]
          have hc : out ≠ [] → c = l := fun ho => by
            have a1 : ¬ l < c := fun e => g1 ⟨ho, e⟩
            have a2 : ¬ c < l := fun e => g3 ⟨ho, e⟩
            omega
          refine ⟨fun x hx => ?_, fun b hb he => ?_⟩
          · rcases List.mem_append.1 hx with hx | hx
            · obtain ⟨b, a1, a2, a3, a4⟩ := h1 x hx
              exact ⟨b, by omega, a2, by simp only; rw [hc (fun e => by rw [e] at hx; cases hx)]; exact a3, a4⟩
            · have : x = s := by simpa using hx
              subst this
              exact ⟨K, by omega, by rw [hs], by rw [hs], g2'⟩
          · by_cases e : b = K
            · subst e
              rw [hs]
              exact ⟨by simp, Int.le_refl _, fun _ => by simp⟩
            · obtain ⟨a1, a2, a3⟩ := h2 b (by omega) he
              have := hc a1
              refine ⟨by simp, by simp only; omega, fun h => ?_⟩
              simp only at h ⊢
              exact List.mem_append_left _ (a3 (by omega))

/-! ### the sets of different numbers differ -/
theorem bitOn_test : ∀ n, n < 256 → ∀ k, k < 8 → bitOn n k = n.testBit k := by decide +kernel
theorem setTo_mem {ads : List Admit} (hn : (ads.map (·.place)).Nodup) (b : Nat) : ∀ K, K ≤ ads.length → ∀ k x, ads[k]? = some x → (x.place ∈ (setTo ads b K).1 ↔ k < K ∧ bitOn b k = true)
  | 0, _, k, x, _ => by simp [setTo]
  | K + 1, hK, k, x, hx => by
    have ih := setTo_mem hn b K (by omega) k x hx
    have hy : ads[K]? = some ads[K] := List.getElem?_eq_getElem hK
    have hne : k ≠ K → x.place ≠ ads[K].place := fun h e => by
      obtain ⟨hk, hxe⟩ := List.getElem?_eq_some_iff.1 hx
      have h3 : (ads.map (·.place))[k]'(by simpa using hk) = (ads.map (·.place))[K]'(by rw [List.length_map]; exact hK) := by simp [hxe, e]
      exact h ((List.getElem_inj hn).1 h3)
    cases hb : bitOn b K with
    | true =>
      rw [setTo_on hy hb]
      simp only [List.mem_append, List.mem_singleton, ih]
      by_cases e : k = K
      · subst e
        rw [hy] at hx
        cases hx
        simp [hb]
      · constructor
        · rintro (⟨h1, h2⟩ | h)
          · exact ⟨by omega, h2⟩
          · exact absurd h (hne e)
        · rintro ⟨h1, h2⟩
          exact .inl ⟨by omega, h2⟩
    | false =>
      rw [setTo_off hy hb, ih]
      constructor
      · rintro ⟨h1, h2⟩; exact ⟨by omega, h2⟩
      · rintro ⟨h1, h2⟩
        refine ⟨?_, h2⟩
        have : k ≠ K := fun e => by subst e; rw [hb] at h2; cases h2
        omega
theorem setTo_inj {ads : List Admit} (hn : (ads.map (·.place)).Nodup) (h8 : ads.length ≤ 8) {a b : Nat} (ha : a < 2 ^ ads.length) (hb : b < 2 ^ ads.length) (h : (setTo ads a ads.length).1 = (setTo ads b ads.length).1) : a = b := by
  have h256 : 2 ^ ads.length ≤ 256 := Nat.pow_le_pow_right (by omega) h8
  apply Nat.eq_of_testBit_eq
  intro k
  by_cases hk : k < ads.length
  · have h1 := setTo_mem hn a _ (Nat.le_refl _) k _ (List.getElem?_eq_getElem hk)
    have h2 := setTo_mem hn b _ (Nat.le_refl _) k _ (List.getElem?_eq_getElem hk)
    rw [h, h2] at h1
    rw [← bitOn_test a (by omega) k (by omega), ← bitOn_test b (by omega) k (by omega)]
    cases e1 : bitOn a k <;> cases e2 : bitOn b k <;> simp_all
  · have p : 2 ^ ads.length ≤ 2 ^ k := Nat.pow_le_pow_right (by omega) (by omega)
    rw [Nat.testBit_lt_two_pow (by omega), Nat.testBit_lt_two_pow (by omega)]
theorem chpTo_nodup {ads : List Admit} (hn : (ads.map (·.place)).Nodup) (h8 : ads.length ≤ 8) (en : List Place → Bool) : ∀ K, K ≤ 2 ^ ads.length → (chpTo ads en K).2.Nodup
  | 0, _ => by simp [chpTo]
  | K + 1, hK => by
    have ih := chpTo_nodup hn h8 en K (by omega)
    have hinv := (chpInv ads en K).from_
    rw [chpTo]
    unfold chpStep
    split
    · exact ih
    · split
      · exact ih
      · split
        · simp
        · simp only
          rw [List.nodup_append]
          refine ⟨ih, by simp, fun x hx y hy e => ?_⟩
          obtain ⟨b, h1, h2, _⟩ := hinv x hx
          have hy' : y = (setTo ads K ads.length).1 := by simpa using hy
          have := setTo_inj hn h8 (a := b) (b := K) (by omega) (by omega) (by rw [← h2, ← hy', e])
          omega
theorem chpTo_len (ads : List Admit) (en : List Place → Bool) : ∀ K, (chpTo ads en K).2.length ≤ K
  | 0 => by simp [chpTo]
  | K + 1 => by
    have ih := chpTo_len ads en K
    rw [chpTo]
    unfold chpStep
    split
    · omega
    · split
      · omega
      · split
        · simp
        · simp; omega
end Go.Proofs.YtelnkflmnbhclaaGreat
end

/- What is proved: slices.CompareFunc at places, and slices.SortFunc at lists of places. Conditions: the lists differ. -/
section
namespace Go.Proofs.YtelnkflmnbhclaaGreat
open Go.RowKit Go.Proofs Go.Shelf Go.Sort

theorem Grew.rd {α : Type} {enc : α → List Value} {k : Nat} {w w' : World} {A : Option Addr} {n c : Nat} {xs : List α} (h : Rd enc k w A n c xs) (hg : Grew w w') : Rd enc k w' A n c xs := h.below hg.below (Nat.le_refl _)
set_option maxRecDepth 100000 in
set_option maxHeartbeats 2000000 in
theorem CompareFunc_any (A1 : Option Addr) (n1 c1 : Nat) (xs : List Place) (A2 : Option Addr) (n2 c2 : Nat) (ys : List Place) (w : World) (h1 : Rd encPlace 2 w A1 n1 c1 xs) (h2 : Rd encPlace 2 w A2 n2 c2 ys) :
    Calls Tryz.prog 137 #[.slice A1 n1 c1, .slice A2 n2 c2, .func (.func 128) #[] #[]] w fun e w' => e = .returned (.int .i64 (cmpLx xs ys)) ∧ Grew w w' := by
  have H1 := Lib.hid h1
  have H2 := Lib.hid h2
  have HL1 := Lib.hid h1.len
  have HL2 := Lib.hid h2.len
  have hbig1 := h1.big
  have hbig2 := h2.big
  clear h1 h2
  go_enter Tryz.func137, Tryz.ntmps137
  go_wp2
  go_loopw [13] (fun i wr => ∃ k : Nat, k ≤ n1 ∧ k ≤ n2 ∧ i = .int .i64 k ∧ Hid (Grew w wr) ∧ Hid (cmpLx xs ys = cmpLx (xs.drop k) (ys.drop k))) (fun i _ => n1 - (intOf i).toNat)
  case atStart => exact ⟨0, Nat.zero_le _, Nat.zero_le _, rfl, (show Grew w w from Grew.refl w), (show _ = _ from rfl)⟩
  case round =>
    obtain ⟨k, hk1, hk2, rfl, hg, hc⟩ := hrel
    by_cases hlt : k < n1
    · obtain ⟨b, off, x, rfl, hbw, hx, hcell⟩ := (Grew.rd H1.out hg.out).one hlt
      have c0 : wr.cell? ⟨b, off + k * 2, none⟩ = some (.int .i64 x.pit) := hcell 0 _ rfl
      have c1' : wr.cell? ⟨b, off + k * 2 + 1, none⟩ = some (.int .i64 x.layer) := hcell 1 _ rfl
      have hdx : xs.drop k = x :: xs.drop (k + 1) := by rw [List.drop_eq_getElem_cons (by rw [HL1.out]; exact hlt)]; rw [(List.getElem?_eq_some_iff.1 hx).2]
      by_cases hlt2 : k < n2
      · obtain ⟨b2, off2, y, rfl, hbw2, hy, hcell2⟩ := (Grew.rd H2.out hg.out).one hlt2
        have d0 : wr.cell? ⟨b2, off2 + k * 2, none⟩ = some (.int .i64 y.pit) := hcell2 0 _ rfl
        have d1 : wr.cell? ⟨b2, off2 + k * 2 + 1, none⟩ = some (.int .i64 y.layer) := hcell2 1 _ rfl
        have hdy : ys.drop k = y :: ys.drop (k + 1) := by rw [List.drop_eq_getElem_cons (by rw [HL2.out]; exact hlt2)]; rw [(List.getElem?_eq_some_iff.1 hy).2]
        have hstep := hc.out
        rw [hdx, hdy, cmpLx] at hstep
        obtain ⟨v, hv⟩ : ∃ v, comparePl x y = v := ⟨_, rfl⟩
        rw [hv] at hstep
        have HST := Lib.hid hstep
        have HV := Lib.hid hv
        clear hcell hcell2 hx hy hdx hdy hstep hv
        by_cases hv0 : v = 0
        · have hv1 : (v != 0) = false := by simpa using hv0
          go_wp2_with ((first | go_at_call 128 | go_at_fn 128); (refine (compare_any _ _ _ _ _).mono ?_; rintro e w5 ⟨rfl, hg5⟩; rw [show comparePl ⟨x.pit, x.layer⟩ ⟨y.pit, y.layer⟩ = v from HV.out]; have HG5 := Lib.hid hg5; clear hg5))
          go_roundw
          all_goals first
            | (simp [intOf]; omega)
            | exact ⟨k + 1, by omega, by omega, by go_num, (show Grew _ _ from ((hg.out.alloc _).alloc _).trans HG5.out), (show _ = _ by rw [HST.out, if_neg (by simpa using hv0)])⟩
        · have hv1 : (v != 0) = true := by simpa using hv0
          go_wp2_with ((first | go_at_call 128 | go_at_fn 128); (refine (compare_any _ _ _ _ _).mono ?_; rintro e w5 ⟨rfl, hg5⟩; rw [show comparePl ⟨x.pit, x.layer⟩ ⟨y.pit, y.layer⟩ = v from HV.out]; have HG5 := Lib.hid hg5; clear hg5))
          go_ret
          exact ⟨retI (by rw [HST.out, if_pos hv0]), ((hg.out.alloc _).alloc _).trans HG5.out⟩
      · have hke : k = n2 := by omega
        subst hke
        have hdy : ys.drop k = [] := List.drop_eq_nil_of_le (by rw [HL2.out]; exact Nat.le_refl _)
        have hstep := hc.out
        rw [hdx, hdy, cmpLx] at hstep
        have HST := Lib.hid hstep
        clear hcell hx hdx hdy hstep
        go_wp2
        go_ret
        exact ⟨retI HST.out.symm, hg.out.alloc _⟩
    · have hke : k = n1 := by omega
      subst hke
      have hdx : xs.drop k = [] := List.drop_eq_nil_of_le (by rw [HL1.out]; exact Nat.le_refl _)
      by_cases hlt2 : k < n2
      · obtain ⟨y, hy⟩ : ∃ y, ys[k]? = some y := ⟨_, List.getElem?_eq_getElem (by rw [HL2.out]; exact hlt2)⟩
        have hdy : ys.drop k = y :: ys.drop (k + 1) := by rw [List.drop_eq_getElem_cons (by rw [HL2.out]; exact hlt2)]; rw [(List.getElem?_eq_some_iff.1 hy).2]
        have hstep := hc.out
        rw [hdx, hdy, cmpLx] at hstep
        have HST := Lib.hid hstep
        clear hdx hdy hstep hy
        go_wp2
        go_ret
        exact ⟨retI HST.out.symm, hg.out⟩
      · have hke : k = n2 := by omega
        subst hke
        have hdy : ys.drop k = [] := List.drop_eq_nil_of_le (by rw [HL2.out]; exact Nat.le_refl _)
        have hstep := hc.out
        rw [hdx, hdy, cmpLx] at hstep
        have HST := Lib.hid hstep
        clear hdx hdy hstep
        go_wp2
        go_ret
        exact ⟨retI HST.out.symm, hg.out⟩
theorem cheap1_any (A1 : Option Addr) (n1 c1 : Nat) (xs : List Place) (A2 : Option Addr) (n2 c2 : Nat) (ys : List Place) (w : World) (h1 : Rd encPlace 2 w A1 n1 c1 xs) (h2 : Rd encPlace 2 w A2 n2 c2 ys) :
    Calls Tryz.prog 136 #[.slice A1 n1 c1, .slice A2 n2 c2] w fun e w' => e = .returned (.int .i64 (cmpLx xs ys)) ∧ Grew w w' := by
  have HC := Lib.hid (CompareFunc_any A1 n1 c1 xs A2 n2 c2 ys w h1 h2)
  clear h1 h2
  go_enter Tryz.func136, Tryz.ntmps136
  go_wp2_with (go_at_call 137; ((with_reducible refine HC.out.mono ?_); rintro e w5 ⟨rfl, hg5⟩))
  go_ret
  exact ⟨rfl, hg5⟩
end Go.Proofs.YtelnkflmnbhclaaGreat
end

/- What is proved: a region that draws its order, in whatever fence (a loop round's too): where every operation yields the value of a table, whatever order, and the world goes by which operations are done, one end serves every order. Conditions: none. -/
section
namespace Go.Proofs.YtelnkflmnbhclaaGreat
open Go.RowKit Go.Proofs
section
variable {P : Program} {F : Fence} {nn : Nat} {ops : Array Oper} {V : Nat → Value} {a0 : Act}

def dstOf (ops : Array Oper) (j : Nat) : Option Tmp := (ops[j]?).bind (·.dst)
structure TabAt (ops : Array Oper) (V : Nat → Value) (a0 : Act) (listed : Array Bool) (a : Act) : Prop where
  size : listed.size = ops.size
  closed : ∀ j o, ops[j]? = some o → listed.getD j false = true → ∀ e ∈ o.after, Region.binds .any e = true → listed.getD e.on false = true
  tsize : a.tmps.size = a0.tmps.size
  defers : a.defers = a0.defers
  val : ∀ j d, dstOf ops j = some d → listed.getD j false = true → a.tmps.getD d undef = V j
  old : ∀ d, (∀ j, dstOf ops j ≠ some d) → a.tmps.getD d undef = a0.tmps.getD d undef

/-- what is closed of the operations: no guard, no 'defer', edges go back, each slot is written once and is there -/
def tabOk (ops : Array Oper) (m : Nat) : Bool :=
  (List.range ops.size).all fun j => match ops[j]? with
    | none => true
    | some o => o.guard.isNone && (match o.op with | .defer _ => false | _ => true) && o.after.all (fun e => !Region.binds .any e || decide (e.on < j)) &&
      (match o.dst with
       | none => true
       | some d => decide (d < m) && (List.range ops.size).all fun k => k == j || dstOf ops k != some d)

theorem tabOk_at {m : Nat} (h : tabOk ops m = true) {j : Nat} {o : Oper} (hj : ops[j]? = some o) :
    o.guard = none ∧ (∀ c, o.op ≠ .defer c) ∧ (∀ e ∈ o.after, Region.binds .any e = true → e.on < j) ∧ ∀ d, o.dst = some d → d < m ∧ ∀ k, k < ops.size → k ≠ j → dstOf ops k ≠ some d := by
  have hlt : j < ops.size := (Array.getElem?_eq_some_iff.1 hj).1
  have h1 := List.all_eq_true.1 h j (List.mem_range.2 hlt)
  simp only [hj, Bool.and_eq_true] at h1
  obtain ⟨⟨⟨g, df⟩, ed⟩, ds⟩ := h1
  refine ⟨by simpa using g, fun c hc => (by rw [hc] at df; cases df), fun e he hb => ?_, fun d hd => ?_⟩
  · have := Array.all_eq_true_iff_forall_mem.1 ed e he
    simpa [hb] using this
  · rw [hd] at ds
    simp only [Bool.and_eq_true, decide_eq_true_eq] at ds
    refine ⟨ds.1, fun k hk hkj => ?_⟩
    have := List.all_eq_true.1 ds.2 k (List.mem_range.2 hk)
    simp only [Bool.or_eq_true, beq_iff_eq, bne_iff_ne] at this
    rcases this with h | h
    · exact absurd h hkj
    · exact h

def left (listed : Array Bool) : Nat := (listed.toList.filter (fun b => !b)).length
theorem filter_set {l : List Bool} : ∀ {i : Nat}, l[i]? = some false → (l.filter (fun b => !b)).length = ((l.set i true).filter (fun b => !b)).length + 1 := by
  induction l with
  | nil => intro i h; simp at h
  | cons x l ih =>
    intro i h
    cases i with
    | zero =>
      simp only [List.getElem?_cons_zero, Option.some.injEq] at h
      subst h
      simp
    | succ i =>
      simp only [List.getElem?_cons_succ] at h
      have := ih h
      cases x <;> simp [this]
theorem left_set {listed : Array Bool} {i : Nat} (hi : listed[i]? = some false) : left listed = left (listed.setIfInBounds i true) + 1 := by
  unfold left
  rw [Array.toList_setIfInBounds]
  exact filter_set (by simpa using hi)
theorem left_zero {listed : Array Bool} (h : left listed = 0) : listed = Array.replicate listed.size true := by
  unfold left at h
  have h1 : listed.toList.filter (fun b => !b) = [] := List.eq_nil_of_length_eq_zero h
  rw [List.filter_eq_nil_iff] at h1
  apply Array.ext
  · simp
  · intro i h2 h3
    have := h1 listed[i] (by simp)
    simpa using this
theorem left_pos {listed : Array Bool} (h : 0 < left listed) : ∃ i : Nat, listed[i]? = some false ∧ ∀ j : Nat, j < i → listed[j]? = some true := by
  obtain ⟨x, hx⟩ : ∃ i : Nat, listed[i]? = some false := by
    unfold left at h
    obtain ⟨b, hb⟩ := List.exists_mem_of_length_pos h
    rw [List.mem_filter] at hb
    obtain ⟨i, hi, he⟩ := List.getElem_of_mem hb.1
    have hbf : b = false := by simpa using hb.2
    subst hbf
    exact ⟨i, by rw [Array.getElem?_eq_getElem (by simpa using hi)]; simpa using he⟩
  induction x using Nat.strongRecOn with
  | _ x ih =>
    by_cases hq : ∃ j, j < x ∧ listed[j]? = some false
    · obtain ⟨j, hj, hj2⟩ := hq
      exact ih j hj hj2
    · refine ⟨x, hx, fun j hj => ?_⟩
      have hjs : j < listed.size := by have := (Array.getElem?_eq_some_iff.1 hx).1; omega
      rw [Array.getElem?_eq_getElem hjs]
      cases hv : listed[j] with
      | true => rfl
      | false => exact absurd ⟨j, hj, by rw [Array.getElem?_eq_getElem hjs, hv]⟩ hq

theorem TabAt.set {m i : Nat} {o : Oper} {listed : Array Bool} {b : Act} (hok : tabOk ops m = true) (hm : m = a0.tmps.size) (h : TabAt ops V a0 listed b) (hi : i ∈ Region.ready .any ops listed) (ho : ops[i]? = some o) :
    TabAt ops V a0 (listed.setIfInBounds i true) (b.put o.dst (V i)) := by
  obtain ⟨hun, oi, hoi, hall⟩ := mem_ready.1 hi
  have : oi = o := Option.some.inj (hoi.symm.trans ho)
  subst this
  obtain ⟨_, _, _, hd⟩ := tabOk_at hok ho
  have hput : ∀ d, oi.dst ≠ some d → (b.put oi.dst (V i)).tmps.getD d undef = b.tmps.getD d undef := by
    intro d hne
    cases hdst : oi.dst with
    | none => rfl
    | some d' =>
      have hdd : d' ≠ d := fun e => hne (by rw [hdst, e])
      simp only [Act.put, Array.getD_eq_getD_getElem?, Array.getElem?_setIfInBounds_ne hdd]
  refine ⟨by simp [h.size], fun j oj hj hl e he hb => ?_, ?_, ?_, fun j d hjd hl => ?_, fun d hno => ?_⟩
  · by_cases hij : i = j
    · subst hij
      have : oj = oi := Option.some.inj (hj.symm.trans ho)
      subst this
      exact getD_set_true (hall e he hb)
    · rw [getD_set_ne false hij] at hl
      exact getD_set_true (h.closed j oj hj hl e he hb)
  · rw [← h.tsize]; cases oi.dst <;> simp [Act.put]
  · rw [← h.defers]; cases oi.dst <;> rfl
  · by_cases hij : i = j
    · subst hij
      have hdd : oi.dst = some d := by simpa [dstOf, ho] using hjd
      obtain ⟨hlt, _⟩ := hd d hdd
      have : d < b.tmps.size := by rw [h.tsize, ← hm]; exact hlt
      simp [Act.put, hdd, this]
    · rw [getD_set_ne false hij] at hl
      rw [hput d, h.val j d hjd hl]
      intro hdd
      have hjs : j < ops.size := by
        rcases Nat.lt_or_ge j ops.size with h | h
        · exact h
        · simp [dstOf, Array.getElem?_eq_none h] at hjd
      exact (hd d hdd).2 j hjs (Ne.symm hij) hjd
  · rw [hput d (fun e => hno i (by simp [dstOf, ho, e])), h.old d hno]

theorem wpAnyIn_tab {Q : Exit → Act → World → Prop} {m : Nat} (hF : ∀ f, F.fn f) (hok : tabOk ops m = true) (hm : m = a0.tmps.size) (Wf : Array Bool → World)
    (hrun : ∀ listed i o b, i ∈ Region.ready .any ops listed → ops[i]? = some o → TabAt ops V a0 listed b →
      (execOp b.eval o).run P (Wf listed) = .ok (.value (V i)) (Wf (listed.setIfInBounds i true)) ∨ ((execOp b.eval o).run P (Wf listed) = .ok .skip (Wf (listed.setIfInBounds i true)) ∧ V i = undef))
    (hend : ∀ b, TabAt ops V a0 (Array.replicate ops.size true) b → Q .normal b (Wf (Array.replicate ops.size true))) :
    ∀ (fuel : Nat) (listed : Array Bool) (b : Act), left listed = fuel → TabAt ops V a0 listed b → wpAnyIn F nn P .any ops Q fuel listed b (Wf listed) := by
  intro fuel
  induction fuel with
  | zero =>
    intro listed b hl h
    have hall := left_zero hl
    rw [h.size] at hall
    refine ⟨?_, by rw [hall]; exact hend b (hall ▸ h)⟩
    apply List.eq_nil_iff_forall_not_mem.2
    intro i hi
    obtain ⟨hun, o, ho, _⟩ := mem_ready.1 hi
    have hlt : i < ops.size := (Array.getElem?_eq_some_iff.1 ho).1
    rw [hall] at hun
    simp [hlt] at hun
  | succ fuel ih =>
    intro listed b hl h
    refine ⟨fun hnil => ?_, fun i hi => ?_⟩
    · obtain ⟨i, hi, hmin⟩ := left_pos (listed := listed) (by omega)
      have hlt : i < ops.size := by rw [← h.size]; exact (Array.getElem?_eq_some_iff.1 hi).1
      have ho : ops[i]? = some ops[i] := Array.getElem?_eq_getElem hlt
      obtain ⟨_, _, hed, _⟩ := tabOk_at hok ho
      have : i ∈ Region.ready .any ops listed := mem_ready.2 ⟨by simp [hi], ops[i], ho, fun e he hbd => by have := hmin e.on (hed e he hbd); simp [this]⟩
      rw [hnil] at this
      cases this
    · obtain ⟨hun, o, ho, hall⟩ := mem_ready.1 hi
      obtain ⟨hg, hdf, _, _⟩ := tabOk_at hok ho
      have hlt : i < listed.size := by rw [h.size]; exact (Array.getElem?_eq_some_iff.1 ho).1
      have hf : listed[i]? = some false := by
        rw [Array.getElem?_eq_getElem hlt]
        simp [hlt] at hun
        rw [hun]
      have hl' : left (listed.setIfInBounds i true) = fuel := by have := left_set hf; omega
      have hnext := ih _ _ hl' (h.set hok hm hi ho)
      have hw : Region.wanted o (yielded ops b.tmps) = true := by simp [Region.wanted, hg]
      unfold wpOpIn
      simp only [ho, hw, if_true]
      refine ⟨fun f _ => hF f, ?_⟩
      rw [Oper.semAt_eq _ _ _ hdf]
      rcases hrun listed i o b hi ho h with hr | ⟨hr, hv⟩
      · rw [hr]; exact hnext
      · rw [hr]; rw [hv] at hnext; exact hnext

theorem wpIn_region_tab {id : Nat} {l : List Oper} {Q : Exit → Act → World → Prop} {a : Act} {w : World} (hm : P.follows .mixedOrders = true) (hF : ∀ f, F.fn f) (V : Nat → Value) (Wf : Array Bool → World) (hok : tabOk l.toArray a.tmps.size = true)
    (h0 : Wf (Array.replicate l.toArray.size false) = w.drew)
    (hrun : ∀ listed i o b, i ∈ Region.ready .any l.toArray listed → l.toArray[i]? = some o → TabAt l.toArray V a listed b →
      (execOp b.eval o).run P (Wf listed) = .ok (.value (V i)) (Wf (listed.setIfInBounds i true)) ∨ ((execOp b.eval o).run P (Wf listed) = .ok .skip (Wf (listed.setIfInBounds i true)) ∧ V i = undef))
    (hend : ∀ b, TabAt l.toArray V a (Array.replicate l.toArray.size true) b → Q .normal b (Wf (Array.replicate l.toArray.size true))) :
    (Code.region id l.toArray true).wpIn F nn P Q a w := by
  refine wpIn_region_any hm ?_
  have hw : ({ w with drawn := w.drawn + 1 } : World) = Wf (Array.replicate l.toArray.size false) := h0.symm
  rw [hw]
  refine wpAnyIn_tab hF hok rfl Wf hrun hend _ _ _ ?_ ⟨by simp, fun j o _ hl => ?_, rfl, rfl, fun j d _ hl => ?_, fun _ _ => rfl⟩
  · have h2 : ∀ k, (List.filter (fun b => !b) (List.replicate k false)).length = k := by
      intro k
      rw [List.filter_eq_self.2 (fun b hb => by rw [List.eq_of_mem_replicate hb]; rfl), List.length_replicate]
    unfold left
    rw [Array.toList_replicate]
    exact h2 _
  · rw [getD_replicate_false] at hl; cases hl
  · rw [getD_replicate_false] at hl; cases hl
end
end Go.Proofs.YtelnkflmnbhclaaGreat
end

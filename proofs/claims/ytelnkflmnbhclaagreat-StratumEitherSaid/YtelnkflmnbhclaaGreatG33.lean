/- What is proved: the contract of with: the order, its years, or why there are none. Conditions: none. -/
import Derived.Test.YtelnkflmnbhclaaGreatG32
import Derived.Test.YtelnkflmnbhclaaGreatG13
namespace Go.Proofs.YtelnkflmnbhclaaGreat
open Go.RowKit Go.Proofs Go.Shelf

def YearsV (B : Nat) (W : World) (ps : List Place) (L : List Link) (a : Array Value) : Prop :=
  ∃ Ab cb Al cl mb, a = #[.int .i64 (ps.length + 1), .slice Ab L.length cb, .slice Al L.length cl, .map (some mb)] ∧ Own encBound 4 186 B W Ab L.length cb (L.map (boundOf (ptsM ps ps.length))) ∧ Own encLink 6 74 B W Al L.length cl L ∧ MapP intE W mb (ptsM ps ps.length) ∧ B ≤ mb
theorem okLT_of {x : Trace} (h : checkTrace x = 0) (h4 : x.kind ≠ 4) : okLT x := by
  unfold checkTrace at h
  by_cases hx : (okT x && eqTrace x (yT x)) = true
  · simp only [Bool.and_eq_true] at hx
    obtain ⟨hx, hy⟩ := hx
    have hlow : x.kind ≠ 2 → x.low = 0 := fun h2 => by
      have : x = yT x := by
        unfold eqTrace at hy
        simpa using hy
      have h3 := congrArg Trace.low this
      simpa [yT, h2] using h3
    unfold okT at hx
    simp only [Bool.and_eq_true] at hx
    obtain ⟨⟨_, h2⟩, h3⟩ := hx
    by_cases k1 : x.kind = 1
    · exact ⟨.inl k1, by rw [hlow (by omega)]; decide⟩
    · by_cases k2 : x.kind = 2
      · rw [if_neg k1, if_pos k2] at h3
        simp only [inB, Bool.and_eq_true, decide_eq_true_eq] at h3
        refine ⟨.inr (.inl k2), ?_⟩
        rw [IntKind.wrap_i64]
        omega
      · by_cases k3 : x.kind = 3
        · exact ⟨.inr (.inr k3), by rw [hlow k2]; decide⟩
        · rw [if_neg k1, if_neg k2, if_neg k3] at h3
          exact absurd (by simpa using h3) h4
  · rw [if_neg hx] at h
    cases h
theorem okLT_counting {l : List Trace} {known : Int} (h : (check l).2 = 0) : ∀ x ∈ counting l known, okLT x := by
  intro x hx
  unfold counting at hx
  rw [List.mem_filter] at hx
  obtain ⟨hm, hp⟩ := hx
  obtain ⟨i, hi⟩ := List.mem_iff_getElem?.1 hm
  have hf := check_ok h i x hi
  refine okLT_of ?_ ?_
  · unfold follows at hf
    split at hf
    · cases hf
    · split at hf
      · cases hf
      · rename_i hc
        simpa using hc
  · intro h4
    unfold pc at hp
    simp [h4] at hp
theorem askErr_sizes {l : List Trace} {known : Int} {bs : List Bond} (he : askErr l known bs = 0) : (placesOf (counting l known) bs).length ≤ 50 ∧ (admitsOf (counting l known)).length ≤ 8 := by
  unfold askErr at he
  split at he
  · rename_i h; exact absurd he h
  · split at he
    · rename_i h; exact absurd he h
    · split at he
      · cases he
      · rename_i h
        refine ⟨?_, ?_⟩
        · unfold placesOf; rw [(sortPl_perm _).length_eq]; omega
        · rw [admitsOf_len, (sortPl_perm _).length_eq, List.length_map]; omega
theorem YearAt.over {W : World} {r : Nat} {v0 v1 v2 v3 : Value} (h : YearAt W r v0 v1 v2 v3) (u0 u1 u2 u3 : Value) : YearAt ((((W.setCell ⟨r, 0, none⟩ u0).setCell ⟨r, 1, none⟩ u1).setCell ⟨r, 2, none⟩ u2).setCell ⟨r, 3, none⟩ u3) r u0 u1 u2 u3 :=
  ⟨by rw [heap_setCell_obj (heap_setCell_obj (heap_setCell_obj (heap_setCell_obj h.at_)))]; rfl⟩
theorem below_over {B r : Nat} {w0 W : World} (h : Below B w0 W) (hr : B ≤ r) (u0 u1 u2 u3 : Value) : Below B w0 ((((W.setCell ⟨r, 0, none⟩ u0).setCell ⟨r, 1, none⟩ u1).setCell ⟨r, 2, none⟩ u2).setCell ⟨r, 3, none⟩ u3) :=
  (((h.setCell (p := ⟨r, 0, none⟩) hr _).setCell (p := ⟨r, 1, none⟩) hr _).setCell (p := ⟨r, 2, none⟩) hr _).setCell (p := ⟨r, 3, none⟩) hr _
theorem YearsV.out {B : Nat} {W : World} {ps : List Place} {L : List Link} {a : Array Value} (h : YearsV B W ps L a) {r : Nat} {v0 v1 v2 v3 : Value} (hr : YearAt W r v0 v1 v2 v3) {B' : Nat} (hB : B' ≤ B) (u0 u1 u2 u3 : Value) :
    YearsV B' ((((W.setCell ⟨r, 0, none⟩ u0).setCell ⟨r, 1, none⟩ u1).setCell ⟨r, 2, none⟩ u2).setCell ⟨r, 3, none⟩ u3) ps L a := by
  obtain ⟨Ab, cb, Al, cl, mb, ha, h1, h2, h3, h4⟩ := h
  have hs : ∀ (W : World) (i : Nat) (v : Value), W.grownBy (W.setCell ⟨r, i, none⟩ v) (some r) := fun W i v => grownBy_setCell' W _ i v
  have n1 : Al = none ∨ blockOf Al ≠ some r := h2.ne hr.at_ (fun cur e => by injection e with _ h _; cases h)
  have n2 : Ab = none ∨ blockOf Ab ≠ some r := h1.ne hr.at_ (fun cur e => by injection e with _ h _; cases h)
  have n3 : mb ≠ r := (hr.not_map h3).symm
  exact ⟨Ab, cb, Al, cl, mb, ha, ((((h1.kept (hs _ _ _) n2).kept (hs _ _ _) n2).kept (hs _ _ _) n2).kept (hs _ _ _) n2).mono hB, ((((h2.kept (hs _ _ _) n1).kept (hs _ _ _) n1).kept (hs _ _ _) n1).kept (hs _ _ _) n1).mono hB,
    (((h3.setCell _ _ n3).setCell _ _ n3).setCell _ _ n3).setCell _ _ n3, Nat.le_trans hB h4⟩
theorem OrdAt.kept {B o : Nat} {W W' : World} {bA : Option Addr} {bn bc : Nat} {ts : List Trace} {ps : List Place} {ads : List Admit} (h : OrdAt B W o bA bn bc ts ps ads) {r : Nat} (hg : W.grownBy W' (some r)) {v0 v1 v2 v3 : Value} (hr : YearAt W r v0 v1 v2 v3) : OrdAt B W' o bA bn bc ts ps ads := by
  obtain ⟨ho, At, ct, Ap, cp, Aa, ca, h1, h2, h3, h4⟩ := h
  have hno : o ≠ r := fun e => by rw [e, hr.at_] at h1; injection h1 with h1; injection h1 with _ h _; cases h
  exact ⟨ho, At, ct, Ap, cp, Aa, ca, (hg.block _ (Array.getElem?_eq_some_iff.1 h1).1 (fun e => hno (Option.some.inj e))).trans h1, h2.kept hg (h2.ne hr.at_ (fun cur e => by injection e with _ h _; cases h)), h3.kept hg (h3.ne hr.at_ (fun cur e => by injection e with _ h _; cases h)), h4.kept hg (h4.ne hr.at_ (fun cur e => by injection e with _ h _; cases h))⟩
theorem OrdAt.below {B B' o : Nat} {W W' : World} {bA : Option Addr} {bn bc : Nat} {ts : List Trace} {ps : List Place} {ads : List Admit} (h : OrdAt B W o bA bn bc ts ps ads) (hb : Below W.heap.size W W') (hB : B' ≤ B) : OrdAt B' W' o bA bn bc ts ps ads := by
  obtain ⟨ho, At, ct, Ap, cp, Aa, ca, h1, h2, h3, h4⟩ := h
  exact ⟨Nat.le_trans hB ho, At, ct, Ap, cp, Aa, ca, (hb.block _ (Array.getElem?_eq_some_iff.1 h1).1).trans h1, (h2.below hb (Nat.le_refl _)).mono hB, (h3.below hb (Nat.le_refl _)).mono hB, (h4.below hb (Nat.le_refl _)).mono hB⟩
theorem OrdAt.over {B B' o : Nat} {W : World} {bA : Option Addr} {bn bc : Nat} {ts : List Trace} {ps : List Place} {ads : List Admit} (h : OrdAt B W o bA bn bc ts ps ads) {r : Nat} {v0 v1 v2 v3 : Value} (hr : YearAt W r v0 v1 v2 v3) (hB : B' ≤ B) (u0 u1 u2 u3 : Value) :
    OrdAt B' ((((W.setCell ⟨r, 0, none⟩ u0).setCell ⟨r, 1, none⟩ u1).setCell ⟨r, 2, none⟩ u2).setCell ⟨r, 3, none⟩ u3) o bA bn bc ts ps ads := by
  have r1 : YearAt (W.setCell ⟨r, 0, none⟩ u0) r u0 v1 v2 v3 := ⟨by rw [heap_setCell_obj hr.at_]; rfl⟩
  have r2 : YearAt ((W.setCell ⟨r, 0, none⟩ u0).setCell ⟨r, 1, none⟩ u1) r u0 u1 v2 v3 := ⟨by rw [heap_setCell_obj r1.at_]; rfl⟩
  have r3 : YearAt (((W.setCell ⟨r, 0, none⟩ u0).setCell ⟨r, 1, none⟩ u1).setCell ⟨r, 2, none⟩ u2) r u0 u1 u2 v3 := ⟨by rw [heap_setCell_obj r2.at_]; rfl⟩
  have h1 := (((h.kept (grownBy_setCell' W r 0 u0) hr).kept (grownBy_setCell' _ r 1 u1) r1).kept (grownBy_setCell' _ r 2 u2) r2).kept (grownBy_setCell' _ r 3 u3) r3
  obtain ⟨ho, At, ct, Ap, cp, Aa, ca, k1, k2, k3, k4⟩ := h1
  exact ⟨Nat.le_trans hB ho, At, ct, Ap, cp, Aa, ca, k1, k2.mono hB, k3.mono hB, k4.mono hB⟩
def withErr (l : List Trace) (known : Int) (bs : List Bond) (mv : List Place) : Int := if askErr l known bs ≠ 0 then askErr l known bs else admittedErr (admitsOf (counting l known)) mv
def zeroYears : Array Value := #[.int .i64 0, .slice none 0 0, .slice none 0 0, .map none]
theorem results_tct {P : Program} {fn : Func} {p u v : Tmp} {ty : TypeId} (h : fn.results = #[.tmp u, .cell p ty, .tmp v]) (tmps : Array Value) (w : World) (g : Nat) (t : TypeId) (cs : Array Value) (fr : Nat × Nat) (d : TypeDesc)
    (hp : tmps.getD p undef = .pointer (some ⟨g, 0, none⟩)) (hg : w.heap[g]? = some (.cells cs t fr))
    (hu : P.underlying ty = some d) (hd : (match d with | .struct _ | .array _ _ => true | _ => false) = true) (hi : (P.info? ty).map (·.size) = some cs.size) :
    (results fn tmps).run P w = .ok (.tuple #[tmps.getD u undef, .agg cs, tmps.getD v undef]) w := by
  have hp' : tmps[p]?.getD undef = .pointer (some ⟨g, 0, none⟩) := by simpa using hp
  simp [results, h, hp', asAddr, run_loadVar_row w g t ty cs fr d hg hu hd hi]

set_option maxRecDepth 100000 in
set_option maxHeartbeats 2000000 in
theorem with_any (A : Option Addr) (n c : Nat) (l : List Trace) (known : Int) (bA : Option Addr) (bn bc : Nat) (bs : List Bond) (M : Option Addr) (mn mc : Nat) (mv : List Place) (w : World) (hl : Rd encTrace 10 w A n c l) (hb : Rd encBond 5 w bA bn bc bs) (hm : Rd encPlace 2 w M mn mc mv) :
    Calls Tryz.prog 85 #[.slice A n c, .int .i64 known, .slice bA bn bc, .slice M mn mc] w fun e w' => ∃ p a, e = .returned (.tuple #[.pointer p, .agg a, .int .i64 (withErr l known bs mv)]) ∧ Below w.heap.size w w' ∧
      (withErr l known bs mv ≠ 0 → p = none ∧ a = zeroYears) ∧
      (withErr l known bs mv = 0 → ∃ o, p = some ⟨o, 0, none⟩ ∧ OrdAt w.heap.size w' o bA bn bc (counting l known) (placesOf (counting l known) bs) (admitsOf (counting l known)) ∧
        YearsV w.heap.size w' (placesOf (counting l known) bs) (linksL (counting l known) bs mv) a) := by
  obtain ⟨w1, hw1⟩ : ∃ w1, w.alloc (.cells zeroYears 120) = w1 := ⟨_, rfl⟩
  have hb1 : Below w.heap.size w w1 := (by rw [← hw1]; exact (Below.refl _ w).alloc (Nat.le_refl _) _)
  have hz1 : w1.heap.size = w.heap.size + 1 := (by rw [← hw1]; simp)
  have hr1 : YearAt w1 w.heap.size (.int .i64 0) (.slice none 0 0) (.slice none 0 0) (.map none) := (by rw [← hw1]; exact ⟨heap_alloc_new w _⟩)
  have hask := asked_any A n c l known bA bn bc bs w1 (hl.below hb1 (Nat.le_refl _)) (hb.below hb1 (Nat.le_refl _))
  have HASK := Lib.hid hask
  clear hask
  unfold zeroYears at hw1
  by_cases he : askErr l known bs = 0
  · have hck : (check l).2 = 0 ∧ checkBonds bs = 0 := by
      unfold askErr at he
      split at he
      · rename_i h; exact absurd he h
      · split at he
        · rename_i h; exact absurd he h
        · rename_i h1 h2; exact ⟨by simpa using h1, by simpa using h2⟩
    have hnl := check_small hck.1
    have hnb := checkBonds_small hck.2
    have hOk := okLT_counting (known := known) hck.1
    have hcl : (counting l known).length ≤ 140 := Nat.le_trans (List.length_filter_le _ _) hnl
    have HOK := Lib.hid hOk
    have HBL := Lib.hid hb.len
    obtain ⟨hps, hads⟩ := askErr_sizes he
    have he' : (askErr l known bs != 0) = false := by simpa using he
    have hwe : withErr l known bs mv = admittedErr (admitsOf (counting l known)) mv := by unfold withErr; rw [if_neg (by simpa using he)]
    rw [hwe]
    clear hck hwe hOk
    have HE := Lib.hid he
    rw [he] at HASK
    clear he he'
    obtain ⟨ee, hee⟩ : ∃ ee, admittedErr (admitsOf (counting l known)) mv = ee := ⟨_, rfl⟩
    rw [hee]
    have HEE := Lib.hid hee
    clear hee
    have hHB := Lib.hid hb
    have hHM := Lib.hid hm
    have hz : ∀ v : Int, (v != 0) = decide (v ≠ 0) := fun v => by by_cases h : v = 0 <;> simp [h]
    clear hb hm hl
    by_cases h2 : ee = 0
    · subst h2
      go_enter Tryz.func85, Tryz.ntmps85
      go_wp2_with (first
        | (go_at_call 72; refine HASK.out.mono ?_; rintro e w2 ⟨p, rfl, hb2, hp⟩
           obtain ⟨o, rfl, hOr⟩ := hp rfl
           obtain ⟨ho, At, ct, Ap, cp, Aa, ca, h1, h2o, h3o, h4o⟩ := id hOr
           have hlo := (Array.getElem?_eq_some_iff.1 h1).1
           have hr2 : YearAt w2 w.heap.size (.int .i64 0) (.slice none 0 0) (.slice none 0 0) (.map none) := ⟨(hb2.block _ (by omega)).trans hr1.at_⟩
           have HB2 := Lib.hid hb2
           have HOR := Lib.hid hOr
           have HH := Lib.hid h1
           have H2 := Lib.hid h2o
           have H3 := Lib.hid h3o
           have H4 := Lib.hid h4o
           clear h1 h2o h3o h4o hOr hp hb2)
        | (go_at_call 141
           refine (admitted_any o Aa (admitsOf (counting l known)).length ca (admitsOf (counting l known)) M mn mc mv w2 hlo (by simp [World.cell?, HH.out]) (H4.out.rd (fun _ => rfl) ?_) (hHM.out.below (hb1.trans (HB2.out.mono (by omega))) (Nat.le_refl _))).mono ?_
           rotate_left
           rintro e w3 ⟨rfl, hb3⟩
           rw [HEE.out]
           have hr3 : YearAt w3 w.heap.size (.int .i64 0) (.slice none 0 0) (.slice none 0 0) (.map none) := ⟨(hb3.block _ hr2.lt).trans hr2.at_⟩
           obtain ⟨r0, r1, r2, r3, rf⟩ := hr3.cell
           have rf0 := rf 0
           have rf1 := rf 1
           have rf2 := rf 2
           have rf3 := rf 3
           have HB3 := Lib.hid hb3
           clear hb3)
        | (go_at_call 75
           have hhe := HB3.out.block _ hlo
           have hq : ∀ j, w3.cell? ⟨o, j, none⟩ = w2.cell? ⟨o, j, none⟩ := fun j => HB3.out.cell (p := ⟨o, j, none⟩) hlo
           have hbb := (hb1.trans (HB2.out.mono (by omega))).trans (HB3.out.mono (show w.heap.size ≤ w2.heap.size by have := hr2.lt; omega))
           refine (years_any o At (counting l known).length ct bA bn bc Ap (placesOf (counting l known) bs).length cp M mn mc (counting l known) bs (placesOf (counting l known) bs) mv w3 ((hq 0).trans (by simp [World.cell?, HH.out])) ((hq 1).trans (by simp [World.cell?, HH.out])) ((hq 2).trans (by simp [World.cell?, HH.out]))
             ((H2.out.below HB3.out (Nat.le_refl _)).rd (fun _ => rfl) (by omega)) (hHB.out.below hbb (Nat.le_refl _)) ((H3.out.below HB3.out (Nat.le_refl _)).rd (fun _ => rfl) ?_) (hHM.out.below hbb (Nat.le_refl _)) HOK.out (by omega) (by have := HBL.out; omega)).mono ?_
           rotate_left
           rintro e w4 ⟨Ab, cb, Al, cl, mb, rfl, hb4, y1, y2, y3, y4⟩
           have hr4 : YearAt w4 w.heap.size (.int .i64 0) (.slice none 0 0) (.slice none 0 0) (.map none) := ⟨(hb4.block _ hr3.lt).trans hr3.at_⟩
           clear r0 r1 r2 r3 rf rf0 rf1 rf2 rf3
           obtain ⟨r0, r1, r2, r3, rf⟩ := hr4.cell
           have rf0 := rf 0
           have rf1 := rf 1
           have rf2 := rf 2
           have rf3 := rf 3
           have HB4 := Lib.hid hb4
           have HY : Hid (YearsV w3.heap.size w4 (placesOf (counting l known) bs) (linksL (counting l known) bs mv) #[.int .i64 ((placesOf (counting l known) bs).length + 1), .slice Ab (linksL (counting l known) bs mv).length cb, .slice Al (linksL (counting l known) bs mv).length cl, .map (some mb)]) := Lib.hid ⟨Ab, cb, Al, cl, mb, rfl, y1, y2, y3, y4⟩
           clear y1 y2 y3 y4 hb4))
      · refine bodyPost_ret (results_tct rfl _ _ w.heap.size _ _ (0, 0) _ rfl (hr4.over _ _ _ _).at_ Tryz.underlying120 rfl (by kernel_rfl)) rfl ?_
        have hs2 : w.heap.size ≤ w2.heap.size := (by have := hr2.lt; omega)
        have hs3 : w.heap.size ≤ w3.heap.size := (by have := hr3.lt; omega)
        refine ⟨_, _, rfl, below_over (((hb1.trans (HB2.out.mono (by omega))).trans (HB3.out.mono hs2)).trans (HB4.out.mono hs3)) (Nat.le_refl _) _ _ _ _, fun h => absurd rfl h, fun _ => ⟨o, rfl, ?_, ?_⟩⟩
        · exact ((HOR.out.below HB3.out (Nat.le_refl _)).below HB4.out (Nat.le_refl _)).over hr4 (by omega) _ _ _ _
        · exact HY.out.out hr4 hs3 _ _ _ _
      all_goals omega
    · have h2' : (ee != 0) = true := by simpa using h2
      go_enter Tryz.func85, Tryz.ntmps85
      go_wp2_with (first
        | (go_at_call 72; refine HASK.out.mono ?_; rintro e w2 ⟨p, rfl, hb2, hp⟩
           obtain ⟨o, rfl, hOr⟩ := hp rfl
           obtain ⟨ho, At, ct, Ap, cp, Aa, ca, h1, h2o, h3o, h4o⟩ := id hOr
           have hlo := (Array.getElem?_eq_some_iff.1 h1).1
           have hr2 : YearAt w2 w.heap.size (.int .i64 0) (.slice none 0 0) (.slice none 0 0) (.map none) := ⟨(hb2.block _ (by omega)).trans hr1.at_⟩
           have HB2 := Lib.hid hb2
           have HOR := Lib.hid hOr
           have HH := Lib.hid h1
           have H2 := Lib.hid h2o
           have H3 := Lib.hid h3o
           have H4 := Lib.hid h4o
           clear h1 h2o h3o h4o hOr hp hb2)
        | (go_at_call 141
           refine (admitted_any o Aa (admitsOf (counting l known)).length ca (admitsOf (counting l known)) M mn mc mv w2 hlo (by simp [World.cell?, HH.out]) (H4.out.rd (fun _ => rfl) ?_) (hHM.out.below (hb1.trans (HB2.out.mono (by omega))) (Nat.le_refl _))).mono ?_
           rotate_left
           rintro e w3 ⟨rfl, hb3⟩
           rw [HEE.out]
           have hr3 : YearAt w3 w.heap.size (.int .i64 0) (.slice none 0 0) (.slice none 0 0) (.map none) := ⟨(hb3.block _ hr2.lt).trans hr2.at_⟩
           obtain ⟨r0, r1, r2, r3, rf⟩ := hr3.cell
           have rf0 := rf 0
           have rf1 := rf 1
           have rf2 := rf 2
           have rf3 := rf 3
           have HB3 := Lib.hid hb3
           clear hb3))
      · refine bodyPost_ret (results_tct rfl _ _ w.heap.size _ _ (0, 0) _ rfl (hr3.over _ _ _ _).at_ Tryz.underlying120 rfl (by kernel_rfl)) rfl ?_
        have hs2 : w.heap.size ≤ w2.heap.size := (by have := hr2.lt; omega)
        exact ⟨none, zeroYears, rfl, below_over ((hb1.trans (HB2.out.mono (by omega))).trans (HB3.out.mono hs2)) (Nat.le_refl _) _ _ _ _, fun _ => ⟨rfl, rfl⟩, fun h => absurd h h2⟩
      all_goals omega
  · have hwe : withErr l known bs mv = askErr l known bs := by unfold withErr; rw [if_pos he]
    have he' : (askErr l known bs != 0) = true := by simpa using he
    rw [hwe]
    go_enter Tryz.func85, Tryz.ntmps85
    go_wp2_with (first
      | (go_at_call 72; refine HASK.out.mono ?_; rintro e w2 ⟨p, rfl, hb2, _⟩
         have hr2 : YearAt w2 w.heap.size (.int .i64 0) (.slice none 0 0) (.slice none 0 0) (.map none) := ⟨(hb2.block _ (by omega)).trans hr1.at_⟩
         obtain ⟨r0, r1, r2, r3, rf⟩ := hr2.cell
         have rf0 := rf 0
         have rf1 := rf 1
         have rf2 := rf 2
         have rf3 := rf 3))
    refine bodyPost_ret (results_tct rfl _ _ w.heap.size _ _ (0, 0) _ rfl (hr2.over _ _ _ _).at_ Tryz.underlying120 rfl (by kernel_rfl)) rfl ?_
    exact ⟨none, zeroYears, rfl, below_over (hb1.trans (hb2.mono (by omega))) (Nat.le_refl _) _ _ _ _, fun _ => ⟨rfl, rfl⟩, fun h => absurd h he⟩
end Go.Proofs.YtelnkflmnbhclaaGreat

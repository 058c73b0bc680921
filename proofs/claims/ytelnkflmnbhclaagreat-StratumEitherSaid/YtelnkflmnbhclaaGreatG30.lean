/- What is proved: the region of years that draws its order. Conditions: the traces are above, dated or moved ones. -/
import Derived.Test.YtelnkflmnbhclaaGreatG29
import Derived.Test.YtelnkflmnbhclaaGreatG18
namespace Go.Proofs.YtelnkflmnbhclaaGreat
open Go.RowKit Go.Proofs Go.Shelf

def code75 : Option Code → Code
  | some (.seq _ (.seq c _)) => c
  | _ => .skip
theorem ent_links : ∀ args w, (callFunc 133 args).run Tryz.prog w = .ok (.enter 133 args) w := enters_of Tryz.func133 (by kernel_rfl) rfl
theorem ent_coll : ∀ args w, (callFunc 132 args).run Tryz.prog w = .ok (.enter 132 args) w := enters_of Tryz.func132 (by kernel_rfl) rfl

theorem wpIn_region_inv' {P : Program} {F : Fence} {nn : Nat} {id : Nat} {l : List Oper} {Q : Exit → Act → World → Prop} {a : Act} {w : World} (m : Nat) (hm : P.follows .mixedOrders = true) (hF : ∀ f, F.fn f) (hok : tabOk l.toArray m = true) (I : Array Oper → Array Bool → Act → World → Prop)
    (h0 : I l.toArray (Array.replicate l.toArray.size false) a w.drew)
    (hstep : ∀ listed i o b W, listed.size = l.toArray.size → i ∈ Region.ready .any l.toArray listed → l.toArray[i]? = some o → I l.toArray listed b W → o.wpIn F nn P b W (fun b' W' => I l.toArray (listed.setIfInBounds i true) b' W') Q)
    (hend : ∀ b W, I l.toArray (Array.replicate l.toArray.size true) b W → Q .normal b W) : (Code.region id l.toArray true).wpIn F nn P Q a w :=
  wpIn_region_inv m hm hF hok (I l.toArray) h0 hstep hend
set_option maxRecDepth 100000 in
set_option maxHeartbeats 4000000 in
theorem years1 (c : Code) (hc : c = code75 Tryz.f75.body) (o : Nat) (At : Option Addr) (tn ct : Nat) (bA : Option Addr) (bn bc : Nat) (M : Option Addr) (mn mc : Nat) (ts : List Trace) (bs : List Bond) (mv : List Place) (w : World) (a : Act)
    (o0 : w.cell? ⟨o, 0, none⟩ = some (.slice At tn ct)) (o1 : w.cell? ⟨o, 1, none⟩ = some (.slice bA bn bc))
    (rt : Rd encTrace 10 w At tn ct ts) (rb : Rd encBond 5 w bA bn bc bs) (rm : Rd encPlace 2 w M mn mc mv) (hts : ∀ x ∈ ts, okLT x) (htn : tn ≤ 200) (hbn : bn ≤ 200)
    (hT : a.tmps.size = 73) (t0 : a.tmps.getD 0 undef = .pointer (some ⟨o, 0, none⟩)) (t1 : a.tmps.getD 1 undef = .slice M mn mc)
    (Q : Exit → Act → World → Prop)
    (hQ : ∀ Bo Bm Bv W Al cl mb yb, Below w.heap.size w W → YF W w.heap.size (linksL ts bs mv) Al cl mb yb →
      Q .normal { tmps := ((((((((((a.tmps.setIfInBounds 10 (.pointer (some ⟨o, 0, none⟩))).setIfInBounds 11 (.slice M mn mc)).setIfInBounds 12 (.func (.func 191) #[] #[.pointer (some ⟨Bo, 0, none⟩), .pointer (some ⟨Bm, 0, none⟩), .pointer (some ⟨Bv, 0, none⟩)])).setIfInBounds 13 (.slice Al (linksL ts bs mv).length cl)).setIfInBounds 14 (.map (some mb))).setIfInBounds 15 (.agg #[.int .i64 0, .int .i64 0])).setIfInBounds 16 (.map (some mb))).setIfInBounds 17 (.agg #[.int .i64 0, .slice none 0 0, .slice Al (linksL ts bs mv).length cl, .map (some mb)])).setIfInBounds 5 (.pointer (some ⟨yb, 0, none⟩)))), defers := a.defers } W) :
    c.wp Tryz.prog Q a w := by
  subst hc
  unfold code75 Tryz.f75
  dsimp only
  obtain ⟨B, hB⟩ : ∃ B, w.heap.size = B := ⟨_, rfl⟩
  obtain ⟨L, hL⟩ : ∃ L, linksL ts bs mv = L := ⟨_, rfl⟩
  rw [hB, hL] at hQ
  refine wpIn_wide.1 (wpIn_region_inv' (F := Fence.wide) (nn := 5) 73 (by kernel_rfl) (fun _ => trivial) (by kernel_rfl)
    (fun ops listed b W => ∃ Bo Bm Bv A c mb yb, TabAt ops (yearV o M mn mc Bo Bm Bv A L.length c mb yb) a listed b ∧ Below B w W ∧
      (listed.getD 10 false = false → YI W B o M mn mc L (listed.getD 2 false) (listed.getD 3 false) (listed.getD 4 false) (listed.getD 6 false) (listed.getD 9 false) Bo Bm Bv A c mb yb) ∧
      (listed.getD 10 false = true → YF W B L A c mb yb)) ?_ ?_ ?_)
  · refine ⟨0, 0, 0, none, 0, 0, 0, TabAt.start a, (Below.refl _ w).drew, fun _ => ?_, fun h => (by simp at h)⟩
    simp only [getD_replicate_false]
    exact ⟨fun h => (by cases h), fun h => (by cases h), fun h => (by cases h), fun h => (by cases h)⟩
  · intro listed i op b W hs hi ho hI
    obtain ⟨hun, oi, hoi, hall⟩ := mem_ready.1 hi
    have : oi = op := Option.some.inj (hoi.symm.trans ho)
    subst this
    have hlt : i < 11 := by have := (Array.getElem?_eq_some_iff.1 ho).1; simpa using this
    obtain ⟨Bo, Bm, Bv, A, c, mb, yb, hb, hbel, hYI, hYF⟩ := hI
    have hset : ∀ V, TabAt _ V a listed b → TabAt _ V a (listed.setIfInBounds i true) (b.put oi.dst (V i)) := fun V hV => TabAt.set (m := 73) (by kernel_rfl) hT.symm hV hi ho
    have q0 : b.eval (.tmp 0) = _ := (hb.old 0 (dst_no hb (by kernel_rfl))).trans t0
    have q1 : b.eval (.tmp 1) = _ := (hb.old 1 (dst_no hb (by kernel_rfl))).trans t1
    have g : ∀ j, i ≠ j → (listed.setIfInBounds i true).getD j false = listed.getD j false := fun j hj => getD_set_ne false hj
    have gi : (listed.setIfInBounds i true).getD i false = true := getD_set_self hs hlt
    have hun' : listed.getD i false = false := getD_both hun
    clear hoi hi
    rcases (by omega : i = 0 ∨ i = 1 ∨ i = 2 ∨ i = 3 ∨ i = 4 ∨ i = 5 ∨ i = 6 ∨ i = 7 ∨ i = 8 ∨ i = 9 ∨ i = 10) with rfl | rfl | rfl | rfl | rfl | rfl | rfl | rfl | rfl | rfl | rfl
    all_goals simp only [List.getElem?_toArray, List.getElem?_cons_zero, List.getElem?_cons_succ] at ho
    all_goals cases ho
    · -- 0
      refine wide_val (v := yearV o M mn mc Bo Bm Bv A L.length c mb yb 0) (by simp only [execOp, q0]; rfl) ⟨Bo, Bm, Bv, A, c, mb, yb, hset _ hb, hbel, ?_, ?_⟩
      · simpa only [g 2 (by decide), g 3 (by decide), g 4 (by decide), g 6 (by decide), g 9 (by decide), g 10 (by decide)] using hYI
      · simpa only [g 10 (by decide)] using hYF
    · -- 1
      refine wide_val (v := yearV o M mn mc Bo Bm Bv A L.length c mb yb 1) (by simp only [execOp, q1]; rfl) ⟨Bo, Bm, Bv, A, c, mb, yb, hset _ hb, hbel, ?_, ?_⟩
      · simpa only [g 2 (by decide), g 3 (by decide), g 4 (by decide), g 6 (by decide), g 9 (by decide), g 10 (by decide)] using hYI
      · simpa only [g 10 (by decide)] using hYF
    · -- 2
      have n10 : listed.getD 10 false = false := not_listed (hb.closed 10 _ rfl) ⟨2, .phase⟩ (by simp) rfl hun'
      have e0 : b.eval (.tmp 10) = .pointer (some ⟨o, 0, none⟩) := hb.val 0 10 rfl (hall ⟨0, .data⟩ (by simp) rfl)
      have e1 : b.eval (.tmp 11) = .slice M mn mc := hb.val 1 11 rfl (hall ⟨1, .data⟩ (by simp) rfl)
      refine wide_call (f := 133) (args := #[.pointer (some ⟨o, 0, none⟩), .slice M mn mc]) (by go_simp; exact ⟨by simpa [Act.eval] using e0, by simpa [Act.eval] using e1⟩) ((links_any o M mn mc W).mono ?_)
      rintro e wl ⟨Bo', Bm', Bv', rfl, hbl, hla, h1, h2, h3⟩
      have hy := (hYI n10).grow hbl
      have hcon : TabAt _ (yearV o M mn mc Bo' Bm' Bv' A L.length c mb yb) a listed b := hb.congr (fun j hj => by
        by_cases h2 : j = 2
        · subst h2; rw [hun'] at hj; cases hj
        · unfold yearV; split <;> first | rfl | exact absurd rfl h2)
      refine ⟨_, rfl, Bo', Bm', Bv', A, c, mb, yb, hset _ hcon, hbel.trans (hbl.mono (by have := hbel.size; omega)), fun _ => ?_, fun h => (by rw [g 10 (by decide), n10] at h; cases h)⟩
      rw [gi, g 3 (by decide), g 4 (by decide), g 6 (by decide), g 9 (by decide)]
      exact ⟨fun _ => hla, hy.three, hy.four, hy.nine⟩
    · -- 3
      have n10 : listed.getD 10 false = false := not_listed (hb.closed 10 _ rfl) ⟨3, .chain⟩ (by simp) rfl hun'
      have n8 : listed.getD 8 false = false := not_listed (hb.closed 8 _ rfl) ⟨3, .data⟩ (by simp) rfl hun'
      have p2 : listed.getD 2 false = true := hall ⟨2, .data⟩ (by simp) rfl
      have e0 : b.eval (.tmp 12) = .func (.func 191) #[] #[.pointer (some ⟨Bo, 0, none⟩), .pointer (some ⟨Bm, 0, none⟩), .pointer (some ⟨Bv, 0, none⟩)] := hb.val 2 12 rfl p2
      have hol : o < w.heap.size := (by
        rcases Nat.lt_or_ge o w.heap.size with h | h
        · exact h
        · simp [World.cell?, Array.getElem?_eq_none h] at o0)
      have hc0 := hbel.cell (p := ⟨o, 0, none⟩) (hB ▸ hol)
      have hc1 := hbel.cell (p := ⟨o, 1, none⟩) (hB ▸ hol)
      refine wide_call (f := 132) (args := #[.func (.func 191) #[] #[.pointer (some ⟨Bo, 0, none⟩), .pointer (some ⟨Bm, 0, none⟩), .pointer (some ⟨Bv, 0, none⟩)]]) (by go_simp; simpa [Act.eval] using e0)
        ((collectLinks Bo Bm Bv o At tn ct bA bn bc M mn mc ts bs mv W ⟨(hYI n10).two p2, hc0.trans o0, hc1.trans o1, rt.below hbel (by omega), rb.below hbel (by omega), rm.below hbel (by omega)⟩ hts htn hbn).mono ?_)
      rintro e wl ⟨A', c', rfl, hO, hbl⟩
      have hy := (hYI n10).grow hbl
      rw [hL] at hO ⊢
      have hcon : TabAt _ (yearV o M mn mc Bo Bm Bv A' L.length c' mb yb) a listed b := hb.congr (fun j hj => by
        by_cases h2 : j = 3
        · subst h2; rw [hun'] at hj; cases hj
        · by_cases h3 : j = 8
          · subst h3; rw [n8] at hj; cases hj
          · unfold yearV; split <;> first | rfl | exact absurd rfl h2 | exact absurd rfl h3)
      refine ⟨_, rfl, Bo, Bm, Bv, A', c', mb, yb, hset _ hcon, hbel.trans (hbl.mono (by have := hbel.size; omega)), fun _ => ?_, fun h => (by rw [g 10 (by decide), n10] at h; cases h)⟩
      rw [gi, g 2 (by decide), g 4 (by decide), g 6 (by decide), g 9 (by decide)]
      exact ⟨hy.two, fun _ => hO.mono (by have := hbel.size; omega), hy.four, hy.nine⟩
    · -- 4
      have n6 : listed.getD 6 false = false := not_listed (hb.closed 6 _ rfl) ⟨4, .data⟩ (by simp) rfl hun'
      have n7 : listed.getD 7 false = false := not_listed (hb.closed 7 _ rfl) ⟨4, .data⟩ (by simp) rfl hun'
      have n8 : listed.getD 8 false = false := not_listed (hb.closed 8 _ rfl) ⟨7, .data⟩ (by simp) rfl n7
      have n10 : listed.getD 10 false = false := not_listed (hb.closed 10 _ rfl) ⟨4, .phase⟩ (by simp) rfl hun'
      have hcon : TabAt _ (yearV o M mn mc Bo Bm Bv A L.length c W.heap.size yb) a listed b := hb.congr (fun j hj => by
        by_cases h2 : j = 4
        · subst h2; rw [hun'] at hj; cases hj
        · by_cases h3 : j = 8
          · subst h3; rw [n8] at hj; cases hj
          · by_cases h4 : j = 7
            · subst h4; rw [n7] at hj; cases hj
            · unfold yearV; split <;> first | rfl | exact absurd rfl h2 | exact absurd rfl h3 | exact absurd rfl h4)
      have hy := (hYI n10).grow ((Below.refl _ W).alloc (Nat.le_refl _) (.map #[] 0))
      refine wide_val (v := yearV o M mn mc Bo Bm Bv A L.length c W.heap.size yb 4) (W' := W.alloc (.map #[] 0)) (by go_simp; rfl) ⟨Bo, Bm, Bv, A, c, W.heap.size, yb, hset _ hcon, hbel.alloc (by have := hbel.size; omega) _, fun _ => ?_, fun h => (by rw [g 10 (by decide), n10] at h; cases h)⟩
      rw [gi, g 2 (by decide), g 3 (by decide), g 6 (by decide), g 9 (by decide), n6]
      exact ⟨hy.two, hy.three, fun _ => ⟨MapP.made W, by have := hbel.size; omega⟩, hy.nine⟩
    · -- 5
      refine wide_val (v := yearV o M mn mc Bo Bm Bv A L.length c mb yb 5) (by go_simp; rfl) ⟨Bo, Bm, Bv, A, c, mb, yb, hset _ hb, hbel, ?_, ?_⟩
      · simpa only [g 2 (by decide), g 3 (by decide), g 4 (by decide), g 6 (by decide), g 9 (by decide), g 10 (by decide)] using hYI
      · simpa only [g 10 (by decide)] using hYF
    · -- 6
      have n10 : listed.getD 10 false = false := not_listed (hb.closed 10 _ rfl) ⟨6, .phase⟩ (by simp) rfl hun'
      have p4 : listed.getD 4 false = true := hall ⟨4, .data⟩ (by simp) rfl
      have p5 : listed.getD 5 false = true := hall ⟨5, .data⟩ (by simp) rfl
      have e0 : b.eval (.tmp 14) = .map (some mb) := hb.val 4 14 rfl p4
      have e1 : b.eval (.tmp 15) = keyV z00 := hb.val 5 15 rfl p5
      have hy := hYI n10
      rw [hun', p4] at hy
      obtain ⟨W', hrun, r1, r2, r3⟩ := run_mapUpdatePl (t := 118) (e := 3) (by kernel_rfl) (hy.four rfl).1 z00 (0 : Int)
      have hbg : Below B w W' := hbel.grown r2 (by have := hbel.size; omega) (fun k e => by have := Option.some.inj e; have := (hy.four rfl).2; omega)
      refine wide_skip (W' := W') (by
        simp only [execOp, e0, e1]
        have : b.eval (.const (.int .i64 0)) = intE 0 := rfl
        rw [this]
        simp [hrun]) ⟨Bo, Bm, Bv, A, c, mb, yb, hset (yearV o M mn mc Bo Bm Bv A L.length c mb yb) hb, hbg, fun _ => ?_, fun h => (by rw [g 10 (by decide), n10] at h; cases h)⟩
      rw [gi, g 2 (by decide), g 3 (by decide), g 4 (by decide), g 9 (by decide), p4]
      exact hy.insert r2 r1
    · -- 7
      have e0 : b.eval (.tmp 14) = .map (some mb) := hb.val 4 14 rfl (hall ⟨4, .data⟩ (by simp) rfl)
      refine wide_val (v := yearV o M mn mc Bo Bm Bv A L.length c mb yb 7) (by simp only [execOp, e0]; rfl) ⟨Bo, Bm, Bv, A, c, mb, yb, hset _ hb, hbel, ?_, ?_⟩
      · simpa only [g 2 (by decide), g 3 (by decide), g 4 (by decide), g 6 (by decide), g 9 (by decide), g 10 (by decide)] using hYI
      · simpa only [g 10 (by decide)] using hYF
    · -- 8
      have e0 : b.eval (.tmp 13) = .slice A L.length c := hb.val 3 13 rfl (hall ⟨3, .data⟩ (by simp) rfl)
      have e1 : b.eval (.tmp 16) = .map (some mb) := hb.val 7 16 rfl (hall ⟨7, .data⟩ (by simp) rfl)
      refine wide_val (v := yearV o M mn mc Bo Bm Bv A L.length c mb yb 8) (by have f0 : b.tmps[13]?.getD undef = .slice A L.length c := (by simpa [Act.eval] using e0); have f1 : b.tmps[16]?.getD undef = .map (some mb) := (by simpa [Act.eval] using e1); go_simp; rfl) ⟨Bo, Bm, Bv, A, c, mb, yb, hset _ hb, hbel, ?_, ?_⟩
      · simpa only [g 2 (by decide), g 3 (by decide), g 4 (by decide), g 6 (by decide), g 9 (by decide), g 10 (by decide)] using hYI
      · simpa only [g 10 (by decide)] using hYF
    · -- 9
      have n10 : listed.getD 10 false = false := not_listed (hb.closed 10 _ rfl) ⟨9, .data⟩ (by simp) rfl hun'
      have hcon : TabAt _ (yearV o M mn mc Bo Bm Bv A L.length c mb W.heap.size) a listed b := hb.congr (fun j hj => by
        by_cases h2 : j = 9
        · subst h2; rw [hun'] at hj; cases hj
        · unfold yearV; split <;> first | rfl | exact absurd rfl h2)
      have hy := (hYI n10).grow ((Below.refl _ W).alloc (Nat.le_refl _) (.cells #[.int .i64 0, .slice none 0 0, .slice none 0 0, .map none] 120))
      refine wide_val (v := yearV o M mn mc Bo Bm Bv A L.length c mb W.heap.size 9) (W' := W.alloc (.cells #[.int .i64 0, .slice none 0 0, .slice none 0 0, .map none] 120)) (by go_simp; rfl) ⟨Bo, Bm, Bv, A, c, mb, W.heap.size, hset _ hcon, hbel.alloc (by have := hbel.size; omega) _, fun _ => ?_, fun h => (by rw [g 10 (by decide), n10] at h; cases h)⟩
      rw [gi, g 2 (by decide), g 3 (by decide), g 4 (by decide), g 6 (by decide)]
      exact ⟨hy.two, hy.three, hy.four, fun _ => ⟨⟨heap_alloc_new W _⟩, by have := hbel.size; omega⟩⟩
    · -- 10
      have n10 : listed.getD 10 false = false := hun'
      have p3 : listed.getD 3 false = true := hall ⟨3, .phase⟩ (by simp) rfl
      have p4 : listed.getD 4 false = true := hall ⟨4, .phase⟩ (by simp) rfl
      have p6 : listed.getD 6 false = true := hall ⟨6, .phase⟩ (by simp) rfl
      have p9 : listed.getD 9 false = true := hall ⟨9, .phase⟩ (by simp) rfl
      have e0 : b.eval (.tmp 5) = .pointer (some ⟨yb, 0, none⟩) := hb.val 9 5 rfl p9
      have e1 : b.eval (.tmp 17) = .agg #[.int .i64 0, .slice none 0 0, .slice A L.length c, .map (some mb)] := hb.val 8 17 rfl (hall ⟨8, .data⟩ (by simp) rfl)
      have f0 : b.tmps[5]?.getD undef = .pointer (some ⟨yb, 0, none⟩) := (by simpa [Act.eval] using e0)
      have f1 : b.tmps[17]?.getD undef = .agg #[.int .i64 0, .slice none 0 0, .slice A L.length c, .map (some mb)] := (by simpa [Act.eval] using e1)
      have hy := hYI n10
      rw [p3, p4, p6, p9] at hy
      obtain ⟨k0, k1, k2, k3, kf⟩ := (hy.nine rfl).1.cell
      have kf0 := kf 0
      have kf1 := kf 1
      have kf2 := kf 2
      have kf3 := kf 3
      have hyb := (hy.nine rfl).2
      refine wide_skip (W' := (((W.setCell ⟨yb, 0, none⟩ (.int .i64 0)).setCell ⟨yb, 1, none⟩ (.slice none 0 0)).setCell ⟨yb, 2, none⟩ (.slice A L.length c)).setCell ⟨yb, 3, none⟩ (.map (some mb))) (by go_simp) ⟨Bo, Bm, Bv, A, c, mb, yb, hset (yearV o M mn mc Bo Bm Bv A L.length c mb yb) hb, (((hbel.setCell (p := ⟨yb, 0, none⟩) hyb _).setCell (p := ⟨yb, 1, none⟩) hyb _).setCell (p := ⟨yb, 2, none⟩) hyb _).setCell (p := ⟨yb, 3, none⟩) hyb _, fun h => (by rw [gi] at h; cases h), fun _ => ?_⟩
      have n1 : A = none ∨ blockOf A ≠ some yb := (hy.three rfl).ne (hy.nine rfl).1.at_ (fun cur e => (by injection e with _ h _; cases h))
      obtain ⟨es, cl, hmb, _⟩ := (hy.four rfl).1.at_
      have n2 : mb ≠ yb := fun e => (by rw [e, (hy.nine rfl).1.at_] at hmb; cases hmb)
      have hs : ∀ (W : World) (i : Nat) (v : Value), W.grownBy (W.setCell ⟨yb, i, none⟩ v) (some yb) := fun W i v => Go.Proofs.YtelnkflmnbhclaaGreat.grownBy_setCell' W yb i v
      refine ⟨?_, ?_, ?_, (hy.four rfl).2, hyb⟩
      · exact ((((hy.three rfl).kept (hs _ _ _) n1).kept (hs _ _ _) n1).kept (hs _ _ _) n1).kept (hs _ _ _) n1
      · exact ((((hy.four rfl).1.setCell _ _ n2).setCell _ _ n2).setCell _ _ n2).setCell _ _ n2
      · refine ⟨?_⟩
        have h1 := heap_setCell_obj (i := 0) (v := .int .i64 0) (hy.nine rfl).1.at_
        have h2 := heap_setCell_obj (i := 1) (v := .slice none 0 0) h1
        have h3 := heap_setCell_obj (i := 2) (v := .slice A L.length c) h2
        have h4 := heap_setCell_obj (i := 3) (v := .map (some mb)) h3
        rw [h4]; rfl
  · rintro b W ⟨Bo, Bm, Bv, A, c, mb, yb, hb, hbel, _, hYF⟩
    have hact := hb.act (m := 73) (by kernel_rfl) hT.symm
    rw [hact]
    exact hQ Bo Bm Bv W A c mb yb hbel (hYF (by simp))
end Go.Proofs.YtelnkflmnbhclaaGreat

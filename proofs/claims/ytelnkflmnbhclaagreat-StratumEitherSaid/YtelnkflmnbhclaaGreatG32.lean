/- What is proved: the contract of years. Conditions: the traces are above, dated or moved ones. -/
import Derived.Test.YtelnkflmnbhclaaGreatG30
import Derived.Test.YtelnkflmnbhclaaGreatG31
import Derived.Test.YtelnkflmnbhclaaGreatG15
import Derived.Deep.RegionLaw
import Derived.BigRegion
import Derived.Deep.Cut
import Derived.Carry
namespace Go.Proofs.YtelnkflmnbhclaaGreat
open Go.RowKit Go.Proofs Go.Shelf

def ptsM (ps : List Place) : Nat → List (Place × Int)
  | 0 => [(z00, 0)]
  | k + 1 => putM (ptsM ps k) (ps.getD k z00) (k + 1)
def boundOf (m : List (Place × Int)) (x : Link) : Bound := ⟨(getM m x.src).getD 0, (getM m x.dst).getD 0, x.most, x.by_⟩

theorem getD_intE (m : List (Place × Int)) (k : Place) : ((getM m k).map intE).getD (.int .i64 0) = .int .i64 ((getM m k).getD 0) := by
  cases getM m k <;> rfl
theorem linksL_len (ts : List Trace) (bs : List Bond) (mv : List Place) : (linksL ts bs mv).length ≤ 2 * ts.length + 2 * bs.length := by
  have h1 := flat_len2 linkT ts (fun y _ => by unfold linkT aboveL datedL; split <;> (try split) <;> simp) _ (Nat.le_refl _)
  have h2 := flat_len2 (linkB mv) bs (fun y _ => by unfold linkB; split <;> simp) _ (Nat.le_refl _)
  unfold linksL
  rw [List.length_append]
  omega

theorem YL.out {w0 W : World} {yb : Nat} {L : List Link} {Al : Option Addr} {cl mb : Nat} {m : List (Place × Int)} {v0 : Int} {Ab : Option Addr} {cb : Nat} {bds : List Bound} (h : YL w0 W yb L Al cl mb m v0 Ab cb bds) (u0 u1 u2 u3 : Value) (W' : World)
    (hW : W' = (((W.setCell ⟨w0.heap.size, 0, none⟩ u0).setCell ⟨w0.heap.size, 1, none⟩ u1).setCell ⟨w0.heap.size, 2, none⟩ u2).setCell ⟨w0.heap.size, 3, none⟩ u3) :
    Own encLink 6 74 w0.heap.size W' Al L.length cl L ∧ Own encBound 4 186 w0.heap.size W' Ab bds.length cb bds ∧ MapP intE W' mb m ∧ Below w0.heap.size w0 W' ∧ W'.heap[w0.heap.size]? = some (.cells #[u0, u1, u2, u3] 120 (0, 0)) := by
  subst hW
  have hs : ∀ (W : World) (i : Nat) (v : Value), W.grownBy (W.setCell ⟨w0.heap.size, i, none⟩ v) (some w0.heap.size) := fun W i v => grownBy_setCell' W _ i v
  have n1 : Al = none ∨ blockOf Al ≠ some w0.heap.size := h.own.ne h.res.at_ (fun cur e => by injection e with _ h _; cases h)
  have n2 : Ab = none ∨ blockOf Ab ≠ some w0.heap.size := h.ownB.ne h.res.at_ (fun cur e => by injection e with _ h _; cases h)
  have n3 : mb ≠ w0.heap.size := (h.res.not_map h.map).symm
  exact ⟨(((h.own.kept (hs _ _ _) n1).kept (hs _ _ _) n1).kept (hs _ _ _) n1).kept (hs _ _ _) n1, (((h.ownB.kept (hs _ _ _) n2).kept (hs _ _ _) n2).kept (hs _ _ _) n2).kept (hs _ _ _) n2,
    (((h.map.setCell _ _ n3).setCell _ _ n3).setCell _ _ n3).setCell _ _ n3, (((h.bel.setCell (p := ⟨w0.heap.size, 0, none⟩) (Nat.le_refl _) _).setCell (p := ⟨w0.heap.size, 1, none⟩) (Nat.le_refl _) _).setCell (p := ⟨w0.heap.size, 2, none⟩) (Nat.le_refl _) _).setCell (p := ⟨w0.heap.size, 3, none⟩) (Nat.le_refl _) _,
    (by rw [heap_setCell_obj (heap_setCell_obj (heap_setCell_obj (heap_setCell_obj h.res.at_)))]; rfl)⟩

set_option maxRecDepth 100000 in
set_option maxHeartbeats 4000000 in
theorem years_any (o : Nat) (At : Option Addr) (tn ct : Nat) (bA : Option Addr) (bn bc : Nat) (Ap : Option Addr) (pn cp : Nat) (M : Option Addr) (mn mc : Nat) (ts : List Trace) (bs : List Bond) (ps : List Place) (mv : List Place) (w : World)
    (o0 : w.cell? ⟨o, 0, none⟩ = some (.slice At tn ct)) (o1 : w.cell? ⟨o, 1, none⟩ = some (.slice bA bn bc)) (o2 : w.cell? ⟨o, 2, none⟩ = some (.slice Ap pn cp))
    (rt : Rd encTrace 10 w At tn ct ts) (rb : Rd encBond 5 w bA bn bc bs) (rp : Rd encPlace 2 w Ap pn cp ps) (rm : Rd encPlace 2 w M mn mc mv) (hts : ∀ x ∈ ts, okLT x) (htn : tn ≤ 200) (hbn : bn ≤ 200) :
    Calls Tryz.prog 75 #[.pointer (some ⟨o, 0, none⟩), .slice M mn mc] w fun e w' => ∃ Ab cb Al cl mb, e = .returned (.agg #[.int .i64 (pn + 1), .slice Ab (linksL ts bs mv).length cb, .slice Al (linksL ts bs mv).length cl, .map (some mb)]) ∧ Below w.heap.size w w' ∧
      Own encBound 4 186 w.heap.size w' Ab (linksL ts bs mv).length cb ((linksL ts bs mv).map (boundOf (ptsM ps pn))) ∧ Own encLink 6 74 w.heap.size w' Al (linksL ts bs mv).length cl (linksL ts bs mv) ∧ MapP intE w' mb (ptsM ps pn) ∧ w.heap.size ≤ mb := by
  have HRT := Lib.hid rt
  have HRB := Lib.hid rb
  have HRP := Lib.hid rp
  have HRM := Lib.hid rm
  have HTS := Lib.hid hts
  clear rt rb rp rm hts
  have hol : o < w.heap.size := block_lt_of_cell o0
  obtain ⟨w1, hw1⟩ : ∃ w1, w.alloc (.cells #[.int .i64 0, .slice none 0 0, .slice none 0 0, .map none] 120) = w1 := ⟨_, rfl⟩
  have hb1 : Below w.heap.size w w1 := (by rw [← hw1]; exact (Below.refl _ w).alloc (Nat.le_refl _) _)
  have hz1 : w1.heap.size = w.heap.size + 1 := (by rw [← hw1]; simp)
  have hr1 : YearAt w1 w.heap.size (.int .i64 0) (.slice none 0 0) (.slice none 0 0) (.map none) := (by rw [← hw1]; exact ⟨heap_alloc_new w _⟩)
  have p0 : w1.cell? ⟨o, 0, none⟩ = some (.slice At tn ct) := (hb1.cell (p := ⟨o, 0, none⟩) hol).trans o0
  have p1 : w1.cell? ⟨o, 1, none⟩ = some (.slice bA bn bc) := (hb1.cell (p := ⟨o, 1, none⟩) hol).trans o1
  have HO2 := Lib.hid o2
  clear o0 o1 o2
  go_enter Tryz.func75, Tryz.ntmps75
  go_upto_region 1 with (fail)
  refine years1 _ rfl o At tn ct bA bn bc M mn mc ts bs mv w1 _ p0 p1 (HRT.out.below hb1 (Nat.le_refl _)) (HRB.out.below hb1 (Nat.le_refl _)) (HRM.out.below hb1 (Nat.le_refl _)) HTS.out htn hbn rfl rfl rfl _ ?_
  intro Bo Bm Bv W Al cl mb yb hbel hYF
  have hL0 : YL w W yb (linksL ts bs mv) Al cl mb (ptsM ps 0) 0 none 0 [] := ⟨hYF.own.mono (by omega), Own.none_ _ _ _ _ _, hYF.map, hYF.at_, ⟨(hbel.block _ (by omega)).trans hr1.at_⟩, hb1.trans (hbel.mono (by omega)), (by have := hYF.mb_; omega), (by have := hYF.yb_; omega)⟩
  clear hYF hbel hr1 p0 p1 hz1 hb1
  simp only [List.setIfInBounds_toArray, List.set_cons_succ, List.set_cons_zero]
  have q2 : W.cell? ⟨o, 2, none⟩ = some (.slice Ap pn cp) := (hL0.bel.cell (p := ⟨o, 2, none⟩) hol).trans HO2.out
  obtain ⟨LL, hLL⟩ : ∃ LL, linksL ts bs mv = LL := ⟨_, rfl⟩
  rw [hLL] at hL0 ⊢
  go_wp2
  clear q2
  go_loopw [23] (fun i wr => ∃ k : Nat, k ≤ pn ∧ i = .int .i64 k ∧ YL w wr yb LL Al cl mb (ptsM ps k) 0 none 0 []) (fun i _ => pn - (intOf i).toNat)
  case atStart => exact ⟨0, Nat.zero_le _, rfl, hL0⟩
  case round =>
    clear hL0
    obtain ⟨k, hk, rfl, hL⟩ := hrel
    have hpb := HRP.out.big
    have hyb := hL.ybB
    by_cases hlt : k < pn
    · obtain ⟨b, off, x, rfl, hbw, hx, hcell⟩ := (HRP.out.below hL.bel (Nat.le_refl _)).one hlt
      have c0 : wr.cell? ⟨b, off + k * 2, none⟩ = some (.int .i64 x.pit) := hcell 0 _ rfl
      have c1 : wr.cell? ⟨b, off + k * 2 + 1, none⟩ = some (.int .i64 x.layer) := hcell 1 _ rfl
      have hgx : ps.getD k z00 = x := (by rw [List.getD_eq_getElem?_getD, hx]; rfl)
      have HX := Lib.hid hgx
      clear hcell hx hgx
      obtain ⟨d0, d1, d2, d3, df⟩ := hL.at_.cell
      have hlt2 := hL.at_.lt
      have hL4 := hL.grown ((Below.refl _ wr).alloc (Nat.le_refl _) (.cells #[.int .i64 x.pit, .int .i64 x.layer] 37))
      go_wp2_with (first
        | (at_mapUpdate; refine wpList_mapUpdatePl rfl _ _ _ 118 rfl Tryz.underlying118 x ((k : Int) + 1) rfl rfl rfl hL4.map ?_; intro w5 hm5 hg5 hs5))
      go_roundw
      all_goals first
        | exact ⟨k + 1, by omega, by go_num, by have := hL4.put hm5 hg5; rw [← HX.out] at this; exact this⟩
        | (simp [intOf]; omega)
    · have hkn : k = pn := by omega
      subst hkn
      clear hlt hk
      obtain ⟨d0, d1, d2, d3, df⟩ := hL.at_.cell
      have hlt2 := hL.at_.lt
      have df0 := df 0
      have q2 : wr.cell? ⟨o, 2, none⟩ = some (.slice Ap k cp) := (hL.bel.cell (p := ⟨o, 2, none⟩) hol).trans HO2.out
      have hLs := hL.points (k + 1)
      obtain ⟨MM, hMM⟩ : ∃ MM, ptsM ps k = MM := ⟨_, rfl⟩
      rw [hMM] at hLs
      have hLLn : LL.length ≤ 800 := (by have := linksL_len ts bs mv; rw [hLL, HRT.out.len, HRB.out.len] at this; omega)
      have HLN := Lib.hid hLLn
      go_wp2
      clear d0 d1 d2 d3 df q2 hL df0
      go_loopw [45] (fun i w2 => ∃ (q : Nat) (Ab : Option Addr) (cb : Nat) (bds : List Bound), q ≤ LL.length ∧ i = .int .i64 q ∧ YL w w2 yb LL Al cl mb MM (k + 1) Ab cb bds ∧ Hid (bds = (LL.take q).map (boundOf MM))) (fun i _ => LL.length - (intOf i).toNat)
      case atStart => exact ⟨0, none, 0, [], Nat.zero_le _, rfl, hLs, (show _ = _ by simp)⟩
      case round =>
        clear hLs
        obtain ⟨q, Ab, cb, bds, hq, rfl, hL, hbds⟩ := hrel
        have hbl : bds.length ≤ 800 := (by have := hbds.out; rw [this, List.length_map, List.length_take]; omega)
        by_cases hql : q < LL.length
        · obtain ⟨b, off, x, rfl, hbw, hx, hcell⟩ := (hL.own.rd (fun _ => rfl) (by omega)).one hql
          have c0 : wr.cell? ⟨b, off + q * 6, none⟩ = some (.int .i64 x.src.pit) := hcell 0 _ rfl
          have c1 : wr.cell? ⟨b, off + q * 6 + 1, none⟩ = some (.int .i64 x.src.layer) := hcell 1 _ rfl
          have c2 : wr.cell? ⟨b, off + q * 6 + 2, none⟩ = some (.int .i64 x.dst.pit) := hcell 2 _ rfl
          have c3 : wr.cell? ⟨b, off + q * 6 + 3, none⟩ = some (.int .i64 x.dst.layer) := hcell 3 _ rfl
          have c4 : wr.cell? ⟨b, off + q * 6 + 4, none⟩ = some (.int .i64 x.most) := hcell 4 _ rfl
          have c5 : wr.cell? ⟨b, off + q * 6 + 5, none⟩ = some (.int .i64 x.by_) := hcell 5 _ rfl
          have htk : bds ++ [boundOf MM x] = (LL.take (q + 1)).map (boundOf MM) := (by rw [List.take_add_one, hx, hbds.out]; simp)
          have HTK := Lib.hid htk
          clear hcell hx htk
          obtain ⟨d0, d1, d2, d3, df⟩ := hL.at_.cell
          have hlt3 := hL.at_.lt
          obtain ⟨x1, hx1⟩ : ∃ x1, (getM MM x.src).getD 0 = x1 := ⟨_, rfl⟩
          obtain ⟨x2, hx2⟩ : ∃ x2, (getM MM x.dst).getD 0 = x2 := ⟨_, rfl⟩
          have hbo : boundOf MM x = ⟨x1, x2, x.most, x.by_⟩ := (by unfold boundOf; rw [hx1, hx2])
          rw [hbo] at HTK
          have hlk : ∀ W, MapP intE W mb MM → (Instr.lookup 118 (.map (some mb)) (.agg #[.int .i64 x.src.pit, .int .i64 x.src.layer]) false).run Tryz.prog W = .ok (.int .i64 x1) W ∧ (Instr.lookup 118 (.map (some mb)) (.agg #[.int .i64 x.dst.pit, .int .i64 x.dst.layer]) false).run Tryz.prog W = .ok (.int .i64 x2) W := fun W hm => by
            have h1 := run_lookupPl Tryz.underlying118 (Tryz.zeroValue3 W) hm x.src false
            have h2 := run_lookupPl Tryz.underlying118 (Tryz.zeroValue3 W) hm x.dst false
            simp only [keyV, getD_intE, Bool.false_eq_true, if_false, hx1, hx2] at h1 h2
            exact ⟨h1, h2⟩
          have HLK := Lib.hid hlk
          clear hbo hlk hx1 hx2
          have hbl1 : (bds ++ [(⟨x1, x2, x.most, x.by_⟩ : Bound)]).length = bds.length + 1 := by simp
          have HBL := Lib.hid hbl1
          clear hbl1
          go_upto_region 11 with (fail)
          obtain ⟨wa, hwa⟩ : ∃ wa, wr.alloc (.cells #[.int .i64 x.src.pit, .int .i64 x.src.layer, .int .i64 x.dst.pit, .int .i64 x.dst.layer, .int .i64 x.most, .int .i64 x.by_] 74) = wa := ⟨_, rfl⟩
          rw [hwa]
          have hLa : YL w wa yb LL (some ⟨b, off, none⟩) cl mb MM (k + 1) Ab cb bds := (by rw [← hwa]; exact hL.grown ((Below.refl _ wr).alloc (Nat.le_refl _) _))
          have hna : wa.heap[wr.heap.size]? = some (.cells #[.int .i64 x.src.pit, .int .i64 x.src.layer, .int .i64 x.dst.pit, .int .i64 x.dst.layer, .int .i64 x.most, .int .i64 x.by_] 74 (0, 0)) := (by rw [← hwa]; exact heap_alloc_new wr _)
          have hpr : ∀ W, YearAt W yb (.int .i64 ((k : Int) + 1)) (.slice Ab bds.length cb) (.slice (some ⟨b, off, none⟩) LL.length cl) (.map (some mb)) → MapP intE W mb MM → W.heap[wr.heap.size]? = wa.heap[wr.heap.size]? → Pr11 W yb wr.heap.size Ab bds.length cb mb x x1 x2 := fun W h1 hm h2 => by
            obtain ⟨_, e1, _, e3, _⟩ := h1.cell
            obtain ⟨l1, l2⟩ := HLK.out W hm
            rw [hna] at h2
            refine ⟨e1, e3, ?_, ?_, ?_, ?_, ?_, ?_, l1, l2⟩ <;> simp [World.cell?, h2]
          have hbB : Below wa.drew.heap.size wa.drew (wa.drew.alloc (.cells #[.int .i64 x1, .int .i64 x2, .int .i64 x.most, .int .i64 x.by_] 186)) := (Below.refl _ _).alloc (Nat.le_refl _) _
          have hLb := hLa.drew.grown hbB
          have hlna : wr.heap.size < wa.drew.heap.size := (Array.getElem?_eq_some_iff.1 hna).1
          refine years11 _ rfl w.heap.size yb wr.heap.size Ab bds.length cb mb x x1 x2 bds _ wa _ _ rfl rfl rfl rfl (hpr _ hLa.drew.at_ hLa.drew.map rfl) (hpr _ hLb.at_ hLb.map (hbB.block _ hlna)) ?_ ?_ hLb.ownB hLb.hB (by omega) ?_
          · intro w8 hg
            obtain ⟨es, clk, hmb, _⟩ := hLb.map.at_
            have hnb := (hbB.block _ hlna).trans hna
            exact hpr _ (hLb.at_.kept hg (hLb.ownB.ne' hLb.at_.at_ (fun cur e => by injection e with _ h _; cases h))) (hLb.map.kept hg (hLb.ownB.ne' hmb (fun cur e => by cases e))) ((hg.block _ (Nat.lt_of_lt_of_le hlna hbB.size) (hLb.ownB.ne' hnb (fun cur e => by injection e with _ h _; cases h))).trans (hbB.block _ hlna))
          · intro w8 hg
            exact (hLb.at_.kept hg (hLb.ownB.ne' hLb.at_.at_ (fun cur e => by injection e with _ h _; cases h))).cell.2.2.2.2 1
          · intro A' c' w8 hO hg
            have hO' : Own encBound 4 186 w.heap.size w8 A' (bds ++ [(⟨x1, x2, x.most, x.by_⟩ : Bound)]).length c' (bds ++ [⟨x1, x2, x.most, x.by_⟩]) := (by rw [HBL.out]; exact hO)
            have hL9 := hLb.push hg hO'
            rw [HBL.out] at hL9
            simp only [List.setIfInBounds_toArray, List.set_cons_succ, List.set_cons_zero]
            obtain ⟨w9, hw9⟩ : ∃ w9, w8.setCell ⟨yb, 1, none⟩ (.slice A' (bds.length + 1) c') = w9 := ⟨_, rfl⟩
            rw [hw9] at hL9 ⊢
            clear hO hO' hg hw9 hpr hLb hbB hLa hna d0 d1 d2 d3 df c0 c1 c2 c3 c4 c5
            go_wp2
            go_roundw
            all_goals first
              | exact ⟨q + 1, _, _, bds ++ [⟨x1, x2, x.most, x.by_⟩], by omega, by go_num, hL9, HTK⟩
              | (simp [intOf]; omega)
        · have hqn : q = LL.length := by omega
          subst hqn
          have hfin : bds = LL.map (boundOf MM) := (by rw [hbds.out, List.take_length])
          have hfl : bds.length = LL.length := (by rw [hfin, List.length_map])
          obtain ⟨d0, d1, d2, d3, df⟩ := hL.at_.cell
          obtain ⟨r0, r1, r2, r3, rf⟩ := hL.res.cell
          rw [hfl] at d1
          have z := hL.bel
          have rf0 := rf 0
          have rf1 := rf 1
          have rf2 := rf 2
          have rf3 := rf 3
          have hfn : ¬ w.heap.size = yb := (by omega)
          have hfin2 := Lib.hid hL
          have hbe := hL.bel
          clear hL z
          go_wp2
          obtain ⟨e1, e2, e3, e4, e5⟩ := hfin2.out.out _ _ _ _ _ rfl
          refine bodyPost_ret (results_cell_row rfl _ _ w.heap.size _ _ (0, 0) _ rfl e5 Tryz.underlying120 rfl (by kernel_rfl)) rfl ?_
          refine ⟨Ab, cb, Al, cl, mb, ?_, e4, ?_, ?_, ?_, by have := hfin2.out.mbB; omega⟩
          · rw [hLL]
          · rw [hfl] at e2; rw [hLL, hMM, ← hfin]; exact e2
          · rw [hLL]; exact e1
          · rw [hMM]; exact e3
end Go.Proofs.YtelnkflmnbhclaaGreat

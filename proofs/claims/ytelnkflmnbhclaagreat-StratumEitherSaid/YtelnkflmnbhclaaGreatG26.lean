/- Contracts that the law leans on: Back, Sets. -/
import Derived.Test.YtelnkflmnbhclaaGreatG25
import Derived.Shelf.Slices.Cells
import Derived.Test.YtelnkflmnbhclaaGreatG14
import Derived.Lib.RowBridge
/- What is proved: slices.Reverse at a row of integers of the call's own; the contract of walks.back: the bounds of the longest walk to a point. Conditions: the numbers of last bounds are bounds of the system. -/
section
namespace Go.Proofs.YtelnkflmnbhclaaGreat
open Go.RowKit Go.Proofs Go.Shelf

theorem flatMap_int (xs : List Int) : xs.flatMap encInt = xs.map (Value.int .i64) := by
  induction xs with
  | nil => rfl
  | cons x xs ih => rw [List.flatMap_cons, ih]; rfl
theorem Own.setAll {B n c g : Nat} {e : TypeId} {w : World} {xs : List Int} (h : Own encInt 1 e B w (some ⟨g, 0, none⟩) n c xs) (ys : List Int) (hy : ys.length = n) :
    Own encInt 1 e B (w.setCells g 0 (ys.map (Value.int .i64))) (some ⟨g, 0, none⟩) n c ys ∧ w.grownBy (w.setCells g 0 (ys.map (Value.int .i64))) (some g) := by
  obtain ⟨h1, h2⟩ := ownsRow_setCells (ys.map (Value.int .i64)) 0 w _ h.own
  refine ⟨⟨hy, ?_⟩, h2⟩
  have : setL (xs.flatMap encInt) 0 (ys.map (Value.int .i64)) = ys.flatMap encInt := by
    have hl := h.len
    rw [flatMap_int, flatMap_int]
    apply List.ext_getElem?
    intro t
    rw [setL_get _ _ _ _ (by simp; omega)]
    split
    · rw [Nat.sub_zero]
    · rename_i hn
      have ht : n ≤ t := by simp at hn; omega
      rw [List.getElem?_eq_none (by simp; omega), List.getElem?_eq_none (by simp; omega)]
  rw [← this]
  exact h1
theorem Reverse_own (B : Nat) (A : Option Addr) (n c : Nat) (xs : List Int) (w : World) (h : Own encInt 1 3 B w A n c xs) (hn : n ≤ 1000000) :
    Calls Tryz.prog 161 #[.slice A n c] w fun e w' => e = .returned (.tuple #[]) ∧ Own encInt 1 3 B w' A n c xs.reverse ∧ w.grownBy w' (blockOf A) := by
  have hlen := h.len
  rcases h.form with ⟨rfl, rfl, rfl⟩ | ⟨g, rfl, _, hlt⟩
  · have hx : xs = [] := List.eq_nil_of_length_eq_zero hlen
    subst hx
    have := Any.slices_Reverse_int_empty Tryz.revI none 0 w
    change Calls Tryz.prog 161 _ _ _ at this
    refine this.mono ?_
    rintro e w' ⟨rfl, rfl⟩
    exact ⟨rfl, h, World.grownBy.refl _ _⟩
  · have hcon := Any.slices_Reverse_int_cells Tryz.revI g 0 n c xs w (by omega) (by omega) (fun j hj => by
      rw [Nat.zero_add]
      have := h.cells (fun _ => rfl) (i := j) (List.getElem?_eq_getElem hj) 0 _ rfl
      rw [Nat.mul_one, Nat.add_zero] at this
      rw [this]; simp [List.getD_eq_getElem?_getD, hj]) (fun j hj => h.free _)
    change Calls Tryz.prog 161 _ _ _ at hcon
    refine hcon.mono ?_
    rintro e w' ⟨rfl, q, rfl⟩
    have htk : xs.take n = xs := List.take_of_length_le (by omega)
    rw [htk]
    obtain ⟨h1, h2⟩ := (h.drewN q).setAll xs.reverse (by simp [hlen])
    exact ⟨rfl, h1, ⟨h2.os, h2.tape, h2.output, h2.size, h2.block⟩⟩

/-- the numbers of last bounds are bounds of the system -/
def LastOk (bs : List Bound) (last : List Row) : Prop := ∀ r ∈ last, r.length = 60 ∧ ∀ v : Int, 0 ≤ v → v < 60 → 0 ≤ rAt r v ∧ rAt r v < bs.length

set_option maxRecDepth 100000 in
set_option maxHeartbeats 4000000 in
theorem back_any (B ba off : Nat) (Al : Option Addr) (nl cl : Nat) (last : List Row) (pts : Int) (A : Option Addr) (n c : Nat) (bs : List Bound) (p : Int) (w : World)
    (hc1 : w.cell? ⟨ba, off + 1, none⟩ = some (.slice Al nl cl)) (hO : Own encRow 60 206 B w Al nl cl last) (hnl : 1 ≤ nl) (hnl2 : nl ≤ 100) (hlast : LastOk bs last) (hl : Rd encBound 4 w A n c bs) (hok : SysOk pts bs) (h1 : 0 ≤ p) (h2 : p < 60) :
    Calls Tryz.prog 165 #[.pointer (some ⟨ba, off, none⟩), .agg #[.int .i64 pts, .slice A n c], .int .i64 p] w fun e w' => ∃ A' c', e = .returned (.slice A' (backTo bs last nl p).length c') ∧ Below w.heap.size w w' ∧
      Own encInt 1 3 w.heap.size w' A' (backTo bs last nl p).length c' (backTo bs last nl p).reverse := by
  obtain ⟨gl, rfl⟩ : ∃ gl, Al = some ⟨gl, 0, none⟩ := by
    rcases hO.form with ⟨_, h, _⟩ | ⟨gl, h, _⟩
    · omega
    · exact ⟨gl, h⟩
  obtain ⟨w1, hw1⟩ : ∃ w1, w.alloc (.cells #[.int .i64 pts, .slice A n c] 117) = w1 := ⟨_, rfl⟩
  have hb1 : Below w.heap.size w w1 := (by rw [← hw1]; exact (Below.refl _ w).alloc (Nat.le_refl _) _)
  have hz1 : w1.heap.size = w.heap.size + 1 := (by rw [← hw1]; simp)
  have hsys : w1.heap[w.heap.size]? = some (.cells #[.int .i64 pts, .slice A n c] 117 (0, 0)) := (by rw [← hw1]; exact heap_alloc_new w _)
  have hbl : ba < w.heap.size := block_lt_of_cell hc1
  have HL := Lib.hid (hl.below hb1 (Nat.le_refl _))
  have HOK := Lib.hid hok
  have HLO := Lib.hid hlast
  have HLEN := Lib.hid hl.len
  have HO := Lib.hid (hO.below hb1 (Nat.le_refl _))
  have HC1 := Lib.hid ((hb1.cell (p := ⟨ba, off + 1, none⟩) hbl).trans hc1)
  have HSYS := Lib.hid hsys
  have HOL := Lib.hid hO.len
  have hbl2 : w.heap.size < w1.heap.size := (by omega)
  have hbl3 : ba < w1.heap.size := (by omega)
  have hc1' := HC1.out
  obtain ⟨R, hR⟩ : ∃ R, backTo bs last nl p = R := ⟨_, rfl⟩
  have HR := Lib.hid hR
  clear hl hok hlast hO hc1 hsys
  rw [hR]
  clear hR
  go_enter Tryz.func165, Tryz.ntmps165
  go_wp2
  clear hc1' hw1
  go_loopw [2, 7, 8] (fun s2 s7 s8 wr => ∃ (kk : Nat) (q : Int) (A' : Option Addr) (c' : Nat) (out : List Int), kk < nl ∧ 0 ≤ q ∧ q < 60 ∧ s2 = .int .i64 q ∧ s7 = .slice A' out.length c' ∧ s8 = .int .i64 kk ∧ Below w1.heap.size w1 wr ∧ out.length ≤ 100 - kk ∧ Hid (out ++ backTo bs last (kk + 1) q = R) ∧ Hid (Own encInt 1 3 w1.heap.size wr A' out.length c' out)) (fun _ _ s8 _ => (intOf s8).toNat)
  case atStart => exact ⟨nl - 1, p, none, 0, [], by omega, h1, h2, rfl, rfl, by go_num, Below.refl _ _, by simp, (show _ = _ by rw [List.nil_append, show nl - 1 + 1 = nl by omega]; exact HR.out), (show Own _ _ _ _ _ _ _ _ _ from Own.none_ _ _ _ _ _)⟩
  case round =>
    obtain ⟨kk, q, A', c', out, hk, q1, q2, rfl, rfl, rfl, hb, hol, hout, hO⟩ := hrel
    have hsz := hb.size
    by_cases h0 : 0 < kk
    · obtain ⟨j, rfl⟩ : ∃ j, kk = j + 1 := ⟨kk - 1, by omega⟩
      have hlt : j + 1 < last.length := (by rw [HOL.out]; exact hk)
      have hrow : last[j + 1]? = some last[j + 1] := List.getElem?_eq_getElem hlt
      obtain ⟨r, hr⟩ : ∃ r, last[j + 1] = r := ⟨_, rfl⟩
      rw [hr] at hrow
      obtain ⟨l60, lv⟩ := HLO.out r (List.mem_of_getElem? hrow)
      obtain ⟨v1, v2⟩ := lv q q1 q2
      have cR := (HO.out.below hb (Nat.le_refl _)).cellRow (j := q.toNat) hrow (by omega)
      have er : r.getD q.toNat 0 = rAt r q := rfl
      rw [er] at cR
      clear er
      have hx : last.getD (j + 1) [] = r := (by rw [List.getD_eq_getElem?_getD, hrow]; rfl)
      have hstep : backTo bs last (j + 2) q = rAt r q :: backTo bs last (j + 1) (bs.getD (rAt r q).toNat default).src := (by rw [backTo, hx])
      obtain ⟨i, hi⟩ : ∃ i : Nat, rAt r q = i := ⟨(rAt r q).toNat, by omega⟩
      rw [hi] at cR v1 v2 hstep
      have hin : i < n := (by have := HLEN.out; omega)
      obtain ⟨b2, off2, y, rfl, hbw2, hy, hcell2⟩ := HL.out.one hin
      have yc : w1.cell? ⟨b2, off2 + i * 4, none⟩ = some (.int .i64 y.src) := hcell2 0 _ rfl
      have y0 := (hb.cell (p := ⟨b2, off2 + i * 4, none⟩) hbw2).trans yc
      have hys := HOK.out.b y (List.mem_of_getElem? hy)
      have hp60 := HOK.out.p2
      have hyd : (bs.getD ((i : Int)).toNat default) = y := (by rw [Int.toNat_natCast, List.getD_eq_getElem?_getD, hy]; rfl)
      rw [hyd] at hstep
      have cA := (hb.cell (p := ⟨ba, off + 1, none⟩) hbl3).trans HC1.out
      have cS1 : w1.cell? ⟨w.heap.size, 1, none⟩ = some (.slice (some ⟨b2, off2, none⟩) n c) := (by simp [World.cell?, HSYS.out])
      have cS := (hb.cell (p := ⟨w.heap.size, 1, none⟩) hbl2).trans cS1
      have HY := Lib.hid yc
      have HCS := Lib.hid cS1
      have HST := Lib.hid hstep
      have o3 := hys.1
      have o4 : y.src < 60 := (by omega)
      have hjl : j + 1 < nl := hk
      have hwl : w.heap.size < wr.heap.size := (by omega)
      have hb2l : b2 < wr.heap.size := (by omega)
      clear yc cS1 hyd hstep hi hrow hr hx lv hy hcell2 hys l60 hp60 hlt
      have hO5 := hO.out.alloc (.cells #[.int .i64 (i : Int)] 3)
      have hrd5 := Rd.single (enc := encInt) (k := 1) wr #[.int .i64 (i : Int)] 3 [(i : Int)] 1 rfl (by omega) (fun _ => rfl) (by simp [encInt])
      have hb5 : Below w1.heap.size w1 (wr.alloc (.cells #[.int .i64 (i : Int)] 3)) := hb.alloc hsz _
      go_wp2_with (at_builtin; refine wpList_append_src elInt (fun _ => rfl) oneInt rfl _ _ rfl _ _ _ _ rfl rfl hO5 hrd5 (by omega) (by decide) (by simp; omega) ?_; intro A2 c2 w8 hO8 hg8 hA8
                   have hb8 := hb5.grown hg8 (by simp; omega) (fun j e => hO5.ltB j e)
                   have cS := (hb8.cell (p := ⟨w.heap.size, 1, none⟩) hbl2).trans HCS.out
                   have y0 := (hb8.cell (p := ⟨b2, off2 + i * 4, none⟩) hbw2).trans HY.out)
      go_roundw
      all_goals first
        | (simp [intOf]; done)
        | exact ⟨j, y.src, A2, c2, out ++ [(i : Int)], by omega, o3, o4, rfl, by simp, rfl, hb8, by simp; omega, (show _ = _ by
            have h9 := hout.out
            rw [show j + 1 + 1 = j + 2 from rfl, HST.out] at h9
            rw [List.append_assoc]; exact h9), (show Own _ _ _ _ _ _ _ _ _ by rw [List.length_append]; exact hO8)⟩
    · have hk0 : kk = 0 := by omega
      subst hk0
      have hfin : out = R := (by
        have h9 := hout.out
        rw [show backTo bs last (0 + 1) q = [] from rfl, List.append_nil] at h9; exact h9)
      subst hfin
      have HOO := Lib.hid hO.out
      clear hO hout
      go_wp2_with (go_at_call 161; refine (Reverse_own _ A' _ c' out wr HOO.out (by omega)).mono ?_; rintro e w2 ⟨rfl, hO2, hg2⟩)
      go_ret
      exact ⟨A', c', rfl, (hb1.trans (hb.mono (by omega))).grown hg2 (by omega) (fun k e => by have := HOO.out.ltB k e; omega), hO2.mono (by omega)⟩
end Go.Proofs.YtelnkflmnbhclaaGreat
end

/- What is proved: a slice of lists of places in memory; slices.SortFunc at it. Conditions: the lists differ. -/
section
namespace Go.Proofs.YtelnkflmnbhclaaGreat
open Go.RowKit Go.Proofs Go.Shelf Go.Sort

structure Hdr where
  A : Option Addr
  n : Nat
  c : Nat
deriving Inhabited
def hdrV (h : Hdr) : Value := .slice h.A h.n h.c
def encHdr (h : Hdr) : List Value := [hdrV h]
theorem oneHdr (h : Hdr) : ∀ u ∈ encHdr h, u.oneCell' = true := by simp [encHdr, hdrV, Value.oneCell']
theorem elSets : ElemT Tryz.prog 59 30 1 24 := elemT_of (z := .slice none 0 0) Tryz.underlying59 (by kernel_rfl) rfl (by decide)
theorem flatMap_hdr (xs : List Hdr) : xs.flatMap encHdr = xs.map hdrV := by
  induction xs with
  | nil => rfl
  | cons x xs ih => rw [List.flatMap_cons, ih]; rfl
theorem Own.setHdr {B n c g : Nat} {e : TypeId} {w : World} {xs : List Hdr} (h : Own encHdr 1 e B w (some ⟨g, 0, none⟩) n c xs) (ys : List Hdr) (hy : ys.length = n) :
    Own encHdr 1 e B (w.setCells g 0 (ys.map hdrV)) (some ⟨g, 0, none⟩) n c ys ∧ w.grownBy (w.setCells g 0 (ys.map hdrV)) (some g) := by
  obtain ⟨h1, h2⟩ := ownsRow_setCells (ys.map hdrV) 0 w _ h.own
  refine ⟨⟨hy, ?_⟩, h2⟩
  have : setL (xs.flatMap encHdr) 0 (ys.map hdrV) = ys.flatMap encHdr := by
    have hl := h.len
    rw [flatMap_hdr, flatMap_hdr]
    apply List.ext_getElem?
    intro t
    rw [setL_get _ _ _ _ (by simp; omega)]
    split
    · rw [Nat.sub_zero]
    · rename_i hn
      have ht : n ≤ t := by simp at hn; omega
      rw [List.getElem?_eq_none (by simp; omega), List.getElem?_eq_none (by simp; omega)]
  rw [← this]
  exact h1
theorem grow_below (W : World) (os : Array Obj) : Below W.heap.size W (grow W os) := ⟨rfl, rfl, rfl, by simp [grow], fun k hk => by
  show (W.heap ++ os)[k]? = _
  rw [Array.getElem?_append_left hk]⟩
theorem grow_grown (W : World) (os : Array Obj) : W.grownBy (grow W os) none := ⟨rfl, rfl, rfl, by simp [grow], fun k hk _ => (grow_below W os).block k hk⟩
theorem ent_cheap1 : ∀ args w, (callFunc 136 args).run Tryz.prog w = .ok (.enter 136 args) w := enters_of Tryz.func136 (by kernel_rfl) rfl
theorem sortWorld_block {α : Type} [Inhabited α] (enc : α → Value) (w : World) (g m : Nat) (dk : Array α) (os : Array Obj) (b : Nat) (hb : b < w.heap.size) (hne : b ≠ g) : (sortWorld enc w g 0 m dk os).heap[b]? = w.heap[b]? := by
  show ((w.heap.modify g (onCells (putCells enc 0 dk))) ++ os)[b]? = _
  rw [Array.getElem?_append_left (by simpa using hb), Array.getElem?_modify, if_neg (fun e => hne e.symm)]
theorem sortWorld_size {α : Type} [Inhabited α] (enc : α → Value) (w : World) (g m : Nat) (dk : Array α) (os : Array Obj) : w.heap.size ≤ (sortWorld enc w g 0 m dk os).heap.size := by
  show _ ≤ ((w.heap.modify g (onCells (putCells enc 0 dk))) ++ os).size
  simp

theorem SortFunc_Sets (B : Nat) (A : Option Addr) (n c : Nat) (hs : List Hdr) (ls : List (List Place)) (w : World) (hO : Own encHdr 1 30 B w A n c hs) (hll : ls.length = n) (hn : n ≤ 1000000)
    (hrd : ∀ (i : Nat) (h : Hdr) (s : List Place), hs[i]? = some h → ls[i]? = some s → Rd encPlace 2 w h.A h.n h.c s ∧ (∀ b, blockOf h.A = some b → blockOf A ≠ some b)) (hnd : ls.Nodup) :
    Calls Tryz.prog 135 #[.slice A n c, .func (.func 136) #[] #[]] w fun e w' => e = .returned (.tuple #[]) ∧ w.grownBy w' (blockOf A) ∧
      ∃ hs', Own encHdr 1 30 B w' A n c hs' ∧ ∀ (i : Nat) (h : Hdr) (s : List Place), hs'[i]? = some h → (sortLx ls)[i]? = some s → ∃ j : Nat, hs[j]? = some h ∧ ls[j]? = some s := by
  have hlen := hO.len
  rcases hO.form with ⟨rfl, rfl, rfl⟩ | ⟨g, rfl, _, hlt⟩
  · have hx : hs = [] := List.eq_nil_of_length_eq_zero hlen
    subst hx
    have := AnyF.slices_SortFunc_none { Tryz.sortPls with } none 0 (.func (.func 136) #[] #[]) w
    change Calls Tryz.prog 135 _ _ _ at this
    refine this.mono ?_
    rintro e w' ⟨rfl, rfl⟩
    exact ⟨rfl, World.grownBy.refl _ _, [], hO, fun i h s hi => by simp at hi⟩
  · by_cases hn0 : n = 0
    · subst hn0
      have hx : hs = [] := List.eq_nil_of_length_eq_zero hlen
      subst hx
      have := AnyF.slices_SortFunc_none { Tryz.sortPls with } (some ⟨g, 0, none⟩) c (.func (.func 136) #[] #[]) w
      change Calls Tryz.prog 135 _ _ _ at this
      refine this.mono ?_
      rintro e w' ⟨rfl, rfl⟩
      exact ⟨rfl, World.grownBy.refl _ _, [], hO, fun i h s hi => by simp at hi⟩
    · haveI : Inhabited (Fin n) := ⟨⟨0, by omega⟩⟩
      obtain ⟨H, hH⟩ : ∃ H : Fin n → Hdr, ∀ i : Fin n, hs[i.val]? = some (H i) := ⟨fun i => hs[i.val]'(by rw [hlen]; exact i.2), fun i => List.getElem?_eq_getElem (by rw [hlen]; exact i.2)⟩
      obtain ⟨L, hL⟩ : ∃ L : Fin n → List Place, ∀ i : Fin n, ls[i.val]? = some (L i) := ⟨fun i => ls[i.val]'(by rw [hll]; exact i.2), fun i => List.getElem?_eq_getElem (by rw [hll]; exact i.2)⟩
      have hLinj : ∀ i j, L i = L j → i = j := fun i j e => by
        have h1 := hL i
        have h2 := hL j
        rw [← e] at h2
        obtain ⟨a1, b1⟩ := List.getElem?_eq_some_iff.1 h1
        obtain ⟨a2, b2⟩ := List.getElem?_eq_some_iff.1 h2
        exact Fin.ext ((List.getElem_inj hnd).1 (b1.trans b2.symm))
      have hmapH : (List.finRange n).map H = hs := by
        apply List.ext_getElem?
        intro i
        by_cases hi : i < n
        · rw [List.getElem?_map, List.getElem?_eq_getElem (by simpa using hi)]
          have := hH ⟨i, hi⟩
          simp only at this
          rw [this]; simp
        · rw [List.getElem?_eq_none (by simpa using hi), List.getElem?_eq_none (by omega)]
      have hmapL : (List.finRange n).map L = ls := by
        apply List.ext_getElem?
        intro i
        by_cases hi : i < n
        · rw [List.getElem?_map, List.getElem?_eq_getElem (by simpa using hi)]
          have := hL ⟨i, hi⟩
          simp only at this
          rw [this]; simp
        · rw [List.getElem?_eq_none (by simpa using hi), List.getElem?_eq_none (by omega)]
      have swo : SWO (ltOf fun i j : Fin n => cmpLx (L i) (L j)) := ⟨fun i => swoLx.irrefl (L i), fun i j k => swoLx.trans (L i) (L j) (L k), fun i j k => swoLx.ntrans (L i) (L j) (L k)⟩
      have tot : ∀ i j : Fin n, (ltOf fun i j : Fin n => cmpLx (L i) (L j)) i j = false → (ltOf fun i j : Fin n => cmpLx (L i) (L j)) j i = false → i = j := fun i j h1 h2 => hLinj i j (totLx (L i) (L j) h1 h2)
      have hds : (List.finRange n).toArray.size = n := by simp
      have hHold : Holds (fun i => hdrV (H i)) w g 0 (List.finRange n).toArray := fun j hj => by
        have hj' : j < n := by simpa using hj
        have hget : (List.finRange n).toArray[j]! = ⟨j, hj'⟩ := by rw [getElem!_pos _ j (by simpa using hj')]; simp
        rw [hget, Nat.zero_add]
        have := hO.cells (fun _ => rfl) (hH ⟨j, hj'⟩) 0 _ rfl
        rw [Nat.mul_one, Nat.add_zero] at this
        exact ⟨this, hO.free j⟩
      have hcmp : CmpLays1 Tryz.prog 136 #[] (fun i => hdrV (H i)) (fun i j : Fin n => cmpLx (L i) (L j)) g 0 (List.finRange n).toArray.size w := fun m os dk _ x y => by
        have key : ∀ i : Fin n, Rd encPlace 2 (sortWorld (fun i => hdrV (H i)) w g 0 m dk os) (H i).A (H i).n (H i).c (L i) := fun i => by
          obtain ⟨r1, r2⟩ := hrd i.val (H i) (L i) (hH i) (hL i)
          refine ⟨r1.len, r1.big, r1.cap, fun h0 => ?_⟩
          obtain ⟨b, off, e, hb, hc⟩ := r1.at_ h0
          have hne : b ≠ g := fun e2 => r2 b (by rw [e]; rfl) (by rw [e2]; rfl)
          refine ⟨b, off, e, Nat.lt_of_lt_of_le hb (sortWorld_size _ _ _ _ _ _), fun i x hx j u hu => ?_⟩
          rw [← hc i x hx j u hu]
          unfold World.cell?
          rw [sortWorld_block _ _ _ _ _ _ b hb hne]
        exact (cheap1_any _ _ _ _ _ _ _ _ _ (key x) (key y)).mono fun _ _ ⟨he, q, os', h⟩ => ⟨he, q, os', h⟩
      have hcon := Any.slices_SortFunc_total Tryz.sortPls (fun i : Fin n => hdrV (H i)) (fun _ => rfl) (fun i j : Fin n => cmpLx (L i) (L j)) swo 136 #[] g 0 c (List.finRange n).toArray w ent_cheap1 hcmp hHold hlt (by rw [hds]; omega) tot
      change Calls Tryz.prog 135 _ _ _ at hcon
      rw [hds] at hcon
      refine hcon.mono ?_
      rintro e w' ⟨rfl, q, os, rfl⟩
      obtain ⟨S, hS⟩ : ∃ S, (List.finRange n).toArray.toList.mergeSort (fun x y => !(ltOf fun i j : Fin n => cmpLx (L i) (L j)) y x) = S := ⟨_, rfl⟩
      rw [hS]
      have hperm : S.Perm (List.finRange n) := by rw [← hS]; simpa using List.mergeSort_perm (List.finRange n) _
      have hSl : S.length = n := by rw [hperm.length_eq]; simp
      have hpw : S.Pairwise (fun x y => geLx (L x) (L y) = true) := by
        rw [← hS]
        refine List.pairwise_mergeSort (le := fun x y : Fin n => !(ltOf fun i j : Fin n => cmpLx (L i) (L j)) y x) ?_ ?_ _
        · intro a b c h1 h2
          have := swoLx.ntrans (L c) (L b) (L a)
          simp only [Bool.not_eq_true'] at h1 h2 ⊢
          exact this h2 h1
        · intro a b
          rw [Bool.or_eq_true, Bool.not_eq_true', Bool.not_eq_true']
          rcases lexLt_tri (L a) (L b) with e | e | e
          · exact .inl (ltLxF.2 (fun h => lexLt_irrefl _ (lexLt_trans e h)))
          · exact .inl (ltLxF.2 (by rw [e]; exact lexLt_irrefl _))
          · exact .inr (ltLxF.2 (fun h => lexLt_irrefl _ (lexLt_trans e h)))
      have hsorted : sortLx ls = S.map L := by
        refine sortLx_eq ?_ (List.pairwise_map.2 hpw)
        rw [← hmapL]
        exact (hperm.map L).symm
      have hbr := Lib.putRow_eq_setCells (fun i : Fin n => hdrV (H i)) w g 0 (List.finRange n).toArray S q hHold (by rw [hds]; exact hSl)
      have hworld : sortWorld (fun i => hdrV (H i)) w g 0 q S.toArray os = grow ((w.drewN q).setCells g 0 ((S.map H).map hdrV)) os := by
        unfold sortWorld
        rw [hbr, List.map_map]; rfl
      rw [hworld]
      obtain ⟨o1, o2⟩ := (hO.drewN q).setHdr (S.map H) (by rw [List.length_map, hSl])
      refine ⟨rfl, ?_, S.map H, o1.below (grow_below _ os) (Nat.le_refl _), fun i h s hi hsi => ?_⟩
      · have o3 : w.grownBy ((w.drewN q).setCells g 0 ((S.map H).map hdrV)) (some g) := ⟨o2.os, o2.tape, o2.output, o2.size, o2.block⟩
        have g3 := grow_grown ((w.drewN q).setCells g 0 ((S.map H).map hdrV)) os
        exact o3.trans ⟨g3.os, g3.tape, g3.output, g3.size, fun k hk _ => g3.block k hk (by simp)⟩
      · rw [hsorted, List.getElem?_map] at hsi
        rw [List.getElem?_map] at hi
        cases hx : S[i]? with
        | none => rw [hx] at hi; cases hi
        | some x =>
          rw [hx] at hi hsi
          cases hi
          cases hsi
          exact ⟨x.val, hH x, hL x⟩

/-- lists of places in memory: the headers in one row, each list in a row of its own -/
def SetsAt (B : Nat) (W : World) (A : Option Addr) (c : Nat) (sets : List (List Place)) : Prop :=
  ∃ hs : List Hdr, Own encHdr 1 30 B W A sets.length c hs ∧ ∀ (i : Nat) (h : Hdr) (s : List Place), hs[i]? = some h → sets[i]? = some s → h.n = s.length ∧ Own encPlace 2 37 B W h.A s.length h.c s
theorem SetsAt.none_ (B : Nat) (W : World) : SetsAt B W none 0 [] := ⟨[], Own.none_ _ _ _ _ _, fun i h s hi => by simp at hi⟩
theorem SetsAt.grow {B B' : Nat} {W W' : World} {A : Option Addr} {c : Nat} {sets : List (List Place)} (h : SetsAt B W A c sets) (hb : Below W.heap.size W W') (hB : B' ≤ B) : SetsAt B' W' A c sets := by
  obtain ⟨hs, h1, h2⟩ := h
  refine ⟨hs, (h1.below hb (Nat.le_refl _)).mono hB, fun i x s hi hs' => ?_⟩
  obtain ⟨a, b⟩ := h2 i x s hi hs'
  exact ⟨a, (b.below hb (Nat.le_refl _)).mono hB⟩
theorem SetsAt.kept {B : Nat} {W W' : World} {A : Option Addr} {c : Nat} {sets : List (List Place)} (h : SetsAt B W A c sets) {row : Option Nat} (hg : W.grownBy W' row) (hr : ∀ r, row = some r → ∃ cur e fr, W.heap[r]? = some (.cells cur e fr) ∧ e ≠ 30 ∧ e ≠ 37) : SetsAt B W' A c sets := by
  obtain ⟨hs, h1, h2⟩ := h
  have key : ∀ {α : Type} {enc : α → List Value} {k n c : Nat} {e : TypeId} {A : Option Addr} {xs : List α}, Own enc k e B W A n c xs → (e = 30 ∨ e = 37) → Own enc k e B W' A n c xs := by
    intro α enc k n c e A xs hO he
    refine hO.kept hg ?_
    cases row with
    | none => exact noneRow _
    | some r =>
      obtain ⟨cur, e', fr, h3, h4, h5⟩ := hr r rfl
      refine hO.ne_type h3 (fun e2 => ?_)
      rcases he with rfl | rfl
      · exact h4 e2
      · exact h5 e2
  refine ⟨hs, key h1 (.inl rfl), fun i x s hi hs' => ?_⟩
  obtain ⟨a, b⟩ := h2 i x s hi hs'
  exact ⟨a, key b (.inr rfl)⟩
/-- a list more -/
theorem SetsAt.push {B : Nat} {W W' : World} {A A2 : Option Addr} {c c2 : Nat} {sets : List (List Place)} {hs : List Hdr} (h2 : ∀ (i : Nat) (h : Hdr) (s : List Place), hs[i]? = some h → sets[i]? = some s → h.n = s.length ∧ Own encPlace 2 37 B W h.A s.length h.c s) (h1 : Own encHdr 1 30 B W A sets.length c hs) {x : Hdr} {s0 : List Place} (hx : x.n = s0.length) (hxo : Own encPlace 2 37 B W x.A s0.length x.c s0)
    (hg : W.grownBy W' (blockOf A)) (h3 : Own encHdr 1 30 B W' A2 (sets.length + 1) c2 (hs ++ [x])) : SetsAt B W' A2 c2 (sets ++ [s0]) := by
  have key : ∀ {n c : Nat} {A' : Option Addr} {xs : List Place}, Own encPlace 2 37 B W A' n c xs → Own encPlace 2 37 B W' A' n c xs := fun hO => hO.kept hg (hO.apart h1 (by decide))
  have hlen := h1.len
  refine ⟨hs ++ [x], by rw [List.length_append]; exact h3, fun i y s hi hs' => ?_⟩
  by_cases hlt : i < sets.length
  · rw [List.getElem?_append_left (by omega)] at hi
    rw [List.getElem?_append_left hlt] at hs'
    obtain ⟨a, b⟩ := h2 i y s hi hs'
    exact ⟨a, key b⟩
  · have hie : i = sets.length := by
      have := (List.getElem?_eq_some_iff.1 hs').1
      rw [List.length_append, List.length_singleton] at this; omega
    subst hie
    rw [List.getElem?_append_right (Nat.le_refl _), Nat.sub_self] at hs'
    rw [← hlen, List.getElem?_append_right (Nat.le_refl _), Nat.sub_self] at hi
    cases hi
    cases hs'
    exact ⟨hx, key hxo⟩
/-- sorted -/
theorem SetsAt.sort {B : Nat} {w : World} {A : Option Addr} {c : Nat} {sets : List (List Place)} (h : SetsAt B w A c sets) (hn : sets.length ≤ 1000000) (hnd : sets.Nodup) (hsm : ∀ s ∈ sets, s.length ≤ 1000000) :
    Calls Tryz.prog 135 #[.slice A sets.length c, .func (.func 136) #[] #[]] w fun e w' => e = .returned (.tuple #[]) ∧ w.grownBy w' (blockOf A) ∧ SetsAt B w' A c (sortLx sets) ∧ (∀ k, blockOf A = some k → B ≤ k) := by
  obtain ⟨hs, h1, h2⟩ := h
  refine (SortFunc_Sets B A sets.length c hs sets w h1 rfl hn (fun i x s hi hs' => ?_) hnd).mono ?_
  · obtain ⟨a, b⟩ := h2 i x s hi hs'
    refine ⟨?_, fun q hq e => ?_⟩
    · rw [a]; exact b.rd (fun _ => rfl) (by have := hsm s (List.mem_of_getElem? hs'); omega)
    · rcases b.apart h1 (by decide) with e2 | e2
      · rw [e2] at hq; cases hq
      · exact e2 (hq.trans e.symm)
  · rintro e w' ⟨rfl, hg, hs', o1, o2⟩
    refine ⟨rfl, hg, ⟨hs', by rw [(sortLx_perm sets).length_eq]; exact o1, fun i x s hi hsi => ?_⟩, fun k hk => h1.ltB k hk⟩
    obtain ⟨j, a1, a2⟩ := o2 i x s hi hsi
    obtain ⟨b1, b2⟩ := h2 j x s a1 a2
    exact ⟨b1, b2.kept hg (b2.apart h1 (by decide))⟩
end Go.Proofs.YtelnkflmnbhclaaGreat
end

/- Contracts that the law leans on: Solve, Long, RevLay. -/
import Derived.Test.YtelnkflmnbhclaaGreatG24
import Derived.Test.YtelnkflmnbhclaaGreatG04
import Derived.Test.YtelnkflmnbhclaaGreatG11
import Derived.Test.YtelnkflmnbhclaaGreatG21
import Derived.Test.YtelnkflmnbhclaaGreatG22
import Derived.Shelf.Lays
import Derived.Ground.NamesProg
import Derived.Test.YtelnkflmnbhclaaGreatChecked
/- What is proved: the contracts of gauge.copied, solved, solvable, Solve. Conditions: the system is as said. -/
section
namespace Go.Proofs.YtelnkflmnbhclaaGreat
open Go.RowKit Go.Proofs Go.Shelf

/-- a system as said -/
structure SysOk (pts : Int) (bs : List Bound) : Prop where
  p1 : 1 ≤ pts
  p2 : pts ≤ 60
  len : bs.length ≤ 400
  b : ∀ b ∈ bs, 0 ≤ b.src ∧ b.src < pts ∧ 0 ≤ b.dst ∧ b.dst < pts ∧ b.src ≠ b.dst ∧ -1000000 ≤ b.most ∧ b.most ≤ 1000000
theorem SysOk.okB {pts : Int} {bs : List Bound} (h : SysOk pts bs) : ∀ b ∈ bs, okB b := fun b hb => by
  obtain ⟨a, c, d, e, f, g, i⟩ := h.b b hb
  have := h.p2
  exact ⟨a, by omega, d, by omega, g, i⟩
theorem sysOk_of {pts : Int} {bs : List Bound} (h : checkSys pts bs = 0) : SysOk pts bs := by
  unfold checkSys at h
  by_cases h1 : 60 < pts ∨ 400 < bs.length
  · rw [if_pos h1] at h; cases h
  · rw [if_neg h1] at h
    by_cases h2 : pts < 1 ∨ bs.any (wrongB pts) = true
    · rw [if_pos h2] at h; cases h
    · simp only [not_or, Bool.not_eq_true, List.any_eq_false] at h2
      refine ⟨by omega, by omega, by omega, fun b hb => ?_⟩
      have := h2.2 b hb
      simp [wrongB, withinB] at this
      omega

set_option maxHeartbeats 1000000 in
theorem copied_any (A : Option Addr) (n c : Nat) (l : List Int) (w : World) (hl : Rd encInt 1 w A n c l) (hsm : n ≤ 1000000) :
    Calls Tryz.prog 203 #[.slice A n c] w fun e w' => ∃ A' c', e = .returned (.slice A' n c') ∧ Own encInt 1 3 w.heap.size w' A' n c' l ∧ Below w.heap.size w w' := by
  have HL := Lib.hid hl
  clear hl
  go_enter Tryz.func203, Tryz.ntmps203
  go_wp2_with (at_builtin; refine wpList_append_src elInt (fun _ => rfl) oneInt rfl _ _ rfl _ _ _ _ rfl rfl (Own.none_ encInt 1 3 w.heap.size w) HL.out (by omega) (by decide) (Nat.le_refl _) ?_; intro A' c' w1 hown hg hat)
  go_ret
  refine ⟨A', c', by simp, by simpa using hown, ?_⟩
  exact (Below.refl _ w).grown hg (Nat.le_refl _) (fun k hk => by simp [blockOf] at hk)

theorem rd_row {w : World} {g : Nat} {r : List Int} (h : rowAt? w g 60 = some (rowA r)) (m : Nat) (hm : m ≤ 60) : Rd encInt 1 w (some ⟨g, 0, none⟩) m 60 (r.take m) := by
  have hl := rowAt?_len h
  refine ⟨by rw [List.length_take]; omega, by omega, ⟨hm, by omega⟩, fun _ => ⟨g, 0, rfl, rowAt?_lt h, fun i x hx j u hu => ?_⟩⟩
  have hi : i < m := by
    have := (List.getElem?_eq_some_iff.1 hx).1
    rw [List.length_take] at this; omega
  rw [List.getElem?_take_of_lt hi] at hx
  have hj : j = 0 ∧ u = .int .i64 x := by
    cases j with
    | zero => simp [encInt] at hu; exact ⟨rfl, hu.symm⟩
    | succ j => simp [encInt] at hu
  obtain ⟨rfl, rfl⟩ := hj
  have := rowAt?_int h (i := i) (by omega)
  simp only [Nat.zero_add, Nat.mul_one, Nat.add_zero]
  rw [this, List.getD, hx]; rfl
theorem zeroRow_at (i : Int) (h1 : 0 ≤ i) (h2 : i < 60) : rAt zeroRow i = 0 := by
  unfold rAt zeroRow
  have : i.toNat < 60 := by omega
  rw [List.getD_eq_getElem?_getD, List.getElem?_replicate, if_pos this]; rfl

set_option maxRecDepth 100000 in
set_option maxHeartbeats 2000000 in
theorem solved_any (pts : Int) (A : Option Addr) (n c : Nat) (bs : List Bound) (w : World) (hl : Rd encBound 4 w A n c bs) (hok : SysOk pts bs) :
    Calls Tryz.prog 145 #[.agg #[.int .i64 pts, .slice A n c]] w fun e w' => ∃ A' c', e = .returned (.tuple #[.slice A' (solvedX pts bs).length c', .bool (solvedOk pts bs)]) ∧ Below w.heap.size w w' ∧
      Own encInt 1 3 w.heap.size w' A' (solvedX pts bs).length c' (solvedX pts bs) := by
  obtain ⟨W1, hW1⟩ : ∃ W1, (w.alloc (.cells #[.int .i64 pts, .slice A n c] 117)).alloc (.cells (rowA zeroRow) 207) = W1 := ⟨_, rfl⟩
  have hl1 : Rd encBound 4 W1 A n c bs := by rw [← hW1]; exact (hl.alloc _).alloc _
  have hr1 : rowAt? W1 (w.heap.size + 1) 60 = some (rowA zeroRow) := by rw [← hW1, rowAt?_alloc_at _ _ (by simp), if_pos (by rw [rowA_size, zeroRow_len])]
  have hb1 : Below w.heap.size w W1 := by rw [← hW1]; exact ((Below.refl _ w).alloc (Nat.le_refl _) _).alloc (by simp) _
  have hs1 : W1.heap.size = w.heap.size + 2 := by rw [← hW1]; simp
  have c0 : W1.cell? ⟨w.heap.size, 0, none⟩ = some (.int .i64 pts) := by rw [← hW1, World.cell?_alloc_past _ _ _ (by simp), World.cell?_alloc_at _ _ _ _ rfl]; rfl
  have hp1 := hok.p1
  have hp2 := hok.p2
  have hset := settled_any pts A n c bs (w.heap.size + 1) zeroRow W1 hl1 hr1 (fun b o hb hn0 e => by
    obtain ⟨b', off, e', hlt, _⟩ := hl.at_ hn0
    rw [hb] at e'
    cases e'
    omega) hok.okB (by have := hok.len; have := hl.len; omega) (by omega) hp2 (fun i i1 i2 => by rw [zeroRow_at i i1 i2]; unfold noneV; omega)
  have hSR : settled pts bs zeroRow = solvedR pts bs := rfl
  have hlen := settled_len pts bs zeroRow
  rw [hSR] at hset hlen
  have hx : solvedX pts bs = if (solvedR pts bs).2.2 then (solvedR pts bs).1.take pts.toNat else [] := rfl
  have ho : solvedOk pts bs = (solvedR pts bs).2.2 := rfl
  rw [hx, ho]
  clear hx ho hSR hl hl1 hr1
  generalize solvedR pts bs = R at hset hlen ⊢
  obtain ⟨rr, ll, ok⟩ := R
  simp only at hset hlen ⊢
  obtain ⟨hlr, hll⟩ := hlen
  have HLL := Lib.hid hll
  have HLR := Lib.hid hlr
  have HS := Lib.hid hset
  have HC0 := Lib.hid c0
  have HW := Lib.hid hW1
  have hpn : (pts.toNat : Int) = pts := by omega
  have HPN := Lib.hid hpn
  clear hset c0 hW1 hpn hll hlr
  cases ok
  · go_enter Tryz.func145, Tryz.ntmps145
    go_wp2_with (first
      | (refine wpL_alloc (t := 207) rfl rfl zero207 ?_)
      | (go_at_call 202; rw [HW.out]; refine HS.out.mono ?_; rintro e w2 ⟨rfl, hrow, hg⟩)
      | (refine wpL_alloc (t := 206) rfl rfl zero206 ?_)
      | (refine wpL_storeNew row206 rfl rfl rfl rfl (by simp [zeroRow]) rfl HLL.out ?_))
    go_ret2
    refine ⟨none, 0, rfl, ?_, Own.none_ _ _ _ _ _⟩
    have hg2 := hg.size
    exact (hb1.grown hg (by omega) (fun k e => by cases e; omega)).alloc (by omega) _
  · have hz60 : 0 ≤ pts := by omega
    go_enter Tryz.func145, Tryz.ntmps145
    go_wp2_with (first
      | (refine wpL_alloc (t := 207) rfl rfl zero207 ?_)
      | (go_at_call 202; rw [HW.out]; refine HS.out.mono ?_; rintro e w2 ⟨rfl, hrow, hg⟩; have hs2 := hg.size; have c2 : w2.cell? ⟨w.heap.size, 0, none⟩ = some (.int .i64 pts) := ((gcell hg).1 _ _ (by omega) (by omega)).trans HC0.out; have q2 : w.heap.size < w2.heap.size := (by omega))
      | (refine wpL_alloc (t := 206) rfl rfl zero206 ?_)
      | (refine wpL_storeNew row206 rfl rfl rfl rfl (by simp [zeroRow]) rfl HLL.out ?_))
    have hrd : Rd encInt 1 (w2.alloc (.cells (rowA ll) 206)) (some ⟨w.heap.size + 1, 0, none⟩) pts.toNat 60 (rr.take pts.toNat) := (rd_row hrow pts.toNat (by omega)).alloc _
    have hlt : (rr.take pts.toNat).length = pts.toNat := hrd.len
    have HLT := Lib.hid hlt
    have HRD := Lib.hid hrd
    clear hlt hrd
    go_wp2_with (go_at_call 203; refine (copied_any _ _ _ _ _ HRD.out (by omega)).mono ?_; rintro e w3 ⟨A', c', rfl, hO, hb3⟩)
    go_ret2
    have hb2 : Below w.heap.size w w2 := hb1.grown hg (by omega) (fun k e => by cases e; omega)
    have hb4 : Below w.heap.size w w3 := (hb2.alloc (by omega) _).trans (hb3.mono (by simp; omega))
    have hmin : min pts.toNat (List.length rr) = pts.toNat := by have := HLR.out; rw [zeroRow_len] at this; omega
    rw [hmin]
    exact ⟨A', c', rfl, hb4, hO.mono (by simp; omega)⟩

theorem solvedX_no {pts : Int} {bs : List Bound} (h : solvedOk pts bs = false) : solvedX pts bs = [] := by unfold solvedX; rw [if_neg (by rw [h]; simp)]
set_option maxRecDepth 100000 in
set_option maxHeartbeats 2000000 in
theorem solvable_any (pts : Int) (A : Option Addr) (n c : Nat) (bs : List Bound) (w : World) (hl : Rd encBound 4 w A n c bs) (hok : SysOk pts bs) :
    Calls Tryz.prog 196 #[.agg #[.int .i64 pts, .slice A n c]] w fun e w' => e = .returned (.int .i64 (if solvedOk pts bs then 0 else 10)) ∧ Below w.heap.size w w' := by
  have hs := solved_any pts A n c bs _ (hl.alloc (.cells #[.int .i64 pts, .slice A n c] 117)) hok
  have HS := Lib.hid hs
  clear hs
  cases hq : solvedOk pts bs
  all_goals
    rw [hq] at HS
    clear hq
    go_enter Tryz.func196, Tryz.ntmps196
    go_wp2_with (go_at_call 145; refine HS.out.mono ?_; rintro e w2 ⟨A', c', rfl, hb, hO⟩)
    go_ret
    exact ⟨rfl, ((Below.refl _ w).alloc (Nat.le_refl _) _).trans (hb.mono (by simp))⟩

set_option maxRecDepth 100000 in
set_option maxHeartbeats 2000000 in
theorem Solve_any (pts : Int) (A : Option Addr) (n c : Nat) (bs : List Bound) (w : World) (hl : Rd encBound 4 w A n c bs) (hk : checkSys pts bs = 0) :
    Calls Tryz.prog 88 #[.agg #[.int .i64 pts, .slice A n c]] w fun e w' => ∃ A' c', e = .returned (.tuple #[.slice A' (solvedX pts bs).length c', .bool (solvedOk pts bs), .int .i64 0]) ∧ Below w.heap.size w w' ∧
      Own encInt 1 3 w.heap.size w' A' (solvedX pts bs).length c' (solvedX pts bs) := by
  have hc := CheckSystem_any pts A n c bs _ (hl.alloc (.cells #[.int .i64 pts, .slice A n c] 117))
  rw [hk] at hc
  have hok := sysOk_of hk
  have hsv := fun W hl => solved_any pts A n c bs W hl hok
  have HC := Lib.hid hc
  have HV := Lib.hid hsv
  clear hc hsv hk hok
  have HL := Lib.hid (hl.alloc (.cells #[.int .i64 pts, .slice A n c] 117))
  clear hl
  generalize solvedX pts bs = X at HV ⊢
  generalize solvedOk pts bs = ok at HV ⊢
  go_enter Tryz.func88, Tryz.ntmps88
  go_wp2_with (first
    | (go_at_call 144; refine HC.out.mono ?_; rintro e w2 ⟨rfl, hb⟩; obtain ⟨hcc, hff⟩ := bcell hb; have hz2 := hb.size; (try simp only [World.size_alloc] at hz2 hcc); have q2 : w.heap.size < w2.heap.size := (by omega))
    | (go_at_call 145; refine (HV.out _ (HL.out.below hb (Nat.le_refl _))).mono ?_; rintro e w3 ⟨A', c', rfl, hb3, hO⟩))
  go_ret3
  exact ⟨A', c', rfl, (((Below.refl _ w).alloc (Nat.le_refl _) _).trans (hb.mono (by simp))).trans (hb3.mono (by omega)), hO.mono (by omega)⟩
end Go.Proofs.YtelnkflmnbhclaaGreat
end

/- What is proved: the contract of walks.longer: a row of sums and one of last bounds more. Conditions: the system is as said, the sums are bounded. -/
section
namespace Go.Proofs.YtelnkflmnbhclaaGreat
open Go.RowKit Go.Proofs Go.Shelf

theorem longerTo_len (bs : List Bound) (now : Row) : ∀ k, (longerTo bs now k).1.length = 60 ∧ (longerTo bs now k).2.length = 60
  | 0 => by simp [longerTo, emptyRow, zeroRow]
  | k + 1 => by
    have ih := longerTo_len bs now k
    unfold longerTo
    split
    · unfold longerStep
      split <;> simp [ih.1, ih.2]
    · exact ih
theorem longerTo_hit {bs : List Bound} {now : Row} {k : Nat} {b : Bound} (hb : bs[k]? = some b) (h1 : rAt now b.src < noneV) (h2 : rAt now b.src + b.most < rAt (longerTo bs now k).1 b.dst) : longerTo bs now (k + 1) = (rPut (longerTo bs now k).1 b.dst (rAt now b.src + b.most), rPut (longerTo bs now k).2 b.dst k) := by
  rw [longerTo, hb]
  simp only [longerStep]
  rw [if_pos (by simp [h1, h2])]
theorem longerTo_miss {bs : List Bound} {now : Row} {k : Nat} {b : Bound} (hb : bs[k]? = some b) (h : ¬ (rAt now b.src < noneV ∧ rAt now b.src + b.most < rAt (longerTo bs now k).1 b.dst)) : longerTo bs now (k + 1) = longerTo bs now k := by
  rw [longerTo, hb]
  simp only [longerStep]
  rw [if_neg (by simpa using h)]
theorem below_chg {B : Nat} {w0 w W : World} {T : Nat → Prop} (h : Below B w0 w) (hc : ChgT T w W) (hT : ∀ k, T k → B ≤ k) (hB : B ≤ w.heap.size) : Below B w0 W :=
  ⟨hc.os.trans h.os, hc.tape.trans h.tape, hc.output.trans h.output, Nat.le_trans h.size hc.size, fun k hk => (hc.block k (by omega) (fun t => by have := hT k t; omega)).trans (h.block k hk)⟩
theorem rowAt?_chg {w W : World} {T : Nat → Prop} {b n : Nat} {c : Array Value} (h : rowAt? w b n = some c) (hc : ChgT T w W) (hT : ¬ T b) : rowAt? W b n = some c := by
  obtain ⟨t, h1, h2⟩ := rowAt?_heap h
  exact rowAt?_of ((hc.block b (Array.getElem?_eq_some_iff.1 h1).1 hT).trans h1) h2
/-- what longer leaves -/
def LongPost (w w' : World) (B ba off : Nat) (cur : Array Value) (As : Option Addr) (ns : Nat) (Al : Option Addr) (nl : Nat) (sums last : List Row) (nx lx : Row) : Prop :=
  ChgT (tchL ba As Al) w w' ∧ ∃ A2 c2 A3 c3, Grown1 207 w w' B As A2 ns c2 sums nx ∧ Grown1 206 w w' B Al A3 nl c3 last lx ∧ w'.heap[ba]? = some (.cells ((cur.setIfInBounds off (.slice A2 (ns + 1) c2)).setIfInBounds (off + 1) (.slice A3 (nl + 1) c3)) 216 (0, 0))
theorem Grown1.since {t : TypeId} {w0 w1 W : World} {B n c2 : Nat} {A A2 : Option Addr} {xs : List Row} {x : Row} (h : Grown1 t w1 W B A A2 n c2 xs x) (hs : w0.heap.size ≤ w1.heap.size) : Grown1 t w0 W B A A2 n c2 xs x :=
  ⟨h.1, h.2.imp id (fun ⟨k, a, b⟩ => ⟨k, Nat.le_trans hs a, b⟩)⟩

set_option maxRecDepth 100000 in
set_option maxHeartbeats 4000000 in
theorem longer_any (B ba off g ns cs : Nat) (cur : Array Value) (Al : Option Addr) (nl cl : Nat) (sums last : List Row) (now : Row) (pts : Int) (A : Option Addr) (n c : Nat) (bs : List Bound) (w : World)
    (hcur : w.heap[ba]? = some (.cells cur 216 (0, 0))) (hc0 : cur[off]? = some (.slice (some ⟨g, 0, none⟩) ns cs)) (hc1 : cur[off + 1]? = some (.slice Al nl cl))
    (hO : Own encRow 60 207 B w (some ⟨g, 0, none⟩) ns cs sums) (hO2 : Own encRow 60 206 B w Al nl cl last) (hB : B ≤ w.heap.size) (hns : 1 ≤ ns) (hns2 : ns ≤ 100) (hnl : nl ≤ 100)
    (hnow : sums[ns - 1]? = some now) (hn60 : now.length = 60) (hbnd : ∀ v : Int, 0 ≤ v → v < 60 → -1000000000 ≤ rAt now v) (hl : Rd encBound 4 w A n c bs) (hok : SysOk pts bs) :
    Calls Tryz.prog 164 #[.pointer (some ⟨ba, off, none⟩), .agg #[.int .i64 pts, .slice A n c]] w fun e w' => e = .returned (.tuple #[]) ∧ LongPost w w' B ba off cur (some ⟨g, 0, none⟩) ns Al nl sums last (longerR bs now).1 (longerR bs now).2 := by
  obtain ⟨w1, hw1⟩ : ∃ w1, w.alloc (.cells #[.int .i64 pts, .slice A n c] 117) = w1 := ⟨_, rfl⟩
  have hgr1 : w.grownBy w1 none := (by rw [← hw1]; exact World.grownBy_alloc _ _ _)
  have hb1 : Below w.heap.size w w1 := (by rw [← hw1]; exact (Below.refl _ w).alloc (Nat.le_refl _) _)
  have hz1 : w1.heap.size = w.heap.size + 1 := (by rw [← hw1]; simp)
  have hsys : w1.heap[w.heap.size]? = some (.cells #[.int .i64 pts, .slice A n c] 117 (0, 0)) := (by rw [← hw1]; exact heap_alloc_new w _)
  have hbl : ba < w.heap.size := (Array.getElem?_eq_some_iff.1 hcur).1
  have hgl : g < w.heap.size := hO.lt.2
  have hcur1 := (hgr1.block ba hbl (by simp)).trans hcur
  have hr1 : w1.rangeAt g ((ns - 1) * 60) (encRow now) := range_grown (hO.range hnow) hgr1 (by simp)
  have HL := Lib.hid (hl.below hb1 (Nat.le_refl _))
  have HOK := Lib.hid hok
  have HBND := Lib.hid hbnd
  have hcell1 : w1.cell? ⟨ba, off, none⟩ = some (.slice (some ⟨g, 0, none⟩) ns cs) := (by simp [World.cell?, hcur1, hc0])
  have hn400 : n ≤ 400 := (by have := hok.len; have := hl.len; omega)
  have HLEN := Lib.hid hl.len
  have HO := Lib.hid (hO.kept hgr1 (noneRow _))
  have HO2 := Lib.hid (hO2.kept hgr1 (noneRow _))
  have HC0 := Lib.hid hc0
  have HC1 := Lib.hid hc1
  have HCUR := Lib.hid hcur1
  have HN60 := Lib.hid hn60
  have HW1 := Lib.hid hw1
  clear hl hok hbnd hO hO2 hnow hcur hc0 hc1
  go_enter Tryz.func164, Tryz.ntmps164
  go_upto_region 1 with (fail)
  refine longer1 _ rfl ba off g ns cs now _ w1 _ rfl rfl hcell1 hr1 hn60 hns (by omega) (by omega) (by omega) ?_
  intro W k4 k5 hbW hk4 hk5 hk45 hr4 hr5
  simp only [List.setIfInBounds_toArray, List.set_cons_succ, List.set_cons_zero]
  obtain ⟨W6, hW6⟩ : ∃ W6, W.alloc (.cells (rowA zeroRow) 206) = W6 := ⟨_, rfl⟩
  obtain ⟨k6, hk6⟩ : ∃ k6, W.heap.size = k6 := ⟨_, rfl⟩
  have hgr6 : W.grownBy W6 none := (by rw [← hW6]; exact World.grownBy_alloc _ _ _)
  have hb6 : Below w1.heap.size w1 W6 := (by rw [← hW6]; exact hbW.alloc hbW.size _)
  have hr46 := rowAt?_grown hr4 hgr6 (by simp)
  have hr56 := rowAt?_grown hr5 hgr6 (by simp)
  have hr66 : rowAt? W6 k6 60 = some (rowA zeroRow) := (by rw [← hW6, ← hk6, rowAt?_alloc_at _ _ rfl, if_pos (by rw [rowA_size, zeroRow_len])])
  have hsys6 := (hb6.block _ (by omega)).trans hsys
  have hk4l := rowAt?_lt hr4
  have hk5l := rowAt?_lt hr5
  have b0 : W6.cell? ⟨w.heap.size, 0, none⟩ = some (.int .i64 pts) := (by simp [World.cell?, hsys6])
  have b1 : W6.cell? ⟨w.heap.size, 1, none⟩ = some (.slice A n c) := (by simp [World.cell?, hsys6])
  have H46 := Lib.hid hr46
  have H56 := Lib.hid hr56
  have H66 := Lib.hid hr66
  have HK6 := Lib.hid hk6
  have HHW6 := Lib.hid hW6
  have HSYS := Lib.hid hsys6
  clear hr4 hr5 hr46 hr56 hr66 hsys hsys6 hcell1 hr1 hw1 hcur1 hn60
  go_wp2_with (refine wpL_alloc (t := 206) rfl rfl zero206 ?_; rw [HHW6.out, HK6.out]; clear hW6 hk6)
  go_loopw [25] (fun i wr => ∃ k : Nat, k ≤ n ∧ i = .int .i64 k ∧ Below w1.heap.size w1 wr ∧ k6 < wr.heap.size ∧ Hid (rowAt? wr k4 60 = some (rowA now)) ∧ Hid (rowAt? wr k5 60 = some (rowA (longerTo bs now k).1)) ∧ Hid (rowAt? wr k6 60 = some (rowA (longerTo bs now k).2))) (fun i _ => n - (intOf i).toNat)
  case atStart => exact ⟨0, Nat.zero_le _, rfl, hb6, rowAt?_lt H66.out, (show _ = _ from H46.out), (show _ = _ from H56.out), (show _ = _ from H66.out)⟩
  case round =>
    obtain ⟨k, hk, rfl, hb, hz6, r4, r5, r6⟩ := hrel
    by_cases hlt : k < n
    · obtain ⟨b, off, x, rfl, hbw, hx, hcell⟩ := (HL.out.below hb (Nat.le_refl _)).one hlt
      have c0 : wr.cell? ⟨b, off + k * 4, none⟩ = some (.int .i64 x.src) := hcell 0 _ rfl
      have c1 : wr.cell? ⟨b, off + k * 4 + 1, none⟩ = some (.int .i64 x.dst) := hcell 1 _ rfl
      have c2 : wr.cell? ⟨b, off + k * 4 + 2, none⟩ = some (.int .i64 x.most) := hcell 2 _ rfl
      have c3 : wr.cell? ⟨b, off + k * 4 + 3, none⟩ = some (.int .i64 x.by_) := hcell 3 _ rfl
      obtain ⟨o1, o2, o3, o4, o5, o6, o7⟩ := HOK.out.b x (List.mem_of_getElem? hx)
      have hp60 := HOK.out.p2
      have hll := longerTo_len bs now k
      have hcs := rowAt?_int r4.out (i := x.src.toNat) (by have := HN60.out; omega)
      have hcd := rowAt?_int r5.out (i := x.dst.toNat) (by rw [hll.1]; omega)
      have hc6 := rowAt?_int r6.out (i := x.dst.toNat) (by rw [hll.2]; omega)
      have hf5 := rowAt?_free r5.out x.dst.toNat
      have hf6 := rowAt?_free r6.out x.dst.toNat
      have hlo := HBND.out x.src o1 (by omega)
      have es : now.getD x.src.toNat 0 = rAt now x.src := rfl
      have ed : (longerTo bs now k).1.getD x.dst.toNat 0 = rAt (longerTo bs now k).1 x.dst := rfl
      rw [es] at hcs
      rw [ed] at hcd
      clear es ed
      have hhit := longerTo_hit (now := now) hx
      have hmiss := longerTo_miss (now := now) hx
      obtain ⟨xs, hxs⟩ : ∃ xs, rAt now x.src = xs := ⟨_, rfl⟩
      obtain ⟨xd, hxd⟩ : ∃ xd, rAt (longerTo bs now k).1 x.dst = xd := ⟨_, rfl⟩
      rw [hxs] at hcs hlo hhit hmiss
      rw [hxd] at hcd hhit hmiss
      have HHIT := Lib.hid hhit
      have HMISS := Lib.hid hmiss
      have q4 : k4 < wr.heap.size := rowAt?_lt r4.out
      have q5 : k5 < wr.heap.size := rowAt?_lt r5.out
      have q0 : w.heap.size < wr.heap.size := (by omega)
      have HBX := Lib.hid (show Below w1.heap.size w1 (wr.alloc (.cells #[.int .i64 x.src, .int .i64 x.dst, .int .i64 x.most, .int .i64 x.by_] 186)) from hb.alloc (by omega) _)
      clear hx hcell hxs hxd hhit hmiss hll
      by_cases t1 : xs < noneV
      · unfold noneV at t1
        have d1 : decide (xs < 1099511627776) = true := by simpa using t1
        have hw : IntKind.i64.wrap (xs + x.most) = xs + x.most := by simp [IntKind.wrap, IntKind.bits, IntKind.signed]; omega
        by_cases t2 : xs + x.most < xd
        · have d2 : decide (xs + x.most < xd) = true := by simpa using t2
          have hw' := Lib.hid hw
          clear hw
          go_wp2_with (fail)
          have hw := hw'.out
          go_quiet (fail)
          clear hw
          go_upto_region 7 with (fail)
          have q6 : k5 < k6 := (by have := HK6.out; omega)
          have q7 : k4 < k6 := (by have := HK6.out; omega)
          refine longer7 _ rfl wr.heap.size k4 k5 k6 k x xs (longerTo bs now k).1 (longerTo bs now k).2 _ _ _ rfl rfl rfl rfl rfl rfl (by simp) (by simp) (by simp) ?_ ?_ ?_ o1 (by omega) o3 (by omega) hw'.out (by omega) (by omega) (by omega) (by omega) (by omega) ?_
          · show World.cell? (wr.alloc _) _ = _
            exact cell_grown (row := none) hcs (World.grownBy_alloc _ _ _) (by simp)
          · rw [rowAt?_drewN, rowAt?_alloc_past _ (by omega)]; exact r5.out
          · rw [rowAt?_drewN, rowAt?_alloc_past _ (by omega)]; exact r6.out
          intro W9 hc9 n5 n6
          simp only [List.setIfInBounds_toArray, List.set_cons_succ, List.set_cons_zero]
          have hb9 := below_chg (below_drewN' HBX.out _) hc9 (fun q e => by have := HK6.out; have := hbW.size; omega) (by simp; omega)
          have n4 := rowAt?_chg (n := 60) (b := k4) (by rw [rowAt?_drewN, rowAt?_alloc_past _ (by omega)]; exact r4.out) hc9 (by omega)
          have hz9 : k6 < W9.heap.size := rowAt?_lt n6
          have N4 := Lib.hid n4
          have N5 := Lib.hid n5
          have N6 := Lib.hid n6
          have HB9 := Lib.hid hb9
          have HIT := Lib.hid (HHIT.out (show xs < noneV from t1) t2)
          clear n4 n5 n6 hc9 hb9 hcs hcd hc6 hf5 hf6 c0 c1 c2 c3
          go_wp2
          go_roundw
          all_goals first
            | (simp [intOf]; omega)
            | exact ⟨k + 1, by omega, by go_num, HB9.out, hz9, N4, (show _ = _ by rw [HIT.out]; exact N5.out), (show _ = _ by rw [HIT.out]; exact N6.out)⟩
        · have d2 : decide (xs + x.most < xd) = false := by simpa using t2
          have hw' := Lib.hid hw
          clear hw
          go_wp2_with (fail)
          have hw := hw'.out
          go_quiet (fail)
          clear hw
          go_wp2
          go_roundw
          all_goals first
            | (simp [intOf]; omega)
            | exact ⟨k + 1, by omega, by go_num, below_drewN' HBX.out _, by simp; omega, (show _ = _ by rw [rowAt?_drewN, rowAt?_alloc_past _ (by omega)]; exact r4.out), (show _ = _ by rw [HMISS.out (fun h => by unfold noneV at h; omega), rowAt?_drewN, rowAt?_alloc_past _ (by omega)]; exact r5.out), (show _ = _ by rw [HMISS.out (fun h => by unfold noneV at h; omega), rowAt?_drewN, rowAt?_alloc_past _ (by omega)]; exact r6.out)⟩
      · unfold noneV at t1
        have d1 : decide (xs < 1099511627776) = false := by simpa using t1
        go_wp2_with (fail)
        go_quiet (fail)
        go_wp2
        go_roundw
        all_goals first
          | (simp [intOf]; omega)
          | exact ⟨k + 1, by omega, by go_num, below_drewN' HBX.out _, by simp; omega, (show _ = _ by rw [rowAt?_drewN, rowAt?_alloc_past _ (by omega)]; exact r4.out), (show _ = _ by rw [HMISS.out (fun h => by unfold noneV at h; omega), rowAt?_drewN, rowAt?_alloc_past _ (by omega)]; exact r5.out), (show _ = _ by rw [HMISS.out (fun h => by unfold noneV at h; omega), rowAt?_drewN, rowAt?_alloc_past _ (by omega)]; exact r6.out)⟩
    · have hkn : k = n := by omega
      subst hkn
      clear hlt hk
      have hlr : (longerR bs now) = longerTo bs now k := (by unfold longerR; rw [HLEN.out])
      have HLR := Lib.hid hlr
      clear hlr
      have hll := longerTo_len bs now k
      have hAl : ∀ q, blockOf Al = some q → q ≤ w.heap.size := (fun q e => by
        rcases HO2.out.form with ⟨rfl, _⟩ | ⟨g2, rfl, _, hlt2⟩
        · cases e
        · have e2 : g2 = q := Option.some.inj e
          omega)
      have q4 : k4 < wr.heap.size := rowAt?_lt r4.out
      have q5 : k5 < wr.heap.size := rowAt?_lt r5.out
      have hbx := hbW.size
      go_wp2_with (fail)
      go_upto_region 9 with (fail)
      refine longer9 _ rfl B ba off k5 k6 cur (some ⟨g, 0, none⟩) ns cs Al nl cl sums last (longerTo bs now k).1 (longerTo bs now k).2 _ wr _ rfl rfl rfl rfl ((hb.block _ (by omega)).trans HCUR.out) HC0.out HC1.out r5.out r6.out hll.1 hll.2 ?_ ?_ ?_ ?_ (by omega) (by have := HK6.out; omega)
        (HO.out.below hb (Nat.le_refl _)) (HO2.out.below hb (Nat.le_refl _)) (by omega) (by omega) (by omega) ?_
      · intro e; have := Option.some.inj e; simp at this; omega
      · intro e; have := hAl _ e; omega
      · intro e; have := Option.some.inj e; simp at this; have := HK6.out; omega
      · intro e; have := hAl _ e; have := HK6.out; omega
      intro b W9 hd hc9 hf9
      obtain ⟨bt, bd⟩ := b
      simp only at hd
      subst hd
      go_wp2
      go_end0
      refine ⟨rfl, ?_⟩
      rw [HLR.out]
      obtain ⟨A2, c2, A3, c3, g1, g2, g3⟩ := hf9
      exact ⟨((Below.chgT _ hb1).trans (Below.chgT _ hb)).trans hc9, A2, c2, A3, c3, g1.since (by omega), g2.since (by omega), g3⟩
end Go.Proofs.YtelnkflmnbhclaaGreat
end

/-
  DERIVED: THE SHELF's CONTRACTS AT THIS DUMP, IN PLAIN WORDS (tools/lay-plain.mjs out of 'YtelnkflmnbhclaaGreatRevLay0.lean', which tools/lay-shelf.mjs wrote): THE SAME DECLARATIONS UNDER THE SAME NAMES: 'import', 'namespace', 'open', 'def', 'theorem' AND NOTHING ELSE: no command of the shelf's: FOR A HAND-IN. Each laying: the table of numbers ('.._ren') and one theorem, a field a fact of the dump's own or the kernel's comparison; each contract: ONE APPLICATION.
-/
section
namespace Go.Proofs
open Go.Shelf
def Tryz.revI_ren : Go.Shelf.Ren := ⟨fun | 112 => 161 | n => n, fun | 28 => 101 | 3 => 3 | 4 => 4 | 0 => 0 | n => n, fun | n => n⟩
theorem Tryz.revI : Go.Proofs.Lays.n112 Tryz.prog Tryz.revI_ren := {
  mixed := by kernel_rfl
  f112 := Tryz.func161.trans (congrArg some (by kernel_rfl))
  t0 := Tryz.underlying0
  a0 := Tryz.isAgg0
  z0 := Tryz.sizeOf0
  v0 := Tryz.zeroValue0
  t3 := Tryz.underlying3
  a3 := Tryz.isAgg3
  z3 := Tryz.sizeOf3
  v3 := Tryz.zeroValue3
  t4 := Tryz.underlying4
  a4 := Tryz.isAgg4
  z4 := Tryz.sizeOf4
  v4 := Tryz.zeroValue4
  t28 := Tryz.underlying101
  a28 := Tryz.isAgg101
  z28 := Tryz.sizeOf101
  v28 := Tryz.zeroValue101 }
end Go.Proofs
end

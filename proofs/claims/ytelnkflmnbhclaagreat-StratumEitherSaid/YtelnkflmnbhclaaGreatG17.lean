/- What is proved: the contracts of gauge.relaxing and of the iterator that it makes. Conditions: none. -/
import Derived.Test.YtelnkflmnbhclaaGreatG16
import Derived.Test.YtelnkflmnbhclaaGreatG15
import Derived.Deep.LoopGhost
import Derived.RangeFuncRecord
import Derived.RangeFuncLeaves
import Derived.RangeFuncGives
import Derived.Outline
namespace Go.Proofs.YtelnkflmnbhclaaGreat
open Go.RowKit Go.Proofs Go.Shelf

theorem relaxing_any (pts : Int) (A : Option Addr) (n c : Nat) (rp : Option Addr) (w : World) :
    Calls Tryz.prog 244 #[.agg #[.int .i64 pts, .slice A n c], .pointer rp] w fun e w' => e = .returned (.func (.func 264) #[] #[.pointer (some ⟨w.heap.size, 0, none⟩), .pointer (some ⟨w.heap.size + 1, 0, none⟩)]) ∧
      (w.alloc (.cells #[.int .i64 pts, .slice A n c] 117)).alloc (.cells #[.pointer rp] 255) = w' := by
  go_enter Tryz.func244, Tryz.ntmps244
  go_wp2
  go_ret
  exact ⟨rfl, rfl⟩

/-- what the caller's invariant tells the iterator -/
structure RelJ (J : Nat → Row × Row → World → Prop) (sb rb br : Nat) (A : Option Addr) (n c : Nat) (bs : List Bound) : Prop where
  s1 : ∀ {k σ W}, J k σ W → W.cell? ⟨sb, 1, none⟩ = some (.slice A n c)
  rp : ∀ {k σ W}, J k σ W → W.cell? ⟨rb, 0, none⟩ = some (.pointer (some ⟨br, 0, none⟩))
  row : ∀ {k σ W}, J k σ W → rowAt? W br 60 = some (rowA σ.1)
  rd : ∀ {k σ W}, J k σ W → Rd encBound 4 W A n c bs
  ok : ∀ {k σ W}, J k σ W → ∀ i : Int, 0 ≤ i → i < 60 → -4000000000000000000 ≤ rAt σ.1 i ∧ rAt σ.1 i ≤ noneV
  al : ∀ {k σ W} (o : Obj), J k σ W → J k σ (W.alloc o)
  dr : ∀ {k σ W}, J k σ W → J k σ W.drew
  dn : ∀ {k σ W} (m : Nat), J k σ W → J k σ (W.drewN m)
  skip : ∀ {k σ W b}, J k σ W → bs[k]? = some b → relaxes σ.1 b = false → J (k + 1) σ W

def okB (b : Bound) : Prop := 0 ≤ b.src ∧ b.src < 60 ∧ 0 ≤ b.dst ∧ b.dst < 60 ∧ -1000000 ≤ b.most ∧ b.most ≤ 1000000
theorem passTo_succ {bs : List Bound} {k : Nat} {b : Bound} (h : bs[k]? = some b) (st : Row × Row) : passTo bs st (k + 1) = relaxStep (passTo bs st k) b k := by simp [passTo, h]
theorem relaxStep_no {st : Row × Row} {b : Bound} {k : Nat} (h : relaxes st.1 b = false) : relaxStep st b k = st := by simp [relaxStep, h]

set_option maxRecDepth 100000 in
set_option maxHeartbeats 2000000 in
theorem relaxing1 (l sb rb br m : Nat) (A : Option Addr) (n c : Nat) (bs : List Bound) (J : Nat → Row × Row → World → Prop) (R : RelJ J sb rb br A n c bs) (hbs : ∀ b ∈ bs, okB b) (hn : n ≤ 1000)
    (hY : ∀ k σ b W, J k σ W → bs[k]? = some b → relaxes σ.1 b = true → YieldAt Fence.wide (m - 1) Tryz.prog l #[.int .i64 k, .agg #[.int .i64 b.src, .int .i64 b.dst, .int .i64 b.most, .int .i64 b.by_]] W
      fun e W' => e = .returned (.bool true) ∧ J (k + 1) (relaxStep σ b k) W')
    (σ0 : Row × Row) (w : World) (h0 : J 0 σ0 w) :
    CallsIn Fence.wide m Tryz.prog 264 #[.func (.yield l) #[] #[], .pointer (some ⟨sb, 0, none⟩), .pointer (some ⟨rb, 0, none⟩)] w fun e W' => (∃ v, e = .returned v) ∧ J n (passTo bs σ0 n) W' := by
  refine callsIn_wide.2 ?_
  have s1 := R.s1 h0
  go_enter Tryz.func264, Tryz.ntmps264
  go_wp2
  go_loopw [9] (fun i wr => ∃ (k : Nat) (σ : Row × Row), k ≤ n ∧ i = .int .i64 k ∧ J k σ wr ∧ Hid (σ = passTo bs σ0 k)) (fun i _ => n - (intOf i).toNat)
  case atStart => exact ⟨0, σ0, Nat.zero_le _, rfl, h0, rfl⟩
  case round =>
    clear s1 h0
    obtain ⟨k, σ, hk, rfl, hJ, hσ⟩ := hrel
    by_cases hlt : k < n
    · obtain ⟨b, off, x, rfl, hbw, hx, hcell⟩ := (R.rd hJ).one hlt
      have hok := hbs x (List.mem_of_getElem? hx)
      obtain ⟨o1, o2, o3, o4, o5, o6⟩ := hok
      have c0 : wr.cell? ⟨b, off + k * 4, none⟩ = some (.int .i64 x.src) := hcell 0 _ rfl
      have c1 : wr.cell? ⟨b, off + k * 4 + 1, none⟩ = some (.int .i64 x.dst) := hcell 1 _ rfl
      have c2 : wr.cell? ⟨b, off + k * 4 + 2, none⟩ = some (.int .i64 x.most) := hcell 2 _ rfl
      have c3 : wr.cell? ⟨b, off + k * 4 + 3, none⟩ = some (.int .i64 x.by_) := hcell 3 _ rfl
      have rp := R.rp hJ
      have hrow := R.row hJ
      have hbr := rowAt?_lt hrow
      have hrb : rb < wr.heap.size := block_lt_of_cell rp
      obtain ⟨v1, v2⟩ := R.ok hJ x.src o1 o2
      obtain ⟨v3, v4⟩ := R.ok hJ x.dst o3 o4
      have hl := rowAt?_len hrow
      have hcs := rowAt?_int hrow (i := x.src.toNat) (by omega)
      have hcd := rowAt?_int hrow (i := x.dst.toNat) (by omega)
      have HX := Lib.hid hx
      have hJ2 := R.al (.cells #[.int .i64 x.src, .int .i64 x.dst, .int .i64 x.most, .int .i64 x.by_] 186) hJ
      have hrel : relaxes σ.1 x = (decide (rAt σ.1 x.src < noneV) && decide (rAt σ.1 x.src + x.most < rAt σ.1 x.dst)) := rfl
      have HJ := Lib.hid hJ
      clear hrow hcell hx hJ
      have es : σ.1.getD x.src.toNat 0 = rAt σ.1 x.src := rfl
      have ed : σ.1.getD x.dst.toNat 0 = rAt σ.1 x.dst := rfl
      rw [es] at hcs
      rw [ed] at hcd
      clear es ed
      generalize rAt σ.1 x.src = xs at *
      generalize rAt σ.1 x.dst = xd at *
      have HR := Lib.hid hrel
      have HL := Lib.hid hl
      clear hrel hl
      unfold noneV at v2 v4
      have hw : IntKind.i64.wrap (xs + x.most) = xs + x.most := by simp [IntKind.wrap, IntKind.bits, IntKind.signed]; omega
      by_cases t1 : xs < 1099511627776
      · have d1 : decide (xs < 1099511627776) = true := by simpa using t1
        by_cases t2 : xs + x.most < xd
        · have d2 : decide (xs + x.most < xd) = true := by simpa using t2
          have hrlx : relaxes σ.1 x = true := by rw [HR.out, show decide (xs < noneV) = true from d1, d2]; rfl
          have HRX := Lib.hid hrlx
          have hw' := Lib.hid hw
          clear hrlx hw
          go_wp2_with (fail)
          have hw := hw'.out
          have hJ4 := R.dr hJ2
          obtain ⟨fn, tmps, assign, body, hy, hR⟩ := hY k σ x _ hJ4 HX.out HRX.out
          refine wp_region_yield m 29 (by kernel_rfl) (by kernel_rfl) ?_
          simp only [List.take_succ_cons, List.take_zero, List.drop_succ_cons, List.drop_zero, World.drew_eq]
          iterate 29 still_step
          refine wpStill_nil ?_
          clear hw hcs hcd
          gi_wp2
          refine ⟨fun h => (by cases h), hR.mono ?_⟩
          rintro e W3 ⟨rfl, hJ5⟩
          gi_wp2
          go_wp2
          go_roundw
          case rel => exact ⟨k + 1, _, by omega, by go_num, hJ5, (show _ = _ by rw [passTo_succ HX.out, ← hσ.out])⟩
          case measure => simp [intOf]; omega
        · have d2 : decide (xs + x.most < xd) = false := by simpa using t2
          have hrlx : relaxes σ.1 x = false := by rw [HR.out, show decide (xs < noneV) = true from d1, d2]; rfl
          have HRX := Lib.hid hrlx
          have hw' := Lib.hid hw
          clear hrlx hw
          go_wp2_with (fail)
          have hw := hw'.out
          go_quiet (fail)
          clear hw
          go_wp2
          go_roundw
          case rel => exact ⟨k + 1, σ, by omega, by go_num, R.dn _ (R.skip hJ2 HX.out HRX.out), (show σ = _ by rw [passTo_succ HX.out, ← hσ.out, relaxStep_no HRX.out])⟩
          case measure => simp [intOf]; omega
      · have d1 : decide (xs < 1099511627776) = false := by simpa using t1
        have hrlx : relaxes σ.1 x = false := by rw [HR.out, show decide (xs < noneV) = false from d1]; rfl
        have HRX := Lib.hid hrlx
        clear hrlx hw
        go_wp2_with (fail)
        go_quiet (fail)
        go_wp2
        go_roundw
        case rel => exact ⟨k + 1, σ, by omega, by go_num, R.dn _ (R.skip hJ2 HX.out HRX.out), (show σ = _ by rw [passTo_succ HX.out, ← hσ.out, relaxStep_no HRX.out])⟩
        case measure => simp [intOf]; omega
    · have hkn : k = n := by omega
      subst hkn
      go_wp2
      go_end0
      exact ⟨⟨_, rfl⟩, by rw [← hσ.out]; exact hJ⟩
end Go.Proofs.YtelnkflmnbhclaaGreat

/- Contracts that the law leans on: Tried, Gtst. -/
import Derived.Test.YtelnkflmnbhclaaGreatG40
/- What is proved: the contracts of gauge.tried, asked, Greatest, where nothing gives up. Conditions: the system is as said, and the two numbers are points of it. -/
section
namespace Go.Proofs.YtelnkflmnbhclaaGreat
open Go.RowKit Go.Proofs Go.Shelf

/-- new blocks, and what T says may have turned -/
structure GrownT (T : Nat → Prop) (W W' : World) : Prop where
  os : W'.os = W.os
  tape : W'.tape = W.tape
  output : W'.output = W.output
  size : W.heap.size ≤ W'.heap.size
  block : ∀ k, k < W.heap.size → ¬ T k → W'.heap[k]? = W.heap[k]?
theorem GrownT.refl (T : Nat → Prop) (W : World) : GrownT T W W := ⟨rfl, rfl, rfl, Nat.le_refl _, fun _ _ _ => rfl⟩
theorem GrownT.trans {T : Nat → Prop} {A B C : World} (h : GrownT T A B) (k : GrownT T B C) : GrownT T A C :=
  ⟨k.os.trans h.os, k.tape.trans h.tape, k.output.trans h.output, Nat.le_trans h.size k.size, fun i hi ht => (k.block i (by have := h.size; omega) ht).trans (h.block i hi ht)⟩
theorem GrownT.of_below {T : Nat → Prop} {A B C : World} {n : Nat} (h : GrownT T A B) (hb : Below n B C) (hn : A.heap.size ≤ n) : GrownT T A C :=
  ⟨hb.os.trans h.os, hb.tape.trans h.tape, hb.output.trans h.output, Nat.le_trans h.size hb.size, fun i hi ht => (hb.block i (by omega)).trans (h.block i hi ht)⟩
theorem GrownT.cell {T : Nat → Prop} {W W' : World} (h : GrownT T W W') {b o : Nat} (hb : b < W.heap.size) (ht : ¬ T b) : W'.cell? ⟨b, o, none⟩ = W.cell? ⟨b, o, none⟩ := World.cell?_of_block (h.block b hb ht)
theorem GrownT.frozen {T : Nat → Prop} {W W' : World} (h : GrownT T W W') {b o : Nat} (hb : b < W.heap.size) (ht : ¬ T b) : W'.frozen? ⟨b, o, none⟩ = W.frozen? ⟨b, o, none⟩ := World.frozen?_of_block (h.block b hb ht)
theorem GrownT.mono {T T' : Nat → Prop} {W W' : World} (h : GrownT T W W') (ht : ∀ k, T k → T' k) : GrownT T' W W' := ⟨h.os, h.tape, h.output, h.size, fun k hk hn => h.block k hk (fun q => hn (ht k q))⟩

set_option maxRecDepth 100000 in
set_option maxHeartbeats 2000000 in
theorem tried_any (pts : Int) (A : Option Addr) (n c : Nat) (bs : List Bound) (g : Nat) (lb : Array Value) (eg : ∀ args w, (callFunc g args).run Tryz.prog w = .ok (.enter g args) w) (v : Int) (w : World) (hl : Rd encBound 4 w A n c bs) (hk : checkSys pts bs = 0)
    (T : Nat → Prop) (hT : ∀ k, T k → k < w.heap.size) (Φ : World → Prop) (hΦ : ∀ W1 W2 : World, Φ W1 → (∀ k, k < w.heap.size → W2.heap[k]? = W1.heap[k]?) → Φ W2)
    (hdo : ∀ W, Below w.heap.size w W → Calls Tryz.prog g lb W fun e W' => e = .returned (.int .i64 v) ∧ GrownT T W W' ∧ Φ W') :
    Calls Tryz.prog 193 #[.agg #[.int .i64 pts, .slice A n c], .func (.func g) #[] lb] w fun e w' => e = .returned (.int .i64 v) ∧ GrownT T w w' ∧ Φ w' := by
  have hc := CheckSystem_any pts A n c bs _ ((hl.alloc (.cells #[.int .i64 pts, .slice A n c] 117)).alloc (.cells #[.int .i64 0] 27))
  rw [hk] at hc
  have HC := Lib.hid hc
  clear hc hk hl
  go_enter_defers Tryz.func193, Tryz.ntmps193
  go_wp2_with (first
    | (go_at_call 144; refine HC.out.mono ?_; rintro e w2 ⟨rfl, hb⟩
       have hz2 := hb.size
       simp only [World.size_alloc] at hz2
       have hb2 : Below w.heap.size w w2 := (((Below.refl _ w).alloc (Nat.le_refl _) _).alloc (by simp) _).trans (hb.mono (by simp; omega))
       have d1 : w2.cell? ⟨w.heap.size + 1, 0, none⟩ = some (.int .i64 0) := (hb.cell (p := ⟨w.heap.size + 1, 0, none⟩) (by simp)).trans (by rw [World.cell?_alloc_at _ _ _ _ (by simp)]; rfl)
       have f1 : w2.frozen? ⟨w.heap.size + 1, 0, none⟩ = false := (hb.frozen (p := ⟨w.heap.size + 1, 0, none⟩) (by simp)).trans (World.frozen?_alloc_at _ _ _ _ (by simp))
       have hd := hdo w2 hb2
       have HD := Lib.hid hd
       clear hd)
    | (go_at_fn g; refine HD.out.mono ?_; rintro e w3 ⟨rfl, hg3, hf3⟩
       have e1 : w3.cell? ⟨w.heap.size + 1, 0, none⟩ = some (.int .i64 0) := (hg3.cell (by omega) (fun h => by have := hT _ h; omega)).trans d1
       have g1 : w3.frozen? ⟨w.heap.size + 1, 0, none⟩ = false := (hg3.frozen (by omega) (fun h => by have := hT _ h; omega)).trans f1))
  refine leaves_cons (f := 241) (args := #[.pointer (some ⟨w.heap.size + 1, 0, none⟩)]) (by simp) (by simp [go_sem]) ?_
  refine (tried1_idle ⟨w.heap.size + 1, 0, none⟩ _).mono ?_
  rintro e u' w'' ⟨rfl, rfl, rfl⟩
  have hz3 := hg3.size
  have hcv : (w3.setCell ⟨w.heap.size + 1, 0, none⟩ (.int .i64 v)).cell? ⟨w.heap.size + 1, 0, none⟩ = some (.int .i64 v) := World.cell?_setCell_same' _ _ _ (by rw [e1]; rfl)
  have hgw : GrownT T w w3 := (GrownT.refl T w |>.of_below hb2 (Nat.le_refl _)).trans hg3
  have hpost : GrownT T w (w3.setCell ⟨w.heap.size + 1, 0, none⟩ (.int .i64 v)) ∧ Φ (w3.setCell ⟨w.heap.size + 1, 0, none⟩ (.int .i64 v)) :=
    ⟨⟨hgw.os, hgw.tape, hgw.output, by simpa using hgw.size, fun k hk ht => (Below.heap_setCell _ _ _ k (show k ≠ w.heap.size + 1 by omega)).trans (hgw.block k hk ht)⟩,
     hΦ w3 _ hf3 (fun k hk => Below.heap_setCell _ _ _ k (show k ≠ w.heap.size + 1 by omega))⟩
  have HP := Lib.hid hpost
  clear hpost HC HD
  refine ⟨.int .i64 v, ?_, rfl, HP.out⟩
  simp [results, Tryz.results193, go_sem, hcv]

theorem ent_asked1 : ∀ args w, (callFunc 194 args).run Tryz.prog w = .ok (.enter 194 args) w := enters_of Tryz.func194 (by kernel_rfl) rfl
theorem rd_two (w : World) (a b : Int) (t : TypeId) : Rd encInt 1 (w.alloc (.cells #[.int .i64 a, .int .i64 b] t)) (some ⟨w.heap.size, 0, none⟩) 2 2 [a, b] :=
  Rd.single (enc := encInt) (k := 1) w #[.int .i64 a, .int .i64 b] t [a, b] 2 rfl (by omega) (fun _ => rfl) (by simp [encInt])

set_option maxRecDepth 100000 in
set_option maxHeartbeats 2000000 in
theorem asked1_yes (pts : Int) (A : Option Addr) (n c : Nat) (bs : List Bound) (a b : Int) (gw : Nat) (lw : Array Value) (eg : ∀ args w, (callFunc gw args).run Tryz.prog w = .ok (.enter gw args) w) (b0 b1 b2 b3 : Nat) (w : World) (hl : Rd encBound 4 w A n c bs) (hok : SysOk pts bs) (hs : solvedOk pts bs = true)
    (h1 : 0 ≤ a) (h2 : a < pts) (h3 : 0 ≤ b) (h4 : b < pts) (c0 : w.cell? ⟨b0, 0, none⟩ = some (.int .i64 pts)) (c1 : w.cell? ⟨b0, 1, none⟩ = some (.slice A n c)) (ca : w.cell? ⟨b1, 0, none⟩ = some (.int .i64 a)) (cb : w.cell? ⟨b2, 0, none⟩ = some (.int .i64 b)) (cw : w.cell? ⟨b3, 0, none⟩ = some (.func (.func gw) #[] lw))
    (T : Nat → Prop) (Φ : World → Prop) (hdo : ∀ W, Below w.heap.size w W → Calls Tryz.prog gw lw W fun e W' => e = .returned (.tuple #[]) ∧ GrownT T W W' ∧ Φ W') :
    Calls Tryz.prog 194 #[.pointer (some ⟨b0, 0, none⟩), .pointer (some ⟨b1, 0, none⟩), .pointer (some ⟨b2, 0, none⟩), .pointer (some ⟨b3, 0, none⟩)] w fun e w' => e = .returned (.int .i64 0) ∧ GrownT T w w' ∧ Φ w' := by
  have hpt := points_any pts A n c (some ⟨w.heap.size, 0, none⟩) 2 2 [a, b] _ (rd_two w a b 3) (fun x hx => by simp at hx; rcases hx with rfl | rfl <;> (rw [withinB_iff]; omega)) hok.p1 hok.p2
  have hsv := fun W hl => solvable_any pts A n c bs W hl hok
  rw [hs] at hsv
  have HPT := Lib.hid hpt
  have HSV := Lib.hid hsv
  have HL := Lib.hid hl
  have z0 := block_lt_of_cell c0
  have z3 := block_lt_of_cell cw
  simp only at z0 z3
  clear hpt hsv hs hl
  go_enter Tryz.func194, Tryz.ntmps194
  go_wp2_with (first
    | (go_at_call 195; refine HPT.out.mono ?_; rintro e w2 ⟨rfl, hb⟩
       have hz2 := hb.size
       simp only [World.size_alloc] at hz2
       have hb2 : Below w.heap.size w w2 := ((Below.refl _ w).alloc (Nat.le_refl _) _).trans (hb.mono (by simp))
       have d0 : w2.cell? ⟨b0, 0, none⟩ = some (.int .i64 pts) := (hb2.cell (p := ⟨b0, 0, none⟩) z0).trans c0
       have d1 : w2.cell? ⟨b0, 1, none⟩ = some (.slice A n c) := (hb2.cell (p := ⟨b0, 1, none⟩) z0).trans c1)
    | (go_at_call 196; refine (HSV.out _ (HL.out.below hb2 (Nat.le_refl _))).mono ?_; rintro e w3 ⟨rfl, hb3⟩
       have hb4 : Below w.heap.size w w3 := hb2.trans (hb3.mono hb2.size)
       have d3 : w3.cell? ⟨b3, 0, none⟩ = some (.func (.func gw) #[] lw) := (hb4.cell (p := ⟨b3, 0, none⟩) z3).trans cw
       have hd := hdo w3 hb4
       have HD := Lib.hid hd
       clear hd)
    | (go_at_fn gw; refine HD.out.mono ?_; rintro e w5 ⟨rfl, hg5, hf5⟩))
  go_ret
  exact ⟨rfl, (GrownT.refl T w |>.of_below hb4 (Nat.le_refl _)).trans hg5, hf5⟩

set_option maxRecDepth 100000 in
set_option maxHeartbeats 2000000 in
theorem asked1_no (pts : Int) (A : Option Addr) (n c : Nat) (bs : List Bound) (a b : Int) (b0 b1 b2 b3 : Nat) (w : World) (hl : Rd encBound 4 w A n c bs) (hok : SysOk pts bs) (hs : solvedOk pts bs = false)
    (h1 : 0 ≤ a) (h2 : a < pts) (h3 : 0 ≤ b) (h4 : b < pts) (c0 : w.cell? ⟨b0, 0, none⟩ = some (.int .i64 pts)) (c1 : w.cell? ⟨b0, 1, none⟩ = some (.slice A n c)) (ca : w.cell? ⟨b1, 0, none⟩ = some (.int .i64 a)) (cb : w.cell? ⟨b2, 0, none⟩ = some (.int .i64 b)) :
    Calls Tryz.prog 194 #[.pointer (some ⟨b0, 0, none⟩), .pointer (some ⟨b1, 0, none⟩), .pointer (some ⟨b2, 0, none⟩), .pointer (some ⟨b3, 0, none⟩)] w fun e w' => e = .returned (.int .i64 10) ∧ Below w.heap.size w w' := by
  have hpt := points_any pts A n c (some ⟨w.heap.size, 0, none⟩) 2 2 [a, b] _ (rd_two w a b 3) (fun x hx => by simp at hx; rcases hx with rfl | rfl <;> (rw [withinB_iff]; omega)) hok.p1 hok.p2
  have hsv := fun W hl => solvable_any pts A n c bs W hl hok
  rw [hs] at hsv
  have HPT := Lib.hid hpt
  have HSV := Lib.hid hsv
  have HL := Lib.hid hl
  have z0 := block_lt_of_cell c0
  simp only at z0
  clear hpt hsv hs hl
  go_enter Tryz.func194, Tryz.ntmps194
  go_wp2_with (first
    | (go_at_call 195; refine HPT.out.mono ?_; rintro e w2 ⟨rfl, hb⟩
       have hz2 := hb.size
       simp only [World.size_alloc] at hz2
       have hb2 : Below w.heap.size w w2 := ((Below.refl _ w).alloc (Nat.le_refl _) _).trans (hb.mono (by simp))
       have d0 : w2.cell? ⟨b0, 0, none⟩ = some (.int .i64 pts) := (hb2.cell (p := ⟨b0, 0, none⟩) z0).trans c0
       have d1 : w2.cell? ⟨b0, 1, none⟩ = some (.slice A n c) := (hb2.cell (p := ⟨b0, 1, none⟩) z0).trans c1)
    | (go_at_call 196; refine (HSV.out _ (HL.out.below hb2 (Nat.le_refl _))).mono ?_; rintro e w3 ⟨rfl, hb3⟩))
  go_ret
  exact ⟨rfl, hb2.trans (hb3.mono hb2.size)⟩
end Go.Proofs.YtelnkflmnbhclaaGreat
end

/- What is proved: the contracts of gauge.asked and gauge.Greatest. Conditions: the system is as said, and the two numbers are points of it. -/
section
namespace Go.Proofs.YtelnkflmnbhclaaGreat
open Go.RowKit Go.Proofs Go.Shelf

theorem GrownT.below {W W' : World} (h : GrownT (fun _ => False) W W') : Below W.heap.size W W' := ⟨h.os, h.tape, h.output, h.size, fun k hk => h.block k hk (fun f => f)⟩
theorem Below.grownT {W W' : World} (T : Nat → Prop) (h : Below W.heap.size W W') : GrownT T W W' := ⟨h.os, h.tape, h.output, h.size, fun k hk _ => h.block k hk⟩

/-- the world in which asked has boxed its arguments -/
def boxed4 (w : World) (pts : Int) (A : Option Addr) (n c : Nat) (a b : Int) (gw : Nat) (lw : Array Value) : World :=
  (((w.alloc (.cells #[.int .i64 pts, .slice A n c] 117)).alloc (.cells #[.int .i64 a] 3)).alloc (.cells #[.int .i64 b] 3)).alloc (.cells #[.func (.func gw) #[] lw] 1)
theorem boxed4_size (w : World) (pts : Int) (A : Option Addr) (n c : Nat) (a b : Int) (gw : Nat) (lw : Array Value) : (boxed4 w pts A n c a b gw lw).heap.size = w.heap.size + 4 := by simp [boxed4]
theorem boxed4_below (w : World) (pts : Int) (A : Option Addr) (n c : Nat) (a b : Int) (gw : Nat) (lw : Array Value) : Below w.heap.size w (boxed4 w pts A n c a b gw lw) :=
  ((((Below.refl _ w).alloc (Nat.le_refl _) _).alloc (by simp <;> omega) _).alloc (by simp <;> omega) _).alloc (by simp <;> omega) _
theorem boxed4_s (w : World) (pts : Int) (A : Option Addr) (n c : Nat) (a b : Int) (gw : Nat) (lw : Array Value) (i : Nat) : (boxed4 w pts A n c a b gw lw).cell? ⟨w.heap.size, i, none⟩ = #[Value.int .i64 pts, .slice A n c][i]? := by
  unfold boxed4
  rw [World.cell?_alloc_past _ _ _ (by simp <;> omega), World.cell?_alloc_past _ _ _ (by simp <;> omega), World.cell?_alloc_past _ _ _ (by simp <;> omega), World.cell?_alloc_at _ _ _ _ rfl]
theorem boxed4_a (w : World) (pts : Int) (A : Option Addr) (n c : Nat) (a b : Int) (gw : Nat) (lw : Array Value) : (boxed4 w pts A n c a b gw lw).cell? ⟨w.heap.size + 1, 0, none⟩ = some (.int .i64 a) := by
  unfold boxed4
  rw [World.cell?_alloc_past _ _ _ (by simp <;> omega), World.cell?_alloc_past _ _ _ (by simp <;> omega), World.cell?_alloc_at _ _ _ _ (by simp <;> omega)]
  all_goals rfl
theorem boxed4_b (w : World) (pts : Int) (A : Option Addr) (n c : Nat) (a b : Int) (gw : Nat) (lw : Array Value) : (boxed4 w pts A n c a b gw lw).cell? ⟨w.heap.size + 2, 0, none⟩ = some (.int .i64 b) := by
  unfold boxed4
  rw [World.cell?_alloc_past _ _ _ (by simp <;> omega), World.cell?_alloc_at _ _ _ _ (by simp <;> omega)]
  all_goals rfl
theorem boxed4_w (w : World) (pts : Int) (A : Option Addr) (n c : Nat) (a b : Int) (gw : Nat) (lw : Array Value) : (boxed4 w pts A n c a b gw lw).cell? ⟨w.heap.size + 3, 0, none⟩ = some (.func (.func gw) #[] lw) := by
  unfold boxed4
  rw [World.cell?_alloc_at _ _ _ _ (by simp <;> omega)]
  all_goals rfl

@[go_sem] theorem run_store_func2 (P : Program) (w : World) (a : Addr) (f : Fn) (b c : Array Value) (m : Mode) : (store a (.func f b c) m).run P w = stored P w a (.func f b c) m := run_store P w a _ m rfl

set_option maxRecDepth 100000 in
set_option maxHeartbeats 2000000 in
theorem gasked_of (pts : Int) (A : Option Addr) (n c : Nat) (a b : Int) (gw : Nat) (lw : Array Value) (w : World) (R : Ending → World → Prop)
    (h : Calls Tryz.prog 193 #[.agg #[.int .i64 pts, .slice A n c], .func (.func 194) #[] #[.pointer (some ⟨w.heap.size, 0, none⟩), .pointer (some ⟨w.heap.size + 1, 0, none⟩), .pointer (some ⟨w.heap.size + 2, 0, none⟩), .pointer (some ⟨w.heap.size + 3, 0, none⟩)]] (boxed4 w pts A n c a b gw lw) fun e w' => (∃ v : Int, e = .returned (.int .i64 v)) ∧ R e w') :
    Calls Tryz.prog 138 #[.agg #[.int .i64 pts, .slice A n c], .int .i64 a, .int .i64 b, .func (.func gw) #[] lw] w R := by
  unfold boxed4 at h
  have H := Lib.hid h
  clear h
  go_enter Tryz.func138, Tryz.ntmps138
  go_wp2_with (go_at_call 193; refine H.out.mono ?_; rintro e w2 ⟨⟨v, rfl⟩, hR⟩)
  exact hR

theorem gasked_yes (pts : Int) (A : Option Addr) (n c : Nat) (bs : List Bound) (a b : Int) (gw : Nat) (lw : Array Value) (eg : ∀ args w, (callFunc gw args).run Tryz.prog w = .ok (.enter gw args) w) (w : World) (hl : Rd encBound 4 w A n c bs) (hk : checkSys pts bs = 0) (hs : solvedOk pts bs = true)
    (h1 : 0 ≤ a) (h2 : a < pts) (h3 : 0 ≤ b) (h4 : b < pts) (T : Nat → Prop) (hT : ∀ k, T k → k < w.heap.size) (Φ : World → Prop) (hΦ : ∀ W1 W2 : World, Φ W1 → (∀ k, k < w.heap.size → W2.heap[k]? = W1.heap[k]?) → Φ W2)
    (hdo : ∀ W, Below w.heap.size w W → Calls Tryz.prog gw lw W fun e W' => e = .returned (.tuple #[]) ∧ GrownT T W W' ∧ Φ W') :
    Calls Tryz.prog 138 #[.agg #[.int .i64 pts, .slice A n c], .int .i64 a, .int .i64 b, .func (.func gw) #[] lw] w fun e w' => e = .returned (.int .i64 0) ∧ GrownT T w w' ∧ Φ w' := by
  have hz := boxed4_size w pts A n c a b gw lw
  have hb4 := boxed4_below w pts A n c a b gw lw
  refine gasked_of pts A n c a b gw lw w _ ((tried_any pts A n c bs 194 _ ent_asked1 0 _ (hl.below hb4 (Nat.le_refl _)) hk T (fun k hk => by have := hT k hk; omega) Φ (fun W1 W2 hf h => hΦ W1 W2 hf (fun k hk => h k (by omega))) (fun W hW => ?_)).mono ?_)
  · exact asked1_yes pts A n c bs a b gw lw eg w.heap.size (w.heap.size + 1) (w.heap.size + 2) (w.heap.size + 3) W (hl.below (hb4.trans (hW.mono (by omega))) (Nat.le_refl _)) (sysOk_of hk) hs h1 h2 h3 h4
      ((hW.cell (p := ⟨w.heap.size, 0, none⟩) (show w.heap.size < _ by omega)).trans (boxed4_s w pts A n c a b gw lw 0)) ((hW.cell (p := ⟨w.heap.size, 1, none⟩) (show w.heap.size < _ by omega)).trans (boxed4_s w pts A n c a b gw lw 1))
      ((hW.cell (p := ⟨w.heap.size + 1, 0, none⟩) (show w.heap.size + 1 < _ by omega)).trans (boxed4_a w pts A n c a b gw lw)) ((hW.cell (p := ⟨w.heap.size + 2, 0, none⟩) (show w.heap.size + 2 < _ by omega)).trans (boxed4_b w pts A n c a b gw lw))
      ((hW.cell (p := ⟨w.heap.size + 3, 0, none⟩) (show w.heap.size + 3 < _ by omega)).trans (boxed4_w w pts A n c a b gw lw)) T Φ
      (fun W' hW' => hdo W' (hb4.trans ((hW.mono (by omega)).trans (hW'.mono (by have := hW.size; omega)))))
  · rintro e w' ⟨rfl, hg, hf⟩
    exact ⟨⟨_, rfl⟩, rfl, (Below.grownT T hb4).trans hg, hf⟩

theorem gasked_no (pts : Int) (A : Option Addr) (n c : Nat) (bs : List Bound) (a b : Int) (gw : Nat) (lw : Array Value) (w : World) (hl : Rd encBound 4 w A n c bs) (hk : checkSys pts bs = 0) (hs : solvedOk pts bs = false)
    (h1 : 0 ≤ a) (h2 : a < pts) (h3 : 0 ≤ b) (h4 : b < pts) :
    Calls Tryz.prog 138 #[.agg #[.int .i64 pts, .slice A n c], .int .i64 a, .int .i64 b, .func (.func gw) #[] lw] w fun e w' => e = .returned (.int .i64 10) ∧ Below w.heap.size w w' := by
  have hz := boxed4_size w pts A n c a b gw lw
  have hb4 := boxed4_below w pts A n c a b gw lw
  refine gasked_of pts A n c a b gw lw w _ ((tried_any pts A n c bs 194 _ ent_asked1 10 _ (hl.below hb4 (Nat.le_refl _)) hk (fun _ => False) (fun k hk => hk.elim) (fun _ => True) (fun _ _ _ _ => trivial) (fun W hW => ?_)).mono ?_)
  · refine (asked1_no pts A n c bs a b w.heap.size (w.heap.size + 1) (w.heap.size + 2) (w.heap.size + 3) W (hl.below (hb4.trans (hW.mono (by omega))) (Nat.le_refl _)) (sysOk_of hk) hs h1 h2 h3 h4
      ((hW.cell (p := ⟨w.heap.size, 0, none⟩) (show w.heap.size < _ by omega)).trans (boxed4_s w pts A n c a b gw lw 0)) ((hW.cell (p := ⟨w.heap.size, 1, none⟩) (show w.heap.size < _ by omega)).trans (boxed4_s w pts A n c a b gw lw 1))
      ((hW.cell (p := ⟨w.heap.size + 1, 0, none⟩) (show w.heap.size + 1 < _ by omega)).trans (boxed4_a w pts A n c a b gw lw)) ((hW.cell (p := ⟨w.heap.size + 2, 0, none⟩) (show w.heap.size + 2 < _ by omega)).trans (boxed4_b w pts A n c a b gw lw))).mono ?_
    rintro e w' ⟨rfl, hb⟩
    exact ⟨rfl, Below.grownT _ hb, trivial⟩
  · rintro e w' ⟨rfl, hg, _⟩
    exact ⟨⟨_, rfl⟩, rfl, hb4.trans (hg.below.mono (by omega))⟩

theorem ent_great1 : ∀ args w, (callFunc 139 args).run Tryz.prog w = .ok (.enter 139 args) w := enters_of Tryz.func139 (by kernel_rfl) rfl
set_option maxRecDepth 100000 in
set_option maxHeartbeats 2000000 in
theorem great1 (pts : Int) (A : Option Addr) (n c : Nat) (bs : List Bound) (a b : Int) (b0 b1 b2 bn : Nat) (v0 : Value) (w : World) (hl : Rd encBound 4 w A n c bs) (hok : SysOk pts bs)
    (h1 : 0 ≤ a) (h2 : a < pts) (h3 : 0 ≤ b) (h4 : b < pts) (c0 : w.cell? ⟨b0, 0, none⟩ = some (.int .i64 pts)) (c1 : w.cell? ⟨b0, 1, none⟩ = some (.slice A n c)) (ca : w.cell? ⟨b1, 0, none⟩ = some (.int .i64 a)) (cb : w.cell? ⟨b2, 0, none⟩ = some (.int .i64 b))
    (cn : w.cell? ⟨bn, 0, none⟩ = some v0) (fn : w.frozen? ⟨bn, 0, none⟩ = false) :
    Calls Tryz.prog 139 #[.pointer (some ⟨b0, 0, none⟩), .pointer (some ⟨b1, 0, none⟩), .pointer (some ⟨b2, 0, none⟩), .pointer (some ⟨bn, 0, none⟩)] w fun e w' => e = .returned (.tuple #[]) ∧ GrownT (fun k => k = bn) w w' ∧ w'.cell? ⟨bn, 0, none⟩ = some (.int .i64 (greatestR pts bs a b)) ∧ w'.frozen? ⟨bn, 0, none⟩ = false := by
  have hg := greatest_any pts A n c bs a b w hl hok h1 h2 h3 h4
  have HG := Lib.hid hg
  have zn := block_lt_of_cell cn
  simp only at zn
  clear hg hl
  go_enter Tryz.func139, Tryz.ntmps139
  go_wp2_with (go_at_call 140; refine HG.out.mono ?_; rintro e w2 ⟨rfl, hb⟩
               have d1 : w2.cell? ⟨bn, 0, none⟩ = some v0 := (hb.cell (p := ⟨bn, 0, none⟩) zn).trans cn
               have d2 : w2.frozen? ⟨bn, 0, none⟩ = false := (hb.frozen (p := ⟨bn, 0, none⟩) zn).trans fn)
  go_end0
  refine ⟨rfl, ⟨hb.os, hb.tape, hb.output, by simpa using hb.size, fun k hk ht => (Below.heap_setCell _ _ _ k (show k ≠ bn from ht)).trans (hb.block k hk)⟩, World.cell?_setCell_same' _ _ _ (by rw [d1]; rfl), by rw [World.frozen?_setCell]; exact d2⟩

/-- what Greatest returns: the number, whether there is one, the error -/
def greatestV (pts : Int) (bs : List Bound) (a b : Int) : Int × Bool × Int :=
  if solvedOk pts bs then (if greatestR pts bs a b = noneV then (0, false, 0) else (greatestR pts bs a b, true, 0)) else (0, false, 10)

set_option maxRecDepth 100000 in
set_option maxHeartbeats 2000000 in
theorem Greatest_any (pts : Int) (A : Option Addr) (n c : Nat) (bs : List Bound) (a b : Int) (w : World) (hl : Rd encBound 4 w A n c bs) (hk : checkSys pts bs = 0) (h1 : 0 ≤ a) (h2 : a < pts) (h3 : 0 ≤ b) (h4 : b < pts) :
    Calls Tryz.prog 79 #[.agg #[.int .i64 pts, .slice A n c], .int .i64 a, .int .i64 b] w fun e w' => e = .returned (.tuple #[.int .i64 (greatestV pts bs a b).1, .bool (greatestV pts bs a b).2.1, .int .i64 (greatestV pts bs a b).2.2]) ∧ Below w.heap.size w w' := by
  obtain ⟨W1, hW1⟩ : ∃ W1, (((w.alloc (.cells #[.int .i64 pts, .slice A n c] 117)).alloc (.cells #[.int .i64 a] 3)).alloc (.cells #[.int .i64 b] 3)).alloc (.cells #[.int .i64 1099511627776] 3) = W1 := ⟨_, rfl⟩
  have hs1 : W1.heap.size = w.heap.size + 4 := by rw [← hW1]; simp
  have hb1 : Below w.heap.size w W1 := by rw [← hW1]; exact ((((Below.refl _ w).alloc (Nat.le_refl _) _).alloc (by simp <;> omega) _).alloc (by simp <;> omega) _).alloc (by simp <;> omega) _
  have hl1 := hl.below hb1 (Nat.le_refl _)
  have e0 : ∀ i, W1.cell? ⟨w.heap.size, i, none⟩ = #[Value.int .i64 pts, .slice A n c][i]? := fun i => by rw [← hW1, World.cell?_alloc_past _ _ _ (by simp <;> omega), World.cell?_alloc_past _ _ _ (by simp <;> omega), World.cell?_alloc_past _ _ _ (by simp <;> omega), World.cell?_alloc_at _ _ _ _ rfl]
  have ea : W1.cell? ⟨w.heap.size + 1, 0, none⟩ = some (.int .i64 a) := by rw [← hW1, World.cell?_alloc_past _ _ _ (by simp <;> omega), World.cell?_alloc_past _ _ _ (by simp <;> omega), World.cell?_alloc_at _ _ _ _ (by simp <;> omega)]; rfl
  have eb : W1.cell? ⟨w.heap.size + 2, 0, none⟩ = some (.int .i64 b) := by rw [← hW1, World.cell?_alloc_past _ _ _ (by simp <;> omega), World.cell?_alloc_at _ _ _ _ (by simp <;> omega)]; rfl
  have en : W1.cell? ⟨w.heap.size + 3, 0, none⟩ = some (.int .i64 1099511627776) := by rw [← hW1, World.cell?_alloc_at _ _ _ _ (by simp <;> omega)]; rfl
  have fnz : W1.frozen? ⟨w.heap.size + 3, 0, none⟩ = false := by rw [← hW1]; exact World.frozen?_alloc_at _ _ _ _ (by simp <;> omega)
  cases hs : solvedOk pts bs
  · have hg : greatestV pts bs a b = (0, false, 10) := by unfold greatestV; rw [hs]; rfl
    have hask := gasked_no pts A n c bs a b 139 #[.pointer (some ⟨w.heap.size, 0, none⟩), .pointer (some ⟨w.heap.size + 1, 0, none⟩), .pointer (some ⟨w.heap.size + 2, 0, none⟩), .pointer (some ⟨w.heap.size + 3, 0, none⟩)] W1 hl1 hk hs h1 h2 h3 h4
    rw [hg]
    have HA := Lib.hid hask
    have HW := Lib.hid hW1
    have HN := Lib.hid en
    clear hg e0 ea eb en hl hl1 hk hs hask hW1
    go_enter Tryz.func79, Tryz.ntmps79
    go_wp2_with (go_at_call 138; rw [HW.out]; refine HA.out.mono ?_; rintro e w2 ⟨rfl, hb⟩; have d1 : w2.cell? ⟨w.heap.size + 1 + 1 + 1, 0, none⟩ = some (.int .i64 1099511627776) := (hb.cell (p := ⟨w.heap.size + 3, 0, none⟩) (show w.heap.size + 3 < W1.heap.size by omega)).trans HN.out)
    go_ret3
    exact ⟨rfl, hb1.trans (hb.mono (by omega))⟩
  · have hask := gasked_yes pts A n c bs a b 139 #[.pointer (some ⟨w.heap.size, 0, none⟩), .pointer (some ⟨w.heap.size + 1, 0, none⟩), .pointer (some ⟨w.heap.size + 2, 0, none⟩), .pointer (some ⟨w.heap.size + 3, 0, none⟩)] ent_great1 W1 hl1 hk hs h1 h2 h3 h4
      (fun k => k = w.heap.size + 3) (fun k hk => by omega) (fun W => W.cell? ⟨w.heap.size + 3, 0, none⟩ = some (.int .i64 (greatestR pts bs a b))) (fun Wa Wb hf h => (World.cell?_of_block (a := ⟨w.heap.size + 3, 0, none⟩) (h (w.heap.size + 3) (by omega))).trans hf)
      (fun W hW => (great1 pts A n c bs a b w.heap.size (w.heap.size + 1) (w.heap.size + 2) (w.heap.size + 3) (.int .i64 1099511627776) W (hl1.below hW (Nat.le_refl _)) (sysOk_of hk) h1 h2 h3 h4
        ((hW.cell (p := ⟨w.heap.size, 0, none⟩) (show w.heap.size < W1.heap.size by omega)).trans (e0 0)) ((hW.cell (p := ⟨w.heap.size, 1, none⟩) (show w.heap.size < W1.heap.size by omega)).trans (e0 1))
        ((hW.cell (p := ⟨w.heap.size + 1, 0, none⟩) (show w.heap.size + 1 < W1.heap.size by omega)).trans ea) ((hW.cell (p := ⟨w.heap.size + 2, 0, none⟩) (show w.heap.size + 2 < W1.heap.size by omega)).trans eb)
        ((hW.cell (p := ⟨w.heap.size + 3, 0, none⟩) (show w.heap.size + 3 < W1.heap.size by omega)).trans en) ((hW.frozen (p := ⟨w.heap.size + 3, 0, none⟩) (show w.heap.size + 3 < W1.heap.size by omega)).trans fnz)).mono fun _ _ h => ⟨h.1, h.2.1, h.2.2.1⟩)
    have hg : greatestV pts bs a b = if greatestR pts bs a b = noneV then (0, false, 0) else (greatestR pts bs a b, true, 0) := by unfold greatestV; rw [hs]; rfl
    rw [hg]
    clear hg e0 ea eb en hl hl1 hk hs
    generalize greatestR pts bs a b = G at hask ⊢
    have HA := Lib.hid hask
    have HW := Lib.hid hW1
    clear hask hW1
    by_cases hq : G = noneV
    · rw [if_pos hq]
      unfold noneV at hq
      subst hq
      go_enter Tryz.func79, Tryz.ntmps79
      go_wp2_with (go_at_call 138; rw [HW.out]; refine HA.out.mono ?_; rintro e w2 ⟨rfl, hg, hc⟩)
      go_ret3
      exact ⟨rfl, hb1.trans ⟨hg.os, hg.tape, hg.output, by have := hg.size; omega, fun k hk => hg.block k (by omega) (by omega)⟩⟩
    · rw [if_neg hq]
      have hq' : (G == 1099511627776) = false := by simpa [noneV] using hq
      clear hq
      go_enter Tryz.func79, Tryz.ntmps79
      go_wp2_with (go_at_call 138; rw [HW.out]; refine HA.out.mono ?_; rintro e w2 ⟨rfl, hg, hc⟩)
      go_ret3
      exact ⟨rfl, hb1.trans ⟨hg.os, hg.tape, hg.output, by have := hg.size; omega, fun k hk => hg.block k (by omega) (by omega)⟩⟩
end Go.Proofs.YtelnkflmnbhclaaGreat
end

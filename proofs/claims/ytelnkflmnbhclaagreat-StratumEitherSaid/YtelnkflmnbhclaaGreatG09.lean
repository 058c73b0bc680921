/- Contracts that the law leans on: Log2, Log3. -/
import Derived.Test.YtelnkflmnbhclaaGreatG06
import Derived.BigRegion
/- What is proved: the contract of stratum.CheckTrace: it returns what 'checkTrace' says. Conditions: none. -/
section
namespace Go.Proofs.YtelnkflmnbhclaaGreat
open Go.RowKit Go.Proofs

set_option maxHeartbeats 1000000 in
set_option maxRecDepth 100000 in
theorem CheckTrace_void (a b d e f g h i j : Int) (w : World) :
    Calls Tryz.prog 48 #[.agg #[.int .i64 a, .int .i64 b, .int .u8 4, .int .i64 d, .int .i64 e, .int .i64 f, .int .i64 g, .int .i64 h, .int .i64 i, .int .i64 j]] w
      fun e' w' => e' = .returned (.int .i64 (checkTrace ⟨a, b, 4, d, e, f, g, h, i, j⟩)) ∧ Below w.heap.size w w' := by
  go_enter Tryz.func48, Tryz.ntmps48
  go_wp2_with (go_at_call 97; refine (in_any _ _ _ _).mono ?_; rintro e w' ⟨rfl, rfl⟩)
  all_goals go_ret
  all_goals refine ⟨?_, ?_⟩
  all_goals first | ((repeat' (first | (with_reducible assumption) | (with_reducible exact Below.refl _ _) | (with_reducible refine Below.drew ?_) | (with_reducible refine below_drewN' ?_ _) | (with_reducible refine Below.alloc ?_ ?_ _) | (with_reducible refine Below.setCell ?_ ?_ _) | (with_reducible refine below_step (by assumption) ?_ ?_))) <;> first | (simp; done) | (simp; omega) | omega) | (simp_all [checkTrace, okT, yT]; done) | (simp_all [checkTrace, okT, yT]; intros; omega)

set_option maxHeartbeats 1000000 in
set_option maxRecDepth 100000 in
theorem CheckTrace_above (a b d e f g h i j : Int) (w : World) :
    Calls Tryz.prog 48 #[.agg #[.int .i64 a, .int .i64 b, .int .u8 1, .int .i64 d, .int .i64 e, .int .i64 f, .int .i64 g, .int .i64 h, .int .i64 i, .int .i64 j]] w
      fun e' w' => e' = .returned (.int .i64 (checkTrace ⟨a, b, 1, d, e, f, g, h, i, j⟩)) ∧ Below w.heap.size w w' := by
  go_enter Tryz.func48, Tryz.ntmps48
  go_wp2_with (first
    | (go_at_call 97; refine (in_any _ _ _ _).mono ?_; rintro e w' ⟨rfl, rfl⟩)
    | (go_at_call 99; refine (place_any _ _ _ _ _ _ _ _ _ _ _).mono ?_; rintro e wP ⟨rfl, hbP⟩; obtain ⟨hccP, hffP⟩ := bcell hbP; have hzP := hbP.size; (try simp only [World.size_alloc, World.size_drew] at hzP); have : w.heap.size < wP.heap.size := (by omega); have : w.heap.size + 1 < wP.heap.size := (by omega))
    | (go_at_call 100; refine (lower_any _ _ _ _ _ _ _ _ _ _ _).mono ?_; rintro e wL ⟨rfl, hbL⟩; obtain ⟨hccL, hffL⟩ := bcell hbL; have hzL := hbL.size; (try simp only [World.size_setCell] at hzL); have : w.heap.size < wL.heap.size := (by omega); have : w.heap.size + 1 < wL.heap.size := (by omega))
    | (go_at_call 98; refine (isPlace_any _ _ _).mono ?_; rintro e wI ⟨rfl, hbI⟩; obtain ⟨hccI, hffI⟩ := bcell hbI; have hzI := hbI.size; (try simp only [World.size_alloc, World.size_setCell, World.size_drew, World.heap_drewN] at hzI); have : w.heap.size < wI.heap.size := (by omega); have : w.heap.size + 1 < wI.heap.size := (by omega))
    | go_region)
  all_goals go_ret
  all_goals refine ⟨?_, ?_⟩
  all_goals first | ((repeat' (first | (with_reducible assumption) | (with_reducible exact Below.refl _ _) | (with_reducible refine Below.drew ?_) | (with_reducible refine below_drewN' ?_ _) | (with_reducible refine Below.alloc ?_ ?_ _) | (with_reducible refine Below.setCell ?_ ?_ _) | (with_reducible refine below_step (by assumption) ?_ ?_))) <;> first | (simp; done) | (simp; omega) | omega) | (simp_all [checkTrace, okT, yT]; done) | (simp_all [checkTrace, okT, yT]; intros; omega)

set_option maxHeartbeats 1000000 in
set_option maxRecDepth 100000 in
theorem CheckTrace_dated (a b d e f g h i j : Int) (w : World) :
    Calls Tryz.prog 48 #[.agg #[.int .i64 a, .int .i64 b, .int .u8 2, .int .i64 d, .int .i64 e, .int .i64 f, .int .i64 g, .int .i64 h, .int .i64 i, .int .i64 j]] w
      fun e' w' => e' = .returned (.int .i64 (checkTrace ⟨a, b, 2, d, e, f, g, h, i, j⟩)) ∧ Below w.heap.size w w' := by
  go_enter Tryz.func48, Tryz.ntmps48
  go_wp2_with (first
    | (go_at_call 97; refine (in_any _ _ _ _).mono ?_; rintro e w' ⟨rfl, rfl⟩)
    | (go_at_call 99; refine (place_any _ _ _ _ _ _ _ _ _ _ _).mono ?_; rintro e wP ⟨rfl, hbP⟩; obtain ⟨hccP, hffP⟩ := bcell hbP; have hzP := hbP.size; (try simp only [World.size_alloc, World.size_drew] at hzP); have : w.heap.size < wP.heap.size := (by omega); have : w.heap.size + 1 < wP.heap.size := (by omega))
    | (go_at_call 100; refine (lower_any _ _ _ _ _ _ _ _ _ _ _).mono ?_; rintro e wL ⟨rfl, hbL⟩; obtain ⟨hccL, hffL⟩ := bcell hbL; have hzL := hbL.size; (try simp only [World.size_alloc, World.size_setCell, World.size_drew, World.heap_drewN] at hzL); have : w.heap.size < wL.heap.size := (by omega); have : w.heap.size + 1 < wL.heap.size := (by omega))
    | (go_at_call 98; refine (isPlace_any _ _ _).mono ?_; rintro e wI ⟨rfl, hbI⟩; obtain ⟨hccI, hffI⟩ := bcell hbI; have hzI := hbI.size; (try simp only [World.size_alloc, World.size_setCell, World.size_drew, World.heap_drewN] at hzI); have : w.heap.size < wI.heap.size := (by omega); have : w.heap.size + 1 < wI.heap.size := (by omega))
    | go_region)
  all_goals go_ret
  all_goals refine ⟨?_, ?_⟩
  all_goals first | ((repeat' (first | (with_reducible assumption) | (with_reducible exact Below.refl _ _) | (with_reducible refine Below.drew ?_) | (with_reducible refine below_drewN' ?_ _) | (with_reducible refine Below.alloc ?_ ?_ _) | (with_reducible refine Below.setCell ?_ ?_ _) | (with_reducible refine below_step (by assumption) ?_ ?_))) <;> first | (simp; done) | (simp; omega) | omega) | (simp_all [checkTrace, okT, yT]; done) | (simp_all [checkTrace, okT, yT]; intros; omega)

set_option maxHeartbeats 1000000 in
set_option maxRecDepth 100000 in
theorem CheckTrace_moved (a b d e f g h i j : Int) (w : World) :
    Calls Tryz.prog 48 #[.agg #[.int .i64 a, .int .i64 b, .int .u8 3, .int .i64 d, .int .i64 e, .int .i64 f, .int .i64 g, .int .i64 h, .int .i64 i, .int .i64 j]] w
      fun e' w' => e' = .returned (.int .i64 (checkTrace ⟨a, b, 3, d, e, f, g, h, i, j⟩)) ∧ Below w.heap.size w w' := by
  go_enter Tryz.func48, Tryz.ntmps48
  go_wp2_with (first
    | (go_at_call 97; refine (in_any _ _ _ _).mono ?_; rintro e w' ⟨rfl, rfl⟩)
    | (go_at_call 99; refine (place_any _ _ _ _ _ _ _ _ _ _ _).mono ?_; rintro e wP ⟨rfl, hbP⟩; obtain ⟨hccP, hffP⟩ := bcell hbP; have hzP := hbP.size; (try simp only [World.size_alloc, World.size_drew] at hzP); have : w.heap.size < wP.heap.size := (by omega); have : w.heap.size + 1 < wP.heap.size := (by omega))
    | (go_at_call 100; refine (lower_any _ _ _ _ _ _ _ _ _ _ _).mono ?_; rintro e wL ⟨rfl, hbL⟩; obtain ⟨hccL, hffL⟩ := bcell hbL; have hzL := hbL.size; (try simp only [World.size_alloc, World.size_setCell, World.size_drew, World.heap_drewN] at hzL); have : w.heap.size < wL.heap.size := (by omega); have : w.heap.size + 1 < wL.heap.size := (by omega))
    | (go_at_call 98; refine (isPlace_any _ _ _).mono ?_; rintro e wI ⟨rfl, hbI⟩; obtain ⟨hccI, hffI⟩ := bcell hbI; have hzI := hbI.size; (try simp only [World.size_alloc, World.size_setCell, World.size_drew, World.heap_drewN] at hzI); have : w.heap.size < wI.heap.size := (by omega); have : w.heap.size + 1 < wI.heap.size := (by omega))
    | go_region)
  all_goals go_ret
  all_goals refine ⟨?_, ?_⟩
  all_goals first | ((repeat' (first | (with_reducible assumption) | (with_reducible exact Below.refl _ _) | (with_reducible refine Below.drew ?_) | (with_reducible refine below_drewN' ?_ _) | (with_reducible refine Below.alloc ?_ ?_ _) | (with_reducible refine Below.setCell ?_ ?_ _) | (with_reducible refine below_step (by assumption) ?_ ?_))) <;> first | (simp; done) | (simp; omega) | omega) | (simp_all [checkTrace, okT, yT]; done) | (simp_all [checkTrace, okT, yT]; intros; omega)

set_option maxHeartbeats 1000000 in
set_option maxRecDepth 100000 in
theorem CheckTrace_other (a b c d e f g h i j : Int) (w : World) (h1 : c ≠ 1) (h2 : c ≠ 2) (h3 : c ≠ 3) (h4 : c ≠ 4) :
    Calls Tryz.prog 48 #[.agg #[.int .i64 a, .int .i64 b, .int .u8 c, .int .i64 d, .int .i64 e, .int .i64 f, .int .i64 g, .int .i64 h, .int .i64 i, .int .i64 j]] w
      fun e' w' => e' = .returned (.int .i64 (checkTrace ⟨a, b, c, d, e, f, g, h, i, j⟩)) ∧ Below w.heap.size w w' := by
  go_enter Tryz.func48, Tryz.ntmps48
  go_wp2_with (first
    | (go_at_call 97; refine (in_any _ _ _ _).mono ?_; rintro e w' ⟨rfl, rfl⟩)
    | (go_at_call 99; refine (place_any _ _ _ _ _ _ _ _ _ _ _).mono ?_; rintro e wP ⟨rfl, hbP⟩; obtain ⟨hccP, hffP⟩ := bcell hbP; have hzP := hbP.size; (try simp only [World.size_alloc, World.size_drew] at hzP); have : w.heap.size < wP.heap.size := (by omega); have : w.heap.size + 1 < wP.heap.size := (by omega))
    | (go_at_call 100; refine (lower_any _ _ _ _ _ _ _ _ _ _ _).mono ?_; rintro e wL ⟨rfl, hbL⟩; obtain ⟨hccL, hffL⟩ := bcell hbL; have hzL := hbL.size; (try simp only [World.size_alloc, World.size_setCell, World.size_drew, World.heap_drewN] at hzL); have : w.heap.size < wL.heap.size := (by omega); have : w.heap.size + 1 < wL.heap.size := (by omega))
    | (go_at_call 98; refine (isPlace_any _ _ _).mono ?_; rintro e wI ⟨rfl, hbI⟩; obtain ⟨hccI, hffI⟩ := bcell hbI; have hzI := hbI.size; (try simp only [World.size_alloc, World.size_setCell, World.size_drew, World.heap_drewN] at hzI); have : w.heap.size < wI.heap.size := (by omega); have : w.heap.size + 1 < wI.heap.size := (by omega))
    | go_region)
  all_goals go_ret
  all_goals refine ⟨?_, ?_⟩
  all_goals first | ((repeat' (first | (with_reducible assumption) | (with_reducible exact Below.refl _ _) | (with_reducible refine Below.drew ?_) | (with_reducible refine below_drewN' ?_ _) | (with_reducible refine Below.alloc ?_ ?_ _) | (with_reducible refine Below.setCell ?_ ?_ _) | (with_reducible refine below_step (by assumption) ?_ ?_))) <;> first | (simp; done) | (simp; omega) | omega) | (simp_all [checkTrace, okT, yT]; done) | (simp_all [checkTrace, okT, yT]; intros; omega)

theorem CheckTrace_any (a b c d e f g h i j : Int) (w : World) :
    Calls Tryz.prog 48 #[.agg #[.int .i64 a, .int .i64 b, .int .u8 c, .int .i64 d, .int .i64 e, .int .i64 f, .int .i64 g, .int .i64 h, .int .i64 i, .int .i64 j]] w
      fun e' w' => e' = .returned (.int .i64 (checkTrace ⟨a, b, c, d, e, f, g, h, i, j⟩)) ∧ Below w.heap.size w w' := by
  by_cases h1 : c = 1
  · subst h1; exact CheckTrace_above a b d e f g h i j w
  by_cases h2 : c = 2
  · subst h2; exact CheckTrace_dated a b d e f g h i j w
  by_cases h3 : c = 3
  · subst h3; exact CheckTrace_moved a b d e f g h i j w
  by_cases h4 : c = 4
  · subst h4; exact CheckTrace_void a b d e f g h i j w
  exact CheckTrace_other a b c d e f g h i j w h1 h2 h3 h4
end Go.Proofs.YtelnkflmnbhclaaGreat
end

/- What is proved: the contracts of stratum.some, of the three predicates of follows, of follows and of Check: each returns what the plain function of its name says. Conditions: none. -/
section
namespace Go.Proofs.YtelnkflmnbhclaaGreat
open Go.RowKit Go.Proofs Go.Shelf

theorem some_any (g : Nat) (lb : Array Value) (eg : ∀ args w, (callFunc g args).run Tryz.prog w = .ok (.enter g args) w) (p : Trace → Bool) (A : Option Addr) (n c : Nat) (l : List Trace) (w : World)
    (hl : Rd encTrace 10 w A n c l) (hp : PredB Tryz.prog g lb (fun x => .agg (encTrace x).toArray) p w) :
    Calls Tryz.prog 146 #[.slice A n c, .func (.func g) #[] lb] w fun e w' => e = .returned (.bool (l.any p)) ∧ Below w.heap.size w w' := by
  go_enter Tryz.func146, Tryz.ntmps146
  go_wp2_with (go_at_call 204; refine (ContainsFunc_Trace g lb eg p A n c l _ hl hp).mono ?_; rintro e w' ⟨rfl, hb'⟩)
  go_ret
  exact ⟨rfl, hb'⟩

def p1 (x y : Trace) : Bool := decide (y.id = x.id)
def p2 (x y : Trace) : Bool := decide (y.id = x.void) && decide (y.kind ≠ 4)
def p3 (x y : Trace) : Bool := decide (y.kind = 4) && decide (y.void = x.void)

theorem pred1 (x : Trace) (bx : Nat) (w : World) (hlt : bx < w.heap.size) (h0 : w.cell? ⟨bx, 0, none⟩ = some (.int .i64 x.id)) :
    PredB Tryz.prog 147 #[.pointer (some ⟨bx, 0, none⟩)] (fun x => .agg (encTrace x).toArray) (p1 x) w := by
  intro W y hb
  have c0 : W.cell? ⟨bx, 0, none⟩ = some (.int .i64 x.id) := (hb.cell (p := ⟨bx, 0, none⟩) hlt).trans h0
  have hlt2 : bx < W.heap.size := by have := hb.size; omega
  simp only [encTrace, List.append_toArray, List.cons_append, List.nil_append]
  go_enter Tryz.func147, Tryz.ntmps147
  go_wp2
  go_ret
  exact ⟨by simp [p1]; rfl, hb.alloc hb.size _⟩
theorem pred2 (x : Trace) (bx : Nat) (w : World) (hlt : bx < w.heap.size) (h0 : w.cell? ⟨bx, 9, none⟩ = some (.int .i64 x.void)) :
    PredB Tryz.prog 148 #[.pointer (some ⟨bx, 0, none⟩)] (fun x => .agg (encTrace x).toArray) (p2 x) w := by
  intro W y hb
  have c0 : W.cell? ⟨bx, 9, none⟩ = some (.int .i64 x.void) := (hb.cell (p := ⟨bx, 9, none⟩) hlt).trans h0
  have hlt2 : bx < W.heap.size := by have := hb.size; omega
  simp only [encTrace, List.append_toArray, List.cons_append, List.nil_append]
  by_cases hq : y.id = x.void
  all_goals
    go_enter Tryz.func148, Tryz.ntmps148
    go_wp2
    go_ret
    exact ⟨by simp [p2, hq]; try rfl, hb.alloc hb.size _⟩
theorem pred3 (x : Trace) (bx : Nat) (w : World) (hlt : bx < w.heap.size) (h0 : w.cell? ⟨bx, 9, none⟩ = some (.int .i64 x.void)) :
    PredB Tryz.prog 149 #[.pointer (some ⟨bx, 0, none⟩)] (fun x => .agg (encTrace x).toArray) (p3 x) w := by
  intro W y hb
  have c0 : W.cell? ⟨bx, 9, none⟩ = some (.int .i64 x.void) := (hb.cell (p := ⟨bx, 9, none⟩) hlt).trans h0
  have hlt2 : bx < W.heap.size := by have := hb.size; omega
  simp only [encTrace, List.append_toArray, List.cons_append, List.nil_append]
  by_cases hq : y.kind = 4
  all_goals
    go_enter Tryz.func149, Tryz.ntmps149
    go_wp2
    go_ret
    exact ⟨by simp [p3, hq]; try rfl, hb.alloc hb.size _⟩

/-- the day of the last trace is later than that of x -/
def lastLater (l : List Trace) (x : Trace) : Bool := match l.getLast? with | some y => decide (x.known < y.known) | none => false
def follows (l : List Trace) (x : Trace) : Int :=
  if 140 ≤ l.length then 2 else if checkTrace x ≠ 0 then 1 else if l.any (p1 x) then 6 else if lastLater l x then 7
  else if x.kind ≠ 4 then 0 else if !(l.any (p2 x)) then 5 else if l.any (p3 x) then 6 else 0

theorem ret_int {k : IntKind} {a b : Int} (h : a = b) : Ending.returned (.int k a) = .returned (.int k b) := by rw [h]
section
variable {l : List Trace} {x z : Trace} {n : Nat}
theorem fo1 (hl : l.length = n) (h : 140 ≤ (n : Int)) : (2 : Int) = follows l x := by unfold follows; rw [if_pos (by omega)]
theorem fo2 (hl : l.length = n) (h : (n : Int) < 140) (h2 : (checkTrace x != 0) = true) : (1 : Int) = follows l x := by unfold follows; rw [if_neg (by omega), if_pos (by simpa using h2)]
theorem fo3 (hl : l.length = n) (h : (n : Int) < 140) (h2 : (checkTrace x != 0) = false) (h3 : l.any (p1 x) = true) : (6 : Int) = follows l x := by
  unfold follows; rw [if_neg (by omega), if_neg (by simpa using h2), if_pos h3]
theorem fo4 (hl : l.length = n) (h : (n : Int) < 140) (h2 : (checkTrace x != 0) = false) (h3 : l.any (p1 x) = false) (h4 : lastLater l x = true) : (7 : Int) = follows l x := by
  unfold follows; rw [if_neg (by omega), if_neg (by simpa using h2), if_neg (by simp [h3]), if_pos h4]
theorem fo5 (hl : l.length = n) (h : (n : Int) < 140) (h2 : (checkTrace x != 0) = false) (h3 : l.any (p1 x) = false) (h4 : lastLater l x = false) (h5 : (x.kind != 4) = true) : (0 : Int) = follows l x := by
  unfold follows; rw [if_neg (by omega), if_neg (by simpa using h2), if_neg (by simp [h3]), if_neg (by simp [h4]), if_pos (by simpa using h5)]
theorem fo6 (hl : l.length = n) (h : (n : Int) < 140) (h2 : (checkTrace x != 0) = false) (h3 : l.any (p1 x) = false) (h4 : lastLater l x = false) (h5 : (x.kind != 4) = false) (h6 : (!l.any (p2 x)) = true) : (5 : Int) = follows l x := by
  unfold follows; rw [if_neg (by omega), if_neg (by simpa using h2), if_neg (by simp [h3]), if_neg (by simp [h4]), if_neg (by simpa using h5), if_pos h6]
theorem fo7 (hl : l.length = n) (h : (n : Int) < 140) (h2 : (checkTrace x != 0) = false) (h3 : l.any (p1 x) = false) (h4 : lastLater l x = false) (h5 : (x.kind != 4) = false) (h6 : (!l.any (p2 x)) = false) (h7 : l.any (p3 x) = true) : (6 : Int) = follows l x := by
  unfold follows; rw [if_neg (by omega), if_neg (by simpa using h2), if_neg (by simp [h3]), if_neg (by simp [h4]), if_neg (by simpa using h5), if_neg (by rw [h6]; decide), if_pos h7]
theorem fo8 (hl : l.length = n) (h : (n : Int) < 140) (h2 : (checkTrace x != 0) = false) (h3 : l.any (p1 x) = false) (h4 : lastLater l x = false) (h5 : (x.kind != 4) = false) (h6 : (!l.any (p2 x)) = false) (h7 : l.any (p3 x) = false) : (0 : Int) = follows l x := by
  unfold follows; rw [if_neg (by omega), if_neg (by simpa using h2), if_neg (by simp [h3]), if_neg (by simp [h4]), if_neg (by simpa using h5), if_neg (by rw [h6]; decide), if_neg (by simp [h7])]
theorem lastLater_yes (hz : l.getLast? = some z) (h : x.known < z.known) : lastLater l x = true := by simp [lastLater, hz, h]
theorem lastLater_no (hz : l.getLast? = some z) (h : z.known ≤ x.known) : lastLater l x = false := by simp [lastLater, hz]; omega
theorem lastLater_nil : lastLater [] x = false := rfl
end

theorem ent1 : ∀ args w, (callFunc 147 args).run Tryz.prog w = .ok (.enter 147 args) w := enters_of Tryz.func147 (by kernel_rfl) rfl
theorem ent2 : ∀ args w, (callFunc 148 args).run Tryz.prog w = .ok (.enter 148 args) w := enters_of Tryz.func148 (by kernel_rfl) rfl
theorem ent3 : ∀ args w, (callFunc 149 args).run Tryz.prog w = .ok (.enter 149 args) w := enters_of Tryz.func149 (by kernel_rfl) rfl

set_option maxHeartbeats 2000000 in
set_option maxRecDepth 100000 in
theorem follows_cons (b off n c : Nat) (l : List Trace) (xa xb xc xd xe xf xg xh xi xj : Int) (w : World) (hl : Rd encTrace 10 w (some ⟨b, off, none⟩) n c l) (hn : 0 < n) (z : Trace) (hbw : b < w.heap.size) (hz : l.getLast? = some z) (hzc : w.cell? ⟨b, off + (n - 1) * 10 + 1, none⟩ = some (.int .i64 z.known)) :
    Calls Tryz.prog 89 #[.slice (some ⟨b, off, none⟩) n c, .agg #[.int .i64 xa, .int .i64 xb, .int .u8 xc, .int .i64 xd, .int .i64 xe, .int .i64 xf, .int .i64 xg, .int .i64 xh, .int .i64 xi, .int .i64 xj]] w
      fun e' w' => e' = .returned (.int .i64 (follows l ⟨xa, xb, xc, xd, xe, xf, xg, xh, xi, xj⟩)) ∧ Below w.heap.size w w' := by
  have hbig := hl.big
  go_enter Tryz.func89, Tryz.ntmps89
  go_wp2_with (first
    | (go_at_call 48; refine (CheckTrace_any _ _ _ _ _ _ _ _ _ _ _).mono ?_; rintro e wC ⟨rfl, hbC⟩; obtain ⟨hccC, hffC⟩ := bcell hbC; have hzC := hbC.size; (try simp only [World.size_alloc] at hzC); have : b < wC.heap.size := (by omega); have : w.heap.size < wC.heap.size := (by omega); have hlC := (hl.alloc _).below hbC (by simp); have hpC := pred1 ⟨xa, xb, xc, xd, xe, xf, xg, xh, xi, xj⟩ w.heap.size wC (by omega) (by rw [hccC _ _ (by first | omega | (simp; done) | (simp; omega))]; simp))
    | (go_at_call 146; (with_reducible refine (some_any _ _ ent1 _ _ _ _ _ _ hlC hpC).mono ?_); rintro e wS ⟨rfl, hbS⟩; obtain ⟨hccS, hffS⟩ := bcell hbS; have hzS := hbS.size; (try simp only [World.size_alloc, World.size_setCell, World.size_drew, World.heap_drewN] at hzS); have : b < wS.heap.size := (by omega); have : w.heap.size < wS.heap.size := (by omega); have hlS := hlC.below hbS (Nat.le_refl _); have hpS := pred2 ⟨xa, xb, xc, xd, xe, xf, xg, xh, xi, xj⟩ w.heap.size wS (by omega) (by rw [hccS _ _ (by first | omega | (simp; done) | (simp; omega)), hccC _ _ (by first | omega | (simp; done) | (simp; omega))]; simp); clear hpC)
    | (go_at_call 146; (with_reducible refine (some_any _ _ ent2 _ _ _ _ _ _ (hlS.drewN _) (hpS.drewN _)).mono ?_); rintro e wT ⟨rfl, hbT⟩; obtain ⟨hccT, hffT⟩ := bcell hbT; have hzT := hbT.size; (try simp only [World.heap_drewN] at hzT); have : b < wT.heap.size := (by omega); have : w.heap.size < wT.heap.size := (by omega); have hlT := (hlS.drewN _).below hbT (Nat.le_refl _); have hpT := pred3 ⟨xa, xb, xc, xd, xe, xf, xg, xh, xi, xj⟩ w.heap.size wT (by omega) (by rw [hccT _ _ (by first | omega | (simp; done) | (simp; omega)), World.cell?_drewN, hccS _ _ (by first | omega | (simp; done) | (simp; omega)), hccC _ _ (by first | omega | (simp; done) | (simp; omega))]; simp); clear hpS)
    | (go_at_call 146; (with_reducible refine (some_any _ _ ent3 _ _ _ _ _ _ hlT hpT).mono ?_); rintro e wU ⟨rfl, hbU⟩; obtain ⟨hccU, hffU⟩ := bcell hbU; have hzU := hbU.size; (try simp only [World.size_alloc, World.size_setCell, World.size_drew, World.heap_drewN] at hzU); have : b < wU.heap.size := (by omega); have : w.heap.size < wU.heap.size := (by omega); clear hpT)
    | go_quiet (fail))
  all_goals go_ret
  all_goals refine ⟨ret_int ?_, ?_⟩
  all_goals first | ((repeat' (first | (with_reducible assumption) | (with_reducible exact Below.refl _ _) | (with_reducible refine Below.drew ?_) | (with_reducible refine below_drewN' ?_ _) | (with_reducible refine Below.alloc ?_ ?_ _) | (with_reducible refine Below.setCell ?_ ?_ _) | (with_reducible refine below_step (by assumption) ?_ ?_))) <;> first | (simp; done) | (simp; omega) | omega) | ((refine fo1 hl.len ?_) <;> (first | assumption | (refine lastLater_no hz ?_; assumption) | (refine lastLater_yes hz ?_; assumption))) | ((refine fo2 hl.len ?_ ?_) <;> (first | assumption | (refine lastLater_no hz ?_; assumption) | (refine lastLater_yes hz ?_; assumption))) | ((refine fo3 hl.len ?_ ?_ ?_) <;> (first | assumption | (refine lastLater_no hz ?_; assumption) | (refine lastLater_yes hz ?_; assumption))) | ((refine fo4 hl.len ?_ ?_ ?_ ?_) <;> (first | assumption | (refine lastLater_no hz ?_; assumption) | (refine lastLater_yes hz ?_; assumption))) | ((refine fo5 hl.len ?_ ?_ ?_ ?_ ?_) <;> (first | assumption | (refine lastLater_no hz ?_; assumption) | (refine lastLater_yes hz ?_; assumption))) | ((refine fo6 hl.len ?_ ?_ ?_ ?_ ?_ ?_) <;> (first | assumption | (refine lastLater_no hz ?_; assumption) | (refine lastLater_yes hz ?_; assumption))) | ((refine fo7 hl.len ?_ ?_ ?_ ?_ ?_ ?_ ?_) <;> (first | assumption | (refine lastLater_no hz ?_; assumption) | (refine lastLater_yes hz ?_; assumption))) | ((refine fo8 hl.len ?_ ?_ ?_ ?_ ?_ ?_ ?_) <;> (first | assumption | (refine lastLater_no hz ?_; assumption) | (refine lastLater_yes hz ?_; assumption)))
set_option maxHeartbeats 2000000 in
set_option maxRecDepth 100000 in
theorem follows_nil (A : Option Addr) (c : Nat) (hc0 : c ≤ 9223372036854775807) (xa xb xc xd xe xf xg xh xi xj : Int) (w : World) :
    Calls Tryz.prog 89 #[.slice A 0 c, .agg #[.int .i64 xa, .int .i64 xb, .int .u8 xc, .int .i64 xd, .int .i64 xe, .int .i64 xf, .int .i64 xg, .int .i64 xh, .int .i64 xi, .int .i64 xj]] w
      fun e' w' => e' = .returned (.int .i64 (follows [] ⟨xa, xb, xc, xd, xe, xf, xg, xh, xi, xj⟩)) ∧ Below w.heap.size w w' := by
  have hl : Rd encTrace 10 w A 0 c [] := Rd.none_ A c hc0
  go_enter Tryz.func89, Tryz.ntmps89
  go_wp2_with (first
    | (go_at_call 48; refine (CheckTrace_any _ _ _ _ _ _ _ _ _ _ _).mono ?_; rintro e wC ⟨rfl, hbC⟩; obtain ⟨hccC, hffC⟩ := bcell hbC; have hzC := hbC.size; (try simp only [World.size_alloc] at hzC); have : w.heap.size < wC.heap.size := (by omega); have hlC := (hl.alloc _).below hbC (by simp); have hpC := pred1 ⟨xa, xb, xc, xd, xe, xf, xg, xh, xi, xj⟩ w.heap.size wC (by omega) (by rw [hccC _ _ (by first | omega | (simp; done) | (simp; omega))]; simp))
    | (go_at_call 146; (with_reducible refine (some_any _ _ ent1 _ _ _ _ _ _ hlC hpC).mono ?_); rintro e wS ⟨rfl, hbS⟩; obtain ⟨hccS, hffS⟩ := bcell hbS; have hzS := hbS.size; (try simp only [World.size_alloc, World.size_setCell, World.size_drew, World.heap_drewN] at hzS); have : w.heap.size < wS.heap.size := (by omega); have hlS := hlC.below hbS (Nat.le_refl _); have hpS := pred2 ⟨xa, xb, xc, xd, xe, xf, xg, xh, xi, xj⟩ w.heap.size wS (by omega) (by rw [hccS _ _ (by first | omega | (simp; done) | (simp; omega)), hccC _ _ (by first | omega | (simp; done) | (simp; omega))]; simp); clear hpC)
    | (go_at_call 146; (with_reducible refine (some_any _ _ ent2 _ _ _ _ _ _ (hlS.drewN _) (hpS.drewN _)).mono ?_); rintro e wT ⟨rfl, hbT⟩; obtain ⟨hccT, hffT⟩ := bcell hbT; have hzT := hbT.size; (try simp only [World.heap_drewN] at hzT); have : w.heap.size < wT.heap.size := (by omega); have hlT := (hlS.drewN _).below hbT (Nat.le_refl _); have hpT := pred3 ⟨xa, xb, xc, xd, xe, xf, xg, xh, xi, xj⟩ w.heap.size wT (by omega) (by rw [hccT _ _ (by first | omega | (simp; done) | (simp; omega)), World.cell?_drewN, hccS _ _ (by first | omega | (simp; done) | (simp; omega)), hccC _ _ (by first | omega | (simp; done) | (simp; omega))]; simp); clear hpS)
    | (go_at_call 146; (with_reducible refine (some_any _ _ ent3 _ _ _ _ _ _ hlT hpT).mono ?_); rintro e wU ⟨rfl, hbU⟩; obtain ⟨hccU, hffU⟩ := bcell hbU; have hzU := hbU.size; (try simp only [World.size_alloc, World.size_setCell, World.size_drew, World.heap_drewN] at hzU); have : w.heap.size < wU.heap.size := (by omega); clear hpT)
    | go_quiet (fail))
  all_goals go_ret
  all_goals refine ⟨ret_int ?_, ?_⟩
  all_goals first | ((repeat' (first | (with_reducible assumption) | (with_reducible exact Below.refl _ _) | (with_reducible refine Below.drew ?_) | (with_reducible refine below_drewN' ?_ _) | (with_reducible refine Below.alloc ?_ ?_ _) | (with_reducible refine Below.setCell ?_ ?_ _) | (with_reducible refine below_step (by assumption) ?_ ?_))) <;> first | (simp; done) | (simp; omega) | omega) | ((refine fo1 hl.len ?_) <;> (first | assumption | exact lastLater_nil | (simp; done))) | ((refine fo2 hl.len ?_ ?_) <;> (first | assumption | exact lastLater_nil | (simp; done))) | ((refine fo3 hl.len ?_ ?_ ?_) <;> (first | assumption | exact lastLater_nil | (simp; done))) | ((refine fo4 hl.len ?_ ?_ ?_ ?_) <;> (first | assumption | exact lastLater_nil | (simp; done))) | ((refine fo5 hl.len ?_ ?_ ?_ ?_ ?_) <;> (first | assumption | exact lastLater_nil | (simp; done))) | ((refine fo6 hl.len ?_ ?_ ?_ ?_ ?_ ?_) <;> (first | assumption | exact lastLater_nil | (simp; done))) | ((refine fo7 hl.len ?_ ?_ ?_ ?_ ?_ ?_ ?_) <;> (first | assumption | exact lastLater_nil | (simp; done))) | ((refine fo8 hl.len ?_ ?_ ?_ ?_ ?_ ?_ ?_) <;> (first | assumption | exact lastLater_nil | (simp; done)))
theorem follows_any (A : Option Addr) (n c : Nat) (l : List Trace) (xa xb xc xd xe xf xg xh xi xj : Int) (w : World) (hl : Rd encTrace 10 w A n c l) :
    Calls Tryz.prog 89 #[.slice A n c, .agg #[.int .i64 xa, .int .i64 xb, .int .u8 xc, .int .i64 xd, .int .i64 xe, .int .i64 xf, .int .i64 xg, .int .i64 xh, .int .i64 xi, .int .i64 xj]] w
      fun e' w' => e' = .returned (.int .i64 (follows l ⟨xa, xb, xc, xd, xe, xf, xg, xh, xi, xj⟩)) ∧ Below w.heap.size w w' := by
  rcases Nat.eq_zero_or_pos n with h0 | h0
  · subst h0
    have : l = [] := List.eq_nil_of_length_eq_zero hl.len
    subst this
    exact follows_nil A c hl.cap.2 xa xb xc xd xe xf xg xh xi xj w
  · obtain ⟨b, off, z, rfl, hbw, hz, hcell⟩ := hl.one (i := n - 1) (by omega)
    exact follows_cons b off n c l xa xb xc xd xe xf xg xh xi xj w hl h0 z hbw (by rw [List.getLast?_eq_getElem?, hl.len]; exact hz) (hcell 1 _ rfl)
end Go.Proofs.YtelnkflmnbhclaaGreat
end

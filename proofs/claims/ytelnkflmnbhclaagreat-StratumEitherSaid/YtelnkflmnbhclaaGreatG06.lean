/- Contracts that the law leans on: Log1, Pred. -/
import Derived.Test.YtelnkflmnbhclaaGreatG01
import Derived.Test.YtelnkflmnbhclaaGreatG02
import Derived.Shelf.Abstract
/- What is proved: contracts of stratum.in, isPlace, place, lower and CheckTrace: each returns what the plain function of its name says. Conditions: none. -/
section
namespace Go.Proofs.YtelnkflmnbhclaaGreat
open Go.RowKit Go.Proofs

def inB (n low high : Int) : Bool := decide (low ≤ n) && decide (n ≤ high)
theorem inB_iff {n low high : Int} : inB n low high = true ↔ low ≤ n ∧ n ≤ high := by simp [inB]
theorem inB_no {n low high : Int} : inB n low high = false ↔ ¬ (low ≤ n ∧ n ≤ high) := by
  rw [← inB_iff]; simp
def isPlaceB (p l : Int) : Bool := inB p 1 20 && inB l 1 50

theorem in_any (n low high : Int) (w : World) :
    Calls Tryz.prog 97 #[.int .i64 n, .int .i64 low, .int .i64 high] w fun e w' => e = .returned (.bool (inB n low high)) ∧ w' = w := by
  by_cases h : low ≤ n
  · go_enter Tryz.func97, Tryz.ntmps97
    go_wp2
    go_ret
    exact ⟨by simp [inB, h], rfl⟩
  · go_enter Tryz.func97, Tryz.ntmps97
    go_wp2
    go_ret
    refine ⟨?_, rfl⟩
    have : inB n low high = false := inB_no.2 (by omega)
    rw [this]; rfl

theorem isPlace_any (p l : Int) (w : World) :
    Calls Tryz.prog 98 #[.agg #[.int .i64 p, .int .i64 l]] w fun e w' => e = .returned (.bool (isPlaceB p l)) ∧ Below w.heap.size w w' := by
  cases hp : inB p 1 20
  all_goals
    go_enter Tryz.func98, Tryz.ntmps98
    go_wp2_with (go_at_call 97; refine (in_any _ _ _ _).mono ?_; rintro e w' ⟨rfl, rfl⟩; try rw [hp])
    go_ret
    exact ⟨by simp [isPlaceB, hp], (Below.refl _ _).alloc (Nat.le_refl _) _⟩

theorem place_any (a b c d e f g h i j : Int) (w : World) :
    Calls Tryz.prog 99 #[.agg #[.int .i64 a, .int .i64 b, .int .u8 c, .int .i64 d, .int .i64 e, .int .i64 f, .int .i64 g, .int .i64 h, .int .i64 i, .int .i64 j]] w
      fun e' w' => e' = .returned (.agg #[.int .i64 d, .int .i64 e]) ∧ Below w.heap.size w w' := by
  go_enter Tryz.func99, Tryz.ntmps99
  go_wp2
  exact bodyPost_ret (v := .agg #[.int .i64 d, .int .i64 e]) (by simp [results, Tryz.results99, go_sem]) rfl ⟨rfl, ((Below.refl _ _).alloc (Nat.le_refl _) _).alloc (by simp) _⟩

theorem lower_any (a b c d e f g h i j : Int) (w : World) :
    Calls Tryz.prog 100 #[.agg #[.int .i64 a, .int .i64 b, .int .u8 c, .int .i64 d, .int .i64 e, .int .i64 f, .int .i64 g, .int .i64 h, .int .i64 i, .int .i64 j]] w
      fun e' w' => e' = .returned (.agg #[.int .i64 d, .int .i64 f]) ∧ Below w.heap.size w w' := by
  go_enter Tryz.func100, Tryz.ntmps100
  go_wp2
  exact bodyPost_ret (v := .agg #[.int .i64 d, .int .i64 f]) (by simp [results, Tryz.results100, go_sem]) rfl ⟨rfl, ((Below.refl _ _).alloc (Nat.le_refl _) _).alloc (by simp) _⟩

def okT (x : Trace) : Bool :=
  (inB x.id 1 1000000 && inB x.known 0 100000) &&
  (if x.kind = 4 then inB x.void 1 1000000 else isPlaceB x.pit x.layer) &&
  (if x.kind = 1 then isPlaceB x.pit x.lower && decide (x.lower ≠ x.layer)
   else if x.kind = 2 then inB x.low (-10000) x.high && decide (x.high ≤ 10000)
   else if x.kind = 3 then inB x.cost 1 1000
   else decide (x.kind = 4))
def yT (x : Trace) : Trace :=
  { id := x.id, known := x.known, kind := x.kind, pit := if x.kind = 4 then 0 else x.pit, layer := if x.kind = 4 then 0 else x.layer,
    lower := if x.kind = 1 then x.lower else 0, low := if x.kind = 2 then x.low else 0, high := if x.kind = 2 then x.high else 0,
    cost := if x.kind = 3 then x.cost else 0, void := if x.kind = 4 then x.void else 0 }
def checkTrace (x : Trace) : Int := if okT x && eqTrace x (yT x) then 0 else 1

end Go.Proofs.YtelnkflmnbhclaaGreat
end

/- What is proved: the contracts of slices.IndexFunc and slices.ContainsFunc at the structs of this program: the first place at which the predicate holds, or -1; whether it holds somewhere. Conditions: the predicate answers as a plain function says, in every world that keeps what lay there. -/
section
namespace Go.Proofs.YtelnkflmnbhclaaGreat
open Go.RowKit Go.Proofs Go.Shelf

/-- a predicate that may lay blocks of its own -/
def PredB {α : Type} (P : Program) (g : Nat) (lb : Array Value) (enc : α → Value) (p : α → Bool) (w : World) : Prop :=
  ∀ (W : World) (x : α), Below w.heap.size w W → Calls P g (#[enc x] ++ lb) W fun e w' => e = .returned (.bool (p x)) ∧ Below w.heap.size w w'

theorem PredB.drewN {α : Type} {P : Program} {g : Nat} {lb : Array Value} {enc : α → Value} {p : α → Bool} {w : World} (h : PredB P g lb enc p w) (m : Nat) : PredB P g lb enc p (w.drewN m) :=
  fun W x hb => (h W x (below_step hb (Nat.le_refl _) (below_drewN' (Below.refl _ _) m))).mono fun _ _ ⟨he, hb'⟩ => ⟨he, ⟨hb'.os, hb'.tape, hb'.output, hb'.size, hb'.block⟩⟩

def idxI {α : Type} (p : α → Bool) (l : List α) : Int := match l.findIdx? p with | some i => (i : Int) | none => -1
theorem idxI_hit {α : Type} (p : α → Bool) (l : List α) (k : Nat) (x : α) (hx : l[k]? = some x) (hp : p x = true) (hno : ∀ j y, j < k → l[j]? = some y → p y = false) : idxI p l = (k : Int) := by
  have h : l.findIdx? p = some k := by
    rw [List.findIdx?_eq_some_iff_getElem]
    have hk := (List.getElem?_eq_some_iff.1 hx).1
    refine ⟨hk, ?_, fun j hj => ?_⟩
    · have := (List.getElem?_eq_some_iff.1 hx).2; rw [this]; exact hp
    · have := hno j l[j] hj (List.getElem?_eq_getElem _)
      simp [this]
  simp [idxI, h]
theorem idxI_miss {α : Type} (p : α → Bool) (l : List α) (hno : ∀ (j : Nat) y, l[j]? = some y → p y = false) : idxI p l = -1 := by
  have h : l.findIdx? p = none := by
    rw [List.findIdx?_eq_none_iff]
    intro x hx
    obtain ⟨i, hi, h⟩ := List.getElem_of_mem hx
    exact hno i x (by rw [List.getElem?_eq_getElem hi, h])
  simp [idxI, h]
theorem idxI_any {α : Type} (p : α → Bool) (l : List α) : decide (0 ≤ idxI p l) = l.any p := by
  unfold idxI
  cases h : l.findIdx? p with
  | none =>
    rw [List.findIdx?_eq_none_iff] at h
    have : l.any p = false := by simp only [List.any_eq_false]; intro x hx; simp [h x hx]
    simp [this]
  | some i =>
    rw [List.findIdx?_eq_some_iff_getElem] at h
    obtain ⟨hi, hp, _⟩ := h
    have : l.any p = true := List.any_eq_true.2 ⟨l[i], List.getElem_mem hi, hp⟩
    simp [this]

set_option maxHeartbeats 1000000 in
theorem IndexFunc_Trace (g : Nat) (lb : Array Value) (eg : ∀ args w, (callFunc g args).run Tryz.prog w = .ok (.enter g args) w) (p : Trace → Bool) (A : Option Addr) (n c : Nat) (l : List Trace) (w : World)
    (hl : Rd encTrace 10 w A n c l) (hp : PredB Tryz.prog g lb (fun x => .agg (encTrace x).toArray) p w) :
    Calls Tryz.prog 207 #[.slice A n c, .func (.func g) #[] lb] w fun e w' => e = .returned (.int .i64 (idxI p l)) ∧ Below w.heap.size w w' := by
  have hbig := hl.big
  go_enter Tryz.func207, Tryz.ntmps207
  go_wp2
  go_loopw [5, 8] (fun _ i wr => ∃ k : Nat, k ≤ n ∧ i = .int .i64 k ∧ Below w.heap.size w wr ∧ Hid (∀ j x, j < k → l[j]? = some x → p x = false)) (fun _ i _ => n - (intOf i).toNat)
  case atStart => exact ⟨0, Nat.zero_le _, rfl, Below.refl _ _, fun j x h => absurd h (by omega)⟩
  case round =>
    obtain ⟨k, hk, rfl, hb, hno⟩ := hrel
    by_cases hlt : k < n
    · obtain ⟨b, off, x, rfl, hbw, hx, hcell⟩ := (hl.below hb (Nat.le_refl _)).one hlt
      have hlen := hl.len
      have c0 : wr.cell? ⟨b, off + k * 10, none⟩ = some (.int .i64 x.id) := hcell 0 _ rfl
      have c1 : wr.cell? ⟨b, off + k * 10 + 1, none⟩ = some (.int .i64 x.known) := hcell 1 _ rfl
      have c2 : wr.cell? ⟨b, off + k * 10 + 2, none⟩ = some (.int .u8 x.kind) := hcell 2 _ rfl
      have c3 : wr.cell? ⟨b, off + k * 10 + 3, none⟩ = some (.int .i64 x.pit) := hcell 3 _ rfl
      have c4 : wr.cell? ⟨b, off + k * 10 + 4, none⟩ = some (.int .i64 x.layer) := hcell 4 _ rfl
      have c5 : wr.cell? ⟨b, off + k * 10 + 5, none⟩ = some (.int .i64 x.lower) := hcell 5 _ rfl
      have c6 : wr.cell? ⟨b, off + k * 10 + 6, none⟩ = some (.int .i64 x.low) := hcell 6 _ rfl
      have c7 : wr.cell? ⟨b, off + k * 10 + 7, none⟩ = some (.int .i64 x.high) := hcell 7 _ rfl
      have c8 : wr.cell? ⟨b, off + k * 10 + 8, none⟩ = some (.int .i64 x.cost) := hcell 8 _ rfl
      have c9 : wr.cell? ⟨b, off + k * 10 + 9, none⟩ = some (.int .i64 x.void) := hcell 9 _ rfl
      have hcall := hp wr x hb
      simp only [encTrace] at hcall
      clear hcell hp hl
      cases hq : p x with
      | true =>
        rw [hq] at hcall
        have HQ := Lib.hid hq
        have HX := Lib.hid hx
        have HL := Lib.hid hlen
        clear hq hx hlen
        go_wp2_with (go_at_fn g; refine hcall.mono ?_; rintro e w' ⟨rfl, hb'⟩)
        go_ret
        refine ⟨?_, hb'⟩
        rw [idxI_hit p l k x HX.out HQ.out hno.out]
        rfl
      | false =>
        rw [hq] at hcall
        have HQ := Lib.hid hq
        have HX := Lib.hid hx
        have HL := Lib.hid hlen
        clear hq hx hlen
        go_wp2_with (go_at_fn g; refine hcall.mono ?_; rintro e w' ⟨rfl, hb'⟩)
        go_roundw
        case rel =>
          refine ⟨k + 1, by omega, by go_num, hb', fun j y hj hy => ?_⟩
          by_cases e : j = k
          · subst e
            rw [HX.out] at hy
            cases hy
            exact HQ.out
          · exact hno.out j y (by omega) hy
        case measure => simp [intOf]; omega
    · have : k = n := by omega
      subst this
      have hlen := hl.len
      go_wp2
      go_ret
      refine ⟨?_, hb⟩
      rw [idxI_miss p l (fun j x hj => hno.out j x (by have := (List.getElem?_eq_some_iff.1 hj).1; omega) hj)]
      rfl
theorem ContainsFunc_Trace (g : Nat) (lb : Array Value) (eg : ∀ args w, (callFunc g args).run Tryz.prog w = .ok (.enter g args) w) (p : Trace → Bool) (A : Option Addr) (n c : Nat) (l : List Trace) (w : World)
    (hl : Rd encTrace 10 w A n c l) (hp : PredB Tryz.prog g lb (fun x => .agg (encTrace x).toArray) p w) :
    Calls Tryz.prog 204 #[.slice A n c, .func (.func g) #[] lb] w fun e w' => e = .returned (.bool (l.any p)) ∧ Below w.heap.size w w' := by
  have hI := idxI_any p l
  go_enter Tryz.func204, Tryz.ntmps204
  go_wp2_with (go_at_call 207; refine (IndexFunc_Trace g lb eg p A n c l _ hl hp).mono ?_; rintro e w' ⟨rfl, hb'⟩)
  go_ret
  exact ⟨by rw [← hI]; rfl, hb'⟩
set_option maxHeartbeats 1000000 in
theorem IndexFunc_Bond (g : Nat) (lb : Array Value) (eg : ∀ args w, (callFunc g args).run Tryz.prog w = .ok (.enter g args) w) (p : Bond → Bool) (A : Option Addr) (n c : Nat) (l : List Bond) (w : World)
    (hl : Rd encBond 5 w A n c l) (hp : PredB Tryz.prog g lb (fun x => .agg (encBond x).toArray) p w) :
    Calls Tryz.prog 155 #[.slice A n c, .func (.func g) #[] lb] w fun e w' => e = .returned (.int .i64 (idxI p l)) ∧ Below w.heap.size w w' := by
  have hbig := hl.big
  go_enter Tryz.func155, Tryz.ntmps155
  go_wp2
  go_loopw [5, 8] (fun _ i wr => ∃ k : Nat, k ≤ n ∧ i = .int .i64 k ∧ Below w.heap.size w wr ∧ Hid (∀ j x, j < k → l[j]? = some x → p x = false)) (fun _ i _ => n - (intOf i).toNat)
  case atStart => exact ⟨0, Nat.zero_le _, rfl, Below.refl _ _, fun j x h => absurd h (by omega)⟩
  case round =>
    obtain ⟨k, hk, rfl, hb, hno⟩ := hrel
    by_cases hlt : k < n
    · obtain ⟨b, off, x, rfl, hbw, hx, hcell⟩ := (hl.below hb (Nat.le_refl _)).one hlt
      have hlen := hl.len
      have c0 : wr.cell? ⟨b, off + k * 5, none⟩ = some (.int .i64 x.a.pit) := hcell 0 _ rfl
      have c1 : wr.cell? ⟨b, off + k * 5 + 1, none⟩ = some (.int .i64 x.a.layer) := hcell 1 _ rfl
      have c2 : wr.cell? ⟨b, off + k * 5 + 2, none⟩ = some (.int .i64 x.b.pit) := hcell 2 _ rfl
      have c3 : wr.cell? ⟨b, off + k * 5 + 3, none⟩ = some (.int .i64 x.b.layer) := hcell 3 _ rfl
      have c4 : wr.cell? ⟨b, off + k * 5 + 4, none⟩ = some (.int .i64 x.by_) := hcell 4 _ rfl
      have hcall := hp wr x hb
      simp only [encBond] at hcall
      clear hcell hp hl
      cases hq : p x with
      | true =>
        rw [hq] at hcall
        have HQ := Lib.hid hq
        have HX := Lib.hid hx
        have HL := Lib.hid hlen
        clear hq hx hlen
        go_wp2_with (go_at_fn g; refine hcall.mono ?_; rintro e w' ⟨rfl, hb'⟩)
        go_ret
        refine ⟨?_, hb'⟩
        rw [idxI_hit p l k x HX.out HQ.out hno.out]
        rfl
      | false =>
        rw [hq] at hcall
        have HQ := Lib.hid hq
        have HX := Lib.hid hx
        have HL := Lib.hid hlen
        clear hq hx hlen
        go_wp2_with (go_at_fn g; refine hcall.mono ?_; rintro e w' ⟨rfl, hb'⟩)
        go_roundw
        case rel =>
          refine ⟨k + 1, by omega, by go_num, hb', fun j y hj hy => ?_⟩
          by_cases e : j = k
          · subst e
            rw [HX.out] at hy
            cases hy
            exact HQ.out
          · exact hno.out j y (by omega) hy
        case measure => simp [intOf]; omega
    · have : k = n := by omega
      subst this
      have hlen := hl.len
      go_wp2
      go_ret
      refine ⟨?_, hb⟩
      rw [idxI_miss p l (fun j x hj => hno.out j x (by have := (List.getElem?_eq_some_iff.1 hj).1; omega) hj)]
      rfl
theorem ContainsFunc_Bond (g : Nat) (lb : Array Value) (eg : ∀ args w, (callFunc g args).run Tryz.prog w = .ok (.enter g args) w) (p : Bond → Bool) (A : Option Addr) (n c : Nat) (l : List Bond) (w : World)
    (hl : Rd encBond 5 w A n c l) (hp : PredB Tryz.prog g lb (fun x => .agg (encBond x).toArray) p w) :
    Calls Tryz.prog 103 #[.slice A n c, .func (.func g) #[] lb] w fun e w' => e = .returned (.bool (l.any p)) ∧ Below w.heap.size w w' := by
  have hI := idxI_any p l
  go_enter Tryz.func103, Tryz.ntmps103
  go_wp2_with (go_at_call 155; refine (IndexFunc_Bond g lb eg p A n c l _ hl hp).mono ?_; rintro e w' ⟨rfl, hb'⟩)
  go_ret
  exact ⟨by rw [← hI]; rfl, hb'⟩
set_option maxHeartbeats 1000000 in
theorem IndexFunc_Link (g : Nat) (lb : Array Value) (eg : ∀ args w, (callFunc g args).run Tryz.prog w = .ok (.enter g args) w) (p : Link → Bool) (A : Option Addr) (n c : Nat) (l : List Link) (w : World)
    (hl : Rd encLink 6 w A n c l) (hp : PredB Tryz.prog g lb (fun x => .agg (encLink x).toArray) p w) :
    Calls Tryz.prog 215 #[.slice A n c, .func (.func g) #[] lb] w fun e w' => e = .returned (.int .i64 (idxI p l)) ∧ Below w.heap.size w w' := by
  have hbig := hl.big
  go_enter Tryz.func215, Tryz.ntmps215
  go_wp2
  go_loopw [5, 8] (fun _ i wr => ∃ k : Nat, k ≤ n ∧ i = .int .i64 k ∧ Below w.heap.size w wr ∧ Hid (∀ j x, j < k → l[j]? = some x → p x = false)) (fun _ i _ => n - (intOf i).toNat)
  case atStart => exact ⟨0, Nat.zero_le _, rfl, Below.refl _ _, fun j x h => absurd h (by omega)⟩
  case round =>
    obtain ⟨k, hk, rfl, hb, hno⟩ := hrel
    by_cases hlt : k < n
    · obtain ⟨b, off, x, rfl, hbw, hx, hcell⟩ := (hl.below hb (Nat.le_refl _)).one hlt
      have hlen := hl.len
      have c0 : wr.cell? ⟨b, off + k * 6, none⟩ = some (.int .i64 x.src.pit) := hcell 0 _ rfl
      have c1 : wr.cell? ⟨b, off + k * 6 + 1, none⟩ = some (.int .i64 x.src.layer) := hcell 1 _ rfl
      have c2 : wr.cell? ⟨b, off + k * 6 + 2, none⟩ = some (.int .i64 x.dst.pit) := hcell 2 _ rfl
      have c3 : wr.cell? ⟨b, off + k * 6 + 3, none⟩ = some (.int .i64 x.dst.layer) := hcell 3 _ rfl
      have c4 : wr.cell? ⟨b, off + k * 6 + 4, none⟩ = some (.int .i64 x.most) := hcell 4 _ rfl
      have c5 : wr.cell? ⟨b, off + k * 6 + 5, none⟩ = some (.int .i64 x.by_) := hcell 5 _ rfl
      have hcall := hp wr x hb
      simp only [encLink] at hcall
      clear hcell hp hl
      cases hq : p x with
      | true =>
        rw [hq] at hcall
        have HQ := Lib.hid hq
        have HX := Lib.hid hx
        have HL := Lib.hid hlen
        clear hq hx hlen
        go_wp2_with (go_at_fn g; refine hcall.mono ?_; rintro e w' ⟨rfl, hb'⟩)
        go_ret
        refine ⟨?_, hb'⟩
        rw [idxI_hit p l k x HX.out HQ.out hno.out]
        rfl
      | false =>
        rw [hq] at hcall
        have HQ := Lib.hid hq
        have HX := Lib.hid hx
        have HL := Lib.hid hlen
        clear hq hx hlen
        go_wp2_with (go_at_fn g; refine hcall.mono ?_; rintro e w' ⟨rfl, hb'⟩)
        go_roundw
        case rel =>
          refine ⟨k + 1, by omega, by go_num, hb', fun j y hj hy => ?_⟩
          by_cases e : j = k
          · subst e
            rw [HX.out] at hy
            cases hy
            exact HQ.out
          · exact hno.out j y (by omega) hy
        case measure => simp [intOf]; omega
    · have : k = n := by omega
      subst this
      have hlen := hl.len
      go_wp2
      go_ret
      refine ⟨?_, hb⟩
      rw [idxI_miss p l (fun j x hj => hno.out j x (by have := (List.getElem?_eq_some_iff.1 hj).1; omega) hj)]
      rfl
theorem ContainsFunc_Link (g : Nat) (lb : Array Value) (eg : ∀ args w, (callFunc g args).run Tryz.prog w = .ok (.enter g args) w) (p : Link → Bool) (A : Option Addr) (n c : Nat) (l : List Link) (w : World)
    (hl : Rd encLink 6 w A n c l) (hp : PredB Tryz.prog g lb (fun x => .agg (encLink x).toArray) p w) :
    Calls Tryz.prog 172 #[.slice A n c, .func (.func g) #[] lb] w fun e w' => e = .returned (.bool (l.any p)) ∧ Below w.heap.size w w' := by
  have hI := idxI_any p l
  go_enter Tryz.func172, Tryz.ntmps172
  go_wp2_with (go_at_call 215; refine (IndexFunc_Link g lb eg p A n c l _ hl hp).mono ?_; rintro e w' ⟨rfl, hb'⟩)
  go_ret
  exact ⟨by rw [← hI]; rfl, hb'⟩
set_option maxHeartbeats 1000000 in
theorem IndexFunc_Admit (g : Nat) (lb : Array Value) (eg : ∀ args w, (callFunc g args).run Tryz.prog w = .ok (.enter g args) w) (p : Admit → Bool) (A : Option Addr) (n c : Nat) (l : List Admit) (w : World)
    (hl : Rd encAdmit 4 w A n c l) (hp : PredB Tryz.prog g lb (fun x => .agg (encAdmit x).toArray) p w) :
    Calls Tryz.prog 242 #[.slice A n c, .func (.func g) #[] lb] w fun e w' => e = .returned (.int .i64 (idxI p l)) ∧ Below w.heap.size w w' := by
  have hbig := hl.big
  go_enter Tryz.func242, Tryz.ntmps242
  go_wp2
  go_loopw [5, 8] (fun _ i wr => ∃ k : Nat, k ≤ n ∧ i = .int .i64 k ∧ Below w.heap.size w wr ∧ Hid (∀ j x, j < k → l[j]? = some x → p x = false)) (fun _ i _ => n - (intOf i).toNat)
  case atStart => exact ⟨0, Nat.zero_le _, rfl, Below.refl _ _, fun j x h => absurd h (by omega)⟩
  case round =>
    obtain ⟨k, hk, rfl, hb, hno⟩ := hrel
    by_cases hlt : k < n
    · obtain ⟨b, off, x, rfl, hbw, hx, hcell⟩ := (hl.below hb (Nat.le_refl _)).one hlt
      have hlen := hl.len
      have c0 : wr.cell? ⟨b, off + k * 4, none⟩ = some (.int .i64 x.place.pit) := hcell 0 _ rfl
      have c1 : wr.cell? ⟨b, off + k * 4 + 1, none⟩ = some (.int .i64 x.place.layer) := hcell 1 _ rfl
      have c2 : wr.cell? ⟨b, off + k * 4 + 2, none⟩ = some (.int .i64 x.cost) := hcell 2 _ rfl
      have c3 : wr.cell? ⟨b, off + k * 4 + 3, none⟩ = some (.int .i64 x.by_) := hcell 3 _ rfl
      have hcall := hp wr x hb
      simp only [encAdmit] at hcall
      clear hcell hp hl
      cases hq : p x with
      | true =>
        rw [hq] at hcall
        have HQ := Lib.hid hq
        have HX := Lib.hid hx
        have HL := Lib.hid hlen
        clear hq hx hlen
        go_wp2_with (go_at_fn g; refine hcall.mono ?_; rintro e w' ⟨rfl, hb'⟩)
        go_ret
        refine ⟨?_, hb'⟩
        rw [idxI_hit p l k x HX.out HQ.out hno.out]
        rfl
      | false =>
        rw [hq] at hcall
        have HQ := Lib.hid hq
        have HX := Lib.hid hx
        have HL := Lib.hid hlen
        clear hq hx hlen
        go_wp2_with (go_at_fn g; refine hcall.mono ?_; rintro e w' ⟨rfl, hb'⟩)
        go_roundw
        case rel =>
          refine ⟨k + 1, by omega, by go_num, hb', fun j y hj hy => ?_⟩
          by_cases e : j = k
          · subst e
            rw [HX.out] at hy
            cases hy
            exact HQ.out
          · exact hno.out j y (by omega) hy
        case measure => simp [intOf]; omega
    · have : k = n := by omega
      subst this
      have hlen := hl.len
      go_wp2
      go_ret
      refine ⟨?_, hb⟩
      rw [idxI_miss p l (fun j x hj => hno.out j x (by have := (List.getElem?_eq_some_iff.1 hj).1; omega) hj)]
      rfl
theorem ContainsFunc_Admit (g : Nat) (lb : Array Value) (eg : ∀ args w, (callFunc g args).run Tryz.prog w = .ok (.enter g args) w) (p : Admit → Bool) (A : Option Addr) (n c : Nat) (l : List Admit) (w : World)
    (hl : Rd encAdmit 4 w A n c l) (hp : PredB Tryz.prog g lb (fun x => .agg (encAdmit x).toArray) p w) :
    Calls Tryz.prog 197 #[.slice A n c, .func (.func g) #[] lb] w fun e w' => e = .returned (.bool (l.any p)) ∧ Below w.heap.size w w' := by
  have hI := idxI_any p l
  go_enter Tryz.func197, Tryz.ntmps197
  go_wp2_with (go_at_call 242; refine (IndexFunc_Admit g lb eg p A n c l _ hl hp).mono ?_; rintro e w' ⟨rfl, hb'⟩)
  go_ret
  exact ⟨by rw [← hI]; rfl, hb'⟩
set_option maxHeartbeats 1000000 in
theorem IndexFunc_Bound (g : Nat) (lb : Array Value) (eg : ∀ args w, (callFunc g args).run Tryz.prog w = .ok (.enter g args) w) (p : Bound → Bool) (A : Option Addr) (n c : Nat) (l : List Bound) (w : World)
    (hl : Rd encBound 4 w A n c l) (hp : PredB Tryz.prog g lb (fun x => .agg (encBound x).toArray) p w) :
    Calls Tryz.prog 243 #[.slice A n c, .func (.func g) #[] lb] w fun e w' => e = .returned (.int .i64 (idxI p l)) ∧ Below w.heap.size w w' := by
  have hbig := hl.big
  go_enter Tryz.func243, Tryz.ntmps243
  go_wp2
  go_loopw [5, 8] (fun _ i wr => ∃ k : Nat, k ≤ n ∧ i = .int .i64 k ∧ Below w.heap.size w wr ∧ Hid (∀ j x, j < k → l[j]? = some x → p x = false)) (fun _ i _ => n - (intOf i).toNat)
  case atStart => exact ⟨0, Nat.zero_le _, rfl, Below.refl _ _, fun j x h => absurd h (by omega)⟩
  case round =>
    obtain ⟨k, hk, rfl, hb, hno⟩ := hrel
    by_cases hlt : k < n
    · obtain ⟨b, off, x, rfl, hbw, hx, hcell⟩ := (hl.below hb (Nat.le_refl _)).one hlt
      have hlen := hl.len
      have c0 : wr.cell? ⟨b, off + k * 4, none⟩ = some (.int .i64 x.src) := hcell 0 _ rfl
      have c1 : wr.cell? ⟨b, off + k * 4 + 1, none⟩ = some (.int .i64 x.dst) := hcell 1 _ rfl
      have c2 : wr.cell? ⟨b, off + k * 4 + 2, none⟩ = some (.int .i64 x.most) := hcell 2 _ rfl
      have c3 : wr.cell? ⟨b, off + k * 4 + 3, none⟩ = some (.int .i64 x.by_) := hcell 3 _ rfl
      have hcall := hp wr x hb
      simp only [encBound] at hcall
      clear hcell hp hl
      cases hq : p x with
      | true =>
        rw [hq] at hcall
        have HQ := Lib.hid hq
        have HX := Lib.hid hx
        have HL := Lib.hid hlen
        clear hq hx hlen
        go_wp2_with (go_at_fn g; refine hcall.mono ?_; rintro e w' ⟨rfl, hb'⟩)
        go_ret
        refine ⟨?_, hb'⟩
        rw [idxI_hit p l k x HX.out HQ.out hno.out]
        rfl
      | false =>
        rw [hq] at hcall
        have HQ := Lib.hid hq
        have HX := Lib.hid hx
        have HL := Lib.hid hlen
        clear hq hx hlen
        go_wp2_with (go_at_fn g; refine hcall.mono ?_; rintro e w' ⟨rfl, hb'⟩)
        go_roundw
        case rel =>
          refine ⟨k + 1, by omega, by go_num, hb', fun j y hj hy => ?_⟩
          by_cases e : j = k
          · subst e
            rw [HX.out] at hy
            cases hy
            exact HQ.out
          · exact hno.out j y (by omega) hy
        case measure => simp [intOf]; omega
    · have : k = n := by omega
      subst this
      have hlen := hl.len
      go_wp2
      go_ret
      refine ⟨?_, hb⟩
      rw [idxI_miss p l (fun j x hj => hno.out j x (by have := (List.getElem?_eq_some_iff.1 hj).1; omega) hj)]
      rfl
theorem ContainsFunc_Bound (g : Nat) (lb : Array Value) (eg : ∀ args w, (callFunc g args).run Tryz.prog w = .ok (.enter g args) w) (p : Bound → Bool) (A : Option Addr) (n c : Nat) (l : List Bound) (w : World)
    (hl : Rd encBound 4 w A n c l) (hp : PredB Tryz.prog g lb (fun x => .agg (encBound x).toArray) p w) :
    Calls Tryz.prog 201 #[.slice A n c, .func (.func g) #[] lb] w fun e w' => e = .returned (.bool (l.any p)) ∧ Below w.heap.size w w' := by
  have hI := idxI_any p l
  go_enter Tryz.func201, Tryz.ntmps201
  go_wp2_with (go_at_call 243; refine (IndexFunc_Bound g lb eg p A n c l _ hl hp).mono ?_; rintro e w' ⟨rfl, hb'⟩)
  go_ret
  exact ⟨by rw [← hI]; rfl, hb'⟩
end Go.Proofs.YtelnkflmnbhclaaGreat
end

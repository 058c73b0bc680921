/- Contracts that the law leans on: MapR, Keys, Clone. -/
import Derived.Test.YtelnkflmnbhclaaGreatG03
import Derived.RangeFuncGives
import Derived.Sort.MapsRangeIn
import Derived.Maps.RangeWalk
import Derived.Lib.Hide
import Derived.WalkKit
import Derived.OwnWalkIn
import Derived.TacticsInMore
import Derived.RegionIn
import Derived.LoopNIn
import Derived.LoopIn
import Derived.Test.YtelnkflmnbhclaaGreatG01
import Derived.Test.YtelnkflmnbhclaaGreatG02
/- What is proved: a range over a map keyed by places, under way: 'RangesP'; the laws at 'range' and at the step. Conditions: none. -/
section
namespace Go.Proofs.YtelnkflmnbhclaaGreat
open Go.RowKit Go.Proofs

/-- the loop over block b's map by the iterator r: 'come' are the keys that have come -/
structure RangesP {V : Type} (E : V → Value) (w : World) (b r : Nat) (m : List (Place × V)) (come : List Place) : Prop where
  map : MapP E w b m
  at_ : ∃ es clock since seen c0, w.heap[b]? = some (.map es clock) ∧ w.heap[r]? = some (.mapIter (some b) since seen c0) ∧ (∀ x ∈ es.toList, x.born < since) ∧ since ≤ c0 ∧ since ≤ clock ∧
    (∀ q, q ∈ come ↔ ∃ e ∈ es.toList, keyPl e.key = some q ∧ seen.contains e.born = true)
  once : come.Nodup

section
variable {V : Type} {E : V → Value} {w w' : World} {b r : Nat} {m : List (Place × V)} {come : List Place}
theorem RangesP.ne (h : RangesP E w b r m come) : r ≠ b := by
  obtain ⟨es, cl, since, seen, c0, hb, hr, _⟩ := h.at_
  intro e
  rw [e, hb] at hr
  cases hr
theorem RangesP.of_walks (h : RangesP E w b r m come) (hk : KeepsWalks w w') : RangesP E w' b r m come := by
  obtain ⟨es, cl, since, seen, c0, hb, hr, rest⟩ := h.at_
  obtain ⟨⟨es', cl', hb', h2⟩, ho⟩ := h.map
  exact ⟨⟨⟨es', cl', hk.same b _ hb' rfl, h2⟩, ho⟩, ⟨es, cl, since, seen, c0, hk.same b _ hb rfl, hk.same r _ hr rfl, rest⟩, h.once⟩
theorem RangesP.left_walks (h : RangesP E w b r m come) (hk : KeepsWalks w w') : w'.rangeLeft b r = w.rangeLeft b r := by
  obtain ⟨es, cl, since, seen, c0, hb, hr, rest⟩ := h.at_
  simp only [World.rangeLeft, hk.same b _ hb rfl, hk.same r _ hr rfl, hb, hr]
theorem RangesP.come_keys (h : RangesP E w b r m come) : ∀ q ∈ come, q ∈ m.map (·.1) := by
  intro q hq
  obtain ⟨es, cl, since, seen, c0, hb, hr, h1, h2, h3, h4⟩ := h.at_
  obtain ⟨⟨es', cl', hb', hm, _⟩, _⟩ := h.map
  rw [hb] at hb'
  obtain ⟨rfl, rfl⟩ : es = es' ∧ cl = cl' := by simpa using hb'
  obtain ⟨e, he, hk, _⟩ := (h4 q).1 hq
  obtain ⟨n, hn⟩ := List.getElem?_of_mem he
  obtain ⟨p, hp, hpk, _⟩ := entry_at hm hn
  have := (keyPl_iff hpk).1 hk
  exact List.mem_map.2 ⟨p, List.mem_of_getElem? hp, this⟩
theorem RangesP.iter_walk (h : RangesP E w b r m come) : ∃ o : Obj, w.heap[r]? = some o ∧ o.isWalk = true := by
  obtain ⟨es, cl, since, seen, c0, hb, hr, _⟩ := h.at_
  exact ⟨_, hr, rfl⟩
theorem RangesP.lt (h : RangesP E w b r m come) : r < w.heap.size := by
  obtain ⟨es, cl, since, seen, c0, hb, hr, _⟩ := h.at_
  exact (Array.getElem?_eq_some_iff.1 hr).1

theorem MapP.range {P : Program} {t k e : TypeId} (ht : P.underlying t = some (.map k e)) (h : MapP E w b m) :
    ∃ w', (Instr.range t (.map (some b))).run P w = .ok (.pointer (some ⟨w.heap.size, 0, none⟩)) w' ∧ RangesP E w' b w.heap.size m [] ∧ w.grownBy w' none ∧ w'.heap.size = w.heap.size + 1 := by
  have hlt := h.lt
  have hA := h.alloc
  obtain ⟨⟨es, clock, hb, hm, hborn, hcl⟩, honce⟩ := h
  refine ⟨_, run_range_map w t k e b es clock ht hb, ⟨hA _, ⟨es, clock, clock, #[], clock, (Below.heap_alloc w _ b hlt).trans hb, World.alloc_heap_new w _, hcl, Nat.le_refl _, Nat.le_refl _, fun q => ?_⟩, List.nodup_nil⟩, World.grownBy_alloc w _ none, by simp⟩
  simp

theorem RangesP.next {P : Program} (h : RangesP E w b r m come) (ty : TypeId) :
    ((∀ q ∈ m.map (·.1), q ∈ come) ∧ (Instr.next (.pointer (some ⟨r, 0, none⟩)) false ty).run P w = .ok (.tuple #[.bool false]) w) ∨
    ∃ k u w', k ∉ come ∧ (k, u) ∈ m ∧ (Instr.next (.pointer (some ⟨r, 0, none⟩)) false ty).run P w = .ok (.tuple #[.bool true, keyV k, E u]) w' ∧
      RangesP E w' b r m (come ++ [k]) ∧ w'.rangeLeft b r < w.rangeLeft b r ∧ w.grownBy w' (some r) ∧ w'.heap.size = w.heap.size ∧ (Instr.entry (.pointer (some ⟨r, 0, none⟩))).run P w' = .ok (.tuple #[keyV k, E u]) w' := by
  have hne := h.ne
  have hcome := h.once
  obtain ⟨es, clock, since, seen, c0, hb, hr, hold, hsc, hsk, hin⟩ := h.at_
  obtain ⟨⟨es', cl', hb', hm, hborn, hcl⟩, honce⟩ := h.map
  rw [hb] at hb'
  obtain ⟨rfl, rfl⟩ : es = es' ∧ clock = cl' := by simpa using hb'
  have hnd : (es.toList.map (·.born)).Nodup := by
    have : (es.toList.map (·.born)).Pairwise (· < ·) := List.pairwise_map.2 hborn
    exact this.imp fun hab => Nat.ne_of_lt hab
  rcases run_next_at (P := P) w ty r b since c0 seen es clock hr hb hold hsc with ⟨h0, hrun⟩ | ⟨e, he, w1, hal, hrun⟩
  · refine .inl ⟨fun q hq => ?_, hrun⟩
    obtain ⟨p, hp, rfl⟩ := List.mem_map.1 hq
    obtain ⟨n, hn⟩ := List.getElem?_of_mem hp
    have hlen : es.toList.length = m.length := by simpa using congrArg List.length hm
    have hn' : n < es.toList.length := by rw [hlen]; exact (List.getElem?_eq_some_iff.1 hn).1
    obtain ⟨p', hp', hpk, _⟩ := entry_at hm (List.getElem?_eq_getElem hn')
    rw [hn] at hp'
    obtain rfl : p = p' := by simpa using hp'
    exact (hin p.1).2 ⟨_, List.getElem_mem hn', by rw [hpk]; rfl, all_seen es seen h0 _ (List.getElem_mem hn')⟩
  · obtain ⟨hem, hes⟩ := mem_left he
    obtain ⟨n, hn⟩ := List.getElem?_of_mem hem
    obtain ⟨p, hp, hpk, hpv⟩ := entry_at hm hn
    have hr1 : w1.heap[r]? = some (.mapIter (some b) since seen c0) := by rcases hal with rfl | rfl <;> exact hr
    have hb1 : w1.heap[b]? = some (.map es clock) := by rcases hal with rfl | rfl <;> exact hb
    have hset := MapKept.heap_set (o' := .mapIter (some b) since (seen.push e.born) clock) hr1
    have hb' : (ChangeMaps.setBlock w1 r (.mapIter (some b) since (seen.push e.born) clock)).heap[b]? = some (.map es clock) := (hset.2 b (fun e1 => hne e1.symm)).trans hb1
    have hsame : ∀ x ∈ es.toList, ∀ q, keyPl x.key = some q → keyPl e.key = some q → x = e := by
      intro x hx q h1 h2
      obtain ⟨i, hi⟩ := List.getElem?_of_mem hx
      obtain ⟨px, hpx, hpxk, _⟩ := entry_at hm hi
      have e1 := (keyPl_iff hpxk).1 h1
      have e2 := (keyPl_iff hpk).1 h2
      have := once_at honce hpx hp (e1.trans e2.symm)
      subst this
      rw [hi] at hn
      simpa using hn
    have hk0 : keyPl e.key = some p.1 := by rw [hpk]; rfl
    rw [hpk, hpv] at hrun
    refine .inr ⟨p.1, p.2, _, ?_, List.mem_of_getElem? hp, hrun, ⟨⟨⟨es, clock, hb', hm, hborn, hcl⟩, honce⟩, ⟨es, clock, since, seen.push e.born, clock, hb', hset.1, hold, hsk, hsk, fun q => ?_⟩, ?_⟩, ?_, ?_, ?_, ?_⟩
    · intro hmem
      obtain ⟨x, hx, hxk, hxs⟩ := (hin p.1).1 hmem
      have := hsame x hx _ hxk hk0
      subst this
      rw [hes] at hxs
      cases hxs
    · rw [List.mem_append, hin, List.mem_singleton]
      constructor
      · rintro (⟨x, hx, hxk, hxs⟩ | rfl)
        · exact ⟨x, hx, hxk, by rw [contains_push, hxs]; rfl⟩
        · exact ⟨e, hem, hk0, by rw [contains_push]; simp⟩
      · rintro ⟨x, hx, hxk, hxs⟩
        rw [contains_push, Bool.or_eq_true, beq_iff_eq] at hxs
        rcases hxs with hxs | hxs
        · exact .inl ⟨x, hx, hxk, hxs⟩
        · have := born_inj hnd hx hem hxs
          subst this
          rw [hk0] at hxk
          exact .inr (by simpa using hxk.symm)
    · rw [List.nodup_append]
      refine ⟨hcome, by simp, fun a ha c hc => ?_⟩
      rw [List.mem_singleton] at hc
      subst hc
      rintro rfl
      obtain ⟨x, hx, hxk, hxs⟩ := (hin _).1 ha
      have := hsame x hx _ hxk hk0
      subst this
      rw [hes] at hxs
      cases hxs
    · have hset1 : (ChangeMaps.setBlock w1 r (.mapIter (some b) since (seen.push e.born) clock)).heap[r]? = some (.mapIter (some b) since (seen.push e.born) clock) := hset.1
      simp only [World.rangeLeft, hb, hr, hb', hset1]
      exact left_shrinks es seen e he
    · rcases hal with rfl | rfl <;> exact ⟨rfl, rfl, rfl, by simp [ChangeMaps.setBlock], fun i _ hi => hset.2 i (fun e1 => hi (by rw [e1]))⟩
    · rcases hal with rfl | rfl <;> simp [ChangeMaps.setBlock]
    · have := run_entry_at (P := P) _ r b since seen es clock e hset.1 hb' hem hnd
      rw [hpk, hpv] at this
      exact this
end

section
variable {V : Type} {E : V → Value} {w : World} {b r : Nat} {m : List (Place × V)} {come : List Place} {F : Fence} {n : Nat} {P : Program} {ops : Array Oper} {rest : List Oper} {o : Oper} {a : Act} {Q : Exit → Act → World → Prop}
theorem wpListIn_rangePl (hg : o.guard = none) (mm : Operand) (t : TypeId) (hop : o.op = Op.range t mm) {k e : TypeId} (ht : P.underlying t = some (.map k e))
    (hm : a.eval mm = .map (some b)) (h : MapP E w b m)
    (hK : ∀ w', RangesP E w' b w.heap.size m [] → w.grownBy w' none → w'.heap.size = w.heap.size + 1 → wpListIn F n P ops Q rest (a.put o.dst (.pointer (some ⟨w.heap.size, 0, none⟩))) w') :
    wpListIn F n P ops Q (o :: rest) a w := by
  refine wpListIn_plain hg fun K' hK' => ?_
  obtain ⟨w', hrun, r1, r2, r3⟩ := h.range ht
  unfold Oper.wpIn
  refine ⟨?_, ?_⟩
  · simp [Oper.about, hop]
  · rw [Oper.semAt_plain F _ _ (by rw [hop]; intro c hc'; cases hc')]
    simp [execOp, hop, hm, hrun, Result.andThen]
    exact hK' _ _ (hK w' r1 r2 r3)
/-- every key has come -/
def AllCome {V : Type} (m : List (Place × V)) (come : List Place) : Prop := ∀ q ∈ m.map (·.1), q ∈ come
/-- a key that has not come -/
def NewKey {V : Type} (m : List (Place × V)) (come : List Place) (k : Place) : Prop := k ∉ come ∧ k ∈ m.map (·.1)
theorem wpListIn_nextPl (hg : o.guard = none) (it : Operand) (hop : o.op = Op.next it false)
    (hit : a.eval it = .pointer (some ⟨r, 0, none⟩)) (h : RangesP E w b r m come)
    (hDone : AllCome m come → wpListIn F n P ops Q rest (a.put o.dst (.tuple #[.bool false])) w)
    (hMore : ∀ (k : Place) (v : Value) (w' : World), NewKey m come k → RangesP E w' b r m (come ++ [k]) → w'.rangeLeft b r < w.rangeLeft b r → w.grownBy w' (some r) → w'.heap.size = w.heap.size →
      (Instr.entry (.pointer (some ⟨r, 0, none⟩))).run P w' = .ok (.tuple #[keyV k, v]) w' → wpListIn F n P ops Q rest (a.put o.dst (.tuple #[.bool true, keyV k, v])) w') :
    wpListIn F n P ops Q (o :: rest) a w := by
  refine wpListIn_plain hg fun K' hK' => ?_
  unfold Oper.wpIn
  refine ⟨by simp [Oper.about, hop], ?_⟩
  rw [Oper.semAt_plain F _ _ (by rw [hop]; intro c hc'; cases hc')]
  rcases h.next o.type with ⟨hl, hrun⟩ | ⟨k, u, w', hk, hku, hrun, hrg, hlt, hgr, hsz, hen⟩
  · have hl' : AllCome m come := hl
    clear hl
    simp [execOp, hop, hit, Result.andThen]
    rw [hrun]
    exact hK' _ _ (hDone hl')
  · have hk' : NewKey m come k := ⟨hk, List.mem_map.2 ⟨_, hku, rfl⟩⟩
    clear hk hku
    simp [execOp, hop, hit, Result.andThen]
    rw [hrun]
    exact hK' _ _ (hMore k (E u) w' hk' hrg hlt hgr hsz hen)
end

theorem len_le_of_sub {α : Type} [DecidableEq α] : ∀ (l m : List α), l.Nodup → (∀ x ∈ l, x ∈ m) → l.length ≤ m.length
  | [], _, _, _ => by simp
  | x :: c, m, hn, hs => by
    obtain ⟨h1, h2⟩ := List.nodup_cons.1 hn
    have hx : x ∈ m := hs x (by simp)
    have ih := len_le_of_sub c (m.erase x) h2 (fun q hq => (List.mem_erase_of_ne (show q ≠ x from fun e => by subst e; exact h1 hq)).2 (hs q (by simp [hq])))
    have hl := List.length_erase_of_mem hx
    have hp := List.length_pos_of_mem hx
    simp only [List.length_cons]
    omega
theorem perm_of_sub {α : Type} [DecidableEq α] {l m : List α} (hl : l.Nodup) (hm : m.Nodup) (h : ∀ x, x ∈ l ↔ x ∈ m) : l.Perm m :=
  (List.perm_ext_iff_of_nodup hl hm).2 h
end Go.Proofs.YtelnkflmnbhclaaGreat
end

/- What is proved: maps.Keys over maps keyed by places: an iterator that gives the keys. Conditions: none. -/
section
namespace Go.Proofs.YtelnkflmnbhclaaGreat
open Go.RowKit Go.Proofs

def eBool (x : Bool) : Value := .bool x
def eAdmit (x : Admit) : Value := .agg (encAdmit x).toArray

set_option maxRecDepth 100000 in
set_option maxHeartbeats 1000000 in
theorem Keys1b (n : Nat) (l Bm b : Nat) (m : List (Place × Bool)) (J : List Place → World → Prop)
    (hY : ∀ pre x W, J pre W → pre.length < m.length → YieldAt Fence.wide (n - 1) Tryz.prog l #[keyV x] W fun e W' => e = .returned (.bool true) ∧ J (pre ++ [x]) W' ∧ KeepsWalks W W')
    (W : World) (hJ : AbidesFrom W.heap.size J) (hm : W.cell? ⟨Bm, 0, none⟩ = some (.map (some b))) (hown : MapP eBool W b m) (h0 : J [] W) :
    CallsIn Fence.wide n Tryz.prog 230 #[.func (.yield l) #[] #[], .pointer (some ⟨Bm, 0, none⟩)] W fun e W' => (∃ v, e = .returned v) ∧ ∃ ss : List Place, ss.Perm (m.map (·.1)) ∧ J ss W' := by
  have hlen : ∀ (c : List Place) (x : Place), c.Nodup → (∀ q ∈ c, q ∈ m.map (·.1)) → x ∉ c → x ∈ m.map (·.1) → c.length < m.length := by
    intro c x hc hs hx hxm
    have h1 : (x :: c).Nodup := List.nodup_cons.2 ⟨hx, hc⟩
    have := len_le_of_sub (x :: c) (m.map (·.1)) h1 (fun q hq => by
      rcases List.mem_cons.1 hq with rfl | hq
      · exact hxm
      · exact hs q hq)
    simp at this
    omega
  refine callsIn_of_wp Tryz.func230 rfl trivial ?_ rfl
  simp only [Tryz.ntmps230, List.size_toArray, List.length_cons, List.length_nil, Nat.reduceAdd, Nat.reduceSub, Array.replicate_succ, Array.replicate_zero, List.push_toArray, List.append_toArray, List.nil_append, List.cons_append]
  gi_wp2_with (first
    | (gi_at_range; refine wpListIn_rangePl rfl _ 173 rfl Tryz.underlying173 rfl hown ?_; intro w0 hrg0 hg0 hs0)
    | gi_in)
  try go_frame
  gi_loopw [3] (fun _ wr => ∃ ss : List Place, RangesP eBool wr b W.heap.size m ss ∧ J ss wr)
    (fun _ wr => wr.rangeLeft b W.heap.size)
  case atStart =>
    exact ⟨[], hrg0, hJ [] W w0 none h0 hg0 (fun r e => by cases e)⟩
  case round =>
    obtain ⟨ss, hrg, hJs⟩ := hrel
    gi_wp2_with (first
      | (gi_at_next; refine wpListIn_nextPl rfl _ rfl rfl hrg ?_ ?_)
      | gi_in)
    · intro hl0
      gi_wp2
      go_end0
      exact ⟨⟨_, rfl⟩, ss, perm_of_sub hrg.once hown.once (fun q => ⟨hrg.come_keys q, (show ∀ q ∈ m.map (·.1), q ∈ ss from hl0) q⟩), hJs⟩
    · intro x c w2 hx hrg2 hlt hg2 hs2 hen
      have hx' : x ∉ ss ∧ x ∈ m.map (·.1) := hx
      have hlx := hlen ss x hrg.once hrg.come_keys hx'.1 hx'.2
      have hJ2 : J ss w2 := hJ ss wr w2 (some W.heap.size) hJs hg2 (fun r e => by cases e; exact ⟨Nat.le_refl _, hrg.iter_walk⟩)
      have hJ3 : J ss (w2.alloc (.cells #[.int .i64 x.pit, .int .i64 x.layer] 37)) := hJ ss w2 _ none hJ2 (World.grownBy_alloc _ _ _) (fun r e => by cases e)
      have hrg3 := hrg2.of_walks (KeepsWalks.alloc w2 (.cells #[.int .i64 x.pit, .int .i64 x.layer] 37))
      have hlt3 : (w2.alloc (.cells #[.int .i64 x.pit, .int .i64 x.layer] 37)).rangeLeft b W.heap.size < wr.rangeLeft b W.heap.size := by
        rw [hrg2.left_walks (KeepsWalks.alloc _ _)]; exact hlt
      obtain ⟨fn, tmps, assign, body, hy, hR⟩ := hY ss x _ hJ3 hlx
      simp only [keyV] at hen hy
      clear hs2 hx hx' hlx hlen
      gi_wp2
      refine ⟨fun h => (by cases h), hR.mono ?_⟩
      rintro e W3 ⟨rfl, hJ4, hk3⟩
      gi_wp2
      have hrg4 := hrg3.of_walks hk3
      go_roundw
      case rel => exact ⟨ss ++ [x], hrg4, hJ4⟩
      case measure => rw [hrg3.left_walks hk3]; exact hlt3
set_option maxRecDepth 100000 in
set_option maxHeartbeats 1000000 in
theorem Keys1a (n : Nat) (l Bm b : Nat) (m : List (Place × Admit)) (J : List Place → World → Prop)
    (hY : ∀ pre x W, J pre W → pre.length < m.length → YieldAt Fence.wide (n - 1) Tryz.prog l #[keyV x] W fun e W' => e = .returned (.bool true) ∧ J (pre ++ [x]) W' ∧ KeepsWalks W W')
    (W : World) (hJ : AbidesFrom W.heap.size J) (hm : W.cell? ⟨Bm, 0, none⟩ = some (.map (some b))) (hown : MapP eAdmit W b m) (h0 : J [] W) :
    CallsIn Fence.wide n Tryz.prog 232 #[.func (.yield l) #[] #[], .pointer (some ⟨Bm, 0, none⟩)] W fun e W' => (∃ v, e = .returned v) ∧ ∃ ss : List Place, ss.Perm (m.map (·.1)) ∧ J ss W' := by
  have hlen : ∀ (c : List Place) (x : Place), c.Nodup → (∀ q ∈ c, q ∈ m.map (·.1)) → x ∉ c → x ∈ m.map (·.1) → c.length < m.length := by
    intro c x hc hs hx hxm
    have h1 : (x :: c).Nodup := List.nodup_cons.2 ⟨hx, hc⟩
    have := len_le_of_sub (x :: c) (m.map (·.1)) h1 (fun q hq => by
      rcases List.mem_cons.1 hq with rfl | hq
      · exact hxm
      · exact hs q hq)
    simp at this
    omega
  refine callsIn_of_wp Tryz.func232 rfl trivial ?_ rfl
  simp only [Tryz.ntmps232, List.size_toArray, List.length_cons, List.length_nil, Nat.reduceAdd, Nat.reduceSub, Array.replicate_succ, Array.replicate_zero, List.push_toArray, List.append_toArray, List.nil_append, List.cons_append]
  gi_wp2_with (first
    | (gi_at_range; refine wpListIn_rangePl rfl _ 180 rfl Tryz.underlying180 rfl hown ?_; intro w0 hrg0 hg0 hs0)
    | gi_in)
  try go_frame
  gi_loopw [3] (fun _ wr => ∃ ss : List Place, RangesP eAdmit wr b W.heap.size m ss ∧ J ss wr)
    (fun _ wr => wr.rangeLeft b W.heap.size)
  case atStart =>
    exact ⟨[], hrg0, hJ [] W w0 none h0 hg0 (fun r e => by cases e)⟩
  case round =>
    obtain ⟨ss, hrg, hJs⟩ := hrel
    gi_wp2_with (first
      | (gi_at_next; refine wpListIn_nextPl rfl _ rfl rfl hrg ?_ ?_)
      | gi_in)
    · intro hl0
      gi_wp2
      go_end0
      exact ⟨⟨_, rfl⟩, ss, perm_of_sub hrg.once hown.once (fun q => ⟨hrg.come_keys q, (show ∀ q ∈ m.map (·.1), q ∈ ss from hl0) q⟩), hJs⟩
    · intro x c w2 hx hrg2 hlt hg2 hs2 hen
      have hx' : x ∉ ss ∧ x ∈ m.map (·.1) := hx
      have hlx := hlen ss x hrg.once hrg.come_keys hx'.1 hx'.2
      have hJ2 : J ss w2 := hJ ss wr w2 (some W.heap.size) hJs hg2 (fun r e => by cases e; exact ⟨Nat.le_refl _, hrg.iter_walk⟩)
      have hJ3 : J ss (w2.alloc (.cells #[.int .i64 x.pit, .int .i64 x.layer] 37)) := hJ ss w2 _ none hJ2 (World.grownBy_alloc _ _ _) (fun r e => by cases e)
      have hrg3 := hrg2.of_walks (KeepsWalks.alloc w2 (.cells #[.int .i64 x.pit, .int .i64 x.layer] 37))
      have hlt3 : (w2.alloc (.cells #[.int .i64 x.pit, .int .i64 x.layer] 37)).rangeLeft b W.heap.size < wr.rangeLeft b W.heap.size := by
        rw [hrg2.left_walks (KeepsWalks.alloc _ _)]; exact hlt
      obtain ⟨fn, tmps, assign, body, hy, hR⟩ := hY ss x _ hJ3 hlx
      simp only [keyV] at hen hy
      clear hs2 hx hx' hlx hlen
      gi_wp2
      refine ⟨fun h => (by cases h), hR.mono ?_⟩
      rintro e W3 ⟨rfl, hJ4, hk3⟩
      gi_wp2
      have hrg4 := hrg3.of_walks hk3
      go_roundw
      case rel => exact ⟨ss ++ [x], hrg4, hJ4⟩
      case measure => rw [hrg3.left_walks hk3]; exact hlt3
end Go.Proofs.YtelnkflmnbhclaaGreat
end

/- What is proved: the element types' rows of the table; slices.Clone at the structs of this program: a new row with the same list. Conditions: at most 1000000 elements. -/
section
namespace Go.Proofs.YtelnkflmnbhclaaGreat
open Go.RowKit Go.Proofs

theorem elTrace : ElemT Tryz.prog 23 25 10 80 :=
  elemT_of (z := .agg #[.int .i64 0, .int .i64 0, .int .u8 0, .int .i64 0, .int .i64 0, .int .i64 0, .int .i64 0, .int .i64 0, .int .i64 0, .int .i64 0]) Tryz.underlying23 (by kernel_rfl) rfl (by decide)
theorem elPlace : ElemT Tryz.prog 30 37 2 16 := elemT_of (z := .agg #[.int .i64 0, .int .i64 0]) Tryz.underlying30 (by kernel_rfl) rfl (by decide)
theorem elBond : ElemT Tryz.prog 35 50 5 40 := elemT_of (z := .agg #[.int .i64 0, .int .i64 0, .int .i64 0, .int .i64 0, .int .i64 0]) Tryz.underlying35 (by kernel_rfl) rfl (by decide)
theorem elLink : ElemT Tryz.prog 43 74 6 48 := elemT_of (z := .agg #[.int .i64 0, .int .i64 0, .int .i64 0, .int .i64 0, .int .i64 0, .int .i64 0]) Tryz.underlying43 (by kernel_rfl) rfl (by decide)
theorem elAdmit : ElemT Tryz.prog 26 96 4 32 := elemT_of (z := .agg #[.int .i64 0, .int .i64 0, .int .i64 0, .int .i64 0]) Tryz.underlying26 (by kernel_rfl) rfl (by decide)
theorem elBound : ElemT Tryz.prog 115 186 4 32 := elemT_of (z := .agg #[.int .i64 0, .int .i64 0, .int .i64 0, .int .i64 0]) Tryz.underlying115 (by kernel_rfl) rfl (by decide)
theorem elDating : ElemT Tryz.prog 51 140 3 24 := elemT_of (z := .agg #[.int .i64 0, .int .i64 0, .int .i64 0]) Tryz.underlying51 (by kernel_rfl) rfl (by decide)
theorem elInt : ElemT Tryz.prog 101 3 1 8 := elemT_of (z := .int .i64 0) Tryz.underlying101 (by kernel_rfl) rfl (by decide)

theorem lenTrace (x : Trace) : (encTrace x).length = 10 := rfl
theorem lenPlace (x : Place) : (encPlace x).length = 2 := rfl
theorem lenBond (x : Bond) : (encBond x).length = 5 := rfl
theorem lenLink (x : Link) : (encLink x).length = 6 := rfl
theorem lenAdmit (x : Admit) : (encAdmit x).length = 4 := rfl
theorem lenBound (x : Bound) : (encBound x).length = 4 := rfl
theorem lenDating (x : Dating) : (encDating x).length = 3 := rfl
theorem lenInt (x : Int) : (encInt x).length = 1 := rfl
theorem oneTrace (x : Trace) : ∀ u ∈ encTrace x, u.oneCell' = true := by simp [encTrace, Value.oneCell']
theorem onePlace (x : Place) : ∀ u ∈ encPlace x, u.oneCell' = true := by simp [encPlace, Value.oneCell']
theorem oneBond (x : Bond) : ∀ u ∈ encBond x, u.oneCell' = true := by simp [encBond, Value.oneCell']
theorem oneLink (x : Link) : ∀ u ∈ encLink x, u.oneCell' = true := by simp [encLink, Value.oneCell']
theorem oneAdmit (x : Admit) : ∀ u ∈ encAdmit x, u.oneCell' = true := by simp [encAdmit, Value.oneCell']
theorem oneBound (x : Bound) : ∀ u ∈ encBound x, u.oneCell' = true := by simp [encBound, Value.oneCell']
theorem oneDating (x : Dating) : ∀ u ∈ encDating x, u.oneCell' = true := by simp [encDating, Value.oneCell']
theorem oneInt (x : Int) : ∀ u ∈ encInt x, u.oneCell' = true := by simp [encInt, Value.oneCell']

theorem Own.fresh0 {α : Type} (enc : α → List Value) (k : Nat) (e : TypeId) (w : World) : Own enc k e w.heap.size (w.alloc (.cells #[] e)) (some ⟨w.heap.size, 0, none⟩) 0 0 [] :=
  ⟨rfl, World.ownsRow_made w #[] 0 (Nat.le_refl _) (by decide) (by simp)⟩

set_option maxHeartbeats 1000000 in
theorem Clone_Trace (A : Option Addr) (n c : Nat) (l : List Trace) (w : World) (hl : Rd encTrace 10 w A n c l) (hsm : n ≤ 1000000) :
    Calls Tryz.prog 90 #[.slice A n c] w fun e w' => ∃ A' c', e = .returned (.slice A' n c') ∧ Own encTrace 10 25 w.heap.size w' A' n c' l ∧ Below w.heap.size w w' := by
  have q : ∀ (w : World) (a : Option Addr) (n c n' c' : Nat), (binOp .eql 23 (.slice a n c) (.slice none n' c')).run Tryz.prog w = .ok (.bool a.isNone) w := fun w a n c n' c' => Lib.run_eql_slice_nil w _ _ a n c n' c' Tryz.underlying23
  rcases A with _ | a
  · have h0 : n = 0 := by
      rcases Nat.eq_zero_or_pos n with h | h
      · exact h
      · obtain ⟨b, off, e, _⟩ := hl.at_ h
        cases e
    subst h0
    have : l = [] := List.eq_nil_of_length_eq_zero hl.len
    subst this
    clear hl
    go_enter Tryz.func90, Tryz.ntmps90
    go_wp2
    go_ret
    exact ⟨none, 0, rfl, Own.none_ .., Below.refl _ _⟩
  · have hl1 := hl.alloc (.cells #[] 25)
    have HL := Lib.hid hl1
    clear hl hl1
    go_enter Tryz.func90, Tryz.ntmps90
    go_wp2_with (at_builtin; refine wpList_append_src elTrace lenTrace oneTrace rfl _ _ rfl _ _ _ _ rfl rfl (Own.fresh0 encTrace 10 25 w) HL.out (by omega) (by decide) (by simp) ?_; intro A' c' w1 hown hg hat)
    go_ret
    refine ⟨A', c', by simp, by simpa using hown, ?_⟩
    exact ((Below.refl _ _).alloc (Nat.le_refl _) _).grown hg (by simp) (fun k hk => by simp [blockOf] at hk; omega)
set_option maxHeartbeats 1000000 in
theorem Clone_Place (A : Option Addr) (n c : Nat) (l : List Place) (w : World) (hl : Rd encPlace 2 w A n c l) (hsm : n ≤ 1000000) :
    Calls Tryz.prog 175 #[.slice A n c] w fun e w' => ∃ A' c', e = .returned (.slice A' n c') ∧ Own encPlace 2 37 w.heap.size w' A' n c' l ∧ Below w.heap.size w w' := by
  have q : ∀ (w : World) (a : Option Addr) (n c n' c' : Nat), (binOp .eql 30 (.slice a n c) (.slice none n' c')).run Tryz.prog w = .ok (.bool a.isNone) w := fun w a n c n' c' => Lib.run_eql_slice_nil w _ _ a n c n' c' Tryz.underlying30
  rcases A with _ | a
  · have h0 : n = 0 := by
      rcases Nat.eq_zero_or_pos n with h | h
      · exact h
      · obtain ⟨b, off, e, _⟩ := hl.at_ h
        cases e
    subst h0
    have : l = [] := List.eq_nil_of_length_eq_zero hl.len
    subst this
    clear hl
    go_enter Tryz.func175, Tryz.ntmps175
    go_wp2
    go_ret
    exact ⟨none, 0, rfl, Own.none_ .., Below.refl _ _⟩
  · have hl1 := hl.alloc (.cells #[] 37)
    have HL := Lib.hid hl1
    clear hl hl1
    go_enter Tryz.func175, Tryz.ntmps175
    go_wp2_with (at_builtin; refine wpList_append_src elPlace lenPlace onePlace rfl _ _ rfl _ _ _ _ rfl rfl (Own.fresh0 encPlace 2 37 w) HL.out (by omega) (by decide) (by simp) ?_; intro A' c' w1 hown hg hat)
    go_ret
    refine ⟨A', c', by simp, by simpa using hown, ?_⟩
    exact ((Below.refl _ _).alloc (Nat.le_refl _) _).grown hg (by simp) (fun k hk => by simp [blockOf] at hk; omega)
end Go.Proofs.YtelnkflmnbhclaaGreat
end

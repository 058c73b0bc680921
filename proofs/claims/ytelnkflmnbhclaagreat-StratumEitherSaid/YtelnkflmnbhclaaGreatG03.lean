/- What is proved: maps keyed by places: what a store, a look-up and len do to a map that is known entry by entry. Conditions: none. -/
import Derived.Test.YtelnkflmnbhclaaGreatG01
import Derived.Test.YtelnkflmnbhclaaGreatG02
import Derived.RangeFuncRecord
import Derived.Maps.Own
namespace Go.Proofs.YtelnkflmnbhclaaGreat
open Go.RowKit Go.Proofs

def keyV (p : Place) : Value := .agg #[.int .i64 p.pit, .int .i64 p.layer]
theorem keyV_inj {p q : Place} (h : keyV p = keyV q) : p = q := by
  cases p; cases q
  simp [keyV] at h
  simp [h]

/-- the place that a key is -/
def keyPl : Value → Option Place
  | .agg a => match a.toList with
    | [.int .i64 p, .int .i64 l] => some ⟨p, l⟩
    | _ => none
  | _ => none
theorem keyPl_key (p : Place) : keyPl (keyV p) = some p := rfl
theorem keyPl_iff {p k : Place} {v : Value} (h : v = keyV p) : keyPl v = some k ↔ p = k := by
  subst h; rw [keyPl_key]; simp

/-- block b is a map that holds just the entries m, in the order in which they came -/
structure MapP {V : Type} (E : V → Value) (w : World) (b : Nat) (m : List (Place × V)) : Prop where
  at_ : ∃ es clock, w.heap[b]? = some (.map es clock) ∧ es.toList.map (fun e => (e.key, e.val)) = m.map (fun p => (keyV p.1, E p.2)) ∧
    es.toList.Pairwise (fun x y => x.born < y.born) ∧ (∀ e ∈ es.toList, e.born < clock)
  once : (m.map (·.1)).Nodup

def putM {V : Type} (m : List (Place × V)) (k : Place) (v : V) : List (Place × V) :=
  if m.any (fun p => decide (p.1 = k)) then m.map (fun p => if p.1 = k then (k, v) else p) else m ++ [(k, v)]
def getM {V : Type} (m : List (Place × V)) (k : Place) : Option V := (m.find? (fun p => decide (p.1 = k))).map (·.2)

section
variable {V : Type} {E : V → Value} {w w' : World} {b : Nat} {m : List (Place × V)}
theorem MapP.lt (h : MapP E w b m) : b < w.heap.size := by
  obtain ⟨es, cl, h1, _⟩ := h.at_
  exact (Array.getElem?_eq_some_iff.1 h1).1
theorem MapP.kept (h : MapP E w b m) {row : Option Nat} (hg : w.grownBy w' row) (hne : some b ≠ row) : MapP E w' b m := by
  have hl := h.lt
  obtain ⟨es, cl, h1, h2⟩ := h.at_
  exact ⟨⟨es, cl, (hg.block b hl hne).trans h1, h2⟩, h.once⟩
theorem MapP.below (h : MapP E w b m) {B : Nat} (hb : Below B w w') (hB : b < B) : MapP E w' b m := by
  obtain ⟨es, cl, h1, h2⟩ := h.at_
  exact ⟨⟨es, cl, (hb.block b hB).trans h1, h2⟩, h.once⟩
theorem MapP.alloc (h : MapP E w b m) (o : Obj) : MapP E (w.alloc o) b m := h.kept (World.grownBy_alloc w o none) (by simp)
theorem MapP.drewN (h : MapP E w b m) (n : Nat) : MapP E (w.drewN n) b m := ⟨h.at_, h.once⟩
theorem MapP.drew (h : MapP E w b m) : MapP E w.drew b m := ⟨h.at_, h.once⟩
theorem MapP.made (w : World) : MapP E (w.alloc (.map #[] 0)) w.heap.size [] :=
  ⟨⟨#[], 0, heap_alloc_new w _, rfl, by simp, by simp⟩, by simp⟩
theorem MapP.setCell (h : MapP E w b m) (p : Addr) (u : Value) (hp : b ≠ p.block) : MapP E (w.setCell p u) b m := by
  obtain ⟨es, cl, h1, h2⟩ := h.at_
  exact ⟨⟨es, cl, (Below.heap_setCell w p u b hp).trans h1, h2⟩, h.once⟩
end

theorem run_equalPl (p q : Place) (w : World) : (Op.equal 37 (keyV p) (keyV q)).run Tryz.prog w = .ok (eqPlace p q) w := by
  have := equalInPlace 9998 p.pit p.layer q.pit q.layer w
  simpa [Op.equal, Op.maxDepth, keyV] using this

theorem run_checkPl (e : Bool) (p : Place) (w : World) : (Instr.checkKey e 10000 37 (keyV p)).run Tryz.prog w = .ok () w := by
  have h3 : ∀ n v, (Instr.checkKey e (n + 1) 3 (.int .i64 v)).run Tryz.prog w = .ok () w := fun n v => by
    simp [Instr.checkKey, run_underlying Tryz.underlying3]
  rw [show (10000 : Nat) = 9998 + 1 + 1 from rfl]
  rw [Instr.checkKey]
  simp only [Sem.run_bind, run_underlying Tryz.underlying37, Result.andThen_ok, keyV]
  have h4 := h3 9998 p.pit
  have h5 := h3 9998 p.layer
  rw [← Array.forIn_toList]
  simp only [List.forIn_cons, List.forIn_nil]
  go_simp

/-- the first entry with a key -/
def findI (k : Place) : List MapEntry → Nat → Option (Nat × Value)
  | [], _ => none
  | e :: es, i => if keyPl e.key = some k then some (i, e.val) else findI k es (i + 1)
theorem run_findAskingPl (k : Place) (w : World) : ∀ (es : List MapEntry) (i : Nat), (∀ e ∈ es, ∃ p, e.key = keyV p) → (Instr.findAsking 37 (keyV k) es i).run Tryz.prog w = .ok (findI k es i) w
  | [], _, _ => rfl
  | e :: es, i, h => by
    obtain ⟨p, hp⟩ := h e (by simp)
    have ih := run_findAskingPl k w es (i + 1) (fun e he => h e (by simp [he]))
    rw [Instr.findAsking, Sem.run_bind, hp, run_equalPl, Result.andThen_ok, findI, hp, keyPl_key]
    by_cases hq : k = p
    · subst hq
      simp [eqPlace]
    · have h1 : eqPlace k p = false := eqPlace_no.2 hq
      rw [h1, if_neg (show ¬ (some p = some k) from fun h => hq (Option.some.inj h).symm)]
      simpa using ih
theorem run_findKeyPl (k : Place) (w : World) (es : List MapEntry) (h : ∀ e ∈ es, ∃ p, e.key = keyV p) : (Instr.findKey 37 (keyV k) es).run Tryz.prog w = .ok (findI k es 0) w := by
  have ha := run_findAskingPl k w es 0 h
  cases es with
  | nil => simp [Instr.findKey, run_underlying Tryz.underlying37, Instr.findNow, findI]
  | cons e es =>
    simp only [Instr.findKey, Sem.run_bind, run_underlying Tryz.underlying37, Result.andThen_ok, Instr.findNow, Instr.sameNow]
    exact ha
theorem findI_none {k : Place} : ∀ (es : List MapEntry) (i : Nat), findI k es i = none → ∀ e ∈ es, keyPl e.key ≠ some k
  | [], _, _ => by simp
  | e :: es, i, h => by
    unfold findI at h
    split at h
    · cases h
    · rename_i hne
      intro x hx
      rcases List.mem_cons.1 hx with rfl | hx
      · exact hne
      · exact findI_none es (i + 1) h x hx
theorem findI_some {k : Place} : ∀ (es : List MapEntry) (i j : Nat) (v : Value), findI k es i = some (j, v) → ∃ n e, j = i + n ∧ es[n]? = some e ∧ keyPl e.key = some k ∧ e.val = v
  | [], _, _, _, h => by simp [findI] at h
  | e :: es, i, j, v, h => by
    unfold findI at h
    split at h
    · rename_i hk
      simp only [Option.some.injEq, Prod.mk.injEq] at h
      exact ⟨0, e, by omega, rfl, hk, h.2⟩
    · obtain ⟨n, e', h1, h2, h3, h4⟩ := findI_some es (i + 1) j v h
      exact ⟨n + 1, e', by omega, h2, h3, h4⟩

section
variable {V : Type} {E : V → Value} {w : World} {b : Nat} {m : List (Place × V)}
theorem entry_at {es : List MapEntry} (h : es.map (fun e => (e.key, e.val)) = m.map (fun p => (keyV p.1, E p.2))) {n : Nat} {e : MapEntry} (he : es[n]? = some e) : ∃ p, m[n]? = some p ∧ e.key = keyV p.1 ∧ e.val = E p.2 := by
  have := congrArg (·[n]?) h
  simp only [List.getElem?_map, he, Option.map_some] at this
  cases hm : m[n]? with
  | none => rw [hm] at this; simp at this
  | some p => rw [hm] at this; simp at this; exact ⟨p, rfl, this.1, this.2⟩
theorem entry_keys {es : List MapEntry} (h : es.map (fun e => (e.key, e.val)) = m.map (fun p => (keyV p.1, E p.2))) : ∀ e ∈ es, ∃ p, e.key = keyV p := by
  intro e he
  obtain ⟨n, hn, hne⟩ := List.getElem_of_mem he
  obtain ⟨p, _, hp, _⟩ := entry_at h (n := n) (by rw [List.getElem?_eq_getElem hn, hne])
  exact ⟨p.1, hp⟩
theorem once_at (h : (m.map (·.1)).Nodup) {i j : Nat} {p q : Place × V} (hi : m[i]? = some p) (hj : m[j]? = some q) (hpq : p.1 = q.1) : i = j := by
  have hil : i < (m.map (·.1)).length := by rw [List.length_map]; exact (List.getElem?_eq_some_iff.1 hi).1
  have hjl : j < (m.map (·.1)).length := by rw [List.length_map]; exact (List.getElem?_eq_some_iff.1 hj).1
  have h1 : (m.map (·.1))[i] = (m.map (·.1))[j] := by
    have hi' := (List.getElem?_eq_some_iff.1 hi).2
    have hj' := (List.getElem?_eq_some_iff.1 hj).2
    simp only [List.getElem_map, hi', hj', hpq]
  exact (List.getElem_inj h).1 h1

theorem run_lookupPl {t e : TypeId} (ht : Tryz.prog.underlying t = some (.map 37 e)) {z : Value} (hz : (zeroValue e).run Tryz.prog w = .ok z w) (h : MapP E w b m) (k : Place) (ok : Bool) :
    (Instr.lookup t (.map (some b)) (keyV k) ok).run Tryz.prog w = .ok (if ok then .tuple #[((getM m k).map E).getD z, .bool (getM m k).isSome] else ((getM m k).map E).getD z) w := by
  obtain ⟨⟨es, cl, hb, hm, _, _⟩, honce⟩ := h
  have hg : (getObj b).run Tryz.prog w = .ok (.map es cl) w := run_getObj_map w b es cl hb
  have hf := run_findKeyPl k w es.toList (entry_keys hm)
  have hch := run_checkPl es.isEmpty k w
  have key : (findI k es.toList 0).map (·.2) = (getM m k).map E := by
    unfold getM
    cases hfi : findI k es.toList 0 with
    | none =>
      have hno := findI_none _ _ hfi
      have : m.find? (fun p => decide (p.1 = k)) = none := by
        rw [List.find?_eq_none]
        intro p hp hk
        obtain ⟨n, hn, hne⟩ := List.getElem_of_mem hp
        have hlen : es.toList.length = m.length := by simpa using congrArg List.length hm
        obtain ⟨q, hq, hqk, _⟩ := entry_at hm (n := n) (List.getElem?_eq_getElem (by omega))
        rw [List.getElem?_eq_getElem hn, hne] at hq
        cases hq
        exact hno _ (List.getElem_mem _) (by rw [hqk, keyPl_key]; simp at hk; rw [hk])
      simp [this]
    | some jv =>
      obtain ⟨j, v⟩ := jv
      obtain ⟨n, e, _, hne, hek, hev⟩ := findI_some _ _ _ _ hfi
      obtain ⟨p, hp, hpk, hpv⟩ := entry_at hm hne
      have hkp : p.1 = k := (keyPl_iff hpk).1 hek
      have : m.find? (fun p => decide (p.1 = k)) = some p := by
        cases hfd : m.find? (fun p => decide (p.1 = k)) with
        | none =>
          rw [List.find?_eq_none] at hfd
          exact absurd (by simpa using hkp) (hfd p (List.mem_of_getElem? hp))
        | some q =>
          have hqk := List.find?_some hfd
          have hqm := List.mem_of_find?_eq_some hfd
          obtain ⟨n', hn', hne'⟩ := List.getElem_of_mem hqm
          have := once_at honce hp (List.getElem?_eq_getElem hn') (by rw [hne', hkp]; simp at hqk; exact hqk.symm)
          subst this
          rw [List.getElem?_eq_getElem hn', hne'] at hp
          exact hp
      simp [this, ← hev, hpv]
  cases hfi : findI k es.toList 0 with
  | none =>
    rw [hfi] at key hf
    have hk0 : (getM m k).map E = none := by simpa using key.symm
    have hk1 : getM m k = none := by simpa using hk0
    cases ok <;> simp [Instr.lookup, run_underlying ht, hg, hch, hf, hz, hk1]
  | some jv =>
    obtain ⟨j, v⟩ := jv
    rw [hfi] at key hf
    simp at key
    cases hgm : getM m k with
    | none => rw [hgm] at key; simp at key
    | some u =>
      rw [hgm] at key
      simp at key
      cases ok <;> simp [Instr.lookup, run_underlying ht, hg, hch, hf, key]
theorem MapP.size {es : Array MapEntry} (h : es.toList.map (fun e => (e.key, e.val)) = m.map (fun p => (keyV p.1, E p.2))) : es.size = m.length := by
  have := congrArg List.length h
  simpa using this

theorem run_mapUpdatePl {t e : TypeId} (ht : Tryz.prog.underlying t = some (.map 37 e)) (h : MapP E w b m) (k : Place) (v : V) :
    ∃ w', (Instr.mapUpdate t (.map (some b)) (keyV k) (E v)).run Tryz.prog w = .ok () w' ∧ MapP E w' b (putM m k v) ∧ w.grownBy w' (some b) ∧ w'.heap.size = w.heap.size := by
  obtain ⟨⟨es, cl, hb, hm, hborn, hcl⟩, honce⟩ := h
  have hg : (getObj b).run Tryz.prog w = .ok (.map es cl) w := run_getObj_map w b es cl hb
  have hf := run_findKeyPl k w es.toList (entry_keys hm)
  have hch := run_checkPl false k w
  have hgrow : ∀ o, w.grownBy (ChangeMaps.setBlock w b o) (some b) := fun o => ⟨rfl, rfl, rfl, by simp [ChangeMaps.setBlock], fun i _ hi => ChangeMaps.heap_setBlock_other hb _ (fun e => hi (by rw [e]))⟩
  have hsz : ∀ o, (ChangeMaps.setBlock w b o).heap.size = w.heap.size := fun o => by simp [ChangeMaps.setBlock]
  cases hfi : findI k es.toList 0 with
  | none =>
    rw [hfi] at hf
    have hno := findI_none _ _ hfi
    have hnm : ∀ p ∈ m, p.1 ≠ k := by
      intro p hp hk
      obtain ⟨n, hn, hne⟩ := List.getElem_of_mem hp
      have hlen : es.toList.length = m.length := by simpa using congrArg List.length hm
      obtain ⟨q, hq, hqk, _⟩ := entry_at hm (n := n) (List.getElem?_eq_getElem (by omega))
      rw [List.getElem?_eq_getElem hn, hne] at hq
      cases hq
      exact hno _ (List.getElem_mem _) (by rw [hqk, keyPl_key, hk])
    have hput : putM m k v = m ++ [(k, v)] := by
      unfold putM
      rw [if_neg]
      simp only [List.any_eq_true, decide_eq_true_eq, not_exists, not_and]
      exact hnm
    refine ⟨_, ?_, ⟨⟨es.push ⟨keyV k, E v, cl⟩, cl + 1, ChangeMaps.heap_setBlock_same hb _, ?_, ?_, ?_⟩, ?_⟩, hgrow _, hsz _⟩
    · simp [Instr.mapUpdate, run_underlying ht, hg, hch, hf, MapKept.run_setObj_map _ hb, ChangeMaps.setBlock]
    · rw [hput]; simp [hm]
    · simp only [Array.toList_push, List.pairwise_append, List.pairwise_cons, List.mem_singleton]
      exact ⟨hborn, ⟨by simp, List.Pairwise.nil⟩, fun a ha b hb => by subst hb; exact hcl a ha⟩
    · intro e he
      simp only [Array.toList_push, List.mem_append, List.mem_singleton] at he
      rcases he with he | rfl
      · have := hcl e he; omega
      · simp
    · rw [hput]
      simp only [List.map_append, List.map_cons, List.map_nil]
      rw [List.nodup_append]
      refine ⟨honce, by simp, fun a ha b hb => ?_⟩
      simp only [List.mem_singleton] at hb
      obtain ⟨p, hp, rfl⟩ := List.mem_map.1 ha
      rw [hb]
      exact hnm p hp
  | some jv =>
    obtain ⟨j, u⟩ := jv
    rw [hfi] at hf
    obtain ⟨n, e0, hj, hne, hek, hev⟩ := findI_some _ _ _ _ hfi
    have hjn : j = n := by omega
    subst hjn
    obtain ⟨p, hp, hpk, hpv⟩ := entry_at hm hne
    have hkp : p.1 = k := (keyPl_iff hpk).1 hek
    have hold : ((es[j]?).map (·.key)).getD (keyV k) = keyV k := by
      have : es[j]? = some e0 := by rw [← Array.getElem?_toList]; exact hne
      rw [this]; simp [hpk, hkp]
    have hstay : ∀ w : World, (Instr.keyThatStays (keyV k) (keyV k)).run Tryz.prog w = .ok (keyV k) w := by
      intro w
      have : Instr.sameBits 10000 (keyV k) (keyV k) = true := by
        rw [show (10000 : Nat) = 9998 + 1 + 1 from rfl]
        simp [keyV, Instr.sameBits]
      simp [Instr.keyThatStays, this]
    have hput : ∀ i : Nat, (putM m k v)[i]? = if i = j then some (k, v) else m[i]? := by
      intro i
      unfold putM
      rw [if_pos (List.any_eq_true.2 ⟨p, List.mem_of_getElem? hp, by simp [hkp]⟩), List.getElem?_map]
      by_cases hij : i = j
      · subst hij; simp [hp, hkp]
      · rw [if_neg hij]
        cases hmi : m[i]? with
        | none => rfl
        | some q =>
          have : q.1 ≠ k := fun hq => hij (once_at honce hmi hp (by rw [hq, hkp]))
          simp [this]
    have hmod : (es.modify j fun e => { e with key := keyV k, val := E v }).toList = es.toList.modify j (fun e => { e with key := keyV k, val := E v }) := by simp
    refine ⟨_, ?_, ⟨⟨es.modify j fun e => { e with key := keyV k, val := E v }, cl, ChangeMaps.heap_setBlock_same hb _, ?_, ?_, ?_⟩, ?_⟩, hgrow _, hsz _⟩
    · simp [Instr.mapUpdate, run_underlying ht, hg, hch, hf, hold, hstay, MapKept.run_setObj_map _ hb, ChangeMaps.setBlock]
    · apply List.ext_getElem?
      intro i
      rw [hmod, List.getElem?_map, List.getElem?_map, hput, List.getElem?_modify]
      have := congrArg (·[i]?) hm
      simp only [List.getElem?_map] at this
      by_cases hij : i = j
      · subst hij; simp [hne]
      · have hji : ¬ j = i := fun h => hij h.symm
        simp only [if_neg hij, if_neg hji]
        simpa using this
    · rw [hmod]
      have hb' : (es.toList.map (·.born)).Pairwise (· < ·) := List.pairwise_map.2 hborn
      have he : (es.toList.modify j (fun e => { e with key := keyV k, val := E v })).map (·.born) = es.toList.map (·.born) := by
        apply List.ext_getElem?
        intro i
        rw [List.getElem?_map, List.getElem?_map, List.getElem?_modify]
        by_cases hij : j = i
        · subst hij; simp [hne]
        · simp [hij]
      rw [← he] at hb'
      exact List.pairwise_map.1 hb'
    · rw [hmod]
      intro e he
      obtain ⟨i, hi⟩ := List.getElem?_of_mem he
      rw [List.getElem?_modify] at hi
      by_cases hij : j = i
      · subst hij
        rw [hne] at hi
        simp at hi
        subst hi
        exact hcl e0 (List.mem_of_getElem? hne)
      · simp [hij] at hi
        exact hcl e (by rw [List.mem_iff_getElem?]; exact ⟨i, by simpa using hi⟩)
    · have : (putM m k v).map (·.1) = m.map (·.1) := by
        apply List.ext_getElem?
        intro i
        rw [List.getElem?_map, List.getElem?_map, hput]
        by_cases hij : i = j
        · subst hij; simp [hp, hkp]
        · simp [hij]
      rw [this]
      exact honce

theorem wpList_mapUpdatePl {ops : Array Oper} {rest : List Oper} {o : Oper} {a : Act} {Q : Exit → Act → World → Prop}
    (hg : o.guard = none) (mm x v : Operand) (t : TypeId) (hop : o.op = Op.mapUpdate t mm x v) {e : TypeId} (ht : Tryz.prog.underlying t = some (.map 37 e)) (k : Place) (u : V)
    (hm : a.eval mm = .map (some b)) (hx : a.eval x = keyV k) (hv : a.eval v = E u) (h : MapP E w b m)
    (hK : ∀ w', MapP E w' b (putM m k u) → w.grownBy w' (some b) → w'.heap.size = w.heap.size → wpList Tryz.prog ops Q rest (a.put o.dst undef) w') :
    wpList Tryz.prog ops Q (o :: rest) a w := by
  refine wpList_plain hg fun K' hK' => ?_
  obtain ⟨w', hrun, r1, r2, r3⟩ := run_mapUpdatePl ht h k u
  unfold Oper.wp
  simp [execOp, hop, hm, hx, hv, hrun, Result.andThen]
  exact hK' _ _ (hK w' r1 r2 r3)

theorem step_mapUpdatePl {ops : Array Oper} {o : Oper} {a : Act} {K : Act → World → Prop} {Q : Exit → Act → World → Prop} {F : Prop}
    (hg : o.guard = none) (mm x v : Operand) (t : TypeId) (hop : o.op = Op.mapUpdate t mm x v) {e : TypeId} (ht : Tryz.prog.underlying t = some (.map 37 e)) (k : Place) (u : V)
    (hm : a.eval mm = .map (some b)) (hx : a.eval x = keyV k) (hv : a.eval v = E u) (h : MapP E w b m)
    (hK : ∀ w', MapP E w' b (putM m k u) → w.grownBy w' (some b) → w'.heap.size = w.heap.size → K (a.put o.dst undef) w') :
    if Region.wanted o (yielded ops a.tmps) = true then Oper.wp Tryz.prog o a w K Q else F := by
  have hw : Region.wanted o (yielded ops a.tmps) = true := by simp [Region.wanted, hg]
  rw [if_pos hw]
  obtain ⟨w', hrun, r1, r2, r3⟩ := run_mapUpdatePl ht h k u
  unfold Oper.wp
  simp [execOp, hop, hm, hx, hv, hrun, Result.andThen]
  exact hK w' r1 r2 r3

theorem run_len_mapPl {t e ty : TypeId} (ht : Tryz.prog.underlying t = some (.map 37 e)) (h : MapP E w b m) : (Builtin.len_ #[t] ty #[.map (some b)]).run Tryz.prog w = .ok (.int .i64 m.length) w := by
  obtain ⟨⟨es, cl, hb, hm, _, _⟩, _⟩ := h
  have := run_len_map (P := Tryz.prog) (t := t) (ty := ty) (r := b) (w := w) es cl (by simp [Program.mapKeyOf, Program.mapElemOf, ht]) hb
  rw [this, goInt, MapP.size hm]
end

section
variable {V : Type} {m : List (Place × V)} {k k' : Place} {v : V}
theorem getM_mem {u : V} (h : getM m k = some u) : (k, u) ∈ m := by
  unfold getM at h
  cases hf : m.find? (fun p => decide (p.1 = k)) with
  | none => rw [hf] at h; cases h
  | some p =>
    rw [hf] at h
    have h1 := List.find?_some hf
    have h2 := List.mem_of_find?_eq_some hf
    simp at h h1
    cases p
    simp at h h1
    subst h h1
    exact h2
theorem keys_putM : ∀ q, q ∈ (putM m k v).map (·.1) ↔ q = k ∨ q ∈ m.map (·.1) := by
  intro q
  unfold putM
  split
  · rename_i h
    obtain ⟨p, hp, hpk⟩ := List.any_eq_true.1 h
    simp at hpk
    simp only [List.mem_map, List.map_map, Function.comp]
    constructor
    · rintro ⟨x, hx, rfl⟩
      by_cases hxk : x.1 = k
      · simp [hxk]
      · simp only [if_neg hxk]; exact .inr ⟨x, hx, rfl⟩
    · rintro (rfl | ⟨x, hx, rfl⟩)
      · exact ⟨p, hp, by simp [hpk]⟩
      · refine ⟨x, hx, ?_⟩
        by_cases hxk : x.1 = k
        · simp [hxk]
        · simp [hxk]
  · simp only [List.map_append, List.mem_append, List.map_cons, List.map_nil, List.mem_singleton]
    exact ⟨fun h => h.symm, fun h => h.symm⟩
theorem getM_putM : getM (putM m k v) k' = if k' = k then some v else getM m k' := by
  unfold getM putM
  split
  · rename_i h
    by_cases hk : k' = k
    · subst hk
      rw [if_pos rfl, List.find?_map]
      obtain ⟨p, hp, hpk⟩ := List.any_eq_true.1 h
      simp at hpk
      cases hf : m.find? ((fun p : Place × V => decide (p.1 = k')) ∘ fun p => if p.1 = k' then (k', v) else p) with
      | none =>
        rw [List.find?_eq_none] at hf
        have := hf p hp
        simp [hpk] at this
      | some q =>
        have := List.find?_some hf
        simp only [Function.comp, decide_eq_true_eq] at this
        simp only [Option.map_some]
        by_cases hq : q.1 = k'
        · simp [hq]
        · rw [if_neg hq] at this; exact absurd this hq
    · rw [if_neg hk, List.find?_map]
      have : ((fun p : Place × V => decide (p.1 = k')) ∘ fun p => if p.1 = k then (k, v) else p) = fun p : Place × V => decide (p.1 = k') := by
        funext p
        simp only [Function.comp]
        by_cases hp : p.1 = k
        · simp [hp]
        · simp [hp]
      rw [this, Option.map_map]
      cases hf : m.find? (fun p => decide (p.1 = k')) with
      | none => rfl
      | some q =>
        have := List.find?_some hf
        simp only [decide_eq_true_eq] at this
        have hq : q.1 ≠ k := fun h => hk (this.symm.trans h)
        simp [hq]
  · rename_i h
    have hno : m.find? (fun p => decide (p.1 = k)) = none := by
      rw [List.find?_eq_none]
      intro p hp hk
      exact h (List.any_eq_true.2 ⟨p, hp, hk⟩)
    rw [List.find?_append]
    by_cases hk : k' = k
    · subst hk; simp [hno]
    · rw [if_neg hk]
      cases hf : m.find? (fun p => decide (p.1 = k')) with
      | none => simp; exact fun h => hk h.symm
      | some q => simp
end
end Go.Proofs.YtelnkflmnbhclaaGreat

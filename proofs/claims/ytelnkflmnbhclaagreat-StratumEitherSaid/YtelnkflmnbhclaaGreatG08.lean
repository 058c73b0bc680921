/- Contracts that the law leans on: SortLay, Sort. -/
import Derived.Shelf.SlLaysF0
import Derived.Shelf.SlLaysF
import Derived.Ground.SlsfProg
import Derived.Test.YtelnkflmnbhclaaGreatChecked
import Derived.Test.YtelnkflmnbhclaaGreatG05
import Derived.Test.YtelnkflmnbhclaaGreatG07
import Derived.Shelf.SlSortCmp.NoneTotal
/-
  DERIVED: THE SHELF's CONTRACTS AT THIS DUMP, IN PLAIN WORDS (tools/lay-plain.mjs out of 'YtelnkflmnbhclaaGreatSortLay0.lean', which tools/lay-shelf.mjs wrote): THE SAME DECLARATIONS UNDER THE SAME NAMES: 'import', 'namespace', 'open', 'def', 'theorem' AND NOTHING ELSE: no command of the shelf's: FOR A HAND-IN. Each laying: the table of numbers ('.._ren') and one theorem, a field a fact of the dump's own or the kernel's comparison; each contract: ONE APPLICATION.
-/
section
namespace Go.Proofs
open Go.Shelf
def Tryz.sortPl_ren : Go.Shelf.Ren := ⟨fun | 6 => 176 | 15 => 178 | 14 => 217 | 28 => 227 | 29 => 228 | 20 => 247 | 21 => 248 | 22 => 249 | 23 => 250 | 24 => 251 | 25 => 252 | 26 => 253 | 27 => 254 | 46 => 265 | 47 => 256 | 48 => 257 | 49 => 266 | 50 => 267 | 57 => 270 | n => n, fun | 22 => 30 | 24 => 37 | 25 => 178 | 3 => 3 | 39 => 22 | 0 => 0 | 53 => 272 | 55 => 274 | 4 => 4 | 46 => 265 | 45 => 264 | 50 => 122 | 5 => 5 | 9 => 9 | 66 => 293 | 70 => 297 | 76 => 305 | 77 => 306 | n => n, fun | n => n⟩
theorem Tryz.sortPl : Go.Proofs.SlLaysF0.n6 Tryz.prog Tryz.sortPl_ren := {
  mixed := by kernel_rfl
  f6 := ⟨Tryz.f176.name, by decide, Tryz.func176.trans (congrArg some (by kernel_rfl))⟩
  f14 := ⟨Tryz.f217.name, by decide, Tryz.func217.trans (congrArg some (by kernel_rfl))⟩
  f15 := Tryz.func178.trans (congrArg some (by kernel_rfl))
  f20 := ⟨Tryz.f247.name, by decide, Tryz.func247.trans (congrArg some (by kernel_rfl))⟩
  f21 := ⟨Tryz.f248.name, by decide, Tryz.func248.trans (congrArg some (by kernel_rfl))⟩
  f22 := ⟨Tryz.f249.name, by decide, Tryz.func249.trans (congrArg some (by kernel_rfl))⟩
  f23 := ⟨Tryz.f250.name, by decide, Tryz.func250.trans (congrArg some (by kernel_rfl))⟩
  f24 := ⟨Tryz.f251.name, by decide, Tryz.func251.trans (congrArg some (by kernel_rfl))⟩
  f25 := ⟨Tryz.f252.name, by decide, Tryz.func252.trans (congrArg some (by kernel_rfl))⟩
  f26 := ⟨Tryz.f253.name, by decide, Tryz.func253.trans (congrArg some (by kernel_rfl))⟩
  f27 := ⟨Tryz.f254.name, by decide, Tryz.func254.trans (congrArg some (by kernel_rfl))⟩
  f28 := Tryz.func227.trans (congrArg some (by kernel_rfl))
  f29 := Tryz.func228.trans (congrArg some (by kernel_rfl))
  f46 := ⟨Tryz.f265.name, by decide, Tryz.func265.trans (congrArg some (by kernel_rfl))⟩
  f47 := Tryz.func256.trans (congrArg some (by kernel_rfl))
  f48 := Tryz.func257.trans (congrArg some (by kernel_rfl))
  f49 := ⟨Tryz.f266.name, by decide, Tryz.func266.trans (congrArg some (by kernel_rfl))⟩
  f50 := ⟨Tryz.f267.name, by decide, Tryz.func267.trans (congrArg some (by kernel_rfl))⟩
  f57 := ⟨Tryz.f270.name, by decide, Tryz.func270.trans (congrArg some (by kernel_rfl))⟩
  t0 := Tryz.underlying0
  a0 := Tryz.isAgg0
  z0 := Tryz.sizeOf0
  v0 := Tryz.zeroValue0
  t3 := Tryz.underlying3
  a3 := Tryz.isAgg3
  z3 := Tryz.sizeOf3
  v3 := Tryz.zeroValue3
  t4 := Tryz.underlying4
  a4 := Tryz.isAgg4
  z4 := Tryz.sizeOf4
  v4 := Tryz.zeroValue4
  t5 := Tryz.underlying5
  a5 := Tryz.isAgg5
  z5 := Tryz.sizeOf5
  v5 := Tryz.zeroValue5
  t9 := Tryz.underlying9
  a9 := Tryz.isAgg9
  z9 := Tryz.sizeOf9
  v9 := Tryz.zeroValue9
  t22 := Tryz.underlying30
  a22 := Tryz.isAgg30
  z22 := Tryz.sizeOf30
  v22 := Tryz.zeroValue30
  t25 := Tryz.underlying178
  a25 := Tryz.isAgg178
  z25 := Tryz.sizeOf178
  v25 := Tryz.zeroValue178
  t39 := Tryz.underlying22
  a39 := Tryz.isAgg22
  z39 := Tryz.sizeOf22
  v39 := Tryz.zeroValue22
  t45 := Tryz.underlying264
  a45 := Tryz.isAgg264
  z45 := Tryz.sizeOf264
  v45 := Tryz.zeroValue264
  t46 := Tryz.underlying265
  a46 := Tryz.isAgg265
  z46 := Tryz.sizeOf265
  v46 := Tryz.zeroValue265
  t50 := Tryz.underlying122
  a50 := Tryz.isAgg122
  z50 := Tryz.sizeOf122
  v50 := Tryz.zeroValue122
  t53 := Tryz.underlying272
  a53 := Tryz.isAgg272
  z53 := Tryz.sizeOf272
  v53 := Tryz.zeroValue272
  t55 := Tryz.underlying274
  a55 := Tryz.isAgg274
  z55 := Tryz.sizeOf274
  v55 := Tryz.zeroValue274
  t66 := Tryz.underlying293
  a66 := Tryz.isAgg293
  z66 := Tryz.sizeOf293
  v66 := Tryz.zeroValue293
  t70 := Tryz.underlying297
  a70 := Tryz.isAgg297
  z70 := Tryz.sizeOf297
  v70 := Tryz.zeroValue297
  t76 := Tryz.underlying305
  a76 := Tryz.isAgg305
  z76 := Tryz.sizeOf305
  v76 := Tryz.zeroValue305
  t77 := Tryz.underlying306
  a77 := Tryz.isAgg306
  z77 := Tryz.sizeOf306
  v77 := Tryz.zeroValue306 }
def Tryz.sortPls_ren : Go.Shelf.Ren := ⟨fun | 6 => 135 | 15 => 178 | 14 => 192 | 28 => 227 | 29 => 228 | 20 => 233 | 21 => 234 | 22 => 235 | 23 => 236 | 24 => 237 | 25 => 238 | 26 => 239 | 27 => 240 | 46 => 261 | 47 => 256 | 48 => 257 | 49 => 262 | 50 => 263 | 57 => 269 | n => n, fun | 22 => 59 | 24 => 30 | 25 => 191 | 3 => 3 | 39 => 22 | 0 => 0 | 53 => 272 | 55 => 274 | 4 => 4 | 46 => 265 | 45 => 264 | 50 => 122 | 5 => 5 | 9 => 9 | 66 => 293 | 70 => 297 | 76 => 305 | 77 => 306 | n => n, fun | n => n⟩
theorem Tryz.sortPls : Go.Proofs.SlLaysF.n6 Tryz.prog Tryz.sortPls_ren := {
  mixed := by kernel_rfl
  f6 := ⟨Tryz.f135.name, by decide, Tryz.func135.trans (congrArg some (by kernel_rfl))⟩
  f14 := ⟨Tryz.f192.name, by decide, Tryz.func192.trans (congrArg some (by kernel_rfl))⟩
  f15 := Tryz.func178.trans (congrArg some (by kernel_rfl))
  f20 := ⟨Tryz.f233.name, by decide, Tryz.func233.trans (congrArg some (by kernel_rfl))⟩
  f21 := ⟨Tryz.f234.name, by decide, Tryz.func234.trans (congrArg some (by kernel_rfl))⟩
  f22 := ⟨Tryz.f235.name, by decide, Tryz.func235.trans (congrArg some (by kernel_rfl))⟩
  f23 := ⟨Tryz.f236.name, by decide, Tryz.func236.trans (congrArg some (by kernel_rfl))⟩
  f24 := ⟨Tryz.f237.name, by decide, Tryz.func237.trans (congrArg some (by kernel_rfl))⟩
  f25 := ⟨Tryz.f238.name, by decide, Tryz.func238.trans (congrArg some (by kernel_rfl))⟩
  f26 := ⟨Tryz.f239.name, by decide, Tryz.func239.trans (congrArg some (by kernel_rfl))⟩
  f27 := ⟨Tryz.f240.name, by decide, Tryz.func240.trans (congrArg some (by kernel_rfl))⟩
  f28 := Tryz.func227.trans (congrArg some (by kernel_rfl))
  f29 := Tryz.func228.trans (congrArg some (by kernel_rfl))
  f46 := ⟨Tryz.f261.name, by decide, Tryz.func261.trans (congrArg some (by kernel_rfl))⟩
  f47 := Tryz.func256.trans (congrArg some (by kernel_rfl))
  f48 := Tryz.func257.trans (congrArg some (by kernel_rfl))
  f49 := ⟨Tryz.f262.name, by decide, Tryz.func262.trans (congrArg some (by kernel_rfl))⟩
  f50 := ⟨Tryz.f263.name, by decide, Tryz.func263.trans (congrArg some (by kernel_rfl))⟩
  f57 := ⟨Tryz.f269.name, by decide, Tryz.func269.trans (congrArg some (by kernel_rfl))⟩
  t0 := Tryz.underlying0
  a0 := Tryz.isAgg0
  z0 := Tryz.sizeOf0
  v0 := Tryz.zeroValue0
  t3 := Tryz.underlying3
  a3 := Tryz.isAgg3
  z3 := Tryz.sizeOf3
  v3 := Tryz.zeroValue3
  t4 := Tryz.underlying4
  a4 := Tryz.isAgg4
  z4 := Tryz.sizeOf4
  v4 := Tryz.zeroValue4
  t5 := Tryz.underlying5
  a5 := Tryz.isAgg5
  z5 := Tryz.sizeOf5
  v5 := Tryz.zeroValue5
  t9 := Tryz.underlying9
  a9 := Tryz.isAgg9
  z9 := Tryz.sizeOf9
  v9 := Tryz.zeroValue9
  t22 := Tryz.underlying59
  a22 := Tryz.isAgg59
  z22 := Tryz.sizeOf59
  v22 := Tryz.zeroValue59
  a24 := Tryz.isAgg30
  z24 := Tryz.sizeOf30
  t25 := Tryz.underlying191
  a25 := Tryz.isAgg191
  z25 := Tryz.sizeOf191
  v25 := Tryz.zeroValue191
  t39 := Tryz.underlying22
  a39 := Tryz.isAgg22
  z39 := Tryz.sizeOf22
  v39 := Tryz.zeroValue22
  t45 := Tryz.underlying264
  a45 := Tryz.isAgg264
  z45 := Tryz.sizeOf264
  v45 := Tryz.zeroValue264
  t46 := Tryz.underlying265
  a46 := Tryz.isAgg265
  z46 := Tryz.sizeOf265
  v46 := Tryz.zeroValue265
  t50 := Tryz.underlying122
  a50 := Tryz.isAgg122
  z50 := Tryz.sizeOf122
  v50 := Tryz.zeroValue122
  t53 := Tryz.underlying272
  a53 := Tryz.isAgg272
  z53 := Tryz.sizeOf272
  v53 := Tryz.zeroValue272
  t55 := Tryz.underlying274
  a55 := Tryz.isAgg274
  z55 := Tryz.sizeOf274
  v55 := Tryz.zeroValue274
  t66 := Tryz.underlying293
  a66 := Tryz.isAgg293
  z66 := Tryz.sizeOf293
  v66 := Tryz.zeroValue293
  t70 := Tryz.underlying297
  a70 := Tryz.isAgg297
  z70 := Tryz.sizeOf297
  v70 := Tryz.zeroValue297
  t76 := Tryz.underlying305
  a76 := Tryz.isAgg305
  z76 := Tryz.sizeOf305
  v76 := Tryz.zeroValue305
  t77 := Tryz.underlying306
  a77 := Tryz.isAgg306
  z77 := Tryz.sizeOf306
  v77 := Tryz.zeroValue306 }
end Go.Proofs
end

/- What is proved: slices.SortFunc and slices.SortedFunc at places. Conditions: none. -/
section
namespace Go.Proofs.YtelnkflmnbhclaaGreat
open Go.RowKit Go.Proofs Go.Shelf Go.Sort

instance : Inhabited Place := ⟨⟨0, 0⟩⟩
section
variable {α : Type} [Inhabited α] {enc : α → List Value} {k n c B g : Nat} {e : TypeId} {w : World} {xs : List α}
theorem flatK_list (hk : ∀ x, (enc x).length = k) (d : Array α) : (flatK enc k d).toList = d.toList.flatMap enc := by
  apply List.ext_getElem?
  intro t
  by_cases ht : t < d.size * k
  · have hk0 : 0 < k := by
      rcases Nat.eq_zero_or_pos k with h | h
      · subst h; simp at ht
      · exact h
    have h1 : t / k < d.size := Nat.div_lt_of_lt_mul (by rw [Nat.mul_comm]; exact ht)
    have h2 : t % k < k := Nat.mod_lt _ hk0
    have hf := get_flatK enc k d t ht
    have hs : t < (flatK enc k d).size := by simpa using ht
    rw [getElem!_pos _ t hs] at hf
    have hx : d.toList[t / k]? = some d[t / k]! := by
      rw [Array.getElem?_toList, getElem!_pos d _ h1]; simp [h1]
    have hu : (enc d[t / k]!)[t % k]? = some (enc d[t / k]!)[t % k]! := by
      rw [getElem!_pos (enc d[t / k]!) _ (by rw [hk]; exact h2)]; simp [hk, h2]
    have := flatMap_at hk d.toList (t / k) _ hx (t % k) _ hu
    rw [Nat.mul_comm, Nat.div_add_mod] at this
    rw [this, Array.getElem?_toList, Array.getElem?_eq_getElem hs, hf]
  · rw [List.getElem?_eq_none (by simp; omega), List.getElem?_eq_none (by rw [flatMap_len hk]; simp; omega)]

theorem Own.holdsK (h : Own enc k e B w (some ⟨g, 0, none⟩) n c xs) (hk : ∀ x, (enc x).length = k) : HoldsK enc k w g 0 xs.toArray := by
  intro j hj
  have hj' : j < xs.length * k := by simpa using hj
  have hl := flatK_list hk xs.toArray
  have hfl : (flatK enc k xs.toArray).size = xs.length * k := by simp
  have hget : (xs.flatMap enc)[j]? = some (flatK enc k xs.toArray)[j]! := by
    rw [show xs.flatMap enc = (flatK enc k xs.toArray).toList from hl.symm, Array.getElem?_toList, getElem!_pos _ j (by rw [hfl]; exact hj')]
    simp [hj']
  have := h.own.cells (g := g) rfl j _ hget
  rw [add_lit] at this
  exact ⟨this, by rw [Nat.zero_add]; exact h.own.frozenAt j⟩

theorem Own.sorted (h : Own enc k e B w (some ⟨g, 0, none⟩) n c xs) (hk : ∀ x, (enc x).length = k) (d' : Array α) (hs : d'.size = n) (m : Nat) (os : Array Obj) :
    Own enc k e B (sortWorldK enc k w g 0 m d' os) (some ⟨g, 0, none⟩) n c d'.toList ∧ w.grownBy (sortWorldK enc k w g 0 m d' os) (some g) := by
  have hlt := h.lt
  have hbl : ∀ i, i < w.heap.size → (sortWorldK enc k w g 0 m d' os).heap[i]? = (w.heap.modify g (onCells (putCells id 0 (flatK enc k d'))))[i]? := by
    intro i hi
    show ((w.heap.modify g (onCells (putCells id 0 (flatK enc k d')))) ++ os)[i]? = _
    rw [Array.getElem?_append_left (by simpa using hi)]
  have hg : w.grownBy (sortWorldK enc k w g 0 m d' os) (some g) := by
    refine ⟨rfl, rfl, rfl, ?_, fun i hi hne => ?_⟩
    · show w.heap.size ≤ ((w.heap.modify g (onCells (putCells id 0 (flatK enc k d')))) ++ os).size
      simp
    · rw [hbl i hi, Array.getElem?_modify, if_neg]
      intro e; exact hne (by rw [e])
  refine ⟨⟨by simpa using hs, ?_⟩, hg⟩
  rcases h.own with ⟨hlen, ⟨h1, _⟩ | ⟨g', cap, cur, h1, hb, hcur, hnc, hmax, hsz, htake⟩⟩
  · cases h1
  · cases h1
    refine ⟨by rw [flatMap_len hk]; simp [hs], .inr ⟨g, c, putCells id 0 (flatK enc k d') cur, rfl, hb, ?_, hnc, hmax, by simp [putCells, hsz], ?_⟩⟩
    · rw [hbl g hlt.2, Array.getElem?_modify, if_pos rfl, hcur]; rfl
    · rw [← flatK_list hk d']
      have hfs : (flatK enc k d').size = n * k := by simp [hs]
      have hnk : n * k ≤ cur.size := by rw [hsz]; exact Nat.mul_le_mul_right _ hnc
      apply List.ext_getElem?
      intro t
      by_cases ht : t < n * k
      · rw [List.getElem?_take_of_lt ht]
        simp only [putCells, Array.getElem?_toList, Array.getElem?_mapIdx, id]
        rw [Array.getElem?_eq_getElem (by omega : t < cur.size)]
        simp only [Option.map_some, Nat.zero_le, true_and, Nat.zero_add, hfs, if_pos ht, Nat.sub_zero]
        rw [getElem!_pos _ t (by rw [hfs]; exact ht), Array.getElem?_eq_getElem (by rw [hfs]; exact ht)]
      · rw [List.getElem?_eq_none (by rw [List.length_take]; omega), List.getElem?_eq_none (by simp [hs]; omega)]
end

/-! ### the order of places -/
def ltPl (a b : Place) : Prop := a.pit < b.pit ∨ a.pit = b.pit ∧ a.layer < b.layer
instance (a b : Place) : Decidable (ltPl a b) := by unfold ltPl; infer_instance
theorem ltOf_pl (a b : Place) : ltOf comparePl a b = decide (ltPl a b) := by
  unfold ltOf comparePl or2 cmpI ltPl
  by_cases h1 : a.pit < b.pit
  · simp [h1]
  · by_cases h2 : b.pit < a.pit
    · have : ¬ a.pit = b.pit := by omega
      simp [h1, h2, this]
    · have h3 : a.pit = b.pit := by omega
      by_cases h4 : a.layer < b.layer
      · simp [h3, h4]
      · by_cases h5 : b.layer < a.layer <;> simp [h3, h4, h5]
theorem ltF {a b : Place} : ltOf comparePl a b = false ↔ ¬ ltPl a b := by rw [ltOf_pl]; simp
theorem ltT {a b : Place} : ltOf comparePl a b = true ↔ ltPl a b := by rw [ltOf_pl]; simp
theorem swoPl : SWO (ltOf comparePl) where
  irrefl x := by rw [ltF]; unfold ltPl; omega
  trans x y z h1 h2 := by rw [ltT] at *; unfold ltPl at *; omega
  ntrans x y z h1 h2 := by rw [ltF] at *; unfold ltPl at *; omega
theorem totPl (x y : Place) (h1 : ltOf comparePl x y = false) (h2 : ltOf comparePl y x = false) : x = y := by
  rw [ltF] at h1 h2
  cases x; cases y
  simp only [ltPl] at h1 h2
  simp only [Place.mk.injEq]
  omega
def gePl (x y : Place) : Bool := !(ltOf comparePl) y x
theorem gePl_iff {x y : Place} : gePl x y = true ↔ ¬ ltPl y x := by unfold gePl; rw [Bool.not_eq_true', ltF]
def sortPl (l : List Place) : List Place := l.mergeSort fun x y => !(ltOf comparePl) y x
theorem sortPl_perm (l : List Place) : (sortPl l).Perm l := List.mergeSort_perm _ _
theorem sortPl_pairwise (l : List Place) : (sortPl l).Pairwise (fun a b => gePl a b = true) := by
  refine List.pairwise_mergeSort (le := gePl) ?_ ?_ l
  · intro a b c h1 h2
    rw [gePl_iff] at *
    unfold ltPl at *
    omega
  · intro a b
    rw [Bool.or_eq_true, gePl_iff, gePl_iff]
    unfold ltPl
    omega
theorem sortPl_congr {l m : List Place} (h : l.Perm m) : sortPl l = sortPl m := by
  refine List.Perm.eq_of_pairwise ?_ (sortPl_pairwise l) (sortPl_pairwise m) ((sortPl_perm l).trans (h.trans (sortPl_perm m).symm))
  intro a b _ _ h1 h2
  rw [gePl_iff] at h1 h2
  exact totPl a b (ltF.2 h2) (ltF.2 h1)

theorem ent_compare : ∀ args w, (callFunc 128 args).run Tryz.prog w = .ok (.enter 128 args) w := enters_of Tryz.func128 (by kernel_rfl) rfl
theorem cmpLays_pl (blk size : Nat) (w : World) : CmpLays Tryz.prog 128 #[] encPlace 2 comparePl blk 0 size w :=
  fun _ _ _ _ x y => (compare_any x.pit x.layer y.pit y.layer _).mono fun _ _ ⟨he, q, os', h⟩ => ⟨he, q, os', h⟩

theorem SortFunc_Place (B : Nat) (A : Option Addr) (n c : Nat) (xs : List Place) (w : World) (h : Own encPlace 2 37 B w A n c xs) (hn : n ≤ 17592186044416) :
    Calls Tryz.prog 176 #[.slice A n c, .func (.func 128) #[] #[]] w fun e w' =>
      e = .returned (.tuple #[]) ∧ Own encPlace 2 37 B w' A n c (sortPl xs) ∧ w.grownBy w' (blockOf A) := by
  have hlen := h.len
  rcases h.form with ⟨rfl, rfl, rfl⟩ | ⟨g, rfl, _, hlt⟩
  · have hx : xs = [] := List.eq_nil_of_length_eq_zero hlen
    subst hx
    have := AnyF.slices_SortFunc_none Tryz.sortPl none 0 (.func (.func 128) #[] #[]) w
    change Calls Tryz.prog 176 _ _ _ at this
    refine this.mono ?_
    rintro e w' ⟨rfl, rfl⟩
    exact ⟨rfl, by rw [show sortPl [] = [] by simp [sortPl]]; exact h, World.grownBy.refl _ _⟩
  · have hcon := AnyQ.slices_SortFunc_total Tryz.sortPl 2 Tryz.isAgg37 Tryz.sizeOf37 encPlace (fun _ => rfl) onePlace comparePl swoPl 128 #[] g 0 c xs.toArray w ent_compare (cmpLays_pl g _ w) (h.holdsK (fun _ => rfl)) hlt (by simp; omega) totPl
    change Calls Tryz.prog 176 _ _ _ at hcon
    simp only [List.size_toArray, hlen] at hcon
    refine hcon.mono ?_
    rintro e w' ⟨rfl, m, os, rfl⟩
    obtain ⟨h1, h2⟩ := h.sorted (fun _ => rfl) (sortPl xs).toArray (by simp [sortPl, hlen]) m os
    exact ⟨rfl, h1, h2⟩

set_option maxHeartbeats 1000000 in
theorem SortedFunc_Place (g : Nat) (lb : Array Value) (eg : ∀ args w, (callFunc g args).run Tryz.prog w = .ok (.enter g args) w)
    (S : List Place → Prop) (N : Nat) (hN : N ≤ 1000000000) (hS1 : ∀ ss, S ss → ss.length ≤ N) (w : World) (hseq : SeqGives Fence.wide 5 Tryz.prog g lb (fun x : Place => .agg #[.int .i64 x.pit, .int .i64 x.layer]) S N w) :
    Calls Tryz.prog 182 #[.func (.func g) #[] lb, .func (.func 128) #[] #[]] w fun e w' =>
      ∃ A c ss, e = .returned (.slice A ss.length c) ∧ S ss ∧ Own encPlace 2 37 w.heap.size w' A ss.length c (sortPl ss) ∧ Below w.heap.size w w' := by
  have hcol := collectPlace g lb eg S N hN w hseq
  clear hseq
  go_enter Tryz.func182, Tryz.ntmps182
  go_wp2_with (first
    | (go_at_call 229; refine hcol.mono ?_; rintro e w1 ⟨A, c, ss, rfl, hS, hO, hb⟩; have hl1 := Lib.hid (hS1 ss hS))
    | (go_at_call 176; refine (SortFunc_Place _ A _ c ss w1 hO (by have : ss.length ≤ N := hl1; omega)).mono ?_; rintro e w2 ⟨rfl, hO2, hg2⟩))
  go_ret
  exact ⟨A, c, ss, rfl, hS, hO2, hb.grown hg2 hb.size (fun k e => hO.ltB k e)⟩

theorem sorted_b (b : Nat) (m : List (Place × Bool)) (w : World) (h : MapP eBool w b m) (hm : m.length ≤ 1000000000) :
    Calls Tryz.prog 127 #[.map (some b), .func (.func 128) #[] #[]] w fun e w' =>
      ∃ A c, e = .returned (.slice A m.length c) ∧ Own encPlace 2 37 w.heap.size w' A m.length c (sortPl (m.map (·.1))) ∧ Below w.heap.size w w' := by
  have hs := SortedFunc_Place _ _ ent_keysb _ m.length hm (fun ss hp => by rw [hp.length_eq]; simp) _ (keys_givesb 5 b m w h)
  go_enter Tryz.func127, Tryz.ntmps127
  go_wp2_with (first
    | (go_at_call 183; refine (Keys_b b _).mono ?_; rintro e w1 ⟨rfl, rfl⟩)
    | (go_at_call 182; refine hs.mono ?_; rintro e w1 ⟨A, c, ss, rfl, hp, hO, hb⟩))
  go_ret
  refine ⟨A, c, ?_, ?_, ?_⟩
  · rw [hp.length_eq]; simp
  · rw [sortPl_congr hp, hp.length_eq] at hO
    simpa using hO.mono (B' := w.heap.size) (by simp)
  · exact ((Below.refl _ w).alloc (Nat.le_refl _) _).trans (hb.mono (by simp))
theorem sorted_a (b : Nat) (m : List (Place × Admit)) (w : World) (h : MapP eAdmit w b m) (hm : m.length ≤ 1000000000) :
    Calls Tryz.prog 131 #[.map (some b), .func (.func 128) #[] #[]] w fun e w' =>
      ∃ A c, e = .returned (.slice A m.length c) ∧ Own encPlace 2 37 w.heap.size w' A m.length c (sortPl (m.map (·.1))) ∧ Below w.heap.size w w' := by
  have hs := SortedFunc_Place _ _ ent_keysa _ m.length hm (fun ss hp => by rw [hp.length_eq]; simp) _ (keys_givesa 5 b m w h)
  go_enter Tryz.func131, Tryz.ntmps131
  go_wp2_with (first
    | (go_at_call 186; refine (Keys_a b _).mono ?_; rintro e w1 ⟨rfl, rfl⟩)
    | (go_at_call 182; refine hs.mono ?_; rintro e w1 ⟨A, c, ss, rfl, hp, hO, hb⟩))
  go_ret
  refine ⟨A, c, ?_, ?_, ?_⟩
  · rw [hp.length_eq]; simp
  · rw [sortPl_congr hp, hp.length_eq] at hO
    simpa using hO.mono (B' := w.heap.size) (by simp)
  · exact ((Below.refl _ w).alloc (Nat.le_refl _) _).trans (hb.mono (by simp))
end Go.Proofs.YtelnkflmnbhclaaGreat
end

/- What is proved: a function whose body ranges over functions in a loop leaves with many marks: each is taken, nothing else turns. Conditions: none. -/
import Derived.RangeFuncLeaves
import Derived.RangeFuncRecord
import Derived.RangeFuncSeq
import Derived.WalkKit
namespace Go.Proofs.YtelnkflmnbhclaaGreat
open Go.RowKit Go.Proofs

def markOf (D : Nat) : Deferred := { target := .collected D, args := #[] }
/-- the marks ds of the blocks Ds: each is open, and lies from block B on -/
structure MarksAt (B : Nat) (W : World) (Ds : List Nat) : Prop where
  once : Ds.Nodup
  at_ : ∀ D ∈ Ds, B ≤ D ∧ W.heap[D]? = some (.deferred (some []))
theorem MarksAt.none_ (B : Nat) (W : World) : MarksAt B W [] := ⟨List.nodup_nil, fun _ h => by cases h⟩
theorem MarksAt.keep {B : Nat} {W W' : World} {Ds : List Nat} (h : MarksAt B W Ds) (hk : ∀ D, B ≤ D → W.heap[D]? = some (.deferred (some [])) → W'.heap[D]? = some (.deferred (some []))) : MarksAt B W' Ds :=
  ⟨h.once, fun D hD => ⟨(h.at_ D hD).1, hk D (h.at_ D hD).1 (h.at_ D hD).2⟩⟩
theorem MarksAt.add {B : Nat} {W : World} {Ds : List Nat} {D : Nat} (h : MarksAt B W Ds) (hD : W.heap[D]? = some (.deferred (some []))) (hB : B ≤ D) (hn : D ∉ Ds) : MarksAt B W (D :: Ds) :=
  ⟨List.nodup_cons.2 ⟨hn, h.once⟩, fun E hE => by
    rcases List.mem_cons.1 hE with rfl | hE
    · exact ⟨hB, hD⟩
    · exact h.at_ E hE⟩
/-- what is the same but at the marks' blocks -/
structure SameBut (Ds : List Nat) (W W' : World) : Prop where
  os : W'.os = W.os
  tape : W'.tape = W.tape
  output : W'.output = W.output
  size : W'.heap.size = W.heap.size
  block : ∀ g, g ∉ Ds → W'.heap[g]? = W.heap[g]?
theorem leaves_marks {n : Nat} {P : Program} {fn : Func} {tmps : Array Value} {R : Ending → World → Prop} {B : Nat} : ∀ (Ds : List Nat) (W : World), MarksAt B W Ds →
    (∀ W', SameBut Ds W W' → ∃ v, (results fn tmps).run P W' = .ok v W' ∧ R (.returned v) W') → LeavesInM Fence.wide n P fn tmps R (Ds.map markOf) .returning W
  | [], W, _, h => h W ⟨rfl, rfl, rfl, rfl, fun _ _ => rfl⟩
  | D :: Ds, W, hM, h => by
    obtain ⟨hnd, hnn⟩ := List.nodup_cons.1 hM.once
    have hD := (hM.at_ D (by simp)).2
    refine ⟨by simp, .inl ⟨D, W.putObj D (.deferred none), rfl, run_takeDeferred hD, ?_⟩⟩
    refine leaves_marks (B := B) Ds _ ⟨hnn, fun E hE => ⟨(hM.at_ E (by simp [hE])).1, (World.putObj_heap_other (show E ≠ D from fun e => hnd (e ▸ hE))).trans (hM.at_ E (by simp [hE])).2⟩⟩ fun W' hs => ?_
    refine h W' ⟨hs.os, hs.tape, hs.output, by rw [hs.size]; simp, fun g hg => ?_⟩
    simp only [List.mem_cons, not_or] at hg
    exact (hs.block g hg.2).trans (World.putObj_heap_other hg.1)
end Go.Proofs.YtelnkflmnbhclaaGreat

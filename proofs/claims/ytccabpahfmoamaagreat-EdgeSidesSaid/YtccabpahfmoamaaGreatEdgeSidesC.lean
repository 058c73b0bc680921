/- What is proved: the law EdgeSides: for all stretches, outline and list, Overlap and Bare return what the reference returns (C10); two stretches overlap exactly if Bare of one of them lacks a side of the other one. Conditions: none. -/
import Derived.Test.YtccabpahfmoamaaGreatRows
import Derived.Test.YtccabpahfmoamaaGreatE27
import Derived.Test.YtccabpahfmoamaaGreatE37
import Derived.WalkKit
import Derived.ProofKit
import Derived.OpenShut
namespace Go.Proofs.YtccabpahfmoamaaGreat.edgeSides
open Go.ChangeShapes Go.WideShapes Go.ChangeAt Go.RowKit

theorem own : ownKnob Tryz.prog.godebug = none := by kernel_rfl

/-! ### The row's step -/
set_option maxRecDepth 100000 in
set_option maxHeartbeats 1000000 in
theorem lifted (os : Os) (started : os.Started) (H : Type) (enc : TypeId × Value → H) :
    ReturnsInHanded {} Tryz.checked os 12 .any (Rows.edgeSidesSpec.pre6 enc Tryz.prog Tryz.f12 Rows.edgeSidesRow.domain false) (Rows.edgeSidesSpec.post enc Tryz.prog Tryz.f12 false true false false) := by
  refine returnsInHanded_of_change (C := Tryz.checked) own started (by kernel_rfl) Tryz.func12
    (ChangeSpec.witness6 (enc := enc) (C := Tryz.checked) false ⟨#[], #[.agg #[.int .i64 0, .slice none 0 0, .slice none 0 0], .agg #[.int .i64 0, .int .i64 0], .agg #[.int .i64 0, .int .i64 0], .slice none 0 0], []⟩ 8 (by kernel_rfl) (by kernel_rfl) (by kernel_rfl) (by kernel_rfl)) ?_
  intro W base args ds gs before hval0 hW hcnd _
  have hval : ∀ (j : Nat) t v, Tryz.f12.params[j]? = some t → args[j]? = some v → Value.okWide Tryz.prog W .any base t v := hval0
  have hW' := hW
  obtain ⟨p, q, hA0, hV, rfl, hfz, hnd⟩ := hW
  have hA : DataW.TrodAll enc Tryz.prog W 0 (fun _ => true) true Tryz.f12.params.toList args.toList ds p := hA0
  have hAk := hA
  rw [Tryz.params12] at hA hval
  obtain ⟨v0, vs0, d0, ds0, p0, p0_, hargs, rfl, rfl, h0, r0⟩ := trodAll_cons hA
  obtain ⟨v1, vs1, d1, ds1, p1, p1_, rfl, rfl, rfl, h1, r1⟩ := trodAll_cons r0
  obtain ⟨v2, vs2, d2, ds2, p2, p2_, rfl, rfl, rfl, h2, r2⟩ := trodAll_cons r1
  obtain ⟨v3, vs3, d3, ds3, p3, p3_, rfl, rfl, rfl, h3, r3⟩ := trodAll_cons r2
  obtain ⟨rfl, rfl, rfl⟩ := trodAll_nil r3
  obtain rfl : args = #[v0, v1, v2, v3] := by cases args; simp_all
  obtain ⟨rfl, rfl⟩ := trodVars_none hV
  obtain ⟨cs0, rfl, _⟩ := okWide_struct Tryz.underlying24 (hval 0 24 v0 rfl rfl)
  obtain ⟨fu0, hf0⟩ := h0
  obtain ⟨o_, oWA, own, owc, oTA, otn, otc, e0, oW, oT⟩ := decOutl hf0
  obtain rfl : cs0 = #[.int .i64 o_.n, .slice oWA own owc, .slice oTA otn otc] := by cases cs0; simpa [Value.cells] using e0
  obtain ⟨cs1, rfl, _⟩ := okWide_struct Tryz.underlying26 (hval 1 26 v1 rfl rfl)
  obtain ⟨fu1, hf1⟩ := h1
  obtain ⟨s_, e1⟩ := decStretch hf1
  obtain rfl : cs1 = #[.int .i64 s_.lo, .int .i64 s_.hi] := by cases cs1; simpa [Value.cells] using e1
  obtain ⟨cs2, rfl, _⟩ := okWide_struct Tryz.underlying26 (hval 2 26 v2 rfl rfl)
  obtain ⟨fu2, hf2⟩ := h2
  obtain ⟨t_, e2⟩ := decStretch hf2
  obtain rfl : cs2 = #[.int .i64 t_.lo, .int .i64 t_.hi] := by cases cs2; simpa [Value.cells] using e2
  obtain ⟨a3_, n3_, c3_, rfl⟩ := okWide_slice Tryz.underlying78 (hval 3 78 v3 rfl rfl)
  obtain ⟨fu3, hf3⟩ := h3
  obtain ⟨lA, ln, lc, l_, e3, len3, rd3⟩ := open_rd (encA := encStretch) (k := 2) Tryz.underlying78 (by kernel_rfl) (by omega) (fun _ => rfl) (fun _ _ _ h => decStretch h) hf3
  cases e3
  clear hA0 hval0
  simp only [List.append_nil] at hW'
  refine (edgeSides_of o_ oWA own owc oTA otn otc s_ t_ a3_ n3_ c3_ l_ W oW oT ⟨len3, rd3⟩).mono fun e W' ⟨he, hg⟩ => ?_
  subst he
  exact ⟨_, rfl, law_kept (pa := _) (pv := []) hW' hg (by simp) (fun _ _ _ => (trodAll_cons_mk (shut_bool Tryz.underlying4 _) trodAll_mk0)) (fun sp hsp => args_kept hAk hg (by rw [Tryz.params12]; exact fun t ht => of_decide_eq_true (List.all_eq_true.1 (by kernel_rfl : [24, 26, 26, 78].all (fun t => decide (t < Tryz.prog.types.size)) = true) t ht)) sp (fun p hp => hsp p (by simpa using hp))) (fun _ _ => rfl) (ok_one (by kernel_rfl) rfl (okWide_bool_mk Tryz.underlying4 _))⟩

/-! ### The closed facts, each on its own (one declaration over all of them outgrows the lid) -/
theorem both {a b : Bool} (h : a = true) (g : b = true) : (a && b) = true := by rw [h, g]; rfl
theorem k1 : (Rows.edgeSidesRow.wf (OpenSpec.ofChange Rows.edgeSidesSpec)) = true := by kernel_rfl
theorem k2 : (laidOutB Tryz.prog) = true := by kernel_rfl
theorem k3 : (mapsRowed Tryz.prog) = true := by kernel_rfl
theorem k4 : (Tryz.f12.params.all (Tryz.prog.readableRec ·)) = true := by kernel_rfl
theorem k5 : (namedTie Tryz.prog Rows.edgeSidesRow.named Rows.edgeSidesSpec.vars) = true := by kernel_rfl
theorem k6 : ((Rows.edgeSidesRow.stops == [])) = true := by kernel_rfl
theorem k7 : ((Tryz.prog.stops == [])) = true := by kernel_rfl
theorem k8 : ((Rows.edgeSidesRow.knobs == [])) = true := by kernel_rfl
theorem k9 : ((Tryz.prog.stopKnobs == [])) = true := by kernel_rfl
theorem k10 : ((Rows.edgeSidesRow.inPlace == Tryz.prog.inPlace 12)) = true := by kernel_rfl
theorem k11 : ((Rows.edgeSidesRow.unfollowed == Tryz.prog.unfollowed 12)) = true := by kernel_rfl
theorem k12 : ((Rows.edgeSidesRow.recurses == Tryz.prog.recurses 12)) = true := by kernel_rfl
theorem k13 : ((Rows.edgeSidesRow.named == Tryz.prog.varsNamed 12)) = true := by kernel_rfl
theorem k14 : ((Rows.edgeSidesRow.maps == (Tryz.f12.params.toList ++ Rows.edgeSidesSpec.plain.varTypes Tryz.prog).any (Tryz.prog.mapsRec ·))) = true := by kernel_rfl
theorem k15 : ((Rows.edgeSidesRow.ifaces == (Tryz.f12.params.toList ++ Rows.edgeSidesSpec.plain.varTypes Tryz.prog).any (Tryz.prog.ifacesRec ·))) = true := by kernel_rfl
theorem k16 : ((Rows.edgeSidesRow.mapsOut == Tryz.prog.mapsAmong Tryz.f12.resultTypes.toList)) = true := by kernel_rfl
theorem k17 : ((Rows.edgeSidesRow.loops == (Tryz.f12.params.toList ++ Rows.edgeSidesSpec.plain.varTypes Tryz.prog).any (Tryz.prog.loopsFrom ·))) = true := by kernel_rfl
theorem k18 : ((Rows.edgeSidesRow.wideKeys == (Tryz.f12.params.toList ++ Rows.edgeSidesSpec.plain.varTypes Tryz.prog ++ Tryz.f12.resultTypes.toList).any (Tryz.prog.wideKeysFrom ·))) = true := by kernel_rfl
theorem k19 : (Rows.edgeSidesSpec.vars.all (Tryz.prog.varReadable ·)) = true := by kernel_rfl
theorem k20 : (Tryz.f12.resultTypes.all (fun t => Tryz.prog.readableRec t && decide (t < Tryz.prog.types.size))) = true := by kernel_rfl
theorem k21 : ((Rows.edgeSidesRow.ifacesOut == Tryz.f12.resultTypes.toList.any (Tryz.prog.ifacesRec ·))) = true := by kernel_rfl
theorem k22 : ((Rows.edgeSidesRow.loopsOut == Tryz.f12.resultTypes.toList.any (Tryz.prog.loopsFrom ·))) = true := by kernel_rfl
theorem k23 : ((Rows.edgeSidesRow.plainKeys == Tryz.prog.plainKeys)) = true := by kernel_rfl
theorem k24 : (Rows.edgeSidesRow.shortTexts.isNone) = true := by kernel_rfl
theorem k25 : (Tryz.prog.stopsHeard) = true := by kernel_rfl
theorem k26 : (Tryz.prog.mayEnter) = true := by kernel_rfl
theorem k27 : ((Rows.edgeSidesRow.lifted == Tryz.prog.liftsFinal)) = true := by kernel_rfl
theorem k28 : ((Tryz.prog.make == some Rows.edgeSidesRow.make)) = true := by kernel_rfl
theorem k29 : ((Rows.edgeSidesRow.kinds == (if Rows.edgeSidesRow.domain.isEmpty then [] else Tryz.f12.params.toList.map fun t => match Tryz.prog.underlying t with | some (.int k) => some k | _ => none))) = true := by kernel_rfl
theorem k30 : ((Rows.edgeSidesRow.pinned == Rows.edgeSidesRow.pinnedBy)) = true := by kernel_rfl
theorem k31 : ((Rows.edgeSidesRow.veiled == (Tryz.f12.params.toList ++ Rows.edgeSidesSpec.plain.varTypes Tryz.prog ++ Tryz.f12.resultTypes.toList).any (Tryz.prog.veiledRec ·))) = true := by kernel_rfl
theorem k32 : (Rows.edgeSidesRow.veiledFits Tryz.prog Tryz.f12.params.toList (Tryz.f12.params.toList ++ Rows.edgeSidesSpec.plain.varTypes Tryz.prog ++ Tryz.f12.resultTypes.toList)) = true := by kernel_rfl
set_option maxRecDepth 100000 in
theorem facts : joinedFacts Tryz.prog 12 Tryz.f12 Rows.edgeSidesSpec Rows.edgeSidesRow = true :=
  (both (both (both (both (both (both (both (both (both (both (both (both (both (both (both (both (both (both (both (both (both (both (both (both (both (both (both (both (both (both (both k1 k2) k3) k4) k5) k6) k7) k8) k9) k10) k11) k12) k13) k14) k15) k16) k17) k18) k19) k20) k21) k22) k23) k24) k25) k26) k27) k28) k29) k30) k31) k32)
theorem hfn : Tryz.prog.funcNamed Rows.edgeSidesRow.func = some 12 := by kernel_rfl
theorem hwr : Tryz.f12.isWrapper Tryz.prog Rows.edgeSidesRow.wrapper Rows.edgeSidesRow.mainSum := by unfold Func.isWrapper; first | (rw [if_pos (by decide +kernel)]; kernel_rfl) | (rw [if_neg (by decide +kernel)]; exact ⟨rfl, rfl⟩)
theorem hin : Tryz.f12.isInstance Tryz.prog Rows.edgeSidesRow.origin Rows.edgeSidesRow.targs := of_decide_eq_true (by kernel_rfl)

theorem over : Rows.edgeSidesRow.holds Tryz.pinned (OpenSpec.ofChange Rows.edgeSidesSpec) :=
  OpenClaim.holds_of_wide 12 Tryz.f12 rfl rfl rfl rfl rfl rfl rfl ⟨rfl, rfl, rfl, rfl, rfl⟩ rfl rfl rfl rfl rfl hfn Tryz.func12 facts hin hwr
    (fun os started H enc _ => lifted os started H enc)

/-- the given statement -/
theorem proved : Rows.EdgeSidesSaid :=
  over
#print axioms proved
end Go.Proofs.YtccabpahfmoamaaGreat.edgeSides


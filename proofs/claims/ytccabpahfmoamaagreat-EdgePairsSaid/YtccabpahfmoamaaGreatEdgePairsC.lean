/- What is proved: the law EdgePairs: Pairs, Longest and Maximal return what the reference returns. Conditions: none. -/
import Derived.Test.YtccabpahfmoamaaGreatRows
import Derived.Test.YtccabpahfmoamaaGreatPE27
import Derived.Test.YtccabpahfmoamaaGreatPE31
import Derived.Test.YtccabpahfmoamaaGreatPE59
import Derived.WalkKit
import Derived.ProofKit
import Derived.OpenShut
namespace Go.Proofs.YtccabpahfmoamaaGreat.edgePairs
open Go.ChangeShapes Go.WideShapes Go.ChangeAt Go.RowKit

theorem own : ownKnob Tryz.prog.godebug = none := by kernel_rfl

/-! ### The row's step -/
set_option maxRecDepth 100000 in
set_option maxHeartbeats 1000000 in
theorem lifted (os : Os) (started : os.Started) (H : Type) (enc : TypeId × Value → H) :
    ReturnsInHanded {} Tryz.checked os 10 .any (Rows.edgePairsSpec.pre6 enc Tryz.prog Tryz.f10 Rows.edgePairsRow.domain false) (Rows.edgePairsSpec.post enc Tryz.prog Tryz.f10 false true false false) := by
  refine returnsInHanded_of_change_sized (C := Tryz.checked) own started (by kernel_rfl) Tryz.func10
    (ChangeSpec.witness6 (enc := enc) (C := Tryz.checked) false ⟨#[], #[.agg #[.int .i64 0, .slice none 0 0, .slice none 0 0], .agg #[.int .i64 0, .slice none 0 0, .slice none 0 0], .int .i64 0], []⟩ 8 (by kernel_rfl) (by kernel_rfl) (by kernel_rfl) (by kernel_rfl)) ?_
  intro W base args ds gs before hval0 hW hcnd hsz _
  have hval : ∀ (j : Nat) t v, Tryz.f10.params[j]? = some t → args[j]? = some v → Value.okWide Tryz.prog W .any base t v := hval0
  have hW' := hW
  obtain ⟨p, q, hA0, hV, rfl, hfz, hnd⟩ := hW
  have hA : DataW.TrodAll enc Tryz.prog W 0 (fun _ => true) true Tryz.f10.params.toList args.toList ds p := hA0
  have hAk := hA
  rw [Tryz.params10] at hA hval
  rw [Tryz.params10] at hsz
  obtain ⟨v0, vs0, d0, ds0, p0, p0_, hargs, rfl, rfl, h0, r0⟩ := trodAll_cons hA
  obtain ⟨v1, vs1, d1, ds1, p1, p1_, rfl, rfl, rfl, h1, r1⟩ := trodAll_cons r0
  obtain ⟨v2, vs2, d2, ds2, p2, p2_, rfl, rfl, rfl, h2, r2⟩ := trodAll_cons r1
  obtain ⟨rfl, rfl, rfl⟩ := trodAll_nil r2
  obtain rfl : args = #[v0, v1, v2] := by cases args; simp_all
  obtain ⟨rfl, rfl⟩ := trodVars_none hV
  obtain ⟨cs0, rfl, _⟩ := okWide_struct Tryz.underlying24 (hval 0 24 v0 rfl rfl)
  obtain ⟨fu0, hf0⟩ := h0
  obtain ⟨a_, aWA, awn, awc, aTA, atn, atc, e0, aW, aT⟩ := decOutl hf0
  obtain rfl : cs0 = #[.int .i64 a_.n, .slice aWA awn awc, .slice aTA atn atc] := by cases cs0; simpa [Value.cells] using e0
  obtain ⟨cs1, rfl, _⟩ := okWide_struct Tryz.underlying24 (hval 1 24 v1 rfl rfl)
  obtain ⟨fu1, hf1⟩ := h1
  obtain ⟨b_, bWA, bwn, bwc, bTA, btn, btc, e1, bW, bT⟩ := decOutl hf1
  obtain rfl : cs1 = #[.int .i64 b_.n, .slice bWA bwn bwc, .slice bTA btn btc] := by cases cs1; simpa [Value.cells] using e1
  obtain ⟨n_, rfl, rfl, rfl, wf2⟩ := open_int Tryz.underlying3 (hval 2 3 v2 rfl rfl) h2
  have sz0 := outl_sized hf0 (weights_arg hsz (j := 0) rfl rfl)
  have sz1 := outl_sized hf1 (weights_arg hsz (j := 1) rfl rfl)
  clear hA0 hval0
  simp only [List.append_nil] at hW'
  refine (edgePairs_of a_ aWA awn awc aTA atn atc b_ bWA bwn bwc bTA btn btc n_ W ⟨sz0.1, sz0.2, sz1.1, sz1.2⟩ aW aT bW bT).mono fun e W' ⟨he, hg⟩ => ?_
  subst he
  exact ⟨_, rfl, law_kept (pa := _) (pv := []) hW' hg (by simp) (fun _ _ _ => (trodAll_cons_mk (shut_bool Tryz.underlying4 _) trodAll_mk0)) (fun sp hsp => args_kept hAk hg (by rw [Tryz.params10]; exact fun t ht => of_decide_eq_true (List.all_eq_true.1 (by kernel_rfl : [24, 24, 3].all (fun t => decide (t < Tryz.prog.types.size)) = true) t ht)) sp (fun p hp => hsp p (by simpa using hp))) (fun _ _ => rfl) (ok_one (by kernel_rfl) rfl (okWide_bool_mk Tryz.underlying4 _))⟩

/-! ### The closed facts, each on its own (one declaration over all of them outgrows the lid) -/
theorem both {a b : Bool} (h : a = true) (g : b = true) : (a && b) = true := by rw [h, g]; rfl
theorem k1 : (Rows.edgePairsRow.wf (OpenSpec.ofChange Rows.edgePairsSpec)) = true := by kernel_rfl
theorem k2 : (laidOutB Tryz.prog) = true := by kernel_rfl
theorem k3 : (mapsRowed Tryz.prog) = true := by kernel_rfl
theorem k4 : (Tryz.f10.params.all (Tryz.prog.readableRec ·)) = true := by kernel_rfl
theorem k5 : (namedTie Tryz.prog Rows.edgePairsRow.named Rows.edgePairsSpec.vars) = true := by kernel_rfl
theorem k6 : ((Rows.edgePairsRow.stops == [])) = true := by kernel_rfl
theorem k7 : ((Tryz.prog.stops == [])) = true := by kernel_rfl
theorem k8 : ((Rows.edgePairsRow.knobs == [])) = true := by kernel_rfl
theorem k9 : ((Tryz.prog.stopKnobs == [])) = true := by kernel_rfl
theorem k10 : ((Rows.edgePairsRow.inPlace == Tryz.prog.inPlace 10)) = true := by kernel_rfl
theorem k11 : ((Rows.edgePairsRow.unfollowed == Tryz.prog.unfollowed 10)) = true := by kernel_rfl
theorem k12 : ((Rows.edgePairsRow.recurses == Tryz.prog.recurses 10)) = true := by kernel_rfl
theorem k13 : ((Rows.edgePairsRow.named == Tryz.prog.varsNamed 10)) = true := by kernel_rfl
theorem k14 : ((Rows.edgePairsRow.maps == (Tryz.f10.params.toList ++ Rows.edgePairsSpec.plain.varTypes Tryz.prog).any (Tryz.prog.mapsRec ·))) = true := by kernel_rfl
theorem k15 : ((Rows.edgePairsRow.ifaces == (Tryz.f10.params.toList ++ Rows.edgePairsSpec.plain.varTypes Tryz.prog).any (Tryz.prog.ifacesRec ·))) = true := by kernel_rfl
theorem k16 : ((Rows.edgePairsRow.mapsOut == Tryz.prog.mapsAmong Tryz.f10.resultTypes.toList)) = true := by kernel_rfl
theorem k17 : ((Rows.edgePairsRow.loops == (Tryz.f10.params.toList ++ Rows.edgePairsSpec.plain.varTypes Tryz.prog).any (Tryz.prog.loopsFrom ·))) = true := by kernel_rfl
theorem k18 : ((Rows.edgePairsRow.wideKeys == (Tryz.f10.params.toList ++ Rows.edgePairsSpec.plain.varTypes Tryz.prog ++ Tryz.f10.resultTypes.toList).any (Tryz.prog.wideKeysFrom ·))) = true := by kernel_rfl
theorem k19 : (Rows.edgePairsSpec.vars.all (Tryz.prog.varReadable ·)) = true := by kernel_rfl
theorem k20 : (Tryz.f10.resultTypes.all (fun t => Tryz.prog.readableRec t && decide (t < Tryz.prog.types.size))) = true := by kernel_rfl
theorem k21 : ((Rows.edgePairsRow.ifacesOut == Tryz.f10.resultTypes.toList.any (Tryz.prog.ifacesRec ·))) = true := by kernel_rfl
theorem k22 : ((Rows.edgePairsRow.loopsOut == Tryz.f10.resultTypes.toList.any (Tryz.prog.loopsFrom ·))) = true := by kernel_rfl
theorem k23 : ((Rows.edgePairsRow.plainKeys == Tryz.prog.plainKeys)) = true := by kernel_rfl
theorem k24 : (Rows.edgePairsRow.shortTexts.isNone) = true := by kernel_rfl
theorem k25 : (Tryz.prog.stopsHeard) = true := by kernel_rfl
theorem k26 : (Tryz.prog.mayEnter) = true := by kernel_rfl
theorem k27 : ((Rows.edgePairsRow.lifted == Tryz.prog.liftsFinal)) = true := by kernel_rfl
theorem k28 : ((Tryz.prog.make == some Rows.edgePairsRow.make)) = true := by kernel_rfl
theorem k29 : ((Rows.edgePairsRow.kinds == (if Rows.edgePairsRow.domain.isEmpty then [] else Tryz.f10.params.toList.map fun t => match Tryz.prog.underlying t with | some (.int k) => some k | _ => none))) = true := by kernel_rfl
theorem k30 : ((Rows.edgePairsRow.pinned == Rows.edgePairsRow.pinnedBy)) = true := by kernel_rfl
theorem k31 : ((Rows.edgePairsRow.veiled == (Tryz.f10.params.toList ++ Rows.edgePairsSpec.plain.varTypes Tryz.prog ++ Tryz.f10.resultTypes.toList).any (Tryz.prog.veiledRec ·))) = true := by kernel_rfl
theorem k32 : (Rows.edgePairsRow.veiledFits Tryz.prog Tryz.f10.params.toList (Tryz.f10.params.toList ++ Rows.edgePairsSpec.plain.varTypes Tryz.prog ++ Tryz.f10.resultTypes.toList)) = true := by kernel_rfl
set_option maxRecDepth 100000 in
theorem facts : joinedFacts Tryz.prog 10 Tryz.f10 Rows.edgePairsSpec Rows.edgePairsRow = true :=
  (both (both (both (both (both (both (both (both (both (both (both (both (both (both (both (both (both (both (both (both (both (both (both (both (both (both (both (both (both (both (both k1 k2) k3) k4) k5) k6) k7) k8) k9) k10) k11) k12) k13) k14) k15) k16) k17) k18) k19) k20) k21) k22) k23) k24) k25) k26) k27) k28) k29) k30) k31) k32)
theorem hfn : Tryz.prog.funcNamed Rows.edgePairsRow.func = some 10 := by kernel_rfl
theorem hwr : Tryz.f10.isWrapper Tryz.prog Rows.edgePairsRow.wrapper Rows.edgePairsRow.mainSum := by unfold Func.isWrapper; first | (rw [if_pos (by decide +kernel)]; kernel_rfl) | (rw [if_neg (by decide +kernel)]; exact ⟨rfl, rfl⟩)
theorem hin : Tryz.f10.isInstance Tryz.prog Rows.edgePairsRow.origin Rows.edgePairsRow.targs := of_decide_eq_true (by kernel_rfl)

theorem over : Rows.edgePairsRow.holds Tryz.pinned (OpenSpec.ofChange Rows.edgePairsSpec) :=
  OpenClaim.holds_of_wide 10 Tryz.f10 rfl rfl rfl rfl rfl rfl rfl ⟨rfl, rfl, rfl, rfl, rfl⟩ rfl rfl rfl rfl rfl hfn Tryz.func10 facts hin hwr
    (fun os started H enc _ => lifted os started H enc)

/-- the given statement -/
theorem proved : Rows.EdgePairsSaid :=
  over
#print axioms proved
end Go.Proofs.YtccabpahfmoamaaGreat.edgePairs


/- What is proved: the law EdgeMeets: whether stretches meet, a placement or a clash with the fewest bounds, as the reference says. Conditions: none. -/
import Derived.Test.YtccabpahfmoamaaGreatRows
import Derived.Test.YtccabpahfmoamaaGreatME27
import Derived.Test.YtccabpahfmoamaaGreatME52
import Derived.WalkKit
import Derived.ProofKit
import Derived.OpenShut
namespace Go.Proofs.YtccabpahfmoamaaGreat.edgeMeets
open Go.ChangeShapes Go.WideShapes Go.ChangeAt Go.RowKit

theorem own : ownKnob Tryz.prog.godebug = none := by kernel_rfl

/-! ### The row's step -/
set_option maxRecDepth 100000 in
set_option maxHeartbeats 1000000 in
theorem lifted (os : Os) (started : os.Started) (H : Type) (enc : TypeId × Value → H) :
    ReturnsInHanded {} Tryz.checked os 13 .any (Rows.edgeMeetsSpec.pre6 enc Tryz.prog Tryz.f13 Rows.edgeMeetsRow.domain false) (Rows.edgeMeetsSpec.post enc Tryz.prog Tryz.f13 false true false false) := by
  refine returnsInHanded_of_change (C := Tryz.checked) own started (by kernel_rfl) Tryz.func13
    (ChangeSpec.witness6 (enc := enc) (C := Tryz.checked) false ⟨#[], #[.agg #[.int .i64 0, .slice none 0 0, .slice none 0 0], .agg #[.int .i64 0, .slice none 0 0, .slice none 0 0], .agg #[.int .i64 0, .int .i64 0, .int .i64 0, .int .i64 0]], []⟩ 8 (by kernel_rfl) (by kernel_rfl) (by kernel_rfl) (by kernel_rfl)) ?_
  intro W base args ds gs before hval0 hW hcnd _
  have hval : ∀ (j : Nat) t v, Tryz.f13.params[j]? = some t → args[j]? = some v → Value.okWide Tryz.prog W .any base t v := hval0
  have hW' := hW
  obtain ⟨p, q, hA0, hV, rfl, hfz, hnd⟩ := hW
  have hA : DataW.TrodAll enc Tryz.prog W 0 (fun _ => true) true Tryz.f13.params.toList args.toList ds p := hA0
  have hAk := hA
  rw [Tryz.params13] at hA hval
  obtain ⟨v0, vs0, d0, ds0, p0, p0_, hargs, rfl, rfl, h0, r0⟩ := trodAll_cons hA
  obtain ⟨v1, vs1, d1, ds1, p1, p1_, rfl, rfl, rfl, h1, r1⟩ := trodAll_cons r0
  obtain ⟨v2, vs2, d2, ds2, p2, p2_, rfl, rfl, rfl, h2, r2⟩ := trodAll_cons r1
  obtain ⟨rfl, rfl, rfl⟩ := trodAll_nil r2
  obtain rfl : args = #[v0, v1, v2] := by cases args; simp_all
  obtain ⟨rfl, rfl⟩ := trodVars_none hV
  obtain ⟨cs0, rfl, _⟩ := okWide_struct Tryz.underlying24 (hval 0 24 v0 rfl rfl)
  obtain ⟨fu0, hf0⟩ := h0
  obtain ⟨a_, aWA, awn, awc, aTA, atn, atc, e0, aW, aT⟩ := decOutl hf0
  obtain rfl : cs0 = #[.int .i64 a_.n, .slice aWA awn awc, .slice aTA atn atc] := by cases cs0; simpa [Value.cells] using e0
  obtain ⟨cs1, rfl, _⟩ := okWide_struct Tryz.underlying24 (hval 1 24 v1 rfl rfl)
  obtain ⟨fu1, hf1⟩ := h1
  obtain ⟨b_, bWA, bwn, bwc, bTA, btn, btc, e1, bW, bT⟩ := decOutl hf1
  obtain rfl : cs1 = #[.int .i64 b_.n, .slice bWA bwn bwc, .slice bTA btn btc] := by cases cs1; simpa [Value.cells] using e1
  obtain ⟨cs2, rfl, _⟩ := okWide_struct Tryz.underlying28 (hval 2 28 v2 rfl rfl)
  obtain ⟨fu2, hf2⟩ := h2
  obtain ⟨p_, e2⟩ := decPairing hf2
  obtain rfl : cs2 = #[.int .i64 p_.a.lo, .int .i64 p_.a.hi, .int .i64 p_.b.lo, .int .i64 p_.b.hi] := by cases cs2; simpa [Value.cells] using e2
  clear hA0 hval0
  simp only [List.append_nil] at hW'
  refine (edgeMeets_of a_ aWA awn awc aTA atn atc b_ bWA bwn bwc bTA btn btc p_ W aW aT bW bT).mono fun e W' ⟨he, hg⟩ => ?_
  subst he
  exact ⟨_, rfl, law_kept (pa := _) (pv := []) hW' hg (by simp) (fun _ _ _ => (trodAll_cons_mk (shut_bool Tryz.underlying4 _) trodAll_mk0)) (fun sp hsp => args_kept hAk hg (by rw [Tryz.params13]; exact fun t ht => of_decide_eq_true (List.all_eq_true.1 (by kernel_rfl : [24, 24, 28].all (fun t => decide (t < Tryz.prog.types.size)) = true) t ht)) sp (fun p hp => hsp p (by simpa using hp))) (fun _ _ => rfl) (ok_one (by kernel_rfl) rfl (okWide_bool_mk Tryz.underlying4 _))⟩

/-! ### The closed facts, each on its own (one declaration over all of them outgrows the lid) -/
theorem both {a b : Bool} (h : a = true) (g : b = true) : (a && b) = true := by rw [h, g]; rfl
theorem k1 : (Rows.edgeMeetsRow.wf (OpenSpec.ofChange Rows.edgeMeetsSpec)) = true := by kernel_rfl
theorem k2 : (laidOutB Tryz.prog) = true := by kernel_rfl
theorem k3 : (mapsRowed Tryz.prog) = true := by kernel_rfl
theorem k4 : (Tryz.f13.params.all (Tryz.prog.readableRec ·)) = true := by kernel_rfl
theorem k5 : (namedTie Tryz.prog Rows.edgeMeetsRow.named Rows.edgeMeetsSpec.vars) = true := by kernel_rfl
theorem k6 : ((Rows.edgeMeetsRow.stops == [])) = true := by kernel_rfl
theorem k7 : ((Tryz.prog.stops == [])) = true := by kernel_rfl
theorem k8 : ((Rows.edgeMeetsRow.knobs == [])) = true := by kernel_rfl
theorem k9 : ((Tryz.prog.stopKnobs == [])) = true := by kernel_rfl
theorem k10 : ((Rows.edgeMeetsRow.inPlace == Tryz.prog.inPlace 13)) = true := by kernel_rfl
theorem k11 : ((Rows.edgeMeetsRow.unfollowed == Tryz.prog.unfollowed 13)) = true := by kernel_rfl
theorem k12 : ((Rows.edgeMeetsRow.recurses == Tryz.prog.recurses 13)) = true := by kernel_rfl
theorem k13 : ((Rows.edgeMeetsRow.named == Tryz.prog.varsNamed 13)) = true := by kernel_rfl
theorem k14 : ((Rows.edgeMeetsRow.maps == (Tryz.f13.params.toList ++ Rows.edgeMeetsSpec.plain.varTypes Tryz.prog).any (Tryz.prog.mapsRec ·))) = true := by kernel_rfl
theorem k15 : ((Rows.edgeMeetsRow.ifaces == (Tryz.f13.params.toList ++ Rows.edgeMeetsSpec.plain.varTypes Tryz.prog).any (Tryz.prog.ifacesRec ·))) = true := by kernel_rfl
theorem k16 : ((Rows.edgeMeetsRow.mapsOut == Tryz.prog.mapsAmong Tryz.f13.resultTypes.toList)) = true := by kernel_rfl
theorem k17 : ((Rows.edgeMeetsRow.loops == (Tryz.f13.params.toList ++ Rows.edgeMeetsSpec.plain.varTypes Tryz.prog).any (Tryz.prog.loopsFrom ·))) = true := by kernel_rfl
theorem k18 : ((Rows.edgeMeetsRow.wideKeys == (Tryz.f13.params.toList ++ Rows.edgeMeetsSpec.plain.varTypes Tryz.prog ++ Tryz.f13.resultTypes.toList).any (Tryz.prog.wideKeysFrom ·))) = true := by kernel_rfl
theorem k19 : (Rows.edgeMeetsSpec.vars.all (Tryz.prog.varReadable ·)) = true := by kernel_rfl
theorem k20 : (Tryz.f13.resultTypes.all (fun t => Tryz.prog.readableRec t && decide (t < Tryz.prog.types.size))) = true := by kernel_rfl
theorem k21 : ((Rows.edgeMeetsRow.ifacesOut == Tryz.f13.resultTypes.toList.any (Tryz.prog.ifacesRec ·))) = true := by kernel_rfl
theorem k22 : ((Rows.edgeMeetsRow.loopsOut == Tryz.f13.resultTypes.toList.any (Tryz.prog.loopsFrom ·))) = true := by kernel_rfl
theorem k23 : ((Rows.edgeMeetsRow.plainKeys == Tryz.prog.plainKeys)) = true := by kernel_rfl
theorem k24 : (Rows.edgeMeetsRow.shortTexts.isNone) = true := by kernel_rfl
theorem k25 : (Tryz.prog.stopsHeard) = true := by kernel_rfl
theorem k26 : (Tryz.prog.mayEnter) = true := by kernel_rfl
theorem k27 : ((Rows.edgeMeetsRow.lifted == Tryz.prog.liftsFinal)) = true := by kernel_rfl
theorem k28 : ((Tryz.prog.make == some Rows.edgeMeetsRow.make)) = true := by kernel_rfl
theorem k29 : ((Rows.edgeMeetsRow.kinds == (if Rows.edgeMeetsRow.domain.isEmpty then [] else Tryz.f13.params.toList.map fun t => match Tryz.prog.underlying t with | some (.int k) => some k | _ => none))) = true := by kernel_rfl
theorem k30 : ((Rows.edgeMeetsRow.pinned == Rows.edgeMeetsRow.pinnedBy)) = true := by kernel_rfl
theorem k31 : ((Rows.edgeMeetsRow.veiled == (Tryz.f13.params.toList ++ Rows.edgeMeetsSpec.plain.varTypes Tryz.prog ++ Tryz.f13.resultTypes.toList).any (Tryz.prog.veiledRec ·))) = true := by kernel_rfl
theorem k32 : (Rows.edgeMeetsRow.veiledFits Tryz.prog Tryz.f13.params.toList (Tryz.f13.params.toList ++ Rows.edgeMeetsSpec.plain.varTypes Tryz.prog ++ Tryz.f13.resultTypes.toList)) = true := by kernel_rfl
set_option maxRecDepth 100000 in
theorem facts : joinedFacts Tryz.prog 13 Tryz.f13 Rows.edgeMeetsSpec Rows.edgeMeetsRow = true :=
  (both (both (both (both (both (both (both (both (both (both (both (both (both (both (both (both (both (both (both (both (both (both (both (both (both (both (both (both (both (both (both k1 k2) k3) k4) k5) k6) k7) k8) k9) k10) k11) k12) k13) k14) k15) k16) k17) k18) k19) k20) k21) k22) k23) k24) k25) k26) k27) k28) k29) k30) k31) k32)
theorem hfn : Tryz.prog.funcNamed Rows.edgeMeetsRow.func = some 13 := by kernel_rfl
theorem hwr : Tryz.f13.isWrapper Tryz.prog Rows.edgeMeetsRow.wrapper Rows.edgeMeetsRow.mainSum := by unfold Func.isWrapper; first | (rw [if_pos (by decide +kernel)]; kernel_rfl) | (rw [if_neg (by decide +kernel)]; exact ⟨rfl, rfl⟩)
theorem hin : Tryz.f13.isInstance Tryz.prog Rows.edgeMeetsRow.origin Rows.edgeMeetsRow.targs := of_decide_eq_true (by kernel_rfl)

theorem over : Rows.edgeMeetsRow.holds Tryz.pinned (OpenSpec.ofChange Rows.edgeMeetsSpec) :=
  OpenClaim.holds_of_wide 13 Tryz.f13 rfl rfl rfl rfl rfl rfl rfl ⟨rfl, rfl, rfl, rfl, rfl⟩ rfl rfl rfl rfl rfl hfn Tryz.func13 facts hin hwr
    (fun os started H enc _ => lifted os started H enc)

/-- the given statement -/
theorem proved : Rows.EdgeMeetsSaid :=
  over
#print axioms proved
end Go.Proofs.YtccabpahfmoamaaGreat.edgeMeets


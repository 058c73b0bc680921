/- What is proved: the law StratumProofs: for every list of at most 20 traces with at most 5 movable places, bonds, a number and cuts, the reference accepts Proof for the least cost, and CheckProof returns what the reference returns. Conditions: none. -/
import Derived.Test.YtelnkflmnbhclaaGreatRows
import Derived.Test.YtelnkflmnbhclaaGreatPfK01
import Derived.Test.YtelnkflmnbhclaaGreatPfH01
import Derived.Test.YtelnkflmnbhclaaGreatPfK24
import Derived.Test.YtelnkflmnbhclaaGreatPfH11
import Derived.Test.YtelnkflmnbhclaaGreatPfH24
import Derived.WalkKit
import Derived.ProofKit
import Derived.OpenShut
namespace Go.Proofs.YtelnkflmnbhclaaGreat.stratumProofs
open Go.ChangeShapes Go.WideShapes Go.ChangeAt Go.RowKit

theorem own : ownKnob Tryz.prog.godebug = none := by kernel_rfl

/-! ### The row's step -/
set_option maxRecDepth 100000 in
set_option maxHeartbeats 1000000 in
theorem lifted (os : Os) (started : os.Started) (H : Type) (enc : TypeId × Value → H) :
    ReturnsInHanded {} Tryz.checked os 17 .any (Rows.stratumProofsSpec.pre6 enc Tryz.prog Tryz.f17 Rows.stratumProofsRow.domain false) (Rows.stratumProofsSpec.post enc Tryz.prog Tryz.f17 false true false false) := by
  refine returnsInHanded_of_change (C := Tryz.checked) own started (by kernel_rfl) Tryz.func17
    (ChangeSpec.witness6 (enc := enc) (C := Tryz.checked) false ⟨#[], #[.slice none 0 0, .int .i64 0, .slice none 0 0, .int .i64 0, .slice none 0 0], []⟩ 8 (by kernel_rfl) (by kernel_rfl) (by kernel_rfl) (by kernel_rfl)) ?_
  intro W base args ds gs before hval0 hW hcnd _
  have hval : ∀ (j : Nat) t v, Tryz.f17.params[j]? = some t → args[j]? = some v → Value.okWide Tryz.prog W .any base t v := hval0
  have hW' := hW
  obtain ⟨p, q, hA0, hV, rfl, hfz, hnd⟩ := hW
  have hA : DataW.TrodAll enc Tryz.prog W 0 (fun _ => true) true Tryz.f17.params.toList args.toList ds p := hA0
  have hAk := hA
  rw [Tryz.params17] at hA hval
  obtain ⟨v0, vs0, d0, ds0, p0, p0_, hargs, rfl, rfl, h0, r0⟩ := trodAll_cons hA
  obtain ⟨v1, vs1, d1, ds1, p1, p1_, rfl, rfl, rfl, h1, r1⟩ := trodAll_cons r0
  obtain ⟨v2, vs2, d2, ds2, p2, p2_, rfl, rfl, rfl, h2, r2⟩ := trodAll_cons r1
  obtain ⟨v3, vs3, d3, ds3, p3, p3_, rfl, rfl, rfl, h3, r3⟩ := trodAll_cons r2
  obtain ⟨v4, vs4, d4, ds4, p4, p4_, rfl, rfl, rfl, h4, r4⟩ := trodAll_cons r3
  obtain ⟨rfl, rfl, rfl⟩ := trodAll_nil r4
  obtain rfl : args = #[v0, v1, v2, v3, v4] := by cases args; simp_all
  obtain ⟨rfl, rfl⟩ := trodVars_none hV
  obtain ⟨a0_, n0_, c0_, rfl⟩ := okWide_slice Tryz.underlying23 (hval 0 23 v0 rfl rfl)
  obtain ⟨fu0, hf0⟩ := h0
  obtain ⟨lA, ln, lc, l, e0, len0, rd0⟩ := open_rd (encA := encTrace) (k := 10) Tryz.underlying23 (by kernel_rfl) (by omega) (fun _ => rfl) (fun _ _ _ h => decTrace h) hf0
  cases e0
  obtain ⟨known, rfl, rfl, rfl, wf1⟩ := open_int Tryz.underlying3 (hval 1 3 v1 rfl rfl) h1
  obtain ⟨a2_, n2_, c2_, rfl⟩ := okWide_slice Tryz.underlying35 (hval 2 35 v2 rfl rfl)
  obtain ⟨fu2, hf2⟩ := h2
  obtain ⟨bA, bn, bc, b, e2, len2, rd2⟩ := open_rd (encA := encBond) (k := 5) Tryz.underlying35 (by kernel_rfl) (by omega) (fun _ => rfl) (fun _ _ _ h => decBond h) hf2
  cases e2
  obtain ⟨n, rfl, rfl, rfl, wf3⟩ := open_int Tryz.underlying3 (hval 3 3 v3 rfl rfl) h3
  obtain ⟨a4_, n4_, c4_, rfl⟩ := okWide_slice Tryz.underlying91 (hval 4 91 v4 rfl rfl)
  obtain ⟨fu4, hf4⟩ := h4
  obtain ⟨cuA, cun, cuc, cu, e4, at4, rd4, lk4⟩ := open_cuts hf4
  cases e4
  clear hA0 hval0
  simp only [List.append_nil] at hW'
  refine (stratumProofs_of _ _ _ l len0 known _ _ _ b len2 n _ _ _ cu W at4 rd0 rd2 rd4 lk4).mono fun e W' ⟨he, hg⟩ => ?_
  subst he
  exact ⟨_, rfl, law_kept (pa := _) (pv := []) hW' hg (by simp) (fun _ _ _ => (trodAll_cons_mk (shut_bool Tryz.underlying4 _) trodAll_mk0)) (fun sp hsp => args_kept hAk hg (by rw [Tryz.params17]; exact fun t ht => of_decide_eq_true (List.all_eq_true.1 (by kernel_rfl : [23, 3, 35, 3, 91].all (fun t => decide (t < Tryz.prog.types.size)) = true) t ht)) sp (fun p hp => hsp p (by simpa using hp))) (fun _ _ => rfl) (ok_one (by kernel_rfl) rfl (okWide_bool_mk Tryz.underlying4 _))⟩

/-! ### The closed facts, each on its own (one declaration over all of them outgrows the lid) -/
theorem both {a b : Bool} (h : a = true) (g : b = true) : (a && b) = true := by rw [h, g]; rfl
theorem k1 : (Rows.stratumProofsRow.wf (OpenSpec.ofChange Rows.stratumProofsSpec)) = true := by kernel_rfl
theorem k2 : (laidOutB Tryz.prog) = true := by kernel_rfl
theorem k3 : (mapsRowed Tryz.prog) = true := by kernel_rfl
theorem k4 : (Tryz.f17.params.all (Tryz.prog.readableRec ·)) = true := by kernel_rfl
theorem k5 : (namedTie Tryz.prog Rows.stratumProofsRow.named Rows.stratumProofsSpec.vars) = true := by kernel_rfl
theorem k6 : ((Rows.stratumProofsRow.stops == [])) = true := by kernel_rfl
theorem k7 : ((Tryz.prog.stops == [])) = true := by kernel_rfl
theorem k8 : ((Rows.stratumProofsRow.knobs == [])) = true := by kernel_rfl
theorem k9 : ((Tryz.prog.stopKnobs == [])) = true := by kernel_rfl
theorem k10 : ((Rows.stratumProofsRow.inPlace == Tryz.prog.inPlace 17)) = true := by kernel_rfl
theorem k11 : ((Rows.stratumProofsRow.unfollowed == Tryz.prog.unfollowed 17)) = true := by kernel_rfl
theorem k12 : ((Rows.stratumProofsRow.recurses == Tryz.prog.recurses 17)) = true := by kernel_rfl
theorem k13 : ((Rows.stratumProofsRow.named == Tryz.prog.varsNamed 17)) = true := by kernel_rfl
theorem k14 : ((Rows.stratumProofsRow.maps == (Tryz.f17.params.toList ++ Rows.stratumProofsSpec.plain.varTypes Tryz.prog).any (Tryz.prog.mapsRec ·))) = true := by kernel_rfl
theorem k15 : ((Rows.stratumProofsRow.ifaces == (Tryz.f17.params.toList ++ Rows.stratumProofsSpec.plain.varTypes Tryz.prog).any (Tryz.prog.ifacesRec ·))) = true := by kernel_rfl
theorem k16 : ((Rows.stratumProofsRow.mapsOut == Tryz.prog.mapsAmong Tryz.f17.resultTypes.toList)) = true := by kernel_rfl
theorem k17 : ((Rows.stratumProofsRow.loops == (Tryz.f17.params.toList ++ Rows.stratumProofsSpec.plain.varTypes Tryz.prog).any (Tryz.prog.loopsFrom ·))) = true := by kernel_rfl
theorem k18 : ((Rows.stratumProofsRow.wideKeys == (Tryz.f17.params.toList ++ Rows.stratumProofsSpec.plain.varTypes Tryz.prog ++ Tryz.f17.resultTypes.toList).any (Tryz.prog.wideKeysFrom ·))) = true := by kernel_rfl
theorem k19 : (Rows.stratumProofsSpec.vars.all (Tryz.prog.varReadable ·)) = true := by kernel_rfl
theorem k20 : (Tryz.f17.resultTypes.all (fun t => Tryz.prog.readableRec t && decide (t < Tryz.prog.types.size))) = true := by kernel_rfl
theorem k21 : ((Rows.stratumProofsRow.ifacesOut == Tryz.f17.resultTypes.toList.any (Tryz.prog.ifacesRec ·))) = true := by kernel_rfl
theorem k22 : ((Rows.stratumProofsRow.loopsOut == Tryz.f17.resultTypes.toList.any (Tryz.prog.loopsFrom ·))) = true := by kernel_rfl
theorem k23 : ((Rows.stratumProofsRow.plainKeys == Tryz.prog.plainKeys)) = true := by kernel_rfl
theorem k24 : (Rows.stratumProofsRow.shortTexts.isNone) = true := by kernel_rfl
theorem k25 : (Tryz.prog.stopsHeard) = true := by kernel_rfl
theorem k26 : (Tryz.prog.mayEnter) = true := by kernel_rfl
theorem k27 : ((Rows.stratumProofsRow.lifted == Tryz.prog.liftsFinal)) = true := by kernel_rfl
theorem k28 : ((Tryz.prog.make == some Rows.stratumProofsRow.make)) = true := by kernel_rfl
theorem k29 : ((Rows.stratumProofsRow.kinds == (if Rows.stratumProofsRow.domain.isEmpty then [] else Tryz.f17.params.toList.map fun t => match Tryz.prog.underlying t with | some (.int k) => some k | _ => none))) = true := by kernel_rfl
theorem k30 : ((Rows.stratumProofsRow.pinned == Rows.stratumProofsRow.pinnedBy)) = true := by kernel_rfl
theorem k31 : ((Rows.stratumProofsRow.veiled == (Tryz.f17.params.toList ++ Rows.stratumProofsSpec.plain.varTypes Tryz.prog ++ Tryz.f17.resultTypes.toList).any (Tryz.prog.veiledRec ·))) = true := by kernel_rfl
theorem k32 : (Rows.stratumProofsRow.veiledFits Tryz.prog Tryz.f17.params.toList (Tryz.f17.params.toList ++ Rows.stratumProofsSpec.plain.varTypes Tryz.prog ++ Tryz.f17.resultTypes.toList)) = true := by kernel_rfl
set_option maxRecDepth 100000 in
theorem facts : joinedFacts Tryz.prog 17 Tryz.f17 Rows.stratumProofsSpec Rows.stratumProofsRow = true :=
  (both (both (both (both (both (both (both (both (both (both (both (both (both (both (both (both (both (both (both (both (both (both (both (both (both (both (both (both (both (both (both k1 k2) k3) k4) k5) k6) k7) k8) k9) k10) k11) k12) k13) k14) k15) k16) k17) k18) k19) k20) k21) k22) k23) k24) k25) k26) k27) k28) k29) k30) k31) k32)
theorem hfn : Tryz.prog.funcNamed Rows.stratumProofsRow.func = some 17 := by kernel_rfl
theorem hwr : Tryz.f17.isWrapper Tryz.prog Rows.stratumProofsRow.wrapper Rows.stratumProofsRow.mainSum := by unfold Func.isWrapper; first | (rw [if_pos (by decide +kernel)]; kernel_rfl) | (rw [if_neg (by decide +kernel)]; exact ⟨rfl, rfl⟩)
theorem hin : Tryz.f17.isInstance Tryz.prog Rows.stratumProofsRow.origin Rows.stratumProofsRow.targs := of_decide_eq_true (by kernel_rfl)

theorem over : Rows.stratumProofsRow.holds Tryz.pinned (OpenSpec.ofChange Rows.stratumProofsSpec) :=
  OpenClaim.holds_of_wide 17 Tryz.f17 rfl rfl rfl rfl rfl rfl rfl ⟨rfl, rfl, rfl, rfl, rfl⟩ rfl rfl rfl rfl rfl hfn Tryz.func17 facts hin hwr
    (fun os started H enc _ => lifted os started H enc)

/-- the given statement -/
theorem proved : Rows.StratumProofsSaid :=
  over
#print axioms proved
end Go.Proofs.YtelnkflmnbhclaaGreat.stratumProofs


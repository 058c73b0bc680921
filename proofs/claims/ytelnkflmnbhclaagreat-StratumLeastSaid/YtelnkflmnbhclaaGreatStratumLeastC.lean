/- What is proved: the law StratumLeast: with the set of Cheapest there are dates; if CheckProof accepts some list for a number, no set that is enough costs less. Conditions: none. -/
import Derived.Test.YtelnkflmnbhclaaGreatRows
import Derived.Test.YtelnkflmnbhclaaGreatK01
import Derived.Test.YtelnkflmnbhclaaGreatLe01
import Derived.Test.YtelnkflmnbhclaaGreatK24
import Derived.Test.YtelnkflmnbhclaaGreatLe11
import Derived.Test.YtelnkflmnbhclaaGreatLe22
import Derived.WalkKit
import Derived.ProofKit
import Derived.OpenShut
namespace Go.Proofs.YtelnkflmnbhclaaGreat.stratumLeast
open Go.ChangeShapes Go.WideShapes Go.ChangeAt Go.RowKit

theorem own : ownKnob Tryz.prog.godebug = none := by kernel_rfl

/-! ### The row's step -/
set_option maxRecDepth 100000 in
set_option maxHeartbeats 1000000 in
theorem lifted (os : Os) (started : os.Started) (H : Type) (enc : TypeId × Value → H) :
    ReturnsInHanded {} Tryz.checked os 16 .any (Rows.stratumLeastSpec.pre6 enc Tryz.prog Tryz.f16 Rows.stratumLeastRow.domain false) (Rows.stratumLeastSpec.post enc Tryz.prog Tryz.f16 false true false false) := by
  refine returnsInHanded_of_change (C := Tryz.checked) own started (by kernel_rfl) Tryz.func16
    (ChangeSpec.witness6 (enc := enc) (C := Tryz.checked) false ⟨#[], #[.slice none 0 0, .int .i64 0, .slice none 0 0, .slice none 0 0, .int .i64 0, .slice none 0 0], []⟩ 8 (by kernel_rfl) (by kernel_rfl) (by kernel_rfl) (by kernel_rfl)) ?_
  intro W base args ds gs before hval0 hW hcnd _
  have hval : ∀ (j : Nat) t v, Tryz.f16.params[j]? = some t → args[j]? = some v → Value.okWide Tryz.prog W .any base t v := hval0
  have hW' := hW
  obtain ⟨p, q, hA0, hV, rfl, hfz, hnd⟩ := hW
  have hA : DataW.TrodAll enc Tryz.prog W 0 (fun _ => true) true Tryz.f16.params.toList args.toList ds p := hA0
  have hAk := hA
  rw [Tryz.params16] at hA hval
  obtain ⟨v0, vs0, d0, ds0, p0, p0_, hargs, rfl, rfl, h0, r0⟩ := trodAll_cons hA
  obtain ⟨v1, vs1, d1, ds1, p1, p1_, rfl, rfl, rfl, h1, r1⟩ := trodAll_cons r0
  obtain ⟨v2, vs2, d2, ds2, p2, p2_, rfl, rfl, rfl, h2, r2⟩ := trodAll_cons r1
  obtain ⟨v3, vs3, d3, ds3, p3, p3_, rfl, rfl, rfl, h3, r3⟩ := trodAll_cons r2
  obtain ⟨v4, vs4, d4, ds4, p4, p4_, rfl, rfl, rfl, h4, r4⟩ := trodAll_cons r3
  obtain ⟨v5, vs5, d5, ds5, p5, p5_, rfl, rfl, rfl, h5, r5⟩ := trodAll_cons r4
  obtain ⟨rfl, rfl, rfl⟩ := trodAll_nil r5
  obtain rfl : args = #[v0, v1, v2, v3, v4, v5] := by cases args; simp_all
  obtain ⟨rfl, rfl⟩ := trodVars_none hV
  obtain ⟨a0_, n0_, c0_, rfl⟩ := okWide_slice Tryz.underlying23 (hval 0 23 v0 rfl rfl)
  obtain ⟨fu0, hf0⟩ := h0
  obtain ⟨lA, ln, lc, l, e0, len0, rd0⟩ := open_rd (encA := encTrace) (k := 10) Tryz.underlying23 (by kernel_rfl) (by omega) (fun _ => rfl) (fun _ _ _ h => decTrace h) hf0
  cases e0
  obtain ⟨known, rfl, rfl, rfl, wf1⟩ := open_int Tryz.underlying3 (hval 1 3 v1 rfl rfl) h1
  obtain ⟨a2_, n2_, c2_, rfl⟩ := okWide_slice Tryz.underlying35 (hval 2 35 v2 rfl rfl)
  obtain ⟨fu2, hf2⟩ := h2
  obtain ⟨bA, bn, bc, b, e2, len2, rd2⟩ := open_rd (encA := encBond) (k := 5) Tryz.underlying35 (by kernel_rfl) (by omega) (fun _ => rfl) (fun _ _ _ h => decBond h) hf2
  cases e2
  obtain ⟨a3_, n3_, c3_, rfl⟩ := okWide_slice Tryz.underlying30 (hval 3 30 v3 rfl rfl)
  obtain ⟨fu3, hf3⟩ := h3
  obtain ⟨mvA, mvn, mvc, mv, e3, len3, rd3⟩ := open_rd (encA := encPlace) (k := 2) Tryz.underlying30 (by kernel_rfl) (by omega) (fun _ => rfl) (fun _ _ _ h => decPlace h) hf3
  cases e3
  obtain ⟨n, rfl, rfl, rfl, wf4⟩ := open_int Tryz.underlying3 (hval 4 3 v4 rfl rfl) h4
  obtain ⟨a5_, n5_, c5_, rfl⟩ := okWide_slice Tryz.underlying91 (hval 5 91 v5 rfl rfl)
  obtain ⟨fu5, hf5⟩ := h5
  obtain ⟨cuA, cun, cuc, cu, e5, at5, rd5, lk5⟩ := open_cuts hf5
  cases e5
  clear hA0 hval0
  simp only [List.append_nil] at hW'
  refine (stratumLeast_of _ _ _ l len0 known _ _ _ b len2 _ _ _ mv len3 n _ _ _ cu W at5 rd0 rd2 rd3 rd5 lk5).mono fun e W' ⟨he, hg⟩ => ?_
  subst he
  exact ⟨_, rfl, law_kept (pa := _) (pv := []) hW' hg (by simp) (fun _ _ _ => (trodAll_cons_mk (shut_bool Tryz.underlying4 _) trodAll_mk0)) (fun sp hsp => args_kept hAk hg (by rw [Tryz.params16]; exact fun t ht => of_decide_eq_true (List.all_eq_true.1 (by kernel_rfl : [23, 3, 35, 30, 3, 91].all (fun t => decide (t < Tryz.prog.types.size)) = true) t ht)) sp (fun p hp => hsp p (by simpa using hp))) (fun _ _ => rfl) (ok_one (by kernel_rfl) rfl (okWide_bool_mk Tryz.underlying4 _))⟩

/-! ### The closed facts, each on its own (one declaration over all of them outgrows the lid) -/
theorem both {a b : Bool} (h : a = true) (g : b = true) : (a && b) = true := by rw [h, g]; rfl
theorem k1 : (Rows.stratumLeastRow.wf (OpenSpec.ofChange Rows.stratumLeastSpec)) = true := by kernel_rfl
theorem k2 : (laidOutB Tryz.prog) = true := by kernel_rfl
theorem k3 : (mapsRowed Tryz.prog) = true := by kernel_rfl
theorem k4 : (Tryz.f16.params.all (Tryz.prog.readableRec ·)) = true := by kernel_rfl
theorem k5 : (namedTie Tryz.prog Rows.stratumLeastRow.named Rows.stratumLeastSpec.vars) = true := by kernel_rfl
theorem k6 : ((Rows.stratumLeastRow.stops == [])) = true := by kernel_rfl
theorem k7 : ((Tryz.prog.stops == [])) = true := by kernel_rfl
theorem k8 : ((Rows.stratumLeastRow.knobs == [])) = true := by kernel_rfl
theorem k9 : ((Tryz.prog.stopKnobs == [])) = true := by kernel_rfl
theorem k10 : ((Rows.stratumLeastRow.inPlace == Tryz.prog.inPlace 16)) = true := by kernel_rfl
theorem k11 : ((Rows.stratumLeastRow.unfollowed == Tryz.prog.unfollowed 16)) = true := by kernel_rfl
theorem k12 : ((Rows.stratumLeastRow.recurses == Tryz.prog.recurses 16)) = true := by kernel_rfl
theorem k13 : ((Rows.stratumLeastRow.named == Tryz.prog.varsNamed 16)) = true := by kernel_rfl
theorem k14 : ((Rows.stratumLeastRow.maps == (Tryz.f16.params.toList ++ Rows.stratumLeastSpec.plain.varTypes Tryz.prog).any (Tryz.prog.mapsRec ·))) = true := by kernel_rfl
theorem k15 : ((Rows.stratumLeastRow.ifaces == (Tryz.f16.params.toList ++ Rows.stratumLeastSpec.plain.varTypes Tryz.prog).any (Tryz.prog.ifacesRec ·))) = true := by kernel_rfl
theorem k16 : ((Rows.stratumLeastRow.mapsOut == Tryz.prog.mapsAmong Tryz.f16.resultTypes.toList)) = true := by kernel_rfl
theorem k17 : ((Rows.stratumLeastRow.loops == (Tryz.f16.params.toList ++ Rows.stratumLeastSpec.plain.varTypes Tryz.prog).any (Tryz.prog.loopsFrom ·))) = true := by kernel_rfl
theorem k18 : ((Rows.stratumLeastRow.wideKeys == (Tryz.f16.params.toList ++ Rows.stratumLeastSpec.plain.varTypes Tryz.prog ++ Tryz.f16.resultTypes.toList).any (Tryz.prog.wideKeysFrom ·))) = true := by kernel_rfl
theorem k19 : (Rows.stratumLeastSpec.vars.all (Tryz.prog.varReadable ·)) = true := by kernel_rfl
theorem k20 : (Tryz.f16.resultTypes.all (fun t => Tryz.prog.readableRec t && decide (t < Tryz.prog.types.size))) = true := by kernel_rfl
theorem k21 : ((Rows.stratumLeastRow.ifacesOut == Tryz.f16.resultTypes.toList.any (Tryz.prog.ifacesRec ·))) = true := by kernel_rfl
theorem k22 : ((Rows.stratumLeastRow.loopsOut == Tryz.f16.resultTypes.toList.any (Tryz.prog.loopsFrom ·))) = true := by kernel_rfl
theorem k23 : ((Rows.stratumLeastRow.plainKeys == Tryz.prog.plainKeys)) = true := by kernel_rfl
theorem k24 : (Rows.stratumLeastRow.shortTexts.isNone) = true := by kernel_rfl
theorem k25 : (Tryz.prog.stopsHeard) = true := by kernel_rfl
theorem k26 : (Tryz.prog.mayEnter) = true := by kernel_rfl
theorem k27 : ((Rows.stratumLeastRow.lifted == Tryz.prog.liftsFinal)) = true := by kernel_rfl
theorem k28 : ((Tryz.prog.make == some Rows.stratumLeastRow.make)) = true := by kernel_rfl
theorem k29 : ((Rows.stratumLeastRow.kinds == (if Rows.stratumLeastRow.domain.isEmpty then [] else Tryz.f16.params.toList.map fun t => match Tryz.prog.underlying t with | some (.int k) => some k | _ => none))) = true := by kernel_rfl
theorem k30 : ((Rows.stratumLeastRow.pinned == Rows.stratumLeastRow.pinnedBy)) = true := by kernel_rfl
theorem k31 : ((Rows.stratumLeastRow.veiled == (Tryz.f16.params.toList ++ Rows.stratumLeastSpec.plain.varTypes Tryz.prog ++ Tryz.f16.resultTypes.toList).any (Tryz.prog.veiledRec ·))) = true := by kernel_rfl
theorem k32 : (Rows.stratumLeastRow.veiledFits Tryz.prog Tryz.f16.params.toList (Tryz.f16.params.toList ++ Rows.stratumLeastSpec.plain.varTypes Tryz.prog ++ Tryz.f16.resultTypes.toList)) = true := by kernel_rfl
set_option maxRecDepth 100000 in
theorem facts : joinedFacts Tryz.prog 16 Tryz.f16 Rows.stratumLeastSpec Rows.stratumLeastRow = true :=
  (both (both (both (both (both (both (both (both (both (both (both (both (both (both (both (both (both (both (both (both (both (both (both (both (both (both (both (both (both (both (both k1 k2) k3) k4) k5) k6) k7) k8) k9) k10) k11) k12) k13) k14) k15) k16) k17) k18) k19) k20) k21) k22) k23) k24) k25) k26) k27) k28) k29) k30) k31) k32)
theorem hfn : Tryz.prog.funcNamed Rows.stratumLeastRow.func = some 16 := by kernel_rfl
theorem hwr : Tryz.f16.isWrapper Tryz.prog Rows.stratumLeastRow.wrapper Rows.stratumLeastRow.mainSum := by unfold Func.isWrapper; first | (rw [if_pos (by decide +kernel)]; kernel_rfl) | (rw [if_neg (by decide +kernel)]; exact ⟨rfl, rfl⟩)
theorem hin : Tryz.f16.isInstance Tryz.prog Rows.stratumLeastRow.origin Rows.stratumLeastRow.targs := of_decide_eq_true (by kernel_rfl)

theorem over : Rows.stratumLeastRow.holds Tryz.pinned (OpenSpec.ofChange Rows.stratumLeastSpec) :=
  OpenClaim.holds_of_wide 16 Tryz.f16 rfl rfl rfl rfl rfl rfl rfl ⟨rfl, rfl, rfl, rfl, rfl⟩ rfl rfl rfl rfl rfl hfn Tryz.func16 facts hin hwr
    (fun os started H enc _ => lifted os started H enc)

/-- the given statement -/
theorem proved : Rows.StratumLeastSaid :=
  over
#print axioms proved
end Go.Proofs.YtelnkflmnbhclaaGreat.stratumLeast


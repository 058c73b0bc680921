/- What is proved: the law StratumKnown: nothing on a day depends on traces that are known later, and a contradiction stays one if a trace is withdrawn that is not among its Ids. Conditions: none. -/
import Derived.Test.YtelnkflmnbhclaaGreatRows
import Derived.Test.YtelnkflmnbhclaaGreatK01
import Derived.Test.YtelnkflmnbhclaaGreatH01
import Derived.Test.YtelnkflmnbhclaaGreatK24
import Derived.Test.YtelnkflmnbhclaaGreatH07
import Derived.WalkKit
import Derived.ProofKit
import Derived.OpenShut
namespace Go.Proofs.YtelnkflmnbhclaaGreat.stratumKnown
open Go.ChangeShapes Go.WideShapes Go.ChangeAt Go.RowKit

theorem own : ownKnob Tryz.prog.godebug = none := by kernel_rfl

/-! ### The row's step -/
set_option maxRecDepth 100000 in
set_option maxHeartbeats 1000000 in
theorem lifted (os : Os) (started : os.Started) (H : Type) (enc : TypeId × Value → H) :
    ReturnsInHanded {} Tryz.checked os 18 .any (Rows.stratumKnownSpec.pre6 enc Tryz.prog Tryz.f18 Rows.stratumKnownRow.domain false) (Rows.stratumKnownSpec.post enc Tryz.prog Tryz.f18 false true false false) := by
  refine returnsInHanded_of_change (C := Tryz.checked) own started (by kernel_rfl) Tryz.func18
    (ChangeSpec.witness6 (enc := enc) (C := Tryz.checked) false ⟨#[], #[.slice none 0 0, .int .i64 0, .slice none 0 0, .int .i64 0, .int .i64 0], []⟩ 8 (by kernel_rfl) (by kernel_rfl) (by kernel_rfl) (by kernel_rfl)) ?_
  intro W base args ds gs before hval0 hW hcnd _
  have hval : ∀ (j : Nat) t v, Tryz.f18.params[j]? = some t → args[j]? = some v → Value.okWide Tryz.prog W .any base t v := hval0
  have hW' := hW
  obtain ⟨p, q, hA0, hV, rfl, hfz, hnd⟩ := hW
  have hA : DataW.TrodAll enc Tryz.prog W 0 (fun _ => true) true Tryz.f18.params.toList args.toList ds p := hA0
  have hAk := hA
  rw [Tryz.params18] at hA hval
  obtain ⟨v0, vs0, d0, ds0, p0, p0_, hargs, rfl, rfl, h0, r0⟩ := trodAll_cons hA
  obtain ⟨v1, vs1, d1, ds1, p1, p1_, rfl, rfl, rfl, h1, r1⟩ := trodAll_cons r0
  obtain ⟨v2, vs2, d2, ds2, p2, p2_, rfl, rfl, rfl, h2, r2⟩ := trodAll_cons r1
  obtain ⟨v3, vs3, d3, ds3, p3, p3_, rfl, rfl, rfl, h3, r3⟩ := trodAll_cons r2
  obtain ⟨v4, vs4, d4, ds4, p4, p4_, rfl, rfl, rfl, h4, r4⟩ := trodAll_cons r3
  obtain ⟨rfl, rfl, rfl⟩ := trodAll_nil r4
  obtain rfl : args = #[v0, v1, v2, v3, v4] := by cases args; simp_all
  obtain ⟨rfl, rfl⟩ := trodVars_none hV
  obtain ⟨a0_, n0_, c0_, rfl⟩ := okWide_slice Tryz.underlying23 (hval 0 23 v0 rfl rfl)
  obtain ⟨fu0, hf0⟩ := h0
  obtain ⟨lA, ln, lc, l, e0, len0, rd0⟩ := open_rd (encA := encTrace) (k := 10) Tryz.underlying23 (by kernel_rfl) (by omega) (fun _ => rfl) (fun _ _ _ h => decTrace h) hf0
  cases e0
  obtain ⟨known, rfl, rfl, rfl, wf1⟩ := open_int Tryz.underlying3 (hval 1 3 v1 rfl rfl) h1
  obtain ⟨a2_, n2_, c2_, rfl⟩ := okWide_slice Tryz.underlying35 (hval 2 35 v2 rfl rfl)
  obtain ⟨fu2, hf2⟩ := h2
  obtain ⟨bA, bn, bc, b, e2, len2, rd2⟩ := open_rd (encA := encBond) (k := 5) Tryz.underlying35 (by kernel_rfl) (by omega) (fun _ => rfl) (fun _ _ _ h => decBond h) hf2
  cases e2
  obtain ⟨id, rfl, rfl, rfl, wf3⟩ := open_int Tryz.underlying3 (hval 3 3 v3 rfl rfl) h3
  obtain ⟨void, rfl, rfl, rfl, wf4⟩ := open_int Tryz.underlying3 (hval 4 3 v4 rfl rfl) h4
  clear hA0 hval0
  simp only [List.append_nil] at hW'
  refine (stratumKnown_of _ _ _ l len0 known _ _ _ b len2 id void W rd0 rd2).mono fun e W' ⟨he, hg⟩ => ?_
  subst he
  exact ⟨_, rfl, law_kept (pa := _) (pv := []) hW' hg (by simp) (fun _ _ _ => (trodAll_cons_mk (shut_bool Tryz.underlying4 _) trodAll_mk0)) (fun sp hsp => args_kept hAk hg (by rw [Tryz.params18]; exact fun t ht => of_decide_eq_true (List.all_eq_true.1 (by kernel_rfl : [23, 3, 35, 3, 3].all (fun t => decide (t < Tryz.prog.types.size)) = true) t ht)) sp (fun p hp => hsp p (by simpa using hp))) (fun _ _ => rfl) (ok_one (by kernel_rfl) rfl (okWide_bool_mk Tryz.underlying4 _))⟩

/-! ### The closed facts, each on its own (one declaration over all of them outgrows the lid) -/
theorem both {a b : Bool} (h : a = true) (g : b = true) : (a && b) = true := by rw [h, g]; rfl
theorem k1 : (Rows.stratumKnownRow.wf (OpenSpec.ofChange Rows.stratumKnownSpec)) = true := by kernel_rfl
theorem k2 : (laidOutB Tryz.prog) = true := by kernel_rfl
theorem k3 : (mapsRowed Tryz.prog) = true := by kernel_rfl
theorem k4 : (Tryz.f18.params.all (Tryz.prog.readableRec ·)) = true := by kernel_rfl
theorem k5 : (namedTie Tryz.prog Rows.stratumKnownRow.named Rows.stratumKnownSpec.vars) = true := by kernel_rfl
theorem k6 : ((Rows.stratumKnownRow.stops == [])) = true := by kernel_rfl
theorem k7 : ((Tryz.prog.stops == [])) = true := by kernel_rfl
theorem k8 : ((Rows.stratumKnownRow.knobs == [])) = true := by kernel_rfl
theorem k9 : ((Tryz.prog.stopKnobs == [])) = true := by kernel_rfl
theorem k10 : ((Rows.stratumKnownRow.inPlace == Tryz.prog.inPlace 18)) = true := by kernel_rfl
theorem k11 : ((Rows.stratumKnownRow.unfollowed == Tryz.prog.unfollowed 18)) = true := by kernel_rfl
theorem k12 : ((Rows.stratumKnownRow.recurses == Tryz.prog.recurses 18)) = true := by kernel_rfl
theorem k13 : ((Rows.stratumKnownRow.named == Tryz.prog.varsNamed 18)) = true := by kernel_rfl
theorem k14 : ((Rows.stratumKnownRow.maps == (Tryz.f18.params.toList ++ Rows.stratumKnownSpec.plain.varTypes Tryz.prog).any (Tryz.prog.mapsRec ·))) = true := by kernel_rfl
theorem k15 : ((Rows.stratumKnownRow.ifaces == (Tryz.f18.params.toList ++ Rows.stratumKnownSpec.plain.varTypes Tryz.prog).any (Tryz.prog.ifacesRec ·))) = true := by kernel_rfl
theorem k16 : ((Rows.stratumKnownRow.mapsOut == Tryz.prog.mapsAmong Tryz.f18.resultTypes.toList)) = true := by kernel_rfl
theorem k17 : ((Rows.stratumKnownRow.loops == (Tryz.f18.params.toList ++ Rows.stratumKnownSpec.plain.varTypes Tryz.prog).any (Tryz.prog.loopsFrom ·))) = true := by kernel_rfl
theorem k18 : ((Rows.stratumKnownRow.wideKeys == (Tryz.f18.params.toList ++ Rows.stratumKnownSpec.plain.varTypes Tryz.prog ++ Tryz.f18.resultTypes.toList).any (Tryz.prog.wideKeysFrom ·))) = true := by kernel_rfl
theorem k19 : (Rows.stratumKnownSpec.vars.all (Tryz.prog.varReadable ·)) = true := by kernel_rfl
theorem k20 : (Tryz.f18.resultTypes.all (fun t => Tryz.prog.readableRec t && decide (t < Tryz.prog.types.size))) = true := by kernel_rfl
theorem k21 : ((Rows.stratumKnownRow.ifacesOut == Tryz.f18.resultTypes.toList.any (Tryz.prog.ifacesRec ·))) = true := by kernel_rfl
theorem k22 : ((Rows.stratumKnownRow.loopsOut == Tryz.f18.resultTypes.toList.any (Tryz.prog.loopsFrom ·))) = true := by kernel_rfl
theorem k23 : ((Rows.stratumKnownRow.plainKeys == Tryz.prog.plainKeys)) = true := by kernel_rfl
theorem k24 : (Rows.stratumKnownRow.shortTexts.isNone) = true := by kernel_rfl
theorem k25 : (Tryz.prog.stopsHeard) = true := by kernel_rfl
theorem k26 : (Tryz.prog.mayEnter) = true := by kernel_rfl
theorem k27 : ((Rows.stratumKnownRow.lifted == Tryz.prog.liftsFinal)) = true := by kernel_rfl
theorem k28 : ((Tryz.prog.make == some Rows.stratumKnownRow.make)) = true := by kernel_rfl
theorem k29 : ((Rows.stratumKnownRow.kinds == (if Rows.stratumKnownRow.domain.isEmpty then [] else Tryz.f18.params.toList.map fun t => match Tryz.prog.underlying t with | some (.int k) => some k | _ => none))) = true := by kernel_rfl
theorem k30 : ((Rows.stratumKnownRow.pinned == Rows.stratumKnownRow.pinnedBy)) = true := by kernel_rfl
theorem k31 : ((Rows.stratumKnownRow.veiled == (Tryz.f18.params.toList ++ Rows.stratumKnownSpec.plain.varTypes Tryz.prog ++ Tryz.f18.resultTypes.toList).any (Tryz.prog.veiledRec ·))) = true := by kernel_rfl
theorem k32 : (Rows.stratumKnownRow.veiledFits Tryz.prog Tryz.f18.params.toList (Tryz.f18.params.toList ++ Rows.stratumKnownSpec.plain.varTypes Tryz.prog ++ Tryz.f18.resultTypes.toList)) = true := by kernel_rfl
set_option maxRecDepth 100000 in
theorem facts : joinedFacts Tryz.prog 18 Tryz.f18 Rows.stratumKnownSpec Rows.stratumKnownRow = true :=
  (both (both (both (both (both (both (both (both (both (both (both (both (both (both (both (both (both (both (both (both (both (both (both (both (both (both (both (both (both (both (both k1 k2) k3) k4) k5) k6) k7) k8) k9) k10) k11) k12) k13) k14) k15) k16) k17) k18) k19) k20) k21) k22) k23) k24) k25) k26) k27) k28) k29) k30) k31) k32)
theorem hfn : Tryz.prog.funcNamed Rows.stratumKnownRow.func = some 18 := by kernel_rfl
theorem hwr : Tryz.f18.isWrapper Tryz.prog Rows.stratumKnownRow.wrapper Rows.stratumKnownRow.mainSum := by unfold Func.isWrapper; first | (rw [if_pos (by decide +kernel)]; kernel_rfl) | (rw [if_neg (by decide +kernel)]; exact ⟨rfl, rfl⟩)
theorem hin : Tryz.f18.isInstance Tryz.prog Rows.stratumKnownRow.origin Rows.stratumKnownRow.targs := of_decide_eq_true (by kernel_rfl)

theorem over : Rows.stratumKnownRow.holds Tryz.pinned (OpenSpec.ofChange Rows.stratumKnownSpec) :=
  OpenClaim.holds_of_wide 18 Tryz.f18 rfl rfl rfl rfl rfl rfl rfl ⟨rfl, rfl, rfl, rfl, rfl⟩ rfl rfl rfl rfl rfl hfn Tryz.func18 facts hin hwr
    (fun os started H enc _ => lifted os started H enc)

/-- the given statement -/
theorem proved : Rows.StratumKnownSaid :=
  over
#print axioms proved
end Go.Proofs.YtelnkflmnbhclaaGreat.stratumKnown


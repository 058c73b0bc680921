/- What is proved: the law StratumReached: for every list of at most 25 traces, a trace more, bonds and links, Reached and Ids return what the reference returns. Conditions: none. -/
import Derived.Test.YtelnkflmnbhclaaGreatRows
import Derived.Test.YtelnkflmnbhclaaGreatRaK01
import Derived.Test.YtelnkflmnbhclaaGreatRaH01
import Derived.Test.YtelnkflmnbhclaaGreatRaK24
import Derived.Test.YtelnkflmnbhclaaGreatRaH11
import Derived.Test.YtelnkflmnbhclaaGreatRaH19
import Derived.WalkKit
import Derived.ProofKit
import Derived.OpenShut
namespace Go.Proofs.YtelnkflmnbhclaaGreat.stratumReached
open Go.ChangeShapes Go.WideShapes Go.ChangeAt Go.RowKit

theorem own : ownKnob Tryz.prog.godebug = none := by kernel_rfl

/-! ### The row's step -/
set_option maxRecDepth 100000 in
set_option maxHeartbeats 1000000 in
theorem lifted (os : Os) (started : os.Started) (H : Type) (enc : TypeId × Value → H) :
    ReturnsInHanded {} Tryz.checked os 19 .any (Rows.stratumReachedSpec.pre6 enc Tryz.prog Tryz.f19 Rows.stratumReachedRow.domain false) (Rows.stratumReachedSpec.post enc Tryz.prog Tryz.f19 false true false false) := by
  refine returnsInHanded_of_change (C := Tryz.checked) own started (by kernel_rfl) Tryz.func19
    (ChangeSpec.witness6 (enc := enc) (C := Tryz.checked) false ⟨#[], #[.slice none 0 0, .agg #[.int .i64 0, .int .i64 0, .int .u8 0, .int .i64 0, .int .i64 0, .int .i64 0, .int .i64 0, .int .i64 0, .int .i64 0, .int .i64 0], .slice none 0 0, .slice none 0 0], []⟩ 8 (by kernel_rfl) (by kernel_rfl) (by kernel_rfl) (by kernel_rfl)) ?_
  intro W base args ds gs before hval0 hW hcnd _
  have hval : ∀ (j : Nat) t v, Tryz.f19.params[j]? = some t → args[j]? = some v → Value.okWide Tryz.prog W .any base t v := hval0
  have hW' := hW
  obtain ⟨p, q, hA0, hV, rfl, hfz, hnd⟩ := hW
  have hA : DataW.TrodAll enc Tryz.prog W 0 (fun _ => true) true Tryz.f19.params.toList args.toList ds p := hA0
  have hAk := hA
  rw [Tryz.params19] at hA hval
  obtain ⟨v0, vs0, d0, ds0, p0, p0_, hargs, rfl, rfl, h0, r0⟩ := trodAll_cons hA
  obtain ⟨v1, vs1, d1, ds1, p1, p1_, rfl, rfl, rfl, h1, r1⟩ := trodAll_cons r0
  obtain ⟨v2, vs2, d2, ds2, p2, p2_, rfl, rfl, rfl, h2, r2⟩ := trodAll_cons r1
  obtain ⟨v3, vs3, d3, ds3, p3, p3_, rfl, rfl, rfl, h3, r3⟩ := trodAll_cons r2
  obtain ⟨rfl, rfl, rfl⟩ := trodAll_nil r3
  obtain rfl : args = #[v0, v1, v2, v3] := by cases args; simp_all
  obtain ⟨rfl, rfl⟩ := trodVars_none hV
  obtain ⟨a0_, n0_, c0_, rfl⟩ := okWide_slice Tryz.underlying23 (hval 0 23 v0 rfl rfl)
  obtain ⟨fu0, hf0⟩ := h0
  obtain ⟨lA, ln, lc, l, e0, len0, rd0⟩ := open_rd (encA := encTrace) (k := 10) Tryz.underlying23 (by kernel_rfl) (by omega) (fun _ => rfl) (fun _ _ _ h => decTrace h) hf0
  cases e0
  obtain ⟨cs1, rfl, _⟩ := okWide_struct Tryz.underlying25 (hval 1 25 v1 rfl rfl)
  obtain ⟨fu1, hf1⟩ := h1
  obtain ⟨x, e1⟩ := decTrace hf1
  obtain rfl : cs1 = #[.int .i64 x.id, .int .i64 x.known, .int .u8 x.kind, .int .i64 x.pit, .int .i64 x.layer, .int .i64 x.lower, .int .i64 x.low, .int .i64 x.high, .int .i64 x.cost, .int .i64 x.void] := by cases cs1; simpa [Value.cells, encTrace] using e1
  obtain ⟨a2_, n2_, c2_, rfl⟩ := okWide_slice Tryz.underlying35 (hval 2 35 v2 rfl rfl)
  obtain ⟨fu2, hf2⟩ := h2
  obtain ⟨bA, bn, bc, b, e2, len2, rd2⟩ := open_rd (encA := encBond) (k := 5) Tryz.underlying35 (by kernel_rfl) (by omega) (fun _ => rfl) (fun _ _ _ h => decBond h) hf2
  cases e2
  obtain ⟨a3_, n3_, c3_, rfl⟩ := okWide_slice Tryz.underlying43 (hval 3 43 v3 rfl rfl)
  obtain ⟨fu3, hf3⟩ := h3
  obtain ⟨cA, cn, cc, c, e3, len3, rd3⟩ := open_rd (encA := encLink) (k := 6) Tryz.underlying43 (by kernel_rfl) (by omega) (fun _ => rfl) (fun _ _ _ h => decLink h) hf3
  cases e3
  clear hA0 hval0
  simp only [List.append_nil] at hW'
  refine (stratumReached_of _ _ _ l len0 x _ _ _ b len2 _ _ _ c len3 W rd0 rd2 rd3).mono fun e W' ⟨he, hg⟩ => ?_
  subst he
  exact ⟨_, rfl, law_kept (pa := _) (pv := []) hW' hg (by simp) (fun _ _ _ => (trodAll_cons_mk (shut_bool Tryz.underlying4 _) trodAll_mk0)) (fun sp hsp => args_kept hAk hg (by rw [Tryz.params19]; exact fun t ht => of_decide_eq_true (List.all_eq_true.1 (by kernel_rfl : [23, 25, 35, 43].all (fun t => decide (t < Tryz.prog.types.size)) = true) t ht)) sp (fun p hp => hsp p (by simpa using hp))) (fun _ _ => rfl) (ok_one (by kernel_rfl) rfl (okWide_bool_mk Tryz.underlying4 _))⟩

/-! ### The closed facts, each on its own (one declaration over all of them outgrows the lid) -/
theorem both {a b : Bool} (h : a = true) (g : b = true) : (a && b) = true := by rw [h, g]; rfl
theorem k1 : (Rows.stratumReachedRow.wf (OpenSpec.ofChange Rows.stratumReachedSpec)) = true := by kernel_rfl
theorem k2 : (laidOutB Tryz.prog) = true := by kernel_rfl
theorem k3 : (mapsRowed Tryz.prog) = true := by kernel_rfl
theorem k4 : (Tryz.f19.params.all (Tryz.prog.readableRec ·)) = true := by kernel_rfl
theorem k5 : (namedTie Tryz.prog Rows.stratumReachedRow.named Rows.stratumReachedSpec.vars) = true := by kernel_rfl
theorem k6 : ((Rows.stratumReachedRow.stops == [])) = true := by kernel_rfl
theorem k7 : ((Tryz.prog.stops == [])) = true := by kernel_rfl
theorem k8 : ((Rows.stratumReachedRow.knobs == [])) = true := by kernel_rfl
theorem k9 : ((Tryz.prog.stopKnobs == [])) = true := by kernel_rfl
theorem k10 : ((Rows.stratumReachedRow.inPlace == Tryz.prog.inPlace 19)) = true := by kernel_rfl
theorem k11 : ((Rows.stratumReachedRow.unfollowed == Tryz.prog.unfollowed 19)) = true := by kernel_rfl
theorem k12 : ((Rows.stratumReachedRow.recurses == Tryz.prog.recurses 19)) = true := by kernel_rfl
theorem k13 : ((Rows.stratumReachedRow.named == Tryz.prog.varsNamed 19)) = true := by kernel_rfl
theorem k14 : ((Rows.stratumReachedRow.maps == (Tryz.f19.params.toList ++ Rows.stratumReachedSpec.plain.varTypes Tryz.prog).any (Tryz.prog.mapsRec ·))) = true := by kernel_rfl
theorem k15 : ((Rows.stratumReachedRow.ifaces == (Tryz.f19.params.toList ++ Rows.stratumReachedSpec.plain.varTypes Tryz.prog).any (Tryz.prog.ifacesRec ·))) = true := by kernel_rfl
theorem k16 : ((Rows.stratumReachedRow.mapsOut == Tryz.prog.mapsAmong Tryz.f19.resultTypes.toList)) = true := by kernel_rfl
theorem k17 : ((Rows.stratumReachedRow.loops == (Tryz.f19.params.toList ++ Rows.stratumReachedSpec.plain.varTypes Tryz.prog).any (Tryz.prog.loopsFrom ·))) = true := by kernel_rfl
theorem k18 : ((Rows.stratumReachedRow.wideKeys == (Tryz.f19.params.toList ++ Rows.stratumReachedSpec.plain.varTypes Tryz.prog ++ Tryz.f19.resultTypes.toList).any (Tryz.prog.wideKeysFrom ·))) = true := by kernel_rfl
theorem k19 : (Rows.stratumReachedSpec.vars.all (Tryz.prog.varReadable ·)) = true := by kernel_rfl
theorem k20 : (Tryz.f19.resultTypes.all (fun t => Tryz.prog.readableRec t && decide (t < Tryz.prog.types.size))) = true := by kernel_rfl
theorem k21 : ((Rows.stratumReachedRow.ifacesOut == Tryz.f19.resultTypes.toList.any (Tryz.prog.ifacesRec ·))) = true := by kernel_rfl
theorem k22 : ((Rows.stratumReachedRow.loopsOut == Tryz.f19.resultTypes.toList.any (Tryz.prog.loopsFrom ·))) = true := by kernel_rfl
theorem k23 : ((Rows.stratumReachedRow.plainKeys == Tryz.prog.plainKeys)) = true := by kernel_rfl
theorem k24 : (Rows.stratumReachedRow.shortTexts.isNone) = true := by kernel_rfl
theorem k25 : (Tryz.prog.stopsHeard) = true := by kernel_rfl
theorem k26 : (Tryz.prog.mayEnter) = true := by kernel_rfl
theorem k27 : ((Rows.stratumReachedRow.lifted == Tryz.prog.liftsFinal)) = true := by kernel_rfl
theorem k28 : ((Tryz.prog.make == some Rows.stratumReachedRow.make)) = true := by kernel_rfl
theorem k29 : ((Rows.stratumReachedRow.kinds == (if Rows.stratumReachedRow.domain.isEmpty then [] else Tryz.f19.params.toList.map fun t => match Tryz.prog.underlying t with | some (.int k) => some k | _ => none))) = true := by kernel_rfl
theorem k30 : ((Rows.stratumReachedRow.pinned == Rows.stratumReachedRow.pinnedBy)) = true := by kernel_rfl
theorem k31 : ((Rows.stratumReachedRow.veiled == (Tryz.f19.params.toList ++ Rows.stratumReachedSpec.plain.varTypes Tryz.prog ++ Tryz.f19.resultTypes.toList).any (Tryz.prog.veiledRec ·))) = true := by kernel_rfl
theorem k32 : (Rows.stratumReachedRow.veiledFits Tryz.prog Tryz.f19.params.toList (Tryz.f19.params.toList ++ Rows.stratumReachedSpec.plain.varTypes Tryz.prog ++ Tryz.f19.resultTypes.toList)) = true := by kernel_rfl
set_option maxRecDepth 100000 in
theorem facts : joinedFacts Tryz.prog 19 Tryz.f19 Rows.stratumReachedSpec Rows.stratumReachedRow = true :=
  (both (both (both (both (both (both (both (both (both (both (both (both (both (both (both (both (both (both (both (both (both (both (both (both (both (both (both (both (both (both (both k1 k2) k3) k4) k5) k6) k7) k8) k9) k10) k11) k12) k13) k14) k15) k16) k17) k18) k19) k20) k21) k22) k23) k24) k25) k26) k27) k28) k29) k30) k31) k32)
theorem hfn : Tryz.prog.funcNamed Rows.stratumReachedRow.func = some 19 := by kernel_rfl
theorem hwr : Tryz.f19.isWrapper Tryz.prog Rows.stratumReachedRow.wrapper Rows.stratumReachedRow.mainSum := by unfold Func.isWrapper; first | (rw [if_pos (by decide +kernel)]; kernel_rfl) | (rw [if_neg (by decide +kernel)]; exact ⟨rfl, rfl⟩)
theorem hin : Tryz.f19.isInstance Tryz.prog Rows.stratumReachedRow.origin Rows.stratumReachedRow.targs := of_decide_eq_true (by kernel_rfl)

theorem over : Rows.stratumReachedRow.holds Tryz.pinned (OpenSpec.ofChange Rows.stratumReachedSpec) :=
  OpenClaim.holds_of_wide 19 Tryz.f19 rfl rfl rfl rfl rfl rfl rfl ⟨rfl, rfl, rfl, rfl, rfl⟩ rfl rfl rfl rfl rfl hfn Tryz.func19 facts hin hwr
    (fun os started H enc _ => lifted os started H enc)

/-- the given statement -/
theorem proved : Rows.StratumReachedSaid :=
  over
#print axioms proved
end Go.Proofs.YtelnkflmnbhclaaGreat.stratumReached


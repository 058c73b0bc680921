/- Contracts that the law leans on: Still, Inv, Gau. -/
import Derived.StillTailTactics
import Derived.OrdersIn
import Derived.TacticsIn
import Derived.WalkKit
import Derived.CallsIn
import Derived.Test.YtelnkflmnbhclaaGreatG14
import Derived.Test.YtelnkflmnbhclaaGreatG01
/- What is proved: a region that draws its order, inside the wide fence: reads and quiet calls first, then a tail in its own order (the tail may call yield). Conditions: none. -/
section
namespace Go.Proofs.YtelnkflmnbhclaaGreat
open Go.RowKit Go.Proofs
section
variable {P : Program} {ops : Array Oper} {md : Region.Mode} {w : World} {nn : Nat}
theorem wpIn_of_still {o : Oper} {a : Act} {K : Act → Prop} {K' : Act → World → Prop} {Q' : Exit → Act → World → Prop} (h : ∀ a, K a → K' a w) (hh : o.still P a w K) : o.wpIn Fence.wide nn P a w K' Q' := by
  refine ⟨fun _ _ => trivial, ?_⟩
  have e : Oper.semAt Fence.wide.round a.eval o = execOp a.eval o := rfl
  rw [e]
  unfold Oper.still at hh
  generalize (execOp a.eval o).run P w = r at *
  cases r with
  | ok x w' =>
    cases x <;> simp only [Oper.stillUpon] at hh <;> simp only [Oper.uponIn]
    case enter f args =>
      obtain ⟨rfl, v, hc, hn⟩ := hh
      refine ⟨fun h => by simp [Fence.wide] at h, callsIn_wide.2 (hc.mono ?_)⟩
      rintro e w'' ⟨rfl, rfl⟩
      exact h _ hn
    case value v => obtain ⟨rfl, hn⟩ := hh; exact h _ hn
    case skip => obtain ⟨rfl, hn⟩ := hh; exact h _ hn
  | halt x w' => simp only [Oper.stillUpon] at hh
theorem wpOpIn_of_stOp {i : Nat} {a : Act} {K : Act → Prop} {K' : Act → World → Prop} {Q' : Exit → Act → World → Prop} (h : ∀ a, K a → K' a w) (hh : stOp P ops w i K a) : wpOpIn Fence.wide nn P ops Q' i K' a w := by
  unfold stOp at hh
  unfold wpOpIn
  split
  · rename_i ho; simp only [ho] at hh; exact h _ hh
  · rename_i o ho
    simp only [ho] at hh
    split
    · rename_i hw; simp only [hw, if_true] at hh; exact wpIn_of_still h hh
    · rename_i hw; simp only [hw] at hh; exact ⟨fun _ _ => trivial, h _ hh⟩
theorem wpAnyIn_of_head {n g : Nat} {L : Array Bool → Act → Prop} {Q' : Exit → Act → World → Prop} (hL : ∀ listed a, L listed a → wpAnyIn Fence.wide nn P md ops Q' g listed a w) :
    ∀ (f : Nat) (listed : Array Bool) (a : Act), wpAnyL P md ops w n L f listed a → wpAnyIn Fence.wide nn P md ops Q' (f + g) listed a w
  | 0, listed, a, h => by rw [Nat.zero_add]; exact hL _ _ h
  | f + 1, listed, a, h => by
    rw [show f + 1 + g = (f + g) + 1 by omega]
    exact ⟨fun h0 => absurd h0 h.1, fun i hi => wpOpIn_of_stOp (fun a' h' => wpAnyIn_of_head hL f _ a' h') (h.2 i hi).2⟩
theorem wpAnyIn_of_seq {Q' : Exit → Act → World → Prop} : ∀ (l : List Oper) (k : Nat) (listed : Array Bool) (a : Act) (w : World), (∀ j, l[j]? = ops[k + j]?) →
    Region.seqB md ops l.length k listed = true → wpListIn Fence.wide nn P ops Q' l a w → wpAnyIn Fence.wide nn P md ops Q' l.length listed a w
  | [], _, _, _, _, _, hB, h => ⟨by simpa [Region.seqB] using hB, h⟩
  | o :: l, k, listed, a, w, hl, hB, h => by
    have h0 : ops[k]? = some o := by simpa using (hl 0).symm
    simp only [List.length_cons, Region.seqB, Bool.and_eq_true, decide_eq_true_eq] at hB
    refine ⟨fun h1 => (by rw [hB.1] at h1; cases h1), fun i hi => ?_⟩
    rw [hB.1] at hi
    have hik : i = k := by simpa using hi
    subst hik
    have hw : wpOpIn Fence.wide nn P ops Q' i (wpListIn Fence.wide nn P ops Q' l) a w := by unfold wpOpIn; simp only [h0]; exact h
    exact wpOpIn_mono (fun a' w' h' => wpAnyIn_of_seq l (i + 1) _ a' w' (fun j => by have := hl (j + 1); simpa [Nat.add_assoc, Nat.add_comm 1 j] using this) hB.2 h') hw
theorem wpIn_region_still_tail {id : Nat} {Q : Exit → Act → World → Prop} {a : Act} {w : World} {l : List Oper} (n : Nat) (hm : P.follows .mixedOrders = true) (hB : Region.lexTailB .any l.toArray n = true)
    (h : wpStill P l.toArray { w with drawn := w.drawn + 1 } (fun a' => wpListIn Fence.wide nn P l.toArray Q (l.drop n) a' { w with drawn := w.drawn + 1 }) (l.take n) a) : (Code.region id l.toArray true).wpIn Fence.wide nn P Q a w := by
  simp only [Region.lexTailB, Bool.and_eq_true, decide_eq_true_eq] at hB
  obtain ⟨⟨⟨⟨hsel, hn⟩, hs⟩, hc⟩, hlex⟩ := hB
  have hn' : n < l.length := by simpa using hn
  have htl : (l.take n).length = n := by simp; omega
  have hdl : (l.drop n).length = l.toArray.size - n := by simp
  have inv0 : HeadInv .any l.toArray n (Array.replicate l.toArray.size false) :=
    ⟨by simp, fun j oj _ hl => (by rw [getD_replicate_false] at hl; cases hl), fun t _ ht => getD_in (by simpa using ht) (getD_replicate_false _ _)⟩
  have H := wpAnyL_lex (md := .any) (g := l.toArray.size - n) hsel hs hc hn (l.take n) 0 _ a (fun j hj => by
    have hj' : j < n := by rw [htl] at hj; exact hj
    simp [hj']) (by simpa using htl) inv0 (by rw [htl]; exact hlex) h
  refine wpIn_region_any hm ?_
  have := wpAnyIn_of_head (nn := nn) (Q' := Q) (g := l.toArray.size - n) (fun listed a' hL => by
    have := wpAnyIn_of_seq (nn := nn) (md := .any) (Q' := Q) (l.drop n) n listed a' { w with drawn := w.drawn + 1 } (fun j => by simp [List.getElem?_drop]) (by rw [hdl]; exact hL.1) hL.2
    rwa [hdl] at this) _ _ _ H
  rw [htl, show n + (l.toArray.size - n) = l.toArray.size by omega] at this
  exact this
/-- a region whose tail calls yield, in a walk outside every fence -/
theorem wp_region_yield {id : Nat} {Q : Exit → Act → World → Prop} {a : Act} {w : World} {l : List Oper} (nn n : Nat) (hm : P.follows .mixedOrders = true) (hB : Region.lexTailB .any l.toArray n = true)
    (h : wpStill P l.toArray { w with drawn := w.drawn + 1 } (fun a' => wpListIn Fence.wide nn P l.toArray Q (l.drop n) a' { w with drawn := w.drawn + 1 }) (l.take n) a) : (Code.region id l.toArray true).wp P Q a w :=
  wpIn_wide.1 (wpIn_region_still_tail (nn := nn) n hm hB h)
end
end Go.Proofs.YtelnkflmnbhclaaGreat
end

/- What is proved: a region that draws its order, in whatever fence: an invariant over what is done serves every order. Conditions: none. -/
section
namespace Go.Proofs.YtelnkflmnbhclaaGreat
open Go.RowKit Go.Proofs
section
variable {P : Program} {F : Fence} {nn : Nat} {ops : Array Oper}
theorem wpAnyIn_inv {Q : Exit → Act → World → Prop} {m : Nat} (_ : ∀ f, F.fn f) (hok : tabOk ops m = true) (I : Array Bool → Act → World → Prop)
    (hstep : ∀ listed i o b W, listed.size = ops.size → i ∈ Region.ready .any ops listed → ops[i]? = some o → I listed b W → o.wpIn F nn P b W (fun b' W' => I (listed.setIfInBounds i true) b' W') Q)
    (hend : ∀ b W, I (Array.replicate ops.size true) b W → Q .normal b W) :
    ∀ (fuel : Nat) (listed : Array Bool) (b : Act) (W : World), left listed = fuel → listed.size = ops.size → I listed b W → wpAnyIn F nn P .any ops Q fuel listed b W := by
  intro fuel
  induction fuel with
  | zero =>
    intro listed b W hl hs h
    have hall := left_zero hl
    rw [hs] at hall
    refine ⟨?_, hend b W (hall ▸ h)⟩
    apply List.eq_nil_iff_forall_not_mem.2
    intro i hi
    obtain ⟨hun, o, ho, _⟩ := mem_ready.1 hi
    have hlt : i < ops.size := (Array.getElem?_eq_some_iff.1 ho).1
    rw [hall] at hun
    simp [hlt] at hun
  | succ fuel ih =>
    intro listed b W hl hs h
    refine ⟨fun hnil => ?_, fun i hi => ?_⟩
    · obtain ⟨i, hi, hmin⟩ := left_pos (listed := listed) (by omega)
      have hlt : i < ops.size := by rw [← hs]; exact (Array.getElem?_eq_some_iff.1 hi).1
      have ho : ops[i]? = some ops[i] := Array.getElem?_eq_getElem hlt
      obtain ⟨_, _, hed, _⟩ := tabOk_at hok ho
      have : i ∈ Region.ready .any ops listed := mem_ready.2 ⟨by simp [hi], ops[i], ho, fun e he hbd => by have := hmin e.on (hed e he hbd); simp [this]⟩
      rw [hnil] at this
      cases this
    · obtain ⟨hun, o, ho, hall⟩ := mem_ready.1 hi
      obtain ⟨hg, hdf, _, _⟩ := tabOk_at hok ho
      have hlt : i < listed.size := by rw [hs]; exact (Array.getElem?_eq_some_iff.1 ho).1
      have hf : listed[i]? = some false := by
        rw [Array.getElem?_eq_getElem hlt]
        simp [hlt] at hun
        rw [hun]
      have hl' : left (listed.setIfInBounds i true) = fuel := by have := left_set hf; omega
      have hw : Region.wanted o (yielded ops b.tmps) = true := by simp [Region.wanted, hg]
      unfold wpOpIn
      simp only [ho, hw, if_true]
      exact Oper.wpIn_mono (fun b' W' h' => ih _ b' W' hl' (by simp [hs]) h') (hstep listed i o b W hs hi ho h)
theorem wpIn_region_inv {id : Nat} {l : List Oper} {Q : Exit → Act → World → Prop} {a : Act} {w : World} (m : Nat) (hm : P.follows .mixedOrders = true) (hF : ∀ f, F.fn f) (hok : tabOk l.toArray m = true) (I : Array Bool → Act → World → Prop)
    (h0 : I (Array.replicate l.toArray.size false) a w.drew)
    (hstep : ∀ listed i o b W, listed.size = l.toArray.size → i ∈ Region.ready .any l.toArray listed → l.toArray[i]? = some o → I listed b W → o.wpIn F nn P b W (fun b' W' => I (listed.setIfInBounds i true) b' W') Q)
    (hend : ∀ b W, I (Array.replicate l.toArray.size true) b W → Q .normal b W) : (Code.region id l.toArray true).wpIn F nn P Q a w := by
  refine wpIn_region_any hm (wpAnyIn_inv hF hok I hstep hend _ _ _ _ ?_ (by simp) h0)
  have h2 : ∀ k, (List.filter (fun b => !b) (List.replicate k false)).length = k := by
    intro k
    rw [List.filter_eq_self.2 (fun b hb => by rw [List.eq_of_mem_replicate hb]; rfl), List.length_replicate]
  unfold left
  rw [Array.toList_replicate]
  exact h2 _
/-- one operation of such a region: it yields a value; it does something; it calls -/
theorem wide_val {o : Oper} {b : Act} {W W' : World} {K : Act → World → Prop} {Q : Exit → Act → World → Prop} {v : Value} (hr : (execOp b.eval o).run P W = .ok (.value v) W') (h : K (b.put o.dst v) W') : o.wpIn Fence.wide nn P b W K Q :=
  ⟨fun _ _ => trivial, by rw [show Oper.semAt Fence.wide.round b.eval o = execOp b.eval o from rfl, hr]; exact h⟩
theorem wide_skip {o : Oper} {b : Act} {W W' : World} {K : Act → World → Prop} {Q : Exit → Act → World → Prop} (hr : (execOp b.eval o).run P W = .ok .skip W') (h : K (b.put o.dst undef) W') : o.wpIn Fence.wide nn P b W K Q :=
  ⟨fun _ _ => trivial, by rw [show Oper.semAt Fence.wide.round b.eval o = execOp b.eval o from rfl, hr]; exact h⟩
theorem wide_call {o : Oper} {b : Act} {W : World} {K : Act → World → Prop} {Q : Exit → Act → World → Prop} {f : FuncId} {args : Array Value} (hr : (execOp b.eval o).run P W = .ok (.enter f args) W)
    (h : Calls P f args W fun e w' => ∃ v, e = .returned v ∧ K (b.put o.dst v) w') : o.wpIn Fence.wide nn P b W K Q :=
  ⟨fun _ _ => trivial, by
    rw [show Oper.semAt Fence.wide.round b.eval o = execOp b.eval o from rfl, hr]
    refine ⟨fun h => by simp [Fence.wide] at h, callsIn_wide.2 (h.mono ?_)⟩
    rintro e w' ⟨v, rfl, hK⟩
    exact hK⟩
theorem TabAt.congr {V V' : Nat → Value} {a0 : Act} {listed : Array Bool} {b : Act} (h : TabAt ops V a0 listed b) (hv : ∀ j, listed.getD j false = true → V j = V' j) : TabAt ops V' a0 listed b :=
  ⟨h.size, h.closed, h.tsize, h.defers, fun j d hd hl => (h.val j d hd hl).trans (hv j hl), h.old⟩
theorem TabAt.start {V : Nat → Value} (a : Act) : TabAt ops V a (Array.replicate ops.size false) a :=
  ⟨by simp, fun j o _ hl => (by rw [getD_replicate_false] at hl; cases hl), rfl, rfl, fun j d _ hl => (by rw [getD_replicate_false] at hl; cases hl), fun _ _ => rfl⟩
end
end Go.Proofs.YtelnkflmnbhclaaGreat
end

/- What is proved: the plain functions of package gauge: what its functions compute, as Lean functions. Conditions: none. -/
section
namespace Go.Proofs.YtelnkflmnbhclaaGreat
open Go.RowKit Go.Proofs

def noneV : Int := 1099511627776
def withinB (n least most : Int) : Bool := decide (least ≤ n) && decide (n ≤ most)
def wrongB (pts : Int) (b : Bound) : Bool :=
  !withinB b.src 0 (pts - 1) || !withinB b.dst 0 (pts - 1) || decide (b.src = b.dst) || !withinB b.most (-1000000) 1000000 || !withinB b.by_ 0 1000000
def checkSys (pts : Int) (bs : List Bound) : Int :=
  if 60 < pts ∨ 400 < bs.length then 2 else if pts < 1 ∨ bs.any (wrongB pts) = true then 1 else 0

abbrev Row := List Int
def rAt (r : Row) (i : Int) : Int := r.getD i.toNat 0
def rPut (r : Row) (i v : Int) : Row := r.set i.toNat v
@[simp] theorem rPut_len (r : Row) (i v : Int) : (rPut r i v).length = r.length := by simp [rPut]

/-! ### settled -/
def relaxes (r : Row) (b : Bound) : Bool := decide (rAt r b.src < noneV) && decide (rAt r b.src + b.most < rAt r b.dst)
def relaxStep (st : Row × Row) (b : Bound) (i : Nat) : Row × Row :=
  if relaxes st.1 b then (rPut st.1 b.dst (rAt st.1 b.src + b.most), rPut st.2 b.dst i) else st
/-- the pass over the first k bounds -/
def passTo (bs : List Bound) (st : Row × Row) : Nat → Row × Row
  | 0 => st
  | k + 1 => match bs[k]? with
    | some b => relaxStep (passTo bs st k) b k
    | none => passTo bs st k
def pass (bs : List Bound) (st : Row × Row) : Row × Row := passTo bs st bs.length
def settledLoop (bs : List Bound) : Nat → Row × Row → Row × Row × Bool
  | 0, st => (st.1, st.2, false)
  | n + 1, st => if (pass bs st).1 = st.1 then ((pass bs st).1, (pass bs st).2, true) else settledLoop bs n (pass bs st)
def lasts : Row := List.replicate 60 (-1)
def settled (pts : Int) (bs : List Bound) (r : Row) : Row × Row × Bool := settledLoop bs (pts + 1).toNat (r, lasts)
def zeroRow : Row := List.replicate 60 0
def emptyRow : Row := List.replicate 60 noneV
def solvedR (pts : Int) (bs : List Bound) : Row × Row × Bool := settled pts bs zeroRow
def solvedOk (pts : Int) (bs : List Bound) : Bool := (solvedR pts bs).2.2
def solvedX (pts : Int) (bs : List Bound) : List Int := if solvedOk pts bs then (solvedR pts bs).1.take pts.toNat else []
def fromR (pts : Int) (bs : List Bound) (a : Int) : Row × Row × Bool := settled pts bs (rPut emptyRow a 0)
def greatestR (pts : Int) (bs : List Bound) (a b : Int) : Int := rAt (fromR pts bs a).1 b

theorem relaxStep_len (st : Row × Row) (b : Bound) (i : Nat) : (relaxStep st b i).1.length = st.1.length ∧ (relaxStep st b i).2.length = st.2.length := by
  unfold relaxStep; split <;> simp
theorem passTo_len (bs : List Bound) (st : Row × Row) : ∀ k, (passTo bs st k).1.length = st.1.length ∧ (passTo bs st k).2.length = st.2.length
  | 0 => ⟨rfl, rfl⟩
  | k + 1 => by
    have ih := passTo_len bs st k
    unfold passTo
    split
    · have := relaxStep_len (passTo bs st k) ‹_› k
      exact ⟨this.1.trans ih.1, this.2.trans ih.2⟩
    · exact ih
theorem settledLoop_len (bs : List Bound) : ∀ (n : Nat) (st : Row × Row), (settledLoop bs n st).1.length = st.1.length ∧ (settledLoop bs n st).2.1.length = st.2.length
  | 0, _ => ⟨rfl, rfl⟩
  | n + 1, st => by
    have hp := passTo_len bs st bs.length
    unfold settledLoop
    split
    · exact hp
    · have ih := settledLoop_len bs n (pass bs st)
      exact ⟨ih.1.trans hp.1, ih.2.trans hp.2⟩
theorem lasts_len' : lasts.length = 60 := by simp [lasts]
theorem settled_len (pts : Int) (bs : List Bound) (r : Row) : (settled pts bs r).1.length = r.length ∧ (settled pts bs r).2.1.length = 60 := by
  have := settledLoop_len bs (pts + 1).toNat (r, lasts)
  exact ⟨this.1, this.2.trans lasts_len'⟩

/-! ### circles -/
def longerStep (now : Row) (st : Row × Row) (b : Bound) (i : Nat) : Row × Row :=
  if decide (rAt now b.src < noneV) && decide (rAt now b.src + b.most < rAt st.1 b.dst) then (rPut st.1 b.dst (rAt now b.src + b.most), rPut st.2 b.dst i) else st
def longerTo (bs : List Bound) (now : Row) : Nat → Row × Row
  | 0 => (emptyRow, zeroRow)
  | k + 1 => match bs[k]? with
    | some b => longerStep now (longerTo bs now k) b k
    | none => longerTo bs now k
def longerR (bs : List Bound) (now : Row) : Row × Row := longerTo bs now bs.length
structure Walks where
  sums : List Row
  last : List Row
deriving DecidableEq, Inhabited
def Walks.now (w : Walks) : Row := w.sums.getD (w.sums.length - 1) []
def Walks.longer (bs : List Bound) (w : Walks) : Walks := { sums := w.sums ++ [(longerR bs w.now).1], last := w.last ++ [(longerR bs w.now).2] }
/-- the bounds of the longest walk to p, the last one first: from the row k on downwards to the row 1 -/
def backTo (bs : List Bound) (last : List Row) : Nat → Int → List Int
  | 0, _ => []
  | 1, _ => []
  | k + 2, p => rAt (last.getD (k + 1) []) p :: backTo bs last (k + 1) (bs.getD (rAt (last.getD (k + 1) []) p).toNat default).src
def Walks.back (bs : List Bound) (w : Walks) (p : Int) : List Int := (backTo bs w.last w.last.length p).reverse
def walks0 (p : Nat) : Walks := { sums := [rPut emptyRow p 0], last := [zeroRow] }
/-- the search through the points from p on, in one round -/
def circleRow (bs : List Bound) : List Walks → Nat → List Walks × Option (List Int)
  | [], _ => ([], none)
  | w :: ws, p => if rAt (w.longer bs).now p < 0 then (w.longer bs :: ws, some ((w.longer bs).back bs p))
    else ((w.longer bs) :: (circleRow bs ws (p + 1)).1, (circleRow bs ws (p + 1)).2)
def circleLoop (bs : List Bound) : Nat → List Walks → List Int
  | 0, _ => []
  | n + 1, all => match circleRow bs all 0 with
    | (_, some c) => c
    | (all', none) => circleLoop bs n all'
def circleX (pts : Int) (bs : List Bound) : List Int := circleLoop bs pts.toNat ((List.range pts.toNat).map walks0)
end Go.Proofs.YtelnkflmnbhclaaGreat
end

/- Contracts that the laws lean on: Opz. -/
import Derived.Test.YtccabpahfmoamaaGreatPE27
section
namespace Go.Proofs.YtccabpahfmoamaaGreat
open Go.RowKit Go.Proofs Go.ChangeShapes Go.WideShapes Go.Deep
section
variable {H:Type} {enc:TypeId×Value→H} {w:World} {base:Nat} {spare:Nat→Bool} {held:Bool}
theorem field_read2 {P:Program} {fs:Array Field} {xs:List (DataW H×List MemPlace)} {n:Nat} {cs:List Value} (hf:∀ (i:Nat) (f:Field),fs[i]? = some f→DataW.trod enc P w base spare held n f.type ((cs.drop f.offset).take (P.cellsOf f.type))=xs[i]?) (hl:xs.length=fs.size)
 (i:Nat) {f:Field} (hi:fs[i]? = some f) (t o k:Nat) (ht:f.type=t) (ho:f.offset=o) (hk:P.cellsOf t=k):∃ y,xs[i]? = some y∧DataW.trod enc P w base spare held n t ((cs.drop o).take k)=some y:=by
 subst ht
 subst ho
 subst hk
 have h:=hf i f hi
 have hlt:=(Array.getElem?_eq_some_iff.1 hi).1
 rw [List.getElem?_eq_getElem (by omega)] at h
 exact ⟨_,List.getElem?_eq_getElem (by omega),h⟩
theorem slice_sized {P:Program} {t e:TypeId} {fuel:Nat} {cs:List Value} {y:DataW H×List MemPlace} (ht:P.underlying t=some (.slice e)) (hB:8≤P.bytesOf e) (h:DataW.trod enc P w base spare held fuel t cs=some y) (hw:∀ n∈y.1.weights P t,n≤reachBytes) {A:Option Addr} {n c:Nat} (hcs:cs = [.slice A n c]):n≤17592186044416:=by
 rcases open_slice ht h with ⟨rfl,_⟩|⟨a,len,cap,m,k,D,Pl,rfl,_,_,_,_,rfl,_⟩
 · cases hcs;omega
 · cases hcs
   have:=hw _ (by simp only [DataW.weights,ht];exact List.mem_cons_self)
   simp only [List.length_map,List.length_range] at this
   unfold reachBytes at this
   have h2:n * 8≤(n+(m-n)) * P.bytesOf e:=Nat.mul_le_mul (by omega) hB
   omega
theorem agg_sized {P:Program} {t:TypeId} {fs:Array Field} {xs:List (DataW H×List MemPlace)} (ht:P.underlying t=some (.struct fs)) (hw:∀ n∈(DataW.agg (xs.map (·.1))).weights P t,n≤reachBytes) {i:Nat} {f:Field} {y:DataW H×List MemPlace} (hf:fs[i]? = some f) (hy:xs[i]? = some y):∀ n∈y.1.weights P f.type,n≤reachBytes:=fun n hn=>
 hw n (by
  simp only [DataW.weights,ht]
  exact DataW.weights_mem_each (j:=i) (by rw [List.getElem?_map,Array.getElem?_toList,hf];rfl) (by rw [List.getElem?_map,hy];rfl) n hn)
theorem outl_sized {fuel:Nat} {x:DataW H×List MemPlace} {v:Value} {WA:Option Addr} {wn wc:Nat} {TA:Option Addr} {tn tc:Nat} (h:DataW.trod enc Tryz.prog w base spare held fuel 24 [v,.slice WA wn wc,.slice TA tn tc]=some x) (hw:∀ n∈x.1.weights Tryz.prog 24,n≤reachBytes):wn≤17592186044416∧tn≤17592186044416:=by
 obtain ⟨xs,m,_,rfl,hl,hxl,hf⟩:=DataW.trod_struct Tryz.underlying24 h
 obtain ⟨y1,k1,g1⟩:=field_read2 hf hxl 1 rfl 22 1 1 rfl rfl (by kernel_rfl)
 obtain ⟨y2,k2,g2⟩:=field_read2 hf hxl 2 rfl 22 2 1 rfl rfl (by kernel_rfl)
 simp only [List.drop_succ_cons,List.drop_zero,List.take_succ_cons,List.take_zero] at g1 g2
 exact ⟨slice_sized Tryz.underlying22 (by decide +kernel) g1 (agg_sized Tryz.underlying24 hw rfl k1) rfl,slice_sized Tryz.underlying22 (by decide +kernel) g2 (agg_sized Tryz.underlying24 hw rfl k2) rfl⟩
end
theorem weights_arg {H:Type} {P:Program} {ts:List TypeId} {ds:List (DataW H)} (h:(DataW.weightsEach P ts ds).all (· ≤ reachBytes)=true) {j:Nat} {t:TypeId} {d:DataW H} (ht:ts[j]? = some t) (hd:ds[j]? = some d):∀ n∈d.weights P t,n≤reachBytes:=fun n hn=>by
 have:=List.all_eq_true.1 h n (DataW.weights_mem_each ht hd n hn)
 simpa using this
end Go.Proofs.YtccabpahfmoamaaGreat
end

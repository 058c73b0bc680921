/- Contracts that the laws lean on: Slc. -/
import Derived.Test.YtelnkflmnbhclaaGreatPfK04
section
namespace Go.Proofs.YtelnkflmnbhclaaGreat
open Go.RowKit Go.Proofs Go.Shelf
theorem add_nil (a:Addr):a.add 0=a:=by
 obtain ⟨b,o,s⟩:=a;cases s<;>rfl
theorem slc_to {t:TypeId} {s:Nat} (hu:Tryz.prog.underlying t=some (.slice (Tryz.prog.elem t))) (hs:∀ W,(sizeOf (Tryz.prog.elem t)).run Tryz.prog W = .ok s W) (A:Option Addr) (n c k:Nat) (hk:k≤c) (W:World):
 (Instr.slice t (.slice A n c) none (some (.int .i64 (k:Int))) none).run Tryz.prog W = .ok (.slice A k c) W:=by
 rw [run_slice_h W t A n c hu .i64 k (by omega) (by omega),hs];have h:A.map (·.add (0 * s))=A:=by cases A<;>simp [add_nil]
 simp only [Result.andThen,sliced,h,ite_self,Int.toNat_natCast,Nat.sub_zero]
theorem slc_from {t:TypeId} {s:Nat} (hu:Tryz.prog.underlying t=some (.slice (Tryz.prog.elem t))) (hs:∀ W,(sizeOf (Tryz.prog.elem t)).run Tryz.prog W = .ok s W) (A:Option Addr) (n c k:Nat) (hk:k≤n) (hc:n≤c):
 ∃ A',(∀ W,(Instr.slice t (.slice A n c) (some (.int .i64 (k:Int))) none none).run Tryz.prog W = .ok (.slice A' (n-k) (c-k)) W)∧(k<n→A'=A.map (·.add (k * s))):=by
 refine ⟨if c=k then A else A.map (·.add (k * s)),fun W=> ?_,fun h=>if_neg (by omega)⟩;rw [run_slice_l W t A n c hu .i64 k (by omega) (by omega),hs];simp only [Result.andThen,sliced,Int.toNat_natCast]
theorem sizePl (W:World):(sizeOf (Tryz.prog.elem 30)).run Tryz.prog W = .ok 2 W:=by kernel_rfl
theorem to_pl (A:Option Addr) (n c k:Nat) (hk:k≤c) (W:World):(Instr.slice 30 (.slice A n c) none (some (.int .i64 (k:Int))) none).run Tryz.prog W = .ok (.slice A k c) W:=slc_to (by kernel_rfl) sizePl A n c k hk W
theorem from_pl (A:Option Addr) (n c k:Nat) (hk:k≤n) (hc:n≤c):∃ A',(∀ W,(Instr.slice 30 (.slice A n c) (some (.int .i64 (k:Int))) none none).run Tryz.prog W = .ok (.slice A' (n-k) (c-k)) W)∧(k<n→A'=A.map (·.add (k * 2))):=slc_from (by kernel_rfl) sizePl A n c k hk hc
end Go.Proofs.YtelnkflmnbhclaaGreat
end

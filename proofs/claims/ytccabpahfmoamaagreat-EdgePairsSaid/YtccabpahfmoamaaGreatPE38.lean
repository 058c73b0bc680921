/- Contracts that the laws lean on: R3P. -/
import Derived.Test.YtccabpahfmoamaaGreatPE35
import Derived.Test.YtccabpahfmoamaaGreatPE24
set_option maxHeartbeats 2000000
section
namespace Go.Proofs.YtccabpahfmoamaaGreat
open Go.RowKit Go.Proofs Go.Shelf
theorem r3many_any (A:Outl) (AwA:Option Addr) (Awn Awc:Nat) (AtA:Option Addr) (Atn Atc:Nat) (B:Outl) (BwA:Option Addr) (Bwn Bwc:Nat) (BtA:Option Addr) (Btn Btc:Nat) (w:World) (Aw:Rd encBound 4 w AwA Awn Awc A.ways) (At:Rd encBound 4 w AtA Atn Atc A.turns) (Bw:Rd encBound 4 w BwA Bwn Bwc B.ways) (Bt:Rd encBound 4 w BtA Btn Btc B.turns):
 Calls Tryz.prog 116 #[.agg #[.int .i64 A.n,.slice AwA Awn Awc,.slice AtA Atn Atc],.agg #[.int .i64 B.n,.slice BwA Bwn Bwc,.slice BtA Btn Btc]] w fun e w'=>e = .returned (.int .i64 (roomErr A B))∧Below w.heap.size w w':=by
 have l1:=Aw.len;have l2:=At.len;have l3:=Bw.len;have l4:=Bt.len
 have b1:=Aw.big;have b2:=At.big;have b3:=Bw.big;have b4:=Bt.big
 have w1:IntKind.i64.wrap ((Awn:Int)+(Bwn:Int))=(Awn:Int)+(Bwn:Int):=(by rw [IntKind.wrap_i64];omega)
 have w2:IntKind.i64.wrap ((Atn:Int)+(Btn:Int))=(Atn:Int)+(Btn:Int):=(by rw [IntKind.wrap_i64];omega)
 have hv:roomErr A B=if 400<Awn+Bwn∨400<Atn+Btn then 2 else 0:=by unfold roomErr;rw [l1,l2,l3,l4]
 rw [hv]
 clear Aw At Bw Bt l1 l2 l3 l4 hv
 by_cases c1:(400:Int)<(Awn:Int)+Bwn
 · rw [if_pos (by omega)]
   go_enter Tryz.func116,Tryz.ntmps116
   go_wp2
   go_ret
   exact ⟨rfl,((Below.refl _ _).alloc (Nat.le_refl _) _).alloc (by simp) _⟩
 · by_cases c2:(400:Int)<(Atn:Int)+Btn
   · rw [if_pos (by omega)]
     go_enter Tryz.func116,Tryz.ntmps116
     go_wp2
     go_ret
     exact ⟨rfl,((Below.refl _ _).alloc (Nat.le_refl _) _).alloc (by simp) _⟩
   · rw [if_neg (by omega)]
     go_enter Tryz.func116,Tryz.ntmps116
     go_wp2
     go_ret
     exact ⟨rfl,((Below.refl _ _).alloc (Nat.le_refl _) _).alloc (by simp) _⟩
def Mid (n:Int):Prop:= -1000000≤n∧n≤1000000
theorem r3corner_any (n:Int) (WA:Option Addr) (wn wc:Nat) (TA:Option Addr) (tn tc:Nat) (p:Pairing) (i:Int) (w:World) (hn:Mid n) (h0:Mid p.a.lo) (h1:Mid p.b.lo) (h2:Mid p.b.hi) (hi:Mid i):
 Calls Tryz.prog 121 #[.agg #[.int .i64 n,.slice WA wn wc,.slice TA tn tc],.agg #[.int .i64 p.a.lo,.int .i64 p.a.hi,.int .i64 p.b.lo,.int .i64 p.b.hi],.int .i64 i] w fun e w'=>e = .returned (.int .i64 (whereF (n+1) p.b.lo p.b.hi p.a.lo i))∧Below w.heap.size w w':=by
 obtain ⟨n1,n2⟩:=hn;obtain ⟨a1,a2⟩:=h0;obtain ⟨b1,b2⟩:=h1;obtain ⟨c1,c2⟩:=h2;obtain ⟨i1,i2⟩:=hi
 have e1:IntKind.i64.wrap (p.a.lo+p.b.hi)=p.a.lo+p.b.hi:=(by rw [IntKind.wrap_i64];omega)
 have e2:IntKind.i64.wrap (p.a.lo+p.b.hi-i)=p.a.lo+p.b.hi-i:=(by rw [IntKind.wrap_i64];omega)
 have e3:IntKind.i64.wrap (n+1)=n+1:=(by rw [IntKind.wrap_i64];omega)
 have e4:IntKind.i64.wrap (n+1+i)=n+1+i:=(by rw [IntKind.wrap_i64];omega)
 have e5:IntKind.i64.wrap (n+1+p.b.lo)=n+1+p.b.lo:=(by rw [IntKind.wrap_i64];omega)
 have e6:IntKind.i64.wrap (n+1+p.b.lo+i)=n+1+p.b.lo+i:=(by rw [IntKind.wrap_i64];omega)
 have e7:IntKind.i64.wrap (n+1+p.b.lo+i-p.b.hi)=n+1+p.b.lo+i-p.b.hi:=(by rw [IntKind.wrap_i64];omega)
 have e8:IntKind.i64.wrap (n+1+p.b.lo+i-p.b.hi-1)=n+1+p.b.lo+i-p.b.hi-1:=(by rw [IntKind.wrap_i64];omega)
 clear n1 n2 a1 a2 b1 b2 c1 c2 i1 i2
 by_cases q1:i≥p.b.lo
 · by_cases q2:i≤p.b.hi
   · have hv:whereF (n+1) p.b.lo p.b.hi p.a.lo i=p.a.lo+p.b.hi-i:=if_pos ⟨q1,q2⟩
     rw [hv]
     go_enter Tryz.func121,Tryz.ntmps121
     go_wp2
     go_ret
     exact ⟨rfl,((Below.refl _ _).alloc (Nat.le_refl _) _).alloc (by simp) _⟩
   · have q3:¬i<p.b.lo:=(by omega)
     have hv:whereF (n+1) p.b.lo p.b.hi p.a.lo i=n+1+p.b.lo+i-p.b.hi-1:=by
      unfold whereF
      rw [if_neg (fun h=>q2 h.2),if_neg q3]
      omega
     rw [hv]
     go_enter Tryz.func121,Tryz.ntmps121
     go_wp2
     go_ret
     exact ⟨rfl,((Below.refl _ _).alloc (Nat.le_refl _) _).alloc (by simp) _⟩
 · have q3:i<p.b.lo:=(by omega)
   have hv:whereF (n+1) p.b.lo p.b.hi p.a.lo i=n+1+i:=by
    unfold whereF
    rw [if_neg (fun h=>q1 h.1),if_pos q3]
   rw [hv]
   go_enter Tryz.func121,Tryz.ntmps121
   go_wp2
   go_ret
   exact ⟨rfl,((Below.refl _ _).alloc (Nat.le_refl _) _).alloc (by simp) _⟩
theorem r3side_any (n:Int) (WA:Option Addr) (wn wc:Nat) (TA:Option Addr) (tn tc:Nat) (p:Pairing) (i:Int) (w:World) (hn:Mid n) (h0:Mid p.a.lo) (h1:Mid p.b.lo) (h2:Mid p.b.hi) (hi:Mid i):
 Calls Tryz.prog 120 #[.agg #[.int .i64 n,.slice WA wn wc,.slice TA tn tc],.agg #[.int .i64 p.a.lo,.int .i64 p.a.hi,.int .i64 p.b.lo,.int .i64 p.b.hi],.int .i64 i] w fun e w'=>e = .returned (.int .i64 (whereF n p.b.lo (p.b.hi-1) p.a.lo i))∧Below w.heap.size w w':=by
 obtain ⟨n1,n2⟩:=hn;obtain ⟨a1,a2⟩:=h0;obtain ⟨b1,b2⟩:=h1;obtain ⟨c1,c2⟩:=h2;obtain ⟨i1,i2⟩:=hi
 have e1:IntKind.i64.wrap (p.a.lo+p.b.hi)=p.a.lo+p.b.hi:=(by rw [IntKind.wrap_i64];omega)
 have e2:IntKind.i64.wrap (p.a.lo+p.b.hi-1)=p.a.lo+p.b.hi-1:=(by rw [IntKind.wrap_i64];omega)
 have e2':IntKind.i64.wrap (p.a.lo+p.b.hi-1-i)=p.a.lo+p.b.hi-1-i:=(by rw [IntKind.wrap_i64];omega)
 have e4:IntKind.i64.wrap (n+i)=n+i:=(by rw [IntKind.wrap_i64];omega)
 have e5:IntKind.i64.wrap (n+p.b.lo)=n+p.b.lo:=(by rw [IntKind.wrap_i64];omega)
 have e6:IntKind.i64.wrap (n+p.b.lo+i)=n+p.b.lo+i:=(by rw [IntKind.wrap_i64];omega)
 have e7:IntKind.i64.wrap (n+p.b.lo+i-p.b.hi)=n+p.b.lo+i-p.b.hi:=(by rw [IntKind.wrap_i64];omega)
 clear n1 n2 a1 a2 b1 b2 c1 c2 i1 i2
 by_cases q1:i≥p.b.lo
 · by_cases q2:i<p.b.hi
   · have hv:whereF n p.b.lo (p.b.hi-1) p.a.lo i=p.a.lo+p.b.hi-1-i:=by
      unfold whereF
      rw [if_pos ⟨q1,by omega⟩]
      omega
     rw [hv]
     go_enter Tryz.func120,Tryz.ntmps120
     go_wp2
     go_ret
     exact ⟨rfl,((Below.refl _ _).alloc (Nat.le_refl _) _).alloc (by simp) _⟩
   · have q3:¬i<p.b.lo:=(by omega)
     have hv:whereF n p.b.lo (p.b.hi-1) p.a.lo i=n+p.b.lo+i-p.b.hi:=by
      unfold whereF
      rw [if_neg (by omega),if_neg q3]
      omega
     rw [hv]
     go_enter Tryz.func120,Tryz.ntmps120
     go_wp2
     go_ret
     exact ⟨rfl,((Below.refl _ _).alloc (Nat.le_refl _) _).alloc (by simp) _⟩
 · have q3:i<p.b.lo:=(by omega)
   have hv:whereF n p.b.lo (p.b.hi-1) p.a.lo i=n+i:=by
    unfold whereF
    rw [if_neg (fun h=>q1 h.1),if_pos q3]
   rw [hv]
   go_enter Tryz.func120,Tryz.ntmps120
   go_wp2
   go_ret
   exact ⟨rfl,((Below.refl _ _).alloc (Nat.le_refl _) _).alloc (by simp) _⟩
end Go.Proofs.YtccabpahfmoamaaGreat
end

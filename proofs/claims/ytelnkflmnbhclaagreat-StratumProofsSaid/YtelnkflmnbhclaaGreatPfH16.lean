/- Contracts that the laws lean on: FewP, RFeR, RFew, RCir, ConP, RCon, ConL. -/
import Derived.Test.YtelnkflmnbhclaaGreatPfH10
import Derived.Test.YtelnkflmnbhclaaGreatPfH04
import Derived.Test.YtelnkflmnbhclaaGreatPfK24
set_option maxRecDepth 100000
set_option maxHeartbeats 16000000
section
namespace Go.Proofs.YtelnkflmnbhclaaGreat
open Go.RowKit Go.Proofs Go.Shelf
def fewStep (x y:List Int) (b:Bound):List Int:=if rAt x b.src<farV then rPut y b.dst (min (rAt y b.dst) (rAt x b.src+b.most)) else y
def fewTo (bs:List Bound) (x y0:List Int):Nat→List Int
 | 0=>y0
 | k+1=>match bs[k]? with
   | some b=>fewStep x (fewTo bs x y0 k) b
   | none=>fewTo bs x y0 k
def fewRow (m:Nat) (bs:List Bound) (x:List Int):List Int:=fewTo bs x (List.replicate m farV) bs.length
def fewIter (m:Nat) (bs:List Bound) (p:Nat):Nat→List Int
 | 0=>(List.replicate m farV).set p 0
 | k+1=>fewRow m bs (fewIter m bs p k)
section
variable {pts:Int} {bs:List Bound}
structure FewInv (m:Nat) (bs:List Bound) (a best:Nat):Prop where
 is:best=0∨∃ p,p<m∧1≤best∧best≤m∧val (fewIter m bs p best) p<0
 no:∀ p k,p<a→1≤k→k≤m→(best=0∨k<best)→¬val (fewIter m bs p k) p<0
structure FewMid (m:Nat) (bs:List Bound) (a many best:Nat):Prop where
 inv:FewInv m bs a best
 mid:∀ k,1≤k→k<many→(best=0∨k<best)→¬val (fewIter m bs a k) a<0
theorem FewInv.zero (m:Nat) (bs:List Bound):FewInv m bs 0 0:=⟨.inl rfl,fun p k h=>absurd h (by omega)⟩
theorem FewMid.start {m a best:Nat} (h:FewInv m bs a best):FewMid m bs a 1 best:=⟨h,fun k h1 h2=>absurd h2 (by omega)⟩
theorem FewMid.next {m a many best:Nat} (h:FewMid m bs a many best) (_:best=0∨many<best) (hv:¬val (fewIter m bs a many) a<0):FewMid m bs a (many+1) best:=
 ⟨h.inv,fun k k1 k2 k3=>by
   by_cases e:k=many
   · rw [e];exact hv
   · exact h.mid k k1 (by omega) k3⟩
theorem FewMid.hit {m a many best:Nat} (h:FewMid m bs a many best) (ha:a<m) (h0:1≤many) (hm:many≤m) (h1:best=0∨many<best) (hv:val (fewIter m bs a many) a<0):FewMid m bs a (many+1) many:=
 ⟨⟨.inr ⟨a,ha,h0,hm,hv⟩,fun p k p1 k1 k2 k3=>h.inv.no p k p1 k1 k2 (by omega)⟩,fun k k1 k2 k3=>h.mid k k1 (by omega) (by omega)⟩
theorem FewMid.done {m a many best:Nat} (h:FewMid m bs a many best) (hm:m<many∨(best≠0∧best≤many)):FewInv m bs (a+1) best:=
 ⟨h.inv.is,fun p k p1 k1 k2 k3=>by
   by_cases e:p=a
   · rw [e];exact h.mid k k1 (by omega) k3
   · exact h.inv.no p k (by omega) k1 k2 k3⟩
end
end Go.Proofs.YtelnkflmnbhclaaGreat
end
section
namespace Go.Proofs.YtelnkflmnbhclaaGreat
open Go.RowKit Go.Proofs
open Go.Shelf
def msum:List Link→Int
 | []=>0
 | x::l=>x.most+msum l
theorem msum_append:∀ u v:List Link,msum (u++v)=msum u+msum v
 | [],v=>by simp [msum]
 | x::u,v=>by simp [msum,msum_append u v];omega
def stepOk (L C:List Link) (i:Nat):Prop:=∃ x y,C[i]? = some x∧C[(i+1) % C.length]? = some y∧x∈L∧x.dst=y.src∧∀ (k:Nat) (z:Link),k<i→C[k]? = some z→z.src≠x.src
def RCirP (L C:List Link):Prop:=2≤C.length∧(∀ i,i<C.length→stepOk L C i)∧msum C<0
theorem circ_no {L C:List Link} {i:Nat} (hi:i<C.length) (h:¬stepOk L C i):¬RCirP L C:=fun hc=>h (hc.2.1 i hi)
theorem rcircle_any (Al:Option Addr) (m cl:Nat) (L:List Link) (Ac:Option Addr) (n cc:Nat) (C:List Link) (w:World) (hl:Rd encLink 6 w Al m cl L) (hc:Rd encLink 6 w Ac n cc C) (hm:m≤1000000) (hn:n≤1000000) (hmost:∀ x∈L,-10000≤x.most∧x.most≤10000):
 Calls Tryz.prog 114 #[.slice Al m cl,.slice Ac n cc] w fun e w'=> ∃ b:Bool,e = .returned (.bool b)∧(b=true↔RCirP L C)∧Below w.heap.size w w':=by
 have HLL:=Lib.hid hl.len;have hCL:=hc.len;have HL:=Lib.hid hl;have HC:=Lib.hid hc;have HMO:=Lib.hid hmost;clear hl hc hmost;by_cases h2:n<2
 · have HNO:Hid (¬RCirP L C):=(show ¬_ from fun h=>by have:=h.1;omega)
   go_enter Tryz.func114,Tryz.ntmps114;go_wp2;go_ret;exact ⟨false,rfl,⟨fun h=>(by cases h),fun h=>absurd h HNO.out⟩,Below.refl _ _⟩
 have HCL:=Lib.hid hCL;clear hCL;go_enter Tryz.func114,Tryz.ntmps114;go_wp2;go_loopw [5,6] (fun s5 s6 wr=> ∃ (i:Nat) (z:Int),i≤n∧s5 = .int .i64 z∧s6 = .int .i64 i∧Hid (Below w.heap.size w wr)∧Hid (∀ j,j<i→stepOk L C j)∧Hid (msum (C.take i)=z)∧ -(10000 * (i:Int))≤z∧z≤10000 * (i:Int)) (fun _ s6 _=>n-(intOf s6).toNat)
 case atStart=>exact ⟨0,0,Nat.zero_le _,rfl,rfl,(show Below _ _ _ from Below.refl _ _),(show ∀ j,j<0→_ from fun j h=>absurd h (by omega)),(show _=_ from rfl),by omega,by omega⟩
 case round=>
  obtain ⟨i,z,hi,rfl,rfl,hb,hok,hz,hz1,hz2⟩:=hrel;rename World=>wo;have hzr:=hb.out.size;by_cases hlt:i<n
  case neg=>
   have hin:i=n:=by omega
   have HFIN:Hid (decide (z<0)=true↔RCirP L C):=(show _↔_ by
    have h1:=hz.out;rw [hin,List.take_of_length_le (by rw [HCL.out];exact Nat.le_refl _)] at h1;rw [decide_eq_true_iff,←h1]
    exact ⟨fun h=>⟨by have:=HCL.out;omega,fun j hj=>hok.out j (by have:=HCL.out;omega),h⟩,fun h=>h.2.2⟩)
   go_wp2;go_ret;exact ⟨_,rfl,HFIN.out,hb.out⟩
  case pos=>
   obtain ⟨bc,oc,x,hA,hbcw,hx,hcx⟩:=(HC.out.below hb.out (Nat.le_refl _)).one hlt;subst hA;have HX:=Lib.hid hx
   have hbcB:bc<w.heap.size:=(by obtain ⟨b',o',e',hb',_⟩:=HC.out.at_ (show 0<n by omega);cases e';exact hb')
   have CC:Hid (∀ (W:World) (k:Nat) (y:Link),Below w.heap.size w W→C[k]? = some y→W.cell? ⟨bc,oc+k * 6,none⟩=some (.int .i64 y.src.pit)∧W.cell? ⟨bc,oc+k * 6+1,none⟩=some (.int .i64 y.src.layer)∧W.cell? ⟨bc,oc+k * 6+2,none⟩=some (.int .i64 y.dst.pit)∧W.cell? ⟨bc,oc+k * 6+3,none⟩=some (.int .i64 y.dst.layer)∧W.cell? ⟨bc,oc+k * 6+4,none⟩=some (.int .i64 y.most)∧W.cell? ⟨bc,oc+k * 6+5,none⟩=some (.int .i64 y.by_)):=(show ∀ (W:World) (k:Nat) (y:Link),_→_→_ from fun W k y h1 h2=>by
    have hk:k<n:=by have:=(List.getElem?_eq_some_iff.1 h2).1;have:=HCL.out;omega
    obtain ⟨b3,o3,y3,e3,_,h3,c3⟩:=(HC.out.below h1 (Nat.le_refl _)).one hk;cases e3;obtain rfl:y=y3:=Option.some.inj (h2.symm.trans h3)
    exact ⟨c3 0 _ rfl,c3 1 _ rfl,c3 2 _ rfl,c3 3 _ rfl,c3 4 _ rfl,c3 5 _ rfl⟩)
   clear hcx hx;go_wp2;go_loopw [7,8] (fun s7 s8 wr=> ∃ (k:Nat) (b:Bool),k≤m∧s7 = .bool b∧s8 = .int .i64 k∧Hid (Below w.heap.size w wr)∧Hid (b=true↔x∈L.take k)) (fun _ s8 _=>m-(intOf s8).toNat)
   case atStart=>exact ⟨0,false,Nat.zero_le _,rfl,rfl,hb,(show _↔_ by simp)⟩
   case round=>
    obtain ⟨k,b,hk,rfl,rfl,hb2,hbi⟩:=hrel;rename World=>w2;have hz2':=hb2.out.size
    have hbcw2:bc<w2.heap.size:=(by omega)
    obtain ⟨x0,x1,x2,x3,x4,x5⟩:=CC.out w2 i x hb2.out HX.out;by_cases hlt2:k<m
    · obtain ⟨bl,ol,y,hAl,hblw,hy,hcy⟩:=(HL.out.below hb2.out (Nat.le_refl _)).one hlt2
      subst hAl;have y0:w2.cell? ⟨bl,ol+k * 6,none⟩=some (.int .i64 y.src.pit):=hcy 0 _ rfl;have y1:w2.cell? ⟨bl,ol+k * 6+1,none⟩=some (.int .i64 y.src.layer):=hcy 1 _ rfl;have y2:w2.cell? ⟨bl,ol+k * 6+2,none⟩=some (.int .i64 y.dst.pit):=hcy 2 _ rfl;have y3:w2.cell? ⟨bl,ol+k * 6+3,none⟩=some (.int .i64 y.dst.layer):=hcy 3 _ rfl;have y4:w2.cell? ⟨bl,ol+k * 6+4,none⟩=some (.int .i64 y.most):=hcy 4 _ rfl;have y5:w2.cell? ⟨bl,ol+k * 6+5,none⟩=some (.int .i64 y.by_):=hcy 5 _ rfl
      have HTK:Hid (L.take (k+1)=L.take k ++ [y]):=(show _=_ by rw [List.take_add_one,hy];rfl)
      clear hcy hy
      cases b with
      | true=>
        go_wp2_with (go_quiet (fail));go_roundw
        all_goals first
         | (simp [intOf];omega)
         | exact ⟨k+1,true,by omega,rfl,by go_num,(show Below _ _ _ from below_drewN' hb2.out _),(show _↔_ from ⟨fun _=>by rw [HTK.out];exact List.mem_append_left _ (hbi.out.1 rfl),fun _=>rfl⟩)⟩
      | false=>
        have hno:x∉L.take k:=fun h=>by have:=hbi.out.2 h;cases this
        have HNO:=Lib.hid hno;clear hno;cases hq:eqLink ⟨⟨y.src.pit,y.src.layer⟩,⟨y.dst.pit,y.dst.layer⟩,y.most,y.by_⟩ ⟨⟨x.src.pit,x.src.layer⟩,⟨x.dst.pit,x.dst.layer⟩,x.most,x.by_⟩
        all_goals
         have HQ:=Lib.hid hq;go_wp2_with (go_quiet (fail));clear hq;go_roundw
        all_goals first
         | (simp [intOf];omega)
         | exact ⟨k+1,_,by omega,rfl,by go_num,(show Below _ _ _ from below_drewN' hb2.out _),(show _↔_ from by
            rw [HTK.out,List.mem_append,List.mem_singleton]
            first
             | exact ⟨fun _=> .inr (eqLink_iff.1 HQ.out).symm,fun _=>rfl⟩
             | exact ⟨fun h=>(by cases h),fun h=>by
                rcases h with h|h
                · exact absurd h HNO.out
                · have:=eqLink_iff.2 h.symm
                  have h2:=HQ.out;rw [show eqLink ⟨⟨y.src.pit,y.src.layer⟩,⟨y.dst.pit,y.dst.layer⟩,y.most,y.by_⟩ ⟨⟨x.src.pit,x.src.layer⟩,⟨x.dst.pit,x.dst.layer⟩,x.most,x.by_⟩=eqLink y x from rfl,this] at h2
                  cases h2⟩)⟩
    · have hkm:k=m:=by omega
      have HIN:Hid (b=true↔x∈L):=(show _↔_ by have h1:=hbi.out;rwa [hkm,List.take_of_length_le (by rw [HLL.out];exact Nat.le_refl _)] at h1)
      clear hbi
      cases b with
      | false=>
        have HNO:Hid (¬RCirP L C):=(show ¬_ from circ_no (i:=i) (by have:=HCL.out;omega) (fun ⟨x',_,h1,_,h3,_⟩=>by
         rw [HX.out] at h1;cases h1;have:=HIN.out.2 h3
         cases this))
        go_wp2_with (go_quiet (fail));go_ret;exact ⟨false,rfl,⟨fun h=>(by cases h),fun h=>absurd h HNO.out⟩,below_drewN' hb2.out _⟩
      | true=>
        have HXL:Hid (x∈L):=(show x∈L from HIN.out.1 rfl)
        obtain ⟨r,hr⟩:∃ r,(i+1) % n=r:=⟨_,rfl⟩
        have hrn:r<n:=(by rw [←hr];exact Nat.mod_lt _ (by omega))
        obtain ⟨y2,hy2⟩:∃ y,C[r]? = some y:=⟨_,List.getElem?_eq_getElem (by have:=HCL.out;omega)⟩
        obtain ⟨e0,e1,e2,e3,e4,e5⟩:=CC.out w2 r y2 hb2.out hy2
        have hr1:((i:Int)+1).tmod (n:Int)=(r:Int):=by
         rw [Int.tmod_eq_emod_of_nonneg (by omega),←hr];exact (Int.natCast_emod (i+1) n).symm
        have HY2:Hid (C[(i+1) % C.length]? = some y2):=(show _=_ by rw [HCL.out,hr];exact hy2)
        have hn0:(n:Int)≠0:=by omega
        have hnz:((n:Int)==0)=false:=by simp;omega
        clear hr hy2 HIN e2 e3 e4 e5
        cases q1:eqPlace ⟨x.dst.pit,x.dst.layer⟩ ⟨y2.src.pit,y2.src.layer⟩ with
        | false=>
          have HQ1:=Lib.hid q1
          have HNO:Hid (¬RCirP L C):=(show ¬_ from circ_no (i:=i) (by have:=HCL.out;omega) (fun ⟨x',y',h1,h3,_,h4,_⟩=>by
           rw [HX.out] at h1;rw [HY2.out] at h3;cases h1;cases h3
           exact eqPlace_no.1 HQ1.out h4))
          go_wp2_with (go_quiet (fail));go_ret;exact ⟨false,rfl,⟨fun h=>(by cases h),fun h=>absurd h HNO.out⟩,below_drewN' hb2.out _⟩
        | true=>
          have HQ1:=Lib.hid q1;go_wp2_with (go_quiet (fail));clear q1 e0 e1 x0 x1 x2 x3 x4 x5 hr1 hnz hn0;go_loopw [9] (fun s9 wr=> ∃ (k:Nat),k≤i∧s9 = .int .i64 k∧Hid (Below w.heap.size w wr)∧Hid (∀ (j:Nat) (z:Link),j<k→C[j]? = some z→z.src≠x.src)) (fun s9 _=>i-(intOf s9).toNat)
          case atStart=>exact ⟨0,Nat.zero_le _,rfl,(show Below _ _ _ from below_drewN' hb2.out _),(show ∀ (j:Nat) (z:Link),j<0→_ from fun j z h=>absurd h (by omega))⟩
          case round=>
           obtain ⟨k3,hk3,rfl,hb3,hds⟩:=hrel;rename World=>w3;have hz3:=hb3.out.size
           have hbcw3:bc<w3.heap.size:=(by omega)
           obtain ⟨x0,x1,x2,x3,x4,x5⟩:=CC.out w3 i x hb3.out HX.out;by_cases hlt3:k3<i
           · obtain ⟨u,hu⟩:∃ u,C[k3]? = some u:=⟨_,List.getElem?_eq_getElem (by have:=HCL.out;omega)⟩
             obtain ⟨u0,u1,_,_,_,_⟩:=CC.out w3 k3 u hb3.out hu;have HU:=Lib.hid hu;clear hu
             cases q2:eqPlace ⟨u.src.pit,u.src.layer⟩ ⟨x.src.pit,x.src.layer⟩ with
             | true=>
               have HQ2:=Lib.hid q2
               have HNO:Hid (¬RCirP L C):=(show ¬_ from circ_no (i:=i) (by have:=HCL.out;omega) (fun ⟨x',_,h1,_,_,_,h4⟩=>by
                rw [HX.out] at h1;cases h1
                exact h4 k3 u hlt3 HU.out (eqPlace_iff.1 HQ2.out)))
               go_wp2_with (go_quiet (fail));go_ret;exact ⟨false,rfl,⟨fun h=>(by cases h),fun h=>absurd h HNO.out⟩,below_drewN' hb3.out _⟩
             | false=>
               have HQ2:=Lib.hid q2;go_wp2_with (go_quiet (fail));clear q2;go_roundw
               all_goals first
                | (simp [intOf];omega)
                | exact ⟨k3+1,by omega,by go_num,(show Below _ _ _ from below_drewN' hb3.out _),(show ∀ (j:Nat) (z:Link),j<k3+1→C[j]? = some z→z.src≠x.src from fun j z hj h=>by
                   by_cases e:j=k3
                   · subst e
                     rw [HU.out] at h;cases h;exact eqPlace_no.1 HQ2.out
                   · exact hds.out j z (by omega) h)⟩
           · have hki:k3=i:=by omega
             have HOK:Hid (∀ j,j<i+1→stepOk L C j):=(show ∀ j,j<i+1→stepOk L C j from fun j hj=>by
              by_cases e:j=i
              · subst e
                exact ⟨x,y2,HX.out,HY2.out,HXL.out,eqPlace_iff.1 HQ1.out,fun q z hq h=>hds.out q z (by omega) h⟩
              · exact hok.out j (by omega))
             have HSU:Hid (msum (C.take (i+1))=z+x.most):=(show _=_ by rw [List.take_add_one,HX.out,Option.toList_some,msum_append,hz.out];simp [msum])
             have hmx:=HMO.out x HXL.out;have hw:IntKind.i64.wrap (z+x.most)=z+x.most:=by rw [IntKind.wrap_i64];omega
             go_wp2;go_roundw
             all_goals first
              | (simp [intOf];omega)
              | exact ⟨i+1,z+x.most,by omega,by go_num,by go_num,hb3,HOK,HSU,by omega,by omega⟩
theorem walk_iff:∀ (ws:List Bound) (a p:Nat),ws ≠ []→(isWalk a ws p↔(∃ b,ws[0]? = some b∧b.src.toNat=a)∧(∀ (i:Nat) (b b':Bound),ws[i]? = some b→ws[i+1]? = some b'→b.dst.toNat=b'.src.toNat)∧∃ b,ws[ws.length-1]? = some b∧b.dst.toNat=p)
 | [],_,_,h=>absurd rfl h
 | [b],a,p,_=>by
   constructor
   · rintro ⟨h1,h2⟩
     exact ⟨⟨b,rfl,h1⟩,fun i c c' hc hc'=>by simp at hc',⟨b,rfl,h2⟩⟩
   · rintro ⟨⟨c,h1,h2⟩,_,⟨c',h3,h4⟩⟩
     cases h1;cases h3;exact ⟨h2,h4⟩
 | b::b'::t,a,p,_=>by
   have ih:=walk_iff (b'::t) b.dst.toNat p (by simp)
   constructor
   · rintro ⟨h1,h2⟩
     obtain ⟨⟨c,g1,g2⟩,g3,c',g4,g5⟩:=ih.1 h2;cases g1;refine ⟨⟨b,rfl,h1⟩,fun i u u' hu hu'=> ?_,c',?_,g5⟩
     · cases i with
       | zero=>
         cases hu;cases hu';exact g2.symm
       | succ i=>
         rw [List.getElem?_cons_succ] at hu hu';exact g3 i u u' hu hu'
     · have:(b::b'::t).length-1=(b'::t).length-1+1:=by simp
       rw [this,List.getElem?_cons_succ];exact g4
   · rintro ⟨⟨c,g1,g2⟩,g3,c',g4,g5⟩
     cases g1;refine ⟨g2,ih.2 ⟨⟨b',rfl,(g3 0 b b' rfl rfl).symm⟩,fun i u u' hu hu'=>g3 (i+1) u u' (by rw [List.getElem?_cons_succ];exact hu) (by rw [List.getElem?_cons_succ];exact hu'),c',?_,g5⟩⟩;have:(b::b'::t).length-1=(b'::t).length-1+1:=by simp
     rw [this,List.getElem?_cons_succ] at g4;exact g4
theorem sumW_msum (m:List (Place×Int)):∀ C:List Link,sumW (C.map (boundOf m))=msum C
 | []=>rfl
 | x::C=>by rw [List.map_cons,sumW,msum,sumW_msum m C];rfl
theorem circ_contra {ps:List Place} {L C:List Link} (hn:ps.Nodup) (hz:z00∉ps) (hg:∀ x∈L,goodLink ps x):RCirP L C↔ContraP L (ptsM ps ps.length) C:=by
 have inj:∀ p q:Place,(p=z00∨p∈ps)→(q=z00∨q∈ps)→((getM (ptsM ps ps.length) p).getD 0).toNat=((getM (ptsM ps ps.length) q).getD 0).toNat→p=q:=fun p q hp hq h=>by
  rw [←plAt_of hn hz hp,←plAt_of hn hz hq,h]
 have hs:∀ x:Link,(boundOf (ptsM ps ps.length) x).src=(getM (ptsM ps ps.length) x.src).getD 0:=fun x=>rfl
 have hd:∀ x:Link,(boundOf (ptsM ps ps.length) x).dst=(getM (ptsM ps ps.length) x.dst).getD 0:=fun x=>rfl
 have hmap:∀ i,(C.map (boundOf (ptsM ps ps.length)))[i]? = (C[i]?).map (boundOf (ptsM ps ps.length)):=fun i=>List.getElem?_map
 unfold ContraP;generalize hB:boundOf (ptsM ps ps.length)=B at *;have hlen:(C.map B).length=C.length:=List.length_map _;have hsum:sumW (C.map B)=msum C:=by rw [←hB];exact sumW_msum _ C
 constructor
 · rintro ⟨h1,h2,h3⟩
   have hin:∀ x∈C,x∈L:=fun x hx=>by
    obtain ⟨i,hi⟩:=List.mem_iff_getElem?.1 hx;obtain ⟨x',_,g1,_,g2,_⟩:=h2 i (List.getElem?_eq_some_iff.1 hi).1;rw [hi] at g1;cases g1;exact g2
   have hne:C.map B ≠ []:=fun e=>by
    have:=congrArg List.length e;rw [hlen] at this;simp at this;rw [this] at h1;simp at h1
   refine ⟨hin,h1,?_,?_,by rw [hsum];exact h3⟩
   · obtain ⟨x0,y0,a1,_,a3,_,_⟩:=h2 0 (by omega)
     refine ⟨(B x0).src.toNat,(walk_iff _ _ _ hne).2 ⟨⟨B x0,by rw [hmap,a1];rfl,rfl⟩,fun i b b' hb hb'=> ?_,?_⟩⟩
     · rw [hmap] at hb hb'
       obtain ⟨x,hx,rfl⟩:=Option.map_eq_some_iff.1 hb;obtain ⟨x',hx',rfl⟩:=Option.map_eq_some_iff.1 hb';have hlt:=(List.getElem?_eq_some_iff.1 hx').1;obtain ⟨u,v,g1,g2,_,g4,_⟩:=h2 i (by omega);rw [Nat.mod_eq_of_lt hlt,hx'] at g2;rw [hx] at g1;cases g1;cases g2;rw [hd,hs,g4]
     · obtain ⟨u,v,g1,g2,_,g4,_⟩:=h2 (C.length-1) (by omega)
       have:(C.length-1+1) % C.length=0:=by rw [Nat.sub_add_cancel (by omega),Nat.mod_self]
       rw [this,a1] at g2;cases g2;exact ⟨B u,by rw [hlen,hmap,g1];rfl,by rw [hd,hs,g4]⟩
   · unfold leaves
     rw [List.map_map,List.Nodup,List.pairwise_map,List.pairwise_iff_getElem];intro i j hi hj hij e;obtain ⟨x,_,g1,_,g3,_,g5⟩:=h2 j hj;have hzi:C[i]? = some C[i]:=List.getElem?_eq_getElem hi;have hxj:C[j]=x:=by rw [List.getElem?_eq_getElem hj] at g1;exact Option.some.inj g1
     refine g5 i C[i] hij hzi (inj _ _ (hg _ (hin _ (List.getElem_mem _))).1 (hg _ g3).1 ?_);rw [←hs,←hs,←hxj];exact e
 · rintro ⟨hin,h1,⟨a,ha⟩,hnd,h3⟩
   have hne:C.map B ≠ []:=fun e=>by
    have:=congrArg List.length e;rw [hlen] at this;simp at this;rw [this] at h1;simp at h1
   obtain ⟨⟨b0,k1,k2⟩,k3,bl,k4,k5⟩:=(walk_iff _ _ _ hne).1 ha;refine ⟨h1,fun i hi=> ?_,by rw [←hsum];exact h3⟩
   obtain ⟨x,hx⟩:∃ x,C[i]? = some x:=⟨_,List.getElem?_eq_getElem hi⟩
   have hr:(i+1) % C.length<C.length:=Nat.mod_lt _ (by omega)
   obtain ⟨y,hy⟩:∃ y,C[(i+1) % C.length]? = some y:=⟨_,List.getElem?_eq_getElem hr⟩
   have hxL:=hin _ (List.mem_of_getElem? hx);have hyL:=hin _ (List.mem_of_getElem? hy);refine ⟨_,_,hx,hy,hxL,inj _ _ (hg _ hxL).2.1 (hg _ hyL).1 ?_,fun k z hk hzk e=> ?_⟩
   · rw [←hd,←hs]
     by_cases hlt:i+1<C.length
     · have e:(i+1) % C.length=i+1:=Nat.mod_eq_of_lt hlt
       refine k3 i _ _ (by rw [hmap,hx];rfl) ?_;rw [hmap];rw [e] at hy;rw [hy];rfl
     · have hie:i=C.length-1:=by omega
       have e:(i+1) % C.length=0:=by rw [hie,Nat.sub_add_cancel (by omega),Nat.mod_self]
       rw [hlen,hmap,←hie,hx] at k4;cases k4;rw [hmap] at k1;rw [e] at hy;rw [hy] at k1;cases k1;rw [k5,k2]
   · unfold leaves at hnd
     rw [List.map_map,List.Nodup,List.pairwise_map,List.pairwise_iff_getElem] at hnd;have hki:k<C.length:=by omega
     refine hnd k i hki hi hk ?_;have hzk':C[k]=z:=by rw [List.getElem?_eq_getElem hki] at hzk;exact Option.some.inj hzk
     have hxi:C[i]=x:=by rw [List.getElem?_eq_getElem hi] at hx;exact Option.some.inj hx
     show (B C[k]).src.toNat=(B C[i]).src.toNat
     rw [hs,hs,hzk',hxi,e]
section
variable {l:List Trace} {known:Int} {bs:List Bond} {mv:List Place}
end
end Go.Proofs.YtelnkflmnbhclaaGreat
end

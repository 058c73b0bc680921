/- Contracts that the laws lean on: LinX, LinO, LinQ. -/
import Derived.Test.YtejjplhknacoiaaGreatDoorLH02
set_option maxRecDepth 100000
set_option maxHeartbeats 8000000
section
namespace Go.Proofs.YtejjplhknacoiaaGreatDoor
open Go.RowKit Go.Proofs
theorem Rd.str {w W:World} {bk off n c:Nat} {zs:List ByteArray} (hr:Rd encStr 1 w (some ⟨bk,off,none⟩) n c zs) (hW:Below w.heap.size w W) {k:Nat} {z:ByteArray} (hk:zs[k]? = some z):W.cell? ⟨bk,off+k,none⟩=some (.string z):=by
 have hl:k<zs.length:=(List.getElem?_eq_some_iff.1 hk).1
 obtain ⟨bk',off',he,hbk,hcs⟩:=hr.at_ (by have:=hr.len;omega)
 injection he with he
 injection he with e1 e2 e3
 subst e1 e2
 have:=hcs k z hk 0 _ rfl
 exact (hW.cell hbk).trans (by simpa using this)
theorem Index_Str (bk off n c:Nat) (l:List ByteArray) (s:ByteArray) (w:World) (hl:Rd encStr 1 w (some ⟨bk,off,none⟩) n c l):
 Calls Tryz.prog 27 #[.slice (some ⟨bk,off,none⟩) n c,.string s] w fun e w'=> ∃ i:Int,e = .returned (.int .i64 i)∧((∃ k:Nat,i=k∧l[k]? = some s)∨(i = -1∧s∉l))∧Below w.heap.size w w':=by
 have HL:=Lib.hid hl
 have hbig:=hl.big
 have hlen:=hl.len
 clear hl
 go_enter Tryz.func27,Tryz.ntmps27
 go_wp2
 go_loopw [8] (fun s8 wr=> ∃ k:Nat,k≤n∧s8 = .int .i64 k∧Hid (Below w.heap.size w wr)∧Hid (∀ (q:Nat) x,q<k→l[q]? = some x→x≠s)) (fun s8 _=>n-(intOf s8).toNat)
 case atStart=>exact ⟨0,Nat.zero_le _,rfl,(show Below _ _ _ from Below.refl _ _),(show ∀ (q:Nat) x,_→_→_ from fun q x h=>absurd h (by omega))⟩
 case round=>
  obtain ⟨k,hk,rfl,hbr,hno⟩:=hrel
  by_cases hlt:k<n
  · have hlt':(k:Int)<(n:Int):=(by omega)
    obtain ⟨x,hx⟩:∃ x,l[k]? = some x:=⟨l[k]'(by omega),List.getElem?_eq_getElem _⟩
    have hcell:=HL.out.str hbr.out hx
    have HX:=Lib.hid hx
    clear hx
    by_cases he:s=x
    · have HE:=Lib.hid he
      subst he
      go_wp2
      go_ret
      exact ⟨k,rfl,.inl ⟨k,rfl,HX.out⟩,hbr.out⟩
    · have hne:(s.toList==x.toList)=false:=str_ne he
      have HN:=Lib.hid he
      clear he
      go_wp2
      go_roundw
      all_goals first
       | (simp [intOf];omega)
       | exact ⟨k+1,by omega,by go_num,hbr,(show ∀ (q:Nat) y,_→_→_ from fun q y hq hy=>by
          by_cases hqk:q<k
          · exact hno.out q y hqk hy
          · obtain rfl:q=k:=by omega
            rw [HX.out] at hy
            cases hy
            exact fun e=>HN.out e.symm)⟩
  · obtain rfl:k=n:=by omega
    have hlt':¬(k:Int)<(k:Int):=(by omega)
    go_wp2
    go_ret
    refine ⟨-1,rfl,.inr ⟨rfl,fun hm=> ?_⟩,hbr.out⟩
    obtain ⟨q,hq⟩:=List.mem_iff_getElem?.1 hm
    exact hno.out q s (by have:=(List.getElem?_eq_some_iff.1 hq).1;omega) hq rfl
theorem take_data (s:ByteArray) (i j:Nat):(s.extract i j).data.toList=(s.data.toList.drop i).take (j-i):=by
 rw [ByteArray.data_extract,Array.toList_extract]
def CutAt (L:List UInt8) (os:List ByteArray) (from_ i:Nat):Prop:=
 (i≤L.length∧from_≤i∧cutL L=os.map (·.data.toList)++cutL (L.drop from_)∧(32:UInt8)∉(L.drop from_).take (i-from_))∨(i=L.length+1∧cutL L=os.map (·.data.toList))
theorem CutAt.blank {L:List UInt8} {os:List ByteArray} {from_ i:Nat} (h:CutAt L os from_ i) (hi:L[i]? = some 32) (x:ByteArray) (hx:x.data.toList=(L.drop from_).take (i-from_)):CutAt L (os ++ [x]) (i+1) (i+1):=by
 have hl:i<L.length:=(List.getElem?_eq_some_iff.1 hi).1
 rcases h with ⟨h1,h2,h3,h4⟩|⟨h1,_⟩
 · refine .inl ⟨by omega,Nat.le_refl _,?_,by rw [Nat.sub_self,List.take_zero];simp⟩
   have e:L.drop from_=(L.drop from_).take (i-from_)++32::L.drop (i+1):=by
    have e1:=(List.take_append_drop (i-from_) (L.drop from_)).symm
    rw [List.drop_drop,show from_+(i-from_)=i from by omega] at e1
    rw [List.drop_eq_getElem_cons hl] at e1
    have e2:L[i]=32:=by rw [List.getElem?_eq_getElem hl] at hi;exact Option.some.inj hi
    rw [e2] at e1
    exact e1
   rw [h3,e,cutL_more _ h4,List.map_append,List.map_singleton,hx,List.append_assoc]
   rfl
 · omega
theorem CutAt.last {L:List UInt8} {os:List ByteArray} {from_ i:Nat} (h:CutAt L os from_ i) (hi:i=L.length) (x:ByteArray) (hx:x.data.toList=(L.drop from_).take (i-from_)):CutAt L (os ++ [x]) (i+1) (i+1):=by
 rcases h with ⟨h1,h2,h3,h4⟩|⟨h1,_⟩
 · refine .inr ⟨by omega,?_⟩
   rw [List.take_of_length_le (by rw [List.length_drop];omega)] at h4 hx
   rw [h3,cutL_one h4,List.map_append,List.map_singleton,hx]
 · omega
theorem CutAt.on {L:List UInt8} {os:List ByteArray} {from_ i:Nat} (h:CutAt L os from_ i) {b:UInt8} (hi:L[i]? = some b) (hb:b≠32):CutAt L os from_ (i+1):=by
 have hl:i<L.length:=(List.getElem?_eq_some_iff.1 hi).1
 rcases h with ⟨h1,h2,h3,h4⟩|⟨h1,_⟩
 · refine .inl ⟨by omega,by omega,h3,?_⟩
   rw [show i+1-from_=(i-from_)+1 from by omega,List.take_add_one,List.getElem?_drop,show from_+(i-from_)=i from by omega,hi]
   intro hm
   rcases List.mem_append.1 hm with hm|hm
   · exact h4 hm
   · simp at hm
     exact hb hm.symm
 · omega
theorem r8words_any (s:ByteArray) (hs:s.size≤1000) (w:World):
 Calls Tryz.prog 28 #[.string s] w fun e w'=> ∃ A c os,e = .returned (.slice A (cutL s.data.toList).length c)∧Below w.heap.size w w'∧Rd encStr 1 w' A (cutL s.data.toList).length c os∧os.map (·.data.toList)=cutL s.data.toList:=by
 have HSZ:Hid (s.data.toList.length=s.size):=(show _=_ from by rw [Lib.size_eq])
 have HGE:Hid (∀ (i:Nat) (h:i<s.size),∃ b,s.data.toList[i]? = some b∧s.data[i]?.getD 0=b):=(show ∀ (i:Nat) (h:i<s.size),_ from fun i h=>⟨s.data[i]'h,by rw [Array.getElem?_toList];exact Array.getElem?_eq_getElem h,by rw [Array.getElem?_eq_getElem h];rfl⟩)
 go_enter Tryz.func28,Tryz.ntmps28
 go_wp2
 go_loopw [3,4,5] (fun s3 s4 s5 wr=> ∃ (i fr n:Nat) (os:List ByteArray) (A:Option Addr) (c:Nat),i≤s.size+1∧fr≤i∧n≤i∧s5 = .int .i64 i∧s4 = .int .i64 fr∧s3 = .slice A n c∧Hid (Below w.heap.size w wr)∧Hid (Own encStr 1 9 w.heap.size wr A n c os)∧Hid (CutAt s.data.toList os fr i)) (fun _ _ s5 _=>s.size+2-(intOf s5).toNat)
 case atStart=>exact ⟨0,0,0,[],none,0,by omega,Nat.le_refl _,Nat.le_refl _,rfl,rfl,rfl,(show Below _ _ _ from Below.refl _ _),(show Own _ _ _ _ _ _ _ _ _ from Own.none_ _ _ _ _ _),(show CutAt _ _ _ _ from .inl ⟨Nat.zero_le _,Nat.le_refl _,by simp,by simp⟩)⟩
 case round=>
  obtain ⟨i,fr,n,os,A,c,hi,hfr,hos,rfl,rfl,rfl,hbr,hO,hC⟩:=hrel
  by_cases hlt:i≤s.size
  · have hlt':(i:Int)≤(s.size:Int):=(by omega)
    have hfr':(fr:Int)≤(i:Int):=(by omega)
    have hzr:=hbr.out.size
    have hX:Hid ((s.extract fr i).data.toList=(s.data.toList.drop fr).take (i-fr)):=(show _=_ from take_data s fr i)
    by_cases hend:i=s.size
    · subst hend
      have HC2:=Lib.hid (hC.out.last HSZ.out.symm (s.extract fr s.size) hX.out)
      clear hX
      have HRD:=Lib.hid (Rd.single (enc:=encStr) (k:=1) wr #[.string (s.extract fr s.size)] 9 [s.extract fr s.size] 1 rfl (by omega) (fun _=>rfl) (by simp [encStr]))
      go_wp2_with (at_builtin;refine wpList_append_src elStr (fun _=>rfl) oneStr rfl _ _ rfl (some ⟨wr.heap.size,0,none⟩) 1 1 [s.extract fr s.size] rfl rfl (hO.out.alloc _) HRD.out (by omega) (by omega) (by simp;omega) ?_;intro A' c' w8 hown' hg8 hA8
                   have HG8:=Lib.hid hg8
                   have HO8:=Lib.hid hown'
                   clear hown' hg8 hA8)
      have hB8:Below w.heap.size w w8:=(hbr.out.alloc hzr _).grown HG8.out (by simp;omega) (fun k e=>hO.out.ltB k e)
      go_roundw
      all_goals first
       | (simp [intOf];done)
       | (simp;omega)
       | exact ⟨s.size+1,s.size+1,n+1,os ++ [s.extract fr s.size],A',c',by omega,by omega,by omega,by go_num,by go_num,rfl,(show Below _ _ _ from hB8),HO8,HC2⟩
    · have hne:((i:Int)==(s.size:Int))=false:=(by simp;omega)
      have hil:(i:Int)<(s.size:Int):=(by omega)
      have hil2:i<s.size:=(by omega)
      have hq:s.data.toList[i]? = some (s[i]'hil2):=(by rw [Array.getElem?_toList];exact Array.getElem?_eq_getElem hil2)
      have HQ:=Lib.hid hq
      clear hq
      by_cases hb:(s[i]'hil2)=32
      · have hbt:(((s[i]'hil2).toNat:Int)==32)=true:=(by rw [hb];rfl)
        have HC2:=Lib.hid (hC.out.blank (by rw [HQ.out,hb]) (s.extract fr i) hX.out)
        clear hX hb
        have HRD:=Lib.hid (Rd.single (enc:=encStr) (k:=1) wr #[.string (s.extract fr i)] 9 [s.extract fr i] 1 rfl (by omega) (fun _=>rfl) (by simp [encStr]))
        go_wp2_with (at_builtin;refine wpList_append_src elStr (fun _=>rfl) oneStr rfl _ _ rfl (some ⟨wr.heap.size,0,none⟩) 1 1 [s.extract fr i] rfl rfl (hO.out.alloc _) HRD.out (by omega) (by omega) (by simp;omega) ?_;intro A' c' w8 hown' hg8 hA8
                     have HG8:=Lib.hid hg8
                     have HO8:=Lib.hid hown'
                     clear hown' hg8 hA8)
        have hB8:Below w.heap.size w w8:=(hbr.out.alloc hzr _).grown HG8.out (by simp;omega) (fun k e=>hO.out.ltB k e)
        go_roundw
        all_goals first
         | (simp [intOf];done)
         | (simp [intOf];omega)
         | exact ⟨i+1,i+1,n+1,os ++ [s.extract fr i],A',c',by omega,by omega,by omega,by go_num,by go_num,rfl,(show Below _ _ _ from hB8),HO8,HC2⟩
      · have hbt:(((s[i]'hil2).toNat:Int)==32)=false:=(by
         rw [beq_eq_false_iff_ne]
         intro e
         apply hb
         apply UInt8.toNat_inj.1
         show (s[i]'hil2).toNat=32
         omega)
        have HC2:=Lib.hid (hC.out.on HQ.out hb)
        clear hX hb
        go_wp2
        go_roundw
        all_goals first
         | (simp [intOf];done)
         | (simp [intOf];omega)
         | exact ⟨i+1,fr,n,os,A,c,by omega,by omega,by omega,by go_num,rfl,rfl,hbr,hO,HC2⟩
  · obtain rfl:i=s.size+1:=by omega
    have hlt':¬((s.size+1:Nat):Int)≤(s.size:Int):=(by omega)
    rcases hC.out with ⟨h1,_⟩|⟨_,h2⟩
    · rw [HSZ.out] at h1
      omega
    have hn:(cutL s.data.toList).length=n:=(by rw [h2,List.length_map];exact hO.out.len)
    have HH:=Lib.hid h2
    clear h2
    go_wp2
    go_ret
    first
     | exact ⟨A,c,rfl,hbr.out,os,hO.out.rd (fun _=>rfl) (by omega),HH.out.symm⟩
     | exact ⟨A,c,by rw [hn];rfl,hbr.out,os,by rw [hn];exact hO.out.rd (fun _=>rfl) (by omega),HH.out.symm⟩
theorem pow8 {k:Nat} (h:k≤8):10 ^ k≤100000000:=Nat.le_trans (Nat.pow_le_pow_right (by decide) h) (by decide)
theorem digV_bnd:∀ (l:List UInt8) (n k:Nat),n<10 ^ k→k+l.length≤8→0≤digV n l∧digV n l<100000000
 | [],n,k,h,hk=>by
   have:=pow8 (k:=k) (by simp at hk;omega)
   unfold digV
   omega
 | c::r,n,k,h,hk=>by
   unfold digV
   split
   · omega
   · rename_i hc
     have h1:=digV_bnd r (10 * n+(c.toNat-48)) (k+1) (by rw [Nat.pow_succ];omega) (by simp only [List.length_cons] at hk;omega)
     rw [show (10 * (n:Int)+c.toNat-48)=((10 * n+(c.toNat-48):Nat):Int) from by omega]
     exact h1
theorem numV_bnd:∀ (l:List UInt8),-100000000<numV l∧numV l<100000000
 | []=>by unfold numV;omega
 | c::r=>by
   have ih:=numV_bnd r
   unfold numV
   split
   · omega
   · split
     · omega
     · have:=digV_bnd (c::r) 0 0 (by decide) (by simp only [List.length_cons];omega)
       simp only [Int.natCast_zero] at this
       omega
theorem data_cons {b:ByteArray} (h:0<b.size):b.data.toList=(b[0]'h)::(b.extract 1 b.size).data.toList:=by
 rw [take_data]
 have hl:b.data.toList.length=b.size:=by rw [Lib.size_eq]
 have e:=List.drop_eq_getElem_cons (l:=b.data.toList) (i:=0) (by omega)
 rw [List.drop_zero] at e
 rw [List.take_of_length_le (by rw [List.length_drop];omega)]
 exact e
theorem numV_none {b:ByteArray} (h:b.size=0):numV b.data.toList=0:=by
 have hl:b.data.toList.length=b.size:=by rw [Lib.size_eq]
 rw [List.eq_nil_of_length_eq_zero (l:=b.data.toList) (by omega)]
 rfl
theorem numV_long {b:ByteArray} (h:8<b.size):numV b.data.toList=0:=by
 have hl:b.data.toList.length=b.size:=by rw [Lib.size_eq]
 have e:=data_cons (b:=b) (by omega)
 rw [e] at hl ⊢
 simp only [List.length_cons] at hl
 unfold numV
 rw [if_pos (by omega)]
theorem numV_neg {b:ByteArray} (h0:0<b.size) (h8:b.size≤8) (hb:b[0]'h0=45):numV b.data.toList = - numV (b.extract 1 b.size).data.toList:=by
 have hl:b.data.toList.length=b.size:=by rw [Lib.size_eq]
 have e:=data_cons h0
 rw [e] at hl ⊢
 simp only [List.length_cons] at hl
 rw [numV,if_neg (by omega),if_pos hb]
theorem numV_pos {b:ByteArray} (h0:0<b.size) (h8:b.size≤8) (hb:¬b[0]'h0=45):numV b.data.toList=digV 0 b.data.toList:=by
 have hl:b.data.toList.length=b.size:=by rw [Lib.size_eq]
 have e:=data_cons h0
 rw [e] at hl ⊢
 simp only [List.length_cons] at hl
 rw [numV,if_neg (by omega),if_neg hb]
theorem drop_at {b:ByteArray} {k:Nat} (h:k<b.size):b.data.toList.drop k=(b[k]'h)::b.data.toList.drop (k+1):=by
 have e:b.data.toList.length=b.size:=by rw [Lib.size_eq]
 exact List.drop_eq_getElem_cons (l:=b.data.toList) (i:=k) (by omega)
theorem r8number_any (m:Nat):∀ (A:Option Addr) (n c:Nat) (ws:List ByteArray) (i:Nat) (w:World),Rd encStr 1 w A n c ws→i≤1000→(ws.getD i ⟨#[]⟩).size≤m→
 Calls Tryz.prog 29 #[.slice A n c,.int .i64 (i:Int)] w fun e w'=>e = .returned (.int .i64 (numV (ws.getD i ⟨#[]⟩).data.toList))∧Below w.heap.size w w':=by
 induction m with
 | zero=>
   intro A n c ws i w hr hi hm
   have hz:(ws.getD i ⟨#[]⟩).size=0:=by omega
   rw [numV_none hz]
   by_cases hlt:i<n
   · obtain ⟨b,hb⟩:∃ b,ws[i]? = some b:=⟨ws[i]'(by have:=hr.len;omega),List.getElem?_eq_getElem _⟩
     obtain ⟨bk,off,rfl,-,-⟩:=hr.at_ (by omega)
     have hcell:=hr.str (Below.refl _ _) hb
     have hbs:b.size=0:=by rw [List.getD_eq_getElem?_getD,hb] at hz;exact hz
     have h1:¬(n:Int)≤(i:Int):=(by omega)
     have h2:(i:Int)<(n:Int):=(by omega)
     clear hr hb hz hm
     go_enter Tryz.func29,Tryz.ntmps29
     go_wp2
     go_ret
     exact ⟨rfl,Below.refl _ _⟩
   · have h1:(n:Int)≤(i:Int):=(by omega)
     clear hr hz hm
     go_enter Tryz.func29,Tryz.ntmps29
     go_wp2
     go_ret
     exact ⟨rfl,Below.refl _ _⟩
 | succ m ih=>
   intro A n c ws i w hr hi hm
   by_cases hlt:i<n
   · obtain ⟨b,hb⟩:∃ b,ws[i]? = some b:=⟨ws[i]'(by have:=hr.len;omega),List.getElem?_eq_getElem _⟩
     obtain ⟨bk,off,rfl,-,-⟩:=hr.at_ (by omega)
     have hcell:=hr.str (Below.refl _ _) hb
     have hgd:ws.getD i ⟨#[]⟩=b:=by rw [List.getD_eq_getElem?_getD,hb];rfl
     rw [hgd] at hm ⊢
     have h1:¬(n:Int)≤(i:Int):=(by omega)
     have h2:(i:Int)<(n:Int):=(by omega)
     clear hr hb hgd
     by_cases hz:b.size=0
     · rw [numV_none hz]
       go_enter Tryz.func29,Tryz.ntmps29
       go_wp2
       go_ret
       exact ⟨rfl,Below.refl _ _⟩
     by_cases h8:8<b.size
     · rw [numV_long h8]
       have hz':((b.size:Int)==0)=false:=(by rw [beq_eq_false_iff_ne];omega)
       have h8':(8:Int)<(b.size:Int):=(by omega)
       go_enter Tryz.func29,Tryz.ntmps29
       go_wp2
       go_ret
       exact ⟨rfl,Below.refl _ _⟩
     have h0:0<b.size:=(by omega)
     have hz':((b.size:Int)==0)=false:=(by rw [beq_eq_false_iff_ne];omega)
     have h8':¬(8:Int)<(b.size:Int):=(by omega)
     have h0':(0:Int)<(b.size:Int):=(by omega)
     by_cases hb:b[0]'h0=45
     · have hv:=numV_neg h0 (by omega) hb
       have hbn:=numV_bnd (b.extract 1 b.size).data.toList
       rw [hv]
       have hbt:(((b[0]'h0).toNat:Int)==45)=true:=(by rw [hb];rfl)
       have hes:(b.extract 1 b.size).size≤m:=(by rw [ByteArray.size_extract];omega)
       have KN:Hid (∀ W bk,Rd encStr 1 W (some ⟨bk,0,none⟩) 1 1 [b.extract 1 b.size]→Calls Tryz.prog 29 #[.slice (some ⟨bk,0,none⟩) 1 1,.int .i64 0] W fun e w'=>e = .returned (.int .i64 (numV (b.extract 1 b.size).data.toList))∧Below W.heap.size W w'):=(show ∀ W bk,_→_ from fun W bk h=>ih _ 1 1 [b.extract 1 b.size] 0 W h (by omega) hes)
       have HRD:=Lib.hid (Rd.single (enc:=encStr) (k:=1) w #[.string (b.extract 1 b.size)] 9 [b.extract 1 b.size] 1 rfl (by omega) (fun _=>rfl) (by simp [encStr]))
       have h1s:(1:Int)≤(b.size:Int):=(by omega)
       clear ih hv hb hm hes
       generalize numV (b.extract 1 b.size).data.toList=v at *
       go_enter Tryz.func29,Tryz.ntmps29
       go_wp2_with (go_at_call 29;(with_reducible refine (KN.out _ _ HRD.out).mono ?_);rintro e w2 ⟨rfl,hb2⟩;have HB2:=Lib.hid (((Below.refl w.heap.size w).alloc (Nat.le_refl _) _).trans (hb2.mono (by simp)));clear hb2)
       go_ret
       exact ⟨rfl,HB2.out⟩
     · have hv:=numV_pos h0 (by omega) hb
       rw [hv]
       have hbt:(((b[0]'h0).toNat:Int)==45)=false:=(by
        rw [beq_eq_false_iff_ne]
        intro e
        apply hb
        apply UInt8.toNat_inj.1
        show (b[0]'h0).toNat=45
        omega)
       have HLL:Hid (b.data.toList.length=b.size):=(show _=_ from by rw [Lib.size_eq])
       clear ih hv hb hm
       go_enter Tryz.func29,Tryz.ntmps29
       go_wp2
       go_loopw [6,7] (fun s6 s7 wr=> ∃ (k z:Nat),k≤b.size∧s7 = .int .i64 k∧s6 = .int .i64 z∧Hid (z<10 ^ k)∧Hid (digV 0 b.data.toList=digV z (b.data.toList.drop k))∧Hid (Below w.heap.size w wr)) (fun _ s7 _=>b.size-(intOf s7).toNat)
       case atStart=>exact ⟨0,0,Nat.zero_le _,rfl,rfl,(show (0:Nat)<10 ^ 0 from by decide),(show _=_ from rfl),(show Below _ _ _ from Below.refl _ _)⟩
       case round=>
        obtain ⟨k,z,hk,rfl,rfl,hzk,hdv,hbr⟩:=hrel
        by_cases hkl:k<b.size
        · have hkl':(k:Int)<(b.size:Int):=(by omega)
          have hp7:10 ^ (k+1)≤100000000:=pow8 (by omega)
          have hps:10 ^ (k+1)=10 ^ k * 10:=Nat.pow_succ ..
          have hzz:z<10 ^ k:=hzk.out
          have hzb:z<10000000:=(by omega)
          have HDE:=Lib.hid (drop_at hkl)
          obtain ⟨d,hd⟩:∃ d:UInt8,d=b[k]'hkl:=⟨_,rfl⟩
          have hdr:d.toNat≤255:=(by have:=d.toNat_lt;omega)
          by_cases hlo:d.toNat<48
          · have q1:((b[k]'hkl).toNat:Int)<48:=(by rw [←hd];omega)
            have HF:Hid (digV 0 b.data.toList=0):=(show _=_ from by rw [hdv.out,HDE.out,digV,if_pos (by rw [←hd];exact .inl hlo)])
            rw [HF.out]
            go_wp2
            go_ret
            exact ⟨by rw [HF.out];rfl,hbr.out⟩
          by_cases hhi:57<d.toNat
          · have q1:¬((b[k]'hkl).toNat:Int)<48:=(by rw [←hd];omega)
            have q2:(57:Int)<((b[k]'hkl).toNat:Int):=(by rw [←hd];omega)
            have HF:Hid (digV 0 b.data.toList=0):=(show _=_ from by rw [hdv.out,HDE.out,digV,if_pos (by rw [←hd];exact .inr hhi)])
            go_wp2
            go_ret
            exact ⟨by rw [HF.out];rfl,hbr.out⟩
          have q1:¬((b[k]'hkl).toNat:Int)<48:=(by rw [←hd];omega)
          have q2:¬(57:Int)<((b[k]'hkl).toNat:Int):=(by rw [←hd];omega)
          have q3:((b[k]'hkl).toNat:Int)≤255:=(by rw [←hd];omega)
          have HF:Hid (digV 0 b.data.toList=digV ((10 * z+(d.toNat-48):Nat):Int) (b.data.toList.drop (k+1))):=(show _=_ from by
           rw [hdv.out,HDE.out,digV,if_neg (by rw [←hd];omega),←hd]
           congr 1
           omega)
          have HV:Hid (10 * (z:Int)+((b[k]'hkl).toNat:Int)-48=((10 * z+(d.toNat-48):Nat):Int)):=(show _=_ from by rw [←hd];omega)
          have hd57:d.toNat≤57:=(by omega)
          clear hps hp7
          go_wp2
          go_roundw
          all_goals first
           | (simp [intOf];done)
           | (simp [intOf];omega)
           | exact ⟨k+1,10 * z+(d.toNat-48),by omega,by go_num,by rw [HV.out],(show _<_ from by rw [Nat.pow_succ];omega),HF,hbr⟩
        · obtain rfl:k=b.size:=by omega
          have HF:Hid (digV 0 b.data.toList=z):=(show _=_ from by rw [hdv.out,List.drop_of_length_le (by rw [HLL.out];omega)];rfl)
          go_wp2
          go_ret
          exact ⟨by rw [HF.out];rfl,hbr.out⟩
   · have h1:(n:Int)≤(i:Int):=(by omega)
     have hgd:ws.getD i ⟨#[]⟩=⟨#[]⟩:=by rw [List.getD_eq_getElem?_getD,List.getElem?_eq_none (by have:=hr.len;omega)];rfl
     rw [hgd]
     clear hr hm ih hgd
     go_enter Tryz.func29,Tryz.ntmps29
     go_wp2
     go_ret
     exact ⟨rfl,Below.refl _ _⟩
end Go.Proofs.YtejjplhknacoiaaGreatDoor
end

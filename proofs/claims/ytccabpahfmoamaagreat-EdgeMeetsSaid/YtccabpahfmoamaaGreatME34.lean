/- Contracts that the laws lean on: EitL. -/
import Derived.Test.YtccabpahfmoamaaGreatME27
import Derived.Test.YtccabpahfmoamaaGreatME33
section
namespace Go.Proofs.YtccabpahfmoamaaGreat
open Go.RowKit Go.Proofs Go.Shelf
theorem circleX_len {pts:Int} {bs:List Bound} (hok:SysOk pts bs):(circleX pts bs).length≤60:=by
 rcases circle_law hok with ⟨h1,_⟩|⟨p,ws,_,hix,hl,hne,hs,hw,hneg,hmin⟩
 · rw [h1];simp
 · rw [hl]
   have hn:=least_simple hs hw hneg hmin
   have hz60:zeroRow.length=60:=by simp [zeroRow]
   have:=nodup_range (n:=60) hn (fun x hx=>by
    unfold leaves at hx
    obtain ⟨b,hb,rfl⟩:=List.mem_map.1 hx
    have h60:=(ends60 hok (r:=zeroRow) hz60 b (hs b hb)).1
    omega)
   unfold leaves at this
   rwa [List.length_map] at this
theorem clashV_len {A B:Outl} {p:Pairing} (h:AskOk A B p):(clashV A B p).2.1.length≤60:=by
 unfold clashV circV
 rw [if_pos (askedErr_zero.2 h)]
 split
 · exact circleX_len (sysOk_of h.ways_sys)
 · split
   · exact circleX_len (sysOk_of h.dirs_sys)
   · simp
theorem placeV_len {A B:Outl} {p:Pairing} (h:AskOk A B p):(placeV A B p).1.length≤100∧(placeV A B p).2.1.length≤100∧(placeV A B p).2.2.1.length≤100∧(placeV A B p).2.2.2.length≤100:=by
 obtain ⟨_,n2,_,_⟩:=checkOut_zero.1 h.a
 obtain ⟨_,n4,_,_⟩:=checkOut_zero.1 h.b
 unfold placeV
 split
 · unfold placeX
   simp only [partL_len,List.length_take]
   omega
 · simp
end Go.Proofs.YtccabpahfmoamaaGreat
end

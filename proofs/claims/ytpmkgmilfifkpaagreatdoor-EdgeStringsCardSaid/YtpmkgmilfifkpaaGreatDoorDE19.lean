/- Contracts that the laws lean on: PairLay, IdsK, Wit. -/
import Derived.Shelf.SlLaysF0
import Derived.Test.YtpmkgmilfifkpaaGreatDoorDE18
import Derived.Shelf.SlIterI.Nil
import Derived.Shelf.SortM.Plain
import Derived.Shelf.SortM.SortNone
set_option maxRecDepth 100000
set_option maxHeartbeats 8000000
section
namespace Go.Proofs
open Go.Shelf
def Tryz.sortPr_ren:Go.Shelf.Ren:=⟨fun|6=>35|15=>67|14=>66|28=>107|29=>108|20=>99|21=>100|22=>101|23=>102|24=>103|25=>104|26=>105|27=>106|46=>135|47=>136|48=>137|49=>138|50=>139|57=>159|n=>n,fun|22=>42|24=>25|25=>92|3=>3|39=>126|0=>0|53=>164|55=>166|4=>4|46=>157|45=>156|50=>161|5=>5|9=>9|66=>210|70=>214|76=>231|77=>232|n=>n,fun|n=>n⟩
theorem Tryz.sortPr:Go.Proofs.SlLaysF0.n6 Tryz.prog Tryz.sortPr_ren:={
 mixed:=by kernel_rfl
 f6:=⟨Tryz.f35.name,by decide,Tryz.func35.trans (congrArg some (by kernel_rfl))⟩
 f14:=⟨Tryz.f66.name,by decide,Tryz.func66.trans (congrArg some (by kernel_rfl))⟩
 f15:=Tryz.func67.trans (congrArg some (by kernel_rfl))
 f20:=⟨Tryz.f99.name,by decide,Tryz.func99.trans (congrArg some (by kernel_rfl))⟩
 f21:=⟨Tryz.f100.name,by decide,Tryz.func100.trans (congrArg some (by kernel_rfl))⟩
 f22:=⟨Tryz.f101.name,by decide,Tryz.func101.trans (congrArg some (by kernel_rfl))⟩
 f23:=⟨Tryz.f102.name,by decide,Tryz.func102.trans (congrArg some (by kernel_rfl))⟩
 f24:=⟨Tryz.f103.name,by decide,Tryz.func103.trans (congrArg some (by kernel_rfl))⟩
 f25:=⟨Tryz.f104.name,by decide,Tryz.func104.trans (congrArg some (by kernel_rfl))⟩
 f26:=⟨Tryz.f105.name,by decide,Tryz.func105.trans (congrArg some (by kernel_rfl))⟩
 f27:=⟨Tryz.f106.name,by decide,Tryz.func106.trans (congrArg some (by kernel_rfl))⟩
 f28:=Tryz.func107.trans (congrArg some (by kernel_rfl))
 f29:=Tryz.func108.trans (congrArg some (by kernel_rfl))
 f46:=⟨Tryz.f135.name,by decide,Tryz.func135.trans (congrArg some (by kernel_rfl))⟩
 f47:=Tryz.func136.trans (congrArg some (by kernel_rfl))
 f48:=Tryz.func137.trans (congrArg some (by kernel_rfl))
 f49:=⟨Tryz.f138.name,by decide,Tryz.func138.trans (congrArg some (by kernel_rfl))⟩
 f50:=⟨Tryz.f139.name,by decide,Tryz.func139.trans (congrArg some (by kernel_rfl))⟩
 f57:=⟨Tryz.f159.name,by decide,Tryz.func159.trans (congrArg some (by kernel_rfl))⟩
 t0:=Tryz.underlying0
 a0:=Tryz.isAgg0
 z0:=Tryz.sizeOf0
 v0:=Tryz.zeroValue0
 t3:=Tryz.underlying3
 a3:=Tryz.isAgg3
 z3:=Tryz.sizeOf3
 v3:=Tryz.zeroValue3
 t4:=Tryz.underlying4
 a4:=Tryz.isAgg4
 z4:=Tryz.sizeOf4
 v4:=Tryz.zeroValue4
 t5:=Tryz.underlying5
 a5:=Tryz.isAgg5
 z5:=Tryz.sizeOf5
 v5:=Tryz.zeroValue5
 t9:=Tryz.underlying9
 a9:=Tryz.isAgg9
 z9:=Tryz.sizeOf9
 v9:=Tryz.zeroValue9
 t22:=Tryz.underlying42
 a22:=Tryz.isAgg42
 z22:=Tryz.sizeOf42
 v22:=Tryz.zeroValue42
 t25:=Tryz.underlying92
 a25:=Tryz.isAgg92
 z25:=Tryz.sizeOf92
 v25:=Tryz.zeroValue92
 t39:=Tryz.underlying126
 a39:=Tryz.isAgg126
 z39:=Tryz.sizeOf126
 v39:=Tryz.zeroValue126
 t45:=Tryz.underlying156
 a45:=Tryz.isAgg156
 z45:=Tryz.sizeOf156
 v45:=Tryz.zeroValue156
 t46:=Tryz.underlying157
 a46:=Tryz.isAgg157
 z46:=Tryz.sizeOf157
 v46:=Tryz.zeroValue157
 t50:=Tryz.underlying161
 a50:=Tryz.isAgg161
 z50:=Tryz.sizeOf161
 v50:=Tryz.zeroValue161
 t53:=Tryz.underlying164
 a53:=Tryz.isAgg164
 z53:=Tryz.sizeOf164
 v53:=Tryz.zeroValue164
 t55:=Tryz.underlying166
 a55:=Tryz.isAgg166
 z55:=Tryz.sizeOf166
 v55:=Tryz.zeroValue166
 t66:=Tryz.underlying210
 a66:=Tryz.isAgg210
 z66:=Tryz.sizeOf210
 v66:=Tryz.zeroValue210
 t70:=Tryz.underlying214
 a70:=Tryz.isAgg214
 z70:=Tryz.sizeOf214
 v70:=Tryz.zeroValue214
 t76:=Tryz.underlying231
 a76:=Tryz.isAgg231
 z76:=Tryz.sizeOf231
 v76:=Tryz.zeroValue231
 t77:=Tryz.underlying232
 a77:=Tryz.isAgg232
 z77:=Tryz.sizeOf232
 v77:=Tryz.zeroValue232 }
def Tryz.keysI_ren:Go.Shelf.Ren:=⟨fun|7=>119|10=>145|n=>n,fun|23=>183|26=>3|3=>4|28=>186|0=>0|27=>185|33=>103|4=>4|n=>n,fun|n=>n⟩
theorem Tryz.keysI:Go.Proofs.SlLaysZI.n7 Tryz.prog Tryz.keysI_ren:={
 mixed:=by kernel_rfl
 f7:=⟨Tryz.f119.name,by decide,Tryz.func119.trans (congrArg some (by kernel_rfl))⟩
 f10:=⟨Tryz.f145.name,by decide,Tryz.func145.trans (congrArg some (by kernel_rfl))⟩
 t0:=Tryz.underlying0
 a0:=Tryz.isAgg0
 z0:=Tryz.sizeOf0
 v0:=Tryz.zeroValue0
 t4:=Tryz.underlying4
 a4:=Tryz.isAgg4
 z4:=Tryz.sizeOf4
 v4:=Tryz.zeroValue4
 t23:=Tryz.underlying183
 a23:=Tryz.isAgg183
 z23:=Tryz.sizeOf183
 v23:=Tryz.zeroValue183
 t26:=Tryz.underlying3
 a26:=Tryz.isAgg3
 z26:=Tryz.sizeOf3
 v26:=Tryz.zeroValue3
 t27:=Tryz.underlying185
 a27:=Tryz.isAgg185
 z27:=Tryz.sizeOf185
 v27:=Tryz.zeroValue185
 t28:=Tryz.underlying186
 a28:=Tryz.isAgg186
 z28:=Tryz.sizeOf186
 v28:=Tryz.zeroValue186
 t33:=Tryz.underlying103
 a33:=Tryz.isAgg103
 z33:=Tryz.sizeOf103
 v33:=Tryz.zeroValue103 }
def Tryz.sortedI_ren:Go.Shelf.Ren:=⟨fun|6=>118|8=>143|9=>144|11=>160|13=>67|12=>161|23=>107|24=>108|14=>167|15=>168|16=>169|17=>170|18=>171|19=>172|20=>173|21=>174|22=>175|25=>176|26=>136|27=>137|28=>177|29=>178|30=>68|31=>179|n=>n,fun|26=>3|28=>186|24=>51|0=>0|3=>3|37=>126|48=>164|50=>166|4=>4|40=>157|39=>156|45=>161|5=>5|9=>9|51=>210|55=>214|57=>231|58=>232|33=>103|n=>n,fun|n=>n⟩
theorem Tryz.sortedI:Go.Proofs.SlLaysZI.n6 Tryz.prog Tryz.sortedI_ren:={
 mixed:=by kernel_rfl
 f6:=⟨Tryz.f118.name,by decide,Tryz.func118.trans (congrArg some (by kernel_rfl))⟩
 f8:=⟨Tryz.f143.name,by decide,Tryz.func143.trans (congrArg some (by kernel_rfl))⟩
 f11:=⟨Tryz.f160.name,by decide,Tryz.func160.trans (congrArg some (by kernel_rfl))⟩
 t0:=Tryz.underlying0
 a0:=Tryz.isAgg0
 z0:=Tryz.sizeOf0
 v0:=Tryz.zeroValue0
 t24:=Tryz.underlying51
 a24:=Tryz.isAgg51
 z24:=Tryz.sizeOf51
 v24:=Tryz.zeroValue51
 t26:=Tryz.underlying3
 a26:=Tryz.isAgg3
 z26:=Tryz.sizeOf3
 v26:=Tryz.zeroValue3
 t28:=Tryz.underlying186
 a28:=Tryz.isAgg186
 z28:=Tryz.sizeOf186
 v28:=Tryz.zeroValue186
 i26:=by kernel_rfl }
def Tryz.sortI_ren:Go.Shelf.Ren:=⟨fun|5=>144|8=>67|7=>161|19=>107|20=>108|10=>167|11=>168|12=>169|13=>170|14=>171|15=>172|16=>173|17=>174|18=>175|30=>176|31=>136|32=>137|33=>177|34=>178|35=>68|40=>179|n=>n,fun|23=>51|25=>3|3=>3|32=>126|22=>51|0=>0|44=>164|46=>166|4=>4|36=>157|35=>156|41=>161|5=>5|9=>9|53=>210|57=>214|63=>231|64=>232|n=>n,fun|n=>n⟩
theorem Tryz.sortI:Go.Proofs.SlLaysM.n5 Tryz.prog Tryz.sortI_ren:={
 mixed:=by kernel_rfl
 f5:=⟨Tryz.f144.name,by decide,Tryz.func144.trans (congrArg some (by kernel_rfl))⟩
 f7:=⟨Tryz.f161.name,by decide,Tryz.func161.trans (congrArg some (by kernel_rfl))⟩
 f8:=Tryz.func67.trans (congrArg some (by kernel_rfl))
 f10:=⟨Tryz.f167.name,by decide,Tryz.func167.trans (congrArg some (by kernel_rfl))⟩
 f11:=⟨Tryz.f168.name,by decide,Tryz.func168.trans (congrArg some (by kernel_rfl))⟩
 f12:=⟨Tryz.f169.name,by decide,Tryz.func169.trans (congrArg some (by kernel_rfl))⟩
 f13:=⟨Tryz.f170.name,by decide,Tryz.func170.trans (congrArg some (by kernel_rfl))⟩
 f14:=⟨Tryz.f171.name,by decide,Tryz.func171.trans (congrArg some (by kernel_rfl))⟩
 f15:=⟨Tryz.f172.name,by decide,Tryz.func172.trans (congrArg some (by kernel_rfl))⟩
 f16:=⟨Tryz.f173.name,by decide,Tryz.func173.trans (congrArg some (by kernel_rfl))⟩
 f17:=⟨Tryz.f174.name,by decide,Tryz.func174.trans (congrArg some (by kernel_rfl))⟩
 f18:=⟨Tryz.f175.name,by decide,Tryz.func175.trans (congrArg some (by kernel_rfl))⟩
 f19:=Tryz.func107.trans (congrArg some (by kernel_rfl))
 f20:=Tryz.func108.trans (congrArg some (by kernel_rfl))
 f30:=⟨Tryz.f176.name,by decide,Tryz.func176.trans (congrArg some (by kernel_rfl))⟩
 f31:=Tryz.func136.trans (congrArg some (by kernel_rfl))
 f32:=Tryz.func137.trans (congrArg some (by kernel_rfl))
 f33:=⟨Tryz.f177.name,by decide,Tryz.func177.trans (congrArg some (by kernel_rfl))⟩
 f34:=⟨Tryz.f178.name,by decide,Tryz.func178.trans (congrArg some (by kernel_rfl))⟩
 f35:=⟨Tryz.f68.name,by decide,Tryz.func68.trans (congrArg some (by kernel_rfl))⟩
 f40:=⟨Tryz.f179.name,by decide,Tryz.func179.trans (congrArg some (by kernel_rfl))⟩
 t0:=Tryz.underlying0
 a0:=Tryz.isAgg0
 z0:=Tryz.sizeOf0
 v0:=Tryz.zeroValue0
 t3:=Tryz.underlying3
 a3:=Tryz.isAgg3
 z3:=Tryz.sizeOf3
 v3:=Tryz.zeroValue3
 t4:=Tryz.underlying4
 a4:=Tryz.isAgg4
 z4:=Tryz.sizeOf4
 v4:=Tryz.zeroValue4
 t5:=Tryz.underlying5
 a5:=Tryz.isAgg5
 z5:=Tryz.sizeOf5
 v5:=Tryz.zeroValue5
 t9:=Tryz.underlying9
 a9:=Tryz.isAgg9
 z9:=Tryz.sizeOf9
 v9:=Tryz.zeroValue9
 t22:=Tryz.underlying51
 a22:=Tryz.isAgg51
 z22:=Tryz.sizeOf51
 v22:=Tryz.zeroValue51
 t23:=Tryz.underlying51
 a23:=Tryz.isAgg51
 z23:=Tryz.sizeOf51
 v23:=Tryz.zeroValue51
 t25:=Tryz.underlying3
 a25:=Tryz.isAgg3
 z25:=Tryz.sizeOf3
 v25:=Tryz.zeroValue3
 t32:=Tryz.underlying126
 a32:=Tryz.isAgg126
 z32:=Tryz.sizeOf126
 v32:=Tryz.zeroValue126
 t35:=Tryz.underlying156
 a35:=Tryz.isAgg156
 z35:=Tryz.sizeOf156
 v35:=Tryz.zeroValue156
 t36:=Tryz.underlying157
 a36:=Tryz.isAgg157
 z36:=Tryz.sizeOf157
 v36:=Tryz.zeroValue157
 t41:=Tryz.underlying161
 a41:=Tryz.isAgg161
 z41:=Tryz.sizeOf161
 v41:=Tryz.zeroValue161
 t44:=Tryz.underlying164
 a44:=Tryz.isAgg164
 z44:=Tryz.sizeOf164
 v44:=Tryz.zeroValue164
 t46:=Tryz.underlying166
 a46:=Tryz.isAgg166
 z46:=Tryz.sizeOf166
 v46:=Tryz.zeroValue166
 t53:=Tryz.underlying210
 a53:=Tryz.isAgg210
 z53:=Tryz.sizeOf210
 v53:=Tryz.zeroValue210
 t57:=Tryz.underlying214
 a57:=Tryz.isAgg214
 z57:=Tryz.sizeOf214
 v57:=Tryz.zeroValue214
 t63:=Tryz.underlying231
 a63:=Tryz.isAgg231
 z63:=Tryz.sizeOf231
 v63:=Tryz.zeroValue231
 t64:=Tryz.underlying232
 a64:=Tryz.isAgg232
 z64:=Tryz.sizeOf232
 v64:=Tryz.zeroValue232 }
end Go.Proofs
end
section
namespace Go.Proofs.YtpmkgmilfifkpaaGreatDoor
open Go.RowKit Go.Proofs Go.Shelf Go.Maps Go.Sort
theorem sortsI (m:Nat):AnyZI.SortsIn Tryz.prog Tryz.sortedI_ren Fence.wide m:=
 ⟨fun blk off cap ss W hH hblk hsz=>callsIn_wide.2 (AnyM.slices_Sort_int Tryz.sortI blk off cap ss W hH hblk hsz),fun p cap W=>callsIn_wide.2 (AnyM.slices_Sort_int_none Tryz.sortI p cap W)⟩
theorem keysI_call (b:Nat) (W:World):Calls Tryz.prog 119 #[.map (some b)] W fun e w'=>e = .returned (.func (.func 145) #[] #[.pointer (some ⟨W.heap.size,0,none⟩)])∧w'=W.alloc (.cells #[.map (some b)] 183):=
 callsIn_wide.1 (AnyZI.keys_in Tryz.keysI Fence.wide 5 trivial rfl (some b) W)
theorem sortedI_call {D:DataW Unit} (b nn:Nat) (w:World) (hown:w.ownsMap Tryz.prog 3 (plainElem Tryz.prog 4) b nn D) (hmax:nn≤1000000) (T:List Int) (hT:T.Pairwise (· < ·)) (hm:∀ x,x∈T↔has D (.int .i64 x)=true):
 Calls Tryz.prog 118 #[.func (.func 145) #[] #[.pointer (some ⟨w.heap.size,0,none⟩)]] (w.alloc (.cells #[.map (some b)] 183)) fun e w'=> ∃ A' c',e = .returned (.slice A' T.length c')∧Below w.heap.size w w'∧Own encInt 1 3 w.heap.size w' A' T.length c' T:=by
 have hbl:=hown.lt
 have hsz:=hown.size_le
 have hseq:SeqGives Fence.wide 2 Tryz.prog 145 #[.pointer (some ⟨w.heap.size,0,none⟩)] encZ (fun ss=>ss.Perm (intKeys D)) (Maps.size D) (w.alloc (.cells #[.map (some b)] 183)):=
  AnyZI.keys_gives (ρ:=Tryz.keysI_ren) { Tryz.keysI with } Fence.wide _ trivial rfl (by omega) w.heap.size b nn D _ (by simp) (by simp) (by
   obtain ⟨es,clock,hb,Ft,hs,hD⟩:=hown
   exact ⟨es,clock,(Below.heap_alloc _ _ b hbl).trans hb,Ft,hs,hD⟩)
 have cS:=AnyZI.sorted_in Tryz.sortedI Fence.wide 5 trivial trivial trivial trivial rfl (by omega) (sortsI _) (enters_of Tryz.func144 (by kernel_rfl) rfl) 145 #[.pointer (some ⟨w.heap.size,0,none⟩)] trivial (enters_of Tryz.func145 (by kernel_rfl) rfl) _ _ (by unfold maxLen;omega) (by omega) _ hseq
 change CallsIn _ _ Tryz.prog 118 _ _ _ at cS
 refine (callsIn_wide.1 cS).mono ?_
 rintro e w' ⟨v,ss,rfl,hS,hrow,_,hb⟩
 have hp:ss.Perm T:=hS.trans (CollectedI.perm (left:=fun _=>false) ⟨asc_nodup hT,fun x=>by rw [hm x];simp⟩ hown (int_keyed Tryz.underlying3) Tryz.underlying3 (fun _=>rfl)).symm
 have hms:ss.mergeSort leI=T:=by
  rw [mergeSort_of_perm_i hp]
  exact List.mergeSort_of_pairwise (hT.imp (fun h=>by simp only [leI,decide_eq_true_eq];omega))
 have hlen:=hp.length_eq
 change w'.ownsRow _ 3 1 v ss.length ((ss.mergeSort leI).map encZ) at hrow
 rw [hms,hlen] at hrow
 have hrow2:=ownsRow_base_a hrow (base':=w.heap.size) (by simp)
 have hb2:Below w.heap.size w w':=((Below.refl _ w).alloc (Nat.le_refl _) _).trans (hb.mono (by simp))
 have hfm:T.map encZ=T.flatMap encInt:=by rw [List.map_eq_flatMap];rfl
 rw [hfm] at hrow2
 have hv:∃ A' c',v = .slice A' T.length c':=by
  rcases hrow2.2 with ⟨h1,h2⟩|⟨g,cap,cur,h1,_⟩
  · refine ⟨none,0,?_⟩
    rw [h1]
    first
     | rw [h2]
     | (have:=h2.1;rw [this])
  · exact ⟨_,_,h1⟩
 obtain ⟨A',c',rfl⟩:=hv
 exact ⟨A',c',rfl,hb2,rfl,hrow2⟩
theorem idsOf_any (A:Option Addr) (n c:Nat) (bs:List Bound) (w:World) (hl:Rd encBound 4 w A n c bs) (hk:∀ b∈bs,0≤b.by_∧b.by_≤1000000) (hn:n≤100000):
 Calls Tryz.prog 80 #[.slice A n c] w fun e w'=> ∃ A' c',e = .returned (.slice A' (idsE (bs.map (·.by_))).length c')∧Below w.heap.size w w'∧Own encInt 1 3 w.heap.size w' A' (idsE (bs.map (·.by_))).length c' (idsE (bs.map (·.by_))):=by
 have hlen:=hl.len
 have HM0:=Lib.hid (World.ownsMap_made w Tryz.prog 3 (plainElem (H:=Unit) Tryz.prog 4))
 have HB0:=Lib.hid ((Below.refl w.heap.size w).alloc (Nat.le_refl _) (.map #[] 0))
 have HZ:Hid ((w.alloc (.map #[] 0)).heap.size=w.heap.size+1):=(show _=_ by simp)
 obtain ⟨w1,hw1⟩:∃ w1,w.alloc (.map #[] 0)=w1:=⟨_,rfl⟩
 rw [hw1] at HM0 HB0 HZ
 have HL:=Lib.hid hl
 have HK:=Lib.hid hk
 have HW:=Lib.hid hw1
 have hmm:= @run_makeMap Tryz.prog
 clear hl hk hw1
 go_enter Tryz.func80,Tryz.ntmps80
 go_wp2_with (rw [HW.out])
 clear hmm
 go_loopw [9] (fun s9 wr=> ∃ (k:Nat) (D:DataW Unit),k≤n∧s9 = .int .i64 k∧Hid (wr.ownsMap Tryz.prog 3 (plainElem Tryz.prog 4) w.heap.size k D)∧Hid (∀ x,has D (.int .i64 x)=true ↔ ∃ b∈bs.take k,b.by_=x)∧Hid (Below w.heap.size w wr)) (fun s9 _=>n-(intOf s9).toNat)
 case atStart=>exact ⟨0,.map [],Nat.zero_le _,rfl,HM0,(show ∀ x,_ from fun x=>by simp [has]),HB0⟩
 case round=>
  obtain ⟨k,D,hk,rfl,hM,hD,hbr⟩:=hrel
  have hzr:=hbr.out.size
  have hMl:=hM.out.lt
  by_cases hlt:k<n
  · obtain ⟨b,off,x,rfl,hbw,hx,hcell⟩:=(HL.out.below hbr.out (Nat.le_refl _)).one hlt
    have i0:wr.cell? ⟨b,off+k * 4,none⟩=some (.int .i64 x.src):=hcell 0 _ rfl
    have i1:wr.cell? ⟨b,off+k * 4+1,none⟩=some (.int .i64 x.dst):=hcell 1 _ rfl
    have i2:wr.cell? ⟨b,off+k * 4+2,none⟩=some (.int .i64 x.most):=hcell 2 _ rfl
    have i3:wr.cell? ⟨b,off+k * 4+3,none⟩=some (.int .i64 x.by_):=hcell 3 _ rfl
    obtain ⟨w6,a6,b6,z6,e6⟩:=alloc_facts wr #[.int .i64 x.src,.int .i64 x.dst,.int .i64 x.most,.int .i64 x.by_] 50
    have d3:w6.cell? ⟨wr.heap.size,3,none⟩=some (.int .i64 x.by_):=(by simp [World.cell?,e6])
    have hM6:=hM.out.kept (row:=none) ⟨b6.os,b6.tape,b6.output,b6.size,fun i hi _=>b6.block i hi⟩ (by simp)
    have hby:=HK.out x (List.mem_of_getElem? hx)
    have hkey:=keyOf_int_mk Tryz.underlying3 (a:=x.by_) (q:=.i64) (by simp [Lit.wf,show IntKind.i64.min = -9223372036854775808 from rfl,show IntKind.i64.max=9223372036854775807 from rfl];omega)
    have HA6:=Lib.hid a6
    have HB6:=Lib.hid b6
    have HX:=Lib.hid hx
    clear a6 b6 e6 hx hcell
    go_wp2_with (first
     | rw [HA6.out]
     | (at_mapUpdate;refine wpList_mapUpdate_in _ rfl _ _ _ 183 rfl 3 4 (int_keyed Tryz.underlying3) Tryz.underlying183 _ _ _ _ rfl hM6 (by unfold maxLen;omega) _ _ _ rfl rfl hkey _ [] (plainElem_bool Tryz.underlying4 true) ?_;intro w7 hM7 hT7
        have HM7:=Lib.hid hM7
        have HT7:=Lib.hid hT7.grown
        clear hM7 hT7))
    go_roundw
    case rel=>
     refine ⟨k+1,_,by omega,by go_num,HM7,(show ∀ y,_ from fun y=> ?_),(show Below _ _ _ from (hbr.out.trans (HB6.out.mono hzr)).grown HT7.out (by omega) (fun k e=>by cases e;exact Nat.le_refl _))⟩
     rw [List.take_add_one,HX.out]
     by_cases hy:y=x.by_
     · subst hy
       rw [has_put_same hM.out.isMap (by trivial)]
       simp
     · rw [has_put_other (by simpa using hy),hD.out y]
       simp [Ne.symm hy]
    case measure=>simp [intOf];omega
  · have hkn:k=n:=by omega
    subst hkn
    have hkey:=keyOf_int_mk Tryz.underlying3 (a:=0) (q:=.i64) (by decide)
    have hDT:∀ x,x∈idsE (bs.map (·.by_))↔has (D.del (.int .i64 0)) (.int .i64 x)=true:=fun x=>by
     rw [idsE_mem]
     by_cases h0:x=0
     · subst h0;rw [has_del_same];simp
     · rw [has_del_other (by simpa using h0),hD.out x,List.take_of_length_le (by omega)]
       simp [h0]
    have HDT:=Lib.hid hDT
    clear hDT
    go_wp2_with (first
     | (at_delete;refine wpList_delete_own _ rfl _ _ 183 3 rfl 4 (int_keyed Tryz.underlying3) Tryz.underlying183 _ _ _ _ rfl hM.out _ _ rfl hkey ?_;intro w7 hM7 hT7
        have KS:=Lib.hid (sortedI_call w.heap.size _ w7 hM7 (by omega) _ (idsE_asc _) HDT.out)
        have HT7:=Lib.hid hT7.grown
        clear hM7 hT7)
     | (go_at_call 119;(with_reducible refine (keysI_call _ _).mono ?_);rintro e w8 ⟨rfl,rfl⟩)
     | (go_at_call 118;(with_reducible refine KS.out.mono ?_);rintro e w9 ⟨A',c',rfl,hb9,ho9⟩
        have HB9:=Lib.hid hb9
        have HO9:=Lib.hid ho9
        clear hb9 ho9))
    go_ret
    have hb7:=hbr.out.grown HT7.out hzr (fun k e=>by cases e;exact Nat.le_refl _)
    exact ⟨A',c',rfl,hb7.trans (HB9.out.mono hb7.size),HO9.out.mono hb7.size⟩
end Go.Proofs.YtpmkgmilfifkpaaGreatDoor
end
section
namespace Go.Proofs.YtpmkgmilfifkpaaGreatDoor
open Go.RowKit Go.Proofs Go.Shelf
theorem Own.lt_ {α:Type} {enc:α→List Value} {k n c B:Nat} {e:TypeId} {W:World} {A:Option Addr} {xs:List α} (h:Own enc k e B W A n c xs) (g:Nat) (hg:blockOf A=some g):g<W.heap.size:=by
 obtain ⟨cur,fr,q⟩:=own_row h g hg
 exact (Array.getElem?_eq_some_iff.1 q).1
def outl0:Outl:=⟨0,[],[]⟩
def withV (A:Outl) (turned:Bool) (x:Bound):Outl×Int:=if checkOut A≠0 then (outl0,checkOut A) else if checkOut (withB A turned x)≠0 then (outl0,checkOut (withB A turned x)) else (withB A turned x,0)
def OutlO (B:Nat) (W:World) (A:Outl) (WA:Option Addr) (wn wc:Nat) (TA:Option Addr) (tn tc:Nat):Prop:=Own encBound 4 50 B W WA wn wc A.ways∧Own encBound 4 50 B W TA tn tc A.turns
theorem three_facts {W:World} {k:Nat} {x0 x1 x2:Value} {t:TypeId} (h:W.heap[k]? = some (.cells #[x0,x1,x2] t (0,0))):W.cell? ⟨k,0,none⟩=some x0∧W.cell? ⟨k,1,none⟩=some x1∧W.cell? ⟨k,2,none⟩=some x2∧W.frozen? ⟨k,0,none⟩=false∧W.frozen? ⟨k,1,none⟩=false∧W.frozen? ⟨k,2,none⟩=false:=by
 simp [World.cell?,World.frozen?,h]
theorem three_set {W:World} {k:Nat} {x0 x1 x2 v0 v1 v2:Value} {t:TypeId} (h:W.heap[k]? = some (.cells #[x0,x1,x2] t (0,0))):(((W.setCell ⟨k,0,none⟩ v0).setCell ⟨k,1,none⟩ v1).setCell ⟨k,2,none⟩ v2).heap[k]? = some (.cells #[v0,v1,v2] t (0,0)):=by
 rw [heap_setCell_obj (heap_setCell_obj (heap_setCell_obj h))];rfl
theorem WithE_any (A:Outl) (AwA:Option Addr) (Awn Awc:Nat) (AtA:Option Addr) (Atn Atc:Nat) (turned:Bool) (x:Bound) (w:World) (Aw:Rd encBound 4 w AwA Awn Awc A.ways) (At:Rd encBound 4 w AtA Atn Atc A.turns):
 Calls Tryz.prog 16 #[.agg #[.int .i64 A.n,.slice AwA Awn Awc,.slice AtA Atn Atc],.bool turned,.agg #[.int .i64 x.src,.int .i64 x.dst,.int .i64 x.most,.int .i64 x.by_]] w fun e w'=> ∃ WA wn wc TA tn tc,e = .returned (.tuple #[.agg #[.int .i64 (withV A turned x).1.n,.slice WA wn wc,.slice TA tn tc],.int .i64 (withV A turned x).2])∧Below w.heap.size w w'∧OutlO w.heap.size w' (withV A turned x).1 WA wn wc TA tn tc:=by
 have RA:Hid (∀ W,Below w.heap.size w W→Rd encBound 4 W AwA Awn Awc A.ways):=(show ∀ W,_→_ from fun W h=>Aw.below h (Nat.le_refl _))
 have RT:Hid (∀ W,Below w.heap.size w W→Rd encBound 4 W AtA Atn Atc A.turns):=(show ∀ W,_→_ from fun W h=>At.below h (Nat.le_refl _))
 have K1:=Lib.hid (fun W (h:Below w.heap.size w W)=>CheckOutline_any A AwA Awn Awc AtA Atn Atc W (RA.out W h) (RT.out W h))
 have hv:withV A turned x=if checkOut A≠0 then (outl0,checkOut A) else if checkOut (withB A turned x)≠0 then (outl0,checkOut (withB A turned x)) else (withB A turned x,0):=rfl
 have la:=Aw.len;have lt:=At.len
 clear Aw At
 obtain ⟨w1,a1,l1,z1,e1⟩:=alloc_facts w (#[.int .i64 A.n,.slice AwA Awn Awc,.slice AtA Atn Atc]) 35
 obtain ⟨w2,a2,l2,z2,e2⟩:=alloc_facts w1 (#[.int .i64 x.src,.int .i64 x.dst,.int .i64 x.most,.int .i64 x.by_]) 50
 rw [z1] at e2 z2
 obtain ⟨w3,a3,l3,z3,e3⟩:=alloc_facts w2 (#[.int .i64 0,.slice none 0 0,.slice none 0 0]) 35
 rw [z2] at e3 z3
 have m2:Below w1.heap.size w1 w3:=l2.trans (l3.mono l2.size)
 have m1:Below w.heap.size w w3:=l1.trans (m2.mono l1.size)
 have HA:=Lib.hid (show ((w.alloc (.cells #[.int .i64 A.n,.slice AwA Awn Awc,.slice AtA Atn Atc] 35)).alloc (.cells #[.int .i64 x.src,.int .i64 x.dst,.int .i64 x.most,.int .i64 x.by_] 50)).alloc (.cells #[.int .i64 0,.slice none 0 0,.slice none 0 0] 35)=w3 by rw [a1,a2,a3])
 have hA3:=(m2.block w.heap.size (by omega)).trans e1
 have hX3:=(l3.block (w.heap.size+1) (by omega)).trans e2
 obtain ⟨b0,b1,b2,_,_,_⟩:=three_facts hA3
 have HM1:=Lib.hid m1
 have HE1:=Lib.hid hA3
 have HE2:=Lib.hid hX3
 have HE3:=Lib.hid e3
 have Z3:=Lib.hid z3
 clear a1 a2 a3 l1 l2 l3 z1 z2 z3 e1 e2 e3 m1 m2 hA3 hX3
 by_cases h1:checkOut A=0
 case neg=>
  rw [if_pos h1] at hv
  rw [hv]
  have h1':(checkOut A != 0)=true:=by simpa using h1
  clear hv h1 la lt
  generalize checkOut A=er at *
  go_enter Tryz.func16,Tryz.ntmps16
  go_wp2_with (first
   | rw [HA.out]
   | (go_at_call 39;(with_reducible refine (K1.out _ HM1.out).mono ?_);rintro e w4 ⟨rfl,hb4⟩
      have hh:=(hb4.block (w.heap.size+1+1) (by have:=Z3.out;omega)).trans HE3.out
      obtain ⟨d0,d1,d2,f0,f1,f2⟩:=three_facts hh
      have HB4:=Lib.hid (HM1.out.trans (hb4.mono HM1.out.size))
      have HH4:=Lib.hid hh
      clear hb4 hh))
  refine bodyPost_ret (results_ct rfl _ _ (w.heap.size+1+1) _ _ (0,0) _ rfl (three_set HH4.out) Tryz.underlying35 rfl (by kernel_rfl)) rfl ?_
  exact ⟨none,0,0,none,0,0,rfl,((HB4.out.setCell (p:=⟨w.heap.size+1+1,0,none⟩) (show w.heap.size≤w.heap.size+1+1 by omega) _).setCell (p:=⟨w.heap.size+1+1,1,none⟩) (show w.heap.size≤w.heap.size+1+1 by omega) _).setCell (p:=⟨w.heap.size+1+1,2,none⟩) (show w.heap.size≤w.heap.size+1+1 by omega) _,Own.none_ _ _ _ _ _,Own.none_ _ _ _ _ _⟩
 case pos=>
  rw [if_neg (by simpa using h1)] at hv
  rw [h1] at K1
  obtain ⟨_,_,q3,q4⟩:=checkOut_zero.1 h1
  have hla:Awn≤400:=by have:=(checkSys_zero.1 q3).2.2.1;omega
  have hlt:Atn≤400:=by have:=(checkSys_zero.1 q4).2.2.1;omega
  have KW:=Lib.hid (fun W (h:Below w.heap.size w W)=>Clone_Bound AwA Awn Awc A.ways W (RA.out W h) (by omega))
  have KT:=Lib.hid (fun W (h:Below w.heap.size w W)=>Clone_Bound AtA Atn Atc A.turns W (RT.out W h) (by omega))
  obtain ⟨⟨R,er⟩,hR⟩:∃ q,withV A turned x=q:=⟨_,rfl⟩
  rw [hR] at hv ⊢
  have HV:=Lib.hid hv
  clear q3 q4 h1 hv hR
  go_enter Tryz.func16,Tryz.ntmps16
  go_upto_region 4 with (first
   | rw [HA.out]
   | (go_at_call 39;(with_reducible refine (K1.out _ HM1.out).mono ?_);rintro e w4 ⟨rfl,hb4⟩
      have hh1:=(hb4.block w.heap.size (by have:=Z3.out;omega)).trans HE1.out
      have hh2:=(hb4.block (w.heap.size+1) (by have:=Z3.out;omega)).trans HE2.out
      have hh3:=(hb4.block (w.heap.size+1+1) (by have:=Z3.out;omega)).trans HE3.out
      have HB4:=Lib.hid (HM1.out.trans (hb4.mono HM1.out.size))
      have HH1:=Lib.hid hh1
      have HH2:=Lib.hid hh2
      have HH3:=Lib.hid hh3
      clear hb4 hh1 hh2 hh3))
  have hz3:=Z3.out
  obtain ⟨g0,g1,g2,g3,g4,g5⟩:=three_facts HH1.out
  have hsz:w.heap.size<w4.heap.size:=(Array.getElem?_eq_some_iff.1 HH1.out).1
  go_region_with (first
   | (go_at_call 40;(with_reducible refine (KW.out _ HB4.out.drew).mono ?_);rintro e w5 ⟨A5,c5,rfl,hO5,hb5⟩
      have hh5:=(hb5.block w.heap.size (show w.heap.size<w4.drew.heap.size from hsz)).trans (show w4.drew.heap[w.heap.size]? = _ from HH1.out)
      obtain ⟨i0,i1,i2,i3,i4,i5⟩:=three_facts hh5
      have HB5:=Lib.hid (HB4.out.drew.trans (hb5.mono HB4.out.drew.size))
      have HB45:=Lib.hid hb5
      have HH5:=Lib.hid hh5
      have HO5:=Lib.hid hO5
      clear hb5 hh5 hO5)
   | (go_at_call 40;(with_reducible refine (KT.out _ HB5.out).mono ?_);rintro e w6 ⟨A6,c6,rfl,hO6,hb6⟩
      have hh6:=(hb6.block w.heap.size (Array.getElem?_eq_some_iff.1 HH5.out).1).trans HH5.out
      obtain ⟨j0,j1,j2,j3,j4,j5⟩:=three_facts hh6
      have HB6:=Lib.hid (HB5.out.trans (hb6.mono HB5.out.size))
      have HB46:=Lib.hid (HB45.out.trans (hb6.mono HB45.out.size))
      have HH6:=Lib.hid hh6
      have HO56:=Lib.hid (HO5.out.below hb6 (Nat.le_refl _))
      have HO6:=Lib.hid hO6
      clear hb6 hh6 hO6))
  all_goals
   obtain ⟨w7,hw7⟩:∃ w7,(w6.setCell ⟨w.heap.size,1,none⟩ (.slice A5 Awn c5)).setCell ⟨w.heap.size,2,none⟩ (.slice A6 Atn c6)=w7:=⟨_,rfl⟩
   have hh7:w7.heap[w.heap.size]? = some (.cells #[.int .i64 A.n,.slice A5 Awn c5,.slice A6 Atn c6] 35 (0,0)):=(by rw [←hw7,heap_setCell_obj (heap_setCell_obj HH6.out)];rfl)
   have hs4:w4.drew.heap.size=w4.heap.size:=rfl
   have o7:∀ j,j<w4.heap.size→j≠w.heap.size→w7.heap[j]? = w4.heap[j]? := fun j hj hne=>by
    rw [←hw7,Below.heap_setCell _ _ _ j hne,Below.heap_setCell _ _ _ j hne]
    exact HB46.out.block j hj
   have hx7:=(o7 (w.heap.size+1) (Array.getElem?_eq_some_iff.1 HH2.out).1 (by omega)).trans HH2.out
   have hr7:=(o7 (w.heap.size+1+1) (Array.getElem?_eq_some_iff.1 HH3.out).1 (by omega)).trans HH3.out
   have HW7:Hid (Own encBound 4 50 w.heap.size w7 A5 Awn c5 A.ways):=(show Own _ _ _ _ _ _ _ _ _ by
    rw [←hw7]
    exact (own_set (own_set HO56.out HH6.out (by decide) _) (heap_setCell_obj HH6.out) (by decide) _).mono HB4.out.size)
   have HT7:Hid (Own encBound 4 50 w.heap.size w7 A6 Atn c6 A.turns):=(show Own _ _ _ _ _ _ _ _ _ by
    rw [←hw7]
    exact (own_set (own_set HO6.out HH6.out (by decide) _) (heap_setCell_obj HH6.out) (by decide) _).mono HB5.out.size)
   have HNE:Hid (∀ g,blockOf A5=some g→blockOf A6=some g→False):=(show ∀ g,_→_→_ from fun g h5 h6=>by
    have q5:=(own_row HO5.out g h5)
    have q6:=HO6.out.ltB g h6
    obtain ⟨cur,fr,q5⟩:=q5
    have:=(Array.getElem?_eq_some_iff.1 q5).1
    omega)
   have HB7:Hid (Below w.heap.size w w7):=(show Below _ _ _ by
    rw [←hw7]
    exact (HB6.out.setCell (p:=⟨w.heap.size,1,none⟩) (Nat.le_refl _) _).setCell (p:=⟨w.heap.size,2,none⟩) (Nat.le_refl _) _)
   rw [hw7]
   obtain ⟨k0,k1,k2,k3,k4,k5⟩:=three_facts hh7
   have x0:w7.cell? ⟨w.heap.size+1,0,none⟩=some (.int .i64 x.src):=(by simp [World.cell?,hx7])
   have x1:w7.cell? ⟨w.heap.size+1,1,none⟩=some (.int .i64 x.dst):=(by simp [World.cell?,hx7])
   have x2:w7.cell? ⟨w.heap.size+1,2,none⟩=some (.int .i64 x.most):=(by simp [World.cell?,hx7])
   have x3:w7.cell? ⟨w.heap.size+1,3,none⟩=some (.int .i64 x.by_):=(by simp [World.cell?,hx7])
   have HH7:=Lib.hid hh7
   have HR7:=Lib.hid hr7
   clear hw7 hh7 hx7 hr7 o7 hs4 g0 g1 g2 g3 g4 g5 hsz i0 i1 i2 i3 i4 i5 j0 j1 j2 j3 j4 j5 HO5 HO56 HO6 HB5 HB45 HB6 HB46 HH5 HH6 HH1 HH2 HH3 HB4
   cases turned
   · have hCe:withB A false x=⟨A.n,A.ways ++ [x],A.turns⟩:=rfl
     have hv:=HV.out
     rw [hCe] at hv
     have HV2:=Lib.hid hv
     clear hv hCe HV
     go_upto_region 8 with (first
      | (at_builtin
         have hown:Own encBound 4 50 w.heap.size (w7.alloc (.cells #[.int .i64 x.src,.int .i64 x.dst,.int .i64 x.most,.int .i64 x.by_] 50)) A5 Awn c5 A.ways:=HW7.out.alloc _
         have hrd7:=Rd.single (enc:=encBound) (k:=4) w7 #[.int .i64 x.src,.int .i64 x.dst,.int .i64 x.most,.int .i64 x.by_] 50 [x] 1 rfl (by omega) (fun _=>rfl) (by simp [encBound])
         refine wpList_append_src elBound (fun _=>rfl) oneBound rfl _ _ rfl _ _ _ _ rfl rfl hown hrd7 (by omega) (by decide) (by simp;have:=HB7.out.size;omega) ?_
         intro A2 c2 w8 hO8 hg8 hA8
         have nb:∀ {j:Nat} {cs:Array Value} {t:TypeId},w7.heap[j]? = some (.cells cs t (0,0))→t≠50→w8.heap[j]? = some (.cells cs t (0,0)):=fun hj ht=>((hg8.block _ (by have:=(Array.getElem?_eq_some_iff.1 hj).1;simp;omega) (fun e=>by
          rcases HW7.out.ne_type hj ht with rfl|h'
          · cases e
          · exact h' e.symm)).trans (Below.heap_alloc _ _ _ (Array.getElem?_eq_some_iff.1 hj).1)).trans hj
         have hh8:=nb HH7.out (by decide)
         have hr8:=nb HR7.out (by decide)
         obtain ⟨k0,k1,k2,k3,k4,k5⟩:=three_facts hh8
         have HH8:=Lib.hid hh8
         have HR8:=Lib.hid hr8
         have HO8:=Lib.hid hO8
         have HOo8:Hid (Own encBound 4 50 w.heap.size w8 _ _ _ _):=(show Own _ _ _ _ _ _ _ _ _ from own_same (HT7.out.alloc (.cells #[.int .i64 x.src,.int .i64 x.dst,.int .i64 x.most,.int .i64 x.by_] 50)) fun g hg=>hg8.block g (by have:=(HT7.out.alloc (.cells #[.int .i64 x.src,.int .i64 x.dst,.int .i64 x.most,.int .i64 x.by_] 50)).lt_ g hg;exact this) (fun e=>HNE.out g e.symm hg))
         have HB8:=Lib.hid ((HB7.out.alloc HB7.out.size (.cells #[.int .i64 x.src,.int .i64 x.dst,.int .i64 x.most,.int .i64 x.by_] 50)).grown hg8 (by simp;have:=HB7.out.size;omega) (fun j e=>hown.ltB j e))
         clear hO8 hg8 hA8 hown hrd7 hh8 hr8))
     obtain ⟨w9,hw9⟩:∃ w9,w8.setCell ⟨w.heap.size,1,none⟩ (.slice A2 (Awn+1) c2)=w9:=⟨_,rfl⟩
     have hh9:w9.heap[w.heap.size]? = some (.cells #[.int .i64 A.n,.slice A2 (Awn+1) c2,.slice A6 Atn c6] 35 (0,0)):=(by rw [←hw9,heap_setCell_obj HH8.out];rfl)
     have hr9:w9.heap[w.heap.size+1+1]? = some (.cells #[.int .i64 0,.slice none 0 0,.slice none 0 0] 35 (0,0)):=(by rw [←hw9,Below.heap_setCell _ _ _ _ (show w.heap.size+1+1≠w.heap.size by omega)];exact HR8.out)
     have HO9:Hid (Own encBound 4 50 w.heap.size w9 _ _ _ _):=(show Own _ _ _ _ _ _ _ _ _ by rw [←hw9];exact own_set HO8.out HH8.out (by decide) _)
     have HOo9:Hid (Own encBound 4 50 w.heap.size w9 _ _ _ _):=(show Own _ _ _ _ _ _ _ _ _ by rw [←hw9];exact own_set HOo8.out HH8.out (by decide) _)
     have HB9:Hid (Below w.heap.size w w9):=(show Below _ _ _ by rw [←hw9];exact HB8.out.setCell (p:=⟨w.heap.size,1,none⟩) (Nat.le_refl _) _)
     rw [hw9]
     obtain ⟨y0,y1,y2,_,_,_⟩:=three_facts hh9
     have K9:=Lib.hid (CheckOutline_any ⟨A.n,A.ways ++ [x],A.turns⟩ A2 (Awn+1) c2 A6 Atn c6 w9 (HO9.out.rd (fun _=>rfl) (by omega)) (HOo9.out.rd (fun _=>rfl) (by omega)))
     have HH9:=Lib.hid hh9
     have HR9:=Lib.hid hr9
     clear hw9 hh9 hr9
     by_cases hc:checkOut ⟨A.n,A.ways ++ [x],A.turns⟩=0
     · have hv:=HV2.out
       rw [hc,if_neg (by simp)] at hv
       obtain ⟨rfl,rfl⟩:=Prod.mk.injEq _ _ _ _ |>.mp hv
       rw [hc] at K9
       clear hv hc HV2
       go_wp2_with (first
        | (go_at_call 39;(with_reducible refine K9.out.mono ?_);rintro e w10 ⟨rfl,hb10⟩
           have hh10:=(hb10.block _ (Array.getElem?_eq_some_iff.1 HH9.out).1).trans HH9.out
           have hr10:=(hb10.block _ (Array.getElem?_eq_some_iff.1 HR9.out).1).trans HR9.out
           obtain ⟨p0,p1,p2,_,_,_⟩:=three_facts hh10
           obtain ⟨r0,r1,r2,r3,r4,r5⟩:=three_facts hr10
           have HR10:=Lib.hid hr10
           have HB10:=Lib.hid (HB9.out.trans (hb10.mono HB9.out.size))
           have HO10:=Lib.hid (HO9.out.below hb10 (Nat.le_refl _))
           have HOo10:=Lib.hid (HOo9.out.below hb10 (Nat.le_refl _))
           clear hb10 hh10 hr10))
       refine bodyPost_ret (results_ct rfl _ _ (w.heap.size+1+1) _ _ (0,0) _ rfl (three_set HR10.out) Tryz.underlying35 rfl (by kernel_rfl)) rfl ?_
       exact ⟨A2,Awn+1,c2,A6,Atn,c6,rfl,((HB10.out.setCell (p:=⟨w.heap.size+1+1,0,none⟩) (show w.heap.size≤w.heap.size+1+1 by omega) _).setCell (p:=⟨w.heap.size+1+1,1,none⟩) (show w.heap.size≤w.heap.size+1+1 by omega) _).setCell (p:=⟨w.heap.size+1+1,2,none⟩) (show w.heap.size≤w.heap.size+1+1 by omega) _,own_set (own_set (own_set (HO10.out) HR10.out (by decide) _) (heap_setCell_obj HR10.out) (by decide) _) (heap_setCell_obj (heap_setCell_obj HR10.out)) (by decide) _,own_set (own_set (own_set (HOo10.out) HR10.out (by decide) _) (heap_setCell_obj HR10.out) (by decide) _) (heap_setCell_obj (heap_setCell_obj HR10.out)) (by decide) _⟩
     · have hv:=HV2.out
       rw [if_pos hc] at hv
       have hc':(checkOut ⟨A.n,A.ways ++ [x],A.turns⟩ != 0)=true:=by simpa using hc
       obtain ⟨rfl,her⟩:=Prod.mk.injEq _ _ _ _ |>.mp hv
       rw [←her] at K9 hc'
       clear hv hc HV2 her
       go_wp2_with (first
        | (go_at_call 39;(with_reducible refine K9.out.mono ?_);rintro e w10 ⟨rfl,hb10⟩
           have hr10:=(hb10.block _ (Array.getElem?_eq_some_iff.1 HR9.out).1).trans HR9.out
           obtain ⟨r0,r1,r2,r3,r4,r5⟩:=three_facts hr10
           have HR10:=Lib.hid hr10
           have HB10:=Lib.hid (HB9.out.trans (hb10.mono HB9.out.size))
           clear hb10 hr10))
       refine bodyPost_ret (results_ct rfl _ _ (w.heap.size+1+1) _ _ (0,0) _ rfl (three_set HR10.out) Tryz.underlying35 rfl (by kernel_rfl)) rfl ?_
       exact ⟨none,0,0,none,0,0,rfl,((HB10.out.setCell (p:=⟨w.heap.size+1+1,0,none⟩) (show w.heap.size≤w.heap.size+1+1 by omega) _).setCell (p:=⟨w.heap.size+1+1,1,none⟩) (show w.heap.size≤w.heap.size+1+1 by omega) _).setCell (p:=⟨w.heap.size+1+1,2,none⟩) (show w.heap.size≤w.heap.size+1+1 by omega) _,Own.none_ _ _ _ _ _,Own.none_ _ _ _ _ _⟩
   · have hCe:withB A true x=⟨A.n,A.ways,A.turns ++ [x]⟩:=rfl
     have hv:=HV.out
     rw [hCe] at hv
     have HV2:=Lib.hid hv
     clear hv hCe HV
     go_upto_region 8 with (first
      | (at_builtin
         have hown:Own encBound 4 50 w.heap.size (w7.alloc (.cells #[.int .i64 x.src,.int .i64 x.dst,.int .i64 x.most,.int .i64 x.by_] 50)) A6 Atn c6 A.turns:=HT7.out.alloc _
         have hrd7:=Rd.single (enc:=encBound) (k:=4) w7 #[.int .i64 x.src,.int .i64 x.dst,.int .i64 x.most,.int .i64 x.by_] 50 [x] 1 rfl (by omega) (fun _=>rfl) (by simp [encBound])
         refine wpList_append_src elBound (fun _=>rfl) oneBound rfl _ _ rfl _ _ _ _ rfl rfl hown hrd7 (by omega) (by decide) (by simp;have:=HB7.out.size;omega) ?_
         intro A2 c2 w8 hO8 hg8 hA8
         have nb:∀ {j:Nat} {cs:Array Value} {t:TypeId},w7.heap[j]? = some (.cells cs t (0,0))→t≠50→w8.heap[j]? = some (.cells cs t (0,0)):=fun hj ht=>((hg8.block _ (by have:=(Array.getElem?_eq_some_iff.1 hj).1;simp;omega) (fun e=>by
          rcases HT7.out.ne_type hj ht with rfl|h'
          · cases e
          · exact h' e.symm)).trans (Below.heap_alloc _ _ _ (Array.getElem?_eq_some_iff.1 hj).1)).trans hj
         have hh8:=nb HH7.out (by decide)
         have hr8:=nb HR7.out (by decide)
         obtain ⟨k0,k1,k2,k3,k4,k5⟩:=three_facts hh8
         have HH8:=Lib.hid hh8
         have HR8:=Lib.hid hr8
         have HO8:=Lib.hid hO8
         have HOo8:Hid (Own encBound 4 50 w.heap.size w8 _ _ _ _):=(show Own _ _ _ _ _ _ _ _ _ from own_same (HW7.out.alloc (.cells #[.int .i64 x.src,.int .i64 x.dst,.int .i64 x.most,.int .i64 x.by_] 50)) fun g hg=>hg8.block g (by have:=(HW7.out.alloc (.cells #[.int .i64 x.src,.int .i64 x.dst,.int .i64 x.most,.int .i64 x.by_] 50)).lt_ g hg;exact this) (fun e=>HNE.out g hg e.symm))
         have HB8:=Lib.hid ((HB7.out.alloc HB7.out.size (.cells #[.int .i64 x.src,.int .i64 x.dst,.int .i64 x.most,.int .i64 x.by_] 50)).grown hg8 (by simp;have:=HB7.out.size;omega) (fun j e=>hown.ltB j e))
         clear hO8 hg8 hA8 hown hrd7 hh8 hr8))
     obtain ⟨w9,hw9⟩:∃ w9,w8.setCell ⟨w.heap.size,2,none⟩ (.slice A2 (Atn+1) c2)=w9:=⟨_,rfl⟩
     have hh9:w9.heap[w.heap.size]? = some (.cells #[.int .i64 A.n,.slice A5 Awn c5,.slice A2 (Atn+1) c2] 35 (0,0)):=(by rw [←hw9,heap_setCell_obj HH8.out];rfl)
     have hr9:w9.heap[w.heap.size+1+1]? = some (.cells #[.int .i64 0,.slice none 0 0,.slice none 0 0] 35 (0,0)):=(by rw [←hw9,Below.heap_setCell _ _ _ _ (show w.heap.size+1+1≠w.heap.size by omega)];exact HR8.out)
     have HO9:Hid (Own encBound 4 50 w.heap.size w9 _ _ _ _):=(show Own _ _ _ _ _ _ _ _ _ by rw [←hw9];exact own_set HO8.out HH8.out (by decide) _)
     have HOo9:Hid (Own encBound 4 50 w.heap.size w9 _ _ _ _):=(show Own _ _ _ _ _ _ _ _ _ by rw [←hw9];exact own_set HOo8.out HH8.out (by decide) _)
     have HB9:Hid (Below w.heap.size w w9):=(show Below _ _ _ by rw [←hw9];exact HB8.out.setCell (p:=⟨w.heap.size,2,none⟩) (Nat.le_refl _) _)
     rw [hw9]
     obtain ⟨y0,y1,y2,_,_,_⟩:=three_facts hh9
     have K9:=Lib.hid (CheckOutline_any ⟨A.n,A.ways,A.turns ++ [x]⟩ A5 Awn c5 A2 (Atn+1) c2 w9 (HOo9.out.rd (fun _=>rfl) (by omega)) (HO9.out.rd (fun _=>rfl) (by omega)))
     have HH9:=Lib.hid hh9
     have HR9:=Lib.hid hr9
     clear hw9 hh9 hr9
     by_cases hc:checkOut ⟨A.n,A.ways,A.turns ++ [x]⟩=0
     · have hv:=HV2.out
       rw [hc,if_neg (by simp)] at hv
       obtain ⟨rfl,rfl⟩:=Prod.mk.injEq _ _ _ _ |>.mp hv
       rw [hc] at K9
       clear hv hc HV2
       go_wp2_with (first
        | (go_at_call 39;(with_reducible refine K9.out.mono ?_);rintro e w10 ⟨rfl,hb10⟩
           have hh10:=(hb10.block _ (Array.getElem?_eq_some_iff.1 HH9.out).1).trans HH9.out
           have hr10:=(hb10.block _ (Array.getElem?_eq_some_iff.1 HR9.out).1).trans HR9.out
           obtain ⟨p0,p1,p2,_,_,_⟩:=three_facts hh10
           obtain ⟨r0,r1,r2,r3,r4,r5⟩:=three_facts hr10
           have HR10:=Lib.hid hr10
           have HB10:=Lib.hid (HB9.out.trans (hb10.mono HB9.out.size))
           have HO10:=Lib.hid (HO9.out.below hb10 (Nat.le_refl _))
           have HOo10:=Lib.hid (HOo9.out.below hb10 (Nat.le_refl _))
           clear hb10 hh10 hr10))
       refine bodyPost_ret (results_ct rfl _ _ (w.heap.size+1+1) _ _ (0,0) _ rfl (three_set HR10.out) Tryz.underlying35 rfl (by kernel_rfl)) rfl ?_
       exact ⟨A5,Awn,c5,A2,Atn+1,c2,rfl,((HB10.out.setCell (p:=⟨w.heap.size+1+1,0,none⟩) (show w.heap.size≤w.heap.size+1+1 by omega) _).setCell (p:=⟨w.heap.size+1+1,1,none⟩) (show w.heap.size≤w.heap.size+1+1 by omega) _).setCell (p:=⟨w.heap.size+1+1,2,none⟩) (show w.heap.size≤w.heap.size+1+1 by omega) _,own_set (own_set (own_set (HOo10.out) HR10.out (by decide) _) (heap_setCell_obj HR10.out) (by decide) _) (heap_setCell_obj (heap_setCell_obj HR10.out)) (by decide) _,own_set (own_set (own_set (HO10.out) HR10.out (by decide) _) (heap_setCell_obj HR10.out) (by decide) _) (heap_setCell_obj (heap_setCell_obj HR10.out)) (by decide) _⟩
     · have hv:=HV2.out
       rw [if_pos hc] at hv
       have hc':(checkOut ⟨A.n,A.ways,A.turns ++ [x]⟩ != 0)=true:=by simpa using hc
       obtain ⟨rfl,her⟩:=Prod.mk.injEq _ _ _ _ |>.mp hv
       rw [←her] at K9 hc'
       clear hv hc HV2 her
       go_wp2_with (first
        | (go_at_call 39;(with_reducible refine K9.out.mono ?_);rintro e w10 ⟨rfl,hb10⟩
           have hr10:=(hb10.block _ (Array.getElem?_eq_some_iff.1 HR9.out).1).trans HR9.out
           obtain ⟨r0,r1,r2,r3,r4,r5⟩:=three_facts hr10
           have HR10:=Lib.hid hr10
           have HB10:=Lib.hid (HB9.out.trans (hb10.mono HB9.out.size))
           clear hb10 hr10))
       refine bodyPost_ret (results_ct rfl _ _ (w.heap.size+1+1) _ _ (0,0) _ rfl (three_set HR10.out) Tryz.underlying35 rfl (by kernel_rfl)) rfl ?_
       exact ⟨none,0,0,none,0,0,rfl,((HB10.out.setCell (p:=⟨w.heap.size+1+1,0,none⟩) (show w.heap.size≤w.heap.size+1+1 by omega) _).setCell (p:=⟨w.heap.size+1+1,1,none⟩) (show w.heap.size≤w.heap.size+1+1 by omega) _).setCell (p:=⟨w.heap.size+1+1,2,none⟩) (show w.heap.size≤w.heap.size+1+1 by omega) _,Own.none_ _ _ _ _ _,Own.none_ _ _ _ _ _⟩
end Go.Proofs.YtpmkgmilfifkpaaGreatDoor
end

/- Contracts that the laws lean on: With, Ends, Pts. -/
import Derived.Test.YtejjplhknacoiaaGreatDoorLK16
set_option maxRecDepth 100000
set_option maxHeartbeats 2000000
section
namespace Go.Proofs.YtejjplhknacoiaaGreatDoor
open Go.RowKit Go.Proofs Go.Shelf
def YearsV (B:Nat) (W:World) (ps:List Place) (L:List Link) (a:Array Value):Prop:=
 ∃ Ab cb Al cl mb,a = #[.int .i64 (ps.length+1),.slice Ab L.length cb,.slice Al L.length cl,.map (some mb)]∧Own encBound 4 148 B W Ab L.length cb (L.map (boundOf (ptsM ps ps.length)))∧Own encLink 6 138 B W Al L.length cl L∧MapP intE W mb (ptsM ps ps.length)∧B≤mb
theorem okLT_of {x:Trace} (h:checkTrace x=0) (h4:x.kind≠4):okLT x:=by
 unfold checkTrace at h
 by_cases hx:(okT x&&eqTrace x (yT x))=true
 · simp only [Bool.and_eq_true] at hx
   obtain ⟨hx,hy⟩:=hx
   have hlow:x.kind≠2→x.low=0:=fun h2=>by
    have:x=yT x:=by
     unfold eqTrace at hy
     simpa using hy
    have h3:=congrArg Trace.low this
    simpa [yT,h2] using h3
   unfold okT at hx
   simp only [Bool.and_eq_true] at hx
   obtain ⟨⟨_,h2⟩,h3⟩:=hx
   by_cases k1:x.kind=1
   · exact ⟨.inl k1,by rw [hlow (by omega)];decide⟩
   · by_cases k2:x.kind=2
     · rw [if_neg k1,if_pos k2] at h3
       simp only [inB,Bool.and_eq_true,decide_eq_true_eq] at h3
       refine ⟨.inr (.inl k2),?_⟩
       rw [IntKind.wrap_i64]
       omega
     · by_cases k3:x.kind=3
       · exact ⟨.inr (.inr k3),by rw [hlow k2];decide⟩
       · rw [if_neg k1,if_neg k2,if_neg k3] at h3
         exact absurd (by simpa using h3) h4
 · rw [if_neg hx] at h
   cases h
theorem okLT_counting {l:List Trace} {known:Int} (h:(check l).2=0):∀ x∈counting l known,okLT x:=by
 intro x hx
 unfold counting at hx
 rw [List.mem_filter] at hx
 obtain ⟨hm,hp⟩:=hx
 obtain ⟨i,hi⟩:=List.mem_iff_getElem?.1 hm
 have hf:=check_ok h i x hi
 refine okLT_of ?_ ?_
 · unfold follows at hf
   split at hf
   · cases hf
   · split at hf
     · cases hf
     · rename_i hc
       simpa using hc
 · intro h4
   unfold pc at hp
   simp [h4] at hp
theorem askErr_sizes {l:List Trace} {known:Int} {bs:List Bond} (he:askErr l known bs=0):(placesOf (counting l known) bs).length≤50∧(admitsOf (counting l known)).length≤8:=by
 unfold askErr at he
 split at he
 · rename_i h;exact absurd he h
 · split at he
   · rename_i h;exact absurd he h
   · split at he
     · cases he
     · rename_i h
       refine ⟨?_,?_⟩
       · unfold placesOf;rw [(sortPl_perm _).length_eq];omega
       · rw [admitsOf_len,(sortPl_perm _).length_eq,List.length_map];omega
theorem YearAt.over {W:World} {r:Nat} {v0 v1 v2 v3:Value} (h:YearAt W r v0 v1 v2 v3) (u0 u1 u2 u3:Value):YearAt ((((W.setCell ⟨r,0,none⟩ u0).setCell ⟨r,1,none⟩ u1).setCell ⟨r,2,none⟩ u2).setCell ⟨r,3,none⟩ u3) r u0 u1 u2 u3:=
 ⟨by rw [heap_setCell_obj (heap_setCell_obj (heap_setCell_obj (heap_setCell_obj h.at_)))];rfl⟩
theorem below_over {B r:Nat} {w0 W:World} (h:Below B w0 W) (hr:B≤r) (u0 u1 u2 u3:Value):Below B w0 ((((W.setCell ⟨r,0,none⟩ u0).setCell ⟨r,1,none⟩ u1).setCell ⟨r,2,none⟩ u2).setCell ⟨r,3,none⟩ u3):=
 (((h.setCell (p:=⟨r,0,none⟩) hr _).setCell (p:=⟨r,1,none⟩) hr _).setCell (p:=⟨r,2,none⟩) hr _).setCell (p:=⟨r,3,none⟩) hr _
theorem YearsV.out {B:Nat} {W:World} {ps:List Place} {L:List Link} {a:Array Value} (h:YearsV B W ps L a) {r:Nat} {v0 v1 v2 v3:Value} (hr:YearAt W r v0 v1 v2 v3) {B':Nat} (hB:B'≤B) (u0 u1 u2 u3:Value):
 YearsV B' ((((W.setCell ⟨r,0,none⟩ u0).setCell ⟨r,1,none⟩ u1).setCell ⟨r,2,none⟩ u2).setCell ⟨r,3,none⟩ u3) ps L a:=by
 obtain ⟨Ab,cb,Al,cl,mb,ha,h1,h2,h3,h4⟩:=h
 have hs:∀ (W:World) (i:Nat) (v:Value),W.grownBy (W.setCell ⟨r,i,none⟩ v) (some r):=fun W i v=>grownBy_setCell' W _ i v
 have n1:Al=none∨blockOf Al≠some r:=h2.ne hr.at_ (fun cur e=>by injection e with _ h _;cases h)
 have n2:Ab=none∨blockOf Ab≠some r:=h1.ne hr.at_ (fun cur e=>by injection e with _ h _;cases h)
 have n3:mb≠r:=(hr.not_map h3).symm
 exact ⟨Ab,cb,Al,cl,mb,ha,((((h1.kept (hs _ _ _) n2).kept (hs _ _ _) n2).kept (hs _ _ _) n2).kept (hs _ _ _) n2).mono hB,((((h2.kept (hs _ _ _) n1).kept (hs _ _ _) n1).kept (hs _ _ _) n1).kept (hs _ _ _) n1).mono hB,
  (((h3.setCell _ _ n3).setCell _ _ n3).setCell _ _ n3).setCell _ _ n3,Nat.le_trans hB h4⟩
theorem OrdAt.kept {B o:Nat} {W W':World} {bA:Option Addr} {bn bc:Nat} {ts:List Trace} {ps:List Place} {ads:List Admit} (h:OrdAt B W o bA bn bc ts ps ads) {r:Nat} (hg:W.grownBy W' (some r)) {v0 v1 v2 v3:Value} (hr:YearAt W r v0 v1 v2 v3):OrdAt B W' o bA bn bc ts ps ads:=by
 obtain ⟨ho,At,ct,Ap,cp,Aa,ca,h1,h2,h3,h4⟩:=h
 have hno:o≠r:=fun e=>by rw [e,hr.at_] at h1;injection h1 with h1;injection h1 with _ h _;cases h
 exact ⟨ho,At,ct,Ap,cp,Aa,ca,(hg.block _ (Array.getElem?_eq_some_iff.1 h1).1 (fun e=>hno (Option.some.inj e))).trans h1,h2.kept hg (h2.ne hr.at_ (fun cur e=>by injection e with _ h _;cases h)),h3.kept hg (h3.ne hr.at_ (fun cur e=>by injection e with _ h _;cases h)),h4.kept hg (h4.ne hr.at_ (fun cur e=>by injection e with _ h _;cases h))⟩
theorem OrdAt.below {B B' o:Nat} {W W':World} {bA:Option Addr} {bn bc:Nat} {ts:List Trace} {ps:List Place} {ads:List Admit} (h:OrdAt B W o bA bn bc ts ps ads) (hb:Below W.heap.size W W') (hB:B'≤B):OrdAt B' W' o bA bn bc ts ps ads:=by
 obtain ⟨ho,At,ct,Ap,cp,Aa,ca,h1,h2,h3,h4⟩:=h
 exact ⟨Nat.le_trans hB ho,At,ct,Ap,cp,Aa,ca,(hb.block _ (Array.getElem?_eq_some_iff.1 h1).1).trans h1,(h2.below hb (Nat.le_refl _)).mono hB,(h3.below hb (Nat.le_refl _)).mono hB,(h4.below hb (Nat.le_refl _)).mono hB⟩
theorem OrdAt.over {B B' o:Nat} {W:World} {bA:Option Addr} {bn bc:Nat} {ts:List Trace} {ps:List Place} {ads:List Admit} (h:OrdAt B W o bA bn bc ts ps ads) {r:Nat} {v0 v1 v2 v3:Value} (hr:YearAt W r v0 v1 v2 v3) (hB:B'≤B) (u0 u1 u2 u3:Value):
 OrdAt B' ((((W.setCell ⟨r,0,none⟩ u0).setCell ⟨r,1,none⟩ u1).setCell ⟨r,2,none⟩ u2).setCell ⟨r,3,none⟩ u3) o bA bn bc ts ps ads:=by
 have r1:YearAt (W.setCell ⟨r,0,none⟩ u0) r u0 v1 v2 v3:=⟨by rw [heap_setCell_obj hr.at_];rfl⟩
 have r2:YearAt ((W.setCell ⟨r,0,none⟩ u0).setCell ⟨r,1,none⟩ u1) r u0 u1 v2 v3:=⟨by rw [heap_setCell_obj r1.at_];rfl⟩
 have r3:YearAt (((W.setCell ⟨r,0,none⟩ u0).setCell ⟨r,1,none⟩ u1).setCell ⟨r,2,none⟩ u2) r u0 u1 u2 v3:=⟨by rw [heap_setCell_obj r2.at_];rfl⟩
 have h1:=(((h.kept (grownBy_setCell' W r 0 u0) hr).kept (grownBy_setCell' _ r 1 u1) r1).kept (grownBy_setCell' _ r 2 u2) r2).kept (grownBy_setCell' _ r 3 u3) r3
 obtain ⟨ho,At,ct,Ap,cp,Aa,ca,k1,k2,k3,k4⟩:=h1
 exact ⟨Nat.le_trans hB ho,At,ct,Ap,cp,Aa,ca,k1,k2.mono hB,k3.mono hB,k4.mono hB⟩
def withErr (l:List Trace) (known:Int) (bs:List Bond) (mv:List Place):Int:=if askErr l known bs≠0 then askErr l known bs else admittedErr (admitsOf (counting l known)) mv
def zeroYears:Array Value:=#[.int .i64 0,.slice none 0 0,.slice none 0 0,.map none]
theorem results_tct {P:Program} {fn:Func} {p u v:Tmp} {ty:TypeId} (h:fn.results = #[.tmp u,.cell p ty,.tmp v]) (tmps:Array Value) (w:World) (g:Nat) (t:TypeId) (cs:Array Value) (fr:Nat×Nat) (d:TypeDesc)
 (hp:tmps.getD p undef = .pointer (some ⟨g,0,none⟩)) (hg:w.heap[g]? = some (.cells cs t fr))
 (hu:P.underlying ty=some d) (hd:(match d with | .struct _ | .array _ _=>true|_=>false)=true) (hi:(P.info? ty).map (·.size)=some cs.size):
 (results fn tmps).run P w = .ok (.tuple #[tmps.getD u undef,.agg cs,tmps.getD v undef]) w:=by
 have hp':tmps[p]?.getD undef = .pointer (some ⟨g,0,none⟩):=by simpa using hp
 simp [results,h,hp',asAddr,run_loadVar_row w g t ty cs fr d hg hu hd hi]
theorem with_any (A:Option Addr) (n c:Nat) (l:List Trace) (known:Int) (bA:Option Addr) (bn bc:Nat) (bs:List Bond) (M:Option Addr) (mn mc:Nat) (mv:List Place) (w:World) (hl:Rd encTrace 10 w A n c l) (hb:Rd encBond 5 w bA bn bc bs) (hm:Rd encPlace 2 w M mn mc mv):
 Calls Tryz.prog 33 #[.slice A n c,.int .i64 known,.slice bA bn bc,.slice M mn mc] w fun e w'=> ∃ p a,e = .returned (.tuple #[.pointer p,.agg a,.int .i64 (withErr l known bs mv)])∧Below w.heap.size w w'∧
  (withErr l known bs mv≠0→p=none∧a=zeroYears)∧
  (withErr l known bs mv=0→∃ o,p=some ⟨o,0,none⟩∧OrdAt w.heap.size w' o bA bn bc (counting l known) (placesOf (counting l known) bs) (admitsOf (counting l known))∧
    YearsV w.heap.size w' (placesOf (counting l known) bs) (linksL (counting l known) bs mv) a):=by
 obtain ⟨w1,hw1⟩:∃ w1,w.alloc (.cells zeroYears 87)=w1:=⟨_,rfl⟩
 have hb1:Below w.heap.size w w1:=(by rw [←hw1];exact (Below.refl _ w).alloc (Nat.le_refl _) _)
 have hz1:w1.heap.size=w.heap.size+1:=(by rw [←hw1];simp)
 have hr1:YearAt w1 w.heap.size (.int .i64 0) (.slice none 0 0) (.slice none 0 0) (.map none):=(by rw [←hw1];exact ⟨heap_alloc_new w _⟩)
 have hask:=asked_any A n c l known bA bn bc bs w1 (hl.below hb1 (Nat.le_refl _)) (hb.below hb1 (Nat.le_refl _))
 have HASK:=Lib.hid hask
 clear hask
 unfold zeroYears at hw1
 by_cases he:askErr l known bs=0
 · have hck:(check l).2=0∧checkBonds bs=0:=by
    unfold askErr at he
    split at he
    · rename_i h;exact absurd he h
    · split at he
      · rename_i h;exact absurd he h
      · rename_i h1 h2;exact ⟨by simpa using h1,by simpa using h2⟩
   have hnl:=check_small hck.1
   have hnb:=checkBonds_small hck.2
   have hOk:=okLT_counting (known:=known) hck.1
   have hcl:(counting l known).length≤140:=Nat.le_trans (List.length_filter_le _ _) hnl
   have HOK:=Lib.hid hOk
   have HBL:=Lib.hid hb.len
   obtain ⟨hps,hads⟩:=askErr_sizes he
   have he':(askErr l known bs != 0)=false:=by simpa using he
   have hwe:withErr l known bs mv=admittedErr (admitsOf (counting l known)) mv:=by unfold withErr;rw [if_neg (by simpa using he)]
   rw [hwe]
   clear hck hwe hOk
   have HE:=Lib.hid he
   rw [he] at HASK
   clear he he'
   obtain ⟨ee,hee⟩:∃ ee,admittedErr (admitsOf (counting l known)) mv=ee:=⟨_,rfl⟩
   rw [hee]
   have HEE:=Lib.hid hee
   clear hee
   have hHB:=Lib.hid hb
   have hHM:=Lib.hid hm
   have hz:∀ v:Int,(v != 0)=decide (v≠0):=fun v=>by by_cases h:v=0<;>simp [h]
   clear hb hm hl
   by_cases h2:ee=0
   · subst h2
     go_enter Tryz.func33,Tryz.ntmps33
     go_wp2_with (first
      | (go_at_call 30;refine HASK.out.mono ?_;rintro e w2 ⟨p,rfl,hb2,hp⟩
         obtain ⟨o,rfl,hOr⟩:=hp rfl
         obtain ⟨ho,At,ct,Ap,cp,Aa,ca,h1,h2o,h3o,h4o⟩:=id hOr
         have hlo:=(Array.getElem?_eq_some_iff.1 h1).1
         have hr2:YearAt w2 w.heap.size (.int .i64 0) (.slice none 0 0) (.slice none 0 0) (.map none):=⟨(hb2.block _ (by omega)).trans hr1.at_⟩
         have HB2:=Lib.hid hb2
         have HOR:=Lib.hid hOr
         have HH:=Lib.hid h1
         have H2:=Lib.hid h2o
         have H3:=Lib.hid h3o
         have H4:=Lib.hid h4o
         clear h1 h2o h3o h4o hOr hp hb2)
      | (go_at_call 60
         refine (admitted_any o Aa (admitsOf (counting l known)).length ca (admitsOf (counting l known)) M mn mc mv w2 hlo (by simp [World.cell?,HH.out]) (H4.out.rd (fun _=>rfl) ?_) (hHM.out.below (hb1.trans (HB2.out.mono (by omega))) (Nat.le_refl _))).mono ?_
         rotate_left
         rintro e w3 ⟨rfl,hb3⟩
         rw [HEE.out]
         have hr3:YearAt w3 w.heap.size (.int .i64 0) (.slice none 0 0) (.slice none 0 0) (.map none):=⟨(hb3.block _ hr2.lt).trans hr2.at_⟩
         obtain ⟨r0,r1,r2,r3,rf⟩:=hr3.cell
         have rf0:=rf 0
         have rf1:=rf 1
         have rf2:=rf 2
         have rf3:=rf 3
         have HB3:=Lib.hid hb3
         clear hb3)
      | (go_at_call 38
         have hhe:=HB3.out.block _ hlo
         have hq:∀ j,w3.cell? ⟨o,j,none⟩=w2.cell? ⟨o,j,none⟩:=fun j=>HB3.out.cell (p:=⟨o,j,none⟩) hlo
         have hbb:=(hb1.trans (HB2.out.mono (by omega))).trans (HB3.out.mono (show w.heap.size≤w2.heap.size by have:=hr2.lt;omega))
         refine (years_any o At (counting l known).length ct bA bn bc Ap (placesOf (counting l known) bs).length cp M mn mc (counting l known) bs (placesOf (counting l known) bs) mv w3 ((hq 0).trans (by simp [World.cell?,HH.out])) ((hq 1).trans (by simp [World.cell?,HH.out])) ((hq 2).trans (by simp [World.cell?,HH.out]))
          ((H2.out.below HB3.out (Nat.le_refl _)).rd (fun _=>rfl) (by omega)) (hHB.out.below hbb (Nat.le_refl _)) ((H3.out.below HB3.out (Nat.le_refl _)).rd (fun _=>rfl) ?_) (hHM.out.below hbb (Nat.le_refl _)) HOK.out (by omega) (by have:=HBL.out;omega)).mono ?_
         rotate_left
         rintro e w4 ⟨Ab,cb,Al,cl,mb,rfl,hb4,y1,y2,y3,y4⟩
         have hr4:YearAt w4 w.heap.size (.int .i64 0) (.slice none 0 0) (.slice none 0 0) (.map none):=⟨(hb4.block _ hr3.lt).trans hr3.at_⟩
         clear r0 r1 r2 r3 rf rf0 rf1 rf2 rf3
         obtain ⟨r0,r1,r2,r3,rf⟩:=hr4.cell
         have rf0:=rf 0
         have rf1:=rf 1
         have rf2:=rf 2
         have rf3:=rf 3
         have HB4:=Lib.hid hb4
         have HY:Hid (YearsV w3.heap.size w4 (placesOf (counting l known) bs) (linksL (counting l known) bs mv) #[.int .i64 ((placesOf (counting l known) bs).length+1),.slice Ab (linksL (counting l known) bs mv).length cb,.slice Al (linksL (counting l known) bs mv).length cl,.map (some mb)]):=Lib.hid ⟨Ab,cb,Al,cl,mb,rfl,y1,y2,y3,y4⟩
         clear y1 y2 y3 y4 hb4))
     · refine bodyPost_ret (results_tct rfl _ _ w.heap.size _ _ (0,0) _ rfl (hr4.over _ _ _ _).at_ Tryz.underlying87 rfl (by kernel_rfl)) rfl ?_
       have hs2:w.heap.size≤w2.heap.size:=(by have:=hr2.lt;omega)
       have hs3:w.heap.size≤w3.heap.size:=(by have:=hr3.lt;omega)
       refine ⟨_,_,rfl,below_over (((hb1.trans (HB2.out.mono (by omega))).trans (HB3.out.mono hs2)).trans (HB4.out.mono hs3)) (Nat.le_refl _) _ _ _ _,fun h=>absurd rfl h,fun _=>⟨o,rfl,?_,?_⟩⟩
       · exact ((HOR.out.below HB3.out (Nat.le_refl _)).below HB4.out (Nat.le_refl _)).over hr4 (by omega) _ _ _ _
       · exact HY.out.out hr4 hs3 _ _ _ _
     all_goals omega
   · have h2':(ee != 0)=true:=by simpa using h2
     go_enter Tryz.func33,Tryz.ntmps33
     go_wp2_with (first
      | (go_at_call 30;refine HASK.out.mono ?_;rintro e w2 ⟨p,rfl,hb2,hp⟩
         obtain ⟨o,rfl,hOr⟩:=hp rfl
         obtain ⟨ho,At,ct,Ap,cp,Aa,ca,h1,h2o,h3o,h4o⟩:=id hOr
         have hlo:=(Array.getElem?_eq_some_iff.1 h1).1
         have hr2:YearAt w2 w.heap.size (.int .i64 0) (.slice none 0 0) (.slice none 0 0) (.map none):=⟨(hb2.block _ (by omega)).trans hr1.at_⟩
         have HB2:=Lib.hid hb2
         have HOR:=Lib.hid hOr
         have HH:=Lib.hid h1
         have H2:=Lib.hid h2o
         have H3:=Lib.hid h3o
         have H4:=Lib.hid h4o
         clear h1 h2o h3o h4o hOr hp hb2)
      | (go_at_call 60
         refine (admitted_any o Aa (admitsOf (counting l known)).length ca (admitsOf (counting l known)) M mn mc mv w2 hlo (by simp [World.cell?,HH.out]) (H4.out.rd (fun _=>rfl) ?_) (hHM.out.below (hb1.trans (HB2.out.mono (by omega))) (Nat.le_refl _))).mono ?_
         rotate_left
         rintro e w3 ⟨rfl,hb3⟩
         rw [HEE.out]
         have hr3:YearAt w3 w.heap.size (.int .i64 0) (.slice none 0 0) (.slice none 0 0) (.map none):=⟨(hb3.block _ hr2.lt).trans hr2.at_⟩
         obtain ⟨r0,r1,r2,r3,rf⟩:=hr3.cell
         have rf0:=rf 0
         have rf1:=rf 1
         have rf2:=rf 2
         have rf3:=rf 3
         have HB3:=Lib.hid hb3
         clear hb3))
     · refine bodyPost_ret (results_tct rfl _ _ w.heap.size _ _ (0,0) _ rfl (hr3.over _ _ _ _).at_ Tryz.underlying87 rfl (by kernel_rfl)) rfl ?_
       have hs2:w.heap.size≤w2.heap.size:=(by have:=hr2.lt;omega)
       exact ⟨none,zeroYears,rfl,below_over ((hb1.trans (HB2.out.mono (by omega))).trans (HB3.out.mono hs2)) (Nat.le_refl _) _ _ _ _,fun _=>⟨rfl,rfl⟩,fun h=>absurd h h2⟩
     all_goals omega
 · have hwe:withErr l known bs mv=askErr l known bs:=by unfold withErr;rw [if_pos he]
   have he':(askErr l known bs != 0)=true:=by simpa using he
   rw [hwe]
   go_enter Tryz.func33,Tryz.ntmps33
   go_wp2_with (first
    | (go_at_call 30;refine HASK.out.mono ?_;rintro e w2 ⟨p,rfl,hb2,_⟩
       have hr2:YearAt w2 w.heap.size (.int .i64 0) (.slice none 0 0) (.slice none 0 0) (.map none):=⟨(hb2.block _ (by omega)).trans hr1.at_⟩
       obtain ⟨r0,r1,r2,r3,rf⟩:=hr2.cell
       have rf0:=rf 0
       have rf1:=rf 1
       have rf2:=rf 2
       have rf3:=rf 3))
   refine bodyPost_ret (results_tct rfl _ _ w.heap.size _ _ (0,0) _ rfl (hr2.over _ _ _ _).at_ Tryz.underlying87 rfl (by kernel_rfl)) rfl ?_
   exact ⟨none,zeroYears,rfl,below_over (hb1.trans (hb2.mono (by omega))) (Nat.le_refl _) _ _ _ _,fun _=>⟨rfl,rfl⟩,fun h=>absurd h he⟩
def ptsOf (l:List Trace) (known:Int) (bs:List Bond):List (Place×Int):=ptsM (placesOf (counting l known) bs) (placesOf (counting l known) bs).length
def endsErr (l:List Trace) (known:Int) (bs:List Bond) (mv:List Place) (a b:Place):Int:=
 if withErr l known bs mv≠0 then withErr l known bs mv else if (getM (ptsOf l known bs) a).isSome&&(getM (ptsOf l known bs) b).isSome then 0 else 5
def YearsShape (cs:Array Value):Prop:=∃ n A1 k1 c1 A2 k2 c2 M,cs = #[.int .i64 n,.slice A1 k1 c1,.slice A2 k2 c2,.map M]
theorem results_cttt {P:Program} {fn:Func} {p u v x:Tmp} {ty:TypeId} (h:fn.results = #[.cell p ty,.tmp u,.tmp v,.tmp x]) (tmps:Array Value) (w:World) (g:Nat) (t:TypeId) (cs:Array Value) (fr:Nat×Nat) (d:TypeDesc)
 (hp:tmps.getD p undef = .pointer (some ⟨g,0,none⟩)) (hg:w.heap[g]? = some (.cells cs t fr))
 (hu:P.underlying ty=some d) (hd:(match d with | .struct _ | .array _ _=>true|_=>false)=true) (hi:(P.info? ty).map (·.size)=some cs.size):
 (results fn tmps).run P w = .ok (.tuple #[.agg cs,tmps.getD u undef,tmps.getD v undef,tmps.getD x undef]) w:=by
 have hp':tmps[p]?.getD undef = .pointer (some ⟨g,0,none⟩):=by simpa using hp
 simp [results,h,hp',asAddr,run_loadVar_row w g t ty cs fr d hg hu hd hi]
theorem YearsV.below {B:Nat} {W W':World} {ps:List Place} {L:List Link} {a:Array Value} (h:YearsV B W ps L a) (hb:Below W.heap.size W W'):YearsV B W' ps L a:=by
 obtain ⟨Ab,cb,Al,cl,mb,ha,h1,h2,h3,h4⟩:=h
 exact ⟨Ab,cb,Al,cl,mb,ha,h1.below hb (Nat.le_refl _),h2.below hb (Nat.le_refl _),h3.below hb h3.lt,h4⟩
theorem some_of {o:Option Int} {x:Int} (h1:o.getD 0=x) (h2:o.isSome=true):o=some x:=by
 cases o with
 | none=>cases h2
 | some v=>rw [←h1];rfl
theorem ends_any (A:Option Addr) (n c:Nat) (l:List Trace) (known:Int) (bA:Option Addr) (bn bc:Nat) (bs:List Bond) (M:Option Addr) (mn mc:Nat) (mv:List Place) (a b:Place) (w:World) (hl:Rd encTrace 10 w A n c l) (hb:Rd encBond 5 w bA bn bc bs) (hm:Rd encPlace 2 w M mn mc mv):
 Calls Tryz.prog 31 #[.slice A n c,.int .i64 known,.slice bA bn bc,.slice M mn mc,.agg #[.int .i64 a.pit,.int .i64 a.layer],.agg #[.int .i64 b.pit,.int .i64 b.layer]] w fun e w'=> ∃ cs p q,e = .returned (.tuple #[.agg cs,.int .i64 p,.int .i64 q,.int .i64 (endsErr l known bs mv a b)])∧Below w.heap.size w w'∧YearsShape cs∧
  (endsErr l known bs mv a b=0→getM (ptsOf l known bs) a=some p∧getM (ptsOf l known bs) b=some q∧YearsV w.heap.size w' (placesOf (counting l known) bs) (linksL (counting l known) bs mv) cs):=by
 obtain ⟨w1,hw1⟩:∃ w1,((w.alloc (.cells #[.int .i64 a.pit,.int .i64 a.layer] 36)).alloc (.cells #[.int .i64 b.pit,.int .i64 b.layer] 36)).alloc (.cells #[.int .i64 0,.slice none 0 0,.slice none 0 0,.map none] 87)=w1:=⟨_,rfl⟩
 have hb1:Below w.heap.size w w1:=(by rw [←hw1];exact (((Below.refl _ w).alloc (Nat.le_refl _) _).alloc (by simp) _).alloc (by simp;omega) _)
 have hz1:w1.heap.size=w.heap.size+3:=(by rw [←hw1];simp)
 have hra:w1.heap[w.heap.size]? = some (.cells #[.int .i64 a.pit,.int .i64 a.layer] 36 (0,0)):=(by rw [←hw1,Below.heap_alloc _ _ _ (by simp;omega),Below.heap_alloc _ _ _ (by simp)];exact heap_alloc_new w _)
 have hrb:w1.heap[w.heap.size+1]? = some (.cells #[.int .i64 b.pit,.int .i64 b.layer] 36 (0,0)):=(by
  rw [←hw1,Below.heap_alloc _ _ _ (by simp)]
  have:=heap_alloc_new (w.alloc (.cells #[.int .i64 a.pit,.int .i64 a.layer] 36)) (.cells #[.int .i64 b.pit,.int .i64 b.layer] 36)
  rw [World.size_alloc] at this;exact this)
 have hr1:YearAt w1 (w.heap.size+1+1) (.int .i64 0) (.slice none 0 0) (.slice none 0 0) (.map none):=⟨by
  rw [←hw1]
  have:=heap_alloc_new ((w.alloc (.cells #[.int .i64 a.pit,.int .i64 a.layer] 36)).alloc (.cells #[.int .i64 b.pit,.int .i64 b.layer] 36)) (.cells #[.int .i64 0,.slice none 0 0,.slice none 0 0,.map none] 87)
  simp only [World.size_alloc] at this;exact this⟩
 have hwith:=with_any A n c l known bA bn bc bs M mn mc mv w1 (hl.below hb1 (Nat.le_refl _)) (hb.below hb1 (Nat.le_refl _)) (hm.below hb1 (Nat.le_refl _))
 have HW:=Lib.hid hwith
 clear hwith hl hb hm
 have hfin:∀ (w2:World) (u0 u1 u2 u3:Value) (o:Obj) (v0 v1 v2 v3:Value),YearAt w2 (w.heap.size+1+1) v0 v1 v2 v3→Below w1.heap.size w1 w2→
  (((((w2.setCell ⟨w.heap.size+1+1,0,none⟩ u0).setCell ⟨w.heap.size+1+1,1,none⟩ u1).setCell ⟨w.heap.size+1+1,2,none⟩ u2).setCell ⟨w.heap.size+1+1,3,none⟩ u3).alloc o).heap[w.heap.size+1+1]? = some (.cells #[u0,u1,u2,u3] 87 (0,0))∧
  Below w.heap.size w (((((w2.setCell ⟨w.heap.size+1+1,0,none⟩ u0).setCell ⟨w.heap.size+1+1,1,none⟩ u1).setCell ⟨w.heap.size+1+1,2,none⟩ u2).setCell ⟨w.heap.size+1+1,3,none⟩ u3).alloc o):=fun w2 u0 u1 u2 u3 o v0 v1 v2 v3 hr hb=>by
  have h1:=hr.over u0 u1 u2 u3
  exact ⟨(Below.heap_alloc _ _ _ h1.lt).trans h1.at_,(below_over (hb1.trans (hb.mono (by omega))) (by omega) _ _ _ _).alloc (by have:=h1.lt;omega) _⟩
 by_cases he:withErr l known bs mv=0
 · have HE:=Lib.hid he
   rw [he] at HW
   have hee:endsErr l known bs mv a b=if (getM (ptsOf l known bs) a).isSome&&(getM (ptsOf l known bs) b).isSome then 0 else 5:=by unfold endsErr;rw [if_neg (by simpa using he)]
   clear he
   obtain ⟨ps,hps⟩:∃ ps,placesOf (counting l known) bs=ps:=⟨_,rfl⟩
   obtain ⟨m,hmm⟩:∃ m,ptsOf l known bs=m:=⟨_,rfl⟩
   have hmp:ptsM ps ps.length=m:=by rw [←hmm,←hps];rfl
   rw [hmm] at hee
   rw [hee,hmm,hps]
   rw [hps] at HW
   have HM:=Lib.hid hmp
   clear hmm hee hmp
   have key:∀ (k:Place) (W:World) (mb:Nat),MapP intE W mb m→(Instr.lookup 85 (.map (some mb)) (.agg #[.int .i64 k.pit,.int .i64 k.layer]) true).run Tryz.prog W = .ok (.tuple #[.int .i64 ((getM m k).getD 0),.bool (getM m k).isSome]) W:=fun k W mb hm=>by
    have h1:=run_lookupPl Tryz.underlying85 (Tryz.zeroValue3 W) hm k true
    simp only [keyV,getD_intE,if_true] at h1
    exact h1
   have HK:=Lib.hid key
   clear key
   have go:∀ (x y:Int) (sa sb:Bool),(getM m a).getD 0=x→(getM m b).getD 0=y→(getM m a).isSome=sa→(getM m b).isSome=sb→True:=fun _ _ _ _ _ _ _ _=>trivial
   clear go
   obtain ⟨x,hx⟩:∃ x,(getM m a).getD 0=x:=⟨_,rfl⟩
   obtain ⟨y,hy⟩:∃ y,(getM m b).getD 0=y:=⟨_,rfl⟩
   obtain ⟨sa,hsa⟩:∃ sa,(getM m a).isSome=sa:=⟨_,rfl⟩
   obtain ⟨sb,hsb⟩:∃ sb,(getM m b).isSome=sb:=⟨_,rfl⟩
   rw [hsa,hsb]
   have HX:=Lib.hid hx
   have HY:=Lib.hid hy
   have HSA:=Lib.hid hsa
   have HSB:=Lib.hid hsb
   clear hx hy hsa hsb
   cases sa<;>cases sb
   all_goals
    go_enter Tryz.func31,Tryz.ntmps31
    go_wp2_with (first
     | (go_at_call 33;refine HW.out.mono ?_;rintro e w2 ⟨p,cs,rfl,hb2,_,hp⟩
        obtain ⟨o,rfl,hOr,Ab,cb,Al,cl,mb,rfl,y1,y2,y3,y4⟩:=hp rfl
        have hYV:Hid (YearsV w1.heap.size w2 ps (linksL (counting l known) bs mv) #[.int .i64 (ps.length+1),.slice Ab (linksL (counting l known) bs mv).length cb,.slice Al (linksL (counting l known) bs mv).length cl,.map (some mb)]):=Lib.hid ⟨Ab,cb,Al,cl,mb,rfl,y1,y2,y3,y4⟩
        rw [HM.out] at y1 y3
        have hbx:=(Below.refl w2.heap.size w2).alloc (Nat.le_refl _) (.cells #[.int .i64 (ps.length+1),.slice Ab (linksL (counting l known) bs mv).length cb,.slice Al (linksL (counting l known) bs mv).length cl,.map (some mb)] 87)
        have hl1:=HK.out a _ mb (y3.below hbx y3.lt)
        have hl2:=HK.out b _ mb (y3.below hbx y3.lt)
        rw [HX.out,HSA.out] at hl1
        rw [HY.out,HSB.out] at hl2
        have hr2:YearAt w2 (w.heap.size+1+1) (.int .i64 0) (.slice none 0 0) (.slice none 0 0) (.map none):=⟨(hb2.block _ (by omega)).trans hr1.at_⟩
        have hra2:=(hb2.block _ (by omega)).trans hra
        have hrb2:=(hb2.block _ (by omega)).trans hrb
        have a0:w2.cell? ⟨w.heap.size,0,none⟩=some (.int .i64 a.pit):=(by simp [World.cell?,hra2])
        have a1:w2.cell? ⟨w.heap.size,1,none⟩=some (.int .i64 a.layer):=(by simp [World.cell?,hra2])
        have b0:w2.cell? ⟨w.heap.size+1,0,none⟩=some (.int .i64 b.pit):=(by simp [World.cell?,hrb2])
        have b1:w2.cell? ⟨w.heap.size+1,1,none⟩=some (.int .i64 b.layer):=(by simp [World.cell?,hrb2])
        obtain ⟨r0,r1,r2,r3,rf⟩:=hr2.cell
        have rf0:=rf 0
        have rf1:=rf 1
        have rf2:=rf 2
        have rf3:=rf 3
        have hs2:w.heap.size+1+1<w2.heap.size:=(by have:=hb2.size;omega)
        have hs2':¬w.heap.size+1+1=w2.heap.size:=(by omega)
        have hs3:w.heap.size+1<w2.heap.size:=(by omega)
        have hs4:w.heap.size<w2.heap.size:=(by omega)
        have hs3':¬w.heap.size+1=w2.heap.size:=(by omega)
        have hs4':¬w.heap.size=w2.heap.size:=(by omega)
        clear hra2 hrb2 hbx))
   all_goals
    have hf:=hfin w2 (.int .i64 (ps.length+1)) (.slice Ab (linksL (counting l known) bs mv).length cb) (.slice Al (linksL (counting l known) bs mv).length cl) (.map (some mb)) (.cells #[.int .i64 (ps.length+1),.slice Ab (linksL (counting l known) bs mv).length cb,.slice Al (linksL (counting l known) bs mv).length cl,.map (some mb)] 87) _ _ _ _ hr2 hb2
    refine bodyPost_ret (results_cttt rfl _ _ (w.heap.size+1+1) _ _ (0,0) _ rfl hf.1 Tryz.underlying87 rfl (by kernel_rfl)) rfl ?_
   all_goals first
    | exact ⟨_,⟨_,_,rfl⟩,hf.2,⟨_,_,_,_,_,_,_,_,rfl⟩⟩
    | refine ⟨_,_,_,rfl,hf.2,⟨_,_,_,_,_,_,_,_,rfl⟩,some_of HX.out HSA.out,some_of HY.out HSB.out,?_⟩
      exact (hYV.out.out hr2 (by omega) _ _ _ _).below ((Below.refl _ _).alloc (Nat.le_refl _) _)
 · have hwe:endsErr l known bs mv a b=withErr l known bs mv:=by unfold endsErr;rw [if_pos he]
   have he':(withErr l known bs mv != 0)=true:=by simpa using he
   rw [hwe]
   go_enter Tryz.func31,Tryz.ntmps31
   go_wp2_with (first
    | (go_at_call 33;refine HW.out.mono ?_;rintro e w2 ⟨p,cs,rfl,hb2,hp,_⟩
       obtain ⟨rfl,rfl⟩:=hp he
       simp only [zeroYears]
       have hr2:YearAt w2 (w.heap.size+1+1) (.int .i64 0) (.slice none 0 0) (.slice none 0 0) (.map none):=⟨(hb2.block _ (by omega)).trans hr1.at_⟩
       obtain ⟨r0,r1,r2,r3,rf⟩:=hr2.cell
       have rf0:=rf 0
       have rf1:=rf 1
       have rf2:=rf 2
       have rf3:=rf 3
       have hs2:w.heap.size+1+1<w2.heap.size:=(by have:=hb2.size;omega)
       have hs2':¬w.heap.size+1+1=w2.heap.size:=(by omega)))
   have hf:=hfin w2 (.int .i64 0) (.slice none 0 0) (.slice none 0 0) (.map none) (.cells #[.int .i64 0,.slice none 0 0,.slice none 0 0,.map none] 87) _ _ _ _ hr2 hb2
   refine bodyPost_ret (results_cttt rfl _ _ (w.heap.size+1+1) _ _ (0,0) _ rfl hf.1 Tryz.underlying87 rfl (by kernel_rfl)) rfl ?_
   exact ⟨_,⟨_,_,rfl⟩,hf.2,⟨_,_,_,_,_,_,_,_,rfl⟩⟩
end Go.Proofs.YtejjplhknacoiaaGreatDoor
end
section
namespace Go.Proofs.YtejjplhknacoiaaGreatDoor
open Go.RowKit Go.Proofs
theorem ptsM_zero (ps:List Place) (hz:z00∉ps):∀ k,k≤ps.length→getM (ptsM ps k) z00=some 0
 | 0,_=>by simp [ptsM,getM]
 | k+1,h=>by
   have hx:ps.getD k z00∈ps:=by
    rw [List.getD_eq_getElem?_getD,List.getElem?_eq_getElem (by omega)]
    exact List.getElem_mem _
   rw [ptsM,getM_putM,if_neg (fun e=>hz (by rw [←e] at hx;exact hx))]
   exact ptsM_zero ps hz k (by omega)
theorem ptsM_at (ps:List Place) (hn:ps.Nodup):∀ k,k≤ps.length→∀ i p,i<k→ps[i]? = some p→getM (ptsM ps k) p=some (i+1)
 | 0,_,i,p,h,_=>by omega
 | k+1,h,i,p,hi,hp=>by
   have hlt:k<ps.length:=h
   have hk:ps.getD k z00=ps[k]:=by rw [List.getD_eq_getElem?_getD,List.getElem?_eq_getElem hlt];rfl
   rw [ptsM,getM_putM,hk]
   by_cases hik:i=k
   · subst hik
     rw [List.getElem?_eq_getElem hlt] at hp
     cases hp
     simp
   · have hne:p≠ps[k]:=fun e=>by
      obtain ⟨hl,he⟩:=List.getElem?_eq_some_iff.1 hp
      rw [e] at he
      exact hik ((List.getElem_inj hn).1 he)
     rw [if_neg hne]
     exact ptsM_at ps hn k (by omega) i p (by omega) hp
theorem ptsM_from (ps:List Place):∀ k,k≤ps.length→∀ p v,getM (ptsM ps k) p=some v→(p=z00∧v=0)∨∃ i:Nat,i<k∧ps[i]? = some p∧v=i+1
 | 0,_,p,v,h=>by
   simp only [ptsM,getM] at h
   by_cases hp:z00=p
   · subst hp
     left
     simpa using h.symm
   · simp [hp] at h
 | k+1,hk,p,v,h=>by
   have hlt:k<ps.length:=hk
   have he:ps.getD k z00=ps[k]:=by rw [List.getD_eq_getElem?_getD,List.getElem?_eq_getElem hlt];rfl
   rw [ptsM,getM_putM,he] at h
   by_cases hp:p=ps[k]
   · rw [if_pos hp] at h
     right
     refine ⟨k,by omega,by rw [List.getElem?_eq_getElem hlt,hp],?_⟩
     simpa using h.symm
   · rw [if_neg hp] at h
     rcases ptsM_from ps k (by omega) p v h with h1|⟨i,h1,h2,h3⟩
     · exact .inl h1
     · exact .inr ⟨i,by omega,h2,h3⟩
theorem ptsM_range (ps:List Place) {p:Place} {v:Int} (h:getM (ptsM ps ps.length) p=some v):0≤v∧v<ps.length+1:=by
 rcases ptsM_from ps _ (Nat.le_refl _) p v h with ⟨_,h1⟩|⟨i,h1,_,h2⟩<;>omega
theorem ptsM_inj (ps:List Place) (_:ps.Nodup) {p q:Place} {v:Int} (h1:getM (ptsM ps ps.length) p=some v) (h2:getM (ptsM ps ps.length) q=some v):p=q:=by
 rcases ptsM_from ps _ (Nat.le_refl _) p v h1 with ⟨a1,a2⟩|⟨i,a1,a2,a3⟩
 · rcases ptsM_from ps _ (Nat.le_refl _) q v h2 with ⟨b1,b2⟩|⟨j,b1,b2,b3⟩
   · rw [a1,b1]
   · omega
 · rcases ptsM_from ps _ (Nat.le_refl _) q v h2 with ⟨b1,b2⟩|⟨j,b1,b2,b3⟩
   · omega
   · have:i=j:=by omega
     subst this
     exact Option.some.inj (a2.symm.trans b2)
theorem ptsM_some (ps:List Place) (hn:ps.Nodup) (hz:z00∉ps) {p:Place} (h:p=z00∨p∈ps):∃ v,getM (ptsM ps ps.length) p=some v:=by
 rcases h with rfl|h
 · exact ⟨0,ptsM_zero ps hz _ (Nat.le_refl _)⟩
 · obtain ⟨i,hi⟩:=List.mem_iff_getElem?.1 h
   exact ⟨_,ptsM_at ps hn _ (Nat.le_refl _) i p (List.getElem?_eq_some_iff.1 hi).1 hi⟩
structure OkO (ts:List Trace) (bs:List Bond):Prop where
 t:∀ x∈ts,okT x=true∧x.kind≠4
 b:∀ x∈bs,wrongBond x=false
 tn:ts.length≤140
 bn:bs.length≤60
 pn:(placesOf ts bs).length≤50
theorem okO_of {l:List Trace} {known:Int} {bs:List Bond} (he:askErr l known bs=0):OkO (counting l known) bs:=by
 have hck:(check l).2=0∧checkBonds bs=0:=by
  unfold askErr at he
  split at he
  · rename_i h;exact absurd he h
  · split at he
    · rename_i h;exact absurd he h
    · rename_i h1 h2;exact ⟨by simpa using h1,by simpa using h2⟩
 refine ⟨fun x hx=> ?_,fun x hx=> ?_,Nat.le_trans (List.length_filter_le _ _) (check_small hck.1),checkBonds_small hck.2,(askErr_sizes he).1⟩
 · unfold counting at hx
   rw [List.mem_filter] at hx
   obtain ⟨hm,hp⟩:=hx
   obtain ⟨i,hi⟩:=List.mem_iff_getElem?.1 hm
   have hf:=check_ok hck.1 i x hi
   refine ⟨?_,fun h4=>by unfold pc at hp;simp [h4] at hp⟩
   unfold follows at hf
   split at hf
   · cases hf
   · split at hf
     · cases hf
     · rename_i hc
       have:checkTrace x=0:=by simpa using hc
       unfold checkTrace at this
       by_cases hx:(okT x&&eqTrace x (yT x))=true
       · simp only [Bool.and_eq_true] at hx
         exact hx.1
       · rw [if_neg hx] at this;cases this
 · have h:=hck.2
   unfold checkBonds at h
   split at h
   · cases h
   · split at h
     · cases h
     · rename_i h2
       cases hw:wrongBond x with
       | false=>rfl
       | true=>exact absurd (List.any_eq_true.2 ⟨x,hx,hw⟩) h2
theorem placesOf_mem {ts:List Trace} {bs:List Bond} {p:Place} : p∈placesOf ts bs↔p∈placeList ts bs:=by
 unfold placesOf
 rw [(sortPl_perm _).mem_iff,mem_uniq]
theorem placesOf_nodup (ts:List Trace) (bs:List Bond):(placesOf ts bs).Nodup:=by
 unfold placesOf
 exact (sortPl_perm _).nodup_iff.2 (nodup_uniq _)
def goodPl (p:Place):Prop:=1≤p.pit∧p.pit≤20∧1≤p.layer∧p.layer≤50
theorem goodPl_of {a b:Int} (h:isPlaceB a b=true):goodPl ⟨a,b⟩:=by
 unfold isPlaceB at h
 simp only [Bool.and_eq_true,inB_iff] at h
 exact ⟨h.1.1,h.1.2,h.2.1,h.2.2⟩
theorem okT_parts {x:Trace} (h:okT x=true) (h4:x.kind≠4):goodPl (placeT x)∧(1≤x.id∧x.id≤1000000)∧(x.kind=1→goodPl (lowerT x)∧x.lower≠x.layer)∧(x.kind=2→ -10000≤x.low∧x.low≤x.high∧x.high≤10000):=by
 unfold okT at h
 simp only [Bool.and_eq_true,if_neg h4] at h
 obtain ⟨⟨⟨h1,_⟩,h2⟩,h3⟩:=h
 refine ⟨goodPl_of h2,inB_iff.1 h1,fun k=> ?_,fun k=> ?_⟩
 · rw [if_pos k] at h3
   simp only [Bool.and_eq_true,decide_eq_true_eq] at h3
   exact ⟨goodPl_of h3.1,h3.2⟩
 · rw [if_neg (by omega),if_pos k] at h3
   simp only [Bool.and_eq_true,decide_eq_true_eq,inB_iff] at h3
   exact ⟨h3.1.1,h3.1.2,h3.2⟩
theorem placesOf_good {ts:List Trace} {bs:List Bond} (h:OkO ts bs) {p:Place} (hp:p∈placesOf ts bs):goodPl p:=by
 rw [placesOf_mem] at hp
 unfold placeList at hp
 rcases List.mem_append.1 hp with hp|hp
 · obtain ⟨x,hx,hp⟩:=List.mem_flatMap.1 hp
   obtain ⟨h1,_,h2,_⟩:=okT_parts (h.t x hx).1 (h.t x hx).2
   unfold plT at hp
   split at hp
   · rename_i hk
     simp only [List.mem_cons,List.not_mem_nil,or_false] at hp
     rcases hp with rfl|rfl
     · exact h1
     · exact (h2 hk).1
   · simp only [List.mem_cons,List.not_mem_nil,or_false] at hp
     rw [hp];exact h1
 · obtain ⟨x,hx,hp⟩:=List.mem_flatMap.1 hp
   have hw:=h.b x hx
   unfold wrongBond at hw
   simp only [Bool.or_eq_false_iff,Bool.not_eq_false'] at hw
   simp only [plB,List.mem_cons,List.not_mem_nil,or_false] at hp
   rcases hp with rfl|rfl
   · exact goodPl_of hw.1.1.1
   · exact goodPl_of hw.1.1.2
theorem z00_not {ts:List Trace} {bs:List Bond} (h:OkO ts bs):z00∉placesOf ts bs:=fun hz=>by
 have:=(placesOf_good h hz).1
 simp [z00] at this
def goodLink (ps:List Place) (x:Link):Prop:=(x.src=z00∨x.src∈ps)∧(x.dst=z00∨x.dst∈ps)∧x.src≠x.dst∧ -10000≤x.most∧x.most≤10000∧1≤x.by_∧x.by_≤1000000
theorem linksL_good {ts:List Trace} {bs:List Bond} (h:OkO ts bs) (mv:List Place):∀ x∈linksL ts bs mv,goodLink (placesOf ts bs) x:=by
 intro y hy
 unfold linksL at hy
 have hz:=z00_not h
 rcases List.mem_append.1 hy with hy|hy
 · obtain ⟨x,hx,hy⟩:=List.mem_flatMap.1 hy
   obtain ⟨g1,g2,g3,g4⟩:=okT_parts (h.t x hx).1 (h.t x hx).2
   have hp:placeT x∈placesOf ts bs:=placesOf_mem.2 (List.mem_append.2 (.inl (List.mem_flatMap.2 ⟨x,hx,by unfold plT;split<;>simp⟩)))
   unfold linkT at hy
   split at hy
   · rename_i hk
     have hl:lowerT x∈placesOf ts bs:=placesOf_mem.2 (List.mem_append.2 (.inl (List.mem_flatMap.2 ⟨x,hx,by unfold plT;rw [if_pos hk];simp⟩)))
     simp only [aboveL,List.mem_cons,List.not_mem_nil,or_false] at hy
     subst hy
     refine ⟨.inr hp,.inr hl,fun e=>(g3 hk).2 ?_,by simp,by simp,g2.1,g2.2⟩
     have:=congrArg Place.layer e
     simpa [placeT,lowerT] using this.symm
   · split at hy
     · rename_i hk
       obtain ⟨k1,k2,k3⟩:=g4 hk
       simp only [datedL,List.mem_cons,List.not_mem_nil,or_false] at hy
       rcases hy with rfl|rfl
       · exact ⟨.inl rfl,.inr hp,fun e=>hz (by rw [show z00=placeT x from e];exact hp),by show -10000≤x.high;omega,k3,g2.1,g2.2⟩
       · exact ⟨.inr hp,.inl rfl,fun e=>hz (by rw [show z00=placeT x from e.symm];exact hp),by show -10000 ≤ -x.low;omega,by show -x.low≤10000;omega,g2.1,g2.2⟩
     · cases hy
 · obtain ⟨x,hx,hy⟩:=List.mem_flatMap.1 hy
   have hw:=h.b x hx
   unfold wrongBond at hw
   simp only [Bool.or_eq_false_iff,Bool.not_eq_false',inB_iff] at hw
   obtain ⟨⟨_,hne⟩,hby⟩:=hw
   have ha:x.a∈placesOf ts bs:=placesOf_mem.2 (List.mem_append.2 (.inr (List.mem_flatMap.2 ⟨x,hx,by simp [plB]⟩)))
   have hb:x.b∈placesOf ts bs:=placesOf_mem.2 (List.mem_append.2 (.inr (List.mem_flatMap.2 ⟨x,hx,by simp [plB]⟩)))
   have hne':x.a≠x.b:=fun e=>by rw [eqPlace_iff.2 e] at hne;cases hne
   unfold linkB at hy
   split at hy
   · cases hy
   · simp only [List.mem_cons,List.not_mem_nil,or_false] at hy
     rcases hy with rfl|rfl
     · exact ⟨.inr ha,.inr hb,hne',by simp,by simp,hby.1,hby.2⟩
     · exact ⟨.inr hb,.inr ha,fun e=>hne' e.symm,by simp,by simp,hby.1,hby.2⟩
theorem checkSys_years {ts:List Trace} {bs:List Bond} (h:OkO ts bs) (mv:List Place):checkSys ((placesOf ts bs).length+1) ((linksL ts bs mv).map (boundOf (ptsM (placesOf ts bs) (placesOf ts bs).length)))=0:=by
 have hn:=placesOf_nodup ts bs
 have hz:=z00_not h
 have hl:=linksL_len ts bs mv
 have h1:=h.tn
 have h2:=h.bn
 have h3:=h.pn
 unfold checkSys
 rw [if_neg (by rw [List.length_map];omega),if_neg]
 rintro (h4|h4)
 · omega
 · rw [List.any_eq_true] at h4
   obtain ⟨b,hb,hw⟩:=h4
   obtain ⟨x,hx,rfl⟩:=List.mem_map.1 hb
   obtain ⟨g1,g2,g3,g4,g5,g6,g7⟩:=linksL_good h mv x hx
   obtain ⟨u,hu⟩:=ptsM_some _ hn hz g1
   obtain ⟨v,hv⟩:=ptsM_some _ hn hz g2
   have ru:=ptsM_range _ hu
   have rv:=ptsM_range _ hv
   have hne:u≠v:=fun e=>g3 (ptsM_inj _ hn hu (e ▸ hv))
   simp only [wrongB,boundOf,hu,hv,Option.getD_some,withinB,Bool.or_eq_true,Bool.not_eq_true',Bool.and_eq_false_iff,decide_eq_false_iff_not,decide_eq_true_eq] at hw
   omega
end Go.Proofs.YtejjplhknacoiaaGreatDoor
end

/- Contracts that the laws lean on: Ask, Ask2. -/
import Derived.Test.YtejjplhknacoiaaGreatDoorLK05
set_option maxRecDepth 100000
set_option maxHeartbeats 4000000
section
namespace Go.Proofs.YtejjplhknacoiaaGreatDoor
open Go.RowKit Go.Proofs Go.Shelf
def uniq:List Place→List Place
 | []=> []
 | x::l=>if x∈l then uniq l else x::uniq l
theorem mem_uniq {q:Place} :∀ {l:List Place},q∈uniq l↔q∈l
 | []=>by simp [uniq]
 | x::l=>by
   unfold uniq
   split
   · rename_i h
     rw [mem_uniq,List.mem_cons]
     exact ⟨.inr,fun h'=>h'.elim (fun e=>by rw [e];exact h) id⟩
   · rw [List.mem_cons,List.mem_cons,mem_uniq]
theorem nodup_uniq:∀ (l:List Place),(uniq l).Nodup
 | []=>by simp [uniq]
 | x::l=>by
   unfold uniq
   split
   · exact nodup_uniq l
   · rename_i h
     exact List.nodup_cons.2 ⟨fun h'=>h (mem_uniq.1 h'),nodup_uniq l⟩
def placeT (x:Trace):Place:=⟨x.pit,x.layer⟩
def lowerT (x:Trace):Place:=⟨x.pit,x.lower⟩
def plT (x:Trace):List Place:=if x.kind=1 then [placeT x,lowerT x] else [placeT x]
def plB (x:Bond):List Place:=[x.a,x.b]
def placeList (ts:List Trace) (b:List Bond):List Place:=ts.flatMap plT++b.flatMap plB
def placesOf (ts:List Trace) (b:List Bond):List Place:=sortPl (uniq (placeList ts b))
def admT (x:Trace):Admit:=⟨placeT x,x.cost,x.id⟩
def admStep (m:List (Place×Admit)) (x:Trace):List (Place×Admit):=if x.kind=3 then putM m (placeT x) (admT x) else m
def admitM (ts:List Trace):List (Place×Admit):=ts.foldl admStep []
def admitsOf (ts:List Trace):List Admit:=(sortPl ((admitM ts).map (·.1))).map (fun p=>((getM (admitM ts) p).getD ⟨p,0,0⟩))
def askErr (l:List Trace) (known:Int) (b:List Bond):Int:=
 if (check l).2≠0 then (check l).2 else if checkBonds b≠0 then checkBonds b else
 if 50<(uniq (placeList (counting l known) b)).length∨8<(admitM (counting l known)).length then 2 else 0
theorem checkFrom_ok {l:List Trace} :∀ (f k:Nat),(checkFrom l f k).2=0→∀ i x,k≤i→i<k+f→l[i]? = some x→follows (l.take i) x=0
 | 0,k,_,i,x,h1,h2,_=>by omega
 | f+1,k,h,i,x,h1,h2,hx=>by
   rw [checkFrom] at h
   cases hk:l[k]? with
   | none=>
     rw [List.getElem?_eq_none_iff] at hk
     have:=(List.getElem?_eq_some_iff.1 hx).1
     omega
   | some y=>
     rw [hk] at h
     simp only at h
     by_cases hf:follows (l.take k) y≠0
     · rw [if_pos hf] at h
       exact absurd h hf
     · rw [if_neg hf] at h
       by_cases hik:i=k
       · subst hik
         rw [hk] at hx
         cases hx
         simpa using hf
       · exact checkFrom_ok f (k+1) h i x (by omega) (by omega) hx
theorem check_ok {l:List Trace} (h:(check l).2=0):∀ i x,l[i]? = some x→follows (l.take i) x=0:=
 fun i x hx=>checkFrom_ok l.length 0 h i x (Nat.zero_le _) (by have:=(List.getElem?_eq_some_iff.1 hx).1;omega) hx
theorem check_small {l:List Trace} (h:(check l).2=0):l.length≤140:=by
 rcases Nat.lt_or_ge 140 l.length with hl|hl
 · have:=check_ok h 140 l[140] (List.getElem?_eq_getElem hl)
   unfold follows at this
   rw [if_pos (by rw [List.length_take];omega)] at this
   cases this
 · exact hl
theorem checkBonds_small {b:List Bond} (h:checkBonds b=0):b.length≤60:=by
 unfold checkBonds at h
 split at h
 · cases h
 · omega
theorem keys_len {m:List (Place×Bool)} {l:List Place} (hn:(m.map (·.1)).Nodup) (h:∀ q,q∈m.map (·.1)↔q∈l):m.length=(uniq l).length:=by
 have:=(perm_of_sub hn (nodup_uniq l) (fun q=>(h q).trans mem_uniq.symm)).length_eq
 simpa using this
theorem keys_sort {m:List (Place×Bool)} {l:List Place} (hn:(m.map (·.1)).Nodup) (h:∀ q,q∈m.map (·.1)↔q∈l):sortPl (m.map (·.1))=sortPl (uniq l):=
 sortPl_congr (perm_of_sub hn (nodup_uniq l) (fun q=>(h q).trans mem_uniq.symm))
theorem admitM_snoc (ts:List Trace) (x:Trace):admitM (ts ++ [x])=admStep (admitM ts) x:=by simp [admitM]
structure OrdAt (B:Nat) (w:World) (o:Nat) (bA:Option Addr) (bn bc:Nat) (ts:List Trace) (ps:List Place) (ads:List Admit):Prop where
 old:B≤o
 at_:∃ At ct Ap cp Aa ca,w.heap[o]? = some (.cells #[.slice At ts.length ct,.slice bA bn bc,.slice Ap ps.length cp,.slice Aa ads.length ca] 81 (0,0))∧
  Own encTrace 10 23 B w At ts.length ct ts∧Own encPlace 2 36 B w Ap ps.length cp ps∧Own encAdmit 4 56 B w Aa ads.length ca ads
structure AskAt (B:Nat) (w wr:World) (o:Nat) (At:Option Addr) (ct:Nat) (ts:List Trace) (bA:Option Addr) (bn bc:Nat) (m:List (Place×Bool)) (am:List (Place×Admit)) (ps:List Place):Prop where
 below:Below B w wr
 ob:B≤o
 obj:wr.heap[o]? = some (.cells #[.slice At ts.length ct,.slice bA bn bc,.slice none 0 0,.slice none 0 0] 81 (0,0))
 own:Own encTrace 10 23 B wr At ts.length ct ts
 mp:MapP eBool wr (o+1) m
 ma:MapP eAdmit wr (o+2) am
 keys:∀ q,q∈m.map (·.1)↔q∈ps
 hB:B≤wr.heap.size
theorem AskAt.grown {B:Nat} {w wr w':World} {o:Nat} {At:Option Addr} {ct:Nat} {ts:List Trace} {bA:Option Addr} {bn bc:Nat} {m:List (Place×Bool)} {am:List (Place×Admit)} {ps:List Place}
 (h:AskAt B w wr o At ct ts bA bn bc m am ps) (hb:Below wr.heap.size wr w'):AskAt B w w' o At ct ts bA bn bc m am ps:=
 ⟨h.below.trans (hb.mono (Nat.le_trans (Nat.le_of_lt_succ (Nat.lt_succ_of_le h.hB)) (Nat.le_refl _))),h.ob,(hb.block _ (Array.getElem?_eq_some_iff.1 h.obj).1).trans h.obj,h.own.below hb (Nat.le_refl _),h.mp.below hb h.mp.lt,h.ma.below hb h.ma.lt,h.keys,Nat.le_trans h.hB hb.size⟩
section
variable {B:Nat} {w wr w':World} {o:Nat} {At:Option Addr} {ct:Nat} {ts:List Trace} {bA:Option Addr} {bn bc:Nat} {m:List (Place×Bool)} {am:List (Place×Admit)} {ps:List Place}
theorem AskAt.put (h:AskAt B w wr o At ct ts bA bn bc m am ps) {k:Place} (hm:MapP eBool w' (o+1) (putM m k true)) (hg:wr.grownBy w' (some (o+1))):AskAt B w w' o At ct ts bA bn bc (putM m k true) am (ps ++ [k]):=
 ⟨h.below.grown hg h.hB (fun k e=>by cases e;have:=h.ob;omega),h.ob,(hg.block _ (Array.getElem?_eq_some_iff.1 h.obj).1 (by simp)).trans h.obj,
   h.own.kept hg (by
    obtain ⟨es,cl,hb,_⟩:=h.mp.at_
    exact h.own.ne hb (fun cur e=>by cases e)),hm,h.ma.kept hg (by simp),fun q=>by
    rw [keys_putM,h.keys,List.mem_append,List.mem_singleton];exact ⟨fun h=>h.symm,fun h=>h.symm⟩,Nat.le_trans h.hB hg.size⟩
theorem AskAt.putA (h:AskAt B w wr o At ct ts bA bn bc m am ps) {k:Place} {v:Admit} (hm:MapP eAdmit w' (o+2) (putM am k v)) (hg:wr.grownBy w' (some (o+2))):AskAt B w w' o At ct ts bA bn bc m (putM am k v) ps:=
 ⟨h.below.grown hg h.hB (fun k e=>by cases e;have:=h.ob;omega),h.ob,(hg.block _ (Array.getElem?_eq_some_iff.1 h.obj).1 (by simp)).trans h.obj,
   h.own.kept hg (by
    obtain ⟨es,cl,hb,_⟩:=h.ma.at_
    exact h.own.ne hb (fun cur e=>by cases e)),h.mp.kept hg (by simp),hm,h.keys,Nat.le_trans h.hB hg.size⟩
theorem AskAt.as (h:AskAt B w wr o At ct ts bA bn bc m am ps) {am':List (Place×Admit)} {ps':List Place} (e1:am=am') (e2:ps=ps'):AskAt B w wr o At ct ts bA bn bc m am' ps':=by subst e1 e2;exact h
theorem AskAt.drew (h:AskAt B w wr o At ct ts bA bn bc m am ps):AskAt B w wr.drew o At ct ts bA bn bc m am ps:=
 ⟨h.below.drew,h.ob,h.obj,h.own.drew,h.mp.drew,h.ma.drew,h.keys,h.hB⟩
theorem AskAt.lt (h:AskAt B w wr o At ct ts bA bn bc m am ps):o<wr.heap.size∧o+1<wr.heap.size∧o+2<wr.heap.size:=⟨(Array.getElem?_eq_some_iff.1 h.obj).1,h.mp.lt,h.ma.lt⟩
end
theorem heap_setCell_obj {W:World} {B i:Nat} {cs:Array Value} {v:Value} {t:TypeId} (h:W.heap[B]? = some (.cells cs t (0,0))):(W.setCell ⟨B,i,none⟩ v).heap[B]? = some (.cells (cs.setIfInBounds i v) t (0,0)):=by
 obtain ⟨hlt,hk⟩:=Array.getElem?_eq_some_iff.1 h
 show (W.heap.modify B _)[B]? = _
 rw [Array.getElem?_eq_getElem (by rw [Array.size_modify];exact hlt),Array.getElem_modify_self,hk]
 rfl
theorem Own.ne_other {α β:Type} {enc:α→List Value} {enc2:β→List Value} {k k2 n c n2 c2 B B2:Nat} {e e2:TypeId} {W:World} {A A2:Option Addr} {xs:List α} {ys:List β}
 (h:Own enc k e B W A n c xs) (h2:Own enc2 k2 e2 B2 W A2 n2 c2 ys) (he:e≠e2):A=none∨blockOf A≠blockOf A2:=by
 rcases h.block with h|⟨g,cur,rfl,hg,_⟩
 · exact .inl h
 · refine .inr fun e'=> ?_
   rcases h2.block with rfl|⟨g2,cur2,rfl,hg2,_⟩
   · simp [blockOf] at e'
   · have:g=g2:=by simpa [blockOf] using e'
     subst this
     rw [hg] at hg2
     simp at hg2
     exact he hg2.2
structure LastAt (B:Nat) (w wr:World) (o:Nat) (At:Option Addr) (ct:Nat) (ts:List Trace) (bA:Option Addr) (bn bc:Nat) (Ap:Option Addr) (cp:Nat) (ps:List Place) (Ak:Option Addr) (ck:Nat) (ks:List Place) (am:List (Place×Admit)) (Aa:Option Addr) (ca:Nat) (ads:List Admit):Prop where
 below:Below B w wr
 hB:B≤wr.heap.size
 ob:B≤o
 obj:wr.heap[o]? = some (.cells #[.slice At ts.length ct,.slice bA bn bc,.slice Ap ps.length cp,.slice Aa ads.length ca] 81 (0,0))
 own:Own encTrace 10 23 B wr At ts.length ct ts
 ownP:Own encPlace 2 36 B wr Ap ps.length cp ps
 ownK:Own encPlace 2 36 B wr Ak ks.length ck ks
 ownA:Own encAdmit 4 56 B wr Aa ads.length ca ads
 ma:MapP eAdmit wr (o+2) am
section
variable {B:Nat} {w wr w':World} {o:Nat} {At:Option Addr} {ct:Nat} {ts:List Trace} {bA:Option Addr} {bn bc:Nat} {Ap:Option Addr} {cp:Nat} {ps:List Place} {Ak:Option Addr} {ck:Nat} {ks:List Place} {am:List (Place×Admit)} {Aa:Option Addr} {ca:Nat} {ads:List Admit}
theorem LastAt.grown (h:LastAt B w wr o At ct ts bA bn bc Ap cp ps Ak ck ks am Aa ca ads) (hb:Below wr.heap.size wr w'):LastAt B w w' o At ct ts bA bn bc Ap cp ps Ak ck ks am Aa ca ads:=
 ⟨h.below.trans (hb.mono h.hB),Nat.le_trans h.hB hb.size,h.ob,(hb.block _ (Array.getElem?_eq_some_iff.1 h.obj).1).trans h.obj,h.own.below hb (Nat.le_refl _),h.ownP.below hb (Nat.le_refl _),h.ownK.below hb (Nat.le_refl _),h.ownA.below hb (Nat.le_refl _),h.ma.below hb h.ma.lt⟩
theorem LastAt.drew (h:LastAt B w wr o At ct ts bA bn bc Ap cp ps Ak ck ks am Aa ca ads):LastAt B w wr.drew o At ct ts bA bn bc Ap cp ps Ak ck ks am Aa ca ads:=
 ⟨h.below.drew,h.hB,h.ob,h.obj,h.own.drew,h.ownP.drew,h.ownK.drew,h.ownA.drew,h.ma.drew⟩
theorem LastAt.push (h:LastAt B w wr o At ct ts bA bn bc Ap cp ps Ak ck ks am Aa ca ads) {A':Option Addr} {c':Nat} {ads':List Admit} (hg:wr.grownBy w' (blockOf Aa)) (hO:Own encAdmit 4 56 B w' A' ads'.length c' ads'):
 LastAt B w (w'.setCell ⟨o,3,none⟩ (.slice A' ads'.length c')) o At ct ts bA bn bc Ap cp ps Ak ck ks am A' c' ads':=by
 have ho:w'.heap[o]? = some (.cells #[.slice At ts.length ct,.slice bA bn bc,.slice Ap ps.length cp,.slice Aa ads.length ca] 81 (0,0)):=(hg.block _ (Array.getElem?_eq_some_iff.1 h.obj).1 (h.ownA.ne' h.obj (fun cur e=>by simp at e))).trans h.obj
 have hg2:=grownBy_setCell' w' o 3 (.slice A' ads'.length c')
 have b1:Below B w w':=h.below.grown hg h.hB (fun k e=>h.ownA.ltB k e)
 have o1:=h.own.kept hg (h.own.ne_other h.ownA (by decide))
 have o2:=h.ownP.kept hg (h.ownP.ne_other h.ownA (by decide))
 have o3:=h.ownK.kept hg (h.ownK.ne_other h.ownA (by decide))
 have m1:MapP eAdmit w' (o+2) am:=by
  obtain ⟨es,cl,hb,_⟩:=h.ma.at_
  exact h.ma.kept hg (h.ownA.ne' hb (fun cur e=>by cases e))
 refine ⟨b1.grown hg2 (Nat.le_trans h.hB hg.size) (fun k e=>by cases e;exact h.ob),Nat.le_trans (Nat.le_trans h.hB hg.size) hg2.size,h.ob,?_,o1.kept hg2 (o1.ne ho (fun cur e=>by simp at e)),o2.kept hg2 (o2.ne ho (fun cur e=>by simp at e)),o3.kept hg2 (o3.ne ho (fun cur e=>by simp at e)),hO.kept hg2 (hO.ne ho (fun cur e=>by simp at e)),m1.kept hg2 (by simp)⟩
 rw [heap_setCell_obj ho]
 rfl
end
section
variable {B:Nat} {w wr w5 w6:World} {o:Nat} {At:Option Addr} {ct:Nat} {ts:List Trace} {bA:Option Addr} {bn bc:Nat} {m:List (Place×Bool)} {am:List (Place×Admit)} {pp:List Place} {Ap:Option Addr} {cp:Nat} {ps:List Place} {Ak:Option Addr} {ck:Nat} {ks:List Place}
theorem AskAt.last (h:AskAt B w w5 o At ct ts bA bn bc m am pp) (hOp:Own encPlace 2 36 B w5 Ap ps.length cp ps) (hOk:Own encPlace 2 36 (w5.setCell ⟨o,2,none⟩ (.slice Ap ps.length cp)).heap.size w6 Ak ks.length ck ks)
 (hb6:Below (w5.setCell ⟨o,2,none⟩ (.slice Ap ps.length cp)).heap.size (w5.setCell ⟨o,2,none⟩ (.slice Ap ps.length cp)) w6):LastAt B w w6 o At ct ts bA bn bc Ap cp ps Ak ck ks am none 0 []:=by
 have hg:=grownBy_setCell' w5 o 2 (.slice Ap ps.length cp)
 have hs:=hg.size
 have hB:=h.hB
 have ho:(w5.setCell ⟨o,2,none⟩ (.slice Ap ps.length cp)).heap[o]? = some (.cells #[.slice At ts.length ct,.slice bA bn bc,.slice Ap ps.length cp,.slice none 0 0] 81 (0,0)):=by
  rw [heap_setCell_obj h.obj];rfl
 have hlt:o<(w5.setCell ⟨o,2,none⟩ (.slice Ap ps.length cp)).heap.size:=(Array.getElem?_eq_some_iff.1 ho).1
 exact ⟨(h.below.grown hg h.hB (fun k e=>by cases e;exact h.ob)).trans (hb6.mono (by omega)),Nat.le_trans (by omega) hb6.size,h.ob,(hb6.block _ hlt).trans ho,
  (h.own.kept hg (h.own.ne h.obj (fun cur e=>by simp at e))).below hb6 (Nat.le_refl _),(hOp.kept hg (hOp.ne h.obj (fun cur e=>by simp at e))).below hb6 (Nat.le_refl _),hOk.mono (by omega),Own.none_ _ _ _ _ _,
  (h.ma.kept hg (by simp)).below hb6 (h.ma.kept hg (by simp)).lt⟩
theorem getM_key {am:List (Place×Admit)} {p:Place} (h:p∈am.map (·.1)):∃ v,getM am p=some v:=by
 obtain ⟨q,hq,rfl⟩:=List.mem_map.1 h
 unfold getM
 cases hf:am.find? (fun x=>decide (x.1=q.1)) with
 | none=>rw [List.find?_eq_none] at hf;exact absurd (by simp) (hf q hq)
 | some r=>exact ⟨r.2,rfl⟩
theorem admitsOf_at {ts:List Trace} {j:Nat} {p:Place} (h:(sortPl ((admitM ts).map (·.1)))[j]? = some p):∃ v,getM (admitM ts) p=some v∧(admitsOf ts)[j]? = some v:=by
 obtain ⟨v,hv⟩:=getM_key ((sortPl_perm _).mem_iff.1 (List.mem_of_getElem? h))
 exact ⟨v,hv,by unfold admitsOf;rw [List.getElem?_map,h];simp [hv]⟩
theorem admitsOf_len (ts:List Trace):(admitsOf ts).length=(sortPl ((admitM ts).map (·.1))).length:=by simp [admitsOf]
end
theorem gcell {W w1:World} {r:Nat} (hg:W.grownBy w1 (some r)):(∀ b o,b<W.heap.size→¬b=r→w1.cell? ⟨b,o,none⟩=W.cell? ⟨b,o,none⟩)∧(∀ b o,b<W.heap.size→¬b=r→w1.frozen? ⟨b,o,none⟩=W.frozen? ⟨b,o,none⟩):=by
 constructor
 · intro b o h1 h2
   simp only [World.cell?,hg.block b h1 (by simpa using h2)]
 · intro b o h1 h2
   simp only [World.frozen?,hg.block b h1 (by simpa using h2)]
theorem plT_take {ts:List Trace} {j:Nat} {x:Trace} (hx:ts[j]? = some x):(ts.take (j+1)).flatMap plT=(ts.take j).flatMap plT++plT x:=by
 rw [List.take_add_one,hx];simp
theorem plB_take {ts:List Bond} {j:Nat} {x:Bond} (hx:ts[j]? = some x):(ts.take (j+1)).flatMap plB=(ts.take j).flatMap plB++plB x:=by
 rw [List.take_add_one,hx];simp
theorem adm_take {ts:List Trace} {j:Nat} {x:Trace} (hx:ts[j]? = some x):admitM (ts.take (j+1))=admStep (admitM (ts.take j)) x:=by
 rw [List.take_add_one,hx];exact admitM_snoc _ _
theorem asked_any (A:Option Addr) (n c:Nat) (l:List Trace) (known:Int) (bA:Option Addr) (bn bc:Nat) (bs:List Bond) (w:World) (hl:Rd encTrace 10 w A n c l) (hb:Rd encBond 5 w bA bn bc bs):
 Calls Tryz.prog 30 #[.slice A n c,.int .i64 known,.slice bA bn bc] w fun e w'=> ∃ p,e = .returned (.tuple #[.pointer p,.int .i64 (askErr l known bs)])∧Below w.heap.size w w'∧
  (askErr l known bs=0→∃ o,p=some ⟨o,0,none⟩∧OrdAt w.heap.size w' o bA bn bc (counting l known) (placesOf (counting l known) bs) (admitsOf (counting l known))):=by
 have hlen:=Lib.hid hl.len
 have hblen:=Lib.hid hb.len
 by_cases hc:(check l).2=0
 · by_cases hcb:checkBonds bs=0
   · have hn:l.length≤140:=check_small hc
     have hbn:bs.length≤60:=checkBonds_small hcb
     have hn':n≤140:=by have:=hlen.out;omega
     have hbn':bn≤60:=by have:=hblen.out;omega
     have hcnt:=fun W h=>counting_any A n c l known W h (by omega)
     have hcl:(counting l known).length≤140:=Nat.le_trans (List.length_filter_le _ _) hn
     generalize hts:counting l known=ts at hcnt hcl ⊢
     have HTS:=Lib.hid hts
     clear hn hbn hts
     go_enter Tryz.func30,Tryz.ntmps30
     go_wp2_with (first
      | (go_at_call 51;refine (Check_any A n c l _ hl).mono ?_;rintro e w1 ⟨rfl,hb1⟩;have hbx:=hb.below hb1 (Nat.le_refl _))
      | (go_at_call 52;refine (CheckBonds_any bA bn bc bs _ hbx).mono ?_;rintro e w2 ⟨rfl,hb2⟩;have hb12:=hb1.trans (hb2.mono hb1.size);have hl2:=hl.below hb12 (Nat.le_refl _))
      | (go_at_call 53;refine (hcnt _ hl2).mono ?_;rintro e w3 ⟨At,m3,ct,rfl,hown,hb3⟩;have hmk:=fun t w=>run_makeMap (P:=Tryz.prog) t w))
     obtain rfl:ts.length=m3:=hown.len
     clear hcnt
     have hB3:Below w.heap.size w w3:=hb12.trans (hb3.mono hb12.size)
     have hM0:AskAt w.heap.size w (((w3.alloc (.cells #[.slice At ts.length ct,.slice bA bn bc,.slice none 0 0,.slice none 0 0] 81)).alloc (.map #[] 0)).alloc (.map #[] 0)) w3.heap.size At ct ts bA bn bc [] (admitM (ts.take 0)) ((ts.take 0).flatMap plT):=by
      have hs3:=hB3.size
      refine ⟨((hB3.alloc hs3 _).alloc (by simp;omega) _).alloc (by simp;omega) _,hs3,?_,((((hown.mono hb12.size).alloc _).alloc _).alloc _),?_,?_,by simp,by simp;omega⟩
      · exact (Below.heap_alloc _ _ _ (by simp;omega)).trans ((Below.heap_alloc _ _ _ (by simp)).trans (World.alloc_heap_new _ _))
      · have:=(MapP.made (E:=eBool) (w3.alloc (.cells #[.slice At ts.length ct,.slice bA bn bc,.slice none 0 0,.slice none 0 0] 81))).alloc (.map #[] 0)
        simpa using this
      · have:=MapP.made (E:=eAdmit) ((w3.alloc (.cells #[.slice At ts.length ct,.slice bA bn bc,.slice none 0 0,.slice none 0 0] 81)).alloc (.map #[] 0))
        simpa [admitM] using this
     go_loopw [47] (fun i wr=> ∃ (j:Nat) (m:List (Place×Bool)),j≤ts.length∧i = .int .i64 j∧AskAt w.heap.size w wr w3.heap.size At ct ts bA bn bc m (admitM (ts.take j)) ((ts.take j).flatMap plT)) (fun i _=>ts.length-(intOf i).toNat)
     case atStart=>exact ⟨0,[],Nat.zero_le _,rfl,hM0⟩
     case round=>
      obtain ⟨j,m,hj,rfl,hM⟩:=hrel
      have hlt:=hM.lt
      by_cases hjl:j<ts.length
      · have hrd:=hM.own.rd (fun _=>rfl) (by omega)
        obtain ⟨b,off,x,rfl,hbw,hx,hcell⟩:=hrd.one hjl
        have c0:wr.cell? ⟨b,off+j * 10,none⟩=some (.int .i64 x.id):=hcell 0 _ rfl
        have c1:wr.cell? ⟨b,off+j * 10+1,none⟩=some (.int .i64 x.known):=hcell 1 _ rfl
        have c2:wr.cell? ⟨b,off+j * 10+2,none⟩=some (.int .u8 x.kind):=hcell 2 _ rfl
        have c3:wr.cell? ⟨b,off+j * 10+3,none⟩=some (.int .i64 x.pit):=hcell 3 _ rfl
        have c4:wr.cell? ⟨b,off+j * 10+4,none⟩=some (.int .i64 x.layer):=hcell 4 _ rfl
        have c5:wr.cell? ⟨b,off+j * 10+5,none⟩=some (.int .i64 x.lower):=hcell 5 _ rfl
        have c6:wr.cell? ⟨b,off+j * 10+6,none⟩=some (.int .i64 x.low):=hcell 6 _ rfl
        have c7:wr.cell? ⟨b,off+j * 10+7,none⟩=some (.int .i64 x.high):=hcell 7 _ rfl
        have c8:wr.cell? ⟨b,off+j * 10+8,none⟩=some (.int .i64 x.cost):=hcell 8 _ rfl
        have c9:wr.cell? ⟨b,off+j * 10+9,none⟩=some (.int .i64 x.void):=hcell 9 _ rfl
        have HX:=Lib.hid hx
        clear hrd hcell hx
        by_cases hk1:x.kind=1
        · go_wp2_with (first
           | (go_at_call 43;refine (place_any _ _ _ _ _ _ _ _ _ _ _).mono ?_;rintro e w4 ⟨rfl,hb4⟩;obtain ⟨hcc4,hff4⟩:=bcell hb4;have hz4:=hb4.size;(try simp only [World.size_alloc] at hz4);have hM4:=(hM.grown (((Below.refl _ wr).alloc (Nat.le_refl _) _).trans (hb4.mono (by simp)))).grown ((Below.refl _ w4).alloc (Nat.le_refl _) (.cells #[.int .i64 x.pit,.int .i64 x.layer] 36));have hlt4:=hM4.lt)
           | (at_mapUpdate;refine wpList_mapUpdatePl rfl _ _ _ 115 rfl Tryz.underlying115 (lowerT x) true rfl rfl rfl hM6.mp ?_;intro w7 hm7 hg7 hs7;have hM7:=hM6.put hm7 hg7)
           | (at_mapUpdate;refine wpList_mapUpdatePl rfl _ _ _ 115 rfl Tryz.underlying115 (placeT x) true rfl rfl rfl hM4.mp ?_;intro w5 hm5 hg5 hs5;have hM5:=hM4.put hm5 hg5;obtain ⟨hcc5,hff5⟩:=gcell hg5;simp only [World.size_alloc] at hs5 hcc5;have hne5:¬wr.heap.size=w3.heap.size+1:=(by omega);have hne5':¬w4.heap.size=w3.heap.size+1:=(by omega);have q5:wr.heap.size<w4.heap.size+1:=(by omega);have q5':w4.heap.size<w4.heap.size+1:=(by omega);have q5'':wr.heap.size<w4.heap.size:=(by omega))
           | (go_at_call 44;refine (lower_any _ _ _ _ _ _ _ _ _ _ _).mono ?_;rintro e w6 ⟨rfl,hb6⟩;have hM6:=hM5.grown hb6))
          go_roundw
          case rel=>exact ⟨j+1,_,by omega,by go_num,hM7.as (by rw [adm_take HX.out,admStep,if_neg (by rw [hk1];decide)]) (by rw [plT_take HX.out,plT,if_pos hk1];simp)⟩
          case measure=>simp [intOf];omega
        · by_cases hk3:x.kind=3
          · go_wp2_with (first
             | (go_at_call 43;refine (place_any _ _ _ _ _ _ _ _ _ _ _).mono ?_;rintro e w4 ⟨rfl,hb4⟩;obtain ⟨hcc4,hff4⟩:=bcell hb4;have hz4:=hb4.size;(try simp only [World.size_alloc] at hz4);have hM4:=(hM.grown (((Below.refl _ wr).alloc (Nat.le_refl _) _).trans (hb4.mono (by simp)))).grown ((Below.refl _ w4).alloc (Nat.le_refl _) (.cells #[.int .i64 x.pit,.int .i64 x.layer] 36));have hlt4:=hM4.lt)
             | (at_mapUpdate;refine wpList_mapUpdatePl rfl _ _ _ 116 rfl Tryz.underlying116 (placeT x) (admT x) rfl rfl rfl hM5.ma ?_;intro w7 hm7 hg7 hs7;have hM7:=hM5.putA hm7 hg7)
             | (at_mapUpdate;refine wpList_mapUpdatePl rfl _ _ _ 115 rfl Tryz.underlying115 (placeT x) true rfl rfl rfl hM4.mp ?_;intro w5 hm5 hg5 hs5;have hM5:=hM4.put hm5 hg5;obtain ⟨hcc5,hff5⟩:=gcell hg5;simp only [World.size_alloc] at hs5 hcc5;have hne5:¬wr.heap.size=w3.heap.size+1:=(by omega);have hne5':¬w4.heap.size=w3.heap.size+1:=(by omega);have q5:wr.heap.size<w4.heap.size+1:=(by omega);have q5':w4.heap.size<w4.heap.size+1:=(by omega);have q5'':wr.heap.size<w4.heap.size:=(by omega)))
            go_roundw
            case rel=>exact ⟨j+1,_,by omega,by go_num,hM7.as (by rw [adm_take HX.out,admStep,if_pos hk3]) (by rw [plT_take HX.out,plT,if_neg hk1])⟩
            case measure=>simp [intOf];omega
          · go_wp2_with (first
             | (go_at_call 43;refine (place_any _ _ _ _ _ _ _ _ _ _ _).mono ?_;rintro e w4 ⟨rfl,hb4⟩;obtain ⟨hcc4,hff4⟩:=bcell hb4;have hz4:=hb4.size;(try simp only [World.size_alloc] at hz4);have hM4:=(hM.grown (((Below.refl _ wr).alloc (Nat.le_refl _) _).trans (hb4.mono (by simp)))).grown ((Below.refl _ w4).alloc (Nat.le_refl _) (.cells #[.int .i64 x.pit,.int .i64 x.layer] 36));have hlt4:=hM4.lt)
             | (at_mapUpdate;refine wpList_mapUpdatePl rfl _ _ _ 115 rfl Tryz.underlying115 (placeT x) true rfl rfl rfl hM4.mp ?_;intro w5 hm5 hg5 hs5;have hM5:=hM4.put hm5 hg5;obtain ⟨hcc5,hff5⟩:=gcell hg5;simp only [World.size_alloc] at hs5 hcc5;have hne5:¬wr.heap.size=w3.heap.size+1:=(by omega);have hne5':¬w4.heap.size=w3.heap.size+1:=(by omega);have q5:wr.heap.size<w4.heap.size+1:=(by omega);have q5':w4.heap.size<w4.heap.size+1:=(by omega);have q5'':wr.heap.size<w4.heap.size:=(by omega)))
            go_roundw
            case rel=>exact ⟨j+1,_,by omega,by go_num,hM5.as (by rw [adm_take HX.out,admStep,if_neg hk3]) (by rw [plT_take HX.out,plT,if_neg hk1])⟩
            case measure=>simp [intOf];omega
      · have hjn:j=ts.length:=by omega
        subst hjn
        have hM1:AskAt w.heap.size w wr w3.heap.size At ct ts bA bn bc m (admitM ts) (ts.flatMap plT++(bs.take 0).flatMap plB):=hM.as (by rw [List.take_length]) (by rw [List.take_length];simp)
        clear hM hM0
        go_wp2
        go_loopw [75] (fun i wr=> ∃ (j:Nat) (m:List (Place×Bool)),j≤bn∧i = .int .i64 j∧AskAt w.heap.size w wr w3.heap.size At ct ts bA bn bc m (admitM ts) (ts.flatMap plT++(bs.take j).flatMap plB)) (fun i _=>bn-(intOf i).toNat)
        case atStart=>exact ⟨0,m,Nat.zero_le _,rfl,hM1⟩
        case round=>
         clear hM1
         obtain ⟨j,m,hj,rfl,hM⟩:=hrel
         have hlt:=hM.lt
         by_cases hjl:j<bn
         · have hrd:=hb.below hM.below (Nat.le_refl _)
           obtain ⟨b,off,x,rfl,hbw,hx,hcell⟩:=hrd.one hjl
           have c0:wr.cell? ⟨b,off+j * 5,none⟩=some (.int .i64 x.a.pit):=hcell 0 _ rfl
           have c1:wr.cell? ⟨b,off+j * 5+1,none⟩=some (.int .i64 x.a.layer):=hcell 1 _ rfl
           have c2:wr.cell? ⟨b,off+j * 5+2,none⟩=some (.int .i64 x.b.pit):=hcell 2 _ rfl
           have c3:wr.cell? ⟨b,off+j * 5+3,none⟩=some (.int .i64 x.b.layer):=hcell 3 _ rfl
           have c4:wr.cell? ⟨b,off+j * 5+4,none⟩=some (.int .i64 x.by_):=hcell 4 _ rfl
           have HX:=Lib.hid hx
           clear hrd hcell hx
           have hM4:=(hM.grown ((Below.refl _ wr).alloc (Nat.le_refl _) (.cells #[.int .i64 x.a.pit,.int .i64 x.a.layer,.int .i64 x.b.pit,.int .i64 x.b.layer,.int .i64 x.by_] 74))).drew
           have hne:¬wr.heap.size=w3.heap.size+1:=(by omega)
           go_wp2_with (fail)
           obtain ⟨w5,hrun5,hm5,hg5,hs5⟩:=run_mapUpdatePl Tryz.underlying115 hM4.mp x.a true
           have hM5:=hM4.put hm5 hg5
           obtain ⟨hcc5,hff5⟩:=gcell hg5
           obtain ⟨w7,hrun7,hm7,hg7,hs7⟩:=run_mapUpdatePl Tryz.underlying115 hM5.mp x.b true
           have hM7:=hM5.put hm7 hg7
           have qq:wr.heap.size<wr.heap.size+1:=(by omega)
           simp only [World.size_alloc,World.size_drew,keyV,eBool] at hcc5 hrun5 hrun7 hs5
           go_region
           all_goals go_wp2
           go_roundw
           case rel=>exact ⟨j+1,_,by omega,by go_num,hM7.as rfl (by rw [plB_take HX.out,plB];simp)⟩
           case measure=>simp [intOf];omega
         · have hjn:bn=j:=by omega
           subst hjn
           have hkl:m.length=(uniq (placeList ts bs)).length:=keys_len hM.mp.once (fun q=>by rw [hM.keys,show bs.take bn=bs by rw [←hblen.out];simp];exact Iff.rfl)
           have hks:sortPl (m.map (·.1))=placesOf ts bs:=keys_sort hM.mp.once (fun q=>by rw [hM.keys,show bs.take bn=bs by rw [←hblen.out];simp];exact Iff.rfl)
           have hlen1:=fun ty=>run_len_mapPl (ty:=ty) Tryz.underlying115 hM.mp
           have hlen2:=fun ty=>run_len_mapPl (ty:=ty) Tryz.underlying116 hM.ma
           have hask0:askErr l known bs=if 50<(uniq (placeList ts bs)).length∨8<(admitM ts).length then 2 else 0:=by
            unfold askErr;rw [if_neg (by simpa using hc),if_neg (by simpa using hcb),HTS.out]
           have HA:=Lib.hid hask0
           have HK:=Lib.hid hks
           clear hask0 hks
           rw [hkl] at hlen1
           by_cases h50:50<(uniq (placeList ts bs)).length
           · have h50':(50:Int)<(uniq (placeList ts bs)).length:=by omega
             go_wp2
             go_ret2
             have he:askErr l known bs=2:=by rw [HA.out,if_pos (.inl h50)]
             exact ⟨none,by rw [he];rfl,hM.below,fun h=>by rw [he] at h;cases h⟩
           · have h50':¬(50:Int)<(uniq (placeList ts bs)).length:=by omega
             by_cases h8:8<(admitM ts).length
             · have h8':(8:Int)<(admitM ts).length:=by omega
               go_wp2
               go_ret2
               have he:askErr l known bs=2:=by rw [HA.out,if_pos (.inr h8)]
               exact ⟨none,by rw [he];rfl,hM.below,fun h=>by rw [he] at h;cases h⟩
             · have h8':¬(8:Int)<(admitM ts).length:=by omega
               have he:askErr l known bs=0:=by rw [HA.out,if_neg (by omega)]
               have HE:=Lib.hid he
               clear he HA
               have hbB:Below wr.heap.size wr wr:=Below.refl _ _
               go_wp2_with (first
                | (go_at_call 54;refine (sorted_b _ m _ hM.mp (by omega)).mono ?_;rintro e w5 ⟨Ap,cp,rfl,hOp,hb5⟩
                   rw [HK.out] at hOp
                   have hps:(placesOf ts bs).length=m.length:=hOp.len
                   rw [←hps] at hOp ⊢
                   have hM5:=hM.grown hb5
                   have ho5:=hM5.obj
                   have hc5:w5.cell? ⟨w3.heap.size,2,none⟩=some (.slice none 0 0):=(by simp [World.cell?,ho5])
                   have hf5:w5.frozen? ⟨w3.heap.size,2,none⟩=false:=(by simp [World.frozen?,ho5])
                   have HO5:=Lib.hid ho5
                   clear ho5)
                | (go_at_call 56;refine (sorted_a _ (admitM ts) _ (hM5.ma.setCell _ _ (by simp)) (by omega)).mono ?_;rintro e w6 ⟨Ak,ck,rfl,hOk,hb6⟩))
               generalize hks:sortPl ((admitM ts).map (·.1))=ks at hOk
               have hkl2:ks.length=(admitM ts).length:=hOk.len
               have hkb:ks.length≤8:=(by omega)
               rw [←hkl2] at hOk ⊢
               rw [←hps.trans hkl] at hOk hb6
               have hL6:=hM5.last (hOp.mono hM.hB) hOk hb6
               have HKS:=Lib.hid hks
               clear hks hkl2 hps hkl hlen1 hlen2 hc5 hf5 hOp hOk hb6
               go_loopw [102] (fun i wr=> ∃ (j:Nat) (Aa:Option Addr) (ca:Nat) (ads:List Admit),j≤ks.length∧i = .int .i64 j∧LastAt w.heap.size w wr w3.heap.size At ct ts bA bn bc Ap cp (placesOf ts bs) Ak ck ks (admitM ts) Aa ca ads∧Hid (ads=(admitsOf ts).take j)) (fun i _=>ks.length-(intOf i).toNat)
               case atStart=>exact ⟨0,none,0,[],Nat.zero_le _,rfl,hL6,(show _=_ by simp)⟩
               case round=>
                clear hL6
                obtain ⟨j2,Aa,ca,ads,hj2,rfl,hL,hads⟩:=hrel
                by_cases hjl2:j2<ks.length
                · have hrd:=hL.ownK.rd (fun _=>rfl) (by omega)
                  obtain ⟨b,off,x,rfl,hbw,hx,hcell⟩:=hrd.one hjl2
                  have c0:wr.cell? ⟨b,off+j2 * 2,none⟩=some (.int .i64 x.pit):=hcell 0 _ rfl
                  have c1:wr.cell? ⟨b,off+j2 * 2+1,none⟩=some (.int .i64 x.layer):=hcell 1 _ rfl
                  rw [←HKS.out] at hx
                  obtain ⟨v,hgv,hav⟩:=admitsOf_at hx
                  have HAV:=Lib.hid hav
                  have hL4:=(hL.grown ((Below.refl _ wr).alloc (Nat.le_refl _) (.cells #[.int .i64 x.pit,.int .i64 x.layer] 36))).drew
                  have hlk:=run_lookupPl Tryz.underlying116 (Tryz.zeroValue56 _) hL4.ma x false
                  simp only [keyV,hgv,Option.map_some,Option.getD_some,eAdmit,encAdmit] at hlk
                  clear hrd hcell hx hav hgv
                  have hLlt:w3.heap.size<wr.heap.size:=(Array.getElem?_eq_some_iff.1 hL.obj).1
                  have hc3:wr.cell? ⟨w3.heap.size,3,none⟩=some (.slice Aa ads.length ca):=by simp [World.cell?,hL.obj]
                  have hadl:ads.length≤8:=by have h1:=hads.out;rw [h1,List.length_take,admitsOf_len,HKS.out];omega
                  have hL5:=((hL.grown ((Below.refl _ wr).alloc (Nat.le_refl _) (.cells #[.int .i64 x.pit,.int .i64 x.layer] 36))).grown ((Below.refl _ _).alloc (Nat.le_refl _) (.cells #[.int .i64 v.place.pit,.int .i64 v.place.layer,.int .i64 v.cost,.int .i64 v.by_] 56))).drew
                  have hrd5:=(Rd.single (enc:=encAdmit) (k:=4) (wr.alloc (.cells #[.int .i64 x.pit,.int .i64 x.layer] 36)) #[.int .i64 v.place.pit,.int .i64 v.place.layer,.int .i64 v.cost,.int .i64 v.by_] 56 [v] 1 rfl (by omega) (fun _=>rfl) (by simp [encAdmit])).drew
                  simp only [World.size_alloc] at hrd5
                  have hadl1:(ads ++ [v]).length=ads.length+1:=by simp
                  have hads2:ads ++ [v]=(admitsOf ts).take (j2+1):=by rw [List.take_add_one,HAV.out,←hads.out];rfl
                  have HADS:=Lib.hid hads2
                  have HAL:=Lib.hid hadl1
                  clear hads2 hadl1
                  go_wp2_with (fail)
                  go_region_law (refine step_append_src elAdmit (fun _=>rfl) oneAdmit rfl (.tmp 111) (.tmp 115) rfl (some ⟨wr.heap.size+1,0,none⟩) 1 1 [v] rfl rfl hL5.ownA hrd5 (by omega) (by omega) hL5.hB ?_;intro A' c' w8 hO8 hg8 hA8
                                 rw [←HAL.out] at hO8
                                 have ho8:=(hg8.block _ (Array.getElem?_eq_some_iff.1 hL5.obj).1 (hL5.ownA.ne' hL5.obj (fun cur e=>by simp at e))).trans hL5.obj
                                 have hL9:=hL5.push hg8 hO8
                                 rw [HAL.out] at hL9
                                 have hc8:w8.cell? ⟨w3.heap.size,3,none⟩=some (.slice Aa ads.length ca):=(by simp [World.cell?,ho8])
                                 have hf8:w8.frozen? ⟨w3.heap.size,3,none⟩=false:=(by simp [World.frozen?,ho8])
                                 clear ho8 hO8 hg8)
                  all_goals go_wp2
                  all_goals go_roundw
                  all_goals first
                   | exact ⟨j2+1,_,_,ads ++ [v],by omega,by go_num,hL9,HADS⟩
                   | (simp [intOf];omega)
                · have hjn2:j2=ks.length:=by omega
                  subst hjn2
                  have hfin:ads=admitsOf ts:=by rw [hads.out,List.take_of_length_le (by rw [admitsOf_len,HKS.out];exact Nat.le_refl _)]
                  have HF:=Lib.hid hfin
                  clear hfin
                  go_wp2
                  go_ret2
                  rw [HF.out] at hL
                  exact ⟨some ⟨w3.heap.size,0,none⟩,by rw [HE.out];rfl,hL.below,fun _=>⟨_,rfl,⟨hL.ob,At,ct,Ap,cp,Aa,ca,hL.obj,hL.own,hL.ownP,hL.ownA⟩⟩⟩
   · have hcb':(checkBonds bs != 0)=true:=by simpa using hcb
     go_enter Tryz.func30,Tryz.ntmps30
     go_wp2_with (first
      | (go_at_call 51;refine (Check_any A n c l _ hl).mono ?_;rintro e w1 ⟨rfl,hb1⟩;have hbx:=hb.below hb1 (Nat.le_refl _))
      | (go_at_call 52;refine (CheckBonds_any bA bn bc bs _ hbx).mono ?_;rintro e w2 ⟨rfl,hb2⟩))
     go_ret2
     have he:askErr l known bs=checkBonds bs:=by unfold askErr;rw [if_neg (by simpa using hc),if_pos hcb]
     exact ⟨none,by rw [he];rfl,hb1.trans (hb2.mono hb1.size),fun h=>absurd (he.symm.trans h) hcb⟩
 · have hc':((check l).2 != 0)=true:=by simpa using hc
   go_enter Tryz.func30,Tryz.ntmps30
   go_wp2_with (first
    | (go_at_call 51;refine (Check_any A n c l _ hl).mono ?_;rintro e w1 ⟨rfl,hb1⟩))
   go_ret2
   have he:askErr l known bs=(check l).2:=by unfold askErr;rw [if_pos hc]
   exact ⟨none,by rw [he];rfl,hb1,fun h=>absurd (he.symm.trans h) hc⟩
end Go.Proofs.YtejjplhknacoiaaGreatDoor
end

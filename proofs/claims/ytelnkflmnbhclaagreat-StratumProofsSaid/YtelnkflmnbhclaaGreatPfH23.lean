/- Contracts that the laws lean on: PfP, PgP, RPvR, RPvd, RPvu. -/
import Derived.Test.YtelnkflmnbhclaaGreatPfH21
import Derived.Test.YtelnkflmnbhclaaGreatPfH16
import Derived.Test.YtelnkflmnbhclaaGreatPfH13
set_option maxRecDepth 100000
set_option maxHeartbeats 8000000
section
namespace Go.Proofs.YtelnkflmnbhclaaGreat
open Go.RowKit Go.Proofs Go.Shelf
def touchesR (bs:List Bond) (mv:List Place) (c:List Link) (p:Place):Bool:=c.any fun x=>(bs.flatMap (linkB mv)).any fun y=>eqLink y x&&(eqPlace x.src p||eqPlace x.dst p)
def touchR (ads:List Admit) (bs:List Bond) (mv:List Place) (c:List Link):List Place:=(ads.filter fun a=>touchesR bs mv c a.place).map (·.place)
noncomputable def prvR (ts:List Trace) (bs:List Bond) (n:Int):Nat→List (List Link)→List Place→Option (List (List Link))
 | 0,_,_=>none
 | _+1,[],_=>none
 | f+1,c::rest,mv=>
   if c = [] then (if n≤costR (admitsOf ts) mv then some rest else none)
   else if contraV (linksL ts bs mv) (ptsM (placesOf ts bs) (placesOf ts bs).length) c=true then (touchR (admitsOf ts) bs mv c).foldl (fun o q=>o.bind fun r=>prvR ts bs n f r (putPl mv q)) (some rest)
   else none
theorem bond_told {ts:List Trace} {bs:List Bond} {mv:List Place} (hO:OkO ts bs) {x:Link} (hx:x∈linksL ts bs mv) (hb:bondedB bs x=true):x∈bs.flatMap (linkB mv):=by
 unfold linksL at hx
 rcases List.mem_append.1 hx with h|h
 · exfalso
   obtain ⟨t,ht,hxt⟩:=List.mem_flatMap.1 h;unfold bondedB at hb;obtain ⟨b,hbm,hbx⟩:=List.any_eq_true.1 hb;rw [Bool.or_eq_true,eqLink_iff,eqLink_iff] at hbx;have hw:=hO.b b hbm;unfold wrongBond at hw;simp only [Bool.or_eq_false_iff,Bool.not_eq_false'] at hw;obtain ⟨⟨⟨ha,hb'⟩,_⟩,_⟩:=hw;have za:b.a≠z00:=fun e=>by rw [e] at ha;exact absurd ha (by decide)
   have zb:b.b≠z00:=fun e=>by rw [e] at hb';exact absurd hb' (by decide)
   unfold linkT at hxt
   split at hxt
   · simp only [aboveL,List.mem_singleton] at hxt
     subst hxt
     rcases hbx with e|e<;>(have:=congrArg Link.most e;simp at this)
   · split at hxt
     · simp only [datedL,List.mem_cons,List.not_mem_nil,or_false] at hxt
       rcases hxt with rfl|rfl<;>rcases hbx with e|e
       · exact za (congrArg Link.src e).symm
       · exact zb (congrArg Link.src e).symm
       · exact zb (congrArg Link.dst e).symm
       · exact za (congrArg Link.dst e).symm
     · cases hxt
 · exact h
theorem told_bond {bs:List Bond} {mv:List Place} {x:Link} (h:x∈bs.flatMap (linkB mv)):bondedB bs x=true∧hasPl mv x.src=false∧hasPl mv x.dst=false:=by
 obtain ⟨b,hb,hx⟩:=List.mem_flatMap.1 h;unfold linkB at hx
 split at hx
 · cases hx
 · rename_i hn
   have hn':(hasPl mv b.a||hasPl mv b.b)=false:=by simpa using hn
   rw [Bool.or_eq_false_iff] at hn';simp only [List.mem_cons,List.not_mem_nil,or_false] at hx;refine ⟨List.any_eq_true.2 ⟨b,hb,by rw [Bool.or_eq_true,eqLink_iff,eqLink_iff];exact hx⟩,?_⟩
   rcases hx with rfl|rfl
   · exact hn'
   · exact hn'.symm
theorem touch_eq {ts:List Trace} {bs:List Bond} {mv:List Place} (hO:OkO ts bs) {c:List Link} (hc:∀ x∈c,x∈linksL ts bs mv) (p:Place):touchesR bs mv c p=touchesB bs c p:=by
 unfold touchesR touchesB;rw [Bool.eq_iff_iff,List.any_eq_true,List.any_eq_true]
 constructor
 · rintro ⟨x,hx,h⟩
   obtain ⟨y,hy,h2⟩:=List.any_eq_true.1 h;rw [Bool.and_eq_true,eqLink_iff] at h2;obtain ⟨rfl,h3⟩:=h2;exact ⟨y,hx,by rw [(told_bond hy).1,h3];rfl⟩
 · rintro ⟨x,hx,h⟩
   rw [Bool.and_eq_true] at h;exact ⟨x,hx,List.any_eq_true.2 ⟨x,bond_told hO (hc x hx) h.1,by rw [eqLink_iff.2 rfl,h.2];rfl⟩⟩
theorem touch_new {ts:List Trace} {bs:List Bond} {mv:List Place} (hO:OkO ts bs) {c:List Link} (hc:∀ x∈c,x∈linksL ts bs mv) {p:Place} (h:p∈touchL (admitsOf ts) bs c):p∉mv∧∃ a∈admitsOf ts,a.place=p:=by
 unfold touchL at h;obtain ⟨a,ha,rfl⟩:=List.mem_map.1 h;obtain ⟨ham,ht⟩:=List.mem_filter.1 ha;refine ⟨fun hp=> ?_,a,ham,rfl⟩;unfold touchesB at ht;obtain ⟨x,hx,h2⟩:=List.any_eq_true.1 ht;rw [Bool.and_eq_true,Bool.or_eq_true,eqPlace_iff,eqPlace_iff] at h2;obtain ⟨_,g1,g2⟩:=told_bond (bond_told hO (hc x hx) h2.1)
 rcases h2.2 with e|e
 · rw [e,hasPl_iff.2 hp] at g1;cases g1
 · rw [e,hasPl_iff.2 hp] at g2;cases g2
theorem more_put {mv:List Place} (h:mv.Pairwise ltPl) {p:Place} (hp:p∉mv):moreL mv p=putPl mv p:=by
 have hn:mv.Nodup:=h.imp fun {a b} h1 e=>by subst e;exact ltPl_irrefl _ h1
 refine asc_eq (sortPl_asc (List.nodup_append.2 ⟨hn,by simp,fun a ha b hb=> ?_⟩)) (putPl_asc h p) fun q=> ?_
 · rw [List.mem_singleton.1 hb]
   exact fun e=>hp (e ▸ ha)
 · unfold moreL
   rw [(sortPl_perm _).mem_iff,List.mem_append,List.mem_singleton,putPl_mem];exact Or.comm
theorem foldl_same {α β:Type} {g1 g2:α→β→Option α} :∀ (l:List β) (o:Option α),(∀ q∈l,∀ r,g1 r q=g2 r q)→l.foldl (fun o q=>o.bind fun r=>g1 r q) o=l.foldl (fun o q=>o.bind fun r=>g2 r q) o
 | [],_,_=>rfl
 | q::l,o,h=>by
   rw [List.foldl_cons,List.foldl_cons,show (o.bind fun r=>g1 r q)=o.bind fun r=>g2 r q from by congr 1;funext r;exact h q List.mem_cons_self r];exact foldl_same l _ fun q hq=>h q (List.mem_cons_of_mem _ hq)
theorem prvR_eq {ts:List Trace} {bs:List Bond} (hO:OkO ts bs) {n:Int} :∀ (f:Nat) (p:List (List Link)) (mv:List Place),mv.Pairwise ltPl→prvR ts bs n f p mv=prv ts bs n f p mv
 | 0,_,_,_=>by rw [prvR,prv]
 | _+1,[],_,_=>by rw [prvR,prv]
 | f+1,c::rest,mv,h=>by
   rw [prvR,prv]
   split
   · rfl
   · split
     · rename_i hc
       have hC:=(contraV_iff.1 hc).1
       have ht:touchR (admitsOf ts) bs mv c=touchL (admitsOf ts) bs c:=by
        unfold touchR touchL
        congr 1
        exact List.filter_congr fun a _=>touch_eq hO hC a.place
       rw [ht];refine foldl_same _ _ fun q hq r=> ?_
       have hq2:=(touch_new hO hC hq).1;rw [more_put h hq2];exact prvR_eq hO f r (putPl mv q) (putPl_asc h q)
     · rfl
def circL (ts:List Trace) (bs:List Bond) (mv:List Place):List Link:=someL (linksL ts bs mv) (circleX ((placesOf ts bs).length+1) (sysB ts bs mv))
def growR (ts:List Trace) (bs:List Bond) (n:Int):Nat→List Place→List (List Link)
 | 0,_=> []
 | f+1,mv=>if n≤costR (admitsOf ts) mv then [[]] else circL ts bs mv::(touchL (admitsOf ts) bs (circL ts bs mv)).flatMap fun q=>growR ts bs n f (moreL mv q)
theorem moreL_len (mv:List Place) (q:Place):(moreL mv q).length=mv.length+1:=by
 unfold moreL;rw [(sortPl_perm _).length_eq];simp
section
variable {l:List Trace} {known:Int} {bs:List Bond} {n:Int}
theorem valid_len (_:askErr l known bs=0) {mv:List Place} (hw:withErr l known bs mv=0):mv.length≤(admitsOf (counting l known)).length:=by
 obtain ⟨hp,hm⟩:=admittedErr_zero.1 (withErr_zero.1 hw).2;have hn:mv.Nodup:=hp.imp fun {a b} h1 e=>by subst e;exact ltPl_irrefl _ h1
 have:=len_le_of_sub mv ((admitsOf (counting l known)).map (·.place)) hn fun x hx=>by
  have h1:=hm x hx;unfold isAdm at h1;obtain ⟨a,ha,e⟩:=List.any_eq_true.1 h1;exact List.mem_map.2 ⟨a,ha,eqPlace_iff.1 e⟩
 simpa using this
theorem circL_contra {mv:List Place} (hw:withErr l known bs mv=0) (hd:enough (counting l known) bs mv=false):ContraP (linksL (counting l known) bs mv) (ptsM (placesOf (counting l known) bs) (placesOf (counting l known) bs).length) (circL (counting l known) bs mv):=by
 have h1:(conflictV l known bs mv).2.1=true:=by
  rw [conflict_is hw];have h2:=solved_circ (sys_ok hw);rw [show solvedOk ((placesOf (counting l known) bs).length+1) (sysOf l known bs mv)=enough (counting l known) bs mv from rfl,hd] at h2;simpa using h2.symm
 have h2:=either_own hw h1;unfold checkConflictV at h2;rw [if_neg (by simpa using hw)] at h2
 have h3:(conflictV l known bs mv).1=circL (counting l known) bs mv:=by
  unfold conflictV;rw [if_neg (by simpa using hw)];rfl
 rw [h3] at h2;exact contraV_iff.1 h2
theorem more_valid (ha:askErr l known bs=0) {mv:List Place} (hw:withErr l known bs mv=0) {c:List Link} (hc:∀ x∈c,x∈linksL (counting l known) bs mv) {q:Place} (hq:q∈touchL (admitsOf (counting l known)) bs c):withErr l known bs (moreL mv q)=0:=by
 obtain ⟨hp,hm⟩:=admittedErr_zero.1 (withErr_zero.1 hw).2;obtain ⟨h1,a,h2,h3⟩:=touch_new (okO_of ha) hc hq;refine withErr_zero.2 ⟨ha,admittedErr_zero.2 ⟨?_,fun x hx=> ?_⟩⟩
 · rw [more_put hp h1];exact putPl_asc hp q
 · rw [more_put hp h1,putPl_mem] at hx
   rcases hx with rfl|hx
   · unfold isAdm
     exact List.any_eq_true.2 ⟨a,h2,eqPlace_iff.2 h3⟩
   · exact hm x hx
theorem fold_grow {f:Nat} {F:Nat} {mv:List Place} :∀ (qs:List Place) (rest:List (List Link)),(∀ q∈qs,∀ r,prv (counting l known) bs n F (growR (counting l known) bs n f (moreL mv q)++r) (moreL mv q)=some r)→
 qs.foldl (fun o q=>o.bind fun r=>prv (counting l known) bs n F r (moreL mv q)) (some ((qs.flatMap fun q=>growR (counting l known) bs n f (moreL mv q))++rest))=some rest
 | [],rest,_=>by simp
 | q::qs,rest,h=>by
   rw [List.foldl_cons,List.flatMap_cons,List.append_assoc];rw [show (some (growR (counting l known) bs n f (moreL mv q)++((qs.flatMap fun q=>growR (counting l known) bs n f (moreL mv q))++rest))).bind (fun r=>prv (counting l known) bs n F r (moreL mv q))=some ((qs.flatMap fun q=>growR (counting l known) bs n f (moreL mv q))++rest) from h q List.mem_cons_self _];exact fold_grow qs rest fun q hq=>h q (List.mem_cons_of_mem _ hq)
theorem piece_len {α β:Type} (g:α→List β):∀ (qs:List α) (q:α),q∈qs→(g q).length≤(qs.flatMap g).length
 | [],_,h=>by cases h
 | a::qs,q,h=>by
   rw [List.flatMap_cons,List.length_append]
   rcases List.mem_cons.1 h with rfl|h
   · omega
   · have:=piece_len g qs q h;omega
theorem grow_ok (ha:askErr l known bs=0) (hn:∀ mv,withErr l known bs mv=0→enough (counting l known) bs mv=true→n≤costR (admitsOf (counting l known)) mv):
 ∀ (f:Nat) (mv:List Place) (rest:List (List Link)) (F:Nat),withErr l known bs mv=0→(admitsOf (counting l known)).length+1≤mv.length+f→(growR (counting l known) bs n f mv).length<F→prv (counting l known) bs n F (growR (counting l known) bs n f mv++rest) mv=some rest
 | 0,mv,_,_,hw,hl,_=>by
   have:=valid_len ha hw;omega
 | f+1,mv,rest,0,_,_,h=>by omega
 | f+1,mv,rest,F+1,hw,hl,hF=>by
   by_cases hc:n≤costR (admitsOf (counting l known)) mv
   · rw [growR,if_pos hc]
     show prv _ _ _ (F+1) ([]::rest) mv=_
     rw [prv,if_pos rfl,if_pos hc]
   · rw [growR,if_neg hc] at hF ⊢
     have hd:enough (counting l known) bs mv=false:=by
      rw [←Bool.not_eq_true];exact fun h=>hc (hn mv hw h)
     have hC:=circL_contra hw hd;rw [List.length_cons] at hF;rw [List.cons_append,prv,if_neg (fun e=>by have:=hC.2.1;rw [e] at this;simp at this),if_pos (contraV_iff.2 hC)];refine fold_grow _ rest fun q hq r=>grow_ok ha hn f (moreL mv q) r F (more_valid ha hw hC.1 hq) (by rw [moreL_len];omega) ?_
     have:=piece_len (fun q=>growR (counting l known) bs n f (moreL mv q)) _ q hq;omega
def treeN:Nat→Nat
 | 0=>1
 | m+1=>1+(m+1) * treeN m
theorem treeN_pos:∀ m,1≤treeN m
 | 0=>Nat.le_refl _
 | m+1=>by rw [treeN];omega
theorem flat_le {α β:Type} (g:α→List β) (B:Nat):∀ qs:List α,(∀ q∈qs,(g q).length≤B)→(qs.flatMap g).length≤qs.length * B
 | [],_=>by simp
 | q::qs,h=>by
   rw [List.flatMap_cons,List.length_append,List.length_cons,Nat.add_mul,Nat.one_mul];have h1:=h q List.mem_cons_self;have h2:=flat_le g B qs fun q hq=>h q (List.mem_cons_of_mem _ hq)
   omega
theorem grow_len (ha:askErr l known bs=0) (hn:∀ mv,withErr l known bs mv=0→enough (counting l known) bs mv=true→n≤costR (admitsOf (counting l known)) mv):
 ∀ (f:Nat) (mv:List Place),withErr l known bs mv=0→(growR (counting l known) bs n f mv).length≤treeN ((admitsOf (counting l known)).length-mv.length)
 | 0,mv,_=>by simp [growR]
 | f+1,mv,hw=>by
   have hp:=treeN_pos ((admitsOf (counting l known)).length-mv.length);rw [growR]
   split
   · simpa using hp
   · rename_i hc
     have hd:enough (counting l known) bs mv=false:=by
      rw [←Bool.not_eq_true];exact fun h=>hc (hn mv hw h)
     have hC:=circL_contra hw hd;have hnd:=(ordFacts ha).nd;obtain ⟨hpw,hm⟩:=admittedErr_zero.1 (withErr_zero.1 hw).2;have hmn:mv.Nodup:=hpw.imp fun {a b} h1 e=>by subst e;exact ltPl_irrefl _ h1
     have htn:(touchL (admitsOf (counting l known)) bs (circL (counting l known) bs mv)).Nodup:=by
      unfold touchL;exact hnd.sublist (List.Sublist.map _ (List.filter_sublist))
     have hk:=len_le_of_sub (touchL (admitsOf (counting l known)) bs (circL (counting l known) bs mv)++mv) ((admitsOf (counting l known)).map (·.place)) (List.nodup_append.2 ⟨htn,hmn,fun a ha' b hb e=>(touch_new (okO_of ha) hC.1 ha').1 (e ▸ hb)⟩) fun x hx=>by
      rcases List.mem_append.1 hx with h|h
      · obtain ⟨_,a,h2,h3⟩:=touch_new (okO_of ha) hC.1 h
        exact List.mem_map.2 ⟨a,h2,h3⟩
      · have h1:=hm x h
        unfold isAdm at h1;obtain ⟨a,ha',e⟩:=List.any_eq_true.1 h1;exact List.mem_map.2 ⟨a,ha',eqPlace_iff.1 e⟩
     rw [List.length_append,List.length_map] at hk;rw [List.length_cons]
     cases hm2:(admitsOf (counting l known)).length-mv.length with
     | zero=>
       have h0:touchL (admitsOf (counting l known)) bs (circL (counting l known) bs mv) = []:=List.eq_nil_of_length_eq_zero (by omega);rw [h0];simp [treeN]
     | succ m=>
       have h1:=flat_le (fun q=>growR (counting l known) bs n f (moreL mv q)) (treeN m) (touchL (admitsOf (counting l known)) bs (circL (counting l known) bs mv)) fun q hq=>by
        have:=grow_len ha hn f (moreL mv q) (more_valid ha hw hC.1 hq)
        rwa [moreL_len,show (admitsOf (counting l known)).length-(mv.length+1)=m from by omega] at this
       have h2:(touchL (admitsOf (counting l known)) bs (circL (counting l known) bs mv)).length * treeN m≤(m+1) * treeN m:=Nat.mul_le_mul_right _ (by omega);rw [treeN];omega
theorem treeN_mono:∀ {a b:Nat},a≤b→treeN a≤treeN b:=by
 intro a b h
 induction b with
 | zero=>have:a=0:=by omega
         subst this;exact Nat.le_refl _
 | succ b ih=>
   by_cases e:a=b+1
   · subst e;exact Nat.le_refl _
   · have h1:=ih (by omega)
     rw [treeN,Nat.add_mul];omega
end
def RpvI (L:List Link) (r:Bool) (w:World):List Value→World→Prop
 | [],W=>Below w.heap.size w W
 | [v],W=>Below w.heap.size w W∧∃ Al cl,v = .slice Al L.length cl∧Rd encLink 6 W Al L.length cl L
 | [_,u],W=>Below w.heap.size w W∧u = .bool r
 | [_,_,z],W=>Below w.heap.size w W∧z = .bool (!r)
 | _,_=>False
theorem RpvI.b {L:List Link} {r:Bool} {w W:World} {cv:List Value} (h:RpvI L r w cv W):Below w.heap.size w W:=by
 match cv,h with
 | [],h=>exact h
 | [_],h=>exact h.1
 | [_,_],h=>exact h.1
 | [_,_,_],h=>exact h.1
def codeRpv8:Option Code→Code
 | some (.seq _ (.seq _ (.seq _ (.seq _ (.seq (.seq c _) _)))))=>c
 | _=> .skip
def Trpv8 (At:Option Addr) (tn tc:Nat) (bA:Option Addr) (bn bc bp op pn pc k:Nat) (M:Option Addr) (mn mc:Nat) (C:Option Addr) (cn cc:Nat) (_:List Link) (_:Bool) (cv:List Value):List Value:=
 [.slice At tn tc,.slice bA bn bc,.slice M mn mc,cv.getD 0 undef,.slice (some ⟨bp,op,none⟩) pn pc,.int .i64 k,.pointer (some ⟨bp,op+k,none⟩),.pointer (some ⟨bp,op+k,none⟩),.slice C cn cc,cv.getD 1 undef,cv.getD 2 undef]
theorem rpv8 (cC:Code) (hc:cC=codeRpv8 Tryz.f120.body) (At:Option Addr) (tn tc:Nat) (bA:Option Addr) (bn bc bp op pn pc k:Nat) (M:Option Addr) (mn mc:Nat) (C:Option Addr) (cn cc:Nat) (L:List Link) (r:Bool) (a:Act) (w:World) (Q:Exit→Act→World→Prop)
 (hT:a.tmps.size=137) (t0:a.tmps.getD 0 undef = .slice At tn tc) (t1:a.tmps.getD 1 undef = .slice bA bn bc) (t3:a.tmps.getD 3 undef = .slice (some ⟨bp,op,none⟩) pn pc) (t4:a.tmps.getD 4 undef = .int .i64 k) (t5:a.tmps.getD 5 undef = .slice M mn mc)
 (hk:k<pn) (_:pn≤1000000) (CE:∀ W,Below w.heap.size w W→W.cell? ⟨bp,op+k,none⟩=some (.slice C cn cc))
 (C1:∀ W,Below w.heap.size w W→Calls Tryz.prog 87 #[.slice At tn tc,.slice bA bn bc,.slice M mn mc] W fun e w'=> ∃ Al cl,e = .returned (.slice Al L.length cl)∧Rd encLink 6 w' Al L.length cl L∧Below W.heap.size W w')
 (C2:∀ W Al cl,Below w.heap.size w W→Rd encLink 6 W Al L.length cl L→Calls Tryz.prog 114 #[.slice Al L.length cl,.slice C cn cc] W fun e w'=>e = .returned (.bool r)∧Below W.heap.size W w')
 (hQ:∀ v u W,Below w.heap.size w W→Q .normal { tmps:=setsL a.tmps 45 (Trpv8 At tn tc bA bn bc bp op pn pc k M mn mc C cn cc L r [v,u,.bool (!r)]),defers:=a.defers } W):
 cC.wp Tryz.prog Q a w:=by
 subst hc;unfold codeRpv8 Tryz.f120;dsimp only;refine wpIn_wide.1 (wpIn_region_chain (nn:=5) 137 (by kernel_rfl) (by kernel_rfl) (by kernel_rfl) hT (fun i cv=>(Trpv8 At tn tc bA bn bc bp op pn pc k M mn mc C cn cc L r cv).getD i undef) (fun i=>([0,0,0,0,0,0,0,0,0,0,0]:List Nat).getD i 0) (fun i=>([0,0,0,1,1,1,1,1,1,2,3]:List Nat).getD i 0) [3,9,10] (by kernel_rfl) (by kernel_rfl) (by kernel_rfl) (by kernel_rfl) (RpvI L r w) ((Below.refl _ _).drew) (fun b cv hE hold=> ?_) (fun cv W hl hI=> ?_))
 · clear hQ
   have q0:=hold 0 _ (by kernel_rfl) t0;have q1:=hold 1 _ (by kernel_rfl) t1;have q3:=hold 3 _ (by kernel_rfl) t3;have q4:=hold 4 _ (by kernel_rfl) t4;have q5:=hold 5 _ (by kernel_rfl) t5;simp only [factsL,Vc,idxC,Trpv8,List.getD_cons_zero,List.getD_cons_succ,Nat.reduceAdd,Nat.reduceEqDiff,reduceIte,Option.map_some,Option.map_none] at hE
   repeat' first|exact chain_nil|refine chain_op 0 rfl rfl ?_ ?_|refine chain_op 1 rfl rfl ?_ ?_|refine chain_op 2 rfl rfl ?_ ?_|refine chain_skip rfl rfl rfl rfl ?_|refine chain_quiet rfl rfl ?_ ?_
   all_goals intro hl
   any_goals (
    intro hl2;simp only [List.getD_cons_zero,List.getD_cons_succ,Nat.reduceAdd] at hl hl2
    first
     | (obtain rfl:=List.eq_nil_of_length_eq_zero (Nat.le_zero.1 hl2);intro W hW;have hWb:Below w.heap.size w W:=hW;have s1:=CE W hWb;simp only [Trpv8,List.getD_cons_zero,List.getD_cons_succ,Nat.reduceAdd]
        first
         | (refine .inl ?_;go_simp;done)
         | (refine .inl ?_;go_simp;rfl))
     | (intro W hW;simp only [Trpv8,List.getD_cons_zero,List.getD_cons_succ,Nat.reduceAdd];refine .inl ?_;go_simp;(try rfl);done)
     | (intro W hW;have s1:=CE W (RpvI.b hW);simp only [Trpv8,List.getD_cons_zero,List.getD_cons_succ,Nat.reduceAdd]
        first
         | (refine .inl ?_;go_simp;done)
         | (refine .inl ?_;go_simp;rfl))
    done)
   · obtain rfl:=List.eq_nil_of_length_eq_zero hl
     intro W hW;have hWb:Below w.heap.size w W:=hW;refine .inr ⟨87,#[.slice At tn tc,.slice bA bn bc,.slice M mn mc],?_,(C1 W hWb).mono ?_⟩
     · go_simp<;>done
     · rintro e w' ⟨Al,cl,rfl,h1,hb'⟩;exact ⟨_,rfl,hWb.trans (hb'.mono hWb.size),Al,cl,rfl,h1⟩
   · obtain ⟨v,rfl⟩:=len1 hl
     rintro W ⟨hWb,Al,cl,rfl,h1⟩;simp only [List.getD_cons_zero] at hE;refine .inr ⟨114,#[.slice Al L.length cl,.slice C cn cc],?_,(C2 W Al cl hWb h1).mono ?_⟩
     · go_simp<;>done
     · rintro e w' ⟨rfl,hb'⟩;exact ⟨_,rfl,hWb.trans (hb'.mono hWb.size),rfl⟩
   · obtain ⟨v,u,rfl⟩:=len2 hl
     rintro W ⟨hWb,rfl⟩;simp only [List.getD_cons_zero,List.getD_cons_succ] at hE;refine .inl ⟨.bool (!r),W,.inl ?_,hWb,rfl⟩;go_simp
 · match cv,hl,hI with
   | [v,u,z],_,⟨hb,e⟩=>subst e;exact hQ v u W hb
def endOf (pn:Nat):Option (List (List Link))→Int
 | none=> -1
 | some r=>(pn:Int)-r.length
theorem endOf_drop {pn k:Nat} {cuts:List (List Link)} (h:cuts.length=pn) (hk:k≤pn):endOf pn (some (cuts.drop k))=k:=by
 show (pn:Int)-(cuts.drop k).length=k
 rw [List.length_drop];omega
theorem touchR_take {ads:List Admit} {bs:List Bond} {mv:List Place} {c:List Link} {k:Nat} {a:Admit} (h:ads[k]? = some a):touchR (ads.take (k+1)) bs mv c=touchR (ads.take k) bs mv c++(if touchesR bs mv c a.place then [a.place] else []):=by
 unfold touchR;rw [List.take_add_one,h,Option.toList_some,List.filter_append,List.map_append]
 congr 1
 by_cases ht:touchesR bs mv c a.place<;>simp [ht]
theorem touchR_append (a b:List Admit) (bs:List Bond) (mv:List Place) (c:List Link):touchR (a++b) bs mv c=touchR a bs mv c++touchR b bs mv c:=by
 unfold touchR;rw [List.filter_append,List.map_append]
structure RpvX where
 At:Option Addr
 tc:Nat
 bA:Option Addr
 bn:Nat
 bc:Nat
 pA:Option Addr
 pn:Nat
 pc:Nat
 n:Int
 ts:List Trace
 bs:List Bond
 hd:List Hdr
 cuts:List (List Link)
structure RpvAt (X:RpvX) (W:World):Prop where
 rt:Rd encTrace 10 W X.At X.ts.length X.tc X.ts
 rb:Rd encBond 5 W X.bA X.bn X.bc X.bs
 rp:CutsAt W X.pA X.pn X.pc X.hd X.cuts
theorem RpvAt.below {X:RpvX} {W W':World} (h:RpvAt X W) (hb:Below W.heap.size W W'):RpvAt X W':=⟨h.rt.below hb (Nat.le_refl _),h.rb.below hb (Nat.le_refl _),h.rp.below hb⟩
theorem prvR_drop {ts:List Trace} {bs:List Bond} {n:Int} :∀ (f:Nat) (p:List (List Link)) (mv:List Place) (r:List (List Link)),prvR ts bs n f p mv=some r→∃ j,j≤p.length∧r=p.drop j
 | 0,_,_,_,h=>by simp [prvR] at h
 | _+1,[],_,_,h=>by simp [prvR] at h
 | f+1,c::rest,mv,r,h=>by
   rw [prvR] at h
   split at h
   · split at h
     · cases h;exact ⟨1,by simp,rfl⟩
     · cases h
   · split at h
     · obtain ⟨j,h1,rfl⟩:=fold_drop (fun r q=>prvR ts bs n f r (putPl mv q)) (fun r q r' h=>prvR_drop f r (putPl mv q) r' h) _ _ _ h
       exact ⟨j+1,by simp only [List.length_cons];omega,by simp⟩
     · cases h
def RpvC (X:RpvX) (f:Nat):Prop:=∀ (k:Nat) (mv:List Place) (M:Option Addr) (mn mc:Nat) (W:World),RpvAt X W→Rd encPlace 2 W M mn mc mv→mn≤k→k≤X.pn→X.pn-k<f→
 Calls Tryz.prog 120 #[.slice X.At X.ts.length X.tc,.slice X.bA X.bn X.bc,.int .i64 X.n,.slice X.pA X.pn X.pc,.int .i64 k,.slice M mn mc] W fun e W'=>e = .returned (.int .i64 (endOf X.pn (prvR X.ts X.bs X.n f (X.cuts.drop k) mv)))∧Below W.heap.size W W'
theorem rproved_step (X:RpvX) (hO:OkO X.ts X.bs) (hts:∀ x∈X.ts,okLT x) (hcost:∀ x∈admitsOf X.ts,0≤x.cost∧x.cost≤1000) (han:(admitsOf X.ts).length≤8) (hpn:X.pn≤200000) (hcb:∀ h∈X.hd,h.n≤1000000)
 (f:Nat) (ih:RpvC X f) (k:Nat) (mv:List Place) (M:Option Addr) (mn mc:Nat) (w:World) (hE:RpvAt X w) (hm:Rd encPlace 2 w M mn mc mv) (hmk:mn≤k) (hkp:k≤X.pn) (hf:X.pn-k<f+1):
 Calls Tryz.prog 120 #[.slice X.At X.ts.length X.tc,.slice X.bA X.bn X.bc,.int .i64 X.n,.slice X.pA X.pn X.pc,.int .i64 k,.slice M mn mc] w fun e W'=>e = .returned (.int .i64 (endOf X.pn (prvR X.ts X.bs X.n (f+1) (X.cuts.drop k) mv)))∧Below w.heap.size w W':=by
 have IH:=Lib.hid ih;clear ih;have hcl:=hE.rp.len;have hneg:decide ((k:Int)<0)=false:=decide_eq_false (by omega);by_cases hk:k<X.pn
 case neg=>
  have hv:prvR X.ts X.bs X.n (f+1) (X.cuts.drop k) mv=none:=(by rw [List.drop_of_length_le (by omega)];simp [prvR])
  rw [hv];clear IH hE hm hv hf hO hts hcost han hcb hcl;go_enter Tryz.func120,Tryz.ntmps120;go_wp2;go_ret;exact ⟨rfl,Below.refl _ _⟩
 case pos=>
  obtain ⟨bp,op,h,hpA,hbpw,hh,hch⟩:=hE.rp.rh.one hk
  have hch0:w.cell? ⟨bp,op+k,none⟩=some (.slice h.A h.n h.c):=(by have:=hch 0 (hdrV h) rfl;rw [Nat.mul_one,Nat.add_zero] at this;exact this)
  obtain ⟨c,hcut,hrc⟩:=hE.rp.rc k h hh
  have hdrop:X.cuts.drop k=c::X.cuts.drop (k+1):=(by
   rw [List.getElem?_eq_some_iff] at hcut;obtain ⟨hlt,e⟩:=hcut
   rw [←e];exact List.drop_eq_getElem_cons hlt)
  have HDR:=Lib.hid hdrop;have hhn:=hcb h (List.mem_of_getElem? hh);have hcn:=hrc.len
  have KE:Hid (∀ V,Below w.heap.size w V→RpvAt X V):=(show ∀ V,_→_ from fun V hv=>hE.below hv)
  have KM:Hid (∀ V,Below w.heap.size w V→Rd encPlace 2 V M mn mc mv):=(show ∀ V,_→_ from fun V hv=>hm.below hv (Nat.le_refl _))
  have KC:Hid (∀ V,Below w.heap.size w V→Rd encLink 6 V h.A h.n h.c c):=(show ∀ V,_→_ from fun V hv=>hrc.below hv (Nat.le_refl _))
  have KH:Hid (∀ V,Below w.heap.size w V→V.cell? ⟨bp,op+k,none⟩=some (.slice h.A h.n h.c)):=(show ∀ V,_→_ from fun V hv=>(hv.cell (p:=⟨bp,op+k,none⟩) hbpw).trans hch0)
  have htn:=hO.tn;have hbn:=hO.bn;have hbl:=hE.rb.len;have HMV:=Lib.hid (fun V (hv:Below w.heap.size w V)=>rmovable_any X.At X.ts.length X.tc X.ts V (KE.out V hv).rt (by omega));have HPA:=Lib.hid hpA;clear hch hcut hrc hh hdrop hE hm hch0;by_cases hc0:c = []
  case pos=>
   have hn0:h.n=0:=(by rw [←hcn,hc0];rfl)
   have hn1:((h.n:Int)==0)=true:=(by rw [hn0];rfl)
   have HCO:=Lib.hid (fun V A' c' (h1:Below w.heap.size w V) (h2:Rd encAdmit 4 V A' (admitsOf X.ts).length c' (admitsOf X.ts))=>rcost_any A' (admitsOf X.ts).length c' (admitsOf X.ts) M mn mc mv V h2 (KM.out V h1) han hcost)
   have HPV:Hid (prvR X.ts X.bs X.n (f+1) (X.cuts.drop k) mv=if X.n≤costR (admitsOf X.ts) mv then some (X.cuts.drop (k+1)) else none):=(show _=_ by rw [HDR.out,prvR,if_pos hc0])
   have hwr:IntKind.i64.wrap ((k:Int)+1)=(k:Int)+1:=(by rw [IntKind.wrap_i64];omega)
   have HEN:=Lib.hid (endOf_drop hcl (show k+1≤X.pn by omega));rw [HPV.out];rw [hpA];have q0:=KH.out w (Below.refl _ _);clear IH HDR HPA hpA hf hO hts hcost hcb hcl hc0 hn0 hcn htn hbn hbl HPV
   obtain ⟨s,hs⟩:∃ s,costR (admitsOf X.ts) mv=s:=⟨_,rfl⟩
   rw [hs] at HCO ⊢;clear hs;by_cases hle:X.n≤s
   · have hlt:decide (s<X.n)=false:=decide_eq_false (by omega)
     rw [if_pos hle,HEN.out];go_enter Tryz.func120,Tryz.ntmps120
     go_wp2_with (first
      | (go_at_call 84;(with_reducible refine (HMV.out _ (Below.refl _ _)).mono ?_);rintro e w2 ⟨A2,c2,rfl,hr2,hb2⟩;have HR2:=Lib.hid hr2;have HB2:=Lib.hid hb2;have q2:=KH.out w2 hb2;clear hr2 hb2)
      | (go_at_call 91;(with_reducible refine (HCO.out _ _ _ HB2.out HR2.out).mono ?_);rintro e w3 ⟨rfl,hb3⟩;have HB3:=Lib.hid (HB2.out.trans (hb3.mono HB2.out.size));clear hb3))
     go_ret;exact ⟨by first|rfl|(simp;done),HB3.out⟩
   · have hlt:decide (s<X.n)=true:=decide_eq_true (by omega)
     rw [if_neg hle];go_enter Tryz.func120,Tryz.ntmps120
     go_wp2_with (first
      | (go_at_call 84;(with_reducible refine (HMV.out _ (Below.refl _ _)).mono ?_);rintro e w2 ⟨A2,c2,rfl,hr2,hb2⟩;have HR2:=Lib.hid hr2;have HB2:=Lib.hid hb2;have q2:=KH.out w2 hb2;clear hr2 hb2)
      | (go_at_call 91;(with_reducible refine (HCO.out _ _ _ HB2.out HR2.out).mono ?_);rintro e w3 ⟨rfl,hb3⟩;have HB3:=Lib.hid (HB2.out.trans (hb3.mono HB2.out.size));clear hb3))
     go_ret;exact ⟨rfl,HB3.out⟩
  case neg=>
   obtain ⟨cA,cn,cc⟩:=h;simp only at hhn hcn KC KH
   have hn1:((cn:Int)==0)=false:=(by
    have:cn≠0:=fun e=>hc0 (List.eq_nil_of_length_eq_zero (by omega))
    simpa using this)
   have hwr:IntKind.i64.wrap ((k:Int)+1)=(k:Int)+1:=(by rw [IntKind.wrap_i64];omega)
   have hll:=linksL_len X.ts X.bs mv
   have htb:(X.bs.flatMap (linkB mv)).length≤(linksL X.ts X.bs mv).length:=(by unfold linksL;rw [List.length_append];omega)
   have htb2:(X.bs.flatMap (linkB mv)).length≤1000000:=(by omega)
   have hmvl:=(KM.out w (Below.refl _ _)).len
   have HCC:=Lib.hid (show RCirP (linksL X.ts X.bs mv) c↔contraV (linksL X.ts X.bs mv) (ptsM (placesOf X.ts X.bs) (placesOf X.ts X.bs).length) c=true by
    rw [contraV_iff];exact circ_contra (placesOf_nodup _ _) (z00_not hO) (linksL_good hO mv))
   have HLG:=linksL_good hO mv
   obtain ⟨r,hr⟩:∃ r,contraV (linksL X.ts X.bs mv) (ptsM (placesOf X.ts X.bs) (placesOf X.ts X.bs).length) c=r:=⟨_,rfl⟩
   have HPV:Hid (prvR X.ts X.bs X.n (f+1) (X.cuts.drop k) mv=if r=true then (touchR (admitsOf X.ts) X.bs mv c).foldl (fun o q=>o.bind fun r=>prvR X.ts X.bs X.n f r (putPl mv q)) (some (X.cuts.drop (k+1))) else none):=(show _=_ by
    rw [HDR.out,prvR,if_neg hc0,hr])
   rw [hr] at HCC
   have HLK:Hid (∀ V,Below w.heap.size w V→Calls Tryz.prog 87 #[.slice X.At X.ts.length X.tc,.slice X.bA X.bn X.bc,.slice M mn mc] V fun e w'=> ∃ Al cl,e = .returned (.slice Al (linksL X.ts X.bs mv).length cl)∧Rd encLink 6 w' Al (linksL X.ts X.bs mv).length cl (linksL X.ts X.bs mv)∧Below V.heap.size V w'):=(show ∀ V,_→_ from fun V hv=>by
    refine (rlinks_any X.At X.ts.length X.tc X.ts X.bA X.bn X.bc X.bs M mn mc mv V (KE.out V hv).rt (KE.out V hv).rb (KM.out V hv) (by omega) (by omega) hts).mono ?_;rintro e w' ⟨A',c',rfl,hO',hb'⟩
    exact ⟨A',c',rfl,hO'.rd (fun _=>rfl) (by omega),hb'⟩)
   have HCR:Hid (∀ V Al cl,Below w.heap.size w V→Rd encLink 6 V Al (linksL X.ts X.bs mv).length cl (linksL X.ts X.bs mv)→Calls Tryz.prog 114 #[.slice Al (linksL X.ts X.bs mv).length cl,.slice cA cn cc] V fun e w'=>e = .returned (.bool r)∧Below V.heap.size V w'):=(show ∀ V Al cl,_→_→_ from fun V Al cl hv h2=>by
    refine (rcircle_any Al (linksL X.ts X.bs mv).length cl (linksL X.ts X.bs mv) cA cn cc c V h2 (KC.out V hv) (by omega) hhn (fun x hx=>by obtain ⟨_,_,_,g4,g5,_,_⟩:=HLG x hx;exact ⟨g4,g5⟩)).mono ?_;rintro e w' ⟨b,rfl,hbi,hb'⟩
    obtain rfl:b=r:=(by rw [Bool.eq_iff_iff];exact hbi.trans HCC.out)
    exact ⟨rfl,hb'⟩)
   have HTO:Hid (∀ V,Below w.heap.size w V→Calls Tryz.prog 143 #[.slice X.bA X.bn X.bc,.slice M mn mc] V fun e w'=> ∃ A' c',e = .returned (.slice A' (X.bs.flatMap (linkB mv)).length c')∧Rd encLink 6 w' A' (X.bs.flatMap (linkB mv)).length c' (X.bs.flatMap (linkB mv))∧Below V.heap.size V w'):=(show ∀ V,_→_ from fun V hv=>by
    refine (rtold_any X.bA X.bn X.bc X.bs M mn mc mv V (KE.out V hv).rb (KM.out V hv) (by omega)).mono ?_;rintro e w' ⟨A',c',rfl,hO',hb'⟩
    exact ⟨A',c',rfl,hO'.rd (fun _=>rfl) (by omega),hb'⟩)
   have HTR:Hid (∀ a,touchesR X.bs mv c a=c.any fun x=>(X.bs.flatMap (linkB mv)).any fun y=>eqLink y x&&(eqPlace x.src a||eqPlace x.dst a)):=(show ∀ a,_ from fun a=>rfl)
   have HTT:=Lib.hid (fun i a (h:(admitsOf X.ts)[i]? = some a)=>touchR_take (bs:=X.bs) (mv:=mv) (c:=c) h);have HEN:=Lib.hid (fun kk (h:kk≤X.pn)=>endOf_drop hcl h)
   have HDP:Hid (∀ (mv':List Place) kj r',kj≤X.pn→prvR X.ts X.bs X.n f (X.cuts.drop kj) mv'=some r'→∃ k',kj≤k'∧k'≤X.pn∧r'=X.cuts.drop k'):=(show ∀ (mv':List Place) kj r',_→_→_ from fun mv' kj r' h1 h2=>by
    obtain ⟨j,h3,rfl⟩:=prvR_drop _ _ _ _ h2;rw [List.length_drop] at h3
    exact ⟨kj+j,by omega,by omega,by rw [List.drop_drop]⟩)
   rw [HPV.out];unfold RpvC at IH;rw [hpA] at IH ⊢;have q0:=KH.out w (Below.refl _ _);have HCN:=Lib.hid hcn;clear HDR HPA hpA hO hts hcost hcb hcl hc0 htn hbn hbl HPV HLG HCC hcn hr;generalize linksL X.ts X.bs mv=L at *;generalize X.bs.flatMap (linkB mv)=TB at *;generalize admitsOf X.ts=ads at *;cases r
   case false=>
    clear IH HTO HTR HTT HEN HDP;go_enter Tryz.func120,Tryz.ntmps120
    go_upto_region 8 with (go_at_call 84;(with_reducible refine (HMV.out _ (Below.refl _ _)).mono ?_);rintro e w2 ⟨A2,c2,rfl,hr2,hb2⟩;have HB2:=Lib.hid hb2;have q2:=KH.out w2 hb2;clear hr2 hb2)
    refine rpv8 _ rfl X.At X.ts.length X.tc X.bA X.bn X.bc bp op X.pn X.pc k M mn mc cA cn cc L false _ w2 _ rfl rfl rfl rfl rfl rfl hk (by omega) (fun V hv=>KH.out V (HB2.out.trans (hv.mono HB2.out.size))) (fun V hv=>HLK.out V (HB2.out.trans (hv.mono HB2.out.size))) (fun V Al cl hv h2=>HCR.out V Al cl (HB2.out.trans (hv.mono HB2.out.size)) h2) ?_;intro v8 u8 w8 hb8;have HB8:=Lib.hid (HB2.out.trans (hb8.mono HB2.out.size));clear hb8;simp only [setsL,Trpv8,List.getD_cons_zero,List.getD_cons_succ,Nat.reduceAdd,List.setIfInBounds_toArray,List.set_cons_succ,List.set_cons_zero];go_wp2;go_ret;exact ⟨rfl,HB8.out⟩
   case true=>
    rw [if_pos rfl];go_enter Tryz.func120,Tryz.ntmps120
    go_upto_region 8 with (go_at_call 84;(with_reducible refine (HMV.out _ (Below.refl _ _)).mono ?_);rintro e w2 ⟨A2,c2,rfl,hr2,hb2⟩;have HB2:=Lib.hid hb2;have HR2:=Lib.hid hr2;have q2:=KH.out w2 hb2;clear hr2 hb2)
    refine rpv8 _ rfl X.At X.ts.length X.tc X.bA X.bn X.bc bp op X.pn X.pc k M mn mc cA cn cc L true _ w2 _ rfl rfl rfl rfl rfl rfl hk (by omega) (fun V hv=>KH.out V (HB2.out.trans (hv.mono HB2.out.size))) (fun V hv=>HLK.out V (HB2.out.trans (hv.mono HB2.out.size))) (fun V Al cl hv h2=>HCR.out V Al cl (HB2.out.trans (hv.mono HB2.out.size)) h2) ?_;intro v8 u8 w8 hb8;have HB8:=Lib.hid (HB2.out.trans (hb8.mono HB2.out.size));have HR8:=Lib.hid (HR2.out.below hb8 (Nat.le_refl _));clear hb8 q0 q2 HLK HCR HMV;simp only [setsL,Trpv8,List.getD_cons_zero,List.getD_cons_succ,Nat.reduceAdd,List.setIfInBounds_toArray,List.set_cons_succ,List.set_cons_zero]
    go_wp2_with (go_at_call 143;(with_reducible refine (HTO.out _ HB8.out).mono ?_);rintro e w5 ⟨A5,c5,rfl,hr5,hb5⟩
                 have HB5:=Lib.hid (HB8.out.trans (hb5.mono HB8.out.size));have HR5:=Lib.hid hr5;have HA5:=Lib.hid (HR8.out.below hb5 (Nat.le_refl _))
                 clear hr5 hb5)
    obtain ⟨an,hanE⟩:∃ an,ads.length=an:=⟨_,rfl⟩
    obtain ⟨tn,htnE⟩:∃ tn,TB.length=tn:=⟨_,rfl⟩
    rw [hanE] at HA5 han ⊢;rw [htnE] at HR5 htb2 ⊢;have hsz5:=HB5.out.size
    have KX:Hid (∀ V,Below w5.heap.size w5 V→Below w.heap.size w V):=(show ∀ V,_→_ from fun V hv=>HB5.out.trans (hv.mono HB5.out.size))
    have KA:Hid (∀ V,Below w5.heap.size w5 V→Rd encAdmit 4 V A2 an c2 ads):=(show ∀ V,_→_ from fun V hv=>HA5.out.below hv (Nat.le_refl _))
    have KT:Hid (∀ V,Below w5.heap.size w5 V→Rd encLink 6 V A5 tn c5 TB):=(show ∀ V,_→_ from fun V hv=>HR5.out.below hv (Nat.le_refl _))
    have HAN:=Lib.hid hanE;have HTN:=Lib.hid htnE;clear hanE htnE HTO HR2 HR8 HR5 HA5 HB2 HB8 HB5;go_loopw [15,16] (fun s15 s16 wr=> ∃ i kj:Nat,i≤an∧s16 = .int .i64 i∧s15 = .int .i64 kj∧k<kj∧kj≤X.pn∧Hid ((touchR (ads.take i) X.bs mv c).foldl (fun o q=>o.bind fun r=>prvR X.ts X.bs X.n f r (putPl mv q)) (some (X.cuts.drop (k+1)))=some (X.cuts.drop kj))∧Hid (Below w5.heap.size w5 wr)) (fun _ s16 _=>an-(intOf s16).toNat)
    case atStart=>exact ⟨0,k+1,Nat.zero_le _,rfl,by go_num,by omega,by omega,(show _=_ from rfl),(show Below _ _ _ from Below.refl _ _)⟩
    case round=>
     obtain ⟨i,kj,hi,rfl,rfl,hkj,hkjp,hfo,hb⟩:=hrel;have hzr:=hb.out.size;by_cases hlt:i<an
     case neg=>
      have hin:i=an:=by omega
      subst hin;have hfo2:=hfo.out;rw [List.take_of_length_le (by rw [HAN.out];exact Nat.le_refl _)] at hfo2;have HF2:=Lib.hid hfo2;clear hfo2 hfo;go_wp2;go_ret;exact ⟨by rw [HF2.out,HEN.out _ hkjp];rfl,KX.out _ hb.out⟩
     case pos=>
      obtain ⟨ba,oa,x,hA2,hbaw,hx,hca⟩:=(KA.out wr hb.out).one hlt;subst hA2;have HTI:=Lib.hid (HTT.out i x hx)
      have CP:Hid (∀ V,Below wr.heap.size wr V→V.cell? ⟨ba,oa+i * 4,none⟩=some (.int .i64 x.place.pit)∧V.cell? ⟨ba,oa+i * 4+1,none⟩=some (.int .i64 x.place.layer)):=(show ∀ V,_→_ from fun V hv=>
       ⟨(hv.cell (p:=⟨ba,_,none⟩) hbaw).trans (hca 0 _ rfl),(hv.cell (p:=⟨ba,_,none⟩) hbaw).trans (hca 1 _ rfl)⟩)
      have KR:Hid (∀ V,Below wr.heap.size wr V→Below w5.heap.size w5 V):=(show ∀ V,_→_ from fun V hv=>hb.out.trans (hv.mono hzr))
      have qr:=KH.out wr (KX.out wr hb.out);rw [HTR.out] at HTI;clear hca hx HTT HTR;go_wp2_with (fail);go_loopw [17,18] (fun s17 s18 wm=> ∃ (q:Nat) (b:Bool),q≤cn∧s17 = .bool b∧s18 = .int .i64 q∧Hid (b=(c.take q).any (fun y=>TB.any fun z=>eqLink z y&&(eqPlace y.src x.place||eqPlace y.dst x.place)))∧Hid (Below wr.heap.size wr wm)) (fun _ s18 _=>cn-(intOf s18).toNat)
      case atStart=>exact ⟨0,false,Nat.zero_le _,rfl,rfl,(show _=_ from rfl),(show Below _ _ _ from Below.refl _ _)⟩
      case round=>
       obtain ⟨q,b,hq,rfl,rfl,hbq,hbm⟩:=hrel;rename World=>wm;have hzm:=hbm.out.size;have qm:=KH.out wm (KX.out wm (KR.out wm hbm.out));by_cases hlq:q<cn
       case neg=>
        have hqn:q=cn:=by omega
        have hb2:=hbq.out;rw [hqn,List.take_of_length_le (by rw [HCN.out];exact Nat.le_refl _)] at hb2;rw [←hb2] at HTI;clear hb2 hbq
        cases b with
        | false=>
          rw [if_neg (by decide),List.append_nil] at HTI;go_wp2_with (fail);go_roundw
          all_goals first
           | (simp [intOf];omega)
           | exact ⟨i+1,kj,by omega,by go_num,rfl,hkj,hkjp,(show _=_ by rw [HTI.out];exact hfo.out),(show Below _ _ _ from KR.out _ hbm.out)⟩
        | true=>
          rw [if_pos rfl] at HTI;obtain ⟨p0,p1⟩:=CP.out wm hbm.out;have HPT:=Lib.hid (rPut_any M mn mc mv x.place wm (KM.out wm (KX.out wm (KR.out wm hbm.out))) (by omega));have hpl:=putPl_len mv x.place
          obtain ⟨pm,hpm⟩:∃ pm,putPl mv x.place=pm:=⟨_,rfl⟩
          have HFS:Hid ((touchR (ads.take (i+1)) X.bs mv c).foldl (fun o q=>o.bind fun r=>prvR X.ts X.bs X.n f r (putPl mv q)) (some (X.cuts.drop (k+1)))=prvR X.ts X.bs X.n f (X.cuts.drop kj) pm):=(show _=_ by
           rw [HTI.out,List.foldl_append,hfo.out,←hpm];rfl)
          rw [hpm] at hpl HPT;clear hpm
          cases hres:prvR X.ts X.bs X.n f (X.cuts.drop kj) pm with
          | none=>
            have HNO:Hid ((touchR ads X.bs mv c).foldl (fun o q=>o.bind fun r=>prvR X.ts X.bs X.n f r (putPl mv q)) (some (X.cuts.drop (k+1)))=none):=(show _=_ by
             rw [←List.take_append_drop (i+1) ads,touchR_append,List.foldl_append,HFS.out,hres,fold_none])
            have HRES:=Lib.hid hres;clear hres
            go_wp2_with (first
             | (go_at_call 129;(with_reducible refine HPT.out.mono ?_);rintro e w6 ⟨A6,c6,rfl,hr6,hb6⟩
                have HB6:=Lib.hid (hbm.out.trans (hb6.mono hzm));have HC:=Lib.hid (IH.out kj pm A6 pm.length c6 w6 (KE.out _ (KX.out _ (KR.out _ HB6.out))) hr6 (by omega) hkjp (by omega));rw [HRES.out] at HC
                clear hr6 hb6)
             | (go_at_call 120;(with_reducible refine HC.out.mono ?_);rintro e w7 ⟨rfl,hb7⟩;have HB7:=Lib.hid (HB6.out.trans (hb7.mono HB6.out.size));clear hb7))
            go_ret;exact ⟨by rw [HNO.out];rfl,KX.out _ (KR.out _ HB7.out)⟩
          | some rr=>
            obtain ⟨k',hk1,hk2,rfl⟩:=HDP.out pm kj rr hkjp hres;have HRES:=Lib.hid hres;have HE2:=Lib.hid (HEN.out _ hk2);clear hres
            go_wp2_with (first
             | (go_at_call 129;(with_reducible refine HPT.out.mono ?_);rintro e w6 ⟨A6,c6,rfl,hr6,hb6⟩
                have HB6:=Lib.hid (hbm.out.trans (hb6.mono hzm));have HC:=Lib.hid (IH.out kj pm A6 pm.length c6 w6 (KE.out _ (KX.out _ (KR.out _ HB6.out))) hr6 (by omega) hkjp (by omega));rw [HRES.out,HE2.out] at HC
                clear hr6 hb6)
             | (go_at_call 120;(with_reducible refine HC.out.mono ?_);rintro e w7 ⟨rfl,hb7⟩;have HB7:=Lib.hid (HB6.out.trans (hb7.mono HB6.out.size));clear hb7))
            go_roundw
            all_goals first
             | (simp [intOf];omega)
             | exact ⟨i+1,k',by omega,by go_num,rfl,by omega,hk2,(show _=_ by rw [HFS.out];exact HRES.out),(show Below _ _ _ from KR.out _ HB7.out)⟩
       case pos=>
        obtain ⟨bl,ol,y,hcA,hblw,hy,hcy⟩:=(KC.out wm (KX.out wm (KR.out wm hbm.out))).one hlq;subst hcA;have y0:wm.cell? ⟨bl,ol+q * 6,none⟩=some (.int .i64 y.src.pit):=hcy 0 _ rfl;have y1:wm.cell? ⟨bl,ol+q * 6+1,none⟩=some (.int .i64 y.src.layer):=hcy 1 _ rfl;have y2:wm.cell? ⟨bl,ol+q * 6+2,none⟩=some (.int .i64 y.dst.pit):=hcy 2 _ rfl;have y3:wm.cell? ⟨bl,ol+q * 6+3,none⟩=some (.int .i64 y.dst.layer):=hcy 3 _ rfl;have y4:wm.cell? ⟨bl,ol+q * 6+4,none⟩=some (.int .i64 y.most):=hcy 4 _ rfl;have y5:wm.cell? ⟨bl,ol+q * 6+5,none⟩=some (.int .i64 y.by_):=hcy 5 _ rfl
        have HSN:Hid ((c.take (q+1)).any (fun y=>TB.any fun z=>eqLink z y&&(eqPlace y.src x.place||eqPlace y.dst x.place))=(b||TB.any fun z=>eqLink z y&&(eqPlace y.src x.place||eqPlace y.dst x.place))):=(show _=_ by rw [snoc_anyP hy,←hbq.out])
        obtain ⟨w9,hw9⟩:∃ w9,wm.alloc (.cells #[.int .i64 y.src.pit,.int .i64 y.src.layer,.int .i64 y.dst.pit,.int .i64 y.dst.layer,.int .i64 y.most,.int .i64 y.by_] 74)=w9:=⟨_,rfl⟩
        have hb9:Below wm.heap.size wm w9:=(by rw [←hw9];exact (Below.refl _ _).alloc (Nat.le_refl _) _)
        have hh9:w9.heap[wm.heap.size]? = some (.cells #[.int .i64 y.src.pit,.int .i64 y.src.layer,.int .i64 y.dst.pit,.int .i64 y.dst.layer,.int .i64 y.most,.int .i64 y.by_] 74 (0,0)):=(by rw [←hw9];exact heap_alloc_new wm _)
        have hz9:wm.heap.size<w9.heap.size:=(by rw [←hw9];simp)
        have CY:Hid (∀ V,Below w9.heap.size w9 V→V.cell? ⟨wm.heap.size,0,none⟩=some (.int .i64 y.src.pit)∧V.cell? ⟨wm.heap.size,1,none⟩=some (.int .i64 y.src.layer)∧V.cell? ⟨wm.heap.size,2,none⟩=some (.int .i64 y.dst.pit)∧V.cell? ⟨wm.heap.size,3,none⟩=some (.int .i64 y.dst.layer)∧V.cell? ⟨wm.heap.size,4,none⟩=some (.int .i64 y.most)∧V.cell? ⟨wm.heap.size,5,none⟩=some (.int .i64 y.by_)):=(show ∀ V,_→_ from fun V hv=>by
         have h3:=(hv.block wm.heap.size hz9).trans hh9
         exact ⟨by simp [World.cell?,h3],by simp [World.cell?,h3],by simp [World.cell?,h3],by simp [World.cell?,h3],by simp [World.cell?,h3],by simp [World.cell?,h3]⟩)
        have K9:Hid (∀ V,Below w9.heap.size w9 V→Below wm.heap.size wm V):=(show ∀ V,_→_ from fun V hv=>hb9.trans (hv.mono (by omega)))
        have KM9:Hid (∀ V,Below wm.heap.size wm V→Below wr.heap.size wr V):=(show ∀ V,_→_ from fun V hv=>hbm.out.trans (hv.mono hzm))
        have HW9:=Lib.hid hw9;clear hcy hy hbq hb9 hh9 hw9;go_wp2_with (rw [HW9.out]);clear y0 y1 y2 y3 y4 y5 qm;go_loopw [17,20] (fun s17 s20 wi=> ∃ (j:Nat) (b':Bool),j≤tn∧s17 = .bool b'∧s20 = .int .i64 j∧Hid (b'=(b||(TB.take j).any (fun z=>eqLink z y&&(eqPlace y.src x.place||eqPlace y.dst x.place))))∧Hid (Below w9.heap.size w9 wi)) (fun _ s20 _=>tn-(intOf s20).toNat)
        case atStart=>exact ⟨0,b,Nat.zero_le _,rfl,rfl,(show _=_ by simp),(show Below _ _ _ from Below.refl _ _)⟩
        case round=>
         obtain ⟨j,b',hj,rfl,rfl,hbj,hbi⟩:=hrel;rename World=>wi;have hzi:=hbi.out.size;by_cases hlj:j<tn
         case neg=>
          have hjn:j=tn:=by omega
          have hb2:=hbj.out;rw [hjn,List.take_of_length_le (by rw [HTN.out];exact Nat.le_refl _),←HSN.out] at hb2;have HB2:=Lib.hid hb2;clear hb2 hbj;go_wp2_with (go_quiet (fail));go_roundw
          all_goals first
           | (simp [intOf];omega)
           | exact ⟨q+1,b',by omega,rfl,by go_num,HB2,(show Below _ _ _ from KM9.out _ (K9.out _ hbi.out))⟩
         case pos=>
          obtain ⟨bt,ot,z,hA5,hbtw,hz,hct⟩:=(KT.out wi (KR.out _ (KM9.out _ (K9.out _ hbi.out)))).one hlj;subst hA5;have z0:wi.cell? ⟨bt,ot+j * 6,none⟩=some (.int .i64 z.src.pit):=hct 0 _ rfl;have z1:wi.cell? ⟨bt,ot+j * 6+1,none⟩=some (.int .i64 z.src.layer):=hct 1 _ rfl;have z2:wi.cell? ⟨bt,ot+j * 6+2,none⟩=some (.int .i64 z.dst.pit):=hct 2 _ rfl;have z3:wi.cell? ⟨bt,ot+j * 6+3,none⟩=some (.int .i64 z.dst.layer):=hct 3 _ rfl;have z4:wi.cell? ⟨bt,ot+j * 6+4,none⟩=some (.int .i64 z.most):=hct 4 _ rfl;have z5:wi.cell? ⟨bt,ot+j * 6+5,none⟩=some (.int .i64 z.by_):=hct 5 _ rfl;obtain ⟨y0,y1,y2,y3,y4,y5⟩:=CY.out wi hbi.out;obtain ⟨p0,p1⟩:=CP.out wi (KM9.out _ (K9.out _ hbi.out))
          have HSJ:Hid ((b||(TB.take (j+1)).any (fun z=>eqLink z y&&(eqPlace y.src x.place||eqPlace y.dst x.place)))=(b'||(eqLink ⟨⟨z.src.pit,z.src.layer⟩,⟨z.dst.pit,z.dst.layer⟩,z.most,z.by_⟩ ⟨⟨y.src.pit,y.src.layer⟩,⟨y.dst.pit,y.dst.layer⟩,y.most,y.by_⟩&&(eqPlace ⟨y.src.pit,y.src.layer⟩ ⟨x.place.pit,x.place.layer⟩||eqPlace ⟨y.dst.pit,y.dst.layer⟩ ⟨x.place.pit,x.place.layer⟩)))):=(show _=_ by rw [snoc_anyP hz,←Bool.or_assoc,←hbj.out])
          clear hct hz hbj
          cases b' with
          | true=>
            go_wp2_with (go_quiet (fail));go_roundw
            all_goals first
             | (simp [intOf];omega)
             | exact ⟨j+1,true,by omega,rfl,by go_num,(show _=_ by rw [HSJ.out];rfl),(show Below _ _ _ from below_drewN' hbi.out _)⟩
          | false=>
            cases hq1:eqLink ⟨⟨z.src.pit,z.src.layer⟩,⟨z.dst.pit,z.dst.layer⟩,z.most,z.by_⟩ ⟨⟨y.src.pit,y.src.layer⟩,⟨y.dst.pit,y.dst.layer⟩,y.most,y.by_⟩ with
            | false=>
              rw [hq1] at HSJ;go_wp2_with (go_quiet (fail));go_roundw
              all_goals first
               | (simp [intOf];omega)
               | exact ⟨j+1,false,by omega,rfl,by go_num,(show _=_ by rw [HSJ.out];rfl),(show Below _ _ _ from below_drewN' hbi.out _)⟩
            | true=>
              rw [hq1] at HSJ;cases hp1:eqPlace ⟨y.src.pit,y.src.layer⟩ ⟨x.place.pit,x.place.layer⟩<;>cases hp2:eqPlace ⟨y.dst.pit,y.dst.layer⟩ ⟨x.place.pit,x.place.layer⟩
              all_goals
               rw [hp1,hp2] at HSJ;go_wp2_with (go_quiet (fail));go_roundw
              all_goals first
               | (simp [intOf];omega)
               | exact ⟨j+1,_,by omega,rfl,by go_num,(show _=_ by rw [HSJ.out];rfl),(show Below _ _ _ from below_drewN' hbi.out _)⟩
theorem rproved_any (X:RpvX) (hO:OkO X.ts X.bs) (hts:∀ x∈X.ts,okLT x) (hcost:∀ x∈admitsOf X.ts,0≤x.cost∧x.cost≤1000) (han:(admitsOf X.ts).length≤8) (hpn:X.pn≤200000) (hcb:∀ h∈X.hd,h.n≤1000000):∀ f,RpvC X f
 | 0=>fun _ _ _ _ _ _ _ _ _ _ h=>by omega
 | f+1=>fun k mv M mn mc w h1 h2 h3 h4 h5=>rproved_step X hO hts hcost han hpn hcb f (rproved_any X hO hts hcost han hpn hcb f) k mv M mn mc w h1 h2 h3 h4 h5
theorem end_proves {ts:List Trace} {bs:List Bond} (hO:OkO ts bs) {n:Int} {pn:Nat} {cuts:List (List Link)} (h:cuts.length=pn):(endOf pn (prvR ts bs n (pn+1) (cuts.drop 0) [])==(pn:Int))=provesV ts bs n cuts:=by
 rw [Bool.eq_iff_iff,provesV_iff,beq_iff_eq,List.drop_zero,prvR_eq hO _ _ _ List.Pairwise.nil,h]
 cases prv ts bs n (pn+1) cuts [] with
 | none=>exact ⟨fun h=>by have h:(-1:Int)=pn:=h;omega,fun h=>by cases h⟩
 | some r=>
   show (pn:Int)-r.length=pn↔_
   rw [Option.some.injEq,←List.length_eq_zero_iff];omega
theorem rCheckProof_any (A:Option Addr) (ln lc:Nat) (l:List Trace) (known:Int) (bA:Option Addr) (bn bc:Nat) (bs:List Bond) (n:Int) (pA:Option Addr) (pn pc:Nat) (hd:List Hdr) (cuts:List (List Link)) (w:World) (hl:Rd encTrace 10 w A ln lc l) (hb:Rd encBond 5 w bA bn bc bs) (hp:CutsAt w pA pn pc hd cuts) (hcb:∀ h∈hd,h.n≤1000000):
 Calls Tryz.prog 67 #[.slice A ln lc,.int .i64 known,.slice bA bn bc,.int .i64 n,.slice pA pn pc] w fun e w'=>e = .returned (.tuple #[.bool (checkProofV l known bs n cuts).1,.int .i64 (checkProofV l known bs n cuts).2])∧Below w.heap.size w w':=by
 have HK:=Lib.hid (rAsked_any A ln lc l known bA bn bc bs w hl hb);have hlen:=hp.len
 have HP:Hid (∀ W,Below w.heap.size w W→CutsAt W pA pn pc hd cuts):=(show ∀ W,_→_ from fun W h=>hp.below h)
 have HB:Hid (∀ W,Below w.heap.size w W→Rd encBond 5 W bA bn bc bs):=(show ∀ W,_→_ from fun W h=>hb.below h (Nat.le_refl _))
 have HL:Hid (∀ W,Below w.heap.size w W→Rd encTrace 10 W A ln lc l):=(show ∀ W,_→_ from fun W h=>hl.below h (Nat.le_refl _))
 have hln:=hl.len;clear hl hb hp;by_cases ha:askErr l known bs=0
 case neg=>
  have hv:checkProofV l known bs n cuts=(false,askErr l known bs):=by unfold checkProofV;rw [if_pos ha]
  have ha':(askErr l known bs != 0)=true:=by simpa using ha
  rw [hv];clear hv ha;go_enter Tryz.func67,Tryz.ntmps67;go_wp2_with (go_at_call 80;(with_reducible refine HK.out.mono ?_);rintro e w2 ⟨rfl,hb2⟩;have HB2:=Lib.hid hb2;clear hb2);go_ret2;exact ⟨rfl,HB2.out⟩
 case pos=>
  have F:=Lib.hid (ordFacts ha)
  have hck:(check l).2=0:=by rcases askErr_cases l known bs with ⟨h,h'⟩|⟨h,_⟩|⟨h,_⟩|⟨h,_⟩|⟨h,_⟩<;>first|exact h|exact absurd (h'.symm.trans ha) h
  have hs1:=check_small hck;rw [ha] at HK;by_cases hpn:200000<pn
  · have hv:checkProofV l known bs n cuts=(false,2):=by unfold checkProofV;rw [if_neg (by simpa using ha),if_pos (by omega)]
    rw [hv];clear hv ha;go_enter Tryz.func67,Tryz.ntmps67;go_wp2_with (go_at_call 80;(with_reducible refine HK.out.mono ?_);rintro e w2 ⟨rfl,hb2⟩;have HB2:=Lib.hid hb2;clear hb2);go_ret2;exact ⟨rfl,HB2.out⟩
  · have hv:checkProofV l known bs n cuts=(provesV (counting l known) bs n cuts,0):=by unfold checkProofV;rw [if_neg (by simpa using ha),if_neg (by omega)]
    rw [hv];have HE:=Lib.hid (end_proves (n:=n) F.out.o hlen);have HC:=Lib.hid (fun W (h:Below w.heap.size w W)=>rcounting_any A ln lc l known W (HL.out W h) (by omega))
    have HR:Hid (∀ W A4 c4,Below w.heap.size w W→Rd encTrace 10 W A4 (counting l known).length c4 (counting l known)→Calls Tryz.prog 120 #[.slice A4 (counting l known).length c4,.slice bA bn bc,.int .i64 n,.slice pA pn pc,.int .i64 0,.slice none 0 0] W fun e W'=>e = .returned (.int .i64 (endOf pn (prvR (counting l known) bs n (pn+1) (cuts.drop 0) [])))∧Below W.heap.size W W'):=
     (show ∀ W A4 c4,_→_→_ from fun W A4 c4 h hr=>rproved_any { At:=A4,tc:=c4,bA:=bA,bn:=bn,bc:=bc,pA:=pA,pn:=pn,pc:=pc,n:=n,ts:=counting l known,bs:=bs,hd:=hd,cuts:=cuts } F.out.o F.out.t F.out.cost F.out.a8 (by show pn≤200000;omega) hcb (pn+1) 0 [] none 0 0 W ⟨hr,HB.out W h,HP.out W h⟩ (Rd.none_ none 0 (by omega)) (Nat.le_refl _) (Nat.zero_le _) (by show pn-0<pn+1;omega))
    have htn:=F.out.o.tn;generalize counting l known=ts at *
    obtain ⟨z,hz⟩:∃ z,endOf pn (prvR ts bs n (pn+1) (cuts.drop 0) [])=z:=⟨_,rfl⟩
    rw [hz] at HR HE;rw [←HE.out];clear hv ha hz HE F hcb;go_enter Tryz.func67,Tryz.ntmps67
    go_wp2_with (first
     | (go_at_call 80;(with_reducible refine HK.out.mono ?_);rintro e w2 ⟨rfl,hb2⟩;have HB2:=Lib.hid hb2;clear hb2)
     | (go_at_call 83;(with_reducible refine (HC.out _ HB2.out).mono ?_);rintro e w3 ⟨A3,m3,c3,rfl,hO3,hb3⟩
        have HB3:=Lib.hid (HB2.out.trans (hb3.mono HB2.out.size));have hm3:=hO3.len;subst hm3;have HR3:=Lib.hid (hO3.rd (fun _=>rfl) (by omega))
        clear hb3 hO3)
     | (go_at_call 120;(with_reducible refine (HR.out _ _ _ HB3.out HR3.out).mono ?_);rintro e w4 ⟨rfl,hb4⟩;have HB4:=Lib.hid (HB3.out.trans (hb4.mono HB3.out.size));clear hb4))
    go_ret2;exact ⟨rfl,HB4.out⟩
end Go.Proofs.YtelnkflmnbhclaaGreat
end

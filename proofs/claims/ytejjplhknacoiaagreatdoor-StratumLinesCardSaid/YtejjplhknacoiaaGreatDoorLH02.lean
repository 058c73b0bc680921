/- Contracts that the laws lean on: LinP, LinB, LinN. -/
import Derived.Lib.SplitLaws
import Derived.Lib.AtoiAll
import Derived.Lib.ItoaNum
import Derived.Lib.Join
import Derived.Test.YtejjplhknacoiaaGreatDoorLK04
import Derived.Lib.Bytes
set_option maxRecDepth 100000
set_option maxHeartbeats 4000000
section
namespace Go.Proofs.YtejjplhknacoiaaGreatDoor
open Go
theorem ib_hit:∀ (d r:List UInt8),(32:UInt8)∉d→Lib.indexByte (d++32::r) 32=d.length
 | [],r,_=>by simp [Lib.indexByte]
 | b::d,r,h=>by
   have hb:(b==32)=false:=by
    rw [beq_eq_false_iff_ne]
    exact fun e=>h (by rw [e];simp)
   have ih:=ib_hit d r (fun hm=>h (List.mem_cons_of_mem _ hm))
   rw [List.cons_append,Lib.indexByte,ih,hb]
   have:((d.length:Int) == -1)=false:=by rw [beq_eq_false_iff_ne];omega
   simp [this]
theorem cut_more (k:Nat) (d r:List UInt8) (h:(32:UInt8)∉d):Lib.splitK [32] 0 (k+1) (d++32::r)=d::Lib.splitK [32] 0 k r:=by
 rw [Lib.splitK,Lib.index_one,ib_hit d r h,if_neg (by rw [beq_iff_eq];omega)]
 simp
theorem join_more (d e:List UInt8) (ds:List (List UInt8)):Lib.join (d::e::ds) [32]=d++32::Lib.join (e::ds) [32]:=by
 rw [Lib.join_cons,Lib.join_cons]
 simp [Lib.joinTail]
def cutL (l:List UInt8):List (List UInt8):=Lib.splitK [32] 0 (l.count 32) l
theorem cutL_one {l:List UInt8} (h:(32:UInt8)∉l):cutL l = [l]:=by
 unfold cutL
 rw [List.count_eq_zero.2 h]
 rfl
theorem cutL_more {d:List UInt8} (r:List UInt8) (h:(32:UInt8)∉d):cutL (d++32::r)=d::cutL r:=by
 unfold cutL
 rw [List.count_append,List.count_eq_zero.2 h,List.count_cons_self,Nat.zero_add,cut_more _ _ _ h]
theorem cut_join:∀ (ds:List (List UInt8)),ds ≠ []→(∀ d∈ds,(32:UInt8)∉d)→cutL (Lib.join ds [32])=ds
 | [],h,_=>absurd rfl h
 | [d],_,h=>by
   rw [Lib.join_one]
   exact cutL_one (h d (by simp))
 | d::e::ds,_,h=>by
   have hd:=h d (by simp)
   have ih:=cut_join (e::ds) (by simp) (fun x hx=>h x (List.mem_cons_of_mem _ hx))
   rw [join_more,cutL_more _ hd,ih]
theorem dig_byte:∀ d:Fin 10,UInt8.ofNat (48+d.val)≠32∧(UInt8.ofNat (48+d.val)).toNat=48+d.val∧UInt8.ofNat (48+d.val)≠45:=by decide
theorem dig_ok {d:Nat} (h:d<10):UInt8.ofNat (48+d)≠32∧(UInt8.ofNat (48+d)).toNat=48+d∧UInt8.ofNat (48+d)≠45:=dig_byte ⟨d,h⟩
theorem dec_rec {u:Nat} (h:¬u<10):Lib.decDigits u=Lib.decDigits (u / 10) ++ [UInt8.ofNat (48+u % 10)]:=by rw [Lib.decDigits,dif_neg h]
theorem dec_mem (u:Nat):∀ b∈Lib.decDigits u,∃ d,d<10∧b=UInt8.ofNat (48+d):=by
 induction u using Nat.strongRecOn with
 | _ u ih=>
   intro b hb
   by_cases h:u<10
   · rw [Lib.decDigits_one h,List.mem_singleton] at hb
     exact ⟨u,h,hb⟩
   · rw [dec_rec h] at hb
     rcases List.mem_append.1 hb with hb|hb
     · exact ih (u / 10) (by omega) b hb
     · rw [List.mem_singleton] at hb
       exact ⟨u % 10,by omega,hb⟩
theorem dec_parse (u:Nat):∀ (r:List UInt8),u<1000000000→Lib.parseUint10 0 (Lib.decDigits u++r)=Lib.parseUint10 u r:=by
 induction u using Nat.strongRecOn with
 | _ u ih=>
   intro r hu
   by_cases h:u<10
   · rw [Lib.decDigits_one h]
     obtain ⟨_,h2,_⟩:=dig_ok h
     simp only [List.cons_append,List.nil_append,Lib.parseUint10,h2]
     rw [if_pos (by omega),if_neg (by omega),if_neg (by omega)]
     congr 1
     omega
   · rw [dec_rec h,List.append_assoc,ih (u / 10) (by omega) _ (by omega)]
     obtain ⟨_,h2,_⟩:=dig_ok (d:=u % 10) (by omega)
     simp only [List.cons_append,List.nil_append,Lib.parseUint10,h2]
     rw [if_pos (by omega),if_neg (by omega),if_neg (by omega)]
     congr 1
     omega
theorem dec_ne (u:Nat):Lib.decDigits u ≠ []:=by
 intro h
 have:=Lib.decDigits_length u
 rw [h] at this
 have:=Lib.nDigits_pos u
 simp at *
 omega
theorem dec_len {u:Nat} (h:u<10000000):(Lib.decDigits u).length≤7:=by
 rw [Lib.decDigits_length]
 by_cases h1:u<10
 · rw [Lib.nDigits_small h1];omega
 rw [Lib.nDigits_big h1]
 by_cases h2:u / 10<10
 · rw [Lib.nDigits_small h2];omega
 rw [Lib.nDigits_big h2]
 by_cases h3:u / 10 / 10<10
 · rw [Lib.nDigits_small h3];omega
 rw [Lib.nDigits_big h3]
 by_cases h4:u / 10 / 10 / 10<10
 · rw [Lib.nDigits_small h4];omega
 rw [Lib.nDigits_big h4]
 by_cases h5:u / 10 / 10 / 10 / 10<10
 · rw [Lib.nDigits_small h5];omega
 rw [Lib.nDigits_big h5]
 by_cases h6:u / 10 / 10 / 10 / 10 / 10<10
 · rw [Lib.nDigits_small h6];omega
 rw [Lib.nDigits_big h6,Lib.nDigits_small (by omega)];omega
theorem itoa_pos (u:Nat):Lib.itoa u=Lib.decDigits u:=by unfold Lib.itoa;rw [if_neg (by omega),Int.toNat_natCast]
theorem itoa_neg {n:Int} (h:n<0):Lib.itoa n=45::Lib.decDigits n.natAbs:=by unfold Lib.itoa;rw [if_pos h]
theorem itoa_blank (n:Int):(32:UInt8)∉Lib.itoa n:=by
 intro h
 have key:∀ u,(32:UInt8)∉Lib.decDigits u:=fun u hu=>by
  obtain ⟨d,hd,e⟩:=dec_mem u _ hu
  exact (dig_ok hd).1 e.symm
 unfold Lib.itoa at h
 split at h
 · rcases List.mem_cons.1 h with h|h
   · exact absurd h (by decide)
   · exact key _ h
 · exact key _ h
theorem itoa_len {n:Int} (h0: -10000≤n) (h1:n≤1000000):(Lib.itoa n).length≤8:=by
 unfold Lib.itoa
 split
 · have:=dec_len (u:=n.natAbs) (by omega)
   simp only [List.length_cons];omega
 · have:=dec_len (u:=n.toNat) (by omega)
   omega
theorem dec_head (u:Nat):∃ c r,Lib.decDigits u=c::r∧∃ d,d<10∧c=UInt8.ofNat (48+d):=by
 cases h:Lib.decDigits u with
 | nil=>exact absurd h (dec_ne u)
 | cons c r=>
   obtain ⟨d,hd,e⟩:=dec_mem u c (by rw [h];simp)
   exact ⟨c,r,rfl,d,hd,e⟩
theorem mag_dec {u:Nat} (h:u<1000000000):Lib.parseMag (Lib.decDigits u) = .ok u:=by
 have:=dec_parse u [] h
 rw [List.append_nil] at this
 unfold Lib.parseMag
 rw [if_neg (dec_ne u),this]
 rfl
theorem atoi_itoa {n:Int} (h0: -10000≤n) (h1:n≤1000000):Lib.atoiAll (Lib.itoa n) = .ok n:=by
 by_cases h:n<0
 · rw [itoa_neg h]
   have hm:=mag_dec (u:=n.natAbs) (by omega)
   unfold Lib.atoiAll
   simp only [show (45:UInt8).toNat=45 from rfl,or_true,if_true,hm,not_true,false_and,if_false,true_and]
   rw [if_neg (by omega)]
   congr 1
   omega
 · obtain ⟨m,rfl⟩:∃ m:Nat,n=m:=⟨n.toNat,by omega⟩
   rw [itoa_pos]
   have hm:=mag_dec (u:=m) (by omega)
   obtain ⟨c,r,e,d,hd,hc⟩:=dec_head m
   obtain ⟨_,h2,_⟩:=dig_ok hd
   rw [e] at hm ⊢
   rw [←hc] at h2
   unfold Lib.atoiAll
   simp only [h2]
   rw [if_neg (by omega),hm]
   simp only
   rw [if_neg (by omega),if_neg (by omega),if_neg (by omega)]
def atoiV (l:List UInt8):Int:=match Lib.atoiAll l with
 | .ok v=>v
 | .range=>Lib.atoiSat l
 | _=>0
theorem atoiV_itoa {n:Int} (h0: -10000≤n) (h1:n≤1000000):atoiV (Lib.itoa n)=n:=by
 unfold atoiV
 rw [atoi_itoa h0 h1]
def digV (n:Int):List UInt8→Int
 | []=>n
 | c::r=>if c.toNat<48∨57<c.toNat then 0 else digV (10 * n+c.toNat-48) r
def numV:List UInt8→Int
 | []=>0
 | c::r=>if 8<r.length+1 then 0 else if c=45 then-numV r else digV 0 (c::r)
theorem dig_dec (u:Nat):∀ (r:List UInt8),digV 0 (Lib.decDigits u++r)=digV u r:=by
 induction u using Nat.strongRecOn with
 | _ u ih=>
   intro r
   by_cases h:u<10
   · rw [Lib.decDigits_one h]
     obtain ⟨_,h2,_⟩:=dig_ok h
     simp only [List.cons_append,List.nil_append,digV,h2]
     rw [if_neg (by omega)]
     congr 1
     omega
   · rw [dec_rec h,List.append_assoc,ih (u / 10) (by omega)]
     obtain ⟨_,h2,_⟩:=dig_ok (d:=u % 10) (by omega)
     simp only [List.cons_append,List.nil_append,digV,h2]
     rw [if_neg (by omega)]
     congr 1
     omega
theorem numV_dec {u:Nat} (h:u<10000000):numV (Lib.decDigits u)=u:=by
 obtain ⟨c,r,e,d,hd,hc⟩:=dec_head u
 have hl:=dec_len h
 have hv:=dig_dec u []
 rw [List.append_nil] at hv
 rw [e] at hl hv ⊢
 simp only [List.length_cons] at hl
 unfold numV
 rw [if_neg (by omega),if_neg (by rw [hc];exact (dig_ok hd).2.2),hv]
 rfl
theorem numV_itoa {n:Int} (h0: -10000≤n) (h1:n≤1000000):numV (Lib.itoa n)=n:=by
 by_cases h:n<0
 · rw [itoa_neg h,numV]
   have:=dec_len (u:=n.natAbs) (by omega)
   rw [if_neg (by omega),if_pos rfl,numV_dec (by omega)]
   omega
 · obtain ⟨m,rfl⟩:∃ m:Nat,n=m:=⟨n.toNat,by omega⟩
   rw [itoa_pos]
   exact numV_dec (by omega)
def kindB (k:Int):List UInt8:=if k=1 then [97,98,111,118,101] else if k=2 then [100,97,116,101,100] else if k=3 then [109,111,118,101,100] else if k=4 then [118,111,105,100] else []
def kindOf (b:List UInt8):Int:=if b = [97,98,111,118,101] then 1 else if b = [100,97,116,101,100] then 2 else if b = [109,111,118,101,100] then 3 else if b = [118,111,105,100] then 4 else 0
def tailT (x:Trace):List Int:=if x.kind=1 then [x.pit,x.layer,x.lower] else if x.kind=2 then [x.pit,x.layer,x.low,x.high] else if x.kind=3 then [x.pit,x.layer,x.cost] else [x.void]
def wordsT (x:Trace):List (List UInt8):=Lib.itoa x.id::Lib.itoa x.known::kindB x.kind::(tailT x).map Lib.itoa
def textT (x:Trace):List UInt8:=Lib.join (wordsT x) [32]
def okTr (x:Trace):Bool:=okT x&&eqTrace x (yT x)
def makeT (f:List UInt8→Int) (w:List (List UInt8)):Trace:=
 let k:=kindOf (w.getD 2 [])
 { id:=f (w.getD 0 []),known:=f (w.getD 1 []),kind:=k,pit:=if k=4 then 0 else f (w.getD 3 []),layer:=if k=4 then 0 else f (w.getD 4 []),
   lower:=if k=1 then f (w.getD 5 []) else 0,low:=if k=2 then f (w.getD 5 []) else 0,high:=if k=2 then f (w.getD 6 []) else 0,cost:=if k=3 then f (w.getD 5 []) else 0,void:=if k=4 then f (w.getD 3 []) else 0 }
theorem okTr_kind {x:Trace} (h:okTr x=true):(x.kind=1∨x.kind=2∨x.kind=3∨x.kind=4)∧x=yT x∧okT x=true:=by
 unfold okTr at h
 rw [Bool.and_eq_true,eqTrace_iff] at h
 refine ⟨?_,h.2,h.1⟩
 have h1:=h.1
 unfold okT at h1
 rw [Bool.and_eq_true] at h1
 by_cases k1:x.kind=1
 · exact .inl k1
 by_cases k2:x.kind=2
 · exact .inr (.inl k2)
 by_cases k3:x.kind=3
 · exact .inr (.inr (.inl k3))
 have h2:=h1.2
 rw [if_neg k1,if_neg k2,if_neg k3,decide_eq_true_eq] at h2
 exact .inr (.inr (.inr h2))
theorem okTr_rng {x:Trace} (h:okTr x=true):(1≤x.id∧x.id≤1000000)∧(0≤x.known∧x.known≤100000)∧∀ n∈tailT x,-10000≤n∧n≤1000000:=by
 obtain ⟨hk,-,ho⟩:=okTr_kind h
 unfold okT isPlaceB at ho
 simp only [Bool.and_eq_true,inB_iff] at ho
 obtain ⟨⟨⟨h1,h2⟩,h3⟩,h4⟩:=ho
 refine ⟨h1,h2,?_⟩
 intro n hn
 unfold tailT at hn
 rcases hk with hk|hk|hk|hk
 all_goals
  rw [hk] at hn h3 h4
  simp [inB_iff] at hn h3 h4
 all_goals
  rcases hn with rfl|rfl|rfl|rfl<;>omega
theorem kind_blank (k:Int):(32:UInt8)∉kindB k:=by
 unfold kindB
 split
 · decide
 split
 · decide
 split
 · decide
 split
 · decide
 · decide
theorem kind_len (k:Int):(kindB k).length≤8:=by
 unfold kindB
 split
 · decide
 split
 · decide
 split
 · decide
 split
 · decide
 · decide
theorem words_blank (x:Trace):∀ d∈wordsT x,(32:UInt8)∉d:=by
 intro d hd
 unfold wordsT at hd
 rcases List.mem_cons.1 hd with rfl|hd
 · exact itoa_blank _
 rcases List.mem_cons.1 hd with rfl|hd
 · exact itoa_blank _
 rcases List.mem_cons.1 hd with rfl|hd
 · exact kind_blank _
 obtain ⟨n,_,rfl⟩:=List.mem_map.1 hd
 exact itoa_blank n
theorem cut_text (x:Trace):cutL (textT x)=wordsT x:=cut_join _ (by unfold wordsT;simp) (words_blank x)
theorem tail_len {x:Trace} : 1≤(tailT x).length∧(tailT x).length≤4:=by
 unfold tailT
 split
 · simp
 split
 · simp
 split<;>simp
theorem words_len (x:Trace):4≤(wordsT x).length∧(wordsT x).length≤7:=by
 have:=tail_len (x:=x)
 unfold wordsT
 simp only [List.length_cons,List.length_map]
 omega
theorem join_len:∀ (ds:List (List UInt8)),(∀ d∈ds,d.length≤8)→(Lib.join ds [32]).length≤9 * ds.length
 | [],_=>by decide
 | [d],h=>by
   have:=h d (by simp)
   rw [Lib.join_one,List.length_singleton]
   omega
 | d::e::ds,h=>by
   have h1:=h d (by simp)
   have h2:=join_len (e::ds) (fun x hx=>h x (List.mem_cons_of_mem _ hx))
   rw [join_more,List.length_append,List.length_cons]
   simp only [List.length_cons] at *
   omega
theorem text_size {x:Trace} (h:okTr x=true):(textT x).length≤63:=by
 obtain ⟨h1,h2,h3⟩:=okTr_rng h
 have hl:=words_len x
 have:=join_len (wordsT x) (fun d hd=>by
  unfold wordsT at hd
  rcases List.mem_cons.1 hd with rfl|hd
  · exact itoa_len (by omega) (by omega)
  rcases List.mem_cons.1 hd with rfl|hd
  · exact itoa_len (by omega) (by omega)
  rcases List.mem_cons.1 hd with rfl|hd
  · exact kind_len _
  obtain ⟨n,hn,rfl⟩:=List.mem_map.1 hd
  have:=h3 n hn
  exact itoa_len this.1 this.2)
 unfold textT
 omega
theorem makeT_words {f:List UInt8→Int} (hf:∀ n,-10000≤n→n≤1000000→f (Lib.itoa n)=n) {x:Trace} (h:okTr x=true):makeT f (wordsT x)=x:=by
 obtain ⟨h1,h2,h3⟩:=okTr_rng h
 obtain ⟨hk,hy,-⟩:=okTr_kind h
 obtain ⟨i,kn,k,p,l,lo,a,b,c,v⟩:=x
 simp only at h1 h2 hk
 rcases hk with rfl|rfl|rfl|rfl
 all_goals
  simp [yT] at hy
  simp [tailT] at h3
  simp [makeT,wordsT,tailT,kindB,kindOf,hf i (by omega) (by omega),hf kn (by omega) (by omega)]
 · obtain ⟨⟨g1,g2⟩,⟨g3,g4⟩,g5,g6⟩:=h3
   obtain ⟨rfl,rfl,rfl,rfl⟩:=hy
   exact ⟨hf p g1 g2,hf l g3 g4,hf lo g5 g6,rfl,rfl,rfl,rfl⟩
 · obtain ⟨⟨g1,g2⟩,⟨g3,g4⟩,⟨g5,g6⟩,g7,g8⟩:=h3
   obtain ⟨rfl,rfl,rfl⟩:=hy
   exact ⟨hf p g1 g2,hf l g3 g4,rfl,hf a g5 g6,hf b g7 g8,rfl,rfl⟩
 · obtain ⟨⟨g1,g2⟩,⟨g3,g4⟩,g5,g6⟩:=h3
   obtain ⟨rfl,rfl,rfl,rfl⟩:=hy
   exact ⟨hf p g1 g2,hf l g3 g4,rfl,rfl,rfl,hf c g5 g6,rfl⟩
 · obtain ⟨rfl,rfl,rfl,rfl,rfl,rfl⟩:=hy
   exact ⟨rfl,rfl,rfl,rfl,rfl,rfl,hf v h3.1 h3.2⟩
def readF (f:List UInt8→Int) (s:List UInt8):Option Trace:=if okTr (makeT f (cutL s))=true∧textT (makeT f (cutL s))=s then some (makeT f (cutL s)) else none
theorem readF_iff {f:List UInt8→Int} (hf:∀ n,-10000≤n→n≤1000000→f (Lib.itoa n)=n) {s:List UInt8} {x:Trace} : readF f s=some x↔okTr x=true∧textT x=s:=by
 unfold readF
 constructor
 · intro h
   split at h
   · rename_i hc
     injection h with h
     subst h
     exact hc
   · cases h
 · rintro ⟨h1,rfl⟩
   have e:=makeT_words hf h1
   rw [cut_text,e,if_pos ⟨h1,rfl⟩]
def readT (s:List UInt8):Option Trace:=readF atoiV s
theorem readT_iff {s:List UInt8} {x:Trace} : readT s=some x↔okTr x=true∧textT x=s:=readF_iff (fun _ h0 h1=>atoiV_itoa h0 h1)
def zeroT:Trace:=⟨0,0,0,0,0,0,0,0,0,0⟩
def readX (s:List UInt8):Trace:=(readT s).getD zeroT
def readErr (s:List UInt8):Int:=if readT s=none then 4 else 0
def textV (x:Trace):ByteArray:=if okTr x=true then ⟨(textT x).toArray⟩ else ⟨#[]⟩
theorem good_ok {x:Trace} (h:okTr x=true):textV x=⟨(textT x).toArray⟩∧checkTrace x=0:=by unfold textV checkTrace;unfold okTr at *;rw [if_pos h,if_pos h];exact ⟨rfl,rfl⟩
theorem bad_ok {x:Trace} (h:okTr x=false):textV x=⟨#[]⟩∧checkTrace x=1:=by unfold textV checkTrace;unfold okTr at *;rw [h];exact ⟨rfl,rfl⟩
theorem read_some {l:List UInt8} {x:Trace} (h:okTr x=true) (e:textT x=l):readX l=x∧readErr l=0:=by
 unfold readX readErr
 rw [readT_iff.2 ⟨h,e⟩]
 exact ⟨rfl,rfl⟩
theorem read_none {l:List UInt8} (h:∀ x,okTr x=true→textT x≠l):readX l=zeroT∧readErr l=4:=by
 have:readT l=none:=by
  cases hr:readT l with
  | none=>rfl
  | some x=>
    obtain ⟨h1,h2⟩:=readT_iff.1 hr
    exact absurd h2 (h x h1)
 unfold readX readErr
 rw [this]
 exact ⟨rfl,rfl⟩
theorem read_by {f:List UInt8→Int} (hf:∀ n,-10000≤n→n≤1000000→f (Lib.itoa n)=n) (s:List UInt8):(okTr (makeT f (cutL s))=true∧textT (makeT f (cutL s))=s∧readX s=makeT f (cutL s)∧readErr s=0)∨((okTr (makeT f (cutL s))=true→textT (makeT f (cutL s))≠s)∧readX s=zeroT∧readErr s=4):=by
 by_cases h:okTr (makeT f (cutL s))=true∧textT (makeT f (cutL s))=s
 · obtain ⟨h1,h2⟩:=read_some h.1 h.2
   exact .inl ⟨h.1,h.2,h1,h2⟩
 · refine .inr ⟨fun h1 h2=>h ⟨h1,h2⟩,?_⟩
   refine read_none fun x h1 h2=>h ?_
   have:=(readF_iff hf).2 ⟨h1,h2⟩
   unfold readF at this
   split at this
   · assumption
   · cases this
theorem cut_short {s:List UInt8} (h:¬(4≤(cutL s).length∧(cutL s).length≤7)):readX s=zeroT∧readErr s=4:=by
 refine read_none fun x _ e=>h ?_
 rw [←e,cut_text]
 exact words_len x
end Go.Proofs.YtejjplhknacoiaaGreatDoor
end
section
namespace Go.Proofs.YtejjplhknacoiaaGreatDoor
open Go.RowKit Go.Proofs
def encStr (x:ByteArray):List Value:=[.string x]
theorem elStr:ElemT Tryz.prog 63 9 1 16:=elemT_of (z:=.string ByteArray.empty) Tryz.underlying63 (by kernel_rfl) rfl (by decide)
theorem oneStr (x:ByteArray):∀ u∈encStr x,u.oneCell'=true:=by simp [encStr,Value.oneCell']
theorem alloc_facts (w:World) (cs:Array Value) (t:TypeId):∃ w',w.alloc (.cells cs t)=w'∧Below w.heap.size w w'∧w'.heap.size=w.heap.size+1∧w'.heap[w.heap.size]? = some (.cells cs t (0,0)):=
 ⟨_,rfl,(Below.refl _ w).alloc (Nat.le_refl _) _,by simp,heap_alloc_new w _⟩
def bsL (l:List UInt8):ByteArray:=⟨l.toArray⟩
theorem bsL_app (a b:List UInt8):bsL a++bsL b=bsL (a++b):=by
 apply ByteArray.ext
 rw [ByteArray.data_append]
 apply Array.ext'
 simp [bsL]
theorem str_ne {a b:ByteArray} (h:a≠b):(a.toList==b.toList)=false:=by
 rw [ByteArray.toList_eq,ByteArray.toList_eq,beq_eq_false_iff_ne]
 intro e
 apply h
 cases a
 cases b
 simp only [ByteArray.mk.injEq]
 exact Array.ext' e
theorem conv_one (w:World) (b:UInt8) (z:Int) (hz:z=b.toNat) (c:Nat):(convert 108 9 (.slice (some ⟨w.heap.size,0,none⟩) 1 c)).run Tryz.prog (w.alloc (.cells #[.int .u8 z] 5)) = .ok (.string ⟨#[b]⟩) (w.alloc (.cells #[.int .u8 z] 5)):=by
 have h:=run_convert_bytes_back (P:=Tryz.prog) (w.alloc (.cells #[.int .u8 z] 5)) 108 9 5 ⟨w.heap.size,0,none⟩ c [b] Tryz.underlying108 Tryz.underlying5 Tryz.underlying9 (fun j hj=>by
  have:j=0:=by simp at hj;omega
  subst this
  subst hz
  rw [show (Addr.add ⟨w.heap.size,0,none⟩ 0)=⟨w.heap.size,0,none⟩ from rfl,World.cell?_alloc_new]
  rfl)
 exact h
theorem dig_0 (w:World):Calls Tryz.prog 22 #[.int .i64 0] w fun e w'=>e = .returned (.string ⟨#[48]⟩)∧Below w.heap.size w w':=by
 have hcv:=conv_one w 48 48 rfl
 go_enter Tryz.func22,Tryz.ntmps22
 go_wp2
 go_ret
 exact ⟨rfl,(Below.refl _ _).alloc (Nat.le_refl _) _⟩
theorem dig_1 (w:World):Calls Tryz.prog 22 #[.int .i64 1] w fun e w'=>e = .returned (.string ⟨#[49]⟩)∧Below w.heap.size w w':=by
 have hcv:=conv_one w 49 49 rfl
 go_enter Tryz.func22,Tryz.ntmps22
 go_wp2
 go_ret
 exact ⟨rfl,(Below.refl _ _).alloc (Nat.le_refl _) _⟩
theorem dig_2 (w:World):Calls Tryz.prog 22 #[.int .i64 2] w fun e w'=>e = .returned (.string ⟨#[50]⟩)∧Below w.heap.size w w':=by
 have hcv:=conv_one w 50 50 rfl
 go_enter Tryz.func22,Tryz.ntmps22
 go_wp2
 go_ret
 exact ⟨rfl,(Below.refl _ _).alloc (Nat.le_refl _) _⟩
theorem dig_3 (w:World):Calls Tryz.prog 22 #[.int .i64 3] w fun e w'=>e = .returned (.string ⟨#[51]⟩)∧Below w.heap.size w w':=by
 have hcv:=conv_one w 51 51 rfl
 go_enter Tryz.func22,Tryz.ntmps22
 go_wp2
 go_ret
 exact ⟨rfl,(Below.refl _ _).alloc (Nat.le_refl _) _⟩
theorem dig_4 (w:World):Calls Tryz.prog 22 #[.int .i64 4] w fun e w'=>e = .returned (.string ⟨#[52]⟩)∧Below w.heap.size w w':=by
 have hcv:=conv_one w 52 52 rfl
 go_enter Tryz.func22,Tryz.ntmps22
 go_wp2
 go_ret
 exact ⟨rfl,(Below.refl _ _).alloc (Nat.le_refl _) _⟩
theorem dig_5 (w:World):Calls Tryz.prog 22 #[.int .i64 5] w fun e w'=>e = .returned (.string ⟨#[53]⟩)∧Below w.heap.size w w':=by
 have hcv:=conv_one w 53 53 rfl
 go_enter Tryz.func22,Tryz.ntmps22
 go_wp2
 go_ret
 exact ⟨rfl,(Below.refl _ _).alloc (Nat.le_refl _) _⟩
theorem dig_6 (w:World):Calls Tryz.prog 22 #[.int .i64 6] w fun e w'=>e = .returned (.string ⟨#[54]⟩)∧Below w.heap.size w w':=by
 have hcv:=conv_one w 54 54 rfl
 go_enter Tryz.func22,Tryz.ntmps22
 go_wp2
 go_ret
 exact ⟨rfl,(Below.refl _ _).alloc (Nat.le_refl _) _⟩
theorem dig_7 (w:World):Calls Tryz.prog 22 #[.int .i64 7] w fun e w'=>e = .returned (.string ⟨#[55]⟩)∧Below w.heap.size w w':=by
 have hcv:=conv_one w 55 55 rfl
 go_enter Tryz.func22,Tryz.ntmps22
 go_wp2
 go_ret
 exact ⟨rfl,(Below.refl _ _).alloc (Nat.le_refl _) _⟩
theorem dig_8 (w:World):Calls Tryz.prog 22 #[.int .i64 8] w fun e w'=>e = .returned (.string ⟨#[56]⟩)∧Below w.heap.size w w':=by
 have hcv:=conv_one w 56 56 rfl
 go_enter Tryz.func22,Tryz.ntmps22
 go_wp2
 go_ret
 exact ⟨rfl,(Below.refl _ _).alloc (Nat.le_refl _) _⟩
theorem dig_9 (w:World):Calls Tryz.prog 22 #[.int .i64 9] w fun e w'=>e = .returned (.string ⟨#[57]⟩)∧Below w.heap.size w w':=by
 have hcv:=conv_one w 57 57 rfl
 go_enter Tryz.func22,Tryz.ntmps22
 go_wp2
 go_ret
 exact ⟨rfl,(Below.refl _ _).alloc (Nat.le_refl _) _⟩
theorem dig_one (m:Nat) (h:m<10) (w:World):
 Calls Tryz.prog 22 #[.int .i64 (m:Int)] w fun e w'=>e = .returned (.string (bsL (Lib.decDigits m)))∧Below w.heap.size w w':=by
 rw [Lib.decDigits_one h]
 rcases (by omega:m=0∨m=1∨m=2∨m=3∨m=4∨m=5∨m=6∨m=7∨m=8∨m=9) with rfl|rfl|rfl|rfl|rfl|rfl|rfl|rfl|rfl|rfl
 · exact dig_0 w
 · exact dig_1 w
 · exact dig_2 w
 · exact dig_3 w
 · exact dig_4 w
 · exact dig_5 w
 · exact dig_6 w
 · exact dig_7 w
 · exact dig_8 w
 · exact dig_9 w
theorem dig_big (m:Nat) (h:¬m<10) (hm:m≤1000000) (a b:List UInt8) (KA:∀ W,Calls Tryz.prog 22 #[.int .i64 ((m:Int) / 10)] W fun e w'=>e = .returned (.string (bsL a))∧Below W.heap.size W w')
 (KB:∀ W,Calls Tryz.prog 22 #[.int .i64 ((m:Int) % 10)] W fun e w'=>e = .returned (.string (bsL b))∧Below W.heap.size W w') (hs:(bsL a).size≤8∧(bsL b).size≤8) (w:World):
 Calls Tryz.prog 22 #[.int .i64 (m:Int)] w fun e w'=>e = .returned (.string (bsL (a++b)))∧Below w.heap.size w w':=by
 have hn:¬(m:Int)<0:=(by omega)
 have ht:¬(m:Int)<10:=(by omega)
 have HA:=Lib.hid KA
 have HB:=Lib.hid KB
 have HAP:=Lib.hid (bsL_app a b)
 clear KA KB
 generalize bsL a=sa at *
 generalize bsL b=sb at *
 generalize bsL (a++b)=sab at *
 go_enter Tryz.func22,Tryz.ntmps22
 go_wp2_with (first
  | (go_at_call 22;(with_reducible refine (HB.out _).mono ?_);rintro e w3 ⟨rfl,hb3⟩;have HB3:=Lib.hid (HB2.out.trans (hb3.mono HB2.out.size));clear hb3)
  | (go_at_call 22;(with_reducible refine (HA.out _).mono ?_);rintro e w2 ⟨rfl,hb2⟩;have HB2:=Lib.hid hb2;clear hb2))
 go_ret
 exact ⟨by rw [HAP.out];rfl,HB3.out⟩
theorem dig_nat (m:Nat):∀ (_:m≤1000000) (w:World),Calls Tryz.prog 22 #[.int .i64 (m:Int)] w fun e w'=>e = .returned (.string (bsL (Lib.decDigits m)))∧Below w.heap.size w w':=by
 induction m using Nat.strongRecOn with
 | _ m ih=>
   intro hm w
   by_cases h:m<10
   · exact dig_one m h w
   · rw [dec_rec h]
     have l1:=dec_len (u:=m / 10) (by omega)
     refine dig_big m h hm _ _ (fun W=> ?_) (fun W=> ?_) ⟨?_,?_⟩ w
     · have:=ih (m / 10) (by omega) (by omega) W
       rw [show ((m / 10:Nat):Int)=(m:Int) / 10 from by omega] at this
       exact this
     · have:=dig_one (m % 10) (by omega) W
       rw [Lib.decDigits_one (by omega),show ((m % 10:Nat):Int)=(m:Int) % 10 from by omega] at this
       exact this
     · show (Lib.decDigits (m / 10)).length≤8
       omega
     · exact (by decide:1≤8)
theorem dig_neg (m:Nat) (h0:0<m) (h1:m≤1000000) (a:List UInt8) (KA:∀ W,Calls Tryz.prog 22 #[.int .i64 (m:Int)] W fun e w'=>e = .returned (.string (bsL a))∧Below W.heap.size W w') (hs:(bsL a).size≤8) (w:World):
 Calls Tryz.prog 22 #[.int .i64 (-(m:Int))] w fun e w'=>e = .returned (.string (bsL (45::a)))∧Below w.heap.size w w':=by
 have hn: -(m:Int)<0:=(by omega)
 have hnn: - -(m:Int)=m:=(by omega)
 have HA:=Lib.hid KA
 have HAP:Hid ((⟨#[45]⟩:ByteArray)++bsL a=bsL (45::a)):=(show _=_ from bsL_app [45] a)
 have HN:=Lib.hid hnn
 clear KA hnn
 generalize bsL a=sa at *
 generalize bsL (45::a)=sab at *
 go_enter Tryz.func22,Tryz.ntmps22
 go_wp2_with (go_at_call 22;(try rw [HN.out]);(with_reducible refine (HA.out _).mono ?_);rintro e w2 ⟨rfl,hb2⟩;have HB2:=Lib.hid hb2;clear hb2)
 go_ret
 exact ⟨by rw [HAP.out];rfl,HB2.out⟩
theorem digits_any (n:Int) (h0: -10000≤n) (h1:n≤1000000) (w:World):Calls Tryz.prog 22 #[.int .i64 n] w fun e w'=>e = .returned (.string (bsL (Lib.itoa n)))∧Below w.heap.size w w':=by
 by_cases h:n<0
 · rw [itoa_neg h]
   obtain ⟨m,rfl⟩:∃ m:Nat,n = -(m:Int):=⟨n.natAbs,by omega⟩
   rw [show (-(m:Int)).natAbs=m from by omega]
   have l1:=dec_len (u:=m) (by omega)
   exact dig_neg m (by omega) (by omega) _ (fun W=>dig_nat m (by omega) W) (show (Lib.decDigits m).length≤8 from by omega) w
 · obtain ⟨m,rfl⟩:∃ m:Nat,n=m:=⟨n.toNat,by omega⟩
   rw [itoa_pos]
   exact dig_nat m (by omega) w
def rowT (zs:List Int):List UInt8:=zs.flatMap fun z=>32::Lib.itoa z
theorem rowT_snoc (zs:List Int) (z:Int):rowT (zs ++ [z])=(rowT zs ++ [32])++Lib.itoa z:=by
 unfold rowT
 rw [List.flatMap_append]
 simp
theorem rowT_len:∀ (zs:List Int),(∀ z∈zs,-10000≤z∧z≤1000000)→(rowT zs).length≤9 * zs.length
 | [],_=>by decide
 | z::zs,h=>by
   have h1:=itoa_len (h z (by simp)).1 (h z (by simp)).2
   have h2:=rowT_len zs (fun y hy=>h y (List.mem_cons_of_mem _ hy))
   have e:rowT (z::zs)=(32::Lib.itoa z)++rowT zs:=rfl
   rw [e,List.length_append,List.length_cons,List.length_cons]
   omega
theorem row_any (bk:Nat) (c:Nat) (zs:List Int) (w:World) (hr:Rd encInt 1 w (some ⟨bk,0,none⟩) zs.length c zs) (hl:zs.length≤10) (hz:∀ z∈zs,-10000≤z∧z≤1000000):
 Calls Tryz.prog 23 #[.slice (some ⟨bk,0,none⟩) zs.length c] w fun e w'=>e = .returned (.string (bsL (rowT zs)))∧Below w.heap.size w w':=by
 have HR:=Lib.hid hr
 have HZ:=Lib.hid hz
 have HC:Hid (∀ W k z,Below w.heap.size w W→zs[k]? = some z→W.cell? ⟨bk,k,none⟩=some (.int .i64 z)):=(show ∀ W k z,_→_→_ from fun W k z hW hk=>by
  obtain ⟨bk',off,he,hbk,hcs⟩:=hr.at_ (by have:=(List.getElem?_eq_some_iff.1 hk).1;omega)
  injection he with he
  injection he with e1 e2 e3
  subst e1 e2
  have:=hcs k z hk 0 _ rfl
  exact (hW.cell hbk).trans (by simpa using this))
 generalize hn:zs.length=n at *
 clear hr hz
 go_enter Tryz.func23,Tryz.ntmps23
 go_wp2
 go_loopw [3,4] (fun s3 s4 wr=> ∃ k:Nat,k≤n∧s4 = .int .i64 k∧s3 = .string (bsL (rowT (zs.take k)))∧Hid (Below w.heap.size w wr)) (fun _ s4 _=>n-(intOf s4).toNat)
 case atStart=>exact ⟨0,Nat.zero_le _,rfl,rfl,(show Below _ _ _ from Below.refl _ _)⟩
 case round=>
  obtain ⟨k,hk,rfl,rfl,hbr⟩:=hrel
  by_cases hlt:k<n
  · have hlt':(k:Int)<(n:Int):=(by omega)
    obtain ⟨z,hz⟩:∃ z,zs[k]? = some z:=⟨zs[k]'(by omega),List.getElem?_eq_getElem _⟩
    have hcell:=HC.out wr k z hbr.out hz
    have hzr:=HZ.out z (List.mem_of_getElem? hz)
    have KD:=Lib.hid (fun W=>digits_any z hzr.1 hzr.2 W)
    have HL:Hid ((bsL (rowT (zs.take k))).size≤100∧(bsL (Lib.itoa z)).size≤8):=(show _∧_ from ⟨by
     have h1:=rowT_len (zs.take k) (fun y hy=>HZ.out y (List.mem_of_mem_take hy))
     have h2:(zs.take k).length≤10:=by rw [List.length_take];omega
     show (rowT (zs.take k)).length≤100
     omega,itoa_len hzr.1 hzr.2⟩)
    have HS:Hid ((bsL (rowT (zs.take k))++(⟨#[32]⟩:ByteArray))++bsL (Lib.itoa z)=bsL (rowT (zs.take (k+1)))):=(show _=_ from by
     rw [show (⟨#[32]⟩:ByteArray)=bsL [32] from rfl,bsL_app,bsL_app,←rowT_snoc,List.take_add_one,hz]
     rfl)
    have hl1:=HL.out.1
    have hl2:=HL.out.2
    clear hz hzr
    generalize bsL (rowT (zs.take k))=sk at *
    generalize bsL (Lib.itoa z)=sz at *
    go_wp2_with (go_at_call 22;(with_reducible refine (KD.out _).mono ?_);rintro e w5 ⟨rfl,hb5⟩;have HB5:=Lib.hid (hbr.out.trans (hb5.mono hbr.out.size));clear hb5)
    go_roundw
    all_goals first
     | (simp [intOf];omega)
     | exact ⟨k+1,by omega,by go_num,by rw [HS.out],HB5⟩
  · obtain rfl:k=n:=by omega
    have hlt':¬(k:Int)<(k:Int):=(by omega)
    go_wp2
    go_ret
    refine ⟨?_,hbr.out⟩
    rw [List.take_of_length_le (by omega)]
    rfl
end Go.Proofs.YtejjplhknacoiaaGreatDoor
end

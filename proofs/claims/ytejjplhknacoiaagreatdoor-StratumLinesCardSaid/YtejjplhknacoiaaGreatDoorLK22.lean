/- Contracts that the laws lean on: Conf, Chp. -/
import Derived.Test.YtejjplhknacoiaaGreatDoorLK19
import Derived.Test.YtejjplhknacoiaaGreatDoorLK21
set_option maxRecDepth 100000
set_option maxHeartbeats 4000000
section
namespace Go.Proofs.YtejjplhknacoiaaGreatDoor
open Go.RowKit Go.Proofs Go.Shelf
theorem backTo_len (bs:List Bound) (last:List Row):∀ k p,(backTo bs last k p).length=k-1
 | 0,_=>rfl
 | 1,_=>rfl
 | k+2,p=>by
   have ih:=backTo_len bs last (k+1) (bs.getD (rAt (last.getD (k+1) []) p).toNat default).src
   rw [backTo,List.length_cons,ih];omega
theorem backTo_ok {pts:Int} {bs:List Bound} (hok:SysOk pts bs) {last:List Row} (hl:LastOk bs last):∀ k,k≤last.length→∀ p:Int,0≤p→p<60→∀ i∈backTo bs last k p,0≤i∧i<bs.length
 | 0,_,_,_,_,i,hi=>by simp [backTo] at hi
 | 1,_,_,_,_,i,hi=>by simp [backTo] at hi
 | k+2,hk,p,h1,h2,i,hi=>by
   rw [backTo] at hi
   have hm:last.getD (k+1) []∈last:=by rw [List.getD_eq_getElem?_getD,List.getElem?_eq_getElem (by omega)];exact List.getElem_mem _
   obtain ⟨_,hv⟩:=hl _ hm
   have hv':=hv p h1 h2
   have hp:=hok.p2
   have hb:bs.getD (rAt (last.getD (k+1) []) p).toNat default∈bs:=by rw [List.getD_eq_getElem?_getD,List.getElem?_eq_getElem (by omega)];exact List.getElem_mem _
   have hbk:=hok.b _ hb
   rcases List.mem_cons.1 hi with rfl|hi
   · exact hv'
   · exact backTo_ok hok hl (k+1) (by omega) _ hbk.1 (by omega) i hi
theorem circleRow_spec {pts:Int} {bs:List Bound} (hok:SysOk pts bs) {m:Nat} :∀ (ws:List Walks) (p:Nat),(∀ x∈ws,WOk bs m x)→p+ws.length≤60→
 (∀ c,(circleRow bs ws p).2=some c→c.length=m+1∧∀ i∈c,0≤i∧i<bs.length)∧((circleRow bs ws p).2=none→∀ x∈(circleRow bs ws p).1,WOk bs (m+1) x)∧(circleRow bs ws p).1.length=ws.length
 | [],p,_,_=>⟨fun c h=>(by cases h),fun _ x h=>(by simp [circleRow] at h),rfl⟩
 | x::ws,p,hw,hp=>by
   have hx:=(hw x List.mem_cons_self).longer hok
   simp only [List.length_cons] at hp
   obtain ⟨h1,h2,h3⟩:=circleRow_spec hok ws (p+1) (fun y hy=>hw y (List.mem_cons_of_mem _ hy)) (by omega)
   by_cases h:rAt (x.longer bs).now p<0
   · rw [circleRow,if_pos h]
     refine ⟨fun c hc=> ?_,fun hc=>(by cases hc),by simp⟩
     cases hc
     have hne:bs ≠ []:=fun e=>by
      rw [Walks.now_longer,e,longerR_nil] at h
      simp only at h
      rw [rAt_empty _ (by omega) (by omega)] at h
      unfold noneV at h;omega
     unfold Walks.back
     refine ⟨by rw [List.length_reverse,backTo_len,hx.l];omega,fun i hi=> ?_⟩
     exact backTo_ok hok (hx.ok hne) _ (Nat.le_refl _) p (by omega) (by omega) i (List.mem_reverse.1 hi)
   · rw [circleRow,if_neg h]
     refine ⟨h1,fun hc y hy=> ?_,by simp [h3]⟩
     rcases List.mem_cons.1 hy with rfl|hy
     · exact hx
     · exact h2 hc y hy
theorem circleLoop_spec {pts:Int} {bs:List Bound} (hok:SysOk pts bs):∀ (n m:Nat) (all:List Walks),(∀ x∈all,WOk bs m x)→all.length≤60→(circleLoop bs n all).length≤m+n∧∀ i∈circleLoop bs n all,0≤i∧i<bs.length
 | 0,m,all,_,_=>⟨by simp [circleLoop],fun i hi=>by simp [circleLoop] at hi⟩
 | n+1,m,all,hw,hl=>by
   obtain ⟨h1,h2,h3⟩:=circleRow_spec hok all 0 hw (by omega)
   cases hc:(circleRow bs all 0).2 with
   | some c=>
     obtain ⟨a,b⟩:=h1 c hc
     rw [circleLoop_hit hc]
     exact ⟨by omega,b⟩
   | none=>
     rw [circleLoop_miss (show circleRow bs all 0=((circleRow bs all 0).1,none) from by rw [←hc])]
     obtain ⟨a,b⟩:=circleLoop_spec hok n (m+1) (circleRow bs all 0).1 (h2 hc) (by omega)
     exact ⟨by omega,b⟩
theorem circleX_ok {pts:Int} {bs:List Bound} (hok:SysOk pts bs):(circleX pts bs).length≤60∧∀ i∈circleX pts bs,0≤i∧i<bs.length:=by
 have hp:=hok.p2
 have h:=circleLoop_spec hok pts.toNat 0 ((List.range pts.toNat).map walks0) (fun x hx=>by
  obtain ⟨p,hp,rfl⟩:=List.mem_map.1 hx
  exact WOk.start bs p (by have:=List.mem_range.1 hp;omega)) (by simp;omega)
 unfold circleX
 exact ⟨by omega,h.2⟩
def conflictV (l:List Trace) (known:Int) (bs:List Bond) (mv:List Place):List Link×Bool×Int:=
 if withErr l known bs mv≠0 then ([],false,withErr l known bs mv) else
 (someL (linksL (counting l known) bs mv) (circleX ((placesOf (counting l known) bs).length+1) (sysOf l known bs mv)),circOk ((placesOf (counting l known) bs).length+1) (sysOf l known bs mv),0)
theorem Conflict_any (A:Option Addr) (n c:Nat) (l:List Trace) (known:Int) (bA:Option Addr) (bn bc:Nat) (bs:List Bond) (M:Option Addr) (mn mc:Nat) (mv:List Place) (w:World) (hl:Rd encTrace 10 w A n c l) (hb:Rd encBond 5 w bA bn bc bs) (hm:Rd encPlace 2 w M mn mc mv):
 Calls Tryz.prog 15 #[.slice A n c,.int .i64 known,.slice bA bn bc,.slice M mn mc] w fun e w'=> ∃ Ad cd,e = .returned (.tuple #[.slice Ad (conflictV l known bs mv).1.length cd,.bool (conflictV l known bs mv).2.1,.int .i64 (conflictV l known bs mv).2.2])∧Below w.heap.size w w'∧
  Own encLink 6 138 w.heap.size w' Ad (conflictV l known bs mv).1.length cd (conflictV l known bs mv).1:=by
 have hwith:=with_any A n c l known bA bn bc bs M mn mc mv w hl hb hm
 have HW:=Lib.hid hwith
 clear hwith hl hb hm
 by_cases he:withErr l known bs mv=0
 · have hO:=okO_of (askErr_of_with he)
   have hck:=checkSys_years hO mv
   have hv:conflictV l known bs mv=(someL (linksL (counting l known) bs mv) (circleX ((placesOf (counting l known) bs).length+1) (sysOf l known bs mv)),circOk ((placesOf (counting l known) bs).length+1) (sysOf l known bs mv),0):=by unfold conflictV;rw [if_neg (by simpa using he)]
   rw [hv]
   have hsysE:sysOf l known bs mv=(linksL (counting l known) bs mv).map (boundOf (ptsM (placesOf (counting l known) bs) (placesOf (counting l known) bs).length)):=rfl
   rw [←hsysE] at hck
   rw [he] at HW
   have hll:=linksL_len (counting l known) bs mv
   have hl1:=hO.tn
   have hl2:=hO.bn
   clear hv he hO
   obtain ⟨ps,hpe⟩:∃ ps,placesOf (counting l known) bs=ps:=⟨_,rfl⟩
   obtain ⟨L,hLe⟩:∃ L,linksL (counting l known) bs mv=L:=⟨_,rfl⟩
   obtain ⟨S,hSe⟩:∃ S,sysOf l known bs mv=S:=⟨_,rfl⟩
   rw [hpe,hLe] at HW
   rw [hSe,hpe,hLe] at hsysE
   rw [hSe,hpe] at hck ⊢
   rw [hLe] at hll ⊢
   have hLn:L.length≤800:=by omega
   clear hpe hLe hSe hll hl1 hl2
   have hcx:=circleX_ok (sysOk_of hck)
   have hcir:∀ (w4:World) (A4:Option Addr) (c4:Nat),Rd encBound 4 w4 A4 L.length c4 (L.map (boundOf (ptsM ps ps.length)))→_:=fun w4 A4 c4 h=>by
    rw [←hsysE] at h
    exact Circle_any (ps.length+1) A4 L.length c4 S w4 h hck
   have hSl:S.length=L.length:=(by rw [hsysE,List.length_map])
   rw [hSl] at hcx
   have HCIR:=Lib.hid hcir
   clear hcir hck hsysE hSl
   obtain ⟨X,hX⟩:∃ X,circleX (ps.length+1) S=X:=⟨_,rfl⟩
   obtain ⟨ok,hok⟩:∃ ok,circOk (ps.length+1) S=ok:=⟨_,rfl⟩
   rw [hX] at hcx HCIR ⊢
   rw [hok] at HCIR ⊢
   clear hX hok
   have hx60:=hcx.1
   have HCX:=Lib.hid hcx.2
   clear hcx
   go_enter Tryz.func15,Tryz.ntmps15
   go_wp2_with (first
    | (go_at_call 33;refine HW.out.mono ?_;rintro e w2 ⟨p,cs,rfl,hb2,_,hp⟩
       obtain ⟨o,rfl,hOr,Ab,cb,Al,cl,mb,rfl,y1,y2,y3,y4⟩:=hp rfl
       obtain ⟨w3,hw3⟩:∃ w3,w2.alloc (.cells #[.int .i64 (ps.length+1),.slice Ab L.length cb,.slice Al L.length cl,.map (some mb)] 87)=w3:=⟨_,rfl⟩
       have hs2:=HCIR.out w3 Ab cb (by rw [←hw3];exact (y1.rd (fun _=>rfl) (by omega)).alloc _)
       have hb23:Below w2.heap.size w2 w3:=(by rw [←hw3];exact (Below.refl _ w2).alloc (Nat.le_refl _) _)
       have hh3:w3.heap[w2.heap.size]? = some (.cells #[.int .i64 (ps.length+1),.slice Ab L.length cb,.slice Al L.length cl,.map (some mb)] 87 (0,0)):=(by rw [←hw3];exact heap_alloc_new w2 _)
       have hz3:w2.heap.size<w3.heap.size:=(by rw [←hw3];simp)
       have HS2:=Lib.hid hs2
       have HB2:=Lib.hid hb2
       have HB23:=Lib.hid hb23
       have HL:=Lib.hid ((y2.rd (fun _=>rfl) (by omega)).below hb23 (Nat.le_refl _))
       have HH3:=Lib.hid hh3
       have i0:w3.cell? ⟨w2.heap.size,0,none⟩=some (.int .i64 (ps.length+1)):=(by simp [World.cell?,hh3])
       have i1:w3.cell? ⟨w2.heap.size,1,none⟩=some (.slice Ab L.length cb):=(by simp [World.cell?,hh3])
       have HW3:=Lib.hid hw3
       clear hs2 y1 y2 y3 y4 hOr hp hb2 hb23 hh3)
    | (go_at_call 35;refine HS2.out.mono ?_;rintro e w4 ⟨A',c',rfl,hb3,hOX⟩
       have hh4:=(hb3.block _ hz3).trans HH3.out
       have i0:w4.cell? ⟨w2.heap.size,0,none⟩=some (.int .i64 (ps.length+1)):=(by simp [World.cell?,hh4])
       have i1:w4.cell? ⟨w2.heap.size,1,none⟩=some (.slice Ab L.length cb):=(by simp [World.cell?,hh4])
       have i2:w4.cell? ⟨w2.heap.size,2,none⟩=some (.slice Al L.length cl):=(by simp [World.cell?,hh4])
       have i3:w4.cell? ⟨w2.heap.size,3,none⟩=some (.map (some mb)):=(by simp [World.cell?,hh4])
       have HB3:=Lib.hid hb3
       have HSOME:=Lib.hid (some_years (ps.length+1) Ab L.length cb Al cl L (some mb) A' X.length c' X w4 (HL.out.below hb3 (Nat.le_refl _)) (hOX.rd (fun _=>rfl) (by omega)) (by omega) HCX.out)
       clear hb3 hOX hh4)
    | (go_at_call 36;((with_reducible refine HSOME.out.mono ?_);rintro e w5 ⟨A5,c5,rfl,hb5,hO5⟩)))
   go_ret3
   have hlen:(someL L X).length=X.length:=by unfold someL;rw [List.length_map]
   have hbz:=HB2.out.size
   have hbz3:=HB3.out.size
   refine ⟨A5,c5,by rw [hlen];rfl,((HB2.out.trans (HB23.out.mono hbz)).trans (HB3.out.mono (by omega))).trans (hb5.mono (by omega)),?_⟩
   rw [hlen]
   exact hO5.mono (by omega)
 · have hv:conflictV l known bs mv=([],false,withErr l known bs mv):=by unfold conflictV;rw [if_pos he]
   rw [hv]
   have he':(withErr l known bs mv != 0)=true:=by simpa using he
   go_enter Tryz.func15,Tryz.ntmps15
   go_wp2_with (first
    | (go_at_call 33;refine HW.out.mono ?_;rintro e w2 ⟨p,cs,rfl,hb2,hp,_⟩
       obtain ⟨rfl,rfl⟩:=hp he
       simp only [zeroYears]))
   go_ret3
   exact ⟨none,0,rfl,hb2.alloc hb2.size _,Own.none_ _ _ _ _ _⟩
theorem wpL_field120 {ops:Array Oper} {rest:List Oper} {o:Oper} {a:Act} {w:World} {Q:Exit→Act→World→Prop} {x:Operand} (ho:o.op = .field 87 x 0) (hgd:o.guard=none) {v0 v1 v2 v3:Value} (hx:a.eval x = .agg #[v0,v1,v2,v3])
 (h:wpList Tryz.prog ops Q rest (a.put o.dst (.agg #[v0,v1])) w):wpList Tryz.prog ops Q (o::rest) a w:=by
 refine wpList_plain hgd fun _ hK=> ?_
 unfold Oper.wp execOp
 simp only [ho,hx]
 go_simp
 exact hK _ _ h
theorem cheapest_any (B o:Nat) (bA:Option Addr) (bn bc:Nat) (bs:List Bond) (ts:List Trace) (ads:List Admit) (w:World) (hor:OrdAt B w o bA bn bc ts (placesOf ts bs) ads) (hb:Rd encBond 5 w bA bn bc bs) (hO:OkO ts bs) (hts:∀ x∈ts,okLT x)
 (h8:ads.length≤8) (hcost:∀ x∈ads,0≤x.cost∧x.cost≤1000) (hnd:(ads.map (·.place)).Nodup):
 Calls Tryz.prog 37 #[.pointer (some ⟨o,0,none⟩)] w fun e w'=> ∃ A' c',e = .returned (.tuple #[.int .i64 (cheapestM ads (enough ts bs)).1,.slice A' (cheapestM ads (enough ts bs)).2.length c'])∧Below w.heap.size w w'∧
  SetsAt w.heap.size w' A' c' (cheapestM ads (enough ts bs)).2:=by
 obtain ⟨ho,At,ct,Ap,cp,Aa,ca,hob,o1,o2,o3⟩:=hor
 have hol:=(Array.getElem?_eq_some_iff.1 hob).1
 have p3:w.cell? ⟨o,3,none⟩=some (.slice Aa ads.length ca):=(by simp [World.cell?,hob])
 have hpow:(2:Nat) ^ ads.length≤256:=Nat.pow_le_pow_right (by omega) h8
 have HOB:=Lib.hid hob
 have hck:=fun mv=>checkSys_years hO mv
 have HCK:=Lib.hid hck
 have HO:=Lib.hid hO
 have HTS:=Lib.hid hts
 have HT:=Lib.hid (o1.rd (fun _=>rfl) (by have:=hO.tn;omega))
 have HP:=Lib.hid (o2.rd (fun _=>rfl) (by have:=hO.pn;omega))
 have HA:=Lib.hid (o3.rd (fun _=>rfl) (by omega))
 have HB:=Lib.hid hb
 have HCO:=Lib.hid hcost
 have HND:=Lib.hid hnd
 clear hob hck hO hts o1 o2 o3 hb hcost hnd
 obtain ⟨na,hna⟩:∃ na,ads.length=na:=⟨_,rfl⟩
 rw [hna] at p3 h8 hpow HA
 have HNA:=Lib.hid hna
 clear hna
 obtain ⟨K,hK⟩:∃ K:Nat,2 ^ na=K:=⟨_,rfl⟩
 rw [hK] at hpow
 have hw64:wrap64 ((2:Int) ^ na)=(K:Int):=(by
  have h1:((2:Int) ^ na)=((2 ^ na:Nat):Int):=by simp
  rw [h1,hK]
  unfold wrap64
  omega)
 have HK:=Lib.hid hK
 clear hK
 go_enter Tryz.func37,Tryz.ntmps37
 go_wp2_with (fail)
 go_step3
 go_wp2_with (fail)
 go_step3
 go_wp2_with (fail)
 have HW64:=Lib.hid hw64
 clear p3 hw64
 go_loopw [4,5,19] (fun s4 s5 s19 wr=> ∃ (k:Nat) (z:Int) (A':Option Addr) (c':Nat) (sets:List (List Place)),k≤K∧s19 = .int .i64 k∧s4 = .int .i64 z∧s5 = .slice A' sets.length c'∧Hid (Below w.heap.size w wr)∧Hid (chpTo ads (enough ts bs) k=(z,sets))∧Hid (SetsAt w.heap.size wr A' c' sets)) (fun _ _ i _=>K-(intOf i).toNat)
 case atStart=>exact ⟨0,0,none,0,[],Nat.zero_le _,rfl,rfl,rfl,(show Below _ _ _ from Below.refl _ _),(show _=_ from rfl),(show SetsAt _ _ _ _ _ from SetsAt.none_ _ _)⟩
 case round=>
  obtain ⟨k,z,A',c',sets,hk,rfl,rfl,rfl,hbel,hst,hS⟩:=hrel
  by_cases hlt:k<K
  · have hbs:=hbel.out.size
    have hklt:(k:Int)<wrap64 ((2:Int) ^ na):=(by rw [HW64.out];omega)
    have hor:=(hbel.out.block _ hol).trans HOB.out
    have p3:wr.cell? ⟨o,3,none⟩=some (.slice Aa na ca):=(by simp [World.cell?,hor,HNA.out])
    have hr110:wr.rangeAt o 3 [.slice Aa na ca]:=(fun j v hv=>by
     match j with
     | 0=>simp at hv;rw [←hv];exact p3
     | j+1=>simp at hv)
    have HR110:=Lib.hid hr110
    clear hr110
    have hk256:k<256:=(by omega)
    have hset:=set_any Aa na ca ads k wr (HA.out.below hbel.out (Nat.le_refl _)) h8 hk256 HCO.out
    have hmvl:=setTo_len ads k na
    obtain ⟨⟨mv,cost⟩,hmv⟩:∃ q,setTo ads k na=q:=⟨_,rfl⟩
    rw [hmv] at hset hmvl
    simp only at hset hmvl
    have HSET:=Lib.hid hset
    have HMV:=Lib.hid hmv
    have hsl:sets.length≤256:=(by have:=chpTo_len ads (enough ts bs) k;rw [hst.out] at this;simp only at this;omega)
    clear hset hmv hor
    obtain ⟨en,hen⟩:∃ en,enough ts bs mv=en:=⟨_,rfl⟩
    have HEN:=Lib.hid hen
    clear hen
    by_cases hs0:sets = []
    · subst hs0
      cases en with
      | false=>
        go_wp2_with (first
         | (refine wpL_field120 rfl rfl rfl ?_)
         | (refine wpList_load_mid rfl 79 _ rfl o 3 rfl [.slice Aa na ca] _ HR110.out Tryz.underlying79 rfl (by kernel_rfl) ?_)
         | (go_at_call 66;(with_reducible refine HSET.out.mono ?_);rintro e w5 ⟨A1,c1,rfl,hb5,hO5⟩
            have hbw5:=hbel.out.trans (hb5.mono hbs)
            have hz5:=hb5.size
            have ho5:=(hbw5.block _ hol).trans HOB.out
            have hyr:=years_any o At ts.length ct bA bn bc Ap (placesOf ts bs).length cp A1 mv.length c1 ts bs (placesOf ts bs) mv w5 (by simp [World.cell?,ho5]) (by simp [World.cell?,ho5]) (by simp [World.cell?,ho5]) (HT.out.below hbw5 (Nat.le_refl _)) (HB.out.below hbw5 (Nat.le_refl _)) (HP.out.below hbw5 (Nat.le_refl _)) (hO5.rd (fun _=>rfl) (by omega)) HTS.out (by have:=HO.out.tn;omega) (by have:=HO.out.bn;have:=HB.out.len;omega)
            have HYR:=Lib.hid hyr
            have HB5:=Lib.hid hb5
            have HO5:=Lib.hid hO5
            have HBW5:=Lib.hid hbw5
            clear hyr hb5 hO5 hbw5 ho5)
         | (go_at_call 38;(with_reducible refine HYR.out.mono ?_);rintro e w6 ⟨Ab,cb,Al,cl,mb,rfl,hb6,y1,_,_,_⟩
            have hsv:=Solve_any ((placesOf ts bs).length+1) Ab (linksL ts bs mv).length cb (sysB ts bs mv) w6 (y1.rd (fun _=>rfl) (by have:=linksL_len ts bs mv;have:=HO.out.tn;have:=HO.out.bn;omega)) (HCK.out mv)
            rw [show solvedOk ((placesOf ts bs).length+1) (sysB ts bs mv)=_ from HEN.out] at hsv
            have HSV:=Lib.hid hsv
            have HB6:=Lib.hid hb6
            have hz6:=hb6.size
            clear hsv hb6 y1)
         | (go_at_call 34;(with_reducible refine HSV.out.mono ?_);rintro e w7 ⟨AX,cX,rfl,hb7,_⟩
            have HB7:=Lib.hid hb7
            have hz7:=hb7.size
            have HB57:=Lib.hid (HB6.out.trans (hb7.mono hz6))
            clear hb7))
        go_roundw
        all_goals first
         | (simp [intOf];omega)
         | exact ⟨k+1,z,A',c',[],by omega,by go_num,rfl,rfl,(show Below _ _ _ from HBW5.out.trans (HB57.out.mono (by omega))),(show _=_ by rw [chpTo,hst.out];simp only [chpStep,HNA.out,HMV.out];rw [if_neg (by simp),if_pos HEN.out]),(show SetsAt _ _ _ _ _ from (hS.out.grow HB5.out (Nat.le_refl _)).grow HB57.out (Nat.le_refl _))⟩
      | true=>
        go_wp2_with (first
         | (refine wpL_field120 rfl rfl rfl ?_)
         | (refine wpList_load_mid rfl 79 _ rfl o 3 rfl [.slice Aa na ca] _ HR110.out Tryz.underlying79 rfl (by kernel_rfl) ?_)
         | (go_at_call 66;(with_reducible refine HSET.out.mono ?_);rintro e w5 ⟨A1,c1,rfl,hb5,hO5⟩
            have hbw5:=hbel.out.trans (hb5.mono hbs)
            have hz5:=hb5.size
            have ho5:=(hbw5.block _ hol).trans HOB.out
            have hyr:=years_any o At ts.length ct bA bn bc Ap (placesOf ts bs).length cp A1 mv.length c1 ts bs (placesOf ts bs) mv w5 (by simp [World.cell?,ho5]) (by simp [World.cell?,ho5]) (by simp [World.cell?,ho5]) (HT.out.below hbw5 (Nat.le_refl _)) (HB.out.below hbw5 (Nat.le_refl _)) (HP.out.below hbw5 (Nat.le_refl _)) (hO5.rd (fun _=>rfl) (by omega)) HTS.out (by have:=HO.out.tn;omega) (by have:=HO.out.bn;have:=HB.out.len;omega)
            have HYR:=Lib.hid hyr
            have HB5:=Lib.hid hb5
            have HO5:=Lib.hid hO5
            have HBW5:=Lib.hid hbw5
            clear hyr hb5 hO5 hbw5 ho5)
         | (go_at_call 38;(with_reducible refine HYR.out.mono ?_);rintro e w6 ⟨Ab,cb,Al,cl,mb,rfl,hb6,y1,_,_,_⟩
            have hsv:=Solve_any ((placesOf ts bs).length+1) Ab (linksL ts bs mv).length cb (sysB ts bs mv) w6 (y1.rd (fun _=>rfl) (by have:=linksL_len ts bs mv;have:=HO.out.tn;have:=HO.out.bn;omega)) (HCK.out mv)
            rw [show solvedOk ((placesOf ts bs).length+1) (sysB ts bs mv)=_ from HEN.out] at hsv
            have HSV:=Lib.hid hsv
            have HB6:=Lib.hid hb6
            have hz6:=hb6.size
            clear hsv hb6 y1)
         | (go_at_call 34;(with_reducible refine HSV.out.mono ?_);rintro e w7 ⟨AX,cX,rfl,hb7,_⟩
            have HB7:=Lib.hid hb7
            have hz7:=hb7.size
            have HB57:=Lib.hid (HB6.out.trans (hb7.mono hz6))
            clear hb7)
         | (at_builtin
            have hown:Own encHdr 1 37 w.heap.size (w7.alloc (.cells #[hdrV ⟨A1,mv.length,c1⟩] 37)) A' 0 c' []:=(by obtain ⟨hs,h1,_⟩:=(hS.out.grow HB5.out (Nat.le_refl _)).grow HB57.out (Nat.le_refl _);have hx:hs = []:=List.eq_nil_of_length_eq_zero h1.len;subst hx;exact h1.alloc _)
            have hrd7:=Rd.single (enc:=encHdr) (k:=1) w7 #[hdrV ⟨A1,mv.length,c1⟩] 37 [⟨A1,mv.length,c1⟩] 1 rfl (by omega) (fun _=>rfl) (by simp [encHdr])
            refine wpList_append_src elSets (fun _=>rfl) oneHdr rfl _ _ rfl _ _ _ _ rfl rfl hown hrd7 (by omega) (by decide) (by simp;omega) ?_
            intro A2 c2 w8 hO8 hg8 hA8
            have HB8:=Lib.hid (((HBW5.out.trans (HB57.out.mono (by omega))).alloc (by omega) (.cells #[hdrV ⟨A1,mv.length,c1⟩] 37)).grown hg8 (by simp;omega) (fun j e=>hown.ltB j e))
            have HS8:=Lib.hid ((by have h9:=SetsAt.push (sets:=[]) (hs:=[]) (x:=⟨A1,mv.length,c1⟩) (s0:=mv) (fun i h s hi _=>by simp at hi) hown rfl (((HO5.out.below HB57.out (Nat.le_refl _)).mono hbs).alloc _) hg8 hO8;exact h9))
            clear hO8 hg8 hA8 hown hrd7))
        go_roundw
        all_goals first
         | (simp [intOf];omega)
         | exact ⟨k+1,cost,A2,c2,[mv],by omega,by go_num,rfl,rfl,(show Below _ _ _ from HB8.out),(show _=_ by rw [chpTo,hst.out];simp only [chpStep,HNA.out,HMV.out];rw [if_neg (by simp),if_neg (by rw [HEN.out];simp),if_neg (by simp)];rfl),HS8⟩
    · have hpos:0<sets.length:=List.length_pos_iff.2 hs0
      by_cases hzc:z<cost
      · go_wp2_with (first
         | (refine wpL_field120 rfl rfl rfl ?_)
         | (refine wpList_load_mid rfl 79 _ rfl o 3 rfl [.slice Aa na ca] _ HR110.out Tryz.underlying79 rfl (by kernel_rfl) ?_)
         | (go_at_call 66;(with_reducible refine HSET.out.mono ?_);rintro e w5 ⟨A1,c1,rfl,hb5,hO5⟩
            have hbw5:=hbel.out.trans (hb5.mono hbs)
            have hz5:=hb5.size
            have ho5:=(hbw5.block _ hol).trans HOB.out
            have hyr:=years_any o At ts.length ct bA bn bc Ap (placesOf ts bs).length cp A1 mv.length c1 ts bs (placesOf ts bs) mv w5 (by simp [World.cell?,ho5]) (by simp [World.cell?,ho5]) (by simp [World.cell?,ho5]) (HT.out.below hbw5 (Nat.le_refl _)) (HB.out.below hbw5 (Nat.le_refl _)) (HP.out.below hbw5 (Nat.le_refl _)) (hO5.rd (fun _=>rfl) (by omega)) HTS.out (by have:=HO.out.tn;omega) (by have:=HO.out.bn;have:=HB.out.len;omega)
            have HYR:=Lib.hid hyr
            have HB5:=Lib.hid hb5
            have HO5:=Lib.hid hO5
            have HBW5:=Lib.hid hbw5
            clear hyr hb5 hO5 hbw5 ho5)
         | (go_at_call 38;(with_reducible refine HYR.out.mono ?_);rintro e w6 ⟨Ab,cb,Al,cl,mb,rfl,hb6,y1,_,_,_⟩
            have hsv:=Solve_any ((placesOf ts bs).length+1) Ab (linksL ts bs mv).length cb (sysB ts bs mv) w6 (y1.rd (fun _=>rfl) (by have:=linksL_len ts bs mv;have:=HO.out.tn;have:=HO.out.bn;omega)) (HCK.out mv)
            rw [show solvedOk ((placesOf ts bs).length+1) (sysB ts bs mv)=_ from HEN.out] at hsv
            have HSV:=Lib.hid hsv
            have HB6:=Lib.hid hb6
            have hz6:=hb6.size
            clear hsv hb6 y1)
         | (go_at_call 34;(with_reducible refine HSV.out.mono ?_);rintro e w7 ⟨AX,cX,rfl,hb7,_⟩
            have HB7:=Lib.hid hb7
            have hz7:=hb7.size
            have HB57:=Lib.hid (HB6.out.trans (hb7.mono hz6))
            clear hb7))
        go_roundw
        all_goals first
         | (simp [intOf];omega)
         | exact ⟨k+1,z,A',c',sets,by omega,by go_num,rfl,rfl,(show Below _ _ _ from HBW5.out),(show _=_ by rw [chpTo,hst.out];simp only [chpStep,HNA.out,HMV.out];rw [if_pos ⟨hs0,hzc⟩]),(show SetsAt _ _ _ _ _ from hS.out.grow HB5.out (Nat.le_refl _))⟩
      · cases en with
        | false=>
          go_wp2_with (first
           | (refine wpL_field120 rfl rfl rfl ?_)
           | (refine wpList_load_mid rfl 79 _ rfl o 3 rfl [.slice Aa na ca] _ HR110.out Tryz.underlying79 rfl (by kernel_rfl) ?_)
           | (go_at_call 66;(with_reducible refine HSET.out.mono ?_);rintro e w5 ⟨A1,c1,rfl,hb5,hO5⟩
              have hbw5:=hbel.out.trans (hb5.mono hbs)
              have hz5:=hb5.size
              have ho5:=(hbw5.block _ hol).trans HOB.out
              have hyr:=years_any o At ts.length ct bA bn bc Ap (placesOf ts bs).length cp A1 mv.length c1 ts bs (placesOf ts bs) mv w5 (by simp [World.cell?,ho5]) (by simp [World.cell?,ho5]) (by simp [World.cell?,ho5]) (HT.out.below hbw5 (Nat.le_refl _)) (HB.out.below hbw5 (Nat.le_refl _)) (HP.out.below hbw5 (Nat.le_refl _)) (hO5.rd (fun _=>rfl) (by omega)) HTS.out (by have:=HO.out.tn;omega) (by have:=HO.out.bn;have:=HB.out.len;omega)
              have HYR:=Lib.hid hyr
              have HB5:=Lib.hid hb5
              have HO5:=Lib.hid hO5
              have HBW5:=Lib.hid hbw5
              clear hyr hb5 hO5 hbw5 ho5)
           | (go_at_call 38;(with_reducible refine HYR.out.mono ?_);rintro e w6 ⟨Ab,cb,Al,cl,mb,rfl,hb6,y1,_,_,_⟩
              have hsv:=Solve_any ((placesOf ts bs).length+1) Ab (linksL ts bs mv).length cb (sysB ts bs mv) w6 (y1.rd (fun _=>rfl) (by have:=linksL_len ts bs mv;have:=HO.out.tn;have:=HO.out.bn;omega)) (HCK.out mv)
              rw [show solvedOk ((placesOf ts bs).length+1) (sysB ts bs mv)=_ from HEN.out] at hsv
              have HSV:=Lib.hid hsv
              have HB6:=Lib.hid hb6
              have hz6:=hb6.size
              clear hsv hb6 y1)
           | (go_at_call 34;(with_reducible refine HSV.out.mono ?_);rintro e w7 ⟨AX,cX,rfl,hb7,_⟩
              have HB7:=Lib.hid hb7
              have hz7:=hb7.size
              have HB57:=Lib.hid (HB6.out.trans (hb7.mono hz6))
              clear hb7))
          go_roundw
          all_goals first
           | (simp [intOf];omega)
           | exact ⟨k+1,z,A',c',sets,by omega,by go_num,rfl,rfl,(show Below _ _ _ from HBW5.out.trans (HB57.out.mono (by omega))),(show _=_ by rw [chpTo,hst.out];simp only [chpStep,HNA.out,HMV.out];rw [if_neg (fun h=>absurd h.2 (by omega)),if_pos HEN.out]),(show SetsAt _ _ _ _ _ from (hS.out.grow HB5.out (Nat.le_refl _)).grow HB57.out (Nat.le_refl _))⟩
        | true=>
          by_cases hcz:cost<z
          · go_wp2_with (first
             | (refine wpL_field120 rfl rfl rfl ?_)
             | (refine wpList_load_mid rfl 79 _ rfl o 3 rfl [.slice Aa na ca] _ HR110.out Tryz.underlying79 rfl (by kernel_rfl) ?_)
             | (go_at_call 66;(with_reducible refine HSET.out.mono ?_);rintro e w5 ⟨A1,c1,rfl,hb5,hO5⟩
                have hbw5:=hbel.out.trans (hb5.mono hbs)
                have hz5:=hb5.size
                have ho5:=(hbw5.block _ hol).trans HOB.out
                have hyr:=years_any o At ts.length ct bA bn bc Ap (placesOf ts bs).length cp A1 mv.length c1 ts bs (placesOf ts bs) mv w5 (by simp [World.cell?,ho5]) (by simp [World.cell?,ho5]) (by simp [World.cell?,ho5]) (HT.out.below hbw5 (Nat.le_refl _)) (HB.out.below hbw5 (Nat.le_refl _)) (HP.out.below hbw5 (Nat.le_refl _)) (hO5.rd (fun _=>rfl) (by omega)) HTS.out (by have:=HO.out.tn;omega) (by have:=HO.out.bn;have:=HB.out.len;omega)
                have HYR:=Lib.hid hyr
                have HB5:=Lib.hid hb5
                have HO5:=Lib.hid hO5
                have HBW5:=Lib.hid hbw5
                clear hyr hb5 hO5 hbw5 ho5)
             | (go_at_call 38;(with_reducible refine HYR.out.mono ?_);rintro e w6 ⟨Ab,cb,Al,cl,mb,rfl,hb6,y1,_,_,_⟩
                have hsv:=Solve_any ((placesOf ts bs).length+1) Ab (linksL ts bs mv).length cb (sysB ts bs mv) w6 (y1.rd (fun _=>rfl) (by have:=linksL_len ts bs mv;have:=HO.out.tn;have:=HO.out.bn;omega)) (HCK.out mv)
                rw [show solvedOk ((placesOf ts bs).length+1) (sysB ts bs mv)=_ from HEN.out] at hsv
                have HSV:=Lib.hid hsv
                have HB6:=Lib.hid hb6
                have hz6:=hb6.size
                clear hsv hb6 y1)
             | (go_at_call 34;(with_reducible refine HSV.out.mono ?_);rintro e w7 ⟨AX,cX,rfl,hb7,_⟩
                have HB7:=Lib.hid hb7
                have hz7:=hb7.size
                have HB57:=Lib.hid (HB6.out.trans (hb7.mono hz6))
                clear hb7)
             | (at_builtin
                have hown:Own encHdr 1 37 w.heap.size (w7.alloc (.cells #[hdrV ⟨A1,mv.length,c1⟩] 37)) none 0 0 []:=Own.none_ _ _ _ _ _
                have hrd7:=Rd.single (enc:=encHdr) (k:=1) w7 #[hdrV ⟨A1,mv.length,c1⟩] 37 [⟨A1,mv.length,c1⟩] 1 rfl (by omega) (fun _=>rfl) (by simp [encHdr])
                refine wpList_append_src elSets (fun _=>rfl) oneHdr rfl _ _ rfl _ _ _ _ rfl rfl hown hrd7 (by omega) (by decide) (by simp;omega) ?_
                intro A2 c2 w8 hO8 hg8 hA8
                have HB8:=Lib.hid (((HBW5.out.trans (HB57.out.mono (by omega))).alloc (by omega) (.cells #[hdrV ⟨A1,mv.length,c1⟩] 37)).grown hg8 (by simp;omega) (fun j e=>hown.ltB j e))
                have HS8:=Lib.hid ((by have h9:=SetsAt.push (sets:=[]) (hs:=[]) (x:=⟨A1,mv.length,c1⟩) (s0:=mv) (fun i h s hi _=>by simp at hi) hown rfl (((HO5.out.below HB57.out (Nat.le_refl _)).mono hbs).alloc _) hg8 hO8;exact h9))
                clear hO8 hg8 hA8 hown hrd7))
            go_roundw
            all_goals first
             | (simp [intOf];omega)
             | exact ⟨k+1,cost,A2,c2,[mv],by omega,by go_num,rfl,rfl,(show Below _ _ _ from HB8.out),(show _=_ by rw [chpTo,hst.out];simp only [chpStep,HNA.out,HMV.out];rw [if_neg (fun h=>absurd h.2 (by omega)),if_neg (by rw [HEN.out];simp),if_pos ⟨hs0,hcz⟩];rfl),HS8⟩
          · go_wp2_with (first
             | (refine wpL_field120 rfl rfl rfl ?_)
             | (refine wpList_load_mid rfl 79 _ rfl o 3 rfl [.slice Aa na ca] _ HR110.out Tryz.underlying79 rfl (by kernel_rfl) ?_)
             | (go_at_call 66;(with_reducible refine HSET.out.mono ?_);rintro e w5 ⟨A1,c1,rfl,hb5,hO5⟩
                have hbw5:=hbel.out.trans (hb5.mono hbs)
                have hz5:=hb5.size
                have ho5:=(hbw5.block _ hol).trans HOB.out
                have hyr:=years_any o At ts.length ct bA bn bc Ap (placesOf ts bs).length cp A1 mv.length c1 ts bs (placesOf ts bs) mv w5 (by simp [World.cell?,ho5]) (by simp [World.cell?,ho5]) (by simp [World.cell?,ho5]) (HT.out.below hbw5 (Nat.le_refl _)) (HB.out.below hbw5 (Nat.le_refl _)) (HP.out.below hbw5 (Nat.le_refl _)) (hO5.rd (fun _=>rfl) (by omega)) HTS.out (by have:=HO.out.tn;omega) (by have:=HO.out.bn;have:=HB.out.len;omega)
                have HYR:=Lib.hid hyr
                have HB5:=Lib.hid hb5
                have HO5:=Lib.hid hO5
                have HBW5:=Lib.hid hbw5
                clear hyr hb5 hO5 hbw5 ho5)
             | (go_at_call 38;(with_reducible refine HYR.out.mono ?_);rintro e w6 ⟨Ab,cb,Al,cl,mb,rfl,hb6,y1,_,_,_⟩
                have hsv:=Solve_any ((placesOf ts bs).length+1) Ab (linksL ts bs mv).length cb (sysB ts bs mv) w6 (y1.rd (fun _=>rfl) (by have:=linksL_len ts bs mv;have:=HO.out.tn;have:=HO.out.bn;omega)) (HCK.out mv)
                rw [show solvedOk ((placesOf ts bs).length+1) (sysB ts bs mv)=_ from HEN.out] at hsv
                have HSV:=Lib.hid hsv
                have HB6:=Lib.hid hb6
                have hz6:=hb6.size
                clear hsv hb6 y1)
             | (go_at_call 34;(with_reducible refine HSV.out.mono ?_);rintro e w7 ⟨AX,cX,rfl,hb7,_⟩
                have HB7:=Lib.hid hb7
                have hz7:=hb7.size
                have HB57:=Lib.hid (HB6.out.trans (hb7.mono hz6))
                clear hb7)
             | (at_builtin
                obtain ⟨hs,h1,h2⟩:=(hS.out.grow HB5.out (Nat.le_refl _)).grow HB57.out (Nat.le_refl _)
                have hown:Own encHdr 1 37 w.heap.size (w7.alloc (.cells #[hdrV ⟨A1,mv.length,c1⟩] 37)) A' sets.length c' hs:=h1.alloc _
                have hrd7:=Rd.single (enc:=encHdr) (k:=1) w7 #[hdrV ⟨A1,mv.length,c1⟩] 37 [⟨A1,mv.length,c1⟩] 1 rfl (by omega) (fun _=>rfl) (by simp [encHdr])
                refine wpList_append_src elSets (fun _=>rfl) oneHdr rfl _ _ rfl _ _ _ _ rfl rfl hown hrd7 (by omega) (by decide) (by simp;omega) ?_
                intro A2 c2 w8 hO8 hg8 hA8
                have HB8:=Lib.hid (((HBW5.out.trans (HB57.out.mono (by omega))).alloc (by omega) (.cells #[hdrV ⟨A1,mv.length,c1⟩] 37)).grown hg8 (by simp;omega) (fun j e=>hown.ltB j e))
                have HS8:=Lib.hid ((show SetsAt w.heap.size w8 A2 c2 (sets ++ [mv]) from SetsAt.push (hs:=hs) (x:=⟨A1,mv.length,c1⟩) (s0:=mv) (fun i h s hi hs'=>⟨(h2 i h s hi hs').1,(h2 i h s hi hs').2.alloc _⟩) hown rfl (((HO5.out.below HB57.out (Nat.le_refl _)).mono hbs).alloc _) hg8 hO8))
                clear hO8 hg8 hA8 hown hrd7))
            go_roundw
            all_goals first
             | (simp [intOf];omega)
             | exact ⟨k+1,cost,A2,c2,sets ++ [mv],by omega,by go_num,rfl,by simp,(show Below _ _ _ from HB8.out),(show _=_ by rw [chpTo,hst.out];simp only [chpStep,HNA.out,HMV.out];rw [if_neg (fun h=>absurd h.2 (by omega)),if_neg (by rw [HEN.out];simp),if_neg (fun h=>absurd h.2 (by omega))]),HS8⟩
  · have hke:k=K:=by omega
    subst hke
    have hklt:wrap64 ((2:Int) ^ na)≤(k:Int):=(by rw [HW64.out];exact Int.le_refl _)
    have hsl:sets.length≤256:=(by have:=chpTo_len ads (enough ts bs) k;rw [hst.out] at this;simp only at this;omega)
    have hnod:=chpTo_nodup HND.out (by rw [HNA.out];exact h8) (enough ts bs) k (by rw [HNA.out,HK.out];exact Nat.le_refl _)
    have hfrom:=(chpInv ads (enough ts bs) k).from_
    rw [hst.out] at hnod hfrom
    have hsort:=hS.out.sort (by omega) hnod (fun s hs=>by
     obtain ⟨b,_,e,_⟩:=hfrom s hs
     have:=setTo_len ads b ads.length
     rw [e,HNA.out] at *;omega)
    have HSORT:=Lib.hid hsort
    clear hsort hnod hfrom
    go_wp2_with (go_at_call 67;((with_reducible refine HSORT.out.mono ?_);rintro e w9 ⟨rfl,hg9,hS9,hlt9⟩))
    rw [Exit.noGoto_ret]
    go_ret2
    have hfin:cheapestM ads (enough ts bs)=(z,sortLx sets):=(by unfold cheapestM;rw [HNA.out,HK.out,hst.out])
    rw [hfin]
    refine ⟨A',c',?_,hbel.out.grown hg9 hbel.out.size hlt9,hS9⟩
    rw [(sortLx_perm sets).length_eq];rfl
end Go.Proofs.YtejjplhknacoiaaGreatDoor
end

/- Contracts that the laws lean on: Law, Ope, StrLay, StrP, StrI. -/
import Derived.Test.YtpmkgmilfifkpaaGreatDoorDE01
import Derived.ReadAgain
import Derived.Deep.Slices
import Derived.Shelf.Strings.OnBuilder
import Derived.Shelf.Strconv.Itoa3
import Derived.Shelf.Strings.Split
import Derived.Shelf.Strconv.AtoiAll
import Derived.Test.YtpmkgmilfifkpaaGreatDoorChecked
set_option maxRecDepth 100000
section
namespace Go.Proofs.YtpmkgmilfifkpaaGreatDoor
open Go.RowKit Go.WideShapes Go.ChangeShapes
theorem law_kept {H:Type} {enc:TypeId×Value→H} {P:Program} {f:Func} {s:ChangeSpec} {apart fresh handsOn again:Bool} {W W':World} {args:Array Value} {v:Value} {ds gs:List (DataW H)} {before pa pv:List MemPlace}
 (hW:DataW.Whole enc P f.params.toList s.vars apart W args.toList ds gs before) (hb:Below W.heap.size W W') (hps:before=pa++pv)
 (hres:∀ (b:Nat) (sp:Nat→Bool) (hd:Bool),DataW.TrodAll enc P W' b sp hd f.resultTypes.toList (v.resultList f.resultTypes.size) (s.fn H (ds++gs)).results [])
 (hargs:∀ sp:Nat→Bool,(∀ p∈before,sp p.block=true)→DataW.TrodAll enc P W' 0 sp true f.params.toList args.toList (s.fn H (ds++gs)).args pa)
 (hvars:∀ sp:Nat→Bool,(∀ p∈before,sp p.block=true)→DataW.TrodVars enc P W' sp s.vars (s.fn H (ds++gs)).vars pv)
 (hok:∀ (j:Nat) (t:TypeId) (r:Value),f.resultTypes[j]? = some t→(v.resultList f.resultTypes.size)[j]? = some r→Value.okWide P W' .any 0 t r):
 s.post enc P f apart fresh handsOn again W args v W':=by
 have old:∀ p∈before,p.block<W.heap.size:=fun p hp=>hW.lt p hp
 have mem:∀ p,p∈before↔p∈pa++pv:=fun p=>by rw [hps]
 have full:∀ p∈before,(fun _:Nat=>true) p.block=true:=fun _ _=>rfl
 have some_:∀ p∈before,(fun b=>decide (b<W.heap.size)) p.block=true:=fun p hp=>decide_eq_true (old p hp)
 obtain ⟨k1,k2,k3,k4,k5,hz,hn⟩:=id hW
 refine ⟨ds,gs,before,[],pa,pv,hW,hres _ _ _,hargs _ some_,hvars _ some_,World.keptBut_mono (fun p hp=>⟨hp,.inr ((mem p).1 hp |> List.mem_append.1)⟩) (hb.frame (· ∈ before)),fun _=>⟨hok,_,_,([]++pa)++pv,⟨[]++pa,pv,trodAll_append (hargs _ full) (hres _ _ _),hvars _ full,rfl,fun b off hp=> ?_,fun ha=> ?_⟩,fun p hp _=> ?_⟩⟩
 · have hin:MemPlace.cell b off∈before:=(mem _).2 (by simpa using hp)
   exact (hb.frozen (old _ hin)).trans (hz b off hin)
 · have h:=hn ha
   rw [hps] at h
   simpa using h
 · exact (mem p).2 (by simpa using hp)
open Go.Proofs Go.Deep
theorem kidsP:Kids Tryz.prog (· < Tryz.prog.types.size):=kids_rows (by kernel_rfl) (by kernel_rfl)
theorem fullP:∀ t e,t<Tryz.prog.types.size→Tryz.prog.underlying t=some (.slice e)→0<Tryz.prog.cellsOf e:=slices_full_of Tryz.prog (by kernel_rfl)
section
variable {H:Type} {enc:TypeId×Value→H} {w W W':World} {base:Nat} {spare:Nat→Bool} {held:Bool}
theorem trodAll_carry (hs:∀ p:MemPlace,p.block<W.heap.size→W.sameAt W' p) {sp:Nat→Bool} :∀ {ts:List TypeId} {vs:List Value} {ds:List (DataW H)} {ps:List MemPlace},DataW.TrodAll enc Tryz.prog W base sp held ts vs ds ps→DataW.TrodAll enc Tryz.prog W' base sp held ts vs ds ps
 | [],[],[],_,h=>h
 | t::ts,v::vs,d::ds,_,⟨p,q,h1,h2,e⟩=>by
   have hlt:=DataW.TrodAll.lt (ts:=[t]) (vs:=[v]) (ds:=[d]) (trodAll_mk1 h1)
   obtain ⟨n,hn⟩:=h1
   exact ⟨p,q,⟨n,DataW.trod_carry n _ _ _ hn fun x hx=>hs x (hlt x hx)⟩,trodAll_carry hs h2,e⟩
theorem args_kept {ts:List TypeId} {vs:List Value} {ds:List (DataW H)} {ps:List MemPlace} (hA:DataW.TrodAll enc Tryz.prog W 0 (fun _=>true) true ts vs ds ps) (hb:Below W.heap.size W W') (hT:∀ t∈ts,t<Tryz.prog.types.size) (sp:Nat→Bool) (hsp:∀ p∈ps,sp p.block=true):
 DataW.TrodAll enc Tryz.prog W' 0 sp true ts vs ds ps:=
 DataW.TrodAll.respare kidsP fullP hT (trodAll_carry (fun _ h=>hb.same h) hA) hsp
theorem field_read {P:Program} {fs:Array Field} {xs:List (DataW H×List MemPlace)} {n:Nat} {cs:List Value} (hf:∀ (i:Nat) (f:Field),fs[i]? = some f→DataW.trod enc P w base spare held n f.type ((cs.drop f.offset).take (P.cellsOf f.type))=xs[i]?) (hl:xs.length=fs.size)
 (i:Nat) {f:Field} (hi:fs[i]? = some f) (t o k:Nat) (ht:f.type=t) (ho:f.offset=o) (hk:P.cellsOf t=k):∃ y,DataW.trod enc P w base spare held n t ((cs.drop o).take k)=some y:=by
 subst ht
 subst ho
 subst hk
 have h:=hf i f hi
 have hlt:=(Array.getElem?_eq_some_iff.1 hi).1
 rw [List.getElem?_eq_getElem (by omega)] at h
 exact ⟨_,h⟩
theorem one_int {P:Program} {t:TypeId} {k:IntKind} {fuel:Nat} {v:Value} {x:DataW H×List MemPlace} (ht:P.underlying t=some (.int k)) (h:DataW.trod enc P w base spare held fuel t [v]=some x):∃ n,v = .int k n∧(Lit.int k n).wf=true:=by
 obtain ⟨n,hn,_,hw⟩:=DataW.trod_int ht h
 cases hn
 exact ⟨n,rfl,hw⟩
theorem cellsInt:Tryz.prog.cellsOf 3=1:=by kernel_rfl
theorem cellsSt:Tryz.prog.cellsOf 23=2:=by kernel_rfl
theorem decStretch {fuel:Nat} {cs:List Value} {x:DataW H×List MemPlace} (h:DataW.trod enc Tryz.prog w base spare held fuel 23 cs=some x):∃ y:Stretch,cs = [.int .i64 y.lo,.int .i64 y.hi]:=by
 obtain ⟨xs,m,_,_,hl,hxl,hf⟩:=DataW.trod_struct Tryz.underlying23 h
 rw [cellsSt] at hl
 match cs,hl with
 | [c0,c1],_=>
   obtain ⟨y0,g0⟩:=field_read hf hxl 0 rfl 3 0 1 rfl rfl cellsInt
   obtain ⟨y1,g1⟩:=field_read hf hxl 1 rfl 3 1 1 rfl rfl cellsInt
   simp only [List.drop_zero,List.drop_succ_cons,List.take_succ_cons,List.take_zero] at g0 g1
   obtain ⟨a0,rfl,_⟩:=one_int Tryz.underlying3 g0
   obtain ⟨a1,rfl,_⟩:=one_int Tryz.underlying3 g1
   exact ⟨⟨a0,a1⟩,rfl⟩
theorem decPairing {fuel:Nat} {cs:List Value} {x:DataW H×List MemPlace} (h:DataW.trod enc Tryz.prog w base spare held fuel 25 cs=some x):∃ y:Pairing,cs = [.int .i64 y.a.lo,.int .i64 y.a.hi,.int .i64 y.b.lo,.int .i64 y.b.hi]:=by
 obtain ⟨xs,m,_,_,hl,hxl,hf⟩:=DataW.trod_struct Tryz.underlying25 h
 rw [show Tryz.prog.cellsOf 25=4 by kernel_rfl] at hl
 match cs,hl with
 | [c0,c1,c2,c3],_=>
   obtain ⟨y0,g0⟩:=field_read hf hxl 0 rfl 23 0 2 rfl rfl cellsSt
   obtain ⟨y1,g1⟩:=field_read hf hxl 1 rfl 23 2 2 rfl rfl cellsSt
   simp only [List.drop_zero,List.drop_succ_cons,List.take_succ_cons,List.take_zero] at g0 g1
   obtain ⟨a,ha⟩:=decStretch g0
   obtain ⟨b,hb⟩:=decStretch g1
   cases ha
   cases hb
   exact ⟨⟨a,b⟩,rfl⟩
end
end Go.Proofs.YtpmkgmilfifkpaaGreatDoor
end
section
namespace Go.Proofs
open Go.Shelf
def Tryz.joinS_ren:Go.Shelf.Ren:=⟨fun|156=>23|165=>52|166=>53|169=>54|240=>82|241=>83|276=>124|277=>125|n=>n,fun|31=>64|9=>9|3=>3|4=>4|0=>0|20=>20|72=>111|76=>72|70=>108|37=>109|75=>71|127=>138|164=>192|5=>5|80=>113|n=>n,fun|n=>n⟩
theorem Tryz.joinS:Go.Proofs.Lays.n156 Tryz.prog Tryz.joinS_ren:={
 mixed:=by kernel_rfl
 f156:=Tryz.func23.trans (congrArg some (by kernel_rfl))
 f165:=Tryz.func52.trans (congrArg some (by kernel_rfl))
 f166:=Tryz.func53.trans (congrArg some (by kernel_rfl))
 f169:=Tryz.func54.trans (congrArg some (by kernel_rfl))
 f240:=Tryz.func82.trans (congrArg some (by kernel_rfl))
 f241:=Tryz.func83.trans (congrArg some (by kernel_rfl))
 f276:=Tryz.func124.trans (congrArg some (by kernel_rfl))
 f277:=Tryz.func125.trans (congrArg some (by kernel_rfl))
 t0:=Tryz.underlying0
 a0:=Tryz.isAgg0
 z0:=Tryz.sizeOf0
 v0:=Tryz.zeroValue0
 t3:=Tryz.underlying3
 a3:=Tryz.isAgg3
 z3:=Tryz.sizeOf3
 v3:=Tryz.zeroValue3
 t4:=Tryz.underlying4
 a4:=Tryz.isAgg4
 z4:=Tryz.sizeOf4
 v4:=Tryz.zeroValue4
 t9:=Tryz.underlying9
 a9:=Tryz.isAgg9
 z9:=Tryz.sizeOf9
 v9:=Tryz.zeroValue9
 t20:=Tryz.underlying20
 a20:=Tryz.isAgg20
 z20:=Tryz.sizeOf20
 v20:=Tryz.zeroValue20
 t31:=Tryz.underlying64
 a31:=Tryz.isAgg64
 z31:=Tryz.sizeOf64
 v31:=Tryz.zeroValue64
 t37:=Tryz.underlying109
 a37:=Tryz.isAgg109
 z37:=Tryz.sizeOf109
 v37:=Tryz.zeroValue109
 t70:=Tryz.underlying108
 a70:=Tryz.isAgg108
 z70:=Tryz.sizeOf108
 v70:=Tryz.zeroValue108
 t72:=Tryz.underlying111
 a72:=Tryz.isAgg111
 z72:=Tryz.sizeOf111
 v72:=Tryz.zeroValue111
 t75:=Tryz.underlying71
 a75:=Tryz.isAgg71
 z75:=Tryz.sizeOf71
 v75:=Tryz.zeroValue71
 t76:=Tryz.underlying72
 a76:=Tryz.isAgg72
 z76:=Tryz.sizeOf72
 v76:=Tryz.zeroValue72
 t127:=Tryz.underlying138
 a127:=Tryz.isAgg138
 z127:=Tryz.sizeOf138
 v127:=Tryz.zeroValue138
 t164:=Tryz.underlying192
 a164:=Tryz.isAgg192
 z164:=Tryz.sizeOf192
 v164:=Tryz.zeroValue192 }
theorem Tryz.joinX:Builder.Extra Tryz.prog Tryz.joinS_ren:={
 sizeBuilder:=by kernel_rfl
 liesBuilder:=by kernel_rfl
 t5:=Tryz.underlying5
 a5:=Tryz.isAgg5
 z5:=Tryz.sizeOf5
 v5:=Tryz.zeroValue5
 infoByte:=by kernel_rfl
 cellsByte:=by kernel_rfl
 sizeByte:=by kernel_rfl
 neB5:=by decide }
def Tryz.itoaS_ren:Go.Shelf.Ren:=⟨fun|171=>22|243=>51|246=>81|283=>120|284=>121|285=>122|286=>123|129=>108|317=>146|318=>147|319=>148|320=>149|337=>162|338=>163|n=>n,fun|3=>3|9=>9|2=>2|4=>4|171=>188|0=>0|53=>166|37=>109|5=>5|173=>190|212=>221|51=>164|20=>20|213=>222|46=>126|232=>249|233=>250|n=>n,fun|17=>2|18=>6|19=>7|n=>n⟩
theorem Tryz.itoaS:Go.Proofs.Lays.n171 Tryz.prog Tryz.itoaS_ren:={
 mixed:=by kernel_rfl
 f129:=Tryz.func108.trans (congrArg some (by kernel_rfl))
 f171:=Tryz.func22.trans (congrArg some (by kernel_rfl))
 f243:=Tryz.func51.trans (congrArg some (by kernel_rfl))
 f246:=Tryz.func81.trans (congrArg some (by kernel_rfl))
 f283:=Tryz.func120.trans (congrArg some (by kernel_rfl))
 f284:=Tryz.func121.trans (congrArg some (by kernel_rfl))
 f285:=Tryz.func122.trans (congrArg some (by kernel_rfl))
 f286:=Tryz.func123.trans (congrArg some (by kernel_rfl))
 f317:=Tryz.func146.trans (congrArg some (by kernel_rfl))
 f318:=Tryz.func147.trans (congrArg some (by kernel_rfl))
 f319:=Tryz.func148.trans (congrArg some (by kernel_rfl))
 f320:=Tryz.func149.trans (congrArg some (by kernel_rfl))
 f337:=Tryz.func162.trans (congrArg some (by kernel_rfl))
 f338:=Tryz.func163.trans (congrArg some (by kernel_rfl))
 t0:=Tryz.underlying0
 a0:=Tryz.isAgg0
 z0:=Tryz.sizeOf0
 v0:=Tryz.zeroValue0
 t2:=Tryz.underlying2
 a2:=Tryz.isAgg2
 z2:=Tryz.sizeOf2
 v2:=Tryz.zeroValue2
 t3:=Tryz.underlying3
 a3:=Tryz.isAgg3
 z3:=Tryz.sizeOf3
 v3:=Tryz.zeroValue3
 t4:=Tryz.underlying4
 a4:=Tryz.isAgg4
 z4:=Tryz.sizeOf4
 v4:=Tryz.zeroValue4
 t5:=Tryz.underlying5
 a5:=Tryz.isAgg5
 z5:=Tryz.sizeOf5
 v5:=Tryz.zeroValue5
 t9:=Tryz.underlying9
 a9:=Tryz.isAgg9
 z9:=Tryz.sizeOf9
 v9:=Tryz.zeroValue9
 t20:=Tryz.underlying20
 a20:=Tryz.isAgg20
 z20:=Tryz.sizeOf20
 v20:=Tryz.zeroValue20
 t37:=Tryz.underlying109
 a37:=Tryz.isAgg109
 z37:=Tryz.sizeOf109
 v37:=Tryz.zeroValue109
 t46:=Tryz.underlying126
 a46:=Tryz.isAgg126
 z46:=Tryz.sizeOf126
 v46:=Tryz.zeroValue126
 t51:=Tryz.underlying164
 a51:=Tryz.isAgg164
 z51:=Tryz.sizeOf164
 v51:=Tryz.zeroValue164
 t53:=Tryz.underlying166
 a53:=Tryz.isAgg166
 z53:=Tryz.sizeOf166
 v53:=Tryz.zeroValue166
 t171:=Tryz.underlying188
 a171:=Tryz.isAgg188
 z171:=Tryz.sizeOf188
 v171:=Tryz.zeroValue188
 t173:=Tryz.underlying190
 a173:=Tryz.isAgg190
 z173:=Tryz.sizeOf190
 v173:=Tryz.zeroValue190
 t212:=Tryz.underlying221
 a212:=Tryz.isAgg221
 z212:=Tryz.sizeOf221
 v212:=Tryz.zeroValue221
 t213:=Tryz.underlying222
 a213:=Tryz.isAgg222
 z213:=Tryz.sizeOf222
 t232:=Tryz.underlying249
 a232:=Tryz.isAgg249
 z232:=Tryz.sizeOf249
 v232:=Tryz.zeroValue249
 t233:=Tryz.underlying250
 a233:=Tryz.isAgg250
 z233:=Tryz.sizeOf250
 v233:=Tryz.zeroValue250
 g17:=by kernel_rfl
 g18:=by kernel_rfl
 g19:=by kernel_rfl }
def Tryz.splitS_ren:Go.Shelf.Ren:=⟨fun|146=>26|221=>55|268=>84|138=>85|143=>86|195=>126|197=>127|218=>128|219=>129|260=>150|217=>151|225=>152|224=>153|267=>154|266=>164|314=>165|n=>n,fun|9=>9|31=>64|3=>3|4=>4|0=>0|105=>196|21=>21|5=>5|46=>126|119=>236|139=>239|138=>238|146=>240|51=>164|n=>n,fun|1=>3|3=>4|4=>5|n=>n⟩
theorem Tryz.splitS:Go.Proofs.Lays.n146 Tryz.prog Tryz.splitS_ren:={
 mixed:=by kernel_rfl
 f138:=Tryz.func85.trans (congrArg some (by kernel_rfl))
 f143:=Tryz.func86.trans (congrArg some (by kernel_rfl))
 f146:=Tryz.func26.trans (congrArg some (by kernel_rfl))
 f195:=Tryz.func126.trans (congrArg some (by kernel_rfl))
 f197:=Tryz.func127.trans (congrArg some (by kernel_rfl))
 f217:=Tryz.func151.trans (congrArg some (by kernel_rfl))
 f218:=Tryz.func128.trans (congrArg some (by kernel_rfl))
 f219:=Tryz.func129.trans (congrArg some (by kernel_rfl))
 f221:=Tryz.func55.trans (congrArg some (by kernel_rfl))
 f224:=Tryz.func153.trans (congrArg some (by kernel_rfl))
 f225:=Tryz.func152.trans (congrArg some (by kernel_rfl))
 f260:=Tryz.func150.trans (congrArg some (by kernel_rfl))
 f266:=Tryz.func164.trans (congrArg some (by kernel_rfl))
 f267:=Tryz.func154.trans (congrArg some (by kernel_rfl))
 f268:=Tryz.func84.trans (congrArg some (by kernel_rfl))
 f314:=Tryz.func165.trans (congrArg some (by kernel_rfl))
 t0:=Tryz.underlying0
 a0:=Tryz.isAgg0
 z0:=Tryz.sizeOf0
 v0:=Tryz.zeroValue0
 t3:=Tryz.underlying3
 a3:=Tryz.isAgg3
 z3:=Tryz.sizeOf3
 v3:=Tryz.zeroValue3
 t4:=Tryz.underlying4
 a4:=Tryz.isAgg4
 z4:=Tryz.sizeOf4
 v4:=Tryz.zeroValue4
 t5:=Tryz.underlying5
 a5:=Tryz.isAgg5
 z5:=Tryz.sizeOf5
 v5:=Tryz.zeroValue5
 t9:=Tryz.underlying9
 a9:=Tryz.isAgg9
 z9:=Tryz.sizeOf9
 v9:=Tryz.zeroValue9
 t21:=Tryz.underlying21
 a21:=Tryz.isAgg21
 z21:=Tryz.sizeOf21
 v21:=Tryz.zeroValue21
 t31:=Tryz.underlying64
 a31:=Tryz.isAgg64
 z31:=Tryz.sizeOf64
 v31:=Tryz.zeroValue64
 t46:=Tryz.underlying126
 a46:=Tryz.isAgg126
 z46:=Tryz.sizeOf126
 v46:=Tryz.zeroValue126
 t51:=Tryz.underlying164
 a51:=Tryz.isAgg164
 z51:=Tryz.sizeOf164
 v51:=Tryz.zeroValue164
 t105:=Tryz.underlying196
 a105:=Tryz.isAgg196
 z105:=Tryz.sizeOf196
 v105:=Tryz.zeroValue196
 t119:=Tryz.underlying236
 a119:=Tryz.isAgg236
 z119:=Tryz.sizeOf236
 t138:=Tryz.underlying238
 a138:=Tryz.isAgg238
 z138:=Tryz.sizeOf238
 v138:=Tryz.zeroValue238
 t139:=Tryz.underlying239
 a139:=Tryz.isAgg239
 z139:=Tryz.sizeOf239
 v139:=Tryz.zeroValue239
 t146:=Tryz.underlying240
 a146:=Tryz.isAgg240
 z146:=Tryz.sizeOf240
 v146:=Tryz.zeroValue240
 g1:=by kernel_rfl
 g3:=by kernel_rfl
 g4:=by kernel_rfl }
def Tryz.atoiS_ren:Go.Shelf.Ren:=⟨fun|172=>27|244=>56|245=>57|247=>87|279=>88|280=>89|281=>90|282=>91|287=>130|316=>131|171=>22|205=>132|321=>155|322=>156|243=>51|246=>81|283=>120|284=>121|285=>122|286=>123|129=>108|317=>146|318=>147|319=>148|320=>149|337=>162|338=>163|n=>n,fun|9=>9|3=>3|75=>71|76=>72|4=>4|5=>5|167=>141|37=>109|0=>0|85=>142|2=>2|168=>144|53=>166|175=>199|46=>126|210=>203|127=>138|145=>227|143=>225|21=>21|171=>188|173=>190|212=>221|51=>164|20=>20|213=>222|232=>249|233=>250|80=>113|n=>n,fun|15=>0|16=>1|17=>2|18=>6|19=>7|n=>n⟩
theorem Tryz.atoiS:Go.Proofs.LaysC.n172 Tryz.prog Tryz.atoiS_ren:={
 mixed:=by kernel_rfl
 f129:=Tryz.func108.trans (congrArg some (by kernel_rfl))
 f171:=Tryz.func22.trans (congrArg some (by kernel_rfl))
 f172:=Tryz.func27.trans (congrArg some (by kernel_rfl))
 f205:=Tryz.func132.trans (congrArg some (by kernel_rfl))
 f243:=Tryz.func51.trans (congrArg some (by kernel_rfl))
 f244:=Tryz.func56.trans (congrArg some (by kernel_rfl))
 f245:=Tryz.func57.trans (congrArg some (by kernel_rfl))
 f246:=Tryz.func81.trans (congrArg some (by kernel_rfl))
 f247:=Tryz.func87.trans (congrArg some (by kernel_rfl))
 f279:=Tryz.func88.trans (congrArg some (by kernel_rfl))
 f280:=Tryz.func89.trans (congrArg some (by kernel_rfl))
 f281:=Tryz.func90.trans (congrArg some (by kernel_rfl))
 f282:=Tryz.func91.trans (congrArg some (by kernel_rfl))
 f283:=Tryz.func120.trans (congrArg some (by kernel_rfl))
 f284:=Tryz.func121.trans (congrArg some (by kernel_rfl))
 f285:=Tryz.func122.trans (congrArg some (by kernel_rfl))
 f286:=Tryz.func123.trans (congrArg some (by kernel_rfl))
 f287:=Tryz.func130.trans (congrArg some (by kernel_rfl))
 f316:=Tryz.func131.trans (congrArg some (by kernel_rfl))
 f317:=Tryz.func146.trans (congrArg some (by kernel_rfl))
 f318:=Tryz.func147.trans (congrArg some (by kernel_rfl))
 f319:=Tryz.func148.trans (congrArg some (by kernel_rfl))
 f320:=Tryz.func149.trans (congrArg some (by kernel_rfl))
 f321:=Tryz.func155.trans (congrArg some (by kernel_rfl))
 f322:=Tryz.func156.trans (congrArg some (by kernel_rfl))
 f337:=Tryz.func162.trans (congrArg some (by kernel_rfl))
 f338:=Tryz.func163.trans (congrArg some (by kernel_rfl))
 t0:=Tryz.underlying0
 a0:=Tryz.isAgg0
 z0:=Tryz.sizeOf0
 v0:=Tryz.zeroValue0
 t2:=Tryz.underlying2
 a2:=Tryz.isAgg2
 z2:=Tryz.sizeOf2
 v2:=Tryz.zeroValue2
 t3:=Tryz.underlying3
 a3:=Tryz.isAgg3
 z3:=Tryz.sizeOf3
 v3:=Tryz.zeroValue3
 t4:=Tryz.underlying4
 a4:=Tryz.isAgg4
 z4:=Tryz.sizeOf4
 v4:=Tryz.zeroValue4
 t5:=Tryz.underlying5
 a5:=Tryz.isAgg5
 z5:=Tryz.sizeOf5
 v5:=Tryz.zeroValue5
 t9:=Tryz.underlying9
 a9:=Tryz.isAgg9
 z9:=Tryz.sizeOf9
 v9:=Tryz.zeroValue9
 t20:=Tryz.underlying20
 a20:=Tryz.isAgg20
 z20:=Tryz.sizeOf20
 v20:=Tryz.zeroValue20
 t21:=Tryz.underlying21
 a21:=Tryz.isAgg21
 z21:=Tryz.sizeOf21
 v21:=Tryz.zeroValue21
 t37:=Tryz.underlying109
 a37:=Tryz.isAgg109
 z37:=Tryz.sizeOf109
 v37:=Tryz.zeroValue109
 t46:=Tryz.underlying126
 a46:=Tryz.isAgg126
 z46:=Tryz.sizeOf126
 v46:=Tryz.zeroValue126
 t51:=Tryz.underlying164
 a51:=Tryz.isAgg164
 z51:=Tryz.sizeOf164
 v51:=Tryz.zeroValue164
 t53:=Tryz.underlying166
 a53:=Tryz.isAgg166
 z53:=Tryz.sizeOf166
 v53:=Tryz.zeroValue166
 t75:=Tryz.underlying71
 a75:=Tryz.isAgg71
 z75:=Tryz.sizeOf71
 v75:=Tryz.zeroValue71
 t76:=Tryz.underlying72
 a76:=Tryz.isAgg72
 z76:=Tryz.sizeOf72
 v76:=Tryz.zeroValue72
 t85:=Tryz.underlying142
 a85:=Tryz.isAgg142
 z85:=Tryz.sizeOf142
 v85:=Tryz.zeroValue142
 t127:=Tryz.underlying138
 a127:=Tryz.isAgg138
 z127:=Tryz.sizeOf138
 v127:=Tryz.zeroValue138
 t143:=Tryz.underlying225
 a143:=Tryz.isAgg225
 z143:=Tryz.sizeOf225
 v143:=Tryz.zeroValue225
 t145:=Tryz.underlying227
 a145:=Tryz.isAgg227
 z145:=Tryz.sizeOf227
 v145:=Tryz.zeroValue227
 t167:=Tryz.underlying141
 a167:=Tryz.isAgg141
 z167:=Tryz.sizeOf141
 v167:=Tryz.zeroValue141
 t168:=Tryz.underlying144
 a168:=Tryz.isAgg144
 z168:=Tryz.sizeOf144
 v168:=Tryz.zeroValue144
 t171:=Tryz.underlying188
 a171:=Tryz.isAgg188
 z171:=Tryz.sizeOf188
 v171:=Tryz.zeroValue188
 t173:=Tryz.underlying190
 a173:=Tryz.isAgg190
 z173:=Tryz.sizeOf190
 v173:=Tryz.zeroValue190
 t175:=Tryz.underlying199
 a175:=Tryz.isAgg199
 z175:=Tryz.sizeOf199
 v175:=Tryz.zeroValue199
 t210:=Tryz.underlying203
 a210:=Tryz.isAgg203
 z210:=Tryz.sizeOf203
 v210:=Tryz.zeroValue203
 t212:=Tryz.underlying221
 a212:=Tryz.isAgg221
 z212:=Tryz.sizeOf221
 v212:=Tryz.zeroValue221
 t213:=Tryz.underlying222
 a213:=Tryz.isAgg222
 z213:=Tryz.sizeOf222
 t232:=Tryz.underlying249
 a232:=Tryz.isAgg249
 z232:=Tryz.sizeOf249
 v232:=Tryz.zeroValue249
 t233:=Tryz.underlying250
 a233:=Tryz.isAgg250
 z233:=Tryz.sizeOf250
 v233:=Tryz.zeroValue250
 g15:=by kernel_rfl
 g16:=by kernel_rfl
 g17:=by kernel_rfl
 g18:=by kernel_rfl
 g19:=by kernel_rfl
 t80:=Tryz.underlying113
 a80:=Tryz.isAgg113
 z80:=Tryz.sizeOf113
 v80:=Tryz.zeroValue113
 i0:=by kernel_rfl
 i2:=by kernel_rfl
 i3:=by kernel_rfl
 i4:=by kernel_rfl
 i5:=by kernel_rfl
 i9:=by kernel_rfl
 i20:=by kernel_rfl
 i21:=by kernel_rfl
 i37:=by kernel_rfl
 i46:=by kernel_rfl
 i51:=by kernel_rfl
 i53:=by kernel_rfl
 i75:=by kernel_rfl
 i76:=by kernel_rfl
 i80:=by kernel_rfl
 i85:=by kernel_rfl
 i127:=by kernel_rfl
 i143:=by kernel_rfl
 i145:=by kernel_rfl
 i167:=by kernel_rfl
 i168:=by kernel_rfl
 i171:=by kernel_rfl
 i173:=by kernel_rfl
 i175:=by kernel_rfl
 i210:=by kernel_rfl
 i212:=by kernel_rfl
 i232:=by kernel_rfl
 i233:=by kernel_rfl
 m15:=by kernel_rfl
 m16:=by kernel_rfl
 m17:=by kernel_rfl
 m18:=by kernel_rfl
 m19:=by kernel_rfl
 c0:=by kernel_rfl
 c2:=by kernel_rfl
 c3:=by kernel_rfl
 c4:=by kernel_rfl
 c5:=by kernel_rfl
 c9:=by kernel_rfl
 c20:=by kernel_rfl
 c21:=by kernel_rfl
 c37:=by kernel_rfl
 c46:=by kernel_rfl
 c51:=by kernel_rfl
 c53:=by kernel_rfl
 c75:=by kernel_rfl
 c76:=by kernel_rfl
 c80:=by kernel_rfl
 c85:=by kernel_rfl
 c127:=by kernel_rfl
 c143:=by kernel_rfl
 c145:=by kernel_rfl
 c167:=by kernel_rfl
 c168:=by kernel_rfl
 c171:=by kernel_rfl
 c173:=by kernel_rfl
 c175:=by kernel_rfl
 c210:=by kernel_rfl
 c212:=by kernel_rfl
 c213:=by kernel_rfl
 c232:=by kernel_rfl
 c233:=by kernel_rfl }
end Go.Proofs
end
section
namespace Go.Proofs.YtpmkgmilfifkpaaGreatDoor
open Go
theorem ib_hit:∀ (d r:List UInt8),(32:UInt8)∉d→Lib.indexByte (d++32::r) 32=d.length
 | [],r,_=>by simp [Lib.indexByte]
 | b::d,r,h=>by
   have hb:(b==32)=false:=by
    rw [beq_eq_false_iff_ne]
    exact fun e=>h (by rw [e];simp)
   have ih:=ib_hit d r (fun hm=>h (List.mem_cons_of_mem _ hm))
   rw [List.cons_append,Lib.indexByte,ih,hb]
   have:((d.length:Int) == -1)=false:=by rw [beq_eq_false_iff_ne];omega
   simp [this]
theorem cut_more (k:Nat) (d r:List UInt8) (h:(32:UInt8)∉d):Lib.splitK [32] 0 (k+1) (d++32::r)=d::Lib.splitK [32] 0 k r:=by
 rw [Lib.splitK,Lib.index_one,ib_hit d r h,if_neg (by rw [beq_iff_eq];omega)]
 simp
theorem join_more (d e:List UInt8) (ds:List (List UInt8)):Lib.join (d::e::ds) [32]=d++32::Lib.join (e::ds) [32]:=by
 rw [Lib.join_cons,Lib.join_cons]
 simp [Lib.joinTail]
theorem split_join:∀ (ds:List (List UInt8)),ds ≠ []→(∀ d∈ds,(32:UInt8)∉d)→Lib.splitK [32] 0 ((Lib.join ds [32]).count 32) (Lib.join ds [32])=ds
 | [],h,_=>absurd rfl h
 | [d],_,h=>by
   rw [Lib.join_one,List.count_eq_zero.2 (h d (by simp))]
   rfl
 | d::e::ds,_,h=>by
   have hd:=h d (by simp)
   have ih:=split_join (e::ds) (by simp) (fun x hx=>h x (List.mem_cons_of_mem _ hx))
   rw [join_more,List.count_append,List.count_eq_zero.2 hd,List.count_cons_self,Nat.zero_add,cut_more _ _ _ hd,ih]
def numB (n:Int):List UInt8:=Lib.decDigits n.toNat
theorem numB_ok {n:Int} (h0:0≤n) (h1:n≤16):(32:UInt8)∉numB n∧Lib.atoiAll (numB n) = .ok n∧1≤(numB n).length∧(numB n).length≤2:=by
 obtain ⟨m,rfl⟩:∃ m:Nat,n=m:=⟨n.toNat,by omega⟩
 unfold numB
 rw [Int.toNat_natCast]
 rcases (by omega:m=0∨m=1∨m=2∨m=3∨m=4∨m=5∨m=6∨m=7∨m=8∨m=9∨m=10∨m=11∨m=12∨m=13∨m=14∨m=15∨m=16) with rfl|rfl|rfl|rfl|rfl|rfl|rfl|rfl|rfl|rfl|rfl|rfl|rfl|rfl|rfl|rfl|rfl
 all_goals first
  | (rw [Lib.decDigits_one (by decide)];decide +kernel)
  | (rw [Lib.decDigits_two (by decide) (by decide)];decide +kernel)
def textP (p:Pairing):List UInt8:=Lib.join [numB p.a.lo,numB p.a.hi,numB p.b.lo,numB p.b.hi] [32]
def okP (p:Pairing):Bool:=decide ((0≤p.a.lo∧p.a.lo<p.a.hi∧p.a.hi≤16)∧(0≤p.b.lo∧p.b.lo<p.b.hi∧p.b.hi≤16)∧p.a.hi-p.a.lo=p.b.hi-p.b.lo)
theorem okP_iff {p:Pairing} : okP p=true↔(0≤p.a.lo∧p.a.lo<p.a.hi∧p.a.hi≤16)∧(0≤p.b.lo∧p.b.lo<p.b.hi∧p.b.hi≤16)∧p.a.hi-p.a.lo=p.b.hi-p.b.lo:=by unfold okP;rw [decide_eq_true_eq]
theorem text_len {p:Pairing} (h:okP p=true):7≤(textP p).length∧(textP p).length≤11:=by
 have h:=okP_iff.1 h
 obtain ⟨_,_,a1,a2⟩:=numB_ok (n:=p.a.lo) (by omega) (by omega)
 obtain ⟨_,_,b1,b2⟩:=numB_ok (n:=p.a.hi) (by omega) (by omega)
 obtain ⟨_,_,c1,c2⟩:=numB_ok (n:=p.b.lo) (by omega) (by omega)
 obtain ⟨_,_,d1,d2⟩:=numB_ok (n:=p.b.hi) (by omega) (by omega)
 unfold textP
 rw [join_more,join_more,join_more,Lib.join_one]
 simp only [List.length_append,List.length_cons]
 omega
theorem text_split {p:Pairing} (h:okP p=true):Lib.splitK [32] 0 ((textP p).count 32) (textP p) = [numB p.a.lo,numB p.a.hi,numB p.b.lo,numB p.b.hi]:=by
 have h:=okP_iff.1 h
 refine split_join _ (by simp) fun d hd=> ?_
 simp only [List.mem_cons,List.mem_nil_iff,or_false] at hd
 rcases hd with rfl|rfl|rfl|rfl
 · exact (numB_ok (by omega) (by omega)).1
 · exact (numB_ok (by omega) (by omega)).1
 · exact (numB_ok (by omega) (by omega)).1
 · exact (numB_ok (by omega) (by omega)).1
def atoiV (l:List UInt8):Int:=match Lib.atoiAll l with
 | .ok v=>v
 | .range=>Lib.atoiSat l
 | _=>0
theorem atoiV_num {n:Int} (h0:0≤n) (h1:n≤16):atoiV (numB n)=n:=by
 unfold atoiV
 rw [(numB_ok h0 h1).2.1]
def pairOf (w:List (List UInt8)):Pairing:=⟨⟨atoiV (w.getD 0 []),atoiV (w.getD 1 [])⟩,⟨atoiV (w.getD 2 []),atoiV (w.getD 3 [])⟩⟩
def readE (s:List UInt8):Option Pairing:=
 if (Lib.splitK [32] 0 (s.count 32) s).length=4∧okP (pairOf (Lib.splitK [32] 0 (s.count 32) s))=true∧textP (pairOf (Lib.splitK [32] 0 (s.count 32) s))=s then some (pairOf (Lib.splitK [32] 0 (s.count 32) s)) else none
theorem readE_text {p:Pairing} (h:okP p=true):readE (textP p)=some p:=by
 have hk:=okP_iff.1 h
 unfold readE
 rw [text_split h]
 have e:pairOf [numB p.a.lo,numB p.a.hi,numB p.b.lo,numB p.b.hi]=p:=by
  unfold pairOf
  simp only [List.getD_cons_zero,List.getD_cons_succ]
  rw [atoiV_num (by omega) (by omega),atoiV_num (by omega) (by omega),atoiV_num (by omega) (by omega),atoiV_num (by omega) (by omega)]
 rw [e,if_pos ⟨rfl,h,rfl⟩]
theorem readE_some {s:List UInt8} {p:Pairing} (h:readE s=some p):okP p=true∧textP p=s:=by
 unfold readE at h
 split at h
 · rename_i hc
   injection h with h
   subst h
   exact hc.2
 · cases h
theorem readE_iff {s:List UInt8} {p:Pairing} : readE s=some p↔okP p=true∧textP p=s:=
 ⟨readE_some,fun h=>by rw [←h.2];exact readE_text h.1⟩
theorem readE_none {s:List UInt8} : readE s=none ↔ ∀ p,okP p=true→textP p≠s:=by
 constructor
 · intro h p hp e
   rw [readE_iff.2 ⟨hp,e⟩] at h
   cases h
 · intro h
   cases hr:readE s with
   | none=>rfl
   | some p=>
     obtain ⟨h1,h2⟩:=readE_some hr
     exact absurd h2 (h p h1)
end Go.Proofs.YtpmkgmilfifkpaaGreatDoor
end
section
namespace Go.Proofs.YtpmkgmilfifkpaaGreatDoor
open Go.RowKit Go.Proofs Go.Shelf
def encStr (x:ByteArray):List Value:=[.string x]
theorem elStr:ElemT Tryz.prog 64 9 1 16:=elemT_of (z:=.string ByteArray.empty) Tryz.underlying64 (by kernel_rfl) rfl (by decide)
theorem oneStr (x:ByteArray):∀ u∈encStr x,u.oneCell'=true:=by simp [encStr,Value.oneCell']
theorem itoa_any (n:Int) (h0:0≤n) (h1:n<100) (w:World):Calls Tryz.prog 22 #[.int .i64 n] w fun e w'=>e = .returned (.string ⟨(numB n).toArray⟩)∧w'=w:=by
 obtain ⟨m,rfl⟩:∃ m:Nat,n=m:=⟨n.toNat,by omega⟩
 unfold numB
 rw [Int.toNat_natCast]
 exact Any.strconv_Itoa_small Tryz.itoaS m (by omega) w
theorem join_any (A:Option Addr) (n c:Nat) (xs:List ByteArray) (sep:ByteArray) (w:World) (hr:Rd encStr 1 w A n c xs) (h0:0<n) (hl:(Lib.join (xs.map (·.data.toList)) sep.data.toList).length≤140737488355328):
 Calls Tryz.prog 23 #[.slice A n c,.string sep] w fun e w'=>e = .returned (.string ⟨(Lib.join (xs.map (·.data.toList)) sep.data.toList).toArray⟩)∧Below w.heap.size w w':=by
 obtain ⟨b,off,rfl,hb,hc⟩:=hr.at_ h0
 have hlen:=hr.len
 subst hlen
 exact Any.strings_Join Tryz.joinS Tryz.joinX b off c xs sep w (fun j x hx=>by have:=hc j x hx 0 _ rfl;simpa using this) hb (by have:=hr.big;omega) hr.cap.1 hl
end Go.Proofs.YtpmkgmilfifkpaaGreatDoor
end

/- Contracts that the laws lean on: LinLay, LinI, LinV. -/
import Derived.Shelf.Strconv.Itoa3
import Derived.Shelf.Strings.Split
import Derived.Shelf.Strconv.AtoiAll
import Derived.Lib.AppendIntMem
import Derived.Test.YtejjplhknacoiaaGreatDoorLH03
set_option maxRecDepth 100000
set_option maxHeartbeats 8000000
section
namespace Go.Proofs
open Go.Shelf
def Tryz.itoaS_ren:Go.Shelf.Ren:=⟨fun|171=>19|243=>45|246=>72|283=>116|284=>117|285=>118|286=>119|129=>152|317=>154|318=>155|319=>156|320=>157|337=>173|338=>174|n=>n,fun|3=>3|9=>9|2=>2|4=>4|171=>197|0=>0|53=>198|37=>108|5=>5|173=>201|212=>237|51=>234|20=>20|213=>238|46=>188|232=>268|233=>269|n=>n,fun|17=>2|18=>6|19=>7|n=>n⟩
theorem Tryz.itoaS:Go.Proofs.LaysM.n171 Tryz.prog Tryz.itoaS_ren:={
 mixed:=by kernel_rfl
 f129:=Tryz.func152.trans (congrArg some (by kernel_rfl))
 f171:=Tryz.func19.trans (congrArg some (by kernel_rfl))
 f243:=Tryz.func45.trans (congrArg some (by kernel_rfl))
 f246:=Tryz.func72.trans (congrArg some (by kernel_rfl))
 f283:=Tryz.func116.trans (congrArg some (by kernel_rfl))
 f284:=Tryz.func117.trans (congrArg some (by kernel_rfl))
 f285:=Tryz.func118.trans (congrArg some (by kernel_rfl))
 f286:=Tryz.func119.trans (congrArg some (by kernel_rfl))
 f317:=Tryz.func154.trans (congrArg some (by kernel_rfl))
 f318:=Tryz.func155.trans (congrArg some (by kernel_rfl))
 f319:=Tryz.func156.trans (congrArg some (by kernel_rfl))
 f320:=Tryz.func157.trans (congrArg some (by kernel_rfl))
 f337:=Tryz.func173.trans (congrArg some (by kernel_rfl))
 f338:=Tryz.func174.trans (congrArg some (by kernel_rfl))
 t0:=Tryz.underlying0
 a0:=Tryz.isAgg0
 z0:=Tryz.sizeOf0
 v0:=Tryz.zeroValue0
 t2:=Tryz.underlying2
 a2:=Tryz.isAgg2
 z2:=Tryz.sizeOf2
 v2:=Tryz.zeroValue2
 t3:=Tryz.underlying3
 a3:=Tryz.isAgg3
 z3:=Tryz.sizeOf3
 v3:=Tryz.zeroValue3
 t4:=Tryz.underlying4
 a4:=Tryz.isAgg4
 z4:=Tryz.sizeOf4
 v4:=Tryz.zeroValue4
 t5:=Tryz.underlying5
 a5:=Tryz.isAgg5
 z5:=Tryz.sizeOf5
 v5:=Tryz.zeroValue5
 t9:=Tryz.underlying9
 a9:=Tryz.isAgg9
 z9:=Tryz.sizeOf9
 v9:=Tryz.zeroValue9
 t20:=Tryz.underlying20
 a20:=Tryz.isAgg20
 z20:=Tryz.sizeOf20
 v20:=Tryz.zeroValue20
 t37:=Tryz.underlying108
 a37:=Tryz.isAgg108
 z37:=Tryz.sizeOf108
 v37:=Tryz.zeroValue108
 t46:=Tryz.underlying188
 a46:=Tryz.isAgg188
 z46:=Tryz.sizeOf188
 v46:=Tryz.zeroValue188
 t51:=Tryz.underlying234
 a51:=Tryz.isAgg234
 z51:=Tryz.sizeOf234
 v51:=Tryz.zeroValue234
 t53:=Tryz.underlying198
 a53:=Tryz.isAgg198
 z53:=Tryz.sizeOf198
 v53:=Tryz.zeroValue198
 t171:=Tryz.underlying197
 a171:=Tryz.isAgg197
 z171:=Tryz.sizeOf197
 v171:=Tryz.zeroValue197
 t173:=Tryz.underlying201
 a173:=Tryz.isAgg201
 z173:=Tryz.sizeOf201
 v173:=Tryz.zeroValue201
 t212:=Tryz.underlying237
 a212:=Tryz.isAgg237
 z212:=Tryz.sizeOf237
 v212:=Tryz.zeroValue237
 t213:=Tryz.underlying238
 a213:=Tryz.isAgg238
 z213:=Tryz.sizeOf238
 t232:=Tryz.underlying268
 a232:=Tryz.isAgg268
 z232:=Tryz.sizeOf268
 v232:=Tryz.zeroValue268
 t233:=Tryz.underlying269
 a233:=Tryz.isAgg269
 z233:=Tryz.sizeOf269
 v233:=Tryz.zeroValue269
 g17:=by kernel_rfl
 g18:=by kernel_rfl
 g19:=by kernel_rfl
 i0:=by kernel_rfl
 i2:=by kernel_rfl
 i3:=by kernel_rfl
 i4:=by kernel_rfl
 i5:=by kernel_rfl
 i9:=by kernel_rfl
 i20:=by kernel_rfl
 i37:=by kernel_rfl
 i46:=by kernel_rfl
 i51:=by kernel_rfl
 i53:=by kernel_rfl
 i171:=by kernel_rfl
 i173:=by kernel_rfl
 i212:=by kernel_rfl
 i232:=by kernel_rfl
 i233:=by kernel_rfl
 m17:=by kernel_rfl
 m18:=by kernel_rfl
 m19:=by kernel_rfl }
def Tryz.splitS_ren:Go.Shelf.Ren:=⟨fun|146=>24|221=>48|268=>74|138=>75|143=>76|195=>120|197=>121|218=>122|219=>123|260=>158|217=>159|225=>160|224=>161|267=>162|266=>175|314=>176|n=>n,fun|9=>9|31=>63|3=>3|4=>4|0=>0|105=>204|21=>21|5=>5|46=>188|119=>254|139=>257|138=>256|146=>258|51=>234|n=>n,fun|1=>3|3=>4|4=>5|n=>n⟩
theorem Tryz.splitS:Go.Proofs.Lays.n146 Tryz.prog Tryz.splitS_ren:={
 mixed:=by kernel_rfl
 f138:=Tryz.func75.trans (congrArg some (by kernel_rfl))
 f143:=Tryz.func76.trans (congrArg some (by kernel_rfl))
 f146:=Tryz.func24.trans (congrArg some (by kernel_rfl))
 f195:=Tryz.func120.trans (congrArg some (by kernel_rfl))
 f197:=Tryz.func121.trans (congrArg some (by kernel_rfl))
 f217:=Tryz.func159.trans (congrArg some (by kernel_rfl))
 f218:=Tryz.func122.trans (congrArg some (by kernel_rfl))
 f219:=Tryz.func123.trans (congrArg some (by kernel_rfl))
 f221:=Tryz.func48.trans (congrArg some (by kernel_rfl))
 f224:=Tryz.func161.trans (congrArg some (by kernel_rfl))
 f225:=Tryz.func160.trans (congrArg some (by kernel_rfl))
 f260:=Tryz.func158.trans (congrArg some (by kernel_rfl))
 f266:=Tryz.func175.trans (congrArg some (by kernel_rfl))
 f267:=Tryz.func162.trans (congrArg some (by kernel_rfl))
 f268:=Tryz.func74.trans (congrArg some (by kernel_rfl))
 f314:=Tryz.func176.trans (congrArg some (by kernel_rfl))
 t0:=Tryz.underlying0
 a0:=Tryz.isAgg0
 z0:=Tryz.sizeOf0
 v0:=Tryz.zeroValue0
 t3:=Tryz.underlying3
 a3:=Tryz.isAgg3
 z3:=Tryz.sizeOf3
 v3:=Tryz.zeroValue3
 t4:=Tryz.underlying4
 a4:=Tryz.isAgg4
 z4:=Tryz.sizeOf4
 v4:=Tryz.zeroValue4
 t5:=Tryz.underlying5
 a5:=Tryz.isAgg5
 z5:=Tryz.sizeOf5
 v5:=Tryz.zeroValue5
 t9:=Tryz.underlying9
 a9:=Tryz.isAgg9
 z9:=Tryz.sizeOf9
 v9:=Tryz.zeroValue9
 t21:=Tryz.underlying21
 a21:=Tryz.isAgg21
 z21:=Tryz.sizeOf21
 v21:=Tryz.zeroValue21
 t31:=Tryz.underlying63
 a31:=Tryz.isAgg63
 z31:=Tryz.sizeOf63
 v31:=Tryz.zeroValue63
 t46:=Tryz.underlying188
 a46:=Tryz.isAgg188
 z46:=Tryz.sizeOf188
 v46:=Tryz.zeroValue188
 t51:=Tryz.underlying234
 a51:=Tryz.isAgg234
 z51:=Tryz.sizeOf234
 v51:=Tryz.zeroValue234
 t105:=Tryz.underlying204
 a105:=Tryz.isAgg204
 z105:=Tryz.sizeOf204
 v105:=Tryz.zeroValue204
 t119:=Tryz.underlying254
 a119:=Tryz.isAgg254
 z119:=Tryz.sizeOf254
 t138:=Tryz.underlying256
 a138:=Tryz.isAgg256
 z138:=Tryz.sizeOf256
 v138:=Tryz.zeroValue256
 t139:=Tryz.underlying257
 a139:=Tryz.isAgg257
 z139:=Tryz.sizeOf257
 v139:=Tryz.zeroValue257
 t146:=Tryz.underlying258
 a146:=Tryz.isAgg258
 z146:=Tryz.sizeOf258
 v146:=Tryz.zeroValue258
 g1:=by kernel_rfl
 g3:=by kernel_rfl
 g4:=by kernel_rfl }
def Tryz.atoiS_ren:Go.Shelf.Ren:=⟨fun|172=>26|244=>49|245=>50|247=>77|279=>78|280=>79|281=>80|282=>81|287=>124|316=>125|171=>19|205=>126|321=>163|322=>164|243=>45|246=>72|283=>116|284=>117|285=>118|286=>119|129=>152|317=>154|318=>155|319=>156|320=>157|337=>173|338=>174|n=>n,fun|9=>9|3=>3|75=>66|76=>67|4=>4|5=>5|167=>152|37=>108|0=>0|85=>153|2=>2|168=>155|53=>198|175=>207|46=>188|210=>211|127=>241|145=>244|143=>242|21=>21|171=>197|173=>201|212=>237|51=>234|20=>20|213=>238|232=>268|233=>269|80=>273|n=>n,fun|15=>0|16=>1|17=>2|18=>6|19=>7|n=>n⟩
theorem Tryz.atoiS:Go.Proofs.LaysC.n172 Tryz.prog Tryz.atoiS_ren:={
 mixed:=by kernel_rfl
 f129:=Tryz.func152.trans (congrArg some (by kernel_rfl))
 f171:=Tryz.func19.trans (congrArg some (by kernel_rfl))
 f172:=Tryz.func26.trans (congrArg some (by kernel_rfl))
 f205:=Tryz.func126.trans (congrArg some (by kernel_rfl))
 f243:=Tryz.func45.trans (congrArg some (by kernel_rfl))
 f244:=Tryz.func49.trans (congrArg some (by kernel_rfl))
 f245:=Tryz.func50.trans (congrArg some (by kernel_rfl))
 f246:=Tryz.func72.trans (congrArg some (by kernel_rfl))
 f247:=Tryz.func77.trans (congrArg some (by kernel_rfl))
 f279:=Tryz.func78.trans (congrArg some (by kernel_rfl))
 f280:=Tryz.func79.trans (congrArg some (by kernel_rfl))
 f281:=Tryz.func80.trans (congrArg some (by kernel_rfl))
 f282:=Tryz.func81.trans (congrArg some (by kernel_rfl))
 f283:=Tryz.func116.trans (congrArg some (by kernel_rfl))
 f284:=Tryz.func117.trans (congrArg some (by kernel_rfl))
 f285:=Tryz.func118.trans (congrArg some (by kernel_rfl))
 f286:=Tryz.func119.trans (congrArg some (by kernel_rfl))
 f287:=Tryz.func124.trans (congrArg some (by kernel_rfl))
 f316:=Tryz.func125.trans (congrArg some (by kernel_rfl))
 f317:=Tryz.func154.trans (congrArg some (by kernel_rfl))
 f318:=Tryz.func155.trans (congrArg some (by kernel_rfl))
 f319:=Tryz.func156.trans (congrArg some (by kernel_rfl))
 f320:=Tryz.func157.trans (congrArg some (by kernel_rfl))
 f321:=Tryz.func163.trans (congrArg some (by kernel_rfl))
 f322:=Tryz.func164.trans (congrArg some (by kernel_rfl))
 f337:=Tryz.func173.trans (congrArg some (by kernel_rfl))
 f338:=Tryz.func174.trans (congrArg some (by kernel_rfl))
 t0:=Tryz.underlying0
 a0:=Tryz.isAgg0
 z0:=Tryz.sizeOf0
 v0:=Tryz.zeroValue0
 t2:=Tryz.underlying2
 a2:=Tryz.isAgg2
 z2:=Tryz.sizeOf2
 v2:=Tryz.zeroValue2
 t3:=Tryz.underlying3
 a3:=Tryz.isAgg3
 z3:=Tryz.sizeOf3
 v3:=Tryz.zeroValue3
 t4:=Tryz.underlying4
 a4:=Tryz.isAgg4
 z4:=Tryz.sizeOf4
 v4:=Tryz.zeroValue4
 t5:=Tryz.underlying5
 a5:=Tryz.isAgg5
 z5:=Tryz.sizeOf5
 v5:=Tryz.zeroValue5
 t9:=Tryz.underlying9
 a9:=Tryz.isAgg9
 z9:=Tryz.sizeOf9
 v9:=Tryz.zeroValue9
 t20:=Tryz.underlying20
 a20:=Tryz.isAgg20
 z20:=Tryz.sizeOf20
 v20:=Tryz.zeroValue20
 t21:=Tryz.underlying21
 a21:=Tryz.isAgg21
 z21:=Tryz.sizeOf21
 v21:=Tryz.zeroValue21
 t37:=Tryz.underlying108
 a37:=Tryz.isAgg108
 z37:=Tryz.sizeOf108
 v37:=Tryz.zeroValue108
 t46:=Tryz.underlying188
 a46:=Tryz.isAgg188
 z46:=Tryz.sizeOf188
 v46:=Tryz.zeroValue188
 t51:=Tryz.underlying234
 a51:=Tryz.isAgg234
 z51:=Tryz.sizeOf234
 v51:=Tryz.zeroValue234
 t53:=Tryz.underlying198
 a53:=Tryz.isAgg198
 z53:=Tryz.sizeOf198
 v53:=Tryz.zeroValue198
 t75:=Tryz.underlying66
 a75:=Tryz.isAgg66
 z75:=Tryz.sizeOf66
 v75:=Tryz.zeroValue66
 t76:=Tryz.underlying67
 a76:=Tryz.isAgg67
 z76:=Tryz.sizeOf67
 v76:=Tryz.zeroValue67
 t85:=Tryz.underlying153
 a85:=Tryz.isAgg153
 z85:=Tryz.sizeOf153
 v85:=Tryz.zeroValue153
 t127:=Tryz.underlying241
 a127:=Tryz.isAgg241
 z127:=Tryz.sizeOf241
 v127:=Tryz.zeroValue241
 t143:=Tryz.underlying242
 a143:=Tryz.isAgg242
 z143:=Tryz.sizeOf242
 v143:=Tryz.zeroValue242
 t145:=Tryz.underlying244
 a145:=Tryz.isAgg244
 z145:=Tryz.sizeOf244
 v145:=Tryz.zeroValue244
 t167:=Tryz.underlying152
 a167:=Tryz.isAgg152
 z167:=Tryz.sizeOf152
 v167:=Tryz.zeroValue152
 t168:=Tryz.underlying155
 a168:=Tryz.isAgg155
 z168:=Tryz.sizeOf155
 v168:=Tryz.zeroValue155
 t171:=Tryz.underlying197
 a171:=Tryz.isAgg197
 z171:=Tryz.sizeOf197
 v171:=Tryz.zeroValue197
 t173:=Tryz.underlying201
 a173:=Tryz.isAgg201
 z173:=Tryz.sizeOf201
 v173:=Tryz.zeroValue201
 t175:=Tryz.underlying207
 a175:=Tryz.isAgg207
 z175:=Tryz.sizeOf207
 v175:=Tryz.zeroValue207
 t210:=Tryz.underlying211
 a210:=Tryz.isAgg211
 z210:=Tryz.sizeOf211
 v210:=Tryz.zeroValue211
 t212:=Tryz.underlying237
 a212:=Tryz.isAgg237
 z212:=Tryz.sizeOf237
 v212:=Tryz.zeroValue237
 t213:=Tryz.underlying238
 a213:=Tryz.isAgg238
 z213:=Tryz.sizeOf238
 t232:=Tryz.underlying268
 a232:=Tryz.isAgg268
 z232:=Tryz.sizeOf268
 v232:=Tryz.zeroValue268
 t233:=Tryz.underlying269
 a233:=Tryz.isAgg269
 z233:=Tryz.sizeOf269
 v233:=Tryz.zeroValue269
 g15:=by kernel_rfl
 g16:=by kernel_rfl
 g17:=by kernel_rfl
 g18:=by kernel_rfl
 g19:=by kernel_rfl
 t80:=Tryz.underlying273
 a80:=Tryz.isAgg273
 z80:=Tryz.sizeOf273
 v80:=Tryz.zeroValue273
 i0:=by kernel_rfl
 i2:=by kernel_rfl
 i3:=by kernel_rfl
 i4:=by kernel_rfl
 i5:=by kernel_rfl
 i9:=by kernel_rfl
 i20:=by kernel_rfl
 i21:=by kernel_rfl
 i37:=by kernel_rfl
 i46:=by kernel_rfl
 i51:=by kernel_rfl
 i53:=by kernel_rfl
 i75:=by kernel_rfl
 i76:=by kernel_rfl
 i80:=by kernel_rfl
 i85:=by kernel_rfl
 i127:=by kernel_rfl
 i143:=by kernel_rfl
 i145:=by kernel_rfl
 i167:=by kernel_rfl
 i168:=by kernel_rfl
 i171:=by kernel_rfl
 i173:=by kernel_rfl
 i175:=by kernel_rfl
 i210:=by kernel_rfl
 i212:=by kernel_rfl
 i232:=by kernel_rfl
 i233:=by kernel_rfl
 m15:=by kernel_rfl
 m16:=by kernel_rfl
 m17:=by kernel_rfl
 m18:=by kernel_rfl
 m19:=by kernel_rfl
 c0:=by kernel_rfl
 c2:=by kernel_rfl
 c3:=by kernel_rfl
 c4:=by kernel_rfl
 c5:=by kernel_rfl
 c9:=by kernel_rfl
 c20:=by kernel_rfl
 c21:=by kernel_rfl
 c37:=by kernel_rfl
 c46:=by kernel_rfl
 c51:=by kernel_rfl
 c53:=by kernel_rfl
 c75:=by kernel_rfl
 c76:=by kernel_rfl
 c80:=by kernel_rfl
 c85:=by kernel_rfl
 c127:=by kernel_rfl
 c143:=by kernel_rfl
 c145:=by kernel_rfl
 c167:=by kernel_rfl
 c168:=by kernel_rfl
 c171:=by kernel_rfl
 c173:=by kernel_rfl
 c175:=by kernel_rfl
 c210:=by kernel_rfl
 c212:=by kernel_rfl
 c213:=by kernel_rfl
 c232:=by kernel_rfl
 c233:=by kernel_rfl }
end Go.Proofs
end
section
namespace Go.Proofs.YtejjplhknacoiaaGreatDoor
open Go.RowKit Go.Proofs Go.Shelf
theorem gTab:Tryz.prog.globalNamed "internal/strconv.uint64pow10" = some 2:=by kernel_rfl
structure VarsOk (W:World):Prop where
 syn:∃ ev,W.cell? ⟨0,0,none⟩=some ev∧(ev = .nilIface∨∃ te pe,ev = .iface te pe)
 ran:∃ ev,W.cell? ⟨1,0,none⟩=some ev∧(ev = .nilIface∨∃ te pe,ev = .iface te pe)
 len:∃ m:Int,W.cell? ⟨3,0,none⟩=some (.int .i64 m)
 tab:Lib.TabIs Tryz.prog W "internal/strconv.uint64pow10" .u64 Lib.pow10Tab
theorem VarsOk.below {W W':World} (h:VarsOk W) (hb:Below W.heap.size W W'):VarsOk W':=by
 obtain ⟨⟨e1,h1,k1⟩,⟨e2,h2,k2⟩,⟨m,h3⟩,ht⟩:=h
 exact ⟨⟨e1,(hb.cell (World.block_lt_of_cell? _ _ h1)).trans h1,k1⟩,⟨e2,(hb.cell (World.block_lt_of_cell? _ _ h2)).trans h2,k2⟩,⟨m,(hb.cell (World.block_lt_of_cell? _ _ h3)).trans h3⟩,var?_below hb gTab (World.block_lt_of_cell? _ _ (ht.cell gTab 0 (by decide))) ht⟩
theorem VarsOk.of {B:Nat} {W W':World} (h:VarsOk W) (hb:Below B W W') (hB:W.heap.size≤B):VarsOk W':=h.below (hb.mono hB)
theorem itoa_any (n:Int) (h0: -10000≤n) (h1:n≤1000000) (w:World) (hv:VarsOk w):Calls Tryz.prog 19 #[.int .i64 n] w fun e w'=>e = .returned (.string ⟨(Lib.itoa n).toArray⟩)∧Below w.heap.size w w':=by
 refine (Any.strconv_Itoa Tryz.itoaS n (by omega) (by omega) w hv.tab).mono ?_
 rintro e w' ⟨rfl,k,os,rfl⟩
 exact ⟨rfl,Lib.below_grow _ _ (Nat.le_refl _) _ _⟩
theorem atoi_any (s:ByteArray) (hs:s.size≤1000) (w:World) (hv:VarsOk w):Calls Tryz.prog 26 #[.string s] w fun e w'=> ∃ x,e = .returned (.tuple #[.int .i64 (atoiV s.data.toList),x])∧Below w.heap.size w w':=by
 cases h:Lib.atoiAll s.data.toList with
 | ok v=>
   have ha:atoiV s.data.toList=v:=by unfold atoiV;rw [h]
   rw [ha]
   refine Calls.mono (Any.strconv_Atoi_ok Tryz.atoiS s (by omega) v h w) ?_
   rintro e w' ⟨rfl,rfl|⟨t,rfl⟩⟩
   · exact ⟨_,rfl,Below.refl _ _⟩
   · exact ⟨_,rfl,Lib.bytesWorld_below _ _ _⟩
 | range=>
   have ha:atoiV s.data.toList=Lib.atoiSat s.data.toList:=by unfold atoiV;rw [h]
   rw [ha]
   obtain ⟨ev,h1,h2⟩:=hv.ran
   refine Calls.mono (Any.strconv_Atoi_range Tryz.atoiS s (by omega) h ev w h1 h2) ?_
   rintro e w' ⟨N,rfl,_,_,hb⟩
   exact ⟨_,rfl,hb⟩
 | _=>
   have ha:atoiV s.data.toList=0:=by unfold atoiV;rw [h]
   rw [ha]
   obtain ⟨ev,h1,h2⟩:=hv.syn
   refine Calls.mono (Any.strconv_Atoi_syntax Tryz.atoiS s (by omega) h ev w h1 h2) ?_
   rintro e w' ⟨N,rfl,_,_,hb⟩
   exact ⟨_,rfl,hb⟩
def piecesB (s:ByteArray):List ByteArray:=Lib.splitB ⟨#[32]⟩ 0 (Lib.countB s ⟨#[32]⟩) s
theorem pieces_len (s:ByteArray):(piecesB s).length=Lib.countB s ⟨#[32]⟩+1:=Lib.splitB_all ⟨#[32]⟩ (by decide) 0 _ s rfl
theorem pieces_data (s:ByteArray):(piecesB s).map (·.data.toList)=cutL s.data.toList:=by
 unfold piecesB
 rw [Lib.splitB_data]
 have h:Lib.countB s ⟨#[32]⟩=s.data.toList.count 32:=Lib.count_one 32 s.data.toList
 rw [h]
 rfl
theorem piece_size {s b:ByteArray} (h:b∈piecesB s):b.size≤s.size:=by
 have h1:b.data.toList∈(piecesB s).map (·.data.toList):=List.mem_map_of_mem h
 rw [pieces_data] at h1
 have key:∀ (k:Nat) (l d:List UInt8),d∈Lib.splitK [32] 0 k l→d.length≤l.length:=by
  intro k
  induction k with
  | zero=>intro l d hd;rw [Lib.splitK,List.mem_singleton] at hd;subst hd;exact Nat.le_refl _
  | succ k ih=>
    intro l d hd
    rw [Lib.splitK] at hd
    split at hd
    · rw [List.mem_singleton] at hd;subst hd;exact Nat.le_refl _
    · rcases List.mem_cons.1 hd with rfl|hd
      · rw [List.length_take];omega
      · have:=ih _ _ hd
        rw [List.length_drop] at this
        omega
 have:=key _ _ _ h1
 rw [←Lib.size_eq,←Lib.size_eq] at this
 exact this
theorem split_any (s:ByteArray) (hs:s.size≤1000) (w:World) (hv:VarsOk w):Calls Tryz.prog 24 #[.string s,.string ⟨#[32]⟩] w fun e w'=> ∃ A c,e = .returned (.slice A (piecesB s).length c)∧Below w.heap.size w w'∧Rd encStr 1 w' A (piecesB s).length c (piecesB s):=by
 obtain ⟨m,hm⟩:=hv.len
 refine Calls.mono (Any.strings_Split Tryz.splitS (by kernel_rfl) s ⟨#[32]⟩ m w (by omega) hm (by decide)) ?_
 rintro e w' ⟨rfl,rfl⟩
 have hl:=pieces_len s
 have hle:Lib.countB s ⟨#[32]⟩≤s.size:=Lib.countB_le ⟨#[32]⟩ (by decide) s.size s (Nat.le_refl _)
 refine ⟨_,_,by rw [←hl],(Below.refl _ _).alloc (Nat.le_refl _) _,?_⟩
 refine Rd.single (enc:=encStr) (k:=1) w _ _ (piecesB s) _ rfl (by omega) (fun _=>rfl) ?_
 show (piecesB s).map Value.string=(piecesB s).flatMap encStr
 have h:∀ l:List ByteArray,l.map Value.string=l.flatMap encStr:=fun l=>by induction l with
  | nil=>rfl
  | cons x l ih=>rw [List.map_cons,List.flatMap_cons,ih];rfl
 exact h _
end Go.Proofs.YtejjplhknacoiaaGreatDoor
end
section
namespace Go.Proofs.YtejjplhknacoiaaGreatDoor
open Go.RowKit Go.Proofs
def wordsV:Value:=.agg #[.string ⟨#[]⟩,.string ⟨#[97,98,111,118,101]⟩,.string ⟨#[100,97,116,101,100]⟩,.string ⟨#[109,111,118,101,100]⟩,.string ⟨#[118,111,105,100]⟩]
theorem words_any (w:World):Calls Tryz.prog 20 #[] w fun e w'=>e = .returned wordsV∧Below w.heap.size w w':=by
 have hT:(Tryz.prog.info? 60).map (·.size)=some 5:=by kernel_rfl
 go_enter Tryz.func20,Tryz.ntmps20
 go_wp2
 refine bodyPost_ret (results_cell_row rfl _ _ w.heap.size _ _ (0,0) _ rfl (heap_alloc_new w _) Tryz.underlying60 rfl (by kernel_rfl)) rfl ?_
 exact ⟨rfl,(Below.refl _ _).alloc (Nat.le_refl _) _⟩
theorem run_idxw (v0 v1 v2 v3 v4:Value) (k:Nat) (hk:k<5) (w:World):(Instr.index 60 (.agg #[v0,v1,v2,v3,v4]) (.int .u8 k)).run Tryz.prog w = .ok ([v0,v1,v2,v3,v4].getD k undef) w:=by
 have h0:(Tryz.prog.info? 9).map (·.size)=some 1:=by kernel_rfl
 obtain ⟨i,hi,hs⟩:=Option.map_eq_some_iff.1 h0
 rcases (by omega:k=0∨k=1∨k=2∨k=3∨k=4) with rfl|rfl|rfl|rfl|rfl<;>simp [Instr.index,asIntOf,sizeOf,typeInfo,hi,hs,part,underlying]
@[go_sem ↓ high] theorem run_idxw0 (v0 v1 v2 v3 v4:Value) (w:World):(Instr.index 60 (.agg #[v0,v1,v2,v3,v4]) (.int .u8 0)).run Tryz.prog w = .ok v0 w:=run_idxw v0 v1 v2 v3 v4 0 (by decide) w
@[go_sem ↓ high] theorem run_idxw1 (v0 v1 v2 v3 v4:Value) (w:World):(Instr.index 60 (.agg #[v0,v1,v2,v3,v4]) (.int .u8 1)).run Tryz.prog w = .ok v1 w:=run_idxw v0 v1 v2 v3 v4 1 (by decide) w
@[go_sem ↓ high] theorem run_idxw2 (v0 v1 v2 v3 v4:Value) (w:World):(Instr.index 60 (.agg #[v0,v1,v2,v3,v4]) (.int .u8 2)).run Tryz.prog w = .ok v2 w:=run_idxw v0 v1 v2 v3 v4 2 (by decide) w
@[go_sem ↓ high] theorem run_idxw3 (v0 v1 v2 v3 v4:Value) (w:World):(Instr.index 60 (.agg #[v0,v1,v2,v3,v4]) (.int .u8 3)).run Tryz.prog w = .ok v3 w:=run_idxw v0 v1 v2 v3 v4 3 (by decide) w
@[go_sem ↓ high] theorem run_idxw4 (v0 v1 v2 v3 v4:Value) (w:World):(Instr.index 60 (.agg #[v0,v1,v2,v3,v4]) (.int .u8 4)).run Tryz.prog w = .ok v4 w:=run_idxw v0 v1 v2 v3 v4 4 (by decide) w
def codeRv13:Option Code→Code
 | some (.seq _ (.seq _ (.seq _ (.seq _ (.seq c _)))))=>c
 | _=> .skip
def Trv13 (g:Nat) (p0 p1 k:Int) (S0 S1 KB:ByteArray):List Value:=
 [.pointer (some ⟨g,0,none⟩),.int .i64 p0,.string S0,.string (S0++(⟨#[32]⟩:ByteArray)),.pointer (some ⟨g,0+1,none⟩),.int .i64 p1,.string S1,.string ((S0++(⟨#[32]⟩:ByteArray))++S1),.string (((S0++(⟨#[32]⟩:ByteArray))++S1)++(⟨#[32]⟩:ByteArray)),wordsV,.pointer (some ⟨g,0+2,none⟩),.int .u8 k,.string KB,.string ((((S0++(⟨#[32]⟩:ByteArray))++S1)++(⟨#[32]⟩:ByteArray))++KB),.string ((((S0++(⟨#[32]⟩:ByteArray))++S1)++(⟨#[32]⟩:ByteArray))++KB)]
theorem rv13 (cC:Code) (hc:cC=codeRv13 Tryz.f5.body) (g:Nat) (p0 p1 k:Int) (S0 S1 KB:ByteArray) (a:Act) (w:World) (Q:Exit→Act→World→Prop)
 (hT:a.tmps.size=74) (t1:a.tmps.getD 1 undef = .pointer (some ⟨g,0,none⟩))
 (CE:∀ W,Below w.heap.size w W→W.cell? ⟨g,0,none⟩=some (.int .i64 p0)∧W.cell? ⟨g,1,none⟩=some (.int .i64 p1)∧W.cell? ⟨g,2,none⟩=some (.int .u8 k))
 (C0:∀ W,Below w.heap.size w W→Calls Tryz.prog 19 #[.int .i64 p0] W fun e w'=>e = .returned (.string S0)∧Below W.heap.size W w')
 (C1:∀ W,Below w.heap.size w W→Calls Tryz.prog 19 #[.int .i64 p1] W fun e w'=>e = .returned (.string S1)∧Below W.heap.size W w') (z0:S0.size≤8) (z1:S1.size≤8) (z2:KB.size≤8)
 (hix:∀ W,(Instr.index 60 wordsV (.int .u8 k)).run Tryz.prog W = .ok (.string KB) W)
 (hQ:∀ W,Below w.heap.size w W→Q .normal { tmps:=(setsL (a.tmps) 47 [.pointer (some ⟨g,0,none⟩),.int .i64 p0,.string S0,.string (S0++(⟨#[32]⟩:ByteArray)),.pointer (some ⟨g,0+1,none⟩),.int .i64 p1,.string S1,.string ((S0++(⟨#[32]⟩:ByteArray))++S1),.string (((S0++(⟨#[32]⟩:ByteArray))++S1)++(⟨#[32]⟩:ByteArray)),wordsV,.pointer (some ⟨g,0+2,none⟩),.int .u8 k,.string KB,.string ((((S0++(⟨#[32]⟩:ByteArray))++S1)++(⟨#[32]⟩:ByteArray))++KB)]).setIfInBounds 6 (.string ((((S0++(⟨#[32]⟩:ByteArray))++S1)++(⟨#[32]⟩:ByteArray))++KB)),defers:=a.defers } W):
 cC.wp Tryz.prog Q a w:=by
 subst hc
 unfold codeRv13 Tryz.f5
 dsimp only
 refine wpIn_wide.1 (wpIn_region_flow (nn:=5) 74 (by kernel_rfl) (by kernel_rfl) (by kernel_rfl) hT (fun i=>(Trv13 g p0 p1 k S0 S1 KB).getD i undef) (fun W=>Below w.heap.size w W) ((Below.refl _ _).drew) (fun b hE hold=> ?_) hQ)
 clear hQ
 have q1:=hold 1 _ (by kernel_rfl) t1
 simp only [factsL,Trv13,List.getD_cons_zero,List.getD_cons_succ,Nat.reduceAdd] at hE
 repeat' first|exact steps_nil|refine steps_skip rfl rfl ?_|refine steps_go rfl ?_ ?_
 all_goals (intro W hW;have hWb:Below w.heap.size w W:=hW;obtain ⟨c0,c1,c2⟩:=CE W hWb;simp only [Trv13,List.getD_cons_zero,List.getD_cons_succ,Nat.reduceAdd])
 all_goals first
  | (refine .inl ?_;go_simp;done)
  | (refine .inl ?_;go_simp;rfl)
  | (refine .inl ?_;go_simp;omega)
  | (refine .inl ?_;go_simp;(simp only [ByteArray.size_append];simp;omega))
  | (refine .inl ?_;go_simp;(rw [hix];done))
  | (refine .inl ?_;go_simp;(simp [hix];done))
  | (refine .inr (.inr ⟨19,#[.int .i64 p0],?_,(C0 W hWb).mono ?_⟩)
     · go_simp<;>done
     · rintro e w' ⟨rfl,hb'⟩;exact ⟨rfl,(show Below _ _ _ from hWb.trans (hb'.mono hWb.size))⟩)
  | (refine .inr (.inr ⟨19,#[.int .i64 p1],?_,(C1 W hWb).mono ?_⟩)
     · go_simp<;>done
     · rintro e w' ⟨rfl,hb'⟩;exact ⟨rfl,(show Below _ _ _ from hWb.trans (hb'.mono hWb.size))⟩)
  | (refine .inr (.inr ⟨20,#[],?_,(words_any W).mono ?_⟩)
     · go_simp<;>done
     · rintro e w' ⟨rfl,hb'⟩;exact ⟨rfl,(show Below _ _ _ from hWb.trans (hb'.mono hWb.size))⟩)
theorem Own.litI (B:Nat) (w:World) (cs:Array Value) (xs:List Int) (n:Nat) (hn:xs.length=n) (hcs:cs.toList=xs.flatMap encInt) (hB:B≤w.heap.size) (hm:n≤1000000):
 Own encInt 1 3 B (w.alloc (.cells cs 3)) (some ⟨w.heap.size,0,none⟩) n n xs:=by
 have hk:∀ x:Int,(encInt x).length=1:=fun _=>rfl
 have hsz:cs.size=n * 1:=by rw [←Array.length_toList,hcs,flatMap_len hk,hn]
 refine ⟨hn,by rw [flatMap_len hk,hn],.inr ⟨w.heap.size,n,cs,rfl,hB,heap_alloc_new w _,Nat.le_refl _,by unfold maxLen;omega,hsz,?_⟩⟩
 rw [←hcs,List.take_of_length_le (by rw [Array.length_toList,hsz];exact Nat.le_refl _)]
theorem Rd.int {w W:World} {bk off n c:Nat} {zs:List Int} (hr:Rd encInt 1 w (some ⟨bk,off,none⟩) n c zs) (hW:Below w.heap.size w W) {k:Nat} {z:Int} (hk:zs[k]? = some z):W.cell? ⟨bk,off+k,none⟩=some (.int .i64 z):=by
 have hl:k<zs.length:=(List.getElem?_eq_some_iff.1 hk).1
 obtain ⟨bk',off',he,hbk,hcs⟩:=hr.at_ (by have:=hr.len;omega)
 injection he with he
 injection he with e1 e2 e3
 subst e1 e2
 have:=hcs k z hk 0 _ rfl
 exact (hW.cell hbk).trans (by simpa using this)
def headT (x:Trace):List UInt8:=Lib.itoa x.id ++ [32]++Lib.itoa x.known ++ [32]++kindB x.kind
theorem text_head {x:Trace} : textT x=headT x++rowT (tailT x):=by
 have key:∀ (ds:List (List UInt8)) (d:List UInt8),Lib.join (d::ds) [32]=d++ds.flatMap (fun e=>32::e):=fun ds=>by
  induction ds with
  | nil=>intro d;rw [Lib.join_one];simp
  | cons e ds ih=>intro d;rw [join_more,ih];simp
 unfold textT wordsT headT rowT
 rw [join_more,join_more,key]
 simp [List.flatMap_map]
theorem head_eq {x:Trace} {S0 S1 KB:ByteArray} (h0:S0=bsL (Lib.itoa x.id)) (h1:S1=bsL (Lib.itoa x.known)) (hk:KB=bsL (kindB x.kind)):(((S0++(⟨#[32]⟩:ByteArray))++S1)++(⟨#[32]⟩:ByteArray))++KB=bsL (headT x):=by
 subst h0 h1 hk
 rw [show (⟨#[32]⟩:ByteArray)=bsL [32] from rfl,bsL_app,bsL_app,bsL_app,bsL_app]
 rfl
theorem head_len {x:Trace} (h:okTr x=true):(headT x).length≤26:=by
 obtain ⟨r1,r2,-⟩:=okTr_rng h
 have h1:=itoa_len (n:=x.id) (by omega) (by omega)
 have h2:=itoa_len (n:=x.known) (by omega) (by omega)
 have h3:=kind_len x.kind
 unfold headT
 simp only [List.length_append,List.length_singleton]
 omega
theorem write_any (x:Trace) (w:World) (hv:VarsOk w):Calls Tryz.prog 5 #[.agg #[.int .i64 x.id,.int .i64 x.known,.int .u8 x.kind,.int .i64 x.pit,.int .i64 x.layer,.int .i64 x.lower,.int .i64 x.low,.int .i64 x.high,.int .i64 x.cost,.int .i64 x.void]] w fun e w'=>e = .returned (.tuple #[.string (textV x),.int .i64 (checkTrace x)])∧Below w.heap.size w w':=by
 obtain ⟨w1,hw1,hb1,hz1,e1⟩:=alloc_facts w #[.int .i64 x.id,.int .i64 x.known,.int .u8 x.kind,.int .i64 x.pit,.int .i64 x.layer,.int .i64 x.lower,.int .i64 x.low,.int .i64 x.high,.int .i64 x.cost,.int .i64 x.void] 23
 have HW1:=Lib.hid hw1
 have HB1:=Lib.hid hb1
 have HCE:Hid (∀ W,Below w1.heap.size w1 W→W.cell? ⟨w.heap.size,0,none⟩=some (.int .i64 x.id)∧W.cell? ⟨w.heap.size,1,none⟩=some (.int .i64 x.known)∧W.cell? ⟨w.heap.size,2,none⟩=some (.int .u8 x.kind)∧W.cell? ⟨w.heap.size,3,none⟩=some (.int .i64 x.pit)∧W.cell? ⟨w.heap.size,4,none⟩=some (.int .i64 x.layer)∧W.cell? ⟨w.heap.size,5,none⟩=some (.int .i64 x.lower)∧W.cell? ⟨w.heap.size,6,none⟩=some (.int .i64 x.low)∧W.cell? ⟨w.heap.size,7,none⟩=some (.int .i64 x.high)∧W.cell? ⟨w.heap.size,8,none⟩=some (.int .i64 x.cost)∧W.cell? ⟨w.heap.size,9,none⟩=some (.int .i64 x.void)):=(show ∀ W,_→_ from fun W h=>by
  have hh:=(h.block w.heap.size (by omega)).trans e1
  simp [World.cell?,hh])
 have HV1:Hid (∀ W,Below w1.heap.size w1 W→VarsOk W):=(show ∀ W,_→_ from fun W h=>(hv.below hb1).below h)
 have KC:=Lib.hid (fun W=>CheckTrace_any x.id x.known x.kind x.pit x.layer x.lower x.low x.high x.cost x.void W)
 obtain ⟨y0,y1,y2,y3,y4,y5,y6,y7,y8,y9⟩:=HCE.out w1 (Below.refl _ _)
 clear hw1 hb1 e1 hv
 cases hok:okTr x with
 | false=>
   obtain ⟨t1,t2⟩:=bad_ok hok
   rw [t1,t2]
   rw [show checkTrace ⟨x.id,x.known,x.kind,x.pit,x.layer,x.lower,x.low,x.high,x.cost,x.void⟩=1 from t2] at KC
   clear hok t1 t2
   go_enter Tryz.func5,Tryz.ntmps5
   go_wp2_with (first
    | rw [HW1.out]
    | (go_at_call 18;(with_reducible refine (KC.out _).mono ?_);rintro e w2 ⟨rfl,hb2⟩;have HB2:=Lib.hid hb2;clear hb2))
   go_ret2
   exact ⟨rfl,HB1.out.trans (HB2.out.mono HB1.out.size)⟩
 | true=>
   obtain ⟨t1,t2⟩:=good_ok hok
   obtain ⟨hkk,-,-⟩:=okTr_kind hok
   obtain ⟨r1,r2,r3⟩:=okTr_rng hok
   rw [t1,t2]
   rw [show checkTrace ⟨x.id,x.known,x.kind,x.pit,x.layer,x.lower,x.low,x.high,x.cost,x.void⟩=0 from t2] at KC
   have HTX:Hid ((⟨(textT x).toArray⟩:ByteArray)=bsL (headT x++rowT (tailT x))):=(show _=_ from by rw [←text_head];rfl)
   rw [HTX.out]
   have KI0:Hid (∀ W,VarsOk W→Calls Tryz.prog 19 #[.int .i64 x.id] W fun e w'=>e = .returned (.string (bsL (Lib.itoa x.id)))∧Below W.heap.size W w'):=(show ∀ W,_→_ from fun W h=>itoa_any x.id (by omega) (by omega) W h)
   have KI1:Hid (∀ W,VarsOk W→Calls Tryz.prog 19 #[.int .i64 x.known] W fun e w'=>e = .returned (.string (bsL (Lib.itoa x.known)))∧Below W.heap.size W w'):=(show ∀ W,_→_ from fun W h=>itoa_any x.known (by omega) (by omega) W h)
   have KI:Hid (∀ z W,-10000≤z→z≤1000000→VarsOk W→Calls Tryz.prog 19 #[.int .i64 z] W fun e w'=>e = .returned (.string (bsL (Lib.itoa z)))∧Below W.heap.size W w'):=(show ∀ z W,_→_→_→_ from fun z W h0 h1 h=>itoa_any z h0 h1 W h)
   have z0:(bsL (Lib.itoa x.id)).size≤8:=itoa_len (by omega) (by omega)
   have z1:(bsL (Lib.itoa x.known)).size≤8:=itoa_len (by omega) (by omega)
   have zh:=head_len hok
   rcases hkk with hk|hk|hk|hk
   · have hzs:∀ z∈([x.pit,x.layer,x.lower]:List Int),-10000≤z∧z≤1000000:=(fun z hz=>r3 z (by unfold tailT;rw [hk];simpa using hz))
     have htl:tailT x = [x.pit,x.layer,x.lower]:=(by unfold tailT;rw [hk];rfl)
     have HHE:=Lib.hid (head_eq (x:=x) (KB:=⟨#[97,98,111,118,101]⟩) rfl rfl (by rw [hk];rfl))
     have HZS:=Lib.hid hzs
     have HKE:Hid (∀ W,Below w1.heap.size w1 W→W.cell? ⟨w.heap.size,2,none⟩=some (.int .u8 1)):=(show ∀ W,_→_ from fun W h=>by rw [←hk];exact (HCE.out W h).2.2.1)
     have HKX:Hid (x.kind=1):=(show _=_ from hk)
     rw [hk] at KC y2
     rw [htl]
     clear hzs htl r1 r2 r3 hok t1 t2 HTX
     generalize bsL (Lib.itoa x.id)=S0 at *
     generalize bsL (Lib.itoa x.known)=S1 at *
     generalize headT x=HD at *
     clear hk
     go_enter Tryz.func5,Tryz.ntmps5
     go_upto_region 13 with (first
      | rw [HW1.out]
      | rw [HA3.out]
      | rw [HA4.out]
      | (go_at_call 18;(with_reducible refine (KC.out _).mono ?_);rintro e w2 ⟨rfl,hb2⟩;have HB2:=Lib.hid hb2
         obtain ⟨w3,a3,l3,s3,e3⟩:=alloc_facts w2 #[.int .i64 x.pit,.int .i64 x.layer] 3
         obtain ⟨w4,a4,l4,s4,e4⟩:=alloc_facts w3 #[.int .i64 x.lower] 3
         have HA3:=Lib.hid a3
         have HA4:=Lib.hid a4
         have HS3:=Lib.hid s3
         have HB3:=Lib.hid (hb2.trans (l3.mono hb2.size))
         have HB4:=Lib.hid ((hb2.trans (l3.mono hb2.size)).trans (l4.mono (hb2.trans (l3.mono hb2.size)).size))
         have HO3:Hid (Own encInt 1 3 w1.heap.size w3 (some ⟨w2.heap.size,0,none⟩) 2 2 [x.pit,x.layer]):=(show Own _ _ _ _ _ _ _ _ _ from by rw [←a3];exact Own.litI _ w2 _ _ 2 rfl rfl hb2.size (by decide))
         have HR4:Hid (Rd encInt 1 w4 (some ⟨w3.heap.size,0,none⟩) 1 1 [x.lower]):=(show Rd _ _ _ _ _ _ _ from by rw [←a4];exact Rd.single (enc:=encInt) (k:=1) w3 _ _ [x.lower] 1 rfl (by decide) (fun _=>rfl) rfl)
         have HO4:Hid (Own encInt 1 3 w1.heap.size w4 (some ⟨w2.heap.size,0,none⟩) 2 2 [x.pit,x.layer]):=(show Own _ _ _ _ _ _ _ _ _ from by rw [←a4];exact HO3.out.alloc _)
         obtain ⟨v0,v1,v2,v3,v4,v5,v6,v7,v8,v9⟩:=HCE.out w2 hb2
         obtain ⟨u0,u1,u2,u3,u4,u5,u6,u7,u8,u9⟩:=HCE.out w3 HB3.out
         rw [HKX.out] at v2 u2
         clear hb2 a3 l3 s3 e3 a4 l4 s4 e4)
      | (at_builtin;refine wpList_append_src elInt (fun _=>rfl) oneInt rfl _ _ rfl (some ⟨w3.heap.size,0,none⟩) 1 1 [x.lower] rfl rfl HO4.out HR4.out (by omega) (by omega) (by have:=HB4.out.size;omega) ?_;intro A' c' w8 hown' hg8 hA8
         have HG8:=Lib.hid hg8
         have HO8:=Lib.hid hown'
         clear hown' hg8 hA8))
     have hB8:Below w1.heap.size w1 w8:=HB4.out.grown HG8.out (by have:=HB4.out.size;omega) (fun k e=>HO4.out.ltB k e)
     have HRD:=Lib.hid (HO8.out.rd (fun _=>rfl) (by decide))
     obtain ⟨bk,off,hAe,hbk,-⟩:=HRD.out.at_ (by decide)
     subst hAe
     refine rv13 _ rfl w.heap.size x.id x.known 1 S0 S1 ⟨#[97,98,111,118,101]⟩ _ w8 _ rfl rfl (fun W hW=>⟨(HCE.out W (hB8.trans (hW.mono hB8.size))).1,(HCE.out W (hB8.trans (hW.mono hB8.size))).2.1,HKE.out W (hB8.trans (hW.mono hB8.size))⟩) (fun W hW=>KI0.out W (HV1.out W (hB8.trans (hW.mono hB8.size)))) (fun W hW=>KI1.out W (HV1.out W (hB8.trans (hW.mono hB8.size)))) z0 z1 (by decide) (fun W=>run_idxw _ _ _ _ _ 1 (by decide) W) ?_
     intro w9 hb9
     have HB9:=Lib.hid hb9
     have HB8:=Lib.hid hB8
     clear hb9 hB8
     rw [HHE.out]
     simp only [setsL,Nat.reduceAdd,List.setIfInBounds_toArray,List.set_cons_succ,List.set_cons_zero]
     go_wp2
     go_loopw [6,63] (fun s6 s63 wr=> ∃ j:Nat,j≤3∧s63 = .int .i64 j∧s6 = .string (bsL (HD++rowT ([x.pit,x.layer,x.lower].take j)))∧Hid (Below w8.heap.size w8 wr)) (fun _ s63 _=>3-(intOf s63).toNat)
     case atStart=>exact ⟨0,by decide,rfl,by rw [List.take_zero];simp [rowT],HB9⟩
     case round=>
      obtain ⟨j,hj,rfl,rfl,hbr⟩:=hrel
      by_cases hlt:j<3
      · have hlt':(j:Int)<3:=(by omega)
        obtain ⟨z,hz⟩:∃ z,[x.pit,x.layer,x.lower][j]? = some z:=⟨[x.pit,x.layer,x.lower][j]'(by simpa using hlt),List.getElem?_eq_getElem _⟩
        have hcell:=HRD.out.int hbr.out hz
        try rw [Nat.zero_add] at hcell
        have hzr:=HZS.out z (List.mem_of_getElem? hz)
        have KZ:=Lib.hid (fun W h=>KI.out z W hzr.1 hzr.2 h)
        have HL:Hid ((bsL (HD++rowT ([x.pit,x.layer,x.lower].take j))).size≤100∧(bsL (Lib.itoa z)).size≤8):=(show _∧_ from ⟨by
         have h1:=rowT_len ([x.pit,x.layer,x.lower].take j) (fun y hy=>HZS.out y (List.mem_of_mem_take hy))
         have h2:([x.pit,x.layer,x.lower].take j).length≤4:=by rw [List.length_take];omega
         show (HD++rowT ([x.pit,x.layer,x.lower].take j)).length≤100
         rw [List.length_append]
         omega,itoa_len hzr.1 hzr.2⟩)
        have HS:Hid (bsL (HD++rowT ([x.pit,x.layer,x.lower].take j))++((⟨#[32]⟩:ByteArray)++bsL (Lib.itoa z))=bsL (HD++rowT ([x.pit,x.layer,x.lower].take (j+1)))):=(show _=_ from by
         rw [show (⟨#[32]⟩:ByteArray)=bsL [32] from rfl,bsL_app,bsL_app,List.take_add_one,hz]
         congr 1
         rw [show (some z).toList = [z] from rfl,rowT_snoc]
         simp)
        have hl1:=HL.out.1
        have hl2:=HL.out.2
        clear hz hzr
        generalize bsL (HD++rowT ([x.pit,x.layer,x.lower].take j))=sk at *
        generalize bsL (Lib.itoa z)=sz at *
        go_wp2_with (go_at_call 19;(with_reducible refine (KZ.out _ (HV1.out _ (HB8.out.trans (hbr.out.mono HB8.out.size)))).mono ?_);rintro e w5 ⟨rfl,hb5⟩;have HB5:=Lib.hid (hbr.out.trans (hb5.mono hbr.out.size));clear hb5)
        go_roundw
        all_goals first
         | (simp [intOf];omega)
         | exact ⟨j+1,by omega,by go_num,by rw [HS.out],HB5⟩
      · obtain rfl:j=3:=by omega
        go_wp2
        go_ret2
        refine ⟨?_,HB1.out.trans ((HB8.out.trans (hbr.out.mono HB8.out.size)).mono HB1.out.size)⟩
        rfl
   · have hzs:∀ z∈([x.pit,x.layer,x.low,x.high]:List Int),-10000≤z∧z≤1000000:=(fun z hz=>r3 z (by unfold tailT;rw [hk];simpa using hz))
     have htl:tailT x = [x.pit,x.layer,x.low,x.high]:=(by unfold tailT;rw [hk];rfl)
     have HHE:=Lib.hid (head_eq (x:=x) (KB:=⟨#[100,97,116,101,100]⟩) rfl rfl (by rw [hk];rfl))
     have HZS:=Lib.hid hzs
     have HKE:Hid (∀ W,Below w1.heap.size w1 W→W.cell? ⟨w.heap.size,2,none⟩=some (.int .u8 2)):=(show ∀ W,_→_ from fun W h=>by rw [←hk];exact (HCE.out W h).2.2.1)
     have HKX:Hid (x.kind=2):=(show _=_ from hk)
     rw [hk] at KC y2
     rw [htl]
     clear hzs htl r1 r2 r3 hok t1 t2 HTX
     generalize bsL (Lib.itoa x.id)=S0 at *
     generalize bsL (Lib.itoa x.known)=S1 at *
     generalize headT x=HD at *
     clear hk
     go_enter Tryz.func5,Tryz.ntmps5
     go_upto_region 13 with (first
      | rw [HW1.out]
      | rw [HA3.out]
      | rw [HA4.out]
      | (go_at_call 18;(with_reducible refine (KC.out _).mono ?_);rintro e w2 ⟨rfl,hb2⟩;have HB2:=Lib.hid hb2
         obtain ⟨w3,a3,l3,s3,e3⟩:=alloc_facts w2 #[.int .i64 x.pit,.int .i64 x.layer] 3
         obtain ⟨w4,a4,l4,s4,e4⟩:=alloc_facts w3 #[.int .i64 x.low,.int .i64 x.high] 3
         have HA3:=Lib.hid a3
         have HA4:=Lib.hid a4
         have HS3:=Lib.hid s3
         have HB3:=Lib.hid (hb2.trans (l3.mono hb2.size))
         have HB4:=Lib.hid ((hb2.trans (l3.mono hb2.size)).trans (l4.mono (hb2.trans (l3.mono hb2.size)).size))
         have HO3:Hid (Own encInt 1 3 w1.heap.size w3 (some ⟨w2.heap.size,0,none⟩) 2 2 [x.pit,x.layer]):=(show Own _ _ _ _ _ _ _ _ _ from by rw [←a3];exact Own.litI _ w2 _ _ 2 rfl rfl hb2.size (by decide))
         have HR4:Hid (Rd encInt 1 w4 (some ⟨w3.heap.size,0,none⟩) 2 2 [x.low,x.high]):=(show Rd _ _ _ _ _ _ _ from by rw [←a4];exact Rd.single (enc:=encInt) (k:=1) w3 _ _ [x.low,x.high] 2 rfl (by decide) (fun _=>rfl) rfl)
         have HO4:Hid (Own encInt 1 3 w1.heap.size w4 (some ⟨w2.heap.size,0,none⟩) 2 2 [x.pit,x.layer]):=(show Own _ _ _ _ _ _ _ _ _ from by rw [←a4];exact HO3.out.alloc _)
         obtain ⟨v0,v1,v2,v3,v4,v5,v6,v7,v8,v9⟩:=HCE.out w2 hb2
         obtain ⟨u0,u1,u2,u3,u4,u5,u6,u7,u8,u9⟩:=HCE.out w3 HB3.out
         rw [HKX.out] at v2 u2
         clear hb2 a3 l3 s3 e3 a4 l4 s4 e4)
      | (at_builtin;refine wpList_append_src elInt (fun _=>rfl) oneInt rfl _ _ rfl (some ⟨w3.heap.size,0,none⟩) 2 2 [x.low,x.high] rfl rfl HO4.out HR4.out (by omega) (by omega) (by have:=HB4.out.size;omega) ?_;intro A' c' w8 hown' hg8 hA8
         have HG8:=Lib.hid hg8
         have HO8:=Lib.hid hown'
         clear hown' hg8 hA8))
     have hB8:Below w1.heap.size w1 w8:=HB4.out.grown HG8.out (by have:=HB4.out.size;omega) (fun k e=>HO4.out.ltB k e)
     have HRD:=Lib.hid (HO8.out.rd (fun _=>rfl) (by decide))
     obtain ⟨bk,off,hAe,hbk,-⟩:=HRD.out.at_ (by decide)
     subst hAe
     refine rv13 _ rfl w.heap.size x.id x.known 2 S0 S1 ⟨#[100,97,116,101,100]⟩ _ w8 _ rfl rfl (fun W hW=>⟨(HCE.out W (hB8.trans (hW.mono hB8.size))).1,(HCE.out W (hB8.trans (hW.mono hB8.size))).2.1,HKE.out W (hB8.trans (hW.mono hB8.size))⟩) (fun W hW=>KI0.out W (HV1.out W (hB8.trans (hW.mono hB8.size)))) (fun W hW=>KI1.out W (HV1.out W (hB8.trans (hW.mono hB8.size)))) z0 z1 (by decide) (fun W=>run_idxw _ _ _ _ _ 2 (by decide) W) ?_
     intro w9 hb9
     have HB9:=Lib.hid hb9
     have HB8:=Lib.hid hB8
     clear hb9 hB8
     rw [HHE.out]
     simp only [setsL,Nat.reduceAdd,List.setIfInBounds_toArray,List.set_cons_succ,List.set_cons_zero]
     go_wp2
     go_loopw [6,63] (fun s6 s63 wr=> ∃ j:Nat,j≤4∧s63 = .int .i64 j∧s6 = .string (bsL (HD++rowT ([x.pit,x.layer,x.low,x.high].take j)))∧Hid (Below w8.heap.size w8 wr)) (fun _ s63 _=>4-(intOf s63).toNat)
     case atStart=>exact ⟨0,by decide,rfl,by rw [List.take_zero];simp [rowT],HB9⟩
     case round=>
      obtain ⟨j,hj,rfl,rfl,hbr⟩:=hrel
      by_cases hlt:j<4
      · have hlt':(j:Int)<4:=(by omega)
        obtain ⟨z,hz⟩:∃ z,[x.pit,x.layer,x.low,x.high][j]? = some z:=⟨[x.pit,x.layer,x.low,x.high][j]'(by simpa using hlt),List.getElem?_eq_getElem _⟩
        have hcell:=HRD.out.int hbr.out hz
        try rw [Nat.zero_add] at hcell
        have hzr:=HZS.out z (List.mem_of_getElem? hz)
        have KZ:=Lib.hid (fun W h=>KI.out z W hzr.1 hzr.2 h)
        have HL:Hid ((bsL (HD++rowT ([x.pit,x.layer,x.low,x.high].take j))).size≤100∧(bsL (Lib.itoa z)).size≤8):=(show _∧_ from ⟨by
         have h1:=rowT_len ([x.pit,x.layer,x.low,x.high].take j) (fun y hy=>HZS.out y (List.mem_of_mem_take hy))
         have h2:([x.pit,x.layer,x.low,x.high].take j).length≤4:=by rw [List.length_take];omega
         show (HD++rowT ([x.pit,x.layer,x.low,x.high].take j)).length≤100
         rw [List.length_append]
         omega,itoa_len hzr.1 hzr.2⟩)
        have HS:Hid (bsL (HD++rowT ([x.pit,x.layer,x.low,x.high].take j))++((⟨#[32]⟩:ByteArray)++bsL (Lib.itoa z))=bsL (HD++rowT ([x.pit,x.layer,x.low,x.high].take (j+1)))):=(show _=_ from by
         rw [show (⟨#[32]⟩:ByteArray)=bsL [32] from rfl,bsL_app,bsL_app,List.take_add_one,hz]
         congr 1
         rw [show (some z).toList = [z] from rfl,rowT_snoc]
         simp)
        have hl1:=HL.out.1
        have hl2:=HL.out.2
        clear hz hzr
        generalize bsL (HD++rowT ([x.pit,x.layer,x.low,x.high].take j))=sk at *
        generalize bsL (Lib.itoa z)=sz at *
        go_wp2_with (go_at_call 19;(with_reducible refine (KZ.out _ (HV1.out _ (HB8.out.trans (hbr.out.mono HB8.out.size)))).mono ?_);rintro e w5 ⟨rfl,hb5⟩;have HB5:=Lib.hid (hbr.out.trans (hb5.mono hbr.out.size));clear hb5)
        go_roundw
        all_goals first
         | (simp [intOf];omega)
         | exact ⟨j+1,by omega,by go_num,by rw [HS.out],HB5⟩
      · obtain rfl:j=4:=by omega
        go_wp2
        go_ret2
        refine ⟨?_,HB1.out.trans ((HB8.out.trans (hbr.out.mono HB8.out.size)).mono HB1.out.size)⟩
        rfl
   · have hzs:∀ z∈([x.pit,x.layer,x.cost]:List Int),-10000≤z∧z≤1000000:=(fun z hz=>r3 z (by unfold tailT;rw [hk];simpa using hz))
     have htl:tailT x = [x.pit,x.layer,x.cost]:=(by unfold tailT;rw [hk];rfl)
     have HHE:=Lib.hid (head_eq (x:=x) (KB:=⟨#[109,111,118,101,100]⟩) rfl rfl (by rw [hk];rfl))
     have HZS:=Lib.hid hzs
     have HKE:Hid (∀ W,Below w1.heap.size w1 W→W.cell? ⟨w.heap.size,2,none⟩=some (.int .u8 3)):=(show ∀ W,_→_ from fun W h=>by rw [←hk];exact (HCE.out W h).2.2.1)
     have HKX:Hid (x.kind=3):=(show _=_ from hk)
     rw [hk] at KC y2
     rw [htl]
     clear hzs htl r1 r2 r3 hok t1 t2 HTX
     generalize bsL (Lib.itoa x.id)=S0 at *
     generalize bsL (Lib.itoa x.known)=S1 at *
     generalize headT x=HD at *
     clear hk
     go_enter Tryz.func5,Tryz.ntmps5
     go_upto_region 13 with (first
      | rw [HW1.out]
      | rw [HA3.out]
      | rw [HA4.out]
      | (go_at_call 18;(with_reducible refine (KC.out _).mono ?_);rintro e w2 ⟨rfl,hb2⟩;have HB2:=Lib.hid hb2
         obtain ⟨w3,a3,l3,s3,e3⟩:=alloc_facts w2 #[.int .i64 x.pit,.int .i64 x.layer] 3
         obtain ⟨w4,a4,l4,s4,e4⟩:=alloc_facts w3 #[.int .i64 x.cost] 3
         have HA3:=Lib.hid a3
         have HA4:=Lib.hid a4
         have HS3:=Lib.hid s3
         have HB3:=Lib.hid (hb2.trans (l3.mono hb2.size))
         have HB4:=Lib.hid ((hb2.trans (l3.mono hb2.size)).trans (l4.mono (hb2.trans (l3.mono hb2.size)).size))
         have HO3:Hid (Own encInt 1 3 w1.heap.size w3 (some ⟨w2.heap.size,0,none⟩) 2 2 [x.pit,x.layer]):=(show Own _ _ _ _ _ _ _ _ _ from by rw [←a3];exact Own.litI _ w2 _ _ 2 rfl rfl hb2.size (by decide))
         have HR4:Hid (Rd encInt 1 w4 (some ⟨w3.heap.size,0,none⟩) 1 1 [x.cost]):=(show Rd _ _ _ _ _ _ _ from by rw [←a4];exact Rd.single (enc:=encInt) (k:=1) w3 _ _ [x.cost] 1 rfl (by decide) (fun _=>rfl) rfl)
         have HO4:Hid (Own encInt 1 3 w1.heap.size w4 (some ⟨w2.heap.size,0,none⟩) 2 2 [x.pit,x.layer]):=(show Own _ _ _ _ _ _ _ _ _ from by rw [←a4];exact HO3.out.alloc _)
         obtain ⟨v0,v1,v2,v3,v4,v5,v6,v7,v8,v9⟩:=HCE.out w2 hb2
         obtain ⟨u0,u1,u2,u3,u4,u5,u6,u7,u8,u9⟩:=HCE.out w3 HB3.out
         rw [HKX.out] at v2 u2
         clear hb2 a3 l3 s3 e3 a4 l4 s4 e4)
      | (at_builtin;refine wpList_append_src elInt (fun _=>rfl) oneInt rfl _ _ rfl (some ⟨w3.heap.size,0,none⟩) 1 1 [x.cost] rfl rfl HO4.out HR4.out (by omega) (by omega) (by have:=HB4.out.size;omega) ?_;intro A' c' w8 hown' hg8 hA8
         have HG8:=Lib.hid hg8
         have HO8:=Lib.hid hown'
         clear hown' hg8 hA8))
     have hB8:Below w1.heap.size w1 w8:=HB4.out.grown HG8.out (by have:=HB4.out.size;omega) (fun k e=>HO4.out.ltB k e)
     have HRD:=Lib.hid (HO8.out.rd (fun _=>rfl) (by decide))
     obtain ⟨bk,off,hAe,hbk,-⟩:=HRD.out.at_ (by decide)
     subst hAe
     refine rv13 _ rfl w.heap.size x.id x.known 3 S0 S1 ⟨#[109,111,118,101,100]⟩ _ w8 _ rfl rfl (fun W hW=>⟨(HCE.out W (hB8.trans (hW.mono hB8.size))).1,(HCE.out W (hB8.trans (hW.mono hB8.size))).2.1,HKE.out W (hB8.trans (hW.mono hB8.size))⟩) (fun W hW=>KI0.out W (HV1.out W (hB8.trans (hW.mono hB8.size)))) (fun W hW=>KI1.out W (HV1.out W (hB8.trans (hW.mono hB8.size)))) z0 z1 (by decide) (fun W=>run_idxw _ _ _ _ _ 3 (by decide) W) ?_
     intro w9 hb9
     have HB9:=Lib.hid hb9
     have HB8:=Lib.hid hB8
     clear hb9 hB8
     rw [HHE.out]
     simp only [setsL,Nat.reduceAdd,List.setIfInBounds_toArray,List.set_cons_succ,List.set_cons_zero]
     go_wp2
     go_loopw [6,63] (fun s6 s63 wr=> ∃ j:Nat,j≤3∧s63 = .int .i64 j∧s6 = .string (bsL (HD++rowT ([x.pit,x.layer,x.cost].take j)))∧Hid (Below w8.heap.size w8 wr)) (fun _ s63 _=>3-(intOf s63).toNat)
     case atStart=>exact ⟨0,by decide,rfl,by rw [List.take_zero];simp [rowT],HB9⟩
     case round=>
      obtain ⟨j,hj,rfl,rfl,hbr⟩:=hrel
      by_cases hlt:j<3
      · have hlt':(j:Int)<3:=(by omega)
        obtain ⟨z,hz⟩:∃ z,[x.pit,x.layer,x.cost][j]? = some z:=⟨[x.pit,x.layer,x.cost][j]'(by simpa using hlt),List.getElem?_eq_getElem _⟩
        have hcell:=HRD.out.int hbr.out hz
        try rw [Nat.zero_add] at hcell
        have hzr:=HZS.out z (List.mem_of_getElem? hz)
        have KZ:=Lib.hid (fun W h=>KI.out z W hzr.1 hzr.2 h)
        have HL:Hid ((bsL (HD++rowT ([x.pit,x.layer,x.cost].take j))).size≤100∧(bsL (Lib.itoa z)).size≤8):=(show _∧_ from ⟨by
         have h1:=rowT_len ([x.pit,x.layer,x.cost].take j) (fun y hy=>HZS.out y (List.mem_of_mem_take hy))
         have h2:([x.pit,x.layer,x.cost].take j).length≤4:=by rw [List.length_take];omega
         show (HD++rowT ([x.pit,x.layer,x.cost].take j)).length≤100
         rw [List.length_append]
         omega,itoa_len hzr.1 hzr.2⟩)
        have HS:Hid (bsL (HD++rowT ([x.pit,x.layer,x.cost].take j))++((⟨#[32]⟩:ByteArray)++bsL (Lib.itoa z))=bsL (HD++rowT ([x.pit,x.layer,x.cost].take (j+1)))):=(show _=_ from by
         rw [show (⟨#[32]⟩:ByteArray)=bsL [32] from rfl,bsL_app,bsL_app,List.take_add_one,hz]
         congr 1
         rw [show (some z).toList = [z] from rfl,rowT_snoc]
         simp)
        have hl1:=HL.out.1
        have hl2:=HL.out.2
        clear hz hzr
        generalize bsL (HD++rowT ([x.pit,x.layer,x.cost].take j))=sk at *
        generalize bsL (Lib.itoa z)=sz at *
        go_wp2_with (go_at_call 19;(with_reducible refine (KZ.out _ (HV1.out _ (HB8.out.trans (hbr.out.mono HB8.out.size)))).mono ?_);rintro e w5 ⟨rfl,hb5⟩;have HB5:=Lib.hid (hbr.out.trans (hb5.mono hbr.out.size));clear hb5)
        go_roundw
        all_goals first
         | (simp [intOf];omega)
         | exact ⟨j+1,by omega,by go_num,by rw [HS.out],HB5⟩
      · obtain rfl:j=3:=by omega
        go_wp2
        go_ret2
        refine ⟨?_,HB1.out.trans ((HB8.out.trans (hbr.out.mono HB8.out.size)).mono HB1.out.size)⟩
        rfl
   · have hzs:∀ z∈([x.void]:List Int),-10000≤z∧z≤1000000:=(fun z hz=>r3 z (by unfold tailT;rw [hk];simpa using hz))
     have htl:tailT x = [x.void]:=(by unfold tailT;rw [hk];rfl)
     have HHE:=Lib.hid (head_eq (x:=x) (KB:=⟨#[118,111,105,100]⟩) rfl rfl (by rw [hk];rfl))
     have HZS:=Lib.hid hzs
     have HKE:Hid (∀ W,Below w1.heap.size w1 W→W.cell? ⟨w.heap.size,2,none⟩=some (.int .u8 4)):=(show ∀ W,_→_ from fun W h=>by rw [←hk];exact (HCE.out W h).2.2.1)
     have HKX:Hid (x.kind=4):=(show _=_ from hk)
     rw [hk] at KC y2
     rw [htl]
     clear hzs htl r1 r2 r3 hok t1 t2 HTX
     generalize bsL (Lib.itoa x.id)=S0 at *
     generalize bsL (Lib.itoa x.known)=S1 at *
     generalize headT x=HD at *
     clear hk
     go_enter Tryz.func5,Tryz.ntmps5
     go_upto_region 13 with (first
      | rw [HW1.out]
      | rw [HA3.out]
      | rw [HA4.out]
      | (go_at_call 18;(with_reducible refine (KC.out _).mono ?_);rintro e w2 ⟨rfl,hb2⟩;have HB2:=Lib.hid hb2
         obtain ⟨w3,a3,l3,s3,e3⟩:=alloc_facts w2 #[.int .i64 x.pit,.int .i64 x.layer] 3
         obtain ⟨w4,a4,l4,s4,e4⟩:=alloc_facts w3 #[.int .i64 x.void] 3
         have HA3:=Lib.hid a3
         have HA4:=Lib.hid a4
         have HS3:=Lib.hid s3
         have HB3:=Lib.hid (hb2.trans (l3.mono hb2.size))
         have HB4:=Lib.hid ((hb2.trans (l3.mono hb2.size)).trans (l4.mono (hb2.trans (l3.mono hb2.size)).size))
         have HO3:Hid (Own encInt 1 3 w1.heap.size w3 (some ⟨w2.heap.size,0,none⟩) 2 2 [x.pit,x.layer]):=(show Own _ _ _ _ _ _ _ _ _ from by rw [←a3];exact Own.litI _ w2 _ _ 2 rfl rfl hb2.size (by decide))
         have HR4:Hid (Rd encInt 1 w4 (some ⟨w3.heap.size,0,none⟩) 1 1 [x.void]):=(show Rd _ _ _ _ _ _ _ from by rw [←a4];exact Rd.single (enc:=encInt) (k:=1) w3 _ _ [x.void] 1 rfl (by decide) (fun _=>rfl) rfl)
         have HO4:Hid (Own encInt 1 3 w1.heap.size w4 (some ⟨w2.heap.size,0,none⟩) 2 2 [x.pit,x.layer]):=(show Own _ _ _ _ _ _ _ _ _ from by rw [←a4];exact HO3.out.alloc _)
         obtain ⟨v0,v1,v2,v3,v4,v5,v6,v7,v8,v9⟩:=HCE.out w2 hb2
         obtain ⟨u0,u1,u2,u3,u4,u5,u6,u7,u8,u9⟩:=HCE.out w3 HB3.out
         rw [HKX.out] at v2 u2
         clear hb2 a3 l3 s3 e3 a4 l4 s4 e4))
     have hB8:Below w1.heap.size w1 w4:=HB4.out
     have HRD:=Lib.hid HR4.out
     refine rv13 _ rfl w.heap.size x.id x.known 4 S0 S1 ⟨#[118,111,105,100]⟩ _ w4 _ rfl rfl (fun W hW=>⟨(HCE.out W (hB8.trans (hW.mono hB8.size))).1,(HCE.out W (hB8.trans (hW.mono hB8.size))).2.1,HKE.out W (hB8.trans (hW.mono hB8.size))⟩) (fun W hW=>KI0.out W (HV1.out W (hB8.trans (hW.mono hB8.size)))) (fun W hW=>KI1.out W (HV1.out W (hB8.trans (hW.mono hB8.size)))) z0 z1 (by decide) (fun W=>run_idxw _ _ _ _ _ 4 (by decide) W) ?_
     intro w9 hb9
     have HB9:=Lib.hid hb9
     have HB8:=Lib.hid hB8
     clear hb9 hB8
     rw [HHE.out]
     simp only [setsL,Nat.reduceAdd,List.setIfInBounds_toArray,List.set_cons_succ,List.set_cons_zero]
     go_wp2
     go_loopw [6,63] (fun s6 s63 wr=> ∃ j:Nat,j≤1∧s63 = .int .i64 j∧s6 = .string (bsL (HD++rowT ([x.void].take j)))∧Hid (Below w4.heap.size w4 wr)) (fun _ s63 _=>1-(intOf s63).toNat)
     case atStart=>exact ⟨0,by decide,rfl,by rw [List.take_zero];simp [rowT],HB9⟩
     case round=>
      obtain ⟨j,hj,rfl,rfl,hbr⟩:=hrel
      by_cases hlt:j<1
      · have hlt':(j:Int)<1:=(by omega)
        obtain ⟨z,hz⟩:∃ z,[x.void][j]? = some z:=⟨[x.void][j]'(by simpa using hlt),List.getElem?_eq_getElem _⟩
        have hcell:=HRD.out.int hbr.out hz
        try rw [Nat.zero_add] at hcell
        have hzr:=HZS.out z (List.mem_of_getElem? hz)
        have KZ:=Lib.hid (fun W h=>KI.out z W hzr.1 hzr.2 h)
        have HL:Hid ((bsL (HD++rowT ([x.void].take j))).size≤100∧(bsL (Lib.itoa z)).size≤8):=(show _∧_ from ⟨by
         have h1:=rowT_len ([x.void].take j) (fun y hy=>HZS.out y (List.mem_of_mem_take hy))
         have h2:([x.void].take j).length≤4:=by rw [List.length_take];omega
         show (HD++rowT ([x.void].take j)).length≤100
         rw [List.length_append]
         omega,itoa_len hzr.1 hzr.2⟩)
        have HS:Hid (bsL (HD++rowT ([x.void].take j))++((⟨#[32]⟩:ByteArray)++bsL (Lib.itoa z))=bsL (HD++rowT ([x.void].take (j+1)))):=(show _=_ from by
         rw [show (⟨#[32]⟩:ByteArray)=bsL [32] from rfl,bsL_app,bsL_app,List.take_add_one,hz]
         congr 1
         rw [show (some z).toList = [z] from rfl,rowT_snoc]
         simp)
        have hl1:=HL.out.1
        have hl2:=HL.out.2
        clear hz hzr
        generalize bsL (HD++rowT ([x.void].take j))=sk at *
        generalize bsL (Lib.itoa z)=sz at *
        go_wp2_with (go_at_call 19;(with_reducible refine (KZ.out _ (HV1.out _ (HB8.out.trans (hbr.out.mono HB8.out.size)))).mono ?_);rintro e w5 ⟨rfl,hb5⟩;have HB5:=Lib.hid (hbr.out.trans (hb5.mono hbr.out.size));clear hb5)
        go_roundw
        all_goals first
         | (simp [intOf];omega)
         | exact ⟨j+1,by omega,by go_num,by rw [HS.out],HB5⟩
      · obtain rfl:j=1:=by omega
        go_wp2
        go_ret2
        refine ⟨?_,HB1.out.trans ((HB8.out.trans (hbr.out.mono HB8.out.size)).mono HB1.out.size)⟩
        rfl
end Go.Proofs.YtejjplhknacoiaaGreatDoor
end
